/- Contract of the reference's draw of an entry's proof: there is a valid one whose first claims are lemmas that the server knows. Conditions: a valid archive, bounds of what has been read. -/
import Derived.Test.YtgbggaddpbghfaaGreatKAR
namespace Go.Proofs.YtgbggaddpbghfaaGreat
open Go Go.KA Go.Proofs
set_option maxHeartbeats 16000000
set_option maxRecDepth 100000
structure DC(t a:Int)(n:Nat)(l:List bw):Prop where
 len:l.length=n+1
 ok:∀i,i<l.length→cI t a (l.getD i c0)=true∧(l.getD i c0).j9=1∧(l.getD i c0).steps.length≤2∧(i<n→(l.getD i c0).steps=[])
structure D0(t a:Int)(l:List bw):Prop where
 ok:∀c∈l,cI t a c=true∧c.j9=1∧c.steps=[]
section
variable{t a:Int}{l:List bw}
theorem D0.add{x y:ae}(h:D0 t a l)(h1:aW t a x=true)(h2:aW t a y=true):D0 t a (l++[⟨x,y,1,0,[]⟩]):=⟨fun c hc=>by
 rcases List.mem_append.1 hc with h3|h3
 ·exact h.ok c h3
 ·obtain rfl:=List.mem_singleton.1 h3
  refine⟨?_,rfl,rfl⟩
  simp only[cI,Bool.and_eq_true,decide_eq_true_eq,List.all_eq_true]
  exact⟨h1,h2,rfl,rfl,by simp,rfl,by simp⟩⟩
theorem D0.last{c:bw}(h:D0 t a l)(h1:cI t a c=true)(h2:c.j9=1)(h3:c.steps.length≤2):DC t a l.length (l++[c]):=by
 refine⟨by simp,fun i hi=> ?_⟩
 by_cases h4:i<l.length
 ·have e:(l++[c]).getD i c0=l.getD i c0:=by
   rw[getD_eq hi,getD_eq h4,List.getElem_append_left h4]
  rw[e,getD_eq h4]
  have h5:=h.ok _ (List.getElem_mem h4)
  exact⟨h5.1,h5.2.1,by rw[h5.2.2];exact Nat.zero_le _,fun _=>h5.2.2⟩
 ·have e:(l++[c]).getD i c0=c:=by
   have h5:i=l.length:=by simp at hi;omega
   subst h5
   simp
  rw[e]
  exact⟨h1,h2,h3,fun h5=>absurd h5 h4⟩
theorem DC.put{n:Nat}{x:ae}{i:Nat}(h:DC t a n l)(hi:i<l.length)(h1:aW t a x=true):DC t a n (l.set i ⟨(l.getD i c0).left,x,(l.getD i c0).j9,(l.getD i c0).ref,(l.getD i c0).steps⟩):=by
 refine⟨by rw[List.length_set];exact h.len,fun j hj=> ?_⟩
 rw[List.length_set] at hj
 by_cases e:i=j
 ·subst e
  have e1:(l.set i (⟨(l.getD i c0).left,x,(l.getD i c0).j9,(l.getD i c0).ref,(l.getD i c0).steps⟩:bw)).getD i c0=⟨(l.getD i c0).left,x,(l.getD i c0).j9,(l.getD i c0).ref,(l.getD i c0).steps⟩:=by
   rw[getD_eq (by rw[List.length_set];exact hi),List.getElem_set_self]
  rw[e1]
  obtain⟨h2,h3,h4,h5⟩:=h.ok i hi
  refine⟨?_,h3,h4,h5⟩
  simp only[cI,Bool.and_eq_true] at h2⊢
  exact⟨h2.1,h1,h2.2.2⟩
 ·have e1:(l.set i (⟨(l.getD i c0).left,x,(l.getD i c0).j9,(l.getD i c0).ref,(l.getD i c0).steps⟩:bw)).getD j c0=l.getD j c0:=by
   rw[getD_eq (by rw[List.length_set];exact hj),getD_eq hj,List.getElem_set_ne e]
  rw[e1]
  exact h.ok j hj
theorem D0.mem(h:D0 t a l):∀c∈l,aW t a c.left=true∧aW t a c.right=true:=fun c hc=>by
 have:=jZ (h.ok c hc).1
 exact⟨this.1,this.2.1⟩
end
structure DR(notes:List aS)(r:List Int):Prop where
 nd:r.Nodup
 kn:∀x∈r,0≤bK notes false x
theorem DR.add{notes:List aS}{r:List Int}{x:Int}(h:DR notes r)(h1:x∉r)(h2:0≤bK notes false x):DR notes (r++[x]):=
 ⟨by
  rw[List.nodup_append]
  exact⟨h.nd,by simp,fun y hy z hz=>by
   obtain rfl:=List.mem_singleton.1 hz
   intro e
   subst e
   exact h1 hy⟩,fun y hy=>by
  rcases List.mem_append.1 hy with h3|h3
  ·exact h.kn y h3
  ·obtain rfl:=List.mem_singleton.1 h3
   exact h2⟩
theorem L5(l:List bw)(x y:ae):db (l.map aH++[[J x.kind,J x.num, .own 66 3 (x.kids.map az),J y.kind,J y.num, .own 66 3 (y.kids.map az),J 1,J 0, .ows 156 5 []]])=(l++[(⟨x,y,1,0,[]⟩:bw)]).map aH:=by
 have e:∀l m:List (List CV),db (l++m)=db l++db m:=fun l m=>by
  induction l with
  |nil=>rfl
  |cons c l ih=>simp only[List.cons_append,db,ih]
 rw[e,s7,List.map_append]
 refine congrArg (l.map aH++ ·) ?_
 simp only[db,mZ,kM,ch eK]
 rfl
theorem DD(o:Option Value)(l:List bw)(c:bw):gE (.aG o 104 9 (l.map aH++[aH c])) (.row o 104 9 ((l++[c]).map aH)):=by
 have h:=gE.row (o:=o) (ty:=104) (sz:=9) (rows:=(l++[c]).map aH)
 rw[s7] at h
 rwa[show(l++[c]).map aH=l.map aH++[aH c] from List.map_append] at h⊢
section
variable{t a:Int}(hs:bT t a=true)(hg:0≤t∧t≤3∧0≤a∧a≤4){srv:List aT}{fl:List cJ}{sv wr:Int}{notes:List aS}{ids:List Int}
 {up:Bool}{sav:Int}(h0:0≤sv)(h1:sv<(srv.length:Nat))(hix:(srv.map dt)[sv.toNat]? =some [.val (.bool up), .ro 7 (notes.map bj),J sav])(hn9:notes.length≤20)
 (hw:0≤wr∧wr≤100)
 (hids:ids.length≤100)(hkn:∀x∈ids,0≤bK notes false x∧bK notes false x<(notes.length:Nat))
 (ci:ai Tryz.prog 58 [.c (.ro 7 (notes.map bj)),B false] [] (.c (.ows 2 1 (ids.map eI))))
 (hlm:∀x∈ids,aE Tryz.prog 136 [.c (.rp 5 (ki (notes.getD (bK notes false x).toNat n0).entry))] (.a 6 (aV (nI (notes.getD (bK notes false x).toNat n0).entry))))
 (hle:∀x∈ids,aW t a (nI (notes.getD (bK notes false x).toNat n0).entry).left=true∧aW t a (nI (notes.getD (bK notes false x).toNat n0).entry).right=true)
include hs hg h0 h1 hix hn9 hw hids hkn ci hlm hle
theorem w1{s:Src}{N:Int}(hS':iK s N)(hN:N≤300000000):
 fU Tryz.prog 109 [.c (.op (da s)), .c (.op (aJ ⟨⟨t,a⟩,srv,fl⟩)),I sv,I wr]
  (fun x:List Int × List bw × Src=>DR notes x.1∧x.1.length≤2∧DC t a x.1.length x.2.1∧iK x.2.2 (N+400000))
  (fun x=>[some [.op (da x.2.2)],some [.op (aJ ⟨⟨t,a⟩,srv,fl⟩)],none,none]) (fun x=> .tup [.c (.ows 2 1 (x.1.map eI)), .a 3 [J t,J a, .ows 104 9 (x.2.1.map aH)]]):=by
 have _:=h1
 have _:=hn9
 have hmm:∀v:Int,0≤v→v<(ids.length:Nat)→ids.getD v.toNat 0∈ids:=fun v h2 h3=>by
  rw[getD_eq (by omega)]
  exact List.getElem_mem _
 have hoL:∀x∈ids,ai Tryz.prog 137 [.c (.rp 6 (aV (nI (notes.getD (bK notes false x).toNat n0).entry)))] [] (.a 3 (bQ (nI (notes.getD (bK notes false x).toNat n0).entry).left)):=fun x hx=>by
  have h:=er (nI (notes.getD (bK notes false x).toNat n0).entry).left (by have:=dx (hle x hx).1;omega)
  rw[a9] at h
  exact h.cut (.cut (sz:=6) (k:=3) (cs:=aV (nI (notes.getD (bK notes false x).toNat n0).entry)) (by decide) .nil)
 have hoR:∀x∈ids,ai Tryz.prog 137 [.c (.rp 3 ((aV (nI (notes.getD (bK notes false x).toNat n0).entry)).drop 3))] [] (.a 3 (bQ (nI (notes.getD (bK notes false x).toNat n0).entry).right)):=fun x hx=>by
  have h:=er (nI (notes.getD (bK notes false x).toNat n0).entry).right (by have:=dx (hle x hx).2;omega)
  rw[a9] at h
  exact h
 refine Ow Tryz.func109 (fun reg_=>match reg_ with|7=>true|13=>true|14=>true|_=>false) (h:= ?_)
 repeat'((conv=>whnf);first
  |(guard_target=aa _ 53 _ _ _ _;(have _:=k);(have hil:(ids.map eI).length=ids.length:=List.length_map _);refine yg hS' (by omega) (by unfold jE;omega) rfl rfl rfl (fun v s' hS' hv0 hv1=> ?_);rw[hil] at hv1;(have hq0:=hmm v hv0 (hv1 (by omega)));(have hq1:=hkn _ hq0);(have hq2:=hle _ hq0))|(guard_target=Gh _ _ _ _ _;(have h7:=‹k>0›);(have h8:=‹qX r (ids.getD v.toNat 0)=true›);(fail_if_success (have _:=hg7));(have hg7:=h7);refine Gh.soft 5 gE.row (Gh.go ?_))|(guard_target=Gh _ _ _ _ _;(have h7:=‹k>0›);(have h8:=‹qX r (ids.getD v.toNat 0)=false›);(fail_if_success (have _:=hg7));(have hg7:=h7);refine Gh.go ?_)|(guard_target=Gh _ _ _ _ _;(have h7:=‹k>0›);(have h8:=‹qX r (ids.getD v.toNat 0)=false›);refine Gh.go ⟨((s',r,cl,k-1):Src × List Int × List bw × Int),(by exact⟨⟨by show 0≤k-1;omega,by show k-1≤2;omega,hS'.mono (by show _≤N+10+10*(2-(k-1));omega)⟩,⟨ha.2.1.1,by show(r.length:Int)+(k-1)≤2;omega⟩,ha.2.2.1,ha.2.2.2⟩),(by show(k-1).toNat<k.toNat;omega),(by(repeat'((conv=>whnf)<;>(first|exact trivial|refine⟨?_, ?_⟩|kernel_rfl)));done),(by(repeat'((conv=>whnf)<;>(first|exact trivial|refine⟨?_, ?_⟩|kernel_rfl)));done),(by(repeat'((conv=>whnf)<;>(first|exact trivial|refine⟨?_, ?_⟩|kernel_rfl)));done)⟩)|(guard_target=Gh _ _ _ _ _;(have h7:=‹k>0›);(have h8:=‹qX r (ids.getD v.toNat 0)=true›);refine Gh.go ⟨((s',r++[ids.getD v.toNat 0],cl++[⟨(nI (notes.getD (bK notes false (ids.getD v.toNat 0)).toNat n0).entry).left,(nI (notes.getD (bK notes false (ids.getD v.toNat 0)).toNat n0).entry).right,1,0,[]⟩],k-1):Src × List Int × List bw × Int),(by exact⟨⟨by show 0≤k-1;omega,by show k-1≤2;omega,hS'.mono (by show _≤N+10+10*(2-(k-1));omega)⟩,⟨by show(r++[_]).length=(cl++[_]).length;simp only[List.length_append,List.length_cons,List.length_nil];omega,by show((r++[_]).length:Int)+(k-1)≤2;simp only[List.length_append,List.length_cons,List.length_nil];omega⟩,ha.2.2.1.add (HA.1 h8) hq1.1,ha.2.2.2.add hq2.1 hq2.2⟩),(by show(k-1).toNat<k.toNat;omega),(by(repeat'((conv=>whnf)<;>(first|exact trivial|refine⟨?_, ?_⟩|kernel_rfl)));done),(by(repeat'((conv=>whnf)<;>(first|exact trivial|refine⟨?_, ?_⟩|kernel_rfl)));done),(by(repeat'((conv=>whnf)<;>(first|exact trivial|refine⟨?_, ?_⟩|exact congrArg (dD.row none 104 9) (L5 cl _ _)|exact congrArg (dD.row none 2 1) (List.map_append (f:=eI) (l₁:=r) (l₂:=[_])).symm|exact rfl|(simp only[List.map_append,List.map_cons,List.map_nil];first|done|rfl)|(trace_state;fail))));done)⟩)|(guard_target=Gh _ _ _ _ _;(fail_if_success (have _:=u));refine Gh.soft 5 gE.up (Gh.yr 5 rfl fun u=>Gh.go ?_))|(guard_target=Gh _ _ _ _ _;(have _:=u);(fail_if_success (have _:=hz9));(have hz9:=hc1);(have hD9:DC t a r.length (cl++[cF]):=ha.2.1.1▸ha.2.2.2.last hc1 hc2 hc3);(have hl9:(cl++[cF]).length=cl.length+1:=by simp);(have hm9:((cl++[cF]).map aH).length=(cl++[cF]).length:=List.length_map _);refine Gh.soft 5 (DD _ cl cF) (Gh.go ?_))|(guard_target=aa _ 53 _ _ _ _;(have _:=hz9);refine yg hS' (by omega) (by unfold jE;omega) rfl rfl rfl (fun w s9 hS' hw0 hw1=> ?_);rw[hm9] at hw1;(have hw2:=hw1 (by omega));(have hE9:=hS'.expr ⟨t,a⟩ 6 false 3);(have hC9:=v9);(have hP9:=hD9.put (i:=w.toNat) (by omega) (lN t a false ⟨s9,3⟩)))|(guard_target=Gh _ _ _ _ _;(have _:=hP9);refine Gh.go ⟨((r,(cl++[cF]).set w.toNat ⟨((cl++[cF]).getD w.toNat c0).left,(bx ⟨t,a⟩ 6 false ⟨s9,3⟩).1,((cl++[cF]).getD w.toNat c0).j9,((cl++[cF]).getD w.toNat c0).ref,((cl++[cF]).getD w.toNat c0).steps⟩,(bx ⟨t,a⟩ 6 false ⟨s9,3⟩).2.s):List Int × List bw × Src),(by exact⟨ha.2.2.1,by show r.length≤2;omega,hP9,hE9.mono (by omega)⟩), ?_⟩)|(guard_target=Gh _ _ _ _ _;(have _:=hz9);(have _:=‹¬wr>0›);refine Gh.go ⟨((r,cl++[cF],sF):List Int × List bw × Src),(by exact⟨ha.2.2.1,by show r.length≤2;omega,hD9,hS'.mono (by omega)⟩), ?_⟩)|(guard_target=Gh _ _ _ _ _;(have _:=hz9);(have _:=‹wr>0›);(fail_if_success (have _:=w));refine Gh.go ⟨((r,cl++[cF],s'):List Int × List bw × Src),(by exact⟨ha.2.2.1,by show r.length≤2;omega,hD9,hS'.mono (by omega)⟩), ?_⟩)|(guard_target=aa _ 138 _ _ _ _;(obtain⟨cF,sF,hc1,hc2,hc3,hc4,hF⟩:=Dh hs hg hS' (by omega) u cl ha.2.2.2.mem (by omega));(have hS':=hc4);refine aa.gJ [true,true] _ _ _ rfl hF rfl rfl _ 0 7 5 _ u _ _ _ _ _ _ rfl rfl rfl rfl rfl rfl ?_)
  |refine ah.mk ?_ ?_|(guard_target=~ aP 6 _ _ _ _ _ _;refine tJ (Src × List Int × List bw × Int) [0,1,3,9,10,12,13] (fun⟨s1,r,cl,k⟩=>[(11, .lw 8),(14,I k)]) (fun⟨s1,r,cl,k⟩=>[(0, .cc 3 (da s1)),(5, .row none 104 9 (cl.map aH)),(7, .cells [.c (J t), .c (J a), .lw 5]),(8, .row none 2 1 (r.map eI))]) (fun⟨s1,r,cl,k⟩=>(0≤k∧k≤2∧iK s1 (N+10+10*(2-k)))∧(r.length=cl.length∧(r.length:Int)+k≤2)∧DR notes r∧D0 t a cl) (fun⟨s1,r,cl,k⟩=>k.toNat) (s',[],[],v) (by exact⟨⟨by show 0≤v;omega,by show v≤2;omega,hS'.mono (by show _≤N+10+10*(2-v);omega)⟩,⟨rfl,by show(0:Int)+v≤2;omega⟩,⟨by simp,by simp⟩,⟨by simp⟩⟩) (fun A ha=> ?_);obtain⟨s1,r,cl,k⟩:=A;have ha:(0≤k∧k≤2∧iK s1 (N+10+10*(2-k)))∧(r.length=cl.length∧(r.length:Int)+k≤2)∧DR notes r∧D0 t a cl:=ha;have hS':=ha.1.2.2)
  |(apply Fact.mk;intro hL;try simp only[List.length_map,maxLen] at hL)
  |((first|apply bA|apply bB|apply bC|apply bD|apply bE|apply bF)<;>intro h<;>(try simp only[List.length_map] at h)<;>(try omega)<;>(try contradiction))|(guard_target=aa _ 58 _ _ _ _;refine cG [] rfl (ci) ?_)|(guard_target=aa _ 135 _ _ _ _;refine cP rfl (HC r (ids.getD v.toNat 0)) ?_)|(guard_target=aa _ 60 _ _ _ _;refine cP rfl (gR _ false (ids.getD v.toNat 0)) ?_)|(guard_target=aa _ 136 _ _ _ _;refine cP rfl (hlm _ hq0) ?_)|(guard_target=aa _ 53 _ _ _ _;refine yg hS' (by omega) (by unfold jE;omega) rfl rfl rfl (fun v s' hS' hv0 hv1=> ?_))|(guard_target=aa _ 76 _ _ _ _;refine OR hS' (by omega) (by unfold jE;omega) rfl rfl rfl (fun v s' hS'=> ?_))|(guard_target=aa _ 137 _ _ _ _;(first|refine aa.own _ _ rfl (hoL _ hq0) (gY _) _ rfl ?_|refine aa.own _ _ rfl (hoR _ hq0) (gY _) _ rfl ?_))|(guard_target=aa _ 139 _ _ _ _;refine aa.gen [true,false,false] _ _ _ rfl (Dq ⟨t,a⟩ hg _ (hS'.rd.mono (by omega)) hS'.len 3 (by decide)) rfl rfl _ rfl ?_)
  |refine aR ?_|(guard_target=Index _ _ _;first|refine Index.mk _ (hix) ?_|refine Index.mk _ (aF (l:=ids) (d:=0) (i:=v.toNat) (by omega)) ?_|refine Index.mk _ (aF (l:=notes) (d:=n0) (i:=(bK notes false (ids.getD v.toNat 0)).toNat) (by omega)) ?_|refine Index.mk _ (aF (l:=cl++[cF]) (d:=c0) (i:=w.toNat) (by omega)) ?_)
  |refine iX (k:= ?_)
  |refine nB ?_
  |apply ay.no
  |apply cj.go|(guard_target=aQ _ _;refine aQ.mk (by first|((simp only[List.length_map,List.length_cons,List.length_nil,List.length_append,maxLen];first|omega|(constructor<;>omega)))|fail) ?_)
  |refine nO ?_)
 all_goals first|rfl|exact⟨rfl,trivial⟩|exact⟨rfl,rfl,trivial⟩|trivial|(simp only[List.map_set];rfl)
end
end Go.Proofs.YtgbggaddpbghfaaGreat
namespace Go.Proofs.YtgbggaddpbghfaaGreat
open Go Go.KA Go.Proofs
set_option maxHeartbeats 16000000
set_option maxRecDepth 100000
noncomputable def p9(b:Bool):Nat→Src→List Bool→List Bool × Src
 |0,s,o=>(o,s)
 |i+1,s,o=>p9 b i (ar s 5) (o.set (bP s 5).toNat (!b))
theorem zr(b:Bool):∀(i:Nat) (s:Src) (o:List Bool),(p9 b i s o).1.length=o.length
 |0,_,_=>rfl
 |i+1,s,o=>by rw[p9,zr b i,List.length_set]
theorem CS(b:Bool){N:Int}:∀(i:Nat) {s:Src} (o:List Bool),iK s N→iK (p9 b i s o).2 (N+2*i)
 |0,_,_,h=>h.mono (by omega)
 |i+1,s,o,h=>by
  rw[p9]
  exact((CS b (N:=N+2) i _ (h.pick 5))).mono (by omega)
noncomputable def nU(s:Src)(b:Bool)(f:Int):List Bool × Src:=p9 b (bP s (f+1)).toNat (ar s (f+1)) (List.replicate 5 b)
theorem ET(s:Src)(b:Bool)(f:Int):(nU s b f).1.length=5:=by
 unfold nU
 rw[zr]
 rfl
theorem HT{s:Src}{N:Int}(h:iK s N)(b:Bool){f:Int}(hf:0≤f∧f≤5):iK (nU s b f).2 (N+20):=by
 have h1:=cH s (n:=f+1) (by omega)
 exact(CS b _ _ (h.pick (f+1))).mono (by omega)
theorem vo{s:Src}{N:Int}(hS:iK s N)(hN:N≤500000000)(b:Bool){f:Int}(hf:0≤f∧f≤5):
 ai Tryz.prog 111 [.c (.op (da s)),B b,I f] [some [.op (da (nU s b f).2)],none,none] (.c (.ows 4 1 ((nU s b f).1.map eB))):=by
 have cp:=c7 s (hS.rd.mono (by omega)) hS.len (f+1) (by unfold jE;omega)
 have bp:=cH s (n:=f+1) (by omega)
 have hS1:=hS.pick (f+1)
 obtain⟨R,hR⟩:∃R,nU s b f=R:=⟨_,rfl⟩
 rw[hR]
 unfold nU at hR
 generalize bP s (f+1)=m at cp bp hR
 generalize ar s (f+1)=s1 at cp hS1 hR
 obtain⟨k,rfl⟩:∃k:Nat,m=(k:Int):=⟨m.toNat,by omega⟩
 rw[Int.toNat_natCast] at hR
 refine cX Tryz.func111 (h:= ?_)
 repeat'((conv=>whnf);first
  |(guard_target=aa _ 53 _ _ _ _;(have _:=hT);(obtain⟨j,rfl⟩:∃j,i=j+1:=⟨i-1,by omega⟩);(have c5:=c7 s2 (hS2.rd.mono (by omega)) hS2.len 5 (by unfold jE;omega));(have b5:=cH s2 (n:=5) (by omega));(have hS5:=hS2.pick 5);rw[p9] at hT;generalize bP s2 5=w at c5 b5 hT;generalize ar s2 5=s5 at c5 hS5 hT;refine aa.gen [true,false] _ _ _ rfl c5 rfl rfl _ rfl ?_)|(guard_target=ah _ _;(have h9:=‹¬z>0›);(obtain rfl:i=0:=by omega);(obtain rfl:(o,s2)=R:=hT);exact ah.mk rfl ⟨rfl,trivial⟩)
  |refine ah.mk ?_ ?_|(guard_target=~ aP 3 _ _ _ _ _ _;refine tJ (Nat × List Bool) [0,1,2] (fun⟨i,o1⟩=>[(7, .lw 2),(8,I (i:Nat))]) (fun⟨i,o1⟩=>[(2, .row none 4 1 (o1.map eB))]) (fun⟨i,o1⟩=>i≤5∧o1=List.replicate i b) (fun⟨i,o1⟩=>5-i) (0,[]) (by exact⟨Nat.zero_le _,rfl⟩) (fun A ha=> ?_);obtain⟨i,o1⟩:=A;have ha:i≤5∧o1=List.replicate i b:=ha;(obtain⟨hi1,hr1⟩:=ha);(have hrl:(o1.map eB).length≤5:=by rw[hr1,List.length_map,List.length_replicate];exact hi1);(have hrl2:o1.length≤5:=by rw[hr1,List.length_replicate];exact hi1))|(guard_target=~ aP 7 _ _ _ _ _ _;refine tJ (Int × Nat × Src × List Bool) [0,1,7] (fun⟨z,i,s2,o⟩=>[(9,I z)]) (fun⟨z,i,s2,o⟩=>[(0, .cc 3 (da s2)),(2, .row none 4 1 (o.map eB))]) (fun⟨z,i,s2,o⟩=>z=(i:Nat)∧i≤k∧o.length=5∧p9 b i s2 o=R∧iK s2 (N+2+2*((k:Int)-i))) (fun⟨z,i,s2,o⟩=>i) ((k:Int),k,s1,o1) (by exact⟨rfl,Nat.le_refl _,by(have h5:i=5:=by omega);rw[hr1,h5];rfl,by(have h5:i=5:=by omega);show p9 b k s1 o1=R;rw[hr1,h5];exact hR,hS1.mono (by show _≤N+2+2*((k:Int)-(k:Int));omega)⟩) (fun A ha=> ?_);obtain⟨z,i,s2,o⟩:=A;have ha:z=(i:Nat)∧i≤k∧o.length=5∧p9 b i s2 o=R∧iK s2 (N+2+2*((k:Int)-i)):=ha;(obtain⟨hz,hi,ho,hT,hS2⟩:=ha);(have hml:(o.map eB).length=o.length:=List.length_map _))
  |refine nx ((i+1,o1++[b]):Nat × List Bool) (by exact⟨by show i+1≤5;omega,by show o1++[b]=_;rw[hr1,List.replicate_succ']⟩)
  |refine nx ((z-1,j,s5,o.set w.toNat (!b)):Int × Nat × Src × List Bool) (by exact⟨by show z-1=_;omega,by show j≤k;omega,by show(o.set _ _).length=5;rw[List.length_set];exact ho,hT,hS5.mono (by show _≤N+2+2*((k:Int)-(j:Int));omega)⟩)
  |(apply Fact.mk;intro hL;try simp only[List.length_map,maxLen] at hL)
  |((first|apply bA|apply bB|apply bC|apply bD|apply bE|apply bF)<;>intro h<;>(try simp only[List.length_map] at h)<;>(try omega)<;>(try contradiction))|(guard_target=aa _ 53 _ _ _ _;refine cG [true,false] rfl (cp) ?_)
  |refine aR ?_
  |refine iX (k:= ?_)
  |apply ay.no|(guard_target=aQ _ _;refine aQ.mk (by first|((simp only[List.length_map,List.length_cons,List.length_nil,List.length_append,maxLen];first|omega|(constructor<;>omega)))|fail) ?_)
  |refine nO ?_)
 all_goals first|rfl|exact⟨rfl,trivial⟩|exact⟨rfl,rfl,trivial⟩|trivial
end Go.Proofs.YtgbggaddpbghfaaGreat
namespace Go.Proofs.YtgbggaddpbghfaaGreat
open Go Go.KA Go.Proofs
set_option maxHeartbeats 16000000
set_option maxRecDepth 100000
theorem I2{α:Type}{p:α→Bool}{l:List α}(h:0≤nu p l):∃hi:(nu p l).toNat<l.length,p (l[(nu p l).toNat]'hi)=true:=by
 rcases Am p l with⟨h1,_⟩|⟨i,hi,h1,h2,h3⟩
 ·omega
 ·rw[h1]
  exact⟨by simpa using hi,by simpa using h2⟩
theorem P6(x y:bX):eqv x y=(eqv x.left y.left&&eqv x.right y.right):=by
 cases x;cases y
 refine Bool.eq_iff_iff.2 ?_
 simp
theorem qP(x y:bX):aE Tryz.prog 141 [.c (.rp 6 (aV x)), .c (.rp 6 (aV y))] (B (eqv x y)):=by
 rw[P6]
 refine cF Tryz.func141 (h:= ?_)
 repeat'((conv=>whnf);first
  |(apply bo.mk;first|(rfl;done)|(simp_all[aN,aM];done)|(simp_all[aN,aM];omega;done)|(simp_all[aN,aM];intros;omega;done)|(simp_all[-List.all_eq_true, -List.all_eq_false,aN,aM];done)|(simp_all[-List.all_eq_true, -List.all_eq_false,aN,aM];omega;done)|skip)
  |((first|apply bA|apply bB|apply bC|apply bD|apply bE|apply bF)<;>intro h<;>(try simp only[List.length_map] at h)<;>(try omega)<;>(try contradiction))|(guard_target=aa _ 51 _ _ _ _;refine cP rfl (mq _ _ _ _ 6 (by decide)) ?_)|(guard_target=aa _ 51 _ _ _ _;refine cP rfl (mq _ _ [] [] 3 (by decide)) ?_)
  |refine nB ?_
  |apply cj.go
  |refine nO ?_)
theorem oA{α:Type}{f:α→Nat}{n:Nat}:∀{l:List α},(∀x∈l,f x≤n)→c8 f l≤n*l.length
 |[],_=>Nat.zero_le _
 |x::xs,h=>by
  have h1:=h x (by simp)
  have h2:=oA (f:=f) (n:=n) (l:=xs) fun y hy=>h y (by simp[hy])
  simp only[c8,List.length_cons,Nat.mul_succ]
  omega
theorem K2{t a:Int}{s:aB}(h:b9 t a s=true):bO s≤1500:=by
 have h2:=jl h
 simp only[b9,Bool.and_eq_true,decide_eq_true_eq] at h
 have h3:=oA (f:=ao) (n:=200) (l:=s.au) fun x hx=>dx (h2.1 x hx)
 have h4:=oA (f:=ao) (n:=200) (l:=s.c9) fun x hx=>dx (h2.2 x hx)
 unfold bO fm
 omega
theorem za{t a:Int}{c:bw}{n:Nat}(h:cI t a c=true)(hn:c.steps.length≤n)(h2:n≤2):bY c≤400+1501*n:=by
 have hc:=jZ h
 have h1:=dx hc.1
 have h3:=dx hc.2.1
 have h4:=oA (f:=bO) (n:=1500) (l:=c.steps) fun x hx=>K2 (hc.2.2.2 x hx)
 unfold bY fm
 omega
theorem IW{t a:Int}{n:Nat}{l:List bw}(h:DC t a n l)(hn:n≤2):cC ⟨⟨t,a⟩,l⟩≤5000:=by
 have hl:=h.len
 have h1:c8 bY (l.take n)≤400*(l.take n).length:=oA fun x hx=>by
  obtain⟨i,hi,rfl⟩:=List.mem_iff_getElem.1 hx
  rw[List.length_take] at hi
  have h2:=h.ok i (by omega)
  rw[getD_eq (by omega)] at h2
  rw[List.getElem_take]
  have:=za (n:=0) h2.1 (by rw[h2.2.2.2 (by omega)];exact Nat.le_refl _) (by omega)
  omega
 have h2:=h.ok n (by omega)
 have h3:c8 bY l=c8 bY (l.take n)+bY (l.getD n c0):=by
  have h4:=ud (f:=bY) (l:=l) (i:=n) (x:=l.getD n c0) (by rw[getD_eq (by omega)];exact List.getElem?_eq_getElem _)
  rwa[List.take_of_length_le (by omega)] at h4
 have h4:=za (n:=2) h2.1 h2.2.2.1 (by omega)
 rw[List.length_take] at h1
 unfold cC fm D5
 show 0+(l.length+c8 bY l)≤5000
 omega
theorem I9{t a:Int}{n:Nat}{l:List bw}(h:DC t a n l):∀c∈l,cI t a c=true∧c.j9=1:=fun c hc=>by
 obtain⟨i,hi,rfl⟩:=List.mem_iff_getElem.1 hc
 have:=h.ok i hi
 rw[getD_eq hi] at this
 exact⟨this.1,this.2.1⟩
theorem E5{t a:Int}(hs:bT t a=true){notes:List aS}(hg:dW t a notes=true){r:List Int}{l:List bw}(hr:DR notes r)(h2:r.length≤2)(hd:DC t a r.length l):cU t a r ⟨⟨t,a⟩,l⟩=true:=by
 have hl:=hd.len
 have hb:=IW hd h2
 have hp:=Be ⟨⟨t,a⟩,l⟩
 have hm:=I9 hd
 have hgp:cD ⟨⟨t,a⟩,l⟩=true:=by
  simp only[cD,Bool.and_eq_true,decide_eq_true_eq,List.all_eq_true]
  exact⟨hs,by omega,fun c hc=>(hm c hc).1⟩
 have ha:r.all (dH 0 99)=true:=List.all_eq_true.2 fun x hx=>by
  have:=y7 hg false x (vu.2 (hr.kn x hx))
  exact eQ this.1 this.2
 simp only[cU,Bool.and_eq_true,decide_eq_true_eq,beq_self_eq_true,true_and]
 exact⟨by omega,hr.nd,ha,hgp,by omega,by omega⟩
theorem rq{t a:Int}{notes:List aS}(hg:dW t a notes=true){x:Int}(hx:0≤bK notes false x):bI t a (notes.getD (bK notes false x).toNat n0)=true∧(notes.getD (bK notes false x).toNat n0).bZ=false∧bK notes false x<(notes.length:Nat):=by
 obtain⟨hi,hp⟩:=I2 (p:=fe false x) (l:=notes) hx
 have h1:=Ld hg hi
 unfold bK at hx⊢
 rw[getD_eq hi]
 simp only[fe,Bool.and_eq_true,beq_iff_eq] at hp
 exact⟨h1.1,hp.1,by omega⟩
theorem wc{t a:Int}{n:aS}(h:bI t a n=true)(hr:n.bZ=false):0<n.entry.proof.aj.length∧n.entry.proof.aj.length≤40∧aW t a (nI n.entry).left=true∧aW t a (nI n.entry).right=true:=by
 have h1:=(N6 h).aj hr
 refine⟨h1.1,h1.2, ?_⟩
 unfold bI at h
 rw[hr] at h
 simp only[Bool.false_eq_true,if_false,Bool.and_eq_true,cU,beq_iff_eq] at h
 obtain⟨_,_,_,_,_,h4,⟨e1,e2⟩,_⟩:=h
 simp only[cD,Bool.and_eq_true,List.all_eq_true] at h4
 have hm:wZ n.entry∈n.entry.proof.aj:=by
  unfold wZ
  rw[getD_eq (by omega)]
  exact List.getElem_mem _
 have h5:=jZ (h4.2.2 _ hm)
 rw[e1,e2] at h5
 exact⟨h5.1,h5.2.1⟩
section
variable{A:ag}(hG:GB A)
include hG
theorem GB.PS:0≤A.sig.au∧A.sig.au≤3∧0≤A.sig.aq∧A.sig.aq≤4:=by
 have h:=hG.sig
 simp only[bT,dH,Bool.and_eq_true,decide_eq_true_eq] at h
 omega
theorem vg{s:Src}{N:Int}(hS:iK s N)(hN:N≤300000000){sv wr:Int}(hp:b8 A sv=true)(hw:0≤wr∧wr≤100):
 fU Tryz.prog 109 [.c (.op (da s)), .c (.op (aJ A)),I sv,I wr]
  (fun x:List Int × List bw × Src=>DR (sA A sv).notes x.1∧x.1.length≤2∧DC A.sig.au A.sig.aq x.1.length x.2.1∧iK x.2.2 (N+400000))
  (fun x=>[some [.op (da x.2.2)],some [.op (aJ A)],none,none]) (fun x=> .tup [.c (.ows 2 1 (x.1.map eI)), .a 3 [J A.sig.au,J A.sig.aq, .ows 104 9 (x.2.1.map aH)]]):=by
 have hl:=Bz hp
 have hsv:=hG.srv _ (iO hp)
 have hn:=hsv.ny
 have hm:∀x∈(oO 100 fun i=>decide (0≤bK (sA A sv).notes false i)),0≤bK (sA A sv).notes false x:=fun x hx=>by
  unfold oO at hx
  obtain⟨i,hi,rfl⟩:=List.mem_map.1 hx
  exact of_decide_eq_true (List.mem_filter.1 hi).2
 exact w1 (t:=A.sig.au) (a:=A.sig.aq) (srv:=A.ab) (fl:=A.aw) (notes:=(sA A sv).notes) (up:=(sA A sv).up) (sav:=(sA A sv).saved) hG.sig hG.PS hl.1 (by omega) (aF (d:=cO) (by omega)) hsv.Fz hw (wM 100 _) (fun x hx=>⟨hm x hx,(rq hn (hm x hx)).2.2⟩) (yJ _ _)
  (fun x hx=>by
   have h1:=rq hn (hm x hx)
   have h2:=wc h1.1 h1.2.1
   exact u7 _ h2.1 (by omega))
  (fun x hx=>by
   have h1:=rq hn (hm x hx)
   have h2:=wc h1.1 h1.2.1
   exact h2.2.2) hS hN
theorem BX{sv:Int}(hp:b8 A sv=true){r:List Int}{l:List bw}(hr:DR (sA A sv).notes r)(h2:r.length≤2)(hd:DC A.sig.au A.sig.aq r.length l):
 aE Tryz.prog 110 [.c (.rp 3 (dt (sA A sv))), .c (.ro 1 (r.map eI)), .c (.rp 3 (cL ⟨A.sig,l⟩))] (B (Eh (sA A sv).notes r ⟨A.sig,l⟩)):=by
 have hsv:=hG.srv _ (iO hp)
 have hn:=hsv.ny
 have hl:=hd.len
 have hm:=I9 hd
 have hk:∀i,i<r.length→0≤bK (sA A sv).notes false (r.getD i 0):=fun i hi=>hr.kn _ (by rw[getD_eq hi];exact List.getElem_mem _)
 exact Ea (sv:=sA A sv) (p:=⟨A.sig,l⟩) (by show r.length≤l.length;omega) (by show l.length≤40;omega) (by omega) (fun i hi=>⟨hk i hi,(rq hn (hk i hi)).2.2⟩)
  (fun i hi=>by
   have h1:=rq hn (hk i hi)
   have h3:=wc h1.1 h1.2.1
   exact u7 _ h3.1 (by omega))
  (fun i hi=>qP _ _)
  (fun k h1 h3=>Cg hG.sig hG.PS (fun c hc=>(hm c hc).1) h3 (by omega) (by
   show(l.getD k c0).j9=1
   rw[getD_eq h3]
   exact(hm _ (List.getElem_mem _)).2))
end
end Go.Proofs.YtgbggaddpbghfaaGreat
namespace Go.Proofs.YtgbggaddpbghfaaGreat
open Go Go.KA Go.Proofs
set_option maxHeartbeats 16000000
set_option maxRecDepth 100000
def v7(e:bm):List CV:=[J e.kind,J e.a,J e.b,J e.c, .ows 2 1 (e.bu.map eI),J e.proof.sig.au,J e.proof.sig.aq, .ows 104 9 (e.proof.aj.map aH), .ows 4 1 (e.kW.map eB)]
structure vp(t a:Int)(e:bm):Prop where
 ny:bS t a e=true
 MO:gm e≤5100
section
variable{A:ag}(hG:GB A)
include hG
theorem JW{sv:Int}(hp:b8 A sv=true){r:List Int}{l:List bw}{v:List Bool}(hr:DR (sA A sv).notes r)(h2:r.length≤2)(hd:DC A.sig.au A.sig.aq r.length l)(hv:v.length=5):vp A.sig.au A.sig.aq ⟨1,sv,0,0,r,⟨A.sig,l⟩,v⟩:=by
 have h5:=bW hG.n5
 have h6:=bW hp
 have hb:cC ⟨A.sig,l⟩≤5000:=IW hd h2
 refine⟨?_, ?_⟩
 ·have he:cU A.sig.au A.sig.aq r ⟨A.sig,l⟩=true:=E5 hG.sig (hG.srv _ (iO hp)).ny hr h2 hd
  simp only[bS,Bool.and_eq_true,Bool.or_eq_true,decide_eq_true_eq,if_true]
  exact⟨by decide,eQ (by omega) (by omega),by decide,by decide, .inr (.inr trivial), .inr trivial,he,by rw[hv];rfl⟩
 ·show r.length+cC ⟨A.sig,l⟩+v.length≤5100
  omega
theorem xV{s:Src}{N:Int}(hS:iK s N)(hN:N≤300000000){sv wr f:Int}(hp:b8 A sv=true)(hw:0≤wr∧wr≤100)(hf:0≤f∧f≤5):
 fU Tryz.prog 75 [.c (.op (da s)), .c (.op (aJ A)),I sv,I wr,I f]
  (fun x:bm × Src=>vp A.sig.au A.sig.aq x.1∧iK x.2 (N+400100)) (fun x=>[some [.op (da x.2)],some [.op (aJ A)],none,none,none]) (fun x=> .a 9 (v7 x.1)):=by
 have hl:=Bz hp
 have hix:(A.ab.map dt)[sv.toNat]? =some (dt (sA A sv)):=aF (d:=cO) (by omega)
 generalize hX:sA A sv=X at hix
 obtain⟨up,nts,sav⟩:=X
 refine Ow Tryz.func75 (h:= ?_)
 repeat'((conv=>whnf);first
  |(guard_target=Gh _ _ _ _ _;refine Gh.go ⟨((⟨1,sv,0,0,r,⟨A.sig,cl⟩,(nU s1 (Eh nts r ⟨A.sig,cl⟩) f).1⟩,(nU s1 (Eh nts r ⟨A.sig,cl⟩) f).2):bm × Src),⟨hP _,(hV2 _).mono (by omega)⟩, ?_⟩)
  |refine ah.mk ?_ ?_|(guard_target=aa _ 110 _ _ _ _;refine cP rfl (hR) ?_)|(guard_target=aa _ 111 _ _ _ _;refine cG [true,false,false] rfl (hV _) ?_)|(guard_target=aa _ 109 _ _ _ _;refine aa.ex rfl [true,true,false,false] _ _ _ _ rfl (vg hG hS hN hp hw) rfl rfl (fun x hx=> ?_);(obtain⟨r,cl,s1⟩:=x);(obtain⟨x1,x2,x3,x4⟩:=hx);(have hR:=BX hG hp x1 x2 x3);rw[hX] at hR;(have hV:=fun b=>vo x4 (by omega) b hf);(have hV2:=fun b=>HT x4 b hf);(have hP:=fun b=>JW hG hp x1 x2 x3 (ET s1 b f));(try simp only[] at x2 hR hV hV2 hP))|(guard_target=Index _ _ _;first|refine Index.mk _ (hix) ?_)
  |refine iX (k:= ?_)
  |refine nB ?_
  |apply ay.no
  |apply cj.go
  |refine nO ?_)
 all_goals first|rfl|exact⟨rfl,trivial⟩|exact⟨rfl,rfl,trivial⟩|trivial
end
end Go.Proofs.YtgbggaddpbghfaaGreat
namespace Go.Proofs.YtgbggaddpbghfaaGreat
open Go Go.KA Go.Proofs
set_option maxHeartbeats 16000000
set_option maxRecDepth 100000
theorem LZ{t a k x y z:Int}(hk:2≤k∧k≤9)(hx:0≤x∧x≤999)(hy:0≤y∧y≤999)(hz:0≤z∧z≤999)(h2:k=2∨k=3∨y=0)(h3:k=3∨z=0):vp t a ⟨k,x,y,z,[],⟨⟨0,0⟩,[]⟩,[]⟩:=by
 refine⟨?_,by show(0:Nat)+(0+(0+0))+0≤5100;omega⟩
 simp only[bS,Bool.and_eq_true,Bool.or_eq_true,decide_eq_true_eq]
 refine⟨eQ (by omega) (by omega),eQ hx.1 hx.2,eQ hy.1 hy.2,eQ hz.1 hz.2,h2,h3, ?_⟩
 rw[if_neg (by omega)]
 rfl
section
variable{A:ag}(hG:GB A)
include hG
theorem Oc{at_:Int}(hp:b8 A at_=true){x:Int}(hx:x∈(oO 100 fun i=>decide (0≤bK (sA A at_).notes false i))):0≤x∧x≤99:=by
 unfold oO at hx
 obtain⟨i,hi,rfl⟩:=List.mem_map.1 hx
 have:=of_decide_eq_true (List.mem_filter.1 hi).2
 exact y7 (hG.srv _ (iO hp)).ny false _ (vu.2 this)
omit hG in
theorem Mk{ids:List Int}(h:∀x∈ids,0≤x∧x≤99):∀i:Nat,0≤ids.getD i 0∧ids.getD i 0≤999:=fun i=>by
 by_cases hi:i<ids.length
 ·have:=h _ (List.getElem_mem hi)
  rw[getD_eq hi]
  omega
 ·have e:ids.getD i 0=0:=by simp[List.getElem?_eq_none (show ids.length≤i by omega)]
  rw[e]
  omega
theorem og{s:Src}{N:Int}(hS':iK s N)(hN:N≤200000000){f:Int}(hf:0≤f∧f≤5):
 fU Tryz.prog 36 [.c (.op (da s)), .c (.op (aJ A)),I f]
  (fun x:bm × Src=>vp A.sig.au A.sig.aq x.1∧iK x.2 (N+401000)) (fun x=>[some [.op (da x.2)],some [.op (aJ A)],none]) (fun x=> .a 9 (v7 x.1)):=by
 have hn5:=bW hG.n5
 have hf12:=hG.f12
 have hl1:(A.ab.map dt).length=A.ab.length:=List.length_map _
 have hl2:(A.aw.map bh).length=A.aw.length:=List.length_map _
 have hixA:∀i:Int,0≤i→i<(A.ab.length:Nat)→(A.ab.map dt)[i.toNat]? =some (dt (sA A i)):=fun i h1 h2=>aF (d:=cO) (by omega)
 have hplA:∀i:Int,0≤i→i<(A.ab.length:Nat)→b8 A i=true:=fun i h1 h2=>eQ h1 (by omega)
 refine Ow Tryz.func36 (h:= ?_)
 repeat'((conv=>whnf);first
  |(guard_target=aa _ 73 _ _ _ _;(fail_if_success (have _:=kd));refine Fe (l:=[1,1,1,2,3,3,3,3,4,4,4,4,5,6,7,7,7,8,9,9]) hS' (by omega) ⟨by decide,by decide⟩ rfl rfl rfl (fun kd s' hS' hkd=> ?_);(have hkr:1≤kd∧kd≤9:=by simp at hkd;omega))|(guard_target=aa _ 53 _ _ _ _;(fail_if_success (have _:=pl));refine yg hS' (by omega) (by unfold jE;omega) rfl rfl rfl (fun pl s' hS' hp0 hp1=> ?_);rw[hl1] at hp1;(have hp2:=hp1 (by omega));(have hpl:=hplA pl hp0 hp2);(have hix:=hixA pl hp0 hp2);(have hsv:=hG.srv _ (iO hpl));(have h20:=hsv.Fz);(have ci:=yJ (sA A pl).notes false);(have hir:=fun x=>Oc hG hpl (x:=x));(have hil:=wM 100 fun i=>decide (0≤bK (sA A pl).notes false i));generalize hX:sA A pl=X at hix h20 ci hir hil;(obtain⟨up,nts,sav⟩:=X);(try simp only[] at h20 ci hir hil);generalize(oO 100 fun i=>decide (0≤bK nts false i))=ids at ci hir hil;(have hl3:(ids.map eI).length=ids.length:=List.length_map _);(have hq9:=Mk hir);(have hl4:(nts.map bj).length=nts.length:=List.length_map _);(have cm:=Is 1 ((nts.map bj).length:Nat));generalize hm:(if(1:Int)>((nts.map bj).length:Nat) then(1:Int) else((nts.map bj).length:Nat))=m at cm;(have hm1:1≤m∧m≤20:=by rw[←hm];split<;>omega))|(guard_target=Gh _ _ _ _ _;(have _:=hxP);refine Gh.go ⟨((xe,xs):bm × Src),⟨hxP.1,hxP.2.mono (by omega)⟩, ?_⟩)|(guard_target=Gh _ _ _ _ _;(fail_if_success (have _:=hxP));(have _:=‹¬kd=1›);refine Gh.go ⟨((⟨kd,_,_,_,[],⟨⟨0,0⟩,[]⟩,[]⟩,s'):bm × Src), ?_,ah.mk rfl ⟨rfl,rfl,trivial⟩⟩)
  |refine ah.mk ?_ ?_
  |(apply Fact.mk;intro hL;try simp only[List.length_map,maxLen] at hL)
  |((first|apply bA|apply bB|apply bC|apply bD|apply bE|apply bF)<;>intro h<;>(try simp only[List.length_map] at h)<;>(try omega)<;>(try contradiction))|(guard_target=aa _ 58 _ _ _ _;refine cG [] rfl (ci) ?_)|(guard_target=aa _ 77 _ _ _ _;refine cP rfl (cm) ?_)|(guard_target=aa _ 73 _ _ _ _;refine Fe (l:=[5,99,999]) hS' (by omega) ⟨by decide,by decide⟩ rfl rfl rfl (fun w s' hS' hw=> ?_);(have hwr:0≤w∧w≤999:=by simp at hw;omega))|(guard_target=aa _ 53 _ _ _ _;refine yg hS' (by omega) (by unfold jE;omega) rfl rfl rfl (fun v s' hS' hv0 hv1=> ?_))|(guard_target=aa _ 76 _ _ _ _;refine OR hS' (by omega) (by unfold jE;omega) rfl rfl rfl (fun v s' hS'=> ?_))|(guard_target=aa _ 75 _ _ _ _;refine aa.ex rfl [true,true,false,false,false] _ _ _ _ rfl (xV hG hS' (by omega) hpl (wr:=5) (by omega) hf) rfl rfl (fun x hx=> ?_);(obtain⟨xe,xs⟩:=x);(have hxP:=hx))
  |refine aR ?_|(guard_target=Index _ _ _;first|refine Index.mk _ (hix) ?_|refine Index.mk _ (aF (l:=ids) (d:=0) (i:=v.toNat) (by omega)) ?_)
  |refine iX (k:= ?_)
  |apply ay.no|(guard_target=aQ _ _;refine aQ.mk (by first|((simp only[List.length_map,List.length_cons,List.length_nil,List.length_append,maxLen];first|omega|(constructor<;>omega)))|fail) ?_)
  |refine nO ?_)
 all_goals first|exact⟨LZ (by omega) (by omega) (by first|omega|exact hq9 _) (by omega) (by omega) (by omega),hS'.mono (by omega)⟩|(have _:=hxP;first|rfl|exact⟨rfl,rfl,trivial⟩)
end
end Go.Proofs.YtgbggaddpbghfaaGreat
namespace Go.Proofs.YtgbggaddpbghfaaGreat
open Go Go.KA Go.Proofs
set_option maxHeartbeats 4000000
set_option maxRecDepth 100000
def Small(a:ag):Prop:=∀x∈iq a,bG x≤5100
section
variable{a:ag}(hG:GB a)(h:Small a)
include hG h
omit hG in
theorem pM{i:Int}{s:aT}(hs:∀x∈s.notes,bG x≤5100):Small (iD a i s):=fun x hx=>by
 rcases Az hx with h1|h1
 ·exact h x h1
 ·exact hs x h1
omit hG in
theorem mW{i:Int}(hi:b8 a i=true):∀x∈(sA a i).notes,bG x≤5100:=fun x hx=>h x (dO.2 (.inl ⟨_,iO hi,hx⟩))
omit hG in
theorem td{i:Int}(hi:b8 a i=true){n:aS}(hn:bG n≤5100):Small (iD a i (kj (sA a i) n)):=pM h fun x hx=>by
 rcases List.mem_append.1 hx with h1|h1
 ·exact mW h hi x h1
 ·obtain rfl:=List.mem_singleton.1 h1
  exact hn
omit hG in
theorem yk{l:List cJ}(hl:∀p∈l,bG p.note≤5100):Small ⟨a.sig,a.ab,l⟩:=fun x hx=>by
 rcases dO.1 hx with⟨s,hs,h1⟩|⟨p,hp,rfl⟩
 ·exact h x (dO.2 (.inl ⟨s,hs,h1⟩))
 ·exact hl p hp
omit hG in
theorem pC{p:cJ}(hp:p∈a.aw):bG p.note≤5100:=h _ (dO.2 (.inr ⟨p,hp,rfl⟩))
omit hG in
theorem wG(i:Int):Small (eP a i).2:=by
 unfold eP
 split
 ·exact h
 ·refine yk h fun p hp=> ?_
  rcases List.mem_append.1 hp with hp|hp
  ·exact pC h (List.mem_of_mem_take hp)
  ·exact pC h (List.mem_of_mem_drop hp)
theorem xq{i:Int}(hi:0≤i):Small (cR a i).2:=by
 unfold cR
 split
 ·exact h
 ·rename_i h1
  have hp:gI a i∈a.aw:=by
   show a.aw.getD i.toNat jd∈_
   rw[getD_eq (by omega)]
   exact List.getElem_mem _
  split
  ·exact h
  ·split
   ·exact h
   ·exact td h (hG.place hp) (pC h hp)
theorem yU{e:bm}(he:bS a.sig.au a.sig.aq e=true)(hb:gm e≤5100):Small (l4 a e).2:=by
 have hr:(0≤e.a)∧0≤e.c:=by
  simp only[bS,Bool.and_eq_true] at he
  have h1:=bW he.2.1
  have h2:=bW he.2.2.2.1
  omega
 unfold l4
 split
 ·unfold fF
  split
  ·exact wG (xq hG h hr.1) _
  ·exact h
 split
 ·exact xq hG h hr.1
 split
 ·exact wG h _
 split
 ·exact h
 rename_i hp
 have hp:b8 a e.a=true:=by simpa using hp
 split
 ·unfold eD
  split
  ·exact h
  split
  ·exact h
  split
  ·exact h
  ·refine td h hp ?_
   unfold gm at hb
   show e.bu.length+cC e.proof≤5100
   omega
 split
 ·unfold cK
  split
  ·exact h
  split
  ·exact h
  split
  ·exact h
  ·exact td h hp (by show(0:Nat)+(0+(0+0))≤5100;omega)
 split
 ·unfold dy
  split
  ·exact h
  split
  ·exact h
  split
  ·exact h
  ·rename_i h1 h2 h3
   refine yk h fun p hq=> ?_
   rcases List.mem_append.1 hq with hq|hq
   ·exact pC h hq
   ·obtain rfl:=List.mem_singleton.1 hq
    simp only[Bool.or_eq_true,decide_eq_true_eq,not_or] at h1
    refine mW h hp _ ?_
    show(sA a e.a).notes.getD e.c.toNat n0∈_
    rw[getD_eq (by omega)]
    exact List.getElem_mem _
 ·unfold iu
  split
  ·exact h
  split
  ·exact pM h (mW h hp)
  split
  ·exact pM h fun x hx=>mW h hp x (List.mem_of_mem_take hx)
  ·exact pM h (mW h hp)
end
end Go.Proofs.YtgbggaddpbghfaaGreat
namespace Go.Proofs.YtgbggaddpbghfaaGreat
open Go Go.KA Go.Proofs
set_option maxHeartbeats 4000000
set_option maxRecDepth 100000
theorem mU{a:ag}(hG:GB a)(h:Small a):cq a≤600000:=by
 have h5:=bW hG.n5
 have hf:=hG.f12
 have h1:c8 cZ a.ab≤102100*a.ab.length:=oA fun s hs=>by
  have h20:=(hG.srv s hs).Fz
  have h2:c8 bG s.notes≤5100*s.notes.length:=oA fun x hx=>h x (dO.2 (.inl ⟨s,hs,hx⟩))
  show s.notes.length+c8 bG s.notes≤102100
  omega
 have h3:c8 fG a.aw≤5100*a.aw.length:=oA fun p hp=>h _ (dO.2 (.inr ⟨p,hp,rfl⟩))
 show 0+(a.ab.length+c8 cZ a.ab)+(a.aw.length+c8 fG a.aw)≤600000
 omega
end Go.Proofs.YtgbggaddpbghfaaGreat
namespace Go.Proofs.YtgbggaddpbghfaaGreat
open Go Go.KA Go.Proofs
set_option maxHeartbeats 16000000
set_option maxRecDepth 100000
theorem KB(a:ag):mZ (cy a)=aJ a:=by
 have h:∀s:aT,mZ (bd s)=dt s:=fun s=>by
  simp only[bd,dt,mZ,kM,ch (f:=bj) (g:=bj) (fun _=>rfl)]
 simp only[cy,aJ,mZ,kM,ch h,ch (f:=bh) (g:=bh) (fun _=>rfl)]
theorem xl(a:ag)(i:Int):(eP a i).2.sig=a.sig:=by unfold eP;split<;>rfl
theorem wV(a:ag)(i:Int):(cR a i).2.sig=a.sig:=by unfold cR;(repeat' split)<;>rfl
theorem Mp(a:ag)(e:bm):(l4 a e).2.sig=a.sig:=by
 unfold l4
 split
 ·unfold fF
  split
  ·rw[xl,wV]
  ·rfl
 split
 ·exact wV _ _
 split
 ·exact xl _ _
 split
 ·rfl
 split
 ·unfold eD;(repeat' split)<;>rfl
 split
 ·unfold cK;(repeat' split)<;>rfl
 split
 ·unfold dy;(repeat' split)<;>rfl
 ·unfold iu;(repeat' split)<;>rfl
theorem A6(a:ag):dc (cy a) (aJ a):=by
 have h:dc (cy a) (mZ (cy a)):= .same (.same (.ro (.ro .nil)))
 rwa[KB] at h
section
variable{A0:ag}(hG0:GB A0)(hS0:Small A0){f:Int}(hf:0≤f∧f≤5)
 (hev:∀(A:ag) (s:Src) (N:Int),GB A→iK s N→N≤200000000→fU Tryz.prog 36 [.c (.op (da s)), .c (.op (aJ A)),I f]
  (fun x:bm × Src=>vp A.sig.au A.sig.aq x.1∧iK x.2 (N+401000)) (fun x=>[some [.op (da x.2)],some [.op (aJ A)],none]) (fun x=> .a 9 (v7 x.1)))
include hG0 hS0 hf hev
theorem Ec{s:Src}{N:Int}(hS':iK s N)(hN:N≤100000000){k:Nat}(hk:k≤30):
 fU Tryz.prog 74 [.c (.op (da s)), .c (.rp 4 (aJ A0)),I (k:Nat),I f]
  (fun x:ag × Src=>(GB x.1∧Small x.1∧x.1.sig=A0.sig)∧iK x.2 (N+401000*k)) (fun x=>[some [.op (da x.2)],none,none,none]) (fun x=> .a 4 (aJ x.1)):=by
 have _:=hf
 have ho:ai Tryz.prog 68 [.c (.rp 4 (aJ A0))] [] (.a 4 (aJ A0)):=(C8 A0 (CA.of (by have:=mU hG0 hS0;omega))).soft (.v (.a (A6 A0)))
 have hst:∀(A:ag) (e:bm),GB A→Small A→vp A.sig.au A.sig.aq e→ai Tryz.prog 41 [.c (.op (aJ A)), .c (.rp 9 (bM e))] [some [.op (aJ A)],none] (.tup [.a 4 (aJ (ku A e).2),I (ku A e).1]):=fun A e h1 h2 h3=>by
  have hb:=mU h1 h2
  have he:=EA.of h3.ny (by have:=h3.MO;omega)
  exact(wF A e (WA.of (KM.2 h1) (by omega)) he.1 he.2).soft (.tup (.cons (.a (A6 _)) (.cons .same .nil)))
 have hnx:∀(A:ag) (e:bm),GB A→Small A→vp A.sig.au A.sig.aq e→(ku A e).1=0→GB (ku A e).2∧Small (ku A e).2∧(ku A e).2.sig=A.sig:=fun A e h1 h2 h3 h4=>by
  unfold ku at h4⊢
  split at h4
  ·rename_i h5
   rw[if_pos h5]
   exact⟨BG h1 h3.ny,yU h1 h2 h3.ny h3.MO,Mp A e⟩
  ·rename_i h5
   exact absurd h4 h5
 refine Ow Tryz.func74 (fun reg_=>match reg_ with|6=>true|_=>false) (h:= ?_)
 repeat'((conv=>whnf);first
  |(guard_target=Gh _ _ _ _ _;(have _:=hE);(fail_if_success (have _:=hg6));(have hg6:=hE);refine Gh.G8 7 _ rfl (Gh.G8 8 _ rfl (Gh.G8 9 _ rfl (Gh.soft 13 (.cc rfl) (Gh.Ax 13 _ rfl (Gh.go ?_))))))|(guard_target=Gh _ _ _ _ _;(have _:=hg6);(have h0:=‹(ku A e).1=0›);(have hn:=hnx A e ha.1.2.1 ha.1.2.2.1 hE h0);refine Gh.go ⟨((i+1,(ku A e).2,s2):Nat × ag × Src),(by exact⟨⟨by show i+1≤k;omega,hn.1,hn.2.1,hn.2.2.trans ha.1.2.2.2⟩,hS'.mono (by show _≤N+401000*((i+1:Nat):Int);omega)⟩),(by show k-(i+1)<k-i;omega),(by(repeat'((conv=>whnf)<;>(first|exact trivial|refine⟨?_, ?_⟩|kernel_rfl)));done),(by(repeat'((conv=>whnf)<;>(first|exact trivial|refine⟨?_, ?_⟩|kernel_rfl)));done),(by(repeat'((conv=>whnf)<;>(first|exact trivial|refine⟨?_, ?_⟩|exact rfl)));done)⟩)|(guard_target=Gh _ _ _ _ _;(have _:=hg6);(have h0:=‹¬(ku A e).1=0›);refine Gh.go ⟨((i+1,A,s2):Nat × ag × Src),(by exact⟨⟨by show i+1≤k;omega,ha.1.2.1,ha.1.2.2.1,ha.1.2.2.2⟩,hS'.mono (by show _≤N+401000*((i+1:Nat):Int);omega)⟩),(by show k-(i+1)<k-i;omega),(by(repeat'((conv=>whnf)<;>(first|exact trivial|refine⟨?_, ?_⟩|kernel_rfl)));done),(by(repeat'((conv=>whnf)<;>(first|exact trivial|refine⟨?_, ?_⟩|kernel_rfl)));done),(by(repeat'((conv=>whnf)<;>(first|exact trivial|refine⟨?_, ?_⟩|exact rfl)));done)⟩)|(guard_target=Gh _ _ _ _ _;(fail_if_success (have _:=hE));refine Gh.go ⟨((A,s1):ag × Src),(by exact⟨⟨ha.1.2.1,ha.1.2.2.1,ha.1.2.2.2⟩,hS'.mono (by omega)⟩), ?_⟩)
  |refine ah.mk ?_ ?_|(guard_target=~ aP 3 _ _ _ _ _ _;refine tJ (Nat × ag × Src) [0,2,3,8,9] (fun⟨i,A,s1⟩=>[(10,I (i:Nat))]) (fun⟨i,A,s1⟩=>[(0, .cc 3 (da s1)),(6, .cc 4 (aJ A))]) (fun⟨i,A,s1⟩=>(i≤k∧GB A∧Small A∧A.sig=A0.sig)∧iK s1 (N+401000*i)) (fun⟨i,A,s1⟩=>k-i) (0,A0,s) (by exact⟨⟨Nat.zero_le _,hG0,hS0,rfl⟩,hS'.mono (by show N≤N+401000*((0:Nat):Int);omega)⟩) (fun A ha=> ?_);obtain⟨i,A,s1⟩:=A;have ha:(i≤k∧GB A∧Small A∧A.sig=A0.sig)∧iK s1 (N+401000*i):=ha;have hS':=ha.2)
  |((first|apply bA|apply bB|apply bC|apply bD|apply bE|apply bF)<;>intro h<;>(try simp only[List.length_map] at h)<;>(try omega)<;>(try contradiction))|(guard_target=aa _ 68 _ _ _ _;refine cG [] rfl (ho) ?_)|(guard_target=aa _ 41 _ _ _ _;refine cG [true,false] rfl (hst A e ha.1.2.1 ha.1.2.2.1 hE) ?_)|(guard_target=aa _ 36 _ _ _ _;refine aa.ex rfl [true,true,false] _ _ _ _ rfl (hev A s1 _ ha.1.2.1 hS' (by omega)) rfl rfl (fun x hx=> ?_);(obtain⟨e,s2⟩:=x);(obtain⟨hE,hS'⟩:=hx);(try simp only[] at hE hS'))
  |refine aR ?_
  |refine iX (k:= ?_)
  |refine nB ?_
  |apply cj.go
  |refine nO ?_)
 all_goals first|rfl|exact⟨rfl,trivial⟩|exact⟨rfl,rfl,trivial⟩|trivial
end
end Go.Proofs.YtgbggaddpbghfaaGreat
namespace Go.Proofs.YtgbggaddpbghfaaGreat
open Go Go.KA Go.Proofs
set_option maxHeartbeats 16000000
set_option maxRecDepth 100000
def H9(n:Nat):ag:=⟨⟨1,2⟩,List.replicate n ⟨true,[],0⟩,[]⟩
theorem EO(n:Nat):Small (H9 n):=fun x hx=>by
 rcases dO.1 hx with⟨s,hs,h⟩|⟨p,hp,rfl⟩
 ·obtain rfl:=List.eq_of_mem_replicate hs
  cases h
 ·cases hp
theorem HZ{n:Nat}(h1:1≤n)(h5:n≤5):GB (H9 n):=by
 have hl:(H9 n).ab.length=n:=List.length_replicate
 refine⟨by show bT 1 2=true;decide,eQ (by omega) (by omega),Nat.zero_le _,fun s hs=> ?_,fun p hp=>(by cases hp),fun x hx=> ?_⟩
 ·obtain rfl:=List.eq_of_mem_replicate hs
  exact⟨Nat.zero_le _,⟨Int.le_refl _,Int.le_refl _⟩, .inl rfl,rfl⟩
 ·rcases dO.1 hx with⟨s,hs,h⟩|⟨p,hp,rfl⟩
  ·obtain rfl:=List.eq_of_mem_replicate hs
   cases h
  ·cases hp
theorem Hf:ai Tryz.prog 72 [] [] (.a 2 [J 1,J 2]):=by
 refine cX Tryz.func72 (h:= ?_)
 repeat'((conv=>whnf);first
  |refine ah.mk ?_ ?_
  |refine iX (k:= ?_)
  |refine nO ?_)
 all_goals first|rfl|trivial
def newRow:List CV:=[.val (.bool true), .ows 51 7 [],J 0]
theorem xr{n:Nat}(h1:1≤n)(h5:n≤5):ai Tryz.prog 71 [.a 2 [J 1,J 2],I (n:Nat)] [] (.tup [.a 4 [J 1,J 2, .own 47 3 (List.replicate n newRow), .ows 89 8 []],I 0]):=by
 have c1:aE Tryz.prog 85 [.a 2 [J 1,J 2]] (B true):=by
  have h:=kJ 1 2
  rwa[show bT 1 2=true by decide] at h
 have c2:aE Tryz.prog 86 [I (n:Nat),I 1,I 5] (B true):=by
  have h:=dE (n:Nat) 1 5
  rwa[show dH 1 5 ((n:Nat):Int)=true from eQ (by omega) (by omega)] at h
 refine cX Tryz.func71 (h:= ?_)
 repeat'((conv=>whnf);first
  |refine ah.mk ?_ ?_|(guard_target=~ aP 7 _ _ _ _ _ _;refine lX (Nat × List (List CV)) [1,4,6] (fun⟨i,rows⟩=>[(7,I (i:Nat))]) (fun⟨i,rows⟩=>[(5, .aG none 47 3 rows),(9, .cells [.c (J 1), .c (J 2), .lw 5, .lw 4])]) (fun⟨i,rows⟩=>i≤n∧rows=List.replicate i newRow) (fun⟨i,rows⟩=>n-i) (0,[]) (by exact⟨Nat.zero_le _,rfl⟩) (fun A ha=> ?_);obtain⟨i,rows⟩:=A;have ha:i≤n∧rows=List.replicate i newRow:=ha;(obtain⟨hi,hr⟩:=ha);(have hrl:rows.length≤5:=by rw[hr,List.length_replicate];omega))
  |refine qJ ((i+1,rows++[newRow]):Nat × List (List CV)) (by exact⟨by show i+1≤n;omega,by show rows++[newRow]=_;rw[hr,List.replicate_succ']⟩)
  |(apply Fact.mk;intro hL;try simp only[List.length_map,maxLen] at hL)
  |((first|apply bA|apply bB|apply bC|apply bD|apply bE|apply bF)<;>intro h<;>(try simp only[List.length_map] at h)<;>(try omega)<;>(try contradiction))|(guard_target=aa _ 85 _ _ _ _;refine cP rfl (c1) ?_)|(guard_target=aa _ 86 _ _ _ _;refine cP rfl (c2) ?_)
  |refine aR ?_
  |refine iX (k:= ?_)|(guard_target=aQ _ _;refine aQ.mk (by first|((simp only[List.length_map,List.length_cons,List.length_nil,List.length_append,maxLen];first|omega|(constructor<;>omega)))|fail) ?_)
  |refine nO ?_)
 all_goals first|trivial|(have h9:i=n:=(by omega);rw[hr,h9];rfl)
end Go.Proofs.YtgbggaddpbghfaaGreat
