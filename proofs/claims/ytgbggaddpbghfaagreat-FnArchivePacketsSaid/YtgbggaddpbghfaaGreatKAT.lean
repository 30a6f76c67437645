/- Contract of the reference's draw of an entry's proof: there is a valid one whose first claims are lemmas that the server knows. Conditions: a valid archive, bounds of what has been read. -/
import Derived.Test.YtgbggaddpbghfaaGreatKAS
namespace Go.Proofs.YtgbggaddpbghfaaGreat
open Go Go.KA Go.Proofs
set_option maxHeartbeats 16000000
set_option maxRecDepth 100000
structure DC(t a:Int)(n:Nat)(l:List bm):Prop where
 len:l.length=n+1
 ok:∀i,i<l.length→cq t a (l.getD i c0)=true∧(l.getD i c0).kg=1∧(l.getD i c0).steps.length≤2∧(i<n→(l.getD i c0).steps=[])
structure D0(t a:Int)(l:List bm):Prop where
 ok:∀c∈l,cq t a c=true∧c.kg=1∧c.steps=[]
section
variable{t a:Int}{l:List bm}
theorem D0.add{x y:ae}(h:D0 t a l)(h1:aY t a x=true)(h2:aY t a y=true):D0 t a (l++[⟨x,y,1,0,[]⟩]):=⟨fun c hc=>by
 rcases List.mem_append.1 hc with h3|h3
 ·exact h.ok c h3
 ·obtain rfl:=List.mem_singleton.1 h3
  refine⟨?_,rfl,rfl⟩
  simp only[cq,Bool.and_eq_true,decide_eq_true_eq,List.all_eq_true]
  exact⟨h1,h2,rfl,rfl,by simp,rfl,by simp⟩⟩
theorem D0.last{c:bm}(h:D0 t a l)(h1:cq t a c=true)(h2:c.kg=1)(h3:c.steps.length≤2):DC t a l.length (l++[c]):=by
 refine⟨by simp,fun i hi=> ?_⟩
 by_cases h4:i<l.length
 ·have e:(l++[c]).getD i c0=l.getD i c0:=by
   rw[getD_eq hi,getD_eq h4,List.getElem_append_left h4]
  rw[e,getD_eq h4]
  have h5:=h.ok _ (List.getElem_mem h4)
  exact⟨h5.1,h5.2.1,by rw[h5.2.2];exact Nat.zero_le _,fun _=>h5.2.2⟩
 ·have e:(l++[c]).getD i c0=c:=by
   have h5:i=l.length:=by simp at hi;omega
   subst h5
   simp
  rw[e]
  exact⟨h1,h2,h3,fun h5=>absurd h5 h4⟩
theorem DC.put{n:Nat}{x:ae}{i:Nat}(h:DC t a n l)(hi:i<l.length)(h1:aY t a x=true):DC t a n (l.set i ⟨(l.getD i c0).left,x,(l.getD i c0).kg,(l.getD i c0).ref,(l.getD i c0).steps⟩):=by
 refine⟨by rw[List.length_set];exact h.len,fun j hj=> ?_⟩
 rw[List.length_set] at hj
 by_cases e:i=j
 ·subst e
  have e1:(l.set i (⟨(l.getD i c0).left,x,(l.getD i c0).kg,(l.getD i c0).ref,(l.getD i c0).steps⟩:bm)).getD i c0=⟨(l.getD i c0).left,x,(l.getD i c0).kg,(l.getD i c0).ref,(l.getD i c0).steps⟩:=by
   rw[getD_eq (by rw[List.length_set];exact hi),List.getElem_set_self]
  rw[e1]
  obtain⟨h2,h3,h4,h5⟩:=h.ok i hi
  refine⟨?_,h3,h4,h5⟩
  simp only[cq,Bool.and_eq_true] at h2⊢
  exact⟨h2.1,h1,h2.2.2⟩
 ·have e1:(l.set i (⟨(l.getD i c0).left,x,(l.getD i c0).kg,(l.getD i c0).ref,(l.getD i c0).steps⟩:bm)).getD j c0=l.getD j c0:=by
   rw[getD_eq (by rw[List.length_set];exact hj),getD_eq hj,List.getElem_set_ne e]
  rw[e1]
  exact h.ok j hj
theorem D0.mem(h:D0 t a l):∀c∈l,aY t a c.left=true∧aY t a c.right=true:=fun c hc=>by
 have:=ko (h.ok c hc).1
 exact⟨this.1,this.2.1⟩
end
structure DR(notes:List aM)(r:List Int):Prop where
 nd:r.Nodup
 kn:∀x∈r,0≤bz notes false x
theorem DR.add{notes:List aM}{r:List Int}{x:Int}(h:DR notes r)(h1:x∉r)(h2:0≤bz notes false x):DR notes (r++[x]):=
 ⟨by
  rw[List.nodup_append]
  exact⟨h.nd,by simp,fun y hy z hz=>by
   obtain rfl:=List.mem_singleton.1 hz
   intro e
   subst e
   exact h1 hy⟩,fun y hy=>by
  rcases List.mem_append.1 hy with h3|h3
  ·exact h.kn y h3
  ·obtain rfl:=List.mem_singleton.1 h3
   exact h2⟩
theorem Nm(l:List bm)(x y:ae):cW (l.map aH++[[J x.kind,J x.num, .own 66 3 (x.kids.map ay),J y.kind,J y.num, .own 66 3 (y.kids.map ay),J 1,J 0, .ows 156 5 []]])=(l++[(⟨x,y,1,0,[]⟩:bm)]).map aH:=by
 have e:∀l m:List (List CV),cW (l++m)=cW l++cW m:=fun l m=>by
  induction l with
  |nil=>rfl
  |cons c l ih=>simp only[List.cons_append,cW,ih]
 rw[e,tO,List.map_append]
 refine congrArg (l.map aH++ ·) ?_
 simp only[cW,nr,l5,bQ eM]
 rfl
theorem DO(o:Option Value)(l:List bm)(c:bm):gH (.aG o 104 9 (l.map aH++[aH c])) (.row o 104 9 ((l++[c]).map aH)):=by
 have h:=gH.row (o:=o) (ty:=104) (sz:=9) (rows:=(l++[c]).map aH)
 rw[tO] at h
 rwa[show(l++[c]).map aH=l.map aH++[aH c] from List.map_append] at h⊢
section
variable{t a:Int}(hs:bO t a=true)(hg:0≤t∧t≤3∧0≤a∧a≤4){srv:List aO}{fl:List cB}{sv wr:Int}{notes:List aM}{ids:List Int}
 {up:Bool}{sav:Int}(h0:0≤sv)(h1:sv<(srv.length:Nat))(hix:(srv.map cE)[sv.toNat]? =some [.val (.bool up), .ro 7 (notes.map bg),J sav])(hn9:notes.length≤20)
 (hw:0≤wr∧wr≤100)
 (hids:ids.length≤100)(hkn:∀x∈ids,0≤bz notes false x∧bz notes false x<(notes.length:Nat))
 (ci:ah Tryz.prog 58 [.c (.ro 7 (notes.map bg)),B false] [] (.c (.ows 2 1 (ids.map eI))))
 (hlm:∀x∈ids,aD Tryz.prog 136 [.c (.rp 5 (kz (notes.getD (bz notes false x).toNat n0).entry))] (.a 6 (aU (nI (notes.getD (bz notes false x).toNat n0).entry))))
 (hle:∀x∈ids,aY t a (nI (notes.getD (bz notes false x).toNat n0).entry).left=true∧aY t a (nI (notes.getD (bz notes false x).toNat n0).entry).right=true)
include hs hg h0 h1 hix hn9 hw hids hkn ci hlm hle
theorem wL{s:Src}{N:Int}(hS':iP s N)(hN:N≤300000000):
 gJ Tryz.prog 109 [.c (.op (c8 s)), .c (.op (az ⟨⟨t,a⟩,srv,fl⟩)),I sv,I wr]
  (fun x:List Int × List bm × Src=>DR notes x.1∧x.1.length≤2∧DC t a x.1.length x.2.1∧iP x.2.2 (N+400000))
  (fun x=>[some [.op (c8 x.2.2)],some [.op (az ⟨⟨t,a⟩,srv,fl⟩)],none,none]) (fun x=> .tup [.c (.ows 2 1 (x.1.map eI)), .a 3 [J t,J a, .ows 104 9 (x.2.1.map aH)]]):=by
 have _:=h1
 have _:=hn9
 have hmm:∀v:Int,0≤v→v<(ids.length:Nat)→ids.getD v.toNat 0∈ids:=fun v h2 h3=>by
  rw[getD_eq (by omega)]
  exact List.getElem_mem _
 have hoL:∀x∈ids,ah Tryz.prog 137 [.c (.rp 6 (aU (nI (notes.getD (bz notes false x).toNat n0).entry)))] [] (.a 3 (bN (nI (notes.getD (bz notes false x).toNat n0).entry).left)):=fun x hx=>by
  have h:=eu (nI (notes.getD (bz notes false x).toNat n0).entry).left (by have:=dw (hle x hx).1;omega)
  rw[a9] at h
  exact h.cut (.cut (sz:=6) (k:=3) (cs:=aU (nI (notes.getD (bz notes false x).toNat n0).entry)) (by decide) .nil)
 have hoR:∀x∈ids,ah Tryz.prog 137 [.c (.rp 3 ((aU (nI (notes.getD (bz notes false x).toNat n0).entry)).drop 3))] [] (.a 3 (bN (nI (notes.getD (bz notes false x).toNat n0).entry).right)):=fun x hx=>by
  have h:=eu (nI (notes.getD (bz notes false x).toNat n0).entry).right (by have:=dw (hle x hx).2;omega)
  rw[a9] at h
  exact h
 refine Pe Tryz.func109 (fun reg_=>match reg_ with|7=>true|13=>true|14=>true|_=>false) (h:= ?_)
 repeat'((conv=>whnf);first
  |(guard_target=aa _ 53 _ _ _ _;(have _:=k);(have hil:(ids.map eI).length=ids.length:=List.length_map _);refine zl hS' (by omega) (by unfold jI;omega) rfl rfl rfl (fun v s' hS' hv0 hv1=> ?_);rw[hil] at hv1;(have hq0:=hmm v hv0 (hv1 (by omega)));(have hq1:=hkn _ hq0);(have hq2:=hle _ hq0))|(guard_target=Gh _ _ _ _ _;(have h7:=‹k>0›);(have h8:=‹tp r (ids.getD v.toNat 0)=true›);(fail_if_success (have _:=hg7));(have hg7:=h7);refine Gh.soft 5 gH.row (Gh.go ?_))|(guard_target=Gh _ _ _ _ _;(have h7:=‹k>0›);(have h8:=‹tp r (ids.getD v.toNat 0)=false›);(fail_if_success (have _:=hg7));(have hg7:=h7);refine Gh.go ?_)|(guard_target=Gh _ _ _ _ _;(have h7:=‹k>0›);(have h8:=‹tp r (ids.getD v.toNat 0)=false›);refine Gh.go ⟨((s',r,cl,k-1):Src × List Int × List bm × Int),(by exact⟨⟨by show 0≤k-1;omega,by show k-1≤2;omega,hS'.mono (by show _≤N+10+10*(2-(k-1));omega)⟩,⟨ha.2.1.1,by show(r.length:Int)+(k-1)≤2;omega⟩,ha.2.2.1,ha.2.2.2⟩),(by show(k-1).toNat<k.toNat;omega),(by(repeat'((conv=>whnf)<;>(first|exact trivial|refine⟨?_, ?_⟩|kernel_rfl)));done),(by(repeat'((conv=>whnf)<;>(first|exact trivial|refine⟨?_, ?_⟩|kernel_rfl)));done),(by(repeat'((conv=>whnf)<;>(first|exact trivial|refine⟨?_, ?_⟩|kernel_rfl)));done)⟩)|(guard_target=Gh _ _ _ _ _;(have h7:=‹k>0›);(have h8:=‹tp r (ids.getD v.toNat 0)=true›);refine Gh.go ⟨((s',r++[ids.getD v.toNat 0],cl++[⟨(nI (notes.getD (bz notes false (ids.getD v.toNat 0)).toNat n0).entry).left,(nI (notes.getD (bz notes false (ids.getD v.toNat 0)).toNat n0).entry).right,1,0,[]⟩],k-1):Src × List Int × List bm × Int),(by exact⟨⟨by show 0≤k-1;omega,by show k-1≤2;omega,hS'.mono (by show _≤N+10+10*(2-(k-1));omega)⟩,⟨by show(r++[_]).length=(cl++[_]).length;simp only[List.length_append,List.length_cons,List.length_nil];omega,by show((r++[_]).length:Int)+(k-1)≤2;simp only[List.length_append,List.length_cons,List.length_nil];omega⟩,ha.2.2.1.add (IM.1 h8) hq1.1,ha.2.2.2.add hq2.1 hq2.2⟩),(by show(k-1).toNat<k.toNat;omega),(by(repeat'((conv=>whnf)<;>(first|exact trivial|refine⟨?_, ?_⟩|kernel_rfl)));done),(by(repeat'((conv=>whnf)<;>(first|exact trivial|refine⟨?_, ?_⟩|kernel_rfl)));done),(by(repeat'((conv=>whnf)<;>(first|exact trivial|refine⟨?_, ?_⟩|exact congrArg (dE.row none 104 9) (Nm cl _ _)|exact congrArg (dE.row none 2 1) (List.map_append (f:=eI) (l₁:=r) (l₂:=[_])).symm|exact rfl|(simp only[List.map_append,List.map_cons,List.map_nil];first|done|rfl)|(trace_state;fail))));done)⟩)|(guard_target=Gh _ _ _ _ _;(fail_if_success (have _:=u));refine Gh.soft 5 gH.up (Gh.yG 5 rfl fun u=>Gh.go ?_))|(guard_target=Gh _ _ _ _ _;(have _:=u);(fail_if_success (have _:=hz9));(have hz9:=hc1);(have hD9:DC t a r.length (cl++[cF]):=ha.2.1.1▸ha.2.2.2.last hc1 hc2 hc3);(have hl9:(cl++[cF]).length=cl.length+1:=by simp);(have hm9:((cl++[cF]).map aH).length=(cl++[cF]).length:=List.length_map _);refine Gh.soft 5 (DO _ cl cF) (Gh.go ?_))|(guard_target=aa _ 53 _ _ _ _;(have _:=hz9);refine zl hS' (by omega) (by unfold jI;omega) rfl rfl rfl (fun w s9 hS' hw0 hw1=> ?_);rw[hm9] at hw1;(have hw2:=hw1 (by omega));(have hE9:=hS'.expr ⟨t,a⟩ 6 false 3);(have hC9:=wT);(have hP9:=hD9.put (i:=w.toNat) (by omega) (lh t a false ⟨s9,3⟩)))|(guard_target=Gh _ _ _ _ _;(have _:=hP9);refine Gh.go ⟨((r,(cl++[cF]).set w.toNat ⟨((cl++[cF]).getD w.toNat c0).left,(bo ⟨t,a⟩ 6 false ⟨s9,3⟩).1,((cl++[cF]).getD w.toNat c0).kg,((cl++[cF]).getD w.toNat c0).ref,((cl++[cF]).getD w.toNat c0).steps⟩,(bo ⟨t,a⟩ 6 false ⟨s9,3⟩).2.s):List Int × List bm × Src),(by exact⟨ha.2.2.1,by show r.length≤2;omega,hP9,hE9.mono (by omega)⟩), ?_⟩)|(guard_target=Gh _ _ _ _ _;(have _:=hz9);(have _:=‹¬wr>0›);refine Gh.go ⟨((r,cl++[cF],sF):List Int × List bm × Src),(by exact⟨ha.2.2.1,by show r.length≤2;omega,hD9,hS'.mono (by omega)⟩), ?_⟩)|(guard_target=Gh _ _ _ _ _;(have _:=hz9);(have _:=‹wr>0›);(fail_if_success (have _:=w));refine Gh.go ⟨((r,cl++[cF],s'):List Int × List bm × Src),(by exact⟨ha.2.2.1,by show r.length≤2;omega,hD9,hS'.mono (by omega)⟩), ?_⟩)|(guard_target=aa _ 138 _ _ _ _;(obtain⟨cF,sF,hc1,hc2,hc3,hc4,hF⟩:=Cq hs hg hS' (by omega) u cl ha.2.2.2.mem (by omega));(have hS':=hc4);refine aa.gM [true,true] _ _ _ rfl hF rfl rfl _ 0 7 5 _ u _ _ _ _ _ _ rfl rfl rfl rfl rfl rfl ?_)
  |refine aq.mk ?_ ?_|(guard_target=~ aK 6 _ _ _ _ _ _;refine sM (Src × List Int × List bm × Int) [0,1,3,9,10,12,13] (fun⟨s1,r,cl,k⟩=>[(11, .lw 8),(14,I k)]) (fun⟨s1,r,cl,k⟩=>[(0, .cc 3 (c8 s1)),(5, .row none 104 9 (cl.map aH)),(7, .cells [.c (J t), .c (J a), .lw 5]),(8, .row none 2 1 (r.map eI))]) (fun⟨s1,r,cl,k⟩=>(0≤k∧k≤2∧iP s1 (N+10+10*(2-k)))∧(r.length=cl.length∧(r.length:Int)+k≤2)∧DR notes r∧D0 t a cl) (fun⟨s1,r,cl,k⟩=>k.toNat) (s',[],[],v) (by exact⟨⟨by show 0≤v;omega,by show v≤2;omega,hS'.mono (by show _≤N+10+10*(2-v);omega)⟩,⟨rfl,by show(0:Int)+v≤2;omega⟩,⟨by simp,by simp⟩,⟨by simp⟩⟩) (fun A ha=> ?_);obtain⟨s1,r,cl,k⟩:=A;have ha:(0≤k∧k≤2∧iP s1 (N+10+10*(2-k)))∧(r.length=cl.length∧(r.length:Int)+k≤2)∧DR notes r∧D0 t a cl:=ha;have hS':=ha.1.2.2)
  |(apply Fact.mk;intro hL;try simp only[List.length_map,maxLen] at hL)
  |((first|apply bA|apply bB|apply bC|apply bD|apply bE|apply bF)<;>intro h<;>(try simp only[List.length_map] at h)<;>(try omega)<;>(try contradiction))|(guard_target=aa _ 58 _ _ _ _;refine cG [] rfl (ci) ?_)|(guard_target=aa _ 135 _ _ _ _;refine cP rfl (IP r (ids.getD v.toNat 0)) ?_)|(guard_target=aa _ 60 _ _ _ _;refine cP rfl (gQ _ false (ids.getD v.toNat 0)) ?_)|(guard_target=aa _ 136 _ _ _ _;refine cP rfl (hlm _ hq0) ?_)|(guard_target=aa _ 53 _ _ _ _;refine zl hS' (by omega) (by unfold jI;omega) rfl rfl rfl (fun v s' hS' hv0 hv1=> ?_))|(guard_target=aa _ 76 _ _ _ _;refine Pu hS' (by omega) (by unfold jI;omega) rfl rfl rfl (fun v s' hS'=> ?_))|(guard_target=aa _ 137 _ _ _ _;(first|refine aa.own _ _ rfl (hoL _ hq0) (g9 _) _ rfl ?_|refine aa.own _ _ rfl (hoR _ hq0) (g9 _) _ rfl ?_))|(guard_target=aa _ 139 _ _ _ _;refine aa.gen [true,false,false] _ _ _ rfl (Dc ⟨t,a⟩ hg _ (hS'.rd.mono (by omega)) hS'.len 3 (by decide)) rfl rfl _ rfl ?_)
  |refine aR ?_|(guard_target=Index _ _ _;first|(refine Index.mk _ (hix) ?_)|(refine Index.mk _ (aF (l:=ids) (d:=0) (i:=v.toNat) (by omega)) ?_)|(refine Index.mk _ (aF (l:=notes) (d:=n0) (i:=(bz notes false (ids.getD v.toNat 0)).toNat) (by omega)) ?_)|(refine Index.mk _ (aF (l:=cl++[cF]) (d:=c0) (i:=w.toNat) (by omega)) ?_)|fail)
  |refine nB ?_
  |apply iV.go|(guard_target=aV _ _;refine aV.mk (by first|((simp only[List.length_map,List.length_cons,List.length_nil,List.length_append,maxLen];first|omega|(constructor<;>omega)))|fail) ?_)
  |refine nO ?_)
 all_goals first|rfl|exact⟨rfl,trivial⟩|exact⟨rfl,rfl,trivial⟩|trivial|(simp only[List.map_set];rfl)
end
end Go.Proofs.YtgbggaddpbghfaaGreat
namespace Go.Proofs.YtgbggaddpbghfaaGreat
open Go Go.KA Go.Proofs
set_option maxHeartbeats 16000000
set_option maxRecDepth 100000
noncomputable def qS(b:Bool):Nat→Src→List Bool→List Bool × Src
 |0,s,o=>(o,s)
 |i+1,s,o=>qS b i (ar s 5) (o.set (bK s 5).toNat (!b))
theorem yX(b:Bool):∀(i:Nat) (s:Src) (o:List Bool),(qS b i s o).1.length=o.length
 |0,_,_=>rfl
 |i+1,s,o=>by rw[qS,yX b i,List.length_set]
theorem DF(b:Bool){N:Int}:∀(i:Nat) {s:Src} (o:List Bool),iP s N→iP (qS b i s o).2 (N+2*i)
 |0,_,_,h=>h.mono (by omega)
 |i+1,s,o,h=>by
  rw[qS]
  exact((DF b (N:=N+2) i _ (h.pick 5))).mono (by omega)
noncomputable def nJ(s:Src)(b:Bool)(f:Int):List Bool × Src:=qS b (bK s (f+1)).toNat (ar s (f+1)) (List.replicate 5 b)
theorem Fe(s:Src)(b:Bool)(f:Int):(nJ s b f).1.length=5:=by
 unfold nJ
 rw[yX]
 rfl
theorem Ip{s:Src}{N:Int}(h:iP s N)(b:Bool){f:Int}(hf:0≤f∧f≤5):iP (nJ s b f).2 (N+20):=by
 have h1:=ch s (n:=f+1) (by omega)
 exact(DF b _ _ (h.pick (f+1))).mono (by omega)
theorem vr{s:Src}{N:Int}(hS:iP s N)(hN:N≤500000000)(b:Bool){f:Int}(hf:0≤f∧f≤5):
 ah Tryz.prog 111 [.c (.op (c8 s)),B b,I f] [some [.op (c8 (nJ s b f).2)],none,none] (.c (.ows 4 1 ((nJ s b f).1.map eB))):=by
 have cp:=cV s (hS.rd.mono (by omega)) hS.len (f+1) (by unfold jI;omega)
 have bp:=ch s (n:=f+1) (by omega)
 have hS1:=hS.pick (f+1)
 obtain⟨R,hR⟩:∃R,nJ s b f=R:=⟨_,rfl⟩
 rw[hR]
 unfold nJ at hR
 generalize bK s (f+1)=m at cp bp hR
 generalize ar s (f+1)=s1 at cp hS1 hR
 obtain⟨k,rfl⟩:∃k:Nat,m=(k:Int):=⟨m.toNat,by omega⟩
 rw[Int.toNat_natCast] at hR
 refine cX Tryz.func111 (h:= ?_)
 repeat'((conv=>whnf);first
  |(guard_target=aa _ 53 _ _ _ _;(have _:=hT);(obtain⟨j,rfl⟩:∃j,i=j+1:=⟨i-1,by omega⟩);(have c5:=cV s2 (hS2.rd.mono (by omega)) hS2.len 5 (by unfold jI;omega));(have b5:=ch s2 (n:=5) (by omega));(have hS5:=hS2.pick 5);rw[qS] at hT;generalize bK s2 5=w at c5 b5 hT;generalize ar s2 5=s5 at c5 hS5 hT;refine aa.gen [true,false] _ _ _ rfl c5 rfl rfl _ rfl ?_)|(guard_target=aq _ _;(have h9:=‹¬z>0›);(obtain rfl:i=0:=by omega);(obtain rfl:(o,s2)=R:=hT);exact aq.mk rfl ⟨rfl,trivial⟩)|(guard_target=~ aK 3 _ _ _ _ _ _;refine sM (Nat × List Bool) [0,1,2] (fun⟨i,o1⟩=>[(7, .lw 2),(8,I (i:Nat))]) (fun⟨i,o1⟩=>[(2, .row none 4 1 (o1.map eB))]) (fun⟨i,o1⟩=>i≤5∧o1=List.replicate i b) (fun⟨i,o1⟩=>5-i) (0,[]) (by exact⟨Nat.zero_le _,rfl⟩) (fun A ha=> ?_);obtain⟨i,o1⟩:=A;have ha:i≤5∧o1=List.replicate i b:=ha;(obtain⟨hi1,hr1⟩:=ha);(have hrl:(o1.map eB).length≤5:=by rw[hr1,List.length_map,List.length_replicate];exact hi1);(have hrl2:o1.length≤5:=by rw[hr1,List.length_replicate];exact hi1))|(guard_target=~ aK 7 _ _ _ _ _ _;refine sM (Int × Nat × Src × List Bool) [0,1,7] (fun⟨z,i,s2,o⟩=>[(9,I z)]) (fun⟨z,i,s2,o⟩=>[(0, .cc 3 (c8 s2)),(2, .row none 4 1 (o.map eB))]) (fun⟨z,i,s2,o⟩=>z=(i:Nat)∧i≤k∧o.length=5∧qS b i s2 o=R∧iP s2 (N+2+2*((k:Int)-i))) (fun⟨z,i,s2,o⟩=>i) ((k:Int),k,s1,o1) (by exact⟨rfl,Nat.le_refl _,by(have h5:i=5:=by omega);rw[hr1,h5];rfl,by(have h5:i=5:=by omega);show qS b k s1 o1=R;rw[hr1,h5];exact hR,hS1.mono (by show _≤N+2+2*((k:Int)-(k:Int));omega)⟩) (fun A ha=> ?_);obtain⟨z,i,s2,o⟩:=A;have ha:z=(i:Nat)∧i≤k∧o.length=5∧qS b i s2 o=R∧iP s2 (N+2+2*((k:Int)-i)):=ha;(obtain⟨hz,hi,ho,hT,hS2⟩:=ha);(have hml:(o.map eB).length=o.length:=List.length_map _))
  |refine nx ((i+1,o1++[b]):Nat × List Bool) (by exact⟨by show i+1≤5;omega,by show o1++[b]=_;rw[hr1,List.replicate_succ']⟩)
  |refine nx ((z-1,j,s5,o.set w.toNat (!b)):Int × Nat × Src × List Bool) (by exact⟨by show z-1=_;omega,by show j≤k;omega,by show(o.set _ _).length=5;rw[List.length_set];exact ho,hT,hS5.mono (by show _≤N+2+2*((k:Int)-(j:Int));omega)⟩)
  |(apply Fact.mk;intro hL;try simp only[List.length_map,maxLen] at hL)
  |((first|apply bA|apply bB|apply bC|apply bD|apply bE|apply bF)<;>intro h<;>(try simp only[List.length_map] at h)<;>(try omega)<;>(try contradiction))|(guard_target=aa _ 53 _ _ _ _;refine cG [true,false] rfl (cp) ?_)
  |refine aR ?_
  |refine iX (k:= ?_)|(guard_target=aV _ _;refine aV.mk (by first|((simp only[List.length_map,List.length_cons,List.length_nil,List.length_append,maxLen];first|omega|(constructor<;>omega)))|fail) ?_))
 all_goals first|rfl|exact⟨rfl,trivial⟩|exact⟨rfl,rfl,trivial⟩|trivial
end Go.Proofs.YtgbggaddpbghfaaGreat
namespace Go.Proofs.YtgbggaddpbghfaaGreat
open Go Go.KA Go.Proofs
set_option maxHeartbeats 16000000
set_option maxRecDepth 100000
theorem JL{α:Type}{p:α→Bool}{l:List α}(h:0≤nK p l):∃hi:(nK p l).toNat<l.length,p (l[(nK p l).toNat]'hi)=true:=by
 rcases AE p l with⟨h1,_⟩|⟨i,hi,h1,h2,h3⟩
 ·omega
 ·rw[h1]
  exact⟨by simpa using hi,by simpa using h2⟩
theorem QN(x y:bT):eqv x y=(eqv x.left y.left&&eqv x.right y.right):=by
 cases x;cases y
 refine Bool.eq_iff_iff.2 ?_
 simp
theorem rh(x y:bT):aD Tryz.prog 141 [.c (.rp 6 (aU x)), .c (.rp 6 (aU y))] (B (eqv x y)):=by
 rw[QN]
 refine cF Tryz.func141 (h:= ?_)
 repeat'((conv=>whnf);first
  |(apply bh.mk;first|(simp_all[cO,cM];done)|skip)
  |((first|apply bA|apply bB|apply bC|apply bD|apply bE|apply bF)<;>intro h<;>(try simp only[List.length_map] at h)<;>(try omega)<;>(try contradiction))|(guard_target=aa _ 51 _ _ _ _;refine cP rfl (mH _ _ _ _ 6 (by decide)) ?_)|(guard_target=aa _ 51 _ _ _ _;refine cP rfl (mH _ _ [] [] 3 (by decide)) ?_)
  |refine nB ?_)
theorem pz{α:Type}{f:α→Nat}{n:Nat}:∀{l:List α},(∀x∈l,f x≤n)→cZ f l≤n*l.length
 |[],_=>Nat.zero_le _
 |x::xs,h=>by
  have h1:=h x (by simp)
  have h2:=pz (f:=f) (n:=n) (l:=xs) fun y hy=>h y (by simp[hy])
  simp only[cZ,List.length_cons,Nat.mul_succ]
  omega
theorem J6{t a:Int}{s:aB}(h:cU t a s=true):bJ s≤1500:=by
 have h2:=jj h
 simp only[cU,Bool.and_eq_true,decide_eq_true_eq] at h
 have h3:=pz (f:=aj) (n:=200) (l:=s.au) fun x hx=>dw (h2.1 x hx)
 have h4:=pz (f:=aj) (n:=200) (l:=s.c9) fun x hx=>dw (h2.2 x hx)
 unfold bJ eK
 omega
theorem zU{t a:Int}{c:bm}{n:Nat}(h:cq t a c=true)(hn:c.steps.length≤n)(h2:n≤2):bV c≤400+1501*n:=by
 have hc:=ko h
 have h1:=dw hc.1
 have h3:=dw hc.2.1
 have h4:=pz (f:=bJ) (n:=1500) (l:=c.steps) fun x hx=>J6 (hc.2.2.2 x hx)
 unfold bV eK
 omega
theorem Ks{t a:Int}{n:Nat}{l:List bm}(h:DC t a n l)(hn:n≤2):b7 ⟨⟨t,a⟩,l⟩≤5000:=by
 have hl:=h.len
 have h1:cZ bV (l.take n)≤400*(l.take n).length:=pz fun x hx=>by
  obtain⟨i,hi,rfl⟩:=List.mem_iff_getElem.1 hx
  rw[List.length_take] at hi
  have h2:=h.ok i (by omega)
  rw[getD_eq (by omega)] at h2
  rw[List.getElem_take]
  have:=zU (n:=0) h2.1 (by rw[h2.2.2.2 (by omega)];exact Nat.le_refl _) (by omega)
  omega
 have h2:=h.ok n (by omega)
 have h3:cZ bV l=cZ bV (l.take n)+bV (l.getD n c0):=by
  have h4:=uc (f:=bV) (l:=l) (i:=n) (x:=l.getD n c0) (by rw[getD_eq (by omega)];exact List.getElem?_eq_getElem _)
  rwa[List.take_of_length_le (by omega)] at h4
 have h4:=zU (n:=2) h2.1 h2.2.2.1 (by omega)
 rw[List.length_take] at h1
 unfold b7 eK Fa
 show 0+(l.length+cZ bV l)≤5000
 omega
theorem JP{t a:Int}{n:Nat}{l:List bm}(h:DC t a n l):∀c∈l,cq t a c=true∧c.kg=1:=fun c hc=>by
 obtain⟨i,hi,rfl⟩:=List.mem_iff_getElem.1 hc
 have:=h.ok i hi
 rw[getD_eq hi] at this
 exact⟨this.1,this.2.1⟩
theorem FP{t a:Int}(hs:bO t a=true){notes:List aM}(hg:ed t a notes=true){r:List Int}{l:List bm}(hr:DR notes r)(h2:r.length≤2)(hd:DC t a r.length l):dz t a r ⟨⟨t,a⟩,l⟩=true:=by
 have hl:=hd.len
 have hb:=Ks hd h2
 have hp:=D5 ⟨⟨t,a⟩,l⟩
 have hm:=JP hd
 have hgp:dy ⟨⟨t,a⟩,l⟩=true:=by
  simp only[dy,Bool.and_eq_true,decide_eq_true_eq,List.all_eq_true]
  exact⟨hs,by omega,fun c hc=>(hm c hc).1⟩
 have ha:r.all (dJ 0 99)=true:=List.all_eq_true.2 fun x hx=>by
  have:=zM hg false x (vM.2 (hr.kn x hx))
  exact eL this.1 this.2
 simp only[dz,Bool.and_eq_true,decide_eq_true_eq,beq_self_eq_true,true_and]
 exact⟨by omega,hr.nd,ha,hgp,by omega,by omega⟩
theorem sU{t a:Int}{notes:List aM}(hg:ed t a notes=true){x:Int}(hx:0≤bz notes false x):cJ t a (notes.getD (bz notes false x).toNat n0)=true∧(notes.getD (bz notes false x).toNat n0).bU=false∧bz notes false x<(notes.length:Nat):=by
 obtain⟨hi,hp⟩:=JL (p:=gY false x) (l:=notes) hx
 have h1:=Kw hg hi
 unfold bz at hx⊢
 rw[getD_eq hi]
 simp only[gY,Bool.and_eq_true,beq_iff_eq] at hp
 exact⟨h1.1,hp.1,by omega⟩
theorem wI{t a:Int}{n:aM}(h:cJ t a n=true)(hr:n.bU=false):0<n.entry.proof.ao.length∧n.entry.proof.ao.length≤40∧aY t a (nI n.entry).left=true∧aY t a (nI n.entry).right=true:=by
 have h1:=(OK h).ao hr
 refine⟨h1.1,h1.2, ?_⟩
 unfold cJ at h
 rw[hr] at h
 simp only[Bool.false_eq_true,if_false,Bool.and_eq_true,dz,beq_iff_eq] at h
 obtain⟨_,_,_,_,_,h4,⟨e1,e2⟩,_⟩:=h
 simp only[dy,Bool.and_eq_true,List.all_eq_true] at h4
 have hm:xm n.entry∈n.entry.proof.ao:=by
  unfold xm
  rw[getD_eq (by omega)]
  exact List.getElem_mem _
 have h5:=ko (h4.2.2 _ hm)
 rw[e1,e2] at h5
 exact⟨h5.1,h5.2.1⟩
section
variable{A:af}(hG:GB A)
include hG
theorem GB.QE:0≤A.sig.au∧A.sig.au≤3∧0≤A.sig.ai∧A.sig.ai≤4:=by
 have h:=hG.sig
 simp only[bO,dJ,Bool.and_eq_true,decide_eq_true_eq] at h
 omega
theorem vt{s:Src}{N:Int}(hS:iP s N)(hN:N≤300000000){sv wr:Int}(hp:bY A sv=true)(hw:0≤wr∧wr≤100):
 gJ Tryz.prog 109 [.c (.op (c8 s)), .c (.op (az A)),I sv,I wr]
  (fun x:List Int × List bm × Src=>DR (sA A sv).notes x.1∧x.1.length≤2∧DC A.sig.au A.sig.ai x.1.length x.2.1∧iP x.2.2 (N+400000))
  (fun x=>[some [.op (c8 x.2.2)],some [.op (az A)],none,none]) (fun x=> .tup [.c (.ows 2 1 (x.1.map eI)), .a 3 [J A.sig.au,J A.sig.ai, .ows 104 9 (x.2.1.map aH)]]):=by
 have hl:=CR hp
 have hsv:=hG.srv _ (jY hp)
 have hn:=hsv.uz
 have hm:∀x∈(pM 100 fun i=>decide (0≤bz (sA A sv).notes false i)),0≤bz (sA A sv).notes false x:=fun x hx=>by
  unfold pM at hx
  obtain⟨i,hi,rfl⟩:=List.mem_map.1 hx
  exact of_decide_eq_true (List.mem_filter.1 hi).2
 exact wL (t:=A.sig.au) (a:=A.sig.ai) (srv:=A.ab) (fl:=A.aw) (notes:=(sA A sv).notes) (up:=(sA A sv).up) (sav:=(sA A sv).saved) hG.sig hG.QE hl.1 (by omega) (aF (d:=db) (by omega)) hsv.F5 hw (xl 100 _) (fun x hx=>⟨hm x hx,(sU hn (hm x hx)).2.2⟩) (yK _ _)
  (fun x hx=>by
   have h1:=sU hn (hm x hx)
   have h2:=wI h1.1 h1.2.1
   exact uQ _ h2.1 (by omega))
  (fun x hx=>by
   have h1:=sU hn (hm x hx)
   have h2:=wI h1.1 h1.2.1
   exact h2.2.2) hS hN
theorem B8{sv:Int}(hp:bY A sv=true){r:List Int}{l:List bm}(hr:DR (sA A sv).notes r)(h2:r.length≤2)(hd:DC A.sig.au A.sig.ai r.length l):
 aD Tryz.prog 110 [.c (.rp 3 (cE (sA A sv))), .c (.ro 1 (r.map eI)), .c (.rp 3 (cK ⟨A.sig,l⟩))] (B (FF (sA A sv).notes r ⟨A.sig,l⟩)):=by
 have hsv:=hG.srv _ (jY hp)
 have hn:=hsv.uz
 have hl:=hd.len
 have hm:=JP hd
 have hk:∀i,i<r.length→0≤bz (sA A sv).notes false (r.getD i 0):=fun i hi=>hr.kn _ (by rw[getD_eq hi];exact List.getElem_mem _)
 exact Es (sv:=sA A sv) (p:=⟨A.sig,l⟩) (by show r.length≤l.length;omega) (by show l.length≤40;omega) (by omega) (fun i hi=>⟨hk i hi,(sU hn (hk i hi)).2.2⟩)
  (fun i hi=>by
   have h1:=sU hn (hk i hi)
   have h3:=wI h1.1 h1.2.1
   exact uQ _ h3.1 (by omega))
  (fun i hi=>rh _ _)
  (fun k h1 h3=>Dr hG.sig hG.QE (fun c hc=>(hm c hc).1) h3 (by omega) (by
   show(l.getD k c0).kg=1
   rw[getD_eq h3]
   exact(hm _ (List.getElem_mem _)).2))
end
end Go.Proofs.YtgbggaddpbghfaaGreat
namespace Go.Proofs.YtgbggaddpbghfaaGreat
open Go Go.KA Go.Proofs
set_option maxHeartbeats 16000000
set_option maxRecDepth 100000
def D2(e:aS):List CV:=[J e.kind,J e.a,J e.b,J e.c, .ows 2 1 (e.bj.map eI),J e.proof.sig.au,J e.proof.sig.ai, .ows 104 9 (e.proof.ao.map aH), .ows 4 1 (e.mb.map eB)]
structure AA(t a:Int)(e:aS):Prop where
 uz:cH t a e=true
 Pj:cN e≤5100
section
variable{A:af}(hG:GB A)
include hG
theorem KQ{sv:Int}(hp:bY A sv=true){r:List Int}{l:List bm}{v:List Bool}(hr:DR (sA A sv).notes r)(h2:r.length≤2)(hd:DC A.sig.au A.sig.ai r.length l)(hv:v.length=5):AA A.sig.au A.sig.ai ⟨1,sv,0,0,r,⟨A.sig,l⟩,v⟩:=by
 have h5:=bX hG.n5
 have h6:=bX hp
 have hb:b7 ⟨A.sig,l⟩≤5000:=Ks hd h2
 refine⟨?_, ?_⟩
 ·have he:dz A.sig.au A.sig.ai r ⟨A.sig,l⟩=true:=FP hG.sig (hG.srv _ (jY hp)).uz hr h2 hd
  simp only[cH,Bool.and_eq_true,Bool.or_eq_true,decide_eq_true_eq,if_true]
  exact⟨by decide,eL (by omega) (by omega),by decide,by decide, .inr (.inr trivial), .inr trivial,he,by rw[hv];rfl⟩
 ·show r.length+b7 ⟨A.sig,l⟩+v.length≤5100
  omega
theorem yy{s:Src}{N:Int}(hS:iP s N)(hN:N≤300000000){sv wr f:Int}(hp:bY A sv=true)(hw:0≤wr∧wr≤100)(hf:0≤f∧f≤5):
 gJ Tryz.prog 75 [.c (.op (c8 s)), .c (.op (az A)),I sv,I wr,I f]
  (fun x:aS × Src=>AA A.sig.au A.sig.ai x.1∧iP x.2 (N+400100)) (fun x=>[some [.op (c8 x.2)],some [.op (az A)],none,none,none]) (fun x=> .a 9 (D2 x.1)):=by
 have hl:=CR hp
 have hix:(A.ab.map cE)[sv.toNat]? =some (cE (sA A sv)):=aF (d:=db) (by omega)
 generalize hX:sA A sv=X at hix
 obtain⟨up,nts,sav⟩:=X
 refine Pe Tryz.func75 (h:= ?_)
 repeat'((conv=>whnf);first
  |(guard_target=Gh _ _ _ _ _;refine Gh.go ⟨((⟨1,sv,0,0,r,⟨A.sig,cl⟩,(nJ s1 (FF nts r ⟨A.sig,cl⟩) f).1⟩,(nJ s1 (FF nts r ⟨A.sig,cl⟩) f).2):aS × Src),⟨hP _,(hV2 _).mono (by omega)⟩, ?_⟩)
  |refine aq.mk ?_ ?_|(guard_target=aa _ 110 _ _ _ _;refine cP rfl (hR) ?_)|(guard_target=aa _ 111 _ _ _ _;refine cG [true,false,false] rfl (hV _) ?_)|(guard_target=aa _ 109 _ _ _ _;refine aa.ex rfl [true,true,false,false] _ _ _ _ rfl (vt hG hS hN hp hw) rfl rfl (fun x hx=> ?_);(obtain⟨r,cl,s1⟩:=x);(obtain⟨x1,x2,x3,x4⟩:=hx);(have hR:=B8 hG hp x1 x2 x3);rw[hX] at hR;(have hV:=fun b=>vr x4 (by omega) b hf);(have hV2:=fun b=>Ip x4 b hf);(have hP:=fun b=>KQ hG hp x1 x2 x3 (Fe s1 b f));(try simp only[] at x2 hR hV hV2 hP))|(guard_target=Index _ _ _;first|(refine Index.mk _ (hix) ?_)|fail)
  |refine nB ?_
  |refine nO ?_)
 all_goals first|rfl|exact⟨rfl,trivial⟩|exact⟨rfl,rfl,trivial⟩|trivial
end
end Go.Proofs.YtgbggaddpbghfaaGreat
namespace Go.Proofs.YtgbggaddpbghfaaGreat
open Go Go.KA Go.Proofs
set_option maxHeartbeats 16000000
set_option maxRecDepth 100000
theorem MS{t a k x y z:Int}(hk:2≤k∧k≤9)(hx:0≤x∧x≤999)(hy:0≤y∧y≤999)(hz:0≤z∧z≤999)(h2:k=2∨k=3∨y=0)(h3:k=3∨z=0):AA t a ⟨k,x,y,z,[],⟨⟨0,0⟩,[]⟩,[]⟩:=by
 refine⟨?_,by show(0:Nat)+(0+(0+0))+0≤5100;omega⟩
 simp only[cH,Bool.and_eq_true,Bool.or_eq_true,decide_eq_true_eq]
 refine⟨eL (by omega) (by omega),eL hx.1 hx.2,eL hy.1 hy.2,eL hz.1 hz.2,h2,h3, ?_⟩
 rw[if_neg (by omega)]
 rfl
section
variable{A:af}(hG:GB A)
include hG
theorem Oo{at_:Int}(hp:bY A at_=true){x:Int}(hx:x∈(pM 100 fun i=>decide (0≤bz (sA A at_).notes false i))):0≤x∧x≤99:=by
 unfold pM at hx
 obtain⟨i,hi,rfl⟩:=List.mem_map.1 hx
 have:=of_decide_eq_true (List.mem_filter.1 hi).2
 exact zM (hG.srv _ (jY hp)).uz false _ (vM.2 this)
omit hG in
theorem M1{ids:List Int}(h:∀x∈ids,0≤x∧x≤99):∀i:Nat,0≤ids.getD i 0∧ids.getD i 0≤999:=fun i=>by
 by_cases hi:i<ids.length
 ·have:=h _ (List.getElem_mem hi)
  rw[getD_eq hi]
  omega
 ·have e:ids.getD i 0=0:=by simp[List.getElem?_eq_none (show ids.length≤i by omega)]
  rw[e]
  omega
theorem vp{s:Src}{N:Int}(hS':iP s N)(hN:N≤200000000){f:Int}(hf:0≤f∧f≤5):
 gJ Tryz.prog 36 [.c (.op (c8 s)), .c (.op (az A)),I f]
  (fun x:aS × Src=>AA A.sig.au A.sig.ai x.1∧iP x.2 (N+401000)) (fun x=>[some [.op (c8 x.2)],some [.op (az A)],none]) (fun x=> .a 9 (D2 x.1)):=by
 have hn5:=bX hG.n5
 have hf12:=hG.f12
 have hl1:(A.ab.map cE).length=A.ab.length:=List.length_map _
 have hl2:(A.aw.map aQ).length=A.aw.length:=List.length_map _
 have hixA:∀i:Int,0≤i→i<(A.ab.length:Nat)→(A.ab.map cE)[i.toNat]? =some (cE (sA A i)):=fun i h1 h2=>aF (d:=db) (by omega)
 have hplA:∀i:Int,0≤i→i<(A.ab.length:Nat)→bY A i=true:=fun i h1 h2=>eL h1 (by omega)
 refine Pe Tryz.func36 (h:= ?_)
 repeat'((conv=>whnf);first
  |(guard_target=aa _ 73 _ _ _ _;(fail_if_success (have _:=kd));refine Ez (l:=[1,1,1,2,3,3,3,3,4,4,4,4,5,6,7,7,7,8,9,9]) hS' (by omega) ⟨by decide,by decide⟩ rfl rfl rfl (fun kd s' hS' hkd=> ?_);(have hkr:1≤kd∧kd≤9:=by simp at hkd;omega))|(guard_target=aa _ 53 _ _ _ _;(fail_if_success (have _:=pl));refine zl hS' (by omega) (by unfold jI;omega) rfl rfl rfl (fun pl s' hS' hp0 hp1=> ?_);rw[hl1] at hp1;(have hp2:=hp1 (by omega));(have hpl:=hplA pl hp0 hp2);(have hix:=hixA pl hp0 hp2);(have hsv:=hG.srv _ (jY hpl));(have h20:=hsv.F5);(have ci:=yK (sA A pl).notes false);(have hir:=fun x=>Oo hG hpl (x:=x));(have hil:=xl 100 fun i=>decide (0≤bz (sA A pl).notes false i));generalize hX:sA A pl=X at hix h20 ci hir hil;(obtain⟨up,nts,sav⟩:=X);(try simp only[] at h20 ci hir hil);generalize(pM 100 fun i=>decide (0≤bz nts false i))=ids at ci hir hil;(have hl3:(ids.map eI).length=ids.length:=List.length_map _);(have hq9:=M1 hir);(have hl4:(nts.map bg).length=nts.length:=List.length_map _);(have cm:=ID 1 ((nts.map bg).length:Nat));generalize hm:(if(1:Int)>((nts.map bg).length:Nat) then(1:Int) else((nts.map bg).length:Nat))=m at cm;(have hm1:1≤m∧m≤20:=by rw[←hm];split<;>omega))|(guard_target=Gh _ _ _ _ _;(have _:=hxP);refine Gh.go ⟨((xe,xs):aS × Src),⟨hxP.1,hxP.2.mono (by omega)⟩, ?_⟩)|(guard_target=Gh _ _ _ _ _;(fail_if_success (have _:=hxP));(have _:=‹¬kd=1›);refine Gh.go ⟨((⟨kd,_,_,_,[],⟨⟨0,0⟩,[]⟩,[]⟩,s'):aS × Src), ?_,aq.mk rfl ⟨rfl,rfl,trivial⟩⟩)
  |refine aq.mk ?_ ?_
  |(apply Fact.mk;intro hL;try simp only[List.length_map,maxLen] at hL)
  |((first|apply bA|apply bB|apply bC|apply bD|apply bE|apply bF)<;>intro h<;>(try simp only[List.length_map] at h)<;>(try omega)<;>(try contradiction))|(guard_target=aa _ 58 _ _ _ _;refine cG [] rfl (ci) ?_)|(guard_target=aa _ 77 _ _ _ _;refine cP rfl (cm) ?_)|(guard_target=aa _ 73 _ _ _ _;refine Ez (l:=[5,99,999]) hS' (by omega) ⟨by decide,by decide⟩ rfl rfl rfl (fun w s' hS' hw=> ?_);(have hwr:0≤w∧w≤999:=by simp at hw;omega))|(guard_target=aa _ 53 _ _ _ _;refine zl hS' (by omega) (by unfold jI;omega) rfl rfl rfl (fun v s' hS' hv0 hv1=> ?_))|(guard_target=aa _ 76 _ _ _ _;refine Pu hS' (by omega) (by unfold jI;omega) rfl rfl rfl (fun v s' hS'=> ?_))|(guard_target=aa _ 75 _ _ _ _;refine aa.ex rfl [true,true,false,false,false] _ _ _ _ rfl (yy hG hS' (by omega) hpl (wr:=5) (by omega) hf) rfl rfl (fun x hx=> ?_);(obtain⟨xe,xs⟩:=x);(have hxP:=hx))
  |refine aR ?_|(guard_target=Index _ _ _;first|(refine Index.mk _ (hix) ?_)|(refine Index.mk _ (aF (l:=ids) (d:=0) (i:=v.toNat) (by omega)) ?_)|fail)|(guard_target=aV _ _;refine aV.mk (by first|((simp only[List.length_map,List.length_cons,List.length_nil,List.length_append,maxLen];first|omega|(constructor<;>omega)))|fail) ?_)
  |refine nO ?_)
 all_goals first|exact⟨MS (by omega) (by omega) (by first|omega|exact hq9 _) (by omega) (by omega) (by omega),hS'.mono (by omega)⟩|(have _:=hxP;first|rfl|exact⟨rfl,rfl,trivial⟩)
end
end Go.Proofs.YtgbggaddpbghfaaGreat
namespace Go.Proofs.YtgbggaddpbghfaaGreat
open Go Go.KA Go.Proofs
set_option maxHeartbeats 4000000
set_option maxRecDepth 100000
def Small(a:af):Prop:=∀x∈iz a,bu x≤5100
section
variable{a:af}(hG:GB a)(h:Small a)
include hG h
omit hG in
theorem ql{i:Int}{s:aO}(hs:∀x∈s.notes,bu x≤5100):Small (iy a i s):=fun x hx=>by
 rcases Bt hx with h1|h1
 ·exact h x h1
 ·exact hs x h1
omit hG in
theorem m9{i:Int}(hi:bY a i=true):∀x∈(sA a i).notes,bu x≤5100:=fun x hx=>h x (dQ.2 (.inl ⟨_,jY hi,hx⟩))
omit hG in
theorem uD{i:Int}(hi:bY a i=true){n:aM}(hn:bu n≤5100):Small (iy a i (jB (sA a i) n)):=ql h fun x hx=>by
 rcases List.mem_append.1 hx with h1|h1
 ·exact m9 h hi x h1
 ·obtain rfl:=List.mem_singleton.1 h1
  exact hn
omit hG in
theorem zq{l:List cB}(hl:∀p∈l,bu p.note≤5100):Small ⟨a.sig,a.ab,l⟩:=fun x hx=>by
 rcases dQ.1 hx with⟨s,hs,h1⟩|⟨p,hp,rfl⟩
 ·exact h x (dQ.2 (.inl ⟨s,hs,h1⟩))
 ·exact hl p hp
omit hG in
theorem pW{p:cB}(hp:p∈a.aw):bu p.note≤5100:=h _ (dQ.2 (.inr ⟨p,hp,rfl⟩))
omit hG in
theorem v7(i:Int):Small (dP a i).2:=by
 unfold dP
 split
 ·exact h
 ·refine zq h fun p hp=> ?_
  rcases List.mem_append.1 hp with hp|hp
  ·exact pW h (List.mem_of_mem_take hp)
  ·exact pW h (List.mem_of_mem_drop hp)
theorem xI{i:Int}(hi:0≤i):Small (bM a i).2:=by
 unfold bM
 split
 ·exact h
 ·rename_i h1
  have hp:eQ a i∈a.aw:=by
   show a.aw.getD i.toNat jl∈_
   rw[getD_eq (by omega)]
   exact List.getElem_mem _
  split
  ·exact h
  ·split
   ·exact h
   ·exact uD h (hG.place hp) (pW h hp)
theorem HW{e:aS}(he:cH a.sig.au a.sig.ai e=true)(hb:cN e≤5100):Small (iB a e).2:=by
 have hr:(0≤e.a)∧0≤e.c:=by
  simp only[cH,Bool.and_eq_true] at he
  have h1:=bX he.2.1
  have h2:=bX he.2.2.2.1
  omega
 unfold iB
 split
 ·unfold dR
  split
  ·exact v7 (xI hG h hr.1) _
  ·exact h
 split
 ·exact xI hG h hr.1
 split
 ·exact v7 h _
 split
 ·exact h
 rename_i hp
 have hp:bY a e.a=true:=by simpa using hp
 split
 ·unfold eJ
  split
  ·exact h
  split
  ·exact h
  split
  ·exact h
  ·refine uD h hp ?_
   unfold cN at hb
   show e.bj.length+b7 e.proof≤5100
   omega
 split
 ·unfold cD
  split
  ·exact h
  split
  ·exact h
  split
  ·exact h
  ·exact uD h hp (by show(0:Nat)+(0+(0+0))≤5100;omega)
 split
 ·unfold dv
  split
  ·exact h
  split
  ·exact h
  split
  ·exact h
  ·rename_i h1 h2 h3
   refine zq h fun p hq=> ?_
   rcases List.mem_append.1 hq with hq|hq
   ·exact pW h hq
   ·obtain rfl:=List.mem_singleton.1 hq
    simp only[Bool.or_eq_true,decide_eq_true_eq,not_or] at h1
    refine m9 h hp _ ?_
    show(sA a e.a).notes.getD e.c.toNat n0∈_
    rw[getD_eq (by omega)]
    exact List.getElem_mem _
 ·unfold iw
  split
  ·exact h
  split
  ·exact ql h (m9 h hp)
  split
  ·exact ql h fun x hx=>m9 h hp x (List.mem_of_mem_take hx)
  ·exact ql h (m9 h hp)
end
end Go.Proofs.YtgbggaddpbghfaaGreat
namespace Go.Proofs.YtgbggaddpbghfaaGreat
open Go Go.KA Go.Proofs
set_option maxHeartbeats 4000000
set_option maxRecDepth 100000
theorem qh{a:af}(hG:GB a)(h:Small a):b8 a≤600000:=by
 have h5:=bX hG.n5
 have hf:=hG.f12
 have h1:cZ c7 a.ab≤102100*a.ab.length:=pz fun s hs=>by
  have h20:=(hG.srv s hs).F5
  have h2:cZ bu s.notes≤5100*s.notes.length:=pz fun x hx=>h x (dQ.2 (.inl ⟨s,hs,hx⟩))
  show s.notes.length+cZ bu s.notes≤102100
  omega
 have h3:cZ fO a.aw≤5100*a.aw.length:=pz fun p hp=>h _ (dQ.2 (.inr ⟨p,hp,rfl⟩))
 show 0+(a.ab.length+cZ c7 a.ab)+(a.aw.length+cZ fO a.aw)≤600000
 omega
end Go.Proofs.YtgbggaddpbghfaaGreat
namespace Go.Proofs.YtgbggaddpbghfaaGreat
open Go Go.KA Go.Proofs
set_option maxHeartbeats 16000000
set_option maxRecDepth 100000
theorem J2(a:af):nr (cj a)=az a:=by
 have h:∀s:aO,nr (bI s)=cE s:=fun s=>by
  simp only[bI,cE,nr,l5,bQ (f:=bg) (g:=bg) (fun _=>rfl)]
 simp only[cj,az,nr,l5,bQ h,bQ (f:=aQ) (g:=aQ) (fun _=>rfl)]
theorem wF(a:af)(i:Int):(dP a i).2.sig=a.sig:=by unfold dP;split<;>rfl
theorem wQ(a:af)(i:Int):(bM a i).2.sig=a.sig:=by unfold bM;(repeat' split)<;>rfl
theorem L5(a:af)(e:aS):(iB a e).2.sig=a.sig:=by
 unfold iB
 split
 ·unfold dR
  split
  ·rw[wF,wQ]
  ·rfl
 split
 ·exact wQ _ _
 split
 ·exact wF _ _
 split
 ·rfl
 split
 ·unfold eJ;(repeat' split)<;>rfl
 split
 ·unfold cD;(repeat' split)<;>rfl
 split
 ·unfold dv;(repeat' split)<;>rfl
 ·unfold iw;(repeat' split)<;>rfl
theorem GJ(a:af):dj (cj a) (az a):=by
 have h:dj (cj a) (nr (cj a)):= .same (.same (.ro (.ro .nil)))
 rwa[J2] at h
section
variable{A0:af}(hG0:GB A0)(hS0:Small A0){f:Int}(hf:0≤f∧f≤5)
 (hev:∀(A:af) (s:Src) (N:Int),GB A→iP s N→N≤200000000→gJ Tryz.prog 36 [.c (.op (c8 s)), .c (.op (az A)),I f]
  (fun x:aS × Src=>AA A.sig.au A.sig.ai x.1∧iP x.2 (N+401000)) (fun x=>[some [.op (c8 x.2)],some [.op (az A)],none]) (fun x=> .a 9 (D2 x.1)))
include hG0 hS0 hf hev
theorem E5{s:Src}{N:Int}(hS':iP s N)(hN:N≤100000000){k:Nat}(hk:k≤30):
 gJ Tryz.prog 74 [.c (.op (c8 s)), .c (.rp 4 (az A0)),I (k:Nat),I f]
  (fun x:af × Src=>(GB x.1∧Small x.1∧x.1.sig=A0.sig)∧iP x.2 (N+401000*k)) (fun x=>[some [.op (c8 x.2)],none,none,none]) (fun x=> .a 4 (az x.1)):=by
 have _:=hf
 have ho:ah Tryz.prog 68 [.c (.rp 4 (az A0))] [] (.a 4 (az A0)):=(CN A0 (CA.of (by have:=qh hG0 hS0;omega))).soft (.v (.a (GJ A0)))
 have hst:∀(A:af) (e:aS),GB A→Small A→AA A.sig.au A.sig.ai e→ah Tryz.prog 41 [.c (.op (az A)), .c (.rp 9 (aT e))] [some [.op (az A)],none] (.tup [.a 4 (az (fy A e).2),I (fy A e).1]):=fun A e h1 h2 h3=>by
  have hb:=qh h1 h2
  have he:=EA.of h3.uz (by have:=h3.Pj;omega)
  exact(xt A e (WA.of (Jq.2 h1) (by omega)) he.1 he.2).soft (.tup (.cons (.a (GJ _)) (.cons .same .nil)))
 have hnx:∀(A:af) (e:aS),GB A→Small A→AA A.sig.au A.sig.ai e→(fy A e).1=0→GB (fy A e).2∧Small (fy A e).2∧(fy A e).2.sig=A.sig:=fun A e h1 h2 h3 h4=>by
  unfold fy at h4⊢
  split at h4
  ·rename_i h5
   rw[if_pos h5]
   exact⟨Lx h1 h3.uz,HW h1 h2 h3.uz h3.Pj,L5 A e⟩
  ·rename_i h5
   exact absurd h4 h5
 refine Pe Tryz.func74 (fun reg_=>match reg_ with|6=>true|_=>false) (h:= ?_)
 repeat'((conv=>whnf);first
  |(guard_target=Gh _ _ _ _ _;(have _:=hE);(fail_if_success (have _:=hg6));(have hg6:=hE);refine Gh.zG 7 _ rfl (Gh.zG 8 _ rfl (Gh.zG 9 _ rfl (Gh.soft 13 (.cc rfl) (Gh.DU 13 _ rfl (Gh.go ?_))))))|(guard_target=Gh _ _ _ _ _;(have _:=hg6);(have h0:=‹(fy A e).1=0›);(have hn:=hnx A e ha.1.2.1 ha.1.2.2.1 hE h0);refine Gh.go ⟨((i+1,(fy A e).2,s2):Nat × af × Src),(by exact⟨⟨by show i+1≤k;omega,hn.1,hn.2.1,hn.2.2.trans ha.1.2.2.2⟩,hS'.mono (by show _≤N+401000*((i+1:Nat):Int);omega)⟩),(by show k-(i+1)<k-i;omega),(by(repeat'((conv=>whnf)<;>(first|exact trivial|refine⟨?_, ?_⟩|kernel_rfl)));done),(by(repeat'((conv=>whnf)<;>(first|exact trivial|refine⟨?_, ?_⟩|kernel_rfl)));done),(by(repeat'((conv=>whnf)<;>(first|exact trivial|refine⟨?_, ?_⟩|exact rfl)));done)⟩)|(guard_target=Gh _ _ _ _ _;(have _:=hg6);(have h0:=‹¬(fy A e).1=0›);refine Gh.go ⟨((i+1,A,s2):Nat × af × Src),(by exact⟨⟨by show i+1≤k;omega,ha.1.2.1,ha.1.2.2.1,ha.1.2.2.2⟩,hS'.mono (by show _≤N+401000*((i+1:Nat):Int);omega)⟩),(by show k-(i+1)<k-i;omega),(by(repeat'((conv=>whnf)<;>(first|exact trivial|refine⟨?_, ?_⟩|kernel_rfl)));done),(by(repeat'((conv=>whnf)<;>(first|exact trivial|refine⟨?_, ?_⟩|kernel_rfl)));done),(by(repeat'((conv=>whnf)<;>(first|exact trivial|refine⟨?_, ?_⟩|exact rfl)));done)⟩)|(guard_target=Gh _ _ _ _ _;(fail_if_success (have _:=hE));refine Gh.go ⟨((A,s1):af × Src),(by exact⟨⟨ha.1.2.1,ha.1.2.2.1,ha.1.2.2.2⟩,hS'.mono (by omega)⟩), ?_⟩)
  |refine aq.mk ?_ ?_|(guard_target=~ aK 3 _ _ _ _ _ _;refine sM (Nat × af × Src) [0,2,3,8,9] (fun⟨i,A,s1⟩=>[(10,I (i:Nat))]) (fun⟨i,A,s1⟩=>[(0, .cc 3 (c8 s1)),(6, .cc 4 (az A))]) (fun⟨i,A,s1⟩=>(i≤k∧GB A∧Small A∧A.sig=A0.sig)∧iP s1 (N+401000*i)) (fun⟨i,A,s1⟩=>k-i) (0,A0,s) (by exact⟨⟨Nat.zero_le _,hG0,hS0,rfl⟩,hS'.mono (by show N≤N+401000*((0:Nat):Int);omega)⟩) (fun A ha=> ?_);obtain⟨i,A,s1⟩:=A;have ha:(i≤k∧GB A∧Small A∧A.sig=A0.sig)∧iP s1 (N+401000*i):=ha;have hS':=ha.2)
  |((first|apply bA|apply bB|apply bC|apply bD|apply bE|apply bF)<;>intro h<;>(try simp only[List.length_map] at h)<;>(try omega)<;>(try contradiction))|(guard_target=aa _ 68 _ _ _ _;refine cG [] rfl (ho) ?_)|(guard_target=aa _ 41 _ _ _ _;refine cG [true,false] rfl (hst A e ha.1.2.1 ha.1.2.2.1 hE) ?_)|(guard_target=aa _ 36 _ _ _ _;refine aa.ex rfl [true,true,false] _ _ _ _ rfl (hev A s1 _ ha.1.2.1 hS' (by omega)) rfl rfl (fun x hx=> ?_);(obtain⟨e,s2⟩:=x);(obtain⟨hE,hS'⟩:=hx);(try simp only[] at hE hS'))
  |refine aR ?_
  |apply iV.go)
 all_goals first|rfl|exact⟨rfl,trivial⟩|exact⟨rfl,rfl,trivial⟩|trivial
end
end Go.Proofs.YtgbggaddpbghfaaGreat
namespace Go.Proofs.YtgbggaddpbghfaaGreat
open Go Go.KA Go.Proofs
set_option maxHeartbeats 16000000
set_option maxRecDepth 100000
def IZ(n:Nat):af:=⟨⟨1,2⟩,List.replicate n ⟨true,[],0⟩,[]⟩
theorem FW(n:Nat):Small (IZ n):=fun x hx=>by
 rcases dQ.1 hx with⟨s,hs,h⟩|⟨p,hp,rfl⟩
 ·obtain rfl:=List.eq_of_mem_replicate hs
  cases h
 ·cases hp
theorem It{n:Nat}(h1:1≤n)(h5:n≤5):GB (IZ n):=by
 have hl:(IZ n).ab.length=n:=List.length_replicate
 refine⟨by show bO 1 2=true;decide,eL (by omega) (by omega),Nat.zero_le _,fun s hs=> ?_,fun p hp=>(by cases hp),fun x hx=> ?_⟩
 ·obtain rfl:=List.eq_of_mem_replicate hs
  exact⟨Nat.zero_le _,⟨Int.le_refl _,Int.le_refl _⟩, .inl rfl,rfl⟩
 ·rcases dQ.1 hx with⟨s,hs,h⟩|⟨p,hp,rfl⟩
  ·obtain rfl:=List.eq_of_mem_replicate hs
   cases h
  ·cases hp
theorem H6:ah Tryz.prog 72 [] [] (.a 2 [J 1,J 2]):=by
 refine cX Tryz.func72 (h:= ?_)
 repeat'((conv=>whnf);first
  |refine aq.mk ?_ ?_)
 all_goals first|rfl|trivial
def newRow:List CV:=[.val (.bool true), .ows 51 7 [],J 0]
theorem w5{n:Nat}(h1:1≤n)(h5:n≤5):ah Tryz.prog 71 [.a 2 [J 1,J 2],I (n:Nat)] [] (.tup [.a 4 [J 1,J 2, .own 47 3 (List.replicate n newRow), .ows 89 8 []],I 0]):=by
 have c1:aD Tryz.prog 85 [.a 2 [J 1,J 2]] (B true):=by
  have h:=kV 1 2
  rwa[show bO 1 2=true by decide] at h
 have c2:aD Tryz.prog 86 [I (n:Nat),I 1,I 5] (B true):=by
  have h:=dH (n:Nat) 1 5
  rwa[show dJ 1 5 ((n:Nat):Int)=true from eL (by omega) (by omega)] at h
 refine cX Tryz.func71 (h:= ?_)
 repeat'((conv=>whnf);first
  |refine aq.mk ?_ ?_|(guard_target=~ aK 7 _ _ _ _ _ _;refine l8 (Nat × List (List CV)) [1,4,6] (fun⟨i,rows⟩=>[(7,I (i:Nat))]) (fun⟨i,rows⟩=>[(5, .aG none 47 3 rows),(9, .cells [.c (J 1), .c (J 2), .lw 5, .lw 4])]) (fun⟨i,rows⟩=>i≤n∧rows=List.replicate i newRow) (fun⟨i,rows⟩=>n-i) (0,[]) (by exact⟨Nat.zero_le _,rfl⟩) (fun A ha=> ?_);obtain⟨i,rows⟩:=A;have ha:i≤n∧rows=List.replicate i newRow:=ha;(obtain⟨hi,hr⟩:=ha);(have hrl:rows.length≤5:=by rw[hr,List.length_replicate];omega))
  |refine rL ((i+1,rows++[newRow]):Nat × List (List CV)) (by exact⟨by show i+1≤n;omega,by show rows++[newRow]=_;rw[hr,List.replicate_succ']⟩)
  |(apply Fact.mk;intro hL;try simp only[List.length_map,maxLen] at hL)
  |((first|apply bA|apply bB|apply bC|apply bD|apply bE|apply bF)<;>intro h<;>(try simp only[List.length_map] at h)<;>(try omega)<;>(try contradiction))|(guard_target=aa _ 85 _ _ _ _;refine cP rfl (c1) ?_)|(guard_target=aa _ 86 _ _ _ _;refine cP rfl (c2) ?_)
  |refine aR ?_|(guard_target=aV _ _;refine aV.mk (by first|((simp only[List.length_map,List.length_cons,List.length_nil,List.length_append,maxLen];first|omega|(constructor<;>omega)))|fail) ?_))
 all_goals first|trivial|(have h9:i=n:=(by omega);rw[hr,h9];rfl)
end Go.Proofs.YtgbggaddpbghfaaGreat
namespace Go.Proofs.YtgbggaddpbghfaaGreat
open Go Go.KA Go.Proofs
set_option maxHeartbeats 16000000
set_option maxRecDepth 100000
theorem yw{n:Nat}(h1:1≤n)(h5:n≤5):ah Tryz.prog 71 [.a 2 [J 1,J 2],I (n:Nat)] [] (.tup [.a 4 (az (IZ n)),I 0]):=by
 have h:dj [J 1,J 2, .own 47 3 (List.replicate n newRow), .ows 89 8 []] [J 1,J 2,l5 (.own 47 3 (List.replicate n newRow)),l5 (.ows 89 8 [])]:= .same (.same (.ro (.ro .nil)))
 have e:l5 (.own 47 3 (List.replicate n newRow))= .ro 3 ((IZ n).ab.map cE):=by
  show CV.ro 3 (cW (List.replicate n newRow))=_
  rw[show List.replicate n newRow=(IZ n).ab.map bI by show _=(List.replicate n _).map bI;rw[List.map_replicate];rfl,bQ (g:=cE) (fun s=>by simp only[bI,cE,nr,l5,bQ (f:=bg) (g:=bg) (fun _=>rfl)])]
 rw[e] at h
 exact(w5 h1 h5).soft (.tup (.cons (.a h) (.cons .same .nil)))
theorem EV{f:Int}(hf:0≤f∧f≤5)
 (hev:∀(A:af) (s:Src) (N:Int),GB A→iP s N→N≤200000000→gJ Tryz.prog 36 [.c (.op (c8 s)), .c (.op (az A)),I f]
  (fun x:aS × Src=>AA A.sig.au A.sig.ai x.1∧iP x.2 (N+401000)) (fun x=>[some [.op (c8 x.2)],some [.op (az A)],none]) (fun x=> .a 9 (D2 x.1)))
 {s:Src}{N:Int}(hS':iP s N)(hN:N≤50000000):
  gJ Tryz.prog 34 [.c (.op (c8 s)),I f] (fun x:af × Src=>(GB x.1∧Small x.1∧x.1.sig=⟨1,2⟩)∧iP x.2 (N+20000000)) (fun x=>[some [.op (c8 x.2)],none]) (fun x=> .a 4 (az x.1)):=by
 refine Pe Tryz.func34 (fun reg_=>match reg_ with|2=>true|_=>false) (h:= ?_)
 repeat'((conv=>whnf);first
  |(guard_target=Gh _ _ _ _ _;(fail_if_success (have _:=hA));refine Gh.DU 7 _ rfl (Gh.go ?_))|(guard_target=Gh _ _ _ _ _;(have _:=hA);refine Gh.go ⟨((A,s9):af × Src),(by exact⟨⟨hA.1,hA.2.1,hA.2.2⟩,hS9.mono (by omega)⟩), ?_⟩)
  |refine aq.mk ?_ ?_|(guard_target=aa _ 72 _ _ _ _;refine cG [] rfl (H6) ?_)|(guard_target=aa _ 71 _ _ _ _;refine cG [] rfl (yw hn1 hn5) ?_)|(guard_target=aa _ 73 _ _ _ _;refine Ez (l:=[1,2,3,3,3,4,5]) hS' (by omega) ⟨by decide,by decide⟩ rfl rfl rfl (fun nn s' hS' hw=> ?_);(have hwr:1≤nn∧nn≤5:=by simp at hw;omega);(obtain⟨n,rfl⟩:∃n:Nat,nn=(n:Int):=⟨nn.toNat,by omega⟩);(have hn1:1≤n:=by omega);(have hn5:n≤5:=by omega))|(guard_target=aa _ 53 _ _ _ _;refine zl hS' (by omega) (by unfold jI;omega) rfl rfl rfl (fun vv s' hS' hv0 hv1=> ?_);(have hv2:=hv1 (by omega));(obtain⟨k,rfl⟩:∃k:Nat,vv=(k:Int):=⟨vv.toNat,by omega⟩))|(guard_target=aa _ 74 _ _ _ _;refine aa.ex rfl [true,false,false,false] _ _ _ _ rfl (E5 (It hn1 hn5) (FW n) hf hev hS' (by omega) (k:=k) (by omega)) rfl rfl (fun x hx=> ?_);(obtain⟨A,s9⟩:=x);(obtain⟨hA,hS9⟩:=hx);(try simp only[] at hA hS9))
  |apply iV.go)
 all_goals first|rfl|exact⟨rfl,trivial⟩|trivial
end Go.Proofs.YtgbggaddpbghfaaGreat
namespace Go.Proofs.YtgbggaddpbghfaaGreat
open Go Go.KA Go.Proofs
set_option maxHeartbeats 16000000
set_option maxRecDepth 100000
theorem AX(code:List UInt8){N:Int}(hN:N≤50000000)(h0:iP (H7 code) N){f:Int}(hf:0≤f∧f≤5):
 gJ Tryz.prog 8 [.c (.ro 1 (code.map Ja)),I f] (fun x:af=>GB x∧Small x∧x.sig=⟨1,2⟩) (fun _=>[none,none]) (fun x=> .a 4 (az x)):=by
 refine Pe Tryz.func8 (h:= ?_)
 repeat'((conv=>whnf);first
  |(guard_target=Gh _ _ _ _ _;(have _:=hA);refine Gh.go ⟨A,(by exact hA), ?_⟩)
  |refine aq.mk ?_ ?_|(guard_target=aa _ 35 _ _ _ _;refine cG [] rfl (wh code) ?_)|(guard_target=aa _ 34 _ _ _ _;refine aa.ex rfl [true,false] _ _ _ _ rfl (EV hf (fun A s N h1 h2 h3=>vp h1 h2 h3 hf) h0 hN) rfl rfl (fun x hx=> ?_);(obtain⟨A,s9⟩:=x);(obtain⟨hA,hS9⟩:=hx);(try simp only[] at hA hS9)))
 all_goals first|rfl|exact⟨rfl,trivial⟩|trivial
end Go.Proofs.YtgbggaddpbghfaaGreat
namespace Go.Proofs.YtgbggaddpbghfaaGreat
open Go Go.KA Go.Proofs
set_option maxHeartbeats 16000000
set_option maxRecDepth 100000
theorem _root_.Go.KA.gJ.soft{P:Program}{f:Nat}{args:List SV}{α:Type}{φ:α→Prop}{outs:α→List (Option (List CV))}{r r':α→SV}(h:gJ P f args φ outs r)(hs:∀x,wV (r x) (r' x)):gJ P f args φ outs r':=by
 refine⟨h.1,fun w ok vs fs h1 h2 h3 h4=>(h.2 w ok vs fs h1 h2 h3 h4).mono ?_⟩
 rintro e w' ⟨x,hx,v,fr,fo,he,hg,hn,hb,hr,ho⟩
 have hn':=hn
 rw[List.nodup_append] at hn
 obtain⟨fr',hf,hd⟩:=(hs x).den hr hn.1
 have hok:∀b,x8 ok fs (fr++fo) w w' b→x8 ok fs (fr'++fo) w w' b:=fun b hb=>⟨hb.1,hb.2.1,fun hm=>hb.2.2 (by
  rcases List.mem_append.1 hm with hm|hm
  ·simp[hf.subset hm]
  ·simp[hm])⟩
 refine⟨x,hx,v,fr',fo,he,hg,hn'.sublist (hf.append (List.Sublist.refl _)),fun b hb'=>hb b ?_,hd _ hok fun b hb1 hb2=> ?_,ho.mono hok⟩
 ·rcases List.mem_append.1 hb' with hm|hm
  ·simp[hf.subset hm]
  ·simp[hm]
 ·have h5:=hb b (by simp[hb1])
  refine⟨h5.2, ?_,fun hm=> ?_⟩
  ·rcases h5.1 with h6|h6
   ·exact .inr (.inl h6)
   ·exact .inr (.inr h6)
  ·rcases List.mem_append.1 hm with hm|hm
   ·exact hb2 hm
   ·exact hn.2.2 b hb1 b hm rfl
theorem vC(a b:List aM):aD Tryz.prog 42 [.c (.ro 7 (a.map bg)), .c (.ro 7 (b.map bg))] (B (eqv a b)):=by
 refine cF Tryz.func42 (h:= ?_)
 repeat'((conv=>whnf);first
  |(apply bh.mk;first|(exact dV (ke (by omega));done)|(exact dV (mS (i:=i) (by omega) (by omega) (fx h));done)|(exact fF (j9 ha.2.1 (by omega) ha.2.2);done)|skip)|(guard_target=~ aK 4 _ _ _ _ _ _;refine lp (Nat) [0,1] (fun i=>[(5,I i)]) (fun i=>i≤a.length∧a.length=b.length∧a.take i=b.take i) (fun i=>a.length-i) 0 (by exact⟨Nat.zero_le _,by omega,rfl⟩) (fun i ha=> ?_))
  |refine nx (i+1:Nat) (by exact⟨by show i+1≤_;omega,ha.2.1,mJ (by omega) (by omega) ha.2.2 (lU h)⟩)
  |(apply Fact.mk;intro hL;try simp only[List.length_map,maxLen] at hL)
  |((first|apply bA|apply bB|apply bC|apply bD|apply bE|apply bF)<;>intro h<;>(try simp only[List.length_map] at h)<;>(try omega)<;>(try contradiction))|(guard_target=aa _ 43 _ _ _ _;refine cP rfl (q6 _ _) ?_)
  |refine aR ?_|(guard_target=Index _ _ _;first|(refine Index.mk _ (bw (i:=i) (by omega)) ?_)|fail)
  |refine nB ?_
  |refine nO ?_)
theorem kB(x:af):aD Tryz.prog 12 [.a 4 (az x), .a 4 (az x)] (B true):=by
 have h1:∀i,aD Tryz.prog 42 [.c (.ro 7 ((x.ab.getD i db).notes.map bg)), .c (.ro 7 ((x.ab.getD i db).notes.map bg))] (B true):=fun i=>by
  have:=vC (x.ab.getD i db).notes (x.ab.getD i db).notes
  rwa[eqv_self] at this
 have h2:∀i,aD Tryz.prog 43 [.c (.rp 7 (bg (x.aw.getD i jl).note)), .c (.rp 7 (bg (x.aw.getD i jl).note))] (B true):=fun i=>by
  have:=q6 (x.aw.getD i jl).note (x.aw.getD i jl).note
  rwa[eqv_self] at this
 refine cF Tryz.func12 (h:= ?_)
 repeat'((conv=>whnf);first
  |(apply bh.mk;first|(rfl;done)|((exfalso;simp at h;done);done)|skip)|(guard_target=~ aK 4 _ _ _ _ _ _;refine lp (Nat) [2,3] (fun i=>[(5,I i)]) (fun i=>i≤x.ab.length) (fun i=>x.ab.length-i) 0 (by exact Nat.zero_le _) (fun i ha=> ?_))|(guard_target=~ aK 11 _ _ _ _ _ _;refine lp (Nat) [2,3] (fun i=>[(8,I i)]) (fun i=>i≤x.aw.length) (fun i=>x.aw.length-i) 0 (by exact Nat.zero_le _) (fun i ha=> ?_))
  |refine nx (i+1:Nat) (by(show i+1≤_;omega))
  |(apply Fact.mk;intro hL;try simp only[List.length_map,maxLen] at hL)
  |((first|apply bA|apply bB|apply bC|apply bD|apply bE|apply bF)<;>intro h<;>(try simp only[List.length_map] at h)<;>(try omega)<;>(try contradiction))|(guard_target=aa _ 42 _ _ _ _;refine cP rfl (h1 i) ?_)|(guard_target=aa _ 43 _ _ _ _;refine cP rfl (h2 i) ?_)
  |refine aR ?_|(guard_target=Index _ _ _;first|(refine Index.mk _ (aF (l:=x.ab) (d:=db) (i:=i) (by omega)) ?_)|(refine Index.mk _ (aF (l:=x.aw) (d:=jl) (i:=i) (by omega)) ?_)|fail)
  |refine nB ?_
  |refine nO ?_)
theorem Ek(l:List UInt8):aD Tryz.prog 7 [.c (.ro 1 (l.map Ja))] (B (decide (4096<l.length))):=by
 have e:((((l.map Ja).length:Nat):Int)>4096)=(4096<l.length):=by rw[List.length_map];exact propext (by omega)
 refine cF Tryz.func7 (h:= ?_)
 repeat'((conv=>whnf);first
  |(apply bh.mk;first|((show B (decide ((((l.map Ja).length:Nat):Int)>4096))=_;simp only[e]);done)|skip)
  |(apply Fact.mk;intro hL;try simp only[List.length_map,maxLen] at hL))
theorem GM(code:List UInt8)(h:code.length≤4096):iP (H7 code) 0:=⟨⟨Int.le_refl _,Int.le_refl _⟩,by show code.length≤_;omega⟩
end Go.Proofs.YtgbggaddpbghfaaGreat
namespace Go.Proofs.YtgbggaddpbghfaaGreat
open Go Go.KA Go.Proofs
set_option maxHeartbeats 16000000
set_option maxRecDepth 100000
theorem GB.sav{a:af}(hG:GB a)(i:Nat)(hi:i<a.ab.length):0≤(a.ab.getD i db).saved∧(a.ab.getD i db).saved≤((a.ab.getD i db).notes.length:Int):=by
 rw[getD_eq hi]
 exact(hG.srv _ (List.getElem_mem hi)).sav
theorem KM{a:af}(h:GB a):dI a=true:=(mW a).2 (Jq.2 h)
theorem Lb(a:af):dj (du a) (az a):=by
 rw[←IE]
 exact dj.nr _
section
variable{A:af}{e:aS}(hG:GB A)(hS:Small A)(hE:AA A.sig.au A.sig.ai e)
include hG hS hE
end
end Go.Proofs.YtgbggaddpbghfaaGreat
namespace Go.Proofs.YtgbggaddpbghfaaGreat
open Go Go.KA Go.Proofs
set_option maxHeartbeats 16000000
set_option maxRecDepth 100000
def ot(k i:Int):aS:=⟨k,i,0,0,[],⟨⟨0,0⟩,[]⟩,[]⟩
theorem rZ{t a k i:Int}(hk:k=4∨k=5∨k=6)(hi:0≤i∧i≤999):cH t a (ot k i)=true:=by
 have h:dJ 0 999 i=true:=eL hi.1 hi.2
 rcases hk with rfl|rfl|rfl<;>(simp only[cH,ot,h];rfl)
theorem Gw(k i:Int):cN (ot k i)=0:=rfl
theorem GF{a:af}{i:Int}(h:i<(a.aw.length:Int)):dP a i=(0,⟨a.sig,a.ab,a.aw.take i.toNat++a.aw.drop (i.toNat+1)⟩):=zE (by omega)
theorem zV(a:af)(i:Int):iB a (ot 4 i)=dR a i:=rfl
theorem Lr(a:af)(i:Int):iB a (ot 5 i)=bM a i:=rfl
theorem PX(a:af)(i:Int):iB a (ot 6 i)=dP a i:=rfl
theorem LO{s:aO}{n:aM}:¬bz (jB s n).notes n.bU n.id<0:=fun h=>
 AB h n (List.mem_append.2 (.inr (List.mem_singleton.2 rfl))) rfl rfl
section
variable{A:af}(hG:GB A){i:Int}(hi:0≤i∧i<(A.aw.length:Int))
include hG hi
theorem Fm(h:(bM A i).1=0):bM (bM A i).2 i=(0,(bM A i).2):=by
 have hp:eQ A i∈A.aw:=by
  show A.aw.getD i.toNat jl∈_
  rw[getD_eq (by omega)]
  exact List.getElem_mem _
 have hpl:=bX (hG.place hp)
 cases hw:jK A (eQ A i) with
 |false=>rw[B2 (by omega) hw,B2 (by omega) hw]
 |true=>
  have e:bM A i=(0,iy A (eQ A i).ju (jB (sA A (eQ A i).ju) (eQ A i).note)):=by
   unfold bM at h⊢
   rw[if_neg (by omega),if_neg (by rw[hw];decide)] at h⊢
   split at h
   ·exact absurd (show(3:Int)=0 from h) (by decide)
   ·rename_i h9
    rw[if_neg h9]
  rw[e]
  refine B2 (by show¬i≥(A.aw.length:Int);omega) ?_
  show jK (iy A _ _) (eQ A i)=false
  have es:sA (iy A (eQ A i).ju (jB (sA A (eQ A i).ju) (eQ A i).note)) (eQ A i).ju=jB (sA A (eQ A i).ju) (eQ A i).note:=by
   show(iy A _ _).ab.getD _ db=_
   rw[Ij (by omega),if_pos rfl]
  unfold jK
  rw[es,decide_eq_false LO]
  simp
theorem I3:∃(B:af) (m:Int),(0≤m∧m≤1)∧kJ A [ot 4 i]=(B,m)∧kJ A [ot 5 i,ot 4 i]=(B,2*m):=by
 show∃(B:af) (m:Int),(0≤m∧m≤1)∧qw (A,0) (ot 4 i)=(B,m)∧qw (qw (A,0) (ot 5 i)) (ot 4 i)=(B,2*m)
 have hd:∀X:af,X.aw.length=A.aw.length→(dP X i).1=0:=fun X h=>by rw[GF (by omega)]
 have hf:(bM A i).2.aw=A.aw:=w9
 by_cases h:(bM A i).1=0
 ·have ht:=Fm hG hi h
  have e4:dR A i=dP (bM A i).2 i:=Ph h
  have e5:dR (bM A i).2 i=dP (bM A i).2 i:=by rw[Ph (by rw[ht]),ht]
  have h1:(iB A (ot 4 i)).1=0:=by rw[zV,e4];exact hd _ (by rw[hf])
  have h2:(iB A (ot 5 i)).1=0:=by rw[Lr];exact h
  have h3:(iB (bM A i).2 (ot 4 i)).1=0:=by rw[zV,e5];exact hd _ (by rw[hf])
  refine⟨(dP (bM A i).2 i).2,1,by decide, ?_, ?_⟩
  ·rw[sS h1,zV,e4];rfl
  ·rw[sS (p:=(A,0)) h2,Lr,sS (p:=((bM A i).2,0+1)) h3,zV,e5];rfl
 ·have e4:dR A i=((bM A i).1,A):=zR h
  have h1:¬(iB A (ot 4 i)).1=0:=by rw[zV,e4];exact h
  have h2:¬(iB A (ot 5 i)).1=0:=by rw[Lr];exact h
  have e1:qw (A,0) (ot 4 i)=(A,0):=if_neg h1
  have e2:qw (A,0) (ot 5 i)=(A,0):=if_neg h2
  exact⟨A,0,by decide,e1,by rw[e2,e1];rfl⟩
end
theorem Ms{A:af}(hG:GB A){l:List aS}(hl:km A l=true)(h3:l.length≤300):Ik A l=((kJ A l).1,(kJ A l).2,0):=by
 unfold Ik
 rw[KM hG,hl,if_neg (by decide),if_neg (by omega)]
theorem Jo{A:af}(hG:GB A){e:aS}(he:cH A.sig.au A.sig.ai e=true):DV A e=fy A e:=by
 unfold DV rI
 rw[KM hG,he]
 exact if_pos rfl
theorem Ht(code:List UInt8)(hc:code.length≤4096)(n:Int)(hn:0<n∧n≤1000000):∃v,(0≤v∧v<n)∧aD Tryz.prog 17 [.c (.ro 1 (code.map Ja)),I n] (I v):=by
 have h0:=GM code hc
 have hp:=cV (H7 code) (h0.rd.mono (by omega)) h0.len n (by unfold jI;omega)
 have hi:=ch (H7 code) hn.1
 generalize bK (H7 code) n=v at hp hi
 refine⟨v,hi, ?_⟩
 refine cX Tryz.func17 (h:= ?_)
 repeat'((conv=>whnf);first
  |refine aq.mk ?_ ?_|(guard_target=aa _ 35 _ _ _ _;refine cG [] rfl (wh code) ?_)|(guard_target=aa _ 53 _ _ _ _;refine cG [true,false] rfl (hp) ?_))
 all_goals first|rfl|trivial|exact⟨rfl,trivial⟩
end Go.Proofs.YtgbggaddpbghfaaGreat
namespace Go.Proofs.YtgbggaddpbghfaaGreat
open Go Go.KA Go.Proofs
set_option maxHeartbeats 16000000
set_option maxRecDepth 100000
theorem wP(a:af)(c:Int):jJ (.tup [.a 4 (du a),I c]):=by
 intro s hs
 rcases List.mem_cons.1 hs with rfl|hs
 ·exact kW a
 ·rw[List.mem_singleton.1 hs]
  exact trivial
section
variable{A:af}(hG:GB A)(hS:Small A)
include hG hS
theorem zw(l:List aS)(hl:km A l=true)(h3:l.length≤300)(hb:eK cN l≤1048576):
 ah Tryz.prog 18 [.a 4 (az A), .c (.ro 9 (l.map aT))] [] (.tup [.a 4 (az (kJ A l).1),I (kJ A l).2,I 0])∧
 ah Tryz.prog 19 [.a 4 (az A), .c (.ro 9 (l.map aT))] [] (.tup [.a 4 (az (kJ A l).1),I (kJ A l).2,I 0]):=by
 have h0:=qh hG hS
 have h1:=yf A l (by omega) hb
 have h2:=sY A l (by omega) hb
 rw[Ms hG hl h3] at h1 h2
 exact⟨h1.soft (.tup (.cons (.a (Lb _)) (.cons .same (.cons .same .nil)))),h2⟩
theorem BE(e:aS)(he:cH A.sig.au A.sig.ai e=true)(hb:cN e=0):
 ah Tryz.prog 10 [.a 4 (az A), .a 9 (aT e)] [] (.tup [.a 4 (du (fy A e).2),I (fy A e).1]):=by
 have h0:=qh hG hS
 have h1:=v9 A e (by omega) (by omega)
 rwa[Jo hG he] at h1
end
theorem Hx(A:af):aD Tryz.prog 12 [.a 4 [J A.sig.au,J A.sig.ai, .ro 3 (cW (A.ab.map ee)), .ro 8 (A.aw.map aQ)], .a 4 (az A)] (B true):=by
 have h:=kB A
 rw[bQ (g:=cE) (fun s=>xL s)]
 exact h
theorem qV(code more:List UInt8):aD Tryz.prog 4 [.c (.ro 1 (code.map Ja)), .c (.ro 1 (more.map Ja))] (B true):=by
 have l1:=Ek code
 have l2:=Ek more
 by_cases hb:4096<code.length
 ·rw[decide_eq_true hb] at l1
  refine cF Tryz.func4 (h:= ?_)
  repeat'((conv=>whnf);first
   |apply bh.mk
   |((first|apply bA|apply bB|apply bC|apply bD|apply bE|apply bF)<;>intro h<;>(try simp only[List.length_map] at h)<;>(try omega)<;>(try contradiction))|(guard_target=aa _ 7 _ _ _ _;refine cP rfl (l1) ?_))
  all_goals first|rfl|trivial
 rw[decide_eq_false hb] at l1
 by_cases hb2:4096<more.length
 ·rw[decide_eq_true hb2] at l2
  refine cF Tryz.func4 (h:= ?_)
  repeat'((conv=>whnf);first
   |apply bh.mk
   |((first|apply bA|apply bB|apply bC|apply bD|apply bE|apply bF)<;>intro h<;>(try simp only[List.length_map] at h)<;>(try omega)<;>(try contradiction))|(guard_target=aa _ 7 _ _ _ _;refine cP rfl (l1) ?_)|(guard_target=aa _ 7 _ _ _ _;refine cP rfl (l2) ?_))
  all_goals first|rfl|trivial
 rw[decide_eq_false hb2] at l2
 have a1:=AX code (N:=0) (by omega) (GM code (by omega)) (f:=5) (by omega)
 have a5:∀A:af,GB A→Small A→A.aw.length=0→ah Tryz.prog 10 [.a 4 (az A), .a 9 (aT (ot 4 0))] [] (.tup [.a 4 (du zA),I 2]):=fun A h1 h2 h3=>by
  have h:=BE h1 h2 (ot 4 0) (rZ (.inl rfl) (by omega)) rfl
  have e:iB A (ot 4 0)=(2,A):=by
   rw[zV,zR (by rw[Er (by omega)];show¬(2:Int)=0;decide),Er (by omega)]
  unfold fy at h
  rwa[e] at h
 have a6:∀(A:af) (i:Int),GB A→Small A→0≤i∧i<(A.aw.length:Int)→∃L,ah Tryz.prog 10 [.a 4 (az A), .a 9 (aT (ot 6 i))] [] (.tup [.a 4 (du ⟨A.sig,A.ab,L⟩),I 0]):=fun A i h1 h2 h3=>by
  have hf:=h1.f12
  have h:=BE h1 h2 (ot 6 i) (rZ (.inr (.inr rfl)) (by omega)) rfl
  unfold fy at h
  rw[PX,GF h3.2,if_pos rfl] at h
  exact⟨_,h⟩
 have gl:∀(A:af) (i:Int),GB A→0≤i∧i<(A.aw.length:Int)→km A [ot 4 i]=true∧km A [ot 5 i,ot 4 i]=true:=fun A i h1 h3=>by
  have hf:=h1.f12
  have e4:=rZ (t:=A.sig.au) (a:=A.sig.ai) (k:=4) (i:=i) (.inl rfl) (by omega)
  have e5:=rZ (t:=A.sig.au) (a:=A.sig.ai) (k:=5) (i:=i) (.inr (.inl rfl)) (by omega)
  unfold km
  simp[List.all_cons,e4,e5]
 have rf:∀(A:af) (l:List aS),GB A→Small A→km A l=true→l.length≤300→eK cN l≤1048576→
  ah Tryz.prog 18 [.a 4 (az A), .c (.ows 37 9 (l.map aT))] [] (.tup [.a 4 (az (kJ A l).1),I (kJ A l).2,I 0])∧
  ah Tryz.prog 19 [.a 4 (az A), .c (.ows 37 9 (l.map aT))] [] (.tup [.a 4 (az (kJ A l).1),I (kJ A l).2,I 0]):=fun A l h1 h2 h3 h4 h5=>by
  have h:=zw h1 h2 l h3 h4 h5
  exact⟨h.1.Fc (.same (.c .nil)),h.2.Fc (.same (.c .nil))⟩
 have rg:∀(A:af) (v:Int),GB A→Small A→km A [ot 5 v,ot 4 v]=true→
  ah Tryz.prog 18 [.a 4 (az A), .c (.own 37 9 [D2 (ot 5 v),aT (ot 4 v)])] [] (.tup [.a 4 (az (kJ A [ot 5 v,ot 4 v]).1),I (kJ A [ot 5 v,ot 4 v]).2,I 0]):=fun A v h1 h2 h3=>
  (zw h1 h2 [ot 5 v,ot 4 v] h3 (by simp) (by simp[eK,cZ,Gw])).1.Fc (.same (.c .nil))
 refine cF Tryz.func4 (fun reg_=>match reg_ with|9=>true|_=>false) (h:= ?_)
 repeat'((conv=>whnf);first
  |(guard_target=Gh _ _ _ _ _;refine Gh.zG 3 _ rfl (Gh.zG 4 _ rfl (Gh.zG 5 _ rfl (Gh.go ?_))))
  |(apply bh.mk;first|(rfl;done)|skip)
  |(apply Fact.mk;intro hL;try simp only[List.length_map,maxLen] at hL)
  |((first|apply bA|apply bB|apply bC|apply bD|apply bE|apply bF)<;>intro h<;>(try simp only[List.length_map] at h)<;>(try omega)<;>(try contradiction))|(guard_target=aa _ 7 _ _ _ _;refine cP rfl (l1) ?_)|(guard_target=aa _ 7 _ _ _ _;refine cP rfl (l2) ?_)|(guard_target=aa _ 18 _ _ _ _;refine cG [false,true] rfl (r1) ?_)|(guard_target=aa _ 18 _ _ _ _;refine cG [false,true] rfl (r3) ?_)|(guard_target=aa _ 19 _ _ _ _;refine cG [false,true] rfl (r2) ?_)|(guard_target=aa _ 12 _ _ _ _;refine cP rfl (kB X) ?_)|(guard_target=aa _ 12 _ _ _ _;refine cP rfl (Hx A) ?_)|(guard_target=aa _ 8 _ _ _ _;refine aa.ex rfl [false,false] _ _ _ _ rfl a1 rfl rfl (fun A hA=> ?_))|(guard_target=aa _ 17 _ _ _ _;(obtain⟨v,hv,hp⟩:=Ht more (by omega) ((A.aw.map aQ).length:Nat) (by have:=hA.1.f12;rw[List.length_map];omega));(rw[List.length_map] at hv);(obtain⟨X,m,hm1,hX1,hX2⟩:=I3 hA.1 hv);(obtain⟨g1,g2⟩:=gl A v hA.1 hv);(obtain⟨r1,r2⟩:=rf A [ot 4 v] hA.1 hA.2.1 g1 (by simp) (by simp[eK,cZ,Gw]));(have r3:=rg A v hA.1 hA.2.1 g2);(rw[hX1] at r1 r2);(rw[hX2] at r3);(try simp only[] at r1 r2 r3);(obtain⟨L,hL6⟩:=a6 A v hA.1 hA.2.1 hv);refine cP rfl hp ?_)|(guard_target=aa _ 10 _ _ _ _;refine aa.own _ _ rfl (a5 A hA.1 hA.2.1 (by omega)) (wP _ _) _ rfl ?_)|(guard_target=aa _ 10 _ _ _ _;refine aa.own _ _ rfl hL6 (wP _ _) _ rfl ?_)
  |refine aR ?_
  |apply iV.go)
 all_goals first|rfl|trivial
end Go.Proofs.YtgbggaddpbghfaaGreat
