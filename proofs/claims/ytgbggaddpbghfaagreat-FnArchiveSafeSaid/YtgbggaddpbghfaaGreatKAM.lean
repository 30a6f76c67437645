/- Contract of the reference's replacing at a path: the result owns its memory. The tree above the path is told as owned with a hole. Conditions: bounds of size. -/
import Derived.Test.YtgbggaddpbghfaaGreatKAL
namespace Go.KA
open Go Go.RowKit
theorem jy.of_eq{a b:List (List CV)}(h:a=b):jy a b:=by
 subst h
 induction a with
 |nil=>exact .nil
 |cons r rs ih=>exact .cons (gY.refl r) ih
end Go.KA
namespace Go.Proofs.YtgbggaddpbghfaaGreat
open Go Go.KA Go.Proofs Go.Proofs.Tryz
set_option maxHeartbeats 16000000
set_option maxRecDepth 100000
def ln(c:CV):List Int->aA->List CV
 |[],e=>[J e.kind,J e.num,c]
 |i::p,e=>[J e.kind,J e.num, .own 66 3 ((e.kids.map aM).set i.toNat (ln c p (e.kids.getD i.toNat dm)))]
def p8:List Int->aA->Prop
 |[],_=>True
 |i::p,e=>i.toNat<e.kids.length/\p8 p (e.kids.getD i.toNat dm)
theorem p8.snoc{i:Int}:∀{p:List Int} {e:aA},p8 p e->i.toNat<(dc p e).length->p8 (p++[i]) e
 |[],_,_,h=>⟨h,trivial⟩
 |_::_,_,h1,h=>⟨h1.1,p8.snoc h1.2 h⟩
theorem DB(v:Value)(r:CV):∀(p:List Int) (e:aA),p8 p e->mv v r (ln (.val v) p e) (ln r p e)
 |[],e,_=> .skip (.skip .here)
 |i::p,e,h=>by
  refine .skip (.skip ?_);have h2:=mv.own (v:=v) (r:=r) (ty:=66) (sz:=3) (rows:=(e.kids.map aM).set i.toNat (ln (.val v) p (e.kids.getD i.toNat dm))) (i:=i.toNat) (cs:=[]) (c9 (by rw[aa];exact h.1)) (DB v r p (e.kids.getD i.toNat dm) h.2);rwa[List.set_set]at h2
theorem zV(ks:List aA):∀(p:List Int) (e:aA),ln (.own 66 3 (ks.map aM)) p e=aM (B8 ks p e)
 |[],e=>by
  show _=aM (.mk e.kind e.num ks);rw[dQ];rfl
 |i::p,e=>by
  rw[ln,zV ks p,B8,dQ (.mk _ _ _)];show _=[J e.kind,J e.num,CV.own _ 3 ((e.kids.set i.toNat (B8 ks p (e.kids.getD i.toNat dm))).map aM)];rw[List.map_set]
theorem A9(r:CV)(i:Int):∀(p:List Int) (e:aA),ln (.own 66 3 (((dc p e).map aM).set i.toNat [J ((dc p e).getD i.toNat dm).kind,J ((dc p e).getD i.toNat dm).num,r])) p e=ln r (p++[i]) e
 |[],e=>rfl
 |j::p,e=>by
  rw[List.cons_append,ln,ln,dc,A9 r i p]
theorem BJ(v v2:Value)(e:aA)(pp:List Int)(ix:Int)(hp:p8 pp e):mv v (.own 66 3 (((dc pp e).map aM).set ix.toNat [J ((dc pp e).getD ix.toNat dm).kind,J ((dc pp e).getD ix.toNat dm).num, .val v2])) (ln (.val v) pp e) (ln (.val v2) (pp++[ix]) e):=by
 have h:=DB v (.own 66 3 (((dc pp e).map aM).set ix.toNat [J ((dc pp e).getD ix.toNat dm).kind,J ((dc pp e).getD ix.toNat dm).num, .val v2])) pp e hp;rwa[A9]at h
theorem O3(v:Value)(y e:aA)(pp:List Int)(ix:Int)(hp:p8 pp e):mv v (.own 66 3 (((dc pp e).map aM).set ix.toNat (cC y))) (ln (.val v) pp e) (aM (iS y e (pp++[ix]))):=by
 have h:=DB v (.own 66 3 (((dc pp e).set ix.toNat y).map aM)) pp e hp;rw[zV,Cy,List.map_set,dQ y]at h;exact h
inductive Md where
 |root
 |one
 |deep
def abH:Md->Nat->SV
 | .root,_=> .lp 5 0
 | .one,i=> .le 3 3 i 0
 | .deep,i=> .le 6 3 i 0
def abN:Md->List aA->List (List CV)
 | .deep,l=>l.map aM
 |_,_=>[]
structure T6 where
 m:Md
 x:aA
 ks:List aA
 ix:Int
 pp:List Int
 v:Value
 Zo:List (List CV)
 S:SV
 bl:Bool
 i:Nat
structure AtJ(e:aA)(p:List Int)(R:aA × Bool × Bool)(s:T6):Prop where
 S:s.S= .c (.cb s.bl)\/s.S=B s.bl
 i:s.i≤p.length
 at_:pK s.x (p.drop s.i) s.bl=R
 Tw:aH s.x≤1048576
 ks:s.ks=dc s.pp e
 inn:p8 s.pp e
 rt:s.m= .root->s.i=0/\s.x=e/\s.pp=[]/\s.Zo=e.kids.map aM
 on:s.m= .one->s.pp=[]/\p.take s.i=[s.ix]/\s.x=s.ks.getD s.ix.toNat dm/\0≤s.ix/\s.ix.toNat<s.ks.length/\s.Zo=e.kids.map aM
 de:s.m= .deep-> ∃j q,s.pp=j::q/\p.take s.i=s.pp++[s.ix]/\s.x=s.ks.getD s.ix.toNat dm/\0≤s.ix/\s.ix.toNat<s.ks.length/\s.Zo=(e.kids.map aM).set j.toNat (ln (.val s.v) q (e.kids.getD j.toNat dm))
section
variable{t a:Int}(hs:cE t a=true)(k n:Int)(gz:List aA)(y:aA)(p:List Int)(Fe:aH (.mk k n gz)≤500000)(IH:aH y≤500000){R:aA × Bool × Bool}(hR:pK (.mk k n gz) p false=R)
include hs Fe IH hR
omit hs Fe IH hR in
theorem Q5{i0 ix:Int}{p1:List Int}{i:Nat}(MT:p=i0::p1)(uZ:p.take i=[ix])(h8:¬((i:Nat):Int)<(p.length:Nat))(y:aA):(gz.map aM).set ix.toNat (cC y)=(gz.set i0.toNat (iS y (gz.getD i0.toNat dm) p1)).map aM:=by
 rw[ar (by omega),MT]at uZ;injection uZ with h1 h2
 subst h1 h2;rw[List.map_set,iS,dQ]
omit hs Fe IH hR in
theorem NP{i0 ix j:Int}{p1 q:List Int}{i:Nat}(MT:p=i0::p1)(uZ:p.take i=(j::q)++[ix])(h8:¬((i:Nat):Int)<(p.length:Nat))(y:aA)(z:List CV):((gz.map aM).set j.toNat z).set j.toNat (aM (iS y (gz.getD j.toNat dm) (q++[ix])))=(gz.set i0.toNat (iS y (gz.getD i0.toNat dm) p1)).map aM:=by
 rw[ar (by omega),MT,List.cons_append]at uZ;injection uZ with h1 h2
 subst h1 h2;rw[List.map_set,List.set_set]
theorem J7{i0:Int}{p1:List Int}(MT:p=i0::p1){cb gb:Bool}{r:SV}
 (c2:aS prog 214 [.c (.rp 3 (aY y))] (B cb))
 (c4:aS prog 174 [.a 2 [J t,J a], .c (.rp 3 [J k,J n, .ro 3 (dD ((gz.set i0.toNat (iS y (gz.getD i0.toNat dm) p1)).map aM))])] (B gb))
 (e1:R.2.2=false->r= .tup [.a 3 [J 0,J 0, .ows 66 3 []],I 2])
 (e2:R.2.2=true->R.2.1=true->cb=false->r= .tup [.a 3 [J 0,J 0, .ows 66 3 []],I 4])
 (e3:R.2.2=true->(R.2.1=false\/cb=true)->gb=false->r= .tup [.a 3 [J 0,J 0, .ows 66 3 []],I 3])
 (e4:R.2.2=true->(R.2.1=false\/cb=true)->gb=true->r= .tup [.a 3 [J k,J n, .own 66 3 ((gz.set i0.toNat (iS y (gz.getD i0.toNat dm) p1)).map aM)],I 0]):
 aE prog 198 [.a 2 [J t,J a], .c (.rp 3 (aY (.mk k n gz))), .c (.ro 1 (p.map eI)), .c (.rp 3 (aY y))] [] r:=by
 have _:=hs;have c1:=fa (.mk k n gz) (by omega);rw[gn]at c1;have c3:=fa y (by omega);rw[gn]at c3;refine cX func198 (fun ew=>match ew with|8=>true|_=>false) (h:=?_)
 repeat'((conv=>whnf);first
  |(show xd _ _ _ _ _ _;(have h8:=‹¬((i:Nat):Int)<(p.length:Nat)›);(have _:=trt);(have h9:=congrArg List.length MT);(simp only[List.length_cons]at h9);exfalso;omega)|(show Gh _ _ _ _ _;refine Gh.soft 4 iP.up (Gh.go ?_))|(show jY _ _ _ _;refine jY.move 4 rfl (fun v1 RB=>?_);clear RB;refine jY.go ?_)|(show jY _ _ _ _;(have _:=ZR);refine jY.OK 3 ix.toNat 2 rfl (Dy si) rfl (fun v2=>jY.go ?_))|(show jY _ _ _ _;(have _:=Z6);refine jY.OK 6 ix.toNat 2 rfl (Dy si) rfl (fun v2=>jY.go ?_))|(show Gh _ _ _ _ _;(have _:=‹ee 0 _ _=true›);(have _:=trt);(have _:pK (.mk k n gz) (p.drop i) true=R:=hA);refine Gh.go ⟨(⟨.one,gz.getD (p[i]'(by omega)).toNat dm,gz,p[i]'(by omega),[],v,gz.map aM, .c (.cb true),true,i+1⟩:T6),(by(have h9:=bQ ‹ee 0 _ _=true›);(try simp only[aa,aA.kids,dc]at h9);exact⟨.inl rfl,by show i+1≤_;omega,by show pK _ (p.drop (i+1)) _=R;rw[<-hA];exact(xR (x:=(.mk k n gz)) (p:=p) (i:=i) (b:=true) (by omega) (by simpa[aA.kids,dc]using‹ee 0 _ _=true›)).symm,Nat.le_trans (NQ _) hB,rfl,trivial,(fun h=>by cases h),(fun _=>⟨rfl,by show p.take (i+1)=[_];subst Rl;rw[List.take_add_one,List.getElem?_eq_getElem (by omega)];rfl,rfl,h9.1,by show _<_;simp only[aA.kids]at h9⊢;omega,rfl⟩),(fun h=>by cases h)⟩),(by show _<_;(try simp only[]);omega),(by(repeat'((conv=>whnf)<;>(first|exact trivial|refine⟨?_,?_⟩|kernel_rfl)));done),(by(repeat'((conv=>whnf)<;>(first|exact trivial|refine⟨?_,?_⟩|kernel_rfl)));done),(by(repeat'((conv=>whnf)<;>(first|exact trivial|refine⟨?_,?_⟩|kernel_rfl)));done)⟩)|(show Gh _ _ _ _ _;(have _:=‹ee 0 _ _=true›);(have _:=ZR);(have _:pK _ (p.drop i) true=R:=hA);refine Gh.Eg 6 _ rfl (Gh.N2 7 6 rfl (Gh.go ⟨(⟨.deep,(gz.getD ix.toNat dm).kids.getD (p[i]'(by omega)).toNat dm,(gz.getD ix.toNat dm).kids,p[i]'(by omega),[ix],v2,(gz.map aM).set ix.toNat [J (gz.getD ix.toNat dm).kind,J (gz.getD ix.toNat dm).num, .val v2], .c (.cb true),true,i+1⟩:T6),(by(have h9:=bQ ‹ee 0 _ _=true›);(try simp only[aa,aA.kids,dc]at h9);exact⟨.inl rfl,by show i+1≤_;omega,by show pK _ (p.drop (i+1)) _=R;rw[<-hA];exact(xR (x:=(gz.getD ix.toNat dm)) (p:=p) (i:=i) (b:=true) (by omega) (by simpa[aA.kids,dc]using‹ee 0 _ _=true›)).symm,Nat.le_trans (NQ _) hB,rfl,⟨si,trivial⟩,(fun h=>by cases h),(fun h=>by cases h),(fun _=>⟨ix,[],rfl,by show p.take (i+1)=_;rw[List.take_add_one,List.getElem?_eq_getElem (by omega),uZ];rfl,rfl,h9.1,by show _<_;simp only[aA.kids]at h9⊢;omega,rfl⟩)⟩),(by show _<_;(try simp only[]);omega),(by(repeat'((conv=>whnf)<;>(first|exact trivial|refine⟨?_,?_⟩|kernel_rfl)));done),(by(repeat'((conv=>whnf)<;>(first|exact trivial|refine⟨?_,?_⟩|kernel_rfl)));done),(by(repeat'((conv=>whnf)<;>(first|exact trivial|refine⟨?_,?_⟩|kernel_rfl)));done)⟩)))|(show Gh _ _ _ _ _;(have _:=‹ee 0 _ _=true›);(have _:=Z6);(have _:pK _ (p.drop i) true=R:=hA);refine Gh.C7 3 6 j.toNat rfl (c9 (by rw[aa];exact xA.1)) rfl rfl (BJ v v2 (gz.getD j.toNat dm) q ix xA.2) (Gh.N2 7 6 rfl (Gh.go ⟨(⟨.deep,((dc (j::q) (.mk k n gz)).getD ix.toNat dm).kids.getD (p[i]'(by omega)).toNat dm,((dc (j::q) (.mk k n gz)).getD ix.toNat dm).kids,p[i]'(by omega),(j::q)++[ix],v2,((gz.map aM).set j.toNat (ln (.val v) q (gz.getD j.toNat dm))).set j.toNat (ln (.val v2) (q++[ix]) (gz.getD j.toNat dm)), .c (.cb true),true,i+1⟩:T6),(by(have h9:=bQ ‹ee 0 _ _=true›);(try simp only[aa,aA.kids,dc]at h9);exact⟨.inl rfl,by show i+1≤_;omega,by show pK _ (p.drop (i+1)) _=R;rw[<-hA];exact(xR (x:=((dc (j::q) (.mk k n gz)).getD ix.toNat dm)) (p:=p) (i:=i) (b:=true) (by omega) (by simpa[aA.kids,dc]using‹ee 0 _ _=true›)).symm,Nat.le_trans (NQ _) hB,(xx _ _ _).symm,xA.snoc si,(fun h=>by cases h),(fun h=>by cases h),(fun _=>⟨j,q++[ix],rfl,by show p.take (i+1)=_;rw[List.take_add_one,List.getElem?_eq_getElem (by omega),uZ];rfl,rfl,h9.1,by show _<_;simp only[aA.kids,dc]at h9⊢;omega,List.set_set _⟩)⟩),(by show _<_;(try simp only[]);omega),(by(repeat'((conv=>whnf)<;>(first|exact trivial|refine⟨?_,?_⟩|kernel_rfl)));done),(by(repeat'((conv=>whnf)<;>(first|exact trivial|refine⟨?_,?_⟩|kernel_rfl)));done),(by(repeat'((conv=>whnf)<;>(first|exact trivial|refine⟨?_,?_⟩|kernel_rfl)));done)⟩)))|(show Gh _ _ _ _ _;(have _:=‹ee 0 _ _=true›);(have _:=trt);(have _:pK (.mk k n gz) (p.drop i) false=R:=hA);refine Gh.go ⟨(⟨.one,gz.getD (p[i]'(by omega)).toNat dm,gz,p[i]'(by omega),[],v,gz.map aM,B (k==5),k==5,i+1⟩:T6),(by(have h9:=bQ ‹ee 0 _ _=true›);(try simp only[aa,aA.kids,dc]at h9);exact⟨.inr rfl,by show i+1≤_;omega,by show pK _ (p.drop (i+1)) _=R;rw[<-hA];exact(xR (x:=(.mk k n gz)) (p:=p) (i:=i) (b:=false) (by omega) (by simpa[aA.kids,dc]using‹ee 0 _ _=true›)).symm,Nat.le_trans (NQ _) hB,rfl,trivial,(fun h=>by cases h),(fun _=>⟨rfl,by show p.take (i+1)=[_];subst Rl;rw[List.take_add_one,List.getElem?_eq_getElem (by omega)];rfl,rfl,h9.1,by show _<_;simp only[aA.kids]at h9⊢;omega,rfl⟩),(fun h=>by cases h)⟩),(by show _<_;(try simp only[]);omega),(by(repeat'((conv=>whnf)<;>(first|exact trivial|refine⟨?_,?_⟩|kernel_rfl)));done),(by(repeat'((conv=>whnf)<;>(first|exact trivial|refine⟨?_,?_⟩|kernel_rfl)));done),(by(repeat'((conv=>whnf)<;>(first|exact trivial|refine⟨?_,?_⟩|kernel_rfl)));done)⟩)|(show Gh _ _ _ _ _;(have _:=‹ee 0 _ _=true›);(have _:=ZR);(have _:pK _ (p.drop i) false=R:=hA);refine Gh.Eg 6 _ rfl (Gh.N2 7 6 rfl (Gh.go ⟨(⟨.deep,(gz.getD ix.toNat dm).kids.getD (p[i]'(by omega)).toNat dm,(gz.getD ix.toNat dm).kids,p[i]'(by omega),[ix],v2,(gz.map aM).set ix.toNat [J (gz.getD ix.toNat dm).kind,J (gz.getD ix.toNat dm).num, .val v2],B ((gz.getD ix.toNat dm).kind==5),(gz.getD ix.toNat dm).kind==5,i+1⟩:T6),(by(have h9:=bQ ‹ee 0 _ _=true›);(try simp only[aa,aA.kids,dc]at h9);exact⟨.inr rfl,by show i+1≤_;omega,by show pK _ (p.drop (i+1)) _=R;rw[<-hA];exact(xR (x:=(gz.getD ix.toNat dm)) (p:=p) (i:=i) (b:=false) (by omega) (by simpa[aA.kids,dc]using‹ee 0 _ _=true›)).symm,Nat.le_trans (NQ _) hB,rfl,⟨si,trivial⟩,(fun h=>by cases h),(fun h=>by cases h),(fun _=>⟨ix,[],rfl,by show p.take (i+1)=_;rw[List.take_add_one,List.getElem?_eq_getElem (by omega),uZ];rfl,rfl,h9.1,by show _<_;simp only[aA.kids]at h9⊢;omega,rfl⟩)⟩),(by show _<_;(try simp only[]);omega),(by(repeat'((conv=>whnf)<;>(first|exact trivial|refine⟨?_,?_⟩|kernel_rfl)));done),(by(repeat'((conv=>whnf)<;>(first|exact trivial|refine⟨?_,?_⟩|kernel_rfl)));done),(by(repeat'((conv=>whnf)<;>(first|exact trivial|refine⟨?_,?_⟩|kernel_rfl)));done)⟩)))|(show Gh _ _ _ _ _;(have _:=‹ee 0 _ _=true›);(have _:=Z6);(have _:pK _ (p.drop i) false=R:=hA);refine Gh.C7 3 6 j.toNat rfl (c9 (by rw[aa];exact xA.1)) rfl rfl (BJ v v2 (gz.getD j.toNat dm) q ix xA.2) (Gh.N2 7 6 rfl (Gh.go ⟨(⟨.deep,((dc (j::q) (.mk k n gz)).getD ix.toNat dm).kids.getD (p[i]'(by omega)).toNat dm,((dc (j::q) (.mk k n gz)).getD ix.toNat dm).kids,p[i]'(by omega),(j::q)++[ix],v2,((gz.map aM).set j.toNat (ln (.val v) q (gz.getD j.toNat dm))).set j.toNat (ln (.val v2) (q++[ix]) (gz.getD j.toNat dm)),B (((dc (j::q) (.mk k n gz)).getD ix.toNat dm).kind==5),((dc (j::q) (.mk k n gz)).getD ix.toNat dm).kind==5,i+1⟩:T6),(by(have h9:=bQ ‹ee 0 _ _=true›);(try simp only[aa,aA.kids,dc]at h9);exact⟨.inr rfl,by show i+1≤_;omega,by show pK _ (p.drop (i+1)) _=R;rw[<-hA];exact(xR (x:=((dc (j::q) (.mk k n gz)).getD ix.toNat dm)) (p:=p) (i:=i) (b:=false) (by omega) (by simpa[aA.kids,dc]using‹ee 0 _ _=true›)).symm,Nat.le_trans (NQ _) hB,(xx _ _ _).symm,xA.snoc si,(fun h=>by cases h),(fun h=>by cases h),(fun _=>⟨j,q++[ix],rfl,by show p.take (i+1)=_;rw[List.take_add_one,List.getElem?_eq_getElem (by omega),uZ];rfl,rfl,h9.1,by show _<_;simp only[aA.kids,dc]at h9⊢;omega,List.set_set _⟩)⟩),(by show _<_;(try simp only[]);omega),(by(repeat'((conv=>whnf)<;>(first|exact trivial|refine⟨?_,?_⟩|kernel_rfl)));done),(by(repeat'((conv=>whnf)<;>(first|exact trivial|refine⟨?_,?_⟩|kernel_rfl)));done),(by(repeat'((conv=>whnf)<;>(first|exact trivial|refine⟨?_,?_⟩|kernel_rfl)));done)⟩)))|(show Gh _ _ _ _ _;(have h8:=‹¬((i:Nat):Int)<(p.length:Nat)›);(have _:=ZR);refine Gh.soft 3 (iP.aU (jy.of_eq (Q5 gz p MT uZ h8 y))) (Gh.go ?_))|(show Gh _ _ _ _ _;(have h8:=‹¬((i:Nat):Int)<(p.length:Nat)›);(have _:=Z6);refine Gh.C7 3 6 j.toNat rfl (c9 (by rw[aa];exact xA.1)) rfl rfl (O3 v y (gz.getD j.toNat dm) q ix xA.2) (Gh.soft 3 (iP.aU (jy.of_eq (NP gz p MT uZ h8 y _))) (Gh.go ?_)))|(show aI _ _;(have _:=‹ee 0 _ _=false›);(obtain rfl:=e1 rfl);exact aI.mk rfl trivial)|(show aI _ _;(have g2:=‹cb=false›);(obtain rfl:=e2 rfl rfl g2);exact aI.mk rfl trivial)|(show aI _ _;(have g3:=‹gb=false›);(obtain rfl:=e3 rfl (by first|exact .inl rfl|exact .inr (by assumption)) g3);exact aI.mk rfl trivial)|(show aI _ _;(have g3:=‹gb=true›);(obtain rfl:=e4 rfl (by first|exact .inl rfl|exact .inr (by assumption)) g3);exact aI.mk rfl trivial)|(show aZ 3 _ _ _ _ _ _;refine n7 (T6) [1] (fun s=>[(0,abH s.m s.ix.toNat),(7,s.S),(8,I (s.i:Nat))]) (fun s=>[(3, .aU none 66 3 s.Zo),(6, .aU (some s.v) 66 3 (abN s.m s.ks))]) (fun s=>AtJ (.mk k n gz) p R s) (fun s=>p.length-s.i) (⟨.root,(.mk k n gz),gz,0,[],v1,gz.map aM, .c (.cb false),false,0⟩) (by exact⟨.inl rfl,ah _,hR,(by show aH (.mk k n gz)≤1048576;omega),rfl,trivial,fun _=>⟨rfl,rfl,rfl,rfl⟩,(fun h=>by cases h),(fun h=>by cases h)⟩) (fun s ha=>?_);(obtain⟨m,x,ks,ix,pp,v,Zo,S,bl,i⟩:=s);(obtain⟨hS,hi,hA,hB,IB,xA,Wx,Y9,Zt⟩:=ha);((try simp only[]at hS hi hA hB IB xA Wx Y9 Zt));(have W3:=zh x);(have NQ:=EP x);(cases m<;>first|(obtain⟨Rl,rfl,rfl,rfl⟩:=Wx rfl;clear Wx Y9 Zt;obtain rfl:gz=ks:=IB.symm;have trt:True:=trivial)|(obtain⟨rfl,uZ,hx,aaG,si,rfl⟩:=Y9 rfl;clear Wx Y9 Zt;(obtain rfl:gz=ks:=IB.symm);subst hx;have ZR:True:=trivial)|(obtain⟨j,q,rfl,uZ,hx,aaG,si,rfl⟩:=Zt rfl;clear Wx Y9 Zt;subst IB;subst hx;have ad7:=xA.1;have Z6:True:=trivial))<;>rcases hS with rfl|rfl<;>cases bl)
  |(apply Fact.mk;intro hL;try simp only[aa,maxLen]at hL)
  |((apply bX;constructor)<;>intro h<;>(try simp only[aa]at h)<;>(try first|omega|contradiction))|(show ay _ 137 _ _ _ _;refine cG [] rfl (c1) ?_)|(show ay _ 137 _ _ _ _;refine cG [] rfl (c3) ?_)|(show ay _ 214 _ _ _ _;refine cP rfl (c2) ?_)|(show ay _ 174 _ _ _ _;refine cP rfl (c4) ?_)|(show ay _ 86 _ _ _ _;refine cP rfl (ed (p[i]'(by omega)) 0 (((gz.map aM).length:Nat)-1)) ?_)|(show ay _ 86 _ _ _ _;refine cP rfl (ed (p[i]'(by omega)) 0 (((((gz.getD ix.toNat dm).kids).map aM).length:Nat)-1)) ?_)|(show ay _ 86 _ _ _ _;refine cP rfl (ed (p[i]'(by omega)) 0 ((((((dc (j::q) (.mk k n gz)).getD ix.toNat dm).kids).map aM).length:Nat)-1)) ?_)|(show ay _ 197 _ _ _ _;refine ay.raw rfl (qU dC hm func197 rfl rfl rfl rfl (ann:=fun _=>none) (gh:=fun ew=>match ew with|2=>true|5=>true|_=>false) ?_))|(show Arith _ _ _;refine Arith.fit (bu (by simp only[aa,af,aA.kids]at W3⊢;omega) (by simp only[aa,af,aA.kids]at W3⊢;omega)) ?_)|(show xd _ _ _ _ _ _;(have h8:=‹ee 0 _ _=false›);(obtain rfl:=(OW (by omega) (by simpa[aA.kids,dc]using h8)).symm.trans hA);refine xd.of rfl ?_)|(show xd _ _ _ _ _ _;(have h8:=‹¬((i:Nat):Int)<(p.length:Nat)›);(obtain rfl:=(O8 (by omega)).symm.trans hA);refine xd.of rfl ?_)|(show mu _ _ _;first|refine mu.refl ?_|refine mu.iE ?_|refine mu.one ?_|refine mu.step ?_)|(show Gh _ _ _ _ _;refine Gh.go ?_)|(show Index _ _ _;first|(refine Index.mk _ (bZ (i:=i) (by omega)) ?_)|(refine Index.mk _ (c9 (by rw[aa];exact si)) ?_)|(refine Index.mk _ (c9 (by show ix.toNat<(List.map aM _).length;rw[aa];exact si)) ?_)|(refine Index.mk _ (Dy si) ?_)|fail)
  |refine nB ?_|(show ch _ _ _;first|refine ch.row 7 rfl ?_|refine ch.aU 7 rfl ?_|refine ch.row 6 rfl ?_|refine ch.aU 6 rfl ?_)
  |apply jY.go|(show bh _ _;refine bh.mk (by first|((have h9:=bQ ‹ee 0 _ _=true›;(try simp only[aa,af,dc,aA.kids]at h9⊢);omega))|((simp only[aa,af];omega))|fail) ?_))
 all_goals first|rfl|trivial
end
section
variable{t a:Int}(hs:cE t a=true)(k n:Int)(gz:List aA)(y:aA)(Fe:aH (.mk k n gz)≤500000)(IH:aH y≤500000)
include hs Fe IH
theorem Me{gb:Bool}{r:SV}
 (c4:aS prog 174 [.a 2 [J t,J a], .c (.rp 3 [J y.kind,J y.num, .ro 3 (dD (y.kids.map aM))])] (B gb))
 (e3:gb=false->r= .tup [.a 3 [J 0,J 0, .ows 66 3 []],I 3])
 (e4:gb=true->r= .tup [.a 3 (cC y),I 0]):
 aE prog 198 [.a 2 [J t,J a], .c (.rp 3 (aY (.mk k n gz))), .c (.ro 1 []), .c (.rp 3 (aY y))] [] r:=by
 have _:=hs;have c1:=fa (.mk k n gz) (by omega);rw[gn]at c1;have c3:=fa y (by omega);rw[gn]at c3;refine cX func198 (h:=?_)
 repeat'((conv=>whnf);first
  |(show aI _ _;(have g3:=‹gb=false›);(obtain rfl:=e3 g3);exact aI.mk rfl trivial)|(show aI _ _;(have g3:=‹gb=true›);(obtain rfl:=e4 g3);exact aI.mk rfl trivial)|(show aZ 3 _ _ _ _ _ _;refine lpk (Nat) [1] (fun i=>[(0, .lp 5 0),(7, .c (.cb false)),(8,I (i:Nat))]) (fun i=>i=0) (fun i=>0) 0 (by rfl) (fun i ha=>?_);(obtain rfl:i=0:=ha))
  |(apply Fact.mk;intro hL;try simp only[aa,maxLen]at hL)
  |((apply bX;constructor)<;>intro h<;>(try simp only[aa]at h)<;>(try first|omega|contradiction))|(show ay _ 137 _ _ _ _;refine cG [] rfl (c1) ?_)|(show ay _ 137 _ _ _ _;refine cG [] rfl (c3) ?_)|(show ay _ 174 _ _ _ _;refine cP rfl (c4) ?_)|(show ay _ 197 _ _ _ _;refine ay.raw rfl (qU dC hm func197 rfl rfl rfl rfl (ann:=fun _=>none) (gh:=fun _=>false) ?_))|(show xd _ _ _ _ _ _;refine xd.of rfl ?_)|(show mu _ _ _;first|refine mu.refl ?_|refine mu.iE ?_|refine mu.one ?_|refine mu.step ?_))
 all_goals first|rfl|trivial
end
theorem B3{f:Nat}{args:List SV}{n:Int}(h:aE prog f args [] (.tup [.a 3 [J 0,J 0, .ows 66 3 []],I n])):aE prog f args [] (.tup [.a 3 (cC dm),I n]):=aE.VV h (.same (.same (.up .nil)))
theorem ny(t a:Int)(hs:cE t a=true)(e y:aA)(p:List Int)(Fe:aH e≤500000)(IH:aH y≤500000):aE prog 198 [.a 2 [J t,J a], .c (.rp 3 (aY e)), .c (.ro 1 (p.map eI)), .c (.rp 3 (aY y))] [] (.tup [.a 3 (cC (o6 t a e p y).1),I (o6 t a e p y).2]):=by
 obtain⟨k,n,gz⟩:=e;have hrb:=Cr y p (.mk k n gz);have c4:=nh t a (iS y (.mk k n gz) p) (by omega);rw[hs,gn,Bool.true_and]at c4;unfold o6;have nf:∀{b:Bool},b=true-> ¬b=false:=fun h=>by rw[h];decide
 cases p with
 |nil=>
  have e8:aY (iS y (.mk k n gz) [])=[J y.kind,J y.num, .ro 3 (dD (y.kids.map aM))]:=by rw[cM fJ];rfl
  rw[e8]at c4;have core:=fun r=>Me (r:=r) hs k n gz y Fe IH c4
  rw[if_neg (by simp[pK]),if_neg (by simp[pK])];cases hg:bz t a (iS y (.mk k n gz) [])with
  |false=>
   rw[if_pos rfl];rw[hg]at core;exact B3 (core _ (fun _=>rfl) (fun h=>by cases h))
  |true=>
   rw[if_neg (by decide)];rw[hg]at core;exact core _ (fun h=>by cases h) (fun _=>rfl)
 |cons i0 p1=>
  have e7:iS y (.mk k n gz) (i0::p1)= .mk k n (gz.set i0.toNat (iS y (gz.getD i0.toNat dm) p1)):=by rw[ED];rfl
  have e8:∀L:List aA,aY (.mk k n L)=[J k,J n, .ro 3 (dD (L.map aM))]:=fun L=>by rw[cM fJ];rfl
  rw[e7,e8]at c4;rw[e7];have core:=fun r=>J7 (r:=r) hs k n gz y (i0::p1) Fe IH rfl rfl (mM y) c4
  cases Od:(pK (.mk k n gz) (i0::p1) false).2.2 with
  |false=>
   rw[if_pos rfl];exact B3 (core _ (fun _=>rfl) (fun h=>absurd Od (nf h)) (fun h=>absurd Od (nf h)) (fun h=>absurd Od (nf h)))
  |true=>
   rw[if_neg (by decide)];by_cases hbc:(pK (.mk k n gz) (i0::p1) false).2.1=true/\dq y=false
   ·rw[if_pos hbc];exact B3 (core _ (fun h=>absurd h (nf Od)) (fun _ _ _=>rfl) (fun _ h=>h.elim (fun h=>absurd h (nf hbc.1)) fun h=>absurd hbc.2 (nf h)) (fun _ h=>h.elim (fun h=>absurd h (nf hbc.1)) fun h=>absurd hbc.2 (nf h)))
   ·rw[if_neg hbc];cases hg:bz t a (.mk k n (gz.set i0.toNat (iS y (gz.getD i0.toNat dm) p1)))with
    |false=>
     rw[if_pos rfl];exact B3 (core _ (fun h=>absurd h (nf Od)) (fun _ h1 h2=>absurd ⟨h1,h2⟩ hbc) (fun _ _ _=>rfl) (fun _ _ h=>absurd hg (nf h)))
    |true=>
     rw[if_neg (by decide)];exact core _ (fun h=>absurd h (nf Od)) (fun _ h1 h2=>absurd ⟨h1,h2⟩ hbc) (fun _ _ h=>absurd h (nf hg)) (fun _ _ _=>rfl)
theorem tr(t a:Int)(hs:cE t a=true)(e y:aA)(p:List Int)(Fe:aH e≤500000)(IH:aH y≤500000):aE prog 198 [.a 2 [J t,J a], .c (.rp 3 (aY e)), .c (.ro 1 (p.map eI)), .c (.rp 3 (aY y))] [] (.tup [.a 3 (aY (o6 t a e p y).1),I (o6 t a e p y).2]):=
 (ny t a hs e y p Fe IH).soft (.tup (.cons (CJ _) (.cons .same .nil)))
theorem eY{l:List aA}{i:Nat}{x:aA}(h:i<l.length)(hx:jP (l.getD i dm)=x):((l.take i).map jP).map aM++[cC x]=((l.take (i+1)).map jP).map aM:=by
 rw[List.take_add_one,List.getElem?_eq_getElem h,Option.toList,au,au,<-hx,getD_eq h,List.map_cons,List.map_nil,List.map_cons,List.map_nil,dQ]
theorem nF(x:aA)(hb:aH x≤1048576)(sz:Nat)(hs:3≤sz)(l:List CV):aE prog 137 [.c (.rp sz (aY x++l))] [] (.a 3 (cC x)):=rJ x hb l sz hs
section
variable(a b c d e f g:aA)(b0:aH a≤1048576)(b1:aH b≤1048576)(b2:aH c≤1048576)(b3:aH d≤1048576)(b4:aH e≤1048576)(b5:aH f≤1048576)(b6:aH g≤1048576)
include b0 b1 b2 b3 b4 b5 b6
theorem CE(t u:Nat)(ht:t≤3)(hu:u≤4):aE prog 225 [.c (.rp 21 (nZ a b c d e f g)),I (t:Nat),I (u:Nat)] [] (.tup [.c (.own 66 3 ((([a,b,c].take t).map jP).map aM)), .c (.own 66 3 ((([d,e,f,g].take u).map jP).map aM))]):=by
 refine cX func225 (h:=?_)
 repeat'((conv=>whnf);first
  |(show ay _ 137 _ _ _ _;(have _:=j);(rcases j with _|_|_|_|j)<;>(try omega))|(show ay _ 137 _ _ _ _;(have _:=‹((i:Nat):Int)<((t:Nat):Int)›);(rcases i with _|_|_|i)<;>(try omega))|(show aI _ _;(have h1:es=(([a,b,c].take t).map jP).map aM:=(by rw[hE1,show i=t by omega]));(have h2:fs=(([d,e,f,g].take u).map jP).map aM:=(by rw[ha.2,show j=u by omega]));exact aI.mk (by rw[h1,h2]) trivial)|(show aZ 4 _ _ _ _ _ _;refine n7 (Nat × List (List CV)) [0,1,2,9] (fun⟨i,es⟩=>[(8, .lw 2),(10,I (i:Nat))]) (fun⟨i,es⟩=>[(2, .aU none 66 3 es)]) (fun⟨i,es⟩=>i≤t/\es=(([a,b,c].take i).map jP).map aM) (fun⟨i,es⟩=>t-i) (0,[]) (by exact⟨ah _,rfl⟩) (fun A ha=>?_);obtain⟨i,es⟩:=A;have ha:i≤t/\es=(([a,b,c].take i).map jP).map aM:=ha;(have R5:=ha.1);(have hE1:=ha.2);(have RD:es.length≤3:=by rw[ha.2,aa,aa,aq];exact Nat.min_le_right _ _))|(show aZ 11 _ _ _ _ _ _;refine n7 (Nat × List (List CV)) [0,2,8] (fun⟨j,fs⟩=>[(9, .lw 3),(12,I (j:Nat))]) (fun⟨j,fs⟩=>[(3, .aU none 66 3 fs)]) (fun⟨j,fs⟩=>j≤u/\fs=(([d,e,f,g].take j).map jP).map aM) (fun⟨j,fs⟩=>u-j) (0,[]) (by exact⟨ah _,rfl⟩) (fun A ha=>?_);obtain⟨j,fs⟩:=A;have ha:j≤u/\fs=(([d,e,f,g].take j).map jP).map aM:=ha;(have UC:=ha.1);(have Nz:fs.length≤4:=by rw[ha.2,aa,aa,aq];exact Nat.min_le_right _ _))
  |refine tD ((1,es++[cC a]):Nat × List (List CV)) (by exact⟨by show 1≤t;omega,(congrArg (· ++[_]) ha.2).trans (eY (l:=[a,b,c]) (i:=0) (by show 0<3;omega) (qk h))⟩)
  |refine tD ((1,es++[cC (.mk 2 0 [])]):Nat × List (List CV)) (by exact⟨by show 1≤t;omega,(congrArg (· ++[_]) ha.2).trans (eY (l:=[a,b,c]) (i:=0) (by show 0<3;omega) (nQ h))⟩)
  |refine tD ((2,es++[cC b]):Nat × List (List CV)) (by exact⟨by show 2≤t;omega,(congrArg (· ++[_]) ha.2).trans (eY (l:=[a,b,c]) (i:=1) (by show 1<3;omega) (qk h))⟩)
  |refine tD ((2,es++[cC (.mk 2 0 [])]):Nat × List (List CV)) (by exact⟨by show 2≤t;omega,(congrArg (· ++[_]) ha.2).trans (eY (l:=[a,b,c]) (i:=1) (by show 1<3;omega) (nQ h))⟩)
  |refine tD ((3,es++[cC c]):Nat × List (List CV)) (by exact⟨by show 3≤t;omega,(congrArg (· ++[_]) ha.2).trans (eY (l:=[a,b,c]) (i:=2) (by show 2<3;omega) (qk h))⟩)
  |refine tD ((3,es++[cC (.mk 2 0 [])]):Nat × List (List CV)) (by exact⟨by show 3≤t;omega,(congrArg (· ++[_]) ha.2).trans (eY (l:=[a,b,c]) (i:=2) (by show 2<3;omega) (nQ h))⟩)
  |refine tD ((1,fs++[cC d]):Nat × List (List CV)) (by exact⟨by show 1≤u;omega,(congrArg (· ++[_]) ha.2).trans (eY (l:=[d,e,f,g]) (i:=0) (by show 0<4;omega) (qk h))⟩)
  |refine tD ((1,fs++[cC (.mk 2 0 [])]):Nat × List (List CV)) (by exact⟨by show 1≤u;omega,(congrArg (· ++[_]) ha.2).trans (eY (l:=[d,e,f,g]) (i:=0) (by show 0<4;omega) (nQ h))⟩)
  |refine tD ((2,fs++[cC e]):Nat × List (List CV)) (by exact⟨by show 2≤u;omega,(congrArg (· ++[_]) ha.2).trans (eY (l:=[d,e,f,g]) (i:=1) (by show 1<4;omega) (qk h))⟩)
  |refine tD ((2,fs++[cC (.mk 2 0 [])]):Nat × List (List CV)) (by exact⟨by show 2≤u;omega,(congrArg (· ++[_]) ha.2).trans (eY (l:=[d,e,f,g]) (i:=1) (by show 1<4;omega) (nQ h))⟩)
  |refine tD ((3,fs++[cC f]):Nat × List (List CV)) (by exact⟨by show 3≤u;omega,(congrArg (· ++[_]) ha.2).trans (eY (l:=[d,e,f,g]) (i:=2) (by show 2<4;omega) (qk h))⟩)
  |refine tD ((3,fs++[cC (.mk 2 0 [])]):Nat × List (List CV)) (by exact⟨by show 3≤u;omega,(congrArg (· ++[_]) ha.2).trans (eY (l:=[d,e,f,g]) (i:=2) (by show 2<4;omega) (nQ h))⟩)
  |refine tD ((4,fs++[cC g]):Nat × List (List CV)) (by exact⟨by show 4≤u;omega,(congrArg (· ++[_]) ha.2).trans (eY (l:=[d,e,f,g]) (i:=3) (by show 3<4;omega) (qk h))⟩)
  |refine tD ((4,fs++[cC (.mk 2 0 [])]):Nat × List (List CV)) (by exact⟨by show 4≤u;omega,(congrArg (· ++[_]) ha.2).trans (eY (l:=[d,e,f,g]) (i:=3) (by show 3<4;omega) (nQ h))⟩)
  |(apply Fact.mk;intro hL;try simp only[aa,maxLen]at hL)
  |((apply bX;constructor)<;>intro h<;>(try simp only[aa]at h)<;>(try first|omega|contradiction))|(show ay _ 137 _ _ _ _;refine cG [] rfl (nF a b0 21 (by decide) [J b.kind,J b.num, .ro 3 (b.kids.map aD),J c.kind,J c.num, .ro 3 (c.kids.map aD),J d.kind,J d.num, .ro 3 (d.kids.map aD),J e.kind,J e.num, .ro 3 (e.kids.map aD),J f.kind,J f.num, .ro 3 (f.kids.map aD),J g.kind,J g.num, .ro 3 (g.kids.map aD)]) ?_)|(show ay _ 137 _ _ _ _;refine cG [] rfl (nF b b1 18 (by decide) [J c.kind,J c.num, .ro 3 (c.kids.map aD),J d.kind,J d.num, .ro 3 (d.kids.map aD),J e.kind,J e.num, .ro 3 (e.kids.map aD),J f.kind,J f.num, .ro 3 (f.kids.map aD),J g.kind,J g.num, .ro 3 (g.kids.map aD)]) ?_)|(show ay _ 137 _ _ _ _;refine cG [] rfl (nF c b2 15 (by decide) [J d.kind,J d.num, .ro 3 (d.kids.map aD),J e.kind,J e.num, .ro 3 (e.kids.map aD),J f.kind,J f.num, .ro 3 (f.kids.map aD),J g.kind,J g.num, .ro 3 (g.kids.map aD)]) ?_)|(show ay _ 137 _ _ _ _;refine cG [] rfl (nF d b3 12 (by decide) [J e.kind,J e.num, .ro 3 (e.kids.map aD),J f.kind,J f.num, .ro 3 (f.kids.map aD),J g.kind,J g.num, .ro 3 (g.kids.map aD)]) ?_)|(show ay _ 137 _ _ _ _;refine cG [] rfl (nF e b4 9 (by decide) [J f.kind,J f.num, .ro 3 (f.kids.map aD),J g.kind,J g.num, .ro 3 (g.kids.map aD)]) ?_)|(show ay _ 137 _ _ _ _;refine cG [] rfl (nF f b5 6 (by decide) [J g.kind,J g.num, .ro 3 (g.kids.map aD)]) ?_)|(show ay _ 137 _ _ _ _;refine cG [] rfl (nF g b6 3 (by decide) []) ?_)|(show ay _ 190 _ _ _ _;refine cG [] rfl (yV) ?_)
  |refine aR ?_|(show bh _ _;refine bh.mk (by first|((simp only[aa,List.length_cons,List.length_nil,maxLen];constructor<;>omega))|fail) ?_)
  |refine nO ?_)
 all_goals first|rfl|trivial
end
def kz(l:List aA)(o:Nat->Bool)(j:Nat):Bool:=decide ((l.getD j dm).kind=0)&&o j
theorem om{l:List aA}{o:Nat->Bool}{j:Nat}(h:¬(l.getD j dm).kind=0):kz l o j=false:=by unfold kz;rw[decide_eq_false h];rfl
theorem kQ{l:List aA}{o:Nat->Bool}{j:Nat}(h:o j=false):kz l o j=false:=by unfold kz;rw[h,Bool.and_false]
theorem oa{l:List aA}{o:Nat->Bool}{j:Nat}(h:(l.getD j dm).kind=0)(k:o j=true):kz l o j=true:=by unfold kz;rw[decide_eq_true h,k];rfl
theorem dP{l:List aA}{o:Nat->Bool}{i:Nat}(h:∀j,j<i->kz l o j=false)(k:kz l o i=false):∀j,j<i+1->kz l o j=false:=fun j hj=>by
 rcases Nat.lt_succ_iff_lt_or_eq.1 hj with h1|rfl
 ·exact h j h1
 ·exact k
abbrev R7:List CV:=[J 0,J 0, .ows 66 3 [],J 0,J 0, .ows 66 3 [],J 0,J 0, .ows 66 3 [],J 0,J 0, .ows 66 3 [],J 0,J 0, .ows 66 3 [],J 0,J 0, .ows 66 3 [],J 0,J 0, .ows 66 3 []]
end Go.Proofs.YtgbggaddpbghfaaGreat
