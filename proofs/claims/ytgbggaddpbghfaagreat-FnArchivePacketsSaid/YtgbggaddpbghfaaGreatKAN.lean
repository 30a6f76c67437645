/- Contract of the reference's replacing at a path: the result owns its memory. The tree above the path is told as owned with a hole. Conditions: bounds of size. -/
import Derived.Test.YtgbggaddpbghfaaGreatKAM
namespace Go.KA
open Go Go.RowKit
theorem iq.of_eq{a b:List (List CV)}(h:a=b):iq a b:=by
 subst h
 induction a with
 |nil=>exact .nil
 |cons r rs ih=>exact .cons (fS.refl r) ih
end Go.KA
namespace Go.Proofs.YtgbggaddpbghfaaGreat
open Go Go.KA Go.Proofs
set_option maxHeartbeats 16000000
set_option maxRecDepth 100000
def jM(c:CV):List Int→ae→List CV
 |[],e=>[J e.kind,J e.num,c]
 |i::p,e=>[J e.kind,J e.num, .own 66 3 ((e.kids.map ay).set i.toNat (jM c p (e.kids.getD i.toNat cL)))]
def n9:List Int→ae→Prop
 |[],_=>True
 |i::p,e=>i.toNat<e.kids.length∧n9 p (e.kids.getD i.toNat cL)
theorem n9.snoc{i:Int}:∀{p:List Int} {e:ae},n9 p e→i.toNat<(cI p e).length→n9 (p++[i]) e
 |[],_,_,h=>⟨h,trivial⟩
 |_::_,_,h1,h=>⟨h1.1,n9.snoc h1.2 h⟩
theorem AW(v:Value)(r:CV):∀(p:List Int) (e:ae),n9 p e→kD v r (jM (.val v) p e) (jM r p e)
 |[],e,_=> .skip (.skip .here)
 |i::p,e,h=>by
  refine .skip (.skip ?_)
  have h2:=kD.own (v:=v) (r:=r) (ty:=66) (sz:=3) (rows:=(e.kids.map ay).set i.toNat (jM (.val v) p (e.kids.getD i.toNat cL))) (i:=i.toNat) (cs:=[]) (cy (by rw[List.length_map];exact h.1)) (AW v r p (e.kids.getD i.toNat cL) h.2)
  rwa[List.set_set] at h2
theorem v5(ks:List ae):∀(p:List Int) (e:ae),jM (.own 66 3 (ks.map ay)) p e=ay (yV ks p e)
 |[],e=>by
  show _=ay (.mk e.kind e.num ks)
  rw[dt]
  rfl
 |i::p,e=>by
  rw[jM,v5 ks p,yV,dt (.mk _ _ _)]
  show _=[J e.kind,J e.num,CV.own _ 3 ((e.kids.set i.toNat (yV ks p (e.kids.getD i.toNat cL))).map ay)]
  rw[List.map_set]
theorem wE(r:CV)(i:Int):∀(p:List Int) (e:ae),jM (.own 66 3 (((cI p e).map ay).set i.toNat [J ((cI p e).getD i.toNat cL).kind,J ((cI p e).getD i.toNat cL).num,r])) p e=jM r (p++[i]) e
 |[],e=>rfl
 |j::p,e=>by
  rw[List.cons_append,jM,jM,cI,wE r i p]
theorem zt(v v2:Value)(e:ae)(pp:List Int)(ix:Int)(hp:n9 pp e):kD v (.own 66 3 (((cI pp e).map ay).set ix.toNat [J ((cI pp e).getD ix.toNat cL).kind,J ((cI pp e).getD ix.toNat cL).num, .val v2])) (jM (.val v) pp e) (jM (.val v2) (pp++[ix]) e):=by
 have h:=AW v (.own 66 3 (((cI pp e).map ay).set ix.toNat [J ((cI pp e).getD ix.toNat cL).kind,J ((cI pp e).getD ix.toNat cL).num, .val v2])) pp e hp
 rwa[wE] at h
theorem Lw(v:Value)(y e:ae)(pp:List Int)(ix:Int)(hp:n9 pp e):kD v (.own 66 3 (((cI pp e).map ay).set ix.toNat (bN y))) (jM (.val v) pp e) (ay (gK y e (pp++[ix]))):=by
 have h:=AW v (.own 66 3 (((cI pp e).set ix.toNat y).map ay)) pp e hp
 rw[v5,zx,List.map_set,dt y] at h
 exact h
inductive Md where
 |root
 |one
 |deep
def Qv:Md→Nat→SV
 | .root,_=> .lp 5 0
 | .one,i=> .le 3 3 i 0
 | .deep,i=> .le 6 3 i 0
def Qj:Md→List ae→List (List CV)
 | .deep,l=>l.map ay
 |_,_=>[]
structure Np where
 m:Md
 x:ae
 ks:List ae
 ix:Int
 pp:List Int
 v:Value
 PE:List (List CV)
 S:SV
 bl:Bool
 i:Nat
structure QK(e:ae)(p:List Int)(R:ae × Bool × Bool)(s:Np):Prop where
 S:s.S= .c (.cb s.bl)∨s.S=B s.bl
 i:s.i≤p.length
 at_:nA s.x (p.drop s.i) s.bl=R
 Pj:aj s.x≤1048576
 ks:s.ks=cI s.pp e
 QP:n9 s.pp e
 rt:s.m= .root→s.i=0∧s.x=e∧s.pp=[]∧s.PE=e.kids.map ay
 on:s.m= .one→s.pp=[]∧p.take s.i=[s.ix]∧s.x=s.ks.getD s.ix.toNat cL∧0≤s.ix∧s.ix.toNat<s.ks.length∧s.PE=e.kids.map ay
 de:s.m= .deep→∃j q,s.pp=j::q∧p.take s.i=s.pp++[s.ix]∧s.x=s.ks.getD s.ix.toNat cL∧0≤s.ix∧s.ix.toNat<s.ks.length∧s.PE=(e.kids.map ay).set j.toNat (jM (.val s.v) q (e.kids.getD j.toNat cL))
section
variable{t a:Int}(hs:bO t a=true)(k n:Int)(ks0:List ae)(y:ae)(p:List Int)(hbe:aj (.mk k n ks0)≤500000)(hby:aj y≤500000){R:ae × Bool × Bool}(hR:nA (.mk k n ks0) p false=R)
include hs hbe hby hR
omit hs hbe hby hR in
theorem JB{i0 ix:Int}{p1:List Int}{i:Nat}(hp0:p=i0::p1)(hpp:p.take i=[ix])(h8:¬((i:Nat):Int)<(p.length:Nat))(y:ae):(ks0.map ay).set ix.toNat (bN y)=(ks0.set i0.toNat (gK y (ks0.getD i0.toNat cL) p1)).map ay:=by
 rw[List.take_of_length_le (by omega),hp0] at hpp
 injection hpp with h1 h2
 subst h1 h2
 rw[List.map_set,gK,dt]
omit hs hbe hby hR in
theorem HZ{i0 ix j:Int}{p1 q:List Int}{i:Nat}(hp0:p=i0::p1)(hpp:p.take i=(j::q)++[ix])(h8:¬((i:Nat):Int)<(p.length:Nat))(y:ae)(z:List CV):((ks0.map ay).set j.toNat z).set j.toNat (ay (gK y (ks0.getD j.toNat cL) (q++[ix])))=(ks0.set i0.toNat (gK y (ks0.getD i0.toNat cL) p1)).map ay:=by
 rw[List.take_of_length_le (by omega),hp0,List.cons_append] at hpp
 injection hpp with h1 h2
 subst h1 h2
 rw[List.map_set,List.set_set]
theorem EM{i0:Int}{p1:List Int}(hp0:p=i0::p1){cb gb:Bool}{r:SV}
 (c2:aD Tryz.prog 214 [.c (.rp 3 (aI y))] (B cb))
 (c4:aD Tryz.prog 174 [.a 2 [J t,J a], .c (.rp 3 [J k,J n, .ro 3 (cW ((ks0.set i0.toNat (gK y (ks0.getD i0.toNat cL) p1)).map ay))])] (B gb))
 (e1:R.2.2=false→r= .tup [.a 3 [J 0,J 0, .ows 66 3 []],I 2])
 (e2:R.2.2=true→R.2.1=true→cb=false→r= .tup [.a 3 [J 0,J 0, .ows 66 3 []],I 4])
 (e3:R.2.2=true→(R.2.1=false∨cb=true)→gb=false→r= .tup [.a 3 [J 0,J 0, .ows 66 3 []],I 3])
 (e4:R.2.2=true→(R.2.1=false∨cb=true)→gb=true→r= .tup [.a 3 [J k,J n, .own 66 3 ((ks0.set i0.toNat (gK y (ks0.getD i0.toNat cL) p1)).map ay)],I 0]):
 ah Tryz.prog 198 [.a 2 [J t,J a], .c (.rp 3 (aI (.mk k n ks0))), .c (.ro 1 (p.map eI)), .c (.rp 3 (aI y))] [] r:=by
 have _:=hs
 have c1:=eu (.mk k n ks0) (by omega)
 rw[fv] at c1
 have c3:=eu y (by omega)
 rw[fv] at c3
 refine cX Tryz.func198 (fun reg_=>match reg_ with|8=>true|_=>false) (h:= ?_)
 repeat'((conv=>whnf);first
  |(guard_target=uo _ _ _ _ _ _;(have h8:=‹¬((i:Nat):Int)<(p.length:Nat)›);(have _:=trt);(have h9:=congrArg List.length hp0);(simp only[List.length_cons] at h9);exfalso;omega)|(guard_target=Gh _ _ _ _ _;refine Gh.soft 4 gH.up (Gh.go ?_))|(guard_target=iV _ _ _ _;refine iV.move 4 rfl (fun v1 hv1=> ?_);clear hv1;refine iV.go ?_)|(guard_target=iV _ _ _ _;(have _:=ton);refine iV.J7 3 ix.toNat 2 rfl (A6 hix) rfl (fun v2=>iV.go ?_))|(guard_target=iV _ _ _ _;(have _:=tde);refine iV.J7 6 ix.toNat 2 rfl (A6 hix) rfl (fun v2=>iV.go ?_))|(guard_target=Gh _ _ _ _ _;(have _:=‹dJ 0 _ _=true›);(have _:=trt);(have _:nA (.mk k n ks0) (p.drop i) true=R:=hA);refine Gh.go ⟨(⟨.one,ks0.getD (p[i]'(by omega)).toNat cL,ks0,p[i]'(by omega),[],v,ks0.map ay, .c (.cb true),true,i+1⟩:Np),(by(have h9:=bX ‹dJ 0 _ _=true›);(try simp only[List.length_map,ae.kids,cI] at h9);exact⟨.inl rfl,by show i+1≤_;omega,by show nA _ (p.drop (i+1)) _=R;rw[←hA];exact(u7 (x:=(.mk k n ks0)) (p:=p) (i:=i) (b:=true) (by omega) (by simpa[ae.kids,cI] using‹dJ 0 _ _=true›)).symm,Nat.le_trans (hkb _) hB,rfl,trivial,(fun h=>by cases h),(fun _=>⟨rfl,by show p.take (i+1)=[_];subst hi0;rw[List.take_add_one,List.getElem?_eq_getElem (by omega)];rfl,rfl,h9.1,by show _<_;simp only[ae.kids] at h9⊢;omega,rfl⟩),(fun h=>by cases h)⟩),(by show _<_;(try simp only[]);omega),(by(repeat'((conv=>whnf)<;>(first|exact trivial|refine⟨?_, ?_⟩|kernel_rfl)));done),(by(repeat'((conv=>whnf)<;>(first|exact trivial|refine⟨?_, ?_⟩|kernel_rfl)));done),(by(repeat'((conv=>whnf)<;>(first|exact trivial|refine⟨?_, ?_⟩|kernel_rfl)));done)⟩)|(guard_target=Gh _ _ _ _ _;(have _:=‹dJ 0 _ _=true›);(have _:=ton);(have _:nA _ (p.drop i) true=R:=hA);refine Gh.zG 6 _ rfl (Gh.I7 7 6 rfl (Gh.go ⟨(⟨.deep,(ks0.getD ix.toNat cL).kids.getD (p[i]'(by omega)).toNat cL,(ks0.getD ix.toNat cL).kids,p[i]'(by omega),[ix],v2,(ks0.map ay).set ix.toNat [J (ks0.getD ix.toNat cL).kind,J (ks0.getD ix.toNat cL).num, .val v2], .c (.cb true),true,i+1⟩:Np),(by(have h9:=bX ‹dJ 0 _ _=true›);(try simp only[List.length_map,ae.kids,cI] at h9);exact⟨.inl rfl,by show i+1≤_;omega,by show nA _ (p.drop (i+1)) _=R;rw[←hA];exact(u7 (x:=(ks0.getD ix.toNat cL)) (p:=p) (i:=i) (b:=true) (by omega) (by simpa[ae.kids,cI] using‹dJ 0 _ _=true›)).symm,Nat.le_trans (hkb _) hB,rfl,⟨hix,trivial⟩,(fun h=>by cases h),(fun h=>by cases h),(fun _=>⟨ix,[],rfl,by show p.take (i+1)=_;rw[List.take_add_one,List.getElem?_eq_getElem (by omega),hpp];rfl,rfl,h9.1,by show _<_;simp only[ae.kids] at h9⊢;omega,rfl⟩)⟩),(by show _<_;(try simp only[]);omega),(by(repeat'((conv=>whnf)<;>(first|exact trivial|refine⟨?_, ?_⟩|kernel_rfl)));done),(by(repeat'((conv=>whnf)<;>(first|exact trivial|refine⟨?_, ?_⟩|kernel_rfl)));done),(by(repeat'((conv=>whnf)<;>(first|exact trivial|refine⟨?_, ?_⟩|kernel_rfl)));done)⟩)))|(guard_target=Gh _ _ _ _ _;(have _:=‹dJ 0 _ _=true›);(have _:=tde);(have _:nA _ (p.drop i) true=R:=hA);refine Gh.y8 3 6 j.toNat rfl (cy (by rw[List.length_map];exact hpi.1)) rfl rfl (zt v v2 (ks0.getD j.toNat cL) q ix hpi.2) (Gh.I7 7 6 rfl (Gh.go ⟨(⟨.deep,((cI (j::q) (.mk k n ks0)).getD ix.toNat cL).kids.getD (p[i]'(by omega)).toNat cL,((cI (j::q) (.mk k n ks0)).getD ix.toNat cL).kids,p[i]'(by omega),(j::q)++[ix],v2,((ks0.map ay).set j.toNat (jM (.val v) q (ks0.getD j.toNat cL))).set j.toNat (jM (.val v2) (q++[ix]) (ks0.getD j.toNat cL)), .c (.cb true),true,i+1⟩:Np),(by(have h9:=bX ‹dJ 0 _ _=true›);(try simp only[List.length_map,ae.kids,cI] at h9);exact⟨.inl rfl,by show i+1≤_;omega,by show nA _ (p.drop (i+1)) _=R;rw[←hA];exact(u7 (x:=((cI (j::q) (.mk k n ks0)).getD ix.toNat cL)) (p:=p) (i:=i) (b:=true) (by omega) (by simpa[ae.kids,cI] using‹dJ 0 _ _=true›)).symm,Nat.le_trans (hkb _) hB,(tI _ _ _).symm,hpi.snoc hix,(fun h=>by cases h),(fun h=>by cases h),(fun _=>⟨j,q++[ix],rfl,by show p.take (i+1)=_;rw[List.take_add_one,List.getElem?_eq_getElem (by omega),hpp];rfl,rfl,h9.1,by show _<_;simp only[ae.kids,cI] at h9⊢;omega,List.set_set _⟩)⟩),(by show _<_;(try simp only[]);omega),(by(repeat'((conv=>whnf)<;>(first|exact trivial|refine⟨?_, ?_⟩|kernel_rfl)));done),(by(repeat'((conv=>whnf)<;>(first|exact trivial|refine⟨?_, ?_⟩|kernel_rfl)));done),(by(repeat'((conv=>whnf)<;>(first|exact trivial|refine⟨?_, ?_⟩|kernel_rfl)));done)⟩)))|(guard_target=Gh _ _ _ _ _;(have _:=‹dJ 0 _ _=true›);(have _:=trt);(have _:nA (.mk k n ks0) (p.drop i) false=R:=hA);refine Gh.go ⟨(⟨.one,ks0.getD (p[i]'(by omega)).toNat cL,ks0,p[i]'(by omega),[],v,ks0.map ay,B (k==5),k==5,i+1⟩:Np),(by(have h9:=bX ‹dJ 0 _ _=true›);(try simp only[List.length_map,ae.kids,cI] at h9);exact⟨.inr rfl,by show i+1≤_;omega,by show nA _ (p.drop (i+1)) _=R;rw[←hA];exact(u7 (x:=(.mk k n ks0)) (p:=p) (i:=i) (b:=false) (by omega) (by simpa[ae.kids,cI] using‹dJ 0 _ _=true›)).symm,Nat.le_trans (hkb _) hB,rfl,trivial,(fun h=>by cases h),(fun _=>⟨rfl,by show p.take (i+1)=[_];subst hi0;rw[List.take_add_one,List.getElem?_eq_getElem (by omega)];rfl,rfl,h9.1,by show _<_;simp only[ae.kids] at h9⊢;omega,rfl⟩),(fun h=>by cases h)⟩),(by show _<_;(try simp only[]);omega),(by(repeat'((conv=>whnf)<;>(first|exact trivial|refine⟨?_, ?_⟩|kernel_rfl)));done),(by(repeat'((conv=>whnf)<;>(first|exact trivial|refine⟨?_, ?_⟩|kernel_rfl)));done),(by(repeat'((conv=>whnf)<;>(first|exact trivial|refine⟨?_, ?_⟩|kernel_rfl)));done)⟩)|(guard_target=Gh _ _ _ _ _;(have _:=‹dJ 0 _ _=true›);(have _:=ton);(have _:nA _ (p.drop i) false=R:=hA);refine Gh.zG 6 _ rfl (Gh.I7 7 6 rfl (Gh.go ⟨(⟨.deep,(ks0.getD ix.toNat cL).kids.getD (p[i]'(by omega)).toNat cL,(ks0.getD ix.toNat cL).kids,p[i]'(by omega),[ix],v2,(ks0.map ay).set ix.toNat [J (ks0.getD ix.toNat cL).kind,J (ks0.getD ix.toNat cL).num, .val v2],B ((ks0.getD ix.toNat cL).kind==5),(ks0.getD ix.toNat cL).kind==5,i+1⟩:Np),(by(have h9:=bX ‹dJ 0 _ _=true›);(try simp only[List.length_map,ae.kids,cI] at h9);exact⟨.inr rfl,by show i+1≤_;omega,by show nA _ (p.drop (i+1)) _=R;rw[←hA];exact(u7 (x:=(ks0.getD ix.toNat cL)) (p:=p) (i:=i) (b:=false) (by omega) (by simpa[ae.kids,cI] using‹dJ 0 _ _=true›)).symm,Nat.le_trans (hkb _) hB,rfl,⟨hix,trivial⟩,(fun h=>by cases h),(fun h=>by cases h),(fun _=>⟨ix,[],rfl,by show p.take (i+1)=_;rw[List.take_add_one,List.getElem?_eq_getElem (by omega),hpp];rfl,rfl,h9.1,by show _<_;simp only[ae.kids] at h9⊢;omega,rfl⟩)⟩),(by show _<_;(try simp only[]);omega),(by(repeat'((conv=>whnf)<;>(first|exact trivial|refine⟨?_, ?_⟩|kernel_rfl)));done),(by(repeat'((conv=>whnf)<;>(first|exact trivial|refine⟨?_, ?_⟩|kernel_rfl)));done),(by(repeat'((conv=>whnf)<;>(first|exact trivial|refine⟨?_, ?_⟩|kernel_rfl)));done)⟩)))|(guard_target=Gh _ _ _ _ _;(have _:=‹dJ 0 _ _=true›);(have _:=tde);(have _:nA _ (p.drop i) false=R:=hA);refine Gh.y8 3 6 j.toNat rfl (cy (by rw[List.length_map];exact hpi.1)) rfl rfl (zt v v2 (ks0.getD j.toNat cL) q ix hpi.2) (Gh.I7 7 6 rfl (Gh.go ⟨(⟨.deep,((cI (j::q) (.mk k n ks0)).getD ix.toNat cL).kids.getD (p[i]'(by omega)).toNat cL,((cI (j::q) (.mk k n ks0)).getD ix.toNat cL).kids,p[i]'(by omega),(j::q)++[ix],v2,((ks0.map ay).set j.toNat (jM (.val v) q (ks0.getD j.toNat cL))).set j.toNat (jM (.val v2) (q++[ix]) (ks0.getD j.toNat cL)),B (((cI (j::q) (.mk k n ks0)).getD ix.toNat cL).kind==5),((cI (j::q) (.mk k n ks0)).getD ix.toNat cL).kind==5,i+1⟩:Np),(by(have h9:=bX ‹dJ 0 _ _=true›);(try simp only[List.length_map,ae.kids,cI] at h9);exact⟨.inr rfl,by show i+1≤_;omega,by show nA _ (p.drop (i+1)) _=R;rw[←hA];exact(u7 (x:=((cI (j::q) (.mk k n ks0)).getD ix.toNat cL)) (p:=p) (i:=i) (b:=false) (by omega) (by simpa[ae.kids,cI] using‹dJ 0 _ _=true›)).symm,Nat.le_trans (hkb _) hB,(tI _ _ _).symm,hpi.snoc hix,(fun h=>by cases h),(fun h=>by cases h),(fun _=>⟨j,q++[ix],rfl,by show p.take (i+1)=_;rw[List.take_add_one,List.getElem?_eq_getElem (by omega),hpp];rfl,rfl,h9.1,by show _<_;simp only[ae.kids,cI] at h9⊢;omega,List.set_set _⟩)⟩),(by show _<_;(try simp only[]);omega),(by(repeat'((conv=>whnf)<;>(first|exact trivial|refine⟨?_, ?_⟩|kernel_rfl)));done),(by(repeat'((conv=>whnf)<;>(first|exact trivial|refine⟨?_, ?_⟩|kernel_rfl)));done),(by(repeat'((conv=>whnf)<;>(first|exact trivial|refine⟨?_, ?_⟩|kernel_rfl)));done)⟩)))|(guard_target=Gh _ _ _ _ _;(have h8:=‹¬((i:Nat):Int)<(p.length:Nat)›);(have _:=ton);refine Gh.soft 3 (gH.aG (iq.of_eq (JB ks0 p hp0 hpp h8 y))) (Gh.go ?_))|(guard_target=Gh _ _ _ _ _;(have h8:=‹¬((i:Nat):Int)<(p.length:Nat)›);(have _:=tde);refine Gh.y8 3 6 j.toNat rfl (cy (by rw[List.length_map];exact hpi.1)) rfl rfl (Lw v y (ks0.getD j.toNat cL) q ix hpi.2) (Gh.soft 3 (gH.aG (iq.of_eq (HZ ks0 p hp0 hpp h8 y _))) (Gh.go ?_)))|(guard_target=aq _ _;(have _:=‹dJ 0 _ _=false›);(obtain rfl:=e1 rfl);exact aq.mk rfl trivial)|(guard_target=aq _ _;(have g2:=‹cb=false›);(obtain rfl:=e2 rfl rfl g2);exact aq.mk rfl trivial)|(guard_target=aq _ _;(have g3:=‹gb=false›);(obtain rfl:=e3 rfl (by first|exact .inl rfl|exact .inr (by assumption)) g3);exact aq.mk rfl trivial)|(guard_target=aq _ _;(have g3:=‹gb=true›);(obtain rfl:=e4 rfl (by first|exact .inl rfl|exact .inr (by assumption)) g3);exact aq.mk rfl trivial)|(guard_target=~ aK 3 _ _ _ _ _ _;refine l8 (Np) [1] (fun s=>[(0,Qv s.m s.ix.toNat),(7,s.S),(8,I (s.i:Nat))]) (fun s=>[(3, .aG none 66 3 s.PE),(6, .aG (some s.v) 66 3 (Qj s.m s.ks))]) (fun s=>QK (.mk k n ks0) p R s) (fun s=>p.length-s.i) (⟨.root,(.mk k n ks0),ks0,0,[],v1,ks0.map ay, .c (.cb false),false,0⟩) (by exact⟨.inl rfl,Nat.zero_le _,hR,(by show aj (.mk k n ks0)≤1048576;omega),rfl,trivial,fun _=>⟨rfl,rfl,rfl,rfl⟩,(fun h=>by cases h),(fun h=>by cases h)⟩) (fun s ha=> ?_);(obtain⟨m,x,ks,ix,pp,v,PE,S,bl,i⟩:=s);(obtain⟨hS,hi,hA,hB,hks,hpi,hrt,hon,hde⟩:=ha);((try simp only[] at hS hi hA hB hks hpi hrt hon hde));(have hkl:=xG x);(have hkb:=An x);(cases m<;>first|(obtain⟨hi0,rfl,rfl,rfl⟩:=hrt rfl;clear hrt hon hde;obtain rfl:ks0=ks:=hks.symm;have trt:True:=trivial)|(obtain⟨rfl,hpp,hx,hix0,hix,rfl⟩:=hon rfl;clear hrt hon hde;(obtain rfl:ks0=ks:=hks.symm);subst hx;have ton:True:=trivial)|(obtain⟨j,q,rfl,hpp,hx,hix0,hix,rfl⟩:=hde rfl;clear hrt hon hde;subst hks;subst hx;have hpi1:=hpi.1;have tde:True:=trivial))<;>rcases hS with rfl|rfl<;>cases bl)
  |(apply Fact.mk;intro hL;try simp only[List.length_map,maxLen] at hL)
  |((first|apply bA|apply bB|apply bC|apply bD|apply bE|apply bF)<;>intro h<;>(try simp only[List.length_map] at h)<;>(try omega)<;>(try contradiction))|(guard_target=aa _ 137 _ _ _ _;refine cG [] rfl (c1) ?_)|(guard_target=aa _ 137 _ _ _ _;refine cG [] rfl (c3) ?_)|(guard_target=aa _ 214 _ _ _ _;refine cP rfl (c2) ?_)|(guard_target=aa _ 174 _ _ _ _;refine cP rfl (c4) ?_)|(guard_target=aa _ 86 _ _ _ _;refine cP rfl (dH (p[i]'(by omega)) 0 (((ks0.map ay).length:Nat)-1)) ?_)|(guard_target=aa _ 86 _ _ _ _;refine cP rfl (dH (p[i]'(by omega)) 0 (((((ks0.getD ix.toNat cL).kids).map ay).length:Nat)-1)) ?_)|(guard_target=aa _ 86 _ _ _ _;refine cP rfl (dH (p[i]'(by omega)) 0 ((((((cI (j::q) (.mk k n ks0)).getD ix.toNat cL).kids).map ay).length:Nat)-1)) ?_)|(guard_target=aa _ 197 _ _ _ _;refine aa.raw rfl (pn da hm Tryz.func197 rfl rfl rfl rfl (ann:=fun _=>none) (gh:=fun reg_=>match reg_ with|2=>true|5=>true|_=>false) ?_))|(guard_target=Arith _ _ _;refine Arith.fit (aP (by simp only[List.length_map,List.length_set,ae.kids] at hkl⊢;omega) (by simp only[List.length_map,List.length_set,ae.kids] at hkl⊢;omega)) ?_)|(guard_target=uo _ _ _ _ _ _;(have h8:=‹dJ 0 _ _=false›);(obtain rfl:=(JT (by omega) (by simpa[ae.kids,cI] using h8)).symm.trans hA);refine uo.of rfl ?_)|(guard_target=uo _ _ _ _ _ _;(have h8:=‹¬((i:Nat):Int)<(p.length:Nat)›);(obtain rfl:=(LS (by omega)).symm.trans hA);refine uo.of rfl ?_)|(guard_target=kC _ _ _;first|refine kC.refl ?_|refine kC.iK ?_|refine kC.one ?_|refine kC.step ?_)|(guard_target=Gh _ _ _ _ _;refine Gh.go ?_)|(guard_target=Index _ _ _;first|(refine Index.mk _ (bw (i:=i) (by omega)) ?_)|(refine Index.mk _ (cy (by rw[List.length_map];exact hix)) ?_)|(refine Index.mk _ (cy (by show ix.toNat<(List.map ay _).length;rw[List.length_map];exact hix)) ?_)|(refine Index.mk _ (A6 hix) ?_)|fail)
  |refine nB ?_|(guard_target=bH _ _ _;first|refine bH.row 7 rfl ?_|refine bH.aG 7 rfl ?_|refine bH.row 6 rfl ?_|refine bH.aG 6 rfl ?_)
  |apply iV.go|(guard_target=aV _ _;refine aV.mk (by first|((have h9:=bX ‹dJ 0 _ _=true›;(try simp only[List.length_map,List.length_set,cI,ae.kids] at h9⊢);omega))|((simp only[List.length_map,List.length_set];omega))|fail) ?_))
 all_goals first|rfl|trivial
end
section
variable{t a:Int}(hs:bO t a=true)(k n:Int)(ks0:List ae)(y:ae)(hbe:aj (.mk k n ks0)≤500000)(hby:aj y≤500000)
include hs hbe hby
theorem Iw{gb:Bool}{r:SV}
 (c4:aD Tryz.prog 174 [.a 2 [J t,J a], .c (.rp 3 [J y.kind,J y.num, .ro 3 (cW (y.kids.map ay))])] (B gb))
 (e3:gb=false→r= .tup [.a 3 [J 0,J 0, .ows 66 3 []],I 3])
 (e4:gb=true→r= .tup [.a 3 (bN y),I 0]):
 ah Tryz.prog 198 [.a 2 [J t,J a], .c (.rp 3 (aI (.mk k n ks0))), .c (.ro 1 []), .c (.rp 3 (aI y))] [] r:=by
 have _:=hs
 have c1:=eu (.mk k n ks0) (by omega)
 rw[fv] at c1
 have c3:=eu y (by omega)
 rw[fv] at c3
 refine cX Tryz.func198 (h:= ?_)
 repeat'((conv=>whnf);first
  |(guard_target=aq _ _;(have g3:=‹gb=false›);(obtain rfl:=e3 g3);exact aq.mk rfl trivial)|(guard_target=aq _ _;(have g3:=‹gb=true›);(obtain rfl:=e4 g3);exact aq.mk rfl trivial)|(guard_target=~ aK 3 _ _ _ _ _ _;refine QI (Nat) [1] (fun i=>[(0, .lp 5 0),(7, .c (.cb false)),(8,I (i:Nat))]) (fun i=>i=0) (fun i=>0) 0 (by rfl) (fun i ha=> ?_);(obtain rfl:i=0:=ha))
  |(apply Fact.mk;intro hL;try simp only[List.length_map,maxLen] at hL)
  |((first|apply bA|apply bB|apply bC|apply bD|apply bE|apply bF)<;>intro h<;>(try simp only[List.length_map] at h)<;>(try omega)<;>(try contradiction))|(guard_target=aa _ 137 _ _ _ _;refine cG [] rfl (c1) ?_)|(guard_target=aa _ 137 _ _ _ _;refine cG [] rfl (c3) ?_)|(guard_target=aa _ 174 _ _ _ _;refine cP rfl (c4) ?_)|(guard_target=aa _ 197 _ _ _ _;refine aa.raw rfl (pn da hm Tryz.func197 rfl rfl rfl rfl (ann:=fun _=>none) (gh:=fun _=>false) ?_))|(guard_target=uo _ _ _ _ _ _;refine uo.of rfl ?_)|(guard_target=kC _ _ _;first|refine kC.refl ?_|refine kC.iK ?_|refine kC.one ?_|refine kC.step ?_))
 all_goals first|rfl|trivial
end
theorem yM{f:Nat}{args:List SV}{n:Int}(h:ah Tryz.prog f args [] (.tup [.a 3 [J 0,J 0, .ows 66 3 []],I n])):ah Tryz.prog f args [] (.tup [.a 3 (bN cL),I n]):=ah.Kd h (.same (.same (.up .nil)))
theorem lT(t a:Int)(hs:bO t a=true)(e y:ae)(p:List Int)(hbe:aj e≤500000)(hby:aj y≤500000):ah Tryz.prog 198 [.a 2 [J t,J a], .c (.rp 3 (aI e)), .c (.ro 1 (p.map eI)), .c (.rp 3 (aI y))] [] (.tup [.a 3 (bN (m8 t a e p y).1),I (m8 t a e p y).2]):=by
 obtain⟨k,n,ks0⟩:=e
 have hrb:=yS y p (.mk k n ks0)
 have c4:=lJ t a (gK y (.mk k n ks0) p) (by omega)
 rw[hs,fv,Bool.true_and] at c4
 unfold m8
 have nf:∀{b:Bool},b=true→¬b=false:=fun h=>by rw[h];decide
 cases p with
 |nil=>
  have e8:aI (gK y (.mk k n ks0) [])=[J y.kind,J y.num, .ro 3 (cW (y.kids.map ay))]:=by rw[bQ eM];rfl
  rw[e8] at c4
  have core:=fun r=>Iw (r:=r) hs k n ks0 y hbe hby c4
  rw[if_neg (by simp[nA]),if_neg (by simp[nA])]
  cases hg:aY t a (gK y (.mk k n ks0) []) with
  |false=>
   rw[if_pos rfl]
   rw[hg] at core
   exact yM (core _ (fun _=>rfl) (fun h=>by cases h))
  |true=>
   rw[if_neg (by decide)]
   rw[hg] at core
   exact core _ (fun h=>by cases h) (fun _=>rfl)
 |cons i0 p1=>
  have e7:gK y (.mk k n ks0) (i0::p1)= .mk k n (ks0.set i0.toNat (gK y (ks0.getD i0.toNat cL) p1)):=by rw[A1];rfl
  have e8:∀L:List ae,aI (.mk k n L)=[J k,J n, .ro 3 (cW (L.map ay))]:=fun L=>by rw[bQ eM];rfl
  rw[e7,e8] at c4
  rw[e7]
  have core:=fun r=>EM (r:=r) hs k n ks0 y (i0::p1) hbe hby rfl rfl (kN y) c4
  cases hfd:(nA (.mk k n ks0) (i0::p1) false).2.2 with
  |false=>
   rw[if_pos rfl]
   exact yM (core _ (fun _=>rfl) (fun h=>absurd hfd (nf h)) (fun h=>absurd hfd (nf h)) (fun h=>absurd hfd (nf h)))
  |true=>
   rw[if_neg (by decide)]
   by_cases hbc:(nA (.mk k n ks0) (i0::p1) false).2.1=true∧cQ y=false
   ·rw[if_pos hbc]
    exact yM (core _ (fun h=>absurd h (nf hfd)) (fun _ _ _=>rfl) (fun _ h=>h.elim (fun h=>absurd h (nf hbc.1)) fun h=>absurd hbc.2 (nf h)) (fun _ h=>h.elim (fun h=>absurd h (nf hbc.1)) fun h=>absurd hbc.2 (nf h)))
   ·rw[if_neg hbc]
    cases hg:aY t a (.mk k n (ks0.set i0.toNat (gK y (ks0.getD i0.toNat cL) p1))) with
    |false=>
     rw[if_pos rfl]
     exact yM (core _ (fun h=>absurd h (nf hfd)) (fun _ h1 h2=>absurd ⟨h1,h2⟩ hbc) (fun _ _ _=>rfl) (fun _ _ h=>absurd hg (nf h)))
    |true=>
     rw[if_neg (by decide)]
     exact core _ (fun h=>absurd h (nf hfd)) (fun _ h1 h2=>absurd ⟨h1,h2⟩ hbc) (fun _ _ h=>absurd h (nf hg)) (fun _ _ _=>rfl)
theorem qF(t a:Int)(hs:bO t a=true)(e y:ae)(p:List Int)(hbe:aj e≤500000)(hby:aj y≤500000):ah Tryz.prog 198 [.a 2 [J t,J a], .c (.rp 3 (aI e)), .c (.ro 1 (p.map eI)), .c (.rp 3 (aI y))] [] (.tup [.a 3 (aI (m8 t a e p y).1),I (m8 t a e p y).2]):=
 (lT t a hs e y p hbe hby).soft (.tup (.cons (zY _) (.cons .same .nil)))
end Go.Proofs.YtgbggaddpbghfaaGreat
namespace Go.Proofs.YtgbggaddpbghfaaGreat
open Go Go.KA Go.Proofs
set_option maxHeartbeats 16000000
set_option maxRecDepth 100000
theorem ew{l:List ae}{i:Nat}{x:ae}(h:i<l.length)(hx:iI (l.getD i cL)=x):((l.take i).map iI).map ay++[bN x]=((l.take (i+1)).map iI).map ay:=by
 rw[List.take_add_one,List.getElem?_eq_getElem h,Option.toList,List.map_append,List.map_append,←hx,getD_eq h,List.map_cons,List.map_nil,List.map_cons,List.map_nil,dt]
theorem lP(x:ae)(hb:aj x≤1048576)(sz:Nat)(hs:3≤sz)(l:List CV):ah Tryz.prog 137 [.c (.rp sz (aI x++l))] [] (.a 3 (bN x)):=pU x hb l sz hs
section
variable(a b c d e f g:ae)(b0:aj a≤1048576)(b1:aj b≤1048576)(b2:aj c≤1048576)(b3:aj d≤1048576)(b4:aj e≤1048576)(b5:aj f≤1048576)(b6:aj g≤1048576)
include b0 b1 b2 b3 b4 b5 b6
theorem zk(t u:Nat)(ht:t≤3)(hu:u≤4):ah Tryz.prog 225 [.c (.rp 21 (ma a b c d e f g)),I (t:Nat),I (u:Nat)] [] (.tup [.c (.own 66 3 ((([a,b,c].take t).map iI).map ay)), .c (.own 66 3 ((([d,e,f,g].take u).map iI).map ay))]):=by
 refine cX Tryz.func225 (h:= ?_)
 repeat'((conv=>whnf);first
  |(guard_target=aa _ 137 _ _ _ _;(have _:=j);(rcases j with _|_|_|_|j)<;>(try omega))|(guard_target=aa _ 137 _ _ _ _;(have _:=‹((i:Nat):Int)<((t:Nat):Int)›);(rcases i with _|_|_|i)<;>(try omega))|(guard_target=aq _ _;(have h1:es=(([a,b,c].take t).map iI).map ay:=(by rw[hE1,show i=t by omega]));(have h2:fs=(([d,e,f,g].take u).map iI).map ay:=(by rw[ha.2,show j=u by omega]));exact aq.mk (by rw[h1,h2]) trivial)|(guard_target=~ aK 4 _ _ _ _ _ _;refine l8 (Nat × List (List CV)) [0,1,2,9] (fun⟨i,es⟩=>[(8, .lw 2),(10,I (i:Nat))]) (fun⟨i,es⟩=>[(2, .aG none 66 3 es)]) (fun⟨i,es⟩=>i≤t∧es=(([a,b,c].take i).map iI).map ay) (fun⟨i,es⟩=>t-i) (0,[]) (by exact⟨Nat.zero_le _,rfl⟩) (fun A ha=> ?_);obtain⟨i,es⟩:=A;have ha:i≤t∧es=(([a,b,c].take i).map iI).map ay:=ha;(have hi1:=ha.1);(have hE1:=ha.2);(have hl1:es.length≤3:=by rw[ha.2,List.length_map,List.length_map,List.length_take];exact Nat.min_le_right _ _))|(guard_target=~ aK 11 _ _ _ _ _ _;refine l8 (Nat × List (List CV)) [0,2,8] (fun⟨j,fs⟩=>[(9, .lw 3),(12,I (j:Nat))]) (fun⟨j,fs⟩=>[(3, .aG none 66 3 fs)]) (fun⟨j,fs⟩=>j≤u∧fs=(([d,e,f,g].take j).map iI).map ay) (fun⟨j,fs⟩=>u-j) (0,[]) (by exact⟨Nat.zero_le _,rfl⟩) (fun A ha=> ?_);obtain⟨j,fs⟩:=A;have ha:j≤u∧fs=(([d,e,f,g].take j).map iI).map ay:=ha;(have hi2:=ha.1);(have hl2:fs.length≤4:=by rw[ha.2,List.length_map,List.length_map,List.length_take];exact Nat.min_le_right _ _))
  |refine rL ((1,es++[bN a]):Nat × List (List CV)) (by exact⟨by show 1≤t;omega,(congrArg (· ++[_]) ha.2).trans (ew (l:=[a,b,c]) (i:=0) (by show 0<3;omega) (nQ h))⟩)
  |refine rL ((1,es++[bN (.mk 2 0 [])]):Nat × List (List CV)) (by exact⟨by show 1≤t;omega,(congrArg (· ++[_]) ha.2).trans (ew (l:=[a,b,c]) (i:=0) (by show 0<3;omega) (lX h))⟩)
  |refine rL ((2,es++[bN b]):Nat × List (List CV)) (by exact⟨by show 2≤t;omega,(congrArg (· ++[_]) ha.2).trans (ew (l:=[a,b,c]) (i:=1) (by show 1<3;omega) (nQ h))⟩)
  |refine rL ((2,es++[bN (.mk 2 0 [])]):Nat × List (List CV)) (by exact⟨by show 2≤t;omega,(congrArg (· ++[_]) ha.2).trans (ew (l:=[a,b,c]) (i:=1) (by show 1<3;omega) (lX h))⟩)
  |refine rL ((3,es++[bN c]):Nat × List (List CV)) (by exact⟨by show 3≤t;omega,(congrArg (· ++[_]) ha.2).trans (ew (l:=[a,b,c]) (i:=2) (by show 2<3;omega) (nQ h))⟩)
  |refine rL ((3,es++[bN (.mk 2 0 [])]):Nat × List (List CV)) (by exact⟨by show 3≤t;omega,(congrArg (· ++[_]) ha.2).trans (ew (l:=[a,b,c]) (i:=2) (by show 2<3;omega) (lX h))⟩)
  |refine rL ((1,fs++[bN d]):Nat × List (List CV)) (by exact⟨by show 1≤u;omega,(congrArg (· ++[_]) ha.2).trans (ew (l:=[d,e,f,g]) (i:=0) (by show 0<4;omega) (nQ h))⟩)
  |refine rL ((1,fs++[bN (.mk 2 0 [])]):Nat × List (List CV)) (by exact⟨by show 1≤u;omega,(congrArg (· ++[_]) ha.2).trans (ew (l:=[d,e,f,g]) (i:=0) (by show 0<4;omega) (lX h))⟩)
  |refine rL ((2,fs++[bN e]):Nat × List (List CV)) (by exact⟨by show 2≤u;omega,(congrArg (· ++[_]) ha.2).trans (ew (l:=[d,e,f,g]) (i:=1) (by show 1<4;omega) (nQ h))⟩)
  |refine rL ((2,fs++[bN (.mk 2 0 [])]):Nat × List (List CV)) (by exact⟨by show 2≤u;omega,(congrArg (· ++[_]) ha.2).trans (ew (l:=[d,e,f,g]) (i:=1) (by show 1<4;omega) (lX h))⟩)
  |refine rL ((3,fs++[bN f]):Nat × List (List CV)) (by exact⟨by show 3≤u;omega,(congrArg (· ++[_]) ha.2).trans (ew (l:=[d,e,f,g]) (i:=2) (by show 2<4;omega) (nQ h))⟩)
  |refine rL ((3,fs++[bN (.mk 2 0 [])]):Nat × List (List CV)) (by exact⟨by show 3≤u;omega,(congrArg (· ++[_]) ha.2).trans (ew (l:=[d,e,f,g]) (i:=2) (by show 2<4;omega) (lX h))⟩)
  |refine rL ((4,fs++[bN g]):Nat × List (List CV)) (by exact⟨by show 4≤u;omega,(congrArg (· ++[_]) ha.2).trans (ew (l:=[d,e,f,g]) (i:=3) (by show 3<4;omega) (nQ h))⟩)
  |refine rL ((4,fs++[bN (.mk 2 0 [])]):Nat × List (List CV)) (by exact⟨by show 4≤u;omega,(congrArg (· ++[_]) ha.2).trans (ew (l:=[d,e,f,g]) (i:=3) (by show 3<4;omega) (lX h))⟩)
  |(apply Fact.mk;intro hL;try simp only[List.length_map,maxLen] at hL)
  |((first|apply bA|apply bB|apply bC|apply bD|apply bE|apply bF)<;>intro h<;>(try simp only[List.length_map] at h)<;>(try omega)<;>(try contradiction))|(guard_target=aa _ 137 _ _ _ _;refine cG [] rfl (lP a b0 21 (by decide) [J b.kind,J b.num, .ro 3 (b.kids.map ag),J c.kind,J c.num, .ro 3 (c.kids.map ag),J d.kind,J d.num, .ro 3 (d.kids.map ag),J e.kind,J e.num, .ro 3 (e.kids.map ag),J f.kind,J f.num, .ro 3 (f.kids.map ag),J g.kind,J g.num, .ro 3 (g.kids.map ag)]) ?_)|(guard_target=aa _ 137 _ _ _ _;refine cG [] rfl (lP b b1 18 (by decide) [J c.kind,J c.num, .ro 3 (c.kids.map ag),J d.kind,J d.num, .ro 3 (d.kids.map ag),J e.kind,J e.num, .ro 3 (e.kids.map ag),J f.kind,J f.num, .ro 3 (f.kids.map ag),J g.kind,J g.num, .ro 3 (g.kids.map ag)]) ?_)|(guard_target=aa _ 137 _ _ _ _;refine cG [] rfl (lP c b2 15 (by decide) [J d.kind,J d.num, .ro 3 (d.kids.map ag),J e.kind,J e.num, .ro 3 (e.kids.map ag),J f.kind,J f.num, .ro 3 (f.kids.map ag),J g.kind,J g.num, .ro 3 (g.kids.map ag)]) ?_)|(guard_target=aa _ 137 _ _ _ _;refine cG [] rfl (lP d b3 12 (by decide) [J e.kind,J e.num, .ro 3 (e.kids.map ag),J f.kind,J f.num, .ro 3 (f.kids.map ag),J g.kind,J g.num, .ro 3 (g.kids.map ag)]) ?_)|(guard_target=aa _ 137 _ _ _ _;refine cG [] rfl (lP e b4 9 (by decide) [J f.kind,J f.num, .ro 3 (f.kids.map ag),J g.kind,J g.num, .ro 3 (g.kids.map ag)]) ?_)|(guard_target=aa _ 137 _ _ _ _;refine cG [] rfl (lP f b5 6 (by decide) [J g.kind,J g.num, .ro 3 (g.kids.map ag)]) ?_)|(guard_target=aa _ 137 _ _ _ _;refine cG [] rfl (lP g b6 3 (by decide) []) ?_)|(guard_target=aa _ 190 _ _ _ _;refine cG [] rfl (vO) ?_)
  |refine aR ?_|(guard_target=aV _ _;refine aV.mk (by first|((simp only[List.length_map,List.length_cons,List.length_nil,maxLen];constructor<;>omega))|fail) ?_)
  |refine nO ?_)
 all_goals first|rfl|trivial
end
end Go.Proofs.YtgbggaddpbghfaaGreat
namespace Go.Proofs.YtgbggaddpbghfaaGreat
open Go Go.KA Go.Proofs
set_option maxHeartbeats 16000000
set_option maxRecDepth 100000
def jg(l:List ae)(o:Nat→Bool)(j:Nat):Bool:=decide ((l.getD j cL).kind=0)&&o j
theorem mG{l:List ae}{o:Nat→Bool}{j:Nat}(h:¬(l.getD j cL).kind=0):jg l o j=false:=by unfold jg;rw[decide_eq_false h];rfl
theorem jE{l:List ae}{o:Nat→Bool}{j:Nat}(h:o j=false):jg l o j=false:=by unfold jg;rw[h,Bool.and_false]
theorem my{l:List ae}{o:Nat→Bool}{j:Nat}(h:(l.getD j cL).kind=0)(k:o j=true):jg l o j=true:=by unfold jg;rw[decide_eq_true h,k];rfl
theorem dq{l:List ae}{o:Nat→Bool}{i:Nat}(h:∀j,j<i→jg l o j=false)(k:jg l o i=false):∀j,j<i+1→jg l o j=false:=fun j hj=>by
 rcases Nat.lt_succ_iff_lt_or_eq.1 hj with h1|rfl
 ·exact h j h1
 ·exact k
abbrev ME:List CV:=[J 0,J 0, .ows 66 3 [],J 0,J 0, .ows 66 3 [],J 0,J 0, .ows 66 3 [],J 0,J 0, .ows 66 3 [],J 0,J 0, .ows 66 3 [],J 0,J 0, .ows 66 3 [],J 0,J 0, .ows 66 3 []]
end Go.Proofs.YtgbggaddpbghfaaGreat
