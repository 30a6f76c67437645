/- Contract of the reference's making of a step, whose result owns its memory. Conditions: valid equations, bounds of size. -/
import Derived.Test.YtgbggaddpbghfaaGreatKAO
namespace Go.Proofs.YtgbggaddpbghfaaGreat
open Go Go.KA Go.Proofs
set_option maxHeartbeats 16000000
set_option maxRecDepth 100000
section
variable{t a k:Int}{cl:List (List CV)}{e L R X SL SR Zl Zr:ae}{path:List Int}{ts us:List (List CV)}{use fT fA cdl cdr:Int}{ub fb bb sl sr bk:Bool}{r:SV}
 (cu:ai Tryz.prog 196 [.c (.rp 3 [J t,J a, .ro 9 cl]),I k,I use] [] (.tup [.a 6 [J L.kind,J L.num, .ro 3 (L.kids.map af),J R.kind,J R.num, .ro 3 (R.kids.map af)],B ub]))
 (cf:aE Tryz.prog 187 [.c (.rp 6 [J L.kind,J L.num, .ro 3 (L.kids.map af),J R.kind,J R.num, .ro 3 (R.kids.map af)])] (.tup [I fT,I fA]))
 (ca:aE Tryz.prog 197 [.c (.rp 3 (aI e)), .c (.ro 1 (path.map eI))] (.tup [.c (.rp 3 (aI X)),B bb,B fb]))
 (c1:ai Tryz.prog 168 [.a 2 [J t,J a], .c (.rp 6 [J L.kind,J L.num, .ro 3 (L.kids.map af),J R.kind,J R.num, .ro 3 (R.kids.map af)]), .c (.ro 3 ts), .c (.ro 3 us)] [] (.tup [.a 3 (aI SL),B sl]))
 (c2:ai Tryz.prog 168 [.a 2 [J t,J a], .c (.rp 3 (aI R)), .c (.ro 3 ts), .c (.ro 3 us)] [] (.tup [.a 3 (aI SR),B sr]))
 (crl:ai Tryz.prog 198 [.a 2 [J t,J a], .c (.rp 3 (aI e)), .c (.ro 1 (path.map eI)), .c (.rp 3 (aI SL))] [] (.tup [.a 3 (bQ Zl),I cdl]))
 (crr:ai Tryz.prog 198 [.a 2 [J t,J a], .c (.rp 3 (aI e)), .c (.ro 1 (path.map eI)), .c (.rp 3 (aI SR))] [] (.tup [.a 3 (bQ Zr),I cdr]))
 (e1:ub=false→r= .tup [.a 3 [J 0,J 0, .ows 66 3 []],I 2])
 (e2:ub=true→¬((ts.length:Nat):Int)=fT→r= .tup [.a 3 [J 0,J 0, .ows 66 3 []],I 2])
 (e3:ub=true→((ts.length:Nat):Int)=fT→¬((us.length:Nat):Int)=fA→r= .tup [.a 3 [J 0,J 0, .ows 66 3 []],I 2])
 (e4:ub=true→((ts.length:Nat):Int)=fT→((us.length:Nat):Int)=fA→fb=false→r= .tup [.a 3 [J 0,J 0, .ows 66 3 []],I 2])
 (e5:ub=true→((ts.length:Nat):Int)=fT→((us.length:Nat):Int)=fA→fb=true→sl=false→r= .tup [.a 3 [J 0,J 0, .ows 66 3 []],I 3])
 (e6:ub=true→((ts.length:Nat):Int)=fT→((us.length:Nat):Int)=fA→fb=true→sl=true→sr=false→r= .tup [.a 3 [J 0,J 0, .ows 66 3 []],I 3])
 (e7:ub=true→((ts.length:Nat):Int)=fT→((us.length:Nat):Int)=fA→fb=true→sl=true→sr=true→eqv X (if bk=true then SR else SL)=false→r= .tup [.a 3 [J 0,J 0, .ows 66 3 []],I 6])
 (e8:ub=true→((ts.length:Nat):Int)=fT→((us.length:Nat):Int)=fA→fb=true→sl=true→sr=true→eqv X (if bk=true then SR else SL)=true→r=if bk=true then .tup [.a 3 (bQ Zl),I cdl] else .tup [.a 3 (bQ Zr),I cdr])
include cu cf ca c1 c2 crl crr e1 e2 e3 e4 e5 e6 e7 e8
theorem C0:ai Tryz.prog 172 [.c (.rp 3 [J t,J a, .ro 9 cl]),I k, .c (.rp 3 (aI e)), .c (.rp 5 [J use, .val (.bool bk), .ro 1 (path.map eI), .ro 3 ts, .ro 3 us])] [] r:=by
 have hbfalse:bk=false→ai Tryz.prog 172 [.c (.rp 3 [J t,J a, .ro 9 cl]),I k, .c (.rp 3 (aI e)), .c (.rp 5 [J use, .val (.bool bk), .ro 1 (path.map eI), .ro 3 ts, .ro 3 us])] [] r:=by
  rintro rfl
  have e7':=fun a b c d e f g=>e7 a b c d e f (show eqv X SL=false from fh g)
  have e8':=fun a b c d e f g=>e8 a b c d e f (show eqv X SL=true from kY g)
  refine cX Tryz.func172 (fun reg_=>match reg_ with|4=>true|18=>true|_=>false) (h:= ?_)
  repeat'((conv=>whnf);first
   |(guard_target=ah _ _;(have g0:=‹ub=false›);(obtain rfl:=e1 g0);exact ah.mk rfl trivial)|(guard_target=ah _ _;(have g0:=‹ub=true›);(have g1:=‹¬((ts.length:Nat):Int)=fT›);(obtain rfl:=e2 g0 g1);exact ah.mk rfl trivial)|(guard_target=ah _ _;(have g0:=‹ub=true›);(have g1:=‹((ts.length:Nat):Int)=fT›);(have g2:=‹¬((us.length:Nat):Int)=fA›);(obtain rfl:=e3 g0 g1 g2);exact ah.mk rfl trivial)|(guard_target=ah _ _;(have g0:=‹ub=true›);(have g1:=‹((ts.length:Nat):Int)=fT›);(have g2:=‹((us.length:Nat):Int)=fA›);(have g3:=‹fb=false›);(obtain rfl:=e4 g0 g1 g2 g3);exact ah.mk rfl trivial)|(guard_target=ah _ _;(have g0:=‹ub=true›);(have g1:=‹((ts.length:Nat):Int)=fT›);(have g2:=‹((us.length:Nat):Int)=fA›);(have g3:=‹fb=true›);(have g4:=‹sl=false›);(obtain rfl:=e5 g0 g1 g2 g3 g4);exact ah.mk rfl trivial)|(guard_target=ah _ _;(have g0:=‹ub=true›);(have g1:=‹((ts.length:Nat):Int)=fT›);(have g2:=‹((us.length:Nat):Int)=fA›);(have g3:=‹fb=true›);(have g4:=‹sl=true›);(have g5:=‹sr=false›);(obtain rfl:=e6 g0 g1 g2 g3 g4 g5);exact ah.mk rfl trivial)|(guard_target=ah _ _;(have g0:=‹ub=true›);(have g1:=‹((ts.length:Nat):Int)=fT›);(have g2:=‹((us.length:Nat):Int)=fA›);(have g3:=‹fb=true›);(have g4:=‹sl=true›);(have g5:=‹sr=true›);(have g6:=‹¬X=SL›);(obtain rfl:=e7' g0 g1 g2 g3 g4 g5 g6);exact ah.mk rfl trivial)|(guard_target=ah _ _;(have g0:=‹ub=true›);(have g1:=‹((ts.length:Nat):Int)=fT›);(have g2:=‹((us.length:Nat):Int)=fA›);(have g3:=‹fb=true›);(have g4:=‹sl=true›);(have g5:=‹sr=true›);(have g6:=‹X=SL›);(obtain rfl:=e8' g0 g1 g2 g3 g4 g5 g6);exact ah.mk rfl trivial)
   |refine ah.mk ?_ ?_
   |(apply Fact.mk;intro hL;try simp only[List.length_map,maxLen] at hL)
   |((first|apply bA|apply bB|apply bC|apply bD|apply bE|apply bF)<;>intro h<;>(try simp only[List.length_map] at h)<;>(try omega)<;>(try contradiction))|(guard_target=aa _ 196 _ _ _ _;refine cG [] rfl (cu) ?_)|(guard_target=aa _ 187 _ _ _ _;refine cP rfl (cf) ?_)|(guard_target=aa _ 197 _ _ _ _;refine cP rfl (ca) ?_)|(guard_target=aa _ 168 _ _ _ _;refine cG [] rfl (c1) ?_)|(guard_target=aa _ 168 _ _ _ _;refine cG [] rfl (c2) ?_)|(guard_target=aa _ 198 _ _ _ _;refine cG [] rfl (crr) ?_)|(guard_target=aa _ 51 _ _ _ _;refine cP rfl (nE X SL) ?_)|(guard_target=Gh _ _ _ _ _;refine Gh.Ax 4 _ rfl (Gh.go ?_))|(guard_target=Gh _ _ _ _ _;refine Gh.Ax 8 _ rfl (Gh.go ?_))
   |refine iX (k:= ?_)
   |refine nB ?_
   |apply cj.go
   |refine nO ?_)
  all_goals first|rfl|trivial
 have hbtrue:bk=true→ai Tryz.prog 172 [.c (.rp 3 [J t,J a, .ro 9 cl]),I k, .c (.rp 3 (aI e)), .c (.rp 5 [J use, .val (.bool bk), .ro 1 (path.map eI), .ro 3 ts, .ro 3 us])] [] r:=by
  rintro rfl
  have e7':=fun a b c d e f g=>e7 a b c d e f (show eqv X SR=false from fh g)
  have e8':=fun a b c d e f g=>e8 a b c d e f (show eqv X SR=true from kY g)
  refine cX Tryz.func172 (fun reg_=>match reg_ with|4=>true|18=>true|_=>false) (h:= ?_)
  repeat'((conv=>whnf);first
   |(guard_target=ah _ _;(have g0:=‹ub=false›);(obtain rfl:=e1 g0);exact ah.mk rfl trivial)|(guard_target=ah _ _;(have g0:=‹ub=true›);(have g1:=‹¬((ts.length:Nat):Int)=fT›);(obtain rfl:=e2 g0 g1);exact ah.mk rfl trivial)|(guard_target=ah _ _;(have g0:=‹ub=true›);(have g1:=‹((ts.length:Nat):Int)=fT›);(have g2:=‹¬((us.length:Nat):Int)=fA›);(obtain rfl:=e3 g0 g1 g2);exact ah.mk rfl trivial)|(guard_target=ah _ _;(have g0:=‹ub=true›);(have g1:=‹((ts.length:Nat):Int)=fT›);(have g2:=‹((us.length:Nat):Int)=fA›);(have g3:=‹fb=false›);(obtain rfl:=e4 g0 g1 g2 g3);exact ah.mk rfl trivial)|(guard_target=ah _ _;(have g0:=‹ub=true›);(have g1:=‹((ts.length:Nat):Int)=fT›);(have g2:=‹((us.length:Nat):Int)=fA›);(have g3:=‹fb=true›);(have g4:=‹sl=false›);(obtain rfl:=e5 g0 g1 g2 g3 g4);exact ah.mk rfl trivial)|(guard_target=ah _ _;(have g0:=‹ub=true›);(have g1:=‹((ts.length:Nat):Int)=fT›);(have g2:=‹((us.length:Nat):Int)=fA›);(have g3:=‹fb=true›);(have g4:=‹sl=true›);(have g5:=‹sr=false›);(obtain rfl:=e6 g0 g1 g2 g3 g4 g5);exact ah.mk rfl trivial)|(guard_target=ah _ _;(have g0:=‹ub=true›);(have g1:=‹((ts.length:Nat):Int)=fT›);(have g2:=‹((us.length:Nat):Int)=fA›);(have g3:=‹fb=true›);(have g4:=‹sl=true›);(have g5:=‹sr=true›);(have g6:=‹¬X=SR›);(obtain rfl:=e7' g0 g1 g2 g3 g4 g5 g6);exact ah.mk rfl trivial)|(guard_target=ah _ _;(have g0:=‹ub=true›);(have g1:=‹((ts.length:Nat):Int)=fT›);(have g2:=‹((us.length:Nat):Int)=fA›);(have g3:=‹fb=true›);(have g4:=‹sl=true›);(have g5:=‹sr=true›);(have g6:=‹X=SR›);(obtain rfl:=e8' g0 g1 g2 g3 g4 g5 g6);exact ah.mk rfl trivial)
   |refine ah.mk ?_ ?_
   |(apply Fact.mk;intro hL;try simp only[List.length_map,maxLen] at hL)
   |((first|apply bA|apply bB|apply bC|apply bD|apply bE|apply bF)<;>intro h<;>(try simp only[List.length_map] at h)<;>(try omega)<;>(try contradiction))|(guard_target=aa _ 196 _ _ _ _;refine cG [] rfl (cu) ?_)|(guard_target=aa _ 187 _ _ _ _;refine cP rfl (cf) ?_)|(guard_target=aa _ 197 _ _ _ _;refine cP rfl (ca) ?_)|(guard_target=aa _ 168 _ _ _ _;refine cG [] rfl (c1) ?_)|(guard_target=aa _ 168 _ _ _ _;refine cG [] rfl (c2) ?_)|(guard_target=aa _ 198 _ _ _ _;refine cG [] rfl (crl) ?_)|(guard_target=aa _ 51 _ _ _ _;refine cP rfl (nE X SR) ?_)|(guard_target=Gh _ _ _ _ _;refine Gh.Ax 4 _ rfl (Gh.go ?_))|(guard_target=Gh _ _ _ _ _;refine Gh.Ax 8 _ rfl (Gh.go ?_))
   |refine iX (k:= ?_)
   |refine nB ?_
   |apply cj.go
   |refine nO ?_)
  all_goals first|rfl|trivial
 cases bk with
 |false=>exact hbfalse rfl
 |true=>exact hbtrue rfl
end
theorem AG{t a k use:Int}{cl:List (List CV)}{e L R:ae}{path:List Int}{ts us:List (List CV)}{bk:Bool}
 (cu:ai Tryz.prog 196 [.c (.rp 3 [J t,J a, .ro 9 cl]),I k,I use] [] (.tup [.a 6 [J L.kind,J L.num, .ro 3 (L.kids.map af),J R.kind,J R.num, .ro 3 (R.kids.map af)],B false])):
 ai Tryz.prog 172 [.c (.rp 3 [J t,J a, .ro 9 cl]),I k, .c (.rp 3 (aI e)), .c (.rp 5 [J use, .val (.bool bk), .ro 1 (path.map eI), .ro 3 ts, .ro 3 us])] [] (.tup [.a 3 [J 0,J 0, .ows 66 3 []],I 2]):=by
 refine cX Tryz.func172 (h:= ?_)
 repeat'((conv=>whnf);first
  |refine ah.mk ?_ ?_
  |(apply Fact.mk;intro hL;try simp only[List.length_map,maxLen] at hL)
  |((first|apply bA|apply bB|apply bC|apply bD|apply bE|apply bF)<;>intro h<;>(try simp only[List.length_map] at h)<;>(try omega)<;>(try contradiction))|(guard_target=aa _ 196 _ _ _ _;refine cG [] rfl (cu) ?_)
  |refine iX (k:= ?_)
  |refine nB ?_
  |apply cj.go
  |refine nO ?_)
 all_goals first|rfl|trivial
theorem rz(p:cE)(hs:bT p.sig.au p.sig.aq=true)(k:Int)(e:ae)(be:ao e≤200)(st:aB)(hu:(0≤st.use∧st.use≤23)∨(st.use<0∧ -1000000≤st.use∧k≤1000000))(hq:(jw iw p k st.use).2=true→yB (jw iw p k st.use).1)
 (b1:∀x∈st.au,ao x≤200)(b2:∀x∈st.c9,ao x≤200):ai Tryz.prog 172 [.c (.rp 3 (cL p)),I k, .c (.rp 3 (aI e)), .c (.rp 5 (bU st))] [] (.tup [.a 3 (bQ (gf iw p k e st).1),I (gf iw p k e st).2]):=by
 have soft:∀{f:Nat} {args:List SV} {n:Int},ai Tryz.prog f args [] (.tup [.a 3 [J 0,J 0, .ows 66 3 []],I n])→ai Tryz.prog f args [] (.tup [.a 3 (bQ cQ),I n]):=fun h=>
  yR h
 have cu:ai Tryz.prog 196 [.c (.rp 3 (cL p)),I k,I st.use] [] (.tup [.a 6 (aV (jw iw p k st.use).1),B (jw iw p k st.use).2]):=by
  rcases hu with⟨h0,h1⟩|⟨h0,h1,h2⟩
  ·exact Jq p k st.use h0 h1
  ·exact JN p k st.use h0 h1 h2
 obtain⟨U,hU⟩:∃U,jw iw p k st.use=U:=⟨_,rfl⟩
 rw[hU] at cu hq
 obtain⟨⟨L,R⟩,ub⟩:=U
 have hA:gf iw p k e st=if ub=false then(cQ,2)
  else if¬((st.au.length:Int)=kx ⟨L,R⟩) then(cQ,2)
  else if¬((st.c9.length:Int)=om ⟨L,R⟩) then(cQ,2)
  else if(nr e st.path false).2.2=false then(cQ,2)
  else if(ie p.sig.au p.sig.aq L st.au st.c9).2=false∨(ie p.sig.au p.sig.aq R st.au st.c9).2=false then(cQ,3)
  else if eqv (nr e st.path false).1 (if st.back=true then(ie p.sig.au p.sig.aq R st.au st.c9).1 else(ie p.sig.au p.sig.aq L st.au st.c9).1)=false then(cQ,6)
  else mP p.sig.au p.sig.aq e st.path (if st.back=true then(ie p.sig.au p.sig.aq L st.au st.c9).1 else(ie p.sig.au p.sig.aq R st.au st.c9).1):=by
  unfold gf
  simp only[hU]
 rw[hA]
 cases ub with
 |false=>
  rw[if_pos rfl]
  exact soft (AG (L:=L) (R:=R) cu)
 |true=>
  have hG:=hq rfl
  have lL:=lK (by decide) (by decide) hG.l
  have lR:=lK (by decide) (by decide) hG.r
  have bL:ao L≤200:=hG.bl
  have bR:ao R≤200:=hG.br
  have cf:=wg ⟨L,R⟩ lL lR
  have ca:=Kr e st.path (by omega)
  have c1:=(yX b1 b2 p.sig.au p.sig.aq hs L lL (by simp only[gV];omega)).cut (.same (jB.cut (sz:=6) (k:=3) (cs:=[J L.kind,J L.num, .ro 3 (L.kids.map af),J R.kind,J R.num, .ro 3 (R.kids.map af)]) (by decide) (jB.refl _)))
  have c2:=yX b1 b2 p.sig.au p.sig.aq hs R lR (by simp only[gV];omega)
  have h1:=(lG b1 b2 L 200).1
  have h2:=(lG b1 b2 R 200).1
  simp only[gV] at h1 h2
  have crl:=lH p.sig.au p.sig.aq hs e (ie p.sig.au p.sig.aq L st.au st.c9).1 st.path (by omega) (by unfold ie;simp only[];omega)
  have crr:=lH p.sig.au p.sig.aq hs e (ie p.sig.au p.sig.aq R st.au st.c9).1 st.path (by omega) (by unfold ie;simp only[];omega)
  rw[if_neg (by decide)]
  generalize ie p.sig.au p.sig.aq L st.au st.c9=X1 at c1 crl⊢
  generalize ie p.sig.au p.sig.aq R st.au st.c9=X2 at c2 crr⊢
  generalize nr e st.path false=X3 at ca⊢
  generalize kx ⟨L,R⟩=fT at cf⊢
  generalize om ⟨L,R⟩=fA at cf⊢
  obtain⟨SL,sl⟩:=X1
  obtain⟨SR,sr⟩:=X2
  obtain⟨X,bb,fb⟩:=X3
  simp only[] at crl crr c1 c2 ca cf⊢
  have nf:∀{b:Bool},b=true→¬b=false:=fun h=>by rw[h];decide
  have core:=fun r=>C0 (r:=r) (bk:=st.back) (use:=st.use) (k:=k) (cl:=p.aj.map aH) (ts:=st.au.map af) (us:=st.c9.map af) cu cf ca c1 c2 crl crr
  simp only[List.length_map] at core
  by_cases g1:((st.au.length:Nat):Int)=fT
  ·rw[if_neg (not_not_intro g1)]
   by_cases g2:((st.c9.length:Nat):Int)=fA
   ·rw[if_neg (not_not_intro g2)]
    cases fb with
    |false=>
     rw[if_pos rfl]
     exact soft (core _ (fun _=>rfl) (fun _ _=>rfl) (fun _ _ _=>rfl) (fun _ _ _ _=>rfl) (fun _ _ _ h=>by cases h) (fun _ _ _ h=>by cases h) (fun _ _ _ h=>by cases h) (fun _ _ _ h=>by cases h))
    |true=>
     rw[if_neg (by decide)]
     have bad:∀{q:Prop},(true=false)→q:=fun h=>by cases h
     cases sl with
     |false=>
      rw[if_pos (.inl rfl)]
      exact soft (core _ (fun h=>bad h) (fun _ h=>(h g1).elim) (fun _ _ h=>(h g2).elim) (fun _ _ _ h=>bad h) (fun _ _ _ _ _=>rfl) (fun _ _ _ _ h=>bad h.symm) (fun _ _ _ _ h=>bad h.symm) (fun _ _ _ _ h=>bad h.symm))
     |true=>
      cases sr with
      |false=>
       rw[if_pos (.inr rfl)]
       exact soft (core _ (fun h=>bad h) (fun _ h=>(h g1).elim) (fun _ _ h=>(h g2).elim) (fun _ _ _ h=>bad h) (fun _ _ _ _ h=>bad h) (fun _ _ _ _ _ _=>rfl) (fun _ _ _ _ _ h=>bad h.symm) (fun _ _ _ _ _ h=>bad h.symm))
      |true=>
       rw[if_neg (fun h=>h.elim bad bad)]
       cases hE:eqv X (if st.back=true then SR else SL) with
       |false=>
        rw[if_pos rfl]
        exact soft (core _ (fun h=>bad h) (fun _ h=>(h g1).elim) (fun _ _ h=>(h g2).elim) (fun _ _ _ h=>bad h) (fun _ _ _ _ h=>bad h) (fun _ _ _ _ _ h=>bad h) (fun _ _ _ _ _ _ _=>rfl) (fun _ _ _ _ _ _ h=>by rw[hE] at h;cases h))
       |true=>
        rw[if_neg (by decide)]
        refine core _ (fun h=>bad h) (fun _ h=>(h g1).elim) (fun _ _ h=>(h g2).elim) (fun _ _ _ h=>bad h) (fun _ _ _ _ h=>bad h) (fun _ _ _ _ _ h=>bad h) (fun _ _ _ _ _ _ h=>by rw[hE] at h;cases h) (fun _ _ _ _ _ _ _=> ?_)
        cases st.back<;>rfl
   ·rw[if_pos g2]
    exact soft (core _ (fun _=>rfl) (fun _ _=>rfl) (fun _ _ _=>rfl) (fun _ _ h=>(g2 h).elim) (fun _ _ h=>(g2 h).elim) (fun _ _ h=>(g2 h).elim) (fun _ _ h=>(g2 h).elim) (fun _ _ h=>(g2 h).elim))
  ·rw[if_pos g1]
   exact soft (core _ (fun _=>rfl) (fun _ _=>rfl) (fun _ h=>(g1 h).elim) (fun _ h=>(g1 h).elim) (fun _ h=>(g1 h).elim) (fun _ h=>(g1 h).elim) (fun _ h=>(g1 h).elim) (fun _ h=>(g1 h).elim))
end Go.Proofs.YtgbggaddpbghfaaGreat
namespace Go.Proofs.YtgbggaddpbghfaaGreat
open Go Go.KA Go.Proofs
set_option maxHeartbeats 16000000
set_option maxRecDepth 100000
section
variable(t:ByteArray)(hz:t.size≤100000)
include hz
theorem Np(i:Nat)(d:Int)(hi:i<t.size):ai Tryz.prog 221 [.c (.op (gj t ⟨i,d,false⟩))] [some [.op (gj t (qh t ⟨i,d,false⟩).2)]] (.a 3 (bQ (qh t ⟨i,d,false⟩).1)):=by
 have hp:=fun j=>kA t hz ⟨j,d,false⟩
 have hn:=fun j=>s6 (t.extract (i+1) j)
 have hd:=D6 (t:=t) (i:=i+1) (by omega)
 simp only[qh,Bool.false_or]
 refine dS ?_
 obtain⟨k,hk⟩:∃k:Int,(if df t i=97 then(4:Int) else 3)=k:=⟨_,rfl⟩
 rw[hk]
 simp only[] at hp
 have hpi:=hp i
 generalize df t i=p0 at hpi hk
 by_cases h97:p0=97
 ·rw[if_pos h97] at hk
  subst h97 hk
  refine cX Tryz.func221 (h:= ?_)
  repeat'((conv=>whnf);first
   |(guard_target=ah _ _;(obtain rfl:j=dY t (i+1):=(by have:=rC (t:=t) (i:=j) (by omega);omega));exact ah.mk rfl ⟨rfl,trivial⟩)
   |refine ah.mk ?_ ?_|(guard_target=~ aP 6 _ _ _ _ _ _;refine lX (Nat) [0,2,3,4] (fun j=>[]) (fun j=>[(0, .cc 4 (gj t ⟨j,d,false⟩))]) (fun j=>i+1≤j∧j≤t.size∧dY t j=dY t (i+1)) (fun j=>t.size+1-j) (i+1) (by exact⟨Nat.le_refl _,by omega,rfl⟩) (fun j ha=> ?_))
   |refine qJ (j+1:Nat) (by exact⟨by show i+1≤j+1;omega,by have:=dC (t:=t) (i:=j) (by omega);show j+1≤_;omega,by show dY t (j+1)=_;rw[←ha.2.2];exact(ry (by omega) (by omega)).symm⟩)
   |(apply Fact.mk;intro hL;try simp only[List.length_map,maxLen] at hL)
   |((first|apply bA|apply bB|apply bC|apply bD|apply bE|apply bF)<;>intro h<;>(try simp only[List.length_map] at h)<;>(try omega)<;>(try contradiction))|(guard_target=aa _ 218 _ _ _ _;refine cP rfl (hpi) ?_)|(guard_target=aa _ 218 _ _ _ _;refine cP rfl (hp j) ?_)|(guard_target=aa _ 226 _ _ _ _;refine cP rfl (hn j) ?_)
   |refine aR ?_
   |refine iX (k:= ?_)
   |refine nB ?_
   |apply cj.go|(guard_target=aQ _ _;refine aQ.mk (by first|((refine⟨?_, ?_, ?_⟩<;>omega))|fail) ?_)
   |refine nO ?_)
  all_goals first|rfl|exact⟨rfl,trivial⟩|trivial
 ·rw[if_neg h97] at hk
  subst hk
  refine cX Tryz.func221 (h:= ?_)
  repeat'((conv=>whnf);first
   |(guard_target=ah _ _;(obtain rfl:j=dY t (i+1):=(by have:=rC (t:=t) (i:=j) (by omega);omega));exact ah.mk rfl ⟨rfl,trivial⟩)
   |refine ah.mk ?_ ?_|(guard_target=~ aP 6 _ _ _ _ _ _;refine lX (Nat) [0,2,3,4] (fun j=>[]) (fun j=>[(0, .cc 4 (gj t ⟨j,d,false⟩))]) (fun j=>i+1≤j∧j≤t.size∧dY t j=dY t (i+1)) (fun j=>t.size+1-j) (i+1) (by exact⟨Nat.le_refl _,by omega,rfl⟩) (fun j ha=> ?_))
   |refine qJ (j+1:Nat) (by exact⟨by show i+1≤j+1;omega,by have:=dC (t:=t) (i:=j) (by omega);show j+1≤_;omega,by show dY t (j+1)=_;rw[←ha.2.2];exact(ry (by omega) (by omega)).symm⟩)
   |(apply Fact.mk;intro hL;try simp only[List.length_map,maxLen] at hL)
   |((first|apply bA|apply bB|apply bC|apply bD|apply bE|apply bF)<;>intro h<;>(try simp only[List.length_map] at h)<;>(try omega)<;>(try contradiction))|(guard_target=aa _ 218 _ _ _ _;refine cP rfl (hpi) ?_)|(guard_target=aa _ 218 _ _ _ _;refine cP rfl (hp j) ?_)|(guard_target=aa _ 226 _ _ _ _;refine cP rfl (hn j) ?_)
   |refine aR ?_
   |refine iX (k:= ?_)
   |refine nB ?_
   |apply cj.go|(guard_target=aQ _ _;refine aQ.mk (by first|((refine⟨?_, ?_, ?_⟩<;>omega))|fail) ?_)
   |refine nO ?_)
  all_goals first|rfl|exact⟨rfl,trivial⟩|trivial
theorem Nl(f:iH→ae × iH)(d0:Int)(h0:0≤d0)(h1:d0≤100)(hf:∀s:iH,0≤s.deep→s.deep≤101→(s.bad=false→s.deep≤100)→s.at_≤t.size→rh t s (f s).1 (f s).2 (if s.bad=true then s.deep+1 else 101))
 (hE:∀s:iH,0≤s.deep→s.deep≤101→(s.bad=false→s.deep=d0)→s.at_≤t.size→ai Tryz.prog 209 [.c (.op (gj t s))] [some [.op (gj t (f s).2)]] (.a 3 (bQ (f s).1)))
 (i:Nat)(hi:i≤t.size)(h3:df t i=40):ai Tryz.prog 222 [.c (.op (gj t ⟨i,d0,false⟩))] [some [.op (gj t (iY t f ⟨i,d0,false⟩).2)]] (.a 3 (bQ (iY t f ⟨i,d0,false⟩).1)):=by
 have hs:=dC (t:=t) (i:=i) (by omega)
 have e1:dV t ⟨i,d0,false⟩ 40=⟨i+1,d0,false⟩:=if_pos h3
 have c1:=mu t hz ⟨i,d0,false⟩ 40 hi
 rw[e1] at c1
 have a1:=hf ⟨i+1,d0,false⟩ h0 (by simp only[];omega) (fun _=>h1) (by simp only[];omega)
 have c2:=hE ⟨i+1,d0,false⟩ h0 (by simp only[];omega) (fun _=>rfl) (by simp only[];omega)
 unfold iY
 rw[e1]
 simp only[]
 generalize f ⟨i+1,d0,false⟩=A at a1 c2⊢
 obtain⟨⟨ak,an,aks⟩,s1⟩:=A
 obtain⟨p1,p2,p3,p4,p5,p6⟩:=a1
 simp only[Bool.false_eq_true,if_false] at p1 p2 p3 p4 p5 p6 c2⊢
 obtain⟨q1,q2,q3,q4⟩:=pa (t:=t) (s:=s1) (b:=32) (by omega) p1
 have c3:=mu t hz s1 32 p1
 have c4:=kA t hz (dV t s1 32)
 obtain⟨r1,r2,r3,r4⟩:=w4 (t:=t) (s:=dV t s1 32) q1
 have hT:∀s3:iH,s3.at_≤t.size→ai Tryz.prog 227 [.c (.op (gj t s3)),U8 41] [some [.op (gj t (dV t s3 41))],none] (.tup []):=fun s3 h=>mu t hz s3 41 h
 have fin:∀(K:Int × iH),K.2.at_≤t.size→K.2.deep=(dV t s1 32).deep→(K.2.bad=false→(dV t s1 32).bad=false)→rh t K.2 (f K.2).1 (f K.2).2 (if K.2.bad=true then K.2.deep+1 else 101)∧ai Tryz.prog 209 [.c (.op (gj t K.2))] [some [.op (gj t (f K.2).2)]] (.a 3 (bQ (f K.2).1)):=by
  intro K k1 k2 k3
  exact⟨hf K.2 (by omega) (by omega) (fun k=>by have:=(p3 (q4 (k3 k))).2;omega) k1,hE K.2 (by omega) (by omega) (fun k=>by have:=(p3 (q4 (k3 k))).2;omega) k1⟩
 obtain⟨g1,g2⟩:=fin _ r1 r3 r4
 clear fin hE hf
 have soft:∀{k:Int} {b:ae} {s':iH},ai Tryz.prog 222 [.c (.op (gj t ⟨i,d0,false⟩))] [some [.op (gj t s')]] (.a 3 [J k,J 0, .own 66 3 [bQ (.mk ak an aks),bQ b]])→ai Tryz.prog 222 [.c (.op (gj t ⟨i,d0,false⟩))] [some [.op (gj t s')]] (.a 3 (bQ (.mk k 0 [.mk ak an aks,b]))):=by
  intro k b s' h
  have e:bQ (.mk k 0 [.mk ak an aks,b])=[J k,J 0, .own 66 3 [bQ (.mk ak an aks),bQ b]]:=by
   show[J k,J 0,CV.own 66 3 [az (.mk ak an aks),az b]]=_
   rw[dw,dw]
  rw[e]
  exact h
 generalize hs2:dV t s1 32=s2 at*
 obtain⟨j2,d2,b2⟩:=s2
 simp only[] at*
 by_cases h43:df t j2=43
 ·have hj2:=dC (t:=t) (i:=j2) (by omega)
  have e2:oE t ⟨j2,d2,b2⟩=(6,dV t ⟨j2+1,d2,b2⟩ 32):=if_pos h43
  have c5:=mu t hz ⟨j2+1,d2,b2⟩ 32 (by simp only[];omega)
  rw[e2] at g1 g2⊢
  rw[h43] at c4
  simp only[] at g1 g2⊢
  generalize dV t ⟨j2+1,d2,b2⟩ 32=s3 at*
  obtain⟨j3,d3,b3⟩:=s3
  generalize f ⟨j3,d3,b3⟩=Bb at*
  obtain⟨⟨bk,bn,bks⟩,s4⟩:=Bb
  have c6:=hT s4 g1.size
  obtain⟨j4,d4,b4⟩:=s4
  simp only[] at*
  generalize dV t ⟨j4,d4,b4⟩ 41=s5 at*
  obtain⟨j5,d5,b5⟩:=s5
  refine soft ?_
  refine cX Tryz.func222 (h:= ?_)
  repeat'((conv=>whnf);first
   |refine ah.mk ?_ ?_
   |((first|apply bA|apply bB|apply bC|apply bD|apply bE|apply bF)<;>intro h<;>(try simp only[List.length_map] at h)<;>(try omega)<;>(try contradiction))|(guard_target=aa _ 227 _ _ _ _;refine cG [true,false] rfl (c1) ?_)|(guard_target=aa _ 209 _ _ _ _;refine cG [true] rfl (c2) ?_)|(guard_target=aa _ 227 _ _ _ _;refine cG [true,false] rfl (c3) ?_)|(guard_target=aa _ 218 _ _ _ _;refine cP rfl (c4) ?_)|(guard_target=aa _ 227 _ _ _ _;refine cG [true,false] rfl (c5) ?_)|(guard_target=aa _ 209 _ _ _ _;refine cG [true] rfl (g2) ?_)|(guard_target=aa _ 227 _ _ _ _;refine cG [true,false] rfl (c6) ?_)
   |refine aR ?_
   |refine iX (k:= ?_)
   |refine nO ?_)
  all_goals first|rfl|exact⟨rfl,trivial⟩|trivial
 ·have e2:oE t ⟨j2,d2,b2⟩=(7,⟨j2,d2,b2⟩):=if_neg h43
  rw[e2] at g1 g2⊢
  simp only[] at g1 g2⊢
  generalize df t j2=p at*
  generalize f ⟨j2,d2,b2⟩=Bb at*
  obtain⟨⟨bk,bn,bks⟩,s4⟩:=Bb
  have c6:=hT s4 g1.size
  obtain⟨j4,d4,b4⟩:=s4
  simp only[] at*
  generalize dV t ⟨j4,d4,b4⟩ 41=s5 at*
  obtain⟨j5,d5,b5⟩:=s5
  refine soft ?_
  refine cX Tryz.func222 (h:= ?_)
  repeat'((conv=>whnf);first
   |refine ah.mk ?_ ?_
   |((first|apply bA|apply bB|apply bC|apply bD|apply bE|apply bF)<;>intro h<;>(try simp only[List.length_map] at h)<;>(try omega)<;>(try contradiction))|(guard_target=aa _ 227 _ _ _ _;refine cG [true,false] rfl (c1) ?_)|(guard_target=aa _ 209 _ _ _ _;refine cG [true] rfl (c2) ?_)|(guard_target=aa _ 227 _ _ _ _;refine cG [true,false] rfl (c3) ?_)|(guard_target=aa _ 218 _ _ _ _;refine cP rfl (c4) ?_)|(guard_target=aa _ 209 _ _ _ _;refine cG [true] rfl (g2) ?_)|(guard_target=aa _ 227 _ _ _ _;refine cG [true,false] rfl (c6) ?_)
   |refine aR ?_
   |refine iX (k:= ?_)
   |refine nO ?_)
  all_goals first|rfl|exact⟨rfl,trivial⟩|trivial
end
section
variable(t:ByteArray)(hz:t.size≤100000)
include hz
theorem Ii(s:iH)(f:iH→ae × iH)(h0:0≤s.deep)(h1:s.deep≤101)(hb:s.bad=true∨s.deep+1>100):ai Tryz.prog 209 [.c (.op (gj t s))] [some [.op (gj t (eZ t f s).2)]] (.a 3 (bQ (eZ t f s).1)):=by
 have _:=hz
 unfold eZ
 rw[if_pos hb]
 refine dS ?_
 obtain⟨i,d,b⟩:=s
 simp only[] at h0 h1 hb⊢
 refine ai.qU (?_:ai _ _ _ [some [.op [.val (.string t),J (i:Nat),J (d+1), .cb true]]] _) (.re (.op (.same (.same (.same (.cb .nil)))) .nil) .nil)
 cases b with
 |true=>
  refine cX Tryz.func209 (h:= ?_)
  repeat'((conv=>whnf);first
   |refine ah.mk ?_ ?_
   |((first|apply bA|apply bB|apply bC|apply bD|apply bE|apply bF)<;>intro h<;>(try simp only[List.length_map] at h)<;>(try omega)<;>(try contradiction))
   |refine aR ?_
   |refine iX (k:= ?_)
   |refine nO ?_)
  all_goals first|rfl|exact⟨rfl,trivial⟩|trivial|(exfalso;simp_all;done)
 |false=>
  have hb:d+1>100:=by simpa using hb
  refine cX Tryz.func209 (h:= ?_)
  repeat'((conv=>whnf);first
   |refine ah.mk ?_ ?_
   |((first|apply bA|apply bB|apply bC|apply bD|apply bE|apply bF)<;>intro h<;>(try simp only[List.length_map] at h)<;>(try omega)<;>(try contradiction))
   |refine aR ?_
   |refine iX (k:= ?_)
   |refine nO ?_)
  all_goals first|rfl|exact⟨rfl,trivial⟩|trivial|(exfalso;simp_all;done)
theorem JM(i:Nat)(d:Int)(f:iH→ae × iH)(h0:0≤d)(h1:d+1≤100)(hi:i≤t.size)(ho:rh t ⟨i,d+1,false⟩ (f ⟨i,d+1,false⟩).1 (f ⟨i,d+1,false⟩).2 102)
 (hI:ai Tryz.prog 217 [.c (.op (gj t ⟨i,d+1,false⟩))] [some [.op (gj t (f ⟨i,d+1,false⟩).2)]] (.a 3 (bQ (f ⟨i,d+1,false⟩).1))):
 ai Tryz.prog 209 [.c (.op (gj t ⟨i,d,false⟩))] [some [.op (gj t (eZ t f ⟨i,d,false⟩).2)]] (.a 3 (bQ (eZ t f ⟨i,d,false⟩).1)):=by
 have _:=hi
 unfold eZ
 rw[if_neg (by simp only[Bool.false_eq_true,false_or];omega)]
 simp only[]
 generalize f ⟨i,d+1,false⟩=A at ho hI⊢
 obtain⟨e,⟨j,d2,b2⟩⟩:=A
 obtain⟨g1,g2,g3,g4,g5,g6⟩:=ho
 simp only[] at g1 g2 g3 g4 g5 g6 hI⊢
 cases b2 with
 |true=>
  rw[if_pos rfl]
  obtain⟨k,n,ks⟩:=e
  refine cX Tryz.func209 (h:= ?_)
  repeat'((conv=>whnf);first
   |refine ah.mk ?_ ?_|(guard_target=~ aP 6 _ _ _ _ _ _;refine lp (Unit) [0,2,3] (fun u=>[]) (fun u=>True) (fun u=>0) () (by trivial) (fun u ha=> ?_))
   |((first|apply bA|apply bB|apply bC|apply bD|apply bE|apply bF)<;>intro h<;>(try simp only[List.length_map] at h)<;>(try omega)<;>(try contradiction))|(guard_target=aa _ 217 _ _ _ _;refine cG [true] rfl (hI) ?_)
   |refine aR ?_
   |refine iX (k:= ?_)
   |refine nO ?_)
  all_goals first|rfl|exact⟨rfl,trivial⟩|trivial
 |false=>
  rw[if_neg (by decide)]
  have hp:=fun m=>kA t hz ⟨m,d2,false⟩
  simp only[] at hp
  have hst:∀(m:Nat) (x:ae),df t m=42→ej t m x=((ej t (m+1) (.mk 8 0 [x])).1,(ej t (m+1) (.mk 8 0 [x])).2+1):=fun m x h=>yp x h
  have hse:∀(m:Nat) (x:ae),¬df t m=42→ej t m x=(x,0):=fun m x h=>ze x h
  generalize hS:ej t j e=S
  obtain⟨X,c⟩:=S
  have fin:∀(m:Nat) (x:ae) (R:List (List CV)),R=x.kids.map az→¬df t m=42→(ej t m x).1=X→m+(ej t m x).2=j+c→bQ X=[J x.kind,J x.num, .own 66 3 R]∧j+c=m:=by
   intro m x R hR hm h1 h2
   rw[hse m x hm] at h1 h2
   simp only[] at h1 h2
   subst h1 hR
   exact⟨rfl,by omega⟩
  refine cX Tryz.func209 (h:= ?_)
  repeat'((conv=>whnf);first
   |(guard_target=Gh _ _ _ _ _;refine Gh.IA 6 3 rfl ?_)|(guard_target=ah _ _;(obtain⟨h8,h9⟩:=fin m x R ha.1 (by omega) ha.2.2.1 ha.2.2.2);rw[h8,h9];exact ah.mk rfl ⟨rfl,trivial⟩)
   |refine ah.mk ?_ ?_|(guard_target=~ aP 6 _ _ _ _ _ _;refine lX (ae × List (List CV)× Nat) [0,2,3] (fun⟨x,R,m⟩=>[]) (fun⟨x,R,m⟩=>[(0, .cc 4 (gj t ⟨m,d2,false⟩)),(5, .cells [.c (J x.kind), .c (J x.num), .lw 3]),(3, .aG none 66 3 R)]) (fun⟨x,R,m⟩=>R=x.kids.map az∧m≤t.size∧(ej t m x).1=X∧m+(ej t m x).2=j+c) (fun⟨x,R,m⟩=>t.size+1-m) (e,e.kids.map az,j) (by exact⟨rfl,g1,by rw[hS],by rw[hS]⟩) (fun A ha=> ?_);obtain⟨x,R,m⟩:=A;have ha:R=x.kids.map az∧m≤t.size∧(ej t m x).1=X∧m+(ej t m x).2=j+c:=ha)
   |refine qJ ((.mk 8 0 [x],[[J x.kind,J x.num, .own 66 3 R]],m+1):ae × List (List CV)× Nat) (by exact⟨by show _=[az x];rw[dw x,ha.1],by have:=dC (t:=t) (i:=m) (by omega);show m+1≤_;omega,by show(ej t (m+1) (.mk 8 0 [x])).1=X;rw[←ha.2.2.1,hst m x (by omega)],by show m+1+(ej t (m+1) (.mk 8 0 [x])).2=_;rw[←ha.2.2.2,hst m x (by omega)];(try simp only[]);omega⟩)
   |((first|apply bA|apply bB|apply bC|apply bD|apply bE|apply bF)<;>intro h<;>(try simp only[List.length_map] at h)<;>(try omega)<;>(try contradiction))|(guard_target=aa _ 217 _ _ _ _;refine cG [true] rfl (hI) ?_)|(guard_target=aa _ 218 _ _ _ _;refine cP rfl (hp m) ?_)
   |refine aR ?_
   |refine iX (k:= ?_)
   |refine nO ?_)
  all_goals first|rfl|exact⟨rfl,trivial⟩|trivial
theorem yf(f:iH→ae × iH)(d0:Int)(h0:0≤d0)(h1:d0≤100)(ho:∀s:iH,s.bad=false→0≤s.deep→s.deep≤100→s.at_≤t.size→1≤s.deep→rh t s (f s).1 (f s).2 102)
 (hI:d0+1≤100→∀i,i≤t.size→ai Tryz.prog 217 [.c (.op (gj t ⟨i,d0+1,false⟩))] [some [.op (gj t (f ⟨i,d0+1,false⟩).2)]] (.a 3 (bQ (f ⟨i,d0+1,false⟩).1)))
 (s:iH)(g0:0≤s.deep)(g1:s.deep≤101)(g2:s.bad=false→s.deep=d0)(g3:s.at_≤t.size):
 ai Tryz.prog 209 [.c (.op (gj t s))] [some [.op (gj t (eZ t f s).2)]] (.a 3 (bQ (eZ t f s).1)):=by
 by_cases hb:s.bad=true∨s.deep+1>100
 ·exact Ii t hz s f g0 g1 hb
 ·obtain⟨i,d,b⟩:=s
  simp only[not_or,Bool.not_eq_true] at hb g0 g1 g2 g3
  obtain⟨rfl,hd⟩:=hb
  have hd0:=g2 rfl
  subst hd0
  exact JM t hz i d f g0 (by omega) g3 (ho ⟨i,d+1,false⟩ rfl (by simp only[];omega) (by simp only[];omega) g3 (by simp only[];omega)) (hI (by omega) i g3)
theorem BL(n:Nat)(d:Int)(h0:0≤d)(h1:d≤100)(i:Nat)(hi:i≤t.size)
 (hN:d+1≤100→i+1≤t.size→ai Tryz.prog 217 [.c (.op (gj t ⟨i+1,d+1,false⟩))] [some [.op (gj t (dh t n ⟨i+1,d+1,false⟩).2)]] (.a 3 (bQ (dh t n ⟨i+1,d+1,false⟩).1)))
 (hP:df t i=40→ai Tryz.prog 222 [.c (.op (gj t ⟨i,d,false⟩))] [some [.op (gj t (iY t (eZ t (dh t n)) ⟨i,d,false⟩).2)]] (.a 3 (bQ (iY t (eZ t (dh t n)) ⟨i,d,false⟩).1))):
 ai Tryz.prog 217 [.c (.op (gj t ⟨i,d,false⟩))] [some [.op (gj t (dh t (n+1) ⟨i,d,false⟩).2)]] (.a 3 (bQ (dh t (n+1) ⟨i,d,false⟩).1)):=by
 have hp:=kA t hz ⟨i,d,false⟩
 have hpp:0<df t i→i<t.size:=fun h=>dC h
 have hnm:i<t.size→_:=fun h=>Np t hz i d h
 rw[dh]
 simp only[] at hp⊢
 generalize df t i=p at hp hpp hP
 by_cases g1:p=48
 ·rw[if_pos g1]
  subst g1
  have:=hpp (by decide)
  refine dS ?_
  refine cX Tryz.func217 (h:= ?_)
  repeat'((conv=>whnf);first
   |refine ah.mk ?_ ?_
   |((first|apply bA|apply bB|apply bC|apply bD|apply bE|apply bF)<;>intro h<;>(try simp only[List.length_map] at h)<;>(try omega)<;>(try contradiction))|(guard_target=aa _ 218 _ _ _ _;refine cP rfl (hp) ?_)
   |refine aR ?_
   |refine iX (k:= ?_)
   |refine nO ?_)
  all_goals first|rfl|exact⟨rfl,trivial⟩|trivial
 rw[if_neg g1]
 by_cases g2:p=49
 ·rw[if_pos g2]
  subst g2
  have:=hpp (by decide)
  refine dS ?_
  refine cX Tryz.func217 (h:= ?_)
  repeat'((conv=>whnf);first
   |refine ah.mk ?_ ?_
   |((first|apply bA|apply bB|apply bC|apply bD|apply bE|apply bF)<;>intro h<;>(try simp only[List.length_map] at h)<;>(try omega)<;>(try contradiction))|(guard_target=aa _ 218 _ _ _ _;refine cP rfl (hp) ?_)
   |refine aR ?_
   |refine iX (k:= ?_)
   |refine nO ?_)
  all_goals first|rfl|exact⟨rfl,trivial⟩|trivial
 rw[if_neg g2]
 by_cases g3:p=116∨p=97
 ·rw[if_pos g3]
  have:=hpp (by omega)
  have c:=hnm this
  generalize qh t ⟨i,d,false⟩=R at c⊢
  obtain⟨⟨k,m,ks⟩,s⟩:=R
  rcases g3 with rfl|rfl
  ·skip
   refine cX Tryz.func217 (h:= ?_)
   repeat'((conv=>whnf);first
     |refine ah.mk ?_ ?_
     |((first|apply bA|apply bB|apply bC|apply bD|apply bE|apply bF)<;>intro h<;>(try simp only[List.length_map] at h)<;>(try omega)<;>(try contradiction))|(guard_target=aa _ 218 _ _ _ _;refine cP rfl (hp) ?_)|(guard_target=aa _ 221 _ _ _ _;refine cG [true] rfl (c) ?_)
     |refine aR ?_
     |refine iX (k:= ?_)
     |refine nO ?_)
   all_goals first|rfl|exact⟨rfl,trivial⟩|trivial
  ·skip
   refine cX Tryz.func217 (h:= ?_)
   repeat'((conv=>whnf);first
     |refine ah.mk ?_ ?_
     |((first|apply bA|apply bB|apply bC|apply bD|apply bE|apply bF)<;>intro h<;>(try simp only[List.length_map] at h)<;>(try omega)<;>(try contradiction))|(guard_target=aa _ 218 _ _ _ _;refine cP rfl (hp) ?_)|(guard_target=aa _ 221 _ _ _ _;refine cG [true] rfl (c) ?_)
     |refine aR ?_
     |refine iX (k:= ?_)
     |refine nO ?_)
   all_goals first|rfl|exact⟨rfl,trivial⟩|trivial
 rw[if_neg g3]
 by_cases g4:p=126
 ·rw[if_pos g4]
  subst g4
  have:=hpp (by decide)
  by_cases g5:d+1>100
  ·rw[if_pos g5]
   refine dS ?_
   refine ai.qU (?_:ai _ _ _ [some [.op [.val (.string t),J ((i+1:Nat):Int),J (d+1), .cb true]]] _) (.re (.op (.same (.same (.same (.cb .nil)))) .nil) .nil)
   refine cX Tryz.func217 (h:= ?_)
   repeat'((conv=>whnf);first
     |refine ah.mk ?_ ?_
     |((first|apply bA|apply bB|apply bC|apply bD|apply bE|apply bF)<;>intro h<;>(try simp only[List.length_map] at h)<;>(try omega)<;>(try contradiction))|(guard_target=aa _ 218 _ _ _ _;refine cP rfl (hp) ?_)
     |refine aR ?_
     |refine iX (k:= ?_)
     |refine nO ?_)
   all_goals first|rfl|exact⟨rfl,trivial⟩|trivial
  ·rw[if_neg g5]
   have c:=hN (by omega) (by omega)
   have hb:=gn (t:=t) n ⟨i+1,d+1,false⟩ rfl (by simp only[];omega) (by simp only[];omega) (by simp only[];omega)
   generalize dh t n ⟨i+1,d+1,false⟩=R at c hb⊢
   obtain⟨⟨k,m,ks⟩,⟨j,d2,b2⟩⟩:=R
   have q1:=hb.PR
   have q2:=hb.P1
   simp only[] at q1 q2
   refine wS ?_
   refine cX Tryz.func217 (h:= ?_)
   repeat'((conv=>whnf);first
     |refine ah.mk ?_ ?_
     |((first|apply bA|apply bB|apply bC|apply bD|apply bE|apply bF)<;>intro h<;>(try simp only[List.length_map] at h)<;>(try omega)<;>(try contradiction))|(guard_target=aa _ 218 _ _ _ _;refine cP rfl (hp) ?_)|(guard_target=aa _ 217 _ _ _ _;refine cG [true] rfl (c) ?_)
     |refine aR ?_
     |refine iX (k:= ?_)
     |refine nO ?_)
   all_goals first|rfl|exact⟨rfl,trivial⟩|trivial
 rw[if_neg g4]
 by_cases g5:p=40
 ·rw[if_pos g5]
  have c:=hP g5
  subst g5
  generalize iY t (eZ t (dh t n)) ⟨i,d,false⟩=R at c⊢
  obtain⟨⟨k,m,ks⟩,s⟩:=R
  refine cX Tryz.func217 (h:= ?_)
  repeat'((conv=>whnf);first
   |refine ah.mk ?_ ?_
   |((first|apply bA|apply bB|apply bC|apply bD|apply bE|apply bF)<;>intro h<;>(try simp only[List.length_map] at h)<;>(try omega)<;>(try contradiction))|(guard_target=aa _ 218 _ _ _ _;refine cP rfl (hp) ?_)|(guard_target=aa _ 222 _ _ _ _;refine cG [true] rfl (c) ?_)
   |refine aR ?_
   |refine iX (k:= ?_)
   |refine nO ?_)
  all_goals first|rfl|exact⟨rfl,trivial⟩|trivial
 rw[if_neg g5]
 refine dS ?_
 refine ai.qU (?_:ai _ _ _ [some [.op [.val (.string t),J (i:Nat),J d, .cb true]]] _) (.re (.op (.same (.same (.same (.cb .nil)))) .nil) .nil)
 refine cX Tryz.func217 (h:= ?_)
 repeat'((conv=>whnf);first
  |refine ah.mk ?_ ?_
  |((first|apply bA|apply bB|apply bC|apply bD|apply bE|apply bF)<;>intro h<;>(try simp only[List.length_map] at h)<;>(try omega)<;>(try contradiction))|(guard_target=aa _ 218 _ _ _ _;refine cP rfl (hp) ?_)
  |refine aR ?_
  |refine iX (k:= ?_)
  |refine nO ?_)
 all_goals first|rfl|exact⟨rfl,trivial⟩|trivial
theorem F6:∀(n:Nat) (d:Int),0≤d→d≤100→101≤d+n→∀i,i≤t.size→ai Tryz.prog 217 [.c (.op (gj t ⟨i,d,false⟩))] [some [.op (gj t (dh t n ⟨i,d,false⟩).2)]] (.a 3 (bQ (dh t n ⟨i,d,false⟩).1))
 |0,d,h0,h1,h2,i,hi=>by omega
 |n+1,d,h0,h1,h2,i,hi=>by
  have ih:=F6 n
  refine BL t hz n d h0 h1 i hi (fun hd h=>ih (d+1) (by omega) hd (by omega) (i+1) h) fun h40=> ?_
  refine Nl t hz (eZ t (dh t n)) d h0 h1 (fun s a b c e=>sE (fun s a b c e _=>gn n s a b c e) s a b c e) (fun s a b c e=> ?_) i hi h40
  exact yf t hz (dh t n) d h0 h1 (fun s a b c e _=>gn n s a b c e) (fun hd i hi=>ih (d+1) (by omega) hd (by omega) i hi) s a b c e
theorem ND:ai Tryz.prog 209 [.c (.op (gj t ⟨0,0,false⟩))] [some [.op (gj t (kr t).2)]] (.a 3 (bQ (kr t).1)):=
 yf t hz (dh t 101) 0 (by decide) (by decide) (fun s a b c e _=>gn 101 s a b c e) (fun _ i hi=>F6 t hz 101 1 (by decide) (by decide) (by decide) i hi) ⟨0,0,false⟩ (by decide) (by decide) (fun _=>rfl) (Nat.zero_le _)
end
theorem zV(t a:Int)(hs:bT t a=true)(x:ByteArray):ai Tryz.prog 189 [.a 2 [J t,J a],F4 x] [] (.tup [.a 3 (bQ (iP t a x).1),I (iP t a x).2]):=by
 have c1:=kJ t a
 rw[hs] at c1
 have soft:∀{f:Nat} {args:List SV} {n:Int},ai Tryz.prog f args [] (.tup [.a 3 [J 0,J 0, .ows 66 3 []],I n])→ai Tryz.prog f args [] (.tup [.a 3 (bQ cQ),I n]):=yR
 unfold iP
 by_cases h4:x.size>4000
 ·rw[if_pos h4]
  refine soft ?_
  refine cX Tryz.func189 (h:= ?_)
  repeat'((conv=>whnf);first
   |refine ah.mk ?_ ?_
   |(apply Fact.mk;intro hL;try simp only[List.length_map,maxLen] at hL)
   |((first|apply bA|apply bB|apply bC|apply bD|apply bE|apply bF)<;>intro h<;>(try simp only[List.length_map] at h)<;>(try omega)<;>(try contradiction))|(guard_target=aa _ 85 _ _ _ _;refine cP rfl (c1) ?_)
   |refine iX (k:= ?_)
   |refine nO ?_)
  all_goals first|rfl|exact⟨rfl,trivial⟩|trivial
 rw[if_neg h4]
 have c2:=ND x (by omega)
 have hb:=zF x
 have c3:=lF t a (kr x).1 (by omega)
 rw[hs,ff] at c3
 unfold PI
 generalize kr x=R at c2 c3⊢
 obtain⟨⟨k,n,ks⟩,⟨j,d,b⟩⟩:=R
 simp only[Bool.true_and] at c3⊢
 have e8:aI (.mk k n ks)=[J k,J n, .ro 3 (db (ks.map az))]:=by rw[ch eK];rfl
 rw[e8] at c3
 generalize aW t a (.mk k n ks)=g at c3⊢
 cases b with
 |true=>
  rw[if_neg (by simp)]
  refine soft ?_
  refine cX Tryz.func189 (h:= ?_)
  repeat'((conv=>whnf);first
   |refine ah.mk ?_ ?_
   |(apply Fact.mk;intro hL;try simp only[List.length_map,maxLen] at hL)
   |((first|apply bA|apply bB|apply bC|apply bD|apply bE|apply bF)<;>intro h<;>(try simp only[List.length_map] at h)<;>(try omega)<;>(try contradiction))|(guard_target=aa _ 85 _ _ _ _;refine cP rfl (c1) ?_)|(guard_target=aa _ 209 _ _ _ _;refine cG [true] rfl (c2) ?_)
   |refine iX (k:= ?_)
   |refine nO ?_)
  all_goals first|rfl|exact⟨rfl,trivial⟩|trivial
 |false=>
  by_cases hj:j=x.size
  ·cases g with
   |true=>
    rw[if_pos ⟨by simp[hj],rfl⟩]
    refine cX Tryz.func189 (h:= ?_)
    repeat'((conv=>whnf);first
       |refine ah.mk ?_ ?_
       |(apply Fact.mk;intro hL;try simp only[List.length_map,maxLen] at hL)
       |((first|apply bA|apply bB|apply bC|apply bD|apply bE|apply bF)<;>intro h<;>(try simp only[List.length_map] at h)<;>(try omega)<;>(try contradiction))|(guard_target=aa _ 85 _ _ _ _;refine cP rfl (c1) ?_)|(guard_target=aa _ 209 _ _ _ _;refine cG [true] rfl (c2) ?_)|(guard_target=aa _ 174 _ _ _ _;refine cP rfl (c3) ?_)
       |refine iX (k:= ?_)
       |refine nO ?_)
    all_goals first|rfl|exact⟨rfl,trivial⟩|trivial
   |false=>
    rw[if_neg (by simp)]
    refine soft ?_
    refine cX Tryz.func189 (h:= ?_)
    repeat'((conv=>whnf);first
       |refine ah.mk ?_ ?_
       |(apply Fact.mk;intro hL;try simp only[List.length_map,maxLen] at hL)
       |((first|apply bA|apply bB|apply bC|apply bD|apply bE|apply bF)<;>intro h<;>(try simp only[List.length_map] at h)<;>(try omega)<;>(try contradiction))|(guard_target=aa _ 85 _ _ _ _;refine cP rfl (c1) ?_)|(guard_target=aa _ 209 _ _ _ _;refine cG [true] rfl (c2) ?_)|(guard_target=aa _ 174 _ _ _ _;refine cP rfl (c3) ?_)
       |refine iX (k:= ?_)
       |refine nO ?_)
    all_goals first|rfl|exact⟨rfl,trivial⟩|trivial
  ·rw[if_neg (by simp[hj])]
   refine soft ?_
   refine cX Tryz.func189 (h:= ?_)
   repeat'((conv=>whnf);first
        |refine ah.mk ?_ ?_
        |(apply Fact.mk;intro hL;try simp only[List.length_map,maxLen] at hL)
        |((first|apply bA|apply bB|apply bC|apply bD|apply bE|apply bF)<;>intro h<;>(try simp only[List.length_map] at h)<;>(try omega)<;>(try contradiction))|(guard_target=aa _ 85 _ _ _ _;refine cP rfl (c1) ?_)|(guard_target=aa _ 209 _ _ _ _;refine cG [true] rfl (c2) ?_)|(guard_target=aa _ 174 _ _ _ _;refine cP rfl (c3) ?_)
        |refine iX (k:= ?_)
        |refine nO ?_)
   all_goals first|rfl|exact⟨rfl,trivial⟩|trivial
end Go.Proofs.YtgbggaddpbghfaaGreat
namespace Go.Proofs.YtgbggaddpbghfaaGreat
open Go Go.KA
theorem yN:∀(e:ae) (n:Int),(ao e:Int)+1≤n→cx e n=n-ao e-1
 | .mk k num kids,n,h=>by
   rw[cx]
   have h1:(aK kids:Int)≤n-1:=by
    simp only[ao] at h
    omega
   rw[leftS_bud kids (n-1) h1]
   simp only[ao]
   omega
 where leftS_bud:∀(l:List ae) (n:Int),(aK l:Int)≤n→dn l n=n-aK l
 |[],n,h=>by simp[dn,aK]
 |x::xs,n,h=>by
  rw[dn,if_neg (by have:(0:Int)≤aK (x::xs):=by omega
                   omega)]
  simp only[aK] at h⊢
  rw[yN x n (by omega),leftS_bud xs _ (by omega)]
  omega
structure fg(t a:Int)(c:Bool)(d:Nat)(e:ae):Prop where
 tree:dJ t a e=true
 cond:c=true→cS e=true
 depth:ez e≤d+1
theorem fg.mono{t a:Int}{c:Bool}{d d':Nat}{e:ae}(h:fg t a c d e)(hd:d≤d'):fg t a c d' e:=⟨h.tree,h.cond,by have:=h.depth;omega⟩
theorem fg.any{t a:Int}{d:Nat}{e:ae}(h:fg t a true d e)(c:Bool):fg t a c d e:=⟨h.tree,fun _=>h.cond rfl,h.depth⟩
section
variable(g:ja)
theorem uY(s:Src)(c:Bool):fg g.au g.aq c 0 (gi s).1:=by
 have h:=cH s (n:=2) (by omega)
 have:bP s 2=0∨bP s 2=1:=by omega
 unfold gi
 rcases this with h1|h1<;>rw[h1]
 ·exact⟨rfl,fun _=>rfl,Nat.le_refl 1⟩
 ·exact⟨rfl,fun _=>rfl,Nat.le_refl 1⟩
theorem E9{n:Int}(hn:0≤n∧n<g.au)(c:Bool):fg g.au g.aq c 0 (.mk 3 n []):=by
 refine⟨?_,fun _=>rfl,Nat.le_refl 1⟩
 simp[dJ,gH,cT,dH]
 omega
theorem HR{n:Int}(hn:0≤n∧n<g.aq):fg g.au g.aq false 0 (.mk 4 n []):=by
 refine⟨?_,(fun h=>by cases h),Nat.le_refl 1⟩
 simp[dJ,gH,cT,dH]
 omega
theorem uR(s:Src)(c:Bool):fg g.au g.aq c 0 (fK g s).1:=by
 unfold fK
 split
 ·split
  ·exact uY g _ c
  ·exact E9 g (cH _ (by omega)) c
 ·exact uY g _ c
theorem oz(c:Bool)(s:Src):fg g.au g.aq c 0 (bV g c s).1:=by
 unfold bV
 split
 ·rename_i h
  obtain⟨rfl,h⟩:=h
  split
  ·exact uR g _ _
  ·exact HR g (cH _ (by omega))
 ·exact uR g _ c
theorem G2{e:ae}{d:Nat}(h:fg g.au g.aq true d e)(c:Bool):fg g.au g.aq c (d+1) (.mk 5 0 [e]):=by
 have h1:=h.tree
 have h2:=h.cond rfl
 have h3:=h.depth
 refine⟨?_,fun _=> ?_, ?_⟩
 ·simp[dJ,gH,cT,mQ,h1,h2]
 ·simp[cS,mQ,dH,h2]
 ·simp[ez,eL];omega
theorem E7{e:ae}{d:Nat}(h:fg g.au g.aq false d e):fg g.au g.aq false (d+1) (.mk 8 0 [e]):=by
 have h1:=h.tree
 have h3:=h.depth
 refine⟨?_,(fun h=>by cases h), ?_⟩
 ·simp[dJ,gH,cT,h1]
 ·simp[ez,eL];omega
theorem Fv{k:Int}(hk:k=6∨k=7){c c1 c2:Bool}{e f:ae}{d:Nat}(h:fg g.au g.aq c1 d e)(h':fg g.au g.aq c2 d f)(hc:c=true→c1=true∧c2=true):fg g.au g.aq c (d+1) (sM k e f):=by
 have h1:=h.tree
 have h1':=h'.tree
 have h3:=h.depth
 have h3':=h'.depth
 refine⟨?_,fun hc'=> ?_, ?_⟩
 ·rcases hk with rfl|rfl<;>simp[sM,dJ,gH,cT,h1,h1']
 ·have h2:=h.cond (hc hc').1
  have h2':=h'.cond (hc hc').2
  rcases hk with rfl|rfl<;>simp[sM,cS,mQ,dH,h2,h2']
 ·simp[sM,ez,eL];omega
theorem jY:∀(d:Nat) (c:Bool) (r:FH),fg g.au g.aq c d (bx g d c r).1
 |0,c,r=>oz g c r.s
 |d+1,c,r=>by
  unfold bx
  split
  ·exact(oz g c r.s).mono (by omega)
  ·split
   ·exact(oz g c (ar r.s 6)).mono (by omega)
   ·simp only
    split
    ·exact G2 g (jY d true _) c
    ·split
     ·rename_i h1 h2
      have hc:c=false:=by
        cases c with
        |false=>rfl
        |true=>exact absurd (.inr ⟨rfl,h2⟩) h1
      subst hc
      exact E7 g (jY d false _)
     ·exact Fv g (by split<;>simp) (jY d _ _) (jY d _ _) (by intro hc;subst hc;exact⟨rfl,rfl⟩)
theorem wi{c:Bool}{d:Nat}{e:ae}(h:fg g.au g.aq c d e)(hd:d≤39)(hb:ao e≤199):aW g.au g.aq e=true:=by
 have h1:=yN e 200 (by omega)
 have h2:=h.depth
 simp only[aW,Bool.and_eq_true,decide_eq_true_eq]
 exact⟨by omega,by omega,h.tree⟩
end
end Go.Proofs.YtgbggaddpbghfaaGreat
