/- The law of FindDerivation answers true. No conditions. -/
import Derived.Test.YtmpcfplelpdbhaaGreatGB
import Derived.Test.YtmpcfplelpdbhaaGreatMk2
import Derived.Test.YtmpcfplelpdbhaaGreatTo
import Derived.Test.YtmpcfplelpdbhaaGreatSz
import Derived.Test.YtmpcfplelpdbhaaGreatEq
namespace Go.Proofs.YtmpcfplelpdbhaaGreat
open Go Go.KA Go.Proofs
set_option maxHeartbeats 16000000
set_option maxRecDepth 100000
mutual
theorem mkeE_le : ∀ x : XExpr, mkeExpr x ≤ 2 * (budExpr x + 1)
  | .mk k n ks => by
    have := mkeEs_le ks
    rw [mkeExpr_eq, ← mkeExprS_eq]
    show 2 + mkeExprS ks ≤ 2 * (budExprS ks + 1)
    omega
theorem mkeEs_le : ∀ l : List XExpr, mkeExprS l ≤ 2 * budExprS l
  | [] => by rw [mkeExprS_eq]; simp [bsum, budExprS]
  | x :: xs => by
    have h1 := mkeE_le x
    have h2 := mkeEs_le xs
    rw [mkeExprS_eq] at h2 ⊢
    simp only [bsum, budExprS]
    omega
end
theorem kidsE_le (x : XExpr) : bsum mkeExpr x.kids ≤ 2 * budExpr x := by
  have h := mkeE_le x
  rw [mkeExpr_eq] at h
  omega
mutual
theorem mkeP_le : ∀ x : XProg, mkeProg x ≤ 4 * (budProg x + 1)
  | .mk k n c ks => by
    have h1 := mkePs_le ks
    have h2 := kidsE_le c
    rw [mkeProg_eq, ← mkeProgS_eq]
    show 4 + bsum mkeExpr c.kids + mkeProgS ks ≤ 4 * (budExpr c + budProgS ks + 1)
    omega
theorem mkePs_le : ∀ l : List XProg, mkeProgS l ≤ 4 * budProgS l
  | [] => by rw [mkeProgS_eq]; simp [bsum, budProgS]
  | x :: xs => by
    have h1 := mkeP_le x
    have h2 := mkePs_le xs
    rw [mkeProgS_eq] at h2 ⊢
    simp only [bsum, budProgS]
    omega
end
theorem kidsP_le (x : XProg) : bsum mkeExpr x.cond.kids + bsum mkeProg x.kids ≤ 4 * budProg x := by
  have h := mkeP_le x
  rw [mkeProg_eq] at h
  omega
theorem mkePr_le (l : List XPremise) : bsum mkePremise l ≤ 5 * budS budPremise l := by
  induction l with
  | nil => simp [bsum, budS]
  | cons x xs ih =>
    have h1 := kidsE_le x.pre
    have h2 := kidsE_le x.post
    have h3 : budS budPremise (x :: xs) = budPremise x + 1 + budS budPremise xs := by simp [budS, bsum]; omega
    rw [h3]
    simp only [bsum, mkePremise_eq, budPremise]
    omega
theorem mkeT_le (x : XTriple) : bsum mkeExpr x.pre.kids + bsum mkeExpr x.prog.cond.kids + bsum mkeProg x.prog.kids + bsum mkeExpr x.post.kids ≤ 4 * budTriple x := by
  have h1 := kidsE_le x.pre
  have h2 := kidsP_le x.prog
  have h3 := kidsE_le x.post
  unfold budTriple
  omega
theorem mkeD_le (t a : Int) (d : XDerivation) (h : sayD t a d = true) : mkeDerivation d ≤ 60000 * sizeD d := by
  rw [sayD_eq, Bool.and_eq_true, List.all_eq_true] at h
  have hg := goodT_bud h.2
  have h1 := kidsE_le d.says.pre
  have h2 := kidsP_le d.says.prog
  have h3 := kidsE_le d.says.post
  have hk : bsum mkeDerivation d.kids ≤ 60000 * sizeL d.kids := by
    have key : ∀ l : List XDerivation, (∀ k ∈ l, mkeDerivation k ≤ 60000 * sizeD k) → bsum mkeDerivation l ≤ 60000 * sizeL l := by
      intro l
      induction l with
      | nil => intro _; simp [bsum, sizeL]
      | cons x xs ih =>
        intro hx
        have i1 := ih fun k hk => hx k (by simp [hk])
        have i2 := hx x (by simp)
        simp only [bsum, sizeL]
        omega
    exact key _ fun k _hk => mkeD_le t a k (h.1 k _hk)
  rw [mkeDerivation_eq, sizeD_eq]
  omega
  termination_by SizeOf.sizeOf d
  decreasing_by
    have := List.sizeOf_lt_of_mem _hk
    cases d
    simp only [XDerivation.mk.sizeOf_spec]
    show SizeOf.sizeOf k < _
    simp only [XDerivation.kids] at this
    omega
end Go.Proofs.YtmpcfplelpdbhaaGreat

namespace Go.Proofs.YtmpcfplelpdbhaaGreat
open Go Go.KA Go.Proofs
set_option maxHeartbeats 16000000
set_option maxRecDepth 100000
theorem pureLL_of {α : Type} {f : α → List CV} (h : ∀ x, pureL (f x)) : ∀ l : List α, pureLL (l.map f)
  | [] => trivial
  | x :: xs => ⟨h x, pureLL_of h xs⟩
mutual
theorem pureL_expr : ∀ e : XExpr, pureL (ownExpr e)
  | .mk kind num kids => by
    simp only [ownExpr, pureL, pureC]
    exact ⟨trivial, trivial, pureLL_exprS kids, trivial⟩
theorem pureLL_exprS : ∀ l : List XExpr, pureLL (ownExprS l)
  | [] => trivial
  | x :: xs => ⟨pureL_expr x, pureLL_exprS xs⟩
end
mutual
theorem pureL_prog : ∀ e : XProg, pureL (ownProg e)
  | .mk kind num cond kids => by
    simp only [ownProg, pureL, pureC]
    exact ⟨trivial, trivial, trivial, trivial, pureLL_of pureL_expr _, pureLL_progS kids, trivial⟩
theorem pureLL_progS : ∀ l : List XProg, pureLL (ownProgS l)
  | [] => trivial
  | x :: xs => ⟨pureL_prog x, pureLL_progS xs⟩
end
mutual
theorem pureL_der : ∀ e : XDerivation, pureL (ownDerivation e)
  | .mk r s kids => by
    simp only [ownDerivation, pureL, pureC]
    exact ⟨trivial, trivial, trivial, pureLL_of pureL_expr _, trivial, trivial, trivial, trivial, pureLL_of pureL_expr _, pureLL_of pureL_prog _, trivial, trivial, pureLL_of pureL_expr _, pureLL_derS kids, trivial⟩
theorem pureLL_derS : ∀ l : List XDerivation, pureLL (ownDerivationS l)
  | [] => trivial
  | x :: xs => ⟨pureL_der x, pureLL_derS xs⟩
end
theorem ownDT_eq (d : XDerivation) : ownDT d = ownDerivation d := (ownDerivation_eq d).symm
theorem pure_derI (d : XDerivation) (c : Int) : pureT (.tup [.a 14 (ownDT d), I c]) := by
  intro s hs
  rcases List.mem_cons.1 hs with rfl | hs
  · intro x hx
    rw [ownDT_eq] at hx
    exact pureL_iff.1 (pureL_der d) x hx
  · rw [List.mem_singleton.1 hs]
    exact trivial
section
variable (t a : Int) (l : List XPremise) (x : XTriple)
theorem toPremS_enc (hl : budS budPremise l ≤ 1048576) : CallX Tryz.prog 9 [.c (.ro 7 (l.map encPremise))] [] (.c (.ro 7 (l.map encPremise))) := by
  have h := (toPremiseS_ok l hl).soft (r' := .c (.ro 7 (roLL (l.map ownPremise)))) (.v (.c (.ro .nil)))
  rwa [roLL_of roPremise] at h
theorem toTriple_enc (hl : budTriple x ≤ 1048576) : CallX Tryz.prog 10 [.a 12 (encTriple x)] [] (.a 12 (encTriple x)) :=
  (toTriple_ok x hl).soft (.v (.a (by rw [← roTriple]; exact SoftN.roL _)))
theorem eqPremS_own : CallF Tryz.prog 13 [.c (.ro 7 (roLL (l.map ownPremise))), .c (.ro 7 (roLL (l.map ownPremise)))] (B true) := by
  rw [roLL_of roPremise]
  have := eqPremiseS_ok l l
  rwa [eqv_self] at this
theorem eqTriple_own : CallF Tryz.prog 14 [.a 12 (roL (ownTriple x)), .a 12 (roL (ownTriple x))] (B true) := by
  rw [roTriple]
  have := eqTriple_ok x x
  rwa [eqv_self] at this
theorem eqDer_own (d : XDerivation) : CallF Tryz.prog 12 [.a 14 (roL (ownDT d)), .a 14 (encDerivation d)] (B true) := by
  rw [ownDT_eq, roDerivation]
  have := eqDerivation_ok d d
  rwa [eqv_self] at this
theorem FD_big (h : ¬ budS budPremise l + budTriple x ≤ 1048576) : CallF Tryz.prog 3 [.a 2 [J t, J a], .c (.ro 7 (l.map encPremise)), .a 12 (encTriple x)] (B true) := by
  have hz := szPremiseS_ok l 1048576 (by omega)
  by_cases hl : budS budPremise l ≤ 1048576
  · rw [szr_eq hl] at hz
    have hz2 := szTriple_ok x (1048576 - budS budPremise l) (by omega)
    rw [szr_neg (by omega)] at hz2
    refine callF_of_vc htb hm Tryz.func3 rfl rfl rfl rfl (ann := fun _ => none) (gh := fun _ => false) ?_
    repeat' ((conv => whnf); first | (guard_target = Done _; refine Done.mk ?_; first | (rfl; done) | skip) | (guard_target = RetX _ _; refine RetX.mk ?_ ?_) | (guard_target = Fact _ _; refine Fact.mk fun hL => ?_; (try simp only [List.length_map, maxLen] at hL)) | (guard_target = Branch _ _ _; (first | refine Branch.dec ?_ ?_ | refine Branch.beq ?_ ?_ | refine Branch.bne ?_ ?_ | refine Branch.ndec ?_ ?_ | refine Branch.nb ?_ ?_ | refine Branch.mk ?_ ?_) <;> intro h <;> (try simp only [List.length_map] at h) <;> (try omega) <;> (try contradiction)) | (guard_target = CallN _ 5 _ _ _ _; refine CallN.pure _ _ rfl (hz) rfl _ rfl ?_) | (guard_target = CallN _ 6 _ _ _ _; refine CallN.pure _ _ rfl (hz2) rfl _ rfl ?_) | (guard_target = Arith _ _ _; refine Arith.fit (wrap_fit (by first | omega | (simp only [List.length_map]; omega)) (by first | omega | (simp only [List.length_map]; omega))) ?_) | (guard_target = Arith _ _ _; refine Arith.fit (by decide) ?_) | (guard_target = Index _ _ _; first  | refine Index.mk _ (idx_map (by omega)) ?_) | (guard_target = Need (_ = true) _; refine Need.mk (by first | kernel_rfl | rfl) ?_) | (guard_target = LinkV _ _ _; first  | refine LinkV.no ?_) | (guard_target = GhO _ _ _ _; refine GhO.go ?_) | (guard_target = Need _ _; refine Need.mk (by first  | omega | (simp only [List.length_map]; omega)) ?_))
  · rw [szr_neg (by omega)] at hz
    refine callF_of_vc htb hm Tryz.func3 rfl rfl rfl rfl (ann := fun _ => none) (gh := fun _ => false) ?_
    repeat' ((conv => whnf); first | (guard_target = Done _; refine Done.mk ?_; first | (rfl; done) | skip) | (guard_target = RetX _ _; refine RetX.mk ?_ ?_) | (guard_target = Fact _ _; refine Fact.mk fun hL => ?_; (try simp only [List.length_map, maxLen] at hL)) | (guard_target = Branch _ _ _; (first | refine Branch.dec ?_ ?_ | refine Branch.beq ?_ ?_ | refine Branch.bne ?_ ?_ | refine Branch.ndec ?_ ?_ | refine Branch.nb ?_ ?_ | refine Branch.mk ?_ ?_) <;> intro h <;> (try simp only [List.length_map] at h) <;> (try omega) <;> (try contradiction)) | (guard_target = CallN _ 5 _ _ _ _; refine CallN.pure _ _ rfl (hz) rfl _ rfl ?_) | (guard_target = Arith _ _ _; refine Arith.fit (wrap_fit (by first | omega | (simp only [List.length_map]; omega)) (by first | omega | (simp only [List.length_map]; omega))) ?_) | (guard_target = Arith _ _ _; refine Arith.fit (by decide) ?_) | (guard_target = Index _ _ _; first  | refine Index.mk _ (idx_map (by omega)) ?_) | (guard_target = Need (_ = true) _; refine Need.mk (by first | kernel_rfl | rfl) ?_) | (guard_target = LinkV _ _ _; first  | refine LinkV.no ?_) | (guard_target = GhO _ _ _ _; refine GhO.go ?_) | (guard_target = Need _ _; refine Need.mk (by first  | omega | (simp only [List.length_map]; omega)) ?_))
theorem FD_same (hl : budS budPremise l + budTriple x ≤ 1048576) (D : XDerivation) (c : Int) (hD : mkeDerivation D ≤ 100000000) (hs : CallX Tryz.prog 7 (argsD t a l x) [] (.tup [.a 14 (encDerivation D), I c])) (hi : CallX Tryz.prog 11 (argsD t a l x) [] (.tup [.a 14 (ownDT D), I c])) :
    CallF Tryz.prog 3 [.a 2 [J t, J a], .c (.ro 7 (l.map encPremise)), .a 12 (encTriple x)] (B true) := by
  have hz := szPremiseS_ok l 1048576 (by omega)
  rw [szr_eq (by omega)] at hz
  have hz2 := szTriple_ok x (1048576 - budS budPremise l) (by omega)
  rw [szr_eq (by omega)] at hz2
  have hsg := toSig_ok ⟨t, a⟩ (by simp [budSig])
  have hi' : CallX Tryz.prog 11 [.a 2 [J t, J a], .c (.ro 7 (roLL (l.map ownPremise))), .a 12 (roL (ownTriple x))] [] (.tup [.a 14 (ownDT D), I c]) := by rw [roLL_of roPremise, roTriple]; exact hi
  have hk1 := mkePr_le l
  have hk2 := mkeT_le x
  have hkd : bsum mkeExpr D.says.pre.kids + bsum mkeExpr D.says.prog.cond.kids + bsum mkeProg D.says.prog.kids + bsum mkeExpr D.says.post.kids + bsum mkeDerivation D.kids ≤ 100000000 := by
    rw [mkeDerivation_eq] at hD
    omega
  have hmd := markDerivation_out D 1 (by omega) (by omega)
  have hhd := heldDerivation_mk D 1 (by omega) (by omega)
  rcases D with ⟨r, ⟨⟨a1, a2, a3⟩, ⟨p1, p2, ⟨q1, q2, q3⟩, p4⟩, ⟨b1, b2, b3⟩⟩, ks⟩
  simp only [← roLL_of roExpr, ← roLL_of roProg, ← roLL_of roDerivation] at hhd
  refine callF_of_vc htb hm Tryz.func3 rfl rfl rfl rfl (ann := fun _ => none) (gh := fun reg_ => match reg_ with | 9 => true | _ => false) ?_
  repeat' ((conv => whnf); first | (guard_target = Done _; refine Done.mk ?_) | (guard_target = RetX _ _; refine RetX.mk ?_ ?_) | (guard_target = Fact _ _; refine Fact.mk fun hL => ?_; (try simp only [List.length_map, maxLen] at hL)) | (guard_target = Branch _ _ _; (first | refine Branch.dec ?_ ?_ | refine Branch.beq ?_ ?_ | refine Branch.bne ?_ ?_ | refine Branch.ndec ?_ ?_ | refine Branch.nb ?_ ?_ | refine Branch.mk ?_ ?_) <;> intro h <;> (try simp only [List.length_map] at h) <;> (try omega) <;> (try contradiction)) | (guard_target = CallN _ 5 _ _ _ _; refine CallN.pure _ _ rfl (hz) rfl _ rfl ?_) | (guard_target = CallN _ 6 _ _ _ _; refine CallN.pure _ _ rfl (hz2) rfl _ rfl ?_) | (guard_target = CallN _ 8 _ _ _ _; refine CallN.gen [] _ _ _ rfl (hsg) rfl rfl _ rfl ?_) | (guard_target = CallN _ 9 _ _ _ _; refine CallN.gen [] _ _ _ rfl (toPremS_enc l (by omega)) rfl rfl _ rfl ?_) | (guard_target = CallN _ 10 _ _ _ _; refine CallN.gen [] _ _ _ rfl (toTriple_enc x (by omega)) rfl rfl _ rfl ?_) | (guard_target = CallN _ 7 _ _ _ _; refine CallN.gen [] _ _ _ rfl (hs) rfl rfl _ rfl ?_) | (guard_target = Arith _ _ _; refine Arith.fit (wrap_fit (by first | omega | (simp only [List.length_map]; omega)) (by first | omega | (simp only [List.length_map]; omega))) ?_) | (guard_target = Arith _ _ _; refine Arith.fit (by decide) ?_) | (guard_target = Index _ _ _; first  | refine Index.mk _ (idx_map (by omega)) ?_) | (guard_target = Need (_ = true) _; refine Need.mk (by first | kernel_rfl | rfl) ?_) | (guard_target = LinkV _ _ _; first  | refine LinkV.no ?_) | (guard_target = Need _ _; refine Need.mk (by first  | omega | (simp only [List.length_map]; omega)) ?_))
  all_goals (conv => whnf)
  all_goals try refine Gh.go ?_
  repeat' ((conv => whnf); first | (guard_target = Done _; refine Done.mk ?_; first | (rfl; done) | skip) | (guard_target = RetX _ _; refine RetX.mk ?_ ?_) | (guard_target = Fact _ _; refine Fact.mk fun hL => ?_; (try simp only [List.length_map, maxLen] at hL)) | (guard_target = Branch _ _ _; (first | refine Branch.dec ?_ ?_ | refine Branch.beq ?_ ?_ | refine Branch.bne ?_ ?_ | refine Branch.ndec ?_ ?_ | refine Branch.nb ?_ ?_ | refine Branch.mk ?_ ?_) <;> intro h <;> (try simp only [] at h) <;> (try omega) <;> (try contradiction)) | (guard_target = CallN _ 8 _ _ _ _; refine CallN.gen [] _ _ _ rfl (hsg) rfl rfl _ rfl ?_) | (guard_target = CallN _ 9 _ _ _ _; refine CallN.gen [] _ _ _ rfl (toPremiseS_ok l (by omega)) rfl rfl _ rfl ?_) | (guard_target = CallN _ 10 _ _ _ _; refine CallN.gen [] _ _ _ rfl (toTriple_ok x (by omega)) rfl rfl _ rfl ?_) | (guard_target = CallN _ 12 _ _ _ _; refine CallN.pure _ _ rfl (eqDer_own _) rfl _ rfl ?_) | (guard_target = CallN _ 13 _ _ _ _; refine CallN.pure _ _ rfl (eqPremS_own l) rfl _ rfl ?_) | (guard_target = CallN _ 14 _ _ _ _; refine CallN.pure _ _ rfl (eqTriple_own x) rfl _ rfl ?_) | (guard_target = CallN _ 15 _ _ _ _; refine CallN.gen [true, false] _ _ _ rfl (CallX.drop (markPremiseS_out l 1 (by omega) (by omega))) rfl rfl _ rfl ?_) | (guard_target = CallN _ 16 _ _ _ _; refine CallN.gen [true, false] _ _ _ rfl (markTriple_ok x (1 + (bsum mkePremise l : Nat)) (by omega) (by omega)) rfl rfl _ rfl ?_) | (guard_target = CallN _ 17 _ _ _ _; refine CallN.gen [true, false] _ _ _ rfl (hmd) rfl rfl _ rfl ?_) | (guard_target = CallN _ 18 _ _ _ _; refine CallN.pure _ _ rfl (hhd) rfl _ rfl ?_) | (guard_target = CallN _ 11 _ _ _ _; refine CallN.own _ _ rfl hi' (pure_derI _ _) _ rfl ?_) | (guard_target = Arith _ _ _; refine Arith.fit (wrap_fit (by first | omega | (simp only [List.length_map]; omega)) (by first | omega | (simp only [List.length_map]; omega))) ?_) | (guard_target = Arith _ _ _; refine Arith.fit (by decide) ?_) | (guard_target = Index _ _ _; first  | refine Index.mk _ (idx_map (by omega)) ?_) | (guard_target = Need (_ = true) _; refine Need.mk (by first | kernel_rfl | rfl) ?_) | (guard_target = LinkV _ _ _; first  | refine LinkV.no ?_) | (guard_target = GhO _ _ _ _; refine GhO.go ?_) | (guard_target = Need _ _; refine Need.mk (by first  | omega | (simp only [List.length_map]; omega)) ?_))
theorem FindDerivation_law : CallF Tryz.prog 3 [.a 2 [J t, J a], .c (.ro 7 (l.map encPremise)), .a 12 (encTriple x)] (B true) := by
  by_cases hl : budS budPremise l + budTriple x ≤ 1048576
  case neg => exact FD_big t a l x hl
  have hn : mkeDerivation nilD ≤ 100000000 := by
    rw [mkeDerivation_eq]
    show 9 + 0 + 0 + 0 + 0 + 0 ≤ _
    omega
  cases hv : ((goodSig t a && goodL t a l) && goodT t a x) with
  | false => exact FD_same t a l x hl nilD 1 hn (specFD_inv t a l x (by omega) (by omega) hv) (implFD_inv t a l x hv)
  | true =>
    rw [Bool.and_eq_true, Bool.and_eq_true] at hv
    obtain ⟨N, hN⟩ := atoms_nat (sig_bounds hv.1.1).1
    cases hh : holdsT N l x with
    | false => exact FD_same t a l x hl nilD 4 hn (specFD_state t a l x (by omega) (by omega) hv.1.1 hv.1.2 hv.2 N hN hh) (implFD_state t a l x hv.1.1 hv.1.2 hv.2 N hN hh)
    | true =>
      have h1 := specFD_rest t a l x (by omega) (by omega) hv.1.1 hv.1.2 hv.2 N hN hh
      have h2 := implFD_rest t a l x hv.1.1 hv.1.2 hv.2 N hN hh
      by_cases hq : sizeD (wholeD t N l x) ≤ 400 ∧ sayD t a (wholeD t N l x) = true
      · rw [if_pos hq] at h1 h2
        refine FD_same t a l x hl _ 0 ?_ h1 h2
        have := mkeD_le t a _ hq.2
        omega
      · rw [if_neg hq] at h1 h2
        exact FD_same t a l x hl nilD 3 hn h1 h2
end
theorem findDerivation_all (g : XSig) (l : List XPremise) (x : XTriple) : CallF Tryz.prog 3 [.a 2 (encSig g), .c (.ro 7 (l.map encPremise)), .a 12 (encTriple x)] (B true) := FindDerivation_law g.tests g.actions l x
end Go.Proofs.YtmpcfplelpdbhaaGreat
