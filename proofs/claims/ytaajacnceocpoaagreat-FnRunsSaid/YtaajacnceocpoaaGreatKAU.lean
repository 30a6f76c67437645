/- Contracts of the reference's functions that tell an expression's size, whether an atom alone is a word of it, and its derivative. Conditions: valid trees, bounds of size. -/
import Derived.Test.YtaajacnceocpoaaGreatKAT
namespace Go.Proofs.YtaajacnceocpoaaGreat
open Go Go.KA Go.Proofs
set_option maxHeartbeats 16000000
set_option maxRecDepth 100000
theorem l01Size_all (e : XExpr) (hn : nod e ≤ 1000000) (hx : ∀ x ∈ e.kids, CallF Tryz.prog 163 [.c (.rp 3 (encExpr x))] (I (nod x : Nat))) : CallF Tryz.prog 163 [.c (.rp 3 (toldE e))] (I (nod e : Nat)) := by
  have hb : ∀ i, budExprS (e.kids.take i) + 1 ≤ 1000000 := fun i => by
    have := bud_take e.kids i
    have := nod_kids e
    omega
  have hl : e.kids.length ≤ budExprS e.kids := by
    generalize e.kids = l
    induction l with
    | nil => simp
    | cons x l ih => simp only [budExprS, List.length_cons]; omega
  have hk := nod_kids e
  refine callF_of_vc htb hm Tryz.func163 rfl rfl rfl rfl (ann := fun _ => none) (gh := fun _ => false) ?_
  repeat' ((conv => whnf); first | (guard_target = Done _; refine Done.mk ?_; first | ((rw [ha.2, List.take_of_length_le (by omega), ← hk]; rfl); done) | skip) | (guard_target =~ LoopE 3 _ _ _ _ _ _; refine LoopE.mk { α := Int × Nat, keep := [0], ov := fun ⟨n, i⟩ => [(3, I n), (4, I (i : Nat))], φ := fun ⟨n, i⟩ => i ≤ e.kids.length ∧ n = (budExprS (e.kids.take i) + 1 : Nat), μ := fun ⟨n, i⟩ => e.kids.length - i } (LoopN.mk ((1, 0) : Int × Nat) (by exact ⟨Nat.zero_le _, by simp [budExprS]⟩) (by repeat' ((conv => whnf) <;> first | exact trivial | kernel_rfl | constructor)) (by repeat' ((conv => whnf) <;> first | exact trivial | kernel_rfl | constructor)) (by repeat' ((conv => whnf) <;> first | exact trivial | refine ⟨?_, ?_⟩ | exact rfl | (simp only [List.map_append, List.map_cons, List.map_nil, List.map_set]; first | done | rfl))) (fun A ha => ?_) (by intro A; first | rfl | (obtain ⟨_, _⟩ := A; rfl) | (obtain ⟨_, _, _⟩ := A; rfl))); obtain ⟨n, i⟩ := A; have ha : i ≤ e.kids.length ∧ n = (budExprS (e.kids.take i) + 1 : Nat) := ha; have hbi := hb i; have hnx := bud_take e.kids (i + 1)) | (guard_target = Gh _ _ _ _ _; refine Gh.go ⟨((n + (nod (e.kids[i]'(by omega)) : Int), i + 1) : Int × Nat), (by exact ⟨by show i + 1 ≤ _; omega, by show n + _ = _; rw [bud_next (by omega), ha.2]; omega⟩), (by first | (show _ < _; simp only []; omega) | omega | (simp; omega)), (by repeat' ((conv => whnf) <;> first | exact trivial | kernel_rfl | constructor)), (by repeat' ((conv => whnf) <;> first | exact trivial | kernel_rfl | constructor)), (by repeat' ((conv => whnf) <;> first | exact trivial | refine ⟨?_, ?_⟩ | exact rfl | (simp only [List.map_append, List.map_cons, List.map_nil, List.map_set]; first | done | rfl)))⟩) | (guard_target = Fact _ _; refine Fact.mk fun hL => ?_; (try simp only [List.length_map, maxLen] at hL)) | (guard_target = Branch _ _ _; (first | apply Branch.dec | apply Branch.beq | apply Branch.bne | apply Branch.ndec | apply Branch.nb | apply Branch.mk) <;> intro h <;> (try simp only [List.length_map] at h) <;> (try omega) <;> (try contradiction)) | (guard_target = CallN _ 163 _ _ _ _; refine CallN.pure _ _ rfl (hx _ (List.getElem_mem (show i < e.kids.length by omega))) rfl _ rfl ?_) | (guard_target = Arith _ _ _; refine Arith.fit (wrap_fit (by (have h9 := bud_next (l := e.kids) (i := i) (by omega); have h8 := hb (i + 1); omega)) (by (have h9 := bud_next (l := e.kids) (i := i) (by omega); have h8 := hb (i + 1); omega))) ?_) | (guard_target = Arith _ _ _; refine Arith.fit (by decide) ?_) | (guard_target = Index _ _ _; first | refine Index.mk _ (idx_map (l := e.kids) (i := i) (by omega)) ?_ | refine Index.mk _ (idx_map (by omega)) ?_) | (guard_target = LinkV _ _ _; refine LinkV.no ?_) | (guard_target = Need _ _; refine Need.mk (by first  | omega | (simp only [List.length_map]; omega)) ?_))
  all_goals first | rfl | trivial
theorem l01Size_ok (e : XExpr) (hn : nod e ≤ 1000000) : CallF Tryz.prog 163 [.c (.rp 3 (encExpr e))] (I (nod e : Nat)) := by
  rw [encExpr_eq]
  exact l01Size_all e hn fun x _hx => l01Size_ok x (by have := nod_kid _hx; omega)
  termination_by SizeOf.sizeOf e
  decreasing_by
    have := List.sizeOf_lt_of_mem _hx
    cases e
    simp only [XExpr.mk.sizeOf_spec]
    show SizeOf.sizeOf x < _
    simp only [XExpr.kids] at this
    omega
theorem size_tt (e : XExpr) (hn : nod e ≤ 1000000) : CallF Tryz.prog 163 [.c (.rp 3 (toldE e))] (I (nod e : Nat)) := by
  have := l01Size_ok e hn
  rwa [encExpr_eq] at this
section
variable {t a : Int} (ht : t ≤ 3) (ha2 : a ≤ 4)
include ht
theorem l02Empty_ok {e : XExpr} (h : Tree t a e) (p : Int) : CallF Tryz.prog 117 [.c (.rp 3 (toldE e)), I p] (B (emptyE e p)) := by
  have leaf : ∀ {k n : Int} {ks : List XExpr}, ¬ k = 4 → ¬ k = 6 → ¬ k = 7 → ¬ k = 8 → okC t a (.mk k n ks) → emptyE (.mk k n ks) p = truthE (.mk k n ks) p → CallF Tryz.prog 117 [.c (.rp 3 (toldE (.mk k n ks))), I p] (B (emptyE (.mk k n ks) p)) := by
    intro k n ks h4 h6 h7 h8 hk e
    have c1 := l01True_ok t a p ht _ hk
    rw [encExpr_eq] at c1
    rw [e]
    refine callF_of_vc htb hm Tryz.func117 rfl rfl rfl rfl (ann := fun _ => none) (gh := fun _ => false) ?_
    repeat' ((conv => whnf); first | (guard_target = Done _; refine Done.mk ?_) | (guard_target = Branch _ _ _; (first | apply Branch.dec | apply Branch.beq | apply Branch.bne | apply Branch.ndec | apply Branch.nb | apply Branch.mk) <;> intro h <;> (try simp only [List.length_map] at h) <;> (try omega) <;> (try contradiction)) | (guard_target = CallN _ 127 _ _ _ _; refine CallN.pure _ _ rfl (c1) rfl _ rfl ?_) | (guard_target = Index _ _ _; first  | refine Index.mk _ (idx_map (by omega)) ?_) | (guard_target = LinkV _ _ _; refine LinkV.no ?_) | (guard_target = Need _ _; refine Need.mk (by first  | omega | (simp only [List.length_map]; omega)) ?_))
    all_goals first | rfl | trivial
  have ok : ∀ {e : XExpr}, Tree t a e → condB e = true → okC t a e := fun h hc => ⟨hc, h.treeB⟩
  induction h with
  | zero => exact leaf (by decide) (by decide) (by decide) (by decide) (ok .zero rfl) (empty_nil _ _ (by decide) (by decide))
  | one => exact leaf (by decide) (by decide) (by decide) (by decide) (ok .one rfl) (empty_nil _ _ (by decide) (by decide))
  | test h0 h1 => exact leaf (by decide) (by decide) (by decide) (by decide) (ok (.test h0 h1) rfl) (empty_nil _ _ (by decide) (by decide))
  | act h0 h1 =>
    rw [empty_act]
    refine callF_of_vc htb hm Tryz.func117 rfl rfl rfl rfl (ann := fun _ => none) (gh := fun _ => false) ?_
    repeat' ((conv => whnf); first | (guard_target = Done _; refine Done.mk ?_) | (guard_target = Branch _ _ _; (first | apply Branch.dec | apply Branch.beq | apply Branch.bne | apply Branch.ndec | apply Branch.nb | apply Branch.mk) <;> intro h <;> (try simp only [List.length_map] at h) <;> (try omega) <;> (try contradiction)) | (guard_target = Index _ _ _; first  | refine Index.mk _ (idx_map (by omega)) ?_) | (guard_target = LinkV _ _ _; refine LinkV.no ?_) | (guard_target = Need _ _; refine Need.mk (by first  | omega | (simp only [List.length_map]; omega)) ?_))
    all_goals first | rfl | trivial
  | not hc h => exact leaf (by decide) (by decide) (by decide) (by decide) (ok (.not hc h) (by simp [condB, condS, hc, rng])) (empty_not _ _ _)
  | @sum x y hx hy ih1 ih2 =>
    rw [empty_sum]
    have e0 : toldE (.mk 6 0 [x, y]) = [J 6, J 0, .ro 3 [toldE x, toldE y]] := by rw [← toldE_e x, ← toldE_e y]; rfl
    rw [e0]
    generalize emptyE x p = b1 at ih1 ⊢
    generalize emptyE y p = b2 at ih2 ⊢
    refine callF_of_vc htb hm Tryz.func117 rfl rfl rfl rfl (ann := fun _ => none) (gh := fun _ => false) ?_
    repeat' ((conv => whnf); first | (guard_target = Done _; refine Done.mk ?_) | (guard_target = Branch _ _ _; (first | apply Branch.dec | apply Branch.beq | apply Branch.bne | apply Branch.ndec | apply Branch.nb | apply Branch.mk) <;> intro h <;> (try simp only [List.length_map] at h) <;> (try omega) <;> (try contradiction)) | (guard_target = CallN _ 117 _ _ _ _; refine CallN.pure _ _ rfl (ih1) rfl _ rfl ?_) | (guard_target = CallN _ 117 _ _ _ _; refine CallN.pure _ _ rfl (ih2) rfl _ rfl ?_) | (guard_target = Index _ _ _; first | refine Index.mk _ (rfl) ?_ | refine Index.mk _ (idx_map (by omega)) ?_) | (guard_target = LinkV _ _ _; refine LinkV.no ?_) | (guard_target = Need _ _; refine Need.mk (by first  | omega | (simp only [List.length_map]; omega)) ?_))
    all_goals first | rfl | trivial | (simp_all [normS, normV]; done)
  | @dot x y hx hy ih1 ih2 =>
    rw [empty_dot]
    have e0 : toldE (.mk 7 0 [x, y]) = [J 7, J 0, .ro 3 [toldE x, toldE y]] := by rw [← toldE_e x, ← toldE_e y]; rfl
    rw [e0]
    generalize emptyE x p = b1 at ih1 ⊢
    generalize emptyE y p = b2 at ih2 ⊢
    refine callF_of_vc htb hm Tryz.func117 rfl rfl rfl rfl (ann := fun _ => none) (gh := fun _ => false) ?_
    repeat' ((conv => whnf); first | (guard_target = Done _; refine Done.mk ?_) | (guard_target = Branch _ _ _; (first | apply Branch.dec | apply Branch.beq | apply Branch.bne | apply Branch.ndec | apply Branch.nb | apply Branch.mk) <;> intro h <;> (try simp only [List.length_map] at h) <;> (try omega) <;> (try contradiction)) | (guard_target = CallN _ 117 _ _ _ _; refine CallN.pure _ _ rfl (ih1) rfl _ rfl ?_) | (guard_target = CallN _ 117 _ _ _ _; refine CallN.pure _ _ rfl (ih2) rfl _ rfl ?_) | (guard_target = Index _ _ _; first | refine Index.mk _ (rfl) ?_ | refine Index.mk _ (idx_map (by omega)) ?_) | (guard_target = LinkV _ _ _; refine LinkV.no ?_) | (guard_target = Need _ _; refine Need.mk (by first  | omega | (simp only [List.length_map]; omega)) ?_))
    all_goals first | rfl | trivial | (simp_all [normS, normV]; done)
  | @star x hx ih =>
    rw [empty_star]
    have e0 : toldE (.mk 8 0 [x]) = [J 8, J 0, .ro 3 [toldE x]] := by rw [← toldE_e x]; rfl
    rw [e0]
    refine callF_of_vc htb hm Tryz.func117 rfl rfl rfl rfl (ann := fun _ => none) (gh := fun _ => false) ?_
    repeat' ((conv => whnf); first | (guard_target = Done _; refine Done.mk ?_) | (guard_target = Branch _ _ _; (first | apply Branch.dec | apply Branch.beq | apply Branch.bne | apply Branch.ndec | apply Branch.nb | apply Branch.mk) <;> intro h <;> (try simp only [List.length_map] at h) <;> (try omega) <;> (try contradiction)) | (guard_target = Index _ _ _; first  | refine Index.mk _ (idx_map (by omega)) ?_) | (guard_target = LinkV _ _ _; refine LinkV.no ?_) | (guard_target = Need _ _; refine Need.mk (by first  | omega | (simp only [List.length_map]; omega)) ?_))
    all_goals first | rfl | trivial
include ha2
theorem l02Step_ok {e : XExpr} (h : Tree t a e) (p c : Int) : nod e ≤ 80000 → CallX Tryz.prog 118 [.c (.rp 3 (toldE e)), I p, I c] [] (.tup [.a 3 (toldE (stepE e p c).1), B (stepE e p c).2]) := by
  have leaf : ∀ {k n : Int} {ks : List XExpr}, ¬ k = 4 → ¬ k = 6 → ¬ k = 7 → ¬ k = 8 → stepE (.mk k n ks) p c = (.mk 1 0 [], true) → CallX Tryz.prog 118 [.c (.rp 3 (toldE (.mk k n ks))), I p, I c] [] (.tup [.a 3 (toldE (stepE (.mk k n ks) p c).1), B (stepE (.mk k n ks) p c).2]) := by
    intro k n ks h4 h6 h7 h8 e
    rw [e]
    refine callX_of_vc htb hm Tryz.func118 rfl rfl rfl rfl (ann := fun _ => none) (gh := fun _ => false) ?_
    repeat' ((conv => whnf); first | (guard_target = RetX _ _; refine RetX.mk ?_ ?_) | (guard_target = Branch _ _ _; (first | apply Branch.dec | apply Branch.beq | apply Branch.bne | apply Branch.ndec | apply Branch.nb | apply Branch.mk) <;> intro h <;> (try simp only [List.length_map] at h) <;> (try omega) <;> (try contradiction)) | (guard_target = CallN _ 83 _ _ _ _; refine CallN.gen [] _ _ _ rfl (zero_tt) rfl rfl _ rfl ?_) | (guard_target = Index _ _ _; first  | refine Index.mk _ (idx_map (by omega)) ?_) | (guard_target = Need (_ = true) _; refine Need.mk (by first | kernel_rfl | rfl) ?_) | (guard_target = LinkV _ _ _; refine LinkV.no ?_) | (guard_target = GhO _ _ _ _; refine GhO.go ?_) | (guard_target = Need _ _; refine Need.mk (by first  | omega | (simp only [List.length_map]; omega)) ?_))
    all_goals first | rfl | trivial
  induction h with
  | zero => exact fun _ => leaf (by decide) (by decide) (by decide) (by decide) (step_nil _ _ _ (by decide))
  | one => exact fun _ => leaf (by decide) (by decide) (by decide) (by decide) (step_nil _ _ _ (by decide))
  | test h0 h1 => exact fun _ => leaf (by decide) (by decide) (by decide) (by decide) (step_nil _ _ _ (by decide))
  | @act n h0 h1 =>
    intro hn
    rw [step_act]
    obtain ⟨R, hR⟩ : ∃ R, (if n = c then ((XExpr.mk 2 0 [], true) : XExpr × Bool) else (.mk 1 0 [], true)) = R := ⟨_, rfl⟩
    rw [hR]
    refine callX_of_vc htb hm Tryz.func118 rfl rfl rfl rfl (ann := fun _ => none) (gh := fun _ => false) ?_
    repeat' ((conv => whnf); first | (guard_target = RetX _ _; refine RetX.mk ?_ ?_) | (guard_target = Branch _ _ _; (first | apply Branch.dec | apply Branch.beq | apply Branch.bne | apply Branch.ndec | apply Branch.nb | apply Branch.mk) <;> intro h <;> (try simp only [List.length_map] at h) <;> (try omega) <;> (try contradiction)) | (guard_target = CallN _ 83 _ _ _ _; refine CallN.gen [] _ _ _ rfl (zero_tt) rfl rfl _ rfl ?_) | (guard_target = CallN _ 63 _ _ _ _; refine CallN.gen [] _ _ _ rfl (one_tt) rfl rfl _ rfl ?_) | (guard_target = Index _ _ _; first  | refine Index.mk _ (idx_map (by omega)) ?_) | (guard_target = Need (_ = true) _; refine Need.mk (by first | kernel_rfl | rfl) ?_) | (guard_target = LinkV _ _ _; refine LinkV.no ?_) | (guard_target = GhO _ _ _ _; refine GhO.go ?_) | (guard_target = Need _ _; refine Need.mk (by first  | omega | (simp only [List.length_map]; omega)) ?_))
    all_goals first | rfl | trivial | (rw [← hR, if_pos (by assumption)]; done) | (rw [← hR, if_neg (by assumption)]; done)
  | not hc h => exact fun _ => leaf (by decide) (by decide) (by decide) (by decide) (step_not _ _ _ _)
  | @sum x y hx hy ih1 ih2 =>
    intro hn
    rw [nod2] at hn
    have c1 := ih1 (by omega)
    have c2 := ih2 (by omega)
    have k1 := step_keeps hx p c
    have k2 := step_keeps hy p c
    have e0 : toldE (.mk 6 0 [x, y]) = [J 6, J 0, .ro 3 [toldE x, toldE y]] := by rw [← toldE_e x, ← toldE_e y]; rfl
    rw [step_sum, e0]
    generalize stepE x p c = A at c1 k1 ⊢
    generalize stepE y p c = C at c2 k2 ⊢
    obtain ⟨X, o1⟩ := A
    obtain ⟨Y, o2⟩ := C
    simp only [] at c1 c2 k1 k2 ⊢
    obtain ⟨R, hR⟩ : ∃ R, (if (!o1 || !o2) = true then ((XExpr.mk 1 0 [], false) : XExpr × Bool) else finE (pairX 6 X Y)) = R := ⟨_, rfl⟩
    rw [hR]
    by_cases ho : o1 = true ∧ o2 = true
    · obtain ⟨rfl, rfl⟩ := ho
      have k1 := And.intro k1.1 (k1.2 rfl)
      have k2 := And.intro k2.1 (k2.2 rfl)
      have hp := pair_nod 6 X Y
      have c3 := size_tt (pairX 6 X Y) (by omega)
      have c4 := l02Tidy_ok ht ha2 (e := pairX 6 X Y) (.sum k1.1 k2.1) (by omega)
      have c5 := pair_tt 6 X Y
      rw [if_neg (by simp)] at hR
      unfold finE at hR
      generalize pairX 6 X Y = Q at c3 c4 c5 hR
      generalize tidyE Q = Z at c4 hR
      refine callX_of_vc htb hm Tryz.func118 rfl rfl rfl rfl (ann := fun _ => none) (gh := fun reg_ => match reg_ with | 31 => true | _ => false) ?_
      repeat' ((conv => whnf); first | (guard_target = RetX _ _; refine RetX.mk ?_ ?_) | (guard_target = Branch _ _ _; (first | apply Branch.dec | apply Branch.beq | apply Branch.bne | apply Branch.ndec | apply Branch.nb | apply Branch.mk) <;> intro h <;> (try simp only [List.length_map] at h) <;> (try omega) <;> (try contradiction)) | (guard_target = CallN _ 83 _ _ _ _; refine CallN.gen [] _ _ _ rfl (zero_tt) rfl rfl _ rfl ?_) | (guard_target = CallN _ 118 _ _ _ _; refine CallN.gen [] _ _ _ rfl (c1) rfl rfl _ rfl ?_) | (guard_target = CallN _ 118 _ _ _ _; refine CallN.gen [] _ _ _ rfl (c2) rfl rfl _ rfl ?_) | (guard_target = CallN _ 163 _ _ _ _; refine CallN.pure _ _ rfl (c3) rfl _ rfl ?_) | (guard_target = CallN _ 164 _ _ _ _; refine CallN.gen [] _ _ _ rfl (c4) rfl rfl _ rfl ?_) | (guard_target = CallN _ 85 _ _ _ _; refine CallN.gen [] _ _ _ rfl (c5) rfl rfl _ rfl ?_) | (guard_target = Gh _ _ _ _ _; refine Gh.frzp 3 (toldE Q) rfl (Gh.go ?_)) | (guard_target = Index _ _ _; first | refine Index.mk _ (rfl) ?_ | refine Index.mk _ (idx_map (by omega)) ?_) | (guard_target = Need (_ = true) _; refine Need.mk (by first | kernel_rfl | rfl) ?_) | (guard_target = LinkV _ _ _; refine LinkV.no ?_) | (guard_target = GhO _ _ _ _; refine GhO.go ?_) | (guard_target = Need _ _; refine Need.mk (by first  | omega | (simp only [List.length_map]; omega)) ?_))
      all_goals first | rfl | trivial | (rw [← hR, if_pos (by omega)]; done) | (rw [← hR, if_neg (by omega)]; done)
    · rw [if_pos (by cases o1 <;> cases o2 <;> simp_all)] at hR
      subst hR
      refine callX_of_vc htb hm Tryz.func118 rfl rfl rfl rfl (ann := fun _ => none) (gh := fun reg_ => match reg_ with | 31 => true | _ => false) ?_
      repeat' ((conv => whnf); first | (guard_target = RetX _ _; refine RetX.mk ?_ ?_) | (guard_target = Branch _ _ _; (first | apply Branch.dec | apply Branch.beq | apply Branch.bne | apply Branch.ndec | apply Branch.nb | apply Branch.mk) <;> intro h <;> (try simp only [List.length_map] at h) <;> (try omega) <;> (try contradiction)) | (guard_target = CallN _ 83 _ _ _ _; refine CallN.gen [] _ _ _ rfl (zero_tt) rfl rfl _ rfl ?_) | (guard_target = CallN _ 118 _ _ _ _; refine CallN.gen [] _ _ _ rfl (c1) rfl rfl _ rfl ?_) | (guard_target = CallN _ 118 _ _ _ _; refine CallN.gen [] _ _ _ rfl (c2) rfl rfl _ rfl ?_) | (guard_target = Index _ _ _; first | refine Index.mk _ (rfl) ?_ | refine Index.mk _ (idx_map (by omega)) ?_) | (guard_target = Need (_ = true) _; refine Need.mk (by first | kernel_rfl | rfl) ?_) | (guard_target = LinkV _ _ _; refine LinkV.no ?_) | (guard_target = GhO _ _ _ _; refine GhO.go ?_) | (guard_target = Need _ _; refine Need.mk (by first  | omega | (simp only [List.length_map]; omega)) ?_))
      all_goals first | rfl | trivial | (exfalso; simp_all; done)
  | @dot x y hx hy ih1 ih2 =>
    intro hn
    rw [nod2] at hn
    have c1 := ih1 (by omega)
    have c2 := ih2 (by omega)
    have k1 := step_keeps hx p c
    have k2 := step_keeps hy p c
    have ce := l02Empty_ok ht hx p
    have e0 : toldE (.mk 7 0 [x, y]) = [J 7, J 0, .ro 3 [toldE x, toldE y]] := by rw [← toldE_e x, ← toldE_e y]; rfl
    rw [step_dot, e0]
    generalize stepE x p c = A at c1 k1 ⊢
    generalize stepE y p c = C at c2 k2 ⊢
    generalize emptyE x p = em at ce ⊢
    obtain ⟨X, o1⟩ := A
    obtain ⟨Y, o2⟩ := C
    simp only [] at c1 c2 k1 k2 ⊢
    cases o1 with
    | false =>
      rw [if_pos rfl]
      refine callX_of_vc htb hm Tryz.func118 rfl rfl rfl rfl (ann := fun _ => none) (gh := fun reg_ => match reg_ with | 31 => true | _ => false) ?_
      repeat' ((conv => whnf); first | (guard_target = RetX _ _; refine RetX.mk ?_ ?_) | (guard_target = Branch _ _ _; (first | apply Branch.dec | apply Branch.beq | apply Branch.bne | apply Branch.ndec | apply Branch.nb | apply Branch.mk) <;> intro h <;> (try simp only [List.length_map] at h) <;> (try omega) <;> (try contradiction)) | (guard_target = CallN _ 83 _ _ _ _; refine CallN.gen [] _ _ _ rfl (zero_tt) rfl rfl _ rfl ?_) | (guard_target = CallN _ 118 _ _ _ _; refine CallN.gen [] _ _ _ rfl (c1) rfl rfl _ rfl ?_) | (guard_target = Index _ _ _; first | refine Index.mk _ (rfl) ?_ | refine Index.mk _ (idx_map (by omega)) ?_) | (guard_target = Need (_ = true) _; refine Need.mk (by first | kernel_rfl | rfl) ?_) | (guard_target = LinkV _ _ _; refine LinkV.no ?_) | (guard_target = GhO _ _ _ _; refine GhO.go ?_) | (guard_target = Need _ _; refine Need.mk (by first  | omega | (simp only [List.length_map]; omega)) ?_))
      all_goals first | rfl | trivial
    | true =>
      have k1 := And.intro k1.1 (k1.2 rfl)
      have hp := pair_nod 7 X y
      have c5 := pair_tt 7 X y
      have hT : Tree t a (pairX 7 X y) := .dot k1.1 hy
      rw [if_neg (by simp)]
      generalize pairX 7 X y = Q at c5 hp hT ⊢
      cases em with
      | false =>
        have c3 := size_tt Q (by omega)
        have c4 := l02Tidy_ok ht ha2 hT (by omega)
        rw [if_neg (by simp)]
        obtain ⟨R, hR⟩ : ∃ R, finE Q = R := ⟨_, rfl⟩
        rw [hR]
        unfold finE at hR
        generalize tidyE Q = Z at c4 hR
        refine callX_of_vc htb hm Tryz.func118 rfl rfl rfl rfl (ann := fun _ => none) (gh := fun reg_ => match reg_ with | 31 => true | _ => false) ?_
        repeat' ((conv => whnf); first | (guard_target = RetX _ _; refine RetX.mk ?_ ?_) | (guard_target = Branch _ _ _; (first | apply Branch.dec | apply Branch.beq | apply Branch.bne | apply Branch.ndec | apply Branch.nb | apply Branch.mk) <;> intro h <;> (try simp only [List.length_map] at h) <;> (try omega) <;> (try contradiction)) | (guard_target = CallN _ 83 _ _ _ _; refine CallN.gen [] _ _ _ rfl (zero_tt) rfl rfl _ rfl ?_) | (guard_target = CallN _ 118 _ _ _ _; refine CallN.gen [] _ _ _ rfl (c1) rfl rfl _ rfl ?_) | (guard_target = CallN _ 117 _ _ _ _; refine CallN.pure _ _ rfl (ce) rfl _ rfl ?_) | (guard_target = CallN _ 163 _ _ _ _; refine CallN.pure _ _ rfl (c3) rfl _ rfl ?_) | (guard_target = CallN _ 164 _ _ _ _; refine CallN.gen [] _ _ _ rfl (c4) rfl rfl _ rfl ?_) | (guard_target = CallN _ 85 _ _ _ _; refine CallN.gen [] _ _ _ rfl (c5) rfl rfl _ rfl ?_) | (guard_target = Gh _ _ _ _ _; refine Gh.frzp 3 (toldE Q) rfl (Gh.go ?_)) | (guard_target = Index _ _ _; first | refine Index.mk _ (rfl) ?_ | refine Index.mk _ (idx_map (by omega)) ?_) | (guard_target = Need (_ = true) _; refine Need.mk (by first | kernel_rfl | rfl) ?_) | (guard_target = LinkV _ _ _; refine LinkV.no ?_) | (guard_target = GhO _ _ _ _; refine GhO.go ?_) | (guard_target = Need _ _; refine Need.mk (by first  | omega | (simp only [List.length_map]; omega)) ?_))
        all_goals first | rfl | trivial | (rw [← hR, if_pos (by omega)]; done) | (rw [← hR, if_neg (by omega)]; done)
      | true =>
        rw [if_pos rfl]
        cases o2 with
        | false =>
          rw [if_pos rfl]
          refine callX_of_vc htb hm Tryz.func118 rfl rfl rfl rfl (ann := fun _ => none) (gh := fun reg_ => match reg_ with | 31 => true | _ => false) ?_
          repeat' ((conv => whnf); first | (guard_target = RetX _ _; refine RetX.mk ?_ ?_) | (guard_target = Branch _ _ _; (first | apply Branch.dec | apply Branch.beq | apply Branch.bne | apply Branch.ndec | apply Branch.nb | apply Branch.mk) <;> intro h <;> (try simp only [List.length_map] at h) <;> (try omega) <;> (try contradiction)) | (guard_target = CallN _ 83 _ _ _ _; refine CallN.gen [] _ _ _ rfl (zero_tt) rfl rfl _ rfl ?_) | (guard_target = CallN _ 118 _ _ _ _; refine CallN.gen [] _ _ _ rfl (c1) rfl rfl _ rfl ?_) | (guard_target = CallN _ 118 _ _ _ _; refine CallN.gen [] _ _ _ rfl (c2) rfl rfl _ rfl ?_) | (guard_target = CallN _ 117 _ _ _ _; refine CallN.pure _ _ rfl (ce) rfl _ rfl ?_) | (guard_target = CallN _ 85 _ _ _ _; refine CallN.gen [] _ _ _ rfl (c5) rfl rfl _ rfl ?_) | (guard_target = Index _ _ _; first | refine Index.mk _ (rfl) ?_ | refine Index.mk _ (idx_map (by omega)) ?_) | (guard_target = Need (_ = true) _; refine Need.mk (by first | kernel_rfl | rfl) ?_) | (guard_target = LinkV _ _ _; refine LinkV.no ?_) | (guard_target = GhO _ _ _ _; refine GhO.go ?_) | (guard_target = Need _ _; refine Need.mk (by first  | omega | (simp only [List.length_map]; omega)) ?_))
          all_goals first | rfl | trivial
        | true =>
          have k2 := And.intro k2.1 (k2.2 rfl)
          rw [if_neg (by simp)]
          have hp2 := pair_nod 6 Q Y
          have c3 := size_tt (pairX 6 Q Y) (by omega)
          have c4 := l02Tidy_ok ht ha2 (e := pairX 6 Q Y) (.sum hT k2.1) (by omega)
          have c6 := pair_tt 6 Q Y
          obtain ⟨R, hR⟩ : ∃ R, finE (pairX 6 Q Y) = R := ⟨_, rfl⟩
          rw [hR]
          unfold finE at hR
          generalize pairX 6 Q Y = P at c3 c4 c6 hR
          generalize tidyE P = Z at c4 hR
          refine callX_of_vc htb hm Tryz.func118 rfl rfl rfl rfl (ann := fun _ => none) (gh := fun reg_ => match reg_ with | 31 => true | _ => false) ?_
          repeat' ((conv => whnf); first | (guard_target = RetX _ _; refine RetX.mk ?_ ?_) | (guard_target = Branch _ _ _; (first | apply Branch.dec | apply Branch.beq | apply Branch.bne | apply Branch.ndec | apply Branch.nb | apply Branch.mk) <;> intro h <;> (try simp only [List.length_map] at h) <;> (try omega) <;> (try contradiction)) | (guard_target = CallN _ 83 _ _ _ _; refine CallN.gen [] _ _ _ rfl (zero_tt) rfl rfl _ rfl ?_) | (guard_target = CallN _ 118 _ _ _ _; refine CallN.gen [] _ _ _ rfl (c1) rfl rfl _ rfl ?_) | (guard_target = CallN _ 118 _ _ _ _; refine CallN.gen [] _ _ _ rfl (c2) rfl rfl _ rfl ?_) | (guard_target = CallN _ 117 _ _ _ _; refine CallN.pure _ _ rfl (ce) rfl _ rfl ?_) | (guard_target = CallN _ 163 _ _ _ _; refine CallN.pure _ _ rfl (c3) rfl _ rfl ?_) | (guard_target = CallN _ 164 _ _ _ _; refine CallN.gen [] _ _ _ rfl (c4) rfl rfl _ rfl ?_) | (guard_target = CallN _ 85 _ _ _ _; refine CallN.gen [] _ _ _ rfl (c5) rfl rfl _ rfl ?_) | (guard_target = CallN _ 85 _ _ _ _; refine CallN.gen [] _ _ _ rfl (c6) rfl rfl _ rfl ?_) | (guard_target = Gh _ _ _ _ _; refine Gh.frzp 3 (toldE P) rfl (Gh.go ?_)) | (guard_target = Index _ _ _; first | refine Index.mk _ (rfl) ?_ | refine Index.mk _ (idx_map (by omega)) ?_) | (guard_target = Need (_ = true) _; refine Need.mk (by first | kernel_rfl | rfl) ?_) | (guard_target = LinkV _ _ _; refine LinkV.no ?_) | (guard_target = GhO _ _ _ _; refine GhO.go ?_) | (guard_target = Need _ _; refine Need.mk (by first  | omega | (simp only [List.length_map]; omega)) ?_))
          all_goals first | rfl | trivial | (rw [← hR, if_pos (by omega)]; done) | (rw [← hR, if_neg (by omega)]; done)
  | @star x hx ih =>
    intro hn
    rw [nod1] at hn
    have c1 := ih (by omega)
    have k1 := step_keeps hx p c
    have e0 : toldE (.mk 8 0 [x]) = [J 8, J 0, .ro 3 [toldE x]] := by rw [← toldE_e x]; rfl
    have c5 := fun X => pair_tt 7 X (.mk 8 0 [x])
    have hn1 := nod1 8 0 x
    rw [e0] at c5
    rw [step_star, e0]
    generalize stepE x p c = A at c1 k1 ⊢
    obtain ⟨X, o1⟩ := A
    simp only [] at c1 k1 ⊢
    cases o1 with
    | false =>
      rw [if_pos rfl]
      refine callX_of_vc htb hm Tryz.func118 rfl rfl rfl rfl (ann := fun _ => none) (gh := fun reg_ => match reg_ with | 31 => true | _ => false) ?_
      repeat' ((conv => whnf); first | (guard_target = RetX _ _; refine RetX.mk ?_ ?_) | (guard_target = Branch _ _ _; (first | apply Branch.dec | apply Branch.beq | apply Branch.bne | apply Branch.ndec | apply Branch.nb | apply Branch.mk) <;> intro h <;> (try simp only [List.length_map] at h) <;> (try omega) <;> (try contradiction)) | (guard_target = CallN _ 83 _ _ _ _; refine CallN.gen [] _ _ _ rfl (zero_tt) rfl rfl _ rfl ?_) | (guard_target = CallN _ 118 _ _ _ _; refine CallN.gen [] _ _ _ rfl (c1) rfl rfl _ rfl ?_) | (guard_target = Index _ _ _; first | refine Index.mk _ (rfl) ?_ | refine Index.mk _ (idx_map (by omega)) ?_) | (guard_target = Need (_ = true) _; refine Need.mk (by first | kernel_rfl | rfl) ?_) | (guard_target = LinkV _ _ _; refine LinkV.no ?_) | (guard_target = GhO _ _ _ _; refine GhO.go ?_) | (guard_target = Need _ _; refine Need.mk (by first  | omega | (simp only [List.length_map]; omega)) ?_))
      all_goals first | rfl | trivial
    | true =>
      have k1 := And.intro k1.1 (k1.2 rfl)
      have hp := pair_nod 7 X (.mk 8 0 [x])
      have c5 := c5 X
      have hT : Tree t a (pairX 7 X (.mk 8 0 [x])) := .dot k1.1 (.star hx)
      rw [if_neg (by simp)]
      generalize pairX 7 X (.mk 8 0 [x]) = Q at c5 hp hT ⊢
      have c3 := size_tt Q (by omega)
      have c4 := l02Tidy_ok ht ha2 hT (by omega)
      obtain ⟨R, hR⟩ : ∃ R, finE Q = R := ⟨_, rfl⟩
      rw [hR]
      unfold finE at hR
      generalize tidyE Q = Z at c4 hR
      refine callX_of_vc htb hm Tryz.func118 rfl rfl rfl rfl (ann := fun _ => none) (gh := fun reg_ => match reg_ with | 31 => true | _ => false) ?_
      repeat' ((conv => whnf); first | (guard_target = RetX _ _; refine RetX.mk ?_ ?_) | (guard_target = Branch _ _ _; (first | apply Branch.dec | apply Branch.beq | apply Branch.bne | apply Branch.ndec | apply Branch.nb | apply Branch.mk) <;> intro h <;> (try simp only [List.length_map] at h) <;> (try omega) <;> (try contradiction)) | (guard_target = CallN _ 83 _ _ _ _; refine CallN.gen [] _ _ _ rfl (zero_tt) rfl rfl _ rfl ?_) | (guard_target = CallN _ 118 _ _ _ _; refine CallN.gen [] _ _ _ rfl (c1) rfl rfl _ rfl ?_) | (guard_target = CallN _ 163 _ _ _ _; refine CallN.pure _ _ rfl (c3) rfl _ rfl ?_) | (guard_target = CallN _ 164 _ _ _ _; refine CallN.gen [] _ _ _ rfl (c4) rfl rfl _ rfl ?_) | (guard_target = CallN _ 85 _ _ _ _; refine CallN.gen [] _ _ _ rfl (c5) rfl rfl _ rfl ?_) | (guard_target = Gh _ _ _ _ _; refine Gh.frzp 3 (toldE Q) rfl (Gh.go ?_)) | (guard_target = Index _ _ _; first | refine Index.mk _ (rfl) ?_ | refine Index.mk _ (idx_map (by omega)) ?_) | (guard_target = Need (_ = true) _; refine Need.mk (by first | kernel_rfl | rfl) ?_) | (guard_target = LinkV _ _ _; refine LinkV.no ?_) | (guard_target = GhO _ _ _ _; refine GhO.go ?_) | (guard_target = Need _ _; refine Need.mk (by first  | omega | (simp only [List.length_map]; omega)) ?_))
      all_goals first | rfl | trivial | (rw [← hR, if_pos (by omega)]; done) | (rw [← hR, if_neg (by omega)]; done)
theorem l02Step_lent {e : XExpr} (h : Tree t a e) (p c : Int) : nod e ≤ 80000 → CallX Tryz.prog 118 [.c (.op (toldE e)), I p, I c] [some [.op (toldE e)], none, none] (.tup [.a 3 (toldE (stepE e p c).1), B (stepE e p c).2]) := by
  have leaf : ∀ {k n : Int} {ks : List XExpr}, ¬ k = 4 → ¬ k = 6 → ¬ k = 7 → ¬ k = 8 → stepE (.mk k n ks) p c = (.mk 1 0 [], true) → CallX Tryz.prog 118 [.c (.op (toldE (.mk k n ks))), I p, I c] [some [.op (toldE (.mk k n ks))], none, none] (.tup [.a 3 (toldE (stepE (.mk k n ks) p c).1), B (stepE (.mk k n ks) p c).2]) := by
    intro k n ks h4 h6 h7 h8 e
    rw [e]
    refine callX_of_vc htb hm Tryz.func118 rfl rfl rfl rfl (ann := fun _ => none) (gh := fun _ => false) ?_
    repeat' ((conv => whnf); first | (guard_target = RetX _ _; refine RetX.mk ?_ ?_) | (guard_target = Branch _ _ _; (first | apply Branch.dec | apply Branch.beq | apply Branch.bne | apply Branch.ndec | apply Branch.nb | apply Branch.mk) <;> intro h <;> (try simp only [List.length_map] at h) <;> (try omega) <;> (try contradiction)) | (guard_target = CallN _ 83 _ _ _ _; refine CallN.gen [] _ _ _ rfl (zero_tt) rfl rfl _ rfl ?_) | (guard_target = Index _ _ _; first  | refine Index.mk _ (idx_map (by omega)) ?_) | (guard_target = Need (_ = true) _; refine Need.mk (by first | kernel_rfl | rfl) ?_) | (guard_target = LinkV _ _ _; refine LinkV.no ?_) | (guard_target = GhO _ _ _ _; refine GhO.go ?_) | (guard_target = Need _ _; refine Need.mk (by first  | omega | (simp only [List.length_map]; omega)) ?_))
    all_goals first | rfl | exact ⟨rfl, trivial⟩ | trivial
  induction h with
  | zero => exact fun _ => leaf (by decide) (by decide) (by decide) (by decide) (step_nil _ _ _ (by decide))
  | one => exact fun _ => leaf (by decide) (by decide) (by decide) (by decide) (step_nil _ _ _ (by decide))
  | test h0 h1 => exact fun _ => leaf (by decide) (by decide) (by decide) (by decide) (step_nil _ _ _ (by decide))
  | @act n h0 h1 =>
    intro hn
    rw [step_act]
    obtain ⟨R, hR⟩ : ∃ R, (if n = c then ((XExpr.mk 2 0 [], true) : XExpr × Bool) else (.mk 1 0 [], true)) = R := ⟨_, rfl⟩
    rw [hR]
    refine callX_of_vc htb hm Tryz.func118 rfl rfl rfl rfl (ann := fun _ => none) (gh := fun _ => false) ?_
    repeat' ((conv => whnf); first | (guard_target = RetX _ _; refine RetX.mk ?_ ?_) | (guard_target = Branch _ _ _; (first | apply Branch.dec | apply Branch.beq | apply Branch.bne | apply Branch.ndec | apply Branch.nb | apply Branch.mk) <;> intro h <;> (try simp only [List.length_map] at h) <;> (try omega) <;> (try contradiction)) | (guard_target = CallN _ 83 _ _ _ _; refine CallN.gen [] _ _ _ rfl (zero_tt) rfl rfl _ rfl ?_) | (guard_target = CallN _ 63 _ _ _ _; refine CallN.gen [] _ _ _ rfl (one_tt) rfl rfl _ rfl ?_) | (guard_target = Index _ _ _; first  | refine Index.mk _ (idx_map (by omega)) ?_) | (guard_target = Need (_ = true) _; refine Need.mk (by first | kernel_rfl | rfl) ?_) | (guard_target = LinkV _ _ _; refine LinkV.no ?_) | (guard_target = GhO _ _ _ _; refine GhO.go ?_) | (guard_target = Need _ _; refine Need.mk (by first  | omega | (simp only [List.length_map]; omega)) ?_))
    all_goals first | rfl | exact ⟨rfl, trivial⟩ | trivial | (rw [← hR, if_pos (by assumption)]; done) | (rw [← hR, if_neg (by assumption)]; done)
  | not hc h => exact fun _ => leaf (by decide) (by decide) (by decide) (by decide) (step_not _ _ _ _)
  | @sum x y hx hy ih1 ih2 =>
    intro hn
    rw [nod2] at hn
    have c1 := l02Step_ok ht ha2 hx p c (by omega)
    have c2 := l02Step_ok ht ha2 hy p c (by omega)
    have k1 := step_keeps hx p c
    have k2 := step_keeps hy p c
    have e0 : toldE (.mk 6 0 [x, y]) = [J 6, J 0, .ro 3 [toldE x, toldE y]] := by rw [← toldE_e x, ← toldE_e y]; rfl
    rw [step_sum, e0]
    generalize stepE x p c = A at c1 k1 ⊢
    generalize stepE y p c = C at c2 k2 ⊢
    obtain ⟨X, o1⟩ := A
    obtain ⟨Y, o2⟩ := C
    simp only [] at c1 c2 k1 k2 ⊢
    obtain ⟨R, hR⟩ : ∃ R, (if (!o1 || !o2) = true then ((XExpr.mk 1 0 [], false) : XExpr × Bool) else finE (pairX 6 X Y)) = R := ⟨_, rfl⟩
    rw [hR]
    by_cases ho : o1 = true ∧ o2 = true
    · obtain ⟨rfl, rfl⟩ := ho
      have k1 := And.intro k1.1 (k1.2 rfl)
      have k2 := And.intro k2.1 (k2.2 rfl)
      have hp := pair_nod 6 X Y
      have c3 := size_tt (pairX 6 X Y) (by omega)
      have c4 := l02Tidy_ok ht ha2 (e := pairX 6 X Y) (.sum k1.1 k2.1) (by omega)
      have c5 := pair_tt 6 X Y
      rw [if_neg (by simp)] at hR
      unfold finE at hR
      generalize pairX 6 X Y = Q at c3 c4 c5 hR
      generalize tidyE Q = Z at c4 hR
      refine callX_of_vc htb hm Tryz.func118 rfl rfl rfl rfl (ann := fun _ => none) (gh := fun reg_ => match reg_ with | 31 => true | _ => false) ?_
      repeat' ((conv => whnf); first | (guard_target = RetX _ _; refine RetX.mk ?_ ?_) | (guard_target = Branch _ _ _; (first | apply Branch.dec | apply Branch.beq | apply Branch.bne | apply Branch.ndec | apply Branch.nb | apply Branch.mk) <;> intro h <;> (try simp only [List.length_map] at h) <;> (try omega) <;> (try contradiction)) | (guard_target = CallN _ 83 _ _ _ _; refine CallN.gen [] _ _ _ rfl (zero_tt) rfl rfl _ rfl ?_) | (guard_target = CallN _ 118 _ _ _ _; refine CallN.gen [] _ _ _ rfl (c1) rfl rfl _ rfl ?_) | (guard_target = CallN _ 118 _ _ _ _; refine CallN.gen [] _ _ _ rfl (c2) rfl rfl _ rfl ?_) | (guard_target = CallN _ 163 _ _ _ _; refine CallN.pure _ _ rfl (c3) rfl _ rfl ?_) | (guard_target = CallN _ 164 _ _ _ _; refine CallN.gen [] _ _ _ rfl (c4) rfl rfl _ rfl ?_) | (guard_target = CallN _ 85 _ _ _ _; refine CallN.gen [] _ _ _ rfl (c5) rfl rfl _ rfl ?_) | (guard_target = Gh _ _ _ _ _; refine Gh.frzp 4 (toldE Q) rfl (Gh.go ?_)) | (guard_target = Index _ _ _; first | refine Index.mk _ (rfl) ?_ | refine Index.mk _ (idx_map (by omega)) ?_) | (guard_target = Need (_ = true) _; refine Need.mk (by first | kernel_rfl | rfl) ?_) | (guard_target = LinkV _ _ _; refine LinkV.no ?_) | (guard_target = GhO _ _ _ _; refine GhO.go ?_) | (guard_target = Need _ _; refine Need.mk (by first  | omega | (simp only [List.length_map]; omega)) ?_))
      all_goals first | rfl | exact ⟨rfl, trivial⟩ | trivial | (rw [← hR, if_pos (by omega)]; done) | (rw [← hR, if_neg (by omega)]; done)
    · rw [if_pos (by cases o1 <;> cases o2 <;> simp_all)] at hR
      subst hR
      refine callX_of_vc htb hm Tryz.func118 rfl rfl rfl rfl (ann := fun _ => none) (gh := fun reg_ => match reg_ with | 31 => true | _ => false) ?_
      repeat' ((conv => whnf); first | (guard_target = RetX _ _; refine RetX.mk ?_ ?_) | (guard_target = Branch _ _ _; (first | apply Branch.dec | apply Branch.beq | apply Branch.bne | apply Branch.ndec | apply Branch.nb | apply Branch.mk) <;> intro h <;> (try simp only [List.length_map] at h) <;> (try omega) <;> (try contradiction)) | (guard_target = CallN _ 83 _ _ _ _; refine CallN.gen [] _ _ _ rfl (zero_tt) rfl rfl _ rfl ?_) | (guard_target = CallN _ 118 _ _ _ _; refine CallN.gen [] _ _ _ rfl (c1) rfl rfl _ rfl ?_) | (guard_target = CallN _ 118 _ _ _ _; refine CallN.gen [] _ _ _ rfl (c2) rfl rfl _ rfl ?_) | (guard_target = Index _ _ _; first | refine Index.mk _ (rfl) ?_ | refine Index.mk _ (idx_map (by omega)) ?_) | (guard_target = Need (_ = true) _; refine Need.mk (by first | kernel_rfl | rfl) ?_) | (guard_target = LinkV _ _ _; refine LinkV.no ?_) | (guard_target = GhO _ _ _ _; refine GhO.go ?_) | (guard_target = Need _ _; refine Need.mk (by first  | omega | (simp only [List.length_map]; omega)) ?_))
      all_goals first | rfl | exact ⟨rfl, trivial⟩ | trivial | (exfalso; simp_all; done)
  | @dot x y hx hy ih1 ih2 =>
    intro hn
    rw [nod2] at hn
    have c1 := l02Step_ok ht ha2 hx p c (by omega)
    have c2 := l02Step_ok ht ha2 hy p c (by omega)
    have k1 := step_keeps hx p c
    have k2 := step_keeps hy p c
    have ce := l02Empty_ok ht hx p
    have e0 : toldE (.mk 7 0 [x, y]) = [J 7, J 0, .ro 3 [toldE x, toldE y]] := by rw [← toldE_e x, ← toldE_e y]; rfl
    rw [step_dot, e0]
    generalize stepE x p c = A at c1 k1 ⊢
    generalize stepE y p c = C at c2 k2 ⊢
    generalize emptyE x p = em at ce ⊢
    obtain ⟨X, o1⟩ := A
    obtain ⟨Y, o2⟩ := C
    simp only [] at c1 c2 k1 k2 ⊢
    cases o1 with
    | false =>
      rw [if_pos rfl]
      refine callX_of_vc htb hm Tryz.func118 rfl rfl rfl rfl (ann := fun _ => none) (gh := fun reg_ => match reg_ with | 31 => true | _ => false) ?_
      repeat' ((conv => whnf); first | (guard_target = RetX _ _; refine RetX.mk ?_ ?_) | (guard_target = Branch _ _ _; (first | apply Branch.dec | apply Branch.beq | apply Branch.bne | apply Branch.ndec | apply Branch.nb | apply Branch.mk) <;> intro h <;> (try simp only [List.length_map] at h) <;> (try omega) <;> (try contradiction)) | (guard_target = CallN _ 83 _ _ _ _; refine CallN.gen [] _ _ _ rfl (zero_tt) rfl rfl _ rfl ?_) | (guard_target = CallN _ 118 _ _ _ _; refine CallN.gen [] _ _ _ rfl (c1) rfl rfl _ rfl ?_) | (guard_target = Index _ _ _; first | refine Index.mk _ (rfl) ?_ | refine Index.mk _ (idx_map (by omega)) ?_) | (guard_target = Need (_ = true) _; refine Need.mk (by first | kernel_rfl | rfl) ?_) | (guard_target = LinkV _ _ _; refine LinkV.no ?_) | (guard_target = GhO _ _ _ _; refine GhO.go ?_) | (guard_target = Need _ _; refine Need.mk (by first  | omega | (simp only [List.length_map]; omega)) ?_))
      all_goals first | rfl | exact ⟨rfl, trivial⟩ | trivial
    | true =>
      have k1 := And.intro k1.1 (k1.2 rfl)
      have hp := pair_nod 7 X y
      have c5 := pair_tt 7 X y
      have hT : Tree t a (pairX 7 X y) := .dot k1.1 hy
      rw [if_neg (by simp)]
      generalize pairX 7 X y = Q at c5 hp hT ⊢
      cases em with
      | false =>
        have c3 := size_tt Q (by omega)
        have c4 := l02Tidy_ok ht ha2 hT (by omega)
        rw [if_neg (by simp)]
        obtain ⟨R, hR⟩ : ∃ R, finE Q = R := ⟨_, rfl⟩
        rw [hR]
        unfold finE at hR
        generalize tidyE Q = Z at c4 hR
        refine callX_of_vc htb hm Tryz.func118 rfl rfl rfl rfl (ann := fun _ => none) (gh := fun reg_ => match reg_ with | 31 => true | _ => false) ?_
        repeat' ((conv => whnf); first | (guard_target = RetX _ _; refine RetX.mk ?_ ?_) | (guard_target = Branch _ _ _; (first | apply Branch.dec | apply Branch.beq | apply Branch.bne | apply Branch.ndec | apply Branch.nb | apply Branch.mk) <;> intro h <;> (try simp only [List.length_map] at h) <;> (try omega) <;> (try contradiction)) | (guard_target = CallN _ 83 _ _ _ _; refine CallN.gen [] _ _ _ rfl (zero_tt) rfl rfl _ rfl ?_) | (guard_target = CallN _ 118 _ _ _ _; refine CallN.gen [] _ _ _ rfl (c1) rfl rfl _ rfl ?_) | (guard_target = CallN _ 117 _ _ _ _; refine CallN.pure _ _ rfl (ce) rfl _ rfl ?_) | (guard_target = CallN _ 163 _ _ _ _; refine CallN.pure _ _ rfl (c3) rfl _ rfl ?_) | (guard_target = CallN _ 164 _ _ _ _; refine CallN.gen [] _ _ _ rfl (c4) rfl rfl _ rfl ?_) | (guard_target = CallN _ 85 _ _ _ _; refine CallN.gen [] _ _ _ rfl (c5) rfl rfl _ rfl ?_) | (guard_target = Gh _ _ _ _ _; refine Gh.frzp 4 (toldE Q) rfl (Gh.go ?_)) | (guard_target = Index _ _ _; first | refine Index.mk _ (rfl) ?_ | refine Index.mk _ (idx_map (by omega)) ?_) | (guard_target = Need (_ = true) _; refine Need.mk (by first | kernel_rfl | rfl) ?_) | (guard_target = LinkV _ _ _; refine LinkV.no ?_) | (guard_target = GhO _ _ _ _; refine GhO.go ?_) | (guard_target = Need _ _; refine Need.mk (by first  | omega | (simp only [List.length_map]; omega)) ?_))
        all_goals first | rfl | exact ⟨rfl, trivial⟩ | trivial | (rw [← hR, if_pos (by omega)]; done) | (rw [← hR, if_neg (by omega)]; done)
      | true =>
        rw [if_pos rfl]
        cases o2 with
        | false =>
          rw [if_pos rfl]
          refine callX_of_vc htb hm Tryz.func118 rfl rfl rfl rfl (ann := fun _ => none) (gh := fun reg_ => match reg_ with | 31 => true | _ => false) ?_
          repeat' ((conv => whnf); first | (guard_target = RetX _ _; refine RetX.mk ?_ ?_) | (guard_target = Branch _ _ _; (first | apply Branch.dec | apply Branch.beq | apply Branch.bne | apply Branch.ndec | apply Branch.nb | apply Branch.mk) <;> intro h <;> (try simp only [List.length_map] at h) <;> (try omega) <;> (try contradiction)) | (guard_target = CallN _ 83 _ _ _ _; refine CallN.gen [] _ _ _ rfl (zero_tt) rfl rfl _ rfl ?_) | (guard_target = CallN _ 118 _ _ _ _; refine CallN.gen [] _ _ _ rfl (c1) rfl rfl _ rfl ?_) | (guard_target = CallN _ 118 _ _ _ _; refine CallN.gen [] _ _ _ rfl (c2) rfl rfl _ rfl ?_) | (guard_target = CallN _ 117 _ _ _ _; refine CallN.pure _ _ rfl (ce) rfl _ rfl ?_) | (guard_target = CallN _ 85 _ _ _ _; refine CallN.gen [] _ _ _ rfl (c5) rfl rfl _ rfl ?_) | (guard_target = Index _ _ _; first | refine Index.mk _ (rfl) ?_ | refine Index.mk _ (idx_map (by omega)) ?_) | (guard_target = Need (_ = true) _; refine Need.mk (by first | kernel_rfl | rfl) ?_) | (guard_target = LinkV _ _ _; refine LinkV.no ?_) | (guard_target = GhO _ _ _ _; refine GhO.go ?_) | (guard_target = Need _ _; refine Need.mk (by first  | omega | (simp only [List.length_map]; omega)) ?_))
          all_goals first | rfl | exact ⟨rfl, trivial⟩ | trivial
        | true =>
          have k2 := And.intro k2.1 (k2.2 rfl)
          rw [if_neg (by simp)]
          have hp2 := pair_nod 6 Q Y
          have c3 := size_tt (pairX 6 Q Y) (by omega)
          have c4 := l02Tidy_ok ht ha2 (e := pairX 6 Q Y) (.sum hT k2.1) (by omega)
          have c6 := pair_tt 6 Q Y
          obtain ⟨R, hR⟩ : ∃ R, finE (pairX 6 Q Y) = R := ⟨_, rfl⟩
          rw [hR]
          unfold finE at hR
          generalize pairX 6 Q Y = P at c3 c4 c6 hR
          generalize tidyE P = Z at c4 hR
          refine callX_of_vc htb hm Tryz.func118 rfl rfl rfl rfl (ann := fun _ => none) (gh := fun reg_ => match reg_ with | 31 => true | _ => false) ?_
          repeat' ((conv => whnf); first | (guard_target = RetX _ _; refine RetX.mk ?_ ?_) | (guard_target = Branch _ _ _; (first | apply Branch.dec | apply Branch.beq | apply Branch.bne | apply Branch.ndec | apply Branch.nb | apply Branch.mk) <;> intro h <;> (try simp only [List.length_map] at h) <;> (try omega) <;> (try contradiction)) | (guard_target = CallN _ 83 _ _ _ _; refine CallN.gen [] _ _ _ rfl (zero_tt) rfl rfl _ rfl ?_) | (guard_target = CallN _ 118 _ _ _ _; refine CallN.gen [] _ _ _ rfl (c1) rfl rfl _ rfl ?_) | (guard_target = CallN _ 118 _ _ _ _; refine CallN.gen [] _ _ _ rfl (c2) rfl rfl _ rfl ?_) | (guard_target = CallN _ 117 _ _ _ _; refine CallN.pure _ _ rfl (ce) rfl _ rfl ?_) | (guard_target = CallN _ 163 _ _ _ _; refine CallN.pure _ _ rfl (c3) rfl _ rfl ?_) | (guard_target = CallN _ 164 _ _ _ _; refine CallN.gen [] _ _ _ rfl (c4) rfl rfl _ rfl ?_) | (guard_target = CallN _ 85 _ _ _ _; refine CallN.gen [] _ _ _ rfl (c5) rfl rfl _ rfl ?_) | (guard_target = CallN _ 85 _ _ _ _; refine CallN.gen [] _ _ _ rfl (c6) rfl rfl _ rfl ?_) | (guard_target = Gh _ _ _ _ _; refine Gh.frzp 4 (toldE P) rfl (Gh.go ?_)) | (guard_target = Index _ _ _; first | refine Index.mk _ (rfl) ?_ | refine Index.mk _ (idx_map (by omega)) ?_) | (guard_target = Need (_ = true) _; refine Need.mk (by first | kernel_rfl | rfl) ?_) | (guard_target = LinkV _ _ _; refine LinkV.no ?_) | (guard_target = GhO _ _ _ _; refine GhO.go ?_) | (guard_target = Need _ _; refine Need.mk (by first  | omega | (simp only [List.length_map]; omega)) ?_))
          all_goals first | rfl | exact ⟨rfl, trivial⟩ | trivial | (rw [← hR, if_pos (by omega)]; done) | (rw [← hR, if_neg (by omega)]; done)
  | @star x hx ih =>
    intro hn
    rw [nod1] at hn
    have c1 := l02Step_ok ht ha2 hx p c (by omega)
    have k1 := step_keeps hx p c
    have e0 : toldE (.mk 8 0 [x]) = [J 8, J 0, .ro 3 [toldE x]] := by rw [← toldE_e x]; rfl
    have c5 := fun X => pair_tt 7 X (.mk 8 0 [x])
    have hn1 := nod1 8 0 x
    rw [e0] at c5
    rw [step_star, e0]
    generalize stepE x p c = A at c1 k1 ⊢
    obtain ⟨X, o1⟩ := A
    simp only [] at c1 k1 ⊢
    cases o1 with
    | false =>
      rw [if_pos rfl]
      refine callX_of_vc htb hm Tryz.func118 rfl rfl rfl rfl (ann := fun _ => none) (gh := fun reg_ => match reg_ with | 31 => true | _ => false) ?_
      repeat' ((conv => whnf); first | (guard_target = RetX _ _; refine RetX.mk ?_ ?_) | (guard_target = Branch _ _ _; (first | apply Branch.dec | apply Branch.beq | apply Branch.bne | apply Branch.ndec | apply Branch.nb | apply Branch.mk) <;> intro h <;> (try simp only [List.length_map] at h) <;> (try omega) <;> (try contradiction)) | (guard_target = CallN _ 83 _ _ _ _; refine CallN.gen [] _ _ _ rfl (zero_tt) rfl rfl _ rfl ?_) | (guard_target = CallN _ 118 _ _ _ _; refine CallN.gen [] _ _ _ rfl (c1) rfl rfl _ rfl ?_) | (guard_target = Index _ _ _; first | refine Index.mk _ (rfl) ?_ | refine Index.mk _ (idx_map (by omega)) ?_) | (guard_target = Need (_ = true) _; refine Need.mk (by first | kernel_rfl | rfl) ?_) | (guard_target = LinkV _ _ _; refine LinkV.no ?_) | (guard_target = GhO _ _ _ _; refine GhO.go ?_) | (guard_target = Need _ _; refine Need.mk (by first  | omega | (simp only [List.length_map]; omega)) ?_))
      all_goals first | rfl | exact ⟨rfl, trivial⟩ | trivial
    | true =>
      have k1 := And.intro k1.1 (k1.2 rfl)
      have hp := pair_nod 7 X (.mk 8 0 [x])
      have c5 := c5 X
      have hT : Tree t a (pairX 7 X (.mk 8 0 [x])) := .dot k1.1 (.star hx)
      rw [if_neg (by simp)]
      generalize pairX 7 X (.mk 8 0 [x]) = Q at c5 hp hT ⊢
      have c3 := size_tt Q (by omega)
      have c4 := l02Tidy_ok ht ha2 hT (by omega)
      obtain ⟨R, hR⟩ : ∃ R, finE Q = R := ⟨_, rfl⟩
      rw [hR]
      unfold finE at hR
      generalize tidyE Q = Z at c4 hR
      refine callX_of_vc htb hm Tryz.func118 rfl rfl rfl rfl (ann := fun _ => none) (gh := fun reg_ => match reg_ with | 31 => true | _ => false) ?_
      repeat' ((conv => whnf); first | (guard_target = RetX _ _; refine RetX.mk ?_ ?_) | (guard_target = Branch _ _ _; (first | apply Branch.dec | apply Branch.beq | apply Branch.bne | apply Branch.ndec | apply Branch.nb | apply Branch.mk) <;> intro h <;> (try simp only [List.length_map] at h) <;> (try omega) <;> (try contradiction)) | (guard_target = CallN _ 83 _ _ _ _; refine CallN.gen [] _ _ _ rfl (zero_tt) rfl rfl _ rfl ?_) | (guard_target = CallN _ 118 _ _ _ _; refine CallN.gen [] _ _ _ rfl (c1) rfl rfl _ rfl ?_) | (guard_target = CallN _ 163 _ _ _ _; refine CallN.pure _ _ rfl (c3) rfl _ rfl ?_) | (guard_target = CallN _ 164 _ _ _ _; refine CallN.gen [] _ _ _ rfl (c4) rfl rfl _ rfl ?_) | (guard_target = CallN _ 85 _ _ _ _; refine CallN.gen [] _ _ _ rfl (c5) rfl rfl _ rfl ?_) | (guard_target = Gh _ _ _ _ _; refine Gh.frzp 4 (toldE Q) rfl (Gh.go ?_)) | (guard_target = Index _ _ _; first | refine Index.mk _ (rfl) ?_ | refine Index.mk _ (idx_map (by omega)) ?_) | (guard_target = Need (_ = true) _; refine Need.mk (by first | kernel_rfl | rfl) ?_) | (guard_target = LinkV _ _ _; refine LinkV.no ?_) | (guard_target = GhO _ _ _ _; refine GhO.go ?_) | (guard_target = Need _ _; refine Need.mk (by first  | omega | (simp only [List.length_map]; omega)) ?_))
      all_goals first | rfl | exact ⟨rfl, trivial⟩ | trivial | (rw [← hR, if_pos (by omega)]; done) | (rw [← hR, if_neg (by omega)]; done)
end
end Go.Proofs.YtaajacnceocpoaaGreat
