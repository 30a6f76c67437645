/- Contracts of what a lemma says, of soundness and of the lemma that may stand instead. No conditions but the notes' validity. -/
import Derived.Test.YtbbaadkgmdkjdaaGreatZG
namespace Go.Proofs.YtbbaadkgmdkjdaaGreat
open Go Go.KA Go.Proofs
set_option maxHeartbeats 16000000
set_option maxRecDepth 100000
/-! ### what a lemma says -/
def lastC (e : XEntry) : XClaim := e.proof.claims.getD (e.proof.claims.length - 1) c0
def lemE (e : XEntry) : XEquation := ⟨(lastC e).left, (lastC e).right⟩
theorem idx_last {α : Type} {f : α → List CV} {l : List α} (d : α) (h : 0 < l.length) : (l.map f)[(((l.map f).length : Int) - 1).toNat]? = some (f (l.getD (l.length - 1) d)) := by
  have e : (((l.map f).length : Int) - 1).toNat = l.length - 1 := by rw [List.length_map]; omega
  rw [e]
  exact idx_getD (by omega)
theorem told_ok (e : XEntry) (h : 0 < e.proof.claims.length) : CallF Tryz.prog 84 [.a 5 (encEntry e)] (.a 6 (encEquation (lemE e))) := by
  refine callF_of_vc htb hm Tryz.func84 rfl rfl rfl rfl (ann := fun _ => none) (gh := fun _ => false) ?_
  repeat' ((conv => whnf); first
    | (guard_target = Done _; refine Done.mk ?_; first | (rfl; done) | skip)
    | (guard_target = RetX _ _; refine RetX.mk ?_ ?_)
    | (guard_target = Fact _ _; refine Fact.mk fun hL => ?_; (try simp only [List.length_map, maxLen] at hL))
    | (guard_target = Branch _ _ _; (first | refine Branch.dec (fun h => ?_) (fun h => ?_) | refine Branch.beq (fun h => ?_) (fun h => ?_) | refine Branch.bne (fun h => ?_) (fun h => ?_) | refine Branch.ndec (fun h => ?_) (fun h => ?_) | refine Branch.nb (fun h => ?_) (fun h => ?_) | refine Branch.mk (fun h => ?_) (fun h => ?_)) <;> (try simp only [List.length_map] at h) <;> (try omega) <;> (try contradiction))
    | (guard_target = Arith _ _ _; refine Arith.fit (wrap_fit (by first | omega | (simp only [List.length_map]; omega)) (by first | omega | (simp only [List.length_map]; omega))) ?_)
    | (guard_target = Arith _ _ _; refine Arith.fit (by decide) ?_)
    | (guard_target = Index _ _ _; first | refine Index.mk _ (idx_last c0 h) ?_ | refine Index.mk _ (idx_map (by omega)) ?_)
    | (guard_target = Need (chkDraw _ = true) _; refine Need.mk (by kernel_rfl) ?_)
    | (guard_target = Need (chkRecs _ _ = true) _; refine Need.mk (by first | kernel_rfl | rfl) ?_)
    | (guard_target = Need _ _; refine Need.mk (by first  | omega | (simp only [List.length_map]; omega)) ?_))
theorem l04Claimed_ok (c : XClaim) : CallF Tryz.prog 133 [.c (.rp 9 (encClaim c))] (.a 6 (encEquation ⟨c.left, c.right⟩)) := by
  refine callF_of_vc htb hm Tryz.func133 rfl rfl rfl rfl (ann := fun _ => none) (gh := fun _ => false) ?_
  repeat' ((conv => whnf); first
    | (guard_target = Done _; refine Done.mk ?_; first | (rfl; done) | skip)
    | (guard_target = RetX _ _; refine RetX.mk ?_ ?_)
    | (guard_target = Fact _ _; refine Fact.mk fun hL => ?_; (try simp only [List.length_map, maxLen] at hL))
    | (guard_target = Branch _ _ _; (first | refine Branch.dec (fun h => ?_) (fun h => ?_) | refine Branch.beq (fun h => ?_) (fun h => ?_) | refine Branch.bne (fun h => ?_) (fun h => ?_) | refine Branch.ndec (fun h => ?_) (fun h => ?_) | refine Branch.nb (fun h => ?_) (fun h => ?_) | refine Branch.mk (fun h => ?_) (fun h => ?_)) <;> (try simp only [List.length_map] at h) <;> (try omega) <;> (try contradiction))
    | (guard_target = Arith _ _ _; refine Arith.fit (wrap_fit (by first | omega | (simp only [List.length_map]; omega)) (by first | omega | (simp only [List.length_map]; omega))) ?_)
    | (guard_target = Arith _ _ _; refine Arith.fit (by decide) ?_)
    | (guard_target = Index _ _ _; first  | refine Index.mk _ (idx_map (by omega)) ?_)
    | (guard_target = Need (chkDraw _ = true) _; refine Need.mk (by kernel_rfl) ?_)
    | (guard_target = Need (chkRecs _ _ = true) _; refine Need.mk (by first | kernel_rfl | rfl) ?_)
    | (guard_target = Need _ _; refine Need.mk (by first  | omega | (simp only [List.length_map]; omega)) ?_))
theorem l08Lemma_ok (e : XEntry) (h : 0 < e.proof.claims.length) (hl : e.proof.claims.length ≤ 1000000) : CallF Tryz.prog 91 [.c (.rp 5 (encEntry e))] (.a 6 (encEquation (lemE e))) := by
  refine callF_of_vc htb hm Tryz.func91 rfl rfl rfl rfl (ann := fun _ => none) (gh := fun _ => false) ?_
  repeat' ((conv => whnf); first
    | (guard_target = Done _; refine Done.mk ?_; first | (rfl; done) | skip)
    | (guard_target = RetX _ _; refine RetX.mk ?_ ?_)
    | (guard_target = Fact _ _; refine Fact.mk fun hL => ?_; (try simp only [List.length_map, maxLen] at hL))
    | (guard_target = Branch _ _ _; (first | refine Branch.dec (fun h => ?_) (fun h => ?_) | refine Branch.beq (fun h => ?_) (fun h => ?_) | refine Branch.bne (fun h => ?_) (fun h => ?_) | refine Branch.ndec (fun h => ?_) (fun h => ?_) | refine Branch.nb (fun h => ?_) (fun h => ?_) | refine Branch.mk (fun h => ?_) (fun h => ?_)) <;> (try simp only [List.length_map] at h) <;> (try omega) <;> (try contradiction))
    | (guard_target = CallN _ 133 _ _ _ _; refine CallN.pure _ _ rfl (l04Claimed_ok (lastC e)) rfl _ rfl ?_)
    | (guard_target = Arith _ _ _; refine Arith.fit (wrap_fit (by first | omega | (simp only [List.length_map]; omega)) (by first | omega | (simp only [List.length_map]; omega))) ?_)
    | (guard_target = Arith _ _ _; refine Arith.fit (by decide) ?_)
    | (guard_target = Index _ _ _; first | refine Index.mk _ (idx_last c0 h) ?_ | refine Index.mk _ (idx_map (by omega)) ?_)
    | (guard_target = Need (chkDraw _ = true) _; refine Need.mk (by kernel_rfl) ?_)
    | (guard_target = Need (chkRecs _ _ = true) _; refine Need.mk (by first | kernel_rfl | rfl) ?_)
    | (guard_target = Need _ _; refine Need.mk (by first  | omega | (simp only [List.length_map]; omega)) ?_))
theorem eqQ (x y : XEquation) : eqv x y = (eqv x.left y.left && eqv x.right y.right) := by
  cases x; cases y
  refine Bool.eq_iff_iff.2 ?_
  simp
theorem eqv_comm {α : Type} (x y : α) : eqv x y = eqv y x := by
  refine Bool.eq_iff_iff.2 ?_
  rw [eqv_true, eqv_true]
  exact eq_comm
theorem sameEquation_ok (x y : XEquation) : CallF Tryz.prog 87 [.a 6 (encEquation x), .a 6 (encEquation y)] (B (eqv x y)) := by
  rw [eqQ]
  refine callF_of_vc htb hm Tryz.func87 rfl rfl rfl rfl (ann := fun _ => none) (gh := fun _ => false) ?_
  repeat' ((conv => whnf); first
    | (guard_target = Done _; refine Done.mk ?_; first | (rfl; done) | (simp_all [normS, normV]; done) | (simp_all [normS, normV]; omega; done) | (simp_all [normS, normV]; intros; omega; done) | (simp_all [-List.all_eq_true, -List.all_eq_false, normS, normV]; done) | (simp_all [-List.all_eq_true, -List.all_eq_false, normS, normV]; omega; done) | skip)
    | (guard_target = RetX _ _; refine RetX.mk ?_ ?_)
    | (guard_target = Fact _ _; refine Fact.mk fun hL => ?_; (try simp only [List.length_map, maxLen] at hL))
    | (guard_target = Branch _ _ _; (first | refine Branch.dec (fun h => ?_) (fun h => ?_) | refine Branch.beq (fun h => ?_) (fun h => ?_) | refine Branch.bne (fun h => ?_) (fun h => ?_) | refine Branch.ndec (fun h => ?_) (fun h => ?_) | refine Branch.nb (fun h => ?_) (fun h => ?_) | refine Branch.mk (fun h => ?_) (fun h => ?_)) <;> (try simp only [List.length_map] at h) <;> (try omega) <;> (try contradiction))
    | (guard_target = CallN _ 132 _ _ _ _; refine CallN.pure _ _ rfl (SameExpr_told _ _) rfl _ rfl ?_)
    | (guard_target = Arith _ _ _; refine Arith.fit (wrap_fit (by first | omega | (simp only [List.length_map]; omega)) (by first | omega | (simp only [List.length_map]; omega))) ?_)
    | (guard_target = Arith _ _ _; refine Arith.fit (by decide) ?_)
    | (guard_target = Index _ _ _; first  | refine Index.mk _ (idx_map (by omega)) ?_)
    | (guard_target = Need (chkDraw _ = true) _; refine Need.mk (by kernel_rfl) ?_)
    | (guard_target = Need (chkRecs _ _ = true) _; refine Need.mk (by first | kernel_rfl | rfl) ?_)
    | (guard_target = Need _ _; refine Need.mk (by first  | omega | (simp only [List.length_map]; omega)) ?_))
theorem l08SameEquation_ok (x y : XEquation) : CallF Tryz.prog 129 [.c (.rp 6 (encEquation x)), .c (.rp 6 (encEquation y))] (B (eqv x y)) := by
  rw [eqQ]
  refine callF_of_vc htb hm Tryz.func129 rfl rfl rfl rfl (ann := fun _ => none) (gh := fun _ => false) ?_
  repeat' ((conv => whnf); first
    | (guard_target = Done _; refine Done.mk ?_; first | (rfl; done) | (simp_all [normS, normV]; done) | (simp_all [normS, normV]; omega; done) | (simp_all [normS, normV]; intros; omega; done) | (simp_all [-List.all_eq_true, -List.all_eq_false, normS, normV]; done) | (simp_all [-List.all_eq_true, -List.all_eq_false, normS, normV]; omega; done) | skip)
    | (guard_target = RetX _ _; refine RetX.mk ?_ ?_)
    | (guard_target = Fact _ _; refine Fact.mk fun hL => ?_; (try simp only [List.length_map, maxLen] at hL))
    | (guard_target = Branch _ _ _; (first | refine Branch.dec (fun h => ?_) (fun h => ?_) | refine Branch.beq (fun h => ?_) (fun h => ?_) | refine Branch.bne (fun h => ?_) (fun h => ?_) | refine Branch.ndec (fun h => ?_) (fun h => ?_) | refine Branch.nb (fun h => ?_) (fun h => ?_) | refine Branch.mk (fun h => ?_) (fun h => ?_)) <;> (try simp only [List.length_map] at h) <;> (try omega) <;> (try contradiction))
    | (guard_target = CallN _ 157 _ _ _ _; refine CallN.pure _ _ rfl (l01Same_cut _ _ _ _ 6 (by decide)) rfl _ rfl ?_)
    | (guard_target = CallN _ 157 _ _ _ _; refine CallN.pure _ _ rfl (l01Same_cut _ _ [] [] 3 (by decide)) rfl _ rfl ?_)
    | (guard_target = Arith _ _ _; refine Arith.fit (wrap_fit (by first | omega | (simp only [List.length_map]; omega)) (by first | omega | (simp only [List.length_map]; omega))) ?_)
    | (guard_target = Arith _ _ _; refine Arith.fit (by decide) ?_)
    | (guard_target = Index _ _ _; first  | refine Index.mk _ (idx_map (by omega)) ?_)
    | (guard_target = Need (chkDraw _ = true) _; refine Need.mk (by kernel_rfl) ?_)
    | (guard_target = Need (chkRecs _ _ = true) _; refine Need.mk (by first | kernel_rfl | rfl) ?_)
    | (guard_target = Need _ _; refine Need.mk (by first  | omega | (simp only [List.length_map]; omega)) ?_))
/-! ### soundness -/
/-- what a valid server's notes bear besides -/
structure VE (l : List XNote) : Prop where
  vn : VN l
  cl : ∀ x, known l x → 0 < (noteOf l x).entry.proof.claims.length ∧ (noteOf l x).entry.proof.claims.length ≤ 1000000
  rl : ∀ x, known l x → (restsN l x).length ≤ 4
theorem VE.of {t a : Int} {l : List XNote} (hg : goodNotes t a l = true) : VE l := by
  have key : ∀ x, known l x → ∃ n ∈ l, n.revoke = false ∧ goodNote t a n = true ∧ noteOf l x = n := fun x hx => by
    obtain ⟨hi, hp⟩ := idxP_get (p := noteIs false x) (l := l) hx
    have h1 := (gn_get hg hi).1
    refine ⟨_, List.getElem_mem hi, ?_, h1, getD_eq hi⟩
    have := (Bool.and_eq_true _ _ ▸ hp : _ ∧ _).1
    simpa using this
  have key2 : ∀ x, known l x → goodEntry t a (noteOf l x).entry.rests (noteOf l x).entry.proof = true := fun x hx => by
    obtain ⟨n, _, hr, hn, e⟩ := key x hx
    rw [e]
    unfold goodNote at hn
    rw [hr] at hn
    simp only [Bool.false_eq_true, if_false, Bool.and_eq_true] at hn
    exact hn.2.2
  refine ⟨VN.of hg, fun x hx => ?_, fun x hx => ?_⟩
  · have h := key2 x hx
    simp only [goodEntry, goodProof, Bool.and_eq_true, decide_eq_true_eq] at h
    have := h.2.2.2.1.2.1
    omega
  · have h := key2 x hx
    simp only [goodEntry, Bool.and_eq_true, decide_eq_true_eq] at h
    have := h.1
    show (noteOf l x).entry.rests.length ≤ 4
    omega
def revP (l : List XNote) (z : Int) : Bool := decide (0 ≤ spotN l true z)
noncomputable def soundB (l : List XNote) (x : Int) : Bool := !((closN l x).any (revP l))
theorem isSound1_ok (l : List XNote) (x : Int) : CallF Tryz.prog 131 [I x, .c (.rp 1 [.ro 7 (l.map encNote)])] (B (revP l x)) := by
  refine callF_of_vc htb hm Tryz.func131 rfl rfl rfl rfl (ann := fun _ => none) (gh := fun _ => false) ?_
  repeat' ((conv => whnf); first
    | (guard_target = Done _; refine Done.mk ?_; first | (rfl; done) | skip)
    | (guard_target = RetX _ _; refine RetX.mk ?_ ?_)
    | (guard_target = Fact _ _; refine Fact.mk fun hL => ?_; (try simp only [List.length_map, maxLen] at hL))
    | (guard_target = Branch _ _ _; (first | refine Branch.dec (fun h => ?_) (fun h => ?_) | refine Branch.beq (fun h => ?_) (fun h => ?_) | refine Branch.bne (fun h => ?_) (fun h => ?_) | refine Branch.ndec (fun h => ?_) (fun h => ?_) | refine Branch.nb (fun h => ?_) (fun h => ?_) | refine Branch.mk (fun h => ?_) (fun h => ?_)) <;> (try simp only [List.length_map] at h) <;> (try omega) <;> (try contradiction))
    | (guard_target = CallN _ 71 _ _ _ _; refine CallN.pure _ _ rfl (find_ok l true x) rfl _ rfl ?_)
    | (guard_target = Arith _ _ _; refine Arith.fit (wrap_fit (by first | omega | (simp only [List.length_map]; omega)) (by first | omega | (simp only [List.length_map]; omega))) ?_)
    | (guard_target = Arith _ _ _; refine Arith.fit (by decide) ?_)
    | (guard_target = Index _ _ _; first  | refine Index.mk _ (idx_map (by omega)) ?_)
    | (guard_target = Need (chkDraw _ = true) _; refine Need.mk (by kernel_rfl) ?_)
    | (guard_target = Need (chkRecs _ _ = true) _; refine Need.mk (by first | kernel_rfl | rfl) ?_)
    | (guard_target = Need _ _; refine Need.mk (by first  | omega | (simp only [List.length_map]; omega)) ?_))
theorem IndexFuncR_ok (l : List XNote) (ids : List Int) : CallF Tryz.prog 85 [.c (.ro 1 (ids.map eI)), .clo 131 [.c (.rp 1 [.ro 7 (l.map encNote)])]] (I (idxP (revP l) ids)) := by
  refine callF_of_vc htb hm Tryz.func85 rfl rfl rfl rfl (ann := fun _ => none) (gh := fun _ => false) ?_
  repeat' ((conv => whnf); first
    | (guard_target = Done _; refine Done.mk ?_; first | (exact congrArg I (idxP_at (i := i) (by omega) ha.2 (decide_eq_true h)).symm; done) | (exact congrArg I (idxP_none (all_end (by omega) ha)).symm; done) | skip)
    | (guard_target = RetX _ _; refine RetX.mk ?_ ?_)
    | (guard_target =~ LoopE 2 _ _ _ _ _ _; refine LoopE.mk { α := Nat, keep := [0, 1, 7], ov := fun i => [(8, I i)], φ := fun i => i ≤ ids.length ∧ (ids.take i).all (fun y => !(revP l y)) = true, μ := fun i => ids.length - i } (LoopN.mk (0 : Nat) (by exact ⟨Nat.zero_le _, rfl⟩) (by (repeat' first | exact trivial | exact rfl | refine ⟨?_, ?_⟩); done) (by (repeat' first | exact trivial | exact rfl | refine ⟨?_, ?_⟩); done) (by (repeat' first | exact trivial | exact rfl | refine ⟨?_, ?_⟩ | (simp only [List.map_append, List.map_cons, List.map_nil, List.map_set]; first | done | rfl)); done) (fun (i : Nat) ha => ?_) (by intro A; first | rfl | (obtain ⟨_, _⟩ := A; rfl) | (obtain ⟨_, _, _⟩ := A; rfl))); have ha : i ≤ ids.length ∧ (ids.take i).all (fun y => !(revP l y)) = true := ha)
    | (guard_target = Gh _ _ _ _ _; refine Gh.go ⟨(i + 1 : Nat), (by exact all_go (by omega) ha (not_of (decide_eq_false h))), (by first | (show _ < _; simp only []; omega) | omega | (simp; omega)), (by (repeat' first | exact trivial | exact rfl | refine ⟨?_, ?_⟩); done), (by (repeat' first | exact trivial | exact rfl | refine ⟨?_, ?_⟩); done), (by (repeat' first | exact trivial | exact rfl | refine ⟨?_, ?_⟩ | (simp only [List.map_append, List.map_cons, List.map_nil, List.map_set]; first | done | rfl)); done)⟩)
    | (guard_target = Fact _ _; refine Fact.mk fun hL => ?_; (try simp only [List.length_map, maxLen] at hL))
    | (guard_target = Branch _ _ _; (first | refine Branch.dec (fun h => ?_) (fun h => ?_) | refine Branch.beq (fun h => ?_) (fun h => ?_) | refine Branch.bne (fun h => ?_) (fun h => ?_) | refine Branch.ndec (fun h => ?_) (fun h => ?_) | refine Branch.nb (fun h => ?_) (fun h => ?_) | refine Branch.mk (fun h => ?_) (fun h => ?_)) <;> (try simp only [List.length_map] at h) <;> (try omega) <;> (try contradiction))
    | (guard_target = CallN _ 131 _ _ _ _; refine CallN.pure _ _ rfl (isSound1_ok l _) rfl _ rfl ?_)
    | (guard_target = Arith _ _ _; refine Arith.fit (wrap_fit (by first | omega | (simp only [List.length_map]; omega)) (by first | omega | (simp only [List.length_map]; omega))) ?_)
    | (guard_target = Arith _ _ _; refine Arith.fit (by decide) ?_)
    | (guard_target = Index _ _ _; first | refine Index.mk _ (idx_map (i := i) (by omega)) ?_ | refine Index.mk _ (idx_map (by omega)) ?_)
    | (guard_target = Need (chkDraw _ = true) _; refine Need.mk (by kernel_rfl) ?_)
    | (guard_target = Need (chkRecs _ _ = true) _; refine Need.mk (by first | kernel_rfl | rfl) ?_)
    | (guard_target = Need _ _; refine Need.mk (by first  | omega | (simp only [List.length_map]; omega)) ?_))
theorem ContainsFuncR_ok (l : List XNote) (ids : List Int) : CallF Tryz.prog 130 [.c (.ro 1 (ids.map eI)), .clo 131 [.c (.rp 1 [.ro 7 (l.map encNote)])]] (B (ids.any (revP l))) := by
  have h9 : decide (idxP (revP l) ids ≥ 0) = ids.any (revP l) := by
    refine Bool.eq_iff_iff.2 ?_
    rw [decide_eq_true_iff, ge_iff_le, idxP_ge, List.any_eq_true]
  rw [← h9]
  refine callF_of_vc htb hm Tryz.func130 rfl rfl rfl rfl (ann := fun _ => none) (gh := fun _ => false) ?_
  repeat' ((conv => whnf); first
    | (guard_target = Done _; refine Done.mk ?_; first | (rfl; done) | skip)
    | (guard_target = RetX _ _; refine RetX.mk ?_ ?_)
    | (guard_target = Fact _ _; refine Fact.mk fun hL => ?_; (try simp only [List.length_map, maxLen] at hL))
    | (guard_target = Branch _ _ _; (first | refine Branch.dec (fun h => ?_) (fun h => ?_) | refine Branch.beq (fun h => ?_) (fun h => ?_) | refine Branch.bne (fun h => ?_) (fun h => ?_) | refine Branch.ndec (fun h => ?_) (fun h => ?_) | refine Branch.nb (fun h => ?_) (fun h => ?_) | refine Branch.mk (fun h => ?_) (fun h => ?_)) <;> (try simp only [List.length_map] at h) <;> (try omega) <;> (try contradiction))
    | (guard_target = CallN _ 85 _ _ _ _; refine CallN.pure _ _ rfl (IndexFuncR_ok l ids) rfl _ rfl ?_)
    | (guard_target = Arith _ _ _; refine Arith.fit (wrap_fit (by first | omega | (simp only [List.length_map]; omega)) (by first | omega | (simp only [List.length_map]; omega))) ?_)
    | (guard_target = Arith _ _ _; refine Arith.fit (by decide) ?_)
    | (guard_target = Index _ _ _; first  | refine Index.mk _ (idx_map (by omega)) ?_)
    | (guard_target = Need (chkDraw _ = true) _; refine Need.mk (by kernel_rfl) ?_)
    | (guard_target = Need (chkRecs _ _ = true) _; refine Need.mk (by first | kernel_rfl | rfl) ?_)
    | (guard_target = Need _ _; refine Need.mk (by first  | omega | (simp only [List.length_map]; omega)) ?_))
theorem isSound_ok (l : List XNote) (x : Int) (hv : VN l) (hk : known l x) : CallF Tryz.prog 83 [.c (.ro 7 (l.map encNote)), I x] (B (soundB l x)) := by
  have hc := closure_ok l x hv hk
  refine callF_of_vc htb hm Tryz.func83 rfl rfl rfl rfl (ann := fun _ => none) (gh := fun _ => false) ?_
  repeat' ((conv => whnf); first
    | (guard_target = Done _; refine Done.mk ?_; first | (rfl; done) | skip)
    | (guard_target = RetX _ _; refine RetX.mk ?_ ?_)
    | (guard_target = Fact _ _; refine Fact.mk fun hL => ?_; (try simp only [List.length_map, maxLen] at hL))
    | (guard_target = Branch _ _ _; (first | refine Branch.dec (fun h => ?_) (fun h => ?_) | refine Branch.beq (fun h => ?_) (fun h => ?_) | refine Branch.bne (fun h => ?_) (fun h => ?_) | refine Branch.ndec (fun h => ?_) (fun h => ?_) | refine Branch.nb (fun h => ?_) (fun h => ?_) | refine Branch.mk (fun h => ?_) (fun h => ?_)) <;> (try simp only [List.length_map] at h) <;> (try omega) <;> (try contradiction))
    | (guard_target = CallN _ 78 _ _ _ _; refine CallN.gen [] _ _ _ rfl (hc) rfl rfl _ rfl ?_)
    | (guard_target = CallN _ 130 _ _ _ _; refine CallN.pure _ _ rfl (ContainsFuncR_ok l (closN l x)) rfl _ rfl ?_)
    | (guard_target = Arith _ _ _; refine Arith.fit (wrap_fit (by first | omega | (simp only [List.length_map]; omega)) (by first | omega | (simp only [List.length_map]; omega))) ?_)
    | (guard_target = Arith _ _ _; refine Arith.fit (by decide) ?_)
    | (guard_target = Index _ _ _; first  | refine Index.mk _ (idx_map (by omega)) ?_)
    | (guard_target = Need (chkDraw _ = true) _; refine Need.mk (by kernel_rfl) ?_)
    | (guard_target = Need (chkRecs _ _ = true) _; refine Need.mk (by first | kernel_rfl | rfl) ?_)
    | (guard_target = Need _ _; refine Need.mk (by first  | omega | (simp only [List.length_map]; omega)) ?_))
/-- a note that revokes a lemma of the closure -/
noncomputable def badN (l : List XNote) (x : Int) (n : XNote) : Bool := n.revoke && (markN l x).getD n.id.toNat false
theorem sound_marks {l : List XNote} (hv : VN l) {x : Int} (hk : known l x) : soundB l x = !(l.any (badN l x)) := by
  unfold soundB
  congr 1
  refine Bool.eq_iff_iff.2 ?_
  rw [List.any_eq_true, List.any_eq_true]
  constructor
  · rintro ⟨z, hz, hr⟩
    have hr := of_decide_eq_true hr
    obtain ⟨n, hn, hp⟩ := idxP_ge.1 hr
    simp only [noteIs, Bool.and_eq_true, beq_iff_eq] at hp
    refine ⟨n, hn, ?_⟩
    have h1 := hv.range true z hr
    unfold badN
    rw [hp.1, Bool.true_and, hp.2, mark_get hv hk, show ((z.toNat : Nat) : Int) = z by omega]
    exact cdec_yes ((mem_clos hv hk).1 hz)
  · rintro ⟨n, hn, hb⟩
    simp only [badN, Bool.and_eq_true] at hb
    have hs : 0 ≤ spotN l true n.id := idxP_ge.2 ⟨n, hn, by simp [noteIs, hb.1]⟩
    have h1 := hv.range true n.id hs
    refine ⟨n.id, (mem_clos hv hk).2 ?_, decide_eq_true hs⟩
    have h2 := hb.2
    rw [mark_get hv hk, show ((n.id.toNat : Nat) : Int) = n.id by omega] at h2
    exact cdec_of h2
theorem rev_rng {l : List XNote} (hv : VN l) {n : XNote} (hn : n ∈ l) (hr : n.revoke = true) : 0 ≤ n.id ∧ n.id ≤ 99 :=
  hv.range true n.id (idxP_ge.2 ⟨n, hn, by simp [noteIs, hr]⟩)
theorem any_stop {α : Type} {p : α → Bool} {l : List α} {i : Nat} (hi : i < l.length) (h : p l[i] = true) : l.any p = true := List.any_eq_true.2 ⟨_, List.getElem_mem hi, h⟩
theorem any_end {α : Type} {p : α → Bool} {l : List α} {i : Nat} (hi : l.length ≤ i) (h : (l.take i).all (fun y => !(p y)) = true) : l.any p = false := by
  rw [List.take_of_length_le hi] at h
  cases hb : l.any p with
  | false => rfl
  | true =>
    obtain ⟨y, hy, hp⟩ := List.any_eq_true.1 hb
    have := List.all_eq_true.1 h y hy
    rw [hp] at this
    cases this
theorem l08Clean_ok (l : List XNote) (x : Int) (hv : VN l) (hk : known l x) : CallF Tryz.prog 81 [.c (.ro 7 (l.map encNote)), I x] (B (soundB l x)) := by
  have hc := l08Closure_ok l x hv hk
  have hml := mark_len l x
  have hrv : ∀ i (hi : i < l.length), (l.getD i n0).revoke = true → 0 ≤ (l.getD i n0).id ∧ (l.getD i n0).id ≤ 99 := fun i hi hr => by
    rw [getD_eq hi] at hr ⊢
    exact rev_rng hv (List.getElem_mem hi) hr
  rw [sound_marks hv hk]
  refine callF_of_vc htb hm Tryz.func81 rfl rfl rfl rfl (ann := fun _ => none) (gh := fun _ => false) ?_
  repeat' ((conv => whnf); first
    | (guard_target = Done _; refine Done.mk ?_; first | ((refine no_of ?_; rw [any_stop (i := i) (by omega) (by rw [← getD_eq (d := n0) (by omega)]; simp_all [badN])]; rfl); done) | ((refine yes_of ?_; rw [any_end (by omega) ha.2]; rfl); done) | skip)
    | (guard_target = RetX _ _; refine RetX.mk ?_ ?_)
    | (guard_target =~ LoopE 3 _ _ _ _ _ _; refine LoopE.mk { α := Nat, keep := [0, 5], ov := fun i => [(6, I i)], φ := fun i => i ≤ l.length ∧ (l.take i).all (fun y => !(badN l x y)) = true, μ := fun i => l.length - i } (LoopN.mk (0 : Nat) (by exact ⟨Nat.zero_le _, rfl⟩) (by (repeat' first | exact trivial | exact rfl | refine ⟨?_, ?_⟩); done) (by (repeat' first | exact trivial | exact rfl | refine ⟨?_, ?_⟩); done) (by (repeat' first | exact trivial | exact rfl | refine ⟨?_, ?_⟩ | (simp only [List.map_append, List.map_cons, List.map_nil, List.map_set]; first | done | rfl)); done) (fun (i : Nat) ha => ?_) (by intro A; first | rfl | (obtain ⟨_, _⟩ := A; rfl) | (obtain ⟨_, _, _⟩ := A; rfl))); have ha : i ≤ l.length ∧ (l.take i).all (fun y => !(badN l x y)) = true := ha)
    | (guard_target = Gh _ _ _ _ _; refine Gh.go ⟨(i + 1 : Nat), (by exact all_go (by omega) ha (by (first | (have h1 : badN l x (l.getD i n0) = false := (by simp_all [badN]); rw [getD_eq (by omega)] at h1; rw [h1]; rfl)))), (by first | (show _ < _; simp only []; omega) | omega | (simp; omega)), (by (repeat' first | exact trivial | exact rfl | refine ⟨?_, ?_⟩); done), (by (repeat' first | exact trivial | exact rfl | refine ⟨?_, ?_⟩); done), (by (repeat' first | exact trivial | exact rfl | refine ⟨?_, ?_⟩ | (simp only [List.map_append, List.map_cons, List.map_nil, List.map_set]; first | done | rfl)); done)⟩)
    | (guard_target = Fact _ _; refine Fact.mk fun hL => ?_; (try simp only [List.length_map, maxLen] at hL))
    | (guard_target = Branch _ _ _; (first | refine Branch.dec (fun h => ?_) (fun h => ?_) | refine Branch.beq (fun h => ?_) (fun h => ?_) | refine Branch.bne (fun h => ?_) (fun h => ?_) | refine Branch.ndec (fun h => ?_) (fun h => ?_) | refine Branch.nb (fun h => ?_) (fun h => ?_) | refine Branch.mk (fun h => ?_) (fun h => ?_)) <;> (try simp only [List.length_map] at h) <;> (try omega) <;> (try contradiction))
    | (guard_target = CallN _ 77 _ _ _ _; refine CallN.gen [] _ _ _ rfl (hc) rfl rfl _ rfl ?_)
    | (guard_target = Arith _ _ _; refine Arith.fit (wrap_fit (by first | omega | (simp only [List.length_map]; omega)) (by first | omega | (simp only [List.length_map]; omega))) ?_)
    | (guard_target = Arith _ _ _; refine Arith.fit (by decide) ?_)
    | (guard_target = Index _ _ _; first | refine Index.mk _ (idx_getD (d := n0) (i := i) (by omega)) ?_ | refine Index.mk _ (idx_getD (d := false) (i := (l.getD i n0).id.toNat) (l := markN l x) (by have h0 : (l.getD i n0).revoke = true := (by simp_all); have h1 := hrv i (by omega) h0; rw [hml]; omega)) ?_ | refine Index.mk _ (idx_map (by omega)) ?_)
    | (guard_target = Need (chkDraw _ = true) _; refine Need.mk (by kernel_rfl) ?_)
    | (guard_target = Need (chkRecs _ _ = true) _; refine Need.mk (by first | kernel_rfl | rfl) ?_)
    | (guard_target = Need _ _; refine Need.mk (by first | ((have h1 := hrv i (by omega) h; simp only [List.length_map, hml]; omega)) | omega | (simp only [List.length_map]; omega)) ?_))
end Go.Proofs.YtbbaadkgmdkjdaaGreat

namespace Go.Proofs.YtbbaadkgmdkjdaaGreat
open Go Go.KA Go.Proofs
set_option maxHeartbeats 16000000
set_option maxRecDepth 100000
noncomputable def insP (l : List XNote) (q : XEquation) (y : Int) : Bool := eqv (lemE (noteOf l y).entry) q && soundB l y
theorem RepairRests1_ok (l : List XNote) (x : Int) (q : XEquation) (hv : VE l) (hk : known l x) : CallF Tryz.prog 86 [I x, .c (.rp 1 [.ro 7 (l.map encNote)]), .c (.rp 6 (encEquation q))] (B (insP l q x)) := by
  have hs := isSound_ok l x hv.vn hk
  have ht := told_ok (noteOf l x).entry (hv.cl x hk).1
  have hi := know_idx hk
  unfold known at hk
  unfold insP
  generalize soundB l x = S at *
  refine callF_of_vc htb hm Tryz.func86 rfl rfl rfl rfl (ann := fun _ => none) (gh := fun _ => false) ?_
  repeat' ((conv => whnf); first
    | (guard_target = Done _; refine Done.mk ?_; first | (rfl; done) | (simp_all [normS, normV]; done) | (simp_all [normS, normV]; omega; done) | (simp_all [normS, normV]; intros; omega; done) | (simp_all [-List.all_eq_true, -List.all_eq_false, normS, normV]; done) | (simp_all [-List.all_eq_true, -List.all_eq_false, normS, normV]; omega; done) | skip)
    | (guard_target = RetX _ _; refine RetX.mk ?_ ?_)
    | (guard_target = Fact _ _; refine Fact.mk fun hL => ?_; (try simp only [List.length_map, maxLen] at hL))
    | (guard_target = Branch _ _ _; (first | refine Branch.dec (fun h => ?_) (fun h => ?_) | refine Branch.beq (fun h => ?_) (fun h => ?_) | refine Branch.bne (fun h => ?_) (fun h => ?_) | refine Branch.ndec (fun h => ?_) (fun h => ?_) | refine Branch.nb (fun h => ?_) (fun h => ?_) | refine Branch.mk (fun h => ?_) (fun h => ?_)) <;> (try simp only [List.length_map] at h) <;> (try omega) <;> (try contradiction))
    | (guard_target = CallN _ 71 _ _ _ _; refine CallN.pure _ _ rfl (find_ok l false x) rfl _ rfl ?_)
    | (guard_target = CallN _ 84 _ _ _ _; refine CallN.pure _ _ rfl (ht) rfl _ rfl ?_)
    | (guard_target = CallN _ 87 _ _ _ _; refine CallN.pure _ _ rfl (sameEquation_ok (lemE (noteOf l x).entry) q) rfl _ rfl ?_)
    | (guard_target = CallN _ 83 _ _ _ _; refine CallN.pure _ _ rfl (hs) rfl _ rfl ?_)
    | (guard_target = Arith _ _ _; refine Arith.fit (wrap_fit (by first | omega | (simp only [List.length_map]; omega)) (by first | omega | (simp only [List.length_map]; omega))) ?_)
    | (guard_target = Arith _ _ _; refine Arith.fit (by decide) ?_)
    | (guard_target = Index _ _ _; first | refine Index.mk _ (idx_getD (d := n0) (i := (spotN l false x).toNat) hi) ?_ | refine Index.mk _ (idx_map (by omega)) ?_)
    | (guard_target = Need (chkDraw _ = true) _; refine Need.mk (by kernel_rfl) ?_)
    | (guard_target = Need (chkRecs _ _ = true) _; refine Need.mk (by first | kernel_rfl | rfl) ?_)
    | (guard_target = Need _ _; refine Need.mk (by first | (exact hk) | omega | (simp only [List.length_map]; omega)) ?_))
theorem IndexFuncE_ok (l : List XNote) (ids : List Int) (q : XEquation) (hv : VE l) (hids : ∀ x ∈ ids, known l x) : CallF Tryz.prog 85 [.c (.ro 1 (ids.map eI)), .clo 86 [.c (.rp 1 [.ro 7 (l.map encNote)]), .c (.rp 6 (encEquation q))]] (I (idxP (insP l q) ids)) := by
  refine callF_of_vc htb hm Tryz.func85 rfl rfl rfl rfl (ann := fun _ => none) (gh := fun _ => false) ?_
  repeat' ((conv => whnf); first
    | (guard_target = Done _; refine Done.mk ?_; first | (exact congrArg I (idxP_at (i := i) (by omega) ha.2 h).symm; done) | (exact congrArg I (idxP_none (all_end (by omega) ha)).symm; done) | skip)
    | (guard_target = RetX _ _; refine RetX.mk ?_ ?_)
    | (guard_target =~ LoopE 2 _ _ _ _ _ _; refine LoopE.mk { α := Nat, keep := [0, 1, 7], ov := fun i => [(8, I i)], φ := fun i => i ≤ ids.length ∧ (ids.take i).all (fun y => !(insP l q y)) = true, μ := fun i => ids.length - i } (LoopN.mk (0 : Nat) (by exact ⟨Nat.zero_le _, rfl⟩) (by (repeat' first | exact trivial | exact rfl | refine ⟨?_, ?_⟩); done) (by (repeat' first | exact trivial | exact rfl | refine ⟨?_, ?_⟩); done) (by (repeat' first | exact trivial | exact rfl | refine ⟨?_, ?_⟩ | (simp only [List.map_append, List.map_cons, List.map_nil, List.map_set]; first | done | rfl)); done) (fun (i : Nat) ha => ?_) (by intro A; first | rfl | (obtain ⟨_, _⟩ := A; rfl) | (obtain ⟨_, _, _⟩ := A; rfl))); have ha : i ≤ ids.length ∧ (ids.take i).all (fun y => !(insP l q y)) = true := ha)
    | (guard_target = Gh _ _ _ _ _; refine Gh.go ⟨(i + 1 : Nat), (by exact all_go (by omega) ha (not_of h)), (by first | (show _ < _; simp only []; omega) | omega | (simp; omega)), (by (repeat' first | exact trivial | exact rfl | refine ⟨?_, ?_⟩); done), (by (repeat' first | exact trivial | exact rfl | refine ⟨?_, ?_⟩); done), (by (repeat' first | exact trivial | exact rfl | refine ⟨?_, ?_⟩ | (simp only [List.map_append, List.map_cons, List.map_nil, List.map_set]; first | done | rfl)); done)⟩)
    | (guard_target = Fact _ _; refine Fact.mk fun hL => ?_; (try simp only [List.length_map, maxLen] at hL))
    | (guard_target = Branch _ _ _; (first | refine Branch.dec (fun h => ?_) (fun h => ?_) | refine Branch.beq (fun h => ?_) (fun h => ?_) | refine Branch.bne (fun h => ?_) (fun h => ?_) | refine Branch.ndec (fun h => ?_) (fun h => ?_) | refine Branch.nb (fun h => ?_) (fun h => ?_) | refine Branch.mk (fun h => ?_) (fun h => ?_)) <;> (try simp only [List.length_map] at h) <;> (try omega) <;> (try contradiction))
    | (guard_target = CallN _ 86 _ _ _ _; refine CallN.pure _ _ rfl (RepairRests1_ok l _ q hv (hids _ (List.getElem_mem (by omega)))) rfl _ rfl ?_)
    | (guard_target = Arith _ _ _; refine Arith.fit (wrap_fit (by first | omega | (simp only [List.length_map]; omega)) (by first | omega | (simp only [List.length_map]; omega))) ?_)
    | (guard_target = Arith _ _ _; refine Arith.fit (by decide) ?_)
    | (guard_target = Index _ _ _; first | refine Index.mk _ (idx_map (i := i) (by omega)) ?_ | refine Index.mk _ (idx_map (by omega)) ?_)
    | (guard_target = Need (chkDraw _ = true) _; refine Need.mk (by kernel_rfl) ?_)
    | (guard_target = Need (chkRecs _ _ = true) _; refine Need.mk (by first | kernel_rfl | rfl) ?_)
    | (guard_target = Need _ _; refine Need.mk (by first  | omega | (simp only [List.length_map]; omega)) ?_))
noncomputable abbrev instK (l : List XNote) (x : Int) : Int := idxP (insP l (lemE (noteOf l x).entry)) (sortI (idsN l false))
noncomputable def instB (l : List XNote) (x : Int) : Int := if instK l x < 0 then -1 else (sortI (idsN l false)).getD (instK l x).toNat 0
noncomputable def repB (l : List XNote) (x : Int) : Int := if soundB l x = true then x else instB l x
theorem ids_all {l : List XNote} : ∀ x ∈ sortI (idsN l false), known l x := fun x hx => mem_ids.1 ((sortI_perm _).mem_iff.1 hx)
theorem instB_some {l : List XNote} {x : Int} (hv : VN l) (h : ¬ instK l x < 0) : 0 ≤ instB l x ∧ instB l x = (sortI (idsN l false)).getD (instK l x).toNat 0 ∧ (instK l x).toNat < (sortI (idsN l false)).length := by
  have h1 := (idxP_lo (insP l (lemE (noteOf l x).entry)) (sortI (idsN l false))).2
  have h0 : ¬ idxP (insP l (lemE (noteOf l x).entry)) (sortI (idsN l false)) < 0 := h
  have h2 : (idxP (insP l (lemE (noteOf l x).entry)) (sortI (idsN l false))).toNat < (sortI (idsN l false)).length := by omega
  have h3 : instB l x = (sortI (idsN l false)).getD (instK l x).toNat 0 := by unfold instB; rw [if_neg h]
  refine ⟨?_, h3, h2⟩
  rw [h3, getD_eq h2]
  exact (hv.range false _ (ids_all _ (List.getElem_mem h2))).1
theorem instB_at {l : List XNote} {x : Int} {i : Nat} (hi : i < (sortI (idsN l false)).length) (ha : ((sortI (idsN l false)).take i).all (fun y => !(insP l (lemE (noteOf l x).entry) y)) = true) (h : insP l (lemE (noteOf l x).entry) ((sortI (idsN l false)).getD i 0) = true) : (sortI (idsN l false)).getD i 0 = instB l x := by
  rw [getD_eq hi] at h
  have h1 := idxP_at hi ha h
  unfold instB instK
  rw [h1, if_neg (by omega)]
  rfl
theorem instB_none {l : List XNote} {x : Int} {i : Nat} (hi : (sortI (idsN l false)).length ≤ i) (ha : ((sortI (idsN l false)).take i).all (fun y => !(insP l (lemE (noteOf l x).entry) y)) = true) : instB l x = -1 := by
  rw [List.take_of_length_le hi] at ha
  unfold instB instK
  rw [idxP_none ha, if_pos (by decide)]
theorem l08Instead_ok (l : List XNote) (x : Int) (hv : VE l) (hk : known l x) (hsel : sortI (idsN l false) = selR 100 fun i => decide (0 ≤ spotN l false i)) : CallF Tryz.prog 82 [.c (.ro 7 (l.map encNote)), I x] (I (instB l x)) := by
  have hids := l08Ids_ok l false
  rw [← hsel] at hids
  have hq := l08Lemma_ok (noteOf l x).entry (hv.cl x hk).1 (hv.cl x hk).2
  have hi := know_idx hk
  have hkn : ∀ i, i < (sortI (idsN l false)).length → known l ((sortI (idsN l false)).getD i 0) := fun i h => ids_known h
  have hlen : (sortI (idsN l false)).length ≤ 100 := by rw [hsel]; exact selR_len 100 _
  have hend := @instB_none l x
  have hat := @instB_at l x
  have hins : ∀ y, insP l (lemE (noteOf l x).entry) y = (eqv (lemE (noteOf l x).entry) (lemE (noteOf l y).entry) && soundB l y) := fun y => by unfold insP; rw [eqv_comm]
  have hcl := fun y (h : known l y) => l08Clean_ok l y hv.vn h
  unfold known at hk
  clear hsel
  generalize sortI (idsN l false) = L at *
  generalize soundB l = S at *
  refine callF_of_vc htb hm Tryz.func82 rfl rfl rfl rfl (ann := fun _ => none) (gh := fun _ => false) ?_
  repeat' ((conv => whnf); first
    | (guard_target = Done _; refine Done.mk ?_; first | (exact congrArg I (hat (by omega) ha.2 (by rw [hins, h, Bool.and_true]; exact eqv_true.2 (by assumption))); done) | (exact congrArg I (hend (by omega) ha.2).symm; done) | skip)
    | (guard_target = RetX _ _; refine RetX.mk ?_ ?_)
    | (guard_target =~ LoopE 4 _ _ _ _ _ _; refine LoopE.mk { α := Nat, keep := [0, 5, 6], ov := fun i => [(7, I i)], φ := fun i => i ≤ L.length ∧ (L.take i).all (fun y => !(insP l (lemE (noteOf l x).entry) y)) = true, μ := fun i => L.length - i } (LoopN.mk (0 : Nat) (by exact ⟨Nat.zero_le _, rfl⟩) (by (repeat' first | exact trivial | exact rfl | refine ⟨?_, ?_⟩); done) (by (repeat' first | exact trivial | exact rfl | refine ⟨?_, ?_⟩); done) (by (repeat' first | exact trivial | exact rfl | refine ⟨?_, ?_⟩ | (simp only [List.map_append, List.map_cons, List.map_nil, List.map_set]; first | done | rfl)); done) (fun (i : Nat) ha => ?_) (by intro A; first | rfl | (obtain ⟨_, _⟩ := A; rfl) | (obtain ⟨_, _, _⟩ := A; rfl))); have ha : i ≤ L.length ∧ (L.take i).all (fun y => !(insP l (lemE (noteOf l x).entry) y)) = true := ha)
    | (guard_target = Gh _ _ _ _ _; refine Gh.go ⟨(i + 1 : Nat), (by exact all_go (by omega) ha (by have hi9 : i < L.length := (by omega); have e : insP l (lemE (noteOf l x).entry) (L.getD i 0) = false := (by rw [hins]; first | (rw [eqv_ne h]; rfl) | (rw [h, Bool.and_false])); rw [getD_eq hi9] at e; rw [e]; rfl)), (by first | (show _ < _; simp only []; omega) | omega | (simp; omega)), (by (repeat' first | exact trivial | exact rfl | refine ⟨?_, ?_⟩); done), (by (repeat' first | exact trivial | exact rfl | refine ⟨?_, ?_⟩); done), (by (repeat' first | exact trivial | exact rfl | refine ⟨?_, ?_⟩ | (simp only [List.map_append, List.map_cons, List.map_nil, List.map_set]; first | done | rfl)); done)⟩)
    | (guard_target = Fact _ _; refine Fact.mk fun hL => ?_; (try simp only [List.length_map, maxLen] at hL))
    | (guard_target = Branch _ _ _; (first | refine Branch.dec (fun h => ?_) (fun h => ?_) | refine Branch.beq (fun h => ?_) (fun h => ?_) | refine Branch.bne (fun h => ?_) (fun h => ?_) | refine Branch.ndec (fun h => ?_) (fun h => ?_) | refine Branch.nb (fun h => ?_) (fun h => ?_) | refine Branch.mk (fun h => ?_) (fun h => ?_)) <;> (try simp only [List.length_map] at h) <;> (try omega) <;> (try contradiction))
    | (guard_target = CallN _ 91 _ _ _ _; refine CallN.pure _ _ rfl (hq) rfl _ rfl ?_)
    | (guard_target = CallN _ 74 _ _ _ _; refine CallN.gen [] _ _ _ rfl (hids) rfl rfl _ rfl ?_)
    | (guard_target = CallN _ 91 _ _ _ _; refine CallN.pure _ _ rfl (l08Lemma_ok (noteOf l (L.getD i 0)).entry (hv.cl _ (hkn i (by omega))).1 (hv.cl _ (hkn i (by omega))).2) rfl _ rfl ?_)
    | (guard_target = CallN _ 129 _ _ _ _; refine CallN.pure _ _ rfl (l08SameEquation_ok (lemE (noteOf l x).entry) (lemE (noteOf l (L.getD i 0)).entry)) rfl _ rfl ?_)
    | (guard_target = CallN _ 81 _ _ _ _; refine CallN.pure _ _ rfl (hcl (L.getD i 0) (hkn i (by omega))) rfl _ rfl ?_)
    | (guard_target = CallN _ 69 _ _ _ _; refine CallN.pure _ _ rfl (l08Spot_ok l false _) rfl _ rfl ?_)
    | (guard_target = Arith _ _ _; refine Arith.fit (wrap_fit (by first | omega | (simp only [List.length_map]; omega)) (by first | omega | (simp only [List.length_map]; omega))) ?_)
    | (guard_target = Arith _ _ _; refine Arith.fit (by decide) ?_)
    | (guard_target = Index _ _ _; first | refine Index.mk _ (idx_getD (d := n0) (i := (spotN l false x).toNat) hi) ?_ | refine Index.mk _ (idx_getD (d := n0) (i := (spotN l false (L.getD i 0)).toNat) (know_idx (hkn i (by omega)))) ?_ | refine Index.mk _ (idx_getD (d := 0) (i := i) (by omega)) ?_ | refine Index.mk _ (idx_map (by omega)) ?_)
    | (guard_target = Need (chkDraw _ = true) _; refine Need.mk (by kernel_rfl) ?_)
    | (guard_target = Need (chkRecs _ _ = true) _; refine Need.mk (by first | kernel_rfl | rfl) ?_)
    | (guard_target = Need _ _; refine Need.mk (by first | (exact hk) | (exact hkn i (by omega)) | omega | (simp only [List.length_map]; omega)) ?_))
end Go.Proofs.YtbbaadkgmdkjdaaGreat

namespace Go.Proofs.YtbbaadkgmdkjdaaGreat
open Go Go.KA Go.Proofs
set_option maxHeartbeats 16000000
set_option maxRecDepth 100000
noncomputable def repR (l : List XNote) (rs : List Int) : List Int × Int :=
  if rs.any (fun y => decide (repB l y < 0)) = true then ([], 6) else if decide (rs.map (repB l)).Nodup = true then (rs.map (repB l), 0) else ([], 4)
section
variable {l : List XNote} {rs : List Int} {i : Nat}
theorem repR_no (hi : i < rs.length) (h : repB l (rs.getD i 0) < 0) : repR l rs = ([], 6) := by
  unfold repR
  rw [if_pos (any_stop (p := fun y => decide (repB l y < 0)) hi (by rw [← getD_eq (d := 0) hi]; exact decide_eq_true h))]
theorem repR_yes (h : rs.any (fun y => decide (repB l y < 0)) = false) (hn : (rs.map (repB l)).Nodup) : repR l rs = (rs.map (repB l), 0) := by
  unfold repR
  rw [if_neg (by rw [h]; decide), if_pos (decide_eq_true hn)]
theorem repR_dup (h : rs.any (fun y => decide (repB l y < 0)) = false) (hn : ¬ (rs.map (repB l)).Nodup) : repR l rs = ([], 4) := by
  unfold repR
  rw [if_neg (by rw [h]; decide), if_neg (by rw [decide_eq_true_iff]; exact hn)]
theorem repR_len (l : List XNote) (rs : List Int) : (repR l rs).1.length ≤ rs.length := by
  unfold repR
  split
  · exact Nat.zero_le _
  · split
    · show (rs.map _).length ≤ _
      rw [List.length_map]
      exact Nat.le_refl _
    · exact Nat.zero_le _
end
abbrev noNeg (l : List XNote) (rs : List Int) (i : Nat) : Prop := (rs.take i).all (fun y => !(decide (repB l y < 0))) = true
theorem noNeg_next {l : List XNote} {rs : List Int} {i : Nat} (hi : i < rs.length) (h : noNeg l rs i) (hr : 0 ≤ repB l (rs.getD i 0)) : noNeg l rs (i + 1) := by
  unfold noNeg at h ⊢
  rw [List.take_succ_eq_append_getElem hi, List.all_append, h, Bool.true_and]
  rw [getD_eq hi] at hr
  simp
  omega
theorem rep_next {f : Int → Int} {rs : List Int} {i : Nat} (hi : i < rs.length) : (rs.take i).map f ++ [f (rs.getD i 0)] = (rs.take (i + 1)).map f := by
  rw [take_map_next hi, getD_eq hi]
theorem cur_len (f : Int → Int) (rs : List Int) (i : Nat) : ((rs.take i).map f ++ rs.drop i).length = rs.length := by
  rw [List.length_append, List.length_map, ← List.length_append, List.take_append_drop]
theorem cur_get (f : Int → Int) {rs : List Int} {i : Nat} (hi : i < rs.length) : ((rs.take i).map f ++ rs.drop i).getD i 0 = rs.getD i 0 := by
  rw [getD_eq (by rw [cur_len]; exact hi), getD_eq hi, List.getElem_append_right (by simp [List.length_take]; omega)]
  simp [List.length_take, show min i rs.length = i by omega]
theorem cur_keep {f : Int → Int} {rs : List Int} {i : Nat} (hi : i < rs.length) (hf : f (rs.getD i 0) = rs.getD i 0) : (rs.take i).map f ++ rs.drop i = (rs.take (i + 1)).map f ++ rs.drop (i + 1) := by
  rw [← rep_next hi, hf, List.append_assoc, getD_eq hi, List.drop_eq_getElem_cons hi]
  rfl
theorem cur_set {f : Int → Int} {rs : List Int} {i : Nat} (hi : i < rs.length) : ((rs.take i).map f ++ rs.drop i).set i (f (rs.getD i 0)) = (rs.take (i + 1)).map f ++ rs.drop (i + 1) := by
  have e : ((rs.take i).map f).length = i := by rw [List.length_map, List.length_take]; omega
  rw [List.set_append_right i _ (by omega), e, Nat.sub_self, List.drop_eq_getElem_cons hi, List.set_cons_zero, ← rep_next hi, List.append_assoc]
  rfl
theorem l00Own_ok (l : List Int) (hl : l.length ≤ 1000000) : CallX Tryz.prog 80 [.c (.ro 1 (l.map eI))] [] (.c (.ows 2 1 (l.map eI))) := by
  refine callX_of_vc htb hm Tryz.func80 rfl rfl rfl rfl (ann := fun _ => none) (gh := fun _ => false) ?_
  repeat' ((conv => whnf); first
    | (guard_target = Done _; refine Done.mk ?_)
    | (guard_target = RetX _ _; refine RetX.mk ?_ ?_)
    | (guard_target = Fact _ _; refine Fact.mk fun hL => ?_; (try simp only [List.length_map, maxLen] at hL))
    | (guard_target = Branch _ _ _; (first | refine Branch.dec (fun h => ?_) (fun h => ?_) | refine Branch.beq (fun h => ?_) (fun h => ?_) | refine Branch.bne (fun h => ?_) (fun h => ?_) | refine Branch.ndec (fun h => ?_) (fun h => ?_) | refine Branch.nb (fun h => ?_) (fun h => ?_) | refine Branch.mk (fun h => ?_) (fun h => ?_)) <;> (try simp only [List.length_map] at h) <;> (try omega) <;> (try contradiction))
    | (guard_target = Arith _ _ _; refine Arith.fit (wrap_fit (by first | omega | (simp only [List.length_map]; omega)) (by first | omega | (simp only [List.length_map]; omega))) ?_)
    | (guard_target = Arith _ _ _; refine Arith.fit (by decide) ?_)
    | (guard_target = Index _ _ _; first  | refine Index.mk _ (idx_map (by omega)) ?_)
    | (guard_target = Need (chkDraw _ = true) _; refine Need.mk (by kernel_rfl) ?_)
    | (guard_target = Need (chkRecs _ _ = true) _; refine Need.mk (by first | kernel_rfl | rfl) ?_)
    | (guard_target = Need _ _; refine Need.mk (by first | ((simp only [List.length_map, List.length_cons, List.length_nil, maxLen]; constructor <;> omega)) | omega | (simp only [List.length_map]; omega)) ?_))
  all_goals first | rfl | trivial
section
variable (a : XArchive) (s id : Int) (hl : budArchive a ≤ 1048576)
include hl
theorem RepairRests_bad (h : ¬ askN a s id = 0) : CallX Tryz.prog 37 [encA a, I s, I id] [] (resI [] (askN a s id)) := by
  refine callX_of_vc htb hm Tryz.func37 rfl rfl rfl rfl (ann := fun _ => none) (gh := fun _ => false) ?_
  repeat' ((conv => whnf); first
    | (guard_target = Done _; refine Done.mk ?_)
    | (guard_target = RetX _ _; refine RetX.mk ?_ ?_)
    | (guard_target = Fact _ _; refine Fact.mk fun hL => ?_; (try simp only [List.length_map, maxLen] at hL))
    | (guard_target = Branch _ _ _; (first | refine Branch.dec (fun h => ?_) (fun h => ?_) | refine Branch.beq (fun h => ?_) (fun h => ?_) | refine Branch.bne (fun h => ?_) (fun h => ?_) | refine Branch.ndec (fun h => ?_) (fun h => ?_) | refine Branch.nb (fun h => ?_) (fun h => ?_) | refine Branch.mk (fun h => ?_) (fun h => ?_)) <;> (try simp only [List.length_map] at h) <;> (try omega) <;> (try contradiction))
    | (guard_target = CallN _ 70 _ _ _ _; refine CallN.pure _ _ rfl (askServer_ok a s id hl) rfl _ rfl ?_)
    | (guard_target = Arith _ _ _; refine Arith.fit (wrap_fit (by first | omega | (simp only [List.length_map]; omega)) (by first | omega | (simp only [List.length_map]; omega))) ?_)
    | (guard_target = Arith _ _ _; refine Arith.fit (by decide) ?_)
    | (guard_target = Index _ _ _; first  | refine Index.mk _ (idx_map (by omega)) ?_)
    | (guard_target = Need (chkDraw _ = true) _; refine Need.mk (by kernel_rfl) ?_)
    | (guard_target = Need (chkRecs _ _ = true) _; refine Need.mk (by first | kernel_rfl | rfl) ?_)
    | (guard_target = Need _ _; refine Need.mk (by first  | omega | (simp only [List.length_map]; omega)) ?_))
  all_goals first | rfl | trivial
theorem RepairRests_no (h : askN a s id = 0) (hk : ¬ known (srvN a s) id) : CallX Tryz.prog 37 [encA a, I s, I id] [] (resI [] 6) := by
  have hg := srv_vn h
  have hq := askServer_ok a s id hl
  rw [h] at hq
  unfold known at hk
  refine callX_of_vc htb hm Tryz.func37 rfl rfl rfl rfl (ann := fun _ => none) (gh := fun _ => false) ?_
  repeat' ((conv => whnf); first
    | (guard_target = Done _; refine Done.mk ?_)
    | (guard_target = RetX _ _; refine RetX.mk ?_ ?_)
    | (guard_target = Fact _ _; refine Fact.mk fun hL => ?_; (try simp only [List.length_map, maxLen] at hL))
    | (guard_target = Branch _ _ _; (first | refine Branch.dec (fun h => ?_) (fun h => ?_) | refine Branch.beq (fun h => ?_) (fun h => ?_) | refine Branch.bne (fun h => ?_) (fun h => ?_) | refine Branch.ndec (fun h => ?_) (fun h => ?_) | refine Branch.nb (fun h => ?_) (fun h => ?_) | refine Branch.mk (fun h => ?_) (fun h => ?_)) <;> (try simp only [List.length_map] at h) <;> (try omega) <;> (try contradiction))
    | (guard_target = CallN _ 70 _ _ _ _; refine CallN.pure _ _ rfl (hq) rfl _ rfl ?_)
    | (guard_target = CallN _ 71 _ _ _ _; refine CallN.pure _ _ rfl (find_ok (srvN a s) false id) rfl _ rfl ?_)
    | (guard_target = Arith _ _ _; refine Arith.fit (wrap_fit (by first | omega | (simp only [List.length_map]; omega)) (by first | omega | (simp only [List.length_map]; omega))) ?_)
    | (guard_target = Arith _ _ _; refine Arith.fit (by decide) ?_)
    | (guard_target = Index _ _ _; first | refine Index.mk _ (idx_getD (d := s00) (i := s.toNat) hg.2.1) ?_ | refine Index.mk _ (idx_map (by omega)) ?_)
    | (guard_target = Need (chkDraw _ = true) _; refine Need.mk (by kernel_rfl) ?_)
    | (guard_target = Need (chkRecs _ _ = true) _; refine Need.mk (by first | kernel_rfl | rfl) ?_)
    | (guard_target = Need _ _; refine Need.mk (by first  | omega | (simp only [List.length_map]; omega)) ?_))
  all_goals first | rfl | trivial
theorem RepairRests_ok (h : askN a s id = 0) (hk : known (srvN a s) id) : CallX Tryz.prog 37 [encA a, I s, I id] [] (resI (repR (srvN a s) (restsN (srvN a s) id)).1 (repR (srvN a s) (restsN (srvN a s) id)).2) := by
  have hg := srv_vn h
  have hq := askServer_ok a s id hl
  rw [h] at hq
  have hv : VE (srvN a s) := VE.of (srv_notes (ask_ok h).1 hg.2.1).1
  have hlo := hg.2.2.1
  have hi0 : (a.servers.map encServer)[s.toNat]? = some (encServer (a.servers.getD s.toNat s00)) := idx_getD hg.2.1
  have hle : (a.servers.getD s.toNat s00).notes.length ≤ 20 := hg.2.2.2.1
  have hsv : s.toNat < a.servers.length := hg.2.1
  have hix : ((srvN a s).map encNote)[(spotN (srvN a s) false id).toNat]? = some (encNote (noteOf (srvN a s) id)) := idx_getD (know_idx hk)
  have hki := know_idx hk
  have hrk : ∀ i, i < (noteOf (srvN a s) id).entry.rests.length → known (srvN a s) ((noteOf (srvN a s) id).entry.rests.getD i 0) := fun i hi => by
    rw [getD_eq hi]
    exact (hv.vn.rests _ hk _ (List.getElem_mem hi)).1
  have hr4 : (noteOf (srvN a s) id).entry.rests.length ≤ 4 := hv.rl _ hk
  have hsnd := fun y (h : known (srvN a s) y) => isSound_ok (srvN a s) y hv.vn h
  have hr1 : ∀ y, soundB (srvN a s) y = true → repB (srvN a s) y = y := fun y h => by unfold repB; rw [if_pos h]
  have hr2 : ∀ y, soundB (srvN a s) y = false → repB (srvN a s) y = instB (srvN a s) y := fun y h => by unfold repB; rw [if_neg (by rw [h]; decide)]
  have hids := idsOf_ok (srvN a s) false hg.2.2.2.1
  show CallX Tryz.prog _ _ _ (resI (repR (srvN a s) (noteOf (srvN a s) id).entry.rests).1 (repR (srvN a s) (noteOf (srvN a s) id).entry.rests).2)
  have hneg : ∀ y, instK (srvN a s) y < 0 → instB (srvN a s) y < 0 := fun y h => by unfold instB; rw [if_pos h]; decide
  generalize hn : noteOf (srvN a s) id = n at *
  unfold known at hk
  generalize hS : soundB (srvN a s) = S at *
  refine callX_of_vc htb hm Tryz.func37 rfl rfl rfl rfl (ann := fun _ => none) (gh := fun _ => false) ?_
  repeat' ((conv => whnf); first
    | (guard_target = Done _; refine Done.mk ?_)
    | (guard_target = RetX _ _; refine RetX.mk ?_ ?_)
    | (guard_target =~ LoopE 10 _ _ _ _ _ _; refine LoopE.mk { α := List Int × Nat, keep := [9, 41, 42], ov := fun ⟨R, i⟩ => [(11, .lw 4), (43, I (i : Nat))], hv := fun ⟨R, i⟩ => [(4, .row none 2 1 (R.map eI))], φ := fun ⟨R, i⟩ => i ≤ n.entry.rests.length ∧ R = (n.entry.rests.take i).map (repB (srvN a s)) ∧ noNeg (srvN a s) n.entry.rests i, μ := fun ⟨R, i⟩ => n.entry.rests.length - i } (LoopN.mk (([], 0) : List Int × Nat) (by exact ⟨Nat.zero_le _, rfl, rfl⟩) (by (repeat' first | exact trivial | exact rfl | refine ⟨?_, ?_⟩); done) (by (repeat' first | exact trivial | exact rfl | refine ⟨?_, ?_⟩); done) (by (repeat' first | exact trivial | exact rfl | refine ⟨?_, ?_⟩ | (simp only [List.map_append, List.map_cons, List.map_nil, List.map_set]; first | done | rfl)); done) (fun A ha => ?_) (by intro A; first | rfl | (obtain ⟨_, _⟩ := A; rfl) | (obtain ⟨_, _, _⟩ := A; rfl))); obtain ⟨R, i⟩ := A; have ha : i ≤ n.entry.rests.length ∧ R = (n.entry.rests.take i).map (repB (srvN a s)) ∧ noNeg (srvN a s) n.entry.rests i := ha; have hRl : R.length = i := (by rw [ha.2.1, List.length_map, List.length_take]; omega))
    | (guard_target = Gh _ _ _ _ _; refine Gh.go ⟨((R ++ [n.entry.rests.getD i 0], i + 1) : List Int × Nat), (by (have hi : i < n.entry.rests.length := (by omega); have e := hr1 _ h; refine ⟨hi, ?_, noNeg_next hi ha.2.2 (by rw [e]; exact (hv.vn.range false _ (hrk i hi)).1)⟩; show R ++ _ = _; rw [← rep_next hi, e, ha.2.1])), (by first | (show _ < _; simp only []; omega) | omega | (simp; omega)), (by (repeat' first | exact trivial | exact rfl | refine ⟨?_, ?_⟩); done), (by (repeat' first | exact trivial | exact rfl | refine ⟨?_, ?_⟩); done), (by (repeat' first | exact trivial | exact rfl | refine ⟨?_, ?_⟩ | (simp only [List.map_append, List.map_cons, List.map_nil, List.map_set]; first | done | rfl)); done)⟩)
    | (guard_target = Gh _ _ _ _ _; refine Gh.go ⟨((R ++ [(sortI (idsN (srvN a s) false)).getD (instK (srvN a s) (n.entry.rests.getD i 0)).toNat 0], i + 1) : List Int × Nat), (by (have hi : i < n.entry.rests.length := (by omega); have e := hr2 (n.entry.rests.getD i 0) (by assumption); have hb := instB_some hv.vn h; refine ⟨hi, ?_, noNeg_next hi ha.2.2 (by rw [e]; exact hb.1)⟩; show R ++ _ = _; rw [← rep_next hi, e, ha.2.1, ← hb.2.1])), (by first | (show _ < _; simp only []; omega) | omega | (simp; omega)), (by (repeat' first | exact trivial | exact rfl | refine ⟨?_, ?_⟩); done), (by (repeat' first | exact trivial | exact rfl | refine ⟨?_, ?_⟩); done), (by (repeat' first | exact trivial | exact rfl | refine ⟨?_, ?_⟩ | (simp only [List.map_append, List.map_cons, List.map_nil, List.map_set]; first | done | rfl)); done)⟩)
    | (guard_target = Fact _ _; refine Fact.mk fun hL => ?_; (try simp only [List.length_map, maxLen] at hL))
    | (guard_target = Branch _ _ _; (first | refine Branch.dec (fun h => ?_) (fun h => ?_) | refine Branch.beq (fun h => ?_) (fun h => ?_) | refine Branch.bne (fun h => ?_) (fun h => ?_) | refine Branch.ndec (fun h => ?_) (fun h => ?_) | refine Branch.nb (fun h => ?_) (fun h => ?_) | refine Branch.mk (fun h => ?_) (fun h => ?_)) <;> (try simp only [List.length_map] at h) <;> (try omega) <;> (try contradiction))
    | (guard_target = CallN _ 70 _ _ _ _; refine CallN.pure _ _ rfl (hq) rfl _ rfl ?_)
    | (guard_target = CallN _ 71 _ _ _ _; refine CallN.pure _ _ rfl (find_ok (srvN a s) false id) rfl _ rfl ?_)
    | (guard_target = CallN _ 71 _ _ _ _; refine CallN.pure _ _ rfl (find_ok (srvN a s) false _) rfl _ rfl ?_)
    | (guard_target = CallN _ 83 _ _ _ _; refine CallN.pure _ _ rfl (hsnd (n.entry.rests.getD i 0) (hrk i (by omega))) rfl _ rfl ?_)
    | (guard_target = CallN _ 84 _ _ _ _; refine CallN.pure _ _ rfl (told_ok (noteOf (srvN a s) (n.entry.rests.getD i 0)).entry (hv.cl _ (hrk i (by omega))).1) rfl _ rfl ?_)
    | (guard_target = CallN _ 75 _ _ _ _; refine CallN.gen [] _ _ _ rfl (hids) rfl rfl _ rfl ?_)
    | (guard_target = CallN _ 85 _ _ _ _; refine CallN.pure _ _ rfl (IndexFuncE_ok (srvN a s) (sortI (idsN (srvN a s) false)) (lemE (noteOf (srvN a s) (n.entry.rests.getD i 0)).entry) hv ids_all) rfl _ rfl ?_)
    | (guard_target = CallN _ 88 _ _ _ _; refine CallN.pure _ _ rfl (areDifferent_ok R) rfl _ rfl ?_)
    | (guard_target = Arith _ _ _; refine Arith.fit (wrap_fit (by first | omega | (simp only [List.length_map]; omega)) (by first | omega | (simp only [List.length_map]; omega))) ?_)
    | (guard_target = Arith _ _ _; refine Arith.fit (by decide) ?_)
    | (guard_target = Index _ _ _; first | refine Index.mk _ (hi0) ?_ | refine Index.mk _ (hix) ?_ | refine Index.mk _ (idx_getD (d := 0) (i := i) (l := n.entry.rests) (by omega)) ?_ | refine Index.mk _ (idx_getD (d := n0) (i := (spotN (srvN a s) false (n.entry.rests.getD i 0)).toNat) (know_idx (hrk i (by omega)))) ?_ | refine Index.mk _ (idx_getD (d := 0) (i := (instK (srvN a s) (n.entry.rests.getD i 0)).toNat) (instB_some hv.vn h).2.2) ?_ | refine Index.mk _ (idx_map (by omega)) ?_)
    | (guard_target = Need (chkDraw _ = true) _; refine Need.mk (by kernel_rfl) ?_)
    | (guard_target = Need (chkRecs _ _ = true) _; refine Need.mk (by first | kernel_rfl | rfl) ?_)
    | (guard_target = Need _ _; refine Need.mk (by first | (exact hk) | (exact hrk i (by omega)) | ((have hb := instB_some hv.vn h; simp only [List.length_map]; exact ⟨by omega, hb.2.2⟩)) | ((simp only [List.length_map, List.length_cons, List.length_nil, maxLen]; constructor <;> omega)) | omega | (simp only [List.length_map]; omega)) ?_))
  all_goals first | rfl | trivial | (have h7 : R.Nodup := h; have h6 : n.entry.rests.length ≤ i := (by omega); have e9 := ha.2.1; rw [List.take_of_length_le h6] at e9; have h8 := any_end h6 ha.2.2; rw [e9] at h7 ⊢; rw [repR_yes h8 h7]; first | done | rfl) | (have h7 : ¬ R.Nodup := h; have h6 : n.entry.rests.length ≤ i := (by omega); have e9 := ha.2.1; rw [List.take_of_length_le h6] at e9; have h8 := any_end h6 ha.2.2; rw [e9] at h7; rw [repR_dup h8 h7]; first | done | rfl) | (have h7 : instK (srvN a s) (n.entry.rests.getD i 0) < 0 := h; rw [repR_no (i := i) (by omega) (by rw [hr2 _ (by assumption)]; exact hneg _ h)]; first | done | rfl)
theorem specRepairRests_bad (h : ¬ askN a s id = 0) : CallX Tryz.prog 36 [encA a, I s, I id] [] (resI [] (askN a s id)) := by
  refine callX_of_vc htb hm Tryz.func36 rfl rfl rfl rfl (ann := fun _ => none) (gh := fun _ => false) ?_
  repeat' ((conv => whnf); first
    | (guard_target = Done _; refine Done.mk ?_)
    | (guard_target = RetX _ _; refine RetX.mk ?_ ?_)
    | (guard_target = Fact _ _; refine Fact.mk fun hL => ?_; (try simp only [List.length_map, maxLen] at hL))
    | (guard_target = Branch _ _ _; (first | refine Branch.dec (fun h => ?_) (fun h => ?_) | refine Branch.beq (fun h => ?_) (fun h => ?_) | refine Branch.bne (fun h => ?_) (fun h => ?_) | refine Branch.ndec (fun h => ?_) (fun h => ?_) | refine Branch.nb (fun h => ?_) (fun h => ?_) | refine Branch.mk (fun h => ?_) (fun h => ?_)) <;> (try simp only [List.length_map] at h) <;> (try omega) <;> (try contradiction))
    | (guard_target = CallN _ 68 _ _ _ _; refine CallN.pure _ _ rfl (l08Asked_ok a s id hl) rfl _ rfl ?_)
    | (guard_target = Arith _ _ _; refine Arith.fit (wrap_fit (by first | omega | (simp only [List.length_map]; omega)) (by first | omega | (simp only [List.length_map]; omega))) ?_)
    | (guard_target = Arith _ _ _; refine Arith.fit (by decide) ?_)
    | (guard_target = Index _ _ _; first  | refine Index.mk _ (idx_map (by omega)) ?_)
    | (guard_target = Need (chkDraw _ = true) _; refine Need.mk (by kernel_rfl) ?_)
    | (guard_target = Need (chkRecs _ _ = true) _; refine Need.mk (by first | kernel_rfl | rfl) ?_)
    | (guard_target = Need _ _; refine Need.mk (by first  | omega | (simp only [List.length_map]; omega)) ?_))
  all_goals first | rfl | trivial
theorem specRepairRests_no (h : askN a s id = 0) (hk : ¬ known (srvN a s) id) : CallX Tryz.prog 36 [encA a, I s, I id] [] (resI [] 6) := by
  have hg := srv_vn h
  have hq := l08Asked_ok a s id hl
  rw [h] at hq
  unfold known at hk
  refine callX_of_vc htb hm Tryz.func36 rfl rfl rfl rfl (ann := fun _ => none) (gh := fun _ => false) ?_
  repeat' ((conv => whnf); first
    | (guard_target = Done _; refine Done.mk ?_)
    | (guard_target = RetX _ _; refine RetX.mk ?_ ?_)
    | (guard_target = Fact _ _; refine Fact.mk fun hL => ?_; (try simp only [List.length_map, maxLen] at hL))
    | (guard_target = Branch _ _ _; (first | refine Branch.dec (fun h => ?_) (fun h => ?_) | refine Branch.beq (fun h => ?_) (fun h => ?_) | refine Branch.bne (fun h => ?_) (fun h => ?_) | refine Branch.ndec (fun h => ?_) (fun h => ?_) | refine Branch.nb (fun h => ?_) (fun h => ?_) | refine Branch.mk (fun h => ?_) (fun h => ?_)) <;> (try simp only [List.length_map] at h) <;> (try omega) <;> (try contradiction))
    | (guard_target = CallN _ 68 _ _ _ _; refine CallN.pure _ _ rfl (hq) rfl _ rfl ?_)
    | (guard_target = CallN _ 69 _ _ _ _; refine CallN.pure _ _ rfl (l08Spot_ok (srvN a s) false id) rfl _ rfl ?_)
    | (guard_target = Arith _ _ _; refine Arith.fit (wrap_fit (by first | omega | (simp only [List.length_map]; omega)) (by first | omega | (simp only [List.length_map]; omega))) ?_)
    | (guard_target = Arith _ _ _; refine Arith.fit (by decide) ?_)
    | (guard_target = Index _ _ _; first | refine Index.mk _ (idx_getD (d := s00) (i := s.toNat) hg.2.1) ?_ | refine Index.mk _ (idx_map (by omega)) ?_)
    | (guard_target = Need (chkDraw _ = true) _; refine Need.mk (by kernel_rfl) ?_)
    | (guard_target = Need (chkRecs _ _ = true) _; refine Need.mk (by first | kernel_rfl | rfl) ?_)
    | (guard_target = Need _ _; refine Need.mk (by first  | omega | (simp only [List.length_map]; omega)) ?_))
  all_goals first | rfl | trivial
theorem specRepairRests_ok (h : askN a s id = 0) (hk : known (srvN a s) id) : CallX Tryz.prog 36 [encA a, I s, I id] [] (resI (repR (srvN a s) (restsN (srvN a s) id)).1 (repR (srvN a s) (restsN (srvN a s) id)).2) := by
  have hg := srv_vn h
  have hq := l08Asked_ok a s id hl
  rw [h] at hq
  have hgn := (srv_notes (ask_ok h).1 hg.2.1).1
  have hv : VE (srvN a s) := VE.of hgn
  have hlo := hg.2.2.1
  have hi0 : (a.servers.map encServer)[s.toNat]? = some (encServer (a.servers.getD s.toNat s00)) := idx_getD hg.2.1
  have hle : (a.servers.getD s.toNat s00).notes.length ≤ 20 := hg.2.2.2.1
  have hsv : s.toNat < a.servers.length := hg.2.1
  have hix : ((srvN a s).map encNote)[(spotN (srvN a s) false id).toNat]? = some (encNote (noteOf (srvN a s) id)) := idx_getD (know_idx hk)
  have hki := know_idx hk
  have hrk : ∀ i, i < (noteOf (srvN a s) id).entry.rests.length → known (srvN a s) ((noteOf (srvN a s) id).entry.rests.getD i 0) := fun i hi => by
    rw [getD_eq hi]
    exact (hv.vn.rests _ hk _ (List.getElem_mem hi)).1
  have hr4 : (noteOf (srvN a s) id).entry.rests.length ≤ 4 := hv.rl _ hk
  have hsnd := fun y (h : known (srvN a s) y) => l08Clean_ok (srvN a s) y hv.vn h
  have hins := fun y (h : known (srvN a s) y) => l08Instead_ok (srvN a s) y hv h (ids_sel hgn false)
  have hr1 : ∀ y, soundB (srvN a s) y = true → repB (srvN a s) y = y := fun y h => by unfold repB; rw [if_pos h]
  have hr2 : ∀ y, soundB (srvN a s) y = false → repB (srvN a s) y = instB (srvN a s) y := fun y h => by unfold repB; rw [if_neg (by rw [h]; decide)]
  show CallX Tryz.prog _ _ _ (resI (repR (srvN a s) (noteOf (srvN a s) id).entry.rests).1 (repR (srvN a s) (noteOf (srvN a s) id).entry.rests).2)
  have how := l00Own_ok (noteOf (srvN a s) id).entry.rests (by omega)
  generalize hn : noteOf (srvN a s) id = n at *
  unfold known at hk
  generalize hS : soundB (srvN a s) = S at *
  generalize hE : instB (srvN a s) = E at *
  refine callX_of_vc htb hm Tryz.func36 rfl rfl rfl rfl (ann := fun _ => none) (gh := fun _ => false) ?_
  repeat' ((conv => whnf); first
    | (guard_target = Done _; refine Done.mk ?_)
    | (guard_target = RetX _ _; refine RetX.mk ?_ ?_)
    | (guard_target =~ LoopE 10 _ _ _ _ _ _; refine LoopE.mk { α := List Int × Nat, keep := [9, 11], ov := fun ⟨M, i⟩ => [(12, I (i : Nat))], hv := fun ⟨M, i⟩ => [(2, .row none 2 1 (M.map eI))], φ := fun ⟨M, i⟩ => i ≤ n.entry.rests.length ∧ M = (n.entry.rests.take i).map (repB (srvN a s)) ++ n.entry.rests.drop i ∧ noNeg (srvN a s) n.entry.rests i, μ := fun ⟨M, i⟩ => n.entry.rests.length - i } (LoopN.mk ((n.entry.rests, 0) : List Int × Nat) (by exact ⟨Nat.zero_le _, rfl, rfl⟩) (by (repeat' first | exact trivial | exact rfl | refine ⟨?_, ?_⟩); done) (by (repeat' first | exact trivial | exact rfl | refine ⟨?_, ?_⟩); done) (by (repeat' first | exact trivial | exact rfl | refine ⟨?_, ?_⟩ | (simp only [List.map_append, List.map_cons, List.map_nil, List.map_set]; first | done | rfl)); done) (fun A ha => ?_) (by intro A; first | rfl | (obtain ⟨_, _⟩ := A; rfl) | (obtain ⟨_, _, _⟩ := A; rfl))); obtain ⟨M, i⟩ := A; have ha : i ≤ n.entry.rests.length ∧ M = (n.entry.rests.take i).map (repB (srvN a s)) ++ n.entry.rests.drop i ∧ noNeg (srvN a s) n.entry.rests i := ha; have hMl : M.length = n.entry.rests.length := (by rw [ha.2.1, cur_len]); have hMg : i < n.entry.rests.length → M.getD i 0 = n.entry.rests.getD i 0 := (fun hi => by rw [ha.2.1, cur_get _ hi]); have hA1 := ha)
    | (guard_target =~ LoopE 17 _ _ _ _ _ _; refine LoopE.mk { α := Nat, keep := [11], ov := fun u => [(13, I (u : Nat))], φ := fun u => u ≤ M.length ∧ (M.take u).Nodup, μ := fun u => M.length - u } (LoopN.mk (0 : Nat) (by exact ⟨Nat.zero_le _, by simp⟩) (by (repeat' first | exact trivial | exact rfl | refine ⟨?_, ?_⟩); done) (by (repeat' first | exact trivial | exact rfl | refine ⟨?_, ?_⟩); done) (by (repeat' first | exact trivial | exact rfl | refine ⟨?_, ?_⟩ | (simp only [List.map_append, List.map_cons, List.map_nil, List.map_set]; first | done | rfl)); done) (fun (u : Nat) ha => ?_) (by intro A; first | rfl | (obtain ⟨_, _⟩ := A; rfl) | (obtain ⟨_, _, _⟩ := A; rfl))); have ha : u ≤ M.length ∧ (M.take u).Nodup := ha; have hA2 := ha)
    | (guard_target =~ LoopE 20 _ _ _ _ _ _; refine LoopE.mk { α := Nat, keep := [11, 13], ov := fun k => [(14, I (k : Nat))], φ := fun k => k ≤ M.length ∧ (M.take k).all (fun y => !(decide (M.getD u 0 = y))) = true, μ := fun k => u - k } (LoopN.mk (0 : Nat) (by exact ⟨Nat.zero_le _, rfl⟩) (by (repeat' first | exact trivial | exact rfl | refine ⟨?_, ?_⟩); done) (by (repeat' first | exact trivial | exact rfl | refine ⟨?_, ?_⟩); done) (by (repeat' first | exact trivial | exact rfl | refine ⟨?_, ?_⟩ | (simp only [List.map_append, List.map_cons, List.map_nil, List.map_set]; first | done | rfl)); done) (fun (k : Nat) ha => ?_) (by intro A; first | rfl | (obtain ⟨_, _⟩ := A; rfl) | (obtain ⟨_, _, _⟩ := A; rfl))); have ha : k ≤ M.length ∧ (M.take k).all (fun y => !(decide (M.getD u 0 = y))) = true := ha; have hA3 := ha)
    | (guard_target = Gh _ _ _ _ _; refine Gh.go ⟨((M, i + 1) : List Int × Nat), (by (have hi : i < n.entry.rests.length := (by omega); rw [hMg hi] at h; have e := hr1 _ h; refine ⟨hi, ?_, noNeg_next hi ha.2.2 (by rw [e]; exact (hv.vn.range false _ (hrk i hi)).1)⟩; show M = _; rw [← cur_keep hi e, ha.2.1])), (by first | (show _ < _; simp only []; omega) | omega | (simp; omega)), (by (repeat' first | exact trivial | exact rfl | refine ⟨?_, ?_⟩); done), (by (repeat' first | exact trivial | exact rfl | refine ⟨?_, ?_⟩); done), (by (repeat' first | exact trivial | exact rfl | refine ⟨?_, ?_⟩ | (simp only [List.map_append, List.map_cons, List.map_nil, List.map_set]; first | done | rfl)); done)⟩)
    | (guard_target = Gh _ _ _ _ _; refine Gh.go ⟨((M.set i (E (M.getD i 0)), i + 1) : List Int × Nat), (by (have hi : i < n.entry.rests.length := (by omega); have h2 : S (M.getD i 0) = false := (by assumption); rw [hMg hi] at h h2; have e := hr2 _ h2; refine ⟨hi, ?_, noNeg_next hi ha.2.2 (by rw [e]; omega)⟩; show M.set i (E (M.getD i 0)) = _; rw [hMg hi, ← e, ← cur_set hi, ha.2.1])), (by first | (show _ < _; simp only []; omega) | omega | (simp; omega)), (by (repeat' first | exact trivial | exact rfl | refine ⟨?_, ?_⟩); done), (by (repeat' first | exact trivial | exact rfl | refine ⟨?_, ?_⟩); done), (by (repeat' first | exact trivial | exact rfl | refine ⟨?_, ?_⟩ | (simp only [List.map_append, List.map_cons, List.map_nil, List.map_set]; first | done | rfl)); done)⟩)
    | (guard_target = Gh _ _ _ _ _; refine Gh.go ⟨(k + 1 : Nat), (by (exact all_go (by omega) ⟨hA3.1, hA3.2⟩ (by rw [← getD_eq (d := 0) (by omega)]; rw [decide_eq_false h]; rfl))), (by first | (show _ < _; simp only []; omega) | omega | (simp; omega)), (by (repeat' first | exact trivial | exact rfl | refine ⟨?_, ?_⟩); done), (by (repeat' first | exact trivial | exact rfl | refine ⟨?_, ?_⟩); done), (by (repeat' first | exact trivial | exact rfl | refine ⟨?_, ?_⟩ | (simp only [List.map_append, List.map_cons, List.map_nil, List.map_set]; first | done | rfl)); done)⟩)
    | (guard_target = Gh _ _ _ _ _; refine Gh.go ⟨(u + 1 : Nat), (by (have hu : u < M.length := (by omega); refine ⟨hu, nodup_next hu hA2.2 fun hm9 => ?_⟩; have h8 := List.all_eq_true.1 ha.2 M[u] (by have : u ≤ k := (by omega); exact (List.take_subset_take_left _ this) hm9); rw [getD_eq hu] at h8; simp at h8)), (by first | (show _ < _; simp only []; omega) | omega | (simp; omega)), (by (repeat' first | exact trivial | exact rfl | refine ⟨?_, ?_⟩); done), (by (repeat' first | exact trivial | exact rfl | refine ⟨?_, ?_⟩); done), (by (repeat' first | exact trivial | exact rfl | refine ⟨?_, ?_⟩ | (simp only [List.map_append, List.map_cons, List.map_nil, List.map_set]; first | done | rfl)); done)⟩)
    | (guard_target = Fact _ _; refine Fact.mk fun hL => ?_; (try simp only [List.length_map, maxLen] at hL))
    | (guard_target = Branch _ _ _; (first | refine Branch.dec (fun h => ?_) (fun h => ?_) | refine Branch.beq (fun h => ?_) (fun h => ?_) | refine Branch.bne (fun h => ?_) (fun h => ?_) | refine Branch.ndec (fun h => ?_) (fun h => ?_) | refine Branch.nb (fun h => ?_) (fun h => ?_) | refine Branch.mk (fun h => ?_) (fun h => ?_)) <;> (try simp only [List.length_map] at h) <;> (try omega) <;> (try contradiction))
    | (guard_target = CallN _ 68 _ _ _ _; refine CallN.pure _ _ rfl (hq) rfl _ rfl ?_)
    | (guard_target = CallN _ 69 _ _ _ _; refine CallN.pure _ _ rfl (l08Spot_ok (srvN a s) false id) rfl _ rfl ?_)
    | (guard_target = CallN _ 80 _ _ _ _; refine CallN.gen [] _ _ _ rfl (how) rfl rfl _ rfl ?_)
    | (guard_target = CallN _ 81 _ _ _ _; refine CallN.pure _ _ rfl (hsnd (M.getD i 0) (by rw [hMg (by omega)]; exact hrk i (by omega))) rfl _ rfl ?_)
    | (guard_target = CallN _ 82 _ _ _ _; refine CallN.pure _ _ rfl (hins (M.getD i 0) (by rw [hMg (by omega)]; exact hrk i (by omega))) rfl _ rfl ?_)
    | (guard_target = Arith _ _ _; refine Arith.fit (wrap_fit (by first | omega | (simp only [List.length_map]; omega)) (by first | omega | (simp only [List.length_map]; omega))) ?_)
    | (guard_target = Arith _ _ _; refine Arith.fit (by decide) ?_)
    | (guard_target = Index _ _ _; first | refine Index.mk _ (hi0) ?_ | refine Index.mk _ (hix) ?_ | refine Index.mk _ (idx_getD (d := 0) (i := i) (l := M) (by omega)) ?_ | refine Index.mk _ ((List.getElem?_set_self (by simp only [List.length_map]; omega))) ?_ | refine Index.mk _ (idx_getD (d := 0) (i := u) (l := M) (by omega)) ?_ | refine Index.mk _ (idx_getD (d := 0) (i := k) (l := M) (by omega)) ?_ | refine Index.mk _ (idx_map (by omega)) ?_)
    | (guard_target = Need (chkDraw _ = true) _; refine Need.mk (by kernel_rfl) ?_)
    | (guard_target = Need (chkRecs _ _ = true) _; refine Need.mk (by first | kernel_rfl | rfl) ?_)
    | (guard_target = Need _ _; refine Need.mk (by first | (exact hk) | ((rw [List.length_set, List.length_map]; omega)) | ((simp only [List.length_map, List.length_cons, List.length_nil, maxLen]; constructor <;> omega)) | omega | (simp only [List.length_map]; omega)) ?_))
  all_goals first | rfl | trivial | (have h7 : E (M.getD i 0) < 0 := h; have hi : i < n.entry.rests.length := (by omega); have h2 : S (M.getD i 0) = false := (by assumption); rw [hMg hi] at h7 h2; rw [repR_no hi (by rw [hr2 _ h2]; exact h7)]; first | done | rfl) | (have h7 : M.getD u 0 = M.getD k 0 := h; have h6 : n.entry.rests.length ≤ i := (by omega); have e9 := hA1.2.1; rw [List.take_of_length_le h6, List.drop_of_length_le h6, List.append_nil] at e9; have h8 := any_end h6 hA1.2.2; have hu : u < M.length := (by omega); have hku : k < u := (by omega); have hkm : k < M.length := (by omega); rw [getD_eq hu, getD_eq hkm] at h7; have h5 : ¬ M.Nodup := (nodup_no hu (by rw [h7]; exact List.mem_iff_getElem.2 ⟨k, by rw [List.length_take]; omega, by rw [List.getElem_take]⟩)); rw [e9] at h5; rw [repR_dup h8 h5]; first | done | rfl) | (have h7 : ¬ ((u : Nat) : Int) < ((M.length : Nat) : Int) := h; have h6 : n.entry.rests.length ≤ i := (by omega); have e9 := hA1.2.1; rw [List.take_of_length_le h6, List.drop_of_length_le h6, List.append_nil] at e9; have h8 := any_end h6 hA1.2.2; have h5 := ha.2; have hu : M.length ≤ u := (by omega); rw [List.take_of_length_le hu, e9] at h5; rw [e9, repR_yes h8 h5]; first | done | rfl)
end
theorem RepairRests_big (a : XArchive) (s id : Int) (hl : ¬ budArchive a ≤ 1048576) : CallF Tryz.prog 10 [encA a, I s, I id] (B true) := by
  have hz := szArchive_ok a 1048576 (by omega)
  rw [szr_neg (by omega)] at hz
  refine callF_of_vc htb hm Tryz.func10 rfl rfl rfl rfl (ann := fun _ => none) (gh := fun _ => false) ?_
  repeat' ((conv => whnf); first
    | (guard_target = Done _; refine Done.mk ?_; first | (rfl; done) | skip)
    | (guard_target = RetX _ _; refine RetX.mk ?_ ?_)
    | (guard_target = Fact _ _; refine Fact.mk fun hL => ?_; (try simp only [List.length_map, maxLen] at hL))
    | (guard_target = Branch _ _ _; (first | refine Branch.dec (fun h => ?_) (fun h => ?_) | refine Branch.beq (fun h => ?_) (fun h => ?_) | refine Branch.bne (fun h => ?_) (fun h => ?_) | refine Branch.ndec (fun h => ?_) (fun h => ?_) | refine Branch.nb (fun h => ?_) (fun h => ?_) | refine Branch.mk (fun h => ?_) (fun h => ?_)) <;> (try simp only [List.length_map] at h) <;> (try omega) <;> (try contradiction))
    | (guard_target = CallN _ 12 _ _ _ _; refine CallN.pure _ _ rfl (hz) rfl _ rfl ?_)
    | (guard_target = Arith _ _ _; refine Arith.fit (wrap_fit (by first | omega | (simp only [List.length_map]; omega)) (by first | omega | (simp only [List.length_map]; omega))) ?_)
    | (guard_target = Arith _ _ _; refine Arith.fit (by decide) ?_)
    | (guard_target = Index _ _ _; first  | refine Index.mk _ (idx_map (by omega)) ?_)
    | (guard_target = Need (chkDraw _ = true) _; refine Need.mk (by kernel_rfl) ?_)
    | (guard_target = Need (chkRecs _ _ = true) _; refine Need.mk (by first | kernel_rfl | rfl) ?_)
    | (guard_target = Need _ _; refine Need.mk (by first  | omega | (simp only [List.length_map]; omega)) ?_))
theorem RepairRests_same (a : XArchive) (s id : Int) (hl : budArchive a ≤ 1048576) (l : List Int) (c : Int) (hll : l.length ≤ 1000000) (hs0 : CallX Tryz.prog 36 [encA a, I s, I id] [] (resI l c)) (hi0 : CallX Tryz.prog 37 [encA a, I s, I id] [] (resI l c)) : CallF Tryz.prog 10 [encA a, I s, I id] (B true) := by
  have hz := szArchive_ok a 1048576 (by omega)
  rw [szr_eq hl] at hz
  have hs : CallX Tryz.prog 36 [.a 4 (roL (ownArchive a)), I s, I id] [] (resI l c) := by rw [roArchive]; exact hs0
  have hi : CallX Tryz.prog 37 [.a 4 (roL (ownArchive a)), I s, I id] [] (resI l c) := by rw [roArchive]; exact hi0
  have hk := mkArch_le a hl
  have hp := pure_resI l c
  refine callF_of_vc htb hm Tryz.func10 rfl rfl rfl rfl (ann := fun _ => none) (gh := fun _ => false) ?_
  repeat' ((conv => whnf); first
    | (guard_target = Done _; refine Done.mk ?_; first | (rfl; done) | skip)
    | (guard_target = RetX _ _; refine RetX.mk ?_ ?_)
    | (guard_target = Fact _ _; refine Fact.mk fun hL => ?_; (try simp only [List.length_map, maxLen] at hL))
    | (guard_target = Branch _ _ _; (first | refine Branch.dec (fun h => ?_) (fun h => ?_) | refine Branch.beq (fun h => ?_) (fun h => ?_) | refine Branch.bne (fun h => ?_) (fun h => ?_) | refine Branch.ndec (fun h => ?_) (fun h => ?_) | refine Branch.nb (fun h => ?_) (fun h => ?_) | refine Branch.mk (fun h => ?_) (fun h => ?_)) <;> (try simp only [List.length_map] at h) <;> (try omega) <;> (try contradiction))
    | (guard_target = CallN _ 12 _ _ _ _; refine CallN.pure _ _ rfl (hz) rfl _ rfl ?_)
    | (guard_target = CallN _ 14 _ _ _ _; refine CallN.gen [] _ _ _ rfl (toArchive_ok a hl) rfl rfl _ rfl ?_)
    | (guard_target = CallN _ 24 _ _ _ _; refine CallN.pure _ _ rfl (eqI_told l) rfl _ rfl ?_)
    | (guard_target = CallN _ 16 _ _ _ _; refine CallN.pure _ _ rfl (eqArch_own a) rfl _ rfl ?_)
    | (guard_target = CallN _ 25 _ _ _ _; refine CallN.gen [true, false] _ _ _ rfl (markArchive_ok a 1 (by omega) (by omega)) rfl rfl _ rfl ?_)
    | (guard_target = CallN _ 26 _ _ _ _; refine CallN.gen [true, false] _ _ _ rfl (markInt64S_told l 1 (by omega) (by omega)) rfl rfl _ rfl ?_)
    | (guard_target = CallN _ 27 _ _ _ _; refine CallN.pure _ _ rfl (heldInt64S_told l.length 1 (by omega) (by omega)) rfl _ rfl ?_)
    | (guard_target = CallN _ 36 _ _ _ _; refine CallN.own _ _ rfl hs hp _ rfl ?_)
    | (guard_target = CallN _ 37 _ _ _ _; refine CallN.own _ _ rfl hi hp _ rfl ?_)
    | (guard_target = Arith _ _ _; refine Arith.fit (wrap_fit (by first | omega | (simp only [List.length_map]; omega)) (by first | omega | (simp only [List.length_map]; omega))) ?_)
    | (guard_target = Arith _ _ _; refine Arith.fit (by decide) ?_)
    | (guard_target = Index _ _ _; first  | refine Index.mk _ (idx_map (by omega)) ?_)
    | (guard_target = Need (chkDraw _ = true) _; refine Need.mk (by kernel_rfl) ?_)
    | (guard_target = Need (chkRecs _ _ = true) _; refine Need.mk (by first | kernel_rfl | rfl) ?_)
    | (guard_target = Need _ _; refine Need.mk (by first  | omega | (simp only [List.length_map]; omega)) ?_))
theorem RepairRests_law (a : XArchive) (s id : Int) : CallF Tryz.prog 10 [encA a, I s, I id] (B true) := by
  by_cases hl : budArchive a ≤ 1048576
  case neg => exact RepairRests_big a s id hl
  by_cases h : askN a s id = 0
  · by_cases hk : known (srvN a s) id
    · have hv : VE (srvN a s) := VE.of (srv_notes (ask_ok h).1 (srv_vn h).2.1).1
      have h2 := repR_len (srvN a s) (restsN (srvN a s) id)
      have h3 := hv.rl _ hk
      exact RepairRests_same a s id hl _ _ (by omega) (specRepairRests_ok a s id hl h hk) (RepairRests_ok a s id hl h hk)
    · exact RepairRests_same a s id hl [] _ (by simp) (specRepairRests_no a s id hl h hk) (RepairRests_no a s id hl h hk)
  · exact RepairRests_same a s id hl [] _ (by simp) (specRepairRests_bad a s id hl h) (RepairRests_bad a s id hl h)
end Go.Proofs.YtbbaadkgmdkjdaaGreat
