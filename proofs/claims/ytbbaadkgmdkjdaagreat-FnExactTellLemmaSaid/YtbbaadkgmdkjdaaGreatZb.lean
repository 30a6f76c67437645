/- Contracts of the functions that look whether events are valid. No conditions. -/
import Derived.Test.YtbbaadkgmdkjdaaGreatZa
namespace Go.Proofs.YtbbaadkgmdkjdaaGreat
open Go Go.KA Go.Proofs
set_option maxHeartbeats 16000000
set_option maxRecDepth 100000
def goodEvent (t a : Int) (e : XEvent) : Bool :=
  rng 1 9 e.kind && (rng 0 999 e.a && (rng 0 999 e.b && (rng 0 999 e.c && ((decide (e.kind = 2) || (decide (e.kind = 3) || decide (e.b = 0))) && ((decide (e.kind = 3) || decide (e.c = 0)) &&
    (if e.kind = 1 then goodEntry t a e.rests e.proof && ((e.votes.length : Int) == 5) else decide ((e.rests.length : Int) = 0) && (zeroP e.proof && ((e.votes.length : Int) == 0))))))))
def usesN (k : Int) : Int := if k = 2 then 2 else if k = 3 then 3 else 1
theorem l08Uses_ok (k : Int) : CallF Tryz.prog 115 [I k] (I (usesN k)) := by
  refine callF_of_vc htb hm Tryz.func115 rfl rfl rfl rfl (ann := fun _ => none) (gh := fun _ => false) ?_
  repeat' ((conv => whnf); first
    | (guard_target = Done _; refine Done.mk ?_; first | ((simp_all [usesN, normS, normV]; done); done) | skip)
    | (guard_target = RetX _ _; refine RetX.mk ?_ ?_)
    | (guard_target = Fact _ _; refine Fact.mk fun hL => ?_; (try simp only [List.length_map, maxLen] at hL))
    | (guard_target = Branch _ _ _; (first | refine Branch.dec (fun h => ?_) (fun h => ?_) | refine Branch.beq (fun h => ?_) (fun h => ?_) | refine Branch.bne (fun h => ?_) (fun h => ?_) | refine Branch.ndec (fun h => ?_) (fun h => ?_) | refine Branch.nb (fun h => ?_) (fun h => ?_) | refine Branch.mk (fun h => ?_) (fun h => ?_)) <;> (try simp only [List.length_map] at h) <;> (try omega) <;> (try contradiction))
    | (guard_target = Arith _ _ _; refine Arith.fit (wrap_fit (by first | omega | (simp only [List.length_map]; omega)) (by first | omega | (simp only [List.length_map]; omega))) ?_)
    | (guard_target = Arith _ _ _; refine Arith.fit (by decide) ?_)
    | (guard_target = Index _ _ _; first  | refine Index.mk _ (idx_map (by omega)) ?_)
    | (guard_target = Need (chkDraw _ = true) _; refine Need.mk (by kernel_rfl) ?_)
    | (guard_target = Need (chkRecs _ _ = true) _; refine Need.mk (by first | kernel_rfl | rfl) ?_)
    | (guard_target = Need _ _; refine Need.mk (by first  | omega | (simp only [List.length_map]; omega)) ?_))
theorem usesN_or (k : Int) : (k = 2 ∧ usesN k = 2) ∨ (k = 3 ∧ usesN k = 3) ∨ (¬ k = 2 ∧ ¬ k = 3 ∧ usesN k = 1) := by
  unfold usesN
  by_cases h2 : k = 2
  · exact .inl ⟨h2, by rw [if_pos h2]⟩
  · by_cases h3 : k = 3
    · exact .inr (.inl ⟨h3, by rw [if_neg h2, if_pos h3]⟩)
    · exact .inr (.inr ⟨h2, h3, by rw [if_neg h2, if_neg h3]⟩)
theorem isEvent_ok (t a : Int) (e : XEvent) (hl : budProof e.proof ≤ 1048576) : CallF Tryz.prog 65 [.a 2 [J t, J a], .a 9 (encEvent e)] (B (goodEvent t a e)) := by
  refine callF_of_vc htb hm Tryz.func65 rfl rfl rfl rfl (ann := fun _ => none) (gh := fun _ => false) ?_
  repeat' ((conv => whnf); first
    | (guard_target = Done _; refine Done.mk ?_; first | (rfl; done) | (simp_all [goodEvent, normS, normV]; done) | (simp_all [goodEvent, normS, normV]; omega; done) | (simp_all [goodEvent, normS, normV]; intros; omega; done) | (simp_all [-List.all_eq_true, -List.all_eq_false, goodEvent, normS, normV]; done) | (simp_all [-List.all_eq_true, -List.all_eq_false, goodEvent, normS, normV]; omega; done) | ((simp only [List.length_map]; simp_all [goodEvent, normS, normV]; done); done) | ((simp only [List.length_map]; simp_all [goodEvent, normS, normV]; omega); done) | skip)
    | (guard_target = RetX _ _; refine RetX.mk ?_ ?_)
    | (guard_target = Fact _ _; refine Fact.mk fun hL => ?_; (try simp only [List.length_map, maxLen] at hL))
    | (guard_target = Branch _ _ _; (first | refine Branch.dec (fun h => ?_) (fun h => ?_) | refine Branch.beq (fun h => ?_) (fun h => ?_) | refine Branch.bne (fun h => ?_) (fun h => ?_) | refine Branch.ndec (fun h => ?_) (fun h => ?_) | refine Branch.nb (fun h => ?_) (fun h => ?_) | refine Branch.mk (fun h => ?_) (fun h => ?_)) <;> (try simp only [List.length_map] at h) <;> (try omega) <;> (try contradiction))
    | (guard_target = CallN _ 51 _ _ _ _; refine CallN.pure _ _ rfl (within_ok _ _ _) rfl _ rfl ?_)
    | (guard_target = CallN _ 109 _ _ _ _; refine CallN.pure _ _ rfl (isEntry_ok t a e.rests e.proof hl) rfl _ rfl ?_)
    | (guard_target = CallN _ 119 _ _ _ _; refine CallN.pure _ _ rfl (isNoProof_ok e.proof) rfl _ rfl ?_)
    | (guard_target = Arith _ _ _; refine Arith.fit (wrap_fit (by first | omega | (simp only [List.length_map]; omega)) (by first | omega | (simp only [List.length_map]; omega))) ?_)
    | (guard_target = Arith _ _ _; refine Arith.fit (by decide) ?_)
    | (guard_target = Index _ _ _; first  | refine Index.mk _ (idx_map (by omega)) ?_)
    | (guard_target = Need (chkDraw _ = true) _; refine Need.mk (by kernel_rfl) ?_)
    | (guard_target = Need (chkRecs _ _ = true) _; refine Need.mk (by first | kernel_rfl | rfl) ?_)
    | (guard_target = Need _ _; refine Need.mk (by first  | omega | (simp only [List.length_map]; omega)) ?_))
theorem l08Event_ok (x : XArchive) (e : XEvent) (hl : budProof e.proof ≤ 1048576) : CallF Tryz.prog 62 [.c (.rp 4 (encArchive x)), .c (.rp 9 (encEvent e))] (B (goodEvent x.sig.tests x.sig.actions e)) := by
  have hr : CallF Tryz.prog 116 [.a 2 [J x.sig.tests, J x.sig.actions], .c (.ro 1 (e.rests.map eI)), .c (.rp 4 ((encEvent e).drop 5))] (B (goodEntry x.sig.tests x.sig.actions e.rests e.proof)) := (l08Rests_ok _ _ e.rests e.proof hl).cut (.same (.same (.cut (k := 3) (by omega) .nil)))
  have he : CallF Tryz.prog 117 [.c (.rp 4 ((encEvent e).drop 5))] (B (zeroP e.proof)) := (l08Empty_ok e.proof).cut (.cut (k := 3) (by omega) .nil)
  have hu := usesN_or e.kind
  refine callF_of_vc htb hm Tryz.func62 rfl rfl rfl rfl (ann := fun _ => none) (gh := fun _ => false) ?_
  repeat' ((conv => whnf); first
    | (guard_target = Done _; refine Done.mk ?_; first | (rfl; done) | (simp_all [goodEvent, normS, normV]; done) | (simp_all [goodEvent, normS, normV]; omega; done) | (simp_all [goodEvent, normS, normV]; intros; omega; done) | (simp_all [-List.all_eq_true, -List.all_eq_false, goodEvent, normS, normV]; done) | (simp_all [-List.all_eq_true, -List.all_eq_false, goodEvent, normS, normV]; omega; done) | ((simp only [List.length_map]; rcases hu with ⟨u1, u2⟩ | ⟨u1, u2⟩ | ⟨u1, u3, u2⟩ <;> rw [u2] at * <;> simp_all [goodEvent, normS, normV]; done); done) | ((simp only [List.length_map]; rcases hu with ⟨u1, u2⟩ | ⟨u1, u2⟩ | ⟨u1, u3, u2⟩ <;> rw [u2] at * <;> simp_all [goodEvent, normS, normV] <;> omega); done) | ((have hk : e.kind = 3 := (by omega); clear hu; simp only [List.length_map]; simp_all [goodEvent, normS, normV]; done); done) | skip)
    | (guard_target = RetX _ _; refine RetX.mk ?_ ?_)
    | (guard_target = Fact _ _; refine Fact.mk fun hL => ?_; (try simp only [List.length_map, maxLen] at hL))
    | (guard_target = Branch _ _ _; (first | refine Branch.dec (fun h => ?_) (fun h => ?_) | refine Branch.beq (fun h => ?_) (fun h => ?_) | refine Branch.bne (fun h => ?_) (fun h => ?_) | refine Branch.ndec (fun h => ?_) (fun h => ?_) | refine Branch.nb (fun h => ?_) (fun h => ?_) | refine Branch.mk (fun h => ?_) (fun h => ?_)) <;> (try simp only [List.length_map] at h) <;> (try omega) <;> (try contradiction))
    | (guard_target = CallN _ 115 _ _ _ _; refine CallN.pure _ _ rfl (l08Uses_ok e.kind) rfl _ rfl ?_)
    | (guard_target = CallN _ 90 _ _ _ _; refine CallN.pure _ _ rfl (l00In_ok _ _ _) rfl _ rfl ?_)
    | (guard_target = CallN _ 116 _ _ _ _; refine CallN.pure _ _ rfl (hr) rfl _ rfl ?_)
    | (guard_target = CallN _ 117 _ _ _ _; refine CallN.pure _ _ rfl (he) rfl _ rfl ?_)
    | (guard_target = Arith _ _ _; refine Arith.fit (wrap_fit (by first | omega | (simp only [List.length_map]; omega)) (by first | omega | (simp only [List.length_map]; omega))) ?_)
    | (guard_target = Arith _ _ _; refine Arith.fit (by decide) ?_)
    | (guard_target = Index _ _ _; first  | refine Index.mk _ (idx_map (by omega)) ?_)
    | (guard_target = Need (chkDraw _ = true) _; refine Need.mk (by kernel_rfl) ?_)
    | (guard_target = Need (chkRecs _ _ = true) _; refine Need.mk (by first | kernel_rfl | rfl) ?_)
    | (guard_target = Need _ _; refine Need.mk (by first  | omega | (simp only [List.length_map]; omega)) ?_))
noncomputable def goodVE (x : XArchive) (e : XEvent) : Bool := goodArch x && goodEvent x.sig.tests x.sig.actions e
theorem ValidEvent_ok (x : XArchive) (e : XEvent) (hx : budArchive x ≤ 1048576) (he : budEvent e ≤ 1048576) : CallF Tryz.prog 20 [.a 4 (encArchive x), .a 9 (encEvent e)] (B (goodVE x e)) := by
  have hp : budProof e.proof ≤ 1048576 := by simp only [budEvent] at he; omega
  refine callF_of_vc htb hm Tryz.func20 rfl rfl rfl rfl (ann := fun _ => none) (gh := fun _ => false) ?_
  repeat' ((conv => whnf); first
    | (guard_target = Done _; refine Done.mk ?_; first | ((unfold goodVE; rw [h]; rfl); done) | skip)
    | (guard_target = RetX _ _; refine RetX.mk ?_ ?_)
    | (guard_target = Fact _ _; refine Fact.mk fun hL => ?_; (try simp only [List.length_map, maxLen] at hL))
    | (guard_target = Branch _ _ _; (first | refine Branch.dec (fun h => ?_) (fun h => ?_) | refine Branch.beq (fun h => ?_) (fun h => ?_) | refine Branch.bne (fun h => ?_) (fun h => ?_) | refine Branch.ndec (fun h => ?_) (fun h => ?_) | refine Branch.nb (fun h => ?_) (fun h => ?_) | refine Branch.mk (fun h => ?_) (fun h => ?_)) <;> (try simp only [List.length_map] at h) <;> (try omega) <;> (try contradiction))
    | (guard_target = CallN _ 15 _ _ _ _; refine CallN.pure _ _ rfl (ValidArchive_ok x hx) rfl _ rfl ?_)
    | (guard_target = CallN _ 65 _ _ _ _; refine CallN.pure _ _ rfl (isEvent_ok _ _ e hp) rfl _ rfl ?_)
    | (guard_target = Arith _ _ _; refine Arith.fit (wrap_fit (by first | omega | (simp only [List.length_map]; omega)) (by first | omega | (simp only [List.length_map]; omega))) ?_)
    | (guard_target = Arith _ _ _; refine Arith.fit (by decide) ?_)
    | (guard_target = Index _ _ _; first  | refine Index.mk _ (idx_map (by omega)) ?_)
    | (guard_target = Need (chkDraw _ = true) _; refine Need.mk (by kernel_rfl) ?_)
    | (guard_target = Need (chkRecs _ _ = true) _; refine Need.mk (by first | kernel_rfl | rfl) ?_)
    | (guard_target = Need _ _; refine Need.mk (by first  | omega | (simp only [List.length_map]; omega)) ?_))
theorem specValidEvent_ok (x : XArchive) (e : XEvent) (hx : budArchive x ≤ 1048576) (he : budEvent e ≤ 1048576) : CallF Tryz.prog 18 [.a 4 (encArchive x), .a 9 (encEvent e)] (B (goodVE x e)) := by
  have hp : budProof e.proof ≤ 1048576 := by simp only [budEvent] at he; omega
  refine callF_of_vc htb hm Tryz.func18 rfl rfl rfl rfl (ann := fun _ => none) (gh := fun _ => false) ?_
  repeat' ((conv => whnf); first
    | (guard_target = Done _; refine Done.mk ?_; first | ((unfold goodVE; rw [h]; rfl); done) | skip)
    | (guard_target = RetX _ _; refine RetX.mk ?_ ?_)
    | (guard_target = Fact _ _; refine Fact.mk fun hL => ?_; (try simp only [List.length_map, maxLen] at hL))
    | (guard_target = Branch _ _ _; (first | refine Branch.dec (fun h => ?_) (fun h => ?_) | refine Branch.beq (fun h => ?_) (fun h => ?_) | refine Branch.bne (fun h => ?_) (fun h => ?_) | refine Branch.ndec (fun h => ?_) (fun h => ?_) | refine Branch.nb (fun h => ?_) (fun h => ?_) | refine Branch.mk (fun h => ?_) (fun h => ?_)) <;> (try simp only [List.length_map] at h) <;> (try omega) <;> (try contradiction))
    | (guard_target = CallN _ 46 _ _ _ _; refine CallN.pure _ _ rfl (l08Ok_ok x hx) rfl _ rfl ?_)
    | (guard_target = CallN _ 62 _ _ _ _; refine CallN.pure _ _ rfl (l08Event_ok x e hp) rfl _ rfl ?_)
    | (guard_target = Arith _ _ _; refine Arith.fit (wrap_fit (by first | omega | (simp only [List.length_map]; omega)) (by first | omega | (simp only [List.length_map]; omega))) ?_)
    | (guard_target = Arith _ _ _; refine Arith.fit (by decide) ?_)
    | (guard_target = Index _ _ _; first  | refine Index.mk _ (idx_map (by omega)) ?_)
    | (guard_target = Need (chkDraw _ = true) _; refine Need.mk (by kernel_rfl) ?_)
    | (guard_target = Need (chkRecs _ _ = true) _; refine Need.mk (by first | kernel_rfl | rfl) ?_)
    | (guard_target = Need _ _; refine Need.mk (by first  | omega | (simp only [List.length_map]; omega)) ?_))
theorem eqEv_own (e : XEvent) : CallF Tryz.prog 21 [.a 9 (roL (ownEvent e)), .a 9 (roL (ownEvent e))] (B true) := by
  rw [roEvent]
  have := eqEvent_ok e e
  rwa [eqv_self] at this
theorem validEvent_law (a : XArchive) (e : XEvent) : CallF Tryz.prog 4 [.a 4 (encArchive a), .a 9 (encEvent e)] (B true) := by
  have hz := szArchive_ok a 1048576 (by omega)
  by_cases hl : budArchive a ≤ 1048576
  case neg =>
    rw [szr_neg (by omega)] at hz
    refine callF_of_vc htb hm Tryz.func4 rfl rfl rfl rfl (ann := fun _ => none) (gh := fun _ => false) ?_
    repeat' ((conv => whnf); first
      | (guard_target = Done _; refine Done.mk ?_; first | (rfl; done) | skip)
      | (guard_target = RetX _ _; refine RetX.mk ?_ ?_)
      | (guard_target = Fact _ _; refine Fact.mk fun hL => ?_; (try simp only [List.length_map, maxLen] at hL))
      | (guard_target = Branch _ _ _; (first | refine Branch.dec (fun h => ?_) (fun h => ?_) | refine Branch.beq (fun h => ?_) (fun h => ?_) | refine Branch.bne (fun h => ?_) (fun h => ?_) | refine Branch.ndec (fun h => ?_) (fun h => ?_) | refine Branch.nb (fun h => ?_) (fun h => ?_) | refine Branch.mk (fun h => ?_) (fun h => ?_)) <;> (try simp only [List.length_map] at h) <;> (try omega) <;> (try contradiction))
      | (guard_target = CallN _ 12 _ _ _ _; refine CallN.pure _ _ rfl (hz) rfl _ rfl ?_)
      | (guard_target = Arith _ _ _; refine Arith.fit (wrap_fit (by first | omega | (simp only [List.length_map]; omega)) (by first | omega | (simp only [List.length_map]; omega))) ?_)
      | (guard_target = Arith _ _ _; refine Arith.fit (by decide) ?_)
      | (guard_target = Index _ _ _; first  | refine Index.mk _ (idx_map (by omega)) ?_)
      | (guard_target = Need (chkDraw _ = true) _; refine Need.mk (by kernel_rfl) ?_)
      | (guard_target = Need (chkRecs _ _ = true) _; refine Need.mk (by first | kernel_rfl | rfl) ?_)
      | (guard_target = Need _ _; refine Need.mk (by first  | omega | (simp only [List.length_map]; omega)) ?_))
  case pos =>
    rw [szr_eq hl] at hz
    have hz2 := szEvent_ok e (1048576 - budArchive a) (by omega)
    by_cases he : budEvent e ≤ 1048576 - budArchive a
    case neg =>
      rw [szr_neg (by omega)] at hz2
      refine callF_of_vc htb hm Tryz.func4 rfl rfl rfl rfl (ann := fun _ => none) (gh := fun _ => false) ?_
      repeat' ((conv => whnf); first
        | (guard_target = Done _; refine Done.mk ?_; first | (rfl; done) | skip)
        | (guard_target = RetX _ _; refine RetX.mk ?_ ?_)
        | (guard_target = Fact _ _; refine Fact.mk fun hL => ?_; (try simp only [List.length_map, maxLen] at hL))
        | (guard_target = Branch _ _ _; (first | refine Branch.dec (fun h => ?_) (fun h => ?_) | refine Branch.beq (fun h => ?_) (fun h => ?_) | refine Branch.bne (fun h => ?_) (fun h => ?_) | refine Branch.ndec (fun h => ?_) (fun h => ?_) | refine Branch.nb (fun h => ?_) (fun h => ?_) | refine Branch.mk (fun h => ?_) (fun h => ?_)) <;> (try simp only [List.length_map] at h) <;> (try omega) <;> (try contradiction))
        | (guard_target = CallN _ 12 _ _ _ _; refine CallN.pure _ _ rfl (hz) rfl _ rfl ?_)
        | (guard_target = CallN _ 17 _ _ _ _; refine CallN.pure _ _ rfl (hz2) rfl _ rfl ?_)
        | (guard_target = Arith _ _ _; refine Arith.fit (wrap_fit (by first | omega | (simp only [List.length_map]; omega)) (by first | omega | (simp only [List.length_map]; omega))) ?_)
        | (guard_target = Arith _ _ _; refine Arith.fit (by decide) ?_)
        | (guard_target = Index _ _ _; first  | refine Index.mk _ (idx_map (by omega)) ?_)
        | (guard_target = Need (chkDraw _ = true) _; refine Need.mk (by kernel_rfl) ?_)
        | (guard_target = Need (chkRecs _ _ = true) _; refine Need.mk (by first | kernel_rfl | rfl) ?_)
        | (guard_target = Need _ _; refine Need.mk (by first  | omega | (simp only [List.length_map]; omega)) ?_))
    case pos =>
      rw [szr_eq he] at hz2
      have hs : CallF Tryz.prog 18 [.a 4 (roL (ownArchive a)), .a 9 (roL (ownEvent e))] (B (goodVE a e)) := by rw [roArchive, roEvent]; exact specValidEvent_ok a e hl (by omega)
      have hi : CallF Tryz.prog 20 [.a 4 (roL (ownArchive a)), .a 9 (roL (ownEvent e))] (B (goodVE a e)) := by rw [roArchive, roEvent]; exact ValidEvent_ok a e hl (by omega)
      refine callF_of_vc htb hm Tryz.func4 rfl rfl rfl rfl (ann := fun _ => none) (gh := fun _ => false) ?_
      repeat' ((conv => whnf); first
        | (guard_target = Done _; refine Done.mk ?_; first | (rfl; done) | ((exfalso; simp at h; done); done) | skip)
        | (guard_target = RetX _ _; refine RetX.mk ?_ ?_)
        | (guard_target = Fact _ _; refine Fact.mk fun hL => ?_; (try simp only [List.length_map, maxLen] at hL))
        | (guard_target = Branch _ _ _; (first | refine Branch.dec (fun h => ?_) (fun h => ?_) | refine Branch.beq (fun h => ?_) (fun h => ?_) | refine Branch.bne (fun h => ?_) (fun h => ?_) | refine Branch.ndec (fun h => ?_) (fun h => ?_) | refine Branch.nb (fun h => ?_) (fun h => ?_) | refine Branch.mk (fun h => ?_) (fun h => ?_)) <;> (try simp only [List.length_map] at h) <;> (try omega) <;> (try contradiction))
        | (guard_target = CallN _ 12 _ _ _ _; refine CallN.pure _ _ rfl (hz) rfl _ rfl ?_)
        | (guard_target = CallN _ 17 _ _ _ _; refine CallN.pure _ _ rfl (hz2) rfl _ rfl ?_)
        | (guard_target = CallN _ 14 _ _ _ _; refine CallN.gen [] _ _ _ rfl (toArchive_ok a hl) rfl rfl _ rfl ?_)
        | (guard_target = CallN _ 19 _ _ _ _; refine CallN.gen [] _ _ _ rfl (toEvent_ok e (by omega)) rfl rfl _ rfl ?_)
        | (guard_target = CallN _ 18 _ _ _ _; refine CallN.pure _ _ rfl (hs) rfl _ rfl ?_)
        | (guard_target = CallN _ 20 _ _ _ _; refine CallN.pure _ _ rfl (hi) rfl _ rfl ?_)
        | (guard_target = CallN _ 16 _ _ _ _; refine CallN.pure _ _ rfl (eqArch_own a) rfl _ rfl ?_)
        | (guard_target = CallN _ 21 _ _ _ _; refine CallN.pure _ _ rfl (eqEv_own e) rfl _ rfl ?_)
        | (guard_target = Arith _ _ _; refine Arith.fit (wrap_fit (by first | omega | (simp only [List.length_map]; omega)) (by first | omega | (simp only [List.length_map]; omega))) ?_)
        | (guard_target = Arith _ _ _; refine Arith.fit (by decide) ?_)
        | (guard_target = Index _ _ _; first  | refine Index.mk _ (idx_map (by omega)) ?_)
        | (guard_target = Need (chkDraw _ = true) _; refine Need.mk (by kernel_rfl) ?_)
        | (guard_target = Need (chkRecs _ _ = true) _; refine Need.mk (by first | kernel_rfl | rfl) ?_)
        | (guard_target = Need _ _; refine Need.mk (by first  | omega | (simp only [List.length_map]; omega)) ?_))
end Go.Proofs.YtbbaadkgmdkjdaaGreat
