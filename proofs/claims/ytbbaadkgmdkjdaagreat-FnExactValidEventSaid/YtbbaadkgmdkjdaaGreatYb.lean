/- Contracts of the functions that look whether steps, claims and proofs are valid. No conditions. -/
import Derived.Test.YtbbaadkgmdkjdaaGreatYa
namespace Go.Proofs.YtbbaadkgmdkjdaaGreat
open Go Go.KA Go.Proofs
set_option maxHeartbeats 16000000
set_option maxRecDepth 100000
def goodStep (t a : Int) (s : XProofStep) : Bool :=
  rng (-40) 23 s.use && (decide ((s.path.length : Int) ≤ 40) && (s.path.all (rng 0 1) && (decide ((s.tests.length : Int) ≤ 3) && (decide ((s.acts.length : Int) ≤ 4) && (s.tests.all (goodE t a) && (s.tests.all condB && s.acts.all (goodE t a)))))))
theorem isStep_ok (t a : Int) (hs : goodSig t a = true) (s : XProofStep) : CallF Tryz.prog 164 [.a 2 [J t, J a], .a 5 (encProofStep s)] (B (goodStep t a s)) := by
  have hr : CallF Tryz.prog 94 [.c (.ro 1 (s.path.map eI)), I 2] (B (s.path.all (rng 0 1))) := inRange_ok s.path 2 (by omega)
  refine callF_of_vc htb hm Tryz.func164 rfl rfl rfl rfl (ann := fun _ => none) (gh := fun _ => false) ?_
  repeat' ((conv => whnf); first
    | (guard_target = Done _; refine Done.mk ?_; first | (rfl; done) | (simp_all [goodStep, normS, normV]; done) | (simp_all [goodStep, normS, normV]; omega; done) | (simp_all [goodStep, normS, normV]; intros; omega; done) | (simp_all [-List.all_eq_true, -List.all_eq_false, goodStep, normS, normV]; done) | (simp_all [-List.all_eq_true, -List.all_eq_false, goodStep, normS, normV]; omega; done) | skip)
    | (guard_target = RetX _ _; refine RetX.mk ?_ ?_)
    | (guard_target = Fact _ _; refine Fact.mk fun hL => ?_; (try simp only [List.length_map, maxLen] at hL))
    | (guard_target = Branch _ _ _; (first | refine Branch.dec (fun h => ?_) (fun h => ?_) | refine Branch.beq (fun h => ?_) (fun h => ?_) | refine Branch.bne (fun h => ?_) (fun h => ?_) | refine Branch.ndec (fun h => ?_) (fun h => ?_) | refine Branch.nb (fun h => ?_) (fun h => ?_) | refine Branch.mk (fun h => ?_) (fun h => ?_)) <;> (try simp only [List.length_map] at h) <;> (try omega) <;> (try contradiction))
    | (guard_target = CallN _ 51 _ _ _ _; refine CallN.pure _ _ rfl (within_ok _ _ _) rfl _ rfl ?_)
    | (guard_target = CallN _ 94 _ _ _ _; refine CallN.pure _ _ rfl (hr) rfl _ rfl ?_)
    | (guard_target = CallN _ 163 _ _ _ _; refine CallN.pure _ _ rfl (validExprs_ok t a hs _) rfl _ rfl ?_)
    | (guard_target = CallN _ 190 _ _ _ _; refine CallN.pure _ _ rfl (areConditions_ok _) rfl _ rfl ?_)
    | (guard_target = Arith _ _ _; refine Arith.fit (wrap_fit (by first | omega | (simp only [List.length_map]; omega)) (by first | omega | (simp only [List.length_map]; omega))) ?_)
    | (guard_target = Arith _ _ _; refine Arith.fit (by decide) ?_)
    | (guard_target = Index _ _ _; first  | refine Index.mk _ (idx_map (by omega)) ?_)
    | (guard_target = Need (chkDraw _ = true) _; refine Need.mk (by kernel_rfl) ?_)
    | (guard_target = Need (chkRecs _ _ = true) _; refine Need.mk (by first | kernel_rfl | rfl) ?_)
    | (guard_target = Need _ _; refine Need.mk (by first  | omega | (simp only [List.length_map]; omega)) ?_))
theorem axiomTexts_ok : ∃ rows : List (List CV), rows.length = 24 ∧ CallX Tryz.prog 210 [] [] (.c (.ows 9 1 rows)) := by
  refine ⟨?rows, ?h1, ?h2⟩
  case h2 =>
    refine callX_of_vc htb hm Tryz.func210 rfl rfl rfl rfl (ann := fun _ => none) (gh := fun _ => false) ?_
    repeat' ((conv => whnf); first
      | (guard_target = Done _; refine Done.mk ?_)
      | (guard_target = RetX _ _; refine RetX.mk ?_ ?_; first | (rfl; done) | skip)
      | (guard_target = Fact _ _; refine Fact.mk fun hL => ?_; (try simp only [List.length_map, maxLen] at hL))
      | (guard_target = Branch _ _ _; (first | refine Branch.dec (fun h => ?_) (fun h => ?_) | refine Branch.beq (fun h => ?_) (fun h => ?_) | refine Branch.bne (fun h => ?_) (fun h => ?_) | refine Branch.ndec (fun h => ?_) (fun h => ?_) | refine Branch.nb (fun h => ?_) (fun h => ?_) | refine Branch.mk (fun h => ?_) (fun h => ?_)) <;> (try simp only [List.length_map] at h) <;> (try omega) <;> (try contradiction))
      | (guard_target = Arith _ _ _; refine Arith.fit (wrap_fit (by first | omega | (simp only [List.length_map]; omega)) (by first | omega | (simp only [List.length_map]; omega))) ?_)
      | (guard_target = Arith _ _ _; refine Arith.fit (by decide) ?_)
      | (guard_target = Index _ _ _; first  | refine Index.mk _ (idx_map (by omega)) ?_)
      | (guard_target = Need (chkDraw _ = true) _; refine Need.mk (by kernel_rfl) ?_)
      | (guard_target = Need (chkRecs _ _ = true) _; refine Need.mk (by first | kernel_rfl | rfl) ?_)
      | (guard_target = Need _ _; refine Need.mk (by first  | omega | (simp only [List.length_map]; omega)) ?_))
    all_goals trivial
  case h1 => rfl
theorem l04Step_ok (t a : Int) (hs : goodSig t a = true) (s : XProofStep) (hl : budProofStep s ≤ 1048576) : CallF Tryz.prog 195 [.a 2 [J t, J a], .c (.rp 5 (encProofStep s))] (B (goodStep t a s)) := by
  obtain ⟨rows, hr, hx⟩ := axiomTexts_ok
  simp only [budProofStep] at hl
  refine callF_of_vc htb hm Tryz.func195 rfl rfl rfl rfl (ann := fun _ => none) (gh := fun _ => false) ?_
  repeat' ((conv => whnf); first
    | (guard_target = Done _; refine Done.mk ?_; first | (rfl; done) | (simp_all [goodStep, normS, normV]; done) | (simp_all [goodStep, normS, normV]; omega; done) | (simp_all [goodStep, normS, normV]; intros; omega; done) | (simp_all [-List.all_eq_true, -List.all_eq_false, goodStep, normS, normV]; done) | (simp_all [-List.all_eq_true, -List.all_eq_false, goodStep, normS, normV]; omega; done) | (have h9 := all_stop (i := i) (by omega) h; clear ha; simp_all [-List.all_eq_true, -List.all_eq_false, goodStep, normS, normV]; done) | (have h9 := all_end (by omega) ha; clear ha; simp_all [-List.all_eq_true, -List.all_eq_false, goodStep, normS, normV]; done) | (have h9 := all_end (by omega) ha; simp_all [-List.all_eq_true, -List.all_eq_false, goodStep, normS, normV]; done) | (have h9 := all_stop (i := i) (by omega) h; clear ha; simp_all [-List.all_eq_true, -List.all_eq_false, goodStep, normS, normV]; omega; done) | (have h9 := all_end (by omega) ha; clear ha; simp_all [-List.all_eq_true, -List.all_eq_false, goodStep, normS, normV]; omega; done) | (have h9 := all_end (by omega) ha; simp_all [-List.all_eq_true, -List.all_eq_false, goodStep, normS, normV]; omega; done) | skip)
    | (guard_target = RetX _ _; refine RetX.mk ?_ ?_)
    | (guard_target =~ LoopE 4 _ _ _ _ _ _; refine LoopE.mk { α := Nat, keep := [1, 2], ov := fun i => [(5, I i)], φ := fun i => i ≤ s.path.length ∧ (s.path.take i).all (rng 0 1) = true, μ := fun i => s.path.length - i } (LoopN.mk (0 : Nat) (by exact ⟨Nat.zero_le _, rfl⟩) (by (repeat' first | exact trivial | exact rfl | refine ⟨?_, ?_⟩); done) (by (repeat' first | exact trivial | exact rfl | refine ⟨?_, ?_⟩); done) (by (repeat' first | exact trivial | exact rfl | refine ⟨?_, ?_⟩ | (simp only [List.map_append, List.map_cons, List.map_nil]; first | done | rfl)); done) (fun (i : Nat) ha => ?_) (by intro A; first | rfl | (obtain ⟨_, _⟩ := A; rfl) | (obtain ⟨_, _, _⟩ := A; rfl))); have ha : i ≤ s.path.length ∧ (s.path.take i).all (rng 0 1) = true := ha)
    | (guard_target = Gh _ _ _ _ _; refine Gh.go ⟨(i + 1 : Nat), (by exact all_go (by omega) ha h), (by first | (show _ < _; simp only []; omega) | omega | (simp; omega)), (by (repeat' first | exact trivial | exact rfl | refine ⟨?_, ?_⟩); done), (by (repeat' first | exact trivial | exact rfl | refine ⟨?_, ?_⟩); done), (by (repeat' first | exact trivial | exact rfl | refine ⟨?_, ?_⟩ | (simp only [List.map_append, List.map_cons, List.map_nil]; first | done | rfl)); done)⟩)
    | (guard_target = Fact _ _; refine Fact.mk fun hL => ?_; (try simp only [List.length_map, maxLen] at hL))
    | (guard_target = Branch _ _ _; (first | refine Branch.dec (fun h => ?_) (fun h => ?_) | refine Branch.beq (fun h => ?_) (fun h => ?_) | refine Branch.bne (fun h => ?_) (fun h => ?_) | refine Branch.ndec (fun h => ?_) (fun h => ?_) | refine Branch.nb (fun h => ?_) (fun h => ?_) | refine Branch.mk (fun h => ?_) (fun h => ?_)) <;> (try simp only [List.length_map] at h) <;> (try omega) <;> (try contradiction))
    | (guard_target = CallN _ 90 _ _ _ _; refine CallN.pure _ _ rfl (l00In_ok _ _ _) rfl _ rfl ?_)
    | (guard_target = CallN _ 210 _ _ _ _; refine CallN.gen [] _ _ _ rfl (hx) rfl rfl _ rfl ?_)
    | (guard_target = CallN _ 211 _ _ _ _; refine CallN.pure _ _ rfl (l04Valid_ok t a hs _ (by omega)) rfl _ rfl ?_)
    | (guard_target = CallN _ 212 _ _ _ _; refine CallN.pure _ _ rfl (l04Conditions_ok _) rfl _ rfl ?_)
    | (guard_target = Arith _ _ _; refine Arith.fit (wrap_fit (by first | omega | (simp only [List.length_map]; omega)) (by first | omega | (simp only [List.length_map]; omega))) ?_)
    | (guard_target = Arith _ _ _; refine Arith.fit (by decide) ?_)
    | (guard_target = Index _ _ _; first | refine Index.mk _ (idx_map (i := i) (by omega)) ?_ | refine Index.mk _ (idx_map (by omega)) ?_)
    | (guard_target = Need (chkDraw _ = true) _; refine Need.mk (by kernel_rfl) ?_)
    | (guard_target = Need (chkRecs _ _ = true) _; refine Need.mk (by first | kernel_rfl | rfl) ?_)
    | (guard_target = Need _ _; refine Need.mk (by first  | omega | (simp only [List.length_map]; omega)) ?_))
end Go.Proofs.YtbbaadkgmdkjdaaGreat
