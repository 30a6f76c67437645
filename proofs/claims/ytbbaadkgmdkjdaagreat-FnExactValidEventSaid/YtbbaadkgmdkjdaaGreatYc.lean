/- Contracts of the functions that look whether claims and proofs are valid, second part. No conditions. -/
import Derived.Test.YtbbaadkgmdkjdaaGreatYb
namespace Go.Proofs.YtbbaadkgmdkjdaaGreat
open Go Go.KA Go.Proofs
set_option maxHeartbeats 16000000
set_option maxRecDepth 100000
def goodClaim (t a : Int) (c : XClaim) : Bool :=
  goodE t a c.left && (goodE t a c.right && (rng 1 3 c.rule && (rng 0 39 c.ref && (decide ((c.steps.length : Int) ≤ 60) && ((if c.rule = 1 then decide (c.ref = 0) else decide ((c.steps.length : Int) = 0)) && c.steps.all (goodStep t a))))))
def goodProof (p : XProof) : Bool := goodSig p.sig.tests p.sig.actions && (decide ((p.claims.length : Int) ≤ 40) && p.claims.all (goodClaim p.sig.tests p.sig.actions))
theorem claim_no {t a : Int} {c : XClaim} {i : Nat} (hi : i < c.steps.length) (h : goodStep t a c.steps[i] = false) : goodClaim t a c = false := by
  unfold goodClaim
  rw [all_no hi h]
  simp
theorem claim_no1 {t a : Int} {c : XClaim} (h : goodE t a c.left = false) : goodClaim t a c = false := by
  unfold goodClaim
  rw [h]
  rfl
abbrev CC (t a : Int) (c : XClaim) : Prop := goodE t a c.left = true ∧ goodE t a c.right = true ∧ rng 1 3 c.rule = true ∧ rng 0 39 c.ref = true ∧ (c.steps.length : Int) ≤ 60 ∧ (if c.rule = 1 then c.ref = 0 else (c.steps.length : Int) = 0)
theorem claim_yes {t a : Int} {c : XClaim} (h : CC t a c) (h7 : c.steps.all (goodStep t a) = true) : goodClaim t a c = true := by
  obtain ⟨h1, h2, h3, h4, h5, h6⟩ := h
  unfold goodClaim
  rw [h1, h2, h3, h4, h7]
  by_cases hr : c.rule = 1 <;> simp_all
theorem claim_head {t a : Int} {c : XClaim} (h : ¬ CC t a c) : goodClaim t a c = false := by
  cases hb : goodClaim t a c with
  | false => rfl
  | true =>
    refine absurd ?_ h
    unfold goodClaim at hb
    simp only [Bool.and_eq_true, decide_eq_true_eq] at hb
    obtain ⟨h1, h2, h3, h4, h5, h6, _⟩ := hb
    refine ⟨h1, h2, h3, h4, h5, ?_⟩
    by_cases hr : c.rule = 1
    · rw [if_pos hr] at h6 ⊢; exact of_decide_eq_true h6
    · rw [if_neg hr] at h6 ⊢; exact of_decide_eq_true h6
theorem l04Claim_ok (t a : Int) (hs : goodSig t a = true) (c : XClaim) (hl : budClaim c ≤ 1048576) : CallF Tryz.prog 172 [.a 2 [J t, J a], .c (.rp 9 (encClaim c))] (B (goodClaim t a c)) := by
  simp only [budClaim] at hl
  have h1 := l01Ok_ok t a c.left (by omega)
  have h2 := l01Ok_ok t a c.right (by omega)
  rw [encExpr_eq, hs, Bool.true_and] at h1 h2
  have h1' : CallF Tryz.prog 194 [.a 2 [J t, J a], .c (.rp 9 (encClaim c))] (B (goodE t a c.left)) := h1.cut (.same (.cut (k := 3) (by omega) .nil))
  have h2' : CallF Tryz.prog 194 [.a 2 [J t, J a], .c (.rp 6 ((encClaim c).drop 3))] (B (goodE t a c.right)) := h2.cut (.same (.cut (k := 3) (by omega) .nil))
  have hst : ∀ i (h : i < c.steps.length), budProofStep c.steps[i] ≤ 1048576 := fun i h => Nat.le_trans (budS_mem budProofStep (List.getElem_mem h)) (by omega)
  refine callF_of_vc htb hm Tryz.func172 rfl rfl rfl rfl (ann := fun _ => none) (gh := fun _ => false) ?_
  repeat' ((conv => whnf); first
    | (guard_target = Done _; refine Done.mk ?_; first | (exact no_of (claim_no (i := i) (by omega) h); done) | (rw [claim_yes ⟨‹_›, ‹_›, ‹_›, ‹_›, by omega, by split <;> omega⟩ (all_end (by omega) ha)]; rfl; done) | ((refine no_of (claim_head ?_); rintro ⟨g1, g2, g3, g4, g5, g6⟩; (try simp only [g1, g2, g3, g4] at h); first | (cases h; done) | omega | (split at g6 <;> omega)); done) | skip)
    | (guard_target = RetX _ _; refine RetX.mk ?_ ?_)
    | (guard_target =~ LoopE 6 _ _ _ _ _ _; refine LoopE.mk { α := Nat, keep := [1, 2], ov := fun i => [(5, I i)], φ := fun i => i ≤ c.steps.length ∧ (c.steps.take i).all (goodStep t a) = true, μ := fun i => c.steps.length - i } (LoopN.mk (0 : Nat) (by exact ⟨Nat.zero_le _, rfl⟩) (by (repeat' first | exact trivial | exact rfl | refine ⟨?_, ?_⟩); done) (by (repeat' first | exact trivial | exact rfl | refine ⟨?_, ?_⟩); done) (by (repeat' first | exact trivial | exact rfl | refine ⟨?_, ?_⟩ | (simp only [List.map_append, List.map_cons, List.map_nil]; first | done | rfl)); done) (fun (i : Nat) ha => ?_) (by intro A; first | rfl | (obtain ⟨_, _⟩ := A; rfl) | (obtain ⟨_, _, _⟩ := A; rfl))); have ha : i ≤ c.steps.length ∧ (c.steps.take i).all (goodStep t a) = true := ha)
    | (guard_target = Gh _ _ _ _ _; refine Gh.go ⟨(i + 1 : Nat), (by exact all_go (by omega) ha h), (by first | (show _ < _; simp only []; omega) | omega | (simp; omega)), (by (repeat' first | exact trivial | exact rfl | refine ⟨?_, ?_⟩); done), (by (repeat' first | exact trivial | exact rfl | refine ⟨?_, ?_⟩); done), (by (repeat' first | exact trivial | exact rfl | refine ⟨?_, ?_⟩ | (simp only [List.map_append, List.map_cons, List.map_nil]; first | done | rfl)); done)⟩)
    | (guard_target = Fact _ _; refine Fact.mk fun hL => ?_; (try simp only [List.length_map, maxLen] at hL))
    | (guard_target = Branch _ _ _; (first | refine Branch.dec (fun h => ?_) (fun h => ?_) | refine Branch.beq (fun h => ?_) (fun h => ?_) | refine Branch.bne (fun h => ?_) (fun h => ?_) | refine Branch.ndec (fun h => ?_) (fun h => ?_) | refine Branch.nb (fun h => ?_) (fun h => ?_) | refine Branch.mk (fun h => ?_) (fun h => ?_)) <;> (try simp only [List.length_map] at h) <;> (try omega) <;> (try contradiction))
    | (guard_target = CallN _ 90 _ _ _ _; refine CallN.pure _ _ rfl (l00In_ok _ _ _) rfl _ rfl ?_)
    | (guard_target = CallN _ 195 _ _ _ _; refine CallN.pure _ _ rfl (l04Step_ok t a hs _ (hst i (by omega))) rfl _ rfl ?_)
    | (guard_target = CallN _ 194 _ _ _ _; (first | refine CallN.pure _ _ rfl h1' rfl _ rfl ?_ | refine CallN.pure _ _ rfl h2' rfl _ rfl ?_))
    | (guard_target = Arith _ _ _; refine Arith.fit (wrap_fit (by first | omega | (simp only [List.length_map]; omega)) (by first | omega | (simp only [List.length_map]; omega))) ?_)
    | (guard_target = Arith _ _ _; refine Arith.fit (by decide) ?_)
    | (guard_target = Index _ _ _; first | refine Index.mk _ (idx_map (i := i) (by omega)) ?_ | refine Index.mk _ (idx_map (by omega)) ?_)
    | (guard_target = Need (chkDraw _ = true) _; refine Need.mk (by kernel_rfl) ?_)
    | (guard_target = Need (chkRecs _ _ = true) _; refine Need.mk (by first | kernel_rfl | rfl) ?_)
    | (guard_target = Need _ _; refine Need.mk (by first  | omega | (simp only [List.length_map]; omega)) ?_))
theorem l04Ok_ok (p : XProof) (hl : budProof p ≤ 1048576) : CallF Tryz.prog 150 [.c (.rp 3 (encProof p))] (B (goodProof p)) := by
  have hc : ∀ i (h : i < p.claims.length), budClaim p.claims[i] ≤ 1048576 := fun i h => by
    have := budS_mem budClaim (List.getElem_mem h)
    simp only [budProof] at hl
    omega
  refine callF_of_vc htb hm Tryz.func150 rfl rfl rfl rfl (ann := fun _ => none) (gh := fun _ => false) ?_
  repeat' ((conv => whnf); first
    | (guard_target = Done _; refine Done.mk ?_; first | (rfl; done) | (simp_all [goodProof, normS, normV]; done) | (simp_all [goodProof, normS, normV]; omega; done) | (simp_all [goodProof, normS, normV]; intros; omega; done) | (simp_all [-List.all_eq_true, -List.all_eq_false, goodProof, normS, normV]; done) | (simp_all [-List.all_eq_true, -List.all_eq_false, goodProof, normS, normV]; omega; done) | (have h9 := all_stop (i := i) (by omega) h; clear ha; simp_all [-List.all_eq_true, -List.all_eq_false, goodProof, normS, normV]; done) | (have h9 := all_end (by omega) ha; clear ha; simp_all [-List.all_eq_true, -List.all_eq_false, goodProof, normS, normV]; done) | (have h9 := all_end (by omega) ha; simp_all [-List.all_eq_true, -List.all_eq_false, goodProof, normS, normV]; done) | (have h9 := all_stop (i := i) (by omega) h; clear ha; simp_all [-List.all_eq_true, -List.all_eq_false, goodProof, normS, normV]; omega; done) | (have h9 := all_end (by omega) ha; clear ha; simp_all [-List.all_eq_true, -List.all_eq_false, goodProof, normS, normV]; omega; done) | (have h9 := all_end (by omega) ha; simp_all [-List.all_eq_true, -List.all_eq_false, goodProof, normS, normV]; omega; done) | skip)
    | (guard_target = RetX _ _; refine RetX.mk ?_ ?_)
    | (guard_target =~ LoopE 4 _ _ _ _ _ _; refine LoopE.mk { α := Nat, keep := [0], ov := fun i => [(3, I i)], φ := fun i => i ≤ p.claims.length ∧ (p.claims.take i).all (goodClaim p.sig.tests p.sig.actions) = true, μ := fun i => p.claims.length - i } (LoopN.mk (0 : Nat) (by exact ⟨Nat.zero_le _, rfl⟩) (by (repeat' first | exact trivial | exact rfl | refine ⟨?_, ?_⟩); done) (by (repeat' first | exact trivial | exact rfl | refine ⟨?_, ?_⟩); done) (by (repeat' first | exact trivial | exact rfl | refine ⟨?_, ?_⟩ | (simp only [List.map_append, List.map_cons, List.map_nil]; first | done | rfl)); done) (fun (i : Nat) ha => ?_) (by intro A; first | rfl | (obtain ⟨_, _⟩ := A; rfl) | (obtain ⟨_, _, _⟩ := A; rfl))); have ha : i ≤ p.claims.length ∧ (p.claims.take i).all (goodClaim p.sig.tests p.sig.actions) = true := ha)
    | (guard_target = Gh _ _ _ _ _; refine Gh.go ⟨(i + 1 : Nat), (by exact all_go (by omega) ha h), (by first | (show _ < _; simp only []; omega) | omega | (simp; omega)), (by (repeat' first | exact trivial | exact rfl | refine ⟨?_, ?_⟩); done), (by (repeat' first | exact trivial | exact rfl | refine ⟨?_, ?_⟩); done), (by (repeat' first | exact trivial | exact rfl | refine ⟨?_, ?_⟩ | (simp only [List.map_append, List.map_cons, List.map_nil]; first | done | rfl)); done)⟩)
    | (guard_target = Fact _ _; refine Fact.mk fun hL => ?_; (try simp only [List.length_map, maxLen] at hL))
    | (guard_target = Branch _ _ _; (first | refine Branch.dec (fun h => ?_) (fun h => ?_) | refine Branch.beq (fun h => ?_) (fun h => ?_) | refine Branch.bne (fun h => ?_) (fun h => ?_) | refine Branch.ndec (fun h => ?_) (fun h => ?_) | refine Branch.nb (fun h => ?_) (fun h => ?_) | refine Branch.mk (fun h => ?_) (fun h => ?_)) <;> (try simp only [List.length_map] at h) <;> (try omega) <;> (try contradiction))
    | (guard_target = CallN _ 101 _ _ _ _; refine CallN.pure _ _ rfl (l01Sig_ok _ _) rfl _ rfl ?_)
    | (guard_target = CallN _ 172 _ _ _ _; refine CallN.pure _ _ rfl (l04Claim_ok _ _ ‹_› _ (hc i (by omega))) rfl _ rfl ?_)
    | (guard_target = Arith _ _ _; refine Arith.fit (wrap_fit (by first | omega | (simp only [List.length_map]; omega)) (by first | omega | (simp only [List.length_map]; omega))) ?_)
    | (guard_target = Arith _ _ _; refine Arith.fit (by decide) ?_)
    | (guard_target = Index _ _ _; first | refine Index.mk _ (idx_map (i := i) (by omega)) ?_ | refine Index.mk _ (idx_map (by omega)) ?_)
    | (guard_target = Need (chkDraw _ = true) _; refine Need.mk (by kernel_rfl) ?_)
    | (guard_target = Need (chkRecs _ _ = true) _; refine Need.mk (by first | kernel_rfl | rfl) ?_)
    | (guard_target = Need _ _; refine Need.mk (by first  | omega | (simp only [List.length_map]; omega)) ?_))
abbrev c0 : XClaim := ⟨.mk 0 0 [], .mk 0 0 [], 0, 0, []⟩
theorem proof_no {p : XProof} {i : Nat} (hi : i < p.claims.length) (h : goodClaim p.sig.tests p.sig.actions (p.claims.getD i c0) = false) : goodProof p = false := by
  rw [show p.claims.getD i c0 = p.claims[i] from getD_eq hi] at h
  unfold goodProof
  rw [all_no hi h]
  simp
theorem pc_yes {p : XProof} {i : Nat} (hi : i < p.claims.length) (h : CC p.sig.tests p.sig.actions (p.claims.getD i c0)) (h7 : (p.claims.getD i c0).steps.all (goodStep p.sig.tests p.sig.actions) = true) : goodClaim p.sig.tests p.sig.actions p.claims[i] = true := by
  have := claim_yes h h7
  rwa [show p.claims.getD i c0 = p.claims[i] from getD_eq hi] at this
theorem ValidProof_ok (p : XProof) : CallF Tryz.prog 143 [.a 3 (encProof p)] (B (goodProof p)) := by
  have hv : ∀ (hs : goodSig p.sig.tests p.sig.actions = true) (c : XClaim), CallF Tryz.prog 163 [.a 2 [J p.sig.tests, J p.sig.actions], .c (.ro 3 [toldE c.left, toldE c.right])] (B (goodE p.sig.tests p.sig.actions c.left && goodE p.sig.tests p.sig.actions c.right)) := by
    intro hs c
    have := validExprs_ok _ _ hs [c.left, c.right]
    simpa only [List.map_cons, List.map_nil, encExpr_eq, List.all_cons, List.all_nil, Bool.and_true] using this
  refine callF_of_vc htb hm Tryz.func143 rfl rfl rfl rfl (ann := fun _ => none) (gh := fun _ => false) ?_
  repeat' ((conv => whnf); first
    | (guard_target = Done _; refine Done.mk ?_; first | (rfl; done) | (simp_all [goodProof, normS, normV]; done) | (simp_all [goodProof, normS, normV]; omega; done) | (simp_all [goodProof, normS, normV]; intros; omega; done) | (simp_all [-List.all_eq_true, -List.all_eq_false, goodProof, normS, normV]; done) | (simp_all [-List.all_eq_true, -List.all_eq_false, goodProof, normS, normV]; omega; done) | (exact no_of (proof_no (i := i) (by omega) (claim_no (i := k) (by omega) h)); done) | ((refine no_of (proof_no (i := i) (by omega) (claim_head ?_)); rintro ⟨g1, g2, g3, g4, g5, g6⟩; (try simp only [g1, g2, g3, g4, Bool.and_self] at h); first | (cases h; done) | omega | (split at g6 <;> omega)); done) | ((have h9 := all_end (by omega) ha; clear ha; unfold goodProof; rw [h9, ‹goodSig _ _ = true›, decide_eq_true (by omega)]; rfl); done) | skip)
    | (guard_target = RetX _ _; refine RetX.mk ?_ ?_)
    | (guard_target =~ LoopE 4 _ _ _ _ _ _; refine LoopE.mk { α := Nat, keep := [1, 18, 19], ov := fun i => [(20, I i)], φ := fun i => i ≤ p.claims.length ∧ (p.claims.take i).all (goodClaim p.sig.tests p.sig.actions) = true, μ := fun i => p.claims.length - i } (LoopN.mk (0 : Nat) (by exact ⟨Nat.zero_le _, rfl⟩) (by (repeat' first | exact trivial | exact rfl | refine ⟨?_, ?_⟩); done) (by (repeat' first | exact trivial | exact rfl | refine ⟨?_, ?_⟩); done) (by (repeat' first | exact trivial | exact rfl | refine ⟨?_, ?_⟩ | (simp only [List.map_append, List.map_cons, List.map_nil]; first | done | rfl)); done) (fun (i : Nat) ha => ?_) (by intro A; first | rfl | (obtain ⟨_, _⟩ := A; rfl) | (obtain ⟨_, _, _⟩ := A; rfl))); have ha : i ≤ p.claims.length ∧ (p.claims.take i).all (goodClaim p.sig.tests p.sig.actions) = true := ha)
    | (guard_target =~ LoopE 11 _ _ _ _ _ _; refine LoopE.mk { α := Nat, keep := [1, 18, 19, 20, 71, 72], ov := fun k => [(73, I k)], φ := fun k => k ≤ (p.claims.getD i c0).steps.length ∧ ((p.claims.getD i c0).steps.take k).all (goodStep p.sig.tests p.sig.actions) = true, μ := fun k => (p.claims.getD i c0).steps.length - k } (LoopN.mk (0 : Nat) (by exact ⟨Nat.zero_le _, rfl⟩) (by (repeat' first | exact trivial | exact rfl | refine ⟨?_, ?_⟩); done) (by (repeat' first | exact trivial | exact rfl | refine ⟨?_, ?_⟩); done) (by (repeat' first | exact trivial | exact rfl | refine ⟨?_, ?_⟩ | (simp only [List.map_append, List.map_cons, List.map_nil]; first | done | rfl)); done) (fun (k : Nat) ha => ?_) (by intro A; first | rfl | (obtain ⟨_, _⟩ := A; rfl) | (obtain ⟨_, _, _⟩ := A; rfl))); have ha : k ≤ (p.claims.getD i c0).steps.length ∧ ((p.claims.getD i c0).steps.take k).all (goodStep p.sig.tests p.sig.actions) = true := ha)
    | (guard_target = Gh _ _ _ _ _; refine Gh.go ⟨(k + 1 : Nat), (by exact all_go (by omega) ha h), (by first | (show _ < _; simp only []; omega) | omega | (simp; omega)), (by (repeat' first | exact trivial | exact rfl | refine ⟨?_, ?_⟩); done), (by (repeat' first | exact trivial | exact rfl | refine ⟨?_, ?_⟩); done), (by (repeat' first | exact trivial | exact rfl | refine ⟨?_, ?_⟩ | (simp only [List.map_append, List.map_cons, List.map_nil]; first | done | rfl)); done)⟩)
    | (guard_target = Gh _ _ _ _ _; refine Gh.go ⟨(i + 1 : Nat), (by (have hcc : CC p.sig.tests p.sig.actions (p.claims.getD i c0) := (by simp only [Bool.and_eq_true] at *; refine ⟨(‹_ ∧ _› : goodE _ _ (p.claims.getD i c0).left = true ∧ goodE _ _ (p.claims.getD i c0).right = true).1, (‹_ ∧ _› : goodE _ _ (p.claims.getD i c0).left = true ∧ goodE _ _ (p.claims.getD i c0).right = true).2, ‹_›, ‹_›, by omega, by split <;> omega⟩); exact all_go (by omega) ‹_ ∧ (p.claims.take i).all _ = true› (pc_yes (by omega) hcc (all_end (by omega) ha)))), (by first | (show _ < _; simp only []; omega) | omega | (simp; omega)), (by (repeat' first | exact trivial | exact rfl | refine ⟨?_, ?_⟩); done), (by (repeat' first | exact trivial | exact rfl | refine ⟨?_, ?_⟩); done), (by (repeat' first | exact trivial | exact rfl | refine ⟨?_, ?_⟩ | (simp only [List.map_append, List.map_cons, List.map_nil]; first | done | rfl)); done)⟩)
    | (guard_target = Fact _ _; refine Fact.mk fun hL => ?_; (try simp only [List.length_map, maxLen] at hL))
    | (guard_target = Branch _ _ _; (first | refine Branch.dec (fun h => ?_) (fun h => ?_) | refine Branch.beq (fun h => ?_) (fun h => ?_) | refine Branch.bne (fun h => ?_) (fun h => ?_) | refine Branch.ndec (fun h => ?_) (fun h => ?_) | refine Branch.nb (fun h => ?_) (fun h => ?_) | refine Branch.mk (fun h => ?_) (fun h => ?_)) <;> (try simp only [List.length_map] at h) <;> (try omega) <;> (try contradiction))
    | (guard_target = CallN _ 50 _ _ _ _; refine CallN.pure _ _ rfl (validSig_ok _ _) rfl _ rfl ?_)
    | (guard_target = CallN _ 163 _ _ _ _; refine CallN.pure _ _ rfl (hv ‹_› _) rfl _ rfl ?_)
    | (guard_target = CallN _ 51 _ _ _ _; refine CallN.pure _ _ rfl (within_ok _ _ _) rfl _ rfl ?_)
    | (guard_target = CallN _ 164 _ _ _ _; refine CallN.pure _ _ rfl (isStep_ok _ _ ‹_› _) rfl _ rfl ?_)
    | (guard_target = Arith _ _ _; refine Arith.fit (wrap_fit (by first | omega | (simp only [List.length_map]; omega)) (by first | omega | (simp only [List.length_map]; omega))) ?_)
    | (guard_target = Arith _ _ _; refine Arith.fit (by decide) ?_)
    | (guard_target = Index _ _ _; first | refine Index.mk _ (idx_getD (d := c0) (i := i) (by omega)) ?_ | refine Index.mk _ (idx_map (i := k) (by omega)) ?_ | refine Index.mk _ (idx_map (by omega)) ?_)
    | (guard_target = Need (chkDraw _ = true) _; refine Need.mk (by kernel_rfl) ?_)
    | (guard_target = Need (chkRecs _ _ = true) _; refine Need.mk (by first | kernel_rfl | rfl) ?_)
    | (guard_target = Need _ _; refine Need.mk (by first  | omega | (simp only [List.length_map]; omega)) ?_))
end Go.Proofs.YtbbaadkgmdkjdaaGreat
