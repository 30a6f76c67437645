/- Contracts of the functions that look whether worlds and flowcharts are valid. No conditions. -/
import Derived.Test.YtaajacnceocpoaaGreatKAB
namespace Go.Proofs.YtaajacnceocpoaaGreat
open Go Go.KA Go.Proofs
theorem atoms_b {t : Int} (h : 0 ≤ t ∧ t ≤ 3) : 1 ≤ atomsN t ∧ atomsN t ≤ 8 := by
  have : t = 0 ∨ t = 1 ∨ t = 2 ∨ t = 3 := by omega
  rcases this with rfl | rfl | rfl | rfl <;> decide
def goodRow (n : Nat) (l : List Int) : Bool := ((l.length : Int) == n) && l.all (rng (-1) ((n : Int) - 1))
def goodWorld (t a : Int) (w : XWorld) : Bool :=
  rng 1 12 w.atoms.length && (w.atoms.all (rng 0 (atomsN t - 1)) && (((w.acts.length : Int) == a) && w.acts.all (goodRow w.atoms.length)))
theorem row_no {L : List (List Int)} {i n : Nat} (hi : i < L.length) (h : ¬ ((L.getD i []).length : Int) = n) : goodRow n L[i] = false := by
  rw [getD_eq hi] at h
  unfold goodRow
  rw [show ((L[i].length : Int) == n) = false by simpa using h]
  rfl
theorem row_no2 {L : List (List Int)} {i n k : Nat} (hi : i < L.length) (hk : k < (L.getD i []).length) (h : rng (-1) ((n : Int) - 1) (L.getD i [])[k] = false) : goodRow n L[i] = false := by
  have : (L.getD i []).all (rng (-1) ((n : Int) - 1)) = false := all_no hk h
  rw [getD_eq hi] at this
  unfold goodRow
  rw [this, Bool.and_false]
theorem row_yes {L : List (List Int)} {i n : Nat} (hi : i < L.length) (h : (L.getD i []).length = n) (h2 : (L.getD i []).all (rng (-1) ((n : Int) - 1)) = true) : goodRow n L[i] = true := by
  rw [getD_eq hi] at h h2
  unfold goodRow
  rw [h2, h, Bool.and_true, beq_iff_eq]
theorem world_no {t a : Int} {w : XWorld} {i : Nat} (hi : i < w.acts.length) (h : goodRow w.atoms.length w.acts[i] = false) : goodWorld t a w = false := by
  unfold goodWorld
  rw [all_no hi h]
  simp
theorem world_yes {t a : Int} {w : XWorld} (h1 : rng 1 12 w.atoms.length = true) (h2 : w.atoms.all (rng 0 (atomsN t - 1)) = true) (h3 : (w.acts.length : Int) = a) (h : w.acts.all (goodRow w.atoms.length) = true) : goodWorld t a w = true := by
  unfold goodWorld
  rw [h1, h2, h, h3]
  simp
set_option maxHeartbeats 8000000 in
theorem isWorld_ok (t a : Int) (ht : 0 ≤ t ∧ t ≤ 3) (ha' : 0 ≤ a ∧ a ≤ 4) (w : XWorld) : CallF Tryz.prog 104 [.a 2 [J t, J a], .a 2 (encWorld w)] (B (goodWorld t a w)) := by
  have hb := atoms_b ht
  refine callF_of_vc htb hm Tryz.func104 rfl rfl rfl rfl (ann := fun _ => none) (gh := fun _ => false) ?_
  repeat' ((conv => whnf); first | (guard_target = Done _; refine Done.mk ?_; first | (simp_all [goodWorld, normS, normV]; done) | (rw [show goodWorld t a w = false by (unfold goodWorld; rw [h]; simp)]; rfl; done) | (rw [world_no (i := i) (by omega) (row_no (by omega) h)]; rfl; done) | (rw [world_no (i := i) (by omega) (row_no2 (by omega) (k := k) (by omega) h)]; rfl; done) | (rw [world_yes ‹_› ‹_› (by omega) (all_end (by omega) ha)]; rfl; done) | skip) | (guard_target =~ LoopE 5 _ _ _ _ _ _; refine LoopE.mk { α := Nat, keep := [5, 33, 34], ov := fun i => [(35, I i)], φ := fun i => i ≤ w.acts.length ∧ (w.acts.take i).all (goodRow w.atoms.length) = true, μ := fun i => w.acts.length - i } (LoopN.mk (0 : Nat) (by exact ⟨Nat.zero_le _, rfl⟩) (by repeat' ((conv => whnf) <;> first | exact trivial | kernel_rfl | constructor)) (by repeat' ((conv => whnf) <;> first | exact trivial | kernel_rfl | constructor)) (by repeat' ((conv => whnf) <;> first | exact trivial | refine ⟨?_, ?_⟩ | exact rfl | (simp only [List.map_append, List.map_cons, List.map_nil, List.map_set]; first | done | rfl))) (fun (i : Nat) ha => ?_) (by intro A; first | rfl | (obtain ⟨_, _⟩ := A; rfl) | (obtain ⟨_, _, _⟩ := A; rfl))); have ha : i ≤ w.acts.length ∧ (w.acts.take i).all (goodRow w.atoms.length) = true := ha) | (guard_target =~ LoopE 10 _ _ _ _ _ _; refine LoopE.mk { α := Nat, keep := [5, 33, 34, 35, 43, 44], ov := fun k => [(45, I k)], φ := fun k => k ≤ (w.acts.getD i []).length ∧ ((w.acts.getD i []).take k).all (rng (-1) ((w.atoms.length : Int) - 1)) = true, μ := fun k => (w.acts.getD i []).length - k } (LoopN.mk (0 : Nat) (by exact ⟨Nat.zero_le _, rfl⟩) (by repeat' ((conv => whnf) <;> first | exact trivial | kernel_rfl | constructor)) (by repeat' ((conv => whnf) <;> first | exact trivial | kernel_rfl | constructor)) (by repeat' ((conv => whnf) <;> first | exact trivial | refine ⟨?_, ?_⟩ | exact rfl | (simp only [List.map_append, List.map_cons, List.map_nil, List.map_set]; first | done | rfl))) (fun (k : Nat) ha => ?_) (by intro A; first | rfl | (obtain ⟨_, _⟩ := A; rfl) | (obtain ⟨_, _, _⟩ := A; rfl))); have ha : k ≤ (w.acts.getD i []).length ∧ ((w.acts.getD i []).take k).all (rng (-1) ((w.atoms.length : Int) - 1)) = true := ha) | (guard_target = Gh _ _ _ _ _; refine Gh.go ⟨(k + 1 : Nat), (by exact all_go (by omega) ha h), (by first | (show _ < _; simp only []; omega) | omega | (simp; omega)), (by repeat' ((conv => whnf) <;> first | exact trivial | kernel_rfl | constructor)), (by repeat' ((conv => whnf) <;> first | exact trivial | kernel_rfl | constructor)), (by repeat' ((conv => whnf) <;> first | exact trivial | refine ⟨?_, ?_⟩ | exact rfl | (simp only [List.map_append, List.map_cons, List.map_nil, List.map_set]; first | done | rfl)))⟩) | (guard_target = Gh _ _ _ _ _; refine Gh.go ⟨(i + 1 : Nat), (by exact all_go (by omega) ⟨by omega, ‹_ ∧ (w.acts.take i).all _ = true›.2⟩ (row_yes (by omega) (by omega) (all_end (by omega) ha))), (by first | (show _ < _; simp only []; omega) | omega | (simp; omega)), (by repeat' ((conv => whnf) <;> first | exact trivial | kernel_rfl | constructor)), (by repeat' ((conv => whnf) <;> first | exact trivial | kernel_rfl | constructor)), (by repeat' ((conv => whnf) <;> first | exact trivial | refine ⟨?_, ?_⟩ | exact rfl | (simp only [List.map_append, List.map_cons, List.map_nil, List.map_set]; first | done | rfl)))⟩) | (guard_target = Fact _ _; refine Fact.mk fun hL => ?_; (try simp only [List.length_map, maxLen] at hL)) | (guard_target = Branch _ _ _; (first | apply Branch.dec | apply Branch.beq | apply Branch.bne | apply Branch.ndec | apply Branch.nb | apply Branch.mk) <;> intro h <;> (try simp only [List.length_map] at h) <;> (try omega) <;> (try contradiction)) | (guard_target = CallN _ 51 _ _ _ _; refine CallN.pure _ _ rfl (within_ok _ _ _) rfl _ rfl ?_) | (guard_target = CallN _ 156 _ _ _ _; refine CallN.pure _ _ rfl (atomsIn_ok t a ht) rfl _ rfl ?_) | (guard_target = CallN _ 155 _ _ _ _; refine CallN.pure _ _ rfl (inRange_ok _ _ (by omega)) rfl _ rfl ?_) | (guard_target = Arith _ _ _; refine Arith.fit (by apply wrap_fit <;> first | omega | (simp only [List.length_map]; omega)) ?_) | (guard_target = Arith _ _ _; refine Arith.fit (by decide) ?_) | (guard_target = Index _ _ _; first | refine Index.mk _ (idx_getD (d := []) (i := i) (by omega)) ?_ | refine Index.mk _ (idx_map (i := k) (by omega)) ?_ | refine Index.mk _ (idx_map (by omega)) ?_) | (guard_target = Need (_ = true) _; refine Need.mk (by first | kernel_rfl | rfl) ?_) | (guard_target = LinkV _ _ _; refine LinkV.no ?_) | (guard_target = GhO _ _ _ _; refine GhO.go ?_) | (guard_target = Need _ _; refine Need.mk (by first  | omega | (simp only [List.length_map]; omega)) ?_))
end Go.Proofs.YtaajacnceocpoaaGreat

namespace Go.Proofs.YtaajacnceocpoaaGreat
open Go Go.KA Go.Proofs
theorem l01Atoms_ok (t a : Int) (ht : 0 ≤ t ∧ t ≤ 3) : CallF Tryz.prog 116 [.a 2 [J t, J a]] (I (atomsN t)) := by
  have h4 : t = 0 ∨ t = 1 ∨ t = 2 ∨ t = 3 := by omega
  rcases h4 with rfl | rfl | rfl | rfl
  all_goals
    refine callF_of_vc htb hm Tryz.func116 rfl rfl rfl rfl (ann := fun _ => none) (gh := fun _ => false) ?_
    repeat' ((conv => whnf); first | (guard_target = Done _; refine Done.mk ?_; first | (rfl; done) | skip) | (guard_target = Arith _ _ _; refine Arith.fit (wrap_fit (by (first | omega | decide)) (by (first | omega | decide))) ?_) | (guard_target = Arith _ _ _; refine Arith.fit (by decide) ?_) | (guard_target = Need _ _; refine Need.mk (by first  | omega | (simp only [List.length_map]; omega)) ?_))
theorem l02Atom_ok (t a n : Int) (ht : 0 ≤ t ∧ t ≤ 3) : CallF Tryz.prog 99 [.a 2 [J t, J a], I n] (B (rng 0 (atomsN t - 1) n)) := by
  have hb := atoms_b ht
  refine callF_of_vc htb hm Tryz.func99 rfl rfl rfl rfl (ann := fun _ => none) (gh := fun _ => false) ?_
  repeat' ((conv => whnf); first | (guard_target = Done _; refine Done.mk ?_; first | (rfl; done) | skip) | (guard_target = CallN _ 116 _ _ _ _; refine CallN.pure _ _ rfl (l01Atoms_ok t a ht) rfl _ rfl ?_) | (guard_target = CallN _ 98 _ _ _ _; refine CallN.pure _ _ rfl (l00In_ok _ _ _) rfl _ rfl ?_) | (guard_target = Arith _ _ _; refine Arith.fit (by apply wrap_fit <;> first | omega | (simp only [List.length_map]; omega)) ?_) | (guard_target = Arith _ _ _; refine Arith.fit (by decide) ?_) | (guard_target = Need _ _; refine Need.mk (by first  | omega | (simp only [List.length_map]; omega)) ?_))
theorem world_no0 {t a : Int} {w : XWorld} (h : w.atoms.all (rng 0 (atomsN t - 1)) = false) : goodWorld t a w = false := by
  unfold goodWorld
  rw [h]
  simp
set_option maxRecDepth 100000 in
set_option maxHeartbeats 8000000 in
theorem l06World_ok (t a : Int) (w : XWorld) : CallF Tryz.prog 34 [.a 2 [J t, J a], .c (.rp 2 (encWorld w))] (B (goodSig t a && goodWorld t a w)) := by
  refine callF_of_vc htb hm Tryz.func34 rfl rfl rfl rfl (ann := fun _ => none) (gh := fun _ => false) ?_
  repeat' ((conv => whnf); first | (guard_target = Done _; refine Done.mk ?_; first | (rfl; done) | (simp_all [goodWorld, normS, normV]; done) | (simp_all [goodWorld, normS, normV]; omega; done) | (simp_all [goodWorld, normS, normV]; intros; omega; done) | (simp_all [-List.all_eq_true, -List.all_eq_false, goodWorld, normS, normV]; done) | (simp_all [-List.all_eq_true, -List.all_eq_false, goodWorld, normS, normV]; omega; done) | (rw [world_no0 (all_stop (i := i) (by omega) h), Bool.and_false]; rfl; done) | (rw [world_no (i := i) (by omega) (row_no (by omega) h), Bool.and_false]; rfl; done) | (rw [world_no (i := i) (by omega) (row_no2 (by omega) (k := k) (by omega) h), Bool.and_false]; rfl; done) | (rw [world_yes ‹_› (all_end (by omega) ‹_ ∧ (w.atoms.take _).all _ = true›) (by omega) (all_end (by omega) ha), ‹goodSig t a = true›]; rfl; done) | skip) | (guard_target =~ LoopE 5 _ _ _ _ _ _; refine LoopE.mk { α := Nat, keep := [1, 2, 5], ov := fun i => [(6, I i)], φ := fun i => i ≤ w.atoms.length ∧ (w.atoms.take i).all (rng 0 (atomsN t - 1)) = true, μ := fun i => w.atoms.length - i } (LoopN.mk (0 : Nat) (by exact ⟨Nat.zero_le _, rfl⟩) (by repeat' ((conv => whnf) <;> first | exact trivial | kernel_rfl | constructor)) (by repeat' ((conv => whnf) <;> first | exact trivial | kernel_rfl | constructor)) (by repeat' ((conv => whnf) <;> first | exact trivial | refine ⟨?_, ?_⟩ | exact rfl | (simp only [List.map_append, List.map_cons, List.map_nil, List.map_set]; first | done | rfl))) (fun (i : Nat) ha => ?_) (by intro A; first | rfl | (obtain ⟨_, _⟩ := A; rfl) | (obtain ⟨_, _, _⟩ := A; rfl))); have ha : i ≤ w.atoms.length ∧ (w.atoms.take i).all (rng 0 (atomsN t - 1)) = true := ha) | (guard_target =~ LoopE 10 _ _ _ _ _ _; refine LoopE.mk { α := Nat, keep := [1, 5], ov := fun i => [(7, I i)], φ := fun i => i ≤ w.acts.length ∧ (w.acts.take i).all (goodRow w.atoms.length) = true, μ := fun i => w.acts.length - i } (LoopN.mk (0 : Nat) (by exact ⟨Nat.zero_le _, rfl⟩) (by repeat' ((conv => whnf) <;> first | exact trivial | kernel_rfl | constructor)) (by repeat' ((conv => whnf) <;> first | exact trivial | kernel_rfl | constructor)) (by repeat' ((conv => whnf) <;> first | exact trivial | refine ⟨?_, ?_⟩ | exact rfl | (simp only [List.map_append, List.map_cons, List.map_nil, List.map_set]; first | done | rfl))) (fun (i : Nat) ha => ?_) (by intro A; first | rfl | (obtain ⟨_, _⟩ := A; rfl) | (obtain ⟨_, _, _⟩ := A; rfl))); have ha : i ≤ w.acts.length ∧ (w.acts.take i).all (goodRow w.atoms.length) = true := ha) | (guard_target =~ LoopE 15 _ _ _ _ _ _; refine LoopE.mk { α := Nat, keep := [1, 5, 7], ov := fun k => [(8, I k)], φ := fun k => k ≤ (w.acts.getD i []).length ∧ ((w.acts.getD i []).take k).all (rng (-1) ((w.atoms.length : Int) - 1)) = true, μ := fun k => (w.acts.getD i []).length - k } (LoopN.mk (0 : Nat) (by exact ⟨Nat.zero_le _, rfl⟩) (by repeat' ((conv => whnf) <;> first | exact trivial | kernel_rfl | constructor)) (by repeat' ((conv => whnf) <;> first | exact trivial | kernel_rfl | constructor)) (by repeat' ((conv => whnf) <;> first | exact trivial | refine ⟨?_, ?_⟩ | exact rfl | (simp only [List.map_append, List.map_cons, List.map_nil, List.map_set]; first | done | rfl))) (fun (k : Nat) ha => ?_) (by intro A; first | rfl | (obtain ⟨_, _⟩ := A; rfl) | (obtain ⟨_, _, _⟩ := A; rfl))); have ha : k ≤ (w.acts.getD i []).length ∧ ((w.acts.getD i []).take k).all (rng (-1) ((w.atoms.length : Int) - 1)) = true := ha) | (guard_target = Gh _ _ _ _ _; refine Gh.go ⟨(i + 1 : Nat), (by exact all_go (by omega) ha h), (by first | (show _ < _; simp only []; omega) | omega | (simp; omega)), (by repeat' ((conv => whnf) <;> first | exact trivial | kernel_rfl | constructor)), (by repeat' ((conv => whnf) <;> first | exact trivial | kernel_rfl | constructor)), (by repeat' ((conv => whnf) <;> first | exact trivial | refine ⟨?_, ?_⟩ | exact rfl | (simp only [List.map_append, List.map_cons, List.map_nil, List.map_set]; first | done | rfl)))⟩) | (guard_target = Gh _ _ _ _ _; refine Gh.go ⟨(k + 1 : Nat), (by exact all_go (by omega) ha h), (by first | (show _ < _; simp only []; omega) | omega | (simp; omega)), (by repeat' ((conv => whnf) <;> first | exact trivial | kernel_rfl | constructor)), (by repeat' ((conv => whnf) <;> first | exact trivial | kernel_rfl | constructor)), (by repeat' ((conv => whnf) <;> first | exact trivial | refine ⟨?_, ?_⟩ | exact rfl | (simp only [List.map_append, List.map_cons, List.map_nil, List.map_set]; first | done | rfl)))⟩) | (guard_target = Gh _ _ _ _ _; refine Gh.go ⟨(i + 1 : Nat), (by exact all_go (by omega) ⟨by omega, ‹_ ∧ (w.acts.take i).all _ = true›.2⟩ (row_yes (by omega) (by omega) (all_end (by omega) ha))), (by first | (show _ < _; simp only []; omega) | omega | (simp; omega)), (by repeat' ((conv => whnf) <;> first | exact trivial | kernel_rfl | constructor)), (by repeat' ((conv => whnf) <;> first | exact trivial | kernel_rfl | constructor)), (by repeat' ((conv => whnf) <;> first | exact trivial | refine ⟨?_, ?_⟩ | exact rfl | (simp only [List.map_append, List.map_cons, List.map_nil, List.map_set]; first | done | rfl)))⟩) | (guard_target = Fact _ _; refine Fact.mk fun hL => ?_; (try simp only [List.length_map, maxLen] at hL)) | (guard_target = Branch _ _ _; (first | apply Branch.dec | apply Branch.beq | apply Branch.bne | apply Branch.ndec | apply Branch.nb | apply Branch.mk) <;> intro h <;> (try simp only [List.length_map] at h) <;> (try omega) <;> (try contradiction)) | (guard_target = CallN _ 87 _ _ _ _; refine CallN.pure _ _ rfl (l01Sig_ok t a) rfl _ rfl ?_) | (guard_target = CallN _ 98 _ _ _ _; refine CallN.pure _ _ rfl (l00In_ok _ _ _) rfl _ rfl ?_) | (guard_target = CallN _ 99 _ _ _ _; refine CallN.pure _ _ rfl (l02Atom_ok t a _ (sig_bounds ‹_›).1) rfl _ rfl ?_) | (guard_target = Arith _ _ _; refine Arith.fit (by apply wrap_fit <;> first | omega | (simp only [List.length_map]; omega)) ?_) | (guard_target = Arith _ _ _; refine Arith.fit (by decide) ?_) | (guard_target = Index _ _ _; first | refine Index.mk _ (idx_getD (d := []) (i := i) (by omega)) ?_ | refine Index.mk _ (idx_map (i := k) (by omega)) ?_ | refine Index.mk _ (idx_map (i := i) (by omega)) ?_ | refine Index.mk _ (idx_map (by omega)) ?_) | (guard_target = Need (_ = true) _; refine Need.mk (by first | kernel_rfl | rfl) ?_) | (guard_target = LinkV _ _ _; refine LinkV.no ?_) | (guard_target = GhO _ _ _ _; refine GhO.go ?_) | (guard_target = Need _ _; refine Need.mk (by first  | omega | (simp only [List.length_map]; omega)) ?_))
end Go.Proofs.YtaajacnceocpoaaGreat

namespace Go.Proofs.YtaajacnceocpoaaGreat
open Go Go.KA Go.Proofs
structure RS where
  st : Int
  ta : List Int
  tc : List Int
  steps : Int
abbrev ctI (w : XWorld) (fuel : Int) (r : RS) : List CV := [.ro 1 (w.atoms.map eI), .ro 1 (w.acts.map fun l => [.ro 1 (l.map eI)]), J r.st, .ows 2 1 (r.ta.map eI), .ows 2 1 (r.tc.map eI), J fuel, J r.steps]
abbrev ctS (w : XWorld) (fuel : Int) (r : RS) (code : Int) : List CV := [.rp 2 (encWorld w), J r.st, .ows 2 1 (r.ta.map eI), .ows 2 1 (r.tc.map eI), J r.steps, J fuel, J code]
def runOk (w : XWorld) (state fuel : Int) : Bool := rng 0 ((w.atoms.length : Int) - 1) state && rng 0 500 fuel
set_option maxHeartbeats 4000000
set_option maxRecDepth 100000
theorem isRun_ok (w : XWorld) (state fuel : Int) : CallF Tryz.prog 41 [.a 2 (encWorld w), I state, I fuel] (B (runOk w state fuel)) := by
  refine callF_of_vc htb hm Tryz.func41 rfl rfl rfl rfl (ann := fun _ => none) (gh := fun _ => false) ?_
  repeat' ((conv => whnf); first | (guard_target = Done _; refine Done.mk ?_; first | (rfl; done) | (simp_all [runOk, normS, normV]; done) | (simp_all [runOk, normS, normV]; omega; done) | (simp_all [runOk, normS, normV]; intros; omega; done) | (simp_all [-List.all_eq_true, -List.all_eq_false, runOk, normS, normV]; done) | (simp_all [-List.all_eq_true, -List.all_eq_false, runOk, normS, normV]; omega; done) | skip) | (guard_target = Fact _ _; refine Fact.mk fun hL => ?_; (try simp only [List.length_map, maxLen] at hL)) | (guard_target = Branch _ _ _; (first | apply Branch.dec | apply Branch.beq | apply Branch.bne | apply Branch.ndec | apply Branch.nb | apply Branch.mk) <;> intro h <;> (try simp only [List.length_map] at h) <;> (try omega) <;> (try contradiction)) | (guard_target = CallN _ 51 _ _ _ _; refine CallN.pure _ _ rfl (within_ok _ _ _) rfl _ rfl ?_) | (guard_target = Arith _ _ _; refine Arith.fit (by apply wrap_fit <;> first | omega | (simp only [List.length_map]; omega)) ?_) | (guard_target = Arith _ _ _; refine Arith.fit (by decide) ?_) | (guard_target = Need _ _; refine Need.mk (by first  | omega | (simp only [List.length_map]; omega)) ?_))
theorem l06Asked_ok (w : XWorld) (state fuel : Int) : CallF Tryz.prog 35 [.c (.rp 2 (encWorld w)), I state, I fuel] (I (if runOk w state fuel then 0 else 2)) := by
  refine callF_of_vc htb hm Tryz.func35 rfl rfl rfl rfl (ann := fun _ => none) (gh := fun _ => false) ?_
  repeat' ((conv => whnf); first | (guard_target = Done _; refine Done.mk ?_; first | (rfl; done) | (simp_all [runOk, normS, normV]; done) | (simp_all [runOk, normS, normV]; omega; done) | (simp_all [runOk, normS, normV]; intros; omega; done) | (simp_all [-List.all_eq_true, -List.all_eq_false, runOk, normS, normV]; done) | (simp_all [-List.all_eq_true, -List.all_eq_false, runOk, normS, normV]; omega; done) | skip) | (guard_target = Fact _ _; refine Fact.mk fun hL => ?_; (try simp only [List.length_map, maxLen] at hL)) | (guard_target = Branch _ _ _; (first | apply Branch.dec | apply Branch.beq | apply Branch.bne | apply Branch.ndec | apply Branch.nb | apply Branch.mk) <;> intro h <;> (try simp only [List.length_map] at h) <;> (try omega) <;> (try contradiction)) | (guard_target = CallN _ 98 _ _ _ _; refine CallN.pure _ _ rfl (l00In_ok _ _ _) rfl _ rfl ?_) | (guard_target = Arith _ _ _; refine Arith.fit (by apply wrap_fit <;> first | omega | (simp only [List.length_map]; omega)) ?_) | (guard_target = Arith _ _ _; refine Arith.fit (by decide) ?_) | (guard_target = Need _ _; refine Need.mk (by first  | omega | (simp only [List.length_map]; omega)) ?_))
def at0 (w : XWorld) (state : Int) : Int := w.atoms.getD state.toNat 0
theorem newRunner_ok (w : XWorld) (state fuel : Int) (h : runOk w state fuel = true) : CallX Tryz.prog 42 [.a 2 (encWorld w), I state, I fuel] [] (.c (.op (ctI w fuel ⟨state, [at0 w state], [], 0⟩))) := by
  have hb : 0 ≤ state ∧ state < w.atoms.length := by
    simp only [runOk, rng, Bool.and_eq_true, decide_eq_true_eq] at h
    omega
  refine callX_of_vc htb hm Tryz.func42 rfl rfl rfl rfl (ann := fun _ => none) (gh := fun _ => false) ?_
  repeat' ((conv => whnf); first | (guard_target = RetX _ _; refine RetX.mk ?_ ?_) | (guard_target = Index _ _ _; first | refine Index.mk _ (idx_getD (d := 0) (i := state.toNat) (by omega)) ?_ | refine Index.mk _ (idx_map (by omega)) ?_) | (guard_target = Need (_ = true) _; refine Need.mk (by first | kernel_rfl | rfl) ?_) | (guard_target = LinkV _ _ _; refine LinkV.no ?_) | (guard_target = GhO _ _ _ _; refine GhO.go ?_) | (guard_target = Need _ _; refine Need.mk (by first  | omega | (simp only [List.length_map]; omega)) ?_))
  all_goals first | rfl | trivial
theorem l06Start_ok (w : XWorld) (state fuel : Int) (h : runOk w state fuel = true) : CallX Tryz.prog 36 [.c (.rp 2 (encWorld w)), I state, I fuel] [] (.c (.op (ctS w fuel ⟨state, [at0 w state], [], 0⟩ 0))) := by
  have hb : 0 ≤ state ∧ state < w.atoms.length := by
    simp only [runOk, rng, Bool.and_eq_true, decide_eq_true_eq] at h
    omega
  refine callX_of_vc htb hm Tryz.func36 rfl rfl rfl rfl (ann := fun _ => none) (gh := fun _ => false) ?_
  repeat' ((conv => whnf); first | (guard_target = RetX _ _; refine RetX.mk ?_ ?_) | (guard_target = Index _ _ _; first | refine Index.mk _ (idx_getD (d := 0) (i := state.toNat) (by omega)) ?_ | refine Index.mk _ (idx_map (by omega)) ?_) | (guard_target = LinkV _ _ _; refine LinkV.no ?_) | (guard_target = Need _ _; refine Need.mk (by first  | omega | (simp only [List.length_map]; omega)) ?_))
  all_goals first | rfl | trivial
/-! ### truth of conditions -/
def bitE (n atom : Int) : Bool := (IntKind.i64.wrap ((BitVec.ofInt 64 (atom.fdiv (2 ^ (min n.toNat 64))) &&& BitVec.ofInt 64 1).toNat)) == 1
mutual
def truthE : XExpr → Int → Bool
  | .mk k n kids, atom => if k = 2 then true else if k = 3 then bitE n atom else if k = 5 then !((truthL kids atom).getD 0 false) else if k = 6 then (truthL kids atom).getD 0 false || (truthL kids atom).getD 1 false else if k = 7 then (truthL kids atom).getD 0 false && (truthL kids atom).getD 1 false else false
def truthL : List XExpr → Int → List Bool
  | [], _ => []
  | x :: xs, atom => truthE x atom :: truthL xs atom
end
theorem truthL_map (atom : Int) : ∀ l : List XExpr, truthL l atom = l.map fun x => truthE x atom
  | [] => rfl
  | x :: xs => by simp only [truthL, List.map_cons]; rw [truthL_map atom xs]
theorem truthL_get {l : List XExpr} {i : Nat} (h : i < l.length) (atom : Int) : (truthL l atom).getD i false = truthE l[i] atom := by
  rw [truthL_map, List.getD_eq_getElem?_getD, List.getElem?_map, List.getElem?_eq_getElem h]
  rfl
theorem truthE_eq (e : XExpr) (atom : Int) : truthE e atom = if e.kind = 2 then true else if e.kind = 3 then bitE e.num atom else if e.kind = 5 then !((truthL e.kids atom).getD 0 false) else if e.kind = 6 then (truthL e.kids atom).getD 0 false || (truthL e.kids atom).getD 1 false else if e.kind = 7 then (truthL e.kids atom).getD 0 false && (truthL e.kids atom).getD 1 false else false := by
  cases e
  rfl
def okC (t a : Int) (e : XExpr) : Prop := condB e = true ∧ treeB t a e = true
theorem okC_len {t a : Int} {e : XExpr} (h : okC t a e) : (e.kids.length : Int) = kidsN e.kind ∧ (e.kind = 3 → 0 ≤ e.num) ∧ (1 ≤ e.kind ∧ e.kind ≤ 7 ∧ e.kind ≠ 4) := by
  have h1 := h.1
  have h2 := h.2
  rw [condB_eq] at h1
  rw [treeB_eq] at h2
  simp only [Bool.and_eq_true, rng, decide_eq_true_eq, beq_iff_eq, Bool.not_eq_true', beq_eq_false_iff_ne] at h1 h2
  refine ⟨h2.1, fun h3 => ?_, by omega⟩
  rw [if_pos h3] at h2
  have := h2.2
  simp only [Bool.and_eq_true, decide_eq_true_eq] at this
  exact this.1
theorem okC_kid {t a : Int} {e : XExpr} (h : okC t a e) {x : XExpr} (hx : x ∈ e.kids) : okC t a x := by
  have hl := okC_len h
  have h1 := h.1
  have h2 := h.2
  rw [condB_eq] at h1
  rw [treeB_eq] at h2
  simp only [Bool.and_eq_true, List.all_eq_true, beq_iff_eq] at h1 h2
  refine ⟨h1.2 x hx, ?_⟩
  by_cases h3 : e.kind = 3
  · have : kidsN e.kind = 0 := by rw [h3]; rfl
    have : e.kids = [] := List.length_eq_zero_iff.1 (by omega)
    rw [this] at hx; cases hx
  have h4 : ¬ e.kind = 4 := hl.2.2.2.2
  rw [if_neg h3, if_neg h4] at h2
  have := h2.2
  simp only [Bool.and_eq_true, List.all_eq_true] at this
  exact this.2.2 x hx
theorem kids5 (k : Int) : (k = 5 → kidsN k = 1) ∧ (k = 6 → kidsN k = 2) ∧ (k = 7 → kidsN k = 2) := by
  refine ⟨?_, ?_, ?_⟩ <;> rintro rfl <;> rfl
theorem u64_fit {z : Int} (h0 : 0 ≤ z) (h1 : z ≤ 18446744073709551615) : IntKind.u64.wrap z = z := by
  simp only [IntKind.wrap, IntKind.signed, IntKind.bits]
  simp
  omega
theorem truth_all (t a atom : Int) (e : XExpr) (h : okC t a e) (hx : ∀ x ∈ e.kids, CallF Tryz.prog 159 [.a 3 (encExpr x), I atom] (B (truthE x atom))) : CallF Tryz.prog 159 [.a 3 (toldE e), I atom] (B (truthE e atom)) := by
  have hl := okC_len h
  have hk := kids5 e.kind
  have g0 : ∀ h0 : 0 < e.kids.length, (truthL e.kids atom).getD 0 false = truthE e.kids[0] atom := fun h0 => truthL_get h0 atom
  have g1 : ∀ h1 : 1 < e.kids.length, (truthL e.kids atom).getD 1 false = truthE e.kids[1] atom := fun h1 => truthL_get h1 atom
  rw [truthE_eq]
  refine callF_of_vc htb hm Tryz.func159 rfl rfl rfl rfl (ann := fun _ => none) (gh := fun _ => false) ?_
  repeat' ((conv => whnf); first | (guard_target = Done _; refine Done.mk ?_; first | (simp [*]; rfl; done) | (simp_all [normS, normV]; done) | (rw [if_neg (show ¬ e.kind = 2 by omega), if_neg (show ¬ e.kind = 3 by omega), g0 (by omega), g1 (by omega)]; simp_all [normS, normV]; done) | (rw [if_neg (show ¬ e.kind = 2 by omega), if_neg (show ¬ e.kind = 3 by omega), g0 (by omega)]; simp_all [normS, normV]; done) | (rw [if_neg (show ¬ e.kind = 2 by omega), if_neg (show ¬ e.kind = 3 by omega), if_neg (show ¬ e.kind = 5 by omega), if_neg (show ¬ e.kind = 6 by omega), if_pos (show e.kind = 7 by omega), g0 (by omega), g1 (by omega)]; simp_all [normS, normV]; done) | skip) | (guard_target = Branch _ _ _; (first | apply Branch.dec | apply Branch.beq | apply Branch.bne | apply Branch.ndec | apply Branch.nb | apply Branch.mk) <;> intro h <;> (try simp only [List.length_map] at h) <;> (try omega) <;> (try contradiction)) | (guard_target = CallN _ 159 _ _ _ _; refine CallN.pure _ _ rfl (hx _ (List.getElem_mem (by omega))) rfl _ rfl ?_) | (guard_target = Index _ _ _; first | refine Index.mk _ (idx_map (i := 0) (by omega)) ?_ | refine Index.mk _ (idx_map (i := 1) (by omega)) ?_ | refine Index.mk _ (idx_map (by omega)) ?_) | (guard_target = LinkV _ _ _; refine LinkV.no ?_) | (guard_target = Need _ _; refine Need.mk (by first  | omega | (simp only [List.length_map]; omega)) ?_))
theorem truth_ok (t a atom : Int) (e : XExpr) (h : okC t a e) : CallF Tryz.prog 159 [.a 3 (encExpr e), I atom] (B (truthE e atom)) := by
  rw [encExpr_eq]
  exact truth_all t a atom e h fun x _hx => truth_ok t a atom x (okC_kid h _hx)
  termination_by SizeOf.sizeOf e
  decreasing_by
    have := List.sizeOf_lt_of_mem _hx
    cases e
    simp only [XExpr.mk.sizeOf_spec]
    show SizeOf.sizeOf x < _
    simp only [XExpr.kids] at this
    omega
theorem l01True_all (t a atom : Int) (ht : t ≤ 3) (e : XExpr) (h : okC t a e) (hx : ∀ x ∈ e.kids, CallF Tryz.prog 127 [.c (.rp 3 (encExpr x)), I atom] (B (truthE x atom))) : CallF Tryz.prog 127 [.c (.rp 3 (toldE e)), I atom] (B (truthE e atom)) := by
  have hl := okC_len h
  have hk := kids5 e.kind
  have g0 : ∀ h0 : 0 < e.kids.length, (truthL e.kids atom).getD 0 false = truthE e.kids[0] atom := fun h0 => truthL_get h0 atom
  have g1 : ∀ h1 : 1 < e.kids.length, (truthL e.kids atom).getD 1 false = truthE e.kids[1] atom := fun h1 => truthL_get h1 atom
  have h3 : e.kind = 3 → e.num ≤ 2 := by
    intro h3
    have := h.2
    rw [treeB_eq] at this
    simp only [h3, Bool.and_eq_true, rng, decide_eq_true_eq, beq_iff_eq, if_true] at this
    have := this.2
    omega
  rw [truthE_eq]
  refine callF_of_vc htb hm Tryz.func127 rfl rfl rfl rfl (ann := fun _ => none) (gh := fun _ => false) ?_
  repeat' ((conv => whnf); first | (guard_target = Done _; refine Done.mk ?_; first | (simp [*]; rfl; done) | (simp_all [normS, normV]; done) | (rw [if_neg (show ¬ e.kind = 2 by omega), if_neg (show ¬ e.kind = 3 by omega), g0 (by omega), g1 (by omega)]; simp_all [normS, normV]; done) | (rw [if_neg (show ¬ e.kind = 2 by omega), if_neg (show ¬ e.kind = 3 by omega), g0 (by omega)]; simp_all [normS, normV]; done) | (rw [if_neg (show ¬ e.kind = 2 by omega), if_neg (show ¬ e.kind = 3 by omega), if_neg (show ¬ e.kind = 5 by omega), if_neg (show ¬ e.kind = 6 by omega), if_pos (show e.kind = 7 by omega), g0 (by omega), g1 (by omega)]; simp_all [normS, normV]; done) | skip) | (guard_target = Branch _ _ _; (first | apply Branch.dec | apply Branch.beq | apply Branch.bne | apply Branch.ndec | apply Branch.nb | apply Branch.mk) <;> intro h <;> (try simp only [List.length_map] at h) <;> (try omega) <;> (try contradiction)) | (guard_target = CallN _ 127 _ _ _ _; refine CallN.pure _ _ rfl (hx _ (List.getElem_mem (by omega))) rfl _ rfl ?_) | (guard_target = Arith IntKind.u64 _ _; refine Arith.fit (u64_fit (by omega) (by omega)) ?_) | (guard_target = Arith _ _ _; refine Arith.fit (by apply wrap_fit <;> first | omega | (simp only [List.length_map]; omega)) ?_) | (guard_target = Arith _ _ _; refine Arith.fit (by decide) ?_) | (guard_target = Index _ _ _; first | refine Index.mk _ (idx_map (i := 0) (by omega)) ?_ | refine Index.mk _ (idx_map (i := 1) (by omega)) ?_ | refine Index.mk _ (idx_map (by omega)) ?_) | (guard_target = LinkV _ _ _; refine LinkV.no ?_) | (guard_target = Need _ _; refine Need.mk (by first  | omega | (simp only [List.length_map]; omega)) ?_))
theorem l01True_ok (t a atom : Int) (ht : t ≤ 3) (e : XExpr) (h : okC t a e) : CallF Tryz.prog 127 [.c (.rp 3 (encExpr e)), I atom] (B (truthE e atom)) := by
  rw [encExpr_eq]
  exact l01True_all t a atom ht e h fun x _hx => l01True_ok t a atom ht x (okC_kid h _hx)
  termination_by SizeOf.sizeOf e
  decreasing_by
    have := List.sizeOf_lt_of_mem _hx
    cases e
    simp only [XExpr.mk.sizeOf_spec]
    show SizeOf.sizeOf x < _
    simp only [XExpr.kids] at this
    omega
end Go.Proofs.YtaajacnceocpoaaGreat
