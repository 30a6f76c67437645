/- Contracts of the functions that run a flowchart: both compute one function. No conditions. -/
import Derived.Test.YtbbaadkgmdkjdaaXf
namespace Go.Proofs.Ytbbaadkgmdkjdaa
open Go Go.KA Go.Proofs
set_option maxHeartbeats 8000000
set_option maxRecDepth 100000
def noSpot : XSpot := ⟨0, 0, .mk 0 0 [], 0, 0⟩
def spotAt (f : XFlow) (p : Int) : XSpot := f.spots.getD p.toNat noSpot
def flowR (w : XWorld) (fuel : Int) (f : XFlow) : Nat → Int → RS → Int × RS
  | 0, _, r => (7, r)
  | n + 1, p, r =>
    if (spotAt f p).kind = 3 then (0, r) else if r.steps = fuel then (7, r)
    else if (spotAt f p).kind = 4 then (4, more r)
    else if (spotAt f p).kind = 1 then (if nxt w (more r) (spotAt f p).num < 0 then (4, more r) else flowR w fuel f n (spotAt f p).to0 (done w (more r) (spotAt f p).num))
    else if truthE (spotAt f p).cond (at0 w r.st) = true then flowR w fuel f n (spotAt f p).to0 (more r) else flowR w fuel f n (spotAt f p).else0 (more r)
structure FOk (t a : Int) (f : XFlow) : Prop where
  len : f.spots.length ≤ 60
  spot : ∀ s ∈ f.spots, goodSpot t a f.spots.length s = true
structure FInv (t a : Int) (w : XWorld) (fuel : Int) (f : XFlow) (R : Int × RS) (p : Int) (r : RS) : Prop where
  st : StOk w r
  inb : 0 ≤ p ∧ p < f.spots.length
  le : r.steps ≤ fuel
  run : flowR w fuel f ((fuel - r.steps).toNat + 1) p r = R
theorem condG_ok {t a : Int} {e : XExpr} (h : condG t a e = true) : okC t a e := by
  simp only [condG, goodE, Bool.and_eq_true] at h
  exact ⟨h.2, h.1.2.2⟩
structure SpotOk (t a n : Int) (s : XSpot) : Prop where
  act : s.kind = 1 → (0 ≤ s.num ∧ s.num < a) ∧ (0 ≤ s.to0 ∧ s.to0 < n)
  test : ¬ s.kind = 1 → ¬ s.kind = 3 → ¬ s.kind = 4 → okC t a s.cond ∧ (0 ≤ s.to0 ∧ s.to0 < n) ∧ (0 ≤ s.else0 ∧ s.else0 < n)
theorem spot_ok {t a n : Int} {s : XSpot} (h : goodSpot t a n s = true) : SpotOk t a n s := by
  unfold goodSpot at h
  refine ⟨fun h1 => ?_, fun h1 h3 h4 => ?_⟩
  · rw [if_pos (by rw [h1]; rfl)] at h
    simp only [rng, Bool.and_eq_true, decide_eq_true_eq] at h
    omega
  · rw [if_neg (by simpa using h1)] at h
    by_cases h2 : s.kind = 2
    · rw [if_pos (by rw [h2]; rfl)] at h
      simp only [rng, Bool.and_eq_true, decide_eq_true_eq] at h
      exact ⟨condG_ok h.2.1, by omega, by omega⟩
    · rw [if_neg (by simpa using h2), if_neg (by simp [h3, h4])] at h
      cases h
theorem FInv.spot {t a : Int} {w : XWorld} {fuel : Int} {f : XFlow} {R : Int × RS} {p : Int} {r : RS} (hf : FOk t a f) (h : FInv t a w fuel f R p r) : SpotOk t a f.spots.length (spotAt f p) := by
  have hp : p.toNat < f.spots.length := by have := h.inb; omega
  unfold spotAt
  rw [getD_eq hp]
  exact spot_ok (hf.spot _ (List.getElem_mem hp))
section
variable {t a : Int} {w : XWorld} {fuel : Int} {f : XFlow} {R : Int × RS} {p : Int} {r : RS}
theorem FInv.halt (h : FInv t a w fuel f R p r) (h3 : (spotAt f p).kind = 3) : R = (0, r) := by
  have := h.run
  unfold flowR at this
  rw [if_pos h3] at this
  exact this.symm
theorem FInv.stop (h : FInv t a w fuel f R p r) (h3 : ¬ (spotAt f p).kind = 3) (h7 : r.steps = fuel) : R = (7, r) := by
  have := h.run
  unfold flowR at this
  rw [if_neg h3, if_pos h7] at this
  exact this.symm
theorem FInv.fail (h : FInv t a w fuel f R p r) (h3 : ¬ (spotAt f p).kind = 3) (h7 : ¬ r.steps = fuel) (h4 : (spotAt f p).kind = 4) : R = (4, more r) := by
  have := h.run
  unfold flowR at this
  rw [if_neg h3, if_neg h7, if_pos h4] at this
  exact this.symm
theorem FInv.dead (h : FInv t a w fuel f R p r) (h3 : ¬ (spotAt f p).kind = 3) (h7 : ¬ r.steps = fuel) (h4 : ¬ (spotAt f p).kind = 4) (h1 : (spotAt f p).kind = 1) (hn : nxt w (more r) (spotAt f p).num < 0) : R = (4, more r) := by
  have := h.run
  unfold flowR at this
  rw [if_neg h3, if_neg h7, if_neg h4, if_pos h1, if_pos hn] at this
  exact this.symm
theorem StOk.inc (h : StOk w r) (hs : r.steps < 1000) : StOk w (more r) := by
  obtain ⟨h1, h2, h3, h4⟩ := h
  exact ⟨h1, by show 0 ≤ r.steps + 1 ∧ r.steps + 1 ≤ 1000; omega, by show r.ta.length ≤ 10000 + (r.steps + 1).toNat; omega, by show r.tc.length ≤ 10000 + (r.steps + 1).toNat; omega⟩
theorem StOk.fin (hw : WOk w) {act : Int} (h : StOk w r) (hs : r.steps < 1000) (ha : 0 ≤ act ∧ act < w.acts.length) (hn : ¬ nxt w (more r) act < 0) : StOk w (done w (more r) act) := by
  have hb := nxt_b hw (h.inc hs) ha
  obtain ⟨h1, h2, h3, h4⟩ := h
  exact ⟨by show 0 ≤ nxt w (more r) act ∧ nxt w (more r) act < w.atoms.length; omega, by show 0 ≤ r.steps + 1 ∧ r.steps + 1 ≤ 1000; omega, by show (r.ta ++ [_]).length ≤ 10000 + (r.steps + 1).toNat; rw [List.length_append, List.length_singleton]; omega, by show (r.tc ++ [_]).length ≤ 10000 + (r.steps + 1).toNat; rw [List.length_append, List.length_singleton]; omega⟩
theorem fuel_less {x y : Int} (h : x < y) : (y - x).toNat = (y - (x + 1)).toNat + 1 := by omega
theorem FInv.act (hf : FOk t a f) (hw : WOk w) (hA : (w.acts.length : Int) = a) (hfu : fuel ≤ 500) (h : FInv t a w fuel f R p r) (h3 : ¬ (spotAt f p).kind = 3) (h7 : ¬ r.steps = fuel) (h4 : ¬ (spotAt f p).kind = 4) (h1 : (spotAt f p).kind = 1) (hn : ¬ nxt w (more r) (spotAt f p).num < 0) :
    FInv t a w fuel f R (spotAt f p).to0 (done w (more r) (spotAt f p).num) := by
  have hs := (h.spot hf).act h1
  have hl := h.le
  refine ⟨h.st.fin hw (by omega) (by omega) hn, hs.2, by show r.steps + 1 ≤ fuel; omega, ?_⟩
  have := h.run
  unfold flowR at this
  rw [if_neg h3, if_neg h7, if_neg h4, if_pos h1, if_neg hn, fuel_less (by omega : r.steps < fuel)] at this
  exact this
theorem FInv.yes (hf : FOk t a f) (hfu : fuel ≤ 500) (h : FInv t a w fuel f R p r) (h3 : ¬ (spotAt f p).kind = 3) (h7 : ¬ r.steps = fuel) (h4 : ¬ (spotAt f p).kind = 4) (h1 : ¬ (spotAt f p).kind = 1) (ht : truthE (spotAt f p).cond (at0 w r.st) = true) :
    FInv t a w fuel f R (spotAt f p).to0 (more r) := by
  have hs := (h.spot hf).test h1 h3 h4
  have hl := h.le
  refine ⟨h.st.inc (by omega), hs.2.1, by show r.steps + 1 ≤ fuel; omega, ?_⟩
  have := h.run
  unfold flowR at this
  rw [if_neg h3, if_neg h7, if_neg h4, if_neg h1, if_pos ht, fuel_less (by omega : r.steps < fuel)] at this
  exact this
theorem FInv.no (hf : FOk t a f) (hfu : fuel ≤ 500) (h : FInv t a w fuel f R p r) (h3 : ¬ (spotAt f p).kind = 3) (h7 : ¬ r.steps = fuel) (h4 : ¬ (spotAt f p).kind = 4) (h1 : ¬ (spotAt f p).kind = 1) (ht : truthE (spotAt f p).cond (at0 w r.st) = false) :
    FInv t a w fuel f R (spotAt f p).else0 (more r) := by
  have hs := (h.spot hf).test h1 h3 h4
  have hl := h.le
  refine ⟨h.st.inc (by omega), hs.2.2, by show r.steps + 1 ≤ fuel; omega, ?_⟩
  have := h.run
  unfold flowR at this
  rw [if_neg h3, if_neg h7, if_neg h4, if_neg h1, if_neg (by simp [ht]), fuel_less (by omega : r.steps < fuel)] at this
  exact this
end
theorem holdsI_ok' (t a : Int) (w : XWorld) (fuel : Int) (r : RS) (hr : StOk w r) (e : XExpr) (h : okC t a e) : CallX Try.prog 96 [.c (.op (ctI w fuel r)), .a 3 (toldE e)] [some [.op (ctI w fuel r)], none] (B (truthE e (at0 w r.st))) := by
  have := holdsI_ok t a w fuel r hr e h
  rwa [encExpr_eq] at this
theorem flowI_ok (t a : Int) (w : XWorld) (fuel : Int) (f : XFlow) (hf : FOk t a f) (hw : WOk w) (hA : (w.acts.length : Int) = a) (hfu : 0 ≤ fuel ∧ fuel ≤ 500) (r0 : RS) (R : Int × RS) (h0 : FInv t a w fuel f R f.start r0) : CallX Try.prog 59 [.c (.op (ctI w fuel r0)), .a 2 (encFlow f)] [some [.op (ctI w fuel R.2)], none] (I R.1) := by
  refine callX_of_vc htb hm Try.func59 rfl rfl rfl rfl (ann := fun _ => none) (gh := fun _ => false) ?_
  repeat' ((conv => whnf); first
    | (guard_target = RetX _ _; obtain rfl : R = (0, r); (exact ha.halt ‹_›); exact RetX.mk rfl ⟨rfl, trivial⟩)
    | (guard_target = RetX _ _; obtain rfl : R = (7, r); (exact ha.stop ‹_› ‹_›); exact RetX.mk rfl ⟨rfl, trivial⟩)
    | (guard_target = RetX _ _; obtain rfl : R = (4, more r); (exact ha.fail ‹_› ‹_› ‹_›); exact RetX.mk rfl ⟨rfl, trivial⟩)
    | (guard_target = RetX _ _; obtain rfl : R = (4, more r); (exact ha.dead ‹_› ‹_› ‹_› ‹_› ‹_›); exact RetX.mk rfl ⟨rfl, trivial⟩)
    | (guard_target = Done _; refine Done.mk ?_)
    | (guard_target = RetX _ _; refine RetX.mk ?_ ?_)
    | (guard_target =~ LoopE 2 _ _ _ _ _ _; refine LoopE.mk { α := Int × RS, keep := [0, 3], ov := fun ⟨p, r⟩ => [(5, I p)], hv := fun ⟨p, r⟩ => [(0, .row none 2 1 (r.ta.map eI)), (1, .row none 2 1 (r.tc.map eI)), (2, .cells [.c (.ro 1 (w.atoms.map eI)), .c (.ro 1 (w.acts.map fun l => [.ro 1 (l.map eI)])), .c (J r.st), .lw 0, .lw 1, .c (J fuel), .c (J r.steps)])], φ := fun ⟨p, r⟩ => FInv t a w fuel f R p r, μ := fun ⟨p, r⟩ => (fuel - r.steps).toNat } (LoopN.mk ((f.start, r0) : Int × RS) (by exact h0) (by first | exact trivial | exact ⟨⟨rfl, rfl⟩, trivial⟩ | exact ⟨⟨rfl, rfl⟩, ⟨rfl, rfl⟩, trivial⟩ | exact ⟨⟨rfl, rfl⟩, ⟨rfl, rfl⟩, ⟨rfl, rfl⟩, trivial⟩ | exact ⟨⟨rfl, rfl⟩, ⟨rfl, rfl⟩, ⟨rfl, rfl⟩, ⟨rfl, rfl⟩, trivial⟩ | exact ⟨⟨rfl, rfl⟩, ⟨rfl, rfl⟩, ⟨rfl, rfl⟩, ⟨rfl, rfl⟩, ⟨rfl, rfl⟩, trivial⟩ | exact ⟨⟨rfl, rfl⟩, ⟨rfl, rfl⟩, ⟨rfl, rfl⟩, ⟨rfl, rfl⟩, ⟨rfl, rfl⟩, ⟨rfl, rfl⟩, trivial⟩ | exact ⟨⟨rfl, rfl⟩, ⟨rfl, rfl⟩, ⟨rfl, rfl⟩, ⟨rfl, rfl⟩, ⟨rfl, rfl⟩, ⟨rfl, rfl⟩, ⟨rfl, rfl⟩, trivial⟩ | exact ⟨⟨rfl, rfl⟩, ⟨rfl, rfl⟩, ⟨rfl, rfl⟩, ⟨rfl, rfl⟩, ⟨rfl, rfl⟩, ⟨rfl, rfl⟩, ⟨rfl, rfl⟩, ⟨rfl, rfl⟩, trivial⟩) (by first | exact trivial | exact ⟨⟨rfl, rfl⟩, trivial⟩ | exact ⟨⟨rfl, rfl⟩, ⟨rfl, rfl⟩, trivial⟩ | exact ⟨⟨rfl, rfl⟩, ⟨rfl, rfl⟩, ⟨rfl, rfl⟩, trivial⟩ | exact ⟨⟨rfl, rfl⟩, ⟨rfl, rfl⟩, ⟨rfl, rfl⟩, ⟨rfl, rfl⟩, trivial⟩ | exact ⟨⟨rfl, rfl⟩, ⟨rfl, rfl⟩, ⟨rfl, rfl⟩, ⟨rfl, rfl⟩, ⟨rfl, rfl⟩, trivial⟩ | exact ⟨⟨rfl, rfl⟩, ⟨rfl, rfl⟩, ⟨rfl, rfl⟩, ⟨rfl, rfl⟩, ⟨rfl, rfl⟩, ⟨rfl, rfl⟩, trivial⟩ | exact ⟨⟨rfl, rfl⟩, ⟨rfl, rfl⟩, ⟨rfl, rfl⟩, ⟨rfl, rfl⟩, ⟨rfl, rfl⟩, ⟨rfl, rfl⟩, ⟨rfl, rfl⟩, trivial⟩ | exact ⟨⟨rfl, rfl⟩, ⟨rfl, rfl⟩, ⟨rfl, rfl⟩, ⟨rfl, rfl⟩, ⟨rfl, rfl⟩, ⟨rfl, rfl⟩, ⟨rfl, rfl⟩, ⟨rfl, rfl⟩, trivial⟩) (by first | exact trivial | exact ⟨⟨rfl, rfl⟩, trivial⟩ | exact ⟨⟨rfl, rfl⟩, ⟨rfl, rfl⟩, trivial⟩ | exact ⟨⟨rfl, rfl⟩, ⟨rfl, rfl⟩, ⟨rfl, rfl⟩, trivial⟩ | exact ⟨⟨rfl, rfl⟩, ⟨rfl, rfl⟩, ⟨rfl, rfl⟩, ⟨rfl, rfl⟩, trivial⟩ | exact ⟨⟨rfl, rfl⟩, ⟨rfl, rfl⟩, ⟨rfl, rfl⟩, ⟨rfl, rfl⟩, ⟨rfl, rfl⟩, trivial⟩ | exact ⟨⟨rfl, rfl⟩, ⟨rfl, rfl⟩, ⟨rfl, rfl⟩, ⟨rfl, rfl⟩, ⟨rfl, rfl⟩, ⟨rfl, rfl⟩, trivial⟩ | exact ⟨⟨rfl, rfl⟩, ⟨rfl, rfl⟩, ⟨rfl, rfl⟩, ⟨rfl, rfl⟩, ⟨rfl, rfl⟩, ⟨rfl, rfl⟩, ⟨rfl, rfl⟩, trivial⟩ | exact ⟨⟨rfl, rfl⟩, ⟨rfl, rfl⟩, ⟨rfl, rfl⟩, ⟨rfl, rfl⟩, ⟨rfl, rfl⟩, ⟨rfl, rfl⟩, ⟨rfl, rfl⟩, ⟨rfl, rfl⟩, trivial⟩) (fun A ha => ?_) (by intro A; first | rfl | (obtain ⟨_, _⟩ := A; rfl) | (obtain ⟨_, _, _⟩ := A; rfl))); obtain ⟨p, r⟩ := A; have ha : FInv t a w fuel f R p r := ha; have hat := ha.inb; have hle := ha.le; have hst := ha.st.steps)
    | (guard_target = Gh _ _ _ _ _; refine Gh.go ⟨(((spotAt f p).to0, done w (more r) (spotAt f p).num) : Int × RS), (by exact ha.act hf hw hA hfu.2 ‹_› ‹_› ‹_› ‹_› ‹_›), (by first | (show _ < _; simp only []; omega) | omega | (simp; omega)), (by first | exact trivial | exact ⟨⟨rfl, rfl⟩, trivial⟩ | exact ⟨⟨rfl, rfl⟩, ⟨rfl, rfl⟩, trivial⟩ | exact ⟨⟨rfl, rfl⟩, ⟨rfl, rfl⟩, ⟨rfl, rfl⟩, trivial⟩ | exact ⟨⟨rfl, rfl⟩, ⟨rfl, rfl⟩, ⟨rfl, rfl⟩, ⟨rfl, rfl⟩, trivial⟩ | exact ⟨⟨rfl, rfl⟩, ⟨rfl, rfl⟩, ⟨rfl, rfl⟩, ⟨rfl, rfl⟩, ⟨rfl, rfl⟩, trivial⟩ | exact ⟨⟨rfl, rfl⟩, ⟨rfl, rfl⟩, ⟨rfl, rfl⟩, ⟨rfl, rfl⟩, ⟨rfl, rfl⟩, ⟨rfl, rfl⟩, trivial⟩ | exact ⟨⟨rfl, rfl⟩, ⟨rfl, rfl⟩, ⟨rfl, rfl⟩, ⟨rfl, rfl⟩, ⟨rfl, rfl⟩, ⟨rfl, rfl⟩, ⟨rfl, rfl⟩, trivial⟩ | exact ⟨⟨rfl, rfl⟩, ⟨rfl, rfl⟩, ⟨rfl, rfl⟩, ⟨rfl, rfl⟩, ⟨rfl, rfl⟩, ⟨rfl, rfl⟩, ⟨rfl, rfl⟩, ⟨rfl, rfl⟩, trivial⟩), (by first | exact trivial | exact ⟨⟨rfl, rfl⟩, trivial⟩ | exact ⟨⟨rfl, rfl⟩, ⟨rfl, rfl⟩, trivial⟩ | exact ⟨⟨rfl, rfl⟩, ⟨rfl, rfl⟩, ⟨rfl, rfl⟩, trivial⟩ | exact ⟨⟨rfl, rfl⟩, ⟨rfl, rfl⟩, ⟨rfl, rfl⟩, ⟨rfl, rfl⟩, trivial⟩ | exact ⟨⟨rfl, rfl⟩, ⟨rfl, rfl⟩, ⟨rfl, rfl⟩, ⟨rfl, rfl⟩, ⟨rfl, rfl⟩, trivial⟩ | exact ⟨⟨rfl, rfl⟩, ⟨rfl, rfl⟩, ⟨rfl, rfl⟩, ⟨rfl, rfl⟩, ⟨rfl, rfl⟩, ⟨rfl, rfl⟩, trivial⟩ | exact ⟨⟨rfl, rfl⟩, ⟨rfl, rfl⟩, ⟨rfl, rfl⟩, ⟨rfl, rfl⟩, ⟨rfl, rfl⟩, ⟨rfl, rfl⟩, ⟨rfl, rfl⟩, trivial⟩ | exact ⟨⟨rfl, rfl⟩, ⟨rfl, rfl⟩, ⟨rfl, rfl⟩, ⟨rfl, rfl⟩, ⟨rfl, rfl⟩, ⟨rfl, rfl⟩, ⟨rfl, rfl⟩, ⟨rfl, rfl⟩, trivial⟩), (by first | exact trivial | exact ⟨⟨rfl, rfl⟩, trivial⟩ | exact ⟨⟨rfl, rfl⟩, ⟨rfl, rfl⟩, trivial⟩ | exact ⟨⟨rfl, rfl⟩, ⟨rfl, rfl⟩, ⟨rfl, rfl⟩, trivial⟩ | exact ⟨⟨rfl, rfl⟩, ⟨rfl, rfl⟩, ⟨rfl, rfl⟩, ⟨rfl, rfl⟩, trivial⟩ | exact ⟨⟨rfl, rfl⟩, ⟨rfl, rfl⟩, ⟨rfl, rfl⟩, ⟨rfl, rfl⟩, ⟨rfl, rfl⟩, trivial⟩ | exact ⟨⟨rfl, rfl⟩, ⟨rfl, rfl⟩, ⟨rfl, rfl⟩, ⟨rfl, rfl⟩, ⟨rfl, rfl⟩, ⟨rfl, rfl⟩, trivial⟩ | exact ⟨⟨rfl, rfl⟩, ⟨rfl, rfl⟩, ⟨rfl, rfl⟩, ⟨rfl, rfl⟩, ⟨rfl, rfl⟩, ⟨rfl, rfl⟩, ⟨rfl, rfl⟩, trivial⟩ | exact ⟨⟨rfl, rfl⟩, ⟨rfl, rfl⟩, ⟨rfl, rfl⟩, ⟨rfl, rfl⟩, ⟨rfl, rfl⟩, ⟨rfl, rfl⟩, ⟨rfl, rfl⟩, ⟨rfl, rfl⟩, trivial⟩)⟩)
    | (guard_target = Gh _ _ _ _ _; refine Gh.go ⟨(((spotAt f p).to0, more r) : Int × RS), (by exact ha.yes hf hfu.2 ‹_› ‹_› ‹_› ‹_› ‹_›), (by first | (show _ < _; simp only []; omega) | omega | (simp; omega)), (by first | exact trivial | exact ⟨⟨rfl, rfl⟩, trivial⟩ | exact ⟨⟨rfl, rfl⟩, ⟨rfl, rfl⟩, trivial⟩ | exact ⟨⟨rfl, rfl⟩, ⟨rfl, rfl⟩, ⟨rfl, rfl⟩, trivial⟩ | exact ⟨⟨rfl, rfl⟩, ⟨rfl, rfl⟩, ⟨rfl, rfl⟩, ⟨rfl, rfl⟩, trivial⟩ | exact ⟨⟨rfl, rfl⟩, ⟨rfl, rfl⟩, ⟨rfl, rfl⟩, ⟨rfl, rfl⟩, ⟨rfl, rfl⟩, trivial⟩ | exact ⟨⟨rfl, rfl⟩, ⟨rfl, rfl⟩, ⟨rfl, rfl⟩, ⟨rfl, rfl⟩, ⟨rfl, rfl⟩, ⟨rfl, rfl⟩, trivial⟩ | exact ⟨⟨rfl, rfl⟩, ⟨rfl, rfl⟩, ⟨rfl, rfl⟩, ⟨rfl, rfl⟩, ⟨rfl, rfl⟩, ⟨rfl, rfl⟩, ⟨rfl, rfl⟩, trivial⟩ | exact ⟨⟨rfl, rfl⟩, ⟨rfl, rfl⟩, ⟨rfl, rfl⟩, ⟨rfl, rfl⟩, ⟨rfl, rfl⟩, ⟨rfl, rfl⟩, ⟨rfl, rfl⟩, ⟨rfl, rfl⟩, trivial⟩), (by first | exact trivial | exact ⟨⟨rfl, rfl⟩, trivial⟩ | exact ⟨⟨rfl, rfl⟩, ⟨rfl, rfl⟩, trivial⟩ | exact ⟨⟨rfl, rfl⟩, ⟨rfl, rfl⟩, ⟨rfl, rfl⟩, trivial⟩ | exact ⟨⟨rfl, rfl⟩, ⟨rfl, rfl⟩, ⟨rfl, rfl⟩, ⟨rfl, rfl⟩, trivial⟩ | exact ⟨⟨rfl, rfl⟩, ⟨rfl, rfl⟩, ⟨rfl, rfl⟩, ⟨rfl, rfl⟩, ⟨rfl, rfl⟩, trivial⟩ | exact ⟨⟨rfl, rfl⟩, ⟨rfl, rfl⟩, ⟨rfl, rfl⟩, ⟨rfl, rfl⟩, ⟨rfl, rfl⟩, ⟨rfl, rfl⟩, trivial⟩ | exact ⟨⟨rfl, rfl⟩, ⟨rfl, rfl⟩, ⟨rfl, rfl⟩, ⟨rfl, rfl⟩, ⟨rfl, rfl⟩, ⟨rfl, rfl⟩, ⟨rfl, rfl⟩, trivial⟩ | exact ⟨⟨rfl, rfl⟩, ⟨rfl, rfl⟩, ⟨rfl, rfl⟩, ⟨rfl, rfl⟩, ⟨rfl, rfl⟩, ⟨rfl, rfl⟩, ⟨rfl, rfl⟩, ⟨rfl, rfl⟩, trivial⟩), (by first | exact trivial | exact ⟨⟨rfl, rfl⟩, trivial⟩ | exact ⟨⟨rfl, rfl⟩, ⟨rfl, rfl⟩, trivial⟩ | exact ⟨⟨rfl, rfl⟩, ⟨rfl, rfl⟩, ⟨rfl, rfl⟩, trivial⟩ | exact ⟨⟨rfl, rfl⟩, ⟨rfl, rfl⟩, ⟨rfl, rfl⟩, ⟨rfl, rfl⟩, trivial⟩ | exact ⟨⟨rfl, rfl⟩, ⟨rfl, rfl⟩, ⟨rfl, rfl⟩, ⟨rfl, rfl⟩, ⟨rfl, rfl⟩, trivial⟩ | exact ⟨⟨rfl, rfl⟩, ⟨rfl, rfl⟩, ⟨rfl, rfl⟩, ⟨rfl, rfl⟩, ⟨rfl, rfl⟩, ⟨rfl, rfl⟩, trivial⟩ | exact ⟨⟨rfl, rfl⟩, ⟨rfl, rfl⟩, ⟨rfl, rfl⟩, ⟨rfl, rfl⟩, ⟨rfl, rfl⟩, ⟨rfl, rfl⟩, ⟨rfl, rfl⟩, trivial⟩ | exact ⟨⟨rfl, rfl⟩, ⟨rfl, rfl⟩, ⟨rfl, rfl⟩, ⟨rfl, rfl⟩, ⟨rfl, rfl⟩, ⟨rfl, rfl⟩, ⟨rfl, rfl⟩, ⟨rfl, rfl⟩, trivial⟩)⟩)
    | (guard_target = Gh _ _ _ _ _; refine Gh.go ⟨(((spotAt f p).else0, more r) : Int × RS), (by exact ha.no hf hfu.2 ‹_› ‹_› ‹_› ‹_› ‹_›), (by first | (show _ < _; simp only []; omega) | omega | (simp; omega)), (by first | exact trivial | exact ⟨⟨rfl, rfl⟩, trivial⟩ | exact ⟨⟨rfl, rfl⟩, ⟨rfl, rfl⟩, trivial⟩ | exact ⟨⟨rfl, rfl⟩, ⟨rfl, rfl⟩, ⟨rfl, rfl⟩, trivial⟩ | exact ⟨⟨rfl, rfl⟩, ⟨rfl, rfl⟩, ⟨rfl, rfl⟩, ⟨rfl, rfl⟩, trivial⟩ | exact ⟨⟨rfl, rfl⟩, ⟨rfl, rfl⟩, ⟨rfl, rfl⟩, ⟨rfl, rfl⟩, ⟨rfl, rfl⟩, trivial⟩ | exact ⟨⟨rfl, rfl⟩, ⟨rfl, rfl⟩, ⟨rfl, rfl⟩, ⟨rfl, rfl⟩, ⟨rfl, rfl⟩, ⟨rfl, rfl⟩, trivial⟩ | exact ⟨⟨rfl, rfl⟩, ⟨rfl, rfl⟩, ⟨rfl, rfl⟩, ⟨rfl, rfl⟩, ⟨rfl, rfl⟩, ⟨rfl, rfl⟩, ⟨rfl, rfl⟩, trivial⟩ | exact ⟨⟨rfl, rfl⟩, ⟨rfl, rfl⟩, ⟨rfl, rfl⟩, ⟨rfl, rfl⟩, ⟨rfl, rfl⟩, ⟨rfl, rfl⟩, ⟨rfl, rfl⟩, ⟨rfl, rfl⟩, trivial⟩), (by first | exact trivial | exact ⟨⟨rfl, rfl⟩, trivial⟩ | exact ⟨⟨rfl, rfl⟩, ⟨rfl, rfl⟩, trivial⟩ | exact ⟨⟨rfl, rfl⟩, ⟨rfl, rfl⟩, ⟨rfl, rfl⟩, trivial⟩ | exact ⟨⟨rfl, rfl⟩, ⟨rfl, rfl⟩, ⟨rfl, rfl⟩, ⟨rfl, rfl⟩, trivial⟩ | exact ⟨⟨rfl, rfl⟩, ⟨rfl, rfl⟩, ⟨rfl, rfl⟩, ⟨rfl, rfl⟩, ⟨rfl, rfl⟩, trivial⟩ | exact ⟨⟨rfl, rfl⟩, ⟨rfl, rfl⟩, ⟨rfl, rfl⟩, ⟨rfl, rfl⟩, ⟨rfl, rfl⟩, ⟨rfl, rfl⟩, trivial⟩ | exact ⟨⟨rfl, rfl⟩, ⟨rfl, rfl⟩, ⟨rfl, rfl⟩, ⟨rfl, rfl⟩, ⟨rfl, rfl⟩, ⟨rfl, rfl⟩, ⟨rfl, rfl⟩, trivial⟩ | exact ⟨⟨rfl, rfl⟩, ⟨rfl, rfl⟩, ⟨rfl, rfl⟩, ⟨rfl, rfl⟩, ⟨rfl, rfl⟩, ⟨rfl, rfl⟩, ⟨rfl, rfl⟩, ⟨rfl, rfl⟩, trivial⟩), (by first | exact trivial | exact ⟨⟨rfl, rfl⟩, trivial⟩ | exact ⟨⟨rfl, rfl⟩, ⟨rfl, rfl⟩, trivial⟩ | exact ⟨⟨rfl, rfl⟩, ⟨rfl, rfl⟩, ⟨rfl, rfl⟩, trivial⟩ | exact ⟨⟨rfl, rfl⟩, ⟨rfl, rfl⟩, ⟨rfl, rfl⟩, ⟨rfl, rfl⟩, trivial⟩ | exact ⟨⟨rfl, rfl⟩, ⟨rfl, rfl⟩, ⟨rfl, rfl⟩, ⟨rfl, rfl⟩, ⟨rfl, rfl⟩, trivial⟩ | exact ⟨⟨rfl, rfl⟩, ⟨rfl, rfl⟩, ⟨rfl, rfl⟩, ⟨rfl, rfl⟩, ⟨rfl, rfl⟩, ⟨rfl, rfl⟩, trivial⟩ | exact ⟨⟨rfl, rfl⟩, ⟨rfl, rfl⟩, ⟨rfl, rfl⟩, ⟨rfl, rfl⟩, ⟨rfl, rfl⟩, ⟨rfl, rfl⟩, ⟨rfl, rfl⟩, trivial⟩ | exact ⟨⟨rfl, rfl⟩, ⟨rfl, rfl⟩, ⟨rfl, rfl⟩, ⟨rfl, rfl⟩, ⟨rfl, rfl⟩, ⟨rfl, rfl⟩, ⟨rfl, rfl⟩, ⟨rfl, rfl⟩, trivial⟩)⟩)
    | (guard_target = Fact _ _; refine Fact.mk fun hL => ?_; (try simp only [List.length_map, maxLen] at hL))
    | (guard_target = Branch _ _ _; (first | refine Branch.dec (fun h => ?_) (fun h => ?_) | refine Branch.beq (fun h => ?_) (fun h => ?_) | refine Branch.bne (fun h => ?_) (fun h => ?_) | refine Branch.ndec (fun h => ?_) (fun h => ?_) | refine Branch.nb (fun h => ?_) (fun h => ?_) | refine Branch.mk (fun h => ?_) (fun h => ?_)) <;> (try simp only [List.length_map] at h) <;> (try omega) <;> (try contradiction))
    | (guard_target = CallN _ 94 _ _ _ _; refine CallN.gen [true] _ _ _ rfl (stepI_stop w fuel r (by assumption)) rfl rfl _ rfl ?_)
    | (guard_target = CallN _ 94 _ _ _ _; refine CallN.gen [true] _ _ _ rfl (stepI_go w fuel r (by assumption) (by omega)) rfl rfl _ rfl ?_)
    | (guard_target = CallN _ 95 _ _ _ _; refine CallN.gen [true, false] _ _ _ rfl (do_bad w fuel (spotAt f p).num (more r) hw (ha.st.inc (by omega)) (by have := ((ha.spot hf).act (by assumption)).1; omega) (by assumption)) rfl rfl _ rfl ?_)
    | (guard_target = CallN _ 95 _ _ _ _; refine CallN.gen [true, false] _ _ _ rfl (do_go w fuel (spotAt f p).num (more r) hw (ha.st.inc (by omega)) (by have := ((ha.spot hf).act (by assumption)).1; omega) (by assumption)) rfl rfl _ rfl ?_)
    | (guard_target = CallN _ 96 _ _ _ _; refine CallN.gen [true, false] _ _ _ rfl (holdsI_ok' t a w fuel (more r) (ha.st.inc (by omega)) (spotAt f p).cond ((ha.spot hf).test (by assumption) (by assumption) (by assumption)).1) rfl rfl _ rfl ?_)
    | (guard_target = CallN _ 94 _ _ _ _; by_cases h7 : r.steps = fuel)
    | (guard_target = CallN _ 95 _ _ _ _; by_cases hn : nxt w (more r) (spotAt f p).num < 0)
    | (guard_target = Arith _ _ _; refine Arith.fit (wrap_fit (by first | omega | (simp only [List.length_map]; omega)) (by first | omega | (simp only [List.length_map]; omega))) ?_)
    | (guard_target = Arith _ _ _; refine Arith.fit (by decide) ?_)
    | (guard_target = Index _ _ _; first | refine Index.mk _ (idx_getD (d := noSpot) (i := p.toNat) (by omega)) ?_ | refine Index.mk _ (idx_map (by omega)) ?_)
    | (guard_target = Need (chkDraw _ = true) _; refine Need.mk (by kernel_rfl) ?_)
    | (guard_target = Need (chkRecs _ _ = true) _; refine Need.mk (by first | kernel_rfl | rfl) ?_)
    | (guard_target = Need _ _; refine Need.mk (by first  | omega | (simp only [List.length_map]; omega)) ?_))
end Go.Proofs.Ytbbaadkgmdkjdaa
