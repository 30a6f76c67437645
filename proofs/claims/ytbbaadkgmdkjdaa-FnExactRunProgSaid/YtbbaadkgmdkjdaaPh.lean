/- The reference's function that runs a program follows the relation: put together. No conditions. -/
import Derived.Test.YtbbaadkgmdkjdaaPg
namespace Go.Proofs.Ytbbaadkgmdkjdaa
open Go Go.KA Go.Proofs
theorem runS_ok {t a : Int} {w : XWorld} {fuel : Int} (ht3 : t ≤ 3) (hw : WOk w) (hA : (w.acts.length : Int) = a) (hfu : fuel ≤ 500) {p : XProg} {r : RS} {c : Int} {r' : RS} (h : Run w fuel p r c r') :
    POk t a p → RB w fuel r → CSp w fuel (encProg p) r 0 c r' ∧ (¬ p.kind = 5 → Rnd w fuel p (fun k r c r' => CSp w fuel (encProg k) r 0 c r') c r' r) := by
  have fin : ∀ {p : XProg} {r : RS} {c : Int} {r' : RS}, POk t a p → RB w fuel r → ¬ p.kind = 5 → Rnd w fuel p (fun k r c r' => CSp w fuel (encProg k) r 0 c r') c r' r →
      CSp w fuel (encProg p) r 0 c r' ∧ (¬ p.kind = 5 → Rnd w fuel p (fun k r c r' => CSp w fuel (encProg k) r 0 c r') c r' r) := by
    intro p r c r' hp hb h5 h
    refine ⟨?_, fun _ => h⟩
    rw [encProg_eq]
    by_cases hs : r.steps = fuel
    · obtain ⟨rfl, rfl⟩ := h.stop hs
      exact runS_budget h5 hs
    by_cases h7 : p.kind = 7
    · exact runS_while hp ht3 hfu h7 h hb hs
    · exact runS_other hp ht3 hw hA hfu h5 h7 h hb hs
  have inc : ∀ {r : RS}, RB w fuel r → ¬ r.steps = fuel → RB w fuel (more r) := fun {r} hr hs => ⟨hr.st.inc (by have := hr.le; omega), by show r.steps + 1 ≤ fuel; have := hr.le; omega⟩
  induction h with
  | @seqBad p k0 r c r1 hk g0 h hc ih =>
    intro hp hb
    refine ⟨?_, fun h5 => absurd hk h5⟩
    have hl := hp.len
    have hl1 : 1 < p.kids.length := by have := hl.2.1 hk; omega
    rw [encProg_eq]
    exact runS_seqBad hk g0 (kid_get hl1) (ih (hp.kid (List.mem_of_getElem? g0)) hb).1 (runS_skip hc _ (hp.kid (List.getElem_mem hl1)))
  | seqOk hk g0 g1 h h2 ih1 ih2 =>
    intro hp hb
    have hp0 := hp.kid (List.mem_of_getElem? g0)
    refine ⟨?_, fun h5 => absurd hk h5⟩
    rw [encProg_eq]
    exact runS_seqOk hk g0 g1 (ih1 hp0 hb).1 (ih2 (hp.kid (List.mem_of_getElem? g1)) (h.keeps hw hA hfu hp0 hb).1).1
  | budget hk hs => intro hp hb; exact fin hp hb hk (.budget hs rfl rfl)
  | skip hk hs => intro hp hb; exact fin hp hb (by omega) (.skip hk hs rfl rfl)
  | fail hk hs => intro hp hb; exact fin hp hb (by omega) (.fail hk hs rfl rfl)
  | actBad hk hs hn => intro hp hb; exact fin hp hb (by omega) (.actBad hk hs hn rfl rfl)
  | actOk hk hs hn => intro hp hb; exact fin hp hb (by omega) (.actOk hk hs hn rfl rfl)
  | assertNo hk hs ht => intro hp hb; exact fin hp hb (by omega) (.assertNo hk hs ht rfl rfl)
  | assertYes hk hs ht => intro hp hb; exact fin hp hb (by omega) (.assertYes hk hs ht rfl rfl)
  | ifYes hk hs ht g0 h ih => intro hp hb; exact fin hp hb (by omega) (.ifYes hk hs ht g0 (ih (hp.kid (List.mem_of_getElem? g0)) (inc hb hs)).1)
  | ifNo hk hs ht g1 h ih => intro hp hb; exact fin hp hb (by omega) (.ifNo hk hs ht g1 (ih (hp.kid (List.mem_of_getElem? g1)) (inc hb hs)).1)
  | whileNo hk hs ht => intro hp hb; exact fin hp hb (by omega) (.whileNo hk hs ht rfl rfl)
  | whileBad hk hs ht g0 h hc ih => intro hp hb; exact fin hp hb (by omega) (.whileBad hk hs ht g0 (ih (hp.kid (List.mem_of_getElem? g0)) (inc hb hs)).1 hc)
  | @whileOk p k0 r r1 c r2 hk hs ht g0 h h2 ih1 ih2 =>
    intro hp hb
    have hp0 := hp.kid (List.mem_of_getElem? g0)
    have hkp := h.keeps hw hA hfu hp0 (inc hb hs)
    have hlt : r.steps + 1 ≤ r1.steps := hkp.2.1
    exact fin hp hb (by omega) (.whileOk hk hs ht g0 (ih1 hp0 (inc hb hs)).1 hkp.1 (by omega) ((ih2 hp hkp.1).2 (by omega)))
end Go.Proofs.Ytbbaadkgmdkjdaa
