/- The program's function that runs a program does what the relation says. No conditions. -/
import Derived.Test.YtlfigjkddnncgaaGreatKAF
namespace Go.Proofs.YtlfigjkddnncgaaGreat
open Go Go.KA Go.Proofs
set_option maxHeartbeats 16000000
set_option maxRecDepth 100000
abbrev CRun (w : XWorld) (fuel : Int) (p : List CV) (r : RS) (c : Int) (r' : RS) : Prop := CallX Tryz.prog 61 [.c (.op (ctI w fuel r)), .a 6 p] [some [.op (ctI w fuel r')], none] (I c)
theorem idx_get {α : Type} {f : α → List CV} {l : List α} {i : Nat} {x : α} (h : l[i]? = some x) : (l.map f)[i]? = some (f x) := by
  rw [List.getElem?_map, h]
  rfl
section
variable {t a : Int} {w : XWorld} {fuel : Int}
theorem runI_seqBad {p k0 : XProg} {r r1 : RS} {c : Int} (hk : p.kind = 5) (g0 : p.kids[0]? = some k0) (hr : CRun w fuel (encProg k0) r c r1) (hc : ¬ c = 0) : CRun w fuel (toldP p) r c r1 := by
  refine callX_of_vc htb hm Tryz.func61 rfl rfl rfl rfl (ann := fun _ => none) (gh := fun _ => false) ?_
  repeat' ((conv => whnf); first | (guard_target = Done _; refine Done.mk ?_) | (guard_target = RetX _ _; refine RetX.mk ?_ ?_) | (guard_target = Fact _ _; refine Fact.mk fun hL => ?_; (try simp only [List.length_map, maxLen] at hL)) | (guard_target = Branch _ _ _; (first | refine Branch.dec ?_ ?_ | refine Branch.beq ?_ ?_ | refine Branch.bne ?_ ?_ | refine Branch.ndec ?_ ?_ | refine Branch.nb ?_ ?_ | refine Branch.mk ?_ ?_) <;> intro h <;> (try simp only [List.length_map] at h) <;> (try omega) <;> (try contradiction)) | (guard_target = CallN _ 61 _ _ _ _; refine CallN.gen [true, false] _ _ _ rfl (hr) rfl rfl _ rfl ?_) | (guard_target = Arith _ _ _; refine Arith.fit (wrap_fit (by first | omega | (simp only [List.length_map]; omega)) (by first | omega | (simp only [List.length_map]; omega))) ?_) | (guard_target = Arith _ _ _; refine Arith.fit (by decide) ?_) | (guard_target = Index _ _ _; first | refine Index.mk _ (idx_get g0) ?_ | refine Index.mk _ (idx_map (by omega)) ?_) | (guard_target = Need (_ = true) _; refine Need.mk (by first | kernel_rfl | rfl) ?_) | (guard_target = LinkV _ _ _; first  | refine LinkV.no ?_) | (guard_target = GhO _ _ _ _; refine GhO.go ?_) | (guard_target = Need _ _; refine Need.mk (by first  | omega | (simp only [List.length_map]; omega)) ?_))
  all_goals first | rfl | exact ⟨rfl, trivial⟩
theorem runI_seqOk {p k0 k1 : XProg} {r r1 r2 : RS} {c : Int} (hk : p.kind = 5) (g0 : p.kids[0]? = some k0) (g1 : p.kids[1]? = some k1) (hr : CRun w fuel (encProg k0) r 0 r1) (h2 : CRun w fuel (encProg k1) r1 c r2) : CRun w fuel (toldP p) r c r2 := by
  refine callX_of_vc htb hm Tryz.func61 rfl rfl rfl rfl (ann := fun _ => none) (gh := fun _ => false) ?_
  repeat' ((conv => whnf); first | (guard_target = Done _; refine Done.mk ?_) | (guard_target = RetX _ _; refine RetX.mk ?_ ?_) | (guard_target = Fact _ _; refine Fact.mk fun hL => ?_; (try simp only [List.length_map, maxLen] at hL)) | (guard_target = Branch _ _ _; (first | refine Branch.dec ?_ ?_ | refine Branch.beq ?_ ?_ | refine Branch.bne ?_ ?_ | refine Branch.ndec ?_ ?_ | refine Branch.nb ?_ ?_ | refine Branch.mk ?_ ?_) <;> intro h <;> (try simp only [List.length_map] at h) <;> (try omega) <;> (try contradiction)) | (guard_target = CallN _ 61 _ _ _ _; refine CallN.gen [true, false] _ _ _ rfl (hr) rfl rfl _ rfl ?_) | (guard_target = CallN _ 61 _ _ _ _; refine CallN.gen [true, false] _ _ _ rfl (h2) rfl rfl _ rfl ?_) | (guard_target = Arith _ _ _; refine Arith.fit (wrap_fit (by first | omega | (simp only [List.length_map]; omega)) (by first | omega | (simp only [List.length_map]; omega))) ?_) | (guard_target = Arith _ _ _; refine Arith.fit (by decide) ?_) | (guard_target = Index _ _ _; first | refine Index.mk _ (idx_get g0) ?_ | refine Index.mk _ (idx_get g1) ?_ | refine Index.mk _ (idx_map (by omega)) ?_) | (guard_target = Need (_ = true) _; refine Need.mk (by first | kernel_rfl | rfl) ?_) | (guard_target = LinkV _ _ _; first  | refine LinkV.no ?_) | (guard_target = GhO _ _ _ _; refine GhO.go ?_) | (guard_target = Need _ _; refine Need.mk (by first  | omega | (simp only [List.length_map]; omega)) ?_))
  all_goals first | rfl | exact ⟨rfl, trivial⟩
inductive Rnd (w : XWorld) (fuel : Int) (p : XProg) (C : XProg → RS → Int → RS → Prop) (c : Int) (r' : RS) : RS → Prop
  | budget {r} (hs : r.steps = fuel) (hc : c = 7) (he : r' = r) : Rnd w fuel p C c r' r
  | skip {r} (hk : p.kind = 1) (hs : ¬ r.steps = fuel) (hc : c = 0) (he : r' = more r) : Rnd w fuel p C c r' r
  | fail {r} (hk : p.kind = 2) (hs : ¬ r.steps = fuel) (hc : c = 4) (he : r' = more r) : Rnd w fuel p C c r' r
  | actBad {r} (hk : p.kind = 3) (hs : ¬ r.steps = fuel) (hn : nxt w (more r) p.num < 0) (hc : c = 4) (he : r' = more r) : Rnd w fuel p C c r' r
  | actOk {r} (hk : p.kind = 3) (hs : ¬ r.steps = fuel) (hn : ¬ nxt w (more r) p.num < 0) (hc : c = 0) (he : r' = done w (more r) p.num) : Rnd w fuel p C c r' r
  | assertNo {r} (hk : p.kind = 4) (hs : ¬ r.steps = fuel) (ht : truthE p.cond (at0 w r.st) = false) (hc : c = 4) (he : r' = more r) : Rnd w fuel p C c r' r
  | assertYes {r} (hk : p.kind = 4) (hs : ¬ r.steps = fuel) (ht : truthE p.cond (at0 w r.st) = true) (hc : c = 0) (he : r' = more r) : Rnd w fuel p C c r' r
  | ifYes {k0 r} (hk : p.kind = 6) (hs : ¬ r.steps = fuel) (ht : truthE p.cond (at0 w r.st) = true) (g0 : p.kids[0]? = some k0) (h : C k0 (more r) c r') : Rnd w fuel p C c r' r
  | ifNo {k1 r} (hk : p.kind = 6) (hs : ¬ r.steps = fuel) (ht : truthE p.cond (at0 w r.st) = false) (g1 : p.kids[1]? = some k1) (h : C k1 (more r) c r') : Rnd w fuel p C c r' r
  | whileNo {r} (hk : p.kind = 7) (hs : ¬ r.steps = fuel) (ht : truthE p.cond (at0 w r.st) = false) (hc : c = 0) (he : r' = more r) : Rnd w fuel p C c r' r
  | whileBad {k0 r} (hk : p.kind = 7) (hs : ¬ r.steps = fuel) (ht : truthE p.cond (at0 w r.st) = true) (g0 : p.kids[0]? = some k0) (h : C k0 (more r) c r') (hc : ¬ c = 0) : Rnd w fuel p C c r' r
  | whileOk {k0 r r1} (hk : p.kind = 7) (hs : ¬ r.steps = fuel) (ht : truthE p.cond (at0 w r.st) = true) (g0 : p.kids[0]? = some k0) (h : C k0 (more r) 0 r1) (hb : RB w fuel r1) (hlt : r.steps < r1.steps) (h2 : Rnd w fuel p C c r' r1) : Rnd w fuel p C c r' r
theorem holdsI_p (p : XProg) (r : RS) (hr : StOk w r) (h : okC t a p.cond) : CallX Tryz.prog 127 [.c (.op (ctI w fuel r)), .a 3 (toldE p.cond)] [some [.op (ctI w fuel r)], none] (B (truthE p.cond (at0 w r.st))) := holdsI_ok' t a w fuel r hr p.cond h
theorem holdsI_T (p : XProg) (r : RS) (hr : StOk w r) (hlt : r.steps < 1000) (h : okC t a p.cond) (ht : truthE p.cond (at0 w r.st) = true) : CallX Tryz.prog 127 [.c (.op (ctI w fuel (more r))), .a 3 (toldE p.cond)] [some [.op (ctI w fuel (more r))], none] (B true) := by
  have := holdsI_p (t := t) (a := a) (fuel := fuel) p (more r) (hr.inc hlt) h
  rwa [show truthE p.cond (at0 w (more r).st) = true from ht] at this
theorem holdsI_F (p : XProg) (r : RS) (hr : StOk w r) (hlt : r.steps < 1000) (h : okC t a p.cond) (ht : truthE p.cond (at0 w r.st) = false) : CallX Tryz.prog 127 [.c (.op (ctI w fuel (more r))), .a 3 (toldE p.cond)] [some [.op (ctI w fuel (more r))], none] (B false) := by
  have := holdsI_p (t := t) (a := a) (fuel := fuel) p (more r) (hr.inc hlt) h
  rwa [show truthE p.cond (at0 w (more r).st) = false from ht] at this
theorem runI_rnd {p : XProg} (hp : POk t a p) (hw : WOk w) (hA : (w.acts.length : Int) = a) (hfu : fuel ≤ 500) (h5 : ¬ p.kind = 5) {r0 r' : RS} {c : Int} (h0 : Rnd w fuel p (fun k r c r' => CRun w fuel (encProg k) r c r') c r' r0) (hb0 : RB w fuel r0) : CRun w fuel (toldP p) r0 c r' := by
  refine callX_of_vc htb hm Tryz.func61 rfl rfl rfl rfl (ann := fun _ => none) (gh := fun _ => false) ?_
  repeat' ((conv => whnf); first | (guard_target = RetX _ _; exact RetX.mk rfl ⟨rfl, trivial⟩) | (guard_target = Done _; refine Done.mk ?_) | (guard_target = RetX _ _; refine RetX.mk ?_ ?_) | (guard_target =~ LoopE 6 _ _ _ _ _ _; refine LoopE.mk { α := RS, keep := [0, 3], ov := fun r => [], hv := fun r => [(0, .row none 2 1 (r.ta.map eI)), (1, .row none 2 1 (r.tc.map eI)), (2, .cells [.c (.ro 1 (w.atoms.map eI)), .c (.ro 1 (w.acts.map fun l => [.ro 1 (l.map eI)])), .c (J r.st), .lw 0, .lw 1, .c (J fuel), .c (J r.steps)])], φ := fun r => RB w fuel r ∧ Rnd w fuel p (fun k r c r' => CRun w fuel (encProg k) r c r') c r' r, μ := fun r => (fuel - r.steps).toNat } (LoopN.mk (r0 : RS) (by exact ⟨hb0, h0⟩) (by (repeat' ((conv => whnf) <;> (first | exact trivial | refine ⟨?_, ?_⟩ | kernel_rfl))); done) (by (repeat' ((conv => whnf) <;> (first | exact trivial | refine ⟨?_, ?_⟩ | kernel_rfl))); done) (by (repeat' ((conv => whnf) <;> (first | exact trivial | refine ⟨?_, ?_⟩ | exact rfl | (simp only [List.map_append, List.map_cons, List.map_nil, List.map_set]; first | done | rfl)))); done) (fun (r : RS) ha => ?_) (by intro A; first | rfl | (obtain ⟨_, _⟩ := A; rfl) | (obtain ⟨_, _, _⟩ := A; rfl))); have ha : RB w fuel r ∧ Rnd w fuel p (fun k r c r' => CRun w fuel (encProg k) r c r') c r' r := ha; have hle := ha.1.le; have hst := ha.1.st.steps; have hSt := ha.1.st; obtain ⟨hb, hr⟩ := ha; rcases hr with ⟨hs, hc, he⟩ | ⟨hk, hs, hc, he⟩ | ⟨hk, hs, hc, he⟩ | ⟨hk, hs, hn, hc, he⟩ | ⟨hk, hs, hn, hc, he⟩ | ⟨hk, hs, ht, hc, he⟩ | ⟨hk, hs, ht, hc, he⟩ | ⟨hk, hs, ht, g0, hq⟩ | ⟨hk, hs, ht, g0, hq⟩ | ⟨hk, hs, ht, hc, he⟩ | ⟨hk, hs, ht, g0, hq, hc⟩ | ⟨hk, hs, ht, g0, hq, hb1, hlt1, hn1⟩ <;> (try subst_vars)) | (guard_target = Fact _ _; refine Fact.mk fun hL => ?_; (try simp only [List.length_map, maxLen] at hL)) | (guard_target = Branch _ _ _; (first | refine Branch.dec ?_ ?_ | refine Branch.beq ?_ ?_ | refine Branch.bne ?_ ?_ | refine Branch.ndec ?_ ?_ | refine Branch.nb ?_ ?_ | refine Branch.mk ?_ ?_) <;> intro h <;> (try simp only [List.length_map] at h) <;> (try omega) <;> (try contradiction)) | (guard_target = CallN _ 125 _ _ _ _; refine CallN.gen [true] _ _ _ rfl (stepI_stop w _ r (by first | assumption | rfl)) rfl rfl _ rfl ?_) | (guard_target = CallN _ 125 _ _ _ _; refine CallN.gen [true] _ _ _ rfl (stepI_go w fuel r (by assumption) (by omega)) rfl rfl _ rfl ?_) | (guard_target = CallN _ 126 _ _ _ _; refine CallN.gen [true, false] _ _ _ rfl (do_bad w fuel p.num (more r) hw (hSt.inc (by omega)) (by have := hp.act (by assumption); omega) (by assumption)) rfl rfl _ rfl ?_) | (guard_target = CallN _ 126 _ _ _ _; refine CallN.gen [true, false] _ _ _ rfl (do_go w fuel p.num (more r) hw (hSt.inc (by omega)) (by have := hp.act (by assumption); omega) (by assumption)) rfl rfl _ rfl ?_) | (guard_target = CallN _ 127 _ _ _ _; refine CallN.gen [true, false] _ _ _ rfl (holdsI_T p r hSt (by omega) (hp.cond (by omega)) (by assumption)) rfl rfl _ rfl ?_) | (guard_target = CallN _ 127 _ _ _ _; refine CallN.gen [true, false] _ _ _ rfl (holdsI_F p r hSt (by omega) (hp.cond (by omega)) (by assumption)) rfl rfl _ rfl ?_) | (guard_target = CallN _ 61 _ _ _ _; refine CallN.gen [true, false] _ _ _ rfl (‹CRun w fuel (encProg _) (more r) _ _›) rfl rfl _ rfl ?_) | (guard_target = Gh _ _ _ _ _; refine Gh.go ⟨_, ⟨hb1, hn1⟩, (by show (fuel - RS.steps _).toNat < (fuel - r.steps).toNat; have := hb1.le; omega), (by first | exact trivial | exact ⟨⟨rfl, rfl⟩, trivial⟩ | exact ⟨⟨rfl, rfl⟩, ⟨rfl, rfl⟩, trivial⟩ | exact ⟨⟨rfl, rfl⟩, ⟨rfl, rfl⟩, ⟨rfl, rfl⟩, trivial⟩ | exact ⟨⟨rfl, rfl⟩, ⟨rfl, rfl⟩, ⟨rfl, rfl⟩, ⟨rfl, rfl⟩, trivial⟩ | exact ⟨⟨rfl, rfl⟩, ⟨rfl, rfl⟩, ⟨rfl, rfl⟩, ⟨rfl, rfl⟩, ⟨rfl, rfl⟩, trivial⟩ | exact ⟨⟨rfl, rfl⟩, ⟨rfl, rfl⟩, ⟨rfl, rfl⟩, ⟨rfl, rfl⟩, ⟨rfl, rfl⟩, ⟨rfl, rfl⟩, trivial⟩ | exact ⟨⟨rfl, rfl⟩, ⟨rfl, rfl⟩, ⟨rfl, rfl⟩, ⟨rfl, rfl⟩, ⟨rfl, rfl⟩, ⟨rfl, rfl⟩, ⟨rfl, rfl⟩, trivial⟩ | exact ⟨⟨rfl, rfl⟩, ⟨rfl, rfl⟩, ⟨rfl, rfl⟩, ⟨rfl, rfl⟩, ⟨rfl, rfl⟩, ⟨rfl, rfl⟩, ⟨rfl, rfl⟩, ⟨rfl, rfl⟩, trivial⟩), (by first | exact trivial | exact ⟨⟨rfl, rfl⟩, trivial⟩ | exact ⟨⟨rfl, rfl⟩, ⟨rfl, rfl⟩, trivial⟩ | exact ⟨⟨rfl, rfl⟩, ⟨rfl, rfl⟩, ⟨rfl, rfl⟩, trivial⟩ | exact ⟨⟨rfl, rfl⟩, ⟨rfl, rfl⟩, ⟨rfl, rfl⟩, ⟨rfl, rfl⟩, trivial⟩ | exact ⟨⟨rfl, rfl⟩, ⟨rfl, rfl⟩, ⟨rfl, rfl⟩, ⟨rfl, rfl⟩, ⟨rfl, rfl⟩, trivial⟩ | exact ⟨⟨rfl, rfl⟩, ⟨rfl, rfl⟩, ⟨rfl, rfl⟩, ⟨rfl, rfl⟩, ⟨rfl, rfl⟩, ⟨rfl, rfl⟩, trivial⟩ | exact ⟨⟨rfl, rfl⟩, ⟨rfl, rfl⟩, ⟨rfl, rfl⟩, ⟨rfl, rfl⟩, ⟨rfl, rfl⟩, ⟨rfl, rfl⟩, ⟨rfl, rfl⟩, trivial⟩ | exact ⟨⟨rfl, rfl⟩, ⟨rfl, rfl⟩, ⟨rfl, rfl⟩, ⟨rfl, rfl⟩, ⟨rfl, rfl⟩, ⟨rfl, rfl⟩, ⟨rfl, rfl⟩, ⟨rfl, rfl⟩, trivial⟩), (by first | exact trivial | exact ⟨⟨rfl, rfl⟩, trivial⟩ | exact ⟨⟨rfl, rfl⟩, ⟨rfl, rfl⟩, trivial⟩ | exact ⟨⟨rfl, rfl⟩, ⟨rfl, rfl⟩, ⟨rfl, rfl⟩, trivial⟩ | exact ⟨⟨rfl, rfl⟩, ⟨rfl, rfl⟩, ⟨rfl, rfl⟩, ⟨rfl, rfl⟩, trivial⟩ | exact ⟨⟨rfl, rfl⟩, ⟨rfl, rfl⟩, ⟨rfl, rfl⟩, ⟨rfl, rfl⟩, ⟨rfl, rfl⟩, trivial⟩ | exact ⟨⟨rfl, rfl⟩, ⟨rfl, rfl⟩, ⟨rfl, rfl⟩, ⟨rfl, rfl⟩, ⟨rfl, rfl⟩, ⟨rfl, rfl⟩, trivial⟩ | exact ⟨⟨rfl, rfl⟩, ⟨rfl, rfl⟩, ⟨rfl, rfl⟩, ⟨rfl, rfl⟩, ⟨rfl, rfl⟩, ⟨rfl, rfl⟩, ⟨rfl, rfl⟩, trivial⟩ | exact ⟨⟨rfl, rfl⟩, ⟨rfl, rfl⟩, ⟨rfl, rfl⟩, ⟨rfl, rfl⟩, ⟨rfl, rfl⟩, ⟨rfl, rfl⟩, ⟨rfl, rfl⟩, ⟨rfl, rfl⟩, trivial⟩)⟩) | (guard_target = Arith _ _ _; refine Arith.fit (wrap_fit (by first | omega | (simp only [List.length_map]; omega)) (by first | omega | (simp only [List.length_map]; omega))) ?_) | (guard_target = Arith _ _ _; refine Arith.fit (by decide) ?_) | (guard_target = Index _ _ _; first | refine Index.mk _ (idx_get ‹p.kids[0]? = some _›) ?_ | refine Index.mk _ (idx_get ‹p.kids[1]? = some _›) ?_ | refine Index.mk _ (idx_map (by omega)) ?_) | (guard_target = Need (_ = true) _; refine Need.mk (by first | kernel_rfl | rfl) ?_) | (guard_target = LinkV _ _ _; first  | refine LinkV.no ?_) | (guard_target = GhO _ _ _ _; refine GhO.go ?_) | (guard_target = Need _ _; refine Need.mk (by first  | omega | (simp only [List.length_map]; omega)) ?_))
  all_goals first | (have := hp.kind; omega)
end
end Go.Proofs.YtlfigjkddnncgaaGreat

namespace Go.Proofs.YtlfigjkddnncgaaGreat
open Go Go.KA Go.Proofs
theorem runI_ok {t a : Int} {w : XWorld} {fuel : Int} (hw : WOk w) (hA : (w.acts.length : Int) = a) (hfu : fuel ≤ 500) {p : XProg} {r : RS} {c : Int} {r' : RS} (h : Run w fuel p r c r') :
    POk t a p → RB w fuel r → CRun w fuel (encProg p) r c r' ∧ (¬ p.kind = 5 → Rnd w fuel p (fun k r c r' => CRun w fuel (encProg k) r c r') c r' r) := by
  have fin : ∀ {p : XProg} {r : RS} {c : Int} {r' : RS}, POk t a p → RB w fuel r → ¬ p.kind = 5 → Rnd w fuel p (fun k r c r' => CRun w fuel (encProg k) r c r') c r' r →
      CRun w fuel (encProg p) r c r' ∧ (¬ p.kind = 5 → Rnd w fuel p (fun k r c r' => CRun w fuel (encProg k) r c r') c r' r) := by
    intro p r c r' hp hb h5 h
    refine ⟨?_, fun _ => h⟩
    rw [encProg_eq]
    exact runI_rnd hp hw hA hfu h5 h hb
  have inc : ∀ {r : RS}, RB w fuel r → ¬ r.steps = fuel → RB w fuel (more r) := fun {r} hr hs => ⟨hr.st.inc (by have := hr.le; omega), by show r.steps + 1 ≤ fuel; have := hr.le; omega⟩
  induction h with
  | seqBad hk g0 h hc ih =>
    intro hp hb
    refine ⟨?_, fun h5 => absurd hk h5⟩
    rw [encProg_eq]
    exact runI_seqBad hk g0 (ih (hp.kid (List.mem_of_getElem? g0)) hb).1 hc
  | seqOk hk g0 g1 h h2 ih1 ih2 =>
    intro hp hb
    have hp0 := hp.kid (List.mem_of_getElem? g0)
    refine ⟨?_, fun h5 => absurd hk h5⟩
    rw [encProg_eq]
    exact runI_seqOk hk g0 g1 (ih1 hp0 hb).1 (ih2 (hp.kid (List.mem_of_getElem? g1)) (h.keeps hw hA hfu hp0 hb).1).1
  | budget hk hs => intro hp hb; exact fin hp hb hk (.budget hs rfl rfl)
  | skip hk hs => intro hp hb; exact fin hp hb (by omega) (.skip hk hs rfl rfl)
  | fail hk hs => intro hp hb; exact fin hp hb (by omega) (.fail hk hs rfl rfl)
  | actBad hk hs hn => intro hp hb; exact fin hp hb (by omega) (.actBad hk hs hn rfl rfl)
  | actOk hk hs hn => intro hp hb; exact fin hp hb (by omega) (.actOk hk hs hn rfl rfl)
  | assertNo hk hs ht => intro hp hb; exact fin hp hb (by omega) (.assertNo hk hs ht rfl rfl)
  | assertYes hk hs ht => intro hp hb; exact fin hp hb (by omega) (.assertYes hk hs ht rfl rfl)
  | ifYes hk hs ht g0 h ih => intro hp hb; exact fin hp hb (by omega) (.ifYes hk hs ht g0 (ih (hp.kid (List.mem_of_getElem? g0)) (inc hb hs)).1)
  | ifNo hk hs ht g1 h ih => intro hp hb; exact fin hp hb (by omega) (.ifNo hk hs ht g1 (ih (hp.kid (List.mem_of_getElem? g1)) (inc hb hs)).1)
  | whileNo hk hs ht => intro hp hb; exact fin hp hb (by omega) (.whileNo hk hs ht rfl rfl)
  | whileBad hk hs ht g0 h hc ih => intro hp hb; exact fin hp hb (by omega) (.whileBad hk hs ht g0 (ih (hp.kid (List.mem_of_getElem? g0)) (inc hb hs)).1 hc)
  | @whileOk p k0 r r1 c r2 hk hs ht g0 h h2 ih1 ih2 =>
    intro hp hb
    have hp0 := hp.kid (List.mem_of_getElem? g0)
    have hkp := h.keeps hw hA hfu hp0 (inc hb hs)
    have hlt : r.steps + 1 ≤ r1.steps := hkp.2.1
    exact fin hp hb (by omega) (.whileOk hk hs ht g0 (ih1 hp0 (inc hb hs)).1 hkp.1 (by omega) ((ih2 hp hkp.1).2 (by omega)))
end Go.Proofs.YtlfigjkddnncgaaGreat

namespace Go.Proofs.YtlfigjkddnncgaaGreat
open Go Go.KA Go.Proofs
set_option maxHeartbeats 16000000
set_option maxRecDepth 100000
abbrev CSp (w : XWorld) (fuel : Int) (p : List CV) (r : RS) (c0 : Int) (c : Int) (r' : RS) : Prop := CallX Tryz.prog 65 [.c (.op (ctS w fuel r c0)), .c (.rp 6 p)] [some [.op (ctS w fuel r' c)], none] (.tup [])
section
variable {t a : Int} {w : XWorld} {fuel : Int}
end
end Go.Proofs.YtlfigjkddnncgaaGreat

namespace Go.Proofs.YtlfigjkddnncgaaGreat
open Go Go.KA Go.Proofs
set_option maxHeartbeats 16000000
set_option maxRecDepth 100000
theorem Rnd.stop {w : XWorld} {fuel : Int} {p : XProg} {C : XProg → RS → Int → RS → Prop} {c : Int} {r' r : RS} (h : Rnd w fuel p C c r' r) (hs : r.steps = fuel) : c = 7 ∧ r' = r := by
  cases h <;> first | exact ⟨by assumption, by assumption⟩ | exact absurd hs (by assumption)
def RB.rs {w : XWorld} {fuel : Int} {r : RS} (_ : RB w fuel r) : Int := r.steps
end Go.Proofs.YtlfigjkddnncgaaGreat

namespace Go.Proofs.YtlfigjkddnncgaaGreat
open Go Go.KA Go.Proofs
end Go.Proofs.YtlfigjkddnncgaaGreat

namespace Go.Proofs.YtlfigjkddnncgaaGreat
open Go Go.KA Go.Proofs
set_option maxHeartbeats 8000000
set_option maxRecDepth 100000
theorem progOk {t a : Int} {e : XProg} (h : goodP t a e = true) : POk t a e := by
  simp only [goodP, Bool.and_eq_true] at h
  exact ⟨h.2.2⟩
theorem run_begin {w : XWorld} {state fuel : Int} (hr : runOk w state fuel = true) : RB w fuel ⟨state, [at0 w state], [], 0⟩ := by
  simp only [runOk, rng, Bool.and_eq_true, decide_eq_true_eq] at hr
  exact ⟨⟨by show 0 ≤ state ∧ state < _; omega, by show (0 : Int) ≤ 0 ∧ (0 : Int) ≤ 1000; omega, by show 1 ≤ _; omega, by show 0 ≤ _; omega⟩, by show 0 ≤ fuel; omega⟩
section
variable (t a : Int) (w : XWorld) (e : XProg) (state fuel : Int)
variable {c : Int} {r' : RS}
theorem implProg_bad (h1 : goodSig t a = true) (h2 : goodWorld t a w = true) (h3 : goodP t a e = true) (h4 : runOk w state fuel = true) (hrun : Run w fuel e ⟨state, [at0 w state], [], 0⟩ c r') (h5 : ¬ c = 0) : CallX Tryz.prog 13 [.a 2 [J t, J a], .a 2 (encWorld w), .a 6 (encProg e), I state, I fuel] [] (noneT c) := by
  have hq := (runI_ok (worldOk h2).1 (worldOk h2).2 (runB h4).2 hrun (progOk h3) (run_begin h4)).1
  refine callX_of_vc htb hm Tryz.func13 rfl rfl rfl rfl (ann := fun _ => none) (gh := fun _ => false) ?_
  repeat' ((conv => whnf); first | (guard_target = Done _; refine Done.mk ?_) | (guard_target = RetX _ _; refine RetX.mk ?_ ?_) | (guard_target = Fact _ _; refine Fact.mk fun hL => ?_; (try simp only [List.length_map, maxLen] at hL)) | (guard_target = Branch _ _ _; (first | refine Branch.dec ?_ ?_ | refine Branch.beq ?_ ?_ | refine Branch.bne ?_ ?_ | refine Branch.ndec ?_ ?_ | refine Branch.nb ?_ ?_ | refine Branch.mk ?_ ?_) <;> intro h <;> (try simp only [List.length_map] at h) <;> (try omega) <;> (try contradiction)) | (guard_target = CallN _ 47 _ _ _ _; refine CallN.pure _ _ rfl (ValidWorld_ok t a w) rfl _ rfl ?_) | (guard_target = CallN _ 57 _ _ _ _; refine CallN.pure _ _ rfl (isProg_ok t a (sig_bounds h1).1 (sig_bounds h1).2 e) rfl _ rfl ?_) | (guard_target = CallN _ 58 _ _ _ _; refine CallN.pure _ _ rfl (isRun_ok w state fuel) rfl _ rfl ?_) | (guard_target = CallN _ 59 _ _ _ _; refine CallN.gen [] _ _ _ rfl (newRunner_ok w state fuel h4) rfl rfl _ rfl ?_) | (guard_target = CallN _ 61 _ _ _ _; refine CallN.gen [true, false] _ _ _ rfl (hq) rfl rfl _ rfl ?_) | (guard_target = CallN _ 60 _ _ _ _; refine CallN.gen [true, false] _ _ _ rfl (result_bad w fuel _ _ h5) rfl rfl _ rfl ?_) | (guard_target = Arith _ _ _; refine Arith.fit (wrap_fit (by first | omega | (simp only [List.length_map]; omega)) (by first | omega | (simp only [List.length_map]; omega))) ?_) | (guard_target = Arith _ _ _; refine Arith.fit (by decide) ?_) | (guard_target = Index _ _ _; first  | refine Index.mk _ (idx_map (by omega)) ?_) | (guard_target = Need (_ = true) _; refine Need.mk (by first | kernel_rfl | rfl) ?_) | (guard_target = LinkV _ _ _; first  | refine LinkV.no ?_) | (guard_target = GhO _ _ _ _; refine GhO.go ?_) | (guard_target = Need _ _; refine Need.mk (by first  | omega | (simp only [List.length_map]; omega)) ?_))
  all_goals first | rfl | trivial | (exfalso; simp_all; done)
theorem implProg_run (h1 : goodSig t a = true) (h2 : goodWorld t a w = true) (h3 : goodP t a e = true) (h4 : runOk w state fuel = true) (hrun : Run w fuel e ⟨state, [at0 w state], [], 0⟩ 0 r') : CallX Tryz.prog 13 [.a 2 [J t, J a], .a 2 (encWorld w), .a 6 (encProg e), I state, I fuel] [] (runT r') := by
  have hq := (runI_ok (worldOk h2).1 (worldOk h2).2 (runB h4).2 hrun (progOk h3) (run_begin h4)).1
  refine callX_of_vc htb hm Tryz.func13 rfl rfl rfl rfl (ann := fun _ => none) (gh := fun _ => false) ?_
  repeat' ((conv => whnf); first | (guard_target = Done _; refine Done.mk ?_) | (guard_target = RetX _ _; refine RetX.mk ?_ ?_) | (guard_target = Fact _ _; refine Fact.mk fun hL => ?_; (try simp only [List.length_map, maxLen] at hL)) | (guard_target = Branch _ _ _; (first | refine Branch.dec ?_ ?_ | refine Branch.beq ?_ ?_ | refine Branch.bne ?_ ?_ | refine Branch.ndec ?_ ?_ | refine Branch.nb ?_ ?_ | refine Branch.mk ?_ ?_) <;> intro h <;> (try simp only [List.length_map] at h) <;> (try omega) <;> (try contradiction)) | (guard_target = CallN _ 47 _ _ _ _; refine CallN.pure _ _ rfl (ValidWorld_ok t a w) rfl _ rfl ?_) | (guard_target = CallN _ 57 _ _ _ _; refine CallN.pure _ _ rfl (isProg_ok t a (sig_bounds h1).1 (sig_bounds h1).2 e) rfl _ rfl ?_) | (guard_target = CallN _ 58 _ _ _ _; refine CallN.pure _ _ rfl (isRun_ok w state fuel) rfl _ rfl ?_) | (guard_target = CallN _ 59 _ _ _ _; refine CallN.gen [] _ _ _ rfl (newRunner_ok w state fuel h4) rfl rfl _ rfl ?_) | (guard_target = CallN _ 61 _ _ _ _; refine CallN.gen [true, false] _ _ _ rfl (hq) rfl rfl _ rfl ?_) | (guard_target = CallN _ 60 _ _ _ _; refine CallN.gen [true, false] _ _ _ rfl (result_ok w fuel _) rfl rfl _ rfl ?_) | (guard_target = Arith _ _ _; refine Arith.fit (wrap_fit (by first | omega | (simp only [List.length_map]; omega)) (by first | omega | (simp only [List.length_map]; omega))) ?_) | (guard_target = Arith _ _ _; refine Arith.fit (by decide) ?_) | (guard_target = Index _ _ _; first  | refine Index.mk _ (idx_map (by omega)) ?_) | (guard_target = Need (_ = true) _; refine Need.mk (by first | kernel_rfl | rfl) ?_) | (guard_target = LinkV _ _ _; first  | refine LinkV.no ?_) | (guard_target = GhO _ _ _ _; refine GhO.go ?_) | (guard_target = Need _ _; refine Need.mk (by first  | omega | (simp only [List.length_map]; omega)) ?_))
  all_goals first | rfl | trivial | (exfalso; simp_all; done)
variable (hl : budProg e ≤ 1048576)
include hl
end
end Go.Proofs.YtlfigjkddnncgaaGreat
