/- What a run of a program does, as a relation; the program's function that runs a program follows it. No conditions. -/
import Derived.Test.YtaajacnceocpoaaGreatKAE
namespace Go.Proofs.YtaajacnceocpoaaGreat
open Go Go.KA Go.Proofs
set_option maxHeartbeats 16000000
set_option maxRecDepth 100000
structure POk (t a : Int) (p : XProg) : Prop where
  tree : ptE t a p = true
theorem POk.len {t a : Int} {p : XProg} (h : POk t a p) : (p.kids.length : Int) = pkN p.kind ∧ (p.kind = 5 → pkN p.kind = 2) ∧ (p.kind = 6 → pkN p.kind = 2) ∧ (p.kind = 7 → pkN p.kind = 1) := by
  have h1 := h.tree
  rw [ptE_eq] at h1
  simp only [Bool.and_eq_true, beq_iff_eq] at h1
  refine ⟨h1.1, ?_, ?_, ?_⟩ <;> intro hk <;> rw [hk] <;> rfl
theorem POk.kid {t a : Int} {p x : XProg} (h : POk t a p) (hx : x ∈ p.kids) : POk t a x := by
  have h1 := h.tree
  rw [ptE_eq] at h1
  simp only [Bool.and_eq_true, List.all_eq_true] at h1
  exact ⟨h1.2.2 x hx⟩
theorem POk.cond {t a : Int} {p : XProg} (h : POk t a p) (hk : p.kind = 4 ∨ p.kind = 6 ∨ p.kind = 7) : okC t a p.cond := by
  have h1 := h.tree
  rw [ptE_eq] at h1
  simp only [Bool.and_eq_true, pnode, askB, decide_eq_true_eq, if_pos hk] at h1
  exact condG_ok h1.2.1.2
theorem POk.act {t a : Int} {p : XProg} (h : POk t a p) (hk : p.kind = 3) : 0 ≤ p.num ∧ p.num < a := by
  have h1 := h.tree
  rw [ptE_eq] at h1
  simp only [Bool.and_eq_true, pnode, if_pos hk, rng, decide_eq_true_eq] at h1
  omega
theorem POk.kind {t a : Int} {p : XProg} (h : POk t a p) : 1 ≤ p.kind ∧ p.kind ≤ 7 := by
  have h1 := h.len.1
  unfold pkN at h1
  by_cases h4 : p.kind = 1 ∨ p.kind = 2 ∨ p.kind = 3 ∨ p.kind = 4
  · omega
  rw [if_neg h4] at h1
  by_cases h7 : p.kind = 7
  · omega
  rw [if_neg h7] at h1
  by_cases h5 : p.kind = 5 ∨ p.kind = 6
  · omega
  rw [if_neg h5] at h1
  omega
inductive Run (w : XWorld) (fuel : Int) : XProg → RS → Int → RS → Prop
  | seqBad {p k0 r c r1} (hk : p.kind = 5) (g0 : p.kids[0]? = some k0) (h : Run w fuel k0 r c r1) (hc : ¬ c = 0) : Run w fuel p r c r1
  | seqOk {p k0 k1 r r1 c r2} (hk : p.kind = 5) (g0 : p.kids[0]? = some k0) (g1 : p.kids[1]? = some k1) (h : Run w fuel k0 r 0 r1) (h2 : Run w fuel k1 r1 c r2) : Run w fuel p r c r2
  | budget {p r} (hk : ¬ p.kind = 5) (hs : r.steps = fuel) : Run w fuel p r 7 r
  | skip {p r} (hk : p.kind = 1) (hs : ¬ r.steps = fuel) : Run w fuel p r 0 (more r)
  | fail {p r} (hk : p.kind = 2) (hs : ¬ r.steps = fuel) : Run w fuel p r 4 (more r)
  | actBad {p r} (hk : p.kind = 3) (hs : ¬ r.steps = fuel) (hn : nxt w (more r) p.num < 0) : Run w fuel p r 4 (more r)
  | actOk {p r} (hk : p.kind = 3) (hs : ¬ r.steps = fuel) (hn : ¬ nxt w (more r) p.num < 0) : Run w fuel p r 0 (done w (more r) p.num)
  | assertNo {p r} (hk : p.kind = 4) (hs : ¬ r.steps = fuel) (ht : truthE p.cond (at0 w r.st) = false) : Run w fuel p r 4 (more r)
  | assertYes {p r} (hk : p.kind = 4) (hs : ¬ r.steps = fuel) (ht : truthE p.cond (at0 w r.st) = true) : Run w fuel p r 0 (more r)
  | ifYes {p k0 r c r2} (hk : p.kind = 6) (hs : ¬ r.steps = fuel) (ht : truthE p.cond (at0 w r.st) = true) (g0 : p.kids[0]? = some k0) (h : Run w fuel k0 (more r) c r2) : Run w fuel p r c r2
  | ifNo {p k1 r c r2} (hk : p.kind = 6) (hs : ¬ r.steps = fuel) (ht : truthE p.cond (at0 w r.st) = false) (g1 : p.kids[1]? = some k1) (h : Run w fuel k1 (more r) c r2) : Run w fuel p r c r2
  | whileNo {p r} (hk : p.kind = 7) (hs : ¬ r.steps = fuel) (ht : truthE p.cond (at0 w r.st) = false) : Run w fuel p r 0 (more r)
  | whileBad {p k0 r c r1} (hk : p.kind = 7) (hs : ¬ r.steps = fuel) (ht : truthE p.cond (at0 w r.st) = true) (g0 : p.kids[0]? = some k0) (h : Run w fuel k0 (more r) c r1) (hc : ¬ c = 0) : Run w fuel p r c r1
  | whileOk {p k0 r r1 c r2} (hk : p.kind = 7) (hs : ¬ r.steps = fuel) (ht : truthE p.cond (at0 w r.st) = true) (g0 : p.kids[0]? = some k0) (h : Run w fuel k0 (more r) 0 r1) (h2 : Run w fuel p r1 c r2) : Run w fuel p r c r2
structure RB (w : XWorld) (fuel : Int) (r : RS) : Prop where
  st : StOk w r
  le : r.steps ≤ fuel
theorem Run.keeps {t a : Int} {w : XWorld} {fuel : Int} (hw : WOk w) (hA : (w.acts.length : Int) = a) (hfu : fuel ≤ 500) {p : XProg} {r : RS} {c : Int} {r' : RS} (h : Run w fuel p r c r') : POk t a p → RB w fuel r → RB w fuel r' ∧ r.steps ≤ r'.steps ∧ (c = 0 → r.steps < r'.steps) := by
  have inc : ∀ {r : RS}, RB w fuel r → ¬ r.steps = fuel → RB w fuel (more r) := fun {r} hr hs => ⟨hr.st.inc (by have := hr.le; omega), by show r.steps + 1 ≤ fuel; have := hr.le; omega⟩
  induction h with
  | seqBad hk g0 h hc ih => intro hp hr; exact ih (hp.kid (List.mem_of_getElem? g0)) hr
  | seqOk hk g0 g1 h h2 ih1 ih2 =>
    intro hp hr
    have h1 := ih1 (hp.kid (List.mem_of_getElem? g0)) hr
    have h2 := ih2 (hp.kid (List.mem_of_getElem? g1)) h1.1
    refine ⟨h2.1, by omega, fun hc => ?_⟩
    have := h1.2.2 rfl
    omega
  | budget hk hs => intro hp hr; exact ⟨hr, Int.le_refl _, fun hc => by omega⟩
  | skip hk hs => intro hp hr; exact ⟨inc hr hs, by show _ ≤ _ + 1; omega, fun _ => by show _ < _ + 1; omega⟩
  | fail hk hs => intro hp hr; exact ⟨inc hr hs, by show _ ≤ _ + 1; omega, fun _ => by show _ < _ + 1; omega⟩
  | actBad hk hs hn => intro hp hr; exact ⟨inc hr hs, by show _ ≤ _ + 1; omega, fun _ => by show _ < _ + 1; omega⟩
  | actOk hk hs hn =>
    intro hp hr
    have hl := hr.le
    exact ⟨⟨hr.st.fin hw (by omega) (by have := hp.act hk; omega) hn, by show _ + 1 ≤ fuel; omega⟩, by show _ ≤ _ + 1; omega, fun _ => by show _ < _ + 1; omega⟩
  | assertNo hk hs ht => intro hp hr; exact ⟨inc hr hs, by show _ ≤ _ + 1; omega, fun _ => by show _ < _ + 1; omega⟩
  | assertYes hk hs ht => intro hp hr; exact ⟨inc hr hs, by show _ ≤ _ + 1; omega, fun _ => by show _ < _ + 1; omega⟩
  | @ifYes p k0 r c r2 hk hs ht g0 h ih =>
    intro hp hr
    have h1 := ih (hp.kid (List.mem_of_getElem? g0)) (inc hr hs)
    have h2 : r.steps + 1 ≤ r2.steps := h1.2.1
    exact ⟨h1.1, by omega, fun _ => by omega⟩
  | @ifNo p k1 r c r2 hk hs ht g1 h ih =>
    intro hp hr
    have h1 := ih (hp.kid (List.mem_of_getElem? g1)) (inc hr hs)
    have h2 : r.steps + 1 ≤ r2.steps := h1.2.1
    exact ⟨h1.1, by omega, fun _ => by omega⟩
  | whileNo hk hs ht => intro hp hr; exact ⟨inc hr hs, by show _ ≤ _ + 1; omega, fun _ => by show _ < _ + 1; omega⟩
  | @whileBad p k0 r c r1 hk hs ht g0 h hc ih =>
    intro hp hr
    have h1 := ih (hp.kid (List.mem_of_getElem? g0)) (inc hr hs)
    have h2 : r.steps + 1 ≤ r1.steps := h1.2.1
    exact ⟨h1.1, by omega, fun _ => by omega⟩
  | @whileOk p k0 r r1 c r2 hk hs ht g0 h h2 ih1 ih2 =>
    intro hp hr
    have h1 := ih1 (hp.kid (List.mem_of_getElem? g0)) (inc hr hs)
    have h3 := ih2 hp h1.1
    have h2 : r.steps + 1 ≤ r1.steps := h1.2.1
    exact ⟨h3.1, by omega, fun _ => by omega⟩
theorem kid_get {p : XProg} {i : Nat} (h : i < p.kids.length) : p.kids[i]? = some p.kids[i] := List.getElem?_eq_getElem h
theorem Run.ex {t a : Int} {w : XWorld} {fuel : Int} (hw : WOk w) (hA : (w.acts.length : Int) = a) (hfu : fuel ≤ 500) : ∀ (n m : Nat) (p : XProg) (r : RS), (fuel - r.steps).toNat ≤ n → SizeOf.sizeOf p ≤ m → POk t a p → RB w fuel r → ∃ c r', Run w fuel p r c r' := by
  intro n
  induction n with
  | zero =>
    intro m
    induction m with
    | zero => intro p r _ hm; cases p; simp at hm
    | succ m ihm =>
      intro p r hn hm hp hr
      have hs : r.steps = fuel := by have := hr.le; omega
      by_cases hk : p.kind = 5
      · have hl := hp.len
        have hl0 : 0 < p.kids.length := by have := hl.2.1 hk; omega
        have hsz := List.sizeOf_lt_of_mem (List.getElem_mem hl0)
        obtain ⟨c, r1, h⟩ := ihm p.kids[0] r hn (by cases p; simp only [XProg.mk.sizeOf_spec] at hm; simp only [XProg.kids] at hsz ⊢; omega) (hp.kid (List.getElem_mem hl0)) hr
        have hb := h.keeps hw hA hfu (hp.kid (List.getElem_mem hl0)) hr
        by_cases hc : c = 0
        · have := hb.2.2 hc
          have := hb.1.le
          omega
        · exact ⟨c, r1, .seqBad hk (kid_get hl0) h hc⟩
      · exact ⟨7, r, .budget hk hs⟩
  | succ n ihn =>
    intro m
    induction m with
    | zero => intro p r _ hm; cases p; simp at hm
    | succ m ihm =>
      intro p r hn hm hp hr
      have hl := hp.len
      have hle := hr.le
      have hkd := hp.kind
      have kid : ∀ (i : Nat) (hi : i < p.kids.length), SizeOf.sizeOf p.kids[i] ≤ m := by
        intro i hi
        have hsz := List.sizeOf_lt_of_mem (List.getElem_mem hi)
        cases p
        simp only [XProg.mk.sizeOf_spec] at hm
        simp only [XProg.kids] at hsz ⊢
        omega
      by_cases hk : p.kind = 5
      · have hl2 := hl.2.1 hk
        have hl0 : 0 < p.kids.length := by omega
        have hl1 : 1 < p.kids.length := by omega
        obtain ⟨c, r1, h⟩ := ihm p.kids[0] r hn (kid 0 hl0) (hp.kid (List.getElem_mem hl0)) hr
        have hb := h.keeps hw hA hfu (hp.kid (List.getElem_mem hl0)) hr
        by_cases hc : c = 0
        · subst hc
          have := hb.2.1
          obtain ⟨c, r2, h2⟩ := ihm p.kids[1] r1 (by omega) (kid 1 hl1) (hp.kid (List.getElem_mem hl1)) hb.1
          exact ⟨c, r2, .seqOk hk (kid_get hl0) (kid_get hl1) h h2⟩
        · exact ⟨c, r1, .seqBad hk (kid_get hl0) h hc⟩
      by_cases hs : r.steps = fuel
      · exact ⟨7, r, .budget hk hs⟩
      have hr1 : RB w fuel (more r) := ⟨hr.st.inc (by omega), by show r.steps + 1 ≤ fuel; omega⟩
      have hn1 : (fuel - (more r).steps).toNat ≤ n := by show (fuel - (r.steps + 1)).toNat ≤ n; omega
      by_cases h1 : p.kind = 1
      · exact ⟨_, _, .skip h1 hs⟩
      by_cases h2 : p.kind = 2
      · exact ⟨_, _, .fail h2 hs⟩
      by_cases h3 : p.kind = 3
      · by_cases hx : nxt w (more r) p.num < 0
        · exact ⟨_, _, .actBad h3 hs hx⟩
        · exact ⟨_, _, .actOk h3 hs hx⟩
      by_cases h4 : p.kind = 4
      · cases ht : truthE p.cond (at0 w r.st) with
        | false => exact ⟨_, _, .assertNo h4 hs ht⟩
        | true => exact ⟨_, _, .assertYes h4 hs ht⟩
      by_cases h6 : p.kind = 6
      · have hl2 := hl.2.2.1 h6
        have hl0 : 0 < p.kids.length := by omega
        have hl1 : 1 < p.kids.length := by omega
        cases ht : truthE p.cond (at0 w r.st) with
        | true =>
          obtain ⟨c, r2, h⟩ := ihn (SizeOf.sizeOf p.kids[0]) p.kids[0] (more r) hn1 (Nat.le_refl _) (hp.kid (List.getElem_mem hl0)) hr1
          exact ⟨_, _, .ifYes h6 hs ht (kid_get hl0) h⟩
        | false =>
          obtain ⟨c, r2, h⟩ := ihn (SizeOf.sizeOf p.kids[1]) p.kids[1] (more r) hn1 (Nat.le_refl _) (hp.kid (List.getElem_mem hl1)) hr1
          exact ⟨_, _, .ifNo h6 hs ht (kid_get hl1) h⟩
      have h7 : p.kind = 7 := by omega
      have hl2 := hl.2.2.2 h7
      have hl0 : 0 < p.kids.length := by omega
      cases ht : truthE p.cond (at0 w r.st) with
      | false => exact ⟨_, _, .whileNo h7 hs ht⟩
      | true =>
        obtain ⟨c, r1, h⟩ := ihn (SizeOf.sizeOf p.kids[0]) p.kids[0] (more r) hn1 (Nat.le_refl _) (hp.kid (List.getElem_mem hl0)) hr1
        have hb := h.keeps hw hA hfu (hp.kid (List.getElem_mem hl0)) hr1
        by_cases hc : c = 0
        · subst hc
          have h8 : r.steps + 1 ≤ r1.steps := hb.2.1
          obtain ⟨c, r2, h2⟩ := ihn (SizeOf.sizeOf p) p r1 (by omega) (Nat.le_refl _) hp hb.1
          exact ⟨_, _, .whileOk h7 hs ht (kid_get hl0) h h2⟩
        · exact ⟨_, _, .whileBad h7 hs ht (kid_get hl0) h hc⟩
end Go.Proofs.YtaajacnceocpoaaGreat

namespace Go.Proofs.YtaajacnceocpoaaGreat
open Go Go.KA Go.Proofs
set_option maxHeartbeats 16000000
set_option maxRecDepth 100000
abbrev CRun (w : XWorld) (fuel : Int) (p : List CV) (r : RS) (c : Int) (r' : RS) : Prop := CallX Tryz.prog 44 [.c (.op (ctI w fuel r)), .a 6 p] [some [.op (ctI w fuel r')], none] (I c)
theorem idx_get {α : Type} {f : α → List CV} {l : List α} {i : Nat} {x : α} (h : l[i]? = some x) : (l.map f)[i]? = some (f x) := by
  rw [List.getElem?_map, h]
  rfl
section
variable {t a : Int} {w : XWorld} {fuel : Int}
theorem runI_seqBad {p k0 : XProg} {r r1 : RS} {c : Int} (hk : p.kind = 5) (g0 : p.kids[0]? = some k0) (hr : CRun w fuel (encProg k0) r c r1) (hc : ¬ c = 0) : CRun w fuel (toldP p) r c r1 := by
  refine callX_of_vc htb hm Tryz.func44 rfl rfl rfl rfl (ann := fun _ => none) (gh := fun _ => false) ?_
  repeat' ((conv => whnf); first | (guard_target = RetX _ _; refine RetX.mk ?_ ?_) | (guard_target = Branch _ _ _; (first | apply Branch.dec | apply Branch.beq | apply Branch.bne | apply Branch.ndec | apply Branch.nb | apply Branch.mk) <;> intro h <;> (try simp only [List.length_map] at h) <;> (try omega) <;> (try contradiction)) | (guard_target = CallN _ 44 _ _ _ _; refine CallN.gen [true, false] _ _ _ rfl (hr) rfl rfl _ rfl ?_) | (guard_target = Index _ _ _; first | refine Index.mk _ (idx_get g0) ?_ | refine Index.mk _ (idx_map (by omega)) ?_) | (guard_target = LinkV _ _ _; refine LinkV.no ?_) | (guard_target = Need _ _; refine Need.mk (by first  | omega | (simp only [List.length_map]; omega)) ?_))
  all_goals first | rfl | exact ⟨rfl, trivial⟩
theorem runI_seqOk {p k0 k1 : XProg} {r r1 r2 : RS} {c : Int} (hk : p.kind = 5) (g0 : p.kids[0]? = some k0) (g1 : p.kids[1]? = some k1) (hr : CRun w fuel (encProg k0) r 0 r1) (h2 : CRun w fuel (encProg k1) r1 c r2) : CRun w fuel (toldP p) r c r2 := by
  refine callX_of_vc htb hm Tryz.func44 rfl rfl rfl rfl (ann := fun _ => none) (gh := fun _ => false) ?_
  repeat' ((conv => whnf); first | (guard_target = RetX _ _; refine RetX.mk ?_ ?_) | (guard_target = Branch _ _ _; (first | apply Branch.dec | apply Branch.beq | apply Branch.bne | apply Branch.ndec | apply Branch.nb | apply Branch.mk) <;> intro h <;> (try simp only [List.length_map] at h) <;> (try omega) <;> (try contradiction)) | (guard_target = CallN _ 44 _ _ _ _; refine CallN.gen [true, false] _ _ _ rfl (hr) rfl rfl _ rfl ?_) | (guard_target = CallN _ 44 _ _ _ _; refine CallN.gen [true, false] _ _ _ rfl (h2) rfl rfl _ rfl ?_) | (guard_target = Index _ _ _; first | refine Index.mk _ (idx_get g0) ?_ | refine Index.mk _ (idx_get g1) ?_ | refine Index.mk _ (idx_map (by omega)) ?_) | (guard_target = LinkV _ _ _; refine LinkV.no ?_) | (guard_target = Need _ _; refine Need.mk (by first  | omega | (simp only [List.length_map]; omega)) ?_))
  all_goals first | rfl | exact ⟨rfl, trivial⟩
inductive Rnd (w : XWorld) (fuel : Int) (p : XProg) (C : XProg → RS → Int → RS → Prop) (c : Int) (r' : RS) : RS → Prop
  | budget {r} (hs : r.steps = fuel) (hc : c = 7) (he : r' = r) : Rnd w fuel p C c r' r
  | skip {r} (hk : p.kind = 1) (hs : ¬ r.steps = fuel) (hc : c = 0) (he : r' = more r) : Rnd w fuel p C c r' r
  | fail {r} (hk : p.kind = 2) (hs : ¬ r.steps = fuel) (hc : c = 4) (he : r' = more r) : Rnd w fuel p C c r' r
  | actBad {r} (hk : p.kind = 3) (hs : ¬ r.steps = fuel) (hn : nxt w (more r) p.num < 0) (hc : c = 4) (he : r' = more r) : Rnd w fuel p C c r' r
  | actOk {r} (hk : p.kind = 3) (hs : ¬ r.steps = fuel) (hn : ¬ nxt w (more r) p.num < 0) (hc : c = 0) (he : r' = done w (more r) p.num) : Rnd w fuel p C c r' r
  | assertNo {r} (hk : p.kind = 4) (hs : ¬ r.steps = fuel) (ht : truthE p.cond (at0 w r.st) = false) (hc : c = 4) (he : r' = more r) : Rnd w fuel p C c r' r
  | assertYes {r} (hk : p.kind = 4) (hs : ¬ r.steps = fuel) (ht : truthE p.cond (at0 w r.st) = true) (hc : c = 0) (he : r' = more r) : Rnd w fuel p C c r' r
  | ifYes {k0 r} (hk : p.kind = 6) (hs : ¬ r.steps = fuel) (ht : truthE p.cond (at0 w r.st) = true) (g0 : p.kids[0]? = some k0) (h : C k0 (more r) c r') : Rnd w fuel p C c r' r
  | ifNo {k1 r} (hk : p.kind = 6) (hs : ¬ r.steps = fuel) (ht : truthE p.cond (at0 w r.st) = false) (g1 : p.kids[1]? = some k1) (h : C k1 (more r) c r') : Rnd w fuel p C c r' r
  | whileNo {r} (hk : p.kind = 7) (hs : ¬ r.steps = fuel) (ht : truthE p.cond (at0 w r.st) = false) (hc : c = 0) (he : r' = more r) : Rnd w fuel p C c r' r
  | whileBad {k0 r} (hk : p.kind = 7) (hs : ¬ r.steps = fuel) (ht : truthE p.cond (at0 w r.st) = true) (g0 : p.kids[0]? = some k0) (h : C k0 (more r) c r') (hc : ¬ c = 0) : Rnd w fuel p C c r' r
  | whileOk {k0 r r1} (hk : p.kind = 7) (hs : ¬ r.steps = fuel) (ht : truthE p.cond (at0 w r.st) = true) (g0 : p.kids[0]? = some k0) (h : C k0 (more r) 0 r1) (hb : RB w fuel r1) (hlt : r.steps < r1.steps) (h2 : Rnd w fuel p C c r' r1) : Rnd w fuel p C c r' r
theorem holdsI_p (p : XProg) (r : RS) (hr : StOk w r) (h : okC t a p.cond) : CallX Tryz.prog 108 [.c (.op (ctI w fuel r)), .a 3 (toldE p.cond)] [some [.op (ctI w fuel r)], none] (B (truthE p.cond (at0 w r.st))) := holdsI_ok' t a w fuel r hr p.cond h
theorem holdsI_T (p : XProg) (r : RS) (hr : StOk w r) (hlt : r.steps < 1000) (h : okC t a p.cond) (ht : truthE p.cond (at0 w r.st) = true) : CallX Tryz.prog 108 [.c (.op (ctI w fuel (more r))), .a 3 (toldE p.cond)] [some [.op (ctI w fuel (more r))], none] (B true) := by
  have := holdsI_p (t := t) (a := a) (fuel := fuel) p (more r) (hr.inc hlt) h
  rwa [show truthE p.cond (at0 w (more r).st) = true from ht] at this
theorem holdsI_F (p : XProg) (r : RS) (hr : StOk w r) (hlt : r.steps < 1000) (h : okC t a p.cond) (ht : truthE p.cond (at0 w r.st) = false) : CallX Tryz.prog 108 [.c (.op (ctI w fuel (more r))), .a 3 (toldE p.cond)] [some [.op (ctI w fuel (more r))], none] (B false) := by
  have := holdsI_p (t := t) (a := a) (fuel := fuel) p (more r) (hr.inc hlt) h
  rwa [show truthE p.cond (at0 w (more r).st) = false from ht] at this
theorem runI_rnd {p : XProg} (hp : POk t a p) (hw : WOk w) (hA : (w.acts.length : Int) = a) (hfu : fuel ≤ 500) (h5 : ¬ p.kind = 5) {r0 r' : RS} {c : Int} (h0 : Rnd w fuel p (fun k r c r' => CRun w fuel (encProg k) r c r') c r' r0) (hb0 : RB w fuel r0) : CRun w fuel (toldP p) r0 c r' := by
  refine callX_of_vc htb hm Tryz.func44 rfl rfl rfl rfl (ann := fun _ => none) (gh := fun _ => false) ?_
  repeat' ((conv => whnf); first | (guard_target = RetX _ _; exact RetX.mk rfl ⟨rfl, trivial⟩) | (guard_target = RetX _ _; refine RetX.mk ?_ ?_) | (guard_target =~ LoopE 6 _ _ _ _ _ _; refine LoopE.mk { α := RS, keep := [0, 3], ov := fun r => [], hv := fun r => [(0, .row none 2 1 (r.ta.map eI)), (1, .row none 2 1 (r.tc.map eI)), (2, .cells [.c (.ro 1 (w.atoms.map eI)), .c (.ro 1 (w.acts.map fun l => [.ro 1 (l.map eI)])), .c (J r.st), .lw 0, .lw 1, .c (J fuel), .c (J r.steps)])], φ := fun r => RB w fuel r ∧ Rnd w fuel p (fun k r c r' => CRun w fuel (encProg k) r c r') c r' r, μ := fun r => (fuel - r.steps).toNat } (LoopN.mk (r0 : RS) (by exact ⟨hb0, h0⟩) (by repeat' ((conv => whnf) <;> first | exact trivial | kernel_rfl | constructor)) (by repeat' ((conv => whnf) <;> first | exact trivial | kernel_rfl | constructor)) (by repeat' ((conv => whnf) <;> first | exact trivial | refine ⟨?_, ?_⟩ | exact rfl | (simp only [List.map_append, List.map_cons, List.map_nil, List.map_set]; first | done | rfl))) (fun (r : RS) ha => ?_) (by intro A; first | rfl | (obtain ⟨_, _⟩ := A; rfl) | (obtain ⟨_, _, _⟩ := A; rfl))); have ha : RB w fuel r ∧ Rnd w fuel p (fun k r c r' => CRun w fuel (encProg k) r c r') c r' r := ha; have hle := ha.1.le; have hst := ha.1.st.steps; have hSt := ha.1.st; obtain ⟨hb, hr⟩ := ha; rcases hr with ⟨hs, hc, he⟩ | ⟨hk, hs, hc, he⟩ | ⟨hk, hs, hc, he⟩ | ⟨hk, hs, hn, hc, he⟩ | ⟨hk, hs, hn, hc, he⟩ | ⟨hk, hs, ht, hc, he⟩ | ⟨hk, hs, ht, hc, he⟩ | ⟨hk, hs, ht, g0, hq⟩ | ⟨hk, hs, ht, g0, hq⟩ | ⟨hk, hs, ht, hc, he⟩ | ⟨hk, hs, ht, g0, hq, hc⟩ | ⟨hk, hs, ht, g0, hq, hb1, hlt1, hn1⟩ <;> (try subst_vars)) | (guard_target = Branch _ _ _; (first | apply Branch.dec | apply Branch.beq | apply Branch.bne | apply Branch.ndec | apply Branch.nb | apply Branch.mk) <;> intro h <;> (try simp only [List.length_map] at h) <;> (try omega) <;> (try contradiction)) | (guard_target = CallN _ 106 _ _ _ _; refine CallN.gen [true] _ _ _ rfl (stepI_stop w _ r (by first | assumption | rfl)) rfl rfl _ rfl ?_) | (guard_target = CallN _ 106 _ _ _ _; refine CallN.gen [true] _ _ _ rfl (stepI_go w fuel r (by assumption) (by omega)) rfl rfl _ rfl ?_) | (guard_target = CallN _ 107 _ _ _ _; refine CallN.gen [true, false] _ _ _ rfl (do_bad w fuel p.num (more r) hw (hSt.inc (by omega)) (by have := hp.act (by assumption); omega) (by assumption)) rfl rfl _ rfl ?_) | (guard_target = CallN _ 107 _ _ _ _; refine CallN.gen [true, false] _ _ _ rfl (do_go w fuel p.num (more r) hw (hSt.inc (by omega)) (by have := hp.act (by assumption); omega) (by assumption)) rfl rfl _ rfl ?_) | (guard_target = CallN _ 108 _ _ _ _; refine CallN.gen [true, false] _ _ _ rfl (holdsI_T p r hSt (by omega) (hp.cond (by omega)) (by assumption)) rfl rfl _ rfl ?_) | (guard_target = CallN _ 108 _ _ _ _; refine CallN.gen [true, false] _ _ _ rfl (holdsI_F p r hSt (by omega) (hp.cond (by omega)) (by assumption)) rfl rfl _ rfl ?_) | (guard_target = CallN _ 44 _ _ _ _; refine CallN.gen [true, false] _ _ _ rfl (‹CRun w fuel (encProg _) (more r) _ _›) rfl rfl _ rfl ?_) | (guard_target = Gh _ _ _ _ _; refine Gh.go ⟨_, ⟨hb1, hn1⟩, (by show (fuel - RS.steps _).toNat < (fuel - r.steps).toNat; have := hb1.le; omega), (by first | exact trivial | exact ⟨⟨rfl, rfl⟩, trivial⟩ | exact ⟨⟨rfl, rfl⟩, ⟨rfl, rfl⟩, trivial⟩ | exact ⟨⟨rfl, rfl⟩, ⟨rfl, rfl⟩, ⟨rfl, rfl⟩, trivial⟩ | exact ⟨⟨rfl, rfl⟩, ⟨rfl, rfl⟩, ⟨rfl, rfl⟩, ⟨rfl, rfl⟩, trivial⟩ | exact ⟨⟨rfl, rfl⟩, ⟨rfl, rfl⟩, ⟨rfl, rfl⟩, ⟨rfl, rfl⟩, ⟨rfl, rfl⟩, trivial⟩ | exact ⟨⟨rfl, rfl⟩, ⟨rfl, rfl⟩, ⟨rfl, rfl⟩, ⟨rfl, rfl⟩, ⟨rfl, rfl⟩, ⟨rfl, rfl⟩, trivial⟩ | exact ⟨⟨rfl, rfl⟩, ⟨rfl, rfl⟩, ⟨rfl, rfl⟩, ⟨rfl, rfl⟩, ⟨rfl, rfl⟩, ⟨rfl, rfl⟩, ⟨rfl, rfl⟩, trivial⟩ | exact ⟨⟨rfl, rfl⟩, ⟨rfl, rfl⟩, ⟨rfl, rfl⟩, ⟨rfl, rfl⟩, ⟨rfl, rfl⟩, ⟨rfl, rfl⟩, ⟨rfl, rfl⟩, ⟨rfl, rfl⟩, trivial⟩), (by first | exact trivial | exact ⟨⟨rfl, rfl⟩, trivial⟩ | exact ⟨⟨rfl, rfl⟩, ⟨rfl, rfl⟩, trivial⟩ | exact ⟨⟨rfl, rfl⟩, ⟨rfl, rfl⟩, ⟨rfl, rfl⟩, trivial⟩ | exact ⟨⟨rfl, rfl⟩, ⟨rfl, rfl⟩, ⟨rfl, rfl⟩, ⟨rfl, rfl⟩, trivial⟩ | exact ⟨⟨rfl, rfl⟩, ⟨rfl, rfl⟩, ⟨rfl, rfl⟩, ⟨rfl, rfl⟩, ⟨rfl, rfl⟩, trivial⟩ | exact ⟨⟨rfl, rfl⟩, ⟨rfl, rfl⟩, ⟨rfl, rfl⟩, ⟨rfl, rfl⟩, ⟨rfl, rfl⟩, ⟨rfl, rfl⟩, trivial⟩ | exact ⟨⟨rfl, rfl⟩, ⟨rfl, rfl⟩, ⟨rfl, rfl⟩, ⟨rfl, rfl⟩, ⟨rfl, rfl⟩, ⟨rfl, rfl⟩, ⟨rfl, rfl⟩, trivial⟩ | exact ⟨⟨rfl, rfl⟩, ⟨rfl, rfl⟩, ⟨rfl, rfl⟩, ⟨rfl, rfl⟩, ⟨rfl, rfl⟩, ⟨rfl, rfl⟩, ⟨rfl, rfl⟩, ⟨rfl, rfl⟩, trivial⟩), (by first | exact trivial | exact ⟨⟨rfl, rfl⟩, trivial⟩ | exact ⟨⟨rfl, rfl⟩, ⟨rfl, rfl⟩, trivial⟩ | exact ⟨⟨rfl, rfl⟩, ⟨rfl, rfl⟩, ⟨rfl, rfl⟩, trivial⟩ | exact ⟨⟨rfl, rfl⟩, ⟨rfl, rfl⟩, ⟨rfl, rfl⟩, ⟨rfl, rfl⟩, trivial⟩ | exact ⟨⟨rfl, rfl⟩, ⟨rfl, rfl⟩, ⟨rfl, rfl⟩, ⟨rfl, rfl⟩, ⟨rfl, rfl⟩, trivial⟩ | exact ⟨⟨rfl, rfl⟩, ⟨rfl, rfl⟩, ⟨rfl, rfl⟩, ⟨rfl, rfl⟩, ⟨rfl, rfl⟩, ⟨rfl, rfl⟩, trivial⟩ | exact ⟨⟨rfl, rfl⟩, ⟨rfl, rfl⟩, ⟨rfl, rfl⟩, ⟨rfl, rfl⟩, ⟨rfl, rfl⟩, ⟨rfl, rfl⟩, ⟨rfl, rfl⟩, trivial⟩ | exact ⟨⟨rfl, rfl⟩, ⟨rfl, rfl⟩, ⟨rfl, rfl⟩, ⟨rfl, rfl⟩, ⟨rfl, rfl⟩, ⟨rfl, rfl⟩, ⟨rfl, rfl⟩, ⟨rfl, rfl⟩, trivial⟩)⟩) | (guard_target = Index _ _ _; first | refine Index.mk _ (idx_get ‹p.kids[0]? = some _›) ?_ | refine Index.mk _ (idx_get ‹p.kids[1]? = some _›) ?_ | refine Index.mk _ (idx_map (by omega)) ?_) | (guard_target = LinkV _ _ _; refine LinkV.no ?_) | (guard_target = Need _ _; refine Need.mk (by first  | omega | (simp only [List.length_map]; omega)) ?_))
  all_goals first | (have := hp.kind; omega)
end
end Go.Proofs.YtaajacnceocpoaaGreat

namespace Go.Proofs.YtaajacnceocpoaaGreat
open Go Go.KA Go.Proofs
theorem runI_ok {t a : Int} {w : XWorld} {fuel : Int} (hw : WOk w) (hA : (w.acts.length : Int) = a) (hfu : fuel ≤ 500) {p : XProg} {r : RS} {c : Int} {r' : RS} (h : Run w fuel p r c r') :
    POk t a p → RB w fuel r → CRun w fuel (encProg p) r c r' ∧ (¬ p.kind = 5 → Rnd w fuel p (fun k r c r' => CRun w fuel (encProg k) r c r') c r' r) := by
  have fin : ∀ {p : XProg} {r : RS} {c : Int} {r' : RS}, POk t a p → RB w fuel r → ¬ p.kind = 5 → Rnd w fuel p (fun k r c r' => CRun w fuel (encProg k) r c r') c r' r →
      CRun w fuel (encProg p) r c r' ∧ (¬ p.kind = 5 → Rnd w fuel p (fun k r c r' => CRun w fuel (encProg k) r c r') c r' r) := by
    intro p r c r' hp hb h5 h
    refine ⟨?_, fun _ => h⟩
    rw [encProg_eq]
    exact runI_rnd hp hw hA hfu h5 h hb
  have inc : ∀ {r : RS}, RB w fuel r → ¬ r.steps = fuel → RB w fuel (more r) := fun {r} hr hs => ⟨hr.st.inc (by have := hr.le; omega), by show r.steps + 1 ≤ fuel; have := hr.le; omega⟩
  induction h with
  | seqBad hk g0 h hc ih =>
    intro hp hb
    refine ⟨?_, fun h5 => absurd hk h5⟩
    rw [encProg_eq]
    exact runI_seqBad hk g0 (ih (hp.kid (List.mem_of_getElem? g0)) hb).1 hc
  | seqOk hk g0 g1 h h2 ih1 ih2 =>
    intro hp hb
    have hp0 := hp.kid (List.mem_of_getElem? g0)
    refine ⟨?_, fun h5 => absurd hk h5⟩
    rw [encProg_eq]
    exact runI_seqOk hk g0 g1 (ih1 hp0 hb).1 (ih2 (hp.kid (List.mem_of_getElem? g1)) (h.keeps hw hA hfu hp0 hb).1).1
  | budget hk hs => intro hp hb; exact fin hp hb hk (.budget hs rfl rfl)
  | skip hk hs => intro hp hb; exact fin hp hb (by omega) (.skip hk hs rfl rfl)
  | fail hk hs => intro hp hb; exact fin hp hb (by omega) (.fail hk hs rfl rfl)
  | actBad hk hs hn => intro hp hb; exact fin hp hb (by omega) (.actBad hk hs hn rfl rfl)
  | actOk hk hs hn => intro hp hb; exact fin hp hb (by omega) (.actOk hk hs hn rfl rfl)
  | assertNo hk hs ht => intro hp hb; exact fin hp hb (by omega) (.assertNo hk hs ht rfl rfl)
  | assertYes hk hs ht => intro hp hb; exact fin hp hb (by omega) (.assertYes hk hs ht rfl rfl)
  | ifYes hk hs ht g0 h ih => intro hp hb; exact fin hp hb (by omega) (.ifYes hk hs ht g0 (ih (hp.kid (List.mem_of_getElem? g0)) (inc hb hs)).1)
  | ifNo hk hs ht g1 h ih => intro hp hb; exact fin hp hb (by omega) (.ifNo hk hs ht g1 (ih (hp.kid (List.mem_of_getElem? g1)) (inc hb hs)).1)
  | whileNo hk hs ht => intro hp hb; exact fin hp hb (by omega) (.whileNo hk hs ht rfl rfl)
  | whileBad hk hs ht g0 h hc ih => intro hp hb; exact fin hp hb (by omega) (.whileBad hk hs ht g0 (ih (hp.kid (List.mem_of_getElem? g0)) (inc hb hs)).1 hc)
  | @whileOk p k0 r r1 c r2 hk hs ht g0 h h2 ih1 ih2 =>
    intro hp hb
    have hp0 := hp.kid (List.mem_of_getElem? g0)
    have hkp := h.keeps hw hA hfu hp0 (inc hb hs)
    have hlt : r.steps + 1 ≤ r1.steps := hkp.2.1
    exact fin hp hb (by omega) (.whileOk hk hs ht g0 (ih1 hp0 (inc hb hs)).1 hkp.1 (by omega) ((ih2 hp hkp.1).2 (by omega)))
end Go.Proofs.YtaajacnceocpoaaGreat
