/- Part of a proof engine for functions of the given program: what an operation, a loop and a call compute, symbolically. No conditions. -/
import Derived.Test.YtaajacnceocpoaaGreatEngJ
namespace Go.KA
open Go Go.RowKit

/-! ### Values handed over, with the memory that they own -/
inductive ODen (w : World) (ok : Nat → Prop) : SV → Value → List Nat → Prop
  | v {s v} (h : ∀ ρ, VDen ρ w ok s v) : ODen w ok s v []
  | o {x v f} (h : Den w ok [x] [v] f) : ODen w ok (.c x) v f
  | a {n cs vs f} (hl : cs.length = n) (h : Den w ok cs vs f) : ODen w ok (.a n cs) (.agg vs.toArray) f
inductive OL (w : World) (ok : Nat → Prop) : List SV → List Value → List Nat → Prop
  | nil : OL w ok [] [] []
  | cons {s v f ss vs g} (h : ODen w ok s v f) (ht : OL w ok ss vs g) : OL w ok (s :: ss) (v :: vs) (f ++ g)
inductive OT (w : World) (ok : Nat → Prop) : SV → Value → List Nat → Prop
  | any {v} : OT w ok .any v []
  | v {s v f} (h : ODen w ok s v f) : OT w ok s v f
  | tup {ss vs f} (h : OL w ok ss vs f) : OT w ok (.tup ss) (.tuple vs.toArray) f
inductive ADen (w : World) (ok : Nat → Prop) : SV → Value → List Nat → Prop
  | v {s v} (h : ∀ ρ, VDen ρ w ok s v) : ADen w ok s v []
  | o {x v f} (h : Den w ok [x] [v] f) : ADen w ok (.c x) v f
  | m {cs vs f} (h : Den w ok cs vs f) : ADen w ok (.m (cs.map .c)) (.agg vs.toArray) f
inductive AL (w : World) (ok : Nat → Prop) : List SV → List Value → List Nat → Prop
  | nil : AL w ok [] [] []
  | cons {s v f ss vs g} (h : ADen w ok s v f) (ht : AL w ok ss vs g) : AL w ok (s :: ss) (v :: vs) (f ++ g)
def Keep (w0 w : World) (v : Value) (cs : List CV) : Prop :=
  ∀ cells, cs = [.op cells] → ∀ (b ty ty' : Nat) (arr arr' : Array Value), v = .pointer (some ⟨b, 0, none⟩) → w0.heap[b]? = some (.cells arr ty (0, 0)) → w.heap[b]? = some (.cells arr' ty' (0, 0)) →
    ∀ (i : Nat) x, cells[i]? = some (.op x) → arr'.toList[i]? = arr.toList[i]?
inductive OutL (w0 w : World) (ok : Nat → Prop) : List (Option (List CV)) → List Value → List Nat → Prop
  | nil {vs} : OutL w0 w ok [] vs []
  | none {os v vs f} (ht : OutL w0 w ok os vs f) : OutL w0 w ok (none :: os) (v :: vs) f
  | some {cs os v vs f g} (h : Den w ok cs v.cells.toList g) (hk : Keep w0 w v cs) (ht : OutL w0 w ok os vs f) : OutL w0 w ok (some cs :: os) (v :: vs) (g ++ f)

section
variable {w w' : World} {ok ok' : Nat → Prop}
theorem ODen.mono {s : SV} {v : Value} {f : List Nat} (h : ODen w ok s v f) (hs : ∀ b, ok b → w'.heap[b]? = w.heap[b]?) (hok : ∀ b, ok b → ok' b) (hf : ∀ b ∈ f, w'.heap[b]? = w.heap[b]?) : ODen w' ok' s v f := by
  cases h with
  | v h => exact .v fun ρ => (h ρ).mono hs hok (Ext.refl _)
  | o h => exact .o (h.mono hs hok hf)
  | a hl h => exact .a hl (h.mono hs hok hf)
theorem OL.mono {ss : List SV} {vs : List Value} {f : List Nat} (h : OL w ok ss vs f) (hs : ∀ b, ok b → w'.heap[b]? = w.heap[b]?) (hok : ∀ b, ok b → ok' b) (hf : ∀ b ∈ f, w'.heap[b]? = w.heap[b]?) : OL w' ok' ss vs f := by
  induction h with
  | nil => exact .nil
  | cons h _ ih => exact .cons (h.mono hs hok fun b hb => hf b (by simp [hb])) (ih fun b hb => hf b (by simp [hb]))
theorem AL.length {ss : List SV} {vs : List Value} {f : List Nat} (h : AL w ok ss vs f) : ss.length = vs.length := by
  induction h <;> simp_all
theorem OL.length {ss : List SV} {vs : List Value} {f : List Nat} (h : OL w ok ss vs f) : ss.length = vs.length := by
  induction h <;> simp_all
structure Grown (fs : List Nat) (w w' : World) : Prop where
  os : w'.os = w.os
  tape : w'.tape = w.tape
  output : w'.output = w.output
  size : w.heap.size ≤ w'.heap.size
  block : ∀ b, b < w.heap.size → b ∉ fs → w'.heap[b]? = w.heap[b]?
end

def FnOk (P : Program) (f : Nat) : Prop := ∃ fn, P.funcs[f]? = some fn ∧ (fn.name == "runtime.NumGoroutine") = false ∧ fn.body.isNone = false
def okX (ok : Nat → Prop) (fs fp : List Nat) (w w' : World) (b : Nat) : Prop := b < w'.heap.size ∧ (ok b ∨ b ∈ fs ∨ w.heap.size ≤ b) ∧ b ∉ fp
def CallX (P : Program) (f : Nat) (args : List SV) (outs : List (Option (List CV))) (r : SV) : Prop :=
  FnOk P f ∧ ∀ (w : World) (ok : Nat → Prop) (vs : List Value) (fs : List Nat), (∀ b, ok b → b < w.heap.size) → AL w ok args vs fs → fs.Nodup → (∀ b ∈ fs, b < w.heap.size ∧ ¬ ok b) →
    Calls P f vs.toArray w fun e w' => ∃ v fr fo, e = .returned v ∧ Grown fs w w' ∧ (fr ++ fo).Nodup ∧ (∀ b ∈ fr ++ fo, (b ∈ fs ∨ w.heap.size ≤ b) ∧ b < w'.heap.size) ∧
      OT w' (okX ok fs (fr ++ fo) w w') r v fr ∧ OutL w w' (okX ok fs (fr ++ fo) w w') outs vs fo
def CallE (P : Program) (f : Nat) (args : List SV) {α : Type} (φ : α → Prop) (outs : α → List (Option (List CV))) (r : α → SV) : Prop :=
  FnOk P f ∧ ∀ (w : World) (ok : Nat → Prop) (vs : List Value) (fs : List Nat), (∀ b, ok b → b < w.heap.size) → AL w ok args vs fs → fs.Nodup → (∀ b ∈ fs, b < w.heap.size ∧ ¬ ok b) →
    Calls P f vs.toArray w fun e w' => ∃ x, φ x ∧ ∃ v fr fo, e = .returned v ∧ Grown fs w w' ∧ (fr ++ fo).Nodup ∧ (∀ b ∈ fr ++ fo, (b ∈ fs ∨ w.heap.size ≤ b) ∧ b < w'.heap.size) ∧
      OT w' (okX ok fs (fr ++ fo) w w') (r x) v fr ∧ OutL w w' (okX ok fs (fr ++ fo) w w') (outs x) vs fo
theorem CallX.toE {P : Program} {f : Nat} {args : List SV} {α : Type} {φ : α → Prop} {outs : α → List (Option (List CV))} {r : α → SV} (x : α) (hx : φ x) (h : CallX P f args (outs x) (r x)) : CallE P f args φ outs r :=
  ⟨h.1, fun w ok vs fs h1 h2 h3 h4 => (h.2 w ok vs fs h1 h2 h3 h4).mono fun _ _ hp => ⟨x, hx, hp⟩⟩
theorem CallE.toX {P : Program} {f : Nat} {args : List SV} {α : Type} {φ : α → Prop} {outs : List (Option (List CV))} {r : SV} (h : CallE P f args φ (fun _ => outs) (fun _ => r)) : CallX P f args outs r :=
  ⟨h.1, fun w ok vs fs h1 h2 h3 h4 => (h.2 w ok vs fs h1 h2 h3 h4).mono fun _ _ ⟨_, _, hp⟩ => hp⟩
abbrev CallF (P : Program) (f : Nat) (args : List SV) (r : SV) : Prop := CallX P f args [] r

/-! ### A result is taken over -/
def adopt0 : List CV → Nat → Option (List SV × List (Nat × Blk) × Nat)
  | [], n => some ([], [], n)
  | .own ty sz rows :: cs, n => match adopt0 cs (n + 1) with | some (ss, bs, m) => some (.lw n :: ss, (n, .orow none ty sz rows) :: bs, m) | none => none
  | .ows ty sz rows :: cs, n => match adopt0 cs (n + 1) with | some (ss, bs, m) => some (.lw n :: ss, (n, .row none ty sz rows) :: bs, m) | none => none
  | .ownp v ty sz rows :: cs, n => match adopt0 cs (n + 1) with | some (ss, bs, m) => some (.lw n :: ss, (n, .orow (some v) ty sz rows) :: bs, m) | none => none
  | .op _ :: _, _ => none
  | .bld _ _ _ :: _, _ => none
  | c :: cs, n => match adopt0 cs n with | some (ss, bs, m) => some (.c c :: ss, bs, m) | none => none
def adopt1 : List CV → Nat → Option (List SV × List (Nat × Blk) × Nat)
  | [], n => some ([], [], n)
  | .own ty sz rows :: cs, n => match adopt1 cs (n + 1) with | some (ss, bs, m) => some (.lw n :: ss, (n, .orow none ty sz rows) :: bs, m) | none => none
  | .ows ty sz rows :: cs, n => match adopt1 cs (n + 1) with | some (ss, bs, m) => some (.lw n :: ss, (n, .row none ty sz rows) :: bs, m) | none => none
  | .ownp v ty sz rows :: cs, n => match adopt1 cs (n + 1) with | some (ss, bs, m) => some (.lw n :: ss, (n, .orow (some v) ty sz rows) :: bs, m) | none => none
  | .op is :: cs, n => match adopt0 is (n + 1) with
    | some (ks, bs0, m0) => match adopt1 cs m0 with | some (ss, bs, m) => some (.lp n 0 :: ss, (n, mkBlk ks) :: (bs0 ++ bs), m) | none => none
    | none => none
  | .bld _ _ _ :: _, _ => none
  | c :: cs, n => match adopt1 cs n with | some (ss, bs, m) => some (.c c :: ss, bs, m) | none => none
def adoptV (s : SV) (n : Nat) : Option (SV × List (Nat × Blk) × Nat) :=
  match s with
  | .c (.op cells) => match adopt1 cells n with | some (ss, bs, m) => some (.lp m 0, bs ++ [(m, mkBlk ss)], m + 1) | none => none
  | .c (.bld t e s) => some (.lp n 0, [(n, .bld t e s)], n + 1)
  | .c x => match adopt1 [x] n with | some ([s], bs, m) => some (s, bs, m) | _ => none
  | .a k cs => match adopt1 cs n with
    | some (_, [], m) => some (.a k cs, [], m)
    | some (ss, bs, m) => some (.m ss, bs, m)
    | none => none
  | .clo k caps => some (.clo k caps, [], n)
  | .any => some (.any, [], n)
  | _ => none
def adoptVs : List SV → Nat → Option (List SV × List (Nat × Blk) × Nat)
  | [], n => some ([], [], n)
  | s :: ss, n => match adoptV s n with
    | some (s', bs, m) => match adoptVs ss m with
      | some (ss', bs', m') => some (s' :: ss', bs ++ bs', m')
      | none => none
    | none => none
def adoptA (s : SV) (n : Nat) : Option (SV × List (Nat × Blk) × Nat) :=
  match s with
  | .a k cs => some (.a k cs, [], n)
  | .m ss => match allC ss with
    | some cs => match adopt1 cs n with | some (ss', bs, m) => some (.m ss', bs, m) | none => none
    | none => none
  | s => adoptV s n
def adoptAs : List SV → Nat → Option (List SV × List (Nat × Blk) × Nat)
  | [], n => some ([], [], n)
  | s :: ss, n => match adoptA s n with
    | some (s', bs, m) => match adoptAs ss m with
      | some (ss', bs', m') => some (s' :: ss', bs ++ bs', m')
      | none => none
    | none => none
def adoptT (s : SV) (n : Nat) : Option (SV × List (Nat × Blk) × Nat) :=
  match s with
  | .tup ss => match adoptVs ss n with | some (ss', bs, m) => some (.tup ss', bs, m) | none => none
  | s => adoptV s n

section
variable {w : World} {ok : Nat → Prop}
theorem adopt0_sound : ∀ {cs : List CV} {vs : List Value} {f : List Nat} {n : Nat} {ss : List SV} {bs : List (Nat × Blk)} {m : Nat}, adopt0 cs n = some (ss, bs, m) → Den w ok cs vs f →
    ∃ L, wsOf L = bs ∧ m = n + L.length ∧ Took w ok n L f ∧ ∀ ρ : RM, (∀ e ∈ L, ρ e.nm = e.v) → PW (CDen ρ w ok) ss vs
  | [], vs, f, n, ss, bs, m, h, hd => by
    simp only [adopt0, Option.some.injEq, Prod.mk.injEq] at h
    obtain ⟨rfl, rfl, rfl⟩ := h
    cases hd
    exact ⟨[], rfl, rfl, .nil, fun ρ _ => ⟨rfl, by simp⟩⟩
  | c :: cs, vs, f, n, ss, bs, m, h, hd => by
    have plain : ∀ {x : Value} {vs : List Value} {f : List Nat}, Den w ok [c] [x] [] → Den w ok cs vs f → (match adopt0 cs n with | some (ss, bs, m) => some (SV.c c :: ss, bs, m) | none => none) = some (ss, bs, m) →
        ∃ L, wsOf L = bs ∧ m = n + L.length ∧ Took w ok n L f ∧ ∀ ρ : RM, (∀ e ∈ L, ρ e.nm = e.v) → PW (CDen ρ w ok) ss (x :: vs) := by
      intro x vs f h1 ht h
      split at h
      · rename_i ss' bs' m' hrec
        simp only [Option.some.injEq, Prod.mk.injEq] at h
        obtain ⟨rfl, rfl, rfl⟩ := h
        obtain ⟨L, g1, g2, g3, g4⟩ := adopt0_sound hrec ht
        refine ⟨L, g1, g2, g3, fun ρ hρ => ⟨by simp [(g4 ρ hρ).1], fun j a v ha hv => ?_⟩⟩
        cases j with
        | zero => simp at ha hv; subst ha hv; exact .c h1
        | succ j => exact (g4 ρ hρ).2 j a v (by simpa using ha) (by simpa using hv)
      · cases h
    have owned : ∀ {x : Value} {vs : List Value} {g f : List Nat} {b : Blk}, (∃ a n c, x = .slice a n c) → (∀ ρ : RM, BDen ρ w ok b (some x) g) → Den w ok cs vs f →
        (match adopt0 cs (n + 1) with | some (ss, bs, m) => some (SV.lw n :: ss, (n, b) :: bs, m) | none => none) = some (ss, bs, m) →
        ∃ L, wsOf L = bs ∧ m = n + L.length ∧ Took w ok n L (g ++ f) ∧ ∀ ρ : RM, (∀ e ∈ L, ρ e.nm = e.v) → PW (CDen ρ w ok) ss (x :: vs) := by
      intro x vs g f b hx hb ht h
      split at h
      · rename_i ss' bs' m' hrec
        simp only [Option.some.injEq, Prod.mk.injEq] at h
        obtain ⟨rfl, rfl, rfl⟩ := h
        obtain ⟨L, g1, g2, g3, g4⟩ := adopt0_sound hrec ht
        refine ⟨⟨n, b, g, some x⟩ :: L, by simp [wsOf] at g1 ⊢; exact g1, by simp; omega, ?_, fun ρ hρ => ?_⟩
        · have := (Took.one (n := n) hb).append (L' := L) (f' := f) (by simpa using g3)
          simpa using this
        · obtain ⟨k1, k2⟩ := g4 ρ fun e he => hρ e (by simp [he])
          refine ⟨by simp [k1], fun j a v ha hv => ?_⟩
          cases j with
          | zero =>
            simp at ha hv
            subst ha hv
            obtain ⟨a, k, c, rfl⟩ := hx
            exact .lw (hρ ⟨n, b, g, some (.slice a k c)⟩ (by simp))
          | succ j => exact k2 j a v (by simpa using ha) (by simpa using hv)
      · cases h
    cases hd with
    | any h1 ht => exact plain (.any h1 .nil) ht h
    | val h1 ht => exact plain (.val h1 .nil) ht h
    | cb ht => exact plain (.cb .nil) ht h
    | ro hn hc hm hr hin hrd ht => exact plain (.ro hn hc hm hr hin hrd .nil) ht h
    | rp hl hin hs hrd ht => exact plain (.rp hl hin hs hrd .nil) ht h
    | op hb hin ht => simp [adopt0] at h
    | bld hp hb ho ht => simp [adopt0] at h
    | @own as vs f ty sz rows xs v g hin hr ho ht =>
      have := owned (x := v) (g := v.ownBlock.toList ++ g) (b := .orow none ty sz rows) (by rcases row_form ho with ⟨e, _⟩ | ⟨b, c, e, _⟩ <;> exact ⟨_, _, _, e⟩) (fun ρ => .orow ho hr hin (by simp)) ht h
      simpa using this
    | @ownp as vs f ty sz rows xs v g hin hr ho ht =>
      have := owned (x := v) (g := v.ownBlock.toList ++ g) (b := .orow (some v) ty sz rows) (by rcases row_form ho with ⟨e, _⟩ | ⟨b, c, e, _⟩ <;> exact ⟨_, _, _, e⟩) (fun ρ => .orow ho hr hin (by simp)) ht h
      simpa using this
    | @ows as vs f ty sz rows xs v hin hr ho ht =>
      exact owned (x := v) (g := v.ownBlock.toList) (b := .row none ty sz rows) (by rcases row_form ho with ⟨e, _⟩ | ⟨b, c, e, _⟩ <;> exact ⟨_, _, _, e⟩) (fun ρ => .row ho hr hin (by simp)) ht h

theorem took_blk0 {n : Nat} {L : List Ent} {f : List Nat} {ss : List SV} {b ty : Nat} {arr : Array Value} (hT : Took w ok (n + 1) L f) (hb : w.heap[b]? = some (.cells arr ty (0, 0))) (hC : ∀ ρ : RM, (∀ e ∈ L, ρ e.nm = e.v) → PW (CDen ρ w ok) ss arr.toList) :
    Took w ok n (⟨n, mkBlk ss, [b], some (.pointer (some ⟨b, 0, none⟩))⟩ :: L) (b :: f) := by
  refine ⟨?_, by simp [hT.flat], fun e he => ?_⟩
  · rw [List.map_cons, hT.names, List.length_cons, List.range'_succ]
  · rcases List.mem_cons.1 he with he | he
    · subst he
      refine ⟨_, rfl, fun ρ hρ => ?_⟩
      obtain ⟨k1, k2⟩ := hC ρ fun e he => hρ e (by simp [he])
      exact mkBlk_sound hb k1 k2
    · obtain ⟨u, h1, h2⟩ := hT.den e he
      exact ⟨u, h1, fun ρ hρ => h2 ρ fun e' he' => hρ e' (by simp [he'])⟩
theorem took_blk {n : Nat} {L : List Ent} {f : List Nat} {ss : List SV} {b ty : Nat} {arr : Array Value} (hT : Took w ok n L f) (hb : w.heap[b]? = some (.cells arr ty (0, 0))) (hC : ∀ ρ : RM, (∀ e ∈ L, ρ e.nm = e.v) → PW (CDen ρ w ok) ss arr.toList) :
    Took w ok n (L ++ [⟨n + L.length, mkBlk ss, [b], some (.pointer (some ⟨b, 0, none⟩))⟩]) (f ++ [b]) := by
  refine ⟨?_, by rw [List.map_append, List.flatten_append, hT.flat]; simp, fun e he => ?_⟩
  · rw [List.map_append, hT.names, List.length_append, ← List.range'_append_1]
    rfl
  · rcases List.mem_append.1 he with he | he
    · obtain ⟨u, h1, h2⟩ := hT.den e he
      exact ⟨u, h1, fun ρ hρ => h2 ρ fun e' he' => hρ e' (by simp [he'])⟩
    · have he := List.mem_singleton.1 he
      subst he
      refine ⟨_, rfl, fun ρ hρ => ?_⟩
      obtain ⟨k1, k2⟩ := hC ρ fun e he => hρ e (by simp [he])
      exact mkBlk_sound hb k1 k2

theorem adopt1_sound : ∀ {cs : List CV} {vs : List Value} {f : List Nat} {n : Nat} {ss : List SV} {bs : List (Nat × Blk)} {m : Nat}, adopt1 cs n = some (ss, bs, m) → Den w ok cs vs f →
    ∃ L, wsOf L = bs ∧ m = n + L.length ∧ Took w ok n L f ∧ ∀ ρ : RM, (∀ e ∈ L, ρ e.nm = e.v) → PW (CDen ρ w ok) ss vs
  | [], vs, f, n, ss, bs, m, h, hd => by
    simp only [adopt1, Option.some.injEq, Prod.mk.injEq] at h
    obtain ⟨rfl, rfl, rfl⟩ := h
    cases hd
    exact ⟨[], rfl, rfl, .nil, fun ρ _ => ⟨rfl, by simp⟩⟩
  | c :: cs, vs, f, n, ss, bs, m, h, hd => by
    have plain : ∀ {x : Value} {vs : List Value} {f : List Nat}, Den w ok [c] [x] [] → Den w ok cs vs f → (match adopt1 cs n with | some (ss, bs, m) => some (SV.c c :: ss, bs, m) | none => none) = some (ss, bs, m) →
        ∃ L, wsOf L = bs ∧ m = n + L.length ∧ Took w ok n L f ∧ ∀ ρ : RM, (∀ e ∈ L, ρ e.nm = e.v) → PW (CDen ρ w ok) ss (x :: vs) := by
      intro x vs f h1 ht h
      split at h
      · rename_i ss' bs' m' hrec
        simp only [Option.some.injEq, Prod.mk.injEq] at h
        obtain ⟨rfl, rfl, rfl⟩ := h
        obtain ⟨L, g1, g2, g3, g4⟩ := adopt1_sound hrec ht
        refine ⟨L, g1, g2, g3, fun ρ hρ => ⟨by simp [(g4 ρ hρ).1], fun j a v ha hv => ?_⟩⟩
        cases j with
        | zero => simp at ha hv; subst ha hv; exact .c h1
        | succ j => exact (g4 ρ hρ).2 j a v (by simpa using ha) (by simpa using hv)
      · cases h
    have owned : ∀ {x : Value} {vs : List Value} {g f : List Nat} {b : Blk}, (∃ a n c, x = .slice a n c) → (∀ ρ : RM, BDen ρ w ok b (some x) g) → Den w ok cs vs f →
        (match adopt1 cs (n + 1) with | some (ss, bs, m) => some (SV.lw n :: ss, (n, b) :: bs, m) | none => none) = some (ss, bs, m) →
        ∃ L, wsOf L = bs ∧ m = n + L.length ∧ Took w ok n L (g ++ f) ∧ ∀ ρ : RM, (∀ e ∈ L, ρ e.nm = e.v) → PW (CDen ρ w ok) ss (x :: vs) := by
      intro x vs g f b hx hb ht h
      split at h
      · rename_i ss' bs' m' hrec
        simp only [Option.some.injEq, Prod.mk.injEq] at h
        obtain ⟨rfl, rfl, rfl⟩ := h
        obtain ⟨L, g1, g2, g3, g4⟩ := adopt1_sound hrec ht
        refine ⟨⟨n, b, g, some x⟩ :: L, by simp [wsOf] at g1 ⊢; exact g1, by simp; omega, ?_, fun ρ hρ => ?_⟩
        · have := (Took.one (n := n) hb).append (L' := L) (f' := f) (by simpa using g3)
          simpa using this
        · obtain ⟨k1, k2⟩ := g4 ρ fun e he => hρ e (by simp [he])
          refine ⟨by simp [k1], fun j a v ha hv => ?_⟩
          cases j with
          | zero =>
            simp at ha hv
            subst ha hv
            obtain ⟨a, k, c, rfl⟩ := hx
            exact .lw (hρ ⟨n, b, g, some (.slice a k c)⟩ (by simp))
          | succ j => exact k2 j a v (by simpa using ha) (by simpa using hv)
      · cases h
    cases hd with
    | any h1 ht => exact plain (.any h1 .nil) ht h
    | val h1 ht => exact plain (.val h1 .nil) ht h
    | cb ht => exact plain (.cb .nil) ht h
    | ro hn hc hm hr hin hrd ht => exact plain (.ro hn hc hm hr hin hrd .nil) ht h
    | rp hl hin hs hrd ht => exact plain (.rp hl hin hs hrd .nil) ht h
    | @op as vs f ty is b g arr hb hin ht =>
      simp only [adopt1] at h
      split at h
      case h_2 => cases h
      rename_i ks bs0 m0 hr0
      split at h
      case h_2 => cases h
      rename_i ss' bs' m' hrec
      simp only [Option.some.injEq, Prod.mk.injEq] at h
      obtain ⟨rfl, rfl, rfl⟩ := h
      obtain ⟨L0, g1, g2, g3, g4⟩ := adopt0_sound hr0 hin
      subst g2
      have hT := took_blk0 g3 hb g4
      obtain ⟨L, k1, k2, k3, k4⟩ := adopt1_sound hrec ht
      refine ⟨(⟨n, mkBlk ks, [b], some (.pointer (some ⟨b, 0, none⟩))⟩ :: L0) ++ L, by simp [wsOf] at g1 k1 ⊢; rw [g1, k1], by simp; omega, ?_, fun ρ hρ => ?_⟩
      · have := hT.append (L' := L) (f' := f) (by simpa [Nat.add_assoc, Nat.add_comm 1] using k3)
        simpa using this
      · obtain ⟨q1, q2⟩ := k4 ρ fun e he => hρ e (by simp [he])
        refine ⟨by simp [q1], fun j a v ha hv => ?_⟩
        cases j with
        | zero =>
          simp at ha hv
          subst ha hv
          exact .lp (hρ ⟨n, mkBlk ks, [b], some (.pointer (some ⟨b, 0, none⟩))⟩ (by simp))
        | succ j => exact q2 j a v (by simpa using ha) (by simpa using hv)
    | bld hp hb ho ht => simp [adopt1] at h
    | @own as vs f ty sz rows xs v g hin hr ho ht =>
      have := owned (x := v) (g := v.ownBlock.toList ++ g) (b := .orow none ty sz rows) (by rcases row_form ho with ⟨e, _⟩ | ⟨b, c, e, _⟩ <;> exact ⟨_, _, _, e⟩) (fun ρ => .orow ho hr hin (by simp)) ht h
      simpa using this
    | @ownp as vs f ty sz rows xs v g hin hr ho ht =>
      have := owned (x := v) (g := v.ownBlock.toList ++ g) (b := .orow (some v) ty sz rows) (by rcases row_form ho with ⟨e, _⟩ | ⟨b, c, e, _⟩ <;> exact ⟨_, _, _, e⟩) (fun ρ => .orow ho hr hin (by simp)) ht h
      simpa using this
    | @ows as vs f ty sz rows xs v hin hr ho ht =>
      exact owned (x := v) (g := v.ownBlock.toList) (b := .row none ty sz rows) (by rcases row_form ho with ⟨e, _⟩ | ⟨b, c, e, _⟩ <;> exact ⟨_, _, _, e⟩) (fun ρ => .row ho hr hin (by simp)) ht h

theorem adoptV_sound {s s' : SV} {v : Value} {f : List Nat} {n m : Nat} {bs : List (Nat × Blk)} (h : adoptV s n = some (s', bs, m)) (hd : ODen w ok s v f) :
    ∃ L g, wsOf L = bs ∧ m = n + L.length ∧ Took w ok n L g ∧ g.Perm f ∧ ∀ ρ : RM, (∀ e ∈ L, ρ e.nm = e.v) → TDen ρ w ok s' v := by
  have one : ∀ {x : CV} {f : List Nat}, Den w ok [x] [v] f → (∀ cells, x ≠ .op cells) → (∀ t e s, x ≠ .bld t e s) → adoptV (.c x) n = some (s', bs, m) → ∃ L g, wsOf L = bs ∧ m = n + L.length ∧ Took w ok n L g ∧ g.Perm f ∧ ∀ ρ : RM, (∀ e ∈ L, ρ e.nm = e.v) → TDen ρ w ok s' v := by
    intro x f hd hx hx2 h
    have h' : (match adopt1 [x] n with | some ([s], bs, m) => some (s, bs, m) | _ => none) = some (s', bs, m) := by
      cases x <;> first | exact h | exact absurd rfl (hx _) | exact absurd rfl (hx2 _ _ _)
    split at h'
    · rename_i s0 bs0 m0 hrec
      simp only [Option.some.injEq, Prod.mk.injEq] at h'
      obtain ⟨rfl, rfl, rfl⟩ := h'
      obtain ⟨L, g1, g2, g3, g4⟩ := adopt1_sound hrec hd
      exact ⟨L, f, g1, g2, g3, .refl _, fun ρ hρ => .v (.c ((g4 ρ hρ).2 0 s0 v rfl rfl))⟩
    · cases h'
  cases hd with
  | v hv =>
    have hv0 := hv (fun _ => none)
    cases hv0 with
    | c hc =>
      cases hc with
      | c hd =>
        rename_i x
        by_cases hx : ∃ cells, x = .op cells
        · obtain ⟨cells, rfl⟩ := hx
          cases hd
        · exact one hd (fun cells e => hx ⟨cells, e⟩) (by rintro t e s rfl; cases hd) h
      | lp h' => cases h'
      | le h' => cases h'
      | lw h' => cases h'
      | ls h' => cases h'
      | mp h' => cases h'
    | a hl hd =>
      rename_i k cs vs
      simp only [adoptV] at h
      split at h
      · rename_i ss0 m0 hrec
        simp only [Option.some.injEq, Prod.mk.injEq] at h
        obtain ⟨rfl, rfl, rfl⟩ := h
        obtain ⟨L, g1, g2, g3, g4⟩ := adopt1_sound hrec hd
        exact ⟨L, [], g1, g2, g3, .refl _, fun ρ hρ => .v (.a hl hd)⟩
      · rename_i ss0 bs0 m0 hne hrec
        simp only [Option.some.injEq, Prod.mk.injEq] at h
        obtain ⟨rfl, rfl, rfl⟩ := h
        obtain ⟨L, g1, g2, g3, g4⟩ := adopt1_sound hrec hd
        exact ⟨L, [], g1, g2, g3, .refl _, fun ρ hρ => .v (.m (g4 ρ hρ).1 (g4 ρ hρ).2)⟩
      · cases h
    | m hl hd => simp [adoptV] at h
    | clo hl hd =>
      simp only [adoptV, Option.some.injEq, Prod.mk.injEq] at h
      obtain ⟨rfl, rfl, rfl⟩ := h
      exact ⟨[], [], rfl, rfl, .nil, .refl _, fun ρ _ => .v (hv ρ)⟩
  | o hd =>
    rename_i x
    by_cases hx : ∃ cells, x = .op cells
    · obtain ⟨cells, rfl⟩ := hx
      cases hd with
      | @op as vs f ty cells b g arr hb hin ht =>
        cases ht
        simp only [adoptV] at h
        split at h
        · rename_i ss bs0 m0 hrec
          simp only [Option.some.injEq, Prod.mk.injEq] at h
          obtain ⟨rfl, rfl, rfl⟩ := h
          obtain ⟨L, g1, g2, g3, g4⟩ := adopt1_sound hrec hin
          subst g2
          refine ⟨_, _, ?_, by simp; omega, took_blk g3 hb g4, ?_, fun ρ hρ => ?_⟩
          · simp only [wsOf, List.map_append, List.map_cons, List.map_nil] at g1 ⊢
            rw [g1]
          · rw [List.append_nil]
            exact List.perm_append_singleton b g
          · exact .v (.c (.lp (hρ ⟨n + L.length, mkBlk ss, [b], some (.pointer (some ⟨b, 0, none⟩))⟩ (by simp))))
        · cases h
    · by_cases hx2 : ∃ t e s, x = .bld t e s
      · obtain ⟨t, e, s, rfl⟩ := hx2
        cases hd with
        | @bld as vs f ty e s b p u hp hb ho ht =>
          cases ht
          simp only [adoptV, Option.some.injEq, Prod.mk.injEq] at h
          obtain ⟨rfl, rfl, rfl⟩ := h
          refine ⟨[⟨n, .bld t e s, b :: u.ownBlock.toList, some (.pointer (some ⟨b, 0, none⟩))⟩], _, rfl, rfl, .one fun ρ => .bld hp hb ho, by rw [List.append_nil], fun ρ hρ => ?_⟩
          exact .v (.c (.lp (hρ ⟨n, .bld t e s, b :: u.ownBlock.toList, some (.pointer (some ⟨b, 0, none⟩))⟩ (by simp))))
      · exact one hd (fun cells e => hx ⟨cells, e⟩) (fun t e s h => hx2 ⟨t, e, s, h⟩) h
  | a hl hd =>
    rename_i k cs vs
    simp only [adoptV] at h
    split at h
    · rename_i ss0 m0 hrec
      simp only [Option.some.injEq, Prod.mk.injEq] at h
      obtain ⟨rfl, rfl, rfl⟩ := h
      obtain ⟨L, g1, g2, g3, g4⟩ := adopt1_sound hrec hd
      have hL : L = [] := by simpa [wsOf] using g1
      subst hL
      have hf : f = [] := by have := g3.flat; simpa using this.symm
      subst hf
      exact ⟨[], [], rfl, g2, g3, .refl _, fun ρ hρ => .v (.a hl hd)⟩
    · rename_i ss0 bs0 m0 hne hrec
      simp only [Option.some.injEq, Prod.mk.injEq] at h
      obtain ⟨rfl, rfl, rfl⟩ := h
      obtain ⟨L, g1, g2, g3, g4⟩ := adopt1_sound hrec hd
      exact ⟨L, f, g1, g2, g3, .refl _, fun ρ hρ => .v (.m (g4 ρ hρ).1 (g4 ρ hρ).2)⟩
    · cases h

theorem adoptV_shape {s s' : SV} {n m : Nat} {bs : List (Nat × Blk)} (h : adoptV s n = some (s', bs, m)) (hs : s ≠ .any) : s' ≠ .any ∧ ∀ vs, s' ≠ .tup vs := by
  have h1 : ∀ {cs : List CV} {n : Nat} {ss : List SV} {bs : List (Nat × Blk)} {m : Nat}, adopt1 cs n = some (ss, bs, m) → ∀ s ∈ ss, s ≠ .any ∧ ∀ vs, s ≠ .tup vs := by
    intro cs
    induction cs with
    | nil => intro n ss bs m h; simp [adopt1] at h; obtain ⟨rfl, _⟩ := h; simp
    | cons c cs ih =>
      intro n ss bs m h s hs
      cases c <;> simp only [adopt1] at h <;> first
        | cases h
        | (split at h
           case h_2 => cases h
           split at h
           case h_2 => cases h
           rename_i hrec
           simp only [Option.some.injEq, Prod.mk.injEq] at h
           obtain ⟨rfl, _⟩ := h
           rcases List.mem_cons.1 hs with rfl | hs
           · exact ⟨by simp, by simp⟩
           · exact ih hrec s hs)
        | (split at h <;> first
            | (cases h; done)
            | (rename_i hrec
               simp only [Option.some.injEq, Prod.mk.injEq] at h
               obtain ⟨rfl, _⟩ := h
               rcases List.mem_cons.1 hs with rfl | hs
               · exact ⟨by simp, by simp⟩
               · exact ih hrec s hs))
  unfold adoptV at h
  split at h
  · split at h
    · simp only [Option.some.injEq, Prod.mk.injEq] at h; obtain ⟨rfl, _⟩ := h; simp
    · cases h
  · simp only [Option.some.injEq, Prod.mk.injEq] at h; obtain ⟨rfl, _⟩ := h; simp
  · split at h
    · rename_i hrec
      simp only [Option.some.injEq, Prod.mk.injEq] at h
      obtain ⟨rfl, _⟩ := h
      exact h1 hrec _ (by simp)
    · cases h
  · split at h
    · simp only [Option.some.injEq, Prod.mk.injEq] at h; obtain ⟨rfl, _⟩ := h; simp
    · simp only [Option.some.injEq, Prod.mk.injEq] at h; obtain ⟨rfl, _⟩ := h; simp
    · cases h
  · simp only [Option.some.injEq, Prod.mk.injEq] at h; obtain ⟨rfl, _⟩ := h; simp
  · exact absurd rfl hs
  · cases h
theorem ODen.not_any {v : Value} {f : List Nat} (h : ODen w ok .any v f) : False := by
  cases h with
  | v h => cases h (fun _ => none) with | c h => cases h
theorem adoptVs_sound : ∀ {ss ss' : List SV} {vs : List Value} {f : List Nat} {n m : Nat} {bs : List (Nat × Blk)}, adoptVs ss n = some (ss', bs, m) → OL w ok ss vs f →
    ∃ L g, wsOf L = bs ∧ m = n + L.length ∧ Took w ok n L g ∧ g.Perm f ∧ ∀ ρ : RM, (∀ e ∈ L, ρ e.nm = e.v) → ss'.length = vs.length ∧ ∀ (j : Nat) s v, ss'[j]? = some s → vs[j]? = some v → VDen ρ w ok s v
  | [], ss', vs, f, n, m, bs, h, hd => by
    simp only [adoptVs, Option.some.injEq, Prod.mk.injEq] at h
    obtain ⟨rfl, rfl, rfl⟩ := h
    cases hd
    exact ⟨[], [], rfl, rfl, .nil, .refl _, fun ρ _ => ⟨rfl, by simp⟩⟩
  | s :: ss, ss', vs, f, n, m, bs, h, hd => by
    cases hd with
    | cons h0 ht =>
      simp only [adoptVs] at h
      split at h
      case h_2 => cases h
      rename_i s1 bs1 m1 hr1
      split at h
      case h_2 => cases h
      rename_i ss2 bs2 m2 hr2
      simp only [Option.some.injEq, Prod.mk.injEq] at h
      obtain ⟨rfl, rfl, rfl⟩ := h
      obtain ⟨L1, g1, a1, a2, a3, a4, a5⟩ := adoptV_sound hr1 h0
      subst a2
      obtain ⟨L2, g2, b1, b2, b3, b4, b5⟩ := adoptVs_sound hr2 ht
      have hne : s ≠ .any := by rintro rfl; exact h0.not_any
      obtain ⟨c1, c2⟩ := adoptV_shape hr1 hne
      refine ⟨L1 ++ L2, g1 ++ g2, by simp [wsOf] at a1 b1 ⊢; rw [a1, b1], by rw [b2, List.length_append]; omega, a3.append b3, a4.append b4, fun ρ hρ => ?_⟩
      have e1 := a5 ρ fun e he => hρ e (by simp [he])
      have e2 := b5 ρ fun e he => hρ e (by simp [he])
      refine ⟨by simp [e2.1], fun j s v hs hv => ?_⟩
      cases j with
      | zero => simp at hs hv; subst hs hv; exact e1.vc c1 c2
      | succ j => exact e2.2 j s v (by simpa using hs) (by simpa using hv)
theorem adoptT_sound {s s' : SV} {v : Value} {f : List Nat} {n m : Nat} {bs : List (Nat × Blk)} (h : adoptT s n = some (s', bs, m)) (hd : OT w ok s v f) :
    ∃ L g, wsOf L = bs ∧ m = n + L.length ∧ Took w ok n L g ∧ g.Perm f ∧ ∀ ρ : RM, (∀ e ∈ L, ρ e.nm = e.v) → TDen ρ w ok s' v := by
  cases hd with
  | any =>
    simp only [adoptT, adoptV, Option.some.injEq, Prod.mk.injEq] at h
    obtain ⟨rfl, rfl, rfl⟩ := h
    exact ⟨[], [], rfl, rfl, .nil, .refl _, fun ρ _ => .any⟩
  | v hd =>
    have : adoptT s n = adoptV s n := by
      cases s <;> first | rfl | skip
      cases hd with
      | v h => cases h (fun _ => none) with | c h => cases h
    rw [this] at h
    exact adoptV_sound h hd
  | tup hd =>
    simp only [adoptT] at h
    split at h
    · rename_i ss' bs' m' hr
      simp only [Option.some.injEq, Prod.mk.injEq] at h
      obtain ⟨rfl, rfl, rfl⟩ := h
      obtain ⟨L, g, a1, a2, a3, a4, a5⟩ := adoptVs_sound hr hd
      exact ⟨L, g, a1, a2, a3, a4, fun ρ hρ => .tup (a5 ρ hρ).1 (a5 ρ hρ).2⟩
    · cases h

theorem adoptA_sound {s s' : SV} {v : Value} {f : List Nat} {n m : Nat} {bs : List (Nat × Blk)} (h : adoptA s n = some (s', bs, m)) (hd : ADen w ok s v f) :
    ∃ L g, wsOf L = bs ∧ m = n + L.length ∧ Took w ok n L g ∧ g.Perm f ∧ ∀ ρ : RM, (∀ e ∈ L, ρ e.nm = e.v) → VDen ρ w ok s' v := by
  have fromV : adoptV s n = some (s', bs, m) → ODen w ok s v f → ∃ L g, wsOf L = bs ∧ m = n + L.length ∧ Took w ok n L g ∧ g.Perm f ∧ ∀ ρ : RM, (∀ e ∈ L, ρ e.nm = e.v) → VDen ρ w ok s' v := by
    intro h hd
    have hne : s ≠ .any := by rintro rfl; exact hd.not_any
    obtain ⟨c1, c2⟩ := adoptV_shape h hne
    obtain ⟨L, g, a1, a2, a3, a4, a5⟩ := adoptV_sound h hd
    exact ⟨L, g, a1, a2, a3, a4, fun ρ hρ => (a5 ρ hρ).vc c1 c2⟩
  have many : ∀ {ss : List SV} {cs : List CV} {vs : List Value} {f : List Nat}, allC ss = some cs → Den w ok cs vs f → (match adopt1 cs n with | some (ss', bs, m) => some (SV.m ss', bs, m) | none => none) = some (s', bs, m) →
      ∃ L g, wsOf L = bs ∧ m = n + L.length ∧ Took w ok n L g ∧ g.Perm f ∧ ∀ ρ : RM, (∀ e ∈ L, ρ e.nm = e.v) → VDen ρ w ok s' (.agg vs.toArray) := by
    intro ss cs vs f _ hd h
    split at h
    · rename_i ss' bs' m' hrec
      simp only [Option.some.injEq, Prod.mk.injEq] at h
      obtain ⟨rfl, rfl, rfl⟩ := h
      obtain ⟨L, g1, g2, g3, g4⟩ := adopt1_sound hrec hd
      exact ⟨L, f, g1, g2, g3, .refl _, fun ρ hρ => .m (g4 ρ hρ).1 (g4 ρ hρ).2⟩
    · cases h
  cases s with
  | a k cs =>
    simp only [adoptA, Option.some.injEq, Prod.mk.injEq] at h
    obtain ⟨rfl, rfl, rfl⟩ := h
    cases hd with
    | v hv => exact ⟨[], [], rfl, rfl, .nil, .refl _, fun ρ _ => hv ρ⟩
  | m ss =>
    simp only [adoptA] at h
    split at h
    case h_2 => cases h
    rename_i cs hcs
    cases hd with
    | v hv =>
      cases hv (fun _ => none) with
      | c hc => cases hc
      | m hl hc =>
        obtain ⟨h1, _⟩ := allC_sound hcs hl hc
        exact many hcs h1 h
    | m hd =>
      have : ∀ cs : List CV, allC (cs.map SV.c) = some cs := by
        intro cs
        induction cs with
        | nil => rfl
        | cons c cs ih => simp only [List.map_cons, allC, ih]
      rw [this] at hcs
      injection hcs with hcs
      subst hcs
      exact many (this _) hd h
  | c x =>
    refine fromV h ?_
    cases hd with
    | v hv => exact .v hv
    | o hd => exact .o hd
  | clo k caps =>
    refine fromV h ?_
    cases hd with
    | v hv => exact .v hv
  | any => cases hd with | v hv => cases hv (fun _ => none) with | c hc => cases hc
  | tup ss => simp [adoptA, adoptV] at h
  | lp i o => simp [adoptA, adoptV] at h
  | le i a b c => simp [adoptA, adoptV] at h
  | lw i => simp [adoptA, adoptV] at h
  | ls i a b c => simp [adoptA, adoptV] at h
  | mp i => simp [adoptA, adoptV] at h
theorem adoptAs_sound : ∀ {ss ss' : List SV} {vs : List Value} {f : List Nat} {n m : Nat} {bs : List (Nat × Blk)}, adoptAs ss n = some (ss', bs, m) → AL w ok ss vs f →
    ∃ L g, wsOf L = bs ∧ m = n + L.length ∧ Took w ok n L g ∧ g.Perm f ∧ ∀ ρ : RM, (∀ e ∈ L, ρ e.nm = e.v) → ss'.length = vs.length ∧ ∀ (j : Nat) s v, ss'[j]? = some s → vs[j]? = some v → VDen ρ w ok s v
  | [], ss', vs, f, n, m, bs, h, hd => by
    simp only [adoptAs, Option.some.injEq, Prod.mk.injEq] at h
    obtain ⟨rfl, rfl, rfl⟩ := h
    cases hd
    exact ⟨[], [], rfl, rfl, .nil, .refl _, fun ρ _ => ⟨rfl, by simp⟩⟩
  | s :: ss, ss', vs, f, n, m, bs, h, hd => by
    cases hd with
    | cons h0 ht =>
      simp only [adoptAs] at h
      split at h
      case h_2 => cases h
      rename_i s1 bs1 m1 hr1
      split at h
      case h_2 => cases h
      rename_i ss2 bs2 m2 hr2
      simp only [Option.some.injEq, Prod.mk.injEq] at h
      obtain ⟨rfl, rfl, rfl⟩ := h
      obtain ⟨L1, g1, a1, a2, a3, a4, a5⟩ := adoptA_sound hr1 h0
      subst a2
      obtain ⟨L2, g2, b1, b2, b3, b4, b5⟩ := adoptAs_sound hr2 ht
      refine ⟨L1 ++ L2, g1 ++ g2, by simp [wsOf] at a1 b1 ⊢; rw [a1, b1], by rw [b2, List.length_append]; omega, a3.append b3, a4.append b4, fun ρ hρ => ?_⟩
      have e1 := a5 ρ fun e he => hρ e (by simp [he])
      have e2 := b5 ρ fun e he => hρ e (by simp [he])
      refine ⟨by simp [e2.1], fun j s v hs hv => ?_⟩
      cases j with
      | zero => simp at hs hv; subst hs hv; exact e1
      | succ j => exact e2.2 j s v (by simpa using hs) (by simpa using hv)
end
end Go.KA
