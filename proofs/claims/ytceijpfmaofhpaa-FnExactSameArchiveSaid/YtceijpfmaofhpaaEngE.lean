/- Part of a proof engine for functions of the given program: what an operation, a loop and a call compute, symbolically. No conditions. -/
import Derived.Test.YtceijpfmaofhpaaEngD
namespace Go.KA
open Go Go.RowKit

/-! ### Contracts -/
/-- A call that only reads what it is handed, and hands back readable data. -/
def FnOk (P : Program) (f : Nat) : Prop := ∃ fn, P.funcs[f]? = some fn ∧ (fn.name == "runtime.NumGoroutine") = false ∧ fn.body.isNone = false
def CallF (P : Program) (f : Nat) (args : List SV) (r : SV) : Prop := FnOk P f ∧
  ∀ (w : World) (ok : Nat → Prop) (vs : List Value), (∀ b, ok b → b < w.heap.size) → args.length = vs.length →
    (∀ (j : Nat) a v, args[j]? = some a → vs[j]? = some v → ∀ ρ, VDen ρ w ok a v) →
    Calls P f vs.toArray w (fun e w' => ∃ v, e = .returned v ∧ Below w.heap.size w w' ∧ ∀ ρ, TDen ρ w' (fun b => b < w'.heap.size ∧ (ok b ∨ w.heap.size ≤ b)) r v)

def mapO (f : SV → Option CV) : List SV → Option (List CV)
  | [] => some []
  | x :: xs => match f x, mapO f xs with
    | some y, some ys => some (y :: ys)
    | _, _ => none
/-- how a callee reads a cell -/
def viewC (H : List Blk) : Nat → SV → Option CV
  | 0, _ => none
  | n + 1, s => match s with
    | .c x => some x
    | .lw i => match H[i]? with
      | some (.row _ sz rows) => some (.ro sz rows)
      | _ => none
    | .ls i sz off len => match H[i]? with
      | some (.row _ sz' rows) => cond (Nat.beq sz sz') (some (.ro sz ((rows.drop off).take len))) none
      | _ => none
    | .lp i off => match H[i]? with
      | some (.cc sz cs) => some (.rp (sz - off) (cs.drop off))
      | some (.cells cs) => match mapO (viewC H n) cs with
        | some l => some (.rp (l.length - off) (l.drop off))
        | none => none
      | _ => none
    | _ => none
def mapOS (f : SV → Option SV) : List SV → Option (List SV)
  | [] => some []
  | x :: xs => match f x, mapOS f xs with
    | some y, some ys => some (y :: ys)
    | _, _ => none
def viewV (H : List Blk) (s : SV) : Option SV :=
  match s with
  | .a n cs => some (.a n cs)
  | .m cs => match mapO (viewC H 5) cs with
    | some l => some (.a l.length l)
    | none => none
  | .clo k caps => match mapO (viewC H 5) caps with
    | some l => some (.clo k (l.map .c))
    | none => none
  | .any => none
  | .tup _ => none
  | x => match viewC H 5 x with
    | some c => some (.c c)
    | none => none
def closedC : SV → Bool
  | .c _ => true
  | _ => false
def closedV : SV → Bool
  | .c _ => true
  | .a _ _ => true
  | .clo _ caps => caps.all closedC
  | _ => false
def scalC : CV → Bool
  | .val _ => true
  | .cb _ => true
  | .any => true
  | _ => false
def scalV : SV → Bool
  | .c x => scalC x
  | .a _ cs => cs.all scalC
  | _ => false
def scalS : SV → Bool
  | .tup vs => vs.all scalV
  | .any => true
  | x => scalV x

section
variable {ρ : List Value} {w : World} {ok okv : Nat → Prop} {H : List Blk} {F : Nat → List Nat}
  (hB : ∀ (i : Nat) k, H[i]? = some k → ∃ v, ρ[i]? = some v ∧ BDen ρ w ok k v (F i)) (hok : ∀ b, ok b → okv b) (hF : ∀ i, i < H.length → ∀ b ∈ F i, okv b)

theorem den_take_drop {sz off len : Nat} {rows : List (List CV)} {xs : List Value} (h : Den w ok rows.flatten xs []) (hr : ∀ r ∈ rows, r.length = sz) :
    Den w ok ((rows.drop off).take len).flatten ((xs.drop (off * sz)).take (len * sz)) [] := by
  have e1 : ∀ (off : Nat) (rows : List (List CV)), (∀ r ∈ rows, r.length = sz) → (rows.drop off).flatten = rows.flatten.drop (off * sz) := by
    intro off
    induction off with
    | zero => intro rows _; simp
    | succ n ih =>
      intro rows hr
      cases rows with
      | nil => simp
      | cons r rows =>
        simp only [List.drop_succ_cons, List.flatten_cons]
        rw [ih rows fun x hx => hr x (by simp [hx])]
        have h0 := hr r (by simp)
        rw [Nat.succ_mul, Nat.add_comm (n * sz) sz, ← List.drop_drop, List.drop_left' h0]
  have e2 : ∀ (len : Nat) (rows : List (List CV)), (∀ r ∈ rows, r.length = sz) → (rows.take len).flatten = rows.flatten.take (len * sz) := by
    intro len
    induction len with
    | zero => intro rows _; simp
    | succ n ih =>
      intro rows hr
      cases rows with
      | nil => simp
      | cons r rows =>
        simp only [List.take_succ_cons, List.flatten_cons]
        rw [ih rows fun x hx => hr x (by simp [hx])]
        have h0 := hr r (by simp)
        rw [Nat.succ_mul, List.take_append, h0, List.take_of_length_le (l := r) (by omega)]
        congr 2
        omega
  rw [e2 _ _ (fun r hr' => hr r (List.mem_of_mem_drop hr')), e1 _ _ hr]
  exact den_take (den_drop h _) _

include hB hok hF
theorem viewC_sound : ∀ (n : Nat) (s : SV) (c : CV) (v : Value), viewC H n s = some c → CDen ρ w ok s v → Den w okv [c] [v] []
  | 0, _, _, _, h, _ => by simp [viewC] at h
  | n + 1, s, c, v, h, hd => by
    simp only [viewC] at h
    split at h
    · injection h with h
      subst h
      cases hd with
      | c h => exact h.mono (fun _ _ => rfl) hok (by simp)
    · rename_i i
      split at h
      · rename_i ty sz rows hi
        injection h with h
        subst h
        obtain ⟨u, xs, hu, ho, hr, hin, hFi⟩ := B_row hB hi
        cases hd with
        | lw hv =>
          rw [hu] at hv
          injection hv with hv
          subst hv
          have hil := (List.getElem?_eq_some_iff.1 hi).1
          rcases row_form ho with ⟨e, hz, hxs⟩ | ⟨b, c, e, hc, hm⟩
          · injection e with e1 e2 e3
            subst e1 e2 e3 hxs
            exact .ro (by omega) (Nat.le_refl _) (by simp [maxLen]) hr (hin.mono (fun _ _ => rfl) hok (by simp)) (fun j x hx => by simp at hx) .nil
          · injection e with e1 e2 e3
            subst e1 e2 e3
            refine .ro rfl hc hm hr (hin.mono (fun _ _ => rfl) hok (by simp)) (fun j x hx => ⟨_, rfl, rfl, hF i hil b (by rw [hFi]; simp [Value.ownBlock]), ?_⟩) .nil
            exact (row_at ho rfl).1 j x hx
      · cases h
    · rename_i i sz off len
      split at h
      · rename_i ty sz' rows hi
        cases hb : Nat.beq sz sz' with
        | false => rw [hb] at h; cases h
        | true =>
          rw [hb] at h
          have := Nat.eq_of_beq_eq_true hb
          subst this
          injection h with h
          subst h
          obtain ⟨u, xs, hu, ho, hr, hin, hFi⟩ := B_row hB hi
          cases hd with
          | @ls _ _ _ _ b n c c' hv h1 h2 h3 =>
            rw [hu] at hv
            injection hv with hv
            subst hv
            obtain ⟨hat, hn, hc, hm⟩ := row_at ho rfl
            have hil := (List.getElem?_eq_some_iff.1 hi).1
            have hd1 := den_take_drop (off := off) (len := len) (hin.mono (ok' := okv) (fun _ _ => rfl) hok (by simp)) hr
            refine .ro (by simp; omega) h2 h3 (fun r hr' => hr r (List.mem_of_mem_drop (List.mem_of_mem_take hr'))) hd1 (fun j x hx => ⟨_, rfl, rfl, hF i hil b (by rw [hFi]; simp [Value.ownBlock]), ?_⟩) .nil
            have hat' := at_take (at_drop hat (off * sz)) (len * sz)
            rw [add_mk, Nat.zero_add] at hat'
            exact hat' j x hx
      · cases h
    · rename_i i off
      split at h
      · rename_i sz cs hi
        injection h with h
        subst h
        obtain ⟨b, ty, arr, hρ, hh, hl, hin, hFi⟩ := B_cc hB hi
        cases hd with
        | lp hv =>
          rw [hρ] at hv
          simp only [Option.some.injEq, Value.pointer.injEq, Addr.mk.injEq, and_true] at hv
          subst hv
          have hil := (List.getElem?_eq_some_iff.1 hi).1
          have hat' := at_drop (arr_at hh) off
          rw [add_mk, Nat.zero_add] at hat'
          refine .rp (by simp [hl]) (den_drop (hin.mono (fun _ _ => rfl) hok (by simp)) off) rfl (fun j x hx => ⟨_, rfl, rfl, hF i hil b (by simp [hFi]), hat' j x hx⟩) .nil
      · rename_i cs hi
        split at h
        · rename_i l hl'
          injection h with h
          subst h
          obtain ⟨b, ty, arr, hρ, hh, hl, hin, hFi⟩ := B_cells hB hi
          cases hd with
          | lp hv =>
            rw [hρ] at hv
            simp only [Option.some.injEq, Value.pointer.injEq, Addr.mk.injEq, and_true] at hv
            subst hv
            have hil := (List.getElem?_eq_some_iff.1 hi).1
            have hat' := at_drop (arr_at hh) off
            rw [add_mk, Nat.zero_add] at hat'
            have key : ∀ (cs : List SV) (l : List CV) (vs : List Value), mapO (viewC H n) cs = some l → cs.length = vs.length → (∀ (j : Nat) a v, cs[j]? = some a → vs[j]? = some v → CDen ρ w ok a v) → Den w okv l vs [] := by
              intro cs
              induction cs with
              | nil => intro l vs h1 h2 _; simp [mapO] at h1; subst h1; cases vs with | nil => exact .nil | cons _ _ => simp at h2
              | cons c cs ih =>
                intro l vs h1 h2 h3
                simp only [mapO] at h1
                split at h1
                · rename_i y ys hy hys
                  injection h1 with h1
                  subst h1
                  cases vs with
                  | nil => simp at h2
                  | cons v vs =>
                    have h4 := viewC_sound n c y v hy (h3 0 _ _ rfl rfl)
                    have h5 := ih ys vs hys (by simpa using h2) fun j a v ha hv => h3 (j + 1) a v ha hv
                    simpa using h4.append h5
                · cases h1
            refine .rp (by simp) (den_drop (key cs l _ hl' hl hin) off) rfl (fun j x hx => ⟨_, rfl, rfl, hF i hil b (by simp [hFi]), hat' j x hx⟩) .nil
        · cases h
      · cases h
    · cases h

theorem viewL_sound {n : Nat} : ∀ {cs : List SV} {l : List CV} {vs : List Value}, mapO (viewC H n) cs = some l → cs.length = vs.length → (∀ (j : Nat) a v, cs[j]? = some a → vs[j]? = some v → CDen ρ w ok a v) → Den w okv l vs [] ∧ l.length = vs.length := by
  intro cs
  induction cs with
  | nil => intro l vs h1 h2 _; simp [mapO] at h1; subst h1; cases vs with | nil => exact ⟨.nil, rfl⟩ | cons _ _ => simp at h2
  | cons c cs ih =>
    intro l vs h1 h2 h3
    simp only [mapO] at h1
    split at h1
    · rename_i y ys hy hys
      injection h1 with h1
      subst h1
      cases vs with
      | nil => simp at h2
      | cons v vs =>
        have h4 := viewC_sound hB hok hF n c y v hy (h3 0 _ _ rfl rfl)
        obtain ⟨h5, h6⟩ := ih hys (by simpa using h2) fun j a v ha hv => h3 (j + 1) a v ha hv
        exact ⟨by simpa using h4.append h5, by simp [h6]⟩
    · cases h1

theorem viewV_sound {s s' : SV} {v : Value} (h : viewV H s = some s') (hd : VDen ρ w ok s v) : ∀ ρ', VDen ρ' w okv s' v := by
  intro ρ'
  unfold viewV at h
  split at h
  · injection h with h
    subst h
    cases hd with
    | c h => cases h
    | a hl h => exact .a hl (h.mono (fun _ _ => rfl) hok (by simp))
  · split at h
    · rename_i l hl'
      injection h with h
      subst h
      cases hd with
      | c h => cases h
      | m hl h =>
        obtain ⟨h1, h2⟩ := viewL_sound hB hok hF hl' hl h
        exact .a rfl h1
    · cases h
  · split at h
    · rename_i l hl'
      injection h with h
      subst h
      cases hd with
      | c h => cases h
      | clo hl h =>
        obtain ⟨h1, h2⟩ := viewL_sound hB hok hF hl' hl h
        refine .clo (by simp [h2]) fun j a v ha hv => ?_
        rw [List.getElem?_map] at ha
        cases hc : l[j]? with
        | none => simp [hc] at ha
        | some c =>
          simp [hc] at ha
          subst ha
          exact .c (h1.get hc hv)
    · cases h
  · cases h
  · cases h
  · split at h
    · rename_i c hc
      injection h with h
      subst h
      have : CDen ρ w ok s v := by
        cases hd with
        | c h => exact h
        | a _ _ => simp_all
        | m _ _ => simp_all
        | clo _ _ => simp_all
      exact .c (.c (viewC_sound hB hok hF 5 s c v hc this))
    · cases h

omit hB hF
theorem closedV_sound {s : SV} {v : Value} (h : closedV s = true) (hd : VDen ρ w ok s v) : ∀ ρ', VDen ρ' w okv s v := by
  intro ρ'
  cases hd with
  | c hd => cases hd <;> first | cases h | skip
            rename_i hd
            exact .c (.c (hd.mono (fun _ _ => rfl) hok (by simp)))
  | a hl hd => exact .a hl (hd.mono (fun _ _ => rfl) hok (by simp))
  | m hl hd => cases h
  | clo hl hd =>
    refine .clo hl fun j a v ha hv => ?_
    have h1 := hd j a v ha hv
    simp only [closedV, List.all_eq_true] at h
    have h2 := h a (List.mem_of_getElem? ha)
    cases h1 <;> first | cases h2 | skip
    rename_i h1
    exact .c (h1.mono (fun _ _ => rfl) hok (by simp))

omit hok
theorem scal_den {cs : List CV} {vs : List Value} {f : List Nat} (hd : Den w ok cs vs f) (h : cs.all scalC = true) : Den w okv cs vs f := by
  induction hd with
  | nil => exact .nil
  | any h1 _ ih => simp only [List.all_cons, Bool.and_eq_true] at h; exact .any h1 (ih h.2)
  | val h1 _ ih => simp only [List.all_cons, Bool.and_eq_true] at h; exact .val h1 (ih h.2)
  | cb _ ih => simp only [List.all_cons, Bool.and_eq_true] at h; exact .cb (ih h.2)
  | ro _ _ _ _ _ _ _ => simp [scalC] at h
  | rp _ _ _ _ _ => simp [scalC] at h
  | own _ _ _ _ => simp [scalC] at h
theorem scal_V {s : SV} {v : Value} (h : scalV s = true) (hd : VDen ρ w ok s v) : VDen ρ w okv s v := by
  cases hd with
  | c hd =>
    cases hd <;> first | (simp [scalV] at h; done) | skip
    rename_i x hd
    exact .c (.c (scal_den hd (by simpa [scalV] using h)))
  | a hl hd => exact .a hl (scal_den hd h)
  | m _ _ => simp [scalV] at h
  | clo _ _ => simp [scalV] at h
theorem scal_T {s : SV} {v : Value} (h : scalS s = true) (hd : TDen ρ w ok s v) : TDen ρ w okv s v := by
  cases hd with
  | any => exact .any
  | v hd =>
    refine .v (scal_V ?_ hd)
    unfold scalS at h
    split at h
    · cases hd with | c h => cases h
    · cases hd with | c h => cases h
    · exact h
  | tup hl hd =>
    refine .tup hl fun j a v ha hv => scal_V ?_ (hd j a v ha hv)
    simp only [scalS, List.all_eq_true] at h
    exact h a (List.mem_of_getElem? ha)
end

end Go.KA
