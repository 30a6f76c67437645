/- Part of a proof engine for functions of the given program: what an operation, a loop and a call compute, symbolically. No conditions. -/
import Derived.Test.YtceijpfmaofhpaaEngK
namespace Go.KA
open Go Go.RowKit

section
variable {P : Program} {tbl : TT}

theorem viewOS_sound {ρ : List Value} {w : World} {ok okv : Nat → Prop} {H : List Blk} {F : Nat → List Nat}
    (hB : ∀ (i : Nat) k, H[i]? = some k → ∃ v, ρ[i]? = some v ∧ BDen ρ w ok k v (F i)) (hok : ∀ b, ok b → okv b) (hF : ∀ i, i < H.length → ∀ b ∈ F i, okv b) {l l' : List SV} {vs : List Value}
    (h : mapOS (viewV H) l = some l') (hl : l.length = vs.length) (hv : ∀ (j : Nat) s v, l[j]? = some s → vs[j]? = some v → TDen ρ w ok s v) : ∀ ρ', TDen ρ' w okv (.tup l') (.tuple vs.toArray) := by
  intro ρ'
  obtain ⟨h1, h2⟩ := viewAll_get h
  refine .tup (by omega) fun j s' v hs' hv' => ?_
  obtain ⟨s, hs, hview⟩ := h2 j s' hs'
  exact viewV_sound hB hok hF hview (T_to_V hview (hv j s v hs hv')) ρ'

theorem viewS_sound {ρ : List Value} {w : World} {ok okv : Nat → Prop} {H : List Blk} {F : Nat → List Nat}
    (hB : ∀ (i : Nat) k, H[i]? = some k → ∃ v, ρ[i]? = some v ∧ BDen ρ w ok k v (F i)) (hok : ∀ b, ok b → okv b) (hF : ∀ i, i < H.length → ∀ b ∈ F i, okv b) {s s' : SV} {v : Value}
    (h : viewS H s = some s') (hT : TDen ρ w ok s v) : ∀ ρ', TDen ρ' w okv s' v := by
  intro ρ'
  unfold viewS at h
  split at h
  · split at h
    · rename_i l l' hl
      injection h with h
      subst h
      cases hT with
      | v hT => cases hT with | c hT => cases hT
      | tup hlen hh => exact viewOS_sound hB hok hF hl hlen (fun j s v hs hv => .v (hh j s v hs hv)) ρ'
    · cases h
  · exact .v (viewV_sound hB hok hF h (T_to_V h hT) ρ')

theorem run_results (htb : TblOk P tbl) {Γ : Cx} {nt : Nat} {T : TM} {H : List Blk} {ρ : List Value} {F : Nat → List Nat} {a : Act} {w : World} (hS : St Γ nt T H ρ F a w) {fn : Func} {K : List SV → Prop} (h : vcRes tbl fn.results.toList T H K) :
    ∃ (l : List SV) (vs : List Value), K l ∧ (results fn a.tmps).run P w = .ok (if h : vs.toArray.size = 1 then vs.toArray[0] else .tuple vs.toArray) w ∧ l.length = vs.length ∧ ∀ (j : Nat) s v, l[j]? = some s → vs[j]? = some v → TDen ρ w (okOf Γ H F w) s v := by
  obtain ⟨l, vs, hK, hr, hl, hv⟩ := vcRes_sound htb hS _ h
  refine ⟨l, vs, hK, ?_, hl, hv⟩
  have hrun : (fn.results.mapM (resSem a.tmps)).run P w = .ok vs.toArray w := by
    rw [Array.mapM_eq_mapM_toList]
    simp [hr]
  have : results fn a.tmps = (do let vs ← fn.results.mapM (resSem a.tmps); pure (if h : vs.size = 1 then vs[0] else .tuple vs)) := by
    unfold results
    congr 1
  rw [this, Sem.run_bind, hrun]
  rfl

theorem below_of_mem {w w' : World} {ok : Nat → Prop} {H : List Blk} {ρ : List Value} {F : Nat → List Nat} (h : Mem ⟨w, ok, fun _ => False⟩ H ρ F w') : Below w.heap.size w w' :=
  ⟨h.os, h.tape, h.output, h.size, fun k hk => h.frame k hk (fun hh => hh)⟩

/-- THE FUNCTION's RULE. -/
theorem callF_of_vc (htb : TblOk P tbl) (hm : P.follows .mixedOrders = true) {f : Nat} {fn : Func} {c : Code} {args : List SV} {r : SV} {ann : Nat → Option Inv} (hf : P.funcs[f]? = some fn) (hname : (fn.name == "runtime.NumGoroutine") = false) (hb : fn.body = some c)
    (hn : Nat.ble args.length fn.ntmps = true) (h : vc P tbl fn.ntmps ann c (retF tbl fn.results.toList r) (T0 args) []) : CallF P f args r := by
  refine ⟨⟨fn, hf, hname, by rw [hb]; rfl⟩, fun w ok vs hok hl hv => ?_⟩
  refine calls_of_wp hf hb ?_
  have hle := Nat.le_of_ble_eq_true hn
  have hokeq : ∀ b, ok b → okOf ⟨w, ok, fun _ => False⟩ [] (fun _ => []) w b := fun b hb' => ⟨hok b hb', .inl hb', fun ⟨i, hi, _⟩ => by simp at hi⟩
  have hS : St ⟨w, ok, fun _ => False⟩ fn.ntmps (T0 args) [] [] (fun _ => []) { tmps := vs.toArray ++ Array.replicate (fn.ntmps - vs.toArray.size) undef, defers := [] } w := by
    refine ⟨⟨rfl, by simp, by simp, by simp, ?_, ?_, fun b hb' => ⟨hok b hb', fun h => h⟩, fun _ _ _ => rfl, Nat.le_refl _, rfl, rfl, rfl⟩, rfl, by simp; omega, fun i => ?_⟩
    · rintro b ⟨i, hi, _⟩; simp at hi
    · rintro b ⟨i, hi, _⟩; simp at hi
    · unfold T0
      cases ha : args[i]? with
      | none => exact .any
      | some s =>
        have hi : i < vs.length := by rw [← hl]; exact (List.getElem?_eq_some_iff.1 ha).1
        have hvi : vs[i]? = some vs[i] := List.getElem?_eq_getElem hi
        have : (vs.toArray ++ Array.replicate (fn.ntmps - vs.toArray.size) undef).getD i undef = vs[i] := by
          rw [Array.getD_eq_getD_getElem?, Array.getElem?_append_left (by simpa using hi)]
          simp [hi]
        simp only []
        rw [this]
        exact .v ((hv i s _ ha hvi []).mono (fun _ _ => rfl) hokeq)
  refine vc_sound htb hm c h ?_ hS
  intro e T H ρ F a w' hk hs
  have fin : vcRes tbl fn.results.toList T H (fun l => match viewS H (outR l) with | some s => Done (normS s = r) | none => False) →
      a.defers = [] ∧ ∃ v, (results fn a.tmps).run P w' = .ok v w' ∧ ∃ v', Ending.returned v = .returned v' ∧ Below w.heap.size w w' ∧ ∀ ρ, TDen ρ w' (fun b => b < w'.heap.size ∧ (ok b ∨ w.heap.size ≤ b)) r v' := by
    intro hk
    obtain ⟨l, vs', hK, hrun, hl', hv'⟩ := run_results htb hs hk
    refine ⟨hs.defers, _, hrun, _, rfl, below_of_mem hs.mem, ?_⟩
    have hokv : ∀ b, okOf ⟨w, ok, fun _ => False⟩ H F w' b → b < w'.heap.size ∧ (ok b ∨ w.heap.size ≤ b) := by
      rintro b ⟨h1, h2 | h2 | h2, _⟩
      · exact ⟨h1, .inl h2⟩
      · exact h2.elim
      · exact ⟨h1, .inr h2⟩
    have hF : ∀ i, i < H.length → ∀ b ∈ F i, b < w'.heap.size ∧ (ok b ∨ w.heap.size ≤ b) := by
      intro i hi b hb'
      have hown : Owned H F b := ⟨i, hi, hb'⟩
      refine ⟨hs.mem.lt b hown, ?_⟩
      rcases hs.mem.src b hown with h1 | h1
      · exact h1.elim
      · exact .inr h1
    split at hK
    · rename_i s hview
      have := hK.h
      subst this
      refine fun ρ => normS_sound ?_
      revert ρ
      match l, vs', hl' with
      | [], [], _ =>
        simp only [outR] at hview
        exact viewS_sound (v := .tuple #[]) hs.mem.blocks hokv hF hview (.tup (vs := []) rfl (by simp))
      | [x], [v], _ => exact viewS_sound hs.mem.blocks hokv hF hview (hv' 0 x v rfl rfl)
      | x :: y :: l, v :: u :: vs', hl' =>
        simp only [outR, viewS] at hview
        split at hview
        · rename_i l' hl2
          injection hview with hview
          subst hview
          have := viewOS_sound hs.mem.blocks hokv hF hl2 hl' hv'
          simpa using this
        · cases hview
    · exact hK.elim
  cases e with
  | normal => exact fin hk
  | ret => exact fin hk
  | exit i => exact hk.elim

end
end Go.KA
