/- Part of a proof engine for functions of the given program: what an operation, a loop and a call compute, symbolically. No conditions. -/
import Derived.Test.YtbbaadkgmdkjdaaEngI
namespace Go.KA
open Go Go.RowKit

section
variable {P : Program} {tbl : TT} {ρ : RM} {w : World} {ok : Nat → Prop} {H : HM} {F : FM}

def isLit (o : Option Value) (d z : Int) : Prop := match o with | some v => ∃ k, v = .int k z | none => z = d
def optDen (ρ : RM) (w : World) (ok : Nat → Prop) (s : Option SV) (v : Option Value) : Prop := match s, v with | some s, some v => TDen ρ w ok s v | none, none => True | _, _ => False
theorem of_cond {b : Bool} {p : Prop} (h : cond b p False) : b = true ∧ p := by
  cases b with
  | true => exact ⟨rfl, h⟩
  | false => exact h.elim
theorem run_bounds (b : Bool) {len cap : Nat} {lo hi : Option Value} {l h : Int} (hl : isLit lo 0 l) (hh : isLit hi len h) (h0 : 0 ≤ l) (h1 : l ≤ h) (h2 : h ≤ (cap : Int)) :
    (Instr.sliceBounds b len cap lo hi none).run P w = .ok (l.toNat, h.toNat, cap) w := by
  have e1 : ∀ (k : IntKind) c, (Instr.sliceBound (.int k h) cap c).run P w = .ok h.toNat w := fun k c => by
    simp [Instr.sliceBound, asIntOf, show (0 ≤ h ∧ h ≤ (cap : Int)) from ⟨by omega, h2⟩]
  have e2 : ∀ (k : IntKind) c, (Instr.sliceBound (.int k l) h.toNat c).run P w = .ok l.toNat w := fun k c => by
    simp [Instr.sliceBound, asIntOf, show (0 ≤ l ∧ l ≤ max h 0) from ⟨h0, by omega⟩]
  unfold Instr.sliceBounds
  cases lo with
  | none =>
    subst hl
    cases hi with
    | none => subst hh; simp
    | some v => obtain ⟨k, rfl⟩ := hh; simp [e1]
  | some u =>
    obtain ⟨k', rfl⟩ := hl
    cases hi with
    | none => subst hh; simp only [Int.toNat_natCast] at e2; simp [e2]
    | some v => obtain ⟨k, rfl⟩ := hh; simp [e1, e2]

theorem optI_T {dflt : Int} {s : Option SV} {z : Int} {v : Option Value} (h : optI dflt s = some z) (hs : optDen ρ w ok s v) : isLit v dflt z := by
  cases s with
  | none =>
    cases v with
    | none => simp [optI] at h; exact h.symm
    | some v => exact hs.elim
  | some s =>
    cases v with
    | none => exact hs.elim
    | some v =>
      simp only [optI] at h
      split at h
      · rename_i k n hn
        simp at h
        subst h
        exact ⟨k, asI_T hn hs⟩
      · cases h

theorem qSlice_sound (hB : ∀ i, H i = .dead ∨ BDen ρ w ok (H i) (ρ i) (F i)) (htb : TblOk P tbl) {t : Nat} {x : SV} {xv : Value} {lo hi : Option SV} {lv hv : Option Value} {K : SV → Prop} (h : qSlice tbl t x lo hi H K) (hx : TDen ρ w ok x xv)
    (hlo : optDen ρ w ok lo lv) (hhi : optDen ρ w ok hi hv) :
    ∃ sv v, K sv ∧ (Instr.sliceAt t xv lv hv none).run P w = .ok v w ∧ TDen ρ w ok sv v := by
  unfold qSlice at h
  split at h
  · exact h.elim
  rename_i i hi'
  have hk := htb _ _ hi'
  have slc : ∀ {ety esz eby : Nat} {a : Option Addr} {len cap : Nat} {l h : Int}, i.elem = some (ety, esz, eby) → isLit lv 0 l → isLit hv len h → 0 ≤ l → l ≤ h → h ≤ (cap : Int) →
      (Instr.sliceAt t (.slice a len cap) lv hv none).run P w = .ok (.slice (if cap = l.toNat then a else a.map (·.add (l.toNat * esz))) (h.toNat - l.toNat) (cap - l.toNat)) w := by
    intro ety esz eby a len cap l h hel h1 h2 h3 h4 h5
    obtain ⟨hu, hpos, inf, z, hinf, hsz, _⟩ := hk.elem _ _ _ hel
    have hsize : (sizeOf ety).run P w = .ok esz w := by simp [sizeOf, typeInfo, hinf, hsz]
    have hb := run_bounds (P := P) (w := w) true (len := len) (cap := cap) h1 h2 h3 h4 h5
    simp [Instr.sliceAt, Instr.slice, run_underlying hu, hb, hsize]
  split at h
  · rename_i sz rows
    split at h
    case h_2 => exact h.elim
    rename_i ety esz eby l hh hel hl hhh
    obtain ⟨hsz, ⟨h0, h1, h2⟩, hK⟩ := of_cond h
    clear h
    have := Nat.eq_of_beq_eq_true hsz
    subst this
    obtain ⟨a, n, c, xs, rfl, rfl, hc, hm, hr, hin, hrd⟩ := T_ro hx
    have h3 := optI_T hl hlo
    have h4 := optI_T hhh hhi
    refine ⟨_, _, hK, slc hel h3 h4 h0 h1 (by omega), T_of_den ?_⟩
    have hd := den_take_drop (off := l.toNat) (len := hh.toNat - l.toNat) hin hr
    refine .ro (by simp; omega) (by omega) (by omega) (fun r hr' => hr r (List.mem_of_mem_drop (List.mem_of_mem_take hr'))) hd (fun j x hj => ?_) .nil
    rw [List.getElem?_take] at hj
    split at hj
    case isFalse => cases hj
    rename_i hlt
    rw [List.getElem?_drop] at hj
    have hne : ¬ c = l.toNat := by
      intro e
      have : hh.toNat - l.toNat = 0 := by omega
      rw [this] at hlt
      omega
    rw [if_neg hne]
    obtain ⟨ad, rfl, hs, hb, hcell⟩ := hrd _ x hj
    exact ⟨_, rfl, add_spot _ _ hs, by rw [add_block]; exact hb, by rw [add_add]; exact hcell⟩
  · rename_i j
    obtain ⟨hxv, _⟩ := T_lw hx
    have main : ∀ {ty sz : Nat} {rows : List (List CV)} {xs : List Value} {l hh : Int} {ety esz eby : Nat}, w.ownsRow 0 ty sz xv rows.length xs → i.elem = some (ety, esz, eby) → optI 0 lo = some l → optI (rows.length : Int) hi = some hh → Nat.beq sz esz = true → SliceW j sz rows.length l hh K →
        ∃ sv v, K sv ∧ (Instr.sliceAt t xv lv hv none).run P w = .ok v w ∧ TDen ρ w ok sv v := by
      intro ty sz rows xs l hh ety esz eby ho hel hl hhh hsz hS
      have := Nat.eq_of_beq_eq_true hsz
      subst this
      have h3 := optI_T hl hlo
      have h4 := optI_T hhh hhi
      rcases row_form ho with ⟨rfl, hz, _⟩ | ⟨b, c, rfl, hc, hm⟩
      · cases hS with
        | some hb k => omega
        | none hb k =>
          rw [hz] at h4
          exact ⟨_, _, k, slc hel h3 h4 hb.1 (by omega) (by omega), T_of_den (.ro (by simp; omega) (by omega) (by simp [maxLen]) (by simp) .nil (fun j x hj => by simp at hj) .nil)⟩
      · cases hS with
        | some hb k =>
          refine ⟨_, _, k, slc hel h3 h4 hb.1 hb.2.1 (by omega), ?_⟩
          rw [if_neg (by omega)]
          simp only [Option.map_some, add_mk, Nat.zero_add]
          exact .v (.c (.ls hxv (by omega) (by omega) (by omega)))
        | none hb k =>
          exact ⟨_, _, k, slc hel h3 h4 hb.1 (by omega) (by omega), T_of_den (.ro (by simp; omega) (by omega) (by omega) (by simp) .nil (fun j x hj => by simp at hj) .nil)⟩
    split at h
    · rename_i o ty sz rows hj
      split at h
      case h_2 => exact h.elim
      rename_i ety esz eby l hh hel hl hhh
      obtain ⟨hsz, h⟩ := of_cond h
      obtain ⟨rv, xs, hrv, ho, _⟩ := B_row hB hj
      rw [hxv] at hrv
      injection hrv with hrv
      subst hrv
      exact main ho hel hl hhh hsz h
    · rename_i o ty sz rows hj
      split at h
      case h_2 => exact h.elim
      rename_i ety esz eby l hh hel hl hhh
      obtain ⟨hsz, h⟩ := of_cond h
      obtain ⟨rv, xs, f, hrv, ho, _⟩ := B_orow hB hj
      rw [hxv] at hrv
      injection hrv with hrv
      subst hrv
      exact main ho hel hl hhh hsz h
    · exact h.elim
  · rename_i s
    split at h
    case h_2 => exact h.elim
    rename_i l hh hl hhh
    cases hb : i.isS with
    | false => rw [hb] at h; exact h.elim
    | true =>
      rw [hb] at h
      obtain ⟨⟨h0, h1, h2⟩, hK⟩ := h
      have := den_val (CDen.of_T hx)
      subst this
      have hu := hk.isS hb
      have hbd := run_bounds (P := P) (w := w) false (len := s.size) (cap := s.size) (optI_T hl hlo) (optI_T hhh hhi) h0 h1 h2
      exact ⟨_, _, hK, by simp [Instr.sliceAt, Instr.slice, run_underlying hu, hbd], T_val rfl⟩
  · exact h.elim
end

/-! ### Owned memory, told as read -/
mutual
def roC : CV → CV
  | .own _ sz rows => .ro sz (roLL rows)
  | .ows _ sz rows => .ro sz rows
  | .op cells => .rp cells.length (roL cells)
  | x => x
def roL : List CV → List CV
  | [] => []
  | x :: xs => roC x :: roL xs
def roLL : List (List CV) → List (List CV)
  | [] => []
  | r :: rs => roL r :: roLL rs
end
theorem roL_map : ∀ l : List CV, roL l = l.map roC
  | [] => rfl
  | x :: xs => by simp only [roL, List.map_cons]; rw [roL_map xs]
theorem roLL_map : ∀ l : List (List CV), roLL l = l.map fun r => r.map roC
  | [] => rfl
  | r :: rs => by simp only [roLL, List.map_cons]; rw [roL_map, roLL_map rs]
theorem roLL_flat (l : List (List CV)) : (roLL l).flatten = l.flatten.map roC := by
  rw [roLL_map, List.map_flatten]

mutual
/-- numbers, strings and owned memory alone -/
def pureC : CV → Prop
  | .own _ _ rows => pureLL rows
  | .ows _ _ rows => pureLL rows
  | .op cells => pureL cells
  | .ro _ _ => False
  | .rp _ _ => False
  | _ => True
def pureL : List CV → Prop
  | [] => True
  | x :: xs => pureC x ∧ pureL xs
def pureLL : List (List CV) → Prop
  | [] => True
  | r :: rs => pureL r ∧ pureLL rs
end
theorem pureL_iff : ∀ {l : List CV}, pureL l ↔ ∀ x ∈ l, pureC x
  | [] => by simp [pureL]
  | x :: xs => by simp [pureL, pureL_iff (l := xs)]
theorem pureLL_iff : ∀ {l : List (List CV)}, pureLL l ↔ ∀ r ∈ l, ∀ x ∈ r, pureC x
  | [] => by simp [pureLL]
  | x :: xs => by simp [pureLL, pureLL_iff (l := xs), pureL_iff]

/-- what is owned can be read -/
theorem den_ro {w : World} {ok ok' : Nat → Prop} {cs : List CV} {vs : List Value} {f : List Nat} (h : Den w ok cs vs f) (hok : ∀ b, ok b → ok' b) (hf : ∀ b ∈ f, ok' b) : Den w ok' (cs.map roC) vs [] := by
  induction h with
  | nil => exact .nil
  | any h1 _ ih => exact .any h1 (ih hf)
  | val h1 _ ih => exact .val h1 (ih hf)
  | cb _ ih => exact .cb (ih hf)
  | ro hn hc hm hr hin hrd _ ihin ih => exact .ro hn hc hm hr (hin.mono (fun _ _ => rfl) hok (by simp)) (hrd.mono (fun _ _ => rfl) hok) (ih hf)
  | rp hl hin hs hrd _ ihin ih => exact .rp hl (hin.mono (fun _ _ => rfl) hok (by simp)) hs (hrd.mono (fun _ _ => rfl) hok) (ih hf)
  | @own as vs f ty sz rows xs v g hin hr ho _ ihin ih =>
    have h1 := ihin fun b hb => hf b (by simp [hb])
    have h2 := ih fun b hb => hf b (by simp [hb])
    have hr' : ∀ r ∈ roLL rows, r.length = sz := by
      rw [roLL_map]
      intro r hr0
      obtain ⟨r0, h0, rfl⟩ := List.mem_map.1 hr0
      simpa using hr r0 h0
    have hlen : (roLL rows).length = rows.length := by rw [roLL_map]; simp
    rw [← roLL_flat] at h1
    simp only [List.map_cons, roC]
    rcases row_form ho with ⟨rfl, hz, hxs⟩ | ⟨b, c, rfl, hc, hm⟩
    · subst hxs
      exact .ro (by omega) (Nat.le_refl _) (by simp [maxLen]) hr' h1 (fun j x hx => by simp at hx) h2
    · refine .ro hlen hc hm hr' h1 (fun j x hx => ⟨_, rfl, rfl, hf b (by simp [Value.ownBlock]), ?_⟩) h2
      exact (row_at ho rfl).1 j x hx
  | @ows as vs f ty sz rows xs v hin hr ho _ ihin ih =>
    have h1 := hin.mono (w' := w) (fun _ _ => rfl) hok (by simp)
    have h2 := ih fun b hb => hf b (by simp [hb])
    simp only [List.map_cons, roC]
    rcases row_form ho with ⟨rfl, hz, hxs⟩ | ⟨b, c, rfl, hc, hm⟩
    · subst hxs
      exact .ro (by omega) (Nat.le_refl _) (by simp [maxLen]) hr h1 (fun j x hx => by simp at hx) h2
    · refine .ro rfl hc hm hr h1 (fun j x hx => ⟨_, rfl, rfl, hf b (by simp [Value.ownBlock]), ?_⟩) h2
      exact (row_at ho rfl).1 j x hx
  | @op as vs f ty cells b g arr hb hin _ ihin ih =>
    have h1 := ihin fun c hc => hf c (by simp [hc])
    have h2 := ih fun c hc => hf c (by simp [hc])
    simp only [List.map_cons, roC, roL_map]
    refine .rp (by simp) h1 rfl (fun j x hx => ⟨_, rfl, rfl, hf b (by simp), ?_⟩) h2
    exact arr_at hb j x hx
/-- what is owned alone does not hang on what may be read -/
theorem den_pure {w : World} {ok ok' : Nat → Prop} {cs : List CV} {vs : List Value} {f : List Nat} (h : Den w ok cs vs f) (hp : ∀ x ∈ cs, pureC x) : Den w ok' cs vs f := by
  have flat : ∀ {rows : List (List CV)}, pureLL rows → ∀ x ∈ rows.flatten, pureC x := by
    intro rows h0 x hx
    obtain ⟨r, hr1, hx1⟩ := List.mem_flatten.1 hx
    exact pureLL_iff.1 h0 r hr1 x hx1
  induction h with
  | nil => exact .nil
  | any h1 _ ih => exact .any h1 (ih fun x hx => hp x (by simp [hx]))
  | val h1 _ ih => exact .val h1 (ih fun x hx => hp x (by simp [hx]))
  | cb _ ih => exact .cb (ih fun x hx => hp x (by simp [hx]))
  | ro _ _ _ _ _ _ _ _ _ => have h0 := hp _ (List.mem_cons_self); simp only [pureC] at h0
  | rp _ _ _ _ _ _ _ => have h0 := hp _ (List.mem_cons_self); simp only [pureC] at h0
  | own hin hr ho _ ihin ih =>
    have h0 := hp _ (List.mem_cons_self)
    simp only [pureC] at h0
    exact .own (ihin (flat h0)) hr ho (ih fun x hx => hp x (by simp [hx]))
  | ows hin hr ho _ ihin ih =>
    have h0 := hp _ (List.mem_cons_self)
    simp only [pureC] at h0
    exact .ows (ihin (flat h0)) hr ho (ih fun x hx => hp x (by simp [hx]))
  | op hb hin _ ihin ih =>
    have h0 := hp _ (List.mem_cons_self)
    simp only [pureC] at h0
    exact .op hb (ihin (pureL_iff.1 h0)) (ih fun x hx => hp x (by simp [hx]))
end Go.KA
