/- Part of a proof engine for functions of the given program: what an operation, a loop and a call compute, symbolically. No conditions. -/
import Derived.Test.YtceijpfmaofhpaaEngG
namespace Go.KA
open Go Go.RowKit

theorem foldl_list (off : Nat) : ∀ (l : List Value) (k : Nat) (cells : List Value), off + k + l.length ≤ cells.length →
    (l.zipIdx k).foldl (fun cs p => cs.set (off + p.2) p.1) cells = cells.take (off + k) ++ l ++ cells.drop (off + k + l.length)
  | [], k, cells, _ => by simp
  | x :: l, k, cells, h => by
    simp only [List.length_cons] at h
    simp only [List.zipIdx_cons, List.foldl_cons]
    rw [foldl_list off l (k + 1) _ (by simp; omega)]
    have h1 : (cells.set (off + k) x).take (off + (k + 1)) = cells.take (off + k) ++ [x] := by
      rw [show off + (k + 1) = off + k + 1 by omega, List.take_add_one]
      rw [List.take_set_of_le (Nat.le_refl _), List.getElem?_set_self (by omega)]
      rfl
    have h2 : (cells.set (off + k) x).drop (off + (k + 1) + l.length) = cells.drop (off + k + (x :: l).length) := by
      rw [List.drop_set_of_lt (by omega)]
      congr 1
      simp
      omega
    rw [h1, h2]
    simp

theorem foldl_arr (off : Nat) (cells : Array Value) (l : List (Value × Nat)) : (l.foldl (fun cs p => cs.setIfInBounds (off + p.2) p.1) cells).toList = l.foldl (fun cs p => cs.set (off + p.2) p.1) cells.toList := by
  induction l generalizing cells with
  | nil => rfl
  | cons p l ih => simp only [List.foldl_cons]; rw [ih]; simp

theorem foldl_splice (off : Nat) (cells vs : Array Value) (h : off + vs.size ≤ cells.size) :
    (vs.zipIdx.foldl (fun cs (c, j) => cs.setIfInBounds (off + j) c) cells).toList = splice cells.toList off vs.toList := by
  have e : vs.zipIdx.foldl (fun cs (c, j) => cs.setIfInBounds (off + j) c) cells = (vs.toList.zipIdx 0).foldl (fun cs p => cs.setIfInBounds (off + p.2) p.1) cells := by
    rw [← Array.foldl_toList, Array.toList_zipIdx]
  rw [e, foldl_arr, foldl_list off vs.toList 0 cells.toList (by simpa using h)]
  simp [splice]

section
variable {P : Program} {tbl : TT} {Γ : Cx} {nt : Nat} {T : TM} {H : List Blk} {ρ : List Value} {F : Nat → List Nat} {a : Act} {w : World}

theorem fill_cons {place : Nat → Option (Nat × Nat)} {cells : Array Value} {i : Nat} {v : Value} {rest : List (Nat × Value)} {off : Nat} (hp : place i = some (off, v.cells.size)) (hfit : off + v.cells.size ≤ cells.size) :
    ∃ cells', cells'.toList = splice cells.toList off v.cells.toList ∧ Instr.fill place cells ((i, v) :: rest) = Instr.fill place cells' rest := by
  refine ⟨_, foldl_splice off cells v.cells hfit, ?_⟩
  simp [Instr.fill, hp, show ¬ cells.size < off + v.cells.size by omega]

/-- parts of a literal, abstract and true -/
def PartsOk (ρ : List Value) (w : World) (ok : Nat → Prop) (ps : List (Nat × SV)) (vs : List (Nat × Value)) : Prop :=
  ps.length = vs.length ∧ ∀ (j : Nat) p v, ps[j]? = some p → vs[j]? = some v → p.1 = v.1 ∧ TDen ρ w ok p.2 v.2

theorem PartsOk.tail {ρ : List Value} {w : World} {ok : Nat → Prop} {p : Nat × SV} {ps : List (Nat × SV)} {v : Nat × Value} {vs : List (Nat × Value)} (h : PartsOk ρ w ok (p :: ps) (v :: vs)) : PartsOk ρ w ok ps vs :=
  ⟨by simpa using h.1, fun j a b ha hb => h.2 (j + 1) a b ha hb⟩

theorem fillS_sound {fields : List (Nat × Nat × Nat)} {ok : Nat → Prop} : ∀ {ps : List (Nat × SV)} {vs : List (Nat × Value)} {cells : List SV} {arr : Array Value} {cs : List SV},
    fillS fields cells ps = some cs → PW (CDen ρ w ok) cells arr.toList → PartsOk ρ w ok ps vs →
    ∃ arr', Instr.fill ((fields.map fun x => (x.1, x.2.2)).toArray[·]?) arr vs = some arr' ∧ PW (CDen ρ w ok) cs arr'.toList
  | [], vs, cells, arr, cs, h, hp, hq => by
    simp [fillS] at h
    subst h
    cases vs with
    | nil => exact ⟨arr, rfl, hp⟩
    | cons _ _ => exact absurd hq.1 (by simp)
  | (i, s) :: ps, vs, cells, arr, cs, h, hp, hq => by
    cases vs with
    | nil => exact absurd hq.1 (by simp)
    | cons u vs =>
      obtain ⟨i', v⟩ := u
      obtain ⟨e, hT⟩ := hq.2 0 _ _ rfl rfl
      simp only at e hT
      subst e
      have htl := hq.tail
      simp only [fillS] at h
      split at h
      · cases h
      · rename_i off ft sz hf
        have hplace : ((fields.map fun x => (x.1, x.2.2)).toArray[i]? : Option (Nat × Nat)) = some (off, sz) := by simp [hf]
        obtain ⟨ca, cc, cm, c1⟩ := cells_of_T hT
        have step : ∀ (xs : List SV), PW (CDen ρ w ok) xs v.cells.toList → xs.length = sz → off + xs.length ≤ cells.length → fillS fields (splice cells off xs) ps = some cs →
            ∃ arr', Instr.fill ((fields.map fun x => (x.1, x.2.2)).toArray[·]?) arr ((i, v) :: vs) = some arr' ∧ PW (CDen ρ w ok) cs arr'.toList := by
          intro xs hx hl hfit hh
          have hsz : v.cells.size = sz := by have := hx.1; simp at this; omega
          have hcl : cells.length = arr.size := by rw [hp.1]; simp
          obtain ⟨arr1, h1, h2⟩ := fill_cons (place := ((fields.map fun x => (x.1, x.2.2)).toArray[·]?)) (cells := arr) (i := i) (v := v) (rest := vs) (off := off) (by rw [hplace, hsz]) (by omega)
          obtain ⟨arr', h3, h4⟩ := fillS_sound (arr := arr1) hh (by rw [h1]; exact hp.splice hx off) htl
          exact ⟨arr', by rw [h2]; exact h3, h4⟩
        split at h
        · rename_i n cs'
          obtain ⟨hn, hd⟩ := ca _ _ rfl
          cases hb : (Nat.beq n sz && Nat.ble (off + n) cells.length) with
          | false => rw [hb] at h; cases h
          | true =>
            rw [hb] at h
            simp only [Bool.and_eq_true] at hb
            have e1 := Nat.eq_of_beq_eq_true hb.1
            have e2 := Nat.le_of_ble_eq_true hb.2
            exact step _ (PW.of_den hd) (by simp; omega) (by simp; omega) h
        · rename_i cs'
          have hd := cm _ rfl
          cases hb : (Nat.beq cs'.length sz && Nat.ble (off + cs'.length) cells.length) with
          | false => rw [hb] at h; cases h
          | true =>
            rw [hb] at h
            simp only [Bool.and_eq_true] at hb
            have e1 := Nat.eq_of_beq_eq_true hb.1
            have e2 := Nat.le_of_ble_eq_true hb.2
            exact step _ hd e1 e2 h
        · cases hb : (isOne s && (Nat.beq 1 sz && Nat.blt off cells.length)) with
          | false => rw [hb] at h; cases h
          | true =>
            rw [hb] at h
            simp only [Bool.and_eq_true] at hb
            have hd := c1 hb.1
            have e1 := Nat.eq_of_beq_eq_true hb.2.1
            have e2 : off < cells.length := by have := hb.2.2; rwa [Nat.blt_eq] at this
            exact step _ hd (by simpa using e1) (by simp; omega) h

theorem eBuild_sound (htb : TblOk P tbl) (hS : St Γ nt T H ρ F a w) {t : Nat} {ps : List (Nat × SV)} {vs : Array (Nat × Value)} {K : SV → TM → List Blk → Prop} (h : eBuild tbl t ps T H K)
    (hp : PartsOk ρ w (okOf Γ H F w) ps vs.toList) : Ran Γ nt a K ((Instr.build t vs).run P w) := by
  unfold eBuild at h
  split at h
  · exact h.elim
  rename_i i hi
  have hk := htb _ _ hi
  cases hemp : i.fields.isEmpty with
  | true => rw [hemp] at h; exact h.elim
  | false =>
  rw [hemp] at h
  simp only [cond] at h
  split at h
  case h_2 => exact h.elim
  rename_i cs hcs
  obtain ⟨inf, z, hinf, hz, hzc, hsz, _, hone⟩ := hk.zero
  obtain ⟨ρ1, F1, h1, h2, h3, h4⟩ := St.nils i.zero hS
  have hne : i.fields ≠ [] := by intro e; rw [e] at hemp; cases hemp
  obtain ⟨fs, hu, hpl⟩ := hk.places hne
  have hp' : PartsOk ρ1 w (okOf Γ (H ++ zRows i.zero) F1 w) ps vs.toList := ⟨hp.1, fun j p v hpj hvj => by
    obtain ⟨e, hT⟩ := hp.2 j p v hpj hvj
    exact ⟨e, (hT.mono (fun _ _ => rfl) h2).ext h3⟩⟩
  obtain ⟨arr', g1, g2⟩ := fillS_sound (arr := z.cells) hcs ⟨by rw [zlen, hzc]; simp, fun j s v hs hv => by
    rw [hzc] at hv
    exact h4 _ j s v hs hv hone⟩ hp'
  have hb : P.built t vs.toList = some arr' := by
    unfold Program.built
    simp only [hinf, hu, hz, hpl]
    exact g1
  exact ⟨_, _, _, ρ1, F1, _, _, h, run_build w t vs arr' hb, h1, by simpa using outV_sound g2.1 g2.2⟩


/-! ### Giving rows up -/
theorem frz1_sound (hS : St Γ nt T H ρ F a w) {k : Nat} {args args' : List SV} {T' : TM} {H' : List Blk} (h : frz1 k args T H = some (args', T', H')) {vs : List Value} (hl : args.length = vs.length)
    (hv : ∀ (j : Nat) s v, args[j]? = some s → vs[j]? = some v → TDen ρ w (okOf Γ H F w) s v) :
    ∃ F', St Γ nt T' H' ρ F' a w ∧ args'.length = vs.length ∧ ∀ (j : Nat) s v, args'[j]? = some s → vs[j]? = some v → TDen ρ w (okOf Γ H' F' w) s v := by
  unfold frz1 at h
  split at h
  · rename_i ty sz rows hk
    simp only [Option.some.injEq, Prod.mk.injEq] at h
    obtain ⟨rfl, rfl, rfl⟩ := h
    obtain ⟨h1, h2⟩ := hS.mem.freeze hk
    refine ⟨_, ⟨h1, hS.defers, hS.nt, fun i => h2 _ _ (hS.tmps i)⟩, by simpa using hl, fun j s v hs hu => ?_⟩
    obtain ⟨s0, h0, rfl⟩ := map_get hs
    exact h2 _ _ (hv j s0 v h0 hu)
  · cases h

theorem frzAll_sound : ∀ (ks : List Nat) {T T' : TM} {H H' : List Blk} {F : Nat → List Nat} {args args' : List SV} {vs : List Value}, St Γ nt T H ρ F a w → frzAll ks args T H = some (args', T', H') → args.length = vs.length →
    (∀ (j : Nat) s v, args[j]? = some s → vs[j]? = some v → TDen ρ w (okOf Γ H F w) s v) →
    ∃ F', St Γ nt T' H' ρ F' a w ∧ args'.length = vs.length ∧ ∀ (j : Nat) s v, args'[j]? = some s → vs[j]? = some v → TDen ρ w (okOf Γ H' F' w) s v
  | [], T, T', H, H', F, args, args', vs, hS, h, hl, hv => by
    simp only [frzAll, Option.some.injEq, Prod.mk.injEq] at h
    obtain ⟨rfl, rfl, rfl⟩ := h
    exact ⟨F, hS, hl, hv⟩
  | k :: ks, T, T', H, H', F, args, args', vs, hS, h, hl, hv => by
    simp only [frzAll] at h
    split at h
    · rename_i a1 T1 H1 h1
      obtain ⟨F1, g1, g2, g3⟩ := frz1_sound hS h1 hl hv
      exact frzAll_sound ks g1 h g2 g3
    · cases h

/-! ### Slice literals -/
theorem closedCells_sound {ok : Nat → Prop} {sz : Nat} {s : SV} {l : List CV} {v : Value} (h : closedCells sz s = some l) (hT : TDen ρ w ok s v) : Den w ok l v.cells.toList [] ∧ l.length = sz ∧ v.cells.size = sz := by
  obtain ⟨ca, cc, cm, c1⟩ := cells_of_T hT
  unfold closedCells at h
  split at h
  · rename_i n cs
    obtain ⟨hn, hd⟩ := ca _ _ rfl
    cases hb : Nat.beq n sz with
    | false => rw [hb] at h; cases h
    | true =>
      rw [hb] at h
      injection h with h
      subst h
      have e1 := Nat.eq_of_beq_eq_true hb
      have := hd.length
      simp at this
      exact ⟨hd, by omega, by omega⟩
  · rename_i x
    have hd := cc _ rfl
    cases hb : Nat.beq 1 sz with
    | false => rw [hb] at h; cases h
    | true =>
      rw [hb] at h
      injection h with h
      subst h
      have e1 := Nat.eq_of_beq_eq_true hb
      have := hd.length
      simp at this
      exact ⟨hd, by simpa using e1, by omega⟩
  · rename_i cs
    have hd := cm _ rfl
    split at h
    · rename_i l' hl'
      obtain ⟨h1, h2⟩ := allC_sound hl' hd.1 hd.2
      cases hb : Nat.beq l'.length sz with
      | false => rw [hb] at h; cases h
      | true =>
        rw [hb] at h
        injection h with h
        subst h
        have e1 := Nat.eq_of_beq_eq_true hb
        have := h1.length
        simp at this
        exact ⟨h1, e1, by omega⟩
    · cases h
  · cases h

theorem rowsOf_sound {ok : Nat → Prop} {sz : Nat} (hsz : 0 < sz) : ∀ {ps : List (Nat × SV)} {n : Nat} {vs : List (Nat × Value)} {rows : List (List CV)} {arr : Array Value} {xs : List Value} {pre : List CV},
    rowsOf sz n ps = some rows → PartsOk ρ w ok ps vs → n * sz ≤ arr.size → arr.toList.take (n * sz) = xs → Den w ok pre xs [] → (n + ps.length) * sz ≤ arr.size →
    ∃ arr' xs', Instr.fill (fun i => some (i * sz, sz)) arr vs = some arr' ∧ arr'.size = arr.size ∧ arr'.toList.take ((n + ps.length) * sz) = xs' ∧ Den w ok (pre ++ rows.flatten) xs' [] ∧ rows.length = ps.length ∧ ∀ r ∈ rows, r.length = sz
  | [], n, vs, rows, arr, xs, pre, h, hq, _, htk, hd, _ => by
    simp [rowsOf] at h
    subst h
    cases vs with
    | nil => exact ⟨arr, xs, rfl, rfl, by simpa using htk, by simpa using hd, rfl, by simp⟩
    | cons _ _ => exact absurd hq.1 (by simp)
  | (i, s) :: ps, n, vs, rows, arr, xs, pre, h, hq, hn, htk, hd, hfit => by
    cases vs with
    | nil => exact absurd hq.1 (by simp)
    | cons u vs =>
      obtain ⟨i', v⟩ := u
      obtain ⟨e, hT⟩ := hq.2 0 _ _ rfl rfl
      simp only at e hT
      subst e
      simp only [rowsOf] at h
      cases hb : Nat.beq i n with
      | false => rw [hb] at h; cases h
      | true =>
        rw [hb] at h
        have := Nat.eq_of_beq_eq_true hb
        subst this
        simp only [cond] at h
        split at h
        · rename_i r rs hr hrs
          injection h with h
          subst h
          obtain ⟨h1, h2, h3⟩ := closedCells_sound hr hT
          have hlen : (i + (ps.length + 1)) * sz = i * sz + sz + ps.length * sz := by rw [Nat.add_mul, Nat.succ_mul]; omega
          simp only [List.length_cons] at hfit
          obtain ⟨arr1, g1, g2⟩ := fill_cons (place := fun i => some (i * sz, sz)) (cells := arr) (i := i) (v := v) (rest := vs) (off := i * sz) (by rw [h3]) (by rw [h3]; omega)
          have hs1 : arr1.size = arr.size := by
            rw [← Array.length_toList, g1, splice_len (by simp; omega), Array.length_toList]
          have htk1 : arr1.toList.take ((i + 1) * sz) = xs ++ v.cells.toList := by
            rw [g1, ← htk]
            unfold splice
            rw [Nat.succ_mul, List.take_append, List.take_append, List.length_append, List.length_take]
            simp only [Array.length_toList]
            rw [show min (i * sz) arr.size = i * sz by omega, List.take_of_length_le (l := List.take (i * sz) arr.toList) (by simp; omega), List.take_of_length_le (l := v.cells.toList) (by simp; omega),
              show i * sz + sz - (i * sz + v.cells.size) = 0 by omega]
            simp
          obtain ⟨arr', xs', k1, k2, k3, k4, k5, k6⟩ := rowsOf_sound hsz (arr := arr1) (pre := pre ++ r) hrs hq.tail (by rw [hs1, Nat.succ_mul]; omega) htk1 (by simpa using hd.append h1)
            (by rw [hs1, show i + 1 + ps.length = i + (ps.length + 1) by omega]; exact hfit)
          refine ⟨arr', xs', by rw [g2]; exact k1, by rw [k2, hs1], ?_, ?_, by simp [k5], ?_⟩
          · rw [← k3, show i + 1 + ps.length = i + ((i, s) :: ps).length by simp; omega]
          · simpa using k4
          · intro q hq'
            simp only [List.mem_cons] at hq'
            rcases hq' with rfl | hq'
            · exact h2
            · exact k6 q hq'
        · cases h

theorem St.pushRow (hS : St Γ nt T H ρ F a w) {ty sz : Nat} {rows : List (List CV)} {arr : Array Value} {cap : Nat} {xs : List Value} (hc : rows.length ≤ cap) (hm : cap ≤ maxLen) (hs : arr.size = cap * sz)
    (htk : arr.toList.take (rows.length * sz) = xs) (hr : ∀ r ∈ rows, r.length = sz) (hd : Den w (okOf Γ H F w) rows.flatten xs []) :
    ∃ ρ' F', St Γ nt T (H ++ [.row ty sz rows]) ρ' F' a (w.alloc (.cells arr ty)) ∧ TDen ρ' (w.alloc (.cells arr ty)) (okOf Γ (H ++ [.row ty sz rows]) F' (w.alloc (.cells arr ty))) (.lw H.length) (.slice (some ⟨w.heap.size, 0, none⟩) rows.length cap) := by
  have hb := below_alloc w (.cells arr ty)
  obtain ⟨h1, h2⟩ := hS.push hb (k := .row ty sz rows) (v := .slice (some ⟨w.heap.size, 0, none⟩) rows.length cap) (f := [w.heap.size]) (by simp) (by simp)
    (by
      have : BDen (ρ ++ [.slice (some ⟨w.heap.size, 0, none⟩) rows.length cap]) (w.alloc (.cells arr ty)) (okOf Γ H F w) (.row ty sz rows) (.slice (some ⟨w.heap.size, 0, none⟩) rows.length cap) (Value.slice (some ⟨w.heap.size, 0, none⟩) rows.length cap).ownBlock.toList := by
        refine .row (xs := xs) ⟨?_, .inr ⟨w.heap.size, cap, arr, rfl, Nat.zero_le _, alloc_new w _, hc, hm, hs, htk⟩⟩ hr (hd.mono (fun b hb' => hb.block b hb'.1) (fun _ h => h) (by simp))
        rw [← hd.length, flatten_len hr]
      exact this)
  exact ⟨_, _, h1, .v (.c (.lw (by rw [← hS.mem.len]; simp)))⟩

theorem zipFst : ∀ (ps : List (Nat × SV)) (vs : List SV), ps.length = vs.length → ((ps.map (·.1)).zip vs).length = ps.length := by
  intro ps vs h; simp [h]

theorem eBuildSlice_sound (htb : TblOk P tbl) (hS : St Γ nt T H ρ F a w) {t len : Nat} {ps : List (Nat × SV)} {vs : Array (Nat × Value)} {K : SV → TM → List Blk → Prop} (h : eBuildSlice tbl t len ps T H K)
    (hp : PartsOk ρ w (okOf Γ H F w) ps vs.toList) : Ran Γ nt a K ((Instr.buildSlice t len vs).run P w) := by
  unfold eBuildSlice at h
  split at h
  · exact h.elim
  rename_i i hi
  have hk := htb _ _ hi
  split at h
  · exact h.elim
  rename_i ety esz eby hel
  obtain ⟨hu, hpos, inf, z, hinf, hsz, hby, hz, hzs⟩ := hk.elem _ _ _ hel
  split at h
  · exact h.elim
  rename_i args' T' H' hfz
  obtain ⟨F', h1, h2, h3⟩ := frzAll_sound (vs := vs.toList.map (·.2)) _ hS hfz (by simpa using hp.1) fun j s v hs hv => by
    rw [List.getElem?_map] at hs hv
    cases hc : ps[j]? with
    | none => simp [hc] at hs
    | some p =>
      cases hd : vs.toList[j]? with
      | none => simp [hd] at hv
      | some u =>
        simp [hc] at hs
        simp [hd] at hv
        subst hs hv
        exact (hp.2 j p u hc hd).2
  split at h
  · exact h.elim
  rename_i rows hrows
  cases hb : (Nat.beq rows.length len && (Nat.beq ps.length len && Nat.ble (len * esz) 16777216)) with
  | false => rw [hb] at h; exact h.elim
  | true =>
    rw [hb] at h
    simp only [Bool.and_eq_true] at hb
    have e1 := Nat.eq_of_beq_eq_true hb.1
    have e2 := Nat.eq_of_beq_eq_true hb.2.1
    have e3 := Nat.le_of_ble_eq_true hb.2.2
    have hal : args'.length = ps.length := by rw [h2]; simpa using hp.1.symm
    have hparts : PartsOk ρ w (okOf Γ H' F' w) ((ps.map (·.1)).zip args') vs.toList := by
      refine ⟨by rw [zipFst _ _ hal.symm]; exact hp.1, fun j p v hpj hvj => ?_⟩
      rw [List.getElem?_zip_eq_some] at hpj
      obtain ⟨hp1, hp2⟩ := hpj
      rw [List.getElem?_map] at hp1
      cases hc : ps[j]? with
      | none => simp [hc] at hp1
      | some q =>
        simp [hc] at hp1
        exact ⟨by rw [← hp1]; exact (hp.2 j q v hc hvj).1, h3 j _ v.2 hp2 (by simp [hvj])⟩
    generalize hZ : (Array.range (len * esz)).map ((if len * esz = 0 then #[] else z.cells)[· % (if len * esz = 0 then #[] else z.cells).size]!) = arr0
    have hsize0 : arr0.size = len * esz := by rw [← hZ]; simp
    obtain ⟨arr', xs', k1, k2, k3, k4, k5, k6⟩ := rowsOf_sound hpos (arr := arr0) (pre := []) (n := 0) (xs := []) hrows hparts (by simp) (by simp) .nil (by rw [zipFst _ _ hal.symm, hsize0, Nat.zero_add, e2]; exact Nat.le_refl _)
    rw [zipFst _ _ hal.symm] at k3 k5
    have hmax : len ≤ maxLen := by
      have := Nat.le_mul_of_pos_right len hpos
      simp only [maxLen]
      omega
    obtain ⟨ρ1, F1, g1, g2⟩ := h1.pushRow (ty := ety) (sz := esz) (rows := rows) (arr := arr') (cap := len) (xs := xs') (by omega) hmax (by rw [k2, hsize0]) (by rw [← k3, k5, Nat.zero_add]) k6 (by simpa using k4)
    refine ⟨_, _, _, ρ1, F1, _, _, h, ?_, g1, by rw [k5, e2] at g2; exact g2⟩
    have hlt : ¬ 2 ^ 24 < len * esz := by omega
    simp only [Instr.buildSlice, Sem.run_bind, run_underlying hu, Result.andThen_ok]
    have hsize : (sizeOf ety).run P w = .ok esz w := by simp [sizeOf, typeInfo, hinf, hsz]
    rw [hsize]
    simp only [Result.andThen_ok]
    rw [if_neg hlt]
    simp only [pure_bind]
    by_cases h0 : len * esz = 0
    · rw [if_pos h0] at hZ ⊢
      rw [hZ, k1]
      simp [newRow]
    · rw [if_neg h0] at hZ ⊢
      have hzv : (zeroValue ety).run P w = .ok z w := by simp [zeroValue, typeInfo, hinf, hz]
      simp only [Sem.run_bind, hzv, Result.andThen_ok]
      rw [hZ, k1]
      simp [newRow]

end
end Go.KA
