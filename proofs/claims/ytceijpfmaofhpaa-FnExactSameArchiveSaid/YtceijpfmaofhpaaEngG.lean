/- Part of a proof engine for functions of the given program: what an operation, a loop and a call compute, symbolically. No conditions. -/
import Derived.Test.YtceijpfmaofhpaaEngF
namespace Go.KA
open Go Go.RowKit

section
variable {P : Program} {tbl : TT} {Γ : Cx} {nt : Nat} {T : TM} {H : List Blk} {ρ : List Value} {F : Nat → List Nat} {a : Act} {w : World}

def Ran (Γ : Cx) (nt : Nat) (a : Act) (K : SV → TM → List Blk → Prop) (r : Result Value) : Prop :=
  ∃ sv T' H' ρ' F' v w', K sv T' H' ∧ r = .ok v w' ∧ St Γ nt T' H' ρ' F' a w' ∧ TDen ρ' w' (okOf Γ H' F' w') sv v

theorem Ran.quiet (hS : St Γ nt T H ρ F a w) {K : SV → TM → List Blk → Prop} {r : Result Value} (h : ∃ sv v, K sv T H ∧ r = .ok v w ∧ TDen ρ w (okOf Γ H F w) sv v) : Ran Γ nt a K r := by
  obtain ⟨sv, v, hK, hr, hT⟩ := h
  exact ⟨sv, T, H, ρ, F, v, w, hK, hr, hS, hT⟩

theorem St.grow (hS : St Γ nt T H ρ F a w) {w' : World} (hb : Below w.heap.size w w') : St Γ nt T H ρ F a w' :=
  ⟨hS.mem.grow hb, hS.defers, hS.nt, fun i => (hS.tmps i).mono (hS.mem.same hb) fun _ h => okOf_grow hb.size h⟩

theorem St.push (hS : St Γ nt T H ρ F a w) {w' : World} (hb : Below w.heap.size w w') {k : Blk} {v : Value} {f : List Nat}
    (hf : ∀ b ∈ f, w.heap.size ≤ b ∧ b < w'.heap.size) (hn : f.Nodup) (hk : BDen (ρ ++ [v]) w' (okOf Γ H F w) k v f) :
    St Γ nt T (H ++ [k]) (ρ ++ [v]) (updF F H.length f) a w' ∧ ∀ b, okOf Γ H F w b → okOf Γ (H ++ [k]) (updF F H.length f) w' b := by
  obtain ⟨h1, h2⟩ := hS.mem.push hb hf hn hk
  exact ⟨⟨h1, hS.defers, hS.nt, fun i => ((hS.tmps i).mono (hS.mem.same hb) h2).ext (ext_append _ _)⟩, h2⟩

/-- new nil rows -/
theorem St.nils : ∀ (zs : List ZC) {H : List Blk} {ρ : List Value} {F : Nat → List Nat}, St Γ nt T H ρ F a w → ∃ ρ' F', St Γ nt T (H ++ zRows zs) ρ' F' a w ∧ (∀ b, okOf Γ H F w b → okOf Γ (H ++ zRows zs) F' w b) ∧ (∀ (i : Nat) v, ρ[i]? = some v → ρ'[i]? = some v) ∧
      (∀ ok, ∀ (j : Nat) s v, (zCells zs H.length)[j]? = some s → (zs.map ZC.val)[j]? = some v → (∀ z ∈ zs, z.val.oneCell' = true) → CDen ρ' w ok s v)
  | [], H, ρ, F, hS => ⟨ρ, F, by simpa [zRows] using hS, fun b h => by simpa [zRows] using h, fun _ _ h => h, fun ok j s v h => by simp [zCells] at h⟩
  | .v x :: zs, H, ρ, F, hS => by
    obtain ⟨ρ', F', h1, h2, h3, h4⟩ := St.nils zs hS
    refine ⟨ρ', F', h1, h2, h3, fun ok j s v hs hv hz => ?_⟩
    cases j with
    | zero =>
      simp [zCells] at hs
      simp [ZC.val] at hv
      subst hs hv
      exact .c (.val (hz (.v x) (by simp)) .nil)
    | succ j => exact h4 ok j s v (by simpa [zCells] using hs) (by simpa using hv) fun z hz' => hz z (by simp [hz'])
  | .s ety esz :: zs, H, ρ, F, hS => by
    obtain ⟨g1, g2⟩ := hS.push (w' := w) (Below.refl _ _) (k := .row ety esz []) (v := .slice none 0 0) (f := []) (by simp) (by simp)
      (.row (World.ownsRow_nil w 0 ety esz) (by simp) .nil)
    obtain ⟨ρ', F', h1, h2, h3, h4⟩ := St.nils zs g1
    refine ⟨ρ', F', by simpa [zRows] using h1, fun b hb => by simpa [zRows] using h2 b (g2 b hb), fun i v hv => h3 i v (ext_append _ _ i v hv), fun ok j s v hs hv hz => ?_⟩
    cases j with
    | zero =>
      simp [zCells] at hs
      simp [ZC.val] at hv
      subst hs hv
      refine .lw (h3 _ _ ?_)
      rw [← hS.mem.len]
      simp
    | succ j => exact h4 ok j s v (by simpa [zCells] using hs) (by simpa using hv) fun z hz' => hz z (by simp [hz'])

theorem ev_sound (hS : St Γ nt T H ρ F a w) (x : Operand) : TDen ρ w (okOf Γ H F w) (ev T x) (a.eval x) := by
  cases x with
  | tmp t => exact hS.tmps t
  | global g => exact .any
  | func f => exact .v (.clo (k := f) (cs := []) (vs := []) rfl (by simp))
  | const v =>
    simp only [ev, Act.eval]
    unfold constS
    split
    · exact T_of_den (.cb .nil)
    · exact .any
    · exact .any
    · rename_i f x y
      split
      · rename_i h1 h2
        have e1 : x = #[] := by simpa using h1
        have e2 : y = #[] := by simpa using h2
        subst e1 e2
        exact .v (.clo (k := f) (cs := []) (vs := []) rfl (by simp))
      · exact .any
    · rename_i h1 h2 h3 h4
      refine T_of_den (.val ?_ .nil)
      cases v <;> first | rfl | (exact absurd rfl (h2 _)) | (exact absurd rfl (h3 _))

theorem zlen (zs : List ZC) (n : Nat) : (zCells zs n).length = zs.length := by
  induction zs generalizing n with
  | nil => rfl
  | cons z zs ih => cases z <;> simp [zCells, ih]

theorem allC_sound {w : World} {ok : Nat → Prop} {ρ : List Value} : ∀ {cs : List SV} {l : List CV} {vs : List Value}, allC cs = some l → cs.length = vs.length → (∀ (j : Nat) a v, cs[j]? = some a → vs[j]? = some v → CDen ρ w ok a v) → Den w ok l vs [] ∧ l.length = cs.length
  | [], l, vs, h, hl, _ => by
    simp [allC] at h
    subst h
    cases vs with
    | nil => exact ⟨.nil, rfl⟩
    | cons _ _ => simp at hl
  | c :: cs, l, vs, h, hl, hd => by
    cases vs with
    | nil => simp at hl
    | cons v vs =>
      cases c <;> simp only [allC] at h <;> first | (cases h; done) | skip
      rename_i x
      split at h
      · rename_i ys hys
        injection h with h
        subst h
        obtain ⟨h1, h2⟩ := allC_sound (vs := vs) hys (by simpa using hl) fun j a v ha hv => hd (j + 1) a v ha hv
        have h0 := hd 0 _ _ rfl rfl
        cases h0 with
        | c h0 => exact ⟨by simpa using h0.append h1, by simp [h2]⟩
      · cases h

theorem mkBlk_sound {w : World} {ok : Nat → Prop} {ρ : List Value} {cs : List SV} {b ty : Nat} {arr : Array Value} (hb : w.heap[b]? = some (.cells arr ty (0, 0))) (hl : cs.length = arr.toList.length)
    (h : ∀ (j : Nat) a v, cs[j]? = some a → arr.toList[j]? = some v → CDen ρ w ok a v) : BDen ρ w ok (mkBlk cs) (.pointer (some ⟨b, 0, none⟩)) [b] := by
  unfold mkBlk
  split
  · rename_i l hc
    obtain ⟨h1, h2⟩ := allC_sound hc hl h
    exact .cc hb rfl h1
  · exact .cells hb hl h

theorem outV_sound {w : World} {ok : Nat → Prop} {ρ : List Value} {cs : List SV} {vs : List Value} (hl : cs.length = vs.length) (h : ∀ (j : Nat) a v, cs[j]? = some a → vs[j]? = some v → CDen ρ w ok a v) :
    TDen ρ w ok (outV cs) (.agg vs.toArray) := by
  unfold outV
  split
  · rename_i l hc
    obtain ⟨h1, h2⟩ := allC_sound hc hl h
    exact .v (.a rfl h1)
  · exact .v (.m hl h)

theorem below_alloc (w : World) (o : Obj) : Below w.heap.size w (w.alloc o) := (Below.refl _ _).alloc (Nat.le_refl _) o

theorem alloc_new (w : World) (o : Obj) : (w.alloc o).heap[w.heap.size]? = some o := heap_alloc_new w o

/-- a new block whose cells are known -/
theorem St.newBlk (hS : St Γ nt T H ρ F a w) {ty : Nat} {k : Blk} {arr : Array Value}
    (hk : ∀ w', w'.heap[w.heap.size]? = some (.cells arr ty (0, 0)) → Below w.heap.size w w' → BDen ρ w' (okOf Γ H F w) k (.pointer (some ⟨w.heap.size, 0, none⟩)) [w.heap.size]) :
    ∃ ρ' F', St Γ nt T (H ++ [k]) ρ' F' a (w.alloc (.cells arr ty)) ∧ TDen ρ' (w.alloc (.cells arr ty)) (okOf Γ (H ++ [k]) F' (w.alloc (.cells arr ty))) (.lp H.length 0) (.pointer (some ⟨w.heap.size, 0, none⟩)) := by
  obtain ⟨h1, h2⟩ := hS.push (below_alloc w (.cells arr ty)) (k := k) (v := .pointer (some ⟨w.heap.size, 0, none⟩)) (f := [w.heap.size]) (by simp) (by simp)
    ((hk _ (alloc_new w _) (below_alloc w _)).ext (ext_append _ _))
  exact ⟨_, _, h1, .v (.c (.lp (by rw [← hS.mem.len]; simp)))⟩

theorem eMove_sound (hS : St Γ nt T H ρ F a w) {oty : Nat} {s : SV} {v : Value} {K : SV → TM → List Blk → Prop} (h : eMove tbl oty s T H K) (hs : TDen ρ w (okOf Γ H F w) s v) :
    Ran Γ nt a K (.ok v w) := by
  unfold eMove at h
  split at h
  · have := den_val (CDen.of_T hs)
    subst this
    split at h
    · rename_i i hi
      split at h
      · rename_i ety esz eby he
        obtain ⟨g1, g2⟩ := hS.push (w' := w) (Below.refl _ _) (k := .row ety esz []) (v := .slice none 0 0) (f := []) (by simp) (by simp)
          (.row (World.ownsRow_nil w 0 ety esz) (by simp) .nil)
        exact ⟨_, _, _, _, _, _, _, h, rfl, g1, .v (.c (.lw (by rw [← hS.mem.len]; simp)))⟩
      · exact Ran.quiet hS ⟨_, _, h, rfl, hs⟩
    · exact Ran.quiet hS ⟨_, _, h, rfl, hs⟩
  · exact Ran.quiet hS ⟨_, _, h, rfl, hs⟩

theorem run_alloc {t : Nat} {z : Value} {inf : TypeInfo} (hi : P.info? t = some inf) (hz : inf.zero = some z) :
    (Instr.alloc t true (.tuple #[])).run P w = .ok (.pointer (some ⟨w.heap.size, 0, none⟩)) (w.alloc (.cells z.cells t)) := by
  simp [Instr.alloc, zeroValue, typeInfo, hi, hz, newVar, newRow]

theorem eAlloc_sound (htb : TblOk P tbl) (hS : St Γ nt T H ρ F a w) {t : Nat} {K : SV → TM → List Blk → Prop} (h : eAlloc tbl t T H K) :
    Ran Γ nt a K ((Instr.alloc t true (.tuple #[])).run P w) := by
  unfold eAlloc at h
  split at h
  case h_2 => exact h.elim
  rename_i i hi
  obtain ⟨inf, z, hinf, hz, hcs, hsz, _, hone⟩ := (htb _ _ hi).zero
  obtain ⟨ρ1, F1, h1, h2, h3, h4⟩ := St.nils i.zero hS
  obtain ⟨ρ2, F2, g1, g2⟩ := h1.newBlk (ty := t) (arr := z.cells) (k := mkBlk (zCells i.zero H.length)) fun w' hw' hb => by
    refine mkBlk_sound hw' (by rw [hcs, zlen]; simp) fun j s v hs hv => ?_
    rw [hcs] at hv
    have := h4 (okOf Γ (H ++ zRows i.zero) F1 w) j s v hs hv hone
    exact this.mono (fun b hb' => hb.block b hb'.1) fun _ hb' => hb'
  refine ⟨_, _, _, ρ2, F2, _, _, h, run_alloc hinf hz, g1, ?_⟩
  simpa using g2

theorem run_box {t : Nat} {v : Value} : (Instr.box t v).run P w = .ok (.pointer (some ⟨w.heap.size, 0, none⟩)) (w.alloc (.cells v.cells t)) := by
  simp [Instr.box, newVar, newRow]

theorem one_cells {v : Value} (h : v.oneCell' = true) : v.cells = #[v] := by cases v <;> first | rfl | cases h

theorem eBox_sound (hS : St Γ nt T H ρ F a w) {t : Nat} {s : SV} {v : Value} {K : SV → TM → List Blk → Prop} (h : eBox s T H K) (hs : TDen ρ w (okOf Γ H F w) s v) :
    Ran Γ nt a K ((Instr.box t v).run P w) := by
  unfold eBox at h
  have one : ∀ {x : SV}, CDen ρ w (okOf Γ H F w) x v → K (.lp H.length 0) T (H ++ [.cells [x]]) → Ran Γ nt a K ((Instr.box t v).run P w) := by
    intro x hx hK
    obtain ⟨ρ2, F2, g1, g2⟩ := hS.newBlk (ty := t) (arr := v.cells) (k := .cells [x]) fun w' hw' hb => by
      rw [one_cells hx.one] at hw'
      refine .cells hw' rfl fun j a u ha hu => ?_
      cases j with
      | zero =>
        simp at ha hu
        subst ha hu
        exact hx.mono (fun b hb' => hb.block b hb'.1) fun _ hb' => hb'
      | succ j => simp at ha
    exact ⟨_, _, _, ρ2, F2, _, _, hK, run_box, g1, g2⟩
  split at h
  · rename_i n cs
    cases hs with
    | v hs => cases hs with
      | c hs => cases hs
      | a hl hd =>
        rename_i vs
        obtain ⟨ρ2, F2, g1, g2⟩ := hS.newBlk (ty := t) (arr := vs.toArray) (k := .cc n cs) fun w' hw' hb => by
          exact .cc hw' hl (by simpa using hd.mono (fun b hb' => hb.block b hb'.1) (fun _ hb' => hb') (by simp))
        exact ⟨_, _, _, ρ2, F2, _, _, h, run_box, g1, g2⟩
  · rename_i cs
    cases hs with
    | v hs => cases hs with
      | c hs => cases hs
      | m hl hd =>
        rename_i vs
        obtain ⟨ρ2, F2, g1, g2⟩ := hS.newBlk (ty := t) (arr := vs.toArray) (k := mkBlk cs) fun w' hw' hb => by
          exact mkBlk_sound hw' (by simpa using hl) fun j a v ha hv => (hd j a v ha (by simpa using hv)).mono (fun b hb' => hb.block b hb'.1) fun _ hb' => hb'
        exact ⟨_, _, _, ρ2, F2, _, _, h, run_box, g1, g2⟩
  · rename_i x
    have hd := CDen.of_T hs
    obtain ⟨ρ2, F2, g1, g2⟩ := hS.newBlk (ty := t) (arr := v.cells) (k := .cc 1 [x]) fun w' hw' hb => by
      rw [one_cells (hd.one v (by simp))] at hw'
      exact .cc hw' rfl (hd.mono (fun b hb' => hb.block b hb'.1) (fun _ hb' => hb') (by simp))
    exact ⟨_, _, _, ρ2, F2, _, _, h, run_box, g1, g2⟩
  · cases hs with
    | v hs => cases hs with | c hs => exact one hs h
  · cases hs with
    | v hs => cases hs with | c hs => exact one hs h
  · exact h.elim


/-! ### Stores -/
def PW (R : SV → Value → Prop) (as : List SV) (vs : List Value) : Prop := as.length = vs.length ∧ ∀ (j : Nat) a v, as[j]? = some a → vs[j]? = some v → R a v
theorem PW.take {R : SV → Value → Prop} {as : List SV} {vs : List Value} (h : PW R as vs) (n : Nat) : PW R (as.take n) (vs.take n) := by
  refine ⟨by simp [h.1], fun j a v ha hv => ?_⟩
  rw [List.getElem?_take] at ha hv
  split at ha
  · rename_i hlt
    rw [if_pos hlt] at hv
    exact h.2 j a v ha hv
  · cases ha
theorem PW.drop {R : SV → Value → Prop} {as : List SV} {vs : List Value} (h : PW R as vs) (n : Nat) : PW R (as.drop n) (vs.drop n) := by
  refine ⟨by simp [h.1], fun j a v ha hv => ?_⟩
  rw [List.getElem?_drop] at ha hv
  exact h.2 _ a v ha hv
theorem PW.append {R : SV → Value → Prop} {as bs : List SV} {vs us : List Value} (h : PW R as vs) (k : PW R bs us) : PW R (as ++ bs) (vs ++ us) := by
  refine ⟨by simp [h.1, k.1], fun j a v ha hv => ?_⟩
  by_cases hj : j < as.length
  · rw [List.getElem?_append_left hj] at ha
    rw [List.getElem?_append_left (by rw [← h.1]; exact hj)] at hv
    exact h.2 j a v ha hv
  · rw [List.getElem?_append_right (by omega)] at ha
    rw [List.getElem?_append_right (by rw [← h.1]; omega), ← h.1] at hv
    exact k.2 _ a v ha hv
theorem PW.splice {R : SV → Value → Prop} {as bs : List SV} {vs us : List Value} (h : PW R as vs) (k : PW R bs us) (off : Nat) : PW R (splice as off bs) (splice vs off us) := by
  unfold KA.splice
  rw [k.1]
  exact ((h.take off).append k).append (h.drop _)
theorem PW.of_den {w : World} {ok : Nat → Prop} {ρ : List Value} {cs : List CV} {vs : List Value} (h : Den w ok cs vs []) : PW (CDen ρ w ok) (cs.map .c) vs := by
  refine ⟨by simp [h.length], fun j a v ha hv => ?_⟩
  rw [List.getElem?_map] at ha
  cases hc : cs[j]? with
  | none => simp [hc] at ha
  | some c =>
    simp [hc] at ha
    subst ha
    exact .c (h.get hc hv)
theorem den_splice {w : World} {ok : Nat → Prop} {as bs : List CV} {vs us : List Value} (h : Den w ok as vs []) (k : Den w ok bs us []) (off : Nat) : Den w ok (splice as off bs) (splice vs off us) [] := by
  unfold KA.splice
  rw [k.length]
  simpa using ((den_take h off).append k).append (den_drop h _)
theorem splice_len {α : Type} {l x : List α} {off : Nat} (h : off + x.length ≤ l.length) : (splice l off x).length = l.length := by
  unfold splice
  simp
  omega
theorem splice_all {α : Type} {l x : List α} (h : x.length = l.length) : splice l 0 x = x := by
  unfold splice
  simp [h]

theorem run_storeAt {t : Nat} {i : TyI} (hk : TyOk P t i) {b o ty : Nat} {arr : Array Value} {v : Value} (hb : w.heap[b]? = some (.cells arr ty (0, 0))) (hl : v.cells.size = i.size)
    (hfit : o + v.cells.size ≤ arr.size) (hone : ∀ x ∈ v.cells.toList, x.oneCell' = true) :
    (Instr.storeAt t (.pointer (some ⟨b, o, none⟩)) v).run P w = .ok () (w.setRow b (splice arr.toList o v.cells.toList).toArray) := by
  have h := run_storeCells_at P b o ty v.cells.toList 0 arr w hb (by simpa using hfit) hone
  simp only [Nat.add_zero] at h
  simp [Instr.storeAt, Instr.sureAddr, storeVar, run_sizeOf' hk, hl, h, splice]

theorem St.setBlk (hS : St Γ nt T H ρ F a w) {j b ty : Nat} {k0 k : Blk} {v : Value} {arr arr' : Array Value} (hj : H[j]? = some k0) (hρ : ρ[j]? = some v) (hF : F j = [b]) (hb : w.heap[b]? = some (.cells arr ty (0, 0)))
    (hk : ∀ w', w'.heap[b]? = some (.cells arr' ty (0, 0)) → (∀ c, okOf Γ H F w c → w'.heap[c]? = w.heap[c]?) → BDen ρ w' (okOf Γ H F w) k v [b]) :
    ∃ F', St Γ nt T (H.set j k) ρ F' a (w.setRow b arr') := by
  have hjl := (List.getElem?_eq_some_iff.1 hj).1
  have hown : Owned H F b := ⟨j, hjl, by simp [hF]⟩
  have hne : ∀ c, okOf Γ H F w c → c ≠ b := fun c hc e => hc.2.2 (e ▸ hown)
  have hsame : ∀ c, okOf Γ H F w c → (w.setRow b arr').heap[c]? = w.heap[c]? := fun c hc => setRow_other w b c arr' (hne c hc)
  obtain ⟨h1, h2⟩ := hS.mem.set (H0 := H) (ρ' := ρ) (w' := w.setRow b arr') j hjl rfl rfl rfl (by simp) (fun c _ hc => setRow_other w b c arr' (by rintro rfl; exact hc (by simp [hF])))
    (k := k) (v := v) (f := [b]) hρ rfl rfl (fun i kk u _ hkk hu => ⟨kk, hkk, hu, fun _ _ _ h => h⟩) (fun c hc => .inl (by rw [hF]; exact hc)) (by simp)
    (hk _ (setRow_heap w b arr arr' ty (0, 0) hb) hsame)
  exact ⟨_, h1, hS.defers, hS.nt, fun i => (hS.tmps i).mono hsame h2⟩

/-- what a stored value's cells are -/
theorem cells_of_T {ρ : List Value} {w : World} {ok : Nat → Prop} {x : SV} {v : Value} (h : TDen ρ w ok x v) :
    (∀ n cs, x = .a n cs → cs.length = n ∧ Den w ok cs v.cells.toList []) ∧
    (∀ c, x = .c c → Den w ok [c] v.cells.toList []) ∧
    (∀ cs, x = .m cs → PW (CDen ρ w ok) cs v.cells.toList) ∧
    (isOne x = true → PW (CDen ρ w ok) [x] v.cells.toList) := by
  refine ⟨fun n cs e => ?_, fun c e => ?_, fun cs e => ?_, fun e => ?_⟩
  · subst e
    cases h with
    | v h => cases h with
      | c h => cases h
      | a hl h => exact ⟨hl, by simpa [Value.cells] using h⟩
  · subst e
    have hd := CDen.of_T h
    rw [one_cells (hd.one v (by simp))]
    exact hd
  · subst e
    cases h with
    | v h => cases h with
      | c h => cases h
      | m hl h => exact ⟨by simpa [Value.cells] using hl, by simpa [Value.cells] using h⟩
  · have hc : CDen ρ w ok x v := by
      cases h with
      | any => cases e
      | tup _ _ => cases e
      | v h => cases h with
        | c h => exact h
        | a _ _ => cases e
        | m _ _ => cases e
        | clo _ _ => cases e
    rw [one_cells hc.one]
    refine ⟨rfl, fun j a u ha hu => ?_⟩
    cases j with
    | zero => simp at ha hu; subst ha hu; exact hc
    | succ j => simp at ha

theorem PW.one {ρ : List Value} {w : World} {ok : Nat → Prop} {as : List SV} {vs : List Value} (h : PW (CDen ρ w ok) as vs) : ∀ v ∈ vs, v.oneCell' = true := by
  intro v hv
  obtain ⟨j, hj, rfl⟩ := List.getElem_of_mem hv
  exact (h.2 j (as[j]'(by rw [h.1]; exact hj)) _ (by simp) (by simp)).one

theorem den_same {ok : Nat → Prop} {w' : World} {cs : List CV} {vs : List Value} (h : Den w ok cs vs []) (hs : ∀ c, ok c → w'.heap[c]? = w.heap[c]?) : Den w' ok cs vs [] :=
  h.mono hs (fun _ h => h) (by simp)
theorem pw_same {ok : Nat → Prop} {w' : World} {cs : List SV} {vs : List Value} (h : PW (CDen ρ w ok) cs vs) (hs : ∀ c, ok c → w'.heap[c]? = w.heap[c]?) : PW (CDen ρ w' ok) cs vs :=
  ⟨h.1, fun j a v ha hv => (h.2 j a v ha hv).mono hs fun _ h => h⟩

def RanU (Γ : Cx) (nt : Nat) (a : Act) (K : SV → TM → List Blk → Prop) (r : Result Unit) : Prop :=
  ∃ T' H' ρ' F' w', K .any T' H' ∧ r = .ok () w' ∧ St Γ nt T' H' ρ' F' a w'

theorem eStore_sound (htb : TblOk P tbl) (hS : St Γ nt T H ρ F a w) {t : Nat} {p x : SV} {pv v : Value} {K : SV → TM → List Blk → Prop} (h : eStore tbl t p x T H K)
    (hp : TDen ρ w (okOf Γ H F w) p pv) (hx : TDen ρ w (okOf Γ H F w) x v) : RanU Γ nt a K ((Instr.storeAt t pv v).run P w) := by
  unfold eStore at h
  split at h
  · exact h.elim
  rename_i i hi
  have hk := htb _ _ hi
  obtain ⟨ca, cc, cm, c1⟩ := cells_of_T hx
  have hB := hS.mem.blocks
  split at h
  · rename_i j off
    obtain ⟨b, hρ, rfl⟩ := T_lp hp
    split at h
    · rename_i sz cs hj
      obtain ⟨b', ty, arr, hρ', hh, hl, hin, hF⟩ := B_cc hB hj
      rw [hρ] at hρ'
      simp only [Option.some.injEq, Value.pointer.injEq, Addr.mk.injEq, and_true] at hρ'
      subst hρ'
      have hal : arr.size = sz := by rw [← hl, hin.length]; simp
      split at h
      · rename_i n cs'
        obtain ⟨hn, hd⟩ := ca _ _ rfl
        have hvl : v.cells.size = n := by rw [← hn, hd.length]; simp
        cases hb1 : Nat.beq n i.size with
        | false => rw [hb1] at h; exact h.elim
        | true =>
          rw [hb1] at h
          have e1 := Nat.eq_of_beq_eq_true hb1
          cases hb2 : (Nat.beq off 0 && Nat.beq n sz) with
          | true =>
            rw [hb2] at h
            simp only [Bool.and_eq_true] at hb2
            have e2 := Nat.eq_of_beq_eq_true hb2.1
            have e3 := Nat.eq_of_beq_eq_true hb2.2
            subst e2
            obtain ⟨F', hS'⟩ := hS.setBlk (k := .cc n cs') (arr' := (splice arr.toList 0 v.cells.toList).toArray) hj hρ hF hh fun w' hw' hs => by
              rw [splice_all (by simp; omega)] at hw'
              exact .cc hw' hn (by simpa using den_same hd hs)
            exact ⟨_, _, _, F', _, h, run_storeAt hk hh (by omega) (by omega) (hd.one), hS'⟩
          | false =>
            rw [hb2] at h
            cases hb3 : Nat.ble (off + n) sz with
            | false => rw [hb3] at h; exact h.elim
            | true =>
              rw [hb3] at h
              have e3 := Nat.le_of_ble_eq_true hb3
              obtain ⟨F', hS'⟩ := hS.setBlk (k := .cc sz (splice cs off cs')) (arr' := (splice arr.toList off v.cells.toList).toArray) hj hρ hF hh fun w' hw' hs => by
                exact .cc hw' (by rw [splice_len (by omega)]; exact hl) (by simpa using den_same (den_splice hin hd off) hs)
              exact ⟨_, _, _, F', _, h, run_storeAt hk hh (by omega) (by omega) (hd.one), hS'⟩
      · rename_i c
        have hd := cc _ rfl
        have hvl : v.cells.size = 1 := by have := hd.length; simp at this; omega
        cases hb1 : (Nat.beq 1 i.size && Nat.blt off sz) with
        | false => rw [hb1] at h; exact h.elim
        | true =>
          rw [hb1] at h
          simp only [Bool.and_eq_true] at hb1
          have e1 := Nat.eq_of_beq_eq_true hb1.1
          have e2 : off < sz := by have := hb1.2; rwa [Nat.blt_eq] at this
          obtain ⟨F', hS'⟩ := hS.setBlk (k := .cc sz (splice cs off [c])) (arr' := (splice arr.toList off v.cells.toList).toArray) hj hρ hF hh fun w' hw' hs => by
            exact .cc hw' (by rw [splice_len (by simp; omega)]; exact hl) (by simpa using den_same (den_splice hin hd off) hs)
          exact ⟨_, _, _, F', _, h, run_storeAt hk hh (by omega) (by omega) (hd.one), hS'⟩
      · rename_i cs'
        have hd := cm _ rfl
        have hvl : v.cells.size = cs'.length := by have := hd.1; simp at this; omega
        cases hb1 : (Nat.beq cs'.length i.size && (Nat.beq off 0 && Nat.beq cs'.length sz)) with
        | false => rw [hb1] at h; exact h.elim
        | true =>
          rw [hb1] at h
          simp only [Bool.and_eq_true] at hb1
          have e1 := Nat.eq_of_beq_eq_true hb1.1
          have e2 := Nat.eq_of_beq_eq_true hb1.2.1
          have e3 := Nat.eq_of_beq_eq_true hb1.2.2
          subst e2
          obtain ⟨F', hS'⟩ := hS.setBlk (k := .cells cs') (arr' := (splice arr.toList 0 v.cells.toList).toArray) hj hρ hF hh fun w' hw' hs => by
            rw [splice_all (by simp; omega)] at hw'
            have := pw_same hd hs
            exact .cells hw' (by simpa using this.1) (by simpa using this.2)
          exact ⟨_, _, _, F', _, h, run_storeAt hk hh (by omega) (by omega) hd.one, hS'⟩
      · cases hb1 : (isOne x && (Nat.beq 1 i.size && Nat.blt off sz)) with
        | false => rw [hb1] at h; exact h.elim
        | true =>
          rw [hb1] at h
          simp only [Bool.and_eq_true] at hb1
          have hd := c1 hb1.1
          have hvl : v.cells.size = 1 := by have := hd.1; simp at this; omega
          have e1 := Nat.eq_of_beq_eq_true hb1.2.1
          have e2 : off < sz := by have := hb1.2.2; rwa [Nat.blt_eq] at this
          obtain ⟨F', hS'⟩ := hS.setBlk (k := .cells (splice (cs.map .c) off [x])) (arr' := (splice arr.toList off v.cells.toList).toArray) hj hρ hF hh fun w' hw' hs => by
            have := pw_same ((PW.of_den (ρ := ρ) hin).splice hd off) hs
            exact .cells hw' (by simpa using this.1) (by simpa using this.2)
          exact ⟨_, _, _, F', _, h, run_storeAt hk hh (by omega) (by omega) hd.one, hS'⟩
    · rename_i cs hj
      obtain ⟨b', ty, arr, hρ', hh, hl, hin, hF⟩ := B_cells hB hj
      rw [hρ] at hρ'
      simp only [Option.some.injEq, Value.pointer.injEq, Addr.mk.injEq, and_true] at hρ'
      subst hρ'
      have hpw : PW (CDen ρ w (okOf Γ H F w)) cs arr.toList := ⟨hl, hin⟩
      have hal : arr.size = cs.length := by rw [hl]; simp
      split at h
      · rename_i n cs'
        obtain ⟨hn, hd⟩ := ca _ _ rfl
        have hvl : v.cells.size = n := by rw [← hn, hd.length]; simp
        cases hb1 : Nat.beq n i.size with
        | false => rw [hb1] at h; exact h.elim
        | true =>
          rw [hb1] at h
          have e1 := Nat.eq_of_beq_eq_true hb1
          cases hb2 : (Nat.beq off 0 && Nat.beq n cs.length) with
          | true =>
            rw [hb2] at h
            simp only [Bool.and_eq_true] at hb2
            have e2 := Nat.eq_of_beq_eq_true hb2.1
            have e3 := Nat.eq_of_beq_eq_true hb2.2
            subst e2
            obtain ⟨F', hS'⟩ := hS.setBlk (k := .cc n cs') (arr' := (splice arr.toList 0 v.cells.toList).toArray) hj hρ hF hh fun w' hw' hs => by
              rw [splice_all (by simp; omega)] at hw'
              exact .cc hw' hn (by simpa using den_same hd hs)
            exact ⟨_, _, _, F', _, h, run_storeAt hk hh (by omega) (by omega) (hd.one), hS'⟩
          | false =>
            rw [hb2] at h
            cases hb3 : Nat.ble (off + n) cs.length with
            | false => rw [hb3] at h; exact h.elim
            | true =>
              rw [hb3] at h
              have e3 := Nat.le_of_ble_eq_true hb3
              obtain ⟨F', hS'⟩ := hS.setBlk (k := mkBlk (splice cs off (cs'.map .c))) (arr' := (splice arr.toList off v.cells.toList).toArray) hj hρ hF hh fun w' hw' hs => by
                have := pw_same (hpw.splice (PW.of_den (ρ := ρ) hd) off) hs
                exact mkBlk_sound hw' (by simpa using this.1) (by simpa using this.2)
              exact ⟨_, _, _, F', _, h, run_storeAt hk hh (by omega) (by omega) (hd.one), hS'⟩
      · rename_i cs'
        have hd := cm _ rfl
        have hvl : v.cells.size = cs'.length := by have := hd.1; simp at this; omega
        cases hb1 : (Nat.beq cs'.length i.size && Nat.ble (off + cs'.length) cs.length) with
        | false => rw [hb1] at h; exact h.elim
        | true =>
          rw [hb1] at h
          simp only [Bool.and_eq_true] at hb1
          have e1 := Nat.eq_of_beq_eq_true hb1.1
          have e2 := Nat.le_of_ble_eq_true hb1.2
          obtain ⟨F', hS'⟩ := hS.setBlk (k := mkBlk (splice cs off cs')) (arr' := (splice arr.toList off v.cells.toList).toArray) hj hρ hF hh fun w' hw' hs => by
            have := pw_same (hpw.splice hd off) hs
            exact mkBlk_sound hw' (by simpa using this.1) (by simpa using this.2)
          exact ⟨_, _, _, F', _, h, run_storeAt hk hh (by omega) (by omega) hd.one, hS'⟩
      · cases hb1 : (isOne x && (Nat.beq 1 i.size && Nat.blt off cs.length)) with
        | false => rw [hb1] at h; exact h.elim
        | true =>
          rw [hb1] at h
          simp only [Bool.and_eq_true] at hb1
          have hd := c1 hb1.1
          have hvl : v.cells.size = 1 := by have := hd.1; simp at this; omega
          have e1 := Nat.eq_of_beq_eq_true hb1.2.1
          have e2 : off < cs.length := by have := hb1.2.2; rwa [Nat.blt_eq] at this
          obtain ⟨F', hS'⟩ := hS.setBlk (k := mkBlk (splice cs off [x])) (arr' := (splice arr.toList off v.cells.toList).toArray) hj hρ hF hh fun w' hw' hs => by
            have := pw_same (hpw.splice hd off) hs
            exact mkBlk_sound hw' (by simpa using this.1) (by simpa using this.2)
          exact ⟨_, _, _, F', _, h, run_storeAt hk hh (by omega) (by omega) hd.one, hS'⟩
    · exact h.elim
  · rename_i j sz idx off
    obtain ⟨b, n0, c0, hρ, rfl⟩ := T_le hp
    split at h
    · rename_i ty sz' rows hj
      obtain ⟨rv, xs, hrv, ho, hr, hin, hF⟩ := B_row hB hj
      rw [hρ] at hrv
      simp only [Option.some.injEq] at hrv
      subst hrv
      cases hb : Nat.beq sz sz' with
      | false => rw [hb] at h; exact h.elim
      | true =>
        rw [hb] at h
        have := Nat.eq_of_beq_eq_true hb
        subst this
        have hF' : F j = [b] := by rw [hF]; rfl
        obtain ⟨hxl, hform⟩ := ho
        rcases hform with ⟨e, _⟩ | ⟨g, cap, cur, e, _, hh, hnc, hcm, hcs, htk⟩
        · cases e
        · simp only [Value.slice.injEq, Option.some.injEq, Addr.mk.injEq, and_true] at e
          obtain ⟨rfl, rfl, rfl⟩ := e
          -- one store into row idx: the cells cs' (with values us) from cell 'off' of the row on
          have key : ∀ (r cs' : List CV), rows[idx]? = some r → cs'.length = v.cells.size → Den w (okOf Γ H F w) cs' v.cells.toList [] → v.cells.size = i.size → off + cs'.length ≤ sz →
              K .any T (H.set j (.row ty sz (rows.set idx (splice r off cs')))) → RanU Γ nt a K ((Instr.storeAt t (.pointer (some ⟨b, idx * sz + off, none⟩)) v).run P w) := by
            intro r cs' hx hl' hd hsz hfit hK
            have hidx := (List.getElem?_eq_some_iff.1 hx).1
            have hrl := hr r (List.mem_of_getElem? hx)
            have hbound : idx * sz + sz ≤ rows.length * sz := by rw [← Nat.succ_mul]; exact Nat.mul_le_mul_right _ hidx
            have hcap : rows.length * sz ≤ c0 * sz := Nat.mul_le_mul_right _ hnc
            have hflat : (rows.set idx (splice r off cs')).flatten = splice rows.flatten (idx * sz + off) cs' := by
              have e0 : rows = rows.take idx ++ r :: rows.drop (idx + 1) := by
                have := List.getElem?_eq_some_iff.1 hx
                obtain ⟨h1, h2⟩ := this
                rw [← h2]
                simp
              have e1 : rows.set idx (splice r off cs') = rows.take idx ++ splice r off cs' :: rows.drop (idx + 1) := by
                rw [List.set_eq_take_append_cons_drop]
                simp [hidx]
              have hlt : (rows.take idx).flatten.length = idx * sz := by
                rw [flatten_len fun r hr' => hr r (List.mem_of_mem_take hr'), List.length_take]
                congr 1
                omega
              rw [e1]
              conv => rhs; rw [e0]
              simp only [List.flatten_append, List.flatten_cons]
              unfold splice
              rw [List.take_append, hlt, List.take_of_length_le (l := (rows.take idx).flatten) (by omega), show idx * sz + off - idx * sz = off by omega, List.take_append, List.drop_append, hlt,
                List.drop_of_length_le (l := (rows.take idx).flatten) (by omega), show idx * sz + off + cs'.length - idx * sz = off + cs'.length by omega, List.drop_append,
                show off - r.length = 0 by omega, show off + cs'.length - r.length = 0 by omega]
              simp
            obtain ⟨F', hS'⟩ := hS.setBlk (k := .row ty sz (rows.set idx (splice r off cs'))) (arr' := (splice cur.toList (idx * sz + off) v.cells.toList).toArray) hj hρ hF' hh fun w' hw' hs => by
              have hdd := den_same (den_splice hin hd (idx * sz + off)) hs
              rw [← hflat] at hdd
              have hrow : ∀ q ∈ rows.set idx (splice r off cs'), q.length = sz := by
                intro q hq
                rcases List.mem_or_eq_of_mem_set hq with h1 | h1
                · exact hr q h1
                · rw [h1, splice_len (by omega)]; exact hrl
              have : BDen ρ w' (okOf Γ H F w) (.row ty sz (rows.set idx (splice r off cs'))) (.slice (some ⟨b, 0, none⟩) rows.length c0) (Value.slice (some ⟨b, 0, none⟩) rows.length c0).ownBlock.toList := by
                refine .row (xs := splice xs (idx * sz + off) v.cells.toList) ⟨?_, .inr ⟨b, c0, _, by simp, Nat.zero_le _, hw', by simpa using hnc, hcm, ?_, ?_⟩⟩ hrow hdd
                · rw [← hdd.length, flatten_len hrow]
                · simp only [List.size_toArray]
                  rw [splice_len (by simp; omega)]
                  simpa using hcs
                · rw [← htk]
                  unfold splice
                  simp only [List.length_set]
                  rw [List.take_append, List.take_append, List.take_take, List.take_take, List.drop_take, List.length_append, List.length_take]
                  simp only [Array.length_toList]
                  rw [show min (idx * sz + off) (rows.length * sz) = idx * sz + off by omega, show min (rows.length * sz) (idx * sz + off) = idx * sz + off by omega,
                    List.take_of_length_le (l := v.cells.toList) (by simp; omega)]
                  rw [show min (idx * sz + off) cur.size = idx * sz + off by omega]
              exact this
            exact ⟨_, _, _, F', _, hK, run_storeAt hk hh (by omega) (by omega) hd.one, hS'⟩
          simp only [cond] at h
          split at h
          · rename_i n cs'
            obtain ⟨hn, hd⟩ := ca _ _ rfl
            have hvl : v.cells.size = n := by rw [← hn, hd.length]; simp
            cases hb1 : Nat.beq n i.size with
            | false => rw [hb1] at h; exact h.elim
            | true =>
              rw [hb1] at h
              have e1 := Nat.eq_of_beq_eq_true hb1
              obtain ⟨r, hx, h⟩ := h
              have hrl := hr r (List.mem_of_getElem? hx)
              cases hb2 : (Nat.beq off 0 && Nat.beq n sz) with
              | true =>
                rw [hb2] at h
                simp only [Bool.and_eq_true] at hb2
                have e2 := Nat.eq_of_beq_eq_true hb2.1
                have e3 := Nat.eq_of_beq_eq_true hb2.2
                subst e2
                exact key r cs' hx (by omega) hd (by omega) (by omega) (by rw [splice_all (by omega)]; exact h)
              | false =>
                rw [hb2] at h
                cases hb3 : Nat.ble (off + n) sz with
                | false => rw [hb3] at h; exact h.elim
                | true =>
                  rw [hb3] at h
                  have e3 := Nat.le_of_ble_eq_true hb3
                  exact key r cs' hx (by omega) hd (by omega) (by omega) h
          · rename_i c
            have hd := cc _ rfl
            have hvl : v.cells.size = 1 := by have := hd.length; simp at this; omega
            cases hb1 : (Nat.beq 1 i.size && Nat.blt off sz) with
            | false => rw [hb1] at h; exact h.elim
            | true =>
              rw [hb1] at h
              simp only [Bool.and_eq_true] at hb1
              have e1 := Nat.eq_of_beq_eq_true hb1.1
              have e2 : off < sz := by have := hb1.2; rwa [Nat.blt_eq] at this
              obtain ⟨r, hx, h⟩ := h
              exact key r [c] hx (by simp; omega) hd (by omega) (by simp; omega) h
          · exact h.elim
    · exact h.elim
  · exact h.elim

end
end Go.KA
