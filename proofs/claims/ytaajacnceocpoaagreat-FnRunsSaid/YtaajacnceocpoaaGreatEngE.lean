/- Part of a proof engine for functions of the given program: what an operation, a loop and a call compute, symbolically. No conditions. -/
import Derived.Test.YtaajacnceocpoaaGreatEngD
namespace Go.KA
open Go Go.RowKit

section
variable {P : Program} {tbl : TT} {Γ : Cx} {H Hm : HM} {ρ : RM} {F : FM} {w : World}

def Ran (Γ : Cx) (H : HM) (ρ : RM) (F : FM) (w : World) (n : Nat) (K : Eff → Prop) (r : Result Value) : Prop :=
  ∃ E ρ' F' v w', K E ∧ r = .ok v w' ∧ Ext ρ ρ' ∧ (∀ i, ρ' i ≠ ρ i → n ≤ i ∧ i < n + E.c) ∧ Mem Γ (updL E.ws H) ρ' F' w' ∧
    (∀ b, okOf Γ F w b → okOf Γ F' w' b) ∧ (∀ b, okOf Γ F w b → w'.heap[b]? = w.heap[b]?) ∧ TDen ρ' w' (okOf Γ F' w') E.sv v
def Fresh (ρ : RM) (n : Nat) (K : Eff → Prop) : Prop := ∀ E, K E → ∀ i, n ≤ i → i < n + E.c → ρ i = none

theorem Ran.quiet (hm : Mem Γ H ρ F w) {n : Nat} {K : Eff → Prop} {r : Result Value} (h : ∃ sv v, K (.q sv) ∧ r = .ok v w ∧ TDen ρ w (okOf Γ F w) sv v) : Ran Γ H ρ F w n K r := by
  obtain ⟨sv, v, hK, hr, hT⟩ := h
  exact ⟨.q sv, ρ, F, v, w, hK, hr, Ext.refl _, fun i hi => absurd rfl hi, hm, fun _ h => h, fun _ _ => rfl, hT⟩

theorem updR_chg {ρ : RM} {n : Nat} {v : Value} {i : Nat} (h : updR ρ n v i ≠ ρ i) : i = n := by
  by_cases e : i = n
  · exact e
  · exact absurd (updR_ne e) h

theorem Mem.nils : ∀ (zs : List ZC) {H : HM} {ρ : RM} {F : FM} {n : Nat}, Mem Γ H ρ F w → (∀ i, n ≤ i → i < n + zNum zs → ρ i = none) →
    ∃ ρ' F', Mem Γ (updL (zRows zs n) H) ρ' F' w ∧ Ext ρ ρ' ∧ (∀ i, ρ' i ≠ ρ i → n ≤ i ∧ i < n + zNum zs) ∧ (∀ b, okOf Γ F w b → okOf Γ F' w b) ∧
      (∀ ok, ∀ (j : Nat) s v, (zCells zs n)[j]? = some s → (zs.map ZC.val)[j]? = some v → (∀ z ∈ zs, z.val.oneCell' = true) → CDen ρ' w ok s v)
  | [], H, ρ, F, n, hm, _ => ⟨ρ, F, hm, Ext.refl _, fun i hi => absurd rfl hi, fun _ h => h, fun ok j s v h => by simp [zCells] at h⟩
  | .v x :: zs, H, ρ, F, n, hm, hf => by
    obtain ⟨ρ', F', h1, h2, h3, h4, h5⟩ := Mem.nils zs hm hf
    refine ⟨ρ', F', h1, h2, h3, h4, fun ok j s v hs hv hz => ?_⟩
    cases j with
    | zero =>
      simp [zCells] at hs
      simp [ZC.val] at hv
      subst hs hv
      exact .c (.val (hz (.v x) (by simp)) .nil)
    | succ j => exact h5 ok j s v (by simpa [zCells] using hs) (by simpa using hv) fun z hz' => hz z (by simp [hz'])
  | .s ety esz :: zs, H, ρ, F, n, hm, hf => by
    simp only [zNum] at hf
    obtain ⟨g1, g2⟩ := hm.fill (hf n (Nat.le_refl _) (by omega)) (w' := w) (Below.refl _ _) (k := .row none ety esz []) (v := .slice none 0 0) (f := []) (by simp) (by simp)
      (.row (World.ownsRow_nil w 0 ety esz) (by simp) .nil (by simp))
    obtain ⟨ρ', F', h1, h2, h3, h4, h5⟩ := Mem.nils zs (n := n + 1) g1 fun i h1 h2 => by rw [updR_ne (by omega)]; exact hf i (by omega) (by omega)
    refine ⟨ρ', F', h1, (ext_updR (hf n (Nat.le_refl _) (by omega)) _).trans h2, fun i hi => ?_, fun b hb => h4 b (g2 b hb), fun ok j s v hs hv hz => ?_⟩
    · simp only [zNum]
      by_cases e : i = n
      · omega
      · have := h3 i (by rw [updR_ne e]; exact hi)
        omega
    · cases j with
      | zero =>
        simp [zCells] at hs
        simp [ZC.val] at hv
        subst hs hv
        exact .lw (h2 _ _ updR_self)
      | succ j => exact h5 ok j s v (by simpa [zCells] using hs) (by simpa using hv) fun z hz' => hz z (by simp [hz'])

theorem ev_sound {nt : Nat} {T : TM} {a : Act} (hS : St Γ nt T H ρ F a w) (x : Operand) : TDen ρ w (okOf Γ F w) (ev T x) (a.eval x) := by
  cases x with
  | tmp t => exact hS.tmps t
  | global g => exact .any
  | func f => exact .v (.clo (k := f) (cs := []) (vs := []) rfl (by simp))
  | const v =>
    simp only [ev, Act.eval]
    unfold constS
    split
    · exact T_of_den (.cb .nil)
    · rename_i a
      cases hb : a.toList.all Value.oneCell' with
      | false => exact .any
      | true =>
        have : ∀ l : List Value, (∀ v ∈ l, v.oneCell' = true) → Den w (okOf Γ F w) (l.map CV.val) l [] := by
          intro l
          induction l with
          | nil => intro _; exact .nil
          | cons v l ih => intro h; exact .val (h v (by simp)) (ih fun u hu => h u (by simp [hu]))
        have h1 := this a.toList (List.all_eq_true.1 hb)
        exact .v (.a (by simp) h1)
    · exact .any
    · rename_i f x y
      split
      · rename_i h1 h2
        have e1 : x = #[] := by simpa using h1
        have e2 : y = #[] := by simpa using h2
        subst e1 e2
        exact .v (.clo (k := f) (cs := []) (vs := []) rfl (by simp))
      · exact .any
    · rename_i h1 h2 h3 h4
      refine T_of_den (.val ?_ .nil)
      cases v <;> first | rfl | (exact absurd rfl (h2 _)) | (exact absurd rfl (h3 _))

theorem zlen (zs : List ZC) (n : Nat) : (zCells zs n).length = zs.length := by
  induction zs generalizing n with
  | nil => rfl
  | cons z zs ih => cases z <;> simp [zCells, ih]

theorem allC_sound {ok : Nat → Prop} : ∀ {cs : List SV} {l : List CV} {vs : List Value}, allC cs = some l → cs.length = vs.length → (∀ (j : Nat) a v, cs[j]? = some a → vs[j]? = some v → CDen ρ w ok a v) → Den w ok l vs [] ∧ l.length = cs.length
  | [], l, vs, h, hl, _ => by
    simp [allC] at h
    subst h
    cases vs with
    | nil => exact ⟨.nil, rfl⟩
    | cons _ _ => simp at hl
  | c :: cs, l, vs, h, hl, hd => by
    cases vs with
    | nil => simp at hl
    | cons v vs =>
      cases c <;> simp only [allC] at h <;> first | (cases h; done) | skip
      rename_i x
      split at h
      · rename_i ys hys
        injection h with h
        subst h
        obtain ⟨h1, h2⟩ := allC_sound (vs := vs) hys (by simpa using hl) fun j a v ha hv => hd (j + 1) a v ha hv
        have h0 := hd 0 _ _ rfl rfl
        cases h0 with
        | c h0 => exact ⟨by simpa using h0.append h1, by simp [h2]⟩
      · cases h

theorem mkBlk_sound {ok : Nat → Prop} {cs : List SV} {b ty : Nat} {arr : Array Value} (hb : w.heap[b]? = some (.cells arr ty (0, 0))) (hl : cs.length = arr.toList.length)
    (h : ∀ (j : Nat) a v, cs[j]? = some a → arr.toList[j]? = some v → CDen ρ w ok a v) : BDen ρ w ok (mkBlk cs) (some (.pointer (some ⟨b, 0, none⟩))) [b] := by
  unfold mkBlk
  split
  · rename_i l hc
    obtain ⟨h1, h2⟩ := allC_sound hc hl h
    exact .cc hb rfl h1
  · exact .cells hb hl h

theorem outV_sound {ok : Nat → Prop} {cs : List SV} {vs : List Value} (hl : cs.length = vs.length) (h : ∀ (j : Nat) a v, cs[j]? = some a → vs[j]? = some v → CDen ρ w ok a v) :
    TDen ρ w ok (outV cs) (.agg vs.toArray) := by
  unfold outV
  split
  · rename_i l hc
    obtain ⟨h1, h2⟩ := allC_sound hc hl h
    exact .v (.a rfl h1)
  · exact .v (.m hl h)

theorem below_alloc (w : World) (o : Obj) : Below w.heap.size w (w.alloc o) := (Below.refl _ _).alloc (Nat.le_refl _) o
theorem alloc_new (w : World) (o : Obj) : (w.alloc o).heap[w.heap.size]? = some o := heap_alloc_new w o

theorem Mem.newBlk (hm : Mem Γ H ρ F w) {n : Nat} (hn : ρ n = none) {ty : Nat} {k : Blk} {arr : Array Value}
    (hk : ∀ w' ρ', w'.heap[w.heap.size]? = some (.cells arr ty (0, 0)) → Below w.heap.size w w' → Ext ρ ρ' → BDen ρ' w' (okOf Γ F w) k (some (.pointer (some ⟨w.heap.size, 0, none⟩))) [w.heap.size]) :
    ∃ F', Mem Γ (updH H n k) (updR ρ n (.pointer (some ⟨w.heap.size, 0, none⟩))) F' (w.alloc (.cells arr ty)) ∧ (∀ b, okOf Γ F w b → okOf Γ F' (w.alloc (.cells arr ty)) b) ∧
      TDen (updR ρ n (.pointer (some ⟨w.heap.size, 0, none⟩))) (w.alloc (.cells arr ty)) (okOf Γ F' (w.alloc (.cells arr ty))) (.lp n 0) (.pointer (some ⟨w.heap.size, 0, none⟩)) := by
  obtain ⟨h1, h2⟩ := hm.fill hn (below_alloc w (.cells arr ty)) (k := k) (v := .pointer (some ⟨w.heap.size, 0, none⟩)) (f := [w.heap.size]) (by simp) (by simp)
    (hk _ _ (alloc_new w _) (below_alloc w _) (ext_updR hn _))
  exact ⟨_, h1, h2, .v (.c (.lp updR_self))⟩

theorem eMove_sound (hm : Mem Γ H ρ F w) {oty n : Nat} {s : SV} {v : Value} {K : Eff → Prop} (h : eMove tbl oty s n K) (hf : Fresh ρ n K) (hs : TDen ρ w (okOf Γ F w) s v) : Ran Γ H ρ F w n K (.ok v w) := by
  unfold eMove at h
  split at h
  · have := den_val (CDen.of_T hs)
    subst this
    split at h
    · rename_i i hi
      split at h
      · rename_i ety esz eby he
        have hn := hf _ h n (Nat.le_refl _) (by simp)
        obtain ⟨g1, g2⟩ := hm.fill hn (w' := w) (Below.refl _ _) (k := .row none ety esz []) (v := .slice none 0 0) (f := []) (by simp) (by simp)
          (.row (World.ownsRow_nil w 0 ety esz) (by simp) .nil (by simp))
        exact ⟨_, _, _, _, _, h, rfl, ext_updR hn _, fun i hi => by have := updR_chg hi; simp; omega, g1, g2, fun _ _ => rfl, .v (.c (.lw updR_self))⟩
      · exact Ran.quiet hm ⟨_, _, h, rfl, hs⟩
    · exact Ran.quiet hm ⟨_, _, h, rfl, hs⟩
  · exact Ran.quiet hm ⟨_, _, h, rfl, hs⟩

theorem run_alloc {t : Nat} {z : Value} {inf : TypeInfo} (hi : P.info? t = some inf) (hz : inf.zero = some z) :
    (Instr.alloc t true (.tuple #[])).run P w = .ok (.pointer (some ⟨w.heap.size, 0, none⟩)) (w.alloc (.cells z.cells t)) := by
  simp [Instr.alloc, zeroValue, typeInfo, hi, hz, newVar, newRow]

theorem eAlloc_sound (htb : TblOk P tbl) (hm : Mem Γ H ρ F w) {t n : Nat} {K : Eff → Prop} (h : eAlloc tbl t n K) (hf : Fresh ρ n K) :
    Ran Γ H ρ F w n K ((Instr.alloc t true (.tuple #[])).run P w) := by
  unfold eAlloc at h
  split at h
  case h_2 => exact h.elim
  rename_i i hi
  obtain ⟨inf, z, hinf, hz, hcs, hsz, _, hone⟩ := (htb _ _ hi).zero
  split at h
  · rename_i e he
    have hn := hf _ h n (Nat.le_refl _) (by simp)
    have hz2 : z.cells = #[.pointer none, .slice none 0 0] := by
      unfold bldZ at he
      split at he
      · rename_i ety esz hzz
        rw [hzz] at hcs
        exact Array.ext' hcs
      · cases he
    obtain ⟨F2, g1, g2, g3⟩ := hm.newBlk hn (ty := t) (arr := z.cells) (k := .bld t e ByteArray.empty) fun w' ρ' hw' hb hρ' => by
      rw [hz2] at hw'
      exact .bld (.inl rfl) hw' (World.ownsRow_nil w' 0 e 1)
    exact ⟨_, _, F2, _, _, h, run_alloc hinf hz, ext_updR hn _, fun i hi => by have := updR_chg hi; simp; omega, g1, g2, fun b hb => (below_alloc w _).block b hb.1, g3⟩
  have hfr := hf _ h
  simp only at hfr
  obtain ⟨ρ1, F1, h1, h2, h3, h4, h5⟩ := Mem.nils i.zero hm fun j a b => hfr j a (by omega)
  have hn1 : ρ1 (n + zNum i.zero) = none := by
    have : ρ1 (n + zNum i.zero) = ρ (n + zNum i.zero) := by
      by_cases e : ρ1 (n + zNum i.zero) = ρ (n + zNum i.zero)
      · exact e
      · have := h3 _ e; omega
    rw [this]
    exact hfr _ (by omega) (by omega)
  obtain ⟨F2, g1, g2, g3⟩ := h1.newBlk hn1 (ty := t) (arr := z.cells) (k := mkBlk (zCells i.zero n)) fun w' ρ' hw' hb hρ' => by
    refine mkBlk_sound hw' (by rw [hcs, zlen]; simp) fun j s v hs hv => ?_
    rw [hcs] at hv
    exact (h5 (okOf Γ F1 w) j s v hs hv hone).mono (fun b hb' => hb.block b hb'.1) (fun _ h => h) hρ'
  refine ⟨_, _, F2, _, _, h, run_alloc hinf hz, h2.trans (ext_updR hn1 _), fun j hj => ?_, by rw [updL_append]; exact g1, fun b hb => g2 b (h4 b hb), fun b hb => (below_alloc w _).block b hb.1, g3⟩
  by_cases e : j = n + zNum i.zero
  · simp only; omega
  · rw [updR_ne e] at hj
    have := h3 j hj
    simp only
    omega

theorem run_box {t : Nat} {v : Value} : (Instr.box t v).run P w = .ok (.pointer (some ⟨w.heap.size, 0, none⟩)) (w.alloc (.cells v.cells t)) := by
  simp [Instr.box, newVar, newRow]
theorem one_cells {v : Value} (h : v.oneCell' = true) : v.cells = #[v] := by cases v <;> first | rfl | cases h

theorem eBox_sound (hm : Mem Γ H ρ F w) {t n : Nat} {s : SV} {v : Value} {K : Eff → Prop} (h : eBox s n K) (hf : Fresh ρ n K) (hs : TDen ρ w (okOf Γ F w) s v) : Ran Γ H ρ F w n K ((Instr.box t v).run P w) := by
  unfold eBox at h
  have fin : ∀ {k : Blk}, K ⟨.lp n 0, [(n, k)], 1, []⟩ → (∀ w' ρ', w'.heap[w.heap.size]? = some (.cells v.cells t (0, 0)) → Below w.heap.size w w' → Ext ρ ρ' → BDen ρ' w' (okOf Γ F w) k (some (.pointer (some ⟨w.heap.size, 0, none⟩))) [w.heap.size]) →
      Ran Γ H ρ F w n K ((Instr.box t v).run P w) := by
    intro k hK hk
    have hn := hf _ hK n (Nat.le_refl _) (by simp)
    obtain ⟨F2, g1, g2, g3⟩ := hm.newBlk hn (ty := t) (arr := v.cells) (k := k) hk
    exact ⟨_, _, F2, _, _, hK, run_box, ext_updR hn _, fun i hi => by have := updR_chg hi; simp; omega, g1, g2, fun b hb => (below_alloc w _).block b hb.1, g3⟩
  have one : ∀ {x : SV}, CDen ρ w (okOf Γ F w) x v → K ⟨.lp n 0, [(n, .cells [x])], 1, []⟩ → Ran Γ H ρ F w n K ((Instr.box t v).run P w) := by
    intro x hx hK
    refine fin hK fun w' ρ' hw' hb hρ' => ?_
    rw [one_cells hx.one] at hw'
    refine .cells hw' rfl fun j a u ha hu => ?_
    cases j with
    | zero =>
      simp at ha hu
      subst ha hu
      exact hx.mono (fun b hb' => hb.block b hb'.1) (fun _ h => h) hρ'
    | succ j => simp at ha
  split at h
  · rename_i k cs
    cases hs with
    | v hs => cases hs with
      | c hs => cases hs
      | a hl hd =>
        rename_i vs
        exact fin h fun w' ρ' hw' hb hρ' => .cc hw' hl (by simpa [Value.cells] using hd.mono (fun b hb' => hb.block b hb'.1) (fun _ hb' => hb') (by simp))
  · rename_i cs
    cases hs with
    | v hs => cases hs with
      | c hs => cases hs
      | m hl hd =>
        rename_i vs
        exact fin h fun w' ρ' hw' hb hρ' => mkBlk_sound hw' (by simpa [Value.cells] using hl) fun j a v ha hv => (hd j a v ha (by simpa [Value.cells] using hv)).mono (fun b hb' => hb.block b hb'.1) (fun _ h => h) hρ'
  · rename_i x
    have hd := CDen.of_T hs
    refine fin h fun w' ρ' hw' hb hρ' => ?_
    rw [one_cells (hd.one v (by simp))] at hw'
    exact .cc hw' rfl (hd.mono (fun b hb' => hb.block b hb'.1) (fun _ hb' => hb') (by simp))
  · cases hs with
    | v hs => cases hs with | c hs => exact one hs h
  · cases hs with
    | v hs => cases hs with | c hs => exact one hs h
  · exact h.elim

/-! ### Lists of cells -/
def PW (R : SV → Value → Prop) (as : List SV) (vs : List Value) : Prop := as.length = vs.length ∧ ∀ (j : Nat) a v, as[j]? = some a → vs[j]? = some v → R a v
theorem PW.take {R : SV → Value → Prop} {as : List SV} {vs : List Value} (h : PW R as vs) (n : Nat) : PW R (as.take n) (vs.take n) := by
  refine ⟨by simp [h.1], fun j a v ha hv => ?_⟩
  rw [List.getElem?_take] at ha hv
  split at ha
  · rename_i hlt
    rw [if_pos hlt] at hv
    exact h.2 j a v ha hv
  · cases ha
theorem PW.drop {R : SV → Value → Prop} {as : List SV} {vs : List Value} (h : PW R as vs) (n : Nat) : PW R (as.drop n) (vs.drop n) := by
  refine ⟨by simp [h.1], fun j a v ha hv => ?_⟩
  rw [List.getElem?_drop] at ha hv
  exact h.2 _ a v ha hv
theorem PW.append {R : SV → Value → Prop} {as bs : List SV} {vs us : List Value} (h : PW R as vs) (k : PW R bs us) : PW R (as ++ bs) (vs ++ us) := by
  refine ⟨by simp [h.1, k.1], fun j a v ha hv => ?_⟩
  by_cases hj : j < as.length
  · rw [List.getElem?_append_left hj] at ha
    rw [List.getElem?_append_left (by rw [← h.1]; exact hj)] at hv
    exact h.2 j a v ha hv
  · rw [List.getElem?_append_right (by omega)] at ha
    rw [List.getElem?_append_right (by rw [← h.1]; omega), ← h.1] at hv
    exact k.2 _ a v ha hv
theorem PW.splice {R : SV → Value → Prop} {as bs : List SV} {vs us : List Value} (h : PW R as vs) (k : PW R bs us) (off : Nat) : PW R (splice as off bs) (splice vs off us) := by
  unfold KA.splice
  rw [k.1]
  exact ((h.take off).append k).append (h.drop _)
theorem PW.of_den {ok : Nat → Prop} {cs : List CV} {vs : List Value} (h : Den w ok cs vs []) : PW (CDen ρ w ok) (cs.map .c) vs := by
  refine ⟨by simp [h.length], fun j a v ha hv => ?_⟩
  rw [List.getElem?_map] at ha
  cases hc : cs[j]? with
  | none => simp [hc] at ha
  | some c =>
    simp [hc] at ha
    subst ha
    exact .c (h.get hc hv)
theorem PW.one {ok : Nat → Prop} {as : List SV} {vs : List Value} (h : PW (CDen ρ w ok) as vs) : ∀ v ∈ vs, v.oneCell' = true := by
  intro v hv
  obtain ⟨j, hj, rfl⟩ := List.getElem_of_mem hv
  exact (h.2 j (as[j]'(by rw [h.1]; exact hj)) _ (by simp) (by simp)).one
theorem den_splice {ok : Nat → Prop} {as bs : List CV} {vs us : List Value} (h : Den w ok as vs []) (k : Den w ok bs us []) (off : Nat) : Den w ok (splice as off bs) (splice vs off us) [] := by
  unfold KA.splice
  rw [k.length]
  simpa using ((den_take h off).append k).append (den_drop h _)
theorem splice_len {α : Type} {l x : List α} {off : Nat} (h : off + x.length ≤ l.length) : (splice l off x).length = l.length := by
  unfold splice
  simp
  omega
theorem splice_all {α : Type} {l x : List α} (h : x.length = l.length) : splice l 0 x = x := by
  unfold splice
  simp [h]

theorem cells_of_T {ok : Nat → Prop} {x : SV} {v : Value} (h : TDen ρ w ok x v) :
    (∀ n cs, x = .a n cs → cs.length = n ∧ Den w ok cs v.cells.toList []) ∧
    (∀ c, x = .c c → Den w ok [c] v.cells.toList []) ∧
    (∀ cs, x = .m cs → PW (CDen ρ w ok) cs v.cells.toList) ∧
    (isOne x = true → PW (CDen ρ w ok) [x] v.cells.toList) := by
  refine ⟨fun n cs e => ?_, fun c e => ?_, fun cs e => ?_, fun e => ?_⟩
  · subst e
    cases h with
    | v h => cases h with
      | c h => cases h
      | a hl h => exact ⟨hl, by simpa [Value.cells] using h⟩
  · subst e
    have hd := CDen.of_T h
    rw [one_cells (hd.one v (by simp))]
    exact hd
  · subst e
    cases h with
    | v h => cases h with
      | c h => cases h
      | m hl h => exact ⟨by simpa [Value.cells] using hl, by simpa [Value.cells] using h⟩
  · have hc : CDen ρ w ok x v := by
      cases h with
      | any => cases e
      | tup _ _ => cases e
      | v h => cases h with
        | c h => exact h
        | a _ _ => cases e
        | m _ _ => cases e
        | clo _ _ => cases e
    rw [one_cells hc.one]
    refine ⟨rfl, fun j a u ha hu => ?_⟩
    cases j with
    | zero => simp at ha hu; subst ha hu; exact hc
    | succ j => simp at ha
theorem den_same {ok : Nat → Prop} {w' : World} {cs : List CV} {vs : List Value} (h : Den w ok cs vs []) (hs : ∀ c, ok c → w'.heap[c]? = w.heap[c]?) : Den w' ok cs vs [] :=
  h.mono hs (fun _ h => h) (by simp)
theorem pw_same {ok : Nat → Prop} {w' : World} {cs : List SV} {vs : List Value} (h : PW (CDen ρ w ok) cs vs) (hs : ∀ c, ok c → w'.heap[c]? = w.heap[c]?) : PW (CDen ρ w' ok) cs vs :=
  ⟨h.1, fun j a v ha hv => (h.2 j a v ha hv).mono hs (fun _ h => h) (Ext.refl _)⟩
end
end Go.KA
