/- Plain laws on the closure of a lemma among the notes of a valid server. No conditions. -/
import Derived.Test.YtbbaadkgmdkjdaaGreatZC
import Derived.Test.YtbbaadkgmdkjdaaGreatZe
namespace Go.Proofs.YtbbaadkgmdkjdaaGreat
open Go Go.KA Go.Proofs
set_option maxHeartbeats 16000000
set_option maxRecDepth 100000
theorem idxP_take {α : Type} {p : α → Bool} {l : List α} {k : Nat} (h : 0 ≤ idxP p (l.take k)) : idxP p l = idxP p (l.take k) ∧ idxP p l < k := by
  rcases idxP_or p (l.take k) with ⟨h1, _⟩ | ⟨i, hi, h1, h2, h3⟩
  · omega
  · rw [List.length_take] at hi
    have h4 : idxP p l = i := by
      refine idxP_at (show i < l.length by omega) ?_ (by rwa [List.getElem_take] at h2)
      rw [List.all_eq_true]
      intro x hx
      obtain ⟨j, hj, rfl⟩ := List.mem_iff_getElem.1 hx
      rw [List.length_take] at hj
      have := h3 j (by omega)
      rw [List.getElem_take] at this ⊢
      rw [this]
      rfl
    omega
theorem idxP_get {α : Type} {p : α → Bool} {l : List α} (h : 0 ≤ idxP p l) : ∃ hi : (idxP p l).toNat < l.length, p (l[(idxP p l).toNat]'hi) = true := by
  rcases idxP_or p l with ⟨h1, _⟩ | ⟨i, hi, h1, h2, h3⟩
  · omega
  · rw [h1]
    exact ⟨by simpa using hi, by simpa using h2⟩
def noteOf (l : List XNote) (x : Int) : XNote := l.getD (spotN l false x).toNat n0
def restsN (l : List XNote) (x : Int) : List Int := (noteOf l x).entry.rests
abbrev known (l : List XNote) (x : Int) : Prop := 0 ≤ spotN l false x
structure VN (l : List XNote) : Prop where
  rests : ∀ x, known l x → ∀ z ∈ restsN l x, known l z ∧ spotN l false z < spotN l false x
  range : ∀ r x, 0 ≤ spotN l r x → 0 ≤ x ∧ x ≤ 99
theorem VN.of {t a : Int} {l : List XNote} (hg : goodNotes t a l = true) : VN l := by
  refine ⟨fun x hx z hz => ?_, fun r x hx => ids_range hg r x (mem_ids.2 hx)⟩
  obtain ⟨hi, hp⟩ := idxP_get (p := noteIs false x) (l := l) hx
  have h1 := (gn_get hg hi).2.2
  have hz' : z ∈ (l[(idxP (noteIs false x) l).toNat]).entry.rests := by
    have : noteOf l x = l[(idxP (noteIs false x) l).toNat] := getD_eq hi
    unfold restsN at hz
    rwa [this] at hz
  have h2 := List.all_eq_true.1 h1 z hz'
  unfold hasN at h2
  have h2 := of_decide_eq_true h2
  unfold spotN at h2
  obtain ⟨h3, h4⟩ := idxP_take h2
  unfold known spotN
  unfold known spotN at hx
  constructor
  · rw [h3]; exact h2
  · omega
inductive Rch (l : List XNote) : Int → Int → Prop
  | refl (x : Int) : Rch l x x
  | head {x y z : Int} (h : y ∈ restsN l x) (ht : Rch l y z) : Rch l x z
theorem Rch.tail {l : List XNote} {x y z : Int} (h : Rch l x y) (hz : z ∈ restsN l y) : Rch l x z := by
  induction h with
  | refl x => exact .head hz (.refl _)
  | head h _ ih => exact .head h (ih hz)
theorem Rch.iff {l : List XNote} {x z : Int} : Rch l x z ↔ z = x ∨ ∃ y ∈ restsN l x, Rch l y z := by
  constructor
  · intro h
    cases h with
    | refl => exact .inl rfl
    | head h ht => exact .inr ⟨_, h, ht⟩
  · rintro (rfl | ⟨y, h, ht⟩)
    · exact .refl _
    · exact .head h ht
theorem Rch.known {l : List XNote} (hv : VN l) {x y : Int} (h : Rch l x y) : known l x → known l y ∧ spotN l false y ≤ spotN l false x := by
  induction h with
  | refl x => exact fun hx => ⟨hx, Int.le_refl _⟩
  | head h _ ih =>
    intro hx
    have h1 := hv.rests _ hx _ h
    have h2 := ih h1.1
    exact ⟨h2.1, by omega⟩
noncomputable def closN (l : List XNote) (id : Int) : List Int := selR 100 fun i => cdec (Rch l id i)
theorem mem_clos {l : List XNote} (hv : VN l) {id : Int} (hk : known l id) {x : Int} : x ∈ closN l id ↔ Rch l id x := by
  unfold closN
  rw [selR_mem]
  constructor
  · rintro ⟨i, _, h2, rfl⟩; exact cdec_of h2
  · intro h
    have h1 := hv.range _ _ (h.known hv hk).1
    refine ⟨x.toNat, by omega, ?_, by omega⟩
    rw [show ((x.toNat : Nat) : Int) = x by omega]
    exact cdec_yes h
/-! ### breadth first -/
structure Cl (l : List XNote) (id : Int) (R : List Int) (i : Nat) : Prop where
  nodup : R.Nodup
  mem : ∀ x ∈ R, Rch l id x
  root : id ∈ R
  done : ∀ x ∈ R.take i, ∀ z ∈ restsN l x, z ∈ R
  lt : i ≤ R.length
structure Cl2 (l : List XNote) (id : Int) (R0 : List Int) (i : Nat) (R : List Int) (k : Nat) : Prop where
  hi : i < R0.length
  nodup : R.Nodup
  mem : ∀ x ∈ R, Rch l id x
  root : id ∈ R
  pre : ∃ T, R = R0 ++ T
  done : ∀ x ∈ R0.take i, ∀ z ∈ restsN l x, z ∈ R
  part : ∀ z ∈ (restsN l (R0.getD i 0)).take k, z ∈ R
  lt : k ≤ (restsN l (R0.getD i 0)).length
theorem nodup_len {R : List Int} (h : R.Nodup) (hr : ∀ x ∈ R, 0 ≤ x ∧ x ≤ 99) : R.length ≤ 100 := by
  have h2 := sort_sel (p := fun i => decide ((i : Int) ∈ R)) h hr fun i _ => by rw [decide_eq_true_iff]
  have h3 := selR_len 100 fun i => decide ((i : Int) ∈ R)
  rw [← h2, sortI_len] at h3
  exact h3
section
variable {l : List XNote} {id : Int} {R R0 : List Int} {i k : Nat}
theorem Cl.zero : Cl l id [id] 0 := ⟨by simp, by simp; exact .refl _, by simp, by simp, by simp⟩
theorem Cl.len (h : Cl l id R i) (hv : VN l) (hk : known l id) : R.length ≤ 100 := nodup_len h.nodup fun x hx => hv.range _ _ ((h.mem x hx).known hv hk).1
theorem Cl2.len (h : Cl2 l id R0 i R k) (hv : VN l) (hk : known l id) : R.length ≤ 100 := nodup_len h.nodup fun x hx => hv.range _ _ ((h.mem x hx).known hv hk).1
theorem Cl.know (h : Cl l id R i) (hv : VN l) (hk : known l id) (hi : i < R.length) : known l (R.getD i 0) := by
  rw [getD_eq hi]
  exact ((h.mem _ (List.getElem_mem hi)).known hv hk).1
theorem Cl.open (h : Cl l id R i) (hi : i < R.length) : Cl2 l id R i R 0 := ⟨hi, h.nodup, h.mem, h.root, ⟨[], by simp⟩, h.done, by simp, Nat.zero_le _⟩
theorem Cl2.skip (h : Cl2 l id R0 i R k) (hk : k < (restsN l (R0.getD i 0)).length) (hm : (restsN l (R0.getD i 0))[k] ∈ R) : Cl2 l id R0 i R (k + 1) := by
  refine ⟨h.hi, h.nodup, h.mem, h.root, h.pre, h.done, fun z hz => ?_, hk⟩
  rcases take_mem hk hz with hz | rfl
  · exact h.part z hz
  · exact hm
theorem Cl2.add (h : Cl2 l id R0 i R k) (hk : k < (restsN l (R0.getD i 0)).length) (hm : ¬ (restsN l (R0.getD i 0))[k] ∈ R) : Cl2 l id R0 i (R ++ [(restsN l (R0.getD i 0))[k]]) (k + 1) := by
  have hR : Rch l id (R0.getD i 0) := by
    obtain ⟨T, hT⟩ := h.pre
    refine h.mem _ ?_
    have h9 : R0[i]'(h.hi) ∈ R0 ++ T := List.mem_append.2 (.inl (List.getElem_mem _))
    rw [← hT] at h9
    rw [getD_eq h.hi]
    exact h9
  refine ⟨h.hi, List.nodup_append.2 ⟨h.nodup, by simp, fun x hx y hy => ?_⟩, fun x hx => ?_, List.mem_append.2 (.inl h.root), ?_, fun x hx z hz => List.mem_append.2 (.inl (h.done x hx z hz)), fun z hz => ?_, hk⟩
  · have hy := List.mem_singleton.1 hy
    subst hy
    rintro rfl
    exact hm hx
  · rcases List.mem_append.1 hx with hx | hx
    · exact h.mem x hx
    · rw [List.mem_singleton.1 hx]
      exact hR.tail (List.getElem_mem hk)
  · obtain ⟨T, hT⟩ := h.pre
    exact ⟨T ++ [_], by rw [hT, List.append_assoc]⟩
  · rcases take_mem hk hz with hz | rfl
    · exact List.mem_append.2 (.inl (h.part z hz))
    · simp
theorem Cl2.close (h : Cl2 l id R0 i R k) (hk : ¬ k < (restsN l (R0.getD i 0)).length) : Cl l id R (i + 1) := by
  obtain ⟨T, hT⟩ := h.pre
  have h1 : i < R.length := by rw [hT, List.length_append]; have := h.hi; omega
  refine ⟨h.nodup, h.mem, h.root, fun x hx z hz => ?_, h1⟩
  rcases take_mem h1 hx with hx | rfl
  · refine h.done x ?_ z hz
    rw [hT, List.take_append_of_le_length (by have := h.hi; omega)] at hx
    exact hx
  · have e : R[i] = R0.getD i 0 := by
      rw [getD_eq h.hi]
      simp only [hT]
      rw [List.getElem_append_left h.hi]
    rw [e] at hz
    refine h.part z ?_
    rw [List.take_of_length_le (by omega)]
    exact hz
theorem Cl.all (h : Cl l id R i) (hi : ¬ i < R.length) : ∀ x, x ∈ R ↔ Rch l id x := by
  have hd := h.done
  rw [List.take_of_length_le (by omega)] at hd
  refine fun x => ⟨h.mem x, fun hx => ?_⟩
  have key : ∀ y z, Rch l y z → y ∈ R → z ∈ R := by
    intro y z hyz
    induction hyz with
    | refl _ => exact fun h => h
    | head h _ ih => exact fun hy => ih (hd _ hy _ h)
  exact key _ _ hx h.root
theorem Cl.sorted (h : Cl l id R i) (hi : ¬ i < R.length) (hv : VN l) (hk : known l id) : sortI R = closN l id :=
  sortI_eq (selR_lt _ _) h.nodup fun x => by rw [h.all hi, mem_clos hv hk]
end
/-! ### depth first -/
def rchF (l : List XNote) : Nat → Int → List Bool → List Bool
  | 0, _, m => m
  | f + 1, id, m => if m.getD id.toNat false = true then m else (restsN l id).foldl (fun m r => rchF l f r m) (m.set id.toNat true)
theorem rchF_len (l : List XNote) : ∀ (f : Nat) (id : Int) (m : List Bool), (rchF l f id m).length = m.length
  | 0, _, _ => rfl
  | f + 1, id, m => by
    unfold rchF
    split
    · rfl
    · have key : ∀ (rs : List Int) (m : List Bool), (rs.foldl (fun m r => rchF l f r m) m).length = m.length := by
        intro rs
        induction rs with
        | nil => intro m; rfl
        | cons r rs ih => intro m; rw [List.foldl_cons, ih, rchF_len l f r m]
      rw [key, List.length_set]
def Mk (m : List Bool) (x : Int) : Prop := 0 ≤ x ∧ m.getD x.toNat false = true
def ClM (l : List XNote) (k : Int) (m : List Bool) : Prop := ∀ x, Mk m x → spotN l false x ≤ k → ∀ z ∈ restsN l x, Mk m z
theorem mk_set {m : List Bool} {id x : Int} (hi : 0 ≤ id ∧ id.toNat < m.length) : Mk (m.set id.toNat true) x ↔ Mk m x ∨ x = id := by
  unfold Mk
  by_cases e : x = id
  · subst e
    have : (m.set x.toNat true).getD x.toNat false = true := by
      rw [getD_eq (by rw [List.length_set]; exact hi.2), List.getElem_set_self]
    constructor
    · intro _; exact .inr rfl
    · intro _; exact ⟨hi.1, this⟩
  · constructor
    · rintro ⟨h1, h2⟩
      left
      refine ⟨h1, ?_⟩
      rw [List.getD_eq_getElem?_getD, List.getElem?_set_ne (by omega)] at h2
      rwa [List.getD_eq_getElem?_getD]
    · rintro (⟨h1, h2⟩ | h)
      · refine ⟨h1, ?_⟩
        rw [List.getD_eq_getElem?_getD, List.getElem?_set_ne (by omega)]
        rwa [List.getD_eq_getElem?_getD] at h2
      · exact absurd h e
theorem rchF_spec {l : List XNote} (hv : VN l) : ∀ (f : Nat) (id : Int) (m : List Bool), m.length = 100 → known l id → spotN l false id < f → ClM l (spotN l false id) m → ∀ x, Mk (rchF l f id m) x ↔ Mk m x ∨ Rch l id x
  | 0, id, m, _, hk, hf, _, x => by
    unfold known at hk
    omega
  | f + 1, id, m, hm, hk, hf, hc, x => by
    have hr := hv.range _ _ hk
    unfold rchF
    by_cases h0 : m.getD id.toNat false = true
    · rw [if_pos h0]
      constructor
      · exact .inl
      · rintro (h | h)
        · exact h
        · have key : ∀ y z, Rch l y z → known l y → spotN l false y ≤ spotN l false id → Mk m y → Mk m z := by
            intro y z hyz
            induction hyz with
            | refl _ => exact fun _ _ h => h
            | head h _ ih =>
              intro h1 h2 h3
              have h4 := hv.rests _ h1 _ h
              exact ih h4.1 (by omega) (hc _ h3 h2 _ h)
          exact key _ _ h hk (Int.le_refl _) ⟨hr.1, h0⟩
    · rw [if_neg h0]
      have h1 : ∀ x, Mk (m.set id.toNat true) x ↔ Mk m x ∨ x = id := fun x => mk_set (by omega)
      have hlt := hv.rests _ hk
      have key : ∀ (rs : List Int) (m1 : List Bool), m1.length = 100 → (∀ r ∈ rs, known l r ∧ spotN l false r < spotN l false id) → ClM l (spotN l false id - 1) m1 →
          ∀ x, Mk (rs.foldl (fun m r => rchF l f r m) m1) x ↔ Mk m1 x ∨ ∃ r ∈ rs, Rch l r x := by
        intro rs
        induction rs with
        | nil => intro m1 _ _ _ x; simp
        | cons r rs ih =>
          intro m1 hm1 hrs hc1 x
          have hr1 := hrs r (by simp)
          have h2 := rchF_spec hv f r m1 hm1 hr1.1 (by omega) (fun y hy hys z hz => hc1 y hy (by omega) z hz)
          rw [List.foldl_cons, ih _ (by rw [rchF_len]; exact hm1) (fun r' hr' => hrs r' (by simp [hr'])) ?_ x, h2 x]
          · constructor
            · rintro ((h | h) | ⟨r', h, h'⟩)
              · exact .inl h
              · exact .inr ⟨r, by simp, h⟩
              · exact .inr ⟨r', by simp [h], h'⟩
            · rintro (h | ⟨r', h, h'⟩)
              · exact .inl (.inl h)
              · rcases List.mem_cons.1 h with rfl | h
                · exact .inl (.inr h')
                · exact .inr ⟨r', h, h'⟩
          · intro y hy hys z hz
            rw [h2] at hy ⊢
            rcases hy with hy | hy
            · exact .inl (hc1 y hy hys z hz)
            · exact .inr (hy.tail hz)
      rw [key (restsN l id) _ (by rw [List.length_set]; exact hm) hlt ?_ x, h1 x, Rch.iff]
      · constructor
        · rintro ((h | h) | h)
          · exact .inl h
          · exact .inr (.inl h)
          · exact .inr (.inr h)
        · rintro (h | h | h)
          · exact .inl (.inl h)
          · exact .inl (.inr h)
          · exact .inr h
      · intro y hy hys z hz
        rw [h1] at hy ⊢
        rcases hy with hy | rfl
        · exact .inl (hc y hy (by omega) z hz)
        · omega
noncomputable def markN (l : List XNote) (id : Int) : List Bool := rchF l (l.length + 1) id (List.replicate 100 false)
theorem mark_get {l : List XNote} (hv : VN l) {id : Int} (hk : known l id) (i : Nat) : (markN l id).getD i false = cdec (Rch l id i) := by
  have h := rchF_spec hv (l.length + 1) id (List.replicate 100 false) (by simp) hk (by have := (idxP_lo (noteIs false id) l).2; unfold spotN; omega)
    (fun x hx => by
      have : (List.replicate 100 false).getD x.toNat false = true := hx.2
      rw [List.getD_eq_getElem?_getD, List.getElem?_replicate] at this
      split at this <;> simp at this) i
  have hno : ¬ Mk (List.replicate 100 false) i := by
    rintro ⟨_, h⟩
    rw [List.getD_eq_getElem?_getD, List.getElem?_replicate] at h
    split at h <;> simp at h
  have h2 : (markN l id).getD i false = true ↔ Rch l id i := by
    have h3 : Mk (markN l id) i ↔ (markN l id).getD i false = true := by
      unfold Mk
      simp
    rw [← h3]
    unfold markN
    rw [h]
    exact ⟨fun h => h.resolve_left hno, .inr⟩
  cases hb : (markN l id).getD i false with
  | true => exact (cdec_yes (h2.1 hb)).symm
  | false => exact (cdec_no fun hr => by rw [h2.2 hr] at hb; cases hb).symm
theorem mark_len (l : List XNote) (id : Int) : (markN l id).length = 100 := by
  unfold markN
  rw [rchF_len]
  simp
theorem mark_sel {l : List XNote} (hv : VN l) {id : Int} (hk : known l id) : (selR 100 fun i => (markN l id).getD i false) = closN l id := selR_congr fun i _ => mark_get hv hk i
end Go.Proofs.YtbbaadkgmdkjdaaGreat

namespace Go.Proofs.YtbbaadkgmdkjdaaGreat
open Go Go.KA Go.Proofs
set_option maxHeartbeats 16000000
set_option maxRecDepth 100000
theorem know_idx {l : List XNote} {x : Int} (h : known l x) : (spotN l false x).toNat < l.length := by
  have := (idxP_lo (noteIs false x) l).2
  unfold known spotN at h
  unfold spotN
  omega
theorem closure_ok (l : List XNote) (id : Int) (hv : VN l) (hk : known l id) : CallX Tryz.prog 78 [.c (.ro 7 (l.map encNote)), I id] [] (.c (.ows 2 1 ((closN l id).map eI))) := by
  refine callX_of_vc htb hm Tryz.func78 rfl rfl rfl rfl (ann := fun _ => none) (gh := fun _ => false) ?_
  repeat' ((conv => whnf); first
    | (guard_target = Done _; refine Done.mk ?_)
    | (guard_target = RetX _ _; refine RetX.mk ?_ ?_)
    | (guard_target =~ LoopE 3 _ _ _ _ _ _; refine LoopE.mk { α := List Int × Nat, keep := [0], ov := fun ⟨R, i⟩ => [(5, .lw 1), (6, I (i : Nat))], hv := fun ⟨R, i⟩ => [(1, .row none 2 1 (R.map eI))], φ := fun ⟨R, i⟩ => Cl l id R i, μ := fun ⟨R, i⟩ => 100 - i } (LoopN.mk (([id], 0) : List Int × Nat) (by exact Cl.zero) (by (repeat' first | exact trivial | exact rfl | refine ⟨?_, ?_⟩); done) (by (repeat' first | exact trivial | exact rfl | refine ⟨?_, ?_⟩); done) (by (repeat' first | exact trivial | exact rfl | refine ⟨?_, ?_⟩ | (simp only [List.map_append, List.map_cons, List.map_nil, List.map_set]; first | done | rfl)); done) (fun A ha => ?_) (by intro A; first | rfl | (obtain ⟨_, _⟩ := A; rfl) | (obtain ⟨_, _, _⟩ := A; rfl))); obtain ⟨R, i⟩ := A; have ha : Cl l id R i := ha; have hlen := ha.len hv hk)
    | (guard_target =~ LoopE 6 _ _ _ _ _ _; refine LoopE.mk { α := List Int × Nat, keep := [0, 6, 27, 28], ov := fun ⟨R', k⟩ => [(5, .lw 1), (29, I (k : Nat))], hv := fun ⟨R', k⟩ => [(1, .row none 2 1 (R'.map eI))], φ := fun ⟨R', k⟩ => Cl2 l id R i R' k, μ := fun ⟨R', k⟩ => (l.getD (spotN l false (R.getD i 0)).toNat n0).entry.rests.length - k } (LoopN.mk ((R, 0) : List Int × Nat) (by exact ha.open (by omega)) (by (repeat' first | exact trivial | exact rfl | refine ⟨?_, ?_⟩); done) (by (repeat' first | exact trivial | exact rfl | refine ⟨?_, ?_⟩); done) (by (repeat' first | exact trivial | exact rfl | refine ⟨?_, ?_⟩ | (simp only [List.map_append, List.map_cons, List.map_nil, List.map_set]; first | done | rfl)); done) (fun A ha => ?_) (by intro A; first | rfl | (obtain ⟨_, _⟩ := A; rfl) | (obtain ⟨_, _, _⟩ := A; rfl))); obtain ⟨R', k⟩ := A; have ha : Cl2 l id R i R' k := ha; have hlen2 := ha.len hv hk)
    | (guard_target = Gh _ _ _ _ _; refine Gh.go ⟨((R' ++ [(restsN l (R.getD i 0)).getD k 0], k + 1) : List Int × Nat), (by (have hk' : k < (restsN l (R.getD i 0)).length := (by show k < (l.getD (spotN l false (R.getD i 0)).toNat n0).entry.rests.length; omega); show Cl2 _ _ _ _ _ _; rw [getD_eq hk']; refine ha.add hk' ?_; rw [← getD_eq hk']; exact h)), (by first | (show _ < _; simp only []; omega) | omega | (simp; omega)), (by (repeat' first | exact trivial | exact rfl | refine ⟨?_, ?_⟩); done), (by (repeat' first | exact trivial | exact rfl | refine ⟨?_, ?_⟩); done), (by (repeat' first | exact trivial | exact rfl | refine ⟨?_, ?_⟩ | (simp only [List.map_append, List.map_cons, List.map_nil, List.map_set]; first | done | rfl)); done)⟩)
    | (guard_target = Gh _ _ _ _ _; refine Gh.go ⟨((R', k + 1) : List Int × Nat), (by (have hk' : k < (restsN l (R.getD i 0)).length := (by show k < (l.getD (spotN l false (R.getD i 0)).toNat n0).entry.rests.length; omega); refine ha.skip hk' ?_; rw [← getD_eq hk']; exact h)), (by first | (show _ < _; simp only []; omega) | omega | (simp; omega)), (by (repeat' first | exact trivial | exact rfl | refine ⟨?_, ?_⟩); done), (by (repeat' first | exact trivial | exact rfl | refine ⟨?_, ?_⟩); done), (by (repeat' first | exact trivial | exact rfl | refine ⟨?_, ?_⟩ | (simp only [List.map_append, List.map_cons, List.map_nil, List.map_set]; first | done | rfl)); done)⟩)
    | (guard_target = Gh _ _ _ _ _; refine Gh.go ⟨((R', i + 1) : List Int × Nat), (by (refine ha.close ?_; show ¬ k < (l.getD (spotN l false (R.getD i 0)).toNat n0).entry.rests.length; omega)), (by first | (show _ < _; simp only []; omega) | omega | (simp; omega)), (by (repeat' first | exact trivial | exact rfl | refine ⟨?_, ?_⟩); done), (by (repeat' first | exact trivial | exact rfl | refine ⟨?_, ?_⟩); done), (by (repeat' first | exact trivial | exact rfl | refine ⟨?_, ?_⟩ | (simp only [List.map_append, List.map_cons, List.map_nil, List.map_set]; first | done | rfl)); done)⟩)
    | (guard_target = Fact _ _; refine Fact.mk fun hL => ?_; (try simp only [List.length_map, maxLen] at hL))
    | (guard_target = Branch _ _ _; (first | refine Branch.dec (fun h => ?_) (fun h => ?_) | refine Branch.beq (fun h => ?_) (fun h => ?_) | refine Branch.bne (fun h => ?_) (fun h => ?_) | refine Branch.ndec (fun h => ?_) (fun h => ?_) | refine Branch.nb (fun h => ?_) (fun h => ?_) | refine Branch.mk (fun h => ?_) (fun h => ?_)) <;> (try simp only [List.length_map] at h) <;> (try omega) <;> (try contradiction))
    | (guard_target = CallN _ 71 _ _ _ _; refine CallN.pure _ _ rfl (find_ok l false (R.getD i 0)) rfl _ rfl ?_)
    | (guard_target = CallN _ 79 _ _ _ _; refine CallN.pure _ _ rfl (Contains_ok R' _) rfl _ rfl ?_)
    | (guard_target = CallN _ 126 _ _ _ _; refine CallN.gen [true] _ _ _ rfl (Sort_ok R (by omega)) rfl rfl _ rfl ?_)
    | (guard_target = Arith _ _ _; refine Arith.fit (wrap_fit (by first | omega | (simp only [List.length_map]; omega)) (by first | omega | (simp only [List.length_map]; omega))) ?_)
    | (guard_target = Arith _ _ _; refine Arith.fit (by decide) ?_)
    | (guard_target = Index _ _ _; first | refine Index.mk _ (idx_getD (d := 0) (i := i) (by omega)) ?_ | refine Index.mk _ (idx_getD (d := n0) (i := (spotN l false (R.getD i 0)).toNat) (know_idx (ha.know hv hk (by omega)))) ?_ | refine Index.mk _ (idx_getD (l := restsN l (R.getD i 0)) (d := 0) (i := k) (by show k < (l.getD (spotN l false (R.getD i 0)).toNat n0).entry.rests.length; omega)) ?_ | refine Index.mk _ (idx_map (by omega)) ?_)
    | (guard_target = Need (chkDraw _ = true) _; refine Need.mk (by kernel_rfl) ?_)
    | (guard_target = Need (chkRecs _ _ = true) _; refine Need.mk (by first | kernel_rfl | rfl) ?_)
    | (guard_target = Need _ _; refine Need.mk (by first | (exact ha.know hv hk (by omega)) | ((simp only [List.length_map, List.length_cons, List.length_nil, maxLen]; constructor <;> omega)) | omega | (simp only [List.length_map]; omega)) ?_))
  all_goals first | rfl | trivial | (rw [ha.sorted (by omega) hv hk]; done)
theorem fold_take {α β : Type} (f : β → α → β) (l : List α) (b : β) {k : Nat} (h : k < l.length) : (l.take (k + 1)).foldl f b = f ((l.take k).foldl f b) l[k] := by
  rw [List.take_succ_eq_append_getElem h, List.foldl_append]
  rfl
theorem rch_fold {l : List XNote} {f : Nat} : ∀ (rs : List Int) (m : List Bool), (rs.foldl (fun m r => rchF l f r m) m).length = m.length
  | [], m => rfl
  | r :: rs, m => by rw [List.foldl_cons, rch_fold rs, rchF_len]
theorem l08Reach_ok (l : List XNote) (hv : VN l) : ∀ (f : Nat) (id : Int) (m : List Bool), m.length = 100 → known l id → spotN l false id < f → CallX Tryz.prog 127 [.c (.ro 7 (l.map encNote)), I id, .c (.ows 4 1 (m.map eB))] [none, none, some [.ows 4 1 ((rchF l f id m).map eB)]] (.tup [])
  | 0, id, m, hlm, hk, hf => by
    unfold known at hk
    omega
  | f + 1, id, m, hlm, hk, hf => by
    have hr := hv.range _ _ hk
    have hrs := hv.rests _ hk
    by_cases h0 : m.getD id.toNat false = true
    · have e : rchF l (f + 1) id m = m := by
        unfold rchF
        rw [if_pos h0]
      rw [e]
      refine callX_of_vc htb hm Tryz.func127 rfl rfl rfl rfl (ann := fun _ => none) (gh := fun _ => false) ?_
      repeat' ((conv => whnf); first
        | (guard_target = Done _; refine Done.mk ?_)
        | (guard_target = RetX _ _; refine RetX.mk ?_ ?_)
        | (guard_target = Fact _ _; refine Fact.mk fun hL => ?_; (try simp only [List.length_map, maxLen] at hL))
        | (guard_target = Branch _ _ _; (first | refine Branch.dec (fun h => ?_) (fun h => ?_) | refine Branch.beq (fun h => ?_) (fun h => ?_) | refine Branch.bne (fun h => ?_) (fun h => ?_) | refine Branch.ndec (fun h => ?_) (fun h => ?_) | refine Branch.nb (fun h => ?_) (fun h => ?_) | refine Branch.mk (fun h => ?_) (fun h => ?_)) <;> (try simp only [List.length_map] at h) <;> (try omega) <;> (try contradiction))
        | (guard_target = Arith _ _ _; refine Arith.fit (wrap_fit (by first | omega | (simp only [List.length_map]; omega)) (by first | omega | (simp only [List.length_map]; omega))) ?_)
        | (guard_target = Arith _ _ _; refine Arith.fit (by decide) ?_)
        | (guard_target = Index _ _ _; first | refine Index.mk _ (idx_getD (d := false) (i := id.toNat) (by omega)) ?_ | refine Index.mk _ (idx_map (by omega)) ?_)
        | (guard_target = Need (chkDraw _ = true) _; refine Need.mk (by kernel_rfl) ?_)
        | (guard_target = Need (chkRecs _ _ = true) _; refine Need.mk (by first | kernel_rfl | rfl) ?_)
        | (guard_target = Need _ _; refine Need.mk (by first  | omega | (simp only [List.length_map]; omega)) ?_))
      all_goals first | rfl | trivial | (exact absurd (h.symm.trans h0) (by decide))
    · have e : rchF l (f + 1) id m = (restsN l id).foldl (fun m r => rchF l f r m) (m.set id.toNat true) := by
        conv => lhs; unfold rchF
        rw [if_neg h0]
      rw [e]
      have hset := rch_fold (l := l) (f := f) 
      have hget : ∀ k, k < (restsN l id).length → known l ((restsN l id).getD k 0) ∧ spotN l false ((restsN l id).getD k 0) < spotN l false id := fun k hk => by
        rw [getD_eq hk]
        exact hrs _ (List.getElem_mem hk)
      have hstep : ∀ k, k < (restsN l id).length → ((restsN l id).take (k + 1)).foldl (fun m r => rchF l f r m) (m.set id.toNat true) = rchF l f ((restsN l id).getD k 0) (((restsN l id).take k).foldl (fun m r => rchF l f r m) (m.set id.toNat true)) := fun k hk => by
        rw [fold_take _ _ _ hk, getD_eq hk]
      refine callX_of_vc htb hm Tryz.func127 rfl rfl rfl rfl (ann := fun _ => none) (gh := fun _ => false) ?_
      repeat' ((conv => whnf); first
        | (guard_target = Done _; refine Done.mk ?_)
        | (guard_target = RetX _ _; refine RetX.mk ?_ ?_)
        | (guard_target =~ LoopE 5 _ _ _ _ _ _; refine LoopE.mk { α := List Bool × Nat, keep := [0, 2, 7], ov := fun ⟨m', k⟩ => [(8, I (k : Nat))], hv := fun ⟨m', k⟩ => [(0, .row none 4 1 (m'.map eB))], φ := fun ⟨m', k⟩ => k ≤ (restsN l id).length ∧ m' = ((restsN l id).take k).foldl (fun m r => rchF l f r m) (m.set id.toNat true), μ := fun ⟨m', k⟩ => (l.getD (spotN l false id).toNat n0).entry.rests.length - k } (LoopN.mk ((m.set id.toNat true, 0) : List Bool × Nat) (by exact ⟨Nat.zero_le _, rfl⟩) (by (repeat' first | exact trivial | exact rfl | refine ⟨?_, ?_⟩); done) (by (repeat' first | exact trivial | exact rfl | refine ⟨?_, ?_⟩); done) (by (repeat' first | exact trivial | exact rfl | refine ⟨?_, ?_⟩ | (simp only [List.map_append, List.map_cons, List.map_nil, List.map_set]; first | done | rfl)); done) (fun A ha => ?_) (by intro A; first | rfl | (obtain ⟨_, _⟩ := A; rfl) | (obtain ⟨_, _, _⟩ := A; rfl))); obtain ⟨m', k⟩ := A; have ha : k ≤ (restsN l id).length ∧ m' = ((restsN l id).take k).foldl (fun m r => rchF l f r m) (m.set id.toNat true) := ha)
        | (guard_target = Gh _ _ _ _ _; refine Gh.go ⟨((rchF l f ((restsN l id).getD k 0) m', k + 1) : List Bool × Nat), (by (have hk' : k < (restsN l id).length := (by show k < (l.getD (spotN l false id).toNat n0).entry.rests.length; omega); refine ⟨hk', ?_⟩; show rchF _ _ _ m' = _; rw [hstep k hk', ha.2])), (by first | (show _ < _; simp only []; omega) | omega | (simp; omega)), (by (repeat' first | exact trivial | exact rfl | refine ⟨?_, ?_⟩); done), (by (repeat' first | exact trivial | exact rfl | refine ⟨?_, ?_⟩); done), (by (repeat' first | exact trivial | exact rfl | refine ⟨?_, ?_⟩ | (simp only [List.map_append, List.map_cons, List.map_nil, List.map_set]; first | done | rfl)); done)⟩)
        | (guard_target = Fact _ _; refine Fact.mk fun hL => ?_; (try simp only [List.length_map, maxLen] at hL))
        | (guard_target = Branch _ _ _; (first | refine Branch.dec (fun h => ?_) (fun h => ?_) | refine Branch.beq (fun h => ?_) (fun h => ?_) | refine Branch.bne (fun h => ?_) (fun h => ?_) | refine Branch.ndec (fun h => ?_) (fun h => ?_) | refine Branch.nb (fun h => ?_) (fun h => ?_) | refine Branch.mk (fun h => ?_) (fun h => ?_)) <;> (try simp only [List.length_map] at h) <;> (try omega) <;> (try contradiction))
        | (guard_target = CallN _ 69 _ _ _ _; refine CallN.pure _ _ rfl (l08Spot_ok l false id) rfl _ rfl ?_)
        | (guard_target = CallN _ 127 _ _ _ _; refine CallN.gen [false, false, true] _ _ _ rfl (l08Reach_ok l hv f ((restsN l id).getD k 0) m' (by rw [ha.2, rch_fold, List.length_set]; exact hlm) (hget k (by show k < (l.getD (spotN l false id).toNat n0).entry.rests.length; omega)).1 (by have := (hget k (by show k < (l.getD (spotN l false id).toNat n0).entry.rests.length; omega)).2; omega)) rfl rfl _ rfl ?_)
        | (guard_target = Arith _ _ _; refine Arith.fit (wrap_fit (by first | omega | (simp only [List.length_map]; omega)) (by first | omega | (simp only [List.length_map]; omega))) ?_)
        | (guard_target = Arith _ _ _; refine Arith.fit (by decide) ?_)
        | (guard_target = Index _ _ _; first | refine Index.mk _ (idx_getD (d := false) (i := id.toNat) (by omega)) ?_ | refine Index.mk _ (idx_getD (d := n0) (i := (spotN l false id).toNat) (know_idx hk)) ?_ | refine Index.mk _ (idx_getD (l := restsN l id) (d := 0) (i := k) (by show k < (l.getD (spotN l false id).toNat n0).entry.rests.length; omega)) ?_ | refine Index.mk _ (idx_map (by omega)) ?_)
        | (guard_target = Need (chkDraw _ = true) _; refine Need.mk (by kernel_rfl) ?_)
        | (guard_target = Need (chkRecs _ _ = true) _; refine Need.mk (by first | kernel_rfl | rfl) ?_)
        | (guard_target = Need _ _; refine Need.mk (by first | (exact hk) | omega | (simp only [List.length_map]; omega)) ?_))
      all_goals first | rfl | trivial | (have h9 := ha.2; rw [List.take_of_length_le (by show (l.getD (spotN l false id).toNat n0).entry.rests.length ≤ k; omega)] at h9; rw [← h9]; exact ⟨rfl, trivial⟩)
theorem l08Closure_ok (l : List XNote) (id : Int) (hv : VN l) (hk : known l id) : CallX Tryz.prog 77 [.c (.ro 7 (l.map encNote)), I id] [] (.c (.ows 4 1 ((markN l id).map eB))) := by
  have h100 : spotN l false id < ((l.length + 1 : Nat) : Int) := by
    have := (idxP_lo (noteIs false id) l).2
    unfold spotN
    omega
  have hr := l08Reach_ok l hv (l.length + 1) id (List.replicate 100 false) (by simp) hk h100
  refine callX_of_vc htb hm Tryz.func77 rfl rfl rfl rfl (ann := fun _ => none) (gh := fun _ => false) ?_
  repeat' ((conv => whnf); first
    | (guard_target = Done _; refine Done.mk ?_)
    | (guard_target = RetX _ _; refine RetX.mk ?_ ?_)
    | (guard_target = Fact _ _; refine Fact.mk fun hL => ?_; (try simp only [List.length_map, maxLen] at hL))
    | (guard_target = Branch _ _ _; (first | refine Branch.dec (fun h => ?_) (fun h => ?_) | refine Branch.beq (fun h => ?_) (fun h => ?_) | refine Branch.bne (fun h => ?_) (fun h => ?_) | refine Branch.ndec (fun h => ?_) (fun h => ?_) | refine Branch.nb (fun h => ?_) (fun h => ?_) | refine Branch.mk (fun h => ?_) (fun h => ?_)) <;> (try simp only [List.length_map] at h) <;> (try omega) <;> (try contradiction))
    | (guard_target = CallN _ 127 _ _ _ _; refine CallN.gen [false, false, true] _ _ _ rfl (hr) rfl rfl _ rfl ?_)
    | (guard_target = Arith _ _ _; refine Arith.fit (wrap_fit (by first | omega | (simp only [List.length_map]; omega)) (by first | omega | (simp only [List.length_map]; omega))) ?_)
    | (guard_target = Arith _ _ _; refine Arith.fit (by decide) ?_)
    | (guard_target = Index _ _ _; first  | refine Index.mk _ (idx_map (by omega)) ?_)
    | (guard_target = Need (chkDraw _ = true) _; refine Need.mk (by kernel_rfl) ?_)
    | (guard_target = Need (chkRecs _ _ = true) _; refine Need.mk (by first | kernel_rfl | rfl) ?_)
    | (guard_target = Need _ _; refine Need.mk (by first | ((constructor <;> decide)) | omega | (simp only [List.length_map]; omega)) ?_))
  all_goals first | rfl | trivial
theorem l08Marked_ok (m : List Bool) (hm1 : m.length = 100) : CallX Tryz.prog 76 [.c (.ro 1 (m.map eB))] [] (.c (.ows 2 1 ((selR 100 fun i => m.getD i false).map eI))) := by
  have hb := fun i => selR_len i fun i => m.getD i false
  refine callX_of_vc htb hm Tryz.func76 rfl rfl rfl rfl (ann := fun _ => none) (gh := fun _ => false) ?_
  repeat' ((conv => whnf); first
    | (guard_target = Done _; refine Done.mk ?_)
    | (guard_target = RetX _ _; refine RetX.mk ?_ ?_)
    | (guard_target =~ LoopE 3 _ _ _ _ _ _; refine LoopE.mk { α := List Int × Nat, keep := [0], ov := fun ⟨R, i⟩ => [(3, .lw 1), (4, I (i : Nat))], hv := fun ⟨R, i⟩ => [(1, .row none 2 1 (R.map eI))], φ := fun ⟨R, i⟩ => i ≤ m.length ∧ R = selR i (fun i => m.getD i false), μ := fun ⟨R, i⟩ => m.length - i } (LoopN.mk (([], 0) : List Int × Nat) (by exact ⟨Nat.zero_le _, rfl⟩) (by (repeat' first | exact trivial | exact rfl | refine ⟨?_, ?_⟩); done) (by (repeat' first | exact trivial | exact rfl | refine ⟨?_, ?_⟩); done) (by (repeat' first | exact trivial | exact rfl | refine ⟨?_, ?_⟩ | (simp only [List.map_append, List.map_cons, List.map_nil, List.map_set]; first | done | rfl)); done) (fun A ha => ?_) (by intro A; first | rfl | (obtain ⟨_, _⟩ := A; rfl) | (obtain ⟨_, _, _⟩ := A; rfl))); obtain ⟨R, i⟩ := A; have ha : i ≤ m.length ∧ R = selR i (fun i => m.getD i false) := ha; have hb1 := hb i; rw [← ha.2] at hb1)
    | (guard_target = Gh _ _ _ _ _; refine Gh.go ⟨((R ++ [(i : Int)], i + 1) : List Int × Nat), (by (refine ⟨by show i + 1 ≤ _; omega, ?_⟩; show R ++ _ = _; rw [selR_yes h, ha.2])), (by first | (show _ < _; simp only []; omega) | omega | (simp; omega)), (by (repeat' first | exact trivial | exact rfl | refine ⟨?_, ?_⟩); done), (by (repeat' first | exact trivial | exact rfl | refine ⟨?_, ?_⟩); done), (by (repeat' first | exact trivial | exact rfl | refine ⟨?_, ?_⟩ | (simp only [List.map_append, List.map_cons, List.map_nil, List.map_set]; first | done | rfl)); done)⟩)
    | (guard_target = Gh _ _ _ _ _; refine Gh.go ⟨((R, i + 1) : List Int × Nat), (by (refine ⟨by show i + 1 ≤ _; omega, ?_⟩; show R = _; rw [selR_no h, ha.2])), (by first | (show _ < _; simp only []; omega) | omega | (simp; omega)), (by (repeat' first | exact trivial | exact rfl | refine ⟨?_, ?_⟩); done), (by (repeat' first | exact trivial | exact rfl | refine ⟨?_, ?_⟩); done), (by (repeat' first | exact trivial | exact rfl | refine ⟨?_, ?_⟩ | (simp only [List.map_append, List.map_cons, List.map_nil, List.map_set]; first | done | rfl)); done)⟩)
    | (guard_target = Fact _ _; refine Fact.mk fun hL => ?_; (try simp only [List.length_map, maxLen] at hL))
    | (guard_target = Branch _ _ _; (first | refine Branch.dec (fun h => ?_) (fun h => ?_) | refine Branch.beq (fun h => ?_) (fun h => ?_) | refine Branch.bne (fun h => ?_) (fun h => ?_) | refine Branch.ndec (fun h => ?_) (fun h => ?_) | refine Branch.nb (fun h => ?_) (fun h => ?_) | refine Branch.mk (fun h => ?_) (fun h => ?_)) <;> (try simp only [List.length_map] at h) <;> (try omega) <;> (try contradiction))
    | (guard_target = Arith _ _ _; refine Arith.fit (wrap_fit (by first | omega | (simp only [List.length_map]; omega)) (by first | omega | (simp only [List.length_map]; omega))) ?_)
    | (guard_target = Arith _ _ _; refine Arith.fit (by decide) ?_)
    | (guard_target = Index _ _ _; first | refine Index.mk _ (idx_getD (d := false) (i := i) (by omega)) ?_ | refine Index.mk _ (idx_map (by omega)) ?_)
    | (guard_target = Need (chkDraw _ = true) _; refine Need.mk (by kernel_rfl) ?_)
    | (guard_target = Need (chkRecs _ _ = true) _; refine Need.mk (by first | kernel_rfl | rfl) ?_)
    | (guard_target = Need _ _; refine Need.mk (by first | ((simp only [List.length_map, List.length_cons, List.length_nil, maxLen]; constructor <;> omega)) | omega | (simp only [List.length_map]; omega)) ?_))
  all_goals first | rfl | trivial | (have e : i = 100 := (by omega); have h9 := ha.2; rw [e] at h9; rw [h9]; done)
end Go.Proofs.YtbbaadkgmdkjdaaGreat

namespace Go.Proofs.YtbbaadkgmdkjdaaGreat
open Go Go.KA Go.Proofs
set_option maxHeartbeats 16000000
set_option maxRecDepth 100000
abbrev srvN (a : XArchive) (s : Int) : List XNote := (a.servers.getD s.toNat s00).notes
/-- what the question about a lemma is answered, where the lemma is known -/
theorem srv_vn {a : XArchive} {s id : Int} (h : askN a s id = 0) : VN (srvN a s) ∧ s.toNat < a.servers.length ∧ 0 ≤ s ∧ (srvN a s).length ≤ 20 ∧ 0 ≤ id ∧ id ≤ 99 := by
  have hg := ask_ok h
  have hs := place_lt hg.2.1
  have hn := srv_notes hg.1 hs.2
  exact ⟨VN.of hn.1, hs.2, hs.1, hn.2, rng_le hg.2.2⟩
theorem closN_len (l : List XNote) (id : Int) : (closN l id).length ≤ 100 := selR_len 100 _
section
variable (a : XArchive) (s id : Int) (hl : budArchive a ≤ 1048576)
include hl
theorem ClosureOf_bad (h : ¬ askN a s id = 0) : CallX Tryz.prog 33 [encA a, I s, I id] [] (resI [] (askN a s id)) := by
  refine callX_of_vc htb hm Tryz.func33 rfl rfl rfl rfl (ann := fun _ => none) (gh := fun _ => false) ?_
  repeat' ((conv => whnf); first
    | (guard_target = Done _; refine Done.mk ?_)
    | (guard_target = RetX _ _; refine RetX.mk ?_ ?_)
    | (guard_target = Fact _ _; refine Fact.mk fun hL => ?_; (try simp only [List.length_map, maxLen] at hL))
    | (guard_target = Branch _ _ _; (first | refine Branch.dec (fun h => ?_) (fun h => ?_) | refine Branch.beq (fun h => ?_) (fun h => ?_) | refine Branch.bne (fun h => ?_) (fun h => ?_) | refine Branch.ndec (fun h => ?_) (fun h => ?_) | refine Branch.nb (fun h => ?_) (fun h => ?_) | refine Branch.mk (fun h => ?_) (fun h => ?_)) <;> (try simp only [List.length_map] at h) <;> (try omega) <;> (try contradiction))
    | (guard_target = CallN _ 70 _ _ _ _; refine CallN.pure _ _ rfl (askServer_ok a s id hl) rfl _ rfl ?_)
    | (guard_target = Arith _ _ _; refine Arith.fit (wrap_fit (by first | omega | (simp only [List.length_map]; omega)) (by first | omega | (simp only [List.length_map]; omega))) ?_)
    | (guard_target = Arith _ _ _; refine Arith.fit (by decide) ?_)
    | (guard_target = Index _ _ _; first  | refine Index.mk _ (idx_map (by omega)) ?_)
    | (guard_target = Need (chkDraw _ = true) _; refine Need.mk (by kernel_rfl) ?_)
    | (guard_target = Need (chkRecs _ _ = true) _; refine Need.mk (by first | kernel_rfl | rfl) ?_)
    | (guard_target = Need _ _; refine Need.mk (by first  | omega | (simp only [List.length_map]; omega)) ?_))
  all_goals first | rfl | trivial
theorem ClosureOf_no (h : askN a s id = 0) (hk : ¬ known (srvN a s) id) : CallX Tryz.prog 33 [encA a, I s, I id] [] (resI [] 6) := by
  have hg := srv_vn h
  have hq := askServer_ok a s id hl
  rw [h] at hq
  unfold known at hk
  refine callX_of_vc htb hm Tryz.func33 rfl rfl rfl rfl (ann := fun _ => none) (gh := fun _ => false) ?_
  repeat' ((conv => whnf); first
    | (guard_target = Done _; refine Done.mk ?_)
    | (guard_target = RetX _ _; refine RetX.mk ?_ ?_)
    | (guard_target = Fact _ _; refine Fact.mk fun hL => ?_; (try simp only [List.length_map, maxLen] at hL))
    | (guard_target = Branch _ _ _; (first | refine Branch.dec (fun h => ?_) (fun h => ?_) | refine Branch.beq (fun h => ?_) (fun h => ?_) | refine Branch.bne (fun h => ?_) (fun h => ?_) | refine Branch.ndec (fun h => ?_) (fun h => ?_) | refine Branch.nb (fun h => ?_) (fun h => ?_) | refine Branch.mk (fun h => ?_) (fun h => ?_)) <;> (try simp only [List.length_map] at h) <;> (try omega) <;> (try contradiction))
    | (guard_target = CallN _ 70 _ _ _ _; refine CallN.pure _ _ rfl (hq) rfl _ rfl ?_)
    | (guard_target = CallN _ 71 _ _ _ _; refine CallN.pure _ _ rfl (find_ok (srvN a s) false id) rfl _ rfl ?_)
    | (guard_target = Arith _ _ _; refine Arith.fit (wrap_fit (by first | omega | (simp only [List.length_map]; omega)) (by first | omega | (simp only [List.length_map]; omega))) ?_)
    | (guard_target = Arith _ _ _; refine Arith.fit (by decide) ?_)
    | (guard_target = Index _ _ _; first | refine Index.mk _ (idx_getD (d := s00) (i := s.toNat) hg.2.1) ?_ | refine Index.mk _ (idx_map (by omega)) ?_)
    | (guard_target = Need (chkDraw _ = true) _; refine Need.mk (by kernel_rfl) ?_)
    | (guard_target = Need (chkRecs _ _ = true) _; refine Need.mk (by first | kernel_rfl | rfl) ?_)
    | (guard_target = Need _ _; refine Need.mk (by first  | omega | (simp only [List.length_map]; omega)) ?_))
  all_goals first | rfl | trivial
theorem ClosureOf_ok (h : askN a s id = 0) (hk : known (srvN a s) id) : CallX Tryz.prog 33 [encA a, I s, I id] [] (resI (closN (srvN a s) id) 0) := by
  have hg := srv_vn h
  have hq := askServer_ok a s id hl
  rw [h] at hq
  have hc := closure_ok (srvN a s) id hg.1 hk
  unfold known at hk
  refine callX_of_vc htb hm Tryz.func33 rfl rfl rfl rfl (ann := fun _ => none) (gh := fun _ => false) ?_
  repeat' ((conv => whnf); first
    | (guard_target = Done _; refine Done.mk ?_)
    | (guard_target = RetX _ _; refine RetX.mk ?_ ?_)
    | (guard_target = Fact _ _; refine Fact.mk fun hL => ?_; (try simp only [List.length_map, maxLen] at hL))
    | (guard_target = Branch _ _ _; (first | refine Branch.dec (fun h => ?_) (fun h => ?_) | refine Branch.beq (fun h => ?_) (fun h => ?_) | refine Branch.bne (fun h => ?_) (fun h => ?_) | refine Branch.ndec (fun h => ?_) (fun h => ?_) | refine Branch.nb (fun h => ?_) (fun h => ?_) | refine Branch.mk (fun h => ?_) (fun h => ?_)) <;> (try simp only [List.length_map] at h) <;> (try omega) <;> (try contradiction))
    | (guard_target = CallN _ 70 _ _ _ _; refine CallN.pure _ _ rfl (hq) rfl _ rfl ?_)
    | (guard_target = CallN _ 71 _ _ _ _; refine CallN.pure _ _ rfl (find_ok (srvN a s) false id) rfl _ rfl ?_)
    | (guard_target = CallN _ 78 _ _ _ _; refine CallN.gen [] _ _ _ rfl (hc) rfl rfl _ rfl ?_)
    | (guard_target = Arith _ _ _; refine Arith.fit (wrap_fit (by first | omega | (simp only [List.length_map]; omega)) (by first | omega | (simp only [List.length_map]; omega))) ?_)
    | (guard_target = Arith _ _ _; refine Arith.fit (by decide) ?_)
    | (guard_target = Index _ _ _; first | refine Index.mk _ (idx_getD (d := s00) (i := s.toNat) hg.2.1) ?_ | refine Index.mk _ (idx_map (by omega)) ?_)
    | (guard_target = Need (chkDraw _ = true) _; refine Need.mk (by kernel_rfl) ?_)
    | (guard_target = Need (chkRecs _ _ = true) _; refine Need.mk (by first | kernel_rfl | rfl) ?_)
    | (guard_target = Need _ _; refine Need.mk (by first  | omega | (simp only [List.length_map]; omega)) ?_))
  all_goals first | rfl | trivial
theorem specClosureOf_bad (h : ¬ askN a s id = 0) : CallX Tryz.prog 32 [encA a, I s, I id] [] (resI [] (askN a s id)) := by
  refine callX_of_vc htb hm Tryz.func32 rfl rfl rfl rfl (ann := fun _ => none) (gh := fun _ => false) ?_
  repeat' ((conv => whnf); first
    | (guard_target = Done _; refine Done.mk ?_)
    | (guard_target = RetX _ _; refine RetX.mk ?_ ?_)
    | (guard_target = Fact _ _; refine Fact.mk fun hL => ?_; (try simp only [List.length_map, maxLen] at hL))
    | (guard_target = Branch _ _ _; (first | refine Branch.dec (fun h => ?_) (fun h => ?_) | refine Branch.beq (fun h => ?_) (fun h => ?_) | refine Branch.bne (fun h => ?_) (fun h => ?_) | refine Branch.ndec (fun h => ?_) (fun h => ?_) | refine Branch.nb (fun h => ?_) (fun h => ?_) | refine Branch.mk (fun h => ?_) (fun h => ?_)) <;> (try simp only [List.length_map] at h) <;> (try omega) <;> (try contradiction))
    | (guard_target = CallN _ 68 _ _ _ _; refine CallN.pure _ _ rfl (l08Asked_ok a s id hl) rfl _ rfl ?_)
    | (guard_target = Arith _ _ _; refine Arith.fit (wrap_fit (by first | omega | (simp only [List.length_map]; omega)) (by first | omega | (simp only [List.length_map]; omega))) ?_)
    | (guard_target = Arith _ _ _; refine Arith.fit (by decide) ?_)
    | (guard_target = Index _ _ _; first  | refine Index.mk _ (idx_map (by omega)) ?_)
    | (guard_target = Need (chkDraw _ = true) _; refine Need.mk (by kernel_rfl) ?_)
    | (guard_target = Need (chkRecs _ _ = true) _; refine Need.mk (by first | kernel_rfl | rfl) ?_)
    | (guard_target = Need _ _; refine Need.mk (by first  | omega | (simp only [List.length_map]; omega)) ?_))
  all_goals first | rfl | trivial
theorem specClosureOf_no (h : askN a s id = 0) (hk : ¬ known (srvN a s) id) : CallX Tryz.prog 32 [encA a, I s, I id] [] (resI [] 6) := by
  have hg := srv_vn h
  have hq := l08Asked_ok a s id hl
  rw [h] at hq
  unfold known at hk
  refine callX_of_vc htb hm Tryz.func32 rfl rfl rfl rfl (ann := fun _ => none) (gh := fun _ => false) ?_
  repeat' ((conv => whnf); first
    | (guard_target = Done _; refine Done.mk ?_)
    | (guard_target = RetX _ _; refine RetX.mk ?_ ?_)
    | (guard_target = Fact _ _; refine Fact.mk fun hL => ?_; (try simp only [List.length_map, maxLen] at hL))
    | (guard_target = Branch _ _ _; (first | refine Branch.dec (fun h => ?_) (fun h => ?_) | refine Branch.beq (fun h => ?_) (fun h => ?_) | refine Branch.bne (fun h => ?_) (fun h => ?_) | refine Branch.ndec (fun h => ?_) (fun h => ?_) | refine Branch.nb (fun h => ?_) (fun h => ?_) | refine Branch.mk (fun h => ?_) (fun h => ?_)) <;> (try simp only [List.length_map] at h) <;> (try omega) <;> (try contradiction))
    | (guard_target = CallN _ 68 _ _ _ _; refine CallN.pure _ _ rfl (hq) rfl _ rfl ?_)
    | (guard_target = CallN _ 69 _ _ _ _; refine CallN.pure _ _ rfl (l08Spot_ok (srvN a s) false id) rfl _ rfl ?_)
    | (guard_target = Arith _ _ _; refine Arith.fit (wrap_fit (by first | omega | (simp only [List.length_map]; omega)) (by first | omega | (simp only [List.length_map]; omega))) ?_)
    | (guard_target = Arith _ _ _; refine Arith.fit (by decide) ?_)
    | (guard_target = Index _ _ _; first | refine Index.mk _ (idx_getD (d := s00) (i := s.toNat) hg.2.1) ?_ | refine Index.mk _ (idx_map (by omega)) ?_)
    | (guard_target = Need (chkDraw _ = true) _; refine Need.mk (by kernel_rfl) ?_)
    | (guard_target = Need (chkRecs _ _ = true) _; refine Need.mk (by first | kernel_rfl | rfl) ?_)
    | (guard_target = Need _ _; refine Need.mk (by first  | omega | (simp only [List.length_map]; omega)) ?_))
  all_goals first | rfl | trivial
theorem specClosureOf_ok (h : askN a s id = 0) (hk : known (srvN a s) id) : CallX Tryz.prog 32 [encA a, I s, I id] [] (resI (closN (srvN a s) id) 0) := by
  have hg := srv_vn h
  have hq := l08Asked_ok a s id hl
  rw [h] at hq
  have hc := l08Closure_ok (srvN a s) id hg.1 hk
  have hm2 := l08Marked_ok (markN (srvN a s) id) (mark_len _ _)
  rw [mark_sel hg.1 hk] at hm2
  have hp : pureT (.c (.ows 2 1 ((closN (srvN a s) id).map eI))) := pureLL_ints _
  unfold known at hk
  refine callX_of_vc htb hm Tryz.func32 rfl rfl rfl rfl (ann := fun _ => none) (gh := fun _ => false) ?_
  repeat' ((conv => whnf); first
    | (guard_target = Done _; refine Done.mk ?_)
    | (guard_target = RetX _ _; refine RetX.mk ?_ ?_)
    | (guard_target = Fact _ _; refine Fact.mk fun hL => ?_; (try simp only [List.length_map, maxLen] at hL))
    | (guard_target = Branch _ _ _; (first | refine Branch.dec (fun h => ?_) (fun h => ?_) | refine Branch.beq (fun h => ?_) (fun h => ?_) | refine Branch.bne (fun h => ?_) (fun h => ?_) | refine Branch.ndec (fun h => ?_) (fun h => ?_) | refine Branch.nb (fun h => ?_) (fun h => ?_) | refine Branch.mk (fun h => ?_) (fun h => ?_)) <;> (try simp only [List.length_map] at h) <;> (try omega) <;> (try contradiction))
    | (guard_target = CallN _ 68 _ _ _ _; refine CallN.pure _ _ rfl (hq) rfl _ rfl ?_)
    | (guard_target = CallN _ 69 _ _ _ _; refine CallN.pure _ _ rfl (l08Spot_ok (srvN a s) false id) rfl _ rfl ?_)
    | (guard_target = CallN _ 77 _ _ _ _; refine CallN.gen [] _ _ _ rfl (hc) rfl rfl _ rfl ?_)
    | (guard_target = CallN _ 76 _ _ _ _; refine CallN.own _ _ rfl hm2 hp _ rfl ?_)
    | (guard_target = Arith _ _ _; refine Arith.fit (wrap_fit (by first | omega | (simp only [List.length_map]; omega)) (by first | omega | (simp only [List.length_map]; omega))) ?_)
    | (guard_target = Arith _ _ _; refine Arith.fit (by decide) ?_)
    | (guard_target = Index _ _ _; first | refine Index.mk _ (idx_getD (d := s00) (i := s.toNat) hg.2.1) ?_ | refine Index.mk _ (idx_map (by omega)) ?_)
    | (guard_target = Need (chkDraw _ = true) _; refine Need.mk (by kernel_rfl) ?_)
    | (guard_target = Need (chkRecs _ _ = true) _; refine Need.mk (by first | kernel_rfl | rfl) ?_)
    | (guard_target = Need _ _; refine Need.mk (by first  | omega | (simp only [List.length_map]; omega)) ?_))
  all_goals first | rfl | trivial
end
theorem ClosureOf_big (a : XArchive) (s id : Int) (hl : ¬ budArchive a ≤ 1048576) : CallF Tryz.prog 8 [encA a, I s, I id] (B true) := by
  have hz := szArchive_ok a 1048576 (by omega)
  rw [szr_neg (by omega)] at hz
  refine callF_of_vc htb hm Tryz.func8 rfl rfl rfl rfl (ann := fun _ => none) (gh := fun _ => false) ?_
  repeat' ((conv => whnf); first
    | (guard_target = Done _; refine Done.mk ?_; first | (rfl; done) | skip)
    | (guard_target = RetX _ _; refine RetX.mk ?_ ?_)
    | (guard_target = Fact _ _; refine Fact.mk fun hL => ?_; (try simp only [List.length_map, maxLen] at hL))
    | (guard_target = Branch _ _ _; (first | refine Branch.dec (fun h => ?_) (fun h => ?_) | refine Branch.beq (fun h => ?_) (fun h => ?_) | refine Branch.bne (fun h => ?_) (fun h => ?_) | refine Branch.ndec (fun h => ?_) (fun h => ?_) | refine Branch.nb (fun h => ?_) (fun h => ?_) | refine Branch.mk (fun h => ?_) (fun h => ?_)) <;> (try simp only [List.length_map] at h) <;> (try omega) <;> (try contradiction))
    | (guard_target = CallN _ 12 _ _ _ _; refine CallN.pure _ _ rfl (hz) rfl _ rfl ?_)
    | (guard_target = Arith _ _ _; refine Arith.fit (wrap_fit (by first | omega | (simp only [List.length_map]; omega)) (by first | omega | (simp only [List.length_map]; omega))) ?_)
    | (guard_target = Arith _ _ _; refine Arith.fit (by decide) ?_)
    | (guard_target = Index _ _ _; first  | refine Index.mk _ (idx_map (by omega)) ?_)
    | (guard_target = Need (chkDraw _ = true) _; refine Need.mk (by kernel_rfl) ?_)
    | (guard_target = Need (chkRecs _ _ = true) _; refine Need.mk (by first | kernel_rfl | rfl) ?_)
    | (guard_target = Need _ _; refine Need.mk (by first  | omega | (simp only [List.length_map]; omega)) ?_))
theorem ClosureOf_same (a : XArchive) (s id : Int) (hl : budArchive a ≤ 1048576) (l : List Int) (c : Int) (hll : l.length ≤ 1000000) (hs0 : CallX Tryz.prog 32 [encA a, I s, I id] [] (resI l c)) (hi0 : CallX Tryz.prog 33 [encA a, I s, I id] [] (resI l c)) : CallF Tryz.prog 8 [encA a, I s, I id] (B true) := by
  have hz := szArchive_ok a 1048576 (by omega)
  rw [szr_eq hl] at hz
  have hs : CallX Tryz.prog 32 [.a 4 (roL (ownArchive a)), I s, I id] [] (resI l c) := by rw [roArchive]; exact hs0
  have hi : CallX Tryz.prog 33 [.a 4 (roL (ownArchive a)), I s, I id] [] (resI l c) := by rw [roArchive]; exact hi0
  have hk := mkArch_le a hl
  have hp := pure_resI l c
  refine callF_of_vc htb hm Tryz.func8 rfl rfl rfl rfl (ann := fun _ => none) (gh := fun _ => false) ?_
  repeat' ((conv => whnf); first
    | (guard_target = Done _; refine Done.mk ?_; first | (rfl; done) | skip)
    | (guard_target = RetX _ _; refine RetX.mk ?_ ?_)
    | (guard_target = Fact _ _; refine Fact.mk fun hL => ?_; (try simp only [List.length_map, maxLen] at hL))
    | (guard_target = Branch _ _ _; (first | refine Branch.dec (fun h => ?_) (fun h => ?_) | refine Branch.beq (fun h => ?_) (fun h => ?_) | refine Branch.bne (fun h => ?_) (fun h => ?_) | refine Branch.ndec (fun h => ?_) (fun h => ?_) | refine Branch.nb (fun h => ?_) (fun h => ?_) | refine Branch.mk (fun h => ?_) (fun h => ?_)) <;> (try simp only [List.length_map] at h) <;> (try omega) <;> (try contradiction))
    | (guard_target = CallN _ 12 _ _ _ _; refine CallN.pure _ _ rfl (hz) rfl _ rfl ?_)
    | (guard_target = CallN _ 14 _ _ _ _; refine CallN.gen [] _ _ _ rfl (toArchive_ok a hl) rfl rfl _ rfl ?_)
    | (guard_target = CallN _ 24 _ _ _ _; refine CallN.pure _ _ rfl (eqI_told l) rfl _ rfl ?_)
    | (guard_target = CallN _ 16 _ _ _ _; refine CallN.pure _ _ rfl (eqArch_own a) rfl _ rfl ?_)
    | (guard_target = CallN _ 25 _ _ _ _; refine CallN.gen [true, false] _ _ _ rfl (markArchive_ok a 1 (by omega) (by omega)) rfl rfl _ rfl ?_)
    | (guard_target = CallN _ 26 _ _ _ _; refine CallN.gen [true, false] _ _ _ rfl (markInt64S_told l 1 (by omega) (by omega)) rfl rfl _ rfl ?_)
    | (guard_target = CallN _ 27 _ _ _ _; refine CallN.pure _ _ rfl (heldInt64S_told l.length 1 (by omega) (by omega)) rfl _ rfl ?_)
    | (guard_target = CallN _ 32 _ _ _ _; refine CallN.own _ _ rfl hs hp _ rfl ?_)
    | (guard_target = CallN _ 33 _ _ _ _; refine CallN.own _ _ rfl hi hp _ rfl ?_)
    | (guard_target = Arith _ _ _; refine Arith.fit (wrap_fit (by first | omega | (simp only [List.length_map]; omega)) (by first | omega | (simp only [List.length_map]; omega))) ?_)
    | (guard_target = Arith _ _ _; refine Arith.fit (by decide) ?_)
    | (guard_target = Index _ _ _; first  | refine Index.mk _ (idx_map (by omega)) ?_)
    | (guard_target = Need (chkDraw _ = true) _; refine Need.mk (by kernel_rfl) ?_)
    | (guard_target = Need (chkRecs _ _ = true) _; refine Need.mk (by first | kernel_rfl | rfl) ?_)
    | (guard_target = Need _ _; refine Need.mk (by first  | omega | (simp only [List.length_map]; omega)) ?_))
theorem ClosureOf_law (a : XArchive) (s id : Int) : CallF Tryz.prog 8 [encA a, I s, I id] (B true) := by
  by_cases hl : budArchive a ≤ 1048576
  case neg => exact ClosureOf_big a s id hl
  by_cases h : askN a s id = 0
  · by_cases hk : known (srvN a s) id
    · have h2 := closN_len (srvN a s) id
      exact ClosureOf_same a s id hl _ _ (by omega) (specClosureOf_ok a s id hl h hk) (ClosureOf_ok a s id hl h hk)
    · exact ClosureOf_same a s id hl [] _ (by simp) (specClosureOf_no a s id hl h hk) (ClosureOf_no a s id hl h hk)
  · exact ClosureOf_same a s id hl [] _ (by simp) (specClosureOf_bad a s id hl h) (ClosureOf_bad a s id hl h)
end Go.Proofs.YtbbaadkgmdkjdaaGreat

namespace Go.Proofs.YtbbaadkgmdkjdaaGreat
open Go Go.KA Go.Proofs
set_option maxHeartbeats 16000000
set_option maxRecDepth 100000
theorem dep_next {p : Int → Bool} {l : List Int} {i : Nat} (h : i < l.length) : (l.take (i + 1)).filter p = (l.take i).filter p ++ (if p l[i] = true then [l[i]] else []) := by
  rw [List.take_succ_eq_append_getElem h, List.filter_append]
  by_cases hp : p l[i] = true
  · simp [hp]
  · simp [hp]
noncomputable def depP (l : List XNote) (id : Int) (x : Int) : Bool := cdec (Rch l x id)
noncomputable def depN (l : List XNote) (id : Int) : List Int := (sortI (idsN l false)).filter (depP l id)
theorem ids_known {l : List XNote} {k : Nat} (h : k < (sortI (idsN l false)).length) : known l ((sortI (idsN l false)).getD k 0) := by
  rw [getD_eq h]
  have h1 : (sortI (idsN l false))[k] ∈ sortI (idsN l false) := List.getElem_mem h
  exact mem_ids.1 ((sortI_perm _).mem_iff.1 h1)
theorem dep_mem {l : List XNote} (hv : VN l) {id x : Int} (hk : known l x) : memB id (closN l x) = depP l id x := by
  unfold memB depP
  by_cases h : Rch l x id
  · rw [cdec_yes h]; exact decide_eq_true ((mem_clos hv hk).2 h)
  · rw [cdec_no h]; exact decide_eq_false fun h2 => h ((mem_clos hv hk).1 h2)
theorem dep_mark {l : List XNote} (hv : VN l) {id x : Int} (hk : known l x) (hi : 0 ≤ id) : (markN l x).getD id.toNat false = depP l id x := by
  rw [mark_get hv hk]
  unfold depP
  rw [show ((id.toNat : Nat) : Int) = id by omega]
section
variable (a : XArchive) (s id : Int) (hl : budArchive a ≤ 1048576)
include hl
theorem DependentsOf_bad (h : ¬ askN a s id = 0) : CallX Tryz.prog 35 [encA a, I s, I id] [] (resI [] (askN a s id)) := by
  refine callX_of_vc htb hm Tryz.func35 rfl rfl rfl rfl (ann := fun _ => none) (gh := fun _ => false) ?_
  repeat' ((conv => whnf); first
    | (guard_target = Done _; refine Done.mk ?_)
    | (guard_target = RetX _ _; refine RetX.mk ?_ ?_)
    | (guard_target = Fact _ _; refine Fact.mk fun hL => ?_; (try simp only [List.length_map, maxLen] at hL))
    | (guard_target = Branch _ _ _; (first | refine Branch.dec (fun h => ?_) (fun h => ?_) | refine Branch.beq (fun h => ?_) (fun h => ?_) | refine Branch.bne (fun h => ?_) (fun h => ?_) | refine Branch.ndec (fun h => ?_) (fun h => ?_) | refine Branch.nb (fun h => ?_) (fun h => ?_) | refine Branch.mk (fun h => ?_) (fun h => ?_)) <;> (try simp only [List.length_map] at h) <;> (try omega) <;> (try contradiction))
    | (guard_target = CallN _ 70 _ _ _ _; refine CallN.pure _ _ rfl (askServer_ok a s id hl) rfl _ rfl ?_)
    | (guard_target = Arith _ _ _; refine Arith.fit (wrap_fit (by first | omega | (simp only [List.length_map]; omega)) (by first | omega | (simp only [List.length_map]; omega))) ?_)
    | (guard_target = Arith _ _ _; refine Arith.fit (by decide) ?_)
    | (guard_target = Index _ _ _; first  | refine Index.mk _ (idx_map (by omega)) ?_)
    | (guard_target = Need (chkDraw _ = true) _; refine Need.mk (by kernel_rfl) ?_)
    | (guard_target = Need (chkRecs _ _ = true) _; refine Need.mk (by first | kernel_rfl | rfl) ?_)
    | (guard_target = Need _ _; refine Need.mk (by first  | omega | (simp only [List.length_map]; omega)) ?_))
  all_goals first | rfl | trivial
theorem DependentsOf_no (h : askN a s id = 0) (hk : ¬ known (srvN a s) id) : CallX Tryz.prog 35 [encA a, I s, I id] [] (resI [] 6) := by
  have hg := srv_vn h
  have hq := askServer_ok a s id hl
  rw [h] at hq
  unfold known at hk
  refine callX_of_vc htb hm Tryz.func35 rfl rfl rfl rfl (ann := fun _ => none) (gh := fun _ => false) ?_
  repeat' ((conv => whnf); first
    | (guard_target = Done _; refine Done.mk ?_)
    | (guard_target = RetX _ _; refine RetX.mk ?_ ?_)
    | (guard_target = Fact _ _; refine Fact.mk fun hL => ?_; (try simp only [List.length_map, maxLen] at hL))
    | (guard_target = Branch _ _ _; (first | refine Branch.dec (fun h => ?_) (fun h => ?_) | refine Branch.beq (fun h => ?_) (fun h => ?_) | refine Branch.bne (fun h => ?_) (fun h => ?_) | refine Branch.ndec (fun h => ?_) (fun h => ?_) | refine Branch.nb (fun h => ?_) (fun h => ?_) | refine Branch.mk (fun h => ?_) (fun h => ?_)) <;> (try simp only [List.length_map] at h) <;> (try omega) <;> (try contradiction))
    | (guard_target = CallN _ 70 _ _ _ _; refine CallN.pure _ _ rfl (hq) rfl _ rfl ?_)
    | (guard_target = CallN _ 71 _ _ _ _; refine CallN.pure _ _ rfl (find_ok (srvN a s) false id) rfl _ rfl ?_)
    | (guard_target = Arith _ _ _; refine Arith.fit (wrap_fit (by first | omega | (simp only [List.length_map]; omega)) (by first | omega | (simp only [List.length_map]; omega))) ?_)
    | (guard_target = Arith _ _ _; refine Arith.fit (by decide) ?_)
    | (guard_target = Index _ _ _; first | refine Index.mk _ (idx_getD (d := s00) (i := s.toNat) hg.2.1) ?_ | refine Index.mk _ (idx_map (by omega)) ?_)
    | (guard_target = Need (chkDraw _ = true) _; refine Need.mk (by kernel_rfl) ?_)
    | (guard_target = Need (chkRecs _ _ = true) _; refine Need.mk (by first | kernel_rfl | rfl) ?_)
    | (guard_target = Need _ _; refine Need.mk (by first  | omega | (simp only [List.length_map]; omega)) ?_))
  all_goals first | rfl | trivial
theorem DependentsOf_ok (h : askN a s id = 0) (hk : known (srvN a s) id) : CallX Tryz.prog 35 [encA a, I s, I id] [] (resI (depN (srvN a s) id) 0) := by
  have hg := srv_vn h
  have hq := askServer_ok a s id hl
  rw [h] at hq
  have hlen := sortI_len (idsN (srvN a s) false)
  have hlen2 := ids_len (srvN a s) false
  have hids := idsOf_ok (srvN a s) false hg.2.2.2.1
  have hkn := fun k => ids_known (l := srvN a s) (k := k)
  have hdm := fun x => dep_mem hg.1 (id := id) (x := x)
  unfold known at hk
  generalize hI : sortI (idsN (srvN a s) false) = L at *
  refine callX_of_vc htb hm Tryz.func35 rfl rfl rfl rfl (ann := fun _ => none) (gh := fun _ => false) ?_
  repeat' ((conv => whnf); first
    | (guard_target = Done _; refine Done.mk ?_)
    | (guard_target = RetX _ _; refine RetX.mk ?_ ?_)
    | (guard_target =~ LoopE 9 _ _ _ _ _ _; refine LoopE.mk { α := List Int × Nat, keep := [2, 9, 32, 33], ov := fun ⟨R, i⟩ => [(10, .lw 2), (34, I (i : Nat))], hv := fun ⟨R, i⟩ => [(2, .row none 2 1 (R.map eI))], φ := fun ⟨R, i⟩ => i ≤ L.length ∧ R.length ≤ i ∧ R = (L.take i).filter (depP (srvN a s) id), μ := fun ⟨R, i⟩ => L.length - i } (LoopN.mk (([], 0) : List Int × Nat) (by exact ⟨Nat.zero_le _, Nat.zero_le _, rfl⟩) (by (repeat' first | exact trivial | exact rfl | refine ⟨?_, ?_⟩); done) (by (repeat' first | exact trivial | exact rfl | refine ⟨?_, ?_⟩); done) (by (repeat' first | exact trivial | exact rfl | refine ⟨?_, ?_⟩ | (simp only [List.map_append, List.map_cons, List.map_nil, List.map_set]; first | done | rfl)); done) (fun A ha => ?_) (by intro A; first | rfl | (obtain ⟨_, _⟩ := A; rfl) | (obtain ⟨_, _, _⟩ := A; rfl))); obtain ⟨R, i⟩ := A; have ha : i ≤ L.length ∧ R.length ≤ i ∧ R = (L.take i).filter (depP (srvN a s) id) := ha)
    | (guard_target = Gh _ _ _ _ _; refine Gh.go ⟨((R ++ [L.getD i 0], i + 1) : List Int × Nat), (by (have hi : i < L.length := (by omega); have h3 := hdm _ (hkn i hi); have h4 : memB id (closN (srvN a s) (L.getD i 0)) = true := decide_eq_true h; rw [h4, getD_eq hi] at h3; refine ⟨hi, by show (R ++ [_]).length ≤ _; simp; omega, ?_⟩; show R ++ _ = _; rw [dep_next hi, if_pos h3.symm, ← ha.2.2, getD_eq hi])), (by first | (show _ < _; simp only []; omega) | omega | (simp; omega)), (by (repeat' first | exact trivial | exact rfl | refine ⟨?_, ?_⟩); done), (by (repeat' first | exact trivial | exact rfl | refine ⟨?_, ?_⟩); done), (by (repeat' first | exact trivial | exact rfl | refine ⟨?_, ?_⟩ | (simp only [List.map_append, List.map_cons, List.map_nil, List.map_set]; first | done | rfl)); done)⟩)
    | (guard_target = Gh _ _ _ _ _; refine Gh.go ⟨((R, i + 1) : List Int × Nat), (by (have hi : i < L.length := (by omega); have h3 := hdm _ (hkn i hi); have h4 : memB id (closN (srvN a s) (L.getD i 0)) = false := decide_eq_false h; rw [h4, getD_eq hi] at h3; refine ⟨hi, by show R.length ≤ _; omega, ?_⟩; show R = _; rw [dep_next hi, if_neg (by rw [← h3]; decide), List.append_nil, ← ha.2.2])), (by first | (show _ < _; simp only []; omega) | omega | (simp; omega)), (by (repeat' first | exact trivial | exact rfl | refine ⟨?_, ?_⟩); done), (by (repeat' first | exact trivial | exact rfl | refine ⟨?_, ?_⟩); done), (by (repeat' first | exact trivial | exact rfl | refine ⟨?_, ?_⟩ | (simp only [List.map_append, List.map_cons, List.map_nil, List.map_set]; first | done | rfl)); done)⟩)
    | (guard_target = Fact _ _; refine Fact.mk fun hL => ?_; (try simp only [List.length_map, maxLen] at hL))
    | (guard_target = Branch _ _ _; (first | refine Branch.dec (fun h => ?_) (fun h => ?_) | refine Branch.beq (fun h => ?_) (fun h => ?_) | refine Branch.bne (fun h => ?_) (fun h => ?_) | refine Branch.ndec (fun h => ?_) (fun h => ?_) | refine Branch.nb (fun h => ?_) (fun h => ?_) | refine Branch.mk (fun h => ?_) (fun h => ?_)) <;> (try simp only [List.length_map] at h) <;> (try omega) <;> (try contradiction))
    | (guard_target = CallN _ 70 _ _ _ _; refine CallN.pure _ _ rfl (hq) rfl _ rfl ?_)
    | (guard_target = CallN _ 71 _ _ _ _; refine CallN.pure _ _ rfl (find_ok (srvN a s) false id) rfl _ rfl ?_)
    | (guard_target = CallN _ 75 _ _ _ _; refine CallN.gen [] _ _ _ rfl (hids) rfl rfl _ rfl ?_)
    | (guard_target = CallN _ 78 _ _ _ _; refine CallN.gen [] _ _ _ rfl (closure_ok (srvN a s) (L.getD i 0) hg.1 (hkn i (by omega))) rfl rfl _ rfl ?_)
    | (guard_target = CallN _ 79 _ _ _ _; refine CallN.pure _ _ rfl (Contains_ok (closN (srvN a s) (L.getD i 0)) id) rfl _ rfl ?_)
    | (guard_target = Arith _ _ _; refine Arith.fit (wrap_fit (by first | omega | (simp only [List.length_map]; omega)) (by first | omega | (simp only [List.length_map]; omega))) ?_)
    | (guard_target = Arith _ _ _; refine Arith.fit (by decide) ?_)
    | (guard_target = Index _ _ _; first | refine Index.mk _ (idx_getD (d := s00) (i := s.toNat) hg.2.1) ?_ | refine Index.mk _ (idx_getD (d := 0) (i := i) (l := L) (by omega)) ?_ | refine Index.mk _ (idx_map (by omega)) ?_)
    | (guard_target = Need (chkDraw _ = true) _; refine Need.mk (by kernel_rfl) ?_)
    | (guard_target = Need (chkRecs _ _ = true) _; refine Need.mk (by first | kernel_rfl | rfl) ?_)
    | (guard_target = Need _ _; refine Need.mk (by first | ((simp only [List.length_map, List.length_cons, List.length_nil, maxLen]; constructor <;> omega)) | omega | (simp only [List.length_map]; omega)) ?_))
  all_goals first | rfl | trivial | (have h9 := ha.2.2; rw [List.take_of_length_le (by omega), ← hI] at h9; rw [h9]; rfl)
theorem specDependentsOf_bad (h : ¬ askN a s id = 0) : CallX Tryz.prog 34 [encA a, I s, I id] [] (resI [] (askN a s id)) := by
  refine callX_of_vc htb hm Tryz.func34 rfl rfl rfl rfl (ann := fun _ => none) (gh := fun _ => false) ?_
  repeat' ((conv => whnf); first
    | (guard_target = Done _; refine Done.mk ?_)
    | (guard_target = RetX _ _; refine RetX.mk ?_ ?_)
    | (guard_target = Fact _ _; refine Fact.mk fun hL => ?_; (try simp only [List.length_map, maxLen] at hL))
    | (guard_target = Branch _ _ _; (first | refine Branch.dec (fun h => ?_) (fun h => ?_) | refine Branch.beq (fun h => ?_) (fun h => ?_) | refine Branch.bne (fun h => ?_) (fun h => ?_) | refine Branch.ndec (fun h => ?_) (fun h => ?_) | refine Branch.nb (fun h => ?_) (fun h => ?_) | refine Branch.mk (fun h => ?_) (fun h => ?_)) <;> (try simp only [List.length_map] at h) <;> (try omega) <;> (try contradiction))
    | (guard_target = CallN _ 68 _ _ _ _; refine CallN.pure _ _ rfl (l08Asked_ok a s id hl) rfl _ rfl ?_)
    | (guard_target = Arith _ _ _; refine Arith.fit (wrap_fit (by first | omega | (simp only [List.length_map]; omega)) (by first | omega | (simp only [List.length_map]; omega))) ?_)
    | (guard_target = Arith _ _ _; refine Arith.fit (by decide) ?_)
    | (guard_target = Index _ _ _; first  | refine Index.mk _ (idx_map (by omega)) ?_)
    | (guard_target = Need (chkDraw _ = true) _; refine Need.mk (by kernel_rfl) ?_)
    | (guard_target = Need (chkRecs _ _ = true) _; refine Need.mk (by first | kernel_rfl | rfl) ?_)
    | (guard_target = Need _ _; refine Need.mk (by first  | omega | (simp only [List.length_map]; omega)) ?_))
  all_goals first | rfl | trivial
theorem specDependentsOf_no (h : askN a s id = 0) (hk : ¬ known (srvN a s) id) : CallX Tryz.prog 34 [encA a, I s, I id] [] (resI [] 6) := by
  have hg := srv_vn h
  have hq := l08Asked_ok a s id hl
  rw [h] at hq
  unfold known at hk
  refine callX_of_vc htb hm Tryz.func34 rfl rfl rfl rfl (ann := fun _ => none) (gh := fun _ => false) ?_
  repeat' ((conv => whnf); first
    | (guard_target = Done _; refine Done.mk ?_)
    | (guard_target = RetX _ _; refine RetX.mk ?_ ?_)
    | (guard_target = Fact _ _; refine Fact.mk fun hL => ?_; (try simp only [List.length_map, maxLen] at hL))
    | (guard_target = Branch _ _ _; (first | refine Branch.dec (fun h => ?_) (fun h => ?_) | refine Branch.beq (fun h => ?_) (fun h => ?_) | refine Branch.bne (fun h => ?_) (fun h => ?_) | refine Branch.ndec (fun h => ?_) (fun h => ?_) | refine Branch.nb (fun h => ?_) (fun h => ?_) | refine Branch.mk (fun h => ?_) (fun h => ?_)) <;> (try simp only [List.length_map] at h) <;> (try omega) <;> (try contradiction))
    | (guard_target = CallN _ 68 _ _ _ _; refine CallN.pure _ _ rfl (hq) rfl _ rfl ?_)
    | (guard_target = CallN _ 69 _ _ _ _; refine CallN.pure _ _ rfl (l08Spot_ok (srvN a s) false id) rfl _ rfl ?_)
    | (guard_target = Arith _ _ _; refine Arith.fit (wrap_fit (by first | omega | (simp only [List.length_map]; omega)) (by first | omega | (simp only [List.length_map]; omega))) ?_)
    | (guard_target = Arith _ _ _; refine Arith.fit (by decide) ?_)
    | (guard_target = Index _ _ _; first | refine Index.mk _ (idx_getD (d := s00) (i := s.toNat) hg.2.1) ?_ | refine Index.mk _ (idx_map (by omega)) ?_)
    | (guard_target = Need (chkDraw _ = true) _; refine Need.mk (by kernel_rfl) ?_)
    | (guard_target = Need (chkRecs _ _ = true) _; refine Need.mk (by first | kernel_rfl | rfl) ?_)
    | (guard_target = Need _ _; refine Need.mk (by first  | omega | (simp only [List.length_map]; omega)) ?_))
  all_goals first | rfl | trivial
theorem specDependentsOf_ok (h : askN a s id = 0) (hk : known (srvN a s) id) : CallX Tryz.prog 34 [encA a, I s, I id] [] (resI (depN (srvN a s) id) 0) := by
  have hg := srv_vn h
  have hq := l08Asked_ok a s id hl
  rw [h] at hq
  have hlen := sortI_len (idsN (srvN a s) false)
  have hlen2 := ids_len (srvN a s) false
  have hids := l08Ids_ok (srvN a s) false
  rw [← ids_sel (srv_notes (ask_ok h).1 hg.2.1).1] at hids
  have hkn := fun k => ids_known (l := srvN a s) (k := k)
  have hdm := fun x hx => dep_mark hg.1 (id := id) (x := x) hx hg.2.2.2.2.1
  have hml := fun x => mark_len (srvN a s) x
  unfold known at hk
  generalize hI : sortI (idsN (srvN a s) false) = L at *
  refine callX_of_vc htb hm Tryz.func34 rfl rfl rfl rfl (ann := fun _ => none) (gh := fun _ => false) ?_
  repeat' ((conv => whnf); first
    | (guard_target = Done _; refine Done.mk ?_)
    | (guard_target = RetX _ _; refine RetX.mk ?_ ?_)
    | (guard_target =~ LoopE 10 _ _ _ _ _ _; refine LoopE.mk { α := List Int × Nat, keep := [2, 9, 10], ov := fun ⟨R, i⟩ => [(11, .lw 3), (12, I (i : Nat))], hv := fun ⟨R, i⟩ => [(3, .row none 2 1 (R.map eI))], φ := fun ⟨R, i⟩ => i ≤ L.length ∧ R.length ≤ i ∧ R = (L.take i).filter (depP (srvN a s) id), μ := fun ⟨R, i⟩ => L.length - i } (LoopN.mk (([], 0) : List Int × Nat) (by exact ⟨Nat.zero_le _, Nat.zero_le _, rfl⟩) (by (repeat' first | exact trivial | exact rfl | refine ⟨?_, ?_⟩); done) (by (repeat' first | exact trivial | exact rfl | refine ⟨?_, ?_⟩); done) (by (repeat' first | exact trivial | exact rfl | refine ⟨?_, ?_⟩ | (simp only [List.map_append, List.map_cons, List.map_nil, List.map_set]; first | done | rfl)); done) (fun A ha => ?_) (by intro A; first | rfl | (obtain ⟨_, _⟩ := A; rfl) | (obtain ⟨_, _, _⟩ := A; rfl))); obtain ⟨R, i⟩ := A; have ha : i ≤ L.length ∧ R.length ≤ i ∧ R = (L.take i).filter (depP (srvN a s) id) := ha)
    | (guard_target = Gh _ _ _ _ _; refine Gh.go ⟨((R ++ [L.getD i 0], i + 1) : List Int × Nat), (by (have hi : i < L.length := (by omega); have h3 := hdm _ (hkn i hi); rw [h, getD_eq hi] at h3; refine ⟨hi, by show (R ++ [_]).length ≤ _; simp; omega, ?_⟩; show R ++ _ = _; rw [dep_next hi, if_pos h3.symm, ← ha.2.2, getD_eq hi])), (by first | (show _ < _; simp only []; omega) | omega | (simp; omega)), (by (repeat' first | exact trivial | exact rfl | refine ⟨?_, ?_⟩); done), (by (repeat' first | exact trivial | exact rfl | refine ⟨?_, ?_⟩); done), (by (repeat' first | exact trivial | exact rfl | refine ⟨?_, ?_⟩ | (simp only [List.map_append, List.map_cons, List.map_nil, List.map_set]; first | done | rfl)); done)⟩)
    | (guard_target = Gh _ _ _ _ _; refine Gh.go ⟨((R, i + 1) : List Int × Nat), (by (have hi : i < L.length := (by omega); have h3 := hdm _ (hkn i hi); rw [h, getD_eq hi] at h3; refine ⟨hi, by show R.length ≤ _; omega, ?_⟩; show R = _; rw [dep_next hi, if_neg (by rw [← h3]; decide), List.append_nil, ← ha.2.2])), (by first | (show _ < _; simp only []; omega) | omega | (simp; omega)), (by (repeat' first | exact trivial | exact rfl | refine ⟨?_, ?_⟩); done), (by (repeat' first | exact trivial | exact rfl | refine ⟨?_, ?_⟩); done), (by (repeat' first | exact trivial | exact rfl | refine ⟨?_, ?_⟩ | (simp only [List.map_append, List.map_cons, List.map_nil, List.map_set]; first | done | rfl)); done)⟩)
    | (guard_target = Fact _ _; refine Fact.mk fun hL => ?_; (try simp only [List.length_map, maxLen] at hL))
    | (guard_target = Branch _ _ _; (first | refine Branch.dec (fun h => ?_) (fun h => ?_) | refine Branch.beq (fun h => ?_) (fun h => ?_) | refine Branch.bne (fun h => ?_) (fun h => ?_) | refine Branch.ndec (fun h => ?_) (fun h => ?_) | refine Branch.nb (fun h => ?_) (fun h => ?_) | refine Branch.mk (fun h => ?_) (fun h => ?_)) <;> (try simp only [List.length_map] at h) <;> (try omega) <;> (try contradiction))
    | (guard_target = CallN _ 68 _ _ _ _; refine CallN.pure _ _ rfl (hq) rfl _ rfl ?_)
    | (guard_target = CallN _ 69 _ _ _ _; refine CallN.pure _ _ rfl (l08Spot_ok (srvN a s) false id) rfl _ rfl ?_)
    | (guard_target = CallN _ 74 _ _ _ _; refine CallN.gen [] _ _ _ rfl (hids) rfl rfl _ rfl ?_)
    | (guard_target = CallN _ 77 _ _ _ _; refine CallN.gen [] _ _ _ rfl (l08Closure_ok (srvN a s) (L.getD i 0) hg.1 (hkn i (by omega))) rfl rfl _ rfl ?_)
    | (guard_target = Arith _ _ _; refine Arith.fit (wrap_fit (by first | omega | (simp only [List.length_map]; omega)) (by first | omega | (simp only [List.length_map]; omega))) ?_)
    | (guard_target = Arith _ _ _; refine Arith.fit (by decide) ?_)
    | (guard_target = Index _ _ _; first | refine Index.mk _ (idx_getD (d := s00) (i := s.toNat) hg.2.1) ?_ | refine Index.mk _ (idx_getD (d := 0) (i := i) (l := L) (by omega)) ?_ | refine Index.mk _ (idx_getD (d := false) (i := id.toNat) (l := markN (srvN a s) (L.getD i 0)) (by rw [hml]; omega)) ?_ | refine Index.mk _ (idx_map (by omega)) ?_)
    | (guard_target = Need (chkDraw _ = true) _; refine Need.mk (by kernel_rfl) ?_)
    | (guard_target = Need (chkRecs _ _ = true) _; refine Need.mk (by first | kernel_rfl | rfl) ?_)
    | (guard_target = Need _ _; refine Need.mk (by first | ((simp only [List.length_map, List.length_cons, List.length_nil, maxLen]; constructor <;> omega)) | ((simp only [List.length_map, hml]; omega)) | omega | (simp only [List.length_map]; omega)) ?_))
  all_goals first | rfl | trivial | (have h9 := ha.2.2; rw [List.take_of_length_le (by omega), ← hI] at h9; rw [h9]; rfl)
end
theorem DependentsOf_big (a : XArchive) (s id : Int) (hl : ¬ budArchive a ≤ 1048576) : CallF Tryz.prog 9 [encA a, I s, I id] (B true) := by
  have hz := szArchive_ok a 1048576 (by omega)
  rw [szr_neg (by omega)] at hz
  refine callF_of_vc htb hm Tryz.func9 rfl rfl rfl rfl (ann := fun _ => none) (gh := fun _ => false) ?_
  repeat' ((conv => whnf); first
    | (guard_target = Done _; refine Done.mk ?_; first | (rfl; done) | skip)
    | (guard_target = RetX _ _; refine RetX.mk ?_ ?_)
    | (guard_target = Fact _ _; refine Fact.mk fun hL => ?_; (try simp only [List.length_map, maxLen] at hL))
    | (guard_target = Branch _ _ _; (first | refine Branch.dec (fun h => ?_) (fun h => ?_) | refine Branch.beq (fun h => ?_) (fun h => ?_) | refine Branch.bne (fun h => ?_) (fun h => ?_) | refine Branch.ndec (fun h => ?_) (fun h => ?_) | refine Branch.nb (fun h => ?_) (fun h => ?_) | refine Branch.mk (fun h => ?_) (fun h => ?_)) <;> (try simp only [List.length_map] at h) <;> (try omega) <;> (try contradiction))
    | (guard_target = CallN _ 12 _ _ _ _; refine CallN.pure _ _ rfl (hz) rfl _ rfl ?_)
    | (guard_target = Arith _ _ _; refine Arith.fit (wrap_fit (by first | omega | (simp only [List.length_map]; omega)) (by first | omega | (simp only [List.length_map]; omega))) ?_)
    | (guard_target = Arith _ _ _; refine Arith.fit (by decide) ?_)
    | (guard_target = Index _ _ _; first  | refine Index.mk _ (idx_map (by omega)) ?_)
    | (guard_target = Need (chkDraw _ = true) _; refine Need.mk (by kernel_rfl) ?_)
    | (guard_target = Need (chkRecs _ _ = true) _; refine Need.mk (by first | kernel_rfl | rfl) ?_)
    | (guard_target = Need _ _; refine Need.mk (by first  | omega | (simp only [List.length_map]; omega)) ?_))
theorem DependentsOf_same (a : XArchive) (s id : Int) (hl : budArchive a ≤ 1048576) (l : List Int) (c : Int) (hll : l.length ≤ 1000000) (hs0 : CallX Tryz.prog 34 [encA a, I s, I id] [] (resI l c)) (hi0 : CallX Tryz.prog 35 [encA a, I s, I id] [] (resI l c)) : CallF Tryz.prog 9 [encA a, I s, I id] (B true) := by
  have hz := szArchive_ok a 1048576 (by omega)
  rw [szr_eq hl] at hz
  have hs : CallX Tryz.prog 34 [.a 4 (roL (ownArchive a)), I s, I id] [] (resI l c) := by rw [roArchive]; exact hs0
  have hi : CallX Tryz.prog 35 [.a 4 (roL (ownArchive a)), I s, I id] [] (resI l c) := by rw [roArchive]; exact hi0
  have hk := mkArch_le a hl
  have hp := pure_resI l c
  refine callF_of_vc htb hm Tryz.func9 rfl rfl rfl rfl (ann := fun _ => none) (gh := fun _ => false) ?_
  repeat' ((conv => whnf); first
    | (guard_target = Done _; refine Done.mk ?_; first | (rfl; done) | skip)
    | (guard_target = RetX _ _; refine RetX.mk ?_ ?_)
    | (guard_target = Fact _ _; refine Fact.mk fun hL => ?_; (try simp only [List.length_map, maxLen] at hL))
    | (guard_target = Branch _ _ _; (first | refine Branch.dec (fun h => ?_) (fun h => ?_) | refine Branch.beq (fun h => ?_) (fun h => ?_) | refine Branch.bne (fun h => ?_) (fun h => ?_) | refine Branch.ndec (fun h => ?_) (fun h => ?_) | refine Branch.nb (fun h => ?_) (fun h => ?_) | refine Branch.mk (fun h => ?_) (fun h => ?_)) <;> (try simp only [List.length_map] at h) <;> (try omega) <;> (try contradiction))
    | (guard_target = CallN _ 12 _ _ _ _; refine CallN.pure _ _ rfl (hz) rfl _ rfl ?_)
    | (guard_target = CallN _ 14 _ _ _ _; refine CallN.gen [] _ _ _ rfl (toArchive_ok a hl) rfl rfl _ rfl ?_)
    | (guard_target = CallN _ 24 _ _ _ _; refine CallN.pure _ _ rfl (eqI_told l) rfl _ rfl ?_)
    | (guard_target = CallN _ 16 _ _ _ _; refine CallN.pure _ _ rfl (eqArch_own a) rfl _ rfl ?_)
    | (guard_target = CallN _ 25 _ _ _ _; refine CallN.gen [true, false] _ _ _ rfl (markArchive_ok a 1 (by omega) (by omega)) rfl rfl _ rfl ?_)
    | (guard_target = CallN _ 26 _ _ _ _; refine CallN.gen [true, false] _ _ _ rfl (markInt64S_told l 1 (by omega) (by omega)) rfl rfl _ rfl ?_)
    | (guard_target = CallN _ 27 _ _ _ _; refine CallN.pure _ _ rfl (heldInt64S_told l.length 1 (by omega) (by omega)) rfl _ rfl ?_)
    | (guard_target = CallN _ 34 _ _ _ _; refine CallN.own _ _ rfl hs hp _ rfl ?_)
    | (guard_target = CallN _ 35 _ _ _ _; refine CallN.own _ _ rfl hi hp _ rfl ?_)
    | (guard_target = Arith _ _ _; refine Arith.fit (wrap_fit (by first | omega | (simp only [List.length_map]; omega)) (by first | omega | (simp only [List.length_map]; omega))) ?_)
    | (guard_target = Arith _ _ _; refine Arith.fit (by decide) ?_)
    | (guard_target = Index _ _ _; first  | refine Index.mk _ (idx_map (by omega)) ?_)
    | (guard_target = Need (chkDraw _ = true) _; refine Need.mk (by kernel_rfl) ?_)
    | (guard_target = Need (chkRecs _ _ = true) _; refine Need.mk (by first | kernel_rfl | rfl) ?_)
    | (guard_target = Need _ _; refine Need.mk (by first  | omega | (simp only [List.length_map]; omega)) ?_))
theorem depN_len {l : List XNote} (h : l.length ≤ 20) (id : Int) : (depN l id).length ≤ 20 := by
  have h1 : (depN l id).length ≤ (sortI (idsN l false)).length := List.length_filter_le _ _
  have h2 := sortI_len (idsN l false)
  have h3 := ids_len l false
  omega
theorem DependentsOf_law (a : XArchive) (s id : Int) : CallF Tryz.prog 9 [encA a, I s, I id] (B true) := by
  by_cases hl : budArchive a ≤ 1048576
  case neg => exact DependentsOf_big a s id hl
  by_cases h : askN a s id = 0
  · by_cases hk : known (srvN a s) id
    · have h2 := depN_len (srv_vn h).2.2.2.1 id
      exact DependentsOf_same a s id hl _ _ (by omega) (specDependentsOf_ok a s id hl h hk) (DependentsOf_ok a s id hl h hk)
    · exact DependentsOf_same a s id hl [] _ (by simp) (specDependentsOf_no a s id hl h hk) (DependentsOf_no a s id hl h hk)
  · exact DependentsOf_same a s id hl [] _ (by simp) (specDependentsOf_bad a s id hl h) (DependentsOf_bad a s id hl h)
end Go.Proofs.YtbbaadkgmdkjdaaGreat
