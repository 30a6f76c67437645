/- Plain laws on the closure of a lemma among the notes of a valid server. No conditions. -/
import Derived.Test.YtbbaadkgmdkjdaaGreatZC
import Derived.Test.YtbbaadkgmdkjdaaGreatZe
namespace Go.Proofs.YtbbaadkgmdkjdaaGreat
open Go Go.KA Go.Proofs
set_option maxHeartbeats 16000000
set_option maxRecDepth 100000
theorem idxP_take {α : Type} {p : α → Bool} {l : List α} {k : Nat} (h : 0 ≤ idxP p (l.take k)) : idxP p l = idxP p (l.take k) ∧ idxP p l < k := by
  rcases idxP_or p (l.take k) with ⟨h1, _⟩ | ⟨i, hi, h1, h2, h3⟩
  · omega
  · rw [List.length_take] at hi
    have h4 : idxP p l = i := by
      refine idxP_at (show i < l.length by omega) ?_ (by rwa [List.getElem_take] at h2)
      rw [List.all_eq_true]
      intro x hx
      obtain ⟨j, hj, rfl⟩ := List.mem_iff_getElem.1 hx
      rw [List.length_take] at hj
      have := h3 j (by omega)
      rw [List.getElem_take] at this ⊢
      rw [this]
      rfl
    omega
theorem idxP_get {α : Type} {p : α → Bool} {l : List α} (h : 0 ≤ idxP p l) : ∃ hi : (idxP p l).toNat < l.length, p (l[(idxP p l).toNat]'hi) = true := by
  rcases idxP_or p l with ⟨h1, _⟩ | ⟨i, hi, h1, h2, h3⟩
  · omega
  · rw [h1]
    exact ⟨by simpa using hi, by simpa using h2⟩
def noteOf (l : List XNote) (x : Int) : XNote := l.getD (spotN l false x).toNat n0
def restsN (l : List XNote) (x : Int) : List Int := (noteOf l x).entry.rests
abbrev known (l : List XNote) (x : Int) : Prop := 0 ≤ spotN l false x
structure VN (l : List XNote) : Prop where
  rests : ∀ x, known l x → ∀ z ∈ restsN l x, known l z ∧ spotN l false z < spotN l false x
  range : ∀ r x, 0 ≤ spotN l r x → 0 ≤ x ∧ x ≤ 99
theorem VN.of {t a : Int} {l : List XNote} (hg : goodNotes t a l = true) : VN l := by
  refine ⟨fun x hx z hz => ?_, fun r x hx => ids_range hg r x (mem_ids.2 hx)⟩
  obtain ⟨hi, hp⟩ := idxP_get (p := noteIs false x) (l := l) hx
  have h1 := (gn_get hg hi).2.2
  have hz' : z ∈ (l[(idxP (noteIs false x) l).toNat]).entry.rests := by
    have : noteOf l x = l[(idxP (noteIs false x) l).toNat] := getD_eq hi
    unfold restsN at hz
    rwa [this] at hz
  have h2 := List.all_eq_true.1 h1 z hz'
  unfold hasN at h2
  have h2 := of_decide_eq_true h2
  unfold spotN at h2
  obtain ⟨h3, h4⟩ := idxP_take h2
  unfold known spotN
  unfold known spotN at hx
  constructor
  · rw [h3]; exact h2
  · omega
inductive Rch (l : List XNote) : Int → Int → Prop
  | refl (x : Int) : Rch l x x
  | head {x y z : Int} (h : y ∈ restsN l x) (ht : Rch l y z) : Rch l x z
theorem Rch.tail {l : List XNote} {x y z : Int} (h : Rch l x y) (hz : z ∈ restsN l y) : Rch l x z := by
  induction h with
  | refl x => exact .head hz (.refl _)
  | head h _ ih => exact .head h (ih hz)
theorem Rch.iff {l : List XNote} {x z : Int} : Rch l x z ↔ z = x ∨ ∃ y ∈ restsN l x, Rch l y z := by
  constructor
  · intro h
    cases h with
    | refl => exact .inl rfl
    | head h ht => exact .inr ⟨_, h, ht⟩
  · rintro (rfl | ⟨y, h, ht⟩)
    · exact .refl _
    · exact .head h ht
theorem Rch.known {l : List XNote} (hv : VN l) {x y : Int} (h : Rch l x y) : known l x → known l y ∧ spotN l false y ≤ spotN l false x := by
  induction h with
  | refl x => exact fun hx => ⟨hx, Int.le_refl _⟩
  | head h _ ih =>
    intro hx
    have h1 := hv.rests _ hx _ h
    have h2 := ih h1.1
    exact ⟨h2.1, by omega⟩
noncomputable def closN (l : List XNote) (id : Int) : List Int := selR 100 fun i => cdec (Rch l id i)
theorem mem_clos {l : List XNote} (hv : VN l) {id : Int} (hk : known l id) {x : Int} : x ∈ closN l id ↔ Rch l id x := by
  unfold closN
  rw [selR_mem]
  constructor
  · rintro ⟨i, _, h2, rfl⟩; exact cdec_of h2
  · intro h
    have h1 := hv.range _ _ (h.known hv hk).1
    refine ⟨x.toNat, by omega, ?_, by omega⟩
    rw [show ((x.toNat : Nat) : Int) = x by omega]
    exact cdec_yes h
/-! ### breadth first -/
structure Cl (l : List XNote) (id : Int) (R : List Int) (i : Nat) : Prop where
  nodup : R.Nodup
  mem : ∀ x ∈ R, Rch l id x
  root : id ∈ R
  done : ∀ x ∈ R.take i, ∀ z ∈ restsN l x, z ∈ R
  lt : i ≤ R.length
structure Cl2 (l : List XNote) (id : Int) (R0 : List Int) (i : Nat) (R : List Int) (k : Nat) : Prop where
  hi : i < R0.length
  nodup : R.Nodup
  mem : ∀ x ∈ R, Rch l id x
  root : id ∈ R
  pre : ∃ T, R = R0 ++ T
  done : ∀ x ∈ R0.take i, ∀ z ∈ restsN l x, z ∈ R
  part : ∀ z ∈ (restsN l (R0.getD i 0)).take k, z ∈ R
  lt : k ≤ (restsN l (R0.getD i 0)).length
theorem nodup_len {R : List Int} (h : R.Nodup) (hr : ∀ x ∈ R, 0 ≤ x ∧ x ≤ 99) : R.length ≤ 100 := by
  have h2 := sort_sel (p := fun i => decide ((i : Int) ∈ R)) h hr fun i _ => by rw [decide_eq_true_iff]
  have h3 := selR_len 100 fun i => decide ((i : Int) ∈ R)
  rw [← h2, sortI_len] at h3
  exact h3
section
variable {l : List XNote} {id : Int} {R R0 : List Int} {i k : Nat}
theorem Cl.zero : Cl l id [id] 0 := ⟨by simp, by simp; exact .refl _, by simp, by simp, by simp⟩
theorem Cl.len (h : Cl l id R i) (hv : VN l) (hk : known l id) : R.length ≤ 100 := nodup_len h.nodup fun x hx => hv.range _ _ ((h.mem x hx).known hv hk).1
theorem Cl2.len (h : Cl2 l id R0 i R k) (hv : VN l) (hk : known l id) : R.length ≤ 100 := nodup_len h.nodup fun x hx => hv.range _ _ ((h.mem x hx).known hv hk).1
theorem Cl.know (h : Cl l id R i) (hv : VN l) (hk : known l id) (hi : i < R.length) : known l (R.getD i 0) := by
  rw [getD_eq hi]
  exact ((h.mem _ (List.getElem_mem hi)).known hv hk).1
theorem Cl.open (h : Cl l id R i) (hi : i < R.length) : Cl2 l id R i R 0 := ⟨hi, h.nodup, h.mem, h.root, ⟨[], by simp⟩, h.done, by simp, Nat.zero_le _⟩
theorem Cl2.skip (h : Cl2 l id R0 i R k) (hk : k < (restsN l (R0.getD i 0)).length) (hm : (restsN l (R0.getD i 0))[k] ∈ R) : Cl2 l id R0 i R (k + 1) := by
  refine ⟨h.hi, h.nodup, h.mem, h.root, h.pre, h.done, fun z hz => ?_, hk⟩
  rcases take_mem hk hz with hz | rfl
  · exact h.part z hz
  · exact hm
theorem Cl2.add (h : Cl2 l id R0 i R k) (hk : k < (restsN l (R0.getD i 0)).length) (hm : ¬ (restsN l (R0.getD i 0))[k] ∈ R) : Cl2 l id R0 i (R ++ [(restsN l (R0.getD i 0))[k]]) (k + 1) := by
  have hR : Rch l id (R0.getD i 0) := by
    obtain ⟨T, hT⟩ := h.pre
    refine h.mem _ ?_
    have h9 : R0[i]'(h.hi) ∈ R0 ++ T := List.mem_append.2 (.inl (List.getElem_mem _))
    rw [← hT] at h9
    rw [getD_eq h.hi]
    exact h9
  refine ⟨h.hi, List.nodup_append.2 ⟨h.nodup, by simp, fun x hx y hy => ?_⟩, fun x hx => ?_, List.mem_append.2 (.inl h.root), ?_, fun x hx z hz => List.mem_append.2 (.inl (h.done x hx z hz)), fun z hz => ?_, hk⟩
  · have hy := List.mem_singleton.1 hy
    subst hy
    rintro rfl
    exact hm hx
  · rcases List.mem_append.1 hx with hx | hx
    · exact h.mem x hx
    · rw [List.mem_singleton.1 hx]
      exact hR.tail (List.getElem_mem hk)
  · obtain ⟨T, hT⟩ := h.pre
    exact ⟨T ++ [_], by rw [hT, List.append_assoc]⟩
  · rcases take_mem hk hz with hz | rfl
    · exact List.mem_append.2 (.inl (h.part z hz))
    · simp
theorem Cl2.close (h : Cl2 l id R0 i R k) (hk : ¬ k < (restsN l (R0.getD i 0)).length) : Cl l id R (i + 1) := by
  obtain ⟨T, hT⟩ := h.pre
  have h1 : i < R.length := by rw [hT, List.length_append]; have := h.hi; omega
  refine ⟨h.nodup, h.mem, h.root, fun x hx z hz => ?_, h1⟩
  rcases take_mem h1 hx with hx | rfl
  · refine h.done x ?_ z hz
    rw [hT, List.take_append_of_le_length (by have := h.hi; omega)] at hx
    exact hx
  · have e : R[i] = R0.getD i 0 := by
      rw [getD_eq h.hi]
      simp only [hT]
      rw [List.getElem_append_left h.hi]
    rw [e] at hz
    refine h.part z ?_
    rw [List.take_of_length_le (by omega)]
    exact hz
theorem Cl.all (h : Cl l id R i) (hi : ¬ i < R.length) : ∀ x, x ∈ R ↔ Rch l id x := by
  have hd := h.done
  rw [List.take_of_length_le (by omega)] at hd
  refine fun x => ⟨h.mem x, fun hx => ?_⟩
  have key : ∀ y z, Rch l y z → y ∈ R → z ∈ R := by
    intro y z hyz
    induction hyz with
    | refl _ => exact fun h => h
    | head h _ ih => exact fun hy => ih (hd _ hy _ h)
  exact key _ _ hx h.root
theorem Cl.sorted (h : Cl l id R i) (hi : ¬ i < R.length) (hv : VN l) (hk : known l id) : sortI R = closN l id :=
  sortI_eq (selR_lt _ _) h.nodup fun x => by rw [h.all hi, mem_clos hv hk]
end
/-! ### depth first -/
def rchF (l : List XNote) : Nat → Int → List Bool → List Bool
  | 0, _, m => m
  | f + 1, id, m => if m.getD id.toNat false = true then m else (restsN l id).foldl (fun m r => rchF l f r m) (m.set id.toNat true)
theorem rchF_len (l : List XNote) : ∀ (f : Nat) (id : Int) (m : List Bool), (rchF l f id m).length = m.length
  | 0, _, _ => rfl
  | f + 1, id, m => by
    unfold rchF
    split
    · rfl
    · have key : ∀ (rs : List Int) (m : List Bool), (rs.foldl (fun m r => rchF l f r m) m).length = m.length := by
        intro rs
        induction rs with
        | nil => intro m; rfl
        | cons r rs ih => intro m; rw [List.foldl_cons, ih, rchF_len l f r m]
      rw [key, List.length_set]
def Mk (m : List Bool) (x : Int) : Prop := 0 ≤ x ∧ m.getD x.toNat false = true
def ClM (l : List XNote) (k : Int) (m : List Bool) : Prop := ∀ x, Mk m x → spotN l false x ≤ k → ∀ z ∈ restsN l x, Mk m z
theorem mk_set {m : List Bool} {id x : Int} (hi : 0 ≤ id ∧ id.toNat < m.length) : Mk (m.set id.toNat true) x ↔ Mk m x ∨ x = id := by
  unfold Mk
  by_cases e : x = id
  · subst e
    have : (m.set x.toNat true).getD x.toNat false = true := by
      rw [getD_eq (by rw [List.length_set]; exact hi.2), List.getElem_set_self]
    constructor
    · intro _; exact .inr rfl
    · intro _; exact ⟨hi.1, this⟩
  · constructor
    · rintro ⟨h1, h2⟩
      left
      refine ⟨h1, ?_⟩
      rw [List.getD_eq_getElem?_getD, List.getElem?_set_ne (by omega)] at h2
      rwa [List.getD_eq_getElem?_getD]
    · rintro (⟨h1, h2⟩ | h)
      · refine ⟨h1, ?_⟩
        rw [List.getD_eq_getElem?_getD, List.getElem?_set_ne (by omega)]
        rwa [List.getD_eq_getElem?_getD] at h2
      · exact absurd h e
theorem rchF_spec {l : List XNote} (hv : VN l) : ∀ (f : Nat) (id : Int) (m : List Bool), m.length = 100 → known l id → spotN l false id < f → ClM l (spotN l false id) m → ∀ x, Mk (rchF l f id m) x ↔ Mk m x ∨ Rch l id x
  | 0, id, m, _, hk, hf, _, x => by
    unfold known at hk
    omega
  | f + 1, id, m, hm, hk, hf, hc, x => by
    have hr := hv.range _ _ hk
    unfold rchF
    by_cases h0 : m.getD id.toNat false = true
    · rw [if_pos h0]
      constructor
      · exact .inl
      · rintro (h | h)
        · exact h
        · have key : ∀ y z, Rch l y z → known l y → spotN l false y ≤ spotN l false id → Mk m y → Mk m z := by
            intro y z hyz
            induction hyz with
            | refl _ => exact fun _ _ h => h
            | head h _ ih =>
              intro h1 h2 h3
              have h4 := hv.rests _ h1 _ h
              exact ih h4.1 (by omega) (hc _ h3 h2 _ h)
          exact key _ _ h hk (Int.le_refl _) ⟨hr.1, h0⟩
    · rw [if_neg h0]
      have h1 : ∀ x, Mk (m.set id.toNat true) x ↔ Mk m x ∨ x = id := fun x => mk_set (by omega)
      have hlt := hv.rests _ hk
      have key : ∀ (rs : List Int) (m1 : List Bool), m1.length = 100 → (∀ r ∈ rs, known l r ∧ spotN l false r < spotN l false id) → ClM l (spotN l false id - 1) m1 →
          ∀ x, Mk (rs.foldl (fun m r => rchF l f r m) m1) x ↔ Mk m1 x ∨ ∃ r ∈ rs, Rch l r x := by
        intro rs
        induction rs with
        | nil => intro m1 _ _ _ x; simp
        | cons r rs ih =>
          intro m1 hm1 hrs hc1 x
          have hr1 := hrs r (by simp)
          have h2 := rchF_spec hv f r m1 hm1 hr1.1 (by omega) (fun y hy hys z hz => hc1 y hy (by omega) z hz)
          rw [List.foldl_cons, ih _ (by rw [rchF_len]; exact hm1) (fun r' hr' => hrs r' (by simp [hr'])) ?_ x, h2 x]
          · constructor
            · rintro ((h | h) | ⟨r', h, h'⟩)
              · exact .inl h
              · exact .inr ⟨r, by simp, h⟩
              · exact .inr ⟨r', by simp [h], h'⟩
            · rintro (h | ⟨r', h, h'⟩)
              · exact .inl (.inl h)
              · rcases List.mem_cons.1 h with rfl | h
                · exact .inl (.inr h')
                · exact .inr ⟨r', h, h'⟩
          · intro y hy hys z hz
            rw [h2] at hy ⊢
            rcases hy with hy | hy
            · exact .inl (hc1 y hy hys z hz)
            · exact .inr (hy.tail hz)
      rw [key (restsN l id) _ (by rw [List.length_set]; exact hm) hlt ?_ x, h1 x, Rch.iff]
      · constructor
        · rintro ((h | h) | h)
          · exact .inl h
          · exact .inr (.inl h)
          · exact .inr (.inr h)
        · rintro (h | h | h)
          · exact .inl (.inl h)
          · exact .inl (.inr h)
          · exact .inr h
      · intro y hy hys z hz
        rw [h1] at hy ⊢
        rcases hy with hy | rfl
        · exact .inl (hc y hy (by omega) z hz)
        · omega
noncomputable def markN (l : List XNote) (id : Int) : List Bool := rchF l (l.length + 1) id (List.replicate 100 false)
theorem mark_get {l : List XNote} (hv : VN l) {id : Int} (hk : known l id) (i : Nat) : (markN l id).getD i false = cdec (Rch l id i) := by
  have h := rchF_spec hv (l.length + 1) id (List.replicate 100 false) (by simp) hk (by have := (idxP_lo (noteIs false id) l).2; unfold spotN; omega)
    (fun x hx => by
      have : (List.replicate 100 false).getD x.toNat false = true := hx.2
      rw [List.getD_eq_getElem?_getD, List.getElem?_replicate] at this
      split at this <;> simp at this) i
  have hno : ¬ Mk (List.replicate 100 false) i := by
    rintro ⟨_, h⟩
    rw [List.getD_eq_getElem?_getD, List.getElem?_replicate] at h
    split at h <;> simp at h
  have h2 : (markN l id).getD i false = true ↔ Rch l id i := by
    have h3 : Mk (markN l id) i ↔ (markN l id).getD i false = true := by
      unfold Mk
      simp
    rw [← h3]
    unfold markN
    rw [h]
    exact ⟨fun h => h.resolve_left hno, .inr⟩
  cases hb : (markN l id).getD i false with
  | true => exact (cdec_yes (h2.1 hb)).symm
  | false => exact (cdec_no fun hr => by rw [h2.2 hr] at hb; cases hb).symm
theorem mark_len (l : List XNote) (id : Int) : (markN l id).length = 100 := by
  unfold markN
  rw [rchF_len]
  simp
theorem mark_sel {l : List XNote} (hv : VN l) {id : Int} (hk : known l id) : (selR 100 fun i => (markN l id).getD i false) = closN l id := selR_congr fun i _ => mark_get hv hk i
end Go.Proofs.YtbbaadkgmdkjdaaGreat

namespace Go.Proofs.YtbbaadkgmdkjdaaGreat
open Go Go.KA Go.Proofs
set_option maxHeartbeats 16000000
set_option maxRecDepth 100000
theorem know_idx {l : List XNote} {x : Int} (h : known l x) : (spotN l false x).toNat < l.length := by
  have := (idxP_lo (noteIs false x) l).2
  unfold known spotN at h
  unfold spotN
  omega
theorem closure_ok (l : List XNote) (id : Int) (hv : VN l) (hk : known l id) : CallX Tryz.prog 78 [.c (.ro 7 (l.map encNote)), I id] [] (.c (.ows 2 1 ((closN l id).map eI))) := by
  refine callX_of_vc htb hm Tryz.func78 rfl rfl rfl rfl (ann := fun _ => none) (gh := fun _ => false) ?_
  repeat' ((conv => whnf); first
    | (guard_target = Done _; refine Done.mk ?_)
    | (guard_target = RetX _ _; refine RetX.mk ?_ ?_)
    | (guard_target =~ LoopE 3 _ _ _ _ _ _; refine LoopE.mk { α := List Int × Nat, keep := [0], ov := fun ⟨R, i⟩ => [(5, .lw 1), (6, I (i : Nat))], hv := fun ⟨R, i⟩ => [(1, .row none 2 1 (R.map eI))], φ := fun ⟨R, i⟩ => Cl l id R i, μ := fun ⟨R, i⟩ => 100 - i } (LoopN.mk (([id], 0) : List Int × Nat) (by exact Cl.zero) (by (repeat' first | exact trivial | exact rfl | refine ⟨?_, ?_⟩); done) (by (repeat' first | exact trivial | exact rfl | refine ⟨?_, ?_⟩); done) (by (repeat' first | exact trivial | exact rfl | refine ⟨?_, ?_⟩ | (simp only [List.map_append, List.map_cons, List.map_nil, List.map_set]; first | done | rfl)); done) (fun A ha => ?_) (by intro A; first | rfl | (obtain ⟨_, _⟩ := A; rfl) | (obtain ⟨_, _, _⟩ := A; rfl))); obtain ⟨R, i⟩ := A; have ha : Cl l id R i := ha; have hlen := ha.len hv hk)
    | (guard_target =~ LoopE 6 _ _ _ _ _ _; refine LoopE.mk { α := List Int × Nat, keep := [0, 6, 27, 28], ov := fun ⟨R', k⟩ => [(5, .lw 1), (29, I (k : Nat))], hv := fun ⟨R', k⟩ => [(1, .row none 2 1 (R'.map eI))], φ := fun ⟨R', k⟩ => Cl2 l id R i R' k, μ := fun ⟨R', k⟩ => (l.getD (spotN l false (R.getD i 0)).toNat n0).entry.rests.length - k } (LoopN.mk ((R, 0) : List Int × Nat) (by exact ha.open (by omega)) (by (repeat' first | exact trivial | exact rfl | refine ⟨?_, ?_⟩); done) (by (repeat' first | exact trivial | exact rfl | refine ⟨?_, ?_⟩); done) (by (repeat' first | exact trivial | exact rfl | refine ⟨?_, ?_⟩ | (simp only [List.map_append, List.map_cons, List.map_nil, List.map_set]; first | done | rfl)); done) (fun A ha => ?_) (by intro A; first | rfl | (obtain ⟨_, _⟩ := A; rfl) | (obtain ⟨_, _, _⟩ := A; rfl))); obtain ⟨R', k⟩ := A; have ha : Cl2 l id R i R' k := ha; have hlen2 := ha.len hv hk)
    | (guard_target = Gh _ _ _ _ _; refine Gh.go ⟨((R' ++ [(restsN l (R.getD i 0)).getD k 0], k + 1) : List Int × Nat), (by (have hk' : k < (restsN l (R.getD i 0)).length := (by show k < (l.getD (spotN l false (R.getD i 0)).toNat n0).entry.rests.length; omega); show Cl2 _ _ _ _ _ _; rw [getD_eq hk']; refine ha.add hk' ?_; rw [← getD_eq hk']; exact h)), (by first | (show _ < _; simp only []; omega) | omega | (simp; omega)), (by (repeat' first | exact trivial | exact rfl | refine ⟨?_, ?_⟩); done), (by (repeat' first | exact trivial | exact rfl | refine ⟨?_, ?_⟩); done), (by (repeat' first | exact trivial | exact rfl | refine ⟨?_, ?_⟩ | (simp only [List.map_append, List.map_cons, List.map_nil, List.map_set]; first | done | rfl)); done)⟩)
    | (guard_target = Gh _ _ _ _ _; refine Gh.go ⟨((R', k + 1) : List Int × Nat), (by (have hk' : k < (restsN l (R.getD i 0)).length := (by show k < (l.getD (spotN l false (R.getD i 0)).toNat n0).entry.rests.length; omega); refine ha.skip hk' ?_; rw [← getD_eq hk']; exact h)), (by first | (show _ < _; simp only []; omega) | omega | (simp; omega)), (by (repeat' first | exact trivial | exact rfl | refine ⟨?_, ?_⟩); done), (by (repeat' first | exact trivial | exact rfl | refine ⟨?_, ?_⟩); done), (by (repeat' first | exact trivial | exact rfl | refine ⟨?_, ?_⟩ | (simp only [List.map_append, List.map_cons, List.map_nil, List.map_set]; first | done | rfl)); done)⟩)
    | (guard_target = Gh _ _ _ _ _; refine Gh.go ⟨((R', i + 1) : List Int × Nat), (by (refine ha.close ?_; show ¬ k < (l.getD (spotN l false (R.getD i 0)).toNat n0).entry.rests.length; omega)), (by first | (show _ < _; simp only []; omega) | omega | (simp; omega)), (by (repeat' first | exact trivial | exact rfl | refine ⟨?_, ?_⟩); done), (by (repeat' first | exact trivial | exact rfl | refine ⟨?_, ?_⟩); done), (by (repeat' first | exact trivial | exact rfl | refine ⟨?_, ?_⟩ | (simp only [List.map_append, List.map_cons, List.map_nil, List.map_set]; first | done | rfl)); done)⟩)
    | (guard_target = Fact _ _; refine Fact.mk fun hL => ?_; (try simp only [List.length_map, maxLen] at hL))
    | (guard_target = Branch _ _ _; (first | refine Branch.dec (fun h => ?_) (fun h => ?_) | refine Branch.beq (fun h => ?_) (fun h => ?_) | refine Branch.bne (fun h => ?_) (fun h => ?_) | refine Branch.ndec (fun h => ?_) (fun h => ?_) | refine Branch.nb (fun h => ?_) (fun h => ?_) | refine Branch.mk (fun h => ?_) (fun h => ?_)) <;> (try simp only [List.length_map] at h) <;> (try omega) <;> (try contradiction))
    | (guard_target = CallN _ 71 _ _ _ _; refine CallN.pure _ _ rfl (find_ok l false (R.getD i 0)) rfl _ rfl ?_)
    | (guard_target = CallN _ 79 _ _ _ _; refine CallN.pure _ _ rfl (Contains_ok R' _) rfl _ rfl ?_)
    | (guard_target = CallN _ 126 _ _ _ _; refine CallN.gen [true] _ _ _ rfl (Sort_ok R (by omega)) rfl rfl _ rfl ?_)
    | (guard_target = Arith _ _ _; refine Arith.fit (wrap_fit (by first | omega | (simp only [List.length_map]; omega)) (by first | omega | (simp only [List.length_map]; omega))) ?_)
    | (guard_target = Arith _ _ _; refine Arith.fit (by decide) ?_)
    | (guard_target = Index _ _ _; first | refine Index.mk _ (idx_getD (d := 0) (i := i) (by omega)) ?_ | refine Index.mk _ (idx_getD (d := n0) (i := (spotN l false (R.getD i 0)).toNat) (know_idx (ha.know hv hk (by omega)))) ?_ | refine Index.mk _ (idx_getD (l := restsN l (R.getD i 0)) (d := 0) (i := k) (by show k < (l.getD (spotN l false (R.getD i 0)).toNat n0).entry.rests.length; omega)) ?_ | refine Index.mk _ (idx_map (by omega)) ?_)
    | (guard_target = Need (chkDraw _ = true) _; refine Need.mk (by kernel_rfl) ?_)
    | (guard_target = Need (chkRecs _ _ = true) _; refine Need.mk (by first | kernel_rfl | rfl) ?_)
    | (guard_target = Need _ _; refine Need.mk (by first | (exact ha.know hv hk (by omega)) | ((simp only [List.length_map, List.length_cons, List.length_nil, maxLen]; constructor <;> omega)) | omega | (simp only [List.length_map]; omega)) ?_))
  all_goals first | rfl | trivial | (rw [ha.sorted (by omega) hv hk]; done)
theorem fold_take {α β : Type} (f : β → α → β) (l : List α) (b : β) {k : Nat} (h : k < l.length) : (l.take (k + 1)).foldl f b = f ((l.take k).foldl f b) l[k] := by
  rw [List.take_succ_eq_append_getElem h, List.foldl_append]
  rfl
theorem rch_fold {l : List XNote} {f : Nat} : ∀ (rs : List Int) (m : List Bool), (rs.foldl (fun m r => rchF l f r m) m).length = m.length
  | [], m => rfl
  | r :: rs, m => by rw [List.foldl_cons, rch_fold rs, rchF_len]
theorem l08Reach_ok (l : List XNote) (hv : VN l) : ∀ (f : Nat) (id : Int) (m : List Bool), m.length = 100 → known l id → spotN l false id < f → CallX Tryz.prog 127 [.c (.ro 7 (l.map encNote)), I id, .c (.ows 4 1 (m.map eB))] [none, none, some [.ows 4 1 ((rchF l f id m).map eB)]] (.tup [])
  | 0, id, m, hlm, hk, hf => by
    unfold known at hk
    omega
  | f + 1, id, m, hlm, hk, hf => by
    have hr := hv.range _ _ hk
    have hrs := hv.rests _ hk
    by_cases h0 : m.getD id.toNat false = true
    · have e : rchF l (f + 1) id m = m := by
        unfold rchF
        rw [if_pos h0]
      rw [e]
      refine callX_of_vc htb hm Tryz.func127 rfl rfl rfl rfl (ann := fun _ => none) (gh := fun _ => false) ?_
      repeat' ((conv => whnf); first
        | (guard_target = Done _; refine Done.mk ?_)
        | (guard_target = RetX _ _; refine RetX.mk ?_ ?_)
        | (guard_target = Fact _ _; refine Fact.mk fun hL => ?_; (try simp only [List.length_map, maxLen] at hL))
        | (guard_target = Branch _ _ _; (first | refine Branch.dec (fun h => ?_) (fun h => ?_) | refine Branch.beq (fun h => ?_) (fun h => ?_) | refine Branch.bne (fun h => ?_) (fun h => ?_) | refine Branch.ndec (fun h => ?_) (fun h => ?_) | refine Branch.nb (fun h => ?_) (fun h => ?_) | refine Branch.mk (fun h => ?_) (fun h => ?_)) <;> (try simp only [List.length_map] at h) <;> (try omega) <;> (try contradiction))
        | (guard_target = Arith _ _ _; refine Arith.fit (wrap_fit (by first | omega | (simp only [List.length_map]; omega)) (by first | omega | (simp only [List.length_map]; omega))) ?_)
        | (guard_target = Arith _ _ _; refine Arith.fit (by decide) ?_)
        | (guard_target = Index _ _ _; first | refine Index.mk _ (idx_getD (d := false) (i := id.toNat) (by omega)) ?_ | refine Index.mk _ (idx_map (by omega)) ?_)
        | (guard_target = Need (chkDraw _ = true) _; refine Need.mk (by kernel_rfl) ?_)
        | (guard_target = Need (chkRecs _ _ = true) _; refine Need.mk (by first | kernel_rfl | rfl) ?_)
        | (guard_target = Need _ _; refine Need.mk (by first  | omega | (simp only [List.length_map]; omega)) ?_))
      all_goals first | rfl | trivial | (exact absurd (h.symm.trans h0) (by decide))
    · have e : rchF l (f + 1) id m = (restsN l id).foldl (fun m r => rchF l f r m) (m.set id.toNat true) := by
        conv => lhs; unfold rchF
        rw [if_neg h0]
      rw [e]
      have hset := rch_fold (l := l) (f := f) 
      have hget : ∀ k, k < (restsN l id).length → known l ((restsN l id).getD k 0) ∧ spotN l false ((restsN l id).getD k 0) < spotN l false id := fun k hk => by
        rw [getD_eq hk]
        exact hrs _ (List.getElem_mem hk)
      have hstep : ∀ k, k < (restsN l id).length → ((restsN l id).take (k + 1)).foldl (fun m r => rchF l f r m) (m.set id.toNat true) = rchF l f ((restsN l id).getD k 0) (((restsN l id).take k).foldl (fun m r => rchF l f r m) (m.set id.toNat true)) := fun k hk => by
        rw [fold_take _ _ _ hk, getD_eq hk]
      refine callX_of_vc htb hm Tryz.func127 rfl rfl rfl rfl (ann := fun _ => none) (gh := fun _ => false) ?_
      repeat' ((conv => whnf); first
        | (guard_target = Done _; refine Done.mk ?_)
        | (guard_target = RetX _ _; refine RetX.mk ?_ ?_)
        | (guard_target =~ LoopE 5 _ _ _ _ _ _; refine LoopE.mk { α := List Bool × Nat, keep := [0, 2, 7], ov := fun ⟨m', k⟩ => [(8, I (k : Nat))], hv := fun ⟨m', k⟩ => [(0, .row none 4 1 (m'.map eB))], φ := fun ⟨m', k⟩ => k ≤ (restsN l id).length ∧ m' = ((restsN l id).take k).foldl (fun m r => rchF l f r m) (m.set id.toNat true), μ := fun ⟨m', k⟩ => (l.getD (spotN l false id).toNat n0).entry.rests.length - k } (LoopN.mk ((m.set id.toNat true, 0) : List Bool × Nat) (by exact ⟨Nat.zero_le _, rfl⟩) (by (repeat' first | exact trivial | exact rfl | refine ⟨?_, ?_⟩); done) (by (repeat' first | exact trivial | exact rfl | refine ⟨?_, ?_⟩); done) (by (repeat' first | exact trivial | exact rfl | refine ⟨?_, ?_⟩ | (simp only [List.map_append, List.map_cons, List.map_nil, List.map_set]; first | done | rfl)); done) (fun A ha => ?_) (by intro A; first | rfl | (obtain ⟨_, _⟩ := A; rfl) | (obtain ⟨_, _, _⟩ := A; rfl))); obtain ⟨m', k⟩ := A; have ha : k ≤ (restsN l id).length ∧ m' = ((restsN l id).take k).foldl (fun m r => rchF l f r m) (m.set id.toNat true) := ha)
        | (guard_target = Gh _ _ _ _ _; refine Gh.go ⟨((rchF l f ((restsN l id).getD k 0) m', k + 1) : List Bool × Nat), (by (have hk' : k < (restsN l id).length := (by show k < (l.getD (spotN l false id).toNat n0).entry.rests.length; omega); refine ⟨hk', ?_⟩; show rchF _ _ _ m' = _; rw [hstep k hk', ha.2])), (by first | (show _ < _; simp only []; omega) | omega | (simp; omega)), (by (repeat' first | exact trivial | exact rfl | refine ⟨?_, ?_⟩); done), (by (repeat' first | exact trivial | exact rfl | refine ⟨?_, ?_⟩); done), (by (repeat' first | exact trivial | exact rfl | refine ⟨?_, ?_⟩ | (simp only [List.map_append, List.map_cons, List.map_nil, List.map_set]; first | done | rfl)); done)⟩)
        | (guard_target = Fact _ _; refine Fact.mk fun hL => ?_; (try simp only [List.length_map, maxLen] at hL))
        | (guard_target = Branch _ _ _; (first | refine Branch.dec (fun h => ?_) (fun h => ?_) | refine Branch.beq (fun h => ?_) (fun h => ?_) | refine Branch.bne (fun h => ?_) (fun h => ?_) | refine Branch.ndec (fun h => ?_) (fun h => ?_) | refine Branch.nb (fun h => ?_) (fun h => ?_) | refine Branch.mk (fun h => ?_) (fun h => ?_)) <;> (try simp only [List.length_map] at h) <;> (try omega) <;> (try contradiction))
        | (guard_target = CallN _ 69 _ _ _ _; refine CallN.pure _ _ rfl (l08Spot_ok l false id) rfl _ rfl ?_)
        | (guard_target = CallN _ 127 _ _ _ _; refine CallN.gen [false, false, true] _ _ _ rfl (l08Reach_ok l hv f ((restsN l id).getD k 0) m' (by rw [ha.2, rch_fold, List.length_set]; exact hlm) (hget k (by show k < (l.getD (spotN l false id).toNat n0).entry.rests.length; omega)).1 (by have := (hget k (by show k < (l.getD (spotN l false id).toNat n0).entry.rests.length; omega)).2; omega)) rfl rfl _ rfl ?_)
        | (guard_target = Arith _ _ _; refine Arith.fit (wrap_fit (by first | omega | (simp only [List.length_map]; omega)) (by first | omega | (simp only [List.length_map]; omega))) ?_)
        | (guard_target = Arith _ _ _; refine Arith.fit (by decide) ?_)
        | (guard_target = Index _ _ _; first | refine Index.mk _ (idx_getD (d := false) (i := id.toNat) (by omega)) ?_ | refine Index.mk _ (idx_getD (d := n0) (i := (spotN l false id).toNat) (know_idx hk)) ?_ | refine Index.mk _ (idx_getD (l := restsN l id) (d := 0) (i := k) (by show k < (l.getD (spotN l false id).toNat n0).entry.rests.length; omega)) ?_ | refine Index.mk _ (idx_map (by omega)) ?_)
        | (guard_target = Need (chkDraw _ = true) _; refine Need.mk (by kernel_rfl) ?_)
        | (guard_target = Need (chkRecs _ _ = true) _; refine Need.mk (by first | kernel_rfl | rfl) ?_)
        | (guard_target = Need _ _; refine Need.mk (by first | (exact hk) | omega | (simp only [List.length_map]; omega)) ?_))
      all_goals first | rfl | trivial | (have h9 := ha.2; rw [List.take_of_length_le (by show (l.getD (spotN l false id).toNat n0).entry.rests.length ≤ k; omega)] at h9; rw [← h9]; exact ⟨rfl, trivial⟩)
theorem l08Closure_ok (l : List XNote) (id : Int) (hv : VN l) (hk : known l id) : CallX Tryz.prog 77 [.c (.ro 7 (l.map encNote)), I id] [] (.c (.ows 4 1 ((markN l id).map eB))) := by
  have h100 : spotN l false id < ((l.length + 1 : Nat) : Int) := by
    have := (idxP_lo (noteIs false id) l).2
    unfold spotN
    omega
  have hr := l08Reach_ok l hv (l.length + 1) id (List.replicate 100 false) (by simp) hk h100
  refine callX_of_vc htb hm Tryz.func77 rfl rfl rfl rfl (ann := fun _ => none) (gh := fun _ => false) ?_
  repeat' ((conv => whnf); first
    | (guard_target = Done _; refine Done.mk ?_)
    | (guard_target = RetX _ _; refine RetX.mk ?_ ?_)
    | (guard_target = Fact _ _; refine Fact.mk fun hL => ?_; (try simp only [List.length_map, maxLen] at hL))
    | (guard_target = Branch _ _ _; (first | refine Branch.dec (fun h => ?_) (fun h => ?_) | refine Branch.beq (fun h => ?_) (fun h => ?_) | refine Branch.bne (fun h => ?_) (fun h => ?_) | refine Branch.ndec (fun h => ?_) (fun h => ?_) | refine Branch.nb (fun h => ?_) (fun h => ?_) | refine Branch.mk (fun h => ?_) (fun h => ?_)) <;> (try simp only [List.length_map] at h) <;> (try omega) <;> (try contradiction))
    | (guard_target = CallN _ 127 _ _ _ _; refine CallN.gen [false, false, true] _ _ _ rfl (hr) rfl rfl _ rfl ?_)
    | (guard_target = Arith _ _ _; refine Arith.fit (wrap_fit (by first | omega | (simp only [List.length_map]; omega)) (by first | omega | (simp only [List.length_map]; omega))) ?_)
    | (guard_target = Arith _ _ _; refine Arith.fit (by decide) ?_)
    | (guard_target = Index _ _ _; first  | refine Index.mk _ (idx_map (by omega)) ?_)
    | (guard_target = Need (chkDraw _ = true) _; refine Need.mk (by kernel_rfl) ?_)
    | (guard_target = Need (chkRecs _ _ = true) _; refine Need.mk (by first | kernel_rfl | rfl) ?_)
    | (guard_target = Need _ _; refine Need.mk (by first | ((constructor <;> decide)) | omega | (simp only [List.length_map]; omega)) ?_))
  all_goals first | rfl | trivial
theorem l08Marked_ok (m : List Bool) (hm1 : m.length = 100) : CallX Tryz.prog 76 [.c (.ro 1 (m.map eB))] [] (.c (.ows 2 1 ((selR 100 fun i => m.getD i false).map eI))) := by
  have hb := fun i => selR_len i fun i => m.getD i false
  refine callX_of_vc htb hm Tryz.func76 rfl rfl rfl rfl (ann := fun _ => none) (gh := fun _ => false) ?_
  repeat' ((conv => whnf); first
    | (guard_target = Done _; refine Done.mk ?_)
    | (guard_target = RetX _ _; refine RetX.mk ?_ ?_)
    | (guard_target =~ LoopE 3 _ _ _ _ _ _; refine LoopE.mk { α := List Int × Nat, keep := [0], ov := fun ⟨R, i⟩ => [(3, .lw 1), (4, I (i : Nat))], hv := fun ⟨R, i⟩ => [(1, .row none 2 1 (R.map eI))], φ := fun ⟨R, i⟩ => i ≤ m.length ∧ R = selR i (fun i => m.getD i false), μ := fun ⟨R, i⟩ => m.length - i } (LoopN.mk (([], 0) : List Int × Nat) (by exact ⟨Nat.zero_le _, rfl⟩) (by (repeat' first | exact trivial | exact rfl | refine ⟨?_, ?_⟩); done) (by (repeat' first | exact trivial | exact rfl | refine ⟨?_, ?_⟩); done) (by (repeat' first | exact trivial | exact rfl | refine ⟨?_, ?_⟩ | (simp only [List.map_append, List.map_cons, List.map_nil, List.map_set]; first | done | rfl)); done) (fun A ha => ?_) (by intro A; first | rfl | (obtain ⟨_, _⟩ := A; rfl) | (obtain ⟨_, _, _⟩ := A; rfl))); obtain ⟨R, i⟩ := A; have ha : i ≤ m.length ∧ R = selR i (fun i => m.getD i false) := ha; have hb1 := hb i; rw [← ha.2] at hb1)
    | (guard_target = Gh _ _ _ _ _; refine Gh.go ⟨((R ++ [(i : Int)], i + 1) : List Int × Nat), (by (refine ⟨by show i + 1 ≤ _; omega, ?_⟩; show R ++ _ = _; rw [selR_yes h, ha.2])), (by first | (show _ < _; simp only []; omega) | omega | (simp; omega)), (by (repeat' first | exact trivial | exact rfl | refine ⟨?_, ?_⟩); done), (by (repeat' first | exact trivial | exact rfl | refine ⟨?_, ?_⟩); done), (by (repeat' first | exact trivial | exact rfl | refine ⟨?_, ?_⟩ | (simp only [List.map_append, List.map_cons, List.map_nil, List.map_set]; first | done | rfl)); done)⟩)
    | (guard_target = Gh _ _ _ _ _; refine Gh.go ⟨((R, i + 1) : List Int × Nat), (by (refine ⟨by show i + 1 ≤ _; omega, ?_⟩; show R = _; rw [selR_no h, ha.2])), (by first | (show _ < _; simp only []; omega) | omega | (simp; omega)), (by (repeat' first | exact trivial | exact rfl | refine ⟨?_, ?_⟩); done), (by (repeat' first | exact trivial | exact rfl | refine ⟨?_, ?_⟩); done), (by (repeat' first | exact trivial | exact rfl | refine ⟨?_, ?_⟩ | (simp only [List.map_append, List.map_cons, List.map_nil, List.map_set]; first | done | rfl)); done)⟩)
    | (guard_target = Fact _ _; refine Fact.mk fun hL => ?_; (try simp only [List.length_map, maxLen] at hL))
    | (guard_target = Branch _ _ _; (first | refine Branch.dec (fun h => ?_) (fun h => ?_) | refine Branch.beq (fun h => ?_) (fun h => ?_) | refine Branch.bne (fun h => ?_) (fun h => ?_) | refine Branch.ndec (fun h => ?_) (fun h => ?_) | refine Branch.nb (fun h => ?_) (fun h => ?_) | refine Branch.mk (fun h => ?_) (fun h => ?_)) <;> (try simp only [List.length_map] at h) <;> (try omega) <;> (try contradiction))
    | (guard_target = Arith _ _ _; refine Arith.fit (wrap_fit (by first | omega | (simp only [List.length_map]; omega)) (by first | omega | (simp only [List.length_map]; omega))) ?_)
    | (guard_target = Arith _ _ _; refine Arith.fit (by decide) ?_)
    | (guard_target = Index _ _ _; first | refine Index.mk _ (idx_getD (d := false) (i := i) (by omega)) ?_ | refine Index.mk _ (idx_map (by omega)) ?_)
    | (guard_target = Need (chkDraw _ = true) _; refine Need.mk (by kernel_rfl) ?_)
    | (guard_target = Need (chkRecs _ _ = true) _; refine Need.mk (by first | kernel_rfl | rfl) ?_)
    | (guard_target = Need _ _; refine Need.mk (by first | ((simp only [List.length_map, List.length_cons, List.length_nil, maxLen]; constructor <;> omega)) | omega | (simp only [List.length_map]; omega)) ?_))
  all_goals first | rfl | trivial | (have e : i = 100 := (by omega); have h9 := ha.2; rw [e] at h9; rw [h9]; done)
end Go.Proofs.YtbbaadkgmdkjdaaGreat

namespace Go.Proofs.YtbbaadkgmdkjdaaGreat
open Go Go.KA Go.Proofs
set_option maxHeartbeats 16000000
set_option maxRecDepth 100000
abbrev srvN (a : XArchive) (s : Int) : List XNote := (a.servers.getD s.toNat s00).notes
/-- what the question about a lemma is answered, where the lemma is known -/
theorem srv_vn {a : XArchive} {s id : Int} (h : askN a s id = 0) : VN (srvN a s) ∧ s.toNat < a.servers.length ∧ 0 ≤ s ∧ (srvN a s).length ≤ 20 ∧ 0 ≤ id ∧ id ≤ 99 := by
  have hg := ask_ok h
  have hs := place_lt hg.2.1
  have hn := srv_notes hg.1 hs.2
  exact ⟨VN.of hn.1, hs.2, hs.1, hn.2, rng_le hg.2.2⟩
theorem closN_len (l : List XNote) (id : Int) : (closN l id).length ≤ 100 := selR_len 100 _
section
variable (a : XArchive) (s id : Int) (hl : budArchive a ≤ 1048576)
include hl
theorem ClosureOf_bad (h : ¬ askN a s id = 0) : CallX Tryz.prog 33 [encA a, I s, I id] [] (resI [] (askN a s id)) := by
  refine callX_of_vc htb hm Tryz.func33 rfl rfl rfl rfl (ann := fun _ => none) (gh := fun _ => false) ?_
  repeat' ((conv => whnf); first
    | (guard_target = Done _; refine Done.mk ?_)
    | (guard_target = RetX _ _; refine RetX.mk ?_ ?_)
    | (guard_target = Fact _ _; refine Fact.mk fun hL => ?_; (try simp only [List.length_map, maxLen] at hL))
    | (guard_target = Branch _ _ _; (first | refine Branch.dec (fun h => ?_) (fun h => ?_) | refine Branch.beq (fun h => ?_) (fun h => ?_) | refine Branch.bne (fun h => ?_) (fun h => ?_) | refine Branch.ndec (fun h => ?_) (fun h => ?_) | refine Branch.nb (fun h => ?_) (fun h => ?_) | refine Branch.mk (fun h => ?_) (fun h => ?_)) <;> (try simp only [List.length_map] at h) <;> (try omega) <;> (try contradiction))
    | (guard_target = CallN _ 70 _ _ _ _; refine CallN.pure _ _ rfl (askServer_ok a s id hl) rfl _ rfl ?_)
    | (guard_target = Arith _ _ _; refine Arith.fit (wrap_fit (by first | omega | (simp only [List.length_map]; omega)) (by first | omega | (simp only [List.length_map]; omega))) ?_)
    | (guard_target = Arith _ _ _; refine Arith.fit (by decide) ?_)
    | (guard_target = Index _ _ _; first  | refine Index.mk _ (idx_map (by omega)) ?_)
    | (guard_target = Need (chkDraw _ = true) _; refine Need.mk (by kernel_rfl) ?_)
    | (guard_target = Need (chkRecs _ _ = true) _; refine Need.mk (by first | kernel_rfl | rfl) ?_)
    | (guard_target = Need _ _; refine Need.mk (by first  | omega | (simp only [List.length_map]; omega)) ?_))
  all_goals first | rfl | trivial
theorem ClosureOf_no (h : askN a s id = 0) (hk : ¬ known (srvN a s) id) : CallX Tryz.prog 33 [encA a, I s, I id] [] (resI [] 6) := by
  have hg := srv_vn h
  have hq := askServer_ok a s id hl
  rw [h] at hq
  unfold known at hk
  refine callX_of_vc htb hm Tryz.func33 rfl rfl rfl rfl (ann := fun _ => none) (gh := fun _ => false) ?_
  repeat' ((conv => whnf); first
    | (guard_target = Done _; refine Done.mk ?_)
    | (guard_target = RetX _ _; refine RetX.mk ?_ ?_)
    | (guard_target = Fact _ _; refine Fact.mk fun hL => ?_; (try simp only [List.length_map, maxLen] at hL))
    | (guard_target = Branch _ _ _; (first | refine Branch.dec (fun h => ?_) (fun h => ?_) | refine Branch.beq (fun h => ?_) (fun h => ?_) | refine Branch.bne (fun h => ?_) (fun h => ?_) | refine Branch.ndec (fun h => ?_) (fun h => ?_) | refine Branch.nb (fun h => ?_) (fun h => ?_) | refine Branch.mk (fun h => ?_) (fun h => ?_)) <;> (try simp only [List.length_map] at h) <;> (try omega) <;> (try contradiction))
    | (guard_target = CallN _ 70 _ _ _ _; refine CallN.pure _ _ rfl (hq) rfl _ rfl ?_)
    | (guard_target = CallN _ 71 _ _ _ _; refine CallN.pure _ _ rfl (find_ok (srvN a s) false id) rfl _ rfl ?_)
    | (guard_target = Arith _ _ _; refine Arith.fit (wrap_fit (by first | omega | (simp only [List.length_map]; omega)) (by first | omega | (simp only [List.length_map]; omega))) ?_)
    | (guard_target = Arith _ _ _; refine Arith.fit (by decide) ?_)
    | (guard_target = Index _ _ _; first | refine Index.mk _ (idx_getD (d := s00) (i := s.toNat) hg.2.1) ?_ | refine Index.mk _ (idx_map (by omega)) ?_)
    | (guard_target = Need (chkDraw _ = true) _; refine Need.mk (by kernel_rfl) ?_)
    | (guard_target = Need (chkRecs _ _ = true) _; refine Need.mk (by first | kernel_rfl | rfl) ?_)
    | (guard_target = Need _ _; refine Need.mk (by first  | omega | (simp only [List.length_map]; omega)) ?_))
  all_goals first | rfl | trivial
theorem ClosureOf_ok (h : askN a s id = 0) (hk : known (srvN a s) id) : CallX Tryz.prog 33 [encA a, I s, I id] [] (resI (closN (srvN a s) id) 0) := by
  have hg := srv_vn h
  have hq := askServer_ok a s id hl
  rw [h] at hq
  have hc := closure_ok (srvN a s) id hg.1 hk
  unfold known at hk
  refine callX_of_vc htb hm Tryz.func33 rfl rfl rfl rfl (ann := fun _ => none) (gh := fun _ => false) ?_
  repeat' ((conv => whnf); first
    | (guard_target = Done _; refine Done.mk ?_)
    | (guard_target = RetX _ _; refine RetX.mk ?_ ?_)
    | (guard_target = Fact _ _; refine Fact.mk fun hL => ?_; (try simp only [List.length_map, maxLen] at hL))
    | (guard_target = Branch _ _ _; (first | refine Branch.dec (fun h => ?_) (fun h => ?_) | refine Branch.beq (fun h => ?_) (fun h => ?_) | refine Branch.bne (fun h => ?_) (fun h => ?_) | refine Branch.ndec (fun h => ?_) (fun h => ?_) | refine Branch.nb (fun h => ?_) (fun h => ?_) | refine Branch.mk (fun h => ?_) (fun h => ?_)) <;> (try simp only [List.length_map] at h) <;> (try omega) <;> (try contradiction))
    | (guard_target = CallN _ 70 _ _ _ _; refine CallN.pure _ _ rfl (hq) rfl _ rfl ?_)
    | (guard_target = CallN _ 71 _ _ _ _; refine CallN.pure _ _ rfl (find_ok (srvN a s) false id) rfl _ rfl ?_)
    | (guard_target = CallN _ 78 _ _ _ _; refine CallN.gen [] _ _ _ rfl (hc) rfl rfl _ rfl ?_)
    | (guard_target = Arith _ _ _; refine Arith.fit (wrap_fit (by first | omega | (simp only [List.length_map]; omega)) (by first | omega | (simp only [List.length_map]; omega))) ?_)
    | (guard_target = Arith _ _ _; refine Arith.fit (by decide) ?_)
    | (guard_target = Index _ _ _; first | refine Index.mk _ (idx_getD (d := s00) (i := s.toNat) hg.2.1) ?_ | refine Index.mk _ (idx_map (by omega)) ?_)
    | (guard_target = Need (chkDraw _ = true) _; refine Need.mk (by kernel_rfl) ?_)
    | (guard_target = Need (chkRecs _ _ = true) _; refine Need.mk (by first | kernel_rfl | rfl) ?_)
    | (guard_target = Need _ _; refine Need.mk (by first  | omega | (simp only [List.length_map]; omega)) ?_))
  all_goals first | rfl | trivial
theorem specClosureOf_bad (h : ¬ askN a s id = 0) : CallX Tryz.prog 32 [encA a, I s, I id] [] (resI [] (askN a s id)) := by
  refine callX_of_vc htb hm Tryz.func32 rfl rfl rfl rfl (ann := fun _ => none) (gh := fun _ => false) ?_
  repeat' ((conv => whnf); first
    | (guard_target = Done _; refine Done.mk ?_)
    | (guard_target = RetX _ _; refine RetX.mk ?_ ?_)
    | (guard_target = Fact _ _; refine Fact.mk fun hL => ?_; (try simp only [List.length_map, maxLen] at hL))
    | (guard_target = Branch _ _ _; (first | refine Branch.dec (fun h => ?_) (fun h => ?_) | refine Branch.beq (fun h => ?_) (fun h => ?_) | refine Branch.bne (fun h => ?_) (fun h => ?_) | refine Branch.ndec (fun h => ?_) (fun h => ?_) | refine Branch.nb (fun h => ?_) (fun h => ?_) | refine Branch.mk (fun h => ?_) (fun h => ?_)) <;> (try simp only [List.length_map] at h) <;> (try omega) <;> (try contradiction))
    | (guard_target = CallN _ 68 _ _ _ _; refine CallN.pure _ _ rfl (l08Asked_ok a s id hl) rfl _ rfl ?_)
    | (guard_target = Arith _ _ _; refine Arith.fit (wrap_fit (by first | omega | (simp only [List.length_map]; omega)) (by first | omega | (simp only [List.length_map]; omega))) ?_)
    | (guard_target = Arith _ _ _; refine Arith.fit (by decide) ?_)
    | (guard_target = Index _ _ _; first  | refine Index.mk _ (idx_map (by omega)) ?_)
    | (guard_target = Need (chkDraw _ = true) _; refine Need.mk (by kernel_rfl) ?_)
    | (guard_target = Need (chkRecs _ _ = true) _; refine Need.mk (by first | kernel_rfl | rfl) ?_)
    | (guard_target = Need _ _; refine Need.mk (by first  | omega | (simp only [List.length_map]; omega)) ?_))
  all_goals first | rfl | trivial
theorem specClosureOf_no (h : askN a s id = 0) (hk : ¬ known (srvN a s) id) : CallX Tryz.prog 32 [encA a, I s, I id] [] (resI [] 6) := by
  have hg := srv_vn h
  have hq := l08Asked_ok a s id hl
  rw [h] at hq
  unfold known at hk
  refine callX_of_vc htb hm Tryz.func32 rfl rfl rfl rfl (ann := fun _ => none) (gh := fun _ => false) ?_
  repeat' ((conv => whnf); first
    | (guard_target = Done _; refine Done.mk ?_)
    | (guard_target = RetX _ _; refine RetX.mk ?_ ?_)
    | (guard_target = Fact _ _; refine Fact.mk fun hL => ?_; (try simp only [List.length_map, maxLen] at hL))
    | (guard_target = Branch _ _ _; (first | refine Branch.dec (fun h => ?_) (fun h => ?_) | refine Branch.beq (fun h => ?_) (fun h => ?_) | refine Branch.bne (fun h => ?_) (fun h => ?_) | refine Branch.ndec (fun h => ?_) (fun h => ?_) | refine Branch.nb (fun h => ?_) (fun h => ?_) | refine Branch.mk (fun h => ?_) (fun h => ?_)) <;> (try simp only [List.length_map] at h) <;> (try omega) <;> (try contradiction))
    | (guard_target = CallN _ 68 _ _ _ _; refine CallN.pure _ _ rfl (hq) rfl _ rfl ?_)
    | (guard_target = CallN _ 69 _ _ _ _; refine CallN.pure _ _ rfl (l08Spot_ok (srvN a s) false id) rfl _ rfl ?_)
    | (guard_target = Arith _ _ _; refine Arith.fit (wrap_fit (by first | omega | (simp only [List.length_map]; omega)) (by first | omega | (simp only [List.length_map]; omega))) ?_)
    | (guard_target = Arith _ _ _; refine Arith.fit (by decide) ?_)
    | (guard_target = Index _ _ _; first | refine Index.mk _ (idx_getD (d := s00) (i := s.toNat) hg.2.1) ?_ | refine Index.mk _ (idx_map (by omega)) ?_)
    | (guard_target = Need (chkDraw _ = true) _; refine Need.mk (by kernel_rfl) ?_)
    | (guard_target = Need (chkRecs _ _ = true) _; refine Need.mk (by first | kernel_rfl | rfl) ?_)
    | (guard_target = Need _ _; refine Need.mk (by first  | omega | (simp only [List.length_map]; omega)) ?_))
  all_goals first | rfl | trivial
theorem specClosureOf_ok (h : askN a s id = 0) (hk : known (srvN a s) id) : CallX Tryz.prog 32 [encA a, I s, I id] [] (resI (closN (srvN a s) id) 0) := by
  have hg := srv_vn h
  have hq := l08Asked_ok a s id hl
  rw [h] at hq
  have hc := l08Closure_ok (srvN a s) id hg.1 hk
  have hm2 := l08Marked_ok (markN (srvN a s) id) (mark_len _ _)
  rw [mark_sel hg.1 hk] at hm2
  have hp : pureT (.c (.ows 2 1 ((closN (srvN a s) id).map eI))) := pureLL_ints _
  unfold known at hk
  refine callX_of_vc htb hm Tryz.func32 rfl rfl rfl rfl (ann := fun _ => none) (gh := fun _ => false) ?_
  repeat' ((conv => whnf); first
    | (guard_target = Done _; refine Done.mk ?_)
    | (guard_target = RetX _ _; refine RetX.mk ?_ ?_)
    | (guard_target = Fact _ _; refine Fact.mk fun hL => ?_; (try simp only [List.length_map, maxLen] at hL))
    | (guard_target = Branch _ _ _; (first | refine Branch.dec (fun h => ?_) (fun h => ?_) | refine Branch.beq (fun h => ?_) (fun h => ?_) | refine Branch.bne (fun h => ?_) (fun h => ?_) | refine Branch.ndec (fun h => ?_) (fun h => ?_) | refine Branch.nb (fun h => ?_) (fun h => ?_) | refine Branch.mk (fun h => ?_) (fun h => ?_)) <;> (try simp only [List.length_map] at h) <;> (try omega) <;> (try contradiction))
    | (guard_target = CallN _ 68 _ _ _ _; refine CallN.pure _ _ rfl (hq) rfl _ rfl ?_)
    | (guard_target = CallN _ 69 _ _ _ _; refine CallN.pure _ _ rfl (l08Spot_ok (srvN a s) false id) rfl _ rfl ?_)
    | (guard_target = CallN _ 77 _ _ _ _; refine CallN.gen [] _ _ _ rfl (hc) rfl rfl _ rfl ?_)
    | (guard_target = CallN _ 76 _ _ _ _; refine CallN.own _ _ rfl hm2 hp _ rfl ?_)
    | (guard_target = Arith _ _ _; refine Arith.fit (wrap_fit (by first | omega | (simp only [List.length_map]; omega)) (by first | omega | (simp only [List.length_map]; omega))) ?_)
    | (guard_target = Arith _ _ _; refine Arith.fit (by decide) ?_)
    | (guard_target = Index _ _ _; first | refine Index.mk _ (idx_getD (d := s00) (i := s.toNat) hg.2.1) ?_ | refine Index.mk _ (idx_map (by omega)) ?_)
    | (guard_target = Need (chkDraw _ = true) _; refine Need.mk (by kernel_rfl) ?_)
    | (guard_target = Need (chkRecs _ _ = true) _; refine Need.mk (by first | kernel_rfl | rfl) ?_)
    | (guard_target = Need _ _; refine Need.mk (by first  | omega | (simp only [List.length_map]; omega)) ?_))
  all_goals first | rfl | trivial
end
theorem ClosureOf_big (a : XArchive) (s id : Int) (hl : ¬ budArchive a ≤ 1048576) : CallF Tryz.prog 8 [encA a, I s, I id] (B true) := by
  have hz := szArchive_ok a 1048576 (by omega)
  rw [szr_neg (by omega)] at hz
  refine callF_of_vc htb hm Tryz.func8 rfl rfl rfl rfl (ann := fun _ => none) (gh := fun _ => false) ?_
  repeat' ((conv => whnf); first
    | (guard_target = Done _; refine Done.mk ?_; first | (rfl; done) | skip)
    | (guard_target = RetX _ _; refine RetX.mk ?_ ?_)
    | (guard_target = Fact _ _; refine Fact.mk fun hL => ?_; (try simp only [List.length_map, maxLen] at hL))
    | (guard_target = Branch _ _ _; (first | refine Branch.dec (fun h => ?_) (fun h => ?_) | refine Branch.beq (fun h => ?_) (fun h => ?_) | refine Branch.bne (fun h => ?_) (fun h => ?_) | refine Branch.ndec (fun h => ?_) (fun h => ?_) | refine Branch.nb (fun h => ?_) (fun h => ?_) | refine Branch.mk (fun h => ?_) (fun h => ?_)) <;> (try simp only [List.length_map] at h) <;> (try omega) <;> (try contradiction))
    | (guard_target = CallN _ 12 _ _ _ _; refine CallN.pure _ _ rfl (hz) rfl _ rfl ?_)
    | (guard_target = Arith _ _ _; refine Arith.fit (wrap_fit (by first | omega | (simp only [List.length_map]; omega)) (by first | omega | (simp only [List.length_map]; omega))) ?_)
    | (guard_target = Arith _ _ _; refine Arith.fit (by decide) ?_)
    | (guard_target = Index _ _ _; first  | refine Index.mk _ (idx_map (by omega)) ?_)
    | (guard_target = Need (chkDraw _ = true) _; refine Need.mk (by kernel_rfl) ?_)
    | (guard_target = Need (chkRecs _ _ = true) _; refine Need.mk (by first | kernel_rfl | rfl) ?_)
    | (guard_target = Need _ _; refine Need.mk (by first  | omega | (simp only [List.length_map]; omega)) ?_))
theorem ClosureOf_same (a : XArchive) (s id : Int) (hl : budArchive a ≤ 1048576) (l : List Int) (c : Int) (hll : l.length ≤ 1000000) (hs0 : CallX Tryz.prog 32 [encA a, I s, I id] [] (resI l c)) (hi0 : CallX Tryz.prog 33 [encA a, I s, I id] [] (resI l c)) : CallF Tryz.prog 8 [encA a, I s, I id] (B true) := by
  have hz := szArchive_ok a 1048576 (by omega)
  rw [szr_eq hl] at hz
  have hs : CallX Tryz.prog 32 [.a 4 (roL (ownArchive a)), I s, I id] [] (resI l c) := by rw [roArchive]; exact hs0
  have hi : CallX Tryz.prog 33 [.a 4 (roL (ownArchive a)), I s, I id] [] (resI l c) := by rw [roArchive]; exact hi0
  have hk := mkArch_le a hl
  have hp := pure_resI l c
  refine callF_of_vc htb hm Tryz.func8 rfl rfl rfl rfl (ann := fun _ => none) (gh := fun _ => false) ?_
  repeat' ((conv => whnf); first
    | (guard_target = Done _; refine Done.mk ?_; first | (rfl; done) | skip)
    | (guard_target = RetX _ _; refine RetX.mk ?_ ?_)
    | (guard_target = Fact _ _; refine Fact.mk fun hL => ?_; (try simp only [List.length_map, maxLen] at hL))
    | (guard_target = Branch _ _ _; (first | refine Branch.dec (fun h => ?_) (fun h => ?_) | refine Branch.beq (fun h => ?_) (fun h => ?_) | refine Branch.bne (fun h => ?_) (fun h => ?_) | refine Branch.ndec (fun h => ?_) (fun h => ?_) | refine Branch.nb (fun h => ?_) (fun h => ?_) | refine Branch.mk (fun h => ?_) (fun h => ?_)) <;> (try simp only [List.length_map] at h) <;> (try omega) <;> (try contradiction))
    | (guard_target = CallN _ 12 _ _ _ _; refine CallN.pure _ _ rfl (hz) rfl _ rfl ?_)
    | (guard_target = CallN _ 14 _ _ _ _; refine CallN.gen [] _ _ _ rfl (toArchive_ok a hl) rfl rfl _ rfl ?_)
    | (guard_target = CallN _ 24 _ _ _ _; refine CallN.pure _ _ rfl (eqI_told l) rfl _ rfl ?_)
    | (guard_target = CallN _ 16 _ _ _ _; refine CallN.pure _ _ rfl (eqArch_own a) rfl _ rfl ?_)
    | (guard_target = CallN _ 25 _ _ _ _; refine CallN.gen [true, false] _ _ _ rfl (markArchive_ok a 1 (by omega) (by omega)) rfl rfl _ rfl ?_)
    | (guard_target = CallN _ 26 _ _ _ _; refine CallN.gen [true, false] _ _ _ rfl (markInt64S_told l 1 (by omega) (by omega)) rfl rfl _ rfl ?_)
    | (guard_target = CallN _ 27 _ _ _ _; refine CallN.pure _ _ rfl (heldInt64S_told l.length 1 (by omega) (by omega)) rfl _ rfl ?_)
    | (guard_target = CallN _ 32 _ _ _ _; refine CallN.own _ _ rfl hs hp _ rfl ?_)
    | (guard_target = CallN _ 33 _ _ _ _; refine CallN.own _ _ rfl hi hp _ rfl ?_)
    | (guard_target = Arith _ _ _; refine Arith.fit (wrap_fit (by first | omega | (simp only [List.length_map]; omega)) (by first | omega | (simp only [List.length_map]; omega))) ?_)
    | (guard_target = Arith _ _ _; refine Arith.fit (by decide) ?_)
    | (guard_target = Index _ _ _; first  | refine Index.mk _ (idx_map (by omega)) ?_)
    | (guard_target = Need (chkDraw _ = true) _; refine Need.mk (by kernel_rfl) ?_)
    | (guard_target = Need (chkRecs _ _ = true) _; refine Need.mk (by first | kernel_rfl | rfl) ?_)
    | (guard_target = Need _ _; refine Need.mk (by first  | omega | (simp only [List.length_map]; omega)) ?_))
theorem ClosureOf_law (a : XArchive) (s id : Int) : CallF Tryz.prog 8 [encA a, I s, I id] (B true) := by
  by_cases hl : budArchive a ≤ 1048576
  case neg => exact ClosureOf_big a s id hl
  by_cases h : askN a s id = 0
  · by_cases hk : known (srvN a s) id
    · have h2 := closN_len (srvN a s) id
      exact ClosureOf_same a s id hl _ _ (by omega) (specClosureOf_ok a s id hl h hk) (ClosureOf_ok a s id hl h hk)
    · exact ClosureOf_same a s id hl [] _ (by simp) (specClosureOf_no a s id hl h hk) (ClosureOf_no a s id hl h hk)
  · exact ClosureOf_same a s id hl [] _ (by simp) (specClosureOf_bad a s id hl h) (ClosureOf_bad a s id hl h)
end Go.Proofs.YtbbaadkgmdkjdaaGreat

namespace Go.Proofs.YtbbaadkgmdkjdaaGreat
open Go Go.KA Go.Proofs
set_option maxHeartbeats 16000000
set_option maxRecDepth 100000
/-! ### what a lemma says -/
def lastC (e : XEntry) : XClaim := e.proof.claims.getD (e.proof.claims.length - 1) c0
def lemE (e : XEntry) : XEquation := ⟨(lastC e).left, (lastC e).right⟩
theorem idx_last {α : Type} {f : α → List CV} {l : List α} (d : α) (h : 0 < l.length) : (l.map f)[(((l.map f).length : Int) - 1).toNat]? = some (f (l.getD (l.length - 1) d)) := by
  have e : (((l.map f).length : Int) - 1).toNat = l.length - 1 := by rw [List.length_map]; omega
  rw [e]
  exact idx_getD (by omega)
theorem told_ok (e : XEntry) (h : 0 < e.proof.claims.length) : CallF Tryz.prog 84 [.a 5 (encEntry e)] (.a 6 (encEquation (lemE e))) := by
  refine callF_of_vc htb hm Tryz.func84 rfl rfl rfl rfl (ann := fun _ => none) (gh := fun _ => false) ?_
  repeat' ((conv => whnf); first
    | (guard_target = Done _; refine Done.mk ?_; first | (rfl; done) | skip)
    | (guard_target = RetX _ _; refine RetX.mk ?_ ?_)
    | (guard_target = Fact _ _; refine Fact.mk fun hL => ?_; (try simp only [List.length_map, maxLen] at hL))
    | (guard_target = Branch _ _ _; (first | refine Branch.dec (fun h => ?_) (fun h => ?_) | refine Branch.beq (fun h => ?_) (fun h => ?_) | refine Branch.bne (fun h => ?_) (fun h => ?_) | refine Branch.ndec (fun h => ?_) (fun h => ?_) | refine Branch.nb (fun h => ?_) (fun h => ?_) | refine Branch.mk (fun h => ?_) (fun h => ?_)) <;> (try simp only [List.length_map] at h) <;> (try omega) <;> (try contradiction))
    | (guard_target = Arith _ _ _; refine Arith.fit (wrap_fit (by first | omega | (simp only [List.length_map]; omega)) (by first | omega | (simp only [List.length_map]; omega))) ?_)
    | (guard_target = Arith _ _ _; refine Arith.fit (by decide) ?_)
    | (guard_target = Index _ _ _; first | refine Index.mk _ (idx_last c0 h) ?_ | refine Index.mk _ (idx_map (by omega)) ?_)
    | (guard_target = Need (chkDraw _ = true) _; refine Need.mk (by kernel_rfl) ?_)
    | (guard_target = Need (chkRecs _ _ = true) _; refine Need.mk (by first | kernel_rfl | rfl) ?_)
    | (guard_target = Need _ _; refine Need.mk (by first  | omega | (simp only [List.length_map]; omega)) ?_))
theorem l04Claimed_ok (c : XClaim) : CallF Tryz.prog 133 [.c (.rp 9 (encClaim c))] (.a 6 (encEquation ⟨c.left, c.right⟩)) := by
  refine callF_of_vc htb hm Tryz.func133 rfl rfl rfl rfl (ann := fun _ => none) (gh := fun _ => false) ?_
  repeat' ((conv => whnf); first
    | (guard_target = Done _; refine Done.mk ?_; first | (rfl; done) | skip)
    | (guard_target = RetX _ _; refine RetX.mk ?_ ?_)
    | (guard_target = Fact _ _; refine Fact.mk fun hL => ?_; (try simp only [List.length_map, maxLen] at hL))
    | (guard_target = Branch _ _ _; (first | refine Branch.dec (fun h => ?_) (fun h => ?_) | refine Branch.beq (fun h => ?_) (fun h => ?_) | refine Branch.bne (fun h => ?_) (fun h => ?_) | refine Branch.ndec (fun h => ?_) (fun h => ?_) | refine Branch.nb (fun h => ?_) (fun h => ?_) | refine Branch.mk (fun h => ?_) (fun h => ?_)) <;> (try simp only [List.length_map] at h) <;> (try omega) <;> (try contradiction))
    | (guard_target = Arith _ _ _; refine Arith.fit (wrap_fit (by first | omega | (simp only [List.length_map]; omega)) (by first | omega | (simp only [List.length_map]; omega))) ?_)
    | (guard_target = Arith _ _ _; refine Arith.fit (by decide) ?_)
    | (guard_target = Index _ _ _; first  | refine Index.mk _ (idx_map (by omega)) ?_)
    | (guard_target = Need (chkDraw _ = true) _; refine Need.mk (by kernel_rfl) ?_)
    | (guard_target = Need (chkRecs _ _ = true) _; refine Need.mk (by first | kernel_rfl | rfl) ?_)
    | (guard_target = Need _ _; refine Need.mk (by first  | omega | (simp only [List.length_map]; omega)) ?_))
theorem l08Lemma_ok (e : XEntry) (h : 0 < e.proof.claims.length) (hl : e.proof.claims.length ≤ 1000000) : CallF Tryz.prog 91 [.c (.rp 5 (encEntry e))] (.a 6 (encEquation (lemE e))) := by
  refine callF_of_vc htb hm Tryz.func91 rfl rfl rfl rfl (ann := fun _ => none) (gh := fun _ => false) ?_
  repeat' ((conv => whnf); first
    | (guard_target = Done _; refine Done.mk ?_; first | (rfl; done) | skip)
    | (guard_target = RetX _ _; refine RetX.mk ?_ ?_)
    | (guard_target = Fact _ _; refine Fact.mk fun hL => ?_; (try simp only [List.length_map, maxLen] at hL))
    | (guard_target = Branch _ _ _; (first | refine Branch.dec (fun h => ?_) (fun h => ?_) | refine Branch.beq (fun h => ?_) (fun h => ?_) | refine Branch.bne (fun h => ?_) (fun h => ?_) | refine Branch.ndec (fun h => ?_) (fun h => ?_) | refine Branch.nb (fun h => ?_) (fun h => ?_) | refine Branch.mk (fun h => ?_) (fun h => ?_)) <;> (try simp only [List.length_map] at h) <;> (try omega) <;> (try contradiction))
    | (guard_target = CallN _ 133 _ _ _ _; refine CallN.pure _ _ rfl (l04Claimed_ok (lastC e)) rfl _ rfl ?_)
    | (guard_target = Arith _ _ _; refine Arith.fit (wrap_fit (by first | omega | (simp only [List.length_map]; omega)) (by first | omega | (simp only [List.length_map]; omega))) ?_)
    | (guard_target = Arith _ _ _; refine Arith.fit (by decide) ?_)
    | (guard_target = Index _ _ _; first | refine Index.mk _ (idx_last c0 h) ?_ | refine Index.mk _ (idx_map (by omega)) ?_)
    | (guard_target = Need (chkDraw _ = true) _; refine Need.mk (by kernel_rfl) ?_)
    | (guard_target = Need (chkRecs _ _ = true) _; refine Need.mk (by first | kernel_rfl | rfl) ?_)
    | (guard_target = Need _ _; refine Need.mk (by first  | omega | (simp only [List.length_map]; omega)) ?_))
theorem eqQ (x y : XEquation) : eqv x y = (eqv x.left y.left && eqv x.right y.right) := by
  cases x; cases y
  refine Bool.eq_iff_iff.2 ?_
  simp
theorem eqv_comm {α : Type} (x y : α) : eqv x y = eqv y x := by
  refine Bool.eq_iff_iff.2 ?_
  rw [eqv_true, eqv_true]
  exact eq_comm
theorem sameEquation_ok (x y : XEquation) : CallF Tryz.prog 87 [.a 6 (encEquation x), .a 6 (encEquation y)] (B (eqv x y)) := by
  rw [eqQ]
  refine callF_of_vc htb hm Tryz.func87 rfl rfl rfl rfl (ann := fun _ => none) (gh := fun _ => false) ?_
  repeat' ((conv => whnf); first
    | (guard_target = Done _; refine Done.mk ?_; first | (rfl; done) | (simp_all [normS, normV]; done) | (simp_all [normS, normV]; omega; done) | (simp_all [normS, normV]; intros; omega; done) | (simp_all [-List.all_eq_true, -List.all_eq_false, normS, normV]; done) | (simp_all [-List.all_eq_true, -List.all_eq_false, normS, normV]; omega; done) | skip)
    | (guard_target = RetX _ _; refine RetX.mk ?_ ?_)
    | (guard_target = Fact _ _; refine Fact.mk fun hL => ?_; (try simp only [List.length_map, maxLen] at hL))
    | (guard_target = Branch _ _ _; (first | refine Branch.dec (fun h => ?_) (fun h => ?_) | refine Branch.beq (fun h => ?_) (fun h => ?_) | refine Branch.bne (fun h => ?_) (fun h => ?_) | refine Branch.ndec (fun h => ?_) (fun h => ?_) | refine Branch.nb (fun h => ?_) (fun h => ?_) | refine Branch.mk (fun h => ?_) (fun h => ?_)) <;> (try simp only [List.length_map] at h) <;> (try omega) <;> (try contradiction))
    | (guard_target = CallN _ 132 _ _ _ _; refine CallN.pure _ _ rfl (SameExpr_told _ _) rfl _ rfl ?_)
    | (guard_target = Arith _ _ _; refine Arith.fit (wrap_fit (by first | omega | (simp only [List.length_map]; omega)) (by first | omega | (simp only [List.length_map]; omega))) ?_)
    | (guard_target = Arith _ _ _; refine Arith.fit (by decide) ?_)
    | (guard_target = Index _ _ _; first  | refine Index.mk _ (idx_map (by omega)) ?_)
    | (guard_target = Need (chkDraw _ = true) _; refine Need.mk (by kernel_rfl) ?_)
    | (guard_target = Need (chkRecs _ _ = true) _; refine Need.mk (by first | kernel_rfl | rfl) ?_)
    | (guard_target = Need _ _; refine Need.mk (by first  | omega | (simp only [List.length_map]; omega)) ?_))
theorem l08SameEquation_ok (x y : XEquation) : CallF Tryz.prog 129 [.c (.rp 6 (encEquation x)), .c (.rp 6 (encEquation y))] (B (eqv x y)) := by
  rw [eqQ]
  refine callF_of_vc htb hm Tryz.func129 rfl rfl rfl rfl (ann := fun _ => none) (gh := fun _ => false) ?_
  repeat' ((conv => whnf); first
    | (guard_target = Done _; refine Done.mk ?_; first | (rfl; done) | (simp_all [normS, normV]; done) | (simp_all [normS, normV]; omega; done) | (simp_all [normS, normV]; intros; omega; done) | (simp_all [-List.all_eq_true, -List.all_eq_false, normS, normV]; done) | (simp_all [-List.all_eq_true, -List.all_eq_false, normS, normV]; omega; done) | skip)
    | (guard_target = RetX _ _; refine RetX.mk ?_ ?_)
    | (guard_target = Fact _ _; refine Fact.mk fun hL => ?_; (try simp only [List.length_map, maxLen] at hL))
    | (guard_target = Branch _ _ _; (first | refine Branch.dec (fun h => ?_) (fun h => ?_) | refine Branch.beq (fun h => ?_) (fun h => ?_) | refine Branch.bne (fun h => ?_) (fun h => ?_) | refine Branch.ndec (fun h => ?_) (fun h => ?_) | refine Branch.nb (fun h => ?_) (fun h => ?_) | refine Branch.mk (fun h => ?_) (fun h => ?_)) <;> (try simp only [List.length_map] at h) <;> (try omega) <;> (try contradiction))
    | (guard_target = CallN _ 157 _ _ _ _; refine CallN.pure _ _ rfl (l01Same_cut _ _ _ _ 6 (by decide)) rfl _ rfl ?_)
    | (guard_target = CallN _ 157 _ _ _ _; refine CallN.pure _ _ rfl (l01Same_cut _ _ [] [] 3 (by decide)) rfl _ rfl ?_)
    | (guard_target = Arith _ _ _; refine Arith.fit (wrap_fit (by first | omega | (simp only [List.length_map]; omega)) (by first | omega | (simp only [List.length_map]; omega))) ?_)
    | (guard_target = Arith _ _ _; refine Arith.fit (by decide) ?_)
    | (guard_target = Index _ _ _; first  | refine Index.mk _ (idx_map (by omega)) ?_)
    | (guard_target = Need (chkDraw _ = true) _; refine Need.mk (by kernel_rfl) ?_)
    | (guard_target = Need (chkRecs _ _ = true) _; refine Need.mk (by first | kernel_rfl | rfl) ?_)
    | (guard_target = Need _ _; refine Need.mk (by first  | omega | (simp only [List.length_map]; omega)) ?_))
/-! ### soundness -/
/-- what a valid server's notes bear besides -/
structure VE (l : List XNote) : Prop where
  vn : VN l
  cl : ∀ x, known l x → 0 < (noteOf l x).entry.proof.claims.length ∧ (noteOf l x).entry.proof.claims.length ≤ 1000000
  rl : ∀ x, known l x → (restsN l x).length ≤ 4
theorem VE.of {t a : Int} {l : List XNote} (hg : goodNotes t a l = true) : VE l := by
  have key : ∀ x, known l x → ∃ n ∈ l, n.revoke = false ∧ goodNote t a n = true ∧ noteOf l x = n := fun x hx => by
    obtain ⟨hi, hp⟩ := idxP_get (p := noteIs false x) (l := l) hx
    have h1 := (gn_get hg hi).1
    refine ⟨_, List.getElem_mem hi, ?_, h1, getD_eq hi⟩
    have := (Bool.and_eq_true _ _ ▸ hp : _ ∧ _).1
    simpa using this
  have key2 : ∀ x, known l x → goodEntry t a (noteOf l x).entry.rests (noteOf l x).entry.proof = true := fun x hx => by
    obtain ⟨n, _, hr, hn, e⟩ := key x hx
    rw [e]
    unfold goodNote at hn
    rw [hr] at hn
    simp only [Bool.false_eq_true, if_false, Bool.and_eq_true] at hn
    exact hn.2.2
  refine ⟨VN.of hg, fun x hx => ?_, fun x hx => ?_⟩
  · have h := key2 x hx
    simp only [goodEntry, goodProof, Bool.and_eq_true, decide_eq_true_eq] at h
    have := h.2.2.2.1.2.1
    omega
  · have h := key2 x hx
    simp only [goodEntry, Bool.and_eq_true, decide_eq_true_eq] at h
    have := h.1
    show (noteOf l x).entry.rests.length ≤ 4
    omega
def revP (l : List XNote) (z : Int) : Bool := decide (0 ≤ spotN l true z)
noncomputable def soundB (l : List XNote) (x : Int) : Bool := !((closN l x).any (revP l))
theorem isSound1_ok (l : List XNote) (x : Int) : CallF Tryz.prog 131 [I x, .c (.rp 1 [.ro 7 (l.map encNote)])] (B (revP l x)) := by
  refine callF_of_vc htb hm Tryz.func131 rfl rfl rfl rfl (ann := fun _ => none) (gh := fun _ => false) ?_
  repeat' ((conv => whnf); first
    | (guard_target = Done _; refine Done.mk ?_; first | (rfl; done) | skip)
    | (guard_target = RetX _ _; refine RetX.mk ?_ ?_)
    | (guard_target = Fact _ _; refine Fact.mk fun hL => ?_; (try simp only [List.length_map, maxLen] at hL))
    | (guard_target = Branch _ _ _; (first | refine Branch.dec (fun h => ?_) (fun h => ?_) | refine Branch.beq (fun h => ?_) (fun h => ?_) | refine Branch.bne (fun h => ?_) (fun h => ?_) | refine Branch.ndec (fun h => ?_) (fun h => ?_) | refine Branch.nb (fun h => ?_) (fun h => ?_) | refine Branch.mk (fun h => ?_) (fun h => ?_)) <;> (try simp only [List.length_map] at h) <;> (try omega) <;> (try contradiction))
    | (guard_target = CallN _ 71 _ _ _ _; refine CallN.pure _ _ rfl (find_ok l true x) rfl _ rfl ?_)
    | (guard_target = Arith _ _ _; refine Arith.fit (wrap_fit (by first | omega | (simp only [List.length_map]; omega)) (by first | omega | (simp only [List.length_map]; omega))) ?_)
    | (guard_target = Arith _ _ _; refine Arith.fit (by decide) ?_)
    | (guard_target = Index _ _ _; first  | refine Index.mk _ (idx_map (by omega)) ?_)
    | (guard_target = Need (chkDraw _ = true) _; refine Need.mk (by kernel_rfl) ?_)
    | (guard_target = Need (chkRecs _ _ = true) _; refine Need.mk (by first | kernel_rfl | rfl) ?_)
    | (guard_target = Need _ _; refine Need.mk (by first  | omega | (simp only [List.length_map]; omega)) ?_))
theorem IndexFuncR_ok (l : List XNote) (ids : List Int) : CallF Tryz.prog 85 [.c (.ro 1 (ids.map eI)), .clo 131 [.c (.rp 1 [.ro 7 (l.map encNote)])]] (I (idxP (revP l) ids)) := by
  refine callF_of_vc htb hm Tryz.func85 rfl rfl rfl rfl (ann := fun _ => none) (gh := fun _ => false) ?_
  repeat' ((conv => whnf); first
    | (guard_target = Done _; refine Done.mk ?_; first | (exact congrArg I (idxP_at (i := i) (by omega) ha.2 (decide_eq_true h)).symm; done) | (exact congrArg I (idxP_none (all_end (by omega) ha)).symm; done) | skip)
    | (guard_target = RetX _ _; refine RetX.mk ?_ ?_)
    | (guard_target =~ LoopE 2 _ _ _ _ _ _; refine LoopE.mk { α := Nat, keep := [0, 1, 7], ov := fun i => [(8, I i)], φ := fun i => i ≤ ids.length ∧ (ids.take i).all (fun y => !(revP l y)) = true, μ := fun i => ids.length - i } (LoopN.mk (0 : Nat) (by exact ⟨Nat.zero_le _, rfl⟩) (by (repeat' first | exact trivial | exact rfl | refine ⟨?_, ?_⟩); done) (by (repeat' first | exact trivial | exact rfl | refine ⟨?_, ?_⟩); done) (by (repeat' first | exact trivial | exact rfl | refine ⟨?_, ?_⟩ | (simp only [List.map_append, List.map_cons, List.map_nil, List.map_set]; first | done | rfl)); done) (fun (i : Nat) ha => ?_) (by intro A; first | rfl | (obtain ⟨_, _⟩ := A; rfl) | (obtain ⟨_, _, _⟩ := A; rfl))); have ha : i ≤ ids.length ∧ (ids.take i).all (fun y => !(revP l y)) = true := ha)
    | (guard_target = Gh _ _ _ _ _; refine Gh.go ⟨(i + 1 : Nat), (by exact all_go (by omega) ha (not_of (decide_eq_false h))), (by first | (show _ < _; simp only []; omega) | omega | (simp; omega)), (by (repeat' first | exact trivial | exact rfl | refine ⟨?_, ?_⟩); done), (by (repeat' first | exact trivial | exact rfl | refine ⟨?_, ?_⟩); done), (by (repeat' first | exact trivial | exact rfl | refine ⟨?_, ?_⟩ | (simp only [List.map_append, List.map_cons, List.map_nil, List.map_set]; first | done | rfl)); done)⟩)
    | (guard_target = Fact _ _; refine Fact.mk fun hL => ?_; (try simp only [List.length_map, maxLen] at hL))
    | (guard_target = Branch _ _ _; (first | refine Branch.dec (fun h => ?_) (fun h => ?_) | refine Branch.beq (fun h => ?_) (fun h => ?_) | refine Branch.bne (fun h => ?_) (fun h => ?_) | refine Branch.ndec (fun h => ?_) (fun h => ?_) | refine Branch.nb (fun h => ?_) (fun h => ?_) | refine Branch.mk (fun h => ?_) (fun h => ?_)) <;> (try simp only [List.length_map] at h) <;> (try omega) <;> (try contradiction))
    | (guard_target = CallN _ 131 _ _ _ _; refine CallN.pure _ _ rfl (isSound1_ok l _) rfl _ rfl ?_)
    | (guard_target = Arith _ _ _; refine Arith.fit (wrap_fit (by first | omega | (simp only [List.length_map]; omega)) (by first | omega | (simp only [List.length_map]; omega))) ?_)
    | (guard_target = Arith _ _ _; refine Arith.fit (by decide) ?_)
    | (guard_target = Index _ _ _; first | refine Index.mk _ (idx_map (i := i) (by omega)) ?_ | refine Index.mk _ (idx_map (by omega)) ?_)
    | (guard_target = Need (chkDraw _ = true) _; refine Need.mk (by kernel_rfl) ?_)
    | (guard_target = Need (chkRecs _ _ = true) _; refine Need.mk (by first | kernel_rfl | rfl) ?_)
    | (guard_target = Need _ _; refine Need.mk (by first  | omega | (simp only [List.length_map]; omega)) ?_))
theorem ContainsFuncR_ok (l : List XNote) (ids : List Int) : CallF Tryz.prog 130 [.c (.ro 1 (ids.map eI)), .clo 131 [.c (.rp 1 [.ro 7 (l.map encNote)])]] (B (ids.any (revP l))) := by
  have h9 : decide (idxP (revP l) ids ≥ 0) = ids.any (revP l) := by
    refine Bool.eq_iff_iff.2 ?_
    rw [decide_eq_true_iff, ge_iff_le, idxP_ge, List.any_eq_true]
  rw [← h9]
  refine callF_of_vc htb hm Tryz.func130 rfl rfl rfl rfl (ann := fun _ => none) (gh := fun _ => false) ?_
  repeat' ((conv => whnf); first
    | (guard_target = Done _; refine Done.mk ?_; first | (rfl; done) | skip)
    | (guard_target = RetX _ _; refine RetX.mk ?_ ?_)
    | (guard_target = Fact _ _; refine Fact.mk fun hL => ?_; (try simp only [List.length_map, maxLen] at hL))
    | (guard_target = Branch _ _ _; (first | refine Branch.dec (fun h => ?_) (fun h => ?_) | refine Branch.beq (fun h => ?_) (fun h => ?_) | refine Branch.bne (fun h => ?_) (fun h => ?_) | refine Branch.ndec (fun h => ?_) (fun h => ?_) | refine Branch.nb (fun h => ?_) (fun h => ?_) | refine Branch.mk (fun h => ?_) (fun h => ?_)) <;> (try simp only [List.length_map] at h) <;> (try omega) <;> (try contradiction))
    | (guard_target = CallN _ 85 _ _ _ _; refine CallN.pure _ _ rfl (IndexFuncR_ok l ids) rfl _ rfl ?_)
    | (guard_target = Arith _ _ _; refine Arith.fit (wrap_fit (by first | omega | (simp only [List.length_map]; omega)) (by first | omega | (simp only [List.length_map]; omega))) ?_)
    | (guard_target = Arith _ _ _; refine Arith.fit (by decide) ?_)
    | (guard_target = Index _ _ _; first  | refine Index.mk _ (idx_map (by omega)) ?_)
    | (guard_target = Need (chkDraw _ = true) _; refine Need.mk (by kernel_rfl) ?_)
    | (guard_target = Need (chkRecs _ _ = true) _; refine Need.mk (by first | kernel_rfl | rfl) ?_)
    | (guard_target = Need _ _; refine Need.mk (by first  | omega | (simp only [List.length_map]; omega)) ?_))
theorem isSound_ok (l : List XNote) (x : Int) (hv : VN l) (hk : known l x) : CallF Tryz.prog 83 [.c (.ro 7 (l.map encNote)), I x] (B (soundB l x)) := by
  have hc := closure_ok l x hv hk
  refine callF_of_vc htb hm Tryz.func83 rfl rfl rfl rfl (ann := fun _ => none) (gh := fun _ => false) ?_
  repeat' ((conv => whnf); first
    | (guard_target = Done _; refine Done.mk ?_; first | (rfl; done) | skip)
    | (guard_target = RetX _ _; refine RetX.mk ?_ ?_)
    | (guard_target = Fact _ _; refine Fact.mk fun hL => ?_; (try simp only [List.length_map, maxLen] at hL))
    | (guard_target = Branch _ _ _; (first | refine Branch.dec (fun h => ?_) (fun h => ?_) | refine Branch.beq (fun h => ?_) (fun h => ?_) | refine Branch.bne (fun h => ?_) (fun h => ?_) | refine Branch.ndec (fun h => ?_) (fun h => ?_) | refine Branch.nb (fun h => ?_) (fun h => ?_) | refine Branch.mk (fun h => ?_) (fun h => ?_)) <;> (try simp only [List.length_map] at h) <;> (try omega) <;> (try contradiction))
    | (guard_target = CallN _ 78 _ _ _ _; refine CallN.gen [] _ _ _ rfl (hc) rfl rfl _ rfl ?_)
    | (guard_target = CallN _ 130 _ _ _ _; refine CallN.pure _ _ rfl (ContainsFuncR_ok l (closN l x)) rfl _ rfl ?_)
    | (guard_target = Arith _ _ _; refine Arith.fit (wrap_fit (by first | omega | (simp only [List.length_map]; omega)) (by first | omega | (simp only [List.length_map]; omega))) ?_)
    | (guard_target = Arith _ _ _; refine Arith.fit (by decide) ?_)
    | (guard_target = Index _ _ _; first  | refine Index.mk _ (idx_map (by omega)) ?_)
    | (guard_target = Need (chkDraw _ = true) _; refine Need.mk (by kernel_rfl) ?_)
    | (guard_target = Need (chkRecs _ _ = true) _; refine Need.mk (by first | kernel_rfl | rfl) ?_)
    | (guard_target = Need _ _; refine Need.mk (by first  | omega | (simp only [List.length_map]; omega)) ?_))
/-- a note that revokes a lemma of the closure -/
noncomputable def badN (l : List XNote) (x : Int) (n : XNote) : Bool := n.revoke && (markN l x).getD n.id.toNat false
theorem sound_marks {l : List XNote} (hv : VN l) {x : Int} (hk : known l x) : soundB l x = !(l.any (badN l x)) := by
  unfold soundB
  congr 1
  refine Bool.eq_iff_iff.2 ?_
  rw [List.any_eq_true, List.any_eq_true]
  constructor
  · rintro ⟨z, hz, hr⟩
    have hr := of_decide_eq_true hr
    obtain ⟨n, hn, hp⟩ := idxP_ge.1 hr
    simp only [noteIs, Bool.and_eq_true, beq_iff_eq] at hp
    refine ⟨n, hn, ?_⟩
    have h1 := hv.range true z hr
    unfold badN
    rw [hp.1, Bool.true_and, hp.2, mark_get hv hk, show ((z.toNat : Nat) : Int) = z by omega]
    exact cdec_yes ((mem_clos hv hk).1 hz)
  · rintro ⟨n, hn, hb⟩
    simp only [badN, Bool.and_eq_true] at hb
    have hs : 0 ≤ spotN l true n.id := idxP_ge.2 ⟨n, hn, by simp [noteIs, hb.1]⟩
    have h1 := hv.range true n.id hs
    refine ⟨n.id, (mem_clos hv hk).2 ?_, decide_eq_true hs⟩
    have h2 := hb.2
    rw [mark_get hv hk, show ((n.id.toNat : Nat) : Int) = n.id by omega] at h2
    exact cdec_of h2
theorem rev_rng {l : List XNote} (hv : VN l) {n : XNote} (hn : n ∈ l) (hr : n.revoke = true) : 0 ≤ n.id ∧ n.id ≤ 99 :=
  hv.range true n.id (idxP_ge.2 ⟨n, hn, by simp [noteIs, hr]⟩)
theorem any_stop {α : Type} {p : α → Bool} {l : List α} {i : Nat} (hi : i < l.length) (h : p l[i] = true) : l.any p = true := List.any_eq_true.2 ⟨_, List.getElem_mem hi, h⟩
theorem any_end {α : Type} {p : α → Bool} {l : List α} {i : Nat} (hi : l.length ≤ i) (h : (l.take i).all (fun y => !(p y)) = true) : l.any p = false := by
  rw [List.take_of_length_le hi] at h
  cases hb : l.any p with
  | false => rfl
  | true =>
    obtain ⟨y, hy, hp⟩ := List.any_eq_true.1 hb
    have := List.all_eq_true.1 h y hy
    rw [hp] at this
    cases this
theorem l08Clean_ok (l : List XNote) (x : Int) (hv : VN l) (hk : known l x) : CallF Tryz.prog 81 [.c (.ro 7 (l.map encNote)), I x] (B (soundB l x)) := by
  have hc := l08Closure_ok l x hv hk
  have hml := mark_len l x
  have hrv : ∀ i (hi : i < l.length), (l.getD i n0).revoke = true → 0 ≤ (l.getD i n0).id ∧ (l.getD i n0).id ≤ 99 := fun i hi hr => by
    rw [getD_eq hi] at hr ⊢
    exact rev_rng hv (List.getElem_mem hi) hr
  rw [sound_marks hv hk]
  refine callF_of_vc htb hm Tryz.func81 rfl rfl rfl rfl (ann := fun _ => none) (gh := fun _ => false) ?_
  repeat' ((conv => whnf); first
    | (guard_target = Done _; refine Done.mk ?_; first | ((refine no_of ?_; rw [any_stop (i := i) (by omega) (by rw [← getD_eq (d := n0) (by omega)]; simp_all [badN])]; rfl); done) | ((refine yes_of ?_; rw [any_end (by omega) ha.2]; rfl); done) | skip)
    | (guard_target = RetX _ _; refine RetX.mk ?_ ?_)
    | (guard_target =~ LoopE 3 _ _ _ _ _ _; refine LoopE.mk { α := Nat, keep := [0, 5], ov := fun i => [(6, I i)], φ := fun i => i ≤ l.length ∧ (l.take i).all (fun y => !(badN l x y)) = true, μ := fun i => l.length - i } (LoopN.mk (0 : Nat) (by exact ⟨Nat.zero_le _, rfl⟩) (by (repeat' first | exact trivial | exact rfl | refine ⟨?_, ?_⟩); done) (by (repeat' first | exact trivial | exact rfl | refine ⟨?_, ?_⟩); done) (by (repeat' first | exact trivial | exact rfl | refine ⟨?_, ?_⟩ | (simp only [List.map_append, List.map_cons, List.map_nil, List.map_set]; first | done | rfl)); done) (fun (i : Nat) ha => ?_) (by intro A; first | rfl | (obtain ⟨_, _⟩ := A; rfl) | (obtain ⟨_, _, _⟩ := A; rfl))); have ha : i ≤ l.length ∧ (l.take i).all (fun y => !(badN l x y)) = true := ha)
    | (guard_target = Gh _ _ _ _ _; refine Gh.go ⟨(i + 1 : Nat), (by exact all_go (by omega) ha (by (first | (have h1 : badN l x (l.getD i n0) = false := (by simp_all [badN]); rw [getD_eq (by omega)] at h1; rw [h1]; rfl)))), (by first | (show _ < _; simp only []; omega) | omega | (simp; omega)), (by (repeat' first | exact trivial | exact rfl | refine ⟨?_, ?_⟩); done), (by (repeat' first | exact trivial | exact rfl | refine ⟨?_, ?_⟩); done), (by (repeat' first | exact trivial | exact rfl | refine ⟨?_, ?_⟩ | (simp only [List.map_append, List.map_cons, List.map_nil, List.map_set]; first | done | rfl)); done)⟩)
    | (guard_target = Fact _ _; refine Fact.mk fun hL => ?_; (try simp only [List.length_map, maxLen] at hL))
    | (guard_target = Branch _ _ _; (first | refine Branch.dec (fun h => ?_) (fun h => ?_) | refine Branch.beq (fun h => ?_) (fun h => ?_) | refine Branch.bne (fun h => ?_) (fun h => ?_) | refine Branch.ndec (fun h => ?_) (fun h => ?_) | refine Branch.nb (fun h => ?_) (fun h => ?_) | refine Branch.mk (fun h => ?_) (fun h => ?_)) <;> (try simp only [List.length_map] at h) <;> (try omega) <;> (try contradiction))
    | (guard_target = CallN _ 77 _ _ _ _; refine CallN.gen [] _ _ _ rfl (hc) rfl rfl _ rfl ?_)
    | (guard_target = Arith _ _ _; refine Arith.fit (wrap_fit (by first | omega | (simp only [List.length_map]; omega)) (by first | omega | (simp only [List.length_map]; omega))) ?_)
    | (guard_target = Arith _ _ _; refine Arith.fit (by decide) ?_)
    | (guard_target = Index _ _ _; first | refine Index.mk _ (idx_getD (d := n0) (i := i) (by omega)) ?_ | refine Index.mk _ (idx_getD (d := false) (i := (l.getD i n0).id.toNat) (l := markN l x) (by have h0 : (l.getD i n0).revoke = true := (by simp_all); have h1 := hrv i (by omega) h0; rw [hml]; omega)) ?_ | refine Index.mk _ (idx_map (by omega)) ?_)
    | (guard_target = Need (chkDraw _ = true) _; refine Need.mk (by kernel_rfl) ?_)
    | (guard_target = Need (chkRecs _ _ = true) _; refine Need.mk (by first | kernel_rfl | rfl) ?_)
    | (guard_target = Need _ _; refine Need.mk (by first | ((have h1 := hrv i (by omega) h; simp only [List.length_map, hml]; omega)) | omega | (simp only [List.length_map]; omega)) ?_))
end Go.Proofs.YtbbaadkgmdkjdaaGreat

namespace Go.Proofs.YtbbaadkgmdkjdaaGreat
open Go Go.KA Go.Proofs
set_option maxHeartbeats 16000000
set_option maxRecDepth 100000
abbrev ownT (x : XExpr) : List CV := [J x.kind, J x.num, .own 67 3 (x.kids.map ownExpr)]
theorem own_next {l : List XExpr} {i : Nat} {rows : List (List CV)} (hi : i < l.length) (h : rows = (l.take i).map ownExpr) : rows ++ [ownT l[i]] = (l.take (i + 1)).map ownExpr := by
  rw [take_map_next hi, h, ownExpr_eq]
theorem copyExpr_all (x : XExpr) (hl : x.kids.length ≤ 1048576) (hx : ∀ k ∈ x.kids, CallX Tryz.prog 95 [.a 3 (encExpr k)] [] (.a 3 (ownT k))) : CallX Tryz.prog 95 [.a 3 (toldE x)] [] (.a 3 (ownT x)) := by
  refine callX_of_vc htb hm Tryz.func95 rfl rfl rfl rfl (ann := fun _ => none) (gh := fun _ => false) ?_
  repeat' ((conv => whnf); first
    | (guard_target = Done _; refine Done.mk ?_)
    | (guard_target = RetX _ _; refine RetX.mk ?_ ?_)
    | (guard_target =~ LoopE 3 _ _ _ _ _ _; refine LoopE.mk { α := Nat × List (List CV), keep := [2, 3, 12, 13], ov := fun ⟨i, rows⟩ => [(14, I (i : Nat))], hv := fun ⟨i, rows⟩ => [(5, .cells [.c (J x.kind), .c (J x.num), .lw 3]), (3, .orow none 67 3 rows)], φ := fun ⟨i, rows⟩ => i ≤ x.kids.length ∧ rows = (x.kids.take i).map ownExpr, μ := fun ⟨i, rows⟩ => x.kids.length - i } (LoopN.mk ((0, []) : Nat × List (List CV)) (by exact ⟨Nat.zero_le _, rfl⟩) (by (repeat' first | exact trivial | exact rfl | refine ⟨?_, ?_⟩); done) (by (repeat' first | exact trivial | exact rfl | refine ⟨?_, ?_⟩); done) (by (repeat' first | exact trivial | exact rfl | refine ⟨?_, ?_⟩ | (simp only [List.map_append, List.map_cons, List.map_nil, List.map_set]; first | done | rfl)); done) (fun A ha => ?_) (by intro A; first | rfl | (obtain ⟨_, _⟩ := A; rfl) | (obtain ⟨_, _, _⟩ := A; rfl))); obtain ⟨i, rows⟩ := A; have ha : i ≤ x.kids.length ∧ rows = (x.kids.take i).map ownExpr := ha; have hrl : rows.length = i := (by rw [ha.2, List.length_map, List.length_take]; omega))
    | (guard_target = Gh _ _ _ _ _; refine Gh.go ⟨((i + 1, rows ++ [ownT x.kids[i]]) : Nat × List (List CV)), (by exact ⟨by show i + 1 ≤ _; omega, own_next (by omega) ha.2⟩), (by first | (show _ < _; simp only []; omega) | omega | (simp; omega)), (by (repeat' first | exact trivial | exact rfl | refine ⟨?_, ?_⟩); done), (by (repeat' first | exact trivial | exact rfl | refine ⟨?_, ?_⟩); done), (by (repeat' first | exact trivial | exact rfl | refine ⟨?_, ?_⟩ | (simp only [List.map_append, List.map_cons, List.map_nil, List.map_set]; first | done | rfl)); done)⟩)
    | (guard_target = Fact _ _; refine Fact.mk fun hL => ?_; (try simp only [List.length_map, maxLen] at hL))
    | (guard_target = Branch _ _ _; (first | refine Branch.dec (fun h => ?_) (fun h => ?_) | refine Branch.beq (fun h => ?_) (fun h => ?_) | refine Branch.bne (fun h => ?_) (fun h => ?_) | refine Branch.ndec (fun h => ?_) (fun h => ?_) | refine Branch.nb (fun h => ?_) (fun h => ?_) | refine Branch.mk (fun h => ?_) (fun h => ?_)) <;> (try simp only [List.length_map] at h) <;> (try omega) <;> (try contradiction))
    | (guard_target = CallN _ 95 _ _ _ _; refine CallN.gen [] _ _ _ rfl (hx _ (List.getElem_mem (by omega))) rfl rfl _ rfl ?_)
    | (guard_target = Arith _ _ _; refine Arith.fit (wrap_fit (by first | omega | (simp only [List.length_map]; omega)) (by first | omega | (simp only [List.length_map]; omega))) ?_)
    | (guard_target = Arith _ _ _; refine Arith.fit (by decide) ?_)
    | (guard_target = Index _ _ _; first | refine Index.mk _ (idx_map (i := i) (by omega)) ?_ | refine Index.mk _ (idx_map (by omega)) ?_)
    | (guard_target = Need (chkDraw _ = true) _; refine Need.mk (by kernel_rfl) ?_)
    | (guard_target = Need (chkRecs _ _ = true) _; refine Need.mk (by first | kernel_rfl | rfl) ?_)
    | (guard_target = Need _ _; refine Need.mk (by first | ((simp only [List.length_cons, List.length_nil, maxLen]; constructor <;> omega)) | omega | (simp only [List.length_map]; omega)) ?_))
  all_goals first | rfl | trivial | (have h9 := ha.2; rw [List.take_of_length_le (by omega)] at h9; rw [h9]; rfl)
theorem l01Own_all (x : XExpr) (hl : x.kids.length ≤ 1048576) (hx : ∀ k ∈ x.kids, CallX Tryz.prog 92 [.c (.rp 3 (encExpr k))] [] (.a 3 (ownT k))) : CallX Tryz.prog 92 [.c (.rp 3 (toldE x))] [] (.a 3 (ownT x)) := by
  refine callX_of_vc htb hm Tryz.func92 rfl rfl rfl rfl (ann := fun _ => none) (gh := fun _ => false) ?_
  repeat' ((conv => whnf); first
    | (guard_target = Done _; refine Done.mk ?_)
    | (guard_target = RetX _ _; refine RetX.mk ?_ ?_)
    | (guard_target =~ LoopE 3 _ _ _ _ _ _; refine LoopE.mk { α := Nat × List (List CV), keep := [0, 2, 3], ov := fun ⟨i, rows⟩ => [(4, I (i : Nat))], hv := fun ⟨i, rows⟩ => [(4, .cells [.c (J x.kind), .c (J x.num), .lw 2]), (2, .orow none 67 3 rows)], φ := fun ⟨i, rows⟩ => i ≤ x.kids.length ∧ rows = (x.kids.take i).map ownExpr, μ := fun ⟨i, rows⟩ => x.kids.length - i } (LoopN.mk ((0, []) : Nat × List (List CV)) (by exact ⟨Nat.zero_le _, rfl⟩) (by (repeat' first | exact trivial | exact rfl | refine ⟨?_, ?_⟩); done) (by (repeat' first | exact trivial | exact rfl | refine ⟨?_, ?_⟩); done) (by (repeat' first | exact trivial | exact rfl | refine ⟨?_, ?_⟩ | (simp only [List.map_append, List.map_cons, List.map_nil, List.map_set]; first | done | rfl)); done) (fun A ha => ?_) (by intro A; first | rfl | (obtain ⟨_, _⟩ := A; rfl) | (obtain ⟨_, _, _⟩ := A; rfl))); obtain ⟨i, rows⟩ := A; have ha : i ≤ x.kids.length ∧ rows = (x.kids.take i).map ownExpr := ha; have hrl : rows.length = i := (by rw [ha.2, List.length_map, List.length_take]; omega))
    | (guard_target = Gh _ _ _ _ _; refine Gh.go ⟨((i + 1, rows ++ [ownT x.kids[i]]) : Nat × List (List CV)), (by exact ⟨by show i + 1 ≤ _; omega, own_next (by omega) ha.2⟩), (by first | (show _ < _; simp only []; omega) | omega | (simp; omega)), (by (repeat' first | exact trivial | exact rfl | refine ⟨?_, ?_⟩); done), (by (repeat' first | exact trivial | exact rfl | refine ⟨?_, ?_⟩); done), (by (repeat' first | exact trivial | exact rfl | refine ⟨?_, ?_⟩ | (simp only [List.map_append, List.map_cons, List.map_nil, List.map_set]; first | done | rfl)); done)⟩)
    | (guard_target = Fact _ _; refine Fact.mk fun hL => ?_; (try simp only [List.length_map, maxLen] at hL))
    | (guard_target = Branch _ _ _; (first | refine Branch.dec (fun h => ?_) (fun h => ?_) | refine Branch.beq (fun h => ?_) (fun h => ?_) | refine Branch.bne (fun h => ?_) (fun h => ?_) | refine Branch.ndec (fun h => ?_) (fun h => ?_) | refine Branch.nb (fun h => ?_) (fun h => ?_) | refine Branch.mk (fun h => ?_) (fun h => ?_)) <;> (try simp only [List.length_map] at h) <;> (try omega) <;> (try contradiction))
    | (guard_target = CallN _ 92 _ _ _ _; refine CallN.gen [] _ _ _ rfl (hx _ (List.getElem_mem (by omega))) rfl rfl _ rfl ?_)
    | (guard_target = Arith _ _ _; refine Arith.fit (wrap_fit (by first | omega | (simp only [List.length_map]; omega)) (by first | omega | (simp only [List.length_map]; omega))) ?_)
    | (guard_target = Arith _ _ _; refine Arith.fit (by decide) ?_)
    | (guard_target = Index _ _ _; first | refine Index.mk _ (idx_map (i := i) (by omega)) ?_ | refine Index.mk _ (idx_map (by omega)) ?_)
    | (guard_target = Need (chkDraw _ = true) _; refine Need.mk (by kernel_rfl) ?_)
    | (guard_target = Need (chkRecs _ _ = true) _; refine Need.mk (by first | kernel_rfl | rfl) ?_)
    | (guard_target = Need _ _; refine Need.mk (by first | ((simp only [List.length_cons, List.length_nil, maxLen]; constructor <;> omega)) | omega | (simp only [List.length_map]; omega)) ?_))
  all_goals first | rfl | trivial | (have h9 := ha.2; rw [List.take_of_length_le (by omega)] at h9; rw [h9]; rfl)
theorem copyExpr_ok (x : XExpr) (hb : budExpr x ≤ 1048576) : CallX Tryz.prog 95 [.a 3 (encExpr x)] [] (.a 3 (ownT x)) := by
  rw [encExpr_eq]
  have h1 : budS budExpr x.kids ≤ budExpr x := by
    cases x
    simp only [budExpr, budExprS_eq, XExpr.kids]
    exact Nat.le_refl _
  exact copyExpr_all x (by have := budS_len budExpr x.kids; omega) fun k _hk => copyExpr_ok k (by have := budS_mem budExpr _hk; omega)
  termination_by SizeOf.sizeOf x
  decreasing_by
    have := List.sizeOf_lt_of_mem _hk
    cases x
    simp only [XExpr.mk.sizeOf_spec]
    show SizeOf.sizeOf k < _
    simp only [XExpr.kids] at this
    omega
theorem l01Own_ok (x : XExpr) (hb : budExpr x ≤ 1048576) : CallX Tryz.prog 92 [.c (.rp 3 (encExpr x))] [] (.a 3 (ownT x)) := by
  rw [encExpr_eq]
  have h1 : budS budExpr x.kids ≤ budExpr x := by
    cases x
    simp only [budExpr, budExprS_eq, XExpr.kids]
    exact Nat.le_refl _
  exact l01Own_all x (by have := budS_len budExpr x.kids; omega) fun k _hk => l01Own_ok k (by have := budS_mem budExpr _hk; omega)
  termination_by SizeOf.sizeOf x
  decreasing_by
    have := List.sizeOf_lt_of_mem _hk
    cases x
    simp only [XExpr.mk.sizeOf_spec]
    show SizeOf.sizeOf k < _
    simp only [XExpr.kids] at this
    omega
end Go.Proofs.YtbbaadkgmdkjdaaGreat

namespace Go.Proofs.YtbbaadkgmdkjdaaGreat
open Go Go.KA Go.Proofs
set_option maxHeartbeats 16000000
set_option maxRecDepth 100000
theorem copyExpr_told (x : XExpr) (hb : budExpr x ≤ 1048576) : CallX Tryz.prog 95 [.a 3 (toldE x)] [] (.a 3 (ownT x)) := by
  have := copyExpr_ok x hb
  rwa [encExpr_eq] at this
theorem l01Own_told (x : XExpr) (hb : budExpr x ≤ 1048576) (r : List CV) (n : Nat) (hn : 3 ≤ n) : CallX Tryz.prog 92 [.c (.rp n (toldE x ++ r))] [] (.a 3 (ownT x)) := by
  have := l01Own_ok x hb
  rw [encExpr_eq] at this
  exact this.cut (.cut (k := 3) hn .nil)
/-! ### lists that ascend -/
def adjB (l : List Int) : Bool := (List.range l.length).all fun i => decide (i = 0) || decide (l.getD (i - 1) 0 < l.getD i 0)
theorem allR_go {n i : Nat} {p : Nat → Bool} (h : (List.range i).all p = true) (hp : p i = true) : (List.range (i + 1)).all p = true := by
  rw [List.range_succ, List.all_append, h]
  simp [hp]
theorem allR_stop {n i : Nat} {p : Nat → Bool} (hi : i < n) (hp : p i = false) : (List.range n).all p = false := by
  cases hb : (List.range n).all p with
  | false => rfl
  | true =>
    have := List.all_eq_true.1 hb i (List.mem_range.2 hi)
    rw [hp] at this
    cases this
abbrev adjP (l : List Int) (i : Nat) : Bool := decide (i = 0) || decide (l.getD (i - 1) 0 < l.getD i 0)
theorem adj_no {l : List Int} {i : Nat} (h1 : 1 ≤ i) (hi : i < l.length) (h : l.getD i 0 ≤ l.getD ((i : Int) - 1).toNat 0) : adjB l = false := by
  refine allR_stop (p := adjP l) hi ?_
  rw [show ((i : Int) - 1).toNat = i - 1 by omega] at h
  unfold adjP
  rw [decide_eq_false (by omega : ¬ i = 0), decide_eq_false (by omega)]
  rfl
theorem adj_next {l : List Int} {i : Nat} (ha : (List.range i).all (adjP l) = true) (h : ¬ l.getD i 0 ≤ l.getD ((i : Int) - 1).toNat 0) : (List.range (i + 1)).all (adjP l) = true := by
  refine allR_go (n := 0) ha ?_
  rw [show ((i : Int) - 1).toNat = i - 1 by omega] at h
  unfold adjP
  rw [decide_eq_true (by omega : l.getD (i - 1) 0 < l.getD i 0), Bool.or_true]
theorem adj_end {l : List Int} {i : Nat} (hi : ¬ i < l.length) (h1 : i ≤ l.length ∨ i = 1) (h : (List.range i).all (adjP l) = true) : adjB l = true := by
  by_cases e : i = l.length
  · subst e; exact h
  · have : l.length = 0 := by omega
    unfold adjB
    rw [this]
    rfl
theorem ascending_ok (l : List Int) : CallF Tryz.prog 93 [.c (.ro 1 (l.map eI))] (B (adjB l)) := by
  refine callF_of_vc htb hm Tryz.func93 rfl rfl rfl rfl (ann := fun _ => none) (gh := fun _ => false) ?_
  repeat' ((conv => whnf); first
    | (guard_target = Done _; refine Done.mk ?_; first | (exact no_of (adj_no ha.1 (by omega) h); done) | (exact yes_of (adj_end (by omega) ha.2.1 ha.2.2); done) | skip)
    | (guard_target = RetX _ _; refine RetX.mk ?_ ?_)
    | (guard_target =~ LoopE 2 _ _ _ _ _ _; refine LoopE.mk { α := Nat, keep := [0], ov := fun i => [(3, I (i : Nat))], φ := fun i => 1 ≤ i ∧ (i ≤ l.length ∨ i = 1) ∧ (List.range i).all (adjP l) = true, μ := fun i => l.length - i } (LoopN.mk (1 : Nat) (by exact ⟨Nat.le_refl _, .inr rfl, rfl⟩) (by (repeat' first | exact trivial | exact rfl | refine ⟨?_, ?_⟩); done) (by (repeat' first | exact trivial | exact rfl | refine ⟨?_, ?_⟩); done) (by (repeat' first | exact trivial | exact rfl | refine ⟨?_, ?_⟩ | (simp only [List.map_append, List.map_cons, List.map_nil, List.map_set]; first | done | rfl)); done) (fun (i : Nat) ha => ?_) (by intro A; first | rfl | (obtain ⟨_, _⟩ := A; rfl) | (obtain ⟨_, _, _⟩ := A; rfl))); have ha : 1 ≤ i ∧ (i ≤ l.length ∨ i = 1) ∧ (List.range i).all (adjP l) = true := ha)
    | (guard_target = Gh _ _ _ _ _; refine Gh.go ⟨(i + 1 : Nat), (by exact ⟨by omega, .inl (by show i + 1 ≤ _; omega), adj_next ha.2.2 h⟩), (by first | (show _ < _; simp only []; omega) | omega | (simp; omega)), (by (repeat' first | exact trivial | exact rfl | refine ⟨?_, ?_⟩); done), (by (repeat' first | exact trivial | exact rfl | refine ⟨?_, ?_⟩); done), (by (repeat' first | exact trivial | exact rfl | refine ⟨?_, ?_⟩ | (simp only [List.map_append, List.map_cons, List.map_nil, List.map_set]; first | done | rfl)); done)⟩)
    | (guard_target = Fact _ _; refine Fact.mk fun hL => ?_; (try simp only [List.length_map, maxLen] at hL))
    | (guard_target = Branch _ _ _; (first | refine Branch.dec (fun h => ?_) (fun h => ?_) | refine Branch.beq (fun h => ?_) (fun h => ?_) | refine Branch.bne (fun h => ?_) (fun h => ?_) | refine Branch.ndec (fun h => ?_) (fun h => ?_) | refine Branch.nb (fun h => ?_) (fun h => ?_) | refine Branch.mk (fun h => ?_) (fun h => ?_)) <;> (try simp only [List.length_map] at h) <;> (try omega) <;> (try contradiction))
    | (guard_target = Arith _ _ _; refine Arith.fit (wrap_fit (by first | omega | (simp only [List.length_map]; omega)) (by first | omega | (simp only [List.length_map]; omega))) ?_)
    | (guard_target = Arith _ _ _; refine Arith.fit (by decide) ?_)
    | (guard_target = Index _ _ _; first | refine Index.mk _ (idx_getD (d := 0) (i := i) (by omega)) ?_ | refine Index.mk _ (idx_getD (d := 0) (i := ((i : Int) - 1).toNat) (by omega)) ?_ | refine Index.mk _ (idx_map (by omega)) ?_)
    | (guard_target = Need (chkDraw _ = true) _; refine Need.mk (by kernel_rfl) ?_)
    | (guard_target = Need (chkRecs _ _ = true) _; refine Need.mk (by first | kernel_rfl | rfl) ?_)
    | (guard_target = Need _ _; refine Need.mk (by first  | omega | (simp only [List.length_map]; omega)) ?_))
/-! ### what servers have saved -/
abbrev sv (a : XArchive) (s : Int) : List XNote := sav (a.servers.getD s.toNat s00)
abbrev cutN (a : XArchive) (s : Int) : List (List CV) := ((((a.servers.getD s.toNat s00).notes.map encNote).drop (0 : Int).toNat).take ((a.servers.getD s.toNat s00).saved.toNat - (0 : Int).toNat))
theorem cutN_eq (a : XArchive) (s : Int) : cutN a s = (sv a s).map encNote := by
  unfold cutN sv sav
  rw [List.map_take, List.map_drop]
theorem sv_good {a : XArchive} (hg : GA a) {s : Int} (hs : placeB a s = true) : goodNotes a.sig.tests a.sig.actions (sv a s) = true := by
  have h1 := place_lt hs
  have h2 := (srv_notes hg h1.2).1
  unfold sv sav
  simp only [Int.toNat_zero, List.drop_zero]
  exact gn_take h2 _
/-- the last server asked that has saved the lemma -/
def lastS (a : XArchive) (id : Int) (l : List Int) : Option Int := l.foldl (fun acc s => if 0 ≤ spotN (sv a s) false id then some s else acc) none
theorem lastS_next {a : XArchive} {id : Int} {l : List Int} {i : Nat} (hi : i < l.length) : lastS a id (l.take (i + 1)) = if 0 ≤ spotN (sv a (l.getD i 0)) false id then some (l.getD i 0) else lastS a id (l.take i) := by
  unfold lastS
  rw [List.take_succ_eq_append_getElem hi, List.foldl_append, getD_eq hi]
  rfl
theorem lastS_acc {a : XArchive} {id : Int} : ∀ {l : List Int} {acc : Option Int} {s : Int}, l.foldl (fun acc s => if 0 ≤ spotN (sv a s) false id then some s else acc) acc = some s → (s ∈ l ∧ known (sv a s) id) ∨ acc = some s
  | [], _, _, h => .inr h
  | x :: l, acc, s, h => by
    rw [List.foldl_cons] at h
    rcases lastS_acc h with h1 | h1
    · exact .inl ⟨by simp [h1.1], h1.2⟩
    · split at h1
      · rename_i hx
        cases h1
        exact .inl ⟨by simp, hx⟩
      · exact .inr h1
theorem lastS_some {a : XArchive} {id : Int} {l : List Int} {s : Int} (h : lastS a id l = some s) : s ∈ l ∧ known (sv a s) id :=
  (lastS_acc h).resolve_right fun h => by cases h
/-- a revocation of a lemma of the closure, among what is saved -/
noncomputable def takenB (a : XArchive) (l : List Int) (L : List XNote) (id : Int) : Bool := l.any fun s => (sv a s).any (badN L id)
theorem taken_closure {a : XArchive} (hg : GA a) {l : List Int} (hl : ∀ s ∈ l, placeB a s = true) {L : List XNote} (hv : VN L) {id : Int} (hk : known L id) :
    (closN L id).any (revP (l.flatMap (sv a))) = takenB a l L id := by
  refine Bool.eq_iff_iff.2 ?_
  unfold takenB
  rw [List.any_eq_true, List.any_eq_true]
  constructor
  · rintro ⟨z, hz, hr⟩
    obtain ⟨n, hn, hp⟩ := idxP_ge.1 (of_decide_eq_true hr)
    obtain ⟨s, hs, hn⟩ := List.mem_flatMap.1 hn
    simp only [noteIs, Bool.and_eq_true, beq_iff_eq] at hp
    have h1 := rev_rng (VN.of (sv_good hg (hl s hs))) hn hp.1
    refine ⟨s, hs, List.any_eq_true.2 ⟨n, hn, ?_⟩⟩
    unfold badN
    rw [hp.1, Bool.true_and, mark_get hv hk, show ((n.id.toNat : Nat) : Int) = n.id by omega, hp.2]
    exact cdec_yes ((mem_clos hv hk).1 hz)
  · rintro ⟨s, hs, h⟩
    obtain ⟨n, hn, hb⟩ := List.any_eq_true.1 h
    simp only [badN, Bool.and_eq_true] at hb
    have h1 := rev_rng (VN.of (sv_good hg (hl s hs))) hn hb.1
    have h2 := hb.2
    rw [mark_get hv hk, show ((n.id.toNat : Nat) : Int) = n.id by omega] at h2
    exact ⟨n.id, (mem_clos hv hk).2 (cdec_of h2), decide_eq_true (idxP_ge.2 ⟨n, List.mem_flatMap.2 ⟨s, hs, hn⟩, by simp [noteIs, hb.1]⟩)⟩
theorem clos_ne {L : List XNote} (hv : VN L) {id : Int} (hk : known L id) : 0 < (closN L id).length := List.length_pos_of_mem ((mem_clos hv hk).2 (.refl _))
theorem known_pos {L : List XNote} {id : Int} (hk : known L id) : 0 < L.length := by
  have := know_idx hk
  omega
abbrev zQ : XEquation := ⟨.mk 0 0 [], .mk 0 0 []⟩
abbrev resQ (q : XEquation) (c : Int) : SV := .tup [.a 6 (ownEquation q), I c]
/-! ### rows without own parts stand as owned ones -/
inductive OwnUp : List CV → List CV → Prop
  | nil : OwnUp [] []
  | same {c cs cs'} (h : OwnUp cs cs') : OwnUp (c :: cs) (c :: cs')
  | up {ty sz rows cs cs'} (h : OwnUp cs cs') : OwnUp (.ows ty sz rows :: cs) (.own ty sz rows :: cs')
theorem OwnUp.den {w : World} {ok : Nat → Prop} {cs cs' : List CV} (h : OwnUp cs cs') : ∀ {vs : List Value} {f : List Nat}, Den w ok cs vs f → Den w ok cs' vs f := by
  induction h with
  | nil => intro vs f h; exact h
  | same h ih =>
    intro vs f hd
    cases hd with
    | any h1 ht => exact .any h1 (ih ht)
    | val h1 ht => exact .val h1 (ih ht)
    | cb ht => exact .cb (ih ht)
    | ro a b c d e f ht => exact .ro a b c d e f (ih ht)
    | rp a b c d ht => exact .rp a b c d (ih ht)
    | own a b c ht => exact .own a b c (ih ht)
    | ows a b c ht => exact .ows a b c (ih ht)
    | op a b ht => exact .op a b (ih ht)
  | up h ih =>
    intro vs f hd
    cases hd with
    | ows a b c ht =>
      have := Den.own a b c (ih ht)
      simpa using this
theorem OwnUp.len {cs cs' : List CV} (h : OwnUp cs cs') : cs.length = cs'.length := by
  induction h <;> simp_all
theorem CallX.ownUp {P : Program} {f : Nat} {args : List SV} {cs cs' : List CV} {n : Nat} {c : Int} (h : CallX P f args [] (.tup [.a n cs, I c])) (hc : OwnUp cs cs') : CallX P f args [] (.tup [.a n cs', I c]) := by
  refine ⟨h.1, fun w ok vs fs h1 h2 h3 h4 => (h.2 w ok vs fs h1 h2 h3 h4).mono ?_⟩
  rintro e w' ⟨v, fr, fo, h5, h6, h7, h8, h9, h10⟩
  refine ⟨v, fr, fo, h5, h6, h7, h8, ?_, h10⟩
  cases h9 with
  | v h =>
    cases h with
    | v h =>
      cases h fun _ => none with
      | c h => cases h
  | tup h =>
    cases h with
    | cons ha ht =>
      refine .tup (.cons ?_ ht)
      cases ha with
      | v h =>
        refine .v fun ρ => ?_
        cases h ρ with
        | c h => cases h
        | a a1 a2 => first | exact .a (hc.len ▸ a1) (hc.den a2) | exact .a hc.len.symm (hc.den a2) | exact .a hc.len.symm (hc.den a1)
      | a hl h => exact .a (hc.len ▸ hl) (hc.den h)
end Go.Proofs.YtbbaadkgmdkjdaaGreat
