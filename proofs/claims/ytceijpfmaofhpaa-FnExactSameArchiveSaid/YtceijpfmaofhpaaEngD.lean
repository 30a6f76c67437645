/- Part of a proof engine for functions of the given program: what an operation, a loop and a call compute, symbolically. No conditions. -/
import Derived.Test.YtceijpfmaofhpaaEngC
import Derived.Maps.AppendAt
namespace Go.KA
open Go Go.RowKit

theorem okOf_grow {Γ : Cx} {H : List Blk} {F : Nat → List Nat} {w w' : World} (hs : w.heap.size ≤ w'.heap.size) {b : Nat} (h : okOf Γ H F w b) : okOf Γ H F w' b :=
  ⟨Nat.lt_of_lt_of_le h.1 hs, h.2⟩

theorem Mem.same {Γ : Cx} {H : List Blk} {ρ : List Value} {F : Nat → List Nat} {w w' : World} (_h : Mem Γ H ρ F w) (hb : Below w.heap.size w w') : ∀ b, okOf Γ H F w b → w'.heap[b]? = w.heap[b]? :=
  fun b hk => hb.block b hk.1

theorem Mem.grow {Γ : Cx} {H : List Blk} {ρ : List Value} {F : Nat → List Nat} {w w' : World} (h : Mem Γ H ρ F w) (hb : Below w.heap.size w w') : Mem Γ H ρ F w' where
  len := h.len
  blocks := fun i k hk => by
    obtain ⟨v, hv, hd⟩ := h.blocks i k hk
    refine ⟨v, hv, hd.mono (h.same hb) (fun b hk => okOf_grow hb.size hk) fun b hbf => hb.block b (h.lt b ⟨i, (List.getElem?_eq_some_iff.1 hk).1, hbf⟩)⟩
  disj := h.disj
  nodup := h.nodup
  lt := fun b hb' => Nat.lt_of_lt_of_le (h.lt b hb') hb.size
  src := h.src
  inlt := h.inlt
  frame := fun b hb' hf => by rw [hb.block b (Nat.lt_of_lt_of_le hb' h.size)]; exact h.frame b hb' hf
  size := Nat.le_trans h.size hb.size
  os := hb.os.trans h.os
  tape := hb.tape.trans h.tape
  output := hb.output.trans h.output

theorem CDen.ext {ρ ρ' : List Value} {w : World} {ok : Nat → Prop} {a : SV} {v : Value} (hρ : ∀ (i : Nat) v, ρ[i]? = some v → ρ'[i]? = some v) (h : CDen ρ w ok a v) : CDen ρ' w ok a v := by
  cases h with
  | c h => exact .c h
  | lp h => exact .lp (hρ _ _ h)
  | le h => exact .le (hρ _ _ h)
  | lw h => exact .lw (hρ _ _ h)
  | ls h h1 h2 h3 => exact .ls (hρ _ _ h) h1 h2 h3
theorem VDen.ext {ρ ρ' : List Value} {w : World} {ok : Nat → Prop} {a : SV} {v : Value} (hρ : ∀ (i : Nat) v, ρ[i]? = some v → ρ'[i]? = some v) (h : VDen ρ w ok a v) : VDen ρ' w ok a v := by
  cases h with
  | c h => exact .c (h.ext hρ)
  | a hl h => exact .a hl h
  | m hl h => exact .m hl fun j a v ha hv => (h j a v ha hv).ext hρ
  | clo hl h => exact .clo hl fun j a v ha hv => (h j a v ha hv).ext hρ
theorem TDen.ext {ρ ρ' : List Value} {w : World} {ok : Nat → Prop} {a : SV} {v : Value} (hρ : ∀ (i : Nat) v, ρ[i]? = some v → ρ'[i]? = some v) (h : TDen ρ w ok a v) : TDen ρ' w ok a v := by
  cases h with
  | any => exact .any
  | v h => exact .v (h.ext hρ)
  | tup hl h => exact .tup hl fun j a v ha hv => (h j a v ha hv).ext hρ
theorem BDen.ext {ρ ρ' : List Value} {w : World} {ok : Nat → Prop} {k : Blk} {v : Value} {f : List Nat} (hρ : ∀ (i : Nat) v, ρ[i]? = some v → ρ'[i]? = some v) (h : BDen ρ w ok k v f) : BDen ρ' w ok k v f := by
  cases h with
  | dead => exact .dead
  | cc hb hl h => exact .cc hb hl h
  | cells hb hl h => exact .cells hb hl fun j a v ha hv => (h j a v ha hv).ext hρ
  | row ho hr hin => exact .row ho hr hin
  | orow ho hr hin => exact .orow ho hr hin

theorem ext_append (ρ : List Value) (x : Value) : ∀ (i : Nat) v, ρ[i]? = some v → (ρ ++ [x])[i]? = some v := by
  intro i v h
  rw [List.getElem?_append_left (List.getElem?_eq_some_iff.1 h).1]
  exact h

def updF (F : Nat → List Nat) (i : Nat) (f : List Nat) : Nat → List Nat := fun j => if j = i then f else F j

/-- A new block of the call's own. -/
theorem Mem.push {Γ : Cx} {H : List Blk} {ρ : List Value} {F : Nat → List Nat} {w w' : World} (h : Mem Γ H ρ F w) (hb : Below w.heap.size w w') {k : Blk} {v : Value} {f : List Nat}
    (hf : ∀ b ∈ f, w.heap.size ≤ b ∧ b < w'.heap.size) (hn : f.Nodup) (hk : BDen (ρ ++ [v]) w' (okOf Γ H F w) k v f) :
    Mem Γ (H ++ [k]) (ρ ++ [v]) (updF F H.length f) w' ∧ ∀ b, okOf Γ H F w b → okOf Γ (H ++ [k]) (updF F H.length f) w' b := by
  have howned : ∀ b, Owned (H ++ [k]) (updF F H.length f) b → Owned H F b ∨ b ∈ f := by
    rintro b ⟨i, hi, hbi⟩
    unfold updF at hbi
    split at hbi
    · exact .inr hbi
    · rename_i hne
      exact .inl ⟨i, by simp at hi; omega, hbi⟩
  have hok : ∀ b, okOf Γ H F w b → okOf Γ (H ++ [k]) (updF F H.length f) w' b := by
    intro b ho
    refine ⟨Nat.lt_of_lt_of_le ho.1 hb.size, ho.2.1, fun hown => ?_⟩
    rcases howned b hown with h1 | h1
    · exact ho.2.2 h1
    · have := (hf b h1).1
      have := ho.1
      omega
  refine ⟨?_, hok⟩
  have hlt : ∀ i, i < H.length → ∀ b ∈ F i, b < w.heap.size := fun i hi b hbi => h.lt b ⟨i, hi, hbi⟩
  constructor
  · simp [h.len]
  · intro i k' hk'
    by_cases hi : i < H.length
    · rw [List.getElem?_append_left hi] at hk'
      obtain ⟨u, hu, hd⟩ := h.blocks i k' hk'
      refine ⟨u, ext_append _ _ _ _ hu, ?_⟩
      have : updF F H.length f i = F i := by unfold updF; rw [if_neg (by omega)]
      rw [this]
      exact (hd.mono (h.same hb) hok fun b hbf => hb.block b (hlt i hi b hbf)).ext (ext_append _ _)
    · have hi' : i = H.length := by
        have := (List.getElem?_eq_some_iff.1 hk').1
        simp at this
        omega
      subst hi'
      simp at hk'
      subst hk'
      refine ⟨v, by rw [← h.len]; simp, ?_⟩
      have : updF F H.length f H.length = f := by unfold updF; simp
      rw [this]
      exact hk.mono (fun b _ => rfl) hok fun b _ => rfl
  · intro i j b hi hj hbi hbj
    unfold updF at hbi hbj
    simp at hi hj
    split at hbi <;> split at hbj
    · omega
    · have := (hf b hbi).1; have := hlt j (by omega) b hbj; omega
    · have := (hf b hbj).1; have := hlt i (by omega) b hbi; omega
    · exact h.disj i j b (by omega) (by omega) hbi hbj
  · intro i hi
    simp at hi
    unfold updF
    split
    · exact hn
    · exact h.nodup i (by omega)
  · intro b hown
    rcases howned b hown with h1 | h1
    · exact Nat.lt_of_lt_of_le (h.lt b h1) hb.size
    · exact (hf b h1).2
  · intro b hown
    rcases howned b hown with h1 | h1
    · exact h.src b h1
    · have := (hf b h1).1
      have := h.size
      exact .inr (by omega)
  · exact h.inlt
  · intro b hb' hfin
    rw [hb.block b (Nat.lt_of_lt_of_le hb' h.size)]
    exact h.frame b hb' hfin
  · exact Nat.le_trans h.size hb.size
  · exact hb.os.trans h.os
  · exact hb.tape.trans h.tape
  · exact hb.output.trans h.output

/-- A block of the call's own is written. What refers to it must still be right: 'ρ'' says where the blocks lie afterwards. -/
theorem Mem.set {Γ : Cx} {H H0 : List Blk} {ρ ρ' : List Value} {F : Nat → List Nat} {w w' : World} (h : Mem Γ H ρ F w) (i : Nat) (hi : i < H.length)
    (hos : w'.os = w.os) (htape : w'.tape = w.tape) (hout : w'.output = w.output) (hsize : w.heap.size ≤ w'.heap.size)
    (hsame : ∀ b, b < w.heap.size → b ∉ F i → w'.heap[b]? = w.heap[b]?) {k : Blk} {v : Value} {f : List Nat} (hv : ρ'[i]? = some v) (hlen : ρ'.length = ρ.length) (hlen0 : H0.length = H.length)
    (hother : ∀ (j : Nat) kk u, j ≠ i → H[j]? = some kk → ρ[j]? = some u → ∃ kk', H0[j]? = some kk' ∧ ρ'[j]? = some u ∧ ∀ (w : World) (ok : Nat → Prop) ff, BDen ρ w ok kk u ff → BDen ρ' w ok kk' u ff)
    (hf : ∀ b ∈ f, b ∈ F i ∨ (w.heap.size ≤ b ∧ b < w'.heap.size)) (hn : f.Nodup) (hk : BDen ρ' w' (okOf Γ H F w) k v f) :
    Mem Γ (H0.set i k) ρ' (updF F i f) w' ∧ ∀ b, okOf Γ H F w b → okOf Γ (H0.set i k) (updF F i f) w' b := by
  have howned : ∀ b, Owned (H0.set i k) (updF F i f) b → Owned H F b ∨ (w.heap.size ≤ b ∧ b < w'.heap.size ∧ b ∈ f) := by
    rintro b ⟨j, hj, hbj⟩
    unfold updF at hbj
    split at hbj
    · rcases hf b hbj with h1 | h1
      · exact .inl ⟨i, hi, h1⟩
      · exact .inr ⟨h1.1, h1.2, hbj⟩
    · exact .inl ⟨j, by simpa [hlen0] using hj, hbj⟩
  have hok : ∀ b, okOf Γ H F w b → okOf Γ (H0.set i k) (updF F i f) w' b := by
    intro b ho
    refine ⟨Nat.lt_of_lt_of_le ho.1 hsize, ho.2.1, fun hown => ?_⟩
    rcases howned b hown with h1 | h1
    · exact ho.2.2 h1
    · have := ho.1
      omega
  have hsok : ∀ b, okOf Γ H F w b → w'.heap[b]? = w.heap[b]? := fun b ho => hsame b ho.1 fun hbi => ho.2.2 ⟨i, hi, hbi⟩
  have hlt : ∀ i, i < H.length → ∀ b ∈ F i, b < w.heap.size := fun i hi b hbi => h.lt b ⟨i, hi, hbi⟩
  refine ⟨?_, hok⟩
  constructor
  · simp [hlen, hlen0, h.len]
  · intro j k' hk'
    by_cases hji : j = i
    · subst hji
      rw [List.getElem?_set_self (by omega)] at hk'
      injection hk' with hk'
      subst hk'
      refine ⟨v, hv, ?_⟩
      have : updF F j f j = f := by unfold updF; simp
      rw [this]
      exact hk.mono (fun b _ => rfl) hok fun b _ => rfl
    · rw [List.getElem?_set_ne (fun e => hji e.symm)] at hk'
      have hjlt : j < H.length := by rw [← hlen0]; exact (List.getElem?_eq_some_iff.1 hk').1
      obtain ⟨u, hu, hd⟩ := h.blocks j H[j] (List.getElem?_eq_getElem hjlt)
      obtain ⟨kk', hkk, hu', himp⟩ := hother j _ u hji (List.getElem?_eq_getElem hjlt) hu
      rw [hkk] at hk'
      injection hk' with hk'
      subst hk'
      refine ⟨u, hu', ?_⟩
      have : updF F i f j = F j := by unfold updF; rw [if_neg hji]
      rw [this]
      refine himp _ _ _ (hd.mono hsok hok fun b hbf => hsame b (hlt j hjlt b hbf) fun hbi => hji (h.disj j i b hjlt hi hbf hbi))
  · intro a c b ha hc hba hbc
    simp only [List.length_set, hlen0] at ha hc
    unfold updF at hba hbc
    split at hba <;> split at hbc
    · omega
    · rename_i h1 h2
      rcases hf b hba with h3 | h3
      · exact absurd (h.disj c i b hc hi hbc h3) h2
      · have := hlt c hc b hbc; omega
    · rename_i h1 h2
      rcases hf b hbc with h3 | h3
      · exact absurd (h.disj a i b ha hi hba h3) h1
      · have := hlt a ha b hba; omega
    · exact h.disj a c b ha hc hba hbc
  · intro a ha
    simp only [List.length_set, hlen0] at ha
    unfold updF
    split
    · exact hn
    · exact h.nodup a ha
  · intro b hown
    rcases howned b hown with h1 | h1
    · exact Nat.lt_of_lt_of_le (h.lt b h1) hsize
    · exact h1.2.1
  · intro b hown
    rcases howned b hown with h1 | h1
    · exact h.src b h1
    · have := h.size
      exact .inr (by omega)
  · exact h.inlt
  · intro b hb' hfin
    have hnot : b ∉ F i := fun hbi => by
      rcases h.src b ⟨i, hi, hbi⟩ with h1 | h1
      · exact hfin h1
      · omega
    rw [hsame b (Nat.lt_of_lt_of_le hb' h.size) hnot]
    exact h.frame b hb' hfin
  · exact Nat.le_trans h.size hsize
  · exact hos.trans h.os
  · exact htape.trans h.tape
  · exact hout.trans h.output

/-! ### A block is moved or given up: what referred to it no longer does -/
theorem nbeq {i k : Nat} (h : Nat.beq i k = false) : i ≠ k := by
  intro e; subst e; simp at h

theorem kill_C {ρ ρ' : List Value} {w : World} {ok : Nat → Prop} {k : Nat} {a : SV} {v : Value} (hρ : ∀ (i : Nat) v, i ≠ k → ρ[i]? = some v → ρ'[i]? = some v) (hk : ∀ p, ρ[k]? ≠ some (.pointer p)) (h : CDen ρ w ok a v) : CDen ρ' w ok (killC k a) v := by
  have hone := h.one
  cases h with
  | c h => exact .c h
  | @lp i off b h => exact .lp (hρ _ _ (fun e => hk _ (by rw [← e]; exact h)) h)
  | @le i sz idx off b n c h =>
    simp only [killC]
    cases hb : Nat.beq i k with
    | true => exact .c (.any hone .nil)
    | false => exact .le (hρ _ _ (nbeq hb) h)
  | @lw i a n c h =>
    simp only [killC]
    cases hb : Nat.beq i k with
    | true => exact .c (.any hone .nil)
    | false => exact .lw (hρ _ _ (nbeq hb) h)
  | @ls i sz off len b n c c' h h1 h2 h3 =>
    simp only [killC]
    cases hb : Nat.beq i k with
    | true => exact .c (.any rfl .nil)
    | false => exact .ls (hρ _ _ (nbeq hb) h) h1 h2 h3

theorem map_get {g : SV → SV} {cs : List SV} {j : Nat} {a : SV} (h : (cs.map g)[j]? = some a) : ∃ a0, cs[j]? = some a0 ∧ a = g a0 := by
  rw [List.getElem?_map] at h
  cases hc : cs[j]? with
  | none => simp [hc] at h
  | some a0 => simp [hc] at h; exact ⟨a0, rfl, h.symm⟩

/-- from cells to slots -/
theorem map_V {ρ ρ' : List Value} {w : World} {ok ok' : Nat → Prop} {g : SV → SV} (hg : ∀ a v, CDen ρ w ok a v → CDen ρ' w ok' (g a) v) (hok : ∀ b, ok b → ok' b) {a : SV} {v : Value} (h : VDen ρ w ok a v) : VDen ρ' w ok' (mapV g a) v := by
  cases h with
  | a hl h => exact .a hl (h.mono (fun _ _ => rfl) hok (by simp))
  | m hl h => exact .m (by simp [hl]) fun j a v ha hv => by obtain ⟨a0, h0, rfl⟩ := map_get ha; exact hg _ _ (h j a0 v h0 hv)
  | clo hl h => exact .clo (by simp [hl]) fun j a v ha hv => by obtain ⟨a0, h0, rfl⟩ := map_get ha; exact hg _ _ (h j a0 v h0 hv)
  | c h =>
    have := hg _ _ h
    cases h <;> exact .c this
theorem map_T {ρ ρ' : List Value} {w : World} {ok ok' : Nat → Prop} {g : SV → SV} (hg : ∀ a v, CDen ρ w ok a v → CDen ρ' w ok' (g a) v) (hok : ∀ b, ok b → ok' b) {a : SV} {v : Value} (h : TDen ρ w ok a v) : TDen ρ' w ok' (mapS g a) v := by
  cases h with
  | any => exact .any
  | v h =>
    have := map_V hg hok h
    cases h <;> first | exact .v this | skip
    rename_i h
    cases h <;> exact .v this
  | tup hl h => exact .tup (by simp [hl]) fun j a v ha hv => by obtain ⟨a0, h0, rfl⟩ := map_get ha; exact map_V hg hok (h j a0 v h0 hv)
theorem map_B {ρ ρ' : List Value} {w : World} {ok ok' : Nat → Prop} {g : SV → SV} (hg : ∀ a v, CDen ρ w ok a v → CDen ρ' w ok' (g a) v) (hok : ∀ b, ok b → ok' b) {k : Blk} {v : Value} {f : List Nat} (h : BDen ρ w ok k v f) : BDen ρ' w ok' (mapB g k) v f := by
  cases h with
  | dead => exact .dead
  | cc hb hl h => exact .cc hb hl (h.mono (fun _ _ => rfl) hok (by simp))
  | cells hb hl h => exact .cells hb (by simp [hl]) fun j a v ha hv => by obtain ⟨a0, h0, rfl⟩ := map_get ha; exact hg _ _ (h j a0 v h0 hv)
  | row ho hr hin => exact .row ho hr (hin.mono (fun _ _ => rfl) hok (by simp))
  | orow ho hr hin => exact .orow ho hr (hin.mono (fun _ _ => rfl) hok fun _ _ => rfl)


theorem frz_C {ρ : List Value} {w : World} {ok ok' : Nat → Prop} {k : Nat} {r : CV} (hok : ∀ b, ok b → ok' b) (hr : ∀ v, ρ[k]? = some v → Den w ok' [r] [v] []) {a : SV} {v : Value} (h : CDen ρ w ok a v) : CDen ρ w ok' (frzC k r a) v := by
  have hone := h.one
  cases h with
  | c h => exact .c (h.mono (fun _ _ => rfl) hok (by simp))
  | @lp i off b h =>
    simp only [frzC]
    cases hb : Nat.beq i k with
    | true => exact .c (.any hone .nil)
    | false => exact .lp h
  | @le i sz idx off b n c h =>
    simp only [frzC]
    cases hb : Nat.beq i k with
    | true => exact .c (.any hone .nil)
    | false => exact .le h
  | @lw i a n c h =>
    simp only [frzC]
    cases hb : Nat.beq i k with
    | true =>
      have := Nat.eq_of_beq_eq_true hb
      subst this
      exact .c (hr _ h)
    | false => exact .lw h
  | @ls i sz off len b n c c' h h1 h2 h3 =>
    simp only [frzC]
    cases hb : Nat.beq i k with
    | true => exact .c (.any hone .nil)
    | false => exact .ls h h1 h2 h3

/-- A row is given up: from now on it is only read. -/
theorem Mem.freeze {Γ : Cx} {H : List Blk} {ρ : List Value} {F : Nat → List Nat} {w : World} (h : Mem Γ H ρ F w) {k ty sz : Nat} {rows : List (List CV)} (hk : H[k]? = some (.row ty sz rows)) :
    Mem Γ ((H.map (mapB (frzC k (.ro sz rows)))).set k .dead) ρ (updF F k []) w ∧
    (∀ a v, TDen ρ w (okOf Γ H F w) a v → TDen ρ w (okOf Γ ((H.map (mapB (frzC k (.ro sz rows)))).set k .dead) (updF F k []) w) (mapS (frzC k (.ro sz rows)) a) v) := by
  have hkl := (List.getElem?_eq_some_iff.1 hk).1
  obtain ⟨v, xs, hv, ho, hr, hin, hF⟩ := B_row h.blocks hk
  have howned : ∀ b, Owned ((H.map (mapB (frzC k (.ro sz rows)))).set k .dead) (updF F k []) b → Owned H F b ∧ b ∉ F k := by
    rintro b ⟨j, hj, hbj⟩
    unfold updF at hbj
    split at hbj
    · cases hbj
    · rename_i hne
      simp at hj
      exact ⟨⟨j, hj, hbj⟩, fun hbk => hne (h.disj j k b hj hkl hbj hbk)⟩
  have hok : ∀ b, okOf Γ H F w b → okOf Γ ((H.map (mapB (frzC k (.ro sz rows)))).set k .dead) (updF F k []) w b := fun b hb => ⟨hb.1, hb.2.1, fun hown => hb.2.2 (howned b hown).1⟩
  have hokF : ∀ b, b ∈ F k → okOf Γ ((H.map (mapB (frzC k (.ro sz rows)))).set k .dead) (updF F k []) w b := by
    intro b hb
    have hown : Owned H F b := ⟨k, hkl, hb⟩
    refine ⟨h.lt b hown, ?_, fun ho' => (howned b ho').2 hb⟩
    rcases h.src b hown with h1 | h1
    · exact .inr (.inl h1)
    · exact .inr (.inr h1)
  have hden : ∀ u, ρ[k]? = some u → Den w (okOf Γ ((H.map (mapB (frzC k (.ro sz rows)))).set k .dead) (updF F k []) w) [.ro sz rows] [u] [] := by
    intro u hu
    rw [hv] at hu
    injection hu with hu
    subst hu
    have hin' := hin.mono (w' := w) (fun _ _ => rfl) hok (by simp)
    rcases row_form ho with ⟨rfl, hz, hxs⟩ | ⟨b, c, rfl, hc, hm⟩
    · subst hxs
      exact .ro (by omega) (Nat.le_refl _) (by simp [maxLen]) hr hin' (fun j x hx => by simp at hx) .nil
    · refine .ro rfl hc hm hr hin' (fun j x hx => ⟨_, rfl, rfl, hokF b (by rw [hF]; simp [Value.ownBlock]), ?_⟩) .nil
      exact (row_at ho rfl).1 j x hx
  have hg : ∀ a v, CDen ρ w (okOf Γ H F w) a v → CDen ρ w (okOf Γ ((H.map (mapB (frzC k (.ro sz rows)))).set k .dead) (updF F k []) w) (frzC k (.ro sz rows) a) v := fun a v => frz_C hok hden
  refine ⟨?_, fun a v hT => map_T hg hok hT⟩
  constructor
  · simp [h.len]
  · intro i kk hi
    by_cases hik : i = k
    · subst hik
      rw [List.getElem?_set_self (by simpa using hkl)] at hi
      injection hi with hi
      subst hi
      have : updF F i [] i = [] := by unfold updF; simp
      rw [this]
      exact ⟨v, hv, .dead⟩
    · rw [List.getElem?_set_ne (fun e => hik e.symm), List.getElem?_map] at hi
      cases hc : H[i]? with
      | none => simp [hc] at hi
      | some k0 =>
        simp [hc] at hi
        subst hi
        obtain ⟨u, hu, hd⟩ := h.blocks i k0 hc
        have : updF F k [] i = F i := by unfold updF; rw [if_neg hik]
        rw [this]
        exact ⟨u, hu, map_B hg hok hd⟩
  · intro i j b hi hj hbi hbj
    simp at hi hj
    unfold updF at hbi hbj
    split at hbi
    · cases hbi
    · split at hbj
      · cases hbj
      · exact h.disj i j b hi hj hbi hbj
  · intro i hi
    simp at hi
    unfold updF
    split
    · simp
    · exact h.nodup i hi
  · exact fun b hb => h.lt b (howned b hb).1
  · exact fun b hb => h.src b (howned b hb).1
  · exact h.inlt
  · exact h.frame
  · exact h.size
  · exact h.os
  · exact h.tape
  · exact h.output

end Go.KA
