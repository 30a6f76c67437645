/- Part of a proof engine for functions of the given program: what an operation, a loop and a call compute, symbolically. No conditions. -/
import Derived.Test.YtceijpfmaofhpaaEngN
namespace Go.KA
open Go Go.RowKit

def isGuard (ops : List Oper) (j : Nat) : Bool := ops.any fun o => match o.guard with | some (g, _) => Nat.beq g j | none => false
def dstOk (nt : Nat) : Option Nat → Bool
  | some d => Nat.blt d nt
  | none => true
def same (a b : Bool) : Bool := match a, b with | true, true => true | false, false => true | _, _ => false
theorem same_eq {a b : Bool} : same a b = true ↔ a = b := by cases a <;> cases b <;> simp [same]

/-! ### Regions whose order is open -/
/-- what an operation looks at -/
def readsO (ops : List Oper) (o : Oper) : List Nat :=
  (o.op.operands.toList.filterMap fun | .tmp t => some t | _ => none) ++
  (match o.guard with
   | some (g, _) => match ops[g]? with
     | some q => match q.dst with | some t => [t] | none => []
     | none => []
   | none => [])
def edgesO (o : Oper) : List Nat := (o.after.toList.filter (Region.binds .any)).map (·.on)
def memN (l : List Nat) (x : Nat) : Bool := l.any (Nat.beq x)
def pairOk (ops : List Oper) (i : Nat) (oi : Oper) (j : Nat) (oj : Oper) : Bool :=
  match Nat.beq i j with
  | true => true
  | false => match oj.dst with
    | none => true
    | some d => (match oi.dst with | some e => !Nat.beq d e | none => true) && (!memN (readsO ops oi) d || (match Nat.blt j i with | true => memN (edgesO oi) j | false => memN (edgesO oj) i))
def idxFrom {α : Type} : List α → Nat → List (Nat × α)
  | [], _ => []
  | x :: xs, n => (n, x) :: idxFrom xs (n + 1)
def chkDraw (ops : List Oper) : Bool :=
  (idxFrom ops 0).all fun p => (edgesO p.2).all (fun e => Nat.blt e p.1) && (idxFrom ops 0).all fun q => pairOk ops p.1 p.2 q.1 q.2

theorem idxFrom_mem {α : Type} : ∀ (l : List α) (n i : Nat) (x : α), l[i]? = some x → (n + i, x) ∈ idxFrom l n
  | [], n, i, x, h => by simp at h
  | y :: ys, n, i, x, h => by
    cases i with
    | zero => simp at h; subst h; simp [idxFrom]
    | succ i =>
      have := idxFrom_mem ys (n + 1) i x (by simpa using h)
      rw [show n + 1 + i = n + (i + 1) by omega] at this
      simp [idxFrom, this]
theorem memN_iff {l : List Nat} {x : Nat} : memN l x = true ↔ x ∈ l := by
  simp only [memN, List.any_eq_true]
  constructor
  · rintro ⟨y, hy, h⟩; rw [Nat.eq_of_beq_eq_true h]; exact hy
  · intro h; exact ⟨x, h, by simp⟩

structure Draw (ops : List Oper) : Prop where
  back : ∀ (i : Nat) o, ops[i]? = some o → ∀ e ∈ edgesO o, e < i
  one : ∀ (i j : Nat) oi oj d, ops[i]? = some oi → ops[j]? = some oj → i ≠ j → oj.dst = some d → oi.dst ≠ some d
  rd : ∀ (i j : Nat) oi oj d, ops[i]? = some oi → ops[j]? = some oj → i ≠ j → oj.dst = some d → d ∈ readsO ops oi → (j < i ∧ j ∈ edgesO oi) ∨ (i < j ∧ i ∈ edgesO oj)
theorem chkDraw_sound {ops : List Oper} (h : chkDraw ops = true) : Draw ops := by
  have h0 := List.all_eq_true.1 h
  have get : ∀ (i j : Nat) oi oj d, ops[i]? = some oi → ops[j]? = some oj → i ≠ j → oj.dst = some d →
      ((match oi.dst with | some e => !Nat.beq d e | none => true) = true ∧ (!memN (readsO ops oi) d || (match Nat.blt j i with | true => memN (edgesO oi) j | false => memN (edgesO oj) i)) = true) := by
    intro i j oi oj d hi hj hne hd
    have h1 := h0 _ (idxFrom_mem ops 0 i oi hi)
    simp only [Bool.and_eq_true] at h1
    have h2 := List.all_eq_true.1 h1.2 _ (idxFrom_mem ops 0 j oj hj)
    simp only [Nat.zero_add] at h2
    unfold pairOk at h2
    have hb : Nat.beq i j = false := by
      cases hb : Nat.beq i j with
      | true => exact absurd (Nat.eq_of_beq_eq_true hb) hne
      | false => rfl
    rw [hb, hd] at h2
    simpa only [Bool.and_eq_true] using h2
  refine ⟨fun i o hi e he => ?_, fun i j oi oj d hi hj hne hd heq => ?_, fun i j oi oj d hi hj hne hd hr => ?_⟩
  · have h1 := h0 _ (idxFrom_mem ops 0 i o hi)
    simp only [Bool.and_eq_true, Nat.zero_add] at h1
    have := List.all_eq_true.1 h1.1 e he
    rwa [Nat.blt_eq] at this
  · have := (get i j oi oj d hi hj hne hd).1
    rw [heq] at this
    simp at this
  · have := (get i j oi oj d hi hj hne hd).2
    rw [memN_iff.2 hr] at this
    simp only [Bool.not_true, Bool.false_or] at this
    split at this
    · rename_i hb
      rw [Nat.blt_eq] at hb
      exact .inl ⟨hb, memN_iff.1 this⟩
    · rename_i hb
      have : ¬ j < i := by intro hh; rw [← Nat.blt_eq] at hh; rw [hh] at hb; cases hb
      exact .inr ⟨by omega, memN_iff.1 ‹_›⟩

/-- the temporaries, once the operations of S have been done -/
def tF (ops : List Oper) (R : Nat → SV) (S : Nat → Bool) (T : TM) : TM := fun t =>
  match (List.range ops.length).find? fun i => S i && (ops[i]?).any (fun o => decide (o.dst = some t)) with
  | some i => R i
  | none => T t
section
variable {ops : List Oper} {R : Nat → SV} {S S' : Nat → Bool} {T : TM}
theorem tF_hit (hd : Draw ops) {j : Nat} {o : Oper} {t : Nat} (hj : ops[j]? = some o) (ht : o.dst = some t) (hs : S j = true) : tF ops R S T t = R j := by
  unfold tF
  have hlt : j < ops.length := (List.getElem?_eq_some_iff.1 hj).1
  cases hf : (List.range ops.length).find? fun i => S i && (ops[i]?).any (fun o => decide (o.dst = some t)) with
  | none =>
    have := List.find?_eq_none.1 hf j (by simp [hlt])
    simp [hs, hj, ht] at this
  | some k =>
    have hk := List.find?_some hf
    simp only [Bool.and_eq_true] at hk
    cases hko : ops[k]? with
    | none => rw [hko] at hk; simp at hk
    | some ok =>
      rw [hko] at hk
      have hkd : ok.dst = some t := by simpa using hk.2
      by_cases e : j = k
      · rw [e]
      · exact absurd hkd (hd.one k j ok o t hko hj (fun h => e h.symm) ht)
theorem tF_miss {t : Nat} (h : ∀ (j : Nat) o, ops[j]? = some o → o.dst = some t → S j = false) : tF ops R S T t = T t := by
  unfold tF
  cases hf : (List.range ops.length).find? fun i => S i && (ops[i]?).any (fun o => decide (o.dst = some t)) with
  | none => rfl
  | some k =>
    have hk := List.find?_some hf
    simp only [Bool.and_eq_true] at hk
    cases hko : ops[k]? with
    | none => rw [hko] at hk; simp at hk
    | some ok =>
      rw [hko] at hk
      have hkd : ok.dst = some t := by simpa using hk.2
      rw [h k ok hko hkd] at hk
      simp at hk
theorem tF_congr (hd : Draw ops) {t : Nat} (h : ∀ (j : Nat) o, ops[j]? = some o → o.dst = some t → S' j = S j) : tF ops R S' T t = tF ops R S T t := by
  by_cases hx : ∃ j o, ops[j]? = some o ∧ o.dst = some t ∧ S j = true
  · obtain ⟨j, o, hj, ht, hs⟩ := hx
    rw [tF_hit hd hj ht hs, tF_hit hd hj ht ((h j o hj ht).trans hs)]
  · have hs : ∀ (j : Nat) o, ops[j]? = some o → o.dst = some t → S j = false := by
      intro j o hj ht
      cases hs : S j with
      | false => rfl
      | true => exact (hx ⟨j, o, hj, ht, hs⟩).elim
    rw [tF_miss hs, tF_miss fun j o hj ht => (h j o hj ht).trans (hs j o hj ht)]
theorem tF_put (hd : Draw ops) {i : Nat} {o : Oper} (hi : ops[i]? = some o) (hS' : S' i = true) (h : ∀ j, j < ops.length → j ≠ i → S' j = S j) : tF ops R S' T = putT (tF ops R S T) o.dst (R i) := by
  funext t
  cases hdst : o.dst with
  | none =>
    simp only [putT]
    refine tF_congr hd fun j q hj hq => h j (List.getElem?_eq_some_iff.1 hj).1 ?_
    intro e
    subst e
    rw [hi] at hj
    injection hj with hj
    subst hj
    rw [hdst] at hq
    cases hq
  | some d =>
    simp only [putT, updT]
    cases hb : Nat.beq t d with
    | true =>
      have := Nat.eq_of_beq_eq_true hb
      subst this
      exact tF_hit hd hi hdst hS'
    | false =>
      have hne := nbeq hb
      refine tF_congr hd fun j q hj hq => h j (List.getElem?_eq_some_iff.1 hj).1 ?_
      intro e
      subst e
      rw [hi] at hj
      injection hj with hj
      subst hj
      rw [hdst] at hq
      injection hq with hq
      exact hne hq.symm
end

/-- S is closed under what must come before -/
def Closed (ops : List Oper) (S : Nat → Bool) : Prop := ∀ (i : Nat) o, ops[i]? = some o → S i = true → ∀ e ∈ edgesO o, S e = true
theorem tF_reads {ops : List Oper} {R : Nat → SV} {S : Nat → Bool} {T : TM} (hd : Draw ops) (hc : Closed ops S) {i : Nat} {o : Oper} (hi : ops[i]? = some o) (hs : S i = false) (hp : ∀ e ∈ edgesO o, S e = true) {t : Nat} (ht : t ∈ readsO ops o) :
    tF ops R S T t = tF ops R (fun j => Nat.blt j i) T t := by
  refine tF_congr hd fun j q hj hq => ?_
  by_cases e : j = i
  · subst e
    rw [hs]
    cases hb : Nat.blt j j with
    | false => rfl
    | true => rw [Nat.blt_eq] at hb; omega
  · rcases hd.rd i j o q t hi hj (fun h => e h.symm) hq ht with ⟨h1, h2⟩ | ⟨h1, h2⟩
    · rw [hp j h2, eq_comm, Nat.blt_eq]; exact h1
    · cases hsj : S j with
      | true => rw [hc j q hj hsj i h2] at hs; cases hs
      | false =>
        cases hb : Nat.blt j i with
        | false => rfl
        | true => rw [Nat.blt_eq] at hb; omega

/-! ### The rule -/
def vcD (P : Program) (tbl : TT) (nt : Nat) (all : List Oper) (H : List Blk) : List Oper → Nat → TM → (TM → Prop) → Prop
  | [], _, T, K => K T
  | o :: rest, n, T, K =>
    cond (dstOk nt o.dst)
      (match o.guard with
      | none => opQ P tbl o.op T H fun sv =>
        match isGuard all n with
        | true => match sv with
          | .c (.val (.bool b)) => Branch b (vcD P tbl nt all H rest (n + 1) (putT T o.dst (.c (.cb true))) K) (vcD P tbl nt all H rest (n + 1) (putT T o.dst (.c (.cb false))) K)
          | sv => vcD P tbl nt all H rest (n + 1) (putT T o.dst sv) K
        | false => vcD P tbl nt all H rest (n + 1) (putT T o.dst sv) K
      | some (j, want) =>
        match (all[j]?).bind (·.dst) with
        | some t => match T t with
          | .c (.cb b) =>
            match same b want with
            | true => opQ P tbl o.op T H fun sv =>
              match isGuard all n with
              | true => match sv with
                | .c (.val (.bool b)) => Branch b (vcD P tbl nt all H rest (n + 1) (putT T o.dst (.c (.cb true))) K) (vcD P tbl nt all H rest (n + 1) (putT T o.dst (.c (.cb false))) K)
                | sv => vcD P tbl nt all H rest (n + 1) (putT T o.dst sv) K
              | false => vcD P tbl nt all H rest (n + 1) (putT T o.dst sv) K
            | false => vcD P tbl nt all H rest (n + 1) (putT T o.dst .any) K
          | _ => False
        | none => False) False

/-- one operation does what the text order says, wherever it comes -/
def RunOk (P : Program) (tbl : TT) (H : List Blk) (o : Oper) (T : TM) (sv : SV) : Prop :=
  ∃ s0, (∀ ρ w ok v, TDen ρ w ok s0 v → TDen ρ w ok sv v) ∧ ∀ T', (∀ x ∈ o.op.operands, ev T' x = ev T x) → opQ P tbl o.op T' H fun s => s = s0
def OneOk (P : Program) (tbl : TT) (nt : Nat) (all : List Oper) (H : List Blk) (o : Oper) (T : TM) (sv : SV) : Prop :=
  dstOk nt o.dst = true ∧ match o.guard with
    | none => RunOk P tbl H o T sv
    | some (j, want) => ∃ t b, (all[j]?).bind (·.dst) = some t ∧ T t = .c (.cb b) ∧ ((b = want ∧ RunOk P tbl H o T sv) ∨ (b ≠ want ∧ sv = .any))
def Good (P : Program) (tbl : TT) (nt : Nat) (all : List Oper) (H : List Blk) (K : TM → Prop) : List Oper → TM → List SV → Prop
  | [], T, l => l = [] ∧ K T
  | o :: rest, T, l => ∃ sv l', l = sv :: l' ∧ OneOk P tbl nt all H o T sv ∧ Good P tbl nt all H K rest (putT T o.dst sv) l'

section
variable {P : Program} {tbl : TT} {nt : Nat} {all : List Oper} {H : List Blk}
theorem vcD_good : ∀ (rest : List Oper) (n : Nat) (T : TM) {K : TM → Prop}, vcD P tbl nt all H rest n T K → ∃ l, Good P tbl nt all H K rest T l
  | [], n, T, K, h => ⟨[], rfl, h⟩
  | o :: rest, n, T, K, h => by
    simp only [vcD] at h
    cases hd : dstOk nt o.dst with
    | false => rw [hd] at h; exact h.elim
    | true =>
      rw [hd] at h
      simp only [cond] at h
      have run : (opQ P tbl o.op T H fun sv =>
          match isGuard all n with
          | true => match sv with
            | .c (.val (.bool b)) => Branch b (vcD P tbl nt all H rest (n + 1) (putT T o.dst (.c (.cb true))) K) (vcD P tbl nt all H rest (n + 1) (putT T o.dst (.c (.cb false))) K)
            | sv => vcD P tbl nt all H rest (n + 1) (putT T o.dst sv) K
          | false => vcD P tbl nt all H rest (n + 1) (putT T o.dst sv) K) → ∃ sv l', RunOk P tbl H o T sv ∧ Good P tbl nt all H K rest (putT T o.dst sv) l' := by
        intro h
        obtain ⟨s0, hk, hl⟩ := opQ_lin h
        have hl' : ∀ T', (∀ x ∈ o.op.operands, ev T' x = ev T x) → opQ P tbl o.op T' H fun s => s = s0 := fun T' hT => hl T' H hT fun _ _ h _ => h
        split at hk
        · split at hk
          · rename_i b
            cases b with
            | true =>
              obtain ⟨l', g⟩ := vcD_good rest (n + 1) _ (hk.t rfl)
              exact ⟨_, l', ⟨_, fun ρ w ok v hv => by rw [den_val (CDen.of_T hv)]; exact T_of_den (.cb .nil), hl'⟩, g⟩
            | false =>
              obtain ⟨l', g⟩ := vcD_good rest (n + 1) _ (hk.f rfl)
              exact ⟨_, l', ⟨_, fun ρ w ok v hv => by rw [den_val (CDen.of_T hv)]; exact T_of_den (.cb .nil), hl'⟩, g⟩
          · obtain ⟨l', g⟩ := vcD_good rest (n + 1) _ hk
            exact ⟨_, l', ⟨_, fun ρ w ok v hv => hv, hl'⟩, g⟩
        · obtain ⟨l', g⟩ := vcD_good rest (n + 1) _ hk
          exact ⟨_, l', ⟨_, fun ρ w ok v hv => hv, hl'⟩, g⟩
      split at h
      · rename_i hg
        obtain ⟨sv, l', h1, h2⟩ := run h
        exact ⟨_, sv, l', rfl, ⟨hd, by rw [hg]; exact h1⟩, h2⟩
      · rename_i j want hg
        split at h
        · rename_i t ht
          split at h
          · rename_i b hb
            split at h
            · rename_i hs
              obtain ⟨sv, l', h1, h2⟩ := run h
              exact ⟨_, sv, l', rfl, ⟨hd, by rw [hg]; exact ⟨t, b, ht, hb, .inl ⟨same_eq.1 hs, h1⟩⟩⟩, h2⟩
            · rename_i hs
              obtain ⟨l', h2⟩ := vcD_good rest (n + 1) _ h
              exact ⟨_, .any, l', rfl, ⟨hd, by rw [hg]; exact ⟨t, b, ht, hb, .inr ⟨fun e => (by rw [same_eq.2 e] at hs; cases hs), rfl⟩⟩⟩, h2⟩
          · exact h.elim
        · exact h.elim

theorem good_get (hd : Draw all) {K : TM → Prop} {T0 : TM} {R : Nat → SV} : ∀ (rest : List Oper) (pre : List Oper) (T : TM) (l : List SV), pre ++ rest = all → T = tF all R (fun j => Nat.blt j pre.length) T0 →
    (∀ (j : Nat) s, l[j]? = some s → R (pre.length + j) = s) → Good P tbl nt all H K rest T l →
    (∀ (i : Nat) o, pre.length ≤ i → all[i]? = some o → OneOk P tbl nt all H o (tF all R (fun j => Nat.blt j i) T0) (R i)) ∧ K (tF all R (fun j => Nat.blt j all.length) T0)
  | [], pre, T, l, he, hT, hl, hg => by
    simp at he
    subst he
    refine ⟨fun i o hi ho => ?_, ?_⟩
    · have := (List.getElem?_eq_some_iff.1 ho).1; omega
    · rw [← hT]; exact hg.2
  | o :: rest, pre, T, l, he, hT, hl, hg => by
    obtain ⟨sv, l', rfl, h1, h2⟩ := hg
    have hR : R pre.length = sv := by simpa using hl 0 sv rfl
    have hget : all[pre.length]? = some o := by rw [← he]; simp
    have hT' : putT T o.dst sv = tF all R (fun j => Nat.blt j (pre ++ [o]).length) T0 := by
      rw [hT, ← hR, List.length_append]
      refine (tF_put hd hget ?_ ?_).symm
      · rw [Nat.blt_eq]; simp
      · intro j _ hj
        simp only [List.length_cons, List.length_nil]
        rw [Bool.eq_iff_iff, Nat.blt_eq, Nat.blt_eq]
        omega
    obtain ⟨g1, g2⟩ := good_get hd rest (pre ++ [o]) _ l' (by simpa using he) hT' (fun j s hs => by
      have := hl (j + 1) s (by simpa using hs)
      rw [List.length_append]
      rw [← this]
      congr 1
      simp
      omega) h2
    refine ⟨fun i q hi hq => ?_, g2⟩
    by_cases e : i = pre.length
    · subst e
      rw [hget] at hq
      injection hq with hq
      subst hq
      rw [hR, ← hT]
      exact h1
    · exact g1 i q (by simp; omega) hq
end

section
variable {P : Program} {tbl : TT} {Γ : Cx} {nt : Nat} {H : List Blk} {ρ : List Value} {F : Nat → List Nat}

theorem St.put {T : TM} {a : Act} {w : World} (hS : St Γ nt T H ρ F a w) {d : Option Nat} {sv : SV} {v : Value} (hd : dstOk nt d = true) (hT : TDen ρ w (okOf Γ H F w) sv v) : St Γ nt (putT T d sv) H ρ F (a.put d v) w := by
  cases d with
  | none => exact hS
  | some d =>
    have hlt : d < nt := by simpa [dstOk, Nat.blt_eq] using hd
    refine ⟨hS.mem, hS.defers, by simpa [Act.put] using hS.nt, fun i => ?_⟩
    simp only [putT, updT, Act.put]
    cases hb : Nat.beq i d with
    | true =>
      have := Nat.eq_of_beq_eq_true hb
      subst this
      have : (a.tmps.setIfInBounds i v).getD i undef = v := by
        simp [Array.getD, hS.nt, hlt]
      simp only [cond]
      rw [this]
      exact hT
    | false =>
      have hne := nbeq hb
      have : (a.tmps.setIfInBounds d v).getD i undef = a.tmps.getD i undef := by
        rw [Array.getD_eq_getD_getElem?, Array.getD_eq_getD_getElem?, Array.getElem?_setIfInBounds_ne (by omega)]
      simp only [cond]
      rw [this]
      exact hS.tmps i
theorem tmp_bool {T : TM} {a : Act} {w : World} (hS : St Γ nt T H ρ F a w) {t : Nat} {b : Bool} (h : T t = .c (.cb b)) : a.tmps[t]? = some (.bool b) := by
  have := hS.tmps t
  rw [h] at this
  have hv := den_cb (CDen.of_T this)
  rw [Array.getD_eq_getD_getElem?] at hv
  cases hc : a.tmps[t]? with
  | none => rw [hc] at hv; simp [undef] at hv
  | some v => rw [hc] at hv; simp at hv; rw [hv]

theorem any_sound (htb : TblOk P tbl) {ops : Array Oper} {Q : Exit → Act → World → Prop} {R : Nat → SV} {T0 : TM} (hd : Draw ops.toList)
    (hone : ∀ (i : Nat) o, ops.toList[i]? = some o → OneOk P tbl nt ops.toList H o (tF ops.toList R (fun j => Nat.blt j i) T0) (R i))
    (hQ : ∀ a w, St Γ nt (tF ops.toList R (fun j => Nat.blt j ops.toList.length) T0) H ρ F a w → Q .normal a w) :
    ∀ (fuel : Nat) (listed : Array Bool) (a : Act) (w : World), listed.size = ops.size → Closed ops.toList (fun i => listed.getD i false) → (List.range ops.size).countP (fun i => !listed.getD i true) = fuel →
      St Γ nt (tF ops.toList R (fun i => listed.getD i false) T0) H ρ F a w → wpAny P .any ops Q fuel listed a w := by
  have edge : ∀ (o : Oper) (listed : Array Bool), (o.after.all fun e => !Region.binds .any e || listed.getD e.on false) = true ↔ ∀ e ∈ edgesO o, listed.getD e false = true := by
    intro o listed
    rw [Array.all_eq_true']
    simp only [edgesO, List.mem_map, List.mem_filter]
    constructor
    · rintro h e ⟨x, ⟨hx, hb⟩, rfl⟩
      have := h x (by simpa using hx)
      rw [hb] at this
      simpa using this
    · intro h x hx
      cases hb : Region.binds .any x with
      | false => rfl
      | true => simpa using h x.on ⟨x, ⟨by simpa using hx, hb⟩, rfl⟩
  have inready : ∀ (listed : Array Bool) (i : Nat), i ∈ Region.ready .any ops listed ↔ ∃ o, ops[i]? = some o ∧ listed.getD i true = false ∧ ∀ e ∈ edgesO o, listed.getD e false = true := by
    intro listed i
    simp only [Region.ready, List.mem_filter, List.mem_range, Bool.and_eq_true, Bool.not_eq_true']
    constructor
    · rintro ⟨h1, h2, h3⟩
      have ho : ops[i]? = some ops[i] := Array.getElem?_eq_getElem h1
      rw [ho] at h3
      simp only [Option.map_some, Option.getD_some] at h3
      exact ⟨_, ho, h2, (edge _ _).1 h3⟩
    · rintro ⟨o, ho, h2, h3⟩
      refine ⟨(Array.getElem?_eq_some_iff.1 ho).1, h2, ?_⟩
      rw [ho]
      simp only [Option.map_some, Option.getD_some]
      exact (edge _ _).2 h3
  have getDD : ∀ (listed : Array Bool) (i : Nat), i < listed.size → listed.getD i true = listed.getD i false := by
    intro listed i hi
    simp [Array.getD, hi]
  intro fuel
  induction fuel with
  | zero =>
    intro listed a w hsz hc hcnt hS
    have hall : ∀ i, i < ops.size → listed.getD i true = true := by
      intro i hi
      have := List.countP_eq_zero.1 hcnt i (by simp [hi])
      simpa using this
    refine ⟨?_, hQ a w ?_⟩
    · cases hr : Region.ready .any ops listed with
      | nil => rfl
      | cons x xs =>
        obtain ⟨o, ho, h2, _⟩ := (inready listed x).1 (by rw [hr]; simp)
        rw [hall x (Array.getElem?_eq_some_iff.1 ho).1] at h2
        cases h2
    · have : tF ops.toList R (fun i => listed.getD i false) T0 = tF ops.toList R (fun j => Nat.blt j ops.toList.length) T0 := by
        funext t
        refine tF_congr hd fun j o hj _ => ?_
        have hlt : j < ops.size := by simpa using (List.getElem?_eq_some_iff.1 hj).1
        rw [← getDD listed j (by omega), hall j hlt, eq_comm, Nat.blt_eq]
        simpa using hlt
      rw [← this]
      exact hS
  | succ fuel ih =>
    intro listed a w hsz hc hcnt hS
    refine ⟨fun hr => ?_, fun i hi => ?_⟩
    · -- the first one that is not listed is ready
      exfalso
      have hex : ∃ i, i < ops.size ∧ listed.getD i true = false := by
        have hpos : 0 < (List.range ops.size).countP (fun i => !listed.getD i true) := by omega
        obtain ⟨i, h1, h2⟩ := List.countP_pos_iff.1 hpos
        exact ⟨i, by simpa using h1, by simpa using h2⟩
      obtain ⟨i, hi1, hi2⟩ := hex
      have : ∀ n i, i ≤ n → i < ops.size → listed.getD i true = false → False := by
        intro n
        induction n with
        | zero =>
          intro i hin h1 h2
          have ho : ops[i]? = some ops[i] := Array.getElem?_eq_getElem h1
          have : i ∈ Region.ready .any ops listed := (inready listed i).2 ⟨_, ho, h2, fun e he => by
            have := hd.back i _ (by simp [ho]) e he
            omega⟩
          rw [hr] at this
          cases this
        | succ n ihn =>
          intro i hin h1 h2
          have ho : ops[i]? = some ops[i] := Array.getElem?_eq_getElem h1
          have : i ∈ Region.ready .any ops listed := (inready listed i).2 ⟨_, ho, h2, fun e he => by
            have hlt := hd.back i _ (by simp [ho]) e he
            cases hx : listed.getD e false with
            | true => rfl
            | false => exact (ihn e (by omega) (by omega) ((getDD listed e (by omega)).trans hx)).elim⟩
          rw [hr] at this
          cases this
      exact this i i (Nat.le_refl _) hi1 hi2
    · obtain ⟨o, ho, h2, h3⟩ := (inready listed i).1 hi
      have hlt : i < ops.size := (Array.getElem?_eq_some_iff.1 ho).1
      have hoL : ops.toList[i]? = some o := by simpa using ho
      have hs : listed.getD i false = false := by rw [← getDD listed i (by omega)]; exact h2
      have hreads : ∀ t ∈ readsO ops.toList o, tF ops.toList R (fun i => listed.getD i false) T0 t = tF ops.toList R (fun j => Nat.blt j i) T0 t := fun t ht => tF_reads hd hc hoL hs h3 ht
      have setget : ∀ j, j < ops.size → (listed.setIfInBounds i true).getD j false = if j = i then true else listed.getD j false := by
        intro j hj
        simp only [Array.getD_eq_getD_getElem?, Array.getElem?_setIfInBounds]
        by_cases e : i = j
        · subst e; simp [hsz, hlt]
        · have : ¬ j = i := fun h => e h.symm
          simp [e, this]
      -- afterwards
      have next : ∀ a' w', St Γ nt (putT (tF ops.toList R (fun i => listed.getD i false) T0) o.dst (R i)) H ρ F a' w' → wpAny P .any ops Q fuel (listed.setIfInBounds i true) a' w' := by
        intro a' w' hS'
        refine ih _ a' w' (by simpa using hsz) ?_ ?_ ?_
        · intro k q hq hk e he
          have hkl : k < ops.size := by simpa using (List.getElem?_eq_some_iff.1 hq).1
          have hel : e < k := hd.back k q hq e he
          simp only at hk ⊢
          rw [setget k hkl] at hk
          rw [setget e (by omega)]
          split
          · rfl
          · split at hk
            · rename_i hki
              subst hki
              rw [hoL] at hq
              injection hq with hq
              subst hq
              exact h3 e he
            · exact hc k q hq hk e he
        · have hc2 : ∀ (l : List Nat), l.Nodup → (∀ x ∈ l, x < ops.size) → l.countP (fun j => !listed.getD j true) = l.countP (fun j => !(listed.setIfInBounds i true).getD j true) + (if i ∈ l then 1 else 0) := by
            intro l
            induction l with
            | nil => intro _ _; simp
            | cons x xs ihx =>
              intro hn hx
              have hx1 := hx x (by simp)
              rw [List.nodup_cons] at hn
              have ih' := ihx hn.2 fun y hy => hx y (by simp [hy])
              rw [List.countP_cons, List.countP_cons, ih']
              have e1 : listed.getD x true = listed.getD x false := getDD listed x (by omega)
              have e2 : (listed.setIfInBounds i true).getD x true = (listed.setIfInBounds i true).getD x false := getDD _ x (by simp; omega)
              rw [e1, e2, setget x hx1]
              by_cases hxi : x = i
              · subst hxi
                simp [hs, hn.1]
              · have hne : ¬ i = x := fun h => hxi h.symm
                simp only [hxi, if_false, List.mem_cons, hne, false_or]
                omega
          have := hc2 (List.range ops.size) List.nodup_range (fun x hx => by simpa using hx)
          rw [hcnt, if_pos (by simp [hlt])] at this
          omega
        · have : tF ops.toList R (fun j => (listed.setIfInBounds i true).getD j false) T0 = putT (tF ops.toList R (fun i => listed.getD i false) T0) o.dst (R i) := by
            refine tF_put hd hoL ?_ ?_
            · rw [setget i hlt]; simp
            · intro j hj hne
              rw [setget j (by simpa using hj), if_neg hne]
          rw [this]
          exact hS'
      obtain ⟨hdst, hone⟩ := hone i o hoL
      have run : RunOk P tbl H o (tF ops.toList R (fun j => Nat.blt j i) T0) (R i) → o.wp P a w (wpAny P .any ops Q fuel (listed.setIfInBounds i true)) Q := by
        rintro ⟨s0, hs0, hrun⟩
        have := hrun (tF ops.toList R (fun i => listed.getD i false) T0) fun x hx => by
          cases x with
          | tmp t =>
            exact hreads t (by
              unfold readsO
              refine List.mem_append_left _ (List.mem_filterMap.2 ⟨.tmp t, by simpa using hx, rfl⟩))
          | _ => rfl
        refine opQ_sound htb hS this ?_
        rintro sv v w' rfl hb hT
        exact next _ _ ((hS.grow hb).put hdst (hs0 _ _ _ _ hT))
      unfold wpOp
      rw [ho]
      simp only
      cases hg : o.guard with
      | none =>
        rw [hg] at hone
        rw [if_pos (by simp [Region.wanted, hg])]
        exact .inl (run hone)
      | some gw =>
        obtain ⟨j, want⟩ := gw
        rw [hg] at hone
        obtain ⟨t, b, ht, hb, hcase⟩ := hone
        have htr : t ∈ readsO ops.toList o := by
          unfold readsO
          refine List.mem_append_right _ ?_
          rw [hg]
          cases hq : ops.toList[j]? with
          | none => rw [hq] at ht; cases ht
          | some q =>
            rw [hq] at ht
            simp only [Option.bind_some] at ht
            simp only [hq, ht, List.mem_singleton]
        have hb' : tF ops.toList R (fun i => listed.getD i false) T0 t = .c (.cb b) := (hreads t htr).trans hb
        have hy : yielded ops a.tmps j = some b := by
          unfold yielded
          have : (ops[j]?).bind (·.dst) = some t := by simpa using ht
          rw [this]
          simp [tmp_bool hS hb']
        rcases hcase with ⟨hbw, hrun⟩ | ⟨hbw, hany⟩
        · subst hbw
          rw [if_pos (by simp [Region.wanted, hg, hy])]
          exact .inl (run hrun)
        · rw [if_neg (by simp [Region.wanted, hg, hy, hbw])]
          refine next _ _ ?_
          rw [hany]
          exact hS.put hdst .any

theorem vcD_sound (htb : TblOk P tbl) (hm : P.follows .mixedOrders = true) {id : Nat} {ops : Array Oper} {Q : Exit → Act → World → Prop} {K : TM → Prop} {T : TM} {a : Act} {w : World} (hc : chkDraw ops.toList = true)
    (h : vcD P tbl nt ops.toList H ops.toList 0 T K) (hQ : ∀ T a w, K T → St Γ nt T H ρ F a w → Q .normal a w) (hS : St Γ nt T H ρ F a { w with drawn := w.drawn + 1 }) : (Code.region id ops true).wp P Q a w := by
  have hd := chkDraw_sound hc
  obtain ⟨l, hg⟩ := vcD_good _ _ _ h
  have hT0 : T = tF ops.toList (fun i => l.getD i .any) (fun j => Nat.blt j ([] : List Oper).length) T := by
    funext t
    refine (tF_miss fun j o _ _ => ?_).symm
    cases hb : Nat.blt j ([] : List Oper).length with
    | false => rfl
    | true => rw [Nat.blt_eq] at hb; simp at hb
  obtain ⟨h1, h2⟩ := good_get hd ops.toList [] T l rfl hT0 (fun j s hs => by simp [List.getD, hs]) hg
  refine wp_region_any hm ?_
  refine any_sound htb hd (fun i o ho => h1 i o (by simp) ho) (fun a w hs => hQ _ _ _ h2 hs) _ _ _ _ (by simp) ?_ ?_ ?_
  · intro i o ho hi
    simp only [Array.getD_eq_getD_getElem?, Array.getElem?_replicate] at hi
    split at hi <;> simp at hi
  · rw [List.countP_eq_length.2]
    · simp
    · intro i hi
      have : i < ops.size := by simpa using hi
      simp [Array.getD_eq_getD_getElem?, this]
  · have : tF ops.toList (fun i => l.getD i .any) (fun i => (Array.replicate ops.size false).getD i false) T = T := by
      funext t
      refine tF_miss fun j o _ _ => ?_
      simp only [Array.getD_eq_getD_getElem?, Array.getElem?_replicate]
      split <;> rfl
    rw [this]
    exact hS
end
end Go.KA
