/- Part of a proof engine for functions of the given program: what an operation, a loop and a call compute, symbolically. No conditions. -/
import Derived.Test.YtceijpfmaofhpaaEngO
namespace Go.KA
open Go Go.RowKit

/-! ### Lists of operations -/
def vcOps (P : Program) (tbl : TT) (nt : Nat) (all : List Oper) : List Oper → Nat → TM → List Blk → (TM → List Blk → Prop) → Prop
  | [], _, T, H, K => K T H
  | o :: rest, n, T, H, K =>
    cond (dstOk nt o.dst)
      (match o.guard with
      | none => opA P tbl o.op o.type T H fun sv T H =>
        match isGuard all n with
        | true => match sv with
          | .c (.val (.bool b)) => Branch b (vcOps P tbl nt all rest (n + 1) (putT T o.dst (.c (.cb true))) H K) (vcOps P tbl nt all rest (n + 1) (putT T o.dst (.c (.cb false))) H K)
          | sv => vcOps P tbl nt all rest (n + 1) (putT T o.dst sv) H K
        | false => vcOps P tbl nt all rest (n + 1) (putT T o.dst sv) H K
      | some (j, want) =>
        match (all[j]?).bind (·.dst) with
        | some t => match T t with
          | .c (.cb b) =>
            match same b want with
            | true => opA P tbl o.op o.type T H fun sv T H =>
              match isGuard all n with
              | true => match sv with
                | .c (.val (.bool b)) => Branch b (vcOps P tbl nt all rest (n + 1) (putT T o.dst (.c (.cb true))) H K) (vcOps P tbl nt all rest (n + 1) (putT T o.dst (.c (.cb false))) H K)
                | sv => vcOps P tbl nt all rest (n + 1) (putT T o.dst sv) H K
              | false => vcOps P tbl nt all rest (n + 1) (putT T o.dst sv) H K
            | false => vcOps P tbl nt all rest (n + 1) (putT T o.dst .any) H K
          | _ => False
        | none => False) False

section
variable {P : Program} {tbl : TT} {Γ : Cx} {nt : Nat} {T : TM} {H : List Blk} {ρ : List Value} {F : Nat → List Nat} {a : Act} {w : World}

theorem vcOps_sound (htb : TblOk P tbl) {ops : Array Oper} {Q : Exit → Act → World → Prop} {K : TM → List Blk → Prop} (hK : ∀ T H ρ F a w, K T H → St Γ nt T H ρ F a w → Q .normal a w) :
    ∀ (rest : List Oper) (n : Nat) {T : TM} {H : List Blk} {ρ : List Value} {F : Nat → List Nat} {a : Act} {w : World}, vcOps P tbl nt ops.toList rest n T H K → St Γ nt T H ρ F a w → wpList P ops Q rest a w
  | [], n, T, H, ρ, F, a, w, h, hS => hK _ _ _ _ _ _ h hS
  | o :: rest, n, T, H, ρ, F, a, w, h, hS => by
    simp only [vcOps] at h
    cases hd : dstOk nt o.dst with
    | false => rw [hd] at h; exact h.elim
    | true =>
      rw [hd] at h
      simp only [cond] at h
      -- one operation
      have exec : ∀ {T : TM} {H : List Blk} {ρ : List Value} {F : Nat → List Nat} {a : Act} {w : World}, St Γ nt T H ρ F a w → (opA P tbl o.op o.type T H fun sv T H =>
          match isGuard ops.toList n with
          | true => match sv with
            | .c (.val (.bool b)) => Branch b (vcOps P tbl nt ops.toList rest (n + 1) (putT T o.dst (.c (.cb true))) H K) (vcOps P tbl nt ops.toList rest (n + 1) (putT T o.dst (.c (.cb false))) H K)
            | sv => vcOps P tbl nt ops.toList rest (n + 1) (putT T o.dst sv) H K
          | false => vcOps P tbl nt ops.toList rest (n + 1) (putT T o.dst sv) H K) → o.wp P a w (wpList P ops Q rest) Q := by
        intro T H ρ F a w hS h
        refine opA_sound htb hS h ?_
        intro sv T' H' ρ' F' v w' hk hS' hT
        split at hk
        · split at hk
          · rename_i b
            have hv := den_val (CDen.of_T hT)
            subst hv
            cases b with
            | true => exact vcOps_sound htb hK rest (n + 1) (hk.t rfl) (hS'.put hd (T_of_den (.cb .nil)))
            | false => exact vcOps_sound htb hK rest (n + 1) (hk.f rfl) (hS'.put hd (T_of_den (.cb .nil)))
          · exact vcOps_sound htb hK rest (n + 1) hk (hS'.put hd hT)
        · exact vcOps_sound htb hK rest (n + 1) hk (hS'.put hd hT)
      unfold wpList
      split at h
      · rename_i hg
        rw [if_pos (by simp [Region.wanted, hg])]
        exact .inl (exec hS h)
      · rename_i j want hg
        split at h
        · rename_i t ht
          split at h
          · rename_i b hb
            have hy : yielded ops a.tmps j = some b := by
              unfold yielded
              have : (ops[j]?).bind (·.dst) = some t := by simpa using ht
              rw [this]
              simp [tmp_bool hS hb]
            split at h
            · rename_i hs
              have := same_eq.1 hs
              subst this
              rw [if_pos (by simp [Region.wanted, hg, hy])]
              exact .inl (exec hS h)
            · rename_i hs
              have hne : b ≠ want := by intro e; rw [same_eq.2 e] at hs; cases hs
              rw [if_neg (by simp [Region.wanted, hg, hy, hne])]
              exact vcOps_sound htb hK rest (n + 1) h (hS.put hd .any)
          · exact h.elim
        · exact h.elim
end

/-! ### Code -/
inductive X where
  | normal
  | exit (id : Nat)
  | ret

def X.to : X → Exit
  | .normal => .normal
  | .exit id => .exit id
  | .ret => .ret

structure Inv where
  α : Type
  keep : List Nat := []
  ov : α → List (Nat × SV)
  hv : α → List (Nat × Blk) := fun _ => []
  φ : α → Prop
  μ : α → Nat

def keepT : List Nat → TM → TM
  | [], _ => fun _ => .any
  | k :: ks, T => fun i => cond (Nat.beq i k) (T i) (keepT ks T i)
def ovT : List (Nat × SV) → TM → TM
  | [], T => T
  | (k, v) :: r, T => fun i => cond (Nat.beq i k) v (ovT r T i)
def setH : List (Nat × Blk) → List Blk → List Blk
  | [], H => H
  | (k, b) :: r, H => setH r (H.set k b)
/-- references to the first n blocks alone -/
def belowC (n : Nat) : SV → Bool
  | .lp i _ => Nat.blt i n
  | .le i _ _ _ => Nat.blt i n
  | .lw i => Nat.blt i n
  | .ls i _ _ _ => Nat.blt i n
  | _ => true
def belowV (n : Nat) : SV → Bool
  | .m cs => cs.all (belowC n)
  | .clo _ cs => cs.all (belowC n)
  | x => belowC n x
def belowS (n : Nat) : SV → Bool
  | .tup vs => vs.all (belowV n)
  | x => belowV n x
def belowB (n : Nat) : Blk → Bool
  | .cells cs => cs.all (belowC n)
  | _ => true
def chkT (n : Nat) : List (Nat × SV) → TM → Prop
  | [], _ => True
  | (k, v) :: r, T => (T k = v ∧ belowS n v = true) ∧ chkT n r T
def chkK (n : Nat) : List Nat → TM → TM → Prop
  | [], _, _ => True
  | k :: r, T, T' => (T' k = T k ∧ belowS n (T k) = true) ∧ chkK n r T T'
def chkB (b : Blk) : Blk → Prop
  | .dead => True
  | c => b = c
def chkH (n : Nat) : List Blk → List Blk → Prop
  | _, [] => True
  | [], _ :: _ => False
  | b :: bs, c :: cs => (chkB b c ∧ belowB n c = true) ∧ chkH n bs cs

inductive LoopN (inv : Inv) (T : TM) (H : List Blk) (body : (X → TM → List Blk → Prop) → TM → List Blk → Prop) (K : X → TM → List Blk → Prop) : Prop
  | mk (a0 : inv.α) (h0 : inv.φ a0) (hT : chkT H.length (inv.ov a0) T) (hK : chkK H.length inv.keep T T) (hH : chkH H.length H (setH (inv.hv a0) H))
      (round : ∀ a, inv.φ a → body (fun e T' H' => match e with
        | .normal => ∃ a', inv.φ a' ∧ inv.μ a' < inv.μ a ∧ chkT H.length (inv.ov a') T' ∧ chkK H.length inv.keep T T' ∧ chkH H.length H' (setH (inv.hv a') H)
        | e => K e T' H') (ovT (inv.ov a) (keepT inv.keep T)) (setH (inv.hv a) H))

def firstReg : Code → Nat
  | .region id _ _ => id
  | .seq a _ => firstReg a
  | .block _ b => firstReg b
  | .loop b => firstReg b
  | .cond _ a _ => firstReg a
  | .scope b => firstReg b
  | _ => 0

def condT (c : Operand) (b : Bool) (T : TM) : TM := match c with | .tmp t => updT T t (.c (.cb b)) | _ => T

def vc (P : Program) (tbl : TT) (nt : Nat) (ann : Nat → Option Inv) : Code → (X → TM → List Blk → Prop) → TM → List Blk → Prop
  | .skip, K, T, H => K .normal T H
  | .region _ ops d, K, T, H => match d with
    | false => vcOps P tbl nt ops.toList ops.toList 0 T H (K .normal)
    | true => Need (chkDraw ops.toList = true) (vcD P tbl nt ops.toList H ops.toList 0 T fun T => K .normal T H)
  | .seq x y, K, T, H => vc P tbl nt ann x (fun e T H => match e with | .normal => vc P tbl nt ann y K T H | e => K e T H) T H
  | .cond c x y, K, T, H => match ev T c with
    | .c (.cb true) => vc P tbl nt ann x K T H
    | .c (.cb false) => vc P tbl nt ann y K T H
    | .c (.val (.bool b)) => Branch b (vc P tbl nt ann x K (condT c true T) H) (vc P tbl nt ann y K (condT c false T) H)
    | _ => False
  | .block id c, K, T, H => vc P tbl nt ann c (fun e T H => match e with | .exit i => cond (Nat.beq i id) (K .normal T H) (K (.exit i) T H) | e => K e T H) T H
  | .loop c, K, T, H => match ann (firstReg c) with
    | some inv => LoopN inv T H (fun K T H => vc P tbl nt ann c K T H) K
    | none => False
  | .exit id, K, T, H => K (.exit id) T H
  | .ret, K, T, H => K .ret T H
  | _, _, _, _ => False

section
variable {P : Program} {tbl : TT} {Γ : Cx} {nt : Nat}

theorem ovT_mem {n : Nat} : ∀ (l : List (Nat × SV)) (T T' : TM), chkT n l T' → (∀ i, T i = .any ∨ (T' i = T i ∧ belowS n (T i) = true)) → ∀ i, ovT l T i = .any ∨ (T' i = ovT l T i ∧ belowS n (ovT l T i) = true)
  | [], _, _, _, h, i => h i
  | (k, v) :: r, T, T', hc, h, i => by
    simp only [ovT]
    cases hb : Nat.beq i k with
    | true =>
      have := Nat.eq_of_beq_eq_true hb
      subst this
      exact .inr hc.1
    | false => exact ovT_mem r T T' hc.2 h i
theorem keepT_mem {n : Nat} : ∀ (l : List Nat) (T T' : TM), chkK n l T T' → ∀ i, keepT l T i = .any ∨ (T' i = keepT l T i ∧ belowS n (keepT l T i) = true)
  | [], _, _, _, _ => .inl rfl
  | k :: r, T, T', hc, i => by
    simp only [keepT]
    cases hb : Nat.beq i k with
    | true =>
      have := Nat.eq_of_beq_eq_true hb
      subst this
      exact .inr hc.1
    | false => exact keepT_mem r T T' hc.2 i

theorem chkH_get {n : Nat} : ∀ {bs cs : List Blk}, chkH n bs cs → cs.length ≤ bs.length ∧ ∀ (i : Nat) c, cs[i]? = some c → (c = .dead ∨ bs[i]? = some c) ∧ belowB n c = true
  | bs, [], _ => ⟨by simp, by simp⟩
  | [], _ :: _, h => h.elim
  | b :: bs, c :: cs, h => by
    obtain ⟨⟨h1, h0⟩, h2⟩ := h
    obtain ⟨h3, h4⟩ := chkH_get h2
    refine ⟨by simp; omega, fun i d hd => ?_⟩
    cases i with
    | zero =>
      simp at hd
      subst hd
      refine ⟨?_, h0⟩
      cases c <;> first | exact .inl rfl | (right; simp only [chkB] at h1; rw [h1]; rfl)
    | succ i => exact h4 i d (by simpa using hd)

theorem take_get {ρ : List Value} {n i : Nat} {v : Value} (h : ρ[i]? = some v) (hi : Nat.blt i n = true) : (ρ.take n)[i]? = some v := by
  rw [List.getElem?_take, if_pos (by rwa [Nat.blt_eq] at hi)]
  exact h
theorem CDen.below {n : Nat} {ρ : List Value} {w : World} {ok : Nat → Prop} {a : SV} {v : Value} (hb : belowC n a = true) (h : CDen ρ w ok a v) : CDen (ρ.take n) w ok a v := by
  cases h with
  | c h => exact .c h
  | lp h => exact .lp (take_get h hb)
  | le h => exact .le (take_get h hb)
  | lw h => exact .lw (take_get h hb)
  | ls h h1 h2 h3 => exact .ls (take_get h hb) h1 h2 h3
theorem VDen.below {n : Nat} {ρ : List Value} {w : World} {ok : Nat → Prop} {a : SV} {v : Value} (hb : belowV n a = true) (h : VDen ρ w ok a v) : VDen (ρ.take n) w ok a v := by
  cases h with
  | a hl h => exact .a hl h
  | m hl h => exact .m hl fun j a v ha hv => (h j a v ha hv).below (List.all_eq_true.1 hb a (List.mem_of_getElem? ha))
  | clo hl h => exact .clo hl fun j a v ha hv => (h j a v ha hv).below (List.all_eq_true.1 hb a (List.mem_of_getElem? ha))
  | c h =>
    refine .c (h.below ?_)
    cases h <;> exact hb
theorem TDen.below {n : Nat} {ρ : List Value} {w : World} {ok : Nat → Prop} {a : SV} {v : Value} (hb : belowS n a = true) (h : TDen ρ w ok a v) : TDen (ρ.take n) w ok a v := by
  cases h with
  | any => exact .any
  | v h =>
    refine .v (h.below ?_)
    cases h <;> first | exact hb | skip
    rename_i h
    cases h <;> exact hb
  | tup hl h => exact .tup hl fun j a v ha hv => (h j a v ha hv).below (List.all_eq_true.1 hb a (List.mem_of_getElem? ha))
theorem BDen.below {n : Nat} {ρ : List Value} {w : World} {ok : Nat → Prop} {k : Blk} {v : Value} {f : List Nat} (hb : belowB n k = true) (h : BDen ρ w ok k v f) : BDen (ρ.take n) w ok k v f := by
  cases h with
  | dead => exact .dead
  | cc h1 h2 h3 => exact .cc h1 h2 h3
  | cells h1 hl h => exact .cells h1 hl fun j a v ha hv => (h j a v ha hv).below (List.all_eq_true.1 hb a (List.mem_of_getElem? ha))
  | row h1 h2 h3 => exact .row h1 h2 h3
  | orow h1 h2 h3 => exact .orow h1 h2 h3

def liveF (H : List Blk) (F : Nat → List Nat) : Nat → List Nat := fun i => match H[i]? with
  | some .dead => []
  | some _ => F i
  | none => []
theorem liveF_mem {H : List Blk} {F : Nat → List Nat} {i b : Nat} (h : b ∈ liveF H F i) : b ∈ F i ∧ i < H.length := by
  unfold liveF at h
  split at h
  · cases h
  · rename_i hh; exact ⟨h, (List.getElem?_eq_some_iff.1 hh).1⟩
  · cases h

/-- less is known -/
theorem St.weaken {T T' : TM} {H H' : List Blk} {ρ : List Value} {F : Nat → List Nat} {a : Act} {w : World} (hS : St Γ nt T H ρ F a w) (hT : ∀ i, T' i = .any ∨ (T i = T' i ∧ belowS H'.length (T' i) = true)) (hH : chkH H'.length H H') :
    ∃ ρ' F', St Γ nt T' H' ρ' F' a w := by
  obtain ⟨hlen, hget⟩ := chkH_get hH
  have hm := hS.mem
  have hown : ∀ b, Owned H' (liveF H' F) b → Owned H F b := by
    rintro b ⟨i, hi, hb⟩
    exact ⟨i, by omega, (liveF_mem hb).1⟩
  have hok : ∀ b, okOf Γ H F w b → okOf Γ H' (liveF H' F) w b := fun b hb => ⟨hb.1, hb.2.1, fun ho => hb.2.2 (hown b ho)⟩
  refine ⟨ρ.take H'.length, liveF H' F, ⟨?_, hS.defers, hS.nt, fun i => ?_⟩⟩
  · constructor
    · simp [hm.len]; omega
    · intro i k hk
      obtain ⟨h1, h2⟩ := hget i k hk
      have hi := (List.getElem?_eq_some_iff.1 hk).1
      rcases h1 with rfl | h1
      · obtain ⟨u, hu⟩ : ∃ u, ρ[i]? = some u := ⟨_, List.getElem?_eq_getElem (by rw [hm.len]; omega)⟩
        exact ⟨u, take_get hu (by rw [Nat.blt_eq]; exact hi), by simp only [liveF, hk]; exact .dead⟩
      · obtain ⟨v, hv, hd⟩ := hm.blocks i k h1
        refine ⟨v, take_get hv (by rw [Nat.blt_eq]; exact hi), ?_⟩
        have hF : liveF H' F i = F i ∨ k = .dead := by
          unfold liveF
          rw [hk]
          cases k <;> first | exact .inr rfl | exact .inl rfl
        rcases hF with e | rfl
        · rw [e]
          exact (hd.mono (fun _ _ => rfl) hok fun _ _ => rfl).below h2
        · simp only [liveF, hk]; exact .dead
    · intro i j b hi hj hbi hbj
      exact hm.disj i j b (by omega) (by omega) (liveF_mem hbi).1 (liveF_mem hbj).1
    · intro i hi
      have := hm.nodup i (by omega)
      unfold liveF
      split <;> first | exact this | simp
    · exact fun b hb => hm.lt b (hown b hb)
    · exact fun b hb => hm.src b (hown b hb)
    · exact hm.inlt
    · exact hm.frame
    · exact hm.size
    · exact hm.os
    · exact hm.tape
    · exact hm.output
  · rcases hT i with e | ⟨e, hb⟩
    · rw [e]; exact .any
    · have h1 := (hS.tmps i).mono (fun _ _ => rfl) hok
      rw [e] at h1
      exact h1.below hb

theorem setH_len : ∀ (l : List (Nat × Blk)) (H : List Blk), (setH l H).length = H.length
  | [], _ => rfl
  | (_, _) :: r, H => by simp only [setH]; rw [setH_len r]; simp

theorem St.head {inv : Inv} {T T' : TM} {H H' : List Blk} {ρ : List Value} {F : Nat → List Nat} {a : Act} {w : World} {x : inv.α} (hS : St Γ nt T' H' ρ F a w) (hT : chkT H.length (inv.ov x) T') (hK : chkK H.length inv.keep T T') (hH : chkH H.length H' (setH (inv.hv x) H)) :
    ∃ ρ' F', St Γ nt (ovT (inv.ov x) (keepT inv.keep T)) (setH (inv.hv x) H) ρ' F' a w := by
  refine hS.weaken ?_ (by rw [setH_len]; exact hH)
  rw [setH_len]
  exact ovT_mem _ _ _ hT (keepT_mem _ _ _ hK)

theorem cond_T {T : TM} {H : List Blk} {ρ : List Value} {F : Nat → List Nat} {a : Act} {w : World} (hS : St Γ nt T H ρ F a w) {c : Operand} {b : Bool} (h : a.eval c = .bool b) : St Γ nt (condT c b T) H ρ F a w := by
  cases c with
  | tmp t =>
    refine ⟨hS.mem, hS.defers, hS.nt, fun i => ?_⟩
    simp only [condT, updT]
    cases hb : Nat.beq i t with
    | true =>
      have := Nat.eq_of_beq_eq_true hb
      subst this
      simp only [cond]
      have : a.tmps.getD i undef = .bool b := h
      rw [this]
      exact T_of_den (.cb .nil)
    | false => exact hS.tmps i
  | _ => exact hS

theorem vc_sound (htb : TblOk P tbl) (hm : P.follows .mixedOrders = true) {ann : Nat → Option Inv} : ∀ (c : Code) {K : X → TM → List Blk → Prop} {Q : Exit → Act → World → Prop} {T : TM} {H : List Blk} {ρ : List Value} {F : Nat → List Nat} {a : Act} {w : World},
    vc P tbl nt ann c K T H → (∀ e T H ρ F a w, K e T H → St Γ nt T H ρ F a w → Q e.to a w) → St Γ nt T H ρ F a w → c.wp P Q a w
  | .skip, K, Q, T, H, ρ, F, a, w, h, hQ, hS => wp_skip (hQ _ _ _ _ _ _ _ h hS)
  | .exit id, K, Q, T, H, ρ, F, a, w, h, hQ, hS => wp_exit (hQ (.exit id) _ _ _ _ _ _ h hS)
  | .ret, K, Q, T, H, ρ, F, a, w, h, hQ, hS => wp_ret (hQ .ret _ _ _ _ _ _ h hS)
  | .region id ops d, K, Q, T, H, ρ, F, a, w, h, hQ, hS => by
    simp only [vc] at h
    split at h
    · exact wp_region_list (vcOps_sound htb (fun T H ρ F a w hk hs => hQ .normal T H ρ F a w hk hs) _ 0 h hS)
    · exact vcD_sound htb hm h.h h.k (fun T a w hk hs => hQ .normal _ _ _ _ _ _ hk hs) (hS.grow ⟨rfl, rfl, rfl, Nat.le_refl _, fun _ _ => rfl⟩)
  | .seq x y, K, Q, T, H, ρ, F, a, w, h, hQ, hS => by
    refine wp_seq (vc_sound htb hm x h ?_ hS)
    intro e T H ρ F a w hk hs
    cases e with
    | normal => exact vc_sound htb hm y hk hQ hs
    | exit id => exact hQ (.exit id) _ _ _ _ _ _ hk hs
    | ret => exact hQ .ret _ _ _ _ _ _ hk hs
  | .cond c x y, K, Q, T, H, ρ, F, a, w, h, hQ, hS => by
    have hE := ev_sound hS c
    simp only [vc] at h
    split at h
    · rename_i hc
      rw [hc] at hE
      exact wp_cond (t := true) (den_cb (CDen.of_T hE)) (vc_sound htb hm x h hQ hS)
    · rename_i hc
      rw [hc] at hE
      exact wp_cond (t := false) (den_cb (CDen.of_T hE)) (vc_sound htb hm y h hQ hS)
    · rename_i b hc
      rw [hc] at hE
      have hv := den_val (CDen.of_T hE)
      refine wp_cond_split hv (fun e => ?_) (fun e => ?_)
      · subst e
        exact vc_sound htb hm x (h.t rfl) hQ (cond_T hS hv)
      · subst e
        exact vc_sound htb hm y (h.f rfl) hQ (cond_T hS hv)
    · exact h.elim
  | .block id c, K, Q, T, H, ρ, F, a, w, h, hQ, hS => by
    refine wp_block (vc_sound htb hm c h ?_ hS)
    intro e T H ρ F a w hk hs
    cases e with
    | normal => exact hQ .normal _ _ _ _ _ _ hk hs
    | exit i =>
      simp only at hk
      simp only [X.to, Exit.inBlock]
      cases hb : Nat.beq i id with
      | true =>
        rw [hb] at hk
        rw [if_pos (Nat.eq_of_beq_eq_true hb)]
        exact hQ .normal _ _ _ _ _ _ hk hs
      | false =>
        rw [hb] at hk
        rw [if_neg (nbeq hb)]
        exact hQ (.exit i) _ _ _ _ _ _ hk hs
    | ret => exact hQ .ret _ _ _ _ _ _ hk hs
  | .loop c, K, Q, T, H, ρ, F, a, w, h, hQ, hS => by
    simp only [vc] at h
    split at h
    case h_2 => exact h.elim
    rename_i inv _
    obtain ⟨a0, h0, hT, hKp, hH, round⟩ := h
    obtain ⟨ρ0, F0, hS0⟩ := hS.head hT hKp hH
    refine wp_loop_ghost (fun n a w => ∃ x ρ F, inv.φ x ∧ inv.μ x = n ∧ St Γ nt (ovT (inv.ov x) (keepT inv.keep T)) (setH (inv.hv x) H) ρ F a w) (inv.μ a0) ⟨a0, ρ0, F0, h0, rfl, hS0⟩ ?_
    rintro n a w ⟨x, ρ, F, hx, rfl, hs⟩
    refine vc_sound htb hm c (round x hx) ?_ hs
    intro e T' H' ρ' F' a' w' hk hs'
    cases e with
    | normal =>
      obtain ⟨x', hx', hmu, g1, g2, g3⟩ := hk
      obtain ⟨ρ1, F1, hS1⟩ := hs'.head g1 g2 g3
      exact ⟨_, hmu, x', ρ1, F1, hx', rfl, hS1⟩
    | exit i => exact hQ (.exit i) _ _ _ _ _ _ hk hs'
    | ret => exact hQ .ret _ _ _ _ _ _ hk hs'
  | .scope _, K, Q, T, H, ρ, F, a, w, h, hQ, hS => h.elim
  | .label _, K, Q, T, H, ρ, F, a, w, h, hQ, hS => h.elim
  | .goto _, K, Q, T, H, ρ, F, a, w, h, hQ, hS => h.elim
  | .refuse _, K, Q, T, H, ρ, F, a, w, h, hQ, hS => h.elim
  | .rangeFunc _ _ _ _, K, Q, T, H, ρ, F, a, w, h, hQ, hS => h.elim

end

/-! ### Functions -/
structure Done (p : Prop) : Prop where
  h : p
def T0 (args : List SV) : TM := fun i => match args[i]? with | some s => s | none => .any
def vcRes (tbl : TT) : List ResultVar → TM → List Blk → (List SV → Prop) → Prop
  | [], _, _, K => K []
  | .tmp t :: rs, T, H, K => vcRes tbl rs T H fun l => K (T t :: l)
  | .cell t ty :: rs, T, H, K => qLoad tbl ty (T t) H fun sv => vcRes tbl rs T H fun l => K (sv :: l)
def outR : List SV → SV
  | [x] => x
  | l => .tup l
def viewS (H : List Blk) (s : SV) : Option SV :=
  match s with
  | .tup vs => match mapOS (viewV H) vs with | some l => some (.tup l) | none => none
  | s => viewV H s
def normV : SV → SV
  | .c (.cb b) => .c (.val (.bool b))
  | s => s
def normS : SV → SV
  | .tup vs => .tup (vs.map normV)
  | s => normV s
theorem normV_sound {ρ : List Value} {w : World} {ok : Nat → Prop} {s : SV} {v : Value} (h : VDen ρ w ok s v) : VDen ρ w ok (normV s) v := by
  unfold normV
  split
  · cases h with | c h => cases h with | c h => rw [den_cb h]; exact .c (.c (mk_val rfl))
  · exact h
theorem normS_sound {ρ : List Value} {w : World} {ok : Nat → Prop} {s : SV} {v : Value} (h : TDen ρ w ok s v) : TDen ρ w ok (normS s) v := by
  unfold normS
  split
  · cases h with
    | v h => cases h with | c h => cases h
    | tup hl hh =>
      refine .tup (by simpa using hl) fun j s v hs hv => ?_
      rw [List.getElem?_map] at hs
      cases ha : (‹List SV› : List SV)[j]? with
      | none => rw [ha] at hs; cases hs
      | some a => rw [ha] at hs; simp at hs; subst hs; exact normV_sound (hh j a v ha hv)
  · cases h with
    | any => exact .any
    | v h => exact .v (normV_sound h)
    | tup hl hh => rename_i hne; exact (hne _ rfl).elim
def retF (tbl : TT) (rs : List ResultVar) (r : SV) : X → TM → List Blk → Prop
  | .exit _, _, _ => False
  | _, T, H => vcRes tbl rs T H fun l => match viewS H (outR l) with | some s => Done (normS s = r) | none => False

section
variable {P : Program} {tbl : TT}

def resSem (tmps : Array Value) : ResultVar → Sem Value
  | .tmp t => pure (tmps.getD t undef)
  | .cell a t => do loadVar t (← asAddr (tmps.getD a undef))

theorem vcRes_sound (htb : TblOk P tbl) {Γ : Cx} {nt : Nat} {T : TM} {H : List Blk} {ρ : List Value} {F : Nat → List Nat} {a : Act} {w : World} (hS : St Γ nt T H ρ F a w) : ∀ (rs : List ResultVar) {K : List SV → Prop}, vcRes tbl rs T H K →
    ∃ l vs, K l ∧ (rs.mapM (resSem a.tmps)).run P w = .ok vs w ∧ l.length = vs.length ∧ ∀ (j : Nat) s v, l[j]? = some s → vs[j]? = some v → TDen ρ w (okOf Γ H F w) s v
  | [], K, h => ⟨[], [], h, by simp, rfl, by simp⟩
  | .tmp t :: rs, K, h => by
    obtain ⟨l, vs, hK, hr, hl, hv⟩ := vcRes_sound htb hS rs h
    refine ⟨_, a.tmps.getD t undef :: vs, hK, by simp [List.mapM_cons, resSem, hr], by simp [hl], fun j s v hs hv' => ?_⟩
    cases j with
    | zero =>
      simp only [List.getElem?_cons_zero, Option.some.injEq] at hs hv'
      subst hs hv'
      exact hS.tmps t
    | succ j => exact hv j s v (by simpa using hs) (by simpa using hv')
  | .cell t ty :: rs, K, h => by
    obtain ⟨sv, v, h', hrun, hT⟩ := qLoad_sound hS.mem.blocks htb h (hS.tmps t)
    obtain ⟨l, vs, hK, hr, hl, hv⟩ := vcRes_sound htb hS rs h'
    have hload : (resSem a.tmps (.cell t ty)).run P w = .ok v w := by
      unfold resSem
      have : ∃ ad, a.tmps.getD t undef = .pointer (some ad) := by
        unfold Instr.loadAt at hrun
        generalize a.tmps.getD t undef = x at hrun
        cases x <;> first | (simp [Instr.sureAddr] at hrun; done) | skip
        rename_i p
        cases p with
        | none => simp [Instr.sureAddr] at hrun
        | some ad => exact ⟨ad, rfl⟩
      obtain ⟨ad, had⟩ := this
      simp only [had] at hrun ⊢
      simpa [Instr.loadAt, Instr.sureAddr, asAddr] using hrun
    refine ⟨_, v :: vs, hK, by rw [List.mapM_cons]; simp [hload, hr], by simp [hl], fun j s u hs hu => ?_⟩
    cases j with
    | zero =>
      simp only [List.getElem?_cons_zero, Option.some.injEq] at hs hu
      subst hs hu
      exact hT
    | succ j => exact hv j s u (by simpa using hs) (by simpa using hu)

end
end Go.KA
