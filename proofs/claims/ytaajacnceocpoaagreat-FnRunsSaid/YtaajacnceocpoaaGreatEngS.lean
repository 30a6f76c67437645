/- Part of a proof engine for functions of the given program: what an operation, a loop and a call compute, symbolically. No conditions. -/
import Derived.Test.YtaajacnceocpoaaGreatEngR
namespace Go.KA
open Go Go.RowKit

/-! ### Functions -/
structure Done (p : Prop) : Prop where
  h : p
def T0 (args : List SV) : TM := fun i => match args[i]? with | some s => s | none => .any
def H0 (bs : List (Nat × Blk)) : HM := updL bs fun _ => .dead
def vcRes (tbl : TT) : List ResultVar → TM → HM → (List SV → Prop) → Prop
  | [], _, _, K => K []
  | .tmp t :: rs, T, H, K => vcRes tbl rs T H fun l => K (T t :: l)
  | .cell t ty :: rs, T, H, K => qLoad tbl ty (T t) H fun sv => vcRes tbl rs T H fun l => K (sv :: l)
def outR : List SV → SV
  | [x] => x
  | l => .tup l
def viewS (H : HM) (s : SV) : Option SV :=
  match s with
  | .tup vs => match mapOS (viewV H) vs with | some l => some (.tup l) | none => none
  | s => viewV H s
def normV : SV → SV
  | .c (.cb b) => .c (.val (.bool b))
  | s => s
def normS : SV → SV
  | .tup vs => .tup (vs.map normV)
  | s => normV s
theorem normV_sound {ρ : RM} {w : World} {ok : Nat → Prop} {s : SV} {v : Value} (h : VDen ρ w ok s v) : VDen ρ w ok (normV s) v := by
  unfold normV
  split
  · cases h with | c h => cases h with | c h => rw [den_cb h]; exact .c (.c (mk_val rfl))
  · exact h
def retF (tbl : TT) (rs : List ResultVar) (r : SV) : X → TM → HM → Nat → Prop
  | .exit _, _, _, _ => False
  | _, T, H, _ => vcRes tbl rs T H fun l => match viewS H (outR l) with | some s => Done (normS s = r) | none => False
def consR (H : HM) (s : SV) : Option SV :=
  match s with
  | .m cs => match mapO (consC H) cs with | some l => some (.a l.length l) | none => none
  | .a n cs => some (.a n cs)
  | .lp k o => lendS H (.lp k o)
  | .clo k caps => match caps.all closedC with | true => some (.clo k caps) | false => none
  | .any => none
  | .tup _ => none
  | s => match consC H s with | some x => some (.c x) | none => none
def usesR (H : HM) (s : SV) : List Nat :=
  match s with
  | .m cs => cs.flatMap lwsC
  | .lp k o => lentS H (.lp k o)
  | s => lwsC s
def consT (H : HM) (s : SV) : Option SV :=
  match s with
  | .tup vs => match mapOS (consR H) vs with | some l => some (.tup l) | none => none
  | .any => some .any
  | s => consR H s
def usesT (H : HM) (s : SV) : List Nat :=
  match s with
  | .tup vs => vs.flatMap (usesR H)
  | s => usesR H s
def outN (H : HM) : List SV → List (Option (List CV)) → List Nat
  | s :: ss, some _ :: os => lentS H s ++ outN H ss os
  | _ :: ss, none :: os => outN H ss os
  | _, _ => []
def cellsS : SV → List CV
  | .c x => [x]
  | .m ss => match allC ss with | some l => l | none => []
  | _ => []
def outQ (H : HM) : List SV → List (Option (List CV)) → Prop
  | s :: ss, some cs :: os => (lendS H s).map cellsS = some cs ∧ outQ H ss os
  | _ :: ss, none :: os => outQ H ss os
  | _, [] => True
  | [], _ :: _ => False
def keepL : List SV → List SV → Bool
  | [], _ => true
  | .lp m o :: cs, c0 :: cs0 => match c0 with
    | .lp m' o' => Nat.beq m m' && (Nat.beq o o' && keepL cs cs0)
    | _ => false
  | .lp _ _ :: _, [] => false
  | _ :: cs, [] => keepL cs []
  | _ :: cs, _ :: cs0 => keepL cs cs0
def cellsB : Blk → List SV
  | .cells cs => cs
  | _ => []
def keepB (H0 H : HM) : List SV → List (Option (List CV)) → Bool
  | s :: ss, _ :: os => (match s with | .lp k _ => (match H k with | .cells cs => keepL cs (cellsB (H0 k)) | _ => true) | _ => true) && keepB H0 H ss os
  | _, _ => true
def lpI : SV → List Nat
  | .lp m _ => [m]
  | _ => []
def pinL (ss : List SV) (bs : List (Nat × Blk)) : List Nat := ss.flatMap refV ++ bs.flatMap fun p => (cellsB p.2).flatMap lpI
structure RetX (p q : Prop) : Prop where
  h : p
  o : q
def retX (tbl : TT) (rs : List ResultVar) (H0 : HM) (ss : List SV) (outs : List (Option (List CV))) (r : SV) : X → TM → HM → Nat → Prop
  | .exit _, _, _, _ => False
  | _, T, H, _ => vcRes tbl rs T H fun l => cond (nodupN (usesT H (outR l) ++ outN H ss outs) && keepB H0 H ss outs) (match consT H (outR l) with | some s => RetX (s = r) (outQ H ss outs) | none => False) False

section
variable {P : Program} {tbl : TT}
def resSem (tmps : Array Value) : ResultVar → Sem Value
  | .tmp t => pure (tmps.getD t undef)
  | .cell a t => do loadVar t (← asAddr (tmps.getD a undef))

theorem vcRes_sound (htb : TblOk P tbl) {Γ : Cx} {nt : Nat} {T : TM} {H : HM} {ρ : RM} {F : FM} {a : Act} {w : World} (hS : St Γ nt T H ρ F a w) : ∀ (rs : List ResultVar) {K : List SV → Prop}, vcRes tbl rs T H K →
    ∃ l vs, K l ∧ (rs.mapM (resSem a.tmps)).run P w = .ok vs w ∧ l.length = vs.length ∧ ∀ (j : Nat) s v, l[j]? = some s → vs[j]? = some v → TDen ρ w (okOf Γ F w) s v
  | [], K, h => ⟨[], [], h, by simp, rfl, by simp⟩
  | .tmp t :: rs, K, h => by
    obtain ⟨l, vs, hK, hr, hl, hv⟩ := vcRes_sound htb hS rs h
    refine ⟨_, a.tmps.getD t undef :: vs, hK, by simp [List.mapM_cons, resSem, hr], by simp [hl], fun j s v hs hv' => ?_⟩
    cases j with
    | zero =>
      simp only [List.getElem?_cons_zero, Option.some.injEq] at hs hv'
      subst hs hv'
      exact hS.tmps t
    | succ j => exact hv j s v (by simpa using hs) (by simpa using hv')
  | .cell t ty :: rs, K, h => by
    obtain ⟨sv, v, h', hrun, hT⟩ := qLoad_sound (hS.mem.hb (LeH.refl H)) htb h (hS.tmps t)
    obtain ⟨l, vs, hK, hr, hl, hv⟩ := vcRes_sound htb hS rs h'
    have hload : (resSem a.tmps (.cell t ty)).run P w = .ok v w := by
      unfold resSem
      have : ∃ ad, a.tmps.getD t undef = .pointer (some ad) := by
        unfold Instr.loadAt at hrun
        generalize a.tmps.getD t undef = x at hrun
        cases x <;> first | (simp [Instr.sureAddr] at hrun; done) | skip
        rename_i p
        cases p with
        | none => simp [Instr.sureAddr] at hrun
        | some ad => exact ⟨ad, rfl⟩
      obtain ⟨ad, had⟩ := this
      simp only [had] at hrun ⊢
      simpa [Instr.loadAt, Instr.sureAddr, asAddr] using hrun
    refine ⟨_, v :: vs, hK, by rw [List.mapM_cons]; simp [hload, hr], by simp [hl], fun j s u hs hu => ?_⟩
    cases j with
    | zero =>
      simp only [List.getElem?_cons_zero, Option.some.injEq] at hs hu
      subst hs hu
      exact hT
    | succ j => exact hv j s u (by simpa using hs) (by simpa using hu)

theorem run_results (htb : TblOk P tbl) {Γ : Cx} {nt : Nat} {T : TM} {H : HM} {ρ : RM} {F : FM} {a : Act} {w : World} (hS : St Γ nt T H ρ F a w) {fn : Func} {K : List SV → Prop} (h : vcRes tbl fn.results.toList T H K) :
    ∃ (l : List SV) (vs : List Value), K l ∧ (results fn a.tmps).run P w = .ok (if h : vs.toArray.size = 1 then vs.toArray[0] else .tuple vs.toArray) w ∧ l.length = vs.length ∧ ∀ (j : Nat) s v, l[j]? = some s → vs[j]? = some v → TDen ρ w (okOf Γ F w) s v := by
  obtain ⟨l, vs, hK, hr, hl, hv⟩ := vcRes_sound htb hS _ h
  refine ⟨l, vs, hK, ?_, hl, hv⟩
  have hrun : (fn.results.mapM (resSem a.tmps)).run P w = .ok vs.toArray w := by
    rw [Array.mapM_eq_mapM_toList]
    simp [hr]
  have : results fn a.tmps = (do let vs ← fn.results.mapM (resSem a.tmps); pure (if h : vs.size = 1 then vs[0] else .tuple vs)) := by
    unfold results
    congr 1
  rw [this, Sem.run_bind, hrun]
  rfl

end

section
variable {w : World} {ok okv : Nat → Prop} {ρ : RM} {H : HM} {F : FM}
theorem A_to_O {x : CV} {v : Value} {f : List Nat} (h : ADen w ok (.c x) v f) : ODen w ok (.c x) v f := by
  cases h with
  | v h => exact .v h
  | o h => exact .o h
theorem lendS_lp {k o : Nat} {s' : SV} (h : lendS H (.lp k o) = some s') : ∃ x, s' = .c x := by
  unfold lendS at h
  simp only at h
  split at h
  · cases hb : Nat.beq o 0 <;> rw [hb] at h
    · cases h
    · injection h with h; exact ⟨_, h.symm⟩
  · cases hb : Nat.beq o 0 <;> rw [hb] at h
    · cases h
    · simp only [cond] at h
      split at h
      · injection h with h; exact ⟨_, h.symm⟩
      · cases h
  · cases hb : Nat.beq o 0 <;> rw [hb] at h
    · cases h
    · injection h with h; exact ⟨_, h.symm⟩
  · cases h
theorem consR_sound (hB : ∀ i, H i = .dead ∨ BDen ρ w ok (H i) (ρ i) (F i)) {s s' : SV} {v : Value} (h : consR H s = some s') (hd : VDen ρ w ok s v) : ODen w ok s' v ((usesR H s).flatMap F) := by
  unfold consR at h
  split at h
  · split at h
    · rename_i l hl
      injection h with h
      subst h
      cases hd with
      | c hd => cases hd
      | m hlen hh => exact .a rfl (by simpa [usesR] using consO_sound hB hl hlen hh)
    · cases h
  · injection h with h
    subst h
    cases hd with
    | c hd => cases hd
    | a hlen hd => exact .a hlen (by simpa [usesR, lwsC] using hd)
  · rename_i k o
    have h1 := lendS_sound hB (fun _ h => h) h (.v hd)
    obtain ⟨x, rfl⟩ := lendS_lp h
    exact A_to_O h1
  · rename_i k caps
    split at h
    case h_2 => cases h
    rename_i hc
    injection h with h
    subst h
    have := closedV_sound (s := .clo k caps) (fun _ h => h) hc hd
    simpa [usesR, lwsC] using ODen.v this
  · cases h
  · cases h
  · rename_i n1 n2 n3 n4 n5 n6
    split at h
    · rename_i x hx
      injection h with h
      subst h
      have hc : CDen ρ w ok s v := by
        cases hd with
        | c hd => exact hd
        | a _ _ => exact (n2 _ _ rfl).elim
        | m _ _ => exact (n1 _ rfl).elim
        | clo _ _ => exact (n4 _ _ rfl).elim
      have hu : usesR H s = lwsC s := by cases s <;> first | rfl | exact (n1 _ rfl).elim | exact (n3 _ _ rfl).elim
      rw [hu]
      exact .o (consC_sound hB hx hc)
    · cases h
theorem consRs_sound (hB : ∀ i, H i = .dead ∨ BDen ρ w ok (H i) (ρ i) (F i)) : ∀ {ss ss' : List SV} {vs : List Value}, mapOS (consR H) ss = some ss' → ss.length = vs.length → (∀ (j : Nat) s v, ss[j]? = some s → vs[j]? = some v → VDen ρ w ok s v) → OL w ok ss' vs ((ss.flatMap (usesR H)).flatMap F)
  | [], ss', vs, h, hl, _ => by
    simp [mapOS] at h
    subst h
    cases vs with
    | nil => simpa using OL.nil
    | cons _ _ => simp at hl
  | s :: ss, ss', vs, h, hl, hd => by
    cases vs with
    | nil => simp at hl
    | cons v vs =>
      simp only [mapOS] at h
      split at h
      · rename_i y ys hy hys
        injection h with h
        subst h
        have h1 := consR_sound hB hy (hd 0 _ _ rfl rfl)
        have h3 := consRs_sound hB hys (by simpa using hl) fun j s v hs hv => hd (j + 1) s v hs hv
        have := OL.cons h1 h3
        simpa using this
      · cases h
theorem consT_sound (hB : ∀ i, H i = .dead ∨ BDen ρ w ok (H i) (ρ i) (F i)) {s r : SV} {v : Value} (h : consT H s = some r) (hd : TDen ρ w ok s v) : OT w ok r v ((usesT H s).flatMap F) := by
  unfold consT at h
  split at h
  · split at h
    · rename_i l hl
      injection h with h
      subst h
      cases hd with
      | v hd => cases hd with | c hd => cases hd
      | tup hlen hh => exact .tup (consRs_sound hB hl hlen hh)
    · cases h
  · injection h with h
    subst h
    cases hd with
    | any => simpa [usesT, usesR, lwsC] using OT.any
    | v hd => cases hd with | c hd => cases hd
  · rename_i hne hna
    have hu : usesT H s = usesR H s := by cases s <;> first | rfl | exact (hne _ rfl).elim
    rw [hu]
    cases hd with
    | any => exact (hna rfl).elim
    | v hd => exact .v (consR_sound hB h hd)
    | tup _ _ => exact (hne _ rfl).elim

theorem viewOS_sound {Hv : HM} (hB : ∀ i, H i = .dead ∨ BDen ρ w ok (H i) (ρ i) (F i)) (hok : ∀ b, ok b → okv b) (hF : ∀ i, H i ≠ .dead → ∀ b ∈ F i, okv b) : ∀ {ss ss' : List SV} {vs : List Value}, mapOS (viewV H) ss = some ss' → ss.length = vs.length → (∀ (j : Nat) s v, ss[j]? = some s → vs[j]? = some v → VDen ρ w ok s v) → OL w okv ss' vs []
  | [], ss', vs, h, hl, _ => by
    simp [mapOS] at h
    subst h
    cases vs with
    | nil => exact OL.nil
    | cons _ _ => simp at hl
  | s :: ss, ss', vs, h, hl, hd => by
    cases vs with
    | nil => simp at hl
    | cons v vs =>
      simp only [mapOS] at h
      split at h
      · rename_i y ys hy hys
        injection h with h
        subst h
        have h1 : ODen w okv y v [] := .v (viewV_sound hB hok hF hy (hd 0 _ _ rfl rfl))
        have h3 := viewOS_sound (Hv := Hv) hB hok hF hys (by simpa using hl) fun j s v hs hv => hd (j + 1) s v hs hv
        have := OL.cons h1 h3
        simpa using this
      · cases h
theorem norm_O {s : SV} {v : Value} (h : ODen w ok s v []) : ODen w ok (normV s) v [] := by
  cases h with
  | v h => exact .v fun ρ => normV_sound (h ρ)
  | o h =>
    rename_i x
    cases x <;> first | exact .o h | skip
    rw [den_cb h]
    exact .o (mk_val rfl)
  | a hl h => exact .a hl h
theorem norm_OL : ∀ {ss : List SV} {vs : List Value}, OL w ok ss vs [] → OL w ok (ss.map normV) vs []
  | [], vs, h => by cases h; exact .nil
  | s :: ss, vs, h => by
    generalize hf : ([] : List Nat) = f at h
    cases h with
    | cons h ht =>
      rename_i v fs vs gs
      have h1 : fs = [] := by cases fs with | nil => rfl | cons _ _ => simp at hf
      subst h1
      simp at hf
      subst hf
      have := OL.cons (norm_O h) (norm_OL ht)
      simpa using this
theorem norm_OT {s : SV} {v : Value} (h : OT w ok s v []) : OT w ok (normS s) v [] := by
  generalize hf : ([] : List Nat) = f at h
  cases h with
  | any => exact .any
  | v h =>
    subst hf
    refine .v ?_
    have : normS s = normV s := by
      cases s <;> first | rfl | skip
      cases h with
      | v h => cases h (fun _ => none) with | c h => cases h
    rw [this]
    exact norm_O h
  | tup h => subst hf; exact .tup (norm_OL h)

theorem allC_map : ∀ cs : List CV, allC (cs.map SV.c) = some cs
  | [] => rfl
  | c :: cs => by simp only [List.map_cons, allC, allC_map cs]
theorem cells_map (cs : List CV) : cellsS (.m (cs.map .c)) = cs := by simp only [cellsS, allC_map]
theorem lendS_form {s x : SV} (h : lendS H s = some x) : (∃ c, x = .c c) ∨ ∃ cs : List CV, x = .m (cs.map .c) := by
  have hc : ∀ {b : Bool} {o : Option SV}, cond b o none = some x → o = some x := by
    intro b o hb
    cases b with
    | true => exact hb
    | false => cases hb
  unfold lendS at h
  split at h
  · split at h
    · injection h with h; exact .inl ⟨_, h.symm⟩
    · cases h
  · split at h
    · have h := hc h; injection h with h; exact .inl ⟨_, h.symm⟩
    · have h := hc h
      split at h
      · injection h with h; exact .inl ⟨_, h.symm⟩
      · cases h
    · have h := hc h; injection h with h; exact .inl ⟨_, h.symm⟩
    · cases h
  · split at h
    · injection h with h; exact .inr ⟨_, h.symm⟩
    · cases h
  · cases h
theorem keepL_get : ∀ {cs cs0 : List SV} {i m o : Nat}, keepL cs cs0 = true → cs[i]? = some (.lp m o) → cs0[i]? = some (.lp m o)
  | [], _, i, m, o, _, h => by simp at h
  | c :: cs, cs0, i, m, o, hk, h => by
    cases i with
    | zero =>
      simp at h
      subst h
      cases cs0 with
      | nil => simp [keepL] at hk
      | cons c0 cs0 =>
        cases c0 <;> simp only [keepL] at hk <;> first | cases hk | skip
        simp only [Bool.and_eq_true] at hk
        rw [Nat.eq_of_beq_eq_true hk.1, Nat.eq_of_beq_eq_true hk.2.1]
        rfl
    | succ i =>
      have h' : cs[i]? = some (.lp m o) := by simpa using h
      cases cs0 with
      | nil =>
        have hk' : keepL cs [] = true := by cases c <;> simp only [keepL] at hk <;> first | exact hk | cases hk
        have := keepL_get hk' h'
        simp at this
      | cons c0 cs0 =>
        have hk' : keepL cs cs0 = true := by
          cases c <;> simp only [keepL] at hk <;> first | exact hk | skip
          cases c0 <;> simp only [Bool.and_eq_true] at hk <;> first | exact hk.2.2 | cases hk
        have := keepL_get hk' h'
        simpa using this
theorem keepB_get {H0 H : HM} : ∀ {ss : List SV} {os : List (Option (List CV))} {j k o : Nat} {x : Option (List CV)} {cs : List SV}, keepB H0 H ss os = true → ss[j]? = some (.lp k o) → os[j]? = some x → H k = .cells cs → keepL cs (cellsB (H0 k)) = true
  | [], os, j, k, o, x, cs, h, hs, ho, hk => by simp at hs
  | s :: ss, [], j, k, o, x, cs, h, hs, ho, hk => by simp at ho
  | s :: ss, y :: os, j, k, o, x, cs, h, hs, ho, hk => by
    simp only [keepB, Bool.and_eq_true] at h
    cases j with
    | zero =>
      simp at hs
      subst hs
      have := h.1
      simpa [hk] using this
    | succ j => exact keepB_get h.2 (by simpa using hs) (by simpa using ho) hk
theorem mapO_get {f : SV → Option CV} : ∀ {cs : List SV} {l : List CV} {i : Nat} {x : CV}, mapO f cs = some l → l[i]? = some x → ∃ s, cs[i]? = some s ∧ f s = some x
  | [], l, i, x, h, hx => by simp [mapO] at h; subst h; simp at hx
  | c :: cs, l, i, x, h, hx => by
    simp only [mapO] at h
    split at h
    · rename_i y ys hy hys
      injection h with h
      subst h
      cases i with
      | zero => simp at hx; subst hx; exact ⟨c, rfl, hy⟩
      | succ i => simpa using mapO_get hys (by simpa using hx)
    · cases h
theorem den_no_op : ∀ {cs : List CV} {vs : List Value} {i : Nat} {x : List CV}, Den w ok cs vs [] → cs[i]? = some (.op x) → False
  | [], vs, i, x, _, h => by simp at h
  | c :: cs, vs, i, x, hd, h => by
    generalize hf : ([] : List Nat) = f at hd
    cases i with
    | zero =>
      simp at h
      subst h
      cases hd
      simp at hf
    | succ i =>
      have h' : cs[i]? = some (.op x) := by simpa using h
      cases hd <;> first
        | (subst hf; exact den_no_op (by assumption) h')
        | (simp at hf; simp only [hf.2] at *; exact den_no_op (by assumption) h')
        | (simp at hf; done)
        | (have hf2 := List.append_eq_nil_iff.1 hf.symm; rw [hf2.2] at *; exact den_no_op (by assumption) h')
theorem keep_sound {w0 : World} {ok0 : Nat → Prop} {ρ0 : RM} {H0 : HM} {F0 : FM} (hB0 : ∀ i, H0 i = .dead ∨ BDen ρ0 w0 ok0 (H0 i) (ρ0 i) (F0 i)) (hB : ∀ i, H i = .dead ∨ BDen ρ w ok (H i) (ρ i) (F i)) {s : SV} {v : Value} {l : List CV}
    (h0 : TDen ρ0 w0 ok0 s v) (h1 : TDen ρ w ok s v) (hl : (lendS H s).map cellsS = some l) (hk : ∀ k o cs, s = .lp k o → H k = .cells cs → keepL cs (cellsB (H0 k)) = true)
    (hp : ∀ k o m, s = .lp k o → m ∈ (cellsB (H0 k)).flatMap lpI → ρ m = ρ0 m) : Keep w0 w v l := by
  rintro cells rfl b ty ty' arr arr' rfl hw0 hw i x hx
  cases s <;> simp only [lendS] at hl
  case c => cases hl
  case a => cases hl
  case clo => cases hl
  case any => cases hl
  case tup => cases hl
  case le => cases hl
  case ls => cases hl
  case mp => cases hl
  case m ss => cases h1 with | v h => cases h with | c h => cases h
  case lw k => cases h1 with | v h => cases h with | c h => cases h
  case lp k off =>
    obtain ⟨b0, e0, e1⟩ := T_lp h0
    obtain ⟨b1, e2, e3⟩ := T_lp h1
    simp only [Value.pointer.injEq, Option.some.injEq, Addr.mk.injEq, and_true] at e1 e3
    obtain ⟨rfl, rfl⟩ := e1
    obtain ⟨rfl, _⟩ := e3
    cases hH : H k with
    | cc sz cs =>
      simp only [hH, cond, Option.map_some, cellsS, Option.some.injEq, List.cons.injEq, CV.op.injEq, and_true] at hl
      subst hl
      obtain ⟨b2, ty2, arr2, q1, q2, _, q4, _⟩ := B_cc hB hH
      exact (den_no_op q4 hx).elim
    | cells cs =>
      simp only [hH, cond] at hl
      cases hm : mapO (lendI H) cs with
      | none => rw [hm] at hl; simp at hl
      | some l0 =>
        rw [hm] at hl
        simp only [Option.map_some, cellsS, Option.some.injEq, List.cons.injEq, CV.op.injEq, and_true] at hl
        subst hl
        obtain ⟨c, hc, hcx⟩ := mapO_get hm hx
        obtain ⟨b2, ty2, arr2, q1, q2, q3, q4, _⟩ := B_cells hB hH
        rw [e2] at q1
        simp only [Option.some.injEq, Value.pointer.injEq, Addr.mk.injEq, and_true] at q1
        subst q1
        rw [hw] at q2
        simp only [Option.some.injEq, Obj.cells.injEq] at q2
        obtain ⟨rfl, _⟩ := q2
        have hi : i < arr'.toList.length := by rw [← q3]; exact (List.getElem?_eq_some_iff.1 hc).1
        have hv := List.getElem?_eq_getElem hi
        have hcd := q4 i c _ hc hv
        have hlp : ∃ m o, c = .lp m o := by
          cases c with
          | lp m o => exact ⟨m, o, rfl⟩
          | c y =>
            exfalso
            revert hcd
            generalize arr'.toList[i] = u
            intro hcd
            cases hcd with
            | c hd =>
              cases y with
              | op is => cases hd
              | _ => simp [lendI, lendC, consC] at hcx
          | lw k2 =>
            exfalso
            simp only [lendI, lendC, consC] at hcx
            split at hcx
            · cases hcx
            · split at hcx <;> cases hcx
          | ls k2 a1 a2 a3 =>
            exfalso
            simp only [lendI, lendC, consC] at hcx
            split at hcx
            · rename_i sz' _ _
              cases hb : Nat.beq a1 sz' <;> rw [hb] at hcx <;> cases hcx
            · cases hcx
          | _ => simp [lendI, lendC, consC] at hcx
        obtain ⟨m, o, rfl⟩ := hlp
        have hg := keepL_get (hk k 0 cs rfl hH) hc
        obtain ⟨cs0, hH0⟩ : ∃ cs0, H0 k = .cells cs0 := by
          cases h : H0 k <;> rw [h] at hg <;> first | exact ⟨_, rfl⟩ | (simp [cellsB] at hg)
        rw [hH0] at hg
        obtain ⟨b3, ty3, arr3, p1, p2, p3, p4, _⟩ := B_cells hB0 hH0
        rw [e0] at p1
        simp only [Option.some.injEq, Value.pointer.injEq, Addr.mk.injEq, and_true] at p1
        subst p1
        rw [hw0] at p2
        simp only [Option.some.injEq, Obj.cells.injEq] at p2
        obtain ⟨rfl, _⟩ := p2
        have hi0 : i < arr.toList.length := by rw [← p3]; exact (List.getElem?_eq_some_iff.1 hg).1
        have hv0 := List.getElem?_eq_getElem hi0
        have hcd0 := p4 i _ _ hg hv0
        rw [hv, hv0]
        have hpm := hp k 0 m rfl (by rw [hH0]; exact List.mem_flatMap.2 ⟨_, List.mem_of_getElem? hg, by simp [lpI]⟩)
        generalize arr'.toList[i] = u at hcd
        generalize arr.toList[i] = u0 at hcd0
        cases hcd with
        | lp g1 =>
        cases hcd0 with
        | lp g2 =>
        rw [hpm, g2] at g1
        simp only [Option.some.injEq, Value.pointer.injEq, Addr.mk.injEq, and_true] at g1
        rw [g1]
    | bld t e s0 => simp only [hH, cond, Option.map_some, cellsS, Option.some.injEq, List.cons.injEq, and_true] at hl; cases hl
    | _ => simp only [hH] at hl; cases hl
theorem outQ_sound {w0 : World} (hB : ∀ i, H i = .dead ∨ BDen ρ w ok (H i) (ρ i) (F i)) : ∀ {ss : List SV} {os : List (Option (List CV))} {vs : List Value}, outQ H ss os → ss.length = vs.length → (∀ (j : Nat) s v, ss[j]? = some s → vs[j]? = some v → TDen ρ w ok s v) →
    (∀ (j : Nat) s v cs, ss[j]? = some s → vs[j]? = some v → os[j]? = some (some cs) → (lendS H s).map cellsS = some cs → Keep w0 w v cs) → OutL w0 w ok os vs ((outN H ss os).flatMap F)
  | ss, [], vs, _, _, _, _ => by
    have : outN H ss [] = [] := by cases ss <;> rfl
    rw [this]
    exact .nil
  | [], o :: os, vs, h, _, _, _ => h.elim
  | s :: ss, none :: os, vs, h, hl, hd, hk => by
    cases vs with
    | nil => simp at hl
    | cons v vs => exact .none (outQ_sound hB h (by simpa using hl) (fun j s v hs hv => hd (j + 1) s v hs hv) fun j s v cs hs hv ho hc => hk (j + 1) s v cs hs hv ho hc)
  | s :: ss, some c :: os, vs, h, hl, hd, hk => by
    cases vs with
    | nil => simp at hl
    | cons v vs =>
      have h0 := hd 0 s v rfl rfl
      have h2 := outQ_sound hB h.2 (by simpa using hl) (fun j s v hs hv => hd (j + 1) s v hs hv) fun j s v cs hs hv ho hc => hk (j + 1) s v cs hs hv ho hc
      have h3 : Den w ok c v.cells.toList ((lentS H s).flatMap F) := by
        have h4 := h.1
        cases hx : lendS H s with
        | none => rw [hx] at h4; cases h4
        | some x =>
          rw [hx] at h4
          simp only [Option.map_some, Option.some.injEq] at h4
          subst h4
          have h1 := lendS_sound hB (fun _ h => h) hx h0
          generalize (lentS H s).flatMap F = g at h1
          cases h1 with
          | v h =>
            obtain ⟨_, cc, cm, _⟩ := cells_of_T (TDen.v (h ρ))
            rcases lendS_form hx with ⟨y, rfl⟩ | ⟨cs, rfl⟩
            · exact cc y rfl
            · have hp := cm _ rfl
              rw [cells_map]
              exact (allC_sound (allC_map cs) hp.1 hp.2).1
          | o h => have := h.one; rw [one_cells (this v (by simp))]; exact h
          | m h => rw [cells_map]; simpa [Value.cells] using h
      have := OutL.some h3 (hk 0 s v c rfl rfl rfl h.1) h2
      simpa [outN] using this
end

section
variable {P : Program} {tbl : TT}
theorem enter {w : World} {ok : Nat → Prop} {args ss : List SV} {vs : List Value} {fs : List Nat} {bs : List (Nat × Blk)} {np nt : Nat} (hok : ∀ b, ok b → b < w.heap.size) (hO : AL w ok args vs fs) (hnd : fs.Nodup) (hfs : ∀ b ∈ fs, b < w.heap.size ∧ ¬ ok b)
    (ha : adoptAs args 0 = some (ss, bs, np)) (hn : args.length ≤ nt) : ∃ (pv : RM) (F : FM), (∀ i v, pv i = some v → i < np) ∧ ss.length = vs.length ∧ Free pv np ∧ (∀ (j : Nat) s v, ss[j]? = some s → vs[j]? = some v → VDen pv w ok s v) ∧
      St ⟨w, ok, (· ∈ fs), pv⟩ nt (T0 ss) (H0 bs) pv F { tmps := vs.toArray ++ Array.replicate (nt - vs.toArray.size) undef, defers := [] } w := by
  obtain ⟨L, g, a1, a2, a3, a4, a5⟩ := adoptAs_sound ha hO
  let Γ : Cx := ⟨w, ok, (· ∈ fs), entR L fun _ => none⟩
  have hnd' := a3.nodup
  have hR : ∀ e ∈ L, entR L (fun _ => none) e.nm = e.v := by
    intro e he
    rw [(ent_get hnd' he (fun _ => .dead) (fun _ => []) (fun _ => none)).2.2]
    obtain ⟨u, hu, _⟩ := a3.den e he
    simp [entV, hu]
  have hmem0 : Mem ⟨w, ok, (· ∈ fs), fun _ => none⟩ (fun _ => .dead) (fun _ => none) (fun _ => []) w :=
    ⟨fun _ => .dead, by simp, by simp, by simp, by simp, fun b hb => ⟨hok b hb, fun hf => (hfs b hf).2 hb⟩, fun _ _ _ => rfl, Nat.le_refl _, rfl, rfl, rfl, by simp⟩
  have hg : ∀ b ∈ g, b ∈ fs := fun b hb => a4.subset hb
  have hin : ∀ e ∈ L, ∀ b ∈ e.f, b ∈ fs := fun e he b hb => hg b (by rw [← a3.flat]; exact List.mem_flatten.2 ⟨e.f, List.mem_map.2 ⟨e, he, rfl⟩, hb⟩)
  have hF : ∀ i b, b ∈ entF L (fun _ => []) i → ∃ e ∈ L, e.nm = i ∧ b ∈ e.f := by
    intro i b hb
    by_cases hI : ∃ e ∈ L, e.nm = i
    · obtain ⟨e, he, rfl⟩ := hI
      rw [(ent_get hnd' he (fun _ => .dead) (fun _ => []) (fun _ => none)).2.1] at hb
      exact ⟨e, he, rfl, hb⟩
    · rw [(ent_not (fun e he h' => hI ⟨e, he, h'⟩) (fun _ => .dead) (fun _ => []) (fun _ => none)).2.1] at hb
      cases hb
  have hflat : ((L.map (·.f)).flatten).Nodup := by rw [a3.flat]; exact a4.nodup_iff.2 hnd
  have hokF : ∀ b, ok b → okOf Γ (entF L fun _ => []) w b := fun b hb => ⟨hok b hb, .inl hb, fun ⟨i, hi⟩ => by
    obtain ⟨e, he, _, hbe⟩ := hF i b hi
    exact (hfs b (hin e he b hbe)).2 hb⟩
  have hnone : ∀ i, (∀ e ∈ L, e.nm ≠ i) → entH L (fun _ => .dead) i = .dead ∧ entF L (fun _ => []) i = [] ∧ entR L (fun _ => none) i = none := fun i h => ent_not h _ _ _
  have hpv : ∀ i v, entR L (fun _ => none) i = some v → i < np := by
    intro i v hv
    by_cases hI : ∃ e ∈ L, e.nm = i
    · obtain ⟨e, he, rfl⟩ := hI
      have := a3.mem he
      omega
    · rw [(hnone i fun e he h' => hI ⟨e, he, h'⟩).2.2] at hv
      cases hv
  have hmem : Mem Γ (entH L fun _ => .dead) (entR L fun _ => none) (entF L fun _ => []) w := by
    refine ⟨fun i => ?_, fun i j b hi hj => ?_, fun i => ?_, fun i b hb => ?_, fun i b hb => ?_, fun b hb => ⟨hok b hb, fun hf => (hfs b hf).2 hb⟩, fun _ _ _ => rfl, Nat.le_refl _, rfl, rfl, rfl, fun i v hv => hv⟩
    · by_cases hI : ∃ e ∈ L, e.nm = i
      · obtain ⟨e, he, rfl⟩ := hI
        obtain ⟨h1, h2, _⟩ := ent_get hnd' he (fun _ => .dead) (fun _ => []) (fun _ => none)
        obtain ⟨u, hu, hd⟩ := a3.den e he
        rw [h1, h2, hR e he, hu]
        exact (hd _ hR).mono (fun _ _ => rfl) hokF (fun _ _ => rfl) (Ext.refl _)
      · obtain ⟨h1, h2, h3⟩ := hnone i fun e he h' => hI ⟨e, he, h'⟩
        rw [h1, h2]
        exact .dead
    · obtain ⟨e, he, rfl, hbe⟩ := hF i b hi
      obtain ⟨e', he', rfl, hbe'⟩ := hF j b hj
      exact flat_disj hflat hnd' he he' hbe hbe'
    · by_cases hI : ∃ e ∈ L, e.nm = i
      · obtain ⟨e, he, rfl⟩ := hI
        rw [(ent_get hnd' he (fun _ => .dead) (fun _ => []) (fun _ => none)).2.1]
        exact flat_each hflat he
      · rw [(hnone i fun e he h' => hI ⟨e, he, h'⟩).2.1]; simp
    · obtain ⟨e, he, rfl, hbe⟩ := hF i b hb
      exact (hfs b (hin e he b hbe)).1
    · obtain ⟨e, he, rfl, hbe⟩ := hF i b hb
      exact .inl (hin e he b hbe)
  obtain ⟨h5, h6⟩ := a5 _ hR
  have hlen : args.length = vs.length := hO.length
  refine ⟨entR L fun _ => none, entF L fun _ => [], fun i v hv => hpv i v hv, h5, fun i hi => ?_, fun j s v hs hv => ?_, ?_⟩
  · cases hv : entR L (fun _ => none) i with
    | none => rfl
    | some v => have := hpv i v hv; omega
  · exact h6 j s v hs hv
  · refine ⟨?_, rfl, by simp; omega, fun i => ?_⟩
    · rw [entH_ws, a1] at hmem
      exact hmem
    · unfold T0
      cases ha : ss[i]? with
      | none => exact .any
      | some s =>
        have hi : i < vs.length := by rw [← h5]; exact (List.getElem?_eq_some_iff.1 ha).1
        have hvi : vs[i]? = some vs[i] := List.getElem?_eq_getElem hi
        have : (vs.toArray ++ Array.replicate (nt - vs.toArray.size) undef).getD i undef = vs[i] := by
          rw [Array.getD_eq_getD_getElem?, Array.getElem?_append_left (by simpa using hi)]
          simp [hi]
        simp only []
        rw [this]
        exact .v ((h6 i s _ ha hvi).mono (fun _ _ => rfl) hokF (Ext.refl _))

theorem okX_of {w w' : World} {ok : Nat → Prop} {fs : List Nat} {pv : RM} {F : FM} {fp : List Nat} {ks : List Nat} (hfp : fp = ks.flatMap F) : ∀ b, okOf ⟨w, ok, (· ∈ fs), pv⟩ F w' b → okX ok fs fp w w' b := by
  rintro b ⟨h1, h2, h3⟩
  refine ⟨h1, h2, fun hb => ?_⟩
  rw [hfp] at hb
  obtain ⟨i, _, hi⟩ := List.mem_flatMap.1 hb
  exact h3 ⟨i, hi⟩
theorem grown_of {w w' : World} {ok : Nat → Prop} {fs : List Nat} {pv : RM} {H : HM} {ρ : RM} {F : FM} (h : Mem ⟨w, ok, (· ∈ fs), pv⟩ H ρ F w') : Grown fs w w' :=
  ⟨h.os, h.tape, h.output, h.size, fun b hb hf => h.frame b hb hf⟩
theorem out_val {l : List SV} {vs : List Value} {ρ : RM} {w : World} {ok : Nat → Prop} (hl : l.length = vs.length) (hv : ∀ (j : Nat) s v, l[j]? = some s → vs[j]? = some v → TDen ρ w ok s v) (hV : (∃ x, l = [x]) ∨ ∀ (j : Nat) s v, l[j]? = some s → vs[j]? = some v → VDen ρ w ok s v) :
    TDen ρ w ok (outR l) (if h : vs.toArray.size = 1 then vs.toArray[0] else .tuple vs.toArray) := by
  match l, vs, hl with
  | [], [], _ => exact .tup (vs := []) rfl (by simp)
  | [x], [v], _ => exact hv 0 x v rfl rfl
  | x :: y :: l, v :: u :: vs, hl' =>
    rcases hV with ⟨z, hz⟩ | hV
    · simp at hz
    · have := TDen.tup (ρ := ρ) (w := w) (ok := ok) hl' hV
      simpa [outR] using this

def pinN : List Nat → Nat → Nat
  | [], m => m
  | x :: xs, m => pinN xs (Nat.lor m (Nat.pow 2 x))
def pinC : List Nat → Nat → (Nat → Prop) → Prop
  | [], m, K => K m
  | x :: xs, m, K => lit x fun x => lit (Nat.lor m (Nat.pow 2 x)) fun m => pinC xs m K
theorem pinC_eq : ∀ (l : List Nat) (m : Nat) (K : Nat → Prop), pinC l m K = K (pinN l m)
  | [], _, _ => rfl
  | x :: xs, m, K => by simp only [pinC, lit_eq, pinN]; exact pinC_eq xs _ K
theorem pinN_bit {i : Nat} : ∀ {l : List Nat} {m : Nat}, (i ∈ l ∨ m.testBit i = true) → (pinN l m).testBit i = true
  | [], m, h => by
    rcases h with h | h
    · cases h
    · exact h
  | x :: xs, m, h => by
    refine pinN_bit (l := xs) ?_
    rcases h with h | h
    · rcases List.mem_cons.1 h with rfl | h
      · right
        rw [lor_bit]
        have : (Nat.pow 2 i).testBit i = true := Nat.testBit_two_pow_self
        rw [this, Bool.or_true]
      · exact .inl h
    · right
      rw [lor_bit, h]; rfl
def pinM (ss : List SV) (bs : List (Nat × Blk)) : Nat := pinN (pinL ss bs) 0
def cutP (l : List Nat) (ρ : RM) : RM := fun i => if i ∈ l then ρ i else none
theorem cutP_some {l : List Nat} {ρ : RM} {i : Nat} {v : Value} (h : cutP l ρ i = some v) : i ∈ l ∧ ρ i = some v := by
  unfold cutP at h
  split at h
  · exact ⟨by assumption, h⟩
  · cases h
theorem cutP_in {l : List Nat} {ρ : RM} {i : Nat} (h : i ∈ l) : cutP l ρ i = ρ i := if_pos h
theorem CDen.cutP {ρ : RM} {w : World} {ok : Nat → Prop} {s : SV} {v : Value} {l : List Nat} (h : CDen ρ w ok s v) (hl : ∀ i ∈ refC s, i ∈ l) : CDen (cutP l ρ) w ok s v := by
  cases h with
  | c h => exact .c h
  | lp h => exact .lp (by rw [cutP_in (hl _ (by simp [refC]))]; exact h)
  | le h => exact .le (by rw [cutP_in (hl _ (by simp [refC]))]; exact h)
  | lw h => exact .lw (by rw [cutP_in (hl _ (by simp [refC]))]; exact h)
  | ls h h1 h2 h3 h4 => exact .ls (by rw [cutP_in (hl _ (by simp [refC]))]; exact h) h1 h2 h3 h4
  | mp h => exact .mp (by rw [cutP_in (hl _ (by simp [refC]))]; exact h)
theorem VDen.cutP {ρ : RM} {w : World} {ok : Nat → Prop} {s : SV} {v : Value} {l : List Nat} (h : VDen ρ w ok s v) (hl : ∀ i ∈ refV s, i ∈ l) : VDen (cutP l ρ) w ok s v := by
  cases h with
  | c h =>
    refine .c (h.cutP fun i hi => hl i ?_)
    cases h <;> first | exact hi | (simp [refC] at hi)
  | a h1 h => exact .a h1 h
  | m h1 h => exact .m h1 fun j a v ha hv => (h j a v ha hv).cutP fun i hi => hl i (List.mem_flatMap.2 ⟨a, List.mem_of_getElem? ha, hi⟩)
  | clo h1 h => exact .clo h1 fun j a v ha hv => (h j a v ha hv).cutP fun i hi => hl i (List.mem_flatMap.2 ⟨a, List.mem_of_getElem? ha, hi⟩)
theorem enterP {w : World} {ok : Nat → Prop} {args ss : List SV} {vs : List Value} {fs : List Nat} {bs : List (Nat × Blk)} {np nt : Nat} (hok : ∀ b, ok b → b < w.heap.size) (hO : AL w ok args vs fs) (hnd : fs.Nodup) (hfs : ∀ b ∈ fs, b < w.heap.size ∧ ¬ ok b)
    (ha : adoptAs args 0 = some (ss, bs, np)) (hn : args.length ≤ nt) : ∃ (pv ρ0 : RM) (F : FM), (∀ m ∈ pinL ss bs, pv m = ρ0 m) ∧ Ext pv ρ0 ∧ PinLt ⟨w, ok, (· ∈ fs), pv⟩ (pinM ss bs) ∧ ss.length = vs.length ∧ Free ρ0 np ∧ (∀ (j : Nat) s v, ss[j]? = some s → vs[j]? = some v → VDen pv w ok s v) ∧
      St ⟨w, ok, (· ∈ fs), pv⟩ nt (T0 ss) (H0 bs) ρ0 F { tmps := vs.toArray ++ Array.replicate (nt - vs.toArray.size) undef, defers := [] } w := by
  obtain ⟨pv, F, hpin, hlen, hfree, hargs, hS⟩ := enter hok hO hnd hfs ha hn
  refine ⟨Go.KA.cutP (pinL ss bs) pv, pv, F, fun m hm => cutP_in hm, fun i v hv => (cutP_some hv).2, fun i v hv => ?_, hlen, hfree, fun j s v hs hv => (hargs j s v hs hv).cutP fun i hi => List.mem_append_left _ (List.mem_flatMap.2 ⟨s, List.mem_of_getElem? hs, hi⟩), ?_⟩
  · unfold pinM
    rw [bitB_eq]
    exact pinN_bit (.inl (cutP_some hv).1)
  · obtain ⟨m, h1, h2, h3⟩ := hS
    exact ⟨⟨m.blocks, m.disj, m.nodup, m.lt, m.src, m.inlt, m.frame, m.size, m.os, m.tape, m.output, fun i v hv => m.pin i v (cutP_some hv).2⟩, h1, h2, h3⟩

theorem updL_mem : ∀ {bs : List (Nat × Blk)} {H : HM} {k : Nat} {b : Blk}, updL bs H k = b → (k, b) ∈ bs ∨ H k = b
  | [], H, k, b, h => .inr h
  | (j, c) :: r, H, k, b, h => by
    rcases updL_mem (bs := r) h with h | h
    · exact .inl (by simp [h])
    · unfold updH at h
      cases hb : Nat.beq k j with
      | true =>
        have := Nat.eq_of_beq_eq_true hb
        subst this
        rw [hb] at h
        simp only [cond] at h
        subst h
        exact .inl (by simp)
      | false =>
        rw [hb] at h
        exact .inr h
theorem H0_mem {bs : List (Nat × Blk)} {k : Nat} {b : Blk} (h : H0 bs k = b) (hb : b ≠ .dead) : (k, b) ∈ bs := by
  rcases updL_mem h with h | h
  · exact h
  · exact absurd h.symm hb
theorem callE_of_vcK (htb : TblOk P tbl) (hmix : P.follows .mixedOrders = true) {f : Nat} {fn : Func} {c : Code} {args ss : List SV} {α : Type} {φ : α → Prop} {outs : α → List (Option (List CV))} {r : α → SV} {bs : List (Nat × Blk)} {np : Nat} {ann : Nat → Option Inv} {gh : Nat → Bool} (hf : P.funcs[f]? = some fn) (hname : (fn.name == "runtime.NumGoroutine") = false)
    (hb : fn.body = some c) (hn : Nat.ble args.length fn.ntmps = true) (ha : adoptAs args 0 = some (ss, bs, np)) {Kf : Nat → X → TM → HM → Nat → Prop}
    (hK : ∀ {Γ : Cx} {pm nt : Nat} {ρ : RM} {F : FM} {a : Act} {w : World} {T : TM} {H : HM} {n : Nat} {e : X}, PinLt Γ pm → Kf pm e T H n → St Γ nt T H ρ F a w → Free ρ n → ∃ T' H' ρ' F' x, φ x ∧ retX tbl fn.results.toList (H0 bs) ss (outs x) (r x) e T' H' n ∧ St Γ nt T' H' ρ' F' a w ∧ Free ρ' n)
    (h : pinC (pinL ss bs) 0 fun pm => vcR P tbl fn.ntmps pm ann gh c (Kf pm) (T0 ss) (H0 bs) np) : CallE P f args φ outs r := by
  refine ⟨⟨fn, hf, hname, by rw [hb]; rfl⟩, fun w ok vs fs hok hO hnd hfs => ?_⟩
  refine calls_of_wp hf hb ?_
  obtain ⟨pv, ρ0, F0, hpv, hpe, hpin, hlen, hfree, hargs, hS⟩ := enterP hok hO hnd hfs ha (Nat.le_of_ble_eq_true hn)
  rw [pinC_eq, vcR_eq] at h
  refine vc_sound htb hmix hpin c h ?_ hS hfree
  intro e T H n ρ F a w' hk hs hf'
  obtain ⟨T, H, ρ, F, x, hx, hk, hs, hf'⟩ := hK hpin hk hs hf'
  have fin : vcRes tbl fn.results.toList T H (fun l => cond (nodupN (usesT H (outR l) ++ outN H ss (outs x)) && keepB (H0 bs) H ss (outs x)) (match consT H (outR l) with | some s => RetX (s = r x) (outQ H ss (outs x)) | none => False) False) →
      a.defers = [] ∧ ∃ v, (results fn a.tmps).run P w' = .ok v w' ∧ ∃ x, φ x ∧ ∃ v' fr fo, Ending.returned v = .returned v' ∧ Grown fs w w' ∧ (fr ++ fo).Nodup ∧ (∀ b ∈ fr ++ fo, (b ∈ fs ∨ w.heap.size ≤ b) ∧ b < w'.heap.size) ∧
        OT w' (okX ok fs (fr ++ fo) w w') (r x) v' fr ∧ OutL w w' (okX ok fs (fr ++ fo) w w') (outs x) vs fo := by
    intro hk
    obtain ⟨l, vs', hK, hrun, hl', hv'⟩ := run_results htb hs hk
    obtain ⟨hnn, hK⟩ := of_cond hK
    rw [Bool.and_eq_true] at hnn
    obtain ⟨hnn, hkb⟩ := hnn
    split at hK
    case h_2 => exact hK.elim
    rename_i s hcons
    obtain ⟨hsr, hout⟩ := hK
    rw [hsr] at hcons
    have hB := hs.mem.hb (LeH.refl H)
    have hV : (∃ x, l = [x]) ∨ ∀ (j : Nat) s v, l[j]? = some s → vs'[j]? = some v → VDen ρ w' (okOf ⟨w, ok, (· ∈ fs), pv⟩ F w') s v := by
      match l with
      | [] => right; simp
      | [x] => exact .inl ⟨x, rfl⟩
      | x :: y :: l =>
        right
        intro j s v hs0 hv0
        have h3 := hv' j s v hs0 hv0
        have hsome : ∃ s1, consR H s = some s1 := by
          simp only [outR, consT] at hcons
          split at hcons
          · rename_i l0 hl0
            have key : ∀ (ss ss' : List SV), mapOS (consR H) ss = some ss' → ∀ (j : Nat) s0, ss[j]? = some s0 → ∃ s1, consR H s0 = some s1 := by
              intro ss
              induction ss with
              | nil => intro _ _ j s0 h; simp at h
              | cons a as ih =>
                intro ss' hm' j s0 hj
                simp only [mapOS] at hm'
                split at hm'
                · rename_i y0 ys hy hys
                  cases j with
                  | zero => simp at hj; subst hj; exact ⟨_, hy⟩
                  | succ j => exact ih ys hys j s0 (by simpa using hj)
                · cases hm'
            exact key _ _ hl0 j s hs0
          · cases hcons
        obtain ⟨s1, hs1⟩ := hsome
        refine h3.vc ?_ ?_
        · rintro rfl
          simp [consR] at hs1
        · rintro zs rfl
          simp [consR] at hs1
    have hT := out_val hl' hv' hV
    have h1 := consT_sound hB hcons hT
    have hlen' : ss.length = vs.length := hlen
    have hT1 : ∀ (j : Nat) s v, ss[j]? = some s → vs[j]? = some v → TDen ρ w' (okOf ⟨w, ok, (· ∈ fs), pv⟩ F w') s v := fun j s v hs0 hv0 => .v ((hargs j s v hs0 hv0).mono (fun b hb => hs.mem.frame b (hs.mem.inlt b hb).1 (hs.mem.inlt b hb).2) (fun b hb => ⟨Nat.lt_of_lt_of_le (hs.mem.inlt b hb).1 hs.mem.size, .inl hb, fun ⟨i, hi⟩ => by
      rcases hs.mem.src i b hi with h1 | h1
      · exact (hs.mem.inlt b hb).2 h1
      · have := (hs.mem.inlt b hb).1; omega⟩) fun i u hu => hs.mem.pin i u hu)
    have hB0 := hS.mem.hb (LeH.refl (H0 bs))
    have h2 := outQ_sound (w0 := w) (vs := vs) hB hout hlen' hT1 fun j s v cs hs0 hv0 ho hc => keep_sound hB0 hB (.v ((hargs j s v hs0 hv0).mono (fun _ _ => rfl) (fun b hb => ⟨(hS.mem.inlt b hb).1, .inl hb, fun ⟨i, hi⟩ => by
        rcases hS.mem.src i b hi with h1 | h1
        · exact (hS.mem.inlt b hb).2 h1
        · exact absurd h1 (Nat.not_le.2 (hS.mem.inlt b hb).1)⟩) hpe)) (hT1 j s v hs0 hv0) hc
      (fun k o cs e hH => keepB_get hkb (e ▸ hs0) ho hH) fun k o m e hm => by
        obtain ⟨c, hc1, hc2⟩ := List.mem_flatMap.1 hm
        have hbs : ∀ cs, H0 bs k = .cells cs → (k, Blk.cells cs) ∈ bs := fun cs h => H0_mem h (by simp)
        cases hH : H0 bs k <;> rw [hH] at hc1 <;> simp only [cellsB, List.not_mem_nil] at hc1
        rename_i cs0
        have hmp : m ∈ pinL ss bs := List.mem_append_right _ (List.mem_flatMap.2 ⟨_, hbs cs0 hH, by rw [hH] at hm; exact hm⟩)
        have hm0 := hpv m hmp
        obtain ⟨b3, ty3, arr3, p1, p2, p3, p4, _⟩ := B_cells hB0 hH
        obtain ⟨i, hi, hci⟩ := List.mem_iff_getElem.1 hc1
        have hi0 : i < arr3.toList.length := by rw [← p3]; exact hi
        have hcd0 := p4 i c _ (by rw [List.getElem?_eq_getElem hi, hci]) (List.getElem?_eq_getElem hi0)
        generalize arr3.toList[i] = u0 at hcd0
        cases c <;> simp only [lpI, List.mem_singleton, List.not_mem_nil] at hc2
        subst hc2
        cases hcd0 with
        | lp g2 => rw [g2, hs.mem.pin m _ (hm0.trans g2)]
    have hnod := flat_nodup hs.mem (nodupN_iff hnn)
    rw [List.flatMap_append] at hnod
    refine ⟨hs.defers, _, hrun, x, hx, _, _, _, rfl, grown_of hs.mem, hnod, fun b hb => ?_, h1.mono' (okX_of (ks := usesT H (outR l) ++ outN H ss (outs x)) (by rw [List.flatMap_append])), h2.mono (okX_of (ks := usesT H (outR l) ++ outN H ss (outs x)) (by rw [List.flatMap_append]))⟩
    rw [← List.flatMap_append] at hb
    obtain ⟨i, _, hi⟩ := List.mem_flatMap.1 hb
    refine ⟨?_, hs.mem.lt i b hi⟩
    exact hs.mem.src i b hi
  cases e with
  | normal => exact fin hk
  | ret => exact fin hk
  | exit i => exact hk.elim
theorem callX_of_vcK (htb : TblOk P tbl) (hmix : P.follows .mixedOrders = true) {f : Nat} {fn : Func} {c : Code} {args ss : List SV} {outs : List (Option (List CV))} {r : SV} {bs : List (Nat × Blk)} {np : Nat} {ann : Nat → Option Inv} {gh : Nat → Bool} (hf : P.funcs[f]? = some fn) (hname : (fn.name == "runtime.NumGoroutine") = false)
    (hb : fn.body = some c) (hn : Nat.ble args.length fn.ntmps = true) (ha : adoptAs args 0 = some (ss, bs, np)) {Kf : Nat → X → TM → HM → Nat → Prop}
    (hK : ∀ {Γ : Cx} {pm nt : Nat} {ρ : RM} {F : FM} {a : Act} {w : World} {T : TM} {H : HM} {n : Nat} {e : X}, PinLt Γ pm → Kf pm e T H n → St Γ nt T H ρ F a w → Free ρ n → ∃ T' H' ρ' F', retX tbl fn.results.toList (H0 bs) ss outs r e T' H' n ∧ St Γ nt T' H' ρ' F' a w ∧ Free ρ' n)
    (h : pinC (pinL ss bs) 0 fun pm => vcR P tbl fn.ntmps pm ann gh c (Kf pm) (T0 ss) (H0 bs) np) : CallX P f args outs r :=
  CallE.toX (φ := fun _ : Unit => True) (callE_of_vcK htb hmix hf hname hb hn ha (outs := fun _ => outs) (r := fun _ => r) (fun hpin hk hs hf => by
    obtain ⟨T', H', ρ', F', h1, h2, h3⟩ := hK hpin hk hs hf
    exact ⟨T', H', ρ', F', (), trivial, h1, h2, h3⟩) h)
def retE {α : Type} (tbl : TT) (rs : List ResultVar) (H0 : HM) (ss : List SV) (φ : α → Prop) (outs : α → List (Option (List CV))) (r : α → SV) (np : Nat) : X → TM → HM → Nat → Prop
  | .exit _, _, _, _ => False
  | e, T, H, n => Gh np n T H fun T H => ∃ x, φ x ∧ retX tbl rs H0 ss (outs x) (r x) e T H n
theorem callE_of_vc (htb : TblOk P tbl) (hmix : P.follows .mixedOrders = true) {f : Nat} {fn : Func} {c : Code} {args ss : List SV} {α : Type} {φ : α → Prop} {outs : α → List (Option (List CV))} {r : α → SV} {bs : List (Nat × Blk)} {np : Nat} {ann : Nat → Option Inv} {gh : Nat → Bool} (hf : P.funcs[f]? = some fn) (hname : (fn.name == "runtime.NumGoroutine") = false)
    (hb : fn.body = some c) (hn : Nat.ble args.length fn.ntmps = true) (ha : adoptAs args 0 = some (ss, bs, np)) (h : pinC (pinL ss bs) 0 fun pm => vcR P tbl fn.ntmps pm ann gh c (retE tbl fn.results.toList (H0 bs) ss φ outs r pm) (T0 ss) (H0 bs) np) : CallE P f args φ outs r := callE_of_vcK htb hmix hf hname hb hn ha (Kf := fun pm => retE tbl fn.results.toList (H0 bs) ss φ outs r pm) (fun {Γ pm nt ρ F a w T H n e} hpin hk hs hf => by
  cases e with
  | exit i => exact hk.elim
  | normal =>
    obtain ⟨T', H', ρ', F', ⟨x, hx, k1⟩, k2, k3⟩ := Gh_sound hpin hk hs hf
    exact ⟨T', H', ρ', F', x, hx, k1, k2, k3⟩
  | ret =>
    obtain ⟨T', H', ρ', F', ⟨x, hx, k1⟩, k2, k3⟩ := Gh_sound hpin hk hs hf
    exact ⟨T', H', ρ', F', x, hx, k1, k2, k3⟩) h
def retXG (tbl : TT) (rs : List ResultVar) (H0 : HM) (ss : List SV) (outs : List (Option (List CV))) (r : SV) (np : Nat) : X → TM → HM → Nat → Prop
  | .exit _, _, _, _ => False
  | e, T, H, n => Gh np n T H fun T H => retX tbl rs H0 ss outs r e T H n
theorem callX_of_vc (htb : TblOk P tbl) (hmix : P.follows .mixedOrders = true) {f : Nat} {fn : Func} {c : Code} {args ss : List SV} {outs : List (Option (List CV))} {r : SV} {bs : List (Nat × Blk)} {np : Nat} {ann : Nat → Option Inv} {gh : Nat → Bool} (hf : P.funcs[f]? = some fn) (hname : (fn.name == "runtime.NumGoroutine") = false)
    (hb : fn.body = some c) (hn : Nat.ble args.length fn.ntmps = true) (ha : adoptAs args 0 = some (ss, bs, np)) (h : pinC (pinL ss bs) 0 fun pm => vcR P tbl fn.ntmps pm ann gh c (retX tbl fn.results.toList (H0 bs) ss outs r) (T0 ss) (H0 bs) np) : CallX P f args outs r := callX_of_vcK htb hmix hf hname hb hn ha (Kf := fun _ => retX tbl fn.results.toList (H0 bs) ss outs r) (fun _ hk hs hf => ⟨_, _, _, _, hk, hs, hf⟩) h
theorem callF_of_vc (htb : TblOk P tbl) (hmix : P.follows .mixedOrders = true) {f : Nat} {fn : Func} {c : Code} {args ss : List SV} {r : SV} {bs : List (Nat × Blk)} {np : Nat} {ann : Nat → Option Inv} {gh : Nat → Bool} (hf : P.funcs[f]? = some fn) (hname : (fn.name == "runtime.NumGoroutine") = false)
    (hb : fn.body = some c) (hn : Nat.ble args.length fn.ntmps = true) (ha : adoptAs args 0 = some (ss, bs, np)) (h : pinC (pinL ss bs) 0 fun pm => vcR P tbl fn.ntmps pm ann gh c (retF tbl fn.results.toList r) (T0 ss) (H0 bs) np) : CallF P f args r := by
  refine ⟨⟨fn, hf, hname, by rw [hb]; rfl⟩, fun w ok vs fs hok hO hnd hfs => ?_⟩
  refine calls_of_wp hf hb ?_
  obtain ⟨pv, ρ0, F0, hpv, hpe, hpin, hlen, hfree, hargs, hS⟩ := enterP hok hO hnd hfs ha (Nat.le_of_ble_eq_true hn)
  rw [pinC_eq, vcR_eq] at h
  refine vc_sound htb hmix hpin c h ?_ hS hfree
  intro e T H n ρ F a w' hk hs hf'
  have fin : vcRes tbl fn.results.toList T H (fun l => match viewS H (outR l) with | some s => Done (normS s = r) | none => False) →
      a.defers = [] ∧ ∃ v, (results fn a.tmps).run P w' = .ok v w' ∧ ∃ v' fr fo, Ending.returned v = .returned v' ∧ Grown fs w w' ∧ (fr ++ fo).Nodup ∧ (∀ b ∈ fr ++ fo, (b ∈ fs ∨ w.heap.size ≤ b) ∧ b < w'.heap.size) ∧
        OT w' (okX ok fs (fr ++ fo) w w') r v' fr ∧ OutL w w' (okX ok fs (fr ++ fo) w w') [] vs fo := by
    intro hk
    obtain ⟨l, vs', hK, hrun, hl', hv'⟩ := run_results htb hs hk
    split at hK
    case h_2 => exact hK.elim
    rename_i s hview
    have := hK.h
    subst this
    have hB := hs.mem.hb (LeH.refl H)
    have hokv : ∀ b, okOf ⟨w, ok, (· ∈ fs), pv⟩ F w' b → okX ok fs ([] ++ []) w w' b := fun b hb => ⟨hb.1, hb.2.1, by simp⟩
    have hF : ∀ i, H i ≠ .dead → ∀ b ∈ F i, okX ok fs ([] ++ []) w w' b := fun i _ b hb => ⟨hs.mem.lt i b hb, .inr (hs.mem.src i b hb), by simp⟩
    refine ⟨hs.defers, _, hrun, _, [], [], rfl, grown_of hs.mem, by simp, by simp, norm_OT ?_, .nil⟩
    have hV : ∀ {x s : SV} {v : Value}, viewV H x = some s → TDen ρ w' (okOf ⟨w, ok, (· ∈ fs), pv⟩ F w') x v → ODen w' (okX ok fs ([] ++ []) w w') s v [] := fun hx hT => .v (viewV_sound hB hokv hF hx (T_to_V hx hT))
    match l, vs', hl' with
    | [], [], _ =>
      simp only [outR, viewS, mapOS, Option.some.injEq] at hview
      subst hview
      exact .tup (vs := []) .nil
    | [x], [v], _ =>
      have h0 := hv' 0 x v rfl rfl
      simp only [outR] at hview
      unfold viewS at hview
      split at hview
      · rename_i zs
        split at hview
        · rename_i l0 hl0
          injection hview with hview
          subst hview
          cases h0 with
          | v h0 => cases h0 with | c h0 => cases h0
          | tup hlen0 hh => exact .tup (viewOS_sound (Hv := H) hB hokv hF hl0 hlen0 hh)
        · cases hview
      · exact .v (hV hview h0)
    | x :: y :: l, v :: u :: vs', hl' =>
      simp only [outR, viewS] at hview
      split at hview
      · rename_i l0 hl0
        injection hview with hview
        subst hview
        have := viewOS_sound (Hv := H) hB hokv hF hl0 hl' fun j s v hs0 hv0 => by
          have h3 := hv' j s v hs0 hv0
          have hsome : ∃ s1, viewV H s = some s1 := by
            have key : ∀ (ss ss' : List SV), mapOS (viewV H) ss = some ss' → ∀ (j : Nat) s0, ss[j]? = some s0 → ∃ s1, viewV H s0 = some s1 := by
              intro ss
              induction ss with
              | nil => intro _ _ j s0 h; simp at h
              | cons a as ih =>
                intro ss' hm' j s0 hj
                simp only [mapOS] at hm'
                split at hm'
                · rename_i y0 ys hy hys
                  cases j with
                  | zero => simp at hj; subst hj; exact ⟨_, hy⟩
                  | succ j => exact ih ys hys j s0 (by simpa using hj)
                · cases hm'
            exact key _ _ hl0 j s hs0
          obtain ⟨s1, hs1⟩ := hsome
          exact T_to_V hs1 h3
        have h4 := OT.tup this
        simpa using h4
      · cases hview
  cases e with
  | normal => exact fin hk
  | ret => exact fin hk
  | exit i => exact hk.elim
end
end Go.KA
