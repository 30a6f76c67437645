/- Part of a proof engine for functions of the given program: what an operation, a loop and a call compute, symbolically. No conditions. -/
import Derived.Test.YtaajacnceocpoaaGreatEngM
namespace Go.KA
open Go Go.RowKit

/-! ### Operations -/
def argS (tbl : TT) (ty : Nat) (s : SV) : SV :=
  match s with
  | .c (.val (.slice none 0 0)) => match tbl.find ty with
    | some i => match i.elem with
      | some (_, esz, _) => .c (.ro esz [])
      | none => s
    | none => s
  | .c (.cb b) => .c (.val (.bool b))
  | s => s
def argsS (tbl : TT) (T : TM) : List Operand → List Nat → List SV
  | x :: xs, t :: ts => argS tbl t (ev T x) :: argsS tbl T xs ts
  | x :: xs, [] => ev T x :: argsS tbl T xs []
  | [], _ => []
def eCall (d : Bool) (P : Program) (tbl : TT) (c : Call) (T : TM) (H : HM) (n : Nat) (K : Eff → Prop) : Prop :=
  match c.callee with
  | .builtin .len => match c.args.toList, c.argTypes.toList with
    | [x], [t] =>
      match ev T x with
      | .c (.val (.string s)) => match tbl.find t with | some i => cond i.isS (qLen d (.c (.val (.string s))) H fun sv => K (.q sv)) False | none => False
      | sv => match tbl.find t with | some i => cond i.elem.isSome (qLen d sv H fun sv => K (.q sv)) False | none => False
    | _, _ => False
  | .builtin .append => match c.args.toList, c.argTypes.toList with
    | [s, x], [t, t'] => cond (Nat.beq t t') (eAppend d tbl t (ev T s) (ev T x) H n K) False
    | _, _ => False
  | .value f => match ev T f with
    | .clo k caps => CallN (d := d) P k (argsS tbl T c.args.toList c.argTypes.toList ++ caps) H n K
    | _ => False
  | _ => False
def eFunc (k : Nat) (caps : List SV) (K : Eff → Prop) : Prop := cond (caps.all isOne) (K (.q (.clo k caps))) False
def opE (d : Bool) (P : Program) (tbl : TT) (op : Op) (oty : Nat) (T : TM) (H : HM) (n : Nat) (K : Eff → Prop) : Prop :=
  match op with
  | .move x => eMove tbl oty (ev T x) n K
  | .assign x => eMove tbl oty (ev T x) n K
  | .pick c a b => qPick (ev T c) (ev T a) (ev T b) fun sv => K (.q sv)
  | .alloc t => eAlloc tbl t n K
  | .box _ x => eBox (ev T x) n K
  | .build t ps => eBuild tbl t (ps.toList.map fun p => (p.1, ev T p.2)) n K
  | .buildSlice t l ps => eBuildSlice tbl t l (ps.toList.map fun p => (p.1, ev T p.2)) H n K
  | .load t x => eLoad d tbl t (ev T x) H n K
  | .store t x y => eStore tbl t (ev T x) (ev T y) H K
  | .nilCheck x => qNil (ev T x) fun sv => K (.q sv)
  | .binOp op t x y _ => qBinN d tbl op t (ev T x) (ev T y) fun sv => K (.q sv)
  | .unOp op _ x => qUn op (ev T x) fun sv => K (.q sv)
  | .convert s t x => cond ((tbl.find s).any fun i => i.ik.isSome) (qConv tbl t (ev T x) fun sv => K (.q sv)) (qBytes tbl s t (ev T x) H fun sv => K (.q sv))
  | .makeFunc fn first caps => match fn, first.toList with
    | .func k, [] => eFunc k (caps.toList.map (ev T)) K
    | _, _ => False
  | .makeSlice t l c => eMakeSlice tbl t (ev T l) (ev T c) n K
  | .slice t x lo hi mx => match mx with
    | none => qSlice tbl t (ev T x) (lo.map (ev T)) (hi.map (ev T)) H fun sv => K (.q sv)
    | some _ => False
  | .fieldAddr s x f => qField tbl s (ev T x) f fun sv => K (.q sv)
  | .indexAddr t x i => qIndexAddr tbl t (ev T x) (ev T i) H fun sv => K (.q sv)
  | .index t x i => match tbl.find t with | some j => cond j.isS (qIndex (ev T x) (ev T i) fun sv => K (.q sv)) False | none => False
  | .extract x i => qExtract (ev T x) i fun sv => K (.q sv)
  | .makeMap t r => match r with | none => eMakeMap tbl t n K | some _ => False
  | .lookup t x k ok => qLookup tbl t (ev T x) (ev T k) ok H fun sv => K (.q sv)
  | .mapUpdate t x k v => eMapUpdate tbl t (ev T x) (ev T k) (ev T v) H K
  | .call c => eCall d P tbl c T H n K
  | _ => False

section
variable {P : Program} {tbl : TT} {Γ : Cx} {nt : Nat} {T : TM} {H Hm : HM} {ρ : RM} {F : FM} {a : Act} {w : World}

theorem CallN_sound {d : Bool} (hm : Mem Γ H ρ F w) (hle : LeH Hm H) {f n : Nat} {args : List SV} {vs : List Value} {K : Eff → Prop} (h : CallN (d := d) P f args Hm n K) (hfr : Fresh ρ n K) (hl : args.length = vs.length)
    (hd : ∀ (j : Nat) s v, args[j]? = some s → vs[j]? = some v → TDen ρ w (okOf Γ F w) s v) : FnOk P f ∧ Calls P f vs.toArray w (CallPost Γ H ρ F w n K) := by
  have h0 : lentL Hm [] args = [] := by cases args <;> rfl
  cases h with
  | pure args' r hv h hs E he k =>
    refine call_core hm hle hv h (by rw [h0]; simp) ?_ he k hfr hl hd
    cases hc : closedA [] args with
    | true => exact .inl rfl
    | false => rw [hc] at hs; exact .inr ⟨scal_pureT (by simpa using hs), trivial⟩
  | own args' r hv h hp E he k => exact call_core hm hle hv h (by rw [h0]; simp) (.inr ⟨hp, trivial⟩) he k hfr hl hd
  | gen md args' outs r hv h hn hc E he k => exact call_core hm hle hv h (nodupN_iff hn) (.inl hc) he k hfr hl hd
  | pug md args' outs r hv h hn hp E he k => exact call_core hm hle hv h (nodupN_iff hn) (.inr hp) he k hfr hl hd
  | ex hd' md args' φ outs r hv h hn hc k =>
    refine call_coreE hm hle hv h (nodupN_iff hn) (.inl hc) (fun x hx => ?_) hfr hl hd
    have hk := k x hx
    split at hk
    · rename_i E he
      exact ⟨E, he, hk⟩
    · exact hk.elim

theorem argS_sound {ok : Nat → Prop} {t : Nat} {s : SV} {v : Value} (h : TDen ρ w ok s v) : TDen ρ w ok (argS tbl t s) v := by
  unfold argS
  split
  · split
    · split
      · have := den_val (CDen.of_T h)
        subst this
        exact T_of_den (.ro rfl (Nat.le_refl _) (by simp [maxLen]) (by simp) .nil (fun j x hx => by simp at hx) .nil)
      · exact h
    · exact h
  · have := den_cb (CDen.of_T h)
    subst this
    exact T_of_den (mk_val rfl)
  · exact h

theorem argsS_sound (hS : St Γ nt T H ρ F a w) : ∀ (xs : List Operand) (ts : List Nat), (argsS tbl T xs ts).length = (xs.map a.eval).length ∧ ∀ (j : Nat) s v, (argsS tbl T xs ts)[j]? = some s → (xs.map a.eval)[j]? = some v → TDen ρ w (okOf Γ F w) s v
  | [], ts => by cases ts <;> simp [argsS]
  | x :: xs, [] => by
    obtain ⟨h1, h2⟩ := argsS_sound hS xs []
    refine ⟨by simpa [argsS] using h1, fun j s v hs hv => ?_⟩
    cases j with
    | zero => simp [argsS] at hs hv; subst hs hv; exact ev_sound hS x
    | succ j => exact h2 j s v (by simpa [argsS] using hs) (by simpa using hv)
  | x :: xs, t :: ts => by
    obtain ⟨h1, h2⟩ := argsS_sound hS xs ts
    refine ⟨by simpa [argsS] using h1, fun j s v hs hv => ?_⟩
    cases j with
    | zero => simp [argsS] at hs hv; subst hs hv; exact argS_sound (ev_sound hS x)
    | succ j => exact h2 j s v (by simpa [argsS] using hs) (by simpa using hv)

def Nx (Γ : Cx) (H : HM) (ρ : RM) (F : FM) (w : World) (n : Nat) (a : Act) (d : Option Tmp) (next : Act → World → Prop) (K : Eff → Prop) : Prop :=
  ∀ E ρ' F' v w', K E → Ext ρ ρ' → (∀ i, ρ' i ≠ ρ i → n ≤ i ∧ i < n + E.c) → Mem Γ (updL E.ws H) ρ' F' w' → (∀ b, okOf Γ F w b → okOf Γ F' w' b) → (∀ b, okOf Γ F w b → w'.heap[b]? = w.heap[b]?) → TDen ρ' w' (okOf Γ F' w') E.sv v → next (a.put d v) w'

theorem wp_of_ran {o : Oper} {n : Nat} {next : Act → World → Prop} {Q : Exit → Act → World → Prop} {K : Eff → Prop} {m : Sem Value} (he : execOp a.eval o = (do pure (Next.value (← m)))) (h : Ran Γ H ρ F w n K (m.run P w)) (hn : Nx Γ H ρ F w n a o.dst next K) : o.wp P a w next Q := by
  obtain ⟨E, ρ', F', v, w', hK, hr, h1, h2, h3, h4, h5, h6⟩ := h
  unfold Oper.wp
  rw [he]
  simp only [Sem.run_bind, hr, Result.andThen_ok, Sem.run_pure]
  exact hn _ _ _ _ _ hK h1 h2 h3 h4 h5 h6
theorem nx_quiet (hm : Mem Γ H ρ F w) {n : Nat} {d : Option Tmp} {next : Act → World → Prop} {K : Eff → Prop} (hn : Nx Γ H ρ F w n a d next K) {sv : SV} {v : Value} (hK : K (.q sv)) (hT : TDen ρ w (okOf Γ F w) sv v) : next (a.put d v) w :=
  hn (.q sv) ρ F v w hK (Ext.refl _) (fun _ hi => absurd rfl hi) hm (fun _ h => h) (fun _ _ => rfl) hT

theorem T_one {ok : Nat → Prop} {s : SV} {v : Value} (h1 : isOne s = true) (hT : TDen ρ w ok s v) : CDen ρ w ok s v := by
  cases hT with
  | any => cases h1
  | tup _ _ => cases h1
  | v h => cases h with
    | c h => exact h
    | a _ _ => cases h1
    | m _ _ => cases h1
    | clo _ _ => cases h1
theorem T_clo {ok : Nat → Prop} {k : Nat} {cs : List SV} {v : Value} (hT : TDen ρ w ok (.clo k cs) v) : ∃ vs : List Value, v = .func (.func k) #[] vs.toArray ∧ cs.length = vs.length ∧ ∀ (j : Nat) a v, cs[j]? = some a → vs[j]? = some v → CDen ρ w ok a v := by
  cases hT with
  | v hT => cases hT with
    | c hT => cases hT
    | clo hl h => exact ⟨_, rfl, hl, h⟩

theorem parts_ok (hS : St Γ nt T H ρ F a w) (ps : Array (Nat × Operand)) : PartsOk ρ w (okOf Γ F w) (ps.toList.map fun p => (p.1, ev T p.2)) (ps.map fun (i, x) => (i, a.eval x)).toList := by
  refine ⟨by simp, fun j p v hp hv => ?_⟩
  simp only [Array.toList_map, List.getElem?_map] at hp hv
  cases hc : ps.toList[j]? with
  | none => simp [hc] at hp
  | some q =>
    simp [hc] at hp hv
    subst hp hv
    exact ⟨rfl, ev_sound hS _⟩

theorem opE_sound (htb : TblOk P tbl) (hS : St Γ nt T H ρ F a w) (hle : LeH Hm H) {d : Bool} {o : Oper} {n : Nat} {next : Act → World → Prop} {Q : Exit → Act → World → Prop} {K : Eff → Prop}
    (h : opE d P tbl o.op o.type T Hm n K) (hfr : Fresh ρ n K) (hn : Nx Γ H ρ F w n a o.dst next K) : o.wp P a w next Q := by
  have hm := hS.mem
  have hB := hm.hb hle
  obtain ⟨dst, op, type, pos, after, guard⟩ := o
  simp only at h hn
  have E := fun x => ev_sound hS x
  have quiet_ran : ∀ {r : Result Value}, (∃ sv v, K (.q sv) ∧ r = .ok v w ∧ TDen ρ w (okOf Γ F w) sv v) → Ran Γ H ρ F w n K r := fun h => Ran.quiet hm h
  cases op <;> simp only [opE] at h <;> first | exact h.elim | skip
  case move x =>
    exact wp_of_ran (m := pure (a.eval x)) (by simp [execOp]) (by simpa using eMove_sound hm h hfr (E x)) hn
  case assign x =>
    exact wp_of_ran (m := pure (a.eval x)) (by simp [execOp]) (by simpa using eMove_sound hm h hfr (E x)) hn
  case pick c x y =>
    obtain ⟨sv, v, hK, hr, hT⟩ := qPick_sound (P := P) h (E c) (E x) (E y)
    unfold Oper.wp
    simp only [execOp, hr]
    exact nx_quiet hm hn hK hT
  case alloc t => exact wp_of_ran rfl (eAlloc_sound htb hm h hfr) hn
  case box t x => exact wp_of_ran rfl (eBox_sound hm h hfr (E x)) hn
  case build t ps => exact wp_of_ran rfl (eBuild_sound htb hm h hfr (parts_ok hS ps)) hn
  case buildSlice t l ps => exact wp_of_ran rfl (eBuildSlice_sound htb hm hle h hfr (parts_ok hS ps)) hn
  case load t x => exact wp_of_ran rfl (eLoad_sound htb hm hle h hfr (E x)) hn
  case store t x y =>
    obtain ⟨Ef, F', w', hK, hr, hsv, h1, h2, h3⟩ := eStore_sound htb hm hle h (E x) (E y)
    unfold Oper.wp
    simp only [execOp, Sem.run_bind, hr, Result.andThen_ok, Sem.run_pure]
    exact hn Ef ρ F' _ w' hK (Ext.refl _) (fun i hi => absurd rfl hi) h1 h2 h3 (by rw [hsv]; exact .any)
  case nilCheck x =>
    obtain ⟨sv, hK, hmm, hT⟩ := qNil_sound h (E x)
    have hr : (execOp a.eval { dst := dst, op := .nilCheck x, type := type, pos := pos, after := after, guard := guard }).run P w = .ok (.value (a.eval x)) w := by
      simp only [execOp]
      split
      · rename_i he; rw [he] at hmm; exact hmm.elim
      · rename_i he; rw [he] at hmm; exact hmm.elim
      · rename_i he; rw [he] at hmm; exact hmm.elim
      · rename_i he; rw [he] at hmm; exact hmm.elim
      · rfl
    unfold Oper.wp
    rw [hr]
    exact nx_quiet hm hn hK hT
  case binOp op t x y yt => exact wp_of_ran rfl (quiet_ran (qBinN_sound htb h (E x) (E y))) hn
  case unOp op t x => exact wp_of_ran rfl (quiet_ran (qUn_sound h (E x))) hn
  case convert s d x =>
    cases hb : (tbl.find s).any fun i => i.ik.isSome with
    | false => rw [hb] at h; exact wp_of_ran rfl (quiet_ran (qBytes_sound hB htb h (E x))) hn
    | true => rw [hb] at h; exact wp_of_ran rfl (quiet_ran (qConv_sound htb hb h (E x))) hn
  case makeFunc fn first caps =>
    split at h
    · rename_i k hfirst
      unfold eFunc at h
      cases hb : (caps.toList.map (ev T)).all isOne with
      | false => rw [hb] at h; exact h.elim
      | true =>
        rw [hb] at h
        have hf : first = #[] := by simpa using hfirst
        subst hf
        refine wp_of_ran rfl (Ran.quiet hm ⟨.clo k (caps.toList.map (ev T)), _, h, by simp [Instr.makeFunc]; rfl, ?_⟩) hn
        have : TDen ρ w (okOf Γ F w) (.clo k (caps.toList.map (ev T))) (.func (.func k) #[] (caps.toList.map a.eval).toArray) := by
          refine .v (.clo (by simp) fun j s v hs hv => ?_)
          rw [List.getElem?_map] at hs hv
          cases hc : caps.toList[j]? with
          | none => simp [hc] at hs
          | some x =>
            simp [hc] at hs hv
            subst hs hv
            have h1 : isOne (ev T x) = true := List.all_eq_true.1 hb _ (List.mem_map.2 ⟨x, List.mem_of_getElem? hc, rfl⟩)
            exact T_one h1 (E x)
        have e : (caps.toList.map a.eval).toArray = caps.map a.eval := by apply Array.toList_inj.1; simp
        rw [e] at this
        exact this
    · exact h.elim
  case makeSlice t l c => exact wp_of_ran rfl (eMakeSlice_sound htb hm h hfr (E l) (E c)) hn
  case slice t x lo hi mx =>
    split at h
    · have od : ∀ o : Option Operand, optDen ρ w (okOf Γ F w) (o.map (ev T)) (o.map a.eval) := by
        intro o
        cases o with
        | none => trivial
        | some x => exact E x
      exact wp_of_ran rfl (quiet_ran (qSlice_sound hB htb h (E x) (od lo) (od hi))) hn
    · exact h.elim
  case fieldAddr s x f => exact wp_of_ran rfl (quiet_ran (qField_sound htb h (E x))) hn
  case indexAddr t x i => exact wp_of_ran rfl (quiet_ran (qIndexAddr_sound hB htb h (E x) (E i))) hn
  case index t x i =>
    split at h
    · rename_i j hj
      cases hb : j.isS with
      | false => rw [hb] at h; exact h.elim
      | true => rw [hb] at h; exact wp_of_ran rfl (quiet_ran (qIndex_sound ((htb _ _ hj).isS hb) h (E x) (E i))) hn
    · exact h.elim
  case extract x i => exact wp_of_ran rfl (quiet_ran (qExtract_sound h (E x))) hn
  case makeMap t r =>
    split at h
    · exact wp_of_ran rfl (eMakeMap_sound htb hm h hfr) hn
    · exact h.elim
  case lookup t x k ok => exact wp_of_ran rfl (quiet_ran (qLookup_sound hB htb h (E x) (E k))) hn
  case mapUpdate t x k v =>
    obtain ⟨Ef, F', w', hK, hr, hsv, h1, h2, h3⟩ := eMapUpdate_sound htb hm hle h (E x) (E k) (E v)
    unfold Oper.wp
    simp only [execOp, Sem.run_bind, hr, Result.andThen_ok, Sem.run_pure]
    exact hn Ef ρ F' _ w' hK (Ext.refl _) (fun i hi => absurd rfl hi) h1 h2 h3 (by rw [hsv]; exact .any)
  case call c =>
    obtain ⟨callee, args, argTypes⟩ := c
    unfold eCall at h
    cases callee with
    | invoke r m => exact h.elim
    | builtin b =>
      cases b <;> simp only at h <;> first | exact h.elim | skip
      case len =>
        split at h
        · rename_i x t hx ht
          have hx' : args = #[x] := by cases args; simp_all
          have ht' : argTypes = #[t] := by cases argTypes; simp_all
          subst hx' ht'
          have fin : ∀ {sx : SV}, ev T x = sx → (∃ sv v, K (.q sv) ∧ (Builtin.len_ #[t] type #[a.eval x]).run P w = .ok v w ∧ TDen ρ w (okOf Γ F w) sv v) → Oper.wp P { dst := dst, op := .call { callee := .builtin .len, args := #[x], argTypes := #[t] }, type := type, pos := pos, after := after, guard := guard } a w next Q := by
            intro sx _ hq
            obtain ⟨sv, v, hK, hr, hT⟩ := hq
            unfold Oper.wp
            simp only [execOp, resolve, invoke, builtin, Sem.run_bind, Sem.run_pure, Result.andThen_ok, List.map_toArray, List.map_cons, List.map_nil, hr]
            exact nx_quiet hm hn hK hT
          split at h
          · rename_i s hs
            split at h
            · rename_i i hi
              cases hb : i.isS with
              | false => rw [hb] at h; exact h.elim
              | true =>
                rw [hb] at h
                simp only [cond] at h
                have hu := (htb _ _ hi).isS hb
                exact fin rfl (qLen_sound hB htb (x := .c (.val (.string s))) (.inr hu) h (by rw [← hs]; exact E x) ⟨fun _ => rfl, fun _ => hu⟩)
            · exact h.elim
          · rename_i hns
            split at h
            · rename_i i hi
              cases hb : i.elem with
              | none => rw [hb] at h; exact h.elim
              | some e =>
                rw [hb] at h
                obtain ⟨e1, e2, e3⟩ := e
                have hu := ((htb _ _ hi).elem _ _ _ hb).1
                have hno : (asStr (ev T x)).isSome = true → False := by
                  intro h0
                  unfold asStr at h0
                  split at h0
                  · rename_i s hs; exact hns s hs
                  · cases h0
                have hns' : P.underlying t ≠ some .string := by rw [hu]; simp
                exact fin rfl (qLen_sound hB htb (.inl ⟨i, _, hi, hb⟩) h (E x) ⟨fun h0 => absurd h0 hns', fun h0 => (hno h0).elim⟩)
            · exact h.elim
        · exact h.elim
      case append =>
        split at h
        · rename_i s x t t' hx ht
          have hx' : args = #[s, x] := by cases args; simp_all
          have ht' : argTypes = #[t, t'] := by cases argTypes; simp_all
          subst hx' ht'
          cases hb : Nat.beq t t' with
          | false => rw [hb] at h; exact h.elim
          | true =>
            rw [hb] at h
            have := Nat.eq_of_beq_eq_true hb
            subst this
            obtain ⟨Ef, ρ', F', v, w', hK, hr, h1, h2, h3, h4, h5, h6⟩ := eAppend_sound (ty := type) htb hm hle h hfr (E s) (E x)
            unfold Oper.wp
            simp only [execOp, resolve, invoke, builtin, Sem.run_bind, Sem.run_pure, Result.andThen_ok, List.map_toArray, List.map_cons, List.map_nil, hr]
            exact hn _ _ _ _ _ hK h1 h2 h3 h4 h5 h6
        · exact h.elim
    | value f =>
      simp only at h
      split at h
      · rename_i k caps hf
        have hT := E f
        rw [hf] at hT
        obtain ⟨cvs, heq, hcl, hc⟩ := T_clo hT
        obtain ⟨h1, h2⟩ := argsS_sound (tbl := tbl) hS args.toList argTypes.toList
        obtain ⟨hfn, hcall⟩ := CallN_sound (vs := args.toList.map a.eval ++ cvs) hm hle h hfr (by simp only [List.length_append, h1, hcl]) fun j s v hs hv => by
          by_cases hj : j < (argsS tbl T args.toList argTypes.toList).length
          · rw [List.getElem?_append_left hj] at hs
            rw [List.getElem?_append_left (by rw [← h1]; exact hj)] at hv
            exact h2 j s v hs hv
          · rw [List.getElem?_append_right (by omega)] at hs
            rw [List.getElem?_append_right (by rw [← h1]; omega), ← h1] at hv
            exact .v (.c (hc _ s v hs hv))
        obtain ⟨fn, hfn1, hfn2, hfn3⟩ := hfn
        have hargs : args.map a.eval ++ cvs.toArray = (args.toList.map a.eval ++ cvs).toArray := by
          apply Array.toList_inj.1; simp
        unfold Oper.wp
        simp only [execOp, resolve, heq, Deferred.ofValue, Sem.run_bind, Sem.run_pure, Result.andThen_ok, invoke, callFunc, run_program, hfn1, hfn2, hfn3, Bool.false_eq_true, if_false, Oper.upon_enter]
        simp only [Array.empty_append]
        rw [hargs]
        refine hcall.mono ?_
        rintro e w' ⟨Ef, ρ', F', v, rfl, hK, g1, g2, g3, g4, g5, g6⟩
        exact hn _ _ _ _ _ hK g1 g2 g3 g4 g5 g6
      · exact h.elim
end

/-! ### Names -/
def bitB (m i : Nat) : Bool := Nat.beq (Nat.land (Nat.shiftRight m i) 1) 1
def okRn (np : Nat) (p : Nat × Nat) (H : HM) : Bool := !bitB np p.1 && (!bitB np p.2 && (!Nat.beq p.1 p.2 && match H p.2 with | .dead => true | _ => false))
def rnAll (np : Nat) : List (Nat × Nat) → TM → HM → (TM → HM → Prop) → Prop
  | [], T, H, K => K T H
  | p :: r, T, H, K => cond (okRn np p H) (rnAll np r (mapT (renC p.1 p.2) T) (renH p.1 p.2 H) K) False
def PinLt (Γ : Cx) (np : Nat) : Prop := ∀ i v, Γ.pv i = some v → bitB np i = true
theorem rnAll_sound {Γ : Cx} {nt np : Nat} (hnp : PinLt Γ np) {n : Nat} : ∀ {rn : List (Nat × Nat)} {T : TM} {H : HM} {ρ : RM} {F : FM} {a : Act} {w : World} {K : TM → HM → Prop}, rnAll np rn T H K → St Γ nt T H ρ F a w → Free ρ n → (∀ p ∈ rn, p.2 < n) →
    ∃ T' H' ρ' F', K T' H' ∧ St Γ nt T' H' ρ' F' a w ∧ Free ρ' n
  | [], T, H, ρ, F, a, w, K, h, hS, hf, _ => ⟨T, H, ρ, F, h, hS, hf⟩
  | p :: r, T, H, ρ, F, a, w, K, h, hS, hf, hlt => by
    simp only [rnAll] at h
    obtain ⟨hb, h⟩ := of_cond h
    simp only [okRn, Bool.and_eq_true, Bool.not_eq_true'] at hb
    obtain ⟨b1, b2, b3, b4⟩ := hb
    have hne := nbeq b3
    have hd : H p.2 = .dead := by
      split at b4
      · assumption
      · cases b4
    have hp : ∀ i, bitB np i = false → Γ.pv i = none := fun i hi => by
      cases hv : Γ.pv i with
      | none => rfl
      | some v => have := hnp i v hv; rw [hi] at this; cases this
    have hS' := hS.ren hne hd (hp _ b1) (hp _ b2)
    refine rnAll_sound hnp h hS' (fun i hi => ?_) fun q hq => hlt q (by simp [hq])
    have h2 := hlt p (by simp)
    unfold renR
    rw [if_neg (by omega)]
    split
    · rfl
    · exact hf i hi

/-! ### Lists of operations -/
def isGuard (ops : List Oper) (j : Nat) : Bool := ops.any fun o => match o.guard with | some (g, _) => Nat.beq g j | none => false
def dstOk (nt : Nat) : Option Nat → Bool
  | some d => Nat.blt d nt
  | none => true
def same (a b : Bool) : Bool := match a, b with | true, true => true | false, false => true | _, _ => false
theorem same_eq {a b : Bool} : same a b = true ↔ a = b := by cases a <;> cases b <;> simp [same]

def rnLt (n : Nat) (rn : List (Nat × Nat)) : Bool := rn.all fun p => Nat.blt p.2 n
def lit (n : Nat) (K : Nat → Prop) : Prop := match n with | 0 => K 0 | k + 1 => K (k + 1)
theorem lit_eq {n : Nat} {K : Nat → Prop} : lit n K = K n := by cases n <;> rfl
def fcC (x : CV) (K : CV → Prop) : Prop :=
  match x with
  | .any => K .any
  | .val v => K (.val v)
  | .cb b => K (.cb b)
  | .ro s r => K (.ro s r)
  | .rp s c => K (.rp s c)
  | .own t s r => K (.own t s r)
  | .ownp v t s r => K (.ownp v t s r)
  | .ows t s r => K (.ows t s r)
  | .op c => K (.op c)
  | .bld t e s => K (.bld t e s)
def fcS (s : SV) (K : SV → Prop) : Prop :=
  match s with
  | .any => K .any
  | .c x => fcC x fun y => K (.c y)
  | .a n cs => K (.a n cs)
  | .lp i o => K (.lp i o)
  | .le i s x o => K (.le i s x o)
  | .lw i => K (.lw i)
  | .ls i s o l => K (.ls i s o l)
  | .mp i => K (.mp i)
  | .m cs => K (.m cs)
  | .tup vs => K (.tup vs)
  | .clo k c => K (.clo k c)
def fcL (l : List (Nat × Blk)) (K : List (Nat × Blk) → Prop) : Prop :=
  match l with
  | [] => K []
  | x :: xs => K (x :: xs)
theorem fcC_eq {x : CV} {K : CV → Prop} : fcC x K = K x := by cases x <;> rfl
theorem fcS_eq {s : SV} {K : SV → Prop} : fcS s K = K s := by
  cases s <;> first | rfl | exact fcC_eq (K := fun y => K (.c y))
theorem fcL_eq {l : List (Nat × Blk)} {K : List (Nat × Blk) → Prop} : fcL l K = K l := by cases l <;> rfl
def aft (np n : Nat) (E : Eff) (T : TM) (d : Option Nat) (H : HM) (K : TM → HM → Nat → Prop) : Prop :=
  match E with
  | ⟨sv, ws, c, rn⟩ => lit (n + c) fun m => fcS sv fun v => fcL ws fun w => cond (rnLt m rn) (rnAll np rn (putT T d v) (updL w H) fun T H => K T H m) False
theorem aft_eq {np n : Nat} {E : Eff} {T : TM} {d : Option Nat} {H : HM} {K : TM → HM → Nat → Prop} : aft np n E T d H K = cond (rnLt (n + E.c) E.rn) (rnAll np E.rn (putT T d E.sv) (updL E.ws H) fun T H => K T H (n + E.c)) False := by
  cases E
  unfold aft
  simp only [lit_eq, fcS_eq, fcL_eq]
def vcOps (P : Program) (tbl : TT) (nt np : Nat) (all : List Oper) : List Oper → Nat → TM → HM → Nat → (TM → HM → Nat → Prop) → Prop
  | [], _, T, H, n, K => K T H n
  | o :: rest, i, T, H, n, K =>
    cond (dstOk nt o.dst)
      (match o.guard with
      | none => opE false P tbl o.op o.type T H n fun E =>
        match isGuard all i with
        | true => match E.sv with
          | .c (.val (.bool b)) => Branch b (vcOps P tbl nt np all rest (i + 1) (putT T o.dst (.c (.cb true))) (updL E.ws H) (n + E.c) K) (vcOps P tbl nt np all rest (i + 1) (putT T o.dst (.c (.cb false))) (updL E.ws H) (n + E.c) K)
          | _ => aft np n E T o.dst H (vcOps P tbl nt np all rest (i + 1) · · · K)
        | false => aft np n E T o.dst H (vcOps P tbl nt np all rest (i + 1) · · · K)
      | some (j, want) =>
        match (all[j]?).bind (·.dst) with
        | some t => match T t with
          | .c (.cb b) =>
            match same b want with
            | true => opE false P tbl o.op o.type T H n fun E =>
              match isGuard all i with
              | true => match E.sv with
                | .c (.val (.bool b)) => Branch b (vcOps P tbl nt np all rest (i + 1) (putT T o.dst (.c (.cb true))) (updL E.ws H) (n + E.c) K) (vcOps P tbl nt np all rest (i + 1) (putT T o.dst (.c (.cb false))) (updL E.ws H) (n + E.c) K)
                | _ => aft np n E T o.dst H (vcOps P tbl nt np all rest (i + 1) · · · K)
              | false => aft np n E T o.dst H (vcOps P tbl nt np all rest (i + 1) · · · K)
            | false => vcOps P tbl nt np all rest (i + 1) (putT T o.dst (.tup [])) H n K
          | .tup [] => vcOps P tbl nt np all rest (i + 1) (putT T o.dst (.tup [])) H n K
          | _ => False
        | none => False) False

def stOps (P : Program) (tbl : TT) (nt np : Nat) (all : List Oper) (o : Oper) (ih : Nat → TM → HM → Nat → (TM → HM → Nat → Prop) → Prop) (i : Nat) (T : TM) (H : HM) (n : Nat) (K : TM → HM → Nat → Prop) : Prop :=
    cond (dstOk nt o.dst)
      (match o.guard with
      | none => opE false P tbl o.op o.type T H n fun E =>
        match isGuard all i with
        | true => match E.sv with
          | .c (.val (.bool b)) => Branch b (ih (i + 1) (putT T o.dst (.c (.cb true))) (updL E.ws H) (n + E.c) K) (ih (i + 1) (putT T o.dst (.c (.cb false))) (updL E.ws H) (n + E.c) K)
          | _ => aft np n E T o.dst H (ih (i + 1) · · · K)
        | false => aft np n E T o.dst H (ih (i + 1) · · · K)
      | some (j, want) =>
        match (all[j]?).bind (·.dst) with
        | some t => match T t with
          | .c (.cb b) =>
            match same b want with
            | true => opE false P tbl o.op o.type T H n fun E =>
              match isGuard all i with
              | true => match E.sv with
                | .c (.val (.bool b)) => Branch b (ih (i + 1) (putT T o.dst (.c (.cb true))) (updL E.ws H) (n + E.c) K) (ih (i + 1) (putT T o.dst (.c (.cb false))) (updL E.ws H) (n + E.c) K)
                | _ => aft np n E T o.dst H (ih (i + 1) · · · K)
              | false => aft np n E T o.dst H (ih (i + 1) · · · K)
            | false => ih (i + 1) (putT T o.dst (.tup [])) H n K
          | .tup [] => ih (i + 1) (putT T o.dst (.tup [])) H n K
          | _ => False
        | none => False) False
def vcOpsR (P : Program) (tbl : TT) (nt np : Nat) (all l : List Oper) : Nat → TM → HM → Nat → (TM → HM → Nat → Prop) → Prop :=
  List.rec (fun _ T H n K => K T H n) (fun o _ ih => stOps P tbl nt np all o ih) l
theorem vcOpsR_eq {P : Program} {tbl : TT} {nt np : Nat} {all : List Oper} : ∀ l, vcOpsR P tbl nt np all l = fun i T H n K => vcOps P tbl nt np all l i T H n K
  | [] => rfl
  | o :: rest => by
    show stOps P tbl nt np all o (vcOpsR P tbl nt np all rest) = _
    rw [vcOpsR_eq rest]
    rfl

section
variable {P : Program} {tbl : TT} {Γ : Cx} {nt np : Nat} {T : TM} {H : HM} {ρ : RM} {F : FM} {a : Act} {w : World}

theorem St.put (hS : St Γ nt T H ρ F a w) {d : Option Nat} {sv : SV} {v : Value} (hd : dstOk nt d = true) (hT : TDen ρ w (okOf Γ F w) sv v) : St Γ nt (putT T d sv) H ρ F (a.put d v) w := by
  cases d with
  | none => exact hS
  | some d =>
    have hlt : d < nt := by simpa [dstOk, Nat.blt_eq] using hd
    refine ⟨hS.mem, hS.defers, by simpa [Act.put] using hS.nt, fun i => ?_⟩
    simp only [putT, updT, Act.put]
    cases hb : Nat.beq i d with
    | true =>
      have := Nat.eq_of_beq_eq_true hb
      subst this
      have : (a.tmps.setIfInBounds i v).getD i undef = v := by
        simp [Array.getD, hS.nt, hlt]
      simp only [cond]
      rw [this]
      exact hT
    | false =>
      have hne := nbeq hb
      have : (a.tmps.setIfInBounds d v).getD i undef = a.tmps.getD i undef := by
        rw [Array.getD_eq_getD_getElem?, Array.getD_eq_getD_getElem?, Array.getElem?_setIfInBounds_ne (by omega)]
      simp only [cond]
      rw [this]
      exact hS.tmps i
theorem tmp_bool (hS : St Γ nt T H ρ F a w) {t : Nat} {b : Bool} (h : T t = .c (.cb b)) : a.tmps[t]? = some (.bool b) := by
  have := hS.tmps t
  rw [h] at this
  have hv := den_cb (CDen.of_T this)
  rw [Array.getD_eq_getD_getElem?] at hv
  cases hc : a.tmps[t]? with
  | none => rw [hc] at hv; simp [undef] at hv
  | some v => rw [hc] at hv; simp at hv; rw [hv]
theorem tmp_none (hS : St Γ nt T H ρ F a w) {t : Nat} (h : T t = .tup []) : (match (some t).bind (a.tmps[·]?) with | some (.bool b) => some b | _ => none) = none := by
  have h1 := hS.tmps t
  rw [h] at h1
  have hv : a.tmps.getD t undef = .tuple #[] := by
    generalize a.tmps.getD t undef = u at h1
    cases h1 with
    | @tup _ vs hl _ =>
      cases vs with
      | nil => rfl
      | cons _ _ => simp at hl
    | v h => cases h with | c h => cases h
  rw [Array.getD_eq_getD_getElem?] at hv
  simp only [Option.bind_some]
  cases hc : a.tmps[t]? with
  | none => rfl
  | some v => rw [hc] at hv; simp at hv; rw [hv]
theorem St.move (hS : St Γ nt T H ρ F a w) {H' : HM} {ρ' : RM} {F' : FM} {w' : World} (h1 : Mem Γ H' ρ' F' w') (h2 : Ext ρ ρ') (h3 : ∀ b, okOf Γ F w b → okOf Γ F' w' b) (h4 : ∀ b, okOf Γ F w b → w'.heap[b]? = w.heap[b]?) : St Γ nt T H' ρ' F' a w' :=
  ⟨h1, hS.defers, hS.nt, fun i => (hS.tmps i).mono h4 h3 h2⟩
theorem free_after {ρ ρ' : RM} {n c : Nat} (hf : Free ρ n) (h : ∀ i, ρ' i ≠ ρ i → n ≤ i ∧ i < n + c) : Free ρ' (n + c) := by
  intro i hi
  by_cases e : ρ' i = ρ i
  · rw [e]; exact hf i (by omega)
  · have := h i e; omega

theorem vcOps_sound (htb : TblOk P tbl) (hnp : PinLt Γ np) {ops : Array Oper} {Q : Exit → Act → World → Prop} {l2 : List Oper} {K : TM → HM → Nat → Prop} (hK : ∀ T H n ρ F a w, K T H n → St Γ nt T H ρ F a w → Free ρ n → wpList P ops Q l2 a w) :
    ∀ (rest : List Oper) (i : Nat) {T : TM} {H : HM} {n : Nat} {ρ : RM} {F : FM} {a : Act} {w : World}, vcOps P tbl nt np ops.toList rest i T H n K → St Γ nt T H ρ F a w → Free ρ n → wpList P ops Q (rest ++ l2) a w
  | [], i, T, H, n, ρ, F, a, w, h, hS, hf => hK _ _ _ _ _ _ _ h hS hf
  | o :: rest, i, T, H, n, ρ, F, a, w, h, hS, hf => by
    simp only [vcOps] at h
    obtain ⟨hd, h⟩ := of_cond h
    have after : ∀ {T : TM} {H : HM} {n : Nat} {ρ : RM} {F : FM} {a : Act} {w : World} {E : Eff} {d : Option Nat}, aft np n E T d H (vcOps P tbl nt np ops.toList rest (i + 1) · · · K) → St Γ nt (putT T d E.sv) (updL E.ws H) ρ F a w → Free ρ (n + E.c) → wpList P ops Q (rest ++ l2) a w := by
      intro T H n ρ F a w E d h hS hf
      rw [aft_eq] at h
      obtain ⟨hb, h⟩ := of_cond h
      obtain ⟨T', H', ρ', F', h1, h2, h3⟩ := rnAll_sound hnp h hS hf fun p hp => by
        have := List.all_eq_true.1 hb p hp
        rwa [Nat.blt_eq] at this
      exact vcOps_sound htb hnp hK rest (i + 1) h1 h2 h3
    -- one operation
    have exec : ∀ {T : TM} {H : HM} {n : Nat} {ρ : RM} {F : FM} {a : Act} {w : World}, St Γ nt T H ρ F a w → Free ρ n → (opE false P tbl o.op o.type T H n fun E =>
        match isGuard ops.toList i with
        | true => match E.sv with
          | .c (.val (.bool b)) => Branch b (vcOps P tbl nt np ops.toList rest (i + 1) (putT T o.dst (.c (.cb true))) (updL E.ws H) (n + E.c) K) (vcOps P tbl nt np ops.toList rest (i + 1) (putT T o.dst (.c (.cb false))) (updL E.ws H) (n + E.c) K)
          | _ => aft np n E T o.dst H (vcOps P tbl nt np ops.toList rest (i + 1) · · · K)
        | false => aft np n E T o.dst H (vcOps P tbl nt np ops.toList rest (i + 1) · · · K)) → o.wp P a w (wpList P ops Q (rest ++ l2)) Q := by
      intro T H n ρ F a w hS hf h
      refine opE_sound htb hS (LeH.refl H) h (fun E _ i h1 _ => hf i h1) ?_
      intro E ρ' F' v w' hk g1 g2 g3 g4 g5 g6
      have hS' := hS.move g3 g1 g4 g5
      have hf' := free_after hf g2
      split at hk
      · split at hk
        · rename_i b hsv
          rw [hsv] at g6
          have hv := den_val (CDen.of_T g6)
          subst hv
          cases b with
          | true => exact vcOps_sound htb hnp hK rest (i + 1) (hk.t rfl) (hS'.put hd (T_of_den (.cb .nil))) hf'
          | false => exact vcOps_sound htb hnp hK rest (i + 1) (hk.f rfl) (hS'.put hd (T_of_den (.cb .nil))) hf'
        · exact after hk (hS'.put hd g6) hf'
      · exact after hk (hS'.put hd g6) hf'
    rw [List.cons_append]
    unfold wpList
    split at h
    · rename_i hg
      rw [if_pos (by simp [Region.wanted, hg])]
      exact .inl (exec hS hf h)
    · rename_i j want hg
      split at h
      · rename_i t ht
        split at h
        · rename_i b hb
          have hy : yielded ops a.tmps j = some b := by
            unfold yielded
            have : (ops[j]?).bind (·.dst) = some t := by simpa using ht
            rw [this]
            simp [tmp_bool hS hb]
          split at h
          · rename_i hs
            have := same_eq.1 hs
            subst this
            rw [if_pos (by simp [Region.wanted, hg, hy])]
            exact .inl (exec hS hf h)
          · rename_i hs
            have hne : b ≠ want := by intro e; rw [same_eq.2 e] at hs; cases hs
            rw [if_neg (by simp [Region.wanted, hg, hy, hne])]
            exact vcOps_sound htb hnp hK rest (i + 1) h (hS.put hd (.tup (vs := []) rfl (by simp))) hf
        · rename_i hb
          have hy : yielded ops a.tmps j = none := by
            unfold yielded
            have h0 : (ops[j]?).bind (·.dst) = some t := by simpa using ht
            rw [h0]
            exact tmp_none hS hb
          rw [if_neg (by simp [Region.wanted, hg, hy])]
          exact vcOps_sound htb hnp hK rest (i + 1) h (hS.put hd (.tup (vs := []) rfl (by simp))) hf
        · exact h.elim
      · exact h.elim
end
end Go.KA
