/- Part of a proof engine for functions of the given program: what an operation, a loop and a call compute, symbolically. No conditions. -/
import Derived.Test.YtceijpfmaofhpaaEngI
namespace Go.KA
open Go Go.RowKit

section
variable {P : Program} {tbl : TT} {Γ : Cx} {nt : Nat} {T : TM} {H : List Blk} {ρ : List Value} {F : Nat → List Nat} {a : Act} {w : World}

theorem closed_view : ∀ {s s' : SV}, closedV s = true → viewV H s = some s' → s' = s := by
  intro s s' hc hv
  unfold closedV at hc
  split at hc
  · simp [viewV, viewC] at hv; exact hv.symm
  · simp [viewV] at hv; exact hv.symm
  · rename_i k caps
    have key : ∀ (caps : List SV) (l : List CV), caps.all closedC = true → mapO (viewC H 5) caps = some l → l.map .c = caps := by
      intro caps
      induction caps with
      | nil => intro l _ h; simp [mapO] at h; subst h; rfl
      | cons c cs ih =>
        intro l hc h
        simp only [List.all_cons, Bool.and_eq_true] at hc
        simp only [mapO] at h
        cases c <;> first | (simp [closedC] at hc; done) | skip
        rename_i x
        simp only [viewC] at h
        split at h
        · rename_i y ys hy hys
          injection h with h
          injection hy with hy
          subst h hy
          simp [ih ys hc.2 hys]
        · cases h
    simp only [viewV] at hv
    split at hv
    · rename_i l hl
      injection hv with hv
      subst hv
      rw [key caps l hc hl]
    · cases hv
  · cases hc

theorem viewAll_get : ∀ {args args' : List SV}, viewAll H args = some args' → args.length = args'.length ∧ ∀ (j : Nat) s', args'[j]? = some s' → ∃ s, args[j]? = some s ∧ viewV H s = some s'
  | [], args', h => by simp [viewAll, mapOS] at h; subst h; exact ⟨rfl, by simp⟩
  | x :: xs, args', h => by
    simp only [viewAll, mapOS] at h
    split at h
    · rename_i y ys hy hys
      injection h with h
      subst h
      obtain ⟨h1, h2⟩ := viewAll_get (args := xs) hys
      refine ⟨by simp [h1], fun j s' hj => ?_⟩
      cases j with
      | zero => simp at hj; subst hj; exact ⟨x, rfl, hy⟩
      | succ j => obtain ⟨s, hs, hv⟩ := h2 j s' (by simpa using hj); exact ⟨s, by simpa using hs, hv⟩
    · cases h

theorem T_to_V {ok : Nat → Prop} {s s' : SV} {v : Value} (hv : viewV H s = some s') (h : TDen ρ w ok s v) : VDen ρ w ok s v := by
  cases h with
  | any => simp [viewV] at hv
  | v h => exact h
  | tup _ _ => simp [viewV] at hv
theorem T_to_V' {ok : Nat → Prop} {s : SV} {v : Value} (hv : closedV s = true) (h : TDen ρ w ok s v) : VDen ρ w ok s v := by
  cases h with
  | any => simp [closedV] at hv
  | v h => exact h
  | tup _ _ => simp [closedV] at hv

def CallPost (Γ : Cx) (nt : Nat) (a : Act) (K : SV → TM → List Blk → Prop) (e : Ending) (w' : World) : Prop :=
  ∃ sv T' H' ρ' F' v, e = .returned v ∧ K sv T' H' ∧ St Γ nt T' H' ρ' F' a w' ∧ TDen ρ' w' (okOf Γ H' F' w') sv v

theorem ok_after (hS : St Γ nt T H ρ F a w) {w' : World} (hb : Below w.heap.size w w') : ∀ b, (b < w'.heap.size ∧ (okOf Γ H F w b ∨ w.heap.size ≤ b)) → okOf Γ H F w' b := by
  rintro b ⟨h1, h2 | h2⟩
  · exact okOf_grow hb.size h2
  · refine ⟨h1, .inr (.inr ?_), fun hown => ?_⟩
    · have := hS.mem.size; omega
    · have := hS.mem.lt b hown; omega

theorem closed_call (hS : St Γ nt T H ρ F a w) {f : Nat} {args : List SV} {r : SV} {vs : List Value} {K : SV → TM → List Blk → Prop} (h : CallF P f args r) (hl : args.length = vs.length)
    (hv : ∀ (j : Nat) s v, args[j]? = some s → vs[j]? = some v → ∀ ρ', VDen ρ' w (okOf Γ H F w) s v) (k : K r T H) : Calls P f vs.toArray w (CallPost Γ nt a K) := by
  refine (h.2 w (okOf Γ H F w) vs (fun b hb => hb.1) hl hv).mono ?_
  rintro e w' ⟨v, rfl, hb, hr⟩
  exact ⟨r, T, H, ρ, F, v, rfl, k, hS.grow hb, (hr ρ).mono (fun _ _ => rfl) (ok_after hS hb)⟩

theorem CallN_sound (hS : St Γ nt T H ρ F a w) {f : Nat} {args : List SV} {vs : List Value} {K : SV → TM → List Blk → Prop} (h : CallN P f args T H K) (hl : args.length = vs.length)
    (hv : ∀ (j : Nat) s v, args[j]? = some s → vs[j]? = some v → TDen ρ w (okOf Γ H F w) s v) : FnOk P f ∧ Calls P f vs.toArray w (CallPost Γ nt a K) := by
  cases h with
  | pure args' r hview hc hs k =>
    obtain ⟨hlen, hget⟩ := viewAll_get hview
    refine ⟨hc.1, ?_⟩
    cases hcl : args.all closedV with
    | true =>
      refine closed_call hS hc (by omega) (fun j s' v hs' hv' ρ' => ?_) k
      obtain ⟨s, hs1, hs2⟩ := hget j s' hs'
      have hcs : closedV s = true := List.all_eq_true.1 hcl s (List.mem_of_getElem? hs1)
      have := closed_view hcs hs2
      subst this
      exact closedV_sound (fun _ h => h) hcs (T_to_V hs2 (hv j _ v hs1 hv')) ρ'
    | false =>
      rw [hcl] at hs
      have hscal : scalS r = true := by simpa using hs
      refine (hc.2 w (fun b => okOf Γ H F w b ∨ Owned H F b) vs ?_ (by omega) fun j s' v hs' hv' ρ' => ?_).mono ?_
      · rintro b (hb | hb)
        · exact hb.1
        · exact hS.mem.lt b hb
      · obtain ⟨s, hs1, hs2⟩ := hget j s' hs'
        exact viewV_sound (F := F) hS.mem.blocks (fun _ h => .inl h) (fun i hi b hb => .inr ⟨i, hi, hb⟩) hs2 (T_to_V hs2 (hv j _ v hs1 hv')) ρ'
      · rintro e w' ⟨v, rfl, hb, hr⟩
        exact ⟨r, T, H, ρ, F, v, rfl, k, hS.grow hb, scal_T hscal (hr ρ)⟩
  | frz args' T' H' r hz hcl hc k =>
    obtain ⟨F', h1, h2, h3⟩ := frzAll_sound _ hS hz hl hv
    refine ⟨hc.1, closed_call h1 hc h2 (fun j s v hs' hv' ρ' => ?_) k⟩
    have hcs : closedV s = true := List.all_eq_true.1 hcl s (List.mem_of_getElem? hs')
    exact closedV_sound (fun _ h => h) hcs (T_to_V' hcs (h3 j s v hs' hv')) ρ'

theorem argS_sound {ok : Nat → Prop} {t : Nat} {s : SV} {v : Value} (h : TDen ρ w ok s v) : TDen ρ w ok (argS tbl t s) v := by
  unfold argS
  split
  · split
    · split
      · have := den_val (CDen.of_T h)
        subst this
        exact T_of_den (.ro rfl (Nat.le_refl _) (by simp [maxLen]) (by simp) .nil (fun j x hx => by simp at hx) .nil)
      · exact h
    · exact h
  · have := den_cb (CDen.of_T h)
    subst this
    exact T_of_den (mk_val rfl)
  · exact h

theorem argsS_sound (hS : St Γ nt T H ρ F a w) : ∀ (xs : List Operand) (ts : List Nat), (argsS tbl T xs ts).length = (xs.map a.eval).length ∧ ∀ (j : Nat) s v, (argsS tbl T xs ts)[j]? = some s → (xs.map a.eval)[j]? = some v → TDen ρ w (okOf Γ H F w) s v
  | [], ts => by cases ts <;> simp [argsS]
  | x :: xs, [] => by
    obtain ⟨h1, h2⟩ := argsS_sound hS xs []
    refine ⟨by simpa [argsS] using h1, fun j s v hs hv => ?_⟩
    cases j with
    | zero => simp [argsS] at hs hv; subst hs hv; exact ev_sound hS x
    | succ j => exact h2 j s v (by simpa [argsS] using hs) (by simpa using hv)
  | x :: xs, t :: ts => by
    obtain ⟨h1, h2⟩ := argsS_sound hS xs ts
    refine ⟨by simpa [argsS] using h1, fun j s v hs hv => ?_⟩
    cases j with
    | zero => simp [argsS] at hs hv; subst hs hv; exact argS_sound (ev_sound hS x)
    | succ j => exact h2 j s v (by simpa [argsS] using hs) (by simpa using hv)

/-- what follows an operation -/
def Nx (Γ : Cx) (nt : Nat) (a : Act) (d : Option Tmp) (next : Act → World → Prop) (K : SV → TM → List Blk → Prop) : Prop :=
  ∀ sv T' H' ρ' F' v w', K sv T' H' → St Γ nt T' H' ρ' F' a w' → TDen ρ' w' (okOf Γ H' F' w') sv v → next (a.put d v) w'

theorem wp_of_ran {o : Oper} {next : Act → World → Prop} {Q : Exit → Act → World → Prop} {K : SV → TM → List Blk → Prop} {m : Sem Value} (he : execOp a.eval o = (do pure (Next.value (← m)))) (h : Ran Γ nt a K (m.run P w)) (hn : Nx Γ nt a o.dst next K) : o.wp P a w next Q := by
  obtain ⟨sv, T', H', ρ', F', v, w', hK, hr, hS, hT⟩ := h
  unfold Oper.wp
  rw [he]
  simp only [Sem.run_bind, hr, Result.andThen_ok, Sem.run_pure]
  exact hn _ _ _ _ _ _ _ hK hS hT

theorem quiet_ran (hS : St Γ nt T H ρ F a w) {K : SV → TM → List Blk → Prop} {r : Result Value} (h : ∃ sv v, K sv T H ∧ r = .ok v w ∧ TDen ρ w (okOf Γ H F w) sv v) : Ran Γ nt a K r := Ran.quiet hS h

theorem T_one {ok : Nat → Prop} {s : SV} {v : Value} (h1 : isOne s = true) (hT : TDen ρ w ok s v) : CDen ρ w ok s v := by
  cases hT with
  | any => cases h1
  | tup _ _ => cases h1
  | v h => cases h with
    | c h => exact h
    | a _ _ => cases h1
    | m _ _ => cases h1
    | clo _ _ => cases h1
theorem T_clo {ok : Nat → Prop} {k : Nat} {cs : List SV} {v : Value} (hT : TDen ρ w ok (.clo k cs) v) : ∃ vs : List Value, v = .func (.func k) #[] vs.toArray ∧ cs.length = vs.length ∧ ∀ (j : Nat) a v, cs[j]? = some a → vs[j]? = some v → CDen ρ w ok a v := by
  cases hT with
  | v hT => cases hT with
    | c hT => cases hT
    | clo hl h => exact ⟨_, rfl, hl, h⟩

theorem parts_ok (hS : St Γ nt T H ρ F a w) (ps : Array (Nat × Operand)) : PartsOk ρ w (okOf Γ H F w) (ps.toList.map fun p => (p.1, ev T p.2)) (ps.map fun (i, x) => (i, a.eval x)).toList := by
  refine ⟨by simp, fun j p v hp hv => ?_⟩
  simp only [Array.toList_map, List.getElem?_map] at hp hv
  cases hc : ps.toList[j]? with
  | none => simp [hc] at hp
  | some q =>
    simp [hc] at hp hv
    subst hp hv
    exact ⟨rfl, ev_sound hS _⟩

theorem opA_sound (htb : TblOk P tbl) (hS : St Γ nt T H ρ F a w) {o : Oper} {next : Act → World → Prop} {Q : Exit → Act → World → Prop} {K : SV → TM → List Blk → Prop}
    (h : opA P tbl o.op o.type T H K) (hn : Nx Γ nt a o.dst next K) : o.wp P a w next Q := by
  have hB := hS.mem.blocks
  obtain ⟨dst, op, type, pos, after, guard⟩ := o
  simp only at h hn
  have E := fun x => ev_sound hS x
  cases op <;> simp only [opA] at h <;> first | exact h.elim | skip
  case move x =>
    exact wp_of_ran (m := pure (a.eval x)) (by simp [execOp]) (by simpa using eMove_sound hS h (E x)) hn
  case assign x =>
    exact wp_of_ran (m := pure (a.eval x)) (by simp [execOp]) (by simpa using eMove_sound hS h (E x)) hn
  case pick c x y =>
    obtain ⟨sv, v, hK, hr, hT⟩ := qPick_sound (P := P) h (E c) (E x) (E y)
    unfold Oper.wp
    simp only [execOp, hr]
    exact hn _ _ _ _ _ _ _ hK hS hT
  case alloc t => exact wp_of_ran rfl (eAlloc_sound htb hS h) hn
  case box t x => exact wp_of_ran rfl (eBox_sound hS h (E x)) hn
  case build t ps => exact wp_of_ran rfl (eBuild_sound htb hS h (parts_ok hS ps)) hn
  case buildSlice t n ps => exact wp_of_ran rfl (eBuildSlice_sound htb hS h (parts_ok hS ps)) hn
  case load t x => exact wp_of_ran rfl (quiet_ran hS (qLoad_sound hB htb h (E x))) hn
  case store t x y =>
    obtain ⟨T', H', ρ', F', w', hK, hr, hS'⟩ := eStore_sound htb hS h (E x) (E y)
    unfold Oper.wp
    simp only [execOp, Sem.run_bind, hr, Result.andThen_ok, Sem.run_pure]
    exact hn _ _ _ _ _ _ _ hK hS' .any
  case nilCheck x =>
    obtain ⟨sv, hK, hm, hT⟩ := qNil_sound h (E x)
    have hr : (execOp a.eval { dst := dst, op := .nilCheck x, type := type, pos := pos, after := after, guard := guard }).run P w = .ok (.value (a.eval x)) w := by
      simp only [execOp]
      split
      · rename_i he; rw [he] at hm; exact hm.elim
      · rename_i he; rw [he] at hm; exact hm.elim
      · rename_i he; rw [he] at hm; exact hm.elim
      · rename_i he; rw [he] at hm; exact hm.elim
      · rfl
    unfold Oper.wp
    rw [hr]
    exact hn _ _ _ _ _ _ _ hK hS hT
  case binOp op t x y yt => exact wp_of_ran rfl (quiet_ran hS (qBinAll_sound htb h (E x) (E y))) hn
  case unOp op t x => exact wp_of_ran rfl (quiet_ran hS (qUn_sound h (E x))) hn
  case convert s d x =>
    cases hb : (tbl.find s).any fun i => i.ik.isSome with
    | false => rw [hb] at h; exact h.elim
    | true => rw [hb] at h; exact wp_of_ran rfl (quiet_ran hS (qConv_sound htb hb h (E x))) hn
  case makeFunc fn first caps =>
    split at h
    · rename_i k hfirst
      unfold eFunc at h
      cases hb : (caps.toList.map (ev T)).all isOne with
      | false => rw [hb] at h; exact h.elim
      | true =>
        rw [hb] at h
        have hf : first = #[] := by simpa using hfirst
        subst hf
        refine wp_of_ran rfl (Ran.quiet (T := T) (H := H) hS ⟨.clo k (caps.toList.map (ev T)), _, h, by simp [Instr.makeFunc]; rfl, ?_⟩) hn
        have : TDen ρ w (okOf Γ H F w) (.clo k (caps.toList.map (ev T))) (.func (.func k) #[] (caps.toList.map a.eval).toArray) := by
          refine .v (.clo (by simp) fun j s v hs hv => ?_)
          rw [List.getElem?_map] at hs hv
          cases hc : caps.toList[j]? with
          | none => simp [hc] at hs
          | some x =>
            simp [hc] at hs hv
            subst hs hv
            have h1 : isOne (ev T x) = true := List.all_eq_true.1 hb _ (List.mem_map.2 ⟨x, List.mem_of_getElem? hc, rfl⟩)
            exact T_one h1 (E x)
        have e : (caps.toList.map a.eval).toArray = caps.map a.eval := by apply Array.toList_inj.1; simp
        rw [e] at this
        exact this
    · exact h.elim
  case makeSlice t l c => exact wp_of_ran rfl (eMakeSlice_sound htb hS h (E l) (E c)) hn
  case fieldAddr s x f => exact wp_of_ran rfl (quiet_ran hS (qField_sound htb h (E x))) hn
  case indexAddr t x i => exact wp_of_ran rfl (quiet_ran hS (qIndexAddr_sound hB htb h (E x) (E i))) hn
  case index t x i =>
    split at h
    · rename_i j hj
      cases hb : j.isS with
      | false => rw [hb] at h; exact h.elim
      | true => rw [hb] at h; exact wp_of_ran rfl (quiet_ran hS (qIndex_sound ((htb _ _ hj).isS hb) h (E x) (E i))) hn
    · exact h.elim
  case extract x i => exact wp_of_ran rfl (quiet_ran hS (qExtract_sound h (E x))) hn
  case call c =>
    obtain ⟨callee, args, argTypes⟩ := c
    unfold eCall at h
    cases callee with
    | invoke r m => exact h.elim
    | builtin b =>
      cases b <;> simp only at h <;> first | exact h.elim | skip
      case len =>
        split at h
        · rename_i x t hx ht
          have hx' : args = #[x] := by cases args; simp_all
          have ht' : argTypes = #[t] := by cases argTypes; simp_all
          subst hx' ht'
          have fin : ∀ {sx : SV}, ev T x = sx → (∃ sv v, K sv T H ∧ (Builtin.len_ #[t] type #[a.eval x]).run P w = .ok v w ∧ TDen ρ w (okOf Γ H F w) sv v) → Oper.wp P { dst := dst, op := .call { callee := .builtin .len, args := #[x], argTypes := #[t] }, type := type, pos := pos, after := after, guard := guard } a w next Q := by
            intro sx _ hq
            obtain ⟨sv, v, hK, hr, hT⟩ := hq
            unfold Oper.wp
            simp only [execOp, resolve, invoke, builtin, Sem.run_bind, Sem.run_pure, Result.andThen_ok, List.map_toArray, List.map_cons, List.map_nil, hr]
            exact hn _ _ _ _ _ _ _ hK hS hT
          split at h
          · rename_i s hs
            split at h
            · rename_i i hi
              cases hb : i.isS with
              | false => rw [hb] at h; exact h.elim
              | true =>
                rw [hb] at h
                simp only [cond] at h
                have hu := (htb _ _ hi).isS hb
                exact fin rfl (qLen_sound hB htb (x := .c (.val (.string s))) (.inr hu) h (by rw [← hs]; exact E x) ⟨fun _ => rfl, fun _ => hu⟩)
            · exact h.elim
          · rename_i hns
            split at h
            · rename_i i hi
              cases hb : i.elem with
              | none => rw [hb] at h; exact h.elim
              | some e =>
                rw [hb] at h
                obtain ⟨e1, e2, e3⟩ := e
                have hu := ((htb _ _ hi).elem _ _ _ hb).1
                have hno : (asStr (ev T x)).isSome = true → False := by
                  intro h0
                  unfold asStr at h0
                  split at h0
                  · rename_i s hs; exact hns s hs
                  · cases h0
                have hns' : P.underlying t ≠ some .string := by rw [hu]; simp
                exact fin rfl (qLen_sound hB htb (.inl ⟨i, _, hi, hb⟩) h (E x) ⟨fun h0 => absurd h0 hns', fun h0 => (hno h0).elim⟩)
            · exact h.elim
        · exact h.elim
      case append =>
        split at h
        · rename_i s x t t' hx ht
          have hx' : args = #[s, x] := by cases args; simp_all
          have ht' : argTypes = #[t, t'] := by cases argTypes; simp_all
          subst hx' ht'
          cases hb : Nat.beq t t' with
          | false => rw [hb] at h; exact h.elim
          | true =>
            rw [hb] at h
            have := Nat.eq_of_beq_eq_true hb
            subst this
            obtain ⟨sv, T', H', ρ', F', v, w', hK, hr, hS', hT⟩ := eAppend_sound (ty := type) htb hS h (E s) (E x)
            unfold Oper.wp
            simp only [execOp, resolve, invoke, builtin, Sem.run_bind, Sem.run_pure, Result.andThen_ok, List.map_toArray, List.map_cons, List.map_nil, hr]
            exact hn _ _ _ _ _ _ _ hK hS' hT
        · exact h.elim
    | value f =>
      simp only at h
      split at h
      · rename_i k caps hf
        have hT := E f
        rw [hf] at hT
        obtain ⟨cvs, heq, hcl, hc⟩ := T_clo hT
        obtain ⟨h1, h2⟩ := argsS_sound (tbl := tbl) hS args.toList argTypes.toList
        obtain ⟨hfn, hcall⟩ := CallN_sound (vs := args.toList.map a.eval ++ cvs) hS h (by simp only [List.length_append, h1, hcl]) fun j s v hs hv => by
          by_cases hj : j < (argsS tbl T args.toList argTypes.toList).length
          · rw [List.getElem?_append_left hj] at hs
            rw [List.getElem?_append_left (by rw [← h1]; exact hj)] at hv
            exact h2 j s v hs hv
          · rw [List.getElem?_append_right (by omega)] at hs
            rw [List.getElem?_append_right (by rw [← h1]; omega), ← h1] at hv
            exact .v (.c (hc _ s v hs hv))
        obtain ⟨fn, hfn1, hfn2, hfn3⟩ := hfn
        have hargs : args.map a.eval ++ cvs.toArray = (args.toList.map a.eval ++ cvs).toArray := by
          apply Array.toList_inj.1; simp
        unfold Oper.wp
        simp only [execOp, resolve, heq, Deferred.ofValue, Sem.run_bind, Sem.run_pure, Result.andThen_ok, invoke, callFunc, run_program, hfn1, hfn2, hfn3, Bool.false_eq_true, if_false, Oper.upon_enter]
        simp only [Array.empty_append]
        rw [hargs]
        refine hcall.mono ?_
        rintro e w' ⟨sv, T', H', ρ', F', v, rfl, hK, hS', hT⟩
        exact hn _ _ _ _ _ _ _ hK hS' hT
      · exact h.elim

end
end Go.KA
