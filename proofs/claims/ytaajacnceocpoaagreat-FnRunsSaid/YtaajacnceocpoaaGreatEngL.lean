/- Part of a proof engine for functions of the given program: what an operation, a loop and a call compute, symbolically. No conditions. -/
import Derived.Test.YtaajacnceocpoaaGreatEngK
namespace Go.KA
open Go Go.RowKit

/-! ### How a callee reads what it is handed -/
def viewC (H : HM) : Nat → SV → Option CV
  | 0, _ => none
  | n + 1, s => match s with
    | .c x => some x
    | .lw i => match H i with
      | .row _ _ sz rows => some (.ro sz rows)
      | .orow _ _ sz rows => some (.ro sz (roLL rows))
      | _ => none
    | .ls i sz off len => match H i with
      | .row _ _ sz' rows => cond (Nat.beq sz sz') (some (.ro sz ((rows.drop off).take len))) none
      | .orow _ _ sz' rows => cond (Nat.beq sz sz') (some (.ro sz (((roLL rows).drop off).take len))) none
      | _ => none
    | .lp i off => match H i with
      | .cc sz cs => some (.rp (sz - off) (cs.drop off))
      | .cells cs => match mapO (viewC H n) cs with
        | some l => some (.rp (l.length - off) (l.drop off))
        | none => none
      | _ => none
    | .le i sz idx off => match H i with
      | .row _ _ sz' rows => cond (Nat.beq sz sz') (match rows[idx]? with | some r => some (.rp (sz - off) (r.drop off)) | none => none) none
      | _ => none
    | _ => none
def viewV (H : HM) (s : SV) : Option SV :=
  match s with
  | .a n cs => some (.a n cs)
  | .m cs => match mapO (viewC H 5) cs with
    | some l => some (.a l.length l)
    | none => none
  | .clo k caps => match mapO (viewC H 5) caps with
    | some l => some (.clo k (l.map .c))
    | none => none
  | .any => none
  | .tup _ => none
  | x => match viewC H 5 x with
    | some c => some (.c c)
    | none => none
def closedC : SV → Bool
  | .c _ => true
  | _ => false
def closedV : SV → Bool
  | .c _ => true
  | .a _ _ => true
  | .clo _ caps => caps.all closedC
  | _ => false
def scalC : CV → Bool
  | .val _ => true
  | .cb _ => true
  | .any => true
  | _ => false
def scalV : SV → Bool
  | .c x => scalC x
  | .a _ cs => cs.all scalC
  | _ => false
def scalS : SV → Bool
  | .tup vs => vs.all scalV
  | .any => true
  | x => scalV x
def pureV : SV → Prop
  | .c x => pureC x
  | .a _ cs => ∀ x ∈ cs, pureC x
  | _ => False
def pureT : SV → Prop
  | .tup ss => ∀ s ∈ ss, pureV s
  | .any => True
  | s => pureV s
def pureO : List (Option (List CV)) → Prop
  | [] => True
  | none :: os => pureO os
  | some cs :: os => (∀ c ∈ cs, pureC c) ∧ pureO os

/-! ### Handing over -/
def lentI : SV → List Nat
  | .lp k _ => [k]
  | s => lwsC s
def lentS (H : HM) (s : SV) : List Nat :=
  match s with
  | .lw k => [k]
  | .lp k _ => match H k with | .cells cs => k :: cs.flatMap lentI | _ => [k]
  | .m cs => cs.flatMap lwsC
  | _ => []
def lentL (H : HM) : List Bool → List SV → List Nat
  | true :: ms, s :: ss => lentS H s ++ lentL H ms ss
  | false :: ms, _ :: ss => lentL H ms ss
  | _, _ => []
def lendC (H : HM) : SV → Option CV
  | .lw k => match H k with
    | .orow (some v) ty sz rows => some (.ownp v ty sz rows)
    | _ => consC H (.lw k)
  | s => consC H s
def lendI (H : HM) (s : SV) : Option CV :=
  match s with
  | .lp k off => match H k with
    | .cc _ cs => cond (Nat.beq off 0) (some (.op cs)) none
    | _ => none
  | s => lendC H s
def lendS (H : HM) (s : SV) : Option SV :=
  match s with
  | .lw k => match consC H (.lw k) with | some x => some (.c x) | none => none
  | .lp k off => match H k with
    | .cc _ cs => cond (Nat.beq off 0) (some (.c (.op cs))) none
    | .cells cs => cond (Nat.beq off 0) (match mapO (lendI H) cs with | some l => some (.c (.op l)) | none => none) none
    | .bld t e s => cond (Nat.beq off 0) (some (.c (.bld t e s))) none
    | _ => none
  | .m cs => match mapO (consC H) cs with | some l => some (.m (l.map .c)) | none => none
  | _ => none
def memN (l : List Nat) (x : Nat) : Bool := l.any (Nat.beq x)
def maskOut (ks : List Nat) (H : HM) : HM := fun i => cond (memN ks i) .dead (H i)
def prepL (H Hv : HM) : List Bool → List SV → Option (List SV)
  | _, [] => some []
  | true :: ms, s :: ss => match lendS H s, prepL H Hv ms ss with | some x, some xs => some (x :: xs) | _, _ => none
  | false :: ms, s :: ss => match viewV Hv s, prepL H Hv ms ss with | some x, some xs => some (x :: xs) | _, _ => none
  | [], s :: ss => match viewV Hv s, prepL H Hv [] ss with | some x, some xs => some (x :: xs) | _, _ => none
def prep (H : HM) (md : List Bool) (args : List SV) : Option (List SV) :=
  match md with
  | [] => prepL H H [] args
  | md => prepL H (maskOut (lentL H md args) H) md args
def closedA : List Bool → List SV → Bool
  | _, [] => true
  | true :: ms, _ :: ss => closedA ms ss
  | false :: ms, s :: ss => closedV s && closedA ms ss
  | [], s :: ss => closedV s && closedA [] ss

/-! ### Afterwards -/
def markB : Blk → Option Value
  | .row o _ _ _ => o
  | .orow o _ _ _ => o
  | _ => none
def rnOf : List SV → List SV → List (Nat × Nat)
  | .lw j :: cs, .lw n :: ss => (n, j) :: rnOf cs ss
  | _ :: cs, _ :: ss => rnOf cs ss
  | _, _ => []
def outM (H : HM) : List SV → List CV → Option (List (Nat × Blk))
  | [], [] => some []
  | .lw k :: ss, c :: cs => match c with
    | .ows ty sz rows => match outM H ss cs with | some l => some ((k, .row (markB (H k)) ty sz rows) :: l) | none => none
    | .own ty sz rows => match outM H ss cs with | some l => some ((k, .orow (markB (H k)) ty sz rows) :: l) | none => none
    | _ => none
  | .c _ :: ss, c :: cs => match plainC c with | true => outM H ss cs | false => none
  | _, _ => none
def isLp : SV → Bool
  | .lp _ _ => true
  | _ => false
def nestB (H : HM) (k : Nat) : Bool := match H k with | .cells cs => cs.any isLp | _ => false
def outI : Nat → List SV → List CV → Option (List SV × List (Nat × Blk) × Nat)
  | n, [], [] => some ([], [], n)
  | n, .lp j off :: ss, c :: cs => match c with
    | .op is => match adopt1 is n with
      | some (ks, bs, m) => match outI m ss cs with
        | some (ss', ws, m') => some (.lp j off :: ss', bs ++ (j, mkBlk ks) :: ws, m')
        | none => none
      | none => none
    | _ => none
  | n, .c _ :: ss, c :: cs => match plainC c with
    | true => match outI n ss cs with
      | some (ss', ws, m') => some (.c c :: ss', ws, m')
      | none => none
    | false => none
  | _, _, _ => none
def outA (H : HM) (n : Nat) (s : SV) (o : Option (List CV)) : Option (List (Nat × Blk) × Nat × List (Nat × Nat)) :=
  match s with
  | .lw k => match o with
    | some [.ows ty sz rows] => some ([(k, .row (markB (H k)) ty sz rows)], n, [])
    | some [.own ty sz rows] => some ([(k, .orow (markB (H k)) ty sz rows)], n, [])
    | none => some ([(k, .dead)], n, [])
    | _ => none
  | .lp k _ => match o with
    | some [.op cells] => match nestB H k with
      | true => match H k with
        | .cells cs => match outI n cs cells with
          | some (ss, ws, m) => some (ws ++ [(k, mkBlk ss)], m, [])
          | none => none
        | _ => none
      | false => match adopt1 cells n with
        | some (ss, bs, m) => match H k with
          | .cells cs => some (bs ++ deadL (cs.flatMap lentI) ++ [(k, mkBlk ss)], m, rnOf cs ss)
          | _ => some (bs ++ [(k, mkBlk ss)], m, [])
        | none => none
    | some [.bld t e s] => match H k with
      | .bld _ _ _ => some ([(k, .bld t e s)], n, [])
      | _ => none
    | none => match H k with
      | .cells cs => some (deadL (k :: cs.flatMap lentI), n, [])
      | _ => some ([(k, .dead)], n, [])
    | _ => none
  | .m ss => match o with
    | some cs => match outM H ss cs with | some l => some (l, n, []) | none => none
    | none => some (deadL (ss.flatMap lwsC), n, [])
  | _ => none
def hdO : List (Option (List CV)) → Option (List CV)
  | o :: _ => o
  | [] => none
def outsL (H : HM) : Nat → List Bool → List SV → List (Option (List CV)) → Option (List (Nat × Blk) × Nat × List (Nat × Nat))
  | n, true :: ms, s :: ss, os => match outA H n s (hdO os) with
    | some (ws, m, rn) => match outsL H m ms ss os.tail with
      | some (ws', m', rn') => some (ws ++ ws', m', rn ++ rn')
      | none => none
    | none => none
  | n, false :: ms, _ :: ss, os => match hdO os with
    | none => outsL H n ms ss os.tail
    | some _ => none
  | n, _, _, [] => some ([], n, [])
  | _, _, _, _ :: _ => none
def callEff (H : HM) (md : List Bool) (args : List SV) (outs : List (Option (List CV))) (r : SV) (n : Nat) : Option Eff :=
  match adoptT r n with
  | some (sv, bs, m) => match outsL H m md args outs with
    | some (ws, m', rn) => some ⟨sv, bs ++ ws, m' - n, rn⟩
    | none => none
  | none => none

inductive CallN {d : Bool} (P : Program) (f : Nat) (args : List SV) (H : HM) (n : Nat) (K : Eff → Prop) : Prop
  | pure (args' : List SV) (r : SV) (hv : prep H [] args = some args') (h : CallX P f args' [] r) (hs : (closedA [] args || scalS r) = true) (E : Eff) (he : callEff H [] args [] r n = some E) (k : K E)
  | own (args' : List SV) (r : SV) (hv : prep H [] args = some args') (h : CallX P f args' [] r) (hp : pureT r) (E : Eff) (he : callEff H [] args [] r n = some E) (k : K E)
  | gen (md : List Bool) (args' : List SV) (outs : List (Option (List CV))) (r : SV) (hv : prep H md args = some args') (h : CallX P f args' outs r) (hn : nodupN (lentL H md args) = true) (hc : closedA md args = true) (E : Eff) (he : callEff H md args outs r n = some E) (k : K E)
  | pug (md : List Bool) (args' : List SV) (outs : List (Option (List CV))) (r : SV) (hv : prep H md args = some args') (h : CallX P f args' outs r) (hn : nodupN (lentL H md args) = true) (hp : pureT r ∧ pureO outs) (E : Eff) (he : callEff H md args outs r n = some E) (k : K E)
  | ex {α : Type} (hd : d = false) (md : List Bool) (args' : List SV) (φ : α → Prop) (outs : α → List (Option (List CV))) (r : α → SV) (hv : prep H md args = some args') (h : CallE P f args' φ outs r) (hn : nodupN (lentL H md args) = true) (hc : closedA md args = true)
      (k : ∀ x, φ x → match callEff H md args (outs x) (r x) n with | some E => K E | none => False)

section
variable {ρ : RM} {w : World} {ok okv : Nat → Prop} {H : HM} {F : FM}

section
variable (hB : ∀ i, H i = .dead ∨ BDen ρ w ok (H i) (ρ i) (F i)) (hok : ∀ b, ok b → okv b) (hF : ∀ i, H i ≠ .dead → ∀ b ∈ F i, okv b)
include hB hok hF
theorem viewC_sound : ∀ (n : Nat) (s : SV) (c : CV) (v : Value), viewC H n s = some c → CDen ρ w ok s v → Den w okv [c] [v] []
  | 0, _, _, _, h, _ => by simp [viewC] at h
  | n + 1, s, c, v, h, hd => by
    simp only [viewC] at h
    split at h
    · injection h with h
      subst h
      cases hd with
      | c h => exact h.mono (fun _ _ => rfl) hok (by simp)
    · rename_i i
      split at h
      · rename_i o ty sz rows hi
        injection h with h
        subst h
        obtain ⟨u, xs, hu, ho, hr, hin, hFi, _⟩ := B_row hB hi
        have hFo := hF i (by rw [hi]; simp)
        cases hd with
        | lw hv =>
          rw [hu] at hv
          injection hv with hv
          subst hv
          have := den_ro (Den.ows hin hr ho .nil) hok (by rw [hFi] at hFo; simpa using hFo)
          simpa [roC] using this
      · rename_i o ty sz rows hi
        injection h with h
        subst h
        obtain ⟨u, xs, f, hu, ho, hr, hin, hFi, _⟩ := B_orow hB hi
        have hFo := hF i (by rw [hi]; simp)
        cases hd with
        | lw hv =>
          rw [hu] at hv
          injection hv with hv
          subst hv
          have := den_ro (Den.own hin hr ho .nil) hok (by rw [hFi] at hFo; simpa using hFo)
          simpa [roC] using this
      · cases h
    · rename_i i sz off len
      have fin : ∀ {rows : List (List CV)} {xs : List Value} {b m c c' : Nat}, Den w okv rows.flatten xs [] → (∀ r ∈ rows, r.length = sz) → At w ⟨b, 0, none⟩ xs → okv b → rows.length = m → off + len ≤ m → len ≤ c' → c' ≤ maxLen →
          Den w okv [.ro sz ((rows.drop off).take len)] [.slice (some ⟨b, off * sz, none⟩) len c'] [] := by
        intro rows xs b m c c' hin hr hat hb hm h1 h2 h3
        refine .ro (by simp; omega) h2 h3 (fun r hr' => hr r (List.mem_of_mem_drop (List.mem_of_mem_take hr'))) (den_take_drop (off := off) (len := len) hin hr) (fun j x hx => ⟨_, rfl, rfl, hb, ?_⟩) .nil
        have hat' := at_take (at_drop hat (off * sz)) (len * sz)
        rw [add_mk, Nat.zero_add] at hat'
        exact hat' j x hx
      split at h
      · rename_i o ty sz' rows hi
        cases hb : Nat.beq sz sz' with
        | false => rw [hb] at h; cases h
        | true =>
          rw [hb] at h
          have := Nat.eq_of_beq_eq_true hb
          subst this
          injection h with h
          subst h
          obtain ⟨u, xs, hu, ho, hr, hin, hFi, _⟩ := B_row hB hi
          have hFo := hF i (by rw [hi]; simp)
          cases hd with
          | @ls _ _ _ _ b n c c' hv h1 h2 h3 =>
            rw [hu] at hv
            injection hv with hv
            subst hv
            obtain ⟨hat, hn, hc, hm⟩ := row_at ho rfl
            exact fin (c := c) (hin.mono (fun _ _ => rfl) hok (by simp)) hr hat (hFo b (by rw [hFi]; simp [Value.ownBlock])) hn.symm h1 h2 h3
      · rename_i o ty sz' rows hi
        cases hb : Nat.beq sz sz' with
        | false => rw [hb] at h; cases h
        | true =>
          rw [hb] at h
          have := Nat.eq_of_beq_eq_true hb
          subst this
          injection h with h
          subst h
          obtain ⟨u, xs, f, hu, ho, hr, hin, hFi, _⟩ := B_orow hB hi
          have hFo := hF i (by rw [hi]; simp)
          cases hd with
          | @ls _ _ _ _ b n c c' hv h1 h2 h3 =>
            rw [hu] at hv
            injection hv with hv
            subst hv
            obtain ⟨hat, hn, hc, hm⟩ := row_at ho rfl
            have hd := den_ro hin hok (fun c hc => hFo c (by rw [hFi]; simp [hc]))
            rw [← roLL_flat] at hd
            have hr' : ∀ r ∈ roLL rows, r.length = sz := by
              rw [roLL_map]
              intro r hr0
              obtain ⟨r0, h0, rfl⟩ := List.mem_map.1 hr0
              simpa using hr r0 h0
            exact fin (c := c) hd hr' hat (hFo b (by rw [hFi]; simp [Value.ownBlock])) (by rw [roLL_map, List.length_map]; exact hn.symm) h1 h2 h3
      · cases h
    · rename_i i off
      split at h
      · rename_i sz cs hi
        injection h with h
        subst h
        obtain ⟨b, ty, arr, hρ, hh, hl, hin, hFi⟩ := B_cc hB hi
        have hFo := hF i (by rw [hi]; simp)
        cases hd with
        | lp hv =>
          rw [hρ] at hv
          simp only [Option.some.injEq, Value.pointer.injEq, Addr.mk.injEq, and_true] at hv
          subst hv
          have hat' := at_drop (arr_at hh) off
          rw [add_mk, Nat.zero_add] at hat'
          refine .rp (by simp [hl]) (den_drop (hin.mono (fun _ _ => rfl) hok (by simp)) off) rfl (fun j x hx => ⟨_, rfl, rfl, hFo b (by simp [hFi]), hat' j x hx⟩) .nil
      · rename_i cs hi
        split at h
        · rename_i l hl'
          injection h with h
          subst h
          obtain ⟨b, ty, arr, hρ, hh, hl, hin, hFi⟩ := B_cells hB hi
          have hFo := hF i (by rw [hi]; simp)
          cases hd with
          | lp hv =>
            rw [hρ] at hv
            simp only [Option.some.injEq, Value.pointer.injEq, Addr.mk.injEq, and_true] at hv
            subst hv
            have hat' := at_drop (arr_at hh) off
            rw [add_mk, Nat.zero_add] at hat'
            have key : ∀ (cs : List SV) (l : List CV) (vs : List Value), mapO (viewC H n) cs = some l → cs.length = vs.length → (∀ (j : Nat) a v, cs[j]? = some a → vs[j]? = some v → CDen ρ w ok a v) → Den w okv l vs [] := by
              intro cs
              induction cs with
              | nil => intro l vs h1 h2 _; simp [mapO] at h1; subst h1; cases vs with | nil => exact .nil | cons _ _ => simp at h2
              | cons c cs ih =>
                intro l vs h1 h2 h3
                simp only [mapO] at h1
                split at h1
                · rename_i y ys hy hys
                  injection h1 with h1
                  subst h1
                  cases vs with
                  | nil => simp at h2
                  | cons v vs =>
                    have h4 := viewC_sound n c y v hy (h3 0 _ _ rfl rfl)
                    have h5 := ih ys vs hys (by simpa using h2) fun j a v ha hv => h3 (j + 1) a v ha hv
                    simpa using h4.append h5
                · cases h1
            refine .rp (by simp) (den_drop (key cs l _ hl' hl hin) off) rfl (fun j x hx => ⟨_, rfl, rfl, hFo b (by simp [hFi]), hat' j x hx⟩) .nil
        · cases h
      · cases h
    · rename_i i sz idx off
      split at h
      · rename_i o ty sz' rows hi
        cases hb : Nat.beq sz sz' with
        | false => rw [hb] at h; cases h
        | true =>
          rw [hb] at h
          have := Nat.eq_of_beq_eq_true hb
          subst this
          simp only [cond] at h
          split at h
          · rename_i r hx
            injection h with h
            subst h
            obtain ⟨u, xs, hu, ho, hr, hin, hFi, _⟩ := B_row hB hi
            have hFo := hF i (by rw [hi]; simp)
            cases hd with
            | @le _ _ _ _ b n0 c0 hv =>
              rw [hu] at hv
              injection hv with hv
              subst hv
              obtain ⟨hat, _, _, _⟩ := row_at ho rfl
              have hat' := at_drop (at_take (at_drop hat (idx * sz)) sz) off
              rw [add_mk, add_mk, Nat.zero_add] at hat'
              have d1 := den_drop (den_take (den_drop hin (idx * sz)) sz) off
              rw [flatten_row hr hx] at d1
              have hrl := hr r (List.mem_of_getElem? hx)
              exact .rp (by simp [hrl]) (d1.mono (fun _ _ => rfl) hok (by simp)) rfl (fun j x hx => ⟨_, rfl, rfl, hFo b (by rw [hFi]; simp [Value.ownBlock]), hat' j x hx⟩) .nil
          · cases h
      · cases h
    · cases h

theorem viewL_sound {n : Nat} : ∀ {cs : List SV} {l : List CV} {vs : List Value}, mapO (viewC H n) cs = some l → cs.length = vs.length → (∀ (j : Nat) a v, cs[j]? = some a → vs[j]? = some v → CDen ρ w ok a v) → Den w okv l vs [] ∧ l.length = vs.length := by
  intro cs
  induction cs with
  | nil => intro l vs h1 h2 _; simp [mapO] at h1; subst h1; cases vs with | nil => exact ⟨.nil, rfl⟩ | cons _ _ => simp at h2
  | cons c cs ih =>
    intro l vs h1 h2 h3
    simp only [mapO] at h1
    split at h1
    · rename_i y ys hy hys
      injection h1 with h1
      subst h1
      cases vs with
      | nil => simp at h2
      | cons v vs =>
        have h4 := viewC_sound hB hok hF n c y v hy (h3 0 _ _ rfl rfl)
        obtain ⟨h5, h6⟩ := ih hys (by simpa using h2) fun j a v ha hv => h3 (j + 1) a v ha hv
        exact ⟨by simpa using h4.append h5, by simp [h6]⟩
    · cases h1

theorem viewV_sound {s s' : SV} {v : Value} (h : viewV H s = some s') (hd : VDen ρ w ok s v) : ∀ ρ', VDen ρ' w okv s' v := by
  intro ρ'
  unfold viewV at h
  split at h
  · injection h with h
    subst h
    cases hd with
    | c h => cases h
    | a hl h => exact .a hl (h.mono (fun _ _ => rfl) hok (by simp))
  · split at h
    · rename_i l hl'
      injection h with h
      subst h
      cases hd with
      | c h => cases h
      | m hl h =>
        obtain ⟨h1, h2⟩ := viewL_sound hB hok hF hl' hl h
        exact .a rfl h1
    · cases h
  · split at h
    · rename_i l hl'
      injection h with h
      subst h
      cases hd with
      | c h => cases h
      | clo hl h =>
        obtain ⟨h1, h2⟩ := viewL_sound hB hok hF hl' hl h
        refine .clo (by simp [h2]) fun j a v ha hv => ?_
        rw [List.getElem?_map] at ha
        cases hc : l[j]? with
        | none => simp [hc] at ha
        | some c =>
          simp [hc] at ha
          subst ha
          exact .c (h1.get hc hv)
    · cases h
  · cases h
  · cases h
  · split at h
    · rename_i c hc
      injection h with h
      subst h
      have : CDen ρ w ok s v := by
        cases hd with
        | c h => exact h
        | a _ _ => simp_all
        | m _ _ => simp_all
        | clo _ _ => simp_all
      exact .c (.c (viewC_sound hB hok hF 5 s c v hc this))
    · cases h
end

theorem closedV_sound (hok : ∀ b, ok b → okv b) {s : SV} {v : Value} (h : closedV s = true) (hd : VDen ρ w ok s v) : ∀ ρ', VDen ρ' w okv s v := by
  intro ρ'
  cases hd with
  | c hd => cases hd <;> first | cases h | skip
            rename_i hd
            exact .c (.c (hd.mono (fun _ _ => rfl) hok (by simp)))
  | a hl hd => exact .a hl (hd.mono (fun _ _ => rfl) hok (by simp))
  | m hl hd => cases h
  | clo hl hd =>
    refine .clo hl fun j a v ha hv => ?_
    have h1 := hd j a v ha hv
    simp only [closedV, List.all_eq_true] at h
    have h2 := h a (List.mem_of_getElem? ha)
    cases h1 <;> first | cases h2 | skip
    rename_i h1
    exact .c (h1.mono (fun _ _ => rfl) hok (by simp))
theorem closed_view : ∀ {s s' : SV}, closedV s = true → viewV H s = some s' → s' = s := by
  intro s s' hc hv
  unfold closedV at hc
  split at hc
  · simp [viewV, viewC] at hv; exact hv.symm
  · simp [viewV] at hv; exact hv.symm
  · rename_i k caps
    have key : ∀ (caps : List SV) (l : List CV), caps.all closedC = true → mapO (viewC H 5) caps = some l → l.map .c = caps := by
      intro caps
      induction caps with
      | nil => intro l _ h; simp [mapO] at h; subst h; rfl
      | cons c cs ih =>
        intro l hc h
        simp only [List.all_cons, Bool.and_eq_true] at hc
        simp only [mapO] at h
        cases c <;> first | (simp [closedC] at hc; done) | skip
        rename_i x
        simp only [viewC] at h
        split at h
        · rename_i y ys hy hys
          injection h with h
          injection hy with hy
          subst h hy
          simp [ih ys hc.2 hys]
        · cases h
    simp only [viewV] at hv
    split at hv
    · rename_i l hl
      injection hv with hv
      subst hv
      rw [key caps l hc hl]
    · cases hv
  · cases hc
theorem T_to_V {s s' : SV} {v : Value} (hv : viewV H s = some s') (h : TDen ρ w ok s v) : VDen ρ w ok s v := by
  cases h with
  | any => simp [viewV] at hv
  | v h => exact h
  | tup _ _ => simp [viewV] at hv

theorem lendC_sound (hB : ∀ i, H i = .dead ∨ BDen ρ w ok (H i) (ρ i) (F i)) {s : SV} {x : CV} {v : Value} (h : lendC H s = some x) (hd : CDen ρ w ok s v) : Den w ok [x] [v] ((lwsC s).flatMap F) := by
  unfold lendC at h
  split at h
  · rename_i k
    split at h
    · rename_i u ty sz rows hk
      injection h with h
      subst h
      cases hd with
      | lw hv =>
        obtain ⟨u', xs, f, hu, ho, hr, hin, hF, hm⟩ := B_orow hB hk
        rw [hv] at hu
        injection hu with hu
        subst hu
        have := hm _ rfl
        subst this
        have := Den.ownp hin hr ho .nil
        simpa [lwsC, hF] using this
    · exact consC_sound hB h hd
  · exact consC_sound hB h hd
theorem lendI_sound (hB : ∀ i, H i = .dead ∨ BDen ρ w ok (H i) (ρ i) (F i)) {s : SV} {x : CV} {v : Value} (h : lendI H s = some x) (hd : CDen ρ w ok s v) : Den w ok [x] [v] ((lentI s).flatMap F) := by
  unfold lendI at h
  split at h
  · rename_i k off
    split at h
    · rename_i sz cs hk
      cases hb : Nat.beq off 0 with
      | false => rw [hb] at h; cases h
      | true =>
        rw [hb] at h
        have := Nat.eq_of_beq_eq_true hb
        subst this
        injection h with h
        subst h
        obtain ⟨b', ty, arr, hρ', hh, hl, hin, hFk⟩ := B_cc hB hk
        cases hd with
        | lp hρ =>
          rw [hρ] at hρ'
          simp only [Option.some.injEq, Value.pointer.injEq, Addr.mk.injEq, and_true] at hρ'
          subst hρ'
          have := Den.op hh hin .nil
          simpa [lentI, hFk] using this
    · cases h
  · rename_i hne
    have e : lentI s = lwsC s := by cases s <;> first | rfl | exact (hne _ _ rfl).elim
    rw [e]
    exact lendC_sound hB h hd
theorem lendO_sound (hB : ∀ i, H i = .dead ∨ BDen ρ w ok (H i) (ρ i) (F i)) : ∀ {cs : List SV} {l : List CV} {vs : List Value}, mapO (lendI H) cs = some l → cs.length = vs.length → (∀ (j : Nat) a v, cs[j]? = some a → vs[j]? = some v → CDen ρ w ok a v) →
    Den w ok l vs ((cs.flatMap lentI).flatMap F)
  | [], l, vs, h, hl, _ => by
    simp [mapO] at h
    subst h
    cases vs with
    | nil => simpa using Den.nil
    | cons _ _ => simp at hl
  | c :: cs, l, vs, h, hl, hd => by
    cases vs with
    | nil => simp at hl
    | cons v vs =>
      simp only [mapO] at h
      split at h
      · rename_i y ys hy hys
        injection h with h
        subst h
        have h1 := lendI_sound hB hy (hd 0 _ _ rfl rfl)
        have h3 := lendO_sound hB hys (by simpa using hl) fun j a v ha hv => hd (j + 1) a v ha hv
        have := h1.append h3
        simpa using this
      · cases h
theorem lendC_live {Hm : HM} {s : SV} {x : CV} (h : lendC Hm s = some x) : ∀ k ∈ lwsC s, Hm k ≠ .dead := by
  unfold lendC at h
  split at h
  · rename_i k
    split at h
    · rename_i u ty sz rows hk
      intro i hi e
      simp only [lwsC, List.mem_singleton] at hi
      subst hi
      rw [hk] at e
      cases e
    · exact consC_live h
  · exact consC_live h
theorem lendI_live {Hm : HM} {s : SV} {x : CV} (h : lendI Hm s = some x) : ∀ k ∈ lentI s, Hm k ≠ .dead := by
  unfold lendI at h
  split at h
  · rename_i k off
    split at h
    · rename_i sz cs hk
      intro i hi e
      simp only [lentI, List.mem_singleton] at hi
      subst hi
      rw [hk] at e
      cases e
    · cases h
  · rename_i hne
    have e : lentI s = lwsC s := by cases s <;> first | rfl | exact (hne _ _ rfl).elim
    rw [e]
    exact lendC_live h
theorem lendO_live {Hm : HM} : ∀ {cs : List SV} {l : List CV}, mapO (lendI Hm) cs = some l → ∀ k ∈ cs.flatMap lentI, Hm k ≠ .dead
  | [], _, _, k, hk => by simp at hk
  | c :: cs, l, h, k, hk => by
    simp only [mapO] at h
    split at h
    · rename_i y ys hy hys
      simp only [List.flatMap_cons, List.mem_append] at hk
      rcases hk with hk | hk
      · exact lendI_live hy k hk
      · exact lendO_live hys k hk
    · cases h
theorem lendS_sound (hB : ∀ i, H i = .dead ∨ BDen ρ w ok (H i) (ρ i) (F i)) (hok : ∀ b, ok b → okv b) {s s' : SV} {v : Value} (h : lendS H s = some s') (hd : TDen ρ w ok s v) : ADen w okv s' v ((lentS H s).flatMap F) := by
  unfold lendS at h
  split at h
  · rename_i k
    split at h
    · rename_i x hx
      injection h with h
      subst h
      have hc : CDen ρ w ok (.lw k) v := by cases hd with | v h => cases h with | c h => exact h
      have := consC_sound hB hx hc
      exact .o (this.mono (fun _ _ => rfl) hok (fun _ _ => rfl))
    · cases h
  · rename_i k off
    obtain ⟨b, hρ, rfl⟩ := T_lp hd
    split at h
    · rename_i sz cs hk
      cases hb : Nat.beq off 0 with
      | false => rw [hb] at h; cases h
      | true =>
        rw [hb] at h
        have := Nat.eq_of_beq_eq_true hb
        subst this
        injection h with h
        subst h
        obtain ⟨b', ty, arr, hρ', hh, hl, hin, hFk⟩ := B_cc hB hk
        rw [hρ] at hρ'
        simp only [Option.some.injEq, Value.pointer.injEq, Addr.mk.injEq, and_true] at hρ'
        subst hρ'
        have := Den.op hh hin .nil
        simp only [lentS, hk, List.flatMap_cons, List.flatMap_nil, hFk]
        exact .o (this.mono (fun _ _ => rfl) hok (fun _ _ => rfl))
    · rename_i cs hk
      cases hb : Nat.beq off 0 with
      | false => rw [hb] at h; cases h
      | true =>
        rw [hb] at h
        have := Nat.eq_of_beq_eq_true hb
        subst this
        simp only [cond] at h
        split at h
        · rename_i l hl0
          injection h with h
          subst h
          obtain ⟨b', ty, arr, hρ', hh, hl, hin, hFk⟩ := B_cells hB hk
          rw [hρ] at hρ'
          simp only [Option.some.injEq, Value.pointer.injEq, Addr.mk.injEq, and_true] at hρ'
          subst hρ'
          have := Den.op hh (lendO_sound hB hl0 hl hin) .nil
          simp only [lentS, hk, List.flatMap_cons, hFk]
          have := this.mono (w' := w) (ok' := okv) (fun _ _ => rfl) hok (fun _ _ => rfl)
          simp only [List.append_nil] at this
          exact .o this
        · cases h
    · rename_i t e s hk
      cases hb : Nat.beq off 0 with
      | false => rw [hb] at h; cases h
      | true =>
        rw [hb] at h
        have := Nat.eq_of_beq_eq_true hb
        subst this
        injection h with h
        subst h
        obtain ⟨b', p, u, hρ', hp, hh, ho, hFk⟩ := B_bld hB hk
        rw [hρ] at hρ'
        simp only [Option.some.injEq, Value.pointer.injEq, Addr.mk.injEq, and_true] at hρ'
        subst hρ'
        have := Den.bld (ok := okv) hp hh ho .nil
        simp only [lentS, hk, List.flatMap_cons, List.flatMap_nil, hFk]
        exact .o this
    · cases h
  · rename_i cs
    split at h
    · rename_i l hl
      injection h with h
      subst h
      cases hd with
      | v hd => cases hd with
        | c hd => cases hd
        | m hlen hh => exact .m ((by simpa [lentS] using consO_sound hB hl hlen hh : Den w ok l _ _).mono (fun _ _ => rfl) hok (fun _ _ => rfl))
    · cases h
  · cases h

theorem prepL_sound {Hv : HM} (hB : ∀ i, H i = .dead ∨ BDen ρ w ok (H i) (ρ i) (F i)) (hBv : ∀ i, Hv i = .dead ∨ BDen ρ w ok (Hv i) (ρ i) (F i)) (hok : ∀ b, ok b → okv b) : ∀ {md : List Bool} {args args' : List SV} {vs : List Value},
    ((∀ i, Hv i ≠ .dead → ∀ b ∈ F i, okv b) ∨ closedA md args = true) → prepL H Hv md args = some args' → args.length = vs.length → (∀ (j : Nat) s v, args[j]? = some s → vs[j]? = some v → TDen ρ w ok s v) →
    AL w okv args' vs ((lentL H md args).flatMap F) := by
  intro md args
  induction args generalizing md with
  | nil =>
    intro args' vs _ h hl _
    have : args' = [] := by cases md <;> simpa [prepL] using h.symm
    subst this
    cases vs with
    | nil => have : lentL H md [] = [] := by cases md with | nil => rfl | cons m _ => cases m <;> rfl
             rw [this]; exact .nil
    | cons _ _ => simp at hl
  | cons s ss ih =>
    intro args' vs hF h hl hd
    cases vs with
    | nil => simp at hl
    | cons v vs =>
      have h0 := hd 0 s v rfl rfl
      have htl := fun j s v hs hv => hd (j + 1) s v hs hv
      have view : ∀ {x : SV}, (∀ i, Hv i ≠ .dead → ∀ b ∈ F i, okv b) ∨ closedV s = true → viewV Hv s = some x → ADen w okv x v [] := by
        intro x hc hx
        rcases hc with hc | hc
        · exact .v (viewV_sound hBv hok hc hx (T_to_V hx h0))
        · have := closed_view hc hx
          subst this
          exact .v (closedV_sound hok hc (T_to_V hx h0))
      cases md with
      | nil =>
        simp only [prepL] at h
        split at h
        · rename_i x xs hx hxs
          injection h with h
          subst h
          have h1 := ih (md := []) (hF.imp_right fun hc => by simp only [closedA, Bool.and_eq_true] at hc; exact hc.2) hxs (by simpa using hl) htl
          have h2 := view (hF.imp_right fun hc => by simp only [closedA, Bool.and_eq_true] at hc; exact hc.1) hx
          have := AL.cons h2 h1
          simpa [lentL] using this
        · cases h
      | cons m ms =>
        cases m with
        | true =>
          simp only [prepL] at h
          split at h
          · rename_i x xs hx hxs
            injection h with h
            subst h
            have h1 := ih (md := ms) (hF.imp_right fun hc => by simpa [closedA] using hc) hxs (by simpa using hl) htl
            have h2 := lendS_sound hB hok hx h0
            have := AL.cons h2 h1
            simpa [lentL] using this
          · cases h
        | false =>
          simp only [prepL] at h
          split at h
          · rename_i x xs hx hxs
            injection h with h
            subst h
            have h1 := ih (md := ms) (hF.imp_right fun hc => by simp only [closedA, Bool.and_eq_true] at hc; exact hc.2) hxs (by simpa using hl) htl
            have h2 := view (hF.imp_right fun hc => by simp only [closedA, Bool.and_eq_true] at hc; exact hc.1) hx
            have := AL.cons h2 h1
            simpa [lentL] using this
          · cases h
end

/-! ### What is scalar, or owns all that it is, does not hang on what may be read -/
section
variable {w : World} {ok okv : Nat → Prop}
theorem scal_pure {x : CV} (h : scalC x = true) : pureC x := by cases x <;> first | trivial | cases h
theorem ODen.pure {s : SV} {v : Value} {f : List Nat} (h : ODen w ok s v f) (hp : pureV s) : ODen w okv s v f := by
  cases h with
  | v h =>
    have h0 := h (fun _ => none)
    cases h0 with
    | c hc => cases hc with
      | c hd => exact .v fun ρ => .c (.c (den_pure hd (by simpa [pureV] using hp)))
      | lp h' => cases h'
      | le h' => cases h'
      | lw h' => cases h'
      | ls h' => cases h'
      | mp h' => cases h'
    | a hl hd => exact .v fun ρ => .a hl (den_pure hd hp)
    | m _ _ => exact hp.elim
    | clo _ _ => exact hp.elim
  | o h => exact .o (den_pure h (by simpa [pureV] using hp))
  | a hl h => exact .a hl (den_pure h hp)
theorem OL.pure {ss : List SV} {vs : List Value} {f : List Nat} (h : OL w ok ss vs f) (hp : ∀ s ∈ ss, pureV s) : OL w okv ss vs f := by
  induction h with
  | nil => exact .nil
  | cons h _ ih => exact .cons (h.pure (hp _ (by simp))) (ih fun s hs => hp s (by simp [hs]))
theorem OT.pure {s : SV} {v : Value} {f : List Nat} (h : OT w ok s v f) (hp : pureT s) : OT w okv s v f := by
  cases h with
  | any => exact .any
  | v h =>
    refine .v (h.pure ?_)
    cases s <;> first | exact hp | skip
    · exact h.not_any.elim
    · cases h with
      | v h => cases h (fun _ => none) with | c h => cases h
  | tup h => exact .tup (h.pure hp)
theorem OutL.pure {w0 : World} {os : List (Option (List CV))} {vs : List Value} {f : List Nat} (h : OutL w0 w ok os vs f) (hp : pureO os) : OutL w0 w okv os vs f := by
  induction h with
  | nil => exact .nil
  | none _ ih => exact .none (ih hp)
  | some h hk _ ih => exact .some (den_pure h hp.1) hk (ih hp.2)
theorem OutL.mono {w0 : World} {ok' : Nat → Prop} {os : List (Option (List CV))} {vs : List Value} {f : List Nat} (h : OutL w0 w ok os vs f) (hok : ∀ b, ok b → ok' b) : OutL w0 w ok' os vs f := by
  induction h with
  | nil => exact .nil
  | none _ ih => exact .none ih
  | some h hk _ ih => exact .some (h.mono (fun _ _ => rfl) hok (fun _ _ => rfl)) hk ih
theorem OT.mono' {ok' : Nat → Prop} {s : SV} {v : Value} {f : List Nat} (h : OT w ok s v f) (hok : ∀ b, ok b → ok' b) : OT w ok' s v f := by
  cases h with
  | any => exact .any
  | v h => exact .v (h.mono (fun _ _ => rfl) hok (fun _ _ => rfl))
  | tup h => exact .tup (h.mono (fun _ _ => rfl) hok (fun _ _ => rfl))
theorem scal_pureV {s : SV} (h : scalV s = true) : pureV s := by
  cases s <;> simp only [scalV] at h <;> first | cases h | skip
  · exact scal_pure h
  · intro x hx
    exact scal_pure (List.all_eq_true.1 h x hx)
theorem scal_pureT {s : SV} (h : scalS s = true) : pureT s := by
  cases s <;> simp only [scalS] at h <;> first | exact scal_pureV h | trivial | skip
  intro s hs
  exact scal_pureV (List.all_eq_true.1 h s hs)
end
end Go.KA
