/- Part of a proof engine for functions of the given program: what an operation, a loop and a call compute, symbolically. No conditions. -/
import Derived.Test.YtaajacnceocpoaaGreatEngQ
namespace Go.KA
open Go Go.RowKit

/-! ### Steps without an operation -/
def frzR : Blk → Option CV
  | .row _ _ sz rows => some (.ro sz rows)
  | .orow _ _ sz rows => some (.ro sz (roLL rows))
  | _ => none
def frzH (j : Nat) (r : CV) (H : HM) : HM := fun i => cond (Nat.beq i j) .dead (mapB (frzC j r) (H i))
def frzQ : Blk → Option (List CV)
  | .cc _ cs => some cs
  | _ => none
def frzP (k : Nat) (cs : List CV) : SV → SV
  | .lp i off => cond (Nat.beq i k) (.c (.rp (cs.length - off) (cs.drop off))) (.lp i off)
  | x => x
def frzG (j : Nat) (g : SV → SV) (H : HM) : HM := fun i => cond (Nat.beq i j) .dead (mapB g (H i))
/-! ### Inner parts are from now on only read -/
inductive SoftC : List CV → List CV → Prop
  | nil : SoftC [] []
  | same {c cs cs'} (h : SoftC cs cs') : SoftC (c :: cs) (c :: cs')
  | ro {c cs cs'} (h : SoftC cs cs') : SoftC (c :: cs) (roC c :: cs')
  | ows {ty sz rows cs cs'} (h : SoftC cs cs') : SoftC (.own ty sz rows :: cs) (.ows ty sz (roLL rows) :: cs')
theorem SoftC.len {cs cs' : List CV} (h : SoftC cs cs') : cs'.length = cs.length := by
  induction h <;> simp_all
theorem SoftC.refl : ∀ cs : List CV, SoftC cs cs
  | [] => .nil
  | _ :: cs => .same (SoftC.refl cs)
theorem SoftC.append {as as' bs bs' : List CV} (h : SoftC as as') (k : SoftC bs bs') : SoftC (as ++ bs) (as' ++ bs') := by
  induction h with
  | nil => exact k
  | same _ ih => exact .same ih
  | ro _ ih => exact .ro ih
  | ows _ ih => exact .ows ih
theorem SoftC.den {w : World} {ok : Nat → Prop} {cs cs' : List CV} (hs : SoftC cs cs') : ∀ {vs : List Value} {f : List Nat}, Den w ok cs vs f → f.Nodup →
    ∃ f', f'.Sublist f ∧ ∀ ok' : Nat → Prop, (∀ b, ok b → ok' b) → (∀ b ∈ f, b ∉ f' → ok' b) → Den w ok' cs' vs f' := by
  induction hs with
  | nil =>
    intro vs f h _
    cases h
    exact ⟨[], List.Sublist.refl _, fun _ _ _ => .nil⟩
  | @same c cs cs' hs ih =>
    intro vs f h hn
    obtain ⟨us, ts, g, k, rfl, rfl, h1, h2⟩ := Den.split (as := [c]) h
    rw [List.nodup_append] at hn
    obtain ⟨k', hk, hd⟩ := ih h2 hn.2.1
    refine ⟨g ++ k', (List.Sublist.refl g).append hk, fun ok' hok hin => ?_⟩
    refine (h1.mono (fun _ _ => rfl) hok fun _ _ => rfl).append (hd ok' hok fun b hb hb' => hin b (by simp [hb]) fun hm => ?_)
    rcases List.mem_append.1 hm with hm | hm
    · exact hn.2.2 b hm b hb rfl
    · exact hb' hm
  | @ro c cs cs' hs ih =>
    intro vs f h hn
    obtain ⟨us, ts, g, k, rfl, rfl, h1, h2⟩ := Den.split (as := [c]) h
    rw [List.nodup_append] at hn
    obtain ⟨k', hk, hd⟩ := ih h2 hn.2.1
    refine ⟨k', hk.trans (List.sublist_append_right g k), fun ok' hok hin => ?_⟩
    have e := (den_ro h1 hok fun b hb => hin b (by simp [hb]) fun hm => hn.2.2 b hb b (hk.subset hm) rfl).append (hd ok' hok fun b hb hb' => hin b (by simp [hb]) hb')
    simpa using e
  | @ows ty sz rows cs cs' hs ih =>
    intro vs f h hn
    cases h with
    | @own as vs f ty sz rows xs v g hin hr ho ht =>
      rw [List.nodup_append, List.nodup_append] at hn
      obtain ⟨k', hk, hd⟩ := ih ht hn.2.1
      refine ⟨v.ownBlock.toList ++ k', ?_, fun ok' hok hok2 => ?_⟩
      · exact ((List.sublist_append_left _ g)).append hk
      · have hk2 : ∀ b ∈ g, ok' b := fun b hb => hok2 b (by simp [hb]) fun hm => by
          rcases List.mem_append.1 hm with hm | hm
          · exact hn.1.2.2 b hm b hb rfl
          · exact hn.2.2 b (by simp [hb]) b (hk.subset hm) rfl
        have h1 := den_ro hin hok hk2
        rw [← roLL_flat] at h1
        have hlen : (roLL rows).length = rows.length := by rw [roLL_map]; simp
        have hr' : ∀ r ∈ roLL rows, r.length = sz := by
          rw [roLL_map]
          intro r hr0
          obtain ⟨r0, h0, rfl⟩ := List.mem_map.1 hr0
          simpa using hr r0 h0
        refine .ows h1 hr' (by rw [hlen]; exact ho) (hd ok' hok fun b hb hb' => hok2 b (by simp [hb]) fun hm => ?_)
        rcases List.mem_append.1 hm with hm | hm
        · exact hn.2.2 b (by simp [hm]) b hb rfl
        · exact hb' hm
inductive SoftL : List (List CV) → List (List CV) → Prop
  | nil : SoftL [] []
  | cons {r r' rs rs'} (h : SoftC r r') (t : SoftL rs rs') : SoftL (r :: rs) (r' :: rs')
theorem SoftL.flat {rs rs' : List (List CV)} (h : SoftL rs rs') : SoftC rs.flatten rs'.flatten := by
  induction h with
  | nil => exact .nil
  | cons h _ ih => exact h.append ih
theorem SoftL.len {rs rs' : List (List CV)} (h : SoftL rs rs') : rs'.length = rs.length := by
  induction h <;> simp_all
theorem SoftL.rows {rs rs' : List (List CV)} {sz : Nat} (h : SoftL rs rs') : (∀ r ∈ rs, r.length = sz) → ∀ r ∈ rs', r.length = sz := by
  induction h with
  | nil => exact fun h => h
  | cons h _ ih =>
    intro hr r hm
    rcases List.mem_cons.1 hm with rfl | hm
    · rw [h.len]; exact hr _ (by simp)
    · exact ih (fun r hr' => hr r (by simp [hr'])) r hm
theorem SoftL.map {α : Type} {f g : α → List CV} (h : ∀ x, SoftC (f x) (g x)) : ∀ l : List α, SoftL (l.map f) (l.map g)
  | [] => .nil
  | x :: xs => .cons (h x) (SoftL.map h xs)
def boolC : SV → SV
  | .c (.cb b) => .c (.val (.bool b))
  | s => s
theorem boolC_sound {ρ : RM} {w : World} {ok : Nat → Prop} {s : SV} {v : Value} (h : CDen ρ w ok s v) : CDen ρ w ok (boolC s) v := by
  unfold boolC
  split
  · cases h with | c h => rw [den_cb h]; exact .c (mk_val rfl)
  · exact h
inductive SoftB : Blk → Blk → Prop
  | row {o ty sz rows} : SoftB (.orow o ty sz rows) (.row o ty sz (roLL rows))
  | orow {o ty sz rows rows'} (h : SoftL rows rows') : SoftB (.orow o ty sz rows) (.orow o ty sz rows')
  | unpin {o ty sz rows} : SoftB (.orow o ty sz rows) (.orow none ty sz rows)
  | up {o ty sz rows} : SoftB (.row o ty sz rows) (.orow o ty sz rows)
  | cc {cs l} (h : allC cs = some l) : SoftB (.cells cs) (.cc l.length l)
  | cb {cs} : SoftB (.cells cs) (.cells (cs.map boolC))
theorem SoftB.den {ρ : RM} {w : World} {ok : Nat → Prop} {b b' : Blk} {v : Option Value} {f : List Nat} (hs : SoftB b b') (h : BDen ρ w ok b v f) (hn : f.Nodup) :
    ∃ f', f'.Sublist f ∧ ∀ ok' : Nat → Prop, (∀ b, ok b → ok' b) → (∀ b ∈ f, b ∉ f' → ok' b) → BDen ρ w ok' b' v f' := by
  cases hs with
  | @row o ty sz rows =>
    cases h with
    | @orow _ _ _ _ v xs g ho hr hin hv =>
      rw [List.nodup_append] at hn
      refine ⟨v.ownBlock.toList, List.sublist_append_left _ _, fun ok' hok hok2 => ?_⟩
      have h1 := den_ro hin hok fun b hb => hok2 b (by simp [hb]) fun hm => hn.2.2 b hm b hb rfl
      rw [← roLL_flat] at h1
      have hlen : (roLL rows).length = rows.length := by rw [roLL_map]; simp
      refine .row (by rw [hlen]; exact ho) ?_ h1 hv
      rw [roLL_map]
      intro r hr0
      obtain ⟨r0, h0, rfl⟩ := List.mem_map.1 hr0
      simpa using hr r0 h0
  | @orow o ty sz rows rows' hl =>
    cases h with
    | @orow _ _ _ _ v xs g ho hr hin hv =>
      rw [List.nodup_append] at hn
      obtain ⟨k', hk, hd⟩ := hl.flat.den hin hn.2.1
      refine ⟨v.ownBlock.toList ++ k', (List.Sublist.refl _).append hk, fun ok' hok hok2 => ?_⟩
      refine .orow (by rw [hl.len]; exact ho) (hl.rows hr) (hd ok' hok fun b hb hb' => hok2 b (by simp [hb]) fun hm => ?_) hv
      rcases List.mem_append.1 hm with hm | hm
      · exact hn.2.2 b hm b hb rfl
      · exact hb' hm
  | @cc cs l hl =>
    refine ⟨f, List.Sublist.refl _, fun ok' hok _ => ?_⟩
    cases h with
    | @cells ty cs b arr hb hlen hh =>
      obtain ⟨h1, h2⟩ := allC_sound hl hlen hh
      exact .cc hb rfl (h1.mono (fun _ _ => rfl) hok (by simp))
  | @cb cs =>
    refine ⟨f, List.Sublist.refl _, fun ok' hok _ => ?_⟩
    cases h with
    | @cells ty cs b arr hb hlen hh =>
      refine .cells hb (by simpa using hlen) fun j a v ha hv => ?_
      rw [List.getElem?_map] at ha
      cases h0 : cs[j]? with
      | none => rw [h0] at ha; cases ha
      | some a0 =>
        rw [h0] at ha
        obtain rfl := Option.some.inj ha
        exact (boolC_sound (hh j a0 v h0 hv)).mono (fun _ _ => rfl) hok (Ext.refl _)
  | @up o ty sz rows =>
    refine ⟨f, List.Sublist.refl _, fun ok' hok _ => ?_⟩
    cases h with
    | @row _ _ _ _ v xs ho hr hin hv =>
      have h1 := BDen.orow (ρ := ρ) (w := w) (ok := ok') (o := o) (ty := ty) (sz := sz) (rows := rows) (f := []) ho hr (hin.mono (fun _ _ => rfl) hok (fun _ _ => rfl)) hv
      rwa [List.append_nil] at h1
  | @unpin o ty sz rows =>
    refine ⟨f, List.Sublist.refl _, fun ok' hok _ => ?_⟩
    cases h with
    | orow ho hr hin hv => exact .orow ho hr (hin.mono (fun _ _ => rfl) hok (fun _ _ => rfl)) (by simp)
inductive Gh (np n : Nat) : TM → HM → (TM → HM → Prop) → Prop
  | go {T H K} (k : K T H) : Gh np n T H K
  | frz {T H K} (j : Nat) (r : CV) (hr : frzR (H j) = some r) (k : Gh np n (mapT (frzC j r) T) (frzH j r H) K) : Gh np n T H K
  | frzp {T H K} (j : Nat) (cs : List CV) (hr : frzQ (H j) = some cs) (k : Gh np n (mapT (frzP j cs) T) (frzG j (frzP j cs) H) K) : Gh np n T H K
  | soft {T H K} (j : Nat) {b' : Blk} (h : SoftB (H j) b') (k : Gh np n T (updH H j b') K) : Gh np n T H K
  | close {T H K} (j idx off k : Nat) {o : Option Value} {ty sz : Nat} {rows : List (List CV)} {r : List CV} {v : Value} {ty' sz' : Nat} {rows' : List (List CV)} (h1 : H j = .orow o ty sz rows) (h2 : rows[idx]? = some r) (h3 : r[off]? = some (.val v)) (h4 : H k = .orow (some v) ty' sz' rows') (hjk : Nat.beq j k = false)
      (g : Gh np n T (updH (updH H k .dead) j (.orow o ty sz (rows.set idx (splice r off [.own ty' sz' rows'])))) K) : Gh np n T H K
  | closes {T H K} (j idx off k : Nat) {o : Option Value} {ty sz : Nat} {rows : List (List CV)} {r : List CV} {v : Value} {ty' sz' : Nat} {rows' : List (List CV)} (h1 : H j = .orow o ty sz rows) (h2 : rows[idx]? = some r) (h3 : r[off]? = some (.val v)) (h4 : H k = .row (some v) ty' sz' rows') (hjk : Nat.beq j k = false)
      (g : Gh np n T (updH (updH H k .dead) j (.orow o ty sz (rows.set idx (splice r off [.ows ty' sz' rows'])))) K) : Gh np n T H K
  | pin {T H K} (j : Nat) {o : Option Value} {ty sz : Nat} {rows : List (List CV)} (h : H j = .orow o ty sz rows) (k : ∀ v : Value, Gh np n T (updH H j (.orow (some v) ty sz rows)) K) : Gh np n T H K
  | told {T H K} (i j : Nat) {v : Value} {ty sz : Nat} {rows : List (List CV)} (ht : T i = .lw j) (h : H j = .orow (some v) ty sz rows) (k : Gh np n (updT T i (.c (.val v))) H K) : Gh np n T H K
  | link {T H K} (i j : Nat) {v : Value} {ty sz : Nat} {rows : List (List CV)} (ht : T i = .c (.val v)) (h : H j = .orow (some v) ty sz rows) (k : Gh np n (updT T i (.lw j)) H K) : Gh np n T H K
  | ren {T H K} (a b : Nat) (h : (okRn np (a, b) H && Nat.blt b n) = true) (k : Gh np n (mapT (renC a b) T) (renH a b H) K) : Gh np n T H K

section
variable {Γ : Cx} {H : HM} {ρ : RM} {F : FM} {w : World}
theorem frz_C {ok ok' : Nat → Prop} {k : Nat} {r : CV} (hok : ∀ b, ok b → ok' b) (hr : ∀ v, ρ k = some v → Den w ok' [r] [v] []) {a : SV} {v : Value} (h : CDen ρ w ok a v) : CDen ρ w ok' (frzC k r a) v := by
  cases h with
  | c h => exact .c (h.mono (fun _ _ => rfl) hok (by simp))
  | lp h => exact .lp h
  | le h => exact .le h
  | @lw i a n c h =>
    simp only [frzC]
    cases hb : Nat.beq i k with
    | true =>
      have := Nat.eq_of_beq_eq_true hb
      subst this
      exact .c (hr _ h)
    | false => exact .lw h
  | ls h h1 h2 h3 h4 => exact .ls h h1 h2 h3 h4
  | mp h => exact .mp h
theorem St.frz {nt : Nat} {T : TM} {a : Act} (hS : St Γ nt T H ρ F a w) {j : Nat} {r : CV} (hr : frzR (H j) = some r) : St Γ nt (mapT (frzC j r) T) (frzH j r H) ρ (updF F j []) a w := by
  have h := hS.mem
  have hok : ∀ b, okOf Γ F w b → okOf Γ (updF F j []) w b := by
    intro b hb
    refine ⟨hb.1, hb.2.1, ?_⟩
    rintro ⟨i, hi⟩
    by_cases e : i = j
    · subst e; rw [updF_self] at hi; cases hi
    · rw [updF_ne e] at hi; exact hb.2.2 ⟨i, hi⟩
  have hokF : ∀ b ∈ F j, okOf Γ (updF F j []) w b := by
    intro b hb
    refine ⟨h.lt j b hb, .inr (h.src j b hb), ?_⟩
    rintro ⟨i, hi⟩
    by_cases e : i = j
    · subst e; rw [updF_self] at hi; cases hi
    · rw [updF_ne e] at hi; exact e (h.disj i j b hi hb)
  have hden : ∀ v, ρ j = some v → Den w (okOf Γ (updF F j []) w) [r] [v] [] := by
    intro v hv
    have hB := h.hb (LeH.refl H)
    unfold frzR at hr
    split at hr
    · rename_i hj
      injection hr with hr
      subst hr
      obtain ⟨v', xs, hv', ho, hrr, hin, hF, _⟩ := B_row hB hj
      rw [hv] at hv'
      injection hv' with hv'
      subst hv'
      have := den_ro (Den.ows hin hrr ho .nil) hok (by rw [hF] at hokF; simpa using hokF)
      simpa [roC] using this
    · rename_i hj
      injection hr with hr
      subst hr
      obtain ⟨v', xs, f, hv', ho, hrr, hin, hF, _⟩ := B_orow hB hj
      rw [hv] at hv'
      injection hv' with hv'
      subst hv'
      have := den_ro (Den.own hin hrr ho .nil) hok (by rw [hF] at hokF; simpa using hokF)
      simpa [roC] using this
    · cases hr
  have hg : ∀ a v, CDen ρ w (okOf Γ F w) a v → CDen ρ w (okOf Γ (updF F j []) w) (frzC j r a) v := fun a v => frz_C hok hden
  refine ⟨⟨fun i => ?_, fun i k b hi hk => ?_, fun i => ?_, fun i b hb => ?_, fun i b hb => ?_, h.inlt, h.frame, h.size, h.os, h.tape, h.output, h.pin⟩, hS.defers, hS.nt, fun i => map_T hg hok (hS.tmps i)⟩
  · unfold frzH
    by_cases e : i = j
    · subst e
      simp only [Nat.beq_refl, cond]
      rw [updF_self]
      exact .dead
    · have hb : Nat.beq i j = false := by
        cases hb : Nat.beq i j with
        | true => exact absurd (Nat.eq_of_beq_eq_true hb) e
        | false => rfl
      rw [hb, updF_ne e]
      exact map_B hg hok (h.blocks i)
  · by_cases e : i = j
    · subst e; rw [updF_self] at hi; cases hi
    · by_cases e' : k = j
      · subst e'; rw [updF_self] at hk; cases hk
      · rw [updF_ne e] at hi; rw [updF_ne e'] at hk; exact h.disj i k b hi hk
  · by_cases e : i = j
    · subst e; rw [updF_self]; simp
    · rw [updF_ne e]; exact h.nodup i
  · by_cases e : i = j
    · subst e; rw [updF_self] at hb; cases hb
    · rw [updF_ne e] at hb; exact h.lt i b hb
  · by_cases e : i = j
    · subst e; rw [updF_self] at hb; cases hb
    · rw [updF_ne e] at hb; exact h.src i b hb

theorem St.frozen {nt : Nat} {T : TM} {a : Act} (hS : St Γ nt T H ρ F a w) {j : Nat} {g : SV → SV} (hgg : (∀ b, okOf Γ F w b → okOf Γ (updF F j []) w b) → (∀ b ∈ F j, okOf Γ (updF F j []) w b) → ∀ a v, CDen ρ w (okOf Γ F w) a v → CDen ρ w (okOf Γ (updF F j []) w) (g a) v) : St Γ nt (mapT g T) (frzG j g H) ρ (updF F j []) a w := by
  have h := hS.mem
  have hok : ∀ b, okOf Γ F w b → okOf Γ (updF F j []) w b := by
    intro b hb
    refine ⟨hb.1, hb.2.1, ?_⟩
    rintro ⟨i, hi⟩
    by_cases e : i = j
    · subst e; rw [updF_self] at hi; cases hi
    · rw [updF_ne e] at hi; exact hb.2.2 ⟨i, hi⟩
  have hokF : ∀ b ∈ F j, okOf Γ (updF F j []) w b := by
    intro b hb
    refine ⟨h.lt j b hb, .inr (h.src j b hb), ?_⟩
    rintro ⟨i, hi⟩
    by_cases e : i = j
    · subst e; rw [updF_self] at hi; cases hi
    · rw [updF_ne e] at hi; exact e (h.disj i j b hi hb)
  have hg := hgg hok hokF
  refine ⟨⟨fun i => ?_, fun i k b hi hk => ?_, fun i => ?_, fun i b hb => ?_, fun i b hb => ?_, h.inlt, h.frame, h.size, h.os, h.tape, h.output, h.pin⟩, hS.defers, hS.nt, fun i => map_T hg hok (hS.tmps i)⟩
  · unfold frzG
    by_cases e : i = j
    · subst e
      simp only [Nat.beq_refl, cond]
      rw [updF_self]
      exact .dead
    · have hb : Nat.beq i j = false := by
        cases hb : Nat.beq i j with
        | true => exact absurd (Nat.eq_of_beq_eq_true hb) e
        | false => rfl
      rw [hb, updF_ne e]
      exact map_B hg hok (h.blocks i)
  · by_cases e : i = j
    · subst e; rw [updF_self] at hi; cases hi
    · by_cases e' : k = j
      · subst e'; rw [updF_self] at hk; cases hk
      · rw [updF_ne e] at hi; rw [updF_ne e'] at hk; exact h.disj i k b hi hk
  · by_cases e : i = j
    · subst e; rw [updF_self]; simp
    · rw [updF_ne e]; exact h.nodup i
  · by_cases e : i = j
    · subst e; rw [updF_self] at hb; cases hb
    · rw [updF_ne e] at hb; exact h.lt i b hb
  · by_cases e : i = j
    · subst e; rw [updF_self] at hb; cases hb
    · rw [updF_ne e] at hb; exact h.src i b hb

theorem St.frozenP {nt : Nat} {T : TM} {a : Act} (hS : St Γ nt T H ρ F a w) {j : Nat} {cs : List CV} (hr : frzQ (H j) = some cs) : St Γ nt (mapT (frzP j cs) T) (frzG j (frzP j cs) H) ρ (updF F j []) a w := by
  refine hS.frozen fun hok hokF a v hd => ?_
  have hB := hS.mem.hb (LeH.refl H)
  unfold frzQ at hr
  split at hr
  case h_2 => cases hr
  rename_i sz cs' hj
  injection hr with hr
  subst hr
  obtain ⟨b, ty, arr, hρ, hh, hl, hin, hFi⟩ := B_cc hB hj
  cases hd with
  | c h => exact .c (h.mono (fun _ _ => rfl) hok (by simp))
  | @lp i off b' h =>
    simp only [frzP]
    cases hb : Nat.beq i j with
    | true =>
      have := Nat.eq_of_beq_eq_true hb
      subst this
      rw [hρ] at h
      simp only [Option.some.injEq, Value.pointer.injEq, Addr.mk.injEq, and_true] at h
      subst h
      have hat' := at_drop (arr_at hh) off
      rw [add_mk, Nat.zero_add] at hat'
      exact .c (.rp (by simp) (den_drop (hin.mono (fun _ _ => rfl) hok (by simp)) off) rfl (fun k x hx => ⟨_, rfl, rfl, hokF b (by simp [hFi]), hat' k x hx⟩) .nil)
    | false => exact .lp h
  | le h => exact .le h
  | lw h => exact .lw h
  | ls h h1 h2 h3 h4 => exact .ls h h1 h2 h3 h4
  | mp h => exact .mp h

theorem flat_splice {sz idx off : Nat} {rows : List (List CV)} {r cs : List CV} (hr : ∀ r ∈ rows, r.length = sz) (hx : rows[idx]? = some r) (hfit : off + cs.length ≤ sz) : (rows.set idx (splice r off cs)).flatten = splice rows.flatten (idx * sz + off) cs := by
  have hrl := hr r (List.mem_of_getElem? hx)
  have hidx := (List.getElem?_eq_some_iff.1 hx).1
  have e0 : rows = rows.take idx ++ r :: rows.drop (idx + 1) := by
    obtain ⟨h1, h2⟩ := List.getElem?_eq_some_iff.1 hx
    rw [← h2]
    simp
  have e1 : rows.set idx (splice r off cs) = rows.take idx ++ splice r off cs :: rows.drop (idx + 1) := by
    rw [List.set_eq_take_append_cons_drop]
    simp [hidx]
  have hlt : (rows.take idx).flatten.length = idx * sz := by
    rw [flatten_len fun r hr' => hr r (List.mem_of_mem_take hr'), List.length_take]
    congr 1
    omega
  rw [e1]
  conv => rhs; rw [e0]
  simp only [List.flatten_append, List.flatten_cons]
  unfold splice
  rw [List.take_append, hlt, List.take_of_length_le (l := (rows.take idx).flatten) (by omega), show idx * sz + off - idx * sz = off by omega, List.take_append, List.drop_append, hlt,
    List.drop_of_length_le (l := (rows.take idx).flatten) (by omega), show idx * sz + off + cs.length - idx * sz = off + cs.length by omega, List.drop_append,
    show off - r.length = 0 by omega, show off + cs.length - r.length = 0 by omega]
  simp

theorem St.close {nt : Nat} {T : TM} {a : Act} (hS : St Γ nt T H ρ F a w) {j idx off k : Nat} {o : Option Value} {ty sz : Nat} {rows : List (List CV)} {r : List CV} {v : Value} {c : CV} (h1 : H j = .orow o ty sz rows) (h2 : rows[idx]? = some r) (h3 : r[off]? = some (.val v))
    (hc : ρ k = some v → Den w (okOf Γ F w) [c] [v] (F k)) (hk : ∃ u, ρ k = some u ∧ u = v) (hjk : Nat.beq j k = false) : ∃ F', St Γ nt T (updH (updH H k .dead) j (.orow o ty sz (rows.set idx (splice r off [c])))) ρ F' a w := by
  have hm := hS.mem
  have hne := nbeq hjk
  obtain ⟨u, xs, f, hu, ho, hr, hin, hF, hv⟩ := B_orow (hm.hb (LeH.refl H)) h1
  obtain ⟨_, hρk, rfl⟩ := hk
  have hd := hc hρk
  have hrl := hr r (List.mem_of_getElem? h2)
  have hoff := (List.getElem?_eq_some_iff.1 h3).1
  have hidx := (List.getElem?_eq_some_iff.1 h2).1
  obtain ⟨f1, f2, f3, rfl, hdd⟩ := den_spliceF hin hd (idx * sz + off)
  rw [← flat_splice hr h2 (by simp; omega)] at hdd
  -- the value itself stays where it was
  rename_i u0
  have hcell : rows.flatten[idx * sz + off]? = some (.val u0) := by
    have h5 := flatten_row hr h2
    have h6 : ((rows.flatten.drop (idx * sz)).take sz)[off]? = some (.val u0) := by rw [h5]; exact h3
    rw [List.getElem?_take, if_pos (by omega), List.getElem?_drop] at h6
    exact h6
  have hxs : xs[idx * sz + off]? = some u0 := by
    have hlt : idx * sz + off < rows.flatten.length := (List.getElem?_eq_some_iff.1 hcell).1
    have hlt' : idx * sz + off < xs.length := by rw [← hin.length]; exact hlt
    obtain ⟨g1, g2, _, k1, k2⟩ := den_cut hin (idx * sz + off)
    have e1 : rows.flatten.drop (idx * sz + off) = .val u0 :: rows.flatten.drop (idx * sz + off + 1) := by
      rw [List.drop_eq_getElem_cons hlt]
      congr 1
      have := List.getElem?_eq_getElem hlt
      rw [hcell] at this
      injection this with this
      exact this.symm
    have e2 : xs.drop (idx * sz + off) = xs[idx * sz + off] :: xs.drop (idx * sz + off + 1) := List.drop_eq_getElem_cons hlt'
    rw [e1, e2] at k2
    rw [List.getElem?_eq_getElem hlt']
    generalize xs[idx * sz + off] = y at k2
    cases k2
    rfl
  have hspl : splice xs (idx * sz + off) [u0] = xs := by
    unfold splice
    have hlt' := (List.getElem?_eq_some_iff.1 hxs).1
    have : xs[idx * sz + off] = u0 := (List.getElem?_eq_some_iff.1 hxs).2
    conv => rhs; rw [← List.take_append_drop (idx * sz + off) xs, List.drop_eq_getElem_cons hlt', this]
    simp
  rw [hspl] at hdd
  have hnd := hm.nodup j
  rw [hF] at hnd
  have hFk : ∀ b ∈ F k, b ∉ F j := fun b hb hbj => hne (hm.disj j k b hbj hb)
  have hrow : ∀ q ∈ rows.set idx (splice r off [c]), q.length = sz := by
    intro q hq
    rcases List.mem_or_eq_of_mem_set hq with h | h
    · exact hr q h
    · rw [h, splice_len (by simp; omega)]; exact hrl
  rw [List.nodup_append, List.nodup_append, List.nodup_append] at hnd
  obtain ⟨n1, ⟨⟨n2, _, n3⟩, n4, n5⟩, n6⟩ := hnd
  obtain ⟨g1, g2, g3⟩ := hm.absorb (j := j) (ks := [k]) (k := .orow o ty sz (rows.set idx (splice r off [c]))) (f := u.ownBlock.toList ++ (f1 ++ F k ++ f3)) (ρ' := ρ) (w' := w) rfl rfl rfl (Nat.le_refl _) (Ext.refl _) (fun _ _ => rfl) (by simpa using hne) (fun _ _ _ _ => rfl)
    (fun b hb => by
      simp only [List.mem_append] at hb
      rcases hb with hb | (hb | hb) | hb
      · exact .inl (by rw [hF]; simp; exact .inl (by simpa using hb))
      · exact .inl (by rw [hF]; simp [hb])
      · exact .inr (.inl ⟨k, by simp, hb⟩)
      · exact .inl (by rw [hF]; simp [hb]))
    (by
      rw [List.nodup_append, List.nodup_append, List.nodup_append]
      refine ⟨n1, ⟨⟨n2, hm.nodup k, fun a ha b hb e => ?_⟩, n4, fun a ha b hb e => ?_⟩, fun a ha b hb e => ?_⟩
      · subst e; exact hFk a hb (by rw [hF]; simp [ha])
      · subst e
        rcases List.mem_append.1 ha with ha | ha
        · exact n5 a (by simp [ha]) a hb rfl
        · exact hFk a ha (by rw [hF]; simp [hb])
      · subst e
        simp only [List.mem_append] at hb
        rcases hb with (hb | hb) | hb
        · exact n6 a ha a (by simp [hb]) rfl
        · exact hFk a hb (by rw [hF]; exact List.mem_append_left _ ha)
        · exact n6 a ha a (by simp [hb]) rfl)
    (fun ok' hok' => by
      rw [hu]
      exact .orow (xs := xs) (by rw [List.length_set]; exact ho) hrow (hdd.mono (fun _ _ => rfl) hok' (fun _ _ => rfl)) hv)
  exact ⟨_, hS.move g1 (Ext.refl _) g2 g3⟩

theorem St.soft {nt : Nat} {T : TM} {a : Act} (hS : St Γ nt T H ρ F a w) {j : Nat} {b' : Blk} (hs : SoftB (H j) b') : ∃ f', St Γ nt T (updH H j b') ρ (updF F j f') a w := by
  have h := hS.mem
  obtain ⟨f', hsub, hd⟩ := hs.den (h.blocks j) (h.nodup j)
  have hok : ∀ b, okOf Γ F w b → okOf Γ (updF F j f') w b := by
    intro b hb
    refine ⟨hb.1, hb.2.1, ?_⟩
    rintro ⟨i, hi⟩
    by_cases e : i = j
    · subst e; rw [updF_self] at hi; exact hb.2.2 ⟨_, hsub.subset hi⟩
    · rw [updF_ne e] at hi; exact hb.2.2 ⟨i, hi⟩
  have hokF : ∀ b ∈ F j, b ∉ f' → okOf Γ (updF F j f') w b := by
    intro b hb hb'
    refine ⟨h.lt j b hb, .inr (h.src j b hb), ?_⟩
    rintro ⟨i, hi⟩
    by_cases e : i = j
    · subst e; rw [updF_self] at hi; exact hb' hi
    · rw [updF_ne e] at hi; exact e (h.disj i j b hi hb)
  refine ⟨f', ⟨fun i => ?_, fun i k b hi hk => ?_, fun i => ?_, fun i b hb => ?_, fun i b hb => ?_, h.inlt, h.frame, h.size, h.os, h.tape, h.output, h.pin⟩, hS.defers, hS.nt, fun i => (hS.tmps i).mono (fun _ _ => rfl) hok (Ext.refl _)⟩
  · by_cases e : i = j
    · subst e
      rw [updF_self, updH_self]
      exact hd _ hok hokF
    · rw [updF_ne e, updH_ne e]
      exact (h.blocks i).mono (fun _ _ => rfl) hok (fun _ _ => rfl) (Ext.refl _)
  · have hi' : b ∈ F i := by
      by_cases e : i = j
      · subst e; rw [updF_self] at hi; exact hsub.subset hi
      · rwa [updF_ne e] at hi
    have hk' : b ∈ F k := by
      by_cases e : k = j
      · subst e; rw [updF_self] at hk; exact hsub.subset hk
      · rwa [updF_ne e] at hk
    exact h.disj i k b hi' hk'
  · by_cases e : i = j
    · subst e; rw [updF_self]; exact hsub.nodup (h.nodup _)
    · rw [updF_ne e]; exact h.nodup i
  · by_cases e : i = j
    · subst e; rw [updF_self] at hb; exact h.lt _ b (hsub.subset hb)
    · rw [updF_ne e] at hb; exact h.lt i b hb
  · by_cases e : i = j
    · subst e; rw [updF_self] at hb; exact h.src _ b (hsub.subset hb)
    · rw [updF_ne e] at hb; exact h.src i b hb
theorem Gh_sound {nt np n : Nat} (hnp : PinLt Γ np) {T : TM} {H : HM} {K : TM → HM → Prop} (h : Gh np n T H K) : ∀ {ρ : RM} {F : FM} {a : Act} {w : World}, St Γ nt T H ρ F a w → Free ρ n → ∃ T' H' ρ' F', K T' H' ∧ St Γ nt T' H' ρ' F' a w ∧ Free ρ' n := by
  induction h with
  | go k => intro ρ F a w hS hf; exact ⟨_, _, ρ, F, k, hS, hf⟩
  | frz j r hr _ ih => intro ρ F a w hS hf; exact ih (hS.frz hr) hf
  | frzp j cs hr _ ih => intro ρ F a w hS hf; exact ih (hS.frozenP hr) hf
  | soft j h _ ih =>
    intro ρ F a w hS hf
    obtain ⟨f', h'⟩ := hS.soft h
    exact ih h' hf
  | @pin T H K j o ty sz rows h _ ih =>
    intro ρ F a w hS hf
    obtain ⟨v, xs, f, hv, ho, hr, hin, hF, hm⟩ := B_orow (hS.mem.hb (LeH.refl _)) h
    refine ih v (F := F) ?_ hf
    have hm := hS.mem
    refine ⟨⟨fun i => ?_, hm.disj, hm.nodup, hm.lt, hm.src, hm.inlt, hm.frame, hm.size, hm.os, hm.tape, hm.output, hm.pin⟩, hS.defers, hS.nt, hS.tmps⟩
    by_cases e : i = j
    · subst e
      rw [updH_self, hv, hF]
      exact .orow ho hr hin (by simp)
    · rw [updH_ne e]
      exact hm.blocks i
  | @told T H K i j v ty sz rows ht h _ ih =>
    intro ρ F a w hS hf
    refine ih (F := F) ⟨hS.mem, hS.defers, hS.nt, fun k => ?_⟩ hf
    unfold updT
    cases hb : Nat.beq k i with
    | false => exact hS.tmps k
    | true =>
      have := Nat.eq_of_beq_eq_true hb
      subst this
      have h0 := hS.tmps k
      rw [ht] at h0
      obtain ⟨v', xs, f, hv, ho, hr, hin, hF, hm⟩ := B_orow (hS.mem.hb (LeH.refl _)) h
      have hvv := hm _ rfl
      have h1 := (T_lw h0).1
      rw [hv] at h1
      injection h1 with h1
      rw [← h1, hvv]
      exact .v (.c (.c (.val (hvv ▸ owns_one ho) .nil)))
  | @link T H K i j v ty sz rows ht h _ ih =>
    intro ρ F a w hS hf
    refine ih (F := F) ⟨hS.mem, hS.defers, hS.nt, fun k => ?_⟩ hf
    unfold updT
    cases hb : Nat.beq k i with
    | false => exact hS.tmps k
    | true =>
      have := Nat.eq_of_beq_eq_true hb
      subst this
      have h0 := hS.tmps k
      rw [ht] at h0
      obtain ⟨v', xs, f, hv, ho, hr, hin, hF, hm⟩ := B_orow (hS.mem.hb (LeH.refl _)) h
      have hvv := hm _ rfl
      have h1 := den_val (CDen.of_T h0)
      subst hvv
      simp only [cond]
      rw [h1]
      rcases row_form ho with ⟨e, _⟩ | ⟨b, c, e, _⟩ <;> (refine .v (.c ?_); subst e; exact .lw hv)
  | close j idx off k h1 h2 h3 h4 hjk _ ih =>
    intro ρ F a w hS hf
    obtain ⟨v', xs, f, hv', ho, hr, hin, hF, hm⟩ := B_orow (hS.mem.hb (LeH.refl _)) h4
    have hvv := hm _ rfl
    obtain ⟨F', h⟩ := hS.close (c := .own _ _ _) h1 h2 h3 (fun hk => by
      have := Den.own hin hr ho .nil
      rw [hF]
      rw [hvv] at this ⊢
      simpa using this) ⟨v', hv', hvv⟩ hjk
    exact ih h hf
  | closes j idx off k h1 h2 h3 h4 hjk _ ih =>
    intro ρ F a w hS hf
    obtain ⟨v', xs, hv', ho, hr, hin, hF, hm⟩ := B_row (hS.mem.hb (LeH.refl _)) h4
    have hvv := hm _ rfl
    obtain ⟨F', h⟩ := hS.close (c := .ows _ _ _) h1 h2 h3 (fun hk => by
      have := Den.ows hin hr ho .nil
      rw [hF]
      rw [hvv] at this ⊢
      simpa using this) ⟨v', hv', hvv⟩ hjk
    exact ih h hf
  | ren a b h _ ih =>
    intro ρ F act w hS hf
    simp only [Bool.and_eq_true] at h
    obtain ⟨T', H', ρ', F', k1, k2, k3⟩ := rnAll_sound (rn := [(a, b)]) (K := fun T' H' => T' = mapT (renC a b) _ ∧ H' = renH a b _) hnp (by simp only [rnAll, h.1, cond]; exact ⟨rfl, rfl⟩) hS hf (fun p hp => by simp at hp; subst hp; have := h.2; rwa [Nat.blt_eq] at this)
    obtain ⟨rfl, rfl⟩ := k1
    exact ih k2 k3
end

/-! ### A cell that owns memory is opened ahead of a region -/
inductive GhO : Nat → TM → HM → (TM → HM → Nat → Prop) → Prop
  | go {n T H K} (k : K T H n) : GhO n T H K
  | opens {n T H K} (j idx off : Nat) {o : Option Value} {ty sz : Nat} {rows : List (List CV)} {r : List CV} {ty' sz' : Nat} {rows' : List (List CV)} (h1 : H j = .orow o ty sz rows) (h2 : rows[idx]? = some r) (h3 : r[off]? = some (.ows ty' sz' rows'))
      (k : ∀ v : Value, GhO (n + 1) T (updH (updH H n (.row (some v) ty' sz' rows')) j (.orow o ty sz (rows.set idx (splice r off [.val v])))) K) : GhO n T H K
section
variable {Γ : Cx} {H : HM} {ρ : RM} {F : FM} {w : World}
theorem row_parts {sz idx off : Nat} {rows : List (List CV)} {r : List CV} {c : CV} (hr : ∀ r ∈ rows, r.length = sz) (h2 : rows[idx]? = some r) (h3 : r[off]? = some c) :
    rows.flatten = rows.flatten.take (idx * sz + off) ++ ([c] ++ rows.flatten.drop (idx * sz + off + 1)) := by
  have hrl := hr r (List.mem_of_getElem? h2)
  have hoff := (List.getElem?_eq_some_iff.1 h3).1
  have h5 := flatten_row hr h2
  have h6 : ((rows.flatten.drop (idx * sz)).take sz)[off]? = some c := by rw [h5]; exact h3
  rw [List.getElem?_take, if_pos (by omega), List.getElem?_drop] at h6
  have hlt := (List.getElem?_eq_some_iff.1 h6).1
  have e := (List.getElem?_eq_some_iff.1 h6).2
  conv => lhs; rw [← List.take_append_drop (idx * sz + off) rows.flatten, List.drop_eq_getElem_cons hlt, e]
  rfl
theorem open_sound (hm : Mem Γ H ρ F w) {n j idx off : Nat} (hfree : ρ n = none) {o : Option Value} {ty sz : Nat} {rows : List (List CV)} {r : List CV} {ty' sz' : Nat} {rows' : List (List CV)} (h1 : H j = .orow o ty sz rows) (h2 : rows[idx]? = some r) (h3 : r[off]? = some (.ows ty' sz' rows')) :
    ∃ v ρ' F', Ext ρ ρ' ∧ (∀ i, ρ' i ≠ ρ i → i = n) ∧ Mem Γ (updH (updH H n (.row (some v) ty' sz' rows')) j (.orow o ty sz (rows.set idx (splice r off [.val v])))) ρ' F' w ∧ ∀ b, okOf Γ F w b → okOf Γ F' w b := by
  obtain ⟨rv, xs, f, hρ, ho, hr, hin, hF, hv⟩ := B_orow (hm.hb (LeH.refl H)) h1
  have hrl := hr r (List.mem_of_getElem? h2)
  have hoff := (List.getElem?_eq_some_iff.1 h3).1
  have hparts := row_parts hr h2 h3
  have hin0 := hin
  rw [hparts] at hin
  obtain ⟨us, ts, g, k, rfl, rfl, d1, d2⟩ := Den.split hin
  obtain ⟨us2, ts2, g2, k2, rfl, rfl, d3, d4⟩ := Den.split d2
  cases d3 with
  | @ows as vs f ty sz rows xs v hin' hr' ho' ht =>
    cases ht
    have hjn : n ≠ j := (live_ne hm (LeH.refl H) hfree (by rw [h1]; simp)).symm
    have hnF := hm.nodup j
    rw [hF] at hnF
    have hone := owns_one ho'
    let L' : List Ent := [⟨n, .row (some v) ty' sz' rows', v.ownBlock.toList, some v⟩, ⟨j, .orow o ty sz (rows.set idx (splice r off [.val v])), rv.ownBlock.toList ++ (g ++ k2), none⟩]
    have hnd : (L'.map (·.nm)).Nodup := by simp [L', hjn]
    have hnew : ∀ e ∈ L', e.v ≠ none → ρ e.nm = none := by
      intro e he hev
      simp only [L', List.mem_cons, List.not_mem_nil, or_false] at he
      rcases he with rfl | rfl
      · exact hfree
      · exact absurd rfl hev
    have hperm : ((L'.map (·.f)).flatten).Perm (rv.ownBlock.toList ++ (g ++ ((v.ownBlock.toList ++ []) ++ k2))) := by
      simp only [L', List.map_cons, List.map_nil, List.flatten_cons, List.flatten_nil, List.append_nil]
      refine (List.perm_append_comm_assoc _ _ _).trans (.append_left _ ?_)
      exact List.perm_append_comm_assoc _ _ _
    have hden : ∀ ok' : Nat → Prop, (∀ b, okOf Γ F w b → ok' b) → Den w ok' (rows.set idx (splice r off [.val v])).flatten (us ++ ([v] ++ ts2)) (g ++ k2) := by
      intro ok' hok'
      rw [flat_splice hr h2 (by simp; omega)]
      unfold splice
      have := d1.append ((mk_val (w := w) (ok := okOf Γ F w) hone).append d4)
      have := this.mono (w' := w) (fun _ _ => rfl) hok' (fun _ _ => rfl)
      simpa using this
    obtain ⟨k1, k3, _⟩ := hm.ents L' (w' := w) rfl rfl rfl (Nat.le_refl _) hnd hnew (fun _ _ _ => rfl)
      (fun e he c hc => by
        left
        refine ⟨⟨j, .orow o ty sz (rows.set idx (splice r off [.val v])), rv.ownBlock.toList ++ (g ++ k2), none⟩, by simp [L'], ?_⟩
        show c ∈ F j
        rw [hF]
        exact hperm.subset (List.mem_flatten.2 ⟨e.f, List.mem_map.2 ⟨e, he, rfl⟩, hc⟩))
      (hperm.nodup_iff.2 hnF)
      (fun e he hok' => by
        simp only [L', List.mem_cons, List.not_mem_nil, or_false] at he
        rcases he with rfl | rfl
        · simp only [entV]
          exact .row ho' hr' (hin'.mono (fun _ _ => rfl) hok' (by simp)) (by simp)
        · simp only [entV, hρ]
          refine .orow (xs := us ++ ([v] ++ ts2)) (by rw [List.length_set]; exact ho) (fun q hq => ?_) (hden _ hok') hv
          rcases List.mem_or_eq_of_mem_set hq with h1 | h1
          · exact hr q h1
          · rw [h1, splice_len (by simp; omega)]; exact hrl)
    obtain ⟨x1, x2⟩ := entR_ext L' hnd hnew
    refine ⟨v, _, _, x1, fun i hi => ?_, ?_, k3⟩
    · obtain ⟨e, he, rfl, hev⟩ := x2 i hi
      simp only [L', List.mem_cons, List.not_mem_nil, or_false] at he
      rcases he with rfl | rfl
      · rfl
      · exact absurd rfl hev
    · rw [entH_ws] at k1
      exact k1
theorem GhO_sound {nt n : Nat} {T : TM} {H : HM} {K : TM → HM → Nat → Prop} (h : GhO n T H K) : ∀ {ρ : RM} {F : FM} {a : Act} {w : World}, St Γ nt T H ρ F a w → Free ρ n → ∃ T' H' n' ρ' F', K T' H' n' ∧ St Γ nt T' H' ρ' F' a w ∧ Free ρ' n' := by
  induction h with
  | go k => intro ρ F a w hS hf; exact ⟨_, _, _, ρ, F, k, hS, hf⟩
  | @opens n T H K j idx off o ty sz rows r ty' sz' rows' h1 h2 h3 _ ih =>
    intro ρ F a w hS hf
    obtain ⟨v, ρ', F', x1, x2, hm, hok⟩ := open_sound hS.mem (hf n (Nat.le_refl _)) h1 h2 h3
    refine ih v (ρ := ρ') (F := F') ⟨hm, hS.defers, hS.nt, fun i => (hS.tmps i).mono (fun _ _ => rfl) hok x1⟩ fun i hi => ?_
    by_cases e : ρ' i = ρ i
    · rw [e]; exact hf i (by omega)
    · have := x2 i e
      omega
end

/-! ### Code -/
inductive X where
  | normal
  | exit (id : Nat)
  | ret
def X.to : X → Exit
  | .normal => .normal
  | .exit id => .exit id
  | .ret => .ret
structure Inv where
  α : Type
  keep : List Nat := []
  ov : α → List (Nat × SV)
  hv : α → List (Nat × Blk) := fun _ => []
  φ : α → Prop
  μ : α → Nat
def keepT : List Nat → TM → TM
  | [], _ => fun _ => .any
  | k :: ks, T => fun i => cond (Nat.beq i k) (T i) (keepT ks T i)
def ovT : List (Nat × SV) → TM → TM
  | [], T => T
  | (k, v) :: r, T => fun i => cond (Nat.beq i k) v (ovT r T i)
def belowC (n : Nat) : SV → Bool
  | .lp i _ => Nat.blt i n
  | .le i _ _ _ => Nat.blt i n
  | .lw i => Nat.blt i n
  | .ls i _ _ _ => Nat.blt i n
  | .mp i => Nat.blt i n
  | _ => true
def belowV (n : Nat) : SV → Bool
  | .m cs => cs.all (belowC n)
  | .clo _ cs => cs.all (belowC n)
  | x => belowC n x
def belowS (n : Nat) : SV → Bool
  | .tup vs => vs.all (belowV n)
  | x => belowV n x
def belowB (n : Nat) : Blk → Bool
  | .cells cs => cs.all (belowC n)
  | _ => true
def chkT (n : Nat) : List (Nat × SV) → TM → Prop
  | [], _ => True
  | (k, v) :: r, T => (T k = v ∧ belowS n v = true) ∧ chkT n r T
def chkK (n : Nat) : List Nat → TM → TM → Prop
  | [], _, _ => True
  | k :: r, T, T' => (T' k = T k ∧ belowS n (T k) = true) ∧ chkK n r T T'
def setH : List (Nat × Blk) → HM → HM
  | [], H => H
  | (k, b) :: r, H => fun i => cond (Nat.beq i k) b (setH r H i)
def chkB (b c : Blk) : Prop :=
  match c, b with
  | .dead, _ => True
  | .orow o ty sz rows, .row o' ty' sz' rows' => (o' = o ∧ ty' = ty) ∧ (sz' = sz ∧ rows' = rows)
  | c, b => b = c
def chkH (m : Nat) : Nat → HM → HM → Prop
  | 0, _, _ => True
  | k + 1, H', Hh => (chkB (H' k) (Hh k) ∧ belowB m (Hh k) = true) ∧ chkH m k H' Hh
inductive LoopN (np : Nat) (inv : Inv) (T : TM) (H : HM) (n : Nat) (body : (X → TM → HM → Nat → Prop) → TM → HM → Nat → Prop) (K : X → TM → HM → Nat → Prop) : Prop
  | mk (a0 : inv.α) (h0 : inv.φ a0) (hT : chkT n (inv.ov a0) T) (hK : chkK n inv.keep T T) (hH : chkH n n H (setH (inv.hv a0) H))
      (round : ∀ a, inv.φ a → body (fun e T' H' n' => match e with
        | .normal => Gh np n' T' H' fun T' H' => ∃ a', inv.φ a' ∧ inv.μ a' < inv.μ a ∧ chkT n (inv.ov a') T' ∧ chkK n inv.keep T T' ∧ chkH n n H' (setH (inv.hv a') H)
        | e => K e T' H' n') (ovT (inv.ov a) (keepT inv.keep T)) (setH (inv.hv a) H) n)
      (hl : ∀ a, (inv.hv a).all (fun p => Nat.blt p.1 n) = true)
structure LoopE (reg : Nat) (np : Nat) (T : TM) (H : HM) (n : Nat) (body : (X → TM → HM → Nat → Prop) → TM → HM → Nat → Prop) (K : X → TM → HM → Nat → Prop) : Prop where
  mk' :: ex : ∃ inv, LoopN np inv T H n body K
theorem LoopE.mk {reg np : Nat} {T : TM} {H : HM} {n : Nat} {body : (X → TM → HM → Nat → Prop) → TM → HM → Nat → Prop} {K : X → TM → HM → Nat → Prop} (inv : Inv) (h : LoopN np inv T H n body K) : LoopE reg np T H n body K := ⟨⟨inv, h⟩⟩
def firstReg : Code → Nat
  | .region id _ _ => id
  | .seq a _ => firstReg a
  | .block _ b => firstReg b
  | .loop b => firstReg b
  | .cond _ a _ => firstReg a
  | .scope b => firstReg b
  | _ => 0
def condT (c : Operand) (b : Bool) (T : TM) : TM := match c with | .tmp t => updT T t (.c (.cb b)) | _ => T
def vcReg (P : Program) (tbl : TT) (nt np : Nat) (ops : List Oper) (d : Bool) (T : TM) (H : HM) (n : Nat) (K : TM → HM → Nat → Prop) : Prop :=
  match d with
  | false => vcOpsR P tbl nt np ops ops 0 T H n K
  | true => Need (chkDraw ops = true) (vcER P tbl nt np ops ops 0 T H n [] [] K)
def posG (gh : Nat → Bool) (id : Nat) : Nat → Nat
  | 0 => 0
  | k + 1 => cond (gh (1000 * (k + 1) + id)) k (posG gh id k)
def vcRegS (P : Program) (tbl : TT) (nt np : Nat) (gh : Nat → Bool) (id : Nat) (ops : List Oper) (d : Bool) (T : TM) (H : HM) (n : Nat) (K : TM → HM → Nat → Prop) : Prop :=
  match gh (1000000 + id) with
  | false => vcReg P tbl nt np ops d T H n K
  | true => cond d False (vcOpsR P tbl nt np ops (ops.take (posG gh id 64)) 0 T H n fun T H n => Gh np n T H fun T H => GhO n T H fun T H n => vcOpsR P tbl nt np ops (ops.drop (posG gh id 64)) (posG gh id 64) T H n K)
def vc (P : Program) (tbl : TT) (nt np : Nat) (ann : Nat → Option Inv) (gh : Nat → Bool) : Code → (X → TM → HM → Nat → Prop) → TM → HM → Nat → Prop
  | .skip, K, T, H, n => K .normal T H n
  | .region id ops d, K, T, H, n => match gh id with
    | false => vcRegS P tbl nt np gh id ops.toList d T H n (K .normal)
    | true => Gh np n T H fun T H => GhO n T H fun T H n => vcRegS P tbl nt np gh id ops.toList d T H n (K .normal)
  | .seq x y, K, T, H, n => vc P tbl nt np ann gh x (fun e T H n => match e with | .normal => vc P tbl nt np ann gh y K T H n | e => K e T H n) T H n
  | .cond c x y, K, T, H, n => match ev T c with
    | .c (.cb true) => vc P tbl nt np ann gh x K T H n
    | .c (.cb false) => vc P tbl nt np ann gh y K T H n
    | .c (.val (.bool b)) => Branch b (vc P tbl nt np ann gh x K (condT c true T) H n) (vc P tbl nt np ann gh y K (condT c false T) H n)
    | _ => False
  | .block id c, K, T, H, n => vc P tbl nt np ann gh c (fun e T H n => match e with | .exit i => cond (Nat.beq i id) (K .normal T H n) (K (.exit i) T H n) | e => K e T H n) T H n
  | .loop c, K, T, H, n => match ann (firstReg c) with
    | some inv => LoopN np inv T H n (fun K T H n => vc P tbl nt np ann gh c K T H n) K
    | none => LoopE (firstReg c) np T H n (fun K T H n => vc P tbl nt np ann gh c K T H n) K
  | .exit id, K, T, H, n => K (.exit id) T H n
  | .ret, K, T, H, n => K .ret T H n
  | _, _, _, _, _ => False

def stReg (P : Program) (tbl : TT) (nt np : Nat) (gh : Nat → Bool) (id : Nat) (ops : Array Oper) (d : Bool) (K : X → TM → HM → Nat → Prop) (T : TM) (H : HM) (n : Nat) : Prop :=
  match gh id with
  | false => vcRegS P tbl nt np gh id ops.toList d T H n (K .normal)
  | true => Gh np n T H fun T H => GhO n T H fun T H n => vcRegS P tbl nt np gh id ops.toList d T H n (K .normal)
def stSeq (f g : (X → TM → HM → Nat → Prop) → TM → HM → Nat → Prop) (K : X → TM → HM → Nat → Prop) (T : TM) (H : HM) (n : Nat) : Prop :=
  f (fun e T H n => match e with | .normal => g K T H n | e => K e T H n) T H n
def stCond (c : Operand) (f g : (X → TM → HM → Nat → Prop) → TM → HM → Nat → Prop) (K : X → TM → HM → Nat → Prop) (T : TM) (H : HM) (n : Nat) : Prop :=
  match ev T c with
  | .c (.cb true) => f K T H n
  | .c (.cb false) => g K T H n
  | .c (.val (.bool b)) => Branch b (f K (condT c true T) H n) (g K (condT c false T) H n)
  | _ => False
def stBlock (id : Nat) (f : (X → TM → HM → Nat → Prop) → TM → HM → Nat → Prop) (K : X → TM → HM → Nat → Prop) (T : TM) (H : HM) (n : Nat) : Prop :=
  f (fun e T H n => match e with | .exit i => cond (Nat.beq i id) (K .normal T H n) (K (.exit i) T H n) | e => K e T H n) T H n
def stLoop (np : Nat) (ann : Nat → Option Inv) (c : Code) (f : (X → TM → HM → Nat → Prop) → TM → HM → Nat → Prop) (K : X → TM → HM → Nat → Prop) (T : TM) (H : HM) (n : Nat) : Prop :=
  match ann (firstReg c) with
  | some inv => LoopN np inv T H n (fun K T H n => f K T H n) K
  | none => LoopE (firstReg c) np T H n (fun K T H n => f K T H n) K
def vcR (P : Program) (tbl : TT) (nt np : Nat) (ann : Nat → Option Inv) (gh : Nat → Bool) (c : Code) : (X → TM → HM → Nat → Prop) → TM → HM → Nat → Prop :=
  Code.rec (motive := fun _ => (X → TM → HM → Nat → Prop) → TM → HM → Nat → Prop) (fun K T H n => K .normal T H n) (fun id ops d => stReg P tbl nt np gh id ops d) (fun _ _ f g => stSeq f g) (fun c _ _ f g => stCond c f g) (fun id _ f => stBlock id f) (fun c f => stLoop np ann c f)
    (fun _ _ _ _ _ _ _ _ _ _ => False) (fun id K T H n => K (.exit id) T H n) (fun _ _ _ _ _ _ => False) (fun _ _ _ _ _ => False) (fun _ _ _ _ _ => False) (fun K T H n => K .ret T H n) (fun _ _ _ _ _ => False) c
theorem vcR_eq {P : Program} {tbl : TT} {nt np : Nat} {ann : Nat → Option Inv} {gh : Nat → Bool} : ∀ c, vcR P tbl nt np ann gh c = fun K T H n => vc P tbl nt np ann gh c K T H n
  | .skip => rfl
  | .region _ _ _ => rfl
  | .exit _ => rfl
  | .ret => rfl
  | .scope _ => rfl
  | .label _ => rfl
  | .goto _ => rfl
  | .refuse _ => rfl
  | .rangeFunc _ _ _ _ => rfl
  | .seq x y => by
    show stSeq (vcR P tbl nt np ann gh x) (vcR P tbl nt np ann gh y) = _
    rw [vcR_eq x, vcR_eq y]
    rfl
  | .cond c x y => by
    show stCond c (vcR P tbl nt np ann gh x) (vcR P tbl nt np ann gh y) = _
    rw [vcR_eq x, vcR_eq y]
    rfl
  | .block id c => by
    show stBlock id (vcR P tbl nt np ann gh c) = _
    rw [vcR_eq c]
    rfl
  | .loop c => by
    show stLoop np ann c (vcR P tbl nt np ann gh c) = _
    rw [vcR_eq c]
    rfl

section
variable {P : Program} {tbl : TT} {Γ : Cx} {nt np : Nat}
theorem ovT_mem {n : Nat} : ∀ (l : List (Nat × SV)) (T T' : TM), chkT n l T' → (∀ i, T i = .any ∨ (T' i = T i ∧ belowS n (T i) = true)) → ∀ i, ovT l T i = .any ∨ (T' i = ovT l T i ∧ belowS n (ovT l T i) = true)
  | [], _, _, _, h, i => h i
  | (k, v) :: r, T, T', hc, h, i => by
    simp only [ovT]
    cases hb : Nat.beq i k with
    | true =>
      have := Nat.eq_of_beq_eq_true hb
      subst this
      exact .inr hc.1
    | false => exact ovT_mem r T T' hc.2 h i
theorem keepT_mem {n : Nat} : ∀ (l : List Nat) (T T' : TM), chkK n l T T' → ∀ i, keepT l T i = .any ∨ (T' i = keepT l T i ∧ belowS n (keepT l T i) = true)
  | [], _, _, _, _ => .inl rfl
  | k :: r, T, T', hc, i => by
    simp only [keepT]
    cases hb : Nat.beq i k with
    | true =>
      have := Nat.eq_of_beq_eq_true hb
      subst this
      exact .inr hc.1
    | false => exact keepT_mem r T T' hc.2 i

def cutR (n : Nat) (ρ : RM) : RM := fun i => if i < n then ρ i else none
theorem cut_get {ρ : RM} {n i : Nat} {v : Value} (h : ρ i = some v) (hi : Nat.blt i n = true) : cutR n ρ i = some v := by
  rw [Nat.blt_eq] at hi
  simp [cutR, hi, h]
theorem CDen.below {n : Nat} {ρ : RM} {w : World} {ok : Nat → Prop} {a : SV} {v : Value} (hb : belowC n a = true) (h : CDen ρ w ok a v) : CDen (cutR n ρ) w ok a v := by
  cases h with
  | c h => exact .c h
  | lp h => exact .lp (cut_get h hb)
  | le h => exact .le (cut_get h hb)
  | lw h => exact .lw (cut_get h hb)
  | ls h h1 h2 h3 h4 => exact .ls (cut_get h hb) h1 h2 h3 h4
  | mp h => exact .mp (cut_get h hb)
theorem VDen.below {n : Nat} {ρ : RM} {w : World} {ok : Nat → Prop} {a : SV} {v : Value} (hb : belowV n a = true) (h : VDen ρ w ok a v) : VDen (cutR n ρ) w ok a v := by
  cases h with
  | a hl h => exact .a hl h
  | m hl h => exact .m hl fun j a v ha hv => (h j a v ha hv).below (List.all_eq_true.1 hb a (List.mem_of_getElem? ha))
  | clo hl h => exact .clo hl fun j a v ha hv => (h j a v ha hv).below (List.all_eq_true.1 hb a (List.mem_of_getElem? ha))
  | c h =>
    refine .c (h.below ?_)
    cases h <;> exact hb
theorem TDen.below {n : Nat} {ρ : RM} {w : World} {ok : Nat → Prop} {a : SV} {v : Value} (hb : belowS n a = true) (h : TDen ρ w ok a v) : TDen (cutR n ρ) w ok a v := by
  cases h with
  | any => exact .any
  | v h =>
    refine .v (h.below ?_)
    cases h <;> first | exact hb | skip
    rename_i h
    cases h <;> exact hb
  | tup hl h => exact .tup hl fun j a v ha hv => (h j a v ha hv).below (List.all_eq_true.1 hb a (List.mem_of_getElem? ha))
theorem BDen.below {n i : Nat} {ρ : RM} {w : World} {ok : Nat → Prop} {k : Blk} {f : List Nat} (hb : belowB n k = true) (hi : i < n) (h : BDen ρ w ok k (ρ i) f) : BDen (cutR n ρ) w ok k (cutR n ρ i) f := by
  have e : cutR n ρ i = ρ i := by simp [cutR, hi]
  rw [e]
  generalize ρ i = u at h
  cases h with
  | dead => exact .dead
  | cc h1 h2 h3 => exact .cc h1 h2 h3
  | cells h1 hl h => exact .cells h1 hl fun j a v ha hv => (h j a v ha hv).below (List.all_eq_true.1 hb a (List.mem_of_getElem? ha))
  | row h1 h2 h3 h4 => exact .row h1 h2 h3 h4
  | orow h1 h2 h3 h4 => exact .orow h1 h2 h3 h4
  | mmap h1 h2 h3 h4 h5 => exact .mmap h1 h2 h3 h4 h5
  | bld h1 h2 h3 => exact .bld h1 h2 h3
theorem chkB_den {ρ : RM} {w : World} {ok : Nat → Prop} {b c : Blk} {v : Option Value} {f : List Nat} (h : chkB b c) (hd : BDen ρ w ok b v f) : c = .dead ∨ BDen ρ w ok c v f := by
  unfold chkB at h
  split at h
  · exact .inl rfl
  · obtain ⟨⟨rfl, rfl⟩, rfl, rfl⟩ := h
    right
    cases hd with
    | row ho hr hin hv => have := BDen.orow (ρ := ρ) ho hr hin hv; simpa using this
  · right; rw [← h]; exact hd
theorem chkH_get {m : Nat} : ∀ {k : Nat} {H' Hh : HM}, chkH m k H' Hh → ∀ i, i < k → chkB (H' i) (Hh i) ∧ belowB m (Hh i) = true
  | 0, _, _, _, i, hi => by omega
  | k + 1, H', Hh, h, i, hi => by
    by_cases e : i = k
    · subst e; exact h.1
    · exact chkH_get h.2 i (by omega)

theorem St.weaken {T T' : TM} {H H' : HM} {ρ : RM} {F : FM} {a : Act} {w : World} {n : Nat} (hpin : ∀ i v, Γ.pv i = some v → i < n) (hS : St Γ nt T H ρ F a w) (hT : ∀ i, T' i = .any ∨ (T i = T' i ∧ belowS n (T' i) = true)) (hH : chkH n n H H') (hd : ∀ i, n ≤ i → H' i = .dead) :
    ∃ ρ' F', St Γ nt T' H' ρ' F' a w ∧ Free ρ' n := by
  have hm := hS.mem
  let F' : FM := fun i => match H' i with | .dead => [] | _ => F i
  have hF' : ∀ i b, b ∈ F' i → b ∈ F i := by
    intro i b hb
    simp only [F'] at hb
    split at hb
    · cases hb
    · exact hb
  have hok : ∀ b, okOf Γ F w b → okOf Γ F' w b := fun b hb => ⟨hb.1, hb.2.1, fun ⟨i, hi⟩ => hb.2.2 ⟨i, hF' i b hi⟩⟩
  refine ⟨cutR n ρ, F', ⟨⟨fun i => ?_, fun i j b hi hj => hm.disj i j b (hF' i b hi) (hF' j b hj), fun i => ?_, fun i b hb => hm.lt i b (hF' i b hb), fun i b hb => hm.src i b (hF' i b hb), hm.inlt, hm.frame, hm.size, hm.os, hm.tape, hm.output, fun i v hv => ?_⟩, hS.defers, hS.nt, fun i => ?_⟩, fun i hi => by simp [cutR]; omega⟩
  · by_cases hi : i < n
    · obtain ⟨h1, h2⟩ := chkH_get hH i hi
      rcases chkB_den h1 (hm.blocks i) with e | hd'
      · have : F' i = [] := by simp only [F', e]
        rw [e, this]
        exact .dead
      · have hd'' := (hd'.mono (fun _ _ => rfl) hok (fun _ _ => rfl) (Ext.refl _)).below h2 hi
        by_cases e : H' i = .dead
        · have : F' i = [] := by simp only [F', e]
          rw [e, this]
          exact .dead
        · have : F' i = F i := by simp only [F']
          rw [this]
          exact hd''
    · have e := hd i (by omega)
      have : F' i = [] := by simp only [F', e]
      rw [e, this]
      exact .dead
  · show (match H' i with | .dead => [] | _ => F i).Nodup
    split
    · simp
    · exact hm.nodup i
  · have := hpin i v hv
    simp only [cutR, this, if_true]
    exact hm.pin i v hv
  · rcases hT i with e | ⟨e, hb⟩
    · rw [e]; exact .any
    · have h1 := (hS.tmps i).mono (fun _ _ => rfl) hok (Ext.refl _)
      rw [e] at h1
      exact h1.below hb
theorem free_dead {H : HM} {ρ : RM} {F : FM} {w : World} (hm : Mem Γ H ρ F w) {n : Nat} (hf : Free ρ n) : ∀ i, n ≤ i → H i = .dead := fun i hi => (hm.noneF (hf i hi)).2
theorem setH_dead {n : Nat} : ∀ {l : List (Nat × Blk)} {H : HM}, (∀ i, n ≤ i → H i = .dead) → l.all (fun p => Nat.blt p.1 n) = true → ∀ i, n ≤ i → setH l H i = .dead
  | [], H, h, _, i, hi => h i hi
  | (k, b) :: r, H, h, hl, i, hi => by
    simp only [List.all_cons, Bool.and_eq_true] at hl
    have hk := hl.1
    rw [Nat.blt_eq] at hk
    simp only [setH]
    have : Nat.beq i k = false := by
      cases hb : Nat.beq i k with
      | true => have := Nat.eq_of_beq_eq_true hb; omega
      | false => rfl
    rw [this]
    exact setH_dead h hl.2 i hi

theorem cond_T {T : TM} {H : HM} {ρ : RM} {F : FM} {a : Act} {w : World} (hS : St Γ nt T H ρ F a w) {c : Operand} {b : Bool} (h : a.eval c = .bool b) : St Γ nt (condT c b T) H ρ F a w := by
  cases c with
  | tmp t =>
    refine ⟨hS.mem, hS.defers, hS.nt, fun i => ?_⟩
    simp only [condT, updT]
    cases hb : Nat.beq i t with
    | true =>
      have := Nat.eq_of_beq_eq_true hb
      subst this
      simp only [cond]
      have : a.tmps.getD i undef = .bool b := h
      rw [this]
      exact T_of_den (.cb .nil)
    | false => exact hS.tmps i
  | _ => exact hS

theorem vc_sound (htb : TblOk P tbl) (hmix : P.follows .mixedOrders = true) (hnp : PinLt Γ np) {ann : Nat → Option Inv} {gh : Nat → Bool} : ∀ (c : Code) {K : X → TM → HM → Nat → Prop} {Q : Exit → Act → World → Prop} {T : TM} {H : HM} {n : Nat} {ρ : RM} {F : FM} {a : Act} {w : World},
    vc P tbl nt np ann gh c K T H n → (∀ e T H n ρ F a w, K e T H n → St Γ nt T H ρ F a w → Free ρ n → Q e.to a w) → St Γ nt T H ρ F a w → Free ρ n → c.wp P Q a w
  | .skip, K, Q, T, H, n, ρ, F, a, w, h, hQ, hS, hf => wp_skip (hQ _ _ _ _ _ _ _ _ h hS hf)
  | .exit id, K, Q, T, H, n, ρ, F, a, w, h, hQ, hS, hf => wp_exit (hQ (.exit id) _ _ _ _ _ _ _ h hS hf)
  | .ret, K, Q, T, H, n, ρ, F, a, w, h, hQ, hS, hf => wp_ret (hQ .ret _ _ _ _ _ _ _ h hS hf)
  | .region id ops d, K, Q, T, H, n, ρ, F, a, w, h, hQ, hS, hf => by
    have main0 : ∀ {T : TM} {H : HM} {n : Nat} {ρ : RM} {F : FM}, vcReg P tbl nt np ops.toList d T H n (K .normal) → St Γ nt T H ρ F a w → Free ρ n → (Code.region id ops d).wp P Q a w := by
      intro T H n ρ F h hS hf
      cases d with
      | false =>
        have h : vcOps P tbl nt np ops.toList ops.toList 0 T H n (K .normal) := by
          have h0 : vcOpsR P tbl nt np ops.toList ops.toList 0 T H n (K .normal) := h
          rw [vcOpsR_eq] at h0
          exact h0
        exact wp_region_list (by simpa using vcOps_sound (l2 := []) htb hnp (fun T H n ρ F a w hk hs hf => hQ .normal T H n ρ F a w hk hs hf) _ 0 h hS hf)
      | true =>
        have hk0 : vcER P tbl nt np ops.toList ops.toList 0 T H n [] [] (K .normal) := h.k
        rw [vcER_eq] at hk0
        exact vcE_sound htb hmix hnp h.h hk0 (fun T H n ρ F a w hk hs hf => hQ .normal _ _ _ _ _ _ _ hk hs hf) (hS.grow ⟨rfl, rfl, rfl, Nat.le_refl _, fun _ _ => rfl⟩) hf
    have main : ∀ {T : TM} {H : HM} {n : Nat} {ρ : RM} {F : FM}, vcRegS P tbl nt np gh id ops.toList d T H n (K .normal) → St Γ nt T H ρ F a w → Free ρ n → (Code.region id ops d).wp P Q a w := by
      intro T H n ρ F h hS hf
      unfold vcRegS at h
      split at h
      · exact main0 h hS hf
      · cases d with
        | true => exact h.elim
        | false =>
          simp only [cond, vcOpsR_eq] at h
          refine wp_region_list ?_
          have := vcOps_sound (l2 := ops.toList.drop (posG gh id 64)) (Q := Q) htb hnp (fun T H n ρ F a w hk hs hf => by
            obtain ⟨T', H', ρ', F', k1, k2, k3⟩ := Gh_sound hnp hk hs hf
            obtain ⟨T'', H'', n'', ρ'', F'', g1, g2, g3⟩ := GhO_sound k1 k2 k3
            simpa using vcOps_sound (l2 := []) (Q := Q) htb hnp (fun T H n ρ F a w hk hs hf => hQ .normal T H n ρ F a w hk hs hf) _ _ g1 g2 g3) _ 0 h hS hf
          rwa [List.take_append_drop] at this
    simp only [vc] at h
    split at h
    · exact main h hS hf
    · obtain ⟨T', H', ρ', F', k1, k2, k3⟩ := Gh_sound hnp h hS hf
      obtain ⟨T'', H'', n'', ρ'', F'', g1, g2, g3⟩ := GhO_sound k1 k2 k3
      exact main g1 g2 g3
  | .seq x y, K, Q, T, H, n, ρ, F, a, w, h, hQ, hS, hf => by
    refine wp_seq (vc_sound htb hmix hnp x h ?_ hS hf)
    intro e T H n ρ F a w hk hs hf
    cases e with
    | normal => exact vc_sound htb hmix hnp y hk hQ hs hf
    | exit id => exact hQ (.exit id) _ _ _ _ _ _ _ hk hs hf
    | ret => exact hQ .ret _ _ _ _ _ _ _ hk hs hf
  | .cond c x y, K, Q, T, H, n, ρ, F, a, w, h, hQ, hS, hf => by
    have hE := ev_sound hS c
    simp only [vc] at h
    split at h
    · rename_i hc
      rw [hc] at hE
      exact wp_cond (t := true) (den_cb (CDen.of_T hE)) (vc_sound htb hmix hnp x h hQ hS hf)
    · rename_i hc
      rw [hc] at hE
      exact wp_cond (t := false) (den_cb (CDen.of_T hE)) (vc_sound htb hmix hnp y h hQ hS hf)
    · rename_i b hc
      rw [hc] at hE
      have hv := den_val (CDen.of_T hE)
      refine wp_cond_split hv (fun e => ?_) (fun e => ?_)
      · subst e
        exact vc_sound htb hmix hnp x (h.t rfl) hQ (cond_T hS hv) hf
      · subst e
        exact vc_sound htb hmix hnp y (h.f rfl) hQ (cond_T hS hv) hf
    · exact h.elim
  | .block id c, K, Q, T, H, n, ρ, F, a, w, h, hQ, hS, hf => by
    refine wp_block (vc_sound htb hmix hnp c h ?_ hS hf)
    intro e T H n ρ F a w hk hs hf
    cases e with
    | normal => exact hQ .normal _ _ _ _ _ _ _ hk hs hf
    | exit i =>
      simp only at hk
      simp only [X.to, Exit.inBlock]
      cases hb : Nat.beq i id with
      | true =>
        rw [hb] at hk
        rw [if_pos (Nat.eq_of_beq_eq_true hb)]
        exact hQ .normal _ _ _ _ _ _ _ hk hs hf
      | false =>
        rw [hb] at hk
        rw [if_neg (nbeq hb)]
        exact hQ (.exit i) _ _ _ _ _ _ _ hk hs hf
    | ret => exact hQ .ret _ _ _ _ _ _ _ hk hs hf
  | .loop c, K, Q, T, H, n, ρ, F, a, w, h, hQ, hS, hf => by
    simp only [vc] at h
    have h : ∃ inv, LoopN np inv T H n (fun K T H n => vc P tbl nt np ann gh c K T H n) K := by
      split at h
      · exact ⟨_, h⟩
      · exact h.ex
    obtain ⟨inv, h⟩ := h
    obtain ⟨a0, h0, hT, hKp, hH, round, hl⟩ := h
    have hpin : ∀ i v, Γ.pv i = some v → i < n := fun i v hv => by
      have h1 := hS.mem.pin i v hv
      rcases Nat.lt_or_ge i n with h2 | h2
      · exact h2
      · rw [hf i h2] at h1; cases h1
    have hdead : ∀ x i, n ≤ i → setH (inv.hv x) H i = .dead := fun x i hi => setH_dead (free_dead hS.mem hf) (hl x) i hi
    have head : ∀ {T' : TM} {H' : HM} {ρ : RM} {F : FM} {a : Act} {w : World} {x : inv.α}, St Γ nt T' H' ρ F a w → chkT n (inv.ov x) T' → chkK n inv.keep T T' → chkH n n H' (setH (inv.hv x) H) →
        ∃ ρ' F', St Γ nt (ovT (inv.ov x) (keepT inv.keep T)) (setH (inv.hv x) H) ρ' F' a w ∧ Free ρ' n := fun hS g1 g2 g3 => hS.weaken hpin (ovT_mem _ _ _ g1 (keepT_mem _ _ _ g2)) g3 (hdead _)
    obtain ⟨ρ0, F0, hS0, hf0⟩ := head hS hT hKp hH
    refine wp_loop_ghost (fun m a w => ∃ x ρ F, inv.φ x ∧ inv.μ x = m ∧ St Γ nt (ovT (inv.ov x) (keepT inv.keep T)) (setH (inv.hv x) H) ρ F a w ∧ Free ρ n) (inv.μ a0) ⟨a0, ρ0, F0, h0, rfl, hS0, hf0⟩ ?_
    rintro m a w ⟨x, ρ, F, hx, rfl, hs, hf⟩
    refine vc_sound htb hmix hnp c (round x hx) ?_ hs hf
    intro e T' H' n' ρ' F' a' w' hk hs' hf'
    cases e with
    | normal =>
      obtain ⟨T2, H2, ρ2, F2, ⟨x', hx', hmu, g1, g2, g3⟩, k2, k3⟩ := Gh_sound hnp hk hs' hf'
      obtain ⟨ρ1, F1, hS1, hf1⟩ := head k2 g1 g2 g3
      exact ⟨_, hmu, x', ρ1, F1, hx', rfl, hS1, hf1⟩
    | exit i => exact hQ (.exit i) _ _ _ _ _ _ _ hk hs' hf'
    | ret => exact hQ .ret _ _ _ _ _ _ _ hk hs' hf'
  | .scope _, K, Q, T, H, n, ρ, F, a, w, h, hQ, hS, hf => h.elim
  | .label _, K, Q, T, H, n, ρ, F, a, w, h, hQ, hS, hf => h.elim
  | .goto _, K, Q, T, H, n, ρ, F, a, w, h, hQ, hS, hf => h.elim
  | .refuse _, K, Q, T, H, n, ρ, F, a, w, h, hQ, hS, hf => h.elim
  | .rangeFunc _ _ _ _, K, Q, T, H, n, ρ, F, a, w, h, hQ, hS, hf => h.elim
end
end Go.KA
