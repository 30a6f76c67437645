/- Part of a proof engine for functions of the given program: what an operation, a loop and a call compute, symbolically. No conditions. -/
import Derived.Test.YtaajacnceocpoaaGreatEngH
namespace Go.KA
open Go Go.RowKit

/-! ### Many blocks are written at once -/
structure Ent where
  nm : Nat
  b : Blk
  f : List Nat
  v : Option Value
def entH : List Ent → HM → HM
  | [], H => H
  | e :: r, H => entH r (updH H e.nm e.b)
def entF : List Ent → FM → FM
  | [], F => F
  | e :: r, F => entF r (updF F e.nm e.f)
def entV (e : Ent) (o : Option Value) : Option Value := match e.v with | some v => some v | none => o
def entR : List Ent → RM → RM
  | [], ρ => ρ
  | e :: r, ρ => entR r (fun i => if i = e.nm then entV e (ρ i) else ρ i)
def wsOf (L : List Ent) : List (Nat × Blk) := L.map fun e => (e.nm, e.b)
theorem entH_ws : ∀ (L : List Ent) (H : HM), entH L H = updL (wsOf L) H
  | [], _ => rfl
  | e :: r, H => by simp only [entH, wsOf, List.map_cons, updL]; exact entH_ws r _
theorem ent_not : ∀ {L : List Ent} {i : Nat}, (∀ e ∈ L, e.nm ≠ i) → ∀ (H : HM) (F : FM) (ρ : RM), entH L H i = H i ∧ entF L F i = F i ∧ entR L ρ i = ρ i
  | [], i, _, _, _, _ => ⟨rfl, rfl, rfl⟩
  | e :: r, i, h, H, F, ρ => by
    have he : i ≠ e.nm := fun h' => h e (by simp) h'.symm
    obtain ⟨h1, h2, h3⟩ := ent_not (L := r) (i := i) (fun e he => h e (by simp [he])) (updH H e.nm e.b) (updF F e.nm e.f) (fun i => if i = e.nm then entV e (ρ i) else ρ i)
    simp only [entH, entF, entR]
    rw [h1, h2, h3, updH_ne he, updF_ne he]
    simp [he]
theorem ent_get : ∀ {L : List Ent}, (L.map (·.nm)).Nodup → ∀ {e : Ent}, e ∈ L → ∀ (H : HM) (F : FM) (ρ : RM), entH L H e.nm = e.b ∧ entF L F e.nm = e.f ∧ entR L ρ e.nm = entV e (ρ e.nm)
  | [], _, e, h, _, _, _ => by cases h
  | x :: r, hnd, e, h, H, F, ρ => by
    simp only [List.map_cons, List.nodup_cons] at hnd
    rcases List.mem_cons.1 h with rfl | h
    · obtain ⟨h1, h2, h3⟩ := ent_not (L := r) (i := e.nm) (fun e' he' h' => hnd.1 (List.mem_map.2 ⟨e', he', h'⟩)) (updH H e.nm e.b) (updF F e.nm e.f) (fun i => if i = e.nm then entV e (ρ i) else ρ i)
      simp only [entH, entF, entR]
      rw [h1, h2, h3, updH_self, updF_self]
      simp
    · have hne : e.nm ≠ x.nm := fun h' => hnd.1 (List.mem_map.2 ⟨e, h, h'⟩)
      obtain ⟨h1, h2, h3⟩ := ent_get hnd.2 h (updH H x.nm x.b) (updF F x.nm x.f) (fun i => if i = x.nm then entV x (ρ i) else ρ i)
      simp only [entH, entF, entR]
      rw [h1, h2, h3]
      simp [hne]
theorem flat_disj : ∀ {L : List Ent}, ((L.map (·.f)).flatten).Nodup → (L.map (·.nm)).Nodup → ∀ {e e' : Ent}, e ∈ L → e' ∈ L → ∀ {b : Nat}, b ∈ e.f → b ∈ e'.f → e.nm = e'.nm
  | [], _, _, e, _, h, _, _, _, _ => by cases h
  | x :: r, hf, hn, e, e', h, h', b, hb, hb' => by
    simp only [List.map_cons, List.flatten_cons, List.nodup_append] at hf
    simp only [List.map_cons, List.nodup_cons] at hn
    have mem : ∀ {e : Ent}, e ∈ r → b ∈ e.f → b ∈ (r.map (·.f)).flatten := fun he hb => List.mem_flatten.2 ⟨_, List.mem_map.2 ⟨_, he, rfl⟩, hb⟩
    rcases List.mem_cons.1 h with h1 | h1 <;> rcases List.mem_cons.1 h' with h2 | h2
    · rw [h1, h2]
    · subst h1; exact absurd rfl (hf.2.2 b hb b (mem h2 hb'))
    · subst h2; exact absurd rfl (hf.2.2 b hb' b (mem h1 hb))
    · exact flat_disj hf.2.1 hn.2 h1 h2 hb hb'
theorem flat_each : ∀ {L : List Ent}, ((L.map (·.f)).flatten).Nodup → ∀ {e : Ent}, e ∈ L → e.f.Nodup
  | [], _, e, h => by cases h
  | x :: r, hf, e, h => by
    simp only [List.map_cons, List.flatten_cons, List.nodup_append] at hf
    rcases List.mem_cons.1 h with rfl | h
    · exact hf.1
    · exact flat_each hf.2.1 h

section
variable {P : Program} {tbl : TT} {Γ : Cx} {H Hm : HM} {ρ : RM} {F : FM} {w : World}
theorem entR_ext (L : List Ent) (hnd : (L.map (·.nm)).Nodup) (hnew : ∀ e ∈ L, e.v ≠ none → ρ e.nm = none) : Ext ρ (entR L ρ) ∧ ∀ i, entR L ρ i ≠ ρ i → ∃ e ∈ L, e.nm = i ∧ e.v ≠ none := by
  have key : ∀ i, (∃ e ∈ L, e.nm = i) ∨ entR L ρ i = ρ i := fun i => by
    by_cases h : ∃ e ∈ L, e.nm = i
    · exact .inl h
    · exact .inr (ent_not (L := L) (i := i) (fun e he h' => h ⟨e, he, h'⟩) (fun _ => .dead) (fun _ => []) ρ).2.2
  refine ⟨fun i v hv => ?_, fun i hi => ?_⟩
  · rcases key i with ⟨e, he, rfl⟩ | h
    · rw [(ent_get hnd he (fun _ => .dead) (fun _ => []) ρ).2.2]
      cases hev : e.v with
      | none => simp [entV, hev, hv]
      | some u => rw [hnew e he (by rw [hev]; simp)] at hv; cases hv
    · rw [h]; exact hv
  · rcases key i with ⟨e, he, rfl⟩ | h
    · refine ⟨e, he, rfl, fun hev => hi ?_⟩
      rw [(ent_get hnd he (fun _ => .dead) (fun _ => []) ρ).2.2]
      simp [entV, hev]
    · exact absurd h hi

theorem Mem.ents (hm : Mem Γ H ρ F w) (L : List Ent) {w' : World} (hos : w'.os = w.os) (htape : w'.tape = w.tape) (hout : w'.output = w.output) (hsize : w.heap.size ≤ w'.heap.size)
    (hnd : (L.map (·.nm)).Nodup) (hnew : ∀ e ∈ L, e.v ≠ none → ρ e.nm = none) (hsame : ∀ b, b < w.heap.size → (∀ e ∈ L, b ∉ F e.nm) → w'.heap[b]? = w.heap[b]?)
    (hsub : ∀ e ∈ L, ∀ b ∈ e.f, (∃ e' ∈ L, b ∈ F e'.nm) ∨ (w.heap.size ≤ b ∧ b < w'.heap.size)) (hflat : ((L.map (·.f)).flatten).Nodup)
    (hB : ∀ e ∈ L, (∀ b, okOf Γ F w b → okOf Γ (entF L F) w' b) → BDen (entR L ρ) w' (okOf Γ (entF L F) w') e.b (entV e (ρ e.nm)) e.f) :
    Mem Γ (entH L H) (entR L ρ) (entF L F) w' ∧ (∀ b, okOf Γ F w b → okOf Γ (entF L F) w' b) ∧ ∀ b, okOf Γ F w b → w'.heap[b]? = w.heap[b]? := by
  have hI : ∀ {i}, i ∈ L.map (·.nm) → ∃ e ∈ L, e.nm = i := fun h => by obtain ⟨e, he, rfl⟩ := List.mem_map.1 h; exact ⟨e, he, rfl⟩
  have hN : ∀ {i}, i ∉ L.map (·.nm) → ∀ e ∈ L, e.nm ≠ i := fun h e he h' => h (List.mem_map.2 ⟨e, he, h'⟩)
  have hF : ∀ i, i ∉ L.map (·.nm) → entF L F i = F i := fun i hi => (ent_not (hN hi) H F ρ).2.1
  have hsub' : ∀ i ∈ L.map (·.nm), ∀ b ∈ entF L F i, (∃ j ∈ L.map (·.nm), b ∈ F j) ∨ (w.heap.size ≤ b ∧ b < w'.heap.size) := by
    intro i hi b hb
    obtain ⟨e, he, rfl⟩ := hI hi
    rw [(ent_get hnd he H F ρ).2.1] at hb
    rcases hsub e he b hb with ⟨e', he', h'⟩ | h'
    · exact .inl ⟨_, List.mem_map.2 ⟨e', he', rfl⟩, h'⟩
    · exact .inr h'
  have hs' : ∀ b, b < w.heap.size → (∀ i ∈ L.map (·.nm), b ∉ F i) → w'.heap[b]? = w.heap[b]? := fun b hb h => hsame b hb fun e he => h _ (List.mem_map.2 ⟨e, he, rfl⟩)
  have hok := ok_write (Γ := Γ) hsize hF hsub'
  refine ⟨hm.write (L.map (·.nm)) hos htape hout hsize (entR_ext L hnd hnew).1 (fun i hi => ⟨(ent_not (hN hi) H F ρ).1, hF i hi, (ent_not (hN hi) H F ρ).2.2⟩) hs' hsub' ?_ ?_ ?_, hok, same_write hs'⟩
  · intro i hi
    obtain ⟨e, he, rfl⟩ := hI hi
    rw [(ent_get hnd he H F ρ).2.1]
    exact flat_each hflat he
  · intro i hi j hj b hb hb'
    obtain ⟨e, he, rfl⟩ := hI hi
    obtain ⟨e', he', rfl⟩ := hI hj
    rw [(ent_get hnd he H F ρ).2.1] at hb
    rw [(ent_get hnd he' H F ρ).2.1] at hb'
    exact flat_disj hflat hnd he he' hb hb'
  · intro i hi
    obtain ⟨e, he, rfl⟩ := hI hi
    obtain ⟨h1, h2, h3⟩ := ent_get hnd he H F ρ
    rw [h1, h2, h3]
    exact hB e he hok

/-! ### New names for what is owned -/
structure Took (w : World) (ok : Nat → Prop) (n : Nat) (L : List Ent) (f : List Nat) : Prop where
  names : L.map (·.nm) = List.range' n L.length
  flat : (L.map (·.f)).flatten = f
  den : ∀ e ∈ L, ∃ u, e.v = some u ∧ ∀ ρ : RM, (∀ e' ∈ L, ρ e'.nm = e'.v) → BDen ρ w ok e.b (some u) e.f
theorem Took.nil {ok : Nat → Prop} {n : Nat} : Took w ok n [] [] := ⟨rfl, rfl, by simp⟩
theorem Took.append {ok : Nat → Prop} {n : Nat} {L L' : List Ent} {f f' : List Nat} (h : Took w ok n L f) (h' : Took w ok (n + L.length) L' f') : Took w ok n (L ++ L') (f ++ f') := by
  refine ⟨?_, by rw [List.map_append, List.flatten_append, h.flat, h'.flat], fun e he => ?_⟩
  · rw [List.map_append, h.names, h'.names, List.length_append, ← List.range'_append_1]
  · rcases List.mem_append.1 he with he | he
    · obtain ⟨u, h1, h2⟩ := h.den e he
      exact ⟨u, h1, fun ρ hρ => h2 ρ fun e' he' => hρ e' (by simp [he'])⟩
    · obtain ⟨u, h1, h2⟩ := h'.den e he
      exact ⟨u, h1, fun ρ hρ => h2 ρ fun e' he' => hρ e' (by simp [he'])⟩
theorem Took.one {ok : Nat → Prop} {n : Nat} {b : Blk} {u : Value} {f : List Nat} (h : ∀ ρ : RM, BDen ρ w ok b (some u) f) : Took w ok n [⟨n, b, f, some u⟩] f :=
  ⟨rfl, by simp, fun e he => by simp at he; subst he; exact ⟨u, rfl, fun ρ _ => h ρ⟩⟩
theorem Took.mem {ok : Nat → Prop} {n : Nat} {L : List Ent} {f : List Nat} (h : Took w ok n L f) {e : Ent} (he : e ∈ L) : n ≤ e.nm ∧ e.nm < n + L.length := by
  have : e.nm ∈ List.range' n L.length := by rw [← h.names]; exact List.mem_map.2 ⟨e, he, rfl⟩
  simpa [List.mem_range'_1] using this
theorem Took.nodup {ok : Nat → Prop} {n : Nat} {L : List Ent} {f : List Nat} (h : Took w ok n L f) : (L.map (·.nm)).Nodup := by rw [h.names]; exact List.nodup_range'

/-! ### Loads -/
def ldRow (el : Bool) (H : HM) (d agg : Bool) (size j : Nat) (o : Option Value) (ty sz : Nat) (rows : List (List CV)) (idx off n : Nat) (r : List CV) (K : Eff → Prop) : Prop :=
  cond (((r.drop off).take (cond agg size 1)).all plainC) (outC agg size ((r.drop off).take (cond agg size 1)) fun sv => lnkQ el H sv fun sv => K (.q sv))
    (cond d False (cond (Nat.beq ((r.drop off).take (cond agg size 1)).length (cond agg size 1))
      (openK n ((r.drop off).take (cond agg size 1)) fun ps ss bs m =>
        match agg with
        | true => K ⟨outV ss, bs ++ [(j, .orow o ty sz (rows.set idx (splice r off ps)))], m - n, []⟩
        | false => match ss with
          | [s] => K ⟨s, bs ++ [(j, .orow o ty sz (rows.set idx (splice r off ps)))], m - n, []⟩
          | _ => False) False))
def elemT (tbl : TT) (t : Nat) : Bool := match tbl.find t with | some i => i.elem.isSome | none => false
def eLoad (d : Bool) (tbl : TT) (t : Nat) (p : SV) (H : HM) (n : Nat) (K : Eff → Prop) : Prop :=
  match p with
  | .le j sz idx off =>
    match H j with
    | .orow o ty sz' rows => match tbl.find t with
      | none => False
      | some i => cond (Nat.beq sz sz') (Index rows idx fun r => ldRow i.elem.isSome H d i.agg i.size j o ty sz' rows idx off n r K) False
    | _ => qLoad tbl t p H fun sv => K (.q sv)
  | .lp _ _ => qLoad tbl t p H fun sv => lnkQ (elemT tbl t) H sv fun sv => K (.q sv)
  | _ => qLoad tbl t p H fun sv => K (.q sv)

theorem openK_sound {ok : Nat → Prop} : ∀ {cs : List CV} {xs : List Value} {f : List Nat} {n : Nat} {K : List CV → List SV → List (Nat × Blk) → Nat → Prop}, openK n cs K → Den w ok cs xs f →
    ∃ ps ss m L, K ps ss (wsOf L) m ∧ m = n + L.length ∧ Took w ok n L f ∧ Den w ok ps xs [] ∧ ∀ ρ : RM, (∀ e ∈ L, ρ e.nm = e.v) → PW (CDen ρ w ok) ss xs
  | [], xs, f, n, K, h, hd => by
    cases hd
    exact ⟨[], [], n, [], h, rfl, .nil, .nil, fun ρ _ => ⟨rfl, by simp⟩⟩
  | c :: cs, xs, f, n, K, h, hd => by
    have plain : ∀ {x : Value} {vs : List Value} {f : List Nat}, Den w ok [c] [x] [] → Den w ok cs vs f → (openK n cs fun ps ss bs m => K (c :: ps) (.c c :: ss) bs m) →
        ∃ ps ss m L, K ps ss (wsOf L) m ∧ m = n + L.length ∧ Took w ok n L f ∧ Den w ok ps (x :: vs) [] ∧ ∀ ρ : RM, (∀ e ∈ L, ρ e.nm = e.v) → PW (CDen ρ w ok) ss (x :: vs) := by
      intro x vs f h1 ht h
      obtain ⟨ps, ss, m, L, hK, hm, hT, hD, hC⟩ := openK_sound h ht
      refine ⟨_, _, m, L, hK, hm, hT, by simpa using h1.append hD, fun ρ hρ => ?_⟩
      obtain ⟨g1, g2⟩ := hC ρ hρ
      refine ⟨by simp [g1], fun j a v ha hv => ?_⟩
      cases j with
      | zero => simp at ha hv; subst ha hv; exact .c h1
      | succ j => exact g2 j a v (by simpa using ha) (by simpa using hv)
    have owned : ∀ {x : Value} {vs : List Value} {g f : List Nat} {b : Value → Blk}, x.oneCell' = true → (∃ a n c, x = .slice a n c) → (∀ ρ : RM, BDen ρ w ok (b x) (some x) g) → Den w ok cs vs f →
        (∀ v : Value, openK (n + 1) cs fun ps ss bs m => K (.val v :: ps) (.lw n :: ss) ((n, b v) :: bs) m) →
        ∃ ps ss m L, K ps ss (wsOf L) m ∧ m = n + L.length ∧ Took w ok n L (g ++ f) ∧ Den w ok ps (x :: vs) [] ∧ ∀ ρ : RM, (∀ e ∈ L, ρ e.nm = e.v) → PW (CDen ρ w ok) ss (x :: vs) := by
      intro x vs g f b h1 hx hb ht h
      obtain ⟨ps, ss, m, L, hK, hm, hT, hD, hC⟩ := openK_sound (h x) ht
      refine ⟨_, _, m, ⟨n, b x, g, some x⟩ :: L, hK, by simp; omega, ?_, .val h1 hD, fun ρ hρ => ?_⟩
      · have := (Took.one (n := n) hb).append (L' := L) (f' := f) (by simpa using hT)
        simpa using this
      · obtain ⟨g1, g2⟩ := hC ρ fun e he => hρ e (by simp [he])
        refine ⟨by simp [g1], fun j a v ha hv => ?_⟩
        cases j with
        | zero =>
          simp at ha hv
          subst ha hv
          obtain ⟨a, k, c, rfl⟩ := hx
          exact .lw (hρ ⟨n, b (.slice a k c), g, some (.slice a k c)⟩ (by simp))
        | succ j => exact g2 j a v (by simpa using ha) (by simpa using hv)
    cases hd with
    | any h1 ht => exact plain (.any h1 .nil) ht h
    | val h1 ht => exact plain (.val h1 .nil) ht h
    | cb ht => exact plain (.cb .nil) ht h
    | ro hn hc hm hr hin hrd ht => exact plain (.ro hn hc hm hr hin hrd .nil) ht h
    | rp hl hin hs hrd ht => exact plain (.rp hl hin hs hrd .nil) ht h
    | @op as vs f ty cells b g arr hb hin ht =>
      exact h.elim
    | @own as vs f ty sz rows xs v g hin hr ho ht =>
      have := owned (x := v) (g := v.ownBlock.toList ++ g) (b := fun v => .orow (some v) ty sz rows) (owns_one ho) (by rcases row_form ho with ⟨e, _⟩ | ⟨b, c, e, _⟩ <;> exact ⟨_, _, _, e⟩) (fun ρ => .orow ho hr hin (by simp)) ht h
      simpa using this
    | ownp _ _ _ _ => exact h.elim
    | bld _ _ _ _ => exact h.elim
    | @ows as vs f ty sz rows xs v hin hr ho ht =>
      exact owned (x := v) (g := v.ownBlock.toList) (b := fun v => .row (some v) ty sz rows) (owns_one ho) (by rcases row_form ho with ⟨e, _⟩ | ⟨b, c, e, _⟩ <;> exact ⟨_, _, _, e⟩) (fun ρ => .row ho hr hin (by simp)) ht h

theorem lnkQ_sound (hB : ∀ i, Hm i = .dead ∨ BDen ρ w (okOf Γ F w) (Hm i) (ρ i) (F i)) {el : Bool} {sv : SV} {v : Value} {K : SV → Prop} (h : lnkQ el Hm sv K) (hT : TDen ρ w (okOf Γ F w) sv v) : ∃ sv, K sv ∧ TDen ρ w (okOf Γ F w) sv v := by
  unfold lnkQ at h
  split at h
  · rename_i u
    cases el with
    | false => exact ⟨_, h, hT⟩
    | true =>
      have := den_val (CDen.of_T hT)
      subst this
      cases h with
      | no k => exact ⟨_, k, hT⟩
      | row i hi k =>
        obtain ⟨u, xs, hu, ho, hr, hin, hF, hv⟩ := B_row hB hi
        have := hv _ rfl
        subst this
        rcases row_form ho with ⟨e, _⟩ | ⟨b, c, e, _⟩ <;> (refine ⟨_, k, .v (.c ?_)⟩; subst e; exact .lw hu)
      | orow i hi k =>
        obtain ⟨u, xs, f, hu, ho, hr, hin, hF, hv⟩ := B_orow hB hi
        have := hv _ rfl
        subst this
        rcases row_form ho with ⟨e, _⟩ | ⟨b, c, e, _⟩ <;> (refine ⟨_, k, .v (.c ?_)⟩; subst e; exact .lw hu)
  · exact ⟨_, h, hT⟩
theorem eLoad_sound (htb : TblOk P tbl) (hm : Mem Γ H ρ F w) (hle : LeH Hm H) {d : Bool} {t n : Nat} {p : SV} {pv : Value} {K : Eff → Prop} (h : eLoad d tbl t p Hm n K) (hfr : Fresh ρ n K) (hp : TDen ρ w (okOf Γ F w) p pv) :
    Ran Γ H ρ F w n K ((Instr.loadAt t pv).run P w) := by
  have hB := hm.hb hle
  unfold eLoad at h
  split at h
  · rename_i j sz idx off
    split at h
    · rename_i o ty sz' rows hj
      obtain ⟨b, n0, c0, hρ, rfl⟩ := T_le hp
      split at h
      · exact h.elim
      rename_i i hi
      have hk := htb _ _ hi
      obtain ⟨rv, xs, f, hrv, ho, hr, hin, hF, hv⟩ := B_orow hB hj
      rw [hρ] at hrv
      simp only [Option.some.injEq] at hrv
      subst hrv
      cases hb : Nat.beq sz sz' with
      | false => rw [hb] at h; exact h.elim
      | true =>
        rw [hb] at h
        have := Nat.eq_of_beq_eq_true hb
        subst this
        obtain ⟨r, hx, h⟩ := h
        unfold ldRow at h
        have hrl := hr r (List.mem_of_getElem? hx)
        have hidx := (List.getElem?_eq_some_iff.1 hx).1
        have hbound : idx * sz + sz ≤ rows.length * sz := by rw [← Nat.succ_mul]; exact Nat.mul_le_mul_right _ hidx
        obtain ⟨f1, fr, hf0, d1, d2⟩ := den_cut hin (idx * sz)
        obtain ⟨f2, f3, hf1, d3, d4⟩ := den_cut d2 sz
        rw [flatten_row hr hx] at d3
        obtain ⟨g1, gr, hf2, d5, d6⟩ := den_cut d3 off
        obtain ⟨g2, g3, hf3, d7, d8⟩ := den_cut d6 (cond i.agg i.size 1)
        subst hf0 hf1 hf2 hf3
        have hat := at_take (at_drop (at_take (at_drop (row_at ho rfl).1 (idx * sz)) sz) off) (cond i.agg i.size 1)
        rw [add_mk, add_mk, Nat.zero_add] at hat
        cases hpl : ((r.drop off).take (cond i.agg i.size 1)).all plainC with
        | true =>
          rw [hpl, cond_true] at h
          obtain ⟨sv0, v, hK0, hrn, hT0⟩ := outC_sound (ρ := ρ) hk (plain_foot d7 hpl) hat h
          obtain ⟨sv, hK, hT⟩ := lnkQ_sound hB hK0 hT0
          exact Ran.quiet hm ⟨sv, v, hK, by simp [Instr.loadAt, Instr.sureAddr, hrn], hT⟩
        | false =>
          rw [hpl] at h
          cases d with
          | true => exact h.elim
          | false =>
          cases hlen : Nat.beq ((r.drop off).take (cond i.agg i.size 1)).length (cond i.agg i.size 1) with
          | false => rw [hlen] at h; exact h.elim
          | true =>
          rw [hlen] at h
          have hlen := Nat.eq_of_beq_eq_true hlen
          simp only [cond] at h
          obtain ⟨ps, ss, m, L, hK, hmL, hT, hD, hC⟩ := openK_sound h d7
          subst hmL
          -- the cells that were loaded
          generalize hys : List.take (bif i.agg then i.size else 1) (List.drop off (List.take sz (List.drop (idx * sz) xs))) = ys at hat d7 hD hC
          have hyl : ys.length = cond i.agg i.size 1 := by rw [← d7.length]; exact hlen
          have hpl' : ps.length = cond i.agg i.size 1 := by rw [hD.length]; exact hyl
          have hszpos : off + cond i.agg i.size 1 ≤ sz := by
            have h1 := hlen
            rw [List.length_take, List.length_drop, hrl] at h1
            have : 0 < cond i.agg i.size 1 ∨ cond i.agg i.size 1 = 0 := by omega
            rcases this with h2 | h2
            · omega
            · have : ((r.drop off).take (cond i.agg i.size 1)) = [] := by rw [h2]; simp
              rw [this] at hpl
              simp at hpl
          -- the row as it is left behind
          have hrow' : splice r off ps = r.take off ++ ps ++ r.drop (off + cond i.agg i.size 1) := by unfold splice; rw [hpl']
          have hden : ∀ ok' : Nat → Prop, (∀ b, okOf Γ F w b → ok' b) → Den w ok' (rows.set idx (splice r off ps)).flatten xs (f1 ++ (g1 ++ g3) ++ f3) := by
            intro ok' hok'
            have e1 : rows.set idx (splice r off ps) = rows.take idx ++ splice r off ps :: rows.drop (idx + 1) := by
              rw [List.set_eq_take_append_cons_drop]
              simp [hidx]
            have e0 : rows.flatten = (rows.take idx).flatten ++ (r ++ (rows.drop (idx + 1)).flatten) := by
              have : rows = rows.take idx ++ r :: rows.drop (idx + 1) := by
                obtain ⟨h1, h2⟩ := List.getElem?_eq_some_iff.1 hx
                rw [← h2]
                simp
              conv => lhs; rw [this]
              simp
            have hlt : (rows.take idx).flatten.length = idx * sz := by
              rw [flatten_len fun r hr' => hr r (List.mem_of_mem_take hr'), List.length_take]
              congr 1
              omega
            rw [e0, List.take_left' hlt] at d1
            rw [e0, List.drop_left' hlt, List.drop_left' hrl] at d4
            rw [e1, List.flatten_append, List.flatten_cons, hrow']
            have hxs : xs = List.take (idx * sz) xs ++ ((List.take off (List.take sz (List.drop (idx * sz) xs)) ++ ys ++ List.drop (cond i.agg i.size 1) (List.drop off (List.take sz (List.drop (idx * sz) xs)))) ++ List.drop sz (List.drop (idx * sz) xs)) := by
              rw [← hys, List.append_assoc (List.take off _), List.take_append_drop, List.take_append_drop, List.take_append_drop, List.take_append_drop]
            rw [List.drop_drop] at d8
            have := d1.append (((d5.append hD).append d8).append d4)
            rw [← hxs] at this
            have := this.mono (w' := w) (fun _ _ => rfl) hok' (fun _ _ => rfl)
            simpa using this
          have hnF := hm.nodup j
          rw [hF] at hnF
          have hjl : Hm j ≠ .dead := by rw [hj]; simp
          have fin : ∀ {s : SV} {v : Value}, K ⟨s, wsOf L ++ [(j, .orow o ty sz (rows.set idx (splice r off ps)))], L.length, []⟩ → (loadVar t ⟨b, idx * sz + off, none⟩).run P w = .ok v w →
              (∀ ρ' : RM, (∀ e ∈ L, ρ' e.nm = e.v) → TDen ρ' w (okOf Γ F w) s v) → Ran Γ H ρ F w n K ((Instr.loadAt t (.pointer (some ⟨b, idx * sz + off, none⟩))).run P w) := by
            intro s v hK hrun hs
            have hfree : ∀ e ∈ L, ρ e.nm = none := fun e he => hfr _ hK _ (hT.mem he).1 (hT.mem he).2
            have hjne : ∀ e ∈ L, e.nm ≠ j := fun e he h' => live_ne hm hle (hfree e he) hjl h'.symm
            let L' : List Ent := L ++ [⟨j, .orow o ty sz (rows.set idx (splice r off ps)), b :: (f1 ++ (g1 ++ g3) ++ f3), none⟩]
            have hnd : (L'.map (·.nm)).Nodup := by
              simp only [L', List.map_append, List.map_cons, List.map_nil]
              rw [List.nodup_append]
              refine ⟨hT.nodup, by simp, fun a ha c hc e => ?_⟩
              obtain ⟨e', he', rfl⟩ := List.mem_map.1 ha
              simp at hc
              exact hjne e' he' (e.trans hc)
            have hnew : ∀ e ∈ L', e.v ≠ none → ρ e.nm = none := by
              intro e he hev
              rcases List.mem_append.1 he with he | he
              · exact hfree e he
              · simp at he; subst he; exact absurd rfl hev
            have hR : ∀ e ∈ L, entR L' ρ e.nm = e.v := by
              intro e he
              rw [(ent_get hnd (e := e) (by simp [L', he]) H F ρ).2.2]
              obtain ⟨u, hu, _⟩ := hT.den e he
              simp [entV, hu]
            have hflen : ((L'.map (·.f)).flatten) = g2 ++ (b :: (f1 ++ (g1 ++ g3) ++ f3)) := by
              simp only [L', List.map_append, List.flatten_append, hT.flat]
              simp
            have hperm : ((L'.map (·.f)).flatten).Perm ((Value.slice (some ⟨b, 0, none⟩) n0 c0).ownBlock.toList ++ (f1 ++ ((g1 ++ (g2 ++ g3)) ++ f3))) := by
              rw [hflen]
              simp only [Value.ownBlock, Option.toList_some, List.cons_append, List.nil_append]
              refine (List.perm_middle).trans (.cons b ?_)
              rw [← List.append_assoc]
              simp only [List.append_assoc]
              refine (List.perm_append_comm_assoc g2 f1 _).trans (.append_left f1 ?_)
              refine (List.perm_append_comm_assoc g2 g1 _)
            obtain ⟨k1, k2, k3⟩ := hm.ents L' (w' := w) rfl rfl rfl (Nat.le_refl _) hnd hnew (fun _ _ _ => rfl)
              (fun e he c hc => by
                left
                refine ⟨_, List.mem_append_right _ (List.mem_singleton.2 rfl), ?_⟩
                show c ∈ F j
                rw [hF]
                exact hperm.subset (List.mem_flatten.2 ⟨e.f, List.mem_map.2 ⟨e, he, rfl⟩, hc⟩))
              (hperm.nodup_iff.2 hnF)
              (fun e he hok' => by
                rcases List.mem_append.1 he with he | he
                · obtain ⟨u, hu, hd⟩ := hT.den e he
                  have := hd (entR L' ρ) hR
                  simp only [entV, hu]
                  exact this.mono (fun _ _ => rfl) hok' (fun _ _ => rfl) (Ext.refl _)
                · have he := List.mem_singleton.1 he
                  subst he
                  simp only [entV, hρ]
                  have : b :: (f1 ++ (g1 ++ g3) ++ f3) = (Value.slice (some ⟨b, 0, none⟩) n0 c0).ownBlock.toList ++ (f1 ++ (g1 ++ g3) ++ f3) := rfl
                  rw [this]
                  refine .orow (xs := xs) (by rw [List.length_set]; exact ho) (fun q hq => ?_) (hden _ hok') hv
                  rcases List.mem_or_eq_of_mem_set hq with h1 | h1
                  · exact hr q h1
                  · rw [h1, splice_len (by omega)]; exact hrl)
            obtain ⟨x1, x2⟩ := entR_ext L' hnd hnew
            refine ⟨_, _, _, v, w, hK, by simp [Instr.loadAt, Instr.sureAddr, hrun], x1, fun a ha => ?_, ?_, k2, k3, (hs _ hR).mono (fun _ _ => rfl) k2 (Ext.refl _)⟩
            · obtain ⟨e, he, rfl, hev⟩ := x2 a ha
              rcases List.mem_append.1 he with he | he
              · exact hT.mem he
              · simp at he; subst he; exact absurd rfl hev
            · rw [entH_ws] at k1
              have : wsOf L' = wsOf L ++ [(j, .orow o ty sz (rows.set idx (splice r off ps)))] := by simp [L', wsOf]
              rw [this] at k1
              exact k1
          have hmn : n + L.length - n = L.length := by omega
          rw [hmn] at hK
          split at hK
          · rename_i hagg
            rw [hagg] at hyl
            simp only [cond] at hyl
            exact fin hK (run_loadVar_at hk hyl hat hagg) fun ρ' hρ' => outV_sound (hC ρ' hρ').1 (hC ρ' hρ').2
          · rename_i hagg
            rw [hagg] at hyl
            simp only [cond] at hyl
            split at hK
            · rename_i s
              match hy : ys, hyl with
              | [y], _ =>
                have h0 := hat 0 y rfl
                rw [Addr.add_zero'] at h0
                exact fin hK (run_loadVar_one hk h0 hagg) fun ρ' hρ' => .v (.c ((hC ρ' hρ').2 0 s y rfl rfl))
            · exact hK.elim
    · exact Ran.quiet hm (qLoad_sound hB htb h hp)
  · obtain ⟨sv0, v, h0, hrn, hT0⟩ := qLoad_sound hB htb h hp
    obtain ⟨sv, hK, hT⟩ := lnkQ_sound hB h0 hT0
    exact Ran.quiet hm ⟨sv, v, hK, hrn, hT⟩
  · exact Ran.quiet hm (qLoad_sound hB htb h hp)
end
end Go.KA
