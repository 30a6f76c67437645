/- Part of a proof engine for functions of the given program: what an operation, a loop and a call compute, symbolically. No conditions. -/
import Derived.Test.YtceijpfmaofhpaaEngJ
import Derived.Orders
namespace Go.KA
open Go Go.RowKit

/-! ### Quiet operations, for regions whose order is open -/
def qLenD (x : SV) (H : List Blk) (K : SV → Prop) : Prop :=
  match x with
  | .c (.ro _ rows) => K (ofI .i64 (rows.length : Int))
  | .lw j => match H[j]? with
    | some (.row _ _ rows) => K (ofI .i64 (rows.length : Int))
    | _ => False
  | .ls _ _ _ len => K (ofI .i64 (len : Int))
  | .c (.val (.string s)) => K (ofI .i64 (s.size : Int))
  | _ => False
inductive CallD (P : Program) (f : Nat) (args : List SV) (H : List Blk) (K : SV → Prop) : Prop
  | mk (args' : List SV) (r : SV) (hv : viewAll H args = some args') (h : CallF P f args' r) (hs : (args.all closedV || scalS r) = true) (k : K r)
def dCall (P : Program) (tbl : TT) (c : Call) (T : TM) (H : List Blk) (K : SV → Prop) : Prop :=
  match c.callee with
  | .builtin .len => match c.args.toList, c.argTypes.toList with
    | [x], [t] =>
      match ev T x with
      | .c (.val (.string s)) => match tbl.find t with | some i => cond i.isS (qLenD (.c (.val (.string s))) H K) False | none => False
      | sv => match tbl.find t with | some i => cond i.elem.isSome (qLenD sv H K) False | none => False
    | _, _ => False
  | .value f => match ev T f with
    | .clo k caps => CallD P k (argsS tbl T c.args.toList c.argTypes.toList ++ caps) H K
    | _ => False
  | _ => False
def dMove (s : SV) (K : SV → Prop) : Prop :=
  match s with
  | .c (.val (.slice none 0 0)) => False
  | s => K s
def opQ (P : Program) (tbl : TT) (op : Op) (T : TM) (H : List Blk) (K : SV → Prop) : Prop :=
  match op with
  | .move x => dMove (ev T x) K
  | .assign x => dMove (ev T x) K
  | .pick c a b => qPick (ev T c) (ev T a) (ev T b) K
  | .load t x => qLoad tbl t (ev T x) H K
  | .nilCheck x => qNil (ev T x) K
  | .binOp op t x y _ => qBinAll tbl op t (ev T x) (ev T y) K
  | .unOp op _ x => qUn op (ev T x) K
  | .convert s d x => cond ((tbl.find s).any fun i => i.ik.isSome) (qConv tbl d (ev T x) K) False
  | .fieldAddr s x f => qField tbl s (ev T x) f K
  | .indexAddr t x i => qIndexAddr tbl t (ev T x) (ev T i) H K
  | .extract x i => qExtract (ev T x) i K
  | .call c => dCall P tbl c T H K
  | _ => False

/-- blocks that are there stay what they are -/
def LeH (H H' : List Blk) : Prop := ∀ (k : Nat) b, H[k]? = some b → b ≠ .dead → H'[k]? = some b

section
variable {P : Program} {tbl : TT} {H H' : List Blk} {K : SV → Prop}

theorem index_lin {l : List (List CV)} {n : Nat} {G : (SV → Prop) → List CV → Prop} (hG : ∀ r, G K r → ∃ sv, K sv ∧ G (fun s => s = sv) r) (h : Index l n (G K)) : ∃ sv, K sv ∧ Index l n (G fun s => s = sv) := by
  cases h with
  | mk r h k =>
    obtain ⟨sv, h1, h2⟩ := hG r k
    exact ⟨sv, h1, .mk r h h2⟩
theorem arith_lin {k : IntKind} {z : Int} {g : Int → SV} (h : Arith k z fun z => K (g z)) : ∃ sv, K sv ∧ Arith k z fun z => g z = sv := by
  cases h with
  | fit h hk => exact ⟨_, hk, .fit h rfl⟩
  | wrap hk => exact ⟨_, hk, .wrap rfl⟩
theorem outC_lin {agg : Bool} {size : Nat} {cs : List CV} (h : outC agg size cs K) : ∃ sv, K sv ∧ outC agg size cs fun s => s = sv := by
  unfold outC at h
  split at h
  · cases hb : Nat.beq (cs.take size).length size with
    | true => rw [hb] at h; exact ⟨_, h, by unfold outC; simp only; rw [hb]; trivial⟩
    | false => rw [hb] at h; exact h.elim
  · split at h
    · exact ⟨_, h, by unfold outC; rfl⟩
    · exact h.elim
theorem outS_lin {agg : Bool} {size : Nat} {cs : List SV} (h : outS agg size cs K) : ∃ sv, K sv ∧ outS agg size cs fun s => s = sv := by
  unfold outS at h
  split at h
  · cases hb : Nat.beq (cs.take size).length size with
    | true => rw [hb] at h; exact ⟨_, h, by unfold outS; simp only; rw [hb]; trivial⟩
    | false => rw [hb] at h; exact h.elim
  · split at h
    · exact ⟨_, h, by unfold outS; rfl⟩
    · exact h.elim

theorem cond_lin {b : Bool} {p q : (SV → Prop) → Prop} (hp : p K → ∃ sv, K sv ∧ p fun s => s = sv) (hq : q K → ∃ sv, K sv ∧ q fun s => s = sv) (h : cond b (p K) (q K)) : ∃ sv, K sv ∧ cond b (p fun s => s = sv) (q fun s => s = sv) := by
  cases b with
  | true => exact hp h
  | false => exact hq h
theorem false_lin (h : False) : ∃ sv, K sv ∧ False := h.elim
theorem one_lin {g : SV} (h : K g) : ∃ sv, K sv ∧ g = sv := ⟨_, h, rfl⟩
theorem need_lin {q : Prop} {p : (SV → Prop) → Prop} (hp : p K → ∃ sv, K sv ∧ p fun s => s = sv) (h : Need q (p K)) : ∃ sv, K sv ∧ Need q (p fun s => s = sv) := by
  obtain ⟨sv, h1, h2⟩ := hp h.k
  exact ⟨sv, h1, h.h, h2⟩

theorem qLoad_lin {t : Nat} {p : SV} (h : qLoad tbl t p H K) : ∃ sv, K sv ∧ ∀ H', LeH H H' → qLoad tbl t p H' fun s => s = sv := by
  unfold qLoad at h
  split at h
  · exact h.elim
  · rename_i i hi
    split at h
    · obtain ⟨sv, h1, h2⟩ := cond_lin (p := fun K => K _) (q := fun K => outC _ _ _ K) one_lin outC_lin h
      exact ⟨sv, h1, fun H' _ => by unfold qLoad; simp only [hi]; exact h2⟩
    · split at h
      · rename_i hj
        obtain ⟨sv, h1, h2⟩ := cond_lin (p := fun K => K _) (q := fun K => outC _ _ _ K) one_lin outC_lin h
        exact ⟨sv, h1, fun H' hH => by unfold qLoad; simp only [hi, hH _ _ hj (by simp)]; exact h2⟩
      · rename_i hj
        obtain ⟨sv, h1, h2⟩ := outS_lin h
        exact ⟨sv, h1, fun H' hH => by unfold qLoad; simp only [hi, hH _ _ hj (by simp)]; exact h2⟩
      · exact h.elim
    · split at h
      · rename_i hj
        rename_i sz idx off _ ty sz' rows
        cases hb : Nat.beq sz sz' with
        | false => rw [hb] at h; exact h.elim
        | true =>
          rw [hb] at h
          cases h with
          | mk r hr k =>
            obtain ⟨sv, h1, h2⟩ := cond_lin (p := fun K => K _) (q := fun K => outC _ _ _ K) one_lin outC_lin k
            exact ⟨sv, h1, fun H' hH => by unfold qLoad; simp only [hi, hH _ _ hj (by simp), hb]; exact .mk r hr h2⟩
      · exact h.elim
    · exact h.elim

theorem qField_lin {s : Nat} {p : SV} {f : Nat} (h : qField tbl s p f K) : ∃ sv, K sv ∧ qField tbl s p f fun s => s = sv := by
  unfold qField at h
  split at h
  · exact h.elim
  rename_i i hi
  split at h
  · exact h.elim
  rename_i hf
  split at h
  · exact ⟨_, h, by unfold qField; simp only [hi, hf]⟩
  · exact ⟨_, h, by unfold qField; simp only [hi, hf]⟩
  · exact ⟨_, h, by unfold qField; simp only [hi, hf]⟩
  · exact h.elim

theorem qIndexAddr_lin {t : Nat} {x ix : SV} (h : qIndexAddr tbl t x ix H K) : ∃ sv, K sv ∧ ∀ H', LeH H H' → qIndexAddr tbl t x ix H' fun s => s = sv := by
  unfold qIndexAddr at h
  split at h
  case h_2 => exact h.elim
  rename_i hi hx
  split at h
  case h_2 => exact h.elim
  rename_i he
  split at h
  · rename_i esz _ _ sz rows
    cases hb : Nat.beq sz esz with
    | false => rw [hb] at h; exact h.elim
    | true =>
      rw [hb] at h
      obtain ⟨hn, hr⟩ := h
      cases hr with
      | mk r hr k => exact ⟨_, k, fun H' _ => by unfold qIndexAddr; simp only [hi, hx, he, hb]; exact ⟨hn, .mk r hr rfl⟩⟩
  · split at h
    · rename_i hj
      obtain ⟨sv, h1, h2⟩ := cond_lin (p := fun K => Need _ (K _)) (q := fun _ => False) (need_lin (p := fun K => K _) one_lin) false_lin h
      exact ⟨sv, h1, fun H' hH => by unfold qIndexAddr; simp only [hi, hx, he, hH _ _ hj (by simp)]; exact h2⟩
    · exact h.elim
  · obtain ⟨sv, h1, h2⟩ := cond_lin (p := fun K => Need _ (K _)) (q := fun _ => False) (need_lin (p := fun K => K _) one_lin) false_lin h
    exact ⟨sv, h1, fun H' _ => by unfold qIndexAddr; simp only [hi, hx, he]; exact h2⟩
  · exact h.elim

theorem qInt_lin {op : BinOp} {k : IntKind} {a b : Int} (h : qInt op k a b K) : ∃ sv, K sv ∧ qInt op k a b fun s => s = sv := by
  unfold qInt at h ⊢
  cases op <;> simp only at h ⊢ <;> first
    | exact h.elim
    | exact arith_lin h
    | exact one_lin h
    | (obtain ⟨hn, hk⟩ := h; obtain ⟨sv, h1, h2⟩ := arith_lin hk; exact ⟨sv, h1, hn, h2⟩)
    | (obtain ⟨hn, hk⟩ := h; exact ⟨_, hk, hn, rfl⟩)
theorem qStr_lin {op : BinOp} {a b : ByteArray} (h : qStr op a b K) : ∃ sv, K sv ∧ qStr op a b fun s => s = sv := by
  unfold qStr at h ⊢
  cases op <;> simp only at h ⊢ <;> first
    | exact h.elim
    | exact one_lin h
    | exact need_lin (p := fun K => K _) one_lin h
theorem qBin_lin {op : BinOp} {x y : SV} (h : qBin op x y K) : ∃ sv, K sv ∧ qBin op x y fun s => s = sv := by
  unfold qBin at h ⊢
  split at h
  · cases op <;> simp only at h ⊢ <;> first
      | exact qInt_lin h
      | exact cond_lin (p := fun K => qInt _ _ _ _ K) (q := fun _ => False) qInt_lin false_lin h
  · split at h
    · exact qStr_lin h
    · exact h.elim
theorem qBinB_lin {op : BinOp} {x y : SV} (h : qBinB op x y K) : ∃ sv, K sv ∧ qBinB op x y fun s => s = sv := by
  unfold qBinB at h ⊢
  split at h
  · cases op <;> simp only at h ⊢ <;> first
      | exact h.elim
      | exact one_lin h
  · exact h.elim
theorem qBin2_lin {op : BinOp} {x y : SV} (h : qBin2 op x y K) : ∃ sv, K sv ∧ qBin2 op x y fun s => s = sv := by
  unfold qBin2 at h
  split at h
  · cases op <;> simp only at h <;> first
      | (unfold qBin2; exact cond_lin (p := fun K => K _) (q := fun _ => False) one_lin false_lin h)
      | (exfalso; revert h; cases (kEq _ _ && kEq _ _) <;> exact id)
  · exact h.elim
theorem qBinAll_lin {op : BinOp} {t : Nat} {x y : SV} (h : qBinAll tbl op t x y K) : ∃ sv, K sv ∧ qBinAll tbl op t x y fun s => s = sv := by
  unfold qBinAll at h ⊢
  split at h
  · split at h
    · exact cond_lin (p := fun K => qBinB _ _ _ K) (q := fun _ => False) qBinB_lin false_lin h
    · exact h.elim
  · split at h
    · exact cond_lin (p := fun K => qBin2 _ _ _ K) (q := fun _ => False) qBin2_lin false_lin h
    · exact h.elim
  · exact qBin_lin h
theorem qUn_lin {op : UnOp} {x : SV} (h : qUn op x K) : ∃ sv, K sv ∧ qUn op x fun s => s = sv := by
  unfold qUn at h ⊢
  cases op <;> simp only at h ⊢ <;> first
    | exact h.elim
    | (split at h <;> first
        | exact h.elim
        | exact arith_lin h
        | exact one_lin h)
theorem qPick_lin {c a b : SV} (h : qPick c a b K) : ∃ sv, K sv ∧ qPick c a b fun s => s = sv := by
  unfold qPick at h
  split at h
  · exact ⟨_, h, rfl⟩
  · exact ⟨_, h, rfl⟩
  · split at h
    · rename_i ha hb
      exact ⟨_, h, by unfold qPick; simp only [ha, hb]⟩
    · exact h.elim
  · exact h.elim
theorem qExtract_lin {x : SV} {i : Nat} (h : qExtract x i K) : ∃ sv, K sv ∧ qExtract x i fun s => s = sv := by
  unfold qExtract at h
  split at h
  · split at h
    · rename_i hv; exact ⟨_, h, by unfold qExtract; simp only [hv]⟩
    · exact h.elim
  · exact h.elim
theorem qNil_lin {x : SV} (h : qNil x K) : ∃ sv, K sv ∧ qNil x fun s => s = sv := by
  unfold qNil at h
  split at h
  · exact ⟨_, h, rfl⟩
  · exact ⟨_, h, rfl⟩
  · exact ⟨_, h, rfl⟩
  · exact ⟨_, h, rfl⟩
  · exact h.elim
theorem qConv_lin {d : Nat} {x : SV} (h : qConv tbl d x K) : ∃ sv, K sv ∧ qConv tbl d x fun s => s = sv := by
  unfold qConv at h
  split at h
  · rename_i hi hx
    split at h
    · rename_i hk
      obtain ⟨sv, h1, h2⟩ := arith_lin h
      exact ⟨sv, h1, by unfold qConv; simp only [hi, hx, hk]; exact h2⟩
    · exact h.elim
  · exact h.elim
theorem qLenD_lin {x : SV} (h : qLenD x H K) : ∃ sv, K sv ∧ ∀ H', LeH H H' → qLenD x H' fun s => s = sv := by
  unfold qLenD at h
  split at h
  · exact ⟨_, h, fun _ _ => rfl⟩
  · split at h
    · rename_i hj
      exact ⟨_, h, fun H' hH => by unfold qLenD; simp only [hH _ _ hj (by simp)]⟩
    · exact h.elim
  · exact ⟨_, h, fun _ _ => rfl⟩
  · exact ⟨_, h, fun _ _ => rfl⟩
  · exact h.elim
theorem dMove_lin {s : SV} (h : dMove s K) : ∃ sv, K sv ∧ dMove s fun s => s = sv := by
  unfold dMove at h
  split at h
  · exact h.elim
  · rename_i hne
    refine ⟨_, h, ?_⟩
    unfold dMove
    split
    · exact (hne rfl).elim
    · rfl

theorem viewC_mono (hH : LeH H H') : ∀ (n : Nat) (s : SV) (c : CV), viewC H n s = some c → viewC H' n s = some c
  | 0, _, _, h => by simp [viewC] at h
  | n + 1, s, c, h => by
    simp only [viewC] at h
    split at h
    · simpa [viewC] using h
    · split at h
      · rename_i hi; simp only [viewC, hH _ _ hi (by simp)]; exact h
      · cases h
    · split at h
      · rename_i hi; simp only [viewC, hH _ _ hi (by simp)]; exact h
      · cases h
    · split at h
      · rename_i hi; simp only [viewC, hH _ _ hi (by simp)]; exact h
      · rename_i cs hi
        have key : ∀ (cs : List SV) (l : List CV), mapO (viewC H n) cs = some l → mapO (viewC H' n) cs = some l := by
          intro cs
          induction cs with
          | nil => intro l h; exact h
          | cons x xs ih =>
            intro l h
            simp only [mapO] at h ⊢
            split at h
            · rename_i y ys hy hys
              rw [viewC_mono hH n x y hy, ih ys hys]
              exact h
            · cases h
        split at h
        · rename_i l hl
          simp only [viewC, hH _ _ hi (by simp), key cs l hl]
          exact h
        · cases h
      · cases h
    · cases h
theorem viewL_mono (hH : LeH H H') {n : Nat} : ∀ {cs : List SV} {l : List CV}, mapO (viewC H n) cs = some l → mapO (viewC H' n) cs = some l
  | [], l, h => h
  | x :: xs, l, h => by
    simp only [mapO] at h ⊢
    split at h
    · rename_i y ys hy hys
      rw [viewC_mono hH n x y hy, viewL_mono hH hys]
      exact h
    · cases h
theorem viewV_mono (hH : LeH H H') {s s' : SV} (h : viewV H s = some s') : viewV H' s = some s' := by
  unfold viewV at h
  split at h
  · exact h
  · split at h
    · rename_i hl; simp only [viewV, viewL_mono hH hl]; exact h
    · cases h
  · split at h
    · rename_i hl; simp only [viewV, viewL_mono hH hl]; exact h
    · cases h
  · cases h
  · cases h
  · rename_i n1 n2 n3 n4 n5
    split at h
    · rename_i c hc
      have := viewC_mono hH 5 _ _ hc
      unfold viewV
      split
      · exact (n1 _ _ rfl).elim
      · exact (n2 _ rfl).elim
      · exact (n3 _ _ rfl).elim
      · exact (n4 rfl).elim
      · exact (n5 _ rfl).elim
      · rw [this]; exact h
    · cases h
theorem viewAll_mono (hH : LeH H H') : ∀ {l l' : List SV}, viewAll H l = some l' → viewAll H' l = some l'
  | [], l', h => h
  | x :: xs, l', h => by
    simp only [viewAll, mapOS] at h ⊢
    split at h
    · rename_i y ys hy hys
      rw [viewV_mono hH hy, show mapOS (viewV H') xs = some ys from viewAll_mono hH hys]
      exact h
    · cases h

theorem argsS_congr {T T' : TM} : ∀ (xs : List Operand) (ts : List Nat), (∀ x ∈ xs, ev T' x = ev T x) → argsS tbl T' xs ts = argsS tbl T xs ts
  | [], ts, _ => by cases ts <;> rfl
  | x :: xs, [], h => by
    simp only [argsS]
    rw [h x (by simp), argsS_congr xs [] fun y hy => h y (by simp [hy])]
  | x :: xs, t :: ts, h => by
    simp only [argsS]
    rw [h x (by simp), argsS_congr xs ts fun y hy => h y (by simp [hy])]

theorem opQ_lin {op : Op} {T : TM} (h : opQ P tbl op T H K) : ∃ sv, K sv ∧ ∀ T' H', (∀ x ∈ op.operands, ev T' x = ev T x) → LeH H H' → opQ P tbl op T' H' fun s => s = sv := by
  cases op <;> simp only [opQ] at h <;> first | exact h.elim | skip
  case move x =>
    obtain ⟨sv, h1, h2⟩ := dMove_lin h
    exact ⟨sv, h1, fun T' H' hT _ => by simp only [opQ]; rw [hT x (by simp [Op.operands])]; exact h2⟩
  case assign x =>
    obtain ⟨sv, h1, h2⟩ := dMove_lin h
    exact ⟨sv, h1, fun T' H' hT _ => by simp only [opQ]; rw [hT x (by simp [Op.operands])]; exact h2⟩
  case pick c a b =>
    obtain ⟨sv, h1, h2⟩ := qPick_lin h
    exact ⟨sv, h1, fun T' H' hT _ => by simp only [opQ]; rw [hT c (by simp [Op.operands]), hT a (by simp [Op.operands]), hT b (by simp [Op.operands])]; exact h2⟩
  case load t x =>
    obtain ⟨sv, h1, h2⟩ := qLoad_lin h
    exact ⟨sv, h1, fun T' H' hT hH => by simp only [opQ]; rw [hT x (by simp [Op.operands])]; exact h2 H' hH⟩
  case nilCheck x =>
    obtain ⟨sv, h1, h2⟩ := qNil_lin h
    exact ⟨sv, h1, fun T' H' hT _ => by simp only [opQ]; rw [hT x (by simp [Op.operands])]; exact h2⟩
  case binOp op t x y yt =>
    obtain ⟨sv, h1, h2⟩ := qBinAll_lin h
    exact ⟨sv, h1, fun T' H' hT _ => by simp only [opQ]; rw [hT x (by simp [Op.operands]), hT y (by simp [Op.operands])]; exact h2⟩
  case unOp op t x =>
    obtain ⟨sv, h1, h2⟩ := qUn_lin h
    exact ⟨sv, h1, fun T' H' hT _ => by simp only [opQ]; rw [hT x (by simp [Op.operands])]; exact h2⟩
  case convert s d x =>
    obtain ⟨sv, h1, h2⟩ := cond_lin (p := fun K => qConv tbl d (ev T x) K) (q := fun _ => False) qConv_lin false_lin h
    exact ⟨sv, h1, fun T' H' hT _ => by simp only [opQ]; rw [hT x (by simp [Op.operands])]; exact h2⟩
  case fieldAddr s x f =>
    obtain ⟨sv, h1, h2⟩ := qField_lin h
    exact ⟨sv, h1, fun T' H' hT _ => by simp only [opQ]; rw [hT x (by simp [Op.operands])]; exact h2⟩
  case indexAddr t x i =>
    obtain ⟨sv, h1, h2⟩ := qIndexAddr_lin h
    exact ⟨sv, h1, fun T' H' hT hH => by simp only [opQ]; rw [hT x (by simp [Op.operands]), hT i (by simp [Op.operands])]; exact h2 H' hH⟩
  case extract x i =>
    obtain ⟨sv, h1, h2⟩ := qExtract_lin h
    exact ⟨sv, h1, fun T' H' hT _ => by simp only [opQ]; rw [hT x (by simp [Op.operands])]; exact h2⟩
  case call c =>
    obtain ⟨callee, args, argTypes⟩ := c
    cases callee with
    | invoke r m => exact h.elim
    | builtin b =>
      cases b <;> simp only [dCall] at h <;> first | exact h.elim | skip
      split at h
      · rename_i x t hx ht
        have hmem : x ∈ args := by
          have : x ∈ args.toList := by rw [hx]; simp
          simpa using this
        have hop : ∀ T' : TM, (∀ x ∈ (Op.call { callee := .builtin .len, args := args, argTypes := argTypes }).operands, ev T' x = ev T x) → ev T' x = ev T x := fun T' hT => hT x (by simp [Op.operands, Call.operands, hmem])
        split at h
        · rename_i s hs
          split at h
          · rename_i i hi
            cases hb : i.isS with
            | false => rw [hb] at h; exact h.elim
            | true =>
              rw [hb] at h
              obtain ⟨sv, h1, h2⟩ := qLenD_lin (show qLenD (.c (.val (.string s))) H K from h)
              exact ⟨sv, h1, fun T' H' hT hH => by simp only [opQ, dCall, hx, ht, hop T' hT, hs, hi, hb]; exact h2 H' hH⟩
          · exact h.elim
        · rename_i hns
          split at h
          · rename_i i hi
            cases hb : i.elem with
            | none => rw [hb] at h; exact h.elim
            | some e =>
              rw [hb] at h
              obtain ⟨sv, h1, h2⟩ := qLenD_lin (show qLenD (ev T x) H K from h)
              refine ⟨sv, h1, fun T' H' hT hH => ?_⟩
              simp only [opQ, dCall, hx, ht, hop T' hT, hi, hb]
              exact h2 H' hH
          · exact h.elim
      · exact h.elim
    | value f =>
      simp only [dCall] at h
      split at h
      · rename_i k caps hf
        obtain ⟨args', r, hv, hc, hs, hk⟩ := h
        refine ⟨r, hk, fun T' H' hT hH => ?_⟩
        have e1 : ev T' f = ev T f := hT f (by simp [Op.operands, Call.operands])
        have e2 : argsS tbl T' args.toList argTypes.toList = argsS tbl T args.toList argTypes.toList := argsS_congr _ _ fun x hx => hT x (by
          have : x ∈ args := by simpa using hx
          simp [Op.operands, Call.operands, this])
        simp only [opQ, dCall, e1, hf, e2]
        exact ⟨args', r, viewAll_mono hH hv, hc, hs, rfl⟩
      · exact h.elim
end

section
variable {P : Program} {tbl : TT} {Γ : Cx} {nt : Nat} {T : TM} {H : List Blk} {ρ : List Value} {F : Nat → List Nat} {a : Act} {w : World}

theorem opQ_sound (htb : TblOk P tbl) (hS : St Γ nt T H ρ F a w) {o : Oper} {next : Act → World → Prop} {Q : Exit → Act → World → Prop} {K : SV → Prop}
    (h : opQ P tbl o.op T H K) (hn : ∀ sv v w', K sv → Below w.heap.size w w' → TDen ρ w' (okOf Γ H F w') sv v → next (a.put o.dst v) w') : o.wp P a w next Q := by
  have hB := hS.mem.blocks
  obtain ⟨dst, op, type, pos, after, guard⟩ := o
  simp only at h hn
  have E := fun x => ev_sound hS x
  have quiet : ∀ {m : Sem Value}, (execOp a.eval { dst := dst, op := op, type := type, pos := pos, after := after, guard := guard } = (do pure (Next.value (← m)))) → (∃ sv v, K sv ∧ m.run P w = .ok v w ∧ TDen ρ w (okOf Γ H F w) sv v) → Oper.wp P { dst := dst, op := op, type := type, pos := pos, after := after, guard := guard } a w next Q := by
    rintro m he ⟨sv, v, hK, hr, hT⟩
    unfold Oper.wp
    rw [he]
    simp only [Sem.run_bind, hr, Result.andThen_ok, Sem.run_pure]
    exact hn _ _ _ hK (Below.refl _ _) hT
  cases op <;> simp only [opQ] at h <;> first | exact h.elim | skip
  case move x =>
    unfold dMove at h
    split at h
    · exact h.elim
    · exact quiet (m := pure (a.eval x)) (by simp [execOp]) ⟨_, _, h, rfl, E x⟩
  case assign x =>
    unfold dMove at h
    split at h
    · exact h.elim
    · exact quiet (m := pure (a.eval x)) (by simp [execOp]) ⟨_, _, h, rfl, E x⟩
  case pick c x y =>
    obtain ⟨sv, v, hK, hr, hT⟩ := qPick_sound (P := P) h (E c) (E x) (E y)
    unfold Oper.wp
    simp only [execOp, hr]
    exact hn _ _ _ hK (Below.refl _ _) hT
  case load t x => exact quiet rfl (qLoad_sound hB htb h (E x))
  case nilCheck x =>
    obtain ⟨sv, hK, hm, hT⟩ := qNil_sound h (E x)
    have hr : (execOp a.eval { dst := dst, op := .nilCheck x, type := type, pos := pos, after := after, guard := guard }).run P w = .ok (.value (a.eval x)) w := by
      simp only [execOp]
      split
      · rename_i he; rw [he] at hm; exact hm.elim
      · rename_i he; rw [he] at hm; exact hm.elim
      · rename_i he; rw [he] at hm; exact hm.elim
      · rename_i he; rw [he] at hm; exact hm.elim
      · rfl
    unfold Oper.wp
    rw [hr]
    exact hn _ _ _ hK (Below.refl _ _) hT
  case binOp op t x y yt => exact quiet rfl (qBinAll_sound htb h (E x) (E y))
  case unOp op t x => exact quiet rfl (qUn_sound h (E x))
  case convert s d x =>
    cases hb : (tbl.find s).any fun i => i.ik.isSome with
    | false => rw [hb] at h; exact h.elim
    | true => rw [hb] at h; exact quiet rfl (qConv_sound htb hb h (E x))
  case fieldAddr s x f => exact quiet rfl (qField_sound htb h (E x))
  case indexAddr t x i => exact quiet rfl (qIndexAddr_sound hB htb h (E x) (E i))
  case extract x i => exact quiet rfl (qExtract_sound h (E x))
  case call c =>
    obtain ⟨callee, args, argTypes⟩ := c
    cases callee with
    | invoke r m => exact h.elim
    | builtin b =>
      cases b <;> simp only [dCall] at h <;> first | exact h.elim | skip
      have toLen : ∀ {x : SV}, qLenD x H K → qLen x H K := by
        intro x hq
        unfold qLenD at hq
        split at hq
        · exact ⟨fun _ => hq⟩
        · split at hq
          · rename_i hj; unfold qLen; simp only [hj]; exact ⟨fun _ => hq⟩
          · exact hq.elim
        · exact ⟨fun _ => hq⟩
        · exact hq
        · exact hq.elim
      split at h
      · rename_i x t hx ht
        have hx' : args = #[x] := by cases args; simp_all
        have ht' : argTypes = #[t] := by cases argTypes; simp_all
        subst hx' ht'
        have fin : (∃ sv v, K sv ∧ (Builtin.len_ #[t] type #[a.eval x]).run P w = .ok v w ∧ TDen ρ w (okOf Γ H F w) sv v) → Oper.wp P { dst := dst, op := .call { callee := .builtin .len, args := #[x], argTypes := #[t] }, type := type, pos := pos, after := after, guard := guard } a w next Q := by
          intro hq
          obtain ⟨sv, v, hK, hr, hT⟩ := hq
          unfold Oper.wp
          simp only [execOp, resolve, invoke, builtin, Sem.run_bind, Sem.run_pure, Result.andThen_ok, List.map_toArray, List.map_cons, List.map_nil, hr]
          exact hn _ _ _ hK (Below.refl _ _) hT
        split at h
        · rename_i s hs
          split at h
          · rename_i i hi
            cases hb : i.isS with
            | false => rw [hb] at h; exact h.elim
            | true =>
              rw [hb] at h
              simp only [cond] at h
              have hu := (htb _ _ hi).isS hb
              exact fin (qLen_sound hB htb (x := .c (.val (.string s))) (.inr hu) (toLen h) (by rw [← hs]; exact E x) ⟨fun _ => rfl, fun _ => hu⟩)
          · exact h.elim
        · rename_i hns
          split at h
          · rename_i i hi
            cases hb : i.elem with
            | none => rw [hb] at h; exact h.elim
            | some e =>
              rw [hb] at h
              obtain ⟨e1, e2, e3⟩ := e
              have hu := ((htb _ _ hi).elem _ _ _ hb).1
              have hno : (asStr (ev T x)).isSome = true → False := by
                intro h0
                unfold asStr at h0
                split at h0
                · rename_i s hs; exact hns s hs
                · cases h0
              have hns' : P.underlying t ≠ some .string := by rw [hu]; simp
              exact fin (qLen_sound hB htb (.inl ⟨i, _, hi, hb⟩) (toLen h) (E x) ⟨fun h0 => absurd h0 hns', fun h0 => (hno h0).elim⟩)
          · exact h.elim
      · exact h.elim
    | value f =>
      simp only [dCall] at h
      split at h
      · rename_i k caps hf
        obtain ⟨args', r, hview, hc, hs, hk⟩ := h
        have hT := E f
        rw [hf] at hT
        obtain ⟨cvs, heq, hcl, hcc⟩ := T_clo hT
        obtain ⟨h1, h2⟩ := argsS_sound (tbl := tbl) hS args.toList argTypes.toList
        obtain ⟨hlen, hget⟩ := viewAll_get hview
        have hl : (argsS tbl T args.toList argTypes.toList ++ caps).length = (args.toList.map a.eval ++ cvs).length := by simp only [List.length_append, h1, hcl]
        have hv : ∀ (j : Nat) s v, (argsS tbl T args.toList argTypes.toList ++ caps)[j]? = some s → (args.toList.map a.eval ++ cvs)[j]? = some v → TDen ρ w (okOf Γ H F w) s v := by
          intro j s v hs hv
          by_cases hj : j < (argsS tbl T args.toList argTypes.toList).length
          · rw [List.getElem?_append_left hj] at hs
            rw [List.getElem?_append_left (by rw [← h1]; exact hj)] at hv
            exact h2 j s v hs hv
          · rw [List.getElem?_append_right (by omega)] at hs
            rw [List.getElem?_append_right (by rw [← h1]; omega), ← h1] at hv
            exact .v (.c (hcc _ s v hs hv))
        have hcall : Calls P k (args.toList.map a.eval ++ cvs).toArray w (fun e w' => ∃ v, e = .returned v ∧ Below w.heap.size w w' ∧ TDen ρ w' (okOf Γ H F w') r v) := by
          cases hcl' : (argsS tbl T args.toList argTypes.toList ++ caps).all closedV with
          | true =>
            refine (hc.2 w (okOf Γ H F w) _ (fun b hb => hb.1) (by omega) (fun j s' v hs' hv' ρ' => ?_)).mono ?_
            · obtain ⟨s, hs1, hs2⟩ := hget j s' hs'
              have hcs : closedV s = true := List.all_eq_true.1 hcl' s (List.mem_of_getElem? hs1)
              have := closed_view hcs hs2
              subst this
              exact closedV_sound (fun _ h => h) hcs (T_to_V hs2 (hv j _ v hs1 hv')) ρ'
            · rintro e w' ⟨v, rfl, hb, hr⟩
              exact ⟨v, rfl, hb, (hr ρ).mono (fun _ _ => rfl) (ok_after hS hb)⟩
          | false =>
            rw [hcl'] at hs
            have hscal : scalS r = true := by simpa using hs
            refine (hc.2 w (fun b => okOf Γ H F w b ∨ Owned H F b) _ ?_ (by omega) fun j s' v hs' hv' ρ' => ?_).mono ?_
            · rintro b (hb | hb)
              · exact hb.1
              · exact hS.mem.lt b hb
            · obtain ⟨s, hs1, hs2⟩ := hget j s' hs'
              exact viewV_sound (F := F) hS.mem.blocks (fun _ h => .inl h) (fun i hi b hb => .inr ⟨i, hi, hb⟩) hs2 (T_to_V hs2 (hv j _ v hs1 hv')) ρ'
            · rintro e w' ⟨v, rfl, hb, hr⟩
              exact ⟨v, rfl, hb, scal_T hscal (hr ρ)⟩
        obtain ⟨fn, hfn1, hfn2, hfn3⟩ := hc.1
        have hargs : args.map a.eval ++ cvs.toArray = (args.toList.map a.eval ++ cvs).toArray := by
          apply Array.toList_inj.1; simp
        unfold Oper.wp
        simp only [execOp, resolve, heq, Deferred.ofValue, Sem.run_bind, Sem.run_pure, Result.andThen_ok, invoke, callFunc, run_program, hfn1, hfn2, hfn3, Bool.false_eq_true, if_false, Oper.upon_enter]
        simp only [Array.empty_append]
        rw [hargs]
        refine hcall.mono ?_
        rintro e w' ⟨v, rfl, hb, hT⟩
        exact hn _ _ _ hk hb hT
      · exact h.elim
end
end Go.KA
