/- Part of a proof engine for functions of the given program: what an operation, a loop and a call compute, symbolically. No conditions. -/
import Derived.Test.YtaajacnceocpoaaGreatEngN
import Derived.Orders
namespace Go.KA
open Go Go.RowKit

/-! ### What an operation does is settled -/
def LinS (X : (SV → Prop) → Prop) : Prop := ∀ K, X K → ∃ s, K s ∧ ∀ K' : SV → Prop, K' s → X K'
def Lin (X : (Eff → Prop) → Prop) : Prop := ∀ K, X K → ∃ E, K E ∧ ∀ K' : Eff → Prop, K' E → X K'
section
variable {P : Program} {tbl : TT} {H : HM}
theorem LinS.q {X : (SV → Prop) → Prop} (h : LinS X) : Lin fun K => X fun sv => K (.q sv) := fun K hX => by
  obtain ⟨s, h1, h2⟩ := h _ hX
  exact ⟨_, h1, fun K' hK' => h2 _ hK'⟩
theorem lin_false : LinS fun _ => False := fun _ h => h.elim
theorem lin_one {g : SV} : LinS fun K => K g := fun _ h => ⟨g, h, fun _ h => h⟩
theorem lin_cond {b : Bool} {p q : (SV → Prop) → Prop} (hp : LinS p) (hq : LinS q) : LinS fun K => cond b (p K) (q K) := by
  cases b with
  | true => exact hp
  | false => exact hq
theorem lin_need {q : Prop} {p : (SV → Prop) → Prop} (hp : LinS p) : LinS fun K => Need q (p K) := fun K h => by
  obtain ⟨s, h1, h2⟩ := hp _ h.k
  exact ⟨s, h1, fun K' hK' => ⟨h.h, h2 _ hK'⟩⟩
theorem lin_arith {k : IntKind} {z : Int} {g : Int → SV} : LinS fun K => Arith k z fun z => K (g z) := fun K h => by
  cases h with
  | fit h hk => exact ⟨_, hk, fun K' hK' => .fit h hK'⟩
  | wrap hk => exact ⟨_, hk, fun K' hK' => .wrap hK'⟩
theorem lin_index {l : List (List CV)} {n : Nat} {G : List CV → (SV → Prop) → Prop} (hG : ∀ r, LinS (G r)) : LinS fun K => Index l n fun r => G r K := fun K h => by
  cases h with
  | mk r h k =>
    obtain ⟨s, h1, h2⟩ := hG r _ k
    exact ⟨s, h1, fun K' hK' => .mk r h (h2 _ hK')⟩
theorem lin_outC {agg : Bool} {size : Nat} {cs : List CV} : LinS fun K => outC agg size cs K := by
  unfold outC
  cases agg with
  | true => exact lin_cond lin_one lin_false
  | false => cases cs with
    | nil => exact lin_false
    | cons x _ => exact lin_one
theorem lin_outS {agg : Bool} {size : Nat} {cs : List SV} : LinS fun K => outS agg size cs K := by
  unfold outS
  cases agg with
  | true => exact lin_cond lin_one lin_false
  | false => cases cs with
    | nil => exact lin_false
    | cons x _ => exact lin_one
theorem lin_load {t : Nat} {p : SV} : LinS fun K => qLoad tbl t p H K := by
  unfold qLoad
  cases tbl.find t with
  | none => exact lin_false
  | some i =>
    simp only
    split
    · exact lin_cond lin_one lin_outC
    · split
      · exact lin_cond lin_one lin_outC
      · exact lin_outS
      · exact lin_false
    · split
      · exact lin_cond (lin_index fun r => lin_cond lin_one lin_outC) lin_false
      · exact lin_cond (lin_index fun r => lin_cond lin_outC lin_false) lin_false
      · exact lin_false
    · exact lin_false
theorem lin_field {s : Nat} {p : SV} {f : Nat} : LinS fun K => qField tbl s p f K := by
  unfold qField
  cases tbl.find s with
  | none => exact lin_false
  | some i =>
    simp only
    cases i.fields[f]? with
    | none => exact lin_false
    | some x =>
      simp only
      split
      · exact lin_one
      · exact lin_one
      · exact lin_one
      · exact lin_false
theorem lin_indexAddr {t : Nat} {x ix : SV} : LinS fun K => qIndexAddr tbl t x ix H K := by
  unfold qIndexAddr
  split
  · split
    · split
      · exact lin_cond (lin_need (lin_index fun r => lin_one)) lin_false
      · split
        · exact lin_cond (lin_need lin_one) lin_false
        · exact lin_cond (lin_need lin_one) lin_false
        · exact lin_false
      · exact lin_cond (lin_need lin_one) lin_false
      · exact lin_false
    · exact lin_false
  · exact lin_false
theorem lin_int {op : BinOp} {k : IntKind} {a b : Int} : LinS fun K => qInt op k a b K := by
  unfold qInt
  cases op <;> first
    | exact lin_false
    | exact lin_arith
    | exact lin_one
    | exact lin_need lin_arith
    | exact lin_need lin_one
theorem lin_str {op : BinOp} {a b : ByteArray} : LinS fun K => qStr op a b K := by
  unfold qStr
  cases op <;> first
    | exact lin_false
    | exact lin_one
    | exact lin_need lin_one
theorem lin_bin {op : BinOp} {x y : SV} : LinS fun K => qBin op x y K := by
  unfold qBin
  split
  · cases op <;> first
      | exact lin_int
      | exact lin_cond lin_int lin_false
  · split
    · exact lin_str
    · exact lin_false
theorem lin_binB {op : BinOp} {x y : SV} : LinS fun K => qBinB op x y K := by
  unfold qBinB
  split
  · cases op <;> first
      | exact lin_false
      | exact lin_one
  · exact lin_false
theorem lin_bin2 {op : BinOp} {x y : SV} : LinS fun K => qBin2 op x y K := by
  unfold qBin2
  split
  · cases op <;> exact lin_cond (by first | exact lin_one | exact lin_false) lin_false
  · exact lin_false
theorem lin_binAll {op : BinOp} {t : Nat} {x y : SV} : LinS fun K => qBinAll tbl op t x y K := by
  unfold qBinAll
  split
  · split
    · exact lin_cond lin_binB lin_false
    · exact lin_false
  · split
    · exact lin_cond lin_bin2 lin_false
    · exact lin_false
  · exact lin_bin
theorem lin_binN {op : BinOp} {t : Nat} {x y : SV} : LinS fun K => qBinN true tbl op t x y K := by
  unfold qBinN
  cases isNilS y with
  | true => simp only; split <;> exact lin_false
  | false => exact lin_binAll
theorem lin_un {op : UnOp} {x : SV} : LinS fun K => qUn op x K := by
  unfold qUn
  cases op <;> simp only <;> first
    | exact lin_false
    | (split <;> first
        | exact lin_false
        | exact lin_arith
        | exact lin_one)
theorem lin_pick {c a b : SV} : LinS fun K => qPick c a b K := by
  unfold qPick
  split
  · exact lin_one
  · exact lin_one
  · split
    · exact lin_one
    · exact lin_false
  · exact lin_false
theorem lin_extract {x : SV} {i : Nat} : LinS fun K => qExtract x i K := by
  unfold qExtract
  split
  · split
    · exact lin_one
    · exact lin_false
  · exact lin_false
theorem lin_nil {x : SV} : LinS fun K => qNil x K := by
  unfold qNil
  split <;> first | exact lin_one | exact lin_false
theorem lin_conv {d : Nat} {x : SV} : LinS fun K => qConv tbl d x K := by
  unfold qConv
  split
  · split
    · exact lin_arith
    · exact lin_false
  · exact lin_false
theorem lin_bytes {e d : Nat} {x : SV} : LinS fun K => qBytes tbl e d x H K := by
  unfold qBytes
  split
  · split
    · split
      · refine lin_cond ?_ lin_false
        split
        · split
          · split
            · exact lin_cond lin_one lin_false
            · exact lin_false
          · exact lin_false
        · exact lin_false
      · exact lin_false
    · exact lin_false
  · exact lin_false
theorem lin_len {x : SV} : LinS fun K => qLen true x H K := by
  unfold qLen
  split
  · exact lin_one
  · split
    · exact lin_one
    · exact lin_one
    · exact lin_false
  · exact lin_one
  · exact lin_one
  · exact lin_one
  · exact lin_false
theorem lin_ix {x ix : SV} : LinS fun K => qIndex x ix K := by
  unfold qIndex
  split
  · exact lin_need lin_one
  · exact lin_false
theorem lin_slw {j sz len : Nat} {l h : Int} : LinS fun K => SliceW j sz len l h K := fun K hS => by
  cases hS with
  | some hb k => exact ⟨_, k, fun K' hK' => .some hb hK'⟩
  | none hb k => exact ⟨_, k, fun K' hK' => .none hb hK'⟩
  | all hb k => exact ⟨_, k, fun K' hK' => .all hb hK'⟩
theorem lin_slice {t : Nat} {x : SV} {lo hi : Option SV} : LinS fun K => qSlice tbl t x lo hi H K := by
  unfold qSlice
  cases tbl.find t with
  | none => exact lin_false
  | some i =>
    simp only
    split
    · split
      · exact lin_cond (lin_need lin_one) lin_false
      · exact lin_false
    · split
      · split
        · exact lin_cond lin_slw lin_false
        · exact lin_false
      · split
        · exact lin_cond lin_slw lin_false
        · exact lin_false
      · exact lin_false
    · split
      · exact lin_cond (lin_need lin_one) lin_false
      · exact lin_false
    · exact lin_false

theorem linE_false : Lin fun _ => False := fun _ h => h.elim
theorem linE_one {g : Eff} : Lin fun K => K g := fun _ h => ⟨g, h, fun _ h => h⟩
theorem linE_cond {b : Bool} {p q : (Eff → Prop) → Prop} (hp : Lin p) (hq : Lin q) : Lin fun K => cond b (p K) (q K) := by
  cases b with
  | true => exact hp
  | false => exact hq
theorem linE_need {q : Prop} {p : (Eff → Prop) → Prop} (hp : Lin p) : Lin fun K => Need q (p K) := fun K h => by
  obtain ⟨s, h1, h2⟩ := hp _ h.k
  exact ⟨s, h1, fun K' hK' => ⟨h.h, h2 _ hK'⟩⟩
theorem linE_index {l : List (List CV)} {n : Nat} {G : List CV → (Eff → Prop) → Prop} (hG : ∀ r, Lin (G r)) : Lin fun K => Index l n fun r => G r K := fun K h => by
  cases h with
  | mk r h k =>
    obtain ⟨s, h1, h2⟩ := hG r _ k
    exact ⟨s, h1, fun K' hK' => .mk r h (h2 _ hK')⟩
theorem linE_call {f : Nat} {args : List SV} {n : Nat} : Lin fun K => CallN (d := true) P f args H n K := fun K h => by
  cases h with
  | pure args' r hv h hs E he k => exact ⟨E, k, fun K' k' => .pure args' r hv h hs E he k'⟩
  | own args' r hv h hp E he k => exact ⟨E, k, fun K' k' => .own args' r hv h hp E he k'⟩
  | gen md args' outs r hv h hn hc E he k => exact ⟨E, k, fun K' k' => .gen md args' outs r hv h hn hc E he k'⟩
  | pug md args' outs r hv h hn hp E he k => exact ⟨E, k, fun K' k' => .pug md args' outs r hv h hn hp E he k'⟩
  | ex hd => cases hd
theorem linE_stRow {sz : Nat} {rows : List (List CV)} {idx off size : Nat} {cs : List CV} {g : List (List CV) → Eff} : Lin fun K => stRow sz rows idx off size cs fun r => K (g r) := by
  unfold stRow
  exact linE_cond (linE_cond (linE_index fun r => linE_one) (linE_cond (linE_index fun r => linE_one) linE_false)) linE_false
theorem linE_store {t : Nat} {p v : SV} : Lin fun K => eStore tbl t p v H K := by
  unfold eStore
  cases tbl.find t with
  | none => exact linE_false
  | some i =>
    simp only
    split
    · split
      · split
        · exact linE_cond (linE_cond linE_one (linE_cond linE_one linE_false)) linE_false
        · exact linE_cond linE_one linE_false
        · exact linE_cond (linE_cond linE_one (linE_cond linE_one linE_false)) linE_false
        · exact linE_cond linE_one linE_false
      · split
        · exact linE_cond (linE_cond linE_one (linE_cond linE_one linE_false)) linE_false
        · exact linE_cond linE_one linE_false
        · exact linE_cond linE_one linE_false
      · split
        · split
          · exact linE_cond linE_one linE_false
          · exact linE_false
        · exact linE_false
      · exact linE_false
    · split
      · exact linE_false
      · split
        · refine linE_cond ?_ linE_false
          split
          · exact linE_stRow
          · exact linE_cond linE_stRow linE_false
        · exact linE_cond (linE_cond linE_stRow linE_false) linE_false
        · exact linE_false
    · exact linE_false
theorem linE_append {t : Nat} {s x : SV} {n : Nat} : Lin fun K => eAppend true tbl t s x H n K := by
  unfold eAppend
  split
  · split
    · split
      · split <;> first | exact linE_one | exact linE_false
      · split
        · split
          · refine linE_cond ?_ linE_false
            unfold fact
            refine linE_need ?_
            split <;> exact linE_one
          · exact linE_cond (by unfold fact; exact linE_need linE_one) linE_false
          · exact linE_false
        · exact linE_false
    · exact linE_false
  · split
    · split
      · split
        · refine linE_cond ?_ linE_false
          unfold fact
          refine linE_need ?_
          split <;> exact linE_one
        · exact linE_false
      · exact linE_false
    · exact linE_false
  · exact linE_false
theorem lin_bind {X : (SV → Prop) → Prop} {G : SV → (SV → Prop) → Prop} (hX : LinS X) (hG : ∀ s, LinS (G s)) : LinS fun K => X fun s => G s K := fun K h => by
  obtain ⟨s, h1, h2⟩ := hX _ h
  obtain ⟨s', h3, h4⟩ := hG s K h1
  exact ⟨s', h3, fun K' hK' => h2 _ (h4 K' hK')⟩
theorem lin_lnk {el : Bool} {sv : SV} : LinS fun K => lnkQ el H sv K := by
  unfold lnkQ
  split
  · refine lin_cond (fun K h => ?_) lin_one
    cases h with
    | no k => exact ⟨_, k, fun K' hK' => .no hK'⟩
    | row i h k => exact ⟨_, k, fun K' hK' => .row i h hK'⟩
    | orow i h k => exact ⟨_, k, fun K' hK' => .orow i h hK'⟩
  · exact lin_one
theorem linE_load {t : Nat} {p : SV} {n : Nat} : Lin fun K => eLoad true tbl t p H n K := by
  unfold eLoad
  split
  · split
    · cases tbl.find t with
      | none => exact linE_false
      | some i => exact linE_cond (linE_index fun r => by unfold ldRow; exact linE_cond (lin_bind lin_outC fun s => lin_lnk).q linE_false) linE_false
    · exact lin_load.q
  · exact (lin_bind lin_load fun s => lin_lnk).q
  · exact lin_load.q
theorem lin_lookup {t : Nat} {x k : SV} {ok : Bool} : LinS fun K => qLookup tbl t x k ok H K := by
  unfold qLookup
  split
  · split
    · split
      · split
        · refine lin_cond (fun K h => ?_) lin_false
          cases h with
          | hit j s h g =>
            cases ok with
            | true => exact ⟨_, g, fun K' hK' => .hit j s h hK'⟩
            | false => exact ⟨_, g, fun K' hK' => .hit j s h hK'⟩
          | miss h g =>
            cases ok with
            | true => exact ⟨_, g, fun K' hK' => .miss h hK'⟩
            | false => exact ⟨_, g, fun K' hK' => .miss h hK'⟩
        · exact lin_false
      · exact lin_false
    · exact lin_false
  · exact lin_false
theorem linE_mapUpdate {t : Nat} {x k v : SV} : Lin fun K => eMapUpdate tbl t x k v H K := by
  unfold eMapUpdate
  split
  · split
    · split
      · split
        · refine linE_cond (fun K h => ?_) linE_false
          cases h with
          | old j s h g => exact ⟨_, g, fun K' hK' => .old j s h hK'⟩
          | new h g => exact ⟨_, g, fun K' hK' => .new h hK'⟩
        · exact linE_false
      · exact linE_false
    · exact linE_false
  · exact linE_false
theorem opE_lin {op : Op} {ty n : Nat} {T : TM} : Lin fun K => opE true P tbl op ty T H n K := by
  cases op <;> simp only [opE] <;> first | exact linE_false | skip
  case move x =>
    unfold eMove
    split
    · split
      · split <;> exact linE_one
      · exact linE_one
    · exact linE_one
  case assign x =>
    unfold eMove
    split
    · split
      · split <;> exact linE_one
      · exact linE_one
    · exact linE_one
  case pick => exact lin_pick.q
  case alloc t => unfold eAlloc; (repeat' split) <;> first | exact linE_one | exact linE_false
  case box t x => unfold eBox; split <;> first | exact linE_one | exact linE_false
  case build t ps =>
    unfold eBuild
    split
    · exact linE_false
    · refine linE_cond linE_false ?_
      split <;> first | exact linE_one | exact linE_false
  case buildSlice t l ps =>
    unfold eBuildSlice
    split
    · exact linE_false
    · split
      · exact linE_false
      · split
        · exact linE_false
        · refine linE_cond ?_ linE_false
          split
          · exact linE_one
          · exact linE_cond linE_one linE_false
  case load => exact linE_load
  case store => exact linE_store
  case nilCheck => exact lin_nil.q
  case binOp => exact lin_binN.q
  case unOp => exact lin_un.q
  case convert => exact linE_cond lin_conv.q lin_bytes.q
  case makeFunc =>
    split
    · unfold eFunc; exact linE_cond linE_one linE_false
    · exact linE_false
  case makeSlice =>
    unfold eMakeSlice
    split
    · split
      · exact linE_false
      · split
        · exact linE_false
        · exact linE_need linE_one
    · exact linE_false
  case slice =>
    split
    · exact lin_slice.q
    · exact linE_false
  case fieldAddr => exact lin_field.q
  case indexAddr => exact lin_indexAddr.q
  case index =>
    split
    · exact linE_cond lin_ix.q linE_false
    · exact linE_false
  case extract => exact lin_extract.q
  case makeMap t r =>
    split
    · unfold eMakeMap
      split
      · split
        · exact linE_one
        · exact linE_false
      · exact linE_false
    · exact linE_false
  case lookup => exact lin_lookup.q
  case mapUpdate => exact linE_mapUpdate
  case call c =>
    unfold eCall
    split
    · split
      · split
        · split
          · exact linE_cond lin_len.q linE_false
          · exact linE_false
        · split
          · exact linE_cond lin_len.q linE_false
          · exact linE_false
      · exact linE_false
    · split
      · exact linE_cond linE_append linE_false
      · exact linE_false
    · split
      · exact linE_call
      · exact linE_false
    · exact linE_false

theorem opE_T {d : Bool} {op : Op} {ty n : Nat} {T T' : TM} {K : Eff → Prop} (hT : ∀ x ∈ op.operands, ev T' x = ev T x) (h : opE d P tbl op ty T H n K) : opE d P tbl op ty T' H n K := by
  cases op <;> simp only [opE] at h ⊢ <;> first | exact h.elim | skip
  case move x => rw [hT x (by simp [Op.operands])]; exact h
  case assign x => rw [hT x (by simp [Op.operands])]; exact h
  case pick a b c => rw [hT a (by simp [Op.operands]), hT b (by simp [Op.operands]), hT c (by simp [Op.operands])]; exact h
  case alloc t => exact h
  case box t x => rw [hT x (by simp [Op.operands])]; exact h
  case build t ps =>
    have : (ps.toList.map fun p => (p.1, ev T' p.2)) = ps.toList.map fun p => (p.1, ev T p.2) := by
      refine List.map_congr_left fun p hp => ?_
      rw [hT p.2 (by simp only [Op.operands]; exact List.mem_toArray.2 (List.mem_map.2 ⟨p, hp, rfl⟩))]
    rw [this]; exact h
  case buildSlice t l ps =>
    have : (ps.toList.map fun p => (p.1, ev T' p.2)) = ps.toList.map fun p => (p.1, ev T p.2) := by
      refine List.map_congr_left fun p hp => ?_
      rw [hT p.2 (by simp only [Op.operands]; exact List.mem_toArray.2 (List.mem_map.2 ⟨p, hp, rfl⟩))]
    rw [this]; exact h
  case load t x => rw [hT x (by simp [Op.operands])]; exact h
  case store t x y => rw [hT x (by simp [Op.operands]), hT y (by simp [Op.operands])]; exact h
  case nilCheck x => rw [hT x (by simp [Op.operands])]; exact h
  case binOp op t x y yt => rw [hT x (by simp [Op.operands]), hT y (by simp [Op.operands])]; exact h
  case unOp op t x => rw [hT x (by simp [Op.operands])]; exact h
  case convert s t x => rw [hT x (by simp [Op.operands])]; exact h
  case makeFunc fn first caps =>
    split at h
    · have : caps.toList.map (ev T') = caps.toList.map (ev T) := by
        refine List.map_congr_left fun x hx => ?_
        rw [hT x (by simp only [Op.operands]; simp at hx ⊢; exact .inr hx)]
      rw [this]; exact h
    · exact h.elim
  case makeSlice t l c => rw [hT l (by simp [Op.operands]), hT c (by simp [Op.operands])]; exact h
  case slice t x lo hi mx =>
    split at h
    · have e1 : ∀ o : Option Operand, (∀ x, o = some x → ev T' x = ev T x) → o.map (ev T') = o.map (ev T) := by
        intro o ho
        cases o with
        | none => rfl
        | some x => simp [ho x rfl]
      rw [hT x (by simp [Op.operands]), e1 lo fun y hy => hT y (by simp [Op.operands, hy]), e1 hi fun y hy => hT y (by simp [Op.operands, hy])]
      exact h
    · exact h.elim
  case fieldAddr s x f => rw [hT x (by simp [Op.operands])]; exact h
  case indexAddr t x i => rw [hT x (by simp [Op.operands]), hT i (by simp [Op.operands])]; exact h
  case index t x i => rw [hT x (by simp [Op.operands]), hT i (by simp [Op.operands])]; exact h
  case extract x i => rw [hT x (by simp [Op.operands])]; exact h
  case makeMap t r =>
    split at h
    · exact h
    · exact h.elim
  case lookup t x k ok => rw [hT x (by simp [Op.operands]), hT k (by simp [Op.operands])]; exact h
  case mapUpdate t x k v => rw [hT x (by simp [Op.operands]), hT k (by simp [Op.operands]), hT v (by simp [Op.operands])]; exact h
  case call c =>
    obtain ⟨callee, args, argTypes⟩ := c
    unfold eCall at h ⊢
    cases callee with
    | invoke r m => exact h.elim
    | builtin b =>
      have hA : ∀ x ∈ args, ev T' x = ev T x := fun x hx => hT x (by simp [Op.operands, Call.operands, hx])
      cases b <;> simp only at h ⊢ <;> first | exact h.elim | skip
      case len =>
        split at h
        · rename_i x t hx ht
          rw [hA x (by have : x ∈ args.toList := by rw [hx]; simp
                       simpa using this)]
          exact h
        · exact h.elim
      case append =>
        split at h
        · rename_i x y t t' hx ht
          rw [hA x (by have : x ∈ args.toList := by rw [hx]; simp
                       simpa using this), hA y (by have : y ∈ args.toList := by rw [hx]; simp
                                                   simpa using this)]
          exact h
        · exact h.elim
    | value f =>
      have hA : ∀ x ∈ args, ev T' x = ev T x := fun x hx => hT x (by simp [Op.operands, Call.operands, hx])
      have e1 : ∀ (xs : List Operand) (ts : List Nat), (∀ x ∈ xs, ev T' x = ev T x) → argsS tbl T' xs ts = argsS tbl T xs ts := by
        intro xs
        induction xs with
        | nil => intro ts _; cases ts <;> rfl
        | cons x xs ih =>
          intro ts hx
          cases ts with
          | nil => simp only [argsS]; rw [hx x (by simp), ih [] fun y hy => hx y (by simp [hy])]
          | cons t ts => simp only [argsS]; rw [hx x (by simp), ih ts fun y hy => hx y (by simp [hy])]
      simp only at h ⊢
      rw [hT f (by simp [Op.operands, Call.operands]), e1 _ _ fun x hx => hA x (by simpa using hx)]
      exact h
end
end Go.KA
