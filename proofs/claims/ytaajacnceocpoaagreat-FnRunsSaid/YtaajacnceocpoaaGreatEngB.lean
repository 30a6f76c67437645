/- Part of a proof engine for functions of the given program: what an operation, a loop and a call compute, symbolically. No conditions. -/
import Derived.Test.YtaajacnceocpoaaGreatEngA
import Derived.Laws.BytesArg
namespace Go.KA
open Go

/-! ### What must be shown on the way -/
structure Branch (b : Bool) (p q : Prop) : Prop where
  t : b = true → p
  f : b = false → q
structure Need (p : Prop) (k : Prop) : Prop where
  h : p
  k : k
structure Fact (p : Prop) (k : Prop) : Prop where
  k : p → k
inductive Index (l : List (List CV)) (n : Nat) (K : List CV → Prop) : Prop
  | mk (r : List CV) (h : l[n]? = some r) (k : K r)
inductive Arith (k : IntKind) (z : Int) (K : Int → Prop) : Prop
  | fit (h : k.wrap z = z) (hk : K z)
  | wrap (hk : K (k.wrap z))

/-! ### Types -/
inductive ZC where
  | v (x : Value)
  | s (ety esz : Nat)
def ZC.val : ZC → Value
  | .v x => x
  | .s _ _ => .slice none 0 0
structure TyI where
  agg : Bool
  size : Nat
  fields : List (Nat × Nat × Nat) := []
  elem : Option (Nat × Nat × Nat) := none
  ik : Option IntKind := none
  eq2 : Bool := false
  isB : Bool := false
  isS : Bool := false
  mapK : Option (Option IntKind × Nat) := none
  zero : List ZC
inductive TT where
  | leaf
  | node (l : TT) (k : Nat) (i : TyI) (r : TT)
def TT.find : TT → Nat → Option TyI
  | .leaf, _ => none
  | .node l k i r, t => cond (Nat.blt t k) (l.find t) (cond (Nat.blt k t) (r.find t) (some i))
def TT.toList : TT → List (Nat × TyI)
  | .leaf => []
  | .node l k i r => l.toList ++ (k, i) :: r.toList
theorem TT.mem : ∀ (x : TT) (t : Nat) (i : TyI), x.find t = some i → (t, i) ∈ x.toList
  | .leaf, t, i, h => by simp [TT.find] at h
  | .node l k j r, t, i, h => by
    simp only [TT.find] at h
    simp only [TT.toList, List.mem_append, List.mem_cons]
    cases h1 : Nat.blt t k with
    | true => rw [h1] at h; exact .inl (l.mem t i h)
    | false =>
      rw [h1] at h
      cases h2 : Nat.blt k t with
      | true => rw [h2] at h; exact .inr (.inr (r.mem t i h))
      | false =>
        rw [h2] at h
        have e1 : ¬ t < k := by intro hh; rw [← Nat.blt_eq] at hh; simp [hh] at h1
        have e2 : ¬ k < t := by intro hh; rw [← Nat.blt_eq] at hh; simp [hh] at h2
        have : t = k := by omega
        injection h with h
        exact .inr (.inl (by rw [this, h]))

structure TyOk (P : Program) (t : Nat) (i : TyI) : Prop where
  size : (P.info? t).map (·.size) = some i.size
  agg : ∃ d, P.underlying t = some d ∧ d.isRow = i.agg
  zero : ∃ inf z, P.info? t = some inf ∧ inf.zero = some z ∧ z.cells.toList = i.zero.map ZC.val ∧ z.cells.size = i.size ∧ (i.agg = true → z = .agg z.cells) ∧ (∀ z ∈ i.zero, z.val.oneCell' = true)
  elem : ∀ e sz by_, i.elem = some (e, sz, by_) → P.underlying t = some (.slice e) ∧ 0 < sz ∧ ∃ inf z, P.info? e = some inf ∧ inf.size = sz ∧ inf.bytes = by_ ∧ inf.zero = some z ∧ z.cells.size = sz
  field : ∀ (n : Nat) off ft fsz, i.fields[n]? = some (off, ft, fsz) → 0 < fsz ∧ ∃ (fs : Array Field) (f : Field), P.underlying t = some (.struct fs) ∧ fs[n]? = some f ∧ f.offset = off ∧ f.type = ft ∧ (P.info? ft).map (·.size) = some fsz
  places : i.fields ≠ [] → ∃ fs : Array Field, P.underlying t = some (.struct fs) ∧ fs.toList.mapM (fun f => (P.info? f.type).map fun i => (f.offset, i.size)) = some (i.fields.map fun x => (x.1, x.2.2))
  ik : ∀ k, i.ik = some k → P.underlying t = some (.int k)
  isB : i.isB = true → P.underlying t = some .bool
  isS : i.isS = true → P.underlying t = some .string
  zone : i.agg = false → ∀ inf z, P.info? t = some inf → inf.zero = some z → z.oneCell' = true
  mapK : ∀ k e, i.mapK = some (k, e) → ∃ kt, P.underlying t = some (.map kt e) ∧ P.underlying kt = some (kdesc k)
  eq2 : i.eq2 = true → ∀ (xo yo : Operand) (a b c d : Int) (k k' : IntKind) (w : World), (do eqGuard .eql t xo yo (.agg #[.int k a, .int k' b]) (.agg #[.int k c, .int k' d]); binOp .eql t (.agg #[.int k a, .int k' b]) (.agg #[.int k c, .int k' d])).run P w = .ok (.bool (a == c && b == d)) w ∧
    (do eqGuard .neq t xo yo (.agg #[.int k a, .int k' b]) (.agg #[.int k c, .int k' d]); binOp .neq t (.agg #[.int k a, .int k' b]) (.agg #[.int k c, .int k' d])).run P w = .ok (.bool (!(a == c && b == d))) w
def TblOk (P : Program) (tbl : TT) : Prop := ∀ t i, tbl.find t = some i → TyOk P t i

/-! ### Slots -/
def updT (T : TM) (d : Nat) (v : SV) : TM := fun i => cond (Nat.beq i d) v (T i)
def putT (T : TM) (d : Option Nat) (v : SV) : TM := match d with | some d => updT T d v | none => T
def constS : Value → SV
  | .bool b => .c (.cb b)
  | .agg a => cond (a.toList.all Value.oneCell') (.a a.toList.length (a.toList.map CV.val)) .any
  | .tuple _ => .any
  | .func (.func f) a b => match a.toList, b.toList with | [], [] => .clo f [] | _, _ => .any
  | v => .c (.val v)
def ev (T : TM) : Operand → SV
  | .tmp t => T t
  | .const v => constS v
  | .global _ => .any
  | .func f => .clo f []
def asB : SV → Option Bool
  | .c (.cb b) => some b
  | .c (.val (.bool b)) => some b
  | _ => none
def asI : SV → Option (IntKind × Int)
  | .c (.val (.int k n)) => some (k, n)
  | _ => none
def asStr : SV → Option ByteArray
  | .c (.val (.string s)) => some s
  | _ => none
def isOne : SV → Bool
  | .c _ | .lp .. | .le .. | .lw _ | .ls .. | .mp _ => true
  | _ => false

def renC (n j : Nat) : SV → SV
  | .lp i o => cond (Nat.beq i j) (.c .any) (cond (Nat.beq i n) (.lp j o) (.lp i o))
  | .lw i => cond (Nat.beq i j) (.c .any) (cond (Nat.beq i n) (.lw j) (.lw i))
  | .le i a b c => cond (Nat.beq i j) (.c .any) (cond (Nat.beq i n) (.le j a b c) (.le i a b c))
  | .ls i a b c => cond (Nat.beq i j) (.c .any) (cond (Nat.beq i n) (.ls j a b c) (.ls i a b c))
  | .mp i => cond (Nat.beq i j) (.c .any) (cond (Nat.beq i n) (.mp j) (.mp i))
  | x => x
def frzC (k : Nat) (r : CV) : SV → SV
  | .lw i => cond (Nat.beq i k) (.c r) (.lw i)
  | x => x
def mapV (g : SV → SV) : SV → SV
  | .m cs => .m (cs.map g)
  | .clo f cs => .clo f (cs.map g)
  | .a n cs => .a n cs
  | .tup vs => .tup vs
  | .any => .any
  | x => g x
def mapS (g : SV → SV) : SV → SV
  | .tup vs => .tup (vs.map (mapV g))
  | x => mapV g x
def mapB (g : SV → SV) : Blk → Blk
  | .cells cs => .cells (cs.map g)
  | b => b
def mapT (g : SV → SV) (T : TM) : TM := fun i => mapS g (T i)
def updH (H : HM) (j : Nat) (b : Blk) : HM := fun i => cond (Nat.beq i j) b (H i)
def updL : List (Nat × Blk) → HM → HM
  | [], H => H
  | (j, b) :: r, H => updL r (updH H j b)
structure Eff where
  sv : SV
  ws : List (Nat × Blk)
  c : Nat
  rn : List (Nat × Nat)
abbrev Eff.q (s : SV) : Eff := ⟨s, [], 0, []⟩

def cellsOf : SV → Option (List SV ⊕ List CV)
  | .a _ cs => some (.inr cs)
  | .m cs => some (.inl cs)
  | .c x => some (.inr [x])
  | .lp i a => some (.inl [.lp i a])
  | .le i a b c => some (.inl [.le i a b c])
  | .lw i => some (.inl [.lw i])
  | .ls i a b c => some (.inl [.ls i a b c])
  | .mp i => some (.inl [.mp i])
  | _ => none

/-! ### Operations that leave the memory alone -/
def splice {α : Type} (l : List α) (off : Nat) (x : List α) : List α := l.take off ++ x ++ l.drop (off + x.length)

def outC (agg : Bool) (size : Nat) (cs : List CV) (K : SV → Prop) : Prop :=
  match agg with
  | true => cond (Nat.beq (cs.take size).length size) (K (.a size (cs.take size))) False
  | false => match cs with | x :: _ => K (.c x) | [] => False
def outS (agg : Bool) (size : Nat) (cs : List SV) (K : SV → Prop) : Prop :=
  match agg with
  | true => cond (Nat.beq (cs.take size).length size) (K (.m (cs.take size))) False
  | false => match cs with | x :: _ => K x | [] => False

def plainC : CV → Bool
  | .own _ _ _ => false
  | .ownp _ _ _ _ => false
  | .ows _ _ _ => false
  | .op _ => false
  | .bld _ _ _ => false
  | _ => true
def outP (agg : Bool) (size : Nat) (cs : List CV) (K : SV → Prop) : Prop :=
  cond ((cs.take (cond agg size 1)).all plainC) (outC agg size (cs.take (cond agg size 1)) K) False

def qLoad (tbl : TT) (t : Nat) (p : SV) (H : HM) (K : SV → Prop) : Prop :=
  match tbl.find t with
  | none => False
  | some i =>
    match p with
    | .c (.rp sz cs) => cond (i.agg && Nat.beq sz i.size) (K (.a sz cs)) (outC i.agg i.size cs K)
    | .lp j off =>
      match H j with
      | .cc sz cs => cond (i.agg && (Nat.beq sz i.size && Nat.beq off 0)) (K (.a sz cs)) (outC i.agg i.size (cs.drop off) K)
      | .cells cs => outS i.agg i.size (cs.drop off) K
      | _ => False
    | .le j sz idx off =>
      match H j with
      | .row _ _ sz' rows =>
        cond (Nat.beq sz sz') (Index rows idx fun r => cond (i.agg && (Nat.beq sz i.size && Nat.beq off 0)) (K (.a sz r)) (outC i.agg i.size (r.drop off) K)) False
      | .orow _ _ sz' rows => cond (Nat.beq sz sz') (Index rows idx fun r => outP i.agg i.size (r.drop off) K) False
      | _ => False
    | _ => False

inductive LinkV (H : HM) (v : Value) (K : SV → Prop) : Prop
  | no (k : K (.c (.val v)))
  | row (i : Nat) {ty sz : Nat} {rows : List (List CV)} (h : H i = .row (some v) ty sz rows) (k : K (.lw i))
  | orow (i : Nat) {ty sz : Nat} {rows : List (List CV)} (h : H i = .orow (some v) ty sz rows) (k : K (.lw i))
def lnkQ (el : Bool) (H : HM) (sv : SV) (K : SV → Prop) : Prop :=
  match sv with
  | .c (.val v) => cond el (LinkV H v K) (K (.c (.val v)))
  | sv => K sv
def qField (tbl : TT) (s : Nat) (p : SV) (f : Nat) (K : SV → Prop) : Prop :=
  match tbl.find s with
  | none => False
  | some i =>
    match i.fields[f]? with
    | none => False
    | some (off, _, _) =>
      match p with
      | .c (.rp sz cs) => K (.c (.rp (sz - off) (cs.drop off)))
      | .lp j o => K (.lp j (o + off))
      | .le j sz idx o => K (.le j sz idx (o + off))
      | _ => False

def qIndexAddr (tbl : TT) (t : Nat) (x ix : SV) (H : HM) (K : SV → Prop) : Prop :=
  match tbl.find t, asI ix with
  | some i, some (_, n) =>
    match i.elem with
    | some (_, esz, _) =>
      match x with
      | .c (.ro sz rows) => cond (Nat.beq sz esz) (Need (0 ≤ n) (Index rows n.toNat fun r => K (.c (.rp sz r)))) False
      | .lw j =>
        match H j with
        | .row _ _ sz rows => cond (Nat.beq sz esz) (Need (0 ≤ n ∧ n.toNat < rows.length) (K (.le j sz n.toNat 0))) False
        | .orow _ _ sz rows => cond (Nat.beq sz esz) (Need (0 ≤ n ∧ n.toNat < rows.length) (K (.le j sz n.toNat 0))) False
        | _ => False
      | .ls j sz off len => cond (Nat.beq sz esz) (Need (0 ≤ n ∧ n.toNat < len) (K (.le j sz (off + n.toNat) 0))) False
      | _ => False
    | none => False
  | _, _ => False

def kEq : IntKind → IntKind → Bool
  | .i8, .i8 | .i16, .i16 | .i32, .i32 | .i64, .i64 | .u8, .u8 | .u16, .u16 | .u32, .u32 | .u64, .u64 => true
  | _, _ => false

def ofB (b : Bool) : SV := .c (.val (.bool b))
def ofI (k : IntKind) (n : Int) : SV := .c (.val (.int k n))

def qInt (op : BinOp) (k : IntKind) (a b : Int) (K : SV → Prop) : Prop :=
  match op with
  | .add => Arith k (a + b) fun z => K (ofI k z)
  | .sub => Arith k (a - b) fun z => K (ofI k z)
  | .mul => Arith k (a * b) fun z => K (ofI k z)
  | .quo => Need (b ≠ 0) (Arith k (a.tdiv b) fun z => K (ofI k z))
  | .rem => Need (b ≠ 0) (K (ofI k (a.tmod b)))
  | .eql => K (ofB (a == b))
  | .neq => K (ofB (a != b))
  | .lss => K (ofB (decide (a < b)))
  | .leq => K (ofB (decide (a ≤ b)))
  | .gtr => K (ofB (decide (a > b)))
  | .geq => K (ofB (decide (a ≥ b)))
  | .shl => Need (0 ≤ b) (Arith k (a * 2 ^ (min b.toNat k.bits)) fun z => K (ofI k z))
  | .shr => Need (0 ≤ b) (K (ofI k (a.fdiv (2 ^ (min b.toNat k.bits)))))
  | .and => K (ofI k (k.wrap ((BitVec.ofInt k.bits a &&& BitVec.ofInt k.bits b).toNat)))
  | _ => False

def qStr (op : BinOp) (a b : ByteArray) (K : SV → Prop) : Prop :=
  match op with
  | .add => Need (a.size + b.size ≤ 9223372036854775807) (K (.c (.val (.string (a ++ b)))))
  | .eql => K (ofB (a.toList == b.toList))
  | .neq => K (ofB (!(a.toList == b.toList)))
  | .lss => K (ofB (Op.bytesLess a.toList b.toList))
  | .geq => K (ofB (!Op.bytesLess a.toList b.toList))
  | _ => False

def qBin (op : BinOp) (x y : SV) (K : SV → Prop) : Prop :=
  match asI x, asI y with
  | some (k, a), some (k', b) =>
    match op with
    | .shl | .shr => qInt op k a b K
    | _ => cond (kEq k k') (qInt op k a b K) False
  | _, _ =>
    match asStr x, asStr y with
    | some a, some b => qStr op a b K
    | _, _ => False

def qBinB (op : BinOp) (x y : SV) (K : SV → Prop) : Prop :=
  match asB x, asB y with
  | some a, some b => match op with | .eql => K (ofB (a == b)) | .neq => K (ofB (!(a == b))) | _ => False
  | _, _ => False

def qBin2 (op : BinOp) (x y : SV) (K : SV → Prop) : Prop :=
  match x, y with
  | .a _ [.val (.int k a), .val (.int k' b)], .a _ [.val (.int k1 c), .val (.int k1' d)] =>
    cond (kEq k k1 && kEq k' k1') (match op with | .eql => K (ofB (a == c && b == d)) | .neq => K (ofB (!(a == c && b == d))) | _ => False) False
  | _, _ => False

def qBinAll (tbl : TT) (op : BinOp) (t : Nat) (x y : SV) (K : SV → Prop) : Prop :=
  match asI x, asStr x, asB x with
  | none, none, some _ => match tbl.find t with
    | some i => cond i.isB (qBinB op x y K) False
    | none => False
  | none, none, none => match tbl.find t with
    | some i => cond i.eq2 (qBin2 op x y K) False
    | none => False
  | _, _, _ => qBin op x y K

inductive NilB (rows : List (List CV)) (K : Bool → Prop) : Prop
  | mk (k : ∀ b : Bool, (b = true → rows = []) → K b)
def isNilS : SV → Bool
  | .c (.val (.slice none 0 0)) => true
  | _ => false
def qBinN (d : Bool) (tbl : TT) (op : BinOp) (t : Nat) (x y : SV) (K : SV → Prop) : Prop :=
  match isNilS y with
  | true => match x with
    | .c (.ro sz rows) => cond d False (match tbl.find t with
      | some i => match i.elem with
        | some (_, esz, _) => match op with
          | .eql => cond (Nat.beq sz esz) (NilB rows fun b => K (ofB b)) False
          | _ => False
        | none => False
      | none => False)
    | _ => False
  | false => qBinAll tbl op t x y K
def qUn (op : UnOp) (x : SV) (K : SV → Prop) : Prop :=
  match op with
  | .not => match x with
    | .c (.cb b) => K (.c (.cb (!b)))
    | .c (.val (.bool b)) => K (ofB (!b))
    | _ => False
  | .neg => match asI x with | some (k, n) => Arith k (0 - n) fun z => K (ofI k z) | none => False
  | _ => False

def qPick (c a b : SV) (K : SV → Prop) : Prop :=
  match c with
  | .c (.cb true) => K a
  | .c (.cb false) => K b
  | .c (.val (.bool t)) => match asB a, asB b with | some x, some y => K (ofB (if t then x else y)) | _, _ => False
  | _ => False

def qExtract (x : SV) (i : Nat) (K : SV → Prop) : Prop :=
  match x with
  | .tup vs => match vs[i]? with | some v => K v | none => False
  | _ => False

def qNil (x : SV) (K : SV → Prop) : Prop :=
  match x with
  | .c (.rp sz cs) => K (.c (.rp sz cs))
  | .lp i o => K (.lp i o)
  | .le i a b c => K (.le i a b c)
  | .clo k cs => K (.clo k cs)
  | _ => False

def fact (d : Bool) (p k : Prop) : Prop := cond d k (Fact p k)
def qLen (d : Bool) (x : SV) (H : HM) (K : SV → Prop) : Prop :=
  match x with
  | .c (.ro _ rows) => fact d (rows.length ≤ maxLen) (K (ofI .i64 (rows.length : Int)))
  | .lw j => match H j with
    | .row _ _ _ rows => fact d (rows.length ≤ maxLen) (K (ofI .i64 (rows.length : Int)))
    | .orow _ _ _ rows => fact d (rows.length ≤ maxLen) (K (ofI .i64 (rows.length : Int)))
    | _ => False
  | .ls _ _ _ len => fact d (len ≤ maxLen) (K (ofI .i64 (len : Int)))
  | .c (.val (.string s)) => K (ofI .i64 (s.size : Int))
  | .c (.val (.slice none 0 0)) => K (ofI .i64 0)
  | _ => False

def qConv (tbl : TT) (dst : Nat) (x : SV) (K : SV → Prop) : Prop :=
  match tbl.find dst, asI x with
  | some i, some (_, n) => match i.ik with | some k => Arith k n fun z => K (ofI k z) | none => False
  | _, _ => False

def bytesC : List (List CV) → Option (List Int)
  | [] => some []
  | [.val (.int .u8 n)] :: rs => match bytesC rs with
    | some l => some (n :: l)
    | none => none
  | _ => none
def qBytes (tbl : TT) (s d : Nat) (x : SV) (H : HM) (K : SV → Prop) : Prop :=
  match tbl.find s, tbl.find d with
  | some i, some j => match i.elem with
    | some (e, esz, _) => match tbl.find e with
      | some k => cond (j.isS && (Nat.beq esz 1 && match k.ik with | some .u8 => true | _ => false)) (match x with
        | .lw q => match H q with
          | .row _ _ sz rows => match bytesC rows with
            | some l => cond (Nat.beq sz 1) (K (.c (.val (.string (strOfNums l))))) False
            | none => False
          | _ => False
        | _ => False) False
      | none => False
    | none => False
  | _, _ => False

def qIndex (x ix : SV) (K : SV → Prop) : Prop :=
  match x, asI ix with
  | .c (.val (.string s)), some (_, n) => Need (0 ≤ n ∧ n.toNat < s.size) (K (ofI .u8 ((s.data.toList.getD n.toNat 0).toNat : Int)))
  | _, _ => False

/-! ### Slicing -/
def optI (dflt : Int) : Option SV → Option Int
  | none => some dflt
  | some s => match asI s with | some (_, n) => some n | none => none
inductive SliceW (j sz len : Nat) (l h : Int) (K : SV → Prop) : Prop
  | some (hb : 0 ≤ l ∧ l ≤ h ∧ h ≤ (len : Int) ∧ l < (len : Int)) (k : K (.ls j sz l.toNat (h.toNat - l.toNat)))
  | none (hb : 0 ≤ l ∧ l = h ∧ h ≤ (len : Int)) (k : K (.c (.ro sz [])))
  | all (hb : l = 0 ∧ h = (len : Int)) (k : K (.lw j))
def qSlice (tbl : TT) (t : Nat) (x : SV) (lo hi : Option SV) (H : HM) (K : SV → Prop) : Prop :=
  match tbl.find t with
  | none => False
  | some i =>
    match x with
    | .c (.ro sz rows) => match i.elem, optI 0 lo, optI (rows.length : Int) hi with
      | some (_, esz, _), some l, some h => cond (Nat.beq sz esz) (Need (0 ≤ l ∧ l ≤ h ∧ h ≤ (rows.length : Int)) (K (.c (.ro sz ((rows.drop l.toNat).take (h.toNat - l.toNat)))))) False
      | _, _, _ => False
    | .lw j => match H j with
      | .row _ _ sz rows => match i.elem, optI 0 lo, optI (rows.length : Int) hi with
        | some (_, esz, _), some l, some h => cond (Nat.beq sz esz) (SliceW j sz rows.length l h K) False
        | _, _, _ => False
      | .orow _ _ sz rows => match i.elem, optI 0 lo, optI (rows.length : Int) hi with
        | some (_, esz, _), some l, some h => cond (Nat.beq sz esz) (SliceW j sz rows.length l h K) False
        | _, _, _ => False
      | _ => False
    | .c (.val (.string s)) => match optI 0 lo, optI (s.size : Int) hi with
      | some l, some h => cond i.isS (Need (0 ≤ l ∧ l ≤ h ∧ h ≤ (s.size : Int)) (K (.c (.val (.string (s.extract l.toNat h.toNat)))))) False
      | _, _ => False
    | _ => False

/-! ### Zero values, blocks -/
def zCells : List ZC → Nat → List SV
  | [], _ => []
  | .v x :: zs, n => .c (.val x) :: zCells zs n
  | .s _ _ :: zs, n => .lw n :: zCells zs (n + 1)
def zRows : List ZC → Nat → List (Nat × Blk)
  | [], _ => []
  | .v _ :: zs, n => zRows zs n
  | .s ety esz :: zs, n => (n, .row none ety esz []) :: zRows zs (n + 1)
def zNum : List ZC → Nat
  | [] => 0
  | .v _ :: zs => zNum zs
  | .s _ _ :: zs => zNum zs + 1
def zClosed : List ZC → List CV
  | [] => []
  | .v x :: zs => .val x :: zClosed zs
  | .s _ esz :: zs => .ro esz [] :: zClosed zs
def allC : List SV → Option (List CV)
  | [] => some []
  | .c x :: xs => match allC xs with | some ys => some (x :: ys) | none => none
  | _ :: _ => none
def mkBlk (cs : List SV) : Blk := match allC cs with | some l => .cc l.length l | none => .cells cs
def bldZ (tbl : TT) : List ZC → Option Nat
  | .v (.pointer none) :: .s e esz :: [] => cond (Nat.beq esz 1) (match tbl.find e with | some ei => (match ei.ik with | some .u8 => some e | _ => none) | none => none) none
  | _ => none
def eAlloc (tbl : TT) (t n : Nat) (K : Eff → Prop) : Prop :=
  match tbl.find t with
  | some i => match bldZ tbl i.zero with
    | some e => K ⟨.lp n 0, [(n, .bld t e ByteArray.empty)], 1, []⟩
    | none => K ⟨.lp (n + zNum i.zero) 0, zRows i.zero n ++ [(n + zNum i.zero, mkBlk (zCells i.zero n))], zNum i.zero + 1, []⟩
  | none => False
def eMove (tbl : TT) (oty : Nat) (s : SV) (n : Nat) (K : Eff → Prop) : Prop :=
  match s with
  | .c (.val (.slice none 0 0)) => match tbl.find oty with
    | some i => match i.elem with
      | some (ety, esz, _) => K ⟨.lw n, [(n, .row none ety esz [])], 1, []⟩
      | none => K (.q s)
    | none => K (.q s)
  | s => K (.q s)
def eBox (s : SV) (n : Nat) (K : Eff → Prop) : Prop :=
  match s with
  | .a k cs => K ⟨.lp n 0, [(n, .cc k cs)], 1, []⟩
  | .m cs => K ⟨.lp n 0, [(n, mkBlk cs)], 1, []⟩
  | .c x => K ⟨.lp n 0, [(n, .cc 1 [x])], 1, []⟩
  | .lp i o => K ⟨.lp n 0, [(n, .cells [.lp i o])], 1, []⟩
  | .lw i => K ⟨.lp n 0, [(n, .cells [.lw i])], 1, []⟩
  | _ => False

/-! ### What is handed over with the memory that it owns -/
def lwsC : SV → List Nat
  | .lw i => [i]
  | .ls i _ _ _ => [i]
  | _ => []
def lwsV : SV → List Nat
  | .m cs => cs.flatMap lwsC
  | x => lwsC x
def nodupN : List Nat → Bool
  | [] => true
  | x :: xs => !(xs.any (Nat.beq x)) && nodupN xs
def mapO (f : SV → Option CV) : List SV → Option (List CV)
  | [] => some []
  | x :: xs => match f x, mapO f xs with
    | some y, some ys => some (y :: ys)
    | _, _ => none
def mapOS (f : SV → Option SV) : List SV → Option (List SV)
  | [] => some []
  | x :: xs => match f x, mapOS f xs with
    | some y, some ys => some (y :: ys)
    | _, _ => none
def consC (H : HM) : SV → Option CV
  | .lw k => match H k with
    | .row _ ty sz rows => some (.ows ty sz rows)
    | .orow _ ty sz rows => some (.own ty sz rows)
    | _ => none
  | .ls k sz off len => match H k, off with
    | .row _ ty sz' rows, 0 => cond (Nat.beq sz sz') (some (.ows ty sz' (rows.take len))) none
    | _, _ => none
  | .c (.cb b) => some (.val (.bool b))
  | .c x => some x
  | _ => none
def consL (H : HM) : SV → Option (List CV)
  | .a _ cs => some cs
  | .m cs => mapO (consC H) cs
  | s => match consC H s with | some x => some [x] | none => none
def deadL : List Nat → List (Nat × Blk)
  | [] => []
  | k :: ks => (k, .dead) :: deadL ks

/-! ### Stores -/
def wr (j : Nat) (b : Blk) : Eff := ⟨.any, [(j, b)], 0, []⟩
def stRow (sz : Nat) (rows : List (List CV)) (idx off : Nat) (size : Nat) (cs : List CV) (K : List (List CV) → Prop) : Prop :=
  cond (Nat.beq cs.length size) (cond (Nat.beq off 0 && Nat.beq cs.length sz) (Index rows idx fun _ => K (rows.set idx cs)) (cond (Nat.ble (off + cs.length) sz) (Index rows idx fun r => K (rows.set idx (splice r off cs))) False)) False
theorem stRow_old {sz : Nat} {rows : List (List CV)} {idx off size : Nat} {cs : List CV} {K : List (List CV) → Prop} (h : stRow sz rows idx off size cs K) :
  cond (Nat.beq cs.length size) (Index rows idx fun r => cond (Nat.beq off 0 && Nat.beq cs.length sz) (K (rows.set idx cs)) (cond (Nat.ble (off + cs.length) sz) (K (rows.set idx (splice r off cs))) False)) False := by
  unfold stRow at h
  cases h1 : Nat.beq cs.length size <;> rw [h1] at h
  · exact h.elim
  · simp only [cond] at h ⊢
    cases h2 : (Nat.beq off 0 && Nat.beq cs.length sz) <;> rw [h2] at h
    · simp only at h ⊢
      cases h3 : Nat.ble (off + cs.length) sz <;> rw [h3] at h
      · exact h.elim
      · exact h
    · exact h
def eStore (tbl : TT) (t : Nat) (p v : SV) (H : HM) (K : Eff → Prop) : Prop :=
  match tbl.find t with
  | none => False
  | some i =>
  match p with
  | .lp j off =>
    match H j with
    | .cc sz cs =>
      match v with
      | .a n cs' => cond (Nat.beq n i.size) (cond (Nat.beq off 0 && Nat.beq n sz) (K (wr j (.cc n cs'))) (cond (Nat.ble (off + n) sz) (K (wr j (.cc sz (splice cs off cs')))) False)) False
      | .c x => cond (Nat.beq 1 i.size && Nat.blt off sz) (K (wr j (.cc sz (splice cs off [x])))) False
      | .m cs' => cond (Nat.beq cs'.length i.size) (cond (Nat.beq off 0 && Nat.beq cs'.length sz) (K (wr j (mkBlk cs'))) (cond (Nat.ble (off + cs'.length) sz) (K (wr j (mkBlk (splice (cs.map .c) off cs')))) False)) False
      | x => cond (isOne x && (Nat.beq 1 i.size && Nat.blt off sz)) (K (wr j (.cells (splice (cs.map .c) off [x])))) False
    | .cells cs =>
      match v with
      | .a n cs' => cond (Nat.beq n i.size) (cond (Nat.beq off 0 && Nat.beq n cs.length) (K (wr j (.cc n cs'))) (cond (Nat.ble (off + n) cs.length) (K (wr j (mkBlk (splice cs off (cs'.map .c))))) False)) False
      | .m cs' => cond (Nat.beq cs'.length i.size && Nat.ble (off + cs'.length) cs.length) (K (wr j (mkBlk (splice cs off cs')))) False
      | x => cond (isOne x && (Nat.beq 1 i.size && Nat.blt off cs.length)) (K (wr j (mkBlk (splice cs off [x])))) False
    | .bld t' e _ => match v with
      | .m [.c (.val (.pointer none)), .lw k] => match H k with
        | .row _ e' sz [] => cond ((Nat.beq e e' && Nat.beq sz 1) && (Nat.beq off 0 && Nat.beq 2 i.size)) (K ⟨.any, [(k, .dead), (j, .bld t' e ByteArray.empty)], 0, []⟩) False
        | _ => False
      | _ => False
    | _ => False
  | .le j sz idx off =>
    match consL H v with
    | none => False
    | some cs =>
      match H j with
      | .row o ty sz' rows =>
        cond (Nat.beq sz sz')
          (match lwsV v with
          | [] => stRow sz rows idx off i.size cs fun rows' => K (wr j (.row o ty sz' rows'))
          | ks => cond (nodupN (j :: ks)) (stRow sz rows idx off i.size cs fun rows' => K ⟨.any, deadL ks ++ [(j, .orow o ty sz' rows')], 0, []⟩) False) False
      | .orow o ty sz' rows =>
        cond (Nat.beq sz sz') (cond (nodupN (j :: lwsV v)) (stRow sz rows idx off i.size cs fun rows' => K ⟨.any, deadL (lwsV v) ++ [(j, .orow o ty sz' rows')], 0, []⟩) False) False
      | _ => False
  | _ => False

def fillS (fields : List (Nat × Nat × Nat)) (cells : List SV) : List (Nat × SV) → Option (List SV)
  | [] => some cells
  | (i, s) :: rest =>
    match fields[i]? with
    | none => none
    | some (off, _, sz) =>
      match s with
      | .a n cs => cond (Nat.beq n sz && Nat.ble (off + n) cells.length) (fillS fields (splice cells off (cs.map .c)) rest) none
      | .m cs => cond (Nat.beq cs.length sz && Nat.ble (off + cs.length) cells.length) (fillS fields (splice cells off cs) rest) none
      | x => cond (isOne x && (Nat.beq 1 sz && Nat.blt off cells.length)) (fillS fields (splice cells off [x]) rest) none
def outV (cs : List SV) : SV := match allC cs with | some l => .a l.length l | none => .m cs
def eBuild (tbl : TT) (t : Nat) (parts : List (Nat × SV)) (n : Nat) (K : Eff → Prop) : Prop :=
  match tbl.find t with
  | none => False
  | some i => cond i.fields.isEmpty False (match fillS i.fields (zCells i.zero n) parts with
    | some cs => K ⟨outV cs, zRows i.zero n, zNum i.zero, []⟩
    | none => False)
def rowsOf (H : HM) (sz : Nat) (n : Nat) : List (Nat × SV) → Option (List (List CV))
  | [] => some []
  | (i, s) :: rest => cond (Nat.beq i n) (match consL H s, rowsOf H sz (n + 1) rest with | some r, some rs => cond (Nat.beq r.length sz) (some (r :: rs)) none | _, _ => none) none
def eBuildSlice (tbl : TT) (t len : Nat) (parts : List (Nat × SV)) (H : HM) (n : Nat) (K : Eff → Prop) : Prop :=
  match tbl.find t with
  | none => False
  | some i => match i.elem with
    | none => False
    | some (ety, esz, _) =>
      match rowsOf H esz 0 parts with
      | none => False
      | some rows => cond (Nat.beq rows.length len && (Nat.beq parts.length len && Nat.ble (len * esz) 16777216))
          (match parts.flatMap fun p => lwsV p.2 with
          | [] => K ⟨.lw n, [(n, .row none ety esz rows)], 1, []⟩
          | ks => cond (nodupN ks) (K ⟨.lw n, deadL ks ++ [(n, .orow none ety esz rows)], 1, []⟩) False) False
def eMakeSlice (tbl : TT) (t : Nat) (l c : SV) (n : Nat) (K : Eff → Prop) : Prop :=
  match tbl.find t, asI l, asI c with
  | some i, some (_, k), some (_, m) => match i.elem with
    | none => False
    | some (ety, esz, eby) => match tbl.find ety with
      | none => False
      | some ei => Need (0 ≤ k ∧ k ≤ m ∧ (eby : Int) * m ≤ 281474976710656 ∧ m ≤ 9223372036854775807) (K ⟨.lw n, [(n, .row none ety esz (List.replicate k.toNat (zClosed ei.zero)))], 1, []⟩)
  | _, _, _ => False

def srcRows (H : HM) (j : Nat) : SV → Option (Nat × List (List CV) × List Nat)
  | .c (.ro sz rows) => some (sz, rows, [])
  | .lw i => cond (Nat.beq i j) none (match H i with | .row _ _ sz rows => some (sz, rows, []) | .orow _ _ sz rows => some (sz, rows, [i]) | _ => none)
  | .ls i sz off len => cond (Nat.beq i j) none (match H i with | .row _ _ sz' rows => cond (Nat.beq sz sz') (some (sz, (rows.drop off).take len, [])) none | _ => none)
  | _ => none
def eAppend (d : Bool) (tbl : TT) (t : Nat) (s x : SV) (H : HM) (n : Nat) (K : Eff → Prop) : Prop :=
  match tbl.find t, s with
  | some i, .lw j => match i.elem with
    | some (ety, esz, eby) =>
      match x with
      | .c (.val (.slice none 0 0)) => match H j with
        | .row _ _ _ _ => K (.q (.lw j))
        | .orow _ _ _ _ => K (.q (.lw j))
        | _ => False
      | x => match srcRows H j x with
        | some (sz', rs, ks) =>
          match H j with
          | .row _ ty sz rows =>
            cond (Nat.beq ty ety && (Nat.beq sz esz && Nat.beq sz' esz))
              (fact d (rows.length ≤ maxLen ∧ rs.length ≤ maxLen) (Need (rows.length + rs.length ≤ maxLen ∧ (rows.length + rs.length) * eby ≤ 140737488355328)
                (match ks with
                | [] => K ⟨.lw n, [(j, .dead), (n, .row none ty sz (rows ++ rs))], 1, [(n, j)]⟩
                | ks => K ⟨.lw n, deadL (j :: ks) ++ [(n, .orow none ty sz (rows ++ rs))], 1, [(n, j)]⟩))) False
          | .orow _ ty sz rows =>
            cond (Nat.beq ty ety && (Nat.beq sz esz && Nat.beq sz' esz))
              (fact d (rows.length ≤ maxLen ∧ rs.length ≤ maxLen) (Need (rows.length + rs.length ≤ maxLen ∧ (rows.length + rs.length) * eby ≤ 140737488355328)
                (K ⟨.lw n, deadL (j :: ks) ++ [(n, .orow none ty sz (rows ++ rs))], 1, [(n, j)]⟩))) False
          | _ => False
        | none => False
    | none => False
  | some i, .ls j sz0 0 len => match i.elem with
    | some (ety, esz, eby) => match srcRows H j x with
      | some (sz', rs, ks) => match H j with
        | .row _ ty sz rows => cond (Nat.beq sz0 sz && (Nat.beq ty ety && (Nat.beq sz esz && Nat.beq sz' esz)))
            (fact d ((rows.take len).length ≤ maxLen ∧ rs.length ≤ maxLen) (Need ((rows.take len).length + rs.length ≤ maxLen ∧ ((rows.take len).length + rs.length) * eby ≤ 140737488355328)
              (match ks with
              | [] => K ⟨.lw n, [(j, .dead), (n, .row none ty sz (rows.take len ++ rs))], 1, [(n, j)]⟩
              | ks => K ⟨.lw n, deadL (j :: ks) ++ [(n, .orow none ty sz (rows.take len ++ rs))], 1, [(n, j)]⟩))) False
        | _ => False
      | none => False
    | none => False
  | _, _ => False

/-! ### A cell that owns memory is loaded: it is opened -/
def openK (n : Nat) : List CV → (List CV → List SV → List (Nat × Blk) → Nat → Prop) → Prop
  | [], K => K [] [] [] n
  | .own ty sz rows :: cs, K => ∀ v : Value, openK (n + 1) cs fun ps ss bs m => K (.val v :: ps) (.lw n :: ss) ((n, .orow (some v) ty sz rows) :: bs) m
  | .ows ty sz rows :: cs, K => ∀ v : Value, openK (n + 1) cs fun ps ss bs m => K (.val v :: ps) (.lw n :: ss) ((n, .row (some v) ty sz rows) :: bs) m
  | .ownp _ _ _ _ :: _, _ => False
  | .op _ :: _, _ => False
  | .bld _ _ _ :: _, _ => False
  | c :: cs, K => openK n cs fun ps ss bs m => K (c :: ps) (.c c :: ss) bs m

/-! ### Maps -/
def kdEq : Option IntKind → Option IntKind → Bool
  | some a, some b => kEq a b
  | none, none => true
  | _, _ => false
inductive MapGet (es : List (Value × SV)) (k : Value) (K : Option SV → Prop) : Prop
  | hit (j : Nat) (s : SV) (h : es[j]? = some (k, s)) (g : K (some s))
  | miss (h : ∀ p ∈ es, p.1 ≠ k) (g : K none)
inductive MapPut (es : List (Value × SV)) (k : Value) (v : SV) (K : List (Value × SV) → Prop) : Prop
  | old (j : Nat) (s : SV) (h : es[j]? = some (k, s)) (g : K (es.set j (k, v)))
  | new (h : ∀ p ∈ es, p.1 ≠ k) (g : K (es ++ [(k, v)]))
def keyM (d : Option IntKind) : SV → Option Value
  | .c (.val (.int k n)) => match d with | some k' => cond (kEq k k') (some (.int k n)) none | none => none
  | .c (.val (.string s)) => match d with | none => some (.string s) | some _ => none
  | _ => none
def flatV : SV → Bool
  | .c _ => true
  | .a _ _ => true
  | _ => false
def zeroS (i : TyI) : SV :=
  match i.agg with
  | true => .a i.size (zClosed i.zero)
  | false => match zClosed i.zero with | [x] => .c x | _ => .c .any
def eMakeMap (tbl : TT) (t n : Nat) (K : Eff → Prop) : Prop :=
  match tbl.find t with
  | some i => match i.mapK with
    | some (k, _) => K ⟨.mp n, [(n, .mmap k [])], 1, []⟩
    | none => False
  | none => False
def qLookup (tbl : TT) (t : Nat) (x k : SV) (ok : Bool) (H : HM) (K : SV → Prop) : Prop :=
  match tbl.find t with
  | some i => match i.mapK with
    | some (kd, e) => match tbl.find e, x, keyM kd k with
      | some ei, .mp j, some key => match H j with
        | .mmap kd' es => cond (kdEq kd kd') (MapGet es key fun r => match r, ok with
          | some s, true => K (.tup [s, ofB true])
          | some s, false => K s
          | none, true => K (.tup [zeroS ei, ofB false])
          | none, false => K (zeroS ei)) False
        | _ => False
      | _, _, _ => False
    | none => False
  | none => False
def eMapUpdate (tbl : TT) (t : Nat) (x k v : SV) (H : HM) (K : Eff → Prop) : Prop :=
  match tbl.find t with
  | some i => match i.mapK with
    | some (kd, _) => match x, keyM kd k with
      | .mp j, some key => match H j with
        | .mmap kd' es => cond (flatV v && kdEq kd kd') (MapPut es key v fun es' => K ⟨.any, [(j, .mmap kd' es')], 0, []⟩) False
        | _ => False
      | _, _ => False
    | none => False
  | none => False
end Go.KA
