/- Part of a proof engine for functions of the given program: what an operation, a loop and a call compute, symbolically. No conditions. -/
import Derived.Test.YtceijpfmaofhpaaEngA
namespace Go.KA
open Go

/-! ### What must be shown on the way -/
structure Branch (b : Bool) (p q : Prop) : Prop where
  t : b = true → p
  f : b = false → q
structure Need (p : Prop) (k : Prop) : Prop where
  h : p
  k : k
structure Fact (p : Prop) (k : Prop) : Prop where
  k : p → k
inductive Index (l : List (List CV)) (n : Nat) (K : List CV → Prop) : Prop
  | mk (r : List CV) (h : l[n]? = some r) (k : K r)
inductive Arith (k : IntKind) (z : Int) (K : Int → Prop) : Prop
  | fit (h : k.wrap z = z) (hk : K z)
  | wrap (hk : K (k.wrap z))

/-! ### Types -/
inductive ZC where
  | v (x : Value)
  | s (ety esz : Nat)
def ZC.val : ZC → Value
  | .v x => x
  | .s _ _ => .slice none 0 0
structure TyI where
  agg : Bool
  size : Nat
  fields : List (Nat × Nat × Nat) := []
  elem : Option (Nat × Nat × Nat) := none
  ik : Option IntKind := none
  eq2 : Bool := false
  isB : Bool := false
  isS : Bool := false
  zero : List ZC
inductive TT where
  | leaf
  | node (l : TT) (k : Nat) (i : TyI) (r : TT)
def TT.find : TT → Nat → Option TyI
  | .leaf, _ => none
  | .node l k i r, t => cond (Nat.blt t k) (l.find t) (cond (Nat.blt k t) (r.find t) (some i))
def TT.toList : TT → List (Nat × TyI)
  | .leaf => []
  | .node l k i r => l.toList ++ (k, i) :: r.toList
theorem TT.mem : ∀ (x : TT) (t : Nat) (i : TyI), x.find t = some i → (t, i) ∈ x.toList
  | .leaf, t, i, h => by simp [TT.find] at h
  | .node l k j r, t, i, h => by
    simp only [TT.find] at h
    simp only [TT.toList, List.mem_append, List.mem_cons]
    cases h1 : Nat.blt t k with
    | true => rw [h1] at h; exact .inl (l.mem t i h)
    | false =>
      rw [h1] at h
      cases h2 : Nat.blt k t with
      | true => rw [h2] at h; exact .inr (.inr (r.mem t i h))
      | false =>
        rw [h2] at h
        have e1 : ¬ t < k := by intro hh; rw [← Nat.blt_eq] at hh; simp [hh] at h1
        have e2 : ¬ k < t := by intro hh; rw [← Nat.blt_eq] at hh; simp [hh] at h2
        have : t = k := by omega
        injection h with h
        exact .inr (.inl (by rw [this, h]))

structure TyOk (P : Program) (t : Nat) (i : TyI) : Prop where
  size : (P.info? t).map (·.size) = some i.size
  agg : ∃ d, P.underlying t = some d ∧ d.isRow = i.agg
  zero : ∃ inf z, P.info? t = some inf ∧ inf.zero = some z ∧ z.cells.toList = i.zero.map ZC.val ∧ z.cells.size = i.size ∧ (i.agg = true → z = .agg z.cells) ∧ (∀ z ∈ i.zero, z.val.oneCell' = true)
  elem : ∀ e sz by_, i.elem = some (e, sz, by_) → P.underlying t = some (.slice e) ∧ 0 < sz ∧ ∃ inf z, P.info? e = some inf ∧ inf.size = sz ∧ inf.bytes = by_ ∧ inf.zero = some z ∧ z.cells.size = sz
  field : ∀ (n : Nat) off ft fsz, i.fields[n]? = some (off, ft, fsz) → 0 < fsz ∧ ∃ (fs : Array Field) (f : Field), P.underlying t = some (.struct fs) ∧ fs[n]? = some f ∧ f.offset = off ∧ f.type = ft ∧ (P.info? ft).map (·.size) = some fsz
  places : i.fields ≠ [] → ∃ fs : Array Field, P.underlying t = some (.struct fs) ∧ fs.toList.mapM (fun f => (P.info? f.type).map fun i => (f.offset, i.size)) = some (i.fields.map fun x => (x.1, x.2.2))
  ik : ∀ k, i.ik = some k → P.underlying t = some (.int k)
  isB : i.isB = true → P.underlying t = some .bool
  isS : i.isS = true → P.underlying t = some .string
  eq2 : i.eq2 = true → ∀ (xo yo : Operand) (a b c d : Int) (k k' : IntKind) (w : World), (do eqGuard .eql t xo yo (.agg #[.int k a, .int k' b]) (.agg #[.int k c, .int k' d]); binOp .eql t (.agg #[.int k a, .int k' b]) (.agg #[.int k c, .int k' d])).run P w = .ok (.bool (a == c && b == d)) w ∧
    (do eqGuard .neq t xo yo (.agg #[.int k a, .int k' b]) (.agg #[.int k c, .int k' d]); binOp .neq t (.agg #[.int k a, .int k' b]) (.agg #[.int k c, .int k' d])).run P w = .ok (.bool (!(a == c && b == d))) w
def TblOk (P : Program) (tbl : TT) : Prop := ∀ t i, tbl.find t = some i → TyOk P t i

/-! ### Slots -/
def updT (T : TM) (d : Nat) (v : SV) : TM := fun i => cond (Nat.beq i d) v (T i)
def putT (T : TM) (d : Option Nat) (v : SV) : TM := match d with | some d => updT T d v | none => T
def constS : Value → SV
  | .bool b => .c (.cb b)
  | .agg _ => .any
  | .tuple _ => .any
  | .func (.func f) a b => match a.toList, b.toList with | [], [] => .clo f [] | _, _ => .any
  | v => .c (.val v)
def ev (T : TM) : Operand → SV
  | .tmp t => T t
  | .const v => constS v
  | .global _ => .any
  | .func f => .clo f []
def asB : SV → Option Bool
  | .c (.cb b) => some b
  | .c (.val (.bool b)) => some b
  | _ => none
/-- an integer, its kind and its number -/
def asI : SV → Option (IntKind × Int)
  | .c (.val (.int k n)) => some (k, n)
  | _ => none
def asStr : SV → Option ByteArray
  | .c (.val (.string s)) => some s
  | _ => none
def isOne : SV → Bool
  | .c _ | .lp .. | .le .. | .lw _ | .ls .. => true
  | _ => false

def killC (k : Nat) : SV → SV
  | .lw i => cond (Nat.beq i k) (.c .any) (.lw i)
  | .le i a b c => cond (Nat.beq i k) (.c .any) (.le i a b c)
  | .ls i a b c => cond (Nat.beq i k) (.c .any) (.ls i a b c)
  | x => x
def frzC (k : Nat) (r : CV) : SV → SV
  | .lw i => cond (Nat.beq i k) (.c r) (.lw i)
  | .le i a b c => cond (Nat.beq i k) (.c .any) (.le i a b c)
  | .ls i a b c => cond (Nat.beq i k) (.c .any) (.ls i a b c)
  | .lp i a => cond (Nat.beq i k) (.c .any) (.lp i a)
  | x => x
def mapV (g : SV → SV) : SV → SV
  | .m cs => .m (cs.map g)
  | .clo f cs => .clo f (cs.map g)
  | .a n cs => .a n cs
  | .tup vs => .tup vs
  | .any => .any
  | x => g x
def mapS (g : SV → SV) : SV → SV
  | .tup vs => .tup (vs.map (mapV g))
  | x => mapV g x
def mapB (g : SV → SV) : Blk → Blk
  | .cells cs => .cells (cs.map g)
  | b => b
def mapT (g : SV → SV) (T : TM) : TM := fun i => mapS g (T i)

/-- the cells of a value, as they are stored -/
def cellsOf : SV → Option (List SV ⊕ List CV)
  | .a _ cs => some (.inr cs)
  | .m cs => some (.inl cs)
  | .c x => some (.inr [x])
  | .lp i a => some (.inl [.lp i a])
  | .le i a b c => some (.inl [.le i a b c])
  | .lw i => some (.inl [.lw i])
  | .ls i a b c => some (.inl [.ls i a b c])
  | _ => none

/-! ### Operations that leave the memory alone -/
def splice {α : Type} (l : List α) (off : Nat) (x : List α) : List α := l.take off ++ x ++ l.drop (off + x.length)

/-- a value of type t out of closed cells -/
def outC (agg : Bool) (size : Nat) (cs : List CV) (K : SV → Prop) : Prop :=
  match agg with
  | true => cond (Nat.beq (cs.take size).length size) (K (.a size (cs.take size))) False
  | false => match cs with | x :: _ => K (.c x) | [] => False
def outS (agg : Bool) (size : Nat) (cs : List SV) (K : SV → Prop) : Prop :=
  match agg with
  | true => cond (Nat.beq (cs.take size).length size) (K (.m (cs.take size))) False
  | false => match cs with | x :: _ => K x | [] => False

def qLoad (tbl : TT) (t : Nat) (p : SV) (H : List Blk) (K : SV → Prop) : Prop :=
  match tbl.find t with
  | none => False
  | some i =>
    match p with
    | .c (.rp sz cs) => cond (i.agg && Nat.beq sz i.size) (K (.a sz cs)) (outC i.agg i.size cs K)
    | .lp j off =>
      match H[j]? with
      | some (.cc sz cs) => cond (i.agg && (Nat.beq sz i.size && Nat.beq off 0)) (K (.a sz cs)) (outC i.agg i.size (cs.drop off) K)
      | some (.cells cs) => outS i.agg i.size (cs.drop off) K
      | _ => False
    | .le j sz idx off =>
      match H[j]? with
      | some (.row _ sz' rows) =>
        cond (Nat.beq sz sz') (Index rows idx fun r => cond (i.agg && (Nat.beq sz i.size && Nat.beq off 0)) (K (.a sz r)) (outC i.agg i.size (r.drop off) K)) False
      | _ => False
    | _ => False

def qField (tbl : TT) (s : Nat) (p : SV) (f : Nat) (K : SV → Prop) : Prop :=
  match tbl.find s with
  | none => False
  | some i =>
    match i.fields[f]? with
    | none => False
    | some (off, _, _) =>
      match p with
      | .c (.rp sz cs) => K (.c (.rp (sz - off) (cs.drop off)))
      | .lp j o => K (.lp j (o + off))
      | .le j sz idx o => K (.le j sz idx (o + off))
      | _ => False

def qIndexAddr (tbl : TT) (t : Nat) (x ix : SV) (H : List Blk) (K : SV → Prop) : Prop :=
  match tbl.find t, asI ix with
  | some i, some (_, n) =>
    match i.elem with
    | some (_, esz, _) =>
      match x with
      | .c (.ro sz rows) => cond (Nat.beq sz esz) (Need (0 ≤ n) (Index rows n.toNat fun r => K (.c (.rp sz r)))) False
      | .lw j =>
        match H[j]? with
        | some (.row _ sz rows) => cond (Nat.beq sz esz) (Need (0 ≤ n ∧ n.toNat < rows.length) (K (.le j sz n.toNat 0))) False
        | _ => False
      | .ls j sz off len => cond (Nat.beq sz esz) (Need (0 ≤ n ∧ n.toNat < len) (K (.le j sz (off + n.toNat) 0))) False
      | _ => False
    | none => False
  | _, _ => False

def kEq : IntKind → IntKind → Bool
  | .i8, .i8 | .i16, .i16 | .i32, .i32 | .i64, .i64 | .u8, .u8 | .u16, .u16 | .u32, .u32 | .u64, .u64 => true
  | _, _ => false

def ofB (b : Bool) : SV := .c (.val (.bool b))
def ofI (k : IntKind) (n : Int) : SV := .c (.val (.int k n))

def qInt (op : BinOp) (k : IntKind) (a b : Int) (K : SV → Prop) : Prop :=
  match op with
  | .add => Arith k (a + b) fun z => K (ofI k z)
  | .sub => Arith k (a - b) fun z => K (ofI k z)
  | .mul => Arith k (a * b) fun z => K (ofI k z)
  | .quo => Need (b ≠ 0) (Arith k (a.tdiv b) fun z => K (ofI k z))
  | .rem => Need (b ≠ 0) (K (ofI k (a.tmod b)))
  | .eql => K (ofB (a == b))
  | .neq => K (ofB (a != b))
  | .lss => K (ofB (decide (a < b)))
  | .leq => K (ofB (decide (a ≤ b)))
  | .gtr => K (ofB (decide (a > b)))
  | .geq => K (ofB (decide (a ≥ b)))
  | .shl => Need (0 ≤ b) (Arith k (a * 2 ^ (min b.toNat k.bits)) fun z => K (ofI k z))
  | .shr => Need (0 ≤ b) (K (ofI k (a.fdiv (2 ^ (min b.toNat k.bits)))))
  | .and => K (ofI k (k.wrap ((BitVec.ofInt k.bits a &&& BitVec.ofInt k.bits b).toNat)))
  | _ => False

def qStr (op : BinOp) (a b : ByteArray) (K : SV → Prop) : Prop :=
  match op with
  | .add => Need (a.size + b.size ≤ 9223372036854775807) (K (.c (.val (.string (a ++ b)))))
  | .eql => K (ofB (a.toList == b.toList))
  | .neq => K (ofB (!(a.toList == b.toList)))
  | _ => False

def qBin (op : BinOp) (x y : SV) (K : SV → Prop) : Prop :=
  match asI x, asI y with
  | some (k, a), some (k', b) =>
    match op with
    | .shl | .shr => qInt op k a b K
    | _ => cond (kEq k k') (qInt op k a b K) False
  | _, _ =>
    match asStr x, asStr y with
    | some a, some b => qStr op a b K
    | _, _ => False

/-- '==' and '!=' on bools, told by the type -/
def qBinB (op : BinOp) (x y : SV) (K : SV → Prop) : Prop :=
  match asB x, asB y with
  | some a, some b => match op with | .eql => K (ofB (a == b)) | .neq => K (ofB (!(a == b))) | _ => False
  | _, _ => False

/-- '==' and '!=' on structs and arrays of two integers -/
def qBin2 (op : BinOp) (x y : SV) (K : SV → Prop) : Prop :=
  match x, y with
  | .a _ [.val (.int k a), .val (.int k' b)], .a _ [.val (.int k1 c), .val (.int k1' d)] =>
    cond (kEq k k1 && kEq k' k1') (match op with | .eql => K (ofB (a == c && b == d)) | .neq => K (ofB (!(a == c && b == d))) | _ => False) False
  | _, _ => False

def qBinAll (tbl : TT) (op : BinOp) (t : Nat) (x y : SV) (K : SV → Prop) : Prop :=
  match asI x, asStr x, asB x with
  | none, none, some _ => match tbl.find t with
    | some i => cond i.isB (qBinB op x y K) False
    | none => False
  | none, none, none => match tbl.find t with
    | some i => cond i.eq2 (qBin2 op x y K) False
    | none => False
  | _, _, _ => qBin op x y K

def qUn (op : UnOp) (x : SV) (K : SV → Prop) : Prop :=
  match op with
  | .not => match x with
    | .c (.cb b) => K (.c (.cb (!b)))
    | .c (.val (.bool b)) => K (ofB (!b))
    | _ => False
  | .neg => match asI x with | some (k, n) => Arith k (0 - n) fun z => K (ofI k z) | none => False
  | _ => False

def qPick (c a b : SV) (K : SV → Prop) : Prop :=
  match c with
  | .c (.cb true) => K a
  | .c (.cb false) => K b
  | .c (.val (.bool t)) => match asB a, asB b with | some x, some y => K (ofB (if t then x else y)) | _, _ => False
  | _ => False

def qExtract (x : SV) (i : Nat) (K : SV → Prop) : Prop :=
  match x with
  | .tup vs => match vs[i]? with | some v => K v | none => False
  | _ => False

def qNil (x : SV) (K : SV → Prop) : Prop :=
  match x with
  | .c (.rp sz cs) => K (.c (.rp sz cs))
  | .lp i o => K (.lp i o)
  | .le i a b c => K (.le i a b c)
  | .clo k cs => K (.clo k cs)
  | _ => False

def qLen (x : SV) (H : List Blk) (K : SV → Prop) : Prop :=
  match x with
  | .c (.ro _ rows) => Fact (rows.length ≤ maxLen) (K (ofI .i64 (rows.length : Int)))
  | .lw j => match H[j]? with
    | some (.row _ _ rows) => Fact (rows.length ≤ maxLen) (K (ofI .i64 (rows.length : Int)))
    | _ => False
  | .ls _ _ _ len => Fact (len ≤ maxLen) (K (ofI .i64 (len : Int)))
  | .c (.val (.string s)) => K (ofI .i64 (s.size : Int))
  | .c (.val (.slice none 0 0)) => K (ofI .i64 0)
  | _ => False

def qConv (tbl : TT) (dst : Nat) (x : SV) (K : SV → Prop) : Prop :=
  match tbl.find dst, asI x with
  | some i, some (_, n) => match i.ik with | some k => Arith k n fun z => K (ofI k z) | none => False
  | _, _ => False

/-- strings: s[i] -/
def qIndex (x ix : SV) (K : SV → Prop) : Prop :=
  match x, asI ix with
  | .c (.val (.string s)), some (_, n) => Need (0 ≤ n ∧ n.toNat < s.size) (K (ofI .u8 ((s.data.toList.getD n.toNat 0).toNat : Int)))
  | _, _ => False

end Go.KA
