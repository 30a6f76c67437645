/- Part of a proof engine for functions of the given program: what an operation, a loop and a call compute, symbolically. No conditions. -/
import Derived.Test.YtceijpfmaofhpaaEngE
namespace Go.KA
open Go Go.RowKit

/-! ### Operations -/
def viewAll (H : List Blk) (args : List SV) : Option (List SV) := mapOS (viewV H) args

def frz1 (k : Nat) (args : List SV) (T : TM) (H : List Blk) : Option (List SV × TM × List Blk) :=
  match H[k]? with
  | some (.row _ sz rows) => some (args.map (mapS (frzC k (.ro sz rows))), mapT (frzC k (.ro sz rows)) T, (H.map (mapB (frzC k (.ro sz rows)))).set k .dead)
  | _ => none
def frzAll : List Nat → List SV → TM → List Blk → Option (List SV × TM × List Blk)
  | [], args, T, H => some (args, T, H)
  | k :: ks, args, T, H => match frz1 k args T H with
    | some (args', T', H') => frzAll ks args' T' H'
    | none => none
/-- the rows that some values refer to -/
def lwsC : SV → List Nat
  | .lw i => [i]
  | _ => []
def lwsV : SV → List Nat
  | .m cs => cs.flatMap lwsC
  | .clo _ cs => cs.flatMap lwsC
  | x => lwsC x
def nub : List Nat → List Nat
  | [] => []
  | x :: xs => cond (xs.any (Nat.beq x)) (nub xs) (x :: nub xs)
def lws (args : List SV) : List Nat := nub (args.flatMap lwsV)

inductive CallN (P : Program) (f : Nat) (args : List SV) (T : TM) (H : List Blk) (K : SV → TM → List Blk → Prop) : Prop
  | pure (args' : List SV) (r : SV) (hv : viewAll H args = some args') (h : CallF P f args' r) (hs : (args.all closedV || scalS r) = true) (k : K r T H)
  | frz (args' : List SV) (T' : TM) (H' : List Blk) (r : SV) (hz : frzAll (lws args) args T H = some (args', T', H')) (hc : args'.all closedV = true) (h : CallF P f args' r) (k : K r T' H')

def argS (tbl : TT) (ty : Nat) (s : SV) : SV :=
  match s with
  | .c (.val (.slice none 0 0)) => match tbl.find ty with
    | some i => match i.elem with
      | some (_, esz, _) => .c (.ro esz [])
      | none => s
    | none => s
  | .c (.cb b) => .c (.val (.bool b))
  | s => s
def argsS (tbl : TT) (T : TM) : List Operand → List Nat → List SV
  | x :: xs, t :: ts => argS tbl t (ev T x) :: argsS tbl T xs ts
  | x :: xs, [] => ev T x :: argsS tbl T xs []
  | [], _ => []

def zCells : List ZC → Nat → List SV
  | [], _ => []
  | .v x :: zs, n => .c (.val x) :: zCells zs n
  | .s _ _ :: zs, n => .lw n :: zCells zs (n + 1)
def zRows : List ZC → List Blk
  | [] => []
  | .v _ :: zs => zRows zs
  | .s ety esz :: zs => .row ety esz [] :: zRows zs
/-- zero cells that are only read -/
def zClosed : List ZC → List CV
  | [] => []
  | .v x :: zs => .val x :: zClosed zs
  | .s _ esz :: zs => .ro esz [] :: zClosed zs

def allC : List SV → Option (List CV)
  | [] => some []
  | .c x :: xs => match allC xs with | some ys => some (x :: ys) | none => none
  | _ :: _ => none

/-- a block with these cells -/
def mkBlk (cs : List SV) : Blk := match allC cs with | some l => .cc l.length l | none => .cells cs

def eAlloc (tbl : TT) (t : Nat) (T : TM) (H : List Blk) (K : SV → TM → List Blk → Prop) : Prop :=
  match tbl.find t with
  | some i => K (.lp (H.length + (zRows i.zero).length) 0) T (H ++ zRows i.zero ++ [mkBlk (zCells i.zero H.length)])
  | none => False

def eMove (tbl : TT) (oty : Nat) (s : SV) (T : TM) (H : List Blk) (K : SV → TM → List Blk → Prop) : Prop :=
  match s with
  | .c (.val (.slice none 0 0)) => match tbl.find oty with
    | some i => match i.elem with
      | some (ety, esz, _) => K (.lw H.length) T (H ++ [.row ety esz []])
      | none => K s T H
    | none => K s T H
  | s => K s T H

def eBox (s : SV) (T : TM) (H : List Blk) (K : SV → TM → List Blk → Prop) : Prop :=
  match s with
  | .a n cs => K (.lp H.length 0) T (H ++ [.cc n cs])
  | .m cs => K (.lp H.length 0) T (H ++ [mkBlk cs])
  | .c x => K (.lp H.length 0) T (H ++ [.cc 1 [x]])
  | .lp i o => K (.lp H.length 0) T (H ++ [.cells [.lp i o]])
  | .lw i => K (.lp H.length 0) T (H ++ [.cells [.lw i]])
  | _ => False

/-- store into a block of the call's own -/
def eStore (tbl : TT) (t : Nat) (p v : SV) (T : TM) (H : List Blk) (K : SV → TM → List Blk → Prop) : Prop :=
  match tbl.find t with
  | none => False
  | some i =>
  match p with
  | .lp j off =>
    match H[j]? with
    | some (.cc sz cs) =>
      match v with
      | .a n cs' => cond (Nat.beq n i.size) (cond (Nat.beq off 0 && Nat.beq n sz) (K .any T (H.set j (.cc n cs'))) (cond (Nat.ble (off + n) sz) (K .any T (H.set j (.cc sz (splice cs off cs')))) False)) False
      | .c x => cond (Nat.beq 1 i.size && Nat.blt off sz) (K .any T (H.set j (.cc sz (splice cs off [x])))) False
      | .m cs' => cond (Nat.beq cs'.length i.size && (Nat.beq off 0 && Nat.beq cs'.length sz)) (K .any T (H.set j (.cells cs'))) False
      | x => cond (isOne x && (Nat.beq 1 i.size && Nat.blt off sz)) (K .any T (H.set j (.cells (splice (cs.map .c) off [x])))) False
    | some (.cells cs) =>
      match v with
      | .a n cs' => cond (Nat.beq n i.size) (cond (Nat.beq off 0 && Nat.beq n cs.length) (K .any T (H.set j (.cc n cs'))) (cond (Nat.ble (off + n) cs.length) (K .any T (H.set j (mkBlk (splice cs off (cs'.map .c))))) False)) False
      | .m cs' => cond (Nat.beq cs'.length i.size && Nat.ble (off + cs'.length) cs.length) (K .any T (H.set j (mkBlk (splice cs off cs')))) False
      | x => cond (isOne x && (Nat.beq 1 i.size && Nat.blt off cs.length)) (K .any T (H.set j (mkBlk (splice cs off [x])))) False
    | _ => False
  | .le j sz idx off =>
    match H[j]? with
    | some (.row ty sz' rows) =>
      cond (Nat.beq sz sz')
        (match v with
        | .a n cs' => cond (Nat.beq n i.size) (Index rows idx fun r => cond (Nat.beq off 0 && Nat.beq n sz) (K .any T (H.set j (.row ty sz' (rows.set idx cs')))) (cond (Nat.ble (off + n) sz) (K .any T (H.set j (.row ty sz' (rows.set idx (splice r off cs'))))) False)) False
        | .c x => cond (Nat.beq 1 i.size && Nat.blt off sz) (Index rows idx fun r => K .any T (H.set j (.row ty sz' (rows.set idx (splice r off [x]))))) False
        | _ => False) False
    | _ => False
  | _ => False

/-- struct values: the parts laid over zero cells -/
def fillS (fields : List (Nat × Nat × Nat)) (cells : List SV) : List (Nat × SV) → Option (List SV)
  | [] => some cells
  | (i, s) :: rest =>
    match fields[i]? with
    | none => none
    | some (off, _, sz) =>
      match s with
      | .a n cs => cond (Nat.beq n sz && Nat.ble (off + n) cells.length) (fillS fields (splice cells off (cs.map .c)) rest) none
      | .m cs => cond (Nat.beq cs.length sz && Nat.ble (off + cs.length) cells.length) (fillS fields (splice cells off cs) rest) none
      | x => cond (isOne x && (Nat.beq 1 sz && Nat.blt off cells.length)) (fillS fields (splice cells off [x]) rest) none
def outV (cs : List SV) : SV := match allC cs with | some l => .a l.length l | none => .m cs
def eBuild (tbl : TT) (t : Nat) (parts : List (Nat × SV)) (T : TM) (H : List Blk) (K : SV → TM → List Blk → Prop) : Prop :=
  match tbl.find t with
  | none => False
  | some i => cond i.fields.isEmpty False (match fillS i.fields (zCells i.zero H.length) parts with
    | some cs => K (outV cs) T (H ++ zRows i.zero)
    | none => False)

/-- the cells of an element, closed -/
def closedCells (sz : Nat) : SV → Option (List CV)
  | .a n cs => cond (Nat.beq n sz) (some cs) none
  | .c x => cond (Nat.beq 1 sz) (some [x]) none
  | .m cs => match allC cs with | some l => cond (Nat.beq l.length sz) (some l) none | none => none
  | _ => none
def rowsOf (sz : Nat) (n : Nat) : List (Nat × SV) → Option (List (List CV))
  | [] => some []
  | (i, s) :: rest => cond (Nat.beq i n) (match closedCells sz s, rowsOf sz (n + 1) rest with | some r, some rs => some (r :: rs) | _, _ => none) none
def eBuildSlice (tbl : TT) (t len : Nat) (parts : List (Nat × SV)) (T : TM) (H : List Blk) (K : SV → TM → List Blk → Prop) : Prop :=
  match tbl.find t with
  | none => False
  | some i => match i.elem with
    | none => False
    | some (ety, esz, _) =>
      match frzAll (lws (parts.map (·.2))) (parts.map (·.2)) T H with
      | none => False
      | some (vs, T', H') =>
        match rowsOf esz 0 ((parts.map (·.1)).zip vs) with
        | none => False
        | some rows => cond (Nat.beq rows.length len && (Nat.beq parts.length len && Nat.ble (len * esz) 16777216)) (K (.lw H'.length) T' (H' ++ [.row ety esz rows])) False

def eMakeSlice (tbl : TT) (t : Nat) (l c : SV) (T : TM) (H : List Blk) (K : SV → TM → List Blk → Prop) : Prop :=
  match tbl.find t, asI l, asI c with
  | some i, some (_, n), some (_, m) => match i.elem with
    | none => False
    | some (ety, esz, eby) => match tbl.find ety with
      | none => False
      | some ei => Need (0 ≤ n ∧ n ≤ m ∧ (eby : Int) * m ≤ 281474976710656 ∧ m ≤ 9223372036854775807) (K (.lw H.length) T (H ++ [.row ety esz (List.replicate n.toNat (zClosed ei.zero))]))
  | _, _, _ => False

def srcRows (H : List Blk) (j : Nat) : SV → Option (Nat × List (List CV))
  | .c (.ro sz rows) => some (sz, rows)
  | .lw i => cond (Nat.beq i j) none (match H[i]? with | some (.row _ sz rows) => some (sz, rows) | _ => none)
  | _ => none
def eAppend (tbl : TT) (t : Nat) (s x : SV) (T : TM) (H : List Blk) (K : SV → TM → List Blk → Prop) : Prop :=
  match tbl.find t, s with
  | some i, .lw j => match i.elem, H[j]? with
    | some (ety, esz, eby), some (.row ty sz rows) =>
      match x with
      | .c (.val (.slice none 0 0)) => K (.lw j) T H
      | x => match srcRows H j x with
        | some (sz', rs) =>
          cond (Nat.beq ty ety && (Nat.beq sz esz && Nat.beq sz' esz))
            (Fact (rows.length ≤ maxLen ∧ rs.length ≤ maxLen) (Need (rows.length + rs.length ≤ maxLen ∧ (rows.length + rs.length) * eby ≤ 140737488355328)
              (K (.lw j) (mapT (killC j) T) ((H.map (mapB (killC j))).set j (.row ty sz (rows ++ rs)))))) False
        | none => False
    | _, _ => False
  | _, _ => False

def eCall (P : Program) (tbl : TT) (c : Call) (T : TM) (H : List Blk) (K : SV → TM → List Blk → Prop) : Prop :=
  match c.callee with
  | .builtin .len => match c.args.toList, c.argTypes.toList with
    | [x], [t] =>
      match ev T x with
      | .c (.val (.string s)) => match tbl.find t with | some i => cond i.isS (qLen (.c (.val (.string s))) H fun sv => K sv T H) False | none => False
      | sv => match tbl.find t with | some i => cond i.elem.isSome (qLen sv H fun sv => K sv T H) False | none => False
    | _, _ => False
  | .builtin .append => match c.args.toList, c.argTypes.toList with
    | [s, x], [t, t'] => cond (Nat.beq t t') (eAppend tbl t (ev T s) (ev T x) T H K) False
    | _, _ => False
  | .value f => match ev T f with
    | .clo k caps => CallN P k (argsS tbl T c.args.toList c.argTypes.toList ++ caps) T H K
    | _ => False
  | _ => False

def eFunc (k : Nat) (caps : List SV) (T : TM) (H : List Blk) (K : SV → TM → List Blk → Prop) : Prop :=
  cond (caps.all isOne) (K (.clo k caps) T H) False

def opA (P : Program) (tbl : TT) (op : Op) (oty : Nat) (T : TM) (H : List Blk) (K : SV → TM → List Blk → Prop) : Prop :=
  match op with
  | .move x => eMove tbl oty (ev T x) T H K
  | .assign x => eMove tbl oty (ev T x) T H K
  | .pick c a b => qPick (ev T c) (ev T a) (ev T b) fun sv => K sv T H
  | .alloc t => eAlloc tbl t T H K
  | .box _ x => eBox (ev T x) T H K
  | .build t ps => eBuild tbl t (ps.toList.map fun p => (p.1, ev T p.2)) T H K
  | .buildSlice t n ps => eBuildSlice tbl t n (ps.toList.map fun p => (p.1, ev T p.2)) T H K
  | .load t x => qLoad tbl t (ev T x) H fun sv => K sv T H
  | .store t x y => eStore tbl t (ev T x) (ev T y) T H K
  | .nilCheck x => qNil (ev T x) fun sv => K sv T H
  | .binOp op t x y _ => qBinAll tbl op t (ev T x) (ev T y) fun sv => K sv T H
  | .unOp op _ x => qUn op (ev T x) fun sv => K sv T H
  | .convert s d x => cond ((tbl.find s).any fun i => i.ik.isSome) (qConv tbl d (ev T x) fun sv => K sv T H) False
  | .makeFunc fn first caps => match fn, first.toList with
    | .func k, [] => eFunc k (caps.toList.map (ev T)) T H K
    | _, _ => False
  | .makeSlice t l c => eMakeSlice tbl t (ev T l) (ev T c) T H K
  | .fieldAddr s x f => qField tbl s (ev T x) f fun sv => K sv T H
  | .indexAddr t x i => qIndexAddr tbl t (ev T x) (ev T i) H fun sv => K sv T H
  | .index t x i => match tbl.find t with | some j => cond j.isS (qIndex (ev T x) (ev T i) fun sv => K sv T H) False | none => False
  | .extract x i => qExtract (ev T x) i fun sv => K sv T H
  | .call c => eCall P tbl c T H K
  | _ => False

end Go.KA
