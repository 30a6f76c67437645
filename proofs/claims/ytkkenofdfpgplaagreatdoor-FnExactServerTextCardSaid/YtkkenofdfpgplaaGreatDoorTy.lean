/- Part of a proof engine for functions of the given program: what an operation, a loop and a call compute, symbolically. No conditions. -/
import Derived.Test.YtkkenofdfpgplaaGreatDoorEngW
import Derived.Test.YtkkenofdfpgplaaGreatDoorTb
namespace Go.Proofs.YtkkenofdfpgplaaGreatDoor
open Go Go.KA
abbrev I (n : Int) : SV := .c (.val (.int .i64 n))
abbrev B (b : Bool) : SV := .c (.val (.bool b))
abbrev eI (n : Int) : List CV := [.val (.int .i64 n)]
abbrev eB (b : Bool) : List CV := [.val (.bool b)]
def I64 (z : Int) : Prop := -9223372036854775808 ≤ z ∧ z ≤ 9223372036854775807
theorem i64ok {z : Int} (h : IntKind.i64.min ≤ z ∧ z ≤ IntKind.i64.max) : I64 z := by
  simp only [IntKind.min, IntKind.max, IntKind.signed, IntKind.bits, if_true] at h
  unfold I64
  omega
def bsum {α : Type} (f : α → Nat) : List α → Nat
  | [] => 0
  | x :: xs => f x + bsum f xs
def budS {α : Type} (f : α → Nat) (l : List α) : Nat := l.length + bsum f l
def szr (b left : Nat) : Int := if b ≤ left then ((left - b : Nat) : Int) else -1
theorem bsum_take {α : Type} {f : α → Nat} : ∀ {l : List α} {i : Nat} {x : α}, l[i]? = some x → bsum f (l.take (i + 1)) = bsum f (l.take i) + f x
  | [], i, x, h => by simp at h
  | y :: ys, 0, x, h => by simp at h; subst h; simp [bsum]
  | y :: ys, i + 1, x, h => by
    have := bsum_take (f := f) (l := ys) (i := i) (x := x) (by simpa using h)
    simp only [List.take_succ_cons, bsum] at this ⊢
    omega
theorem bsum_le {α : Type} {f : α → Nat} : ∀ (l : List α) (i : Nat), bsum f (l.take i) ≤ bsum f l
  | [], i => by simp
  | y :: ys, 0 => by simp [bsum]
  | y :: ys, i + 1 => by
    have := bsum_le (f := f) ys i
    simp only [List.take_succ_cons, bsum]
    omega
theorem budS_len {α : Type} (f : α → Nat) (l : List α) : l.length ≤ budS f l := Nat.le_add_right _ _
theorem bsum_mem {α : Type} (f : α → Nat) : ∀ {l : List α} {x : α}, x ∈ l → f x ≤ bsum f l
  | y :: ys, x, h => by
    simp only [bsum]
    rcases List.mem_cons.1 h with rfl | h
    · omega
    · have := bsum_mem f h; omega
theorem budS_mem {α : Type} (f : α → Nat) {l : List α} {x : α} (h : x ∈ l) : f x ≤ budS f l := Nat.le_trans (bsum_mem f h) (Nat.le_add_left _ _)
theorem hm : Tryz.prog.follows .mixedOrders = true := by kernel_rfl
theorem wrap_fit {z : Int} (h1 : -9223372036854775808 ≤ z) (h2 : z ≤ 9223372036854775807) : IntKind.i64.wrap z = z := by
  simp only [IntKind.wrap, IntKind.bits, IntKind.signed, Bool.true_and]
  have : z % 2 ^ 64 = z ∨ z % 2 ^ 64 = z + 2 ^ 64 := by omega
  split <;> rename_i h
  · have h := of_decide_eq_true h; omega
  · have h := of_decide_eq_false (eq_false_of_ne_true h); omega
theorem szr_pos {b left : Nat} (h : ¬ szr b left < 0) : b ≤ left := by
  unfold szr at h
  split at h
  · assumption
  · omega
theorem szr_lt {b left : Nat} (h : szr b left < 0) : left < b := by
  unfold szr at h
  split at h
  · omega
  · omega
theorem szr_neg {b left : Nat} (h : left < b) : szr b left = -1 := if_neg (by omega)
theorem szr_eq {b left : Nat} (h : b ≤ left) : szr b left = ((left - b : Nat) : Int) := if_pos h
def half {α : Type} (row : α → List CV) (z : List CV) (l : List α) (i : Nat) : List (List CV) := (l.take i).map row ++ List.replicate (l.length - i) z
section
variable {α : Type} {row : α → List CV} {z : List CV} {l : List α}
theorem half_len {i : Nat} (h : i ≤ l.length) : (half row z l i).length = l.length := by
  unfold half
  rw [List.length_append, List.length_map, List.length_take, List.length_replicate]
  omega
theorem half_zero {n : Nat} (h : n = l.length) : List.replicate n z = half row z l 0 := by
  subst h
  simp [half]
theorem half_get {i : Nat} (h : i < l.length) : (half row z l i)[i]? = some z := by
  unfold half
  rw [List.getElem?_append_right (by rw [List.length_map, List.length_take]; omega), List.length_map, List.length_take, Nat.min_eq_left (by omega), Nat.sub_self, List.getElem?_replicate, if_pos (by omega)]
theorem half_set {i : Nat} (h : i < l.length) : (half row z l i).set i (row l[i]) = half row z l (i + 1) := by
  unfold half
  have e : l.length - i = (l.length - (i + 1)) + 1 := by omega
  rw [e, List.replicate_succ, List.set_append_right _ _ (by rw [List.length_map, List.length_take]; omega), List.length_map, List.length_take, Nat.min_eq_left (by omega), Nat.sub_self, List.set_cons_zero,
    List.take_add_one, List.getElem?_eq_getElem h, Option.toList_some, List.map_append, List.append_assoc]
  rfl
theorem half_full : half row z l l.length = l.map row := by
  unfold half
  simp
end
noncomputable def eqv {α : Type} (x y : α) : Bool := @decide (x = y) (Classical.propDecidable _)
@[simp] theorem eqv_true {α : Type} {x y : α} : eqv x y = true ↔ x = y := by
  unfold eqv
  exact @decide_eq_true_iff _ (Classical.propDecidable _)
@[simp] theorem eqv_self {α : Type} (x : α) : eqv x x = true := eqv_true.2 rfl
theorem eqv_of {α : Type} {x y : α} (h : x = y) : eqv x y = true := eqv_true.2 h
theorem eqv_ne {α : Type} {x y : α} (h : x ≠ y) : eqv x y = false := by
  cases hb : eqv x y with
  | false => rfl
  | true => exact absurd (eqv_true.1 hb) h
structure XSig where
  tests : Int
  actions : Int
def encSig (e : XSig) : List CV := [.val (.int .i64 e.tests), .val (.int .i64 e.actions)]
def budSig (_e : XSig) : Nat := 0
def okSig (e : XSig) : Prop := I64 (e.tests) ∧ I64 (e.actions)
inductive XExpr where
  | mk (kind : Int) (num : Int) (kids : List XExpr)
def XExpr.kind : XExpr → Int
  | .mk x _ _ => x
def XExpr.num : XExpr → Int
  | .mk _ x _ => x
def XExpr.kids : XExpr → List XExpr
  | .mk _ _ x => x
mutual
def encExpr : XExpr → List CV
  | .mk kind num kids => [.val (.int .i64 kind), .val (.int .i64 num), .ro 3 (encExprS kids)]
def encExprS : List XExpr → List (List CV)
  | [] => []
  | x :: xs => encExpr x :: encExprS xs
end
theorem encExprS_map : ∀ l : List XExpr, encExprS l = l.map encExpr
  | [] => rfl
  | x :: xs => by simp only [encExprS, List.map_cons]; rw [encExprS_map xs]
theorem encExpr_eq (e : XExpr) : encExpr e = [.val (.int .i64 e.kind), .val (.int .i64 e.num), .ro 3 (e.kids.map encExpr)] := by
  cases e
  simp only [encExpr, encExprS_map]
  rfl
mutual
def budExpr : XExpr → Nat
  | .mk _ _ kids => budExprS kids
def budExprS : List XExpr → Nat
  | [] => 0
  | x :: xs => (budExpr x + 1) + budExprS xs
end
theorem budExprS_eq : ∀ l : List XExpr, budExprS l = budS budExpr l
  | [] => rfl
  | x :: xs => by simp only [budExprS, budS, bsum, List.length_cons]; rw [budExprS_eq xs]; simp only [budS]; omega
inductive okExpr : XExpr → Prop
  | mk {kind num kids} (h0 : I64 (kind)) (h1 : I64 (num)) (h2 : (∀ y ∈ kids, okExpr y)) : okExpr (.mk kind num kids)
structure XProofStep where
  use : Int
  back : Bool
  path : List Int
  tests : List XExpr
  acts : List XExpr
def encProofStep (e : XProofStep) : List CV := [.val (.int .i64 e.use), .val (.bool e.back), .ro 1 (e.path.map eI), .ro 3 (e.tests.map encExpr), .ro 3 (e.acts.map encExpr)]
def budProofStep (e : XProofStep) : Nat := e.path.length + budS budExpr e.tests + budS budExpr e.acts
def okProofStep (e : XProofStep) : Prop := I64 (e.use) ∧ (∀ y ∈ e.path, I64 (y)) ∧ (∀ y ∈ e.tests, okExpr y) ∧ (∀ y ∈ e.acts, okExpr y)
structure XClaim where
  left : XExpr
  right : XExpr
  rule : Int
  ref : Int
  steps : List XProofStep
def encClaim (e : XClaim) : List CV := [.val (.int .i64 e.left.kind), .val (.int .i64 e.left.num), .ro 3 (e.left.kids.map encExpr), .val (.int .i64 e.right.kind), .val (.int .i64 e.right.num), .ro 3 (e.right.kids.map encExpr), .val (.int .i64 e.rule), .val (.int .i64 e.ref), .ro 5 (e.steps.map encProofStep)]
def budClaim (e : XClaim) : Nat := budExpr e.left + budExpr e.right + budS budProofStep e.steps
def okClaim (e : XClaim) : Prop := okExpr e.left ∧ okExpr e.right ∧ I64 (e.rule) ∧ I64 (e.ref) ∧ (∀ y ∈ e.steps, okProofStep y)
structure XProof where
  sig : XSig
  claims : List XClaim
def encProof (e : XProof) : List CV := [.val (.int .i64 e.sig.tests), .val (.int .i64 e.sig.actions), .ro 9 (e.claims.map encClaim)]
def budProof (e : XProof) : Nat := budSig e.sig + budS budClaim e.claims
def okProof (e : XProof) : Prop := okSig e.sig ∧ (∀ y ∈ e.claims, okClaim y)
structure XEntry where
  id : Int
  rests : List Int
  proof : XProof
def encEntry (e : XEntry) : List CV := [.val (.int .i64 e.id), .ro 1 (e.rests.map eI), .val (.int .i64 e.proof.sig.tests), .val (.int .i64 e.proof.sig.actions), .ro 9 (e.proof.claims.map encClaim)]
def budEntry (e : XEntry) : Nat := e.rests.length + budProof e.proof
def okEntry (e : XEntry) : Prop := I64 (e.id) ∧ (∀ y ∈ e.rests, I64 (y)) ∧ okProof e.proof
structure XNote where
  revoke : Bool
  id : Int
  entry : XEntry
def encNote (e : XNote) : List CV := [.val (.bool e.revoke), .val (.int .i64 e.id), .val (.int .i64 e.entry.id), .ro 1 (e.entry.rests.map eI), .val (.int .i64 e.entry.proof.sig.tests), .val (.int .i64 e.entry.proof.sig.actions), .ro 9 (e.entry.proof.claims.map encClaim)]
def budNote (e : XNote) : Nat := budEntry e.entry
def okNote (e : XNote) : Prop := I64 (e.id) ∧ okEntry e.entry
structure XServer where
  up : Bool
  notes : List XNote
  saved : Int
def encServer (e : XServer) : List CV := [.val (.bool e.up), .ro 7 (e.notes.map encNote), .val (.int .i64 e.saved)]
def budServer (e : XServer) : Nat := budS budNote e.notes
def okServer (e : XServer) : Prop := (∀ y ∈ e.notes, okNote y) ∧ I64 (e.saved)
structure XPacket where
  to0 : Int
  note : XNote
def encPacket (e : XPacket) : List CV := [.val (.int .i64 e.to0), .val (.bool e.note.revoke), .val (.int .i64 e.note.id), .val (.int .i64 e.note.entry.id), .ro 1 (e.note.entry.rests.map eI), .val (.int .i64 e.note.entry.proof.sig.tests), .val (.int .i64 e.note.entry.proof.sig.actions), .ro 9 (e.note.entry.proof.claims.map encClaim)]
def budPacket (e : XPacket) : Nat := budNote e.note
def okPacket (e : XPacket) : Prop := I64 (e.to0) ∧ okNote e.note
structure XArchive where
  sig : XSig
  servers : List XServer
  flying : List XPacket
def encArchive (e : XArchive) : List CV := [.val (.int .i64 e.sig.tests), .val (.int .i64 e.sig.actions), .ro 3 (e.servers.map encServer), .ro 8 (e.flying.map encPacket)]
def budArchive (e : XArchive) : Nat := budSig e.sig + budS budServer e.servers + budS budPacket e.flying
def okArchive (e : XArchive) : Prop := okSig e.sig ∧ (∀ y ∈ e.servers, okServer y) ∧ (∀ y ∈ e.flying, okPacket y)
structure XEquation where
  left : XExpr
  right : XExpr
def encEquation (e : XEquation) : List CV := [.val (.int .i64 e.left.kind), .val (.int .i64 e.left.num), .ro 3 (e.left.kids.map encExpr), .val (.int .i64 e.right.kind), .val (.int .i64 e.right.num), .ro 3 (e.right.kids.map encExpr)]
def budEquation (e : XEquation) : Nat := budExpr e.left + budExpr e.right
def okEquation (e : XEquation) : Prop := okExpr e.left ∧ okExpr e.right
theorem roLL_of {α : Type} {f g : α → List CV} (h : ∀ x, roL (f x) = g x) (l : List α) : roLL (l.map f) = l.map g := by
  rw [roLL_map, List.map_map]
  refine List.map_congr_left fun x _ => ?_
  rw [← h x, roL_map]
  rfl
mutual
def ownExpr : XExpr → List CV
  | .mk kind num kids => [.val (.int .i64 kind), .val (.int .i64 num), .own 58 3 (ownExprS kids)]
def ownExprS : List XExpr → List (List CV)
  | [] => []
  | x :: xs => ownExpr x :: ownExprS xs
end
theorem ownExprS_map : ∀ l : List XExpr, ownExprS l = l.map ownExpr
  | [] => rfl
  | x :: xs => by simp only [ownExprS, List.map_cons]; rw [ownExprS_map xs]
theorem ownExpr_eq (e : XExpr) : ownExpr e = [.val (.int .i64 e.kind), .val (.int .i64 e.num), .own 58 3 (e.kids.map ownExpr)] := by
  cases e
  simp only [ownExpr, ownExprS_map]
  rfl
mutual
theorem roExpr : ∀ e : XExpr, roL (ownExpr e) = encExpr e
  | .mk kind num kids => by
    simp only [ownExpr, encExpr, roL, roC]
    rw [roExprS _]
theorem roExprS : ∀ l : List XExpr, roLL (ownExprS l) = encExprS l
  | [] => rfl
  | x :: xs => by simp only [ownExprS, encExprS, roLL]; rw [roExpr x, roExprS xs]
end
def ownProofStep (e : XProofStep) : List CV := [.val (.int .i64 e.use), .val (.bool e.back), .ows 2 1 (e.path.map eI), .own 58 3 (e.tests.map ownExpr), .own 58 3 (e.acts.map ownExpr)]
theorem roProofStep (e : XProofStep) : roL (ownProofStep e) = encProofStep e := by
  simp only [ownProofStep, encProofStep, roL, roC, roLL_of roExpr]
def ownClaim (e : XClaim) : List CV := [.val (.int .i64 e.left.kind), .val (.int .i64 e.left.num), .own 58 3 (e.left.kids.map ownExpr), .val (.int .i64 e.right.kind), .val (.int .i64 e.right.num), .own 58 3 (e.right.kids.map ownExpr), .val (.int .i64 e.rule), .val (.int .i64 e.ref), .own 183 5 (e.steps.map ownProofStep)]
theorem roClaim (e : XClaim) : roL (ownClaim e) = encClaim e := by
  simp only [ownClaim, encClaim, roL, roC, roLL_of roExpr, roLL_of roProofStep]
def ownProof (e : XProof) : List CV := [.val (.int .i64 e.sig.tests), .val (.int .i64 e.sig.actions), .own 104 9 (e.claims.map ownClaim)]
def ownEntry (e : XEntry) : List CV := [.val (.int .i64 e.id), .ows 2 1 (e.rests.map eI), .val (.int .i64 e.proof.sig.tests), .val (.int .i64 e.proof.sig.actions), .own 104 9 (e.proof.claims.map ownClaim)]
def ownNote (e : XNote) : List CV := [.val (.bool e.revoke), .val (.int .i64 e.id), .val (.int .i64 e.entry.id), .ows 2 1 (e.entry.rests.map eI), .val (.int .i64 e.entry.proof.sig.tests), .val (.int .i64 e.entry.proof.sig.actions), .own 104 9 (e.entry.proof.claims.map ownClaim)]
theorem roNote (e : XNote) : roL (ownNote e) = encNote e := by
  simp only [ownNote, encNote, roL, roC, roLL_of roClaim]
def ownServer (e : XServer) : List CV := [.val (.bool e.up), .own 54 7 (e.notes.map ownNote), .val (.int .i64 e.saved)]
theorem roServer (e : XServer) : roL (ownServer e) = encServer e := by
  simp only [ownServer, encServer, roL, roC, roLL_of roNote]
def ownPacket (e : XPacket) : List CV := [.val (.int .i64 e.to0), .val (.bool e.note.revoke), .val (.int .i64 e.note.id), .val (.int .i64 e.note.entry.id), .ows 2 1 (e.note.entry.rests.map eI), .val (.int .i64 e.note.entry.proof.sig.tests), .val (.int .i64 e.note.entry.proof.sig.actions), .own 104 9 (e.note.entry.proof.claims.map ownClaim)]
theorem roPacket (e : XPacket) : roL (ownPacket e) = encPacket e := by
  simp only [ownPacket, encPacket, roL, roC, roLL_of roClaim]
def ownArchive (e : XArchive) : List CV := [.val (.int .i64 e.sig.tests), .val (.int .i64 e.sig.actions), .own 45 3 (e.servers.map ownServer), .own 109 8 (e.flying.map ownPacket)]
theorem roArchive (e : XArchive) : roL (ownArchive e) = encArchive e := by
  simp only [ownArchive, encArchive, roL, roC, roLL_of roServer, roLL_of roPacket]
def ownEquation (e : XEquation) : List CV := [.val (.int .i64 e.left.kind), .val (.int .i64 e.left.num), .own 58 3 (e.left.kids.map ownExpr), .val (.int .i64 e.right.kind), .val (.int .i64 e.right.num), .own 58 3 (e.right.kids.map ownExpr)]
end Go.Proofs.YtkkenofdfpgplaaGreatDoor
