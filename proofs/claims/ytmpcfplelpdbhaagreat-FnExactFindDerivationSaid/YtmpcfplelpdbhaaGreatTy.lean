/- Part of a proof engine for functions of the given program: what an operation, a loop and a call compute, symbolically. No conditions. -/
import Derived.Test.YtmpcfplelpdbhaaGreatEngW
import Derived.Test.YtmpcfplelpdbhaaGreatTb
namespace Go.Proofs.YtmpcfplelpdbhaaGreat
open Go Go.KA
abbrev I (n : Int) : SV := .c (.val (.int .i64 n))
abbrev B (b : Bool) : SV := .c (.val (.bool b))
abbrev eI (n : Int) : List CV := [.val (.int .i64 n)]
abbrev eB (b : Bool) : List CV := [.val (.bool b)]
def I64 (z : Int) : Prop := -9223372036854775808 ≤ z ∧ z ≤ 9223372036854775807
theorem i64ok {z : Int} (h : IntKind.i64.min ≤ z ∧ z ≤ IntKind.i64.max) : I64 z := by
  simp only [IntKind.min, IntKind.max, IntKind.signed, IntKind.bits, if_true] at h
  unfold I64
  omega
def bsum {α : Type} (f : α → Nat) : List α → Nat
  | [] => 0
  | x :: xs => f x + bsum f xs
def budS {α : Type} (f : α → Nat) (l : List α) : Nat := l.length + bsum f l
def szr (b left : Nat) : Int := if b ≤ left then ((left - b : Nat) : Int) else -1
theorem bsum_take {α : Type} {f : α → Nat} : ∀ {l : List α} {i : Nat} {x : α}, l[i]? = some x → bsum f (l.take (i + 1)) = bsum f (l.take i) + f x
  | [], i, x, h => by simp at h
  | y :: ys, 0, x, h => by simp at h; subst h; simp [bsum]
  | y :: ys, i + 1, x, h => by
    have := bsum_take (f := f) (l := ys) (i := i) (x := x) (by simpa using h)
    simp only [List.take_succ_cons, bsum] at this ⊢
    omega
theorem bsum_le {α : Type} {f : α → Nat} : ∀ (l : List α) (i : Nat), bsum f (l.take i) ≤ bsum f l
  | [], i => by simp
  | y :: ys, 0 => by simp [bsum]
  | y :: ys, i + 1 => by
    have := bsum_le (f := f) ys i
    simp only [List.take_succ_cons, bsum]
    omega
theorem budS_len {α : Type} (f : α → Nat) (l : List α) : l.length ≤ budS f l := Nat.le_add_right _ _
theorem bsum_mem {α : Type} (f : α → Nat) : ∀ {l : List α} {x : α}, x ∈ l → f x ≤ bsum f l
  | y :: ys, x, h => by
    simp only [bsum]
    rcases List.mem_cons.1 h with rfl | h
    · omega
    · have := bsum_mem f h; omega
theorem budS_mem {α : Type} (f : α → Nat) {l : List α} {x : α} (h : x ∈ l) : f x ≤ budS f l := Nat.le_trans (bsum_mem f h) (Nat.le_add_left _ _)
theorem hm : Tryz.prog.follows .mixedOrders = true := by kernel_rfl
theorem wrap_fit {z : Int} (h1 : -9223372036854775808 ≤ z) (h2 : z ≤ 9223372036854775807) : IntKind.i64.wrap z = z := by
  simp only [IntKind.wrap, IntKind.bits, IntKind.signed, Bool.true_and]
  have : z % 2 ^ 64 = z ∨ z % 2 ^ 64 = z + 2 ^ 64 := by omega
  split <;> rename_i h
  · have h := of_decide_eq_true h; omega
  · have h := of_decide_eq_false (eq_false_of_ne_true h); omega
theorem szr_pos {b left : Nat} (h : ¬ szr b left < 0) : b ≤ left := by
  unfold szr at h
  split at h
  · assumption
  · omega
theorem szr_lt {b left : Nat} (h : szr b left < 0) : left < b := by
  unfold szr at h
  split at h
  · omega
  · omega
theorem szr_neg {b left : Nat} (h : left < b) : szr b left = -1 := if_neg (by omega)
theorem szr_eq {b left : Nat} (h : b ≤ left) : szr b left = ((left - b : Nat) : Int) := if_pos h
def half {α : Type} (row : α → List CV) (z : List CV) (l : List α) (i : Nat) : List (List CV) := (l.take i).map row ++ List.replicate (l.length - i) z
section
variable {α : Type} {row : α → List CV} {z : List CV} {l : List α}
theorem half_len {i : Nat} (h : i ≤ l.length) : (half row z l i).length = l.length := by
  unfold half
  rw [List.length_append, List.length_map, List.length_take, List.length_replicate]
  omega
theorem half_zero {n : Nat} (h : n = l.length) : List.replicate n z = half row z l 0 := by
  subst h
  simp [half]
theorem half_get {i : Nat} (h : i < l.length) : (half row z l i)[i]? = some z := by
  unfold half
  rw [List.getElem?_append_right (by rw [List.length_map, List.length_take]; omega), List.length_map, List.length_take, Nat.min_eq_left (by omega), Nat.sub_self, List.getElem?_replicate, if_pos (by omega)]
theorem half_set {i : Nat} (h : i < l.length) : (half row z l i).set i (row l[i]) = half row z l (i + 1) := by
  unfold half
  have e : l.length - i = (l.length - (i + 1)) + 1 := by omega
  rw [e, List.replicate_succ, List.set_append_right _ _ (by rw [List.length_map, List.length_take]; omega), List.length_map, List.length_take, Nat.min_eq_left (by omega), Nat.sub_self, List.set_cons_zero,
    List.take_add_one, List.getElem?_eq_getElem h, Option.toList_some, List.map_append, List.append_assoc]
  rfl
theorem half_full : half row z l l.length = l.map row := by
  unfold half
  simp
end
noncomputable def eqv {α : Type} (x y : α) : Bool := @decide (x = y) (Classical.propDecidable _)
@[simp] theorem eqv_true {α : Type} {x y : α} : eqv x y = true ↔ x = y := by
  unfold eqv
  exact @decide_eq_true_iff _ (Classical.propDecidable _)
@[simp] theorem eqv_self {α : Type} (x : α) : eqv x x = true := eqv_true.2 rfl
theorem eqv_of {α : Type} {x y : α} (h : x = y) : eqv x y = true := eqv_true.2 h
theorem eqv_ne {α : Type} {x y : α} (h : x ≠ y) : eqv x y = false := by
  cases hb : eqv x y with
  | false => rfl
  | true => exact absurd (eqv_true.1 hb) h
inductive XExpr where
  | mk (kind : Int) (num : Int) (kids : List XExpr)
def XExpr.kind : XExpr → Int
  | .mk x _ _ => x
def XExpr.num : XExpr → Int
  | .mk _ x _ => x
def XExpr.kids : XExpr → List XExpr
  | .mk _ _ x => x
mutual
def encExpr : XExpr → List CV
  | .mk kind num kids => [.val (.int .i64 kind), .val (.int .i64 num), .ro 3 (encExprS kids)]
def encExprS : List XExpr → List (List CV)
  | [] => []
  | x :: xs => encExpr x :: encExprS xs
end
theorem encExprS_map : ∀ l : List XExpr, encExprS l = l.map encExpr
  | [] => rfl
  | x :: xs => by simp only [encExprS, List.map_cons]; rw [encExprS_map xs]
theorem encExpr_eq (e : XExpr) : encExpr e = [.val (.int .i64 e.kind), .val (.int .i64 e.num), .ro 3 (e.kids.map encExpr)] := by
  cases e
  simp only [encExpr, encExprS_map]
  rfl
mutual
def budExpr : XExpr → Nat
  | .mk _ _ kids => budExprS kids
def budExprS : List XExpr → Nat
  | [] => 0
  | x :: xs => (budExpr x + 1) + budExprS xs
end
theorem budExprS_eq : ∀ l : List XExpr, budExprS l = budS budExpr l
  | [] => rfl
  | x :: xs => by simp only [budExprS, budS, bsum, List.length_cons]; rw [budExprS_eq xs]; simp only [budS]; omega
inductive okExpr : XExpr → Prop
  | mk {kind num kids} (h0 : I64 (kind)) (h1 : I64 (num)) (h2 : (∀ y ∈ kids, okExpr y)) : okExpr (.mk kind num kids)
inductive XProg where
  | mk (kind : Int) (num : Int) (cond : XExpr) (kids : List XProg)
def XProg.kind : XProg → Int
  | .mk x _ _ _ => x
def XProg.num : XProg → Int
  | .mk _ x _ _ => x
def XProg.cond : XProg → XExpr
  | .mk _ _ x _ => x
def XProg.kids : XProg → List XProg
  | .mk _ _ _ x => x
mutual
def encProg : XProg → List CV
  | .mk kind num cond kids => [.val (.int .i64 kind), .val (.int .i64 num), .val (.int .i64 cond.kind), .val (.int .i64 cond.num), .ro 3 (cond.kids.map encExpr), .ro 6 (encProgS kids)]
def encProgS : List XProg → List (List CV)
  | [] => []
  | x :: xs => encProg x :: encProgS xs
end
theorem encProgS_map : ∀ l : List XProg, encProgS l = l.map encProg
  | [] => rfl
  | x :: xs => by simp only [encProgS, List.map_cons]; rw [encProgS_map xs]
theorem encProg_eq (e : XProg) : encProg e = [.val (.int .i64 e.kind), .val (.int .i64 e.num), .val (.int .i64 e.cond.kind), .val (.int .i64 e.cond.num), .ro 3 (e.cond.kids.map encExpr), .ro 6 (e.kids.map encProg)] := by
  cases e
  simp only [encProg, encProgS_map]
  rfl
mutual
def budProg : XProg → Nat
  | .mk _ _ cond kids => budExpr cond + budProgS kids
def budProgS : List XProg → Nat
  | [] => 0
  | x :: xs => (budProg x + 1) + budProgS xs
end
theorem budProgS_eq : ∀ l : List XProg, budProgS l = budS budProg l
  | [] => rfl
  | x :: xs => by simp only [budProgS, budS, bsum, List.length_cons]; rw [budProgS_eq xs]; simp only [budS]; omega
inductive okProg : XProg → Prop
  | mk {kind num cond kids} (h0 : I64 (kind)) (h1 : I64 (num)) (h2 : okExpr cond) (h3 : (∀ y ∈ kids, okProg y)) : okProg (.mk kind num cond kids)
structure XTriple where
  pre : XExpr
  prog : XProg
  post : XExpr
def encTriple (e : XTriple) : List CV := [.val (.int .i64 e.pre.kind), .val (.int .i64 e.pre.num), .ro 3 (e.pre.kids.map encExpr), .val (.int .i64 e.prog.kind), .val (.int .i64 e.prog.num), .val (.int .i64 e.prog.cond.kind), .val (.int .i64 e.prog.cond.num), .ro 3 (e.prog.cond.kids.map encExpr), .ro 6 (e.prog.kids.map encProg), .val (.int .i64 e.post.kind), .val (.int .i64 e.post.num), .ro 3 (e.post.kids.map encExpr)]
def budTriple (e : XTriple) : Nat := budExpr e.pre + budProg e.prog + budExpr e.post
def okTriple (e : XTriple) : Prop := okExpr e.pre ∧ okProg e.prog ∧ okExpr e.post
inductive XDerivation where
  | mk (rule : Int) (says : XTriple) (kids : List XDerivation)
def XDerivation.rule : XDerivation → Int
  | .mk x _ _ => x
def XDerivation.says : XDerivation → XTriple
  | .mk _ x _ => x
def XDerivation.kids : XDerivation → List XDerivation
  | .mk _ _ x => x
mutual
def encDerivation : XDerivation → List CV
  | .mk rule says kids => [.val (.int .i64 rule), .val (.int .i64 says.pre.kind), .val (.int .i64 says.pre.num), .ro 3 (says.pre.kids.map encExpr), .val (.int .i64 says.prog.kind), .val (.int .i64 says.prog.num), .val (.int .i64 says.prog.cond.kind), .val (.int .i64 says.prog.cond.num), .ro 3 (says.prog.cond.kids.map encExpr), .ro 6 (says.prog.kids.map encProg), .val (.int .i64 says.post.kind), .val (.int .i64 says.post.num), .ro 3 (says.post.kids.map encExpr), .ro 14 (encDerivationS kids)]
def encDerivationS : List XDerivation → List (List CV)
  | [] => []
  | x :: xs => encDerivation x :: encDerivationS xs
end
theorem encDerivationS_map : ∀ l : List XDerivation, encDerivationS l = l.map encDerivation
  | [] => rfl
  | x :: xs => by simp only [encDerivationS, List.map_cons]; rw [encDerivationS_map xs]
theorem encDerivation_eq (e : XDerivation) : encDerivation e = [.val (.int .i64 e.rule), .val (.int .i64 e.says.pre.kind), .val (.int .i64 e.says.pre.num), .ro 3 (e.says.pre.kids.map encExpr), .val (.int .i64 e.says.prog.kind), .val (.int .i64 e.says.prog.num), .val (.int .i64 e.says.prog.cond.kind), .val (.int .i64 e.says.prog.cond.num), .ro 3 (e.says.prog.cond.kids.map encExpr), .ro 6 (e.says.prog.kids.map encProg), .val (.int .i64 e.says.post.kind), .val (.int .i64 e.says.post.num), .ro 3 (e.says.post.kids.map encExpr), .ro 14 (e.kids.map encDerivation)] := by
  cases e
  simp only [encDerivation, encDerivationS_map]
  rfl
mutual
def budDerivation : XDerivation → Nat
  | .mk _ says kids => budTriple says + budDerivationS kids
def budDerivationS : List XDerivation → Nat
  | [] => 0
  | x :: xs => (budDerivation x + 1) + budDerivationS xs
end
inductive okDerivation : XDerivation → Prop
  | mk {rule says kids} (h0 : I64 (rule)) (h1 : okTriple says) (h2 : (∀ y ∈ kids, okDerivation y)) : okDerivation (.mk rule says kids)
structure XSig where
  tests : Int
  actions : Int
def encSig (e : XSig) : List CV := [.val (.int .i64 e.tests), .val (.int .i64 e.actions)]
def budSig (_e : XSig) : Nat := 0
def okSig (e : XSig) : Prop := I64 (e.tests) ∧ I64 (e.actions)
structure XProofStep where
  use : Int
  back : Bool
  path : List Int
  tests : List XExpr
  acts : List XExpr
def encProofStep (e : XProofStep) : List CV := [.val (.int .i64 e.use), .val (.bool e.back), .ro 1 (e.path.map eI), .ro 3 (e.tests.map encExpr), .ro 3 (e.acts.map encExpr)]
def budProofStep (e : XProofStep) : Nat := e.path.length + budS budExpr e.tests + budS budExpr e.acts
def okProofStep (e : XProofStep) : Prop := I64 (e.use) ∧ (∀ y ∈ e.path, I64 (y)) ∧ (∀ y ∈ e.tests, okExpr y) ∧ (∀ y ∈ e.acts, okExpr y)
structure XClaim where
  left : XExpr
  right : XExpr
  rule : Int
  ref : Int
  steps : List XProofStep
def encClaim (e : XClaim) : List CV := [.val (.int .i64 e.left.kind), .val (.int .i64 e.left.num), .ro 3 (e.left.kids.map encExpr), .val (.int .i64 e.right.kind), .val (.int .i64 e.right.num), .ro 3 (e.right.kids.map encExpr), .val (.int .i64 e.rule), .val (.int .i64 e.ref), .ro 5 (e.steps.map encProofStep)]
def budClaim (e : XClaim) : Nat := budExpr e.left + budExpr e.right + budS budProofStep e.steps
def okClaim (e : XClaim) : Prop := okExpr e.left ∧ okExpr e.right ∧ I64 (e.rule) ∧ I64 (e.ref) ∧ (∀ y ∈ e.steps, okProofStep y)
structure XProof where
  sig : XSig
  claims : List XClaim
def encProof (e : XProof) : List CV := [.val (.int .i64 e.sig.tests), .val (.int .i64 e.sig.actions), .ro 9 (e.claims.map encClaim)]
def budProof (e : XProof) : Nat := budSig e.sig + budS budClaim e.claims
def okProof (e : XProof) : Prop := okSig e.sig ∧ (∀ y ∈ e.claims, okClaim y)
structure XEntry where
  id : Int
  rests : List Int
  proof : XProof
def encEntry (e : XEntry) : List CV := [.val (.int .i64 e.id), .ro 1 (e.rests.map eI), .val (.int .i64 e.proof.sig.tests), .val (.int .i64 e.proof.sig.actions), .ro 9 (e.proof.claims.map encClaim)]
def budEntry (e : XEntry) : Nat := e.rests.length + budProof e.proof
def okEntry (e : XEntry) : Prop := I64 (e.id) ∧ (∀ y ∈ e.rests, I64 (y)) ∧ okProof e.proof
structure XNote where
  revoke : Bool
  id : Int
  entry : XEntry
def encNote (e : XNote) : List CV := [.val (.bool e.revoke), .val (.int .i64 e.id), .val (.int .i64 e.entry.id), .ro 1 (e.entry.rests.map eI), .val (.int .i64 e.entry.proof.sig.tests), .val (.int .i64 e.entry.proof.sig.actions), .ro 9 (e.entry.proof.claims.map encClaim)]
def budNote (e : XNote) : Nat := budEntry e.entry
def okNote (e : XNote) : Prop := I64 (e.id) ∧ okEntry e.entry
structure XServer where
  up : Bool
  notes : List XNote
  saved : Int
def encServer (e : XServer) : List CV := [.val (.bool e.up), .ro 7 (e.notes.map encNote), .val (.int .i64 e.saved)]
def budServer (e : XServer) : Nat := budS budNote e.notes
def okServer (e : XServer) : Prop := (∀ y ∈ e.notes, okNote y) ∧ I64 (e.saved)
structure XPacket where
  to0 : Int
  note : XNote
def encPacket (e : XPacket) : List CV := [.val (.int .i64 e.to0), .val (.bool e.note.revoke), .val (.int .i64 e.note.id), .val (.int .i64 e.note.entry.id), .ro 1 (e.note.entry.rests.map eI), .val (.int .i64 e.note.entry.proof.sig.tests), .val (.int .i64 e.note.entry.proof.sig.actions), .ro 9 (e.note.entry.proof.claims.map encClaim)]
def budPacket (e : XPacket) : Nat := budNote e.note
def okPacket (e : XPacket) : Prop := I64 (e.to0) ∧ okNote e.note
structure XArchive where
  sig : XSig
  servers : List XServer
  flying : List XPacket
def encArchive (e : XArchive) : List CV := [.val (.int .i64 e.sig.tests), .val (.int .i64 e.sig.actions), .ro 3 (e.servers.map encServer), .ro 8 (e.flying.map encPacket)]
def budArchive (e : XArchive) : Nat := budSig e.sig + budS budServer e.servers + budS budPacket e.flying
def okArchive (e : XArchive) : Prop := okSig e.sig ∧ (∀ y ∈ e.servers, okServer y) ∧ (∀ y ∈ e.flying, okPacket y)
structure XPremise where
  pre : XExpr
  act : Int
  post : XExpr
def encPremise (e : XPremise) : List CV := [.val (.int .i64 e.pre.kind), .val (.int .i64 e.pre.num), .ro 3 (e.pre.kids.map encExpr), .val (.int .i64 e.act), .val (.int .i64 e.post.kind), .val (.int .i64 e.post.num), .ro 3 (e.post.kids.map encExpr)]
def budPremise (e : XPremise) : Nat := budExpr e.pre + budExpr e.post
def okPremise (e : XPremise) : Prop := okExpr e.pre ∧ I64 (e.act) ∧ okExpr e.post
structure XEvent where
  kind : Int
  a : Int
  b : Int
  c : Int
  rests : List Int
  proof : XProof
  votes : List Bool
def encEvent (e : XEvent) : List CV := [.val (.int .i64 e.kind), .val (.int .i64 e.a), .val (.int .i64 e.b), .val (.int .i64 e.c), .ro 1 (e.rests.map eI), .val (.int .i64 e.proof.sig.tests), .val (.int .i64 e.proof.sig.actions), .ro 9 (e.proof.claims.map encClaim), .ro 1 (e.votes.map eB)]
def budEvent (e : XEvent) : Nat := e.rests.length + budProof e.proof + e.votes.length
def okEvent (e : XEvent) : Prop := I64 (e.kind) ∧ I64 (e.a) ∧ I64 (e.b) ∧ I64 (e.c) ∧ (∀ y ∈ e.rests, I64 (y)) ∧ okProof e.proof
theorem roLL_of {α : Type} {f g : α → List CV} (h : ∀ x, roL (f x) = g x) (l : List α) : roLL (l.map f) = l.map g := by
  rw [roLL_map, List.map_map]
  refine List.map_congr_left fun x _ => ?_
  rw [← h x, roL_map]
  rfl
mutual
def ownExpr : XExpr → List CV
  | .mk kind num kids => [.val (.int .i64 kind), .val (.int .i64 num), .own 37 3 (ownExprS kids)]
def ownExprS : List XExpr → List (List CV)
  | [] => []
  | x :: xs => ownExpr x :: ownExprS xs
end
theorem ownExprS_map : ∀ l : List XExpr, ownExprS l = l.map ownExpr
  | [] => rfl
  | x :: xs => by simp only [ownExprS, List.map_cons]; rw [ownExprS_map xs]
theorem ownExpr_eq (e : XExpr) : ownExpr e = [.val (.int .i64 e.kind), .val (.int .i64 e.num), .own 37 3 (e.kids.map ownExpr)] := by
  cases e
  simp only [ownExpr, ownExprS_map]
  rfl
mutual
theorem roExpr : ∀ e : XExpr, roL (ownExpr e) = encExpr e
  | .mk kind num kids => by
    simp only [ownExpr, encExpr, roL, roC]
    rw [roExprS _]
theorem roExprS : ∀ l : List XExpr, roLL (ownExprS l) = encExprS l
  | [] => rfl
  | x :: xs => by simp only [ownExprS, encExprS, roLL]; rw [roExpr x, roExprS xs]
end
mutual
def ownProg : XProg → List CV
  | .mk kind num cond kids => [.val (.int .i64 kind), .val (.int .i64 num), .val (.int .i64 cond.kind), .val (.int .i64 cond.num), .own 37 3 (cond.kids.map ownExpr), .own 40 6 (ownProgS kids)]
def ownProgS : List XProg → List (List CV)
  | [] => []
  | x :: xs => ownProg x :: ownProgS xs
end
theorem ownProgS_map : ∀ l : List XProg, ownProgS l = l.map ownProg
  | [] => rfl
  | x :: xs => by simp only [ownProgS, List.map_cons]; rw [ownProgS_map xs]
theorem ownProg_eq (e : XProg) : ownProg e = [.val (.int .i64 e.kind), .val (.int .i64 e.num), .val (.int .i64 e.cond.kind), .val (.int .i64 e.cond.num), .own 37 3 (e.cond.kids.map ownExpr), .own 40 6 (e.kids.map ownProg)] := by
  cases e
  simp only [ownProg, ownProgS_map]
  rfl
mutual
theorem roProg : ∀ e : XProg, roL (ownProg e) = encProg e
  | .mk kind num cond kids => by
    simp only [ownProg, encProg, roL, roC]
    rw [roProgS _]
    try simp only [roLL_of roExpr]
theorem roProgS : ∀ l : List XProg, roLL (ownProgS l) = encProgS l
  | [] => rfl
  | x :: xs => by simp only [ownProgS, encProgS, roLL]; rw [roProg x, roProgS xs]
end
def ownTriple (e : XTriple) : List CV := [.val (.int .i64 e.pre.kind), .val (.int .i64 e.pre.num), .own 37 3 (e.pre.kids.map ownExpr), .val (.int .i64 e.prog.kind), .val (.int .i64 e.prog.num), .val (.int .i64 e.prog.cond.kind), .val (.int .i64 e.prog.cond.num), .own 37 3 (e.prog.cond.kids.map ownExpr), .own 40 6 (e.prog.kids.map ownProg), .val (.int .i64 e.post.kind), .val (.int .i64 e.post.num), .own 37 3 (e.post.kids.map ownExpr)]
theorem roTriple (e : XTriple) : roL (ownTriple e) = encTriple e := by
  simp only [ownTriple, encTriple, roL, roC, roLL_of roExpr, roLL_of roProg]
mutual
def ownDerivation : XDerivation → List CV
  | .mk rule says kids => [.val (.int .i64 rule), .val (.int .i64 says.pre.kind), .val (.int .i64 says.pre.num), .own 37 3 (says.pre.kids.map ownExpr), .val (.int .i64 says.prog.kind), .val (.int .i64 says.prog.num), .val (.int .i64 says.prog.cond.kind), .val (.int .i64 says.prog.cond.num), .own 37 3 (says.prog.cond.kids.map ownExpr), .own 40 6 (says.prog.kids.map ownProg), .val (.int .i64 says.post.kind), .val (.int .i64 says.post.num), .own 37 3 (says.post.kids.map ownExpr), .own 45 14 (ownDerivationS kids)]
def ownDerivationS : List XDerivation → List (List CV)
  | [] => []
  | x :: xs => ownDerivation x :: ownDerivationS xs
end
theorem ownDerivationS_map : ∀ l : List XDerivation, ownDerivationS l = l.map ownDerivation
  | [] => rfl
  | x :: xs => by simp only [ownDerivationS, List.map_cons]; rw [ownDerivationS_map xs]
theorem ownDerivation_eq (e : XDerivation) : ownDerivation e = [.val (.int .i64 e.rule), .val (.int .i64 e.says.pre.kind), .val (.int .i64 e.says.pre.num), .own 37 3 (e.says.pre.kids.map ownExpr), .val (.int .i64 e.says.prog.kind), .val (.int .i64 e.says.prog.num), .val (.int .i64 e.says.prog.cond.kind), .val (.int .i64 e.says.prog.cond.num), .own 37 3 (e.says.prog.cond.kids.map ownExpr), .own 40 6 (e.says.prog.kids.map ownProg), .val (.int .i64 e.says.post.kind), .val (.int .i64 e.says.post.num), .own 37 3 (e.says.post.kids.map ownExpr), .own 45 14 (e.kids.map ownDerivation)] := by
  cases e
  simp only [ownDerivation, ownDerivationS_map]
  rfl
mutual
theorem roDerivation : ∀ e : XDerivation, roL (ownDerivation e) = encDerivation e
  | .mk rule says kids => by
    simp only [ownDerivation, encDerivation, roL, roC]
    rw [roDerivationS _]
    try simp only [roLL_of roExpr, roLL_of roProg]
theorem roDerivationS : ∀ l : List XDerivation, roLL (ownDerivationS l) = encDerivationS l
  | [] => rfl
  | x :: xs => by simp only [ownDerivationS, encDerivationS, roLL]; rw [roDerivation x, roDerivationS xs]
end
def ownProofStep (e : XProofStep) : List CV := [.val (.int .i64 e.use), .val (.bool e.back), .ows 2 1 (e.path.map eI), .own 37 3 (e.tests.map ownExpr), .own 37 3 (e.acts.map ownExpr)]
def ownClaim (e : XClaim) : List CV := [.val (.int .i64 e.left.kind), .val (.int .i64 e.left.num), .own 37 3 (e.left.kids.map ownExpr), .val (.int .i64 e.right.kind), .val (.int .i64 e.right.num), .own 37 3 (e.right.kids.map ownExpr), .val (.int .i64 e.rule), .val (.int .i64 e.ref), .own 276 5 (e.steps.map ownProofStep)]
def ownProof (e : XProof) : List CV := [.val (.int .i64 e.sig.tests), .val (.int .i64 e.sig.actions), .own 236 9 (e.claims.map ownClaim)]
def ownEntry (e : XEntry) : List CV := [.val (.int .i64 e.id), .ows 2 1 (e.rests.map eI), .val (.int .i64 e.proof.sig.tests), .val (.int .i64 e.proof.sig.actions), .own 236 9 (e.proof.claims.map ownClaim)]
def ownNote (e : XNote) : List CV := [.val (.bool e.revoke), .val (.int .i64 e.id), .val (.int .i64 e.entry.id), .ows 2 1 (e.entry.rests.map eI), .val (.int .i64 e.entry.proof.sig.tests), .val (.int .i64 e.entry.proof.sig.actions), .own 236 9 (e.entry.proof.claims.map ownClaim)]
def ownServer (e : XServer) : List CV := [.val (.bool e.up), .own 136 7 (e.notes.map ownNote), .val (.int .i64 e.saved)]
def ownPacket (e : XPacket) : List CV := [.val (.int .i64 e.to0), .val (.bool e.note.revoke), .val (.int .i64 e.note.id), .val (.int .i64 e.note.entry.id), .ows 2 1 (e.note.entry.rests.map eI), .val (.int .i64 e.note.entry.proof.sig.tests), .val (.int .i64 e.note.entry.proof.sig.actions), .own 236 9 (e.note.entry.proof.claims.map ownClaim)]
def ownArchive (e : XArchive) : List CV := [.val (.int .i64 e.sig.tests), .val (.int .i64 e.sig.actions), .own 127 3 (e.servers.map ownServer), .own 210 8 (e.flying.map ownPacket)]
def ownPremise (e : XPremise) : List CV := [.val (.int .i64 e.pre.kind), .val (.int .i64 e.pre.num), .own 37 3 (e.pre.kids.map ownExpr), .val (.int .i64 e.act), .val (.int .i64 e.post.kind), .val (.int .i64 e.post.num), .own 37 3 (e.post.kids.map ownExpr)]
theorem roPremise (e : XPremise) : roL (ownPremise e) = encPremise e := by
  simp only [ownPremise, encPremise, roL, roC, roLL_of roExpr]
def ownEvent (e : XEvent) : List CV := [.val (.int .i64 e.kind), .val (.int .i64 e.a), .val (.int .i64 e.b), .val (.int .i64 e.c), .ows 2 1 (e.rests.map eI), .val (.int .i64 e.proof.sig.tests), .val (.int .i64 e.proof.sig.actions), .own 236 9 (e.proof.claims.map ownClaim), .ows 4 1 (e.votes.map eB)]
end Go.Proofs.YtmpcfplelpdbhaaGreat
