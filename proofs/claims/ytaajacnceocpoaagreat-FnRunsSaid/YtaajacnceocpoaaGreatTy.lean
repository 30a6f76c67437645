/- Part of a proof engine for functions of the given program: what an operation, a loop and a call compute, symbolically. No conditions. -/
import Derived.Test.YtaajacnceocpoaaGreatEngW
import Derived.Test.YtaajacnceocpoaaGreatTb
namespace Go.Proofs.YtaajacnceocpoaaGreat
open Go Go.KA
abbrev I (n : Int) : SV := .c (.val (.int .i64 n))
abbrev B (b : Bool) : SV := .c (.val (.bool b))
abbrev eI (n : Int) : List CV := [.val (.int .i64 n)]
abbrev eB (b : Bool) : List CV := [.val (.bool b)]
def I64 (z : Int) : Prop := -9223372036854775808 ≤ z ∧ z ≤ 9223372036854775807
def bsum {α : Type} (f : α → Nat) : List α → Nat
  | [] => 0
  | x :: xs => f x + bsum f xs
def budS {α : Type} (f : α → Nat) (l : List α) : Nat := l.length + bsum f l
def szr (b left : Nat) : Int := if b ≤ left then ((left - b : Nat) : Int) else -1
theorem budS_len {α : Type} (f : α → Nat) (l : List α) : l.length ≤ budS f l := Nat.le_add_right _ _
theorem bsum_mem {α : Type} (f : α → Nat) : ∀ {l : List α} {x : α}, x ∈ l → f x ≤ bsum f l
  | y :: ys, x, h => by
    simp only [bsum]
    rcases List.mem_cons.1 h with rfl | h
    · omega
    · have := bsum_mem f h; omega
theorem budS_mem {α : Type} (f : α → Nat) {l : List α} {x : α} (h : x ∈ l) : f x ≤ budS f l := Nat.le_trans (bsum_mem f h) (Nat.le_add_left _ _)
theorem hm : Tryz.prog.follows .mixedOrders = true := by kernel_rfl
theorem wrap_fit {z : Int} (h1 : -9223372036854775808 ≤ z) (h2 : z ≤ 9223372036854775807) : IntKind.i64.wrap z = z := by
  simp only [IntKind.wrap, IntKind.bits, IntKind.signed, Bool.true_and]
  have : z % 2 ^ 64 = z ∨ z % 2 ^ 64 = z + 2 ^ 64 := by omega
  split <;> rename_i h
  · have h := of_decide_eq_true h; omega
  · have h := of_decide_eq_false (eq_false_of_ne_true h); omega
def half {α : Type} (row : α → List CV) (z : List CV) (l : List α) (i : Nat) : List (List CV) := (l.take i).map row ++ List.replicate (l.length - i) z
section
variable {α : Type} {row : α → List CV} {z : List CV} {l : List α}
end
noncomputable def eqv {α : Type} (x y : α) : Bool := @decide (x = y) (Classical.propDecidable _)
@[simp] theorem eqv_true {α : Type} {x y : α} : eqv x y = true ↔ x = y := by
  unfold eqv
  exact @decide_eq_true_iff _ (Classical.propDecidable _)
@[simp] theorem eqv_self {α : Type} (x : α) : eqv x x = true := eqv_true.2 rfl
theorem eqv_of {α : Type} {x y : α} (h : x = y) : eqv x y = true := eqv_true.2 h
theorem eqv_ne {α : Type} {x y : α} (h : x ≠ y) : eqv x y = false := by
  cases hb : eqv x y with
  | false => rfl
  | true => exact absurd (eqv_true.1 hb) h
structure XSig where
  tests : Int
  actions : Int
def encSig (e : XSig) : List CV := [.val (.int .i64 e.tests), .val (.int .i64 e.actions)]
def budSig (_e : XSig) : Nat := 0
def okSig (e : XSig) : Prop := I64 (e.tests) ∧ I64 (e.actions)
inductive XExpr where
  | mk (kind : Int) (num : Int) (kids : List XExpr)
def XExpr.kind : XExpr → Int
  | .mk x _ _ => x
def XExpr.num : XExpr → Int
  | .mk _ x _ => x
def XExpr.kids : XExpr → List XExpr
  | .mk _ _ x => x
mutual
def encExpr : XExpr → List CV
  | .mk kind num kids => [.val (.int .i64 kind), .val (.int .i64 num), .ro 3 (encExprS kids)]
def encExprS : List XExpr → List (List CV)
  | [] => []
  | x :: xs => encExpr x :: encExprS xs
end
theorem encExprS_map : ∀ l : List XExpr, encExprS l = l.map encExpr
  | [] => rfl
  | x :: xs => by simp only [encExprS, List.map_cons]; rw [encExprS_map xs]
theorem encExpr_eq (e : XExpr) : encExpr e = [.val (.int .i64 e.kind), .val (.int .i64 e.num), .ro 3 (e.kids.map encExpr)] := by
  cases e
  simp only [encExpr, encExprS_map]
  rfl
mutual
def budExpr : XExpr → Nat
  | .mk _ _ kids => budExprS kids
def budExprS : List XExpr → Nat
  | [] => 0
  | x :: xs => (budExpr x + 1) + budExprS xs
end
theorem budExprS_eq : ∀ l : List XExpr, budExprS l = budS budExpr l
  | [] => rfl
  | x :: xs => by simp only [budExprS, budS, bsum, List.length_cons]; rw [budExprS_eq xs]; simp only [budS]; omega
inductive okExpr : XExpr → Prop
  | mk {kind num kids} (h0 : I64 (kind)) (h1 : I64 (num)) (h2 : (∀ y ∈ kids, okExpr y)) : okExpr (.mk kind num kids)
inductive XProg where
  | mk (kind : Int) (num : Int) (cond : XExpr) (kids : List XProg)
def XProg.kind : XProg → Int
  | .mk x _ _ _ => x
def XProg.num : XProg → Int
  | .mk _ x _ _ => x
def XProg.cond : XProg → XExpr
  | .mk _ _ x _ => x
def XProg.kids : XProg → List XProg
  | .mk _ _ _ x => x
mutual
def encProg : XProg → List CV
  | .mk kind num cond kids => [.val (.int .i64 kind), .val (.int .i64 num), .val (.int .i64 cond.kind), .val (.int .i64 cond.num), .ro 3 (cond.kids.map encExpr), .ro 6 (encProgS kids)]
def encProgS : List XProg → List (List CV)
  | [] => []
  | x :: xs => encProg x :: encProgS xs
end
theorem encProgS_map : ∀ l : List XProg, encProgS l = l.map encProg
  | [] => rfl
  | x :: xs => by simp only [encProgS, List.map_cons]; rw [encProgS_map xs]
theorem encProg_eq (e : XProg) : encProg e = [.val (.int .i64 e.kind), .val (.int .i64 e.num), .val (.int .i64 e.cond.kind), .val (.int .i64 e.cond.num), .ro 3 (e.cond.kids.map encExpr), .ro 6 (e.kids.map encProg)] := by
  cases e
  simp only [encProg, encProgS_map]
  rfl
mutual
def budProg : XProg → Nat
  | .mk _ _ cond kids => budExpr cond + budProgS kids
def budProgS : List XProg → Nat
  | [] => 0
  | x :: xs => (budProg x + 1) + budProgS xs
end
theorem budProgS_eq : ∀ l : List XProg, budProgS l = budS budProg l
  | [] => rfl
  | x :: xs => by simp only [budProgS, budS, bsum, List.length_cons]; rw [budProgS_eq xs]; simp only [budS]; omega
inductive okProg : XProg → Prop
  | mk {kind num cond kids} (h0 : I64 (kind)) (h1 : I64 (num)) (h2 : okExpr cond) (h3 : (∀ y ∈ kids, okProg y)) : okProg (.mk kind num cond kids)
structure XWorld where
  atoms : List Int
  acts : List (List Int)
def encWorld (e : XWorld) : List CV := [.ro 1 (e.atoms.map eI), .ro 1 (e.acts.map (fun l => [.ro 1 (l.map eI)]))]
def budWorld (e : XWorld) : Nat := e.atoms.length + budS List.length e.acts
def okWorld (e : XWorld) : Prop := (∀ y ∈ e.atoms, I64 (y)) ∧ (∀ y ∈ e.acts, (∀ y1 ∈ y, I64 (y1)))
structure XWord where
  atoms : List Int
  acts : List Int
def encWord (e : XWord) : List CV := [.ro 1 (e.atoms.map eI), .ro 1 (e.acts.map eI)]
def budWord (e : XWord) : Nat := e.atoms.length + e.acts.length
def okWord (e : XWord) : Prop := (∀ y ∈ e.atoms, I64 (y)) ∧ (∀ y ∈ e.acts, I64 (y))
structure XTriple where
  pre : XExpr
  prog : XProg
  post : XExpr
def encTriple (e : XTriple) : List CV := [.val (.int .i64 e.pre.kind), .val (.int .i64 e.pre.num), .ro 3 (e.pre.kids.map encExpr), .val (.int .i64 e.prog.kind), .val (.int .i64 e.prog.num), .val (.int .i64 e.prog.cond.kind), .val (.int .i64 e.prog.cond.num), .ro 3 (e.prog.cond.kids.map encExpr), .ro 6 (e.prog.kids.map encProg), .val (.int .i64 e.post.kind), .val (.int .i64 e.post.num), .ro 3 (e.post.kids.map encExpr)]
def budTriple (e : XTriple) : Nat := budExpr e.pre + budProg e.prog + budExpr e.post
def okTriple (e : XTriple) : Prop := okExpr e.pre ∧ okProg e.prog ∧ okExpr e.post
inductive XDerivation where
  | mk (rule : Int) (says : XTriple) (kids : List XDerivation)
def XDerivation.rule : XDerivation → Int
  | .mk x _ _ => x
def XDerivation.says : XDerivation → XTriple
  | .mk _ x _ => x
def XDerivation.kids : XDerivation → List XDerivation
  | .mk _ _ x => x
mutual
def encDerivation : XDerivation → List CV
  | .mk rule says kids => [.val (.int .i64 rule), .val (.int .i64 says.pre.kind), .val (.int .i64 says.pre.num), .ro 3 (says.pre.kids.map encExpr), .val (.int .i64 says.prog.kind), .val (.int .i64 says.prog.num), .val (.int .i64 says.prog.cond.kind), .val (.int .i64 says.prog.cond.num), .ro 3 (says.prog.cond.kids.map encExpr), .ro 6 (says.prog.kids.map encProg), .val (.int .i64 says.post.kind), .val (.int .i64 says.post.num), .ro 3 (says.post.kids.map encExpr), .ro 14 (encDerivationS kids)]
def encDerivationS : List XDerivation → List (List CV)
  | [] => []
  | x :: xs => encDerivation x :: encDerivationS xs
end
mutual
def budDerivation : XDerivation → Nat
  | .mk _ says kids => budTriple says + budDerivationS kids
def budDerivationS : List XDerivation → Nat
  | [] => 0
  | x :: xs => (budDerivation x + 1) + budDerivationS xs
end
inductive okDerivation : XDerivation → Prop
  | mk {rule says kids} (h0 : I64 (rule)) (h1 : okTriple says) (h2 : (∀ y ∈ kids, okDerivation y)) : okDerivation (.mk rule says kids)
structure XPremise where
  pre : XExpr
  act : Int
  post : XExpr
def encPremise (e : XPremise) : List CV := [.val (.int .i64 e.pre.kind), .val (.int .i64 e.pre.num), .ro 3 (e.pre.kids.map encExpr), .val (.int .i64 e.act), .val (.int .i64 e.post.kind), .val (.int .i64 e.post.num), .ro 3 (e.post.kids.map encExpr)]
def budPremise (e : XPremise) : Nat := budExpr e.pre + budExpr e.post
def okPremise (e : XPremise) : Prop := okExpr e.pre ∧ I64 (e.act) ∧ okExpr e.post
theorem roLL_of {α : Type} {f g : α → List CV} (h : ∀ x, roL (f x) = g x) (l : List α) : roLL (l.map f) = l.map g := by
  rw [roLL_map, List.map_map]
  refine List.map_congr_left fun x _ => ?_
  rw [← h x, roL_map]
  rfl
mutual
def ownExpr : XExpr → List CV
  | .mk kind num kids => [.val (.int .i64 kind), .val (.int .i64 num), .own 28 3 (ownExprS kids)]
def ownExprS : List XExpr → List (List CV)
  | [] => []
  | x :: xs => ownExpr x :: ownExprS xs
end
theorem ownExprS_map : ∀ l : List XExpr, ownExprS l = l.map ownExpr
  | [] => rfl
  | x :: xs => by simp only [ownExprS, List.map_cons]; rw [ownExprS_map xs]
theorem ownExpr_eq (e : XExpr) : ownExpr e = [.val (.int .i64 e.kind), .val (.int .i64 e.num), .own 28 3 (e.kids.map ownExpr)] := by
  cases e
  simp only [ownExpr, ownExprS_map]
  rfl
mutual
theorem roExpr : ∀ e : XExpr, roL (ownExpr e) = encExpr e
  | .mk kind num kids => by
    simp only [ownExpr, encExpr, roL, roC]
    rw [roExprS _]
theorem roExprS : ∀ l : List XExpr, roLL (ownExprS l) = encExprS l
  | [] => rfl
  | x :: xs => by simp only [ownExprS, encExprS, roLL]; rw [roExpr x, roExprS xs]
end
mutual
def ownProg : XProg → List CV
  | .mk kind num cond kids => [.val (.int .i64 kind), .val (.int .i64 num), .val (.int .i64 cond.kind), .val (.int .i64 cond.num), .own 28 3 (cond.kids.map ownExpr), .own 31 6 (ownProgS kids)]
def ownProgS : List XProg → List (List CV)
  | [] => []
  | x :: xs => ownProg x :: ownProgS xs
end
theorem ownProgS_map : ∀ l : List XProg, ownProgS l = l.map ownProg
  | [] => rfl
  | x :: xs => by simp only [ownProgS, List.map_cons]; rw [ownProgS_map xs]
theorem ownProg_eq (e : XProg) : ownProg e = [.val (.int .i64 e.kind), .val (.int .i64 e.num), .val (.int .i64 e.cond.kind), .val (.int .i64 e.cond.num), .own 28 3 (e.cond.kids.map ownExpr), .own 31 6 (e.kids.map ownProg)] := by
  cases e
  simp only [ownProg, ownProgS_map]
  rfl
mutual
theorem roProg : ∀ e : XProg, roL (ownProg e) = encProg e
  | .mk kind num cond kids => by
    simp only [ownProg, encProg, roL, roC]
    rw [roProgS _]
    try simp only [roLL_of roExpr]
theorem roProgS : ∀ l : List XProg, roLL (ownProgS l) = encProgS l
  | [] => rfl
  | x :: xs => by simp only [ownProgS, encProgS, roLL]; rw [roProg x, roProgS xs]
end
def ownWorld (e : XWorld) : List CV := [.ows 2 1 (e.atoms.map eI), .own 34 1 (e.acts.map (fun (l : List Int) => [.ows 2 1 (l.map eI)]))]
def ownWord (e : XWord) : List CV := [.ows 2 1 (e.atoms.map eI), .ows 2 1 (e.acts.map eI)]
def ownTriple (e : XTriple) : List CV := [.val (.int .i64 e.pre.kind), .val (.int .i64 e.pre.num), .own 28 3 (e.pre.kids.map ownExpr), .val (.int .i64 e.prog.kind), .val (.int .i64 e.prog.num), .val (.int .i64 e.prog.cond.kind), .val (.int .i64 e.prog.cond.num), .own 28 3 (e.prog.cond.kids.map ownExpr), .own 31 6 (e.prog.kids.map ownProg), .val (.int .i64 e.post.kind), .val (.int .i64 e.post.num), .own 28 3 (e.post.kids.map ownExpr)]
mutual
def ownDerivation : XDerivation → List CV
  | .mk rule says kids => [.val (.int .i64 rule), .val (.int .i64 says.pre.kind), .val (.int .i64 says.pre.num), .own 28 3 (says.pre.kids.map ownExpr), .val (.int .i64 says.prog.kind), .val (.int .i64 says.prog.num), .val (.int .i64 says.prog.cond.kind), .val (.int .i64 says.prog.cond.num), .own 28 3 (says.prog.cond.kids.map ownExpr), .own 31 6 (says.prog.kids.map ownProg), .val (.int .i64 says.post.kind), .val (.int .i64 says.post.num), .own 28 3 (says.post.kids.map ownExpr), .own 60 14 (ownDerivationS kids)]
def ownDerivationS : List XDerivation → List (List CV)
  | [] => []
  | x :: xs => ownDerivation x :: ownDerivationS xs
end
def ownPremise (e : XPremise) : List CV := [.val (.int .i64 e.pre.kind), .val (.int .i64 e.pre.num), .own 28 3 (e.pre.kids.map ownExpr), .val (.int .i64 e.act), .val (.int .i64 e.post.kind), .val (.int .i64 e.post.num), .own 28 3 (e.post.kids.map ownExpr)]
end Go.Proofs.YtaajacnceocpoaaGreat
