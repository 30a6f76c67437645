/- Contracts of RunProg, the program's and the reference's: both return one value. No conditions. -/
import Derived.Test.YtaajacnceocpoaaGreatKAG
namespace Go.Proofs.YtaajacnceocpoaaGreat
open Go Go.KA Go.Proofs
set_option maxHeartbeats 8000000
set_option maxRecDepth 100000
theorem progOk {t a : Int} {e : XProg} (h : goodP t a e = true) : POk t a e := by
  simp only [goodP, Bool.and_eq_true] at h
  exact ⟨h.2.2⟩
theorem run_begin {w : XWorld} {state fuel : Int} (hr : runOk w state fuel = true) : RB w fuel ⟨state, [at0 w state], [], 0⟩ := by
  simp only [runOk, rng, Bool.and_eq_true, decide_eq_true_eq] at hr
  exact ⟨⟨by show 0 ≤ state ∧ state < _; omega, by show (0 : Int) ≤ 0 ∧ (0 : Int) ≤ 1000; omega, by show 1 ≤ _; omega, by show 0 ≤ _; omega⟩, by show 0 ≤ fuel; omega⟩
section
variable (t a : Int) (w : XWorld) (e : XProg) (state fuel : Int)
variable {c : Int} {r' : RS}
theorem implProg_bad (h1 : goodSig t a = true) (h2 : goodWorld t a w = true) (h3 : goodP t a e = true) (h4 : runOk w state fuel = true) (hrun : Run w fuel e ⟨state, [at0 w state], [], 0⟩ c r') (h5 : ¬ c = 0) : CallX Tryz.prog 10 [.a 2 [J t, J a], .a 2 (encWorld w), .a 6 (encProg e), I state, I fuel] [] (noneT c) := by
  have hq := (runI_ok (worldOk h2).1 (worldOk h2).2 (runB h4).2 hrun (progOk h3) (run_begin h4)).1
  refine callX_of_vc htb hm Tryz.func10 rfl rfl rfl rfl (ann := fun _ => none) (gh := fun _ => false) ?_
  repeat' ((conv => whnf); first | (guard_target = RetX _ _; refine RetX.mk ?_ ?_) | (guard_target = Branch _ _ _; (first | apply Branch.dec | apply Branch.beq | apply Branch.bne | apply Branch.ndec | apply Branch.nb | apply Branch.mk) <;> intro h <;> (try simp only [List.length_map] at h) <;> (try omega) <;> (try contradiction)) | (guard_target = CallN _ 39 _ _ _ _; refine CallN.pure _ _ rfl (ValidWorld_ok t a w) rfl _ rfl ?_) | (guard_target = CallN _ 40 _ _ _ _; refine CallN.pure _ _ rfl (isProg_ok t a (sig_bounds h1).1 (sig_bounds h1).2 e) rfl _ rfl ?_) | (guard_target = CallN _ 41 _ _ _ _; refine CallN.pure _ _ rfl (isRun_ok w state fuel) rfl _ rfl ?_) | (guard_target = CallN _ 42 _ _ _ _; refine CallN.gen [] _ _ _ rfl (newRunner_ok w state fuel h4) rfl rfl _ rfl ?_) | (guard_target = CallN _ 44 _ _ _ _; refine CallN.gen [true, false] _ _ _ rfl (hq) rfl rfl _ rfl ?_) | (guard_target = CallN _ 43 _ _ _ _; refine CallN.gen [true, false] _ _ _ rfl (result_bad w fuel _ _ h5) rfl rfl _ rfl ?_) | (guard_target = Index _ _ _; first  | refine Index.mk _ (idx_map (by omega)) ?_) | (guard_target = Need (_ = true) _; refine Need.mk (by first | kernel_rfl | rfl) ?_) | (guard_target = GhO _ _ _ _; refine GhO.go ?_) | (guard_target = Need _ _; refine Need.mk (by first  | omega | (simp only [List.length_map]; omega)) ?_))
  all_goals first | rfl | trivial | (exfalso; simp_all; done)
theorem implProg_run (h1 : goodSig t a = true) (h2 : goodWorld t a w = true) (h3 : goodP t a e = true) (h4 : runOk w state fuel = true) (hrun : Run w fuel e ⟨state, [at0 w state], [], 0⟩ 0 r') : CallX Tryz.prog 10 [.a 2 [J t, J a], .a 2 (encWorld w), .a 6 (encProg e), I state, I fuel] [] (runT r') := by
  have hq := (runI_ok (worldOk h2).1 (worldOk h2).2 (runB h4).2 hrun (progOk h3) (run_begin h4)).1
  refine callX_of_vc htb hm Tryz.func10 rfl rfl rfl rfl (ann := fun _ => none) (gh := fun _ => false) ?_
  repeat' ((conv => whnf); first | (guard_target = RetX _ _; refine RetX.mk ?_ ?_) | (guard_target = Branch _ _ _; (first | apply Branch.dec | apply Branch.beq | apply Branch.bne | apply Branch.ndec | apply Branch.nb | apply Branch.mk) <;> intro h <;> (try simp only [List.length_map] at h) <;> (try omega) <;> (try contradiction)) | (guard_target = CallN _ 39 _ _ _ _; refine CallN.pure _ _ rfl (ValidWorld_ok t a w) rfl _ rfl ?_) | (guard_target = CallN _ 40 _ _ _ _; refine CallN.pure _ _ rfl (isProg_ok t a (sig_bounds h1).1 (sig_bounds h1).2 e) rfl _ rfl ?_) | (guard_target = CallN _ 41 _ _ _ _; refine CallN.pure _ _ rfl (isRun_ok w state fuel) rfl _ rfl ?_) | (guard_target = CallN _ 42 _ _ _ _; refine CallN.gen [] _ _ _ rfl (newRunner_ok w state fuel h4) rfl rfl _ rfl ?_) | (guard_target = CallN _ 44 _ _ _ _; refine CallN.gen [true, false] _ _ _ rfl (hq) rfl rfl _ rfl ?_) | (guard_target = CallN _ 43 _ _ _ _; refine CallN.gen [true, false] _ _ _ rfl (result_ok w fuel _) rfl rfl _ rfl ?_) | (guard_target = Index _ _ _; first  | refine Index.mk _ (idx_map (by omega)) ?_) | (guard_target = Need (_ = true) _; refine Need.mk (by first | kernel_rfl | rfl) ?_) | (guard_target = GhO _ _ _ _; refine GhO.go ?_) | (guard_target = Need _ _; refine Need.mk (by first  | omega | (simp only [List.length_map]; omega)) ?_))
  all_goals first | rfl | trivial | (exfalso; simp_all; done)
variable (hl : budProg e ≤ 1048576)
include hl
theorem specProg_bad {cq : Int} (h1 : goodSig t a = true) (h2 : goodWorld t a w = true) (h3 : goodP t a e = true) (h4 : runOk w state fuel = true) (hrun : Run w fuel e ⟨state, [at0 w state], [], 0⟩ cq r') (h5 : ¬ cq = 0) : CallX Tryz.prog 9 [.a 2 [J t, J a], .a 2 (encWorld w), .a 6 (encProg e), I state, I fuel] [] (noneT cq) := by
  have ha := l06Asked_ok w state fuel
  rw [h4] at ha
  have hq := (runS_ok (sig_bounds h1).1.2 (worldOk h2).1 (worldOk h2).2 (runB h4).2 hrun (progOk h3) (run_begin h4)).1
  have hk := l06Ok_ok t a e hl
  rw [encProg_eq] at hk hq ⊢
  refine callX_of_vc htb hm Tryz.func9 rfl rfl rfl rfl (ann := fun _ => none) (gh := fun reg_ => match reg_ with | 6 => true | _ => false) ?_
  repeat' ((conv => whnf); first | (guard_target = RetX _ _; refine RetX.mk ?_ ?_) | (guard_target = Branch _ _ _; (first | apply Branch.dec | apply Branch.beq | apply Branch.bne | apply Branch.ndec | apply Branch.nb | apply Branch.mk) <;> intro h <;> (try simp only [List.length_map] at h) <;> (try omega) <;> (try contradiction)) | (guard_target = CallN _ 34 _ _ _ _; refine CallN.pure _ _ rfl (l06World_ok t a w) rfl _ rfl ?_) | (guard_target = CallN _ 30 _ _ _ _; refine CallN.pure _ _ rfl (hk) rfl _ rfl ?_) | (guard_target = CallN _ 35 _ _ _ _; refine CallN.pure _ _ rfl (ha) rfl _ rfl ?_) | (guard_target = CallN _ 36 _ _ _ _; refine CallN.gen [] _ _ _ rfl (l06Start_ok w state fuel h4) rfl rfl _ rfl ?_) | (guard_target = CallN _ 37 _ _ _ _; refine CallN.gen [true, false] _ _ _ rfl (hq) rfl rfl _ rfl ?_) | (guard_target = CallN _ 38 _ _ _ _; refine CallN.gen [true] _ _ _ rfl (told_bad w fuel cq r' h5) rfl rfl _ rfl ?_) | (guard_target = Gh _ _ _ _ _; refine Gh.frzp 1 (encWorld w) rfl (Gh.frzp 2 (toldP e) rfl (Gh.go ?_))) | (guard_target = Index _ _ _; first  | refine Index.mk _ (idx_map (by omega)) ?_) | (guard_target = Need (_ = true) _; refine Need.mk (by first | kernel_rfl | rfl) ?_) | (guard_target = GhO _ _ _ _; refine GhO.go ?_) | (guard_target = Need _ _; refine Need.mk (by first  | omega | (simp only [List.length_map]; omega)) ?_))
  all_goals first | rfl | trivial | (exfalso; simp_all; done)
theorem specProg_run (h1 : goodSig t a = true) (h2 : goodWorld t a w = true) (h3 : goodP t a e = true) (h4 : runOk w state fuel = true) (hrun : Run w fuel e ⟨state, [at0 w state], [], 0⟩ 0 r') : CallX Tryz.prog 9 [.a 2 [J t, J a], .a 2 (encWorld w), .a 6 (encProg e), I state, I fuel] [] (runT r') := by
  have ha := l06Asked_ok w state fuel
  rw [h4] at ha
  have hq := (runS_ok (sig_bounds h1).1.2 (worldOk h2).1 (worldOk h2).2 (runB h4).2 hrun (progOk h3) (run_begin h4)).1
  have hk := l06Ok_ok t a e hl
  rw [encProg_eq] at hk hq ⊢
  refine callX_of_vc htb hm Tryz.func9 rfl rfl rfl rfl (ann := fun _ => none) (gh := fun reg_ => match reg_ with | 6 => true | _ => false) ?_
  repeat' ((conv => whnf); first | (guard_target = RetX _ _; refine RetX.mk ?_ ?_) | (guard_target = Branch _ _ _; (first | apply Branch.dec | apply Branch.beq | apply Branch.bne | apply Branch.ndec | apply Branch.nb | apply Branch.mk) <;> intro h <;> (try simp only [List.length_map] at h) <;> (try omega) <;> (try contradiction)) | (guard_target = CallN _ 34 _ _ _ _; refine CallN.pure _ _ rfl (l06World_ok t a w) rfl _ rfl ?_) | (guard_target = CallN _ 30 _ _ _ _; refine CallN.pure _ _ rfl (hk) rfl _ rfl ?_) | (guard_target = CallN _ 35 _ _ _ _; refine CallN.pure _ _ rfl (ha) rfl _ rfl ?_) | (guard_target = CallN _ 36 _ _ _ _; refine CallN.gen [] _ _ _ rfl (l06Start_ok w state fuel h4) rfl rfl _ rfl ?_) | (guard_target = CallN _ 37 _ _ _ _; refine CallN.gen [true, false] _ _ _ rfl (hq) rfl rfl _ rfl ?_) | (guard_target = CallN _ 38 _ _ _ _; refine CallN.gen [true] _ _ _ rfl (told_ok w fuel _) rfl rfl _ rfl ?_) | (guard_target = Gh _ _ _ _ _; refine Gh.frzp 1 (encWorld w) rfl (Gh.frzp 2 (toldP e) rfl (Gh.go ?_))) | (guard_target = Index _ _ _; first  | refine Index.mk _ (idx_map (by omega)) ?_) | (guard_target = Need (_ = true) _; refine Need.mk (by first | kernel_rfl | rfl) ?_) | (guard_target = GhO _ _ _ _; refine GhO.go ?_) | (guard_target = Need _ _; refine Need.mk (by first  | omega | (simp only [List.length_map]; omega)) ?_))
  all_goals first | rfl | trivial | (exfalso; simp_all; done)
end
end Go.Proofs.YtaajacnceocpoaaGreat

namespace Go.Proofs.YtaajacnceocpoaaGreat
abbrev Rel := Nat → Nat → Bool
def cmpR (N : Nat) (a b : Rel) : Rel := fun x y => (List.range N).any fun z => a x z && b z y
def sqI (N : Nat) : Nat → Rel → Rel
  | 0, R => R
  | k + 1, R => sqI N k (cmpR N R R)
def onR (S : Rel) : Rel := fun x y => (x == y) || S x y
def stepsR (N : Nat) (S : Rel) (x : Nat) : Nat → Nat → Bool
  | 0, y => x == y
  | k + 1, y => stepsR N S x k y || (List.range N).any fun z => stepsR N S x k z && S z y
inductive Star (N : Nat) (S : Rel) (x : Nat) : Nat → Prop
  | refl : Star N S x x
  | step {z y} (h : Star N S x z) (hz : z < N) (hs : S z y = true) : Star N S x y
theorem stepsR_succ {N : Nat} {S : Rel} {x k y : Nat} : stepsR N S x (k + 1) y = true ↔ stepsR N S x k y = true ∨ ∃ z, z < N ∧ stepsR N S x k z = true ∧ S z y = true := by
  simp [stepsR, List.any_eq_true]
theorem Star.steps {N : Nat} {S : Rel} {x y : Nat} (h : Star N S x y) : ∃ k, stepsR N S x k y = true := by
  induction h with
  | refl => exact ⟨0, by simp [stepsR]⟩
  | step h hz hs ih =>
    obtain ⟨k, hk⟩ := ih
    exact ⟨k + 1, stepsR_succ.2 (.inr ⟨_, hz, hk, hs⟩)⟩
def cntR (N : Nat) (p : Nat → Bool) : Nat := ((List.range N).filter p).length
theorem Star.trans {N : Nat} {S : Rel} {x y z : Nat} (h : Star N S x y) (k : Star N S y z) : Star N S x z := by
  induction k with
  | refl => exact h
  | step _ hz hs ih => exact .step ih hz hs
end Go.Proofs.YtaajacnceocpoaaGreat

namespace Go.Proofs.YtaajacnceocpoaaGreat
open Go Go.KA Go.Proofs
set_option maxRecDepth 100000
def noneP : XProg := .mk 0 0 (.mk 0 0 []) []
section
variable (tr : XExpr → Nat → Bool) (ac : Int → Nat → Option Nat)
abbrev Cfg := List XProg × Nat
def smallS : Cfg → Option Cfg
  | ([], _) => none
  | (p :: K, s) =>
    if p.kind = 1 then some (K, s)
    else if p.kind = 3 then (ac p.num s).map fun t => (K, t)
    else if p.kind = 4 then (if tr p.cond s then some (K, s) else none)
    else if p.kind = 5 then some (p.kids.getD 0 noneP :: p.kids.getD 1 noneP :: K, s)
    else if p.kind = 6 then (if tr p.cond s then some (p.kids.getD 0 noneP :: K, s) else some (p.kids.getD 1 noneP :: K, s))
    else if p.kind = 7 then (if tr p.cond s then some (p.kids.getD 0 noneP :: p :: K, s) else some (K, s))
    else none
inductive Steps : Nat → Cfg → Cfg → Prop
  | refl {a} : Steps 0 a a
  | cons {n a b c} (h : smallS tr ac a = some b) (t : Steps n b c) : Steps (n + 1) a c
variable {tr ac}
theorem Steps.trans {n m : Nat} {a b c : Cfg} (h : Steps tr ac n a b) (k : Steps tr ac m b c) : Steps tr ac (n + m) a c := by
  induction h with
  | refl => rw [Nat.zero_add]; exact k
  | cons h _ ih => rw [Nat.add_right_comm]; exact .cons h (ih k)
theorem Steps.rest {n : Nat} {a b : Cfg} (h : Steps tr ac n a b) : ∀ {m : Nat} {c : Cfg}, Steps tr ac m a c → n ≤ m → Steps tr ac (m - n) b c := by
  induction h with
  | refl => intro m c k _; exact k
  | cons h _ ih =>
    intro m c k hm
    cases k with
    | refl => omega
    | @cons m _ b' _ h' k =>
      rw [h] at h'
      injection h' with h'
      subst h'
      rw [Nat.add_sub_add_right]
      exact ih k (by omega)
theorem Steps.stop {n : Nat} {a b : Cfg} (h : Steps tr ac n a b) (hs : smallS tr ac a = none) : n = 0 ∧ a = b := by
  cases h with
  | refl => exact ⟨rfl, rfl⟩
  | cons h _ => rw [hs] at h; cases h
theorem Steps.same {n m : Nat} {a b c : Cfg} (h : Steps tr ac n a b) (k : Steps tr ac m a c) (hb : smallS tr ac b = none) (hc : smallS tr ac c = none) : n = m ∧ b = c := by
  by_cases e : n ≤ m
  · have := (h.rest k e).stop hb
    exact ⟨by omega, this.2⟩
  · have := (k.rest h (by omega)).stop hc
    exact ⟨by omega, this.2.symm⟩
end
/-! ### the places of a program -/
mutual
def posP : XProg → List XProg → List (List XProg)
  | .mk k n c ks, K => (XProg.mk k n c ks :: K) :: (if k = 5 then posQ ks K else if k = 7 then posA ks (XProg.mk k n c ks :: K) else posA ks K)
def posA : List XProg → List XProg → List (List XProg)
  | [], _ => []
  | p :: ps, K => posP p K ++ posA ps K
def posQ : List XProg → List XProg → List (List XProg)
  | [], _ => []
  | p :: ps, K => posP p (ps ++ K) ++ posQ ps K
end
mutual
def nodesP : XProg → Nat
  | .mk _ _ _ ks => 1 + nodesL ks
def nodesL : List XProg → Nat
  | [] => 0
  | p :: ps => nodesP p + nodesL ps
end
inductive FormP : XProg → Prop
  | leaf {k n c ks} (h : k = 1 ∨ k = 2 ∨ k = 3 ∨ k = 4) (hk : ks = []) : FormP (.mk k n c ks)
  | two {k n c p q} (h : k = 5 ∨ k = 6) (hp : FormP p) (hq : FormP q) : FormP (.mk k n c [p, q])
  | loop {n c p} (hp : FormP p) : FormP (.mk 7 n c [p])
section
variable {tr : XExpr → Nat → Bool} {ac : Int → Nat → Option Nat}
end
end Go.Proofs.YtaajacnceocpoaaGreat

namespace Go.Proofs.YtaajacnceocpoaaGreat
open Go Go.KA Go.Proofs
set_option maxRecDepth 100000
def zeroM : Rel := fun _ _ => false
def inM (N : Nat) (S : Rel) : Rel := fun x y => S x y && decide (y < N)
section
variable (N : Nat) (test : Int → Nat → Bool) (ac : Int → Nat → Option Nat)
abbrev acR (ac : Int → Nat → Option Nat) (n : Int) : Rel := fun x y => ac n x == some y
def relK (k n : Int) (ks : List Rel) : Rel :=
  if k = 4 then acR ac n
  else if k = 7 then cmpR N (ks.getD 0 zeroM) (ks.getD 1 zeroM)
  else if k = 8 then sqI N N (onR (ks.getD 0 zeroM))
  else if k = 2 then fun x y => x == y
  else if k = 3 then fun x y => (x == y) && test n x
  else if k = 5 then fun x y => (x == y) && !(ks.getD 0 zeroM x y)
  else if k = 6 then fun x y => ks.getD 0 zeroM x y || ks.getD 1 zeroM x y
  else zeroM
mutual
def relE : XExpr → Rel
  | .mk k n ks => relK N test ac k n (relL ks)
def relL : List XExpr → List Rel
  | [] => []
  | e :: es => relE e :: relL es
end
variable (tr : XExpr → Nat → Bool)
def prK (k n : Int) (c : XExpr) (ks : List Rel) : Rel :=
  if k = 1 then fun x y => x == y
  else if k = 3 then acR ac n
  else if k = 4 then fun x y => (x == y) && tr c x
  else if k = 5 then cmpR N (ks.getD 0 zeroM) (ks.getD 1 zeroM)
  else if k = 6 then fun x y => if tr c x then ks.getD 0 zeroM x y else ks.getD 1 zeroM x y
  else if k = 7 then fun x y => sqI N N (onR fun x y => tr c x && ks.getD 0 zeroM x y) x y && !(tr c y)
  else zeroM
mutual
def prR : XProg → Rel
  | .mk k n c ks => prK N ac tr k n c (prL ks)
def prL : List XProg → List Rel
  | [] => []
  | p :: ps => prR p :: prL ps
end
mutual
def progE : XProg → XExpr
  | .mk k n c ks => progK k n c (progL ks)
def progK (k n : Int) (c : XExpr) (es : List XExpr) : XExpr :=
  if k = 1 then .mk 2 0 []
  else if k = 2 then .mk 1 0 []
  else if k = 3 then .mk 4 n []
  else if k = 4 then c
  else if k = 5 then .mk 7 0 es
  else if k = 6 then .mk 6 0 [.mk 7 0 [c, es.getD 0 (.mk 0 0 [])], .mk 7 0 [.mk 5 0 [c], es.getD 1 (.mk 0 0 [])]]
  else .mk 7 0 [.mk 8 0 [.mk 7 0 [c, es.getD 0 (.mk 0 0 [])]], .mk 5 0 [c]]
def progL : List XProg → List XExpr
  | [] => []
  | p :: ps => progE p :: progL ps
end
inductive CondsP (P : XExpr → Prop) : XProg → Prop
  | mk {k n c ks} (hc : k = 4 ∨ k = 6 ∨ k = 7 → P c) (h : ∀ x ∈ ks, CondsP P x) : CondsP P (.mk k n c ks)
variable {N test ac tr}
end
end Go.Proofs.YtaajacnceocpoaaGreat

namespace Go.Proofs.YtaajacnceocpoaaGreat
open Go Go.KA Go.Proofs
set_option maxRecDepth 100000
def trW (w : XWorld) (c : XExpr) (s : Nat) : Bool := truthE c (at0 w (s : Int))
def acW (w : XWorld) (a : Int) (s : Nat) : Option Nat := if (w.acts.getD a.toNat []).getD s 0 < 0 then none else some ((w.acts.getD a.toNat []).getD s 0).toNat
section
variable {t a : Int} {w : XWorld} {fuel : Int} (hw : WOk w)
include hw
end
end Go.Proofs.YtaajacnceocpoaaGreat

namespace Go.Proofs.YtaajacnceocpoaaGreat
open Go Go.KA Go.Proofs
set_option maxRecDepth 100000
def testW (w : XWorld) (n : Int) (s : Nat) : Bool := bitE n (at0 w (s : Int))
theorem kids_two {α : Type} {l : List α} (h : l.length = 2) : ∃ x y, l = [x, y] := by
  match l, h with
  | [x, y], _ => exact ⟨x, y, rfl⟩
theorem kids_one {α : Type} {l : List α} (h : l.length = 1) : ∃ x, l = [x] := by
  match l, h with
  | [x], _ => exact ⟨x, rfl⟩
theorem POk.form {t a : Int} : ∀ (n : Nat) (p : XProg), SizeOf.sizeOf p ≤ n → POk t a p → FormP p
  | 0, .mk _ _ _ _, hn, _ => by simp at hn
  | n + 1, .mk k m c ks, hn, h => by
    have h1 : (ks.length : Int) = pkN k := h.len.1
    have h2 : 1 ≤ k ∧ k ≤ 7 := h.kind
    have hk : ∀ x ∈ ks, FormP x := fun x hx => POk.form n x (by have := List.sizeOf_lt_of_mem hx; simp at hn; omega) (h.kid hx)
    unfold pkN at h1
    by_cases h4 : k = 1 ∨ k = 2 ∨ k = 3 ∨ k = 4
    · rw [if_pos h4] at h1
      exact .leaf h4 (List.eq_nil_of_length_eq_zero (by omega))
    rw [if_neg h4] at h1
    by_cases h7 : k = 7
    · rw [if_pos h7] at h1
      obtain ⟨x, rfl⟩ := kids_one (l := ks) (by omega)
      subst h7
      exact .loop (hk x (by simp))
    rw [if_neg h7] at h1
    have h5 : k = 5 ∨ k = 6 := by omega
    rw [if_pos h5] at h1
    obtain ⟨x, y, rfl⟩ := kids_two (l := ks) (by omega)
    exact .two h5 (hk x (by simp)) (hk y (by simp))
theorem POk.conds {t a : Int} {P : XExpr → Prop} (hP : ∀ c, okC t a c → P c) : ∀ (n : Nat) (p : XProg), SizeOf.sizeOf p ≤ n → POk t a p → CondsP P p
  | 0, .mk _ _ _ _, hn, _ => by simp at hn
  | n + 1, .mk k m c ks, hn, h => .mk (fun hk => hP c (h.cond hk)) fun x hx => POk.conds hP n x (by have := List.sizeOf_lt_of_mem hx; simp at hn; omega) (h.kid hx)
end Go.Proofs.YtaajacnceocpoaaGreat
