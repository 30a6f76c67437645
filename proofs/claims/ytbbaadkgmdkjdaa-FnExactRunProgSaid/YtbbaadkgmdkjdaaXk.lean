/- The law of RunFlow answers true, for all arguments. No conditions. -/
import Derived.Test.YtbbaadkgmdkjdaaXj
import Derived.Test.YtbbaadkgmdkjdaaSz
import Derived.Test.YtbbaadkgmdkjdaaTo
import Derived.Test.YtbbaadkgmdkjdaaEq
import Derived.Test.YtbbaadkgmdkjdaaMk
namespace Go.Proofs.Ytbbaadkgmdkjdaa
open Go Go.KA Go.Proofs
set_option maxHeartbeats 16000000
set_option maxRecDepth 100000
abbrev resT (s : Int) (ta tc : List Int) (n c : Int) : SV := .tup [I s, .a 2 [.ows 2 1 (ta.map eI), .ows 2 1 (tc.map eI)], I n, I c]
mutual
theorem mke_le : ∀ e : XExpr, mkeExpr e ≤ 2 + 2 * budExpr e
  | .mk k n kids => by
    have := mkeS_le kids
    simp only [mkeExpr, budExpr]
    omega
theorem mkeS_le : ∀ l : List XExpr, mkeExprS l ≤ 2 * budExprS l
  | [] => Nat.le_refl _
  | x :: xs => by
    have h1 := mke_le x
    have h2 := mkeS_le xs
    simp only [mkeExprS, budExprS]
    omega
end
theorem bsum_mono {α : Type} {f g : α → Nat} : ∀ {l : List α}, (∀ x ∈ l, f x ≤ g x) → bsum f l ≤ bsum g l
  | [], _ => Nat.le_refl _
  | x :: xs, h => by
    have h1 := h x (by simp)
    have h2 := bsum_mono (f := f) (g := g) (l := xs) fun y hy => h y (by simp [hy])
    simp only [bsum]
    omega
theorem bsum_lin {α : Type} {f : α → Nat} {c d : Nat} : ∀ {l : List α}, bsum (fun x => c + d * f x) l = c * l.length + d * bsum f l
  | [] => by simp [bsum]
  | x :: xs => by
    simp only [bsum, List.length_cons, bsum_lin (l := xs), Nat.mul_add]
    omega
theorem mkeSpot_le (s : XSpot) : mkeSpot s ≤ 6 + 2 * budSpot s := by
  have := mke_le s.cond
  rw [mkeExpr_eq] at this
  unfold mkeSpot budSpot
  omega
theorem markF_le (f : XFlow) (h : budFlow f ≤ 1048576) : bsum mkeSpot f.spots ≤ 10000000 := by
  have h1 := bsum_mono (l := f.spots) fun x _ => mkeSpot_le x
  rw [bsum_lin] at h1
  simp only [budFlow, budS] at h
  omega
theorem bsum_one {α : Type} : ∀ l : List α, bsum one l = l.length
  | [] => rfl
  | x :: xs => by simp only [bsum, one, List.length_cons]; rw [bsum_one xs]; omega
theorem markW_le (w : XWorld) (h : budWorld w ≤ 1048576) : bsum one w.atoms + bsum (bsum one) w.acts ≤ 10000000 := by
  have h1 := bsum_mono (l := w.acts) (f := bsum one) (g := List.length) fun x _ => Nat.le_of_eq (bsum_one x)
  simp only [budWorld, budS] at h
  rw [bsum_one]
  omega
theorem pureLL_ints : ∀ l : List Int, pureLL (l.map eI)
  | [] => trivial
  | x :: xs => ⟨⟨trivial, trivial⟩, pureLL_ints xs⟩
theorem pure_res (s : Int) (ta tc : List Int) (n c : Int) : pureT (resT s ta tc n c) := by
  simp [pureT, pureV, pureC, pureL, pureLL_ints]
theorem lawFlow (x : XSig) (w : XWorld) (f : XFlow) (state fuel : Int) (s : Int) (ta tc : List Int) (n c : Int) (hw : budWorld w ≤ 1048576) (hf : budFlow f ≤ 1048576 - budWorld w) (hta : ta.length ≤ 1000000) (htc : tc.length ≤ 1000000)
    (hs : CallX Try.prog 14 [.a 2 (encSig x), .a 2 (encWorld w), .a 2 (encFlow f), I state, I fuel] [] (resT s ta tc n c))
    (hi : CallX Try.prog 17 [.a 2 (encSig x), .a 2 (encWorld w), .a 2 (encFlow f), I state, I fuel] [] (resT s ta tc n c)) :
    CallF Try.prog 4 [.a 2 (encSig x), .a 2 (encWorld w), .a 2 (encFlow f), I state, I fuel] (B true) := by
  have hz1 := szWorld_ok w 1048576 (by omega)
  rw [szr_eq hw] at hz1
  have hz2 := szFlow_ok f (1048576 - budWorld w) (by omega)
  rw [szr_eq hf] at hz2
  have hs' : CallX Try.prog 14 [.a 2 (encSig x), .a 2 (roL (ownWorld w)), .a 2 (roL (ownFlow f)), I state, I fuel] [] (resT s ta tc n c) := by rw [roWorld, roFlow]; exact hs
  have hi' : CallX Try.prog 17 [.a 2 (encSig x), .a 2 (roL (ownWorld w)), .a 2 (roL (ownFlow f)), I state, I fuel] [] (resT s ta tc n c) := by rw [roWorld, roFlow]; exact hi
  have hew : CallF Try.prog 19 [.a 2 (roL (ownWorld w)), .a 2 (roL (ownWorld w))] (B true) := by rw [roWorld]; have := eqWorld_ok w w; rwa [eqv_self] at this
  have hef : CallF Try.prog 20 [.a 2 (roL (ownFlow f)), .a 2 (roL (ownFlow f))] (B true) := by rw [roFlow]; have := eqFlow_ok f f; rwa [eqv_self] at this
  have her : CallF Try.prog 18 [.a 2 [.ro 1 (ta.map eI), .ro 1 (tc.map eI)], .a 2 [.ro 1 (ta.map eI), .ro 1 (tc.map eI)]] (B true) := by have := eqWord_ok ⟨ta, tc⟩ ⟨ta, tc⟩; rwa [eqv_self] at this
  have hmw := markW_le w hw
  have hp := pure_res s ta tc n c
  have hmf := markF_le f (by omega)
  refine callF_of_vc htb hm Try.func4 rfl rfl rfl rfl (ann := fun _ => none) (gh := fun _ => false) ?_
  repeat' ((conv => whnf); first
    | (guard_target = Done _; refine Done.mk ?_; first | (rfl; done) | skip)
    | (guard_target = RetX _ _; refine RetX.mk ?_ ?_)
    | (guard_target = Fact _ _; refine Fact.mk fun hL => ?_; (try simp only [List.length_map, maxLen] at hL))
    | (guard_target = Branch _ _ _; (first | refine Branch.dec (fun h => ?_) (fun h => ?_) | refine Branch.beq (fun h => ?_) (fun h => ?_) | refine Branch.bne (fun h => ?_) (fun h => ?_) | refine Branch.ndec (fun h => ?_) (fun h => ?_) | refine Branch.nb (fun h => ?_) (fun h => ?_) | refine Branch.mk (fun h => ?_) (fun h => ?_)) <;> (try simp only [List.length_map] at h) <;> (try omega) <;> (try contradiction))
    | (guard_target = CallN _ 12 _ _ _ _; refine CallN.pure _ _ rfl (hz1) rfl _ rfl ?_)
    | (guard_target = CallN _ 13 _ _ _ _; refine CallN.pure _ _ rfl (hz2) rfl _ rfl ?_)
    | (guard_target = CallN _ 7 _ _ _ _; refine CallN.gen [] _ _ _ rfl (toSig_ok x (by simp [budSig])) rfl rfl _ rfl ?_)
    | (guard_target = CallN _ 15 _ _ _ _; refine CallN.gen [] _ _ _ rfl (toWorld_ok w hw) rfl rfl _ rfl ?_)
    | (guard_target = CallN _ 16 _ _ _ _; refine CallN.gen [] _ _ _ rfl (toFlow_ok f (by omega)) rfl rfl _ rfl ?_)
    | (guard_target = CallN _ 18 _ _ _ _; refine CallN.pure _ _ rfl (her) rfl _ rfl ?_)
    | (guard_target = CallN _ 19 _ _ _ _; refine CallN.pure _ _ rfl (hew) rfl _ rfl ?_)
    | (guard_target = CallN _ 20 _ _ _ _; refine CallN.pure _ _ rfl (hef) rfl _ rfl ?_)
    | (guard_target = CallN _ 21 _ _ _ _; refine CallN.gen [true, false] _ _ _ rfl (markWorld_ok w 1 (by omega) (by omega)) rfl rfl _ rfl ?_)
    | (guard_target = CallN _ 22 _ _ _ _; refine CallN.gen [true, false] _ _ _ rfl (markFlow_ok f _ (by omega) (by omega)) rfl rfl _ rfl ?_)
    | (guard_target = CallN _ 23 _ _ _ _; refine CallN.gen [true, false] _ _ _ rfl (markWord_told ta tc 1 (by omega) (by omega) (by omega)) rfl rfl _ rfl ?_)
    | (guard_target = CallN _ 24 _ _ _ _; refine CallN.pure _ _ rfl (heldWord_told ta.length tc.length 1 (by omega) (by omega) (by omega)) rfl _ rfl ?_)
    | (guard_target = CallN _ 14 _ _ _ _; refine CallN.own _ _ rfl hs' hp _ rfl ?_)
    | (guard_target = CallN _ 17 _ _ _ _; refine CallN.own _ _ rfl hi' hp _ rfl ?_)
    | (guard_target = Arith _ _ _; refine Arith.fit (wrap_fit (by first | omega | (simp only [List.length_map]; omega)) (by first | omega | (simp only [List.length_map]; omega))) ?_)
    | (guard_target = Arith _ _ _; refine Arith.fit (by decide) ?_)
    | (guard_target = Index _ _ _; first  | refine Index.mk _ (idx_map (by omega)) ?_)
    | (guard_target = Need (chkDraw _ = true) _; refine Need.mk (by kernel_rfl) ?_)
    | (guard_target = Need (chkRecs _ _ = true) _; refine Need.mk (by first | kernel_rfl | rfl) ?_)
    | (guard_target = Need _ _; refine Need.mk (by first  | omega | (simp only [List.length_map]; omega)) ?_))
  all_goals (try (conv => whnf))
end Go.Proofs.Ytbbaadkgmdkjdaa
