/- The text of an expression; contract of the reference's function that tells it. Conditions: the expression's shape, the text's size. -/
import Derived.Test.YtkkenofdfpgplaaGreatDoorKAO
namespace Go.Proofs.YtkkenofdfpgplaaGreatDoor
open Go Go.KA Go.Proofs
set_option maxHeartbeats 16000000
set_option maxRecDepth 100000
abbrev b1 (x : UInt8) : ByteArray := ⟨#[x]⟩
def txtK (k n : Int) (l : List ByteArray) : ByteArray :=
  if k = 1 then b1 48 else if k = 2 then b1 49 else if k = 3 then b1 116 ++ decB n.toNat else if k = 4 then b1 97 ++ decB n.toNat
  else if k = 5 then b1 126 ++ l.getD 0 .empty else if k = 8 then l.getD 0 .empty ++ b1 42
  else if k = 6 then b1 40 ++ l.getD 0 .empty ++ ⟨#[32, 43, 32]⟩ ++ l.getD 1 .empty ++ b1 41
  else b1 40 ++ l.getD 0 .empty ++ b1 32 ++ l.getD 1 .empty ++ b1 41
mutual
def txtE : XExpr → ByteArray
  | .mk k n kids => txtK k n (txtS kids)
def txtS : List XExpr → List ByteArray
  | [] => []
  | x :: xs => txtE x :: txtS xs
end
mutual
def shpE : XExpr → Bool
  | .mk k n kids => (rng 1 8 k && decide ((kids.length : Int) = kidsN k)) && ((!(decide (k = 3) || decide (k = 4)) || rng 0 99 n) && shpS kids)
def shpS : List XExpr → Bool
  | [] => true
  | x :: xs => shpE x && shpS xs
end
theorem shpS_all : ∀ l : List XExpr, shpS l = l.all shpE
  | [] => rfl
  | x :: xs => by simp only [shpS, List.all_cons, shpS_all xs]
theorem shpE_eq (e : XExpr) : shpE e = ((rng 1 8 e.kind && decide ((e.kids.length : Int) = kidsN e.kind)) && ((!(decide (e.kind = 3) || decide (e.kind = 4)) || rng 0 99 e.num) && e.kids.all shpE)) := by
  cases e
  simp only [shpE, shpS_all]
  rfl
inductive Shp : Int → Int → List XExpr → Prop
  | zero {k n} (hk : k = 1) : Shp k n []
  | one {k n} (hk : k = 2) : Shp k n []
  | test {k} {n : Nat} (hk : k = 3) (hn : n < 100) : Shp k n []
  | act {k} {n : Nat} (hk : k = 4) (hn : n < 100) : Shp k n []
  | not {k n x} (hk : k = 5) (h1 : shpE x = true) : Shp k n [x]
  | sum {k n x y} (hk : k = 6) (h1 : shpE x = true) (h2 : shpE y = true) : Shp k n [x, y]
  | dot {k n x y} (hk : k = 7) (h1 : shpE x = true) (h2 : shpE y = true) : Shp k n [x, y]
  | star {k n x} (hk : k = 8) (h1 : shpE x = true) : Shp k n [x]
theorem shp_of {k n : Int} {ks : List XExpr} (h : shpE (.mk k n ks) = true) : Shp k n ks := by
  rw [shpE_eq] at h
  simp only [XExpr.kind, XExpr.num, XExpr.kids, Bool.and_eq_true, rng, Bool.or_eq_true, Bool.not_eq_true', Bool.or_eq_false_iff, decide_eq_false_iff_not, List.all_eq_true] at h
  obtain ⟨⟨⟨h0, h1⟩, h2⟩, h3, h4⟩ := h
  have h0 := of_decide_eq_true h0
  have h1 := of_decide_eq_true h1
  have h2 := of_decide_eq_true h2
  have h3 : (k ≠ 3 ∧ k ≠ 4) ∨ (0 ≤ n ∧ n ≤ 99) := by
    rcases h3 with h3 | h3
    · exact .inl ⟨of_decide_eq_false h3.1, of_decide_eq_false h3.2⟩
    · exact .inr ⟨of_decide_eq_true h3.1, of_decide_eq_true h3.2⟩
  have hk : k = 1 ∨ k = 2 ∨ k = 3 ∨ k = 4 ∨ k = 5 ∨ k = 6 ∨ k = 7 ∨ k = 8 := by omega
  have len0 : (ks.length : Int) = 0 → ks = [] := fun h => List.eq_nil_of_length_eq_zero (by omega)
  have len1 : (ks.length : Int) = 1 → ∃ x, ks = [x] := fun h => by
    match ks, h with
    | [x], _ => exact ⟨x, rfl⟩
    | [], h => simp at h
    | _ :: _ :: _, h => simp at h; omega
  have len2 : (ks.length : Int) = 2 → ∃ x y, ks = [x, y] := fun h => by
    match ks, h with
    | [x, y], _ => exact ⟨x, y, rfl⟩
    | [], h => simp at h
    | [_], h => simp at h
    | _ :: _ :: _ :: _, h => simp at h; omega
  rcases hk with rfl | rfl | rfl | rfl | rfl | rfl | rfl | rfl
  · rw [len0 h2]; exact .zero rfl
  · rw [len0 h2]; exact .one rfl
  · have : n = ((n.toNat : Nat) : Int) := by omega
    rw [len0 h2, this]; exact .test rfl (by omega)
  · have : n = ((n.toNat : Nat) : Int) := by omega
    rw [len0 h2, this]; exact .act rfl (by omega)
  · obtain ⟨x, rfl⟩ := len1 h2
    exact .not rfl (h4 x (by simp))
  · obtain ⟨x, y, rfl⟩ := len2 h2
    exact .sum rfl (h4 x (by simp)) (h4 y (by simp))
  · obtain ⟨x, y, rfl⟩ := len2 h2
    exact .dot rfl (h4 x (by simp)) (h4 y (by simp))
  · obtain ⟨x, rfl⟩ := len1 h2
    exact .star rfl (h4 x (by simp))
theorem txt_size (x : UInt8) : (b1 x).size = 1 := rfl
theorem sZero {k n : Int} (h : k = 1) : txtE (.mk k n []) = b1 48 := by subst h; simp only [txtE, txtS, txtK]; rfl
theorem sOne {k n : Int} (h : k = 2) : txtE (.mk k n []) = b1 49 := by subst h; simp only [txtE, txtS, txtK]; rfl
theorem sNot {k n : Int} {x : XExpr} (h : k = 5) : txtE (.mk k n [x]) = b1 126 ++ txtE x := by subst h; simp only [txtE, txtS, txtK]; rfl
theorem sStar {k n : Int} {x : XExpr} (h : k = 8) : txtE (.mk k n [x]) = txtE x ++ b1 42 := by subst h; simp only [txtE, txtS, txtK]; rfl
theorem sSum {k n : Int} {x y : XExpr} (h : k = 6) : txtE (.mk k n [x, y]) = b1 40 ++ txtE x ++ ⟨#[32, 43, 32]⟩ ++ txtE y ++ b1 41 := by subst h; simp only [txtE, txtS, txtK]; rfl
theorem sDot {k n : Int} {x y : XExpr} (h : k = 7) : txtE (.mk k n [x, y]) = b1 40 ++ txtE x ++ b1 32 ++ txtE y ++ b1 41 := by subst h; simp only [txtE, txtS, txtK]; rfl
theorem sTest {k : Int} {n : Nat} (h : k = 3) : txtE (.mk k n []) = b1 116 ++ decB n := by subst h; simp only [txtE, txtS, txtK]; rfl
theorem sAct {k : Int} {n : Nat} (h : k = 4) : txtE (.mk k n []) = b1 97 ++ decB n := by subst h; simp only [txtE, txtS, txtK]; rfl
section
variable (Y : XExpr → Prop) (hY : ∀ x, Y x → shpE x = true → (txtE x).size ≤ 1000000000 → CallF Tryz.prog 33 [.c (.rp 3 (encExpr x))] (.c (.val (.string (txtE x)))))
include hY
theorem l01Text_all (e : XExpr) (he : ∀ x ∈ e.kids, Y x) (hs : shpE e = true) (hz : (txtE e).size ≤ 1000000000) : CallF Tryz.prog 33 [.c (.rp 3 (toldE e))] (.c (.val (.string (txtE e)))) := by
  obtain ⟨k, n, ks⟩ := e
  have sz3 : (ByteArray.mk #[32, 43, 32]).size = 3 := rfl
  cases shp_of hs
  case zero hk =>
    show CallF Tryz.prog 33 [.c (.rp 3 [J k, J n, .ro 3 []])] _
    rw [sZero hk]
    refine callF_of_vc htb hm Tryz.func33 rfl rfl rfl rfl (ann := fun _ => none) (gh := fun _ => false) ?_
    repeat' ((conv => whnf); first | (guard_target = Done _; refine Done.mk ?_) | (guard_target = RetX _ _; refine RetX.mk ?_ ?_) | (guard_target = Fact _ _; refine Fact.mk fun hL => ?_; (try simp only [List.length_map, maxLen] at hL)) | (guard_target = Branch _ _ _; (first | refine Branch.dec ?_ ?_ | refine Branch.beq ?_ ?_ | refine Branch.bne ?_ ?_ | refine Branch.ndec ?_ ?_ | refine Branch.nb ?_ ?_ | refine Branch.mk ?_ ?_) <;> intro h <;> (try simp only [List.length_map] at h) <;> (try omega) <;> (try contradiction)) | (guard_target = Arith _ _ _; refine Arith.fit (wrap_fit (by first | omega | (simp only [List.length_map]; omega)) (by first | omega | (simp only [List.length_map]; omega))) ?_) | (guard_target = Arith _ _ _; refine Arith.fit (by decide) ?_) | (guard_target = Index _ _ _; first  | refine Index.mk _ (idx_map (by omega)) ?_) | (guard_target = Need (_ = true) _; refine Need.mk (by first | kernel_rfl | rfl) ?_) | (guard_target = LinkV _ _ _; first  | refine LinkV.no ?_) | (guard_target = GhO _ _ _ _; refine GhO.go ?_) | (guard_target = Need _ _; refine Need.mk (by first  | omega | (simp only [List.length_map]; omega)) ?_))
    all_goals first | rfl
  case one hk =>
    show CallF Tryz.prog 33 [.c (.rp 3 [J k, J n, .ro 3 []])] _
    rw [sOne hk]
    refine callF_of_vc htb hm Tryz.func33 rfl rfl rfl rfl (ann := fun _ => none) (gh := fun _ => false) ?_
    repeat' ((conv => whnf); first | (guard_target = Done _; refine Done.mk ?_) | (guard_target = RetX _ _; refine RetX.mk ?_ ?_) | (guard_target = Fact _ _; refine Fact.mk fun hL => ?_; (try simp only [List.length_map, maxLen] at hL)) | (guard_target = Branch _ _ _; (first | refine Branch.dec ?_ ?_ | refine Branch.beq ?_ ?_ | refine Branch.bne ?_ ?_ | refine Branch.ndec ?_ ?_ | refine Branch.nb ?_ ?_ | refine Branch.mk ?_ ?_) <;> intro h <;> (try simp only [List.length_map] at h) <;> (try omega) <;> (try contradiction)) | (guard_target = Arith _ _ _; refine Arith.fit (wrap_fit (by first | omega | (simp only [List.length_map]; omega)) (by first | omega | (simp only [List.length_map]; omega))) ?_) | (guard_target = Arith _ _ _; refine Arith.fit (by decide) ?_) | (guard_target = Index _ _ _; first  | refine Index.mk _ (idx_map (by omega)) ?_) | (guard_target = Need (_ = true) _; refine Need.mk (by first | kernel_rfl | rfl) ?_) | (guard_target = LinkV _ _ _; first  | refine LinkV.no ?_) | (guard_target = GhO _ _ _ _; refine GhO.go ?_) | (guard_target = Need _ _; refine Need.mk (by first  | omega | (simp only [List.length_map]; omega)) ?_))
    all_goals first | rfl
  case test n hk hn =>
    show CallF Tryz.prog 33 [.c (.rp 3 [J k, J n, .ro 3 []])] _
    rw [sTest hk] at hz ⊢
    have h9 := decB_size n
    refine callF_of_vc htb hm Tryz.func33 rfl rfl rfl rfl (ann := fun _ => none) (gh := fun _ => false) ?_
    repeat' ((conv => whnf); first | (guard_target = Done _; refine Done.mk ?_) | (guard_target = RetX _ _; refine RetX.mk ?_ ?_) | (guard_target = Fact _ _; refine Fact.mk fun hL => ?_; (try simp only [List.length_map, maxLen] at hL)) | (guard_target = Branch _ _ _; (first | refine Branch.dec ?_ ?_ | refine Branch.beq ?_ ?_ | refine Branch.bne ?_ ?_ | refine Branch.ndec ?_ ?_ | refine Branch.nb ?_ ?_ | refine Branch.mk ?_ ?_) <;> intro h <;> (try simp only [List.length_map] at h) <;> (try omega) <;> (try contradiction)) | (guard_target = CallN _ 12 _ _ _ _; refine CallN.pure _ _ rfl (Decimal_ok n hn) rfl _ rfl ?_) | (guard_target = Need (ByteArray.size _ + _ ≤ _) _; refine Need.mk (by first | (simp only [ByteArray.size_append, txt_size, sz3]; omega) | (show 1 + _ ≤ _; omega) | (show _ + 1 ≤ _; omega)) ?_) | (guard_target = Arith _ _ _; refine Arith.fit (wrap_fit (by first | omega | (simp only [List.length_map]; omega)) (by first | omega | (simp only [List.length_map]; omega))) ?_) | (guard_target = Arith _ _ _; refine Arith.fit (by decide) ?_) | (guard_target = Index _ _ _; first  | refine Index.mk _ (idx_map (by omega)) ?_) | (guard_target = Need (_ = true) _; refine Need.mk (by first | kernel_rfl | rfl) ?_) | (guard_target = LinkV _ _ _; first  | refine LinkV.no ?_) | (guard_target = GhO _ _ _ _; refine GhO.go ?_) | (guard_target = Need _ _; refine Need.mk (by first  | omega | (simp only [List.length_map]; omega)) ?_))
    all_goals first | rfl
  case act n hk hn =>
    show CallF Tryz.prog 33 [.c (.rp 3 [J k, J n, .ro 3 []])] _
    rw [sAct hk] at hz ⊢
    have h9 := decB_size n
    refine callF_of_vc htb hm Tryz.func33 rfl rfl rfl rfl (ann := fun _ => none) (gh := fun _ => false) ?_
    repeat' ((conv => whnf); first | (guard_target = Done _; refine Done.mk ?_) | (guard_target = RetX _ _; refine RetX.mk ?_ ?_) | (guard_target = Fact _ _; refine Fact.mk fun hL => ?_; (try simp only [List.length_map, maxLen] at hL)) | (guard_target = Branch _ _ _; (first | refine Branch.dec ?_ ?_ | refine Branch.beq ?_ ?_ | refine Branch.bne ?_ ?_ | refine Branch.ndec ?_ ?_ | refine Branch.nb ?_ ?_ | refine Branch.mk ?_ ?_) <;> intro h <;> (try simp only [List.length_map] at h) <;> (try omega) <;> (try contradiction)) | (guard_target = CallN _ 12 _ _ _ _; refine CallN.pure _ _ rfl (Decimal_ok n hn) rfl _ rfl ?_) | (guard_target = Need (ByteArray.size _ + _ ≤ _) _; refine Need.mk (by first | (simp only [ByteArray.size_append, txt_size, sz3]; omega) | (show 1 + _ ≤ _; omega) | (show _ + 1 ≤ _; omega)) ?_) | (guard_target = Arith _ _ _; refine Arith.fit (wrap_fit (by first | omega | (simp only [List.length_map]; omega)) (by first | omega | (simp only [List.length_map]; omega))) ?_) | (guard_target = Arith _ _ _; refine Arith.fit (by decide) ?_) | (guard_target = Index _ _ _; first  | refine Index.mk _ (idx_map (by omega)) ?_) | (guard_target = Need (_ = true) _; refine Need.mk (by first | kernel_rfl | rfl) ?_) | (guard_target = LinkV _ _ _; first  | refine LinkV.no ?_) | (guard_target = GhO _ _ _ _; refine GhO.go ?_) | (guard_target = Need _ _; refine Need.mk (by first  | omega | (simp only [List.length_map]; omega)) ?_))
    all_goals first | rfl
  case not x hk h1 =>
    show CallF Tryz.prog 33 [.c (.rp 3 [J k, J n, .ro 3 [encExpr x]])] _
    rw [sNot hk] at hz ⊢
    simp only [ByteArray.size_append, txt_size, sz3] at hz
    have hc := hY x (he x (by simp [XExpr.kids])) h1 (by omega)
    refine callF_of_vc htb hm Tryz.func33 rfl rfl rfl rfl (ann := fun _ => none) (gh := fun _ => false) ?_
    repeat' ((conv => whnf); first | (guard_target = Done _; refine Done.mk ?_) | (guard_target = RetX _ _; refine RetX.mk ?_ ?_) | (guard_target = Fact _ _; refine Fact.mk fun hL => ?_; (try simp only [List.length_map, maxLen] at hL)) | (guard_target = Branch _ _ _; (first | refine Branch.dec ?_ ?_ | refine Branch.beq ?_ ?_ | refine Branch.bne ?_ ?_ | refine Branch.ndec ?_ ?_ | refine Branch.nb ?_ ?_ | refine Branch.mk ?_ ?_) <;> intro h <;> (try simp only [List.length_map] at h) <;> (try omega) <;> (try contradiction)) | (guard_target = CallN _ 33 _ _ _ _; refine CallN.pure _ _ rfl (hc) rfl _ rfl ?_) | (guard_target = Need (ByteArray.size _ + _ ≤ _) _; refine Need.mk (by first | (simp only [ByteArray.size_append, txt_size, sz3]; omega) | (show 1 + _ ≤ _; omega) | (show _ + 1 ≤ _; omega)) ?_) | (guard_target = Arith _ _ _; refine Arith.fit (wrap_fit (by first | omega | (simp only [List.length_map]; omega)) (by first | omega | (simp only [List.length_map]; omega))) ?_) | (guard_target = Arith _ _ _; refine Arith.fit (by decide) ?_) | (guard_target = Index _ _ _; first | refine Index.mk _ (rfl) ?_ | refine Index.mk _ (idx_map (by omega)) ?_) | (guard_target = Need (_ = true) _; refine Need.mk (by first | kernel_rfl | rfl) ?_) | (guard_target = LinkV _ _ _; first  | refine LinkV.no ?_) | (guard_target = GhO _ _ _ _; refine GhO.go ?_) | (guard_target = Need _ _; refine Need.mk (by first  | omega | (simp only [List.length_map]; omega)) ?_))
    all_goals first | rfl
  case sum x y hk h1 h2 =>
    show CallF Tryz.prog 33 [.c (.rp 3 [J k, J n, .ro 3 [encExpr x, encExpr y]])] _
    rw [sSum hk] at hz ⊢
    simp only [ByteArray.size_append, txt_size, sz3] at hz
    have hc := hY x (he x (by simp [XExpr.kids])) h1 (by omega)
    have hd := hY y (he y (by simp [XExpr.kids])) h2 (by omega)
    refine callF_of_vc htb hm Tryz.func33 rfl rfl rfl rfl (ann := fun _ => none) (gh := fun _ => false) ?_
    repeat' ((conv => whnf); first | (guard_target = Done _; refine Done.mk ?_) | (guard_target = RetX _ _; refine RetX.mk ?_ ?_) | (guard_target = Fact _ _; refine Fact.mk fun hL => ?_; (try simp only [List.length_map, maxLen] at hL)) | (guard_target = Branch _ _ _; (first | refine Branch.dec ?_ ?_ | refine Branch.beq ?_ ?_ | refine Branch.bne ?_ ?_ | refine Branch.ndec ?_ ?_ | refine Branch.nb ?_ ?_ | refine Branch.mk ?_ ?_) <;> intro h <;> (try simp only [List.length_map] at h) <;> (try omega) <;> (try contradiction)) | (guard_target = CallN _ 33 _ _ _ _; refine CallN.pure _ _ rfl (hc) rfl _ rfl ?_) | (guard_target = CallN _ 33 _ _ _ _; refine CallN.pure _ _ rfl (hd) rfl _ rfl ?_) | (guard_target = Need (ByteArray.size _ + _ ≤ _) _; refine Need.mk (by first | (simp only [ByteArray.size_append, txt_size, sz3]; omega) | (show 1 + _ ≤ _; omega) | (show _ + 1 ≤ _; omega)) ?_) | (guard_target = Arith _ _ _; refine Arith.fit (wrap_fit (by first | omega | (simp only [List.length_map]; omega)) (by first | omega | (simp only [List.length_map]; omega))) ?_) | (guard_target = Arith _ _ _; refine Arith.fit (by decide) ?_) | (guard_target = Index _ _ _; first | refine Index.mk _ (rfl) ?_ | refine Index.mk _ (idx_map (by omega)) ?_) | (guard_target = Need (_ = true) _; refine Need.mk (by first | kernel_rfl | rfl) ?_) | (guard_target = LinkV _ _ _; first  | refine LinkV.no ?_) | (guard_target = GhO _ _ _ _; refine GhO.go ?_) | (guard_target = Need _ _; refine Need.mk (by first  | omega | (simp only [List.length_map]; omega)) ?_))
    all_goals first | rfl
  case dot x y hk h1 h2 =>
    show CallF Tryz.prog 33 [.c (.rp 3 [J k, J n, .ro 3 [encExpr x, encExpr y]])] _
    rw [sDot hk] at hz ⊢
    simp only [ByteArray.size_append, txt_size, sz3] at hz
    have hc := hY x (he x (by simp [XExpr.kids])) h1 (by omega)
    have hd := hY y (he y (by simp [XExpr.kids])) h2 (by omega)
    refine callF_of_vc htb hm Tryz.func33 rfl rfl rfl rfl (ann := fun _ => none) (gh := fun _ => false) ?_
    repeat' ((conv => whnf); first | (guard_target = Done _; refine Done.mk ?_) | (guard_target = RetX _ _; refine RetX.mk ?_ ?_) | (guard_target = Fact _ _; refine Fact.mk fun hL => ?_; (try simp only [List.length_map, maxLen] at hL)) | (guard_target = Branch _ _ _; (first | refine Branch.dec ?_ ?_ | refine Branch.beq ?_ ?_ | refine Branch.bne ?_ ?_ | refine Branch.ndec ?_ ?_ | refine Branch.nb ?_ ?_ | refine Branch.mk ?_ ?_) <;> intro h <;> (try simp only [List.length_map] at h) <;> (try omega) <;> (try contradiction)) | (guard_target = CallN _ 33 _ _ _ _; refine CallN.pure _ _ rfl (hc) rfl _ rfl ?_) | (guard_target = CallN _ 33 _ _ _ _; refine CallN.pure _ _ rfl (hd) rfl _ rfl ?_) | (guard_target = Need (ByteArray.size _ + _ ≤ _) _; refine Need.mk (by first | (simp only [ByteArray.size_append, txt_size, sz3]; omega) | (show 1 + _ ≤ _; omega) | (show _ + 1 ≤ _; omega)) ?_) | (guard_target = Arith _ _ _; refine Arith.fit (wrap_fit (by first | omega | (simp only [List.length_map]; omega)) (by first | omega | (simp only [List.length_map]; omega))) ?_) | (guard_target = Arith _ _ _; refine Arith.fit (by decide) ?_) | (guard_target = Index _ _ _; first | refine Index.mk _ (rfl) ?_ | refine Index.mk _ (idx_map (by omega)) ?_) | (guard_target = Need (_ = true) _; refine Need.mk (by first | kernel_rfl | rfl) ?_) | (guard_target = LinkV _ _ _; first  | refine LinkV.no ?_) | (guard_target = GhO _ _ _ _; refine GhO.go ?_) | (guard_target = Need _ _; refine Need.mk (by first  | omega | (simp only [List.length_map]; omega)) ?_))
    all_goals first | rfl
  case star x hk h1 =>
    show CallF Tryz.prog 33 [.c (.rp 3 [J k, J n, .ro 3 [encExpr x]])] _
    rw [sStar hk] at hz ⊢
    simp only [ByteArray.size_append, txt_size, sz3] at hz
    have hc := hY x (he x (by simp [XExpr.kids])) h1 (by omega)
    refine callF_of_vc htb hm Tryz.func33 rfl rfl rfl rfl (ann := fun _ => none) (gh := fun _ => false) ?_
    repeat' ((conv => whnf); first | (guard_target = Done _; refine Done.mk ?_) | (guard_target = RetX _ _; refine RetX.mk ?_ ?_) | (guard_target = Fact _ _; refine Fact.mk fun hL => ?_; (try simp only [List.length_map, maxLen] at hL)) | (guard_target = Branch _ _ _; (first | refine Branch.dec ?_ ?_ | refine Branch.beq ?_ ?_ | refine Branch.bne ?_ ?_ | refine Branch.ndec ?_ ?_ | refine Branch.nb ?_ ?_ | refine Branch.mk ?_ ?_) <;> intro h <;> (try simp only [List.length_map] at h) <;> (try omega) <;> (try contradiction)) | (guard_target = CallN _ 33 _ _ _ _; refine CallN.pure _ _ rfl (hc) rfl _ rfl ?_) | (guard_target = Need (ByteArray.size _ + _ ≤ _) _; refine Need.mk (by first | (simp only [ByteArray.size_append, txt_size, sz3]; omega) | (show 1 + _ ≤ _; omega) | (show _ + 1 ≤ _; omega)) ?_) | (guard_target = Arith _ _ _; refine Arith.fit (wrap_fit (by first | omega | (simp only [List.length_map]; omega)) (by first | omega | (simp only [List.length_map]; omega))) ?_) | (guard_target = Arith _ _ _; refine Arith.fit (by decide) ?_) | (guard_target = Index _ _ _; first | refine Index.mk _ (rfl) ?_ | refine Index.mk _ (idx_map (by omega)) ?_) | (guard_target = Need (_ = true) _; refine Need.mk (by first | kernel_rfl | rfl) ?_) | (guard_target = LinkV _ _ _; first  | refine LinkV.no ?_) | (guard_target = GhO _ _ _ _; refine GhO.go ?_) | (guard_target = Need _ _; refine Need.mk (by first  | omega | (simp only [List.length_map]; omega)) ?_))
    all_goals first | rfl
end
theorem l01Text_ok (e : XExpr) (hs : shpE e = true) (hz : (txtE e).size ≤ 1000000000) : CallF Tryz.prog 33 [.c (.rp 3 (encExpr e))] (.c (.val (.string (txtE e)))) := by
  rw [encExpr_eq]
  refine l01Text_all (fun x => x ∈ e.kids) (fun x hx h1 h2 => l01Text_ok x h1 h2) e (fun _ h => h) hs hz
  termination_by SizeOf.sizeOf e
  decreasing_by
    have := List.sizeOf_lt_of_mem hx
    cases e
    simp only [XExpr.mk.sizeOf_spec]
    simp only [XExpr.kids] at this
    omega
end Go.Proofs.YtkkenofdfpgplaaGreatDoor
