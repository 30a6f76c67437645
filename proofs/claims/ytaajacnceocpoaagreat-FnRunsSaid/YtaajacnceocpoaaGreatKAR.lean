/- The text of an expression; contract of the reference's function that tells it. Conditions: the expression's shape, the text's size. -/
import Derived.Test.YtaajacnceocpoaaGreatKAQ
namespace Go.Proofs.YtaajacnceocpoaaGreat
open Go Go.KA Go.Proofs
set_option maxHeartbeats 16000000
set_option maxRecDepth 100000
abbrev b1 (x : UInt8) : ByteArray := ⟨#[x]⟩
def txtK (k n : Int) (l : List ByteArray) : ByteArray :=
  if k = 1 then b1 48 else if k = 2 then b1 49 else if k = 3 then b1 116 ++ decB n.toNat else if k = 4 then b1 97 ++ decB n.toNat
  else if k = 5 then b1 126 ++ l.getD 0 .empty else if k = 8 then l.getD 0 .empty ++ b1 42
  else if k = 6 then b1 40 ++ l.getD 0 .empty ++ ⟨#[32, 43, 32]⟩ ++ l.getD 1 .empty ++ b1 41
  else b1 40 ++ l.getD 0 .empty ++ b1 32 ++ l.getD 1 .empty ++ b1 41
mutual
def txtE : XExpr → ByteArray
  | .mk k n kids => txtK k n (txtS kids)
def txtS : List XExpr → List ByteArray
  | [] => []
  | x :: xs => txtE x :: txtS xs
end
mutual
def shpE : XExpr → Bool
  | .mk k n kids => (rng 1 8 k && decide ((kids.length : Int) = kidsN k)) && ((!(decide (k = 3) || decide (k = 4)) || rng 0 99 n) && shpS kids)
def shpS : List XExpr → Bool
  | [] => true
  | x :: xs => shpE x && shpS xs
end
theorem shpS_all : ∀ l : List XExpr, shpS l = l.all shpE
  | [] => rfl
  | x :: xs => by simp only [shpS, List.all_cons, shpS_all xs]
theorem shpE_eq (e : XExpr) : shpE e = ((rng 1 8 e.kind && decide ((e.kids.length : Int) = kidsN e.kind)) && ((!(decide (e.kind = 3) || decide (e.kind = 4)) || rng 0 99 e.num) && e.kids.all shpE)) := by
  cases e
  simp only [shpE, shpS_all]
  rfl
inductive Shp : Int → Int → List XExpr → Prop
  | zero {k n} (hk : k = 1) : Shp k n []
  | one {k n} (hk : k = 2) : Shp k n []
  | test {k} {n : Nat} (hk : k = 3) (hn : n < 100) : Shp k n []
  | act {k} {n : Nat} (hk : k = 4) (hn : n < 100) : Shp k n []
  | not {k n x} (hk : k = 5) (h1 : shpE x = true) : Shp k n [x]
  | sum {k n x y} (hk : k = 6) (h1 : shpE x = true) (h2 : shpE y = true) : Shp k n [x, y]
  | dot {k n x y} (hk : k = 7) (h1 : shpE x = true) (h2 : shpE y = true) : Shp k n [x, y]
  | star {k n x} (hk : k = 8) (h1 : shpE x = true) : Shp k n [x]
theorem shp_of {k n : Int} {ks : List XExpr} (h : shpE (.mk k n ks) = true) : Shp k n ks := by
  rw [shpE_eq] at h
  simp only [XExpr.kind, XExpr.num, XExpr.kids, Bool.and_eq_true, rng, Bool.or_eq_true, Bool.not_eq_true', Bool.or_eq_false_iff, decide_eq_false_iff_not, List.all_eq_true] at h
  obtain ⟨⟨⟨h0, h1⟩, h2⟩, h3, h4⟩ := h
  have h0 := of_decide_eq_true h0
  have h1 := of_decide_eq_true h1
  have h2 := of_decide_eq_true h2
  have h3 : (k ≠ 3 ∧ k ≠ 4) ∨ (0 ≤ n ∧ n ≤ 99) := by
    rcases h3 with h3 | h3
    · exact .inl ⟨of_decide_eq_false h3.1, of_decide_eq_false h3.2⟩
    · exact .inr ⟨of_decide_eq_true h3.1, of_decide_eq_true h3.2⟩
  have hk : k = 1 ∨ k = 2 ∨ k = 3 ∨ k = 4 ∨ k = 5 ∨ k = 6 ∨ k = 7 ∨ k = 8 := by omega
  have len0 : (ks.length : Int) = 0 → ks = [] := fun h => List.eq_nil_of_length_eq_zero (by omega)
  have len1 : (ks.length : Int) = 1 → ∃ x, ks = [x] := fun h => by
    match ks, h with
    | [x], _ => exact ⟨x, rfl⟩
    | [], h => simp at h
    | _ :: _ :: _, h => simp at h; omega
  have len2 : (ks.length : Int) = 2 → ∃ x y, ks = [x, y] := fun h => by
    match ks, h with
    | [x, y], _ => exact ⟨x, y, rfl⟩
    | [], h => simp at h
    | [_], h => simp at h
    | _ :: _ :: _ :: _, h => simp at h; omega
  rcases hk with rfl | rfl | rfl | rfl | rfl | rfl | rfl | rfl
  · rw [len0 h2]; exact .zero rfl
  · rw [len0 h2]; exact .one rfl
  · have : n = ((n.toNat : Nat) : Int) := by omega
    rw [len0 h2, this]; exact .test rfl (by omega)
  · have : n = ((n.toNat : Nat) : Int) := by omega
    rw [len0 h2, this]; exact .act rfl (by omega)
  · obtain ⟨x, rfl⟩ := len1 h2
    exact .not rfl (h4 x (by simp))
  · obtain ⟨x, y, rfl⟩ := len2 h2
    exact .sum rfl (h4 x (by simp)) (h4 y (by simp))
  · obtain ⟨x, y, rfl⟩ := len2 h2
    exact .dot rfl (h4 x (by simp)) (h4 y (by simp))
  · obtain ⟨x, rfl⟩ := len1 h2
    exact .star rfl (h4 x (by simp))
theorem txt_size (x : UInt8) : (b1 x).size = 1 := rfl
theorem sZero {k n : Int} (h : k = 1) : txtE (.mk k n []) = b1 48 := by subst h; simp only [txtE, txtS, txtK]; rfl
theorem sOne {k n : Int} (h : k = 2) : txtE (.mk k n []) = b1 49 := by subst h; simp only [txtE, txtS, txtK]; rfl
theorem sNot {k n : Int} {x : XExpr} (h : k = 5) : txtE (.mk k n [x]) = b1 126 ++ txtE x := by subst h; simp only [txtE, txtS, txtK]; rfl
theorem sStar {k n : Int} {x : XExpr} (h : k = 8) : txtE (.mk k n [x]) = txtE x ++ b1 42 := by subst h; simp only [txtE, txtS, txtK]; rfl
theorem sSum {k n : Int} {x y : XExpr} (h : k = 6) : txtE (.mk k n [x, y]) = b1 40 ++ txtE x ++ ⟨#[32, 43, 32]⟩ ++ txtE y ++ b1 41 := by subst h; simp only [txtE, txtS, txtK]; rfl
theorem sDot {k n : Int} {x y : XExpr} (h : k = 7) : txtE (.mk k n [x, y]) = b1 40 ++ txtE x ++ b1 32 ++ txtE y ++ b1 41 := by subst h; simp only [txtE, txtS, txtK]; rfl
theorem sTest {k : Int} {n : Nat} (h : k = 3) : txtE (.mk k n []) = b1 116 ++ decB n := by subst h; simp only [txtE, txtS, txtK]; rfl
theorem sAct {k : Int} {n : Nat} (h : k = 4) : txtE (.mk k n []) = b1 97 ++ decB n := by subst h; simp only [txtE, txtS, txtK]; rfl
section
variable (Y : XExpr → Prop) (hY : ∀ x, Y x → shpE x = true → (txtE x).size ≤ 1000000000 → CallF Tryz.prog 203 [.c (.rp 3 (encExpr x))] (.c (.val (.string (txtE x)))))
include hY
theorem l01Text_all (e : XExpr) (he : ∀ x ∈ e.kids, Y x) (hs : shpE e = true) (hz : (txtE e).size ≤ 1000000000) : CallF Tryz.prog 203 [.c (.rp 3 (toldE e))] (.c (.val (.string (txtE e)))) := by
  obtain ⟨k, n, ks⟩ := e
  have sz3 : (ByteArray.mk #[32, 43, 32]).size = 3 := rfl
  cases shp_of hs
  case zero hk =>
    show CallF Tryz.prog 203 [.c (.rp 3 [J k, J n, .ro 3 []])] _
    rw [sZero hk]
    refine callF_of_vc htb hm Tryz.func203 rfl rfl rfl rfl (ann := fun _ => none) (gh := fun _ => false) ?_
    repeat' ((conv => whnf); first | (guard_target = Done _; refine Done.mk ?_) | (guard_target = Branch _ _ _; (first | apply Branch.dec | apply Branch.beq | apply Branch.bne | apply Branch.ndec | apply Branch.nb | apply Branch.mk) <;> intro h <;> (try simp only [List.length_map] at h) <;> (try omega) <;> (try contradiction)) | (guard_target = Arith _ _ _; refine Arith.fit (by apply wrap_fit <;> first | omega | (simp only [List.length_map]; omega)) ?_) | (guard_target = Arith _ _ _; refine Arith.fit (by decide) ?_) | (guard_target = Index _ _ _; first  | refine Index.mk _ (idx_map (by omega)) ?_) | (guard_target = Need (_ = true) _; refine Need.mk (by first | kernel_rfl | rfl) ?_) | (guard_target = LinkV _ _ _; refine LinkV.no ?_) | (guard_target = GhO _ _ _ _; refine GhO.go ?_) | (guard_target = Need _ _; refine Need.mk (by first  | omega | (simp only [List.length_map]; omega)) ?_))
    all_goals first | rfl
  case one hk =>
    show CallF Tryz.prog 203 [.c (.rp 3 [J k, J n, .ro 3 []])] _
    rw [sOne hk]
    refine callF_of_vc htb hm Tryz.func203 rfl rfl rfl rfl (ann := fun _ => none) (gh := fun _ => false) ?_
    repeat' ((conv => whnf); first | (guard_target = Done _; refine Done.mk ?_) | (guard_target = Branch _ _ _; (first | apply Branch.dec | apply Branch.beq | apply Branch.bne | apply Branch.ndec | apply Branch.nb | apply Branch.mk) <;> intro h <;> (try simp only [List.length_map] at h) <;> (try omega) <;> (try contradiction)) | (guard_target = Arith _ _ _; refine Arith.fit (by apply wrap_fit <;> first | omega | (simp only [List.length_map]; omega)) ?_) | (guard_target = Arith _ _ _; refine Arith.fit (by decide) ?_) | (guard_target = Index _ _ _; first  | refine Index.mk _ (idx_map (by omega)) ?_) | (guard_target = Need (_ = true) _; refine Need.mk (by first | kernel_rfl | rfl) ?_) | (guard_target = LinkV _ _ _; refine LinkV.no ?_) | (guard_target = GhO _ _ _ _; refine GhO.go ?_) | (guard_target = Need _ _; refine Need.mk (by first  | omega | (simp only [List.length_map]; omega)) ?_))
    all_goals first | rfl
  case test n hk hn =>
    show CallF Tryz.prog 203 [.c (.rp 3 [J k, J n, .ro 3 []])] _
    rw [sTest hk] at hz ⊢
    have h9 := decB_size n
    refine callF_of_vc htb hm Tryz.func203 rfl rfl rfl rfl (ann := fun _ => none) (gh := fun _ => false) ?_
    repeat' ((conv => whnf); first | (guard_target = Done _; refine Done.mk ?_) | (guard_target = Branch _ _ _; (first | apply Branch.dec | apply Branch.beq | apply Branch.bne | apply Branch.ndec | apply Branch.nb | apply Branch.mk) <;> intro h <;> (try simp only [List.length_map] at h) <;> (try omega) <;> (try contradiction)) | (guard_target = CallN _ 204 _ _ _ _; refine CallN.pure _ _ rfl (Decimal_ok n hn) rfl _ rfl ?_) | (guard_target = Need (ByteArray.size _ + _ ≤ _) _; refine Need.mk (by first | (simp only [ByteArray.size_append, txt_size, sz3]; omega) | (show 1 + _ ≤ _; omega) | (show _ + 1 ≤ _; omega)) ?_) | (guard_target = Arith _ _ _; refine Arith.fit (by apply wrap_fit <;> first | omega | (simp only [List.length_map]; omega)) ?_) | (guard_target = Arith _ _ _; refine Arith.fit (by decide) ?_) | (guard_target = Index _ _ _; first  | refine Index.mk _ (idx_map (by omega)) ?_) | (guard_target = Need (_ = true) _; refine Need.mk (by first | kernel_rfl | rfl) ?_) | (guard_target = LinkV _ _ _; refine LinkV.no ?_) | (guard_target = GhO _ _ _ _; refine GhO.go ?_) | (guard_target = Need _ _; refine Need.mk (by first  | omega | (simp only [List.length_map]; omega)) ?_))
    all_goals first | rfl
  case act n hk hn =>
    show CallF Tryz.prog 203 [.c (.rp 3 [J k, J n, .ro 3 []])] _
    rw [sAct hk] at hz ⊢
    have h9 := decB_size n
    refine callF_of_vc htb hm Tryz.func203 rfl rfl rfl rfl (ann := fun _ => none) (gh := fun _ => false) ?_
    repeat' ((conv => whnf); first | (guard_target = Done _; refine Done.mk ?_) | (guard_target = Branch _ _ _; (first | apply Branch.dec | apply Branch.beq | apply Branch.bne | apply Branch.ndec | apply Branch.nb | apply Branch.mk) <;> intro h <;> (try simp only [List.length_map] at h) <;> (try omega) <;> (try contradiction)) | (guard_target = CallN _ 204 _ _ _ _; refine CallN.pure _ _ rfl (Decimal_ok n hn) rfl _ rfl ?_) | (guard_target = Need (ByteArray.size _ + _ ≤ _) _; refine Need.mk (by first | (simp only [ByteArray.size_append, txt_size, sz3]; omega) | (show 1 + _ ≤ _; omega) | (show _ + 1 ≤ _; omega)) ?_) | (guard_target = Arith _ _ _; refine Arith.fit (by apply wrap_fit <;> first | omega | (simp only [List.length_map]; omega)) ?_) | (guard_target = Arith _ _ _; refine Arith.fit (by decide) ?_) | (guard_target = Index _ _ _; first  | refine Index.mk _ (idx_map (by omega)) ?_) | (guard_target = Need (_ = true) _; refine Need.mk (by first | kernel_rfl | rfl) ?_) | (guard_target = LinkV _ _ _; refine LinkV.no ?_) | (guard_target = GhO _ _ _ _; refine GhO.go ?_) | (guard_target = Need _ _; refine Need.mk (by first  | omega | (simp only [List.length_map]; omega)) ?_))
    all_goals first | rfl
  case not x hk h1 =>
    show CallF Tryz.prog 203 [.c (.rp 3 [J k, J n, .ro 3 [encExpr x]])] _
    rw [sNot hk] at hz ⊢
    simp only [ByteArray.size_append, txt_size, sz3] at hz
    have hc := hY x (he x (by simp [XExpr.kids])) h1 (by omega)
    refine callF_of_vc htb hm Tryz.func203 rfl rfl rfl rfl (ann := fun _ => none) (gh := fun _ => false) ?_
    repeat' ((conv => whnf); first | (guard_target = Done _; refine Done.mk ?_) | (guard_target = Branch _ _ _; (first | apply Branch.dec | apply Branch.beq | apply Branch.bne | apply Branch.ndec | apply Branch.nb | apply Branch.mk) <;> intro h <;> (try simp only [List.length_map] at h) <;> (try omega) <;> (try contradiction)) | (guard_target = CallN _ 203 _ _ _ _; refine CallN.pure _ _ rfl (hc) rfl _ rfl ?_) | (guard_target = Need (ByteArray.size _ + _ ≤ _) _; refine Need.mk (by first | (simp only [ByteArray.size_append, txt_size, sz3]; omega) | (show 1 + _ ≤ _; omega) | (show _ + 1 ≤ _; omega)) ?_) | (guard_target = Arith _ _ _; refine Arith.fit (by apply wrap_fit <;> first | omega | (simp only [List.length_map]; omega)) ?_) | (guard_target = Arith _ _ _; refine Arith.fit (by decide) ?_) | (guard_target = Index _ _ _; first | refine Index.mk _ (rfl) ?_ | refine Index.mk _ (idx_map (by omega)) ?_) | (guard_target = Need (_ = true) _; refine Need.mk (by first | kernel_rfl | rfl) ?_) | (guard_target = LinkV _ _ _; refine LinkV.no ?_) | (guard_target = GhO _ _ _ _; refine GhO.go ?_) | (guard_target = Need _ _; refine Need.mk (by first  | omega | (simp only [List.length_map]; omega)) ?_))
    all_goals first | rfl
  case sum x y hk h1 h2 =>
    show CallF Tryz.prog 203 [.c (.rp 3 [J k, J n, .ro 3 [encExpr x, encExpr y]])] _
    rw [sSum hk] at hz ⊢
    simp only [ByteArray.size_append, txt_size, sz3] at hz
    have hc := hY x (he x (by simp [XExpr.kids])) h1 (by omega)
    have hd := hY y (he y (by simp [XExpr.kids])) h2 (by omega)
    refine callF_of_vc htb hm Tryz.func203 rfl rfl rfl rfl (ann := fun _ => none) (gh := fun _ => false) ?_
    repeat' ((conv => whnf); first | (guard_target = Done _; refine Done.mk ?_) | (guard_target = Branch _ _ _; (first | apply Branch.dec | apply Branch.beq | apply Branch.bne | apply Branch.ndec | apply Branch.nb | apply Branch.mk) <;> intro h <;> (try simp only [List.length_map] at h) <;> (try omega) <;> (try contradiction)) | (guard_target = CallN _ 203 _ _ _ _; refine CallN.pure _ _ rfl (hc) rfl _ rfl ?_) | (guard_target = CallN _ 203 _ _ _ _; refine CallN.pure _ _ rfl (hd) rfl _ rfl ?_) | (guard_target = Need (ByteArray.size _ + _ ≤ _) _; refine Need.mk (by first | (simp only [ByteArray.size_append, txt_size, sz3]; omega) | (show 1 + _ ≤ _; omega) | (show _ + 1 ≤ _; omega)) ?_) | (guard_target = Arith _ _ _; refine Arith.fit (by apply wrap_fit <;> first | omega | (simp only [List.length_map]; omega)) ?_) | (guard_target = Arith _ _ _; refine Arith.fit (by decide) ?_) | (guard_target = Index _ _ _; first | refine Index.mk _ (rfl) ?_ | refine Index.mk _ (idx_map (by omega)) ?_) | (guard_target = Need (_ = true) _; refine Need.mk (by first | kernel_rfl | rfl) ?_) | (guard_target = LinkV _ _ _; refine LinkV.no ?_) | (guard_target = GhO _ _ _ _; refine GhO.go ?_) | (guard_target = Need _ _; refine Need.mk (by first  | omega | (simp only [List.length_map]; omega)) ?_))
    all_goals first | rfl
  case dot x y hk h1 h2 =>
    show CallF Tryz.prog 203 [.c (.rp 3 [J k, J n, .ro 3 [encExpr x, encExpr y]])] _
    rw [sDot hk] at hz ⊢
    simp only [ByteArray.size_append, txt_size, sz3] at hz
    have hc := hY x (he x (by simp [XExpr.kids])) h1 (by omega)
    have hd := hY y (he y (by simp [XExpr.kids])) h2 (by omega)
    refine callF_of_vc htb hm Tryz.func203 rfl rfl rfl rfl (ann := fun _ => none) (gh := fun _ => false) ?_
    repeat' ((conv => whnf); first | (guard_target = Done _; refine Done.mk ?_) | (guard_target = Branch _ _ _; (first | apply Branch.dec | apply Branch.beq | apply Branch.bne | apply Branch.ndec | apply Branch.nb | apply Branch.mk) <;> intro h <;> (try simp only [List.length_map] at h) <;> (try omega) <;> (try contradiction)) | (guard_target = CallN _ 203 _ _ _ _; refine CallN.pure _ _ rfl (hc) rfl _ rfl ?_) | (guard_target = CallN _ 203 _ _ _ _; refine CallN.pure _ _ rfl (hd) rfl _ rfl ?_) | (guard_target = Need (ByteArray.size _ + _ ≤ _) _; refine Need.mk (by first | (simp only [ByteArray.size_append, txt_size, sz3]; omega) | (show 1 + _ ≤ _; omega) | (show _ + 1 ≤ _; omega)) ?_) | (guard_target = Arith _ _ _; refine Arith.fit (by apply wrap_fit <;> first | omega | (simp only [List.length_map]; omega)) ?_) | (guard_target = Arith _ _ _; refine Arith.fit (by decide) ?_) | (guard_target = Index _ _ _; first | refine Index.mk _ (rfl) ?_ | refine Index.mk _ (idx_map (by omega)) ?_) | (guard_target = Need (_ = true) _; refine Need.mk (by first | kernel_rfl | rfl) ?_) | (guard_target = LinkV _ _ _; refine LinkV.no ?_) | (guard_target = GhO _ _ _ _; refine GhO.go ?_) | (guard_target = Need _ _; refine Need.mk (by first  | omega | (simp only [List.length_map]; omega)) ?_))
    all_goals first | rfl
  case star x hk h1 =>
    show CallF Tryz.prog 203 [.c (.rp 3 [J k, J n, .ro 3 [encExpr x]])] _
    rw [sStar hk] at hz ⊢
    simp only [ByteArray.size_append, txt_size, sz3] at hz
    have hc := hY x (he x (by simp [XExpr.kids])) h1 (by omega)
    refine callF_of_vc htb hm Tryz.func203 rfl rfl rfl rfl (ann := fun _ => none) (gh := fun _ => false) ?_
    repeat' ((conv => whnf); first | (guard_target = Done _; refine Done.mk ?_) | (guard_target = Branch _ _ _; (first | apply Branch.dec | apply Branch.beq | apply Branch.bne | apply Branch.ndec | apply Branch.nb | apply Branch.mk) <;> intro h <;> (try simp only [List.length_map] at h) <;> (try omega) <;> (try contradiction)) | (guard_target = CallN _ 203 _ _ _ _; refine CallN.pure _ _ rfl (hc) rfl _ rfl ?_) | (guard_target = Need (ByteArray.size _ + _ ≤ _) _; refine Need.mk (by first | (simp only [ByteArray.size_append, txt_size, sz3]; omega) | (show 1 + _ ≤ _; omega) | (show _ + 1 ≤ _; omega)) ?_) | (guard_target = Arith _ _ _; refine Arith.fit (by apply wrap_fit <;> first | omega | (simp only [List.length_map]; omega)) ?_) | (guard_target = Arith _ _ _; refine Arith.fit (by decide) ?_) | (guard_target = Index _ _ _; first | refine Index.mk _ (rfl) ?_ | refine Index.mk _ (idx_map (by omega)) ?_) | (guard_target = Need (_ = true) _; refine Need.mk (by first | kernel_rfl | rfl) ?_) | (guard_target = LinkV _ _ _; refine LinkV.no ?_) | (guard_target = GhO _ _ _ _; refine GhO.go ?_) | (guard_target = Need _ _; refine Need.mk (by first  | omega | (simp only [List.length_map]; omega)) ?_))
    all_goals first | rfl
end
theorem l01Text_ok (e : XExpr) (hs : shpE e = true) (hz : (txtE e).size ≤ 1000000000) : CallF Tryz.prog 203 [.c (.rp 3 (encExpr e))] (.c (.val (.string (txtE e)))) := by
  rw [encExpr_eq]
  refine l01Text_all (fun x => x ∈ e.kids) (fun x hx h1 h2 => l01Text_ok x h1 h2) e (fun _ h => h) hs hz
  termination_by SizeOf.sizeOf e
  decreasing_by
    have := List.sizeOf_lt_of_mem hx
    cases e
    simp only [XExpr.mk.sizeOf_spec]
    simp only [XExpr.kids] at this
    omega
end Go.Proofs.YtaajacnceocpoaaGreat

namespace Go.Proofs.YtaajacnceocpoaaGreat
open Go Go.KA Go.Proofs
set_option maxHeartbeats 16000000
set_option maxRecDepth 100000
def szS (l : List ByteArray) : Nat := (l.map ByteArray.size).sum
theorem getD_sz : ∀ l : List ByteArray, (l.getD 0 .empty).size + (l.getD 1 .empty).size ≤ szS l
  | [] => Nat.le_refl _
  | [x] => by simp [szS]
  | x :: y :: l => by simp [szS] <;> omega
theorem txtK_size (k n : Int) (l : List ByteArray) : (txtK k n l).size ≤ 7 + szS l := by
  have h := getD_sz l
  have h2 := decB_size n.toNat
  have sz3 : (ByteArray.mk #[32, 43, 32]).size = 3 := rfl
  unfold txtK
  repeat' split
  all_goals (simp only [ByteArray.size_append, txt_size, sz3]; omega)
mutual
theorem tree_shp {t a : Int} (ht : t ≤ 3) (ha : a ≤ 4) : ∀ (e : XExpr), treeB t a e = true → shpE e = true
  | .mk k n ks, h => by
    rw [treeB] at h
    rw [shpE]
    simp only [Bool.and_eq_true, beq_iff_eq] at h
    obtain ⟨h1, h2⟩ := h
    have hk : rng 1 8 k = true ∧ shpS ks = true ∧ (!(decide (k = 3) || decide (k = 4)) || rng 0 99 n) = true := by
      have hl : (0 : Int) ≤ ks.length := by omega
      by_cases h3 : k = 3
      · subst h3
        have : ks = [] := List.eq_nil_of_length_eq_zero (by have : kidsN 3 = 0 := rfl; omega)
        subst this
        simp only [rng, beq_self_eq_true, if_true, Bool.and_eq_true, decide_eq_true_eq] at h2
        refine ⟨rfl, rfl, ?_⟩
        simp only [rng, Bool.or_eq_true, Bool.and_eq_true]
        exact .inr ⟨decide_eq_true (by omega), decide_eq_true (by omega)⟩
      · by_cases h4 : k = 4
        · subst h4
          have : ks = [] := List.eq_nil_of_length_eq_zero (by have : kidsN 4 = 0 := rfl; omega)
          subst this
          have h2 : rng 0 (a - 1) n = true := h2
          simp only [rng, Bool.and_eq_true, decide_eq_true_eq] at h2
          refine ⟨rfl, rfl, ?_⟩
          simp only [rng, Bool.or_eq_true, Bool.and_eq_true]
          exact .inr ⟨decide_eq_true (by omega), decide_eq_true (by omega)⟩
        · rw [if_neg h3, if_neg h4] at h2
          simp only [Bool.and_eq_true] at h2
          refine ⟨?_, tree_shpS ht ha ks h2.2.2, ?_⟩
          · have h5 : 0 ≤ kidsN k := by omega
            simp only [rng, Bool.and_eq_true]
            unfold kidsN at h5
            constructor <;> refine decide_eq_true ?_ <;> (repeat' split at h5) <;> simp at * <;> omega
          · simp [h3, h4]
    rw [hk.1, hk.2.1, hk.2.2]
    simp [h1]
theorem tree_shpS {t a : Int} (ht : t ≤ 3) (ha : a ≤ 4) : ∀ (l : List XExpr), treeS t a l = true → shpS l = true
  | [], _ => rfl
  | x :: xs, h => by
    simp only [treeS, Bool.and_eq_true] at h
    simp only [shpS, Bool.and_eq_true]
    exact ⟨tree_shp ht ha x h.1, tree_shpS ht ha xs h.2⟩
end
abbrev OkT (e : XExpr) : Prop := shpE e = true ∧ (txtE e).size ≤ 1400
end Go.Proofs.YtaajacnceocpoaaGreat

namespace Go.Proofs.YtaajacnceocpoaaGreat
open Go Go.KA Go.Proofs
set_option maxHeartbeats 16000000
set_option maxRecDepth 100000
abbrev e00 : XExpr := .mk 0 0 []
abbrev lessE (x y : XExpr) : Bool := Op.bytesLess (txtE x).toList (txtE y).toList
def cutE (x : XExpr) (l : List XExpr) : Nat := (l.takeWhile fun y => lessE y x).length
def insE (l : List XExpr) (x : XExpr) : List XExpr := l.take (cutE x l) ++ [x] ++ l.drop (cutE x l)
def sortE (l : List XExpr) : List XExpr := l.foldl insE []
abbrev tS (x : XExpr) : List CV := [.val (.string (txtE x))]
theorem cut_le (x : XExpr) (l : List XExpr) : cutE x l ≤ l.length := by
  unfold cutE
  exact (List.takeWhile_sublist _).length_le
theorem ins_len (l : List XExpr) (x : XExpr) : (insE l x).length = l.length + 1 := by
  have := cut_le x l
  simp only [insE, List.length_append, List.length_take, List.length_drop, List.length_cons, List.length_nil]
  omega
theorem cut_eq {x : XExpr} : ∀ {l : List XExpr} {k : Nat}, k ≤ l.length → (l.take k).all (fun y => lessE y x) = true → (∀ h : k < l.length, lessE l[k] x = false) → cutE x l = k
  | [], k, h, _, _ => by
    have : k = 0 := by simpa using h
    subst this
    rfl
  | y :: l, 0, _, _, h2 => by
    have := h2 (by simp)
    unfold cutE
    rw [List.takeWhile_cons]
    simp only [List.getElem_cons_zero] at this
    simp [this]
  | y :: l, k + 1, h, h1, h2 => by
    simp only [List.take_succ_cons, List.all_cons, Bool.and_eq_true] at h1
    have := cut_eq (x := x) (l := l) (k := k) (by simpa using h) h1.2 fun hk => by
      have := h2 (by simpa using hk)
      simpa using this
    unfold cutE at this ⊢
    rw [List.takeWhile_cons, h1.1]
    simp [this]
theorem sort_next {l : List XExpr} {i : Nat} (h : i < l.length) : insE (sortE (l.take i)) (l.getD i e00) = sortE (l.take (i + 1)) := by
  unfold sortE
  rw [List.take_add_one, List.getElem?_eq_getElem h, Option.toList_some, List.foldl_append, List.getD_eq_getElem?_getD, List.getElem?_eq_getElem h]
  rfl
theorem sort_len : ∀ (l m : List XExpr), (l.foldl insE m).length = m.length + l.length
  | [], m => rfl
  | x :: l, m => by
    rw [List.foldl_cons, sort_len l, ins_len, List.length_cons]
    omega
theorem idx_told {l : List XExpr} {i : Nat} (h : i < l.length) : (l.map encExpr)[i]? = some (toldE (l.getD i e00)) := by
  have h2 : (l.map encExpr)[i]? = some (encExpr (l.getD i e00)) := idx_getD h
  rw [encExpr_eq] at h2
  exact h2
theorem ins_blk {f : XExpr → List CV} {R : List XExpr} {x : XExpr} {k : Nat} {v : List CV} (hv : v = f x) (hc : cutE x R = k) (hk : k ≤ R.length) :
    (R.map f).take ((k : Int).toNat - Int.toNat 0) ++ [v] ++ ([] ++ ((R.map f).drop (k : Int).toNat).take (((R.map f).length : Int).toNat - (k : Int).toNat)) = (insE R x).map f := by
  subst hv hc
  simp only [insE, List.map_append, List.map_cons, List.map_nil, List.map_take, List.map_drop, List.nil_append, Int.toNat_natCast]
  rw [show Int.toNat 0 = 0 from rfl, Nat.sub_zero, List.take_of_length_le (l := List.drop _ _) (by simp only [List.length_drop, List.length_map]; omega)]
theorem ins_end {f : XExpr → List CV} {R : List XExpr} {x : XExpr} {v : List CV} (hv : v = f x) (hc : cutE x R = R.length) : R.map f ++ [v] ++ ([] ++ []) = (insE R x).map f := by
  subst hv
  simp only [insE, hc, List.take_length, List.drop_length, List.map_append, List.map_cons, List.map_nil, List.append_nil]
theorem cut_no {x : XExpr} {R : List XExpr} {k : Nat} (ha : k ≤ R.length ∧ (R.take k).all (fun y => lessE y x) = true) (h : k < R.length) (hb : lessE (R.getD k e00) x = false) : cutE x R = k :=
  cut_eq ha.1 ha.2 fun hk => by rwa [getD_eq hk] at hb
theorem cut_end {x : XExpr} {R : List XExpr} {k : Nat} (ha : k ≤ R.length ∧ (R.take k).all (fun y => lessE y x) = true) (h : ¬ (k : Int) < R.length) : cutE x R = R.length := by
  have : k = R.length := by omega
  subst this
  exact cut_eq ha.1 ha.2 fun hk => absurd hk (by omega)
theorem l02Sorted_ok (l : List XExpr) (hl : l.length ≤ 1000000) (hs : ∀ x ∈ l, shpE x = true ∧ (txtE x).size ≤ 1000000000) : CallX Tryz.prog 199 [.c (.ro 3 (l.map encExpr))] [] (.c (.ows 28 3 ((sortE l).map encExpr))) := by
  have ht : ∀ i, i < l.length → CallF Tryz.prog 203 [.c (.rp 3 (toldE (l.getD i e00)))] (.c (.val (.string (txtE (l.getD i e00))))) := fun i hi => by
    have h2 := l01Text_ok (l.getD i e00) (by rw [getD_eq hi]; exact (hs _ (List.getElem_mem hi)).1) (by rw [getD_eq hi]; exact (hs _ (List.getElem_mem hi)).2)
    rwa [encExpr_eq] at h2
  have hn : ∀ i, (sortE (l.take i)).length ≤ i := fun i => by
    unfold sortE
    rw [sort_len]
    simp only [List.length_nil, List.length_take]
    omega
  refine callX_of_vc htb hm Tryz.func199 rfl rfl rfl rfl (ann := fun _ => none) (gh := fun _ => false) ?_
  repeat' ((conv => whnf); first | (guard_target = RetX _ _; refine RetX.mk ?_ ?_) | (guard_target =~ LoopE 4 _ _ _ _ _ _; refine LoopE.mk { α := List XExpr × Nat, keep := [0], ov := fun ⟨R, i⟩ => [(3, .lw 1), (4, .lw 2), (5, I (i : Nat))], hv := fun ⟨R, i⟩ => [(1, .row none 9 1 (R.map tS)), (2, .row none 28 3 (R.map encExpr))], φ := fun ⟨R, i⟩ => i ≤ l.length ∧ R = sortE (l.take i), μ := fun ⟨R, i⟩ => l.length - i } (LoopN.mk (([], 0) : List XExpr × Nat) (by exact ⟨Nat.zero_le _, rfl⟩) (by repeat' ((conv => whnf) <;> first | exact trivial | kernel_rfl | constructor)) (by repeat' ((conv => whnf) <;> first | exact trivial | kernel_rfl | constructor)) (by repeat' ((conv => whnf) <;> first | exact trivial | refine ⟨?_, ?_⟩ | exact rfl | (simp only [List.map_append, List.map_cons, List.map_nil, List.map_set]; first | done | rfl))) (fun A ha => ?_) (by intro A; first | rfl | (obtain ⟨_, _⟩ := A; rfl) | (obtain ⟨_, _, _⟩ := A; rfl))); obtain ⟨R, i⟩ := A; have ha : i ≤ l.length ∧ R = sortE (l.take i) := ha; have hA := ha; have hR := hn i; rw [← ha.2] at hR) | (guard_target =~ LoopE 8 _ _ _ _ _ _; refine LoopE.mk { α := Nat, keep := [0, 3, 4, 5, 6], ov := fun k => [(7, I (k : Nat))], φ := fun k => k ≤ R.length ∧ (R.take k).all (fun y => lessE y (l.getD i e00)) = true, μ := fun k => R.length - k } (LoopN.mk (0 : Nat) (by exact ⟨Nat.zero_le _, rfl⟩) (by repeat' ((conv => whnf) <;> first | exact trivial | kernel_rfl | constructor)) (by repeat' ((conv => whnf) <;> first | exact trivial | kernel_rfl | constructor)) (by repeat' ((conv => whnf) <;> first | exact trivial | refine ⟨?_, ?_⟩ | exact rfl | (simp only [List.map_append, List.map_cons, List.map_nil, List.map_set]; first | done | rfl))) (fun (k : Nat) ha => ?_) (by intro A; first | rfl | (obtain ⟨_, _⟩ := A; rfl) | (obtain ⟨_, _, _⟩ := A; rfl))); have ha : k ≤ R.length ∧ (R.take k).all (fun y => lessE y (l.getD i e00)) = true := ha) | (guard_target = Gh _ _ _ _ _; refine Gh.go ⟨(k + 1 : Nat), (by exact all_go (by omega) ha (by rw [← getD_eq (d := e00) (by omega)]; exact h)), (by first | (show _ < _; simp only []; omega) | omega | (simp; omega)), (by repeat' ((conv => whnf) <;> first | exact trivial | kernel_rfl | constructor)), (by repeat' ((conv => whnf) <;> first | exact trivial | kernel_rfl | constructor)), (by repeat' ((conv => whnf) <;> first | exact trivial | refine ⟨?_, ?_⟩ | exact rfl | (simp only [List.map_append, List.map_cons, List.map_nil, List.map_set]; first | done | rfl)))⟩) | (guard_target = Fact _ _; refine Fact.mk fun hL => ?_; (try simp only [List.length_map, maxLen] at hL)) | (guard_target = Branch _ _ _; (first | apply Branch.dec | apply Branch.beq | apply Branch.bne | apply Branch.ndec | apply Branch.nb | apply Branch.mk) <;> intro h <;> (try simp only [List.length_map] at h) <;> (try omega) <;> (try contradiction)) | (guard_target = CallN _ 203 _ _ _ _; refine CallN.pure _ _ rfl (ht i (by omega)) rfl _ rfl ?_) | (guard_target = SliceW _ _ _ _ _ _; (first | refine SliceW.all (by refine ⟨rfl, ?_⟩; rw [List.length_map]; omega) ?_ | refine SliceW.some (by rw [List.length_map]; omega) ?_ | refine SliceW.none (by rw [List.length_map]; omega) ?_)) | (guard_target = Gh _ _ _ _ _; refine Gh.ren 11 2 (by first | rfl | kernel_rfl) ?_; refine Gh.go ⟨((insE R (l.getD i e00), i + 1) : List XExpr × Nat), (by exact ⟨by show i + 1 ≤ _; omega, by show insE R _ = _; rw [hA.2]; exact sort_next (by omega)⟩), (by show l.length - (i + 1) < l.length - i; omega), (by repeat' ((conv => whnf) <;> first | exact trivial | kernel_rfl | constructor)), (by repeat' ((conv => whnf) <;> first | exact trivial | kernel_rfl | constructor)), (by (repeat' ((conv => whnf) <;> (first | exact trivial | refine ⟨?_, ?_⟩ | exact rfl | exact congrArg (Blk.row none _ 1) (ins_blk rfl (cut_no ha (by omega) (by assumption)) (by omega)) | exact congrArg (Blk.row none _ 3) (ins_blk (f := encExpr) (x := l.getD i e00) (v := toldE (l.getD i e00)) (encExpr_eq (l.getD i e00)).symm (cut_no ha (by omega) (by assumption)) (by omega)) | exact congrArg (Blk.row none _ 1) (ins_end rfl (cut_end ha (by assumption))) | exact congrArg (Blk.row none _ 3) (ins_end (f := encExpr) (x := l.getD i e00) (v := toldE (l.getD i e00)) (encExpr_eq (l.getD i e00)).symm (cut_end ha (by assumption)))))); done)⟩) | (guard_target = Arith _ _ _; refine Arith.fit (by apply wrap_fit <;> first | omega | (simp only [List.length_map]; omega)) ?_) | (guard_target = Arith _ _ _; refine Arith.fit (by decide) ?_) | (guard_target = Index _ _ _; first | refine Index.mk _ (idx_told (l := l) (i := i) (by omega)) ?_ | refine Index.mk _ (idx_getD (f := tS) (l := R) (d := e00) (i := k) (by omega)) ?_ | refine Index.mk _ (idx_map (by omega)) ?_) | (guard_target = Need (_ = true) _; refine Need.mk (by first | kernel_rfl | rfl) ?_) | (guard_target = LinkV _ _ _; refine LinkV.no ?_) | (guard_target = GhO _ _ _ _; refine GhO.go ?_) | (guard_target = Need _ _; refine Need.mk (by first | ((simp only [List.length_append, List.length_map, List.length_take, List.length_drop, List.length_cons, List.length_nil, maxLen]; omega)) | ((simp only [List.length_append, List.length_map, List.length_take, List.length_drop, List.length_cons, List.length_nil, maxLen]; constructor <;> omega)) | omega | (simp only [List.length_map]; omega)) ?_))
  all_goals first | rfl | trivial | (have h9 := ha.2; rw [List.take_of_length_le (by omega)] at h9; rw [h9]; done)
end Go.Proofs.YtaajacnceocpoaaGreat

namespace Go.Proofs.YtaajacnceocpoaaGreat
open Go Go.KA Go.Proofs
set_option maxHeartbeats 16000000
set_option maxRecDepth 100000
end Go.Proofs.YtaajacnceocpoaaGreat

namespace Go.Proofs.YtaajacnceocpoaaGreat
open Go Go.KA Go.Proofs
set_option maxHeartbeats 16000000
set_option maxRecDepth 100000
end Go.Proofs.YtaajacnceocpoaaGreat

namespace Go.Proofs.YtaajacnceocpoaaGreat
open Go Go.KA Go.Proofs
set_option maxHeartbeats 16000000
set_option maxRecDepth 100000
def esz (e : XExpr) : Nat := budExpr e + 1
end Go.Proofs.YtaajacnceocpoaaGreat
