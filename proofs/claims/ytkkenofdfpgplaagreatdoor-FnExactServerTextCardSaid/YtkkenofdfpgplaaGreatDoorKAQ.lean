/- The text of a valid expression: its shape and its size. Plain laws. No conditions. -/
import Derived.Test.YtkkenofdfpgplaaGreatDoorKAP
namespace Go.Proofs.YtkkenofdfpgplaaGreatDoor
open Go Go.KA Go.Proofs
set_option maxHeartbeats 16000000
set_option maxRecDepth 100000
def szS (l : List ByteArray) : Nat := (l.map ByteArray.size).sum
theorem getD_sz : ∀ l : List ByteArray, (l.getD 0 .empty).size + (l.getD 1 .empty).size ≤ szS l
  | [] => Nat.le_refl _
  | [x] => by simp [szS]
  | x :: y :: l => by simp [szS] <;> omega
theorem txtK_size (k n : Int) (l : List ByteArray) : (txtK k n l).size ≤ 7 + szS l := by
  have h := getD_sz l
  have h2 := decB_size n.toNat
  have sz3 : (ByteArray.mk #[32, 43, 32]).size = 3 := rfl
  unfold txtK
  repeat' split
  all_goals (simp only [ByteArray.size_append, txt_size, sz3]; omega)
mutual
theorem left_size : ∀ (e : XExpr) (n : Int), 0 ≤ leftE e n → ((txtE e).size : Int) ≤ 7 * (n - leftE e n)
  | .mk k m ks, n, h => by
    simp only [leftE] at h ⊢
    have h1 := left_sizeS ks (n - 1) h
    have h2 := txtK_size k m (txtS ks)
    simp only [txtE]
    omega
theorem left_sizeS : ∀ (l : List XExpr) (n : Int), 0 ≤ leftS l n → (szS (txtS l) : Int) ≤ 7 * (n - leftS l n)
  | [], n, h => by simp [szS, txtS, leftS]
  | x :: xs, n, h => by
    simp only [leftS] at h ⊢
    by_cases hn : n < 0
    · rw [if_pos hn] at h; omega
    · rw [if_neg hn] at h ⊢
      by_cases h0 : leftE x n < 0
      · rw [leftS_neg h0] at h; omega
      · have h1 := left_size x n (by omega)
        have h2 := left_sizeS xs (leftE x n) h
        have h3 : szS (txtS (x :: xs)) = (txtE x).size + szS (txtS xs) := by simp [txtS, szS]
        omega
end
mutual
theorem tree_shp {t a : Int} (ht : t ≤ 3) (ha : a ≤ 4) : ∀ (e : XExpr), treeB t a e = true → shpE e = true
  | .mk k n ks, h => by
    rw [treeB] at h
    rw [shpE]
    simp only [Bool.and_eq_true, beq_iff_eq] at h
    obtain ⟨h1, h2⟩ := h
    have hk : rng 1 8 k = true ∧ shpS ks = true ∧ (!(decide (k = 3) || decide (k = 4)) || rng 0 99 n) = true := by
      have hl : (0 : Int) ≤ ks.length := by omega
      by_cases h3 : k = 3
      · subst h3
        have : ks = [] := List.eq_nil_of_length_eq_zero (by have : kidsN 3 = 0 := rfl; omega)
        subst this
        simp only [rng, beq_self_eq_true, if_true, Bool.and_eq_true, decide_eq_true_eq] at h2
        refine ⟨rfl, rfl, ?_⟩
        simp only [rng, Bool.or_eq_true, Bool.and_eq_true]
        exact .inr ⟨decide_eq_true (by omega), decide_eq_true (by omega)⟩
      · by_cases h4 : k = 4
        · subst h4
          have : ks = [] := List.eq_nil_of_length_eq_zero (by have : kidsN 4 = 0 := rfl; omega)
          subst this
          have h2 : rng 0 (a - 1) n = true := h2
          simp only [rng, Bool.and_eq_true, decide_eq_true_eq] at h2
          refine ⟨rfl, rfl, ?_⟩
          simp only [rng, Bool.or_eq_true, Bool.and_eq_true]
          exact .inr ⟨decide_eq_true (by omega), decide_eq_true (by omega)⟩
        · rw [if_neg h3, if_neg h4] at h2
          simp only [Bool.and_eq_true] at h2
          refine ⟨?_, tree_shpS ht ha ks h2.2.2, ?_⟩
          · have h5 : 0 ≤ kidsN k := by omega
            simp only [rng, Bool.and_eq_true]
            unfold kidsN at h5
            constructor <;> refine decide_eq_true ?_ <;> (repeat' split at h5) <;> simp at * <;> omega
          · simp [h3, h4]
    rw [hk.1, hk.2.1, hk.2.2]
    simp [h1]
theorem tree_shpS {t a : Int} (ht : t ≤ 3) (ha : a ≤ 4) : ∀ (l : List XExpr), treeS t a l = true → shpS l = true
  | [], _ => rfl
  | x :: xs, h => by
    simp only [treeS, Bool.and_eq_true] at h
    simp only [shpS, Bool.and_eq_true]
    exact ⟨tree_shp ht ha x h.1, tree_shpS ht ha xs h.2⟩
end
abbrev OkT (e : XExpr) : Prop := shpE e = true ∧ (txtE e).size ≤ 1400
theorem good_txt {t a : Int} (hs : goodSig t a = true) {e : XExpr} (h : goodE t a e = true) : OkT e := by
  simp only [goodE, Bool.and_eq_true, decide_eq_true_eq] at h
  simp only [goodSig, rng, Bool.and_eq_true, decide_eq_true_eq] at hs
  have h1 := left_size e 200 h.1
  exact ⟨tree_shp (by omega) (by omega) e h.2.2, by omega⟩
end Go.Proofs.YtkkenofdfpgplaaGreatDoor

namespace Go.Proofs.YtkkenofdfpgplaaGreatDoor
open Go Go.KA Go.Proofs
set_option maxHeartbeats 16000000
set_option maxRecDepth 100000
abbrev encA (a : XArchive) : SV := .a 4 (encArchive a)
theorem srv_notes {a : XArchive} (h : GA a) {i : Nat} (hi : i < a.servers.length) : goodNotes a.sig.tests a.sig.actions (a.servers.getD i s00).notes = true ∧ (a.servers.getD i s00).notes.length ≤ 20 := by
  have h4 := List.all_eq_true.1 h.2.2.2.1 _ (List.getElem_mem hi)
  rw [getD_eq hi]
  unfold goodServer at h4
  simp only [Bool.and_eq_true, decide_eq_true_eq] at h4
  exact ⟨h4.2.2.2, by omega⟩
theorem place_lt {a : XArchive} {s : Int} (h : placeB a s = true) : 0 ≤ s ∧ s.toNat < a.servers.length := by
  have := rng_le h
  omega
/-! ### what a lemma says -/
def lastC (e : XEntry) : XClaim := e.proof.claims.getD (e.proof.claims.length - 1) c0
def lemE (e : XEntry) : XEquation := ⟨(lastC e).left, (lastC e).right⟩
theorem idx_last {α : Type} {f : α → List CV} {l : List α} (d : α) (h : 0 < l.length) : (l.map f)[(((l.map f).length : Int) - 1).toNat]? = some (f (l.getD (l.length - 1) d)) := by
  have e : (((l.map f).length : Int) - 1).toNat = l.length - 1 := by rw [List.length_map]; omega
  rw [e]
  exact idx_getD (by omega)
theorem told_ok (e : XEntry) (h : 0 < e.proof.claims.length) : CallF Tryz.prog 22 [.a 5 (encEntry e)] (.a 6 (encEquation (lemE e))) := by
  refine callF_of_vc htb hm Tryz.func22 rfl rfl rfl rfl (ann := fun _ => none) (gh := fun _ => false) ?_
  repeat' ((conv => whnf); first | (guard_target = Done _; refine Done.mk ?_; first | (rfl; done) | skip) | (guard_target = RetX _ _; refine RetX.mk ?_ ?_) | (guard_target = Fact _ _; refine Fact.mk fun hL => ?_; (try simp only [List.length_map, maxLen] at hL)) | (guard_target = Branch _ _ _; (first | refine Branch.dec ?_ ?_ | refine Branch.beq ?_ ?_ | refine Branch.bne ?_ ?_ | refine Branch.ndec ?_ ?_ | refine Branch.nb ?_ ?_ | refine Branch.mk ?_ ?_) <;> intro h <;> (try simp only [List.length_map] at h) <;> (try omega) <;> (try contradiction)) | (guard_target = Arith _ _ _; refine Arith.fit (wrap_fit (by first | omega | (simp only [List.length_map]; omega)) (by first | omega | (simp only [List.length_map]; omega))) ?_) | (guard_target = Arith _ _ _; refine Arith.fit (by decide) ?_) | (guard_target = Index _ _ _; first | refine Index.mk _ (idx_last c0 h) ?_ | refine Index.mk _ (idx_map (by omega)) ?_) | (guard_target = Need (_ = true) _; refine Need.mk (by first | kernel_rfl | rfl) ?_) | (guard_target = LinkV _ _ _; first  | refine LinkV.no ?_) | (guard_target = GhO _ _ _ _; refine GhO.go ?_) | (guard_target = Need _ _; refine Need.mk (by first  | omega | (simp only [List.length_map]; omega)) ?_))
theorem l04Claimed_ok (c : XClaim) : CallF Tryz.prog 32 [.c (.rp 9 (encClaim c))] (.a 6 (encEquation ⟨c.left, c.right⟩)) := by
  refine callF_of_vc htb hm Tryz.func32 rfl rfl rfl rfl (ann := fun _ => none) (gh := fun _ => false) ?_
  repeat' ((conv => whnf); first | (guard_target = Done _; refine Done.mk ?_; first | (rfl; done) | skip) | (guard_target = RetX _ _; refine RetX.mk ?_ ?_) | (guard_target = Fact _ _; refine Fact.mk fun hL => ?_; (try simp only [List.length_map, maxLen] at hL)) | (guard_target = Branch _ _ _; (first | refine Branch.dec ?_ ?_ | refine Branch.beq ?_ ?_ | refine Branch.bne ?_ ?_ | refine Branch.ndec ?_ ?_ | refine Branch.nb ?_ ?_ | refine Branch.mk ?_ ?_) <;> intro h <;> (try simp only [List.length_map] at h) <;> (try omega) <;> (try contradiction)) | (guard_target = Arith _ _ _; refine Arith.fit (wrap_fit (by first | omega | (simp only [List.length_map]; omega)) (by first | omega | (simp only [List.length_map]; omega))) ?_) | (guard_target = Arith _ _ _; refine Arith.fit (by decide) ?_) | (guard_target = Index _ _ _; first  | refine Index.mk _ (idx_map (by omega)) ?_) | (guard_target = Need (_ = true) _; refine Need.mk (by first | kernel_rfl | rfl) ?_) | (guard_target = LinkV _ _ _; first  | refine LinkV.no ?_) | (guard_target = GhO _ _ _ _; refine GhO.go ?_) | (guard_target = Need _ _; refine Need.mk (by first  | omega | (simp only [List.length_map]; omega)) ?_))
theorem l08Lemma_ok (e : XEntry) (h : 0 < e.proof.claims.length) (hl : e.proof.claims.length ≤ 1000000) : CallF Tryz.prog 13 [.c (.rp 5 (encEntry e))] (.a 6 (encEquation (lemE e))) := by
  refine callF_of_vc htb hm Tryz.func13 rfl rfl rfl rfl (ann := fun _ => none) (gh := fun _ => false) ?_
  repeat' ((conv => whnf); first | (guard_target = Done _; refine Done.mk ?_; first | (rfl; done) | skip) | (guard_target = RetX _ _; refine RetX.mk ?_ ?_) | (guard_target = Fact _ _; refine Fact.mk fun hL => ?_; (try simp only [List.length_map, maxLen] at hL)) | (guard_target = Branch _ _ _; (first | refine Branch.dec ?_ ?_ | refine Branch.beq ?_ ?_ | refine Branch.bne ?_ ?_ | refine Branch.ndec ?_ ?_ | refine Branch.nb ?_ ?_ | refine Branch.mk ?_ ?_) <;> intro h <;> (try simp only [List.length_map] at h) <;> (try omega) <;> (try contradiction)) | (guard_target = CallN _ 32 _ _ _ _; refine CallN.pure _ _ rfl (l04Claimed_ok (lastC e)) rfl _ rfl ?_) | (guard_target = Arith _ _ _; refine Arith.fit (wrap_fit (by first | omega | (simp only [List.length_map]; omega)) (by first | omega | (simp only [List.length_map]; omega))) ?_) | (guard_target = Arith _ _ _; refine Arith.fit (by decide) ?_) | (guard_target = Index _ _ _; first | refine Index.mk _ (idx_last c0 h) ?_ | refine Index.mk _ (idx_map (by omega)) ?_) | (guard_target = Need (_ = true) _; refine Need.mk (by first | kernel_rfl | rfl) ?_) | (guard_target = LinkV _ _ _; first  | refine LinkV.no ?_) | (guard_target = GhO _ _ _ _; refine GhO.go ?_) | (guard_target = Need _ _; refine Need.mk (by first  | omega | (simp only [List.length_map]; omega)) ?_))
abbrev tEq : ByteArray := ⟨#[32, 61, 32]⟩
abbrev tSaved : ByteArray := ⟨#[115, 97, 118, 101, 100, 10]⟩
abbrev tRev : ByteArray := ⟨#[114, 101, 118, 111, 107, 101, 32]⟩
abbrev tLem : ByteArray := ⟨#[108, 101, 109, 109, 97, 32]⟩
abbrev tBar : ByteArray := ⟨#[32, 124, 32]⟩
theorem tEq_size : tEq.size = 3 := rfl
theorem tSaved_size : tSaved.size = 6 := rfl
theorem tRev_size : tRev.size = 7 := rfl
theorem tLem_size : tLem.size = 6 := rfl
theorem tBar_size : tBar.size = 3 := rfl
def lineT (q : XEquation) : ByteArray := txtE q.left ++ tEq ++ txtE q.right
abbrev OkQ (q : XEquation) : Prop := OkT q.left ∧ OkT q.right
theorem line_size {q : XEquation} (h : OkQ q) : (lineT q).size ≤ 2803 := by
  have h1 := h.1.2
  have h2 := h.2.2
  simp only [lineT, ByteArray.size_append, tEq_size]
  omega
theorem l01Text_cut (e : XExpr) (r : List CV) (n : Nat) (hn : 3 ≤ n) (hs : shpE e = true) (hz : (txtE e).size ≤ 1000000000) : CallF Tryz.prog 33 [.c (.rp n (toldE e ++ r))] (.c (.val (.string (txtE e)))) := by
  have := l01Text_ok e hs hz
  rw [encExpr_eq] at this
  exact this.cut (.cut (cs := toldE e ++ r) (k := 3) hn .nil)
theorem l04Line_ok (q : XEquation) (h : OkQ q) : CallF Tryz.prog 14 [.c (.rp 6 (encEquation q))] (.c (.val (.string (lineT q)))) := by
  have h1 := h.1.2
  have h2 := h.2.2
  refine callF_of_vc htb hm Tryz.func14 rfl rfl rfl rfl (ann := fun _ => none) (gh := fun _ => false) ?_
  repeat' ((conv => whnf); first | (guard_target = Done _; refine Done.mk ?_; first | (rfl; done) | skip) | (guard_target = RetX _ _; refine RetX.mk ?_ ?_) | (guard_target = Fact _ _; refine Fact.mk fun hL => ?_; (try simp only [List.length_map, maxLen] at hL)) | (guard_target = Branch _ _ _; (first | refine Branch.dec ?_ ?_ | refine Branch.beq ?_ ?_ | refine Branch.bne ?_ ?_ | refine Branch.ndec ?_ ?_ | refine Branch.nb ?_ ?_ | refine Branch.mk ?_ ?_) <;> intro h <;> (try simp only [List.length_map] at h) <;> (try omega) <;> (try contradiction)) | (guard_target = CallN _ 33 _ _ _ _; refine CallN.pure _ _ rfl (l01Text_cut q.left _ 6 (by decide) h.1.1 (by omega)) rfl _ rfl ?_) | (guard_target = CallN _ 33 _ _ _ _; refine CallN.pure _ _ rfl (l01Text_cut q.right [] 3 (by decide) h.2.1 (by omega)) rfl _ rfl ?_) | (guard_target = Need (ByteArray.size _ + _ ≤ _) _; refine Need.mk (by have : (ByteArray.mk #[32, 61, 32]).size = 3 := rfl; first | omega | (simp only [ByteArray.size_append]; omega)) ?_) | (guard_target = Arith _ _ _; refine Arith.fit (wrap_fit (by first | omega | (simp only [List.length_map]; omega)) (by first | omega | (simp only [List.length_map]; omega))) ?_) | (guard_target = Arith _ _ _; refine Arith.fit (by decide) ?_) | (guard_target = Index _ _ _; first  | refine Index.mk _ (idx_map (by omega)) ?_) | (guard_target = Need (_ = true) _; refine Need.mk (by first | kernel_rfl | rfl) ?_) | (guard_target = LinkV _ _ _; first  | refine LinkV.no ?_) | (guard_target = GhO _ _ _ _; refine GhO.go ?_) | (guard_target = Need _ _; refine Need.mk (by first  | omega | (simp only [List.length_map]; omega)) ?_))
  all_goals first | rfl
/-! ### a server's text -/
def addR (s : ByteArray) : List Int → ByteArray
  | [] => s
  | r :: rs => addR (s ++ (b1 32 ++ decB r.toNat)) rs
theorem addR_snoc (r : Int) : ∀ (l : List Int) (s : ByteArray), addR s (l ++ [r]) = addR s l ++ (b1 32 ++ decB r.toNat)
  | [], _ => rfl
  | x :: xs, s => addR_snoc r xs _
theorem addR_size : ∀ (l : List Int) (s : ByteArray), (addR s l).size ≤ s.size + 3 * l.length
  | [], s => by simp [addR]
  | r :: rs, s => by
    have h1 := addR_size rs (s ++ (b1 32 ++ decB r.toNat))
    have h2 := decB_size r.toNat
    simp only [ByteArray.size_append, txt_size] at h1
    simp only [addR, List.length_cons]
    omega
theorem addR_next {l : List Int} {i : Nat} {s : ByteArray} (h : i < l.length) : addR s (l.take i) ++ (b1 32 ++ decB (l.getD i 0).toNat) = addR s (l.take (i + 1)) := by
  rw [List.take_add_one, List.getElem?_eq_getElem h, Option.toList_some, addR_snoc, List.getD_eq_getElem?_getD, List.getElem?_eq_getElem h]
  rfl
def headT (n : XNote) : ByteArray := tLem ++ decB n.id.toNat ++ b1 58
theorem headT_size (n : XNote) : (headT n).size ≤ 9 := by
  have h1 := decB_size n.id.toNat
  simp only [headT, ByteArray.size_append, tLem_size, txt_size]
  omega
def tailT (n : XNote) : ByteArray := tBar ++ lineT (lemE n.entry) ++ b1 10
def revT (n : XNote) : ByteArray := tRev ++ decB n.id.toNat ++ b1 10
def sayN (n : XNote) (s : ByteArray) : ByteArray := if n.revoke = true then s ++ revT n else addR (s ++ headT n) n.entry.rests ++ tailT n
def sayI (sv : Int) (i : Nat) (s : ByteArray) : ByteArray := if (i : Int) = sv then s ++ tSaved else s
def txtTo (l : List XNote) (sv : Int) : Nat → ByteArray
  | 0 => .empty
  | i + 1 => sayN (l.getD i n0) (sayI sv i (txtTo l sv i))
def txtSrv (s : XServer) : ByteArray := sayI s.saved s.notes.length (txtTo s.notes s.saved s.notes.length)
structure OkN (n : XNote) : Prop where
  id : 0 ≤ n.id ∧ n.id < 100
  rests : n.revoke = false → ∀ r ∈ n.entry.rests, 0 ≤ r ∧ r < 100
  len : n.revoke = false → n.entry.rests.length ≤ 4
  claims : n.revoke = false → 0 < n.entry.proof.claims.length ∧ n.entry.proof.claims.length ≤ 40
  line : n.revoke = false → OkQ (lemE n.entry)
theorem okN_of {t a : Int} {n : XNote} (h : goodNote t a n = true) : OkN n := by
  unfold goodNote at h
  simp only [rng, Bool.and_eq_true, decide_eq_true_eq] at h
  obtain ⟨⟨h1, h2⟩, h3⟩ := h
  refine ⟨by omega, fun hr r hm => ?_, fun hr => ?_, fun hr => ?_, fun hr => ?_⟩
  all_goals
    rw [hr] at h3
    simp only [Bool.false_eq_true, if_false, Bool.and_eq_true, goodEntry, decide_eq_true_eq, List.all_eq_true] at h3
    obtain ⟨_, g1, _, g3, g4, _, g6, _⟩ := h3
  · have := rng_le (g3 r hm); omega
  · omega
  · simp only [goodProof, Bool.and_eq_true, decide_eq_true_eq] at g4
    omega
  · simp only [goodProof, Bool.and_eq_true, decide_eq_true_eq, List.all_eq_true] at g4
    have hl : n.entry.proof.claims.length - 1 < n.entry.proof.claims.length := by omega
    have hc := g4.2.2 (lastC n.entry) (by
      unfold lastC
      rw [getD_eq hl]
      exact List.getElem_mem hl)
    simp only [goodClaim, Bool.and_eq_true] at hc
    exact ⟨good_txt g4.1 hc.1, good_txt g4.1 hc.2.1⟩
theorem sayN_size {n : XNote} (h : OkN n) (s : ByteArray) : (sayN n s).size ≤ s.size + 3000 := by
  have h1 := decB_size n.id.toNat
  unfold sayN
  split
  · simp only [ByteArray.size_append, revT, tRev_size, txt_size]
    omega
  · have hr : n.revoke = false := by simpa using ‹¬ n.revoke = true›
    have h2 := addR_size n.entry.rests (s ++ headT n)
    have h3 := h.len hr
    have h4 := line_size (h.line hr)
    simp only [ByteArray.size_append, headT, tLem_size, txt_size] at h2
    simp only [ByteArray.size_append, tailT, tBar_size, txt_size]
    simp only [headT]
    omega
theorem sayI_size (sv : Int) (i : Nat) (s : ByteArray) : (sayI sv i s).size ≤ s.size + 6 := by
  unfold sayI
  split
  · simp only [ByteArray.size_append, tSaved_size]; omega
  · omega
theorem txtTo_size {l : List XNote} (h : ∀ i, i < l.length → OkN (l.getD i n0)) (sv : Int) : ∀ i, i ≤ l.length → (txtTo l sv i).size ≤ 3006 * i
  | 0, _ => Nat.zero_le _
  | i + 1, hi => by
    have h1 := txtTo_size h sv i (by omega)
    have h2 := sayI_size sv i (txtTo l sv i)
    have h3 := sayN_size (h i (by omega)) (sayI sv i (txtTo l sv i))
    simp only [txtTo]
    omega
theorem okN_all {t a : Int} {l : List XNote} (h : goodNotes t a l = true) : ∀ i, i < l.length → OkN (l.getD i n0) := fun i hi => by
  have := allR_get h hi
  simp only [noteAt, Bool.and_eq_true] at this
  exact okN_of this.1
end Go.Proofs.YtkkenofdfpgplaaGreatDoor
