/- Contracts of what reads the bytes of a draw: next, pick and one. No conditions but bounds of size. -/
import Derived.Test.YtlfigjkddnncgaaGreatKAQ
namespace Go.Proofs.YtlfigjkddnncgaaGreat
open Go Go.KA Go.Proofs
set_option maxHeartbeats 16000000
set_option maxRecDepth 100000
theorem idx_u8 {l : List UInt8} {i : Nat} (h : i < l.length) : (l.map fun b => [CV.val (.int .u8 (b.toNat : Int))])[i]? = some [.val (.int .u8 ((l.getD i 0).toNat : Int))] := by
  rw [List.getElem?_map, List.getElem?_eq_getElem h, List.getD_eq_getElem?_getD, List.getElem?_eq_getElem h]
  rfl
theorem far_fit (x : Int) : IntKind.i64.wrap (farV x) = farV x := wrap_fit (by have := farV_in x; omega) (by have := farV_in x; omega)
section
variable (s : Src) (hs : Rd s 1000000) (hc : s.code.length ≤ 1000000)
include hs hc
theorem next_ok : CallX Tryz.prog 91 [.c (.op (srcC s))] [some [.op (srcC (nextS s))]] (I (nextV s)) := by
  obtain ⟨code, pos, seed⟩ := s
  have h1 := hs.1
  have h2 := hs.2
  simp only [] at h1 h2 hc
  have hbt := (code.getD pos.toNat 0).toNat_lt
  have hlen : (code.map fun b => [CV.val (.int .u8 (b.toNat : Int))]).length = code.length := List.length_map _
  by_cases hp : pos < code.length
  · have hb : Src.byte ⟨code, pos, seed⟩ = ((code.getD pos.toNat 0).toNat : Int) := if_pos hp
    have hn : nextV ⟨code, pos, seed⟩ = Src.byte ⟨code, pos, seed⟩ := if_pos (show pos + 1 ≤ (code.length : Int) by omega)
    rw [hn]
    simp only [nextS, srcC, Src.seed1, hb]
    refine callX_of_vc htb hm Tryz.func91 rfl rfl rfl rfl (ann := fun _ => none) (gh := fun _ => false) ?_
    repeat' ((conv => whnf); first | (guard_target = Done _; refine Done.mk ?_) | (guard_target = RetX _ _; refine RetX.mk ?_ ?_) | (guard_target = Fact _ _; refine Fact.mk fun hL => ?_; (try simp only [List.length_map, maxLen] at hL)) | (guard_target = Branch _ _ _; (first | refine Branch.dec ?_ ?_ | refine Branch.beq ?_ ?_ | refine Branch.bne ?_ ?_ | refine Branch.ndec ?_ ?_ | refine Branch.nb ?_ ?_ | refine Branch.mk ?_ ?_) <;> intro h <;> (try simp only [List.length_map] at h) <;> (try omega) <;> (try contradiction)) | (guard_target = Arith .u64 _ _; refine Arith.wrap ?_) | (guard_target = Arith _ _ _; (first | refine Arith.fit (wrap_fit (by omega) (by omega)) ?_ | refine Arith.fit (far_fit _) ?_)) | (guard_target = Need _ _; refine Need.mk (by omega) ?_) | (guard_target = Arith _ _ _; refine Arith.fit (wrap_fit (by first | omega | (simp only [List.length_map]; omega)) (by first | omega | (simp only [List.length_map]; omega))) ?_) | (guard_target = Arith _ _ _; refine Arith.fit (by decide) ?_) | (guard_target = Index _ _ _; first | refine Index.mk _ (idx_u8 (by omega)) ?_ | refine Index.mk _ (idx_map (by omega)) ?_) | (guard_target = Need (_ = true) _; refine Need.mk (by first | kernel_rfl | rfl) ?_) | (guard_target = LinkV _ _ _; first  | refine LinkV.no ?_) | (guard_target = GhO _ _ _ _; refine GhO.go ?_) | (guard_target = Need _ _; refine Need.mk (by first  | omega | (simp only [List.length_map]; omega)) ?_))
    all_goals first | rfl | exact ⟨rfl, trivial⟩ | (exfalso; simp at *; omega)
  · have hb : Src.byte ⟨code, pos, seed⟩ = 0 := if_neg hp
    have hn : nextV ⟨code, pos, seed⟩ = farV (Src.seed1 ⟨code, pos, seed⟩) := if_neg (show ¬ pos + 1 ≤ (code.length : Int) by omega)
    rw [hn]
    simp only [nextS, srcC, Src.seed1, hb]
    refine callX_of_vc htb hm Tryz.func91 rfl rfl rfl rfl (ann := fun _ => none) (gh := fun _ => false) ?_
    repeat' ((conv => whnf); first | (guard_target = Done _; refine Done.mk ?_) | (guard_target = RetX _ _; refine RetX.mk ?_ ?_) | (guard_target = Fact _ _; refine Fact.mk fun hL => ?_; (try simp only [List.length_map, maxLen] at hL)) | (guard_target = Branch _ _ _; (first | refine Branch.dec ?_ ?_ | refine Branch.beq ?_ ?_ | refine Branch.bne ?_ ?_ | refine Branch.ndec ?_ ?_ | refine Branch.nb ?_ ?_ | refine Branch.mk ?_ ?_) <;> intro h <;> (try simp only [List.length_map] at h) <;> (try omega) <;> (try contradiction)) | (guard_target = Arith .u64 _ _; refine Arith.wrap ?_) | (guard_target = Arith _ _ _; (first | refine Arith.fit (wrap_fit (by omega) (by omega)) ?_ | refine Arith.fit (far_fit _) ?_)) | (guard_target = Need _ _; refine Need.mk (by omega) ?_) | (guard_target = Arith _ _ _; refine Arith.fit (wrap_fit (by first | omega | (simp only [List.length_map]; omega)) (by first | omega | (simp only [List.length_map]; omega))) ?_) | (guard_target = Arith _ _ _; refine Arith.fit (by decide) ?_) | (guard_target = Index _ _ _; first  | refine Index.mk _ (idx_map (by omega)) ?_) | (guard_target = Need (_ = true) _; refine Need.mk (by first | kernel_rfl | rfl) ?_) | (guard_target = LinkV _ _ _; first  | refine LinkV.no ?_) | (guard_target = GhO _ _ _ _; refine GhO.go ?_) | (guard_target = Need _ _; refine Need.mk (by first  | omega | (simp only [List.length_map]; omega)) ?_))
    all_goals first | rfl | exact ⟨rfl, trivial⟩ | (exfalso; simp at *; omega)
end
section
variable (s : Src) (hs : Rd s 900000) (hc : s.code.length ≤ 1000000)
include hs hc
theorem pick_ok (n : Int) (hn : I64 n) : CallX Tryz.prog 35 [.c (.op (srcC s)), I n] [some [.op (srcC (pickS s n))], none] (I (pickV s n)) := by
  have h1 := next_ok s (hs.mono (by omega)) hc
  have h2 := next_ok (nextS s) (hs.next.mono (by omega)) hc
  have b1 := nextV_in s
  have b2 := nextV_in (nextS s)
  unfold I64 at hn
  unfold pickS pickV
  by_cases g1 : n ≤ 1
  · rw [if_pos g1, if_pos g1]
    refine callX_of_vc htb hm Tryz.func35 rfl rfl rfl rfl (ann := fun _ => none) (gh := fun _ => false) ?_
    repeat' ((conv => whnf); first | (guard_target = Done _; refine Done.mk ?_) | (guard_target = RetX _ _; refine RetX.mk ?_ ?_) | (guard_target = Fact _ _; refine Fact.mk fun hL => ?_; (try simp only [List.length_map, maxLen] at hL)) | (guard_target = Branch _ _ _; (first | refine Branch.dec ?_ ?_ | refine Branch.beq ?_ ?_ | refine Branch.bne ?_ ?_ | refine Branch.ndec ?_ ?_ | refine Branch.nb ?_ ?_ | refine Branch.mk ?_ ?_) <;> intro h <;> (try simp only [List.length_map] at h) <;> (try omega) <;> (try contradiction)) | (guard_target = Arith _ _ _; refine Arith.fit (wrap_fit (by first | omega | (simp only [List.length_map]; omega)) (by first | omega | (simp only [List.length_map]; omega))) ?_) | (guard_target = Arith _ _ _; refine Arith.fit (by decide) ?_) | (guard_target = Index _ _ _; first  | refine Index.mk _ (idx_map (by omega)) ?_) | (guard_target = Need (_ = true) _; refine Need.mk (by first | kernel_rfl | rfl) ?_) | (guard_target = LinkV _ _ _; first  | refine LinkV.no ?_) | (guard_target = GhO _ _ _ _; refine GhO.go ?_) | (guard_target = Need _ _; refine Need.mk (by first  | omega | (simp only [List.length_map]; omega)) ?_))
    all_goals first | rfl | exact ⟨rfl, trivial⟩ | (exfalso; simp at *; omega)
  rw [if_neg g1, if_neg g1]
  by_cases g2 : n > 200
  · rw [if_pos g2, if_pos g2]
    refine callX_of_vc htb hm Tryz.func35 rfl rfl rfl rfl (ann := fun _ => none) (gh := fun _ => false) ?_
    repeat' ((conv => whnf); first | (guard_target = Done _; refine Done.mk ?_) | (guard_target = RetX _ _; refine RetX.mk ?_ ?_) | (guard_target = Fact _ _; refine Fact.mk fun hL => ?_; (try simp only [List.length_map, maxLen] at hL)) | (guard_target = Branch _ _ _; (first | refine Branch.dec ?_ ?_ | refine Branch.beq ?_ ?_ | refine Branch.bne ?_ ?_ | refine Branch.ndec ?_ ?_ | refine Branch.nb ?_ ?_ | refine Branch.mk ?_ ?_) <;> intro h <;> (try simp only [List.length_map] at h) <;> (try omega) <;> (try contradiction)) | (guard_target = CallN _ 91 _ _ _ _; (first | refine CallN.gen [true] _ _ _ rfl h1 rfl rfl _ rfl ?_ | refine CallN.gen [true] _ _ _ rfl h2 rfl rfl _ rfl ?_)) | (guard_target = Arith _ _ _; refine Arith.fit (wrap_fit (by omega) (by omega)) ?_) | (guard_target = Need _ _; refine Need.mk (by omega) ?_) | (guard_target = Arith _ _ _; refine Arith.fit (wrap_fit (by first | omega | (simp only [List.length_map]; omega)) (by first | omega | (simp only [List.length_map]; omega))) ?_) | (guard_target = Arith _ _ _; refine Arith.fit (by decide) ?_) | (guard_target = Index _ _ _; first  | refine Index.mk _ (idx_map (by omega)) ?_) | (guard_target = Need (_ = true) _; refine Need.mk (by first | kernel_rfl | rfl) ?_) | (guard_target = LinkV _ _ _; first  | refine LinkV.no ?_) | (guard_target = GhO _ _ _ _; refine GhO.go ?_) | (guard_target = Need _ _; refine Need.mk (by first  | omega | (simp only [List.length_map]; omega)) ?_))
    all_goals first | rfl | exact ⟨rfl, trivial⟩ | (exfalso; simp at *; omega)
  · rw [if_neg g2, if_neg g2]
    refine callX_of_vc htb hm Tryz.func35 rfl rfl rfl rfl (ann := fun _ => none) (gh := fun _ => false) ?_
    repeat' ((conv => whnf); first | (guard_target = Done _; refine Done.mk ?_) | (guard_target = RetX _ _; refine RetX.mk ?_ ?_) | (guard_target = Fact _ _; refine Fact.mk fun hL => ?_; (try simp only [List.length_map, maxLen] at hL)) | (guard_target = Branch _ _ _; (first | refine Branch.dec ?_ ?_ | refine Branch.beq ?_ ?_ | refine Branch.bne ?_ ?_ | refine Branch.ndec ?_ ?_ | refine Branch.nb ?_ ?_ | refine Branch.mk ?_ ?_) <;> intro h <;> (try simp only [List.length_map] at h) <;> (try omega) <;> (try contradiction)) | (guard_target = CallN _ 91 _ _ _ _; refine CallN.gen [true] _ _ _ rfl h1 rfl rfl _ rfl ?_) | (guard_target = Arith _ _ _; refine Arith.fit (wrap_fit (by omega) (by omega)) ?_) | (guard_target = Need _ _; refine Need.mk (by omega) ?_) | (guard_target = Arith _ _ _; refine Arith.fit (wrap_fit (by first | omega | (simp only [List.length_map]; omega)) (by first | omega | (simp only [List.length_map]; omega))) ?_) | (guard_target = Arith _ _ _; refine Arith.fit (by decide) ?_) | (guard_target = Index _ _ _; first  | refine Index.mk _ (idx_map (by omega)) ?_) | (guard_target = Need (_ = true) _; refine Need.mk (by first | kernel_rfl | rfl) ?_) | (guard_target = LinkV _ _ _; first  | refine LinkV.no ?_) | (guard_target = GhO _ _ _ _; refine GhO.go ?_) | (guard_target = Need _ _; refine Need.mk (by first  | omega | (simp only [List.length_map]; omega)) ?_))
    all_goals first | rfl | exact ⟨rfl, trivial⟩ | (exfalso; simp at *; omega)
end
end Go.Proofs.YtlfigjkddnncgaaGreat


namespace Go.Proofs.YtlfigjkddnncgaaGreat
open Go Go.KA Go.Proofs
set_option maxHeartbeats 16000000
set_option maxRecDepth 100000
end Go.Proofs.YtlfigjkddnncgaaGreat
