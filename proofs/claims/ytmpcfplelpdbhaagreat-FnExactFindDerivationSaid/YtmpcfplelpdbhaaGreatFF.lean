/- Contracts: whether premises and triples are valid (the program's and the reference's); the size of a derivation, whether it says valid triples; copies. No conditions but bounds of size. -/
import Derived.Test.YtmpcfplelpdbhaaGreatFE
import Derived.Test.YtmpcfplelpdbhaaGreatGV
import Derived.Test.YtmpcfplelpdbhaaGreatTy
namespace Go.Proofs.YtmpcfplelpdbhaaGreat
open Go Go.KA Go.Proofs
set_option maxHeartbeats 16000000
set_option maxRecDepth 100000
def goodPr (t a : Int) (x : XPremise) : Bool := condG t a x.pre && (condG t a x.post && rng 0 (a - 1) x.act)
def goodT (t a : Int) (x : XTriple) : Bool := goodP t a x.prog && (condG t a x.pre && condG t a x.post)
def goodL (t a : Int) (l : List XPremise) : Bool := decide (l.length ≤ 12) && l.all (goodPr t a)
theorem isPremise_ok (t a : Int) (ht : 0 ≤ t ∧ t ≤ 3) (ha0 : 0 ≤ a ∧ a ≤ 4) (x : XPremise) : CallF Tryz.prog 101 [.a 2 [J t, J a], .a 7 (encPremise x)] (B (goodPr t a x)) := by
  refine callF_of_vc htb hm Tryz.func101 rfl rfl rfl rfl (ann := fun _ => none) (gh := fun _ => false) ?_
  repeat' ((conv => whnf); first | (guard_target = Done _; refine Done.mk ?_; first | (simp_all [goodPr, normS, normV]; done) | skip) | (guard_target = RetX _ _; refine RetX.mk ?_ ?_) | (guard_target = Fact _ _; refine Fact.mk fun hL => ?_; (try simp only [List.length_map, maxLen] at hL)) | (guard_target = Branch _ _ _; (first | refine Branch.dec ?_ ?_ | refine Branch.beq ?_ ?_ | refine Branch.bne ?_ ?_ | refine Branch.ndec ?_ ?_ | refine Branch.nb ?_ ?_ | refine Branch.mk ?_ ?_) <;> intro h <;> (try simp only [List.length_map] at h) <;> (try omega) <;> (try contradiction)) | (guard_target = CallN _ 103 _ _ _ _; refine CallN.pure _ _ rfl (isCond_ok' t a ht ha0 _) rfl _ rfl ?_) | (guard_target = CallN _ 130 _ _ _ _; refine CallN.pure _ _ rfl (within_ok _ _ _) rfl _ rfl ?_) | (guard_target = Arith _ _ _; refine Arith.fit (wrap_fit (by first | omega | (simp only [List.length_map]; omega)) (by first | omega | (simp only [List.length_map]; omega))) ?_) | (guard_target = Arith _ _ _; refine Arith.fit (by decide) ?_) | (guard_target = Index _ _ _; first  | refine Index.mk _ (idx_map (by omega)) ?_) | (guard_target = Need (_ = true) _; refine Need.mk (by first | kernel_rfl | rfl) ?_) | (guard_target = LinkV _ _ _; first  | refine LinkV.no ?_) | (guard_target = GhO _ _ _ _; refine GhO.go ?_) | (guard_target = Need _ _; refine Need.mk (by first  | omega | (simp only [List.length_map]; omega)) ?_))
  all_goals first | rfl | trivial
theorem ValidPremises_ok (t a : Int) (l : List XPremise) : CallF Tryz.prog 39 [.a 2 [J t, J a], .c (.ro 7 (l.map encPremise))] (B (goodSig t a && goodL t a l)) := by
  by_cases hs : goodSig t a = true
  · have hb := sig_bounds hs
    have hi := fun x => isPremise_ok t a hb.1 hb.2 x
    rw [hs]
    have hv := validSig_ok t a
    rw [hs] at hv
    refine callF_of_vc htb hm Tryz.func39 rfl rfl rfl rfl (ann := fun _ => none) (gh := fun _ => false) ?_
    repeat' ((conv => whnf); first | (guard_target = Done _; refine Done.mk ?_; first | ((rw [show goodL t a l = false from (by unfold goodL; rw [all_stop (i := i) (by omega) h, Bool.and_false])]; rfl); done) | ((rw [show goodL t a l = true from (by unfold goodL; rw [all_end (by omega) ha, decide_eq_true (by omega)]; rfl)]; rfl); done) | ((rw [show goodL t a l = false from (by unfold goodL; rw [decide_eq_false (by omega), Bool.false_and])]; rfl); done) | skip) | (guard_target = RetX _ _; refine RetX.mk ?_ ?_) | (guard_target =~ LoopE 4 _ _ _ _ _ _; refine LoopE.mk { α := Nat, keep := [2, 15, 16], ov := fun i => [(17, I (i : Nat))], φ := fun i => i ≤ l.length ∧ (l.take i).all (goodPr t a) = true, μ := fun i => l.length - i } (LoopN.mk (0 : Nat) (by exact ⟨Nat.zero_le _, rfl⟩) (by (repeat' ((conv => whnf) <;> (first | exact trivial | refine ⟨?_, ?_⟩ | kernel_rfl))); done) (by (repeat' ((conv => whnf) <;> (first | exact trivial | refine ⟨?_, ?_⟩ | kernel_rfl))); done) (by (repeat' ((conv => whnf) <;> (first | exact trivial | refine ⟨?_, ?_⟩ | exact rfl | (simp only [List.map_append, List.map_cons, List.map_nil, List.map_set]; first | done | rfl)))); done) (fun (i : Nat) ha => ?_) (by intro A; first | rfl | (obtain ⟨_, _⟩ := A; rfl) | (obtain ⟨_, _, _⟩ := A; rfl))); have ha : i ≤ l.length ∧ (l.take i).all (goodPr t a) = true := ha) | (guard_target = Gh _ _ _ _ _; refine Gh.go ⟨(i + 1 : Nat), (by exact all_go (by omega) ha h), (by first | (show _ < _; simp only []; omega) | omega | (simp; omega)), (by (repeat' ((conv => whnf) <;> (first | exact trivial | refine ⟨?_, ?_⟩ | kernel_rfl))); done), (by (repeat' ((conv => whnf) <;> (first | exact trivial | refine ⟨?_, ?_⟩ | kernel_rfl))); done), (by (repeat' ((conv => whnf) <;> (first | exact trivial | refine ⟨?_, ?_⟩ | exact rfl | (simp only [List.map_append, List.map_cons, List.map_nil, List.map_set]; first | done | rfl)))); done)⟩) | (guard_target = Fact _ _; refine Fact.mk fun hL => ?_; (try simp only [List.length_map, maxLen] at hL)) | (guard_target = Branch _ _ _; (first | refine Branch.dec ?_ ?_ | refine Branch.beq ?_ ?_ | refine Branch.bne ?_ ?_ | refine Branch.ndec ?_ ?_ | refine Branch.nb ?_ ?_ | refine Branch.mk ?_ ?_) <;> intro h <;> (try simp only [List.length_map] at h) <;> (try omega) <;> (try contradiction)) | (guard_target = CallN _ 100 _ _ _ _; refine CallN.pure _ _ rfl (hv) rfl _ rfl ?_) | (guard_target = CallN _ 101 _ _ _ _; refine CallN.pure _ _ rfl (hi _) rfl _ rfl ?_) | (guard_target = Arith _ _ _; refine Arith.fit (wrap_fit (by first | omega | (simp only [List.length_map]; omega)) (by first | omega | (simp only [List.length_map]; omega))) ?_) | (guard_target = Arith _ _ _; refine Arith.fit (by decide) ?_) | (guard_target = Index _ _ _; first | refine Index.mk _ (idx_map (l := l) (i := i) (by omega)) ?_ | refine Index.mk _ (idx_map (by omega)) ?_) | (guard_target = Need (_ = true) _; refine Need.mk (by first | kernel_rfl | rfl) ?_) | (guard_target = LinkV _ _ _; first  | refine LinkV.no ?_) | (guard_target = GhO _ _ _ _; refine GhO.go ?_) | (guard_target = Need _ _; refine Need.mk (by first  | omega | (simp only [List.length_map]; omega)) ?_))
    all_goals first | rfl | trivial
  · have hs' : goodSig t a = false := by simpa using hs
    have hv := validSig_ok t a
    rw [hs'] at hv
    rw [hs']
    refine callF_of_vc htb hm Tryz.func39 rfl rfl rfl rfl (ann := fun _ => none) (gh := fun _ => false) ?_
    repeat' ((conv => whnf); first | (guard_target = Done _; refine Done.mk ?_; first | (rfl; done) | skip) | (guard_target = RetX _ _; refine RetX.mk ?_ ?_) | (guard_target = Fact _ _; refine Fact.mk fun hL => ?_; (try simp only [List.length_map, maxLen] at hL)) | (guard_target = Branch _ _ _; (first | refine Branch.dec ?_ ?_ | refine Branch.beq ?_ ?_ | refine Branch.bne ?_ ?_ | refine Branch.ndec ?_ ?_ | refine Branch.nb ?_ ?_ | refine Branch.mk ?_ ?_) <;> intro h <;> (try simp only [] at h) <;> (try omega) <;> (try contradiction)) | (guard_target = CallN _ 100 _ _ _ _; refine CallN.pure _ _ rfl (hv) rfl _ rfl ?_) | (guard_target = Arith _ _ _; refine Arith.fit (wrap_fit (by first | omega | (simp only [List.length_map]; omega)) (by first | omega | (simp only [List.length_map]; omega))) ?_) | (guard_target = Arith _ _ _; refine Arith.fit (by decide) ?_) | (guard_target = Index _ _ _; first  | refine Index.mk _ (idx_map (by omega)) ?_) | (guard_target = Need (_ = true) _; refine Need.mk (by first | kernel_rfl | rfl) ?_) | (guard_target = LinkV _ _ _; first  | refine LinkV.no ?_) | (guard_target = GhO _ _ _ _; refine GhO.go ?_) | (guard_target = Need _ _; refine Need.mk (by first  | omega | (simp only [List.length_map]; omega)) ?_))
    all_goals first | rfl | trivial
theorem ValidTriple_ok (t a : Int) (x : XTriple) : CallF Tryz.prog 40 [.a 2 [J t, J a], .a 12 (encTriple x)] (B (goodSig t a && goodT t a x)) := by
  have hv : CallF Tryz.prog 102 [.a 2 [J t, J a], .a 6 (toldP x.prog)] (B (goodSig t a && goodP t a x.prog)) := by
    have hv := validSig_ok t a
    by_cases hs : goodSig t a = true
    · have hb := sig_bounds hs
      have hp := isProg_ok t a hb.1 hb.2 x.prog
      rw [encProg_eq] at hp
      refine callF_of_vc htb hm Tryz.func102 rfl rfl rfl rfl (ann := fun _ => none) (gh := fun _ => false) ?_
      repeat' ((conv => whnf); first | (guard_target = Done _; refine Done.mk ?_; first | (rfl; done) | (simp_all [normS, normV]; done) | (simp_all [normS, normV]; omega; done) | (simp_all [normS, normV]; intros; omega; done) | (simp_all [-List.all_eq_true, -List.all_eq_false, normS, normV]; done) | (simp_all [-List.all_eq_true, -List.all_eq_false, normS, normV]; omega; done) | skip) | (guard_target = RetX _ _; refine RetX.mk ?_ ?_) | (guard_target = Fact _ _; refine Fact.mk fun hL => ?_; (try simp only [List.length_map, maxLen] at hL)) | (guard_target = Branch _ _ _; (first | refine Branch.dec ?_ ?_ | refine Branch.beq ?_ ?_ | refine Branch.bne ?_ ?_ | refine Branch.ndec ?_ ?_ | refine Branch.nb ?_ ?_ | refine Branch.mk ?_ ?_) <;> intro h <;> (try simp only [List.length_map] at h) <;> (try omega) <;> (try contradiction)) | (guard_target = CallN _ 100 _ _ _ _; refine CallN.pure _ _ rfl (hv) rfl _ rfl ?_) | (guard_target = CallN _ 163 _ _ _ _; refine CallN.pure _ _ rfl (hp) rfl _ rfl ?_) | (guard_target = Arith _ _ _; refine Arith.fit (wrap_fit (by first | omega | (simp only [List.length_map]; omega)) (by first | omega | (simp only [List.length_map]; omega))) ?_) | (guard_target = Arith _ _ _; refine Arith.fit (by decide) ?_) | (guard_target = Index _ _ _; first  | refine Index.mk _ (idx_map (by omega)) ?_) | (guard_target = Need (_ = true) _; refine Need.mk (by first | kernel_rfl | rfl) ?_) | (guard_target = LinkV _ _ _; first  | refine LinkV.no ?_) | (guard_target = GhO _ _ _ _; refine GhO.go ?_) | (guard_target = Need _ _; refine Need.mk (by first  | omega | (simp only [List.length_map]; omega)) ?_))
      all_goals first | rfl | trivial
    · have hs' : goodSig t a = false := by simpa using hs
      rw [hs'] at hv ⊢
      refine callF_of_vc htb hm Tryz.func102 rfl rfl rfl rfl (ann := fun _ => none) (gh := fun _ => false) ?_
      repeat' ((conv => whnf); first | (guard_target = Done _; refine Done.mk ?_; first | (rfl; done) | (simp_all [normS, normV]; done) | (simp_all [normS, normV]; omega; done) | (simp_all [normS, normV]; intros; omega; done) | (simp_all [-List.all_eq_true, -List.all_eq_false, normS, normV]; done) | (simp_all [-List.all_eq_true, -List.all_eq_false, normS, normV]; omega; done) | skip) | (guard_target = RetX _ _; refine RetX.mk ?_ ?_) | (guard_target = Fact _ _; refine Fact.mk fun hL => ?_; (try simp only [List.length_map, maxLen] at hL)) | (guard_target = Branch _ _ _; (first | refine Branch.dec ?_ ?_ | refine Branch.beq ?_ ?_ | refine Branch.bne ?_ ?_ | refine Branch.ndec ?_ ?_ | refine Branch.nb ?_ ?_ | refine Branch.mk ?_ ?_) <;> intro h <;> (try simp only [] at h) <;> (try omega) <;> (try contradiction)) | (guard_target = CallN _ 100 _ _ _ _; refine CallN.pure _ _ rfl (hv) rfl _ rfl ?_) | (guard_target = Arith _ _ _; refine Arith.fit (wrap_fit (by first | omega | (simp only [List.length_map]; omega)) (by first | omega | (simp only [List.length_map]; omega))) ?_) | (guard_target = Arith _ _ _; refine Arith.fit (by decide) ?_) | (guard_target = Index _ _ _; first  | refine Index.mk _ (idx_map (by omega)) ?_) | (guard_target = Need (_ = true) _; refine Need.mk (by first | kernel_rfl | rfl) ?_) | (guard_target = LinkV _ _ _; first  | refine LinkV.no ?_) | (guard_target = GhO _ _ _ _; refine GhO.go ?_) | (guard_target = Need _ _; refine Need.mk (by first  | omega | (simp only [List.length_map]; omega)) ?_))
      all_goals first | rfl | trivial
  by_cases hs : goodSig t a = true
  · have hb := sig_bounds hs
    refine callF_of_vc htb hm Tryz.func40 rfl rfl rfl rfl (ann := fun _ => none) (gh := fun _ => false) ?_
    repeat' ((conv => whnf); first | (guard_target = Done _; refine Done.mk ?_; first | (rfl; done) | (simp_all [goodT, normS, normV]; done) | (simp_all [goodT, normS, normV]; omega; done) | (simp_all [goodT, normS, normV]; intros; omega; done) | (simp_all [-List.all_eq_true, -List.all_eq_false, goodT, normS, normV]; done) | (simp_all [-List.all_eq_true, -List.all_eq_false, goodT, normS, normV]; omega; done) | skip) | (guard_target = RetX _ _; refine RetX.mk ?_ ?_) | (guard_target = Fact _ _; refine Fact.mk fun hL => ?_; (try simp only [List.length_map, maxLen] at hL)) | (guard_target = Branch _ _ _; (first | refine Branch.dec ?_ ?_ | refine Branch.beq ?_ ?_ | refine Branch.bne ?_ ?_ | refine Branch.ndec ?_ ?_ | refine Branch.nb ?_ ?_ | refine Branch.mk ?_ ?_) <;> intro h <;> (try simp only [List.length_map] at h) <;> (try omega) <;> (try contradiction)) | (guard_target = CallN _ 102 _ _ _ _; refine CallN.pure _ _ rfl (hv) rfl _ rfl ?_) | (guard_target = CallN _ 103 _ _ _ _; refine CallN.pure _ _ rfl (isCond_ok' t a hb.1 hb.2 _) rfl _ rfl ?_) | (guard_target = Arith _ _ _; refine Arith.fit (wrap_fit (by first | omega | (simp only [List.length_map]; omega)) (by first | omega | (simp only [List.length_map]; omega))) ?_) | (guard_target = Arith _ _ _; refine Arith.fit (by decide) ?_) | (guard_target = Index _ _ _; first  | refine Index.mk _ (idx_map (by omega)) ?_) | (guard_target = Need (_ = true) _; refine Need.mk (by first | kernel_rfl | rfl) ?_) | (guard_target = LinkV _ _ _; first  | refine LinkV.no ?_) | (guard_target = GhO _ _ _ _; refine GhO.go ?_) | (guard_target = Need _ _; refine Need.mk (by first  | omega | (simp only [List.length_map]; omega)) ?_))
    all_goals first | rfl | trivial
  · have hs' : goodSig t a = false := by simpa using hs
    rw [hs'] at hv ⊢
    refine callF_of_vc htb hm Tryz.func40 rfl rfl rfl rfl (ann := fun _ => none) (gh := fun _ => false) ?_
    repeat' ((conv => whnf); first | (guard_target = Done _; refine Done.mk ?_; first | (rfl; done) | skip) | (guard_target = RetX _ _; refine RetX.mk ?_ ?_) | (guard_target = Fact _ _; refine Fact.mk fun hL => ?_; (try simp only [List.length_map, maxLen] at hL)) | (guard_target = Branch _ _ _; (first | refine Branch.dec ?_ ?_ | refine Branch.beq ?_ ?_ | refine Branch.bne ?_ ?_ | refine Branch.ndec ?_ ?_ | refine Branch.nb ?_ ?_ | refine Branch.mk ?_ ?_) <;> intro h <;> (try simp only [List.length_map] at h) <;> (try omega) <;> (try contradiction)) | (guard_target = CallN _ 102 _ _ _ _; refine CallN.pure _ _ rfl (hv) rfl _ rfl ?_) | (guard_target = Arith _ _ _; refine Arith.fit (wrap_fit (by first | omega | (simp only [List.length_map]; omega)) (by first | omega | (simp only [List.length_map]; omega))) ?_) | (guard_target = Arith _ _ _; refine Arith.fit (by decide) ?_) | (guard_target = Index _ _ _; first  | refine Index.mk _ (idx_map (by omega)) ?_) | (guard_target = Need (_ = true) _; refine Need.mk (by first | kernel_rfl | rfl) ?_) | (guard_target = LinkV _ _ _; first  | refine LinkV.no ?_) | (guard_target = GhO _ _ _ _; refine GhO.go ?_) | (guard_target = Need _ _; refine Need.mk (by first  | omega | (simp only [List.length_map]; omega)) ?_))
    all_goals first | rfl | trivial
/-! ### the reference's -/
theorem l06Cond_any (t a : Int) (e : XExpr) (hl : budExpr e ≤ 1048576) : CallF Tryz.prog 87 [.a 2 [J t, J a], .c (.rp 3 (encExpr e))] (B (goodSig t a && condG t a e)) := by
  have h1 := l01Ok_ok t a e hl
  have h2 := l01Condition_ok e
  unfold condG
  refine callF_of_vc htb hm Tryz.func87 rfl rfl rfl rfl (ann := fun _ => none) (gh := fun _ => false) ?_
  repeat' ((conv => whnf); first | (guard_target = Done _; refine Done.mk ?_; first | (rfl; done) | (simp_all [normS, normV]; done) | (simp_all [normS, normV]; omega; done) | (simp_all [normS, normV]; intros; omega; done) | (simp_all [-List.all_eq_true, -List.all_eq_false, normS, normV]; done) | (simp_all [-List.all_eq_true, -List.all_eq_false, normS, normV]; omega; done) | skip) | (guard_target = RetX _ _; refine RetX.mk ?_ ?_) | (guard_target = Fact _ _; refine Fact.mk fun hL => ?_; (try simp only [List.length_map, maxLen] at hL)) | (guard_target = Branch _ _ _; (first | refine Branch.dec ?_ ?_ | refine Branch.beq ?_ ?_ | refine Branch.bne ?_ ?_ | refine Branch.ndec ?_ ?_ | refine Branch.nb ?_ ?_ | refine Branch.mk ?_ ?_) <;> intro h <;> (try simp only [List.length_map] at h) <;> (try omega) <;> (try contradiction)) | (guard_target = CallN _ 148 _ _ _ _; refine CallN.pure _ _ rfl (h1) rfl _ rfl ?_) | (guard_target = CallN _ 149 _ _ _ _; refine CallN.pure _ _ rfl (h2) rfl _ rfl ?_) | (guard_target = Arith _ _ _; refine Arith.fit (wrap_fit (by first | omega | (simp only [List.length_map]; omega)) (by first | omega | (simp only [List.length_map]; omega))) ?_) | (guard_target = Arith _ _ _; refine Arith.fit (by decide) ?_) | (guard_target = Index _ _ _; first  | refine Index.mk _ (idx_map (by omega)) ?_) | (guard_target = Need (_ = true) _; refine Need.mk (by first | kernel_rfl | rfl) ?_) | (guard_target = LinkV _ _ _; first  | refine LinkV.no ?_) | (guard_target = GhO _ _ _ _; refine GhO.go ?_) | (guard_target = Need _ _; refine Need.mk (by first  | omega | (simp only [List.length_map]; omega)) ?_))
  all_goals first | rfl | trivial
theorem l07Premise_ok (t a : Int) (x : XPremise) (hl : budPremise x ≤ 1048576) : CallF Tryz.prog 85 [.a 2 [J t, J a], .c (.rp 7 (encPremise x))] (B (goodSig t a && goodPr t a x)) := by
  unfold budPremise at hl
  have h1 := l06Cond_any t a x.pre (by omega)
  have h2 := l06Cond_any t a x.post (by omega)
  rw [encExpr_eq] at h1 h2
  have h1' : CallF Tryz.prog 87 [.a 2 [J t, J a], .c (.rp 7 (encPremise x))] (B (goodSig t a && condG t a x.pre)) := h1.cut (.same (.cut (k := 3) (by omega) .nil))
  by_cases hs : goodSig t a = true
  · have hb := sig_bounds hs
    have hact : CallF Tryz.prog 147 [.a 2 [J t, J a], I x.act] (B (rng 0 (a - 1) x.act)) := by
      refine callF_of_vc htb hm Tryz.func147 rfl rfl rfl rfl (ann := fun _ => none) (gh := fun _ => false) ?_
      repeat' ((conv => whnf); first | (guard_target = Done _; refine Done.mk ?_; first | (rfl; done) | skip) | (guard_target = RetX _ _; refine RetX.mk ?_ ?_) | (guard_target = Fact _ _; refine Fact.mk fun hL => ?_; (try simp only [List.length_map, maxLen] at hL)) | (guard_target = Branch _ _ _; (first | refine Branch.dec ?_ ?_ | refine Branch.beq ?_ ?_ | refine Branch.bne ?_ ?_ | refine Branch.ndec ?_ ?_ | refine Branch.nb ?_ ?_ | refine Branch.mk ?_ ?_) <;> intro h <;> (try simp only [List.length_map] at h) <;> (try omega) <;> (try contradiction)) | (guard_target = CallN _ 122 _ _ _ _; refine CallN.pure _ _ rfl (l00In_ok _ _ _) rfl _ rfl ?_) | (guard_target = Arith _ _ _; refine Arith.fit (wrap_fit (by first | omega | (simp only [List.length_map]; omega)) (by first | omega | (simp only [List.length_map]; omega))) ?_) | (guard_target = Arith _ _ _; refine Arith.fit (by decide) ?_) | (guard_target = Index _ _ _; first  | refine Index.mk _ (idx_map (by omega)) ?_) | (guard_target = Need (_ = true) _; refine Need.mk (by first | kernel_rfl | rfl) ?_) | (guard_target = LinkV _ _ _; first  | refine LinkV.no ?_) | (guard_target = GhO _ _ _ _; refine GhO.go ?_) | (guard_target = Need _ _; refine Need.mk (by first  | omega | (simp only [List.length_map]; omega)) ?_))
      all_goals first | rfl | trivial
    refine callF_of_vc htb hm Tryz.func85 rfl rfl rfl rfl (ann := fun _ => none) (gh := fun _ => false) ?_
    repeat' ((conv => whnf); first | (guard_target = Done _; refine Done.mk ?_; first | (rfl; done) | (simp_all [goodPr, normS, normV]; done) | (simp_all [goodPr, normS, normV]; omega; done) | (simp_all [goodPr, normS, normV]; intros; omega; done) | (simp_all [-List.all_eq_true, -List.all_eq_false, goodPr, normS, normV]; done) | (simp_all [-List.all_eq_true, -List.all_eq_false, goodPr, normS, normV]; omega; done) | skip) | (guard_target = RetX _ _; refine RetX.mk ?_ ?_) | (guard_target = Fact _ _; refine Fact.mk fun hL => ?_; (try simp only [List.length_map, maxLen] at hL)) | (guard_target = Branch _ _ _; (first | refine Branch.dec ?_ ?_ | refine Branch.beq ?_ ?_ | refine Branch.bne ?_ ?_ | refine Branch.ndec ?_ ?_ | refine Branch.nb ?_ ?_ | refine Branch.mk ?_ ?_) <;> intro h <;> (try simp only [List.length_map] at h) <;> (try omega) <;> (try contradiction)) | (guard_target = CallN _ 87 _ _ _ _; refine CallN.pure _ _ rfl (h1') rfl _ rfl ?_) | (guard_target = CallN _ 87 _ _ _ _; refine CallN.pure _ _ rfl (h2) rfl _ rfl ?_) | (guard_target = CallN _ 147 _ _ _ _; refine CallN.pure _ _ rfl (hact) rfl _ rfl ?_) | (guard_target = CallD _ 87 _ _ _; refine CallD.mk _ _ rfl (h1') rfl _ rfl ?_) | (guard_target = CallD _ 87 _ _ _; refine CallD.mk _ _ rfl (h2) rfl _ rfl ?_) | (guard_target = CallD _ 147 _ _ _; refine CallD.mk _ _ rfl (hact) rfl _ rfl ?_) | (guard_target = Arith _ _ _; refine Arith.fit (wrap_fit (by first | omega | (simp only [List.length_map]; omega)) (by first | omega | (simp only [List.length_map]; omega))) ?_) | (guard_target = Arith _ _ _; refine Arith.fit (by decide) ?_) | (guard_target = Index _ _ _; first  | refine Index.mk _ (idx_map (by omega)) ?_) | (guard_target = Need (_ = true) _; refine Need.mk (by first | kernel_rfl | rfl) ?_) | (guard_target = LinkV _ _ _; first  | refine LinkV.no ?_) | (guard_target = GhO _ _ _ _; refine GhO.go ?_) | (guard_target = Need _ _; refine Need.mk (by first  | omega | (simp only [List.length_map]; omega)) ?_))
    all_goals first | rfl | trivial
  · have hs' : goodSig t a = false := by simpa using hs
    rw [hs'] at h1' h2 ⊢
    refine callF_of_vc htb hm Tryz.func85 rfl rfl rfl rfl (ann := fun _ => none) (gh := fun _ => false) ?_
    repeat' ((conv => whnf); first | (guard_target = Done _; refine Done.mk ?_; first | (rfl; done) | (simp_all [normS, normV]; done) | (simp_all [normS, normV]; omega; done) | (simp_all [normS, normV]; intros; omega; done) | (simp_all [-List.all_eq_true, -List.all_eq_false, normS, normV]; done) | (simp_all [-List.all_eq_true, -List.all_eq_false, normS, normV]; omega; done) | skip) | (guard_target = RetX _ _; refine RetX.mk ?_ ?_) | (guard_target = Fact _ _; refine Fact.mk fun hL => ?_; (try simp only [List.length_map, maxLen] at hL)) | (guard_target = Branch _ _ _; (first | refine Branch.dec ?_ ?_ | refine Branch.beq ?_ ?_ | refine Branch.bne ?_ ?_ | refine Branch.ndec ?_ ?_ | refine Branch.nb ?_ ?_ | refine Branch.mk ?_ ?_) <;> intro h <;> (try simp only [List.length_map] at h) <;> (try omega) <;> (try contradiction)) | (guard_target = CallN _ 87 _ _ _ _; refine CallN.pure _ _ rfl (h1') rfl _ rfl ?_) | (guard_target = CallN _ 87 _ _ _ _; refine CallN.pure _ _ rfl (h2) rfl _ rfl ?_) | (guard_target = CallD _ 87 _ _ _; refine CallD.mk _ _ rfl (h1') rfl _ rfl ?_) | (guard_target = CallD _ 87 _ _ _; refine CallD.mk _ _ rfl (h2) rfl _ rfl ?_) | (guard_target = Arith _ _ _; refine Arith.fit (wrap_fit (by first | omega | (simp only [List.length_map]; omega)) (by first | omega | (simp only [List.length_map]; omega))) ?_) | (guard_target = Arith _ _ _; refine Arith.fit (by decide) ?_) | (guard_target = Index _ _ _; first  | refine Index.mk _ (idx_map (by omega)) ?_) | (guard_target = Need (_ = true) _; refine Need.mk (by first | kernel_rfl | rfl) ?_) | (guard_target = LinkV _ _ _; first  | refine LinkV.no ?_) | (guard_target = GhO _ _ _ _; refine GhO.go ?_) | (guard_target = Need _ _; refine Need.mk (by first  | omega | (simp only [List.length_map]; omega)) ?_))
    all_goals first | rfl | trivial
theorem prem_no {t a : Int} {l : List XPremise} {i : Nat} (hi : i < l.length) (h : (goodSig t a && goodPr t a l[i]) = false) : (goodSig t a && goodL t a l) = false := by
  cases hs : goodSig t a with
  | false => rfl
  | true =>
    rw [hs, Bool.true_and] at h
    unfold goodL
    rw [all_no hi h, Bool.and_false, Bool.and_false]
theorem prem_yes {t a : Int} {l : List XPremise} (hs : goodSig t a = true) (h : l.all (fun x => goodSig t a && goodPr t a x) = true) : (goodSig t a && goodL t a l) = decide ((l.length : Int) ≤ 12) := by
  have : l.all (goodPr t a) = true := by
    rw [List.all_eq_true] at h ⊢
    intro x hx
    have := h x hx
    rw [hs] at this
    exact this
  unfold goodL
  rw [hs, this, Bool.true_and, Bool.and_true]
  refine bool_ext ?_
  rw [decide_eq_true_eq, decide_eq_true_eq]
  omega
theorem l07Premises_ok (t a : Int) (l : List XPremise) (hl : budS budPremise l ≤ 1048576) : CallF Tryz.prog 31 [.a 2 [J t, J a], .c (.ro 7 (l.map encPremise))] (B (goodSig t a && goodL t a l)) := by
  have hv := l01Sig_ok t a
  have hi := fun (i : Nat) (hi : i < l.length) => l07Premise_ok t a l[i] (by have := budS_mem budPremise (List.getElem_mem hi); omega)
  have hn := budS_len budPremise l
  refine callF_of_vc htb hm Tryz.func31 rfl rfl rfl rfl (ann := fun _ => none) (gh := fun _ => false) ?_
  repeat' ((conv => whnf); first | (guard_target = Done _; refine Done.mk ?_; first | ((rw [prem_no (i := i) (by omega) h]; rfl); done) | ((rw [prem_yes (by assumption) (all_end (by omega) ha), List.length_map]; rfl); done) | ((rw [show goodSig t a = false from (by assumption)]; rfl); done) | skip) | (guard_target = RetX _ _; refine RetX.mk ?_ ?_) | (guard_target =~ LoopE 2 _ _ _ _ _ _; refine LoopE.mk { α := Nat, keep := [1, 2], ov := fun i => [(5, I (i : Nat))], φ := fun i => i ≤ l.length ∧ (l.take i).all (fun x => goodSig t a && goodPr t a x) = true, μ := fun i => l.length - i } (LoopN.mk (0 : Nat) (by exact ⟨Nat.zero_le _, rfl⟩) (by (repeat' ((conv => whnf) <;> (first | exact trivial | refine ⟨?_, ?_⟩ | kernel_rfl))); done) (by (repeat' ((conv => whnf) <;> (first | exact trivial | refine ⟨?_, ?_⟩ | kernel_rfl))); done) (by (repeat' ((conv => whnf) <;> (first | exact trivial | refine ⟨?_, ?_⟩ | exact rfl | (simp only [List.map_append, List.map_cons, List.map_nil, List.map_set]; first | done | rfl)))); done) (fun (i : Nat) ha => ?_) (by intro A; first | rfl | (obtain ⟨_, _⟩ := A; rfl) | (obtain ⟨_, _, _⟩ := A; rfl))); have ha : i ≤ l.length ∧ (l.take i).all (fun x => goodSig t a && goodPr t a x) = true := ha) | (guard_target = Gh _ _ _ _ _; refine Gh.go ⟨(i + 1 : Nat), (by exact all_go (by omega) ha (by assumption)), (by first | (show _ < _; simp only []; omega) | omega | (simp; omega)), (by (repeat' ((conv => whnf) <;> (first | exact trivial | refine ⟨?_, ?_⟩ | kernel_rfl))); done), (by (repeat' ((conv => whnf) <;> (first | exact trivial | refine ⟨?_, ?_⟩ | kernel_rfl))); done), (by (repeat' ((conv => whnf) <;> (first | exact trivial | refine ⟨?_, ?_⟩ | exact rfl | (simp only [List.map_append, List.map_cons, List.map_nil, List.map_set]; first | done | rfl)))); done)⟩) | (guard_target = Fact _ _; refine Fact.mk fun hL => ?_; (try simp only [List.length_map, maxLen] at hL)) | (guard_target = Branch _ _ _; (first | refine Branch.dec ?_ ?_ | refine Branch.beq ?_ ?_ | refine Branch.bne ?_ ?_ | refine Branch.ndec ?_ ?_ | refine Branch.nb ?_ ?_ | refine Branch.mk ?_ ?_) <;> intro h <;> (try simp only [List.length_map] at h) <;> (try omega) <;> (try contradiction)) | (guard_target = CallN _ 86 _ _ _ _; refine CallN.pure _ _ rfl (hv) rfl _ rfl ?_) | (guard_target = CallN _ 85 _ _ _ _; refine CallN.pure _ _ rfl (hi i (by omega)) rfl _ rfl ?_) | (guard_target = CallD _ 85 _ _ _; refine CallD.mk _ _ rfl (hi i (by omega)) rfl _ rfl ?_) | (guard_target = Arith _ _ _; refine Arith.fit (wrap_fit (by first | omega | (simp only [List.length_map]; omega)) (by first | omega | (simp only [List.length_map]; omega))) ?_) | (guard_target = Arith _ _ _; refine Arith.fit (by decide) ?_) | (guard_target = Index _ _ _; first | refine Index.mk _ (idx_map (l := l) (i := i) (by omega)) ?_ | refine Index.mk _ (idx_map (by omega)) ?_) | (guard_target = Need (_ = true) _; refine Need.mk (by first | kernel_rfl | rfl) ?_) | (guard_target = LinkV _ _ _; first  | refine LinkV.no ?_) | (guard_target = GhO _ _ _ _; refine GhO.go ?_) | (guard_target = Need _ _; refine Need.mk (by first  | omega | (simp only [List.length_map]; omega)) ?_))
  all_goals first | rfl | trivial
theorem l07Triple_ok (t a : Int) (x : XTriple) (hl : budTriple x ≤ 1048576) : CallF Tryz.prog 32 [.a 2 [J t, J a], .c (.rp 12 (encTriple x))] (B (goodSig t a && goodT t a x)) := by
  unfold budTriple at hl
  have h1 := l06Cond_any t a x.pre (by omega)
  have h2 := l06Cond_any t a x.post (by omega)
  have h3 := l06Ok_ok t a x.prog (by omega)
  rw [encExpr_eq] at h1 h2
  rw [encProg_eq] at h3
  have h1' : CallF Tryz.prog 87 [.a 2 [J t, J a], .c (.rp 12 (encTriple x))] (B (goodSig t a && condG t a x.pre)) := h1.cut (.same (.cut (k := 3) (by omega) .nil))
  have h3' : CallF Tryz.prog 88 [.a 2 [J t, J a], .c (.rp 9 ((encTriple x).drop 3))] (B (goodSig t a && goodP t a x.prog)) := h3.cut (.same (.cut (k := 6) (by omega) .nil))
  cases hs : goodSig t a with
  | true =>
    rw [hs] at h1' h2 h3'
    refine callF_of_vc htb hm Tryz.func32 rfl rfl rfl rfl (ann := fun _ => none) (gh := fun _ => false) ?_
    repeat' ((conv => whnf); first | (guard_target = Done _; refine Done.mk ?_; first | (rfl; done) | (simp_all [goodT, normS, normV]; done) | (simp_all [goodT, normS, normV]; omega; done) | (simp_all [goodT, normS, normV]; intros; omega; done) | (simp_all [-List.all_eq_true, -List.all_eq_false, goodT, normS, normV]; done) | (simp_all [-List.all_eq_true, -List.all_eq_false, goodT, normS, normV]; omega; done) | skip) | (guard_target = RetX _ _; refine RetX.mk ?_ ?_) | (guard_target = Fact _ _; refine Fact.mk fun hL => ?_; (try simp only [List.length_map, maxLen] at hL)) | (guard_target = Branch _ _ _; (first | refine Branch.dec ?_ ?_ | refine Branch.beq ?_ ?_ | refine Branch.bne ?_ ?_ | refine Branch.ndec ?_ ?_ | refine Branch.nb ?_ ?_ | refine Branch.mk ?_ ?_) <;> intro h <;> (try simp only [List.length_map] at h) <;> (try omega) <;> (try contradiction)) | (guard_target = CallN _ 87 _ _ _ _; refine CallN.pure _ _ rfl (h1') rfl _ rfl ?_) | (guard_target = CallN _ 87 _ _ _ _; refine CallN.pure _ _ rfl (h2) rfl _ rfl ?_) | (guard_target = CallN _ 88 _ _ _ _; refine CallN.pure _ _ rfl (h3') rfl _ rfl ?_) | (guard_target = Arith _ _ _; refine Arith.fit (wrap_fit (by first | omega | (simp only [List.length_map]; omega)) (by first | omega | (simp only [List.length_map]; omega))) ?_) | (guard_target = Arith _ _ _; refine Arith.fit (by decide) ?_) | (guard_target = Index _ _ _; first  | refine Index.mk _ (idx_map (by omega)) ?_) | (guard_target = Need (_ = true) _; refine Need.mk (by first | kernel_rfl | rfl) ?_) | (guard_target = LinkV _ _ _; first  | refine LinkV.no ?_) | (guard_target = GhO _ _ _ _; refine GhO.go ?_) | (guard_target = Need _ _; refine Need.mk (by first  | omega | (simp only [List.length_map]; omega)) ?_))
    all_goals first | rfl | trivial
  | false =>
    rw [hs] at h1' h2 h3'
    refine callF_of_vc htb hm Tryz.func32 rfl rfl rfl rfl (ann := fun _ => none) (gh := fun _ => false) ?_
    repeat' ((conv => whnf); first | (guard_target = Done _; refine Done.mk ?_; first | (rfl; done) | (simp_all [normS, normV]; done) | (simp_all [normS, normV]; omega; done) | (simp_all [normS, normV]; intros; omega; done) | (simp_all [-List.all_eq_true, -List.all_eq_false, normS, normV]; done) | (simp_all [-List.all_eq_true, -List.all_eq_false, normS, normV]; omega; done) | skip) | (guard_target = RetX _ _; refine RetX.mk ?_ ?_) | (guard_target = Fact _ _; refine Fact.mk fun hL => ?_; (try simp only [List.length_map, maxLen] at hL)) | (guard_target = Branch _ _ _; (first | refine Branch.dec ?_ ?_ | refine Branch.beq ?_ ?_ | refine Branch.bne ?_ ?_ | refine Branch.ndec ?_ ?_ | refine Branch.nb ?_ ?_ | refine Branch.mk ?_ ?_) <;> intro h <;> (try simp only [List.length_map] at h) <;> (try omega) <;> (try contradiction)) | (guard_target = CallN _ 87 _ _ _ _; refine CallN.pure _ _ rfl (h1') rfl _ rfl ?_) | (guard_target = CallN _ 87 _ _ _ _; refine CallN.pure _ _ rfl (h2) rfl _ rfl ?_) | (guard_target = CallN _ 88 _ _ _ _; refine CallN.pure _ _ rfl (h3') rfl _ rfl ?_) | (guard_target = Arith _ _ _; refine Arith.fit (wrap_fit (by first | omega | (simp only [List.length_map]; omega)) (by first | omega | (simp only [List.length_map]; omega))) ?_) | (guard_target = Arith _ _ _; refine Arith.fit (by decide) ?_) | (guard_target = Index _ _ _; first  | refine Index.mk _ (idx_map (by omega)) ?_) | (guard_target = Need (_ = true) _; refine Need.mk (by first | kernel_rfl | rfl) ?_) | (guard_target = LinkV _ _ _; first  | refine LinkV.no ?_) | (guard_target = GhO _ _ _ _; refine GhO.go ?_) | (guard_target = Need _ _; refine Need.mk (by first  | omega | (simp only [List.length_map]; omega)) ?_))
    all_goals first | rfl | trivial
/-! ### sizes and copies of derivations -/
mutual
def sizeD : XDerivation → Nat
  | .mk _ _ ks => 1 + sizeL ks
def sizeL : List XDerivation → Nat
  | [] => 0
  | d :: ds => sizeD d + sizeL ds
end
theorem sizeL_take : ∀ {l : List XDerivation} {i : Nat} (h : i < l.length), sizeL (l.take (i + 1)) = sizeL (l.take i) + sizeD l[i]
  | d :: ds, 0, h => by simp [sizeL]
  | d :: ds, i + 1, h => by
    have := sizeL_take (l := ds) (i := i) (by simpa using h)
    simp only [List.take_succ_cons, sizeL, List.getElem_cons_succ]
    omega
theorem sizeL_le : ∀ (l : List XDerivation) (i : Nat), sizeL (l.take i) ≤ sizeL l
  | [], i => by simp
  | d :: ds, 0 => by simp [sizeL]
  | d :: ds, i + 1 => by
    have := sizeL_le ds i
    simp only [List.take_succ_cons, sizeL]
    omega
theorem sizeD_eq (d : XDerivation) : sizeD d = 1 + sizeL d.kids := by cases d; rfl
theorem sizeD_mem : ∀ {l : List XDerivation} {d : XDerivation}, d ∈ l → sizeD d ≤ sizeL l
  | x :: xs, d, h => by
    simp only [sizeL]
    rcases List.mem_cons.1 h with rfl | h
    · omega
    · have := sizeD_mem h; omega
abbrev toldD (e : XDerivation) : List CV := [J e.rule, J e.says.pre.kind, J e.says.pre.num, .ro 3 (e.says.pre.kids.map encExpr), J e.says.prog.kind, J e.says.prog.num, J e.says.prog.cond.kind, J e.says.prog.cond.num, .ro 3 (e.says.prog.cond.kids.map encExpr), .ro 6 (e.says.prog.kids.map encProg), J e.says.post.kind, J e.says.post.num, .ro 3 (e.says.post.kids.map encExpr), .ro 14 (e.kids.map encDerivation)]
theorem DerivationSize_all (d : XDerivation) (hb : sizeD d ≤ 1000000000) (hx : ∀ k ∈ d.kids, CallF Tryz.prog 44 [.a 14 (encDerivation k)] (I (sizeD k))) : CallF Tryz.prog 44 [.a 14 (toldD d)] (I (sizeD d)) := by
  have hd := sizeD_eq d
  have hle := fun i => sizeL_le d.kids i
  refine callF_of_vc htb hm Tryz.func44 rfl rfl rfl rfl (ann := fun _ => none) (gh := fun _ => false) ?_
  repeat' ((conv => whnf); first | (guard_target = Done _; refine Done.mk ?_; first | ((have h9 := ha.2; rw [List.take_of_length_le (by omega)] at h9; rw [hd, ← h9]; rfl); done) | skip) | (guard_target = RetX _ _; refine RetX.mk ?_ ?_) | (guard_target =~ LoopE 3 _ _ _ _ _ _; refine LoopE.mk { α := Nat × Nat, keep := [7, 8], ov := fun ⟨n, i⟩ => [(3, I (n : Nat)), (9, I (i : Nat))], φ := fun ⟨n, i⟩ => i ≤ d.kids.length ∧ n = 1 + sizeL (d.kids.take i), μ := fun ⟨n, i⟩ => d.kids.length - i } (LoopN.mk ((1, 0) : Nat × Nat) (by exact ⟨Nat.zero_le _, rfl⟩) (by (repeat' ((conv => whnf) <;> (first | exact trivial | refine ⟨?_, ?_⟩ | kernel_rfl))); done) (by (repeat' ((conv => whnf) <;> (first | exact trivial | refine ⟨?_, ?_⟩ | kernel_rfl))); done) (by (repeat' ((conv => whnf) <;> (first | exact trivial | refine ⟨?_, ?_⟩ | exact rfl | (simp only [List.map_append, List.map_cons, List.map_nil, List.map_set]; first | done | rfl)))); done) (fun A ha => ?_) (by intro A; first | rfl | (obtain ⟨_, _⟩ := A; rfl) | (obtain ⟨_, _, _⟩ := A; rfl))); obtain ⟨n, i⟩ := A; have ha : i ≤ d.kids.length ∧ n = 1 + sizeL (d.kids.take i) := ha; have hle2 := hle (i + 1); have hst : ∀ h : i < d.kids.length, sizeL (d.kids.take (i + 1)) = sizeL (d.kids.take i) + sizeD d.kids[i] := fun h => sizeL_take h) | (guard_target = Gh _ _ _ _ _; refine Gh.go ⟨((n + sizeD d.kids[i], i + 1) : Nat × Nat), (by (have := hst (by omega); exact ⟨by show i + 1 ≤ _; omega, by show n + _ = _; omega⟩)), (by first | (show _ < _; simp only []; omega) | omega | (simp; omega)), (by (repeat' ((conv => whnf) <;> (first | exact trivial | refine ⟨?_, ?_⟩ | kernel_rfl))); done), (by (repeat' ((conv => whnf) <;> (first | exact trivial | refine ⟨?_, ?_⟩ | kernel_rfl))); done), (by (repeat' ((conv => whnf) <;> (first | exact trivial | refine ⟨?_, ?_⟩ | exact rfl | (simp only [List.map_append, List.map_cons, List.map_nil, List.map_set]; first | done | rfl)))); done)⟩) | (guard_target = Fact _ _; refine Fact.mk fun hL => ?_; (try simp only [List.length_map, maxLen] at hL)) | (guard_target = Branch _ _ _; (first | refine Branch.dec ?_ ?_ | refine Branch.beq ?_ ?_ | refine Branch.bne ?_ ?_ | refine Branch.ndec ?_ ?_ | refine Branch.nb ?_ ?_ | refine Branch.mk ?_ ?_) <;> intro h <;> (try simp only [List.length_map] at h) <;> (try omega) <;> (try contradiction)) | (guard_target = CallN _ 44 _ _ _ _; refine CallN.pure _ _ rfl (hx _ (List.getElem_mem (by omega))) rfl _ rfl ?_) | (guard_target = Arith _ _ _; refine Arith.fit (wrap_fit (by (have := hst (by omega); omega)) (by (have := hst (by omega); omega))) ?_) | (guard_target = Arith _ _ _; refine Arith.fit (by decide) ?_) | (guard_target = Index _ _ _; first | refine Index.mk _ (idx_map (l := d.kids) (i := i) (by omega)) ?_ | refine Index.mk _ (idx_map (by omega)) ?_) | (guard_target = Need (_ = true) _; refine Need.mk (by first | kernel_rfl | rfl) ?_) | (guard_target = LinkV _ _ _; first  | refine LinkV.no ?_) | (guard_target = GhO _ _ _ _; refine GhO.go ?_) | (guard_target = Need _ _; refine Need.mk (by first  | omega | (simp only [List.length_map]; omega)) ?_))
  all_goals first | rfl | trivial
theorem DerivationSize_ok (d : XDerivation) (hb : sizeD d ≤ 1000000000) : CallF Tryz.prog 44 [.a 14 (encDerivation d)] (I (sizeD d)) := by
  rw [encDerivation_eq]
  refine DerivationSize_all d hb fun k _hk => DerivationSize_ok k ?_
  have := sizeD_mem _hk
  have := sizeD_eq d
  omega
  termination_by SizeOf.sizeOf d
  decreasing_by
    have := List.sizeOf_lt_of_mem _hk
    cases d
    simp only [XDerivation.mk.sizeOf_spec]
    show SizeOf.sizeOf k < _
    simp only [XDerivation.kids] at this
    omega
mutual
def sayD (t a : Int) : XDerivation → Bool
  | .mk _ s ks => sayL t a ks && goodT t a s
def sayL (t a : Int) : List XDerivation → Bool
  | [] => true
  | d :: ds => sayD t a d && sayL t a ds
end
theorem sayL_all (t a : Int) : ∀ l : List XDerivation, sayL t a l = l.all (sayD t a)
  | [] => rfl
  | d :: ds => by simp only [sayL, List.all_cons]; rw [sayL_all t a ds]
theorem sayD_eq (t a : Int) (d : XDerivation) : sayD t a d = (d.kids.all (sayD t a) && goodT t a d.says) := by
  cases d
  rw [sayD, sayL_all]
  rfl
theorem allSay_all (t a : Int) (hs : goodSig t a = true) (d : XDerivation) (hx : ∀ k ∈ d.kids, CallF Tryz.prog 45 [.a 2 [J t, J a], .a 14 (encDerivation k)] (B (sayD t a k))) : CallF Tryz.prog 45 [.a 2 [J t, J a], .a 14 (toldD d)] (B (sayD t a d)) := by
  have hv := ValidTriple_ok t a d.says
  rw [hs, Bool.true_and] at hv
  rw [sayD_eq]
  refine callF_of_vc htb hm Tryz.func45 rfl rfl rfl rfl (ann := fun _ => none) (gh := fun _ => false) ?_
  repeat' ((conv => whnf); first | (guard_target = Done _; refine Done.mk ?_; first | ((rw [all_stop (i := i) (by omega) h]; rfl); done) | ((rw [all_end (by omega) ha]; rfl); done) | skip) | (guard_target = RetX _ _; refine RetX.mk ?_ ?_) | (guard_target =~ LoopE 2 _ _ _ _ _ _; refine LoopE.mk { α := Nat, keep := [2, 3, 8, 9], ov := fun i => [(10, I (i : Nat))], φ := fun i => i ≤ d.kids.length ∧ (d.kids.take i).all (sayD t a) = true, μ := fun i => d.kids.length - i } (LoopN.mk (0 : Nat) (by exact ⟨Nat.zero_le _, rfl⟩) (by (repeat' ((conv => whnf) <;> (first | exact trivial | refine ⟨?_, ?_⟩ | kernel_rfl))); done) (by (repeat' ((conv => whnf) <;> (first | exact trivial | refine ⟨?_, ?_⟩ | kernel_rfl))); done) (by (repeat' ((conv => whnf) <;> (first | exact trivial | refine ⟨?_, ?_⟩ | exact rfl | (simp only [List.map_append, List.map_cons, List.map_nil, List.map_set]; first | done | rfl)))); done) (fun (i : Nat) ha => ?_) (by intro A; first | rfl | (obtain ⟨_, _⟩ := A; rfl) | (obtain ⟨_, _, _⟩ := A; rfl))); have ha : i ≤ d.kids.length ∧ (d.kids.take i).all (sayD t a) = true := ha) | (guard_target = Gh _ _ _ _ _; refine Gh.go ⟨(i + 1 : Nat), (by exact all_go (by omega) ha h), (by first | (show _ < _; simp only []; omega) | omega | (simp; omega)), (by (repeat' ((conv => whnf) <;> (first | exact trivial | refine ⟨?_, ?_⟩ | kernel_rfl))); done), (by (repeat' ((conv => whnf) <;> (first | exact trivial | refine ⟨?_, ?_⟩ | kernel_rfl))); done), (by (repeat' ((conv => whnf) <;> (first | exact trivial | refine ⟨?_, ?_⟩ | exact rfl | (simp only [List.map_append, List.map_cons, List.map_nil, List.map_set]; first | done | rfl)))); done)⟩) | (guard_target = Fact _ _; refine Fact.mk fun hL => ?_; (try simp only [List.length_map, maxLen] at hL)) | (guard_target = Branch _ _ _; (first | refine Branch.dec ?_ ?_ | refine Branch.beq ?_ ?_ | refine Branch.bne ?_ ?_ | refine Branch.ndec ?_ ?_ | refine Branch.nb ?_ ?_ | refine Branch.mk ?_ ?_) <;> intro h <;> (try simp only [List.length_map] at h) <;> (try omega) <;> (try contradiction)) | (guard_target = CallN _ 45 _ _ _ _; refine CallN.pure _ _ rfl (hx _ (List.getElem_mem (by omega))) rfl _ rfl ?_) | (guard_target = CallN _ 40 _ _ _ _; refine CallN.pure _ _ rfl (hv) rfl _ rfl ?_) | (guard_target = Arith _ _ _; refine Arith.fit (wrap_fit (by first | omega | (simp only [List.length_map]; omega)) (by first | omega | (simp only [List.length_map]; omega))) ?_) | (guard_target = Arith _ _ _; refine Arith.fit (by decide) ?_) | (guard_target = Index _ _ _; first | refine Index.mk _ (idx_map (l := d.kids) (i := i) (by omega)) ?_ | refine Index.mk _ (idx_map (by omega)) ?_) | (guard_target = Need (_ = true) _; refine Need.mk (by first | kernel_rfl | rfl) ?_) | (guard_target = LinkV _ _ _; first  | refine LinkV.no ?_) | (guard_target = GhO _ _ _ _; refine GhO.go ?_) | (guard_target = Need _ _; refine Need.mk (by first  | omega | (simp only [List.length_map]; omega)) ?_))
  all_goals first | rfl | trivial
theorem allSay_ok (t a : Int) (hs : goodSig t a = true) (d : XDerivation) : CallF Tryz.prog 45 [.a 2 [J t, J a], .a 14 (encDerivation d)] (B (sayD t a d)) := by
  rw [encDerivation_eq]
  exact allSay_all t a hs d fun k _hk => allSay_ok t a hs k
  termination_by SizeOf.sizeOf d
  decreasing_by
    have := List.sizeOf_lt_of_mem _hk
    cases d
    simp only [XDerivation.mk.sizeOf_spec]
    show SizeOf.sizeOf k < _
    simp only [XDerivation.kids] at this
    omega
end Go.Proofs.YtmpcfplelpdbhaaGreat

namespace Go.Proofs.YtmpcfplelpdbhaaGreat
open Go Go.KA Go.Proofs
set_option maxHeartbeats 16000000
set_option maxRecDepth 100000
inductive OwnUp : List CV → List CV → Prop
  | nil : OwnUp [] []
  | same {c cs cs'} (h : OwnUp cs cs') : OwnUp (c :: cs) (c :: cs')
  | up {ty sz rows cs cs'} (h : OwnUp cs cs') : OwnUp (.ows ty sz rows :: cs) (.own ty sz rows :: cs')
theorem OwnUp.den {w : World} {ok : Nat → Prop} {cs cs' : List CV} (h : OwnUp cs cs') : ∀ {vs : List Value} {f : List Nat}, Den w ok cs vs f → Den w ok cs' vs f := by
  induction h with
  | nil => intro vs f h; exact h
  | same h ih =>
    intro vs f hd
    cases hd with
    | any h1 ht => exact .any h1 (ih ht)
    | val h1 ht => exact .val h1 (ih ht)
    | cb ht => exact .cb (ih ht)
    | ro a b c d e f ht => exact .ro a b c d e f (ih ht)
    | rp a b c d ht => exact .rp a b c d (ih ht)
    | own a b c ht => exact .own a b c (ih ht)
    | ows a b c ht => exact .ows a b c (ih ht)
    | ownp a b c ht => exact .ownp a b c (ih ht)
    | op a b ht => exact .op a b (ih ht)
    | bld a b c ht => exact .bld a b c (ih ht)
  | up h ih =>
    intro vs f hd
    cases hd with
    | ows a b c ht =>
      have := Den.own a b c (ih ht)
      simpa using this
theorem OwnUp.len {cs cs' : List CV} (h : OwnUp cs cs') : cs.length = cs'.length := by
  induction h <;> simp_all
theorem CallX.ownUp {P : Program} {f : Nat} {args : List SV} {cs cs' : List CV} {n : Nat} {c : Int} (h : CallX P f args [] (.tup [.a n cs, I c])) (hc : OwnUp cs cs') : CallX P f args [] (.tup [.a n cs', I c]) := by
  refine ⟨h.1, fun w ok vs fs h1 h2 h3 h4 => (h.2 w ok vs fs h1 h2 h3 h4).mono ?_⟩
  rintro e w' ⟨v, fr, fo, h5, h6, h7, h8, h9, h10⟩
  refine ⟨v, fr, fo, h5, h6, h7, h8, ?_, h10⟩
  cases h9 with
  | v h =>
    cases h with
    | v h =>
      cases h fun _ => none with
      | c h => cases h
  | tup h =>
    cases h with
    | cons ha ht =>
      refine .tup (.cons ?_ ht)
      cases ha with
      | v h =>
        refine .v fun ρ => ?_
        cases h ρ with
        | c h => cases h
        | a a1 a2 => first | exact .a (hc.len ▸ a1) (hc.den a2) | exact .a hc.len.symm (hc.den a2) | exact .a hc.len.symm (hc.den a1)
      | a hl h => exact .a (hc.len ▸ hl) (hc.den h)
end Go.Proofs.YtmpcfplelpdbhaaGreat

namespace Go.Proofs.YtmpcfplelpdbhaaGreat
open Go Go.KA Go.Proofs
set_option maxHeartbeats 16000000
set_option maxRecDepth 100000
abbrev ownPT (x : XProg) : List CV := [J x.kind, J x.num, J x.cond.kind, J x.cond.num, .own 37 3 (x.cond.kids.map ownExpr), .own 40 6 (x.kids.map ownProg)]
theorem ownP_next {l : List XProg} {i : Nat} {rows : List (List CV)} (hi : i < l.length) (h : rows = (l.take i).map ownProg) : rows ++ [ownPT l[i]] = (l.take (i + 1)).map ownProg := by
  rw [take_map_next hi, h, ownProg_eq]
theorem copyExpr_told (x : XExpr) (hb : budExpr x ≤ 1048576) : CallX Tryz.prog 111 [.a 3 (toldE x)] [] (.a 3 (ownT x)) := by
  have := copyExpr_ok x hb
  rwa [encExpr_eq] at this
theorem copyProg_all (x : XProg) (hl : budExpr x.cond ≤ 1048576 ∧ x.kids.length ≤ 1048576) (hx : ∀ k ∈ x.kids, CallX Tryz.prog 112 [.a 6 (encProg k)] [] (.a 6 (ownPT k))) : CallX Tryz.prog 112 [.a 6 (toldP x)] [] (.a 6 (ownPT x)) := by
  have hc := copyExpr_told x.cond hl.1
  refine callX_of_vc htb hm Tryz.func112 rfl rfl rfl rfl (ann := fun _ => none) (gh := fun _ => false) ?_
  repeat' ((conv => whnf); first | (guard_target = Done _; refine Done.mk ?_) | (guard_target = RetX _ _; refine RetX.mk ?_ ?_) | (guard_target =~ LoopE 3 _ _ _ _ _ _; refine LoopE.mk { α := Nat × List (List CV), keep := [2, 3, 15, 16], ov := fun ⟨i, rows⟩ => [(17, I (i : Nat))], hv := fun ⟨i, rows⟩ => [(9, .cells [.c (J x.kind), .c (J x.num), .c (J x.cond.kind), .c (J x.cond.num), .lw 4, .lw 6]), (6, .orow none 40 6 rows)], φ := fun ⟨i, rows⟩ => i ≤ x.kids.length ∧ rows = (x.kids.take i).map ownProg, μ := fun ⟨i, rows⟩ => x.kids.length - i } (LoopN.mk ((0, []) : Nat × List (List CV)) (by exact ⟨Nat.zero_le _, rfl⟩) (by (repeat' ((conv => whnf) <;> (first | exact trivial | refine ⟨?_, ?_⟩ | kernel_rfl))); done) (by (repeat' ((conv => whnf) <;> (first | exact trivial | refine ⟨?_, ?_⟩ | kernel_rfl))); done) (by (repeat' ((conv => whnf) <;> (first | exact trivial | refine ⟨?_, ?_⟩ | exact rfl | (simp only [List.map_append, List.map_cons, List.map_nil, List.map_set]; first | done | rfl)))); done) (fun A ha => ?_) (by intro A; first | rfl | (obtain ⟨_, _⟩ := A; rfl) | (obtain ⟨_, _, _⟩ := A; rfl))); obtain ⟨i, rows⟩ := A; have ha : i ≤ x.kids.length ∧ rows = (x.kids.take i).map ownProg := ha; have hrl : rows.length = i := (by rw [ha.2, List.length_map, List.length_take]; omega)) | (guard_target = Gh _ _ _ _ _; refine Gh.go ⟨((i + 1, rows ++ [ownPT x.kids[i]]) : Nat × List (List CV)), (by exact ⟨by show i + 1 ≤ _; omega, ownP_next (by omega) ha.2⟩), (by first | (show _ < _; simp only []; omega) | omega | (simp; omega)), (by (repeat' ((conv => whnf) <;> (first | exact trivial | refine ⟨?_, ?_⟩ | kernel_rfl))); done), (by (repeat' ((conv => whnf) <;> (first | exact trivial | refine ⟨?_, ?_⟩ | kernel_rfl))); done), (by (repeat' ((conv => whnf) <;> (first | exact trivial | refine ⟨?_, ?_⟩ | exact rfl | (simp only [List.map_append, List.map_cons, List.map_nil, List.map_set]; first | done | rfl)))); done)⟩) | (guard_target = Fact _ _; refine Fact.mk fun hL => ?_; (try simp only [List.length_map, maxLen] at hL)) | (guard_target = Branch _ _ _; (first | refine Branch.dec ?_ ?_ | refine Branch.beq ?_ ?_ | refine Branch.bne ?_ ?_ | refine Branch.ndec ?_ ?_ | refine Branch.nb ?_ ?_ | refine Branch.mk ?_ ?_) <;> intro h <;> (try simp only [List.length_map] at h) <;> (try omega) <;> (try contradiction)) | (guard_target = CallN _ 111 _ _ _ _; refine CallN.gen [] _ _ _ rfl (hc) rfl rfl _ rfl ?_) | (guard_target = CallN _ 112 _ _ _ _; refine CallN.gen [] _ _ _ rfl (hx _ (List.getElem_mem (by omega))) rfl rfl _ rfl ?_) | (guard_target = Arith _ _ _; refine Arith.fit (wrap_fit (by first | omega | (simp only [List.length_map]; omega)) (by first | omega | (simp only [List.length_map]; omega))) ?_) | (guard_target = Arith _ _ _; refine Arith.fit (by decide) ?_) | (guard_target = Index _ _ _; first | refine Index.mk _ (idx_map (i := i) (by omega)) ?_ | refine Index.mk _ (idx_map (by omega)) ?_) | (guard_target = Need (_ = true) _; refine Need.mk (by first | kernel_rfl | rfl) ?_) | (guard_target = LinkV _ _ _; first  | refine LinkV.no ?_) | (guard_target = GhO _ _ _ _; refine GhO.go ?_) | (guard_target = Need _ _; refine Need.mk (by first | ((simp only [List.length_cons, List.length_nil, maxLen]; constructor <;> omega)) | omega | (simp only [List.length_map]; omega)) ?_))
  all_goals first | rfl | trivial | (have h9 := ha.2; rw [List.take_of_length_le (by omega)] at h9; rw [h9]; rfl)
theorem copyProg_ok (x : XProg) (hb : budProg x ≤ 1048576) : CallX Tryz.prog 112 [.a 6 (encProg x)] [] (.a 6 (ownPT x)) := by
  rw [encProg_eq]
  have h1 : budExpr x.cond + budS budProg x.kids ≤ budProg x := by
    cases x
    simp only [budProg, budProgS_eq, XProg.kids, XProg.cond]
    exact Nat.le_refl _
  exact copyProg_all x ⟨by omega, by have := budS_len budProg x.kids; omega⟩ fun k _hk => copyProg_ok k (by have := budS_mem budProg _hk; omega)
  termination_by SizeOf.sizeOf x
  decreasing_by
    have := List.sizeOf_lt_of_mem _hk
    cases x
    simp only [XProg.mk.sizeOf_spec]
    show SizeOf.sizeOf k < _
    simp only [XProg.kids] at this
    omega
end Go.Proofs.YtmpcfplelpdbhaaGreat
