/- The law of ValidArchive answers true, whatever its argument. No conditions. -/
import Derived.Test.YthgajpkahkhlpaaGreatYD
import Derived.Test.YthgajpkahkhlpaaGreatSz
import Derived.Test.YthgajpkahkhlpaaGreatTo
import Derived.Test.YthgajpkahkhlpaaGreatEq
namespace Go.Proofs.YthgajpkahkhlpaaGreat
open Go Go.KA Go.Proofs
set_option maxHeartbeats 16000000
set_option maxRecDepth 100000
theorem eqArch_own (a : XArchive) : CallF Tryz.prog 26 [.a 4 (roL (ownArchive a)), .a 4 (roL (ownArchive a))] (B true) := by
  rw [roArchive]
  have := eqArchive_ok a a
  rwa [eqv_self] at this
end Go.Proofs.YthgajpkahkhlpaaGreat

namespace Go.Proofs.YthgajpkahkhlpaaGreat
open Go Go.KA Go.Proofs
set_option maxHeartbeats 16000000
set_option maxRecDepth 100000
def goodEvent (t a : Int) (e : XEvent) : Bool :=
  rng 1 9 e.kind && (rng 0 999 e.a && (rng 0 999 e.b && (rng 0 999 e.c && ((decide (e.kind = 2) || (decide (e.kind = 3) || decide (e.b = 0))) && ((decide (e.kind = 3) || decide (e.c = 0)) &&
    (if e.kind = 1 then goodEntry t a e.rests e.proof && ((e.votes.length : Int) == 5) else decide ((e.rests.length : Int) = 0) && (zeroP e.proof && ((e.votes.length : Int) == 0))))))))
def usesN (k : Int) : Int := if k = 2 then 2 else if k = 3 then 3 else 1
theorem l08Uses_ok (k : Int) : CallF Tryz.prog 174 [I k] (I (usesN k)) := by
  refine callF_of_vc htb hm Tryz.func174 rfl rfl rfl rfl (ann := fun _ => none) (gh := fun _ => false) ?_
  repeat' ((conv => whnf); first | (guard_target = Done _; refine Done.mk ?_; first | ((simp_all [usesN, normS, normV]; done); done) | skip) | (guard_target = RetX _ _; refine RetX.mk ?_ ?_) | (guard_target = Fact _ _; refine Fact.mk fun hL => ?_; (try simp only [List.length_map, maxLen] at hL)) | (guard_target = Branch _ _ _; (first | apply Branch.dec | apply Branch.beq | apply Branch.bne | apply Branch.ndec | apply Branch.nb | apply Branch.mk) <;> intro h <;> (try simp only [List.length_map] at h) <;> (try omega) <;> (try contradiction)) | (guard_target = Arith _ _ _; refine Arith.fit (by apply wrap_fit <;> first | omega | (simp only [List.length_map]; omega)) ?_) | (guard_target = Arith _ _ _; refine Arith.fit (by decide) ?_) | (guard_target = Index _ _ _; first  | refine Index.mk _ (idx_map (by omega)) ?_) | (guard_target = Need (_ = true) _; refine Need.mk (by first | kernel_rfl | rfl) ?_) | (guard_target = LinkV _ _ _; refine LinkV.no ?_) | (guard_target = GhO _ _ _ _; refine GhO.go ?_) | (guard_target = Need _ _; refine Need.mk (by first  | omega | (simp only [List.length_map]; omega)) ?_))
theorem usesN_or (k : Int) : (k = 2 ∧ usesN k = 2) ∨ (k = 3 ∧ usesN k = 3) ∨ (¬ k = 2 ∧ ¬ k = 3 ∧ usesN k = 1) := by
  unfold usesN
  by_cases h2 : k = 2
  · exact .inl ⟨h2, by rw [if_pos h2]⟩
  · by_cases h3 : k = 3
    · exact .inr (.inl ⟨h3, by rw [if_neg h2, if_pos h3]⟩)
    · exact .inr (.inr ⟨h2, h3, by rw [if_neg h2, if_neg h3]⟩)
theorem isEvent_ok (t a : Int) (e : XEvent) (hl : budProof e.proof ≤ 1048576) : CallF Tryz.prog 112 [.a 2 [J t, J a], .a 9 (encEvent e)] (B (goodEvent t a e)) := by
  refine callF_of_vc htb hm Tryz.func112 rfl rfl rfl rfl (ann := fun _ => none) (gh := fun _ => false) ?_
  repeat' ((conv => whnf); first | (guard_target = Done _; refine Done.mk ?_; first | (rfl; done) | (simp_all [goodEvent, normS, normV]; done) | (simp_all [goodEvent, normS, normV]; omega; done) | (simp_all [goodEvent, normS, normV]; intros; omega; done) | (simp_all [-List.all_eq_true, -List.all_eq_false, goodEvent, normS, normV]; done) | (simp_all [-List.all_eq_true, -List.all_eq_false, goodEvent, normS, normV]; omega; done) | ((simp only [List.length_map]; simp_all [goodEvent, normS, normV]; done); done) | ((simp only [List.length_map]; simp_all [goodEvent, normS, normV]; omega); done) | skip) | (guard_target = RetX _ _; refine RetX.mk ?_ ?_) | (guard_target = Fact _ _; refine Fact.mk fun hL => ?_; (try simp only [List.length_map, maxLen] at hL)) | (guard_target = Branch _ _ _; (first | apply Branch.dec | apply Branch.beq | apply Branch.bne | apply Branch.ndec | apply Branch.nb | apply Branch.mk) <;> intro h <;> (try simp only [List.length_map] at h) <;> (try omega) <;> (try contradiction)) | (guard_target = CallN _ 160 _ _ _ _; refine CallN.pure _ _ rfl (within_ok _ _ _) rfl _ rfl ?_) | (guard_target = CallN _ 186 _ _ _ _; refine CallN.pure _ _ rfl (isEntry_ok t a e.rests e.proof hl) rfl _ rfl ?_) | (guard_target = CallN _ 187 _ _ _ _; refine CallN.pure _ _ rfl (isNoProof_ok e.proof) rfl _ rfl ?_) | (guard_target = Arith _ _ _; refine Arith.fit (by apply wrap_fit <;> first | omega | (simp only [List.length_map]; omega)) ?_) | (guard_target = Arith _ _ _; refine Arith.fit (by decide) ?_) | (guard_target = Index _ _ _; first  | refine Index.mk _ (idx_map (by omega)) ?_) | (guard_target = Need (_ = true) _; refine Need.mk (by first | kernel_rfl | rfl) ?_) | (guard_target = LinkV _ _ _; refine LinkV.no ?_) | (guard_target = GhO _ _ _ _; refine GhO.go ?_) | (guard_target = Need _ _; refine Need.mk (by first  | omega | (simp only [List.length_map]; omega)) ?_))
theorem l08Event_ok (x : XArchive) (e : XEvent) (hl : budProof e.proof ≤ 1048576) : CallF Tryz.prog 98 [.c (.rp 4 (encArchive x)), .c (.rp 9 (encEvent e))] (B (goodEvent x.sig.tests x.sig.actions e)) := by
  have hr : CallF Tryz.prog 175 [.a 2 [J x.sig.tests, J x.sig.actions], .c (.ro 1 (e.rests.map eI)), .c (.rp 4 ((encEvent e).drop 5))] (B (goodEntry x.sig.tests x.sig.actions e.rests e.proof)) := (l08Rests_ok _ _ e.rests e.proof hl).cut (.same (.same (.cut (k := 3) (by omega) .nil)))
  have he : CallF Tryz.prog 176 [.c (.rp 4 ((encEvent e).drop 5))] (B (zeroP e.proof)) := (l08Empty_ok e.proof).cut (.cut (k := 3) (by omega) .nil)
  have hu := usesN_or e.kind
  refine callF_of_vc htb hm Tryz.func98 rfl rfl rfl rfl (ann := fun _ => none) (gh := fun _ => false) ?_
  repeat' ((conv => whnf); first | (guard_target = Done _; refine Done.mk ?_; first | (rfl; done) | (simp_all [goodEvent, normS, normV]; done) | (simp_all [goodEvent, normS, normV]; omega; done) | (simp_all [goodEvent, normS, normV]; intros; omega; done) | (simp_all [-List.all_eq_true, -List.all_eq_false, goodEvent, normS, normV]; done) | (simp_all [-List.all_eq_true, -List.all_eq_false, goodEvent, normS, normV]; omega; done) | ((simp only [List.length_map]; rcases hu with ⟨u1, u2⟩ | ⟨u1, u2⟩ | ⟨u1, u3, u2⟩ <;> rw [u2] at * <;> simp_all [goodEvent, normS, normV]; done); done) | ((simp only [List.length_map]; rcases hu with ⟨u1, u2⟩ | ⟨u1, u2⟩ | ⟨u1, u3, u2⟩ <;> rw [u2] at * <;> simp_all [goodEvent, normS, normV] <;> omega); done) | ((have hk : e.kind = 3 := (by omega); clear hu; simp only [List.length_map]; simp_all [goodEvent, normS, normV]; done); done) | skip) | (guard_target = RetX _ _; refine RetX.mk ?_ ?_) | (guard_target = Fact _ _; refine Fact.mk fun hL => ?_; (try simp only [List.length_map, maxLen] at hL)) | (guard_target = Branch _ _ _; (first | apply Branch.dec | apply Branch.beq | apply Branch.bne | apply Branch.ndec | apply Branch.nb | apply Branch.mk) <;> intro h <;> (try simp only [List.length_map] at h) <;> (try omega) <;> (try contradiction)) | (guard_target = CallN _ 174 _ _ _ _; refine CallN.pure _ _ rfl (l08Uses_ok e.kind) rfl _ rfl ?_) | (guard_target = CallN _ 152 _ _ _ _; refine CallN.pure _ _ rfl (l00In_ok _ _ _) rfl _ rfl ?_) | (guard_target = CallN _ 175 _ _ _ _; refine CallN.pure _ _ rfl (hr) rfl _ rfl ?_) | (guard_target = CallN _ 176 _ _ _ _; refine CallN.pure _ _ rfl (he) rfl _ rfl ?_) | (guard_target = Arith _ _ _; refine Arith.fit (by apply wrap_fit <;> first | omega | (simp only [List.length_map]; omega)) ?_) | (guard_target = Arith _ _ _; refine Arith.fit (by decide) ?_) | (guard_target = Index _ _ _; first  | refine Index.mk _ (idx_map (by omega)) ?_) | (guard_target = Need (_ = true) _; refine Need.mk (by first | kernel_rfl | rfl) ?_) | (guard_target = LinkV _ _ _; refine LinkV.no ?_) | (guard_target = GhO _ _ _ _; refine GhO.go ?_) | (guard_target = Need _ _; refine Need.mk (by first  | omega | (simp only [List.length_map]; omega)) ?_))
noncomputable def goodVE (x : XArchive) (e : XEvent) : Bool := goodArch x && goodEvent x.sig.tests x.sig.actions e
end Go.Proofs.YthgajpkahkhlpaaGreat

namespace Go.Proofs.YthgajpkahkhlpaaGreat
open Go Go.KA Go.Proofs
set_option maxHeartbeats 16000000
set_option maxRecDepth 100000
/-! ### asking a server -/
def placeB (a : XArchive) (s : Int) : Bool := rng 0 ((a.servers.length : Int) - 1) s
noncomputable def askN (a : XArchive) (s id : Int) : Int := if goodArch a = false then 1 else if placeB a s = false ∨ rng 0 99 id = false then 2 else 0
theorem isPlace_ok (a : XArchive) (s : Int) : CallF Tryz.prog 180 [.a 4 (encArchive a), I s] (B (placeB a s)) := by
  refine callF_of_vc htb hm Tryz.func180 rfl rfl rfl rfl (ann := fun _ => none) (gh := fun _ => false) ?_
  repeat' ((conv => whnf); first | (guard_target = Done _; refine Done.mk ?_; first | ((simp only [List.length_map]; rfl); done) | skip) | (guard_target = RetX _ _; refine RetX.mk ?_ ?_) | (guard_target = Fact _ _; refine Fact.mk fun hL => ?_; (try simp only [List.length_map, maxLen] at hL)) | (guard_target = Branch _ _ _; (first | apply Branch.dec | apply Branch.beq | apply Branch.bne | apply Branch.ndec | apply Branch.nb | apply Branch.mk) <;> intro h <;> (try simp only [List.length_map] at h) <;> (try omega) <;> (try contradiction)) | (guard_target = CallN _ 160 _ _ _ _; refine CallN.pure _ _ rfl (within_ok _ _ _) rfl _ rfl ?_) | (guard_target = Arith _ _ _; refine Arith.fit (by apply wrap_fit <;> first | omega | (simp only [List.length_map]; omega)) ?_) | (guard_target = Arith _ _ _; refine Arith.fit (by decide) ?_) | (guard_target = Index _ _ _; first  | refine Index.mk _ (idx_map (by omega)) ?_) | (guard_target = Need (_ = true) _; refine Need.mk (by first | kernel_rfl | rfl) ?_) | (guard_target = LinkV _ _ _; refine LinkV.no ?_) | (guard_target = GhO _ _ _ _; refine GhO.go ?_) | (guard_target = Need _ _; refine Need.mk (by first  | omega | (simp only [List.length_map]; omega)) ?_))
theorem l08At_ok (a : XArchive) (s : Int) : CallF Tryz.prog 268 [.c (.rp 4 (encArchive a)), I s] (B (placeB a s)) := by
  refine callF_of_vc htb hm Tryz.func268 rfl rfl rfl rfl (ann := fun _ => none) (gh := fun _ => false) ?_
  repeat' ((conv => whnf); first | (guard_target = Done _; refine Done.mk ?_; first | ((simp only [List.length_map]; rfl); done) | skip) | (guard_target = RetX _ _; refine RetX.mk ?_ ?_) | (guard_target = Fact _ _; refine Fact.mk fun hL => ?_; (try simp only [List.length_map, maxLen] at hL)) | (guard_target = Branch _ _ _; (first | apply Branch.dec | apply Branch.beq | apply Branch.bne | apply Branch.ndec | apply Branch.nb | apply Branch.mk) <;> intro h <;> (try simp only [List.length_map] at h) <;> (try omega) <;> (try contradiction)) | (guard_target = CallN _ 152 _ _ _ _; refine CallN.pure _ _ rfl (l00In_ok _ _ _) rfl _ rfl ?_) | (guard_target = Arith _ _ _; refine Arith.fit (by apply wrap_fit <;> first | omega | (simp only [List.length_map]; omega)) ?_) | (guard_target = Arith _ _ _; refine Arith.fit (by decide) ?_) | (guard_target = Index _ _ _; first  | refine Index.mk _ (idx_map (by omega)) ?_) | (guard_target = Need (_ = true) _; refine Need.mk (by first | kernel_rfl | rfl) ?_) | (guard_target = LinkV _ _ _; refine LinkV.no ?_) | (guard_target = GhO _ _ _ _; refine GhO.go ?_) | (guard_target = Need _ _; refine Need.mk (by first  | omega | (simp only [List.length_map]; omega)) ?_))
end Go.Proofs.YthgajpkahkhlpaaGreat
