/- The law of ValidArchive answers true, whatever its argument. No conditions. -/
import Derived.Test.YtmpcfplelpdbhaaGreatYD
import Derived.Test.YtmpcfplelpdbhaaGreatSz
import Derived.Test.YtmpcfplelpdbhaaGreatTo
import Derived.Test.YtmpcfplelpdbhaaGreatEq
namespace Go.Proofs.YtmpcfplelpdbhaaGreat
open Go Go.KA Go.Proofs
set_option maxHeartbeats 16000000
set_option maxRecDepth 100000
theorem eqArch_own (a : XArchive) : CallF Tryz.prog 24 [.a 4 (roL (ownArchive a)), .a 4 (roL (ownArchive a))] (B true) := by
  rw [roArchive]
  have := eqArchive_ok a a
  rwa [eqv_self] at this
end Go.Proofs.YtmpcfplelpdbhaaGreat

namespace Go.Proofs.YtmpcfplelpdbhaaGreat
open Go Go.KA Go.Proofs
set_option maxHeartbeats 16000000
set_option maxRecDepth 100000
def goodEvent (t a : Int) (e : XEvent) : Bool :=
  rng 1 9 e.kind && (rng 0 999 e.a && (rng 0 999 e.b && (rng 0 999 e.c && ((decide (e.kind = 2) || (decide (e.kind = 3) || decide (e.b = 0))) && ((decide (e.kind = 3) || decide (e.c = 0)) &&
    (if e.kind = 1 then goodEntry t a e.rests e.proof && ((e.votes.length : Int) == 5) else decide ((e.rests.length : Int) = 0) && (zeroP e.proof && ((e.votes.length : Int) == 0))))))))
def usesN (k : Int) : Int := if k = 2 then 2 else if k = 3 then 3 else 1
noncomputable def goodVE (x : XArchive) (e : XEvent) : Bool := goodArch x && goodEvent x.sig.tests x.sig.actions e
end Go.Proofs.YtmpcfplelpdbhaaGreat

namespace Go.Proofs.YtmpcfplelpdbhaaGreat
open Go Go.KA Go.Proofs
set_option maxHeartbeats 16000000
set_option maxRecDepth 100000
/-! ### asking a server -/
def placeB (a : XArchive) (s : Int) : Bool := rng 0 ((a.servers.length : Int) - 1) s
noncomputable def askN (a : XArchive) (s id : Int) : Int := if goodArch a = false then 1 else if placeB a s = false ∨ rng 0 99 id = false then 2 else 0
theorem isPlace_ok (a : XArchive) (s : Int) : CallF Tryz.prog 195 [.a 4 (encArchive a), I s] (B (placeB a s)) := by
  refine callF_of_vc htb hm Tryz.func195 rfl rfl rfl rfl (ann := fun _ => none) (gh := fun _ => false) ?_
  repeat' ((conv => whnf); first | (guard_target = Done _; refine Done.mk ?_; first | ((simp only [List.length_map]; rfl); done) | skip) | (guard_target = RetX _ _; refine RetX.mk ?_ ?_) | (guard_target = Fact _ _; refine Fact.mk fun hL => ?_; (try simp only [List.length_map, maxLen] at hL)) | (guard_target = Branch _ _ _; (first | refine Branch.dec ?_ ?_ | refine Branch.beq ?_ ?_ | refine Branch.bne ?_ ?_ | refine Branch.ndec ?_ ?_ | refine Branch.nb ?_ ?_ | refine Branch.mk ?_ ?_) <;> intro h <;> (try simp only [List.length_map] at h) <;> (try omega) <;> (try contradiction)) | (guard_target = CallN _ 130 _ _ _ _; refine CallN.pure _ _ rfl (within_ok _ _ _) rfl _ rfl ?_) | (guard_target = Arith _ _ _; refine Arith.fit (wrap_fit (by first | omega | (simp only [List.length_map]; omega)) (by first | omega | (simp only [List.length_map]; omega))) ?_) | (guard_target = Arith _ _ _; refine Arith.fit (by decide) ?_) | (guard_target = Index _ _ _; first  | refine Index.mk _ (idx_map (by omega)) ?_) | (guard_target = Need (_ = true) _; refine Need.mk (by first | kernel_rfl | rfl) ?_) | (guard_target = LinkV _ _ _; first  | refine LinkV.no ?_) | (guard_target = GhO _ _ _ _; refine GhO.go ?_) | (guard_target = Need _ _; refine Need.mk (by first  | omega | (simp only [List.length_map]; omega)) ?_))
theorem l08At_ok (a : XArchive) (s : Int) : CallF Tryz.prog 229 [.c (.rp 4 (encArchive a)), I s] (B (placeB a s)) := by
  refine callF_of_vc htb hm Tryz.func229 rfl rfl rfl rfl (ann := fun _ => none) (gh := fun _ => false) ?_
  repeat' ((conv => whnf); first | (guard_target = Done _; refine Done.mk ?_; first | ((simp only [List.length_map]; rfl); done) | skip) | (guard_target = RetX _ _; refine RetX.mk ?_ ?_) | (guard_target = Fact _ _; refine Fact.mk fun hL => ?_; (try simp only [List.length_map, maxLen] at hL)) | (guard_target = Branch _ _ _; (first | refine Branch.dec ?_ ?_ | refine Branch.beq ?_ ?_ | refine Branch.bne ?_ ?_ | refine Branch.ndec ?_ ?_ | refine Branch.nb ?_ ?_ | refine Branch.mk ?_ ?_) <;> intro h <;> (try simp only [List.length_map] at h) <;> (try omega) <;> (try contradiction)) | (guard_target = CallN _ 122 _ _ _ _; refine CallN.pure _ _ rfl (l00In_ok _ _ _) rfl _ rfl ?_) | (guard_target = Arith _ _ _; refine Arith.fit (wrap_fit (by first | omega | (simp only [List.length_map]; omega)) (by first | omega | (simp only [List.length_map]; omega))) ?_) | (guard_target = Arith _ _ _; refine Arith.fit (by decide) ?_) | (guard_target = Index _ _ _; first  | refine Index.mk _ (idx_map (by omega)) ?_) | (guard_target = Need (_ = true) _; refine Need.mk (by first | kernel_rfl | rfl) ?_) | (guard_target = LinkV _ _ _; first  | refine LinkV.no ?_) | (guard_target = GhO _ _ _ _; refine GhO.go ?_) | (guard_target = Need _ _; refine Need.mk (by first  | omega | (simp only [List.length_map]; omega)) ?_))
end Go.Proofs.YtmpcfplelpdbhaaGreat
