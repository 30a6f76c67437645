/- Contract of an event, and of the same event in the reference. Conditions: the archive's shape, the event's. -/
import Derived.Test.YtmpcfplelpdbhaaGreatZY
namespace Go.Proofs.YtmpcfplelpdbhaaGreat
open Go Go.KA Go.Proofs
set_option maxHeartbeats 16000000
set_option maxRecDepth 100000
theorem doA_dc {a : XArchive} {e : XEvent} (hk : e.kind = 4 ∨ e.kind = 5) : doA a e = doDC a e := by
  unfold doA doDC
  split
  · rfl
  · rw [if_pos (by omega)]
theorem doA_drop {a : XArchive} {e : XEvent} (hk : e.kind = 6) : doA a e = doDrop a e.a := by
  unfold doA
  rw [if_neg (by omega), if_neg (by omega), if_pos hk]
theorem doA_np {a : XArchive} {e : XEvent} (hk : ¬ e.kind = 4 ∧ ¬ e.kind = 5 ∧ ¬ e.kind = 6) (hp : placeB a e.a = false) : doA a e = (2, a) := by
  unfold doA
  rw [if_neg hk.1, if_neg hk.2.1, if_neg hk.2.2, if_pos hp]
theorem doA_p {a : XArchive} {e : XEvent} (hk : ¬ e.kind = 4 ∧ ¬ e.kind = 5 ∧ ¬ e.kind = 6) (hp : placeB a e.a = true) : doA a e = (if e.kind = 1 then doPut a e else if e.kind = 2 then doRevoke a e else if e.kind = 3 then doSend a e else doSave a e) := by
  unfold doA
  rw [if_neg hk.1, if_neg hk.2.1, if_neg hk.2.2, if_neg (by rw [hp]; decide)]
section
variable (a : XArchive) (e : XEvent) (hw : WA a) (he : EA e) (hk9 : 1 ≤ e.kind ∧ e.kind ≤ 9)
include hw he
section
variable (hp : placeB a e.a = false)
include hp
end
section
variable (hp : placeB a e.a = true)
include hp
end
end
end Go.Proofs.YtmpcfplelpdbhaaGreat

namespace Go.Proofs.YtmpcfplelpdbhaaGreat
open Go Go.KA Go.Proofs
set_option maxHeartbeats 16000000
set_option maxRecDepth 100000
theorem take_err {a : XArchive} {i : Int} (h : ¬ (doTake a i).1 = 0) : (doTake a i).2 = a := by
  unfold doTake at h ⊢
  repeat' split at h
  all_goals first | (exfalso; exact h rfl) | skip
  all_goals (repeat' split)
  all_goals first | rfl | (exfalso; contradiction)
theorem take_fly {a : XArchive} {i : Int} : (doTake a i).2.flying = a.flying := by
  unfold doTake
  repeat' split
  all_goals rfl
section
variable (a : XArchive) (e : XEvent) (hw : WA a) (he : EA e) (hk9 : 1 ≤ e.kind ∧ e.kind ≤ 9)
include hw he
end
end Go.Proofs.YtmpcfplelpdbhaaGreat
