/- Contracts of the reference's functions that learn an entry or a revocation. Conditions: the archive's shape, the event's. -/
import Derived.Test.YtmpcfplelpdbhaaGreatZW
namespace Go.Proofs.YtmpcfplelpdbhaaGreat
open Go Go.KA Go.Proofs
set_option maxHeartbeats 16000000
set_option maxRecDepth 100000
end Go.Proofs.YtmpcfplelpdbhaaGreat

namespace Go.Proofs.YtmpcfplelpdbhaaGreat
open Go Go.KA Go.Proofs
set_option maxHeartbeats 16000000
set_option maxRecDepth 100000
mutual
theorem pureL_expr : ∀ e : XExpr, pureL (ownExpr e)
  | .mk kind num kids => by
    simp only [ownExpr, pureL, pureC]
    exact ⟨trivial, trivial, pureLL_exprS kids, trivial⟩
theorem pureLL_exprS : ∀ l : List XExpr, pureLL (ownExprS l)
  | [] => trivial
  | x :: xs => ⟨pureL_expr x, pureLL_exprS xs⟩
end
theorem pureLL_of {α : Type} {f : α → List CV} (h : ∀ x, pureL (f x)) : ∀ l : List α, pureLL (l.map f)
  | [] => trivial
  | x :: xs => ⟨h x, pureLL_of h xs⟩
theorem pureLL_expr (l : List XExpr) : pureLL (l.map ownExpr) := pureLL_of pureL_expr l
theorem pureLL_int (l : List Int) : pureLL (l.map eI) := pureLL_of (f := eI) (fun x => (show pureC (J x) ∧ True from ⟨trivial, trivial⟩)) l
theorem pureL_step (s : XProofStep) : pureL (ownProofStep s) := by
  simp only [ownProofStep, pureL, pureC]
  exact ⟨trivial, trivial, pureLL_int _, pureLL_expr _, pureLL_expr _, trivial⟩
theorem pureL_claim (c : XClaim) : pureL (ownClaim c) := by
  simp only [ownClaim, pureL, pureC]
  exact ⟨trivial, trivial, pureLL_expr _, trivial, trivial, pureLL_expr _, trivial, trivial, pureLL_of pureL_step _, trivial⟩
theorem pureL_note (n : XNote) : pureL (ownNote n) := by
  simp only [ownNote, pureL, pureC]
  exact ⟨trivial, trivial, trivial, pureLL_int _, trivial, trivial, pureLL_of pureL_claim _, trivial⟩
theorem pure_note (n : XNote) : pureT (.a 7 (ownNote n)) := fun x hx => pureL_iff.1 (pureL_note n) x hx
theorem roLL_snocP {l : List XPacket} {r : List CV} {p : XPacket} (h : roL r = encPacket p) : roLL (l.map encPacket ++ [r]) = (l ++ [p]).map encPacket := by
  have h1 := roLL_pkt l
  rw [roLL_map] at h1 ⊢
  rw [List.map_append, h1, List.map_append]
  refine congrArg _ ?_
  show [r.map roC] = [encPacket p]
  rw [← h, roL_map]
theorem isPlace_any (t c : Int) (R S : List (List CV)) (s : Int) : CallF Tryz.prog 195 [.a 4 [J t, J c, .ro 3 R, .ro 8 S], I s] (B (rng 0 ((R.length : Int) - 1) s)) := by
  refine callF_of_vc htb hm Tryz.func195 rfl rfl rfl rfl (ann := fun _ => none) (gh := fun _ => false) ?_
  repeat' ((conv => whnf); first | (guard_target = Done _; refine Done.mk ?_; first | (rfl; done) | skip) | (guard_target = RetX _ _; refine RetX.mk ?_ ?_) | (guard_target = Fact _ _; refine Fact.mk fun hL => ?_; (try simp only [maxLen] at hL)) | (guard_target = Branch _ _ _; (first | refine Branch.dec ?_ ?_ | refine Branch.beq ?_ ?_ | refine Branch.bne ?_ ?_ | refine Branch.ndec ?_ ?_ | refine Branch.nb ?_ ?_ | refine Branch.mk ?_ ?_) <;> intro h <;> (try simp only [List.length_map] at h) <;> (try omega) <;> (try contradiction)) | (guard_target = CallN _ 130 _ _ _ _; refine CallN.pure _ _ rfl (within_ok _ _ _) rfl _ rfl ?_) | (guard_target = Arith _ _ _; refine Arith.fit (wrap_fit (by first | omega | (simp only [List.length_map]; omega)) (by first | omega | (simp only [List.length_map]; omega))) ?_) | (guard_target = Arith _ _ _; refine Arith.fit (by decide) ?_) | (guard_target = Index _ _ _; first  | refine Index.mk _ (idx_map (by omega)) ?_) | (guard_target = Need (_ = true) _; refine Need.mk (by first | kernel_rfl | rfl) ?_) | (guard_target = LinkV _ _ _; first  | refine LinkV.no ?_) | (guard_target = GhO _ _ _ _; refine GhO.go ?_) | (guard_target = Need _ _; refine Need.mk (by first  | omega | (simp only [List.length_map]; omega)) ?_))
theorem l08At_any (t c : Int) (R S : List (List CV)) (s : Int) : CallF Tryz.prog 229 [.c (.rp 4 [J t, J c, .ro 3 R, .ro 8 S]), I s] (B (rng 0 ((R.length : Int) - 1) s)) := by
  refine callF_of_vc htb hm Tryz.func229 rfl rfl rfl rfl (ann := fun _ => none) (gh := fun _ => false) ?_
  repeat' ((conv => whnf); first | (guard_target = Done _; refine Done.mk ?_; first | (rfl; done) | skip) | (guard_target = RetX _ _; refine RetX.mk ?_ ?_) | (guard_target = Fact _ _; refine Fact.mk fun hL => ?_; (try simp only [maxLen] at hL)) | (guard_target = Branch _ _ _; (first | refine Branch.dec ?_ ?_ | refine Branch.beq ?_ ?_ | refine Branch.bne ?_ ?_ | refine Branch.ndec ?_ ?_ | refine Branch.nb ?_ ?_ | refine Branch.mk ?_ ?_) <;> intro h <;> (try simp only [List.length_map] at h) <;> (try omega) <;> (try contradiction)) | (guard_target = CallN _ 122 _ _ _ _; refine CallN.pure _ _ rfl (l00In_ok _ _ _) rfl _ rfl ?_) | (guard_target = Arith _ _ _; refine Arith.fit (wrap_fit (by first | omega | (simp only [List.length_map]; omega)) (by first | omega | (simp only [List.length_map]; omega))) ?_) | (guard_target = Arith _ _ _; refine Arith.fit (by decide) ?_) | (guard_target = Index _ _ _; first  | refine Index.mk _ (idx_map (by omega)) ?_) | (guard_target = Need (_ = true) _; refine Need.mk (by first | kernel_rfl | rfl) ?_) | (guard_target = LinkV _ _ _; first  | refine LinkV.no ?_) | (guard_target = GhO _ _ _ _; refine GhO.go ?_) | (guard_target = Need _ _; refine Need.mk (by first  | omega | (simp only [List.length_map]; omega)) ?_))
theorem isPlace_open (a : XArchive) (i : Nat) (x : List CV) (s : Int) : CallF Tryz.prog 195 [.a 4 [J a.sig.tests, J a.sig.actions, .ro 3 (roLL ((a.servers.map softS).set i x)), .ro 8 (a.flying.map encPacket)], I s] (B (placeB a s)) := by
  have h := isPlace_any a.sig.tests a.sig.actions (roLL ((a.servers.map softS).set i x)) (a.flying.map encPacket) s
  rwa [show (roLL ((a.servers.map softS).set i x)).length = a.servers.length by rw [roLL_map]; simp] at h
theorem l08At_open (a : XArchive) (i : Nat) (x : List CV) (s : Int) : CallF Tryz.prog 229 [.c (.rp 4 [J a.sig.tests, J a.sig.actions, .ro 3 (roLL ((a.servers.map softS).set i x)), .ro 8 (a.flying.map encPacket)]), I s] (B (placeB a s)) := by
  have h := l08At_any a.sig.tests a.sig.actions (roLL ((a.servers.map softS).set i x)) (a.flying.map encPacket) s
  rwa [show (roLL ((a.servers.map softS).set i x)).length = a.servers.length by rw [roLL_map]; simp] at h
abbrev FB (a : XArchive) (R : List (List CV)) : Option (List CV) := some [CV.op [J a.sig.tests, J a.sig.actions, CV.own 127 3 (a.servers.map softS), CV.ows 210 8 R]]
section
variable {a : XArchive} {e : XEvent}
theorem snd_2a (h : placeB a e.b = false) : doSend a e = (2, a) := by
  unfold doSend
  rw [if_pos (by rw [h]; rfl)]
theorem snd_2b (h : placeB a e.b = true) (h2 : e.a = e.b) : doSend a e = (2, a) := by
  unfold doSend
  rw [if_pos (by rw [h, decide_eq_true h2]; rfl)]
theorem snd_2c (h : placeB a e.b = true) (h2 : ¬ e.a = e.b) (h3 : e.c ≥ ((a.servers.getD e.a.toNat s00).notes.length : Int)) : doSend a e = (2, a) := by
  unfold doSend
  rw [if_pos (by rw [h, decide_eq_false h2, decide_eq_true (show ((sA a e.a).notes.length : Int) ≤ e.c from h3)]; rfl)]
theorem snd_n (h : placeB a e.b = true) (h2 : ¬ e.a = e.b) (h3 : ¬ e.c ≥ ((a.servers.getD e.a.toNat s00).notes.length : Int)) : ¬ (!(placeB a e.b) || (decide (e.a = e.b) || decide (((sA a e.a).notes.length : Int) ≤ e.c))) = true := by
  rw [h, decide_eq_false h2, decide_eq_false (show ¬ ((sA a e.a).notes.length : Int) ≤ e.c from h3)]
  decide
theorem snd_4a (h : placeB a e.b = true) (h2 : ¬ e.a = e.b) (h3 : ¬ e.c ≥ ((a.servers.getD e.a.toNat s00).notes.length : Int)) (h4 : (a.servers.getD e.a.toNat s00).up = false) : doSend a e = (4, a) := by
  unfold doSend
  rw [if_neg (snd_n h h2 h3), if_pos (by rw [show (sA a e.a).up = false from h4]; rfl)]
theorem snd_4b (h : placeB a e.b = true) (h2 : ¬ e.a = e.b) (h3 : ¬ e.c ≥ ((a.servers.getD e.a.toNat s00).notes.length : Int)) (h4 : (a.servers.getD e.a.toNat s00).up = true) (h5 : e.c ≥ (a.servers.getD e.a.toNat s00).saved) : doSend a e = (4, a) := by
  unfold doSend
  rw [if_neg (snd_n h h2 h3), if_pos (by rw [show (sA a e.a).up = true from h4, decide_eq_true (show (sA a e.a).saved ≤ e.c from h5)]; rfl)]
theorem snd_m (h4 : (a.servers.getD e.a.toNat s00).up = true) (h5 : ¬ e.c ≥ (a.servers.getD e.a.toNat s00).saved) : ¬ (!(sA a e.a).up || decide ((sA a e.a).saved ≤ e.c)) = true := by
  rw [show (sA a e.a).up = true from h4, decide_eq_false (show ¬ (sA a e.a).saved ≤ e.c from h5)]
  decide
theorem snd_3 (h : placeB a e.b = true) (h2 : ¬ e.a = e.b) (h3 : ¬ e.c ≥ ((a.servers.getD e.a.toNat s00).notes.length : Int)) (h4 : (a.servers.getD e.a.toNat s00).up = true) (h5 : ¬ e.c ≥ (a.servers.getD e.a.toNat s00).saved) (h6 : a.flying.length = 12) : doSend a e = (3, a) := by
  unfold doSend
  rw [if_neg (snd_n h h2 h3), if_neg (snd_m h4 h5), if_pos h6]
theorem snd_0 (h : placeB a e.b = true) (h2 : ¬ e.a = e.b) (h3 : ¬ e.c ≥ ((a.servers.getD e.a.toNat s00).notes.length : Int)) (h4 : (a.servers.getD e.a.toNat s00).up = true) (h5 : ¬ e.c ≥ (a.servers.getD e.a.toNat s00).saved) (h6 : ¬ a.flying.length = 12) : doSend a e = (0, ⟨a.sig, a.servers, a.flying ++ [⟨e.b, (a.servers.getD e.a.toNat s00).notes.getD e.c.toNat n0⟩]⟩) := by
  unfold doSend
  rw [if_neg (snd_n h h2 h3), if_neg (snd_m h4 h5), if_neg h6]
end
end Go.Proofs.YtmpcfplelpdbhaaGreat
