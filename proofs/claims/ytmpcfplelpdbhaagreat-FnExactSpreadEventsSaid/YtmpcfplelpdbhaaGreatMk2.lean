/- Contracts of the laws' own functions mark.., held..: what is marked, and that it is held. No conditions. -/
import Derived.Test.YtmpcfplelpdbhaaGreatXa
namespace Go.Proofs.YtmpcfplelpdbhaaGreat
open Go Go.KA Go.Proofs
set_option maxHeartbeats 16000000
set_option maxRecDepth 100000
theorem CallX.drop {P : Program} {f : Nat} {args : List SV} {outs : List (Option (List CV))} {r : SV} (h : CallX P f args outs r) : CallX P f args [] r := by
  refine ⟨h.1, fun w ok vs fs h1 h2 h3 h4 => (h.2 w ok vs fs h1 h2 h3 h4).mono ?_⟩
  rintro e w' ⟨v, fr, fo, he, hg, hn, hb, hr, ho⟩
  refine ⟨v, fr, [], he, hg, by rw [List.append_nil]; exact (List.nodup_append.1 hn).1, fun b hb' => hb b (by simp at hb'; simp [hb']), hr.mono' fun b hb' => ⟨hb'.1, hb'.2.1, fun hm => hb'.2.2 (by simp at hm; simp [hm])⟩, .nil⟩
def one {α : Type} (_ : α) : Nat := 1
theorem set_get {α : Type} {l : List α} {i : Nat} {x : α} (h : i < l.length) : (l.set i x)[i]? = some x := by
  simp [h]
def mkdL {α : Type} (f : α → Int → α) (c : α → Nat) : List α → Int → List α
  | [], _ => []
  | x :: xs, k => f x k :: mkdL f c xs (k + (c x : Nat))
section
variable {α : Type} {f : α → Int → α} {c : α → Nat} {g : α → List CV}
theorem mkdL_len : ∀ (l : List α) (k : Int), (mkdL f c l k).length = l.length
  | [], _ => rfl
  | x :: xs, k => by
    simp only [mkdL, List.length_cons]
    rw [mkdL_len xs]
theorem mkdL_get : ∀ {l : List α} {k : Int} {i : Nat} (hi : i < l.length), (mkdL f c l k)[i]'(by rw [mkdL_len]; exact hi) = f l[i] (k + (bsum c (l.take i) : Nat))
  | x :: xs, k, 0, _ => by
    simp [mkdL, bsum]
  | x :: xs, k, i + 1, h => by
    simp only [mkdL, List.getElem_cons_succ, List.take_succ_cons]
    rw [mkdL_get (by simpa using h)]
    congr 1
    show _ = k + ((c x + bsum c (xs.take i) : Nat) : Int)
    omega
def hfL (f : α → Int → α) (c : α → Nat) (l : List α) (k : Int) (i : Nat) : List α := (mkdL f c l k).take i ++ l.drop i
theorem hfL_len (l : List α) (k : Int) (i : Nat) : (hfL f c l k i).length = l.length := by
  unfold hfL
  rw [List.length_append, List.length_take, List.length_drop, mkdL_len]
  omega
theorem hfL_get {l : List α} {k : Int} {i : Nat} (hi : i < l.length) : ((hfL f c l k i).map g)[i]? = some (g l[i]) := by
  rw [List.getElem?_map]
  have h : (hfL f c l k i)[i]? = some l[i] := by
    unfold hfL
    rw [List.getElem?_append_right (by rw [List.length_take, mkdL_len]; omega), List.length_take, mkdL_len, List.getElem?_drop]
    rw [show i + (i - min i l.length) = i by omega, List.getElem?_eq_getElem hi]
  rw [h]
  rfl
theorem hfL_set {l : List α} {k : Int} {i : Nat} (hi : i < l.length) : (hfL f c l k i).set i (f l[i] (k + (bsum c (l.take i) : Nat))) = hfL f c l k (i + 1) := by
  have hm : i < (mkdL f c l k).length := by rw [mkdL_len]; exact hi
  unfold hfL
  rw [List.set_append_right i _ (by rw [List.length_take]; omega), List.length_take, show i - min i (mkdL f c l k).length = 0 by omega, List.drop_eq_getElem_cons hi, List.set_cons_zero, List.take_succ_eq_append_getElem hm, List.append_assoc, mkdL_get hi]
  rfl
theorem hfL_end {l : List α} {k : Int} : hfL f c l k l.length = mkdL f c l k := by
  unfold hfL
  rw [List.drop_length, List.append_nil, List.take_of_length_le (by rw [mkdL_len]; exact Nat.le_refl _)]
theorem mkdL_idx {l : List α} {k d : Int} {i : Nat} {r : List CV} (hi : i < l.length) (hc : d = k + (bsum c (l.take i) : Nat)) (hr : g (f l[i] d) = r) : ((mkdL f c l k).map g)[i]? = some r := by
  rw [List.getElem?_map, List.getElem?_eq_getElem (by rw [mkdL_len]; exact hi), mkdL_get hi, ← hc, ← hr]
  rfl
theorem hfL_row {l : List α} {k d : Int} {i : Nat} {r : List CV} {R : List (List CV)} (hi : i < l.length) (hd : d = k + (bsum c (l.take i) : Nat)) (hr : r = g (f l[i] d)) (hR : R = ((hfL f c l k i).map g).set i r) : R = (hfL f c l k (i + 1)).map g := by
  rw [hR, ← hfL_set hi, List.map_set, hr, hd]
end
abbrev mk1 (_ : Int) (k : Int) : Int := k
abbrev Jm (n : Int) : CV := .val (.int .i64 n)
abbrev mkB (_ : Bool) (k : Int) : Bool := k.tmod 3 == 0
mutual
def mkeExpr : XExpr → Nat
  | .mk _ _ kids => 2 + mkeExprS kids
def mkeExprS : List XExpr → Nat
  | [] => 0
  | x :: xs => mkeExpr x + mkeExprS xs
end
theorem mkeExprS_eq : ∀ l : List XExpr, mkeExprS l = bsum mkeExpr l
  | [] => rfl
  | x :: xs => by simp only [mkeExprS, bsum]; rw [mkeExprS_eq xs]
theorem mkeExpr_eq (x : XExpr) : mkeExpr x = 2 + bsum mkeExpr x.kids := by
  cases x
  simp only [mkeExpr, mkeExprS_eq]
  rfl
mutual
def mkdExpr : XExpr → Int → XExpr
  | .mk _ _ kids, k => .mk k (k + 1) (mkdExprS kids (k + 1 + 1))
def mkdExprS : List XExpr → Int → List XExpr
  | [], _ => []
  | x :: xs, k => mkdExpr x k :: mkdExprS xs (k + (mkeExpr x : Nat))
end
theorem mkdExprS_eq : ∀ (l : List XExpr) (k : Int), mkdExprS l k = mkdL mkdExpr mkeExpr l k
  | [], _ => rfl
  | x :: xs, k => by simp only [mkdExprS, mkdL]; rw [mkdExprS_eq xs]
theorem mkdExpr_eq (x : XExpr) (k : Int) : mkdExpr x k = (XExpr.mk k (k + 1) (mkdL mkdExpr mkeExpr x.kids (k + 1 + 1))) := by
  cases x
  simp only [mkdExpr, mkdExprS_eq]
  try rfl
def mkeProofStep (x : XProofStep) : Nat := 2 + bsum one x.path + bsum mkeExpr x.tests + bsum mkeExpr x.acts
theorem mkeProofStep_eq (x : XProofStep) : mkeProofStep x = 2 + bsum one x.path + bsum mkeExpr x.tests + bsum mkeExpr x.acts := rfl
def mkdProofStep (x : XProofStep) (k : Int) : XProofStep := (XProofStep.mk k ((k + 1).tmod 3 == 0) (mkdL mk1 one x.path (k + 1 + 1)) (mkdL mkdExpr mkeExpr x.tests (k + 1 + 1 + (bsum one x.path : Nat))) (mkdL mkdExpr mkeExpr x.acts (k + 1 + 1 + (bsum one x.path : Nat) + (bsum mkeExpr x.tests : Nat))))
def mkeClaim (x : XClaim) : Nat := 6 + bsum mkeExpr x.left.kids + bsum mkeExpr x.right.kids + bsum mkeProofStep x.steps
theorem mkeClaim_eq (x : XClaim) : mkeClaim x = 6 + bsum mkeExpr x.left.kids + bsum mkeExpr x.right.kids + bsum mkeProofStep x.steps := rfl
def mkdClaim (x : XClaim) (k : Int) : XClaim := (XClaim.mk (XExpr.mk k (k + 1) (mkdL mkdExpr mkeExpr x.left.kids (k + 1 + 1))) (XExpr.mk (k + 1 + 1 + (bsum mkeExpr x.left.kids : Nat)) (k + 1 + 1 + (bsum mkeExpr x.left.kids : Nat) + 1) (mkdL mkdExpr mkeExpr x.right.kids (k + 1 + 1 + (bsum mkeExpr x.left.kids : Nat) + 1 + 1))) (k + 1 + 1 + (bsum mkeExpr x.left.kids : Nat) + 1 + 1 + (bsum mkeExpr x.right.kids : Nat)) (k + 1 + 1 + (bsum mkeExpr x.left.kids : Nat) + 1 + 1 + (bsum mkeExpr x.right.kids : Nat) + 1) (mkdL mkdProofStep mkeProofStep x.steps (k + 1 + 1 + (bsum mkeExpr x.left.kids : Nat) + 1 + 1 + (bsum mkeExpr x.right.kids : Nat) + 1 + 1)))
def mkeNote (x : XNote) : Nat := 5 + bsum one x.entry.rests + bsum mkeClaim x.entry.proof.claims
theorem mkeNote_eq (x : XNote) : mkeNote x = 5 + bsum one x.entry.rests + bsum mkeClaim x.entry.proof.claims := rfl
def mkdNote (x : XNote) (k : Int) : XNote := (XNote.mk (k.tmod 3 == 0) (k + 1) (XEntry.mk (k + 1 + 1) (mkdL mk1 one x.entry.rests (k + 1 + 1 + 1)) (XProof.mk (XSig.mk (k + 1 + 1 + 1 + (bsum one x.entry.rests : Nat)) (k + 1 + 1 + 1 + (bsum one x.entry.rests : Nat) + 1)) (mkdL mkdClaim mkeClaim x.entry.proof.claims (k + 1 + 1 + 1 + (bsum one x.entry.rests : Nat) + 1 + 1)))))
def mkeServer (x : XServer) : Nat := 2 + bsum mkeNote x.notes
theorem mkeServer_eq (x : XServer) : mkeServer x = 2 + bsum mkeNote x.notes := rfl
def mkdServer (x : XServer) (k : Int) : XServer := (XServer.mk (k.tmod 3 == 0) (mkdL mkdNote mkeNote x.notes (k + 1)) (k + 1 + (bsum mkeNote x.notes : Nat)))
theorem markInt64S_out (l : List Int) (k : Int) (h0 : 0 ≤ k) (hk : k + (bsum one l : Nat) ≤ 4611686018427387904) : CallX Tryz.prog 77 [.c (.ows 2 1 (l.map eI)), I k] [some [.ows 2 1 ((mkdL mk1 one l k).map eI)], none] (I (k + (bsum one l : Nat))) := by
  refine callX_of_vc htb hm Tryz.func77 rfl rfl rfl rfl (ann := fun n => match n with | 2 => some { α := Nat, keep := [0], ov := fun a => [(5, I a), (1, I (k + (bsum one (l.take a) : Nat)))], hv := fun a => [(0, .row none 2 1 ((hfL mk1 one l k a).map eI))], φ := fun a => a ≤ l.length, μ := fun a => l.length - a } | _ => none) (gh := fun _ => false) ?_
  refine LoopN.mk (0 : Nat) (Nat.zero_le _) ⟨⟨rfl, rfl⟩, ⟨?_, rfl⟩, trivial⟩ ⟨⟨rfl, rfl⟩, trivial⟩ ⟨⟨rfl, rfl⟩, trivial⟩ ?_ (fun _ => rfl)
  · refine congrArg I ?_
    simp [bsum]
  intro (i : Nat) (hi : i ≤ l.length)
  have hlen : ((hfL mk1 one l k i).map eI).length = l.length := by rw [List.length_map, hfL_len]
  refine Fact.mk fun (hL : ((hfL mk1 one l k i).map eI).length ≤ maxLen) => ?_
  refine Branch.mk (fun h => ?_) (fun h => ?_)
  · have h : (i : Int) < (((hfL mk1 one l k i).map eI).length : Nat) := of_decide_eq_true h
    have hi' : i < l.length := by omega
    have hs := bsum_take (f := one) (List.getElem?_eq_getElem hi')
    have hle := bsum_le (f := one) l (i + 1)
    have hf : one l[i] = 1 := rfl
    have hg : ((hfL mk1 one l k i).map eI)[i]? = some [Jm l[i]] := (hfL_get hi').trans (congrArg some rfl)
    conv => whnf
    refine Need.mk ⟨by omega, by rw [hlen]; exact hi'⟩ ?_
    refine Index.mk [Jm l[i]] hg ?_
    conv => whnf
    refine Arith.fit (wrap_fit (z := k + (bsum one (l.take i) : Nat) + 1) (by omega) (by omega)) ?_
    conv => whnf
    refine Arith.fit (wrap_fit (z := (i : Int) + 1) (by omega) (by simp only [maxLen] at hL; omega)) ?_
    conv => whnf
    refine Gh.go ⟨i + 1, hi', (by show l.length - (i + 1) < l.length - i; omega), ⟨⟨rfl, rfl⟩, ⟨?_, rfl⟩, trivial⟩, ⟨⟨rfl, rfl⟩, trivial⟩, ⟨⟨?_, rfl⟩, trivial⟩⟩
    · refine congrArg I ?_
      show k + (bsum one (l.take i) : Nat) + 1 = k + (bsum one (l.take (i + 1)) : Nat)
      omega
    · refine congrArg (Blk.row none 2 1) ?_
      refine hfL_row (d := k + (bsum one (l.take i) : Nat)) (r := [Jm (k + (bsum one (l.take i) : Nat))]) hi' rfl rfl ?_
      rw [Int.toNat_natCast]
      repeat rw [List.set_set]
      all_goals rfl
  · have h : ¬ (i : Int) < (((hfL mk1 one l k i).map eI).length : Nat) := of_decide_eq_false h
    have : i = l.length := by omega
    subst this
    refine RetX.mk ?_ ⟨?_, trivial⟩
    · refine congrArg I ?_
      rw [List.take_length]
    · rw [← hfL_end]
      rfl
theorem heldInt64S_mk (l : List Int) (k : Int) (h0 : 0 ≤ k) (hk : k + (bsum one l : Nat) ≤ 4611686018427387904) : CallF Tryz.prog 80 [.c (.ro 1 ((mkdL mk1 one l k).map eI)), I k] (I (k + (bsum one l : Nat))) := by
  have hl := mkdL_len (f := mk1) (c := one) l k
  have hs : ∀ i, (hi : i < l.length) → bsum one (l.take (i + 1)) = bsum one (l.take i) + (1) ∧ bsum one (l.take (i + 1)) ≤ bsum one l := fun i hi => by
    have h1 := bsum_take (f := one) (List.getElem?_eq_getElem hi)
    have h2 := bsum_le (f := one) l (i + 1)
    have h3 : one l[i] = 1 := rfl
    omega
  have hix : ∀ (i : Nat) (c : Int) (hi : i < l.length), c = k + (bsum one (l.take i) : Nat) → ((mkdL mk1 one l k).map eI)[i]? = some [Jm c] := fun i c hi hc => mkdL_idx hi hc rfl
  refine callF_of_vc htb hm Tryz.func80 rfl rfl rfl rfl (ann := fun _ => none) (gh := fun _ => false) ?_
  repeat' ((conv => whnf); first | (guard_target = Done _; refine Done.mk ?_; first | ((have e : i = l.length := (by omega); have h9 := ha.2; rw [e, List.take_length] at h9; rw [h9]; rfl); done) | skip) | (guard_target = RetX _ _; refine RetX.mk ?_ ?_) | (guard_target =~ LoopE 2 _ _ _ _ _ _; refine LoopE.mk { α := Nat × Int, keep := [0], ov := fun ⟨i, c⟩ => [(1, I c), (5, I (i : Nat))], φ := fun ⟨i, c⟩ => i ≤ l.length ∧ c = k + (bsum one (l.take i) : Nat), μ := fun ⟨i, c⟩ => l.length - i } (LoopN.mk ((0, k) : Nat × Int) (by exact ⟨Nat.zero_le _, by simp [bsum]⟩) (by (repeat' first | exact trivial | exact rfl | refine ⟨?_, ?_⟩); done) (by (repeat' first | exact trivial | exact rfl | refine ⟨?_, ?_⟩); done) (by (repeat' first | exact trivial | exact rfl | refine ⟨?_, ?_⟩ | (simp only [List.map_append, List.map_cons, List.map_nil, List.map_set]; first | done | rfl)); done) (fun A ha => ?_) (by intro A; first | rfl | (obtain ⟨_, _⟩ := A; rfl) | (obtain ⟨_, _, _⟩ := A; rfl))); obtain ⟨i, c⟩ := A; have ha : i ≤ l.length ∧ c = k + (bsum one (l.take i) : Nat) := ha; have hsi := hs i; have hc2 := ha.2; have hb9 := bsum_le (f := one) l i) | (guard_target = Gh _ _ _ _ _; refine Gh.go ⟨((i + 1, c + 1) : Nat × Int), (by (have hi9 : i < l.length := (by omega); have h9 := hsi hi9; refine ⟨hi9, ?_⟩; show c + 1 = k + (bsum one (l.take (i + 1)) : Nat); omega)), (by first | (show _ < _; simp only []; omega) | omega | (simp; omega)), (by (repeat' first | exact trivial | exact rfl | refine ⟨?_, ?_⟩); done), (by (repeat' first | exact trivial | exact rfl | refine ⟨?_, ?_⟩); done), (by (repeat' first | exact trivial | exact rfl | refine ⟨?_, ?_⟩ | (simp only [List.map_append, List.map_cons, List.map_nil, List.map_set]; first | done | rfl)); done)⟩) | (guard_target = Fact _ _; refine Fact.mk fun hL => ?_; (try simp only [List.length_map, maxLen] at hL)) | (guard_target = Branch _ _ _; (first | refine Branch.dec ?_ ?_ | refine Branch.beq ?_ ?_ | refine Branch.bne ?_ ?_ | refine Branch.ndec ?_ ?_ | refine Branch.nb ?_ ?_ | refine Branch.mk ?_ ?_) <;> intro h <;> (try simp only [List.length_map] at h) <;> (try omega) <;> (try contradiction)) | (guard_target = Arith _ _ _; refine Arith.fit (wrap_fit (by (first | omega | (have h9 := hsi (by omega); omega) | (simp only [List.length_map]; omega))) (by (first | omega | (have h9 := hsi (by omega); omega) | (simp only [List.length_map]; omega)))) ?_) | (guard_target = Arith _ _ _; refine Arith.fit (by decide) ?_) | (guard_target = Index _ _ _; first | refine Index.mk _ (hix i c (by omega) ha.2) ?_ | refine Index.mk _ (hix i _ (by omega) ha.2) ?_ | refine Index.mk _ (idx_map (by omega)) ?_) | (guard_target = Need (_ = true) _; refine Need.mk (by first | kernel_rfl | rfl) ?_) | (guard_target = LinkV _ _ _; first  | refine LinkV.no ?_) | (guard_target = GhO _ _ _ _; refine GhO.go ?_) | (guard_target = Need _ _; refine Need.mk (by first  | omega | (simp only [List.length_map]; omega)) ?_))
theorem markExprS_outA (l : List XExpr) (k : Int) (h0 : 0 ≤ k) (hk : k + (bsum mkeExpr l : Nat) ≤ 4611686018427387904) (hx : ∀ x ∈ l, ∀ k : Int, 0 ≤ k → k + (bsum mkeExpr x.kids : Nat) ≤ 4611686018427387904 → CallX Tryz.prog 51 [.c (.own 37 3 (x.kids.map ownExpr)), I k] [some [.own 37 3 ((mkdL mkdExpr mkeExpr x.kids k).map ownExpr)], none] (I (k + (bsum mkeExpr x.kids : Nat)))) : CallX Tryz.prog 51 [.c (.own 37 3 (l.map ownExpr)), I k] [some [.own 37 3 ((mkdL mkdExpr mkeExpr l k).map ownExpr)], none] (I (k + (bsum mkeExpr l : Nat))) := by
  refine callX_of_vc htb hm Tryz.func51 rfl rfl rfl rfl (ann := fun n => match n with | 2 => some { α := Nat, keep := [0], ov := fun a => [(5, I a), (1, I (k + (bsum mkeExpr (l.take a) : Nat)))], hv := fun a => [(0, .orow none 37 3 ((hfL mkdExpr mkeExpr l k a).map ownExpr))], φ := fun a => a ≤ l.length, μ := fun a => l.length - a } | _ => none) (gh := fun _ => false) ?_
  refine LoopN.mk (0 : Nat) (Nat.zero_le _) ⟨⟨rfl, rfl⟩, ⟨?_, rfl⟩, trivial⟩ ⟨⟨rfl, rfl⟩, trivial⟩ ⟨⟨rfl, rfl⟩, trivial⟩ ?_ (fun _ => rfl)
  · refine congrArg I ?_
    simp [bsum]
  intro (i : Nat) (hi : i ≤ l.length)
  have hlen : ((hfL mkdExpr mkeExpr l k i).map ownExpr).length = l.length := by rw [List.length_map, hfL_len]
  refine Fact.mk fun (hL : ((hfL mkdExpr mkeExpr l k i).map ownExpr).length ≤ maxLen) => ?_
  refine Branch.mk (fun h => ?_) (fun h => ?_)
  · have h : (i : Int) < (((hfL mkdExpr mkeExpr l k i).map ownExpr).length : Nat) := of_decide_eq_true h
    have hi' : i < l.length := by omega
    have hs := bsum_take (f := mkeExpr) (List.getElem?_eq_getElem hi')
    have hle := bsum_le (f := mkeExpr) l (i + 1)
    have hf : mkeExpr l[i] = 2 + bsum mkeExpr l[i].kids := mkeExpr_eq _
    have hg : ((hfL mkdExpr mkeExpr l k i).map ownExpr)[i]? = some [.val (.int .i64 l[i].kind), .val (.int .i64 l[i].num), .own 37 3 (l[i].kids.map ownExpr)] := (hfL_get hi').trans (congrArg some (ownExpr_eq _))
    conv => whnf
    refine Need.mk ⟨by omega, by rw [hlen]; exact hi'⟩ ?_
    refine Index.mk [.val (.int .i64 l[i].kind), .val (.int .i64 l[i].num), .own 37 3 (l[i].kids.map ownExpr)] hg ?_
    conv => whnf
    refine Arith.fit (wrap_fit (z := k + (bsum mkeExpr (l.take i) : Nat) + 1) (by omega) (by omega)) ?_
    conv => whnf
    refine Need.mk ⟨by omega, by simp only [List.length_set]; rw [hlen]; exact hi'⟩ ?_
    refine Index.mk [Jm (k + (bsum mkeExpr (l.take i) : Nat)), .val (.int .i64 l[i].num), .own 37 3 (l[i].kids.map ownExpr)] (set_get (by rw [hlen]; exact hi')) ?_
    conv => whnf
    refine Arith.fit (wrap_fit (z := k + (bsum mkeExpr (l.take i) : Nat) + 1 + 1) (by omega) (by omega)) ?_
    conv => whnf
    refine Need.mk ⟨by omega, by simp only [List.length_set]; rw [hlen]; exact hi'⟩ ?_
    refine Index.mk [Jm (k + (bsum mkeExpr (l.take i) : Nat)), Jm (k + (bsum mkeExpr (l.take i) : Nat) + 1), .own 37 3 (l[i].kids.map ownExpr)] (set_get (by simp only [List.length_set]; rw [hlen]; exact hi')) ?_
    conv => whnf
    intro v1
    conv => whnf
    refine CallN.gen [true, false] _ _ _ rfl (hx l[i] (List.getElem_mem hi') (k + (bsum mkeExpr (l.take i) : Nat) + 1 + 1) (by omega) (by omega)) rfl rfl _ rfl ?_
    conv => whnf
    refine Arith.fit (wrap_fit (z := (i : Int) + 1) (by omega) (by simp only [maxLen] at hL; omega)) ?_
    conv => whnf
    refine Gh.close 0 i 2 1 rfl (set_get (by simp only [List.length_set]; rw [hlen]; exact hi')) rfl rfl rfl ?_
    refine Gh.go ⟨i + 1, hi', (by show l.length - (i + 1) < l.length - i; omega), ⟨⟨rfl, rfl⟩, ⟨?_, rfl⟩, trivial⟩, ⟨⟨rfl, rfl⟩, trivial⟩, ⟨⟨?_, rfl⟩, trivial⟩⟩
    · refine congrArg I ?_
      show k + (bsum mkeExpr (l.take i) : Nat) + 1 + 1 + (bsum mkeExpr l[i].kids : Nat) = k + (bsum mkeExpr (l.take (i + 1)) : Nat)
      omega
    · refine congrArg (Blk.orow none 37 3) ?_
      refine hfL_row (d := k + (bsum mkeExpr (l.take i) : Nat)) (r := [Jm (k + (bsum mkeExpr (l.take i) : Nat)), Jm (k + (bsum mkeExpr (l.take i) : Nat) + 1), .own 37 3 ((mkdL mkdExpr mkeExpr (l[i].kids) (k + (bsum mkeExpr (l.take i) : Nat) + 1 + 1)).map ownExpr)]) hi' rfl (by rw [mkdExpr_eq, ownExpr_eq]; rfl) ?_
      rw [Int.toNat_natCast]
      repeat rw [List.set_set]
      all_goals rfl
  · have h : ¬ (i : Int) < (((hfL mkdExpr mkeExpr l k i).map ownExpr).length : Nat) := of_decide_eq_false h
    have : i = l.length := by omega
    subst this
    refine RetX.mk ?_ ⟨?_, trivial⟩
    · refine congrArg I ?_
      rw [List.take_length]
    · rw [← hfL_end]
      rfl
theorem markExprS_out : ∀ (l : List XExpr) (k : Int), 0 ≤ k → k + (bsum mkeExpr l : Nat) ≤ 4611686018427387904 → CallX Tryz.prog 51 [.c (.own 37 3 (l.map ownExpr)), I k] [some [.own 37 3 ((mkdL mkdExpr mkeExpr l k).map ownExpr)], none] (I (k + (bsum mkeExpr l : Nat)))
  | l, k, h0, hk => markExprS_outA l k h0 hk fun x _hm k h0 hk => markExprS_out x.kids k h0 hk
  termination_by l => SizeOf.sizeOf l
  decreasing_by
    have h1 := List.sizeOf_lt_of_mem _hm
    have h2 : SizeOf.sizeOf x.kids < SizeOf.sizeOf x := by
      cases x
      simp only [XExpr.mk.sizeOf_spec, XExpr.kids]
      omega
    omega
theorem heldExprS_mkA (l : List XExpr) (k : Int) (h0 : 0 ≤ k) (hk : k + (bsum mkeExpr l : Nat) ≤ 4611686018427387904) (hx : ∀ x ∈ l, ∀ k : Int, 0 ≤ k → k + (bsum mkeExpr x.kids : Nat) ≤ 4611686018427387904 → CallF Tryz.prog 118 [.c (.ro 3 ((mkdL mkdExpr mkeExpr x.kids k).map encExpr)), I k] (I (k + (bsum mkeExpr x.kids : Nat)))) : CallF Tryz.prog 118 [.c (.ro 3 ((mkdL mkdExpr mkeExpr l k).map encExpr)), I k] (I (k + (bsum mkeExpr l : Nat))) := by
  have hl := mkdL_len (f := mkdExpr) (c := mkeExpr) l k
  have hs : ∀ i, (hi : i < l.length) → bsum mkeExpr (l.take (i + 1)) = bsum mkeExpr (l.take i) + (2 + bsum mkeExpr l[i].kids) ∧ bsum mkeExpr (l.take (i + 1)) ≤ bsum mkeExpr l := fun i hi => by
    have h1 := bsum_take (f := mkeExpr) (List.getElem?_eq_getElem hi)
    have h2 := bsum_le (f := mkeExpr) l (i + 1)
    have h3 : mkeExpr l[i] = 2 + bsum mkeExpr l[i].kids := mkeExpr_eq _
    omega
  have hix : ∀ (i : Nat) (c : Int) (hi : i < l.length), c = k + (bsum mkeExpr (l.take i) : Nat) → ((mkdL mkdExpr mkeExpr l k).map encExpr)[i]? = some [Jm (c), Jm (c + 1), .ro 3 ((mkdL mkdExpr mkeExpr (l[i].kids) (c + 1 + 1)).map encExpr)] := fun i c hi hc => mkdL_idx hi hc (by rw [mkdExpr_eq, encExpr_eq]; rfl)
  refine callF_of_vc htb hm Tryz.func118 rfl rfl rfl rfl (ann := fun _ => none) (gh := fun _ => false) ?_
  repeat' ((conv => whnf); first | (guard_target = Done _; refine Done.mk ?_; first | ((have e : i = l.length := (by omega); have h9 := ha.2; rw [e, List.take_length] at h9; rw [h9]; rfl); done) | skip) | (guard_target = RetX _ _; refine RetX.mk ?_ ?_) | (guard_target =~ LoopE 2 _ _ _ _ _ _; refine LoopE.mk { α := Nat × Int, keep := [0], ov := fun ⟨i, c⟩ => [(1, I c), (5, I (i : Nat))], φ := fun ⟨i, c⟩ => i ≤ l.length ∧ c = k + (bsum mkeExpr (l.take i) : Nat), μ := fun ⟨i, c⟩ => l.length - i } (LoopN.mk ((0, k) : Nat × Int) (by exact ⟨Nat.zero_le _, by simp [bsum]⟩) (by (repeat' first | exact trivial | exact rfl | refine ⟨?_, ?_⟩); done) (by (repeat' first | exact trivial | exact rfl | refine ⟨?_, ?_⟩); done) (by (repeat' first | exact trivial | exact rfl | refine ⟨?_, ?_⟩ | (simp only [List.map_append, List.map_cons, List.map_nil, List.map_set]; first | done | rfl)); done) (fun A ha => ?_) (by intro A; first | rfl | (obtain ⟨_, _⟩ := A; rfl) | (obtain ⟨_, _, _⟩ := A; rfl))); obtain ⟨i, c⟩ := A; have ha : i ≤ l.length ∧ c = k + (bsum mkeExpr (l.take i) : Nat) := ha; have hsi := hs i; have hc2 := ha.2; have hb9 := bsum_le (f := mkeExpr) l i) | (guard_target = Gh _ _ _ _ _; refine Gh.go ⟨((i + 1, c + 1 + 1 + (bsum mkeExpr l[i].kids : Nat)) : Nat × Int), (by (have hi9 : i < l.length := (by omega); have h9 := hsi hi9; refine ⟨hi9, ?_⟩; show c + 1 + 1 + (bsum mkeExpr l[i].kids : Nat) = k + (bsum mkeExpr (l.take (i + 1)) : Nat); omega)), (by first | (show _ < _; simp only []; omega) | omega | (simp; omega)), (by (repeat' first | exact trivial | exact rfl | refine ⟨?_, ?_⟩); done), (by (repeat' first | exact trivial | exact rfl | refine ⟨?_, ?_⟩); done), (by (repeat' first | exact trivial | exact rfl | refine ⟨?_, ?_⟩ | (simp only [List.map_append, List.map_cons, List.map_nil, List.map_set]; first | done | rfl)); done)⟩) | (guard_target = Fact _ _; refine Fact.mk fun hL => ?_; (try simp only [List.length_map, maxLen] at hL)) | (guard_target = Branch _ _ _; (first | refine Branch.dec ?_ ?_ | refine Branch.beq ?_ ?_ | refine Branch.bne ?_ ?_ | refine Branch.ndec ?_ ?_ | refine Branch.nb ?_ ?_ | refine Branch.mk ?_ ?_) <;> intro h <;> (try simp only [List.length_map] at h) <;> (try omega) <;> (try contradiction)) | (guard_target = CallN _ 118 _ _ _ _; refine CallN.pure _ _ rfl (hx l[i] (List.getElem_mem (by omega)) (c + 1 + 1) (by omega) (by have h9 := hsi (by omega); omega)) rfl _ rfl ?_) | (guard_target = Arith _ _ _; refine Arith.fit (wrap_fit (by (first | omega | (have h9 := hsi (by omega); omega) | (simp only [List.length_map]; omega))) (by (first | omega | (have h9 := hsi (by omega); omega) | (simp only [List.length_map]; omega)))) ?_) | (guard_target = Arith _ _ _; refine Arith.fit (by decide) ?_) | (guard_target = Index _ _ _; first | refine Index.mk _ (hix i c (by omega) ha.2) ?_ | refine Index.mk _ (hix i _ (by omega) ha.2) ?_ | refine Index.mk _ (idx_map (by omega)) ?_) | (guard_target = Need (_ = true) _; refine Need.mk (by first | kernel_rfl | rfl) ?_) | (guard_target = LinkV _ _ _; first  | refine LinkV.no ?_) | (guard_target = GhO _ _ _ _; refine GhO.go ?_) | (guard_target = Need _ _; refine Need.mk (by first  | omega | (simp only [List.length_map]; omega)) ?_))
theorem heldExprS_mk : ∀ (l : List XExpr) (k : Int), 0 ≤ k → k + (bsum mkeExpr l : Nat) ≤ 4611686018427387904 → CallF Tryz.prog 118 [.c (.ro 3 ((mkdL mkdExpr mkeExpr l k).map encExpr)), I k] (I (k + (bsum mkeExpr l : Nat)))
  | l, k, h0, hk => heldExprS_mkA l k h0 hk fun x _hm k h0 hk => heldExprS_mk x.kids k h0 hk
  termination_by l => SizeOf.sizeOf l
  decreasing_by
    have h1 := List.sizeOf_lt_of_mem _hm
    have h2 : SizeOf.sizeOf x.kids < SizeOf.sizeOf x := by
      cases x
      simp only [XExpr.mk.sizeOf_spec, XExpr.kids]
      omega
    omega
theorem markProofStepS_out (l : List XProofStep) (k : Int) (h0 : 0 ≤ k) (hk : k + (bsum mkeProofStep l : Nat) ≤ 4611686018427387904) : CallX Tryz.prog 145 [.c (.own 276 5 (l.map ownProofStep)), I k] [some [.own 276 5 ((mkdL mkdProofStep mkeProofStep l k).map ownProofStep)], none] (I (k + (bsum mkeProofStep l : Nat))) := by
  refine callX_of_vc htb hm Tryz.func145 rfl rfl rfl rfl (ann := fun n => match n with | 2 => some { α := Nat, keep := [0], ov := fun a => [(5, I a), (1, I (k + (bsum mkeProofStep (l.take a) : Nat)))], hv := fun a => [(0, .orow none 276 5 ((hfL mkdProofStep mkeProofStep l k a).map ownProofStep))], φ := fun a => a ≤ l.length, μ := fun a => l.length - a } | _ => none) (gh := fun _ => false) ?_
  refine LoopN.mk (0 : Nat) (Nat.zero_le _) ⟨⟨rfl, rfl⟩, ⟨?_, rfl⟩, trivial⟩ ⟨⟨rfl, rfl⟩, trivial⟩ ⟨⟨rfl, rfl⟩, trivial⟩ ?_ (fun _ => rfl)
  · refine congrArg I ?_
    simp [bsum]
  intro (i : Nat) (hi : i ≤ l.length)
  have hlen : ((hfL mkdProofStep mkeProofStep l k i).map ownProofStep).length = l.length := by rw [List.length_map, hfL_len]
  refine Fact.mk fun (hL : ((hfL mkdProofStep mkeProofStep l k i).map ownProofStep).length ≤ maxLen) => ?_
  refine Branch.mk (fun h => ?_) (fun h => ?_)
  · have h : (i : Int) < (((hfL mkdProofStep mkeProofStep l k i).map ownProofStep).length : Nat) := of_decide_eq_true h
    have hi' : i < l.length := by omega
    have hs := bsum_take (f := mkeProofStep) (List.getElem?_eq_getElem hi')
    have hle := bsum_le (f := mkeProofStep) l (i + 1)
    have hf : mkeProofStep l[i] = 2 + bsum one l[i].path + bsum mkeExpr l[i].tests + bsum mkeExpr l[i].acts := mkeProofStep_eq _
    have hg : ((hfL mkdProofStep mkeProofStep l k i).map ownProofStep)[i]? = some [.val (.int .i64 l[i].use), .val (.bool l[i].back), .ows 2 1 (l[i].path.map eI), .own 37 3 (l[i].tests.map ownExpr), .own 37 3 (l[i].acts.map ownExpr)] := (hfL_get hi').trans (congrArg some rfl)
    conv => whnf
    refine Need.mk ⟨by omega, by rw [hlen]; exact hi'⟩ ?_
    refine Index.mk [.val (.int .i64 l[i].use), .val (.bool l[i].back), .ows 2 1 (l[i].path.map eI), .own 37 3 (l[i].tests.map ownExpr), .own 37 3 (l[i].acts.map ownExpr)] hg ?_
    conv => whnf
    refine Arith.fit (wrap_fit (z := k + (bsum mkeProofStep (l.take i) : Nat) + 1) (by omega) (by omega)) ?_
    conv => whnf
    refine Need.mk (by decide) ?_
    conv => whnf
    refine Need.mk ⟨by omega, by simp only [List.length_set]; rw [hlen]; exact hi'⟩ ?_
    refine Index.mk [Jm (k + (bsum mkeProofStep (l.take i) : Nat)), .val (.bool l[i].back), .ows 2 1 (l[i].path.map eI), .own 37 3 (l[i].tests.map ownExpr), .own 37 3 (l[i].acts.map ownExpr)] (set_get (by rw [hlen]; exact hi')) ?_
    conv => whnf
    refine Arith.fit (wrap_fit (z := k + (bsum mkeProofStep (l.take i) : Nat) + 1 + 1) (by omega) (by omega)) ?_
    conv => whnf
    refine Need.mk ⟨by omega, by simp only [List.length_set]; rw [hlen]; exact hi'⟩ ?_
    refine Index.mk [Jm (k + (bsum mkeProofStep (l.take i) : Nat)), .val (.bool ((k + (bsum mkeProofStep (l.take i) : Nat) + 1).tmod 3 == 0)), .ows 2 1 (l[i].path.map eI), .own 37 3 (l[i].tests.map ownExpr), .own 37 3 (l[i].acts.map ownExpr)] (set_get (by simp only [List.length_set]; rw [hlen]; exact hi')) ?_
    conv => whnf
    intro v1
    conv => whnf
    refine CallN.gen [true, false] _ _ _ rfl (markInt64S_out l[i].path (k + (bsum mkeProofStep (l.take i) : Nat) + 1 + 1) (by omega) (by omega)) rfl rfl _ rfl ?_
    conv => whnf
    refine Need.mk ⟨by omega, by simp only [List.length_set]; rw [hlen]; exact hi'⟩ ?_
    refine Index.mk [Jm (k + (bsum mkeProofStep (l.take i) : Nat)), .val (.bool ((k + (bsum mkeProofStep (l.take i) : Nat) + 1).tmod 3 == 0)), .val v1, .own 37 3 (l[i].tests.map ownExpr), .own 37 3 (l[i].acts.map ownExpr)] (set_get (by simp only [List.length_set]; rw [hlen]; exact hi')) ?_
    conv => whnf
    intro v2
    conv => whnf
    refine CallN.gen [true, false] _ _ _ rfl (markExprS_out l[i].tests (k + (bsum mkeProofStep (l.take i) : Nat) + 1 + 1 + (bsum one l[i].path : Nat)) (by omega) (by omega)) rfl rfl _ rfl ?_
    conv => whnf
    refine Need.mk ⟨by omega, by simp only [List.length_set]; rw [hlen]; exact hi'⟩ ?_
    refine Index.mk [Jm (k + (bsum mkeProofStep (l.take i) : Nat)), .val (.bool ((k + (bsum mkeProofStep (l.take i) : Nat) + 1).tmod 3 == 0)), .val v1, .val v2, .own 37 3 (l[i].acts.map ownExpr)] (set_get (by simp only [List.length_set]; rw [hlen]; exact hi')) ?_
    conv => whnf
    intro v3
    conv => whnf
    refine CallN.gen [true, false] _ _ _ rfl (markExprS_out l[i].acts (k + (bsum mkeProofStep (l.take i) : Nat) + 1 + 1 + (bsum one l[i].path : Nat) + (bsum mkeExpr l[i].tests : Nat)) (by omega) (by omega)) rfl rfl _ rfl ?_
    conv => whnf
    refine Arith.fit (wrap_fit (z := (i : Int) + 1) (by omega) (by simp only [maxLen] at hL; omega)) ?_
    conv => whnf
    refine Gh.closes 0 i 2 1 rfl (set_get (by simp only [List.length_set]; rw [hlen]; exact hi')) rfl rfl rfl ?_
    refine Gh.close 0 i 3 2 rfl (set_get (by simp only [List.length_set]; rw [hlen]; exact hi')) rfl rfl rfl ?_
    refine Gh.close 0 i 4 3 rfl (set_get (by simp only [List.length_set]; rw [hlen]; exact hi')) rfl rfl rfl ?_
    refine Gh.go ⟨i + 1, hi', (by show l.length - (i + 1) < l.length - i; omega), ⟨⟨rfl, rfl⟩, ⟨?_, rfl⟩, trivial⟩, ⟨⟨rfl, rfl⟩, trivial⟩, ⟨⟨?_, rfl⟩, trivial⟩⟩
    · refine congrArg I ?_
      show k + (bsum mkeProofStep (l.take i) : Nat) + 1 + 1 + (bsum one l[i].path : Nat) + (bsum mkeExpr l[i].tests : Nat) + (bsum mkeExpr l[i].acts : Nat) = k + (bsum mkeProofStep (l.take (i + 1)) : Nat)
      omega
    · refine congrArg (Blk.orow none 276 5) ?_
      refine hfL_row (d := k + (bsum mkeProofStep (l.take i) : Nat)) (r := [Jm (k + (bsum mkeProofStep (l.take i) : Nat)), .val (.bool ((k + (bsum mkeProofStep (l.take i) : Nat) + 1).tmod 3 == 0)), .ows 2 1 ((mkdL mk1 one (l[i].path) (k + (bsum mkeProofStep (l.take i) : Nat) + 1 + 1)).map eI), .own 37 3 ((mkdL mkdExpr mkeExpr (l[i].tests) (k + (bsum mkeProofStep (l.take i) : Nat) + 1 + 1 + (bsum one (l[i].path) : Nat))).map ownExpr), .own 37 3 ((mkdL mkdExpr mkeExpr (l[i].acts) (k + (bsum mkeProofStep (l.take i) : Nat) + 1 + 1 + (bsum one (l[i].path) : Nat) + (bsum mkeExpr (l[i].tests) : Nat))).map ownExpr)]) hi' rfl rfl ?_
      rw [Int.toNat_natCast]
      repeat rw [List.set_set]
      all_goals rfl
  · have h : ¬ (i : Int) < (((hfL mkdProofStep mkeProofStep l k i).map ownProofStep).length : Nat) := of_decide_eq_false h
    have : i = l.length := by omega
    subst this
    refine RetX.mk ?_ ⟨?_, trivial⟩
    · refine congrArg I ?_
      rw [List.take_length]
    · rw [← hfL_end]
      rfl
theorem heldProofStepS_mk (l : List XProofStep) (k : Int) (h0 : 0 ≤ k) (hk : k + (bsum mkeProofStep l : Nat) ≤ 4611686018427387904) : CallF Tryz.prog 146 [.c (.ro 5 ((mkdL mkdProofStep mkeProofStep l k).map encProofStep)), I k] (I (k + (bsum mkeProofStep l : Nat))) := by
  have hl := mkdL_len (f := mkdProofStep) (c := mkeProofStep) l k
  have hs : ∀ i, (hi : i < l.length) → bsum mkeProofStep (l.take (i + 1)) = bsum mkeProofStep (l.take i) + (2 + bsum one l[i].path + bsum mkeExpr l[i].tests + bsum mkeExpr l[i].acts) ∧ bsum mkeProofStep (l.take (i + 1)) ≤ bsum mkeProofStep l := fun i hi => by
    have h1 := bsum_take (f := mkeProofStep) (List.getElem?_eq_getElem hi)
    have h2 := bsum_le (f := mkeProofStep) l (i + 1)
    have h3 : mkeProofStep l[i] = 2 + bsum one l[i].path + bsum mkeExpr l[i].tests + bsum mkeExpr l[i].acts := mkeProofStep_eq _
    omega
  have hix : ∀ (i : Nat) (c : Int) (hi : i < l.length), c = k + (bsum mkeProofStep (l.take i) : Nat) → ((mkdL mkdProofStep mkeProofStep l k).map encProofStep)[i]? = some [Jm (c), .val (.bool ((c + 1).tmod 3 == 0)), .ro 1 ((mkdL mk1 one (l[i].path) (c + 1 + 1)).map eI), .ro 3 ((mkdL mkdExpr mkeExpr (l[i].tests) (c + 1 + 1 + (bsum one (l[i].path) : Nat))).map encExpr), .ro 3 ((mkdL mkdExpr mkeExpr (l[i].acts) (c + 1 + 1 + (bsum one (l[i].path) : Nat) + (bsum mkeExpr (l[i].tests) : Nat))).map encExpr)] := fun i c hi hc => mkdL_idx hi hc rfl
  refine callF_of_vc htb hm Tryz.func146 rfl rfl rfl rfl (ann := fun _ => none) (gh := fun _ => false) ?_
  repeat' ((conv => whnf); first | (guard_target = Done _; refine Done.mk ?_; first | ((have e : i = l.length := (by omega); have h9 := ha.2; rw [e, List.take_length] at h9; rw [h9]; rfl); done) | skip) | (guard_target = RetX _ _; refine RetX.mk ?_ ?_) | (guard_target =~ LoopE 2 _ _ _ _ _ _; refine LoopE.mk { α := Nat × Int, keep := [0], ov := fun ⟨i, c⟩ => [(1, I c), (5, I (i : Nat))], φ := fun ⟨i, c⟩ => i ≤ l.length ∧ c = k + (bsum mkeProofStep (l.take i) : Nat), μ := fun ⟨i, c⟩ => l.length - i } (LoopN.mk ((0, k) : Nat × Int) (by exact ⟨Nat.zero_le _, by simp [bsum]⟩) (by (repeat' first | exact trivial | exact rfl | refine ⟨?_, ?_⟩); done) (by (repeat' first | exact trivial | exact rfl | refine ⟨?_, ?_⟩); done) (by (repeat' first | exact trivial | exact rfl | refine ⟨?_, ?_⟩ | (simp only [List.map_append, List.map_cons, List.map_nil, List.map_set]; first | done | rfl)); done) (fun A ha => ?_) (by intro A; first | rfl | (obtain ⟨_, _⟩ := A; rfl) | (obtain ⟨_, _, _⟩ := A; rfl))); obtain ⟨i, c⟩ := A; have ha : i ≤ l.length ∧ c = k + (bsum mkeProofStep (l.take i) : Nat) := ha; have hsi := hs i; have hc2 := ha.2; have hb9 := bsum_le (f := mkeProofStep) l i) | (guard_target = Gh _ _ _ _ _; refine Gh.go ⟨((i + 1, c + 1 + 1 + (bsum one l[i].path : Nat) + (bsum mkeExpr l[i].tests : Nat) + (bsum mkeExpr l[i].acts : Nat)) : Nat × Int), (by (have hi9 : i < l.length := (by omega); have h9 := hsi hi9; refine ⟨hi9, ?_⟩; show c + 1 + 1 + (bsum one l[i].path : Nat) + (bsum mkeExpr l[i].tests : Nat) + (bsum mkeExpr l[i].acts : Nat) = k + (bsum mkeProofStep (l.take (i + 1)) : Nat); omega)), (by first | (show _ < _; simp only []; omega) | omega | (simp; omega)), (by (repeat' first | exact trivial | exact rfl | refine ⟨?_, ?_⟩); done), (by (repeat' first | exact trivial | exact rfl | refine ⟨?_, ?_⟩); done), (by (repeat' first | exact trivial | exact rfl | refine ⟨?_, ?_⟩ | (simp only [List.map_append, List.map_cons, List.map_nil, List.map_set]; first | done | rfl)); done)⟩) | (guard_target = Fact _ _; refine Fact.mk fun hL => ?_; (try simp only [List.length_map, maxLen] at hL)) | (guard_target = Branch _ _ _; (first | refine Branch.dec ?_ ?_ | refine Branch.beq ?_ ?_ | refine Branch.bne ?_ ?_ | refine Branch.ndec ?_ ?_ | refine Branch.nb ?_ ?_ | refine Branch.mk ?_ ?_) <;> intro h <;> (try simp only [List.length_map] at h) <;> (try omega) <;> (try contradiction)) | (guard_target = CallN _ 80 _ _ _ _; refine CallN.pure _ _ rfl (heldInt64S_mk l[i].path (c + 1 + 1) (by omega) (by have h9 := hsi (by omega); omega)) rfl _ rfl ?_) | (guard_target = CallN _ 118 _ _ _ _; refine CallN.pure _ _ rfl (heldExprS_mk l[i].tests (c + 1 + 1 + (bsum one l[i].path : Nat)) (by omega) (by have h9 := hsi (by omega); omega)) rfl _ rfl ?_) | (guard_target = CallN _ 118 _ _ _ _; refine CallN.pure _ _ rfl (heldExprS_mk l[i].acts (c + 1 + 1 + (bsum one l[i].path : Nat) + (bsum mkeExpr l[i].tests : Nat)) (by omega) (by have h9 := hsi (by omega); omega)) rfl _ rfl ?_) | (guard_target = Arith _ _ _; refine Arith.fit (wrap_fit (by (first | omega | (have h9 := hsi (by omega); omega) | (simp only [List.length_map]; omega))) (by (first | omega | (have h9 := hsi (by omega); omega) | (simp only [List.length_map]; omega)))) ?_) | (guard_target = Arith _ _ _; refine Arith.fit (by decide) ?_) | (guard_target = Index _ _ _; first | refine Index.mk _ (hix i c (by omega) ha.2) ?_ | refine Index.mk _ (hix i _ (by omega) ha.2) ?_ | refine Index.mk _ (idx_map (by omega)) ?_) | (guard_target = Need (_ = true) _; refine Need.mk (by first | kernel_rfl | rfl) ?_) | (guard_target = LinkV _ _ _; first  | refine LinkV.no ?_) | (guard_target = GhO _ _ _ _; refine GhO.go ?_) | (guard_target = Need _ _; refine Need.mk (by first  | omega | (simp only [List.length_map]; omega)) ?_))
theorem markClaimS_out (l : List XClaim) (k : Int) (h0 : 0 ≤ k) (hk : k + (bsum mkeClaim l : Nat) ≤ 4611686018427387904) : CallX Tryz.prog 78 [.c (.own 236 9 (l.map ownClaim)), I k] [some [.own 236 9 ((mkdL mkdClaim mkeClaim l k).map ownClaim)], none] (I (k + (bsum mkeClaim l : Nat))) := by
  refine callX_of_vc htb hm Tryz.func78 rfl rfl rfl rfl (ann := fun n => match n with | 2 => some { α := Nat, keep := [0], ov := fun a => [(5, I a), (1, I (k + (bsum mkeClaim (l.take a) : Nat)))], hv := fun a => [(0, .orow none 236 9 ((hfL mkdClaim mkeClaim l k a).map ownClaim))], φ := fun a => a ≤ l.length, μ := fun a => l.length - a } | _ => none) (gh := fun _ => false) ?_
  refine LoopN.mk (0 : Nat) (Nat.zero_le _) ⟨⟨rfl, rfl⟩, ⟨?_, rfl⟩, trivial⟩ ⟨⟨rfl, rfl⟩, trivial⟩ ⟨⟨rfl, rfl⟩, trivial⟩ ?_ (fun _ => rfl)
  · refine congrArg I ?_
    simp [bsum]
  intro (i : Nat) (hi : i ≤ l.length)
  have hlen : ((hfL mkdClaim mkeClaim l k i).map ownClaim).length = l.length := by rw [List.length_map, hfL_len]
  refine Fact.mk fun (hL : ((hfL mkdClaim mkeClaim l k i).map ownClaim).length ≤ maxLen) => ?_
  refine Branch.mk (fun h => ?_) (fun h => ?_)
  · have h : (i : Int) < (((hfL mkdClaim mkeClaim l k i).map ownClaim).length : Nat) := of_decide_eq_true h
    have hi' : i < l.length := by omega
    have hs := bsum_take (f := mkeClaim) (List.getElem?_eq_getElem hi')
    have hle := bsum_le (f := mkeClaim) l (i + 1)
    have hf : mkeClaim l[i] = 6 + bsum mkeExpr l[i].left.kids + bsum mkeExpr l[i].right.kids + bsum mkeProofStep l[i].steps := mkeClaim_eq _
    have hg : ((hfL mkdClaim mkeClaim l k i).map ownClaim)[i]? = some [.val (.int .i64 l[i].left.kind), .val (.int .i64 l[i].left.num), .own 37 3 (l[i].left.kids.map ownExpr), .val (.int .i64 l[i].right.kind), .val (.int .i64 l[i].right.num), .own 37 3 (l[i].right.kids.map ownExpr), .val (.int .i64 l[i].rule), .val (.int .i64 l[i].ref), .own 276 5 (l[i].steps.map ownProofStep)] := (hfL_get hi').trans (congrArg some rfl)
    conv => whnf
    refine Need.mk ⟨by omega, by rw [hlen]; exact hi'⟩ ?_
    refine Index.mk [.val (.int .i64 l[i].left.kind), .val (.int .i64 l[i].left.num), .own 37 3 (l[i].left.kids.map ownExpr), .val (.int .i64 l[i].right.kind), .val (.int .i64 l[i].right.num), .own 37 3 (l[i].right.kids.map ownExpr), .val (.int .i64 l[i].rule), .val (.int .i64 l[i].ref), .own 276 5 (l[i].steps.map ownProofStep)] hg ?_
    conv => whnf
    refine Arith.fit (wrap_fit (z := k + (bsum mkeClaim (l.take i) : Nat) + 1) (by omega) (by omega)) ?_
    conv => whnf
    refine Need.mk ⟨by omega, by simp only [List.length_set]; rw [hlen]; exact hi'⟩ ?_
    refine Index.mk [Jm (k + (bsum mkeClaim (l.take i) : Nat)), .val (.int .i64 l[i].left.num), .own 37 3 (l[i].left.kids.map ownExpr), .val (.int .i64 l[i].right.kind), .val (.int .i64 l[i].right.num), .own 37 3 (l[i].right.kids.map ownExpr), .val (.int .i64 l[i].rule), .val (.int .i64 l[i].ref), .own 276 5 (l[i].steps.map ownProofStep)] (set_get (by rw [hlen]; exact hi')) ?_
    conv => whnf
    refine Arith.fit (wrap_fit (z := k + (bsum mkeClaim (l.take i) : Nat) + 1 + 1) (by omega) (by omega)) ?_
    conv => whnf
    refine Need.mk ⟨by omega, by simp only [List.length_set]; rw [hlen]; exact hi'⟩ ?_
    refine Index.mk [Jm (k + (bsum mkeClaim (l.take i) : Nat)), Jm (k + (bsum mkeClaim (l.take i) : Nat) + 1), .own 37 3 (l[i].left.kids.map ownExpr), .val (.int .i64 l[i].right.kind), .val (.int .i64 l[i].right.num), .own 37 3 (l[i].right.kids.map ownExpr), .val (.int .i64 l[i].rule), .val (.int .i64 l[i].ref), .own 276 5 (l[i].steps.map ownProofStep)] (set_get (by simp only [List.length_set]; rw [hlen]; exact hi')) ?_
    conv => whnf
    intro v1
    conv => whnf
    refine CallN.gen [true, false] _ _ _ rfl (markExprS_out l[i].left.kids (k + (bsum mkeClaim (l.take i) : Nat) + 1 + 1) (by omega) (by omega)) rfl rfl _ rfl ?_
    conv => whnf
    refine Need.mk ⟨by omega, by simp only [List.length_set]; rw [hlen]; exact hi'⟩ ?_
    refine Index.mk [Jm (k + (bsum mkeClaim (l.take i) : Nat)), Jm (k + (bsum mkeClaim (l.take i) : Nat) + 1), .val v1, .val (.int .i64 l[i].right.kind), .val (.int .i64 l[i].right.num), .own 37 3 (l[i].right.kids.map ownExpr), .val (.int .i64 l[i].rule), .val (.int .i64 l[i].ref), .own 276 5 (l[i].steps.map ownProofStep)] (set_get (by simp only [List.length_set]; rw [hlen]; exact hi')) ?_
    conv => whnf
    refine Arith.fit (wrap_fit (z := k + (bsum mkeClaim (l.take i) : Nat) + 1 + 1 + (bsum mkeExpr l[i].left.kids : Nat) + 1) (by omega) (by omega)) ?_
    conv => whnf
    refine Need.mk ⟨by omega, by simp only [List.length_set]; rw [hlen]; exact hi'⟩ ?_
    refine Index.mk [Jm (k + (bsum mkeClaim (l.take i) : Nat)), Jm (k + (bsum mkeClaim (l.take i) : Nat) + 1), .val v1, Jm (k + (bsum mkeClaim (l.take i) : Nat) + 1 + 1 + (bsum mkeExpr l[i].left.kids : Nat)), .val (.int .i64 l[i].right.num), .own 37 3 (l[i].right.kids.map ownExpr), .val (.int .i64 l[i].rule), .val (.int .i64 l[i].ref), .own 276 5 (l[i].steps.map ownProofStep)] (set_get (by simp only [List.length_set]; rw [hlen]; exact hi')) ?_
    conv => whnf
    refine Arith.fit (wrap_fit (z := k + (bsum mkeClaim (l.take i) : Nat) + 1 + 1 + (bsum mkeExpr l[i].left.kids : Nat) + 1 + 1) (by omega) (by omega)) ?_
    conv => whnf
    refine Need.mk ⟨by omega, by simp only [List.length_set]; rw [hlen]; exact hi'⟩ ?_
    refine Index.mk [Jm (k + (bsum mkeClaim (l.take i) : Nat)), Jm (k + (bsum mkeClaim (l.take i) : Nat) + 1), .val v1, Jm (k + (bsum mkeClaim (l.take i) : Nat) + 1 + 1 + (bsum mkeExpr l[i].left.kids : Nat)), Jm (k + (bsum mkeClaim (l.take i) : Nat) + 1 + 1 + (bsum mkeExpr l[i].left.kids : Nat) + 1), .own 37 3 (l[i].right.kids.map ownExpr), .val (.int .i64 l[i].rule), .val (.int .i64 l[i].ref), .own 276 5 (l[i].steps.map ownProofStep)] (set_get (by simp only [List.length_set]; rw [hlen]; exact hi')) ?_
    conv => whnf
    intro v2
    conv => whnf
    refine CallN.gen [true, false] _ _ _ rfl (markExprS_out l[i].right.kids (k + (bsum mkeClaim (l.take i) : Nat) + 1 + 1 + (bsum mkeExpr l[i].left.kids : Nat) + 1 + 1) (by omega) (by omega)) rfl rfl _ rfl ?_
    conv => whnf
    refine Need.mk ⟨by omega, by simp only [List.length_set]; rw [hlen]; exact hi'⟩ ?_
    refine Index.mk [Jm (k + (bsum mkeClaim (l.take i) : Nat)), Jm (k + (bsum mkeClaim (l.take i) : Nat) + 1), .val v1, Jm (k + (bsum mkeClaim (l.take i) : Nat) + 1 + 1 + (bsum mkeExpr l[i].left.kids : Nat)), Jm (k + (bsum mkeClaim (l.take i) : Nat) + 1 + 1 + (bsum mkeExpr l[i].left.kids : Nat) + 1), .val v2, .val (.int .i64 l[i].rule), .val (.int .i64 l[i].ref), .own 276 5 (l[i].steps.map ownProofStep)] (set_get (by simp only [List.length_set]; rw [hlen]; exact hi')) ?_
    conv => whnf
    refine Arith.fit (wrap_fit (z := k + (bsum mkeClaim (l.take i) : Nat) + 1 + 1 + (bsum mkeExpr l[i].left.kids : Nat) + 1 + 1 + (bsum mkeExpr l[i].right.kids : Nat) + 1) (by omega) (by omega)) ?_
    conv => whnf
    refine Need.mk ⟨by omega, by simp only [List.length_set]; rw [hlen]; exact hi'⟩ ?_
    refine Index.mk [Jm (k + (bsum mkeClaim (l.take i) : Nat)), Jm (k + (bsum mkeClaim (l.take i) : Nat) + 1), .val v1, Jm (k + (bsum mkeClaim (l.take i) : Nat) + 1 + 1 + (bsum mkeExpr l[i].left.kids : Nat)), Jm (k + (bsum mkeClaim (l.take i) : Nat) + 1 + 1 + (bsum mkeExpr l[i].left.kids : Nat) + 1), .val v2, Jm (k + (bsum mkeClaim (l.take i) : Nat) + 1 + 1 + (bsum mkeExpr l[i].left.kids : Nat) + 1 + 1 + (bsum mkeExpr l[i].right.kids : Nat)), .val (.int .i64 l[i].ref), .own 276 5 (l[i].steps.map ownProofStep)] (set_get (by simp only [List.length_set]; rw [hlen]; exact hi')) ?_
    conv => whnf
    refine Arith.fit (wrap_fit (z := k + (bsum mkeClaim (l.take i) : Nat) + 1 + 1 + (bsum mkeExpr l[i].left.kids : Nat) + 1 + 1 + (bsum mkeExpr l[i].right.kids : Nat) + 1 + 1) (by omega) (by omega)) ?_
    conv => whnf
    refine Need.mk ⟨by omega, by simp only [List.length_set]; rw [hlen]; exact hi'⟩ ?_
    refine Index.mk [Jm (k + (bsum mkeClaim (l.take i) : Nat)), Jm (k + (bsum mkeClaim (l.take i) : Nat) + 1), .val v1, Jm (k + (bsum mkeClaim (l.take i) : Nat) + 1 + 1 + (bsum mkeExpr l[i].left.kids : Nat)), Jm (k + (bsum mkeClaim (l.take i) : Nat) + 1 + 1 + (bsum mkeExpr l[i].left.kids : Nat) + 1), .val v2, Jm (k + (bsum mkeClaim (l.take i) : Nat) + 1 + 1 + (bsum mkeExpr l[i].left.kids : Nat) + 1 + 1 + (bsum mkeExpr l[i].right.kids : Nat)), Jm (k + (bsum mkeClaim (l.take i) : Nat) + 1 + 1 + (bsum mkeExpr l[i].left.kids : Nat) + 1 + 1 + (bsum mkeExpr l[i].right.kids : Nat) + 1), .own 276 5 (l[i].steps.map ownProofStep)] (set_get (by simp only [List.length_set]; rw [hlen]; exact hi')) ?_
    conv => whnf
    intro v3
    conv => whnf
    refine CallN.gen [true, false] _ _ _ rfl (markProofStepS_out l[i].steps (k + (bsum mkeClaim (l.take i) : Nat) + 1 + 1 + (bsum mkeExpr l[i].left.kids : Nat) + 1 + 1 + (bsum mkeExpr l[i].right.kids : Nat) + 1 + 1) (by omega) (by omega)) rfl rfl _ rfl ?_
    conv => whnf
    refine Arith.fit (wrap_fit (z := (i : Int) + 1) (by omega) (by simp only [maxLen] at hL; omega)) ?_
    conv => whnf
    refine Gh.close 0 i 2 1 rfl (set_get (by simp only [List.length_set]; rw [hlen]; exact hi')) rfl rfl rfl ?_
    refine Gh.close 0 i 5 2 rfl (set_get (by simp only [List.length_set]; rw [hlen]; exact hi')) rfl rfl rfl ?_
    refine Gh.close 0 i 8 3 rfl (set_get (by simp only [List.length_set]; rw [hlen]; exact hi')) rfl rfl rfl ?_
    refine Gh.go ⟨i + 1, hi', (by show l.length - (i + 1) < l.length - i; omega), ⟨⟨rfl, rfl⟩, ⟨?_, rfl⟩, trivial⟩, ⟨⟨rfl, rfl⟩, trivial⟩, ⟨⟨?_, rfl⟩, trivial⟩⟩
    · refine congrArg I ?_
      show k + (bsum mkeClaim (l.take i) : Nat) + 1 + 1 + (bsum mkeExpr l[i].left.kids : Nat) + 1 + 1 + (bsum mkeExpr l[i].right.kids : Nat) + 1 + 1 + (bsum mkeProofStep l[i].steps : Nat) = k + (bsum mkeClaim (l.take (i + 1)) : Nat)
      omega
    · refine congrArg (Blk.orow none 236 9) ?_
      refine hfL_row (d := k + (bsum mkeClaim (l.take i) : Nat)) (r := [Jm (k + (bsum mkeClaim (l.take i) : Nat)), Jm (k + (bsum mkeClaim (l.take i) : Nat) + 1), .own 37 3 ((mkdL mkdExpr mkeExpr (l[i].left.kids) (k + (bsum mkeClaim (l.take i) : Nat) + 1 + 1)).map ownExpr), Jm (k + (bsum mkeClaim (l.take i) : Nat) + 1 + 1 + (bsum mkeExpr (l[i].left.kids) : Nat)), Jm (k + (bsum mkeClaim (l.take i) : Nat) + 1 + 1 + (bsum mkeExpr (l[i].left.kids) : Nat) + 1), .own 37 3 ((mkdL mkdExpr mkeExpr (l[i].right.kids) (k + (bsum mkeClaim (l.take i) : Nat) + 1 + 1 + (bsum mkeExpr (l[i].left.kids) : Nat) + 1 + 1)).map ownExpr), Jm (k + (bsum mkeClaim (l.take i) : Nat) + 1 + 1 + (bsum mkeExpr (l[i].left.kids) : Nat) + 1 + 1 + (bsum mkeExpr (l[i].right.kids) : Nat)), Jm (k + (bsum mkeClaim (l.take i) : Nat) + 1 + 1 + (bsum mkeExpr (l[i].left.kids) : Nat) + 1 + 1 + (bsum mkeExpr (l[i].right.kids) : Nat) + 1), .own 276 5 ((mkdL mkdProofStep mkeProofStep (l[i].steps) (k + (bsum mkeClaim (l.take i) : Nat) + 1 + 1 + (bsum mkeExpr (l[i].left.kids) : Nat) + 1 + 1 + (bsum mkeExpr (l[i].right.kids) : Nat) + 1 + 1)).map ownProofStep)]) hi' rfl rfl ?_
      rw [Int.toNat_natCast]
      repeat rw [List.set_set]
      all_goals rfl
  · have h : ¬ (i : Int) < (((hfL mkdClaim mkeClaim l k i).map ownClaim).length : Nat) := of_decide_eq_false h
    have : i = l.length := by omega
    subst this
    refine RetX.mk ?_ ⟨?_, trivial⟩
    · refine congrArg I ?_
      rw [List.take_length]
    · rw [← hfL_end]
      rfl
theorem heldClaimS_mk (l : List XClaim) (k : Int) (h0 : 0 ≤ k) (hk : k + (bsum mkeClaim l : Nat) ≤ 4611686018427387904) : CallF Tryz.prog 81 [.c (.ro 9 ((mkdL mkdClaim mkeClaim l k).map encClaim)), I k] (I (k + (bsum mkeClaim l : Nat))) := by
  have hl := mkdL_len (f := mkdClaim) (c := mkeClaim) l k
  have hs : ∀ i, (hi : i < l.length) → bsum mkeClaim (l.take (i + 1)) = bsum mkeClaim (l.take i) + (6 + bsum mkeExpr l[i].left.kids + bsum mkeExpr l[i].right.kids + bsum mkeProofStep l[i].steps) ∧ bsum mkeClaim (l.take (i + 1)) ≤ bsum mkeClaim l := fun i hi => by
    have h1 := bsum_take (f := mkeClaim) (List.getElem?_eq_getElem hi)
    have h2 := bsum_le (f := mkeClaim) l (i + 1)
    have h3 : mkeClaim l[i] = 6 + bsum mkeExpr l[i].left.kids + bsum mkeExpr l[i].right.kids + bsum mkeProofStep l[i].steps := mkeClaim_eq _
    omega
  have hix : ∀ (i : Nat) (c : Int) (hi : i < l.length), c = k + (bsum mkeClaim (l.take i) : Nat) → ((mkdL mkdClaim mkeClaim l k).map encClaim)[i]? = some [Jm (c), Jm (c + 1), .ro 3 ((mkdL mkdExpr mkeExpr (l[i].left.kids) (c + 1 + 1)).map encExpr), Jm (c + 1 + 1 + (bsum mkeExpr (l[i].left.kids) : Nat)), Jm (c + 1 + 1 + (bsum mkeExpr (l[i].left.kids) : Nat) + 1), .ro 3 ((mkdL mkdExpr mkeExpr (l[i].right.kids) (c + 1 + 1 + (bsum mkeExpr (l[i].left.kids) : Nat) + 1 + 1)).map encExpr), Jm (c + 1 + 1 + (bsum mkeExpr (l[i].left.kids) : Nat) + 1 + 1 + (bsum mkeExpr (l[i].right.kids) : Nat)), Jm (c + 1 + 1 + (bsum mkeExpr (l[i].left.kids) : Nat) + 1 + 1 + (bsum mkeExpr (l[i].right.kids) : Nat) + 1), .ro 5 ((mkdL mkdProofStep mkeProofStep (l[i].steps) (c + 1 + 1 + (bsum mkeExpr (l[i].left.kids) : Nat) + 1 + 1 + (bsum mkeExpr (l[i].right.kids) : Nat) + 1 + 1)).map encProofStep)] := fun i c hi hc => mkdL_idx hi hc rfl
  refine callF_of_vc htb hm Tryz.func81 rfl rfl rfl rfl (ann := fun _ => none) (gh := fun _ => false) ?_
  repeat' ((conv => whnf); first | (guard_target = Done _; refine Done.mk ?_; first | ((have e : i = l.length := (by omega); have h9 := ha.2; rw [e, List.take_length] at h9; rw [h9]; rfl); done) | skip) | (guard_target = RetX _ _; refine RetX.mk ?_ ?_) | (guard_target =~ LoopE 2 _ _ _ _ _ _; refine LoopE.mk { α := Nat × Int, keep := [0], ov := fun ⟨i, c⟩ => [(1, I c), (5, I (i : Nat))], φ := fun ⟨i, c⟩ => i ≤ l.length ∧ c = k + (bsum mkeClaim (l.take i) : Nat), μ := fun ⟨i, c⟩ => l.length - i } (LoopN.mk ((0, k) : Nat × Int) (by exact ⟨Nat.zero_le _, by simp [bsum]⟩) (by (repeat' first | exact trivial | exact rfl | refine ⟨?_, ?_⟩); done) (by (repeat' first | exact trivial | exact rfl | refine ⟨?_, ?_⟩); done) (by (repeat' first | exact trivial | exact rfl | refine ⟨?_, ?_⟩ | (simp only [List.map_append, List.map_cons, List.map_nil, List.map_set]; first | done | rfl)); done) (fun A ha => ?_) (by intro A; first | rfl | (obtain ⟨_, _⟩ := A; rfl) | (obtain ⟨_, _, _⟩ := A; rfl))); obtain ⟨i, c⟩ := A; have ha : i ≤ l.length ∧ c = k + (bsum mkeClaim (l.take i) : Nat) := ha; have hsi := hs i; have hc2 := ha.2; have hb9 := bsum_le (f := mkeClaim) l i) | (guard_target = Gh _ _ _ _ _; refine Gh.go ⟨((i + 1, c + 1 + 1 + (bsum mkeExpr l[i].left.kids : Nat) + 1 + 1 + (bsum mkeExpr l[i].right.kids : Nat) + 1 + 1 + (bsum mkeProofStep l[i].steps : Nat)) : Nat × Int), (by (have hi9 : i < l.length := (by omega); have h9 := hsi hi9; refine ⟨hi9, ?_⟩; show c + 1 + 1 + (bsum mkeExpr l[i].left.kids : Nat) + 1 + 1 + (bsum mkeExpr l[i].right.kids : Nat) + 1 + 1 + (bsum mkeProofStep l[i].steps : Nat) = k + (bsum mkeClaim (l.take (i + 1)) : Nat); omega)), (by first | (show _ < _; simp only []; omega) | omega | (simp; omega)), (by (repeat' first | exact trivial | exact rfl | refine ⟨?_, ?_⟩); done), (by (repeat' first | exact trivial | exact rfl | refine ⟨?_, ?_⟩); done), (by (repeat' first | exact trivial | exact rfl | refine ⟨?_, ?_⟩ | (simp only [List.map_append, List.map_cons, List.map_nil, List.map_set]; first | done | rfl)); done)⟩) | (guard_target = Fact _ _; refine Fact.mk fun hL => ?_; (try simp only [List.length_map, maxLen] at hL)) | (guard_target = Branch _ _ _; (first | refine Branch.dec ?_ ?_ | refine Branch.beq ?_ ?_ | refine Branch.bne ?_ ?_ | refine Branch.ndec ?_ ?_ | refine Branch.nb ?_ ?_ | refine Branch.mk ?_ ?_) <;> intro h <;> (try simp only [List.length_map] at h) <;> (try omega) <;> (try contradiction)) | (guard_target = CallN _ 118 _ _ _ _; refine CallN.pure _ _ rfl (heldExprS_mk l[i].left.kids (c + 1 + 1) (by omega) (by have h9 := hsi (by omega); omega)) rfl _ rfl ?_) | (guard_target = CallN _ 118 _ _ _ _; refine CallN.pure _ _ rfl (heldExprS_mk l[i].right.kids (c + 1 + 1 + (bsum mkeExpr l[i].left.kids : Nat) + 1 + 1) (by omega) (by have h9 := hsi (by omega); omega)) rfl _ rfl ?_) | (guard_target = CallN _ 146 _ _ _ _; refine CallN.pure _ _ rfl (heldProofStepS_mk l[i].steps (c + 1 + 1 + (bsum mkeExpr l[i].left.kids : Nat) + 1 + 1 + (bsum mkeExpr l[i].right.kids : Nat) + 1 + 1) (by omega) (by have h9 := hsi (by omega); omega)) rfl _ rfl ?_) | (guard_target = Arith _ _ _; refine Arith.fit (wrap_fit (by (first | omega | (have h9 := hsi (by omega); omega) | (simp only [List.length_map]; omega))) (by (first | omega | (have h9 := hsi (by omega); omega) | (simp only [List.length_map]; omega)))) ?_) | (guard_target = Arith _ _ _; refine Arith.fit (by decide) ?_) | (guard_target = Index _ _ _; first | refine Index.mk _ (hix i c (by omega) ha.2) ?_ | refine Index.mk _ (hix i _ (by omega) ha.2) ?_ | refine Index.mk _ (idx_map (by omega)) ?_) | (guard_target = Need (_ = true) _; refine Need.mk (by first | kernel_rfl | rfl) ?_) | (guard_target = LinkV _ _ _; first  | refine LinkV.no ?_) | (guard_target = GhO _ _ _ _; refine GhO.go ?_) | (guard_target = Need _ _; refine Need.mk (by first  | omega | (simp only [List.length_map]; omega)) ?_))
theorem markNoteS_out (l : List XNote) (k : Int) (h0 : 0 ≤ k) (hk : k + (bsum mkeNote l : Nat) ≤ 4611686018427387904) : CallX Tryz.prog 144 [.c (.own 136 7 (l.map ownNote)), I k] [some [.own 136 7 ((mkdL mkdNote mkeNote l k).map ownNote)], none] (I (k + (bsum mkeNote l : Nat))) := by
  refine callX_of_vc htb hm Tryz.func144 rfl rfl rfl rfl (ann := fun n => match n with | 2 => some { α := Nat, keep := [0], ov := fun a => [(5, I a), (1, I (k + (bsum mkeNote (l.take a) : Nat)))], hv := fun a => [(0, .orow none 136 7 ((hfL mkdNote mkeNote l k a).map ownNote))], φ := fun a => a ≤ l.length, μ := fun a => l.length - a } | _ => none) (gh := fun _ => false) ?_
  refine LoopN.mk (0 : Nat) (Nat.zero_le _) ⟨⟨rfl, rfl⟩, ⟨?_, rfl⟩, trivial⟩ ⟨⟨rfl, rfl⟩, trivial⟩ ⟨⟨rfl, rfl⟩, trivial⟩ ?_ (fun _ => rfl)
  · refine congrArg I ?_
    simp [bsum]
  intro (i : Nat) (hi : i ≤ l.length)
  have hlen : ((hfL mkdNote mkeNote l k i).map ownNote).length = l.length := by rw [List.length_map, hfL_len]
  refine Fact.mk fun (hL : ((hfL mkdNote mkeNote l k i).map ownNote).length ≤ maxLen) => ?_
  refine Branch.mk (fun h => ?_) (fun h => ?_)
  · have h : (i : Int) < (((hfL mkdNote mkeNote l k i).map ownNote).length : Nat) := of_decide_eq_true h
    have hi' : i < l.length := by omega
    have hs := bsum_take (f := mkeNote) (List.getElem?_eq_getElem hi')
    have hle := bsum_le (f := mkeNote) l (i + 1)
    have hf : mkeNote l[i] = 5 + bsum one l[i].entry.rests + bsum mkeClaim l[i].entry.proof.claims := mkeNote_eq _
    have hg : ((hfL mkdNote mkeNote l k i).map ownNote)[i]? = some [.val (.bool l[i].revoke), .val (.int .i64 l[i].id), .val (.int .i64 l[i].entry.id), .ows 2 1 (l[i].entry.rests.map eI), .val (.int .i64 l[i].entry.proof.sig.tests), .val (.int .i64 l[i].entry.proof.sig.actions), .own 236 9 (l[i].entry.proof.claims.map ownClaim)] := (hfL_get hi').trans (congrArg some rfl)
    conv => whnf
    refine Need.mk (by decide) ?_
    conv => whnf
    refine Need.mk ⟨by omega, by rw [hlen]; exact hi'⟩ ?_
    refine Index.mk [.val (.bool l[i].revoke), .val (.int .i64 l[i].id), .val (.int .i64 l[i].entry.id), .ows 2 1 (l[i].entry.rests.map eI), .val (.int .i64 l[i].entry.proof.sig.tests), .val (.int .i64 l[i].entry.proof.sig.actions), .own 236 9 (l[i].entry.proof.claims.map ownClaim)] hg ?_
    conv => whnf
    refine Arith.fit (wrap_fit (z := k + (bsum mkeNote (l.take i) : Nat) + 1) (by omega) (by omega)) ?_
    conv => whnf
    refine Need.mk ⟨by omega, by simp only [List.length_set]; rw [hlen]; exact hi'⟩ ?_
    refine Index.mk [.val (.bool ((k + (bsum mkeNote (l.take i) : Nat)).tmod 3 == 0)), .val (.int .i64 l[i].id), .val (.int .i64 l[i].entry.id), .ows 2 1 (l[i].entry.rests.map eI), .val (.int .i64 l[i].entry.proof.sig.tests), .val (.int .i64 l[i].entry.proof.sig.actions), .own 236 9 (l[i].entry.proof.claims.map ownClaim)] (set_get (by rw [hlen]; exact hi')) ?_
    conv => whnf
    refine Arith.fit (wrap_fit (z := k + (bsum mkeNote (l.take i) : Nat) + 1 + 1) (by omega) (by omega)) ?_
    conv => whnf
    refine Need.mk ⟨by omega, by simp only [List.length_set]; rw [hlen]; exact hi'⟩ ?_
    refine Index.mk [.val (.bool ((k + (bsum mkeNote (l.take i) : Nat)).tmod 3 == 0)), Jm (k + (bsum mkeNote (l.take i) : Nat) + 1), .val (.int .i64 l[i].entry.id), .ows 2 1 (l[i].entry.rests.map eI), .val (.int .i64 l[i].entry.proof.sig.tests), .val (.int .i64 l[i].entry.proof.sig.actions), .own 236 9 (l[i].entry.proof.claims.map ownClaim)] (set_get (by simp only [List.length_set]; rw [hlen]; exact hi')) ?_
    conv => whnf
    refine Arith.fit (wrap_fit (z := k + (bsum mkeNote (l.take i) : Nat) + 1 + 1 + 1) (by omega) (by omega)) ?_
    conv => whnf
    refine Need.mk ⟨by omega, by simp only [List.length_set]; rw [hlen]; exact hi'⟩ ?_
    refine Index.mk [.val (.bool ((k + (bsum mkeNote (l.take i) : Nat)).tmod 3 == 0)), Jm (k + (bsum mkeNote (l.take i) : Nat) + 1), Jm (k + (bsum mkeNote (l.take i) : Nat) + 1 + 1), .ows 2 1 (l[i].entry.rests.map eI), .val (.int .i64 l[i].entry.proof.sig.tests), .val (.int .i64 l[i].entry.proof.sig.actions), .own 236 9 (l[i].entry.proof.claims.map ownClaim)] (set_get (by simp only [List.length_set]; rw [hlen]; exact hi')) ?_
    conv => whnf
    intro v1
    conv => whnf
    refine CallN.gen [true, false] _ _ _ rfl (markInt64S_out l[i].entry.rests (k + (bsum mkeNote (l.take i) : Nat) + 1 + 1 + 1) (by omega) (by omega)) rfl rfl _ rfl ?_
    conv => whnf
    refine Need.mk ⟨by omega, by simp only [List.length_set]; rw [hlen]; exact hi'⟩ ?_
    refine Index.mk [.val (.bool ((k + (bsum mkeNote (l.take i) : Nat)).tmod 3 == 0)), Jm (k + (bsum mkeNote (l.take i) : Nat) + 1), Jm (k + (bsum mkeNote (l.take i) : Nat) + 1 + 1), .val v1, .val (.int .i64 l[i].entry.proof.sig.tests), .val (.int .i64 l[i].entry.proof.sig.actions), .own 236 9 (l[i].entry.proof.claims.map ownClaim)] (set_get (by simp only [List.length_set]; rw [hlen]; exact hi')) ?_
    conv => whnf
    refine Arith.fit (wrap_fit (z := k + (bsum mkeNote (l.take i) : Nat) + 1 + 1 + 1 + (bsum one l[i].entry.rests : Nat) + 1) (by omega) (by omega)) ?_
    conv => whnf
    refine Need.mk ⟨by omega, by simp only [List.length_set]; rw [hlen]; exact hi'⟩ ?_
    refine Index.mk [.val (.bool ((k + (bsum mkeNote (l.take i) : Nat)).tmod 3 == 0)), Jm (k + (bsum mkeNote (l.take i) : Nat) + 1), Jm (k + (bsum mkeNote (l.take i) : Nat) + 1 + 1), .val v1, Jm (k + (bsum mkeNote (l.take i) : Nat) + 1 + 1 + 1 + (bsum one l[i].entry.rests : Nat)), .val (.int .i64 l[i].entry.proof.sig.actions), .own 236 9 (l[i].entry.proof.claims.map ownClaim)] (set_get (by simp only [List.length_set]; rw [hlen]; exact hi')) ?_
    conv => whnf
    refine Arith.fit (wrap_fit (z := k + (bsum mkeNote (l.take i) : Nat) + 1 + 1 + 1 + (bsum one l[i].entry.rests : Nat) + 1 + 1) (by omega) (by omega)) ?_
    conv => whnf
    refine Need.mk ⟨by omega, by simp only [List.length_set]; rw [hlen]; exact hi'⟩ ?_
    refine Index.mk [.val (.bool ((k + (bsum mkeNote (l.take i) : Nat)).tmod 3 == 0)), Jm (k + (bsum mkeNote (l.take i) : Nat) + 1), Jm (k + (bsum mkeNote (l.take i) : Nat) + 1 + 1), .val v1, Jm (k + (bsum mkeNote (l.take i) : Nat) + 1 + 1 + 1 + (bsum one l[i].entry.rests : Nat)), Jm (k + (bsum mkeNote (l.take i) : Nat) + 1 + 1 + 1 + (bsum one l[i].entry.rests : Nat) + 1), .own 236 9 (l[i].entry.proof.claims.map ownClaim)] (set_get (by simp only [List.length_set]; rw [hlen]; exact hi')) ?_
    conv => whnf
    intro v2
    conv => whnf
    refine CallN.gen [true, false] _ _ _ rfl (markClaimS_out l[i].entry.proof.claims (k + (bsum mkeNote (l.take i) : Nat) + 1 + 1 + 1 + (bsum one l[i].entry.rests : Nat) + 1 + 1) (by omega) (by omega)) rfl rfl _ rfl ?_
    conv => whnf
    refine Arith.fit (wrap_fit (z := (i : Int) + 1) (by omega) (by simp only [maxLen] at hL; omega)) ?_
    conv => whnf
    refine Gh.closes 0 i 3 1 rfl (set_get (by simp only [List.length_set]; rw [hlen]; exact hi')) rfl rfl rfl ?_
    refine Gh.close 0 i 6 2 rfl (set_get (by simp only [List.length_set]; rw [hlen]; exact hi')) rfl rfl rfl ?_
    refine Gh.go ⟨i + 1, hi', (by show l.length - (i + 1) < l.length - i; omega), ⟨⟨rfl, rfl⟩, ⟨?_, rfl⟩, trivial⟩, ⟨⟨rfl, rfl⟩, trivial⟩, ⟨⟨?_, rfl⟩, trivial⟩⟩
    · refine congrArg I ?_
      show k + (bsum mkeNote (l.take i) : Nat) + 1 + 1 + 1 + (bsum one l[i].entry.rests : Nat) + 1 + 1 + (bsum mkeClaim l[i].entry.proof.claims : Nat) = k + (bsum mkeNote (l.take (i + 1)) : Nat)
      omega
    · refine congrArg (Blk.orow none 136 7) ?_
      refine hfL_row (d := k + (bsum mkeNote (l.take i) : Nat)) (r := [.val (.bool ((k + (bsum mkeNote (l.take i) : Nat)).tmod 3 == 0)), Jm (k + (bsum mkeNote (l.take i) : Nat) + 1), Jm (k + (bsum mkeNote (l.take i) : Nat) + 1 + 1), .ows 2 1 ((mkdL mk1 one (l[i].entry.rests) (k + (bsum mkeNote (l.take i) : Nat) + 1 + 1 + 1)).map eI), Jm (k + (bsum mkeNote (l.take i) : Nat) + 1 + 1 + 1 + (bsum one (l[i].entry.rests) : Nat)), Jm (k + (bsum mkeNote (l.take i) : Nat) + 1 + 1 + 1 + (bsum one (l[i].entry.rests) : Nat) + 1), .own 236 9 ((mkdL mkdClaim mkeClaim (l[i].entry.proof.claims) (k + (bsum mkeNote (l.take i) : Nat) + 1 + 1 + 1 + (bsum one (l[i].entry.rests) : Nat) + 1 + 1)).map ownClaim)]) hi' rfl rfl ?_
      rw [Int.toNat_natCast]
      repeat rw [List.set_set]
      all_goals rfl
  · have h : ¬ (i : Int) < (((hfL mkdNote mkeNote l k i).map ownNote).length : Nat) := of_decide_eq_false h
    have : i = l.length := by omega
    subst this
    refine RetX.mk ?_ ⟨?_, trivial⟩
    · refine congrArg I ?_
      rw [List.take_length]
    · rw [← hfL_end]
      rfl
theorem markServerS_out (l : List XServer) (k : Int) (h0 : 0 ≤ k) (hk : k + (bsum mkeServer l : Nat) ≤ 4611686018427387904) : CallX Tryz.prog 75 [.c (.own 127 3 (l.map ownServer)), I k] [some [.own 127 3 ((mkdL mkdServer mkeServer l k).map ownServer)], none] (I (k + (bsum mkeServer l : Nat))) := by
  refine callX_of_vc htb hm Tryz.func75 rfl rfl rfl rfl (ann := fun n => match n with | 2 => some { α := Nat, keep := [0], ov := fun a => [(5, I a), (1, I (k + (bsum mkeServer (l.take a) : Nat)))], hv := fun a => [(0, .orow none 127 3 ((hfL mkdServer mkeServer l k a).map ownServer))], φ := fun a => a ≤ l.length, μ := fun a => l.length - a } | _ => none) (gh := fun _ => false) ?_
  refine LoopN.mk (0 : Nat) (Nat.zero_le _) ⟨⟨rfl, rfl⟩, ⟨?_, rfl⟩, trivial⟩ ⟨⟨rfl, rfl⟩, trivial⟩ ⟨⟨rfl, rfl⟩, trivial⟩ ?_ (fun _ => rfl)
  · refine congrArg I ?_
    simp [bsum]
  intro (i : Nat) (hi : i ≤ l.length)
  have hlen : ((hfL mkdServer mkeServer l k i).map ownServer).length = l.length := by rw [List.length_map, hfL_len]
  refine Fact.mk fun (hL : ((hfL mkdServer mkeServer l k i).map ownServer).length ≤ maxLen) => ?_
  refine Branch.mk (fun h => ?_) (fun h => ?_)
  · have h : (i : Int) < (((hfL mkdServer mkeServer l k i).map ownServer).length : Nat) := of_decide_eq_true h
    have hi' : i < l.length := by omega
    have hs := bsum_take (f := mkeServer) (List.getElem?_eq_getElem hi')
    have hle := bsum_le (f := mkeServer) l (i + 1)
    have hf : mkeServer l[i] = 2 + bsum mkeNote l[i].notes := mkeServer_eq _
    have hg : ((hfL mkdServer mkeServer l k i).map ownServer)[i]? = some [.val (.bool l[i].up), .own 136 7 (l[i].notes.map ownNote), .val (.int .i64 l[i].saved)] := (hfL_get hi').trans (congrArg some rfl)
    conv => whnf
    refine Need.mk (by decide) ?_
    conv => whnf
    refine Need.mk ⟨by omega, by rw [hlen]; exact hi'⟩ ?_
    refine Index.mk [.val (.bool l[i].up), .own 136 7 (l[i].notes.map ownNote), .val (.int .i64 l[i].saved)] hg ?_
    conv => whnf
    refine Arith.fit (wrap_fit (z := k + (bsum mkeServer (l.take i) : Nat) + 1) (by omega) (by omega)) ?_
    conv => whnf
    refine Need.mk ⟨by omega, by simp only [List.length_set]; rw [hlen]; exact hi'⟩ ?_
    refine Index.mk [.val (.bool ((k + (bsum mkeServer (l.take i) : Nat)).tmod 3 == 0)), .own 136 7 (l[i].notes.map ownNote), .val (.int .i64 l[i].saved)] (set_get (by rw [hlen]; exact hi')) ?_
    conv => whnf
    intro v1
    conv => whnf
    refine CallN.gen [true, false] _ _ _ rfl (markNoteS_out l[i].notes (k + (bsum mkeServer (l.take i) : Nat) + 1) (by omega) (by omega)) rfl rfl _ rfl ?_
    conv => whnf
    refine Need.mk ⟨by omega, by simp only [List.length_set]; rw [hlen]; exact hi'⟩ ?_
    refine Index.mk [.val (.bool ((k + (bsum mkeServer (l.take i) : Nat)).tmod 3 == 0)), .val v1, .val (.int .i64 l[i].saved)] (set_get (by simp only [List.length_set]; rw [hlen]; exact hi')) ?_
    conv => whnf
    refine Arith.fit (wrap_fit (z := k + (bsum mkeServer (l.take i) : Nat) + 1 + (bsum mkeNote l[i].notes : Nat) + 1) (by omega) (by omega)) ?_
    conv => whnf
    refine Arith.fit (wrap_fit (z := (i : Int) + 1) (by omega) (by simp only [maxLen] at hL; omega)) ?_
    conv => whnf
    refine Gh.close 0 i 1 1 rfl (set_get (by simp only [List.length_set]; rw [hlen]; exact hi')) rfl rfl rfl ?_
    refine Gh.go ⟨i + 1, hi', (by show l.length - (i + 1) < l.length - i; omega), ⟨⟨rfl, rfl⟩, ⟨?_, rfl⟩, trivial⟩, ⟨⟨rfl, rfl⟩, trivial⟩, ⟨⟨?_, rfl⟩, trivial⟩⟩
    · refine congrArg I ?_
      show k + (bsum mkeServer (l.take i) : Nat) + 1 + (bsum mkeNote l[i].notes : Nat) + 1 = k + (bsum mkeServer (l.take (i + 1)) : Nat)
      omega
    · refine congrArg (Blk.orow none 127 3) ?_
      refine hfL_row (d := k + (bsum mkeServer (l.take i) : Nat)) (r := [.val (.bool ((k + (bsum mkeServer (l.take i) : Nat)).tmod 3 == 0)), .own 136 7 ((mkdL mkdNote mkeNote (l[i].notes) (k + (bsum mkeServer (l.take i) : Nat) + 1)).map ownNote), Jm (k + (bsum mkeServer (l.take i) : Nat) + 1 + (bsum mkeNote (l[i].notes) : Nat))]) hi' rfl rfl ?_
      rw [Int.toNat_natCast]
      repeat rw [List.set_set]
      all_goals rfl
  · have h : ¬ (i : Int) < (((hfL mkdServer mkeServer l k i).map ownServer).length : Nat) := of_decide_eq_false h
    have : i = l.length := by omega
    subst this
    refine RetX.mk ?_ ⟨?_, trivial⟩
    · refine congrArg I ?_
      rw [List.take_length]
    · rw [← hfL_end]
      rfl
def mkePacket (x : XPacket) : Nat := 6 + bsum one x.note.entry.rests + bsum mkeClaim x.note.entry.proof.claims
theorem mkePacket_eq (x : XPacket) : mkePacket x = 6 + bsum one x.note.entry.rests + bsum mkeClaim x.note.entry.proof.claims := rfl
def mkdPacket (x : XPacket) (k : Int) : XPacket := (XPacket.mk k (XNote.mk ((k + 1).tmod 3 == 0) (k + 1 + 1) (XEntry.mk (k + 1 + 1 + 1) (mkdL mk1 one x.note.entry.rests (k + 1 + 1 + 1 + 1)) (XProof.mk (XSig.mk (k + 1 + 1 + 1 + 1 + (bsum one x.note.entry.rests : Nat)) (k + 1 + 1 + 1 + 1 + (bsum one x.note.entry.rests : Nat) + 1)) (mkdL mkdClaim mkeClaim x.note.entry.proof.claims (k + 1 + 1 + 1 + 1 + (bsum one x.note.entry.rests : Nat) + 1 + 1))))))
theorem markPacketS_out (l : List XPacket) (k : Int) (h0 : 0 ≤ k) (hk : k + (bsum mkePacket l : Nat) ≤ 4611686018427387904) : CallX Tryz.prog 76 [.c (.own 210 8 (l.map ownPacket)), I k] [some [.own 210 8 ((mkdL mkdPacket mkePacket l k).map ownPacket)], none] (I (k + (bsum mkePacket l : Nat))) := by
  refine callX_of_vc htb hm Tryz.func76 rfl rfl rfl rfl (ann := fun n => match n with | 2 => some { α := Nat, keep := [0], ov := fun a => [(5, I a), (1, I (k + (bsum mkePacket (l.take a) : Nat)))], hv := fun a => [(0, .orow none 210 8 ((hfL mkdPacket mkePacket l k a).map ownPacket))], φ := fun a => a ≤ l.length, μ := fun a => l.length - a } | _ => none) (gh := fun _ => false) ?_
  refine LoopN.mk (0 : Nat) (Nat.zero_le _) ⟨⟨rfl, rfl⟩, ⟨?_, rfl⟩, trivial⟩ ⟨⟨rfl, rfl⟩, trivial⟩ ⟨⟨rfl, rfl⟩, trivial⟩ ?_ (fun _ => rfl)
  · refine congrArg I ?_
    simp [bsum]
  intro (i : Nat) (hi : i ≤ l.length)
  have hlen : ((hfL mkdPacket mkePacket l k i).map ownPacket).length = l.length := by rw [List.length_map, hfL_len]
  refine Fact.mk fun (hL : ((hfL mkdPacket mkePacket l k i).map ownPacket).length ≤ maxLen) => ?_
  refine Branch.mk (fun h => ?_) (fun h => ?_)
  · have h : (i : Int) < (((hfL mkdPacket mkePacket l k i).map ownPacket).length : Nat) := of_decide_eq_true h
    have hi' : i < l.length := by omega
    have hs := bsum_take (f := mkePacket) (List.getElem?_eq_getElem hi')
    have hle := bsum_le (f := mkePacket) l (i + 1)
    have hf : mkePacket l[i] = 6 + bsum one l[i].note.entry.rests + bsum mkeClaim l[i].note.entry.proof.claims := mkePacket_eq _
    have hg : ((hfL mkdPacket mkePacket l k i).map ownPacket)[i]? = some [.val (.int .i64 l[i].to0), .val (.bool l[i].note.revoke), .val (.int .i64 l[i].note.id), .val (.int .i64 l[i].note.entry.id), .ows 2 1 (l[i].note.entry.rests.map eI), .val (.int .i64 l[i].note.entry.proof.sig.tests), .val (.int .i64 l[i].note.entry.proof.sig.actions), .own 236 9 (l[i].note.entry.proof.claims.map ownClaim)] := (hfL_get hi').trans (congrArg some rfl)
    conv => whnf
    refine Need.mk ⟨by omega, by rw [hlen]; exact hi'⟩ ?_
    refine Index.mk [.val (.int .i64 l[i].to0), .val (.bool l[i].note.revoke), .val (.int .i64 l[i].note.id), .val (.int .i64 l[i].note.entry.id), .ows 2 1 (l[i].note.entry.rests.map eI), .val (.int .i64 l[i].note.entry.proof.sig.tests), .val (.int .i64 l[i].note.entry.proof.sig.actions), .own 236 9 (l[i].note.entry.proof.claims.map ownClaim)] hg ?_
    conv => whnf
    refine Arith.fit (wrap_fit (z := k + (bsum mkePacket (l.take i) : Nat) + 1) (by omega) (by omega)) ?_
    conv => whnf
    refine Need.mk (by decide) ?_
    conv => whnf
    refine Need.mk ⟨by omega, by simp only [List.length_set]; rw [hlen]; exact hi'⟩ ?_
    refine Index.mk [Jm (k + (bsum mkePacket (l.take i) : Nat)), .val (.bool l[i].note.revoke), .val (.int .i64 l[i].note.id), .val (.int .i64 l[i].note.entry.id), .ows 2 1 (l[i].note.entry.rests.map eI), .val (.int .i64 l[i].note.entry.proof.sig.tests), .val (.int .i64 l[i].note.entry.proof.sig.actions), .own 236 9 (l[i].note.entry.proof.claims.map ownClaim)] (set_get (by rw [hlen]; exact hi')) ?_
    conv => whnf
    refine Arith.fit (wrap_fit (z := k + (bsum mkePacket (l.take i) : Nat) + 1 + 1) (by omega) (by omega)) ?_
    conv => whnf
    refine Need.mk ⟨by omega, by simp only [List.length_set]; rw [hlen]; exact hi'⟩ ?_
    refine Index.mk [Jm (k + (bsum mkePacket (l.take i) : Nat)), .val (.bool ((k + (bsum mkePacket (l.take i) : Nat) + 1).tmod 3 == 0)), .val (.int .i64 l[i].note.id), .val (.int .i64 l[i].note.entry.id), .ows 2 1 (l[i].note.entry.rests.map eI), .val (.int .i64 l[i].note.entry.proof.sig.tests), .val (.int .i64 l[i].note.entry.proof.sig.actions), .own 236 9 (l[i].note.entry.proof.claims.map ownClaim)] (set_get (by simp only [List.length_set]; rw [hlen]; exact hi')) ?_
    conv => whnf
    refine Arith.fit (wrap_fit (z := k + (bsum mkePacket (l.take i) : Nat) + 1 + 1 + 1) (by omega) (by omega)) ?_
    conv => whnf
    refine Need.mk ⟨by omega, by simp only [List.length_set]; rw [hlen]; exact hi'⟩ ?_
    refine Index.mk [Jm (k + (bsum mkePacket (l.take i) : Nat)), .val (.bool ((k + (bsum mkePacket (l.take i) : Nat) + 1).tmod 3 == 0)), Jm (k + (bsum mkePacket (l.take i) : Nat) + 1 + 1), .val (.int .i64 l[i].note.entry.id), .ows 2 1 (l[i].note.entry.rests.map eI), .val (.int .i64 l[i].note.entry.proof.sig.tests), .val (.int .i64 l[i].note.entry.proof.sig.actions), .own 236 9 (l[i].note.entry.proof.claims.map ownClaim)] (set_get (by simp only [List.length_set]; rw [hlen]; exact hi')) ?_
    conv => whnf
    refine Arith.fit (wrap_fit (z := k + (bsum mkePacket (l.take i) : Nat) + 1 + 1 + 1 + 1) (by omega) (by omega)) ?_
    conv => whnf
    refine Need.mk ⟨by omega, by simp only [List.length_set]; rw [hlen]; exact hi'⟩ ?_
    refine Index.mk [Jm (k + (bsum mkePacket (l.take i) : Nat)), .val (.bool ((k + (bsum mkePacket (l.take i) : Nat) + 1).tmod 3 == 0)), Jm (k + (bsum mkePacket (l.take i) : Nat) + 1 + 1), Jm (k + (bsum mkePacket (l.take i) : Nat) + 1 + 1 + 1), .ows 2 1 (l[i].note.entry.rests.map eI), .val (.int .i64 l[i].note.entry.proof.sig.tests), .val (.int .i64 l[i].note.entry.proof.sig.actions), .own 236 9 (l[i].note.entry.proof.claims.map ownClaim)] (set_get (by simp only [List.length_set]; rw [hlen]; exact hi')) ?_
    conv => whnf
    intro v1
    conv => whnf
    refine CallN.gen [true, false] _ _ _ rfl (markInt64S_out l[i].note.entry.rests (k + (bsum mkePacket (l.take i) : Nat) + 1 + 1 + 1 + 1) (by omega) (by omega)) rfl rfl _ rfl ?_
    conv => whnf
    refine Need.mk ⟨by omega, by simp only [List.length_set]; rw [hlen]; exact hi'⟩ ?_
    refine Index.mk [Jm (k + (bsum mkePacket (l.take i) : Nat)), .val (.bool ((k + (bsum mkePacket (l.take i) : Nat) + 1).tmod 3 == 0)), Jm (k + (bsum mkePacket (l.take i) : Nat) + 1 + 1), Jm (k + (bsum mkePacket (l.take i) : Nat) + 1 + 1 + 1), .val v1, .val (.int .i64 l[i].note.entry.proof.sig.tests), .val (.int .i64 l[i].note.entry.proof.sig.actions), .own 236 9 (l[i].note.entry.proof.claims.map ownClaim)] (set_get (by simp only [List.length_set]; rw [hlen]; exact hi')) ?_
    conv => whnf
    refine Arith.fit (wrap_fit (z := k + (bsum mkePacket (l.take i) : Nat) + 1 + 1 + 1 + 1 + (bsum one l[i].note.entry.rests : Nat) + 1) (by omega) (by omega)) ?_
    conv => whnf
    refine Need.mk ⟨by omega, by simp only [List.length_set]; rw [hlen]; exact hi'⟩ ?_
    refine Index.mk [Jm (k + (bsum mkePacket (l.take i) : Nat)), .val (.bool ((k + (bsum mkePacket (l.take i) : Nat) + 1).tmod 3 == 0)), Jm (k + (bsum mkePacket (l.take i) : Nat) + 1 + 1), Jm (k + (bsum mkePacket (l.take i) : Nat) + 1 + 1 + 1), .val v1, Jm (k + (bsum mkePacket (l.take i) : Nat) + 1 + 1 + 1 + 1 + (bsum one l[i].note.entry.rests : Nat)), .val (.int .i64 l[i].note.entry.proof.sig.actions), .own 236 9 (l[i].note.entry.proof.claims.map ownClaim)] (set_get (by simp only [List.length_set]; rw [hlen]; exact hi')) ?_
    conv => whnf
    refine Arith.fit (wrap_fit (z := k + (bsum mkePacket (l.take i) : Nat) + 1 + 1 + 1 + 1 + (bsum one l[i].note.entry.rests : Nat) + 1 + 1) (by omega) (by omega)) ?_
    conv => whnf
    refine Need.mk ⟨by omega, by simp only [List.length_set]; rw [hlen]; exact hi'⟩ ?_
    refine Index.mk [Jm (k + (bsum mkePacket (l.take i) : Nat)), .val (.bool ((k + (bsum mkePacket (l.take i) : Nat) + 1).tmod 3 == 0)), Jm (k + (bsum mkePacket (l.take i) : Nat) + 1 + 1), Jm (k + (bsum mkePacket (l.take i) : Nat) + 1 + 1 + 1), .val v1, Jm (k + (bsum mkePacket (l.take i) : Nat) + 1 + 1 + 1 + 1 + (bsum one l[i].note.entry.rests : Nat)), Jm (k + (bsum mkePacket (l.take i) : Nat) + 1 + 1 + 1 + 1 + (bsum one l[i].note.entry.rests : Nat) + 1), .own 236 9 (l[i].note.entry.proof.claims.map ownClaim)] (set_get (by simp only [List.length_set]; rw [hlen]; exact hi')) ?_
    conv => whnf
    intro v2
    conv => whnf
    refine CallN.gen [true, false] _ _ _ rfl (markClaimS_out l[i].note.entry.proof.claims (k + (bsum mkePacket (l.take i) : Nat) + 1 + 1 + 1 + 1 + (bsum one l[i].note.entry.rests : Nat) + 1 + 1) (by omega) (by omega)) rfl rfl _ rfl ?_
    conv => whnf
    refine Arith.fit (wrap_fit (z := (i : Int) + 1) (by omega) (by simp only [maxLen] at hL; omega)) ?_
    conv => whnf
    refine Gh.closes 0 i 4 1 rfl (set_get (by simp only [List.length_set]; rw [hlen]; exact hi')) rfl rfl rfl ?_
    refine Gh.close 0 i 7 2 rfl (set_get (by simp only [List.length_set]; rw [hlen]; exact hi')) rfl rfl rfl ?_
    refine Gh.go ⟨i + 1, hi', (by show l.length - (i + 1) < l.length - i; omega), ⟨⟨rfl, rfl⟩, ⟨?_, rfl⟩, trivial⟩, ⟨⟨rfl, rfl⟩, trivial⟩, ⟨⟨?_, rfl⟩, trivial⟩⟩
    · refine congrArg I ?_
      show k + (bsum mkePacket (l.take i) : Nat) + 1 + 1 + 1 + 1 + (bsum one l[i].note.entry.rests : Nat) + 1 + 1 + (bsum mkeClaim l[i].note.entry.proof.claims : Nat) = k + (bsum mkePacket (l.take (i + 1)) : Nat)
      omega
    · refine congrArg (Blk.orow none 210 8) ?_
      refine hfL_row (d := k + (bsum mkePacket (l.take i) : Nat)) (r := [Jm (k + (bsum mkePacket (l.take i) : Nat)), .val (.bool ((k + (bsum mkePacket (l.take i) : Nat) + 1).tmod 3 == 0)), Jm (k + (bsum mkePacket (l.take i) : Nat) + 1 + 1), Jm (k + (bsum mkePacket (l.take i) : Nat) + 1 + 1 + 1), .ows 2 1 ((mkdL mk1 one (l[i].note.entry.rests) (k + (bsum mkePacket (l.take i) : Nat) + 1 + 1 + 1 + 1)).map eI), Jm (k + (bsum mkePacket (l.take i) : Nat) + 1 + 1 + 1 + 1 + (bsum one (l[i].note.entry.rests) : Nat)), Jm (k + (bsum mkePacket (l.take i) : Nat) + 1 + 1 + 1 + 1 + (bsum one (l[i].note.entry.rests) : Nat) + 1), .own 236 9 ((mkdL mkdClaim mkeClaim (l[i].note.entry.proof.claims) (k + (bsum mkePacket (l.take i) : Nat) + 1 + 1 + 1 + 1 + (bsum one (l[i].note.entry.rests) : Nat) + 1 + 1)).map ownClaim)]) hi' rfl rfl ?_
      rw [Int.toNat_natCast]
      repeat rw [List.set_set]
      all_goals rfl
  · have h : ¬ (i : Int) < (((hfL mkdPacket mkePacket l k i).map ownPacket).length : Nat) := of_decide_eq_false h
    have : i = l.length := by omega
    subst this
    refine RetX.mk ?_ ⟨?_, trivial⟩
    · refine congrArg I ?_
      rw [List.take_length]
    · rw [← hfL_end]
      rfl
def mkvArchive (x : XArchive) (k : Int) : XArchive := (XArchive.mk x.sig (mkdL mkdServer mkeServer x.servers k) (mkdL mkdPacket mkePacket x.flying (k + (bsum mkeServer x.servers : Nat))))
theorem markArchive_out (x : XArchive) (k : Int) (h0 : 0 ≤ k) (hk : k + (bsum mkeServer x.servers + bsum mkePacket x.flying : Nat) ≤ 4611686018427387904) : CallX Tryz.prog 25 [.m [.c (.val (.int .i64 x.sig.tests)), .c (.val (.int .i64 x.sig.actions)), .c (.own 127 3 (x.servers.map ownServer)), .c (.own 210 8 (x.flying.map ownPacket))], I k] [some [Jm (x.sig.tests), Jm (x.sig.actions), .own 127 3 ((mkdL mkdServer mkeServer x.servers k).map ownServer), .own 210 8 ((mkdL mkdPacket mkePacket x.flying (k + (bsum mkeServer x.servers : Nat))).map ownPacket)], none] (I (k + (bsum mkeServer x.servers : Nat) + (bsum mkePacket x.flying : Nat))) := by
  refine callX_of_vc htb hm Tryz.func25 rfl rfl rfl rfl (ann := fun _ => none) (gh := fun _ => false) ?_
  repeat' ((conv => whnf); first | (guard_target = Done _; refine Done.mk ?_) | (guard_target = RetX _ _; refine RetX.mk ?_ ?_) | (guard_target = Fact _ _; refine Fact.mk fun hL => ?_; (try simp only [List.length_map, maxLen] at hL)) | (guard_target = Branch _ _ _; (first | refine Branch.dec ?_ ?_ | refine Branch.beq ?_ ?_ | refine Branch.bne ?_ ?_ | refine Branch.ndec ?_ ?_ | refine Branch.nb ?_ ?_ | refine Branch.mk ?_ ?_) <;> intro h <;> (try simp only [List.length_map] at h) <;> (try omega) <;> (try contradiction)) | (guard_target = CallN _ 75 _ _ _ _; refine CallN.gen [true, false] _ _ _ rfl (markServerS_out x.servers (k) (by omega) (by omega)) rfl rfl _ rfl ?_) | (guard_target = CallN _ 76 _ _ _ _; refine CallN.gen [true, false] _ _ _ rfl (markPacketS_out x.flying (k + (bsum mkeServer x.servers : Nat)) (by omega) (by omega)) rfl rfl _ rfl ?_) | (guard_target = Arith _ _ _; refine Arith.fit (wrap_fit (by first | omega | (simp only [List.length_map]; omega)) (by first | omega | (simp only [List.length_map]; omega))) ?_) | (guard_target = Arith _ _ _; refine Arith.fit (by decide) ?_) | (guard_target = Index _ _ _; first  | refine Index.mk _ (idx_map (by omega)) ?_) | (guard_target = Need (_ = true) _; refine Need.mk (by first | kernel_rfl | rfl) ?_) | (guard_target = LinkV _ _ _; first  | refine LinkV.no ?_) | (guard_target = GhO _ _ _ _; refine GhO.go ?_) | (guard_target = Need _ _; refine Need.mk (by first  | omega | (simp only [List.length_map]; omega)) ?_))
  all_goals first | rfl | exact ⟨rfl, trivial⟩ | trivial
theorem markArchive_ok (x : XArchive) (k : Int) (h0 : 0 ≤ k) (hk : k + (bsum mkeServer x.servers + bsum mkePacket x.flying : Nat) ≤ 4611686018427387904) : CallX Tryz.prog 25 [.m [.c (.val (.int .i64 x.sig.tests)), .c (.val (.int .i64 x.sig.actions)), .c (.own 127 3 (x.servers.map ownServer)), .c (.own 210 8 (x.flying.map ownPacket))], I k] [] (I (k + (bsum mkeServer x.servers + bsum mkePacket x.flying : Nat))) := by
  have h := CallX.drop (markArchive_out x k h0 hk)
  rwa [show k + (bsum mkeServer x.servers : Nat) + (bsum mkePacket x.flying : Nat) = k + ((bsum mkeServer x.servers + bsum mkePacket x.flying : Nat) : Int) by omega] at h
def mkeEvent (x : XEvent) : Nat := 6 + bsum one x.rests + bsum mkeClaim x.proof.claims + bsum one x.votes
theorem mkeEvent_eq (x : XEvent) : mkeEvent x = 6 + bsum one x.rests + bsum mkeClaim x.proof.claims + bsum one x.votes := rfl
def mkdEvent (x : XEvent) (k : Int) : XEvent := (XEvent.mk k (k + 1) (k + 1 + 1) (k + 1 + 1 + 1) (mkdL mk1 one x.rests (k + 1 + 1 + 1 + 1)) (XProof.mk (XSig.mk (k + 1 + 1 + 1 + 1 + (bsum one x.rests : Nat)) (k + 1 + 1 + 1 + 1 + (bsum one x.rests : Nat) + 1)) (mkdL mkdClaim mkeClaim x.proof.claims (k + 1 + 1 + 1 + 1 + (bsum one x.rests : Nat) + 1 + 1))) (mkdL mkB one x.votes (k + 1 + 1 + 1 + 1 + (bsum one x.rests : Nat) + 1 + 1 + (bsum mkeClaim x.proof.claims : Nat))))
theorem markBoolS_out (l : List Bool) (k : Int) (h0 : 0 ≤ k) (hk : k + (bsum one l : Nat) ≤ 4611686018427387904) : CallX Tryz.prog 79 [.c (.ows 4 1 (l.map eB)), I k] [some [.ows 4 1 ((mkdL mkB one l k).map eB)], none] (I (k + (bsum one l : Nat))) := by
  refine callX_of_vc htb hm Tryz.func79 rfl rfl rfl rfl (ann := fun n => match n with | 2 => some { α := Nat, keep := [0], ov := fun a => [(5, I a), (1, I (k + (bsum one (l.take a) : Nat)))], hv := fun a => [(0, .row none 4 1 ((hfL mkB one l k a).map eB))], φ := fun a => a ≤ l.length, μ := fun a => l.length - a } | _ => none) (gh := fun _ => false) ?_
  refine LoopN.mk (0 : Nat) (Nat.zero_le _) ⟨⟨rfl, rfl⟩, ⟨?_, rfl⟩, trivial⟩ ⟨⟨rfl, rfl⟩, trivial⟩ ⟨⟨rfl, rfl⟩, trivial⟩ ?_ (fun _ => rfl)
  · refine congrArg I ?_
    simp [bsum]
  intro (i : Nat) (hi : i ≤ l.length)
  have hlen : ((hfL mkB one l k i).map eB).length = l.length := by rw [List.length_map, hfL_len]
  refine Fact.mk fun (hL : ((hfL mkB one l k i).map eB).length ≤ maxLen) => ?_
  refine Branch.mk (fun h => ?_) (fun h => ?_)
  · have h : (i : Int) < (((hfL mkB one l k i).map eB).length : Nat) := of_decide_eq_true h
    have hi' : i < l.length := by omega
    have hs := bsum_take (f := one) (List.getElem?_eq_getElem hi')
    have hle := bsum_le (f := one) l (i + 1)
    have hf : one l[i] = 1 := rfl
    have hg : ((hfL mkB one l k i).map eB)[i]? = some [.val (.bool l[i])] := (hfL_get hi').trans (congrArg some rfl)
    conv => whnf
    refine Need.mk (by decide) ?_
    conv => whnf
    refine Need.mk ⟨by omega, by rw [hlen]; exact hi'⟩ ?_
    refine Index.mk [.val (.bool l[i])] hg ?_
    conv => whnf
    refine Arith.fit (wrap_fit (z := k + (bsum one (l.take i) : Nat) + 1) (by omega) (by omega)) ?_
    conv => whnf
    refine Arith.fit (wrap_fit (z := (i : Int) + 1) (by omega) (by simp only [maxLen] at hL; omega)) ?_
    conv => whnf
    refine Gh.go ⟨i + 1, hi', (by show l.length - (i + 1) < l.length - i; omega), ⟨⟨rfl, rfl⟩, ⟨?_, rfl⟩, trivial⟩, ⟨⟨rfl, rfl⟩, trivial⟩, ⟨⟨?_, rfl⟩, trivial⟩⟩
    · refine congrArg I ?_
      show k + (bsum one (l.take i) : Nat) + 1 = k + (bsum one (l.take (i + 1)) : Nat)
      omega
    · refine congrArg (Blk.row none 4 1) ?_
      refine hfL_row (d := k + (bsum one (l.take i) : Nat)) (r := [.val (.bool ((k + (bsum one (l.take i) : Nat)).tmod 3 == 0))]) hi' rfl rfl ?_
      rw [Int.toNat_natCast]
      repeat rw [List.set_set]
      all_goals rfl
  · have h : ¬ (i : Int) < (((hfL mkB one l k i).map eB).length : Nat) := of_decide_eq_false h
    have : i = l.length := by omega
    subst this
    refine RetX.mk ?_ ⟨?_, trivial⟩
    · refine congrArg I ?_
      rw [List.take_length]
    · rw [← hfL_end]
      rfl
theorem heldBoolS_mk (l : List Bool) (k : Int) (h0 : 0 ≤ k) (hk : k + (bsum one l : Nat) ≤ 4611686018427387904) : CallF Tryz.prog 82 [.c (.ro 1 ((mkdL mkB one l k).map eB)), I k] (I (k + (bsum one l : Nat))) := by
  have hl := mkdL_len (f := mkB) (c := one) l k
  have hs : ∀ i, (hi : i < l.length) → bsum one (l.take (i + 1)) = bsum one (l.take i) + (1) ∧ bsum one (l.take (i + 1)) ≤ bsum one l := fun i hi => by
    have h1 := bsum_take (f := one) (List.getElem?_eq_getElem hi)
    have h2 := bsum_le (f := one) l (i + 1)
    have h3 : one l[i] = 1 := rfl
    omega
  have hix : ∀ (i : Nat) (c : Int) (hi : i < l.length), c = k + (bsum one (l.take i) : Nat) → ((mkdL mkB one l k).map eB)[i]? = some [.val (.bool (c.tmod 3 == 0))] := fun i c hi hc => mkdL_idx hi hc rfl
  refine callF_of_vc htb hm Tryz.func82 rfl rfl rfl rfl (ann := fun _ => none) (gh := fun _ => false) ?_
  repeat' ((conv => whnf); first | (guard_target = Done _; refine Done.mk ?_; first | ((have e : i = l.length := (by omega); have h9 := ha.2; rw [e, List.take_length] at h9; rw [h9]; rfl); done) | skip) | (guard_target = RetX _ _; refine RetX.mk ?_ ?_) | (guard_target =~ LoopE 2 _ _ _ _ _ _; refine LoopE.mk { α := Nat × Int, keep := [0], ov := fun ⟨i, c⟩ => [(1, I c), (5, I (i : Nat))], φ := fun ⟨i, c⟩ => i ≤ l.length ∧ c = k + (bsum one (l.take i) : Nat), μ := fun ⟨i, c⟩ => l.length - i } (LoopN.mk ((0, k) : Nat × Int) (by exact ⟨Nat.zero_le _, by simp [bsum]⟩) (by (repeat' first | exact trivial | exact rfl | refine ⟨?_, ?_⟩); done) (by (repeat' first | exact trivial | exact rfl | refine ⟨?_, ?_⟩); done) (by (repeat' first | exact trivial | exact rfl | refine ⟨?_, ?_⟩ | (simp only [List.map_append, List.map_cons, List.map_nil, List.map_set]; first | done | rfl)); done) (fun A ha => ?_) (by intro A; first | rfl | (obtain ⟨_, _⟩ := A; rfl) | (obtain ⟨_, _, _⟩ := A; rfl))); obtain ⟨i, c⟩ := A; have ha : i ≤ l.length ∧ c = k + (bsum one (l.take i) : Nat) := ha; have hsi := hs i; have hc2 := ha.2; have hb9 := bsum_le (f := one) l i) | (guard_target = Gh _ _ _ _ _; refine Gh.go ⟨((i + 1, c + 1) : Nat × Int), (by (have hi9 : i < l.length := (by omega); have h9 := hsi hi9; refine ⟨hi9, ?_⟩; show c + 1 = k + (bsum one (l.take (i + 1)) : Nat); omega)), (by first | (show _ < _; simp only []; omega) | omega | (simp; omega)), (by (repeat' first | exact trivial | exact rfl | refine ⟨?_, ?_⟩); done), (by (repeat' first | exact trivial | exact rfl | refine ⟨?_, ?_⟩); done), (by (repeat' first | exact trivial | exact rfl | refine ⟨?_, ?_⟩ | (simp only [List.map_append, List.map_cons, List.map_nil, List.map_set]; first | done | rfl)); done)⟩) | (guard_target = Fact _ _; refine Fact.mk fun hL => ?_; (try simp only [List.length_map, maxLen] at hL)) | (guard_target = Branch _ _ _; (first | refine Branch.dec ?_ ?_ | refine Branch.beq ?_ ?_ | refine Branch.bne ?_ ?_ | refine Branch.ndec ?_ ?_ | refine Branch.nb ?_ ?_ | refine Branch.mk ?_ ?_) <;> intro h <;> (try simp only [List.length_map] at h) <;> (try omega) <;> (try contradiction)) | (guard_target = Arith _ _ _; refine Arith.fit (wrap_fit (by (first | omega | (have h9 := hsi (by omega); omega) | (simp only [List.length_map]; omega))) (by (first | omega | (have h9 := hsi (by omega); omega) | (simp only [List.length_map]; omega)))) ?_) | (guard_target = Arith _ _ _; refine Arith.fit (by decide) ?_) | (guard_target = Index _ _ _; first | refine Index.mk _ (hix i c (by omega) ha.2) ?_ | refine Index.mk _ (hix i _ (by omega) ha.2) ?_ | refine Index.mk _ (idx_map (by omega)) ?_) | (guard_target = Need (_ = true) _; refine Need.mk (by first | kernel_rfl | rfl) ?_) | (guard_target = LinkV _ _ _; first  | refine LinkV.no ?_) | (guard_target = GhO _ _ _ _; refine GhO.go ?_) | (guard_target = Need _ _; refine Need.mk (by first  | omega | (simp only [List.length_map]; omega)) ?_))
theorem markEventS_out (l : List XEvent) (k : Int) (h0 : 0 ≤ k) (hk : k + (bsum mkeEvent l : Nat) ≤ 4611686018427387904) : CallX Tryz.prog 26 [.c (.own 147 9 (l.map ownEvent)), I k] [some [.own 147 9 ((mkdL mkdEvent mkeEvent l k).map ownEvent)], none] (I (k + (bsum mkeEvent l : Nat))) := by
  refine callX_of_vc htb hm Tryz.func26 rfl rfl rfl rfl (ann := fun n => match n with | 2 => some { α := Nat, keep := [0], ov := fun a => [(5, I a), (1, I (k + (bsum mkeEvent (l.take a) : Nat)))], hv := fun a => [(0, .orow none 147 9 ((hfL mkdEvent mkeEvent l k a).map ownEvent))], φ := fun a => a ≤ l.length, μ := fun a => l.length - a } | _ => none) (gh := fun _ => false) ?_
  refine LoopN.mk (0 : Nat) (Nat.zero_le _) ⟨⟨rfl, rfl⟩, ⟨?_, rfl⟩, trivial⟩ ⟨⟨rfl, rfl⟩, trivial⟩ ⟨⟨rfl, rfl⟩, trivial⟩ ?_ (fun _ => rfl)
  · refine congrArg I ?_
    simp [bsum]
  intro (i : Nat) (hi : i ≤ l.length)
  have hlen : ((hfL mkdEvent mkeEvent l k i).map ownEvent).length = l.length := by rw [List.length_map, hfL_len]
  refine Fact.mk fun (hL : ((hfL mkdEvent mkeEvent l k i).map ownEvent).length ≤ maxLen) => ?_
  refine Branch.mk (fun h => ?_) (fun h => ?_)
  · have h : (i : Int) < (((hfL mkdEvent mkeEvent l k i).map ownEvent).length : Nat) := of_decide_eq_true h
    have hi' : i < l.length := by omega
    have hs := bsum_take (f := mkeEvent) (List.getElem?_eq_getElem hi')
    have hle := bsum_le (f := mkeEvent) l (i + 1)
    have hf : mkeEvent l[i] = 6 + bsum one l[i].rests + bsum mkeClaim l[i].proof.claims + bsum one l[i].votes := mkeEvent_eq _
    have hg : ((hfL mkdEvent mkeEvent l k i).map ownEvent)[i]? = some [.val (.int .i64 l[i].kind), .val (.int .i64 l[i].a), .val (.int .i64 l[i].b), .val (.int .i64 l[i].c), .ows 2 1 (l[i].rests.map eI), .val (.int .i64 l[i].proof.sig.tests), .val (.int .i64 l[i].proof.sig.actions), .own 236 9 (l[i].proof.claims.map ownClaim), .ows 4 1 (l[i].votes.map eB)] := (hfL_get hi').trans (congrArg some rfl)
    conv => whnf
    refine Need.mk ⟨by omega, by rw [hlen]; exact hi'⟩ ?_
    refine Index.mk [.val (.int .i64 l[i].kind), .val (.int .i64 l[i].a), .val (.int .i64 l[i].b), .val (.int .i64 l[i].c), .ows 2 1 (l[i].rests.map eI), .val (.int .i64 l[i].proof.sig.tests), .val (.int .i64 l[i].proof.sig.actions), .own 236 9 (l[i].proof.claims.map ownClaim), .ows 4 1 (l[i].votes.map eB)] hg ?_
    conv => whnf
    refine Arith.fit (wrap_fit (z := k + (bsum mkeEvent (l.take i) : Nat) + 1) (by omega) (by omega)) ?_
    conv => whnf
    refine Need.mk ⟨by omega, by simp only [List.length_set]; rw [hlen]; exact hi'⟩ ?_
    refine Index.mk [Jm (k + (bsum mkeEvent (l.take i) : Nat)), .val (.int .i64 l[i].a), .val (.int .i64 l[i].b), .val (.int .i64 l[i].c), .ows 2 1 (l[i].rests.map eI), .val (.int .i64 l[i].proof.sig.tests), .val (.int .i64 l[i].proof.sig.actions), .own 236 9 (l[i].proof.claims.map ownClaim), .ows 4 1 (l[i].votes.map eB)] (set_get (by rw [hlen]; exact hi')) ?_
    conv => whnf
    refine Arith.fit (wrap_fit (z := k + (bsum mkeEvent (l.take i) : Nat) + 1 + 1) (by omega) (by omega)) ?_
    conv => whnf
    refine Need.mk ⟨by omega, by simp only [List.length_set]; rw [hlen]; exact hi'⟩ ?_
    refine Index.mk [Jm (k + (bsum mkeEvent (l.take i) : Nat)), Jm (k + (bsum mkeEvent (l.take i) : Nat) + 1), .val (.int .i64 l[i].b), .val (.int .i64 l[i].c), .ows 2 1 (l[i].rests.map eI), .val (.int .i64 l[i].proof.sig.tests), .val (.int .i64 l[i].proof.sig.actions), .own 236 9 (l[i].proof.claims.map ownClaim), .ows 4 1 (l[i].votes.map eB)] (set_get (by simp only [List.length_set]; rw [hlen]; exact hi')) ?_
    conv => whnf
    refine Arith.fit (wrap_fit (z := k + (bsum mkeEvent (l.take i) : Nat) + 1 + 1 + 1) (by omega) (by omega)) ?_
    conv => whnf
    refine Need.mk ⟨by omega, by simp only [List.length_set]; rw [hlen]; exact hi'⟩ ?_
    refine Index.mk [Jm (k + (bsum mkeEvent (l.take i) : Nat)), Jm (k + (bsum mkeEvent (l.take i) : Nat) + 1), Jm (k + (bsum mkeEvent (l.take i) : Nat) + 1 + 1), .val (.int .i64 l[i].c), .ows 2 1 (l[i].rests.map eI), .val (.int .i64 l[i].proof.sig.tests), .val (.int .i64 l[i].proof.sig.actions), .own 236 9 (l[i].proof.claims.map ownClaim), .ows 4 1 (l[i].votes.map eB)] (set_get (by simp only [List.length_set]; rw [hlen]; exact hi')) ?_
    conv => whnf
    refine Arith.fit (wrap_fit (z := k + (bsum mkeEvent (l.take i) : Nat) + 1 + 1 + 1 + 1) (by omega) (by omega)) ?_
    conv => whnf
    refine Need.mk ⟨by omega, by simp only [List.length_set]; rw [hlen]; exact hi'⟩ ?_
    refine Index.mk [Jm (k + (bsum mkeEvent (l.take i) : Nat)), Jm (k + (bsum mkeEvent (l.take i) : Nat) + 1), Jm (k + (bsum mkeEvent (l.take i) : Nat) + 1 + 1), Jm (k + (bsum mkeEvent (l.take i) : Nat) + 1 + 1 + 1), .ows 2 1 (l[i].rests.map eI), .val (.int .i64 l[i].proof.sig.tests), .val (.int .i64 l[i].proof.sig.actions), .own 236 9 (l[i].proof.claims.map ownClaim), .ows 4 1 (l[i].votes.map eB)] (set_get (by simp only [List.length_set]; rw [hlen]; exact hi')) ?_
    conv => whnf
    intro v1
    conv => whnf
    refine CallN.gen [true, false] _ _ _ rfl (markInt64S_out l[i].rests (k + (bsum mkeEvent (l.take i) : Nat) + 1 + 1 + 1 + 1) (by omega) (by omega)) rfl rfl _ rfl ?_
    conv => whnf
    refine Need.mk ⟨by omega, by simp only [List.length_set]; rw [hlen]; exact hi'⟩ ?_
    refine Index.mk [Jm (k + (bsum mkeEvent (l.take i) : Nat)), Jm (k + (bsum mkeEvent (l.take i) : Nat) + 1), Jm (k + (bsum mkeEvent (l.take i) : Nat) + 1 + 1), Jm (k + (bsum mkeEvent (l.take i) : Nat) + 1 + 1 + 1), .val v1, .val (.int .i64 l[i].proof.sig.tests), .val (.int .i64 l[i].proof.sig.actions), .own 236 9 (l[i].proof.claims.map ownClaim), .ows 4 1 (l[i].votes.map eB)] (set_get (by simp only [List.length_set]; rw [hlen]; exact hi')) ?_
    conv => whnf
    refine Arith.fit (wrap_fit (z := k + (bsum mkeEvent (l.take i) : Nat) + 1 + 1 + 1 + 1 + (bsum one l[i].rests : Nat) + 1) (by omega) (by omega)) ?_
    conv => whnf
    refine Need.mk ⟨by omega, by simp only [List.length_set]; rw [hlen]; exact hi'⟩ ?_
    refine Index.mk [Jm (k + (bsum mkeEvent (l.take i) : Nat)), Jm (k + (bsum mkeEvent (l.take i) : Nat) + 1), Jm (k + (bsum mkeEvent (l.take i) : Nat) + 1 + 1), Jm (k + (bsum mkeEvent (l.take i) : Nat) + 1 + 1 + 1), .val v1, Jm (k + (bsum mkeEvent (l.take i) : Nat) + 1 + 1 + 1 + 1 + (bsum one l[i].rests : Nat)), .val (.int .i64 l[i].proof.sig.actions), .own 236 9 (l[i].proof.claims.map ownClaim), .ows 4 1 (l[i].votes.map eB)] (set_get (by simp only [List.length_set]; rw [hlen]; exact hi')) ?_
    conv => whnf
    refine Arith.fit (wrap_fit (z := k + (bsum mkeEvent (l.take i) : Nat) + 1 + 1 + 1 + 1 + (bsum one l[i].rests : Nat) + 1 + 1) (by omega) (by omega)) ?_
    conv => whnf
    refine Need.mk ⟨by omega, by simp only [List.length_set]; rw [hlen]; exact hi'⟩ ?_
    refine Index.mk [Jm (k + (bsum mkeEvent (l.take i) : Nat)), Jm (k + (bsum mkeEvent (l.take i) : Nat) + 1), Jm (k + (bsum mkeEvent (l.take i) : Nat) + 1 + 1), Jm (k + (bsum mkeEvent (l.take i) : Nat) + 1 + 1 + 1), .val v1, Jm (k + (bsum mkeEvent (l.take i) : Nat) + 1 + 1 + 1 + 1 + (bsum one l[i].rests : Nat)), Jm (k + (bsum mkeEvent (l.take i) : Nat) + 1 + 1 + 1 + 1 + (bsum one l[i].rests : Nat) + 1), .own 236 9 (l[i].proof.claims.map ownClaim), .ows 4 1 (l[i].votes.map eB)] (set_get (by simp only [List.length_set]; rw [hlen]; exact hi')) ?_
    conv => whnf
    intro v2
    conv => whnf
    refine CallN.gen [true, false] _ _ _ rfl (markClaimS_out l[i].proof.claims (k + (bsum mkeEvent (l.take i) : Nat) + 1 + 1 + 1 + 1 + (bsum one l[i].rests : Nat) + 1 + 1) (by omega) (by omega)) rfl rfl _ rfl ?_
    conv => whnf
    refine Need.mk ⟨by omega, by simp only [List.length_set]; rw [hlen]; exact hi'⟩ ?_
    refine Index.mk [Jm (k + (bsum mkeEvent (l.take i) : Nat)), Jm (k + (bsum mkeEvent (l.take i) : Nat) + 1), Jm (k + (bsum mkeEvent (l.take i) : Nat) + 1 + 1), Jm (k + (bsum mkeEvent (l.take i) : Nat) + 1 + 1 + 1), .val v1, Jm (k + (bsum mkeEvent (l.take i) : Nat) + 1 + 1 + 1 + 1 + (bsum one l[i].rests : Nat)), Jm (k + (bsum mkeEvent (l.take i) : Nat) + 1 + 1 + 1 + 1 + (bsum one l[i].rests : Nat) + 1), .val v2, .ows 4 1 (l[i].votes.map eB)] (set_get (by simp only [List.length_set]; rw [hlen]; exact hi')) ?_
    conv => whnf
    intro v3
    conv => whnf
    refine CallN.gen [true, false] _ _ _ rfl (markBoolS_out l[i].votes (k + (bsum mkeEvent (l.take i) : Nat) + 1 + 1 + 1 + 1 + (bsum one l[i].rests : Nat) + 1 + 1 + (bsum mkeClaim l[i].proof.claims : Nat)) (by omega) (by omega)) rfl rfl _ rfl ?_
    conv => whnf
    refine Arith.fit (wrap_fit (z := (i : Int) + 1) (by omega) (by simp only [maxLen] at hL; omega)) ?_
    conv => whnf
    refine Gh.closes 0 i 4 1 rfl (set_get (by simp only [List.length_set]; rw [hlen]; exact hi')) rfl rfl rfl ?_
    refine Gh.close 0 i 7 2 rfl (set_get (by simp only [List.length_set]; rw [hlen]; exact hi')) rfl rfl rfl ?_
    refine Gh.closes 0 i 8 3 rfl (set_get (by simp only [List.length_set]; rw [hlen]; exact hi')) rfl rfl rfl ?_
    refine Gh.go ⟨i + 1, hi', (by show l.length - (i + 1) < l.length - i; omega), ⟨⟨rfl, rfl⟩, ⟨?_, rfl⟩, trivial⟩, ⟨⟨rfl, rfl⟩, trivial⟩, ⟨⟨?_, rfl⟩, trivial⟩⟩
    · refine congrArg I ?_
      show k + (bsum mkeEvent (l.take i) : Nat) + 1 + 1 + 1 + 1 + (bsum one l[i].rests : Nat) + 1 + 1 + (bsum mkeClaim l[i].proof.claims : Nat) + (bsum one l[i].votes : Nat) = k + (bsum mkeEvent (l.take (i + 1)) : Nat)
      omega
    · refine congrArg (Blk.orow none 147 9) ?_
      refine hfL_row (d := k + (bsum mkeEvent (l.take i) : Nat)) (r := [Jm (k + (bsum mkeEvent (l.take i) : Nat)), Jm (k + (bsum mkeEvent (l.take i) : Nat) + 1), Jm (k + (bsum mkeEvent (l.take i) : Nat) + 1 + 1), Jm (k + (bsum mkeEvent (l.take i) : Nat) + 1 + 1 + 1), .ows 2 1 ((mkdL mk1 one (l[i].rests) (k + (bsum mkeEvent (l.take i) : Nat) + 1 + 1 + 1 + 1)).map eI), Jm (k + (bsum mkeEvent (l.take i) : Nat) + 1 + 1 + 1 + 1 + (bsum one (l[i].rests) : Nat)), Jm (k + (bsum mkeEvent (l.take i) : Nat) + 1 + 1 + 1 + 1 + (bsum one (l[i].rests) : Nat) + 1), .own 236 9 ((mkdL mkdClaim mkeClaim (l[i].proof.claims) (k + (bsum mkeEvent (l.take i) : Nat) + 1 + 1 + 1 + 1 + (bsum one (l[i].rests) : Nat) + 1 + 1)).map ownClaim), .ows 4 1 ((mkdL mkB one (l[i].votes) (k + (bsum mkeEvent (l.take i) : Nat) + 1 + 1 + 1 + 1 + (bsum one (l[i].rests) : Nat) + 1 + 1 + (bsum mkeClaim (l[i].proof.claims) : Nat))).map eB)]) hi' rfl rfl ?_
      rw [Int.toNat_natCast]
      repeat rw [List.set_set]
      all_goals rfl
  · have h : ¬ (i : Int) < (((hfL mkdEvent mkeEvent l k i).map ownEvent).length : Nat) := of_decide_eq_false h
    have : i = l.length := by omega
    subst this
    refine RetX.mk ?_ ⟨?_, trivial⟩
    · refine congrArg I ?_
      rw [List.take_length]
    · rw [← hfL_end]
      rfl
theorem heldEventS_mk (l : List XEvent) (k : Int) (h0 : 0 ≤ k) (hk : k + (bsum mkeEvent l : Nat) ≤ 4611686018427387904) : CallF Tryz.prog 27 [.c (.ro 9 ((mkdL mkdEvent mkeEvent l k).map encEvent)), I k] (I (k + (bsum mkeEvent l : Nat))) := by
  have hl := mkdL_len (f := mkdEvent) (c := mkeEvent) l k
  have hs : ∀ i, (hi : i < l.length) → bsum mkeEvent (l.take (i + 1)) = bsum mkeEvent (l.take i) + (6 + bsum one l[i].rests + bsum mkeClaim l[i].proof.claims + bsum one l[i].votes) ∧ bsum mkeEvent (l.take (i + 1)) ≤ bsum mkeEvent l := fun i hi => by
    have h1 := bsum_take (f := mkeEvent) (List.getElem?_eq_getElem hi)
    have h2 := bsum_le (f := mkeEvent) l (i + 1)
    have h3 : mkeEvent l[i] = 6 + bsum one l[i].rests + bsum mkeClaim l[i].proof.claims + bsum one l[i].votes := mkeEvent_eq _
    omega
  have hix : ∀ (i : Nat) (c : Int) (hi : i < l.length), c = k + (bsum mkeEvent (l.take i) : Nat) → ((mkdL mkdEvent mkeEvent l k).map encEvent)[i]? = some [Jm (c), Jm (c + 1), Jm (c + 1 + 1), Jm (c + 1 + 1 + 1), .ro 1 ((mkdL mk1 one (l[i].rests) (c + 1 + 1 + 1 + 1)).map eI), Jm (c + 1 + 1 + 1 + 1 + (bsum one (l[i].rests) : Nat)), Jm (c + 1 + 1 + 1 + 1 + (bsum one (l[i].rests) : Nat) + 1), .ro 9 ((mkdL mkdClaim mkeClaim (l[i].proof.claims) (c + 1 + 1 + 1 + 1 + (bsum one (l[i].rests) : Nat) + 1 + 1)).map encClaim), .ro 1 ((mkdL mkB one (l[i].votes) (c + 1 + 1 + 1 + 1 + (bsum one (l[i].rests) : Nat) + 1 + 1 + (bsum mkeClaim (l[i].proof.claims) : Nat))).map eB)] := fun i c hi hc => mkdL_idx hi hc rfl
  refine callF_of_vc htb hm Tryz.func27 rfl rfl rfl rfl (ann := fun _ => none) (gh := fun _ => false) ?_
  repeat' ((conv => whnf); first | (guard_target = Done _; refine Done.mk ?_; first | ((have e : i = l.length := (by omega); have h9 := ha.2; rw [e, List.take_length] at h9; rw [h9]; rfl); done) | skip) | (guard_target = RetX _ _; refine RetX.mk ?_ ?_) | (guard_target =~ LoopE 2 _ _ _ _ _ _; refine LoopE.mk { α := Nat × Int, keep := [0], ov := fun ⟨i, c⟩ => [(1, I c), (5, I (i : Nat))], φ := fun ⟨i, c⟩ => i ≤ l.length ∧ c = k + (bsum mkeEvent (l.take i) : Nat), μ := fun ⟨i, c⟩ => l.length - i } (LoopN.mk ((0, k) : Nat × Int) (by exact ⟨Nat.zero_le _, by simp [bsum]⟩) (by (repeat' first | exact trivial | exact rfl | refine ⟨?_, ?_⟩); done) (by (repeat' first | exact trivial | exact rfl | refine ⟨?_, ?_⟩); done) (by (repeat' first | exact trivial | exact rfl | refine ⟨?_, ?_⟩ | (simp only [List.map_append, List.map_cons, List.map_nil, List.map_set]; first | done | rfl)); done) (fun A ha => ?_) (by intro A; first | rfl | (obtain ⟨_, _⟩ := A; rfl) | (obtain ⟨_, _, _⟩ := A; rfl))); obtain ⟨i, c⟩ := A; have ha : i ≤ l.length ∧ c = k + (bsum mkeEvent (l.take i) : Nat) := ha; have hsi := hs i; have hc2 := ha.2; have hb9 := bsum_le (f := mkeEvent) l i) | (guard_target = Gh _ _ _ _ _; refine Gh.go ⟨((i + 1, c + 1 + 1 + 1 + 1 + (bsum one l[i].rests : Nat) + 1 + 1 + (bsum mkeClaim l[i].proof.claims : Nat) + (bsum one l[i].votes : Nat)) : Nat × Int), (by (have hi9 : i < l.length := (by omega); have h9 := hsi hi9; refine ⟨hi9, ?_⟩; show c + 1 + 1 + 1 + 1 + (bsum one l[i].rests : Nat) + 1 + 1 + (bsum mkeClaim l[i].proof.claims : Nat) + (bsum one l[i].votes : Nat) = k + (bsum mkeEvent (l.take (i + 1)) : Nat); omega)), (by first | (show _ < _; simp only []; omega) | omega | (simp; omega)), (by (repeat' first | exact trivial | exact rfl | refine ⟨?_, ?_⟩); done), (by (repeat' first | exact trivial | exact rfl | refine ⟨?_, ?_⟩); done), (by (repeat' first | exact trivial | exact rfl | refine ⟨?_, ?_⟩ | (simp only [List.map_append, List.map_cons, List.map_nil, List.map_set]; first | done | rfl)); done)⟩) | (guard_target = Fact _ _; refine Fact.mk fun hL => ?_; (try simp only [List.length_map, maxLen] at hL)) | (guard_target = Branch _ _ _; (first | refine Branch.dec ?_ ?_ | refine Branch.beq ?_ ?_ | refine Branch.bne ?_ ?_ | refine Branch.ndec ?_ ?_ | refine Branch.nb ?_ ?_ | refine Branch.mk ?_ ?_) <;> intro h <;> (try simp only [List.length_map] at h) <;> (try omega) <;> (try contradiction)) | (guard_target = CallN _ 80 _ _ _ _; refine CallN.pure _ _ rfl (heldInt64S_mk l[i].rests (c + 1 + 1 + 1 + 1) (by omega) (by have h9 := hsi (by omega); omega)) rfl _ rfl ?_) | (guard_target = CallN _ 81 _ _ _ _; refine CallN.pure _ _ rfl (heldClaimS_mk l[i].proof.claims (c + 1 + 1 + 1 + 1 + (bsum one l[i].rests : Nat) + 1 + 1) (by omega) (by have h9 := hsi (by omega); omega)) rfl _ rfl ?_) | (guard_target = CallN _ 82 _ _ _ _; refine CallN.pure _ _ rfl (heldBoolS_mk l[i].votes (c + 1 + 1 + 1 + 1 + (bsum one l[i].rests : Nat) + 1 + 1 + (bsum mkeClaim l[i].proof.claims : Nat)) (by omega) (by have h9 := hsi (by omega); omega)) rfl _ rfl ?_) | (guard_target = Arith _ _ _; refine Arith.fit (wrap_fit (by (first | omega | (have h9 := hsi (by omega); omega) | (simp only [List.length_map]; omega))) (by (first | omega | (have h9 := hsi (by omega); omega) | (simp only [List.length_map]; omega)))) ?_) | (guard_target = Arith _ _ _; refine Arith.fit (by decide) ?_) | (guard_target = Index _ _ _; first | refine Index.mk _ (hix i c (by omega) ha.2) ?_ | refine Index.mk _ (hix i _ (by omega) ha.2) ?_ | refine Index.mk _ (idx_map (by omega)) ?_) | (guard_target = Need (_ = true) _; refine Need.mk (by first | kernel_rfl | rfl) ?_) | (guard_target = LinkV _ _ _; first  | refine LinkV.no ?_) | (guard_target = GhO _ _ _ _; refine GhO.go ?_) | (guard_target = Need _ _; refine Need.mk (by first  | omega | (simp only [List.length_map]; omega)) ?_))
end Go.Proofs.YtmpcfplelpdbhaaGreat
