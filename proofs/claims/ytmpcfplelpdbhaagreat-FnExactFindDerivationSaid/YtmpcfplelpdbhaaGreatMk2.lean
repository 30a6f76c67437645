/- Contracts of the laws' own functions mark.., held..: what is marked, and that it is held. No conditions. -/
import Derived.Test.YtmpcfplelpdbhaaGreatXa
namespace Go.Proofs.YtmpcfplelpdbhaaGreat
open Go Go.KA Go.Proofs
set_option maxHeartbeats 16000000
set_option maxRecDepth 100000
theorem CallX.drop {P : Program} {f : Nat} {args : List SV} {outs : List (Option (List CV))} {r : SV} (h : CallX P f args outs r) : CallX P f args [] r := by
  refine ⟨h.1, fun w ok vs fs h1 h2 h3 h4 => (h.2 w ok vs fs h1 h2 h3 h4).mono ?_⟩
  rintro e w' ⟨v, fr, fo, he, hg, hn, hb, hr, ho⟩
  refine ⟨v, fr, [], he, hg, by rw [List.append_nil]; exact (List.nodup_append.1 hn).1, fun b hb' => hb b (by simp at hb'; simp [hb']), hr.mono' fun b hb' => ⟨hb'.1, hb'.2.1, fun hm => hb'.2.2 (by simp at hm; simp [hm])⟩, .nil⟩
def one {α : Type} (_ : α) : Nat := 1
theorem set_get {α : Type} {l : List α} {i : Nat} {x : α} (h : i < l.length) : (l.set i x)[i]? = some x := by
  simp [h]
def mkdL {α : Type} (f : α → Int → α) (c : α → Nat) : List α → Int → List α
  | [], _ => []
  | x :: xs, k => f x k :: mkdL f c xs (k + (c x : Nat))
section
variable {α : Type} {f : α → Int → α} {c : α → Nat} {g : α → List CV}
theorem mkdL_len : ∀ (l : List α) (k : Int), (mkdL f c l k).length = l.length
  | [], _ => rfl
  | x :: xs, k => by
    simp only [mkdL, List.length_cons]
    rw [mkdL_len xs]
theorem mkdL_get : ∀ {l : List α} {k : Int} {i : Nat} (hi : i < l.length), (mkdL f c l k)[i]'(by rw [mkdL_len]; exact hi) = f l[i] (k + (bsum c (l.take i) : Nat))
  | x :: xs, k, 0, _ => by
    simp [mkdL, bsum]
  | x :: xs, k, i + 1, h => by
    simp only [mkdL, List.getElem_cons_succ, List.take_succ_cons]
    rw [mkdL_get (by simpa using h)]
    congr 1
    show _ = k + ((c x + bsum c (xs.take i) : Nat) : Int)
    omega
def hfL (f : α → Int → α) (c : α → Nat) (l : List α) (k : Int) (i : Nat) : List α := (mkdL f c l k).take i ++ l.drop i
theorem hfL_len (l : List α) (k : Int) (i : Nat) : (hfL f c l k i).length = l.length := by
  unfold hfL
  rw [List.length_append, List.length_take, List.length_drop, mkdL_len]
  omega
theorem hfL_get {l : List α} {k : Int} {i : Nat} (hi : i < l.length) : ((hfL f c l k i).map g)[i]? = some (g l[i]) := by
  rw [List.getElem?_map]
  have h : (hfL f c l k i)[i]? = some l[i] := by
    unfold hfL
    rw [List.getElem?_append_right (by rw [List.length_take, mkdL_len]; omega), List.length_take, mkdL_len, List.getElem?_drop]
    rw [show i + (i - min i l.length) = i by omega, List.getElem?_eq_getElem hi]
  rw [h]
  rfl
theorem hfL_set {l : List α} {k : Int} {i : Nat} (hi : i < l.length) : (hfL f c l k i).set i (f l[i] (k + (bsum c (l.take i) : Nat))) = hfL f c l k (i + 1) := by
  have hm : i < (mkdL f c l k).length := by rw [mkdL_len]; exact hi
  unfold hfL
  rw [List.set_append_right i _ (by rw [List.length_take]; omega), List.length_take, show i - min i (mkdL f c l k).length = 0 by omega, List.drop_eq_getElem_cons hi, List.set_cons_zero, List.take_succ_eq_append_getElem hm, List.append_assoc, mkdL_get hi]
  rfl
theorem hfL_end {l : List α} {k : Int} : hfL f c l k l.length = mkdL f c l k := by
  unfold hfL
  rw [List.drop_length, List.append_nil, List.take_of_length_le (by rw [mkdL_len]; exact Nat.le_refl _)]
theorem mkdL_idx {l : List α} {k d : Int} {i : Nat} {r : List CV} (hi : i < l.length) (hc : d = k + (bsum c (l.take i) : Nat)) (hr : g (f l[i] d) = r) : ((mkdL f c l k).map g)[i]? = some r := by
  rw [List.getElem?_map, List.getElem?_eq_getElem (by rw [mkdL_len]; exact hi), mkdL_get hi, ← hc, ← hr]
  rfl
theorem hfL_row {l : List α} {k d : Int} {i : Nat} {r : List CV} {R : List (List CV)} (hi : i < l.length) (hd : d = k + (bsum c (l.take i) : Nat)) (hr : r = g (f l[i] d)) (hR : R = ((hfL f c l k i).map g).set i r) : R = (hfL f c l k (i + 1)).map g := by
  rw [hR, ← hfL_set hi, List.map_set, hr, hd]
end
abbrev mk1 (_ : Int) (k : Int) : Int := k
abbrev Jm (n : Int) : CV := .val (.int .i64 n)
abbrev mkB (_ : Bool) (k : Int) : Bool := k.tmod 3 == 0
mutual
def mkeExpr : XExpr → Nat
  | .mk _ _ kids => 2 + mkeExprS kids
def mkeExprS : List XExpr → Nat
  | [] => 0
  | x :: xs => mkeExpr x + mkeExprS xs
end
theorem mkeExprS_eq : ∀ l : List XExpr, mkeExprS l = bsum mkeExpr l
  | [] => rfl
  | x :: xs => by simp only [mkeExprS, bsum]; rw [mkeExprS_eq xs]
theorem mkeExpr_eq (x : XExpr) : mkeExpr x = 2 + bsum mkeExpr x.kids := by
  cases x
  simp only [mkeExpr, mkeExprS_eq]
  rfl
mutual
def mkdExpr : XExpr → Int → XExpr
  | .mk _ _ kids, k => .mk k (k + 1) (mkdExprS kids (k + 1 + 1))
def mkdExprS : List XExpr → Int → List XExpr
  | [], _ => []
  | x :: xs, k => mkdExpr x k :: mkdExprS xs (k + (mkeExpr x : Nat))
end
theorem mkdExprS_eq : ∀ (l : List XExpr) (k : Int), mkdExprS l k = mkdL mkdExpr mkeExpr l k
  | [], _ => rfl
  | x :: xs, k => by simp only [mkdExprS, mkdL]; rw [mkdExprS_eq xs]
theorem mkdExpr_eq (x : XExpr) (k : Int) : mkdExpr x k = (XExpr.mk k (k + 1) (mkdL mkdExpr mkeExpr x.kids (k + 1 + 1))) := by
  cases x
  simp only [mkdExpr, mkdExprS_eq]
  try rfl
def mkePremise (x : XPremise) : Nat := 5 + bsum mkeExpr x.pre.kids + bsum mkeExpr x.post.kids
theorem mkePremise_eq (x : XPremise) : mkePremise x = 5 + bsum mkeExpr x.pre.kids + bsum mkeExpr x.post.kids := rfl
def mkdPremise (x : XPremise) (k : Int) : XPremise := (XPremise.mk (XExpr.mk k (k + 1) (mkdL mkdExpr mkeExpr x.pre.kids (k + 1 + 1))) (k + 1 + 1 + (bsum mkeExpr x.pre.kids : Nat)) (XExpr.mk (k + 1 + 1 + (bsum mkeExpr x.pre.kids : Nat) + 1) (k + 1 + 1 + (bsum mkeExpr x.pre.kids : Nat) + 1 + 1) (mkdL mkdExpr mkeExpr x.post.kids (k + 1 + 1 + (bsum mkeExpr x.pre.kids : Nat) + 1 + 1 + 1))))
theorem markExprS_outA (l : List XExpr) (k : Int) (h0 : 0 ≤ k) (hk : k + (bsum mkeExpr l : Nat) ≤ 4611686018427387904) (hx : ∀ x ∈ l, ∀ k : Int, 0 ≤ k → k + (bsum mkeExpr x.kids : Nat) ≤ 4611686018427387904 → CallX Tryz.prog 51 [.c (.own 37 3 (x.kids.map ownExpr)), I k] [some [.own 37 3 ((mkdL mkdExpr mkeExpr x.kids k).map ownExpr)], none] (I (k + (bsum mkeExpr x.kids : Nat)))) : CallX Tryz.prog 51 [.c (.own 37 3 (l.map ownExpr)), I k] [some [.own 37 3 ((mkdL mkdExpr mkeExpr l k).map ownExpr)], none] (I (k + (bsum mkeExpr l : Nat))) := by
  refine callX_of_vc htb hm Tryz.func51 rfl rfl rfl rfl (ann := fun n => match n with | 2 => some { α := Nat, keep := [0], ov := fun a => [(5, I a), (1, I (k + (bsum mkeExpr (l.take a) : Nat)))], hv := fun a => [(0, .orow none 37 3 ((hfL mkdExpr mkeExpr l k a).map ownExpr))], φ := fun a => a ≤ l.length, μ := fun a => l.length - a } | _ => none) (gh := fun _ => false) ?_
  refine LoopN.mk (0 : Nat) (Nat.zero_le _) ⟨⟨rfl, rfl⟩, ⟨?_, rfl⟩, trivial⟩ ⟨⟨rfl, rfl⟩, trivial⟩ ⟨⟨rfl, rfl⟩, trivial⟩ ?_ (fun _ => rfl)
  · refine congrArg I ?_
    simp [bsum]
  intro (i : Nat) (hi : i ≤ l.length)
  have hlen : ((hfL mkdExpr mkeExpr l k i).map ownExpr).length = l.length := by rw [List.length_map, hfL_len]
  refine Fact.mk fun (hL : ((hfL mkdExpr mkeExpr l k i).map ownExpr).length ≤ maxLen) => ?_
  refine Branch.mk (fun h => ?_) (fun h => ?_)
  · have h : (i : Int) < (((hfL mkdExpr mkeExpr l k i).map ownExpr).length : Nat) := of_decide_eq_true h
    have hi' : i < l.length := by omega
    have hs := bsum_take (f := mkeExpr) (List.getElem?_eq_getElem hi')
    have hle := bsum_le (f := mkeExpr) l (i + 1)
    have hf : mkeExpr l[i] = 2 + bsum mkeExpr l[i].kids := mkeExpr_eq _
    have hg : ((hfL mkdExpr mkeExpr l k i).map ownExpr)[i]? = some [.val (.int .i64 l[i].kind), .val (.int .i64 l[i].num), .own 37 3 (l[i].kids.map ownExpr)] := (hfL_get hi').trans (congrArg some (ownExpr_eq _))
    conv => whnf
    refine Need.mk ⟨by omega, by rw [hlen]; exact hi'⟩ ?_
    refine Index.mk [.val (.int .i64 l[i].kind), .val (.int .i64 l[i].num), .own 37 3 (l[i].kids.map ownExpr)] hg ?_
    conv => whnf
    refine Arith.fit (wrap_fit (z := k + (bsum mkeExpr (l.take i) : Nat) + 1) (by omega) (by omega)) ?_
    conv => whnf
    refine Need.mk ⟨by omega, by simp only [List.length_set]; rw [hlen]; exact hi'⟩ ?_
    refine Index.mk [Jm (k + (bsum mkeExpr (l.take i) : Nat)), .val (.int .i64 l[i].num), .own 37 3 (l[i].kids.map ownExpr)] (set_get (by rw [hlen]; exact hi')) ?_
    conv => whnf
    refine Arith.fit (wrap_fit (z := k + (bsum mkeExpr (l.take i) : Nat) + 1 + 1) (by omega) (by omega)) ?_
    conv => whnf
    refine Need.mk ⟨by omega, by simp only [List.length_set]; rw [hlen]; exact hi'⟩ ?_
    refine Index.mk [Jm (k + (bsum mkeExpr (l.take i) : Nat)), Jm (k + (bsum mkeExpr (l.take i) : Nat) + 1), .own 37 3 (l[i].kids.map ownExpr)] (set_get (by simp only [List.length_set]; rw [hlen]; exact hi')) ?_
    conv => whnf
    intro v1
    conv => whnf
    refine CallN.gen [true, false] _ _ _ rfl (hx l[i] (List.getElem_mem hi') (k + (bsum mkeExpr (l.take i) : Nat) + 1 + 1) (by omega) (by omega)) rfl rfl _ rfl ?_
    conv => whnf
    refine Arith.fit (wrap_fit (z := (i : Int) + 1) (by omega) (by simp only [maxLen] at hL; omega)) ?_
    conv => whnf
    refine Gh.close 0 i 2 1 rfl (set_get (by simp only [List.length_set]; rw [hlen]; exact hi')) rfl rfl rfl ?_
    refine Gh.go ⟨i + 1, hi', (by show l.length - (i + 1) < l.length - i; omega), ⟨⟨rfl, rfl⟩, ⟨?_, rfl⟩, trivial⟩, ⟨⟨rfl, rfl⟩, trivial⟩, ⟨⟨?_, rfl⟩, trivial⟩⟩
    · refine congrArg I ?_
      show k + (bsum mkeExpr (l.take i) : Nat) + 1 + 1 + (bsum mkeExpr l[i].kids : Nat) = k + (bsum mkeExpr (l.take (i + 1)) : Nat)
      omega
    · refine congrArg (Blk.orow none 37 3) ?_
      refine hfL_row (d := k + (bsum mkeExpr (l.take i) : Nat)) (r := [Jm (k + (bsum mkeExpr (l.take i) : Nat)), Jm (k + (bsum mkeExpr (l.take i) : Nat) + 1), .own 37 3 ((mkdL mkdExpr mkeExpr (l[i].kids) (k + (bsum mkeExpr (l.take i) : Nat) + 1 + 1)).map ownExpr)]) hi' rfl (by rw [mkdExpr_eq, ownExpr_eq]; rfl) ?_
      rw [Int.toNat_natCast]
      repeat rw [List.set_set]
      all_goals rfl
  · have h : ¬ (i : Int) < (((hfL mkdExpr mkeExpr l k i).map ownExpr).length : Nat) := of_decide_eq_false h
    have : i = l.length := by omega
    subst this
    refine RetX.mk ?_ ⟨?_, trivial⟩
    · refine congrArg I ?_
      rw [List.take_length]
    · rw [← hfL_end]
      rfl
theorem markExprS_out : ∀ (l : List XExpr) (k : Int), 0 ≤ k → k + (bsum mkeExpr l : Nat) ≤ 4611686018427387904 → CallX Tryz.prog 51 [.c (.own 37 3 (l.map ownExpr)), I k] [some [.own 37 3 ((mkdL mkdExpr mkeExpr l k).map ownExpr)], none] (I (k + (bsum mkeExpr l : Nat)))
  | l, k, h0, hk => markExprS_outA l k h0 hk fun x _hm k h0 hk => markExprS_out x.kids k h0 hk
  termination_by l => SizeOf.sizeOf l
  decreasing_by
    have h1 := List.sizeOf_lt_of_mem _hm
    have h2 : SizeOf.sizeOf x.kids < SizeOf.sizeOf x := by
      cases x
      simp only [XExpr.mk.sizeOf_spec, XExpr.kids]
      omega
    omega
theorem heldExprS_mkA (l : List XExpr) (k : Int) (h0 : 0 ≤ k) (hk : k + (bsum mkeExpr l : Nat) ≤ 4611686018427387904) (hx : ∀ x ∈ l, ∀ k : Int, 0 ≤ k → k + (bsum mkeExpr x.kids : Nat) ≤ 4611686018427387904 → CallF Tryz.prog 118 [.c (.ro 3 ((mkdL mkdExpr mkeExpr x.kids k).map encExpr)), I k] (I (k + (bsum mkeExpr x.kids : Nat)))) : CallF Tryz.prog 118 [.c (.ro 3 ((mkdL mkdExpr mkeExpr l k).map encExpr)), I k] (I (k + (bsum mkeExpr l : Nat))) := by
  have hl := mkdL_len (f := mkdExpr) (c := mkeExpr) l k
  have hs : ∀ i, (hi : i < l.length) → bsum mkeExpr (l.take (i + 1)) = bsum mkeExpr (l.take i) + (2 + bsum mkeExpr l[i].kids) ∧ bsum mkeExpr (l.take (i + 1)) ≤ bsum mkeExpr l := fun i hi => by
    have h1 := bsum_take (f := mkeExpr) (List.getElem?_eq_getElem hi)
    have h2 := bsum_le (f := mkeExpr) l (i + 1)
    have h3 : mkeExpr l[i] = 2 + bsum mkeExpr l[i].kids := mkeExpr_eq _
    omega
  have hix : ∀ (i : Nat) (c : Int) (hi : i < l.length), c = k + (bsum mkeExpr (l.take i) : Nat) → ((mkdL mkdExpr mkeExpr l k).map encExpr)[i]? = some [Jm (c), Jm (c + 1), .ro 3 ((mkdL mkdExpr mkeExpr (l[i].kids) (c + 1 + 1)).map encExpr)] := fun i c hi hc => mkdL_idx hi hc (by rw [mkdExpr_eq, encExpr_eq]; rfl)
  refine callF_of_vc htb hm Tryz.func118 rfl rfl rfl rfl (ann := fun _ => none) (gh := fun _ => false) ?_
  repeat' ((conv => whnf); first | (guard_target = Done _; refine Done.mk ?_; first | ((have e : i = l.length := (by omega); have h9 := ha.2; rw [e, List.take_length] at h9; rw [h9]; rfl); done) | skip) | (guard_target = RetX _ _; refine RetX.mk ?_ ?_) | (guard_target =~ LoopE 2 _ _ _ _ _ _; refine LoopE.mk { α := Nat × Int, keep := [0], ov := fun ⟨i, c⟩ => [(1, I c), (5, I (i : Nat))], φ := fun ⟨i, c⟩ => i ≤ l.length ∧ c = k + (bsum mkeExpr (l.take i) : Nat), μ := fun ⟨i, c⟩ => l.length - i } (LoopN.mk ((0, k) : Nat × Int) (by exact ⟨Nat.zero_le _, by simp [bsum]⟩) (by (repeat' ((conv => whnf) <;> (first | exact trivial | refine ⟨?_, ?_⟩ | kernel_rfl))); done) (by (repeat' ((conv => whnf) <;> (first | exact trivial | refine ⟨?_, ?_⟩ | kernel_rfl))); done) (by (repeat' ((conv => whnf) <;> (first | exact trivial | refine ⟨?_, ?_⟩ | exact rfl | (simp only [List.map_append, List.map_cons, List.map_nil, List.map_set]; first | done | rfl)))); done) (fun A ha => ?_) (by intro A; first | rfl | (obtain ⟨_, _⟩ := A; rfl) | (obtain ⟨_, _, _⟩ := A; rfl))); obtain ⟨i, c⟩ := A; have ha : i ≤ l.length ∧ c = k + (bsum mkeExpr (l.take i) : Nat) := ha; have hsi := hs i; have hc2 := ha.2; have hb9 := bsum_le (f := mkeExpr) l i) | (guard_target = Gh _ _ _ _ _; refine Gh.go ⟨((i + 1, c + 1 + 1 + (bsum mkeExpr l[i].kids : Nat)) : Nat × Int), (by (have hi9 : i < l.length := (by omega); have h9 := hsi hi9; refine ⟨hi9, ?_⟩; show c + 1 + 1 + (bsum mkeExpr l[i].kids : Nat) = k + (bsum mkeExpr (l.take (i + 1)) : Nat); omega)), (by first | (show _ < _; simp only []; omega) | omega | (simp; omega)), (by (repeat' ((conv => whnf) <;> (first | exact trivial | refine ⟨?_, ?_⟩ | kernel_rfl))); done), (by (repeat' ((conv => whnf) <;> (first | exact trivial | refine ⟨?_, ?_⟩ | kernel_rfl))); done), (by (repeat' ((conv => whnf) <;> (first | exact trivial | refine ⟨?_, ?_⟩ | exact rfl | (simp only [List.map_append, List.map_cons, List.map_nil, List.map_set]; first | done | rfl)))); done)⟩) | (guard_target = Fact _ _; refine Fact.mk fun hL => ?_; (try simp only [List.length_map, maxLen] at hL)) | (guard_target = Branch _ _ _; (first | refine Branch.dec ?_ ?_ | refine Branch.beq ?_ ?_ | refine Branch.bne ?_ ?_ | refine Branch.ndec ?_ ?_ | refine Branch.nb ?_ ?_ | refine Branch.mk ?_ ?_) <;> intro h <;> (try simp only [List.length_map] at h) <;> (try omega) <;> (try contradiction)) | (guard_target = CallN _ 118 _ _ _ _; refine CallN.pure _ _ rfl (hx l[i] (List.getElem_mem (by omega)) (c + 1 + 1) (by omega) (by have h9 := hsi (by omega); omega)) rfl _ rfl ?_) | (guard_target = Arith _ _ _; refine Arith.fit (wrap_fit (by (first | omega | (have h9 := hsi (by omega); omega) | (simp only [List.length_map]; omega))) (by (first | omega | (have h9 := hsi (by omega); omega) | (simp only [List.length_map]; omega)))) ?_) | (guard_target = Arith _ _ _; refine Arith.fit (by decide) ?_) | (guard_target = Index _ _ _; first | refine Index.mk _ (hix i c (by omega) ha.2) ?_ | refine Index.mk _ (hix i _ (by omega) ha.2) ?_ | refine Index.mk _ (idx_map (by omega)) ?_) | (guard_target = Need (_ = true) _; refine Need.mk (by first | kernel_rfl | rfl) ?_) | (guard_target = LinkV _ _ _; first  | refine LinkV.no ?_) | (guard_target = GhO _ _ _ _; refine GhO.go ?_) | (guard_target = Need _ _; refine Need.mk (by first  | omega | (simp only [List.length_map]; omega)) ?_))
theorem heldExprS_mk : ∀ (l : List XExpr) (k : Int), 0 ≤ k → k + (bsum mkeExpr l : Nat) ≤ 4611686018427387904 → CallF Tryz.prog 118 [.c (.ro 3 ((mkdL mkdExpr mkeExpr l k).map encExpr)), I k] (I (k + (bsum mkeExpr l : Nat)))
  | l, k, h0, hk => heldExprS_mkA l k h0 hk fun x _hm k h0 hk => heldExprS_mk x.kids k h0 hk
  termination_by l => SizeOf.sizeOf l
  decreasing_by
    have h1 := List.sizeOf_lt_of_mem _hm
    have h2 : SizeOf.sizeOf x.kids < SizeOf.sizeOf x := by
      cases x
      simp only [XExpr.mk.sizeOf_spec, XExpr.kids]
      omega
    omega
theorem markPremiseS_out (l : List XPremise) (k : Int) (h0 : 0 ≤ k) (hk : k + (bsum mkePremise l : Nat) ≤ 4611686018427387904) : CallX Tryz.prog 15 [.c (.own 95 7 (l.map ownPremise)), I k] [some [.own 95 7 ((mkdL mkdPremise mkePremise l k).map ownPremise)], none] (I (k + (bsum mkePremise l : Nat))) := by
  refine callX_of_vc htb hm Tryz.func15 rfl rfl rfl rfl (ann := fun n => match n with | 2 => some { α := Nat, keep := [0], ov := fun a => [(5, I a), (1, I (k + (bsum mkePremise (l.take a) : Nat)))], hv := fun a => [(0, .orow none 95 7 ((hfL mkdPremise mkePremise l k a).map ownPremise))], φ := fun a => a ≤ l.length, μ := fun a => l.length - a } | _ => none) (gh := fun _ => false) ?_
  refine LoopN.mk (0 : Nat) (Nat.zero_le _) ⟨⟨rfl, rfl⟩, ⟨?_, rfl⟩, trivial⟩ ⟨⟨rfl, rfl⟩, trivial⟩ ⟨⟨rfl, rfl⟩, trivial⟩ ?_ (fun _ => rfl)
  · refine congrArg I ?_
    simp [bsum]
  intro (i : Nat) (hi : i ≤ l.length)
  have hlen : ((hfL mkdPremise mkePremise l k i).map ownPremise).length = l.length := by rw [List.length_map, hfL_len]
  refine Fact.mk fun (hL : ((hfL mkdPremise mkePremise l k i).map ownPremise).length ≤ maxLen) => ?_
  refine Branch.mk (fun h => ?_) (fun h => ?_)
  · have h : (i : Int) < (((hfL mkdPremise mkePremise l k i).map ownPremise).length : Nat) := of_decide_eq_true h
    have hi' : i < l.length := by omega
    have hs := bsum_take (f := mkePremise) (List.getElem?_eq_getElem hi')
    have hle := bsum_le (f := mkePremise) l (i + 1)
    have hf : mkePremise l[i] = 5 + bsum mkeExpr l[i].pre.kids + bsum mkeExpr l[i].post.kids := mkePremise_eq _
    have hg : ((hfL mkdPremise mkePremise l k i).map ownPremise)[i]? = some [.val (.int .i64 l[i].pre.kind), .val (.int .i64 l[i].pre.num), .own 37 3 (l[i].pre.kids.map ownExpr), .val (.int .i64 l[i].act), .val (.int .i64 l[i].post.kind), .val (.int .i64 l[i].post.num), .own 37 3 (l[i].post.kids.map ownExpr)] := (hfL_get hi').trans (congrArg some rfl)
    conv => whnf
    refine Need.mk ⟨by omega, by rw [hlen]; exact hi'⟩ ?_
    refine Index.mk [.val (.int .i64 l[i].pre.kind), .val (.int .i64 l[i].pre.num), .own 37 3 (l[i].pre.kids.map ownExpr), .val (.int .i64 l[i].act), .val (.int .i64 l[i].post.kind), .val (.int .i64 l[i].post.num), .own 37 3 (l[i].post.kids.map ownExpr)] hg ?_
    conv => whnf
    refine Arith.fit (wrap_fit (z := k + (bsum mkePremise (l.take i) : Nat) + 1) (by omega) (by omega)) ?_
    conv => whnf
    refine Need.mk ⟨by omega, by simp only [List.length_set]; rw [hlen]; exact hi'⟩ ?_
    refine Index.mk [Jm (k + (bsum mkePremise (l.take i) : Nat)), .val (.int .i64 l[i].pre.num), .own 37 3 (l[i].pre.kids.map ownExpr), .val (.int .i64 l[i].act), .val (.int .i64 l[i].post.kind), .val (.int .i64 l[i].post.num), .own 37 3 (l[i].post.kids.map ownExpr)] (set_get (by rw [hlen]; exact hi')) ?_
    conv => whnf
    refine Arith.fit (wrap_fit (z := k + (bsum mkePremise (l.take i) : Nat) + 1 + 1) (by omega) (by omega)) ?_
    conv => whnf
    refine Need.mk ⟨by omega, by simp only [List.length_set]; rw [hlen]; exact hi'⟩ ?_
    refine Index.mk [Jm (k + (bsum mkePremise (l.take i) : Nat)), Jm (k + (bsum mkePremise (l.take i) : Nat) + 1), .own 37 3 (l[i].pre.kids.map ownExpr), .val (.int .i64 l[i].act), .val (.int .i64 l[i].post.kind), .val (.int .i64 l[i].post.num), .own 37 3 (l[i].post.kids.map ownExpr)] (set_get (by simp only [List.length_set]; rw [hlen]; exact hi')) ?_
    conv => whnf
    intro v1
    conv => whnf
    refine CallN.gen [true, false] _ _ _ rfl (markExprS_out l[i].pre.kids (k + (bsum mkePremise (l.take i) : Nat) + 1 + 1) (by omega) (by omega)) rfl rfl _ rfl ?_
    conv => whnf
    refine Need.mk ⟨by omega, by simp only [List.length_set]; rw [hlen]; exact hi'⟩ ?_
    refine Index.mk [Jm (k + (bsum mkePremise (l.take i) : Nat)), Jm (k + (bsum mkePremise (l.take i) : Nat) + 1), .val v1, .val (.int .i64 l[i].act), .val (.int .i64 l[i].post.kind), .val (.int .i64 l[i].post.num), .own 37 3 (l[i].post.kids.map ownExpr)] (set_get (by simp only [List.length_set]; rw [hlen]; exact hi')) ?_
    conv => whnf
    refine Arith.fit (wrap_fit (z := k + (bsum mkePremise (l.take i) : Nat) + 1 + 1 + (bsum mkeExpr l[i].pre.kids : Nat) + 1) (by omega) (by omega)) ?_
    conv => whnf
    refine Need.mk ⟨by omega, by simp only [List.length_set]; rw [hlen]; exact hi'⟩ ?_
    refine Index.mk [Jm (k + (bsum mkePremise (l.take i) : Nat)), Jm (k + (bsum mkePremise (l.take i) : Nat) + 1), .val v1, Jm (k + (bsum mkePremise (l.take i) : Nat) + 1 + 1 + (bsum mkeExpr l[i].pre.kids : Nat)), .val (.int .i64 l[i].post.kind), .val (.int .i64 l[i].post.num), .own 37 3 (l[i].post.kids.map ownExpr)] (set_get (by simp only [List.length_set]; rw [hlen]; exact hi')) ?_
    conv => whnf
    refine Arith.fit (wrap_fit (z := k + (bsum mkePremise (l.take i) : Nat) + 1 + 1 + (bsum mkeExpr l[i].pre.kids : Nat) + 1 + 1) (by omega) (by omega)) ?_
    conv => whnf
    refine Need.mk ⟨by omega, by simp only [List.length_set]; rw [hlen]; exact hi'⟩ ?_
    refine Index.mk [Jm (k + (bsum mkePremise (l.take i) : Nat)), Jm (k + (bsum mkePremise (l.take i) : Nat) + 1), .val v1, Jm (k + (bsum mkePremise (l.take i) : Nat) + 1 + 1 + (bsum mkeExpr l[i].pre.kids : Nat)), Jm (k + (bsum mkePremise (l.take i) : Nat) + 1 + 1 + (bsum mkeExpr l[i].pre.kids : Nat) + 1), .val (.int .i64 l[i].post.num), .own 37 3 (l[i].post.kids.map ownExpr)] (set_get (by simp only [List.length_set]; rw [hlen]; exact hi')) ?_
    conv => whnf
    refine Arith.fit (wrap_fit (z := k + (bsum mkePremise (l.take i) : Nat) + 1 + 1 + (bsum mkeExpr l[i].pre.kids : Nat) + 1 + 1 + 1) (by omega) (by omega)) ?_
    conv => whnf
    refine Need.mk ⟨by omega, by simp only [List.length_set]; rw [hlen]; exact hi'⟩ ?_
    refine Index.mk [Jm (k + (bsum mkePremise (l.take i) : Nat)), Jm (k + (bsum mkePremise (l.take i) : Nat) + 1), .val v1, Jm (k + (bsum mkePremise (l.take i) : Nat) + 1 + 1 + (bsum mkeExpr l[i].pre.kids : Nat)), Jm (k + (bsum mkePremise (l.take i) : Nat) + 1 + 1 + (bsum mkeExpr l[i].pre.kids : Nat) + 1), Jm (k + (bsum mkePremise (l.take i) : Nat) + 1 + 1 + (bsum mkeExpr l[i].pre.kids : Nat) + 1 + 1), .own 37 3 (l[i].post.kids.map ownExpr)] (set_get (by simp only [List.length_set]; rw [hlen]; exact hi')) ?_
    conv => whnf
    intro v2
    conv => whnf
    refine CallN.gen [true, false] _ _ _ rfl (markExprS_out l[i].post.kids (k + (bsum mkePremise (l.take i) : Nat) + 1 + 1 + (bsum mkeExpr l[i].pre.kids : Nat) + 1 + 1 + 1) (by omega) (by omega)) rfl rfl _ rfl ?_
    conv => whnf
    refine Arith.fit (wrap_fit (z := (i : Int) + 1) (by omega) (by simp only [maxLen] at hL; omega)) ?_
    conv => whnf
    refine Gh.close 0 i 2 1 rfl (set_get (by simp only [List.length_set]; rw [hlen]; exact hi')) rfl rfl rfl ?_
    refine Gh.close 0 i 6 2 rfl (set_get (by simp only [List.length_set]; rw [hlen]; exact hi')) rfl rfl rfl ?_
    refine Gh.go ⟨i + 1, hi', (by show l.length - (i + 1) < l.length - i; omega), ⟨⟨rfl, rfl⟩, ⟨?_, rfl⟩, trivial⟩, ⟨⟨rfl, rfl⟩, trivial⟩, ⟨⟨?_, rfl⟩, trivial⟩⟩
    · refine congrArg I ?_
      show k + (bsum mkePremise (l.take i) : Nat) + 1 + 1 + (bsum mkeExpr l[i].pre.kids : Nat) + 1 + 1 + 1 + (bsum mkeExpr l[i].post.kids : Nat) = k + (bsum mkePremise (l.take (i + 1)) : Nat)
      omega
    · refine congrArg (Blk.orow none 95 7) ?_
      refine hfL_row (d := k + (bsum mkePremise (l.take i) : Nat)) (r := [Jm (k + (bsum mkePremise (l.take i) : Nat)), Jm (k + (bsum mkePremise (l.take i) : Nat) + 1), .own 37 3 ((mkdL mkdExpr mkeExpr (l[i].pre.kids) (k + (bsum mkePremise (l.take i) : Nat) + 1 + 1)).map ownExpr), Jm (k + (bsum mkePremise (l.take i) : Nat) + 1 + 1 + (bsum mkeExpr (l[i].pre.kids) : Nat)), Jm (k + (bsum mkePremise (l.take i) : Nat) + 1 + 1 + (bsum mkeExpr (l[i].pre.kids) : Nat) + 1), Jm (k + (bsum mkePremise (l.take i) : Nat) + 1 + 1 + (bsum mkeExpr (l[i].pre.kids) : Nat) + 1 + 1), .own 37 3 ((mkdL mkdExpr mkeExpr (l[i].post.kids) (k + (bsum mkePremise (l.take i) : Nat) + 1 + 1 + (bsum mkeExpr (l[i].pre.kids) : Nat) + 1 + 1 + 1)).map ownExpr)]) hi' rfl rfl ?_
      rw [Int.toNat_natCast]
      repeat rw [List.set_set]
      all_goals rfl
  · have h : ¬ (i : Int) < (((hfL mkdPremise mkePremise l k i).map ownPremise).length : Nat) := of_decide_eq_false h
    have : i = l.length := by omega
    subst this
    refine RetX.mk ?_ ⟨?_, trivial⟩
    · refine congrArg I ?_
      rw [List.take_length]
    · rw [← hfL_end]
      rfl
def mkvExpr (x : XExpr) (k : Int) : XExpr := (XExpr.mk x.kind x.num (mkdL mkdExpr mkeExpr x.kids k))
theorem markExpr_out (x : XExpr) (k : Int) (h0 : 0 ≤ k) (hk : k + (bsum mkeExpr x.kids : Nat) ≤ 4611686018427387904) : CallX Tryz.prog 52 [.m [.c (.val (.int .i64 x.kind)), .c (.val (.int .i64 x.num)), .c (.own 37 3 (x.kids.map ownExpr))], I k] [some [Jm (x.kind), Jm (x.num), .own 37 3 ((mkdL mkdExpr mkeExpr x.kids k).map ownExpr)], none] (I (k + (bsum mkeExpr x.kids : Nat))) := by
  refine callX_of_vc htb hm Tryz.func52 rfl rfl rfl rfl (ann := fun _ => none) (gh := fun _ => false) ?_
  repeat' ((conv => whnf); first | (guard_target = Done _; refine Done.mk ?_) | (guard_target = RetX _ _; refine RetX.mk ?_ ?_) | (guard_target = Fact _ _; refine Fact.mk fun hL => ?_; (try simp only [List.length_map, maxLen] at hL)) | (guard_target = Branch _ _ _; (first | refine Branch.dec ?_ ?_ | refine Branch.beq ?_ ?_ | refine Branch.bne ?_ ?_ | refine Branch.ndec ?_ ?_ | refine Branch.nb ?_ ?_ | refine Branch.mk ?_ ?_) <;> intro h <;> (try simp only [List.length_map] at h) <;> (try omega) <;> (try contradiction)) | (guard_target = CallN _ 51 _ _ _ _; refine CallN.gen [true, false] _ _ _ rfl (markExprS_out x.kids (k) (by omega) (by omega)) rfl rfl _ rfl ?_) | (guard_target = Arith _ _ _; refine Arith.fit (wrap_fit (by first | omega | (simp only [List.length_map]; omega)) (by first | omega | (simp only [List.length_map]; omega))) ?_) | (guard_target = Arith _ _ _; refine Arith.fit (by decide) ?_) | (guard_target = Index _ _ _; first  | refine Index.mk _ (idx_map (by omega)) ?_) | (guard_target = Need (_ = true) _; refine Need.mk (by first | kernel_rfl | rfl) ?_) | (guard_target = LinkV _ _ _; first  | refine LinkV.no ?_) | (guard_target = GhO _ _ _ _; refine GhO.go ?_) | (guard_target = Need _ _; refine Need.mk (by first  | omega | (simp only [List.length_map]; omega)) ?_))
  all_goals first | rfl | exact ⟨rfl, trivial⟩ | trivial
theorem heldExpr_mk (x : XExpr) (k : Int) (h0 : 0 ≤ k) (hk : k + (bsum mkeExpr x.kids : Nat) ≤ 4611686018427387904) : CallF Tryz.prog 116 [.a 3 [Jm (x.kind), Jm (x.num), .ro 3 ((mkdL mkdExpr mkeExpr x.kids k).map encExpr)], I k] (I (k + (bsum mkeExpr x.kids : Nat))) := by
  refine callF_of_vc htb hm Tryz.func116 rfl rfl rfl rfl (ann := fun _ => none) (gh := fun _ => false) ?_
  repeat' ((conv => whnf); first | (guard_target = Done _; refine Done.mk ?_; first | (rfl; done) | skip) | (guard_target = RetX _ _; refine RetX.mk ?_ ?_) | (guard_target = Fact _ _; refine Fact.mk fun hL => ?_; (try simp only [List.length_map, maxLen] at hL)) | (guard_target = Branch _ _ _; (first | refine Branch.dec ?_ ?_ | refine Branch.beq ?_ ?_ | refine Branch.bne ?_ ?_ | refine Branch.ndec ?_ ?_ | refine Branch.nb ?_ ?_ | refine Branch.mk ?_ ?_) <;> intro h <;> (try simp only [List.length_map] at h) <;> (try omega) <;> (try contradiction)) | (guard_target = CallN _ 118 _ _ _ _; refine CallN.pure _ _ rfl (heldExprS_mk x.kids (k) (by omega) (by omega)) rfl _ rfl ?_) | (guard_target = Arith _ _ _; refine Arith.fit (wrap_fit (by first | omega | (simp only [List.length_map]; omega)) (by first | omega | (simp only [List.length_map]; omega))) ?_) | (guard_target = Arith _ _ _; refine Arith.fit (by decide) ?_) | (guard_target = Index _ _ _; first  | refine Index.mk _ (idx_map (by omega)) ?_) | (guard_target = Need (_ = true) _; refine Need.mk (by first | kernel_rfl | rfl) ?_) | (guard_target = LinkV _ _ _; first  | refine LinkV.no ?_) | (guard_target = GhO _ _ _ _; refine GhO.go ?_) | (guard_target = Need _ _; refine Need.mk (by first  | omega | (simp only [List.length_map]; omega)) ?_))
mutual
def mkeProg : XProg → Nat
  | .mk _ _ cond kids => 4 + bsum mkeExpr cond.kids + mkeProgS kids
def mkeProgS : List XProg → Nat
  | [] => 0
  | x :: xs => mkeProg x + mkeProgS xs
end
theorem mkeProgS_eq : ∀ l : List XProg, mkeProgS l = bsum mkeProg l
  | [] => rfl
  | x :: xs => by simp only [mkeProgS, bsum]; rw [mkeProgS_eq xs]
theorem mkeProg_eq (x : XProg) : mkeProg x = 4 + bsum mkeExpr x.cond.kids + bsum mkeProg x.kids := by
  cases x
  simp only [mkeProg, mkeProgS_eq]
  rfl
mutual
def mkdProg : XProg → Int → XProg
  | .mk _ _ cond kids, k => .mk k (k + 1) (XExpr.mk (k + 1 + 1) (k + 1 + 1 + 1) (mkdL mkdExpr mkeExpr cond.kids (k + 1 + 1 + 1 + 1))) (mkdProgS kids (k + 1 + 1 + 1 + 1 + (bsum mkeExpr cond.kids : Nat)))
def mkdProgS : List XProg → Int → List XProg
  | [], _ => []
  | x :: xs, k => mkdProg x k :: mkdProgS xs (k + (mkeProg x : Nat))
end
theorem mkdProgS_eq : ∀ (l : List XProg) (k : Int), mkdProgS l k = mkdL mkdProg mkeProg l k
  | [], _ => rfl
  | x :: xs, k => by simp only [mkdProgS, mkdL]; rw [mkdProgS_eq xs]
theorem mkdProg_eq (x : XProg) (k : Int) : mkdProg x k = (XProg.mk k (k + 1) (XExpr.mk (k + 1 + 1) (k + 1 + 1 + 1) (mkdL mkdExpr mkeExpr x.cond.kids (k + 1 + 1 + 1 + 1))) (mkdL mkdProg mkeProg x.kids (k + 1 + 1 + 1 + 1 + (bsum mkeExpr x.cond.kids : Nat)))) := by
  cases x
  simp only [mkdProg, mkdProgS_eq]
  try rfl
theorem markProgS_outA (l : List XProg) (k : Int) (h0 : 0 ≤ k) (hk : k + (bsum mkeProg l : Nat) ≤ 4611686018427387904) (hx : ∀ x ∈ l, ∀ k : Int, 0 ≤ k → k + (bsum mkeProg x.kids : Nat) ≤ 4611686018427387904 → CallX Tryz.prog 115 [.c (.own 40 6 (x.kids.map ownProg)), I k] [some [.own 40 6 ((mkdL mkdProg mkeProg x.kids k).map ownProg)], none] (I (k + (bsum mkeProg x.kids : Nat)))) : CallX Tryz.prog 115 [.c (.own 40 6 (l.map ownProg)), I k] [some [.own 40 6 ((mkdL mkdProg mkeProg l k).map ownProg)], none] (I (k + (bsum mkeProg l : Nat))) := by
  refine callX_of_vc htb hm Tryz.func115 rfl rfl rfl rfl (ann := fun n => match n with | 2 => some { α := Nat, keep := [0], ov := fun a => [(5, I a), (1, I (k + (bsum mkeProg (l.take a) : Nat)))], hv := fun a => [(0, .orow none 40 6 ((hfL mkdProg mkeProg l k a).map ownProg))], φ := fun a => a ≤ l.length, μ := fun a => l.length - a } | _ => none) (gh := fun _ => false) ?_
  refine LoopN.mk (0 : Nat) (Nat.zero_le _) ⟨⟨rfl, rfl⟩, ⟨?_, rfl⟩, trivial⟩ ⟨⟨rfl, rfl⟩, trivial⟩ ⟨⟨rfl, rfl⟩, trivial⟩ ?_ (fun _ => rfl)
  · refine congrArg I ?_
    simp [bsum]
  intro (i : Nat) (hi : i ≤ l.length)
  have hlen : ((hfL mkdProg mkeProg l k i).map ownProg).length = l.length := by rw [List.length_map, hfL_len]
  refine Fact.mk fun (hL : ((hfL mkdProg mkeProg l k i).map ownProg).length ≤ maxLen) => ?_
  refine Branch.mk (fun h => ?_) (fun h => ?_)
  · have h : (i : Int) < (((hfL mkdProg mkeProg l k i).map ownProg).length : Nat) := of_decide_eq_true h
    have hi' : i < l.length := by omega
    have hs := bsum_take (f := mkeProg) (List.getElem?_eq_getElem hi')
    have hle := bsum_le (f := mkeProg) l (i + 1)
    have hf : mkeProg l[i] = 4 + bsum mkeExpr l[i].cond.kids + bsum mkeProg l[i].kids := mkeProg_eq _
    have hg : ((hfL mkdProg mkeProg l k i).map ownProg)[i]? = some [.val (.int .i64 l[i].kind), .val (.int .i64 l[i].num), .val (.int .i64 l[i].cond.kind), .val (.int .i64 l[i].cond.num), .own 37 3 (l[i].cond.kids.map ownExpr), .own 40 6 (l[i].kids.map ownProg)] := (hfL_get hi').trans (congrArg some (ownProg_eq _))
    conv => whnf
    refine Need.mk ⟨by omega, by rw [hlen]; exact hi'⟩ ?_
    refine Index.mk [.val (.int .i64 l[i].kind), .val (.int .i64 l[i].num), .val (.int .i64 l[i].cond.kind), .val (.int .i64 l[i].cond.num), .own 37 3 (l[i].cond.kids.map ownExpr), .own 40 6 (l[i].kids.map ownProg)] hg ?_
    conv => whnf
    refine Arith.fit (wrap_fit (z := k + (bsum mkeProg (l.take i) : Nat) + 1) (by omega) (by omega)) ?_
    conv => whnf
    refine Need.mk ⟨by omega, by simp only [List.length_set]; rw [hlen]; exact hi'⟩ ?_
    refine Index.mk [Jm (k + (bsum mkeProg (l.take i) : Nat)), .val (.int .i64 l[i].num), .val (.int .i64 l[i].cond.kind), .val (.int .i64 l[i].cond.num), .own 37 3 (l[i].cond.kids.map ownExpr), .own 40 6 (l[i].kids.map ownProg)] (set_get (by rw [hlen]; exact hi')) ?_
    conv => whnf
    refine Arith.fit (wrap_fit (z := k + (bsum mkeProg (l.take i) : Nat) + 1 + 1) (by omega) (by omega)) ?_
    conv => whnf
    refine Need.mk ⟨by omega, by simp only [List.length_set]; rw [hlen]; exact hi'⟩ ?_
    refine Index.mk [Jm (k + (bsum mkeProg (l.take i) : Nat)), Jm (k + (bsum mkeProg (l.take i) : Nat) + 1), .val (.int .i64 l[i].cond.kind), .val (.int .i64 l[i].cond.num), .own 37 3 (l[i].cond.kids.map ownExpr), .own 40 6 (l[i].kids.map ownProg)] (set_get (by simp only [List.length_set]; rw [hlen]; exact hi')) ?_
    conv => whnf
    refine Arith.fit (wrap_fit (z := k + (bsum mkeProg (l.take i) : Nat) + 1 + 1 + 1) (by omega) (by omega)) ?_
    conv => whnf
    refine Need.mk ⟨by omega, by simp only [List.length_set]; rw [hlen]; exact hi'⟩ ?_
    refine Index.mk [Jm (k + (bsum mkeProg (l.take i) : Nat)), Jm (k + (bsum mkeProg (l.take i) : Nat) + 1), Jm (k + (bsum mkeProg (l.take i) : Nat) + 1 + 1), .val (.int .i64 l[i].cond.num), .own 37 3 (l[i].cond.kids.map ownExpr), .own 40 6 (l[i].kids.map ownProg)] (set_get (by simp only [List.length_set]; rw [hlen]; exact hi')) ?_
    conv => whnf
    refine Arith.fit (wrap_fit (z := k + (bsum mkeProg (l.take i) : Nat) + 1 + 1 + 1 + 1) (by omega) (by omega)) ?_
    conv => whnf
    refine Need.mk ⟨by omega, by simp only [List.length_set]; rw [hlen]; exact hi'⟩ ?_
    refine Index.mk [Jm (k + (bsum mkeProg (l.take i) : Nat)), Jm (k + (bsum mkeProg (l.take i) : Nat) + 1), Jm (k + (bsum mkeProg (l.take i) : Nat) + 1 + 1), Jm (k + (bsum mkeProg (l.take i) : Nat) + 1 + 1 + 1), .own 37 3 (l[i].cond.kids.map ownExpr), .own 40 6 (l[i].kids.map ownProg)] (set_get (by simp only [List.length_set]; rw [hlen]; exact hi')) ?_
    conv => whnf
    intro v1
    conv => whnf
    refine CallN.gen [true, false] _ _ _ rfl (markExprS_out l[i].cond.kids (k + (bsum mkeProg (l.take i) : Nat) + 1 + 1 + 1 + 1) (by omega) (by omega)) rfl rfl _ rfl ?_
    conv => whnf
    refine Need.mk ⟨by omega, by simp only [List.length_set]; rw [hlen]; exact hi'⟩ ?_
    refine Index.mk [Jm (k + (bsum mkeProg (l.take i) : Nat)), Jm (k + (bsum mkeProg (l.take i) : Nat) + 1), Jm (k + (bsum mkeProg (l.take i) : Nat) + 1 + 1), Jm (k + (bsum mkeProg (l.take i) : Nat) + 1 + 1 + 1), .val v1, .own 40 6 (l[i].kids.map ownProg)] (set_get (by simp only [List.length_set]; rw [hlen]; exact hi')) ?_
    conv => whnf
    intro v2
    conv => whnf
    refine CallN.gen [true, false] _ _ _ rfl (hx l[i] (List.getElem_mem hi') (k + (bsum mkeProg (l.take i) : Nat) + 1 + 1 + 1 + 1 + (bsum mkeExpr l[i].cond.kids : Nat)) (by omega) (by omega)) rfl rfl _ rfl ?_
    conv => whnf
    refine Arith.fit (wrap_fit (z := (i : Int) + 1) (by omega) (by simp only [maxLen] at hL; omega)) ?_
    conv => whnf
    refine Gh.close 0 i 4 1 rfl (set_get (by simp only [List.length_set]; rw [hlen]; exact hi')) rfl rfl rfl ?_
    refine Gh.close 0 i 5 2 rfl (set_get (by simp only [List.length_set]; rw [hlen]; exact hi')) rfl rfl rfl ?_
    refine Gh.go ⟨i + 1, hi', (by show l.length - (i + 1) < l.length - i; omega), ⟨⟨rfl, rfl⟩, ⟨?_, rfl⟩, trivial⟩, ⟨⟨rfl, rfl⟩, trivial⟩, ⟨⟨?_, rfl⟩, trivial⟩⟩
    · refine congrArg I ?_
      show k + (bsum mkeProg (l.take i) : Nat) + 1 + 1 + 1 + 1 + (bsum mkeExpr l[i].cond.kids : Nat) + (bsum mkeProg l[i].kids : Nat) = k + (bsum mkeProg (l.take (i + 1)) : Nat)
      omega
    · refine congrArg (Blk.orow none 40 6) ?_
      refine hfL_row (d := k + (bsum mkeProg (l.take i) : Nat)) (r := [Jm (k + (bsum mkeProg (l.take i) : Nat)), Jm (k + (bsum mkeProg (l.take i) : Nat) + 1), Jm (k + (bsum mkeProg (l.take i) : Nat) + 1 + 1), Jm (k + (bsum mkeProg (l.take i) : Nat) + 1 + 1 + 1), .own 37 3 ((mkdL mkdExpr mkeExpr (l[i].cond.kids) (k + (bsum mkeProg (l.take i) : Nat) + 1 + 1 + 1 + 1)).map ownExpr), .own 40 6 ((mkdL mkdProg mkeProg (l[i].kids) (k + (bsum mkeProg (l.take i) : Nat) + 1 + 1 + 1 + 1 + (bsum mkeExpr (l[i].cond.kids) : Nat))).map ownProg)]) hi' rfl (by rw [mkdProg_eq, ownProg_eq]; rfl) ?_
      rw [Int.toNat_natCast]
      repeat rw [List.set_set]
      all_goals rfl
  · have h : ¬ (i : Int) < (((hfL mkdProg mkeProg l k i).map ownProg).length : Nat) := of_decide_eq_false h
    have : i = l.length := by omega
    subst this
    refine RetX.mk ?_ ⟨?_, trivial⟩
    · refine congrArg I ?_
      rw [List.take_length]
    · rw [← hfL_end]
      rfl
theorem markProgS_out : ∀ (l : List XProg) (k : Int), 0 ≤ k → k + (bsum mkeProg l : Nat) ≤ 4611686018427387904 → CallX Tryz.prog 115 [.c (.own 40 6 (l.map ownProg)), I k] [some [.own 40 6 ((mkdL mkdProg mkeProg l k).map ownProg)], none] (I (k + (bsum mkeProg l : Nat)))
  | l, k, h0, hk => markProgS_outA l k h0 hk fun x _hm k h0 hk => markProgS_out x.kids k h0 hk
  termination_by l => SizeOf.sizeOf l
  decreasing_by
    have h1 := List.sizeOf_lt_of_mem _hm
    have h2 : SizeOf.sizeOf x.kids < SizeOf.sizeOf x := by
      cases x
      simp only [XProg.mk.sizeOf_spec, XProg.kids]
      omega
    omega
theorem heldProgS_mkA (l : List XProg) (k : Int) (h0 : 0 ≤ k) (hk : k + (bsum mkeProg l : Nat) ≤ 4611686018427387904) (hx : ∀ x ∈ l, ∀ k : Int, 0 ≤ k → k + (bsum mkeProg x.kids : Nat) ≤ 4611686018427387904 → CallF Tryz.prog 119 [.c (.ro 6 ((mkdL mkdProg mkeProg x.kids k).map encProg)), I k] (I (k + (bsum mkeProg x.kids : Nat)))) : CallF Tryz.prog 119 [.c (.ro 6 ((mkdL mkdProg mkeProg l k).map encProg)), I k] (I (k + (bsum mkeProg l : Nat))) := by
  have hl := mkdL_len (f := mkdProg) (c := mkeProg) l k
  have hs : ∀ i, (hi : i < l.length) → bsum mkeProg (l.take (i + 1)) = bsum mkeProg (l.take i) + (4 + bsum mkeExpr l[i].cond.kids + bsum mkeProg l[i].kids) ∧ bsum mkeProg (l.take (i + 1)) ≤ bsum mkeProg l := fun i hi => by
    have h1 := bsum_take (f := mkeProg) (List.getElem?_eq_getElem hi)
    have h2 := bsum_le (f := mkeProg) l (i + 1)
    have h3 : mkeProg l[i] = 4 + bsum mkeExpr l[i].cond.kids + bsum mkeProg l[i].kids := mkeProg_eq _
    omega
  have hix : ∀ (i : Nat) (c : Int) (hi : i < l.length), c = k + (bsum mkeProg (l.take i) : Nat) → ((mkdL mkdProg mkeProg l k).map encProg)[i]? = some [Jm (c), Jm (c + 1), Jm (c + 1 + 1), Jm (c + 1 + 1 + 1), .ro 3 ((mkdL mkdExpr mkeExpr (l[i].cond.kids) (c + 1 + 1 + 1 + 1)).map encExpr), .ro 6 ((mkdL mkdProg mkeProg (l[i].kids) (c + 1 + 1 + 1 + 1 + (bsum mkeExpr (l[i].cond.kids) : Nat))).map encProg)] := fun i c hi hc => mkdL_idx hi hc (by rw [mkdProg_eq, encProg_eq]; rfl)
  refine callF_of_vc htb hm Tryz.func119 rfl rfl rfl rfl (ann := fun _ => none) (gh := fun _ => false) ?_
  repeat' ((conv => whnf); first | (guard_target = Done _; refine Done.mk ?_; first | ((have e : i = l.length := (by omega); have h9 := ha.2; rw [e, List.take_length] at h9; rw [h9]; rfl); done) | skip) | (guard_target = RetX _ _; refine RetX.mk ?_ ?_) | (guard_target =~ LoopE 2 _ _ _ _ _ _; refine LoopE.mk { α := Nat × Int, keep := [0], ov := fun ⟨i, c⟩ => [(1, I c), (5, I (i : Nat))], φ := fun ⟨i, c⟩ => i ≤ l.length ∧ c = k + (bsum mkeProg (l.take i) : Nat), μ := fun ⟨i, c⟩ => l.length - i } (LoopN.mk ((0, k) : Nat × Int) (by exact ⟨Nat.zero_le _, by simp [bsum]⟩) (by (repeat' ((conv => whnf) <;> (first | exact trivial | refine ⟨?_, ?_⟩ | kernel_rfl))); done) (by (repeat' ((conv => whnf) <;> (first | exact trivial | refine ⟨?_, ?_⟩ | kernel_rfl))); done) (by (repeat' ((conv => whnf) <;> (first | exact trivial | refine ⟨?_, ?_⟩ | exact rfl | (simp only [List.map_append, List.map_cons, List.map_nil, List.map_set]; first | done | rfl)))); done) (fun A ha => ?_) (by intro A; first | rfl | (obtain ⟨_, _⟩ := A; rfl) | (obtain ⟨_, _, _⟩ := A; rfl))); obtain ⟨i, c⟩ := A; have ha : i ≤ l.length ∧ c = k + (bsum mkeProg (l.take i) : Nat) := ha; have hsi := hs i; have hc2 := ha.2; have hb9 := bsum_le (f := mkeProg) l i) | (guard_target = Gh _ _ _ _ _; refine Gh.go ⟨((i + 1, c + 1 + 1 + 1 + 1 + (bsum mkeExpr l[i].cond.kids : Nat) + (bsum mkeProg l[i].kids : Nat)) : Nat × Int), (by (have hi9 : i < l.length := (by omega); have h9 := hsi hi9; refine ⟨hi9, ?_⟩; show c + 1 + 1 + 1 + 1 + (bsum mkeExpr l[i].cond.kids : Nat) + (bsum mkeProg l[i].kids : Nat) = k + (bsum mkeProg (l.take (i + 1)) : Nat); omega)), (by first | (show _ < _; simp only []; omega) | omega | (simp; omega)), (by (repeat' ((conv => whnf) <;> (first | exact trivial | refine ⟨?_, ?_⟩ | kernel_rfl))); done), (by (repeat' ((conv => whnf) <;> (first | exact trivial | refine ⟨?_, ?_⟩ | kernel_rfl))); done), (by (repeat' ((conv => whnf) <;> (first | exact trivial | refine ⟨?_, ?_⟩ | exact rfl | (simp only [List.map_append, List.map_cons, List.map_nil, List.map_set]; first | done | rfl)))); done)⟩) | (guard_target = Fact _ _; refine Fact.mk fun hL => ?_; (try simp only [List.length_map, maxLen] at hL)) | (guard_target = Branch _ _ _; (first | refine Branch.dec ?_ ?_ | refine Branch.beq ?_ ?_ | refine Branch.bne ?_ ?_ | refine Branch.ndec ?_ ?_ | refine Branch.nb ?_ ?_ | refine Branch.mk ?_ ?_) <;> intro h <;> (try simp only [List.length_map] at h) <;> (try omega) <;> (try contradiction)) | (guard_target = CallN _ 118 _ _ _ _; refine CallN.pure _ _ rfl (heldExprS_mk l[i].cond.kids (c + 1 + 1 + 1 + 1) (by omega) (by have h9 := hsi (by omega); omega)) rfl _ rfl ?_) | (guard_target = CallN _ 119 _ _ _ _; refine CallN.pure _ _ rfl (hx l[i] (List.getElem_mem (by omega)) (c + 1 + 1 + 1 + 1 + (bsum mkeExpr l[i].cond.kids : Nat)) (by omega) (by have h9 := hsi (by omega); omega)) rfl _ rfl ?_) | (guard_target = Arith _ _ _; refine Arith.fit (wrap_fit (by (first | omega | (have h9 := hsi (by omega); omega) | (simp only [List.length_map]; omega))) (by (first | omega | (have h9 := hsi (by omega); omega) | (simp only [List.length_map]; omega)))) ?_) | (guard_target = Arith _ _ _; refine Arith.fit (by decide) ?_) | (guard_target = Index _ _ _; first | refine Index.mk _ (hix i c (by omega) ha.2) ?_ | refine Index.mk _ (hix i _ (by omega) ha.2) ?_ | refine Index.mk _ (idx_map (by omega)) ?_) | (guard_target = Need (_ = true) _; refine Need.mk (by first | kernel_rfl | rfl) ?_) | (guard_target = LinkV _ _ _; first  | refine LinkV.no ?_) | (guard_target = GhO _ _ _ _; refine GhO.go ?_) | (guard_target = Need _ _; refine Need.mk (by first  | omega | (simp only [List.length_map]; omega)) ?_))
theorem heldProgS_mk : ∀ (l : List XProg) (k : Int), 0 ≤ k → k + (bsum mkeProg l : Nat) ≤ 4611686018427387904 → CallF Tryz.prog 119 [.c (.ro 6 ((mkdL mkdProg mkeProg l k).map encProg)), I k] (I (k + (bsum mkeProg l : Nat)))
  | l, k, h0, hk => heldProgS_mkA l k h0 hk fun x _hm k h0 hk => heldProgS_mk x.kids k h0 hk
  termination_by l => SizeOf.sizeOf l
  decreasing_by
    have h1 := List.sizeOf_lt_of_mem _hm
    have h2 : SizeOf.sizeOf x.kids < SizeOf.sizeOf x := by
      cases x
      simp only [XProg.mk.sizeOf_spec, XProg.kids]
      omega
    omega
def mkvProg (x : XProg) (k : Int) : XProg := (XProg.mk x.kind x.num (XExpr.mk x.cond.kind x.cond.num (mkdL mkdExpr mkeExpr x.cond.kids k)) (mkdL mkdProg mkeProg x.kids (k + (bsum mkeExpr x.cond.kids : Nat))))
theorem markProg_out (x : XProg) (k : Int) (h0 : 0 ≤ k) (hk : k + (bsum mkeExpr x.cond.kids + bsum mkeProg x.kids : Nat) ≤ 4611686018427387904) : CallX Tryz.prog 53 [.m [.c (.val (.int .i64 x.kind)), .c (.val (.int .i64 x.num)), .c (.val (.int .i64 x.cond.kind)), .c (.val (.int .i64 x.cond.num)), .c (.own 37 3 (x.cond.kids.map ownExpr)), .c (.own 40 6 (x.kids.map ownProg))], I k] [some [Jm (x.kind), Jm (x.num), Jm (x.cond.kind), Jm (x.cond.num), .own 37 3 ((mkdL mkdExpr mkeExpr x.cond.kids k).map ownExpr), .own 40 6 ((mkdL mkdProg mkeProg x.kids (k + (bsum mkeExpr x.cond.kids : Nat))).map ownProg)], none] (I (k + (bsum mkeExpr x.cond.kids : Nat) + (bsum mkeProg x.kids : Nat))) := by
  refine callX_of_vc htb hm Tryz.func53 rfl rfl rfl rfl (ann := fun _ => none) (gh := fun _ => false) ?_
  repeat' ((conv => whnf); first | (guard_target = Done _; refine Done.mk ?_) | (guard_target = RetX _ _; refine RetX.mk ?_ ?_) | (guard_target = Fact _ _; refine Fact.mk fun hL => ?_; (try simp only [List.length_map, maxLen] at hL)) | (guard_target = Branch _ _ _; (first | refine Branch.dec ?_ ?_ | refine Branch.beq ?_ ?_ | refine Branch.bne ?_ ?_ | refine Branch.ndec ?_ ?_ | refine Branch.nb ?_ ?_ | refine Branch.mk ?_ ?_) <;> intro h <;> (try simp only [List.length_map] at h) <;> (try omega) <;> (try contradiction)) | (guard_target = CallN _ 52 _ _ _ _; refine CallN.gen [true, false] _ _ _ rfl (markExpr_out x.cond (k) (by omega) (by omega)) rfl rfl _ rfl ?_) | (guard_target = CallN _ 115 _ _ _ _; refine CallN.gen [true, false] _ _ _ rfl (markProgS_out x.kids (k + (bsum mkeExpr x.cond.kids : Nat)) (by omega) (by omega)) rfl rfl _ rfl ?_) | (guard_target = Arith _ _ _; refine Arith.fit (wrap_fit (by first | omega | (simp only [List.length_map]; omega)) (by first | omega | (simp only [List.length_map]; omega))) ?_) | (guard_target = Arith _ _ _; refine Arith.fit (by decide) ?_) | (guard_target = Index _ _ _; first  | refine Index.mk _ (idx_map (by omega)) ?_) | (guard_target = Need (_ = true) _; refine Need.mk (by first | kernel_rfl | rfl) ?_) | (guard_target = LinkV _ _ _; first  | refine LinkV.no ?_) | (guard_target = GhO _ _ _ _; refine GhO.go ?_) | (guard_target = Need _ _; refine Need.mk (by first  | omega | (simp only [List.length_map]; omega)) ?_))
  all_goals first | rfl | exact ⟨rfl, trivial⟩ | trivial
theorem heldProg_mk (x : XProg) (k : Int) (h0 : 0 ≤ k) (hk : k + (bsum mkeExpr x.cond.kids + bsum mkeProg x.kids : Nat) ≤ 4611686018427387904) : CallF Tryz.prog 117 [.a 6 [Jm (x.kind), Jm (x.num), Jm (x.cond.kind), Jm (x.cond.num), .ro 3 ((mkdL mkdExpr mkeExpr x.cond.kids k).map encExpr), .ro 6 ((mkdL mkdProg mkeProg x.kids (k + (bsum mkeExpr x.cond.kids : Nat))).map encProg)], I k] (I (k + (bsum mkeExpr x.cond.kids : Nat) + (bsum mkeProg x.kids : Nat))) := by
  refine callF_of_vc htb hm Tryz.func117 rfl rfl rfl rfl (ann := fun _ => none) (gh := fun _ => false) ?_
  repeat' ((conv => whnf); first | (guard_target = Done _; refine Done.mk ?_; first | (rfl; done) | skip) | (guard_target = RetX _ _; refine RetX.mk ?_ ?_) | (guard_target = Fact _ _; refine Fact.mk fun hL => ?_; (try simp only [List.length_map, maxLen] at hL)) | (guard_target = Branch _ _ _; (first | refine Branch.dec ?_ ?_ | refine Branch.beq ?_ ?_ | refine Branch.bne ?_ ?_ | refine Branch.ndec ?_ ?_ | refine Branch.nb ?_ ?_ | refine Branch.mk ?_ ?_) <;> intro h <;> (try simp only [List.length_map] at h) <;> (try omega) <;> (try contradiction)) | (guard_target = CallN _ 116 _ _ _ _; refine CallN.pure _ _ rfl (heldExpr_mk x.cond (k) (by omega) (by omega)) rfl _ rfl ?_) | (guard_target = CallN _ 119 _ _ _ _; refine CallN.pure _ _ rfl (heldProgS_mk x.kids (k + (bsum mkeExpr x.cond.kids : Nat)) (by omega) (by omega)) rfl _ rfl ?_) | (guard_target = Arith _ _ _; refine Arith.fit (wrap_fit (by first | omega | (simp only [List.length_map]; omega)) (by first | omega | (simp only [List.length_map]; omega))) ?_) | (guard_target = Arith _ _ _; refine Arith.fit (by decide) ?_) | (guard_target = Index _ _ _; first  | refine Index.mk _ (idx_map (by omega)) ?_) | (guard_target = Need (_ = true) _; refine Need.mk (by first | kernel_rfl | rfl) ?_) | (guard_target = LinkV _ _ _; first  | refine LinkV.no ?_) | (guard_target = GhO _ _ _ _; refine GhO.go ?_) | (guard_target = Need _ _; refine Need.mk (by first  | omega | (simp only [List.length_map]; omega)) ?_))
def mkvTriple (x : XTriple) (k : Int) : XTriple := (XTriple.mk (XExpr.mk x.pre.kind x.pre.num (mkdL mkdExpr mkeExpr x.pre.kids k)) (XProg.mk x.prog.kind x.prog.num (XExpr.mk x.prog.cond.kind x.prog.cond.num (mkdL mkdExpr mkeExpr x.prog.cond.kids (k + (bsum mkeExpr x.pre.kids : Nat)))) (mkdL mkdProg mkeProg x.prog.kids (k + (bsum mkeExpr x.pre.kids : Nat) + (bsum mkeExpr x.prog.cond.kids : Nat)))) (XExpr.mk x.post.kind x.post.num (mkdL mkdExpr mkeExpr x.post.kids (k + (bsum mkeExpr x.pre.kids : Nat) + (bsum mkeExpr x.prog.cond.kids : Nat) + (bsum mkeProg x.prog.kids : Nat)))))
theorem markTriple_out (x : XTriple) (k : Int) (h0 : 0 ≤ k) (hk : k + (bsum mkeExpr x.pre.kids + bsum mkeExpr x.prog.cond.kids + bsum mkeProg x.prog.kids + bsum mkeExpr x.post.kids : Nat) ≤ 4611686018427387904) : CallX Tryz.prog 16 [.m [.c (.val (.int .i64 x.pre.kind)), .c (.val (.int .i64 x.pre.num)), .c (.own 37 3 (x.pre.kids.map ownExpr)), .c (.val (.int .i64 x.prog.kind)), .c (.val (.int .i64 x.prog.num)), .c (.val (.int .i64 x.prog.cond.kind)), .c (.val (.int .i64 x.prog.cond.num)), .c (.own 37 3 (x.prog.cond.kids.map ownExpr)), .c (.own 40 6 (x.prog.kids.map ownProg)), .c (.val (.int .i64 x.post.kind)), .c (.val (.int .i64 x.post.num)), .c (.own 37 3 (x.post.kids.map ownExpr))], I k] [some [Jm (x.pre.kind), Jm (x.pre.num), .own 37 3 ((mkdL mkdExpr mkeExpr x.pre.kids k).map ownExpr), Jm (x.prog.kind), Jm (x.prog.num), Jm (x.prog.cond.kind), Jm (x.prog.cond.num), .own 37 3 ((mkdL mkdExpr mkeExpr x.prog.cond.kids (k + (bsum mkeExpr x.pre.kids : Nat))).map ownExpr), .own 40 6 ((mkdL mkdProg mkeProg x.prog.kids (k + (bsum mkeExpr x.pre.kids : Nat) + (bsum mkeExpr x.prog.cond.kids : Nat))).map ownProg), Jm (x.post.kind), Jm (x.post.num), .own 37 3 ((mkdL mkdExpr mkeExpr x.post.kids (k + (bsum mkeExpr x.pre.kids : Nat) + (bsum mkeExpr x.prog.cond.kids : Nat) + (bsum mkeProg x.prog.kids : Nat))).map ownExpr)], none] (I (k + (bsum mkeExpr x.pre.kids : Nat) + (bsum mkeExpr x.prog.cond.kids : Nat) + (bsum mkeProg x.prog.kids : Nat) + (bsum mkeExpr x.post.kids : Nat))) := by
  refine callX_of_vc htb hm Tryz.func16 rfl rfl rfl rfl (ann := fun _ => none) (gh := fun _ => false) ?_
  repeat' ((conv => whnf); first | (guard_target = Done _; refine Done.mk ?_) | (guard_target = RetX _ _; refine RetX.mk ?_ ?_) | (guard_target = Fact _ _; refine Fact.mk fun hL => ?_; (try simp only [List.length_map, maxLen] at hL)) | (guard_target = Branch _ _ _; (first | refine Branch.dec ?_ ?_ | refine Branch.beq ?_ ?_ | refine Branch.bne ?_ ?_ | refine Branch.ndec ?_ ?_ | refine Branch.nb ?_ ?_ | refine Branch.mk ?_ ?_) <;> intro h <;> (try simp only [List.length_map] at h) <;> (try omega) <;> (try contradiction)) | (guard_target = CallN _ 52 _ _ _ _; refine CallN.gen [true, false] _ _ _ rfl (markExpr_out x.pre (k) (by omega) (by omega)) rfl rfl _ rfl ?_) | (guard_target = CallN _ 53 _ _ _ _; refine CallN.gen [true, false] _ _ _ rfl (markProg_out x.prog (k + (bsum mkeExpr x.pre.kids : Nat)) (by omega) (by omega)) rfl rfl _ rfl ?_) | (guard_target = CallN _ 52 _ _ _ _; refine CallN.gen [true, false] _ _ _ rfl (markExpr_out x.post (k + (bsum mkeExpr x.pre.kids : Nat) + (bsum mkeExpr x.prog.cond.kids : Nat) + (bsum mkeProg x.prog.kids : Nat)) (by omega) (by omega)) rfl rfl _ rfl ?_) | (guard_target = Arith _ _ _; refine Arith.fit (wrap_fit (by first | omega | (simp only [List.length_map]; omega)) (by first | omega | (simp only [List.length_map]; omega))) ?_) | (guard_target = Arith _ _ _; refine Arith.fit (by decide) ?_) | (guard_target = Index _ _ _; first  | refine Index.mk _ (idx_map (by omega)) ?_) | (guard_target = Need (_ = true) _; refine Need.mk (by first | kernel_rfl | rfl) ?_) | (guard_target = LinkV _ _ _; first  | refine LinkV.no ?_) | (guard_target = GhO _ _ _ _; refine GhO.go ?_) | (guard_target = Need _ _; refine Need.mk (by first  | omega | (simp only [List.length_map]; omega)) ?_))
  all_goals first | rfl | exact ⟨rfl, trivial⟩ | trivial
theorem markTriple_ok (x : XTriple) (k : Int) (h0 : 0 ≤ k) (hk : k + (bsum mkeExpr x.pre.kids + bsum mkeExpr x.prog.cond.kids + bsum mkeProg x.prog.kids + bsum mkeExpr x.post.kids : Nat) ≤ 4611686018427387904) : CallX Tryz.prog 16 [.m [.c (.val (.int .i64 x.pre.kind)), .c (.val (.int .i64 x.pre.num)), .c (.own 37 3 (x.pre.kids.map ownExpr)), .c (.val (.int .i64 x.prog.kind)), .c (.val (.int .i64 x.prog.num)), .c (.val (.int .i64 x.prog.cond.kind)), .c (.val (.int .i64 x.prog.cond.num)), .c (.own 37 3 (x.prog.cond.kids.map ownExpr)), .c (.own 40 6 (x.prog.kids.map ownProg)), .c (.val (.int .i64 x.post.kind)), .c (.val (.int .i64 x.post.num)), .c (.own 37 3 (x.post.kids.map ownExpr))], I k] [] (I (k + (bsum mkeExpr x.pre.kids + bsum mkeExpr x.prog.cond.kids + bsum mkeProg x.prog.kids + bsum mkeExpr x.post.kids : Nat))) := by
  have h := CallX.drop (markTriple_out x k h0 hk)
  rwa [show k + (bsum mkeExpr x.pre.kids : Nat) + (bsum mkeExpr x.prog.cond.kids : Nat) + (bsum mkeProg x.prog.kids : Nat) + (bsum mkeExpr x.post.kids : Nat) = k + ((bsum mkeExpr x.pre.kids + bsum mkeExpr x.prog.cond.kids + bsum mkeProg x.prog.kids + bsum mkeExpr x.post.kids : Nat) : Int) by omega] at h
theorem heldTriple_mk (x : XTriple) (k : Int) (h0 : 0 ≤ k) (hk : k + (bsum mkeExpr x.pre.kids + bsum mkeExpr x.prog.cond.kids + bsum mkeProg x.prog.kids + bsum mkeExpr x.post.kids : Nat) ≤ 4611686018427387904) : CallF Tryz.prog 55 [.a 12 [Jm (x.pre.kind), Jm (x.pre.num), .ro 3 ((mkdL mkdExpr mkeExpr x.pre.kids k).map encExpr), Jm (x.prog.kind), Jm (x.prog.num), Jm (x.prog.cond.kind), Jm (x.prog.cond.num), .ro 3 ((mkdL mkdExpr mkeExpr x.prog.cond.kids (k + (bsum mkeExpr x.pre.kids : Nat))).map encExpr), .ro 6 ((mkdL mkdProg mkeProg x.prog.kids (k + (bsum mkeExpr x.pre.kids : Nat) + (bsum mkeExpr x.prog.cond.kids : Nat))).map encProg), Jm (x.post.kind), Jm (x.post.num), .ro 3 ((mkdL mkdExpr mkeExpr x.post.kids (k + (bsum mkeExpr x.pre.kids : Nat) + (bsum mkeExpr x.prog.cond.kids : Nat) + (bsum mkeProg x.prog.kids : Nat))).map encExpr)], I k] (I (k + (bsum mkeExpr x.pre.kids : Nat) + (bsum mkeExpr x.prog.cond.kids : Nat) + (bsum mkeProg x.prog.kids : Nat) + (bsum mkeExpr x.post.kids : Nat))) := by
  refine callF_of_vc htb hm Tryz.func55 rfl rfl rfl rfl (ann := fun _ => none) (gh := fun _ => false) ?_
  repeat' ((conv => whnf); first | (guard_target = Done _; refine Done.mk ?_; first | (rfl; done) | skip) | (guard_target = RetX _ _; refine RetX.mk ?_ ?_) | (guard_target = Fact _ _; refine Fact.mk fun hL => ?_; (try simp only [List.length_map, maxLen] at hL)) | (guard_target = Branch _ _ _; (first | refine Branch.dec ?_ ?_ | refine Branch.beq ?_ ?_ | refine Branch.bne ?_ ?_ | refine Branch.ndec ?_ ?_ | refine Branch.nb ?_ ?_ | refine Branch.mk ?_ ?_) <;> intro h <;> (try simp only [List.length_map] at h) <;> (try omega) <;> (try contradiction)) | (guard_target = CallN _ 116 _ _ _ _; refine CallN.pure _ _ rfl (heldExpr_mk x.pre (k) (by omega) (by omega)) rfl _ rfl ?_) | (guard_target = CallN _ 117 _ _ _ _; refine CallN.pure _ _ rfl (heldProg_mk x.prog (k + (bsum mkeExpr x.pre.kids : Nat)) (by omega) (by omega)) rfl _ rfl ?_) | (guard_target = CallN _ 116 _ _ _ _; refine CallN.pure _ _ rfl (heldExpr_mk x.post (k + (bsum mkeExpr x.pre.kids : Nat) + (bsum mkeExpr x.prog.cond.kids : Nat) + (bsum mkeProg x.prog.kids : Nat)) (by omega) (by omega)) rfl _ rfl ?_) | (guard_target = Arith _ _ _; refine Arith.fit (wrap_fit (by first | omega | (simp only [List.length_map]; omega)) (by first | omega | (simp only [List.length_map]; omega))) ?_) | (guard_target = Arith _ _ _; refine Arith.fit (by decide) ?_) | (guard_target = Index _ _ _; first  | refine Index.mk _ (idx_map (by omega)) ?_) | (guard_target = Need (_ = true) _; refine Need.mk (by first | kernel_rfl | rfl) ?_) | (guard_target = LinkV _ _ _; first  | refine LinkV.no ?_) | (guard_target = GhO _ _ _ _; refine GhO.go ?_) | (guard_target = Need _ _; refine Need.mk (by first  | omega | (simp only [List.length_map]; omega)) ?_))
mutual
def mkeDerivation : XDerivation → Nat
  | .mk _ says kids => 9 + bsum mkeExpr says.pre.kids + bsum mkeExpr says.prog.cond.kids + bsum mkeProg says.prog.kids + bsum mkeExpr says.post.kids + mkeDerivationS kids
def mkeDerivationS : List XDerivation → Nat
  | [] => 0
  | x :: xs => mkeDerivation x + mkeDerivationS xs
end
theorem mkeDerivationS_eq : ∀ l : List XDerivation, mkeDerivationS l = bsum mkeDerivation l
  | [] => rfl
  | x :: xs => by simp only [mkeDerivationS, bsum]; rw [mkeDerivationS_eq xs]
theorem mkeDerivation_eq (x : XDerivation) : mkeDerivation x = 9 + bsum mkeExpr x.says.pre.kids + bsum mkeExpr x.says.prog.cond.kids + bsum mkeProg x.says.prog.kids + bsum mkeExpr x.says.post.kids + bsum mkeDerivation x.kids := by
  cases x
  simp only [mkeDerivation, mkeDerivationS_eq]
  rfl
mutual
def mkdDerivation : XDerivation → Int → XDerivation
  | .mk _ says kids, k => .mk k (XTriple.mk (XExpr.mk (k + 1) (k + 1 + 1) (mkdL mkdExpr mkeExpr says.pre.kids (k + 1 + 1 + 1))) (XProg.mk (k + 1 + 1 + 1 + (bsum mkeExpr says.pre.kids : Nat)) (k + 1 + 1 + 1 + (bsum mkeExpr says.pre.kids : Nat) + 1) (XExpr.mk (k + 1 + 1 + 1 + (bsum mkeExpr says.pre.kids : Nat) + 1 + 1) (k + 1 + 1 + 1 + (bsum mkeExpr says.pre.kids : Nat) + 1 + 1 + 1) (mkdL mkdExpr mkeExpr says.prog.cond.kids (k + 1 + 1 + 1 + (bsum mkeExpr says.pre.kids : Nat) + 1 + 1 + 1 + 1))) (mkdL mkdProg mkeProg says.prog.kids (k + 1 + 1 + 1 + (bsum mkeExpr says.pre.kids : Nat) + 1 + 1 + 1 + 1 + (bsum mkeExpr says.prog.cond.kids : Nat)))) (XExpr.mk (k + 1 + 1 + 1 + (bsum mkeExpr says.pre.kids : Nat) + 1 + 1 + 1 + 1 + (bsum mkeExpr says.prog.cond.kids : Nat) + (bsum mkeProg says.prog.kids : Nat)) (k + 1 + 1 + 1 + (bsum mkeExpr says.pre.kids : Nat) + 1 + 1 + 1 + 1 + (bsum mkeExpr says.prog.cond.kids : Nat) + (bsum mkeProg says.prog.kids : Nat) + 1) (mkdL mkdExpr mkeExpr says.post.kids (k + 1 + 1 + 1 + (bsum mkeExpr says.pre.kids : Nat) + 1 + 1 + 1 + 1 + (bsum mkeExpr says.prog.cond.kids : Nat) + (bsum mkeProg says.prog.kids : Nat) + 1 + 1)))) (mkdDerivationS kids (k + 1 + 1 + 1 + (bsum mkeExpr says.pre.kids : Nat) + 1 + 1 + 1 + 1 + (bsum mkeExpr says.prog.cond.kids : Nat) + (bsum mkeProg says.prog.kids : Nat) + 1 + 1 + (bsum mkeExpr says.post.kids : Nat)))
def mkdDerivationS : List XDerivation → Int → List XDerivation
  | [], _ => []
  | x :: xs, k => mkdDerivation x k :: mkdDerivationS xs (k + (mkeDerivation x : Nat))
end
theorem mkdDerivationS_eq : ∀ (l : List XDerivation) (k : Int), mkdDerivationS l k = mkdL mkdDerivation mkeDerivation l k
  | [], _ => rfl
  | x :: xs, k => by simp only [mkdDerivationS, mkdL]; rw [mkdDerivationS_eq xs]
theorem mkdDerivation_eq (x : XDerivation) (k : Int) : mkdDerivation x k = (XDerivation.mk k (XTriple.mk (XExpr.mk (k + 1) (k + 1 + 1) (mkdL mkdExpr mkeExpr x.says.pre.kids (k + 1 + 1 + 1))) (XProg.mk (k + 1 + 1 + 1 + (bsum mkeExpr x.says.pre.kids : Nat)) (k + 1 + 1 + 1 + (bsum mkeExpr x.says.pre.kids : Nat) + 1) (XExpr.mk (k + 1 + 1 + 1 + (bsum mkeExpr x.says.pre.kids : Nat) + 1 + 1) (k + 1 + 1 + 1 + (bsum mkeExpr x.says.pre.kids : Nat) + 1 + 1 + 1) (mkdL mkdExpr mkeExpr x.says.prog.cond.kids (k + 1 + 1 + 1 + (bsum mkeExpr x.says.pre.kids : Nat) + 1 + 1 + 1 + 1))) (mkdL mkdProg mkeProg x.says.prog.kids (k + 1 + 1 + 1 + (bsum mkeExpr x.says.pre.kids : Nat) + 1 + 1 + 1 + 1 + (bsum mkeExpr x.says.prog.cond.kids : Nat)))) (XExpr.mk (k + 1 + 1 + 1 + (bsum mkeExpr x.says.pre.kids : Nat) + 1 + 1 + 1 + 1 + (bsum mkeExpr x.says.prog.cond.kids : Nat) + (bsum mkeProg x.says.prog.kids : Nat)) (k + 1 + 1 + 1 + (bsum mkeExpr x.says.pre.kids : Nat) + 1 + 1 + 1 + 1 + (bsum mkeExpr x.says.prog.cond.kids : Nat) + (bsum mkeProg x.says.prog.kids : Nat) + 1) (mkdL mkdExpr mkeExpr x.says.post.kids (k + 1 + 1 + 1 + (bsum mkeExpr x.says.pre.kids : Nat) + 1 + 1 + 1 + 1 + (bsum mkeExpr x.says.prog.cond.kids : Nat) + (bsum mkeProg x.says.prog.kids : Nat) + 1 + 1)))) (mkdL mkdDerivation mkeDerivation x.kids (k + 1 + 1 + 1 + (bsum mkeExpr x.says.pre.kids : Nat) + 1 + 1 + 1 + 1 + (bsum mkeExpr x.says.prog.cond.kids : Nat) + (bsum mkeProg x.says.prog.kids : Nat) + 1 + 1 + (bsum mkeExpr x.says.post.kids : Nat)))) := by
  cases x
  simp only [mkdDerivation, mkdDerivationS_eq]
  try rfl
theorem markDerivationS_outA (l : List XDerivation) (k : Int) (h0 : 0 ≤ k) (hk : k + (bsum mkeDerivation l : Nat) ≤ 4611686018427387904) (hx : ∀ x ∈ l, ∀ k : Int, 0 ≤ k → k + (bsum mkeDerivation x.kids : Nat) ≤ 4611686018427387904 → CallX Tryz.prog 54 [.c (.own 45 14 (x.kids.map ownDerivation)), I k] [some [.own 45 14 ((mkdL mkdDerivation mkeDerivation x.kids k).map ownDerivation)], none] (I (k + (bsum mkeDerivation x.kids : Nat)))) : CallX Tryz.prog 54 [.c (.own 45 14 (l.map ownDerivation)), I k] [some [.own 45 14 ((mkdL mkdDerivation mkeDerivation l k).map ownDerivation)], none] (I (k + (bsum mkeDerivation l : Nat))) := by
  refine callX_of_vc htb hm Tryz.func54 rfl rfl rfl rfl (ann := fun n => match n with | 2 => some { α := Nat, keep := [0], ov := fun a => [(5, I a), (1, I (k + (bsum mkeDerivation (l.take a) : Nat)))], hv := fun a => [(0, .orow none 45 14 ((hfL mkdDerivation mkeDerivation l k a).map ownDerivation))], φ := fun a => a ≤ l.length, μ := fun a => l.length - a } | _ => none) (gh := fun _ => false) ?_
  refine LoopN.mk (0 : Nat) (Nat.zero_le _) ⟨⟨rfl, rfl⟩, ⟨?_, rfl⟩, trivial⟩ ⟨⟨rfl, rfl⟩, trivial⟩ ⟨⟨rfl, rfl⟩, trivial⟩ ?_ (fun _ => rfl)
  · refine congrArg I ?_
    simp [bsum]
  intro (i : Nat) (hi : i ≤ l.length)
  have hlen : ((hfL mkdDerivation mkeDerivation l k i).map ownDerivation).length = l.length := by rw [List.length_map, hfL_len]
  refine Fact.mk fun (hL : ((hfL mkdDerivation mkeDerivation l k i).map ownDerivation).length ≤ maxLen) => ?_
  refine Branch.mk (fun h => ?_) (fun h => ?_)
  · have h : (i : Int) < (((hfL mkdDerivation mkeDerivation l k i).map ownDerivation).length : Nat) := of_decide_eq_true h
    have hi' : i < l.length := by omega
    have hs := bsum_take (f := mkeDerivation) (List.getElem?_eq_getElem hi')
    have hle := bsum_le (f := mkeDerivation) l (i + 1)
    have hf : mkeDerivation l[i] = 9 + bsum mkeExpr l[i].says.pre.kids + bsum mkeExpr l[i].says.prog.cond.kids + bsum mkeProg l[i].says.prog.kids + bsum mkeExpr l[i].says.post.kids + bsum mkeDerivation l[i].kids := mkeDerivation_eq _
    have hg : ((hfL mkdDerivation mkeDerivation l k i).map ownDerivation)[i]? = some [.val (.int .i64 l[i].rule), .val (.int .i64 l[i].says.pre.kind), .val (.int .i64 l[i].says.pre.num), .own 37 3 (l[i].says.pre.kids.map ownExpr), .val (.int .i64 l[i].says.prog.kind), .val (.int .i64 l[i].says.prog.num), .val (.int .i64 l[i].says.prog.cond.kind), .val (.int .i64 l[i].says.prog.cond.num), .own 37 3 (l[i].says.prog.cond.kids.map ownExpr), .own 40 6 (l[i].says.prog.kids.map ownProg), .val (.int .i64 l[i].says.post.kind), .val (.int .i64 l[i].says.post.num), .own 37 3 (l[i].says.post.kids.map ownExpr), .own 45 14 (l[i].kids.map ownDerivation)] := (hfL_get hi').trans (congrArg some (ownDerivation_eq _))
    conv => whnf
    refine Need.mk ⟨by omega, by rw [hlen]; exact hi'⟩ ?_
    refine Index.mk [.val (.int .i64 l[i].rule), .val (.int .i64 l[i].says.pre.kind), .val (.int .i64 l[i].says.pre.num), .own 37 3 (l[i].says.pre.kids.map ownExpr), .val (.int .i64 l[i].says.prog.kind), .val (.int .i64 l[i].says.prog.num), .val (.int .i64 l[i].says.prog.cond.kind), .val (.int .i64 l[i].says.prog.cond.num), .own 37 3 (l[i].says.prog.cond.kids.map ownExpr), .own 40 6 (l[i].says.prog.kids.map ownProg), .val (.int .i64 l[i].says.post.kind), .val (.int .i64 l[i].says.post.num), .own 37 3 (l[i].says.post.kids.map ownExpr), .own 45 14 (l[i].kids.map ownDerivation)] hg ?_
    conv => whnf
    refine Arith.fit (wrap_fit (z := k + (bsum mkeDerivation (l.take i) : Nat) + 1) (by omega) (by omega)) ?_
    conv => whnf
    refine Need.mk ⟨by omega, by simp only [List.length_set]; rw [hlen]; exact hi'⟩ ?_
    refine Index.mk [Jm (k + (bsum mkeDerivation (l.take i) : Nat)), .val (.int .i64 l[i].says.pre.kind), .val (.int .i64 l[i].says.pre.num), .own 37 3 (l[i].says.pre.kids.map ownExpr), .val (.int .i64 l[i].says.prog.kind), .val (.int .i64 l[i].says.prog.num), .val (.int .i64 l[i].says.prog.cond.kind), .val (.int .i64 l[i].says.prog.cond.num), .own 37 3 (l[i].says.prog.cond.kids.map ownExpr), .own 40 6 (l[i].says.prog.kids.map ownProg), .val (.int .i64 l[i].says.post.kind), .val (.int .i64 l[i].says.post.num), .own 37 3 (l[i].says.post.kids.map ownExpr), .own 45 14 (l[i].kids.map ownDerivation)] (set_get (by rw [hlen]; exact hi')) ?_
    conv => whnf
    refine Arith.fit (wrap_fit (z := k + (bsum mkeDerivation (l.take i) : Nat) + 1 + 1) (by omega) (by omega)) ?_
    conv => whnf
    refine Need.mk ⟨by omega, by simp only [List.length_set]; rw [hlen]; exact hi'⟩ ?_
    refine Index.mk [Jm (k + (bsum mkeDerivation (l.take i) : Nat)), Jm (k + (bsum mkeDerivation (l.take i) : Nat) + 1), .val (.int .i64 l[i].says.pre.num), .own 37 3 (l[i].says.pre.kids.map ownExpr), .val (.int .i64 l[i].says.prog.kind), .val (.int .i64 l[i].says.prog.num), .val (.int .i64 l[i].says.prog.cond.kind), .val (.int .i64 l[i].says.prog.cond.num), .own 37 3 (l[i].says.prog.cond.kids.map ownExpr), .own 40 6 (l[i].says.prog.kids.map ownProg), .val (.int .i64 l[i].says.post.kind), .val (.int .i64 l[i].says.post.num), .own 37 3 (l[i].says.post.kids.map ownExpr), .own 45 14 (l[i].kids.map ownDerivation)] (set_get (by simp only [List.length_set]; rw [hlen]; exact hi')) ?_
    conv => whnf
    refine Arith.fit (wrap_fit (z := k + (bsum mkeDerivation (l.take i) : Nat) + 1 + 1 + 1) (by omega) (by omega)) ?_
    conv => whnf
    refine Need.mk ⟨by omega, by simp only [List.length_set]; rw [hlen]; exact hi'⟩ ?_
    refine Index.mk [Jm (k + (bsum mkeDerivation (l.take i) : Nat)), Jm (k + (bsum mkeDerivation (l.take i) : Nat) + 1), Jm (k + (bsum mkeDerivation (l.take i) : Nat) + 1 + 1), .own 37 3 (l[i].says.pre.kids.map ownExpr), .val (.int .i64 l[i].says.prog.kind), .val (.int .i64 l[i].says.prog.num), .val (.int .i64 l[i].says.prog.cond.kind), .val (.int .i64 l[i].says.prog.cond.num), .own 37 3 (l[i].says.prog.cond.kids.map ownExpr), .own 40 6 (l[i].says.prog.kids.map ownProg), .val (.int .i64 l[i].says.post.kind), .val (.int .i64 l[i].says.post.num), .own 37 3 (l[i].says.post.kids.map ownExpr), .own 45 14 (l[i].kids.map ownDerivation)] (set_get (by simp only [List.length_set]; rw [hlen]; exact hi')) ?_
    conv => whnf
    intro v1
    conv => whnf
    refine CallN.gen [true, false] _ _ _ rfl (markExprS_out l[i].says.pre.kids (k + (bsum mkeDerivation (l.take i) : Nat) + 1 + 1 + 1) (by omega) (by omega)) rfl rfl _ rfl ?_
    conv => whnf
    refine Need.mk ⟨by omega, by simp only [List.length_set]; rw [hlen]; exact hi'⟩ ?_
    refine Index.mk [Jm (k + (bsum mkeDerivation (l.take i) : Nat)), Jm (k + (bsum mkeDerivation (l.take i) : Nat) + 1), Jm (k + (bsum mkeDerivation (l.take i) : Nat) + 1 + 1), .val v1, .val (.int .i64 l[i].says.prog.kind), .val (.int .i64 l[i].says.prog.num), .val (.int .i64 l[i].says.prog.cond.kind), .val (.int .i64 l[i].says.prog.cond.num), .own 37 3 (l[i].says.prog.cond.kids.map ownExpr), .own 40 6 (l[i].says.prog.kids.map ownProg), .val (.int .i64 l[i].says.post.kind), .val (.int .i64 l[i].says.post.num), .own 37 3 (l[i].says.post.kids.map ownExpr), .own 45 14 (l[i].kids.map ownDerivation)] (set_get (by simp only [List.length_set]; rw [hlen]; exact hi')) ?_
    conv => whnf
    refine Arith.fit (wrap_fit (z := k + (bsum mkeDerivation (l.take i) : Nat) + 1 + 1 + 1 + (bsum mkeExpr l[i].says.pre.kids : Nat) + 1) (by omega) (by omega)) ?_
    conv => whnf
    refine Need.mk ⟨by omega, by simp only [List.length_set]; rw [hlen]; exact hi'⟩ ?_
    refine Index.mk [Jm (k + (bsum mkeDerivation (l.take i) : Nat)), Jm (k + (bsum mkeDerivation (l.take i) : Nat) + 1), Jm (k + (bsum mkeDerivation (l.take i) : Nat) + 1 + 1), .val v1, Jm (k + (bsum mkeDerivation (l.take i) : Nat) + 1 + 1 + 1 + (bsum mkeExpr l[i].says.pre.kids : Nat)), .val (.int .i64 l[i].says.prog.num), .val (.int .i64 l[i].says.prog.cond.kind), .val (.int .i64 l[i].says.prog.cond.num), .own 37 3 (l[i].says.prog.cond.kids.map ownExpr), .own 40 6 (l[i].says.prog.kids.map ownProg), .val (.int .i64 l[i].says.post.kind), .val (.int .i64 l[i].says.post.num), .own 37 3 (l[i].says.post.kids.map ownExpr), .own 45 14 (l[i].kids.map ownDerivation)] (set_get (by simp only [List.length_set]; rw [hlen]; exact hi')) ?_
    conv => whnf
    refine Arith.fit (wrap_fit (z := k + (bsum mkeDerivation (l.take i) : Nat) + 1 + 1 + 1 + (bsum mkeExpr l[i].says.pre.kids : Nat) + 1 + 1) (by omega) (by omega)) ?_
    conv => whnf
    refine Need.mk ⟨by omega, by simp only [List.length_set]; rw [hlen]; exact hi'⟩ ?_
    refine Index.mk [Jm (k + (bsum mkeDerivation (l.take i) : Nat)), Jm (k + (bsum mkeDerivation (l.take i) : Nat) + 1), Jm (k + (bsum mkeDerivation (l.take i) : Nat) + 1 + 1), .val v1, Jm (k + (bsum mkeDerivation (l.take i) : Nat) + 1 + 1 + 1 + (bsum mkeExpr l[i].says.pre.kids : Nat)), Jm (k + (bsum mkeDerivation (l.take i) : Nat) + 1 + 1 + 1 + (bsum mkeExpr l[i].says.pre.kids : Nat) + 1), .val (.int .i64 l[i].says.prog.cond.kind), .val (.int .i64 l[i].says.prog.cond.num), .own 37 3 (l[i].says.prog.cond.kids.map ownExpr), .own 40 6 (l[i].says.prog.kids.map ownProg), .val (.int .i64 l[i].says.post.kind), .val (.int .i64 l[i].says.post.num), .own 37 3 (l[i].says.post.kids.map ownExpr), .own 45 14 (l[i].kids.map ownDerivation)] (set_get (by simp only [List.length_set]; rw [hlen]; exact hi')) ?_
    conv => whnf
    refine Arith.fit (wrap_fit (z := k + (bsum mkeDerivation (l.take i) : Nat) + 1 + 1 + 1 + (bsum mkeExpr l[i].says.pre.kids : Nat) + 1 + 1 + 1) (by omega) (by omega)) ?_
    conv => whnf
    refine Need.mk ⟨by omega, by simp only [List.length_set]; rw [hlen]; exact hi'⟩ ?_
    refine Index.mk [Jm (k + (bsum mkeDerivation (l.take i) : Nat)), Jm (k + (bsum mkeDerivation (l.take i) : Nat) + 1), Jm (k + (bsum mkeDerivation (l.take i) : Nat) + 1 + 1), .val v1, Jm (k + (bsum mkeDerivation (l.take i) : Nat) + 1 + 1 + 1 + (bsum mkeExpr l[i].says.pre.kids : Nat)), Jm (k + (bsum mkeDerivation (l.take i) : Nat) + 1 + 1 + 1 + (bsum mkeExpr l[i].says.pre.kids : Nat) + 1), Jm (k + (bsum mkeDerivation (l.take i) : Nat) + 1 + 1 + 1 + (bsum mkeExpr l[i].says.pre.kids : Nat) + 1 + 1), .val (.int .i64 l[i].says.prog.cond.num), .own 37 3 (l[i].says.prog.cond.kids.map ownExpr), .own 40 6 (l[i].says.prog.kids.map ownProg), .val (.int .i64 l[i].says.post.kind), .val (.int .i64 l[i].says.post.num), .own 37 3 (l[i].says.post.kids.map ownExpr), .own 45 14 (l[i].kids.map ownDerivation)] (set_get (by simp only [List.length_set]; rw [hlen]; exact hi')) ?_
    conv => whnf
    refine Arith.fit (wrap_fit (z := k + (bsum mkeDerivation (l.take i) : Nat) + 1 + 1 + 1 + (bsum mkeExpr l[i].says.pre.kids : Nat) + 1 + 1 + 1 + 1) (by omega) (by omega)) ?_
    conv => whnf
    refine Need.mk ⟨by omega, by simp only [List.length_set]; rw [hlen]; exact hi'⟩ ?_
    refine Index.mk [Jm (k + (bsum mkeDerivation (l.take i) : Nat)), Jm (k + (bsum mkeDerivation (l.take i) : Nat) + 1), Jm (k + (bsum mkeDerivation (l.take i) : Nat) + 1 + 1), .val v1, Jm (k + (bsum mkeDerivation (l.take i) : Nat) + 1 + 1 + 1 + (bsum mkeExpr l[i].says.pre.kids : Nat)), Jm (k + (bsum mkeDerivation (l.take i) : Nat) + 1 + 1 + 1 + (bsum mkeExpr l[i].says.pre.kids : Nat) + 1), Jm (k + (bsum mkeDerivation (l.take i) : Nat) + 1 + 1 + 1 + (bsum mkeExpr l[i].says.pre.kids : Nat) + 1 + 1), Jm (k + (bsum mkeDerivation (l.take i) : Nat) + 1 + 1 + 1 + (bsum mkeExpr l[i].says.pre.kids : Nat) + 1 + 1 + 1), .own 37 3 (l[i].says.prog.cond.kids.map ownExpr), .own 40 6 (l[i].says.prog.kids.map ownProg), .val (.int .i64 l[i].says.post.kind), .val (.int .i64 l[i].says.post.num), .own 37 3 (l[i].says.post.kids.map ownExpr), .own 45 14 (l[i].kids.map ownDerivation)] (set_get (by simp only [List.length_set]; rw [hlen]; exact hi')) ?_
    conv => whnf
    intro v2
    conv => whnf
    refine CallN.gen [true, false] _ _ _ rfl (markExprS_out l[i].says.prog.cond.kids (k + (bsum mkeDerivation (l.take i) : Nat) + 1 + 1 + 1 + (bsum mkeExpr l[i].says.pre.kids : Nat) + 1 + 1 + 1 + 1) (by omega) (by omega)) rfl rfl _ rfl ?_
    conv => whnf
    refine Need.mk ⟨by omega, by simp only [List.length_set]; rw [hlen]; exact hi'⟩ ?_
    refine Index.mk [Jm (k + (bsum mkeDerivation (l.take i) : Nat)), Jm (k + (bsum mkeDerivation (l.take i) : Nat) + 1), Jm (k + (bsum mkeDerivation (l.take i) : Nat) + 1 + 1), .val v1, Jm (k + (bsum mkeDerivation (l.take i) : Nat) + 1 + 1 + 1 + (bsum mkeExpr l[i].says.pre.kids : Nat)), Jm (k + (bsum mkeDerivation (l.take i) : Nat) + 1 + 1 + 1 + (bsum mkeExpr l[i].says.pre.kids : Nat) + 1), Jm (k + (bsum mkeDerivation (l.take i) : Nat) + 1 + 1 + 1 + (bsum mkeExpr l[i].says.pre.kids : Nat) + 1 + 1), Jm (k + (bsum mkeDerivation (l.take i) : Nat) + 1 + 1 + 1 + (bsum mkeExpr l[i].says.pre.kids : Nat) + 1 + 1 + 1), .val v2, .own 40 6 (l[i].says.prog.kids.map ownProg), .val (.int .i64 l[i].says.post.kind), .val (.int .i64 l[i].says.post.num), .own 37 3 (l[i].says.post.kids.map ownExpr), .own 45 14 (l[i].kids.map ownDerivation)] (set_get (by simp only [List.length_set]; rw [hlen]; exact hi')) ?_
    conv => whnf
    intro v3
    conv => whnf
    refine CallN.gen [true, false] _ _ _ rfl (markProgS_out l[i].says.prog.kids (k + (bsum mkeDerivation (l.take i) : Nat) + 1 + 1 + 1 + (bsum mkeExpr l[i].says.pre.kids : Nat) + 1 + 1 + 1 + 1 + (bsum mkeExpr l[i].says.prog.cond.kids : Nat)) (by omega) (by omega)) rfl rfl _ rfl ?_
    conv => whnf
    refine Need.mk ⟨by omega, by simp only [List.length_set]; rw [hlen]; exact hi'⟩ ?_
    refine Index.mk [Jm (k + (bsum mkeDerivation (l.take i) : Nat)), Jm (k + (bsum mkeDerivation (l.take i) : Nat) + 1), Jm (k + (bsum mkeDerivation (l.take i) : Nat) + 1 + 1), .val v1, Jm (k + (bsum mkeDerivation (l.take i) : Nat) + 1 + 1 + 1 + (bsum mkeExpr l[i].says.pre.kids : Nat)), Jm (k + (bsum mkeDerivation (l.take i) : Nat) + 1 + 1 + 1 + (bsum mkeExpr l[i].says.pre.kids : Nat) + 1), Jm (k + (bsum mkeDerivation (l.take i) : Nat) + 1 + 1 + 1 + (bsum mkeExpr l[i].says.pre.kids : Nat) + 1 + 1), Jm (k + (bsum mkeDerivation (l.take i) : Nat) + 1 + 1 + 1 + (bsum mkeExpr l[i].says.pre.kids : Nat) + 1 + 1 + 1), .val v2, .val v3, .val (.int .i64 l[i].says.post.kind), .val (.int .i64 l[i].says.post.num), .own 37 3 (l[i].says.post.kids.map ownExpr), .own 45 14 (l[i].kids.map ownDerivation)] (set_get (by simp only [List.length_set]; rw [hlen]; exact hi')) ?_
    conv => whnf
    refine Arith.fit (wrap_fit (z := k + (bsum mkeDerivation (l.take i) : Nat) + 1 + 1 + 1 + (bsum mkeExpr l[i].says.pre.kids : Nat) + 1 + 1 + 1 + 1 + (bsum mkeExpr l[i].says.prog.cond.kids : Nat) + (bsum mkeProg l[i].says.prog.kids : Nat) + 1) (by omega) (by omega)) ?_
    conv => whnf
    refine Need.mk ⟨by omega, by simp only [List.length_set]; rw [hlen]; exact hi'⟩ ?_
    refine Index.mk [Jm (k + (bsum mkeDerivation (l.take i) : Nat)), Jm (k + (bsum mkeDerivation (l.take i) : Nat) + 1), Jm (k + (bsum mkeDerivation (l.take i) : Nat) + 1 + 1), .val v1, Jm (k + (bsum mkeDerivation (l.take i) : Nat) + 1 + 1 + 1 + (bsum mkeExpr l[i].says.pre.kids : Nat)), Jm (k + (bsum mkeDerivation (l.take i) : Nat) + 1 + 1 + 1 + (bsum mkeExpr l[i].says.pre.kids : Nat) + 1), Jm (k + (bsum mkeDerivation (l.take i) : Nat) + 1 + 1 + 1 + (bsum mkeExpr l[i].says.pre.kids : Nat) + 1 + 1), Jm (k + (bsum mkeDerivation (l.take i) : Nat) + 1 + 1 + 1 + (bsum mkeExpr l[i].says.pre.kids : Nat) + 1 + 1 + 1), .val v2, .val v3, Jm (k + (bsum mkeDerivation (l.take i) : Nat) + 1 + 1 + 1 + (bsum mkeExpr l[i].says.pre.kids : Nat) + 1 + 1 + 1 + 1 + (bsum mkeExpr l[i].says.prog.cond.kids : Nat) + (bsum mkeProg l[i].says.prog.kids : Nat)), .val (.int .i64 l[i].says.post.num), .own 37 3 (l[i].says.post.kids.map ownExpr), .own 45 14 (l[i].kids.map ownDerivation)] (set_get (by simp only [List.length_set]; rw [hlen]; exact hi')) ?_
    conv => whnf
    refine Arith.fit (wrap_fit (z := k + (bsum mkeDerivation (l.take i) : Nat) + 1 + 1 + 1 + (bsum mkeExpr l[i].says.pre.kids : Nat) + 1 + 1 + 1 + 1 + (bsum mkeExpr l[i].says.prog.cond.kids : Nat) + (bsum mkeProg l[i].says.prog.kids : Nat) + 1 + 1) (by omega) (by omega)) ?_
    conv => whnf
    refine Need.mk ⟨by omega, by simp only [List.length_set]; rw [hlen]; exact hi'⟩ ?_
    refine Index.mk [Jm (k + (bsum mkeDerivation (l.take i) : Nat)), Jm (k + (bsum mkeDerivation (l.take i) : Nat) + 1), Jm (k + (bsum mkeDerivation (l.take i) : Nat) + 1 + 1), .val v1, Jm (k + (bsum mkeDerivation (l.take i) : Nat) + 1 + 1 + 1 + (bsum mkeExpr l[i].says.pre.kids : Nat)), Jm (k + (bsum mkeDerivation (l.take i) : Nat) + 1 + 1 + 1 + (bsum mkeExpr l[i].says.pre.kids : Nat) + 1), Jm (k + (bsum mkeDerivation (l.take i) : Nat) + 1 + 1 + 1 + (bsum mkeExpr l[i].says.pre.kids : Nat) + 1 + 1), Jm (k + (bsum mkeDerivation (l.take i) : Nat) + 1 + 1 + 1 + (bsum mkeExpr l[i].says.pre.kids : Nat) + 1 + 1 + 1), .val v2, .val v3, Jm (k + (bsum mkeDerivation (l.take i) : Nat) + 1 + 1 + 1 + (bsum mkeExpr l[i].says.pre.kids : Nat) + 1 + 1 + 1 + 1 + (bsum mkeExpr l[i].says.prog.cond.kids : Nat) + (bsum mkeProg l[i].says.prog.kids : Nat)), Jm (k + (bsum mkeDerivation (l.take i) : Nat) + 1 + 1 + 1 + (bsum mkeExpr l[i].says.pre.kids : Nat) + 1 + 1 + 1 + 1 + (bsum mkeExpr l[i].says.prog.cond.kids : Nat) + (bsum mkeProg l[i].says.prog.kids : Nat) + 1), .own 37 3 (l[i].says.post.kids.map ownExpr), .own 45 14 (l[i].kids.map ownDerivation)] (set_get (by simp only [List.length_set]; rw [hlen]; exact hi')) ?_
    conv => whnf
    intro v4
    conv => whnf
    refine CallN.gen [true, false] _ _ _ rfl (markExprS_out l[i].says.post.kids (k + (bsum mkeDerivation (l.take i) : Nat) + 1 + 1 + 1 + (bsum mkeExpr l[i].says.pre.kids : Nat) + 1 + 1 + 1 + 1 + (bsum mkeExpr l[i].says.prog.cond.kids : Nat) + (bsum mkeProg l[i].says.prog.kids : Nat) + 1 + 1) (by omega) (by omega)) rfl rfl _ rfl ?_
    conv => whnf
    refine Need.mk ⟨by omega, by simp only [List.length_set]; rw [hlen]; exact hi'⟩ ?_
    refine Index.mk [Jm (k + (bsum mkeDerivation (l.take i) : Nat)), Jm (k + (bsum mkeDerivation (l.take i) : Nat) + 1), Jm (k + (bsum mkeDerivation (l.take i) : Nat) + 1 + 1), .val v1, Jm (k + (bsum mkeDerivation (l.take i) : Nat) + 1 + 1 + 1 + (bsum mkeExpr l[i].says.pre.kids : Nat)), Jm (k + (bsum mkeDerivation (l.take i) : Nat) + 1 + 1 + 1 + (bsum mkeExpr l[i].says.pre.kids : Nat) + 1), Jm (k + (bsum mkeDerivation (l.take i) : Nat) + 1 + 1 + 1 + (bsum mkeExpr l[i].says.pre.kids : Nat) + 1 + 1), Jm (k + (bsum mkeDerivation (l.take i) : Nat) + 1 + 1 + 1 + (bsum mkeExpr l[i].says.pre.kids : Nat) + 1 + 1 + 1), .val v2, .val v3, Jm (k + (bsum mkeDerivation (l.take i) : Nat) + 1 + 1 + 1 + (bsum mkeExpr l[i].says.pre.kids : Nat) + 1 + 1 + 1 + 1 + (bsum mkeExpr l[i].says.prog.cond.kids : Nat) + (bsum mkeProg l[i].says.prog.kids : Nat)), Jm (k + (bsum mkeDerivation (l.take i) : Nat) + 1 + 1 + 1 + (bsum mkeExpr l[i].says.pre.kids : Nat) + 1 + 1 + 1 + 1 + (bsum mkeExpr l[i].says.prog.cond.kids : Nat) + (bsum mkeProg l[i].says.prog.kids : Nat) + 1), .val v4, .own 45 14 (l[i].kids.map ownDerivation)] (set_get (by simp only [List.length_set]; rw [hlen]; exact hi')) ?_
    conv => whnf
    intro v5
    conv => whnf
    refine CallN.gen [true, false] _ _ _ rfl (hx l[i] (List.getElem_mem hi') (k + (bsum mkeDerivation (l.take i) : Nat) + 1 + 1 + 1 + (bsum mkeExpr l[i].says.pre.kids : Nat) + 1 + 1 + 1 + 1 + (bsum mkeExpr l[i].says.prog.cond.kids : Nat) + (bsum mkeProg l[i].says.prog.kids : Nat) + 1 + 1 + (bsum mkeExpr l[i].says.post.kids : Nat)) (by omega) (by omega)) rfl rfl _ rfl ?_
    conv => whnf
    refine Arith.fit (wrap_fit (z := (i : Int) + 1) (by omega) (by simp only [maxLen] at hL; omega)) ?_
    conv => whnf
    refine Gh.close 0 i 3 1 rfl (set_get (by simp only [List.length_set]; rw [hlen]; exact hi')) rfl rfl rfl ?_
    refine Gh.close 0 i 8 2 rfl (set_get (by simp only [List.length_set]; rw [hlen]; exact hi')) rfl rfl rfl ?_
    refine Gh.close 0 i 9 3 rfl (set_get (by simp only [List.length_set]; rw [hlen]; exact hi')) rfl rfl rfl ?_
    refine Gh.close 0 i 12 4 rfl (set_get (by simp only [List.length_set]; rw [hlen]; exact hi')) rfl rfl rfl ?_
    refine Gh.close 0 i 13 5 rfl (set_get (by simp only [List.length_set]; rw [hlen]; exact hi')) rfl rfl rfl ?_
    refine Gh.go ⟨i + 1, hi', (by show l.length - (i + 1) < l.length - i; omega), ⟨⟨rfl, rfl⟩, ⟨?_, rfl⟩, trivial⟩, ⟨⟨rfl, rfl⟩, trivial⟩, ⟨⟨?_, rfl⟩, trivial⟩⟩
    · refine congrArg I ?_
      show k + (bsum mkeDerivation (l.take i) : Nat) + 1 + 1 + 1 + (bsum mkeExpr l[i].says.pre.kids : Nat) + 1 + 1 + 1 + 1 + (bsum mkeExpr l[i].says.prog.cond.kids : Nat) + (bsum mkeProg l[i].says.prog.kids : Nat) + 1 + 1 + (bsum mkeExpr l[i].says.post.kids : Nat) + (bsum mkeDerivation l[i].kids : Nat) = k + (bsum mkeDerivation (l.take (i + 1)) : Nat)
      omega
    · refine congrArg (Blk.orow none 45 14) ?_
      refine hfL_row (d := k + (bsum mkeDerivation (l.take i) : Nat)) (r := [Jm (k + (bsum mkeDerivation (l.take i) : Nat)), Jm (k + (bsum mkeDerivation (l.take i) : Nat) + 1), Jm (k + (bsum mkeDerivation (l.take i) : Nat) + 1 + 1), .own 37 3 ((mkdL mkdExpr mkeExpr (l[i].says.pre.kids) (k + (bsum mkeDerivation (l.take i) : Nat) + 1 + 1 + 1)).map ownExpr), Jm (k + (bsum mkeDerivation (l.take i) : Nat) + 1 + 1 + 1 + (bsum mkeExpr (l[i].says.pre.kids) : Nat)), Jm (k + (bsum mkeDerivation (l.take i) : Nat) + 1 + 1 + 1 + (bsum mkeExpr (l[i].says.pre.kids) : Nat) + 1), Jm (k + (bsum mkeDerivation (l.take i) : Nat) + 1 + 1 + 1 + (bsum mkeExpr (l[i].says.pre.kids) : Nat) + 1 + 1), Jm (k + (bsum mkeDerivation (l.take i) : Nat) + 1 + 1 + 1 + (bsum mkeExpr (l[i].says.pre.kids) : Nat) + 1 + 1 + 1), .own 37 3 ((mkdL mkdExpr mkeExpr (l[i].says.prog.cond.kids) (k + (bsum mkeDerivation (l.take i) : Nat) + 1 + 1 + 1 + (bsum mkeExpr (l[i].says.pre.kids) : Nat) + 1 + 1 + 1 + 1)).map ownExpr), .own 40 6 ((mkdL mkdProg mkeProg (l[i].says.prog.kids) (k + (bsum mkeDerivation (l.take i) : Nat) + 1 + 1 + 1 + (bsum mkeExpr (l[i].says.pre.kids) : Nat) + 1 + 1 + 1 + 1 + (bsum mkeExpr (l[i].says.prog.cond.kids) : Nat))).map ownProg), Jm (k + (bsum mkeDerivation (l.take i) : Nat) + 1 + 1 + 1 + (bsum mkeExpr (l[i].says.pre.kids) : Nat) + 1 + 1 + 1 + 1 + (bsum mkeExpr (l[i].says.prog.cond.kids) : Nat) + (bsum mkeProg (l[i].says.prog.kids) : Nat)), Jm (k + (bsum mkeDerivation (l.take i) : Nat) + 1 + 1 + 1 + (bsum mkeExpr (l[i].says.pre.kids) : Nat) + 1 + 1 + 1 + 1 + (bsum mkeExpr (l[i].says.prog.cond.kids) : Nat) + (bsum mkeProg (l[i].says.prog.kids) : Nat) + 1), .own 37 3 ((mkdL mkdExpr mkeExpr (l[i].says.post.kids) (k + (bsum mkeDerivation (l.take i) : Nat) + 1 + 1 + 1 + (bsum mkeExpr (l[i].says.pre.kids) : Nat) + 1 + 1 + 1 + 1 + (bsum mkeExpr (l[i].says.prog.cond.kids) : Nat) + (bsum mkeProg (l[i].says.prog.kids) : Nat) + 1 + 1)).map ownExpr), .own 45 14 ((mkdL mkdDerivation mkeDerivation (l[i].kids) (k + (bsum mkeDerivation (l.take i) : Nat) + 1 + 1 + 1 + (bsum mkeExpr (l[i].says.pre.kids) : Nat) + 1 + 1 + 1 + 1 + (bsum mkeExpr (l[i].says.prog.cond.kids) : Nat) + (bsum mkeProg (l[i].says.prog.kids) : Nat) + 1 + 1 + (bsum mkeExpr (l[i].says.post.kids) : Nat))).map ownDerivation)]) hi' rfl (by rw [mkdDerivation_eq, ownDerivation_eq]; rfl) ?_
      rw [Int.toNat_natCast]
      repeat rw [List.set_set]
      all_goals rfl
  · have h : ¬ (i : Int) < (((hfL mkdDerivation mkeDerivation l k i).map ownDerivation).length : Nat) := of_decide_eq_false h
    have : i = l.length := by omega
    subst this
    refine RetX.mk ?_ ⟨?_, trivial⟩
    · refine congrArg I ?_
      rw [List.take_length]
    · rw [← hfL_end]
      rfl
theorem markDerivationS_out : ∀ (l : List XDerivation) (k : Int), 0 ≤ k → k + (bsum mkeDerivation l : Nat) ≤ 4611686018427387904 → CallX Tryz.prog 54 [.c (.own 45 14 (l.map ownDerivation)), I k] [some [.own 45 14 ((mkdL mkdDerivation mkeDerivation l k).map ownDerivation)], none] (I (k + (bsum mkeDerivation l : Nat)))
  | l, k, h0, hk => markDerivationS_outA l k h0 hk fun x _hm k h0 hk => markDerivationS_out x.kids k h0 hk
  termination_by l => SizeOf.sizeOf l
  decreasing_by
    have h1 := List.sizeOf_lt_of_mem _hm
    have h2 : SizeOf.sizeOf x.kids < SizeOf.sizeOf x := by
      cases x
      simp only [XDerivation.mk.sizeOf_spec, XDerivation.kids]
      omega
    omega
theorem heldDerivationS_mkA (l : List XDerivation) (k : Int) (h0 : 0 ≤ k) (hk : k + (bsum mkeDerivation l : Nat) ≤ 4611686018427387904) (hx : ∀ x ∈ l, ∀ k : Int, 0 ≤ k → k + (bsum mkeDerivation x.kids : Nat) ≤ 4611686018427387904 → CallF Tryz.prog 56 [.c (.ro 14 ((mkdL mkdDerivation mkeDerivation x.kids k).map encDerivation)), I k] (I (k + (bsum mkeDerivation x.kids : Nat)))) : CallF Tryz.prog 56 [.c (.ro 14 ((mkdL mkdDerivation mkeDerivation l k).map encDerivation)), I k] (I (k + (bsum mkeDerivation l : Nat))) := by
  have hl := mkdL_len (f := mkdDerivation) (c := mkeDerivation) l k
  have hs : ∀ i, (hi : i < l.length) → bsum mkeDerivation (l.take (i + 1)) = bsum mkeDerivation (l.take i) + (9 + bsum mkeExpr l[i].says.pre.kids + bsum mkeExpr l[i].says.prog.cond.kids + bsum mkeProg l[i].says.prog.kids + bsum mkeExpr l[i].says.post.kids + bsum mkeDerivation l[i].kids) ∧ bsum mkeDerivation (l.take (i + 1)) ≤ bsum mkeDerivation l := fun i hi => by
    have h1 := bsum_take (f := mkeDerivation) (List.getElem?_eq_getElem hi)
    have h2 := bsum_le (f := mkeDerivation) l (i + 1)
    have h3 : mkeDerivation l[i] = 9 + bsum mkeExpr l[i].says.pre.kids + bsum mkeExpr l[i].says.prog.cond.kids + bsum mkeProg l[i].says.prog.kids + bsum mkeExpr l[i].says.post.kids + bsum mkeDerivation l[i].kids := mkeDerivation_eq _
    omega
  have hix : ∀ (i : Nat) (c : Int) (hi : i < l.length), c = k + (bsum mkeDerivation (l.take i) : Nat) → ((mkdL mkdDerivation mkeDerivation l k).map encDerivation)[i]? = some [Jm (c), Jm (c + 1), Jm (c + 1 + 1), .ro 3 ((mkdL mkdExpr mkeExpr (l[i].says.pre.kids) (c + 1 + 1 + 1)).map encExpr), Jm (c + 1 + 1 + 1 + (bsum mkeExpr (l[i].says.pre.kids) : Nat)), Jm (c + 1 + 1 + 1 + (bsum mkeExpr (l[i].says.pre.kids) : Nat) + 1), Jm (c + 1 + 1 + 1 + (bsum mkeExpr (l[i].says.pre.kids) : Nat) + 1 + 1), Jm (c + 1 + 1 + 1 + (bsum mkeExpr (l[i].says.pre.kids) : Nat) + 1 + 1 + 1), .ro 3 ((mkdL mkdExpr mkeExpr (l[i].says.prog.cond.kids) (c + 1 + 1 + 1 + (bsum mkeExpr (l[i].says.pre.kids) : Nat) + 1 + 1 + 1 + 1)).map encExpr), .ro 6 ((mkdL mkdProg mkeProg (l[i].says.prog.kids) (c + 1 + 1 + 1 + (bsum mkeExpr (l[i].says.pre.kids) : Nat) + 1 + 1 + 1 + 1 + (bsum mkeExpr (l[i].says.prog.cond.kids) : Nat))).map encProg), Jm (c + 1 + 1 + 1 + (bsum mkeExpr (l[i].says.pre.kids) : Nat) + 1 + 1 + 1 + 1 + (bsum mkeExpr (l[i].says.prog.cond.kids) : Nat) + (bsum mkeProg (l[i].says.prog.kids) : Nat)), Jm (c + 1 + 1 + 1 + (bsum mkeExpr (l[i].says.pre.kids) : Nat) + 1 + 1 + 1 + 1 + (bsum mkeExpr (l[i].says.prog.cond.kids) : Nat) + (bsum mkeProg (l[i].says.prog.kids) : Nat) + 1), .ro 3 ((mkdL mkdExpr mkeExpr (l[i].says.post.kids) (c + 1 + 1 + 1 + (bsum mkeExpr (l[i].says.pre.kids) : Nat) + 1 + 1 + 1 + 1 + (bsum mkeExpr (l[i].says.prog.cond.kids) : Nat) + (bsum mkeProg (l[i].says.prog.kids) : Nat) + 1 + 1)).map encExpr), .ro 14 ((mkdL mkdDerivation mkeDerivation (l[i].kids) (c + 1 + 1 + 1 + (bsum mkeExpr (l[i].says.pre.kids) : Nat) + 1 + 1 + 1 + 1 + (bsum mkeExpr (l[i].says.prog.cond.kids) : Nat) + (bsum mkeProg (l[i].says.prog.kids) : Nat) + 1 + 1 + (bsum mkeExpr (l[i].says.post.kids) : Nat))).map encDerivation)] := fun i c hi hc => mkdL_idx hi hc (by rw [mkdDerivation_eq, encDerivation_eq]; rfl)
  refine callF_of_vc htb hm Tryz.func56 rfl rfl rfl rfl (ann := fun _ => none) (gh := fun _ => false) ?_
  repeat' ((conv => whnf); first | (guard_target = Done _; refine Done.mk ?_; first | ((have e : i = l.length := (by omega); have h9 := ha.2; rw [e, List.take_length] at h9; rw [h9]; rfl); done) | skip) | (guard_target = RetX _ _; refine RetX.mk ?_ ?_) | (guard_target =~ LoopE 2 _ _ _ _ _ _; refine LoopE.mk { α := Nat × Int, keep := [0], ov := fun ⟨i, c⟩ => [(1, I c), (5, I (i : Nat))], φ := fun ⟨i, c⟩ => i ≤ l.length ∧ c = k + (bsum mkeDerivation (l.take i) : Nat), μ := fun ⟨i, c⟩ => l.length - i } (LoopN.mk ((0, k) : Nat × Int) (by exact ⟨Nat.zero_le _, by simp [bsum]⟩) (by (repeat' ((conv => whnf) <;> (first | exact trivial | refine ⟨?_, ?_⟩ | kernel_rfl))); done) (by (repeat' ((conv => whnf) <;> (first | exact trivial | refine ⟨?_, ?_⟩ | kernel_rfl))); done) (by (repeat' ((conv => whnf) <;> (first | exact trivial | refine ⟨?_, ?_⟩ | exact rfl | (simp only [List.map_append, List.map_cons, List.map_nil, List.map_set]; first | done | rfl)))); done) (fun A ha => ?_) (by intro A; first | rfl | (obtain ⟨_, _⟩ := A; rfl) | (obtain ⟨_, _, _⟩ := A; rfl))); obtain ⟨i, c⟩ := A; have ha : i ≤ l.length ∧ c = k + (bsum mkeDerivation (l.take i) : Nat) := ha; have hsi := hs i; have hc2 := ha.2; have hb9 := bsum_le (f := mkeDerivation) l i) | (guard_target = Gh _ _ _ _ _; refine Gh.go ⟨((i + 1, c + 1 + 1 + 1 + (bsum mkeExpr l[i].says.pre.kids : Nat) + 1 + 1 + 1 + 1 + (bsum mkeExpr l[i].says.prog.cond.kids : Nat) + (bsum mkeProg l[i].says.prog.kids : Nat) + 1 + 1 + (bsum mkeExpr l[i].says.post.kids : Nat) + (bsum mkeDerivation l[i].kids : Nat)) : Nat × Int), (by (have hi9 : i < l.length := (by omega); have h9 := hsi hi9; refine ⟨hi9, ?_⟩; show c + 1 + 1 + 1 + (bsum mkeExpr l[i].says.pre.kids : Nat) + 1 + 1 + 1 + 1 + (bsum mkeExpr l[i].says.prog.cond.kids : Nat) + (bsum mkeProg l[i].says.prog.kids : Nat) + 1 + 1 + (bsum mkeExpr l[i].says.post.kids : Nat) + (bsum mkeDerivation l[i].kids : Nat) = k + (bsum mkeDerivation (l.take (i + 1)) : Nat); omega)), (by first | (show _ < _; simp only []; omega) | omega | (simp; omega)), (by (repeat' ((conv => whnf) <;> (first | exact trivial | refine ⟨?_, ?_⟩ | kernel_rfl))); done), (by (repeat' ((conv => whnf) <;> (first | exact trivial | refine ⟨?_, ?_⟩ | kernel_rfl))); done), (by (repeat' ((conv => whnf) <;> (first | exact trivial | refine ⟨?_, ?_⟩ | exact rfl | (simp only [List.map_append, List.map_cons, List.map_nil, List.map_set]; first | done | rfl)))); done)⟩) | (guard_target = Fact _ _; refine Fact.mk fun hL => ?_; (try simp only [List.length_map, maxLen] at hL)) | (guard_target = Branch _ _ _; (first | refine Branch.dec ?_ ?_ | refine Branch.beq ?_ ?_ | refine Branch.bne ?_ ?_ | refine Branch.ndec ?_ ?_ | refine Branch.nb ?_ ?_ | refine Branch.mk ?_ ?_) <;> intro h <;> (try simp only [List.length_map] at h) <;> (try omega) <;> (try contradiction)) | (guard_target = CallN _ 118 _ _ _ _; refine CallN.pure _ _ rfl (heldExprS_mk l[i].says.pre.kids (c + 1 + 1 + 1) (by omega) (by have h9 := hsi (by omega); omega)) rfl _ rfl ?_) | (guard_target = CallN _ 118 _ _ _ _; refine CallN.pure _ _ rfl (heldExprS_mk l[i].says.prog.cond.kids (c + 1 + 1 + 1 + (bsum mkeExpr l[i].says.pre.kids : Nat) + 1 + 1 + 1 + 1) (by omega) (by have h9 := hsi (by omega); omega)) rfl _ rfl ?_) | (guard_target = CallN _ 119 _ _ _ _; refine CallN.pure _ _ rfl (heldProgS_mk l[i].says.prog.kids (c + 1 + 1 + 1 + (bsum mkeExpr l[i].says.pre.kids : Nat) + 1 + 1 + 1 + 1 + (bsum mkeExpr l[i].says.prog.cond.kids : Nat)) (by omega) (by have h9 := hsi (by omega); omega)) rfl _ rfl ?_) | (guard_target = CallN _ 118 _ _ _ _; refine CallN.pure _ _ rfl (heldExprS_mk l[i].says.post.kids (c + 1 + 1 + 1 + (bsum mkeExpr l[i].says.pre.kids : Nat) + 1 + 1 + 1 + 1 + (bsum mkeExpr l[i].says.prog.cond.kids : Nat) + (bsum mkeProg l[i].says.prog.kids : Nat) + 1 + 1) (by omega) (by have h9 := hsi (by omega); omega)) rfl _ rfl ?_) | (guard_target = CallN _ 56 _ _ _ _; refine CallN.pure _ _ rfl (hx l[i] (List.getElem_mem (by omega)) (c + 1 + 1 + 1 + (bsum mkeExpr l[i].says.pre.kids : Nat) + 1 + 1 + 1 + 1 + (bsum mkeExpr l[i].says.prog.cond.kids : Nat) + (bsum mkeProg l[i].says.prog.kids : Nat) + 1 + 1 + (bsum mkeExpr l[i].says.post.kids : Nat)) (by omega) (by have h9 := hsi (by omega); omega)) rfl _ rfl ?_) | (guard_target = Arith _ _ _; refine Arith.fit (wrap_fit (by (first | omega | (have h9 := hsi (by omega); omega) | (simp only [List.length_map]; omega))) (by (first | omega | (have h9 := hsi (by omega); omega) | (simp only [List.length_map]; omega)))) ?_) | (guard_target = Arith _ _ _; refine Arith.fit (by decide) ?_) | (guard_target = Index _ _ _; first | refine Index.mk _ (hix i c (by omega) ha.2) ?_ | refine Index.mk _ (hix i _ (by omega) ha.2) ?_ | refine Index.mk _ (idx_map (by omega)) ?_) | (guard_target = Need (_ = true) _; refine Need.mk (by first | kernel_rfl | rfl) ?_) | (guard_target = LinkV _ _ _; first  | refine LinkV.no ?_) | (guard_target = GhO _ _ _ _; refine GhO.go ?_) | (guard_target = Need _ _; refine Need.mk (by first  | omega | (simp only [List.length_map]; omega)) ?_))
theorem heldDerivationS_mk : ∀ (l : List XDerivation) (k : Int), 0 ≤ k → k + (bsum mkeDerivation l : Nat) ≤ 4611686018427387904 → CallF Tryz.prog 56 [.c (.ro 14 ((mkdL mkdDerivation mkeDerivation l k).map encDerivation)), I k] (I (k + (bsum mkeDerivation l : Nat)))
  | l, k, h0, hk => heldDerivationS_mkA l k h0 hk fun x _hm k h0 hk => heldDerivationS_mk x.kids k h0 hk
  termination_by l => SizeOf.sizeOf l
  decreasing_by
    have h1 := List.sizeOf_lt_of_mem _hm
    have h2 : SizeOf.sizeOf x.kids < SizeOf.sizeOf x := by
      cases x
      simp only [XDerivation.mk.sizeOf_spec, XDerivation.kids]
      omega
    omega
def mkvDerivation (x : XDerivation) (k : Int) : XDerivation := (XDerivation.mk x.rule (XTriple.mk (XExpr.mk x.says.pre.kind x.says.pre.num (mkdL mkdExpr mkeExpr x.says.pre.kids k)) (XProg.mk x.says.prog.kind x.says.prog.num (XExpr.mk x.says.prog.cond.kind x.says.prog.cond.num (mkdL mkdExpr mkeExpr x.says.prog.cond.kids (k + (bsum mkeExpr x.says.pre.kids : Nat)))) (mkdL mkdProg mkeProg x.says.prog.kids (k + (bsum mkeExpr x.says.pre.kids : Nat) + (bsum mkeExpr x.says.prog.cond.kids : Nat)))) (XExpr.mk x.says.post.kind x.says.post.num (mkdL mkdExpr mkeExpr x.says.post.kids (k + (bsum mkeExpr x.says.pre.kids : Nat) + (bsum mkeExpr x.says.prog.cond.kids : Nat) + (bsum mkeProg x.says.prog.kids : Nat))))) (mkdL mkdDerivation mkeDerivation x.kids (k + (bsum mkeExpr x.says.pre.kids : Nat) + (bsum mkeExpr x.says.prog.cond.kids : Nat) + (bsum mkeProg x.says.prog.kids : Nat) + (bsum mkeExpr x.says.post.kids : Nat))))
theorem markDerivation_out (x : XDerivation) (k : Int) (h0 : 0 ≤ k) (hk : k + (bsum mkeExpr x.says.pre.kids + bsum mkeExpr x.says.prog.cond.kids + bsum mkeProg x.says.prog.kids + bsum mkeExpr x.says.post.kids + bsum mkeDerivation x.kids : Nat) ≤ 4611686018427387904) : CallX Tryz.prog 17 [.m [.c (.val (.int .i64 x.rule)), .c (.val (.int .i64 x.says.pre.kind)), .c (.val (.int .i64 x.says.pre.num)), .c (.own 37 3 (x.says.pre.kids.map ownExpr)), .c (.val (.int .i64 x.says.prog.kind)), .c (.val (.int .i64 x.says.prog.num)), .c (.val (.int .i64 x.says.prog.cond.kind)), .c (.val (.int .i64 x.says.prog.cond.num)), .c (.own 37 3 (x.says.prog.cond.kids.map ownExpr)), .c (.own 40 6 (x.says.prog.kids.map ownProg)), .c (.val (.int .i64 x.says.post.kind)), .c (.val (.int .i64 x.says.post.num)), .c (.own 37 3 (x.says.post.kids.map ownExpr)), .c (.own 45 14 (x.kids.map ownDerivation))], I k] [some [Jm (x.rule), Jm (x.says.pre.kind), Jm (x.says.pre.num), .own 37 3 ((mkdL mkdExpr mkeExpr x.says.pre.kids k).map ownExpr), Jm (x.says.prog.kind), Jm (x.says.prog.num), Jm (x.says.prog.cond.kind), Jm (x.says.prog.cond.num), .own 37 3 ((mkdL mkdExpr mkeExpr x.says.prog.cond.kids (k + (bsum mkeExpr x.says.pre.kids : Nat))).map ownExpr), .own 40 6 ((mkdL mkdProg mkeProg x.says.prog.kids (k + (bsum mkeExpr x.says.pre.kids : Nat) + (bsum mkeExpr x.says.prog.cond.kids : Nat))).map ownProg), Jm (x.says.post.kind), Jm (x.says.post.num), .own 37 3 ((mkdL mkdExpr mkeExpr x.says.post.kids (k + (bsum mkeExpr x.says.pre.kids : Nat) + (bsum mkeExpr x.says.prog.cond.kids : Nat) + (bsum mkeProg x.says.prog.kids : Nat))).map ownExpr), .own 45 14 ((mkdL mkdDerivation mkeDerivation x.kids (k + (bsum mkeExpr x.says.pre.kids : Nat) + (bsum mkeExpr x.says.prog.cond.kids : Nat) + (bsum mkeProg x.says.prog.kids : Nat) + (bsum mkeExpr x.says.post.kids : Nat))).map ownDerivation)], none] (I (k + (bsum mkeExpr x.says.pre.kids : Nat) + (bsum mkeExpr x.says.prog.cond.kids : Nat) + (bsum mkeProg x.says.prog.kids : Nat) + (bsum mkeExpr x.says.post.kids : Nat) + (bsum mkeDerivation x.kids : Nat))) := by
  refine callX_of_vc htb hm Tryz.func17 rfl rfl rfl rfl (ann := fun _ => none) (gh := fun _ => false) ?_
  repeat' ((conv => whnf); first | (guard_target = Done _; refine Done.mk ?_) | (guard_target = RetX _ _; refine RetX.mk ?_ ?_) | (guard_target = Fact _ _; refine Fact.mk fun hL => ?_; (try simp only [List.length_map, maxLen] at hL)) | (guard_target = Branch _ _ _; (first | refine Branch.dec ?_ ?_ | refine Branch.beq ?_ ?_ | refine Branch.bne ?_ ?_ | refine Branch.ndec ?_ ?_ | refine Branch.nb ?_ ?_ | refine Branch.mk ?_ ?_) <;> intro h <;> (try simp only [List.length_map] at h) <;> (try omega) <;> (try contradiction)) | (guard_target = CallN _ 16 _ _ _ _; refine CallN.gen [true, false] _ _ _ rfl (markTriple_out x.says (k) (by omega) (by omega)) rfl rfl _ rfl ?_) | (guard_target = CallN _ 54 _ _ _ _; refine CallN.gen [true, false] _ _ _ rfl (markDerivationS_out x.kids (k + (bsum mkeExpr x.says.pre.kids : Nat) + (bsum mkeExpr x.says.prog.cond.kids : Nat) + (bsum mkeProg x.says.prog.kids : Nat) + (bsum mkeExpr x.says.post.kids : Nat)) (by omega) (by omega)) rfl rfl _ rfl ?_) | (guard_target = Arith _ _ _; refine Arith.fit (wrap_fit (by first | omega | (simp only [List.length_map]; omega)) (by first | omega | (simp only [List.length_map]; omega))) ?_) | (guard_target = Arith _ _ _; refine Arith.fit (by decide) ?_) | (guard_target = Index _ _ _; first  | refine Index.mk _ (idx_map (by omega)) ?_) | (guard_target = Need (_ = true) _; refine Need.mk (by first | kernel_rfl | rfl) ?_) | (guard_target = LinkV _ _ _; first  | refine LinkV.no ?_) | (guard_target = GhO _ _ _ _; refine GhO.go ?_) | (guard_target = Need _ _; refine Need.mk (by first  | omega | (simp only [List.length_map]; omega)) ?_))
  all_goals first | rfl | exact ⟨rfl, trivial⟩ | trivial
theorem heldDerivation_mk (x : XDerivation) (k : Int) (h0 : 0 ≤ k) (hk : k + (bsum mkeExpr x.says.pre.kids + bsum mkeExpr x.says.prog.cond.kids + bsum mkeProg x.says.prog.kids + bsum mkeExpr x.says.post.kids + bsum mkeDerivation x.kids : Nat) ≤ 4611686018427387904) : CallF Tryz.prog 18 [.a 14 [Jm (x.rule), Jm (x.says.pre.kind), Jm (x.says.pre.num), .ro 3 ((mkdL mkdExpr mkeExpr x.says.pre.kids k).map encExpr), Jm (x.says.prog.kind), Jm (x.says.prog.num), Jm (x.says.prog.cond.kind), Jm (x.says.prog.cond.num), .ro 3 ((mkdL mkdExpr mkeExpr x.says.prog.cond.kids (k + (bsum mkeExpr x.says.pre.kids : Nat))).map encExpr), .ro 6 ((mkdL mkdProg mkeProg x.says.prog.kids (k + (bsum mkeExpr x.says.pre.kids : Nat) + (bsum mkeExpr x.says.prog.cond.kids : Nat))).map encProg), Jm (x.says.post.kind), Jm (x.says.post.num), .ro 3 ((mkdL mkdExpr mkeExpr x.says.post.kids (k + (bsum mkeExpr x.says.pre.kids : Nat) + (bsum mkeExpr x.says.prog.cond.kids : Nat) + (bsum mkeProg x.says.prog.kids : Nat))).map encExpr), .ro 14 ((mkdL mkdDerivation mkeDerivation x.kids (k + (bsum mkeExpr x.says.pre.kids : Nat) + (bsum mkeExpr x.says.prog.cond.kids : Nat) + (bsum mkeProg x.says.prog.kids : Nat) + (bsum mkeExpr x.says.post.kids : Nat))).map encDerivation)], I k] (I (k + (bsum mkeExpr x.says.pre.kids : Nat) + (bsum mkeExpr x.says.prog.cond.kids : Nat) + (bsum mkeProg x.says.prog.kids : Nat) + (bsum mkeExpr x.says.post.kids : Nat) + (bsum mkeDerivation x.kids : Nat))) := by
  refine callF_of_vc htb hm Tryz.func18 rfl rfl rfl rfl (ann := fun _ => none) (gh := fun _ => false) ?_
  repeat' ((conv => whnf); first | (guard_target = Done _; refine Done.mk ?_; first | (rfl; done) | skip) | (guard_target = RetX _ _; refine RetX.mk ?_ ?_) | (guard_target = Fact _ _; refine Fact.mk fun hL => ?_; (try simp only [List.length_map, maxLen] at hL)) | (guard_target = Branch _ _ _; (first | refine Branch.dec ?_ ?_ | refine Branch.beq ?_ ?_ | refine Branch.bne ?_ ?_ | refine Branch.ndec ?_ ?_ | refine Branch.nb ?_ ?_ | refine Branch.mk ?_ ?_) <;> intro h <;> (try simp only [List.length_map] at h) <;> (try omega) <;> (try contradiction)) | (guard_target = CallN _ 55 _ _ _ _; refine CallN.pure _ _ rfl (heldTriple_mk x.says (k) (by omega) (by omega)) rfl _ rfl ?_) | (guard_target = CallN _ 56 _ _ _ _; refine CallN.pure _ _ rfl (heldDerivationS_mk x.kids (k + (bsum mkeExpr x.says.pre.kids : Nat) + (bsum mkeExpr x.says.prog.cond.kids : Nat) + (bsum mkeProg x.says.prog.kids : Nat) + (bsum mkeExpr x.says.post.kids : Nat)) (by omega) (by omega)) rfl _ rfl ?_) | (guard_target = Arith _ _ _; refine Arith.fit (wrap_fit (by first | omega | (simp only [List.length_map]; omega)) (by first | omega | (simp only [List.length_map]; omega))) ?_) | (guard_target = Arith _ _ _; refine Arith.fit (by decide) ?_) | (guard_target = Index _ _ _; first  | refine Index.mk _ (idx_map (by omega)) ?_) | (guard_target = Need (_ = true) _; refine Need.mk (by first | kernel_rfl | rfl) ?_) | (guard_target = LinkV _ _ _; first  | refine LinkV.no ?_) | (guard_target = GhO _ _ _ _; refine GhO.go ?_) | (guard_target = Need _ _; refine Need.mk (by first  | omega | (simp only [List.length_map]; omega)) ?_))
end Go.Proofs.YtmpcfplelpdbhaaGreat
