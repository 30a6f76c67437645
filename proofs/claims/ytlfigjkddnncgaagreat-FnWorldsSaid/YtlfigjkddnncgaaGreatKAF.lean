/- Contracts of the functions that look whether a program is valid, second part. No conditions. -/
import Derived.Test.YtlfigjkddnncgaaGreatKAE
namespace Go.Proofs.YtlfigjkddnncgaaGreat
open Go Go.KA Go.Proofs
set_option maxHeartbeats 16000000
set_option maxRecDepth 100000
theorem isProg_ok (t a : Int) (ht : 0 ≤ t ∧ t ≤ 3) (ha : 0 ≤ a ∧ a ≤ 4) (e : XProg) : CallF Tryz.prog 57 [.a 2 [J t, J a], .a 6 (encProg e)] (B (goodP t a e)) := by
  rw [← pfE_good]
  refine callF_of_vc htb hm Tryz.func57 rfl rfl rfl rfl (ann := fun _ => none) (gh := fun _ => false) ?_
  repeat' ((conv => whnf); first | (guard_target = Done _; refine Done.mk ?_; first | (rfl; done) | skip) | (guard_target = RetX _ _; refine RetX.mk ?_ ?_) | (guard_target = Fact _ _; refine Fact.mk fun hL => ?_; (try simp only [List.length_map, maxLen] at hL)) | (guard_target = Branch _ _ _; (first | refine Branch.dec ?_ ?_ | refine Branch.beq ?_ ?_ | refine Branch.bne ?_ ?_ | refine Branch.ndec ?_ ?_ | refine Branch.nb ?_ ?_ | refine Branch.mk ?_ ?_) <;> intro h <;> (try simp only [List.length_map] at h) <;> (try omega) <;> (try contradiction)) | (guard_target = CallN _ 124 _ _ _ _; refine CallN.pure _ _ rfl (progFits_ok t a ht ha e 60 20 (by omega) (by omega)) rfl _ rfl ?_) | (guard_target = Arith _ _ _; refine Arith.fit (wrap_fit (by first | omega | (simp only [List.length_map]; omega)) (by first | omega | (simp only [List.length_map]; omega))) ?_) | (guard_target = Arith _ _ _; refine Arith.fit (by decide) ?_) | (guard_target = Index _ _ _; first  | refine Index.mk _ (idx_map (by omega)) ?_) | (guard_target = Need (_ = true) _; refine Need.mk (by first | kernel_rfl | rfl) ?_) | (guard_target = LinkV _ _ _; first  | refine LinkV.no ?_) | (guard_target = GhO _ _ _ _; refine GhO.go ?_) | (guard_target = Need _ _; refine Need.mk (by first  | omega | (simp only [List.length_map]; omega)) ?_))
theorem l06Left_all (e : XProg) (left : Int) (h0 : 0 ≤ left) (h1 : left ≤ 1048576) (hx : ∀ x ∈ e.kids, ∀ left : Int, 0 ≤ left → left ≤ 1048576 → CallF Tryz.prog 128 [.c (.rp 6 (encProg x)), I left] (I (plE x left))) : CallF Tryz.prog 128 [.c (.rp 6 (toldP e)), I left] (I (plE e left)) := by
  refine callF_of_vc htb hm Tryz.func128 rfl rfl rfl rfl (ann := fun _ => none) (gh := fun _ => false) ?_
  repeat' ((conv => whnf); first | (guard_target = Done _; refine Done.mk ?_; first | (rw [plE_eq, plS_stop (i := i) (by rw [← ha.2.1]; omega), ← ha.2.1]; rfl; done) | (rw [plE_eq, ← List.take_of_length_le (l := e.kids) (i := i) (by omega), ← ha.2.1]; rfl; done) | skip) | (guard_target = RetX _ _; refine RetX.mk ?_ ?_) | (guard_target =~ LoopE 3 _ _ _ _ _ _; refine LoopE.mk { α := Nat × Int, keep := [0], ov := fun ⟨i, m⟩ => [(1, I m), (5, I i)], φ := fun ⟨i, m⟩ => i ≤ e.kids.length ∧ m = plS (e.kids.take i) (left - 1) ∧ -1 ≤ m ∧ m ≤ 1048576, μ := fun ⟨i, m⟩ => e.kids.length - i } (LoopN.mk ((0, left - 1) : Nat × Int) (by exact ⟨Nat.zero_le _, rfl, by show -1 ≤ left - 1; omega, by show left - 1 ≤ 1048576; omega⟩) (by (repeat' ((conv => whnf) <;> (first | exact trivial | refine ⟨?_, ?_⟩ | kernel_rfl))); done) (by (repeat' ((conv => whnf) <;> (first | exact trivial | refine ⟨?_, ?_⟩ | kernel_rfl))); done) (by (repeat' ((conv => whnf) <;> (first | exact trivial | refine ⟨?_, ?_⟩ | exact rfl | (simp only [List.map_append, List.map_cons, List.map_nil, List.map_set]; first | done | rfl)))); done) (fun A ha => ?_) (by intro A; first | rfl | (obtain ⟨_, _⟩ := A; rfl) | (obtain ⟨_, _, _⟩ := A; rfl))); obtain ⟨i, m⟩ := A; have ha : i ≤ e.kids.length ∧ m = plS (e.kids.take i) (left - 1) ∧ -1 ≤ m ∧ m ≤ 1048576 := ha) | (guard_target = Gh _ _ _ _ _; refine Gh.go ⟨((i + 1, plE e.kids[i] m) : Nat × Int), (by have hh := plE_range e.kids[i] m (by omega); exact ⟨by show i + 1 ≤ _; omega, by show plE e.kids[i] m = _; rw [plS_take (by omega) (by rw [← ha.2.1]; omega), ← ha.2.1], by show -1 ≤ plE e.kids[i] m; omega, by show plE e.kids[i] m ≤ _; omega⟩), (by first | (show _ < _; simp only []; omega) | omega | (simp; omega)), (by (repeat' ((conv => whnf) <;> (first | exact trivial | refine ⟨?_, ?_⟩ | kernel_rfl))); done), (by (repeat' ((conv => whnf) <;> (first | exact trivial | refine ⟨?_, ?_⟩ | kernel_rfl))); done), (by (repeat' ((conv => whnf) <;> (first | exact trivial | refine ⟨?_, ?_⟩ | exact rfl | (simp only [List.map_append, List.map_cons, List.map_nil, List.map_set]; first | done | rfl)))); done)⟩) | (guard_target = Fact _ _; refine Fact.mk fun hL => ?_; (try simp only [List.length_map, maxLen] at hL)) | (guard_target = Branch _ _ _; (first | refine Branch.dec ?_ ?_ | refine Branch.beq ?_ ?_ | refine Branch.bne ?_ ?_ | refine Branch.ndec ?_ ?_ | refine Branch.nb ?_ ?_ | refine Branch.mk ?_ ?_) <;> intro h <;> (try simp only [List.length_map] at h) <;> (try omega) <;> (try contradiction)) | (guard_target = CallN _ 128 _ _ _ _; refine CallN.pure _ _ rfl (hx _ (List.getElem_mem (by omega)) m (by omega) (by omega)) rfl _ rfl ?_) | (guard_target = Arith _ _ _; refine Arith.fit (wrap_fit (by first | omega | (simp only [List.length_map]; omega)) (by first | omega | (simp only [List.length_map]; omega))) ?_) | (guard_target = Arith _ _ _; refine Arith.fit (by decide) ?_) | (guard_target = Index _ _ _; first | refine Index.mk _ (idx_map (i := i) (by omega)) ?_ | refine Index.mk _ (idx_map (by omega)) ?_) | (guard_target = Need (_ = true) _; refine Need.mk (by first | kernel_rfl | rfl) ?_) | (guard_target = LinkV _ _ _; first  | refine LinkV.no ?_) | (guard_target = GhO _ _ _ _; refine GhO.go ?_) | (guard_target = Need _ _; refine Need.mk (by first  | omega | (simp only [List.length_map]; omega)) ?_))
theorem l06Left_ok (e : XProg) (left : Int) (h0 : 0 ≤ left) (h1 : left ≤ 1048576) : CallF Tryz.prog 128 [.c (.rp 6 (encProg e)), I left] (I (plE e left)) := by
  rw [encProg_eq]
  exact l06Left_all e left h0 h1 fun x _hx left h0 h1 => l06Left_ok x left h0 h1
  termination_by SizeOf.sizeOf e
  decreasing_by
    have := List.sizeOf_lt_of_mem _hx
    cases e
    simp only [XProg.mk.sizeOf_spec]
    show SizeOf.sizeOf x < _
    simp only [XProg.kids] at this
    omega
theorem l06Depth_all (e : XProg) (hl : budProg e ≤ 1048576) (hx : ∀ x ∈ e.kids, CallF Tryz.prog 129 [.c (.rp 6 (encProg x))] (I (pdE x))) : CallF Tryz.prog 129 [.c (.rp 6 (toldP e))] (I (pdE e)) := by
  have hd := pdE_le e
  rw [pdE_eq] at hd
  refine callF_of_vc htb hm Tryz.func129 rfl rfl rfl rfl (ann := fun _ => none) (gh := fun _ => false) ?_
  repeat' ((conv => whnf); first | (guard_target = Done _; refine Done.mk ?_; first | (rw [pdE_eq, ← List.take_of_length_le (l := e.kids) (i := i) (by omega), ← ha.2]; rfl; done) | skip) | (guard_target = RetX _ _; refine RetX.mk ?_ ?_) | (guard_target =~ LoopE 3 _ _ _ _ _ _; refine LoopE.mk { α := Nat × Nat, keep := [0], ov := fun ⟨i, m⟩ => [(3, I (m : Nat)), (4, I i)], φ := fun ⟨i, m⟩ => i ≤ e.kids.length ∧ m = pdS (e.kids.take i), μ := fun ⟨i, m⟩ => e.kids.length - i } (LoopN.mk ((0, 0) : Nat × Nat) (by exact ⟨Nat.zero_le _, rfl⟩) (by (repeat' ((conv => whnf) <;> (first | exact trivial | refine ⟨?_, ?_⟩ | kernel_rfl))); done) (by (repeat' ((conv => whnf) <;> (first | exact trivial | refine ⟨?_, ?_⟩ | kernel_rfl))); done) (by (repeat' ((conv => whnf) <;> (first | exact trivial | refine ⟨?_, ?_⟩ | exact rfl | (simp only [List.map_append, List.map_cons, List.map_nil, List.map_set]; first | done | rfl)))); done) (fun A ha => ?_) (by intro A; first | rfl | (obtain ⟨_, _⟩ := A; rfl) | (obtain ⟨_, _, _⟩ := A; rfl))); obtain ⟨i, m⟩ := A; have ha : i ≤ e.kids.length ∧ m = pdS (e.kids.take i) := ha) | (guard_target = Gh _ _ _ _ _; refine Gh.go ⟨((i + 1, max m (pdE e.kids[i])) : Nat × Nat), (by exact ⟨by show i + 1 ≤ _; omega, by show max m (pdE e.kids[i]) = _; rw [pdS_take (by omega), ← ha.2]⟩), (by first | (show _ < _; simp only []; omega) | omega | (simp; omega)), (by (repeat' ((conv => whnf) <;> (first | exact trivial | refine ⟨?_, ?_⟩ | kernel_rfl))); done), (by (repeat' ((conv => whnf) <;> (first | exact trivial | refine ⟨?_, ?_⟩ | kernel_rfl))); done), (by (repeat' ((conv => whnf) <;> (first | exact trivial | refine ⟨?_, ?_⟩ | exact rfl | (simp only [List.map_append, List.map_cons, List.map_nil, List.map_set]; first | done | rfl)))); done)⟩) | (guard_target = Fact _ _; refine Fact.mk fun hL => ?_; (try simp only [List.length_map, maxLen] at hL)) | (guard_target = Branch _ _ _; (first | refine Branch.dec ?_ ?_ | refine Branch.beq ?_ ?_ | refine Branch.bne ?_ ?_ | refine Branch.ndec ?_ ?_ | refine Branch.nb ?_ ?_ | refine Branch.mk ?_ ?_) <;> intro h <;> (try simp only [List.length_map] at h) <;> (try omega) <;> (try contradiction)) | (guard_target = CallN _ 129 _ _ _ _; refine CallN.pure _ _ rfl (hx _ (List.getElem_mem (by omega))) rfl _ rfl ?_) | (guard_target = CallN _ 111 _ _ _ _; refine CallN.pure _ _ rfl (max_ok _ _) rfl _ rfl ?_) | (guard_target = Arith _ _ _; refine Arith.fit (wrap_fit (by (first | omega | (have h9 := ha.2; rw [List.take_of_length_le (by omega)] at h9; omega))) (by (first | omega | (have h9 := ha.2; rw [List.take_of_length_le (by omega)] at h9; omega)))) ?_) | (guard_target = Arith _ _ _; refine Arith.fit (by decide) ?_) | (guard_target = Index _ _ _; first | refine Index.mk _ (idx_map (i := i) (by omega)) ?_ | refine Index.mk _ (idx_map (by omega)) ?_) | (guard_target = Need (_ = true) _; refine Need.mk (by first | kernel_rfl | rfl) ?_) | (guard_target = LinkV _ _ _; first  | refine LinkV.no ?_) | (guard_target = GhO _ _ _ _; refine GhO.go ?_) | (guard_target = Need _ _; refine Need.mk (by first  | omega | (simp only [List.length_map]; omega)) ?_))
theorem l06Depth_ok (e : XProg) (hl : budProg e ≤ 1048576) : CallF Tryz.prog 129 [.c (.rp 6 (encProg e))] (I (pdE e)) := by
  rw [encProg_eq]
  exact l06Depth_all e hl fun x _hx => l06Depth_ok x (by
    have := budS_mem budProg _hx
    cases e
    simp only [budProg, budProgS_eq] at hl
    simp only [XProg.kids] at this
    omega)
  termination_by SizeOf.sizeOf e
  decreasing_by
    have := List.sizeOf_lt_of_mem _hx
    cases e
    simp only [XProg.mk.sizeOf_spec]
    show SizeOf.sizeOf x < _
    simp only [XProg.kids] at this
    omega
theorem l06Tree_all (t a : Int) (hs : goodSig t a = true) (e : XProg) (hl : budExpr e.cond ≤ 1048576) (hx : ∀ x ∈ e.kids, CallF Tryz.prog 130 [.a 2 [J t, J a], .c (.rp 6 (encProg x))] (B (ptE t a x))) : CallF Tryz.prog 130 [.a 2 [J t, J a], .c (.rp 6 (toldP e))] (B (ptE t a e)) := by
  have hb := sig_bounds hs
  have hc := l06Cond_ok t a hs e.cond hl
  rw [encExpr_eq] at hc
  have hc' : CallF Tryz.prog 104 [.a 2 [J t, J a], .c (.rp 4 ((toldP e).drop 2))] (B (condG t a e.cond)) := hc.cut (.same (.cut (k := 3) (by omega) .nil))
  have hc0 : CallF Tryz.prog 170 [.c (.rp 4 ((toldP e).drop 2))] (B (noneB e.cond)) := (l06None_ok e.cond).cut (.cut (k := 3) (by omega) .nil)
  refine callF_of_vc htb hm Tryz.func130 rfl rfl rfl rfl (ann := fun _ => none) (gh := fun _ => false) ?_
  repeat' ((conv => whnf); first | (guard_target = Done _; refine Done.mk ?_; first | (rw [ptE_eq, all_stop (i := i) (by omega) h]; simp [normS, normV]; done) | (rw [ptE_eq, all_end (by omega) ha]; simp_all [pnode, askB, normS, normV]; done) | (rw [ptE_eq]; simp_all [pnode, askB, normS, normV]; done) | (rw [ptE_eq]; simp_all [pnode, askB, normS, normV]; omega; done) | skip) | (guard_target = RetX _ _; refine RetX.mk ?_ ?_) | (guard_target =~ LoopE 8 _ _ _ _ _ _; refine LoopE.mk { α := Nat, keep := [1, 2], ov := fun i => [(5, I i)], φ := fun i => i ≤ e.kids.length ∧ (e.kids.take i).all (ptE t a) = true, μ := fun i => e.kids.length - i } (LoopN.mk (0 : Nat) (by exact ⟨Nat.zero_le _, rfl⟩) (by (repeat' ((conv => whnf) <;> (first | exact trivial | refine ⟨?_, ?_⟩ | kernel_rfl))); done) (by (repeat' ((conv => whnf) <;> (first | exact trivial | refine ⟨?_, ?_⟩ | kernel_rfl))); done) (by (repeat' ((conv => whnf) <;> (first | exact trivial | refine ⟨?_, ?_⟩ | exact rfl | (simp only [List.map_append, List.map_cons, List.map_nil, List.map_set]; first | done | rfl)))); done) (fun (i : Nat) ha => ?_) (by intro A; first | rfl | (obtain ⟨_, _⟩ := A; rfl) | (obtain ⟨_, _, _⟩ := A; rfl))); have ha : i ≤ e.kids.length ∧ (e.kids.take i).all (ptE t a) = true := ha) | (guard_target = Gh _ _ _ _ _; refine Gh.go ⟨(i + 1 : Nat), (by exact all_go (by omega) ha h), (by first | (show _ < _; simp only []; omega) | omega | (simp; omega)), (by (repeat' ((conv => whnf) <;> (first | exact trivial | refine ⟨?_, ?_⟩ | kernel_rfl))); done), (by (repeat' ((conv => whnf) <;> (first | exact trivial | refine ⟨?_, ?_⟩ | kernel_rfl))); done), (by (repeat' ((conv => whnf) <;> (first | exact trivial | refine ⟨?_, ?_⟩ | exact rfl | (simp only [List.map_append, List.map_cons, List.map_nil, List.map_set]; first | done | rfl)))); done)⟩) | (guard_target = Fact _ _; refine Fact.mk fun hL => ?_; (try simp only [List.length_map, maxLen] at hL)) | (guard_target = Branch _ _ _; (first | refine Branch.dec ?_ ?_ | refine Branch.beq ?_ ?_ | refine Branch.bne ?_ ?_ | refine Branch.ndec ?_ ?_ | refine Branch.nb ?_ ?_ | refine Branch.mk ?_ ?_) <;> intro h <;> (try simp only [List.length_map] at h) <;> (try omega) <;> (try contradiction)) | (guard_target = CallN _ 168 _ _ _ _; refine CallN.pure _ _ rfl (l06Kids_ok _) rfl _ rfl ?_) | (guard_target = CallN _ 169 _ _ _ _; refine CallN.pure _ _ rfl (l06Asks_ok _) rfl _ rfl ?_) | (guard_target = CallN _ 113 _ _ _ _; refine CallN.pure _ _ rfl (l00In_ok _ _ _) rfl _ rfl ?_) | (guard_target = CallN _ 104 _ _ _ _; refine CallN.pure _ _ rfl (hc') rfl _ rfl ?_) | (guard_target = CallN _ 170 _ _ _ _; refine CallN.pure _ _ rfl (hc0) rfl _ rfl ?_) | (guard_target = CallN _ 130 _ _ _ _; refine CallN.pure _ _ rfl (hx _ (List.getElem_mem (by omega))) rfl _ rfl ?_) | (guard_target = Arith _ _ _; refine Arith.fit (wrap_fit (by first | omega | (simp only [List.length_map]; omega)) (by first | omega | (simp only [List.length_map]; omega))) ?_) | (guard_target = Arith _ _ _; refine Arith.fit (by decide) ?_) | (guard_target = Index _ _ _; first | refine Index.mk _ (idx_map (i := i) (by omega)) ?_ | refine Index.mk _ (idx_map (by omega)) ?_) | (guard_target = Need (_ = true) _; refine Need.mk (by first | kernel_rfl | rfl) ?_) | (guard_target = LinkV _ _ _; first  | refine LinkV.no ?_) | (guard_target = GhO _ _ _ _; refine GhO.go ?_) | (guard_target = Need _ _; refine Need.mk (by first  | omega | (simp only [List.length_map]; omega)) ?_))
theorem l06Tree_ok (t a : Int) (hs : goodSig t a = true) (e : XProg) (hl : budProg e ≤ 1048576) : CallF Tryz.prog 130 [.a 2 [J t, J a], .c (.rp 6 (encProg e))] (B (ptE t a e)) := by
  rw [encProg_eq]
  refine l06Tree_all t a hs e ?_ fun x _hx => l06Tree_ok t a hs x ?_
  · cases e
    simp only [budProg] at hl
    show budExpr _ ≤ _
    simp only [XProg.cond]
    omega
  · have := budS_mem budProg _hx
    cases e
    simp only [budProg, budProgS_eq] at hl
    simp only [XProg.kids] at this
    omega
  termination_by SizeOf.sizeOf e
  decreasing_by
    have := List.sizeOf_lt_of_mem _hx
    cases e
    simp only [XProg.mk.sizeOf_spec]
    show SizeOf.sizeOf x < _
    simp only [XProg.kids] at this
    omega
theorem l06Ok_ok (t a : Int) (e : XProg) (hl : budProg e ≤ 1048576) : CallF Tryz.prog 62 [.a 2 [J t, J a], .c (.rp 6 (encProg e))] (B (goodSig t a && goodP t a e)) := by
  refine callF_of_vc htb hm Tryz.func62 rfl rfl rfl rfl (ann := fun _ => none) (gh := fun _ => false) ?_
  repeat' ((conv => whnf); first | (guard_target = Done _; refine Done.mk ?_; first | (rfl; done) | (simp_all [goodP, normS, normV]; done) | (simp_all [goodP, normS, normV]; omega; done) | (simp_all [goodP, normS, normV]; intros; omega; done) | (simp_all [-List.all_eq_true, -List.all_eq_false, goodP, normS, normV]; done) | (simp_all [-List.all_eq_true, -List.all_eq_false, goodP, normS, normV]; omega; done) | skip) | (guard_target = RetX _ _; refine RetX.mk ?_ ?_) | (guard_target = Fact _ _; refine Fact.mk fun hL => ?_; (try simp only [List.length_map, maxLen] at hL)) | (guard_target = Branch _ _ _; (first | refine Branch.dec ?_ ?_ | refine Branch.beq ?_ ?_ | refine Branch.bne ?_ ?_ | refine Branch.ndec ?_ ?_ | refine Branch.nb ?_ ?_ | refine Branch.mk ?_ ?_) <;> intro h <;> (try simp only [List.length_map] at h) <;> (try omega) <;> (try contradiction)) | (guard_target = CallN _ 105 _ _ _ _; refine CallN.pure _ _ rfl (l01Sig_ok t a) rfl _ rfl ?_) | (guard_target = CallN _ 128 _ _ _ _; refine CallN.pure _ _ rfl (l06Left_ok e 60 (by omega) (by omega)) rfl _ rfl ?_) | (guard_target = CallN _ 129 _ _ _ _; refine CallN.pure _ _ rfl (l06Depth_ok e hl) rfl _ rfl ?_) | (guard_target = CallN _ 130 _ _ _ _; refine CallN.pure _ _ rfl (l06Tree_ok t a ‹_› e hl) rfl _ rfl ?_) | (guard_target = Arith _ _ _; refine Arith.fit (wrap_fit (by first | omega | (simp only [List.length_map]; omega)) (by first | omega | (simp only [List.length_map]; omega))) ?_) | (guard_target = Arith _ _ _; refine Arith.fit (by decide) ?_) | (guard_target = Index _ _ _; first  | refine Index.mk _ (idx_map (by omega)) ?_) | (guard_target = Need (_ = true) _; refine Need.mk (by first | kernel_rfl | rfl) ?_) | (guard_target = LinkV _ _ _; first  | refine LinkV.no ?_) | (guard_target = GhO _ _ _ _; refine GhO.go ?_) | (guard_target = Need _ _; refine Need.mk (by first  | omega | (simp only [List.length_map]; omega)) ?_))
end Go.Proofs.YtlfigjkddnncgaaGreat

namespace Go.Proofs.YtlfigjkddnncgaaGreat
open Go Go.KA Go.Proofs
set_option maxHeartbeats 16000000
set_option maxRecDepth 100000
structure POk (t a : Int) (p : XProg) : Prop where
  tree : ptE t a p = true
theorem POk.len {t a : Int} {p : XProg} (h : POk t a p) : (p.kids.length : Int) = pkN p.kind ∧ (p.kind = 5 → pkN p.kind = 2) ∧ (p.kind = 6 → pkN p.kind = 2) ∧ (p.kind = 7 → pkN p.kind = 1) := by
  have h1 := h.tree
  rw [ptE_eq] at h1
  simp only [Bool.and_eq_true, beq_iff_eq] at h1
  refine ⟨h1.1, ?_, ?_, ?_⟩ <;> intro hk <;> rw [hk] <;> rfl
theorem POk.kid {t a : Int} {p x : XProg} (h : POk t a p) (hx : x ∈ p.kids) : POk t a x := by
  have h1 := h.tree
  rw [ptE_eq] at h1
  simp only [Bool.and_eq_true, List.all_eq_true] at h1
  exact ⟨h1.2.2 x hx⟩
theorem POk.cond {t a : Int} {p : XProg} (h : POk t a p) (hk : p.kind = 4 ∨ p.kind = 6 ∨ p.kind = 7) : okC t a p.cond := by
  have h1 := h.tree
  rw [ptE_eq] at h1
  simp only [Bool.and_eq_true, pnode, askB, decide_eq_true_eq, if_pos hk] at h1
  exact condG_ok h1.2.1.2
theorem POk.act {t a : Int} {p : XProg} (h : POk t a p) (hk : p.kind = 3) : 0 ≤ p.num ∧ p.num < a := by
  have h1 := h.tree
  rw [ptE_eq] at h1
  simp only [Bool.and_eq_true, pnode, if_pos hk, rng, decide_eq_true_eq] at h1
  omega
theorem POk.kind {t a : Int} {p : XProg} (h : POk t a p) : 1 ≤ p.kind ∧ p.kind ≤ 7 := by
  have h1 := h.len.1
  unfold pkN at h1
  by_cases h4 : p.kind = 1 ∨ p.kind = 2 ∨ p.kind = 3 ∨ p.kind = 4
  · omega
  rw [if_neg h4] at h1
  by_cases h7 : p.kind = 7
  · omega
  rw [if_neg h7] at h1
  by_cases h5 : p.kind = 5 ∨ p.kind = 6
  · omega
  rw [if_neg h5] at h1
  omega
theorem kid_get {p : XProg} {i : Nat} (h : i < p.kids.length) : p.kids[i]? = some p.kids[i] := List.getElem?_eq_getElem h
end Go.Proofs.YtlfigjkddnncgaaGreat

namespace Go.Proofs.YtlfigjkddnncgaaGreat
open Go Go.KA Go.Proofs
set_option maxHeartbeats 16000000
set_option maxRecDepth 100000
inductive Run (w : XWorld) (fuel : Int) : XProg → RS → Int → RS → Prop
  | seqBad {p k0 r c r1} (hk : p.kind = 5) (g0 : p.kids[0]? = some k0) (h : Run w fuel k0 r c r1) (hc : ¬ c = 0) : Run w fuel p r c r1
  | seqOk {p k0 k1 r r1 c r2} (hk : p.kind = 5) (g0 : p.kids[0]? = some k0) (g1 : p.kids[1]? = some k1) (h : Run w fuel k0 r 0 r1) (h2 : Run w fuel k1 r1 c r2) : Run w fuel p r c r2
  | budget {p r} (hk : ¬ p.kind = 5) (hs : r.steps = fuel) : Run w fuel p r 7 r
  | skip {p r} (hk : p.kind = 1) (hs : ¬ r.steps = fuel) : Run w fuel p r 0 (more r)
  | fail {p r} (hk : p.kind = 2) (hs : ¬ r.steps = fuel) : Run w fuel p r 4 (more r)
  | actBad {p r} (hk : p.kind = 3) (hs : ¬ r.steps = fuel) (hn : nxt w (more r) p.num < 0) : Run w fuel p r 4 (more r)
  | actOk {p r} (hk : p.kind = 3) (hs : ¬ r.steps = fuel) (hn : ¬ nxt w (more r) p.num < 0) : Run w fuel p r 0 (done w (more r) p.num)
  | assertNo {p r} (hk : p.kind = 4) (hs : ¬ r.steps = fuel) (ht : truthE p.cond (at0 w r.st) = false) : Run w fuel p r 4 (more r)
  | assertYes {p r} (hk : p.kind = 4) (hs : ¬ r.steps = fuel) (ht : truthE p.cond (at0 w r.st) = true) : Run w fuel p r 0 (more r)
  | ifYes {p k0 r c r2} (hk : p.kind = 6) (hs : ¬ r.steps = fuel) (ht : truthE p.cond (at0 w r.st) = true) (g0 : p.kids[0]? = some k0) (h : Run w fuel k0 (more r) c r2) : Run w fuel p r c r2
  | ifNo {p k1 r c r2} (hk : p.kind = 6) (hs : ¬ r.steps = fuel) (ht : truthE p.cond (at0 w r.st) = false) (g1 : p.kids[1]? = some k1) (h : Run w fuel k1 (more r) c r2) : Run w fuel p r c r2
  | whileNo {p r} (hk : p.kind = 7) (hs : ¬ r.steps = fuel) (ht : truthE p.cond (at0 w r.st) = false) : Run w fuel p r 0 (more r)
  | whileBad {p k0 r c r1} (hk : p.kind = 7) (hs : ¬ r.steps = fuel) (ht : truthE p.cond (at0 w r.st) = true) (g0 : p.kids[0]? = some k0) (h : Run w fuel k0 (more r) c r1) (hc : ¬ c = 0) : Run w fuel p r c r1
  | whileOk {p k0 r r1 c r2} (hk : p.kind = 7) (hs : ¬ r.steps = fuel) (ht : truthE p.cond (at0 w r.st) = true) (g0 : p.kids[0]? = some k0) (h : Run w fuel k0 (more r) 0 r1) (h2 : Run w fuel p r1 c r2) : Run w fuel p r c r2
structure RB (w : XWorld) (fuel : Int) (r : RS) : Prop where
  st : StOk w r
  le : r.steps ≤ fuel
theorem Run.keeps {t a : Int} {w : XWorld} {fuel : Int} (hw : WOk w) (hA : (w.acts.length : Int) = a) (hfu : fuel ≤ 500) {p : XProg} {r : RS} {c : Int} {r' : RS} (h : Run w fuel p r c r') : POk t a p → RB w fuel r → RB w fuel r' ∧ r.steps ≤ r'.steps ∧ (c = 0 → r.steps < r'.steps) := by
  have inc : ∀ {r : RS}, RB w fuel r → ¬ r.steps = fuel → RB w fuel (more r) := fun {r} hr hs => ⟨hr.st.inc (by have := hr.le; omega), by show r.steps + 1 ≤ fuel; have := hr.le; omega⟩
  induction h with
  | seqBad hk g0 h hc ih => intro hp hr; exact ih (hp.kid (List.mem_of_getElem? g0)) hr
  | seqOk hk g0 g1 h h2 ih1 ih2 =>
    intro hp hr
    have h1 := ih1 (hp.kid (List.mem_of_getElem? g0)) hr
    have h2 := ih2 (hp.kid (List.mem_of_getElem? g1)) h1.1
    refine ⟨h2.1, by omega, fun hc => ?_⟩
    have := h1.2.2 rfl
    omega
  | budget hk hs => intro hp hr; exact ⟨hr, Int.le_refl _, fun hc => by omega⟩
  | skip hk hs => intro hp hr; exact ⟨inc hr hs, by show _ ≤ _ + 1; omega, fun _ => by show _ < _ + 1; omega⟩
  | fail hk hs => intro hp hr; exact ⟨inc hr hs, by show _ ≤ _ + 1; omega, fun _ => by show _ < _ + 1; omega⟩
  | actBad hk hs hn => intro hp hr; exact ⟨inc hr hs, by show _ ≤ _ + 1; omega, fun _ => by show _ < _ + 1; omega⟩
  | actOk hk hs hn =>
    intro hp hr
    have hl := hr.le
    exact ⟨⟨hr.st.fin hw (by omega) (by have := hp.act hk; omega) hn, by show _ + 1 ≤ fuel; omega⟩, by show _ ≤ _ + 1; omega, fun _ => by show _ < _ + 1; omega⟩
  | assertNo hk hs ht => intro hp hr; exact ⟨inc hr hs, by show _ ≤ _ + 1; omega, fun _ => by show _ < _ + 1; omega⟩
  | assertYes hk hs ht => intro hp hr; exact ⟨inc hr hs, by show _ ≤ _ + 1; omega, fun _ => by show _ < _ + 1; omega⟩
  | @ifYes p k0 r c r2 hk hs ht g0 h ih =>
    intro hp hr
    have h1 := ih (hp.kid (List.mem_of_getElem? g0)) (inc hr hs)
    have h2 : r.steps + 1 ≤ r2.steps := h1.2.1
    exact ⟨h1.1, by omega, fun _ => by omega⟩
  | @ifNo p k1 r c r2 hk hs ht g1 h ih =>
    intro hp hr
    have h1 := ih (hp.kid (List.mem_of_getElem? g1)) (inc hr hs)
    have h2 : r.steps + 1 ≤ r2.steps := h1.2.1
    exact ⟨h1.1, by omega, fun _ => by omega⟩
  | whileNo hk hs ht => intro hp hr; exact ⟨inc hr hs, by show _ ≤ _ + 1; omega, fun _ => by show _ < _ + 1; omega⟩
  | @whileBad p k0 r c r1 hk hs ht g0 h hc ih =>
    intro hp hr
    have h1 := ih (hp.kid (List.mem_of_getElem? g0)) (inc hr hs)
    have h2 : r.steps + 1 ≤ r1.steps := h1.2.1
    exact ⟨h1.1, by omega, fun _ => by omega⟩
  | @whileOk p k0 r r1 c r2 hk hs ht g0 h h2 ih1 ih2 =>
    intro hp hr
    have h1 := ih1 (hp.kid (List.mem_of_getElem? g0)) (inc hr hs)
    have h3 := ih2 hp h1.1
    have h2 : r.steps + 1 ≤ r1.steps := h1.2.1
    exact ⟨h3.1, by omega, fun _ => by omega⟩
theorem Run.ex {t a : Int} {w : XWorld} {fuel : Int} (hw : WOk w) (hA : (w.acts.length : Int) = a) (hfu : fuel ≤ 500) : ∀ (n m : Nat) (p : XProg) (r : RS), (fuel - r.steps).toNat ≤ n → SizeOf.sizeOf p ≤ m → POk t a p → RB w fuel r → ∃ c r', Run w fuel p r c r' := by
  intro n
  induction n with
  | zero =>
    intro m
    induction m with
    | zero => intro p r _ hm; cases p; simp at hm
    | succ m ihm =>
      intro p r hn hm hp hr
      have hs : r.steps = fuel := by have := hr.le; omega
      by_cases hk : p.kind = 5
      · have hl := hp.len
        have hl0 : 0 < p.kids.length := by have := hl.2.1 hk; omega
        have hsz := List.sizeOf_lt_of_mem (List.getElem_mem hl0)
        obtain ⟨c, r1, h⟩ := ihm p.kids[0] r hn (by cases p; simp only [XProg.mk.sizeOf_spec] at hm; simp only [XProg.kids] at hsz ⊢; omega) (hp.kid (List.getElem_mem hl0)) hr
        have hb := h.keeps hw hA hfu (hp.kid (List.getElem_mem hl0)) hr
        by_cases hc : c = 0
        · have := hb.2.2 hc
          have := hb.1.le
          omega
        · exact ⟨c, r1, .seqBad hk (kid_get hl0) h hc⟩
      · exact ⟨7, r, .budget hk hs⟩
  | succ n ihn =>
    intro m
    induction m with
    | zero => intro p r _ hm; cases p; simp at hm
    | succ m ihm =>
      intro p r hn hm hp hr
      have hl := hp.len
      have hle := hr.le
      have hkd := hp.kind
      have kid : ∀ (i : Nat) (hi : i < p.kids.length), SizeOf.sizeOf p.kids[i] ≤ m := by
        intro i hi
        have hsz := List.sizeOf_lt_of_mem (List.getElem_mem hi)
        cases p
        simp only [XProg.mk.sizeOf_spec] at hm
        simp only [XProg.kids] at hsz ⊢
        omega
      by_cases hk : p.kind = 5
      · have hl2 := hl.2.1 hk
        have hl0 : 0 < p.kids.length := by omega
        have hl1 : 1 < p.kids.length := by omega
        obtain ⟨c, r1, h⟩ := ihm p.kids[0] r hn (kid 0 hl0) (hp.kid (List.getElem_mem hl0)) hr
        have hb := h.keeps hw hA hfu (hp.kid (List.getElem_mem hl0)) hr
        by_cases hc : c = 0
        · subst hc
          have := hb.2.1
          obtain ⟨c, r2, h2⟩ := ihm p.kids[1] r1 (by omega) (kid 1 hl1) (hp.kid (List.getElem_mem hl1)) hb.1
          exact ⟨c, r2, .seqOk hk (kid_get hl0) (kid_get hl1) h h2⟩
        · exact ⟨c, r1, .seqBad hk (kid_get hl0) h hc⟩
      by_cases hs : r.steps = fuel
      · exact ⟨7, r, .budget hk hs⟩
      have hr1 : RB w fuel (more r) := ⟨hr.st.inc (by omega), by show r.steps + 1 ≤ fuel; omega⟩
      have hn1 : (fuel - (more r).steps).toNat ≤ n := by show (fuel - (r.steps + 1)).toNat ≤ n; omega
      by_cases h1 : p.kind = 1
      · exact ⟨_, _, .skip h1 hs⟩
      by_cases h2 : p.kind = 2
      · exact ⟨_, _, .fail h2 hs⟩
      by_cases h3 : p.kind = 3
      · by_cases hx : nxt w (more r) p.num < 0
        · exact ⟨_, _, .actBad h3 hs hx⟩
        · exact ⟨_, _, .actOk h3 hs hx⟩
      by_cases h4 : p.kind = 4
      · cases ht : truthE p.cond (at0 w r.st) with
        | false => exact ⟨_, _, .assertNo h4 hs ht⟩
        | true => exact ⟨_, _, .assertYes h4 hs ht⟩
      by_cases h6 : p.kind = 6
      · have hl2 := hl.2.2.1 h6
        have hl0 : 0 < p.kids.length := by omega
        have hl1 : 1 < p.kids.length := by omega
        cases ht : truthE p.cond (at0 w r.st) with
        | true =>
          obtain ⟨c, r2, h⟩ := ihn (SizeOf.sizeOf p.kids[0]) p.kids[0] (more r) hn1 (Nat.le_refl _) (hp.kid (List.getElem_mem hl0)) hr1
          exact ⟨_, _, .ifYes h6 hs ht (kid_get hl0) h⟩
        | false =>
          obtain ⟨c, r2, h⟩ := ihn (SizeOf.sizeOf p.kids[1]) p.kids[1] (more r) hn1 (Nat.le_refl _) (hp.kid (List.getElem_mem hl1)) hr1
          exact ⟨_, _, .ifNo h6 hs ht (kid_get hl1) h⟩
      have h7 : p.kind = 7 := by omega
      have hl2 := hl.2.2.2 h7
      have hl0 : 0 < p.kids.length := by omega
      cases ht : truthE p.cond (at0 w r.st) with
      | false => exact ⟨_, _, .whileNo h7 hs ht⟩
      | true =>
        obtain ⟨c, r1, h⟩ := ihn (SizeOf.sizeOf p.kids[0]) p.kids[0] (more r) hn1 (Nat.le_refl _) (hp.kid (List.getElem_mem hl0)) hr1
        have hb := h.keeps hw hA hfu (hp.kid (List.getElem_mem hl0)) hr1
        by_cases hc : c = 0
        · subst hc
          have h8 : r.steps + 1 ≤ r1.steps := hb.2.1
          obtain ⟨c, r2, h2⟩ := ihn (SizeOf.sizeOf p) p r1 (by omega) (Nat.le_refl _) hp hb.1
          exact ⟨_, _, .whileOk h7 hs ht (kid_get hl0) h h2⟩
        · exact ⟨_, _, .whileBad h7 hs ht (kid_get hl0) h hc⟩
end Go.Proofs.YtlfigjkddnncgaaGreat
