/- Contracts of the copies of programs and of what is built out of them. No conditions but bounds of size. -/
import Derived.Test.YtlfigjkddnncgaaDD
namespace Go.Proofs.Ytlfigjkddnncgaa
open Go Go.KA Go.Proofs
set_option maxHeartbeats 16000000
set_option maxRecDepth 100000
abbrev ownPT (x : XProg) : List CV := [J x.kind, J x.num, J x.cond.kind, J x.cond.num, .own 28 3 (x.cond.kids.map ownExpr), .own 31 6 (x.kids.map ownProg)]
theorem ownP_next {l : List XProg} {i : Nat} {rows : List (List CV)} (hi : i < l.length) (h : rows = (l.take i).map ownProg) : rows ++ [ownPT l[i]] = (l.take (i + 1)).map ownProg := by
  rw [take_map_next hi, h, ownProg_eq]
theorem l01Own_toldP (p : XProg) (hb : budExpr p.cond ≤ 1048576) : CallX Try.prog 41 [.c (.rp 4 ((toldP p).drop 2))] [] (.a 3 (ownT p.cond)) := by
  have h := l01Own_ok p.cond hb
  rw [encExpr_eq] at h
  exact h.cut (.cut (k := 3) (by omega) .nil)
theorem l06Own_all (x : XProg) (hl : budExpr x.cond ≤ 1048576 ∧ x.kids.length ≤ 1048576) (hx : ∀ k ∈ x.kids, CallX Try.prog 100 [.c (.rp 6 (encProg k))] [] (.a 6 (ownPT k))) : CallX Try.prog 100 [.c (.rp 6 (toldP x))] [] (.a 6 (ownPT x)) := by
  have hc := l01Own_toldP x hl.1
  refine callX_of_vc htb hm Try.func100 rfl rfl rfl rfl (ann := fun _ => none) (gh := fun _ => false) ?_
  repeat' ((conv => whnf); first | (guard_target = Done _; refine Done.mk ?_) | (guard_target = RetX _ _; refine RetX.mk ?_ ?_) | (guard_target =~ LoopE 3 _ _ _ _ _ _; refine LoopE.mk { α := Nat × List (List CV), keep := [0, 2, 3], ov := fun ⟨i, rows⟩ => [(4, I (i : Nat))], hv := fun ⟨i, rows⟩ => [(8, .cells [.c (J x.kind), .c (J x.num), .c (J x.cond.kind), .c (J x.cond.num), .lw 3, .lw 5]), (5, .orow none 31 6 rows)], φ := fun ⟨i, rows⟩ => i ≤ x.kids.length ∧ rows = (x.kids.take i).map ownProg, μ := fun ⟨i, rows⟩ => x.kids.length - i } (LoopN.mk ((0, []) : Nat × List (List CV)) (by exact ⟨Nat.zero_le _, rfl⟩) (by (repeat' ((conv => whnf) <;> (first | exact trivial | refine ⟨?_, ?_⟩ | kernel_rfl))); done) (by (repeat' ((conv => whnf) <;> (first | exact trivial | refine ⟨?_, ?_⟩ | kernel_rfl))); done) (by (repeat' ((conv => whnf) <;> (first | exact trivial | refine ⟨?_, ?_⟩ | exact rfl | (simp only [List.map_append, List.map_cons, List.map_nil, List.map_set]; first | done | rfl)))); done) (fun A ha => ?_) (by intro A; first | rfl | (obtain ⟨_, _⟩ := A; rfl) | (obtain ⟨_, _, _⟩ := A; rfl))); obtain ⟨i, rows⟩ := A; have ha : i ≤ x.kids.length ∧ rows = (x.kids.take i).map ownProg := ha; have hrl : rows.length = i := (by rw [ha.2, List.length_map, List.length_take]; omega)) | (guard_target = Gh _ _ _ _ _; refine Gh.go ⟨((i + 1, rows ++ [ownPT x.kids[i]]) : Nat × List (List CV)), (by exact ⟨by show i + 1 ≤ _; omega, ownP_next (by omega) ha.2⟩), (by first | (show _ < _; simp only []; omega) | omega | (simp; omega)), (by (repeat' ((conv => whnf) <;> (first | exact trivial | refine ⟨?_, ?_⟩ | kernel_rfl))); done), (by (repeat' ((conv => whnf) <;> (first | exact trivial | refine ⟨?_, ?_⟩ | kernel_rfl))); done), (by (repeat' ((conv => whnf) <;> (first | exact trivial | refine ⟨?_, ?_⟩ | exact rfl | (simp only [List.map_append, List.map_cons, List.map_nil, List.map_set]; first | done | rfl)))); done)⟩) | (guard_target = Fact _ _; refine Fact.mk fun hL => ?_; (try simp only [List.length_map, maxLen] at hL)) | (guard_target = Branch _ _ _; (first | refine Branch.dec ?_ ?_ | refine Branch.beq ?_ ?_ | refine Branch.bne ?_ ?_ | refine Branch.ndec ?_ ?_ | refine Branch.nb ?_ ?_ | refine Branch.mk ?_ ?_) <;> intro h <;> (try simp only [List.length_map] at h) <;> (try omega) <;> (try contradiction)) | (guard_target = CallN _ 41 _ _ _ _; refine CallN.gen [] _ _ _ rfl (hc) rfl rfl _ rfl ?_) | (guard_target = CallN _ 100 _ _ _ _; refine CallN.gen [] _ _ _ rfl (hx _ (List.getElem_mem (by omega))) rfl rfl _ rfl ?_) | (guard_target = Arith _ _ _; refine Arith.fit (wrap_fit (by first | omega | (simp only [List.length_map]; omega)) (by first | omega | (simp only [List.length_map]; omega))) ?_) | (guard_target = Arith _ _ _; refine Arith.fit (by decide) ?_) | (guard_target = Index _ _ _; first | refine Index.mk _ (idx_map (i := i) (by omega)) ?_ | refine Index.mk _ (idx_map (by omega)) ?_) | (guard_target = Need (_ = true) _; refine Need.mk (by first | kernel_rfl | rfl) ?_) | (guard_target = LinkV _ _ _; first  | refine LinkV.no ?_) | (guard_target = GhO _ _ _ _; refine GhO.go ?_) | (guard_target = Need _ _; refine Need.mk (by first | ((simp only [List.length_cons, List.length_nil, maxLen]; constructor <;> omega)) | omega | (simp only [List.length_map]; omega)) ?_))
  all_goals first | rfl | trivial | (have h9 := ha.2; rw [List.take_of_length_le (by omega)] at h9; rw [h9]; rfl)
theorem l06Own_ok (x : XProg) (hb : budProg x ≤ 1048576) : CallX Try.prog 100 [.c (.rp 6 (encProg x))] [] (.a 6 (ownPT x)) := by
  rw [encProg_eq]
  have h1 : budExpr x.cond + budS budProg x.kids ≤ budProg x := by
    cases x
    simp only [budProg, budProgS_eq, XProg.kids, XProg.cond]
    exact Nat.le_refl _
  exact l06Own_all x ⟨by omega, by have := budS_len budProg x.kids; omega⟩ fun k _hk => l06Own_ok k (by have := budS_mem budProg _hk; omega)
  termination_by SizeOf.sizeOf x
  decreasing_by
    have := List.sizeOf_lt_of_mem _hk
    cases x
    simp only [XProg.mk.sizeOf_spec]
    show SizeOf.sizeOf k < _
    simp only [XProg.kids] at this
    omega
theorem ownPT_ro (x : XProg) : roL (ownPT x) = encProg x := by
  have := roProg x
  rwa [ownProg_eq] at this
theorem l06Own_ro (x : XProg) (hb : budProg x ≤ 1048576) : CallX Try.prog 100 [.c (.rp 6 (encProg x))] [] (.a 6 (encProg x)) := by
  have h : SoftT (.a 6 (ownPT x)) (.a 6 (encProg x)) := by
    rw [← ownPT_ro]
    exact .v (.a (SoftN.roL _))
  exact (l06Own_ok x hb).soft h
theorem progN_soft {P : Program} {f : Nat} {args : List SV} {outs : List (Option (List CV))} {k n c1 c2 : Int} {cs : List XExpr} (h : CallX P f args outs (.a 6 [J k, J n, J c1, J c2, .ro 3 (cs.map encExpr), .ows 31 6 []])) : CallX P f args outs (.a 6 (encProg (.mk k n (.mk c1 c2 cs) []))) := by
  rw [encProg_eq]
  exact h.soft (.v (.a (.same (.same (.same (.same (.same (.ro .nil))))))))
theorem progL_soft {P : Program} {f : Nat} {args : List SV} {outs : List (Option (List CV))} {k n : Int} (h : CallX P f args outs (.a 6 [J k, J n, J 0, J 0, .ows 28 3 [], .ows 31 6 []])) : CallX P f args outs (.a 6 (encProg (.mk k n noE []))) := by
  rw [encProg_eq]
  exact h.soft (.v (.a (.same (.same (.same (.same (.ro (.ro .nil))))))))
theorem l06Skip_ok : CallX Try.prog 20 [] [] (.a 6 (encProg (.mk 1 0 noE []))) := by
  refine progL_soft ?_
  refine callX_of_vc htb hm Try.func20 rfl rfl rfl rfl (ann := fun _ => none) (gh := fun _ => false) ?_
  repeat' ((conv => whnf); first | (guard_target = Done _; refine Done.mk ?_) | (guard_target = RetX _ _; refine RetX.mk ?_ ?_) | (guard_target = Fact _ _; refine Fact.mk fun hL => ?_; (try simp only [List.length_map, maxLen] at hL)) | (guard_target = Branch _ _ _; (first | refine Branch.dec ?_ ?_ | refine Branch.beq ?_ ?_ | refine Branch.bne ?_ ?_ | refine Branch.ndec ?_ ?_ | refine Branch.nb ?_ ?_ | refine Branch.mk ?_ ?_) <;> intro h <;> (try simp only [List.length_map] at h) <;> (try omega) <;> (try contradiction)) | (guard_target = Arith _ _ _; refine Arith.fit (wrap_fit (by first | omega | (simp only [List.length_map]; omega)) (by first | omega | (simp only [List.length_map]; omega))) ?_) | (guard_target = Arith _ _ _; refine Arith.fit (by decide) ?_) | (guard_target = Index _ _ _; first  | refine Index.mk _ (idx_map (by omega)) ?_) | (guard_target = Need (_ = true) _; refine Need.mk (by first | kernel_rfl | rfl) ?_) | (guard_target = LinkV _ _ _; first  | refine LinkV.no ?_) | (guard_target = GhO _ _ _ _; refine GhO.go ?_) | (guard_target = Need _ _; refine Need.mk (by first  | omega | (simp only [List.length_map]; omega)) ?_))
  all_goals first | rfl | trivial
theorem l06Seq_ok (a b : XProg) (ha : budProg a ≤ 1048576) (hb : budProg b ≤ 1048576) : CallX Try.prog 80 [.a 6 (encProg a), .a 6 (encProg b)] [] (.a 6 (encProg (.mk 5 0 noE [a, b]))) := by
  have p := l06Own_ro a ha
  have q := l06Own_ro b hb
  have h : CallX Try.prog 80 [.a 6 (encProg a), .a 6 (encProg b)] [] (.a 6 [J 5, J 0, J 0, J 0, .ows 28 3 [], .ows 31 6 [encProg a, encProg b]]) := by
    obtain ⟨a1, a2, ⟨a3, a4, a5⟩, a6⟩ := a
    obtain ⟨b1, b2, ⟨b3, b4, b5⟩, b6⟩ := b
    refine callX_of_vc htb hm Try.func80 rfl rfl rfl rfl (ann := fun _ => none) (gh := fun reg_ => match reg_ with | 1 => true | _ => false) ?_
    repeat' ((conv => whnf); first | (guard_target = Done _; refine Done.mk ?_) | (guard_target = RetX _ _; refine RetX.mk ?_ ?_) | (guard_target = Fact _ _; refine Fact.mk fun hL => ?_; (try simp only [List.length_map, maxLen] at hL)) | (guard_target = Branch _ _ _; (first | refine Branch.dec ?_ ?_ | refine Branch.beq ?_ ?_ | refine Branch.bne ?_ ?_ | refine Branch.ndec ?_ ?_ | refine Branch.nb ?_ ?_ | refine Branch.mk ?_ ?_) <;> intro h <;> (try simp only [List.length_map] at h) <;> (try omega) <;> (try contradiction)) | (guard_target = Gh _ _ _ _ _; refine Gh.frzp 0 _ rfl (Gh.frzp 1 _ rfl (Gh.go ?_))) | (guard_target = CallN _ 100 _ _ _ _; (first | refine CallN.gen [] _ _ _ rfl p rfl rfl _ rfl ?_ | refine CallN.gen [] _ _ _ rfl q rfl rfl _ rfl ?_)) | (guard_target = Arith _ _ _; refine Arith.fit (wrap_fit (by first | omega | (simp only [List.length_map]; omega)) (by first | omega | (simp only [List.length_map]; omega))) ?_) | (guard_target = Arith _ _ _; refine Arith.fit (by decide) ?_) | (guard_target = Index _ _ _; first  | refine Index.mk _ (idx_map (by omega)) ?_) | (guard_target = Need (_ = true) _; refine Need.mk (by first | kernel_rfl | rfl) ?_) | (guard_target = LinkV _ _ _; first  | refine LinkV.no ?_) | (guard_target = GhO _ _ _ _; refine GhO.go ?_) | (guard_target = Need _ _; refine Need.mk (by first  | omega | (simp only [List.length_map]; omega)) ?_))
    all_goals first | rfl | trivial
  rw [encProg_eq (.mk 5 0 noE [a, b])]
  exact h.soft (.v (.a (.same (.same (.same (.same (.ro (.ro .nil))))))))
theorem l06If_ok (c : XExpr) (a b : XProg) (hc : budExpr c ≤ 1048576) (ha : budProg a ≤ 1048576) (hb : budProg b ≤ 1048576) : CallX Try.prog 81 [.a 3 (encExpr c), .a 6 (encProg a), .a 6 (encProg b)] [] (.a 6 (encProg (.mk 6 0 c [a, b]))) := by
  have r := l01Own_ro c hc
  have p := l06Own_ro a ha
  have q := l06Own_ro b hb
  obtain ⟨c1, c2, c3⟩ := c
  rw [enc_mk] at r ⊢
  have h : CallX Try.prog 81 [.a 3 [J c1, J c2, .ro 3 (c3.map encExpr)], .a 6 (encProg a), .a 6 (encProg b)] [] (.a 6 [J 6, J 0, J c1, J c2, .ro 3 (c3.map encExpr), .ows 31 6 [encProg a, encProg b]]) := by
    obtain ⟨a1, a2, ⟨a3, a4, a5⟩, a6⟩ := a
    obtain ⟨b1, b2, ⟨b3, b4, b5⟩, b6⟩ := b
    refine callX_of_vc htb hm Try.func81 rfl rfl rfl rfl (ann := fun _ => none) (gh := fun reg_ => match reg_ with | 1 => true | _ => false) ?_
    repeat' ((conv => whnf); first | (guard_target = Done _; refine Done.mk ?_) | (guard_target = RetX _ _; refine RetX.mk ?_ ?_) | (guard_target = Fact _ _; refine Fact.mk fun hL => ?_; (try simp only [List.length_map, maxLen] at hL)) | (guard_target = Branch _ _ _; (first | refine Branch.dec ?_ ?_ | refine Branch.beq ?_ ?_ | refine Branch.bne ?_ ?_ | refine Branch.ndec ?_ ?_ | refine Branch.nb ?_ ?_ | refine Branch.mk ?_ ?_) <;> intro h <;> (try simp only [List.length_map] at h) <;> (try omega) <;> (try contradiction)) | (guard_target = Gh _ _ _ _ _; refine Gh.frzp 0 _ rfl (Gh.frzp 1 _ rfl (Gh.frzp 2 _ rfl (Gh.go ?_)))) | (guard_target = CallN _ 41 _ _ _ _; refine CallN.gen [] _ _ _ rfl r rfl rfl _ rfl ?_) | (guard_target = CallN _ 100 _ _ _ _; (first | refine CallN.gen [] _ _ _ rfl p rfl rfl _ rfl ?_ | refine CallN.gen [] _ _ _ rfl q rfl rfl _ rfl ?_)) | (guard_target = Arith _ _ _; refine Arith.fit (wrap_fit (by first | omega | (simp only [List.length_map]; omega)) (by first | omega | (simp only [List.length_map]; omega))) ?_) | (guard_target = Arith _ _ _; refine Arith.fit (by decide) ?_) | (guard_target = Index _ _ _; first  | refine Index.mk _ (idx_map (by omega)) ?_) | (guard_target = Need (_ = true) _; refine Need.mk (by first | kernel_rfl | rfl) ?_) | (guard_target = LinkV _ _ _; first  | refine LinkV.no ?_) | (guard_target = GhO _ _ _ _; refine GhO.go ?_) | (guard_target = Need _ _; refine Need.mk (by first  | omega | (simp only [List.length_map]; omega)) ?_))
    all_goals first | rfl | trivial
  rw [encProg_eq (.mk 6 0 (.mk c1 c2 c3) [a, b])]
  exact h.soft (.v (.a (.same (.same (.same (.same (.same (.ro .nil))))))))
theorem l06While_ok (c : XExpr) (a : XProg) (hc : budExpr c ≤ 1048576) (ha : budProg a ≤ 1048576) : CallX Try.prog 82 [.a 3 (encExpr c), .a 6 (encProg a)] [] (.a 6 (encProg (.mk 7 0 c [a]))) := by
  have r := l01Own_ro c hc
  have p := l06Own_ro a ha
  obtain ⟨c1, c2, c3⟩ := c
  rw [enc_mk] at r ⊢
  have h : CallX Try.prog 82 [.a 3 [J c1, J c2, .ro 3 (c3.map encExpr)], .a 6 (encProg a)] [] (.a 6 [J 7, J 0, J c1, J c2, .ro 3 (c3.map encExpr), .ows 31 6 [encProg a]]) := by
    obtain ⟨a1, a2, ⟨a3, a4, a5⟩, a6⟩ := a
    refine callX_of_vc htb hm Try.func82 rfl rfl rfl rfl (ann := fun _ => none) (gh := fun reg_ => match reg_ with | 1 => true | _ => false) ?_
    repeat' ((conv => whnf); first | (guard_target = Done _; refine Done.mk ?_) | (guard_target = RetX _ _; refine RetX.mk ?_ ?_) | (guard_target = Fact _ _; refine Fact.mk fun hL => ?_; (try simp only [List.length_map, maxLen] at hL)) | (guard_target = Branch _ _ _; (first | refine Branch.dec ?_ ?_ | refine Branch.beq ?_ ?_ | refine Branch.bne ?_ ?_ | refine Branch.ndec ?_ ?_ | refine Branch.nb ?_ ?_ | refine Branch.mk ?_ ?_) <;> intro h <;> (try simp only [List.length_map] at h) <;> (try omega) <;> (try contradiction)) | (guard_target = Gh _ _ _ _ _; refine Gh.frzp 0 _ rfl (Gh.frzp 1 _ rfl (Gh.go ?_))) | (guard_target = CallN _ 41 _ _ _ _; refine CallN.gen [] _ _ _ rfl r rfl rfl _ rfl ?_) | (guard_target = CallN _ 100 _ _ _ _; refine CallN.gen [] _ _ _ rfl p rfl rfl _ rfl ?_) | (guard_target = Arith _ _ _; refine Arith.fit (wrap_fit (by first | omega | (simp only [List.length_map]; omega)) (by first | omega | (simp only [List.length_map]; omega))) ?_) | (guard_target = Arith _ _ _; refine Arith.fit (by decide) ?_) | (guard_target = Index _ _ _; first  | refine Index.mk _ (idx_map (by omega)) ?_) | (guard_target = Need (_ = true) _; refine Need.mk (by first | kernel_rfl | rfl) ?_) | (guard_target = LinkV _ _ _; first  | refine LinkV.no ?_) | (guard_target = GhO _ _ _ _; refine GhO.go ?_) | (guard_target = Need _ _; refine Need.mk (by first  | omega | (simp only [List.length_map]; omega)) ?_))
    all_goals first | rfl | trivial
  rw [encProg_eq (.mk 7 0 (.mk c1 c2 c3) [a])]
  exact h.soft (.v (.a (.same (.same (.same (.same (.same (.ro .nil))))))))
end Go.Proofs.Ytlfigjkddnncgaa

namespace Go.Proofs.Ytlfigjkddnncgaa
open Go Go.KA Go.Proofs
set_option maxHeartbeats 16000000
set_option maxRecDepth 100000
theorem endP_cd (g : XSig) (hg : 0 ≤ g.tests ∧ g.tests ≤ 3 ∧ 0 ≤ g.actions ∧ g.actions ≤ 4) (k : Int) (s : Src) : (endP g k s).2.code = s.code := by
  unfold endP
  split
  · exact pick_cd _ _
  · split
    · exact pick_cd _ _
    · split
      · simp only [condE_cd g hg, pick_cd]
      · exact pick_cd _ _
theorem progP_cd (g : XSig) (hg : 0 ≤ g.tests ∧ g.tests ≤ 3 ∧ 0 ≤ g.actions ∧ g.actions ≤ 4) : ∀ (d : Nat) (r : Gen), (progP g d r).2.s.code = r.s.code
  | 0, r => by show (endP g _ _).2.code = _; rw [endP_cd g hg, pick_cd]
  | d + 1, r => by
    have he : (endR g r).2.s.code = r.s.code := by show (endP g _ _).2.code = _; rw [endP_cd g hg, pick_cd]
    unfold progP
    simp only
    split
    · exact he
    · split
      · simp only [progP_cd g hg d, pick_cd]
      · split
        · simp only [progP_cd g hg d, condE_cd g hg, pick_cd]
        · simp only [progP_cd g hg d, condE_cd g hg, pick_cd]
theorem progP_left (g : XSig) : ∀ (d : Nat) (r : Gen), (progP g d r).2.left ≤ r.left ∧ r.left + 1 ≤ (progP g d r).2.left + (2 ^ (d + 1) : Nat)
  | 0, r => by show r.left - 1 ≤ r.left ∧ r.left + 1 ≤ r.left - 1 + (2 : Nat); omega
  | d + 1, r => by
    have hp := two_pow_succ (d + 1)
    have h0 : 2 ≤ 2 ^ (d + 1) := by have := two_pow_succ d; have : 0 < 2 ^ d := Nat.pow_pos (by omega); omega
    have he : (endR g r).2.left ≤ r.left ∧ r.left + 1 ≤ (endR g r).2.left + (2 ^ (d + 1 + 1) : Nat) := by
      show r.left - 1 ≤ r.left ∧ r.left + 1 ≤ r.left - 1 + (2 ^ (d + 1 + 1) : Nat); omega
    unfold progP
    simp only
    split
    · exact he
    · split
      · have h1 := progP_left g d ⟨pickS r.s 12, r.left - 1⟩
        simp only [] at h1
        generalize progP g d ⟨pickS r.s 12, r.left - 1⟩ = X at h1 ⊢
        have h2 := progP_left g d X.2
        show (progP g d X.2).2.left ≤ _ ∧ _ ≤ (progP g d X.2).2.left + _
        omega
      · have h1 := progP_left g d ⟨(condE g (pickS r.s 12)).2, r.left - 1⟩
        simp only [] at h1
        generalize progP g d ⟨(condE g (pickS r.s 12)).2, r.left - 1⟩ = X at h1 ⊢
        split
        · have h2 := progP_left g d X.2
          simp only []
          omega
        · simp only []
          omega
section
variable (g : XSig) (hg : 0 ≤ g.tests ∧ g.tests ≤ 3 ∧ 0 ≤ g.actions ∧ g.actions ≤ 4)
include hg
theorem progEnd_ok (dp : Int) (left : Int) (s : Src) (n : Int) (hs : Rd s n) (hn : n ≤ 680000) (hc : s.code.length ≤ 1000000) (hl : -100000 ≤ left ∧ left ≤ 100000) (hE : left - 1 < 1 ∨ dp < 1 ∨ pickV s 12 < 3) :
    CallX Try.prog 38 [.c (.op (genC ⟨s, left⟩ g)), I dp] [some [.op (genC (endR g ⟨s, left⟩).2 g)], none] (.a 6 (encProg (endR g ⟨s, left⟩).1)) := by
  have i12 : I64 12 := by unfold I64; omega
  have i4 : I64 4 := by unfold I64; omega
  have ia : I64 g.actions := by unfold I64; omega
  have p12 := pick_ok s (hs.mono (by omega)) hc 12 i12
  have b12 := pickV_in s (n := 12) (by omega)
  have hs1 : Rd (pickS s 12) (n + 2) := hs.pick 12
  have hc1 : (pickS s 12).code.length ≤ 1000000 := by rw [pick_cd]; exact hc
  unfold endR
  simp only []
  generalize pickV s 12 = k at p12 b12 hE ⊢
  generalize pickS s 12 = sA at p12 hs1 hc1 ⊢
  by_cases g1 : g.actions > 0 ∧ k ≠ 2
  · have q := pick_ok sA (hs1.mono (by omega)) hc1 g.actions ia
    have e : endP g k sA = (.mk 3 (pickV sA g.actions) noE [], pickS sA g.actions) := by unfold endP; rw [if_pos g1]
    rw [e]
    obtain ⟨gt, ga⟩ := g
    simp only [genC] at *
    refine progL_soft ?_
    refine callX_of_vc htb hm Try.func38 rfl rfl rfl rfl (ann := fun _ => none) (gh := fun _ => false) ?_
    repeat' ((conv => whnf); first | (guard_target = Done _; refine Done.mk ?_) | (guard_target = RetX _ _; refine RetX.mk ?_ ?_) | (guard_target = Fact _ _; refine Fact.mk fun hL => ?_; (try simp only [List.length_map, maxLen] at hL)) | (guard_target = Branch _ _ _; (first | refine Branch.dec ?_ ?_ | refine Branch.beq ?_ ?_ | refine Branch.bne ?_ ?_ | refine Branch.ndec ?_ ?_ | refine Branch.nb ?_ ?_ | refine Branch.mk ?_ ?_) <;> intro h <;> (try simp only [List.length_map] at h) <;> (try omega) <;> (try contradiction)) | (guard_target = CallN _ 37 _ _ _ _; (first | refine CallN.gen [true, false] _ _ _ rfl p12 rfl rfl _ rfl ?_ | refine CallN.gen [true, false] _ _ _ rfl q rfl rfl _ rfl ?_)) | (guard_target = Arith _ _ _; refine Arith.fit (wrap_fit (by omega) (by omega)) ?_) | (guard_target = Arith _ _ _; refine Arith.fit (wrap_fit (by first | omega | (simp only [List.length_map]; omega)) (by first | omega | (simp only [List.length_map]; omega))) ?_) | (guard_target = Arith _ _ _; refine Arith.fit (by decide) ?_) | (guard_target = Index _ _ _; first  | refine Index.mk _ (idx_map (by omega)) ?_) | (guard_target = Need (_ = true) _; refine Need.mk (by first | kernel_rfl | rfl) ?_) | (guard_target = LinkV _ _ _; first  | refine LinkV.no ?_) | (guard_target = GhO _ _ _ _; refine GhO.go ?_) | (guard_target = Need _ _; refine Need.mk (by first  | omega | (simp only [List.length_map]; omega)) ?_))
    all_goals first | rfl | exact ⟨rfl, trivial⟩ | (exfalso; simp at *; omega)
  have q := pick_ok sA (hs1.mono (by omega)) hc1 4 i4
  have b4 := pickV_in sA (n := 4) (by omega)
  have hs2 : Rd (pickS sA 4) (n + 4) := (hs1.pick 4).mono (by omega)
  have hc2 : (pickS sA 4).code.length ≤ 1000000 := by rw [pick_cd]; exact hc1
  have cd := cond_ok g hg (left - 1) (pickS sA 4) (n + 4) hs2 (by omega) hc2
  unfold endP
  rw [if_neg g1]
  generalize pickV sA 4 = j at q b4 ⊢
  generalize pickS sA 4 = sB at q cd ⊢
  generalize condE g sB = X at cd ⊢
  obtain ⟨⟨k1, n1, ks1⟩, s1⟩ := X
  have sk := l06Skip_ok
  by_cases g2 : j = 0
  · rw [if_pos g2]
    obtain ⟨gt, ga⟩ := g
    simp only [genC] at *
    refine progL_soft ?_
    refine callX_of_vc htb hm Try.func38 rfl rfl rfl rfl (ann := fun _ => none) (gh := fun _ => false) ?_
    repeat' ((conv => whnf); first | (guard_target = Done _; refine Done.mk ?_) | (guard_target = RetX _ _; refine RetX.mk ?_ ?_) | (guard_target = Fact _ _; refine Fact.mk fun hL => ?_; (try simp only [List.length_map, maxLen] at hL)) | (guard_target = Branch _ _ _; (first | refine Branch.dec ?_ ?_ | refine Branch.beq ?_ ?_ | refine Branch.bne ?_ ?_ | refine Branch.ndec ?_ ?_ | refine Branch.nb ?_ ?_ | refine Branch.mk ?_ ?_) <;> intro h <;> (try simp only [List.length_map] at h) <;> (try omega) <;> (try contradiction)) | (guard_target = CallN _ 37 _ _ _ _; (first | refine CallN.gen [true, false] _ _ _ rfl p12 rfl rfl _ rfl ?_ | refine CallN.gen [true, false] _ _ _ rfl q rfl rfl _ rfl ?_)) | (guard_target = Arith _ _ _; refine Arith.fit (wrap_fit (by omega) (by omega)) ?_) | (guard_target = Arith _ _ _; refine Arith.fit (wrap_fit (by first | omega | (simp only [List.length_map]; omega)) (by first | omega | (simp only [List.length_map]; omega))) ?_) | (guard_target = Arith _ _ _; refine Arith.fit (by decide) ?_) | (guard_target = Index _ _ _; first  | refine Index.mk _ (idx_map (by omega)) ?_) | (guard_target = Need (_ = true) _; refine Need.mk (by first | kernel_rfl | rfl) ?_) | (guard_target = LinkV _ _ _; first  | refine LinkV.no ?_) | (guard_target = GhO _ _ _ _; refine GhO.go ?_) | (guard_target = Need _ _; refine Need.mk (by first  | omega | (simp only [List.length_map]; omega)) ?_))
    all_goals first | rfl | exact ⟨rfl, trivial⟩ | (exfalso; simp at *; omega)
  rw [if_neg g2]
  by_cases g3 : j = 1
  · rw [if_pos g3]
    obtain ⟨gt, ga⟩ := g
    simp only [genC] at *
    refine progN_soft ?_
    rw [enc_mk] at cd
    refine callX_of_vc htb hm Try.func38 rfl rfl rfl rfl (ann := fun _ => none) (gh := fun _ => false) ?_
    repeat' ((conv => whnf); first | (guard_target = Done _; refine Done.mk ?_) | (guard_target = RetX _ _; refine RetX.mk ?_ ?_) | (guard_target = Fact _ _; refine Fact.mk fun hL => ?_; (try simp only [List.length_map, maxLen] at hL)) | (guard_target = Branch _ _ _; (first | refine Branch.dec ?_ ?_ | refine Branch.beq ?_ ?_ | refine Branch.bne ?_ ?_ | refine Branch.ndec ?_ ?_ | refine Branch.nb ?_ ?_ | refine Branch.mk ?_ ?_) <;> intro h <;> (try simp only [List.length_map] at h) <;> (try omega) <;> (try contradiction)) | (guard_target = CallN _ 37 _ _ _ _; (first | refine CallN.gen [true, false] _ _ _ rfl p12 rfl rfl _ rfl ?_ | refine CallN.gen [true, false] _ _ _ rfl q rfl rfl _ rfl ?_)) | (guard_target = CallN _ 79 _ _ _ _; refine CallN.gen [true] _ _ _ rfl cd rfl rfl _ rfl ?_) | (guard_target = Arith _ _ _; refine Arith.fit (wrap_fit (by omega) (by omega)) ?_) | (guard_target = Arith _ _ _; refine Arith.fit (wrap_fit (by first | omega | (simp only [List.length_map]; omega)) (by first | omega | (simp only [List.length_map]; omega))) ?_) | (guard_target = Arith _ _ _; refine Arith.fit (by decide) ?_) | (guard_target = Index _ _ _; first  | refine Index.mk _ (idx_map (by omega)) ?_) | (guard_target = Need (_ = true) _; refine Need.mk (by first | kernel_rfl | rfl) ?_) | (guard_target = LinkV _ _ _; first  | refine LinkV.no ?_) | (guard_target = GhO _ _ _ _; refine GhO.go ?_) | (guard_target = Need _ _; refine Need.mk (by first  | omega | (simp only [List.length_map]; omega)) ?_))
    all_goals first | rfl | exact ⟨rfl, trivial⟩ | (exfalso; simp at *; omega)
  · rw [if_neg g3]
    obtain ⟨gt, ga⟩ := g
    simp only [genC] at *
    refine callX_of_vc htb hm Try.func38 rfl rfl rfl rfl (ann := fun _ => none) (gh := fun _ => false) ?_
    repeat' ((conv => whnf); first | (guard_target = Done _; refine Done.mk ?_) | (guard_target = RetX _ _; refine RetX.mk ?_ ?_) | (guard_target = Fact _ _; refine Fact.mk fun hL => ?_; (try simp only [List.length_map, maxLen] at hL)) | (guard_target = Branch _ _ _; (first | refine Branch.dec ?_ ?_ | refine Branch.beq ?_ ?_ | refine Branch.bne ?_ ?_ | refine Branch.ndec ?_ ?_ | refine Branch.nb ?_ ?_ | refine Branch.mk ?_ ?_) <;> intro h <;> (try simp only [List.length_map] at h) <;> (try omega) <;> (try contradiction)) | (guard_target = CallN _ 37 _ _ _ _; (first | refine CallN.gen [true, false] _ _ _ rfl p12 rfl rfl _ rfl ?_ | refine CallN.gen [true, false] _ _ _ rfl q rfl rfl _ rfl ?_)) | (guard_target = CallN _ 20 _ _ _ _; refine CallN.gen [] _ _ _ rfl sk rfl rfl _ rfl ?_) | (guard_target = Arith _ _ _; refine Arith.fit (wrap_fit (by omega) (by omega)) ?_) | (guard_target = Arith _ _ _; refine Arith.fit (wrap_fit (by first | omega | (simp only [List.length_map]; omega)) (by first | omega | (simp only [List.length_map]; omega))) ?_) | (guard_target = Arith _ _ _; refine Arith.fit (by decide) ?_) | (guard_target = Index _ _ _; first  | refine Index.mk _ (idx_map (by omega)) ?_) | (guard_target = Need (_ = true) _; refine Need.mk (by first | kernel_rfl | rfl) ?_) | (guard_target = LinkV _ _ _; first  | refine LinkV.no ?_) | (guard_target = GhO _ _ _ _; refine GhO.go ?_) | (guard_target = Need _ _; refine Need.mk (by first  | omega | (simp only [List.length_map]; omega)) ?_))
    all_goals first | rfl | exact ⟨rfl, trivial⟩ | (exfalso; simp at *; omega)
def RoomP (d : Nat) (r : Gen) (n : Int) : Prop := Rd r.s n ∧ n + costP d ≤ 600000 ∧ r.s.code.length ≤ 1000000 ∧ -100000 ≤ r.left - (2 ^ (d + 1) : Nat) ∧ r.left ≤ 100000
theorem prog_bud (d : Nat) (hd : d ≤ 10) (r : Gen) : budProg (progP g d r).1 ≤ 1048576 := by
  have _ := hg
  have h := (progP_ok g d r).2
  have h2 : 2 ^ d ≤ 2 ^ 10 := Nat.pow_le_pow_right (by omega) hd
  have : (2 : Nat) ^ 10 = 1024 := by decide
  omega
theorem prog_ok : ∀ (d : Nat) (dp : Int) (r : Gen) (n : Int), dp = d → RoomP d r n → d ≤ 10 →
    CallX Try.prog 38 [.c (.op (genC r g)), I dp] [some [.op (genC (progP g d r).2 g)], none] (.a 6 (encProg (progP g d r).1))
  | 0, dp, ⟨s, left⟩, n, hdp, ⟨hs, hn, hc, hl, hu⟩, hd => by
    have h0 := costP_lo 0
    simp only [] at hs hc hl hu
    exact progEnd_ok g hg dp left s n hs (by omega) hc ⟨by omega, hu⟩ (.inr (.inl (by omega)))
  | d + 1, dp, ⟨s, left⟩, n, hdp, ⟨hs, hn, hc, hl, hu⟩, hd => by
    have h0 := costP_lo d
    have h1 := costP_succ d
    have hp := two_pow_succ (d + 1)
    have hq : 2 ≤ 2 ^ (d + 1) := by have := two_pow_succ d; have : 0 < 2 ^ d := Nat.pow_pos (by omega); omega
    simp only [] at hs hc hl hu
    by_cases g1 : left - 1 < 1 ∨ pickV s 12 < 3
    · have e : progP g (d + 1) ⟨s, left⟩ = endR g ⟨s, left⟩ := by rw [progP]; simp only []; rw [if_pos g1]
      rw [e]
      exact progEnd_ok g hg dp left s n hs (by omega) hc ⟨by omega, hu⟩ (by omega)
    have i12 : I64 12 := by unfold I64; omega
    have p12 := pick_ok s (hs.mono (by omega)) hc 12 i12
    have b12 := pickV_in s (n := 12) (by omega)
    have hs1 : Rd (pickS s 12) (n + 2) := hs.pick 12
    have hc1 : (pickS s 12).code.length ≤ 1000000 := by rw [pick_cd]; exact hc
    rw [progP]
    simp only []
    rw [if_neg g1]
    generalize pickV s 12 = k at p12 b12 g1 ⊢
    generalize pickS s 12 = sA at p12 hs1 hc1 ⊢
    by_cases g2 : k < 6
    · rw [if_pos g2]
      have ia := prog_ok d (dp - 1) ⟨sA, left - 1⟩ (n + 2) (by omega) ⟨hs1, by omega, hc1, by simp only []; omega, by simp only []; omega⟩ (by omega)
      have ra := Rd.prog g d ⟨sA, left - 1⟩ hs1
      have la := progP_left g d ⟨sA, left - 1⟩
      have ca := progP_cd g hg d ⟨sA, left - 1⟩
      have ba := prog_bud g hg d (by omega) ⟨sA, left - 1⟩
      generalize progP g d ⟨sA, left - 1⟩ = X at ia ra la ca ba ⊢
      obtain ⟨⟨k1, n1, ⟨k2, n2, ks2⟩, ks1⟩, ⟨s1, l1⟩⟩ := X
      simp only [] at ra la ca ia ba ⊢
      have ib := prog_ok d (dp - 1) ⟨s1, l1⟩ (n + 2 + costP d) (by omega) ⟨ra, by omega, by simp only []; rw [ca]; exact hc1, by simp only []; omega, by simp only []; omega⟩ (by omega)
      have bb := prog_bud g hg d (by omega) ⟨s1, l1⟩
      generalize progP g d ⟨s1, l1⟩ = Y at ib bb ⊢
      obtain ⟨⟨k3, n3, ⟨k4, n4, ks4⟩, ks3⟩, ⟨s2, l2⟩⟩ := Y
      have sq := l06Seq_ok _ _ ba bb
      simp only [genC] at ia ib sq ⊢
      refine callX_of_vc htb hm Try.func38 rfl rfl rfl rfl (ann := fun _ => none) (gh := fun _ => false) ?_
      repeat' ((conv => whnf); first | (guard_target = Done _; refine Done.mk ?_) | (guard_target = RetX _ _; refine RetX.mk ?_ ?_) | (guard_target = Fact _ _; refine Fact.mk fun hL => ?_; (try simp only [List.length_map, maxLen] at hL)) | (guard_target = Branch _ _ _; (first | refine Branch.dec ?_ ?_ | refine Branch.beq ?_ ?_ | refine Branch.bne ?_ ?_ | refine Branch.ndec ?_ ?_ | refine Branch.nb ?_ ?_ | refine Branch.mk ?_ ?_) <;> intro h <;> (try simp only [List.length_map] at h) <;> (try omega) <;> (try contradiction)) | (guard_target = CallN _ 37 _ _ _ _; refine CallN.gen [true, false] _ _ _ rfl p12 rfl rfl _ rfl ?_) | (guard_target = CallN _ 38 _ _ _ _; (first | refine CallN.gen [true, false] _ _ _ rfl ia rfl rfl _ rfl ?_ | refine CallN.gen [true, false] _ _ _ rfl ib rfl rfl _ rfl ?_)) | (guard_target = CallN _ 80 _ _ _ _; refine CallN.gen [] _ _ _ rfl sq rfl rfl _ rfl ?_) | (guard_target = Arith _ _ _; refine Arith.fit (wrap_fit (by omega) (by omega)) ?_) | (guard_target = Arith _ _ _; refine Arith.fit (wrap_fit (by first | omega | (simp only [List.length_map]; omega)) (by first | omega | (simp only [List.length_map]; omega))) ?_) | (guard_target = Arith _ _ _; refine Arith.fit (by decide) ?_) | (guard_target = Index _ _ _; first  | refine Index.mk _ (idx_map (by omega)) ?_) | (guard_target = Need (_ = true) _; refine Need.mk (by first | kernel_rfl | rfl) ?_) | (guard_target = LinkV _ _ _; first  | refine LinkV.no ?_) | (guard_target = GhO _ _ _ _; refine GhO.go ?_) | (guard_target = Need _ _; refine Need.mk (by first  | omega | (simp only [List.length_map]; omega)) ?_))
      all_goals first | rfl | exact ⟨rfl, trivial⟩ | (exfalso; simp at *; omega)
    rw [if_neg g2]
    have cd := cond_ok g hg (left - 1) sA (n + 2) hs1 (by omega) hc1
    have rc := Rd.cond hs1 g
    have cc := condE_cd g hg sA
    have bc := condE_bud g sA
    generalize condE g sA = C at cd rc cc bc ⊢
    obtain ⟨⟨k0, n0, ks0⟩, s0⟩ := C
    simp only [] at cd rc cc bc ⊢
    have hc0 : s0.code.length ≤ 1000000 := by rw [cc]; exact hc1
    have ia := prog_ok d (dp - 1) ⟨s0, left - 1⟩ (n + 602) (by omega) ⟨rc.mono (by omega), by omega, hc0, by simp only []; omega, by simp only []; omega⟩ (by omega)
    have ra := Rd.prog g d ⟨s0, left - 1⟩ rc
    have la := progP_left g d ⟨s0, left - 1⟩
    have ca := progP_cd g hg d ⟨s0, left - 1⟩
    have ba := prog_bud g hg d (by omega) ⟨s0, left - 1⟩
    generalize progP g d ⟨s0, left - 1⟩ = X at ia ra la ca ba ⊢
    obtain ⟨⟨k1, n1, ⟨k2, n2, ks2⟩, ks1⟩, ⟨s1, l1⟩⟩ := X
    simp only [] at ra la ca ia ba ⊢
    by_cases g3 : k < 9
    · rw [if_pos g3]
      have ib := prog_ok d (dp - 1) ⟨s1, l1⟩ (n + 2 + 600 + costP d) (by omega) ⟨ra, by omega, by simp only []; rw [ca]; exact hc0, by simp only []; omega, by simp only []; omega⟩ (by omega)
      have bb := prog_bud g hg d (by omega) ⟨s1, l1⟩
      generalize progP g d ⟨s1, l1⟩ = Y at ib bb ⊢
      obtain ⟨⟨k3, n3, ⟨k4, n4, ks4⟩, ks3⟩, ⟨s2, l2⟩⟩ := Y
      have sq := l06If_ok _ _ _ (show budExpr (.mk k0 n0 ks0) ≤ 1048576 by omega) ba bb
      simp only [genC] at cd ia ib sq ⊢
      refine callX_of_vc htb hm Try.func38 rfl rfl rfl rfl (ann := fun _ => none) (gh := fun _ => false) ?_
      repeat' ((conv => whnf); first | (guard_target = Done _; refine Done.mk ?_) | (guard_target = RetX _ _; refine RetX.mk ?_ ?_) | (guard_target = Fact _ _; refine Fact.mk fun hL => ?_; (try simp only [List.length_map, maxLen] at hL)) | (guard_target = Branch _ _ _; (first | refine Branch.dec ?_ ?_ | refine Branch.beq ?_ ?_ | refine Branch.bne ?_ ?_ | refine Branch.ndec ?_ ?_ | refine Branch.nb ?_ ?_ | refine Branch.mk ?_ ?_) <;> intro h <;> (try simp only [List.length_map] at h) <;> (try omega) <;> (try contradiction)) | (guard_target = CallN _ 37 _ _ _ _; refine CallN.gen [true, false] _ _ _ rfl p12 rfl rfl _ rfl ?_) | (guard_target = CallN _ 79 _ _ _ _; refine CallN.gen [true] _ _ _ rfl cd rfl rfl _ rfl ?_) | (guard_target = CallN _ 38 _ _ _ _; (first | refine CallN.gen [true, false] _ _ _ rfl ia rfl rfl _ rfl ?_ | refine CallN.gen [true, false] _ _ _ rfl ib rfl rfl _ rfl ?_)) | (guard_target = CallN _ 81 _ _ _ _; refine CallN.gen [] _ _ _ rfl sq rfl rfl _ rfl ?_) | (guard_target = Arith _ _ _; refine Arith.fit (wrap_fit (by omega) (by omega)) ?_) | (guard_target = Arith _ _ _; refine Arith.fit (wrap_fit (by first | omega | (simp only [List.length_map]; omega)) (by first | omega | (simp only [List.length_map]; omega))) ?_) | (guard_target = Arith _ _ _; refine Arith.fit (by decide) ?_) | (guard_target = Index _ _ _; first  | refine Index.mk _ (idx_map (by omega)) ?_) | (guard_target = Need (_ = true) _; refine Need.mk (by first | kernel_rfl | rfl) ?_) | (guard_target = LinkV _ _ _; first  | refine LinkV.no ?_) | (guard_target = GhO _ _ _ _; refine GhO.go ?_) | (guard_target = Need _ _; refine Need.mk (by first  | omega | (simp only [List.length_map]; omega)) ?_))
      all_goals first | rfl | exact ⟨rfl, trivial⟩ | (exfalso; simp at *; omega)
    · rw [if_neg g3]
      have sq := l06While_ok _ _ (show budExpr (.mk k0 n0 ks0) ≤ 1048576 by omega) ba
      simp only [genC] at cd ia sq ⊢
      refine callX_of_vc htb hm Try.func38 rfl rfl rfl rfl (ann := fun _ => none) (gh := fun _ => false) ?_
      repeat' ((conv => whnf); first | (guard_target = Done _; refine Done.mk ?_) | (guard_target = RetX _ _; refine RetX.mk ?_ ?_) | (guard_target = Fact _ _; refine Fact.mk fun hL => ?_; (try simp only [List.length_map, maxLen] at hL)) | (guard_target = Branch _ _ _; (first | refine Branch.dec ?_ ?_ | refine Branch.beq ?_ ?_ | refine Branch.bne ?_ ?_ | refine Branch.ndec ?_ ?_ | refine Branch.nb ?_ ?_ | refine Branch.mk ?_ ?_) <;> intro h <;> (try simp only [List.length_map] at h) <;> (try omega) <;> (try contradiction)) | (guard_target = CallN _ 37 _ _ _ _; refine CallN.gen [true, false] _ _ _ rfl p12 rfl rfl _ rfl ?_) | (guard_target = CallN _ 79 _ _ _ _; refine CallN.gen [true] _ _ _ rfl cd rfl rfl _ rfl ?_) | (guard_target = CallN _ 38 _ _ _ _; refine CallN.gen [true, false] _ _ _ rfl ia rfl rfl _ rfl ?_) | (guard_target = CallN _ 82 _ _ _ _; refine CallN.gen [] _ _ _ rfl sq rfl rfl _ rfl ?_) | (guard_target = Arith _ _ _; refine Arith.fit (wrap_fit (by omega) (by omega)) ?_) | (guard_target = Arith _ _ _; refine Arith.fit (wrap_fit (by first | omega | (simp only [List.length_map]; omega)) (by first | omega | (simp only [List.length_map]; omega))) ?_) | (guard_target = Arith _ _ _; refine Arith.fit (by decide) ?_) | (guard_target = Index _ _ _; first  | refine Index.mk _ (idx_map (by omega)) ?_) | (guard_target = Need (_ = true) _; refine Need.mk (by first | kernel_rfl | rfl) ?_) | (guard_target = LinkV _ _ _; first  | refine LinkV.no ?_) | (guard_target = GhO _ _ _ _; refine GhO.go ?_) | (guard_target = Need _ _; refine Need.mk (by first  | omega | (simp only [List.length_map]; omega)) ?_))
      all_goals first | rfl | exact ⟨rfl, trivial⟩ | (exfalso; simp at *; omega)
end
end Go.Proofs.Ytlfigjkddnncgaa
