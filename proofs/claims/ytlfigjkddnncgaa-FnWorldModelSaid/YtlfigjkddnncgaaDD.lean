/- Contracts of the copies of expressions and of negations. No conditions but bounds of size. -/
import Derived.Test.YtlfigjkddnncgaaPC
import Derived.Test.YtlfigjkddnncgaaEngY
import Derived.Test.YtlfigjkddnncgaaDA
namespace Go.Proofs.Ytlfigjkddnncgaa
open Go Go.KA Go.Proofs
set_option maxHeartbeats 16000000
set_option maxRecDepth 100000
theorem take_map_next {α β : Type} {f : α → β} {l : List α} {i : Nat} (h : i < l.length) : (l.take (i + 1)).map f = (l.take i).map f ++ [f l[i]] := by
  rw [List.take_add_one, List.getElem?_eq_getElem h, List.map_append]
  rfl
abbrev ownT (x : XExpr) : List CV := [J x.kind, J x.num, .own 28 3 (x.kids.map ownExpr)]
theorem own_next {l : List XExpr} {i : Nat} {rows : List (List CV)} (hi : i < l.length) (h : rows = (l.take i).map ownExpr) : rows ++ [ownT l[i]] = (l.take (i + 1)).map ownExpr := by
  rw [take_map_next hi, h, ownExpr_eq]
theorem l01Own_all (x : XExpr) (hl : x.kids.length ≤ 1048576) (hx : ∀ k ∈ x.kids, CallX Try.prog 41 [.c (.rp 3 (encExpr k))] [] (.a 3 (ownT k))) : CallX Try.prog 41 [.c (.rp 3 (toldE x))] [] (.a 3 (ownT x)) := by
  refine callX_of_vc htb hm Try.func41 rfl rfl rfl rfl (ann := fun _ => none) (gh := fun _ => false) ?_
  repeat' ((conv => whnf); first | (guard_target = Done _; refine Done.mk ?_) | (guard_target = RetX _ _; refine RetX.mk ?_ ?_) | (guard_target =~ LoopE 3 _ _ _ _ _ _; refine LoopE.mk { α := Nat × List (List CV), keep := [0, 2, 3], ov := fun ⟨i, rows⟩ => [(4, I (i : Nat))], hv := fun ⟨i, rows⟩ => [(4, .cells [.c (J x.kind), .c (J x.num), .lw 2]), (2, .orow none 28 3 rows)], φ := fun ⟨i, rows⟩ => i ≤ x.kids.length ∧ rows = (x.kids.take i).map ownExpr, μ := fun ⟨i, rows⟩ => x.kids.length - i } (LoopN.mk ((0, []) : Nat × List (List CV)) (by exact ⟨Nat.zero_le _, rfl⟩) (by (repeat' ((conv => whnf) <;> (first | exact trivial | refine ⟨?_, ?_⟩ | kernel_rfl))); done) (by (repeat' ((conv => whnf) <;> (first | exact trivial | refine ⟨?_, ?_⟩ | kernel_rfl))); done) (by (repeat' ((conv => whnf) <;> (first | exact trivial | refine ⟨?_, ?_⟩ | exact rfl | (simp only [List.map_append, List.map_cons, List.map_nil, List.map_set]; first | done | rfl)))); done) (fun A ha => ?_) (by intro A; first | rfl | (obtain ⟨_, _⟩ := A; rfl) | (obtain ⟨_, _, _⟩ := A; rfl))); obtain ⟨i, rows⟩ := A; have ha : i ≤ x.kids.length ∧ rows = (x.kids.take i).map ownExpr := ha; have hrl : rows.length = i := (by rw [ha.2, List.length_map, List.length_take]; omega)) | (guard_target = Gh _ _ _ _ _; refine Gh.go ⟨((i + 1, rows ++ [ownT x.kids[i]]) : Nat × List (List CV)), (by exact ⟨by show i + 1 ≤ _; omega, own_next (by omega) ha.2⟩), (by first | (show _ < _; simp only []; omega) | omega | (simp; omega)), (by (repeat' ((conv => whnf) <;> (first | exact trivial | refine ⟨?_, ?_⟩ | kernel_rfl))); done), (by (repeat' ((conv => whnf) <;> (first | exact trivial | refine ⟨?_, ?_⟩ | kernel_rfl))); done), (by (repeat' ((conv => whnf) <;> (first | exact trivial | refine ⟨?_, ?_⟩ | exact rfl | (simp only [List.map_append, List.map_cons, List.map_nil, List.map_set]; first | done | rfl)))); done)⟩) | (guard_target = Fact _ _; refine Fact.mk fun hL => ?_; (try simp only [List.length_map, maxLen] at hL)) | (guard_target = Branch _ _ _; (first | refine Branch.dec ?_ ?_ | refine Branch.beq ?_ ?_ | refine Branch.bne ?_ ?_ | refine Branch.ndec ?_ ?_ | refine Branch.nb ?_ ?_ | refine Branch.mk ?_ ?_) <;> intro h <;> (try simp only [List.length_map] at h) <;> (try omega) <;> (try contradiction)) | (guard_target = CallN _ 41 _ _ _ _; refine CallN.gen [] _ _ _ rfl (hx _ (List.getElem_mem (by omega))) rfl rfl _ rfl ?_) | (guard_target = Arith _ _ _; refine Arith.fit (wrap_fit (by first | omega | (simp only [List.length_map]; omega)) (by first | omega | (simp only [List.length_map]; omega))) ?_) | (guard_target = Arith _ _ _; refine Arith.fit (by decide) ?_) | (guard_target = Index _ _ _; first | refine Index.mk _ (idx_map (i := i) (by omega)) ?_ | refine Index.mk _ (idx_map (by omega)) ?_) | (guard_target = Need (_ = true) _; refine Need.mk (by first | kernel_rfl | rfl) ?_) | (guard_target = LinkV _ _ _; first  | refine LinkV.no ?_) | (guard_target = GhO _ _ _ _; refine GhO.go ?_) | (guard_target = Need _ _; refine Need.mk (by first | ((simp only [List.length_cons, List.length_nil, maxLen]; constructor <;> omega)) | omega | (simp only [List.length_map]; omega)) ?_))
  all_goals first | rfl | trivial | (have h9 := ha.2; rw [List.take_of_length_le (by omega)] at h9; rw [h9]; rfl)
theorem l01Own_ok (x : XExpr) (hb : budExpr x ≤ 1048576) : CallX Try.prog 41 [.c (.rp 3 (encExpr x))] [] (.a 3 (ownT x)) := by
  rw [encExpr_eq]
  have h1 : budS budExpr x.kids ≤ budExpr x := by
    cases x
    simp only [budExpr, budExprS_eq, XExpr.kids]
    exact Nat.le_refl _
  exact l01Own_all x (by have := budS_len budExpr x.kids; omega) fun k _hk => l01Own_ok k (by have := budS_mem budExpr _hk; omega)
  termination_by SizeOf.sizeOf x
  decreasing_by
    have := List.sizeOf_lt_of_mem _hk
    cases x
    simp only [XExpr.mk.sizeOf_spec]
    show SizeOf.sizeOf k < _
    simp only [XExpr.kids] at this
    omega
theorem ownT_ro (x : XExpr) : roL (ownT x) = encExpr x := by
  have := roExpr x
  rwa [ownExpr_eq] at this
theorem own_soft (x : XExpr) : SoftT (.a 3 (ownT x)) (.a 3 (encExpr x)) := by
  rw [← ownT_ro]
  exact .v (.a (SoftN.roL _))
theorem l01Own_ro (x : XExpr) (hb : budExpr x ≤ 1048576) : CallX Try.prog 41 [.c (.rp 3 (encExpr x))] [] (.a 3 (encExpr x)) := (l01Own_ok x hb).soft (own_soft x)
theorem enc_mk (k n : Int) (ks : List XExpr) : encExpr (.mk k n ks) = [J k, J n, .ro 3 (ks.map encExpr)] := encExpr_eq _
abbrev notE (c : XExpr) : XExpr := .mk 5 0 [c]
abbrev pairE (k : Int) (a b : XExpr) : XExpr := .mk k 0 [a, b]
theorem l02Pair_ok (k : Int) (a b : XExpr) : CallX Try.prog 42 [I k, .a 3 (encExpr a), .a 3 (encExpr b)] [] (.a 3 (encExpr (pairE k a b))) := by
  have h : CallX Try.prog 42 [I k, .a 3 (encExpr a), .a 3 (encExpr b)] [] (.a 3 [J k, J 0, .ows 28 3 [encExpr a, encExpr b]]) := by
    cases a
    cases b
    refine callX_of_vc htb hm Try.func42 rfl rfl rfl rfl (ann := fun _ => none) (gh := fun _ => false) ?_
    repeat' ((conv => whnf); first | (guard_target = Done _; refine Done.mk ?_) | (guard_target = RetX _ _; refine RetX.mk ?_ ?_) | (guard_target = Fact _ _; refine Fact.mk fun hL => ?_; (try simp only [List.length_map, maxLen] at hL)) | (guard_target = Branch _ _ _; (first | refine Branch.dec ?_ ?_ | refine Branch.beq ?_ ?_ | refine Branch.bne ?_ ?_ | refine Branch.ndec ?_ ?_ | refine Branch.nb ?_ ?_ | refine Branch.mk ?_ ?_) <;> intro h <;> (try simp only [List.length_map] at h) <;> (try omega) <;> (try contradiction)) | (guard_target = Arith _ _ _; refine Arith.fit (wrap_fit (by first | omega | (simp only [List.length_map]; omega)) (by first | omega | (simp only [List.length_map]; omega))) ?_) | (guard_target = Arith _ _ _; refine Arith.fit (by decide) ?_) | (guard_target = Index _ _ _; first  | refine Index.mk _ (idx_map (by omega)) ?_) | (guard_target = Need (_ = true) _; refine Need.mk (by first | kernel_rfl | rfl) ?_) | (guard_target = LinkV _ _ _; first  | refine LinkV.no ?_) | (guard_target = GhO _ _ _ _; refine GhO.go ?_) | (guard_target = Need _ _; refine Need.mk (by first  | omega | (simp only [List.length_map]; omega)) ?_))
    all_goals first | rfl | trivial
  rw [enc_mk]
  exact h.soft (.v (.a (.same (.same (.ro .nil)))))
theorem l06Not_ok (c : XExpr) (hb : budExpr c ≤ 1048576) : CallX Try.prog 43 [.a 3 (encExpr c)] [] (.a 3 (encExpr (notE c))) := by
  have h : CallX Try.prog 43 [.a 3 (encExpr c)] [] (.a 3 [J 5, J 0, .ows 28 3 [encExpr c]]) := by
    cases c
    refine callX_of_vc htb hm Try.func43 rfl rfl rfl rfl (ann := fun _ => none) (gh := fun reg_ => match reg_ with | 1 => true | _ => false) ?_
    repeat' ((conv => whnf); first | (guard_target = Done _; refine Done.mk ?_) | (guard_target = RetX _ _; refine RetX.mk ?_ ?_) | (guard_target = Fact _ _; refine Fact.mk fun hL => ?_; (try simp only [List.length_map, maxLen] at hL)) | (guard_target = Branch _ _ _; (first | refine Branch.dec ?_ ?_ | refine Branch.beq ?_ ?_ | refine Branch.bne ?_ ?_ | refine Branch.ndec ?_ ?_ | refine Branch.nb ?_ ?_ | refine Branch.mk ?_ ?_) <;> intro h <;> (try simp only [List.length_map] at h) <;> (try omega) <;> (try contradiction)) | (guard_target = CallN _ 41 _ _ _ _; refine CallN.gen [] _ _ _ rfl (l01Own_ro _ hb) rfl rfl _ rfl ?_) | (guard_target = Gh _ _ _ _ _; refine Gh.frzp 0 _ rfl (Gh.go ?_)) | (guard_target = Arith _ _ _; refine Arith.fit (wrap_fit (by first | omega | (simp only [List.length_map]; omega)) (by first | omega | (simp only [List.length_map]; omega))) ?_) | (guard_target = Arith _ _ _; refine Arith.fit (by decide) ?_) | (guard_target = Index _ _ _; first  | refine Index.mk _ (idx_map (by omega)) ?_) | (guard_target = Need (_ = true) _; refine Need.mk (by first | kernel_rfl | rfl) ?_) | (guard_target = LinkV _ _ _; first  | refine LinkV.no ?_) | (guard_target = GhO _ _ _ _; refine GhO.go ?_) | (guard_target = Need _ _; refine Need.mk (by first  | omega | (simp only [List.length_map]; omega)) ?_))
    all_goals first | rfl | trivial
  rw [enc_mk]
  exact h.soft (.v (.a (.same (.same (.ro .nil)))))
end Go.Proofs.Ytlfigjkddnncgaa

namespace Go.Proofs.Ytlfigjkddnncgaa
open Go Go.KA Go.Proofs
set_option maxHeartbeats 16000000
set_option maxRecDepth 100000

theorem pick_cd (s : Src) (n : Int) : (pickS s n).code = s.code := by
  unfold pickS
  split
  · rfl
  · split <;> rfl
theorem one_ok (s : Src) (hs : Rd s 900000) (hc : s.code.length ≤ 1000000) (n : Int) (hn : I64 n) : CallX Try.prog 54 [.c (.op (srcC s)), I n] [some [.op (srcC (pickS s n))], none] (B (oneB s n)) := by
  have h1 := pick_ok s hs hc n hn
  refine callX_of_vc htb hm Try.func54 rfl rfl rfl rfl (ann := fun _ => none) (gh := fun _ => false) ?_
  repeat' ((conv => whnf); first | (guard_target = Done _; refine Done.mk ?_) | (guard_target = RetX _ _; refine RetX.mk ?_ ?_) | (guard_target = Fact _ _; refine Fact.mk fun hL => ?_; (try simp only [List.length_map, maxLen] at hL)) | (guard_target = Branch _ _ _; (first | refine Branch.dec ?_ ?_ | refine Branch.beq ?_ ?_ | refine Branch.bne ?_ ?_ | refine Branch.ndec ?_ ?_ | refine Branch.nb ?_ ?_ | refine Branch.mk ?_ ?_) <;> intro h <;> (try simp only [List.length_map] at h) <;> (try omega) <;> (try contradiction)) | (guard_target = CallN _ 37 _ _ _ _; refine CallN.gen [true, false] _ _ _ rfl h1 rfl rfl _ rfl ?_) | (guard_target = Arith _ _ _; refine Arith.fit (wrap_fit (by first | omega | (simp only [List.length_map]; omega)) (by first | omega | (simp only [List.length_map]; omega))) ?_) | (guard_target = Arith _ _ _; refine Arith.fit (by decide) ?_) | (guard_target = Index _ _ _; first  | refine Index.mk _ (idx_map (by omega)) ?_) | (guard_target = Need (_ = true) _; refine Need.mk (by first | kernel_rfl | rfl) ?_) | (guard_target = LinkV _ _ _; first  | refine LinkV.no ?_) | (guard_target = GhO _ _ _ _; refine GhO.go ?_) | (guard_target = Need _ _; refine Need.mk (by first  | omega | (simp only [List.length_map]; omega)) ?_))
  all_goals first | rfl | exact ⟨rfl, trivial⟩
theorem leaf_soft {P : Program} {f : Nat} {args : List SV} {outs : List (Option (List CV))} {k n : Int} (h : CallX P f args outs (.a 3 [J k, J n, .ows 28 3 []])) : CallX P f args outs (.a 3 (encExpr (.mk k n []))) :=
  h.soft (.v (.a (.same (.same (.ro .nil)))))
section
variable (g : XSig) (hg : 0 ≤ g.tests ∧ g.tests ≤ 3 ∧ 0 ≤ g.actions ∧ g.actions ≤ 4)
include hg
theorem genLeaf_ok (left : Int) (s : Src) (hs : Rd s 800000) (hc : s.code.length ≤ 1000000) (c : Bool) :
    CallX Try.prog 101 [.c (.op (genC ⟨s, left⟩ g)), B c] [some [.op (genC ⟨(leafD g c s).2, left⟩ g)], none] (.a 3 (encExpr (leafD g c s).1)) := by
  have ht : I64 g.tests := by unfold I64; omega
  have ha : I64 g.actions := by unfold I64; omega
  have i2 : I64 2 := by unfold I64; omega
  have i3 : I64 3 := by unfold I64; omega
  have i4 : I64 4 := by unfold I64; omega
  obtain ⟨gt, ga⟩ := g
  simp only [] at hg ht ha
  have p3 := one_ok s (hs.mono (by omega)) hc 3 i3
  have hs3 : Rd (pickS s 3) 800002 := hs.pick 3
  have hc3 : (pickS s 3).code.length ≤ 1000000 := by rw [pick_cd]; exact hc
  cases c with
  | true =>
    by_cases g2 : gt > 0
    · have p4 := one_ok s (hs.mono (by omega)) hc 4 i4
      have hs4 : Rd (pickS s 4) 800004 := (hs.pick 4).mono (by omega)
      have hc4 : (pickS s 4).code.length ≤ 1000000 := by rw [pick_cd]; exact hc
      cases h4 : oneB s 4 with
      | false =>
        rw [h4] at p4
        have q := pick_ok (pickS s 4) (hs4.mono (by omega)) hc4 gt ht
        have e : leafD ⟨gt, ga⟩ true s = (.mk 3 (pickV (pickS s 4) gt) [], pickS (pickS s 4) gt) := by simp [leafD, leaf1, g2, h4]
        rw [e]
        simp only [genC]
        refine leaf_soft ?_
        refine callX_of_vc htb hm Try.func101 rfl rfl rfl rfl (ann := fun _ => none) (gh := fun _ => false) ?_
        repeat' ((conv => whnf); first | (guard_target = Done _; refine Done.mk ?_) | (guard_target = RetX _ _; refine RetX.mk ?_ ?_) | (guard_target = Fact _ _; refine Fact.mk fun hL => ?_; (try simp only [List.length_map, maxLen] at hL)) | (guard_target = Branch _ _ _; (first | refine Branch.dec ?_ ?_ | refine Branch.beq ?_ ?_ | refine Branch.bne ?_ ?_ | refine Branch.ndec ?_ ?_ | refine Branch.nb ?_ ?_ | refine Branch.mk ?_ ?_) <;> intro h <;> (try simp only [] at h) <;> (try omega) <;> (try contradiction)) | (guard_target = CallN _ 54 _ _ _ _; refine CallN.gen [true, false] _ _ _ rfl p4 rfl rfl _ rfl ?_) | (guard_target = CallN _ 37 _ _ _ _; refine CallN.gen [true, false] _ _ _ rfl q rfl rfl _ rfl ?_) | (guard_target = Arith _ _ _; refine Arith.fit (wrap_fit (by omega) (by omega)) ?_) | (guard_target = Arith _ _ _; refine Arith.fit (wrap_fit (by first | omega | (simp only [List.length_map]; omega)) (by first | omega | (simp only [List.length_map]; omega))) ?_) | (guard_target = Arith _ _ _; refine Arith.fit (by decide) ?_) | (guard_target = Index _ _ _; first  | refine Index.mk _ (idx_map (by omega)) ?_) | (guard_target = Need (_ = true) _; refine Need.mk (by first | kernel_rfl | rfl) ?_) | (guard_target = LinkV _ _ _; first  | refine LinkV.no ?_) | (guard_target = GhO _ _ _ _; refine GhO.go ?_) | (guard_target = Need _ _; refine Need.mk (by first  | omega | (simp only [List.length_map]; omega)) ?_))
        all_goals first | rfl | exact ⟨rfl, trivial⟩ | (exfalso; simp at *; omega)
      | true =>
        rw [h4] at p4
        have q := pick_ok (pickS s 4) (hs4.mono (by omega)) hc4 2 i2
        have qb := pickV_in (pickS s 4) (n := 2) (by omega)
        have e : leafD ⟨gt, ga⟩ true s = (.mk (1 + pickV (pickS s 4) 2) 0 [], pickS (pickS s 4) 2) := by simp [leafD, leaf1, leaf0, g2, h4]
        rw [e]
        simp only [genC]
        refine leaf_soft ?_
        refine callX_of_vc htb hm Try.func101 rfl rfl rfl rfl (ann := fun _ => none) (gh := fun _ => false) ?_
        repeat' ((conv => whnf); first | (guard_target = Done _; refine Done.mk ?_) | (guard_target = RetX _ _; refine RetX.mk ?_ ?_) | (guard_target = Fact _ _; refine Fact.mk fun hL => ?_; (try simp only [List.length_map, maxLen] at hL)) | (guard_target = Branch _ _ _; (first | refine Branch.dec ?_ ?_ | refine Branch.beq ?_ ?_ | refine Branch.bne ?_ ?_ | refine Branch.ndec ?_ ?_ | refine Branch.nb ?_ ?_ | refine Branch.mk ?_ ?_) <;> intro h <;> (try simp only [] at h) <;> (try omega) <;> (try contradiction)) | (guard_target = CallN _ 54 _ _ _ _; refine CallN.gen [true, false] _ _ _ rfl p4 rfl rfl _ rfl ?_) | (guard_target = CallN _ 37 _ _ _ _; refine CallN.gen [true, false] _ _ _ rfl q rfl rfl _ rfl ?_) | (guard_target = Arith _ _ _; refine Arith.fit (wrap_fit (by omega) (by omega)) ?_) | (guard_target = Arith _ _ _; refine Arith.fit (wrap_fit (by first | omega | (simp only [List.length_map]; omega)) (by first | omega | (simp only [List.length_map]; omega))) ?_) | (guard_target = Arith _ _ _; refine Arith.fit (by decide) ?_) | (guard_target = Index _ _ _; first  | refine Index.mk _ (idx_map (by omega)) ?_) | (guard_target = Need (_ = true) _; refine Need.mk (by first | kernel_rfl | rfl) ?_) | (guard_target = LinkV _ _ _; first  | refine LinkV.no ?_) | (guard_target = GhO _ _ _ _; refine GhO.go ?_) | (guard_target = Need _ _; refine Need.mk (by first  | omega | (simp only [List.length_map]; omega)) ?_))
        all_goals first | rfl | exact ⟨rfl, trivial⟩ | (exfalso; simp at *; omega)
    · have q := pick_ok s (hs.mono (by omega)) hc 2 i2
      have qb := pickV_in s (n := 2) (by omega)
      have e : leafD ⟨gt, ga⟩ true s = (.mk (1 + pickV s 2) 0 [], pickS s 2) := by simp [leafD, leaf1, leaf0, g2]
      rw [e]
      simp only [genC]
      refine leaf_soft ?_
      refine callX_of_vc htb hm Try.func101 rfl rfl rfl rfl (ann := fun _ => none) (gh := fun _ => false) ?_
      repeat' ((conv => whnf); first | (guard_target = Done _; refine Done.mk ?_) | (guard_target = RetX _ _; refine RetX.mk ?_ ?_) | (guard_target = Fact _ _; refine Fact.mk fun hL => ?_; (try simp only [List.length_map, maxLen] at hL)) | (guard_target = Branch _ _ _; (first | refine Branch.dec ?_ ?_ | refine Branch.beq ?_ ?_ | refine Branch.bne ?_ ?_ | refine Branch.ndec ?_ ?_ | refine Branch.nb ?_ ?_ | refine Branch.mk ?_ ?_) <;> intro h <;> (try simp only [] at h) <;> (try omega) <;> (try contradiction)) | (guard_target = CallN _ 37 _ _ _ _; refine CallN.gen [true, false] _ _ _ rfl q rfl rfl _ rfl ?_) | (guard_target = Arith _ _ _; refine Arith.fit (wrap_fit (by omega) (by omega)) ?_) | (guard_target = Arith _ _ _; refine Arith.fit (wrap_fit (by first | omega | (simp only [List.length_map]; omega)) (by first | omega | (simp only [List.length_map]; omega))) ?_) | (guard_target = Arith _ _ _; refine Arith.fit (by decide) ?_) | (guard_target = Index _ _ _; first  | refine Index.mk _ (idx_map (by omega)) ?_) | (guard_target = Need (_ = true) _; refine Need.mk (by first | kernel_rfl | rfl) ?_) | (guard_target = LinkV _ _ _; first  | refine LinkV.no ?_) | (guard_target = GhO _ _ _ _; refine GhO.go ?_) | (guard_target = Need _ _; refine Need.mk (by first  | omega | (simp only [List.length_map]; omega)) ?_))
      all_goals first | rfl | exact ⟨rfl, trivial⟩ | (exfalso; simp at *; omega)
  | false =>
    by_cases g1 : ga > 0
    · cases h3 : oneB s 3 with
      | false =>
        rw [h3] at p3
        have q := pick_ok (pickS s 3) (hs3.mono (by omega)) hc3 ga ha
        have e : leafD ⟨gt, ga⟩ false s = (.mk 4 (pickV (pickS s 3) ga) [], pickS (pickS s 3) ga) := by simp [leafD, g1, h3]
        rw [e]
        simp only [genC]
        refine leaf_soft ?_
        refine callX_of_vc htb hm Try.func101 rfl rfl rfl rfl (ann := fun _ => none) (gh := fun _ => false) ?_
        repeat' ((conv => whnf); first | (guard_target = Done _; refine Done.mk ?_) | (guard_target = RetX _ _; refine RetX.mk ?_ ?_) | (guard_target = Fact _ _; refine Fact.mk fun hL => ?_; (try simp only [List.length_map, maxLen] at hL)) | (guard_target = Branch _ _ _; (first | refine Branch.dec ?_ ?_ | refine Branch.beq ?_ ?_ | refine Branch.bne ?_ ?_ | refine Branch.ndec ?_ ?_ | refine Branch.nb ?_ ?_ | refine Branch.mk ?_ ?_) <;> intro h <;> (try simp only [] at h) <;> (try omega) <;> (try contradiction)) | (guard_target = CallN _ 54 _ _ _ _; refine CallN.gen [true, false] _ _ _ rfl p3 rfl rfl _ rfl ?_) | (guard_target = CallN _ 37 _ _ _ _; refine CallN.gen [true, false] _ _ _ rfl q rfl rfl _ rfl ?_) | (guard_target = Arith _ _ _; refine Arith.fit (wrap_fit (by omega) (by omega)) ?_) | (guard_target = Arith _ _ _; refine Arith.fit (wrap_fit (by first | omega | (simp only [List.length_map]; omega)) (by first | omega | (simp only [List.length_map]; omega))) ?_) | (guard_target = Arith _ _ _; refine Arith.fit (by decide) ?_) | (guard_target = Index _ _ _; first  | refine Index.mk _ (idx_map (by omega)) ?_) | (guard_target = Need (_ = true) _; refine Need.mk (by first | kernel_rfl | rfl) ?_) | (guard_target = LinkV _ _ _; first  | refine LinkV.no ?_) | (guard_target = GhO _ _ _ _; refine GhO.go ?_) | (guard_target = Need _ _; refine Need.mk (by first  | omega | (simp only [List.length_map]; omega)) ?_))
        all_goals first | rfl | exact ⟨rfl, trivial⟩ | (exfalso; simp at *; omega)
      | true =>
        rw [h3] at p3
        by_cases g2 : gt > 0
        · have p4 := one_ok (pickS s 3) (hs3.mono (by omega)) hc3 4 i4
          have hs4 : Rd (pickS (pickS s 3) 4) 800004 := (hs3.pick 4).mono (by omega)
          have hc4 : (pickS (pickS s 3) 4).code.length ≤ 1000000 := by rw [pick_cd]; exact hc3
          cases h4 : oneB (pickS s 3) 4 with
          | false =>
            rw [h4] at p4
            have q := pick_ok (pickS (pickS s 3) 4) (hs4.mono (by omega)) hc4 gt ht
            have e : leafD ⟨gt, ga⟩ false s = (.mk 3 (pickV (pickS (pickS s 3) 4) gt) [], pickS (pickS (pickS s 3) 4) gt) := by simp [leafD, leaf1, g2, h4, g1, h3]
            rw [e]
            simp only [genC]
            refine leaf_soft ?_
            refine callX_of_vc htb hm Try.func101 rfl rfl rfl rfl (ann := fun _ => none) (gh := fun _ => false) ?_
            repeat' ((conv => whnf); first | (guard_target = Done _; refine Done.mk ?_) | (guard_target = RetX _ _; refine RetX.mk ?_ ?_) | (guard_target = Fact _ _; refine Fact.mk fun hL => ?_; (try simp only [List.length_map, maxLen] at hL)) | (guard_target = Branch _ _ _; (first | refine Branch.dec ?_ ?_ | refine Branch.beq ?_ ?_ | refine Branch.bne ?_ ?_ | refine Branch.ndec ?_ ?_ | refine Branch.nb ?_ ?_ | refine Branch.mk ?_ ?_) <;> intro h <;> (try simp only [] at h) <;> (try omega) <;> (try contradiction)) | (guard_target = CallN _ 54 _ _ _ _; (first | refine CallN.gen [true, false] _ _ _ rfl p3 rfl rfl _ rfl ?_ | refine CallN.gen [true, false] _ _ _ rfl p4 rfl rfl _ rfl ?_)) | (guard_target = CallN _ 37 _ _ _ _; refine CallN.gen [true, false] _ _ _ rfl q rfl rfl _ rfl ?_) | (guard_target = Arith _ _ _; refine Arith.fit (wrap_fit (by omega) (by omega)) ?_) | (guard_target = Arith _ _ _; refine Arith.fit (wrap_fit (by first | omega | (simp only [List.length_map]; omega)) (by first | omega | (simp only [List.length_map]; omega))) ?_) | (guard_target = Arith _ _ _; refine Arith.fit (by decide) ?_) | (guard_target = Index _ _ _; first  | refine Index.mk _ (idx_map (by omega)) ?_) | (guard_target = Need (_ = true) _; refine Need.mk (by first | kernel_rfl | rfl) ?_) | (guard_target = LinkV _ _ _; first  | refine LinkV.no ?_) | (guard_target = GhO _ _ _ _; refine GhO.go ?_) | (guard_target = Need _ _; refine Need.mk (by first  | omega | (simp only [List.length_map]; omega)) ?_))
            all_goals first | rfl | exact ⟨rfl, trivial⟩ | (exfalso; simp at *; omega)
          | true =>
            rw [h4] at p4
            have q := pick_ok (pickS (pickS s 3) 4) (hs4.mono (by omega)) hc4 2 i2
            have qb := pickV_in (pickS (pickS s 3) 4) (n := 2) (by omega)
            have e : leafD ⟨gt, ga⟩ false s = (.mk (1 + pickV (pickS (pickS s 3) 4) 2) 0 [], pickS (pickS (pickS s 3) 4) 2) := by simp [leafD, leaf1, leaf0, g2, h4, g1, h3]
            rw [e]
            simp only [genC]
            refine leaf_soft ?_
            refine callX_of_vc htb hm Try.func101 rfl rfl rfl rfl (ann := fun _ => none) (gh := fun _ => false) ?_
            repeat' ((conv => whnf); first | (guard_target = Done _; refine Done.mk ?_) | (guard_target = RetX _ _; refine RetX.mk ?_ ?_) | (guard_target = Fact _ _; refine Fact.mk fun hL => ?_; (try simp only [List.length_map, maxLen] at hL)) | (guard_target = Branch _ _ _; (first | refine Branch.dec ?_ ?_ | refine Branch.beq ?_ ?_ | refine Branch.bne ?_ ?_ | refine Branch.ndec ?_ ?_ | refine Branch.nb ?_ ?_ | refine Branch.mk ?_ ?_) <;> intro h <;> (try simp only [] at h) <;> (try omega) <;> (try contradiction)) | (guard_target = CallN _ 54 _ _ _ _; (first | refine CallN.gen [true, false] _ _ _ rfl p3 rfl rfl _ rfl ?_ | refine CallN.gen [true, false] _ _ _ rfl p4 rfl rfl _ rfl ?_)) | (guard_target = CallN _ 37 _ _ _ _; refine CallN.gen [true, false] _ _ _ rfl q rfl rfl _ rfl ?_) | (guard_target = Arith _ _ _; refine Arith.fit (wrap_fit (by omega) (by omega)) ?_) | (guard_target = Arith _ _ _; refine Arith.fit (wrap_fit (by first | omega | (simp only [List.length_map]; omega)) (by first | omega | (simp only [List.length_map]; omega))) ?_) | (guard_target = Arith _ _ _; refine Arith.fit (by decide) ?_) | (guard_target = Index _ _ _; first  | refine Index.mk _ (idx_map (by omega)) ?_) | (guard_target = Need (_ = true) _; refine Need.mk (by first | kernel_rfl | rfl) ?_) | (guard_target = LinkV _ _ _; first  | refine LinkV.no ?_) | (guard_target = GhO _ _ _ _; refine GhO.go ?_) | (guard_target = Need _ _; refine Need.mk (by first  | omega | (simp only [List.length_map]; omega)) ?_))
            all_goals first | rfl | exact ⟨rfl, trivial⟩ | (exfalso; simp at *; omega)
        · have q := pick_ok (pickS s 3) (hs3.mono (by omega)) hc3 2 i2
          have qb := pickV_in (pickS s 3) (n := 2) (by omega)
          have e : leafD ⟨gt, ga⟩ false s = (.mk (1 + pickV (pickS s 3) 2) 0 [], pickS (pickS s 3) 2) := by simp [leafD, leaf1, leaf0, g2, g1, h3]
          rw [e]
          simp only [genC]
          refine leaf_soft ?_
          refine callX_of_vc htb hm Try.func101 rfl rfl rfl rfl (ann := fun _ => none) (gh := fun _ => false) ?_
          repeat' ((conv => whnf); first | (guard_target = Done _; refine Done.mk ?_) | (guard_target = RetX _ _; refine RetX.mk ?_ ?_) | (guard_target = Fact _ _; refine Fact.mk fun hL => ?_; (try simp only [List.length_map, maxLen] at hL)) | (guard_target = Branch _ _ _; (first | refine Branch.dec ?_ ?_ | refine Branch.beq ?_ ?_ | refine Branch.bne ?_ ?_ | refine Branch.ndec ?_ ?_ | refine Branch.nb ?_ ?_ | refine Branch.mk ?_ ?_) <;> intro h <;> (try simp only [] at h) <;> (try omega) <;> (try contradiction)) | (guard_target = CallN _ 54 _ _ _ _; refine CallN.gen [true, false] _ _ _ rfl p3 rfl rfl _ rfl ?_) | (guard_target = CallN _ 37 _ _ _ _; refine CallN.gen [true, false] _ _ _ rfl q rfl rfl _ rfl ?_) | (guard_target = Arith _ _ _; refine Arith.fit (wrap_fit (by omega) (by omega)) ?_) | (guard_target = Arith _ _ _; refine Arith.fit (wrap_fit (by first | omega | (simp only [List.length_map]; omega)) (by first | omega | (simp only [List.length_map]; omega))) ?_) | (guard_target = Arith _ _ _; refine Arith.fit (by decide) ?_) | (guard_target = Index _ _ _; first  | refine Index.mk _ (idx_map (by omega)) ?_) | (guard_target = Need (_ = true) _; refine Need.mk (by first | kernel_rfl | rfl) ?_) | (guard_target = LinkV _ _ _; first  | refine LinkV.no ?_) | (guard_target = GhO _ _ _ _; refine GhO.go ?_) | (guard_target = Need _ _; refine Need.mk (by first  | omega | (simp only [List.length_map]; omega)) ?_))
          all_goals first | rfl | exact ⟨rfl, trivial⟩ | (exfalso; simp at *; omega)
    · clear p3 hs3 hc3
      by_cases g2 : gt > 0
      · have p4 := one_ok s (hs.mono (by omega)) hc 4 i4
        have hs4 : Rd (pickS s 4) 800004 := (hs.pick 4).mono (by omega)
        have hc4 : (pickS s 4).code.length ≤ 1000000 := by rw [pick_cd]; exact hc
        cases h4 : oneB s 4 with
        | false =>
          rw [h4] at p4
          have q := pick_ok (pickS s 4) (hs4.mono (by omega)) hc4 gt ht
          have e : leafD ⟨gt, ga⟩ false s = (.mk 3 (pickV (pickS s 4) gt) [], pickS (pickS s 4) gt) := by simp [leafD, leaf1, g2, h4, g1]
          rw [e]
          simp only [genC]
          refine leaf_soft ?_
          refine callX_of_vc htb hm Try.func101 rfl rfl rfl rfl (ann := fun _ => none) (gh := fun _ => false) ?_
          repeat' ((conv => whnf); first | (guard_target = Done _; refine Done.mk ?_) | (guard_target = RetX _ _; refine RetX.mk ?_ ?_) | (guard_target = Fact _ _; refine Fact.mk fun hL => ?_; (try simp only [List.length_map, maxLen] at hL)) | (guard_target = Branch _ _ _; (first | refine Branch.dec ?_ ?_ | refine Branch.beq ?_ ?_ | refine Branch.bne ?_ ?_ | refine Branch.ndec ?_ ?_ | refine Branch.nb ?_ ?_ | refine Branch.mk ?_ ?_) <;> intro h <;> (try simp only [] at h) <;> (try omega) <;> (try contradiction)) | (guard_target = CallN _ 54 _ _ _ _; refine CallN.gen [true, false] _ _ _ rfl p4 rfl rfl _ rfl ?_) | (guard_target = CallN _ 37 _ _ _ _; refine CallN.gen [true, false] _ _ _ rfl q rfl rfl _ rfl ?_) | (guard_target = Arith _ _ _; refine Arith.fit (wrap_fit (by omega) (by omega)) ?_) | (guard_target = Arith _ _ _; refine Arith.fit (wrap_fit (by first | omega | (simp only [List.length_map]; omega)) (by first | omega | (simp only [List.length_map]; omega))) ?_) | (guard_target = Arith _ _ _; refine Arith.fit (by decide) ?_) | (guard_target = Index _ _ _; first  | refine Index.mk _ (idx_map (by omega)) ?_) | (guard_target = Need (_ = true) _; refine Need.mk (by first | kernel_rfl | rfl) ?_) | (guard_target = LinkV _ _ _; first  | refine LinkV.no ?_) | (guard_target = GhO _ _ _ _; refine GhO.go ?_) | (guard_target = Need _ _; refine Need.mk (by first  | omega | (simp only [List.length_map]; omega)) ?_))
          all_goals first | rfl | exact ⟨rfl, trivial⟩ | (exfalso; simp at *; omega)
        | true =>
          rw [h4] at p4
          have q := pick_ok (pickS s 4) (hs4.mono (by omega)) hc4 2 i2
          have qb := pickV_in (pickS s 4) (n := 2) (by omega)
          have e : leafD ⟨gt, ga⟩ false s = (.mk (1 + pickV (pickS s 4) 2) 0 [], pickS (pickS s 4) 2) := by simp [leafD, leaf1, leaf0, g2, h4, g1]
          rw [e]
          simp only [genC]
          refine leaf_soft ?_
          refine callX_of_vc htb hm Try.func101 rfl rfl rfl rfl (ann := fun _ => none) (gh := fun _ => false) ?_
          repeat' ((conv => whnf); first | (guard_target = Done _; refine Done.mk ?_) | (guard_target = RetX _ _; refine RetX.mk ?_ ?_) | (guard_target = Fact _ _; refine Fact.mk fun hL => ?_; (try simp only [List.length_map, maxLen] at hL)) | (guard_target = Branch _ _ _; (first | refine Branch.dec ?_ ?_ | refine Branch.beq ?_ ?_ | refine Branch.bne ?_ ?_ | refine Branch.ndec ?_ ?_ | refine Branch.nb ?_ ?_ | refine Branch.mk ?_ ?_) <;> intro h <;> (try simp only [] at h) <;> (try omega) <;> (try contradiction)) | (guard_target = CallN _ 54 _ _ _ _; refine CallN.gen [true, false] _ _ _ rfl p4 rfl rfl _ rfl ?_) | (guard_target = CallN _ 37 _ _ _ _; refine CallN.gen [true, false] _ _ _ rfl q rfl rfl _ rfl ?_) | (guard_target = Arith _ _ _; refine Arith.fit (wrap_fit (by omega) (by omega)) ?_) | (guard_target = Arith _ _ _; refine Arith.fit (wrap_fit (by first | omega | (simp only [List.length_map]; omega)) (by first | omega | (simp only [List.length_map]; omega))) ?_) | (guard_target = Arith _ _ _; refine Arith.fit (by decide) ?_) | (guard_target = Index _ _ _; first  | refine Index.mk _ (idx_map (by omega)) ?_) | (guard_target = Need (_ = true) _; refine Need.mk (by first | kernel_rfl | rfl) ?_) | (guard_target = LinkV _ _ _; first  | refine LinkV.no ?_) | (guard_target = GhO _ _ _ _; refine GhO.go ?_) | (guard_target = Need _ _; refine Need.mk (by first  | omega | (simp only [List.length_map]; omega)) ?_))
          all_goals first | rfl | exact ⟨rfl, trivial⟩ | (exfalso; simp at *; omega)
      · have q := pick_ok s (hs.mono (by omega)) hc 2 i2
        have qb := pickV_in s (n := 2) (by omega)
        have e : leafD ⟨gt, ga⟩ false s = (.mk (1 + pickV s 2) 0 [], pickS s 2) := by simp [leafD, leaf1, leaf0, g2, g1]
        rw [e]
        simp only [genC]
        refine leaf_soft ?_
        refine callX_of_vc htb hm Try.func101 rfl rfl rfl rfl (ann := fun _ => none) (gh := fun _ => false) ?_
        repeat' ((conv => whnf); first | (guard_target = Done _; refine Done.mk ?_) | (guard_target = RetX _ _; refine RetX.mk ?_ ?_) | (guard_target = Fact _ _; refine Fact.mk fun hL => ?_; (try simp only [List.length_map, maxLen] at hL)) | (guard_target = Branch _ _ _; (first | refine Branch.dec ?_ ?_ | refine Branch.beq ?_ ?_ | refine Branch.bne ?_ ?_ | refine Branch.ndec ?_ ?_ | refine Branch.nb ?_ ?_ | refine Branch.mk ?_ ?_) <;> intro h <;> (try simp only [] at h) <;> (try omega) <;> (try contradiction)) | (guard_target = CallN _ 37 _ _ _ _; refine CallN.gen [true, false] _ _ _ rfl q rfl rfl _ rfl ?_) | (guard_target = Arith _ _ _; refine Arith.fit (wrap_fit (by omega) (by omega)) ?_) | (guard_target = Arith _ _ _; refine Arith.fit (wrap_fit (by first | omega | (simp only [List.length_map]; omega)) (by first | omega | (simp only [List.length_map]; omega))) ?_) | (guard_target = Arith _ _ _; refine Arith.fit (by decide) ?_) | (guard_target = Index _ _ _; first  | refine Index.mk _ (idx_map (by omega)) ?_) | (guard_target = Need (_ = true) _; refine Need.mk (by first | kernel_rfl | rfl) ?_) | (guard_target = LinkV _ _ _; first  | refine LinkV.no ?_) | (guard_target = GhO _ _ _ _; refine GhO.go ?_) | (guard_target = Need _ _; refine Need.mk (by first  | omega | (simp only [List.length_map]; omega)) ?_))
        all_goals first | rfl | exact ⟨rfl, trivial⟩ | (exfalso; simp at *; omega)
end
end Go.Proofs.Ytlfigjkddnncgaa

namespace Go.Proofs.Ytlfigjkddnncgaa
open Go Go.KA Go.Proofs
set_option maxHeartbeats 16000000
set_option maxRecDepth 100000
theorem l02Pair_okX (k : Int) (a b : XExpr) : CallX Try.prog 42 [I k, .a 3 (encExpr a), .a 3 (encExpr b)] [] (.a 3 (encExpr (pairX k a b))) := by
  obtain ⟨a1, a2, a3⟩ := a
  obtain ⟨b1, b2, b3⟩ := b
  have h : CallX Try.prog 42 [I k, .a 3 (encExpr (.mk a1 a2 a3)), .a 3 (encExpr (.mk b1 b2 b3))] [] (.a 3 [J k, J 0, .ows 28 3 [encExpr (.mk a1 a2 a3), encExpr (.mk b1 b2 b3)]]) := by
    refine callX_of_vc htb hm Try.func42 rfl rfl rfl rfl (ann := fun _ => none) (gh := fun _ => false) ?_
    repeat' ((conv => whnf); first | (guard_target = Done _; refine Done.mk ?_) | (guard_target = RetX _ _; refine RetX.mk ?_ ?_) | (guard_target = Fact _ _; refine Fact.mk fun hL => ?_; (try simp only [List.length_map, maxLen] at hL)) | (guard_target = Branch _ _ _; (first | refine Branch.dec ?_ ?_ | refine Branch.beq ?_ ?_ | refine Branch.bne ?_ ?_ | refine Branch.ndec ?_ ?_ | refine Branch.nb ?_ ?_ | refine Branch.mk ?_ ?_) <;> intro h <;> (try simp only [List.length_map] at h) <;> (try omega) <;> (try contradiction)) | (guard_target = Arith _ _ _; refine Arith.fit (wrap_fit (by first | omega | (simp only [List.length_map]; omega)) (by first | omega | (simp only [List.length_map]; omega))) ?_) | (guard_target = Arith _ _ _; refine Arith.fit (by decide) ?_) | (guard_target = Index _ _ _; first  | refine Index.mk _ (idx_map (by omega)) ?_) | (guard_target = Need (_ = true) _; refine Need.mk (by first | kernel_rfl | rfl) ?_) | (guard_target = LinkV _ _ _; first  | refine LinkV.no ?_) | (guard_target = GhO _ _ _ _; refine GhO.go ?_) | (guard_target = Need _ _; refine Need.mk (by first  | omega | (simp only [List.length_map]; omega)) ?_))
    all_goals first | rfl | trivial
  exact h.soft (.v (.a (.same (.same (.ro .nil)))))
theorem node_soft {P : Program} {f : Nat} {args : List SV} {outs : List (Option (List CV))} {k n : Int} {x : XExpr} (h : CallX P f args outs (.a 3 [J k, J n, .ows 28 3 [encExpr x]])) : CallX P f args outs (.a 3 (encExpr (.mk k n [x]))) :=
  h.soft (.v (.a (.same (.same (.ro .nil)))))
theorem leafD_cd (g : XSig) (c : Bool) (s : Src) : (leafD g c s).2.code = s.code := by
  unfold leafD leaf1 leaf0
  split
  · split
    · split
      · split <;> simp [pick_cd]
      · simp [pick_cd]
    · simp [pick_cd]
  · split
    · split <;> simp [pick_cd]
    · simp [pick_cd]
theorem half_cd (c : Bool) (s : Src) (n : Int) : (halfS c s n).code = s.code := by
  unfold halfS
  split
  · rfl
  · exact pick_cd s n
theorem exprE_cd (g : XSig) : ∀ (d : Nat) (c : Bool) (r : Gen), (exprE g d c r).2.s.code = r.s.code
  | 0, c, r => leafD_cd g c r.s
  | d + 1, c, r => by
    unfold exprE
    split
    · exact leafD_cd g c r.s
    · split
      · exact (leafD_cd g c _).trans (pick_cd _ _)
      · simp only
        split
        · rw [exprE_cd]; simp [pick_cd]
        · split
          · rw [exprE_cd]; simp [pick_cd]
          · rw [exprE_cd, half_cd, exprE_cd, half_cd, pick_cd, pick_cd]
theorem exprE_left (g : XSig) : ∀ (d : Nat) (c : Bool) (r : Gen), (exprE g d c r).2.left ≤ r.left ∧ r.left + 1 ≤ (exprE g d c r).2.left + (2 ^ (d + 1) : Nat)
  | 0, c, r => by show r.left - 1 ≤ r.left ∧ r.left + 1 ≤ r.left - 1 + (2 : Nat); omega
  | d + 1, c, r => by
    have hp := two_pow_succ (d + 1)
    have h0 : 2 ≤ 2 ^ (d + 1) := by have := two_pow_succ d; have : 0 < 2 ^ d := Nat.pow_pos (by omega); omega
    unfold exprE
    split
    · show r.left - 1 ≤ r.left ∧ r.left + 1 ≤ r.left - 1 + (2 ^ (d + 1 + 1) : Nat); omega
    · split
      · show r.left - 1 ≤ r.left ∧ r.left + 1 ≤ r.left - 1 + (2 ^ (d + 1 + 1) : Nat); omega
      · simp only
        split
        · have := exprE_left g d true ⟨pickS (pickS r.s 6) 10, r.left - 1⟩
          simp only [] at this ⊢
          omega
        · split
          · have := exprE_left g d false ⟨pickS (pickS r.s 6) 10, r.left - 1⟩
            simp only [] at this ⊢
            omega
          · have h1 := exprE_left g d (halfB c (pickS (pickS r.s 6) 10) 5) ⟨halfS c (pickS (pickS r.s 6) 10) 5, r.left - 1⟩
            simp only [] at h1
            generalize exprE g d (halfB c (pickS (pickS r.s 6) 10) 5) ⟨halfS c (pickS (pickS r.s 6) 10) 5, r.left - 1⟩ = X at h1
            have h2 := exprE_left g d (halfB c X.2.s 6) ⟨halfS c X.2.s 6, X.2.left⟩
            simp only [] at h2 ⊢
            omega
section
variable (g : XSig) (hg : 0 ≤ g.tests ∧ g.tests ≤ 3 ∧ 0 ≤ g.actions ∧ g.actions ≤ 4)
include hg
def Room (d : Nat) (r : Gen) (n : Int) : Prop := Rd r.s n ∧ n + costE d ≤ 700000 ∧ r.s.code.length ≤ 1000000 ∧ -100000 ≤ r.left - (2 ^ (d + 1) : Nat) ∧ r.left ≤ 100000
theorem expr_ok : ∀ (d : Nat) (dp : Int) (c : Bool) (r : Gen) (n : Int), dp = d → Room d r n → d ≤ 1000 →
    CallX Try.prog 99 [.c (.op (genC r g)), B c, I dp] [some [.op (genC (exprE g d c r).2 g)], none, none] (.a 3 (encExpr (exprE g d c r).1))
  | 0, dp, c, ⟨s, left⟩, n, hdp, ⟨hs, hn, hc, hl, hu⟩, hd => by
    have h0 := costE_lo 0
    simp only [] at hs hc hl hu
    have lf := genLeaf_ok g hg (left - 1) s (hs.mono (by omega)) hc c
    have e1 : exprE g 0 c ⟨s, left⟩ = ((leafD g c s).1, ⟨(leafD g c s).2, left - 1⟩) := rfl
    rw [e1]
    generalize leafD g c s = X at lf ⊢
    obtain ⟨⟨k1, n1, ks1⟩, s1⟩ := X
    simp only [genC] at lf ⊢
    refine callX_of_vc htb hm Try.func99 rfl rfl rfl rfl (ann := fun _ => none) (gh := fun _ => false) ?_
    repeat' ((conv => whnf); first | (guard_target = Done _; refine Done.mk ?_) | (guard_target = RetX _ _; refine RetX.mk ?_ ?_) | (guard_target = Fact _ _; refine Fact.mk fun hL => ?_; (try simp only [List.length_map, maxLen] at hL)) | (guard_target = Branch _ _ _; (first | refine Branch.dec ?_ ?_ | refine Branch.beq ?_ ?_ | refine Branch.bne ?_ ?_ | refine Branch.ndec ?_ ?_ | refine Branch.nb ?_ ?_ | refine Branch.mk ?_ ?_) <;> intro h <;> (try simp only [List.length_map] at h) <;> (try omega) <;> (try contradiction)) | (guard_target = CallN _ 101 _ _ _ _; refine CallN.gen [true, false] _ _ _ rfl lf rfl rfl _ rfl ?_) | (guard_target = Arith _ _ _; refine Arith.fit (wrap_fit (by omega) (by omega)) ?_) | (guard_target = Arith _ _ _; refine Arith.fit (wrap_fit (by first | omega | (simp only [List.length_map]; omega)) (by first | omega | (simp only [List.length_map]; omega))) ?_) | (guard_target = Arith _ _ _; refine Arith.fit (by decide) ?_) | (guard_target = Index _ _ _; first  | refine Index.mk _ (idx_map (by omega)) ?_) | (guard_target = Need (_ = true) _; refine Need.mk (by first | kernel_rfl | rfl) ?_) | (guard_target = LinkV _ _ _; first  | refine LinkV.no ?_) | (guard_target = GhO _ _ _ _; refine GhO.go ?_) | (guard_target = Need _ _; refine Need.mk (by first  | omega | (simp only [List.length_map]; omega)) ?_))
    all_goals first | rfl | exact ⟨rfl, trivial⟩ | (exfalso; simp at *; omega)
  | d + 1, dp, c, ⟨s, left⟩, n, hdp, ⟨hs, hn, hc, hl, hu⟩, hd => by
    have h0 := costE_lo d
    have h1 := costE_succ d
    have hp := two_pow_succ (d + 1)
    have hq : 2 ≤ 2 ^ (d + 1) := by have := two_pow_succ d; have : 0 < 2 ^ d := Nat.pow_pos (by omega); omega
    simp only [] at hs hc hl hu
    have i6 : I64 6 := by unfold I64; omega
    have i5 : I64 5 := by unfold I64; omega
    have i10 : I64 10 := by unfold I64; omega
    by_cases g1 : left - 1 < 1
    · have lf := genLeaf_ok g hg (left - 1) s (hs.mono (by omega)) hc c
      have e1 : exprE g (d + 1) c ⟨s, left⟩ = ((leafD g c s).1, ⟨(leafD g c s).2, left - 1⟩) := by rw [exprE, if_pos g1]; rfl
      rw [e1]
      generalize leafD g c s = X at lf ⊢
      obtain ⟨⟨k1, n1, ks1⟩, s1⟩ := X
      simp only [genC] at lf ⊢
      refine callX_of_vc htb hm Try.func99 rfl rfl rfl rfl (ann := fun _ => none) (gh := fun _ => false) ?_
      repeat' ((conv => whnf); first | (guard_target = Done _; refine Done.mk ?_) | (guard_target = RetX _ _; refine RetX.mk ?_ ?_) | (guard_target = Fact _ _; refine Fact.mk fun hL => ?_; (try simp only [List.length_map, maxLen] at hL)) | (guard_target = Branch _ _ _; (first | refine Branch.dec ?_ ?_ | refine Branch.beq ?_ ?_ | refine Branch.bne ?_ ?_ | refine Branch.ndec ?_ ?_ | refine Branch.nb ?_ ?_ | refine Branch.mk ?_ ?_) <;> intro h <;> (try simp only [List.length_map] at h) <;> (try omega) <;> (try contradiction)) | (guard_target = CallN _ 101 _ _ _ _; refine CallN.gen [true, false] _ _ _ rfl lf rfl rfl _ rfl ?_) | (guard_target = Arith _ _ _; refine Arith.fit (wrap_fit (by omega) (by omega)) ?_) | (guard_target = Arith _ _ _; refine Arith.fit (wrap_fit (by first | omega | (simp only [List.length_map]; omega)) (by first | omega | (simp only [List.length_map]; omega))) ?_) | (guard_target = Arith _ _ _; refine Arith.fit (by decide) ?_) | (guard_target = Index _ _ _; first  | refine Index.mk _ (idx_map (by omega)) ?_) | (guard_target = Need (_ = true) _; refine Need.mk (by first | kernel_rfl | rfl) ?_) | (guard_target = LinkV _ _ _; first  | refine LinkV.no ?_) | (guard_target = GhO _ _ _ _; refine GhO.go ?_) | (guard_target = Need _ _; refine Need.mk (by first  | omega | (simp only [List.length_map]; omega)) ?_))
      all_goals first | rfl | exact ⟨rfl, trivial⟩ | (exfalso; simp at *; omega)
    have p6 := one_ok s (hs.mono (by omega)) hc 6 i6
    have hs6 : Rd (pickS s 6) (n + 2) := hs.pick 6
    have hc6 : (pickS s 6).code.length ≤ 1000000 := by rw [pick_cd]; exact hc
    cases h6 : oneB s 6 with
    | true =>
      rw [h6] at p6
      have lf := genLeaf_ok g hg (left - 1) (pickS s 6) (hs6.mono (by omega)) hc6 c
      have e1 : exprE g (d + 1) c ⟨s, left⟩ = ((leafD g c (pickS s 6)).1, ⟨(leafD g c (pickS s 6)).2, left - 1⟩) := by rw [exprE, if_neg g1, if_pos h6]; rfl
      rw [e1]
      generalize leafD g c (pickS s 6) = X at lf ⊢
      obtain ⟨⟨k1, n1, ks1⟩, s1⟩ := X
      simp only [genC] at lf ⊢
      refine callX_of_vc htb hm Try.func99 rfl rfl rfl rfl (ann := fun _ => none) (gh := fun _ => false) ?_
      repeat' ((conv => whnf); first | (guard_target = Done _; refine Done.mk ?_) | (guard_target = RetX _ _; refine RetX.mk ?_ ?_) | (guard_target = Fact _ _; refine Fact.mk fun hL => ?_; (try simp only [List.length_map, maxLen] at hL)) | (guard_target = Branch _ _ _; (first | refine Branch.dec ?_ ?_ | refine Branch.beq ?_ ?_ | refine Branch.bne ?_ ?_ | refine Branch.ndec ?_ ?_ | refine Branch.nb ?_ ?_ | refine Branch.mk ?_ ?_) <;> intro h <;> (try simp only [] at h) <;> (try omega) <;> (try contradiction)) | (guard_target = CallN _ 54 _ _ _ _; refine CallN.gen [true, false] _ _ _ rfl p6 rfl rfl _ rfl ?_) | (guard_target = CallN _ 101 _ _ _ _; refine CallN.gen [true, false] _ _ _ rfl lf rfl rfl _ rfl ?_) | (guard_target = Arith _ _ _; refine Arith.fit (wrap_fit (by omega) (by omega)) ?_) | (guard_target = Arith _ _ _; refine Arith.fit (wrap_fit (by first | omega | (simp only [List.length_map]; omega)) (by first | omega | (simp only [List.length_map]; omega))) ?_) | (guard_target = Arith _ _ _; refine Arith.fit (by decide) ?_) | (guard_target = Index _ _ _; first  | refine Index.mk _ (idx_map (by omega)) ?_) | (guard_target = Need (_ = true) _; refine Need.mk (by first | kernel_rfl | rfl) ?_) | (guard_target = LinkV _ _ _; first  | refine LinkV.no ?_) | (guard_target = GhO _ _ _ _; refine GhO.go ?_) | (guard_target = Need _ _; refine Need.mk (by first  | omega | (simp only [List.length_map]; omega)) ?_))
      all_goals first | rfl | exact ⟨rfl, trivial⟩ | (exfalso; simp at *; omega)
    | false =>
      rw [h6] at p6
      have pk := pick_ok (pickS s 6) (hs6.mono (by omega)) hc6 10 i10
      have bk := pickV_in (pickS s 6) (n := 10) (by omega)
      have hsA : Rd (pickS (pickS s 6) 10) (n + 4) := (hs6.pick 10).mono (by omega)
      have hcA : (pickS (pickS s 6) 10).code.length ≤ 1000000 := by rw [pick_cd]; exact hc6
      rw [exprE, if_neg g1, if_neg (by show ¬ oneB s 6 = true; rw [h6]; simp)]
      simp only []
      generalize pickV (pickS s 6) 10 = k at pk bk ⊢
      generalize pickS (pickS s 6) 10 = sA at pk hsA hcA ⊢
      by_cases g2 : k = 0 ∨ (c = true ∧ k < 4)
      · rw [if_pos g2]
        have ih := expr_ok d (dp - 1) true ⟨sA, left - 1⟩ (n + 4) (by omega) ⟨hsA, by omega, hcA, by simp only []; omega, by simp only []; omega⟩ (by omega)
        generalize exprE g d true ⟨sA, left - 1⟩ = X at ih ⊢
        obtain ⟨⟨k1, n1, ks1⟩, ⟨s1, l1⟩⟩ := X
        simp only [genC] at ih ⊢
        refine node_soft ?_
        cases c
        · skip
          refine callX_of_vc htb hm Try.func99 rfl rfl rfl rfl (ann := fun _ => none) (gh := fun _ => false) ?_
          repeat' ((conv => whnf); first | (guard_target = Done _; refine Done.mk ?_) | (guard_target = RetX _ _; refine RetX.mk ?_ ?_) | (guard_target = Fact _ _; refine Fact.mk fun hL => ?_; (try simp only [List.length_map, maxLen] at hL)) | (guard_target = Branch _ _ _; (first | refine Branch.dec ?_ ?_ | refine Branch.beq ?_ ?_ | refine Branch.bne ?_ ?_ | refine Branch.ndec ?_ ?_ | refine Branch.nb ?_ ?_ | refine Branch.mk ?_ ?_) <;> intro h <;> (try simp only [] at h) <;> (try omega) <;> (try contradiction)) | (guard_target = CallN _ 54 _ _ _ _; refine CallN.gen [true, false] _ _ _ rfl p6 rfl rfl _ rfl ?_) | (guard_target = CallN _ 37 _ _ _ _; refine CallN.gen [true, false] _ _ _ rfl pk rfl rfl _ rfl ?_) | (guard_target = CallN _ 99 _ _ _ _; refine CallN.gen [true, false, false] _ _ _ rfl ih rfl rfl _ rfl ?_) | (guard_target = Arith _ _ _; refine Arith.fit (wrap_fit (by omega) (by omega)) ?_) | (guard_target = Arith _ _ _; refine Arith.fit (wrap_fit (by first | omega | (simp only [List.length_map]; omega)) (by first | omega | (simp only [List.length_map]; omega))) ?_) | (guard_target = Arith _ _ _; refine Arith.fit (by decide) ?_) | (guard_target = Index _ _ _; first  | refine Index.mk _ (idx_map (by omega)) ?_) | (guard_target = Need (_ = true) _; refine Need.mk (by first | kernel_rfl | rfl) ?_) | (guard_target = LinkV _ _ _; first  | refine LinkV.no ?_) | (guard_target = GhO _ _ _ _; refine GhO.go ?_) | (guard_target = Need _ _; refine Need.mk (by first  | omega | (simp only [List.length_map]; omega)) ?_))
          all_goals first | rfl | exact ⟨rfl, trivial⟩ | (exfalso; simp at *; omega)
        · skip
          refine callX_of_vc htb hm Try.func99 rfl rfl rfl rfl (ann := fun _ => none) (gh := fun _ => false) ?_
          repeat' ((conv => whnf); first | (guard_target = Done _; refine Done.mk ?_) | (guard_target = RetX _ _; refine RetX.mk ?_ ?_) | (guard_target = Fact _ _; refine Fact.mk fun hL => ?_; (try simp only [List.length_map, maxLen] at hL)) | (guard_target = Branch _ _ _; (first | refine Branch.dec ?_ ?_ | refine Branch.beq ?_ ?_ | refine Branch.bne ?_ ?_ | refine Branch.ndec ?_ ?_ | refine Branch.nb ?_ ?_ | refine Branch.mk ?_ ?_) <;> intro h <;> (try simp only [] at h) <;> (try omega) <;> (try contradiction)) | (guard_target = CallN _ 54 _ _ _ _; refine CallN.gen [true, false] _ _ _ rfl p6 rfl rfl _ rfl ?_) | (guard_target = CallN _ 37 _ _ _ _; refine CallN.gen [true, false] _ _ _ rfl pk rfl rfl _ rfl ?_) | (guard_target = CallN _ 99 _ _ _ _; refine CallN.gen [true, false, false] _ _ _ rfl ih rfl rfl _ rfl ?_) | (guard_target = Arith _ _ _; refine Arith.fit (wrap_fit (by omega) (by omega)) ?_) | (guard_target = Arith _ _ _; refine Arith.fit (wrap_fit (by first | omega | (simp only [List.length_map]; omega)) (by first | omega | (simp only [List.length_map]; omega))) ?_) | (guard_target = Arith _ _ _; refine Arith.fit (by decide) ?_) | (guard_target = Index _ _ _; first  | refine Index.mk _ (idx_map (by omega)) ?_) | (guard_target = Need (_ = true) _; refine Need.mk (by first | kernel_rfl | rfl) ?_) | (guard_target = LinkV _ _ _; first  | refine LinkV.no ?_) | (guard_target = GhO _ _ _ _; refine GhO.go ?_) | (guard_target = Need _ _; refine Need.mk (by first  | omega | (simp only [List.length_map]; omega)) ?_))
          all_goals first | rfl | exact ⟨rfl, trivial⟩ | (exfalso; simp at *; omega)
      rw [if_neg g2]
      by_cases g3 : k < 4
      · rw [if_pos g3]
        have ih := expr_ok d (dp - 1) false ⟨sA, left - 1⟩ (n + 4) (by omega) ⟨hsA, by omega, hcA, by simp only []; omega, by simp only []; omega⟩ (by omega)
        generalize exprE g d false ⟨sA, left - 1⟩ = X at ih ⊢
        obtain ⟨⟨k1, n1, ks1⟩, ⟨s1, l1⟩⟩ := X
        simp only [genC] at ih ⊢
        refine node_soft ?_
        cases c
        · skip
          refine callX_of_vc htb hm Try.func99 rfl rfl rfl rfl (ann := fun _ => none) (gh := fun _ => false) ?_
          repeat' ((conv => whnf); first | (guard_target = Done _; refine Done.mk ?_) | (guard_target = RetX _ _; refine RetX.mk ?_ ?_) | (guard_target = Fact _ _; refine Fact.mk fun hL => ?_; (try simp only [List.length_map, maxLen] at hL)) | (guard_target = Branch _ _ _; (first | refine Branch.dec ?_ ?_ | refine Branch.beq ?_ ?_ | refine Branch.bne ?_ ?_ | refine Branch.ndec ?_ ?_ | refine Branch.nb ?_ ?_ | refine Branch.mk ?_ ?_) <;> intro h <;> (try simp only [] at h) <;> (try omega) <;> (try contradiction)) | (guard_target = CallN _ 54 _ _ _ _; refine CallN.gen [true, false] _ _ _ rfl p6 rfl rfl _ rfl ?_) | (guard_target = CallN _ 37 _ _ _ _; refine CallN.gen [true, false] _ _ _ rfl pk rfl rfl _ rfl ?_) | (guard_target = CallN _ 99 _ _ _ _; refine CallN.gen [true, false, false] _ _ _ rfl ih rfl rfl _ rfl ?_) | (guard_target = Arith _ _ _; refine Arith.fit (wrap_fit (by omega) (by omega)) ?_) | (guard_target = Arith _ _ _; refine Arith.fit (wrap_fit (by first | omega | (simp only [List.length_map]; omega)) (by first | omega | (simp only [List.length_map]; omega))) ?_) | (guard_target = Arith _ _ _; refine Arith.fit (by decide) ?_) | (guard_target = Index _ _ _; first  | refine Index.mk _ (idx_map (by omega)) ?_) | (guard_target = Need (_ = true) _; refine Need.mk (by first | kernel_rfl | rfl) ?_) | (guard_target = LinkV _ _ _; first  | refine LinkV.no ?_) | (guard_target = GhO _ _ _ _; refine GhO.go ?_) | (guard_target = Need _ _; refine Need.mk (by first  | omega | (simp only [List.length_map]; omega)) ?_))
          all_goals first | rfl | exact ⟨rfl, trivial⟩ | (exfalso; simp at *; omega)
        · skip
          refine callX_of_vc htb hm Try.func99 rfl rfl rfl rfl (ann := fun _ => none) (gh := fun _ => false) ?_
          repeat' ((conv => whnf); first | (guard_target = Done _; refine Done.mk ?_) | (guard_target = RetX _ _; refine RetX.mk ?_ ?_) | (guard_target = Fact _ _; refine Fact.mk fun hL => ?_; (try simp only [List.length_map, maxLen] at hL)) | (guard_target = Branch _ _ _; (first | refine Branch.dec ?_ ?_ | refine Branch.beq ?_ ?_ | refine Branch.bne ?_ ?_ | refine Branch.ndec ?_ ?_ | refine Branch.nb ?_ ?_ | refine Branch.mk ?_ ?_) <;> intro h <;> (try simp only [] at h) <;> (try omega) <;> (try contradiction)) | (guard_target = CallN _ 54 _ _ _ _; refine CallN.gen [true, false] _ _ _ rfl p6 rfl rfl _ rfl ?_) | (guard_target = CallN _ 37 _ _ _ _; refine CallN.gen [true, false] _ _ _ rfl pk rfl rfl _ rfl ?_) | (guard_target = CallN _ 99 _ _ _ _; refine CallN.gen [true, false, false] _ _ _ rfl ih rfl rfl _ rfl ?_) | (guard_target = Arith _ _ _; refine Arith.fit (wrap_fit (by omega) (by omega)) ?_) | (guard_target = Arith _ _ _; refine Arith.fit (wrap_fit (by first | omega | (simp only [List.length_map]; omega)) (by first | omega | (simp only [List.length_map]; omega))) ?_) | (guard_target = Arith _ _ _; refine Arith.fit (by decide) ?_) | (guard_target = Index _ _ _; first  | refine Index.mk _ (idx_map (by omega)) ?_) | (guard_target = Need (_ = true) _; refine Need.mk (by first | kernel_rfl | rfl) ?_) | (guard_target = LinkV _ _ _; first  | refine LinkV.no ?_) | (guard_target = GhO _ _ _ _; refine GhO.go ?_) | (guard_target = Need _ _; refine Need.mk (by first  | omega | (simp only [List.length_map]; omega)) ?_))
          all_goals first | rfl | exact ⟨rfl, trivial⟩ | (exfalso; simp at *; omega)
      rw [if_neg g3]
      cases c with
      | true =>
        simp only [halfB, halfS, if_true]
        have ia := expr_ok d (dp - 1) true ⟨sA, left - 1⟩ (n + 4) (by omega) ⟨hsA, by omega, hcA, by simp only []; omega, by simp only []; omega⟩ (by omega)
        have ra := Rd.expr g d true ⟨sA, left - 1⟩ hsA
        have la := exprE_left g d true ⟨sA, left - 1⟩
        have ca := exprE_cd g d true ⟨sA, left - 1⟩
        generalize exprE g d true ⟨sA, left - 1⟩ = X at ia ra la ca ⊢
        obtain ⟨⟨k1, n1, ks1⟩, ⟨s1, l1⟩⟩ := X
        simp only [] at ra la ca ia ⊢
        have ib := expr_ok d (dp - 1) true ⟨s1, l1⟩ (n + 4 + costE d) (by omega) ⟨ra, by omega, by simp only []; rw [ca]; exact hcA, by simp only []; omega, by simp only []; omega⟩ (by omega)
        generalize exprE g d true ⟨s1, l1⟩ = Y at ib ⊢
        obtain ⟨⟨k2, n2, ks2⟩, ⟨s2, l2⟩⟩ := Y
        simp only [genC] at ia ib ⊢
        by_cases g4 : k < 6
        · rw [if_pos g4]
          have pr := l02Pair_okX 6 (.mk k1 n1 ks1) (.mk k2 n2 ks2)
          refine callX_of_vc htb hm Try.func99 rfl rfl rfl rfl (ann := fun _ => none) (gh := fun _ => false) ?_
          repeat' ((conv => whnf); first | (guard_target = Done _; refine Done.mk ?_) | (guard_target = RetX _ _; refine RetX.mk ?_ ?_) | (guard_target = Fact _ _; refine Fact.mk fun hL => ?_; (try simp only [List.length_map, maxLen] at hL)) | (guard_target = Branch _ _ _; (first | refine Branch.dec ?_ ?_ | refine Branch.beq ?_ ?_ | refine Branch.bne ?_ ?_ | refine Branch.ndec ?_ ?_ | refine Branch.nb ?_ ?_ | refine Branch.mk ?_ ?_) <;> intro h <;> (try simp only [] at h) <;> (try omega) <;> (try contradiction)) | (guard_target = CallN _ 54 _ _ _ _; refine CallN.gen [true, false] _ _ _ rfl p6 rfl rfl _ rfl ?_) | (guard_target = CallN _ 37 _ _ _ _; refine CallN.gen [true, false] _ _ _ rfl pk rfl rfl _ rfl ?_) | (guard_target = CallN _ 99 _ _ _ _; (first | refine CallN.gen [true, false, false] _ _ _ rfl ia rfl rfl _ rfl ?_ | refine CallN.gen [true, false, false] _ _ _ rfl ib rfl rfl _ rfl ?_)) | (guard_target = CallN _ 42 _ _ _ _; refine CallN.pure _ _ rfl pr rfl _ rfl ?_) | (guard_target = Arith _ _ _; refine Arith.fit (wrap_fit (by omega) (by omega)) ?_) | (guard_target = Arith _ _ _; refine Arith.fit (wrap_fit (by first | omega | (simp only [List.length_map]; omega)) (by first | omega | (simp only [List.length_map]; omega))) ?_) | (guard_target = Arith _ _ _; refine Arith.fit (by decide) ?_) | (guard_target = Index _ _ _; first  | refine Index.mk _ (idx_map (by omega)) ?_) | (guard_target = Need (_ = true) _; refine Need.mk (by first | kernel_rfl | rfl) ?_) | (guard_target = LinkV _ _ _; first  | refine LinkV.no ?_) | (guard_target = GhO _ _ _ _; refine GhO.go ?_) | (guard_target = Need _ _; refine Need.mk (by first  | omega | (simp only [List.length_map]; omega)) ?_))
          all_goals first | rfl | exact ⟨rfl, trivial⟩ | (exfalso; simp at *; omega)
        · rw [if_neg g4]
          have pr := l02Pair_okX 7 (.mk k1 n1 ks1) (.mk k2 n2 ks2)
          refine callX_of_vc htb hm Try.func99 rfl rfl rfl rfl (ann := fun _ => none) (gh := fun _ => false) ?_
          repeat' ((conv => whnf); first | (guard_target = Done _; refine Done.mk ?_) | (guard_target = RetX _ _; refine RetX.mk ?_ ?_) | (guard_target = Fact _ _; refine Fact.mk fun hL => ?_; (try simp only [List.length_map, maxLen] at hL)) | (guard_target = Branch _ _ _; (first | refine Branch.dec ?_ ?_ | refine Branch.beq ?_ ?_ | refine Branch.bne ?_ ?_ | refine Branch.ndec ?_ ?_ | refine Branch.nb ?_ ?_ | refine Branch.mk ?_ ?_) <;> intro h <;> (try simp only [] at h) <;> (try omega) <;> (try contradiction)) | (guard_target = CallN _ 54 _ _ _ _; refine CallN.gen [true, false] _ _ _ rfl p6 rfl rfl _ rfl ?_) | (guard_target = CallN _ 37 _ _ _ _; refine CallN.gen [true, false] _ _ _ rfl pk rfl rfl _ rfl ?_) | (guard_target = CallN _ 99 _ _ _ _; (first | refine CallN.gen [true, false, false] _ _ _ rfl ia rfl rfl _ rfl ?_ | refine CallN.gen [true, false, false] _ _ _ rfl ib rfl rfl _ rfl ?_)) | (guard_target = CallN _ 42 _ _ _ _; refine CallN.pure _ _ rfl pr rfl _ rfl ?_) | (guard_target = Arith _ _ _; refine Arith.fit (wrap_fit (by omega) (by omega)) ?_) | (guard_target = Arith _ _ _; refine Arith.fit (wrap_fit (by first | omega | (simp only [List.length_map]; omega)) (by first | omega | (simp only [List.length_map]; omega))) ?_) | (guard_target = Arith _ _ _; refine Arith.fit (by decide) ?_) | (guard_target = Index _ _ _; first  | refine Index.mk _ (idx_map (by omega)) ?_) | (guard_target = Need (_ = true) _; refine Need.mk (by first | kernel_rfl | rfl) ?_) | (guard_target = LinkV _ _ _; first  | refine LinkV.no ?_) | (guard_target = GhO _ _ _ _; refine GhO.go ?_) | (guard_target = Need _ _; refine Need.mk (by first  | omega | (simp only [List.length_map]; omega)) ?_))
          all_goals first | rfl | exact ⟨rfl, trivial⟩ | (exfalso; simp at *; omega)
      | false =>
        simp only [halfB, halfS, Bool.false_eq_true, if_false]
        have p5 := one_ok sA (hsA.mono (by omega)) hcA 5 i5
        have hs5 : Rd (pickS sA 5) (n + 6) := (hsA.pick 5).mono (by omega)
        have hc5 : (pickS sA 5).code.length ≤ 1000000 := by rw [pick_cd]; exact hcA
        generalize oneB sA 5 = b5 at p5 ⊢
        generalize pickS sA 5 = sB at p5 hs5 hc5 ⊢
        have ia := expr_ok d (dp - 1) b5 ⟨sB, left - 1⟩ (n + 6) (by omega) ⟨hs5, by omega, hc5, by simp only []; omega, by simp only []; omega⟩ (by omega)
        have ra := Rd.expr g d b5 ⟨sB, left - 1⟩ hs5
        have la := exprE_left g d b5 ⟨sB, left - 1⟩
        have ca := exprE_cd g d b5 ⟨sB, left - 1⟩
        generalize exprE g d b5 ⟨sB, left - 1⟩ = X at ia ra la ca ⊢
        obtain ⟨⟨k1, n1, ks1⟩, ⟨s1, l1⟩⟩ := X
        simp only [] at ra la ca ia ⊢
        have hc1 : s1.code.length ≤ 1000000 := by rw [ca]; exact hc5
        have p1 := one_ok s1 (ra.mono (by omega)) hc1 6 i6
        have rb : Rd (pickS s1 6) (n + 8 + costE d) := (ra.pick 6).mono (by omega)
        have hcb : (pickS s1 6).code.length ≤ 1000000 := by rw [pick_cd]; exact hc1
        generalize oneB s1 6 = b6 at p1 ⊢
        generalize pickS s1 6 = sC at p1 rb hcb ⊢
        have ib := expr_ok d (dp - 1) b6 ⟨sC, l1⟩ (n + 8 + costE d) (by omega) ⟨rb, by omega, hcb, by simp only []; omega, by simp only []; omega⟩ (by omega)
        generalize exprE g d b6 ⟨sC, l1⟩ = Y at ib ⊢
        obtain ⟨⟨k2, n2, ks2⟩, ⟨s2, l2⟩⟩ := Y
        simp only [genC] at ia ib ⊢
        by_cases g4 : k < 6
        · rw [if_pos g4]
          have pr := l02Pair_okX 6 (.mk k1 n1 ks1) (.mk k2 n2 ks2)
          refine callX_of_vc htb hm Try.func99 rfl rfl rfl rfl (ann := fun _ => none) (gh := fun _ => false) ?_
          repeat' ((conv => whnf); first | (guard_target = Done _; refine Done.mk ?_) | (guard_target = RetX _ _; refine RetX.mk ?_ ?_) | (guard_target = Fact _ _; refine Fact.mk fun hL => ?_; (try simp only [List.length_map, maxLen] at hL)) | (guard_target = Branch _ _ _; (first | refine Branch.dec ?_ ?_ | refine Branch.beq ?_ ?_ | refine Branch.bne ?_ ?_ | refine Branch.ndec ?_ ?_ | refine Branch.nb ?_ ?_ | refine Branch.mk ?_ ?_) <;> intro h <;> (try simp only [] at h) <;> (try omega) <;> (try contradiction)) | (guard_target = CallN _ 54 _ _ _ _; (first | refine CallN.gen [true, false] _ _ _ rfl p6 rfl rfl _ rfl ?_ | refine CallN.gen [true, false] _ _ _ rfl p5 rfl rfl _ rfl ?_ | refine CallN.gen [true, false] _ _ _ rfl p1 rfl rfl _ rfl ?_)) | (guard_target = CallN _ 37 _ _ _ _; refine CallN.gen [true, false] _ _ _ rfl pk rfl rfl _ rfl ?_) | (guard_target = CallN _ 99 _ _ _ _; (first | refine CallN.gen [true, false, false] _ _ _ rfl ia rfl rfl _ rfl ?_ | refine CallN.gen [true, false, false] _ _ _ rfl ib rfl rfl _ rfl ?_)) | (guard_target = CallN _ 42 _ _ _ _; refine CallN.pure _ _ rfl pr rfl _ rfl ?_) | (guard_target = Arith _ _ _; refine Arith.fit (wrap_fit (by omega) (by omega)) ?_) | (guard_target = Arith _ _ _; refine Arith.fit (wrap_fit (by first | omega | (simp only [List.length_map]; omega)) (by first | omega | (simp only [List.length_map]; omega))) ?_) | (guard_target = Arith _ _ _; refine Arith.fit (by decide) ?_) | (guard_target = Index _ _ _; first  | refine Index.mk _ (idx_map (by omega)) ?_) | (guard_target = Need (_ = true) _; refine Need.mk (by first | kernel_rfl | rfl) ?_) | (guard_target = LinkV _ _ _; first  | refine LinkV.no ?_) | (guard_target = GhO _ _ _ _; refine GhO.go ?_) | (guard_target = Need _ _; refine Need.mk (by first  | omega | (simp only [List.length_map]; omega)) ?_))
          all_goals first | rfl | exact ⟨rfl, trivial⟩ | (exfalso; simp at *; omega)
        · rw [if_neg g4]
          have pr := l02Pair_okX 7 (.mk k1 n1 ks1) (.mk k2 n2 ks2)
          refine callX_of_vc htb hm Try.func99 rfl rfl rfl rfl (ann := fun _ => none) (gh := fun _ => false) ?_
          repeat' ((conv => whnf); first | (guard_target = Done _; refine Done.mk ?_) | (guard_target = RetX _ _; refine RetX.mk ?_ ?_) | (guard_target = Fact _ _; refine Fact.mk fun hL => ?_; (try simp only [List.length_map, maxLen] at hL)) | (guard_target = Branch _ _ _; (first | refine Branch.dec ?_ ?_ | refine Branch.beq ?_ ?_ | refine Branch.bne ?_ ?_ | refine Branch.ndec ?_ ?_ | refine Branch.nb ?_ ?_ | refine Branch.mk ?_ ?_) <;> intro h <;> (try simp only [] at h) <;> (try omega) <;> (try contradiction)) | (guard_target = CallN _ 54 _ _ _ _; (first | refine CallN.gen [true, false] _ _ _ rfl p6 rfl rfl _ rfl ?_ | refine CallN.gen [true, false] _ _ _ rfl p5 rfl rfl _ rfl ?_ | refine CallN.gen [true, false] _ _ _ rfl p1 rfl rfl _ rfl ?_)) | (guard_target = CallN _ 37 _ _ _ _; refine CallN.gen [true, false] _ _ _ rfl pk rfl rfl _ rfl ?_) | (guard_target = CallN _ 99 _ _ _ _; (first | refine CallN.gen [true, false, false] _ _ _ rfl ia rfl rfl _ rfl ?_ | refine CallN.gen [true, false, false] _ _ _ rfl ib rfl rfl _ rfl ?_)) | (guard_target = CallN _ 42 _ _ _ _; refine CallN.pure _ _ rfl pr rfl _ rfl ?_) | (guard_target = Arith _ _ _; refine Arith.fit (wrap_fit (by omega) (by omega)) ?_) | (guard_target = Arith _ _ _; refine Arith.fit (wrap_fit (by first | omega | (simp only [List.length_map]; omega)) (by first | omega | (simp only [List.length_map]; omega))) ?_) | (guard_target = Arith _ _ _; refine Arith.fit (by decide) ?_) | (guard_target = Index _ _ _; first  | refine Index.mk _ (idx_map (by omega)) ?_) | (guard_target = Need (_ = true) _; refine Need.mk (by first | kernel_rfl | rfl) ?_) | (guard_target = LinkV _ _ _; first  | refine LinkV.no ?_) | (guard_target = GhO _ _ _ _; refine GhO.go ?_) | (guard_target = Need _ _; refine Need.mk (by first  | omega | (simp only [List.length_map]; omega)) ?_))
          all_goals first | rfl | exact ⟨rfl, trivial⟩ | (exfalso; simp at *; omega)
end
end Go.Proofs.Ytlfigjkddnncgaa

namespace Go.Proofs.Ytlfigjkddnncgaa
open Go Go.KA Go.Proofs
set_option maxHeartbeats 16000000
set_option maxRecDepth 100000
theorem l06Not_own (k n : Int) : CallX Try.prog 43 [.a 3 (encExpr (.mk k n []))] [] (.a 3 (ownT (.mk 5 0 [.mk k n []]))) := by
  have h := l01Own_ok (.mk k n []) (by simp [budExpr, budExprS])
  have hp : pureT (.a 3 (ownT (.mk k n []))) := by
    intro x hx
    simp only [ownT, List.mem_cons, List.not_mem_nil, or_false] at hx
    rcases hx with rfl | rfl | rfl <;> trivial
  refine callX_of_vc htb hm Try.func43 rfl rfl rfl rfl (ann := fun _ => none) (gh := fun _ => false) ?_
  repeat' ((conv => whnf); first | (guard_target = Done _; refine Done.mk ?_) | (guard_target = RetX _ _; refine RetX.mk ?_ ?_) | (guard_target = Fact _ _; refine Fact.mk fun hL => ?_; (try simp only [List.length_map, maxLen] at hL)) | (guard_target = Branch _ _ _; (first | refine Branch.dec ?_ ?_ | refine Branch.beq ?_ ?_ | refine Branch.bne ?_ ?_ | refine Branch.ndec ?_ ?_ | refine Branch.nb ?_ ?_ | refine Branch.mk ?_ ?_) <;> intro h <;> (try simp only [List.length_map] at h) <;> (try omega) <;> (try contradiction)) | (guard_target = CallN _ 41 _ _ _ _; refine CallN.own _ _ rfl h hp _ rfl ?_) | (guard_target = Arith _ _ _; refine Arith.fit (wrap_fit (by first | omega | (simp only [List.length_map]; omega)) (by first | omega | (simp only [List.length_map]; omega))) ?_) | (guard_target = Arith _ _ _; refine Arith.fit (by decide) ?_) | (guard_target = Index _ _ _; first  | refine Index.mk _ (idx_map (by omega)) ?_) | (guard_target = Need (_ = true) _; refine Need.mk (by first | kernel_rfl | rfl) ?_) | (guard_target = LinkV _ _ _; first  | refine LinkV.no ?_) | (guard_target = GhO _ _ _ _; refine GhO.go ?_) | (guard_target = Need _ _; refine Need.mk (by first  | omega | (simp only [List.length_map]; omega)) ?_))
  all_goals first | rfl | trivial
theorem notT_pure (k n : Int) : pureT (.a 3 (ownT (.mk 5 0 [.mk k n []]))) := by
  intro x hx
  simp only [ownT, List.mem_cons, List.not_mem_nil, or_false] at hx
  rcases hx with rfl | rfl | rfl
  · trivial
  · trivial
  · simp [XExpr.kids, ownExpr, ownExprS, pureC, pureLL, pureL]
end Go.Proofs.Ytlfigjkddnncgaa

namespace Go.Proofs.Ytlfigjkddnncgaa
open Go Go.KA Go.Proofs
set_option maxHeartbeats 16000000
set_option maxRecDepth 100000
section
variable (g : XSig) (hg : 0 ≤ g.tests ∧ g.tests ≤ 3 ∧ 0 ≤ g.actions ∧ g.actions ≤ 4)
include hg
theorem condE_cd (s : Src) : (condE g s).2.code = s.code := by
  have _ := hg
  unfold condE
  split
  · split
    · rw [exprE_cd]; simp [pick_cd]
    · split <;> simp [pick_cd]
  · rw [exprE_cd]
theorem cond_ok (left : Int) (s : Src) (n : Int) (hs : Rd s n) (hn : n ≤ 690000) (hc : s.code.length ≤ 1000000) :
    CallX Try.prog 79 [.c (.op (genC ⟨s, left⟩ g))] [some [.op (genC ⟨(condE g s).2, left⟩ g)]] (.a 3 (encExpr (condE g s).1)) := by
  have ht : I64 g.tests := by unfold I64; omega
  have i3 : I64 3 := by unfold I64; omega
  have hE := expr_ok g hg 3 3 true
  have e540 : costE 3 = 540 := rfl
  have ex : ∀ s : Src, Rd s (n + 2) → s.code.length ≤ 1000000 → CallX Try.prog 99 [.c (.op (genC ⟨s, 5⟩ g)), B true, I 3] [some [.op (genC (exprE g 3 true ⟨s, 5⟩).2 g)], none, none] (.a 3 (encExpr (exprE g 3 true ⟨s, 5⟩).1)) :=
    fun s h1 h2 => hE ⟨s, 5⟩ (n + 2) rfl ⟨h1, by omega, h2, by simp only []; omega, by simp only []; omega⟩ (by omega)
  clear hE
  obtain ⟨gt, ga⟩ := g
  simp only [] at hg ht
  by_cases g1 : gt > 0
  · have p3 := one_ok s (hs.mono (by omega)) hc 3 i3
    have hs3 : Rd (pickS s 3) (n + 2) := hs.pick 3
    have hc3 : (pickS s 3).code.length ≤ 1000000 := by rw [pick_cd]; exact hc
    cases h3 : oneB s 3 with
    | true =>
      rw [h3] at p3
      have ex := ex _ hs3 hc3
      have e : condE ⟨gt, ga⟩ s = ((exprE ⟨gt, ga⟩ 3 true ⟨pickS s 3, 5⟩).1, (exprE ⟨gt, ga⟩ 3 true ⟨pickS s 3, 5⟩).2.s) := by simp [condE, g1, h3]
      rw [e]
      generalize exprE ⟨gt, ga⟩ 3 true ⟨pickS s 3, 5⟩ = X at ex ⊢
      obtain ⟨⟨k1, n1, ks1⟩, ⟨s1, l1⟩⟩ := X
      simp only [genC] at ex ⊢
      refine callX_of_vc htb hm Try.func79 rfl rfl rfl rfl (ann := fun _ => none) (gh := fun _ => false) ?_
      repeat' ((conv => whnf); first | (guard_target = Done _; refine Done.mk ?_) | (guard_target = RetX _ _; refine RetX.mk ?_ ?_) | (guard_target = Fact _ _; refine Fact.mk fun hL => ?_; (try simp only [List.length_map, maxLen] at hL)) | (guard_target = Branch _ _ _; (first | refine Branch.dec ?_ ?_ | refine Branch.beq ?_ ?_ | refine Branch.bne ?_ ?_ | refine Branch.ndec ?_ ?_ | refine Branch.nb ?_ ?_ | refine Branch.mk ?_ ?_) <;> intro h <;> (try simp only [] at h) <;> (try omega) <;> (try contradiction)) | (guard_target = CallN _ 54 _ _ _ _; refine CallN.gen [true, false] _ _ _ rfl p3 rfl rfl _ rfl ?_) | (guard_target = CallN _ 99 _ _ _ _; refine CallN.gen [true, false, false] _ _ _ rfl ex rfl rfl _ rfl ?_) | (guard_target = Arith _ _ _; refine Arith.fit (wrap_fit (by first | omega | (simp only [List.length_map]; omega)) (by first | omega | (simp only [List.length_map]; omega))) ?_) | (guard_target = Arith _ _ _; refine Arith.fit (by decide) ?_) | (guard_target = Index _ _ _; first  | refine Index.mk _ (idx_map (by omega)) ?_) | (guard_target = Need (_ = true) _; refine Need.mk (by first | kernel_rfl | rfl) ?_) | (guard_target = LinkV _ _ _; first  | refine LinkV.no ?_) | (guard_target = GhO _ _ _ _; refine GhO.go ?_) | (guard_target = Need _ _; refine Need.mk (by first  | omega | (simp only [List.length_map]; omega)) ?_))
      all_goals first | rfl | exact ⟨rfl, trivial⟩ | (exfalso; simp at *; omega)
    | false =>
      rw [h3] at p3
      have q := pick_ok (pickS s 3) (hs3.mono (by omega)) hc3 gt ht
      have hs4 : Rd (pickS (pickS s 3) gt) (n + 4) := (hs3.pick gt).mono (by omega)
      have hc4 : (pickS (pickS s 3) gt).code.length ≤ 1000000 := by rw [pick_cd]; exact hc3
      have p4 := one_ok (pickS (pickS s 3) gt) (hs4.mono (by omega)) hc4 3 i3
      have nt := l06Not_own 3 (pickV (pickS s 3) gt)
      have hpn : pureT (.a 3 (ownT (.mk 5 0 [.mk 3 (pickV (pickS s 3) gt) []]))) := notT_pure _ _
      cases h4 : oneB (pickS (pickS s 3) gt) 3 with
      | true =>
        rw [h4] at p4
        have e : condE ⟨gt, ga⟩ s = (.mk 5 0 [.mk 3 (pickV (pickS s 3) gt) []], pickS (pickS (pickS s 3) gt) 3) := by simp [condE, testE, g1, h3, h4]
        rw [e]
        refine CallX.soft ?_ (own_soft _)
        simp only [genC]
        refine callX_of_vc htb hm Try.func79 rfl rfl rfl rfl (ann := fun _ => none) (gh := fun _ => false) ?_
        repeat' ((conv => whnf); first | (guard_target = Done _; refine Done.mk ?_) | (guard_target = RetX _ _; refine RetX.mk ?_ ?_) | (guard_target = Fact _ _; refine Fact.mk fun hL => ?_; (try simp only [List.length_map, maxLen] at hL)) | (guard_target = Branch _ _ _; (first | refine Branch.dec ?_ ?_ | refine Branch.beq ?_ ?_ | refine Branch.bne ?_ ?_ | refine Branch.ndec ?_ ?_ | refine Branch.nb ?_ ?_ | refine Branch.mk ?_ ?_) <;> intro h <;> (try simp only [] at h) <;> (try omega) <;> (try contradiction)) | (guard_target = CallN _ 54 _ _ _ _; (first | refine CallN.gen [true, false] _ _ _ rfl p3 rfl rfl _ rfl ?_ | refine CallN.gen [true, false] _ _ _ rfl p4 rfl rfl _ rfl ?_)) | (guard_target = CallN _ 37 _ _ _ _; refine CallN.gen [true, false] _ _ _ rfl q rfl rfl _ rfl ?_) | (guard_target = CallN _ 43 _ _ _ _; refine CallN.own _ _ rfl nt hpn _ rfl ?_) | (guard_target = Arith _ _ _; refine Arith.fit (wrap_fit (by first | omega | (simp only [List.length_map]; omega)) (by first | omega | (simp only [List.length_map]; omega))) ?_) | (guard_target = Arith _ _ _; refine Arith.fit (by decide) ?_) | (guard_target = Index _ _ _; first  | refine Index.mk _ (idx_map (by omega)) ?_) | (guard_target = Need (_ = true) _; refine Need.mk (by first | kernel_rfl | rfl) ?_) | (guard_target = LinkV _ _ _; first  | refine LinkV.no ?_) | (guard_target = GhO _ _ _ _; refine GhO.go ?_) | (guard_target = Need _ _; refine Need.mk (by first  | omega | (simp only [List.length_map]; omega)) ?_))
        all_goals first | rfl | exact ⟨rfl, trivial⟩ | (exfalso; simp at *; omega)
      | false =>
        rw [h4] at p4
        have e : condE ⟨gt, ga⟩ s = (.mk 3 (pickV (pickS s 3) gt) [], pickS (pickS (pickS s 3) gt) 3) := by simp [condE, testE, g1, h3, h4]
        rw [e]
        simp only [genC]
        refine leaf_soft ?_
        refine callX_of_vc htb hm Try.func79 rfl rfl rfl rfl (ann := fun _ => none) (gh := fun _ => false) ?_
        repeat' ((conv => whnf); first | (guard_target = Done _; refine Done.mk ?_) | (guard_target = RetX _ _; refine RetX.mk ?_ ?_) | (guard_target = Fact _ _; refine Fact.mk fun hL => ?_; (try simp only [List.length_map, maxLen] at hL)) | (guard_target = Branch _ _ _; (first | refine Branch.dec ?_ ?_ | refine Branch.beq ?_ ?_ | refine Branch.bne ?_ ?_ | refine Branch.ndec ?_ ?_ | refine Branch.nb ?_ ?_ | refine Branch.mk ?_ ?_) <;> intro h <;> (try simp only [] at h) <;> (try omega) <;> (try contradiction)) | (guard_target = CallN _ 54 _ _ _ _; (first | refine CallN.gen [true, false] _ _ _ rfl p3 rfl rfl _ rfl ?_ | refine CallN.gen [true, false] _ _ _ rfl p4 rfl rfl _ rfl ?_)) | (guard_target = CallN _ 37 _ _ _ _; refine CallN.gen [true, false] _ _ _ rfl q rfl rfl _ rfl ?_) | (guard_target = Arith _ _ _; refine Arith.fit (wrap_fit (by first | omega | (simp only [List.length_map]; omega)) (by first | omega | (simp only [List.length_map]; omega))) ?_) | (guard_target = Arith _ _ _; refine Arith.fit (by decide) ?_) | (guard_target = Index _ _ _; first  | refine Index.mk _ (idx_map (by omega)) ?_) | (guard_target = Need (_ = true) _; refine Need.mk (by first | kernel_rfl | rfl) ?_) | (guard_target = LinkV _ _ _; first  | refine LinkV.no ?_) | (guard_target = GhO _ _ _ _; refine GhO.go ?_) | (guard_target = Need _ _; refine Need.mk (by first  | omega | (simp only [List.length_map]; omega)) ?_))
        all_goals first | rfl | exact ⟨rfl, trivial⟩ | (exfalso; simp at *; omega)
  · have ex := ex s (hs.mono (by omega)) hc
    have e : condE ⟨gt, ga⟩ s = ((exprE ⟨gt, ga⟩ 3 true ⟨s, 5⟩).1, (exprE ⟨gt, ga⟩ 3 true ⟨s, 5⟩).2.s) := by simp [condE, g1]
    rw [e]
    generalize exprE ⟨gt, ga⟩ 3 true ⟨s, 5⟩ = X at ex ⊢
    obtain ⟨⟨k1, n1, ks1⟩, ⟨s1, l1⟩⟩ := X
    simp only [genC] at ex ⊢
    refine callX_of_vc htb hm Try.func79 rfl rfl rfl rfl (ann := fun _ => none) (gh := fun _ => false) ?_
    repeat' ((conv => whnf); first | (guard_target = Done _; refine Done.mk ?_) | (guard_target = RetX _ _; refine RetX.mk ?_ ?_) | (guard_target = Fact _ _; refine Fact.mk fun hL => ?_; (try simp only [List.length_map, maxLen] at hL)) | (guard_target = Branch _ _ _; (first | refine Branch.dec ?_ ?_ | refine Branch.beq ?_ ?_ | refine Branch.bne ?_ ?_ | refine Branch.ndec ?_ ?_ | refine Branch.nb ?_ ?_ | refine Branch.mk ?_ ?_) <;> intro h <;> (try simp only [List.length_map] at h) <;> (try omega) <;> (try contradiction)) | (guard_target = CallN _ 99 _ _ _ _; refine CallN.gen [true, false, false] _ _ _ rfl ex rfl rfl _ rfl ?_) | (guard_target = Arith _ _ _; refine Arith.fit (wrap_fit (by first | omega | (simp only [List.length_map]; omega)) (by first | omega | (simp only [List.length_map]; omega))) ?_) | (guard_target = Arith _ _ _; refine Arith.fit (by decide) ?_) | (guard_target = Index _ _ _; first  | refine Index.mk _ (idx_map (by omega)) ?_) | (guard_target = Need (_ = true) _; refine Need.mk (by first | kernel_rfl | rfl) ?_) | (guard_target = LinkV _ _ _; first  | refine LinkV.no ?_) | (guard_target = GhO _ _ _ _; refine GhO.go ?_) | (guard_target = Need _ _; refine Need.mk (by first  | omega | (simp only [List.length_map]; omega)) ?_))
    all_goals first | rfl | exact ⟨rfl, trivial⟩ | (exfalso; simp at *; omega)
end
end Go.Proofs.Ytlfigjkddnncgaa
