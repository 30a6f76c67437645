/- Contracts of the copies of expressions and of negations. No conditions but bounds of size. -/
import Derived.Test.YtaajacnceocpoaaGreatKAI

namespace Go.Proofs.YtaajacnceocpoaaGreat
open Go Go.KA Go.Proofs
set_option maxHeartbeats 16000000
set_option maxRecDepth 100000
theorem take_map_next {α β : Type} {f : α → β} {l : List α} {i : Nat} (h : i < l.length) : (l.take (i + 1)).map f = (l.take i).map f ++ [f l[i]] := by
  rw [List.take_add_one, List.getElem?_eq_getElem h, List.map_append]
  rfl
abbrev ownT (x : XExpr) : List CV := [J x.kind, J x.num, .own 28 3 (x.kids.map ownExpr)]
theorem own_next {l : List XExpr} {i : Nat} {rows : List (List CV)} (hi : i < l.length) (h : rows = (l.take i).map ownExpr) : rows ++ [ownT l[i]] = (l.take (i + 1)).map ownExpr := by
  rw [take_map_next hi, h, ownExpr_eq]
theorem l01Own_all (x : XExpr) (hl : x.kids.length ≤ 1048576) (hx : ∀ k ∈ x.kids, CallX Tryz.prog 84 [.c (.rp 3 (encExpr k))] [] (.a 3 (ownT k))) : CallX Tryz.prog 84 [.c (.rp 3 (toldE x))] [] (.a 3 (ownT x)) := by
  refine callX_of_vc htb hm Tryz.func84 rfl rfl rfl rfl (ann := fun _ => none) (gh := fun _ => false) ?_
  repeat' ((conv => whnf); first | (guard_target = RetX _ _; refine RetX.mk ?_ ?_) | (guard_target =~ LoopE 3 _ _ _ _ _ _; refine LoopE.mk { α := Nat × List (List CV), keep := [0, 2, 3], ov := fun ⟨i, rows⟩ => [(4, I (i : Nat))], hv := fun ⟨i, rows⟩ => [(4, .cells [.c (J x.kind), .c (J x.num), .lw 2]), (2, .orow none 28 3 rows)], φ := fun ⟨i, rows⟩ => i ≤ x.kids.length ∧ rows = (x.kids.take i).map ownExpr, μ := fun ⟨i, rows⟩ => x.kids.length - i } (LoopN.mk ((0, []) : Nat × List (List CV)) (by exact ⟨Nat.zero_le _, rfl⟩) (by repeat' ((conv => whnf) <;> first | exact trivial | kernel_rfl | constructor)) (by repeat' ((conv => whnf) <;> first | exact trivial | kernel_rfl | constructor)) (by repeat' ((conv => whnf) <;> first | exact trivial | refine ⟨?_, ?_⟩ | exact rfl | (simp only [List.map_append, List.map_cons, List.map_nil, List.map_set]; first | done | rfl))) (fun A ha => ?_) (by intro A; first | rfl | (obtain ⟨_, _⟩ := A; rfl) | (obtain ⟨_, _, _⟩ := A; rfl))); obtain ⟨i, rows⟩ := A; have ha : i ≤ x.kids.length ∧ rows = (x.kids.take i).map ownExpr := ha; have hrl : rows.length = i := (by rw [ha.2, List.length_map, List.length_take]; omega)) | (guard_target = Gh _ _ _ _ _; refine Gh.go ⟨((i + 1, rows ++ [ownT x.kids[i]]) : Nat × List (List CV)), (by exact ⟨by show i + 1 ≤ _; omega, own_next (by omega) ha.2⟩), (by first | (show _ < _; simp only []; omega) | omega | (simp; omega)), (by repeat' ((conv => whnf) <;> first | exact trivial | kernel_rfl | constructor)), (by repeat' ((conv => whnf) <;> first | exact trivial | kernel_rfl | constructor)), (by repeat' ((conv => whnf) <;> first | exact trivial | refine ⟨?_, ?_⟩ | exact rfl | (simp only [List.map_append, List.map_cons, List.map_nil, List.map_set]; first | done | rfl)))⟩) | (guard_target = Fact _ _; refine Fact.mk fun hL => ?_; (try simp only [List.length_map, maxLen] at hL)) | (guard_target = Branch _ _ _; (first | apply Branch.dec | apply Branch.beq | apply Branch.bne | apply Branch.ndec | apply Branch.nb | apply Branch.mk) <;> intro h <;> (try simp only [List.length_map] at h) <;> (try omega) <;> (try contradiction)) | (guard_target = CallN _ 84 _ _ _ _; refine CallN.gen [] _ _ _ rfl (hx _ (List.getElem_mem (by omega))) rfl rfl _ rfl ?_) | (guard_target = Arith _ _ _; refine Arith.fit (by apply wrap_fit <;> first | omega | (simp only [List.length_map]; omega)) ?_) | (guard_target = Arith _ _ _; refine Arith.fit (by decide) ?_) | (guard_target = Index _ _ _; first | refine Index.mk _ (idx_map (i := i) (by omega)) ?_ | refine Index.mk _ (idx_map (by omega)) ?_) | (guard_target = Need (_ = true) _; refine Need.mk (by first | kernel_rfl | rfl) ?_) | (guard_target = LinkV _ _ _; refine LinkV.no ?_) | (guard_target = GhO _ _ _ _; refine GhO.go ?_) | (guard_target = Need _ _; refine Need.mk (by first | ((simp only [List.length_cons, List.length_nil, maxLen]; constructor <;> omega)) | omega | (simp only [List.length_map]; omega)) ?_))
  all_goals first | rfl | trivial | (have h9 := ha.2; rw [List.take_of_length_le (by omega)] at h9; rw [h9]; rfl)
theorem l01Own_ok (x : XExpr) (hb : budExpr x ≤ 1048576) : CallX Tryz.prog 84 [.c (.rp 3 (encExpr x))] [] (.a 3 (ownT x)) := by
  rw [encExpr_eq]
  have h1 : budS budExpr x.kids ≤ budExpr x := by
    cases x
    simp only [budExpr, budExprS_eq, XExpr.kids]
    exact Nat.le_refl _
  exact l01Own_all x (by have := budS_len budExpr x.kids; omega) fun k _hk => l01Own_ok k (by have := budS_mem budExpr _hk; omega)
  termination_by SizeOf.sizeOf x
  decreasing_by
    have := List.sizeOf_lt_of_mem _hk
    cases x
    simp only [XExpr.mk.sizeOf_spec]
    show SizeOf.sizeOf k < _
    simp only [XExpr.kids] at this
    omega
theorem ownT_ro (x : XExpr) : roL (ownT x) = encExpr x := by
  have := roExpr x
  rwa [ownExpr_eq] at this
theorem own_soft (x : XExpr) : SoftT (.a 3 (ownT x)) (.a 3 (encExpr x)) := by
  rw [← ownT_ro]
  exact .v (.a (SoftN.roL _))
theorem l01Own_ro (x : XExpr) (hb : budExpr x ≤ 1048576) : CallX Tryz.prog 84 [.c (.rp 3 (encExpr x))] [] (.a 3 (encExpr x)) := (l01Own_ok x hb).soft (own_soft x)
theorem enc_mk (k n : Int) (ks : List XExpr) : encExpr (.mk k n ks) = [J k, J n, .ro 3 (ks.map encExpr)] := encExpr_eq _
abbrev notE (c : XExpr) : XExpr := .mk 5 0 [c]
abbrev pairE (k : Int) (a b : XExpr) : XExpr := .mk k 0 [a, b]
theorem l02Pair_ok (k : Int) (a b : XExpr) : CallX Tryz.prog 85 [I k, .a 3 (encExpr a), .a 3 (encExpr b)] [] (.a 3 (encExpr (pairE k a b))) := by
  have h : CallX Tryz.prog 85 [I k, .a 3 (encExpr a), .a 3 (encExpr b)] [] (.a 3 [J k, J 0, .ows 28 3 [encExpr a, encExpr b]]) := by
    cases a
    cases b
    refine callX_of_vc htb hm Tryz.func85 rfl rfl rfl rfl (ann := fun _ => none) (gh := fun _ => false) ?_
    repeat' ((conv => whnf); first | (guard_target = RetX _ _; refine RetX.mk ?_ ?_) | (guard_target = Index _ _ _; first  | refine Index.mk _ (idx_map (by omega)) ?_) | (guard_target = Need _ _; refine Need.mk (by first  | omega | (simp only [List.length_map]; omega)) ?_))
    all_goals first | rfl | trivial
  rw [enc_mk]
  exact h.soft (.v (.a (.same (.same (.ro .nil)))))
theorem l06Not_ok (c : XExpr) (hb : budExpr c ≤ 1048576) : CallX Tryz.prog 86 [.a 3 (encExpr c)] [] (.a 3 (encExpr (notE c))) := by
  have h : CallX Tryz.prog 86 [.a 3 (encExpr c)] [] (.a 3 [J 5, J 0, .ows 28 3 [encExpr c]]) := by
    cases c
    refine callX_of_vc htb hm Tryz.func86 rfl rfl rfl rfl (ann := fun _ => none) (gh := fun reg_ => match reg_ with | 1 => true | _ => false) ?_
    repeat' ((conv => whnf); first | (guard_target = RetX _ _; refine RetX.mk ?_ ?_) | (guard_target = CallN _ 84 _ _ _ _; refine CallN.gen [] _ _ _ rfl (l01Own_ro _ hb) rfl rfl _ rfl ?_) | (guard_target = Gh _ _ _ _ _; refine Gh.frzp 0 _ rfl (Gh.go ?_)) | (guard_target = Index _ _ _; first  | refine Index.mk _ (idx_map (by omega)) ?_) | (guard_target = GhO _ _ _ _; refine GhO.go ?_) | (guard_target = Need _ _; refine Need.mk (by first  | omega | (simp only [List.length_map]; omega)) ?_))
    all_goals first | rfl | trivial
  rw [enc_mk]
  exact h.soft (.v (.a (.same (.same (.ro .nil)))))
end Go.Proofs.YtaajacnceocpoaaGreat

namespace Go.Proofs.YtaajacnceocpoaaGreat
open Go Go.KA Go.Proofs
set_option maxHeartbeats 16000000
set_option maxRecDepth 100000

theorem pick_cd (s : Src) (n : Int) : (pickS s n).code = s.code := by
  unfold pickS
  split
  · rfl
  · split <;> rfl
theorem one_ok (s : Src) (hs : Rd s 900000) (hc : s.code.length ≤ 1000000) (n : Int) (hn : I64 n) : CallX Tryz.prog 78 [.c (.op (srcC s)), I n] [some [.op (srcC (pickS s n))], none] (B (oneB s n)) := by
  have h1 := pick_ok s hs hc n hn
  refine callX_of_vc htb hm Tryz.func78 rfl rfl rfl rfl (ann := fun _ => none) (gh := fun _ => false) ?_
  repeat' ((conv => whnf); first | (guard_target = RetX _ _; refine RetX.mk ?_ ?_) | (guard_target = CallN _ 57 _ _ _ _; refine CallN.gen [true, false] _ _ _ rfl h1 rfl rfl _ rfl ?_) | (guard_target = Need _ _; refine Need.mk (by first  | omega | (simp only [List.length_map]; omega)) ?_))
  all_goals first | rfl | exact ⟨rfl, trivial⟩
theorem leaf_soft {P : Program} {f : Nat} {args : List SV} {outs : List (Option (List CV))} {k n : Int} (h : CallX P f args outs (.a 3 [J k, J n, .ows 28 3 []])) : CallX P f args outs (.a 3 (encExpr (.mk k n []))) :=
  h.soft (.v (.a (.same (.same (.ro .nil)))))
section
variable (g : XSig) (hg : 0 ≤ g.tests ∧ g.tests ≤ 3 ∧ 0 ≤ g.actions ∧ g.actions ≤ 4)
include hg
theorem genLeaf_ok (left : Int) (s : Src) (hs : Rd s 800000) (hc : s.code.length ≤ 1000000) (c : Bool) :
    CallX Tryz.prog 183 [.c (.op (genC ⟨s, left⟩ g)), B c] [some [.op (genC ⟨(leafD g c s).2, left⟩ g)], none] (.a 3 (encExpr (leafD g c s).1)) := by
  have ht : I64 g.tests := by unfold I64; omega
  have ha : I64 g.actions := by unfold I64; omega
  have i2 : I64 2 := by unfold I64; omega
  have i3 : I64 3 := by unfold I64; omega
  have i4 : I64 4 := by unfold I64; omega
  obtain ⟨gt, ga⟩ := g
  simp only [] at hg ht ha
  have p3 := one_ok s (hs.mono (by omega)) hc 3 i3
  have hs3 : Rd (pickS s 3) 800002 := hs.pick 3
  have hc3 : (pickS s 3).code.length ≤ 1000000 := by rw [pick_cd]; exact hc
  cases c with
  | true =>
    by_cases g2 : gt > 0
    · have p4 := one_ok s (hs.mono (by omega)) hc 4 i4
      have hs4 : Rd (pickS s 4) 800004 := (hs.pick 4).mono (by omega)
      have hc4 : (pickS s 4).code.length ≤ 1000000 := by rw [pick_cd]; exact hc
      cases h4 : oneB s 4 with
      | false =>
        rw [h4] at p4
        have q := pick_ok (pickS s 4) (hs4.mono (by omega)) hc4 gt ht
        have e : leafD ⟨gt, ga⟩ true s = (.mk 3 (pickV (pickS s 4) gt) [], pickS (pickS s 4) gt) := by simp [leafD, leaf1, leaf0, g2, h4]
        rw [e]
        simp only [genC]
        refine leaf_soft ?_
        refine callX_of_vc htb hm Tryz.func183 rfl rfl rfl rfl (ann := fun _ => none) (gh := fun _ => false) ?_
        repeat' ((conv => whnf); first | (guard_target = RetX _ _; refine RetX.mk ?_ ?_) | (guard_target = Branch _ _ _; (first | apply Branch.dec | apply Branch.beq | apply Branch.bne | apply Branch.ndec | apply Branch.nb | apply Branch.mk) <;> intro h <;> (try simp only [List.length_map] at h) <;> (try omega) <;> (try contradiction)) | (guard_target = CallN _ 78 _ _ _ _; refine CallN.gen [true, false] _ _ _ rfl p4 rfl rfl _ rfl ?_) | (guard_target = CallN _ 57 _ _ _ _; refine CallN.gen [true, false] _ _ _ rfl q rfl rfl _ rfl ?_) | (guard_target = Arith _ _ _; refine Arith.fit (wrap_fit (by omega) (by omega)) ?_) | (guard_target = Arith _ _ _; refine Arith.fit (by apply wrap_fit <;> first | omega | (simp only [List.length_map]; omega)) ?_) | (guard_target = Arith _ _ _; refine Arith.fit (by decide) ?_) | (guard_target = Index _ _ _; first  | refine Index.mk _ (idx_map (by omega)) ?_) | (guard_target = Need (_ = true) _; refine Need.mk (by first | kernel_rfl | rfl) ?_) | (guard_target = GhO _ _ _ _; refine GhO.go ?_) | (guard_target = Need _ _; refine Need.mk (by first  | omega | (simp only [List.length_map]; omega)) ?_))
        all_goals first | rfl | exact ⟨rfl, trivial⟩ | (exfalso; simp at *; omega)
      | true =>
        rw [h4] at p4
        have q := pick_ok (pickS s 4) (hs4.mono (by omega)) hc4 2 i2
        have qb := pickV_in (pickS s 4) (n := 2) (by omega)
        have e : leafD ⟨gt, ga⟩ true s = (.mk (1 + pickV (pickS s 4) 2) 0 [], pickS (pickS s 4) 2) := by simp [leafD, leaf1, leaf0, g2, h4]
        rw [e]
        simp only [genC]
        refine leaf_soft ?_
        refine callX_of_vc htb hm Tryz.func183 rfl rfl rfl rfl (ann := fun _ => none) (gh := fun _ => false) ?_
        repeat' ((conv => whnf); first | (guard_target = RetX _ _; refine RetX.mk ?_ ?_) | (guard_target = Branch _ _ _; (first | apply Branch.dec | apply Branch.beq | apply Branch.bne | apply Branch.ndec | apply Branch.nb | apply Branch.mk) <;> intro h <;> (try simp only [List.length_map] at h) <;> (try omega) <;> (try contradiction)) | (guard_target = CallN _ 78 _ _ _ _; refine CallN.gen [true, false] _ _ _ rfl p4 rfl rfl _ rfl ?_) | (guard_target = CallN _ 57 _ _ _ _; refine CallN.gen [true, false] _ _ _ rfl q rfl rfl _ rfl ?_) | (guard_target = Arith _ _ _; refine Arith.fit (wrap_fit (by omega) (by omega)) ?_) | (guard_target = Arith _ _ _; refine Arith.fit (by apply wrap_fit <;> first | omega | (simp only [List.length_map]; omega)) ?_) | (guard_target = Arith _ _ _; refine Arith.fit (by decide) ?_) | (guard_target = Index _ _ _; first  | refine Index.mk _ (idx_map (by omega)) ?_) | (guard_target = Need (_ = true) _; refine Need.mk (by first | kernel_rfl | rfl) ?_) | (guard_target = GhO _ _ _ _; refine GhO.go ?_) | (guard_target = Need _ _; refine Need.mk (by first  | omega | (simp only [List.length_map]; omega)) ?_))
        all_goals first | rfl | exact ⟨rfl, trivial⟩ | (exfalso; simp at *; omega)
    · have q := pick_ok s (hs.mono (by omega)) hc 2 i2
      have qb := pickV_in s (n := 2) (by omega)
      have e : leafD ⟨gt, ga⟩ true s = (.mk (1 + pickV s 2) 0 [], pickS s 2) := by simp [leafD, leaf1, leaf0, g2]
      rw [e]
      simp only [genC]
      refine leaf_soft ?_
      refine callX_of_vc htb hm Tryz.func183 rfl rfl rfl rfl (ann := fun _ => none) (gh := fun _ => false) ?_
      repeat' ((conv => whnf); first | (guard_target = RetX _ _; refine RetX.mk ?_ ?_) | (guard_target = Branch _ _ _; (first | apply Branch.dec | apply Branch.beq | apply Branch.bne | apply Branch.ndec | apply Branch.nb | apply Branch.mk) <;> intro h <;> (try simp only [List.length_map] at h) <;> (try omega) <;> (try contradiction)) | (guard_target = CallN _ 57 _ _ _ _; refine CallN.gen [true, false] _ _ _ rfl q rfl rfl _ rfl ?_) | (guard_target = Arith _ _ _; refine Arith.fit (wrap_fit (by omega) (by omega)) ?_) | (guard_target = Arith _ _ _; refine Arith.fit (by apply wrap_fit <;> first | omega | (simp only [List.length_map]; omega)) ?_) | (guard_target = Arith _ _ _; refine Arith.fit (by decide) ?_) | (guard_target = Index _ _ _; first  | refine Index.mk _ (idx_map (by omega)) ?_) | (guard_target = Need (_ = true) _; refine Need.mk (by first | kernel_rfl | rfl) ?_) | (guard_target = GhO _ _ _ _; refine GhO.go ?_) | (guard_target = Need _ _; refine Need.mk (by first  | omega | (simp only [List.length_map]; omega)) ?_))
      all_goals first | rfl | exact ⟨rfl, trivial⟩ | (exfalso; simp at *; omega)
  | false =>
    by_cases g1 : ga > 0
    · cases h3 : oneB s 3 with
      | false =>
        rw [h3] at p3
        have q := pick_ok (pickS s 3) (hs3.mono (by omega)) hc3 ga ha
        have e : leafD ⟨gt, ga⟩ false s = (.mk 4 (pickV (pickS s 3) ga) [], pickS (pickS s 3) ga) := by simp [leafD, g1, h3]
        rw [e]
        simp only [genC]
        refine leaf_soft ?_
        refine callX_of_vc htb hm Tryz.func183 rfl rfl rfl rfl (ann := fun _ => none) (gh := fun _ => false) ?_
        repeat' ((conv => whnf); first | (guard_target = RetX _ _; refine RetX.mk ?_ ?_) | (guard_target = Branch _ _ _; (first | apply Branch.dec | apply Branch.beq | apply Branch.bne | apply Branch.ndec | apply Branch.nb | apply Branch.mk) <;> intro h <;> (try simp only [List.length_map] at h) <;> (try omega) <;> (try contradiction)) | (guard_target = CallN _ 78 _ _ _ _; refine CallN.gen [true, false] _ _ _ rfl p3 rfl rfl _ rfl ?_) | (guard_target = CallN _ 57 _ _ _ _; refine CallN.gen [true, false] _ _ _ rfl q rfl rfl _ rfl ?_) | (guard_target = Arith _ _ _; refine Arith.fit (wrap_fit (by omega) (by omega)) ?_) | (guard_target = Arith _ _ _; refine Arith.fit (by apply wrap_fit <;> first | omega | (simp only [List.length_map]; omega)) ?_) | (guard_target = Arith _ _ _; refine Arith.fit (by decide) ?_) | (guard_target = Index _ _ _; first  | refine Index.mk _ (idx_map (by omega)) ?_) | (guard_target = Need (_ = true) _; refine Need.mk (by first | kernel_rfl | rfl) ?_) | (guard_target = GhO _ _ _ _; refine GhO.go ?_) | (guard_target = Need _ _; refine Need.mk (by first  | omega | (simp only [List.length_map]; omega)) ?_))
        all_goals first | rfl | exact ⟨rfl, trivial⟩ | (exfalso; simp at *; omega)
      | true =>
        rw [h3] at p3
        by_cases g2 : gt > 0
        · have p4 := one_ok (pickS s 3) (hs3.mono (by omega)) hc3 4 i4
          have hs4 : Rd (pickS (pickS s 3) 4) 800004 := (hs3.pick 4).mono (by omega)
          have hc4 : (pickS (pickS s 3) 4).code.length ≤ 1000000 := by rw [pick_cd]; exact hc3
          cases h4 : oneB (pickS s 3) 4 with
          | false =>
            rw [h4] at p4
            have q := pick_ok (pickS (pickS s 3) 4) (hs4.mono (by omega)) hc4 gt ht
            have e : leafD ⟨gt, ga⟩ false s = (.mk 3 (pickV (pickS (pickS s 3) 4) gt) [], pickS (pickS (pickS s 3) 4) gt) := by simp [leafD, leaf1, leaf0, g2, h4, g1, h3]
            rw [e]
            simp only [genC]
            refine leaf_soft ?_
            refine callX_of_vc htb hm Tryz.func183 rfl rfl rfl rfl (ann := fun _ => none) (gh := fun _ => false) ?_
            repeat' ((conv => whnf); first | (guard_target = RetX _ _; refine RetX.mk ?_ ?_) | (guard_target = Branch _ _ _; (first | apply Branch.dec | apply Branch.beq | apply Branch.bne | apply Branch.ndec | apply Branch.nb | apply Branch.mk) <;> intro h <;> (try simp only [List.length_map] at h) <;> (try omega) <;> (try contradiction)) | (guard_target = CallN _ 78 _ _ _ _; (first | refine CallN.gen [true, false] _ _ _ rfl p3 rfl rfl _ rfl ?_ | refine CallN.gen [true, false] _ _ _ rfl p4 rfl rfl _ rfl ?_)) | (guard_target = CallN _ 57 _ _ _ _; refine CallN.gen [true, false] _ _ _ rfl q rfl rfl _ rfl ?_) | (guard_target = Arith _ _ _; refine Arith.fit (wrap_fit (by omega) (by omega)) ?_) | (guard_target = Arith _ _ _; refine Arith.fit (by apply wrap_fit <;> first | omega | (simp only [List.length_map]; omega)) ?_) | (guard_target = Arith _ _ _; refine Arith.fit (by decide) ?_) | (guard_target = Index _ _ _; first  | refine Index.mk _ (idx_map (by omega)) ?_) | (guard_target = Need (_ = true) _; refine Need.mk (by first | kernel_rfl | rfl) ?_) | (guard_target = GhO _ _ _ _; refine GhO.go ?_) | (guard_target = Need _ _; refine Need.mk (by first  | omega | (simp only [List.length_map]; omega)) ?_))
            all_goals first | rfl | exact ⟨rfl, trivial⟩ | (exfalso; simp at *; omega)
          | true =>
            rw [h4] at p4
            have q := pick_ok (pickS (pickS s 3) 4) (hs4.mono (by omega)) hc4 2 i2
            have qb := pickV_in (pickS (pickS s 3) 4) (n := 2) (by omega)
            have e : leafD ⟨gt, ga⟩ false s = (.mk (1 + pickV (pickS (pickS s 3) 4) 2) 0 [], pickS (pickS (pickS s 3) 4) 2) := by simp [leafD, leaf1, leaf0, g2, h4, g1, h3]
            rw [e]
            simp only [genC]
            refine leaf_soft ?_
            refine callX_of_vc htb hm Tryz.func183 rfl rfl rfl rfl (ann := fun _ => none) (gh := fun _ => false) ?_
            repeat' ((conv => whnf); first | (guard_target = RetX _ _; refine RetX.mk ?_ ?_) | (guard_target = Branch _ _ _; (first | apply Branch.dec | apply Branch.beq | apply Branch.bne | apply Branch.ndec | apply Branch.nb | apply Branch.mk) <;> intro h <;> (try simp only [List.length_map] at h) <;> (try omega) <;> (try contradiction)) | (guard_target = CallN _ 78 _ _ _ _; (first | refine CallN.gen [true, false] _ _ _ rfl p3 rfl rfl _ rfl ?_ | refine CallN.gen [true, false] _ _ _ rfl p4 rfl rfl _ rfl ?_)) | (guard_target = CallN _ 57 _ _ _ _; refine CallN.gen [true, false] _ _ _ rfl q rfl rfl _ rfl ?_) | (guard_target = Arith _ _ _; refine Arith.fit (wrap_fit (by omega) (by omega)) ?_) | (guard_target = Arith _ _ _; refine Arith.fit (by apply wrap_fit <;> first | omega | (simp only [List.length_map]; omega)) ?_) | (guard_target = Arith _ _ _; refine Arith.fit (by decide) ?_) | (guard_target = Index _ _ _; first  | refine Index.mk _ (idx_map (by omega)) ?_) | (guard_target = Need (_ = true) _; refine Need.mk (by first | kernel_rfl | rfl) ?_) | (guard_target = GhO _ _ _ _; refine GhO.go ?_) | (guard_target = Need _ _; refine Need.mk (by first  | omega | (simp only [List.length_map]; omega)) ?_))
            all_goals first | rfl | exact ⟨rfl, trivial⟩ | (exfalso; simp at *; omega)
        · have q := pick_ok (pickS s 3) (hs3.mono (by omega)) hc3 2 i2
          have qb := pickV_in (pickS s 3) (n := 2) (by omega)
          have e : leafD ⟨gt, ga⟩ false s = (.mk (1 + pickV (pickS s 3) 2) 0 [], pickS (pickS s 3) 2) := by simp [leafD, leaf1, leaf0, g2, g1, h3]
          rw [e]
          simp only [genC]
          refine leaf_soft ?_
          refine callX_of_vc htb hm Tryz.func183 rfl rfl rfl rfl (ann := fun _ => none) (gh := fun _ => false) ?_
          repeat' ((conv => whnf); first | (guard_target = RetX _ _; refine RetX.mk ?_ ?_) | (guard_target = Branch _ _ _; (first | apply Branch.dec | apply Branch.beq | apply Branch.bne | apply Branch.ndec | apply Branch.nb | apply Branch.mk) <;> intro h <;> (try simp only [List.length_map] at h) <;> (try omega) <;> (try contradiction)) | (guard_target = CallN _ 78 _ _ _ _; refine CallN.gen [true, false] _ _ _ rfl p3 rfl rfl _ rfl ?_) | (guard_target = CallN _ 57 _ _ _ _; refine CallN.gen [true, false] _ _ _ rfl q rfl rfl _ rfl ?_) | (guard_target = Arith _ _ _; refine Arith.fit (wrap_fit (by omega) (by omega)) ?_) | (guard_target = Arith _ _ _; refine Arith.fit (by apply wrap_fit <;> first | omega | (simp only [List.length_map]; omega)) ?_) | (guard_target = Arith _ _ _; refine Arith.fit (by decide) ?_) | (guard_target = Index _ _ _; first  | refine Index.mk _ (idx_map (by omega)) ?_) | (guard_target = Need (_ = true) _; refine Need.mk (by first | kernel_rfl | rfl) ?_) | (guard_target = GhO _ _ _ _; refine GhO.go ?_) | (guard_target = Need _ _; refine Need.mk (by first  | omega | (simp only [List.length_map]; omega)) ?_))
          all_goals first | rfl | exact ⟨rfl, trivial⟩ | (exfalso; simp at *; omega)
    · clear p3 hs3 hc3
      by_cases g2 : gt > 0
      · have p4 := one_ok s (hs.mono (by omega)) hc 4 i4
        have hs4 : Rd (pickS s 4) 800004 := (hs.pick 4).mono (by omega)
        have hc4 : (pickS s 4).code.length ≤ 1000000 := by rw [pick_cd]; exact hc
        cases h4 : oneB s 4 with
        | false =>
          rw [h4] at p4
          have q := pick_ok (pickS s 4) (hs4.mono (by omega)) hc4 gt ht
          have e : leafD ⟨gt, ga⟩ false s = (.mk 3 (pickV (pickS s 4) gt) [], pickS (pickS s 4) gt) := by simp [leafD, leaf1, leaf0, g2, h4, g1]
          rw [e]
          simp only [genC]
          refine leaf_soft ?_
          refine callX_of_vc htb hm Tryz.func183 rfl rfl rfl rfl (ann := fun _ => none) (gh := fun _ => false) ?_
          repeat' ((conv => whnf); first | (guard_target = RetX _ _; refine RetX.mk ?_ ?_) | (guard_target = Branch _ _ _; (first | apply Branch.dec | apply Branch.beq | apply Branch.bne | apply Branch.ndec | apply Branch.nb | apply Branch.mk) <;> intro h <;> (try simp only [List.length_map] at h) <;> (try omega) <;> (try contradiction)) | (guard_target = CallN _ 78 _ _ _ _; refine CallN.gen [true, false] _ _ _ rfl p4 rfl rfl _ rfl ?_) | (guard_target = CallN _ 57 _ _ _ _; refine CallN.gen [true, false] _ _ _ rfl q rfl rfl _ rfl ?_) | (guard_target = Arith _ _ _; refine Arith.fit (wrap_fit (by omega) (by omega)) ?_) | (guard_target = Arith _ _ _; refine Arith.fit (by apply wrap_fit <;> first | omega | (simp only [List.length_map]; omega)) ?_) | (guard_target = Arith _ _ _; refine Arith.fit (by decide) ?_) | (guard_target = Index _ _ _; first  | refine Index.mk _ (idx_map (by omega)) ?_) | (guard_target = Need (_ = true) _; refine Need.mk (by first | kernel_rfl | rfl) ?_) | (guard_target = GhO _ _ _ _; refine GhO.go ?_) | (guard_target = Need _ _; refine Need.mk (by first  | omega | (simp only [List.length_map]; omega)) ?_))
          all_goals first | rfl | exact ⟨rfl, trivial⟩ | (exfalso; simp at *; omega)
        | true =>
          rw [h4] at p4
          have q := pick_ok (pickS s 4) (hs4.mono (by omega)) hc4 2 i2
          have qb := pickV_in (pickS s 4) (n := 2) (by omega)
          have e : leafD ⟨gt, ga⟩ false s = (.mk (1 + pickV (pickS s 4) 2) 0 [], pickS (pickS s 4) 2) := by simp [leafD, leaf1, leaf0, g2, h4, g1]
          rw [e]
          simp only [genC]
          refine leaf_soft ?_
          refine callX_of_vc htb hm Tryz.func183 rfl rfl rfl rfl (ann := fun _ => none) (gh := fun _ => false) ?_
          repeat' ((conv => whnf); first | (guard_target = RetX _ _; refine RetX.mk ?_ ?_) | (guard_target = Branch _ _ _; (first | apply Branch.dec | apply Branch.beq | apply Branch.bne | apply Branch.ndec | apply Branch.nb | apply Branch.mk) <;> intro h <;> (try simp only [List.length_map] at h) <;> (try omega) <;> (try contradiction)) | (guard_target = CallN _ 78 _ _ _ _; refine CallN.gen [true, false] _ _ _ rfl p4 rfl rfl _ rfl ?_) | (guard_target = CallN _ 57 _ _ _ _; refine CallN.gen [true, false] _ _ _ rfl q rfl rfl _ rfl ?_) | (guard_target = Arith _ _ _; refine Arith.fit (wrap_fit (by omega) (by omega)) ?_) | (guard_target = Arith _ _ _; refine Arith.fit (by apply wrap_fit <;> first | omega | (simp only [List.length_map]; omega)) ?_) | (guard_target = Arith _ _ _; refine Arith.fit (by decide) ?_) | (guard_target = Index _ _ _; first  | refine Index.mk _ (idx_map (by omega)) ?_) | (guard_target = Need (_ = true) _; refine Need.mk (by first | kernel_rfl | rfl) ?_) | (guard_target = GhO _ _ _ _; refine GhO.go ?_) | (guard_target = Need _ _; refine Need.mk (by first  | omega | (simp only [List.length_map]; omega)) ?_))
          all_goals first | rfl | exact ⟨rfl, trivial⟩ | (exfalso; simp at *; omega)
      · have q := pick_ok s (hs.mono (by omega)) hc 2 i2
        have qb := pickV_in s (n := 2) (by omega)
        have e : leafD ⟨gt, ga⟩ false s = (.mk (1 + pickV s 2) 0 [], pickS s 2) := by simp [leafD, leaf1, leaf0, g2, g1]
        rw [e]
        simp only [genC]
        refine leaf_soft ?_
        refine callX_of_vc htb hm Tryz.func183 rfl rfl rfl rfl (ann := fun _ => none) (gh := fun _ => false) ?_
        repeat' ((conv => whnf); first | (guard_target = RetX _ _; refine RetX.mk ?_ ?_) | (guard_target = Branch _ _ _; (first | apply Branch.dec | apply Branch.beq | apply Branch.bne | apply Branch.ndec | apply Branch.nb | apply Branch.mk) <;> intro h <;> (try simp only [List.length_map] at h) <;> (try omega) <;> (try contradiction)) | (guard_target = CallN _ 57 _ _ _ _; refine CallN.gen [true, false] _ _ _ rfl q rfl rfl _ rfl ?_) | (guard_target = Arith _ _ _; refine Arith.fit (wrap_fit (by omega) (by omega)) ?_) | (guard_target = Arith _ _ _; refine Arith.fit (by apply wrap_fit <;> first | omega | (simp only [List.length_map]; omega)) ?_) | (guard_target = Arith _ _ _; refine Arith.fit (by decide) ?_) | (guard_target = Index _ _ _; first  | refine Index.mk _ (idx_map (by omega)) ?_) | (guard_target = Need (_ = true) _; refine Need.mk (by first | kernel_rfl | rfl) ?_) | (guard_target = GhO _ _ _ _; refine GhO.go ?_) | (guard_target = Need _ _; refine Need.mk (by first  | omega | (simp only [List.length_map]; omega)) ?_))
        all_goals first | rfl | exact ⟨rfl, trivial⟩ | (exfalso; simp at *; omega)
end
end Go.Proofs.YtaajacnceocpoaaGreat
