/- Contract of the draws of conditions. No conditions but bounds of size. -/
import Derived.Test.YtaajacnceocpoaaGreatKAK
namespace Go.Proofs.YtaajacnceocpoaaGreat
open Go Go.KA Go.Proofs
set_option maxHeartbeats 16000000
set_option maxRecDepth 100000
section
variable (g : XSig) (hg : 0 ≤ g.tests ∧ g.tests ≤ 3 ∧ 0 ≤ g.actions ∧ g.actions ≤ 4)
include hg
theorem condE_cd (s : Src) : (condE g s).2.code = s.code := by
  have _ := hg
  unfold condE
  split
  · split
    · rw [exprE_cd]; simp [pick_cd]
    · split <;> simp [pick_cd]
  · rw [exprE_cd]
theorem cond_ok (left : Int) (s : Src) (n : Int) (hs : Rd s n) (hn : n ≤ 690000) (hc : s.code.length ≤ 1000000) :
    CallX Tryz.prog 119 [.c (.op (genC ⟨s, left⟩ g))] [some [.op (genC ⟨(condE g s).2, left⟩ g)]] (.a 3 (encExpr (condE g s).1)) := by
  have ht : I64 g.tests := by unfold I64; omega
  have i3 : I64 3 := by unfold I64; omega
  have hE := expr_ok g hg 3 3 true
  have e540 : costE 3 = 540 := rfl
  have ex : ∀ s : Src, Rd s (n + 2) → s.code.length ≤ 1000000 → CallX Tryz.prog 165 [.c (.op (genC ⟨s, 5⟩ g)), B true, I 3] [some [.op (genC (exprE g 3 true ⟨s, 5⟩).2 g)], none, none] (.a 3 (encExpr (exprE g 3 true ⟨s, 5⟩).1)) :=
    fun s h1 h2 => hE ⟨s, 5⟩ (n + 2) rfl ⟨h1, by omega, h2, by simp only []; omega, by simp only []; omega⟩ (by omega)
  clear hE
  obtain ⟨gt, ga⟩ := g
  simp only [] at hg ht
  by_cases g1 : gt > 0
  · have p3 := one_ok s (hs.mono (by omega)) hc 3 i3
    have hs3 : Rd (pickS s 3) (n + 2) := hs.pick 3
    have hc3 : (pickS s 3).code.length ≤ 1000000 := by rw [pick_cd]; exact hc
    cases h3 : oneB s 3 with
    | true =>
      rw [h3] at p3
      have ex := ex _ hs3 hc3
      have e : condE ⟨gt, ga⟩ s = ((exprE ⟨gt, ga⟩ 3 true ⟨pickS s 3, 5⟩).1, (exprE ⟨gt, ga⟩ 3 true ⟨pickS s 3, 5⟩).2.s) := by simp [condE, g1, h3]
      rw [e]
      generalize exprE ⟨gt, ga⟩ 3 true ⟨pickS s 3, 5⟩ = X at ex ⊢
      obtain ⟨⟨k1, n1, ks1⟩, ⟨s1, l1⟩⟩ := X
      simp only [genC] at ex ⊢
      refine callX_of_vc htb hm Tryz.func119 rfl rfl rfl rfl (ann := fun _ => none) (gh := fun _ => false) ?_
      repeat' ((conv => whnf); first | (guard_target = RetX _ _; refine RetX.mk ?_ ?_) | (guard_target = Branch _ _ _; (first | apply Branch.dec | apply Branch.beq | apply Branch.bne | apply Branch.ndec | apply Branch.nb | apply Branch.mk) <;> intro h <;> (try simp only [List.length_map] at h) <;> (try omega) <;> (try contradiction)) | (guard_target = CallN _ 78 _ _ _ _; refine CallN.gen [true, false] _ _ _ rfl p3 rfl rfl _ rfl ?_) | (guard_target = CallN _ 165 _ _ _ _; refine CallN.gen [true, false, false] _ _ _ rfl ex rfl rfl _ rfl ?_) | (guard_target = Index _ _ _; first  | refine Index.mk _ (idx_map (by omega)) ?_) | (guard_target = Need (_ = true) _; refine Need.mk (by first | kernel_rfl | rfl) ?_) | (guard_target = GhO _ _ _ _; refine GhO.go ?_) | (guard_target = Need _ _; refine Need.mk (by first  | omega | (simp only [List.length_map]; omega)) ?_))
      all_goals first | rfl | exact ⟨rfl, trivial⟩ | (exfalso; simp at *; omega)
    | false =>
      rw [h3] at p3
      have q := pick_ok (pickS s 3) (hs3.mono (by omega)) hc3 gt ht
      have hs4 : Rd (pickS (pickS s 3) gt) (n + 4) := (hs3.pick gt).mono (by omega)
      have hc4 : (pickS (pickS s 3) gt).code.length ≤ 1000000 := by rw [pick_cd]; exact hc3
      have p4 := one_ok (pickS (pickS s 3) gt) (hs4.mono (by omega)) hc4 3 i3
      have nt := l06Not_own 3 (pickV (pickS s 3) gt)
      have hpn : pureT (.a 3 (ownT (.mk 5 0 [.mk 3 (pickV (pickS s 3) gt) []]))) := notT_pure _ _
      cases h4 : oneB (pickS (pickS s 3) gt) 3 with
      | true =>
        rw [h4] at p4
        have e : condE ⟨gt, ga⟩ s = (.mk 5 0 [.mk 3 (pickV (pickS s 3) gt) []], pickS (pickS (pickS s 3) gt) 3) := by simp [condE, testE, g1, h3, h4]
        rw [e]
        refine CallX.soft ?_ (own_soft _)
        simp only [genC]
        refine callX_of_vc htb hm Tryz.func119 rfl rfl rfl rfl (ann := fun _ => none) (gh := fun _ => false) ?_
        repeat' ((conv => whnf); first | (guard_target = RetX _ _; refine RetX.mk ?_ ?_) | (guard_target = Branch _ _ _; (first | apply Branch.dec | apply Branch.beq | apply Branch.bne | apply Branch.ndec | apply Branch.nb | apply Branch.mk) <;> intro h <;> (try simp only [List.length_map] at h) <;> (try omega) <;> (try contradiction)) | (guard_target = CallN _ 78 _ _ _ _; (first | refine CallN.gen [true, false] _ _ _ rfl p3 rfl rfl _ rfl ?_ | refine CallN.gen [true, false] _ _ _ rfl p4 rfl rfl _ rfl ?_)) | (guard_target = CallN _ 57 _ _ _ _; refine CallN.gen [true, false] _ _ _ rfl q rfl rfl _ rfl ?_) | (guard_target = CallN _ 86 _ _ _ _; refine CallN.own _ _ rfl nt hpn _ rfl ?_) | (guard_target = Index _ _ _; first  | refine Index.mk _ (idx_map (by omega)) ?_) | (guard_target = Need (_ = true) _; refine Need.mk (by first | kernel_rfl | rfl) ?_) | (guard_target = GhO _ _ _ _; refine GhO.go ?_) | (guard_target = Need _ _; refine Need.mk (by first  | omega | (simp only [List.length_map]; omega)) ?_))
        all_goals first | rfl | exact ⟨rfl, trivial⟩ | (exfalso; simp at *; omega)
      | false =>
        rw [h4] at p4
        have e : condE ⟨gt, ga⟩ s = (.mk 3 (pickV (pickS s 3) gt) [], pickS (pickS (pickS s 3) gt) 3) := by simp [condE, testE, g1, h3, h4]
        rw [e]
        simp only [genC]
        refine leaf_soft ?_
        refine callX_of_vc htb hm Tryz.func119 rfl rfl rfl rfl (ann := fun _ => none) (gh := fun _ => false) ?_
        repeat' ((conv => whnf); first | (guard_target = RetX _ _; refine RetX.mk ?_ ?_) | (guard_target = Branch _ _ _; (first | apply Branch.dec | apply Branch.beq | apply Branch.bne | apply Branch.ndec | apply Branch.nb | apply Branch.mk) <;> intro h <;> (try simp only [List.length_map] at h) <;> (try omega) <;> (try contradiction)) | (guard_target = CallN _ 78 _ _ _ _; (first | refine CallN.gen [true, false] _ _ _ rfl p3 rfl rfl _ rfl ?_ | refine CallN.gen [true, false] _ _ _ rfl p4 rfl rfl _ rfl ?_)) | (guard_target = CallN _ 57 _ _ _ _; refine CallN.gen [true, false] _ _ _ rfl q rfl rfl _ rfl ?_) | (guard_target = Index _ _ _; first  | refine Index.mk _ (idx_map (by omega)) ?_) | (guard_target = Need (_ = true) _; refine Need.mk (by first | kernel_rfl | rfl) ?_) | (guard_target = GhO _ _ _ _; refine GhO.go ?_) | (guard_target = Need _ _; refine Need.mk (by first  | omega | (simp only [List.length_map]; omega)) ?_))
        all_goals first | rfl | exact ⟨rfl, trivial⟩ | (exfalso; simp at *; omega)
  · have ex := ex s (hs.mono (by omega)) hc
    have e : condE ⟨gt, ga⟩ s = ((exprE ⟨gt, ga⟩ 3 true ⟨s, 5⟩).1, (exprE ⟨gt, ga⟩ 3 true ⟨s, 5⟩).2.s) := by simp [condE, g1]
    rw [e]
    generalize exprE ⟨gt, ga⟩ 3 true ⟨s, 5⟩ = X at ex ⊢
    obtain ⟨⟨k1, n1, ks1⟩, ⟨s1, l1⟩⟩ := X
    simp only [genC] at ex ⊢
    refine callX_of_vc htb hm Tryz.func119 rfl rfl rfl rfl (ann := fun _ => none) (gh := fun _ => false) ?_
    repeat' ((conv => whnf); first | (guard_target = RetX _ _; refine RetX.mk ?_ ?_) | (guard_target = Branch _ _ _; (first | apply Branch.dec | apply Branch.beq | apply Branch.bne | apply Branch.ndec | apply Branch.nb | apply Branch.mk) <;> intro h <;> (try simp only [List.length_map] at h) <;> (try omega) <;> (try contradiction)) | (guard_target = CallN _ 165 _ _ _ _; refine CallN.gen [true, false, false] _ _ _ rfl ex rfl rfl _ rfl ?_) | (guard_target = Index _ _ _; first  | refine Index.mk _ (idx_map (by omega)) ?_) | (guard_target = Need (_ = true) _; refine Need.mk (by first | kernel_rfl | rfl) ?_) | (guard_target = GhO _ _ _ _; refine GhO.go ?_) | (guard_target = Need _ _; refine Need.mk (by first  | omega | (simp only [List.length_map]; omega)) ?_))
    all_goals first | rfl | exact ⟨rfl, trivial⟩ | (exfalso; simp at *; omega)
end
end Go.Proofs.YtaajacnceocpoaaGreat

namespace Go.Proofs.YtaajacnceocpoaaGreat
open Go Go.KA Go.Proofs
set_option maxHeartbeats 16000000
set_option maxRecDepth 100000
abbrev ownPT (x : XProg) : List CV := [J x.kind, J x.num, J x.cond.kind, J x.cond.num, .own 28 3 (x.cond.kids.map ownExpr), .own 31 6 (x.kids.map ownProg)]
theorem ownP_next {l : List XProg} {i : Nat} {rows : List (List CV)} (hi : i < l.length) (h : rows = (l.take i).map ownProg) : rows ++ [ownPT l[i]] = (l.take (i + 1)).map ownProg := by
  rw [take_map_next hi, h, ownProg_eq]
theorem l01Own_toldP (p : XProg) (hb : budExpr p.cond ≤ 1048576) : CallX Tryz.prog 84 [.c (.rp 4 ((toldP p).drop 2))] [] (.a 3 (ownT p.cond)) := by
  have h := l01Own_ok p.cond hb
  rw [encExpr_eq] at h
  exact h.cut (.cut (k := 3) (by omega) .nil)
theorem l06Own_all (x : XProg) (hl : budExpr x.cond ≤ 1048576 ∧ x.kids.length ≤ 1048576) (hx : ∀ k ∈ x.kids, CallX Tryz.prog 139 [.c (.rp 6 (encProg k))] [] (.a 6 (ownPT k))) : CallX Tryz.prog 139 [.c (.rp 6 (toldP x))] [] (.a 6 (ownPT x)) := by
  have hc := l01Own_toldP x hl.1
  refine callX_of_vc htb hm Tryz.func139 rfl rfl rfl rfl (ann := fun _ => none) (gh := fun _ => false) ?_
  repeat' ((conv => whnf); first | (guard_target = RetX _ _; refine RetX.mk ?_ ?_) | (guard_target =~ LoopE 3 _ _ _ _ _ _; refine LoopE.mk { α := Nat × List (List CV), keep := [0, 2, 3], ov := fun ⟨i, rows⟩ => [(4, I (i : Nat))], hv := fun ⟨i, rows⟩ => [(8, .cells [.c (J x.kind), .c (J x.num), .c (J x.cond.kind), .c (J x.cond.num), .lw 3, .lw 5]), (5, .orow none 31 6 rows)], φ := fun ⟨i, rows⟩ => i ≤ x.kids.length ∧ rows = (x.kids.take i).map ownProg, μ := fun ⟨i, rows⟩ => x.kids.length - i } (LoopN.mk ((0, []) : Nat × List (List CV)) (by exact ⟨Nat.zero_le _, rfl⟩) (by repeat' ((conv => whnf) <;> first | exact trivial | kernel_rfl | constructor)) (by repeat' ((conv => whnf) <;> first | exact trivial | kernel_rfl | constructor)) (by repeat' ((conv => whnf) <;> first | exact trivial | refine ⟨?_, ?_⟩ | exact rfl | (simp only [List.map_append, List.map_cons, List.map_nil, List.map_set]; first | done | rfl))) (fun A ha => ?_) (by intro A; first | rfl | (obtain ⟨_, _⟩ := A; rfl) | (obtain ⟨_, _, _⟩ := A; rfl))); obtain ⟨i, rows⟩ := A; have ha : i ≤ x.kids.length ∧ rows = (x.kids.take i).map ownProg := ha; have hrl : rows.length = i := (by rw [ha.2, List.length_map, List.length_take]; omega)) | (guard_target = Gh _ _ _ _ _; refine Gh.go ⟨((i + 1, rows ++ [ownPT x.kids[i]]) : Nat × List (List CV)), (by exact ⟨by show i + 1 ≤ _; omega, ownP_next (by omega) ha.2⟩), (by first | (show _ < _; simp only []; omega) | omega | (simp; omega)), (by repeat' ((conv => whnf) <;> first | exact trivial | kernel_rfl | constructor)), (by repeat' ((conv => whnf) <;> first | exact trivial | kernel_rfl | constructor)), (by repeat' ((conv => whnf) <;> first | exact trivial | refine ⟨?_, ?_⟩ | exact rfl | (simp only [List.map_append, List.map_cons, List.map_nil, List.map_set]; first | done | rfl)))⟩) | (guard_target = Fact _ _; refine Fact.mk fun hL => ?_; (try simp only [List.length_map, maxLen] at hL)) | (guard_target = Branch _ _ _; (first | apply Branch.dec | apply Branch.beq | apply Branch.bne | apply Branch.ndec | apply Branch.nb | apply Branch.mk) <;> intro h <;> (try simp only [List.length_map] at h) <;> (try omega) <;> (try contradiction)) | (guard_target = CallN _ 84 _ _ _ _; refine CallN.gen [] _ _ _ rfl (hc) rfl rfl _ rfl ?_) | (guard_target = CallN _ 139 _ _ _ _; refine CallN.gen [] _ _ _ rfl (hx _ (List.getElem_mem (by omega))) rfl rfl _ rfl ?_) | (guard_target = Arith _ _ _; refine Arith.fit (by apply wrap_fit <;> first | omega | (simp only [List.length_map]; omega)) ?_) | (guard_target = Arith _ _ _; refine Arith.fit (by decide) ?_) | (guard_target = Index _ _ _; first | refine Index.mk _ (idx_map (i := i) (by omega)) ?_ | refine Index.mk _ (idx_map (by omega)) ?_) | (guard_target = Need (_ = true) _; refine Need.mk (by first | kernel_rfl | rfl) ?_) | (guard_target = LinkV _ _ _; refine LinkV.no ?_) | (guard_target = GhO _ _ _ _; refine GhO.go ?_) | (guard_target = Need _ _; refine Need.mk (by first | ((simp only [List.length_cons, List.length_nil, maxLen]; constructor <;> omega)) | omega | (simp only [List.length_map]; omega)) ?_))
  all_goals first | rfl | trivial | (have h9 := ha.2; rw [List.take_of_length_le (by omega)] at h9; rw [h9]; rfl)
theorem l06Own_ok (x : XProg) (hb : budProg x ≤ 1048576) : CallX Tryz.prog 139 [.c (.rp 6 (encProg x))] [] (.a 6 (ownPT x)) := by
  rw [encProg_eq]
  have h1 : budExpr x.cond + budS budProg x.kids ≤ budProg x := by
    cases x
    simp only [budProg, budProgS_eq, XProg.kids, XProg.cond]
    exact Nat.le_refl _
  exact l06Own_all x ⟨by omega, by have := budS_len budProg x.kids; omega⟩ fun k _hk => l06Own_ok k (by have := budS_mem budProg _hk; omega)
  termination_by SizeOf.sizeOf x
  decreasing_by
    have := List.sizeOf_lt_of_mem _hk
    cases x
    simp only [XProg.mk.sizeOf_spec]
    show SizeOf.sizeOf k < _
    simp only [XProg.kids] at this
    omega
theorem ownPT_ro (x : XProg) : roL (ownPT x) = encProg x := by
  have := roProg x
  rwa [ownProg_eq] at this
theorem l06Own_ro (x : XProg) (hb : budProg x ≤ 1048576) : CallX Tryz.prog 139 [.c (.rp 6 (encProg x))] [] (.a 6 (encProg x)) := by
  have h : SoftT (.a 6 (ownPT x)) (.a 6 (encProg x)) := by
    rw [← ownPT_ro]
    exact .v (.a (SoftN.roL _))
  exact (l06Own_ok x hb).soft h
theorem progN_soft {P : Program} {f : Nat} {args : List SV} {outs : List (Option (List CV))} {k n c1 c2 : Int} {cs : List XExpr} (h : CallX P f args outs (.a 6 [J k, J n, J c1, J c2, .ro 3 (cs.map encExpr), .ows 31 6 []])) : CallX P f args outs (.a 6 (encProg (.mk k n (.mk c1 c2 cs) []))) := by
  rw [encProg_eq]
  exact h.soft (.v (.a (.same (.same (.same (.same (.same (.ro .nil))))))))
theorem progL_soft {P : Program} {f : Nat} {args : List SV} {outs : List (Option (List CV))} {k n : Int} (h : CallX P f args outs (.a 6 [J k, J n, J 0, J 0, .ows 28 3 [], .ows 31 6 []])) : CallX P f args outs (.a 6 (encProg (.mk k n noE []))) := by
  rw [encProg_eq]
  exact h.soft (.v (.a (.same (.same (.same (.same (.ro (.ro .nil))))))))
theorem l06Skip_ok : CallX Tryz.prog 32 [] [] (.a 6 (encProg (.mk 1 0 noE []))) := by
  refine progL_soft ?_
  refine callX_of_vc htb hm Tryz.func32 rfl rfl rfl rfl (ann := fun _ => none) (gh := fun _ => false) ?_
  repeat' ((conv => whnf); first | (guard_target = RetX _ _; refine RetX.mk ?_ ?_) | (guard_target = Index _ _ _; first  | refine Index.mk _ (idx_map (by omega)) ?_) | (guard_target = Need _ _; refine Need.mk (by first  | omega | (simp only [List.length_map]; omega)) ?_))
  all_goals first | rfl | trivial
theorem l06Seq_ok (a b : XProg) (ha : budProg a ≤ 1048576) (hb : budProg b ≤ 1048576) : CallX Tryz.prog 147 [.a 6 (encProg a), .a 6 (encProg b)] [] (.a 6 (encProg (.mk 5 0 noE [a, b]))) := by
  have p := l06Own_ro a ha
  have q := l06Own_ro b hb
  have h : CallX Tryz.prog 147 [.a 6 (encProg a), .a 6 (encProg b)] [] (.a 6 [J 5, J 0, J 0, J 0, .ows 28 3 [], .ows 31 6 [encProg a, encProg b]]) := by
    obtain ⟨a1, a2, ⟨a3, a4, a5⟩, a6⟩ := a
    obtain ⟨b1, b2, ⟨b3, b4, b5⟩, b6⟩ := b
    refine callX_of_vc htb hm Tryz.func147 rfl rfl rfl rfl (ann := fun _ => none) (gh := fun reg_ => match reg_ with | 1 => true | _ => false) ?_
    repeat' ((conv => whnf); first | (guard_target = RetX _ _; refine RetX.mk ?_ ?_) | (guard_target = Gh _ _ _ _ _; refine Gh.frzp 0 _ rfl (Gh.frzp 1 _ rfl (Gh.go ?_))) | (guard_target = CallN _ 139 _ _ _ _; (first | refine CallN.gen [] _ _ _ rfl p rfl rfl _ rfl ?_ | refine CallN.gen [] _ _ _ rfl q rfl rfl _ rfl ?_)) | (guard_target = Index _ _ _; first  | refine Index.mk _ (idx_map (by omega)) ?_) | (guard_target = GhO _ _ _ _; refine GhO.go ?_) | (guard_target = Need _ _; refine Need.mk (by first  | omega | (simp only [List.length_map]; omega)) ?_))
    all_goals first | rfl | trivial
  rw [encProg_eq (.mk 5 0 noE [a, b])]
  exact h.soft (.v (.a (.same (.same (.same (.same (.ro (.ro .nil))))))))
theorem l06If_ok (c : XExpr) (a b : XProg) (hc : budExpr c ≤ 1048576) (ha : budProg a ≤ 1048576) (hb : budProg b ≤ 1048576) : CallX Tryz.prog 148 [.a 3 (encExpr c), .a 6 (encProg a), .a 6 (encProg b)] [] (.a 6 (encProg (.mk 6 0 c [a, b]))) := by
  have r := l01Own_ro c hc
  have p := l06Own_ro a ha
  have q := l06Own_ro b hb
  obtain ⟨c1, c2, c3⟩ := c
  rw [enc_mk] at r ⊢
  have h : CallX Tryz.prog 148 [.a 3 [J c1, J c2, .ro 3 (c3.map encExpr)], .a 6 (encProg a), .a 6 (encProg b)] [] (.a 6 [J 6, J 0, J c1, J c2, .ro 3 (c3.map encExpr), .ows 31 6 [encProg a, encProg b]]) := by
    obtain ⟨a1, a2, ⟨a3, a4, a5⟩, a6⟩ := a
    obtain ⟨b1, b2, ⟨b3, b4, b5⟩, b6⟩ := b
    refine callX_of_vc htb hm Tryz.func148 rfl rfl rfl rfl (ann := fun _ => none) (gh := fun reg_ => match reg_ with | 1 => true | _ => false) ?_
    repeat' ((conv => whnf); first | (guard_target = RetX _ _; refine RetX.mk ?_ ?_) | (guard_target = Gh _ _ _ _ _; refine Gh.frzp 0 _ rfl (Gh.frzp 1 _ rfl (Gh.frzp 2 _ rfl (Gh.go ?_)))) | (guard_target = CallN _ 84 _ _ _ _; refine CallN.gen [] _ _ _ rfl r rfl rfl _ rfl ?_) | (guard_target = CallN _ 139 _ _ _ _; (first | refine CallN.gen [] _ _ _ rfl p rfl rfl _ rfl ?_ | refine CallN.gen [] _ _ _ rfl q rfl rfl _ rfl ?_)) | (guard_target = Index _ _ _; first  | refine Index.mk _ (idx_map (by omega)) ?_) | (guard_target = GhO _ _ _ _; refine GhO.go ?_) | (guard_target = Need _ _; refine Need.mk (by first  | omega | (simp only [List.length_map]; omega)) ?_))
    all_goals first | rfl | trivial
  rw [encProg_eq (.mk 6 0 (.mk c1 c2 c3) [a, b])]
  exact h.soft (.v (.a (.same (.same (.same (.same (.same (.ro .nil))))))))
theorem l06While_ok (c : XExpr) (a : XProg) (hc : budExpr c ≤ 1048576) (ha : budProg a ≤ 1048576) : CallX Tryz.prog 149 [.a 3 (encExpr c), .a 6 (encProg a)] [] (.a 6 (encProg (.mk 7 0 c [a]))) := by
  have r := l01Own_ro c hc
  have p := l06Own_ro a ha
  obtain ⟨c1, c2, c3⟩ := c
  rw [enc_mk] at r ⊢
  have h : CallX Tryz.prog 149 [.a 3 [J c1, J c2, .ro 3 (c3.map encExpr)], .a 6 (encProg a)] [] (.a 6 [J 7, J 0, J c1, J c2, .ro 3 (c3.map encExpr), .ows 31 6 [encProg a]]) := by
    obtain ⟨a1, a2, ⟨a3, a4, a5⟩, a6⟩ := a
    refine callX_of_vc htb hm Tryz.func149 rfl rfl rfl rfl (ann := fun _ => none) (gh := fun reg_ => match reg_ with | 1 => true | _ => false) ?_
    repeat' ((conv => whnf); first | (guard_target = RetX _ _; refine RetX.mk ?_ ?_) | (guard_target = Gh _ _ _ _ _; refine Gh.frzp 0 _ rfl (Gh.frzp 1 _ rfl (Gh.go ?_))) | (guard_target = CallN _ 84 _ _ _ _; refine CallN.gen [] _ _ _ rfl r rfl rfl _ rfl ?_) | (guard_target = CallN _ 139 _ _ _ _; refine CallN.gen [] _ _ _ rfl p rfl rfl _ rfl ?_) | (guard_target = Index _ _ _; first  | refine Index.mk _ (idx_map (by omega)) ?_) | (guard_target = GhO _ _ _ _; refine GhO.go ?_) | (guard_target = Need _ _; refine Need.mk (by first  | omega | (simp only [List.length_map]; omega)) ?_))
    all_goals first | rfl | trivial
  rw [encProg_eq (.mk 7 0 (.mk c1 c2 c3) [a])]
  exact h.soft (.v (.a (.same (.same (.same (.same (.same (.ro .nil))))))))
end Go.Proofs.YtaajacnceocpoaaGreat
