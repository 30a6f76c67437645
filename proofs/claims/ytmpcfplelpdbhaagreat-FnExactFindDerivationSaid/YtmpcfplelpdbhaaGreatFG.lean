/- Plain laws: valid things are small; how many nodes a derivation that is found has. No conditions but bounds of size. -/
import Derived.Test.YtmpcfplelpdbhaaGreatFF
namespace Go.Proofs.YtmpcfplelpdbhaaGreat
open Go Go.KA Go.Proofs
set_option maxHeartbeats 16000000
set_option maxRecDepth 100000
/-! ### valid things are small -/
mutual
theorem left_bud : ∀ (e : XExpr) (n : Int), 0 ≤ leftE e n → leftE e n + budExpr e + 1 ≤ n
  | .mk k m ks, n, h => by
    rw [leftE] at h ⊢
    have := lefts_bud ks (n - 1) h
    rw [budExpr]
    omega
theorem lefts_bud : ∀ (l : List XExpr) (n : Int), 0 ≤ leftS l n → leftS l n + budExprS l ≤ n
  | [], n, h => by simp [leftS, budExprS]
  | x :: xs, n, h => by
    rw [leftS] at h ⊢
    by_cases hn : n < 0
    · rw [if_pos hn] at h; omega
    · rw [if_neg hn] at h ⊢
      have h1 := lefts_bud xs _ h
      by_cases h2 : 0 ≤ leftE x n
      · have := left_bud x n h2
        rw [budExprS]
        omega
      · rw [leftS_neg (by omega)] at h
        omega
end
theorem goodE_bud {t a : Int} {e : XExpr} (h : goodE t a e = true) : budExpr e ≤ 200 := by
  unfold goodE at h
  simp only [Bool.and_eq_true, decide_eq_true_eq] at h
  have := left_bud e 200 h.1
  omega
theorem condG_bud {t a : Int} {e : XExpr} (h : condG t a e = true) : budExpr e ≤ 200 := by
  unfold condG at h
  simp only [Bool.and_eq_true] at h
  exact goodE_bud h.1
theorem noneB_bud {e : XExpr} (h : noneB e = true) : budExpr e = 0 := by
  unfold noneB at h
  simp only [Bool.and_eq_true, beq_iff_eq] at h
  have : e.kids = [] := List.length_eq_zero_iff.1 (by omega)
  cases e
  simp only [XExpr.kids] at this
  rw [this]
  simp [budExpr, budExprS]
theorem pnode_bud {t a k n : Int} {c : XExpr} (h : pnode t a k n c = true) : budExpr c ≤ 200 := by
  unfold pnode at h
  simp only [Bool.and_eq_true] at h
  have h2 := h.2
  split at h2
  · exact condG_bud h2
  · rw [noneB_bud h2]; omega
mutual
theorem pl_bud {t a : Int} : ∀ (p : XProg) (n : Int), ptE t a p = true → 0 ≤ plE p n → 201 * plE p n + budProg p + 1 ≤ 201 * n
  | .mk k m c ks, n, hp, h => by
    rw [ptE_eq] at hp
    simp only [Bool.and_eq_true, XProg.kids, XProg.kind, XProg.num, XProg.cond] at hp
    rw [plE] at h ⊢
    have h1 := pls_bud ks (n - 1) (by rw [ptS_all]; exact hp.2.2) h
    have h2 := pnode_bud hp.2.1
    rw [budProg]
    omega
theorem pls_bud {t a : Int} : ∀ (l : List XProg) (n : Int), ptS t a l = true → 0 ≤ plS l n → 201 * plS l n + budProgS l ≤ 201 * n
  | [], n, _, h => by simp [plS, budProgS]
  | x :: xs, n, hp, h => by
    rw [plS] at h ⊢
    rw [ptS, Bool.and_eq_true] at hp
    by_cases hn : n < 0
    · rw [if_pos hn] at h; omega
    · rw [if_neg hn] at h ⊢
      have h1 := pls_bud xs _ hp.2 h
      by_cases h2 : 0 ≤ plE x n
      · have := pl_bud x n hp.1 h2
        rw [budProgS]
        omega
      · rw [plS_neg (by omega)] at h
        omega
end
theorem goodP_bud {t a : Int} {p : XProg} (h : goodP t a p = true) : budProg p ≤ 12060 := by
  unfold goodP at h
  simp only [Bool.and_eq_true, decide_eq_true_eq] at h
  have := pl_bud p 60 h.2.2 h.1
  omega
theorem goodT_bud {t a : Int} {x : XTriple} (h : goodT t a x = true) : budExpr x.pre ≤ 200 ∧ budProg x.prog ≤ 12060 ∧ budExpr x.post ≤ 200 := by
  unfold goodT at h
  simp only [Bool.and_eq_true] at h
  exact ⟨condG_bud h.2.1, goodP_bud h.1, condG_bud h.2.2⟩
/-! ### how many nodes are found -/
theorem sizeL_map {α : Type} (f : α → XDerivation) (hf : ∀ x, sizeD (f x) = 1) : ∀ l : List α, sizeL (l.map f) = l.length
  | [] => rfl
  | x :: xs => by simp only [List.map_cons, sizeL, hf, sizeL_map f hf xs, List.length_cons]; omega
theorem find_size (t : Int) (N : Nat) (l : List XPremise) (hl : l.length ≤ 12) : ∀ (p : XProg) (c : XExpr), (1 ≤ p.kind ∧ p.kind ≤ 7) → (p.kids.length : Int) = pkN p.kind → (∀ k ∈ p.kids, ∀ c, sizeD (findD t N l k c) ≤ 14 * (budProg k + 1)) → sizeD (findD t N l p c) ≤ 14 * (budProg p + 1) := by
  intro p c hk hlen hx
  have hb : budS budProg p.kids ≤ budProg p := by
    cases p
    simp only [budProg, budProgS_eq, XProg.kids]
    omega
  have hkid : ∀ i, i < p.kids.length → ∀ c, sizeD (findD t N l (p.kids.getD i nilP) c) ≤ 14 * (budProg (p.kids.getD i nilP) + 1) := fun i hi c => by
    rw [kid_getD hi]; exact hx _ (List.getElem_mem hi) c
  have h2 : p.kids.length = 2 → budProg (p.kids.getD 0 nilP) + budProg (p.kids.getD 1 nilP) + 2 ≤ budProg p := fun h => by
    match hks : p.kids, h with
    | [x, y], _ =>
      rw [hks] at hb
      simp only [budS, bsum, List.length_cons, List.length_nil] at hb
      show budProg x + budProg y + 2 ≤ _
      omega
  have h1 : p.kids.length = 1 → budProg (p.kids.getD 0 nilP) + 1 ≤ budProg p := fun h => by
    match hks : p.kids, h with
    | [x], _ =>
      rw [hks] at hb
      simp only [budS, bsum, List.length_cons, List.length_nil] at hb
      show budProg x + 1 ≤ _
      omega
  unfold pkN at hlen
  have e : p.kind = 1 ∨ p.kind = 2 ∨ p.kind = 3 ∨ p.kind = 4 ∨ p.kind = 5 ∨ p.kind = 6 ∨ p.kind = 7 := by omega
  rcases e with e | e | e | e | e | e | e
  · rw [find1 rfl e]; simp only [sizeD, sizeL]; omega
  · rw [find2 rfl e]; simp only [sizeD, sizeL]; omega
  · rw [find3 rfl e]
    have h3 : sizeL (actsD l p) ≤ 12 := by
      unfold actsD
      rw [sizeL_map _ fun x => by simp [sizeD, sizeL]]
      exact Nat.le_trans (List.length_filter_le _ _) hl
    simp only [sizeD]; omega
  · rw [find4 rfl e]; simp only [sizeD, sizeL]; omega
  · rw [e] at hlen
    have hl2 : p.kids.length = 2 := by simp at hlen; omega
    rw [find5 rfl e hl2 rfl rfl rfl]
    have := hkid 0 (by omega) (weakE t N l (p.kids.getD 1 nilP) c)
    have := hkid 1 (by omega) c
    have := h2 hl2
    simp only [sizeD, sizeL]; omega
  · rw [e] at hlen
    have hl2 : p.kids.length = 2 := by simp at hlen; omega
    rw [find6 rfl e hl2 rfl rfl]
    have := hkid 0 (by omega) c
    have := hkid 1 (by omega) c
    have := h2 hl2
    simp only [sizeD, sizeL]; omega
  · rw [e] at hlen
    have hl2 : p.kids.length = 1 := by simp at hlen; omega
    rw [find7 rfl e hl2 rfl]
    have := hkid 0 (by omega) (weakE t N l p c)
    have := h1 hl2
    simp only [sizeD, sizeL]; omega
theorem find_sz (t a : Int) (N : Nat) (l : List XPremise) (hl : l.length ≤ 12) (p : XProg) (hp : POk t a p) (c : XExpr) : sizeD (findD t N l p c) ≤ 14 * (budProg p + 1) :=
  find_size t N l hl p c hp.kind hp.len.1 fun k _hk c => find_sz t a N l hl k (hp.kid _hk) c
  termination_by SizeOf.sizeOf p
  decreasing_by
    have := List.sizeOf_lt_of_mem _hk
    cases p
    simp only [XProg.mk.sizeOf_spec]
    show SizeOf.sizeOf k < _
    simp only [XProg.kids] at this
    omega
end Go.Proofs.YtmpcfplelpdbhaaGreat

namespace Go.Proofs.YtmpcfplelpdbhaaGreat
open Go Go.KA Go.Proofs
set_option maxHeartbeats 16000000
set_option maxRecDepth 100000
/-! ### copies of derivations -/
abbrev ownDT (e : XDerivation) : List CV := [J e.rule, J e.says.pre.kind, J e.says.pre.num, .own 37 3 (e.says.pre.kids.map ownExpr), J e.says.prog.kind, J e.says.prog.num, J e.says.prog.cond.kind, J e.says.prog.cond.num, .own 37 3 (e.says.prog.cond.kids.map ownExpr), .own 40 6 (e.says.prog.kids.map ownProg), J e.says.post.kind, J e.says.post.num, .own 37 3 (e.says.post.kids.map ownExpr), .own 45 14 (e.kids.map ownDerivation)]
theorem ownD_next {l : List XDerivation} {i : Nat} {rows : List (List CV)} (hi : i < l.length) (h : rows = (l.take i).map ownDerivation) : rows ++ [ownDT l[i]] = (l.take (i + 1)).map ownDerivation := by
  rw [take_map_next hi, h, ownDerivation_eq]
theorem copyD_all (x : XDerivation) (hl : budExpr x.says.pre ≤ 1048576 ∧ budProg x.says.prog ≤ 1048576 ∧ budExpr x.says.post ≤ 1048576 ∧ x.kids.length ≤ 1048576) (hx : ∀ k ∈ x.kids, CallX Tryz.prog 46 [.a 14 (encDerivation k)] [] (.a 14 (ownDT k))) : CallX Tryz.prog 46 [.a 14 (toldD x)] [] (.a 14 (ownDT x)) := by
  have hc := copyExpr_told x.says.pre hl.1
  have hc2 := copyExpr_told x.says.post hl.2.2.1
  have hp := copyProg_ok x.says.prog hl.2.1
  rw [encProg_eq] at hp
  refine callX_of_vc htb hm Tryz.func46 rfl rfl rfl rfl (ann := fun _ => none) (gh := fun _ => false) ?_
  repeat' ((conv => whnf); first | (guard_target = Done _; refine Done.mk ?_) | (guard_target = RetX _ _; refine RetX.mk ?_ ?_) | (guard_target =~ LoopE 3 _ _ _ _ _ _; refine LoopE.mk { α := Nat × List (List CV), keep := [2, 3, 23, 24], ov := fun ⟨i, rows⟩ => [(25, I (i : Nat))], hv := fun ⟨i, rows⟩ => [(25, .cells [.c (J x.rule), .c (J x.says.pre.kind), .c (J x.says.pre.num), .lw 7, .c (J x.says.prog.kind), .c (J x.says.prog.num), .c (J x.says.prog.cond.kind), .c (J x.says.prog.cond.num), .lw 8, .lw 9, .c (J x.says.post.kind), .c (J x.says.post.num), .lw 10, .lw 19]), (19, .orow none 45 14 rows)], φ := fun ⟨i, rows⟩ => i ≤ x.kids.length ∧ rows = (x.kids.take i).map ownDerivation, μ := fun ⟨i, rows⟩ => x.kids.length - i } (LoopN.mk ((0, []) : Nat × List (List CV)) (by exact ⟨Nat.zero_le _, rfl⟩) (by (repeat' ((conv => whnf) <;> (first | exact trivial | refine ⟨?_, ?_⟩ | kernel_rfl))); done) (by (repeat' ((conv => whnf) <;> (first | exact trivial | refine ⟨?_, ?_⟩ | kernel_rfl))); done) (by (repeat' ((conv => whnf) <;> (first | exact trivial | refine ⟨?_, ?_⟩ | kernel_rfl))); done) (fun A ha => ?_) (by intro A; first | rfl | (obtain ⟨_, _⟩ := A; rfl) | (obtain ⟨_, _, _⟩ := A; rfl))); obtain ⟨i, rows⟩ := A; have ha : i ≤ x.kids.length ∧ rows = (x.kids.take i).map ownDerivation := ha; have hrl : rows.length = i := (by rw [ha.2, List.length_map, List.length_take]; omega)) | (guard_target = Gh _ _ _ _ _; refine Gh.go ⟨((i + 1, rows ++ [ownDT x.kids[i]]) : Nat × List (List CV)), (by exact ⟨by show i + 1 ≤ _; omega, ownD_next (by omega) ha.2⟩), (by first | (show _ < _; simp only []; omega) | omega | (simp; omega)), (by (repeat' ((conv => whnf) <;> (first | exact trivial | refine ⟨?_, ?_⟩ | kernel_rfl))); done), (by (repeat' ((conv => whnf) <;> (first | exact trivial | refine ⟨?_, ?_⟩ | kernel_rfl))); done), (by (repeat' ((conv => whnf) <;> (first | exact trivial | refine ⟨?_, ?_⟩ | kernel_rfl))); done)⟩) | (guard_target = Fact _ _; refine Fact.mk fun hL => ?_; (try simp only [List.length_map, maxLen] at hL)) | (guard_target = Branch _ _ _; (first | refine Branch.dec ?_ ?_ | refine Branch.beq ?_ ?_ | refine Branch.bne ?_ ?_ | refine Branch.ndec ?_ ?_ | refine Branch.nb ?_ ?_ | refine Branch.mk ?_ ?_) <;> intro h <;> (try simp only [List.length_map] at h) <;> (try omega) <;> (try contradiction)) | (guard_target = CallN _ 111 _ _ _ _; refine CallN.gen [] _ _ _ rfl (hc) rfl rfl _ rfl ?_) | (guard_target = CallN _ 111 _ _ _ _; refine CallN.gen [] _ _ _ rfl (hc2) rfl rfl _ rfl ?_) | (guard_target = CallN _ 112 _ _ _ _; refine CallN.gen [] _ _ _ rfl (hp) rfl rfl _ rfl ?_) | (guard_target = CallN _ 46 _ _ _ _; refine CallN.gen [] _ _ _ rfl (hx _ (List.getElem_mem (by omega))) rfl rfl _ rfl ?_) | (guard_target = Arith _ _ _; refine Arith.fit (wrap_fit (by first | omega | (simp only [List.length_map]; omega)) (by first | omega | (simp only [List.length_map]; omega))) ?_) | (guard_target = Arith _ _ _; refine Arith.fit (by decide) ?_) | (guard_target = Index _ _ _; first | refine Index.mk _ (idx_map (i := i) (by omega)) ?_ | refine Index.mk _ (idx_map (by omega)) ?_) | (guard_target = Need (_ = true) _; refine Need.mk (by first | kernel_rfl | rfl) ?_) | (guard_target = LinkV _ _ _; first  | refine LinkV.no ?_) | (guard_target = GhO _ _ _ _; refine GhO.go ?_) | (guard_target = Need _ _; refine Need.mk (by first | ((simp only [List.length_cons, List.length_nil, maxLen]; constructor <;> omega)) | omega | (simp only [List.length_map]; omega)) ?_))
  rotate_left; trivial
  have h9 := ha.2
  rw [List.take_of_length_le (by omega)] at h9
  rw [h9]
  exact congrArg (SV.a 14) (Eq.refl (ownDT x))
theorem kids_size {d : XDerivation} (h : sizeD d ≤ 400) : d.kids.length ≤ 400 ∧ ∀ k ∈ d.kids, sizeD k ≤ 400 := by
  rw [sizeD_eq] at h
  refine ⟨?_, fun k hk => by have := sizeD_mem hk; omega⟩
  have : ∀ l : List XDerivation, l.length ≤ sizeL l := by
    intro l
    induction l with
    | nil => exact Nat.le_refl _
    | cons x xs ih =>
      have := sizeD_eq x
      simp only [List.length_cons, sizeL]
      omega
  have := this d.kids
  omega
theorem copyD_ok (t a : Int) (x : XDerivation) (h1 : sizeD x ≤ 400) (h2 : sayD t a x = true) : CallX Tryz.prog 46 [.a 14 (encDerivation x)] [] (.a 14 (ownDT x)) := by
  rw [encDerivation_eq]
  have hk := kids_size h1
  rw [sayD_eq, Bool.and_eq_true, List.all_eq_true] at h2
  have hg := goodT_bud h2.2
  exact copyD_all x ⟨by omega, by omega, by omega, by omega⟩ fun k _hk => copyD_ok t a k (hk.2 k _hk) (h2.1 k _hk)
  termination_by SizeOf.sizeOf x
  decreasing_by
    have := List.sizeOf_lt_of_mem _hk
    cases x
    simp only [XDerivation.mk.sizeOf_spec]
    show SizeOf.sizeOf k < _
    simp only [XDerivation.kids] at this
    omega
end Go.Proofs.YtmpcfplelpdbhaaGreat

namespace Go.Proofs.YtmpcfplelpdbhaaGreat
open Go Go.KA Go.Proofs
set_option maxHeartbeats 16000000
set_option maxRecDepth 100000
theorem zero_upD {P : Program} {f : Nat} {args : List SV} {c : Int} (h : CallX P f args [] (.tup [.a 14 [J 0, J 0, J 0, .ows 37 3 [], J 0, J 0, J 0, J 0, .ows 37 3 [], .ows 40 6 [], J 0, J 0, .ows 37 3 [], .ows 45 14 []], I c])) : CallX P f args [] (.tup [.a 14 (ownDT nilD), I c]) :=
  CallX.ownUp h (.same (.same (.same (.up (.same (.same (.same (.same (.up (.up (.same (.same (.up (.up .nil))))))))))))))
theorem premOk {t a : Int} {l : List XPremise} (h : goodL t a l = true) : PremOk t a l ∧ l.length ≤ 12 := by
  unfold goodL at h
  simp only [Bool.and_eq_true, decide_eq_true_eq, List.all_eq_true] at h
  refine ⟨fun x hx => ?_, h.1⟩
  have := h.2 x hx
  unfold goodPr at this
  simp only [Bool.and_eq_true] at this
  exact ⟨condG_ok this.1, condG_ok this.2.1⟩
theorem tripOk {t a : Int} {x : XTriple} (h : goodT t a x = true) : okC t a x.pre ∧ POk t a x.prog ∧ okC t a x.post := by
  unfold goodT at h
  simp only [Bool.and_eq_true] at h
  refine ⟨condG_ok h.2.1, ⟨?_⟩, condG_ok h.2.2⟩
  have h1 := h.1
  unfold goodP at h1
  simp only [Bool.and_eq_true] at h1
  exact h1.2.2
section
variable (t a : Int) (l : List XPremise) (x : XTriple)
abbrev argsD (t a : Int) (l : List XPremise) (x : XTriple) : List SV := [.a 2 [J t, J a], .c (.ro 7 (l.map encPremise)), .a 12 (encTriple x)]
theorem implFD_inv (h : ((goodSig t a && goodL t a l) && goodT t a x) = false) : CallX Tryz.prog 11 (argsD t a l x) [] (.tup [.a 14 (ownDT nilD), I 1]) := by
  have h1 := ValidPremises_ok t a l
  have h2 := ValidTriple_ok t a x
  refine zero_upD ?_
  cases hs : goodSig t a && goodL t a l with
  | true =>
    rw [hs] at h1 h
    have hsg : goodSig t a = true := (Bool.and_eq_true _ _ ▸ hs).1
    rw [Bool.true_and] at h
    rw [hsg, h] at h2
    refine callX_of_vc htb hm Tryz.func11 rfl rfl rfl rfl (ann := fun _ => none) (gh := fun _ => false) ?_
    repeat' ((conv => whnf); first | (guard_target = Done _; refine Done.mk ?_) | (guard_target = RetX _ _; refine RetX.mk ?_ ?_) | (guard_target = Fact _ _; refine Fact.mk fun hL => ?_; (try simp only [List.length_map, maxLen] at hL)) | (guard_target = Branch _ _ _; (first | refine Branch.dec ?_ ?_ | refine Branch.beq ?_ ?_ | refine Branch.bne ?_ ?_ | refine Branch.ndec ?_ ?_ | refine Branch.nb ?_ ?_ | refine Branch.mk ?_ ?_) <;> intro h <;> (try simp only [] at h) <;> (try omega) <;> (try contradiction)) | (guard_target = CallN _ 39 _ _ _ _; refine CallN.pure _ _ rfl (h1) rfl _ rfl ?_) | (guard_target = CallN _ 40 _ _ _ _; refine CallN.pure _ _ rfl (h2) rfl _ rfl ?_) | (guard_target = Arith _ _ _; refine Arith.fit (wrap_fit (by first | omega | (simp only [List.length_map]; omega)) (by first | omega | (simp only [List.length_map]; omega))) ?_) | (guard_target = Arith _ _ _; refine Arith.fit (by decide) ?_) | (guard_target = Index _ _ _; first  | refine Index.mk _ (idx_map (by omega)) ?_) | (guard_target = Need (_ = true) _; refine Need.mk (by first | kernel_rfl | rfl) ?_) | (guard_target = LinkV _ _ _; first  | refine LinkV.no ?_) | (guard_target = GhO _ _ _ _; refine GhO.go ?_) | (guard_target = Need _ _; refine Need.mk (by first  | omega | (simp only [List.length_map]; omega)) ?_))
    all_goals first | rfl | trivial
  | false =>
    rw [hs] at h1
    refine callX_of_vc htb hm Tryz.func11 rfl rfl rfl rfl (ann := fun _ => none) (gh := fun _ => false) ?_
    repeat' ((conv => whnf); first | (guard_target = Done _; refine Done.mk ?_) | (guard_target = RetX _ _; refine RetX.mk ?_ ?_) | (guard_target = Fact _ _; refine Fact.mk fun hL => ?_; (try simp only [List.length_map, maxLen] at hL)) | (guard_target = Branch _ _ _; (first | refine Branch.dec ?_ ?_ | refine Branch.beq ?_ ?_ | refine Branch.bne ?_ ?_ | refine Branch.ndec ?_ ?_ | refine Branch.nb ?_ ?_ | refine Branch.mk ?_ ?_) <;> intro h <;> (try simp only [] at h) <;> (try omega) <;> (try contradiction)) | (guard_target = CallN _ 39 _ _ _ _; refine CallN.pure _ _ rfl (h1) rfl _ rfl ?_) | (guard_target = Arith _ _ _; refine Arith.fit (wrap_fit (by first | omega | (simp only [List.length_map]; omega)) (by first | omega | (simp only [List.length_map]; omega))) ?_) | (guard_target = Arith _ _ _; refine Arith.fit (by decide) ?_) | (guard_target = Index _ _ _; first  | refine Index.mk _ (idx_map (by omega)) ?_) | (guard_target = Need (_ = true) _; refine Need.mk (by first | kernel_rfl | rfl) ?_) | (guard_target = LinkV _ _ _; first  | refine LinkV.no ?_) | (guard_target = GhO _ _ _ _; refine GhO.go ?_) | (guard_target = Need _ _; refine Need.mk (by first  | omega | (simp only [List.length_map]; omega)) ?_))
    all_goals first | rfl | trivial
variable (hs : goodSig t a = true) (hg : goodL t a l = true) (ht : goodT t a x = true) (N : Nat) (hN : atomsN t = N ∧ 1 ≤ N ∧ N ≤ 8)
include hs hg ht hN
theorem implFD_state (h : holdsT N l x = false) : CallX Tryz.prog 11 (argsD t a l x) [] (.tup [.a 14 (ownDT nilD), I 4]) := by
  have h1 := ValidPremises_ok t a l
  have h2 := ValidTriple_ok t a x
  rw [hs, hg] at h1
  rw [hs, ht] at h2
  have hb := sig_bounds hs
  have ho := tripOk ht
  have h3 := holdsUnder_ok t a hb.1 l (premOk hg).1 N hN x ho.1 ho.2.1 ho.2.2
  rw [h] at h3
  refine zero_upD ?_
  refine callX_of_vc htb hm Tryz.func11 rfl rfl rfl rfl (ann := fun _ => none) (gh := fun _ => false) ?_
  repeat' ((conv => whnf); first | (guard_target = Done _; refine Done.mk ?_) | (guard_target = RetX _ _; refine RetX.mk ?_ ?_) | (guard_target = Fact _ _; refine Fact.mk fun hL => ?_; (try simp only [List.length_map, maxLen] at hL)) | (guard_target = Branch _ _ _; (first | refine Branch.dec ?_ ?_ | refine Branch.beq ?_ ?_ | refine Branch.bne ?_ ?_ | refine Branch.ndec ?_ ?_ | refine Branch.nb ?_ ?_ | refine Branch.mk ?_ ?_) <;> intro h <;> (try simp only [] at h) <;> (try omega) <;> (try contradiction)) | (guard_target = CallN _ 39 _ _ _ _; refine CallN.pure _ _ rfl (h1) rfl _ rfl ?_) | (guard_target = CallN _ 40 _ _ _ _; refine CallN.pure _ _ rfl (h2) rfl _ rfl ?_) | (guard_target = CallN _ 41 _ _ _ _; refine CallN.pure _ _ rfl (h3) rfl _ rfl ?_) | (guard_target = Arith _ _ _; refine Arith.fit (wrap_fit (by first | omega | (simp only [List.length_map]; omega)) (by first | omega | (simp only [List.length_map]; omega))) ?_) | (guard_target = Arith _ _ _; refine Arith.fit (by decide) ?_) | (guard_target = Index _ _ _; first  | refine Index.mk _ (idx_map (by omega)) ?_) | (guard_target = Need (_ = true) _; refine Need.mk (by first | kernel_rfl | rfl) ?_) | (guard_target = LinkV _ _ _; first  | refine LinkV.no ?_) | (guard_target = GhO _ _ _ _; refine GhO.go ?_) | (guard_target = Need _ _; refine Need.mk (by first  | omega | (simp only [List.length_map]; omega)) ?_))
  all_goals first | rfl | trivial
abbrev wholeD (t : Int) (N : Nat) (l : List XPremise) (x : XTriple) : XDerivation := nodeD 8 x.pre x.prog x.post [findD t N l x.prog x.post]
theorem implFD_rest (h : holdsT N l x = true) : CallX Tryz.prog 11 (argsD t a l x) [] (if sizeD (wholeD t N l x) ≤ 400 ∧ sayD t a (wholeD t N l x) = true then .tup [.a 14 (ownDT (wholeD t N l x)), I 0] else .tup [.a 14 (ownDT nilD), I 3]) := by
  have h1 := ValidPremises_ok t a l
  have h2 := ValidTriple_ok t a x
  rw [hs, hg] at h1
  rw [hs, ht] at h2
  have hb := sig_bounds hs
  have ho := tripOk ht
  have hp := premOk hg
  have h3 := holdsUnder_ok t a hb.1 l hp.1 N hN x ho.1 ho.2.1 ho.2.2
  rw [h] at h3
  obtain ⟨r, s, ks, hD⟩ := ex_mkD (findD t N l x.prog x.post)
  have h4 := find_ok t a hb.1 l hp.1 hp.2 N hN x.prog ho.2.1 x.post ho.2.2 _ hD
  rw [encProg_eq, encExpr_eq] at h4
  have h5 := node_ok 8 x.pre x.prog x.post [.mk r s ks]
  rw [encExpr_eq x.pre, encProg_eq x.prog, encExpr_eq x.post] at h5
  have hsz : sizeD (wholeD t N l x) ≤ 1000000 := by
    have h8 := find_sz t a N l hp.2 x.prog ho.2.1 x.post
    have h9 := goodT_bud ht
    show 1 + (sizeD (findD t N l x.prog x.post) + 0) ≤ _
    omega
  have hW : wholeD t N l x = nodeD 8 x.pre x.prog x.post [.mk r s ks] := by rw [← hD]
  rw [hW] at hsz ⊢
  have h6 := DerivationSize_ok (nodeD 8 x.pre x.prog x.post [.mk r s ks]) (by omega)
  have h7 := allSay_ok t a hs (nodeD 8 x.pre x.prog x.post [.mk r s ks])
  have h8 := copyD_ok t a (nodeD 8 x.pre x.prog x.post [.mk r s ks])
  generalize sizeD (nodeD 8 x.pre x.prog x.post [.mk r s ks]) = S at *
  cases hq : sayD t a (nodeD 8 x.pre x.prog x.post [.mk r s ks]) with
  | true =>
    rw [hq] at h7 h8
    by_cases hS : S ≤ 400
    · rw [if_pos ⟨hS, rfl⟩]
      have h8 := h8 hS rfl
      refine callX_of_vc htb hm Tryz.func11 rfl rfl rfl rfl (ann := fun _ => none) (gh := fun _ => false) ?_
      repeat' ((conv => whnf); first | (guard_target = Done _; refine Done.mk ?_) | (guard_target = RetX _ _; refine RetX.mk ?_ ?_) | (guard_target = Fact _ _; refine Fact.mk fun hL => ?_; (try simp only [List.length_map, maxLen] at hL)) | (guard_target = Branch _ _ _; (first | refine Branch.dec ?_ ?_ | refine Branch.beq ?_ ?_ | refine Branch.bne ?_ ?_ | refine Branch.ndec ?_ ?_ | refine Branch.nb ?_ ?_ | refine Branch.mk ?_ ?_) <;> intro h <;> (try simp only [] at h) <;> (try omega) <;> (try contradiction)) | (guard_target = CallN _ 39 _ _ _ _; refine CallN.pure _ _ rfl (h1) rfl _ rfl ?_) | (guard_target = CallN _ 40 _ _ _ _; refine CallN.pure _ _ rfl (h2) rfl _ rfl ?_) | (guard_target = CallN _ 41 _ _ _ _; refine CallN.pure _ _ rfl (h3) rfl _ rfl ?_) | (guard_target = CallN _ 43 _ _ _ _; refine CallN.gen [] _ _ _ rfl (h4) rfl rfl _ rfl ?_) | (guard_target = CallN _ 42 _ _ _ _; refine CallN.gen [false, false, false, false, true] _ _ _ rfl (h5) rfl rfl _ rfl ?_) | (guard_target = CallN _ 44 _ _ _ _; refine CallN.pure _ _ rfl (h6) rfl _ rfl ?_) | (guard_target = CallN _ 45 _ _ _ _; refine CallN.pure _ _ rfl (h7) rfl _ rfl ?_) | (guard_target = CallN _ 46 _ _ _ _; refine CallN.gen [] _ _ _ rfl (h8) rfl rfl _ rfl ?_) | (guard_target = Arith _ _ _; refine Arith.fit (wrap_fit (by first | omega | (simp only [List.length_map]; omega)) (by first | omega | (simp only [List.length_map]; omega))) ?_) | (guard_target = Arith _ _ _; refine Arith.fit (by decide) ?_) | (guard_target = Index _ _ _; first  | refine Index.mk _ (idx_map (by omega)) ?_) | (guard_target = Need (_ = true) _; refine Need.mk (by first | kernel_rfl | rfl) ?_) | (guard_target = LinkV _ _ _; first  | refine LinkV.no ?_) | (guard_target = GhO _ _ _ _; refine GhO.go ?_) | (guard_target = Need _ _; refine Need.mk (by first  | omega | (simp only [List.length_map]; omega)) ?_))
      all_goals first | trivial | (exact congrArg (fun z => SV.tup [SV.a 14 z, I 0]) (Eq.refl _))
    · rw [if_neg fun h => hS h.1]
      refine zero_upD ?_
      refine callX_of_vc htb hm Tryz.func11 rfl rfl rfl rfl (ann := fun _ => none) (gh := fun _ => false) ?_
      repeat' ((conv => whnf); first | (guard_target = Done _; refine Done.mk ?_) | (guard_target = RetX _ _; refine RetX.mk ?_ ?_) | (guard_target = Fact _ _; refine Fact.mk fun hL => ?_; (try simp only [List.length_map, maxLen] at hL)) | (guard_target = Branch _ _ _; (first | refine Branch.dec ?_ ?_ | refine Branch.beq ?_ ?_ | refine Branch.bne ?_ ?_ | refine Branch.ndec ?_ ?_ | refine Branch.nb ?_ ?_ | refine Branch.mk ?_ ?_) <;> intro h <;> (try simp only [] at h) <;> (try omega) <;> (try contradiction)) | (guard_target = CallN _ 39 _ _ _ _; refine CallN.pure _ _ rfl (h1) rfl _ rfl ?_) | (guard_target = CallN _ 40 _ _ _ _; refine CallN.pure _ _ rfl (h2) rfl _ rfl ?_) | (guard_target = CallN _ 41 _ _ _ _; refine CallN.pure _ _ rfl (h3) rfl _ rfl ?_) | (guard_target = CallN _ 43 _ _ _ _; refine CallN.gen [] _ _ _ rfl (h4) rfl rfl _ rfl ?_) | (guard_target = CallN _ 42 _ _ _ _; refine CallN.gen [false, false, false, false, true] _ _ _ rfl (h5) rfl rfl _ rfl ?_) | (guard_target = CallN _ 44 _ _ _ _; refine CallN.pure _ _ rfl (h6) rfl _ rfl ?_) | (guard_target = CallN _ 45 _ _ _ _; refine CallN.pure _ _ rfl (h7) rfl _ rfl ?_) | (guard_target = Arith _ _ _; refine Arith.fit (wrap_fit (by first | omega | (simp only [List.length_map]; omega)) (by first | omega | (simp only [List.length_map]; omega))) ?_) | (guard_target = Arith _ _ _; refine Arith.fit (by decide) ?_) | (guard_target = Index _ _ _; first  | refine Index.mk _ (idx_map (by omega)) ?_) | (guard_target = Need (_ = true) _; refine Need.mk (by first | kernel_rfl | rfl) ?_) | (guard_target = LinkV _ _ _; first  | refine LinkV.no ?_) | (guard_target = GhO _ _ _ _; refine GhO.go ?_) | (guard_target = Need _ _; refine Need.mk (by first  | omega | (simp only [List.length_map]; omega)) ?_))
      all_goals first | trivial | rfl
  | false =>
    rw [hq] at h7
    rw [if_neg fun h => by cases h.2]
    refine zero_upD ?_
    refine callX_of_vc htb hm Tryz.func11 rfl rfl rfl rfl (ann := fun _ => none) (gh := fun _ => false) ?_
    repeat' ((conv => whnf); first | (guard_target = Done _; refine Done.mk ?_) | (guard_target = RetX _ _; refine RetX.mk ?_ ?_) | (guard_target = Fact _ _; refine Fact.mk fun hL => ?_; (try simp only [List.length_map, maxLen] at hL)) | (guard_target = Branch _ _ _; (first | refine Branch.dec ?_ ?_ | refine Branch.beq ?_ ?_ | refine Branch.bne ?_ ?_ | refine Branch.ndec ?_ ?_ | refine Branch.nb ?_ ?_ | refine Branch.mk ?_ ?_) <;> intro h <;> (try simp only [] at h) <;> (try omega) <;> (try contradiction)) | (guard_target = CallN _ 39 _ _ _ _; refine CallN.pure _ _ rfl (h1) rfl _ rfl ?_) | (guard_target = CallN _ 40 _ _ _ _; refine CallN.pure _ _ rfl (h2) rfl _ rfl ?_) | (guard_target = CallN _ 41 _ _ _ _; refine CallN.pure _ _ rfl (h3) rfl _ rfl ?_) | (guard_target = CallN _ 43 _ _ _ _; refine CallN.gen [] _ _ _ rfl (h4) rfl rfl _ rfl ?_) | (guard_target = CallN _ 42 _ _ _ _; refine CallN.gen [false, false, false, false, true] _ _ _ rfl (h5) rfl rfl _ rfl ?_) | (guard_target = CallN _ 44 _ _ _ _; refine CallN.pure _ _ rfl (h6) rfl _ rfl ?_) | (guard_target = CallN _ 45 _ _ _ _; refine CallN.pure _ _ rfl (h7) rfl _ rfl ?_) | (guard_target = Arith _ _ _; refine Arith.fit (wrap_fit (by first | omega | (simp only [List.length_map]; omega)) (by first | omega | (simp only [List.length_map]; omega))) ?_) | (guard_target = Arith _ _ _; refine Arith.fit (by decide) ?_) | (guard_target = Index _ _ _; first  | refine Index.mk _ (idx_map (by omega)) ?_) | (guard_target = Need (_ = true) _; refine Need.mk (by first | kernel_rfl | rfl) ?_) | (guard_target = LinkV _ _ _; first  | refine LinkV.no ?_) | (guard_target = GhO _ _ _ _; refine GhO.go ?_) | (guard_target = Need _ _; refine Need.mk (by first  | omega | (simp only [List.length_map]; omega)) ?_))
    all_goals first | trivial | rfl
end
end Go.Proofs.YtmpcfplelpdbhaaGreat
