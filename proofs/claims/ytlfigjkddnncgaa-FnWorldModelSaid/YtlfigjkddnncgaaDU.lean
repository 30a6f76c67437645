/- Contracts: the relation of an expression in a valid model. No conditions but that models and expressions are valid. -/
import Derived.Test.YtlfigjkddnncgaaDS
namespace Go.Proofs.Ytlfigjkddnncgaa
open Go Go.KA Go.Proofs
set_option maxHeartbeats 16000000
set_option maxRecDepth 100000
section
variable (N : Nat) (test : Int → Nat → Bool) (act : Int → Rel)
abbrev kidG (e : XExpr) : List (List (List Bool)) := e.kids.map fun k => tabR N (relG N test act k)
theorem kidG_getD {e : XExpr} {i : Nat} (h : i < e.kids.length) : (kidG N test act e).getD i [] = tabR N (relG N test act e.kids[i]) := by
  rw [List.getD_eq_getElem?_getD, List.getElem?_map, List.getElem?_eq_getElem h]
  rfl
theorem relk_getD {e : XExpr} {i : Nat} (h : i < e.kids.length) : (e.kids.map (relG N test act)).getD i zeroM = relG N test act e.kids[i] := by
  rw [List.getD_eq_getElem?_getD, List.getElem?_map, List.getElem?_eq_getElem h]
  rfl
theorem tabG_next {ks : List XExpr} {i : Nat} {rows : List (List CV)} (hi : i < ks.length) (h : rows = (ks.take i).map fun k => eT (tabR N (relG N test act k))) : rows ++ [eT (tabR N (relG N test act ks[i]))] = (ks.take (i + 1)).map fun k => eT (tabR N (relG N test act k)) := by
  rw [take_map_next hi, h]
theorem rg_act {k n : Int} {ks : List Rel} (h : k = 4) (x y : Nat) : relGK N test act k n ks x y = act n x y := by
  unfold relGK
  rw [if_pos h]
theorem rg_dot {e : XExpr} (h : e.kind = 7) (hl : e.kids.length = 2) {x y : Nat} (hx : x < N) (hy : y < N) : cmpR N (relT ((kidG N test act e).getD 0 [])) (relT ((kidG N test act e).getD 1 [])) x y = relGK N test act e.kind e.num (e.kids.map (relG N test act)) x y := by
  unfold relGK
  rw [h, if_neg (by decide), if_pos rfl, relk_getD (i := 0) N test act (by omega), relk_getD (i := 1) N test act (by omega), kidG_getD (i := 0) N test act (by omega), kidG_getD (i := 1) N test act (by omega)]
  refine boolM ?_
  rw [cmpR_iff, cmpR_iff]
  constructor
  · rintro ⟨z, hz, h1, h2⟩; exact ⟨z, hz, by rwa [relT_tab hx hz] at h1, by rwa [relT_tab hz hy] at h2⟩
  · rintro ⟨z, hz, h1, h2⟩; exact ⟨z, hz, by rwa [relT_tab hx hz], by rwa [relT_tab hz hy]⟩
theorem rg_star {e : XExpr} (h : e.kind = 8) (hl : e.kids.length = 1) {A : List (List Bool)} (hA : A = tabR N (sqI N N (onR (relT ((kidG N test act e).getD 0 []))))) : A = tabR N (relGK N test act e.kind e.num (e.kids.map (relG N test act))) := by
  rw [hA]
  refine tab_congr fun x y hx hy => ?_
  unfold relGK
  rw [h, if_neg (by decide), if_neg (by decide), if_pos rfl, relk_getD (i := 0) N test act (by omega), kidG_getD (i := 0) N test act (by omega)]
  exact sqI_cg (fun x y hx hy => by unfold onR; rw [relT_tab hx hy]) N hx hy
theorem rg_rest {e : XExpr} (h5 : e.kind = 5 → e.kids.length = 1) (h6 : e.kind = 6 → e.kids.length = 2) (hk : ¬ e.kind = 4 ∧ ¬ e.kind = 7 ∧ ¬ e.kind = 8) {x y : Nat} (hx : x < N) (hy : y < N) :
    relGK N test act e.kind e.num ((kidG N test act e).map relT) x y = relGK N test act e.kind e.num (e.kids.map (relG N test act)) x y := by
  have g : ∀ i (hi : i < e.kids.length), ((kidG N test act e).map relT).getD i zeroM x y = (e.kids.map (relG N test act)).getD i zeroM x y := fun i hi => by
    rw [relk_getD N test act hi, List.getD_eq_getElem?_getD, List.getElem?_map, List.getElem?_map, List.getElem?_eq_getElem hi]
    exact relT_tab hx hy
  unfold relGK
  rw [if_neg hk.1, if_neg hk.2.1, if_neg hk.2.2, if_neg hk.1, if_neg hk.2.1, if_neg hk.2.2]
  split
  · rfl
  · split
    · rfl
    · split
      · rename_i h
        have h2 := h5 h
        dsimp only
        rw [g 0 (by omega)]
      · split
        · rename_i h
          have h2 := h6 h
          dsimp only
          rw [g 0 (by omega), g 1 (by omega)]
        · rfl
end
theorem treeB_kid {t a : Int} {e k : XExpr} (h : treeB t a e = true) (hk : k ∈ e.kids) : treeB t a k = true := by
  rw [treeB_eq] at h
  simp only [Bool.and_eq_true, beq_iff_eq] at h
  obtain ⟨h1, h2⟩ := h
  split at h2
  · rename_i h3
    rw [h3] at h1
    have : e.kids = [] := by simpa [kidsN] using h1
    rw [this] at hk
    cases hk
  · split at h2
    · rename_i h3
      rw [h3] at h1
      have : e.kids = [] := by simpa [kidsN] using h1
      rw [this] at hk
      cases hk
    · simp only [Bool.and_eq_true, List.all_eq_true] at h2
      exact h2.2.2 k hk
theorem relation_all (m : XModel) (N : Nat) (hm0 : MOk m N) (e : XExpr) (hv : treeB m.sig.tests m.sig.actions e = true)
    (hx : ∀ k ∈ e.kids, CallX Try.prog 27 [.a 5 (encModel m), .a 3 (encExpr k)] [] (.c (.ro 1 ((tabR N (relG N (testM m) (actM m) k)).map eR)))) :
    CallX Try.prog 27 [.a 5 (encModel m), .a 3 (toldE e)] [] (.c (.ro 1 ((tabR N (relG N (testM m) (actM m) e)).map eR))) := by
  have hN12 : N ≤ 12 := by have := hm0.hi; omega
  have hpts := hm0.pts
  have hv' := hv
  rw [treeB_eq] at hv'
  simp only [Bool.and_eq_true, beq_iff_eq] at hv'
  have hlen := hv'.1
  have hk2 : e.kids.length ≤ 2 := by
    unfold kidsN at hlen
    split at hlen
    · omega
    · split at hlen <;> omega
  have hk7 : e.kind = 7 → e.kids.length = 2 := by intro h; rw [h] at hlen; simp [kidsN] at hlen; omega
  have hk8 : e.kind = 8 → e.kids.length = 1 := by intro h; rw [h] at hlen; simp [kidsN] at hlen; omega
  have hk5 : e.kind = 5 → e.kids.length = 1 := by intro h; rw [h] at hlen; simp [kidsN] at hlen; omega
  have hk6 : e.kind = 6 → e.kids.length = 2 := by intro h; rw [h] at hlen; simp [kidsN] at hlen; omega
  have hsq : ∀ i, i < (kidG N (testM m) (actM m) e).length → Sq N ((kidG N (testM m) (actM m) e).getD i []) := fun i hi => by
    rw [kidG_getD N _ _ (by simpa using hi)]
    exact tabR_sq _ _
  have hkl' : (kidG N (testM m) (actM m) e).length = e.kids.length := by simp
  have he4 : e.kind = 4 → 0 ≤ e.num ∧ e.num < m.acts.length := by
    intro h
    have := hv'.2
    rw [h] at this
    simp [rng] at this
    have := hm0.alen
    omega
  have ht1 : e.kind = 4 → _ := fun hk => table_own 65 (ptM m) (ptX e) N hN12 _ fun x y hx hy => rel1_ok m N hm0 e x y hx hy (he4 hk)
  have ht2 : e.kind = 8 → _ := fun hk => table_one 67 (ptK (kidG N (testM m) (actM m) e)) N hN12 _ fun x y hx hy => rel2_ok N x y hx hy (kidG N (testM m) (actM m) e) (by have := hk8 hk; omega) (hsq 0 (by have := hk8 hk; omega))
  have ht3 : ¬ e.kind = 4 ∧ ¬ e.kind = 7 ∧ ¬ e.kind = 8 → _ := fun hk => table_three 68 (ptX e) (ptM m) (ptK (kidG N (testM m) (actM m) e)) N hN12 _ fun x y hx hy => rel3_ok m N hm0 e x y hx hy hv hk (kidG N (testM m) (actM m) e) hkl' hsq
  have hcp : ∀ A, Sq N A → _ := fun A hA => composed_ok N hN12 A A hA hA
  have hc2 : e.kind = 7 → _ := fun hk => composed_own N hN12 _ _ (hsq 0 (by have := hk7 hk; omega)) (hsq 1 (by have := hk7 hk; omega))
  have hro : ∀ R : Rel, SV.c (.ro 1 ((tabR N R).map eR)) = SV.c (.ro 1 (roLL ((tabR N R).map eRw))) := fun R => by rw [roLL_eRw]
  rw [← hpts] at ht1 ht2 ht3
  rw [relG_eq]
  by_cases g8 : e.kind = 8
  · skip
    refine callX_of_vc htb hm Try.func27 rfl rfl rfl rfl (ann := fun _ => none) (gh := fun reg_ => match reg_ with | 7 => true | 14 => true | _ => false) ?_
    repeat' ((conv => whnf); first | (guard_target = Done _; refine Done.mk ?_) | (guard_target = RetX _ _; refine RetX.mk ?_ ?_) | (guard_target =~ LoopE 3 _ _ _ _ _ _; refine LoopE.mk { α := List (List CV) × Nat, keep := [2, 3, 5, 11, 12], ov := fun ⟨rows, i⟩ => [(13, I (i : Nat))], hv := fun ⟨rows, i⟩ => [(5, .cells [.lw 3]), (3, .row none 39 1 rows)], φ := fun ⟨rows, i⟩ => i ≤ e.kids.length ∧ rows = (e.kids.take i).map fun k => eT (tabR N (relG N (testM m) (actM m) k)), μ := fun ⟨rows, i⟩ => e.kids.length - i } (LoopN.mk (([], 0) : List (List CV) × Nat) (by exact ⟨Nat.zero_le _, rfl⟩) (by (repeat' ((conv => whnf) <;> (first | exact trivial | refine ⟨?_, ?_⟩ | kernel_rfl))); done) (by (repeat' ((conv => whnf) <;> (first | exact trivial | refine ⟨?_, ?_⟩ | kernel_rfl))); done) (by (repeat' ((conv => whnf) <;> (first | exact trivial | refine ⟨?_, ?_⟩ | exact rfl | (simp only [List.map_append, List.map_cons, List.map_nil, List.map_set]; first | done | rfl)))); done) (fun A ha => ?_) (by intro A; first | rfl | (obtain ⟨_, _⟩ := A; rfl) | (obtain ⟨_, _, _⟩ := A; rfl))); obtain ⟨rows, i⟩ := A; have ha : i ≤ e.kids.length ∧ rows = (e.kids.take i).map fun k => eT (tabR N (relG N (testM m) (actM m) k)) := ha; have hrl : rows.length = i := (by rw [ha.2, List.length_map, List.length_take]; omega)) | (guard_target =~ LoopE 15 _ _ _ _ _ _; refine LoopE.mk { α := List (List Bool) × Nat, keep := [2, 3, 5, 48], ov := fun ⟨A, j⟩ => [(8, .c (.ro 1 (A.map eR))), (49, I (j : Nat))], φ := fun ⟨A, j⟩ => j ≤ N ∧ A = tabR N (sqI N j (onR (relT ((kidG N (testM m) (actM m) e).getD 0 [])))), μ := fun ⟨A, j⟩ => N - j } (LoopN.mk ((tabR N (onR (relT ((kidG N (testM m) (actM m) e).getD 0 []))), 0) : List (List Bool) × Nat) (by exact ⟨Nat.zero_le _, rfl⟩) (by (repeat' ((conv => whnf) <;> (first | exact trivial | refine ⟨?_, ?_⟩ | kernel_rfl))); done) (by (repeat' ((conv => whnf) <;> (first | exact trivial | refine ⟨?_, ?_⟩ | kernel_rfl))); done) (by (repeat' ((conv => whnf) <;> (first | exact trivial | refine ⟨?_, ?_⟩ | exact rfl | (simp only [List.map_append, List.map_cons, List.map_nil, List.map_set]; first | done | rfl)))); done) (fun A ha => ?_) (by intro A; first | rfl | (obtain ⟨_, _⟩ := A; rfl) | (obtain ⟨_, _, _⟩ := A; rfl))); obtain ⟨A, j⟩ := A; have ha : j ≤ N ∧ A = tabR N (sqI N j (onR (relT ((kidG N (testM m) (actM m) e).getD 0 [])))) := ha; have hsA : Sq N A := (by rw [ha.2]; exact tabR_sq _ _)) | (guard_target = Gh _ _ _ _ _; refine Gh.go ⟨((rows ++ [eT (tabR N (relG N (testM m) (actM m) e.kids[i]))], i + 1) : List (List CV) × Nat), (by exact ⟨by show i + 1 ≤ _; omega, tabG_next N _ _ (by omega) ha.2⟩), (by first | (show _ < _; simp only []; omega) | omega | (simp; omega)), (by (repeat' ((conv => whnf) <;> (first | exact trivial | refine ⟨?_, ?_⟩ | kernel_rfl))); done), (by (repeat' ((conv => whnf) <;> (first | exact trivial | refine ⟨?_, ?_⟩ | kernel_rfl))); done), (by (repeat' ((conv => whnf) <;> (first | exact trivial | refine ⟨?_, ?_⟩ | exact rfl | (simp only [List.map_append, List.map_cons, List.map_nil, List.map_set]; first | done | rfl)))); done)⟩) | (guard_target = Gh _ _ _ _ _; refine Gh.go ⟨((tabR N (cmpR N (relT A) (relT A)), j + 1) : List (List Bool) × Nat), (by exact ⟨by show j + 1 ≤ _; omega, by show tabR _ _ = _; rw [cmp_tab ha.2 ha.2, ← sqI_succ]⟩), (by first | (show _ < _; simp only []; omega) | omega | (simp; omega)), (by (repeat' ((conv => whnf) <;> (first | exact trivial | refine ⟨?_, ?_⟩ | kernel_rfl))); done), (by (repeat' ((conv => whnf) <;> (first | exact trivial | refine ⟨?_, ?_⟩ | kernel_rfl))); done), (by (repeat' ((conv => whnf) <;> (first | exact trivial | refine ⟨?_, ?_⟩ | exact rfl | (simp only [List.map_append, List.map_cons, List.map_nil, List.map_set]; first | done | rfl)))); done)⟩) | (guard_target = Fact _ _; refine Fact.mk fun hL => ?_; (try simp only [List.length_map, maxLen] at hL)) | (guard_target = Branch _ _ _; (first | refine Branch.dec ?_ ?_ | refine Branch.beq ?_ ?_ | refine Branch.bne ?_ ?_ | refine Branch.ndec ?_ ?_ | refine Branch.nb ?_ ?_ | refine Branch.mk ?_ ?_) <;> intro h <;> (try simp only [List.length_map] at h) <;> (try omega) <;> (try contradiction)) | (guard_target = CallN _ 27 _ _ _ _; refine CallN.gen [] _ _ _ rfl (hx _ (List.getElem_mem (by omega))) rfl rfl _ rfl ?_) | (guard_target = CallN _ 66 _ _ _ _; refine CallN.gen [] _ _ _ rfl (hcp A hsA) rfl rfl _ rfl ?_) | (guard_target = CallN _ 66 _ _ _ _; refine CallN.gen [] _ _ _ rfl (hc2 h) rfl rfl _ rfl ?_) | (guard_target = Gh _ _ _ _ _; (have hk8' : e.kind = 8 := h); refine Gh.frz 6 (.ro 1 ((tabR N (onR (relT ((kidG N (testM m) (actM m) e).getD 0 [])))).map eR)) (congrArg (fun z => some (CV.ro 1 z)) (roLL_eRw _)) (Gh.go ?_)) | (guard_target = Gh _ _ _ _ _; (have hlt : ¬ (i : Int) < (e.kids.length : Int) := h); (obtain rfl : rows = (kidG N (testM m) (actM m) e).map eT := (by rw [ha.2, List.take_of_length_le (by omega), List.map_map]; rfl)); refine Gh.go ?_) | (guard_target = Index _ _ _; refine Index.mk _ (idx_getD (l := kidG N (testM m) (actM m) e) (d := []) (i := 0) (by omega)) ?_) | (guard_target = Index _ _ _; refine Index.mk _ (idx_getD (l := kidG N (testM m) (actM m) e) (d := []) (i := 1) (by omega)) ?_) | (guard_target = CallN _ 64 _ _ _ _; refine CallN.own _ _ rfl (ht2 h) (pure_eRw _) _ rfl ?_) | (guard_target = CallN _ 64 _ _ _ _; refine CallN.own _ _ rfl (ht1 h) (pure_eRw _) _ rfl ?_) | (guard_target = CallN _ 64 _ _ _ _; refine CallN.own _ _ rfl (ht3 (by omega)) (pure_eRw _) _ rfl ?_) | (guard_target = Arith _ _ _; refine Arith.fit (wrap_fit (by first | omega | (simp only [List.length_map]; omega)) (by first | omega | (simp only [List.length_map]; omega))) ?_) | (guard_target = Arith _ _ _; refine Arith.fit (by decide) ?_) | (guard_target = Index _ _ _; first | refine Index.mk _ (idx_map (l := e.kids) (i := i) (by omega)) ?_ | refine Index.mk _ (idx_map (by omega)) ?_) | (guard_target = Need (_ = true) _; refine Need.mk (by first | kernel_rfl | rfl) ?_) | (guard_target = LinkV _ _ _; first  | refine LinkV.no ?_) | (guard_target = GhO _ _ _ _; refine GhO.go ?_) | (guard_target = Need _ _; refine Need.mk (by first | ((simp only [List.length_cons, List.length_nil, maxLen]; constructor <;> omega)) | omega | (simp only [List.length_map]; omega)) ?_))
    all_goals first | trivial | (exact congrArg (fun z => SV.c (.ro 1 (List.map eR z))) (rg_star N _ _ g8 (hk8 g8) (by rw [ha.2, show j = N by omega])))
  · refine CallX.soft (?_ : CallX _ _ _ _ (.c (.own 69 1 ((tabR N (relGK N (testM m) (actM m) e.kind e.num (e.kids.map (relG N (testM m) (actM m))))).map eRw)))) (soft_tab _)
    refine callX_of_vc htb hm Try.func27 rfl rfl rfl rfl (ann := fun _ => none) (gh := fun reg_ => match reg_ with | 7 => true | 14 => true | _ => false) ?_
    repeat' ((conv => whnf); first | (guard_target = Done _; refine Done.mk ?_) | (guard_target = RetX _ _; refine RetX.mk ?_ ?_) | (guard_target =~ LoopE 3 _ _ _ _ _ _; refine LoopE.mk { α := List (List CV) × Nat, keep := [2, 3, 5, 11, 12], ov := fun ⟨rows, i⟩ => [(13, I (i : Nat))], hv := fun ⟨rows, i⟩ => [(5, .cells [.lw 3]), (3, .row none 39 1 rows)], φ := fun ⟨rows, i⟩ => i ≤ e.kids.length ∧ rows = (e.kids.take i).map fun k => eT (tabR N (relG N (testM m) (actM m) k)), μ := fun ⟨rows, i⟩ => e.kids.length - i } (LoopN.mk (([], 0) : List (List CV) × Nat) (by exact ⟨Nat.zero_le _, rfl⟩) (by (repeat' ((conv => whnf) <;> (first | exact trivial | refine ⟨?_, ?_⟩ | kernel_rfl))); done) (by (repeat' ((conv => whnf) <;> (first | exact trivial | refine ⟨?_, ?_⟩ | kernel_rfl))); done) (by (repeat' ((conv => whnf) <;> (first | exact trivial | refine ⟨?_, ?_⟩ | exact rfl | (simp only [List.map_append, List.map_cons, List.map_nil, List.map_set]; first | done | rfl)))); done) (fun A ha => ?_) (by intro A; first | rfl | (obtain ⟨_, _⟩ := A; rfl) | (obtain ⟨_, _, _⟩ := A; rfl))); obtain ⟨rows, i⟩ := A; have ha : i ≤ e.kids.length ∧ rows = (e.kids.take i).map fun k => eT (tabR N (relG N (testM m) (actM m) k)) := ha; have hrl : rows.length = i := (by rw [ha.2, List.length_map, List.length_take]; omega)) | (guard_target =~ LoopE 15 _ _ _ _ _ _; refine LoopE.mk { α := List (List Bool) × Nat, keep := [2, 3, 5, 48], ov := fun ⟨A, j⟩ => [(8, .c (.ro 1 (A.map eR))), (49, I (j : Nat))], φ := fun ⟨A, j⟩ => j ≤ N ∧ A = tabR N (sqI N j (onR (relT ((kidG N (testM m) (actM m) e).getD 0 [])))), μ := fun ⟨A, j⟩ => N - j } (LoopN.mk ((tabR N (onR (relT ((kidG N (testM m) (actM m) e).getD 0 []))), 0) : List (List Bool) × Nat) (by exact ⟨Nat.zero_le _, rfl⟩) (by (repeat' ((conv => whnf) <;> (first | exact trivial | refine ⟨?_, ?_⟩ | kernel_rfl))); done) (by (repeat' ((conv => whnf) <;> (first | exact trivial | refine ⟨?_, ?_⟩ | kernel_rfl))); done) (by (repeat' ((conv => whnf) <;> (first | exact trivial | refine ⟨?_, ?_⟩ | exact rfl | (simp only [List.map_append, List.map_cons, List.map_nil, List.map_set]; first | done | rfl)))); done) (fun A ha => ?_) (by intro A; first | rfl | (obtain ⟨_, _⟩ := A; rfl) | (obtain ⟨_, _, _⟩ := A; rfl))); obtain ⟨A, j⟩ := A; have ha : j ≤ N ∧ A = tabR N (sqI N j (onR (relT ((kidG N (testM m) (actM m) e).getD 0 [])))) := ha; have hsA : Sq N A := (by rw [ha.2]; exact tabR_sq _ _)) | (guard_target = Gh _ _ _ _ _; refine Gh.go ⟨((rows ++ [eT (tabR N (relG N (testM m) (actM m) e.kids[i]))], i + 1) : List (List CV) × Nat), (by exact ⟨by show i + 1 ≤ _; omega, tabG_next N _ _ (by omega) ha.2⟩), (by first | (show _ < _; simp only []; omega) | omega | (simp; omega)), (by (repeat' ((conv => whnf) <;> (first | exact trivial | refine ⟨?_, ?_⟩ | kernel_rfl))); done), (by (repeat' ((conv => whnf) <;> (first | exact trivial | refine ⟨?_, ?_⟩ | kernel_rfl))); done), (by (repeat' ((conv => whnf) <;> (first | exact trivial | refine ⟨?_, ?_⟩ | exact rfl | (simp only [List.map_append, List.map_cons, List.map_nil, List.map_set]; first | done | rfl)))); done)⟩) | (guard_target = Gh _ _ _ _ _; refine Gh.go ⟨((tabR N (cmpR N (relT A) (relT A)), j + 1) : List (List Bool) × Nat), (by exact ⟨by show j + 1 ≤ _; omega, by show tabR _ _ = _; rw [cmp_tab ha.2 ha.2, ← sqI_succ]⟩), (by first | (show _ < _; simp only []; omega) | omega | (simp; omega)), (by (repeat' ((conv => whnf) <;> (first | exact trivial | refine ⟨?_, ?_⟩ | kernel_rfl))); done), (by (repeat' ((conv => whnf) <;> (first | exact trivial | refine ⟨?_, ?_⟩ | kernel_rfl))); done), (by (repeat' ((conv => whnf) <;> (first | exact trivial | refine ⟨?_, ?_⟩ | exact rfl | (simp only [List.map_append, List.map_cons, List.map_nil, List.map_set]; first | done | rfl)))); done)⟩) | (guard_target = Fact _ _; refine Fact.mk fun hL => ?_; (try simp only [List.length_map, maxLen] at hL)) | (guard_target = Branch _ _ _; (first | refine Branch.dec ?_ ?_ | refine Branch.beq ?_ ?_ | refine Branch.bne ?_ ?_ | refine Branch.ndec ?_ ?_ | refine Branch.nb ?_ ?_ | refine Branch.mk ?_ ?_) <;> intro h <;> (try simp only [List.length_map] at h) <;> (try omega) <;> (try contradiction)) | (guard_target = CallN _ 27 _ _ _ _; refine CallN.gen [] _ _ _ rfl (hx _ (List.getElem_mem (by omega))) rfl rfl _ rfl ?_) | (guard_target = CallN _ 66 _ _ _ _; refine CallN.gen [] _ _ _ rfl (hcp A hsA) rfl rfl _ rfl ?_) | (guard_target = CallN _ 66 _ _ _ _; refine CallN.gen [] _ _ _ rfl (hc2 h) rfl rfl _ rfl ?_) | (guard_target = Gh _ _ _ _ _; (have hk8' : e.kind = 8 := h); refine Gh.frz 6 (.ro 1 ((tabR N (onR (relT ((kidG N (testM m) (actM m) e).getD 0 [])))).map eR)) (congrArg (fun z => some (CV.ro 1 z)) (roLL_eRw _)) (Gh.go ?_)) | (guard_target = Gh _ _ _ _ _; (have hlt : ¬ (i : Int) < (e.kids.length : Int) := h); (obtain rfl : rows = (kidG N (testM m) (actM m) e).map eT := (by rw [ha.2, List.take_of_length_le (by omega), List.map_map]; rfl)); refine Gh.go ?_) | (guard_target = Index _ _ _; refine Index.mk _ (idx_getD (l := kidG N (testM m) (actM m) e) (d := []) (i := 0) (by omega)) ?_) | (guard_target = Index _ _ _; refine Index.mk _ (idx_getD (l := kidG N (testM m) (actM m) e) (d := []) (i := 1) (by omega)) ?_) | (guard_target = CallN _ 64 _ _ _ _; refine CallN.own _ _ rfl (ht2 h) (pure_eRw _) _ rfl ?_) | (guard_target = CallN _ 64 _ _ _ _; refine CallN.own _ _ rfl (ht1 h) (pure_eRw _) _ rfl ?_) | (guard_target = CallN _ 64 _ _ _ _; refine CallN.own _ _ rfl (ht3 (by omega)) (pure_eRw _) _ rfl ?_) | (guard_target = Arith _ _ _; refine Arith.fit (wrap_fit (by first | omega | (simp only [List.length_map]; omega)) (by first | omega | (simp only [List.length_map]; omega))) ?_) | (guard_target = Arith _ _ _; refine Arith.fit (by decide) ?_) | (guard_target = Index _ _ _; first | refine Index.mk _ (idx_map (l := e.kids) (i := i) (by omega)) ?_ | refine Index.mk _ (idx_map (by omega)) ?_) | (guard_target = Need (_ = true) _; refine Need.mk (by first | kernel_rfl | rfl) ?_) | (guard_target = LinkV _ _ _; first  | refine LinkV.no ?_) | (guard_target = GhO _ _ _ _; refine GhO.go ?_) | (guard_target = Need _ _; refine Need.mk (by first | ((simp only [List.length_map, List.length_cons, List.length_nil, maxLen]; constructor <;> omega)) | omega | (simp only [List.length_map]; omega)) ?_))
    all_goals first | trivial | (exact own_congr fun x y hx hy => (rg_act N _ _ (by omega) x y).symm) | (exact own_congr fun x y hx hy => rg_dot N _ _ (by omega) (hk7 (by omega)) hx hy) | (exact own_congr fun x y hx hy => rg_rest N _ _ hk5 hk6 (by omega) hx hy)
theorem relation_ok (m : XModel) (N : Nat) (hm0 : MOk m N) (e : XExpr) (hv : treeB m.sig.tests m.sig.actions e = true) :
    CallX Try.prog 27 [.a 5 (encModel m), .a 3 (encExpr e)] [] (.c (.ro 1 ((tabR N (relG N (testM m) (actM m) e)).map eR))) := by
  rw [encExpr_eq]
  exact relation_all m N hm0 e hv fun k _hk => relation_ok m N hm0 k (treeB_kid hv _hk)
  termination_by SizeOf.sizeOf e
  decreasing_by
    have := List.sizeOf_lt_of_mem _hk
    cases e
    simp only [XExpr.mk.sizeOf_spec]
    show SizeOf.sizeOf k < _
    simp only [XExpr.kids] at this
    omega
end Go.Proofs.Ytlfigjkddnncgaa

namespace Go.Proofs.Ytlfigjkddnncgaa
open Go Go.KA Go.Proofs
set_option maxHeartbeats 16000000
set_option maxRecDepth 100000
theorem isTable_yes (T : List (List Bool)) (r c : Nat) (h1 : T.length = r) (h2 : ∀ x ∈ T, x.length = c) : CallF Try.prog 92 [.c (.ro 1 (T.map eR)), I r, I c] (B true) := by
  have h3 : ∀ i, i < T.length → (T.getD i []).length = c := fun i hi => h2 _ (by rw [getD_eq hi]; exact List.getElem_mem hi)
  refine callF_of_vc htb hm Try.func92 rfl rfl rfl rfl (ann := fun _ => none) (gh := fun _ => false) ?_
  repeat' ((conv => whnf); first | (guard_target = Done _; refine Done.mk ?_) | (guard_target = RetX _ _; refine RetX.mk ?_ ?_) | (guard_target =~ LoopE 4 _ _ _ _ _ _; refine LoopE.mk { α := Nat, keep := [2, 13, 14], ov := fun i => [(15, I (i : Nat))], φ := fun i => i ≤ T.length, μ := fun i => T.length - i } (LoopN.mk (0 : Nat) (by exact Nat.zero_le _) (by (repeat' ((conv => whnf) <;> (first | exact trivial | refine ⟨?_, ?_⟩ | kernel_rfl))); done) (by (repeat' ((conv => whnf) <;> (first | exact trivial | refine ⟨?_, ?_⟩ | kernel_rfl))); done) (by (repeat' ((conv => whnf) <;> (first | exact trivial | refine ⟨?_, ?_⟩ | exact rfl | (simp only [List.map_append, List.map_cons, List.map_nil, List.map_set]; first | done | rfl)))); done) (fun (i : Nat) ha => ?_) (by intro A; first | rfl | (obtain ⟨_, _⟩ := A; rfl) | (obtain ⟨_, _, _⟩ := A; rfl))); have ha : i ≤ T.length := ha; have h4 := h3 i) | (guard_target = Gh _ _ _ _ _; refine Gh.go ⟨(i + 1 : Nat), (by (show i + 1 ≤ _; omega)), (by first | (show _ < _; simp only []; omega) | omega | (simp; omega)), (by (repeat' ((conv => whnf) <;> (first | exact trivial | refine ⟨?_, ?_⟩ | kernel_rfl))); done), (by (repeat' ((conv => whnf) <;> (first | exact trivial | refine ⟨?_, ?_⟩ | kernel_rfl))); done), (by (repeat' ((conv => whnf) <;> (first | exact trivial | refine ⟨?_, ?_⟩ | exact rfl | (simp only [List.map_append, List.map_cons, List.map_nil, List.map_set]; first | done | rfl)))); done)⟩) | (guard_target = Fact _ _; refine Fact.mk fun hL => ?_; (try simp only [List.length_map, maxLen] at hL)) | (guard_target = Branch _ _ _; (first | refine Branch.dec ?_ ?_ | refine Branch.beq ?_ ?_ | refine Branch.bne ?_ ?_ | refine Branch.ndec ?_ ?_ | refine Branch.nb ?_ ?_ | refine Branch.mk ?_ ?_) <;> intro h <;> (try simp only [List.length_map] at h) <;> (try omega) <;> (try contradiction)) | (guard_target = Arith _ _ _; refine Arith.fit (wrap_fit (by first | omega | (simp only [List.length_map]; omega)) (by first | omega | (simp only [List.length_map]; omega))) ?_) | (guard_target = Arith _ _ _; refine Arith.fit (by decide) ?_) | (guard_target = Index _ _ _; first | refine Index.mk _ (idx_getD (l := T) (d := []) (i := i) (by omega)) ?_ | refine Index.mk _ (idx_map (by omega)) ?_) | (guard_target = Need (_ = true) _; refine Need.mk (by first | kernel_rfl | rfl) ?_) | (guard_target = LinkV _ _ _; first  | refine LinkV.no ?_) | (guard_target = GhO _ _ _ _; refine GhO.go ?_) | (guard_target = Need _ _; refine Need.mk (by first  | omega | (simp only [List.length_map]; omega)) ?_))
  all_goals first | rfl | trivial | (exfalso; omega)
theorem table_rows {N : Nat} {A : List (List Bool)} (h : Sq N A) : ∀ x ∈ A, x.length = N := by
  intro x hx
  obtain ⟨i, hi, rfl⟩ := List.mem_iff_getElem.1 hx
  have := h.row i (by rw [← h.len]; exact hi)
  rwa [getD_eq hi] at this
theorem isFrame_ok (m : XModel) (N : Nat) (h : MOk m N) : CallF Try.prog 63 [.a 2 [J m.sig.tests, J m.sig.actions], I m.points, .c (.ro 1 (m.tests.map eR)), .c (.ro 1 (m.acts.map eT))] (B true) := by
  have h1 := validSig_ok m.sig.tests m.sig.actions
  rw [h.sig] at h1
  have h2 := within_ok m.points 1 8
  rw [show rng 1 8 m.points = true by simp only [rng, Bool.and_eq_true, decide_eq_true_eq]; have := h.lo; have := h.hi; have := h.pts; omega] at h2
  have h3 := isTable_yes m.tests m.tests.length N rfl h.trow
  rw [h.tlen, ← h.pts] at h3
  have h4 : ∀ i, i < m.acts.length → CallF Try.prog 92 [.c (.ro 1 ((m.acts.getD i []).map eR)), I m.points, I m.points] (B true) := fun i hi => by
    have hA := h.atab (m.acts.getD i []) (by rw [getD_eq hi]; exact List.getElem_mem hi)
    have := isTable_yes _ N N hA.len (table_rows hA)
    rwa [← h.pts] at this
  have h5 := h.alen
  obtain ⟨⟨mt, ma⟩, mp, mts, mas⟩ := m
  simp only [] at *
  refine callF_of_vc htb hm Try.func63 rfl rfl rfl rfl (ann := fun _ => none) (gh := fun _ => false) ?_
  repeat' ((conv => whnf); first | (guard_target = Done _; refine Done.mk ?_) | (guard_target = RetX _ _; refine RetX.mk ?_ ?_) | (guard_target =~ LoopE 4 _ _ _ _ _ _; refine LoopE.mk { α := Nat, keep := [1, 34, 35], ov := fun i => [(36, I (i : Nat))], φ := fun i => i ≤ mas.length, μ := fun i => mas.length - i } (LoopN.mk (0 : Nat) (by exact Nat.zero_le _) (by (repeat' ((conv => whnf) <;> (first | exact trivial | refine ⟨?_, ?_⟩ | kernel_rfl))); done) (by (repeat' ((conv => whnf) <;> (first | exact trivial | refine ⟨?_, ?_⟩ | kernel_rfl))); done) (by (repeat' ((conv => whnf) <;> (first | exact trivial | refine ⟨?_, ?_⟩ | exact rfl | (simp only [List.map_append, List.map_cons, List.map_nil, List.map_set]; first | done | rfl)))); done) (fun (i : Nat) ha => ?_) (by intro A; first | rfl | (obtain ⟨_, _⟩ := A; rfl) | (obtain ⟨_, _, _⟩ := A; rfl))); have ha : i ≤ mas.length := ha) | (guard_target = Gh _ _ _ _ _; refine Gh.go ⟨(i + 1 : Nat), (by (show i + 1 ≤ _; omega)), (by first | (show _ < _; simp only []; omega) | omega | (simp; omega)), (by (repeat' ((conv => whnf) <;> (first | exact trivial | refine ⟨?_, ?_⟩ | kernel_rfl))); done), (by (repeat' ((conv => whnf) <;> (first | exact trivial | refine ⟨?_, ?_⟩ | kernel_rfl))); done), (by (repeat' ((conv => whnf) <;> (first | exact trivial | refine ⟨?_, ?_⟩ | exact rfl | (simp only [List.map_append, List.map_cons, List.map_nil, List.map_set]; first | done | rfl)))); done)⟩) | (guard_target = Fact _ _; refine Fact.mk fun hL => ?_; (try simp only [List.length_map, maxLen] at hL)) | (guard_target = Branch _ _ _; (first | refine Branch.dec ?_ ?_ | refine Branch.beq ?_ ?_ | refine Branch.bne ?_ ?_ | refine Branch.ndec ?_ ?_ | refine Branch.nb ?_ ?_ | refine Branch.mk ?_ ?_) <;> intro h <;> (try simp only [List.length_map] at h) <;> (try omega) <;> (try contradiction)) | (guard_target = CallN _ 58 _ _ _ _; refine CallN.pure _ _ rfl (h1) rfl _ rfl ?_) | (guard_target = CallN _ 74 _ _ _ _; refine CallN.pure _ _ rfl (h2) rfl _ rfl ?_) | (guard_target = CallN _ 92 _ _ _ _; (first | refine CallN.pure _ _ rfl h3 rfl _ rfl ?_ | refine CallN.pure _ _ rfl (h4 i (by omega)) rfl _ rfl ?_)) | (guard_target = Arith _ _ _; refine Arith.fit (wrap_fit (by first | omega | (simp only [List.length_map]; omega)) (by first | omega | (simp only [List.length_map]; omega))) ?_) | (guard_target = Arith _ _ _; refine Arith.fit (by decide) ?_) | (guard_target = Index _ _ _; first | refine Index.mk _ (idx_getD (l := mas) (d := []) (i := i) (by omega)) ?_ | refine Index.mk _ (idx_map (by omega)) ?_) | (guard_target = Need (_ = true) _; refine Need.mk (by first | kernel_rfl | rfl) ?_) | (guard_target = LinkV _ _ _; first  | refine LinkV.no ?_) | (guard_target = GhO _ _ _ _; refine GhO.go ?_) | (guard_target = Need _ _; refine Need.mk (by first  | omega | (simp only [List.length_map]; omega)) ?_))
  all_goals first | rfl | trivial | (exfalso; simp_all; done)
theorem ValidModel_ok (m : XModel) (N : Nat) (h : MOk m N) : CallF Try.prog 26 [.a 5 (encModel m)] (B true) := by
  have h1 := isFrame_ok m N h
  obtain ⟨⟨mt, ma⟩, mp, mts, mas⟩ := m
  simp only [encModel] at *
  refine callF_of_vc htb hm Try.func26 rfl rfl rfl rfl (ann := fun _ => none) (gh := fun _ => false) ?_
  repeat' ((conv => whnf); first | (guard_target = Done _; refine Done.mk ?_) | (guard_target = RetX _ _; refine RetX.mk ?_ ?_) | (guard_target = Fact _ _; refine Fact.mk fun hL => ?_; (try simp only [List.length_map, maxLen] at hL)) | (guard_target = Branch _ _ _; (first | refine Branch.dec ?_ ?_ | refine Branch.beq ?_ ?_ | refine Branch.bne ?_ ?_ | refine Branch.ndec ?_ ?_ | refine Branch.nb ?_ ?_ | refine Branch.mk ?_ ?_) <;> intro h <;> (try simp only [List.length_map] at h) <;> (try omega) <;> (try contradiction)) | (guard_target = CallN _ 63 _ _ _ _; refine CallN.pure _ _ rfl (h1) rfl _ rfl ?_) | (guard_target = Arith _ _ _; refine Arith.fit (wrap_fit (by first | omega | (simp only [List.length_map]; omega)) (by first | omega | (simp only [List.length_map]; omega))) ?_) | (guard_target = Arith _ _ _; refine Arith.fit (by decide) ?_) | (guard_target = Index _ _ _; first  | refine Index.mk _ (idx_map (by omega)) ?_) | (guard_target = Need (_ = true) _; refine Need.mk (by first | kernel_rfl | rfl) ?_) | (guard_target = LinkV _ _ _; first  | refine LinkV.no ?_) | (guard_target = GhO _ _ _ _; refine GhO.go ?_) | (guard_target = Need _ _; refine Need.mk (by first  | omega | (simp only [List.length_map]; omega)) ?_))
  all_goals first | rfl | trivial
theorem goodE_tree {t a : Int} {e : XExpr} (h : goodE t a e = true) : treeB t a e = true := by
  simp only [goodE, Bool.and_eq_true] at h
  exact h.2.2
theorem RelationOf_ok (m : XModel) (N : Nat) (h : MOk m N) (e : XExpr) (he : goodE m.sig.tests m.sig.actions e = true) : CallX Try.prog 9 [.a 5 (encModel m), .a 3 (encExpr e)] [] (.tup [.c (.ro 1 ((tabR N (relG N (testM m) (actM m) e)).map eR)), I 0]) := by
  have h1 := ValidModel_ok m N h
  have h2 := isExpr_ok m.sig.tests m.sig.actions (sig_bounds h.sig).1 (sig_bounds h.sig).2 e
  rw [he] at h2
  have h3 := relation_ok m N h e (goodE_tree he)
  generalize tabR N (relG N (testM m) (actM m) e) = T at h3 ⊢
  obtain ⟨⟨mt, ma⟩, mp, mts, mas⟩ := m
  obtain ⟨k, n, ks⟩ := e
  simp only [encModel] at *
  refine callX_of_vc htb hm Try.func9 rfl rfl rfl rfl (ann := fun _ => none) (gh := fun _ => false) ?_
  repeat' ((conv => whnf); first | (guard_target = Done _; refine Done.mk ?_) | (guard_target = RetX _ _; refine RetX.mk ?_ ?_) | (guard_target = Fact _ _; refine Fact.mk fun hL => ?_; (try simp only [List.length_map, maxLen] at hL)) | (guard_target = Branch _ _ _; (first | refine Branch.dec ?_ ?_ | refine Branch.beq ?_ ?_ | refine Branch.bne ?_ ?_ | refine Branch.ndec ?_ ?_ | refine Branch.nb ?_ ?_ | refine Branch.mk ?_ ?_) <;> intro h <;> (try simp only [] at h) <;> (try omega) <;> (try contradiction)) | (guard_target = CallN _ 26 _ _ _ _; refine CallN.pure _ _ rfl (h1) rfl _ rfl ?_) | (guard_target = CallN _ 25 _ _ _ _; refine CallN.pure _ _ rfl (h2) rfl _ rfl ?_) | (guard_target = CallN _ 27 _ _ _ _; refine CallN.gen [] _ _ _ rfl (h3) rfl rfl _ rfl ?_) | (guard_target = Arith _ _ _; refine Arith.fit (wrap_fit (by first | omega | (simp only [List.length_map]; omega)) (by first | omega | (simp only [List.length_map]; omega))) ?_) | (guard_target = Arith _ _ _; refine Arith.fit (by decide) ?_) | (guard_target = Index _ _ _; first  | refine Index.mk _ (idx_map (by omega)) ?_) | (guard_target = Need (_ = true) _; refine Need.mk (by first | kernel_rfl | rfl) ?_) | (guard_target = LinkV _ _ _; first  | refine LinkV.no ?_) | (guard_target = GhO _ _ _ _; refine GhO.go ?_) | (guard_target = Need _ _; refine Need.mk (by first  | omega | (simp only [List.length_map]; omega)) ?_))
  all_goals first | rfl | trivial | (exfalso; simp_all; done)
def idxF (f : Int → Bool) (l : List Int) : Int := if l.any f = true then (l.findIdx f : Nat) else -1
theorem idxF_yes {f : Int → Bool} {l : List Int} {i : Nat} (hi : i < l.length) (h : f (l.getD i 0) = true) (hb : ∀ u, u < i → f (l.getD u 0) = false) : idxF f l = i := by
  rw [getD_eq hi] at h
  have ha : l.any f = true := List.any_eq_true.2 ⟨_, List.getElem_mem hi, h⟩
  unfold idxF
  rw [if_pos ha]
  have : l.findIdx f = i := by
    rw [List.findIdx_eq hi]
    refine ⟨h, fun j hj => ?_⟩
    have := hb j hj
    rwa [getD_eq (by omega)] at this
  rw [this]
theorem idxF_no {f : Int → Bool} {l : List Int} (hb : ∀ u, u < l.length → f (l.getD u 0) = false) : idxF f l = -1 := by
  unfold idxF
  rw [if_neg]
  rw [List.any_eq_true]
  rintro ⟨x, hx, h⟩
  obtain ⟨i, hi, rfl⟩ := List.mem_iff_getElem.1 hx
  have := hb i hi
  rw [getD_eq hi, h] at this
  cases this
theorem IndexFunc_ok (k : Nat) (a b : CV) (f : Int → Bool) (l : List Int) (hf : ∀ i, i < l.length → CallF Try.prog k [I (l.getD i 0), .c a, .c b] (B (f (l.getD i 0)))) : CallF Try.prog 71 [.c (.ro 1 (l.map eI)), .clo k [.c a, .c b]] (I (idxF f l)) := by
  refine callF_of_vc htb hm Try.func71 rfl rfl rfl rfl (ann := fun _ => none) (gh := fun _ => false) ?_
  repeat' ((conv => whnf); first | (guard_target = Done _; refine Done.mk ?_; first | ((rw [idxF_yes (i := i) (by omega) (by assumption) ha.2]; rfl); done) | ((rw [idxF_no fun u hu => ha.2 u (by omega)]; rfl); done) | skip) | (guard_target = RetX _ _; refine RetX.mk ?_ ?_) | (guard_target =~ LoopE 2 _ _ _ _ _ _; refine LoopE.mk { α := Nat, keep := [0, 1, 7], ov := fun i => [(8, I (i : Nat))], φ := fun i => i ≤ l.length ∧ ∀ u, u < i → f (l.getD u 0) = false, μ := fun i => l.length - i } (LoopN.mk (0 : Nat) (by exact ⟨Nat.zero_le _, fun u hu => by omega⟩) (by (repeat' ((conv => whnf) <;> (first | exact trivial | refine ⟨?_, ?_⟩ | kernel_rfl))); done) (by (repeat' ((conv => whnf) <;> (first | exact trivial | refine ⟨?_, ?_⟩ | kernel_rfl))); done) (by (repeat' ((conv => whnf) <;> (first | exact trivial | refine ⟨?_, ?_⟩ | exact rfl | (simp only [List.map_append, List.map_cons, List.map_nil, List.map_set]; first | done | rfl)))); done) (fun (i : Nat) ha => ?_) (by intro A; first | rfl | (obtain ⟨_, _⟩ := A; rfl) | (obtain ⟨_, _, _⟩ := A; rfl))); have ha : i ≤ l.length ∧ ∀ u, u < i → f (l.getD u 0) = false := ha) | (guard_target = Gh _ _ _ _ _; refine Gh.go ⟨(i + 1 : Nat), (by exact ⟨by show i + 1 ≤ _; omega, by intro u hu; by_cases e : u = i; (subst e; assumption); exact ha.2 u (by omega)⟩), (by first | (show _ < _; simp only []; omega) | omega | (simp; omega)), (by (repeat' ((conv => whnf) <;> (first | exact trivial | refine ⟨?_, ?_⟩ | kernel_rfl))); done), (by (repeat' ((conv => whnf) <;> (first | exact trivial | refine ⟨?_, ?_⟩ | kernel_rfl))); done), (by (repeat' ((conv => whnf) <;> (first | exact trivial | refine ⟨?_, ?_⟩ | exact rfl | (simp only [List.map_append, List.map_cons, List.map_nil, List.map_set]; first | done | rfl)))); done)⟩) | (guard_target = Fact _ _; refine Fact.mk fun hL => ?_; (try simp only [List.length_map, maxLen] at hL)) | (guard_target = Branch _ _ _; (first | refine Branch.dec ?_ ?_ | refine Branch.beq ?_ ?_ | refine Branch.bne ?_ ?_ | refine Branch.ndec ?_ ?_ | refine Branch.nb ?_ ?_ | refine Branch.mk ?_ ?_) <;> intro h <;> (try simp only [List.length_map] at h) <;> (try omega) <;> (try contradiction)) | (guard_target = CallN _ k _ _ _ _; refine CallN.pure _ _ rfl (hf i (by omega)) rfl _ rfl ?_) | (guard_target = Arith _ _ _; refine Arith.fit (wrap_fit (by first | omega | (simp only [List.length_map]; omega)) (by first | omega | (simp only [List.length_map]; omega))) ?_) | (guard_target = Arith _ _ _; refine Arith.fit (by decide) ?_) | (guard_target = Index _ _ _; first | refine Index.mk _ (idx_getD (l := l) (d := 0) (i := i) (by omega)) ?_ | refine Index.mk _ (idx_map (by omega)) ?_) | (guard_target = Need (_ = true) _; refine Need.mk (by first | kernel_rfl | rfl) ?_) | (guard_target = LinkV _ _ _; first  | refine LinkV.no ?_) | (guard_target = GhO _ _ _ _; refine GhO.go ?_) | (guard_target = Need _ _; refine Need.mk (by first  | omega | (simp only [List.length_map]; omega)) ?_))
  all_goals first | rfl | trivial
theorem idxF_any (f : Int → Bool) (l : List Int) : decide (idxF f l ≥ 0) = l.any f := by
  unfold idxF
  cases l.any f
  · rfl
  · simp
theorem ContainsFunc_ok (k : Nat) (a b : CV) (f : Int → Bool) (l : List Int) (hf : ∀ i, i < l.length → CallF Try.prog k [I (l.getD i 0), .c a, .c b] (B (f (l.getD i 0)))) : CallF Try.prog 29 [.c (.ro 1 (l.map eI)), .clo k [.c a, .c b]] (B (l.any f)) := by
  have h := IndexFunc_ok k a b f l hf
  rw [← idxF_any]
  generalize idxF f l = z at h ⊢
  refine callF_of_vc htb hm Try.func29 rfl rfl rfl rfl (ann := fun _ => none) (gh := fun _ => false) ?_
  repeat' ((conv => whnf); first | (guard_target = Done _; refine Done.mk ?_) | (guard_target = RetX _ _; refine RetX.mk ?_ ?_) | (guard_target = Fact _ _; refine Fact.mk fun hL => ?_; (try simp only [List.length_map, maxLen] at hL)) | (guard_target = Branch _ _ _; (first | refine Branch.dec ?_ ?_ | refine Branch.beq ?_ ?_ | refine Branch.bne ?_ ?_ | refine Branch.ndec ?_ ?_ | refine Branch.nb ?_ ?_ | refine Branch.mk ?_ ?_) <;> intro h <;> (try simp only [List.length_map] at h) <;> (try omega) <;> (try contradiction)) | (guard_target = CallN _ 71 _ _ _ _; refine CallN.pure _ _ rfl (h) rfl _ rfl ?_) | (guard_target = Arith _ _ _; refine Arith.fit (wrap_fit (by first | omega | (simp only [List.length_map]; omega)) (by first | omega | (simp only [List.length_map]; omega))) ?_) | (guard_target = Arith _ _ _; refine Arith.fit (by decide) ?_) | (guard_target = Index _ _ _; first  | refine Index.mk _ (idx_map (by omega)) ?_) | (guard_target = Need (_ = true) _; refine Need.mk (by first | kernel_rfl | rfl) ?_) | (guard_target = LinkV _ _ _; first  | refine LinkV.no ?_) | (guard_target = GhO _ _ _ _; refine GhO.go ?_) | (guard_target = Need _ _; refine Need.mk (by first  | omega | (simp only [List.length_map]; omega)) ?_))
  all_goals first | rfl | trivial
end Go.Proofs.Ytlfigjkddnncgaa

namespace Go.Proofs.Ytlfigjkddnncgaa
open Go Go.KA Go.Proofs
set_option maxHeartbeats 16000000
set_option maxRecDepth 100000
def selR (n : Nat) (p : Nat → Bool) : List Int := ((List.range n).filter p).map fun (i : Nat) => (i : Int)
theorem selR_yes {n : Nat} {p : Nat → Bool} (h : p n = true) : selR (n + 1) p = selR n p ++ [(n : Int)] := by
  simp [selR, List.range_succ, h]
theorem selR_no {n : Nat} {p : Nat → Bool} (h : p n = false) : selR (n + 1) p = selR n p := by
  simp [selR, List.range_succ, h]
theorem selR_len (n : Nat) (p : Nat → Bool) : (selR n p).length ≤ n := by
  have := List.length_filter_le p (List.range n)
  simpa [selR] using this
theorem asc_yes (l : List Int) (h : ∀ i, 0 < i → i < l.length → l.getD (i - 1) 0 < l.getD i 0) : CallF Try.prog 69 [.c (.ro 1 (l.map eI))] (B true) := by
  refine callF_of_vc htb hm Try.func69 rfl rfl rfl rfl (ann := fun _ => none) (gh := fun _ => false) ?_
  repeat' ((conv => whnf); first | (guard_target = Done _; refine Done.mk ?_) | (guard_target = RetX _ _; refine RetX.mk ?_ ?_) | (guard_target =~ LoopE 2 _ _ _ _ _ _; refine LoopE.mk { α := Nat, keep := [0], ov := fun i => [(3, I (i : Nat))], φ := fun i => 1 ≤ i, μ := fun i => l.length - i } (LoopN.mk (1 : Nat) (by exact Nat.le_refl _) (by (repeat' ((conv => whnf) <;> (first | exact trivial | refine ⟨?_, ?_⟩ | kernel_rfl))); done) (by (repeat' ((conv => whnf) <;> (first | exact trivial | refine ⟨?_, ?_⟩ | kernel_rfl))); done) (by (repeat' ((conv => whnf) <;> (first | exact trivial | refine ⟨?_, ?_⟩ | exact rfl | (simp only [List.map_append, List.map_cons, List.map_nil, List.map_set]; first | done | rfl)))); done) (fun (i : Nat) ha => ?_) (by intro A; first | rfl | (obtain ⟨_, _⟩ := A; rfl) | (obtain ⟨_, _, _⟩ := A; rfl))); have ha : 1 ≤ i := ha; have h4 := h i (by omega)) | (guard_target = Gh _ _ _ _ _; refine Gh.go ⟨(i + 1 : Nat), (by (show 1 ≤ i + 1; omega)), (by first | (show _ < _; simp only []; omega) | omega | (simp; omega)), (by (repeat' ((conv => whnf) <;> (first | exact trivial | refine ⟨?_, ?_⟩ | kernel_rfl))); done), (by (repeat' ((conv => whnf) <;> (first | exact trivial | refine ⟨?_, ?_⟩ | kernel_rfl))); done), (by (repeat' ((conv => whnf) <;> (first | exact trivial | refine ⟨?_, ?_⟩ | exact rfl | (simp only [List.map_append, List.map_cons, List.map_nil, List.map_set]; first | done | rfl)))); done)⟩) | (guard_target = Fact _ _; refine Fact.mk fun hL => ?_; (try simp only [List.length_map, maxLen] at hL)) | (guard_target = Branch _ _ _; (first | refine Branch.dec ?_ ?_ | refine Branch.beq ?_ ?_ | refine Branch.bne ?_ ?_ | refine Branch.ndec ?_ ?_ | refine Branch.nb ?_ ?_ | refine Branch.mk ?_ ?_) <;> intro h <;> (try simp only [List.length_map] at h) <;> (try omega) <;> (try contradiction)) | (guard_target = Index _ _ _; refine Index.mk _ (show (l.map eI)[((i : Int) - 1).toNat]? = some (eI (l.getD (i - 1) 0)) by rw [show ((i : Int) - 1).toNat = i - 1 by omega]; exact idx_getD (by omega)) ?_) | (guard_target = Arith _ _ _; refine Arith.fit (wrap_fit (by first | omega | (simp only [List.length_map]; omega)) (by first | omega | (simp only [List.length_map]; omega))) ?_) | (guard_target = Arith _ _ _; refine Arith.fit (by decide) ?_) | (guard_target = Index _ _ _; first | refine Index.mk _ (idx_getD (l := l) (d := 0) (i := i) (by omega)) ?_ | refine Index.mk _ (idx_map (by omega)) ?_) | (guard_target = Need (_ = true) _; refine Need.mk (by first | kernel_rfl | rfl) ?_) | (guard_target = LinkV _ _ _; first  | refine LinkV.no ?_) | (guard_target = GhO _ _ _ _; refine GhO.go ?_) | (guard_target = Need _ _; refine Need.mk (by first  | omega | (simp only [List.length_map]; omega)) ?_))
  all_goals first | rfl | trivial | (exfalso; omega)
structure SetOk (l : List Int) (N : Nat) : Prop where
  asc : ∀ i, 0 < i → i < l.length → l.getD (i - 1) 0 < l.getD i 0
  mem : ∀ x ∈ l, 0 ≤ x ∧ x < N
theorem isSet_ok (m : XModel) (N : Nat) (h : MOk m N) (l : List Int) (hl : SetOk l N) : CallF Try.prog 28 [.a 5 (encModel m), .c (.ro 1 (l.map eI))] (B true) := by
  have h1 := asc_yes l hl.asc
  have h2 := inRange_ok l m.points (by have := h.hi; have := h.pts; omega)
  rw [show l.all (rng 0 (m.points - 1)) = true by
    rw [List.all_eq_true]
    intro x hx
    have := hl.mem x hx
    have := h.pts
    simp only [rng, Bool.and_eq_true, decide_eq_true_eq]
    omega] at h2
  obtain ⟨⟨mt, ma⟩, mp, mts, mas⟩ := m
  simp only [encModel] at *
  refine callF_of_vc htb hm Try.func28 rfl rfl rfl rfl (ann := fun _ => none) (gh := fun _ => false) ?_
  repeat' ((conv => whnf); first | (guard_target = Done _; refine Done.mk ?_) | (guard_target = RetX _ _; refine RetX.mk ?_ ?_) | (guard_target = Fact _ _; refine Fact.mk fun hL => ?_; (try simp only [List.length_map, maxLen] at hL)) | (guard_target = Branch _ _ _; (first | refine Branch.dec ?_ ?_ | refine Branch.beq ?_ ?_ | refine Branch.bne ?_ ?_ | refine Branch.ndec ?_ ?_ | refine Branch.nb ?_ ?_ | refine Branch.mk ?_ ?_) <;> intro h <;> (try simp only [] at h) <;> (try omega) <;> (try contradiction)) | (guard_target = CallN _ 69 _ _ _ _; refine CallN.pure _ _ rfl (h1) rfl _ rfl ?_) | (guard_target = CallN _ 70 _ _ _ _; refine CallN.pure _ _ rfl (h2) rfl _ rfl ?_) | (guard_target = Arith _ _ _; refine Arith.fit (wrap_fit (by first | omega | (simp only [List.length_map]; omega)) (by first | omega | (simp only [List.length_map]; omega))) ?_) | (guard_target = Arith _ _ _; refine Arith.fit (by decide) ?_) | (guard_target = Index _ _ _; first  | refine Index.mk _ (idx_map (by omega)) ?_) | (guard_target = Need (_ = true) _; refine Need.mk (by first | kernel_rfl | rfl) ?_) | (guard_target = LinkV _ _ _; first  | refine LinkV.no ?_) | (guard_target = GhO _ _ _ _; refine GhO.go ?_) | (guard_target = Need _ _; refine Need.mk (by first  | omega | (simp only [List.length_map]; omega)) ?_))
  all_goals first | rfl | trivial | (exfalso; simp_all; done)
abbrev ptB (T : List (List Bool)) : CV := .rp 1 [.ro 1 (T.map eR)]
abbrev ptY (y : Int) : CV := .rp 1 [J y]
theorem img1_ok (N : Nat) (T : List (List Bool)) (hT : Sq N T) (x : Int) (y : Nat) (hx : 0 ≤ x ∧ x < N) (hy : y < N) : CallF Try.prog 30 [I x, .c (ptB T), .c (ptY (y : Int))] (B (relT T x.toNat y)) := by
  have h1 := hT.len
  have h2 := hT.row x.toNat (by omega)
  refine callF_of_vc htb hm Try.func30 rfl rfl rfl rfl (ann := fun _ => none) (gh := fun _ => false) ?_
  repeat' ((conv => whnf); first | (guard_target = Done _; refine Done.mk ?_) | (guard_target = RetX _ _; refine RetX.mk ?_ ?_) | (guard_target = Fact _ _; refine Fact.mk fun hL => ?_; (try simp only [List.length_map, maxLen] at hL)) | (guard_target = Branch _ _ _; (first | refine Branch.dec ?_ ?_ | refine Branch.beq ?_ ?_ | refine Branch.bne ?_ ?_ | refine Branch.ndec ?_ ?_ | refine Branch.nb ?_ ?_ | refine Branch.mk ?_ ?_) <;> intro h <;> (try simp only [List.length_map] at h) <;> (try omega) <;> (try contradiction)) | (guard_target = Arith _ _ _; refine Arith.fit (wrap_fit (by first | omega | (simp only [List.length_map]; omega)) (by first | omega | (simp only [List.length_map]; omega))) ?_) | (guard_target = Arith _ _ _; refine Arith.fit (by decide) ?_) | (guard_target = Index _ _ _; first | refine Index.mk _ (idx_getD (l := T) (d := []) (i := x.toNat) (by omega)) ?_ | refine Index.mk _ (idx_getD (l := T.getD x.toNat []) (d := false) (i := y) (by omega)) ?_ | refine Index.mk _ (idx_map (by omega)) ?_) | (guard_target = Need (_ = true) _; refine Need.mk (by first | kernel_rfl | rfl) ?_) | (guard_target = LinkV _ _ _; first  | refine LinkV.no ?_) | (guard_target = GhO _ _ _ _; refine GhO.go ?_) | (guard_target = Need _ _; refine Need.mk (by first  | omega | (simp only [List.length_map]; omega)) ?_))
  all_goals first | rfl | trivial
def imgP (R : Rel) (l : List Int) (y : Nat) : Bool := l.any fun x => R x.toNat y
theorem ImageOf_ok (m : XModel) (N : Nat) (h : MOk m N) (e : XExpr) (he : goodE m.sig.tests m.sig.actions e = true) (l : List Int) (hl : SetOk l N) (T : List (List Bool)) (hT : T = tabR N (relG N (testM m) (actM m) e)) :
    CallX Try.prog 12 [.a 5 (encModel m), .a 3 (encExpr e), .c (.ro 1 (l.map eI))] [] (.tup [.c (.ows 2 1 ((selR N (imgP (relT T) l)).map eI)), I 0]) := by
  have h1 := ValidModel_ok m N h
  have h2 := isExpr_ok m.sig.tests m.sig.actions (sig_bounds h.sig).1 (sig_bounds h.sig).2 e
  rw [he] at h2
  have h3 := relation_ok m N h e (goodE_tree he)
  rw [← hT] at h3
  have hsq : Sq N T := by rw [hT]; exact tabR_sq _ _
  have h4 := isSet_ok m N h l hl
  have h5 := h.pts
  have h6 := h.hi
  have hcl : ∀ y, y < N → CallF Try.prog 29 [.c (.ro 1 (l.map eI)), .clo 30 [.c (ptB T), .c (ptY (y : Int))]] (B (imgP (relT T) l y)) := fun y hy =>
    ContainsFunc_ok _ _ _ (fun x => relT T x.toNat y) l fun i hi => img1_ok N T hsq _ y (hl.mem _ (by rw [getD_eq hi]; exact List.getElem_mem hi)) hy
  obtain ⟨⟨mt, ma⟩, mp, mts, mas⟩ := m
  obtain ⟨k, n, ks⟩ := e
  simp only [encModel] at *
  generalize imgP (relT T) l = P at hcl ⊢
  refine callX_of_vc htb hm Try.func12 rfl rfl rfl rfl (ann := fun _ => none) (gh := fun _ => false) ?_
  repeat' ((conv => whnf); first | (guard_target = Done _; refine Done.mk ?_) | (guard_target = RetX _ _; refine RetX.mk ?_ ?_) | (guard_target =~ LoopE 8 _ _ _ _ _ _; refine LoopE.mk { α := List Int × Nat, keep := [2, 8, 30], ov := fun ⟨zs, y⟩ => [(9, .lw 5), (31, I (y : Nat))], hv := fun ⟨zs, y⟩ => [(5, .row none 2 1 (zs.map eI))], φ := fun ⟨zs, y⟩ => y ≤ N ∧ zs = selR y P, μ := fun ⟨zs, y⟩ => N - y } (LoopN.mk (([], 0) : List Int × Nat) (by exact ⟨Nat.zero_le _, rfl⟩) (by (repeat' ((conv => whnf) <;> (first | exact trivial | refine ⟨?_, ?_⟩ | kernel_rfl))); done) (by (repeat' ((conv => whnf) <;> (first | exact trivial | refine ⟨?_, ?_⟩ | kernel_rfl))); done) (by (repeat' ((conv => whnf) <;> (first | exact trivial | refine ⟨?_, ?_⟩ | exact rfl | (simp only [List.map_append, List.map_cons, List.map_nil, List.map_set]; first | done | rfl)))); done) (fun A ha => ?_) (by intro A; first | rfl | (obtain ⟨_, _⟩ := A; rfl) | (obtain ⟨_, _, _⟩ := A; rfl))); obtain ⟨zs, y⟩ := A; have ha : y ≤ N ∧ zs = selR y P := ha; have hzl : zs.length ≤ y := (by rw [ha.2]; exact selR_len _ _)) | (guard_target = Gh _ _ _ _ _; refine Gh.go ⟨((zs ++ [(y : Int)], y + 1) : List Int × Nat), (by exact ⟨by show y + 1 ≤ _; omega, by show zs ++ _ = _; rw [selR_yes (by assumption), ha.2]⟩), (by first | (show _ < _; simp only []; omega) | omega | (simp; omega)), (by (repeat' ((conv => whnf) <;> (first | exact trivial | refine ⟨?_, ?_⟩ | kernel_rfl))); done), (by (repeat' ((conv => whnf) <;> (first | exact trivial | refine ⟨?_, ?_⟩ | kernel_rfl))); done), (by (repeat' ((conv => whnf) <;> (first | exact trivial | refine ⟨?_, ?_⟩ | exact rfl | (simp only [List.map_append, List.map_cons, List.map_nil]; first | done | rfl)))); done)⟩) | (guard_target = Gh _ _ _ _ _; refine Gh.go ⟨((zs, y + 1) : List Int × Nat), (by exact ⟨by show y + 1 ≤ _; omega, by show zs = _; rw [selR_no (by assumption), ha.2]⟩), (by first | (show _ < _; simp only []; omega) | omega | (simp; omega)), (by (repeat' ((conv => whnf) <;> (first | exact trivial | refine ⟨?_, ?_⟩ | kernel_rfl))); done), (by (repeat' ((conv => whnf) <;> (first | exact trivial | refine ⟨?_, ?_⟩ | kernel_rfl))); done), (by (repeat' ((conv => whnf) <;> (first | exact trivial | refine ⟨?_, ?_⟩ | exact rfl | (simp only [List.map_append, List.map_cons, List.map_nil, List.map_set]; first | done | rfl)))); done)⟩) | (guard_target = Fact _ _; refine Fact.mk fun hL => ?_; (try simp only [List.length_map, maxLen] at hL)) | (guard_target = Branch _ _ _; (first | refine Branch.dec ?_ ?_ | refine Branch.beq ?_ ?_ | refine Branch.bne ?_ ?_ | refine Branch.ndec ?_ ?_ | refine Branch.nb ?_ ?_ | refine Branch.mk ?_ ?_) <;> intro h <;> (try simp only [] at h) <;> (try omega) <;> (try contradiction)) | (guard_target = CallN _ 26 _ _ _ _; refine CallN.pure _ _ rfl (h1) rfl _ rfl ?_) | (guard_target = CallN _ 25 _ _ _ _; refine CallN.pure _ _ rfl (h2) rfl _ rfl ?_) | (guard_target = CallN _ 27 _ _ _ _; refine CallN.gen [] _ _ _ rfl (h3) rfl rfl _ rfl ?_) | (guard_target = CallN _ 28 _ _ _ _; refine CallN.pure _ _ rfl (h4) rfl _ rfl ?_) | (guard_target = CallN _ 29 _ _ _ _; refine CallN.pure _ _ rfl (hcl y (by omega)) rfl _ rfl ?_) | (guard_target = Arith _ _ _; refine Arith.fit (wrap_fit (by first | omega | (simp only [List.length_map]; omega)) (by first | omega | (simp only [List.length_map]; omega))) ?_) | (guard_target = Arith _ _ _; refine Arith.fit (by decide) ?_) | (guard_target = Index _ _ _; first  | refine Index.mk _ (idx_map (by omega)) ?_) | (guard_target = Need (_ = true) _; refine Need.mk (by first | kernel_rfl | rfl) ?_) | (guard_target = LinkV _ _ _; first  | refine LinkV.no ?_) | (guard_target = GhO _ _ _ _; refine GhO.go ?_) | (guard_target = Need _ _; refine Need.mk (by first | ((simp only [List.length_map, List.length_cons, List.length_nil, maxLen]; constructor <;> omega)) | omega | (simp only [List.length_map]; omega)) ?_))
  all_goals first | rfl | trivial | (rw [ha.2, show y = N by omega]; done) | (rw [ha.2, show y = N by omega]; rfl) | (exfalso; simp_all; done)
end Go.Proofs.Ytlfigjkddnncgaa
