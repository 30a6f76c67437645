/- In the model of a world the relation of the expression of a program has the pairs of its runs: the law's check of it. No conditions but that program and world are valid and small. -/
import Derived.Test.YtlfigjkddnncgaaDU
import Derived.Test.YtlfigjkddnncgaaPC
namespace Go.Proofs.Ytlfigjkddnncgaa
open Go Go.KA Go.Proofs
set_option maxHeartbeats 16000000
set_option maxRecDepth 100000
mutual
theorem plE_nodes : ∀ (p : XProg) (left : Int), 0 ≤ plE p left → plE p left = left - nodesP p
  | .mk k n c ks, left, h => by
    rw [plE] at h ⊢
    rw [nodesP, plS_nodes ks _ h]
    omega
theorem plS_nodes : ∀ (l : List XProg) (left : Int), 0 ≤ plS l left → plS l left = left - nodesL l
  | [], left, h => by rw [plS, nodesL]; omega
  | x :: xs, left, h => by
    rw [plS] at h ⊢
    rw [nodesL]
    split
    · rename_i h0
      rw [if_pos h0] at h
      omega
    · rename_i h0
      rw [if_neg h0] at h
      have h1 := plS_nodes xs _ h
      by_cases h2 : 0 ≤ plE x left
      · rw [h1, plE_nodes x left h2]; omega
      · omega
end
theorem goodP_nodes {t a : Int} {p : XProg} (h : goodP t a p = true) : nodesP p ≤ 60 := by
  simp only [goodP, Bool.and_eq_true, decide_eq_true_eq] at h
  have := plE_nodes p 60 h.1
  omega
theorem bendAtom_len (v : Int) (l : List Int) : (bendAtom v l).length = l.length := by cases l <;> rfl
theorem a2world_len {g : XSig} (more : List UInt8) : 1 ≤ (a2world g more).atoms.length ∧ (a2world g more).atoms.length ≤ 6 := by
  have h1 := statesN_in (src0 more)
  have h2 : (atomsW (atomsN g.tests) (src0 more)).length = statesN (src0 more) := runV_len _ _ _ _
  have h3 : (a2wd g more).atoms.length = statesN (src0 more) := by
    show (worldD (atomsN g.tests) g (src0 more)).1.length = _
    unfold worldD
    simp only []
    split
    · rw [bendAtom_len, h2]
    · split
      · exact h2
      · split
        · exact h2
        · exact h2
  unfold a2world
  split
  · omega
  · exact ⟨Nat.le_refl 1, by show 1 ≤ 6; decide⟩
theorem getD_cg {N : Nat} {R Q : XExpr → Rel} {ks : List XExpr} (h : ∀ k ∈ ks, ∀ x y, x < N → y < N → R k x y = Q k x y) (i : Nat) {x y : Nat} (hx : x < N) (hy : y < N) : (ks.map R).getD i zeroM x y = (ks.map Q).getD i zeroM x y := by
  rw [List.getD_eq_getElem?_getD, List.getD_eq_getElem?_getD, List.getElem?_map, List.getElem?_map]
  by_cases hi : i < ks.length
  · rw [List.getElem?_eq_getElem hi]
    exact h _ (List.getElem_mem hi) x y hx hy
  · rw [List.getElem?_eq_none (by omega)]
    rfl
theorem relG_cg {N : Nat} {t a : Int} {test test' : Int → Nat → Bool} {act : Int → Rel} {ac : Int → Nat → Option Nat} (ht : ∀ n x, 0 ≤ n → n < t → x < N → test n x = test' n x) (hA : ∀ n x y, 0 ≤ n → n < a → x < N → y < N → act n x y = acR ac n x y) :
    ∀ (m : Nat) (e : XExpr), SizeOf.sizeOf e ≤ m → treeB t a e = true → ∀ x y, x < N → y < N → relG N test act e x y = relE N test' ac e x y := by
  intro m
  induction m with
  | zero =>
    intro e he
    cases e
    simp only [XExpr.mk.sizeOf_spec] at he
    omega
  | succ m ih =>
    intro e he hv x y hx hy
    have hk : ∀ k ∈ e.kids, ∀ x y, x < N → y < N → relG N test act k x y = relE N test' ac k x y := fun k hk x y hx hy => by
      have hs : SizeOf.sizeOf k < SizeOf.sizeOf e := by
        have := List.sizeOf_lt_of_mem hk
        cases e
        simp only [XExpr.mk.sizeOf_spec]
        simp only [XExpr.kids] at this
        omega
      exact ih k (by omega) (treeB_kid hv hk) x y hx hy
    have g : ∀ i {x y : Nat}, x < N → y < N → (e.kids.map (relG N test act)).getD i zeroM x y = (e.kids.map (relE N test' ac)).getD i zeroM x y := fun i _ _ hx hy => getD_cg hk i hx hy
    rw [treeB_eq] at hv
    simp only [Bool.and_eq_true, beq_iff_eq] at hv
    rw [relG_eq, relE_eq]
    unfold relGK relK
    split
    · rename_i h4
      have hn := hv.2
      rw [h4] at hn
      simp [rng] at hn
      exact hA e.num x y (by omega) (by omega) hx hy
    · split
      · exact cmp_cg (fun z hz => g 0 hx hz) (fun z hz => g 1 hz hy)
      · split
        · exact sqI_cg (fun x y hx hy => by unfold onR; rw [g 0 hx hy]) N hx hy
        · split
          · rfl
          · split
            · rename_i h3
              have hn := hv.2
              rw [h3] at hn
              simp [rng] at hn
              dsimp only
              rw [ht e.num x (by omega) (by omega) hx]
            · split
              · dsimp only; rw [g 0 hx hy]
              · split
                · dsimp only; rw [g 0 hx hy, g 1 hx hy]
                · rfl
theorem modelW_ok {t a : Int} {w : XWorld} (hs : goodSig t a = true) (hw : goodWorld t a w = true) (h8 : 1 ≤ w.atoms.length ∧ w.atoms.length ≤ 8) : MOk (modelW t a w) w.atoms.length where
  sig := hs
  pts := rfl
  lo := h8.1
  hi := h8.2
  tlen := by
    have := sig_bounds hs
    show ((List.map _ (List.range t.toNat)).length : Int) = t
    simp
    omega
  trow := fun r hr => by
    obtain ⟨i, _, rfl⟩ := List.mem_map.1 hr
    simp
  alen := by
    have := (worldOk hw).2
    show ((List.map _ (List.range w.acts.length)).length : Int) = a
    simpa using this
  atab := fun A hA => by
    obtain ⟨i, _, rfl⟩ := List.mem_map.1 hA
    exact tabR_sq _ _
theorem testM_W {t a : Int} {w : XWorld} (n : Int) (x : Nat) (h0 : 0 ≤ n) (h1 : n < t) (hx : x < w.atoms.length) : testM (modelW t a w) n x = testW w n x := by
  show (((List.range t.toNat).map _).getD n.toNat []).getD x false = bitE n (at0 w (x : Int))
  rw [range_getD (show n.toNat < t.toNat by omega), show ((n.toNat : Nat) : Int) = n by omega]
  rw [List.getD_eq_getElem?_getD, List.getElem?_map, List.getElem?_eq_getElem hx]
  show bitE n w.atoms[x] = bitE n (w.atoms.getD x 0)
  rw [getD_eq hx]
theorem actM_W {t a : Int} {w : XWorld} (hw : WOk w) (n : Int) (x y : Nat) (h0 : 0 ≤ n) (h1 : n < w.acts.length) (hx : x < w.atoms.length) (hy : y < w.atoms.length) : actM (modelW t a w) n x y = acR (acW w) n x y := by
  show ((((List.range w.acts.length).map _).getD n.toNat []).getD x []).getD y false = _
  rw [range_getD (show n.toNat < w.acts.length by omega), range_getD hx, range_getD hy]
  unfold actR acR acW
  generalize (w.acts.getD n.toNat []).getD x 0 = v
  split
  · rw [show (v == (y : Int)) = false by rw [beq_eq_false_iff_ne]; omega]
    rfl
  · by_cases e : v = (y : Int)
    · subst e; simp
    · rw [show (v == (y : Int)) = false by rw [beq_eq_false_iff_ne]; exact e]
      symm
      rw [beq_eq_false_iff_ne]
      intro e2
      have := Option.some.inj e2
      omega
theorem runProg_ok {t a : Int} {w : XWorld} {p : XProg} (hs : goodSig t a = true) (hw : goodWorld t a w = true) (hp : goodP t a p = true) {s : Nat} (hx : s < w.atoms.length) :
    ∃ c r', Run w 500 p ⟨(s : Int), [at0 w (s : Int)], [], 0⟩ c r' ∧ CallX Try.prog 13 [.a 2 [J t, J a], .a 2 (encWorld w), .a 6 (encProg p), I s, I 500] [] (if c = 0 then runT r' else noneT c) := by
  have h4 : runOk w s 500 = true := by
    simp only [runOk, rng, Bool.and_eq_true, decide_eq_true_eq]
    omega
  obtain ⟨c, r', hr⟩ := Run.ex (worldOk hw).1 (worldOk hw).2 (Int.le_refl 500) _ _ p ⟨(s : Int), [at0 w (s : Int)], [], 0⟩ (Nat.le_refl _) (Nat.le_refl _) (progOk hp) (run_begin h4)
  refine ⟨c, r', hr, ?_⟩
  by_cases hc : c = 0
  · subst hc
    rw [if_pos rfl]
    exact implProg_run t a w p s 500 hs hw hp h4 hr
  · rw [if_neg hc]
    exact implProg_bad t a w p s 500 hs hw hp h4 hr hc
theorem a2Related_ok {t a : Int} {w : XWorld} {p : XProg} (hs : goodSig t a = true) (hw : goodWorld t a w = true) (hp : goodP t a p = true) (h8 : 1 ≤ w.atoms.length ∧ w.atoms.length ≤ 6) (T : List (List Bool)) (hT : T = tabR w.atoms.length (relE w.atoms.length (testW w) (acW w) (progE p))) :
    CallF Try.prog 10 [.a 2 [J t, J a], .a 2 (encWorld w), .a 6 (encProg p), .c (.ro 1 (T.map eR))] (B true) := by
  have hlen : T.length = w.atoms.length := by rw [hT]; simp
  have hrow : ∀ x, x < w.atoms.length → (T.getD x []).length = w.atoms.length := fun x hx => by rw [hT, range_getD hx]; simp
  have hsz : (nodesP p + 1) * w.atoms.length ≤ 500 := Nat.le_trans (Nat.mul_le_mul (Nat.succ_le_succ (goodP_nodes hp)) h8.2) (by decide)
  have core : ∀ x y, x < w.atoms.length → y < w.atoms.length → ∀ {c : Int} {r' : RS}, Run w 500 p ⟨(x : Int), [at0 w (x : Int)], [], 0⟩ c r' → (T.getD x []).getD y false = (c == 0 && r'.st == (y : Int)) := fun x y hx hy c r' hr => by
    rw [hT, range_getD hx, range_getD hy]
    exact model_core (worldOk hw).1 (progOk hp) hsz hx hy hr
  have hrun : ∀ s : Nat, s < w.atoms.length → _ := fun s hx => runProg_ok hs hw hp hx
  obtain ⟨pk, pn, ⟨ck, cn, cs⟩, ks⟩ := p
  refine callF_of_vc htb hm Try.func10 rfl rfl rfl rfl (ann := fun _ => none) (gh := fun _ => false) ?_
  repeat' ((conv => whnf); first | (guard_target = Done _; refine Done.mk ?_) | (guard_target = RetX _ _; refine RetX.mk ?_ ?_) | (guard_target =~ LoopE 5 _ _ _ _ _ _; refine LoopE.mk { α := Nat, keep := [3, 4, 5, 6, 9], ov := fun s => [(10, I (s : Nat))], φ := fun s => s ≤ w.atoms.length, μ := fun s => w.atoms.length - s } (LoopN.mk (0 : Nat) (by exact Nat.zero_le _) (by (repeat' ((conv => whnf) <;> (first | exact trivial | refine ⟨?_, ?_⟩ | kernel_rfl))); done) (by (repeat' ((conv => whnf) <;> (first | exact trivial | refine ⟨?_, ?_⟩ | kernel_rfl))); done) (by (repeat' ((conv => whnf) <;> (first | exact trivial | refine ⟨?_, ?_⟩ | exact rfl | (simp only [List.map_append, List.map_cons, List.map_nil, List.map_set]; first | done | rfl)))); done) (fun (s : Nat) ha => ?_) (by intro A; first | rfl | (obtain ⟨_, _⟩ := A; rfl) | (obtain ⟨_, _, _⟩ := A; rfl))); have ha : s ≤ w.atoms.length := ha; have hA1 := ha) | (guard_target =~ LoopE 11 _ _ _ _ _ _; refine LoopE.mk { α := Nat, keep := [3, 4, 5, 6, 9, 10, 11, 14], ov := fun u => [(15, I (u : Nat))], φ := fun u => u ≤ w.atoms.length, μ := fun u => w.atoms.length - u } (LoopN.mk (0 : Nat) (by exact Nat.zero_le _) (by (repeat' ((conv => whnf) <;> (first | exact trivial | refine ⟨?_, ?_⟩ | kernel_rfl))); done) (by (repeat' ((conv => whnf) <;> (first | exact trivial | refine ⟨?_, ?_⟩ | kernel_rfl))); done) (by (repeat' ((conv => whnf) <;> (first | exact trivial | refine ⟨?_, ?_⟩ | exact rfl | (simp only [List.map_append, List.map_cons, List.map_nil, List.map_set]; first | done | rfl)))); done) (fun (u : Nat) ha => ?_) (by intro A; first | rfl | (obtain ⟨_, _⟩ := A; rfl) | (obtain ⟨_, _, _⟩ := A; rfl))); have ha : u ≤ w.atoms.length := ha; have hA2 := ha) | (guard_target = Gh _ _ _ _ _; refine Gh.go ⟨(u + 1 : Nat), (by (show u + 1 ≤ _; omega)), (by first | (show _ < _; simp only []; omega) | omega | (simp; omega)), (by (repeat' ((conv => whnf) <;> (first | exact trivial | refine ⟨?_, ?_⟩ | kernel_rfl))); done), (by (repeat' ((conv => whnf) <;> (first | exact trivial | refine ⟨?_, ?_⟩ | kernel_rfl))); done), (by (repeat' ((conv => whnf) <;> (first | exact trivial | refine ⟨?_, ?_⟩ | exact rfl | (simp only [List.map_append, List.map_cons, List.map_nil, List.map_set]; first | done | rfl)))); done)⟩) | (guard_target = Gh _ _ _ _ _; refine Gh.go ⟨(s + 1 : Nat), (by (show s + 1 ≤ _; omega)), (by first | (show _ < _; simp only []; omega) | omega | (simp; omega)), (by (repeat' ((conv => whnf) <;> (first | exact trivial | refine ⟨?_, ?_⟩ | kernel_rfl))); done), (by (repeat' ((conv => whnf) <;> (first | exact trivial | refine ⟨?_, ?_⟩ | kernel_rfl))); done), (by (repeat' ((conv => whnf) <;> (first | exact trivial | refine ⟨?_, ?_⟩ | exact rfl | (simp only [List.map_append, List.map_cons, List.map_nil, List.map_set]; first | done | rfl)))); done)⟩) | (guard_target = Fact _ _; refine Fact.mk fun hL => ?_; (try simp only [List.length_map, maxLen] at hL)) | (guard_target = Branch _ _ _; (first | refine Branch.dec ?_ ?_ | refine Branch.beq ?_ ?_ | refine Branch.bne ?_ ?_ | refine Branch.ndec ?_ ?_ | refine Branch.nb ?_ ?_ | refine Branch.mk ?_ ?_) <;> intro h <;> (try simp only [List.length_map] at h) <;> (try omega) <;> (try contradiction)) | (guard_target = CallN _ 13 _ _ _ _; (obtain ⟨c, r', hr, hc⟩ := hrun s (by omega); have hcore := fun y hy => core s y (by omega) hy hr; rcases Decidable.em (c = 0) with h0 | h0 <;> (first | rw [if_pos h0] at hc | rw [if_neg h0] at hc) <;> refine CallN.gen [] _ _ _ rfl hc rfl rfl _ rfl ?_)) | (guard_target = Arith _ _ _; refine Arith.fit (wrap_fit (by first | omega | (simp only [List.length_map]; omega)) (by first | omega | (simp only [List.length_map]; omega))) ?_) | (guard_target = Arith _ _ _; refine Arith.fit (by decide) ?_) | (guard_target = Index _ _ _; first | refine Index.mk _ (idx_getD (l := T) (d := []) (i := s) (by omega)) ?_ | refine Index.mk _ (idx_getD (l := T.getD s []) (d := false) (i := u) (by rw [hrow s (by omega)]; omega)) ?_ | refine Index.mk _ (idx_map (by omega)) ?_) | (guard_target = Need (_ = true) _; refine Need.mk (by first | kernel_rfl | rfl) ?_) | (guard_target = LinkV _ _ _; first  | refine LinkV.no ?_) | (guard_target = GhO _ _ _ _; refine GhO.go ?_) | (guard_target = Need _ _; refine Need.mk (by first  | omega | (simp only [List.length_map]; omega)) ?_))
  all_goals first | rfl | trivial | (exfalso; simp_all; done)
end Go.Proofs.Ytlfigjkddnncgaa

namespace Go.Proofs.Ytlfigjkddnncgaa
open Go Go.KA Go.Proofs
set_option maxHeartbeats 16000000
set_option maxRecDepth 100000
theorem a2Long_ok (code more : List UInt8) : CallF Try.prog 4 [.c (.ro 1 (code.map eU8)), .c (.ro 1 (more.map eU8))] (B (decide (3000 < code.length) || decide (3000 < more.length))) := by
  refine callF_of_vc htb hm Try.func4 rfl rfl rfl rfl (ann := fun _ => none) (gh := fun _ => false) ?_
  repeat' ((conv => whnf); first | (guard_target = Done _; refine Done.mk ?_; first | (rfl; done) | (simp_all [normS, normV]; done) | (simp_all [normS, normV]; omega; done) | (simp_all [normS, normV]; intros; omega; done) | (simp_all [-List.all_eq_true, -List.all_eq_false, normS, normV]; done) | (simp_all [-List.all_eq_true, -List.all_eq_false, normS, normV]; omega; done) | skip) | (guard_target = RetX _ _; refine RetX.mk ?_ ?_) | (guard_target = Fact _ _; refine Fact.mk fun hL => ?_; (try simp only [List.length_map, maxLen] at hL)) | (guard_target = Branch _ _ _; (first | refine Branch.dec ?_ ?_ | refine Branch.beq ?_ ?_ | refine Branch.bne ?_ ?_ | refine Branch.ndec ?_ ?_ | refine Branch.nb ?_ ?_ | refine Branch.mk ?_ ?_) <;> intro h <;> (try simp only [List.length_map] at h) <;> (try omega) <;> (try contradiction)) | (guard_target = Arith _ _ _; refine Arith.fit (wrap_fit (by first | omega | (simp only [List.length_map]; omega)) (by first | omega | (simp only [List.length_map]; omega))) ?_) | (guard_target = Arith _ _ _; refine Arith.fit (by decide) ?_) | (guard_target = Index _ _ _; first  | refine Index.mk _ (idx_map (by omega)) ?_) | (guard_target = Need (_ = true) _; refine Need.mk (by first | kernel_rfl | rfl) ?_) | (guard_target = LinkV _ _ _; first  | refine LinkV.no ?_) | (guard_target = GhO _ _ _ _; refine GhO.go ?_) | (guard_target = Need _ _; refine Need.mk (by first  | omega | (simp only [List.length_map]; omega)) ?_))
  all_goals first | rfl | trivial | (simp_all [normS, normV]; done) | (simp_all [normS, normV]; omega) | (rw [show decide (3000 < code.length) = false by simp; omega, Bool.false_or, List.length_map]; exact congrArg B (decide_eq_decide.2 (by omega)))
theorem selR_none (N : Nat) {p : Nat → Bool} (h : ∀ i, i < N → p i = false) : selR N p = [] := by
  induction N with
  | zero => rfl
  | succ n ih => rw [selR_no (h n (by omega))]; exact ih fun i hi => h i (by omega)
theorem selR_one (N k : Nat) {p : Nat → Bool} (hk : k < N) (h : ∀ i, i < N → p i = decide (i = k)) : selR N p = [(k : Int)] := by
  induction N with
  | zero => omega
  | succ n ih =>
    by_cases e : n = k
    · subst e
      rw [selR_yes (by rw [h n (by omega)]; simp), selR_none n fun i hi => by rw [h i (by omega)]; simp; omega]
      rfl
    · rw [selR_no (by rw [h n (by omega)]; simpa using e)]
      exact ih (by omega) fun i hi => h i (by omega)
theorem a2prog_bud (code : List UInt8) : budProg (a2prog code).2 ≤ 1048576 := by
  have h := (progP_ok (drawSig (src0 code)).1 5 ⟨(drawSig (src0 code)).2, 9⟩).2
  unfold a2prog a2pr
  simp only []
  split
  · show budProg (progP _ 5 _).1 ≤ _
    omega
  · show 0 ≤ 1048576
    omega
theorem WorldModel_law (code more : List UInt8) : CallF Try.prog 3 [.c (.ro 1 (code.map eU8)), .c (.ro 1 (more.map eU8))] (B true) := by
  have lg := a2Long_ok code more
  by_cases hb : 3000 < code.length ∨ 3000 < more.length
  · rw [show (decide (3000 < code.length) || decide (3000 < more.length)) = true by simpa using hb] at lg
    refine callF_of_vc htb hm Try.func3 rfl rfl rfl rfl (ann := fun _ => none) (gh := fun _ => false) ?_
    repeat' ((conv => whnf); first | (guard_target = Done _; refine Done.mk ?_) | (guard_target = RetX _ _; refine RetX.mk ?_ ?_) | (guard_target = Fact _ _; refine Fact.mk fun hL => ?_; (try simp only [List.length_map, maxLen] at hL)) | (guard_target = Branch _ _ _; (first | refine Branch.dec ?_ ?_ | refine Branch.beq ?_ ?_ | refine Branch.bne ?_ ?_ | refine Branch.ndec ?_ ?_ | refine Branch.nb ?_ ?_ | refine Branch.mk ?_ ?_) <;> intro h <;> (try simp only [] at h) <;> (try omega) <;> (try contradiction)) | (guard_target = CallN _ 4 _ _ _ _; refine CallN.pure _ _ rfl (lg) rfl _ rfl ?_) | (guard_target = Arith _ _ _; refine Arith.fit (wrap_fit (by first | omega | (simp only [List.length_map]; omega)) (by first | omega | (simp only [List.length_map]; omega))) ?_) | (guard_target = Arith _ _ _; refine Arith.fit (by decide) ?_) | (guard_target = Index _ _ _; first  | refine Index.mk _ (idx_map (by omega)) ?_) | (guard_target = Need (_ = true) _; refine Need.mk (by first | kernel_rfl | rfl) ?_) | (guard_target = LinkV _ _ _; first  | refine LinkV.no ?_) | (guard_target = GhO _ _ _ _; refine GhO.go ?_) | (guard_target = Need _ _; refine Need.mk (by first  | omega | (simp only [List.length_map]; omega)) ?_))
    all_goals first | rfl | trivial
  rw [show (decide (3000 < code.length) || decide (3000 < more.length)) = false by simpa [Nat.not_lt] using hb] at lg
  have hc : code.length ≤ 3000 ∧ more.length ≤ 3000 := by omega
  have c1 := A2Prog_ok code hc.1
  have gi := a2sig_in code
  obtain ⟨gp, ge⟩ := a2prog_good code
  have bp := a2prog_bud code
  generalize a2prog code = X at c1 gi gp ge bp
  obtain ⟨⟨t, a⟩, p⟩ := X
  have hs := sig_good gi
  have c2 := A2World_ok gi more hc.2
  have hw := a2world_good gi more
  have hl := a2world_len (g := ⟨t, a⟩) more
  generalize a2world ⟨t, a⟩ more = w at c2 hw hl
  simp only [] at c1 gi gp ge bp hs c2 hw
  have c3 := a2Model_ok hs hw
  have c4 := ProgExpr_ok hs gp bp ge
  have hm0 := modelW_ok hs hw ⟨hl.1, by omega⟩
  have c5 := RelationOf_ok (modelW t a w) w.atoms.length hm0 (progE p) ge
  have hWok := worldOk hw
  have hT : tabR w.atoms.length (relG w.atoms.length (testM (modelW t a w)) (actM (modelW t a w)) (progE p)) = tabR w.atoms.length (relE w.atoms.length (testW w) (acW w) (progE p)) :=
    tab_congr fun x y hx hy => relG_cg (fun n x h0 h1 hx => testM_W n x h0 h1 hx) (fun n x y h0 h1 hx hy => actM_W hWok.1 n x y h0 (by have := hWok.2; omega) hx hy) _ (progE p) (Nat.le_refl _) (goodE_tree ge) x y hx hy
  have c6 := a2Related_ok hs hw gp hl _ hT
  have c7 := a2At_ok more hc.2 ((w.atoms.length : Nat) : Int) (by unfold I64; omega)
  obtain ⟨s0, s1⟩ := a2at_in more (n := ((w.atoms.length : Nat) : Int)) (by omega)
  obtain ⟨s, hs7⟩ : ∃ s : Nat, a2at more ((w.atoms.length : Nat) : Int) = (s : Int) := ⟨(a2at more ((w.atoms.length : Nat) : Int)).toNat, by omega⟩
  rw [hs7] at c7 s1
  have hsN : s < w.atoms.length := by omega
  have hset : SetOk [(s : Int)] w.atoms.length := ⟨fun i h1 h2 => by simp at h2; omega, fun x hx => by simp at hx; omega⟩
  have c8 := (ImageOf_ok (modelW t a w) w.atoms.length hm0 (progE p) ge [(s : Int)] hset _ rfl)
  obtain ⟨c, r', hr, c9⟩ := runProg_ok hs hw gp hsN
  have hsz : (nodesP p + 1) * w.atoms.length ≤ 500 := Nat.le_trans (Nat.mul_le_mul (Nat.succ_le_succ (goodP_nodes gp)) hl.2) (by decide)
  have himg : ∀ y, y < w.atoms.length → imgP (relT (tabR w.atoms.length (relG w.atoms.length (testM (modelW t a w)) (actM (modelW t a w)) (progE p)))) [(s : Int)] y = (c == 0 && r'.st == (y : Int)) := fun y hy => by
    show (relT _ (s : Int).toNat y || false) = _
    rw [Bool.or_false, show (s : Int).toNat = s from rfl, hT, relT_tab hsN hy]
    exact model_core hWok.1 (progOk gp) hsz hsN hy hr
  generalize hL : selR w.atoms.length (imgP (relT (tabR w.atoms.length (relG w.atoms.length (testM (modelW t a w)) (actM (modelW t a w)) (progE p)))) [(s : Int)]) = L at c8
  generalize tabR w.atoms.length (relG w.atoms.length (testM (modelW t a w)) (actM (modelW t a w)) (progE p)) = T at c5 c6 hL himg
  have hpts : (modelW t a w).points = (w.atoms.length : Int) := rfl
  have hrb := (Run.keeps hWok.1 hWok.2 (Int.le_refl 500) hr (progOk gp) (run_begin (show runOk w s 500 = true by simp only [runOk, rng, Bool.and_eq_true, decide_eq_true_eq]; omega))).1
  have hst := hrb.st.st
  by_cases h0 : c = 0
  · obtain ⟨k, hk⟩ : ∃ k : Nat, r'.st = (k : Int) := ⟨r'.st.toNat, by omega⟩
    obtain rfl : L = [(k : Int)] := by
      rw [← hL]
      refine selR_one _ k (by omega) fun i hi => ?_
      rw [himg i hi, hk, h0, int_beq]
      by_cases e : i = k
      · subst e; simp
      · simp [e, Ne.symm e]
    rw [if_pos h0] at c9
    have c8' : CallX Try.prog 12 [.a 5 (encModel (modelW t a w)), .a 3 (encExpr (progE p)), .c (.ows 2 1 [eI (s : Int)])] [] (.tup [.c (.ows 2 1 [eI (k : Int)]), I 0]) := c8.give (.same (.same (.c .nil)))
    obtain ⟨k3, n3, ks3, e3⟩ := ex_mkE (progE p)
    rw [e3] at c4 c5 c8'
    obtain ⟨pk, pn, ⟨ck, cn, cs⟩, ks⟩ := p
    clear c8 hL himg hT
    refine callF_of_vc htb hm Try.func3 rfl rfl rfl rfl (ann := fun _ => none) (gh := fun _ => false) ?_
    repeat' ((conv => whnf); first | (guard_target = Done _; refine Done.mk ?_) | (guard_target = RetX _ _; refine RetX.mk ?_ ?_) | (guard_target = Fact _ _; refine Fact.mk fun hL => ?_; (try simp only [maxLen] at hL)) | (guard_target = Branch _ _ _; (first | refine Branch.dec ?_ ?_ | refine Branch.beq ?_ ?_ | refine Branch.bne ?_ ?_ | refine Branch.ndec ?_ ?_ | refine Branch.nb ?_ ?_ | refine Branch.mk ?_ ?_) <;> intro h <;> (try simp only [] at h) <;> (try omega) <;> (try contradiction)) | (guard_target = CallN _ 4 _ _ _ _; refine CallN.pure _ _ rfl (lg) rfl _ rfl ?_) | (guard_target = CallN _ 5 _ _ _ _; refine CallN.gen [] _ _ _ rfl (c1) rfl rfl _ rfl ?_) | (guard_target = CallN _ 6 _ _ _ _; refine CallN.gen [] _ _ _ rfl (c2) rfl rfl _ rfl ?_) | (guard_target = CallN _ 7 _ _ _ _; refine CallN.gen [] _ _ _ rfl (c3) rfl rfl _ rfl ?_) | (guard_target = CallN _ 8 _ _ _ _; refine CallN.gen [] _ _ _ rfl (c4) rfl rfl _ rfl ?_) | (guard_target = CallN _ 9 _ _ _ _; refine CallN.gen [] _ _ _ rfl (c5) rfl rfl _ rfl ?_) | (guard_target = CallN _ 10 _ _ _ _; refine CallN.pure _ _ rfl (c6) rfl _ rfl ?_) | (guard_target = CallN _ 11 _ _ _ _; refine CallN.pure _ _ rfl (c7) rfl _ rfl ?_) | (guard_target = CallN _ 12 _ _ _ _; refine CallN.gen [false, false, true] _ _ _ rfl (c8') rfl rfl _ rfl ?_) | (guard_target = CallN _ 13 _ _ _ _; refine CallN.gen [] _ _ _ rfl (c9) rfl rfl _ rfl ?_) | (guard_target = Index _ _ _; refine Index.mk (eI (k : Int)) rfl ?_) | (guard_target = Arith _ _ _; refine Arith.fit (wrap_fit (by first | omega | (simp only [List.length_map]; omega)) (by first | omega | (simp only [List.length_map]; omega))) ?_) | (guard_target = Arith _ _ _; refine Arith.fit (by decide) ?_) | (guard_target = Index _ _ _; first  | refine Index.mk _ (idx_map (by omega)) ?_) | (guard_target = Need (_ = true) _; refine Need.mk (by first | kernel_rfl | rfl) ?_) | (guard_target = LinkV _ _ _; first  | refine LinkV.no ?_) | (guard_target = GhO _ _ _ _; refine GhO.go ?_) | (guard_target = Need _ _; refine Need.mk (by first  | omega | (simp only [List.length_map]; omega)) ?_))
    all_goals first | rfl | trivial | (rw [hk]; simp [normS, normV]; done) | (exfalso; simp_all; done)
  · obtain rfl : L = [] := by
      rw [← hL]
      refine selR_none _ fun i hi => ?_
      rw [himg i hi, show (c == 0) = false by simpa using h0]
      rfl
    rw [if_neg h0] at c9
    have c8' : CallX Try.prog 12 [.a 5 (encModel (modelW t a w)), .a 3 (encExpr (progE p)), .c (.ows 2 1 [eI (s : Int)])] [] (.tup [.c (.ows 2 1 []), I 0]) := c8.give (.same (.same (.c .nil)))
    obtain ⟨k3, n3, ks3, e3⟩ := ex_mkE (progE p)
    rw [e3] at c4 c5 c8'
    obtain ⟨pk, pn, ⟨ck, cn, cs⟩, ks⟩ := p
    clear c8 hL himg hT
    refine callF_of_vc htb hm Try.func3 rfl rfl rfl rfl (ann := fun _ => none) (gh := fun _ => false) ?_
    repeat' ((conv => whnf); first | (guard_target = Done _; refine Done.mk ?_) | (guard_target = RetX _ _; refine RetX.mk ?_ ?_) | (guard_target = Fact _ _; refine Fact.mk fun hL => ?_; (try simp only [maxLen] at hL)) | (guard_target = Branch _ _ _; (first | refine Branch.dec ?_ ?_ | refine Branch.beq ?_ ?_ | refine Branch.bne ?_ ?_ | refine Branch.ndec ?_ ?_ | refine Branch.nb ?_ ?_ | refine Branch.mk ?_ ?_) <;> intro h <;> (try simp only [] at h) <;> (try omega) <;> (try contradiction)) | (guard_target = CallN _ 4 _ _ _ _; refine CallN.pure _ _ rfl (lg) rfl _ rfl ?_) | (guard_target = CallN _ 5 _ _ _ _; refine CallN.gen [] _ _ _ rfl (c1) rfl rfl _ rfl ?_) | (guard_target = CallN _ 6 _ _ _ _; refine CallN.gen [] _ _ _ rfl (c2) rfl rfl _ rfl ?_) | (guard_target = CallN _ 7 _ _ _ _; refine CallN.gen [] _ _ _ rfl (c3) rfl rfl _ rfl ?_) | (guard_target = CallN _ 8 _ _ _ _; refine CallN.gen [] _ _ _ rfl (c4) rfl rfl _ rfl ?_) | (guard_target = CallN _ 9 _ _ _ _; refine CallN.gen [] _ _ _ rfl (c5) rfl rfl _ rfl ?_) | (guard_target = CallN _ 10 _ _ _ _; refine CallN.pure _ _ rfl (c6) rfl _ rfl ?_) | (guard_target = CallN _ 11 _ _ _ _; refine CallN.pure _ _ rfl (c7) rfl _ rfl ?_) | (guard_target = CallN _ 12 _ _ _ _; refine CallN.gen [false, false, true] _ _ _ rfl (c8') rfl rfl _ rfl ?_) | (guard_target = CallN _ 13 _ _ _ _; refine CallN.gen [] _ _ _ rfl (c9) rfl rfl _ rfl ?_) | (guard_target = Arith _ _ _; refine Arith.fit (wrap_fit (by first | omega | (simp only [List.length_map]; omega)) (by first | omega | (simp only [List.length_map]; omega))) ?_) | (guard_target = Arith _ _ _; refine Arith.fit (by decide) ?_) | (guard_target = Index _ _ _; first  | refine Index.mk _ (idx_map (by omega)) ?_) | (guard_target = Need (_ = true) _; refine Need.mk (by first | kernel_rfl | rfl) ?_) | (guard_target = LinkV _ _ _; first  | refine LinkV.no ?_) | (guard_target = GhO _ _ _ _; refine GhO.go ?_) | (guard_target = Need _ _; refine Need.mk (by first  | omega | (simp only [List.length_map]; omega)) ?_))
    all_goals first | rfl | trivial | (exfalso; simp_all; done)
end Go.Proofs.Ytlfigjkddnncgaa
