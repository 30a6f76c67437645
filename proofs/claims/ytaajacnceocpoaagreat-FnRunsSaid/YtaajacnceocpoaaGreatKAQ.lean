/- Contracts of the draws of a valid program and of a valid world. No conditions but that no more than 3000 bytes are read. -/
import Derived.Test.YtaajacnceocpoaaGreatKAP
namespace Go.Proofs.YtaajacnceocpoaaGreat
open Go Go.KA Go.Proofs
set_option maxHeartbeats 16000000
set_option maxRecDepth 100000
theorem DrawnP.form {p : XProg} (h : DrawnP p) : FormP p := by
  induction h with
  | leaf h => exact .leaf h rfl
  | seq _ _ ha hb => exact .two (.inl rfl) ha hb
  | cond _ _ ha hb => exact .two (.inr rfl) ha hb
  | loop _ ha => exact .loop ha
theorem progE_bud {p : XProg} (h : FormP p) : budExpr (progE p) ≤ 8 * budProg p + 8 := by
  induction h with
  | @leaf k n c ks h hk =>
    subst hk
    rcases h with rfl | rfl | rfl | rfl
    all_goals (simp [progE, progK, budExpr, budExprS, budProg, budProgS]; try omega)
  | @two k n c a b h ha hb iha ihb =>
    rcases h with rfl | rfl
    all_goals (simp [progE, progK, progL, budExpr, budExprS, budProg, budProgS]; omega)
  | @loop n c a ha iha =>
    simp [progE, progK, progL, budExpr, budExprS, budProg, budProgS]
    omega
def a2pr (code : List UInt8) : XSig × XProg × Src :=
  let g := drawSig (src0 code)
  let p := progP g.1 5 ⟨g.2, 9⟩
  (g.1, p.1, p.2.s)
def skipP : XProg := .mk 1 0 noE []
def a2prog (code : List UInt8) : XSig × XProg :=
  let x := a2pr code
  if (goodP x.1.tests x.1.actions x.2.1 && goodE x.1.tests x.1.actions (progE x.2.1)) = true then (x.1, x.2.1) else (x.1, skipP)
theorem src0_rd (code : List UInt8) : Rd (src0 code) 0 := ⟨Int.le_refl _, Int.le_refl _⟩
theorem a2sig_in (code : List UInt8) : 0 ≤ (a2prog code).1.tests ∧ (a2prog code).1.tests ≤ 3 ∧ 0 ≤ (a2prog code).1.actions ∧ (a2prog code).1.actions ≤ 4 := by
  have h := drawSig_in (src0 code)
  unfold a2prog a2pr
  simp only []
  split
  · exact h
  · exact h
theorem a2prog_good (code : List UInt8) : goodP (a2prog code).1.tests (a2prog code).1.actions (a2prog code).2 = true ∧ goodE (a2prog code).1.tests (a2prog code).1.actions (progE (a2prog code).2) = true := by
  unfold a2prog
  simp only []
  split
  · rename_i h
    simpa only [Bool.and_eq_true] using h
  · exact ⟨rfl, rfl⟩
theorem sig_good {g : XSig} (h : 0 ≤ g.tests ∧ g.tests ≤ 3 ∧ 0 ≤ g.actions ∧ g.actions ≤ 4) : goodSig g.tests g.actions = true := by
  simp only [goodSig, rng, Bool.and_eq_true, decide_eq_true_eq]
  omega
theorem A2Prog_ok (code : List UInt8) (hc : code.length ≤ 3000) : CallX Tryz.prog 6 [.c (.ro 1 (code.map eU8))] [] (.tup [.a 2 [J (a2prog code).1.tests, J (a2prog code).1.actions], .a 6 (encProg (a2prog code).2)]) := by
  have fr := l00From_ok code
  have hc' : code.length ≤ 1000000 := by omega
  have ds := drawSig_ok (src0 code) ((src0_rd code).mono (by omega)) hc'
  have gi := drawSig_in (src0 code)
  have r1 : Rd (drawSig (src0 code)).2 8 := (src0_rd code).sig
  have c1 : (drawSig (src0 code)).2.code.length ≤ 1000000 := by rw [drawSig_cd]; exact hc'
  have dp := l06Drawn_ok (drawSig (src0 code)).1 gi (drawSig (src0 code)).2 (r1.mono (by omega)) c1 9 (by omega)
  have po := progP_ok (drawSig (src0 code)).1 5 ⟨(drawSig (src0 code)).2, 9⟩
  unfold a2prog a2pr
  simp only []
  generalize progP (drawSig (src0 code)).1 5 ⟨(drawSig (src0 code)).2, 9⟩ = X at dp po ⊢
  generalize drawSig (src0 code) = G at ds gi dp ⊢
  obtain ⟨⟨gt, ga⟩, s1⟩ := G
  obtain ⟨p, ⟨s2, l2⟩⟩ := X
  simp only [] at ds gi dp po ⊢
  have hf := po.1.form
  have hb : budProg p ≤ 960 := by have := po.2; omega
  have eb := progE_bud hf
  have ex := l06Expr_ok hf (by omega)
  have ok1 := l06Ok_ok gt ga p (by omega)
  have ok2 := l01Ok_ok gt ga (progE p) (by omega)
  have gs : goodSig gt ga = true := sig_good (g := ⟨gt, ga⟩) gi
  rw [gs, Bool.true_and] at ok1 ok2
  have sk := l06Skip_ok
  obtain ⟨k1, n1, ⟨k2, n2, ks2⟩, ks1⟩ := p
  obtain ⟨k3, n3, ks3, e3⟩ := ex_mkE (progE (.mk k1 n1 (.mk k2 n2 ks2) ks1))
  rw [e3] at ex ok2 ⊢
  cases h1 : goodP gt ga (.mk k1 n1 (.mk k2 n2 ks2) ks1) with
  | false =>
    rw [h1] at ok1
    rw [if_neg (by simp)]
    refine callX_of_vc htb hm Tryz.func6 rfl rfl rfl rfl (ann := fun _ => none) (gh := fun reg_ => match reg_ with | 4 => true | _ => false) ?_
    repeat' ((conv => whnf); first | (guard_target = RetX _ _; refine RetX.mk ?_ ?_) | (guard_target = Branch _ _ _; (first | apply Branch.dec | apply Branch.beq | apply Branch.bne | apply Branch.ndec | apply Branch.nb | apply Branch.mk) <;> intro h <;> (try simp only [List.length_map] at h) <;> (try omega) <;> (try contradiction)) | (guard_target = CallN _ 26 _ _ _ _; refine CallN.gen [] _ _ _ rfl (fr) rfl rfl _ rfl ?_) | (guard_target = CallN _ 27 _ _ _ _; refine CallN.gen [true] _ _ _ rfl (ds) rfl rfl _ rfl ?_) | (guard_target = CallN _ 28 _ _ _ _; refine CallN.gen [true, false, false] _ _ _ rfl (dp) rfl rfl _ rfl ?_) | (guard_target = CallN _ 29 _ _ _ _; refine CallN.gen [] _ _ _ rfl (ex) rfl rfl _ rfl ?_) | (guard_target = CallN _ 30 _ _ _ _; refine CallN.pure _ _ rfl (ok1) rfl _ rfl ?_) | (guard_target = CallN _ 32 _ _ _ _; refine CallN.gen [] _ _ _ rfl (sk) rfl rfl _ rfl ?_) | (guard_target = Gh _ _ _ _ _; (first | refine Gh.frzp 8 _ rfl (Gh.go ?_) | refine Gh.soft 8 (.cc rfl) (Gh.frzp 8 _ rfl (Gh.go ?_)))) | (guard_target = Index _ _ _; first  | refine Index.mk _ (idx_map (by omega)) ?_) | (guard_target = Need (_ = true) _; refine Need.mk (by first | kernel_rfl | rfl) ?_) | (guard_target = GhO _ _ _ _; refine GhO.go ?_) | (guard_target = Need _ _; refine Need.mk (by first  | omega | (simp only [List.length_map]; omega)) ?_))
    all_goals first | rfl | trivial | (exfalso; simp_all; done)
  | true =>
    rw [h1] at ok1
    cases h2 : goodE gt ga (.mk k3 n3 ks3) with
    | false =>
      rw [h2] at ok2
      rw [if_neg (by simp)]
      refine callX_of_vc htb hm Tryz.func6 rfl rfl rfl rfl (ann := fun _ => none) (gh := fun reg_ => match reg_ with | 4 => true | _ => false) ?_
      repeat' ((conv => whnf); first | (guard_target = RetX _ _; refine RetX.mk ?_ ?_) | (guard_target = Branch _ _ _; (first | apply Branch.dec | apply Branch.beq | apply Branch.bne | apply Branch.ndec | apply Branch.nb | apply Branch.mk) <;> intro h <;> (try simp only [List.length_map] at h) <;> (try omega) <;> (try contradiction)) | (guard_target = CallN _ 26 _ _ _ _; refine CallN.gen [] _ _ _ rfl (fr) rfl rfl _ rfl ?_) | (guard_target = CallN _ 27 _ _ _ _; refine CallN.gen [true] _ _ _ rfl (ds) rfl rfl _ rfl ?_) | (guard_target = CallN _ 28 _ _ _ _; refine CallN.gen [true, false, false] _ _ _ rfl (dp) rfl rfl _ rfl ?_) | (guard_target = CallN _ 29 _ _ _ _; refine CallN.gen [] _ _ _ rfl (ex) rfl rfl _ rfl ?_) | (guard_target = CallN _ 30 _ _ _ _; refine CallN.pure _ _ rfl (ok1) rfl _ rfl ?_) | (guard_target = CallN _ 31 _ _ _ _; refine CallN.pure _ _ rfl (ok2) rfl _ rfl ?_) | (guard_target = CallN _ 32 _ _ _ _; refine CallN.gen [] _ _ _ rfl (sk) rfl rfl _ rfl ?_) | (guard_target = Gh _ _ _ _ _; (first | refine Gh.frzp 8 _ rfl (Gh.go ?_) | refine Gh.soft 8 (.cc rfl) (Gh.frzp 8 _ rfl (Gh.go ?_)))) | (guard_target = Index _ _ _; first  | refine Index.mk _ (idx_map (by omega)) ?_) | (guard_target = Need (_ = true) _; refine Need.mk (by first | kernel_rfl | rfl) ?_) | (guard_target = GhO _ _ _ _; refine GhO.go ?_) | (guard_target = Need _ _; refine Need.mk (by first  | omega | (simp only [List.length_map]; omega)) ?_))
      all_goals first | rfl | trivial | (exfalso; simp_all; done)
    | true =>
      rw [h2] at ok2
      rw [if_pos (by simp)]
      refine callX_of_vc htb hm Tryz.func6 rfl rfl rfl rfl (ann := fun _ => none) (gh := fun reg_ => match reg_ with | 4 => true | _ => false) ?_
      repeat' ((conv => whnf); first | (guard_target = RetX _ _; refine RetX.mk ?_ ?_) | (guard_target = Branch _ _ _; (first | apply Branch.dec | apply Branch.beq | apply Branch.bne | apply Branch.ndec | apply Branch.nb | apply Branch.mk) <;> intro h <;> (try simp only [List.length_map] at h) <;> (try omega) <;> (try contradiction)) | (guard_target = CallN _ 26 _ _ _ _; refine CallN.gen [] _ _ _ rfl (fr) rfl rfl _ rfl ?_) | (guard_target = CallN _ 27 _ _ _ _; refine CallN.gen [true] _ _ _ rfl (ds) rfl rfl _ rfl ?_) | (guard_target = CallN _ 28 _ _ _ _; refine CallN.gen [true, false, false] _ _ _ rfl (dp) rfl rfl _ rfl ?_) | (guard_target = CallN _ 29 _ _ _ _; refine CallN.gen [] _ _ _ rfl (ex) rfl rfl _ rfl ?_) | (guard_target = CallN _ 30 _ _ _ _; refine CallN.pure _ _ rfl (ok1) rfl _ rfl ?_) | (guard_target = CallN _ 31 _ _ _ _; refine CallN.pure _ _ rfl (ok2) rfl _ rfl ?_) | (guard_target = CallN _ 32 _ _ _ _; refine CallN.gen [] _ _ _ rfl (sk) rfl rfl _ rfl ?_) | (guard_target = Gh _ _ _ _ _; (first | refine Gh.frzp 8 _ rfl (Gh.go ?_) | refine Gh.soft 8 (.cc rfl) (Gh.frzp 8 _ rfl (Gh.go ?_)))) | (guard_target = Index _ _ _; first  | refine Index.mk _ (idx_map (by omega)) ?_) | (guard_target = Need (_ = true) _; refine Need.mk (by first | kernel_rfl | rfl) ?_) | (guard_target = GhO _ _ _ _; refine GhO.go ?_) | (guard_target = Need _ _; refine Need.mk (by first  | omega | (simp only [List.length_map]; omega)) ?_))
      all_goals first | rfl | trivial | (exfalso; simp_all; done)
def a2wd (g : XSig) (more : List UInt8) : XWorld := ⟨(worldD (atomsN g.tests) g (src0 more)).1, (worldD (atomsN g.tests) g (src0 more)).2⟩
def a2world (g : XSig) (more : List UInt8) : XWorld := if goodWorld g.tests g.actions (a2wd g more) = true then a2wd g more else ⟨[0], List.replicate g.actions.toNat [0]⟩
theorem atomsN_in {t : Int} (h : 0 ≤ t ∧ t ≤ 3) : 1 ≤ atomsN t ∧ atomsN t ≤ 8 := by
  have : t = 0 ∨ t = 1 ∨ t = 2 ∨ t = 3 := by omega
  rcases this with rfl | rfl | rfl | rfl <;> decide
theorem l01AtomsOf_ok {g : XSig} (h : 0 ≤ g.tests ∧ g.tests ≤ 3) : CallF Tryz.prog 94 [.a 2 [J g.tests, J g.actions]] (I (atomsN g.tests)) := by
  have h1 := l01Atoms_ok g.tests g.actions h
  have h2 := l00In_ok g.tests 0 3
  rw [show rng 0 3 g.tests = true by simp only [rng, Bool.and_eq_true, decide_eq_true_eq]; omega] at h2
  refine callF_of_vc htb hm Tryz.func94 rfl rfl rfl rfl (ann := fun _ => none) (gh := fun _ => false) ?_
  repeat' ((conv => whnf); first | (guard_target = Done _; refine Done.mk ?_) | (guard_target = Branch _ _ _; (first | apply Branch.dec | apply Branch.beq | apply Branch.bne | apply Branch.ndec | apply Branch.nb | apply Branch.mk) <;> intro h <;> (try simp only [List.length_map] at h) <;> (try omega) <;> (try contradiction)) | (guard_target = CallN _ 98 _ _ _ _; refine CallN.pure _ _ rfl (h2) rfl _ rfl ?_) | (guard_target = CallN _ 116 _ _ _ _; refine CallN.pure _ _ rfl (h1) rfl _ rfl ?_) | (guard_target = Need _ _; refine Need.mk (by first  | omega | (simp only [List.length_map]; omega)) ?_))
  all_goals first | rfl | trivial | (exfalso; simp_all; done)
theorem a2world_good {g : XSig} (h : 0 ≤ g.tests ∧ g.tests ≤ 3 ∧ 0 ≤ g.actions ∧ g.actions ≤ 4) (more : List UInt8) : goodWorld g.tests g.actions (a2world g more) = true := by
  unfold a2world
  split
  · assumption
  · have := atomsN_in (t := g.tests) (by omega)
    simp only [goodWorld, Bool.and_eq_true, List.all_cons, List.all_nil, rng, decide_eq_true_eq, List.length_replicate, beq_iff_eq, List.length_cons, List.length_nil]
    refine ⟨by omega, ⟨by omega, trivial⟩, by omega, ?_⟩
    rw [List.all_eq_true]
    intro x hx
    rw [List.eq_of_mem_replicate hx]
    rfl
end Go.Proofs.YtaajacnceocpoaaGreat

namespace Go.Proofs.YtaajacnceocpoaaGreat
open Go Go.KA Go.Proofs
set_option maxHeartbeats 16000000
set_option maxRecDepth 100000
theorem rep_next {l : List (List Int)} {i : Nat} {m : Nat} (ha : i ≤ m ∧ l = List.replicate i [0]) (hi : i < m) : i + 1 ≤ m ∧ l ++ [[0]] = List.replicate (i + 1) [0] := by
  rw [ha.2, List.replicate_succ']
  exact ⟨hi, rfl⟩
theorem A2World_ok {g : XSig} (hg : 0 ≤ g.tests ∧ g.tests ≤ 3 ∧ 0 ≤ g.actions ∧ g.actions ≤ 4) (code : List UInt8) (hc : code.length ≤ 3000) : CallX Tryz.prog 7 [.c (.ro 1 (code.map eU8)), .a 2 [J g.tests, J g.actions]] [] (.a 2 (encWorld (a2world g code))) := by
  have fr := l00From_ok code
  have dw := world_ro g hg (src0 code) 0 (src0_rd code) (by omega) (by show code.length ≤ _; omega) (atomsN g.tests) (atomsN_in ⟨hg.1, hg.2.1⟩) (l01AtomsOf_ok ⟨hg.1, hg.2.1⟩)
  have lw := l06World_ok g.tests g.actions (a2wd g code)
  rw [sig_good hg, Bool.true_and] at lw
  unfold a2world
  change CallX _ _ _ _ (.a 2 (encWorld (a2wd g code))) at dw
  generalize a2wd g code = w at dw lw ⊢
  obtain ⟨gt, ga⟩ := g
  cases h1 : goodWorld gt ga w with
  | true =>
    rw [h1] at lw
    rw [if_pos rfl]
    refine callX_of_vc htb hm Tryz.func7 rfl rfl rfl rfl (ann := fun _ => none) (gh := fun _ => false) ?_
    repeat' ((conv => whnf); first | (guard_target = RetX _ _; refine RetX.mk ?_ ?_) | (guard_target = Fact _ _; refine Fact.mk fun hL => ?_; (try simp only [List.length_map, maxLen] at hL)) | (guard_target = Branch _ _ _; (first | apply Branch.dec | apply Branch.beq | apply Branch.bne | apply Branch.ndec | apply Branch.nb | apply Branch.mk) <;> intro h <;> (try simp only [List.length_map] at h) <;> (try omega) <;> (try contradiction)) | (guard_target = CallN _ 26 _ _ _ _; refine CallN.gen [] _ _ _ rfl (fr) rfl rfl _ rfl ?_) | (guard_target = CallN _ 33 _ _ _ _; refine CallN.gen [true, false] _ _ _ rfl (dw) rfl rfl _ rfl ?_) | (guard_target = CallN _ 34 _ _ _ _; refine CallN.pure _ _ rfl (lw) rfl _ rfl ?_) | (guard_target = Arith _ _ _; refine Arith.fit (by apply wrap_fit <;> first | omega | (simp only [List.length_map]; omega)) ?_) | (guard_target = Arith _ _ _; refine Arith.fit (by decide) ?_) | (guard_target = Index _ _ _; first  | refine Index.mk _ (idx_map (by omega)) ?_) | (guard_target = Need _ _; refine Need.mk (by first  | omega | (simp only [List.length_map]; omega)) ?_))
    all_goals first | rfl | trivial | (exfalso; simp_all; done)
  | false =>
    rw [h1] at lw
    simp only [] at lw h1
    rw [if_neg (by simp)]
    have h : CallX Tryz.prog 7 [.c (.ro 1 (code.map eU8)), .a 2 [J gt, J ga]] [] (.a 2 [.ows 2 1 [eI 0], .own 34 1 ((List.replicate ga.toNat [0]).map fun l => [.ows 2 1 (l.map eI)])]) := by
      simp only [] at hg
      refine callX_of_vc htb hm Tryz.func7 rfl rfl rfl rfl (ann := fun _ => none) (gh := fun _ => false) ?_
      repeat' ((conv => whnf); first | (guard_target = RetX _ _; refine RetX.mk ?_ ?_) | (guard_target =~ LoopE 7 _ _ _ _ _ _; refine LoopE.mk { α := Nat × List (List Int), keep := [3, 4, 7], ov := fun ⟨i, l⟩ => [(8, I (i : Nat))], hv := fun ⟨i, l⟩ => [(10, .orow none 34 1 (l.map fun l => [.ows 2 1 (l.map eI)])), (13, .cells [.lw 8, .lw 10])], φ := fun ⟨i, l⟩ => i ≤ ga.toNat ∧ l = List.replicate i [0], μ := fun ⟨i, l⟩ => ga.toNat - i } (LoopN.mk ((0, []) : Nat × List (List Int)) (by exact ⟨Nat.zero_le _, rfl⟩) (by repeat' ((conv => whnf) <;> first | exact trivial | kernel_rfl | constructor)) (by repeat' ((conv => whnf) <;> first | exact trivial | kernel_rfl | constructor)) (by repeat' ((conv => whnf) <;> first | exact trivial | refine ⟨?_, ?_⟩ | exact rfl | (simp only [List.map_append, List.map_cons, List.map_nil, List.map_set]; first | done | rfl))) (fun A ha => ?_) (by intro A; first | rfl | (obtain ⟨_, _⟩ := A; rfl) | (obtain ⟨_, _, _⟩ := A; rfl))); obtain ⟨i, l⟩ := A; have ha : i ≤ ga.toNat ∧ l = List.replicate i [0] := ha; have hrl : l.length = i := (by rw [ha.2, List.length_replicate])) | (guard_target = Gh _ _ _ _ _; refine Gh.go ⟨((i + 1, l ++ [[0]]) : Nat × List (List Int)), (by exact rep_next ha (by omega)), (by first | (show _ < _; simp only []; omega) | omega | (simp; omega)), (by repeat' ((conv => whnf) <;> first | exact trivial | kernel_rfl | constructor)), (by repeat' ((conv => whnf) <;> first | exact trivial | kernel_rfl | constructor)), (by repeat' ((conv => whnf) <;> first | exact trivial | refine ⟨?_, ?_⟩ | exact rfl | (simp only [List.map_append, List.map_cons, List.map_nil, List.map_set]; first | done | rfl)))⟩) | (guard_target = Fact _ _; refine Fact.mk fun hL => ?_; (try simp only [List.length_map, maxLen] at hL)) | (guard_target = Branch _ _ _; (first | apply Branch.dec | apply Branch.beq | apply Branch.bne | apply Branch.ndec | apply Branch.nb | apply Branch.mk) <;> intro h <;> (try simp only [List.length_map] at h) <;> (try omega) <;> (try contradiction)) | (guard_target = CallN _ 26 _ _ _ _; refine CallN.gen [] _ _ _ rfl (fr) rfl rfl _ rfl ?_) | (guard_target = CallN _ 33 _ _ _ _; refine CallN.gen [true, false] _ _ _ rfl (dw) rfl rfl _ rfl ?_) | (guard_target = CallN _ 34 _ _ _ _; refine CallN.pure _ _ rfl (lw) rfl _ rfl ?_) | (guard_target = Arith _ _ _; refine Arith.fit (by apply wrap_fit <;> first | omega | (simp only [List.length_map]; omega)) ?_) | (guard_target = Arith _ _ _; refine Arith.fit (by decide) ?_) | (guard_target = Index _ _ _; first  | refine Index.mk _ (idx_map (by omega)) ?_) | (guard_target = Need _ _; refine Need.mk (by first | ((simp only [List.length_map, List.length_cons, List.length_nil, maxLen]; constructor <;> omega)) | omega | (simp only [List.length_map]; omega)) ?_))
      all_goals first | rfl | trivial | (obtain rfl : l = List.replicate ga.toNat [0] := (by rw [ha.2, show i = ga.toNat by omega]); rfl) | (exfalso; simp_all; done)
    refine h.soft ?_
    show SoftT _ (SV.a 2 [_, _])
    rw [show ((List.replicate ga.toNat [0]).map fun l => [CV.ro 1 (l.map eI)]) = roLL ((List.replicate ga.toNat [0]).map fun l => [CV.ows 2 1 (l.map eI)]) from (roLL_of (f := fun (l : List Int) => [CV.ows 2 1 (l.map eI)]) (g := fun l => [CV.ro 1 (l.map eI)]) (fun l => rfl) _).symm]
    exact .v (.a (.ro (.ro .nil)))
def a2at (code : List UInt8) (n : Int) : Int := if 0 ≥ (code.length : Int) ∨ n < 1 then 0 else ((code.getD 0 0).toNat : Int).tmod n
theorem a2at_in (code : List UInt8) {n : Int} (h : 0 < n) : 0 ≤ a2at code n ∧ a2at code n < n := by
  unfold a2at
  split
  · omega
  · exact ⟨Int.tmod_nonneg _ (by omega), Int.tmod_lt_of_pos _ h⟩
theorem a2At_ok (code : List UInt8) (hc : code.length ≤ 3000) (n : Int) (hn : I64 n) : CallF Tryz.prog 8 [.c (.ro 1 (code.map eU8)), I 0, I n] (I (a2at code n)) := by
  have hb := (code.getD 0 0).toNat_lt
  unfold I64 at hn
  unfold a2at
  refine callF_of_vc htb hm Tryz.func8 rfl rfl rfl rfl (ann := fun _ => none) (gh := fun _ => false) ?_
  repeat' ((conv => whnf); first | (guard_target = Done _; refine Done.mk ?_) | (guard_target = Fact _ _; refine Fact.mk fun hL => ?_; (try simp only [List.length_map, maxLen] at hL)) | (guard_target = Branch _ _ _; (first | apply Branch.dec | apply Branch.beq | apply Branch.bne | apply Branch.ndec | apply Branch.nb | apply Branch.mk) <;> intro h <;> (try simp only [List.length_map] at h) <;> (try omega) <;> (try contradiction)) | (guard_target = Arith _ _ _; refine Arith.fit (wrap_fit (by omega) (by omega)) ?_) | (guard_target = Arith _ _ _; refine Arith.fit (by apply wrap_fit <;> first | omega | (simp only [List.length_map]; omega)) ?_) | (guard_target = Arith _ _ _; refine Arith.fit (by decide) ?_) | (guard_target = Index _ _ _; first | refine Index.mk _ (idx_u8 (i := 0) (by omega)) ?_ | refine Index.mk _ (idx_map (by omega)) ?_) | (guard_target = LinkV _ _ _; refine LinkV.no ?_) | (guard_target = Need _ _; refine Need.mk (by first  | omega | (simp only [List.length_map]; omega)) ?_))
  all_goals first | (rw [if_pos (by omega)]; rfl) | (rw [if_neg (by omega)]; rfl)
theorem ValidProg_ok (t a : Int) (e : XProg) : CallF Tryz.prog 45 [.a 2 [J t, J a], .a 6 (encProg e)] (B (goodSig t a && goodP t a e)) := by
  cases hs : goodSig t a with
  | true =>
    have h1 := validSig_ok t a
    rw [hs] at h1
    have h2 := isProg_ok t a (sig_bounds hs).1 (sig_bounds hs).2 e
    rw [Bool.true_and]
    generalize goodP t a e = b at h2 ⊢
    obtain ⟨k, n, ⟨ck, cn, cs⟩, ks⟩ := e
    refine callF_of_vc htb hm Tryz.func45 rfl rfl rfl rfl (ann := fun _ => none) (gh := fun _ => false) ?_
    repeat' ((conv => whnf); first | (guard_target = Done _; refine Done.mk ?_) | (guard_target = Branch _ _ _; (first | apply Branch.dec | apply Branch.beq | apply Branch.bne | apply Branch.ndec | apply Branch.nb | apply Branch.mk) <;> intro h <;> (try simp only [List.length_map] at h) <;> (try omega) <;> (try contradiction)) | (guard_target = CallN _ 103 _ _ _ _; refine CallN.pure _ _ rfl (h1) rfl _ rfl ?_) | (guard_target = CallN _ 40 _ _ _ _; refine CallN.pure _ _ rfl (h2) rfl _ rfl ?_) | (guard_target = Need _ _; refine Need.mk (by first  | omega | (simp only [List.length_map]; omega)) ?_))
    all_goals first | rfl | trivial | (exfalso; simp_all; done)
  | false =>
    have h1 := validSig_ok t a
    rw [hs] at h1
    obtain ⟨k, n, ⟨ck, cn, cs⟩, ks⟩ := e
    refine callF_of_vc htb hm Tryz.func45 rfl rfl rfl rfl (ann := fun _ => none) (gh := fun _ => false) ?_
    repeat' ((conv => whnf); first | (guard_target = Done _; refine Done.mk ?_) | (guard_target = Branch _ _ _; (first | apply Branch.dec | apply Branch.beq | apply Branch.bne | apply Branch.ndec | apply Branch.nb | apply Branch.mk) <;> intro h <;> (try simp only [List.length_map] at h) <;> (try omega) <;> (try contradiction)) | (guard_target = CallN _ 103 _ _ _ _; refine CallN.pure _ _ rfl (h1) rfl _ rfl ?_) | (guard_target = Need _ _; refine Need.mk (by first  | omega | (simp only [List.length_map]; omega)) ?_))
    all_goals first | rfl | trivial | (exfalso; simp_all; done)
theorem goodP_form {t a : Int} {p : XProg} (h : goodP t a p = true) (_hb : budProg p ≤ 1048576) : FormP p := (progOk h).form _ _ (Nat.le_refl _)
theorem ProgExpr_ok {t a : Int} {p : XProg} (hs : goodSig t a = true) (hp : goodP t a p = true) (hb : budProg p ≤ 1048576) (he : goodE t a (progE p) = true) : CallX Tryz.prog 11 [.a 2 [J t, J a], .a 6 (encProg p)] [] (.tup [.a 3 (encExpr (progE p)), I 0]) := by
  have h1 := ValidProg_ok t a p
  rw [hs, hp] at h1
  have h2 := progExpr_ok (goodP_form hp hb) hb
  have h3 := isExpr_ok t a (sig_bounds hs).1 (sig_bounds hs).2 (progE p)
  rw [he] at h3
  obtain ⟨k3, n3, ks3, e3⟩ := ex_mkE (progE p)
  rw [e3] at h2 h3 ⊢
  obtain ⟨k, n, ⟨ck, cn, cs⟩, ks⟩ := p
  refine callX_of_vc htb hm Tryz.func11 rfl rfl rfl rfl (ann := fun _ => none) (gh := fun _ => false) ?_
  repeat' ((conv => whnf); first | (guard_target = RetX _ _; refine RetX.mk ?_ ?_) | (guard_target = Branch _ _ _; (first | apply Branch.dec | apply Branch.beq | apply Branch.bne | apply Branch.ndec | apply Branch.nb | apply Branch.mk) <;> intro h <;> (try simp only [List.length_map] at h) <;> (try omega) <;> (try contradiction)) | (guard_target = CallN _ 45 _ _ _ _; refine CallN.pure _ _ rfl (h1) rfl _ rfl ?_) | (guard_target = CallN _ 46 _ _ _ _; refine CallN.gen [] _ _ _ rfl (h2) rfl rfl _ rfl ?_) | (guard_target = CallN _ 47 _ _ _ _; refine CallN.pure _ _ rfl (h3) rfl _ rfl ?_) | (guard_target = Index _ _ _; first  | refine Index.mk _ (idx_map (by omega)) ?_) | (guard_target = Need _ _; refine Need.mk (by first  | omega | (simp only [List.length_map]; omega)) ?_))
  all_goals first | rfl | trivial | (exfalso; simp_all; done)
end Go.Proofs.YtaajacnceocpoaaGreat

namespace Go.Proofs.YtaajacnceocpoaaGreat
open Go Go.KA Go.Proofs
set_option maxHeartbeats 16000000
set_option maxRecDepth 100000
def decB (i : Nat) : ByteArray := if i < 10 then ⟨#[UInt8.ofNat (48 + i)]⟩ else ⟨#[UInt8.ofNat (48 + i / 10), UInt8.ofNat (48 + i % 10)]⟩
theorem decB_size (i : Nat) : (decB i).size ≤ 2 := by
  unfold decB
  split
  · show 1 ≤ 2; omega
  · show 2 ≤ 2; omega
theorem decB_lo {i : Nat} {n : Int} (h : n = 48 + i) (hi : i < 10) : strOfNums [n] = decB i := by
  subst h
  unfold decB
  rw [if_pos hi]
  rfl
theorem decB_hi {i : Nat} {n : Int} (h : n = 48 + ((i % 10 : Nat) : Int)) (hi : 10 ≤ i) (h2 : i < 100) : decB (i / 10) ++ strOfNums [n] = decB i := by
  subst h
  unfold decB
  rw [if_pos (by omega), if_neg (by omega)]
  rfl
theorem wrap_u8 {z : Int} (h0 : 0 ≤ z) (h1 : z < 256) : IntKind.wrap .u8 z = z := by
  show (if (false && decide (z % (256 : Int) ≥ (2 ^ 7 : Int))) = true then z % (256 : Int) - (256 : Int) else z % (256 : Int)) = z
  rw [Bool.false_and, if_neg (by simp)]
  omega
theorem Decimal_lo (i : Nat) (hi : i < 10) : CallF Tryz.prog 204 [I (i : Nat)] (.c (.val (.string (decB i)))) := by
  refine callF_of_vc htb hm Tryz.func204 rfl rfl rfl rfl (ann := fun _ => none) (gh := fun _ => false) ?_
  repeat' ((conv => whnf); first | (guard_target = Done _; refine Done.mk ?_) | (guard_target = Branch _ _ _; (first | apply Branch.dec | apply Branch.beq | apply Branch.bne | apply Branch.ndec | apply Branch.nb | apply Branch.mk) <;> intro h <;> (try simp only [List.length_map] at h) <;> (try omega) <;> (try contradiction)) | (guard_target = Arith .u8 _ _; refine Arith.fit (wrap_u8 (by omega) (by omega)) ?_) | (guard_target = Arith _ _ _; refine Arith.fit (by apply wrap_fit <;> first | omega | (simp only [List.length_map]; omega)) ?_) | (guard_target = Arith _ _ _; refine Arith.fit (by decide) ?_) | (guard_target = Need (_ = true) _; refine Need.mk (by first | kernel_rfl | rfl) ?_) | (guard_target = GhO _ _ _ _; refine GhO.go ?_) | (guard_target = Need _ _; refine Need.mk (by first  | omega | (simp only [List.length_map]; omega)) ?_))
  show SV.c (.val (.string _)) = _
  rw [decB_lo rfl hi]
theorem Decimal_ok (i : Nat) (hi : i < 100) : CallF Tryz.prog 204 [I (i : Nat)] (.c (.val (.string (decB i)))) := by
  refine callF_of_vc htb hm Tryz.func204 rfl rfl rfl rfl (ann := fun _ => none) (gh := fun _ => false) ?_
  repeat' ((conv => whnf); first | (guard_target = Done _; refine Done.mk ?_) | (guard_target = Branch _ _ _; (first | apply Branch.dec | apply Branch.beq | apply Branch.bne | apply Branch.ndec | apply Branch.nb | apply Branch.mk) <;> intro h <;> (try simp only [List.length_map] at h) <;> (try omega) <;> (try contradiction)) | (guard_target = CallN _ 204 _ _ _ _; refine CallN.pure _ _ rfl (Decimal_lo (i / 10) (by omega)) rfl _ rfl ?_) | (guard_target = Arith .u8 _ _; refine Arith.fit (wrap_u8 (by omega) (by omega)) ?_) | (guard_target = Arith .i64 (Int.tmod _ _) _; rw [show ((i : Int)).tmod 10 = ((i % 10 : Nat) : Int) from rfl]) | (guard_target = Arith _ (Int.tdiv _ _) _; rw [show ((i : Int)).tdiv 10 = ((i / 10 : Nat) : Int) from rfl]) | (guard_target = Arith .i64 (48 + Int.tmod _ _) _; rw [show ((i : Int)).tmod 10 = ((i % 10 : Nat) : Int) from rfl]) | (guard_target = Need (ByteArray.size _ + _ ≤ _) _; refine Need.mk (by have h1 := decB_size (i / 10); have h2 : (strOfNums [48 + ((i % 10 : Nat) : Int)]).size = 1 := rfl; omega) ?_) | (guard_target = Arith _ _ _; refine Arith.fit (by apply wrap_fit <;> first | omega | (simp only [List.length_map]; omega)) ?_) | (guard_target = Arith _ _ _; refine Arith.fit (by decide) ?_) | (guard_target = Need (_ = true) _; refine Need.mk (by first | kernel_rfl | rfl) ?_) | (guard_target = GhO _ _ _ _; refine GhO.go ?_) | (guard_target = Need _ _; refine Need.mk (by first  | omega | (simp only [List.length_map]; omega)) ?_))
  · show SV.c (.val (.string _)) = _
    rw [decB_hi rfl (by omega) hi]
  · show SV.c (.val (.string _)) = _
    rw [decB_lo rfl (by omega)]
end Go.Proofs.YtaajacnceocpoaaGreat
