/- Contracts of the runners of programs and flowcharts: a step, an action, a condition, the result. No conditions. -/
import Derived.Test.YtaajacnceocpoaaGreatKAC
namespace Go.Proofs.YtaajacnceocpoaaGreat
open Go Go.KA Go.Proofs
set_option maxHeartbeats 4000000
set_option maxRecDepth 100000
abbrev more (r : RS) : RS := ⟨r.st, r.ta, r.tc, r.steps + 1⟩
theorem stepI_stop (w : XWorld) (fuel : Int) (r : RS) (h : r.steps = fuel) : CallX Tryz.prog 106 [.c (.op (ctI w fuel r))] [some [.op (ctI w fuel r)]] (I 7) := by
  refine callX_of_vc htb hm Tryz.func106 rfl rfl rfl rfl (ann := fun _ => none) (gh := fun _ => false) ?_
  repeat' ((conv => whnf); first | (guard_target = RetX _ _; refine RetX.mk ?_ ?_) | (guard_target = Branch _ _ _; (first | apply Branch.dec | apply Branch.beq | apply Branch.bne | apply Branch.ndec | apply Branch.nb | apply Branch.mk) <;> intro h <;> (try simp only [List.length_map] at h) <;> (try omega) <;> (try contradiction)) | (guard_target = Arith _ _ _; refine Arith.fit (by apply wrap_fit <;> first | omega | (simp only [List.length_map]; omega)) ?_) | (guard_target = Arith _ _ _; refine Arith.fit (by decide) ?_) | (guard_target = Index _ _ _; first  | refine Index.mk _ (idx_map (by omega)) ?_) | (guard_target = Need (_ = true) _; refine Need.mk (by first | kernel_rfl | rfl) ?_) | (guard_target = GhO _ _ _ _; refine GhO.go ?_) | (guard_target = Need _ _; refine Need.mk (by first  | omega | (simp only [List.length_map]; omega)) ?_))
  all_goals first | rfl | exact ⟨rfl, trivial⟩
theorem stepI_go (w : XWorld) (fuel : Int) (r : RS) (h : ¬ r.steps = fuel) (hb : 0 ≤ r.steps ∧ r.steps ≤ 1000) : CallX Tryz.prog 106 [.c (.op (ctI w fuel r))] [some [.op (ctI w fuel (more r))]] (I 0) := by
  refine callX_of_vc htb hm Tryz.func106 rfl rfl rfl rfl (ann := fun _ => none) (gh := fun _ => false) ?_
  repeat' ((conv => whnf); first | (guard_target = RetX _ _; refine RetX.mk ?_ ?_) | (guard_target = Branch _ _ _; (first | apply Branch.dec | apply Branch.beq | apply Branch.bne | apply Branch.ndec | apply Branch.nb | apply Branch.mk) <;> intro h <;> (try simp only [List.length_map] at h) <;> (try omega) <;> (try contradiction)) | (guard_target = Arith _ _ _; refine Arith.fit (by apply wrap_fit <;> first | omega | (simp only [List.length_map]; omega)) ?_) | (guard_target = Arith _ _ _; refine Arith.fit (by decide) ?_) | (guard_target = Index _ _ _; first  | refine Index.mk _ (idx_map (by omega)) ?_) | (guard_target = Need (_ = true) _; refine Need.mk (by first | kernel_rfl | rfl) ?_) | (guard_target = GhO _ _ _ _; refine GhO.go ?_) | (guard_target = Need _ _; refine Need.mk (by first  | omega | (simp only [List.length_map]; omega)) ?_))
  all_goals first | rfl | exact ⟨rfl, trivial⟩
theorem stepS_bad (w : XWorld) (fuel code : Int) (r : RS) (h : ¬ code = 0) : CallX Tryz.prog 100 [.c (.op (ctS w fuel r code))] [some [.op (ctS w fuel r code)]] (B false) := by
  refine callX_of_vc htb hm Tryz.func100 rfl rfl rfl rfl (ann := fun _ => none) (gh := fun _ => false) ?_
  repeat' ((conv => whnf); first | (guard_target = RetX _ _; refine RetX.mk ?_ ?_) | (guard_target = Branch _ _ _; (first | apply Branch.dec | apply Branch.beq | apply Branch.bne | apply Branch.ndec | apply Branch.nb | apply Branch.mk) <;> intro h <;> (try simp only [List.length_map] at h) <;> (try omega) <;> (try contradiction)) | (guard_target = Arith _ _ _; refine Arith.fit (by apply wrap_fit <;> first | omega | (simp only [List.length_map]; omega)) ?_) | (guard_target = Arith _ _ _; refine Arith.fit (by decide) ?_) | (guard_target = Index _ _ _; first  | refine Index.mk _ (idx_map (by omega)) ?_) | (guard_target = Need (_ = true) _; refine Need.mk (by first | kernel_rfl | rfl) ?_) | (guard_target = GhO _ _ _ _; refine GhO.go ?_) | (guard_target = Need _ _; refine Need.mk (by first  | omega | (simp only [List.length_map]; omega)) ?_))
  all_goals first | rfl | exact ⟨rfl, trivial⟩
theorem stepS_stop (w : XWorld) (fuel : Int) (r : RS) (h : r.steps = fuel) : CallX Tryz.prog 100 [.c (.op (ctS w fuel r 0))] [some [.op (ctS w fuel r 7)]] (B false) := by
  refine callX_of_vc htb hm Tryz.func100 rfl rfl rfl rfl (ann := fun _ => none) (gh := fun _ => false) ?_
  repeat' ((conv => whnf); first | (guard_target = RetX _ _; refine RetX.mk ?_ ?_) | (guard_target = Branch _ _ _; (first | apply Branch.dec | apply Branch.beq | apply Branch.bne | apply Branch.ndec | apply Branch.nb | apply Branch.mk) <;> intro h <;> (try simp only [List.length_map] at h) <;> (try omega) <;> (try contradiction)) | (guard_target = Arith _ _ _; refine Arith.fit (by apply wrap_fit <;> first | omega | (simp only [List.length_map]; omega)) ?_) | (guard_target = Arith _ _ _; refine Arith.fit (by decide) ?_) | (guard_target = Index _ _ _; first  | refine Index.mk _ (idx_map (by omega)) ?_) | (guard_target = Need (_ = true) _; refine Need.mk (by first | kernel_rfl | rfl) ?_) | (guard_target = GhO _ _ _ _; refine GhO.go ?_) | (guard_target = Need _ _; refine Need.mk (by first  | omega | (simp only [List.length_map]; omega)) ?_))
  all_goals first | rfl | exact ⟨rfl, trivial⟩
theorem stepS_go (w : XWorld) (fuel : Int) (r : RS) (h : ¬ r.steps = fuel) (hb : 0 ≤ r.steps ∧ r.steps ≤ 1000) : CallX Tryz.prog 100 [.c (.op (ctS w fuel r 0))] [some [.op (ctS w fuel (more r) 0)]] (B true) := by
  refine callX_of_vc htb hm Tryz.func100 rfl rfl rfl rfl (ann := fun _ => none) (gh := fun _ => false) ?_
  repeat' ((conv => whnf); first | (guard_target = RetX _ _; refine RetX.mk ?_ ?_) | (guard_target = Branch _ _ _; (first | apply Branch.dec | apply Branch.beq | apply Branch.bne | apply Branch.ndec | apply Branch.nb | apply Branch.mk) <;> intro h <;> (try simp only [List.length_map] at h) <;> (try omega) <;> (try contradiction)) | (guard_target = Arith _ _ _; refine Arith.fit (by apply wrap_fit <;> first | omega | (simp only [List.length_map]; omega)) ?_) | (guard_target = Arith _ _ _; refine Arith.fit (by decide) ?_) | (guard_target = Index _ _ _; first  | refine Index.mk _ (idx_map (by omega)) ?_) | (guard_target = Need (_ = true) _; refine Need.mk (by first | kernel_rfl | rfl) ?_) | (guard_target = GhO _ _ _ _; refine GhO.go ?_) | (guard_target = Need _ _; refine Need.mk (by first  | omega | (simp only [List.length_map]; omega)) ?_))
  all_goals first | rfl | exact ⟨rfl, trivial⟩
def nxt (w : XWorld) (r : RS) (act : Int) : Int := (w.acts.getD act.toNat []).getD r.st.toNat 0
abbrev done (w : XWorld) (r : RS) (act : Int) : RS := ⟨nxt w r act, r.ta ++ [at0 w (nxt w r act)], r.tc ++ [act], r.steps⟩
structure StOk (w : XWorld) (r : RS) : Prop where
  st : 0 ≤ r.st ∧ r.st < w.atoms.length
  steps : 0 ≤ r.steps ∧ r.steps ≤ 1000
  ta : r.ta.length ≤ 10000 + r.steps.toNat
  tc : r.tc.length ≤ 10000 + r.steps.toNat
structure WOk (w : XWorld) : Prop where
  row : ∀ l ∈ w.acts, l.length = w.atoms.length ∧ ∀ x ∈ l, -1 ≤ x ∧ x < w.atoms.length
theorem nxt_b {w : XWorld} {r : RS} {act : Int} (hw : WOk w) (hr : StOk w r) (ha : 0 ≤ act ∧ act < w.acts.length) : (w.acts.getD act.toNat []).length = w.atoms.length ∧ -1 ≤ nxt w r act ∧ nxt w r act < w.atoms.length := by
  have h1 : act.toNat < w.acts.length := by omega
  have hst := hr.st
  have h2 := hw.row _ (List.getElem_mem h1)
  unfold nxt
  rw [getD_eq h1]
  refine ⟨h2.1, ?_⟩
  have h3 : r.st.toNat < w.acts[act.toNat].length := by omega
  rw [getD_eq h3]
  exact h2.2 _ (List.getElem_mem h3)
theorem do_bad (w : XWorld) (fuel act : Int) (r : RS) (hw : WOk w) (hr : StOk w r) (ha : 0 ≤ act ∧ act < w.acts.length) (h : nxt w r act < 0) : CallX Tryz.prog 107 [.c (.op (ctI w fuel r)), I act] [some [.op (ctI w fuel r)]] (I 4) := by
  have hn := nxt_b hw hr ha
  have hst := hr.st
  unfold nxt at h hn
  refine callX_of_vc htb hm Tryz.func107 rfl rfl rfl rfl (ann := fun _ => none) (gh := fun _ => false) ?_
  repeat' ((conv => whnf); first | (guard_target = RetX _ _; refine RetX.mk ?_ ?_) | (guard_target = Fact _ _; refine Fact.mk fun hL => ?_; (try simp only [List.length_map, maxLen] at hL)) | (guard_target = Branch _ _ _; (first | apply Branch.dec | apply Branch.beq | apply Branch.bne | apply Branch.ndec | apply Branch.nb | apply Branch.mk) <;> intro h <;> (try simp only [List.length_map] at h) <;> (try omega) <;> (try contradiction)) | (guard_target = Index _ _ _; first | refine Index.mk _ (idx_getD (d := []) (i := act.toNat) (by omega)) ?_ | refine Index.mk _ (idx_getD (d := 0) (i := r.st.toNat) (by omega)) ?_ | refine Index.mk _ (idx_map (by omega)) ?_) | (guard_target = Need (_ = true) _; refine Need.mk (by first | kernel_rfl | rfl) ?_) | (guard_target = LinkV _ _ _; refine LinkV.no ?_) | (guard_target = GhO _ _ _ _; refine GhO.go ?_) | (guard_target = Need _ _; refine Need.mk (by first  | omega | (simp only [List.length_map]; omega)) ?_))
  all_goals first | rfl | exact ⟨rfl, trivial⟩
theorem ctI_done (w : XWorld) (fuel act : Int) (r : RS) : ctI w fuel (done w r act) = [.ro 1 (w.atoms.map eI), .ro 1 (w.acts.map fun l => [.ro 1 (l.map eI)]), J (nxt w r act), .ows 2 1 (r.ta.map eI ++ [eI (at0 w (nxt w r act))]), .ows 2 1 (r.tc.map eI ++ [eI act]), J fuel, J r.steps] := by
  simp only [ctI, done, List.map_append, List.map_cons, List.map_nil]
theorem ctS_done (w : XWorld) (fuel act : Int) (r : RS) : ctS w fuel (done w r act) 0 = [.rp 2 (encWorld w), J (nxt w r act), .ows 2 1 (r.ta.map eI ++ [eI (at0 w (nxt w r act))]), .ows 2 1 (r.tc.map eI ++ [eI act]), J r.steps, J fuel, J 0] := by
  simp only [ctS, done, List.map_append, List.map_cons, List.map_nil]
theorem do_go (w : XWorld) (fuel act : Int) (r : RS) (hw : WOk w) (hr : StOk w r) (ha : 0 ≤ act ∧ act < w.acts.length) (h : ¬ nxt w r act < 0) : CallX Tryz.prog 107 [.c (.op (ctI w fuel r)), I act] [some [.op (ctI w fuel (done w r act))]] (I 0) := by
  have hn := nxt_b hw hr ha
  have hst := hr.st
  have hta := hr.ta
  have htc := hr.tc
  have hss := hr.steps
  rw [ctI_done]
  unfold nxt at h hn ⊢
  refine callX_of_vc htb hm Tryz.func107 rfl rfl rfl rfl (ann := fun _ => none) (gh := fun _ => false) ?_
  repeat' ((conv => whnf); first | (guard_target = RetX _ _; refine RetX.mk ?_ ?_) | (guard_target = Fact _ _; refine Fact.mk fun hL => ?_; (try simp only [List.length_map, maxLen] at hL)) | (guard_target = Branch _ _ _; (first | apply Branch.dec | apply Branch.beq | apply Branch.bne | apply Branch.ndec | apply Branch.nb | apply Branch.mk) <;> intro h <;> (try simp only [List.length_map] at h) <;> (try omega) <;> (try contradiction)) | (guard_target = Index _ _ _; first | refine Index.mk _ (idx_getD (d := []) (i := act.toNat) (by omega)) ?_ | refine Index.mk _ (idx_getD (d := 0) (i := r.st.toNat) (by omega)) ?_ | refine Index.mk _ (idx_getD (d := 0) (i := ((w.acts.getD act.toNat []).getD r.st.toNat 0).toNat) (by omega)) ?_ | refine Index.mk _ (idx_map (by omega)) ?_) | (guard_target = Need (_ = true) _; refine Need.mk (by first | kernel_rfl | rfl) ?_) | (guard_target = LinkV _ _ _; refine LinkV.no ?_) | (guard_target = GhO _ _ _ _; refine GhO.go ?_) | (guard_target = Need _ _; refine Need.mk (by first | (simp only [List.length_map, List.length_cons, List.length_nil, maxLen]; omega) | omega | (simp only [List.length_map]; omega)) ?_))
  all_goals first | rfl | exact ⟨rfl, trivial⟩
theorem act_bad (w : XWorld) (fuel act : Int) (r : RS) (hw : WOk w) (hr : StOk w r) (ha : 0 ≤ act ∧ act < w.acts.length) (h : nxt w r act < 0) : CallX Tryz.prog 101 [.c (.op (ctS w fuel r 0)), I act] [some [.op (ctS w fuel r 4)]] (.tup []) := by
  have hn := nxt_b hw hr ha
  have hst := hr.st
  unfold nxt at h hn
  refine callX_of_vc htb hm Tryz.func101 rfl rfl rfl rfl (ann := fun _ => none) (gh := fun _ => false) ?_
  repeat' ((conv => whnf); first | (guard_target = RetX _ _; refine RetX.mk ?_ ?_) | (guard_target = Fact _ _; refine Fact.mk fun hL => ?_; (try simp only [List.length_map, maxLen] at hL)) | (guard_target = Branch _ _ _; (first | apply Branch.dec | apply Branch.beq | apply Branch.bne | apply Branch.ndec | apply Branch.nb | apply Branch.mk) <;> intro h <;> (try simp only [List.length_map] at h) <;> (try omega) <;> (try contradiction)) | (guard_target = Index _ _ _; first | refine Index.mk _ (idx_getD (d := []) (i := act.toNat) (by omega)) ?_ | refine Index.mk _ (idx_getD (d := 0) (i := r.st.toNat) (by omega)) ?_ | refine Index.mk _ (idx_map (by omega)) ?_) | (guard_target = Need (_ = true) _; refine Need.mk (by first | kernel_rfl | rfl) ?_) | (guard_target = LinkV _ _ _; refine LinkV.no ?_) | (guard_target = GhO _ _ _ _; refine GhO.go ?_) | (guard_target = Need _ _; refine Need.mk (by first  | omega | (simp only [List.length_map]; omega)) ?_))
  all_goals first | rfl | exact ⟨rfl, trivial⟩
theorem act_go (w : XWorld) (fuel act : Int) (r : RS) (hw : WOk w) (hr : StOk w r) (ha : 0 ≤ act ∧ act < w.acts.length) (h : ¬ nxt w r act < 0) : CallX Tryz.prog 101 [.c (.op (ctS w fuel r 0)), I act] [some [.op (ctS w fuel (done w r act) 0)]] (.tup []) := by
  have hn := nxt_b hw hr ha
  have hst := hr.st
  have hta := hr.ta
  have htc := hr.tc
  have hss := hr.steps
  rw [ctS_done]
  unfold nxt at h hn ⊢
  refine callX_of_vc htb hm Tryz.func101 rfl rfl rfl rfl (ann := fun _ => none) (gh := fun _ => false) ?_
  repeat' ((conv => whnf); first | (guard_target = RetX _ _; refine RetX.mk ?_ ?_) | (guard_target = Fact _ _; refine Fact.mk fun hL => ?_; (try simp only [List.length_map, maxLen] at hL)) | (guard_target = Branch _ _ _; (first | apply Branch.dec | apply Branch.beq | apply Branch.bne | apply Branch.ndec | apply Branch.nb | apply Branch.mk) <;> intro h <;> (try simp only [List.length_map] at h) <;> (try omega) <;> (try contradiction)) | (guard_target = Index _ _ _; first | refine Index.mk _ (idx_getD (d := []) (i := act.toNat) (by omega)) ?_ | refine Index.mk _ (idx_getD (d := 0) (i := r.st.toNat) (by omega)) ?_ | refine Index.mk _ (idx_getD (d := 0) (i := ((w.acts.getD act.toNat []).getD r.st.toNat 0).toNat) (by omega)) ?_ | refine Index.mk _ (idx_map (by omega)) ?_) | (guard_target = Need (_ = true) _; refine Need.mk (by first | kernel_rfl | rfl) ?_) | (guard_target = LinkV _ _ _; refine LinkV.no ?_) | (guard_target = GhO _ _ _ _; refine GhO.go ?_) | (guard_target = Need _ _; refine Need.mk (by first | (simp only [List.length_map, List.length_cons, List.length_nil, maxLen]; omega) | omega | (simp only [List.length_map]; omega)) ?_))
  all_goals first | rfl | exact ⟨rfl, trivial⟩
theorem holdsI_ok (t a : Int) (w : XWorld) (fuel : Int) (r : RS) (hr : StOk w r) (e : XExpr) (h : okC t a e) : CallX Tryz.prog 108 [.c (.op (ctI w fuel r)), .a 3 (encExpr e)] [some [.op (ctI w fuel r)], none] (B (truthE e (at0 w r.st))) := by
  have hst := hr.st
  refine callX_of_vc htb hm Tryz.func108 rfl rfl rfl rfl (ann := fun _ => none) (gh := fun _ => false) ?_
  repeat' ((conv => whnf); first | (guard_target = RetX _ _; refine RetX.mk ?_ ?_) | (guard_target = CallN _ 159 _ _ _ _; refine CallN.pure _ _ rfl (truth_ok t a _ e h) rfl _ rfl ?_) | (guard_target = Index _ _ _; first | refine Index.mk _ (idx_getD (d := 0) (i := r.st.toNat) (by omega)) ?_ | refine Index.mk _ (idx_map (by omega)) ?_) | (guard_target = Need (_ = true) _; refine Need.mk (by first | kernel_rfl | rfl) ?_) | (guard_target = LinkV _ _ _; refine LinkV.no ?_) | (guard_target = GhO _ _ _ _; refine GhO.go ?_) | (guard_target = Need _ _; refine Need.mk (by first  | omega | (simp only [List.length_map]; omega)) ?_))
  all_goals first | rfl | exact ⟨rfl, trivial⟩
theorem holdsS_ok (t a : Int) (ht : t ≤ 3) (w : XWorld) (fuel code : Int) (r : RS) (hr : StOk w r) (e : XExpr) (h : okC t a e) : CallX Tryz.prog 102 [.c (.op (ctS w fuel r code)), .c (.rp 3 (encExpr e))] [some [.op (ctS w fuel r code)], none] (B (truthE e (at0 w r.st))) := by
  have hst := hr.st
  refine callX_of_vc htb hm Tryz.func102 rfl rfl rfl rfl (ann := fun _ => none) (gh := fun _ => false) ?_
  repeat' ((conv => whnf); first | (guard_target = RetX _ _; refine RetX.mk ?_ ?_) | (guard_target = CallN _ 127 _ _ _ _; refine CallN.pure _ _ rfl (l01True_ok t a _ ht e h) rfl _ rfl ?_) | (guard_target = Index _ _ _; first | refine Index.mk _ (idx_getD (d := 0) (i := r.st.toNat) (by omega)) ?_ | refine Index.mk _ (idx_map (by omega)) ?_) | (guard_target = Need (_ = true) _; refine Need.mk (by first | kernel_rfl | rfl) ?_) | (guard_target = LinkV _ _ _; refine LinkV.no ?_) | (guard_target = GhO _ _ _ _; refine GhO.go ?_) | (guard_target = Need _ _; refine Need.mk (by first  | omega | (simp only [List.length_map]; omega)) ?_))
  all_goals first | rfl | exact ⟨rfl, trivial⟩
abbrev noneT (code : Int) : SV := .tup [I 0, .a 2 [.ows 2 1 [], .ows 2 1 []], I 0, I code]
abbrev runT (r : RS) : SV := .tup [I r.st, .a 2 [.ows 2 1 (r.ta.map eI), .ows 2 1 (r.tc.map eI)], I r.steps, I 0]
theorem result_bad (w : XWorld) (fuel code : Int) (r : RS) (h : ¬ code = 0) : CallX Tryz.prog 43 [.c (.op (ctI w fuel r)), I code] [] (noneT code) := by
  refine callX_of_vc htb hm Tryz.func43 rfl rfl rfl rfl (ann := fun _ => none) (gh := fun _ => false) ?_
  repeat' ((conv => whnf); first | (guard_target = RetX _ _; refine RetX.mk ?_ ?_) | (guard_target = Branch _ _ _; (first | apply Branch.dec | apply Branch.beq | apply Branch.bne | apply Branch.ndec | apply Branch.nb | apply Branch.mk) <;> intro h <;> (try simp only [List.length_map] at h) <;> (try omega) <;> (try contradiction)) | (guard_target = Index _ _ _; first  | refine Index.mk _ (idx_map (by omega)) ?_) | (guard_target = Need (_ = true) _; refine Need.mk (by first | kernel_rfl | rfl) ?_) | (guard_target = GhO _ _ _ _; refine GhO.go ?_) | (guard_target = Need _ _; refine Need.mk (by first  | omega | (simp only [List.length_map]; omega)) ?_))
  all_goals first | rfl | trivial
theorem result_ok (w : XWorld) (fuel : Int) (r : RS) : CallX Tryz.prog 43 [.c (.op (ctI w fuel r)), I 0] [] (runT r) := by
  refine callX_of_vc htb hm Tryz.func43 rfl rfl rfl rfl (ann := fun _ => none) (gh := fun _ => false) ?_
  repeat' ((conv => whnf); first | (guard_target = RetX _ _; refine RetX.mk ?_ ?_) | (guard_target = Branch _ _ _; (first | apply Branch.dec | apply Branch.beq | apply Branch.bne | apply Branch.ndec | apply Branch.nb | apply Branch.mk) <;> intro h <;> (try simp only [List.length_map] at h) <;> (try omega) <;> (try contradiction)) | (guard_target = Index _ _ _; first  | refine Index.mk _ (idx_map (by omega)) ?_) | (guard_target = Need (_ = true) _; refine Need.mk (by first | kernel_rfl | rfl) ?_) | (guard_target = GhO _ _ _ _; refine GhO.go ?_) | (guard_target = Need _ _; refine Need.mk (by first  | omega | (simp only [List.length_map]; omega)) ?_))
  all_goals first | rfl | trivial
theorem told_bad (w : XWorld) (fuel code : Int) (r : RS) (h : ¬ code = 0) : CallX Tryz.prog 38 [.c (.op (ctS w fuel r code))] [] (noneT code) := by
  refine callX_of_vc htb hm Tryz.func38 rfl rfl rfl rfl (ann := fun _ => none) (gh := fun _ => false) ?_
  repeat' ((conv => whnf); first | (guard_target = RetX _ _; refine RetX.mk ?_ ?_) | (guard_target = Branch _ _ _; (first | apply Branch.dec | apply Branch.beq | apply Branch.bne | apply Branch.ndec | apply Branch.nb | apply Branch.mk) <;> intro h <;> (try simp only [List.length_map] at h) <;> (try omega) <;> (try contradiction)) | (guard_target = Index _ _ _; first  | refine Index.mk _ (idx_map (by omega)) ?_) | (guard_target = Need (_ = true) _; refine Need.mk (by first | kernel_rfl | rfl) ?_) | (guard_target = GhO _ _ _ _; refine GhO.go ?_) | (guard_target = Need _ _; refine Need.mk (by first  | omega | (simp only [List.length_map]; omega)) ?_))
  all_goals first | rfl | trivial
theorem told_ok (w : XWorld) (fuel : Int) (r : RS) : CallX Tryz.prog 38 [.c (.op (ctS w fuel r 0))] [] (runT r) := by
  refine callX_of_vc htb hm Tryz.func38 rfl rfl rfl rfl (ann := fun _ => none) (gh := fun _ => false) ?_
  repeat' ((conv => whnf); first | (guard_target = RetX _ _; refine RetX.mk ?_ ?_) | (guard_target = Branch _ _ _; (first | apply Branch.dec | apply Branch.beq | apply Branch.bne | apply Branch.ndec | apply Branch.nb | apply Branch.mk) <;> intro h <;> (try simp only [List.length_map] at h) <;> (try omega) <;> (try contradiction)) | (guard_target = Index _ _ _; first  | refine Index.mk _ (idx_map (by omega)) ?_) | (guard_target = Need (_ = true) _; refine Need.mk (by first | kernel_rfl | rfl) ?_) | (guard_target = GhO _ _ _ _; refine GhO.go ?_) | (guard_target = Need _ _; refine Need.mk (by first  | omega | (simp only [List.length_map]; omega)) ?_))
  all_goals first | rfl | trivial
end Go.Proofs.YtaajacnceocpoaaGreat

namespace Go.Proofs.YtaajacnceocpoaaGreat
open Go Go.KA Go.Proofs
set_option maxHeartbeats 8000000
set_option maxRecDepth 100000
theorem condG_ok {t a : Int} {e : XExpr} (h : condG t a e = true) : okC t a e := by
  simp only [condG, goodE, Bool.and_eq_true] at h
  exact ⟨h.2, h.1.2.2⟩
section
variable {t a : Int} {w : XWorld} {fuel : Int}  {R : Int × RS} {p : Int} {r : RS}
theorem StOk.inc (h : StOk w r) (hs : r.steps < 1000) : StOk w (more r) := by
  obtain ⟨h1, h2, h3, h4⟩ := h
  exact ⟨h1, by show 0 ≤ r.steps + 1 ∧ r.steps + 1 ≤ 1000; omega, by show r.ta.length ≤ 10000 + (r.steps + 1).toNat; omega, by show r.tc.length ≤ 10000 + (r.steps + 1).toNat; omega⟩
theorem StOk.fin (hw : WOk w) {act : Int} (h : StOk w r) (hs : r.steps < 1000) (ha : 0 ≤ act ∧ act < w.acts.length) (hn : ¬ nxt w (more r) act < 0) : StOk w (done w (more r) act) := by
  have hb := nxt_b hw (h.inc hs) ha
  obtain ⟨h1, h2, h3, h4⟩ := h
  exact ⟨by show 0 ≤ nxt w (more r) act ∧ nxt w (more r) act < w.atoms.length; omega, by show 0 ≤ r.steps + 1 ∧ r.steps + 1 ≤ 1000; omega, by show (r.ta ++ [_]).length ≤ 10000 + (r.steps + 1).toNat; rw [List.length_append, List.length_singleton]; omega, by show (r.tc ++ [_]).length ≤ 10000 + (r.steps + 1).toNat; rw [List.length_append, List.length_singleton]; omega⟩
end
theorem holdsI_ok' (t a : Int) (w : XWorld) (fuel : Int) (r : RS) (hr : StOk w r) (e : XExpr) (h : okC t a e) : CallX Tryz.prog 108 [.c (.op (ctI w fuel r)), .a 3 (toldE e)] [some [.op (ctI w fuel r)], none] (B (truthE e (at0 w r.st))) := by
  have := holdsI_ok t a w fuel r hr e h
  rwa [encExpr_eq] at this
end Go.Proofs.YtaajacnceocpoaaGreat

namespace Go.Proofs.YtaajacnceocpoaaGreat
open Go Go.KA Go.Proofs
set_option maxHeartbeats 8000000
set_option maxRecDepth 100000
end Go.Proofs.YtaajacnceocpoaaGreat

namespace Go.Proofs.YtaajacnceocpoaaGreat
open Go Go.KA Go.Proofs
set_option maxHeartbeats 8000000
set_option maxRecDepth 100000
theorem ValidWorld_ok (t a : Int) (w : XWorld) : CallF Tryz.prog 39 [.a 2 [J t, J a], .a 2 (encWorld w)] (B (goodSig t a && goodWorld t a w)) := by
  refine callF_of_vc htb hm Tryz.func39 rfl rfl rfl rfl (ann := fun _ => none) (gh := fun _ => false) ?_
  repeat' ((conv => whnf); first | (guard_target = Done _; refine Done.mk ?_; first | (rfl; done) | (simp_all [normS, normV]; done) | (simp_all [normS, normV]; omega; done) | (simp_all [normS, normV]; intros; omega; done) | (simp_all [-List.all_eq_true, -List.all_eq_false, normS, normV]; done) | (simp_all [-List.all_eq_true, -List.all_eq_false, normS, normV]; omega; done) | skip) | (guard_target = Branch _ _ _; (first | apply Branch.dec | apply Branch.beq | apply Branch.bne | apply Branch.ndec | apply Branch.nb | apply Branch.mk) <;> intro h <;> (try simp only [List.length_map] at h) <;> (try omega) <;> (try contradiction)) | (guard_target = CallN _ 103 _ _ _ _; refine CallN.pure _ _ rfl (validSig_ok t a) rfl _ rfl ?_) | (guard_target = CallN _ 104 _ _ _ _; refine CallN.pure _ _ rfl (isWorld_ok t a (sig_bounds ‹_›).1 (sig_bounds ‹_›).2 w) rfl _ rfl ?_) | (guard_target = Need _ _; refine Need.mk (by first  | omega | (simp only [List.length_map]; omega)) ?_))
theorem worldOk {t a : Int} {w : XWorld} (h : goodWorld t a w = true) : WOk w ∧ (w.acts.length : Int) = a := by
  simp only [goodWorld, Bool.and_eq_true, beq_iff_eq, List.all_eq_true] at h
  refine ⟨⟨fun l hl => ?_⟩, h.2.2.1⟩
  have := h.2.2.2 l hl
  simp only [goodRow, Bool.and_eq_true, beq_iff_eq, List.all_eq_true, rng, decide_eq_true_eq] at this
  refine ⟨by omega, fun x hx => ?_⟩
  have := this.2 x hx
  omega
theorem runB {w : XWorld} {state fuel : Int} (hr : runOk w state fuel = true) : 0 ≤ fuel ∧ fuel ≤ 500 := by
  simp only [runOk, rng, Bool.and_eq_true, decide_eq_true_eq] at hr
  omega
section
variable (t a : Int) (w : XWorld)  (state fuel : Int)
end
end Go.Proofs.YtaajacnceocpoaaGreat
