/- Contracts of the runners of programs and flowcharts: a step, an action, a condition, the result. No conditions. -/
import Derived.Test.YtbbaadkgmdkjdaaXe
namespace Go.Proofs.Ytbbaadkgmdkjdaa
open Go Go.KA Go.Proofs
set_option maxHeartbeats 4000000
set_option maxRecDepth 100000
abbrev more (r : RS) : RS := ⟨r.st, r.ta, r.tc, r.steps + 1⟩
theorem stepI_stop (w : XWorld) (fuel : Int) (r : RS) (h : r.steps = fuel) : CallX Try.prog 94 [.c (.op (ctI w fuel r))] [some [.op (ctI w fuel r)]] (I 7) := by
  refine callX_of_vc htb hm Try.func94 rfl rfl rfl rfl (ann := fun _ => none) (gh := fun _ => false) ?_
  repeat' ((conv => whnf); first
    | (guard_target = Done _; refine Done.mk ?_)
    | (guard_target = RetX _ _; refine RetX.mk ?_ ?_)
    | (guard_target = Fact _ _; refine Fact.mk fun hL => ?_; (try simp only [List.length_map, maxLen] at hL))
    | (guard_target = Branch _ _ _; (first | refine Branch.dec (fun h => ?_) (fun h => ?_) | refine Branch.beq (fun h => ?_) (fun h => ?_) | refine Branch.bne (fun h => ?_) (fun h => ?_) | refine Branch.ndec (fun h => ?_) (fun h => ?_) | refine Branch.nb (fun h => ?_) (fun h => ?_) | refine Branch.mk (fun h => ?_) (fun h => ?_)) <;> (try simp only [List.length_map] at h) <;> (try omega) <;> (try contradiction))
    | (guard_target = Arith _ _ _; refine Arith.fit (wrap_fit (by first | omega | (simp only [List.length_map]; omega)) (by first | omega | (simp only [List.length_map]; omega))) ?_)
    | (guard_target = Arith _ _ _; refine Arith.fit (by decide) ?_)
    | (guard_target = Index _ _ _; first  | refine Index.mk _ (idx_map (by omega)) ?_)
    | (guard_target = Need (chkDraw _ = true) _; refine Need.mk (by kernel_rfl) ?_)
    | (guard_target = Need (chkRecs _ _ = true) _; refine Need.mk (by first | kernel_rfl | rfl) ?_)
    | (guard_target = Need _ _; refine Need.mk (by first  | omega | (simp only [List.length_map]; omega)) ?_))
  all_goals first | rfl | exact ⟨rfl, trivial⟩
theorem stepI_go (w : XWorld) (fuel : Int) (r : RS) (h : ¬ r.steps = fuel) (hb : 0 ≤ r.steps ∧ r.steps ≤ 1000) : CallX Try.prog 94 [.c (.op (ctI w fuel r))] [some [.op (ctI w fuel (more r))]] (I 0) := by
  refine callX_of_vc htb hm Try.func94 rfl rfl rfl rfl (ann := fun _ => none) (gh := fun _ => false) ?_
  repeat' ((conv => whnf); first
    | (guard_target = Done _; refine Done.mk ?_)
    | (guard_target = RetX _ _; refine RetX.mk ?_ ?_)
    | (guard_target = Fact _ _; refine Fact.mk fun hL => ?_; (try simp only [List.length_map, maxLen] at hL))
    | (guard_target = Branch _ _ _; (first | refine Branch.dec (fun h => ?_) (fun h => ?_) | refine Branch.beq (fun h => ?_) (fun h => ?_) | refine Branch.bne (fun h => ?_) (fun h => ?_) | refine Branch.ndec (fun h => ?_) (fun h => ?_) | refine Branch.nb (fun h => ?_) (fun h => ?_) | refine Branch.mk (fun h => ?_) (fun h => ?_)) <;> (try simp only [List.length_map] at h) <;> (try omega) <;> (try contradiction))
    | (guard_target = Arith _ _ _; refine Arith.fit (wrap_fit (by first | omega | (simp only [List.length_map]; omega)) (by first | omega | (simp only [List.length_map]; omega))) ?_)
    | (guard_target = Arith _ _ _; refine Arith.fit (by decide) ?_)
    | (guard_target = Index _ _ _; first  | refine Index.mk _ (idx_map (by omega)) ?_)
    | (guard_target = Need (chkDraw _ = true) _; refine Need.mk (by kernel_rfl) ?_)
    | (guard_target = Need (chkRecs _ _ = true) _; refine Need.mk (by first | kernel_rfl | rfl) ?_)
    | (guard_target = Need _ _; refine Need.mk (by first  | omega | (simp only [List.length_map]; omega)) ?_))
  all_goals first | rfl | exact ⟨rfl, trivial⟩
theorem stepS_bad (w : XWorld) (fuel code : Int) (r : RS) (h : ¬ code = 0) : CallX Try.prog 88 [.c (.op (ctS w fuel r code))] [some [.op (ctS w fuel r code)]] (B false) := by
  refine callX_of_vc htb hm Try.func88 rfl rfl rfl rfl (ann := fun _ => none) (gh := fun _ => false) ?_
  repeat' ((conv => whnf); first
    | (guard_target = Done _; refine Done.mk ?_)
    | (guard_target = RetX _ _; refine RetX.mk ?_ ?_)
    | (guard_target = Fact _ _; refine Fact.mk fun hL => ?_; (try simp only [List.length_map, maxLen] at hL))
    | (guard_target = Branch _ _ _; (first | refine Branch.dec (fun h => ?_) (fun h => ?_) | refine Branch.beq (fun h => ?_) (fun h => ?_) | refine Branch.bne (fun h => ?_) (fun h => ?_) | refine Branch.ndec (fun h => ?_) (fun h => ?_) | refine Branch.nb (fun h => ?_) (fun h => ?_) | refine Branch.mk (fun h => ?_) (fun h => ?_)) <;> (try simp only [List.length_map] at h) <;> (try omega) <;> (try contradiction))
    | (guard_target = Arith _ _ _; refine Arith.fit (wrap_fit (by first | omega | (simp only [List.length_map]; omega)) (by first | omega | (simp only [List.length_map]; omega))) ?_)
    | (guard_target = Arith _ _ _; refine Arith.fit (by decide) ?_)
    | (guard_target = Index _ _ _; first  | refine Index.mk _ (idx_map (by omega)) ?_)
    | (guard_target = Need (chkDraw _ = true) _; refine Need.mk (by kernel_rfl) ?_)
    | (guard_target = Need (chkRecs _ _ = true) _; refine Need.mk (by first | kernel_rfl | rfl) ?_)
    | (guard_target = Need _ _; refine Need.mk (by first  | omega | (simp only [List.length_map]; omega)) ?_))
  all_goals first | rfl | exact ⟨rfl, trivial⟩
theorem stepS_stop (w : XWorld) (fuel : Int) (r : RS) (h : r.steps = fuel) : CallX Try.prog 88 [.c (.op (ctS w fuel r 0))] [some [.op (ctS w fuel r 7)]] (B false) := by
  refine callX_of_vc htb hm Try.func88 rfl rfl rfl rfl (ann := fun _ => none) (gh := fun _ => false) ?_
  repeat' ((conv => whnf); first
    | (guard_target = Done _; refine Done.mk ?_)
    | (guard_target = RetX _ _; refine RetX.mk ?_ ?_)
    | (guard_target = Fact _ _; refine Fact.mk fun hL => ?_; (try simp only [List.length_map, maxLen] at hL))
    | (guard_target = Branch _ _ _; (first | refine Branch.dec (fun h => ?_) (fun h => ?_) | refine Branch.beq (fun h => ?_) (fun h => ?_) | refine Branch.bne (fun h => ?_) (fun h => ?_) | refine Branch.ndec (fun h => ?_) (fun h => ?_) | refine Branch.nb (fun h => ?_) (fun h => ?_) | refine Branch.mk (fun h => ?_) (fun h => ?_)) <;> (try simp only [List.length_map] at h) <;> (try omega) <;> (try contradiction))
    | (guard_target = Arith _ _ _; refine Arith.fit (wrap_fit (by first | omega | (simp only [List.length_map]; omega)) (by first | omega | (simp only [List.length_map]; omega))) ?_)
    | (guard_target = Arith _ _ _; refine Arith.fit (by decide) ?_)
    | (guard_target = Index _ _ _; first  | refine Index.mk _ (idx_map (by omega)) ?_)
    | (guard_target = Need (chkDraw _ = true) _; refine Need.mk (by kernel_rfl) ?_)
    | (guard_target = Need (chkRecs _ _ = true) _; refine Need.mk (by first | kernel_rfl | rfl) ?_)
    | (guard_target = Need _ _; refine Need.mk (by first  | omega | (simp only [List.length_map]; omega)) ?_))
  all_goals first | rfl | exact ⟨rfl, trivial⟩
theorem stepS_go (w : XWorld) (fuel : Int) (r : RS) (h : ¬ r.steps = fuel) (hb : 0 ≤ r.steps ∧ r.steps ≤ 1000) : CallX Try.prog 88 [.c (.op (ctS w fuel r 0))] [some [.op (ctS w fuel (more r) 0)]] (B true) := by
  refine callX_of_vc htb hm Try.func88 rfl rfl rfl rfl (ann := fun _ => none) (gh := fun _ => false) ?_
  repeat' ((conv => whnf); first
    | (guard_target = Done _; refine Done.mk ?_)
    | (guard_target = RetX _ _; refine RetX.mk ?_ ?_)
    | (guard_target = Fact _ _; refine Fact.mk fun hL => ?_; (try simp only [List.length_map, maxLen] at hL))
    | (guard_target = Branch _ _ _; (first | refine Branch.dec (fun h => ?_) (fun h => ?_) | refine Branch.beq (fun h => ?_) (fun h => ?_) | refine Branch.bne (fun h => ?_) (fun h => ?_) | refine Branch.ndec (fun h => ?_) (fun h => ?_) | refine Branch.nb (fun h => ?_) (fun h => ?_) | refine Branch.mk (fun h => ?_) (fun h => ?_)) <;> (try simp only [List.length_map] at h) <;> (try omega) <;> (try contradiction))
    | (guard_target = Arith _ _ _; refine Arith.fit (wrap_fit (by first | omega | (simp only [List.length_map]; omega)) (by first | omega | (simp only [List.length_map]; omega))) ?_)
    | (guard_target = Arith _ _ _; refine Arith.fit (by decide) ?_)
    | (guard_target = Index _ _ _; first  | refine Index.mk _ (idx_map (by omega)) ?_)
    | (guard_target = Need (chkDraw _ = true) _; refine Need.mk (by kernel_rfl) ?_)
    | (guard_target = Need (chkRecs _ _ = true) _; refine Need.mk (by first | kernel_rfl | rfl) ?_)
    | (guard_target = Need _ _; refine Need.mk (by first  | omega | (simp only [List.length_map]; omega)) ?_))
  all_goals first | rfl | exact ⟨rfl, trivial⟩
def nxt (w : XWorld) (r : RS) (act : Int) : Int := (w.acts.getD act.toNat []).getD r.st.toNat 0
abbrev done (w : XWorld) (r : RS) (act : Int) : RS := ⟨nxt w r act, r.ta ++ [at0 w (nxt w r act)], r.tc ++ [act], r.steps⟩
structure StOk (w : XWorld) (r : RS) : Prop where
  st : 0 ≤ r.st ∧ r.st < w.atoms.length
  steps : 0 ≤ r.steps ∧ r.steps ≤ 1000
  ta : r.ta.length ≤ 10000 + r.steps.toNat
  tc : r.tc.length ≤ 10000 + r.steps.toNat
structure WOk (w : XWorld) : Prop where
  row : ∀ l ∈ w.acts, l.length = w.atoms.length ∧ ∀ x ∈ l, -1 ≤ x ∧ x < w.atoms.length
theorem nxt_b {w : XWorld} {r : RS} {act : Int} (hw : WOk w) (hr : StOk w r) (ha : 0 ≤ act ∧ act < w.acts.length) : (w.acts.getD act.toNat []).length = w.atoms.length ∧ -1 ≤ nxt w r act ∧ nxt w r act < w.atoms.length := by
  have h1 : act.toNat < w.acts.length := by omega
  have hst := hr.st
  have h2 := hw.row _ (List.getElem_mem h1)
  unfold nxt
  rw [getD_eq h1]
  refine ⟨h2.1, ?_⟩
  have h3 : r.st.toNat < w.acts[act.toNat].length := by omega
  rw [getD_eq h3]
  exact h2.2 _ (List.getElem_mem h3)
theorem do_bad (w : XWorld) (fuel act : Int) (r : RS) (hw : WOk w) (hr : StOk w r) (ha : 0 ≤ act ∧ act < w.acts.length) (h : nxt w r act < 0) : CallX Try.prog 95 [.c (.op (ctI w fuel r)), I act] [some [.op (ctI w fuel r)]] (I 4) := by
  have hn := nxt_b hw hr ha
  have hst := hr.st
  unfold nxt at h hn
  refine callX_of_vc htb hm Try.func95 rfl rfl rfl rfl (ann := fun _ => none) (gh := fun _ => false) ?_
  repeat' ((conv => whnf); first
    | (guard_target = Done _; refine Done.mk ?_)
    | (guard_target = RetX _ _; refine RetX.mk ?_ ?_)
    | (guard_target = Fact _ _; refine Fact.mk fun hL => ?_; (try simp only [List.length_map, maxLen] at hL))
    | (guard_target = Branch _ _ _; (first | refine Branch.dec (fun h => ?_) (fun h => ?_) | refine Branch.beq (fun h => ?_) (fun h => ?_) | refine Branch.bne (fun h => ?_) (fun h => ?_) | refine Branch.ndec (fun h => ?_) (fun h => ?_) | refine Branch.nb (fun h => ?_) (fun h => ?_) | refine Branch.mk (fun h => ?_) (fun h => ?_)) <;> (try simp only [List.length_map] at h) <;> (try omega) <;> (try contradiction))
    | (guard_target = Arith _ _ _; refine Arith.fit (wrap_fit (by first | omega | (simp only [List.length_map]; omega)) (by first | omega | (simp only [List.length_map]; omega))) ?_)
    | (guard_target = Arith _ _ _; refine Arith.fit (by decide) ?_)
    | (guard_target = Index _ _ _; first | refine Index.mk _ (idx_getD (d := []) (i := act.toNat) (by omega)) ?_ | refine Index.mk _ (idx_getD (d := 0) (i := r.st.toNat) (by omega)) ?_ | refine Index.mk _ (idx_map (by omega)) ?_)
    | (guard_target = Need (chkDraw _ = true) _; refine Need.mk (by kernel_rfl) ?_)
    | (guard_target = Need (chkRecs _ _ = true) _; refine Need.mk (by first | kernel_rfl | rfl) ?_)
    | (guard_target = Need _ _; refine Need.mk (by first  | omega | (simp only [List.length_map]; omega)) ?_))
  all_goals first | rfl | exact ⟨rfl, trivial⟩
theorem ctI_done (w : XWorld) (fuel act : Int) (r : RS) : ctI w fuel (done w r act) = [.ro 1 (w.atoms.map eI), .ro 1 (w.acts.map fun l => [.ro 1 (l.map eI)]), J (nxt w r act), .ows 2 1 (r.ta.map eI ++ [eI (at0 w (nxt w r act))]), .ows 2 1 (r.tc.map eI ++ [eI act]), J fuel, J r.steps] := by
  simp only [ctI, done, List.map_append, List.map_cons, List.map_nil]
theorem ctS_done (w : XWorld) (fuel act : Int) (r : RS) : ctS w fuel (done w r act) 0 = [.rp 2 (encWorld w), J (nxt w r act), .ows 2 1 (r.ta.map eI ++ [eI (at0 w (nxt w r act))]), .ows 2 1 (r.tc.map eI ++ [eI act]), J r.steps, J fuel, J 0] := by
  simp only [ctS, done, List.map_append, List.map_cons, List.map_nil]
theorem do_go (w : XWorld) (fuel act : Int) (r : RS) (hw : WOk w) (hr : StOk w r) (ha : 0 ≤ act ∧ act < w.acts.length) (h : ¬ nxt w r act < 0) : CallX Try.prog 95 [.c (.op (ctI w fuel r)), I act] [some [.op (ctI w fuel (done w r act))]] (I 0) := by
  have hn := nxt_b hw hr ha
  have hst := hr.st
  have hta := hr.ta
  have htc := hr.tc
  have hss := hr.steps
  rw [ctI_done]
  unfold nxt at h hn ⊢
  refine callX_of_vc htb hm Try.func95 rfl rfl rfl rfl (ann := fun _ => none) (gh := fun _ => false) ?_
  repeat' ((conv => whnf); first
    | (guard_target = Done _; refine Done.mk ?_)
    | (guard_target = RetX _ _; refine RetX.mk ?_ ?_)
    | (guard_target = Fact _ _; refine Fact.mk fun hL => ?_; (try simp only [List.length_map, maxLen] at hL))
    | (guard_target = Branch _ _ _; (first | refine Branch.dec (fun h => ?_) (fun h => ?_) | refine Branch.beq (fun h => ?_) (fun h => ?_) | refine Branch.bne (fun h => ?_) (fun h => ?_) | refine Branch.ndec (fun h => ?_) (fun h => ?_) | refine Branch.nb (fun h => ?_) (fun h => ?_) | refine Branch.mk (fun h => ?_) (fun h => ?_)) <;> (try simp only [List.length_map] at h) <;> (try omega) <;> (try contradiction))
    | (guard_target = Arith _ _ _; refine Arith.fit (wrap_fit (by first | omega | (simp only [List.length_map]; omega)) (by first | omega | (simp only [List.length_map]; omega))) ?_)
    | (guard_target = Arith _ _ _; refine Arith.fit (by decide) ?_)
    | (guard_target = Index _ _ _; first | refine Index.mk _ (idx_getD (d := []) (i := act.toNat) (by omega)) ?_ | refine Index.mk _ (idx_getD (d := 0) (i := r.st.toNat) (by omega)) ?_ | refine Index.mk _ (idx_getD (d := 0) (i := ((w.acts.getD act.toNat []).getD r.st.toNat 0).toNat) (by omega)) ?_ | refine Index.mk _ (idx_map (by omega)) ?_)
    | (guard_target = Need (chkDraw _ = true) _; refine Need.mk (by kernel_rfl) ?_)
    | (guard_target = Need (chkRecs _ _ = true) _; refine Need.mk (by first | kernel_rfl | rfl) ?_)
    | (guard_target = Need _ _; refine Need.mk (by first | (simp only [List.length_map, List.length_cons, List.length_nil, maxLen]; omega) | omega | (simp only [List.length_map]; omega)) ?_))
  all_goals first | rfl | exact ⟨rfl, trivial⟩
theorem act_bad (w : XWorld) (fuel act : Int) (r : RS) (hw : WOk w) (hr : StOk w r) (ha : 0 ≤ act ∧ act < w.acts.length) (h : nxt w r act < 0) : CallX Try.prog 89 [.c (.op (ctS w fuel r 0)), I act] [some [.op (ctS w fuel r 4)]] (.tup []) := by
  have hn := nxt_b hw hr ha
  have hst := hr.st
  unfold nxt at h hn
  refine callX_of_vc htb hm Try.func89 rfl rfl rfl rfl (ann := fun _ => none) (gh := fun _ => false) ?_
  repeat' ((conv => whnf); first
    | (guard_target = Done _; refine Done.mk ?_)
    | (guard_target = RetX _ _; refine RetX.mk ?_ ?_)
    | (guard_target = Fact _ _; refine Fact.mk fun hL => ?_; (try simp only [List.length_map, maxLen] at hL))
    | (guard_target = Branch _ _ _; (first | refine Branch.dec (fun h => ?_) (fun h => ?_) | refine Branch.beq (fun h => ?_) (fun h => ?_) | refine Branch.bne (fun h => ?_) (fun h => ?_) | refine Branch.ndec (fun h => ?_) (fun h => ?_) | refine Branch.nb (fun h => ?_) (fun h => ?_) | refine Branch.mk (fun h => ?_) (fun h => ?_)) <;> (try simp only [List.length_map] at h) <;> (try omega) <;> (try contradiction))
    | (guard_target = Arith _ _ _; refine Arith.fit (wrap_fit (by first | omega | (simp only [List.length_map]; omega)) (by first | omega | (simp only [List.length_map]; omega))) ?_)
    | (guard_target = Arith _ _ _; refine Arith.fit (by decide) ?_)
    | (guard_target = Index _ _ _; first | refine Index.mk _ (idx_getD (d := []) (i := act.toNat) (by omega)) ?_ | refine Index.mk _ (idx_getD (d := 0) (i := r.st.toNat) (by omega)) ?_ | refine Index.mk _ (idx_map (by omega)) ?_)
    | (guard_target = Need (chkDraw _ = true) _; refine Need.mk (by kernel_rfl) ?_)
    | (guard_target = Need (chkRecs _ _ = true) _; refine Need.mk (by first | kernel_rfl | rfl) ?_)
    | (guard_target = Need _ _; refine Need.mk (by first  | omega | (simp only [List.length_map]; omega)) ?_))
  all_goals first | rfl | exact ⟨rfl, trivial⟩
theorem act_go (w : XWorld) (fuel act : Int) (r : RS) (hw : WOk w) (hr : StOk w r) (ha : 0 ≤ act ∧ act < w.acts.length) (h : ¬ nxt w r act < 0) : CallX Try.prog 89 [.c (.op (ctS w fuel r 0)), I act] [some [.op (ctS w fuel (done w r act) 0)]] (.tup []) := by
  have hn := nxt_b hw hr ha
  have hst := hr.st
  have hta := hr.ta
  have htc := hr.tc
  have hss := hr.steps
  rw [ctS_done]
  unfold nxt at h hn ⊢
  refine callX_of_vc htb hm Try.func89 rfl rfl rfl rfl (ann := fun _ => none) (gh := fun _ => false) ?_
  repeat' ((conv => whnf); first
    | (guard_target = Done _; refine Done.mk ?_)
    | (guard_target = RetX _ _; refine RetX.mk ?_ ?_)
    | (guard_target = Fact _ _; refine Fact.mk fun hL => ?_; (try simp only [List.length_map, maxLen] at hL))
    | (guard_target = Branch _ _ _; (first | refine Branch.dec (fun h => ?_) (fun h => ?_) | refine Branch.beq (fun h => ?_) (fun h => ?_) | refine Branch.bne (fun h => ?_) (fun h => ?_) | refine Branch.ndec (fun h => ?_) (fun h => ?_) | refine Branch.nb (fun h => ?_) (fun h => ?_) | refine Branch.mk (fun h => ?_) (fun h => ?_)) <;> (try simp only [List.length_map] at h) <;> (try omega) <;> (try contradiction))
    | (guard_target = Arith _ _ _; refine Arith.fit (wrap_fit (by first | omega | (simp only [List.length_map]; omega)) (by first | omega | (simp only [List.length_map]; omega))) ?_)
    | (guard_target = Arith _ _ _; refine Arith.fit (by decide) ?_)
    | (guard_target = Index _ _ _; first | refine Index.mk _ (idx_getD (d := []) (i := act.toNat) (by omega)) ?_ | refine Index.mk _ (idx_getD (d := 0) (i := r.st.toNat) (by omega)) ?_ | refine Index.mk _ (idx_getD (d := 0) (i := ((w.acts.getD act.toNat []).getD r.st.toNat 0).toNat) (by omega)) ?_ | refine Index.mk _ (idx_map (by omega)) ?_)
    | (guard_target = Need (chkDraw _ = true) _; refine Need.mk (by kernel_rfl) ?_)
    | (guard_target = Need (chkRecs _ _ = true) _; refine Need.mk (by first | kernel_rfl | rfl) ?_)
    | (guard_target = Need _ _; refine Need.mk (by first | (simp only [List.length_map, List.length_cons, List.length_nil, maxLen]; omega) | omega | (simp only [List.length_map]; omega)) ?_))
  all_goals first | rfl | exact ⟨rfl, trivial⟩
theorem holdsI_ok (t a : Int) (w : XWorld) (fuel : Int) (r : RS) (hr : StOk w r) (e : XExpr) (h : okC t a e) : CallX Try.prog 96 [.c (.op (ctI w fuel r)), .a 3 (encExpr e)] [some [.op (ctI w fuel r)], none] (B (truthE e (at0 w r.st))) := by
  have hst := hr.st
  refine callX_of_vc htb hm Try.func96 rfl rfl rfl rfl (ann := fun _ => none) (gh := fun _ => false) ?_
  repeat' ((conv => whnf); first
    | (guard_target = Done _; refine Done.mk ?_)
    | (guard_target = RetX _ _; refine RetX.mk ?_ ?_)
    | (guard_target = Fact _ _; refine Fact.mk fun hL => ?_; (try simp only [List.length_map, maxLen] at hL))
    | (guard_target = Branch _ _ _; (first | refine Branch.dec (fun h => ?_) (fun h => ?_) | refine Branch.beq (fun h => ?_) (fun h => ?_) | refine Branch.bne (fun h => ?_) (fun h => ?_) | refine Branch.ndec (fun h => ?_) (fun h => ?_) | refine Branch.nb (fun h => ?_) (fun h => ?_) | refine Branch.mk (fun h => ?_) (fun h => ?_)) <;> (try simp only [List.length_map] at h) <;> (try omega) <;> (try contradiction))
    | (guard_target = CallN _ 119 _ _ _ _; refine CallN.pure _ _ rfl (truth_ok t a _ e h) rfl _ rfl ?_)
    | (guard_target = Arith _ _ _; refine Arith.fit (wrap_fit (by first | omega | (simp only [List.length_map]; omega)) (by first | omega | (simp only [List.length_map]; omega))) ?_)
    | (guard_target = Arith _ _ _; refine Arith.fit (by decide) ?_)
    | (guard_target = Index _ _ _; first | refine Index.mk _ (idx_getD (d := 0) (i := r.st.toNat) (by omega)) ?_ | refine Index.mk _ (idx_map (by omega)) ?_)
    | (guard_target = Need (chkDraw _ = true) _; refine Need.mk (by kernel_rfl) ?_)
    | (guard_target = Need (chkRecs _ _ = true) _; refine Need.mk (by first | kernel_rfl | rfl) ?_)
    | (guard_target = Need _ _; refine Need.mk (by first  | omega | (simp only [List.length_map]; omega)) ?_))
  all_goals first | rfl | exact ⟨rfl, trivial⟩
theorem holdsS_ok (t a : Int) (ht : t ≤ 3) (w : XWorld) (fuel code : Int) (r : RS) (hr : StOk w r) (e : XExpr) (h : okC t a e) : CallX Try.prog 90 [.c (.op (ctS w fuel r code)), .c (.rp 3 (encExpr e))] [some [.op (ctS w fuel r code)], none] (B (truthE e (at0 w r.st))) := by
  have hst := hr.st
  refine callX_of_vc htb hm Try.func90 rfl rfl rfl rfl (ann := fun _ => none) (gh := fun _ => false) ?_
  repeat' ((conv => whnf); first
    | (guard_target = Done _; refine Done.mk ?_)
    | (guard_target = RetX _ _; refine RetX.mk ?_ ?_)
    | (guard_target = Fact _ _; refine Fact.mk fun hL => ?_; (try simp only [List.length_map, maxLen] at hL))
    | (guard_target = Branch _ _ _; (first | refine Branch.dec (fun h => ?_) (fun h => ?_) | refine Branch.beq (fun h => ?_) (fun h => ?_) | refine Branch.bne (fun h => ?_) (fun h => ?_) | refine Branch.ndec (fun h => ?_) (fun h => ?_) | refine Branch.nb (fun h => ?_) (fun h => ?_) | refine Branch.mk (fun h => ?_) (fun h => ?_)) <;> (try simp only [List.length_map] at h) <;> (try omega) <;> (try contradiction))
    | (guard_target = CallN _ 114 _ _ _ _; refine CallN.pure _ _ rfl (l01True_ok t a _ ht e h) rfl _ rfl ?_)
    | (guard_target = Arith _ _ _; refine Arith.fit (wrap_fit (by first | omega | (simp only [List.length_map]; omega)) (by first | omega | (simp only [List.length_map]; omega))) ?_)
    | (guard_target = Arith _ _ _; refine Arith.fit (by decide) ?_)
    | (guard_target = Index _ _ _; first | refine Index.mk _ (idx_getD (d := 0) (i := r.st.toNat) (by omega)) ?_ | refine Index.mk _ (idx_map (by omega)) ?_)
    | (guard_target = Need (chkDraw _ = true) _; refine Need.mk (by kernel_rfl) ?_)
    | (guard_target = Need (chkRecs _ _ = true) _; refine Need.mk (by first | kernel_rfl | rfl) ?_)
    | (guard_target = Need _ _; refine Need.mk (by first  | omega | (simp only [List.length_map]; omega)) ?_))
  all_goals first | rfl | exact ⟨rfl, trivial⟩
abbrev noneT (code : Int) : SV := .tup [I 0, .a 2 [.ows 2 1 [], .ows 2 1 []], I 0, I code]
abbrev runT (r : RS) : SV := .tup [I r.st, .a 2 [.ows 2 1 (r.ta.map eI), .ows 2 1 (r.tc.map eI)], I r.steps, I 0]
theorem result_bad (w : XWorld) (fuel code : Int) (r : RS) (h : ¬ code = 0) : CallX Try.prog 58 [.c (.op (ctI w fuel r)), I code] [] (noneT code) := by
  refine callX_of_vc htb hm Try.func58 rfl rfl rfl rfl (ann := fun _ => none) (gh := fun _ => false) ?_
  repeat' ((conv => whnf); first
    | (guard_target = Done _; refine Done.mk ?_)
    | (guard_target = RetX _ _; refine RetX.mk ?_ ?_)
    | (guard_target = Fact _ _; refine Fact.mk fun hL => ?_; (try simp only [List.length_map, maxLen] at hL))
    | (guard_target = Branch _ _ _; (first | refine Branch.dec (fun h => ?_) (fun h => ?_) | refine Branch.beq (fun h => ?_) (fun h => ?_) | refine Branch.bne (fun h => ?_) (fun h => ?_) | refine Branch.ndec (fun h => ?_) (fun h => ?_) | refine Branch.nb (fun h => ?_) (fun h => ?_) | refine Branch.mk (fun h => ?_) (fun h => ?_)) <;> (try simp only [List.length_map] at h) <;> (try omega) <;> (try contradiction))
    | (guard_target = Arith _ _ _; refine Arith.fit (wrap_fit (by first | omega | (simp only [List.length_map]; omega)) (by first | omega | (simp only [List.length_map]; omega))) ?_)
    | (guard_target = Arith _ _ _; refine Arith.fit (by decide) ?_)
    | (guard_target = Index _ _ _; first  | refine Index.mk _ (idx_map (by omega)) ?_)
    | (guard_target = Need (chkDraw _ = true) _; refine Need.mk (by kernel_rfl) ?_)
    | (guard_target = Need (chkRecs _ _ = true) _; refine Need.mk (by first | kernel_rfl | rfl) ?_)
    | (guard_target = Need _ _; refine Need.mk (by first  | omega | (simp only [List.length_map]; omega)) ?_))
  all_goals first | rfl | trivial
theorem result_ok (w : XWorld) (fuel : Int) (r : RS) : CallX Try.prog 58 [.c (.op (ctI w fuel r)), I 0] [] (runT r) := by
  refine callX_of_vc htb hm Try.func58 rfl rfl rfl rfl (ann := fun _ => none) (gh := fun _ => false) ?_
  repeat' ((conv => whnf); first
    | (guard_target = Done _; refine Done.mk ?_)
    | (guard_target = RetX _ _; refine RetX.mk ?_ ?_)
    | (guard_target = Fact _ _; refine Fact.mk fun hL => ?_; (try simp only [List.length_map, maxLen] at hL))
    | (guard_target = Branch _ _ _; (first | refine Branch.dec (fun h => ?_) (fun h => ?_) | refine Branch.beq (fun h => ?_) (fun h => ?_) | refine Branch.bne (fun h => ?_) (fun h => ?_) | refine Branch.ndec (fun h => ?_) (fun h => ?_) | refine Branch.nb (fun h => ?_) (fun h => ?_) | refine Branch.mk (fun h => ?_) (fun h => ?_)) <;> (try simp only [List.length_map] at h) <;> (try omega) <;> (try contradiction))
    | (guard_target = Arith _ _ _; refine Arith.fit (wrap_fit (by first | omega | (simp only [List.length_map]; omega)) (by first | omega | (simp only [List.length_map]; omega))) ?_)
    | (guard_target = Arith _ _ _; refine Arith.fit (by decide) ?_)
    | (guard_target = Index _ _ _; first  | refine Index.mk _ (idx_map (by omega)) ?_)
    | (guard_target = Need (chkDraw _ = true) _; refine Need.mk (by kernel_rfl) ?_)
    | (guard_target = Need (chkRecs _ _ = true) _; refine Need.mk (by first | kernel_rfl | rfl) ?_)
    | (guard_target = Need _ _; refine Need.mk (by first  | omega | (simp only [List.length_map]; omega)) ?_))
  all_goals first | rfl | trivial
theorem told_bad (w : XWorld) (fuel code : Int) (r : RS) (h : ¬ code = 0) : CallX Try.prog 50 [.c (.op (ctS w fuel r code))] [] (noneT code) := by
  refine callX_of_vc htb hm Try.func50 rfl rfl rfl rfl (ann := fun _ => none) (gh := fun _ => false) ?_
  repeat' ((conv => whnf); first
    | (guard_target = Done _; refine Done.mk ?_)
    | (guard_target = RetX _ _; refine RetX.mk ?_ ?_)
    | (guard_target = Fact _ _; refine Fact.mk fun hL => ?_; (try simp only [List.length_map, maxLen] at hL))
    | (guard_target = Branch _ _ _; (first | refine Branch.dec (fun h => ?_) (fun h => ?_) | refine Branch.beq (fun h => ?_) (fun h => ?_) | refine Branch.bne (fun h => ?_) (fun h => ?_) | refine Branch.ndec (fun h => ?_) (fun h => ?_) | refine Branch.nb (fun h => ?_) (fun h => ?_) | refine Branch.mk (fun h => ?_) (fun h => ?_)) <;> (try simp only [List.length_map] at h) <;> (try omega) <;> (try contradiction))
    | (guard_target = Arith _ _ _; refine Arith.fit (wrap_fit (by first | omega | (simp only [List.length_map]; omega)) (by first | omega | (simp only [List.length_map]; omega))) ?_)
    | (guard_target = Arith _ _ _; refine Arith.fit (by decide) ?_)
    | (guard_target = Index _ _ _; first  | refine Index.mk _ (idx_map (by omega)) ?_)
    | (guard_target = Need (chkDraw _ = true) _; refine Need.mk (by kernel_rfl) ?_)
    | (guard_target = Need (chkRecs _ _ = true) _; refine Need.mk (by first | kernel_rfl | rfl) ?_)
    | (guard_target = Need _ _; refine Need.mk (by first  | omega | (simp only [List.length_map]; omega)) ?_))
  all_goals first | rfl | trivial
theorem told_ok (w : XWorld) (fuel : Int) (r : RS) : CallX Try.prog 50 [.c (.op (ctS w fuel r 0))] [] (runT r) := by
  refine callX_of_vc htb hm Try.func50 rfl rfl rfl rfl (ann := fun _ => none) (gh := fun _ => false) ?_
  repeat' ((conv => whnf); first
    | (guard_target = Done _; refine Done.mk ?_)
    | (guard_target = RetX _ _; refine RetX.mk ?_ ?_)
    | (guard_target = Fact _ _; refine Fact.mk fun hL => ?_; (try simp only [List.length_map, maxLen] at hL))
    | (guard_target = Branch _ _ _; (first | refine Branch.dec (fun h => ?_) (fun h => ?_) | refine Branch.beq (fun h => ?_) (fun h => ?_) | refine Branch.bne (fun h => ?_) (fun h => ?_) | refine Branch.ndec (fun h => ?_) (fun h => ?_) | refine Branch.nb (fun h => ?_) (fun h => ?_) | refine Branch.mk (fun h => ?_) (fun h => ?_)) <;> (try simp only [List.length_map] at h) <;> (try omega) <;> (try contradiction))
    | (guard_target = Arith _ _ _; refine Arith.fit (wrap_fit (by first | omega | (simp only [List.length_map]; omega)) (by first | omega | (simp only [List.length_map]; omega))) ?_)
    | (guard_target = Arith _ _ _; refine Arith.fit (by decide) ?_)
    | (guard_target = Index _ _ _; first  | refine Index.mk _ (idx_map (by omega)) ?_)
    | (guard_target = Need (chkDraw _ = true) _; refine Need.mk (by kernel_rfl) ?_)
    | (guard_target = Need (chkRecs _ _ = true) _; refine Need.mk (by first | kernel_rfl | rfl) ?_)
    | (guard_target = Need _ _; refine Need.mk (by first  | omega | (simp only [List.length_map]; omega)) ?_))
  all_goals first | rfl | trivial
end Go.Proofs.Ytbbaadkgmdkjdaa
