/- The reference's function that runs a program does what the relation says. No conditions. -/
import Derived.Test.YtbbaadkgmdkjdaaPe
namespace Go.Proofs.Ytbbaadkgmdkjdaa
open Go Go.KA Go.Proofs
set_option maxHeartbeats 16000000
set_option maxRecDepth 100000
abbrev CSp (w : XWorld) (fuel : Int) (p : List CV) (r : RS) (c0 : Int) (c : Int) (r' : RS) : Prop := CallX Try.prog 70 [.c (.op (ctS w fuel r c0)), .c (.rp 6 p)] [some [.op (ctS w fuel r' c)], none] (.tup [])
section
variable {t a : Int} {w : XWorld} {fuel : Int}
theorem runS_skip_all {p : XProg} {r : RS} {c : Int} (hp : POk t a p) (hc : ¬ c = 0) (hx : ∀ x ∈ p.kids, CSp w fuel (encProg x) r c c r) : CSp w fuel (toldP p) r c c r := by
  have hl := hp.len
  refine callX_of_vc htb hm Try.func70 rfl rfl rfl rfl (ann := fun _ => none) (gh := fun _ => false) ?_
  repeat' ((conv => whnf); first
    | (guard_target = Done _; refine Done.mk ?_)
    | (guard_target = RetX _ _; refine RetX.mk ?_ ?_)
    | (guard_target = Fact _ _; refine Fact.mk fun hL => ?_; (try simp only [List.length_map, maxLen] at hL))
    | (guard_target = Branch _ _ _; (first | refine Branch.dec (fun h => ?_) (fun h => ?_) | refine Branch.beq (fun h => ?_) (fun h => ?_) | refine Branch.bne (fun h => ?_) (fun h => ?_) | refine Branch.ndec (fun h => ?_) (fun h => ?_) | refine Branch.nb (fun h => ?_) (fun h => ?_) | refine Branch.mk (fun h => ?_) (fun h => ?_)) <;> (try simp only [List.length_map] at h) <;> (try omega) <;> (try contradiction))
    | (guard_target = CallN _ 70 _ _ _ _; refine CallN.gen [true, false] _ _ _ rfl (hx _ (List.getElem_mem (by omega))) rfl rfl _ rfl ?_)
    | (guard_target = CallN _ 88 _ _ _ _; refine CallN.gen [true] _ _ _ rfl (stepS_bad w fuel c r hc) rfl rfl _ rfl ?_)
    | (guard_target = Arith _ _ _; refine Arith.fit (wrap_fit (by first | omega | (simp only [List.length_map]; omega)) (by first | omega | (simp only [List.length_map]; omega))) ?_)
    | (guard_target = Arith _ _ _; refine Arith.fit (by decide) ?_)
    | (guard_target = Index _ _ _; first | refine Index.mk _ (idx_map (i := 0) (by omega)) ?_ | refine Index.mk _ (idx_map (i := 1) (by omega)) ?_ | refine Index.mk _ (idx_map (by omega)) ?_)
    | (guard_target = Need (chkDraw _ = true) _; refine Need.mk (by kernel_rfl) ?_)
    | (guard_target = Need (chkRecs _ _ = true) _; refine Need.mk (by first | kernel_rfl | rfl) ?_)
    | (guard_target = Need _ _; refine Need.mk (by first  | omega | (simp only [List.length_map]; omega)) ?_))
  all_goals first | rfl | exact ⟨rfl, trivial⟩
theorem runS_skip {r : RS} {c : Int} (hc : ¬ c = 0) : ∀ p : XProg, POk t a p → CSp w fuel (encProg p) r c c r
  | p, hp => by
    rw [encProg_eq]
    exact runS_skip_all hp hc fun x _hx => runS_skip hc x (hp.kid _hx)
  termination_by p => SizeOf.sizeOf p
  decreasing_by
    have := List.sizeOf_lt_of_mem _hx
    cases p
    simp only [XProg.mk.sizeOf_spec]
    show SizeOf.sizeOf x < _
    simp only [XProg.kids] at this
    omega
theorem runS_seqBad {p k0 k1 : XProg} {r r1 : RS} {c : Int} (hk : p.kind = 5) (g0 : p.kids[0]? = some k0) (g1 : p.kids[1]? = some k1) (hq : CSp w fuel (encProg k0) r 0 c r1) (hc : CSp w fuel (encProg k1) r1 c c r1) : CSp w fuel (toldP p) r 0 c r1 := by
  refine callX_of_vc htb hm Try.func70 rfl rfl rfl rfl (ann := fun _ => none) (gh := fun _ => false) ?_
  repeat' ((conv => whnf); first
    | (guard_target = Done _; refine Done.mk ?_)
    | (guard_target = RetX _ _; refine RetX.mk ?_ ?_)
    | (guard_target = Fact _ _; refine Fact.mk fun hL => ?_; (try simp only [List.length_map, maxLen] at hL))
    | (guard_target = Branch _ _ _; (first | refine Branch.dec (fun h => ?_) (fun h => ?_) | refine Branch.beq (fun h => ?_) (fun h => ?_) | refine Branch.bne (fun h => ?_) (fun h => ?_) | refine Branch.ndec (fun h => ?_) (fun h => ?_) | refine Branch.nb (fun h => ?_) (fun h => ?_) | refine Branch.mk (fun h => ?_) (fun h => ?_)) <;> (try simp only [List.length_map] at h) <;> (try omega) <;> (try contradiction))
    | (guard_target = CallN _ 70 _ _ _ _; refine CallN.gen [true, false] _ _ _ rfl (hq) rfl rfl _ rfl ?_)
    | (guard_target = CallN _ 70 _ _ _ _; refine CallN.gen [true, false] _ _ _ rfl (hc) rfl rfl _ rfl ?_)
    | (guard_target = Arith _ _ _; refine Arith.fit (wrap_fit (by first | omega | (simp only [List.length_map]; omega)) (by first | omega | (simp only [List.length_map]; omega))) ?_)
    | (guard_target = Arith _ _ _; refine Arith.fit (by decide) ?_)
    | (guard_target = Index _ _ _; first | refine Index.mk _ (idx_get g0) ?_ | refine Index.mk _ (idx_get g1) ?_ | refine Index.mk _ (idx_map (by omega)) ?_)
    | (guard_target = Need (chkDraw _ = true) _; refine Need.mk (by kernel_rfl) ?_)
    | (guard_target = Need (chkRecs _ _ = true) _; refine Need.mk (by first | kernel_rfl | rfl) ?_)
    | (guard_target = Need _ _; refine Need.mk (by first  | omega | (simp only [List.length_map]; omega)) ?_))
  all_goals first | rfl | exact ⟨rfl, trivial⟩
theorem runS_seqOk {p k0 k1 : XProg} {r r1 r2 : RS} {c : Int} (hk : p.kind = 5) (g0 : p.kids[0]? = some k0) (g1 : p.kids[1]? = some k1) (hq : CSp w fuel (encProg k0) r 0 0 r1) (h2 : CSp w fuel (encProg k1) r1 0 c r2) : CSp w fuel (toldP p) r 0 c r2 := by
  refine callX_of_vc htb hm Try.func70 rfl rfl rfl rfl (ann := fun _ => none) (gh := fun _ => false) ?_
  repeat' ((conv => whnf); first
    | (guard_target = Done _; refine Done.mk ?_)
    | (guard_target = RetX _ _; refine RetX.mk ?_ ?_)
    | (guard_target = Fact _ _; refine Fact.mk fun hL => ?_; (try simp only [List.length_map, maxLen] at hL))
    | (guard_target = Branch _ _ _; (first | refine Branch.dec (fun h => ?_) (fun h => ?_) | refine Branch.beq (fun h => ?_) (fun h => ?_) | refine Branch.bne (fun h => ?_) (fun h => ?_) | refine Branch.ndec (fun h => ?_) (fun h => ?_) | refine Branch.nb (fun h => ?_) (fun h => ?_) | refine Branch.mk (fun h => ?_) (fun h => ?_)) <;> (try simp only [List.length_map] at h) <;> (try omega) <;> (try contradiction))
    | (guard_target = CallN _ 70 _ _ _ _; refine CallN.gen [true, false] _ _ _ rfl (hq) rfl rfl _ rfl ?_)
    | (guard_target = CallN _ 70 _ _ _ _; refine CallN.gen [true, false] _ _ _ rfl (h2) rfl rfl _ rfl ?_)
    | (guard_target = Arith _ _ _; refine Arith.fit (wrap_fit (by first | omega | (simp only [List.length_map]; omega)) (by first | omega | (simp only [List.length_map]; omega))) ?_)
    | (guard_target = Arith _ _ _; refine Arith.fit (by decide) ?_)
    | (guard_target = Index _ _ _; first | refine Index.mk _ (idx_get g0) ?_ | refine Index.mk _ (idx_get g1) ?_ | refine Index.mk _ (idx_map (by omega)) ?_)
    | (guard_target = Need (chkDraw _ = true) _; refine Need.mk (by kernel_rfl) ?_)
    | (guard_target = Need (chkRecs _ _ = true) _; refine Need.mk (by first | kernel_rfl | rfl) ?_)
    | (guard_target = Need _ _; refine Need.mk (by first  | omega | (simp only [List.length_map]; omega)) ?_))
  all_goals first | rfl | exact ⟨rfl, trivial⟩
theorem runS_budget {p : XProg} {r : RS} (h5 : ¬ p.kind = 5) (hs : r.steps = fuel) : CSp w fuel (toldP p) r 0 7 r := by
  refine callX_of_vc htb hm Try.func70 rfl rfl rfl rfl (ann := fun _ => none) (gh := fun _ => false) ?_
  repeat' ((conv => whnf); first
    | (guard_target = Done _; refine Done.mk ?_)
    | (guard_target = RetX _ _; refine RetX.mk ?_ ?_)
    | (guard_target = Fact _ _; refine Fact.mk fun hL => ?_; (try simp only [List.length_map, maxLen] at hL))
    | (guard_target = Branch _ _ _; (first | refine Branch.dec (fun h => ?_) (fun h => ?_) | refine Branch.beq (fun h => ?_) (fun h => ?_) | refine Branch.bne (fun h => ?_) (fun h => ?_) | refine Branch.ndec (fun h => ?_) (fun h => ?_) | refine Branch.nb (fun h => ?_) (fun h => ?_) | refine Branch.mk (fun h => ?_) (fun h => ?_)) <;> (try simp only [List.length_map] at h) <;> (try omega) <;> (try contradiction))
    | (guard_target = CallN _ 88 _ _ _ _; refine CallN.gen [true] _ _ _ rfl (stepS_stop w fuel r hs) rfl rfl _ rfl ?_)
    | (guard_target = Arith _ _ _; refine Arith.fit (wrap_fit (by first | omega | (simp only [List.length_map]; omega)) (by first | omega | (simp only [List.length_map]; omega))) ?_)
    | (guard_target = Arith _ _ _; refine Arith.fit (by decide) ?_)
    | (guard_target = Index _ _ _; first  | refine Index.mk _ (idx_map (by omega)) ?_)
    | (guard_target = Need (chkDraw _ = true) _; refine Need.mk (by kernel_rfl) ?_)
    | (guard_target = Need (chkRecs _ _ = true) _; refine Need.mk (by first | kernel_rfl | rfl) ?_)
    | (guard_target = Need _ _; refine Need.mk (by first  | omega | (simp only [List.length_map]; omega)) ?_))
  all_goals first | rfl | exact ⟨rfl, trivial⟩
theorem holdsS_T (ht3 : t ≤ 3) (p : XProg) (r : RS) (hr : StOk w r) (hlt : r.steps < 1000) (h : okC t a p.cond) (b : Bool) (ht : truthE p.cond (at0 w r.st) = b) : CallX Try.prog 90 [.c (.op (ctS w fuel (more r) 0)), .c (.rp 4 ((toldP p).drop 2))] [some [.op (ctS w fuel (more r) 0)], none] (B b) := by
  have := holdsS_ok t a ht3 w fuel 0 (more r) (hr.inc hlt) p.cond h
  rw [encExpr_eq, show truthE p.cond (at0 w (more r).st) = b from ht] at this
  exact this.cut (.same (.cut (k := 3) (by omega) .nil))
theorem runS_other {p : XProg} (hp : POk t a p) (ht3 : t ≤ 3) (hw : WOk w) (hA : (w.acts.length : Int) = a) (hfu : fuel ≤ 500) (h5 : ¬ p.kind = 5) (h7 : ¬ p.kind = 7) {r r' : RS} {c : Int} (h0 : Rnd w fuel p (fun k r c r' => CSp w fuel (encProg k) r 0 c r') c r' r) (hb : RB w fuel r) (hs : ¬ r.steps = fuel) : CSp w fuel (toldP p) r 0 c r' := by
  have hle := hb.le
  have hst := hb.st.steps
  have hSt := hb.st
  subst hA
  rcases h0 with ⟨hs', hc, he⟩ | ⟨hk, _, hc, he⟩ | ⟨hk, _, hc, he⟩ | ⟨hk, _, hn, hc, he⟩ | ⟨hk, _, hn, hc, he⟩ | ⟨hk, _, ht, hc, he⟩ | ⟨hk, _, ht, hc, he⟩ | ⟨hk, _, ht, g0, hq⟩ | ⟨hk, _, ht, g0, hq⟩ | ⟨hk, _, ht, hc, he⟩ | ⟨hk, _, ht, g0, hq, hc⟩ | ⟨hk, _, ht, g0, hq, hb1, hlt1, hn1⟩
  all_goals first | (exact absurd hs' hs) | (exact absurd hk h7) | skip
  all_goals (try subst hc)
  all_goals (try subst he)
  all_goals
    refine callX_of_vc htb hm Try.func70 rfl rfl rfl rfl (ann := fun _ => none) (gh := fun _ => false) ?_
    repeat' ((conv => whnf); first
      | (guard_target = Done _; refine Done.mk ?_)
      | (guard_target = RetX _ _; refine RetX.mk ?_ ?_)
      | (guard_target = Fact _ _; refine Fact.mk fun hL => ?_; (try simp only [List.length_map, maxLen] at hL))
      | (guard_target = Branch _ _ _; (first | refine Branch.dec (fun h => ?_) (fun h => ?_) | refine Branch.beq (fun h => ?_) (fun h => ?_) | refine Branch.bne (fun h => ?_) (fun h => ?_) | refine Branch.ndec (fun h => ?_) (fun h => ?_) | refine Branch.nb (fun h => ?_) (fun h => ?_) | refine Branch.mk (fun h => ?_) (fun h => ?_)) <;> (try simp only [List.length_map] at h) <;> (try omega) <;> (try contradiction))
      | (guard_target = CallN _ 88 _ _ _ _; refine CallN.gen [true] _ _ _ rfl (stepS_go w fuel r hs (by omega)) rfl rfl _ rfl ?_)
      | (guard_target = CallN _ 89 _ _ _ _; refine CallN.gen [true, false] _ _ _ rfl (act_bad w fuel p.num (more r) hw (hSt.inc (by omega)) (by have := hp.act hk; omega) hn) rfl rfl _ rfl ?_)
      | (guard_target = CallN _ 89 _ _ _ _; refine CallN.gen [true, false] _ _ _ rfl (act_go w fuel p.num (more r) hw (hSt.inc (by omega)) (by have := hp.act hk; omega) hn) rfl rfl _ rfl ?_)
      | (guard_target = CallN _ 90 _ _ _ _; refine CallN.gen [true, false] _ _ _ rfl (holdsS_T ht3 p r hSt (by omega) (hp.cond (by omega)) _ ht) rfl rfl _ rfl ?_)
      | (guard_target = CallN _ 70 _ _ _ _; refine CallN.gen [true, false] _ _ _ rfl (hq) rfl rfl _ rfl ?_)
      | (guard_target = Arith _ _ _; refine Arith.fit (wrap_fit (by first | omega | (simp only [List.length_map]; omega)) (by first | omega | (simp only [List.length_map]; omega))) ?_)
      | (guard_target = Arith _ _ _; refine Arith.fit (by decide) ?_)
      | (guard_target = Index _ _ _; first | refine Index.mk _ (idx_get g0) ?_ | refine Index.mk _ (idx_map (by omega)) ?_)
      | (guard_target = Need (chkDraw _ = true) _; refine Need.mk (by kernel_rfl) ?_)
      | (guard_target = Need (chkRecs _ _ = true) _; refine Need.mk (by first | kernel_rfl | rfl) ?_)
      | (guard_target = Need _ _; refine Need.mk (by first  | omega | (simp only [List.length_map]; omega)) ?_))
    all_goals first | rfl | exact ⟨rfl, trivial⟩
end
end Go.Proofs.Ytbbaadkgmdkjdaa
