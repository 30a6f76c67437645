/- StepArchive: contracts of both sides, and the law answers true for all arguments. No conditions. -/
import Derived.Test.YthgajpkahkhlpaaGreatZT
namespace Go.Proofs.YthgajpkahkhlpaaGreat
open Go Go.KA Go.Proofs
set_option maxHeartbeats 16000000
set_option maxRecDepth 100000
theorem ValidEvent_ok (x : XArchive) (e : XEvent) (hx : budArchive x ≤ 1048576) (he : budEvent e ≤ 1048576) : CallF Tryz.prog 103 [.a 4 (encArchive x), .a 9 (encEvent e)] (B (goodVE x e)) := by
  have hp : budProof e.proof ≤ 1048576 := by simp only [budEvent] at he; omega
  refine callF_of_vc htb hm Tryz.func103 rfl rfl rfl rfl (ann := fun _ => none) (gh := fun _ => false) ?_
  repeat' ((conv => whnf); first | (guard_target = Done _; refine Done.mk ?_; first | ((unfold goodVE; rw [h]; rfl); done) | skip) | (guard_target = RetX _ _; refine RetX.mk ?_ ?_) | (guard_target = Fact _ _; refine Fact.mk fun hL => ?_; (try simp only [List.length_map, maxLen] at hL)) | (guard_target = Branch _ _ _; (first | apply Branch.dec | apply Branch.beq | apply Branch.bne | apply Branch.ndec | apply Branch.nb | apply Branch.mk) <;> intro h <;> (try simp only [List.length_map] at h) <;> (try omega) <;> (try contradiction)) | (guard_target = CallN _ 79 _ _ _ _; refine CallN.pure _ _ rfl (ValidArchive_ok x hx) rfl _ rfl ?_) | (guard_target = CallN _ 112 _ _ _ _; refine CallN.pure _ _ rfl (isEvent_ok _ _ e hp) rfl _ rfl ?_) | (guard_target = Arith _ _ _; refine Arith.fit (by apply wrap_fit <;> first | omega | (simp only [List.length_map]; omega)) ?_) | (guard_target = Arith _ _ _; refine Arith.fit (by decide) ?_) | (guard_target = Index _ _ _; first  | refine Index.mk _ (idx_map (by omega)) ?_) | (guard_target = Need (_ = true) _; refine Need.mk (by first | kernel_rfl | rfl) ?_) | (guard_target = LinkV _ _ _; refine LinkV.no ?_) | (guard_target = GhO _ _ _ _; refine GhO.go ?_) | (guard_target = Need _ _; refine Need.mk (by first  | omega | (simp only [List.length_map]; omega)) ?_))
theorem eqEv_own (e : XEvent) : CallF Tryz.prog 34 [.a 9 (roL (ownEvent e)), .a 9 (roL (ownEvent e))] (B true) := by
  rw [roEvent]
  have := eqEvent_ok e e
  rwa [eqv_self] at this
theorem markProof_out (x : XProof) (k : Int) (h0 : 0 ≤ k) (hk : k + (bsum mkeClaim x.claims : Nat) ≤ 4611686018427387904) : CallX Tryz.prog 108 [.m [.c (.val (.int .i64 x.sig.tests)), .c (.val (.int .i64 x.sig.actions)), .c (.own 260 9 (x.claims.map ownClaim))], I k] [some [Jm (x.sig.tests), Jm (x.sig.actions), .own 260 9 ((mkdL mkdClaim mkeClaim x.claims k).map ownClaim)], none] (I (k + (bsum mkeClaim x.claims : Nat))) := by
  refine callX_of_vc htb hm Tryz.func108 rfl rfl rfl rfl (ann := fun _ => none) (gh := fun _ => false) ?_
  repeat' ((conv => whnf); first | (guard_target = Done _; refine Done.mk ?_) | (guard_target = RetX _ _; refine RetX.mk ?_ ?_) | (guard_target = Fact _ _; refine Fact.mk fun hL => ?_; (try simp only [List.length_map, maxLen] at hL)) | (guard_target = Branch _ _ _; (first | apply Branch.dec | apply Branch.beq | apply Branch.bne | apply Branch.ndec | apply Branch.nb | apply Branch.mk) <;> intro h <;> (try simp only [List.length_map] at h) <;> (try omega) <;> (try contradiction)) | (guard_target = CallN _ 90 _ _ _ _; refine CallN.gen [true, false] _ _ _ rfl (markClaimS_out x.claims (k) (by omega) (by omega)) rfl rfl _ rfl ?_) | (guard_target = Arith _ _ _; refine Arith.fit (by apply wrap_fit <;> first | omega | (simp only [List.length_map]; omega)) ?_) | (guard_target = Arith _ _ _; refine Arith.fit (by decide) ?_) | (guard_target = Index _ _ _; first  | refine Index.mk _ (idx_map (by omega)) ?_) | (guard_target = Need (_ = true) _; refine Need.mk (by first | kernel_rfl | rfl) ?_) | (guard_target = LinkV _ _ _; refine LinkV.no ?_) | (guard_target = GhO _ _ _ _; refine GhO.go ?_) | (guard_target = Need _ _; refine Need.mk (by first  | omega | (simp only [List.length_map]; omega)) ?_))
  all_goals first | rfl | exact ⟨rfl, trivial⟩ | trivial
theorem markEvent_out (x : XEvent) (k : Int) (h0 : 0 ≤ k) (hk : k + (bsum one x.rests + bsum mkeClaim x.proof.claims + bsum one x.votes : Nat) ≤ 4611686018427387904) : CallX Tryz.prog 35 [.m [.c (.val (.int .i64 x.kind)), .c (.val (.int .i64 x.a)), .c (.val (.int .i64 x.b)), .c (.val (.int .i64 x.c)), .c (.ows 2 1 (x.rests.map eI)), .c (.val (.int .i64 x.proof.sig.tests)), .c (.val (.int .i64 x.proof.sig.actions)), .c (.own 260 9 (x.proof.claims.map ownClaim)), .c (.ows 4 1 (x.votes.map eB))], I k] [some [Jm (x.kind), Jm (x.a), Jm (x.b), Jm (x.c), .ows 2 1 ((mkdL mk1 one x.rests k).map eI), Jm (x.proof.sig.tests), Jm (x.proof.sig.actions), .own 260 9 ((mkdL mkdClaim mkeClaim x.proof.claims (k + (bsum one x.rests : Nat))).map ownClaim), .ows 4 1 ((mkdL mkB one x.votes (k + (bsum one x.rests : Nat) + (bsum mkeClaim x.proof.claims : Nat))).map eB)], none] (I (k + (bsum one x.rests : Nat) + (bsum mkeClaim x.proof.claims : Nat) + (bsum one x.votes : Nat))) := by
  refine callX_of_vc htb hm Tryz.func35 rfl rfl rfl rfl (ann := fun _ => none) (gh := fun _ => false) ?_
  repeat' ((conv => whnf); first | (guard_target = Done _; refine Done.mk ?_) | (guard_target = RetX _ _; refine RetX.mk ?_ ?_) | (guard_target = Fact _ _; refine Fact.mk fun hL => ?_; (try simp only [List.length_map, maxLen] at hL)) | (guard_target = Branch _ _ _; (first | apply Branch.dec | apply Branch.beq | apply Branch.bne | apply Branch.ndec | apply Branch.nb | apply Branch.mk) <;> intro h <;> (try simp only [List.length_map] at h) <;> (try omega) <;> (try contradiction)) | (guard_target = CallN _ 89 _ _ _ _; refine CallN.gen [true, false] _ _ _ rfl (markInt64S_out x.rests (k) (by omega) (by omega)) rfl rfl _ rfl ?_) | (guard_target = CallN _ 108 _ _ _ _; refine CallN.gen [true, false] _ _ _ rfl (markProof_out x.proof (k + (bsum one x.rests : Nat)) (by omega) (by omega)) rfl rfl _ rfl ?_) | (guard_target = CallN _ 91 _ _ _ _; refine CallN.gen [true, false] _ _ _ rfl (markBoolS_out x.votes (k + (bsum one x.rests : Nat) + (bsum mkeClaim x.proof.claims : Nat)) (by omega) (by omega)) rfl rfl _ rfl ?_) | (guard_target = Arith _ _ _; refine Arith.fit (by apply wrap_fit <;> first | omega | (simp only [List.length_map]; omega)) ?_) | (guard_target = Arith _ _ _; refine Arith.fit (by decide) ?_) | (guard_target = Index _ _ _; first  | refine Index.mk _ (idx_map (by omega)) ?_) | (guard_target = Need (_ = true) _; refine Need.mk (by first | kernel_rfl | rfl) ?_) | (guard_target = LinkV _ _ _; refine LinkV.no ?_) | (guard_target = GhO _ _ _ _; refine GhO.go ?_) | (guard_target = Need _ _; refine Need.mk (by first  | omega | (simp only [List.length_map]; omega)) ?_))
  all_goals first | rfl | exact ⟨rfl, trivial⟩ | trivial
theorem markEvent_ok (x : XEvent) (k : Int) (h0 : 0 ≤ k) (hk : k + (bsum one x.rests + bsum mkeClaim x.proof.claims + bsum one x.votes : Nat) ≤ 4611686018427387904) : CallX Tryz.prog 35 [.m [.c (.val (.int .i64 x.kind)), .c (.val (.int .i64 x.a)), .c (.val (.int .i64 x.b)), .c (.val (.int .i64 x.c)), .c (.ows 2 1 (x.rests.map eI)), .c (.val (.int .i64 x.proof.sig.tests)), .c (.val (.int .i64 x.proof.sig.actions)), .c (.own 260 9 (x.proof.claims.map ownClaim)), .c (.ows 4 1 (x.votes.map eB))], I k] [] (I (k + (bsum one x.rests + bsum mkeClaim x.proof.claims + bsum one x.votes : Nat))) := by
  have h := CallX.drop (markEvent_out x k h0 hk)
  rwa [show k + (bsum one x.rests : Nat) + (bsum mkeClaim x.proof.claims : Nat) + (bsum one x.votes : Nat) = k + ((bsum one x.rests + bsum mkeClaim x.proof.claims + bsum one x.votes : Nat) : Int) by omega] at h
theorem zeroUp {P : Program} {f : Nat} {args : List SV} {outs : List (Option (List CV))} {c : Int} (h : CallX P f args outs (.tup [.a 4 [J 0, J 0, .ows 152 3 [], .ows 239 8 []], I c])) : CallX P f args outs (.tup [.a 4 (ownArchive zA), I c]) :=
  CallX.ownUpO h (.same (.same (.up (.up .nil))))
theorem ve_of {a : XArchive} {e : XEvent} (h : goodVE a e = true) (hx : budArchive a ≤ 1048576) (he : budEvent e ≤ 1048576) : WA a ∧ EA e ∧ (1 ≤ e.kind ∧ e.kind ≤ 9) := by
  unfold goodVE at h
  rw [Bool.and_eq_true] at h
  exact ⟨.of ((arch_iff a).1 h.1) hx, EA.of h.2 he⟩
section
variable (a : XArchive) (e : XEvent) (hx : budArchive a ≤ 1048576) (he : budEvent e ≤ 1048576)
include hx he
theorem StepArchive_ok : CallX Tryz.prog 33 [.a 4 (encArchive a), .a 9 (encEvent e)] [] (.tup [.a 4 (ownArchive (stepA a e).2), I (stepA a e).1]) := by
  have hv := ValidEvent_ok a e hx he
  unfold stepA
  cases hg : goodVE a e with
  | false =>
    rw [hg] at hv
    rw [if_neg (by decide)]
    refine zeroUp ?_
    refine callX_of_vc htb hm Tryz.func33 rfl rfl rfl rfl (ann := fun _ => none) (gh := fun _ => false) ?_
    repeat' ((conv => whnf); first | (guard_target = Done _; refine Done.mk ?_) | (guard_target = RetX _ _; refine RetX.mk ?_ ?_) | (guard_target = Fact _ _; refine Fact.mk fun hL => ?_; (try simp only [List.length_map, maxLen] at hL)) | (guard_target = Branch _ _ _; (first | apply Branch.dec | apply Branch.beq | apply Branch.bne | apply Branch.ndec | apply Branch.nb | apply Branch.mk) <;> intro h <;> (try simp only [] at h) <;> (try omega) <;> (try contradiction)) | (guard_target = CallN _ 103 _ _ _ _; refine CallN.pure _ _ rfl (hv) rfl _ rfl ?_) | (guard_target = Arith _ _ _; refine Arith.fit (by apply wrap_fit <;> first | omega | (simp only [List.length_map]; omega)) ?_) | (guard_target = Arith _ _ _; refine Arith.fit (by decide) ?_) | (guard_target = Index _ _ _; first  | refine Index.mk _ (idx_map (by omega)) ?_) | (guard_target = Need (_ = true) _; refine Need.mk (by first | kernel_rfl | rfl) ?_) | (guard_target = LinkV _ _ _; refine LinkV.no ?_) | (guard_target = GhO _ _ _ _; refine GhO.go ?_) | (guard_target = Need _ _; refine Need.mk (by first  | omega | (simp only [List.length_map]; omega)) ?_))
    all_goals first | rfl | trivial | exact ⟨rfl, trivial⟩ | (exfalso; omega) | (exfalso; contradiction)
  | true =>
    rw [hg] at hv
    rw [if_pos rfl]
    obtain ⟨hw, hE, hk9⟩ := ve_of hg hx he
    have hc := hw.ca
    have hcp := copyArchive_ok (doA a e).2 (hw.step hE).ca
    rw [← viewA_eq] at hcp
    unfold stepO
    by_cases h0 : (doA a e).1 = 0
    · rw [if_pos h0]
      refine callX_of_vc htb hm Tryz.func33 rfl rfl rfl rfl (ann := fun _ => none) (gh := fun _ => false) ?_
      repeat' ((conv => whnf); first | (guard_target = Done _; refine Done.mk ?_) | (guard_target = RetX _ _; refine RetX.mk ?_ ?_) | (guard_target = Fact _ _; refine Fact.mk fun hL => ?_; (try simp only [List.length_map, maxLen] at hL)) | (guard_target = Branch _ _ _; (first | apply Branch.dec | apply Branch.beq | apply Branch.bne | apply Branch.ndec | apply Branch.nb | apply Branch.mk) <;> intro h <;> (try simp only [] at h) <;> (try omega) <;> (try contradiction)) | (guard_target = CallN _ 103 _ _ _ _; refine CallN.pure _ _ rfl (hv) rfl _ rfl ?_) | (guard_target = CallN _ 80 _ _ _ _; refine CallN.gen [] _ _ _ rfl (copyArchive_soft a hc) rfl rfl _ rfl ?_) | (guard_target = CallN _ 104 _ _ _ _; refine CallN.gen [true, false] _ _ _ rfl (happen_ok a e hw hE hk9) rfl rfl _ rfl ?_) | (guard_target = CallN _ 80 _ _ _ _; refine CallN.own _ _ rfl hcp (pure_arch _) _ rfl ?_) | (guard_target = Arith _ _ _; refine Arith.fit (by apply wrap_fit <;> first | omega | (simp only [List.length_map]; omega)) ?_) | (guard_target = Arith _ _ _; refine Arith.fit (by decide) ?_) | (guard_target = Index _ _ _; first  | refine Index.mk _ (idx_map (by omega)) ?_) | (guard_target = Need (_ = true) _; refine Need.mk (by first | kernel_rfl | rfl) ?_) | (guard_target = LinkV _ _ _; refine LinkV.no ?_) | (guard_target = GhO _ _ _ _; refine GhO.go ?_) | (guard_target = Need _ _; refine Need.mk (by first  | omega | (simp only [List.length_map]; omega)) ?_))
      all_goals first | rfl | trivial | exact ⟨rfl, trivial⟩ | (exfalso; omega) | (rw [h0]; rfl) | (exfalso; contradiction)
    · rw [if_neg h0]
      refine zeroUp ?_
      refine callX_of_vc htb hm Tryz.func33 rfl rfl rfl rfl (ann := fun _ => none) (gh := fun _ => false) ?_
      repeat' ((conv => whnf); first | (guard_target = Done _; refine Done.mk ?_) | (guard_target = RetX _ _; refine RetX.mk ?_ ?_) | (guard_target = Fact _ _; refine Fact.mk fun hL => ?_; (try simp only [List.length_map, maxLen] at hL)) | (guard_target = Branch _ _ _; (first | apply Branch.dec | apply Branch.beq | apply Branch.bne | apply Branch.ndec | apply Branch.nb | apply Branch.mk) <;> intro h <;> (try simp only [] at h) <;> (try omega) <;> (try contradiction)) | (guard_target = CallN _ 103 _ _ _ _; refine CallN.pure _ _ rfl (hv) rfl _ rfl ?_) | (guard_target = CallN _ 80 _ _ _ _; refine CallN.gen [] _ _ _ rfl (copyArchive_soft a hc) rfl rfl _ rfl ?_) | (guard_target = CallN _ 104 _ _ _ _; refine CallN.gen [true, false] _ _ _ rfl (happen_ok a e hw hE hk9) rfl rfl _ rfl ?_) | (guard_target = Arith _ _ _; refine Arith.fit (by apply wrap_fit <;> first | omega | (simp only [List.length_map]; omega)) ?_) | (guard_target = Arith _ _ _; refine Arith.fit (by decide) ?_) | (guard_target = Index _ _ _; first  | refine Index.mk _ (idx_map (by omega)) ?_) | (guard_target = Need (_ = true) _; refine Need.mk (by first | kernel_rfl | rfl) ?_) | (guard_target = LinkV _ _ _; refine LinkV.no ?_) | (guard_target = GhO _ _ _ _; refine GhO.go ?_) | (guard_target = Need _ _; refine Need.mk (by first  | omega | (simp only [List.length_map]; omega)) ?_))
      all_goals first | rfl | trivial | exact ⟨rfl, trivial⟩ | (exfalso; omega) | (exfalso; contradiction)
theorem specStepArchive_ok : CallX Tryz.prog 31 [.a 4 (encArchive a), .a 9 (encEvent e)] [] (.tup [.a 4 (softA (stepA a e).2), I (stepA a e).1]) := by
  have hp : budProof e.proof ≤ 1048576 := by simp only [budEvent] at he; omega
  have ho := l08Ok_ok a hx
  have hv := l08Event_ok a e hp
  unfold stepA goodVE
  cases hg : goodArch a with
  | false =>
    rw [hg] at ho
    rw [Bool.false_and, if_neg (by decide)]
    refine zeroUpS ?_
    refine callX_of_vc htb hm Tryz.func31 rfl rfl rfl rfl (ann := fun _ => none) (gh := fun reg_ => match reg_ with | 3 => true | _ => false) ?_
    repeat' ((conv => whnf); first | (guard_target = Done _; refine Done.mk ?_) | (guard_target = RetX _ _; refine RetX.mk ?_ ?_) | (guard_target = Fact _ _; refine Fact.mk fun hL => ?_; (try simp only [List.length_map, maxLen] at hL)) | (guard_target = Branch _ _ _; (first | apply Branch.dec | apply Branch.beq | apply Branch.bne | apply Branch.ndec | apply Branch.nb | apply Branch.mk) <;> intro h <;> (try simp only [] at h) <;> (try omega) <;> (try contradiction)) | (guard_target = CallN _ 72 _ _ _ _; refine CallN.pure _ _ rfl (ho) rfl _ rfl ?_) | (guard_target = CallN _ 98 _ _ _ _; refine CallN.pure _ _ rfl (hv) rfl _ rfl ?_) | (guard_target = Arith _ _ _; refine Arith.fit (by apply wrap_fit <;> first | omega | (simp only [List.length_map]; omega)) ?_) | (guard_target = Arith _ _ _; refine Arith.fit (by decide) ?_) | (guard_target = Index _ _ _; first  | refine Index.mk _ (idx_map (by omega)) ?_) | (guard_target = Need (_ = true) _; refine Need.mk (by first | kernel_rfl | rfl) ?_) | (guard_target = LinkV _ _ _; refine LinkV.no ?_) | (guard_target = GhO _ _ _ _; refine GhO.go ?_) | (guard_target = Need _ _; refine Need.mk (by first  | omega | (simp only [List.length_map]; omega)) ?_))
    all_goals first | rfl | trivial | exact ⟨rfl, trivial⟩ | (exfalso; omega) | (exfalso; contradiction)
  | true =>
    rw [hg] at ho
    rw [Bool.true_and]
    cases hg2 : goodEvent a.sig.tests a.sig.actions e with
    | false =>
      rw [hg2] at hv
      rw [if_neg (by decide)]
      refine zeroUpS ?_
      refine callX_of_vc htb hm Tryz.func31 rfl rfl rfl rfl (ann := fun _ => none) (gh := fun reg_ => match reg_ with | 3 => true | _ => false) ?_
      repeat' ((conv => whnf); first | (guard_target = Done _; refine Done.mk ?_) | (guard_target = RetX _ _; refine RetX.mk ?_ ?_) | (guard_target = Fact _ _; refine Fact.mk fun hL => ?_; (try simp only [List.length_map, maxLen] at hL)) | (guard_target = Branch _ _ _; (first | apply Branch.dec | apply Branch.beq | apply Branch.bne | apply Branch.ndec | apply Branch.nb | apply Branch.mk) <;> intro h <;> (try simp only [] at h) <;> (try omega) <;> (try contradiction)) | (guard_target = CallN _ 72 _ _ _ _; refine CallN.pure _ _ rfl (ho) rfl _ rfl ?_) | (guard_target = CallN _ 98 _ _ _ _; refine CallN.pure _ _ rfl (hv) rfl _ rfl ?_) | (guard_target = Arith _ _ _; refine Arith.fit (by apply wrap_fit <;> first | omega | (simp only [List.length_map]; omega)) ?_) | (guard_target = Arith _ _ _; refine Arith.fit (by decide) ?_) | (guard_target = Index _ _ _; first  | refine Index.mk _ (idx_map (by omega)) ?_) | (guard_target = Need (_ = true) _; refine Need.mk (by first | kernel_rfl | rfl) ?_) | (guard_target = LinkV _ _ _; refine LinkV.no ?_) | (guard_target = GhO _ _ _ _; refine GhO.go ?_) | (guard_target = Need _ _; refine Need.mk (by first  | omega | (simp only [List.length_map]; omega)) ?_))
      all_goals first | rfl | trivial | exact ⟨rfl, trivial⟩ | (exfalso; omega) | (exfalso; contradiction)
    | true =>
      rw [hg2] at hv
      rw [if_pos rfl]
      obtain ⟨hw, hE, hk9⟩ := ve_of (by unfold goodVE; rw [hg, hg2]; rfl) hx he
      refine callX_of_vc htb hm Tryz.func31 rfl rfl rfl rfl (ann := fun _ => none) (gh := fun reg_ => match reg_ with | 3 => true | _ => false) ?_
      repeat' ((conv => whnf); first | (guard_target = Done _; refine Done.mk ?_) | (guard_target = RetX _ _; refine RetX.mk ?_ ?_) | (guard_target = Fact _ _; refine Fact.mk fun hL => ?_; (try simp only [List.length_map, maxLen] at hL)) | (guard_target = Branch _ _ _; (first | apply Branch.dec | apply Branch.beq | apply Branch.bne | apply Branch.ndec | apply Branch.nb | apply Branch.mk) <;> intro h <;> (try simp only [] at h) <;> (try omega) <;> (try contradiction)) | (guard_target = CallN _ 72 _ _ _ _; refine CallN.pure _ _ rfl (ho) rfl _ rfl ?_) | (guard_target = CallN _ 98 _ _ _ _; refine CallN.pure _ _ rfl (hv) rfl _ rfl ?_) | (guard_target = CallN _ 99 _ _ _ _; refine CallN.gen [true, false] _ _ _ rfl (l08Step_ok a e hw hE hk9) rfl rfl _ rfl ?_) | (guard_target = Gh _ _ _ _ _; refine Gh.frzp 1 _ rfl (Gh.go ?_)) | (guard_target = Arith _ _ _; refine Arith.fit (by apply wrap_fit <;> first | omega | (simp only [List.length_map]; omega)) ?_) | (guard_target = Arith _ _ _; refine Arith.fit (by decide) ?_) | (guard_target = Index _ _ _; first  | refine Index.mk _ (idx_map (by omega)) ?_) | (guard_target = Need (_ = true) _; refine Need.mk (by first | kernel_rfl | rfl) ?_) | (guard_target = LinkV _ _ _; refine LinkV.no ?_) | (guard_target = GhO _ _ _ _; refine GhO.go ?_) | (guard_target = Need _ _; refine Need.mk (by first  | omega | (simp only [List.length_map]; omega)) ?_))
      all_goals first | rfl | trivial | exact ⟨rfl, trivial⟩ | (exfalso; omega) | (exfalso; contradiction)
end
theorem mkEv_le (e : XEvent) (he : budEvent e ≤ 1048576) : bsum one e.rests + bsum mkeClaim e.proof.claims + bsum one e.votes ≤ 10000000 := by
  have h1 := mkeCls_le e.proof.claims
  rw [bsum_one, bsum_one]
  simp only [budEvent, budProof] at he
  omega
theorem stepA_mk {a : XArchive} {e : XEvent} (hx : budArchive a ≤ 1048576) (he : budEvent e ≤ 1048576) : bsum mkeServer (stepA a e).2.servers + bsum mkePacket (stepA a e).2.flying ≤ 1000000000 := by
  unfold stepA
  split
  · obtain ⟨hw, hE, _⟩ := ve_of (by assumption) hx he
    unfold stepO
    split
    · exact mkWA (hw.step hE)
    · show 0 + 0 ≤ _; omega
  · show 0 + 0 ≤ _; omega
theorem toEvent_enc (e : XEvent) (hl : budEvent e ≤ 1048576) : CallX Tryz.prog 32 [.a 9 (encEvent e)] [] (.a 9 (encEvent e)) :=
  (toEvent_ok e hl).soft (.v (.a (by rw [← roEvent]; exact SoftN.roL _)))
theorem eqArch_soft (a : XArchive) : CallF Tryz.prog 26 [.a 4 (roL (ownArchive a)), .a 4 (viewA a)] (B true) := by
  rw [roArchive, viewA_eq]
  have := eqArchive_ok a a
  rwa [eqv_self] at this
theorem pure_archI (a : XArchive) (c : Int) : pureT (.tup [.a 4 (ownArchive a), I c]) := by
  intro s hs
  rcases List.mem_cons.1 hs with rfl | hs
  · exact pure_arch a
  · rw [List.mem_singleton.1 hs]
    exact trivial
theorem StepArchive_law (a : XArchive) (e : XEvent) : CallF Tryz.prog 5 [.a 4 (encArchive a), .a 9 (encEvent e)] (B true) := by
  have hz := szArchive_ok a 1048576 (by omega)
  by_cases hl : budArchive a ≤ 1048576
  case neg =>
    rw [szr_neg (by omega)] at hz
    refine callF_of_vc htb hm Tryz.func5 rfl rfl rfl rfl (ann := fun _ => none) (gh := fun _ => false) ?_
    repeat' ((conv => whnf); first | (guard_target = Done _; refine Done.mk ?_; first | (rfl; done) | skip) | (guard_target = RetX _ _; refine RetX.mk ?_ ?_) | (guard_target = Fact _ _; refine Fact.mk fun hL => ?_; (try simp only [List.length_map, maxLen] at hL)) | (guard_target = Branch _ _ _; (first | apply Branch.dec | apply Branch.beq | apply Branch.bne | apply Branch.ndec | apply Branch.nb | apply Branch.mk) <;> intro h <;> (try simp only [List.length_map] at h) <;> (try omega) <;> (try contradiction)) | (guard_target = CallN _ 21 _ _ _ _; refine CallN.pure _ _ rfl (hz) rfl _ rfl ?_) | (guard_target = Arith _ _ _; refine Arith.fit (by apply wrap_fit <;> first | omega | (simp only [List.length_map]; omega)) ?_) | (guard_target = Arith _ _ _; refine Arith.fit (by decide) ?_) | (guard_target = Index _ _ _; first  | refine Index.mk _ (idx_map (by omega)) ?_) | (guard_target = Need (_ = true) _; refine Need.mk (by first | kernel_rfl | rfl) ?_) | (guard_target = LinkV _ _ _; refine LinkV.no ?_) | (guard_target = GhO _ _ _ _; refine GhO.go ?_) | (guard_target = Need _ _; refine Need.mk (by first  | omega | (simp only [List.length_map]; omega)) ?_))
  case pos =>
    rw [szr_eq hl] at hz
    have hz2 := szEvent_ok e (1048576 - budArchive a) (by omega)
    by_cases he' : budEvent e ≤ 1048576 - budArchive a
    case neg =>
      rw [szr_neg (by omega)] at hz2
      refine callF_of_vc htb hm Tryz.func5 rfl rfl rfl rfl (ann := fun _ => none) (gh := fun _ => false) ?_
      repeat' ((conv => whnf); first | (guard_target = Done _; refine Done.mk ?_; first | (rfl; done) | skip) | (guard_target = RetX _ _; refine RetX.mk ?_ ?_) | (guard_target = Fact _ _; refine Fact.mk fun hL => ?_; (try simp only [List.length_map, maxLen] at hL)) | (guard_target = Branch _ _ _; (first | apply Branch.dec | apply Branch.beq | apply Branch.bne | apply Branch.ndec | apply Branch.nb | apply Branch.mk) <;> intro h <;> (try simp only [List.length_map] at h) <;> (try omega) <;> (try contradiction)) | (guard_target = CallN _ 21 _ _ _ _; refine CallN.pure _ _ rfl (hz) rfl _ rfl ?_) | (guard_target = CallN _ 30 _ _ _ _; refine CallN.pure _ _ rfl (hz2) rfl _ rfl ?_) | (guard_target = Arith _ _ _; refine Arith.fit (by apply wrap_fit <;> first | omega | (simp only [List.length_map]; omega)) ?_) | (guard_target = Arith _ _ _; refine Arith.fit (by decide) ?_) | (guard_target = Index _ _ _; first  | refine Index.mk _ (idx_map (by omega)) ?_) | (guard_target = Need (_ = true) _; refine Need.mk (by first | kernel_rfl | rfl) ?_) | (guard_target = LinkV _ _ _; refine LinkV.no ?_) | (guard_target = GhO _ _ _ _; refine GhO.go ?_) | (guard_target = Need _ _; refine Need.mk (by first  | omega | (simp only [List.length_map]; omega)) ?_))
    case pos =>
      rw [szr_eq he'] at hz2
      have he : budEvent e ≤ 1048576 := by omega
      have hs := specStepArchive_ok a e hl he
      have hi : CallX Tryz.prog 33 [.a 4 (roL (ownArchive a)), .a 9 (roL (ownEvent e))] [] (.tup [.a 4 (ownArchive (stepA a e).2), I (stepA a e).1]) := by rw [roArchive, roEvent]; exact StepArchive_ok a e hl he
      have hk := mkArch_le a hl
      have hk2 := mkEv_le e he
      have hk3 := stepA_mk hl he
      refine callF_of_vc htb hm Tryz.func5 rfl rfl rfl rfl (ann := fun _ => none) (gh := fun reg_ => match reg_ with | 9 => true | _ => false) ?_
      repeat' ((conv => whnf); first | (guard_target = Done _; refine Done.mk ?_) | (guard_target = RetX _ _; refine RetX.mk ?_ ?_) | (guard_target = Fact _ _; refine Fact.mk fun hL => ?_; (try simp only [List.length_map, maxLen] at hL)) | (guard_target = Branch _ _ _; (first | apply Branch.dec | apply Branch.beq | apply Branch.bne | apply Branch.ndec | apply Branch.nb | apply Branch.mk) <;> intro h <;> (try simp only [List.length_map] at h) <;> (try omega) <;> (try contradiction)) | (guard_target = CallN _ 21 _ _ _ _; refine CallN.pure _ _ rfl (hz) rfl _ rfl ?_) | (guard_target = CallN _ 30 _ _ _ _; refine CallN.pure _ _ rfl (hz2) rfl _ rfl ?_) | (guard_target = CallN _ 23 _ _ _ _; refine CallN.gen [] _ _ _ rfl (toArchive_enc a hl) rfl rfl _ rfl ?_) | (guard_target = CallN _ 32 _ _ _ _; refine CallN.gen [] _ _ _ rfl (toEvent_enc e he) rfl rfl _ rfl ?_) | (guard_target = CallN _ 31 _ _ _ _; refine CallN.gen [] _ _ _ rfl (hs) rfl rfl _ rfl ?_) | (guard_target = Arith _ _ _; refine Arith.fit (by apply wrap_fit <;> first | omega | (simp only [List.length_map]; omega)) ?_) | (guard_target = Arith _ _ _; refine Arith.fit (by decide) ?_) | (guard_target = Index _ _ _; first  | refine Index.mk _ (idx_map (by omega)) ?_) | (guard_target = Need (_ = true) _; refine Need.mk (by first | kernel_rfl | rfl) ?_) | (guard_target = LinkV _ _ _; refine LinkV.no ?_) | (guard_target = Need _ _; refine Need.mk (by first  | omega | (simp only [List.length_map]; omega)) ?_))
      all_goals (conv => whnf)
      all_goals try refine Gh.go ?_
      repeat' ((conv => whnf); first | (guard_target = Done _; refine Done.mk ?_; first | (rfl; done) | skip) | (guard_target = RetX _ _; refine RetX.mk ?_ ?_) | (guard_target = Fact _ _; refine Fact.mk fun hL => ?_; (try simp only [List.length_map, maxLen] at hL)) | (guard_target = Branch _ _ _; (first | apply Branch.dec | apply Branch.beq | apply Branch.bne | apply Branch.ndec | apply Branch.nb | apply Branch.mk) <;> intro h <;> (try simp only [] at h) <;> (try omega) <;> (try contradiction)) | (guard_target = CallN _ 23 _ _ _ _; refine CallN.gen [] _ _ _ rfl (toArchive_ok a hl) rfl rfl _ rfl ?_) | (guard_target = CallN _ 32 _ _ _ _; refine CallN.gen [] _ _ _ rfl (toEvent_ok e he) rfl rfl _ rfl ?_) | (guard_target = CallN _ 26 _ _ _ _; refine CallN.pure _ _ rfl (eqArch_soft (stepA a e).2) rfl _ rfl ?_) | (guard_target = CallN _ 26 _ _ _ _; refine CallN.pure _ _ rfl (eqArch_own a) rfl _ rfl ?_) | (guard_target = CallN _ 34 _ _ _ _; refine CallN.pure _ _ rfl (eqEv_own e) rfl _ rfl ?_) | (guard_target = CallN _ 27 _ _ _ _; refine CallN.gen [true, false] _ _ _ rfl (markArchive_ok a 1 (by omega) (by omega)) rfl rfl _ rfl ?_) | (guard_target = CallN _ 35 _ _ _ _; refine CallN.gen [true, false] _ _ _ rfl (markEvent_ok e (1 + (bsum mkeServer a.servers + bsum mkePacket a.flying : Nat)) (by omega) (by omega)) rfl rfl _ rfl ?_) | (guard_target = CallN _ 27 _ _ _ _; refine CallN.gen [true, false] _ _ _ rfl (markArchive_out (stepA a e).2 1 (by omega) (by omega)) rfl rfl _ rfl ?_) | (guard_target = CallN _ 36 _ _ _ _; refine CallN.pure _ _ rfl (heldArchive_own (stepA a e).2 (by omega)) rfl _ rfl ?_) | (guard_target = CallN _ 33 _ _ _ _; refine CallN.own _ _ rfl hi (pure_archI _ _) _ rfl ?_) | (guard_target = Arith _ _ _; refine Arith.fit (by apply wrap_fit <;> first | omega | (simp only [List.length_map]; omega)) ?_) | (guard_target = Arith _ _ _; refine Arith.fit (by decide) ?_) | (guard_target = Index _ _ _; first  | refine Index.mk _ (idx_map (by omega)) ?_) | (guard_target = Need (_ = true) _; refine Need.mk (by first | kernel_rfl | rfl) ?_) | (guard_target = LinkV _ _ _; refine LinkV.no ?_) | (guard_target = GhO _ _ _ _; refine GhO.go ?_) | (guard_target = Need _ _; refine Need.mk (by first  | omega | (simp only [List.length_map]; omega)) ?_))
end Go.Proofs.YthgajpkahkhlpaaGreat
