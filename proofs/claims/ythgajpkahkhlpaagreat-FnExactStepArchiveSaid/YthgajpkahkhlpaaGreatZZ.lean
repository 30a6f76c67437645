/- Contract of an event, and of the same event in the reference. Conditions: the archive's shape, the event's. -/
import Derived.Test.YthgajpkahkhlpaaGreatZY
namespace Go.Proofs.YthgajpkahkhlpaaGreat
open Go Go.KA Go.Proofs
set_option maxHeartbeats 16000000
set_option maxRecDepth 100000
theorem doA_dc {a : XArchive} {e : XEvent} (hk : e.kind = 4 ∨ e.kind = 5) : doA a e = doDC a e := by
  unfold doA doDC
  split
  · rfl
  · rw [if_pos (by omega)]
theorem doA_drop {a : XArchive} {e : XEvent} (hk : e.kind = 6) : doA a e = doDrop a e.a := by
  unfold doA
  rw [if_neg (by omega), if_neg (by omega), if_pos hk]
theorem doA_np {a : XArchive} {e : XEvent} (hk : ¬ e.kind = 4 ∧ ¬ e.kind = 5 ∧ ¬ e.kind = 6) (hp : placeB a e.a = false) : doA a e = (2, a) := by
  unfold doA
  rw [if_neg hk.1, if_neg hk.2.1, if_neg hk.2.2, if_pos hp]
theorem doA_p {a : XArchive} {e : XEvent} (hk : ¬ e.kind = 4 ∧ ¬ e.kind = 5 ∧ ¬ e.kind = 6) (hp : placeB a e.a = true) : doA a e = (if e.kind = 1 then doPut a e else if e.kind = 2 then doRevoke a e else if e.kind = 3 then doSend a e else doSave a e) := by
  unfold doA
  rw [if_neg hk.1, if_neg hk.2.1, if_neg hk.2.2, if_neg (by rw [hp]; decide)]
section
variable (a : XArchive) (e : XEvent) (hw : WA a) (he : EA e) (hk9 : 1 ≤ e.kind ∧ e.kind ≤ 9)
include hw he
include hk9 in
theorem happen_ok : CallX Tryz.prog 104 [.c (.op (softA a)), .a 9 (encEvent e)] [some [.op (softA (doA a e).2)], none] (I (doA a e).1) := by
  by_cases h1 : e.kind = 4 ∨ e.kind = 5
  · rw [doA_dc h1]
    exact happen_dc a e hw he h1
  by_cases h2 : e.kind = 6
  · rw [doA_drop h2]
    exact happen_drop a e hw he h2
  have hk : ¬ e.kind = 4 ∧ ¬ e.kind = 5 ∧ ¬ e.kind = 6 := by omega
  cases hp : placeB a e.a with
  | false =>
    rw [doA_np hk hp]
    exact happen_np a e hw he hk hp
  | true =>
    rw [doA_p hk hp]
    by_cases h3 : e.kind = 1
    · rw [if_pos h3]
      exact happen_put a e hw he hp h3
    rw [if_neg h3]
    by_cases h4 : e.kind = 2
    · rw [if_pos h4]
      exact happen_revoke a e hw he hp h4
    rw [if_neg h4]
    by_cases h5 : e.kind = 3
    · rw [if_pos h5]
      exact happen_send a e hw he hp h5
    rw [if_neg h5]
    exact happen_sw a e hw he hp (by omega)
section
variable (hp : placeB a e.a = false)
include hp
theorem l08Put_np : CallX Tryz.prog 217 [.c (.op (softA a)), .c (.rp 9 (encEvent e))] [some [.op (softA a)], none] (I 2) := by
  have _ := hw
  have _ := he
  have hat := l08At_soft a e.a
  rw [hp] at hat
  refine callX_of_vc htb hm Tryz.func217 rfl rfl rfl rfl (ann := fun _ => none) (gh := fun _ => false) ?_
  repeat' ((conv => whnf); first | (guard_target = Done _; refine Done.mk ?_) | (guard_target = RetX _ _; refine RetX.mk ?_ ?_) | (guard_target = Fact _ _; refine Fact.mk fun hL => ?_; (try simp only [List.length_map, maxLen] at hL)) | (guard_target = Branch _ _ _; (first | apply Branch.dec | apply Branch.beq | apply Branch.bne | apply Branch.ndec | apply Branch.nb | apply Branch.mk) <;> intro h <;> (try simp only [] at h) <;> (try omega) <;> (try contradiction)) | (guard_target = CallN _ 268 _ _ _ _; refine CallN.pure _ _ rfl (hat) rfl _ rfl ?_) | (guard_target = Arith _ _ _; refine Arith.fit (by apply wrap_fit <;> first | omega | (simp only [List.length_map]; omega)) ?_) | (guard_target = Arith _ _ _; refine Arith.fit (by decide) ?_) | (guard_target = Index _ _ _; first  | refine Index.mk _ (idx_map (by omega)) ?_) | (guard_target = Need (_ = true) _; refine Need.mk (by first | kernel_rfl | rfl) ?_) | (guard_target = LinkV _ _ _; refine LinkV.no ?_) | (guard_target = GhO _ _ _ _; refine GhO.go ?_) | (guard_target = Need _ _; refine Need.mk (by first  | omega | (simp only [List.length_map]; omega)) ?_))
  all_goals first | rfl | exact ⟨rfl, trivial⟩
theorem l08Revoke_np : CallX Tryz.prog 218 [.c (.op (softA a)), .c (.rp 9 (encEvent e))] [some [.op (softA a)], none] (I 2) := by
  have _ := hw
  have _ := he
  have hat := l08At_soft a e.a
  rw [hp] at hat
  refine callX_of_vc htb hm Tryz.func218 rfl rfl rfl rfl (ann := fun _ => none) (gh := fun _ => false) ?_
  repeat' ((conv => whnf); first | (guard_target = Done _; refine Done.mk ?_) | (guard_target = RetX _ _; refine RetX.mk ?_ ?_) | (guard_target = Fact _ _; refine Fact.mk fun hL => ?_; (try simp only [List.length_map, maxLen] at hL)) | (guard_target = Branch _ _ _; (first | apply Branch.dec | apply Branch.beq | apply Branch.bne | apply Branch.ndec | apply Branch.nb | apply Branch.mk) <;> intro h <;> (try simp only [] at h) <;> (try omega) <;> (try contradiction)) | (guard_target = CallN _ 268 _ _ _ _; refine CallN.pure _ _ rfl (hat) rfl _ rfl ?_) | (guard_target = Arith _ _ _; refine Arith.fit (by apply wrap_fit <;> first | omega | (simp only [List.length_map]; omega)) ?_) | (guard_target = Arith _ _ _; refine Arith.fit (by decide) ?_) | (guard_target = Index _ _ _; first  | refine Index.mk _ (idx_map (by omega)) ?_) | (guard_target = Need (_ = true) _; refine Need.mk (by first | kernel_rfl | rfl) ?_) | (guard_target = LinkV _ _ _; refine LinkV.no ?_) | (guard_target = GhO _ _ _ _; refine GhO.go ?_) | (guard_target = Need _ _; refine Need.mk (by first  | omega | (simp only [List.length_map]; omega)) ?_))
  all_goals first | rfl | exact ⟨rfl, trivial⟩
theorem l08Send_np : CallX Tryz.prog 219 [.c (.op (softA a)), .c (.rp 9 (encEvent e))] [some [.op (softA a)], none] (I 2) := by
  have _ := hw
  have _ := he
  have hat := l08At_soft a e.a
  rw [hp] at hat
  refine callX_of_vc htb hm Tryz.func219 rfl rfl rfl rfl (ann := fun _ => none) (gh := fun _ => false) ?_
  repeat' ((conv => whnf); first | (guard_target = Done _; refine Done.mk ?_) | (guard_target = RetX _ _; refine RetX.mk ?_ ?_) | (guard_target = Fact _ _; refine Fact.mk fun hL => ?_; (try simp only [List.length_map, maxLen] at hL)) | (guard_target = Branch _ _ _; (first | apply Branch.dec | apply Branch.beq | apply Branch.bne | apply Branch.ndec | apply Branch.nb | apply Branch.mk) <;> intro h <;> (try simp only [] at h) <;> (try omega) <;> (try contradiction)) | (guard_target = CallN _ 268 _ _ _ _; refine CallN.pure _ _ rfl (hat) rfl _ rfl ?_) | (guard_target = Arith _ _ _; refine Arith.fit (by apply wrap_fit <;> first | omega | (simp only [List.length_map]; omega)) ?_) | (guard_target = Arith _ _ _; refine Arith.fit (by decide) ?_) | (guard_target = Index _ _ _; first  | refine Index.mk _ (idx_map (by omega)) ?_) | (guard_target = Need (_ = true) _; refine Need.mk (by first | kernel_rfl | rfl) ?_) | (guard_target = LinkV _ _ _; refine LinkV.no ?_) | (guard_target = GhO _ _ _ _; refine GhO.go ?_) | (guard_target = Need _ _; refine Need.mk (by first  | omega | (simp only [List.length_map]; omega)) ?_))
  all_goals first | rfl | exact ⟨rfl, trivial⟩
theorem l08Switch_np : CallX Tryz.prog 222 [.c (.op (softA a)), .c (.rp 9 (encEvent e))] [some [.op (softA a)], none] (I 2) := by
  have _ := hw
  have _ := he
  have hat := l08At_soft a e.a
  rw [hp] at hat
  refine callX_of_vc htb hm Tryz.func222 rfl rfl rfl rfl (ann := fun _ => none) (gh := fun _ => false) ?_
  repeat' ((conv => whnf); first | (guard_target = Done _; refine Done.mk ?_) | (guard_target = RetX _ _; refine RetX.mk ?_ ?_) | (guard_target = Fact _ _; refine Fact.mk fun hL => ?_; (try simp only [List.length_map, maxLen] at hL)) | (guard_target = Branch _ _ _; (first | apply Branch.dec | apply Branch.beq | apply Branch.bne | apply Branch.ndec | apply Branch.nb | apply Branch.mk) <;> intro h <;> (try simp only [] at h) <;> (try omega) <;> (try contradiction)) | (guard_target = CallN _ 268 _ _ _ _; refine CallN.pure _ _ rfl (hat) rfl _ rfl ?_) | (guard_target = Arith _ _ _; refine Arith.fit (by apply wrap_fit <;> first | omega | (simp only [List.length_map]; omega)) ?_) | (guard_target = Arith _ _ _; refine Arith.fit (by decide) ?_) | (guard_target = Index _ _ _; first  | refine Index.mk _ (idx_map (by omega)) ?_) | (guard_target = Need (_ = true) _; refine Need.mk (by first | kernel_rfl | rfl) ?_) | (guard_target = LinkV _ _ _; refine LinkV.no ?_) | (guard_target = GhO _ _ _ _; refine GhO.go ?_) | (guard_target = Need _ _; refine Need.mk (by first  | omega | (simp only [List.length_map]; omega)) ?_))
  all_goals first | rfl | exact ⟨rfl, trivial⟩
end
section
variable (hp : placeB a e.a = true)
include hp
theorem l08Switch_ok (hk : 7 ≤ e.kind ∧ e.kind ≤ 9) : CallX Tryz.prog 222 [.c (.op (softA a)), .c (.rp 9 (encEvent e))] [some [.op (softA (doSave a e).2)], none] (I (doSave a e).1) := by
  have _ := he
  have hlt := rng_le hp
  have h5 := hw.n5
  have hplt : e.a.toNat < a.servers.length := by omega
  have hsv := hw.sv _ hplt
  have hat := l08At_soft a e.a
  rw [hp] at hat
  by_cases hs : (a.servers.getD e.a.toNat s00).saved = ((a.servers.getD e.a.toNat s00).notes.length : Int)
  · refine callX_of_vcg htb hm Tryz.func222 rfl rfl rfl rfl (ann := fun _ => none) (gh := fun reg_ => match reg_ with | 10 => true | _ => false) ?_
    repeat' ((conv => whnf); first | (guard_target =~ RetX (I 4 = _) _; rw [sv_4 (by assumption)]; exact RetX.mk rfl ⟨rfl, trivial⟩) | (guard_target =~ RetX (I 0 = _) _; rw [sv_7 (by assumption) (by assumption)]; exact RetX.mk rfl ⟨congrArg (FA a) (Eq.trans (b := (a.servers.map softS).set e.a.toNat (softS ⟨(sA a e.a).up, (sA a e.a).notes, ((sA a e.a).notes.length : Nat)⟩)) (by (repeat rw [List.set_set]); (try simp only [List.length_map]); rfl) (set_upd1 rfl)), trivial⟩) | (guard_target =~ RetX (I 0 = _) _; rw [sv_9 (by assumption) (by assumption) (by assumption)]; exact RetX.mk rfl ⟨congrArg (FA a) (Eq.trans (b := (a.servers.map softS).set e.a.toNat (softS ⟨true, (sA a e.a).notes, (sA a e.a).saved⟩)) (by (repeat rw [List.set_set]); rfl) (set_upd1 rfl)), trivial⟩) | (guard_target =~ RetX (I 0 = _) _; rw [sv_8 (by assumption) (by assumption)]; exact RetX.mk rfl ⟨congrArg (FA a) (Eq.trans (b := (a.servers.map softS).set e.a.toNat (softS ⟨false, (sA a e.a).notes.take (sA a e.a).saved.toNat, (sA a e.a).saved⟩)) (by (repeat rw [List.set_set]); rw [List.take_of_length_le (l := (sA a e.a).notes) (i := (sA a e.a).saved.toNat) (by show (a.servers.getD e.a.toNat s00).notes.length ≤ (a.servers.getD e.a.toNat s00).saved.toNat; omega)]; rfl) (set_upd1 rfl)), trivial⟩) | (guard_target = Done _; refine Done.mk ?_) | (guard_target = RetX _ _; refine RetX.mk ?_ ?_) | (guard_target = Fact _ _; refine Fact.mk fun hL => ?_; (try simp only [List.length_map, maxLen] at hL)) | (guard_target = Branch _ _ _; (first | apply Branch.dec | apply Branch.beq | apply Branch.bne | apply Branch.ndec | apply Branch.nb | apply Branch.mk) <;> intro h <;> (try simp only [] at h) <;> (try omega) <;> (try contradiction)) | (guard_target = CallN _ 268 _ _ _ _; refine CallN.pure _ _ rfl (hat) rfl _ rfl ?_) | (guard_target = ∀ _ : Value, _; intro v) | (guard_target = Gh _ _ _ _ _; refine Gh.closes 0 e.a.toNat 1 3 rfl (set_get (by simp only [List.length_set, List.length_map]; exact hplt)) rfl rfl rfl (Gh.go ?_)) | (guard_target = Gh _ _ _ _ _; refine Gh.go ?_) | (guard_target = Arith _ _ _; refine Arith.fit (by apply wrap_fit <;> first | omega | (simp only [List.length_map]; omega)) ?_) | (guard_target = Arith _ _ _; refine Arith.fit (by decide) ?_) | (guard_target = Index _ _ _; first | refine Index.mk _ (idx_getD (d := s00) hplt) ?_ | refine Index.mk _ (set_get (by rw [List.length_map]; exact hplt)) ?_ | refine Index.mk _ (idx_map (by omega)) ?_) | (guard_target = Need (_ = true) _; refine Need.mk (by first | kernel_rfl | rfl) ?_) | (guard_target = LinkV _ _ _; refine LinkV.no ?_) | (guard_target = Need _ _; refine Need.mk (by first | ((simp only [List.length_map]; omega)) | omega | (simp only [List.length_map]; omega)) ?_))
    all_goals (conv => whnf)
    all_goals try refine GhO.opens 0 e.a.toNat 1 rfl (idx_getD (d := s00) hplt) rfl fun v => GhO.go ?_
    repeat' ((conv => whnf); first | (guard_target =~ RetX (I 4 = _) _; rw [sv_4 (by assumption)]; exact RetX.mk rfl ⟨rfl, trivial⟩) | (guard_target =~ RetX (I 0 = _) _; rw [sv_7 (by assumption) (by assumption)]; exact RetX.mk rfl ⟨congrArg (FA a) (Eq.trans (b := (a.servers.map softS).set e.a.toNat (softS ⟨(sA a e.a).up, (sA a e.a).notes, ((sA a e.a).notes.length : Nat)⟩)) (by (repeat rw [List.set_set]); (try simp only [List.length_map]); rfl) (set_upd1 rfl)), trivial⟩) | (guard_target =~ RetX (I 0 = _) _; rw [sv_9 (by assumption) (by assumption) (by assumption)]; exact RetX.mk rfl ⟨congrArg (FA a) (Eq.trans (b := (a.servers.map softS).set e.a.toNat (softS ⟨true, (sA a e.a).notes, (sA a e.a).saved⟩)) (by (repeat rw [List.set_set]); rfl) (set_upd1 rfl)), trivial⟩) | (guard_target =~ RetX (I 0 = _) _; rw [sv_8 (by assumption) (by assumption)]; exact RetX.mk rfl ⟨congrArg (FA a) (Eq.trans (b := (a.servers.map softS).set e.a.toNat (softS ⟨false, (sA a e.a).notes.take (sA a e.a).saved.toNat, (sA a e.a).saved⟩)) (by (repeat rw [List.set_set]); rw [List.take_of_length_le (l := (sA a e.a).notes) (i := (sA a e.a).saved.toNat) (by show (a.servers.getD e.a.toNat s00).notes.length ≤ (a.servers.getD e.a.toNat s00).saved.toNat; omega)]; rfl) (set_upd1 rfl)), trivial⟩) | (guard_target = Done _; refine Done.mk ?_) | (guard_target = RetX _ _; refine RetX.mk ?_ ?_) | (guard_target = Fact _ _; refine Fact.mk fun hL => ?_; (try simp only [List.length_map, maxLen] at hL)) | (guard_target = Branch _ _ _; (first | apply Branch.dec | apply Branch.beq | apply Branch.bne | apply Branch.ndec | apply Branch.nb | apply Branch.mk) <;> intro h <;> (try simp only [List.length_map] at h) <;> (try omega) <;> (try contradiction)) | (guard_target = SliceW _ _ _ _ _ _; refine SliceW.all (by rw [List.length_map]; exact ⟨rfl, hs⟩) ?_) | (guard_target = Gh _ _ _ _ _; refine Gh.go ?_) | (guard_target = Arith _ _ _; refine Arith.fit (by apply wrap_fit <;> first | omega | (simp only [List.length_map]; omega)) ?_) | (guard_target = Arith _ _ _; refine Arith.fit (by decide) ?_) | (guard_target = Index _ _ _; first | refine Index.mk _ (set_get (by simp only [List.length_set, List.length_map]; exact hplt)) ?_ | refine Index.mk _ (idx_map (by omega)) ?_) | (guard_target = Need (_ = true) _; refine Need.mk (by first | kernel_rfl | rfl) ?_) | (guard_target = LinkV _ _ _; first | refine LinkV.row 3 rfl ?_ | refine LinkV.orow 3 rfl ?_ | refine LinkV.no ?_) | (guard_target = GhO _ _ _ _; refine GhO.go ?_) | (guard_target = Need _ _; refine Need.mk (by first | ((simp only [List.length_set, List.length_map]; omega)) | omega | (simp only [List.length_map]; omega)) ?_))
    all_goals (try (conv => whnf))
  · refine callX_of_vcg htb hm Tryz.func222 rfl rfl rfl rfl (ann := fun _ => none) (gh := fun reg_ => match reg_ with | 10 => true | _ => false) ?_
    repeat' ((conv => whnf); first | (guard_target =~ RetX (I 4 = _) _; rw [sv_4 (by assumption)]; exact RetX.mk rfl ⟨rfl, trivial⟩) | (guard_target =~ RetX (I 0 = _) _; rw [sv_7 (by assumption) (by assumption)]; exact RetX.mk rfl ⟨congrArg (FA a) (Eq.trans (b := (a.servers.map softS).set e.a.toNat (softS ⟨(sA a e.a).up, (sA a e.a).notes, ((sA a e.a).notes.length : Nat)⟩)) (by (repeat rw [List.set_set]); (try simp only [List.length_map]); rfl) (set_upd1 rfl)), trivial⟩) | (guard_target =~ RetX (I 0 = _) _; rw [sv_9 (by assumption) (by assumption) (by assumption)]; exact RetX.mk rfl ⟨congrArg (FA a) (Eq.trans (b := (a.servers.map softS).set e.a.toNat (softS ⟨true, (sA a e.a).notes, (sA a e.a).saved⟩)) (by (repeat rw [List.set_set]); rfl) (set_upd1 rfl)), trivial⟩) | (guard_target =~ RetX (I 0 = _) _; rw [sv_8 (by assumption) (by assumption)]; exact RetX.mk rfl ⟨congrArg (FA a) (Eq.trans (b := (a.servers.map softS).set e.a.toNat (softS ⟨false, (sA a e.a).notes.take (sA a e.a).saved.toNat, (sA a e.a).saved⟩)) (by (repeat rw [List.set_set]); exact congrArg (fun R => (a.servers.map softS).set e.a.toNat [CV.val (.bool false), CV.ows 157 7 R, J (sA a e.a).saved]) tk_map) (set_upd1 rfl)), trivial⟩) | (guard_target = Done _; refine Done.mk ?_) | (guard_target = RetX _ _; refine RetX.mk ?_ ?_) | (guard_target = Fact _ _; refine Fact.mk fun hL => ?_; (try simp only [List.length_map, maxLen] at hL)) | (guard_target = Branch _ _ _; (first | apply Branch.dec | apply Branch.beq | apply Branch.bne | apply Branch.ndec | apply Branch.nb | apply Branch.mk) <;> intro h <;> (try simp only [] at h) <;> (try omega) <;> (try contradiction)) | (guard_target = CallN _ 268 _ _ _ _; refine CallN.pure _ _ rfl (hat) rfl _ rfl ?_) | (guard_target = ∀ _ : Value, _; intro v) | (guard_target = Gh _ _ _ _ _; refine Gh.closes 0 e.a.toNat 1 3 rfl (set_get (by simp only [List.length_set, List.length_map]; exact hplt)) rfl rfl rfl (Gh.go ?_)) | (guard_target = Gh _ _ _ _ _; refine Gh.go ?_) | (guard_target = Arith _ _ _; refine Arith.fit (by apply wrap_fit <;> first | omega | (simp only [List.length_map]; omega)) ?_) | (guard_target = Arith _ _ _; refine Arith.fit (by decide) ?_) | (guard_target = Index _ _ _; first | refine Index.mk _ (idx_getD (d := s00) hplt) ?_ | refine Index.mk _ (set_get (by rw [List.length_map]; exact hplt)) ?_ | refine Index.mk _ (idx_map (by omega)) ?_) | (guard_target = Need (_ = true) _; refine Need.mk (by first | kernel_rfl | rfl) ?_) | (guard_target = LinkV _ _ _; refine LinkV.no ?_) | (guard_target = Need _ _; refine Need.mk (by first | ((simp only [List.length_map]; omega)) | omega | (simp only [List.length_map]; omega)) ?_))
    all_goals (conv => whnf)
    all_goals try refine GhO.opens 0 e.a.toNat 1 rfl (idx_getD (d := s00) hplt) rfl fun v => GhO.go ?_
    repeat' ((conv => whnf); first | (guard_target =~ RetX (I 4 = _) _; rw [sv_4 (by assumption)]; exact RetX.mk rfl ⟨rfl, trivial⟩) | (guard_target =~ RetX (I 0 = _) _; rw [sv_7 (by assumption) (by assumption)]; exact RetX.mk rfl ⟨congrArg (FA a) (Eq.trans (b := (a.servers.map softS).set e.a.toNat (softS ⟨(sA a e.a).up, (sA a e.a).notes, ((sA a e.a).notes.length : Nat)⟩)) (by (repeat rw [List.set_set]); (try simp only [List.length_map]); rfl) (set_upd1 rfl)), trivial⟩) | (guard_target =~ RetX (I 0 = _) _; rw [sv_9 (by assumption) (by assumption) (by assumption)]; exact RetX.mk rfl ⟨congrArg (FA a) (Eq.trans (b := (a.servers.map softS).set e.a.toNat (softS ⟨true, (sA a e.a).notes, (sA a e.a).saved⟩)) (by (repeat rw [List.set_set]); rfl) (set_upd1 rfl)), trivial⟩) | (guard_target =~ RetX (I 0 = _) _; rw [sv_8 (by assumption) (by assumption)]; exact RetX.mk rfl ⟨congrArg (FA a) (Eq.trans (b := (a.servers.map softS).set e.a.toNat (softS ⟨false, (sA a e.a).notes.take (sA a e.a).saved.toNat, (sA a e.a).saved⟩)) (by (repeat rw [List.set_set]); exact congrArg (fun R => (a.servers.map softS).set e.a.toNat [CV.val (.bool false), CV.ows 157 7 R, J (sA a e.a).saved]) tk_map) (set_upd1 rfl)), trivial⟩) | (guard_target = Done _; refine Done.mk ?_) | (guard_target = RetX _ _; refine RetX.mk ?_ ?_) | (guard_target = Fact _ _; refine Fact.mk fun hL => ?_; (try simp only [List.length_map, maxLen] at hL)) | (guard_target = Branch _ _ _; (first | apply Branch.dec | apply Branch.beq | apply Branch.bne | apply Branch.ndec | apply Branch.nb | apply Branch.mk) <;> intro h <;> (try simp only [List.length_map] at h) <;> (try omega) <;> (try contradiction)) | (guard_target = SliceW _ _ _ _ _ _; refine SliceW.some (by rw [List.length_map]; omega) ?_) | (guard_target = Gh _ _ _ _ _; refine Gh.go ?_) | (guard_target = Arith _ _ _; refine Arith.fit (by apply wrap_fit <;> first | omega | (simp only [List.length_map]; omega)) ?_) | (guard_target = Arith _ _ _; refine Arith.fit (by decide) ?_) | (guard_target = Index _ _ _; first | refine Index.mk _ (set_get (by simp only [List.length_set, List.length_map]; exact hplt)) ?_ | refine Index.mk _ (idx_map (by omega)) ?_) | (guard_target = Need (_ = true) _; refine Need.mk (by first | kernel_rfl | rfl) ?_) | (guard_target = LinkV _ _ _; first | refine LinkV.row 3 rfl ?_ | refine LinkV.orow 3 rfl ?_ | refine LinkV.no ?_) | (guard_target = GhO _ _ _ _; refine GhO.go ?_) | (guard_target = Need _ _; refine Need.mk (by first | ((simp only [List.length_set, List.length_map]; omega)) | omega | (simp only [List.length_map]; omega)) ?_))
    all_goals (try (conv => whnf))
end
end
end Go.Proofs.YthgajpkahkhlpaaGreat

namespace Go.Proofs.YthgajpkahkhlpaaGreat
open Go Go.KA Go.Proofs
set_option maxHeartbeats 16000000
set_option maxRecDepth 100000
theorem take_err {a : XArchive} {i : Int} (h : ¬ (doTake a i).1 = 0) : (doTake a i).2 = a := by
  unfold doTake at h ⊢
  repeat' split at h
  all_goals first | (exfalso; exact h rfl) | skip
  all_goals (repeat' split)
  all_goals first | rfl | (exfalso; contradiction)
theorem take_fly {a : XArchive} {i : Int} : (doTake a i).2.flying = a.flying := by
  unfold doTake
  repeat' split
  all_goals rfl
section
variable (a : XArchive) (e : XEvent) (hw : WA a) (he : EA e) (hk9 : 1 ≤ e.kind ∧ e.kind ≤ 9)
include hw he
theorem l08Do_4 (hk : e.kind = 4) : CallX Tryz.prog 157 [.c (.op (softA a)), .c (.rp 9 (encEvent e))] [some [.op (softA (doA a e).2)], none] (I (doA a e).1) := by
  have h12 := hw.f12
  have hf : (doTake a e.a).2.flying.length ≤ 1048576 := by rw [take_fly]; omega
  rw [show doA a e = doDeliver a e.a by unfold doA; rw [if_pos hk]]
  by_cases ht : (doTake a e.a).1 = 0
  · rw [dlv ht]
    refine callX_of_vc htb hm Tryz.func157 rfl rfl rfl rfl (ann := fun _ => none) (gh := fun _ => false) ?_
    repeat' ((conv => whnf); first | (guard_target = Done _; refine Done.mk ?_) | (guard_target = RetX _ _; refine RetX.mk ?_ ?_) | (guard_target = Fact _ _; refine Fact.mk fun hL => ?_; (try simp only [List.length_map, maxLen] at hL)) | (guard_target = Branch _ _ _; (first | apply Branch.dec | apply Branch.beq | apply Branch.bne | apply Branch.ndec | apply Branch.nb | apply Branch.mk) <;> intro h <;> (try simp only [List.length_map] at h) <;> (try omega) <;> (try contradiction)) | (guard_target = CallN _ 220 _ _ _ _; refine CallN.gen [true, false] _ _ _ rfl (l08Take_ok a e.a hw he.ra) rfl rfl _ rfl ?_) | (guard_target = CallN _ 221 _ _ _ _; refine CallN.gen [true, false] _ _ _ rfl (l08Drop_ok (doTake a e.a).2 e.a hf he.ra) rfl rfl _ rfl ?_) | (guard_target = Arith _ _ _; refine Arith.fit (by apply wrap_fit <;> first | omega | (simp only [List.length_map]; omega)) ?_) | (guard_target = Arith _ _ _; refine Arith.fit (by decide) ?_) | (guard_target = Index _ _ _; first  | refine Index.mk _ (idx_map (by omega)) ?_) | (guard_target = Need (_ = true) _; refine Need.mk (by first | kernel_rfl | rfl) ?_) | (guard_target = LinkV _ _ _; refine LinkV.no ?_) | (guard_target = GhO _ _ _ _; refine GhO.go ?_) | (guard_target = Need _ _; refine Need.mk (by first  | omega | (simp only [List.length_map]; omega)) ?_))
    all_goals first | rfl | exact ⟨rfl, trivial⟩ | (exfalso; omega) | (exfalso; contradiction)
  · rw [dlv_n ht]
    have hl := l08Take_ok a e.a hw he.ra
    rw [take_err ht] at hl
    refine callX_of_vc htb hm Tryz.func157 rfl rfl rfl rfl (ann := fun _ => none) (gh := fun _ => false) ?_
    repeat' ((conv => whnf); first | (guard_target = Done _; refine Done.mk ?_) | (guard_target = RetX _ _; refine RetX.mk ?_ ?_) | (guard_target = Fact _ _; refine Fact.mk fun hL => ?_; (try simp only [List.length_map, maxLen] at hL)) | (guard_target = Branch _ _ _; (first | apply Branch.dec | apply Branch.beq | apply Branch.bne | apply Branch.ndec | apply Branch.nb | apply Branch.mk) <;> intro h <;> (try simp only [List.length_map] at h) <;> (try omega) <;> (try contradiction)) | (guard_target = CallN _ 220 _ _ _ _; refine CallN.gen [true, false] _ _ _ rfl (hl) rfl rfl _ rfl ?_) | (guard_target = Arith _ _ _; refine Arith.fit (by apply wrap_fit <;> first | omega | (simp only [List.length_map]; omega)) ?_) | (guard_target = Arith _ _ _; refine Arith.fit (by decide) ?_) | (guard_target = Index _ _ _; first  | refine Index.mk _ (idx_map (by omega)) ?_) | (guard_target = Need (_ = true) _; refine Need.mk (by first | kernel_rfl | rfl) ?_) | (guard_target = LinkV _ _ _; refine LinkV.no ?_) | (guard_target = GhO _ _ _ _; refine GhO.go ?_) | (guard_target = Need _ _; refine Need.mk (by first  | omega | (simp only [List.length_map]; omega)) ?_))
    all_goals first | rfl | exact ⟨rfl, trivial⟩ | (exfalso; omega) | (exfalso; contradiction)
theorem l08Do_5 (hk : e.kind = 5) : CallX Tryz.prog 157 [.c (.op (softA a)), .c (.rp 9 (encEvent e))] [some [.op (softA (doA a e).2)], none] (I (doA a e).1) := by
  rw [show doA a e = doTake a e.a by unfold doA; rw [if_neg (by omega), if_pos hk]]
  refine callX_of_vc htb hm Tryz.func157 rfl rfl rfl rfl (ann := fun _ => none) (gh := fun _ => false) ?_
  repeat' ((conv => whnf); first | (guard_target = Done _; refine Done.mk ?_) | (guard_target = RetX _ _; refine RetX.mk ?_ ?_) | (guard_target = Fact _ _; refine Fact.mk fun hL => ?_; (try simp only [List.length_map, maxLen] at hL)) | (guard_target = Branch _ _ _; (first | apply Branch.dec | apply Branch.beq | apply Branch.bne | apply Branch.ndec | apply Branch.nb | apply Branch.mk) <;> intro h <;> (try simp only [List.length_map] at h) <;> (try omega) <;> (try contradiction)) | (guard_target = CallN _ 220 _ _ _ _; refine CallN.gen [true, false] _ _ _ rfl (l08Take_ok a e.a hw he.ra) rfl rfl _ rfl ?_) | (guard_target = Arith _ _ _; refine Arith.fit (by apply wrap_fit <;> first | omega | (simp only [List.length_map]; omega)) ?_) | (guard_target = Arith _ _ _; refine Arith.fit (by decide) ?_) | (guard_target = Index _ _ _; first  | refine Index.mk _ (idx_map (by omega)) ?_) | (guard_target = Need (_ = true) _; refine Need.mk (by first | kernel_rfl | rfl) ?_) | (guard_target = LinkV _ _ _; refine LinkV.no ?_) | (guard_target = GhO _ _ _ _; refine GhO.go ?_) | (guard_target = Need _ _; refine Need.mk (by first  | omega | (simp only [List.length_map]; omega)) ?_))
  all_goals first | rfl | exact ⟨rfl, trivial⟩ | (exfalso; omega) | (exfalso; contradiction)
theorem l08Do_6 (hk : e.kind = 6) : CallX Tryz.prog 157 [.c (.op (softA a)), .c (.rp 9 (encEvent e))] [some [.op (softA (doA a e).2)], none] (I (doA a e).1) := by
  have h12 := hw.f12
  rw [doA_drop hk]
  refine callX_of_vc htb hm Tryz.func157 rfl rfl rfl rfl (ann := fun _ => none) (gh := fun _ => false) ?_
  repeat' ((conv => whnf); first | (guard_target = Done _; refine Done.mk ?_) | (guard_target = RetX _ _; refine RetX.mk ?_ ?_) | (guard_target = Fact _ _; refine Fact.mk fun hL => ?_; (try simp only [List.length_map, maxLen] at hL)) | (guard_target = Branch _ _ _; (first | apply Branch.dec | apply Branch.beq | apply Branch.bne | apply Branch.ndec | apply Branch.nb | apply Branch.mk) <;> intro h <;> (try simp only [List.length_map] at h) <;> (try omega) <;> (try contradiction)) | (guard_target = CallN _ 221 _ _ _ _; refine CallN.gen [true, false] _ _ _ rfl (l08Drop_ok a e.a (by omega) he.ra) rfl rfl _ rfl ?_) | (guard_target = Arith _ _ _; refine Arith.fit (by apply wrap_fit <;> first | omega | (simp only [List.length_map]; omega)) ?_) | (guard_target = Arith _ _ _; refine Arith.fit (by decide) ?_) | (guard_target = Index _ _ _; first  | refine Index.mk _ (idx_map (by omega)) ?_) | (guard_target = Need (_ = true) _; refine Need.mk (by first | kernel_rfl | rfl) ?_) | (guard_target = LinkV _ _ _; refine LinkV.no ?_) | (guard_target = GhO _ _ _ _; refine GhO.go ?_) | (guard_target = Need _ _; refine Need.mk (by first  | omega | (simp only [List.length_map]; omega)) ?_))
  all_goals first | rfl | exact ⟨rfl, trivial⟩ | (exfalso; omega) | (exfalso; contradiction)
theorem l08Do_np (hk : ¬ e.kind = 4 ∧ ¬ e.kind = 5 ∧ ¬ e.kind = 6) (hp : placeB a e.a = false) : CallX Tryz.prog 157 [.c (.op (softA a)), .c (.rp 9 (encEvent e))] [some [.op (softA (doA a e).2)], none] (I (doA a e).1) := by
  rw [doA_np hk hp]
  obtain ⟨h4, h5, h6⟩ := hk
  refine callX_of_vc htb hm Tryz.func157 rfl rfl rfl rfl (ann := fun _ => none) (gh := fun _ => false) ?_
  repeat' ((conv => whnf); first | (guard_target = Done _; refine Done.mk ?_) | (guard_target = RetX _ _; refine RetX.mk ?_ ?_) | (guard_target = Fact _ _; refine Fact.mk fun hL => ?_; (try simp only [List.length_map, maxLen] at hL)) | (guard_target = Branch _ _ _; (first | apply Branch.dec | apply Branch.beq | apply Branch.bne | apply Branch.ndec | apply Branch.nb | apply Branch.mk) <;> intro h <;> (try simp only [List.length_map] at h) <;> (try omega) <;> (try contradiction)) | (guard_target = CallN _ 217 _ _ _ _; refine CallN.gen [true, false] _ _ _ rfl (l08Put_np a e hw he hp) rfl rfl _ rfl ?_) | (guard_target = CallN _ 218 _ _ _ _; refine CallN.gen [true, false] _ _ _ rfl (l08Revoke_np a e hw he hp) rfl rfl _ rfl ?_) | (guard_target = CallN _ 219 _ _ _ _; refine CallN.gen [true, false] _ _ _ rfl (l08Send_np a e hw he hp) rfl rfl _ rfl ?_) | (guard_target = CallN _ 222 _ _ _ _; refine CallN.gen [true, false] _ _ _ rfl (l08Switch_np a e hw he hp) rfl rfl _ rfl ?_) | (guard_target = Arith _ _ _; refine Arith.fit (by apply wrap_fit <;> first | omega | (simp only [List.length_map]; omega)) ?_) | (guard_target = Arith _ _ _; refine Arith.fit (by decide) ?_) | (guard_target = Index _ _ _; first  | refine Index.mk _ (idx_map (by omega)) ?_) | (guard_target = Need (_ = true) _; refine Need.mk (by first | kernel_rfl | rfl) ?_) | (guard_target = LinkV _ _ _; refine LinkV.no ?_) | (guard_target = GhO _ _ _ _; refine GhO.go ?_) | (guard_target = Need _ _; refine Need.mk (by first  | omega | (simp only [List.length_map]; omega)) ?_))
  all_goals first | rfl | exact ⟨rfl, trivial⟩ | (exfalso; omega) | (exfalso; contradiction)
include hk9 in
theorem l08Do_p (hk : ¬ e.kind = 4 ∧ ¬ e.kind = 5 ∧ ¬ e.kind = 6) (hp : placeB a e.a = true) : CallX Tryz.prog 157 [.c (.op (softA a)), .c (.rp 9 (encEvent e))] [some [.op (softA (doA a e).2)], none] (I (doA a e).1) := by
  rw [doA_p hk hp]
  obtain ⟨h4, h5, h6⟩ := hk
  by_cases h1 : e.kind = 1
  · rw [if_pos h1]
    refine callX_of_vc htb hm Tryz.func157 rfl rfl rfl rfl (ann := fun _ => none) (gh := fun _ => false) ?_
    repeat' ((conv => whnf); first | (guard_target = Done _; refine Done.mk ?_) | (guard_target = RetX _ _; refine RetX.mk ?_ ?_) | (guard_target = Fact _ _; refine Fact.mk fun hL => ?_; (try simp only [List.length_map, maxLen] at hL)) | (guard_target = Branch _ _ _; (first | apply Branch.dec | apply Branch.beq | apply Branch.bne | apply Branch.ndec | apply Branch.nb | apply Branch.mk) <;> intro h <;> (try simp only [List.length_map] at h) <;> (try omega) <;> (try contradiction)) | (guard_target = CallN _ 217 _ _ _ _; refine CallN.gen [true, false] _ _ _ rfl (l08Put_ok a e hw he hp) rfl rfl _ rfl ?_) | (guard_target = Arith _ _ _; refine Arith.fit (by apply wrap_fit <;> first | omega | (simp only [List.length_map]; omega)) ?_) | (guard_target = Arith _ _ _; refine Arith.fit (by decide) ?_) | (guard_target = Index _ _ _; first  | refine Index.mk _ (idx_map (by omega)) ?_) | (guard_target = Need (_ = true) _; refine Need.mk (by first | kernel_rfl | rfl) ?_) | (guard_target = LinkV _ _ _; refine LinkV.no ?_) | (guard_target = GhO _ _ _ _; refine GhO.go ?_) | (guard_target = Need _ _; refine Need.mk (by first  | omega | (simp only [List.length_map]; omega)) ?_))
    all_goals first | rfl | exact ⟨rfl, trivial⟩ | (exfalso; omega) | (exfalso; contradiction)
  rw [if_neg h1]
  by_cases h2 : e.kind = 2
  · rw [if_pos h2]
    refine callX_of_vc htb hm Tryz.func157 rfl rfl rfl rfl (ann := fun _ => none) (gh := fun _ => false) ?_
    repeat' ((conv => whnf); first | (guard_target = Done _; refine Done.mk ?_) | (guard_target = RetX _ _; refine RetX.mk ?_ ?_) | (guard_target = Fact _ _; refine Fact.mk fun hL => ?_; (try simp only [List.length_map, maxLen] at hL)) | (guard_target = Branch _ _ _; (first | apply Branch.dec | apply Branch.beq | apply Branch.bne | apply Branch.ndec | apply Branch.nb | apply Branch.mk) <;> intro h <;> (try simp only [List.length_map] at h) <;> (try omega) <;> (try contradiction)) | (guard_target = CallN _ 218 _ _ _ _; refine CallN.gen [true, false] _ _ _ rfl (l08Revoke_ok a e hw he hp) rfl rfl _ rfl ?_) | (guard_target = Arith _ _ _; refine Arith.fit (by apply wrap_fit <;> first | omega | (simp only [List.length_map]; omega)) ?_) | (guard_target = Arith _ _ _; refine Arith.fit (by decide) ?_) | (guard_target = Index _ _ _; first  | refine Index.mk _ (idx_map (by omega)) ?_) | (guard_target = Need (_ = true) _; refine Need.mk (by first | kernel_rfl | rfl) ?_) | (guard_target = LinkV _ _ _; refine LinkV.no ?_) | (guard_target = GhO _ _ _ _; refine GhO.go ?_) | (guard_target = Need _ _; refine Need.mk (by first  | omega | (simp only [List.length_map]; omega)) ?_))
    all_goals first | rfl | exact ⟨rfl, trivial⟩ | (exfalso; omega) | (exfalso; contradiction)
  rw [if_neg h2]
  by_cases h3 : e.kind = 3
  · rw [if_pos h3]
    refine callX_of_vc htb hm Tryz.func157 rfl rfl rfl rfl (ann := fun _ => none) (gh := fun _ => false) ?_
    repeat' ((conv => whnf); first | (guard_target = Done _; refine Done.mk ?_) | (guard_target = RetX _ _; refine RetX.mk ?_ ?_) | (guard_target = Fact _ _; refine Fact.mk fun hL => ?_; (try simp only [List.length_map, maxLen] at hL)) | (guard_target = Branch _ _ _; (first | apply Branch.dec | apply Branch.beq | apply Branch.bne | apply Branch.ndec | apply Branch.nb | apply Branch.mk) <;> intro h <;> (try simp only [List.length_map] at h) <;> (try omega) <;> (try contradiction)) | (guard_target = CallN _ 219 _ _ _ _; refine CallN.gen [true, false] _ _ _ rfl (l08Send_ok a e hw he hp) rfl rfl _ rfl ?_) | (guard_target = Arith _ _ _; refine Arith.fit (by apply wrap_fit <;> first | omega | (simp only [List.length_map]; omega)) ?_) | (guard_target = Arith _ _ _; refine Arith.fit (by decide) ?_) | (guard_target = Index _ _ _; first  | refine Index.mk _ (idx_map (by omega)) ?_) | (guard_target = Need (_ = true) _; refine Need.mk (by first | kernel_rfl | rfl) ?_) | (guard_target = LinkV _ _ _; refine LinkV.no ?_) | (guard_target = GhO _ _ _ _; refine GhO.go ?_) | (guard_target = Need _ _; refine Need.mk (by first  | omega | (simp only [List.length_map]; omega)) ?_))
    all_goals first | rfl | exact ⟨rfl, trivial⟩ | (exfalso; omega) | (exfalso; contradiction)
  rw [if_neg h3]
  refine callX_of_vc htb hm Tryz.func157 rfl rfl rfl rfl (ann := fun _ => none) (gh := fun _ => false) ?_
  repeat' ((conv => whnf); first | (guard_target = Done _; refine Done.mk ?_) | (guard_target = RetX _ _; refine RetX.mk ?_ ?_) | (guard_target = Fact _ _; refine Fact.mk fun hL => ?_; (try simp only [List.length_map, maxLen] at hL)) | (guard_target = Branch _ _ _; (first | apply Branch.dec | apply Branch.beq | apply Branch.bne | apply Branch.ndec | apply Branch.nb | apply Branch.mk) <;> intro h <;> (try simp only [List.length_map] at h) <;> (try omega) <;> (try contradiction)) | (guard_target = CallN _ 222 _ _ _ _; refine CallN.gen [true, false] _ _ _ rfl (l08Switch_ok a e hw he hp (by omega)) rfl rfl _ rfl ?_) | (guard_target = Arith _ _ _; refine Arith.fit (by apply wrap_fit <;> first | omega | (simp only [List.length_map]; omega)) ?_) | (guard_target = Arith _ _ _; refine Arith.fit (by decide) ?_) | (guard_target = Index _ _ _; first  | refine Index.mk _ (idx_map (by omega)) ?_) | (guard_target = Need (_ = true) _; refine Need.mk (by first | kernel_rfl | rfl) ?_) | (guard_target = LinkV _ _ _; refine LinkV.no ?_) | (guard_target = GhO _ _ _ _; refine GhO.go ?_) | (guard_target = Need _ _; refine Need.mk (by first  | omega | (simp only [List.length_map]; omega)) ?_))
  all_goals first | rfl | exact ⟨rfl, trivial⟩ | (exfalso; omega) | (exfalso; contradiction)
include hk9 in
theorem l08Do_ok : CallX Tryz.prog 157 [.c (.op (softA a)), .c (.rp 9 (encEvent e))] [some [.op (softA (doA a e).2)], none] (I (doA a e).1) := by
  by_cases h4 : e.kind = 4
  · exact l08Do_4 a e hw he h4
  by_cases h5 : e.kind = 5
  · exact l08Do_5 a e hw he h5
  by_cases h6 : e.kind = 6
  · exact l08Do_6 a e hw he h6
  cases hp : placeB a e.a with
  | false => exact l08Do_np a e hw he ⟨h4, h5, h6⟩ hp
  | true => exact l08Do_p a e hw he hk9 ⟨h4, h5, h6⟩ hp
end
end Go.Proofs.YthgajpkahkhlpaaGreat
