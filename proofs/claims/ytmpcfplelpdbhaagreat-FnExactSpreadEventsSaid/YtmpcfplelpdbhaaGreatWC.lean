/- Contracts of the program's event, two cells more behind the archive. Conditions: the archive's shape, the event's. -/
import Derived.Test.YtmpcfplelpdbhaaGreatWA
import Derived.Test.YtmpcfplelpdbhaaGreatZT
namespace Go.Proofs.YtmpcfplelpdbhaaGreat
open Go Go.KA Go.Proofs
set_option maxHeartbeats 16000000
set_option maxRecDepth 100000
section
variable (L : List (List CV)) (bo : Bool) (hv : Value)
variable (a : XArchive) (e : XEvent) (hw : WA a) (he : EA e)
include hw he
theorem happen_dcX (hk : e.kind = 4 ∨ e.kind = 5) : CallX Tryz.prog 136 [.c (.op (softX L bo hv (a))), .m ((owsEv e).map .c)] [some [.op (softX L bo hv ((doDC a e).2))], some (owsEv e)] (I (doDC a e).1) := by
  refine callX_of_vc htb hm Tryz.func136 rfl rfl rfl rfl (ann := fun _ => none) (gh := fun _ => false) ?_
  repeat' ((conv => whnf); first | (guard_target = Done _; refine Done.mk ?_) | (guard_target = RetX _ _; refine RetX.mk ?_ ?_) | (guard_target = Fact _ _; refine Fact.mk fun hL => ?_; (try simp only [List.length_map, maxLen] at hL)) | (guard_target = Branch _ _ _; (first | refine Branch.dec ?_ ?_ | refine Branch.beq ?_ ?_ | refine Branch.bne ?_ ?_ | refine Branch.ndec ?_ ?_ | refine Branch.nb ?_ ?_ | refine Branch.mk ?_ ?_) <;> intro h <;> (try simp only [List.length_map] at h) <;> (try omega) <;> (try contradiction)) | (guard_target = CallN _ 193 _ _ _ _; refine CallN.gen [true, true] _ _ _ rfl (deliver_okX L bo hv a e hw he) rfl rfl _ rfl ?_) | (guard_target = Arith _ _ _; refine Arith.fit (wrap_fit (by first | omega | (simp only [List.length_map]; omega)) (by first | omega | (simp only [List.length_map]; omega))) ?_) | (guard_target = Arith _ _ _; refine Arith.fit (by decide) ?_) | (guard_target = Index _ _ _; first  | refine Index.mk _ (idx_map (by omega)) ?_) | (guard_target = Need (_ = true) _; refine Need.mk (by first | kernel_rfl | rfl) ?_) | (guard_target = LinkV _ _ _; first  | refine LinkV.no ?_) | (guard_target = GhO _ _ _ _; refine GhO.go ?_) | (guard_target = Need _ _; refine Need.mk (by first  | omega | (simp only [List.length_map]; omega)) ?_))
  all_goals first | rfl | exact ⟨rfl, rfl, trivial⟩ | (exfalso; omega)
theorem happen_dropX (hk : e.kind = 6) : CallX Tryz.prog 136 [.c (.op (softX L bo hv (a))), .m ((owsEv e).map .c)] [some [.op (softX L bo hv ((doDrop a e.a).2))], some (owsEv e)] (I (doDrop a e.a).1) := by
  have h12 := hw.f12
  have hz := he.ra
  by_cases hlen : e.a ≥ (a.flying.length : Int)
  · refine callX_of_vc htb hm Tryz.func136 rfl rfl rfl rfl (ann := fun _ => none) (gh := fun _ => false) ?_
    repeat' ((conv => whnf); first | (guard_target =~ RetX (I 2 = _) _; rw [drp_2 (by omega)]; exact RetX.mk rfl ⟨rfl, rfl, trivial⟩) | (guard_target = Done _; refine Done.mk ?_) | (guard_target = RetX _ _; refine RetX.mk ?_ ?_) | (guard_target = Fact _ _; refine Fact.mk fun hL => ?_; (try simp only [List.length_map, maxLen] at hL)) | (guard_target = Branch _ _ _; (first | refine Branch.dec ?_ ?_ | refine Branch.beq ?_ ?_ | refine Branch.bne ?_ ?_ | refine Branch.ndec ?_ ?_ | refine Branch.nb ?_ ?_ | refine Branch.mk ?_ ?_) <;> intro h <;> (try simp only [List.length_map] at h) <;> (try omega) <;> (try contradiction)) | (guard_target = Arith _ _ _; refine Arith.fit (wrap_fit (by first | omega | (simp only [List.length_map]; omega)) (by first | omega | (simp only [List.length_map]; omega))) ?_) | (guard_target = Arith _ _ _; refine Arith.fit (by decide) ?_) | (guard_target = Index _ _ _; first  | refine Index.mk _ (idx_map (by omega)) ?_) | (guard_target = Need (_ = true) _; refine Need.mk (by first | kernel_rfl | rfl) ?_) | (guard_target = LinkV _ _ _; first  | refine LinkV.no ?_) | (guard_target = GhO _ _ _ _; refine GhO.go ?_) | (guard_target = Need _ _; refine Need.mk (by first  | omega | (simp only [List.length_map]; omega)) ?_))
    all_goals first | rfl | exact ⟨rfl, rfl, trivial⟩ | (exfalso; omega)
  · refine callX_of_vc htb hm Tryz.func136 rfl rfl rfl rfl (ann := fun _ => none) (gh := fun _ => false) ?_
    repeat' ((conv => whnf); first | (guard_target =~ RetX (I 0 = _) _; rw [drp_0 (by omega)]; exact RetX.mk rfl ⟨rfl, rfl, trivial⟩) | (guard_target = Done _; refine Done.mk ?_) | (guard_target = RetX _ _; refine RetX.mk ?_ ?_) | (guard_target = Fact _ _; refine Fact.mk fun hL => ?_; (try simp only [List.length_map, maxLen] at hL)) | (guard_target = Branch _ _ _; (first | refine Branch.dec ?_ ?_ | refine Branch.beq ?_ ?_ | refine Branch.bne ?_ ?_ | refine Branch.ndec ?_ ?_ | refine Branch.nb ?_ ?_ | refine Branch.mk ?_ ?_) <;> intro h <;> (try simp only [List.length_map] at h) <;> (try omega) <;> (try contradiction)) | (guard_target = CallN _ 194 _ _ _ _; refine CallN.gen [true, false, false] _ _ _ rfl (Delete_int a.flying e.a hz.1 (by omega)) rfl rfl _ rfl ?_) | (guard_target = Arith _ _ _; refine Arith.fit (wrap_fit (by first | omega | (simp only [List.length_map]; omega)) (by first | omega | (simp only [List.length_map]; omega))) ?_) | (guard_target = Arith _ _ _; refine Arith.fit (by decide) ?_) | (guard_target = Index _ _ _; first  | refine Index.mk _ (idx_map (by omega)) ?_) | (guard_target = Need (_ = true) _; refine Need.mk (by first | kernel_rfl | rfl) ?_) | (guard_target = LinkV _ _ _; first  | refine LinkV.no ?_) | (guard_target = GhO _ _ _ _; refine GhO.go ?_) | (guard_target = Need _ _; refine Need.mk (by first  | omega | (simp only [List.length_map]; omega)) ?_))
    all_goals first | rfl | exact ⟨rfl, rfl, trivial⟩ | (exfalso; omega)
theorem happen_npX (hk : ¬ e.kind = 4 ∧ ¬ e.kind = 5 ∧ ¬ e.kind = 6) (hp : placeB a e.a = false) : CallX Tryz.prog 136 [.c (.op (softX L bo hv (a))), .m ((owsEv e).map .c)] [some [.op (softX L bo hv (a))], some (owsEv e)] (I 2) := by
  have _ := hw
  have _ := he
  have hpl := isPlace_soft a e.a
  rw [hp] at hpl
  refine callX_of_vc htb hm Tryz.func136 rfl rfl rfl rfl (ann := fun _ => none) (gh := fun _ => false) ?_
  repeat' ((conv => whnf); first | (guard_target = Done _; refine Done.mk ?_) | (guard_target = RetX _ _; refine RetX.mk ?_ ?_) | (guard_target = Fact _ _; refine Fact.mk fun hL => ?_; (try simp only [List.length_map, maxLen] at hL)) | (guard_target = Branch _ _ _; (first | refine Branch.dec ?_ ?_ | refine Branch.beq ?_ ?_ | refine Branch.bne ?_ ?_ | refine Branch.ndec ?_ ?_ | refine Branch.nb ?_ ?_ | refine Branch.mk ?_ ?_) <;> intro h <;> (try simp only [] at h) <;> (try omega) <;> (try contradiction)) | (guard_target = CallN _ 195 _ _ _ _; refine CallN.pure _ _ rfl (hpl) rfl _ rfl ?_) | (guard_target = Arith _ _ _; refine Arith.fit (wrap_fit (by first | omega | (simp only [List.length_map]; omega)) (by first | omega | (simp only [List.length_map]; omega))) ?_) | (guard_target = Arith _ _ _; refine Arith.fit (by decide) ?_) | (guard_target = Index _ _ _; first  | refine Index.mk _ (idx_map (by omega)) ?_) | (guard_target = Need (_ = true) _; refine Need.mk (by first | kernel_rfl | rfl) ?_) | (guard_target = LinkV _ _ _; first  | refine LinkV.no ?_) | (guard_target = GhO _ _ _ _; refine GhO.go ?_) | (guard_target = Need _ _; refine Need.mk (by first  | omega | (simp only [List.length_map]; omega)) ?_))
  all_goals first | rfl | exact ⟨rfl, rfl, trivial⟩ | (exfalso; omega)
section
variable (hp : placeB a e.a = true)
include hp
theorem happen_sendX (hk : e.kind = 3) : CallX Tryz.prog 136 [.c (.op (softX L bo hv (a))), .m ((owsEv e).map .c)] [some [.op (softX L bo hv ((doSend a e).2))], some (owsEv e)] (I (doSend a e).1) := by
  have hlt := rng_le hp
  have h5 := hw.n5
  have hpl := isPlace_soft a e.a
  rw [hp] at hpl
  refine callX_of_vc htb hm Tryz.func136 rfl rfl rfl rfl (ann := fun _ => none) (gh := fun _ => false) ?_
  repeat' ((conv => whnf); first | (guard_target = Done _; refine Done.mk ?_) | (guard_target = RetX _ _; refine RetX.mk ?_ ?_) | (guard_target = Fact _ _; refine Fact.mk fun hL => ?_; (try simp only [List.length_map, maxLen] at hL)) | (guard_target = Branch _ _ _; (first | refine Branch.dec ?_ ?_ | refine Branch.beq ?_ ?_ | refine Branch.bne ?_ ?_ | refine Branch.ndec ?_ ?_ | refine Branch.nb ?_ ?_ | refine Branch.mk ?_ ?_) <;> intro h <;> (try simp only [] at h) <;> (try omega) <;> (try contradiction)) | (guard_target = CallN _ 195 _ _ _ _; refine CallN.pure _ _ rfl (hpl) rfl _ rfl ?_) | (guard_target = CallN _ 198 _ _ _ _; refine CallN.gen [true, true] _ _ _ rfl (send_okX L bo hv a e hw he (by omega)) rfl rfl _ rfl ?_) | (guard_target = Arith _ _ _; refine Arith.fit (wrap_fit (by first | omega | (simp only [List.length_map]; omega)) (by first | omega | (simp only [List.length_map]; omega))) ?_) | (guard_target = Arith _ _ _; refine Arith.fit (by decide) ?_) | (guard_target = Index _ _ _; first  | refine Index.mk _ (idx_map (by omega)) ?_) | (guard_target = Need (_ = true) _; refine Need.mk (by first | kernel_rfl | rfl) ?_) | (guard_target = LinkV _ _ _; first  | refine LinkV.no ?_) | (guard_target = GhO _ _ _ _; refine GhO.go ?_) | (guard_target = Need _ _; refine Need.mk (by first | ((simp only [List.length_map]; omega)) | omega | (simp only [List.length_map]; omega)) ?_))
  all_goals first | rfl | exact ⟨rfl, rfl, trivial⟩ | (exfalso; omega)
theorem happen_swX (hk : 7 ≤ e.kind ∧ e.kind ≤ 9) : CallX Tryz.prog 136 [.c (.op (softX L bo hv (a))), .m ((owsEv e).map .c)] [some [.op (softX L bo hv ((doSave a e).2))], some (owsEv e)] (I (doSave a e).1) := by
  have _ := he
  have hlt := rng_le hp
  have h5 := hw.n5
  have hplt : e.a.toNat < a.servers.length := by omega
  have hsv := hw.sv _ hplt
  have hpl := isPlace_soft a e.a
  rw [hp] at hpl
  by_cases hs : (a.servers.getD e.a.toNat s00).saved = ((a.servers.getD e.a.toNat s00).notes.length : Int)
  · refine callX_of_vcg htb hm Tryz.func136 rfl rfl rfl rfl (ann := fun _ => none) (gh := fun reg_ => match reg_ with | 27 => true | _ => false) ?_
    repeat' ((conv => whnf); first | (guard_target =~ RetX (I 4 = _) _; rw [sv_4 (by assumption)]; exact RetX.mk rfl ⟨rfl, rfl, trivial⟩) | (guard_target =~ RetX (I 0 = _) _; rw [sv_7 (by assumption) (by assumption)]; exact RetX.mk rfl ⟨congrArg (FAX L bo hv a) (Eq.trans (b := (a.servers.map softS).set e.a.toNat (softS ⟨(sA a e.a).up, (sA a e.a).notes, ((sA a e.a).notes.length : Nat)⟩)) (by (repeat rw [List.set_set]); (try simp only [List.length_map]); rfl) (set_upd1 rfl)), rfl, trivial⟩) | (guard_target =~ RetX (I 0 = _) _; rw [sv_9 (by assumption) (by assumption) (by assumption)]; exact RetX.mk rfl ⟨congrArg (FAX L bo hv a) (Eq.trans (b := (a.servers.map softS).set e.a.toNat (softS ⟨true, (sA a e.a).notes, (sA a e.a).saved⟩)) (by (repeat rw [List.set_set]); rfl) (set_upd1 rfl)), rfl, trivial⟩) | (guard_target =~ RetX (I 0 = _) _; rw [sv_8 (by assumption) (by assumption)]; exact RetX.mk rfl ⟨congrArg (FAX L bo hv a) (Eq.trans (b := (a.servers.map softS).set e.a.toNat (softS ⟨false, (sA a e.a).notes.take (sA a e.a).saved.toNat, (sA a e.a).saved⟩)) (by (repeat rw [List.set_set]); rw [List.take_of_length_le (l := (sA a e.a).notes) (i := (sA a e.a).saved.toNat) (by show (a.servers.getD e.a.toNat s00).notes.length ≤ (a.servers.getD e.a.toNat s00).saved.toNat; omega)]; rfl) (set_upd1 rfl)), rfl, trivial⟩) | (guard_target = Done _; refine Done.mk ?_) | (guard_target = RetX _ _; refine RetX.mk ?_ ?_) | (guard_target = Fact _ _; refine Fact.mk fun hL => ?_; (try simp only [List.length_map, maxLen] at hL)) | (guard_target = Branch _ _ _; (first | refine Branch.dec ?_ ?_ | refine Branch.beq ?_ ?_ | refine Branch.bne ?_ ?_ | refine Branch.ndec ?_ ?_ | refine Branch.nb ?_ ?_ | refine Branch.mk ?_ ?_) <;> intro h <;> (try simp only [] at h) <;> (try omega) <;> (try contradiction)) | (guard_target = CallN _ 195 _ _ _ _; refine CallN.pure _ _ rfl (hpl) rfl _ rfl ?_) | (guard_target = ∀ _ : Value, _; intro v) | (guard_target = Gh _ _ _ _ _; refine Gh.closes 0 e.a.toNat 1 8 rfl (set_get (by simp only [List.length_set, List.length_map]; exact hplt)) rfl rfl rfl (Gh.go ?_)) | (guard_target = Gh _ _ _ _ _; refine Gh.go ?_) | (guard_target = Arith _ _ _; refine Arith.fit (wrap_fit (by first | omega | (simp only [List.length_map]; omega)) (by first | omega | (simp only [List.length_map]; omega))) ?_) | (guard_target = Arith _ _ _; refine Arith.fit (by decide) ?_) | (guard_target = Index _ _ _; first | refine Index.mk _ (idx_getD (d := s00) hplt) ?_ | refine Index.mk _ (set_get (by rw [List.length_map]; exact hplt)) ?_ | refine Index.mk _ (idx_map (by omega)) ?_) | (guard_target = Need (_ = true) _; refine Need.mk (by first | kernel_rfl | rfl) ?_) | (guard_target = LinkV _ _ _; first  | refine LinkV.no ?_) | (guard_target = Need _ _; refine Need.mk (by first | ((simp only [List.length_map]; omega)) | omega | (simp only [List.length_map]; omega)) ?_))
    all_goals (conv => whnf)
    all_goals try refine GhO.opens 0 e.a.toNat 1 rfl (idx_getD (d := s00) hplt) rfl fun v => GhO.go ?_
    repeat' ((conv => whnf); first | (guard_target =~ RetX (I 4 = _) _; rw [sv_4 (by assumption)]; exact RetX.mk rfl ⟨rfl, rfl, trivial⟩) | (guard_target =~ RetX (I 0 = _) _; rw [sv_7 (by assumption) (by assumption)]; exact RetX.mk rfl ⟨congrArg (FAX L bo hv a) (Eq.trans (b := (a.servers.map softS).set e.a.toNat (softS ⟨(sA a e.a).up, (sA a e.a).notes, ((sA a e.a).notes.length : Nat)⟩)) (by (repeat rw [List.set_set]); (try simp only [List.length_map]); rfl) (set_upd1 rfl)), rfl, trivial⟩) | (guard_target =~ RetX (I 0 = _) _; rw [sv_9 (by assumption) (by assumption) (by assumption)]; exact RetX.mk rfl ⟨congrArg (FAX L bo hv a) (Eq.trans (b := (a.servers.map softS).set e.a.toNat (softS ⟨true, (sA a e.a).notes, (sA a e.a).saved⟩)) (by (repeat rw [List.set_set]); rfl) (set_upd1 rfl)), rfl, trivial⟩) | (guard_target =~ RetX (I 0 = _) _; rw [sv_8 (by assumption) (by assumption)]; exact RetX.mk rfl ⟨congrArg (FAX L bo hv a) (Eq.trans (b := (a.servers.map softS).set e.a.toNat (softS ⟨false, (sA a e.a).notes.take (sA a e.a).saved.toNat, (sA a e.a).saved⟩)) (by (repeat rw [List.set_set]); rw [List.take_of_length_le (l := (sA a e.a).notes) (i := (sA a e.a).saved.toNat) (by show (a.servers.getD e.a.toNat s00).notes.length ≤ (a.servers.getD e.a.toNat s00).saved.toNat; omega)]; rfl) (set_upd1 rfl)), rfl, trivial⟩) | (guard_target = Done _; refine Done.mk ?_) | (guard_target = RetX _ _; refine RetX.mk ?_ ?_) | (guard_target = Fact _ _; refine Fact.mk fun hL => ?_; (try simp only [List.length_map, maxLen] at hL)) | (guard_target = Branch _ _ _; (first | refine Branch.dec ?_ ?_ | refine Branch.beq ?_ ?_ | refine Branch.bne ?_ ?_ | refine Branch.ndec ?_ ?_ | refine Branch.nb ?_ ?_ | refine Branch.mk ?_ ?_) <;> intro h <;> (try simp only [List.length_map] at h) <;> (try omega) <;> (try contradiction)) | (guard_target = SliceW _ _ _ _ _ _; refine SliceW.all (by rw [List.length_map]; exact ⟨rfl, hs⟩) ?_) | (guard_target = Gh _ _ _ _ _; refine Gh.go ?_) | (guard_target = Arith _ _ _; refine Arith.fit (wrap_fit (by first | omega | (simp only [List.length_map]; omega)) (by first | omega | (simp only [List.length_map]; omega))) ?_) | (guard_target = Arith _ _ _; refine Arith.fit (by decide) ?_) | (guard_target = Index _ _ _; first | refine Index.mk _ (set_get (by simp only [List.length_set, List.length_map]; exact hplt)) ?_ | refine Index.mk _ (idx_map (by omega)) ?_) | (guard_target = Need (_ = true) _; refine Need.mk (by first | kernel_rfl | rfl) ?_) | (guard_target = LinkV _ _ _; first | refine LinkV.row 8 rfl ?_ | refine LinkV.orow 8 rfl ?_ | refine LinkV.no ?_) | (guard_target = GhO _ _ _ _; refine GhO.go ?_) | (guard_target = Need _ _; refine Need.mk (by first | ((simp only [List.length_set, List.length_map]; omega)) | omega | (simp only [List.length_map]; omega)) ?_))
    all_goals (try (conv => whnf))
  · refine callX_of_vcg htb hm Tryz.func136 rfl rfl rfl rfl (ann := fun _ => none) (gh := fun reg_ => match reg_ with | 27 => true | _ => false) ?_
    repeat' ((conv => whnf); first | (guard_target =~ RetX (I 4 = _) _; rw [sv_4 (by assumption)]; exact RetX.mk rfl ⟨rfl, rfl, trivial⟩) | (guard_target =~ RetX (I 0 = _) _; rw [sv_7 (by assumption) (by assumption)]; exact RetX.mk rfl ⟨congrArg (FAX L bo hv a) (Eq.trans (b := (a.servers.map softS).set e.a.toNat (softS ⟨(sA a e.a).up, (sA a e.a).notes, ((sA a e.a).notes.length : Nat)⟩)) (by (repeat rw [List.set_set]); (try simp only [List.length_map]); rfl) (set_upd1 rfl)), rfl, trivial⟩) | (guard_target =~ RetX (I 0 = _) _; rw [sv_9 (by assumption) (by assumption) (by assumption)]; exact RetX.mk rfl ⟨congrArg (FAX L bo hv a) (Eq.trans (b := (a.servers.map softS).set e.a.toNat (softS ⟨true, (sA a e.a).notes, (sA a e.a).saved⟩)) (by (repeat rw [List.set_set]); rfl) (set_upd1 rfl)), rfl, trivial⟩) | (guard_target =~ RetX (I 0 = _) _; rw [sv_8 (by assumption) (by assumption)]; exact RetX.mk rfl ⟨congrArg (FAX L bo hv a) (Eq.trans (b := (a.servers.map softS).set e.a.toNat (softS ⟨false, (sA a e.a).notes.take (sA a e.a).saved.toNat, (sA a e.a).saved⟩)) (by (repeat rw [List.set_set]); exact congrArg (fun R => (a.servers.map softS).set e.a.toNat [CV.val (.bool false), CV.ows 136 7 R, J (sA a e.a).saved]) tk_map) (set_upd1 rfl)), rfl, trivial⟩) | (guard_target = Done _; refine Done.mk ?_) | (guard_target = RetX _ _; refine RetX.mk ?_ ?_) | (guard_target = Fact _ _; refine Fact.mk fun hL => ?_; (try simp only [List.length_map, maxLen] at hL)) | (guard_target = Branch _ _ _; (first | refine Branch.dec ?_ ?_ | refine Branch.beq ?_ ?_ | refine Branch.bne ?_ ?_ | refine Branch.ndec ?_ ?_ | refine Branch.nb ?_ ?_ | refine Branch.mk ?_ ?_) <;> intro h <;> (try simp only [] at h) <;> (try omega) <;> (try contradiction)) | (guard_target = CallN _ 195 _ _ _ _; refine CallN.pure _ _ rfl (hpl) rfl _ rfl ?_) | (guard_target = ∀ _ : Value, _; intro v) | (guard_target = Gh _ _ _ _ _; refine Gh.closes 0 e.a.toNat 1 8 rfl (set_get (by simp only [List.length_set, List.length_map]; exact hplt)) rfl rfl rfl (Gh.go ?_)) | (guard_target = Gh _ _ _ _ _; refine Gh.go ?_) | (guard_target = Arith _ _ _; refine Arith.fit (wrap_fit (by first | omega | (simp only [List.length_map]; omega)) (by first | omega | (simp only [List.length_map]; omega))) ?_) | (guard_target = Arith _ _ _; refine Arith.fit (by decide) ?_) | (guard_target = Index _ _ _; first | refine Index.mk _ (idx_getD (d := s00) hplt) ?_ | refine Index.mk _ (set_get (by rw [List.length_map]; exact hplt)) ?_ | refine Index.mk _ (idx_map (by omega)) ?_) | (guard_target = Need (_ = true) _; refine Need.mk (by first | kernel_rfl | rfl) ?_) | (guard_target = LinkV _ _ _; first  | refine LinkV.no ?_) | (guard_target = Need _ _; refine Need.mk (by first | ((simp only [List.length_map]; omega)) | omega | (simp only [List.length_map]; omega)) ?_))
    all_goals (conv => whnf)
    all_goals try refine GhO.opens 0 e.a.toNat 1 rfl (idx_getD (d := s00) hplt) rfl fun v => GhO.go ?_
    repeat' ((conv => whnf); first | (guard_target =~ RetX (I 4 = _) _; rw [sv_4 (by assumption)]; exact RetX.mk rfl ⟨rfl, rfl, trivial⟩) | (guard_target =~ RetX (I 0 = _) _; rw [sv_7 (by assumption) (by assumption)]; exact RetX.mk rfl ⟨congrArg (FAX L bo hv a) (Eq.trans (b := (a.servers.map softS).set e.a.toNat (softS ⟨(sA a e.a).up, (sA a e.a).notes, ((sA a e.a).notes.length : Nat)⟩)) (by (repeat rw [List.set_set]); (try simp only [List.length_map]); rfl) (set_upd1 rfl)), rfl, trivial⟩) | (guard_target =~ RetX (I 0 = _) _; rw [sv_9 (by assumption) (by assumption) (by assumption)]; exact RetX.mk rfl ⟨congrArg (FAX L bo hv a) (Eq.trans (b := (a.servers.map softS).set e.a.toNat (softS ⟨true, (sA a e.a).notes, (sA a e.a).saved⟩)) (by (repeat rw [List.set_set]); rfl) (set_upd1 rfl)), rfl, trivial⟩) | (guard_target =~ RetX (I 0 = _) _; rw [sv_8 (by assumption) (by assumption)]; exact RetX.mk rfl ⟨congrArg (FAX L bo hv a) (Eq.trans (b := (a.servers.map softS).set e.a.toNat (softS ⟨false, (sA a e.a).notes.take (sA a e.a).saved.toNat, (sA a e.a).saved⟩)) (by (repeat rw [List.set_set]); exact congrArg (fun R => (a.servers.map softS).set e.a.toNat [CV.val (.bool false), CV.ows 136 7 R, J (sA a e.a).saved]) tk_map) (set_upd1 rfl)), rfl, trivial⟩) | (guard_target = Done _; refine Done.mk ?_) | (guard_target = RetX _ _; refine RetX.mk ?_ ?_) | (guard_target = Fact _ _; refine Fact.mk fun hL => ?_; (try simp only [List.length_map, maxLen] at hL)) | (guard_target = Branch _ _ _; (first | refine Branch.dec ?_ ?_ | refine Branch.beq ?_ ?_ | refine Branch.bne ?_ ?_ | refine Branch.ndec ?_ ?_ | refine Branch.nb ?_ ?_ | refine Branch.mk ?_ ?_) <;> intro h <;> (try simp only [List.length_map] at h) <;> (try omega) <;> (try contradiction)) | (guard_target = SliceW _ _ _ _ _ _; refine SliceW.some (by rw [List.length_map]; omega) ?_) | (guard_target = Gh _ _ _ _ _; refine Gh.go ?_) | (guard_target = Arith _ _ _; refine Arith.fit (wrap_fit (by first | omega | (simp only [List.length_map]; omega)) (by first | omega | (simp only [List.length_map]; omega))) ?_) | (guard_target = Arith _ _ _; refine Arith.fit (by decide) ?_) | (guard_target = Index _ _ _; first | refine Index.mk _ (set_get (by simp only [List.length_set, List.length_map]; exact hplt)) ?_ | refine Index.mk _ (idx_map (by omega)) ?_) | (guard_target = Need (_ = true) _; refine Need.mk (by first | kernel_rfl | rfl) ?_) | (guard_target = LinkV _ _ _; first | refine LinkV.row 8 rfl ?_ | refine LinkV.orow 8 rfl ?_ | refine LinkV.no ?_) | (guard_target = GhO _ _ _ _; refine GhO.go ?_) | (guard_target = Need _ _; refine Need.mk (by first | ((simp only [List.length_set, List.length_map]; omega)) | omega | (simp only [List.length_map]; omega)) ?_))
    all_goals (try (conv => whnf))
end
theorem happen_okX (hk9 : e.kind = 3 ∨ e.kind = 4 ∨ e.kind = 6 ∨ e.kind = 7) : CallX Tryz.prog 136 [.c (.op (softX L bo hv a)), .m ((owsEv e).map .c)] [some [.op (softX L bo hv ((doA a e).2))], some (owsEv e)] (I (doA a e).1) := by
  by_cases h1 : e.kind = 4 ∨ e.kind = 5
  · rw [doA_dc h1]
    exact happen_dcX L bo hv a e hw he h1
  by_cases h2 : e.kind = 6
  · rw [doA_drop h2]
    exact happen_dropX L bo hv a e hw he h2
  have hk : ¬ e.kind = 4 ∧ ¬ e.kind = 5 ∧ ¬ e.kind = 6 := by omega
  cases hp : placeB a e.a with
  | false =>
    rw [doA_np hk hp]
    exact happen_npX L bo hv a e hw he hk hp
  | true =>
    rw [doA_p hk hp, if_neg (by omega), if_neg (by omega)]
    by_cases h5 : e.kind = 3
    · rw [if_pos h5]
      exact happen_sendX L bo hv a e hw he hp h5
    rw [if_neg h5]
    exact happen_swX L bo hv a e hw he hp (by omega)
end
end Go.Proofs.YtmpcfplelpdbhaaGreat

namespace Go.Proofs.YtmpcfplelpdbhaaGreat
open Go Go.KA Go.Proofs
set_option maxHeartbeats 16000000
set_option maxRecDepth 100000
structure XSpr where
  a : XArchive
  l : List XEvent
  ok : Bool
abbrev evP (k a b c : Int) : XEvent := ⟨k, a, b, c, [], ⟨⟨0, 0⟩, []⟩, []⟩
def doP (s : XSpr) (e : XEvent) : XSpr :=
  if s.ok = false then s else if s.l.length = 300 then ⟨s.a, s.l, false⟩ else if (doA s.a e).1 = 0 then ⟨(doA s.a e).2, s.l ++ [e], true⟩ else ⟨(doA s.a e).2, s.l, false⟩
abbrev softP (hv : Value) (s : XSpr) : List CV := softX (s.l.map owsEv) s.ok hv s.a
abbrev softQ (hv : Value) (s : XSpr) : List CV := softX (s.l.map encEvent) (!s.ok) hv s.a
structure WP (s : XSpr) : Prop where
  w : WA s.a
  l : s.l.length ≤ 300
theorem setS_len {a : XArchive} {i : Int} {s : XServer} : (setS a i s).servers.length = a.servers.length := List.length_set
theorem doA_len (a : XArchive) (e : XEvent) : (doA a e).2.servers.length = a.servers.length := by
  have ht : ∀ i, (doTake a i).2.servers.length = a.servers.length := fun i => by unfold doTake; (repeat' split) <;> first | rfl | exact setS_len
  have hd : ∀ (a : XArchive) i, (doDrop a i).2.servers.length = a.servers.length := fun a i => by unfold doDrop; (repeat' split) <;> rfl
  unfold doA
  split
  · unfold doDeliver
    split
    · rw [hd, ht]
    · rfl
  split
  · exact ht _
  split
  · exact hd _ _
  split
  · rfl
  split
  · unfold doPut; (repeat' split) <;> first | rfl | exact setS_len
  split
  · unfold doRevoke; (repeat' split) <;> first | rfl | exact setS_len
  split
  · unfold doSend; (repeat' split) <;> rfl
  unfold doSave; (repeat' split) <;> first | rfl | exact setS_len
theorem doP_len (s : XSpr) (e : XEvent) : (doP s e).a.servers.length = s.a.servers.length := by
  unfold doP
  (repeat' split) <;> first | rfl | exact doA_len _ _
theorem WP.step {s : XSpr} (h : WP s) {e : XEvent} (he : EA e) : WP (doP s e) := by
  have hl := h.l
  unfold doP
  split
  · exact h
  split
  · exact ⟨h.w, hl⟩
  split
  · exact ⟨h.w.step he, by show (s.l ++ [e]).length ≤ 300; rw [List.length_append]; simp only [List.length_singleton]; omega⟩
  · exact ⟨h.w.step he, hl⟩
theorem EA.evP {k a b c : Int} (ha : 0 ≤ a ∧ a ≤ 999) (hb : 0 ≤ b ∧ b ≤ 999) (hc : 0 ≤ c ∧ c ≤ 999) : EA (evP k a b c) := ⟨ha, hb, hc, Nat.zero_le _⟩
abbrev FLX (bo : Bool) (hv : Value) (a : XArchive) (L : List (List CV)) : Option (List CV) := some [CV.op (softX L bo hv a)]
theorem snocL {f : XEvent → List CV} (l : List XEvent) (e : XEvent) : l.map f ++ [f e] = (l ++ [e]).map f := by rw [List.map_append]; rfl
section
variable (hv : Value) (s : XSpr) (hw : WP s) (k a b c : Int) (he : EA (evP k a b c)) (hk : k = 3 ∨ k = 4 ∨ k = 6 ∨ k = 7)
include hw he hk
theorem do_ok : CallX Tryz.prog 68 [.c (.op (softP hv s)), .m ((owsEv (evP k a b c)).map .c)] [some [.op (softP hv (doP s (evP k a b c)))], none] (.tup []) := by
  have hl := hw.l
  have hh := happen_okX (s.l.map owsEv) s.ok hv s.a (evP k a b c) hw.w he hk
  unfold doP
  obtain ⟨A, l, ok⟩ := s
  dsimp only at hl hh ⊢
  cases ok with
  | false =>
    rw [if_pos rfl]
    refine callX_of_vc htb hm Tryz.func68 rfl rfl rfl rfl (ann := fun _ => none) (gh := fun _ => false) ?_
    repeat' ((conv => whnf); first | (guard_target = Done _; refine Done.mk ?_) | (guard_target = RetX _ _; refine RetX.mk ?_ ?_) | (guard_target = Fact _ _; refine Fact.mk fun hL => ?_; (try simp only [List.length_map, maxLen] at hL)) | (guard_target = Branch _ _ _; (first | refine Branch.dec ?_ ?_ | refine Branch.beq ?_ ?_ | refine Branch.bne ?_ ?_ | refine Branch.ndec ?_ ?_ | refine Branch.nb ?_ ?_ | refine Branch.mk ?_ ?_) <;> intro h <;> (try simp only [] at h) <;> (try omega) <;> (try contradiction)) | (guard_target = Arith _ _ _; refine Arith.fit (wrap_fit (by first | omega | (simp only [List.length_map]; omega)) (by first | omega | (simp only [List.length_map]; omega))) ?_) | (guard_target = Arith _ _ _; refine Arith.fit (by decide) ?_) | (guard_target = Index _ _ _; first  | refine Index.mk _ (idx_map (by omega)) ?_) | (guard_target = Need (_ = true) _; refine Need.mk (by first | kernel_rfl | rfl) ?_) | (guard_target = LinkV _ _ _; first  | refine LinkV.no ?_) | (guard_target = GhO _ _ _ _; refine GhO.go ?_) | (guard_target = Need _ _; refine Need.mk (by first  | omega | (simp only [List.length_map]; omega)) ?_))
    all_goals first | rfl | exact ⟨rfl, trivial⟩ | (exfalso; omega) | (exfalso; contradiction)
  | true =>
    rw [if_neg (by simp)]
    by_cases h3 : l.length = 300
    · rw [if_pos h3]
      refine callX_of_vc htb hm Tryz.func68 rfl rfl rfl rfl (ann := fun _ => none) (gh := fun _ => false) ?_
      repeat' ((conv => whnf); first | (guard_target = Done _; refine Done.mk ?_) | (guard_target = RetX _ _; refine RetX.mk ?_ ?_) | (guard_target = Fact _ _; refine Fact.mk fun hL => ?_; (try simp only [List.length_map, maxLen] at hL)) | (guard_target = Branch _ _ _; (first | refine Branch.dec ?_ ?_ | refine Branch.beq ?_ ?_ | refine Branch.bne ?_ ?_ | refine Branch.ndec ?_ ?_ | refine Branch.nb ?_ ?_ | refine Branch.mk ?_ ?_) <;> intro h <;> (try simp only [List.length_map] at h) <;> (try omega) <;> (try contradiction)) | (guard_target = Arith _ _ _; refine Arith.fit (wrap_fit (by first | omega | (simp only [List.length_map]; omega)) (by first | omega | (simp only [List.length_map]; omega))) ?_) | (guard_target = Arith _ _ _; refine Arith.fit (by decide) ?_) | (guard_target = Index _ _ _; first  | refine Index.mk _ (idx_map (by omega)) ?_) | (guard_target = Need (_ = true) _; refine Need.mk (by first | kernel_rfl | rfl) ?_) | (guard_target = LinkV _ _ _; first  | refine LinkV.no ?_) | (guard_target = GhO _ _ _ _; refine GhO.go ?_) | (guard_target = Need _ _; refine Need.mk (by first  | omega | (simp only [List.length_map]; omega)) ?_))
      all_goals first | rfl | exact ⟨rfl, trivial⟩ | (exfalso; omega) | (exfalso; contradiction)
    · rw [if_neg h3]
      by_cases h0 : (doA A (evP k a b c)).1 = 0
      · rw [if_pos h0]
        refine callX_of_vc htb hm Tryz.func68 rfl rfl rfl rfl (ann := fun _ => none) (gh := fun _ => false) ?_
        repeat' ((conv => whnf); first | (guard_target = Done _; refine Done.mk ?_) | (guard_target = RetX _ _; refine RetX.mk ?_ ?_) | (guard_target = Fact _ _; refine Fact.mk fun hL => ?_; (try simp only [List.length_map, maxLen] at hL)) | (guard_target = Branch _ _ _; (first | refine Branch.dec ?_ ?_ | refine Branch.beq ?_ ?_ | refine Branch.bne ?_ ?_ | refine Branch.ndec ?_ ?_ | refine Branch.nb ?_ ?_ | refine Branch.mk ?_ ?_) <;> intro h <;> (try simp only [List.length_map] at h) <;> (try omega) <;> (try contradiction)) | (guard_target = CallN _ 136 _ _ _ _; refine CallN.gen [true, true] _ _ _ rfl (hh) rfl rfl _ rfl ?_) | (guard_target = Arith _ _ _; refine Arith.fit (wrap_fit (by first | omega | (simp only [List.length_map]; omega)) (by first | omega | (simp only [List.length_map]; omega))) ?_) | (guard_target = Arith _ _ _; refine Arith.fit (by decide) ?_) | (guard_target = Index _ _ _; first  | refine Index.mk _ (idx_map (by omega)) ?_) | (guard_target = Need (_ = true) _; refine Need.mk (by first | kernel_rfl | rfl) ?_) | (guard_target = LinkV _ _ _; first  | refine LinkV.no ?_) | (guard_target = GhO _ _ _ _; refine GhO.go ?_) | (guard_target = Need _ _; refine Need.mk (by first | ((simp only [List.length_cons, List.length_nil, List.length_map, maxLen]; constructor <;> omega)) | omega | (simp only [List.length_map]; omega)) ?_))
        all_goals first | rfl | exact ⟨congrArg (FLX true hv (doA A (evP k a b c)).2) (snocL l _), trivial⟩ | (exfalso; omega) | (exfalso; contradiction)
      · rw [if_neg h0]
        refine callX_of_vc htb hm Tryz.func68 rfl rfl rfl rfl (ann := fun _ => none) (gh := fun _ => false) ?_
        repeat' ((conv => whnf); first | (guard_target = Done _; refine Done.mk ?_) | (guard_target = RetX _ _; refine RetX.mk ?_ ?_) | (guard_target = Fact _ _; refine Fact.mk fun hL => ?_; (try simp only [List.length_map, maxLen] at hL)) | (guard_target = Branch _ _ _; (first | refine Branch.dec ?_ ?_ | refine Branch.beq ?_ ?_ | refine Branch.bne ?_ ?_ | refine Branch.ndec ?_ ?_ | refine Branch.nb ?_ ?_ | refine Branch.mk ?_ ?_) <;> intro h <;> (try simp only [List.length_map] at h) <;> (try omega) <;> (try contradiction)) | (guard_target = CallN _ 136 _ _ _ _; refine CallN.gen [true, true] _ _ _ rfl (hh) rfl rfl _ rfl ?_) | (guard_target = Arith _ _ _; refine Arith.fit (wrap_fit (by first | omega | (simp only [List.length_map]; omega)) (by first | omega | (simp only [List.length_map]; omega))) ?_) | (guard_target = Arith _ _ _; refine Arith.fit (by decide) ?_) | (guard_target = Index _ _ _; first  | refine Index.mk _ (idx_map (by omega)) ?_) | (guard_target = Need (_ = true) _; refine Need.mk (by first | kernel_rfl | rfl) ?_) | (guard_target = LinkV _ _ _; first  | refine LinkV.no ?_) | (guard_target = GhO _ _ _ _; refine GhO.go ?_) | (guard_target = Need _ _; refine Need.mk (by first  | omega | (simp only [List.length_map]; omega)) ?_))
        all_goals first | rfl | exact ⟨rfl, trivial⟩ | (exfalso; omega) | (exfalso; contradiction)
end
end Go.Proofs.YtmpcfplelpdbhaaGreat
