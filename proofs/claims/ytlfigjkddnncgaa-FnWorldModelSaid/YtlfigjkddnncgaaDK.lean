/- Contracts of the draws of signatures, of one of some numbers and of a valid program. No conditions but bounds of size. -/
import Derived.Test.YtlfigjkddnncgaaDI
import Derived.Test.YtlfigjkddnncgaaEngY
import Derived.Test.YtlfigjkddnncgaaEngX
namespace Go.Proofs.Ytlfigjkddnncgaa
open Go Go.KA Go.Proofs
set_option maxHeartbeats 16000000
set_option maxRecDepth 100000
abbrev eU8 (b : UInt8) : List CV := [.val (.int .u8 (b.toNat : Int))]
abbrev src0 (code : List UInt8) : Src := ⟨code, 0, 0⟩
theorem l00From_ok (code : List UInt8) : CallX Try.prog 14 [.c (.ro 1 (code.map eU8))] [] (.c (.op (srcC (src0 code)))) := by
  refine callX_of_vc htb hm Try.func14 rfl rfl rfl rfl (ann := fun _ => none) (gh := fun _ => false) ?_
  repeat' ((conv => whnf); first | (guard_target = Done _; refine Done.mk ?_) | (guard_target = RetX _ _; refine RetX.mk ?_ ?_) | (guard_target = Fact _ _; refine Fact.mk fun hL => ?_; (try simp only [List.length_map, maxLen] at hL)) | (guard_target = Branch _ _ _; (first | refine Branch.dec ?_ ?_ | refine Branch.beq ?_ ?_ | refine Branch.bne ?_ ?_ | refine Branch.ndec ?_ ?_ | refine Branch.nb ?_ ?_ | refine Branch.mk ?_ ?_) <;> intro h <;> (try simp only [List.length_map] at h) <;> (try omega) <;> (try contradiction)) | (guard_target = Arith _ _ _; refine Arith.fit (wrap_fit (by first | omega | (simp only [List.length_map]; omega)) (by first | omega | (simp only [List.length_map]; omega))) ?_) | (guard_target = Arith _ _ _; refine Arith.fit (by decide) ?_) | (guard_target = Index _ _ _; first  | refine Index.mk _ (idx_map (by omega)) ?_) | (guard_target = Need (_ = true) _; refine Need.mk (by first | kernel_rfl | rfl) ?_) | (guard_target = LinkV _ _ _; first  | refine LinkV.no ?_) | (guard_target = GhO _ _ _ _; refine GhO.go ?_) | (guard_target = Need _ _; refine Need.mk (by first  | omega | (simp only [List.length_map]; omega)) ?_))
  all_goals first | rfl | trivial
theorem among_ok (l : List Int) (hl : 0 < l.length ∧ l.length ≤ 1000) (s : Src) (hs : Rd s 900000) (hc : s.code.length ≤ 1000000) : CallX Try.prog 55 [.c (.op (srcC s)), .c (.ro 1 (l.map eI))] [some [.op (srcC (amongS l s))], none] (I (amongV l s)) := by
  have i : I64 (l.length : Int) := by unfold I64; omega
  have p := pick_ok s hs hc l.length i
  have b := pickV_in s (n := l.length) (by omega)
  unfold amongS amongV
  generalize pickV s (l.length : Int) = k at p b ⊢
  generalize pickS s (l.length : Int) = s1 at p ⊢
  rw [← List.length_map (f := eI)] at p
  refine callX_of_vc htb hm Try.func55 rfl rfl rfl rfl (ann := fun _ => none) (gh := fun _ => false) ?_
  repeat' ((conv => whnf); first | (guard_target = Done _; refine Done.mk ?_) | (guard_target = RetX _ _; refine RetX.mk ?_ ?_) | (guard_target = Fact _ _; refine Fact.mk fun hL => ?_; (try simp only [List.length_map, maxLen] at hL)) | (guard_target = Branch _ _ _; (first | refine Branch.dec ?_ ?_ | refine Branch.beq ?_ ?_ | refine Branch.bne ?_ ?_ | refine Branch.ndec ?_ ?_ | refine Branch.nb ?_ ?_ | refine Branch.mk ?_ ?_) <;> intro h <;> (try simp only [List.length_map] at h) <;> (try omega) <;> (try contradiction)) | (guard_target = CallN _ 37 _ _ _ _; refine CallN.gen [true, false] _ _ _ rfl p rfl rfl _ rfl ?_) | (guard_target = Arith _ _ _; refine Arith.fit (wrap_fit (by first | omega | (simp only [List.length_map]; omega)) (by first | omega | (simp only [List.length_map]; omega))) ?_) | (guard_target = Arith _ _ _; refine Arith.fit (by decide) ?_) | (guard_target = Index _ _ _; first | refine Index.mk _ (idx_getD (l := l) (d := 0) (i := k.toNat) (by omega)) ?_ | refine Index.mk _ (idx_map (by omega)) ?_) | (guard_target = Need (_ = true) _; refine Need.mk (by first | kernel_rfl | rfl) ?_) | (guard_target = LinkV _ _ _; first  | refine LinkV.no ?_) | (guard_target = GhO _ _ _ _; refine GhO.go ?_) | (guard_target = Need _ _; refine Need.mk (by first  | omega | (simp only [List.length_map]; omega)) ?_))
  all_goals first | rfl | exact ⟨rfl, trivial⟩ | (exfalso; simp at *; omega)
theorem sigS_cd (s : Src) : (sigS s).code = s.code := by simp [sigS, pick_cd]
theorem drawSig_cd (s : Src) : (drawSig s).2.code = s.code := by
  unfold drawSig
  simp only
  split
  · simp only [pick_cd, sigS_cd]
  · split
    · simp only [pick_cd, sigS_cd]
    · exact sigS_cd s
theorem drawSig_ok (s : Src) (hs : Rd s 800000) (hc : s.code.length ≤ 1000000) : CallX Try.prog 15 [.c (.op (srcC s))] [some [.op (srcC (drawSig s).2)]] (.a 2 [J (drawSig s).1.tests, J (drawSig s).1.actions]) := by
  have i2 : I64 2 := by unfold I64; omega
  have i12 : I64 12 := by unfold I64; omega
  have i4 : I64 4 := by unfold I64; omega
  have i5 : I64 5 := by unfold I64; omega
  have p1 := pick_ok s (hs.mono (by omega)) hc 2 i2
  have b1 := pickV_in s (n := 2) (by omega)
  have h1 : Rd (pickS s 2) 800002 := hs.pick 2
  have c1 : (pickS s 2).code.length ≤ 1000000 := by rw [pick_cd]; exact hc
  have p2 := pick_ok (pickS s 2) (h1.mono (by omega)) c1 2 i2
  have b2 := pickV_in (pickS s 2) (n := 2) (by omega)
  have h2 : Rd (pickS (pickS s 2) 2) 800004 := (h1.pick 2).mono (by omega)
  have c2 : (pickS (pickS s 2) 2).code.length ≤ 1000000 := by rw [pick_cd]; exact c1
  have p3 := pick_ok (pickS (pickS s 2) 2) (h2.mono (by omega)) c2 12 i12
  have h3 : Rd (sigS s) 800006 := (h2.pick 12).mono (by omega)
  have c3 : (sigS s).code.length ≤ 1000000 := by rw [sigS_cd]; exact hc
  have p4 := pick_ok (sigS s) (h3.mono (by omega)) c3 4 i4
  have p5 := pick_ok (sigS s) (h3.mono (by omega)) c3 5 i5
  unfold drawSig
  simp only []
  have e : pickS (pickS (pickS s 2) 2) 12 = sigS s := rfl
  rw [e] at p3
  generalize sigS s = s3 at p3 p4 p5 ⊢
  generalize pickV (pickS (pickS s 2) 2) 12 = k at p3 ⊢
  generalize pickS (pickS s 2) 2 = s2 at p2 p3 ⊢
  generalize pickV (pickS s 2) 2 = a at p2 b2 ⊢
  generalize pickS s 2 = s1 at p1 p2 ⊢
  generalize pickV s 2 = t at p1 b1 ⊢
  by_cases g1 : k = 0
  · rw [if_pos g1]
    refine callX_of_vc htb hm Try.func15 rfl rfl rfl rfl (ann := fun _ => none) (gh := fun _ => false) ?_
    repeat' ((conv => whnf); first | (guard_target = Done _; refine Done.mk ?_) | (guard_target = RetX _ _; refine RetX.mk ?_ ?_) | (guard_target = Fact _ _; refine Fact.mk fun hL => ?_; (try simp only [List.length_map, maxLen] at hL)) | (guard_target = Branch _ _ _; (first | refine Branch.dec ?_ ?_ | refine Branch.beq ?_ ?_ | refine Branch.bne ?_ ?_ | refine Branch.ndec ?_ ?_ | refine Branch.nb ?_ ?_ | refine Branch.mk ?_ ?_) <;> intro h <;> (try simp only [List.length_map] at h) <;> (try omega) <;> (try contradiction)) | (guard_target = CallN _ 37 _ _ _ _; (first | refine CallN.gen [true, false] _ _ _ rfl p1 rfl rfl _ rfl ?_ | refine CallN.gen [true, false] _ _ _ rfl p2 rfl rfl _ rfl ?_ | refine CallN.gen [true, false] _ _ _ rfl p3 rfl rfl _ rfl ?_ | refine CallN.gen [true, false] _ _ _ rfl p4 rfl rfl _ rfl ?_)) | (guard_target = Arith _ _ _; refine Arith.fit (wrap_fit (by first | omega | (simp only [List.length_map]; omega)) (by first | omega | (simp only [List.length_map]; omega))) ?_) | (guard_target = Arith _ _ _; refine Arith.fit (by decide) ?_) | (guard_target = Index _ _ _; first  | refine Index.mk _ (idx_map (by omega)) ?_) | (guard_target = Need (_ = true) _; refine Need.mk (by first | kernel_rfl | rfl) ?_) | (guard_target = LinkV _ _ _; first  | refine LinkV.no ?_) | (guard_target = GhO _ _ _ _; refine GhO.go ?_) | (guard_target = Need _ _; refine Need.mk (by first  | omega | (simp only [List.length_map]; omega)) ?_))
    all_goals first | rfl | exact ⟨rfl, trivial⟩ | (exfalso; simp at *; omega)
  rw [if_neg g1]
  by_cases g2 : k = 1
  · rw [if_pos g2]
    refine callX_of_vc htb hm Try.func15 rfl rfl rfl rfl (ann := fun _ => none) (gh := fun _ => false) ?_
    repeat' ((conv => whnf); first | (guard_target = Done _; refine Done.mk ?_) | (guard_target = RetX _ _; refine RetX.mk ?_ ?_) | (guard_target = Fact _ _; refine Fact.mk fun hL => ?_; (try simp only [List.length_map, maxLen] at hL)) | (guard_target = Branch _ _ _; (first | refine Branch.dec ?_ ?_ | refine Branch.beq ?_ ?_ | refine Branch.bne ?_ ?_ | refine Branch.ndec ?_ ?_ | refine Branch.nb ?_ ?_ | refine Branch.mk ?_ ?_) <;> intro h <;> (try simp only [List.length_map] at h) <;> (try omega) <;> (try contradiction)) | (guard_target = CallN _ 37 _ _ _ _; (first | refine CallN.gen [true, false] _ _ _ rfl p1 rfl rfl _ rfl ?_ | refine CallN.gen [true, false] _ _ _ rfl p2 rfl rfl _ rfl ?_ | refine CallN.gen [true, false] _ _ _ rfl p3 rfl rfl _ rfl ?_ | refine CallN.gen [true, false] _ _ _ rfl p5 rfl rfl _ rfl ?_)) | (guard_target = Arith _ _ _; refine Arith.fit (wrap_fit (by first | omega | (simp only [List.length_map]; omega)) (by first | omega | (simp only [List.length_map]; omega))) ?_) | (guard_target = Arith _ _ _; refine Arith.fit (by decide) ?_) | (guard_target = Index _ _ _; first  | refine Index.mk _ (idx_map (by omega)) ?_) | (guard_target = Need (_ = true) _; refine Need.mk (by first | kernel_rfl | rfl) ?_) | (guard_target = LinkV _ _ _; first  | refine LinkV.no ?_) | (guard_target = GhO _ _ _ _; refine GhO.go ?_) | (guard_target = Need _ _; refine Need.mk (by first  | omega | (simp only [List.length_map]; omega)) ?_))
    all_goals first | rfl | exact ⟨rfl, trivial⟩ | (exfalso; simp at *; omega)
  · rw [if_neg g2]
    refine callX_of_vc htb hm Try.func15 rfl rfl rfl rfl (ann := fun _ => none) (gh := fun _ => false) ?_
    repeat' ((conv => whnf); first | (guard_target = Done _; refine Done.mk ?_) | (guard_target = RetX _ _; refine RetX.mk ?_ ?_) | (guard_target = Fact _ _; refine Fact.mk fun hL => ?_; (try simp only [List.length_map, maxLen] at hL)) | (guard_target = Branch _ _ _; (first | refine Branch.dec ?_ ?_ | refine Branch.beq ?_ ?_ | refine Branch.bne ?_ ?_ | refine Branch.ndec ?_ ?_ | refine Branch.nb ?_ ?_ | refine Branch.mk ?_ ?_) <;> intro h <;> (try simp only [List.length_map] at h) <;> (try omega) <;> (try contradiction)) | (guard_target = CallN _ 37 _ _ _ _; (first | refine CallN.gen [true, false] _ _ _ rfl p1 rfl rfl _ rfl ?_ | refine CallN.gen [true, false] _ _ _ rfl p2 rfl rfl _ rfl ?_ | refine CallN.gen [true, false] _ _ _ rfl p3 rfl rfl _ rfl ?_)) | (guard_target = Arith _ _ _; refine Arith.fit (wrap_fit (by first | omega | (simp only [List.length_map]; omega)) (by first | omega | (simp only [List.length_map]; omega))) ?_) | (guard_target = Arith _ _ _; refine Arith.fit (by decide) ?_) | (guard_target = Index _ _ _; first  | refine Index.mk _ (idx_map (by omega)) ?_) | (guard_target = Need (_ = true) _; refine Need.mk (by first | kernel_rfl | rfl) ?_) | (guard_target = LinkV _ _ _; first  | refine LinkV.no ?_) | (guard_target = GhO _ _ _ _; refine GhO.go ?_) | (guard_target = Need _ _; refine Need.mk (by first  | omega | (simp only [List.length_map]; omega)) ?_))
    all_goals first | rfl | exact ⟨rfl, trivial⟩ | (exfalso; simp at *; omega)
theorem l06Drawn_ok (g : XSig) (hg : 0 ≤ g.tests ∧ g.tests ≤ 3 ∧ 0 ≤ g.actions ∧ g.actions ≤ 4) (s : Src) (hs : Rd s 100000) (hc : s.code.length ≤ 1000000) (n : Int) (hn : 0 ≤ n ∧ n ≤ 100) :
    CallX Try.prog 16 [.c (.op (srcC s)), .a 2 [J g.tests, J g.actions], I n] [some [.op (srcC (progP g 5 ⟨s, n⟩).2.s)], none, none] (.a 6 (encProg (progP g 5 ⟨s, n⟩).1)) := by
  have e : costP 5 = 170100 := rfl
  have h := prog_ok g hg 5 5 ⟨s, n⟩ 100000 rfl ⟨hs, by omega, hc, by simp only []; omega, by simp only []; omega⟩ (by omega)
  obtain ⟨gt, ga⟩ := g
  generalize progP ⟨gt, ga⟩ 5 ⟨s, n⟩ = X at h ⊢
  obtain ⟨⟨k1, n1, ⟨k2, n2, ks2⟩, ks1⟩, ⟨s1, l1⟩⟩ := X
  simp only [genC] at h ⊢
  refine callX_of_vc htb hm Try.func16 rfl rfl rfl rfl (ann := fun _ => none) (gh := fun _ => false) ?_
  repeat' ((conv => whnf); first | (guard_target = Done _; refine Done.mk ?_) | (guard_target = RetX _ _; refine RetX.mk ?_ ?_) | (guard_target = Fact _ _; refine Fact.mk fun hL => ?_; (try simp only [List.length_map, maxLen] at hL)) | (guard_target = Branch _ _ _; (first | refine Branch.dec ?_ ?_ | refine Branch.beq ?_ ?_ | refine Branch.bne ?_ ?_ | refine Branch.ndec ?_ ?_ | refine Branch.nb ?_ ?_ | refine Branch.mk ?_ ?_) <;> intro h <;> (try simp only [List.length_map] at h) <;> (try omega) <;> (try contradiction)) | (guard_target = CallN _ 38 _ _ _ _; refine CallN.gen [true, false] _ _ _ rfl h rfl rfl _ rfl ?_) | (guard_target = Arith _ _ _; refine Arith.fit (wrap_fit (by first | omega | (simp only [List.length_map]; omega)) (by first | omega | (simp only [List.length_map]; omega))) ?_) | (guard_target = Arith _ _ _; refine Arith.fit (by decide) ?_) | (guard_target = Index _ _ _; first  | refine Index.mk _ (idx_map (by omega)) ?_) | (guard_target = Need (_ = true) _; refine Need.mk (by first | kernel_rfl | rfl) ?_) | (guard_target = LinkV _ _ _; first  | refine LinkV.no ?_) | (guard_target = GhO _ _ _ _; refine GhO.go ?_) | (guard_target = Need _ _; refine Need.mk (by first  | omega | (simp only [List.length_map]; omega)) ?_))
  all_goals first | rfl | exact ⟨rfl, trivial⟩ | (exfalso; simp at *; omega)
end Go.Proofs.Ytlfigjkddnncgaa

namespace Go.KA
open Go Go.RowKit
inductive GiveA : List SV → List SV → Prop
  | nil : GiveA [] []
  | same {s ss ss'} (h : GiveA ss ss') : GiveA (s :: ss) (s :: ss')
  | c {x ss ss'} (h : GiveA ss ss') : GiveA (.c x :: ss) (.c (roC x) :: ss')
theorem ADen.okMono {w : World} {ok ok' : Nat → Prop} {s : SV} {v : Value} {f : List Nat} (h : ADen w ok s v f) (hok : ∀ b, ok b → ok' b) : ADen w ok' s v f := by
  cases h with
  | v hv => exact .v fun ρ => (hv ρ).mono (fun _ _ => rfl) hok (Ext.refl _)
  | o hd => exact .o (hd.mono (fun _ _ => rfl) hok fun _ _ => rfl)
  | m hd => exact .m (hd.mono (fun _ _ => rfl) hok fun _ _ => rfl)
theorem GiveA.al {w : World} {ok : Nat → Prop} {ss ss' : List SV} (h : GiveA ss ss') : ∀ {vs : List Value} {f : List Nat}, f.Nodup → AL w ok ss vs f →
    ∃ f1, f1.Sublist f ∧ ∀ ok' : Nat → Prop, (∀ b, ok b → ok' b) → (∀ b ∈ f, b ∉ f1 → ok' b) → AL w ok' ss' vs f1 := by
  induction h with
  | nil => intro vs f hf ha; cases ha; exact ⟨[], List.Sublist.refl _, fun _ _ _ => .nil⟩
  | same h ih =>
    intro vs f hf ha
    cases ha with
    | @cons _ v g _ vs k h0 ht =>
      rw [List.nodup_append] at hf
      obtain ⟨f1, hs, hd⟩ := ih hf.2.1 ht
      refine ⟨g ++ f1, (List.Sublist.refl _).append hs, fun ok' hok hb => .cons (h0.okMono hok) (hd ok' hok fun b hb1 hb2 => hb b (by simp [hb1]) fun hm => ?_)⟩
      rcases List.mem_append.1 hm with hm | hm
      · exact hf.2.2 b hm b hb1 rfl
      · exact hb2 hm
  | c h ih =>
    intro vs f hf ha
    cases ha with
    | @cons _ v g _ vs k h0 ht =>
      rw [List.nodup_append] at hf
      obtain ⟨f1, hs, hd⟩ := ih hf.2.1 ht
      refine ⟨f1, List.sublist_append_of_sublist_right hs, fun ok' hok hb => ?_⟩
      have h1 := hd ok' hok fun b hb1 hb2 => hb b (by simp [hb1]) hb2
      have hg : ∀ b ∈ g, ok' b := fun b hbg => hb b (by simp [hbg]) fun hm => hf.2.2 b hbg b (hs.subset hm) rfl
      have key : ∀ {x : CV} {v : Value} {g : List Nat}, Den w ok [x] [v] g → (∀ b ∈ g, ok' b) → ADen w ok' (.c (roC x)) v [] := fun hd hg => .o (den_ro hd hok hg)
      cases h0 with
      | v hv =>
        cases hv (fun _ => none) with
        | c hc => cases hc with | c hd => exact .cons (f := []) (key hd (by simp)) h1
      | o hd => exact .cons (f := []) (key hd hg) h1
theorem CallX.give {P : Program} {f : Nat} {args args' : List SV} {outs : List (Option (List CV))} {r : SV} (h : CallX P f args' outs r) (hg : GiveA args args') : CallX P f args outs r := by
  refine ⟨h.1, fun w ok vs fs h1 h2 h3 h4 => ?_⟩
  obtain ⟨f1, hs, hd⟩ := hg.al h3 h2
  have h5 := h.2 w (fun b => ok b ∨ (b ∈ fs ∧ b ∉ f1)) vs f1 (fun b hb => hb.elim (h1 b) fun hb => (h4 b hb.1).1) (hd _ (fun b hb => .inl hb) (fun b hb hb2 => .inr ⟨hb, hb2⟩)) (h3.sublist hs)
    (fun b hb => ⟨(h4 b (hs.subset hb)).1, fun hk => hk.elim (h4 b (hs.subset hb)).2 fun hk => hk.2 hb⟩)
  refine h5.mono ?_
  rintro e w' ⟨v, fr, fo, rfl, hgr, hn, hb, ho, hou⟩
  have e : okX (fun b => ok b ∨ (b ∈ fs ∧ b ∉ f1)) f1 (fr ++ fo) w w' = okX ok fs (fr ++ fo) w w' := by
    funext b
    have : ((ok b ∨ (b ∈ fs ∧ b ∉ f1)) ∨ b ∈ f1 ∨ w.heap.size ≤ b) ↔ (ok b ∨ b ∈ fs ∨ w.heap.size ≤ b) := by
      have := @List.Sublist.subset _ _ _ hs b
      by_cases h : b ∈ f1
      · have := this h
        simp [h, this]
      · simp [h, or_assoc]
    unfold okX
    rw [this]
  rw [e] at ho hou
  refine ⟨v, fr, fo, rfl, ⟨hgr.os, hgr.tape, hgr.output, hgr.size, fun b hb hbn => hgr.block b hb fun hm => hbn (hs.subset hm)⟩, hn, fun b hbm => ⟨?_, (hb b hbm).2⟩, ho, hou⟩
  exact (hb b hbm).1.imp_left fun h => hs.subset h
end Go.KA

namespace Go.Proofs.Ytlfigjkddnncgaa
open Go Go.KA Go.Proofs
set_option maxHeartbeats 16000000
set_option maxRecDepth 100000
theorem amongO_ok (l : List Int) (hl : 0 < l.length ∧ l.length ≤ 1000) (s : Src) (hs : Rd s 900000) (hc : s.code.length ≤ 1000000) : CallX Try.prog 55 [.c (.op (srcC s)), .c (.ows 2 1 (l.map eI))] [some [.op (srcC (amongS l s))], none] (I (amongV l s)) := (among_ok l hl s hs hc).give (.same (.c .nil))
theorem l00Min_ok (a b : Int) : CallF Try.prog 52 [I a, I b] (I (if a < b then a else b)) := by
  refine callF_of_vc htb hm Try.func52 rfl rfl rfl rfl (ann := fun _ => none) (gh := fun _ => false) ?_
  repeat' ((conv => whnf); first | (guard_target = Done _; refine Done.mk ?_; first | (rfl; done) | (simp_all [normS, normV]; done) | (simp_all [normS, normV]; omega; done) | (simp_all [normS, normV]; intros; omega; done) | (simp_all [-List.all_eq_true, -List.all_eq_false, normS, normV]; done) | (simp_all [-List.all_eq_true, -List.all_eq_false, normS, normV]; omega; done) | skip) | (guard_target = RetX _ _; refine RetX.mk ?_ ?_) | (guard_target = Fact _ _; refine Fact.mk fun hL => ?_; (try simp only [List.length_map, maxLen] at hL)) | (guard_target = Branch _ _ _; (first | refine Branch.dec ?_ ?_ | refine Branch.beq ?_ ?_ | refine Branch.bne ?_ ?_ | refine Branch.ndec ?_ ?_ | refine Branch.nb ?_ ?_ | refine Branch.mk ?_ ?_) <;> intro h <;> (try simp only [List.length_map] at h) <;> (try omega) <;> (try contradiction)) | (guard_target = Arith _ _ _; refine Arith.fit (wrap_fit (by first | omega | (simp only [List.length_map]; omega)) (by first | omega | (simp only [List.length_map]; omega))) ?_) | (guard_target = Arith _ _ _; refine Arith.fit (by decide) ?_) | (guard_target = Index _ _ _; first  | refine Index.mk _ (idx_map (by omega)) ?_) | (guard_target = Need (_ = true) _; refine Need.mk (by first | kernel_rfl | rfl) ?_) | (guard_target = LinkV _ _ _; first  | refine LinkV.no ?_) | (guard_target = GhO _ _ _ _; refine GhO.go ?_) | (guard_target = Need _ _; refine Need.mk (by first  | omega | (simp only [List.length_map]; omega)) ?_))
theorem l00Max_ok (a b : Int) : CallF Try.prog 53 [I a, I b] (I (if a > b then a else b)) := by
  refine callF_of_vc htb hm Try.func53 rfl rfl rfl rfl (ann := fun _ => none) (gh := fun _ => false) ?_
  repeat' ((conv => whnf); first | (guard_target = Done _; refine Done.mk ?_; first | (rfl; done) | (simp_all [normS, normV]; done) | (simp_all [normS, normV]; omega; done) | (simp_all [normS, normV]; intros; omega; done) | (simp_all [-List.all_eq_true, -List.all_eq_false, normS, normV]; done) | (simp_all [-List.all_eq_true, -List.all_eq_false, normS, normV]; omega; done) | skip) | (guard_target = RetX _ _; refine RetX.mk ?_ ?_) | (guard_target = Fact _ _; refine Fact.mk fun hL => ?_; (try simp only [List.length_map, maxLen] at hL)) | (guard_target = Branch _ _ _; (first | refine Branch.dec ?_ ?_ | refine Branch.beq ?_ ?_ | refine Branch.bne ?_ ?_ | refine Branch.ndec ?_ ?_ | refine Branch.nb ?_ ?_ | refine Branch.mk ?_ ?_) <;> intro h <;> (try simp only [List.length_map] at h) <;> (try omega) <;> (try contradiction)) | (guard_target = Arith _ _ _; refine Arith.fit (wrap_fit (by first | omega | (simp only [List.length_map]; omega)) (by first | omega | (simp only [List.length_map]; omega))) ?_) | (guard_target = Arith _ _ _; refine Arith.fit (by decide) ?_) | (guard_target = Index _ _ _; first  | refine Index.mk _ (idx_map (by omega)) ?_) | (guard_target = Need (_ = true) _; refine Need.mk (by first | kernel_rfl | rfl) ?_) | (guard_target = LinkV _ _ _; first  | refine LinkV.no ?_) | (guard_target = GhO _ _ _ _; refine GhO.go ?_) | (guard_target = Need _ _; refine Need.mk (by first  | omega | (simp only [List.length_map]; omega)) ?_))
theorem iterS_cd {f : Src → Src} (hf : ∀ s, (f s).code = s.code) (s : Src) : ∀ i : Nat, (iterS f s i).code = s.code
  | 0 => rfl
  | i + 1 => by show (f _).code = _; rw [hf, iterS_cd hf s i]
theorem cellS_cd (n : Int) (s : Src) : (cellS n s).code = s.code := by
  unfold cellS
  split <;> simp only [pick_cd]
theorem rowS_cd (n : Nat) (s : Src) : (rowS n s).code = s.code := iterS_cd (cellS_cd n) s n
theorem runV_getD {α : Type} (v : Src → α) (f : Src → Src) (s : Src) {n i : Nat} (h : i < n) (d : α) : (runV v f s n).getD i d = v (iterS f s i) := by
  unfold runV
  rw [List.getD_eq_getElem?_getD, List.getElem?_map, List.getElem?_range h]
  rfl
theorem world_end {A : Int} {g : XSig} {s : Src} {i a : Nat} {l : List Int} {ls : List (List Int)} {sx : Src} (h1 : i ≤ statesN s ∧ l = runV (atomV A) atomS (pickS s 6) i) (e1 : i = statesN s) (h2 : a ≤ actsN g ∧ ls = runV (rowV (statesN s)) (rowS (statesN s)) (actsF s) a ∧ sx = iterS (rowS (statesN s)) (actsF s) a) (e2 : a = actsN g) : l = atomsW A s ∧ ls = actsW g s ∧ sx = endS g s := by
  subst e1 e2
  exact ⟨h1.2, h2.2.1, h2.2.2⟩
theorem world0 {A : Int} {g : XSig} {s sx : Src} (q : sx = endS g s) (h : pickV sx 30 = 0) : worldS g s = amongS [-1, 8] (pickS sx 30) ∧ worldD A g s = (bendAtom (amongV [-1, 8] (pickS sx 30)) (atomsW A s), actsW g s) := by
  subst q
  unfold worldS worldD
  simp only []
  rw [if_pos h, if_pos h]
  exact ⟨rfl, rfl⟩
theorem world1 {A : Int} {g : XSig} {s sx : Src} (q : sx = endS g s) (h : pickV sx 30 = 1) : worldS g s = pickS sx 30 ∧ worldD A g s = (atomsW A s, actsW g s ++ [[0]]) := by
  subst q
  unfold worldS worldD
  simp only []
  rw [if_neg (by omega), if_neg (by omega), if_neg (by omega), if_pos h]
  exact ⟨rfl, rfl⟩
theorem world2 {A : Int} {g : XSig} {s sx : Src} (q : sx = endS g s) (h : pickV sx 30 = 2) (h2 : actsN g ≠ 0) : worldS g s = amongS [-2, (statesN s : Int)] (pickS sx 30) ∧ worldD A g s = (atomsW A s, bendHead (amongV [-2, (statesN s : Int)] (pickS sx 30)) (actsW g s)) := by
  subst q
  unfold worldS worldD
  simp only []
  rw [if_neg (by omega), if_pos ⟨h, h2⟩, if_neg (by omega), if_neg (by omega), if_pos ⟨h, h2⟩]
  exact ⟨rfl, rfl⟩
theorem world3 {A : Int} {g : XSig} {s sx : Src} (q : sx = endS g s) (h0 : pickV sx 30 ≠ 0) (h1 : pickV sx 30 ≠ 1) (h2 : ¬ (pickV sx 30 = 2 ∧ actsN g ≠ 0)) : worldS g s = pickS sx 30 ∧ worldD A g s = (atomsW A s, actsW g s) := by
  subst q
  unfold worldS worldD
  simp only []
  rw [if_neg h0, if_neg h2, if_neg h0, if_neg h1, if_neg h2]
  exact ⟨rfl, rfl⟩
theorem bendAtom_set (v : Int) (l : List Int) : (l.map eI).set 0 [.val (.int .i64 v)] = (bendAtom v l).map eI := by cases l <;> rfl
theorem bendHead_set (v : Int) (u : Value) (ls : List (List Int)) : ((ls.map fun l => [CV.ows 2 1 (l.map eI)]).set 0 [.val u]).set 0 [.ows 2 1 (((ls.getD 0 []).map eI).set 0 [.val (.int .i64 v)])] = (bendHead v ls).map fun l => [CV.ows 2 1 (l.map eI)] := by
  cases ls with
  | nil => rfl
  | cons r rs => cases r <;> rfl
theorem cell_yes {n : Nat} {sx sy : Src} {i : Nat} {r : List Int} (ha : i ≤ n ∧ r = runV (cellV n) (cellS n) sx i ∧ sy = iterS (cellS n) sx i) (hi : i < n) (h : pickV sy 10 = 0) : i + 1 ≤ n ∧ r ++ [-1] = runV (cellV n) (cellS n) sx (i + 1) ∧ pickS sy 10 = iterS (cellS n) sx (i + 1) := by
  obtain ⟨h1, rfl, rfl⟩ := ha
  have hb : oneB (iterS (cellS n) sx i) 10 = true := by simp [oneB, h]
  refine ⟨by omega, ?_, ?_⟩
  · rw [runV_succ, cellV, if_pos hb]
  · show _ = cellS n (iterS (cellS n) sx i)
    rw [cellS, if_pos hb]
theorem cell_no {n : Nat} {sx sy : Src} {i : Nat} {r : List Int} {k : Int} (ha : i ≤ n ∧ r = runV (cellV n) (cellS n) sx i ∧ sy = iterS (cellS n) sx i) (hi : i < n) (h : ¬ pickV sy 10 = 0) (hk : (n : Int) = k) : i + 1 ≤ n ∧ r ++ [pickV (pickS sy 10) k] = runV (cellV n) (cellS n) sx (i + 1) ∧ pickS (pickS sy 10) k = iterS (cellS n) sx (i + 1) := by
  obtain ⟨h1, rfl, rfl⟩ := ha
  subst hk
  have hb : ¬ oneB (iterS (cellS n) sx i) 10 = true := by simp [oneB, h]
  refine ⟨by omega, ?_, ?_⟩
  · rw [runV_succ, cellV, if_neg hb]
  · show _ = cellS n (iterS (cellS n) sx i)
    rw [cellS, if_neg hb]
theorem row_next {n N : Nat} {s0 sx sy : Src} {i a : Nat} {r : List Int} {ls : List (List Int)} (hA : a ≤ N ∧ ls = runV (rowV n) (rowS n) s0 a ∧ sx = iterS (rowS n) s0 a) (ha : i ≤ n ∧ r = runV (cellV n) (cellS n) sx i ∧ sy = iterS (cellS n) sx i) (hi : ¬ i < n) (hN : a < N) : a + 1 ≤ N ∧ ls ++ [r] = runV (rowV n) (rowS n) s0 (a + 1) ∧ sy = iterS (rowS n) s0 (a + 1) := by
  obtain ⟨h1, rfl, rfl⟩ := hA
  obtain ⟨h2, rfl, rfl⟩ := ha
  have e : i = n := by omega
  subst e
  exact ⟨by omega, by rw [runV_succ]; rfl, rfl⟩
theorem set_get {α : Type} {l : List α} {i : Nat} {x : α} (h : i < l.length) : (l.set i x)[i]? = some x := by
  simp [h]
section
variable (g : XSig) (hg : 0 ≤ g.tests ∧ g.tests ≤ 3 ∧ 0 ≤ g.actions ∧ g.actions ≤ 4) (s : Src) (m : Int) (hs : Rd s m) (hq : m ≤ 500000) (hc : s.code.length ≤ 1000000) (A : Int) (hA : 1 ≤ A ∧ A ≤ 8) (hat : CallF Try.prog 51 [.a 2 [J g.tests, J g.actions]] (I A))
include hg hs hq hc hA hat
theorem world_ok : CallX Try.prog 21 [.c (.op (srcC s)), .a 2 [J g.tests, J g.actions]] [some [.op (srcC (worldS g s))], none] (.a 2 [.ows 2 1 ((worldD A g s).1.map eI), .own 34 1 ((worldD A g s).2.map fun l => [.ows 2 1 (l.map eI)])]) := by
  have i6 : I64 6 := by unfold I64; omega
  have i8 : I64 8 := by unfold I64; omega
  have i10 : I64 10 := by unfold I64; omega
  have i30 : I64 30 := by unfold I64; omega
  have q6 := pick_ok s (hs.mono (by omega)) hc 6 i6
  obtain ⟨w1, w2, w3⟩ := statesN_in s
  have r6 : Rd (pickS s 6) (m + 2) := hs.pick 6
  have c6 : (pickS s 6).code.length ≤ 1000000 := by rw [pick_cd]; exact hc
  have rA : ∀ i : Nat, i ≤ statesN s → Rd (iterS atomS (pickS s 6) i) (m + 14) := fun i hi => (Rd.iter (k := 2) (by omega) (fun _ _ h => h.pick 8) r6 i).mono (by omega)
  have cA : ∀ i : Nat, (iterS atomS (pickS s 6) i).code.length ≤ 1000000 := fun i => by rw [iterS_cd (f := atomS) (fun s => pick_cd s 8)]; exact c6
  have q8 : ∀ i : Nat, i < statesN s → CallX Try.prog 37 [.c (.op (srcC (iterS atomS (pickS s 6) i))), I 8] [some [.op (srcC (iterS atomS (pickS s 6) (i + 1)))], none] (I (pickV (iterS atomS (pickS s 6) i) 8)) := fun i hi => pick_ok _ ((rA i (by omega)).mono (by omega)) (cA i) 8 i8
  have b8 : ∀ i : Nat, 0 ≤ pickV (iterS atomS (pickS s 6) i) 8 ∧ pickV (iterS atomS (pickS s 6) i) 8 < 8 := fun i => pickV_in _ (by omega)
  have eN : ((actsN g : Nat) : Int) = g.actions := by unfold actsN; split <;> (try split) <;> omega
  have rB : ∀ a : Nat, a ≤ actsN g → Rd (iterS (rowS (statesN s)) (actsF s) a) (m + 14 + 24 * a) := fun a ha => (Rd.iter (k := 24) (by omega) (fun _ _ h => (h.row (statesN s)).mono (by omega)) (rA (statesN s) (Nat.le_refl _)) a).mono (by omega)
  have cB : ∀ a : Nat, (iterS (rowS (statesN s)) (actsF s) a).code.length ≤ 1000000 := fun a => by rw [iterS_cd (rowS_cd _)]; exact cA _
  have rC : ∀ (x : Src) (i : Nat), Rd x (m + 200) → i ≤ statesN s → Rd (iterS (cellS (statesN s)) x i) (m + 300) := fun x i hx hi => (Rd.iter (k := 4) (by omega) (fun _ _ h => h.cell (statesN s)) hx i).mono (by omega)
  have cC : ∀ (x : Src) (i : Nat), (iterS (cellS (statesN s)) x i).code.length = x.code.length := fun x i => by rw [iterS_cd (cellS_cd _)]
  have mn := l00Min_ok g.actions 4
  have mx := l00Max_ok g.actions 0
  rw [show (if g.actions > 0 then g.actions else 0) = g.actions by split <;> omega] at mx
  rw [show (if g.actions < 4 then g.actions else 4) = g.actions by split <;> omega] at mn
  obtain ⟨gt, ga⟩ := g
  simp only [] at hat hg mn mx eN
  refine callX_of_vc htb hm Try.func21 rfl rfl rfl rfl (ann := fun _ => none) (gh := fun reg_ => match reg_ with | 25 => true | 26 => true | _ => false) ?_
  repeat' ((conv => whnf); first | (guard_target = Done _; refine Done.mk ?_) | (guard_target = RetX _ _; refine RetX.mk ?_ ?_) | (guard_target =~ LoopE 8 _ _ _ _ _ _; refine LoopE.mk { α := Nat × List (List Int) × Src, keep := [0, 3, 4, 5, 6], ov := fun ⟨a, ls, sx⟩ => [(8, I (a : Nat))], hv := fun ⟨a, ls, sx⟩ => [(0, .cc 3 (srcC sx)), (6, .orow none 34 1 (ls.map fun l => [.ows 2 1 (l.map eI)])), (9, .cells [.lw 5, .lw 6])], φ := fun ⟨a, ls, sx⟩ => a ≤ actsN ⟨gt, ga⟩ ∧ ls = runV (rowV (statesN s)) (rowS (statesN s)) (actsF s) a ∧ sx = iterS (rowS (statesN s)) (actsF s) a, μ := fun ⟨a, ls, sx⟩ => actsN ⟨gt, ga⟩ - a } (LoopN.mk ((0, [], iterS atomS (pickS s 6) i) : Nat × List (List Int) × Src) (by exact ⟨Nat.zero_le _, rfl, (by show _ = actsF s; unfold actsF; rw [show i = statesN s by omega])⟩) (by (repeat' ((conv => whnf) <;> (first | exact trivial | refine ⟨?_, ?_⟩ | kernel_rfl))); done) (by (repeat' ((conv => whnf) <;> (first | exact trivial | refine ⟨?_, ?_⟩ | kernel_rfl))); done) (by (repeat' ((conv => whnf) <;> (first | exact trivial | refine ⟨?_, ?_⟩ | exact rfl | (simp only [List.map_append, List.map_cons, List.map_nil, List.map_set]; first | done | rfl)))); done) (fun A ha => ?_) (by intro A; first | rfl | (obtain ⟨_, _⟩ := A; rfl) | (obtain ⟨_, _, _⟩ := A; rfl))); obtain ⟨a, ls, sx⟩ := A; have ha : a ≤ actsN ⟨gt, ga⟩ ∧ ls = runV (rowV (statesN s)) (rowS (statesN s)) (actsF s) a ∧ sx = iterS (rowS (statesN s)) (actsF s) a := ha; have hA2 := ha; have hrl2 : ls.length = a := (by rw [ha.2.1, runV_len]); have hl0 : 0 < ls.length → (ls.getD 0 []).length = statesN s := (by intro h0; rw [ha.2.1, runV_getD _ _ _ (by omega), rowV_len]); have hr9 : Rd sx (m + 120) := (by rw [ha.2.2]; exact (rB a (by omega)).mono (by omega)); have hc9 : sx.code.length ≤ 1000000 := (by rw [ha.2.2]; exact cB a)) | (guard_target =~ LoopE 12 _ _ _ _ _ _; refine LoopE.mk { α := Nat × List Int × Src, keep := [0, 3, 4, 5, 6, 8], ov := fun ⟨i, r, sy⟩ => [(9, .lw 10), (10, I (i : Nat))], hv := fun ⟨i, r, sy⟩ => [(0, .cc 3 (srcC sy)), (10, .row none 2 1 (r.map eI))], φ := fun ⟨i, r, sy⟩ => i ≤ statesN s ∧ r = runV (cellV (statesN s)) (cellS (statesN s)) sx i ∧ sy = iterS (cellS (statesN s)) sx i, μ := fun ⟨i, r, sy⟩ => statesN s - i } (LoopN.mk ((0, [], sx) : Nat × List Int × Src) (by exact ⟨Nat.zero_le _, rfl, rfl⟩) (by (repeat' ((conv => whnf) <;> (first | exact trivial | refine ⟨?_, ?_⟩ | kernel_rfl))); done) (by (repeat' ((conv => whnf) <;> (first | exact trivial | refine ⟨?_, ?_⟩ | kernel_rfl))); done) (by (repeat' ((conv => whnf) <;> (first | exact trivial | refine ⟨?_, ?_⟩ | exact rfl | (simp only [List.map_append, List.map_cons, List.map_nil, List.map_set]; first | done | rfl)))); done) (fun A ha => ?_) (by intro A; first | rfl | (obtain ⟨_, _⟩ := A; rfl) | (obtain ⟨_, _, _⟩ := A; rfl))); obtain ⟨i, r, sy⟩ := A; have ha : i ≤ statesN s ∧ r = runV (cellV (statesN s)) (cellS (statesN s)) sx i ∧ sy = iterS (cellS (statesN s)) sx i := ha; have hr3 : Rd sy (m + 300) := (by rw [ha.2.2]; exact rC _ _ (by rw [hA2.2.2]; exact (rB a (by omega)).mono (by omega)) ha.1); have hc3 : sy.code.length ≤ 1000000 := (by rw [ha.2.2, cC, hA2.2.2]; exact cB a); have hrl3 : r.length = i := (by rw [ha.2.1, runV_len])) | (guard_target =~ LoopE 4 _ _ _ _ _ _; refine LoopE.mk { α := Nat × List Int, keep := [0, 3, 4, 5, 6], ov := fun ⟨i, l⟩ => [(7, I (i : Nat))], hv := fun ⟨i, l⟩ => [(0, .cc 3 (srcC (iterS atomS (pickS s 6) i))), (5, .row none 2 1 (l.map eI)), (9, .cells [.lw 5, .lw 6])], φ := fun ⟨i, l⟩ => i ≤ statesN s ∧ l = runV (atomV A) atomS (pickS s 6) i, μ := fun ⟨i, l⟩ => statesN s - i } (LoopN.mk ((0, []) : Nat × List Int) (by exact ⟨Nat.zero_le _, rfl⟩) (by (repeat' ((conv => whnf) <;> (first | exact trivial | refine ⟨?_, ?_⟩ | kernel_rfl))); done) (by (repeat' ((conv => whnf) <;> (first | exact trivial | refine ⟨?_, ?_⟩ | kernel_rfl))); done) (by (repeat' ((conv => whnf) <;> (first | exact trivial | refine ⟨?_, ?_⟩ | exact rfl | (simp only [List.map_append, List.map_cons, List.map_nil, List.map_set]; first | done | rfl)))); done) (fun A ha => ?_) (by intro A; first | rfl | (obtain ⟨_, _⟩ := A; rfl) | (obtain ⟨_, _, _⟩ := A; rfl))); obtain ⟨i, l⟩ := A; have ha : i ≤ statesN s ∧ l = runV (atomV A) atomS (pickS s 6) i := ha; have hA1 := ha; have hi8 := b8 i; have hrl : l.length = i := (by rw [ha.2, runV_len])) | (guard_target = Gh _ _ _ _ _; refine Gh.go ⟨((i + 1, r ++ [-1], pickS sy 10) : Nat × List Int × Src), (by exact cell_yes ha (by omega) (by assumption)), (by first | (show _ < _; simp only []; omega) | omega | (simp; omega)), (by (repeat' ((conv => whnf) <;> (first | exact trivial | refine ⟨?_, ?_⟩ | kernel_rfl))); done), (by (repeat' ((conv => whnf) <;> (first | exact trivial | refine ⟨?_, ?_⟩ | kernel_rfl))); done), (by (repeat' ((conv => whnf) <;> (first | exact trivial | refine ⟨?_, ?_⟩ | exact rfl | (simp only [List.map_append, List.map_cons, List.map_nil]; first | done | rfl)))); done)⟩) | (guard_target = Gh _ _ _ _ _; refine Gh.go ⟨((i + 1, r ++ [pickV (pickS sy 10) (1 + pickV s 6)], pickS (pickS sy 10) (1 + pickV s 6)) : Nat × List Int × Src), (by exact cell_no ha (by omega) (by assumption) w3), (by first | (show _ < _; simp only []; omega) | omega | (simp; omega)), (by (repeat' ((conv => whnf) <;> (first | exact trivial | refine ⟨?_, ?_⟩ | kernel_rfl))); done), (by (repeat' ((conv => whnf) <;> (first | exact trivial | refine ⟨?_, ?_⟩ | kernel_rfl))); done), (by (repeat' ((conv => whnf) <;> (first | exact trivial | refine ⟨?_, ?_⟩ | exact rfl | (simp only [List.map_append, List.map_cons, List.map_nil]; first | done | rfl)))); done)⟩) | (guard_target = Gh _ _ _ _ _; refine Gh.go ⟨((a + 1, ls ++ [r], sy) : Nat × List (List Int) × Src), (by exact row_next hA2 ha (by omega) (by omega)), (by first | (show _ < _; simp only []; omega) | omega | (simp; omega)), (by (repeat' ((conv => whnf) <;> (first | exact trivial | refine ⟨?_, ?_⟩ | kernel_rfl))); done), (by (repeat' ((conv => whnf) <;> (first | exact trivial | refine ⟨?_, ?_⟩ | kernel_rfl))); done), (by (repeat' ((conv => whnf) <;> (first | exact trivial | refine ⟨?_, ?_⟩ | exact rfl | (simp only [List.map_append, List.map_cons, List.map_nil]; first | done | rfl)))); done)⟩) | (guard_target = Gh _ _ _ _ _; refine Gh.go ⟨((i + 1, l ++ [atomV A (iterS atomS (pickS s 6) i)]) : Nat × List Int), (by exact ⟨by show i + 1 ≤ _; omega, by show l ++ _ = _; rw [runV_succ, ha.2]⟩), (by first | (show _ < _; simp only []; omega) | omega | (simp; omega)), (by (repeat' ((conv => whnf) <;> (first | exact trivial | refine ⟨?_, ?_⟩ | kernel_rfl))); done), (by (repeat' ((conv => whnf) <;> (first | exact trivial | refine ⟨?_, ?_⟩ | kernel_rfl))); done), (by (repeat' ((conv => whnf) <;> (first | exact trivial | refine ⟨?_, ?_⟩ | exact rfl | (simp only [List.map_append, List.map_cons, List.map_nil]; first | done | rfl)))); done)⟩) | (guard_target = Fact _ _; refine Fact.mk fun hL => ?_; (try simp only [List.length_map, maxLen] at hL)) | (guard_target = Branch _ _ _; (first | refine Branch.dec ?_ ?_ | refine Branch.beq ?_ ?_ | refine Branch.bne ?_ ?_ | refine Branch.ndec ?_ ?_ | refine Branch.nb ?_ ?_ | refine Branch.mk ?_ ?_) <;> intro h <;> (try simp only [List.length_map] at h) <;> (try omega) <;> (try contradiction)) | (guard_target = CallN _ 52 _ _ _ _; refine CallN.pure _ _ rfl (mn) rfl _ rfl ?_) | (guard_target = CallN _ 53 _ _ _ _; refine CallN.pure _ _ rfl (mx) rfl _ rfl ?_) | (guard_target = CallN _ 51 _ _ _ _; refine CallN.pure _ _ rfl (hat) rfl _ rfl ?_) | (guard_target = CallN _ 37 _ _ _ _; (first | refine CallN.gen [true, false] _ _ _ rfl q6 rfl rfl _ rfl ?_ | refine CallN.gen [true, false] _ _ _ rfl (q8 i (by omega)) rfl rfl _ rfl ?_ | refine CallN.gen [true, false] _ _ _ rfl (pick_ok (pickS sy 10) ((hr3.pick 10).mono (by omega)) (by rw [pick_cd]; exact hc3) (1 + pickV s 6) (by unfold I64; omega)) rfl rfl _ rfl ?_)) | (guard_target = CallN _ 54 _ _ _ _; refine CallN.gen [true, false] _ _ _ rfl (one_ok sy (hr3.mono (by omega)) hc3 10 i10) rfl rfl _ rfl ?_) | (guard_target = CallN _ 37 _ _ _ _; refine CallN.gen [true, false] _ _ _ rfl (pick_ok sx (hr9.mono (by omega)) hc9 30 i30) rfl rfl _ rfl ?_) | (guard_target = CallN _ 55 _ _ _ _; (first | refine CallN.gen [true, true] _ _ _ rfl (amongO_ok [-1, 8] (by decide) (pickS sx 30) ((hr9.pick 30).mono (by omega)) (by rw [pick_cd]; exact hc9)) rfl rfl _ rfl ?_ | refine CallN.gen [true, true] _ _ _ rfl (amongO_ok [-2, 1 + pickV s 6] (by simp) (pickS sx 30) ((hr9.pick 30).mono (by omega)) (by rw [pick_cd]; exact hc9)) rfl rfl _ rfl ?_)) | (guard_target = Gh _ _ _ _ _; (first | (refine Gh.closes 6 0 0 10 rfl (set_get (by rw [List.length_map]; omega)) rfl rfl rfl (Gh.go ?_); have mk26 := True.intro) | (have _ : pickV sx 30 = 2 ∧ 0 < ls.length := (by omega); refine Gh.go ?_) | (refine Gh.go ?_; have mk26 := True.intro))) | (guard_target = GhO _ _ _ _; (first | (have _ := mk26; refine GhO.go ?_) | refine GhO.opens 6 0 0 rfl (idx_getD (l := ls) (d := []) (i := 0) (by omega)) rfl fun v => GhO.go ?_)) | (guard_target = Arith _ _ _; refine Arith.fit (wrap_fit (by first | omega | (simp only [List.length_map]; omega)) (by first | omega | (simp only [List.length_map]; omega))) ?_) | (guard_target = Arith _ _ _; refine Arith.fit (by decide) ?_) | (guard_target = Index _ _ _; first | refine Index.mk _ (set_get (by rw [List.length_map]; omega)) ?_ | refine Index.mk _ (idx_map (by omega)) ?_) | (guard_target = Need (_ = true) _; refine Need.mk (by first | kernel_rfl | rfl) ?_) | (guard_target = LinkV _ _ _; first | refine LinkV.row 10 rfl ?_ | refine LinkV.orow 10 rfl ?_ | refine LinkV.no ?_) | (guard_target = GhO _ _ _ _; refine GhO.go ?_) | (guard_target = Need _ _; refine Need.mk (by first | ((simp only [List.length_set, List.length_map]; omega)) | ((simp only [List.length_map]; rw [hl0 (by omega)]; omega)) | ((simp only [List.length_map, List.length_cons, List.length_nil, maxLen]; constructor <;> omega)) | omega | (simp only [List.length_map]; omega)) ?_))
  all_goals (obtain ⟨q1, q2, q3⟩ := world_end (A := A) (g := ⟨gt, ga⟩) hA1 (by omega) hA2 (by omega))
  all_goals (first | (have h0 : pickV sx 30 = 0 := (by assumption); obtain ⟨z1, z2⟩ := world0 (A := A) q3 h0) | (have h0 : pickV sx 30 = 1 := (by assumption); obtain ⟨z1, z2⟩ := world1 (A := A) q3 h0) | (have h0 : pickV sx 30 = 2 := (by assumption); have h00 : 0 < ls.length := (by omega); obtain ⟨z1, z2⟩ := world2 (A := A) q3 h0 (by omega)) | (obtain ⟨z1, z2⟩ := world3 (A := A) (g := ⟨gt, ga⟩) q3 (by omega) (by omega) (by omega)))
  all_goals (rw [← q1, ← q2] at z2)
  all_goals (first | (rw [z1]; exact ⟨rfl, trivial⟩) | (rw [z2]; simp only [← bendAtom_set, List.map_append]; rfl) | (rw [z2]; refine Eq.trans ?_ (congrArg (fun z => SV.a 2 [.ows 2 1 (l.map eI), .own 34 1 z]) (bendHead_set (amongV [-2, (statesN s : Int)] (pickS sx 30)) v ls)); rw [w3]; rfl))
theorem world_ro : CallX Try.prog 21 [.c (.op (srcC s)), .a 2 [J g.tests, J g.actions]] [some [.op (srcC (worldS g s))], none] (.a 2 (encWorld ⟨(worldD A g s).1, (worldD A g s).2⟩)) := by
  refine (world_ok g hg s m hs hq hc A hA hat).soft ?_
  show SoftT _ (SV.a 2 [_, _])
  rw [show ((worldD A g s).2.map fun l => [CV.ro 1 (l.map eI)]) = roLL ((worldD A g s).2.map fun l => [CV.ows 2 1 (l.map eI)]) from (roLL_of (f := fun (l : List Int) => [CV.ows 2 1 (l.map eI)]) (g := fun l => [CV.ro 1 (l.map eI)]) (fun l => rfl) _).symm]
  exact .v (.a (.ro (.ro .nil)))
end
end Go.Proofs.Ytlfigjkddnncgaa
