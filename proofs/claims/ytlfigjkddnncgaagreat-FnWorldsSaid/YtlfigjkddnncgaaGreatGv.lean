/- Part of a proof engine for functions of the given program: what a function reads may be given up to it, with the memory that it owns. No conditions. -/
import Derived.Test.YtlfigjkddnncgaaGreatTy
import Derived.Test.YtlfigjkddnncgaaGreatEngY
import Derived.Test.YtlfigjkddnncgaaGreatEngX
namespace Go.KA
open Go Go.RowKit
inductive GiveA : List SV → List SV → Prop
  | nil : GiveA [] []
  | same {s ss ss'} (h : GiveA ss ss') : GiveA (s :: ss) (s :: ss')
  | c {x ss ss'} (h : GiveA ss ss') : GiveA (.c x :: ss) (.c (roC x) :: ss')
theorem ADen.okMono {w : World} {ok ok' : Nat → Prop} {s : SV} {v : Value} {f : List Nat} (h : ADen w ok s v f) (hok : ∀ b, ok b → ok' b) : ADen w ok' s v f := by
  cases h with
  | v hv => exact .v fun ρ => (hv ρ).mono (fun _ _ => rfl) hok (Ext.refl _)
  | o hd => exact .o (hd.mono (fun _ _ => rfl) hok fun _ _ => rfl)
  | m hd => exact .m (hd.mono (fun _ _ => rfl) hok fun _ _ => rfl)
theorem GiveA.al {w : World} {ok : Nat → Prop} {ss ss' : List SV} (h : GiveA ss ss') : ∀ {vs : List Value} {f : List Nat}, f.Nodup → AL w ok ss vs f →
    ∃ f1, f1.Sublist f ∧ ∀ ok' : Nat → Prop, (∀ b, ok b → ok' b) → (∀ b ∈ f, b ∉ f1 → ok' b) → AL w ok' ss' vs f1 := by
  induction h with
  | nil => intro vs f hf ha; cases ha; exact ⟨[], List.Sublist.refl _, fun _ _ _ => .nil⟩
  | same h ih =>
    intro vs f hf ha
    cases ha with
    | @cons _ v g _ vs k h0 ht =>
      rw [List.nodup_append] at hf
      obtain ⟨f1, hs, hd⟩ := ih hf.2.1 ht
      refine ⟨g ++ f1, (List.Sublist.refl _).append hs, fun ok' hok hb => .cons (h0.okMono hok) (hd ok' hok fun b hb1 hb2 => hb b (by simp [hb1]) fun hm => ?_)⟩
      rcases List.mem_append.1 hm with hm | hm
      · exact hf.2.2 b hm b hb1 rfl
      · exact hb2 hm
  | c h ih =>
    intro vs f hf ha
    cases ha with
    | @cons _ v g _ vs k h0 ht =>
      rw [List.nodup_append] at hf
      obtain ⟨f1, hs, hd⟩ := ih hf.2.1 ht
      refine ⟨f1, List.sublist_append_of_sublist_right hs, fun ok' hok hb => ?_⟩
      have h1 := hd ok' hok fun b hb1 hb2 => hb b (by simp [hb1]) hb2
      have hg : ∀ b ∈ g, ok' b := fun b hbg => hb b (by simp [hbg]) fun hm => hf.2.2 b hbg b (hs.subset hm) rfl
      have key : ∀ {x : CV} {v : Value} {g : List Nat}, Den w ok [x] [v] g → (∀ b ∈ g, ok' b) → ADen w ok' (.c (roC x)) v [] := fun hd hg => .o (den_ro hd hok hg)
      cases h0 with
      | v hv =>
        cases hv (fun _ => none) with
        | c hc => cases hc with | c hd => exact .cons (f := []) (key hd (by simp)) h1
      | o hd => exact .cons (f := []) (key hd hg) h1
theorem CallX.give {P : Program} {f : Nat} {args args' : List SV} {outs : List (Option (List CV))} {r : SV} (h : CallX P f args' outs r) (hg : GiveA args args') : CallX P f args outs r := by
  refine ⟨h.1, fun w ok vs fs h1 h2 h3 h4 => ?_⟩
  obtain ⟨f1, hs, hd⟩ := hg.al h3 h2
  have h5 := h.2 w (fun b => ok b ∨ (b ∈ fs ∧ b ∉ f1)) vs f1 (fun b hb => hb.elim (h1 b) fun hb => (h4 b hb.1).1) (hd _ (fun b hb => .inl hb) (fun b hb hb2 => .inr ⟨hb, hb2⟩)) (h3.sublist hs)
    (fun b hb => ⟨(h4 b (hs.subset hb)).1, fun hk => hk.elim (h4 b (hs.subset hb)).2 fun hk => hk.2 hb⟩)
  refine h5.mono ?_
  rintro e w' ⟨v, fr, fo, rfl, hgr, hn, hb, ho, hou⟩
  have e : okX (fun b => ok b ∨ (b ∈ fs ∧ b ∉ f1)) f1 (fr ++ fo) w w' = okX ok fs (fr ++ fo) w w' := by
    funext b
    have : ((ok b ∨ (b ∈ fs ∧ b ∉ f1)) ∨ b ∈ f1 ∨ w.heap.size ≤ b) ↔ (ok b ∨ b ∈ fs ∨ w.heap.size ≤ b) := by
      have := @List.Sublist.subset _ _ _ hs b
      by_cases h : b ∈ f1
      · have := this h
        simp [h, this]
      · simp [h, or_assoc]
    unfold okX
    rw [this]
  rw [e] at ho hou
  refine ⟨v, fr, fo, rfl, ⟨hgr.os, hgr.tape, hgr.output, hgr.size, fun b hb hbn => hgr.block b hb fun hm => hbn (hs.subset hm)⟩, hn, fun b hbm => ⟨?_, (hb b hbm).2⟩, ho, hou⟩
  exact (hb b hbm).1.imp_left fun h => hs.subset h
end Go.KA
