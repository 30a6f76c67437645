/- Part of a proof engine for functions of the given program: what a function reads may be given up to it, with the memory that it owns. No conditions. -/
import Derived.Test.YtaajacnceocpoaaGreatTy
import Derived.Test.YtaajacnceocpoaaGreatEngY
import Derived.Test.YtaajacnceocpoaaGreatEngX
import Derived.Test.YtaajacnceocpoaaGreatSz
import Derived.Test.YtaajacnceocpoaaGreatTo
import Derived.Test.YtaajacnceocpoaaGreatEq
namespace Go.KA
open Go Go.RowKit
inductive GiveA : List SV → List SV → Prop
  | nil : GiveA [] []
  | same {s ss ss'} (h : GiveA ss ss') : GiveA (s :: ss) (s :: ss')
  | c {x ss ss'} (h : GiveA ss ss') : GiveA (.c x :: ss) (.c (roC x) :: ss')
theorem ADen.okMono {w : World} {ok ok' : Nat → Prop} {s : SV} {v : Value} {f : List Nat} (h : ADen w ok s v f) (hok : ∀ b, ok b → ok' b) : ADen w ok' s v f := by
  cases h with
  | v hv => exact .v fun ρ => (hv ρ).mono (fun _ _ => rfl) hok (Ext.refl _)
  | o hd => exact .o (hd.mono (fun _ _ => rfl) hok fun _ _ => rfl)
  | m hd => exact .m (hd.mono (fun _ _ => rfl) hok fun _ _ => rfl)
theorem GiveA.al {w : World} {ok : Nat → Prop} {ss ss' : List SV} (h : GiveA ss ss') : ∀ {vs : List Value} {f : List Nat}, f.Nodup → AL w ok ss vs f →
    ∃ f1, f1.Sublist f ∧ ∀ ok' : Nat → Prop, (∀ b, ok b → ok' b) → (∀ b ∈ f, b ∉ f1 → ok' b) → AL w ok' ss' vs f1 := by
  induction h with
  | nil => intro vs f hf ha; cases ha; exact ⟨[], List.Sublist.refl _, fun _ _ _ => .nil⟩
  | same h ih =>
    intro vs f hf ha
    cases ha with
    | @cons _ v g _ vs k h0 ht =>
      rw [List.nodup_append] at hf
      obtain ⟨f1, hs, hd⟩ := ih hf.2.1 ht
      refine ⟨g ++ f1, (List.Sublist.refl _).append hs, fun ok' hok hb => .cons (h0.okMono hok) (hd ok' hok fun b hb1 hb2 => hb b (by simp [hb1]) fun hm => ?_)⟩
      rcases List.mem_append.1 hm with hm | hm
      · exact hf.2.2 b hm b hb1 rfl
      · exact hb2 hm
  | c h ih =>
    intro vs f hf ha
    cases ha with
    | @cons _ v g _ vs k h0 ht =>
      rw [List.nodup_append] at hf
      obtain ⟨f1, hs, hd⟩ := ih hf.2.1 ht
      refine ⟨f1, List.sublist_append_of_sublist_right hs, fun ok' hok hb => ?_⟩
      have h1 := hd ok' hok fun b hb1 hb2 => hb b (by simp [hb1]) hb2
      have hg : ∀ b ∈ g, ok' b := fun b hbg => hb b (by simp [hbg]) fun hm => hf.2.2 b hbg b (hs.subset hm) rfl
      have key : ∀ {x : CV} {v : Value} {g : List Nat}, Den w ok [x] [v] g → (∀ b ∈ g, ok' b) → ADen w ok' (.c (roC x)) v [] := fun hd hg => .o (den_ro hd hok hg)
      cases h0 with
      | v hv =>
        cases hv (fun _ => none) with
        | c hc => cases hc with | c hd => exact .cons (f := []) (key hd (by simp)) h1
      | o hd => exact .cons (f := []) (key hd hg) h1
theorem CallX.give {P : Program} {f : Nat} {args args' : List SV} {outs : List (Option (List CV))} {r : SV} (h : CallX P f args' outs r) (hg : GiveA args args') : CallX P f args outs r := by
  refine ⟨h.1, fun w ok vs fs h1 h2 h3 h4 => ?_⟩
  obtain ⟨f1, hs, hd⟩ := hg.al h3 h2
  have h5 := h.2 w (fun b => ok b ∨ (b ∈ fs ∧ b ∉ f1)) vs f1 (fun b hb => hb.elim (h1 b) fun hb => (h4 b hb.1).1) (hd _ (fun b hb => .inl hb) (fun b hb hb2 => .inr ⟨hb, hb2⟩)) (h3.sublist hs)
    (fun b hb => ⟨(h4 b (hs.subset hb)).1, fun hk => hk.elim (h4 b (hs.subset hb)).2 fun hk => hk.2 hb⟩)
  refine h5.mono ?_
  rintro e w' ⟨v, fr, fo, rfl, hgr, hn, hb, ho, hou⟩
  have e : okX (fun b => ok b ∨ (b ∈ fs ∧ b ∉ f1)) f1 (fr ++ fo) w w' = okX ok fs (fr ++ fo) w w' := by
    funext b
    have : ((ok b ∨ (b ∈ fs ∧ b ∉ f1)) ∨ b ∈ f1 ∨ w.heap.size ≤ b) ↔ (ok b ∨ b ∈ fs ∨ w.heap.size ≤ b) := by
      have := @List.Sublist.subset _ _ _ hs b
      by_cases h : b ∈ f1
      · have := this h
        simp [h, this]
      · simp [h, or_assoc]
    unfold okX
    rw [this]
  rw [e] at ho hou
  refine ⟨v, fr, fo, rfl, ⟨hgr.os, hgr.tape, hgr.output, hgr.size, fun b hb hbn => hgr.block b hb fun hm => hbn (hs.subset hm)⟩, hn, fun b hbm => ⟨?_, (hb b hbm).2⟩, ho, hou⟩
  exact (hb b hbm).1.imp_left fun h => hs.subset h
end Go.KA

namespace Go.KA
open Go Go.RowKit
inductive ReC : List CV → List CV → Prop
  | nil : ReC [] []
  | same {c cs cs'} (h : ReC cs cs') : ReC (c :: cs) (c :: cs')
  | cb {b cs cs'} (h : ReC cs cs') : ReC (.cb b :: cs) (.val (.bool b) :: cs')
  | op {a a' cs cs'} (k : ReC a a') (h : ReC cs cs') : ReC (.op a :: cs) (.op a' :: cs')
theorem ReC.den {w : World} {ok : Nat → Prop} {cs cs' : List CV} (h : ReC cs cs') : ∀ {vs : List Value} {f : List Nat}, Den w ok cs vs f → Den w ok cs' vs f := by
  induction h with
  | nil => intro vs f h; exact h
  | same h ih =>
    intro vs f hd
    cases hd with
    | any h1 ht => exact .any h1 (ih ht)
    | val h1 ht => exact .val h1 (ih ht)
    | cb ht => exact .cb (ih ht)
    | ro a b c d e f ht => exact .ro a b c d e f (ih ht)
    | rp a b c d ht => exact .rp a b c d (ih ht)
    | own a b c ht => exact .own a b c (ih ht)
    | ows a b c ht => exact .ows a b c (ih ht)
    | ownp a b c ht => exact .ownp a b c (ih ht)
    | op a b ht => exact .op a b (ih ht)
    | bld a b c ht => exact .bld a b c (ih ht)
  | cb h ih =>
    intro vs f hd
    cases hd with
    | cb ht => exact .val rfl (ih ht)
  | op k h ihk ih =>
    intro vs f hd
    cases hd with
    | op a b ht => exact .op a (ihk b) (ih ht)
inductive ReO : List (Option (List CV)) → List (Option (List CV)) → Prop
  | nil : ReO [] []
  | same {o os os'} (h : ReO os os') : ReO (o :: os) (o :: os')
  | re {cs cs' os os'} (k : ReC cs cs') (h : ReO os os') : ReO (some cs :: os) (some cs' :: os')
theorem ReC.op_at {cs cs' : List CV} (h : ReC cs cs') : ∀ (i : Nat) (x : List CV), cs'[i]? = some (.op x) → ∃ y, cs[i]? = some (.op y) := by
  induction h with
  | nil => intro i x hx; simp at hx
  | @same c cs cs' h ih =>
    intro i x hx
    cases i with
    | zero => exact ⟨x, hx⟩
    | succ i => exact ih i x hx
  | @cb b cs cs' h ih =>
    intro i x hx
    cases i with
    | zero => simp at hx
    | succ i => exact ih i x hx
  | @op a a' cs cs' k h _ ih =>
    intro i x hx
    cases i with
    | zero => exact ⟨a, rfl⟩
    | succ i => exact ih i x hx
theorem Keep.re {w0 w : World} {v : Value} {cs cs' : List CV} (h : Keep w0 w v cs) (k : ReC cs cs') : Keep w0 w v cs' := by
  intro cells' e
  subst e
  cases k with
  | same k => cases k; exact h cells' rfl
  | @op a _ _ _ ka k =>
    cases k
    intro b ty ty' arr arr' h1 h2 h3 i x hx
    obtain ⟨y, hy⟩ := ka.op_at i x hx
    exact h a rfl b ty ty' arr arr' h1 h2 h3 i y hy
theorem ReO.den {w0 w : World} {ok : Nat → Prop} {os os' : List (Option (List CV))} (h : ReO os os') : ∀ {vs : List Value} {f : List Nat}, OutL w0 w ok os vs f → OutL w0 w ok os' vs f := by
  induction h with
  | nil => intro vs f h; exact h
  | same h ih =>
    intro vs f ho
    cases ho with
    | none ht => exact .none (ih ht)
    | some hd hk ht => exact .some hd hk (ih ht)
  | re k h ih =>
    intro vs f ho
    cases ho with
    | some hd hk ht => exact .some (k.den hd) (hk.re k) (ih ht)
end Go.KA

namespace Go.Proofs.YtaajacnceocpoaaGreat
open Go Go.KA Go.Proofs
theorem _root_.Go.KA.Branch.dec {p : Prop} {_i : Decidable p} {A B : Prop} (t : p → A) (f : ¬ p → B) : Branch (decide p) A B := Branch.mk (fun h => t (of_decide_eq_true h)) (fun h => f (of_decide_eq_false h))
theorem _root_.Go.KA.Branch.ndec {p : Prop} {_i : Decidable p} {A B : Prop} (t : ¬ p → A) (f : p → B) : Branch (!(decide p)) A B := Branch.mk (fun h => t (by simpa using h)) (fun h => f (by simpa using h))
theorem _root_.Go.KA.Branch.beq {a b : Int} {A B : Prop} (t : a = b → A) (f : ¬ a = b → B) : Branch (a == b) A B := Branch.mk (fun h => t (by simpa using h)) (fun h => f (by simpa using h))
theorem _root_.Go.KA.Branch.bne {a b : Int} {A B : Prop} (t : ¬ a = b → A) (f : a = b → B) : Branch (a != b) A B := Branch.mk (fun h => t (by simpa using h)) (fun h => f (by simpa using h))
theorem _root_.Go.KA.Branch.nb {b : Bool} {A B : Prop} (t : b = false → A) (f : b = true → B) : Branch (!b) A B := Branch.mk (fun h => t (by simpa using h)) (fun h => f (by simpa using h))
abbrev J (n : Int) : CV := .val (.int .i64 n)
def rng (lo hi n : Int) : Bool := decide (lo ≤ n) && decide (n ≤ hi)
theorem within_ok (n lo hi : Int) : CallF Tryz.prog 51 [I n, I lo, I hi] (B (rng lo hi n)) := by
  refine callF_of_vc htb hm Tryz.func51 rfl rfl rfl rfl (ann := fun _ => none) (gh := fun _ => false) ?_
  refine Branch.mk (fun h => ?_) (fun h => ?_)
  · refine Done.mk ?_
    unfold rng; rw [h]; rfl
  · refine Done.mk ?_
    unfold rng; rw [h]; rfl
theorem l00In_ok (n lo hi : Int) : CallF Tryz.prog 98 [I n, I lo, I hi] (B (rng lo hi n)) := by
  refine callF_of_vc htb hm Tryz.func98 rfl rfl rfl rfl (ann := fun _ => none) (gh := fun _ => false) ?_
  refine Branch.mk (fun h => ?_) (fun h => ?_)
  · have h1 : decide (lo ≤ n) = true := by simpa using h
    refine Done.mk ?_
    unfold rng; rw [h1]; rfl
  · have h1 : decide (lo ≤ n) = false := by simpa using h
    refine Done.mk ?_
    unfold rng; rw [h1]; rfl
def goodSig (a b : Int) : Bool := rng 0 3 a && rng 0 4 b
theorem validSig_ok (a b : Int) : CallF Tryz.prog 103 [.a 2 [J a, J b]] (B (goodSig a b)) := by
  refine callF_of_vc htb hm Tryz.func103 rfl rfl rfl rfl (ann := fun _ => none) (gh := fun _ => false) ?_
  refine CallN.pure _ _ rfl (within_ok _ _ _) rfl _ rfl ?_
  refine Branch.mk (fun h => ?_) (fun h => ?_)
  · refine CallN.pure _ _ rfl (within_ok _ _ _) rfl _ rfl ?_
    refine Done.mk ?_
    unfold goodSig; rw [h]; rfl
  · refine Done.mk ?_
    unfold goodSig; rw [h]; rfl
theorem l01Sig_ok (a b : Int) : CallF Tryz.prog 87 [.a 2 [J a, J b]] (B (goodSig a b)) := by
  refine callF_of_vc htb hm Tryz.func87 rfl rfl rfl rfl (ann := fun _ => none) (gh := fun _ => false) ?_
  refine CallN.pure _ _ rfl (l00In_ok _ _ _) rfl _ rfl ?_
  refine Branch.mk (fun h => ?_) (fun h => ?_)
  · refine CallN.pure _ _ rfl (l00In_ok _ _ _) rfl _ rfl ?_
    refine Done.mk ?_
    unfold goodSig; rw [h]; rfl
  · refine Done.mk ?_
    unfold goodSig; rw [h]; rfl

/-! ### Expressions -/
abbrev toldE (e : XExpr) : List CV := [J e.kind, J e.num, .ro 3 (e.kids.map encExpr)]
def noneB (e : XExpr) : Bool := (e.kind == 0) && ((e.num == 0) && ((e.kids.length : Int) == 0))
theorem isNone_ok (e : XExpr) : CallF Tryz.prog 158 [.a 3 (toldE e)] (B (noneB e)) := by
  refine callF_of_vc htb hm Tryz.func158 rfl rfl rfl rfl (ann := fun _ => none) (gh := fun _ => false) ?_
  refine Branch.mk (fun h1 => ?_) (fun h1 => ?_)
  · refine Branch.mk (fun h2 => ?_) (fun h2 => ?_)
    · refine Fact.mk fun _ => ?_
      refine Done.mk ?_
      unfold noneB; rw [h1, h2, List.length_map]; rfl
    · refine Done.mk ?_
      unfold noneB; rw [h1, h2]; rfl
  · refine Done.mk ?_
    unfold noneB; rw [h1]; rfl
theorem l06None_ok (e : XExpr) : CallF Tryz.prog 152 [.c (.rp 3 (toldE e))] (B (noneB e)) := by
  refine callF_of_vc htb hm Tryz.func152 rfl rfl rfl rfl (ann := fun _ => none) (gh := fun _ => false) ?_
  refine Branch.mk (fun h1 => ?_) (fun h1 => ?_)
  · refine Branch.mk (fun h2 => ?_) (fun h2 => ?_)
    · refine Fact.mk fun _ => ?_
      refine Done.mk ?_
      unfold noneB; rw [h1, h2, List.length_map]; rfl
    · refine Done.mk ?_
      unfold noneB; rw [h1, h2]; rfl
  · refine Done.mk ?_
    unfold noneB; rw [h1]; rfl
mutual
def condB : XExpr → Bool
  | .mk kind _ kids => (rng 1 7 kind && !(kind == 4)) && condS kids
def condS : List XExpr → Bool
  | [] => true
  | x :: xs => condB x && condS xs
end
theorem condS_all : ∀ l : List XExpr, condS l = l.all condB
  | [] => rfl
  | x :: xs => by simp only [condS, List.all_cons]; rw [condS_all xs]
theorem condB_eq (e : XExpr) : condB e = ((rng 1 7 e.kind && !(e.kind == 4)) && e.kids.all condB) := by
  cases e
  simp only [condB, condS_all]
  rfl
theorem all_no {α : Type} {p : α → Bool} {l : List α} {i : Nat} (h : i < l.length) (hp : p l[i] = false) : l.all p = false := by
  rw [List.all_eq_false]
  exact ⟨l[i], List.getElem_mem h, by simp [hp]⟩
theorem all_more {α : Type} {p : α → Bool} {l : List α} {i : Nat} (h : i < l.length) (ha : (l.take i).all p = true) (hp : p l[i] = true) : (l.take (i + 1)).all p = true := by
  rw [List.take_add_one, List.getElem?_eq_getElem h, List.all_append, ha]
  simp [hp]
theorem l01Condition_all (e : XExpr) (hx : ∀ x ∈ e.kids, CallF Tryz.prog 154 [.c (.rp 3 (encExpr x))] (B (condB x))) : CallF Tryz.prog 154 [.c (.rp 3 (toldE e))] (B (condB e)) := by
  refine callF_of_vc htb hm Tryz.func154 rfl rfl rfl rfl (ann := fun n => match n with | 4 => some { α := Nat, keep := [0], ov := fun i => [(3, I i)], φ := fun i => i ≤ e.kids.length ∧ (e.kids.take i).all condB = true, μ := fun i => e.kids.length - i } | _ => none) (gh := fun _ => false) ?_
  refine CallN.pure _ _ rfl (l00In_ok _ _ _) rfl _ rfl ?_
  refine Branch.mk (fun h1 => ?_) (fun h1 => ?_)
  · refine Done.mk ?_
    have : rng 1 7 e.kind = false := by simpa using h1
    rw [condB_eq, this]; rfl
  have h1 : rng 1 7 e.kind = true := by simpa using h1
  refine Branch.mk (fun h2 => ?_) (fun h2 => ?_)
  · refine Done.mk ?_
    rw [condB_eq, h1, h2]; rfl
  refine LoopN.mk (0 : Nat) ⟨Nat.zero_le _, rfl⟩ ⟨⟨rfl, rfl⟩, trivial⟩ ⟨⟨rfl, rfl⟩, trivial⟩ trivial ?_ (fun _ => rfl)
  intro (i : Nat) (hi : i ≤ e.kids.length ∧ (e.kids.take i).all condB = true)
  obtain ⟨hi, ha⟩ := hi
  refine Fact.mk fun hL => ?_
  refine Branch.mk (fun h => ?_) (fun h => ?_)
  · have h := of_decide_eq_true h
    rw [List.length_map] at h hL
    have hi' : i < e.kids.length := by omega
    refine Need.mk (by omega) (Index.mk (encExpr e.kids[i]) (by simp [hi']) ?_)
    refine CallN.pure _ _ rfl (hx _ (List.getElem_mem hi')) rfl _ rfl ?_
    refine Branch.mk (fun hb => ?_) (fun hb => ?_)
    · refine Done.mk ?_
      rw [condB_eq, h1, h2, all_no hi' (by simpa using hb)]; rfl
    · simp only [maxLen] at hL
      refine Arith.fit (wrap_fit (by omega) (by omega)) ?_
      exact Gh.go ⟨i + 1, ⟨hi', all_more hi' ha (by simpa using hb)⟩, (by show e.kids.length - (i + 1) < e.kids.length - i; omega), ⟨⟨rfl, rfl⟩, trivial⟩, ⟨⟨rfl, rfl⟩, trivial⟩, trivial⟩
  · have h := of_decide_eq_false h
    rw [List.length_map] at h
    have : i = e.kids.length := by omega
    subst this
    refine Done.mk ?_
    rw [List.take_length] at ha
    rw [condB_eq, h1, h2, ha]; rfl
theorem l01Condition_ok (e : XExpr) : CallF Tryz.prog 154 [.c (.rp 3 (encExpr e))] (B (condB e)) := by
  rw [encExpr_eq]
  exact l01Condition_all e fun x _hx => l01Condition_ok x
  termination_by SizeOf.sizeOf e
  decreasing_by
    have := List.sizeOf_lt_of_mem _hx
    cases e
    simp only [XExpr.mk.sizeOf_spec]
    show SizeOf.sizeOf x < _
    simp only [XExpr.kids] at this
    omega
end Go.Proofs.YtaajacnceocpoaaGreat

namespace Go.Proofs.YtaajacnceocpoaaGreat
open Go Go.KA Go.Proofs
def kidsN (k : Int) : Int := if k == 1 || (k == 2 || (k == 3 || k == 4)) then 0 else if k == 5 || k == 8 then 1 else if k == 6 || k == 7 then 2 else -1
theorem l01Kids_ok (k : Int) : CallF Tryz.prog 153 [I k] (I (kidsN k)) := by
  refine callF_of_vc htb hm Tryz.func153 rfl rfl rfl rfl (ann := fun _ => none) (gh := fun _ => false) ?_
  refine Branch.mk (fun h1 => Done.mk (by simp [kidsN, h1]; rfl)) (fun h1 => ?_)
  refine Branch.mk (fun h2 => Done.mk (by simp [kidsN, h1, h2]; rfl)) (fun h2 => ?_)
  refine Branch.mk (fun h3 => Done.mk (by simp [kidsN, h1, h2, h3]; rfl)) (fun h3 => ?_)
  refine Branch.mk (fun h4 => Done.mk (by simp [kidsN, h1, h2, h3, h4]; rfl)) (fun h4 => ?_)
  refine Branch.mk (fun h5 => Done.mk (by simp [kidsN, h1, h2, h3, h4, h5]; rfl)) (fun h5 => ?_)
  refine Branch.mk (fun h8 => Done.mk (by simp [kidsN, h1, h2, h3, h4, h5, h8]; rfl)) (fun h8 => ?_)
  refine Branch.mk (fun h6 => Done.mk (by simp [kidsN, h1, h2, h3, h4, h5, h6, h8]; rfl)) (fun h6 => ?_)
  refine Branch.mk (fun h7 => Done.mk (by simp [kidsN, h1, h2, h3, h4, h5, h6, h7, h8]; rfl)) (fun h7 => ?_)
  exact Done.mk (by simp [kidsN, h1, h2, h3, h4, h5, h6, h7, h8]; rfl)
theorem kidsOf_ok (k : Int) : CallF Tryz.prog 160 [I k] (I (kidsN k)) := by
  refine callF_of_vc htb hm Tryz.func160 rfl rfl rfl rfl (ann := fun _ => none) (gh := fun _ => false) ?_
  refine Branch.mk (fun h1 => Done.mk (by simp [kidsN, h1]; rfl)) (fun h1 => ?_)
  refine Branch.mk (fun h2 => Done.mk (by simp [kidsN, h1, h2]; rfl)) (fun h2 => ?_)
  refine Branch.mk (fun h3 => Done.mk (by simp [kidsN, h1, h2, h3]; rfl)) (fun h3 => ?_)
  refine Branch.mk (fun h4 => Done.mk (by simp [kidsN, h1, h2, h3, h4]; rfl)) (fun h4 => ?_)
  refine Branch.mk (fun h5 => Done.mk (by simp [kidsN, h1, h2, h3, h4, h5]; rfl)) (fun h5 => ?_)
  refine Branch.mk (fun h8 => Done.mk (by simp [kidsN, h1, h2, h3, h4, h5, h8]; rfl)) (fun h8 => ?_)
  refine Branch.mk (fun h6 => Done.mk (by simp [kidsN, h1, h2, h3, h4, h5, h6, h8]; rfl)) (fun h6 => ?_)
  refine Branch.mk (fun h7 => Done.mk (by simp [kidsN, h1, h2, h3, h4, h5, h6, h7, h8]; rfl)) (fun h7 => ?_)
  exact Done.mk (by simp [kidsN, h1, h2, h3, h4, h5, h6, h7, h8]; rfl)
theorem isCondition_all (e : XExpr) (hx : ∀ x ∈ e.kids, CallF Tryz.prog 161 [.a 3 (encExpr x)] (B (condB x))) : CallF Tryz.prog 161 [.a 3 (toldE e)] (B (condB e)) := by
  refine callF_of_vc htb hm Tryz.func161 rfl rfl rfl rfl (ann := fun n => match n with | 10 => some { α := Nat, keep := [2, 15, 16], ov := fun i => [(17, I i)], φ := fun i => i ≤ e.kids.length ∧ (e.kids.take i).all condB = true, μ := fun i => e.kids.length - i } | _ => none) (gh := fun _ => false) ?_
  refine Branch.mk (fun hh => ?_) (fun h1 => Branch.mk (fun hh => ?_) (fun h2 => Branch.mk (fun hh => ?_) (fun h3 => Branch.mk (fun hh => ?_) (fun h5 => Branch.mk (fun hh => ?_) (fun h6 => Branch.mk (fun hh => ?_) (fun h7 => ?_))))))
  rotate_left 6
  · refine Done.mk ?_
    have : condB e = false := by
      rw [condB_eq]
      simp only [beq_eq_false_iff_ne, ne_eq] at h1 h2 h3 h5 h6 h7
      have : (rng 1 7 e.kind && !(e.kind == 4)) = false := by
        simp only [rng, Bool.and_eq_false_iff, decide_eq_false_iff_not, Bool.not_eq_false', beq_iff_eq]
        omega
      rw [this]; rfl
    rw [this]; rfl
  all_goals
    have hk : (rng 1 7 e.kind && !(e.kind == 4)) = true := by
      have hq := eq_of_beq hh
      rw [hq]; rfl
    refine Fact.mk fun hL => ?_
    refine LoopN.mk (0 : Nat) ⟨Nat.zero_le _, rfl⟩ ⟨⟨rfl, rfl⟩, trivial⟩ ⟨⟨rfl, rfl⟩, ⟨rfl, rfl⟩, ⟨rfl, rfl⟩, trivial⟩ ⟨⟨rfl, rfl⟩, trivial⟩ ?_ (fun _ => rfl)
    intro (i : Nat) (hi : i ≤ e.kids.length ∧ (e.kids.take i).all condB = true)
    obtain ⟨hi, ha⟩ := hi
    rw [List.length_map] at hL
    refine Branch.mk (fun h => ?_) (fun h => ?_)
    · have h := of_decide_eq_true h
      rw [List.length_map] at h
      have hi' : i < e.kids.length := by omega
      refine Need.mk (by omega) (Index.mk (encExpr e.kids[i]) (by simp [hi']) ?_)
      refine CallN.pure _ _ rfl (hx _ (List.getElem_mem hi')) rfl _ rfl ?_
      refine Branch.mk (fun hb => ?_) (fun hb => ?_)
      · refine Done.mk ?_
        rw [condB_eq, hk, all_no hi' (by simpa using hb)]; rfl
      · simp only [maxLen] at hL
        refine Arith.fit (wrap_fit (by omega) (by omega)) ?_
        exact Gh.go ⟨i + 1, ⟨hi', all_more hi' ha (by simpa using hb)⟩, (by show e.kids.length - (i + 1) < e.kids.length - i; omega), ⟨⟨rfl, rfl⟩, trivial⟩, ⟨⟨rfl, rfl⟩, ⟨rfl, rfl⟩, ⟨rfl, rfl⟩, trivial⟩, ⟨⟨rfl, rfl⟩, trivial⟩⟩
    · have h := of_decide_eq_false h
      rw [List.length_map] at h
      have : i = e.kids.length := by omega
      subst this
      refine Done.mk ?_
      rw [List.take_length] at ha
      rw [condB_eq, hk, ha]; rfl
theorem isCondition_ok (e : XExpr) : CallF Tryz.prog 161 [.a 3 (encExpr e)] (B (condB e)) := by
  rw [encExpr_eq]
  exact isCondition_all e fun x _hx => isCondition_ok x
  termination_by SizeOf.sizeOf e
  decreasing_by
    have := List.sizeOf_lt_of_mem _hx
    cases e
    simp only [XExpr.mk.sizeOf_spec]
    show SizeOf.sizeOf x < _
    simp only [XExpr.kids] at this
    omega
end Go.Proofs.YtaajacnceocpoaaGreat

namespace Go.Proofs.YtaajacnceocpoaaGreat
open Go Go.KA Go.Proofs
def nodesE : XExpr → Nat := fun e => budExpr e + 1
mutual
def leftE : XExpr → Int → Int
  | .mk _ _ kids, left => leftS kids (left - 1)
def leftS : List XExpr → Int → Int
  | [], left => left
  | x :: xs, left => if left < 0 then left else leftS xs (leftE x left)
end
mutual
def depthE : XExpr → Nat
  | .mk _ _ kids => depthS kids + 1
def depthS : List XExpr → Nat
  | [] => 0
  | x :: xs => max (depthE x) (depthS xs)
end
theorem depthE_eq (e : XExpr) : depthE e = depthS e.kids + 1 := by
  cases e
  rfl
theorem leftE_eq (e : XExpr) (left : Int) : leftE e left = leftS e.kids (left - 1) := by
  cases e
  rfl
theorem depthS_take {l : List XExpr} {i : Nat} (h : i < l.length) : depthS (l.take (i + 1)) = max (depthS (l.take i)) (depthE l[i]) := by
  induction l generalizing i with
  | nil => simp at h
  | cons x xs ih =>
    cases i with
    | zero => simp [depthS]
    | succ i =>
      simp only [List.length_cons, Nat.add_lt_add_iff_right] at h
      simp only [List.take_succ_cons, depthS, List.getElem_cons_succ, ih h]
      omega
mutual
theorem depthE_le : ∀ e : XExpr, depthE e ≤ budExpr e + 1
  | .mk k n kids => by
    have := depthS_le kids
    simp only [depthE, budExpr]
    omega
theorem depthS_le : ∀ l : List XExpr, depthS l ≤ budExprS l
  | [] => Nat.le_refl _
  | x :: xs => by
    have h1 := depthE_le x
    have h2 := depthS_le xs
    simp only [depthS, budExprS]
    omega
end
theorem max_ok (a b : Nat) : CallF Tryz.prog 96 [I a, I b] (I (max a b : Nat)) := by
  refine callF_of_vc htb hm Tryz.func96 rfl rfl rfl rfl (ann := fun _ => none) (gh := fun _ => false) ?_
  refine Branch.mk (fun h => ?_) (fun h => ?_)
  · have h : (a : Int) > b := of_decide_eq_true h
    refine Done.mk ?_
    rw [Nat.max_eq_left (by omega)]; rfl
  · have h : ¬ (a : Int) > b := of_decide_eq_false h
    refine Done.mk ?_
    rw [Nat.max_eq_right (by omega)]; rfl
theorem l01Depth_all (e : XExpr) (hl : budExpr e ≤ 1048576) (hx : ∀ x ∈ e.kids, CallF Tryz.prog 92 [.c (.rp 3 (encExpr x))] (I (depthE x))) : CallF Tryz.prog 92 [.c (.rp 3 (toldE e))] (I (depthE e)) := by
  refine callF_of_vc htb hm Tryz.func92 rfl rfl rfl rfl (ann := fun n => match n with | 3 => some { α := Nat, keep := [0], ov := fun i => [(4, I i), (3, I (depthS (e.kids.take i)))], φ := fun i => i ≤ e.kids.length, μ := fun i => e.kids.length - i } | _ => none) (gh := fun _ => false) ?_
  have hd := depthE_le e
  rw [depthE_eq] at hd
  refine LoopN.mk (0 : Nat) (Nat.zero_le _) ⟨⟨rfl, rfl⟩, ⟨rfl, rfl⟩, trivial⟩ ⟨⟨rfl, rfl⟩, trivial⟩ trivial ?_ (fun _ => rfl)
  intro (i : Nat) (hi : i ≤ e.kids.length)
  refine Fact.mk fun hL => ?_
  refine Branch.mk (fun h => ?_) (fun h => ?_)
  · have h := of_decide_eq_true h
    rw [List.length_map] at h hL
    have hi' : i < e.kids.length := by omega
    refine Need.mk (by omega) (Index.mk (encExpr e.kids[i]) (by simp [hi']) ?_)
    refine CallN.pure _ _ rfl (hx _ (List.getElem_mem hi')) rfl _ rfl ?_
    refine CallN.pure _ _ rfl (max_ok _ _) rfl _ rfl ?_
    simp only [maxLen] at hL
    refine Arith.fit (wrap_fit (by omega) (by omega)) ?_
    refine Gh.go ⟨i + 1, hi', (by show e.kids.length - (i + 1) < e.kids.length - i; omega), ⟨⟨rfl, rfl⟩, ⟨?_, rfl⟩, trivial⟩, ⟨⟨rfl, rfl⟩, trivial⟩, trivial⟩
    exact congrArg (fun n : Nat => I n) (depthS_take hi').symm
  · have h := of_decide_eq_false h
    rw [List.length_map] at h
    have : i = e.kids.length := by omega
    subst this
    refine Arith.fit (wrap_fit (by omega) (by rw [List.take_length]; omega)) ?_
    refine Done.mk ?_
    rw [depthE_eq, List.take_length]; rfl
end Go.Proofs.YtaajacnceocpoaaGreat

namespace Go.Proofs.YtaajacnceocpoaaGreat
open Go Go.KA Go.Proofs
theorem leftS_neg {left : Int} (h : left < 0) : ∀ l : List XExpr, leftS l left = left
  | [] => rfl
  | x :: xs => by simp only [leftS]; rw [if_pos h]
theorem leftS_append : ∀ (l m : List XExpr) (left : Int), leftS (l ++ m) left = leftS m (leftS l left)
  | [], _, _ => rfl
  | x :: xs, m, left => by
    simp only [List.cons_append, leftS]
    by_cases h : left < 0
    · rw [if_pos h, if_pos h, leftS_neg h]
    · rw [if_neg h, if_neg h, leftS_append xs m]
mutual
theorem leftE_range : ∀ (e : XExpr) (left : Int), 0 ≤ left → -1 ≤ leftE e left ∧ leftE e left ≤ left - 1
  | .mk _ _ kids, left, h => by
    have := leftS_range kids (left - 1) (by omega)
    simp only [leftE]
    exact this
theorem leftS_range : ∀ (l : List XExpr) (left : Int), -1 ≤ left → -1 ≤ leftS l left ∧ leftS l left ≤ left
  | [], left, h => ⟨h, Int.le_refl _⟩
  | x :: xs, left, h => by
    simp only [leftS]
    by_cases hn : left < 0
    · rw [if_pos hn]; omega
    · rw [if_neg hn]
      have h1 := leftE_range x left (by omega)
      have h2 := leftS_range xs (leftE x left) h1.1
      omega
end
theorem leftS_take {l : List XExpr} {i : Nat} {left : Int} (h : i < l.length) (hp : 0 ≤ leftS (l.take i) left) : leftS (l.take (i + 1)) left = leftE l[i] (leftS (l.take i) left) := by
  rw [List.take_add_one, List.getElem?_eq_getElem h, leftS_append]
  simp only [Option.toList_some, leftS]
  rw [if_neg (by omega)]
theorem leftS_stop {l : List XExpr} {i : Nat} {left : Int} (hp : leftS (l.take i) left < 0) : leftS l left = leftS (l.take i) left := by
  have h : l = l.take i ++ l.drop i := (List.take_append_drop i l).symm
  conv => lhs; rw [h]
  rw [leftS_append, leftS_neg hp]
theorem l01Left_all (e : XExpr) (left : Int) (h0 : 0 ≤ left) (h1 : left ≤ 1048576) (hx : ∀ x ∈ e.kids, ∀ left : Int, 0 ≤ left → left ≤ 1048576 → CallF Tryz.prog 91 [.c (.rp 3 (encExpr x)), I left] (I (leftE x left))) : CallF Tryz.prog 91 [.c (.rp 3 (toldE e)), I left] (I (leftE e left)) := by
  refine callF_of_vc htb hm Tryz.func91 rfl rfl rfl rfl (ann := fun n => match n with | 3 => some { α := Nat, keep := [0], ov := fun i => [(5, I i), (1, I (leftS (e.kids.take i) (left - 1)))], φ := fun i => i ≤ e.kids.length, μ := fun i => e.kids.length - i } | _ => none) (gh := fun _ => false) ?_
  refine Arith.fit (wrap_fit (by omega) (by omega)) ?_
  refine LoopN.mk (0 : Nat) (Nat.zero_le _) ⟨⟨rfl, rfl⟩, ⟨rfl, rfl⟩, trivial⟩ ⟨⟨rfl, rfl⟩, trivial⟩ trivial ?_ (fun _ => rfl)
  intro (i : Nat) (hi : i ≤ e.kids.length)
  have hr := leftS_range (e.kids.take i) (left - 1) (by omega)
  refine Fact.mk fun hL => ?_
  refine Branch.mk (fun h => ?_) (fun h => ?_)
  · have h := of_decide_eq_true h
    rw [List.length_map] at h hL
    have hi' : i < e.kids.length := by omega
    refine Branch.mk (fun hg => ?_) (fun hg => ?_)
    · have hg : leftS (e.kids.take i) (left - 1) ≥ 0 := of_decide_eq_true hg
      refine Need.mk (by omega) (Index.mk (encExpr e.kids[i]) (by simp [hi']) ?_)
      refine CallN.pure _ _ rfl (hx _ (List.getElem_mem hi') (leftS (e.kids.take i) (left - 1)) (by omega) (by omega)) rfl _ rfl ?_
      simp only [maxLen] at hL
      refine Arith.fit (wrap_fit (by omega) (by omega)) ?_
      refine Gh.go ⟨i + 1, hi', (by show e.kids.length - (i + 1) < e.kids.length - i; omega), ⟨⟨rfl, rfl⟩, ⟨?_, rfl⟩, trivial⟩, ⟨⟨rfl, rfl⟩, trivial⟩, trivial⟩
      exact congrArg I (leftS_take hi' (by omega)).symm
    · have hg : ¬ leftS (e.kids.take i) (left - 1) ≥ 0 := of_decide_eq_false hg
      refine Done.mk ?_
      rw [leftE_eq, leftS_stop (l := e.kids) (i := i) (by omega)]; rfl
  · have h := of_decide_eq_false h
    rw [List.length_map] at h
    have : i = e.kids.length := by omega
    subst this
    refine Done.mk ?_
    rw [leftE_eq, List.take_length]; rfl
theorem l01Left_ok (e : XExpr) (left : Int) (h0 : 0 ≤ left) (h1 : left ≤ 1048576) : CallF Tryz.prog 91 [.c (.rp 3 (encExpr e)), I left] (I (leftE e left)) := by
  rw [encExpr_eq]
  exact l01Left_all e left h0 h1 fun x _hx left h0 h1 => l01Left_ok x left h0 h1
  termination_by SizeOf.sizeOf e
  decreasing_by
    have := List.sizeOf_lt_of_mem _hx
    cases e
    simp only [XExpr.mk.sizeOf_spec]
    show SizeOf.sizeOf x < _
    simp only [XExpr.kids] at this
    omega
theorem l01Depth_ok (e : XExpr) (hl : budExpr e ≤ 1048576) : CallF Tryz.prog 92 [.c (.rp 3 (encExpr e))] (I (depthE e)) := by
  rw [encExpr_eq]
  exact l01Depth_all e hl fun x _hx => l01Depth_ok x (by
    have := budS_mem budExpr _hx
    cases e
    simp only [budExpr, budExprS_eq] at hl
    simp only [XExpr.kids] at this
    omega)
  termination_by SizeOf.sizeOf e
  decreasing_by
    have := List.sizeOf_lt_of_mem _hx
    cases e
    simp only [XExpr.mk.sizeOf_spec]
    show SizeOf.sizeOf x < _
    simp only [XExpr.kids] at this
    omega
end Go.Proofs.YtaajacnceocpoaaGreat
