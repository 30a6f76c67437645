/- A run of events, as a plain function; contracts of the program's and the reference's run. Conditions: the sizes. -/
import Derived.Test.YthgajpkahkhlpaaGreatZT
namespace Go.Proofs.YthgajpkahkhlpaaGreat
open Go Go.KA Go.Proofs
set_option maxHeartbeats 16000000
set_option maxRecDepth 100000
abbrev e00 : XEvent := ⟨0, 0, 0, 0, [], ⟨⟨0, 0⟩, []⟩, []⟩
theorem ite_err {c : Prop} [Decidable c] {p q : Int × XArchive} {a : XArchive} (hp : p.2 = a) (hq : ¬ q.1 = 0 → q.2 = a) (h : ¬ (if c then p else q).1 = 0) : (if c then p else q).2 = a := by
  by_cases hc : c
  · rw [if_pos hc]; exact hp
  · rw [if_neg hc] at h ⊢; exact hq h
theorem ite_err2 {c : Prop} [Decidable c] {p q : Int × XArchive} {a : XArchive} (hp : ¬ p.1 = 0 → p.2 = a) (hq : ¬ q.1 = 0 → q.2 = a) (h : ¬ (if c then p else q).1 = 0) : (if c then p else q).2 = a := by
  by_cases hc : c
  · rw [if_pos hc] at h ⊢; exact hp h
  · rw [if_neg hc] at h ⊢; exact hq h
theorem no0 {a b : XArchive} (h : ¬ ((0 : Int), b).1 = 0) : ((0 : Int), b).2 = a := absurd rfl h
theorem drop_err {a : XArchive} {i : Int} (h : ¬ (doDrop a i).1 = 0) : (doDrop a i).2 = a := by
  unfold doDrop at h ⊢
  exact ite_err rfl no0 h
theorem deliver_err {a : XArchive} {i : Int} (h : ¬ (doDeliver a i).1 = 0) : (doDeliver a i).2 = a := by
  by_cases ht : (doTake a i).1 = 0
  · rw [dlv ht] at h ⊢
    by_cases h9 : (a.flying.length : Int) ≤ i
    · rw [tk_2 h9] at ht
      exact absurd (show (2 : Int) = 0 from ht) (by decide)
    · refine absurd ?_ h
      rw [drp_0 (by rw [take_fly]; omega)]
  · rw [dlv_n ht]
theorem doA_err {a : XArchive} {e : XEvent} (h : ¬ (doA a e).1 = 0) : (doA a e).2 = a := by
  unfold doA at h ⊢
  refine ite_err2 deliver_err (ite_err2 take_err (ite_err2 drop_err (ite_err rfl (ite_err2 (fun h => ?_) (ite_err2 (fun h => ?_) (ite_err2 (fun h => ?_) fun h => ?_)))))) h
  · unfold doPut at h ⊢
    exact ite_err rfl (ite_err rfl (ite_err rfl no0)) h
  · unfold doRevoke at h ⊢
    exact ite_err rfl (ite_err rfl (ite_err rfl no0)) h
  · unfold doSend at h ⊢
    exact ite_err rfl (ite_err rfl (ite_err rfl no0)) h
  · unfold doSave at h ⊢
    exact ite_err rfl (ite_err2 no0 (ite_err2 no0 no0)) h
def runF (p : XArchive × Int) (e : XEvent) : XArchive × Int := if (doA p.1 e).1 = 0 then ((doA p.1 e).2, p.2 + 1) else p
abbrev runE (a : XArchive) (l : List XEvent) : XArchive × Int := l.foldl runF (a, 0)
theorem run_next {p q : XArchive × Int} {l : List XEvent} {i : Nat} (hi : i < l.length) (h : q = (l.take i).foldl runF p) : runF q (l.getD i e00) = (l.take (i + 1)).foldl runF p := by
  rw [List.take_succ_eq_append_getElem hi, List.foldl_append, ← h, getD_eq hi]
  rfl
theorem run_yes {p : XArchive × Int} {e : XEvent} (h : (doA p.1 e).1 = 0) : runF p e = ((doA p.1 e).2, p.2 + 1) := if_pos h
theorem run_no {p : XArchive × Int} {e : XEvent} (h : ¬ (doA p.1 e).1 = 0) : runF p e = ((doA p.1 e).2, p.2) := by
  unfold runF
  rw [if_neg h, doA_err h]
end Go.Proofs.YthgajpkahkhlpaaGreat

namespace Go.Proofs.YthgajpkahkhlpaaGreat
open Go Go.KA Go.Proofs
set_option maxHeartbeats 16000000
set_option maxRecDepth 100000
theorem CallX.ownUpT {P : Program} {f : Nat} {args : List SV} {outs : List (Option (List CV))} {cs cs' : List CV} {n : Nat} {ss : List SV} (h : CallX P f args outs (.tup (.a n cs :: ss))) (hc : OwnUp cs cs') : CallX P f args outs (.tup (.a n cs' :: ss)) := by
  refine ⟨h.1, fun w ok vs fs h1 h2 h3 h4 => (h.2 w ok vs fs h1 h2 h3 h4).mono ?_⟩
  rintro e w' ⟨v, fr, fo, h5, h6, h7, h8, h9, h10⟩
  refine ⟨v, fr, fo, h5, h6, h7, h8, ?_, h10⟩
  cases h9 with
  | v h =>
    cases h with
    | v h =>
      cases h fun _ => none with
      | c h => cases h
  | tup h =>
    cases h with
    | cons ha ht =>
      refine .tup (.cons ?_ ht)
      cases ha with
      | v h =>
        refine .v fun ρ => ?_
        cases h ρ with
        | c h => cases h
        | a a1 a2 => first | exact .a (hc.len ▸ a1) (hc.den a2) | exact .a hc.len.symm (hc.den a2) | exact .a hc.len.symm (hc.den a1)
      | a hl h => exact .a (hc.len ▸ hl) (hc.den h)
theorem zeroUp3 {P : Program} {f : Nat} {args : List SV} {outs : List (Option (List CV))} {ss : List SV} (h : CallX P f args outs (.tup (.a 4 [J 0, J 0, .ows 152 3 [], .ows 239 8 []] :: ss))) : CallX P f args outs (.tup (.a 4 (ownArchive zA) :: ss)) :=
  CallX.ownUpT h (.same (.same (.up (.up .nil))))
abbrev goodL (a : XArchive) (l : List XEvent) : Bool := l.all (goodEvent a.sig.tests a.sig.actions)
noncomputable def runA (a : XArchive) (l : List XEvent) : XArchive × Int × Int := if (goodArch a && goodL a l) = false then (zA, 0, 1) else if (300 : Int) < l.length then (zA, 0, 2) else ((runE a l).1, (runE a l).2, 0)
abbrev resR (p : XArchive × Int × Int) : SV := .tup [.a 4 (ownArchive p.1), I p.2.1, I p.2.2]
theorem bud_at {l : List XEvent} (hl : budS budEvent l ≤ 1048576) {i : Nat} (hi : i < l.length) : budEvent (l.getD i e00) ≤ 1048576 := by
  rw [getD_eq hi]
  exact Nat.le_trans (budS_mem budEvent (List.getElem_mem hi)) hl
theorem good_at {a : XArchive} {l : List XEvent} (h : goodL a l = true) {i : Nat} (hi : i < l.length) : goodEvent a.sig.tests a.sig.actions (l.getD i e00) = true := by
  rw [getD_eq hi]
  exact List.all_eq_true.1 h _ (List.getElem_mem hi)
section
variable (a : XArchive) (l : List XEvent) (hx : budArchive a ≤ 1048576) (hl : budS budEvent l ≤ 1048576)
include hx hl
theorem RunArchive_arch (hg : goodArch a = false) : CallX Tryz.prog 40 [.a 4 (encArchive a), .c (.ro 9 (l.map encEvent))] [] (resR (zA, 0, 1)) := by
  have _ := hl
  have hv := ValidArchive_ok a hx
  rw [hg] at hv
  refine zeroUp3 ?_
  refine callX_of_vc htb hm Tryz.func40 rfl rfl rfl rfl (ann := fun _ => none) (gh := fun _ => false) ?_
  repeat' ((conv => whnf); first | (guard_target = Done _; refine Done.mk ?_) | (guard_target = RetX _ _; refine RetX.mk ?_ ?_) | (guard_target = Fact _ _; refine Fact.mk fun hL => ?_; (try simp only [List.length_map, maxLen] at hL)) | (guard_target = Branch _ _ _; (first | apply Branch.dec | apply Branch.beq | apply Branch.bne | apply Branch.ndec | apply Branch.nb | apply Branch.mk) <;> intro h <;> (try simp only [] at h) <;> (try omega) <;> (try contradiction)) | (guard_target = CallN _ 79 _ _ _ _; refine CallN.pure _ _ rfl (hv) rfl _ rfl ?_) | (guard_target = Arith _ _ _; refine Arith.fit (by apply wrap_fit <;> first | omega | (simp only [List.length_map]; omega)) ?_) | (guard_target = Arith _ _ _; refine Arith.fit (by decide) ?_) | (guard_target = Index _ _ _; first  | refine Index.mk _ (idx_map (by omega)) ?_) | (guard_target = Need (_ = true) _; refine Need.mk (by first | kernel_rfl | rfl) ?_) | (guard_target = LinkV _ _ _; refine LinkV.no ?_) | (guard_target = GhO _ _ _ _; refine GhO.go ?_) | (guard_target = Need _ _; refine Need.mk (by first  | omega | (simp only [List.length_map]; omega)) ?_))
  all_goals first | rfl | trivial | exact ⟨rfl, trivial⟩ | (exfalso; omega)
theorem RunArchive_list (hg : goodArch a = true) (hb : goodL a l = false) : CallX Tryz.prog 40 [.a 4 (encArchive a), .c (.ro 9 (l.map encEvent))] [] (resR (zA, 0, 1)) := by
  have hv := ValidArchive_ok a hx
  rw [hg] at hv
  have hln := budS_len budEvent l
  have hbe := fun i (hi : i < l.length) => (show budProof (l.getD i e00).proof ≤ 1048576 by have := bud_at hl hi; simp only [budEvent] at this; omega)
  refine zeroUp3 ?_
  refine callX_of_vc htb hm Tryz.func40 rfl rfl rfl rfl (ann := fun _ => none) (gh := fun reg_ => match reg_ with | 9 => true | _ => false) ?_
  repeat' ((conv => whnf); first | (guard_target = Done _; refine Done.mk ?_) | (guard_target = RetX _ _; refine RetX.mk ?_ ?_) | (guard_target =~ LoopE 4 _ _ _ _ _ _; refine LoopE.mk { α := Nat, keep := [1, 2, 4, 17, 18], ov := fun i => [(19, I i)], φ := fun i => i ≤ l.length ∧ (l.take i).all (goodEvent a.sig.tests a.sig.actions) = true, μ := fun i => l.length - i } (LoopN.mk (0 : Nat) (by exact ⟨Nat.zero_le _, rfl⟩) (by repeat' first | exact trivial | exact rfl | constructor) (by repeat' first | exact trivial | exact rfl | constructor) (by (repeat' first | exact trivial | exact rfl | refine ⟨?_, ?_⟩ | (simp only [List.map_append, List.map_cons, List.map_nil, List.map_set]; first | done | rfl)); done) (fun (i : Nat) ha => ?_) (by intro A; first | rfl | (obtain ⟨_, _⟩ := A; rfl) | (obtain ⟨_, _, _⟩ := A; rfl))); have ha : i ≤ l.length ∧ (l.take i).all (goodEvent a.sig.tests a.sig.actions) = true := ha) | (guard_target = Gh _ _ _ _ _; refine Gh.go ⟨(i + 1 : Nat), (by (refine all_go (by omega) ha ?_; have h8 := h; rw [getD_eq (by omega)] at h8; exact h8)), (by first | (show _ < _; simp only []; omega) | omega | (simp; omega)), (by repeat' first | exact trivial | exact rfl | constructor), (by repeat' first | exact trivial | exact rfl | constructor), (by (repeat' first | exact trivial | exact rfl | refine ⟨?_, ?_⟩ | (simp only [List.map_append, List.map_cons, List.map_nil, List.map_set]; first | done | rfl)); done)⟩) | (guard_target = Fact _ _; refine Fact.mk fun hL => ?_; (try simp only [List.length_map, maxLen] at hL)) | (guard_target = Branch _ _ _; (first | apply Branch.dec | apply Branch.beq | apply Branch.bne | apply Branch.ndec | apply Branch.nb | apply Branch.mk) <;> intro h <;> (try simp only [List.length_map] at h) <;> (try omega) <;> (try contradiction)) | (guard_target = CallN _ 79 _ _ _ _; refine CallN.pure _ _ rfl (hv) rfl _ rfl ?_) | (guard_target = CallN _ 112 _ _ _ _; refine CallN.pure _ _ rfl (isEvent_ok _ _ (l.getD i e00) (hbe i (by omega))) rfl _ rfl ?_) | (guard_target = Gh _ _ _ _ _; exfalso; have h9 := ha.2; rw [List.take_of_length_le (by omega)] at h9; rw [show l.all _ = false from hb] at h9; exact absurd h9 (by decide)) | (guard_target = Arith _ _ _; refine Arith.fit (by apply wrap_fit <;> first | omega | (simp only [List.length_map]; omega)) ?_) | (guard_target = Arith _ _ _; refine Arith.fit (by decide) ?_) | (guard_target = Index _ _ _; first | refine Index.mk _ (idx_getD (d := e00) (i := i) (by omega)) ?_ | refine Index.mk _ (idx_map (by omega)) ?_) | (guard_target = Need (_ = true) _; refine Need.mk (by first | kernel_rfl | rfl) ?_) | (guard_target = LinkV _ _ _; refine LinkV.no ?_) | (guard_target = GhO _ _ _ _; refine GhO.go ?_) | (guard_target = Need _ _; refine Need.mk (by first  | omega | (simp only [List.length_map]; omega)) ?_))
  all_goals first | rfl | trivial | exact ⟨rfl, trivial⟩ | (exfalso; omega)
theorem RunArchive_long (hg : goodArch a = true) (hb : goodL a l = true) (h3 : (300 : Int) < l.length) : CallX Tryz.prog 40 [.a 4 (encArchive a), .c (.ro 9 (l.map encEvent))] [] (resR (zA, 0, 2)) := by
  have hv := ValidArchive_ok a hx
  rw [hg] at hv
  have hln := budS_len budEvent l
  have hev : ∀ i, i < l.length → CallF Tryz.prog 112 [.a 2 [J a.sig.tests, J a.sig.actions], .a 9 (encEvent (l.getD i e00))] (B true) := fun i hi => by
    have h := isEvent_ok a.sig.tests a.sig.actions (l.getD i e00) (by have := bud_at hl hi; simp only [budEvent] at this; omega)
    rwa [good_at hb hi] at h
  refine zeroUp3 ?_
  refine callX_of_vc htb hm Tryz.func40 rfl rfl rfl rfl (ann := fun _ => none) (gh := fun _ => false) ?_
  repeat' ((conv => whnf); first | (guard_target = Done _; refine Done.mk ?_) | (guard_target = RetX _ _; refine RetX.mk ?_ ?_) | (guard_target =~ LoopE 4 _ _ _ _ _ _; refine LoopE.mk { α := Nat, keep := [1, 2, 4, 17, 18], ov := fun i => [(19, I i)], φ := fun i => i ≤ l.length, μ := fun i => l.length - i } (LoopN.mk (0 : Nat) (by exact Nat.zero_le _) (by repeat' first | exact trivial | exact rfl | constructor) (by repeat' first | exact trivial | exact rfl | constructor) (by (repeat' first | exact trivial | exact rfl | refine ⟨?_, ?_⟩ | (simp only [List.map_append, List.map_cons, List.map_nil, List.map_set]; first | done | rfl)); done) (fun (i : Nat) ha => ?_) (by intro A; first | rfl | (obtain ⟨_, _⟩ := A; rfl) | (obtain ⟨_, _, _⟩ := A; rfl))); have ha : i ≤ l.length := ha) | (guard_target = Gh _ _ _ _ _; refine Gh.go ⟨(i + 1 : Nat), (by (show i + 1 ≤ _; omega)), (by first | (show _ < _; simp only []; omega) | omega | (simp; omega)), (by repeat' first | exact trivial | exact rfl | constructor), (by repeat' first | exact trivial | exact rfl | constructor), (by (repeat' first | exact trivial | exact rfl | refine ⟨?_, ?_⟩ | (simp only [List.map_append, List.map_cons, List.map_nil, List.map_set]; first | done | rfl)); done)⟩) | (guard_target = Fact _ _; refine Fact.mk fun hL => ?_; (try simp only [List.length_map, maxLen] at hL)) | (guard_target = Branch _ _ _; (first | apply Branch.dec | apply Branch.beq | apply Branch.bne | apply Branch.ndec | apply Branch.nb | apply Branch.mk) <;> intro h <;> (try simp only [List.length_map] at h) <;> (try omega) <;> (try contradiction)) | (guard_target = CallN _ 79 _ _ _ _; refine CallN.pure _ _ rfl (hv) rfl _ rfl ?_) | (guard_target = CallN _ 112 _ _ _ _; refine CallN.pure _ _ rfl (hev i (by omega)) rfl _ rfl ?_) | (guard_target = Arith _ _ _; refine Arith.fit (by apply wrap_fit <;> first | omega | (simp only [List.length_map]; omega)) ?_) | (guard_target = Arith _ _ _; refine Arith.fit (by decide) ?_) | (guard_target = Index _ _ _; first | refine Index.mk _ (idx_getD (d := e00) (i := i) (by omega)) ?_ | refine Index.mk _ (idx_map (by omega)) ?_) | (guard_target = Need (_ = true) _; refine Need.mk (by first | kernel_rfl | rfl) ?_) | (guard_target = LinkV _ _ _; refine LinkV.no ?_) | (guard_target = GhO _ _ _ _; refine GhO.go ?_) | (guard_target = Need _ _; refine Need.mk (by first  | omega | (simp only [List.length_map]; omega)) ?_))
  all_goals first | rfl | trivial | exact ⟨rfl, trivial⟩ | (exfalso; omega)
end
end Go.Proofs.YthgajpkahkhlpaaGreat

namespace Go.Proofs.YthgajpkahkhlpaaGreat
open Go Go.KA Go.Proofs
set_option maxHeartbeats 16000000
set_option maxRecDepth 100000
section
variable (a : XArchive) (l : List XEvent) (hx : budArchive a ≤ 1048576) (hl : budS budEvent l ≤ 1048576)
include hx hl
theorem RunArchive_good (hg : goodArch a = true) (hb : goodL a l = true) (h3 : ¬ (300 : Int) < l.length) : CallX Tryz.prog 40 [.a 4 (encArchive a), .c (.ro 9 (l.map encEvent))] [] (resR ((runE a l).1, (runE a l).2, 0)) := by
  have hv := ValidArchive_ok a hx
  rw [hg] at hv
  have hev : ∀ i, i < l.length → CallF Tryz.prog 112 [.a 2 [J a.sig.tests, J a.sig.actions], .a 9 (encEvent (l.getD i e00))] (B true) := fun i hi => by
    have h := isEvent_ok a.sig.tests a.sig.actions (l.getD i e00) (by have := bud_at hl hi; simp only [budEvent] at this; omega)
    rwa [good_at hb hi] at h
  have hE := fun i (hi : i < l.length) => EA.of (good_at hb hi) (bud_at hl hi)
  have hwa : WA a := .of ((arch_iff a).1 hg) hx
  have hcp : ∀ x : XArchive, WA x → CallX Tryz.prog 80 [.a 4 (viewA x)] [] (.a 4 (ownArchive x)) := fun x hx => by
    rw [viewA_eq]
    exact copyArchive_ok x hx.ca
  refine callX_of_vc htb hm Tryz.func40 rfl rfl rfl rfl (ann := fun _ => none) (gh := fun _ => false) ?_
  repeat' ((conv => whnf); first | (guard_target = Done _; refine Done.mk ?_) | (guard_target = RetX _ _; refine RetX.mk ?_ ?_) | (guard_target =~ LoopE 4 _ _ _ _ _ _; refine LoopE.mk { α := Nat, keep := [1, 2, 4, 17, 18], ov := fun i => [(19, I i)], φ := fun i => i ≤ l.length, μ := fun i => l.length - i } (LoopN.mk (0 : Nat) (by exact Nat.zero_le _) (by repeat' first | exact trivial | exact rfl | constructor) (by repeat' first | exact trivial | exact rfl | constructor) (by (repeat' first | exact trivial | exact rfl | refine ⟨?_, ?_⟩ | (simp only [List.map_append, List.map_cons, List.map_nil, List.map_set]; first | done | rfl)); done) (fun (i : Nat) ha => ?_) (by intro A; first | rfl | (obtain ⟨_, _⟩ := A; rfl) | (obtain ⟨_, _, _⟩ := A; rfl))); have ha : i ≤ l.length := ha) | (guard_target =~ LoopE 14 _ _ _ _ _ _; refine LoopE.mk { α := Nat × (XArchive × Int), keep := [4, 9, 36, 37], ov := fun ⟨i, p⟩ => [(10, I p.2), (38, I (i : Nat))], hv := fun ⟨i, p⟩ => [(8, .cells [.c (J p.1.sig.tests), .c (J p.1.sig.actions), .lw 4, .lw 5]), (4, .orow none 152 3 (p.1.servers.map softS)), (5, .row none 239 8 (p.1.flying.map encPacket))], φ := fun ⟨i, p⟩ => i ≤ l.length ∧ p = (l.take i).foldl runF (a, 0) ∧ WA p.1 ∧ 0 ≤ p.2 ∧ p.2 ≤ i, μ := fun ⟨i, p⟩ => l.length - i } (LoopN.mk ((0, (a, 0)) : Nat × (XArchive × Int)) (by exact ⟨Nat.zero_le _, rfl, hwa, Int.le_refl _, Int.le_refl _⟩) (by repeat' first | exact trivial | exact rfl | constructor) (by repeat' first | exact trivial | exact rfl | constructor) (by (repeat' first | exact trivial | exact rfl | refine ⟨?_, ?_⟩ | (simp only [List.map_append, List.map_cons, List.map_nil, List.map_set]; first | done | rfl)); done) (fun A ha => ?_) (by intro A; first | rfl | (obtain ⟨_, _⟩ := A; rfl) | (obtain ⟨_, _, _⟩ := A; rfl))); obtain ⟨i, p⟩ := A; have ha : i ≤ l.length ∧ p = (l.take i).foldl runF (a, 0) ∧ WA p.1 ∧ 0 ≤ p.2 ∧ p.2 ≤ i := ha; have hA := ha) | (guard_target = Gh _ _ _ _ _; refine Gh.go ⟨(i + 1 : Nat), (by (show i + 1 ≤ _; omega)), (by first | (show _ < _; simp only []; omega) | omega | (simp; omega)), (by repeat' first | exact trivial | exact rfl | constructor), (by repeat' first | exact trivial | exact rfl | constructor), (by (repeat' first | exact trivial | exact rfl | refine ⟨?_, ?_⟩ | (simp only [List.map_append, List.map_cons, List.map_nil, List.map_set]; first | done | rfl)); done)⟩) | (guard_target = Gh _ _ _ _ _; refine Gh.go ⟨((i + 1, ((doA p.1 (l.getD i e00)).2, p.2 + 1)) : Nat × (XArchive × Int)), (by (have hi : i < l.length := (by omega); refine ⟨hi, (run_yes h).symm.trans (run_next hi ha.2.1), ha.2.2.1.step (hE i hi).1, ?_, ?_⟩ <;> show _ ≤ _ <;> simp only [] <;> omega)), (by first | (show _ < _; simp only []; omega) | omega | (simp; omega)), (by repeat' first | exact trivial | exact rfl | constructor), (by repeat' first | exact trivial | exact rfl | constructor), (by (repeat' first | exact trivial | exact rfl | refine ⟨?_, ?_⟩ | (simp only [List.map_append, List.map_cons, List.map_nil, List.map_set]; first | done | rfl)); done)⟩) | (guard_target = Gh _ _ _ _ _; refine Gh.go ⟨((i + 1, ((doA p.1 (l.getD i e00)).2, p.2)) : Nat × (XArchive × Int)), (by (have hi : i < l.length := (by omega); refine ⟨hi, (run_no h).symm.trans (run_next hi ha.2.1), ha.2.2.1.step (hE i hi).1, ?_, ?_⟩ <;> show _ ≤ _ <;> simp only [] <;> omega)), (by first | (show _ < _; simp only []; omega) | omega | (simp; omega)), (by repeat' first | exact trivial | exact rfl | constructor), (by repeat' first | exact trivial | exact rfl | constructor), (by (repeat' first | exact trivial | exact rfl | refine ⟨?_, ?_⟩ | (simp only [List.map_append, List.map_cons, List.map_nil, List.map_set]; first | done | rfl)); done)⟩) | (guard_target = Fact _ _; refine Fact.mk fun hL => ?_; (try simp only [List.length_map, maxLen] at hL)) | (guard_target = Branch _ _ _; (first | apply Branch.dec | apply Branch.beq | apply Branch.bne | apply Branch.ndec | apply Branch.nb | apply Branch.mk) <;> intro h <;> (try simp only [List.length_map] at h) <;> (try omega) <;> (try contradiction)) | (guard_target = CallN _ 79 _ _ _ _; refine CallN.pure _ _ rfl (hv) rfl _ rfl ?_) | (guard_target = CallN _ 112 _ _ _ _; refine CallN.pure _ _ rfl (hev i (by omega)) rfl _ rfl ?_) | (guard_target = CallN _ 80 _ _ _ _; refine CallN.gen [] _ _ _ rfl (copyArchive_soft a hwa.ca) rfl rfl _ rfl ?_) | (guard_target = CallN _ 104 _ _ _ _; refine CallN.gen [true, false] _ _ _ rfl (happen_ok p.1 (l.getD i e00) ha.2.2.1 (hE i (by omega)).1 (hE i (by omega)).2) rfl rfl _ rfl ?_) | (guard_target = CallN _ 80 _ _ _ _; refine CallN.own _ _ rfl (hcp p.1 ha.2.2.1) (pure_arch _) _ rfl ?_) | (guard_target = Arith _ _ _; refine Arith.fit (by apply wrap_fit <;> first | omega | (simp only [List.length_map]; omega)) ?_) | (guard_target = Arith _ _ _; refine Arith.fit (by decide) ?_) | (guard_target = Index _ _ _; first | refine Index.mk _ (idx_getD (d := e00) (i := i) (by omega)) ?_ | refine Index.mk _ (idx_map (by omega)) ?_) | (guard_target = Need (_ = true) _; refine Need.mk (by first | kernel_rfl | rfl) ?_) | (guard_target = LinkV _ _ _; refine LinkV.no ?_) | (guard_target = GhO _ _ _ _; refine GhO.go ?_) | (guard_target = Need _ _; refine Need.mk (by first  | omega | (simp only [List.length_map]; omega)) ?_))
  all_goals first | rfl | trivial | exact ⟨rfl, trivial⟩ | (rw [show p = runE a l by have h9 := ha.2.1; rwa [List.take_of_length_le (by omega)] at h9]; rfl)
end
end Go.Proofs.YthgajpkahkhlpaaGreat

namespace Go.Proofs.YthgajpkahkhlpaaGreat
open Go Go.KA Go.Proofs
set_option maxHeartbeats 16000000
set_option maxRecDepth 100000
theorem frz_srvO (o : Option Value) (x : List XServer) : frzR (.orow o 152 3 (x.map ownServer)) = some (.ro 3 (x.map encServer)) := by
  show some (CV.ro 3 (roLL (x.map ownServer))) = _
  rw [roLL_of roServer]
theorem frz_srvS (o : Option Value) (x : List XServer) : frzR (.orow o 152 3 (x.map softS)) = some (.ro 3 (x.map encServer)) := by
  show some (CV.ro 3 (roLL (x.map softS))) = _
  rw [roLL_softS]
theorem frz_pktO (o : Option Value) (x : List XPacket) : frzR (.orow o 239 8 (x.map ownPacket)) = some (.ro 8 (x.map encPacket)) := by
  show some (CV.ro 8 (roLL (x.map ownPacket))) = _
  rw [roLL_of roPacket]
theorem step_yes {a : XArchive} {e : XEvent} (h : (stepO a e).1 = 0) : (doA a e).1 = 0 ∧ (stepO a e).2 = (doA a e).2 := by
  unfold stepO at h ⊢
  by_cases h0 : (doA a e).1 = 0
  · rw [if_pos h0]; exact ⟨h0, rfl⟩
  · rw [if_neg h0] at h; exact absurd h h0
theorem step_no {a : XArchive} {e : XEvent} (h : ¬ (stepO a e).1 = 0) : ¬ (doA a e).1 = 0 := by
  unfold stepO at h
  intro h0
  rw [if_pos h0] at h
  exact h h0
theorem l08Run_ok (a : XArchive) (l : List XEvent) (hwa : WA a) (hn : l.length ≤ 300) (hE : ∀ i, i < l.length → EA (l.getD i e00) ∧ (1 ≤ (l.getD i e00).kind ∧ (l.getD i e00).kind ≤ 9)) : CallX Tryz.prog 111 [.c (.op (encArchive a)), .c (.ro 9 (l.map encEvent))] [some [.op (encArchive a)], none] (.tup [.a 4 (encArchive (runE a l).1), I (runE a l).2]) := by
  refine callX_of_vc htb hm Tryz.func111 rfl rfl rfl rfl (ann := fun _ => none) (gh := fun reg_ => match reg_ with | 2 => true | 9 => true | _ => false) ?_
  repeat' ((conv => whnf); first | (guard_target = Done _; refine Done.mk ?_) | (guard_target = RetX _ _; refine RetX.mk ?_ ?_) | (guard_target =~ LoopE 4 _ _ _ _ _ _; refine LoopE.mk { α := Nat × (XArchive × Int) × Bool, keep := [1, 4, 6], ov := fun ⟨i, p, b⟩ => [(7, I p.2), (8, I (i : Nat))], hv := fun ⟨i, p, b⟩ => [(8, cond b (.cc 4 [J p.1.sig.tests, J p.1.sig.actions, .ro 3 (p.1.servers.map encServer), .ro 8 (p.1.flying.map encPacket)]) (.cells [.c (J p.1.sig.tests), .c (J p.1.sig.actions), .c (.ro 3 (p.1.servers.map encServer)), .c (.ro 8 (p.1.flying.map encPacket))]))], φ := fun ⟨i, p, b⟩ => i ≤ l.length ∧ p = (l.take i).foldl runF (a, 0) ∧ WA p.1 ∧ 0 ≤ p.2 ∧ p.2 ≤ i, μ := fun ⟨i, p, b⟩ => l.length - i } (LoopN.mk ((0, (a, 0), false) : Nat × (XArchive × Int) × Bool) (by exact ⟨Nat.zero_le _, rfl, hwa, Int.le_refl _, Int.le_refl _⟩) (by repeat' first | exact trivial | exact rfl | constructor) (by repeat' first | exact trivial | exact rfl | constructor) (by (repeat' first | exact trivial | exact rfl | refine ⟨?_, ?_⟩ | (simp only [List.map_append, List.map_cons, List.map_nil, List.map_set]; first | done | rfl)); done) (fun A ha => ?_) (by intro A; first | rfl | (obtain ⟨_, _⟩ := A; rfl) | (obtain ⟨_, _, _⟩ := A; rfl))); obtain ⟨i, p, b⟩ := A; have ha : i ≤ l.length ∧ p = (l.take i).foldl runF (a, 0) ∧ WA p.1 ∧ 0 ≤ p.2 ∧ p.2 ≤ i := ha; cases b) | (guard_target = Gh _ _ _ _ _; refine Gh.go ⟨((i + 1, p, true) : Nat × (XArchive × Int) × Bool), (by (have hi : i < l.length := (by omega); have h9 := run_next hi ha.2.1; rw [run_no (step_no h), doA_err (step_no h)] at h9; exact ⟨hi, h9, ha.2.2.1, ha.2.2.2.1, by (show p.2 ≤ ((i + 1 : Nat) : Int); omega)⟩)), (by first | (show _ < _; simp only []; omega) | omega | (simp; omega)), (by repeat' first | exact trivial | exact rfl | constructor), (by repeat' first | exact trivial | exact rfl | constructor), (by (repeat' first | exact trivial | exact rfl | refine ⟨?_, ?_⟩ | (simp only [List.map_append, List.map_cons, List.map_nil, List.map_set]; first | done | rfl)); done)⟩) | (guard_target = Gh _ _ _ _ _; refine Gh.go ⟨((i + 1, ((stepO p.1 (l.getD i e00)).2, p.2 + 1), false) : Nat × (XArchive × Int) × Bool), (by (have hi : i < l.length := (by omega); have hy := step_yes h; rw [hy.2]; exact ⟨hi, (run_yes hy.1).symm.trans (run_next hi ha.2.1), ha.2.2.1.step (hE i hi).1, by (show 0 ≤ p.2 + 1; omega), by (show p.2 + 1 ≤ ((i + 1 : Nat) : Int); omega)⟩)), (by first | (show _ < _; simp only []; omega) | omega | (simp; omega)), (by repeat' first | exact trivial | exact rfl | constructor), (by repeat' first | exact trivial | exact rfl | constructor), (by (repeat' first | exact trivial | exact rfl | refine ⟨?_, ?_⟩ | (simp only [List.map_append, List.map_cons, List.map_nil, List.map_set]; first | done | rfl)); done)⟩) | (guard_target = Fact _ _; refine Fact.mk fun hL => ?_; (try simp only [List.length_map, maxLen] at hL)) | (guard_target = Branch _ _ _; (first | apply Branch.dec | apply Branch.beq | apply Branch.bne | apply Branch.ndec | apply Branch.nb | apply Branch.mk) <;> intro h <;> (try simp only [List.length_map] at h) <;> (try omega) <;> (try contradiction)) | (guard_target = CallN _ 99 _ _ _ _; refine CallN.gen [true, false] _ _ _ rfl (l08Step_ok p.1 (l.getD i e00) ha.2.2.1 (hE i (by omega)).1 (hE i (by omega)).2) rfl rfl _ rfl ?_) | (guard_target = CallN _ 73 _ _ _ _; refine CallN.own _ _ rfl (l08Own_ok a hwa.ca) (pure_arch a) _ rfl ?_) | (guard_target = Gh _ _ _ _ _; refine Gh.frz 4 (.ro 3 (a.servers.map encServer)) (frz_srvO _ _) (Gh.frz 5 (.ro 8 (a.flying.map encPacket)) (frz_pktO _ _) (Gh.go ?_))) | (guard_target = Gh _ _ _ _ _; refine Gh.frz 9 (.ro 3 ((stepO p.1 (l.getD i e00)).2.servers.map encServer)) (frz_srvS _ _) (Gh.frz 10 (.ro 8 ((stepO p.1 (l.getD i e00)).2.flying.map encPacket)) rfl (Gh.go ?_))) | (guard_target = Arith _ _ _; refine Arith.fit (by apply wrap_fit <;> first | omega | (simp only [List.length_map]; omega)) ?_) | (guard_target = Arith _ _ _; refine Arith.fit (by decide) ?_) | (guard_target = Index _ _ _; first | refine Index.mk _ (idx_getD (d := e00) (i := i) (by omega)) ?_ | refine Index.mk _ (idx_map (by omega)) ?_) | (guard_target = Need (_ = true) _; refine Need.mk (by first | kernel_rfl | rfl) ?_) | (guard_target = LinkV _ _ _; refine LinkV.no ?_) | (guard_target = GhO _ _ _ _; refine GhO.go ?_) | (guard_target = Need _ _; refine Need.mk (by first  | omega | (simp only [List.length_map]; omega)) ?_))
  all_goals first | rfl | trivial | exact ⟨rfl, trivial⟩ | (rw [show p = runE a l by have h9 := ha.2.1; rwa [List.take_of_length_le (by omega)] at h9]; rfl)
end Go.Proofs.YthgajpkahkhlpaaGreat

namespace Go.Proofs.YthgajpkahkhlpaaGreat
open Go Go.KA Go.Proofs
set_option maxHeartbeats 16000000
set_option maxRecDepth 100000
abbrev resS (p : XArchive × Int × Int) : SV := .tup [.a 4 (encArchive p.1), I p.2.1, I p.2.2]
theorem zeroRo3 {P : Program} {f : Nat} {args : List SV} {outs : List (Option (List CV))} {c d : Int} (h : CallX P f args outs (.tup [.a 4 [J 0, J 0, .ows 152 3 [], .ows 239 8 []], I c, I d])) : CallX P f args outs (resS (zA, c, d)) :=
  CallX.soft h (.tup (.cons (.a (.same (.same (.ro (.ro .nil))))) (.cons .same (.cons .same .nil))))
section
variable (a : XArchive) (l : List XEvent) (hx : budArchive a ≤ 1048576) (hl : budS budEvent l ≤ 1048576)
include hx hl
theorem specRun_arch (hg : goodArch a = false) : CallX Tryz.prog 38 [.a 4 (encArchive a), .c (.ro 9 (l.map encEvent))] [] (resS (zA, 0, 1)) := by
  have _ := hl
  have hv := l08Ok_ok a hx
  rw [hg] at hv
  refine zeroRo3 ?_
  refine callX_of_vc htb hm Tryz.func38 rfl rfl rfl rfl (ann := fun _ => none) (gh := fun _ => false) ?_
  repeat' ((conv => whnf); first | (guard_target = Done _; refine Done.mk ?_) | (guard_target = RetX _ _; refine RetX.mk ?_ ?_) | (guard_target = Fact _ _; refine Fact.mk fun hL => ?_; (try simp only [List.length_map, maxLen] at hL)) | (guard_target = Branch _ _ _; (first | apply Branch.dec | apply Branch.beq | apply Branch.bne | apply Branch.ndec | apply Branch.nb | apply Branch.mk) <;> intro h <;> (try simp only [] at h) <;> (try omega) <;> (try contradiction)) | (guard_target = CallN _ 72 _ _ _ _; refine CallN.pure _ _ rfl (hv) rfl _ rfl ?_) | (guard_target = Arith _ _ _; refine Arith.fit (by apply wrap_fit <;> first | omega | (simp only [List.length_map]; omega)) ?_) | (guard_target = Arith _ _ _; refine Arith.fit (by decide) ?_) | (guard_target = Index _ _ _; first  | refine Index.mk _ (idx_map (by omega)) ?_) | (guard_target = Need (_ = true) _; refine Need.mk (by first | kernel_rfl | rfl) ?_) | (guard_target = LinkV _ _ _; refine LinkV.no ?_) | (guard_target = GhO _ _ _ _; refine GhO.go ?_) | (guard_target = Need _ _; refine Need.mk (by first  | omega | (simp only [List.length_map]; omega)) ?_))
  all_goals first | rfl | trivial | exact ⟨rfl, trivial⟩ | (exfalso; omega)
theorem specRun_list (hg : goodArch a = true) (hb : goodL a l = false) : CallX Tryz.prog 38 [.a 4 (encArchive a), .c (.ro 9 (l.map encEvent))] [] (resS (zA, 0, 1)) := by
  have hv := l08Ok_ok a hx
  rw [hg] at hv
  have hln := budS_len budEvent l
  have hbe := fun i (hi : i < l.length) => (show budProof (l.getD i e00).proof ≤ 1048576 by have := bud_at hl hi; simp only [budEvent] at this; omega)
  refine zeroRo3 ?_
  refine callX_of_vc htb hm Tryz.func38 rfl rfl rfl rfl (ann := fun _ => none) (gh := fun reg_ => match reg_ with | 8 => true | _ => false) ?_
  repeat' ((conv => whnf); first | (guard_target = Done _; refine Done.mk ?_) | (guard_target = RetX _ _; refine RetX.mk ?_ ?_) | (guard_target =~ LoopE 4 _ _ _ _ _ _; refine LoopE.mk { α := Nat, keep := [1, 2, 4], ov := fun i => [(7, I i)], φ := fun i => i ≤ l.length ∧ (l.take i).all (goodEvent a.sig.tests a.sig.actions) = true, μ := fun i => l.length - i } (LoopN.mk (0 : Nat) (by exact ⟨Nat.zero_le _, rfl⟩) (by repeat' first | exact trivial | exact rfl | constructor) (by repeat' first | exact trivial | exact rfl | constructor) (by (repeat' first | exact trivial | exact rfl | refine ⟨?_, ?_⟩ | (simp only [List.map_append, List.map_cons, List.map_nil, List.map_set]; first | done | rfl)); done) (fun (i : Nat) ha => ?_) (by intro A; first | rfl | (obtain ⟨_, _⟩ := A; rfl) | (obtain ⟨_, _, _⟩ := A; rfl))); have ha : i ≤ l.length ∧ (l.take i).all (goodEvent a.sig.tests a.sig.actions) = true := ha) | (guard_target = Gh _ _ _ _ _; refine Gh.go ⟨(i + 1 : Nat), (by (refine all_go (by omega) ha ?_; have h8 := h; rw [getD_eq (by omega)] at h8; exact h8)), (by first | (show _ < _; simp only []; omega) | omega | (simp; omega)), (by repeat' first | exact trivial | exact rfl | constructor), (by repeat' first | exact trivial | exact rfl | constructor), (by (repeat' first | exact trivial | exact rfl | refine ⟨?_, ?_⟩ | (simp only [List.map_append, List.map_cons, List.map_nil, List.map_set]; first | done | rfl)); done)⟩) | (guard_target = Fact _ _; refine Fact.mk fun hL => ?_; (try simp only [List.length_map, maxLen] at hL)) | (guard_target = Branch _ _ _; (first | apply Branch.dec | apply Branch.beq | apply Branch.bne | apply Branch.ndec | apply Branch.nb | apply Branch.mk) <;> intro h <;> (try simp only [List.length_map] at h) <;> (try omega) <;> (try contradiction)) | (guard_target = CallN _ 72 _ _ _ _; refine CallN.pure _ _ rfl (hv) rfl _ rfl ?_) | (guard_target = CallN _ 98 _ _ _ _; refine CallN.pure _ _ rfl (l08Event_ok a (l.getD i e00) (hbe i (by omega))) rfl _ rfl ?_) | (guard_target = Gh _ _ _ _ _; exfalso; have h9 := ha.2; rw [List.take_of_length_le (by omega)] at h9; rw [show l.all _ = false from hb] at h9; exact absurd h9 (by decide)) | (guard_target = Arith _ _ _; refine Arith.fit (by apply wrap_fit <;> first | omega | (simp only [List.length_map]; omega)) ?_) | (guard_target = Arith _ _ _; refine Arith.fit (by decide) ?_) | (guard_target = Index _ _ _; first | refine Index.mk _ (idx_getD (d := e00) (i := i) (by omega)) ?_ | refine Index.mk _ (idx_map (by omega)) ?_) | (guard_target = Need (_ = true) _; refine Need.mk (by first | kernel_rfl | rfl) ?_) | (guard_target = LinkV _ _ _; refine LinkV.no ?_) | (guard_target = GhO _ _ _ _; refine GhO.go ?_) | (guard_target = Need _ _; refine Need.mk (by first  | omega | (simp only [List.length_map]; omega)) ?_))
  all_goals first | rfl | trivial | exact ⟨rfl, trivial⟩ | (exfalso; omega)
theorem specRun_long (hg : goodArch a = true) (hb : goodL a l = true) (h3 : (300 : Int) < l.length) : CallX Tryz.prog 38 [.a 4 (encArchive a), .c (.ro 9 (l.map encEvent))] [] (resS (zA, 0, 2)) := by
  have hv := l08Ok_ok a hx
  rw [hg] at hv
  have hln := budS_len budEvent l
  have hev : ∀ i, i < l.length → CallF Tryz.prog 98 [.c (.rp 4 (encArchive a)), .c (.rp 9 (encEvent (l.getD i e00)))] (B true) := fun i hi => by
    have h := l08Event_ok a (l.getD i e00) (by have := bud_at hl hi; simp only [budEvent] at this; omega)
    rwa [good_at hb hi] at h
  refine zeroRo3 ?_
  refine callX_of_vc htb hm Tryz.func38 rfl rfl rfl rfl (ann := fun _ => none) (gh := fun _ => false) ?_
  repeat' ((conv => whnf); first | (guard_target = Done _; refine Done.mk ?_) | (guard_target = RetX _ _; refine RetX.mk ?_ ?_) | (guard_target =~ LoopE 4 _ _ _ _ _ _; refine LoopE.mk { α := Nat, keep := [1, 2, 4], ov := fun i => [(7, I i)], φ := fun i => i ≤ l.length, μ := fun i => l.length - i } (LoopN.mk (0 : Nat) (by exact Nat.zero_le _) (by repeat' first | exact trivial | exact rfl | constructor) (by repeat' first | exact trivial | exact rfl | constructor) (by (repeat' first | exact trivial | exact rfl | refine ⟨?_, ?_⟩ | (simp only [List.map_append, List.map_cons, List.map_nil, List.map_set]; first | done | rfl)); done) (fun (i : Nat) ha => ?_) (by intro A; first | rfl | (obtain ⟨_, _⟩ := A; rfl) | (obtain ⟨_, _, _⟩ := A; rfl))); have ha : i ≤ l.length := ha) | (guard_target = Gh _ _ _ _ _; refine Gh.go ⟨(i + 1 : Nat), (by (show i + 1 ≤ _; omega)), (by first | (show _ < _; simp only []; omega) | omega | (simp; omega)), (by repeat' first | exact trivial | exact rfl | constructor), (by repeat' first | exact trivial | exact rfl | constructor), (by (repeat' first | exact trivial | exact rfl | refine ⟨?_, ?_⟩ | (simp only [List.map_append, List.map_cons, List.map_nil, List.map_set]; first | done | rfl)); done)⟩) | (guard_target = Fact _ _; refine Fact.mk fun hL => ?_; (try simp only [List.length_map, maxLen] at hL)) | (guard_target = Branch _ _ _; (first | apply Branch.dec | apply Branch.beq | apply Branch.bne | apply Branch.ndec | apply Branch.nb | apply Branch.mk) <;> intro h <;> (try simp only [List.length_map] at h) <;> (try omega) <;> (try contradiction)) | (guard_target = CallN _ 72 _ _ _ _; refine CallN.pure _ _ rfl (hv) rfl _ rfl ?_) | (guard_target = CallN _ 98 _ _ _ _; refine CallN.pure _ _ rfl (hev i (by omega)) rfl _ rfl ?_) | (guard_target = Arith _ _ _; refine Arith.fit (by apply wrap_fit <;> first | omega | (simp only [List.length_map]; omega)) ?_) | (guard_target = Arith _ _ _; refine Arith.fit (by decide) ?_) | (guard_target = Index _ _ _; first | refine Index.mk _ (idx_getD (d := e00) (i := i) (by omega)) ?_ | refine Index.mk _ (idx_map (by omega)) ?_) | (guard_target = Need (_ = true) _; refine Need.mk (by first | kernel_rfl | rfl) ?_) | (guard_target = LinkV _ _ _; refine LinkV.no ?_) | (guard_target = GhO _ _ _ _; refine GhO.go ?_) | (guard_target = Need _ _; refine Need.mk (by first  | omega | (simp only [List.length_map]; omega)) ?_))
  all_goals first | rfl | trivial | exact ⟨rfl, trivial⟩ | (exfalso; omega)
theorem specRun_good (hg : goodArch a = true) (hb : goodL a l = true) (h3 : ¬ (300 : Int) < l.length) : CallX Tryz.prog 38 [.a 4 (encArchive a), .c (.ro 9 (l.map encEvent))] [] (resS ((runE a l).1, (runE a l).2, 0)) := by
  have hv := l08Ok_ok a hx
  rw [hg] at hv
  have hev : ∀ i, i < l.length → CallF Tryz.prog 98 [.c (.rp 4 (encArchive a)), .c (.rp 9 (encEvent (l.getD i e00)))] (B true) := fun i hi => by
    have h := l08Event_ok a (l.getD i e00) (by have := bud_at hl hi; simp only [budEvent] at this; omega)
    rwa [good_at hb hi] at h
  have hE := fun i (hi : i < l.length) => EA.of (good_at hb hi) (bud_at hl hi)
  have hwa : WA a := .of ((arch_iff a).1 hg) hx
  have hrun := l08Run_ok a l hwa (by omega) hE
  refine callX_of_vc htb hm Tryz.func38 rfl rfl rfl rfl (ann := fun _ => none) (gh := fun _ => false) ?_
  repeat' ((conv => whnf); first | (guard_target = Done _; refine Done.mk ?_) | (guard_target = RetX _ _; refine RetX.mk ?_ ?_) | (guard_target =~ LoopE 4 _ _ _ _ _ _; refine LoopE.mk { α := Nat, keep := [1, 2, 4], ov := fun i => [(7, I i)], φ := fun i => i ≤ l.length, μ := fun i => l.length - i } (LoopN.mk (0 : Nat) (by exact Nat.zero_le _) (by repeat' first | exact trivial | exact rfl | constructor) (by repeat' first | exact trivial | exact rfl | constructor) (by (repeat' first | exact trivial | exact rfl | refine ⟨?_, ?_⟩ | (simp only [List.map_append, List.map_cons, List.map_nil, List.map_set]; first | done | rfl)); done) (fun (i : Nat) ha => ?_) (by intro A; first | rfl | (obtain ⟨_, _⟩ := A; rfl) | (obtain ⟨_, _, _⟩ := A; rfl))); have ha : i ≤ l.length := ha) | (guard_target = Gh _ _ _ _ _; refine Gh.go ⟨(i + 1 : Nat), (by (show i + 1 ≤ _; omega)), (by first | (show _ < _; simp only []; omega) | omega | (simp; omega)), (by repeat' first | exact trivial | exact rfl | constructor), (by repeat' first | exact trivial | exact rfl | constructor), (by (repeat' first | exact trivial | exact rfl | refine ⟨?_, ?_⟩ | (simp only [List.map_append, List.map_cons, List.map_nil, List.map_set]; first | done | rfl)); done)⟩) | (guard_target = Fact _ _; refine Fact.mk fun hL => ?_; (try simp only [List.length_map, maxLen] at hL)) | (guard_target = Branch _ _ _; (first | apply Branch.dec | apply Branch.beq | apply Branch.bne | apply Branch.ndec | apply Branch.nb | apply Branch.mk) <;> intro h <;> (try simp only [List.length_map] at h) <;> (try omega) <;> (try contradiction)) | (guard_target = CallN _ 72 _ _ _ _; refine CallN.pure _ _ rfl (hv) rfl _ rfl ?_) | (guard_target = CallN _ 98 _ _ _ _; refine CallN.pure _ _ rfl (hev i (by omega)) rfl _ rfl ?_) | (guard_target = CallN _ 111 _ _ _ _; refine CallN.gen [true, false] _ _ _ rfl (hrun) rfl rfl _ rfl ?_) | (guard_target = Arith _ _ _; refine Arith.fit (by apply wrap_fit <;> first | omega | (simp only [List.length_map]; omega)) ?_) | (guard_target = Arith _ _ _; refine Arith.fit (by decide) ?_) | (guard_target = Index _ _ _; first | refine Index.mk _ (idx_getD (d := e00) (i := i) (by omega)) ?_ | refine Index.mk _ (idx_map (by omega)) ?_) | (guard_target = Need (_ = true) _; refine Need.mk (by first | kernel_rfl | rfl) ?_) | (guard_target = LinkV _ _ _; refine LinkV.no ?_) | (guard_target = GhO _ _ _ _; refine GhO.go ?_) | (guard_target = Need _ _; refine Need.mk (by first  | omega | (simp only [List.length_map]; omega)) ?_))
  all_goals first | rfl | trivial | exact ⟨rfl, trivial⟩ | (exfalso; omega)
theorem specRunArchive_ok : CallX Tryz.prog 38 [.a 4 (encArchive a), .c (.ro 9 (l.map encEvent))] [] (resS (runA a l)) := by
  unfold runA
  cases hg : goodArch a with
  | false => exact specRun_arch a l hx hl hg
  | true =>
    cases hb : goodL a l with
    | false => exact specRun_list a l hx hl hg hb
    | true =>
      rw [if_neg (by decide)]
      by_cases h3 : (300 : Int) < l.length
      · rw [if_pos h3]
        exact specRun_long a l hx hl hg hb h3
      · rw [if_neg h3]
        exact specRun_good a l hx hl hg hb h3
theorem RunArchive_ok : CallX Tryz.prog 40 [.a 4 (encArchive a), .c (.ro 9 (l.map encEvent))] [] (resR (runA a l)) := by
  unfold runA
  cases hg : goodArch a with
  | false => exact RunArchive_arch a l hx hl hg
  | true =>
    cases hb : goodL a l with
    | false => exact RunArchive_list a l hx hl hg hb
    | true =>
      rw [if_neg (by decide)]
      by_cases h3 : (300 : Int) < l.length
      · rw [if_pos h3]
        exact RunArchive_long a l hx hl hg hb h3
      · rw [if_neg h3]
        exact RunArchive_good a l hx hl hg hb h3
end
theorem run_wa {a : XArchive} : ∀ {l : List XEvent} {c : Int}, WA a → (∀ e ∈ l, EA e) → WA (l.foldl runF (a, c)).1
  | [], _, h, _ => h
  | e :: es, c, h, hE => by
    have he := hE e (by simp)
    show WA (es.foldl runF (runF (a, c) e)).1
    by_cases h0 : (doA a e).1 = 0
    · rw [run_yes h0]
      exact run_wa (h.step he) fun x hx => hE x (by simp [hx])
    · rw [run_no h0, doA_err h0]
      exact run_wa h fun x hx => hE x (by simp [hx])
theorem runA_mk {a : XArchive} {l : List XEvent} (hx : budArchive a ≤ 1048576) (hl : budS budEvent l ≤ 1048576) : bsum mkeServer (runA a l).1.servers + bsum mkePacket (runA a l).1.flying ≤ 1000000000 := by
  unfold runA
  cases hg : goodArch a with
  | false => show 0 + 0 ≤ _; omega
  | true =>
    cases hb : goodL a l with
    | false => show 0 + 0 ≤ _; omega
    | true =>
      rw [if_neg (by decide)]
      split
      · show 0 + 0 ≤ _; omega
      · exact mkWA (run_wa (.of ((arch_iff a).1 hg) hx) fun e he => (EA.of (List.all_eq_true.1 hb e he) (Nat.le_trans (budS_mem budEvent he) hl)).1)
theorem pure_archR (p : XArchive × Int × Int) : pureT (resR p) := by
  intro s hs
  rcases List.mem_cons.1 hs with rfl | hs
  · exact pure_arch p.1
  rcases List.mem_cons.1 hs with rfl | hs
  · exact trivial
  · rw [List.mem_singleton.1 hs]
    exact trivial
end Go.Proofs.YthgajpkahkhlpaaGreat

namespace Go.Proofs.YthgajpkahkhlpaaGreat
open Go Go.KA Go.Proofs
set_option maxHeartbeats 16000000
set_option maxRecDepth 100000
theorem mkeEv_le (e : XEvent) : mkeEvent e ≤ 6 + 6 * budEvent e := by
  have h1 := mkeCls_le e.proof.claims
  rw [mkeEvent_eq, bsum_one, bsum_one]
  simp only [budEvent, budProof]
  omega
theorem mkEvS_le (l : List XEvent) (hl : budS budEvent l ≤ 1048576) : bsum mkeEvent l ≤ 10000000 := by
  have h := bsum_up (fun s => mkeEv_le s) (Nat.le_refl 6) l
  omega
theorem toEventS_enc (l : List XEvent) (hl : budS budEvent l ≤ 1048576) : CallX Tryz.prog 39 [.c (.ro 9 (l.map encEvent))] [] (.c (.ro 9 (l.map encEvent))) := by
  have h : CallX Tryz.prog 39 [.c (.ro 9 (l.map encEvent))] [] (.c (.ro 9 (roLL (l.map ownEvent)))) := (toEventS_ok l hl).soft (.v (.c (.ro .nil)))
  rwa [roLL_of roEvent] at h
theorem eqEvS_own (l : List XEvent) : CallF Tryz.prog 25 [.c (.ro 9 (roLL (l.map ownEvent))), .c (.ro 9 (roLL (l.map ownEvent)))] (B true) := by
  rw [roLL_of roEvent]
  have := eqEventS_ok l l
  rwa [eqv_self] at this
theorem markEventS_ok (l : List XEvent) (k : Int) (h0 : 0 ≤ k) (hk : k + (bsum mkeEvent l : Nat) ≤ 4611686018427387904) : CallX Tryz.prog 28 [.c (.own 92 9 (l.map ownEvent)), I k] [] (I (k + (bsum mkeEvent l : Nat))) := CallX.drop (markEventS_out l k h0 hk)
theorem eqArch_enc (a : XArchive) : CallF Tryz.prog 26 [.a 4 (roL (ownArchive a)), .a 4 (encArchive a)] (B true) := by
  rw [roArchive]
  have := eqArchive_ok a a
  rwa [eqv_self] at this
theorem RunArchive_law (a : XArchive) (l : List XEvent) : CallF Tryz.prog 6 [.a 4 (encArchive a), .c (.ro 9 (l.map encEvent))] (B true) := by
  have hz := szArchive_ok a 1048576 (by omega)
  by_cases hl : budArchive a ≤ 1048576
  case neg =>
    rw [szr_neg (by omega)] at hz
    refine callF_of_vc htb hm Tryz.func6 rfl rfl rfl rfl (ann := fun _ => none) (gh := fun _ => false) ?_
    repeat' ((conv => whnf); first | (guard_target = Done _; refine Done.mk ?_; first | (rfl; done) | skip) | (guard_target = RetX _ _; refine RetX.mk ?_ ?_) | (guard_target = Fact _ _; refine Fact.mk fun hL => ?_; (try simp only [List.length_map, maxLen] at hL)) | (guard_target = Branch _ _ _; (first | apply Branch.dec | apply Branch.beq | apply Branch.bne | apply Branch.ndec | apply Branch.nb | apply Branch.mk) <;> intro h <;> (try simp only [List.length_map] at h) <;> (try omega) <;> (try contradiction)) | (guard_target = CallN _ 21 _ _ _ _; refine CallN.pure _ _ rfl (hz) rfl _ rfl ?_) | (guard_target = Arith _ _ _; refine Arith.fit (by apply wrap_fit <;> first | omega | (simp only [List.length_map]; omega)) ?_) | (guard_target = Arith _ _ _; refine Arith.fit (by decide) ?_) | (guard_target = Index _ _ _; first  | refine Index.mk _ (idx_map (by omega)) ?_) | (guard_target = Need (_ = true) _; refine Need.mk (by first | kernel_rfl | rfl) ?_) | (guard_target = LinkV _ _ _; refine LinkV.no ?_) | (guard_target = GhO _ _ _ _; refine GhO.go ?_) | (guard_target = Need _ _; refine Need.mk (by first  | omega | (simp only [List.length_map]; omega)) ?_))
  case pos =>
    rw [szr_eq hl] at hz
    have hz2 := szEventS_ok l (1048576 - budArchive a) (by omega)
    by_cases he' : budS budEvent l ≤ 1048576 - budArchive a
    case neg =>
      rw [szr_neg (by omega)] at hz2
      refine callF_of_vc htb hm Tryz.func6 rfl rfl rfl rfl (ann := fun _ => none) (gh := fun _ => false) ?_
      repeat' ((conv => whnf); first | (guard_target = Done _; refine Done.mk ?_; first | (rfl; done) | skip) | (guard_target = RetX _ _; refine RetX.mk ?_ ?_) | (guard_target = Fact _ _; refine Fact.mk fun hL => ?_; (try simp only [List.length_map, maxLen] at hL)) | (guard_target = Branch _ _ _; (first | apply Branch.dec | apply Branch.beq | apply Branch.bne | apply Branch.ndec | apply Branch.nb | apply Branch.mk) <;> intro h <;> (try simp only [List.length_map] at h) <;> (try omega) <;> (try contradiction)) | (guard_target = CallN _ 21 _ _ _ _; refine CallN.pure _ _ rfl (hz) rfl _ rfl ?_) | (guard_target = CallN _ 37 _ _ _ _; refine CallN.pure _ _ rfl (hz2) rfl _ rfl ?_) | (guard_target = Arith _ _ _; refine Arith.fit (by apply wrap_fit <;> first | omega | (simp only [List.length_map]; omega)) ?_) | (guard_target = Arith _ _ _; refine Arith.fit (by decide) ?_) | (guard_target = Index _ _ _; first  | refine Index.mk _ (idx_map (by omega)) ?_) | (guard_target = Need (_ = true) _; refine Need.mk (by first | kernel_rfl | rfl) ?_) | (guard_target = LinkV _ _ _; refine LinkV.no ?_) | (guard_target = GhO _ _ _ _; refine GhO.go ?_) | (guard_target = Need _ _; refine Need.mk (by first  | omega | (simp only [List.length_map]; omega)) ?_))
    case pos =>
      rw [szr_eq he'] at hz2
      have he : budS budEvent l ≤ 1048576 := by omega
      have hs := specRunArchive_ok a l hl he
      have hi : CallX Tryz.prog 40 [.a 4 (roL (ownArchive a)), .c (.ro 9 (roLL (l.map ownEvent)))] [] (resR (runA a l)) := by rw [roArchive, roLL_of roEvent]; exact RunArchive_ok a l hl he
      have hk := mkArch_le a hl
      have hk2 := mkEvS_le l he
      have hk3 := runA_mk hl he
      refine callF_of_vc htb hm Tryz.func6 rfl rfl rfl rfl (ann := fun _ => none) (gh := fun reg_ => match reg_ with | 9 => true | _ => false) ?_
      repeat' ((conv => whnf); first | (guard_target = Done _; refine Done.mk ?_) | (guard_target = RetX _ _; refine RetX.mk ?_ ?_) | (guard_target = Fact _ _; refine Fact.mk fun hL => ?_; (try simp only [List.length_map, maxLen] at hL)) | (guard_target = Branch _ _ _; (first | apply Branch.dec | apply Branch.beq | apply Branch.bne | apply Branch.ndec | apply Branch.nb | apply Branch.mk) <;> intro h <;> (try simp only [List.length_map] at h) <;> (try omega) <;> (try contradiction)) | (guard_target = CallN _ 21 _ _ _ _; refine CallN.pure _ _ rfl (hz) rfl _ rfl ?_) | (guard_target = CallN _ 37 _ _ _ _; refine CallN.pure _ _ rfl (hz2) rfl _ rfl ?_) | (guard_target = CallN _ 23 _ _ _ _; refine CallN.gen [] _ _ _ rfl (toArchive_enc a hl) rfl rfl _ rfl ?_) | (guard_target = CallN _ 39 _ _ _ _; refine CallN.gen [] _ _ _ rfl (toEventS_enc l he) rfl rfl _ rfl ?_) | (guard_target = CallN _ 38 _ _ _ _; refine CallN.gen [] _ _ _ rfl (hs) rfl rfl _ rfl ?_) | (guard_target = Arith _ _ _; refine Arith.fit (by apply wrap_fit <;> first | omega | (simp only [List.length_map]; omega)) ?_) | (guard_target = Arith _ _ _; refine Arith.fit (by decide) ?_) | (guard_target = Index _ _ _; first  | refine Index.mk _ (idx_map (by omega)) ?_) | (guard_target = Need (_ = true) _; refine Need.mk (by first | kernel_rfl | rfl) ?_) | (guard_target = LinkV _ _ _; refine LinkV.no ?_) | (guard_target = Need _ _; refine Need.mk (by first  | omega | (simp only [List.length_map]; omega)) ?_))
      all_goals (conv => whnf)
      all_goals try refine Gh.go ?_
      repeat' ((conv => whnf); first | (guard_target = Done _; refine Done.mk ?_; first | (rfl; done) | skip) | (guard_target = RetX _ _; refine RetX.mk ?_ ?_) | (guard_target = Fact _ _; refine Fact.mk fun hL => ?_; (try simp only [List.length_map, maxLen] at hL)) | (guard_target = Branch _ _ _; (first | apply Branch.dec | apply Branch.beq | apply Branch.bne | apply Branch.ndec | apply Branch.nb | apply Branch.mk) <;> intro h <;> (try simp only [] at h) <;> (try omega) <;> (try contradiction)) | (guard_target = CallN _ 23 _ _ _ _; refine CallN.gen [] _ _ _ rfl (toArchive_ok a hl) rfl rfl _ rfl ?_) | (guard_target = CallN _ 39 _ _ _ _; refine CallN.gen [] _ _ _ rfl (toEventS_ok l he) rfl rfl _ rfl ?_) | (guard_target = CallN _ 26 _ _ _ _; refine CallN.pure _ _ rfl (eqArch_enc (runA a l).1) rfl _ rfl ?_) | (guard_target = CallN _ 26 _ _ _ _; refine CallN.pure _ _ rfl (eqArch_own a) rfl _ rfl ?_) | (guard_target = CallN _ 25 _ _ _ _; refine CallN.pure _ _ rfl (eqEvS_own l) rfl _ rfl ?_) | (guard_target = CallN _ 27 _ _ _ _; refine CallN.gen [true, false] _ _ _ rfl (markArchive_ok a 1 (by omega) (by omega)) rfl rfl _ rfl ?_) | (guard_target = CallN _ 28 _ _ _ _; refine CallN.gen [true, false] _ _ _ rfl (markEventS_ok l (1 + (bsum mkeServer a.servers + bsum mkePacket a.flying : Nat)) (by omega) (by omega)) rfl rfl _ rfl ?_) | (guard_target = CallN _ 27 _ _ _ _; refine CallN.gen [true, false] _ _ _ rfl (markArchive_out (runA a l).1 1 (by omega) (by omega)) rfl rfl _ rfl ?_) | (guard_target = CallN _ 36 _ _ _ _; refine CallN.pure _ _ rfl (heldArchive_own (runA a l).1 (by omega)) rfl _ rfl ?_) | (guard_target = CallN _ 40 _ _ _ _; refine CallN.own _ _ rfl hi (pure_archR _) _ rfl ?_) | (guard_target = Arith _ _ _; refine Arith.fit (by apply wrap_fit <;> first | omega | (simp only [List.length_map]; omega)) ?_) | (guard_target = Arith _ _ _; refine Arith.fit (by decide) ?_) | (guard_target = Index _ _ _; first  | refine Index.mk _ (idx_map (by omega)) ?_) | (guard_target = Need (_ = true) _; refine Need.mk (by first | kernel_rfl | rfl) ?_) | (guard_target = LinkV _ _ _; refine LinkV.no ?_) | (guard_target = GhO _ _ _ _; refine GhO.go ?_) | (guard_target = Need _ _; refine Need.mk (by first  | omega | (simp only [List.length_map]; omega)) ?_))
end Go.Proofs.YthgajpkahkhlpaaGreat
