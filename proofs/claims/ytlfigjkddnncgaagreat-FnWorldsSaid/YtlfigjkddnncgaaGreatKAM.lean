/- Contracts: the last atoms of the allowed words of a program from a set of atoms (the reference's). No conditions but that programs and conditions are valid. -/
import Derived.Test.YtlfigjkddnncgaaGreatKAL
namespace Go.Proofs.YtlfigjkddnncgaaGreat
open Go Go.KA Go.Proofs
set_option maxHeartbeats 16000000
set_option maxRecDepth 100000
theorem sel_part {N : Nat} (P : Nat → Bool) (c : XExpr) : (selR N P).filter (fun z => truthE c z) = selR N (andP P (trP c)) := by
  unfold selR
  rw [List.filter_map, List.filter_filter]
  congr 1
  exact List.filter_congr fun x _ => Bool.and_comm _ _
theorem sel_part2 {N : Nat} (P : Nat → Bool) (c : XExpr) : (selR N P).filter (fun z => !(truthE c z)) = selR N (andP P (notP (trP c))) := by
  unfold selR
  rw [List.filter_map, List.filter_filter]
  congr 1
  exact List.filter_congr fun x _ => Bool.and_comm _ _
theorem selR_cnt (N : Nat) (P : Nat → Bool) : (selR N P).length = cntR N P := by simp [selR, cntR]
abbrev eS (N : Nat) (P : Nat → Bool) : SV := .c (.ro 1 ((selR N P).map eI))
theorem l07Union_set (N : Nat) (hN : N ≤ 8) (P Q : Nat → Bool) : CallX Tryz.prog 100 [eS N P, eS N Q] [] (eS N (orP P Q)) := by
  have h1 := selR_len N P
  have h2 := selR_len N Q
  have := l07Union_ok (selR N P) (selR N Q) (by omega) (by omega)
  rwa [un_sets] at this
theorem any_sel {N : Nat} {A : Nat → Bool} {l : List XPremise} {n : Int} (y : Nat) : ((selR N A).any fun x => alB l n x y) = imgR N (fun x y => alB l n x y) A y := by
  refine bool_ext ?_
  rw [imgR_iff, List.any_eq_true]
  constructor
  · rintro ⟨x, hx, h⟩
    obtain ⟨i, h1, h2, rfl⟩ := selR_mem.1 hx
    exact ⟨i, h1, h2, h⟩
  · rintro ⟨i, h1, h2, h⟩
    exact ⟨i, selR_mem.2 ⟨i, h1, h2, rfl⟩, h⟩
theorem any_take {α : Type} {l : List α} {i : Nat} (h : i < l.length) (f : α → Bool) : (l.take (i + 1)).any f = ((l.take i).any f || f l[i]) := by
  rw [List.take_succ_eq_append_getElem h, List.any_append]
  simp
theorem img_skip {N : Nat} {l : List XPremise} {p : XProg} (h : p.kind = 1) {A : Nat → Bool} : selR N A = selR N (imgR N (ldR N l p) A) := by
  refine selR_congr fun y hy => bool_ext ?_
  rw [imgR_iff, ldR_eq]
  unfold ldK
  rw [h, if_neg (by decide), if_neg (by decide), if_neg (by decide), if_pos rfl]
  constructor
  · intro h; exact ⟨y, hy, h, by simp⟩
  · rintro ⟨x, _, h1, h2⟩
    have : x = y := by simpa using h2
    subst this; exact h1
theorem img_fail {N : Nat} {l : List XPremise} {p : XProg} (h : p.kind = 2) {A : Nat → Bool} : [] = selR N (imgR N (ldR N l p) A) := by
  have : ∀ y, y < N → imgR N (ldR N l p) A y = false := fun y hy => by
    rw [ldR_eq]
    unfold ldK
    rw [h, if_neg (by decide), if_neg (by decide), if_neg (by decide), if_neg (by decide), if_neg (by decide), if_neg (by decide)]
    unfold imgR noR
    simp
  rw [selR_congr this]
  simp [selR]
theorem img_act {N : Nat} {l : List XPremise} {p : XProg} (h : p.kind = 3) {A : Nat → Bool} (y : Nat) : imgR N (fun x y => alB l p.num x y) A y = imgR N (ldR N l p) A y := by
  rw [ldR_eq]
  unfold ldK
  rw [if_pos h]
theorem img_assert {N : Nat} {l : List XPremise} {p : XProg} (h : p.kind = 4) {A : Nat → Bool} : selR N (andP A (trP p.cond)) = selR N (imgR N (ldR N l p) A) := by
  refine selR_congr fun y hy => bool_ext ?_
  rw [imgR_iff, ldR_eq]
  unfold ldK
  rw [h, if_neg (by decide), if_neg (by decide), if_neg (by decide), if_neg (by decide), if_pos rfl]
  simp only [andP, trP, Bool.and_eq_true, beq_iff_eq]
  constructor
  · rintro ⟨h1, h2⟩; exact ⟨y, hy, h1, rfl, h2⟩
  · rintro ⟨x, _, h1, rfl, h2⟩; exact ⟨h1, h2⟩
theorem img_seq {N : Nat} {l : List XPremise} {p : XProg} (h : p.kind = 5) (hl : p.kids.length = 2) {A : Nat → Bool} : selR N (imgR N (ldR N l p.kids[1]) (imgR N (ldR N l p.kids[0]) A)) = selR N (imgR N (ldR N l p) A) := by
  refine selR_congr fun y hy => ?_
  rw [ldR_eq N l p]
  unfold ldK
  rw [h, if_neg (by decide), if_pos rfl, ldk_getD (i := 0) (by omega), ldk_getD (i := 1) (by omega), imgR_cmp]
theorem img_if {N : Nat} {l : List XPremise} {p : XProg} (h : p.kind = 6) (hl : p.kids.length = 2) {A : Nat → Bool} :
    selR N (orP (imgR N (ldR N l p.kids[0]) (andP A (trP p.cond))) (imgR N (ldR N l p.kids[1]) (andP A (notP (trP p.cond))))) = selR N (imgR N (ldR N l p) A) := by
  refine selR_congr fun y hy => bool_ext ?_
  rw [ldR_eq N l p]
  unfold ldK
  rw [h, if_neg (by decide), if_neg (by decide), if_neg (by decide), if_neg (by decide), if_neg (by decide), if_pos rfl, ldk_getD (i := 0) (by omega), ldk_getD (i := 1) (by omega)]
  simp only [orP, Bool.or_eq_true]
  rw [imgR_iff, imgR_iff, imgR_iff]
  simp only [andP, notP, trP, Bool.and_eq_true]
  constructor
  · rintro (⟨x, hx, ⟨h1, h2⟩, h3⟩ | ⟨x, hx, ⟨h1, h2⟩, h3⟩)
    · exact ⟨x, hx, h1, by rw [if_pos h2]; exact h3⟩
    · exact ⟨x, hx, h1, by rw [if_neg (by simpa using h2)]; exact h3⟩
  · rintro ⟨x, hx, h1, h2⟩
    by_cases hc : truthE p.cond x = true
    · rw [if_pos hc] at h2; exact .inl ⟨x, hx, ⟨h1, hc⟩, h2⟩
    · rw [if_neg hc] at h2; exact .inr ⟨x, hx, ⟨h1, by simpa using hc⟩, h2⟩
theorem img_loop {N : Nat} {l : List XPremise} {p : XProg} (h : p.kind = 7) (hl : p.kids.length = 1) {A B : Nat → Bool} (hg : Grow N (stepR p.cond (ldR N l p.kids[0])) A B)
    (he : (selR N (orP B (imgR N (ldR N l p.kids[0]) (andP B (trP p.cond))))).length = (selR N B).length) : selR N (andP B (notP (trP p.cond))) = selR N (imgR N (ldR N l p) A) := by
  refine selR_congr fun y hy => ?_
  rw [ldR_eq N l p]
  unfold ldK
  rw [h, if_neg (by decide), if_neg (by decide), if_pos rfl, ldk_getD (i := 0) (by omega)]
  refine hg.done (fun y hy hb => ?_) y hy
  cases hB : B y with
  | true => rfl
  | false =>
    exfalso
    rw [selR_cnt, selR_cnt] at he
    have := filter_lt (p := B) (q := orP B (imgR N (ldR N l p.kids[0]) (andP B (trP p.cond)))) (List.range N) (fun x _ hx => by simp [orP, hx]) ⟨y, by simpa using hy, by simp [orP, hb], hB⟩
    unfold cntR at he
    omega
theorem grow_len {N : Nat} (B C : Nat → Bool) : (selR N B).length ≤ (selR N (orP B C)).length := by
  rw [selR_cnt, selR_cnt]
  exact filter_le _ fun x _ hx => by simp [orP, hx]
theorem sel_out {X Y : List Int} (h : X = Y) : SV.c (CV.ro 1 (X.map eI)) = .c (.ro 1 (Y.map eI)) := by rw [h]
theorem kid_getD {p : XProg} {i : Nat} {d : XProg} (h : i < p.kids.length) : p.kids.getD i d = p.kids[i] := getD_eq h
theorem from_next {N : Nat} {A : Nat → Bool} {l : List XPremise} {n : Int} {i k : Nat} {X Y : List Int} (hi : i < (selR N A).length) (hX : X = selR N (fun y => ((selR N A).take i).any fun x => alB l n x y))
    (hY : Y = unL X ((selR N fun y => alB l n ((selR N A).getD i 0) y).take k)) (hk : (selR N fun y => alB l n ((selR N A).getD i 0) y).length ≤ k) : Y = selR N (fun y => ((selR N A).take (i + 1)).any fun x => alB l n x y) := by
  rw [hY, List.take_of_length_le hk, hX, un_sets]
  refine selR_congr fun y _ => ?_
  rw [any_take hi, getD_eq hi]
  rfl
section
variable (t a : Int) (ht : 0 ≤ t ∧ t ≤ 3) (l : List XPremise) (hl : PremOk t a l) (N : Nat) (hN : atomsN t = N ∧ 1 ≤ N ∧ N ≤ 8)
include ht hl hN
theorem l07From_all (p : XProg) (hp : POk t a p) (hx : ∀ k ∈ p.kids, ∀ A, CallX Tryz.prog 38 [.a 2 [J t, J a], .c (.ro 7 (l.map encPremise)), .c (.rp 6 (encProg k)), eS N A] [] (eS N (imgR N (ldR N l k) A))) (A : Nat → Bool) :
    CallX Tryz.prog 38 [.a 2 [J t, J a], .c (.ro 7 (l.map encPremise)), .c (.rp 6 (toldP p)), eS N A] [] (eS N (imgR N (ldR N l p) A)) := by
  have hlen := hp.len
  have hkind := hp.kind
  have how := l00Own_ro (selR N A) (by have := selR_len N A; omega)
  have hpart : p.kind = 4 ∨ p.kind = 6 ∨ p.kind = 7 → ∀ B, CallX Tryz.prog 96 [.c (.rp 4 ((toldP p).drop 2)), eS N B] [] (.tup [eS N (andP B (trP p.cond)), eS N (andP B (notP (trP p.cond)))]) := fun hk B => by
    have h1 := l07Parted_ok t a ht p.cond (hp.cond hk) (selR N B) (by have := selR_len N B; omega)
    rw [encExpr_eq, sel_part, sel_part2] at h1
    exact h1.cut (.cut (k := 3) (by omega) (.same .nil))
  have hnext := l07Next_ok t a ht N hN l hl p.num
  have hV := selR_len N A
  have hU := l07Union_set N hN.2.2
  refine callX_of_vc htb hm Tryz.func38 rfl rfl rfl rfl (ann := fun _ => none) (gh := fun reg_ => match reg_ with | 2 => true | _ => false) ?_
  repeat' ((conv => whnf); first | (guard_target = Done _; refine Done.mk ?_) | (guard_target = RetX _ _; refine RetX.mk ?_ ?_) | (guard_target =~ LoopE 9 _ _ _ _ _ _; refine LoopE.mk { α := List Int × Nat, keep := [1, 2, 3, 4, 21], ov := fun ⟨X, i⟩ => [(9, .c (.ro 1 (X.map eI))), (10, I (i : Nat))], φ := fun ⟨X, i⟩ => i ≤ (selR N A).length ∧ X = selR N (fun y => ((selR N A).take i).any fun x => alB l p.num x y), μ := fun ⟨X, i⟩ => (selR N A).length - i } (LoopN.mk (([], 0) : List Int × Nat) (by exact ⟨Nat.zero_le _, by simp [selR]⟩) (by (repeat' ((conv => whnf) <;> (first | exact trivial | refine ⟨?_, ?_⟩ | kernel_rfl))); done) (by (repeat' ((conv => whnf) <;> (first | exact trivial | refine ⟨?_, ?_⟩ | kernel_rfl))); done) (by (repeat' ((conv => whnf) <;> (first | exact trivial | refine ⟨?_, ?_⟩ | exact rfl | (simp only [List.map_append, List.map_cons, List.map_nil, List.map_set]; first | done | rfl)))); done) (fun A ha => ?_) (by intro A; first | rfl | (obtain ⟨_, _⟩ := A; rfl) | (obtain ⟨_, _, _⟩ := A; rfl))); obtain ⟨X, i⟩ := A; have ha : i ≤ (selR N A).length ∧ X = selR N (fun y => ((selR N A).take i).any fun x => alB l p.num x y) := ha; have hV1 := selR_len N (fun y => ((selR N A).take i).any fun x => alB l p.num x y); rw [← ha.2] at hV1; have hA1 := ha) | (guard_target =~ LoopE 13 _ _ _ _ _ _; refine LoopE.mk { α := List Int × Nat, keep := [1, 2, 3, 4, 10, 11, 21], ov := fun ⟨Y, k⟩ => [(9, .c (.ro 1 (Y.map eI))), (12, I (k : Nat))], φ := fun ⟨Y, k⟩ => k ≤ (selR N fun y => alB l p.num ((selR N A).getD i 0) y).length ∧ Y = unL X ((selR N fun y => alB l p.num ((selR N A).getD i 0) y).take k), μ := fun ⟨Y, k⟩ => (selR N fun y => alB l p.num ((selR N A).getD i 0) y).length - k } (LoopN.mk ((X, 0) : List Int × Nat) (by exact ⟨Nat.zero_le _, rfl⟩) (by (repeat' ((conv => whnf) <;> (first | exact trivial | refine ⟨?_, ?_⟩ | kernel_rfl))); done) (by (repeat' ((conv => whnf) <;> (first | exact trivial | refine ⟨?_, ?_⟩ | kernel_rfl))); done) (by (repeat' ((conv => whnf) <;> (first | exact trivial | refine ⟨?_, ?_⟩ | exact rfl | (simp only [List.map_append, List.map_cons, List.map_nil, List.map_set]; first | done | rfl)))); done) (fun A ha => ?_) (by intro A; first | rfl | (obtain ⟨_, _⟩ := A; rfl) | (obtain ⟨_, _, _⟩ := A; rfl))); obtain ⟨Y, k⟩ := A; have ha : k ≤ (selR N fun y => alB l p.num ((selR N A).getD i 0) y).length ∧ Y = unL X ((selR N fun y => alB l p.num ((selR N A).getD i 0) y).take k) := ha; have hW := selR_len N (fun y => alB l p.num ((selR N A).getD i 0) y); have hY := unL_len X ((selR N fun y => alB l p.num ((selR N A).getD i 0) y).take k); rw [← ha.2, List.length_take] at hY) | (guard_target =~ LoopE 27 _ _ _ _ _ _; refine LoopE.mk { α := Nat → Bool, keep := [1, 2, 4], ov := fun B => [(15, eS N B)], φ := fun B => Grow N (stepR p.cond (ldR N l (p.kids.getD 0 (.mk 0 0 (.mk 0 0 []) [])))) A B, μ := fun B => N - (selR N B).length } (LoopN.mk (A : Nat → Bool) (by exact Grow.zero _ _ _) (by (repeat' ((conv => whnf) <;> (first | exact trivial | refine ⟨?_, ?_⟩ | kernel_rfl))); done) (by (repeat' ((conv => whnf) <;> (first | exact trivial | refine ⟨?_, ?_⟩ | kernel_rfl))); done) (by (repeat' ((conv => whnf) <;> (first | exact trivial | refine ⟨?_, ?_⟩ | exact rfl | (simp only [List.map_append, List.map_cons, List.map_nil, List.map_set]; first | done | rfl)))); done) (fun (B : Nat → Bool) ha => ?_) (by intro A; first | rfl | (obtain ⟨_, _⟩ := A; rfl) | (obtain ⟨_, _, _⟩ := A; rfl))); have ha : Grow N (stepR p.cond (ldR N l (p.kids.getD 0 (.mk 0 0 (.mk 0 0 []) [])))) A B := ha; have h7 : p.kind = 7 := (by omega); have hk7 : 0 < p.kids.length := (by omega); have hgl9 := grow_len (N := N) B (imgR N (ldR N l p.kids[0]) (andP B (trP p.cond))); have hle9 := selR_len N (orP B (imgR N (ldR N l p.kids[0]) (andP B (trP p.cond))))) | (guard_target = Gh _ _ _ _ _; refine Gh.go ⟨((putL Y (selR N fun y => alB l p.num ((selR N A).getD i 0) y)[k], k + 1) : List Int × Nat), (by exact ⟨by show k + 1 ≤ _; omega, by show putL Y _ = _; unfold unL; rw [fold_step _ _ _ (by omega), ha.2]; rfl⟩), (by first | (show _ < _; simp only []; omega) | omega | (simp; omega)), (by (repeat' ((conv => whnf) <;> (first | exact trivial | refine ⟨?_, ?_⟩ | kernel_rfl))); done), (by (repeat' ((conv => whnf) <;> (first | exact trivial | refine ⟨?_, ?_⟩ | kernel_rfl))); done), (by (repeat' ((conv => whnf) <;> (first | exact trivial | refine ⟨?_, ?_⟩ | exact rfl | (simp only [List.map_append, List.map_cons, List.map_nil, List.map_set]; first | done | rfl)))); done)⟩) | (guard_target = Gh _ _ _ _ _; refine Gh.go ⟨((Y, i + 1) : List Int × Nat), (by exact ⟨by show i + 1 ≤ _; omega, from_next (by omega) hA1.2 ha.2 (by omega)⟩), (by first | (show _ < _; simp only []; omega) | omega | (simp; omega)), (by (repeat' ((conv => whnf) <;> (first | exact trivial | refine ⟨?_, ?_⟩ | kernel_rfl))); done), (by (repeat' ((conv => whnf) <;> (first | exact trivial | refine ⟨?_, ?_⟩ | kernel_rfl))); done), (by (repeat' ((conv => whnf) <;> (first | exact trivial | refine ⟨?_, ?_⟩ | exact rfl | (simp only [List.map_append, List.map_cons, List.map_nil, List.map_set]; first | done | rfl)))); done)⟩) | (guard_target = Gh _ _ _ _ _; refine Gh.go ⟨(orP B (imgR N (ldR N l p.kids[0]) (andP B (trP p.cond))) : Nat → Bool), (by (have hg0 := kid_getD (p := p) (i := 0) (d := .mk 0 0 (.mk 0 0 []) []) hk7; rw [hg0] at ha; show Grow _ _ _ _; rw [hg0]; exact ha.step)), (by first | (show _ < _; simp only []; omega) | omega | (simp; omega)), (by (repeat' ((conv => whnf) <;> (first | exact trivial | refine ⟨?_, ?_⟩ | kernel_rfl))); done), (by (repeat' ((conv => whnf) <;> (first | exact trivial | refine ⟨?_, ?_⟩ | kernel_rfl))); done), (by (repeat' ((conv => whnf) <;> (first | exact trivial | refine ⟨?_, ?_⟩ | exact rfl | (simp only [List.map_append, List.map_cons, List.map_nil, List.map_set]; first | done | rfl)))); done)⟩) | (guard_target = Fact _ _; refine Fact.mk fun hL => ?_; (try simp only [List.length_map, maxLen] at hL)) | (guard_target = Branch _ _ _; (first | refine Branch.dec ?_ ?_ | refine Branch.beq ?_ ?_ | refine Branch.bne ?_ ?_ | refine Branch.ndec ?_ ?_ | refine Branch.nb ?_ ?_ | refine Branch.mk ?_ ?_) <;> intro h <;> (try simp only [List.length_map] at h) <;> (try omega) <;> (try contradiction)) | (guard_target = CallN _ 97 _ _ _ _; refine CallN.gen [] _ _ _ rfl (how) rfl rfl _ rfl ?_) | (guard_target = CallN _ 98 _ _ _ _; refine CallN.gen [] _ _ _ rfl (hnext _) rfl rfl _ rfl ?_) | (guard_target = CallN _ 99 _ _ _ _; refine CallN.gen [] _ _ _ rfl (l00Put_ok Y _ (by omega)) rfl rfl _ rfl ?_) | (guard_target = CallN _ 38 _ _ _ _; refine CallN.gen [] _ _ _ rfl (hx _ (List.getElem_mem (by omega)) A) rfl rfl _ rfl ?_) | (guard_target = CallN _ 38 _ _ _ _; refine CallN.gen [] _ _ _ rfl (hx _ (List.getElem_mem (by omega)) (imgR N (ldR N l (p.kids[0]'(by omega))) A)) rfl rfl _ rfl ?_) | (guard_target = CallN _ 96 _ _ _ _; refine CallN.gen [] _ _ _ rfl (hpart (by omega) A) rfl rfl _ rfl ?_) | (guard_target = CallN _ 38 _ _ _ _; refine CallN.gen [] _ _ _ rfl (hx _ (List.getElem_mem (by omega)) (andP A (trP p.cond))) rfl rfl _ rfl ?_) | (guard_target = CallN _ 38 _ _ _ _; refine CallN.gen [] _ _ _ rfl (hx _ (List.getElem_mem (by omega)) (andP A (notP (trP p.cond)))) rfl rfl _ rfl ?_) | (guard_target = CallN _ 100 _ _ _ _; refine CallN.gen [] _ _ _ rfl (hU _ _) rfl rfl _ rfl ?_) | (guard_target = CallN _ 96 _ _ _ _; refine CallN.gen [] _ _ _ rfl (hpart (by omega) B) rfl rfl _ rfl ?_) | (guard_target = CallN _ 38 _ _ _ _; refine CallN.gen [] _ _ _ rfl (hx _ (List.getElem_mem (by omega)) (andP B (trP p.cond))) rfl rfl _ rfl ?_) | (guard_target = Gh _ _ _ _ _; refine Gh.frz 2 (.ro 1 []) rfl (Gh.go ?_)) | (guard_target = Arith _ _ _; refine Arith.fit (wrap_fit (by first | omega | (simp only [List.length_map]; omega)) (by first | omega | (simp only [List.length_map]; omega))) ?_) | (guard_target = Arith _ _ _; refine Arith.fit (by decide) ?_) | (guard_target = Index _ _ _; first | refine Index.mk _ (idx_getD (l := selR N A) (d := 0) (i := i) (by omega)) ?_ | refine Index.mk _ (idx_map (l := selR N fun y => alB l p.num ((selR N A).getD i 0) y) (i := k) (by omega)) ?_ | refine Index.mk _ (idx_map (l := p.kids) (i := 0) (by omega)) ?_ | refine Index.mk _ (idx_map (l := p.kids) (i := 1) (by omega)) ?_ | refine Index.mk _ (idx_map (by omega)) ?_) | (guard_target = Need (_ = true) _; refine Need.mk (by first | kernel_rfl | rfl) ?_) | (guard_target = LinkV _ _ _; first  | refine LinkV.no ?_) | (guard_target = GhO _ _ _ _; refine GhO.go ?_) | (guard_target = Need _ _; refine Need.mk (by first  | omega | (simp only [List.length_map]; omega)) ?_))
  all_goals first | trivial | (have h1 : p.kind = 1 := (by assumption); exact sel_out (img_skip h1)) | (have h1 : p.kind = 2 := (by assumption); exact sel_out (img_fail h1)) | (have h1 : p.kind = 5 := (by assumption); exact sel_out (img_seq h1 (by omega))) | (have h1 : p.kind = 4 := (by assumption); exact sel_out (img_assert h1)) | (have h1 : p.kind = 6 := (by assumption); exact sel_out (img_if h1 (by omega))) | (have h1 : p.kind = 3 := (by assumption); have h9 := ha.2; rw [List.take_of_length_le (by omega), selR_congr fun y _ => (any_sel y).trans (img_act h1 y)] at h9; exact sel_out h9) | (have h1 : p.kind = 7 := (by omega); have hg0 := kid_getD (p := p) (i := 0) (d := .mk 0 0 (.mk 0 0 []) []) (by omega); rw [hg0] at ha; exact sel_out (img_loop h1 (by omega) ha (by omega)))
theorem l07From_ok (p : XProg) (hp : POk t a p) (A : Nat → Bool) : CallX Tryz.prog 38 [.a 2 [J t, J a], .c (.ro 7 (l.map encPremise)), .c (.rp 6 (encProg p)), eS N A] [] (eS N (imgR N (ldR N l p) A)) := by
  rw [encProg_eq]
  exact l07From_all t a ht l hl N hN p hp (fun k _hk A => l07From_ok k (hp.kid _hk) A) A
  termination_by SizeOf.sizeOf p
  decreasing_by
    have := List.sizeOf_lt_of_mem _hk
    cases p
    simp only [XProg.mk.sizeOf_spec]
    show SizeOf.sizeOf k < _
    simp only [XProg.kids] at this
    omega
end
end Go.Proofs.YtlfigjkddnncgaaGreat
