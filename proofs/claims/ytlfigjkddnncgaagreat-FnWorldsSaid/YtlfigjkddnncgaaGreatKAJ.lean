/- Contracts: the table of a program: leads. No conditions but that programs and conditions are valid. -/
import Derived.Test.YtlfigjkddnncgaaGreatKAI
namespace Go.Proofs.YtlfigjkddnncgaaGreat
open Go Go.KA Go.Proofs
set_option maxHeartbeats 16000000
set_option maxRecDepth 100000
theorem sqI_succ {N : Nat} : ∀ (i : Nat) (R : Rel), sqI N (i + 1) R = cmpR N (sqI N i R) (sqI N i R)
  | 0, R => rfl
  | i + 1, R => by
    show sqI N (i + 1) (cmpR N R R) = _
    rw [sqI_succ i (cmpR N R R)]
    rfl
abbrev kidT (N : Nat) (l : List XPremise) (p : XProg) : List (List (List Bool)) := p.kids.map fun k => tabR N (ldR N l k)
theorem kidT_getD {N : Nat} {l : List XPremise} {p : XProg} {i : Nat} (h : i < p.kids.length) : (kidT N l p).getD i [] = tabR N (ldR N l p.kids[i]) := by
  rw [List.getD_eq_getElem?_getD, List.getElem?_map, List.getElem?_eq_getElem h]
  rfl
theorem ldk_getD {N : Nat} {l : List XPremise} {p : XProg} {i : Nat} (h : i < p.kids.length) : (p.kids.map (ldR N l)).getD i noR = ldR N l p.kids[i] := by
  rw [List.getD_eq_getElem?_getD, List.getElem?_map, List.getElem?_eq_getElem h]
  rfl
theorem take_map_next {α β : Type} {f : α → β} {l : List α} {i : Nat} (h : i < l.length) : (l.take (i + 1)).map f = (l.take i).map f ++ [f l[i]] := by
  rw [List.take_add_one, List.getElem?_eq_getElem h, List.map_append]
  rfl
theorem tab_next (N : Nat) (l : List XPremise) {ks : List XProg} {i : Nat} {rows : List (List CV)} (hi : i < ks.length) (h : rows = (ks.take i).map fun k => eT (tabR N (ldR N l k))) : rows ++ [eT (tabR N (ldR N l ks[i]))] = (ks.take (i + 1)).map fun k => eT (tabR N (ldR N l k)) := by
  rw [take_map_next hi, h]
theorem own_congr {ty N : Nat} {R Q : Rel} (h : ∀ x y, x < N → y < N → R x y = Q x y) : SV.c (.own ty 1 ((tabR N R).map eRw)) = SV.c (.own ty 1 ((tabR N Q).map eRw)) := by
  rw [tab_congr h]
theorem ld_act {N : Nat} {l : List XPremise} {k n : Int} {c : XExpr} {ks : List Rel} (h : k = 3) (x y : Nat) : ldK N l k n c ks x y = alB l n x y := by
  unfold ldK
  rw [if_pos h]
theorem ld_seq {N : Nat} {l : List XPremise} {p : XProg} (h : p.kind = 5) (hl : p.kids.length = 2) {x y : Nat} (hx : x < N) (hy : y < N) : cmpR N (relT ((kidT N l p).getD 0 [])) (relT ((kidT N l p).getD 1 [])) x y = ldK N l p.kind p.num p.cond (p.kids.map (ldR N l)) x y := by
  unfold ldK
  rw [h, if_neg (by decide), if_pos rfl, ldk_getD (i := 0) (by omega), ldk_getD (i := 1) (by omega), kidT_getD (i := 0) (by omega), kidT_getD (i := 1) (by omega)]
  refine bool_ext ?_
  rw [cmpR_iff, cmpR_iff]
  constructor
  · rintro ⟨z, hz, h1, h2⟩; exact ⟨z, hz, by rwa [relT_tab hx hz] at h1, by rwa [relT_tab hz hy] at h2⟩
  · rintro ⟨z, hz, h1, h2⟩; exact ⟨z, hz, by rwa [relT_tab hx hz], by rwa [relT_tab hz hy]⟩
theorem ld_loop {N : Nat} {l : List XPremise} {p : XProg} (h : p.kind = 7) (hl : p.kids.length = 1) {A : List (List Bool)} (hA : A = tabR N (sqI N N (onR (stepR p.cond (relT ((kidT N l p).getD 0 [])))))) {x y : Nat} (hx : x < N) (hy : y < N) :
    (relT A x y && !(truthE p.cond y)) = ldK N l p.kind p.num p.cond (p.kids.map (ldR N l)) x y := by
  unfold ldK
  rw [h, if_neg (by decide), if_neg (by decide), if_pos rfl, hA, relT_tab hx hy, ldk_getD (i := 0) (by omega), kidT_getD (i := 0) (by omega)]
  rw [sqI_congr (Q := onR (stepR p.cond (ldR N l p.kids[0]))) (fun x y hx hy => by unfold onR stepR; rw [relT_tab hx hy]) N hx hy]
theorem ld_rest {N : Nat} {l : List XPremise} {p : XProg} (h6 : p.kind = 6 → p.kids.length = 2) (hk : ¬ p.kind = 3 ∧ ¬ p.kind = 5 ∧ ¬ p.kind = 7) {x y : Nat} (hx : x < N) (hy : y < N) :
    ldK N l p.kind p.num p.cond ((kidT N l p).map relT) x y = ldK N l p.kind p.num p.cond (p.kids.map (ldR N l)) x y := by
  unfold ldK
  rw [if_neg hk.1, if_neg hk.2.1, if_neg hk.2.2, if_neg hk.1, if_neg hk.2.1, if_neg hk.2.2]
  split
  · rfl
  · split
    · rfl
    · split
      · rename_i h
        have h2 := h6 h
        have g : ∀ i (hi : i < p.kids.length), ((kidT N l p).map relT).getD i noR x y = (p.kids.map (ldR N l)).getD i noR x y := fun i hi => by
          rw [ldk_getD hi, List.getD_eq_getElem?_getD, List.getElem?_map, List.getElem?_map, List.getElem?_eq_getElem hi]
          exact relT_tab hx hy
        dsimp only
        rw [g 0 (by omega), g 1 (by omega)]
      · rfl
theorem leads_all (t a : Int) (ht : 0 ≤ t ∧ t ≤ 3) (l : List XPremise) (hl : PremOk t a l) (p : XProg) (hp : POk t a p) (N : Nat) (hN : atomsN t = N ∧ 1 ≤ N ∧ N ≤ 8)
    (hx : ∀ k ∈ p.kids, CallX Tryz.prog 163 [.a 2 [J t, J a], .c (.ro 7 (l.map encPremise)), .a 6 (encProg k)] [] (.c (.ro 1 ((tabR N (ldR N l k)).map eR)))) :
    CallX Tryz.prog 163 [.a 2 [J t, J a], .c (.ro 7 (l.map encPremise)), .a 6 (toldP p)] [] (.c (.own 190 1 ((tabR N (ldR N l p)).map eRw))) := by
  have hlen := hp.len
  have hkl : p.kids.length ≤ 2 := by
    have := hlen.1
    unfold pkN at this
    split at this
    · omega
    · split at this
      · omega
      · split at this <;> omega
  have hat := atomsIn_ok t a ht
  rw [hN.1] at hat
  have hsq : ∀ i, i < (kidT N l p).length → Sq N ((kidT N l p).getD i []) := fun i hi => by
    rw [kidT_getD (by simpa using hi)]
    exact tabR_sq _ _
  have hkl' : (kidT N l p).length = p.kids.length := by simp
  have ht1 := table_own 187 (ptL l) (ptP p) N hN.2.2 _ fun x y _ _ => leads1_ok t a l p x y hl
  have ht4 : ¬ p.kind = 3 ∧ ¬ p.kind = 5 ∧ ¬ p.kind = 7 → _ := fun hk => table_own 192 (ptP p) (ptK (kidT N l p)) N hN.2.2 _ fun x y hx hy => leads4_ok t a l p x y N hp hk (kidT N l p) hkl' hsq hx hy
  have ht2 : p.kind = 7 → _ := fun hk => table_own 190 (ptP p) (ptK (kidT N l p)) N hN.2.2 _ fun x y hx hy => leads2_ok t a p x y N (hp.cond (by omega)) (kidT N l p) (by omega) (hsq 0 (by omega)) hx hy
  have ht3 : p.kind = 7 → ∀ A, Sq N A → _ := fun hk A hA => table_own 191 (ptT A) (ptP p) N hN.2.2 _ fun x y hx hy => leads3_ok t a p x y N (hp.cond (by omega)) A hA hx hy
  have hcp : ∀ A, Sq N A → _ := fun A hA => composed_ok N hN.2.2 A A hA hA
  have hc2 : p.kind = 5 → _ := fun hk => composed_own N hN.2.2 _ _ (hsq 0 (by omega)) (hsq 1 (by omega))
  rw [ldR_eq]
  refine callX_of_vc htb hm Tryz.func163 rfl rfl rfl rfl (ann := fun _ => none) (gh := fun reg_ => match reg_ with | 8 => true | 15 => true | _ => false) ?_
  repeat' ((conv => whnf); first | (guard_target = Done _; refine Done.mk ?_) | (guard_target = RetX _ _; refine RetX.mk ?_ ?_) | (guard_target =~ LoopE 4 _ _ _ _ _ _; refine LoopE.mk { α := List (List CV) × Nat, keep := [3, 4, 5, 7, 8, 16, 17], ov := fun ⟨rows, i⟩ => [(18, I (i : Nat))], hv := fun ⟨rows, i⟩ => [(6, .cells [.lw 4]), (4, .row none 191 1 rows)], φ := fun ⟨rows, i⟩ => i ≤ p.kids.length ∧ rows = (p.kids.take i).map fun k => eT (tabR N (ldR N l k)), μ := fun ⟨rows, i⟩ => p.kids.length - i } (LoopN.mk (([], 0) : List (List CV) × Nat) (by exact ⟨Nat.zero_le _, rfl⟩) (by (repeat' ((conv => whnf) <;> (first | exact trivial | refine ⟨?_, ?_⟩ | kernel_rfl))); done) (by (repeat' ((conv => whnf) <;> (first | exact trivial | refine ⟨?_, ?_⟩ | kernel_rfl))); done) (by (repeat' ((conv => whnf) <;> (first | exact trivial | refine ⟨?_, ?_⟩ | exact rfl | (simp only [List.map_append, List.map_cons, List.map_nil, List.map_set]; first | done | rfl)))); done) (fun A ha => ?_) (by intro A; first | rfl | (obtain ⟨_, _⟩ := A; rfl) | (obtain ⟨_, _, _⟩ := A; rfl))); obtain ⟨rows, i⟩ := A; have ha : i ≤ p.kids.length ∧ rows = (p.kids.take i).map fun k => eT (tabR N (ldR N l k)) := ha; have hrl : rows.length = i := (by rw [ha.2, List.length_map, List.length_take]; omega)) | (guard_target =~ LoopE 16 _ _ _ _ _ _; refine LoopE.mk { α := List (List Bool) × Nat, keep := [5, 7, 8, 11, 51], ov := fun ⟨A, j⟩ => [(52, I (j : Nat))], hv := fun ⟨A, j⟩ => [(9, .cc 1 [.ro 1 (A.map eR)])], φ := fun ⟨A, j⟩ => j ≤ N ∧ A = tabR N (sqI N j (onR (stepR p.cond (relT ((kidT N l p).getD 0 []))))), μ := fun ⟨A, j⟩ => N - j } (LoopN.mk ((tabR N (onR (stepR p.cond (relT ((kidT N l p).getD 0 [])))), 0) : List (List Bool) × Nat) (by exact ⟨Nat.zero_le _, rfl⟩) (by (repeat' ((conv => whnf) <;> (first | exact trivial | refine ⟨?_, ?_⟩ | kernel_rfl))); done) (by (repeat' ((conv => whnf) <;> (first | exact trivial | refine ⟨?_, ?_⟩ | kernel_rfl))); done) (by (repeat' ((conv => whnf) <;> (first | exact trivial | refine ⟨?_, ?_⟩ | exact rfl | (simp only [List.map_append, List.map_cons, List.map_nil, List.map_set]; first | done | rfl)))); done) (fun A ha => ?_) (by intro A; first | rfl | (obtain ⟨_, _⟩ := A; rfl) | (obtain ⟨_, _, _⟩ := A; rfl))); obtain ⟨A, j⟩ := A; have ha : j ≤ N ∧ A = tabR N (sqI N j (onR (stepR p.cond (relT ((kidT N l p).getD 0 []))))) := ha; have hsA : Sq N A := (by rw [ha.2]; exact tabR_sq _ _)) | (guard_target = Gh _ _ _ _ _; refine Gh.go ⟨((rows ++ [eT (tabR N (ldR N l p.kids[i]))], i + 1) : List (List CV) × Nat), (by exact ⟨by show i + 1 ≤ _; omega, tab_next N l (by omega) ha.2⟩), (by first | (show _ < _; simp only []; omega) | omega | (simp; omega)), (by (repeat' ((conv => whnf) <;> (first | exact trivial | refine ⟨?_, ?_⟩ | kernel_rfl))); done), (by (repeat' ((conv => whnf) <;> (first | exact trivial | refine ⟨?_, ?_⟩ | kernel_rfl))); done), (by (repeat' ((conv => whnf) <;> (first | exact trivial | refine ⟨?_, ?_⟩ | exact rfl | (simp only [List.map_append, List.map_cons, List.map_nil, List.map_set]; first | done | rfl)))); done)⟩) | (guard_target = Gh _ _ _ _ _; refine Gh.go ⟨((tabR N (cmpR N (relT A) (relT A)), j + 1) : List (List Bool) × Nat), (by exact ⟨by show j + 1 ≤ _; omega, by show tabR _ _ = _; rw [cmp_tab ha.2 ha.2, ← sqI_succ]⟩), (by first | (show _ < _; simp only []; omega) | omega | (simp; omega)), (by (repeat' ((conv => whnf) <;> (first | exact trivial | refine ⟨?_, ?_⟩ | kernel_rfl))); done), (by (repeat' ((conv => whnf) <;> (first | exact trivial | refine ⟨?_, ?_⟩ | kernel_rfl))); done), (by (repeat' ((conv => whnf) <;> (first | exact trivial | refine ⟨?_, ?_⟩ | exact rfl | (simp only [List.map_append, List.map_cons, List.map_nil, List.map_set]; first | done | rfl)))); done)⟩) | (guard_target = Fact _ _; refine Fact.mk fun hL => ?_; (try simp only [List.length_map, maxLen] at hL)) | (guard_target = Branch _ _ _; (first | refine Branch.dec ?_ ?_ | refine Branch.beq ?_ ?_ | refine Branch.bne ?_ ?_ | refine Branch.ndec ?_ ?_ | refine Branch.nb ?_ ?_ | refine Branch.mk ?_ ?_) <;> intro h <;> (try simp only [List.length_map] at h) <;> (try omega) <;> (try contradiction)) | (guard_target = CallN _ 123 _ _ _ _; refine CallN.pure _ _ rfl (hat) rfl _ rfl ?_) | (guard_target = CallN _ 163 _ _ _ _; refine CallN.gen [] _ _ _ rfl (hx _ (List.getElem_mem (by omega))) rfl rfl _ rfl ?_) | (guard_target = CallN _ 189 _ _ _ _; refine CallN.gen [] _ _ _ rfl (hcp A hsA) rfl rfl _ rfl ?_) | (guard_target = CallN _ 189 _ _ _ _; refine CallN.gen [] _ _ _ rfl (hc2 h) rfl rfl _ rfl ?_) | (guard_target = Gh _ _ _ _ _; (have hk7 : p.kind = 7 := h); refine Gh.frz 7 (.ro 1 ((tabR N (onR (stepR p.cond (relT ((kidT N l p).getD 0 []))))).map eR)) (congrArg (fun z => some (CV.ro 1 z)) (roLL_eRw _)) (Gh.soft 9 (.cc rfl) (Gh.go ?_))) | (guard_target = Gh _ _ _ _ _; (have hlt : ¬ (i : Int) < (p.kids.length : Int) := h); (obtain rfl : rows = (kidT N l p).map eT := (by rw [ha.2, List.take_of_length_le (by omega), List.map_map]; rfl)); refine Gh.go ?_) | (guard_target = Index _ _ _; refine Index.mk _ (idx_getD (l := kidT N l p) (d := []) (i := 0) (by omega)) ?_) | (guard_target = Index _ _ _; refine Index.mk _ (idx_getD (l := kidT N l p) (d := []) (i := 1) (by omega)) ?_) | (guard_target = CallN _ 186 _ _ _ _; refine CallN.own _ _ rfl (ht2 h) (pure_eRw _) _ rfl ?_) | (guard_target = CallN _ 186 _ _ _ _; refine CallN.own _ _ rfl (ht4 (by omega)) (pure_eRw _) _ rfl ?_) | (guard_target = CallN _ 186 _ _ _ _; refine CallN.own _ _ rfl (ht3 (by assumption) A hsA) (pure_eRw _) _ rfl ?_) | (guard_target = CallN _ 186 _ _ _ _; refine CallN.own _ _ rfl ht1 (pure_eRw _) _ rfl ?_) | (guard_target = Arith _ _ _; refine Arith.fit (wrap_fit (by first | omega | (simp only [List.length_map]; omega)) (by first | omega | (simp only [List.length_map]; omega))) ?_) | (guard_target = Arith _ _ _; refine Arith.fit (by decide) ?_) | (guard_target = Index _ _ _; first | refine Index.mk _ (idx_map (l := p.kids) (i := i) (by omega)) ?_ | refine Index.mk _ (idx_map (by omega)) ?_) | (guard_target = Need (_ = true) _; refine Need.mk (by first | kernel_rfl | rfl) ?_) | (guard_target = LinkV _ _ _; first  | refine LinkV.no ?_) | (guard_target = GhO _ _ _ _; refine GhO.go ?_) | (guard_target = Need _ _; refine Need.mk (by first | ((simp only [List.length_map, List.length_cons, List.length_nil, maxLen]; constructor <;> omega)) | omega | (simp only [List.length_map]; omega)) ?_))
  all_goals first | trivial | (exact own_congr fun x y hx hy => (ld_act (by omega) x y).symm) | (exact own_congr fun x y hx hy => ld_seq (by omega) (by omega) hx hy) | (exact own_congr fun x y hx hy => ld_rest (fun h6 => by omega) (by omega) hx hy) | (have ej : j = N := (by omega); subst ej; exact own_congr fun x y hx hy => ld_loop (by omega) (by omega) ha.2 hx hy)
end Go.Proofs.YtlfigjkddnncgaaGreat

namespace Go.Proofs.YtlfigjkddnncgaaGreat
open Go Go.KA Go.Proofs
set_option maxHeartbeats 16000000
set_option maxRecDepth 100000
/-! ### the first place -/
def idxP {α : Type} (p : α → Bool) : List α → Int
  | [] => -1
  | x :: xs => if p x = true then 0 else if idxP p xs < 0 then -1 else idxP p xs + 1
theorem idxP_at {α : Type} {p : α → Bool} : ∀ {l : List α} {i : Nat} (h : i < l.length), (l.take i).all (fun x => !p x) = true → p l[i] = true → idxP p l = i
  | x :: xs, 0, _, _, hp => by
    simp only [List.getElem_cons_zero] at hp
    simp [idxP, hp]
  | x :: xs, i + 1, h, hn, hp => by
    simp only [List.take_succ_cons, List.all_cons, Bool.and_eq_true] at hn
    have hx : p x = false := by simpa using hn.1
    have ih := idxP_at (l := xs) (i := i) (by simpa using h) hn.2 (by simpa using hp)
    simp only [idxP, hx, ih]
    rw [if_neg (by simp), if_neg (by omega)]
    omega
theorem idxP_none {α : Type} {p : α → Bool} : ∀ {l : List α}, l.all (fun x => !p x) = true → idxP p l = -1
  | [], _ => rfl
  | x :: xs, h => by
    simp only [List.all_cons, Bool.and_eq_true] at h
    have hx : p x = false := by simpa using h.1
    simp only [idxP, hx, idxP_none h.2]
    rfl
theorem idxP_or {α : Type} (p : α → Bool) : ∀ l : List α, (idxP p l = -1 ∧ ∀ x ∈ l, p x = false) ∨ ∃ (i : Nat) (h : i < l.length), idxP p l = i ∧ p l[i] = true ∧ ∀ j (hj : j < i), p (l[j]'(Nat.lt_trans hj h)) = false
  | [] => .inl ⟨rfl, by simp⟩
  | x :: xs => by
    cases hx : p x with
    | true => exact .inr ⟨0, by simp, by simp [idxP, hx], by simpa using hx, fun j hj => by omega⟩
    | false =>
      rcases idxP_or p xs with ⟨h1, h2⟩ | ⟨i, h, h1, h2, h3⟩
      · left
        refine ⟨by simp [idxP, hx, h1], fun y hy => ?_⟩
        rcases List.mem_cons.1 hy with rfl | hy
        · exact hx
        · exact h2 y hy
      · right
        refine ⟨i + 1, by simpa using h, ?_, by simpa using h2, fun j hj => ?_⟩
        · simp only [idxP, hx, h1]
          rw [if_neg (by simp), if_neg (by omega)]
          omega
        · cases j with
          | zero => simpa using hx
          | succ j => simpa using h3 j (by omega)
theorem idxP_ge {α : Type} {p : α → Bool} {l : List α} : 0 ≤ idxP p l ↔ ∃ x ∈ l, p x = true := by
  rcases idxP_or p l with ⟨h1, h2⟩ | ⟨i, h, h1, h2, h3⟩
  · rw [h1]
    constructor
    · intro h; omega
    · rintro ⟨x, hx, hp⟩; rw [h2 x hx] at hp; cases hp
  · rw [h1]
    exact ⟨fun _ => ⟨_, List.getElem_mem h, h2⟩, fun _ => by omega⟩
/-! ### numbers -/
theorem Index_ok (l : List Int) (x : Int) : CallF Tryz.prog 164 [.c (.ro 1 (l.map eI)), I x] (I (idxP (fun y => x == y) l)) := by
  refine callF_of_vc htb hm Tryz.func164 rfl rfl rfl rfl (ann := fun _ => none) (gh := fun _ => false) ?_
  repeat' ((conv => whnf); first | (guard_target = Done _; refine Done.mk ?_; first | (exact congrArg I (idxP_at (p := fun y => x == y) (i := i) (by omega) ha.2 (by simpa using h)).symm; done) | (exact congrArg I (idxP_none (p := fun y => x == y) (all_end (by omega) ha)).symm; done) | skip) | (guard_target = RetX _ _; refine RetX.mk ?_ ?_) | (guard_target =~ LoopE 2 _ _ _ _ _ _; refine LoopE.mk { α := Nat, keep := [0, 1, 7], ov := fun i => [(8, I i)], φ := fun i => i ≤ l.length ∧ (l.take i).all (fun y => !(x == y)) = true, μ := fun i => l.length - i } (LoopN.mk (0 : Nat) (by exact ⟨Nat.zero_le _, rfl⟩) (by (repeat' ((conv => whnf) <;> (first | exact trivial | refine ⟨?_, ?_⟩ | kernel_rfl))); done) (by (repeat' ((conv => whnf) <;> (first | exact trivial | refine ⟨?_, ?_⟩ | kernel_rfl))); done) (by (repeat' ((conv => whnf) <;> (first | exact trivial | refine ⟨?_, ?_⟩ | exact rfl | (simp only [List.map_append, List.map_cons, List.map_nil, List.map_set]; first | done | rfl)))); done) (fun (i : Nat) ha => ?_) (by intro A; first | rfl | (obtain ⟨_, _⟩ := A; rfl) | (obtain ⟨_, _, _⟩ := A; rfl))); have ha : i ≤ l.length ∧ (l.take i).all (fun y => !(x == y)) = true := ha) | (guard_target = Gh _ _ _ _ _; refine Gh.go ⟨(i + 1 : Nat), (by exact all_go (by omega) ha (by simpa using h)), (by first | (show _ < _; simp only []; omega) | omega | (simp; omega)), (by (repeat' ((conv => whnf) <;> (first | exact trivial | refine ⟨?_, ?_⟩ | kernel_rfl))); done), (by (repeat' ((conv => whnf) <;> (first | exact trivial | refine ⟨?_, ?_⟩ | kernel_rfl))); done), (by (repeat' ((conv => whnf) <;> (first | exact trivial | refine ⟨?_, ?_⟩ | exact rfl | (simp only [List.map_append, List.map_cons, List.map_nil, List.map_set]; first | done | rfl)))); done)⟩) | (guard_target = Fact _ _; refine Fact.mk fun hL => ?_; (try simp only [List.length_map, maxLen] at hL)) | (guard_target = Branch _ _ _; (first | refine Branch.dec ?_ ?_ | refine Branch.beq ?_ ?_ | refine Branch.bne ?_ ?_ | refine Branch.ndec ?_ ?_ | refine Branch.nb ?_ ?_ | refine Branch.mk ?_ ?_) <;> intro h <;> (try simp only [List.length_map] at h) <;> (try omega) <;> (try contradiction)) | (guard_target = Arith _ _ _; refine Arith.fit (wrap_fit (by first | omega | (simp only [List.length_map]; omega)) (by first | omega | (simp only [List.length_map]; omega))) ?_) | (guard_target = Arith _ _ _; refine Arith.fit (by decide) ?_) | (guard_target = Index _ _ _; first | refine Index.mk _ (idx_map (i := i) (by omega)) ?_ | refine Index.mk _ (idx_map (by omega)) ?_) | (guard_target = Need (_ = true) _; refine Need.mk (by first | kernel_rfl | rfl) ?_) | (guard_target = LinkV _ _ _; first  | refine LinkV.no ?_) | (guard_target = GhO _ _ _ _; refine GhO.go ?_) | (guard_target = Need _ _; refine Need.mk (by first  | omega | (simp only [List.length_map]; omega)) ?_))
def memB (x : Int) (l : List Int) : Bool := decide (x ∈ l)
theorem idx_mem {x : Int} {l : List Int} : decide (idxP (fun y => x == y) l ≥ 0) = memB x l := by
  unfold memB
  refine decide_eq_decide.2 (idxP_ge.trans ?_)
  simp
theorem Contains_ok (l : List Int) (x : Int) : CallF Tryz.prog 121 [.c (.ro 1 (l.map eI)), I x] (B (memB x l)) := by
  refine callF_of_vc htb hm Tryz.func121 rfl rfl rfl rfl (ann := fun _ => none) (gh := fun _ => false) ?_
  repeat' ((conv => whnf); first | (guard_target = Done _; refine Done.mk ?_; first | (rw [← idx_mem]; rfl; done) | skip) | (guard_target = RetX _ _; refine RetX.mk ?_ ?_) | (guard_target = Fact _ _; refine Fact.mk fun hL => ?_; (try simp only [List.length_map, maxLen] at hL)) | (guard_target = Branch _ _ _; (first | refine Branch.dec ?_ ?_ | refine Branch.beq ?_ ?_ | refine Branch.bne ?_ ?_ | refine Branch.ndec ?_ ?_ | refine Branch.nb ?_ ?_ | refine Branch.mk ?_ ?_) <;> intro h <;> (try simp only [List.length_map] at h) <;> (try omega) <;> (try contradiction)) | (guard_target = CallN _ 164 _ _ _ _; refine CallN.pure _ _ rfl (Index_ok l x) rfl _ rfl ?_) | (guard_target = Arith _ _ _; refine Arith.fit (wrap_fit (by first | omega | (simp only [List.length_map]; omega)) (by first | omega | (simp only [List.length_map]; omega))) ?_) | (guard_target = Arith _ _ _; refine Arith.fit (by decide) ?_) | (guard_target = Index _ _ _; first  | refine Index.mk _ (idx_map (by omega)) ?_) | (guard_target = Need (_ = true) _; refine Need.mk (by first | kernel_rfl | rfl) ?_) | (guard_target = LinkV _ _ _; first  | refine LinkV.no ?_) | (guard_target = GhO _ _ _ _; refine GhO.go ?_) | (guard_target = Need _ _; refine Need.mk (by first  | omega | (simp only [List.length_map]; omega)) ?_))
end Go.Proofs.YtlfigjkddnncgaaGreat
