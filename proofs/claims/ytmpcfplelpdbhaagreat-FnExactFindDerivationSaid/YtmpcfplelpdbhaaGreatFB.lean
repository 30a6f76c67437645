/- Contracts: the table of a program: leads. No conditions but that programs and conditions are valid. -/
import Derived.Test.YtmpcfplelpdbhaaGreatFA
namespace Go.Proofs.YtmpcfplelpdbhaaGreat
open Go Go.KA Go.Proofs
set_option maxHeartbeats 16000000
set_option maxRecDepth 100000
theorem sqI_succ {N : Nat} : ∀ (i : Nat) (R : Rel), sqI N (i + 1) R = cmpR N (sqI N i R) (sqI N i R)
  | 0, R => rfl
  | i + 1, R => by
    show sqI N (i + 1) (cmpR N R R) = _
    rw [sqI_succ i (cmpR N R R)]
    rfl
theorem atoms_nat {t : Int} (ht : 0 ≤ t ∧ t ≤ 3) : ∃ N : Nat, atomsN t = N ∧ 1 ≤ N ∧ N ≤ 8 := by
  have := atoms_b ht
  exact ⟨(atomsN t).toNat, by omega, by omega, by omega⟩
abbrev kidT (N : Nat) (l : List XPremise) (p : XProg) : List (List (List Bool)) := p.kids.map fun k => tabR N (ldR N l k)
theorem kidT_getD {N : Nat} {l : List XPremise} {p : XProg} {i : Nat} (h : i < p.kids.length) : (kidT N l p).getD i [] = tabR N (ldR N l p.kids[i]) := by
  rw [List.getD_eq_getElem?_getD, List.getElem?_map, List.getElem?_eq_getElem h]
  rfl
theorem ldk_getD {N : Nat} {l : List XPremise} {p : XProg} {i : Nat} (h : i < p.kids.length) : (p.kids.map (ldR N l)).getD i noR = ldR N l p.kids[i] := by
  rw [List.getD_eq_getElem?_getD, List.getElem?_map, List.getElem?_eq_getElem h]
  rfl
theorem take_map_next {α β : Type} {f : α → β} {l : List α} {i : Nat} (h : i < l.length) : (l.take (i + 1)).map f = (l.take i).map f ++ [f l[i]] := by
  rw [List.take_add_one, List.getElem?_eq_getElem h, List.map_append]
  rfl
theorem tab_next (N : Nat) (l : List XPremise) {ks : List XProg} {i : Nat} {rows : List (List CV)} (hi : i < ks.length) (h : rows = (ks.take i).map fun k => eT (tabR N (ldR N l k))) : rows ++ [eT (tabR N (ldR N l ks[i]))] = (ks.take (i + 1)).map fun k => eT (tabR N (ldR N l k)) := by
  rw [take_map_next hi, h]
theorem own_congr {ty N : Nat} {R Q : Rel} (h : ∀ x y, x < N → y < N → R x y = Q x y) : SV.c (.own ty 1 ((tabR N R).map eRw)) = SV.c (.own ty 1 ((tabR N Q).map eRw)) := by
  rw [tab_congr h]
theorem ld_act {N : Nat} {l : List XPremise} {k n : Int} {c : XExpr} {ks : List Rel} (h : k = 3) (x y : Nat) : ldK N l k n c ks x y = alB l n x y := by
  unfold ldK
  rw [if_pos h]
theorem ld_seq {N : Nat} {l : List XPremise} {p : XProg} (h : p.kind = 5) (hl : p.kids.length = 2) {x y : Nat} (hx : x < N) (hy : y < N) : cmpR N (relT ((kidT N l p).getD 0 [])) (relT ((kidT N l p).getD 1 [])) x y = ldK N l p.kind p.num p.cond (p.kids.map (ldR N l)) x y := by
  unfold ldK
  rw [h, if_neg (by decide), if_pos rfl, ldk_getD (i := 0) (by omega), ldk_getD (i := 1) (by omega), kidT_getD (i := 0) (by omega), kidT_getD (i := 1) (by omega)]
  refine bool_ext ?_
  rw [cmpR_iff, cmpR_iff]
  constructor
  · rintro ⟨z, hz, h1, h2⟩; exact ⟨z, hz, by rwa [relT_tab hx hz] at h1, by rwa [relT_tab hz hy] at h2⟩
  · rintro ⟨z, hz, h1, h2⟩; exact ⟨z, hz, by rwa [relT_tab hx hz], by rwa [relT_tab hz hy]⟩
theorem ld_loop {N : Nat} {l : List XPremise} {p : XProg} (h : p.kind = 7) (hl : p.kids.length = 1) {A : List (List Bool)} (hA : A = tabR N (sqI N N (onR (stepR p.cond (relT ((kidT N l p).getD 0 [])))))) {x y : Nat} (hx : x < N) (hy : y < N) :
    (relT A x y && !(truthE p.cond y)) = ldK N l p.kind p.num p.cond (p.kids.map (ldR N l)) x y := by
  unfold ldK
  rw [h, if_neg (by decide), if_neg (by decide), if_pos rfl, hA, relT_tab hx hy, ldk_getD (i := 0) (by omega), kidT_getD (i := 0) (by omega)]
  rw [sqI_congr (Q := onR (stepR p.cond (ldR N l p.kids[0]))) (fun x y hx hy => by unfold onR stepR; rw [relT_tab hx hy]) N hx hy]
theorem ld_rest {N : Nat} {l : List XPremise} {p : XProg} (h6 : p.kind = 6 → p.kids.length = 2) (hk : ¬ p.kind = 3 ∧ ¬ p.kind = 5 ∧ ¬ p.kind = 7) {x y : Nat} (hx : x < N) (hy : y < N) :
    ldK N l p.kind p.num p.cond ((kidT N l p).map relT) x y = ldK N l p.kind p.num p.cond (p.kids.map (ldR N l)) x y := by
  unfold ldK
  rw [if_neg hk.1, if_neg hk.2.1, if_neg hk.2.2, if_neg hk.1, if_neg hk.2.1, if_neg hk.2.2]
  split
  · rfl
  · split
    · rfl
    · split
      · rename_i h
        have h2 := h6 h
        have g : ∀ i (hi : i < p.kids.length), ((kidT N l p).map relT).getD i noR x y = (p.kids.map (ldR N l)).getD i noR x y := fun i hi => by
          rw [ldk_getD hi, List.getD_eq_getElem?_getD, List.getElem?_map, List.getElem?_map, List.getElem?_eq_getElem hi]
          exact relT_tab hx hy
        dsimp only
        rw [g 0 (by omega), g 1 (by omega)]
      · rfl
theorem leads_all (t a : Int) (ht : 0 ≤ t ∧ t ≤ 3) (l : List XPremise) (hl : PremOk t a l) (p : XProg) (hp : POk t a p) (N : Nat) (hN : atomsN t = N ∧ 1 ≤ N ∧ N ≤ 8)
    (hx : ∀ k ∈ p.kids, CallX Tryz.prog 166 [.a 2 [J t, J a], .c (.ro 7 (l.map encPremise)), .a 6 (encProg k)] [] (.c (.ro 1 ((tabR N (ldR N l k)).map eR)))) :
    CallX Tryz.prog 166 [.a 2 [J t, J a], .c (.ro 7 (l.map encPremise)), .a 6 (toldP p)] [] (.c (.own 145 1 ((tabR N (ldR N l p)).map eRw))) := by
  have hlen := hp.len
  have hkl : p.kids.length ≤ 2 := by
    have := hlen.1
    unfold pkN at this
    split at this
    · omega
    · split at this
      · omega
      · split at this <;> omega
  have hat := atomsIn_ok t a ht
  rw [hN.1] at hat
  have hsq : ∀ i, i < (kidT N l p).length → Sq N ((kidT N l p).getD i []) := fun i hi => by
    rw [kidT_getD (by simpa using hi)]
    exact tabR_sq _ _
  have hkl' : (kidT N l p).length = p.kids.length := by simp
  have ht1 := table_own 215 (ptL l) (ptP p) N hN.2.2 _ fun x y _ _ => leads1_ok t a l p x y hl
  have ht4 : ¬ p.kind = 3 ∧ ¬ p.kind = 5 ∧ ¬ p.kind = 7 → _ := fun hk => table_own 220 (ptP p) (ptK (kidT N l p)) N hN.2.2 _ fun x y hx hy => leads4_ok t a l p x y N hp hk (kidT N l p) hkl' hsq hx hy
  have ht2 : p.kind = 7 → _ := fun hk => table_own 218 (ptP p) (ptK (kidT N l p)) N hN.2.2 _ fun x y hx hy => leads2_ok t a p x y N (hp.cond (by omega)) (kidT N l p) (by omega) (hsq 0 (by omega)) hx hy
  have ht3 : p.kind = 7 → ∀ A, Sq N A → _ := fun hk A hA => table_own 219 (ptT A) (ptP p) N hN.2.2 _ fun x y hx hy => leads3_ok t a p x y N (hp.cond (by omega)) A hA hx hy
  have hcp : ∀ A, Sq N A → _ := fun A hA => composed_ok N hN.2.2 A A hA hA
  have hc2 : p.kind = 5 → _ := fun hk => composed_own N hN.2.2 _ _ (hsq 0 (by omega)) (hsq 1 (by omega))
  rw [ldR_eq]
  refine callX_of_vc htb hm Tryz.func166 rfl rfl rfl rfl (ann := fun _ => none) (gh := fun reg_ => match reg_ with | 8 => true | 15 => true | _ => false) ?_
  repeat' ((conv => whnf); first | (guard_target = Done _; refine Done.mk ?_) | (guard_target = RetX _ _; refine RetX.mk ?_ ?_) | (guard_target =~ LoopE 4 _ _ _ _ _ _; refine LoopE.mk { α := List (List CV) × Nat, keep := [3, 4, 5, 7, 8, 16, 17], ov := fun ⟨rows, i⟩ => [(18, I (i : Nat))], hv := fun ⟨rows, i⟩ => [(6, .cells [.lw 4]), (4, .row none 252 1 rows)], φ := fun ⟨rows, i⟩ => i ≤ p.kids.length ∧ rows = (p.kids.take i).map fun k => eT (tabR N (ldR N l k)), μ := fun ⟨rows, i⟩ => p.kids.length - i } (LoopN.mk (([], 0) : List (List CV) × Nat) (by exact ⟨Nat.zero_le _, rfl⟩) (by (repeat' ((conv => whnf) <;> (first | exact trivial | refine ⟨?_, ?_⟩ | kernel_rfl))); done) (by (repeat' ((conv => whnf) <;> (first | exact trivial | refine ⟨?_, ?_⟩ | kernel_rfl))); done) (by (repeat' ((conv => whnf) <;> (first | exact trivial | refine ⟨?_, ?_⟩ | exact rfl | (simp only [List.map_append, List.map_cons, List.map_nil, List.map_set]; first | done | rfl)))); done) (fun A ha => ?_) (by intro A; first | rfl | (obtain ⟨_, _⟩ := A; rfl) | (obtain ⟨_, _, _⟩ := A; rfl))); obtain ⟨rows, i⟩ := A; have ha : i ≤ p.kids.length ∧ rows = (p.kids.take i).map fun k => eT (tabR N (ldR N l k)) := ha; have hrl : rows.length = i := (by rw [ha.2, List.length_map, List.length_take]; omega)) | (guard_target =~ LoopE 16 _ _ _ _ _ _; refine LoopE.mk { α := List (List Bool) × Nat, keep := [5, 7, 8, 11, 51], ov := fun ⟨A, j⟩ => [(52, I (j : Nat))], hv := fun ⟨A, j⟩ => [(9, .cc 1 [.ro 1 (A.map eR)])], φ := fun ⟨A, j⟩ => j ≤ N ∧ A = tabR N (sqI N j (onR (stepR p.cond (relT ((kidT N l p).getD 0 []))))), μ := fun ⟨A, j⟩ => N - j } (LoopN.mk ((tabR N (onR (stepR p.cond (relT ((kidT N l p).getD 0 [])))), 0) : List (List Bool) × Nat) (by exact ⟨Nat.zero_le _, rfl⟩) (by (repeat' ((conv => whnf) <;> (first | exact trivial | refine ⟨?_, ?_⟩ | kernel_rfl))); done) (by (repeat' ((conv => whnf) <;> (first | exact trivial | refine ⟨?_, ?_⟩ | kernel_rfl))); done) (by (repeat' ((conv => whnf) <;> (first | exact trivial | refine ⟨?_, ?_⟩ | exact rfl | (simp only [List.map_append, List.map_cons, List.map_nil, List.map_set]; first | done | rfl)))); done) (fun A ha => ?_) (by intro A; first | rfl | (obtain ⟨_, _⟩ := A; rfl) | (obtain ⟨_, _, _⟩ := A; rfl))); obtain ⟨A, j⟩ := A; have ha : j ≤ N ∧ A = tabR N (sqI N j (onR (stepR p.cond (relT ((kidT N l p).getD 0 []))))) := ha; have hsA : Sq N A := (by rw [ha.2]; exact tabR_sq _ _)) | (guard_target = Gh _ _ _ _ _; refine Gh.go ⟨((rows ++ [eT (tabR N (ldR N l p.kids[i]))], i + 1) : List (List CV) × Nat), (by exact ⟨by show i + 1 ≤ _; omega, tab_next N l (by omega) ha.2⟩), (by first | (show _ < _; simp only []; omega) | omega | (simp; omega)), (by (repeat' ((conv => whnf) <;> (first | exact trivial | refine ⟨?_, ?_⟩ | kernel_rfl))); done), (by (repeat' ((conv => whnf) <;> (first | exact trivial | refine ⟨?_, ?_⟩ | kernel_rfl))); done), (by (repeat' ((conv => whnf) <;> (first | exact trivial | refine ⟨?_, ?_⟩ | exact rfl | (simp only [List.map_append, List.map_cons, List.map_nil, List.map_set]; first | done | rfl)))); done)⟩) | (guard_target = Gh _ _ _ _ _; refine Gh.go ⟨((tabR N (cmpR N (relT A) (relT A)), j + 1) : List (List Bool) × Nat), (by exact ⟨by show j + 1 ≤ _; omega, by show tabR _ _ = _; rw [cmp_tab ha.2 ha.2, ← sqI_succ]⟩), (by first | (show _ < _; simp only []; omega) | omega | (simp; omega)), (by (repeat' ((conv => whnf) <;> (first | exact trivial | refine ⟨?_, ?_⟩ | kernel_rfl))); done), (by (repeat' ((conv => whnf) <;> (first | exact trivial | refine ⟨?_, ?_⟩ | kernel_rfl))); done), (by (repeat' ((conv => whnf) <;> (first | exact trivial | refine ⟨?_, ?_⟩ | exact rfl | (simp only [List.map_append, List.map_cons, List.map_nil, List.map_set]; first | done | rfl)))); done)⟩) | (guard_target = Fact _ _; refine Fact.mk fun hL => ?_; (try simp only [List.length_map, maxLen] at hL)) | (guard_target = Branch _ _ _; (first | refine Branch.dec ?_ ?_ | refine Branch.beq ?_ ?_ | refine Branch.bne ?_ ?_ | refine Branch.ndec ?_ ?_ | refine Branch.nb ?_ ?_ | refine Branch.mk ?_ ?_) <;> intro h <;> (try simp only [List.length_map] at h) <;> (try omega) <;> (try contradiction)) | (guard_target = CallN _ 168 _ _ _ _; refine CallN.pure _ _ rfl (hat) rfl _ rfl ?_) | (guard_target = CallN _ 166 _ _ _ _; refine CallN.gen [] _ _ _ rfl (hx _ (List.getElem_mem (by omega))) rfl rfl _ rfl ?_) | (guard_target = CallN _ 217 _ _ _ _; refine CallN.gen [] _ _ _ rfl (hcp A hsA) rfl rfl _ rfl ?_) | (guard_target = CallN _ 217 _ _ _ _; refine CallN.gen [] _ _ _ rfl (hc2 h) rfl rfl _ rfl ?_) | (guard_target = Gh _ _ _ _ _; (have hk7 : p.kind = 7 := h); refine Gh.frz 7 (.ro 1 ((tabR N (onR (stepR p.cond (relT ((kidT N l p).getD 0 []))))).map eR)) (congrArg (fun z => some (CV.ro 1 z)) (roLL_eRw _)) (Gh.soft 9 (.cc rfl) (Gh.go ?_))) | (guard_target = Gh _ _ _ _ _; (have hlt : ¬ (i : Int) < (p.kids.length : Int) := h); (obtain rfl : rows = (kidT N l p).map eT := (by rw [ha.2, List.take_of_length_le (by omega), List.map_map]; rfl)); refine Gh.go ?_) | (guard_target = Index _ _ _; refine Index.mk _ (idx_getD (l := kidT N l p) (d := []) (i := 0) (by omega)) ?_) | (guard_target = Index _ _ _; refine Index.mk _ (idx_getD (l := kidT N l p) (d := []) (i := 1) (by omega)) ?_) | (guard_target = CallN _ 214 _ _ _ _; refine CallN.own _ _ rfl (ht2 h) (pure_eRw _) _ rfl ?_) | (guard_target = CallN _ 214 _ _ _ _; refine CallN.own _ _ rfl (ht4 (by omega)) (pure_eRw _) _ rfl ?_) | (guard_target = CallN _ 214 _ _ _ _; refine CallN.own _ _ rfl (ht3 (by assumption) A hsA) (pure_eRw _) _ rfl ?_) | (guard_target = CallN _ 214 _ _ _ _; refine CallN.own _ _ rfl ht1 (pure_eRw _) _ rfl ?_) | (guard_target = Arith _ _ _; refine Arith.fit (wrap_fit (by first | omega | (simp only [List.length_map]; omega)) (by first | omega | (simp only [List.length_map]; omega))) ?_) | (guard_target = Arith _ _ _; refine Arith.fit (by decide) ?_) | (guard_target = Index _ _ _; first | refine Index.mk _ (idx_map (l := p.kids) (i := i) (by omega)) ?_ | refine Index.mk _ (idx_map (by omega)) ?_) | (guard_target = Need (_ = true) _; refine Need.mk (by first | kernel_rfl | rfl) ?_) | (guard_target = LinkV _ _ _; first  | refine LinkV.no ?_) | (guard_target = GhO _ _ _ _; refine GhO.go ?_) | (guard_target = Need _ _; refine Need.mk (by first | ((simp only [List.length_map, List.length_cons, List.length_nil, maxLen]; constructor <;> omega)) | omega | (simp only [List.length_map]; omega)) ?_))
  all_goals first | trivial | (exact own_congr fun x y hx hy => (ld_act (by omega) x y).symm) | (exact own_congr fun x y hx hy => ld_seq (by omega) (by omega) hx hy) | (exact own_congr fun x y hx hy => ld_rest (fun h6 => by omega) (by omega) hx hy) | (have ej : j = N := (by omega); subst ej; exact own_congr fun x y hx hy => ld_loop (by omega) (by omega) ha.2 hx hy)
end Go.Proofs.YtmpcfplelpdbhaaGreat

namespace Go.Proofs.YtmpcfplelpdbhaaGreat
open Go Go.KA Go.Proofs
set_option maxHeartbeats 16000000
set_option maxRecDepth 100000
/-! ### the first place -/
def idxP {α : Type} (p : α → Bool) : List α → Int
  | [] => -1
  | x :: xs => if p x = true then 0 else if idxP p xs < 0 then -1 else idxP p xs + 1
theorem idxP_at {α : Type} {p : α → Bool} : ∀ {l : List α} {i : Nat} (h : i < l.length), (l.take i).all (fun x => !p x) = true → p l[i] = true → idxP p l = i
  | x :: xs, 0, _, _, hp => by
    simp only [List.getElem_cons_zero] at hp
    simp [idxP, hp]
  | x :: xs, i + 1, h, hn, hp => by
    simp only [List.take_succ_cons, List.all_cons, Bool.and_eq_true] at hn
    have hx : p x = false := by simpa using hn.1
    have ih := idxP_at (l := xs) (i := i) (by simpa using h) hn.2 (by simpa using hp)
    simp only [idxP, hx, ih]
    rw [if_neg (by simp), if_neg (by omega)]
    omega
theorem idxP_none {α : Type} {p : α → Bool} : ∀ {l : List α}, l.all (fun x => !p x) = true → idxP p l = -1
  | [], _ => rfl
  | x :: xs, h => by
    simp only [List.all_cons, Bool.and_eq_true] at h
    have hx : p x = false := by simpa using h.1
    simp only [idxP, hx, idxP_none h.2]
    rfl
theorem idxP_or {α : Type} (p : α → Bool) : ∀ l : List α, (idxP p l = -1 ∧ ∀ x ∈ l, p x = false) ∨ ∃ (i : Nat) (h : i < l.length), idxP p l = i ∧ p l[i] = true ∧ ∀ j (hj : j < i), p (l[j]'(Nat.lt_trans hj h)) = false
  | [] => .inl ⟨rfl, by simp⟩
  | x :: xs => by
    cases hx : p x with
    | true => exact .inr ⟨0, by simp, by simp [idxP, hx], by simpa using hx, fun j hj => by omega⟩
    | false =>
      rcases idxP_or p xs with ⟨h1, h2⟩ | ⟨i, h, h1, h2, h3⟩
      · left
        refine ⟨by simp [idxP, hx, h1], fun y hy => ?_⟩
        rcases List.mem_cons.1 hy with rfl | hy
        · exact hx
        · exact h2 y hy
      · right
        refine ⟨i + 1, by simpa using h, ?_, by simpa using h2, fun j hj => ?_⟩
        · simp only [idxP, hx, h1]
          rw [if_neg (by simp), if_neg (by omega)]
          omega
        · cases j with
          | zero => simpa using hx
          | succ j => simpa using h3 j (by omega)
theorem idxP_ge {α : Type} {p : α → Bool} {l : List α} : 0 ≤ idxP p l ↔ ∃ x ∈ l, p x = true := by
  rcases idxP_or p l with ⟨h1, h2⟩ | ⟨i, h, h1, h2, h3⟩
  · rw [h1]
    constructor
    · intro h; omega
    · rintro ⟨x, hx, hp⟩; rw [h2 x hx] at hp; cases hp
  · rw [h1]
    exact ⟨fun _ => ⟨_, List.getElem_mem h, h2⟩, fun _ => by omega⟩
/-! ### numbers -/
theorem Index_ok (l : List Int) (x : Int) : CallF Tryz.prog 169 [.c (.ro 1 (l.map eI)), I x] (I (idxP (fun y => x == y) l)) := by
  refine callF_of_vc htb hm Tryz.func169 rfl rfl rfl rfl (ann := fun _ => none) (gh := fun _ => false) ?_
  repeat' ((conv => whnf); first | (guard_target = Done _; refine Done.mk ?_; first | (exact congrArg I (idxP_at (p := fun y => x == y) (i := i) (by omega) ha.2 (by simpa using h)).symm; done) | (exact congrArg I (idxP_none (p := fun y => x == y) (all_end (by omega) ha)).symm; done) | skip) | (guard_target = RetX _ _; refine RetX.mk ?_ ?_) | (guard_target =~ LoopE 2 _ _ _ _ _ _; refine LoopE.mk { α := Nat, keep := [0, 1, 7], ov := fun i => [(8, I i)], φ := fun i => i ≤ l.length ∧ (l.take i).all (fun y => !(x == y)) = true, μ := fun i => l.length - i } (LoopN.mk (0 : Nat) (by exact ⟨Nat.zero_le _, rfl⟩) (by (repeat' ((conv => whnf) <;> (first | exact trivial | refine ⟨?_, ?_⟩ | kernel_rfl))); done) (by (repeat' ((conv => whnf) <;> (first | exact trivial | refine ⟨?_, ?_⟩ | kernel_rfl))); done) (by (repeat' ((conv => whnf) <;> (first | exact trivial | refine ⟨?_, ?_⟩ | exact rfl | (simp only [List.map_append, List.map_cons, List.map_nil, List.map_set]; first | done | rfl)))); done) (fun (i : Nat) ha => ?_) (by intro A; first | rfl | (obtain ⟨_, _⟩ := A; rfl) | (obtain ⟨_, _, _⟩ := A; rfl))); have ha : i ≤ l.length ∧ (l.take i).all (fun y => !(x == y)) = true := ha) | (guard_target = Gh _ _ _ _ _; refine Gh.go ⟨(i + 1 : Nat), (by exact all_go (by omega) ha (by simpa using h)), (by first | (show _ < _; simp only []; omega) | omega | (simp; omega)), (by (repeat' ((conv => whnf) <;> (first | exact trivial | refine ⟨?_, ?_⟩ | kernel_rfl))); done), (by (repeat' ((conv => whnf) <;> (first | exact trivial | refine ⟨?_, ?_⟩ | kernel_rfl))); done), (by (repeat' ((conv => whnf) <;> (first | exact trivial | refine ⟨?_, ?_⟩ | exact rfl | (simp only [List.map_append, List.map_cons, List.map_nil, List.map_set]; first | done | rfl)))); done)⟩) | (guard_target = Fact _ _; refine Fact.mk fun hL => ?_; (try simp only [List.length_map, maxLen] at hL)) | (guard_target = Branch _ _ _; (first | refine Branch.dec ?_ ?_ | refine Branch.beq ?_ ?_ | refine Branch.bne ?_ ?_ | refine Branch.ndec ?_ ?_ | refine Branch.nb ?_ ?_ | refine Branch.mk ?_ ?_) <;> intro h <;> (try simp only [List.length_map] at h) <;> (try omega) <;> (try contradiction)) | (guard_target = Arith _ _ _; refine Arith.fit (wrap_fit (by first | omega | (simp only [List.length_map]; omega)) (by first | omega | (simp only [List.length_map]; omega))) ?_) | (guard_target = Arith _ _ _; refine Arith.fit (by decide) ?_) | (guard_target = Index _ _ _; first | refine Index.mk _ (idx_map (i := i) (by omega)) ?_ | refine Index.mk _ (idx_map (by omega)) ?_) | (guard_target = Need (_ = true) _; refine Need.mk (by first | kernel_rfl | rfl) ?_) | (guard_target = LinkV _ _ _; first  | refine LinkV.no ?_) | (guard_target = GhO _ _ _ _; refine GhO.go ?_) | (guard_target = Need _ _; refine Need.mk (by first  | omega | (simp only [List.length_map]; omega)) ?_))
def memB (x : Int) (l : List Int) : Bool := decide (x ∈ l)
theorem idx_mem {x : Int} {l : List Int} : decide (idxP (fun y => x == y) l ≥ 0) = memB x l := by
  unfold memB
  refine decide_eq_decide.2 (idxP_ge.trans ?_)
  simp
theorem Contains_ok (l : List Int) (x : Int) : CallF Tryz.prog 106 [.c (.ro 1 (l.map eI)), I x] (B (memB x l)) := by
  refine callF_of_vc htb hm Tryz.func106 rfl rfl rfl rfl (ann := fun _ => none) (gh := fun _ => false) ?_
  repeat' ((conv => whnf); first | (guard_target = Done _; refine Done.mk ?_; first | (rw [← idx_mem]; rfl; done) | skip) | (guard_target = RetX _ _; refine RetX.mk ?_ ?_) | (guard_target = Fact _ _; refine Fact.mk fun hL => ?_; (try simp only [List.length_map, maxLen] at hL)) | (guard_target = Branch _ _ _; (first | refine Branch.dec ?_ ?_ | refine Branch.beq ?_ ?_ | refine Branch.bne ?_ ?_ | refine Branch.ndec ?_ ?_ | refine Branch.nb ?_ ?_ | refine Branch.mk ?_ ?_) <;> intro h <;> (try simp only [List.length_map] at h) <;> (try omega) <;> (try contradiction)) | (guard_target = CallN _ 169 _ _ _ _; refine CallN.pure _ _ rfl (Index_ok l x) rfl _ rfl ?_) | (guard_target = Arith _ _ _; refine Arith.fit (wrap_fit (by first | omega | (simp only [List.length_map]; omega)) (by first | omega | (simp only [List.length_map]; omega))) ?_) | (guard_target = Arith _ _ _; refine Arith.fit (by decide) ?_) | (guard_target = Index _ _ _; first  | refine Index.mk _ (idx_map (by omega)) ?_) | (guard_target = Need (_ = true) _; refine Need.mk (by first | kernel_rfl | rfl) ?_) | (guard_target = LinkV _ _ _; first  | refine LinkV.no ?_) | (guard_target = GhO _ _ _ _; refine GhO.go ?_) | (guard_target = Need _ _; refine Need.mk (by first  | omega | (simp only [List.length_map]; omega)) ?_))
end Go.Proofs.YtmpcfplelpdbhaaGreat

namespace Go.Proofs.YtmpcfplelpdbhaaGreat
open Go Go.KA Go.Proofs
set_option maxHeartbeats 16000000
set_option maxRecDepth 100000
theorem leads_ok (t a : Int) (ht : 0 ≤ t ∧ t ≤ 3) (l : List XPremise) (hl : PremOk t a l) (N : Nat) (hN : atomsN t = N ∧ 1 ≤ N ∧ N ≤ 8) (p : XProg) (hp : POk t a p) :
    CallX Tryz.prog 166 [.a 2 [J t, J a], .c (.ro 7 (l.map encPremise)), .a 6 (encProg p)] [] (.c (.ro 1 ((tabR N (ldR N l p)).map eR))) := by
  rw [encProg_eq]
  exact (leads_all t a ht l hl p hp N hN fun k _hk => leads_ok t a ht l hl N hN k (hp.kid _hk)).soft (soft_tab _)
  termination_by SizeOf.sizeOf p
  decreasing_by
    have := List.sizeOf_lt_of_mem _hk
    cases p
    simp only [XProg.mk.sizeOf_spec]
    show SizeOf.sizeOf k < _
    simp only [XProg.kids] at this
    omega
def sureP (N : Nat) (R : Rel) (c : XExpr) : Nat → Bool := fun x => (List.range N).all fun y => !(R x y) || truthE c y
def selR (n : Nat) (p : Nat → Bool) : List Int := ((List.range n).filter p).map fun (i : Nat) => (i : Int)
theorem selR_yes {n : Nat} {p : Nat → Bool} (h : p n = true) : selR (n + 1) p = selR n p ++ [(n : Int)] := by
  simp [selR, List.range_succ, h]
theorem selR_no {n : Nat} {p : Nat → Bool} (h : p n = false) : selR (n + 1) p = selR n p := by
  simp [selR, List.range_succ, h]
theorem selR_len (n : Nat) (p : Nat → Bool) : (selR n p).length ≤ n := by
  have := List.length_filter_le p (List.range n)
  simpa [selR] using this
theorem selR_congr {n : Nat} {p q : Nat → Bool} (h : ∀ i, i < n → p i = q i) : selR n p = selR n q := by
  unfold selR
  rw [List.filter_congr fun x hx => h x (by simpa using hx)]
theorem selR_mem {n : Nat} {p : Nat → Bool} {z : Int} : z ∈ selR n p ↔ ∃ i : Nat, i < n ∧ p i = true ∧ z = i := by
  simp only [selR, List.mem_map, List.mem_filter, List.mem_range]
  constructor
  · rintro ⟨i, ⟨h1, h2⟩, rfl⟩; exact ⟨i, h1, h2, rfl⟩
  · rintro ⟨i, h1, h2, rfl⟩; exact ⟨i, ⟨h1, h2⟩, rfl⟩
theorem soft_ints {ty : Nat} (l : List Int) : SoftT (.c (.ows ty 1 (l.map eI))) (.c (.ro 1 (l.map eI))) := .v (.c (.ro .nil))
theorem all_step (n : Nat) (f : Nat → Bool) : (List.range (n + 1)).all f = ((List.range n).all f && f n) := by
  rw [List.range_succ, List.all_append]
  simp
theorem sure_at {N y : Nat} {R : Rel} {c : XExpr} {x : Nat} {s b : Bool} (hy : y = N) (hs : s = (List.range y).all fun y => !(R x y) || truthE c y) (h : s = b) : sureP N R c x = b := by
  subst hy
  unfold sureP
  rw [← hs]
  exact h
section
variable (t a : Int) (ht : 0 ≤ t ∧ t ≤ 3) (l : List XPremise) (hl : PremOk t a l) (N : Nat) (hN : atomsN t = N ∧ 1 ≤ N ∧ N ≤ 8)
include ht hl hN
theorem weakest_own (p : XProg) (hp : POk t a p) (c : XExpr) (hc : okC t a c) : CallX Tryz.prog 104 [.a 2 [J t, J a], .c (.ro 7 (l.map encPremise)), .a 6 (encProg p), .a 3 (encExpr c)] [] (.c (.ows 2 1 ((selR N (sureP N (ldR N l p) c)).map eI))) := by
  have hld := leads_ok t a ht l hl N hN p hp
  have hT := tabR_sq N (ldR N l p)
  have hrl : ∀ x y, x < N → y < N → relT (tabR N (ldR N l p)) x y = ldR N l p x y := fun x y hx hy => relT_tab hx hy
  generalize tabR N (ldR N l p) = A at hld hT hrl
  have hT1 := hT.len
  have htr := fun atom => truth_ok t a atom c hc
  have hsl := fun i => selR_len i (sureP N (ldR N l p) c)
  refine callX_of_vc htb hm Tryz.func104 rfl rfl rfl rfl (ann := fun _ => none) (gh := fun _ => false) ?_
  repeat' ((conv => whnf); first | (guard_target = Done _; refine Done.mk ?_) | (guard_target = RetX _ _; refine RetX.mk ?_ ?_) | (guard_target =~ LoopE 3 _ _ _ _ _ _; refine LoopE.mk { α := List Int × Nat, keep := [7, 19, 20], ov := fun ⟨R, x⟩ => [(9, .lw 4), (21, I (x : Nat))], hv := fun ⟨R, x⟩ => [(4, .row none 2 1 (R.map eI))], φ := fun ⟨R, x⟩ => x ≤ N ∧ R = selR x (sureP N (ldR N l p) c), μ := fun ⟨R, x⟩ => N - x } (LoopN.mk (([], 0) : List Int × Nat) (by exact ⟨Nat.zero_le _, rfl⟩) (by (repeat' ((conv => whnf) <;> (first | exact trivial | refine ⟨?_, ?_⟩ | kernel_rfl))); done) (by (repeat' ((conv => whnf) <;> (first | exact trivial | refine ⟨?_, ?_⟩ | kernel_rfl))); done) (by (repeat' ((conv => whnf) <;> (first | exact trivial | refine ⟨?_, ?_⟩ | exact rfl | (simp only [List.map_append, List.map_cons, List.map_nil, List.map_set]; first | done | rfl)))); done) (fun A ha => ?_) (by intro A; first | rfl | (obtain ⟨_, _⟩ := A; rfl) | (obtain ⟨_, _, _⟩ := A; rfl))); obtain ⟨R, x⟩ := A; have ha : x ≤ N ∧ R = selR x (sureP N (ldR N l p) c) := ha; have hA1 := ha; have hsx := hsl x; rw [← ha.2] at hsx; have hrow := hT.row x; have hrx := hrl x) | (guard_target =~ LoopE 7 _ _ _ _ _ _; refine LoopE.mk { α := SV × Bool × Nat, keep := [7, 9, 10, 19, 20, 21, 26, 27], ov := fun ⟨S, s, y⟩ => [(12, S), (28, I (y : Nat))], φ := fun ⟨S, s, y⟩ => (S = .c (.cb s) ∨ S = B s) ∧ y ≤ N ∧ s = (List.range y).all fun y => !(ldR N l p x y) || truthE c y, μ := fun ⟨S, s, y⟩ => N - y } (LoopN.mk ((.c (.cb true), true, 0) : SV × Bool × Nat) (by exact ⟨.inl rfl, Nat.zero_le _, rfl⟩) (by (repeat' ((conv => whnf) <;> (first | exact trivial | refine ⟨?_, ?_⟩ | kernel_rfl))); done) (by (repeat' ((conv => whnf) <;> (first | exact trivial | refine ⟨?_, ?_⟩ | kernel_rfl))); done) (by (repeat' ((conv => whnf) <;> (first | exact trivial | refine ⟨?_, ?_⟩ | exact rfl | (simp only [List.map_append, List.map_cons, List.map_nil, List.map_set]; first | done | rfl)))); done) (fun A ha => ?_) (by intro A; first | rfl | (obtain ⟨_, _⟩ := A; rfl) | (obtain ⟨_, _, _⟩ := A; rfl))); obtain ⟨S, s, y⟩ := A; have ha : (S = .c (.cb s) ∨ S = B s) ∧ y ≤ N ∧ s = (List.range y).all fun y => !(ldR N l p x y) || truthE c y := ha; obtain ⟨hS, hy, hs⟩ := ha; (rcases hS with hS | hS; (cases s); all_goals subst hS)) | (guard_target = Gh _ _ _ _ _; refine Gh.go ⟨((.c (.cb false), false, y + 1) : SV × Bool × Nat), (by exact ⟨.inl rfl, by show y + 1 ≤ N; omega, by show false = _; first | (rw [all_step, ← hs, h]; rfl) | (rw [all_step, ← hs]; rfl)⟩), (by first | (show _ < _; simp only []; omega) | omega | (simp; omega)), (by (repeat' ((conv => whnf) <;> (first | exact trivial | refine ⟨?_, ?_⟩ | kernel_rfl))); done), (by (repeat' ((conv => whnf) <;> (first | exact trivial | refine ⟨?_, ?_⟩ | kernel_rfl))); done), (by (repeat' ((conv => whnf) <;> (first | exact trivial | refine ⟨?_, ?_⟩ | exact rfl | (simp only [List.map_append, List.map_cons, List.map_nil, List.map_set]; first | done | rfl)))); done)⟩) | (guard_target = Gh _ _ _ _ _; refine Gh.go ⟨((.c (.cb true), true, y + 1) : SV × Bool × Nat), (by exact ⟨.inl rfl, by show y + 1 ≤ N; omega, by show true = _; rw [all_step, ← hs, ← hrx y (by omega) (by omega)]; (first | (simp_all [relT]; done) | fail)⟩), (by first | (show _ < _; simp only []; omega) | omega | (simp; omega)), (by (repeat' ((conv => whnf) <;> (first | exact trivial | refine ⟨?_, ?_⟩ | kernel_rfl))); done), (by (repeat' ((conv => whnf) <;> (first | exact trivial | refine ⟨?_, ?_⟩ | kernel_rfl))); done), (by (repeat' ((conv => whnf) <;> (first | exact trivial | refine ⟨?_, ?_⟩ | exact rfl | (simp only [List.map_append, List.map_cons, List.map_nil, List.map_set]; first | done | rfl)))); done)⟩) | (guard_target = Gh _ _ _ _ _; refine Gh.go ⟨((B (truthE c y), truthE c y, y + 1) : SV × Bool × Nat), (by exact ⟨.inr rfl, by show y + 1 ≤ N; omega, by show _ = _; rw [all_step, ← hs, ← hrx y (by omega) (by omega)]; (first | (simp_all [relT]; done) | fail)⟩), (by first | (show _ < _; simp only []; omega) | omega | (simp; omega)), (by (repeat' ((conv => whnf) <;> (first | exact trivial | refine ⟨?_, ?_⟩ | kernel_rfl))); done), (by (repeat' ((conv => whnf) <;> (first | exact trivial | refine ⟨?_, ?_⟩ | kernel_rfl))); done), (by (repeat' ((conv => whnf) <;> (first | exact trivial | refine ⟨?_, ?_⟩ | exact rfl | (simp only [List.map_append, List.map_cons, List.map_nil, List.map_set]; first | done | rfl)))); done)⟩) | (guard_target = Gh _ _ _ _ _; refine Gh.go ⟨((R ++ [(x : Int)], x + 1) : List Int × Nat), (by exact ⟨by show x + 1 ≤ N; omega, by show R ++ _ = _; rw [selR_yes (sure_at (by omega) hs (by first | assumption | rfl)), ← hA1.2]⟩), (by first | (show _ < _; simp only []; omega) | omega | (simp; omega)), (by (repeat' ((conv => whnf) <;> (first | exact trivial | refine ⟨?_, ?_⟩ | kernel_rfl))); done), (by (repeat' ((conv => whnf) <;> (first | exact trivial | refine ⟨?_, ?_⟩ | kernel_rfl))); done), (by (repeat' ((conv => whnf) <;> (first | exact trivial | refine ⟨?_, ?_⟩ | exact rfl | (simp only [List.map_append, List.map_cons, List.map_nil]; first | done | rfl)))); done)⟩) | (guard_target = Gh _ _ _ _ _; refine Gh.go ⟨((R, x + 1) : List Int × Nat), (by exact ⟨by show x + 1 ≤ N; omega, by show R = _; rw [selR_no (sure_at (by omega) hs (by first | assumption | rfl)), ← hA1.2]⟩), (by first | (show _ < _; simp only []; omega) | omega | (simp; omega)), (by (repeat' ((conv => whnf) <;> (first | exact trivial | refine ⟨?_, ?_⟩ | kernel_rfl))); done), (by (repeat' ((conv => whnf) <;> (first | exact trivial | refine ⟨?_, ?_⟩ | kernel_rfl))); done), (by (repeat' ((conv => whnf) <;> (first | exact trivial | refine ⟨?_, ?_⟩ | exact rfl | (simp only [List.map_append, List.map_cons, List.map_nil, List.map_set]; first | done | rfl)))); done)⟩) | (guard_target = Fact _ _; refine Fact.mk fun hL => ?_; (try simp only [List.length_map, maxLen] at hL)) | (guard_target = Branch _ _ _; (first | refine Branch.dec ?_ ?_ | refine Branch.beq ?_ ?_ | refine Branch.bne ?_ ?_ | refine Branch.ndec ?_ ?_ | refine Branch.nb ?_ ?_ | refine Branch.mk ?_ ?_) <;> intro h <;> (try simp only [List.length_map] at h) <;> (try omega) <;> (try contradiction)) | (guard_target = CallN _ 166 _ _ _ _; refine CallN.gen [] _ _ _ rfl (hld) rfl rfl _ rfl ?_) | (guard_target = CallN _ 167 _ _ _ _; refine CallN.pure _ _ rfl (htr _) rfl _ rfl ?_) | (guard_target = Arith _ _ _; refine Arith.fit (wrap_fit (by first | omega | (simp only [List.length_map]; omega)) (by first | omega | (simp only [List.length_map]; omega))) ?_) | (guard_target = Arith _ _ _; refine Arith.fit (by decide) ?_) | (guard_target = Index _ _ _; first | refine Index.mk _ (idx_getD (l := A) (d := []) (i := x) (by omega)) ?_ | refine Index.mk _ (idx_getD (l := A.getD x []) (d := false) (i := y) (by omega)) ?_ | refine Index.mk _ (idx_map (by omega)) ?_) | (guard_target = Need (_ = true) _; refine Need.mk (by first | kernel_rfl | rfl) ?_) | (guard_target = LinkV _ _ _; first  | refine LinkV.no ?_) | (guard_target = GhO _ _ _ _; refine GhO.go ?_) | (guard_target = Need _ _; refine Need.mk (by first | ((simp only [List.length_map, List.length_cons, List.length_nil, maxLen]; constructor <;> omega)) | omega | (simp only [List.length_map]; omega)) ?_))
  all_goals first | trivial | (rw [ha.2, show x = N by omega]; done)
theorem weakest_ok (p : XProg) (hp : POk t a p) (c : XExpr) (hc : okC t a c) : CallX Tryz.prog 104 [.a 2 [J t, J a], .c (.ro 7 (l.map encPremise)), .a 6 (encProg p), .a 3 (encExpr c)] [] (.c (.ro 1 ((selR N (sureP N (ldR N l p) c)).map eI))) := (weakest_own t a ht l hl N hN p hp c hc).soft (soft_ints _)
omit hl in
theorem atomsOf_own (c : XExpr) (hc : okC t a c) : CallX Tryz.prog 105 [.a 2 [J t, J a], .a 3 (encExpr c)] [] (.c (.ows 2 1 ((selR N (trP c)).map eI))) := by
  have htr := fun atom => truth_ok t a atom c hc
  have hsl := fun i => selR_len i (trP c)
  have hat := atomsIn_ok t a ht
  rw [hN.1] at hat
  refine callX_of_vc htb hm Tryz.func105 rfl rfl rfl rfl (ann := fun _ => none) (gh := fun _ => false) ?_
  repeat' ((conv => whnf); first | (guard_target = Done _; refine Done.mk ?_) | (guard_target = RetX _ _; refine RetX.mk ?_ ?_) | (guard_target =~ LoopE 3 _ _ _ _ _ _; refine LoopE.mk { α := List Int × Nat, keep := [3, 9], ov := fun ⟨R, x⟩ => [(5, .lw 3), (10, I (x : Nat))], hv := fun ⟨R, x⟩ => [(3, .row none 2 1 (R.map eI))], φ := fun ⟨R, x⟩ => x ≤ N ∧ R = selR x (trP c), μ := fun ⟨R, x⟩ => N - x } (LoopN.mk (([], 0) : List Int × Nat) (by exact ⟨Nat.zero_le _, rfl⟩) (by (repeat' ((conv => whnf) <;> (first | exact trivial | refine ⟨?_, ?_⟩ | kernel_rfl))); done) (by (repeat' ((conv => whnf) <;> (first | exact trivial | refine ⟨?_, ?_⟩ | kernel_rfl))); done) (by (repeat' ((conv => whnf) <;> (first | exact trivial | refine ⟨?_, ?_⟩ | exact rfl | (simp only [List.map_append, List.map_cons, List.map_nil, List.map_set]; first | done | rfl)))); done) (fun A ha => ?_) (by intro A; first | rfl | (obtain ⟨_, _⟩ := A; rfl) | (obtain ⟨_, _, _⟩ := A; rfl))); obtain ⟨R, x⟩ := A; have ha : x ≤ N ∧ R = selR x (trP c) := ha; have hsx := hsl x; rw [← ha.2] at hsx) | (guard_target = Gh _ _ _ _ _; refine Gh.go ⟨((R ++ [(x : Int)], x + 1) : List Int × Nat), (by exact ⟨by show x + 1 ≤ N; omega, by show R ++ _ = _; rw [selR_yes h, ← ha.2]⟩), (by first | (show _ < _; simp only []; omega) | omega | (simp; omega)), (by (repeat' ((conv => whnf) <;> (first | exact trivial | refine ⟨?_, ?_⟩ | kernel_rfl))); done), (by (repeat' ((conv => whnf) <;> (first | exact trivial | refine ⟨?_, ?_⟩ | kernel_rfl))); done), (by (repeat' ((conv => whnf) <;> (first | exact trivial | refine ⟨?_, ?_⟩ | exact rfl | (simp only [List.map_append, List.map_cons, List.map_nil]; first | done | rfl)))); done)⟩) | (guard_target = Gh _ _ _ _ _; refine Gh.go ⟨((R, x + 1) : List Int × Nat), (by exact ⟨by show x + 1 ≤ N; omega, by show R = _; rw [selR_no h, ← ha.2]⟩), (by first | (show _ < _; simp only []; omega) | omega | (simp; omega)), (by (repeat' ((conv => whnf) <;> (first | exact trivial | refine ⟨?_, ?_⟩ | kernel_rfl))); done), (by (repeat' ((conv => whnf) <;> (first | exact trivial | refine ⟨?_, ?_⟩ | kernel_rfl))); done), (by (repeat' ((conv => whnf) <;> (first | exact trivial | refine ⟨?_, ?_⟩ | exact rfl | (simp only [List.map_append, List.map_cons, List.map_nil, List.map_set]; first | done | rfl)))); done)⟩) | (guard_target = Fact _ _; refine Fact.mk fun hL => ?_; (try simp only [List.length_map, maxLen] at hL)) | (guard_target = Branch _ _ _; (first | refine Branch.dec ?_ ?_ | refine Branch.beq ?_ ?_ | refine Branch.bne ?_ ?_ | refine Branch.ndec ?_ ?_ | refine Branch.nb ?_ ?_ | refine Branch.mk ?_ ?_) <;> intro h <;> (try simp only [List.length_map] at h) <;> (try omega) <;> (try contradiction)) | (guard_target = CallN _ 168 _ _ _ _; refine CallN.pure _ _ rfl (hat) rfl _ rfl ?_) | (guard_target = CallN _ 167 _ _ _ _; refine CallN.pure _ _ rfl (htr _) rfl _ rfl ?_) | (guard_target = Arith _ _ _; refine Arith.fit (wrap_fit (by first | omega | (simp only [List.length_map]; omega)) (by first | omega | (simp only [List.length_map]; omega))) ?_) | (guard_target = Arith _ _ _; refine Arith.fit (by decide) ?_) | (guard_target = Index _ _ _; first  | refine Index.mk _ (idx_map (by omega)) ?_) | (guard_target = Need (_ = true) _; refine Need.mk (by first | kernel_rfl | rfl) ?_) | (guard_target = LinkV _ _ _; first  | refine LinkV.no ?_) | (guard_target = GhO _ _ _ _; refine GhO.go ?_) | (guard_target = Need _ _; refine Need.mk (by first | ((simp only [List.length_map, List.length_cons, List.length_nil, maxLen]; constructor <;> omega)) | omega | (simp only [List.length_map]; omega)) ?_))
  all_goals first | rfl | trivial | (rw [ha.2, show x = N by omega]; done)
omit hl in
theorem atomsOf_ok (c : XExpr) (hc : okC t a c) : CallX Tryz.prog 105 [.a 2 [J t, J a], .a 3 (encExpr c)] [] (.c (.ro 1 ((selR N (trP c)).map eI))) := (atomsOf_own t a ht N hN c hc).soft (soft_ints _)
def holdsT (N : Nat) (l : List XPremise) (x : XTriple) : Bool := (selR N (trP x.pre)).all fun z => memB z (selR N (sureP N (ldR N l x.prog) x.post))
theorem holdsUnder_ok (x : XTriple) (h1 : okC t a x.pre) (h2 : POk t a x.prog) (h3 : okC t a x.post) : CallX Tryz.prog 41 [.a 2 [J t, J a], .c (.ro 7 (l.map encPremise)), .a 12 (encTriple x)] [] (B (holdsT N l x)) := by
  have hw := weakest_ok t a ht l hl N hN x.prog h2 x.post h3
  have hat := atomsOf_ok t a ht N hN x.pre h1
  unfold holdsT
  rw [encProg_eq, encExpr_eq] at hw
  rw [encExpr_eq] at hat
  generalize selR N (sureP N (ldR N l x.prog) x.post) = W at hw
  generalize selR N (trP x.pre) = V at hat
  refine callF_of_vc htb hm Tryz.func41 rfl rfl rfl rfl (ann := fun _ => none) (gh := fun _ => false) ?_
  repeat' ((conv => whnf); first | (guard_target = Done _; refine Done.mk ?_; first | ((rw [all_stop (p := fun z => memB z W) (i := i) (by omega) (decide_eq_false h)]; rfl); done) | ((rw [all_end (by omega) ha]; rfl); done) | skip) | (guard_target = RetX _ _; refine RetX.mk ?_ ?_) | (guard_target =~ LoopE 3 _ _ _ _ _ _; refine LoopE.mk { α := Nat, keep := [7, 20, 21], ov := fun i => [(22, I (i : Nat))], φ := fun i => i ≤ V.length ∧ (V.take i).all (fun z => memB z W) = true, μ := fun i => V.length - i } (LoopN.mk (0 : Nat) (by exact ⟨Nat.zero_le _, rfl⟩) (by (repeat' ((conv => whnf) <;> (first | exact trivial | refine ⟨?_, ?_⟩ | kernel_rfl))); done) (by (repeat' ((conv => whnf) <;> (first | exact trivial | refine ⟨?_, ?_⟩ | kernel_rfl))); done) (by (repeat' ((conv => whnf) <;> (first | exact trivial | refine ⟨?_, ?_⟩ | exact rfl | (simp only [List.map_append, List.map_cons, List.map_nil, List.map_set]; first | done | rfl)))); done) (fun (i : Nat) ha => ?_) (by intro A; first | rfl | (obtain ⟨_, _⟩ := A; rfl) | (obtain ⟨_, _, _⟩ := A; rfl))); have ha : i ≤ V.length ∧ (V.take i).all (fun z => memB z W) = true := ha) | (guard_target = Gh _ _ _ _ _; refine Gh.go ⟨(i + 1 : Nat), (by exact all_go (by omega) ha (decide_eq_true h)), (by first | (show _ < _; simp only []; omega) | omega | (simp; omega)), (by (repeat' ((conv => whnf) <;> (first | exact trivial | refine ⟨?_, ?_⟩ | kernel_rfl))); done), (by (repeat' ((conv => whnf) <;> (first | exact trivial | refine ⟨?_, ?_⟩ | kernel_rfl))); done), (by (repeat' ((conv => whnf) <;> (first | exact trivial | refine ⟨?_, ?_⟩ | exact rfl | (simp only [List.map_append, List.map_cons, List.map_nil, List.map_set]; first | done | rfl)))); done)⟩) | (guard_target = Fact _ _; refine Fact.mk fun hL => ?_; (try simp only [List.length_map, maxLen] at hL)) | (guard_target = Branch _ _ _; (first | refine Branch.dec ?_ ?_ | refine Branch.beq ?_ ?_ | refine Branch.bne ?_ ?_ | refine Branch.ndec ?_ ?_ | refine Branch.nb ?_ ?_ | refine Branch.mk ?_ ?_) <;> intro h <;> (try simp only [List.length_map] at h) <;> (try omega) <;> (try contradiction)) | (guard_target = CallN _ 104 _ _ _ _; refine CallN.gen [] _ _ _ rfl (hw) rfl rfl _ rfl ?_) | (guard_target = CallN _ 105 _ _ _ _; refine CallN.gen [] _ _ _ rfl (hat) rfl rfl _ rfl ?_) | (guard_target = CallN _ 106 _ _ _ _; refine CallN.pure _ _ rfl (Contains_ok W _) rfl _ rfl ?_) | (guard_target = Arith _ _ _; refine Arith.fit (wrap_fit (by first | omega | (simp only [List.length_map]; omega)) (by first | omega | (simp only [List.length_map]; omega))) ?_) | (guard_target = Arith _ _ _; refine Arith.fit (by decide) ?_) | (guard_target = Index _ _ _; first | refine Index.mk _ (idx_map (l := V) (i := i) (by omega)) ?_ | refine Index.mk _ (idx_map (by omega)) ?_) | (guard_target = Need (_ = true) _; refine Need.mk (by first | kernel_rfl | rfl) ?_) | (guard_target = LinkV _ _ _; first  | refine LinkV.no ?_) | (guard_target = GhO _ _ _ _; refine GhO.go ?_) | (guard_target = Need _ _; refine Need.mk (by first  | omega | (simp only [List.length_map]; omega)) ?_))
  all_goals first | rfl | trivial | (rw [all_stop (p := fun z => memB z W) (i := i) (by omega) (decide_eq_false h)]; rfl) | (rw [all_end (by omega) ha]; rfl)
end
end Go.Proofs.YtmpcfplelpdbhaaGreat
