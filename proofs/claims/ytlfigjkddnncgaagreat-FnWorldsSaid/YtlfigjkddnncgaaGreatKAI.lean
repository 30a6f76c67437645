/- Contracts: the pairs of the first and last atoms of a program's allowed words, by tables. No conditions but that programs and conditions are valid. -/
import Derived.Test.YtlfigjkddnncgaaGreatKAH
namespace Go.Proofs.YtlfigjkddnncgaaGreat
open Go Go.KA Go.Proofs
set_option maxHeartbeats 16000000
set_option maxRecDepth 100000
theorem cmp_tab {N : Nat} {A C : List (List Bool)} {R Q : Rel} (hA : A = tabR N R) (hC : C = tabR N Q) : tabR N (cmpR N (relT A) (relT C)) = tabR N (cmpR N R Q) := by
  subst hA hC
  refine tab_congr fun x y hx hy => bool_ext ?_
  rw [cmpR_iff, cmpR_iff]
  constructor
  · rintro ⟨z, hz, h1, h2⟩; exact ⟨z, hz, by rwa [relT_tab hx hz] at h1, by rwa [relT_tab hz hy] at h2⟩
  · rintro ⟨z, hz, h1, h2⟩; exact ⟨z, hz, by rwa [relT_tab hx hz], by rwa [relT_tab hz hy]⟩
theorem pure_eRw {ty sz : Nat} (A : List (List Bool)) : pureT (.c (.own ty sz (A.map eRw))) := by
  show pureLL (A.map eRw)
  rw [pureLL_iff]
  intro r hr x hx
  obtain ⟨l, _, rfl⟩ := List.mem_map.1 hr
  obtain rfl := List.mem_singleton.1 hx
  show pureLL (l.map eB)
  rw [pureLL_iff]
  intro r hr x hx
  obtain ⟨b, _, rfl⟩ := List.mem_map.1 hr
  obtain rfl := List.mem_singleton.1 hx
  trivial
theorem composed_own (N : Nat) (hN : N ≤ 8) (A C : List (List Bool)) (hA : Sq N A) (hC : Sq N C) : CallX Tryz.prog 189 [.c (.ro 1 (A.map eR)), .c (.ro 1 (C.map eR))] [] (.c (.own 190 1 ((tabR N (cmpR N (relT A) (relT C))).map eRw))) := by
  have ht := table_own 203 (ptT C) (ptT A) N hN (cmpR N (relT A) (relT C)) fun x y hx hy => composed1_ok N hN A C hA hC x y hx hy
  have ht' : CallX Tryz.prog 186 [I ((A.map eR).length : Nat), .clo 203 [.c (ptT C), .c (ptT A)]] [] (.c (.own 190 1 ((tabR N (cmpR N (relT A) (relT C))).map eRw))) := by
    rw [List.length_map, hA.len]
    exact ht
  refine callX_of_vc htb hm Tryz.func189 rfl rfl rfl rfl (ann := fun _ => none) (gh := fun _ => false) ?_
  repeat' ((conv => whnf); first | (guard_target = Done _; refine Done.mk ?_) | (guard_target = RetX _ _; refine RetX.mk ?_ ?_) | (guard_target = Fact _ _; refine Fact.mk fun hL => ?_; (try simp only [List.length_map, maxLen] at hL)) | (guard_target = Branch _ _ _; (first | refine Branch.dec ?_ ?_ | refine Branch.beq ?_ ?_ | refine Branch.bne ?_ ?_ | refine Branch.ndec ?_ ?_ | refine Branch.nb ?_ ?_ | refine Branch.mk ?_ ?_) <;> intro h <;> (try simp only [List.length_map] at h) <;> (try omega) <;> (try contradiction)) | (guard_target = CallN _ 186 _ _ _ _; refine CallN.own _ _ rfl ht' (pure_eRw _) _ rfl ?_) | (guard_target = Arith _ _ _; refine Arith.fit (wrap_fit (by first | omega | (simp only [List.length_map]; omega)) (by first | omega | (simp only [List.length_map]; omega))) ?_) | (guard_target = Arith _ _ _; refine Arith.fit (by decide) ?_) | (guard_target = Index _ _ _; first  | refine Index.mk _ (idx_map (by omega)) ?_) | (guard_target = Need (_ = true) _; refine Need.mk (by first | kernel_rfl | rfl) ?_) | (guard_target = LinkV _ _ _; first  | refine LinkV.no ?_) | (guard_target = GhO _ _ _ _; refine GhO.go ?_) | (guard_target = Need _ _; refine Need.mk (by first  | omega | (simp only [List.length_map]; omega)) ?_))
  all_goals first | rfl | trivial
theorem composed_ok (N : Nat) (hN : N ≤ 8) (A C : List (List Bool)) (hA : Sq N A) (hC : Sq N C) : CallX Tryz.prog 189 [.c (.ro 1 (A.map eR)), .c (.ro 1 (C.map eR))] [] (.c (.ro 1 ((tabR N (cmpR N (relT A) (relT C))).map eR))) := (composed_own N hN A C hA hC).soft (soft_tab _)
def PremOk (t a : Int) (l : List XPremise) : Prop := ∀ x ∈ l, okC t a x.pre ∧ okC t a x.post
theorem truth_told (t a atom : Int) (e : XExpr) (h : okC t a e) : CallF Tryz.prog 49 [.a 3 (toldE e), I atom] (B (truthE e atom)) := by
  have := truth_ok t a atom e h
  rwa [encExpr_eq] at this
def pn0 : XPremise := ⟨.mk 0 0 [], 0, .mk 0 0 []⟩
theorem PremOk.at {t a : Int} {l : List XPremise} (h : PremOk t a l) {i : Nat} (hi : i < l.length) : okC t a (l.getD i pn0).pre ∧ okC t a (l.getD i pn0).post := by
  rw [getD_eq hi]
  exact h _ (List.getElem_mem hi)
theorem all_getD {α : Type} {p : α → Bool} {d : α} {l : List α} (h : ∀ i, i < l.length → p (l.getD i d) = true) : l.all p = true := by
  rw [List.all_eq_true]
  intro x hx
  obtain ⟨i, hi, rfl⟩ := List.mem_iff_getElem.1 hx
  have := h i hi
  rwa [getD_eq hi] at this
theorem all_getD_no {α : Type} {p : α → Bool} {d : α} {l : List α} {i : Nat} (hi : i < l.length) (h : p (l.getD i d) = false) : l.all p = false := by
  rw [getD_eq hi] at h
  exact all_no hi h
abbrev alP (act x y : Int) (p : XPremise) : Bool := !((p.act == act) && (truthE p.pre x && !(truthE p.post y)))
theorem allows_ok (t a : Int) (l : List XPremise) (hl : PremOk t a l) (act x y : Int) : CallF Tryz.prog 188 [.c (.ro 7 (l.map encPremise)), I act, I x, I y] (B (alB l act x y)) := by
  refine callF_of_vc htb hm Tryz.func188 rfl rfl rfl rfl (ann := fun _ => none) (gh := fun _ => false) ?_
  repeat' ((conv => whnf); first | (guard_target = Done _; refine Done.mk ?_; first | ((rw [show alB l act x y = true from all_getD fun u hu => ha.2 u (by omega)]; rfl); done) | ((rw [show alB l act x y = false from all_getD_no (i := i) (d := pn0) (by omega) (by simp_all [alP])]; rfl); done) | skip) | (guard_target = RetX _ _; refine RetX.mk ?_ ?_) | (guard_target =~ LoopE 2 _ _ _ _ _ _; refine LoopE.mk { α := Nat, keep := [1, 2, 3, 11, 12], ov := fun i => [(13, I (i : Nat))], φ := fun i => i ≤ l.length ∧ ∀ u, u < i → alP act x y (l.getD u pn0) = true, μ := fun i => l.length - i } (LoopN.mk (0 : Nat) (by exact ⟨Nat.zero_le _, fun u hu => by omega⟩) (by (repeat' ((conv => whnf) <;> (first | exact trivial | refine ⟨?_, ?_⟩ | kernel_rfl))); done) (by (repeat' ((conv => whnf) <;> (first | exact trivial | refine ⟨?_, ?_⟩ | kernel_rfl))); done) (by (repeat' ((conv => whnf) <;> (first | exact trivial | refine ⟨?_, ?_⟩ | exact rfl | (simp only [List.map_append, List.map_cons, List.map_nil, List.map_set]; first | done | rfl)))); done) (fun (i : Nat) ha => ?_) (by intro A; first | rfl | (obtain ⟨_, _⟩ := A; rfl) | (obtain ⟨_, _, _⟩ := A; rfl))); have ha : i ≤ l.length ∧ ∀ u, u < i → alP act x y (l.getD u pn0) = true := ha; have hi := @PremOk.at t a l hl i) | (guard_target = Gh _ _ _ _ _; refine Gh.go ⟨(i + 1 : Nat), (by exact ⟨by show i + 1 ≤ _; omega, by intro u hu; by_cases e : u = i; (subst e; simp_all [alP]); exact ha.2 u (by omega)⟩), (by first | (show _ < _; simp only []; omega) | omega | (simp; omega)), (by (repeat' ((conv => whnf) <;> (first | exact trivial | refine ⟨?_, ?_⟩ | kernel_rfl))); done), (by (repeat' ((conv => whnf) <;> (first | exact trivial | refine ⟨?_, ?_⟩ | kernel_rfl))); done), (by (repeat' ((conv => whnf) <;> (first | exact trivial | refine ⟨?_, ?_⟩ | exact rfl | (simp only [List.map_append, List.map_cons, List.map_nil, List.map_set]; first | done | rfl)))); done)⟩) | (guard_target = Fact _ _; refine Fact.mk fun hL => ?_; (try simp only [List.length_map, maxLen] at hL)) | (guard_target = Branch _ _ _; (first | refine Branch.dec ?_ ?_ | refine Branch.beq ?_ ?_ | refine Branch.bne ?_ ?_ | refine Branch.ndec ?_ ?_ | refine Branch.nb ?_ ?_ | refine Branch.mk ?_ ?_) <;> intro h <;> (try simp only [List.length_map] at h) <;> (try omega) <;> (try contradiction)) | (guard_target = CallN _ 49 _ _ _ _; refine CallN.pure _ _ rfl (truth_told t a x _ (hi (by omega)).1) rfl _ rfl ?_) | (guard_target = CallN _ 49 _ _ _ _; refine CallN.pure _ _ rfl (truth_told t a y _ (hi (by omega)).2) rfl _ rfl ?_) | (guard_target = Arith _ _ _; refine Arith.fit (wrap_fit (by first | omega | (simp only [List.length_map]; omega)) (by first | omega | (simp only [List.length_map]; omega))) ?_) | (guard_target = Arith _ _ _; refine Arith.fit (by decide) ?_) | (guard_target = Index _ _ _; first | refine Index.mk _ (idx_getD (d := pn0) (i := i) (by omega)) ?_ | refine Index.mk _ (idx_map (by omega)) ?_) | (guard_target = Need (_ = true) _; refine Need.mk (by first | kernel_rfl | rfl) ?_) | (guard_target = LinkV _ _ _; first  | refine LinkV.no ?_) | (guard_target = GhO _ _ _ _; refine GhO.go ?_) | (guard_target = Need _ _; refine Need.mk (by first  | omega | (simp only [List.length_map]; omega)) ?_))
  all_goals first | rfl | trivial
end Go.Proofs.YtlfigjkddnncgaaGreat

namespace Go.Proofs.YtlfigjkddnncgaaGreat
open Go Go.KA Go.Proofs
set_option maxHeartbeats 16000000
set_option maxRecDepth 100000
abbrev eT (A : List (List Bool)) : List CV := [.ro 1 (A.map eR)]
abbrev ptK (Ks : List (List (List Bool))) : CV := .rp 1 [.ro 1 (Ks.map eT)]
abbrev ptP (p : XProg) : CV := .rp 6 (toldP p)
abbrev ptL (l : List XPremise) : CV := .rp 1 [.ro 7 (l.map encPremise)]
theorem int_beq (x y : Nat) : ((x : Int) == (y : Int)) = (x == y) := by
  cases h : x == y with
  | true => rw [beq_iff_eq] at h; subst h; simp
  | false =>
    rw [beq_eq_false_iff_ne] at h
    rw [beq_eq_false_iff_ne]
    intro e
    exact h (Int.ofNat.inj e)
section
variable (t a : Int) (l : List XPremise) (p : XProg) (x y : Nat)
theorem leads1_ok (hl : PremOk t a l) : CallF Tryz.prog 187 [I x, I y, .c (ptL l), .c (ptP p)] (B (alB l p.num x y)) := by
  refine callF_of_vc htb hm Tryz.func187 rfl rfl rfl rfl (ann := fun _ => none) (gh := fun _ => false) ?_
  repeat' ((conv => whnf); first | (guard_target = Done _; refine Done.mk ?_; first | (rfl; done) | skip) | (guard_target = RetX _ _; refine RetX.mk ?_ ?_) | (guard_target = Fact _ _; refine Fact.mk fun hL => ?_; (try simp only [List.length_map, maxLen] at hL)) | (guard_target = Branch _ _ _; (first | refine Branch.dec ?_ ?_ | refine Branch.beq ?_ ?_ | refine Branch.bne ?_ ?_ | refine Branch.ndec ?_ ?_ | refine Branch.nb ?_ ?_ | refine Branch.mk ?_ ?_) <;> intro h <;> (try simp only [List.length_map] at h) <;> (try omega) <;> (try contradiction)) | (guard_target = CallN _ 188 _ _ _ _; refine CallN.pure _ _ rfl (allows_ok t a l hl _ _ _) rfl _ rfl ?_) | (guard_target = Arith _ _ _; refine Arith.fit (wrap_fit (by first | omega | (simp only [List.length_map]; omega)) (by first | omega | (simp only [List.length_map]; omega))) ?_) | (guard_target = Arith _ _ _; refine Arith.fit (by decide) ?_) | (guard_target = Index _ _ _; first  | refine Index.mk _ (idx_map (by omega)) ?_) | (guard_target = Need (_ = true) _; refine Need.mk (by first | kernel_rfl | rfl) ?_) | (guard_target = LinkV _ _ _; first  | refine LinkV.no ?_) | (guard_target = GhO _ _ _ _; refine GhO.go ?_) | (guard_target = Need _ _; refine Need.mk (by first  | omega | (simp only [List.length_map]; omega)) ?_))
theorem leads2_ok (N : Nat) (hc : okC t a p.cond) (Ks : List (List (List Bool))) (hk : 0 < Ks.length) (hs : Sq N (Ks.getD 0 [])) (hx : x < N) (hy : y < N) : CallF Tryz.prog 190 [I x, I y, .c (ptP p), .c (ptK Ks)] (B (onR (stepR p.cond (relT (Ks.getD 0 []))) x y)) := by
  have hl := hs.len
  have hr := hs.row x hx
  unfold onR stepR
  rw [← int_beq]
  refine callF_of_vc htb hm Tryz.func190 rfl rfl rfl rfl (ann := fun _ => none) (gh := fun _ => false) ?_
  repeat' ((conv => whnf); first | (guard_target = Done _; refine Done.mk ?_; first | (simp_all [relT, normS, normV]; done) | skip) | (guard_target = RetX _ _; refine RetX.mk ?_ ?_) | (guard_target = Fact _ _; refine Fact.mk fun hL => ?_; (try simp only [List.length_map, maxLen] at hL)) | (guard_target = Branch _ _ _; (first | refine Branch.dec ?_ ?_ | refine Branch.beq ?_ ?_ | refine Branch.bne ?_ ?_ | refine Branch.ndec ?_ ?_ | refine Branch.nb ?_ ?_ | refine Branch.mk ?_ ?_) <;> intro h <;> (try simp only [List.length_map] at h) <;> (try omega) <;> (try contradiction)) | (guard_target = CallN _ 49 _ _ _ _; refine CallN.pure _ _ rfl (truth_told t a x _ hc) rfl _ rfl ?_) | (guard_target = Arith _ _ _; refine Arith.fit (wrap_fit (by first | omega | (simp only [List.length_map]; omega)) (by first | omega | (simp only [List.length_map]; omega))) ?_) | (guard_target = Arith _ _ _; refine Arith.fit (by decide) ?_) | (guard_target = Index _ _ _; first | refine Index.mk _ (idx_getD (l := Ks) (d := []) (i := 0) hk) ?_ | refine Index.mk _ (idx_getD (l := Ks.getD 0 []) (d := []) (i := x) (by omega)) ?_ | refine Index.mk _ (idx_getD (l := (Ks.getD 0 []).getD x []) (d := false) (i := y) (by omega)) ?_ | refine Index.mk _ (idx_map (by omega)) ?_) | (guard_target = Need (_ = true) _; refine Need.mk (by first | kernel_rfl | rfl) ?_) | (guard_target = LinkV _ _ _; first  | refine LinkV.no ?_) | (guard_target = GhO _ _ _ _; refine GhO.go ?_) | (guard_target = Need _ _; refine Need.mk (by first  | omega | (simp only [List.length_map]; omega)) ?_))
  all_goals first | rfl | trivial
theorem leads3_ok (N : Nat) (hc : okC t a p.cond) (A : List (List Bool)) (hs : Sq N A) (hx : x < N) (hy : y < N) : CallF Tryz.prog 191 [I x, I y, .c (ptT A), .c (ptP p)] (B (relT A x y && !(truthE p.cond y))) := by
  have hl := hs.len
  have hr := hs.row x hx
  refine callF_of_vc htb hm Tryz.func191 rfl rfl rfl rfl (ann := fun _ => none) (gh := fun _ => false) ?_
  repeat' ((conv => whnf); first | (guard_target = Done _; refine Done.mk ?_; first | (simp_all [relT, normS, normV]; done) | skip) | (guard_target = RetX _ _; refine RetX.mk ?_ ?_) | (guard_target = Fact _ _; refine Fact.mk fun hL => ?_; (try simp only [List.length_map, maxLen] at hL)) | (guard_target = Branch _ _ _; (first | refine Branch.dec ?_ ?_ | refine Branch.beq ?_ ?_ | refine Branch.bne ?_ ?_ | refine Branch.ndec ?_ ?_ | refine Branch.nb ?_ ?_ | refine Branch.mk ?_ ?_) <;> intro h <;> (try simp only [List.length_map] at h) <;> (try omega) <;> (try contradiction)) | (guard_target = CallN _ 49 _ _ _ _; refine CallN.pure _ _ rfl (truth_told t a y _ hc) rfl _ rfl ?_) | (guard_target = Arith _ _ _; refine Arith.fit (wrap_fit (by first | omega | (simp only [List.length_map]; omega)) (by first | omega | (simp only [List.length_map]; omega))) ?_) | (guard_target = Arith _ _ _; refine Arith.fit (by decide) ?_) | (guard_target = Index _ _ _; first | refine Index.mk _ (idx_getD (l := A) (d := []) (i := x) (by omega)) ?_ | refine Index.mk _ (idx_getD (l := A.getD x []) (d := false) (i := y) (by omega)) ?_ | refine Index.mk _ (idx_map (by omega)) ?_) | (guard_target = Need (_ = true) _; refine Need.mk (by first | kernel_rfl | rfl) ?_) | (guard_target = LinkV _ _ _; first  | refine LinkV.no ?_) | (guard_target = GhO _ _ _ _; refine GhO.go ?_) | (guard_target = Need _ _; refine Need.mk (by first  | omega | (simp only [List.length_map]; omega)) ?_))
  all_goals first | rfl | trivial
theorem leads4_ok (N : Nat) (hp : POk t a p) (hk : ¬ p.kind = 3 ∧ ¬ p.kind = 5 ∧ ¬ p.kind = 7) (Ks : List (List (List Bool))) (hkl : Ks.length = p.kids.length) (hs : ∀ i, i < Ks.length → Sq N (Ks.getD i [])) (hx : x < N) (hy : y < N) :
    CallF Tryz.prog 192 [I x, I y, .c (ptP p), .c (ptK Ks)] (B (ldK N l p.kind p.num p.cond (Ks.map relT) x y)) := by
  have hlen := hp.len
  have h6 : p.kind = 6 → Ks.length = 2 ∧ (Ks.map relT).getD 0 noR = relT (Ks.getD 0 []) ∧ (Ks.map relT).getD 1 noR = relT (Ks.getD 1 []) := by
    intro h6
    have h2 : Ks.length = 2 := by rw [hkl]; omega
    match Ks, h2 with
    | [A, C], _ => exact ⟨rfl, rfl, rfl⟩
  have hl : ∀ i, i < Ks.length → (Ks.getD i []).length = N ∧ ((Ks.getD i []).getD x []).length = N := fun i hi => ⟨(hs i hi).len, (hs i hi).row x hx⟩
  have hl0 := hl 0
  have hl1 := hl 1
  have e : ldK N l p.kind p.num p.cond (Ks.map relT) x y = if p.kind = 1 then (x : Int) == (y : Int) else if p.kind = 4 then ((x : Int) == (y : Int)) && truthE p.cond x else if p.kind = 6 then (if truthE p.cond x then (Ks.map relT).getD 0 noR x y else (Ks.map relT).getD 1 noR x y) else false := by
    unfold ldK
    rw [if_neg hk.1, if_neg hk.2.1, if_neg hk.2.2, int_beq]
    split
    · rfl
    · split
      · rfl
      · split <;> rfl
  rw [e]
  refine callF_of_vc htb hm Tryz.func192 rfl rfl rfl rfl (ann := fun _ => none) (gh := fun _ => false) ?_
  repeat' ((conv => whnf); first | (guard_target = Done _; refine Done.mk ?_; first | (simp_all [relT, normS, normV]; done) | skip) | (guard_target = RetX _ _; refine RetX.mk ?_ ?_) | (guard_target = Fact _ _; refine Fact.mk fun hL => ?_; (try simp only [List.length_map, maxLen] at hL)) | (guard_target = Branch _ _ _; (first | refine Branch.dec ?_ ?_ | refine Branch.beq ?_ ?_ | refine Branch.bne ?_ ?_ | refine Branch.ndec ?_ ?_ | refine Branch.nb ?_ ?_ | refine Branch.mk ?_ ?_) <;> intro h <;> (try simp only [List.length_map] at h) <;> (try omega) <;> (try contradiction)) | (guard_target = CallN _ 49 _ _ _ _; refine CallN.pure _ _ rfl (truth_told t a x _ (hp.cond (by omega))) rfl _ rfl ?_) | (guard_target = Arith _ _ _; refine Arith.fit (wrap_fit (by first | omega | (simp only [List.length_map]; omega)) (by first | omega | (simp only [List.length_map]; omega))) ?_) | (guard_target = Arith _ _ _; refine Arith.fit (by decide) ?_) | (guard_target = Index _ _ _; first | refine Index.mk _ (idx_getD (l := Ks) (d := []) (i := 0) (by omega)) ?_ | refine Index.mk _ (idx_getD (l := Ks) (d := []) (i := 1) (by omega)) ?_ | refine Index.mk _ (idx_getD (l := Ks.getD 0 []) (d := []) (i := x) (by omega)) ?_ | refine Index.mk _ (idx_getD (l := Ks.getD 1 []) (d := []) (i := x) (by omega)) ?_ | refine Index.mk _ (idx_getD (l := (Ks.getD 0 []).getD x []) (d := false) (i := y) (by omega)) ?_ | refine Index.mk _ (idx_getD (l := (Ks.getD 1 []).getD x []) (d := false) (i := y) (by omega)) ?_ | refine Index.mk _ (idx_map (by omega)) ?_) | (guard_target = Need (_ = true) _; refine Need.mk (by first | kernel_rfl | rfl) ?_) | (guard_target = LinkV _ _ _; first  | refine LinkV.no ?_) | (guard_target = GhO _ _ _ _; refine GhO.go ?_) | (guard_target = Need _ _; refine Need.mk (by first  | omega | (simp only [List.length_map]; omega)) ?_))
  all_goals first | rfl | trivial
end
end Go.Proofs.YtlfigjkddnncgaaGreat
