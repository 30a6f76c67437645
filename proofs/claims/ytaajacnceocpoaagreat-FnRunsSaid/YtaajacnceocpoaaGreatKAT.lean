/- Contracts of the reference's functions that tidy an expression. Conditions: valid trees, bounds of size. -/
import Derived.Test.YtaajacnceocpoaaGreatKAS
namespace Go.Proofs.YtaajacnceocpoaaGreat
open Go Go.KA Go.Proofs
set_option maxHeartbeats 16000000
set_option maxRecDepth 100000
abbrev pE (l : List XExpr) : CV := .op [.ows 28 3 (l.map encExpr)]
theorem l01Same_tt (x y : XExpr) : CallF Tryz.prog 76 [.c (.rp 3 (toldE x)), .c (.rp 3 (toldE y))] (B (eqv x y)) := by
  have := l01Same_ok x y
  rwa [encExpr_eq, encExpr_eq] at this
theorem own_tt (x : XExpr) (hb : budExpr x ≤ 1048576) : CallX Tryz.prog 84 [.c (.rp 3 (toldE x))] [] (.a 3 (toldE x)) := by
  have := l01Own_ro x hb
  rwa [encExpr_eq] at this
theorem pair_tt (k : Int) (x y : XExpr) : CallX Tryz.prog 85 [I k, .a 3 (toldE x), .a 3 (toldE y)] [] (.a 3 (toldE (pairX k x y))) := by
  have := l02Pair_okX k x y
  rwa [encExpr_eq x, encExpr_eq y, encExpr_eq (pairX k x y)] at this
theorem cond_tt (x : XExpr) : CallF Tryz.prog 154 [.c (.rp 3 (toldE x))] (B (condB x)) := by
  have := l01Condition_ok x
  rwa [encExpr_eq] at this
theorem zero_tt : CallX Tryz.prog 83 [] [] (.a 3 (toldE (.mk 1 0 []))) := by
  have h : CallX Tryz.prog 83 [] [] (.a 3 [J 1, J 0, .ows 28 3 []]) := by
    refine callX_of_vc htb hm Tryz.func83 rfl rfl rfl rfl (ann := fun _ => none) (gh := fun _ => false) ?_
    repeat' ((conv => whnf); first | (guard_target = RetX _ _; refine RetX.mk ?_ ?_) | (guard_target = Index _ _ _; first  | refine Index.mk _ (idx_map (by omega)) ?_) | (guard_target = Need _ _; refine Need.mk (by first  | omega | (simp only [List.length_map]; omega)) ?_))
    all_goals first | rfl | trivial
  have := leaf_soft h
  rwa [encExpr_eq] at this
theorem one_tt : CallX Tryz.prog 63 [] [] (.a 3 (toldE (.mk 2 0 []))) := by
  have h : CallX Tryz.prog 63 [] [] (.a 3 [J 2, J 0, .ows 28 3 []]) := by
    refine callX_of_vc htb hm Tryz.func63 rfl rfl rfl rfl (ann := fun _ => none) (gh := fun _ => false) ?_
    repeat' ((conv => whnf); first | (guard_target = RetX _ _; refine RetX.mk ?_ ?_) | (guard_target = Index _ _ _; first  | refine Index.mk _ (idx_map (by omega)) ?_) | (guard_target = Need _ _; refine Need.mk (by first  | omega | (simp only [List.length_map]; omega)) ?_))
    all_goals first | rfl | trivial
  have := leaf_soft h
  rwa [encExpr_eq] at this
theorem idx_end {α : Type} {l : List α} {v : α} : (l ++ [v])[((l.length : Nat) : Int).toNat]? = some v := by simp
theorem set_end {α : Type} {l : List α} {a : α} (b : α) : (l ++ [a]).set ((l.length : Nat) : Int).toNat b = l ++ [b] := by
  rw [List.set_append_right _ _ (by simp)]
  simp
theorem _root_.Go.KA.view_le {H : HM} {j sz idx off ty : Nat} {o : Option Value} {rows : List (List CV)} {r : List CV} (hH : H j = .row o ty sz rows) (hr : rows[idx]? = some r) : viewV H (.le j sz idx off) = some (.c (.rp (sz - off) (r.drop off))) := by
  have e : viewC H 5 (.le j sz idx off) = some (.rp (sz - off) (r.drop off)) := by
    rw [viewC]
    simp only [hH, hr]
    rw [show Nat.beq sz sz = true from Nat.beq_refl sz]
    rfl
  simp only [viewV, e]
theorem _root_.Go.KA.prep2 {H : HM} {s x t y : SV} (h : viewV H s = some x) (k : viewV H t = some y) : prep H [] [s, t] = some [x, y] := by
  simp only [prep, prepL, h, k]
theorem add_old {acc : List XExpr} {e : XExpr} {i : Nat} (hi : i < acc.length) (h : eqv (acc.getD i e00) e = true) : addE acc e = acc := by
  unfold addE
  rw [if_neg]
  intro h2
  have := List.all_eq_true.1 h2 (acc.getD i e00) (by rw [getD_eq hi]; exact List.getElem_mem _)
  rw [h] at this
  cases this
theorem add_new {acc : List XExpr} {e : XExpr} {i : Nat} (hi : ¬ i < acc.length) (h : (acc.take i).all (fun x => !(eqv x e)) = true) : (addE acc e).map encExpr = acc.map encExpr ++ [toldE e] := by
  unfold addE
  rw [List.take_of_length_le (by omega)] at h
  rw [if_pos h, List.map_append, List.map_cons, List.map_nil, encExpr_eq e]
section
variable (e : XExpr) (acc : List XExpr) (hz : acc.length ≤ 1000000)
include hz
theorem l02Summands_leaf (h1 : ¬ e.kind = 1) (h6 : ¬ e.kind = 6) (R : List (List CV)) (hR : R = (addE acc e).map encExpr) : CallX Tryz.prog 198 [.c (.rp 3 (toldE e)), .c (pE acc)] [none, some [.op [.ows 28 3 R]]] (.tup []) := by
  refine callX_of_vc htb hm Tryz.func198 rfl rfl rfl rfl (ann := fun _ => none) (gh := fun _ => false) ?_
  repeat' ((conv => whnf); first | (guard_target = RetX _ _; (have _ : ¬ ((i : Nat) : Int) < acc.length := h); (obtain rfl : R = acc.map encExpr ++ [toldE e] := (by rw [hR]; exact add_new (i := i) (by omega) ha.2)); refine RetX.mk rfl ⟨(congrArg (fun z => some [CV.op [.ows 28 3 z]]) (set_end (toldE e)) : _), trivial⟩) | (guard_target = RetX _ _; (obtain rfl : R = acc.map encExpr := (by rw [hR, add_old (i := i) (by omega) (eqv_of h)])); exact RetX.mk rfl ⟨rfl, trivial⟩) | (guard_target = RetX _ _; refine RetX.mk ?_ ?_) | (guard_target =~ LoopE 6 _ _ _ _ _ _; refine LoopE.mk { α := Nat, keep := [0, 1], ov := fun i => [(4, I (i : Nat))], φ := fun i => i ≤ acc.length ∧ (acc.take i).all (fun x => !(eqv x e)) = true, μ := fun i => acc.length - i } (LoopN.mk (0 : Nat) (by exact ⟨Nat.zero_le _, rfl⟩) (by repeat' ((conv => whnf) <;> first | exact trivial | kernel_rfl | constructor)) (by repeat' ((conv => whnf) <;> first | exact trivial | kernel_rfl | constructor)) (by repeat' ((conv => whnf) <;> first | exact trivial | refine ⟨?_, ?_⟩ | exact rfl | (simp only [List.map_append, List.map_cons, List.map_nil, List.map_set]; first | done | rfl))) (fun (i : Nat) ha => ?_) (by intro A; first | rfl | (obtain ⟨_, _⟩ := A; rfl) | (obtain ⟨_, _, _⟩ := A; rfl))); have ha : i ≤ acc.length ∧ (acc.take i).all (fun x => !(eqv x e)) = true := ha) | (guard_target = Gh _ _ _ _ _; refine Gh.go ⟨(i + 1 : Nat), (by exact all_go (by omega) ha (by show (!(eqv acc[i] e)) = true; rw [← getD_eq (d := e00) (by omega), eqv_ne h]; rfl)), (by first | (show _ < _; simp only []; omega) | omega | (simp; omega)), (by repeat' ((conv => whnf) <;> first | exact trivial | kernel_rfl | constructor)), (by repeat' ((conv => whnf) <;> first | exact trivial | kernel_rfl | constructor)), (by repeat' ((conv => whnf) <;> first | exact trivial | refine ⟨?_, ?_⟩ | exact rfl | (simp only [List.map_append, List.map_cons, List.map_nil, List.map_set]; first | done | rfl)))⟩) | (guard_target = Fact _ _; refine Fact.mk fun hL => ?_; (try simp only [List.length_map, maxLen] at hL)) | (guard_target = Branch _ _ _; (first | apply Branch.dec | apply Branch.beq | apply Branch.bne | apply Branch.ndec | apply Branch.nb | apply Branch.mk) <;> intro h <;> (try simp only [List.length_map] at h) <;> (try omega) <;> (try contradiction)) | (guard_target = CallN _ 76 _ _ _ _; refine CallN.pure _ _ (prep2 (view_le (r := toldE (acc.getD i e00)) rfl (idx_told (l := acc) (i := i) (by omega))) rfl) (l01Same_tt (acc.getD i e00) e) rfl _ rfl ?_) | (guard_target = Arith _ _ _; refine Arith.fit (by apply wrap_fit <;> first | omega | (simp only [List.length_map]; omega)) ?_) | (guard_target = Arith _ _ _; refine Arith.fit (by decide) ?_) | (guard_target = Index _ _ _; first | refine Index.mk _ (idx_told (l := acc) (i := i) (by omega)) ?_ | refine Index.mk _ (idx_end) ?_ | refine Index.mk _ (idx_map (by omega)) ?_) | (guard_target = Need (_ = true) _; refine Need.mk (by first | kernel_rfl | rfl) ?_) | (guard_target = LinkV _ _ _; refine LinkV.no ?_) | (guard_target = GhO _ _ _ _; refine GhO.go ?_) | (guard_target = Need _ _; refine Need.mk (by first | ((simp only [List.length_append, List.length_map, List.length_cons, List.length_nil, maxLen]; constructor <;> omega)) | omega | (simp only [List.length_map]; omega)) ?_))
  all_goals first | rfl | trivial
end
theorem sums_len {t a : Int} {e : XExpr} (h : Tree t a e) (acc : List XExpr) : (sumsE e acc).length ≤ acc.length + nod e := by
  have add : ∀ {e : XExpr} (acc : List XExpr), (addE acc e).length ≤ acc.length + 1 := by
    intro e acc
    unfold addE
    split <;> simp
  have leaf : ∀ {k n : Int} {ks : List XExpr}, ¬ k = 1 → ¬ k = 6 → ∀ acc : List XExpr, (sumsE (.mk k n ks) acc).length ≤ acc.length + nod (.mk k n ks) := by
    intro k n ks h1 h6 acc
    rw [sums_leaf h1 h6]
    have h9 := add (e := .mk k n ks) acc
    have h8 : 1 ≤ nod (.mk k n ks) := by simp only [nod]; omega
    omega
  induction h generalizing acc with
  | zero => rw [sumsE, if_pos rfl]; omega
  | one => exact leaf (by decide) (by decide) acc
  | test h0 h1 => exact leaf (by decide) (by decide) acc
  | act h0 h1 => exact leaf (by decide) (by decide) acc
  | not hc h => exact leaf (by decide) (by decide) acc
  | dot hx hy => exact leaf (by decide) (by decide) acc
  | star hx => exact leaf (by decide) (by decide) acc
  | @sum x y hx hy ih1 ih2 =>
    rw [sums_two, nod2]
    have h1 := ih1 acc
    have h2 := ih2 (sumsE x acc)
    omega
theorem l02Summands_ok {t a : Int} {e : XExpr} (h : Tree t a e) : ∀ acc : List XExpr, acc.length + nod e ≤ 1000000 → CallX Tryz.prog 198 [.c (.rp 3 (toldE e)), .c (pE acc)] [none, some [pE (sumsE e acc)]] (.tup []) := by
  have leaf : ∀ {k n : Int} {ks : List XExpr}, ¬ k = 1 → ¬ k = 6 → ∀ acc : List XExpr, acc.length + nod (.mk k n ks) ≤ 1000000 → CallX Tryz.prog 198 [.c (.rp 3 (toldE (.mk k n ks))), .c (pE acc)] [none, some [pE (sumsE (.mk k n ks) acc)]] (.tup []) := by
    intro k n ks h1 h6 acc hz
    rw [sums_leaf h1 h6]
    exact l02Summands_leaf (.mk k n ks) acc (by omega) h1 h6 _ rfl
  induction h with
  | zero =>
    intro acc hz
    rw [sumsE, if_pos rfl]
    refine callX_of_vc htb hm Tryz.func198 rfl rfl rfl rfl (ann := fun _ => none) (gh := fun _ => false) ?_
    repeat' ((conv => whnf); first | (guard_target = RetX _ _; refine RetX.mk ?_ ?_) | (guard_target = Fact _ _; refine Fact.mk fun hL => ?_; (try simp only [List.length_map, maxLen] at hL)) | (guard_target = Branch _ _ _; (first | apply Branch.dec | apply Branch.beq | apply Branch.bne | apply Branch.ndec | apply Branch.nb | apply Branch.mk) <;> intro h <;> (try simp only [List.length_map] at h) <;> (try omega) <;> (try contradiction)) | (guard_target = Arith _ _ _; refine Arith.fit (by apply wrap_fit <;> first | omega | (simp only [List.length_map]; omega)) ?_) | (guard_target = Arith _ _ _; refine Arith.fit (by decide) ?_) | (guard_target = Index _ _ _; first  | refine Index.mk _ (idx_map (by omega)) ?_) | (guard_target = Need (_ = true) _; refine Need.mk (by first | kernel_rfl | rfl) ?_) | (guard_target = LinkV _ _ _; refine LinkV.no ?_) | (guard_target = GhO _ _ _ _; refine GhO.go ?_) | (guard_target = Need _ _; refine Need.mk (by first  | omega | (simp only [List.length_map]; omega)) ?_))
    all_goals first | rfl | exact ⟨rfl, trivial⟩ | trivial
  | one => exact leaf (by decide) (by decide)
  | test h0 h1 => exact leaf (by decide) (by decide)
  | act h0 h1 => exact leaf (by decide) (by decide)
  | not hc h => exact leaf (by decide) (by decide)
  | dot hx hy => exact leaf (by decide) (by decide)
  | star hx => exact leaf (by decide) (by decide)
  | @sum x y hx hy ih1 ih2 =>
    intro acc hz
    rw [nod2] at hz
    rw [sums_two]
    have c1 := ih1 acc (by omega)
    have hl := sums_len hx acc
    have c2 := ih2 (sumsE x acc) (by omega)
    have e1 : toldE x = encExpr x := (encExpr_eq x).symm
    have e2 : toldE y = encExpr y := (encExpr_eq y).symm
    rw [e1] at c1
    rw [e2] at c2
    show CallX Tryz.prog 198 [.c (.rp 3 [J 6, J 0, .ro 3 [encExpr x, encExpr y]]), .c (pE acc)] _ _
    refine callX_of_vc htb hm Tryz.func198 rfl rfl rfl rfl (ann := fun _ => none) (gh := fun _ => false) ?_
    repeat' ((conv => whnf); first | (guard_target = RetX _ _; refine RetX.mk ?_ ?_) | (guard_target = Fact _ _; refine Fact.mk fun hL => ?_; (try simp only [List.length_map, maxLen] at hL)) | (guard_target = Branch _ _ _; (first | apply Branch.dec | apply Branch.beq | apply Branch.bne | apply Branch.ndec | apply Branch.nb | apply Branch.mk) <;> intro h <;> (try simp only [List.length_map] at h) <;> (try omega) <;> (try contradiction)) | (guard_target = CallN _ 198 _ _ _ _; refine CallN.gen [false, true] _ _ _ rfl (c1) rfl rfl _ rfl ?_) | (guard_target = CallN _ 198 _ _ _ _; refine CallN.gen [false, true] _ _ _ rfl (c2) rfl rfl _ rfl ?_) | (guard_target = Arith _ _ _; refine Arith.fit (by apply wrap_fit <;> first | omega | (simp only [List.length_map]; omega)) ?_) | (guard_target = Arith _ _ _; refine Arith.fit (by decide) ?_) | (guard_target = Index _ _ _; first | refine Index.mk _ (rfl) ?_ | refine Index.mk _ (idx_map (by omega)) ?_) | (guard_target = Need (_ = true) _; refine Need.mk (by first | kernel_rfl | rfl) ?_) | (guard_target = LinkV _ _ _; refine LinkV.no ?_) | (guard_target = GhO _ _ _ _; refine GhO.go ?_) | (guard_target = Need _ _; refine Need.mk (by first  | omega | (simp only [List.length_map]; omega)) ?_))
    all_goals first | rfl | exact ⟨rfl, trivial⟩ | trivial
theorem fold_next {L : List XExpr} {i : Nat} {x : XExpr} (h1 : 1 ≤ i) (h : i < L.length) : pairX 6 (((L.take i).drop 1).foldl (pairX 6) x) (L.getD i e00) = ((L.take (i + 1)).drop 1).foldl (pairX 6) x := by
  have e : (L.take (i + 1)).drop 1 = (L.take i).drop 1 ++ [L.getD i e00] := by
    rw [List.take_add_one, List.getElem?_eq_getElem h, getD_eq h, Option.toList_some, List.drop_append_of_le_length (by simp; omega)]
  rw [e, List.foldl_append]
  rfl
theorem fold_all {L : List XExpr} {i : Nat} (h0 : 0 < L.length) (h : ¬ i < L.length) : ((L.take i).drop 1).foldl (pairX 6) (L.getD 0 e00) = mkSum L := by
  rw [List.take_of_length_le (by omega)]
  cases L with
  | nil => simp at h0
  | cons x l => rfl
section
variable {t a : Int} (ht : t ≤ 3) (ha2 : a ≤ 4)
include ht ha2
theorem l02Sum_ok {x y : XExpr} (hx : Tree t a x) (hy : Tree t a y) (hn : nod x + nod y ≤ 100000) : CallX Tryz.prog 180 [.c (.rp 3 (toldE x)), .c (.rp 3 (toldE y))] [] (.a 3 (toldE (sum2 x y))) := by
  have c1 := l02Summands_ok hx [] (by simp; omega)
  have hl := sums_len hx []
  simp only [List.length_nil] at hl
  have c2 := l02Summands_ok hy (sumsE x []) (by omega)
  have hw := sum2_wgt hx hy
  have hmm : ∀ z ∈ sumsE y (sumsE x []), Tree t a z := (sums_keeps hy _ (sums_keeps hx [] (by simp)).1).1
  have hw2 : ∀ z ∈ sumsE y (sumsE x []), nod z ≤ 100002 := fun z hz => by
    have := wgt_mem hz
    rw [sort_wgt] at hw
    omega
  have hl2 := sums_len hy (sumsE x [])
  have c3 := l02Sorted_ok (sumsE y (sumsE x [])) (by omega) fun z hz => (hmm z hz).text ht ha2 (by have := hw2 z hz; omega)
  unfold sum2
  have hT : ∀ z ∈ sortE (sumsE y (sumsE x [])), Tree t a z := fun z hz => hmm z (sort_mem hz)
  generalize sortE (sumsE y (sumsE x [])) = L at c3 hw hT ⊢
  have hL := wgt_len L
  have hb : ∀ i (h : i < L.length), budExpr L[i] ≤ 1048576 := fun i h => by
    have := wgt_mem (List.getElem_mem h)
    simp only [nod] at this
    omega
  refine callX_of_vc htb hm Tryz.func180 rfl rfl rfl rfl (ann := fun _ => none) (gh := fun reg_ => match reg_ with | 5 => true | _ => false) ?_
  repeat' ((conv => whnf); first | (guard_target = RetX _ _; refine RetX.mk ?_ ?_) | (guard_target =~ LoopE 9 _ _ _ _ _ _; refine LoopE.mk { α := XExpr × Nat, keep := [4, 5, 6], ov := fun ⟨acc, i⟩ => [(7, I (i : Nat))], hv := fun ⟨acc, i⟩ => [(9, .cc 3 (toldE acc))], φ := fun ⟨acc, i⟩ => 1 ≤ i ∧ i ≤ L.length ∧ acc = ((L.take i).drop 1).foldl (pairX 6) (L.getD 0 e00), μ := fun ⟨acc, i⟩ => L.length - i } (LoopN.mk ((L.getD 0 e00, 1) : XExpr × Nat) (by exact ⟨Nat.le_refl _, by omega, by cases L <;> simp⟩) (by repeat' ((conv => whnf) <;> first | exact trivial | kernel_rfl | constructor)) (by repeat' ((conv => whnf) <;> first | exact trivial | kernel_rfl | constructor)) (by repeat' ((conv => whnf) <;> first | exact trivial | refine ⟨?_, ?_⟩ | exact rfl | (simp only [List.map_append, List.map_cons, List.map_nil, List.map_set]; first | done | rfl))) (fun A ha => ?_) (by intro A; first | rfl | (obtain ⟨_, _⟩ := A; rfl) | (obtain ⟨_, _, _⟩ := A; rfl))); obtain ⟨acc, i⟩ := A; have ha : 1 ≤ i ∧ i ≤ L.length ∧ acc = ((L.take i).drop 1).foldl (pairX 6) (L.getD 0 e00) := ha) | (guard_target = Gh _ _ _ _ _; refine Gh.go ⟨((pairX 6 acc (L.getD i e00), i + 1) : XExpr × Nat), (by exact ⟨by show 1 ≤ i + 1; omega, by show i + 1 ≤ _; omega, by show pairX 6 acc _ = _; rw [ha.2.2]; exact fold_next ha.1 (by omega)⟩), (by first | (show _ < _; simp only []; omega) | omega | (simp; omega)), (by repeat' ((conv => whnf) <;> first | exact trivial | kernel_rfl | constructor)), (by repeat' ((conv => whnf) <;> first | exact trivial | kernel_rfl | constructor)), (by repeat' ((conv => whnf) <;> first | exact trivial | refine ⟨?_, ?_⟩ | exact rfl | (simp only [List.map_append, List.map_cons, List.map_nil, List.map_set]; first | done | rfl)))⟩) | (guard_target = Fact _ _; refine Fact.mk fun hL => ?_; (try simp only [List.length_map, maxLen] at hL)) | (guard_target = Branch _ _ _; (first | apply Branch.dec | apply Branch.beq | apply Branch.bne | apply Branch.ndec | apply Branch.nb | apply Branch.mk) <;> intro h <;> (try simp only [List.length_map] at h) <;> (try omega) <;> (try contradiction)) | (guard_target = CallN _ 198 _ _ _ _; refine CallN.gen [false, true] _ _ _ rfl (c1) rfl rfl _ rfl ?_) | (guard_target = CallN _ 198 _ _ _ _; refine CallN.gen [false, true] _ _ _ rfl (c2) rfl rfl _ rfl ?_) | (guard_target = CallN _ 199 _ _ _ _; refine CallN.gen [true] _ _ _ rfl (c3.give (.c .nil)) rfl rfl _ rfl ?_) | (guard_target = CallN _ 83 _ _ _ _; refine CallN.gen [] _ _ _ rfl (zero_tt) rfl rfl _ rfl ?_) | (guard_target = CallN _ 84 _ _ _ _; refine CallN.gen [] _ _ _ rfl (own_tt (L.getD 0 e00) (by rw [getD_eq (show 0 < L.length by omega)]; exact hb 0 (by omega))) rfl rfl _ rfl ?_) | (guard_target = CallN _ 84 _ _ _ _; refine CallN.gen [] _ _ _ rfl (own_tt (L.getD i e00) (by rw [getD_eq (show i < L.length by omega)]; exact hb i (by omega))) rfl rfl _ rfl ?_) | (guard_target = CallN _ 85 _ _ _ _; refine CallN.gen [] _ _ _ rfl (pair_tt 6 acc (L.getD i e00)) rfl rfl _ rfl ?_) | (guard_target = Gh _ _ _ _ _; refine Gh.frz 7 (.ro 3 (L.map encExpr)) rfl (Gh.go ?_)) | (guard_target = Arith _ _ _; refine Arith.fit (by apply wrap_fit <;> first | omega | (simp only [List.length_map]; omega)) ?_) | (guard_target = Arith _ _ _; refine Arith.fit (by decide) ?_) | (guard_target = Index _ _ _; first | refine Index.mk _ (idx_told (l := L) (i := 0) (by omega)) ?_ | refine Index.mk _ (idx_told (l := L) (i := i) (by omega)) ?_ | refine Index.mk _ (idx_map (by omega)) ?_) | (guard_target = Need (_ = true) _; refine Need.mk (by first | kernel_rfl | rfl) ?_) | (guard_target = LinkV _ _ _; refine LinkV.no ?_) | (guard_target = GhO _ _ _ _; refine GhO.go ?_) | (guard_target = Need _ _; refine Need.mk (by first  | omega | (simp only [List.length_map]; omega)) ?_))
  all_goals first | rfl | exact ⟨rfl, trivial⟩ | trivial | ((have h9 : L = [] := List.eq_nil_of_length_eq_zero (by omega)); (subst h9; rfl)) | (rw [ha.2.2, fold_all (by omega) (by omega)]; done)
end
end Go.Proofs.YtaajacnceocpoaaGreat

namespace Go.Proofs.YtaajacnceocpoaaGreat
open Go Go.KA Go.Proofs
set_option maxHeartbeats 16000000
set_option maxRecDepth 100000
theorem toldE_e (x : XExpr) : encExpr x = toldE x := encExpr_eq x
theorem l02Dot_leaf (k n : Int) (ks : List XExpr) (b : XExpr) (h7 : ¬ k = 7) (hb : nod (.mk k n ks) + nod b ≤ 1000000) (R : XExpr) (hR : dotE (.mk k n ks) b = R) : CallX Tryz.prog 181 [.c (.rp 3 (toldE (.mk k n ks))), .c (.rp 3 (toldE b))] [] (.a 3 (toldE R)) := by
  have o1 := own_tt (.mk k n ks) (by simp only [nod] at hb; omega)
  have o2 := own_tt b (by simp only [nod] at hb; omega)
  have e0 : toldE (.mk k n ks) = [J k, J n, .ro 3 (ks.map encExpr)] := rfl
  have p1 := pair_tt 7 (.mk k n ks) b
  rw [e0] at o1 p1 ⊢
  refine callX_of_vc htb hm Tryz.func181 rfl rfl rfl rfl (ann := fun _ => none) (gh := fun _ => false) ?_
  repeat' ((conv => whnf); first | (guard_target = RetX _ _; refine RetX.mk ?_ ?_) | (guard_target = Branch _ _ _; (first | apply Branch.dec | apply Branch.beq | apply Branch.bne | apply Branch.ndec | apply Branch.nb | apply Branch.mk) <;> intro h <;> (try simp only [List.length_map] at h) <;> (try omega) <;> (try contradiction)) | (guard_target = CallN _ 83 _ _ _ _; refine CallN.gen [] _ _ _ rfl (zero_tt) rfl rfl _ rfl ?_) | (guard_target = CallN _ 84 _ _ _ _; refine CallN.gen [] _ _ _ rfl (o2) rfl rfl _ rfl ?_) | (guard_target = CallN _ 84 _ _ _ _; refine CallN.gen [] _ _ _ rfl (o1) rfl rfl _ rfl ?_) | (guard_target = CallN _ 85 _ _ _ _; refine CallN.gen [] _ _ _ rfl (p1) rfl rfl _ rfl ?_) | (guard_target = Index _ _ _; first  | refine Index.mk _ (idx_map (by omega)) ?_) | (guard_target = LinkV _ _ _; refine LinkV.no ?_) | (guard_target = Need _ _; refine Need.mk (by first  | omega | (simp only [List.length_map]; omega)) ?_))
  all_goals first | rfl | trivial | (rw [← hR, dot_zero (by omega)]; done) | (rw [← hR, dot_one (by omega) (by omega)]; done) | (rw [← hR, dot_by (by omega) (by omega) (by omega), e0]; done) | (rw [← hR, dot_pair (by omega) (by omega) (by omega) (by omega)]; done)
theorem l02Dot_ok {t a : Int} {e : XExpr} (h : Tree t a e) : ∀ b : XExpr, Tree t a b → nod e + nod b ≤ 100000 → CallX Tryz.prog 181 [.c (.rp 3 (toldE e)), .c (.rp 3 (toldE b))] [] (.a 3 (toldE (dotE e b))) := by
  have leaf : ∀ {k n : Int} {ks : List XExpr}, ¬ k = 7 → ∀ b : XExpr, Tree t a b → nod (.mk k n ks) + nod b ≤ 100000 → CallX Tryz.prog 181 [.c (.rp 3 (toldE (.mk k n ks))), .c (.rp 3 (toldE b))] [] (.a 3 (toldE (dotE (.mk k n ks) b))) := fun h7 b _ hn => l02Dot_leaf _ _ _ b h7 (by omega) _ rfl
  induction h with
  | zero => exact leaf (by decide)
  | one => exact leaf (by decide)
  | test h0 h1 => exact leaf (by decide)
  | act h0 h1 => exact leaf (by decide)
  | not hc h => exact leaf (by decide)
  | sum hx hy => exact leaf (by decide)
  | star hx => exact leaf (by decide)
  | @dot x y hx hy ih1 ih2 =>
    intro b hb hn
    rw [nod2] at hn
    have kp := dot_keeps hy b hb
    have c1 := ih2 b hb (by omega)
    have c2 := ih1 (dotE y b) kp.1 (by omega)
    have o1 := own_tt (.mk 7 0 [x, y]) (by have := nod2 7 0 x y; simp only [nod] at this hn ⊢; omega)
    obtain ⟨R, hR⟩ : ∃ R, dotE (.mk 7 0 [x, y]) b = R := ⟨_, rfl⟩
    obtain ⟨Q, hQ⟩ : ∃ Q, dotE y b = Q := ⟨_, rfl⟩
    rw [hR]
    rw [hQ] at c1 c2
    have e0 : toldE (.mk 7 0 [x, y]) = [J 7, J 0, .ro 3 [toldE x, toldE y]] := by rw [← toldE_e x, ← toldE_e y]; rfl
    rw [e0] at o1 ⊢
    refine callX_of_vc htb hm Tryz.func181 rfl rfl rfl rfl (ann := fun _ => none) (gh := fun reg_ => match reg_ with | 9 => true | _ => false) ?_
    repeat' ((conv => whnf); first | (guard_target = RetX _ _; refine RetX.mk ?_ ?_) | (guard_target = Branch _ _ _; (first | apply Branch.dec | apply Branch.beq | apply Branch.bne | apply Branch.ndec | apply Branch.nb | apply Branch.mk) <;> intro h <;> (try simp only [List.length_map] at h) <;> (try omega) <;> (try contradiction)) | (guard_target = CallN _ 83 _ _ _ _; refine CallN.gen [] _ _ _ rfl (zero_tt) rfl rfl _ rfl ?_) | (guard_target = CallN _ 84 _ _ _ _; refine CallN.gen [] _ _ _ rfl (o1) rfl rfl _ rfl ?_) | (guard_target = CallN _ 181 _ _ _ _; refine CallN.gen [] _ _ _ rfl (c1) rfl rfl _ rfl ?_) | (guard_target = CallN _ 181 _ _ _ _; refine CallN.gen [] _ _ _ rfl (c2) rfl rfl _ rfl ?_) | (guard_target = Gh _ _ _ _ _; refine Gh.frzp 3 (toldE Q) rfl (Gh.go ?_)) | (guard_target = Index _ _ _; first | refine Index.mk _ (rfl) ?_ | refine Index.mk _ (idx_map (by omega)) ?_) | (guard_target = LinkV _ _ _; refine LinkV.no ?_) | (guard_target = GhO _ _ _ _; refine GhO.go ?_) | (guard_target = Need _ _; refine Need.mk (by first  | omega | (simp only [List.length_map]; omega)) ?_))
    all_goals first | rfl | trivial | (rw [← hR, dot_zero (by omega)]; done) | (rw [← hR, dot_by (by omega) (by omega) (by omega), e0]; done) | (rw [← hR, dot_dot (by omega) (by omega), hQ]; done)
theorem l02Star_ok (x : XExpr) (hb : nod x ≤ 1000000) : CallX Tryz.prog 182 [.c (.rp 3 (toldE x))] [] (.a 3 (toldE (starE x))) := by
  have o1 := own_tt x (by simp only [nod] at hb; omega)
  obtain ⟨R, hR⟩ : ∃ R, starE x = R := ⟨_, rfl⟩
  rw [hR]
  have h8 : starE x = .mk 8 0 [x] → toldE R = [J 8, J 0, .ro 3 [toldE x]] := by rintro e; rw [← hR, e, ← toldE_e x]; rfl
  by_cases hc : condB x = true ∨ x.kind = 8
  · skip
    refine callX_of_vc htb hm Tryz.func182 rfl rfl rfl rfl (ann := fun _ => none) (gh := fun _ => false) ?_
    repeat' ((conv => whnf); first | (guard_target = RetX _ _; refine RetX.mk ?_ ?_) | (guard_target = Branch _ _ _; (first | apply Branch.dec | apply Branch.beq | apply Branch.bne | apply Branch.ndec | apply Branch.nb | apply Branch.mk) <;> intro h <;> (try simp only [List.length_map] at h) <;> (try omega) <;> (try contradiction)) | (guard_target = CallN _ 154 _ _ _ _; refine CallN.pure _ _ rfl (cond_tt x) rfl _ rfl ?_) | (guard_target = CallN _ 63 _ _ _ _; refine CallN.gen [] _ _ _ rfl (one_tt) rfl rfl _ rfl ?_) | (guard_target = CallN _ 84 _ _ _ _; refine CallN.gen [] _ _ _ rfl (o1) rfl rfl _ rfl ?_) | (guard_target = Index _ _ _; first  | refine Index.mk _ (idx_map (by omega)) ?_) | (guard_target = Need _ _; refine Need.mk (by first  | omega | (simp only [List.length_map]; omega)) ?_))
    all_goals first | rfl | trivial | (rw [← hR]; simp [starE, *]; done) | (exfalso; simp_all; done)
  · rw [h8 (by unfold starE; rw [if_neg (by simp_all), if_neg (by simp_all)])]
    refine CallX.soft (?_ : CallX _ _ _ _ (.a 3 [J 8, J 0, .ows 28 3 [toldE x]])) (.v (.a (.same (.same (.ro .nil)))))
    refine callX_of_vc htb hm Tryz.func182 rfl rfl rfl rfl (ann := fun _ => none) (gh := fun _ => false) ?_
    repeat' ((conv => whnf); first | (guard_target = RetX _ _; refine RetX.mk ?_ ?_) | (guard_target = Branch _ _ _; (first | apply Branch.dec | apply Branch.beq | apply Branch.bne | apply Branch.ndec | apply Branch.nb | apply Branch.mk) <;> intro h <;> (try simp only [List.length_map] at h) <;> (try omega) <;> (try contradiction)) | (guard_target = CallN _ 154 _ _ _ _; refine CallN.pure _ _ rfl (cond_tt x) rfl _ rfl ?_) | (guard_target = CallN _ 63 _ _ _ _; refine CallN.gen [] _ _ _ rfl (one_tt) rfl rfl _ rfl ?_) | (guard_target = CallN _ 84 _ _ _ _; refine CallN.gen [] _ _ _ rfl (o1) rfl rfl _ rfl ?_) | (guard_target = Index _ _ _; first  | refine Index.mk _ (idx_map (by omega)) ?_) | (guard_target = Need _ _; refine Need.mk (by first  | omega | (simp only [List.length_map]; omega)) ?_))
    all_goals first | rfl | trivial | (exfalso; simp_all; done)
section
variable {t a : Int} (ht : t ≤ 3) (ha2 : a ≤ 4)
include ht ha2
theorem l02Tidy_ok {e : XExpr} (h : Tree t a e) : nod e ≤ 90000 → CallX Tryz.prog 164 [.c (.rp 3 (toldE e))] [] (.a 3 (toldE (tidyE e))) := by
  have leaf : ∀ {k n : Int} {ks : List XExpr}, ¬ k = 6 → ¬ k = 7 → ¬ k = 8 → tidyE (.mk k n ks) = .mk k n ks → nod (.mk k n ks) ≤ 90000 → CallX Tryz.prog 164 [.c (.rp 3 (toldE (.mk k n ks)))] [] (.a 3 (toldE (tidyE (.mk k n ks)))) := by
    intro k n ks h6 h7 h8 e hn
    have o1 := own_tt (.mk k n ks) (by simp only [nod] at hn; omega)
    rw [e]
    refine callX_of_vc htb hm Tryz.func164 rfl rfl rfl rfl (ann := fun _ => none) (gh := fun _ => false) ?_
    repeat' ((conv => whnf); first | (guard_target = RetX _ _; refine RetX.mk ?_ ?_) | (guard_target = Branch _ _ _; (first | apply Branch.dec | apply Branch.beq | apply Branch.bne | apply Branch.ndec | apply Branch.nb | apply Branch.mk) <;> intro h <;> (try simp only [List.length_map] at h) <;> (try omega) <;> (try contradiction)) | (guard_target = CallN _ 84 _ _ _ _; refine CallN.gen [] _ _ _ rfl (o1) rfl rfl _ rfl ?_) | (guard_target = Index _ _ _; first  | refine Index.mk _ (idx_map (by omega)) ?_) | (guard_target = LinkV _ _ _; refine LinkV.no ?_) | (guard_target = Need _ _; refine Need.mk (by first  | omega | (simp only [List.length_map]; omega)) ?_))
    all_goals first | rfl | trivial
  induction h with
  | zero => exact leaf (by decide) (by decide) (by decide) (tidy_nil _ _)
  | one => exact leaf (by decide) (by decide) (by decide) (tidy_nil _ _)
  | test h0 h1 => exact leaf (by decide) (by decide) (by decide) (tidy_nil _ _)
  | act h0 h1 => exact leaf (by decide) (by decide) (by decide) (tidy_nil _ _)
  | not hc h => exact leaf (by decide) (by decide) (by decide) (tidy_not _ _)
  | @sum x y hx hy ih1 ih2 =>
    intro hn
    rw [nod2] at hn
    rw [tidy_sum]
    have k1 := tidy_keeps hx
    have k2 := tidy_keeps hy
    have c1 := ih1 (by omega)
    have c2 := ih2 (by omega)
    have c3 := l02Sum_ok ht ha2 k1.1 k2.1 (by omega)
    have e0 : toldE (.mk 6 0 [x, y]) = [J 6, J 0, .ro 3 [toldE x, toldE y]] := by rw [← toldE_e x, ← toldE_e y]; rfl
    rw [e0]
    generalize tidyE x = X at c1 c3 ⊢
    generalize tidyE y = Y at c2 c3 ⊢
    refine callX_of_vc htb hm Tryz.func164 rfl rfl rfl rfl (ann := fun _ => none) (gh := fun reg_ => match reg_ with | 7 => true | _ => false) ?_
    repeat' ((conv => whnf); first | (guard_target = RetX _ _; refine RetX.mk ?_ ?_) | (guard_target = Branch _ _ _; (first | apply Branch.dec | apply Branch.beq | apply Branch.bne | apply Branch.ndec | apply Branch.nb | apply Branch.mk) <;> intro h <;> (try simp only [List.length_map] at h) <;> (try omega) <;> (try contradiction)) | (guard_target = CallN _ 164 _ _ _ _; refine CallN.gen [] _ _ _ rfl (c1) rfl rfl _ rfl ?_) | (guard_target = CallN _ 164 _ _ _ _; refine CallN.gen [] _ _ _ rfl (c2) rfl rfl _ rfl ?_) | (guard_target = CallN _ 180 _ _ _ _; refine CallN.gen [] _ _ _ rfl (c3) rfl rfl _ rfl ?_) | (guard_target = Gh _ _ _ _ _; refine Gh.frzp 3 (toldE X) rfl (Gh.frzp 5 (toldE Y) rfl (Gh.go ?_))) | (guard_target = Index _ _ _; first | refine Index.mk _ (rfl) ?_ | refine Index.mk _ (idx_map (by omega)) ?_) | (guard_target = LinkV _ _ _; refine LinkV.no ?_) | (guard_target = GhO _ _ _ _; refine GhO.go ?_) | (guard_target = Need _ _; refine Need.mk (by first  | omega | (simp only [List.length_map]; omega)) ?_))
    all_goals first | rfl | trivial
  | @dot x y hx hy ih1 ih2 =>
    intro hn
    rw [nod2] at hn
    rw [tidy_dot]
    have k1 := tidy_keeps hx
    have k2 := tidy_keeps hy
    have c1 := ih1 (by omega)
    have c2 := ih2 (by omega)
    have c3 := l02Dot_ok k1.1 _ k2.1 (by omega)
    have e0 : toldE (.mk 7 0 [x, y]) = [J 7, J 0, .ro 3 [toldE x, toldE y]] := by rw [← toldE_e x, ← toldE_e y]; rfl
    rw [e0]
    generalize tidyE x = X at c1 c3 ⊢
    generalize tidyE y = Y at c2 c3 ⊢
    refine callX_of_vc htb hm Tryz.func164 rfl rfl rfl rfl (ann := fun _ => none) (gh := fun reg_ => match reg_ with | 8 => true | _ => false) ?_
    repeat' ((conv => whnf); first | (guard_target = RetX _ _; refine RetX.mk ?_ ?_) | (guard_target = Branch _ _ _; (first | apply Branch.dec | apply Branch.beq | apply Branch.bne | apply Branch.ndec | apply Branch.nb | apply Branch.mk) <;> intro h <;> (try simp only [List.length_map] at h) <;> (try omega) <;> (try contradiction)) | (guard_target = CallN _ 164 _ _ _ _; refine CallN.gen [] _ _ _ rfl (c1) rfl rfl _ rfl ?_) | (guard_target = CallN _ 164 _ _ _ _; refine CallN.gen [] _ _ _ rfl (c2) rfl rfl _ rfl ?_) | (guard_target = CallN _ 181 _ _ _ _; refine CallN.gen [] _ _ _ rfl (c3) rfl rfl _ rfl ?_) | (guard_target = Gh _ _ _ _ _; refine Gh.frzp 3 (toldE X) rfl (Gh.frzp 5 (toldE Y) rfl (Gh.go ?_))) | (guard_target = Index _ _ _; first | refine Index.mk _ (rfl) ?_ | refine Index.mk _ (idx_map (by omega)) ?_) | (guard_target = LinkV _ _ _; refine LinkV.no ?_) | (guard_target = GhO _ _ _ _; refine GhO.go ?_) | (guard_target = Need _ _; refine Need.mk (by first  | omega | (simp only [List.length_map]; omega)) ?_))
    all_goals first | rfl | trivial
  | @star x hx ih =>
    intro hn
    rw [nod1] at hn
    rw [tidy_star]
    have k1 := tidy_keeps hx
    have c1 := ih (by omega)
    have c3 := l02Star_ok (tidyE x) (by omega)
    have e0 : toldE (.mk 8 0 [x]) = [J 8, J 0, .ro 3 [toldE x]] := by rw [← toldE_e x]; rfl
    rw [e0]
    generalize tidyE x = X at c1 c3 ⊢
    refine callX_of_vc htb hm Tryz.func164 rfl rfl rfl rfl (ann := fun _ => none) (gh := fun reg_ => match reg_ with | 11 => true | _ => false) ?_
    repeat' ((conv => whnf); first | (guard_target = RetX _ _; refine RetX.mk ?_ ?_) | (guard_target = Branch _ _ _; (first | apply Branch.dec | apply Branch.beq | apply Branch.bne | apply Branch.ndec | apply Branch.nb | apply Branch.mk) <;> intro h <;> (try simp only [List.length_map] at h) <;> (try omega) <;> (try contradiction)) | (guard_target = CallN _ 164 _ _ _ _; refine CallN.gen [] _ _ _ rfl (c1) rfl rfl _ rfl ?_) | (guard_target = CallN _ 182 _ _ _ _; refine CallN.gen [] _ _ _ rfl (c3) rfl rfl _ rfl ?_) | (guard_target = Gh _ _ _ _ _; refine Gh.frzp 3 (toldE X) rfl (Gh.go ?_)) | (guard_target = Index _ _ _; first | refine Index.mk _ (rfl) ?_ | refine Index.mk _ (idx_map (by omega)) ?_) | (guard_target = LinkV _ _ _; refine LinkV.no ?_) | (guard_target = GhO _ _ _ _; refine GhO.go ?_) | (guard_target = Need _ _; refine Need.mk (by first  | omega | (simp only [List.length_map]; omega)) ?_))
    all_goals first | rfl | trivial
end
end Go.Proofs.YtaajacnceocpoaaGreat
