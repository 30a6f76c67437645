/- Contracts: the reference's weakest condition, as atoms; whether a triple holds (the reference's), which is what the program finds. No conditions but that programs and conditions are valid. -/
import Derived.Test.YtlfigjkddnncgaaGreatKAM
namespace Go.Proofs.YtlfigjkddnncgaaGreat
open Go Go.KA Go.Proofs
set_option maxHeartbeats 16000000
set_option maxRecDepth 100000
def oneP (x : Nat) : Nat → Bool := fun y => y == x
theorem selR_one {N x : Nat} (h : x < N) : selR N (oneP x) = [(x : Int)] := by
  have : putL (selR N fun _ => false) x = [(x : Int)] := by
    have e : selR N (fun _ => false) = [] := by simp [selR]
    rw [e]; rfl
  rw [put_sel _ h] at this
  rw [← this]
  exact selR_congr fun y _ => by simp [addP, oneP]
theorem img_one {N x : Nat} {R : Rel} (h : x < N) (y : Nat) : imgR N R (oneP x) y = R x y := by
  refine bool_ext ?_
  rw [imgR_iff]
  constructor
  · rintro ⟨z, _, h1, h2⟩
    have : z = x := by simpa [oneP] using h1
    subst this; exact h2
  · intro h2; exact ⟨x, h, by simp [oneP], h2⟩
theorem sel_empty {N : Nat} {P : Nat → Bool} : (selR N P).length = 0 ↔ ∀ y, y < N → P y = false := by
  rw [List.length_eq_zero_iff]
  constructor
  · intro h y hy
    cases hp : P y with
    | false => rfl
    | true =>
      have : (y : Int) ∈ selR N P := selR_mem.2 ⟨y, hy, hp, rfl⟩
      rw [h] at this; cases this
  · intro h
    rw [selR_congr (q := fun _ => false) h]
    simp [selR]
theorem sure_iff {N x : Nat} {R : Rel} {c : XExpr} (hx : x < N) : sureP N R c x = decide ((selR N (andP (imgR N R (oneP x)) (notP (trP c)))).length = 0) := by
  refine bool_ext ?_
  rw [decide_eq_true_eq, sel_empty]
  unfold sureP
  rw [List.all_eq_true]
  simp only [List.mem_range, andP, notP, trP]
  constructor
  · intro h y hy
    have := h y hy
    rw [img_one hx]
    cases hr : R x y <;> simp_all
  · intro h y hy
    have := h y hy
    rw [img_one hx] at this
    cases hr : R x y <;> simp_all
theorem nat_zero (n : Nat) : ((n : Int) == 0) = decide (n = 0) := by
  refine bool_ext ?_
  rw [beq_iff_eq, decide_eq_true_eq]
  omega
def holdsS (N : Nat) (l : List XPremise) (x : XTriple) : Bool := decide ((selR N (andP (imgR N (ldR N l x.prog) (trP x.pre)) (notP (trP x.post)))).length = 0)
theorem holds_same (N : Nat) (l : List XPremise) (x : XTriple) : holdsS N l x = holdsT N l x := by
  unfold holdsS holdsT
  refine bool_ext ?_
  rw [decide_eq_true_eq, sel_empty, List.all_eq_true]
  simp only [andP, notP, trP]
  constructor
  · intro h z hz
    obtain ⟨i, hi, h1, rfl⟩ := selR_mem.1 hz
    rw [mem_sel hi]
    unfold sureP
    rw [List.all_eq_true]
    intro y hy
    have hy := List.mem_range.1 hy
    have h2 := h y hy
    cases hr : ldR N l x.prog i y with
    | false => rfl
    | true =>
      have h3 : imgR N (ldR N l x.prog) (fun x_1 => truthE x.pre x_1) y = true := imgR_iff.2 ⟨i, hi, h1, hr⟩
      unfold trP at h2
      rw [h3] at h2
      simpa using h2
  · intro h y hy
    cases hi : imgR N (ldR N l x.prog) (trP x.pre) y with
    | false => rfl
    | true =>
      obtain ⟨i, hi, h1, h2⟩ := imgR_iff.1 hi
      have h3 := h i (selR_mem.2 ⟨i, hi, h1, rfl⟩)
      rw [mem_sel hi] at h3
      unfold sureP at h3
      rw [List.all_eq_true] at h3
      have h4 := h3 y (List.mem_range.2 hy)
      rw [h2] at h4
      simpa using h4
section
variable (t a : Int) (ht : 0 ≤ t ∧ t ≤ 3) (l : List XPremise) (hl : PremOk t a l) (N : Nat) (hN : atomsN t = N ∧ 1 ≤ N ∧ N ≤ 8)
include ht hN
theorem parted_set (c : XExpr) (hc : okC t a c) (B : Nat → Bool) : CallX Tryz.prog 96 [.c (.rp 3 (encExpr c)), eS N B] [] (.tup [eS N (andP B (trP c)), eS N (andP B (notP (trP c)))]) := by
  have h1 := l07Parted_ok t a ht c hc (selR N B) (by have := selR_len N B; omega)
  rwa [sel_part, sel_part2] at h1
include hl
theorem from_one (p : XProg) (hp : POk t a p) (x : Nat) (hx : x < N) : CallX Tryz.prog 38 [.a 2 [J t, J a], .c (.ro 7 (l.map encPremise)), .c (.rp 6 (encProg p)), .c (.ows 2 1 [eI x])] [] (eS N (imgR N (ldR N l p) (oneP x))) := by
  have h := l07From_ok t a ht l hl N hN p hp (oneP x)
  have h' : CallX Tryz.prog 38 [.a 2 [J t, J a], .c (.ro 7 (l.map encPremise)), .c (.rp 6 (encProg p)), .c (.ro 1 [eI x])] [] (eS N (imgR N (ldR N l p) (oneP x))) := by
    have e : eS N (oneP x) = .c (.ro 1 [eI x]) := by
      show SV.c (CV.ro 1 ((selR N (oneP x)).map eI)) = _
      rw [selR_one hx]; rfl
    rwa [e] at h
  exact h'.give (.same (.same (.same (.c .nil))))
theorem l07Sure_ows (p : XProg) (hp : POk t a p) (c : XExpr) (hc : okC t a c) : CallX Tryz.prog 37 [.a 2 [J t, J a], .c (.ro 7 (l.map encPremise)), .c (.rp 6 (encProg p)), .c (.rp 3 (encExpr c))] [] (.c (.ows 2 1 ((selR N (sureP N (ldR N l p) c)).map eI))) := by
  have hat := l01Atoms_ok t a ht
  rw [hN.1] at hat
  have hsl := fun i => selR_len i (sureP N (ldR N l p) c)
  have hA := from_one t a ht l hl N hN p hp
  have hP := parted_set t a ht N hN c hc
  have hsu := fun x (hx : x < N) => sure_iff (R := ldR N l p) (c := c) hx
  refine callX_of_vc htb hm Tryz.func37 rfl rfl rfl rfl (ann := fun _ => none) (gh := fun _ => false) ?_
  repeat' ((conv => whnf); first | (guard_target = Done _; refine Done.mk ?_) | (guard_target = RetX _ _; refine RetX.mk ?_ ?_) | (guard_target =~ LoopE 3 _ _ _ _ _ _; refine LoopE.mk { α := List Int × Nat, keep := [1, 2, 3, 4], ov := fun ⟨R, y⟩ => [(9, .lw 2), (10, I (y : Nat))], hv := fun ⟨R, y⟩ => [(2, .row none 2 1 (R.map eI))], φ := fun ⟨R, y⟩ => y ≤ N ∧ R = selR y (sureP N (ldR N l p) c), μ := fun ⟨R, y⟩ => N - y } (LoopN.mk (([], 0) : List Int × Nat) (by exact ⟨Nat.zero_le _, rfl⟩) (by (repeat' ((conv => whnf) <;> (first | exact trivial | refine ⟨?_, ?_⟩ | kernel_rfl))); done) (by (repeat' ((conv => whnf) <;> (first | exact trivial | refine ⟨?_, ?_⟩ | kernel_rfl))); done) (by (repeat' ((conv => whnf) <;> (first | exact trivial | refine ⟨?_, ?_⟩ | exact rfl | (simp only [List.map_append, List.map_cons, List.map_nil, List.map_set]; first | done | rfl)))); done) (fun A ha => ?_) (by intro A; first | rfl | (obtain ⟨_, _⟩ := A; rfl) | (obtain ⟨_, _, _⟩ := A; rfl))); obtain ⟨R, y⟩ := A; have ha : y ≤ N ∧ R = selR y (sureP N (ldR N l p) c) := ha; have hsx := hsl y; rw [← ha.2] at hsx; have hsy := hsu y) | (guard_target = Gh _ _ _ _ _; refine Gh.go ⟨((R ++ [(y : Int)], y + 1) : List Int × Nat), (by exact ⟨by show y + 1 ≤ N; omega, by show R ++ _ = _; rw [selR_yes (by rw [hsy (by omega)]; exact decide_eq_true (by omega)), ← ha.2]⟩), (by first | (show _ < _; simp only []; omega) | omega | (simp; omega)), (by (repeat' ((conv => whnf) <;> (first | exact trivial | refine ⟨?_, ?_⟩ | kernel_rfl))); done), (by (repeat' ((conv => whnf) <;> (first | exact trivial | refine ⟨?_, ?_⟩ | kernel_rfl))); done), (by (repeat' ((conv => whnf) <;> (first | exact trivial | refine ⟨?_, ?_⟩ | exact rfl | (simp only [List.map_append, List.map_cons, List.map_nil, List.map_set]; first | done | rfl)))); done)⟩) | (guard_target = Gh _ _ _ _ _; refine Gh.go ⟨((R, y + 1) : List Int × Nat), (by exact ⟨by show y + 1 ≤ N; omega, by show R = _; rw [selR_no (by rw [hsy (by omega)]; exact decide_eq_false (by omega)), ← ha.2]⟩), (by first | (show _ < _; simp only []; omega) | omega | (simp; omega)), (by (repeat' ((conv => whnf) <;> (first | exact trivial | refine ⟨?_, ?_⟩ | kernel_rfl))); done), (by (repeat' ((conv => whnf) <;> (first | exact trivial | refine ⟨?_, ?_⟩ | kernel_rfl))); done), (by (repeat' ((conv => whnf) <;> (first | exact trivial | refine ⟨?_, ?_⟩ | exact rfl | (simp only [List.map_append, List.map_cons, List.map_nil, List.map_set]; first | done | rfl)))); done)⟩) | (guard_target = Fact _ _; refine Fact.mk fun hL => ?_; (try simp only [List.length_map, maxLen] at hL)) | (guard_target = Branch _ _ _; (first | refine Branch.dec ?_ ?_ | refine Branch.beq ?_ ?_ | refine Branch.bne ?_ ?_ | refine Branch.ndec ?_ ?_ | refine Branch.nb ?_ ?_ | refine Branch.mk ?_ ?_) <;> intro h <;> (try simp only [List.length_map] at h) <;> (try omega) <;> (try contradiction)) | (guard_target = CallN _ 95 _ _ _ _; refine CallN.pure _ _ rfl (hat) rfl _ rfl ?_) | (guard_target = CallN _ 38 _ _ _ _; refine CallN.gen [false, false, false, true] _ _ _ rfl (hA y (by omega)) rfl rfl _ rfl ?_) | (guard_target = CallN _ 96 _ _ _ _; refine CallN.gen [] _ _ _ rfl (hP (imgR N (ldR N l p) (oneP y))) rfl rfl _ rfl ?_) | (guard_target = Arith _ _ _; refine Arith.fit (wrap_fit (by first | omega | (simp only [List.length_map]; omega)) (by first | omega | (simp only [List.length_map]; omega))) ?_) | (guard_target = Arith _ _ _; refine Arith.fit (by decide) ?_) | (guard_target = Index _ _ _; first  | refine Index.mk _ (idx_map (by omega)) ?_) | (guard_target = Need (_ = true) _; refine Need.mk (by first | kernel_rfl | rfl) ?_) | (guard_target = LinkV _ _ _; first  | refine LinkV.no ?_) | (guard_target = GhO _ _ _ _; refine GhO.go ?_) | (guard_target = Need _ _; refine Need.mk (by first | ((simp only [List.length_map, List.length_cons, List.length_nil, maxLen]; constructor <;> omega)) | omega | (simp only [List.length_map]; omega)) ?_))
  all_goals first | rfl | trivial | (rw [ha.2, show y = N by omega]; done)
theorem l07Holds_ok (x : XTriple) (h1 : okC t a x.pre) (h2 : POk t a x.prog) (h3 : okC t a x.post) : CallF Tryz.prog 53 [.a 2 [J t, J a], .c (.ro 7 (l.map encPremise)), .c (.rp 12 (encTriple x))] (B (holdsT N l x)) := by
  rw [← holds_same]
  have hA := l07From_ok t a ht l hl N hN x.prog h2 (trP x.pre)
  have hP := parted_set t a ht N hN x.post h3 (imgR N (ldR N l x.prog) (trP x.pre))
  have hT := l07Atoms_ok t a ht N hN x.pre h1
  rw [encProg_eq] at hA
  rw [encExpr_eq] at hP hT
  have hA' : CallX Tryz.prog 38 [.a 2 [J t, J a], .c (.ro 7 (l.map encPremise)), .c (.rp 9 ((encTriple x).drop 3)), eS N (trP x.pre)] [] (eS N (imgR N (ldR N l x.prog) (trP x.pre))) := hA.cut (.same (.same (.cut (k := 6) (by omega) (.same .nil))))
  have hT' : CallX Tryz.prog 39 [.a 2 [J t, J a], .c (.rp 12 (encTriple x))] [] (eS N (trP x.pre)) := hT.cut (.same (.cut (k := 3) (by omega) .nil))
  unfold holdsS
  refine callF_of_vc htb hm Tryz.func53 rfl rfl rfl rfl (ann := fun _ => none) (gh := fun _ => false) ?_
  repeat' ((conv => whnf); first | (guard_target = Done _; refine Done.mk ?_; first | ((rw [List.length_map, nat_zero]; rfl); done) | skip) | (guard_target = RetX _ _; refine RetX.mk ?_ ?_) | (guard_target = Fact _ _; refine Fact.mk fun hL => ?_; (try simp only [List.length_map, maxLen] at hL)) | (guard_target = Branch _ _ _; (first | refine Branch.dec ?_ ?_ | refine Branch.beq ?_ ?_ | refine Branch.bne ?_ ?_ | refine Branch.ndec ?_ ?_ | refine Branch.nb ?_ ?_ | refine Branch.mk ?_ ?_) <;> intro h <;> (try simp only [List.length_map] at h) <;> (try omega) <;> (try contradiction)) | (guard_target = CallN _ 38 _ _ _ _; refine CallN.gen [] _ _ _ rfl (hA') rfl rfl _ rfl ?_) | (guard_target = CallN _ 96 _ _ _ _; refine CallN.gen [] _ _ _ rfl (hP) rfl rfl _ rfl ?_) | (guard_target = CallN _ 39 _ _ _ _; refine CallN.gen [] _ _ _ rfl (hT') rfl rfl _ rfl ?_) | (guard_target = Arith _ _ _; refine Arith.fit (wrap_fit (by first | omega | (simp only [List.length_map]; omega)) (by first | omega | (simp only [List.length_map]; omega))) ?_) | (guard_target = Arith _ _ _; refine Arith.fit (by decide) ?_) | (guard_target = Index _ _ _; first  | refine Index.mk _ (idx_map (by omega)) ?_) | (guard_target = Need (_ = true) _; refine Need.mk (by first | kernel_rfl | rfl) ?_) | (guard_target = LinkV _ _ _; first  | refine LinkV.no ?_) | (guard_target = GhO _ _ _ _; refine GhO.go ?_) | (guard_target = Need _ _; refine Need.mk (by first  | omega | (simp only [List.length_map]; omega)) ?_))
  all_goals first | rfl | trivial
end
end Go.Proofs.YtlfigjkddnncgaaGreat

namespace Go.Proofs.YtlfigjkddnncgaaGreat
open Go Go.KA Go.Proofs
set_option maxHeartbeats 16000000
set_option maxRecDepth 100000
abbrev ownT (x : XExpr) : List CV := [J x.kind, J x.num, .own 29 3 (x.kids.map ownExpr)]
theorem own_next {l : List XExpr} {i : Nat} {rows : List (List CV)} (hi : i < l.length) (h : rows = (l.take i).map ownExpr) : rows ++ [ownT l[i]] = (l.take (i + 1)).map ownExpr := by
  rw [take_map_next hi, h, ownExpr_eq]
theorem l01Own_all (x : XExpr) (hl : x.kids.length ≤ 1048576) (hx : ∀ k ∈ x.kids, CallX Tryz.prog 102 [.c (.rp 3 (encExpr k))] [] (.a 3 (ownT k))) : CallX Tryz.prog 102 [.c (.rp 3 (toldE x))] [] (.a 3 (ownT x)) := by
  refine callX_of_vc htb hm Tryz.func102 rfl rfl rfl rfl (ann := fun _ => none) (gh := fun _ => false) ?_
  repeat' ((conv => whnf); first | (guard_target = Done _; refine Done.mk ?_) | (guard_target = RetX _ _; refine RetX.mk ?_ ?_) | (guard_target =~ LoopE 3 _ _ _ _ _ _; refine LoopE.mk { α := Nat × List (List CV), keep := [0, 2, 3], ov := fun ⟨i, rows⟩ => [(4, I (i : Nat))], hv := fun ⟨i, rows⟩ => [(4, .cells [.c (J x.kind), .c (J x.num), .lw 2]), (2, .orow none 29 3 rows)], φ := fun ⟨i, rows⟩ => i ≤ x.kids.length ∧ rows = (x.kids.take i).map ownExpr, μ := fun ⟨i, rows⟩ => x.kids.length - i } (LoopN.mk ((0, []) : Nat × List (List CV)) (by exact ⟨Nat.zero_le _, rfl⟩) (by (repeat' ((conv => whnf) <;> (first | exact trivial | refine ⟨?_, ?_⟩ | kernel_rfl))); done) (by (repeat' ((conv => whnf) <;> (first | exact trivial | refine ⟨?_, ?_⟩ | kernel_rfl))); done) (by (repeat' ((conv => whnf) <;> (first | exact trivial | refine ⟨?_, ?_⟩ | exact rfl | (simp only [List.map_append, List.map_cons, List.map_nil, List.map_set]; first | done | rfl)))); done) (fun A ha => ?_) (by intro A; first | rfl | (obtain ⟨_, _⟩ := A; rfl) | (obtain ⟨_, _, _⟩ := A; rfl))); obtain ⟨i, rows⟩ := A; have ha : i ≤ x.kids.length ∧ rows = (x.kids.take i).map ownExpr := ha; have hrl : rows.length = i := (by rw [ha.2, List.length_map, List.length_take]; omega)) | (guard_target = Gh _ _ _ _ _; refine Gh.go ⟨((i + 1, rows ++ [ownT x.kids[i]]) : Nat × List (List CV)), (by exact ⟨by show i + 1 ≤ _; omega, own_next (by omega) ha.2⟩), (by first | (show _ < _; simp only []; omega) | omega | (simp; omega)), (by (repeat' ((conv => whnf) <;> (first | exact trivial | refine ⟨?_, ?_⟩ | kernel_rfl))); done), (by (repeat' ((conv => whnf) <;> (first | exact trivial | refine ⟨?_, ?_⟩ | kernel_rfl))); done), (by (repeat' ((conv => whnf) <;> (first | exact trivial | refine ⟨?_, ?_⟩ | exact rfl | (simp only [List.map_append, List.map_cons, List.map_nil, List.map_set]; first | done | rfl)))); done)⟩) | (guard_target = Fact _ _; refine Fact.mk fun hL => ?_; (try simp only [List.length_map, maxLen] at hL)) | (guard_target = Branch _ _ _; (first | refine Branch.dec ?_ ?_ | refine Branch.beq ?_ ?_ | refine Branch.bne ?_ ?_ | refine Branch.ndec ?_ ?_ | refine Branch.nb ?_ ?_ | refine Branch.mk ?_ ?_) <;> intro h <;> (try simp only [List.length_map] at h) <;> (try omega) <;> (try contradiction)) | (guard_target = CallN _ 102 _ _ _ _; refine CallN.gen [] _ _ _ rfl (hx _ (List.getElem_mem (by omega))) rfl rfl _ rfl ?_) | (guard_target = Arith _ _ _; refine Arith.fit (wrap_fit (by first | omega | (simp only [List.length_map]; omega)) (by first | omega | (simp only [List.length_map]; omega))) ?_) | (guard_target = Arith _ _ _; refine Arith.fit (by decide) ?_) | (guard_target = Index _ _ _; first | refine Index.mk _ (idx_map (i := i) (by omega)) ?_ | refine Index.mk _ (idx_map (by omega)) ?_) | (guard_target = Need (_ = true) _; refine Need.mk (by first | kernel_rfl | rfl) ?_) | (guard_target = LinkV _ _ _; first  | refine LinkV.no ?_) | (guard_target = GhO _ _ _ _; refine GhO.go ?_) | (guard_target = Need _ _; refine Need.mk (by first | ((simp only [List.length_cons, List.length_nil, maxLen]; constructor <;> omega)) | omega | (simp only [List.length_map]; omega)) ?_))
  all_goals first | rfl | trivial | (have h9 := ha.2; rw [List.take_of_length_le (by omega)] at h9; rw [h9]; rfl)
theorem l01Own_ok (x : XExpr) (hb : budExpr x ≤ 1048576) : CallX Tryz.prog 102 [.c (.rp 3 (encExpr x))] [] (.a 3 (ownT x)) := by
  rw [encExpr_eq]
  have h1 : budS budExpr x.kids ≤ budExpr x := by
    cases x
    simp only [budExpr, budExprS_eq, XExpr.kids]
    exact Nat.le_refl _
  exact l01Own_all x (by have := budS_len budExpr x.kids; omega) fun k _hk => l01Own_ok k (by have := budS_mem budExpr _hk; omega)
  termination_by SizeOf.sizeOf x
  decreasing_by
    have := List.sizeOf_lt_of_mem _hk
    cases x
    simp only [XExpr.mk.sizeOf_spec]
    show SizeOf.sizeOf k < _
    simp only [XExpr.kids] at this
    omega
end Go.Proofs.YtlfigjkddnncgaaGreat

namespace Go.Proofs.YtlfigjkddnncgaaGreat
open Go Go.KA Go.Proofs
set_option maxHeartbeats 16000000
set_option maxRecDepth 100000
theorem ownT_ro (x : XExpr) : roL (ownT x) = encExpr x := by
  have := roExpr x
  rwa [ownExpr_eq] at this
theorem own_soft (x : XExpr) : SoftT (.a 3 (ownT x)) (.a 3 (encExpr x)) := by
  rw [← ownT_ro]
  exact .v (.a (SoftN.roL _))
theorem l01Own_ro (x : XExpr) (hb : budExpr x ≤ 1048576) : CallX Tryz.prog 102 [.c (.rp 3 (encExpr x))] [] (.a 3 (encExpr x)) := (l01Own_ok x hb).soft (own_soft x)
theorem enc_mk (k n : Int) (ks : List XExpr) : encExpr (.mk k n ks) = [J k, J n, .ro 3 (ks.map encExpr)] := encExpr_eq _
abbrev leafE (k n : Int) : XExpr := .mk k n []
abbrev notE (c : XExpr) : XExpr := .mk 5 0 [c]
abbrev pairE (k : Int) (a b : XExpr) : XExpr := .mk k 0 [a, b]
theorem l02Zero_ok : CallX Tryz.prog 92 [] [] (.a 3 (encExpr (leafE 1 0))) := by
  have h : CallX Tryz.prog 92 [] [] (.a 3 [J 1, J 0, .ows 29 3 []]) := by
    refine callX_of_vc htb hm Tryz.func92 rfl rfl rfl rfl (ann := fun _ => none) (gh := fun _ => false) ?_
    repeat' ((conv => whnf); first | (guard_target = Done _; refine Done.mk ?_) | (guard_target = RetX _ _; refine RetX.mk ?_ ?_) | (guard_target = Fact _ _; refine Fact.mk fun hL => ?_; (try simp only [List.length_map, maxLen] at hL)) | (guard_target = Branch _ _ _; (first | refine Branch.dec ?_ ?_ | refine Branch.beq ?_ ?_ | refine Branch.bne ?_ ?_ | refine Branch.ndec ?_ ?_ | refine Branch.nb ?_ ?_ | refine Branch.mk ?_ ?_) <;> intro h <;> (try simp only [List.length_map] at h) <;> (try omega) <;> (try contradiction)) | (guard_target = Arith _ _ _; refine Arith.fit (wrap_fit (by first | omega | (simp only [List.length_map]; omega)) (by first | omega | (simp only [List.length_map]; omega))) ?_) | (guard_target = Arith _ _ _; refine Arith.fit (by decide) ?_) | (guard_target = Index _ _ _; first  | refine Index.mk _ (idx_map (by omega)) ?_) | (guard_target = Need (_ = true) _; refine Need.mk (by first | kernel_rfl | rfl) ?_) | (guard_target = LinkV _ _ _; first  | refine LinkV.no ?_) | (guard_target = GhO _ _ _ _; refine GhO.go ?_) | (guard_target = Need _ _; refine Need.mk (by first  | omega | (simp only [List.length_map]; omega)) ?_))
    all_goals first | rfl | trivial
  rw [enc_mk]
  exact h.soft (.v (.a (.same (.same (.ro .nil)))))
theorem l02One_ok : CallX Tryz.prog 43 [] [] (.a 3 (encExpr (leafE 2 0))) := by
  have h : CallX Tryz.prog 43 [] [] (.a 3 [J 2, J 0, .ows 29 3 []]) := by
    refine callX_of_vc htb hm Tryz.func43 rfl rfl rfl rfl (ann := fun _ => none) (gh := fun _ => false) ?_
    repeat' ((conv => whnf); first | (guard_target = Done _; refine Done.mk ?_) | (guard_target = RetX _ _; refine RetX.mk ?_ ?_) | (guard_target = Fact _ _; refine Fact.mk fun hL => ?_; (try simp only [List.length_map, maxLen] at hL)) | (guard_target = Branch _ _ _; (first | refine Branch.dec ?_ ?_ | refine Branch.beq ?_ ?_ | refine Branch.bne ?_ ?_ | refine Branch.ndec ?_ ?_ | refine Branch.nb ?_ ?_ | refine Branch.mk ?_ ?_) <;> intro h <;> (try simp only [List.length_map] at h) <;> (try omega) <;> (try contradiction)) | (guard_target = Arith _ _ _; refine Arith.fit (wrap_fit (by first | omega | (simp only [List.length_map]; omega)) (by first | omega | (simp only [List.length_map]; omega))) ?_) | (guard_target = Arith _ _ _; refine Arith.fit (by decide) ?_) | (guard_target = Index _ _ _; first  | refine Index.mk _ (idx_map (by omega)) ?_) | (guard_target = Need (_ = true) _; refine Need.mk (by first | kernel_rfl | rfl) ?_) | (guard_target = LinkV _ _ _; first  | refine LinkV.no ?_) | (guard_target = GhO _ _ _ _; refine GhO.go ?_) | (guard_target = Need _ _; refine Need.mk (by first  | omega | (simp only [List.length_map]; omega)) ?_))
    all_goals first | rfl | trivial
  rw [enc_mk]
  exact h.soft (.v (.a (.same (.same (.ro .nil)))))
theorem l02Pair_ok (k : Int) (a b : XExpr) : CallX Tryz.prog 93 [I k, .a 3 (encExpr a), .a 3 (encExpr b)] [] (.a 3 (encExpr (pairE k a b))) := by
  have h : CallX Tryz.prog 93 [I k, .a 3 (encExpr a), .a 3 (encExpr b)] [] (.a 3 [J k, J 0, .ows 29 3 [encExpr a, encExpr b]]) := by
    cases a
    cases b
    refine callX_of_vc htb hm Tryz.func93 rfl rfl rfl rfl (ann := fun _ => none) (gh := fun _ => false) ?_
    repeat' ((conv => whnf); first | (guard_target = Done _; refine Done.mk ?_) | (guard_target = RetX _ _; refine RetX.mk ?_ ?_) | (guard_target = Fact _ _; refine Fact.mk fun hL => ?_; (try simp only [List.length_map, maxLen] at hL)) | (guard_target = Branch _ _ _; (first | refine Branch.dec ?_ ?_ | refine Branch.beq ?_ ?_ | refine Branch.bne ?_ ?_ | refine Branch.ndec ?_ ?_ | refine Branch.nb ?_ ?_ | refine Branch.mk ?_ ?_) <;> intro h <;> (try simp only [List.length_map] at h) <;> (try omega) <;> (try contradiction)) | (guard_target = Arith _ _ _; refine Arith.fit (wrap_fit (by first | omega | (simp only [List.length_map]; omega)) (by first | omega | (simp only [List.length_map]; omega))) ?_) | (guard_target = Arith _ _ _; refine Arith.fit (by decide) ?_) | (guard_target = Index _ _ _; first  | refine Index.mk _ (idx_map (by omega)) ?_) | (guard_target = Need (_ = true) _; refine Need.mk (by first | kernel_rfl | rfl) ?_) | (guard_target = LinkV _ _ _; first  | refine LinkV.no ?_) | (guard_target = GhO _ _ _ _; refine GhO.go ?_) | (guard_target = Need _ _; refine Need.mk (by first  | omega | (simp only [List.length_map]; omega)) ?_))
    all_goals first | rfl | trivial
  rw [enc_mk]
  exact h.soft (.v (.a (.same (.same (.ro .nil)))))
theorem l06Not_ok (c : XExpr) (hb : budExpr c ≤ 1048576) : CallX Tryz.prog 103 [.a 3 (encExpr c)] [] (.a 3 (encExpr (notE c))) := by
  have h : CallX Tryz.prog 103 [.a 3 (encExpr c)] [] (.a 3 [J 5, J 0, .ows 29 3 [encExpr c]]) := by
    cases c
    refine callX_of_vc htb hm Tryz.func103 rfl rfl rfl rfl (ann := fun _ => none) (gh := fun reg_ => match reg_ with | 1 => true | _ => false) ?_
    repeat' ((conv => whnf); first | (guard_target = Done _; refine Done.mk ?_) | (guard_target = RetX _ _; refine RetX.mk ?_ ?_) | (guard_target = Fact _ _; refine Fact.mk fun hL => ?_; (try simp only [List.length_map, maxLen] at hL)) | (guard_target = Branch _ _ _; (first | refine Branch.dec ?_ ?_ | refine Branch.beq ?_ ?_ | refine Branch.bne ?_ ?_ | refine Branch.ndec ?_ ?_ | refine Branch.nb ?_ ?_ | refine Branch.mk ?_ ?_) <;> intro h <;> (try simp only [List.length_map] at h) <;> (try omega) <;> (try contradiction)) | (guard_target = CallN _ 102 _ _ _ _; refine CallN.gen [] _ _ _ rfl (l01Own_ro _ hb) rfl rfl _ rfl ?_) | (guard_target = Gh _ _ _ _ _; refine Gh.frzp 0 _ rfl (Gh.go ?_)) | (guard_target = Arith _ _ _; refine Arith.fit (wrap_fit (by first | omega | (simp only [List.length_map]; omega)) (by first | omega | (simp only [List.length_map]; omega))) ?_) | (guard_target = Arith _ _ _; refine Arith.fit (by decide) ?_) | (guard_target = Index _ _ _; first  | refine Index.mk _ (idx_map (by omega)) ?_) | (guard_target = Need (_ = true) _; refine Need.mk (by first | kernel_rfl | rfl) ?_) | (guard_target = LinkV _ _ _; first  | refine LinkV.no ?_) | (guard_target = GhO _ _ _ _; refine GhO.go ?_) | (guard_target = Need _ _; refine Need.mk (by first  | omega | (simp only [List.length_map]; omega)) ?_))
    all_goals first | rfl | trivial
  rw [enc_mk]
  exact h.soft (.v (.a (.same (.same (.ro .nil)))))
def withE (b : Bool) (c w : XExpr) : XExpr := pairE 7 (if b then notE c else c) w
end Go.Proofs.YtlfigjkddnncgaaGreat
