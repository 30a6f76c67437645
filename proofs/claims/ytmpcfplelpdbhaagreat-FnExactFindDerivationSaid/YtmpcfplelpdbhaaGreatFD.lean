/- Contracts: the reference's weakest condition, as atoms; whether a triple holds (the reference's), which is what the program finds. No conditions but that programs and conditions are valid. -/
import Derived.Test.YtmpcfplelpdbhaaGreatFC
import Derived.Test.YtmpcfplelpdbhaaGreatGV
namespace Go.Proofs.YtmpcfplelpdbhaaGreat
open Go Go.KA Go.Proofs
set_option maxHeartbeats 16000000
set_option maxRecDepth 100000
def oneP (x : Nat) : Nat → Bool := fun y => y == x
theorem selR_one {N x : Nat} (h : x < N) : selR N (oneP x) = [(x : Int)] := by
  have : putL (selR N fun _ => false) x = [(x : Int)] := by
    have e : selR N (fun _ => false) = [] := by simp [selR]
    rw [e]; rfl
  rw [put_sel _ h] at this
  rw [← this]
  exact selR_congr fun y _ => by simp [addP, oneP]
theorem img_one {N x : Nat} {R : Rel} (h : x < N) (y : Nat) : imgR N R (oneP x) y = R x y := by
  refine bool_ext ?_
  rw [imgR_iff]
  constructor
  · rintro ⟨z, _, h1, h2⟩
    have : z = x := by simpa [oneP] using h1
    subst this; exact h2
  · intro h2; exact ⟨x, h, by simp [oneP], h2⟩
theorem sel_empty {N : Nat} {P : Nat → Bool} : (selR N P).length = 0 ↔ ∀ y, y < N → P y = false := by
  rw [List.length_eq_zero_iff]
  constructor
  · intro h y hy
    cases hp : P y with
    | false => rfl
    | true =>
      have : (y : Int) ∈ selR N P := selR_mem.2 ⟨y, hy, hp, rfl⟩
      rw [h] at this; cases this
  · intro h
    rw [selR_congr (q := fun _ => false) h]
    simp [selR]
theorem sure_iff {N x : Nat} {R : Rel} {c : XExpr} (hx : x < N) : sureP N R c x = decide ((selR N (andP (imgR N R (oneP x)) (notP (trP c)))).length = 0) := by
  refine bool_ext ?_
  rw [decide_eq_true_eq, sel_empty]
  unfold sureP
  rw [List.all_eq_true]
  simp only [List.mem_range, andP, notP, trP]
  constructor
  · intro h y hy
    have := h y hy
    rw [img_one hx]
    cases hr : R x y <;> simp_all
  · intro h y hy
    have := h y hy
    rw [img_one hx] at this
    cases hr : R x y <;> simp_all
theorem nat_zero (n : Nat) : ((n : Int) == 0) = decide (n = 0) := by
  refine bool_ext ?_
  rw [beq_iff_eq, decide_eq_true_eq]
  omega
def holdsS (N : Nat) (l : List XPremise) (x : XTriple) : Bool := decide ((selR N (andP (imgR N (ldR N l x.prog) (trP x.pre)) (notP (trP x.post)))).length = 0)
theorem holds_same (N : Nat) (l : List XPremise) (x : XTriple) : holdsS N l x = holdsT N l x := by
  unfold holdsS holdsT
  refine bool_ext ?_
  rw [decide_eq_true_eq, sel_empty, List.all_eq_true]
  simp only [andP, notP, trP]
  constructor
  · intro h z hz
    obtain ⟨i, hi, h1, rfl⟩ := selR_mem.1 hz
    rw [mem_sel hi]
    unfold sureP
    rw [List.all_eq_true]
    intro y hy
    have hy := List.mem_range.1 hy
    have h2 := h y hy
    cases hr : ldR N l x.prog i y with
    | false => rfl
    | true =>
      have h3 : imgR N (ldR N l x.prog) (fun x_1 => truthE x.pre x_1) y = true := imgR_iff.2 ⟨i, hi, h1, hr⟩
      unfold trP at h2
      rw [h3] at h2
      simpa using h2
  · intro h y hy
    cases hi : imgR N (ldR N l x.prog) (trP x.pre) y with
    | false => rfl
    | true =>
      obtain ⟨i, hi, h1, h2⟩ := imgR_iff.1 hi
      have h3 := h i (selR_mem.2 ⟨i, hi, h1, rfl⟩)
      rw [mem_sel hi] at h3
      unfold sureP at h3
      rw [List.all_eq_true] at h3
      have h4 := h3 y (List.mem_range.2 hy)
      rw [h2] at h4
      simpa using h4
section
variable (t a : Int) (ht : 0 ≤ t ∧ t ≤ 3) (l : List XPremise) (hl : PremOk t a l) (N : Nat) (hN : atomsN t = N ∧ 1 ≤ N ∧ N ≤ 8)
include ht hN
theorem parted_set (c : XExpr) (hc : okC t a c) (B : Nat → Bool) : CallX Tryz.prog 89 [.c (.rp 3 (encExpr c)), eS N B] [] (.tup [eS N (andP B (trP c)), eS N (andP B (notP (trP c)))]) := by
  have h1 := l07Parted_ok t a ht c hc (selR N B) (by have := selR_len N B; omega)
  rwa [sel_part, sel_part2] at h1
include hl
theorem from_one (p : XProg) (hp : POk t a p) (x : Nat) (hx : x < N) : CallX Tryz.prog 90 [.a 2 [J t, J a], .c (.ro 7 (l.map encPremise)), .c (.rp 6 (encProg p)), .c (.ows 2 1 [eI x])] [] (eS N (imgR N (ldR N l p) (oneP x))) := by
  have h := l07From_ok t a ht l hl N hN p hp (oneP x)
  have h' : CallX Tryz.prog 90 [.a 2 [J t, J a], .c (.ro 7 (l.map encPremise)), .c (.rp 6 (encProg p)), .c (.ro 1 [eI x])] [] (eS N (imgR N (ldR N l p) (oneP x))) := by
    have e : eS N (oneP x) = .c (.ro 1 [eI x]) := by
      show SV.c (CV.ro 1 ((selR N (oneP x)).map eI)) = _
      rw [selR_one hx]; rfl
    rwa [e] at h
  exact h'.give (.same (.same (.same (.c .nil))))
theorem l07Sure_ok (p : XProg) (hp : POk t a p) (c : XExpr) (hc : okC t a c) : CallX Tryz.prog 160 [.a 2 [J t, J a], .c (.ro 7 (l.map encPremise)), .c (.rp 6 (encProg p)), .c (.rp 3 (encExpr c))] [] (eS N (sureP N (ldR N l p) c)) := by
  have hat := l01Atoms_ok t a ht
  rw [hN.1] at hat
  have hsl := fun i => selR_len i (sureP N (ldR N l p) c)
  have hA := from_one t a ht l hl N hN p hp
  have hP := parted_set t a ht N hN c hc
  have hsu := fun x (hx : x < N) => sure_iff (R := ldR N l p) (c := c) hx
  have h : CallX Tryz.prog 160 [.a 2 [J t, J a], .c (.ro 7 (l.map encPremise)), .c (.rp 6 (encProg p)), .c (.rp 3 (encExpr c))] [] (.c (.ows 2 1 ((selR N (sureP N (ldR N l p) c)).map eI))) := by
    refine callX_of_vc htb hm Tryz.func160 rfl rfl rfl rfl (ann := fun _ => none) (gh := fun _ => false) ?_
    repeat' ((conv => whnf); first | (guard_target = Done _; refine Done.mk ?_) | (guard_target = RetX _ _; refine RetX.mk ?_ ?_) | (guard_target =~ LoopE 3 _ _ _ _ _ _; refine LoopE.mk { α := List Int × Nat, keep := [1, 2, 3, 4], ov := fun ⟨R, y⟩ => [(9, .lw 2), (10, I (y : Nat))], hv := fun ⟨R, y⟩ => [(2, .row none 2 1 (R.map eI))], φ := fun ⟨R, y⟩ => y ≤ N ∧ R = selR y (sureP N (ldR N l p) c), μ := fun ⟨R, y⟩ => N - y } (LoopN.mk (([], 0) : List Int × Nat) (by exact ⟨Nat.zero_le _, rfl⟩) (by (repeat' ((conv => whnf) <;> (first | exact trivial | refine ⟨?_, ?_⟩ | kernel_rfl))); done) (by (repeat' ((conv => whnf) <;> (first | exact trivial | refine ⟨?_, ?_⟩ | kernel_rfl))); done) (by (repeat' ((conv => whnf) <;> (first | exact trivial | refine ⟨?_, ?_⟩ | exact rfl | (simp only [List.map_append, List.map_cons, List.map_nil, List.map_set]; first | done | rfl)))); done) (fun A ha => ?_) (by intro A; first | rfl | (obtain ⟨_, _⟩ := A; rfl) | (obtain ⟨_, _, _⟩ := A; rfl))); obtain ⟨R, y⟩ := A; have ha : y ≤ N ∧ R = selR y (sureP N (ldR N l p) c) := ha; have hsx := hsl y; rw [← ha.2] at hsx; have hsy := hsu y) | (guard_target = Gh _ _ _ _ _; refine Gh.go ⟨((R ++ [(y : Int)], y + 1) : List Int × Nat), (by exact ⟨by show y + 1 ≤ N; omega, by show R ++ _ = _; rw [selR_yes (by rw [hsy (by omega)]; exact decide_eq_true (by omega)), ← ha.2]⟩), (by first | (show _ < _; simp only []; omega) | omega | (simp; omega)), (by (repeat' ((conv => whnf) <;> (first | exact trivial | refine ⟨?_, ?_⟩ | kernel_rfl))); done), (by (repeat' ((conv => whnf) <;> (first | exact trivial | refine ⟨?_, ?_⟩ | kernel_rfl))); done), (by (repeat' ((conv => whnf) <;> (first | exact trivial | refine ⟨?_, ?_⟩ | exact rfl | (simp only [List.map_append, List.map_cons, List.map_nil]; first | done | rfl)))); done)⟩) | (guard_target = Gh _ _ _ _ _; refine Gh.go ⟨((R, y + 1) : List Int × Nat), (by exact ⟨by show y + 1 ≤ N; omega, by show R = _; rw [selR_no (by rw [hsy (by omega)]; exact decide_eq_false (by omega)), ← ha.2]⟩), (by first | (show _ < _; simp only []; omega) | omega | (simp; omega)), (by (repeat' ((conv => whnf) <;> (first | exact trivial | refine ⟨?_, ?_⟩ | kernel_rfl))); done), (by (repeat' ((conv => whnf) <;> (first | exact trivial | refine ⟨?_, ?_⟩ | kernel_rfl))); done), (by (repeat' ((conv => whnf) <;> (first | exact trivial | refine ⟨?_, ?_⟩ | exact rfl | (simp only [List.map_append, List.map_cons, List.map_nil, List.map_set]; first | done | rfl)))); done)⟩) | (guard_target = Fact _ _; refine Fact.mk fun hL => ?_; (try simp only [List.length_map, maxLen] at hL)) | (guard_target = Branch _ _ _; (first | refine Branch.dec ?_ ?_ | refine Branch.beq ?_ ?_ | refine Branch.bne ?_ ?_ | refine Branch.ndec ?_ ?_ | refine Branch.nb ?_ ?_ | refine Branch.mk ?_ ?_) <;> intro h <;> (try simp only [List.length_map] at h) <;> (try omega) <;> (try contradiction)) | (guard_target = CallN _ 158 _ _ _ _; refine CallN.pure _ _ rfl (hat) rfl _ rfl ?_) | (guard_target = CallN _ 90 _ _ _ _; refine CallN.gen [false, false, false, true] _ _ _ rfl (hA y (by omega)) rfl rfl _ rfl ?_) | (guard_target = CallN _ 89 _ _ _ _; refine CallN.gen [] _ _ _ rfl (hP (imgR N (ldR N l p) (oneP y))) rfl rfl _ rfl ?_) | (guard_target = Arith _ _ _; refine Arith.fit (wrap_fit (by first | omega | (simp only [List.length_map]; omega)) (by first | omega | (simp only [List.length_map]; omega))) ?_) | (guard_target = Arith _ _ _; refine Arith.fit (by decide) ?_) | (guard_target = Index _ _ _; first  | refine Index.mk _ (idx_map (by omega)) ?_) | (guard_target = Need (_ = true) _; refine Need.mk (by first | kernel_rfl | rfl) ?_) | (guard_target = LinkV _ _ _; first  | refine LinkV.no ?_) | (guard_target = GhO _ _ _ _; refine GhO.go ?_) | (guard_target = Need _ _; refine Need.mk (by first | ((simp only [List.length_map, List.length_cons, List.length_nil, maxLen]; constructor <;> omega)) | omega | (simp only [List.length_map]; omega)) ?_))
    all_goals first | rfl | trivial | (rw [ha.2, show y = N by omega]; done)
  exact h.soft (soft_ints _)
theorem l07Holds_ok (x : XTriple) (h1 : okC t a x.pre) (h2 : POk t a x.prog) (h3 : okC t a x.post) : CallF Tryz.prog 33 [.a 2 [J t, J a], .c (.ro 7 (l.map encPremise)), .c (.rp 12 (encTriple x))] (B (holdsT N l x)) := by
  rw [← holds_same]
  have hA := l07From_ok t a ht l hl N hN x.prog h2 (trP x.pre)
  have hP := parted_set t a ht N hN x.post h3 (imgR N (ldR N l x.prog) (trP x.pre))
  have hT := l07Atoms_ok t a ht N hN x.pre h1
  rw [encProg_eq] at hA
  rw [encExpr_eq] at hP hT
  have hA' : CallX Tryz.prog 90 [.a 2 [J t, J a], .c (.ro 7 (l.map encPremise)), .c (.rp 9 ((encTriple x).drop 3)), eS N (trP x.pre)] [] (eS N (imgR N (ldR N l x.prog) (trP x.pre))) := hA.cut (.same (.same (.cut (k := 6) (by omega) (.same .nil))))
  have hT' : CallX Tryz.prog 91 [.a 2 [J t, J a], .c (.rp 12 (encTriple x))] [] (eS N (trP x.pre)) := hT.cut (.same (.cut (k := 3) (by omega) .nil))
  unfold holdsS
  refine callF_of_vc htb hm Tryz.func33 rfl rfl rfl rfl (ann := fun _ => none) (gh := fun _ => false) ?_
  repeat' ((conv => whnf); first | (guard_target = Done _; refine Done.mk ?_; first | ((rw [List.length_map, nat_zero]; rfl); done) | skip) | (guard_target = RetX _ _; refine RetX.mk ?_ ?_) | (guard_target = Fact _ _; refine Fact.mk fun hL => ?_; (try simp only [List.length_map, maxLen] at hL)) | (guard_target = Branch _ _ _; (first | refine Branch.dec ?_ ?_ | refine Branch.beq ?_ ?_ | refine Branch.bne ?_ ?_ | refine Branch.ndec ?_ ?_ | refine Branch.nb ?_ ?_ | refine Branch.mk ?_ ?_) <;> intro h <;> (try simp only [List.length_map] at h) <;> (try omega) <;> (try contradiction)) | (guard_target = CallN _ 90 _ _ _ _; refine CallN.gen [] _ _ _ rfl (hA') rfl rfl _ rfl ?_) | (guard_target = CallN _ 89 _ _ _ _; refine CallN.gen [] _ _ _ rfl (hP) rfl rfl _ rfl ?_) | (guard_target = CallN _ 91 _ _ _ _; refine CallN.gen [] _ _ _ rfl (hT') rfl rfl _ rfl ?_) | (guard_target = Arith _ _ _; refine Arith.fit (wrap_fit (by first | omega | (simp only [List.length_map]; omega)) (by first | omega | (simp only [List.length_map]; omega))) ?_) | (guard_target = Arith _ _ _; refine Arith.fit (by decide) ?_) | (guard_target = Index _ _ _; first  | refine Index.mk _ (idx_map (by omega)) ?_) | (guard_target = Need (_ = true) _; refine Need.mk (by first | kernel_rfl | rfl) ?_) | (guard_target = LinkV _ _ _; first  | refine LinkV.no ?_) | (guard_target = GhO _ _ _ _; refine GhO.go ?_) | (guard_target = Need _ _; refine Need.mk (by first  | omega | (simp only [List.length_map]; omega)) ?_))
  all_goals first | rfl | trivial
end
end Go.Proofs.YtmpcfplelpdbhaaGreat

namespace Go.Proofs.YtmpcfplelpdbhaaGreat
open Go Go.KA Go.Proofs
set_option maxHeartbeats 16000000
set_option maxRecDepth 100000
abbrev ownT (x : XExpr) : List CV := [J x.kind, J x.num, .own 37 3 (x.kids.map ownExpr)]
theorem own_next {l : List XExpr} {i : Nat} {rows : List (List CV)} (hi : i < l.length) (h : rows = (l.take i).map ownExpr) : rows ++ [ownT l[i]] = (l.take (i + 1)).map ownExpr := by
  rw [take_map_next hi, h, ownExpr_eq]
theorem copyExpr_all (x : XExpr) (hl : x.kids.length ≤ 1048576) (hx : ∀ k ∈ x.kids, CallX Tryz.prog 111 [.a 3 (encExpr k)] [] (.a 3 (ownT k))) : CallX Tryz.prog 111 [.a 3 (toldE x)] [] (.a 3 (ownT x)) := by
  refine callX_of_vc htb hm Tryz.func111 rfl rfl rfl rfl (ann := fun _ => none) (gh := fun _ => false) ?_
  repeat' ((conv => whnf); first | (guard_target = Done _; refine Done.mk ?_) | (guard_target = RetX _ _; refine RetX.mk ?_ ?_) | (guard_target =~ LoopE 3 _ _ _ _ _ _; refine LoopE.mk { α := Nat × List (List CV), keep := [2, 3, 12, 13], ov := fun ⟨i, rows⟩ => [(14, I (i : Nat))], hv := fun ⟨i, rows⟩ => [(5, .cells [.c (J x.kind), .c (J x.num), .lw 3]), (3, .orow none 37 3 rows)], φ := fun ⟨i, rows⟩ => i ≤ x.kids.length ∧ rows = (x.kids.take i).map ownExpr, μ := fun ⟨i, rows⟩ => x.kids.length - i } (LoopN.mk ((0, []) : Nat × List (List CV)) (by exact ⟨Nat.zero_le _, rfl⟩) (by (repeat' ((conv => whnf) <;> (first | exact trivial | refine ⟨?_, ?_⟩ | kernel_rfl))); done) (by (repeat' ((conv => whnf) <;> (first | exact trivial | refine ⟨?_, ?_⟩ | kernel_rfl))); done) (by (repeat' ((conv => whnf) <;> (first | exact trivial | refine ⟨?_, ?_⟩ | exact rfl | (simp only [List.map_append, List.map_cons, List.map_nil, List.map_set]; first | done | rfl)))); done) (fun A ha => ?_) (by intro A; first | rfl | (obtain ⟨_, _⟩ := A; rfl) | (obtain ⟨_, _, _⟩ := A; rfl))); obtain ⟨i, rows⟩ := A; have ha : i ≤ x.kids.length ∧ rows = (x.kids.take i).map ownExpr := ha; have hrl : rows.length = i := (by rw [ha.2, List.length_map, List.length_take]; omega)) | (guard_target = Gh _ _ _ _ _; refine Gh.go ⟨((i + 1, rows ++ [ownT x.kids[i]]) : Nat × List (List CV)), (by exact ⟨by show i + 1 ≤ _; omega, own_next (by omega) ha.2⟩), (by first | (show _ < _; simp only []; omega) | omega | (simp; omega)), (by (repeat' ((conv => whnf) <;> (first | exact trivial | refine ⟨?_, ?_⟩ | kernel_rfl))); done), (by (repeat' ((conv => whnf) <;> (first | exact trivial | refine ⟨?_, ?_⟩ | kernel_rfl))); done), (by (repeat' ((conv => whnf) <;> (first | exact trivial | refine ⟨?_, ?_⟩ | exact rfl | (simp only [List.map_append, List.map_cons, List.map_nil, List.map_set]; first | done | rfl)))); done)⟩) | (guard_target = Fact _ _; refine Fact.mk fun hL => ?_; (try simp only [List.length_map, maxLen] at hL)) | (guard_target = Branch _ _ _; (first | refine Branch.dec ?_ ?_ | refine Branch.beq ?_ ?_ | refine Branch.bne ?_ ?_ | refine Branch.ndec ?_ ?_ | refine Branch.nb ?_ ?_ | refine Branch.mk ?_ ?_) <;> intro h <;> (try simp only [List.length_map] at h) <;> (try omega) <;> (try contradiction)) | (guard_target = CallN _ 111 _ _ _ _; refine CallN.gen [] _ _ _ rfl (hx _ (List.getElem_mem (by omega))) rfl rfl _ rfl ?_) | (guard_target = Arith _ _ _; refine Arith.fit (wrap_fit (by first | omega | (simp only [List.length_map]; omega)) (by first | omega | (simp only [List.length_map]; omega))) ?_) | (guard_target = Arith _ _ _; refine Arith.fit (by decide) ?_) | (guard_target = Index _ _ _; first | refine Index.mk _ (idx_map (i := i) (by omega)) ?_ | refine Index.mk _ (idx_map (by omega)) ?_) | (guard_target = Need (_ = true) _; refine Need.mk (by first | kernel_rfl | rfl) ?_) | (guard_target = LinkV _ _ _; first  | refine LinkV.no ?_) | (guard_target = GhO _ _ _ _; refine GhO.go ?_) | (guard_target = Need _ _; refine Need.mk (by first | ((simp only [List.length_cons, List.length_nil, maxLen]; constructor <;> omega)) | omega | (simp only [List.length_map]; omega)) ?_))
  all_goals first | rfl | trivial | (have h9 := ha.2; rw [List.take_of_length_le (by omega)] at h9; rw [h9]; rfl)
theorem l01Own_all (x : XExpr) (hl : x.kids.length ≤ 1048576) (hx : ∀ k ∈ x.kids, CallX Tryz.prog 96 [.c (.rp 3 (encExpr k))] [] (.a 3 (ownT k))) : CallX Tryz.prog 96 [.c (.rp 3 (toldE x))] [] (.a 3 (ownT x)) := by
  refine callX_of_vc htb hm Tryz.func96 rfl rfl rfl rfl (ann := fun _ => none) (gh := fun _ => false) ?_
  repeat' ((conv => whnf); first | (guard_target = Done _; refine Done.mk ?_) | (guard_target = RetX _ _; refine RetX.mk ?_ ?_) | (guard_target =~ LoopE 3 _ _ _ _ _ _; refine LoopE.mk { α := Nat × List (List CV), keep := [0, 2, 3], ov := fun ⟨i, rows⟩ => [(4, I (i : Nat))], hv := fun ⟨i, rows⟩ => [(4, .cells [.c (J x.kind), .c (J x.num), .lw 2]), (2, .orow none 37 3 rows)], φ := fun ⟨i, rows⟩ => i ≤ x.kids.length ∧ rows = (x.kids.take i).map ownExpr, μ := fun ⟨i, rows⟩ => x.kids.length - i } (LoopN.mk ((0, []) : Nat × List (List CV)) (by exact ⟨Nat.zero_le _, rfl⟩) (by (repeat' ((conv => whnf) <;> (first | exact trivial | refine ⟨?_, ?_⟩ | kernel_rfl))); done) (by (repeat' ((conv => whnf) <;> (first | exact trivial | refine ⟨?_, ?_⟩ | kernel_rfl))); done) (by (repeat' ((conv => whnf) <;> (first | exact trivial | refine ⟨?_, ?_⟩ | exact rfl | (simp only [List.map_append, List.map_cons, List.map_nil, List.map_set]; first | done | rfl)))); done) (fun A ha => ?_) (by intro A; first | rfl | (obtain ⟨_, _⟩ := A; rfl) | (obtain ⟨_, _, _⟩ := A; rfl))); obtain ⟨i, rows⟩ := A; have ha : i ≤ x.kids.length ∧ rows = (x.kids.take i).map ownExpr := ha; have hrl : rows.length = i := (by rw [ha.2, List.length_map, List.length_take]; omega)) | (guard_target = Gh _ _ _ _ _; refine Gh.go ⟨((i + 1, rows ++ [ownT x.kids[i]]) : Nat × List (List CV)), (by exact ⟨by show i + 1 ≤ _; omega, own_next (by omega) ha.2⟩), (by first | (show _ < _; simp only []; omega) | omega | (simp; omega)), (by (repeat' ((conv => whnf) <;> (first | exact trivial | refine ⟨?_, ?_⟩ | kernel_rfl))); done), (by (repeat' ((conv => whnf) <;> (first | exact trivial | refine ⟨?_, ?_⟩ | kernel_rfl))); done), (by (repeat' ((conv => whnf) <;> (first | exact trivial | refine ⟨?_, ?_⟩ | exact rfl | (simp only [List.map_append, List.map_cons, List.map_nil, List.map_set]; first | done | rfl)))); done)⟩) | (guard_target = Fact _ _; refine Fact.mk fun hL => ?_; (try simp only [List.length_map, maxLen] at hL)) | (guard_target = Branch _ _ _; (first | refine Branch.dec ?_ ?_ | refine Branch.beq ?_ ?_ | refine Branch.bne ?_ ?_ | refine Branch.ndec ?_ ?_ | refine Branch.nb ?_ ?_ | refine Branch.mk ?_ ?_) <;> intro h <;> (try simp only [List.length_map] at h) <;> (try omega) <;> (try contradiction)) | (guard_target = CallN _ 96 _ _ _ _; refine CallN.gen [] _ _ _ rfl (hx _ (List.getElem_mem (by omega))) rfl rfl _ rfl ?_) | (guard_target = Arith _ _ _; refine Arith.fit (wrap_fit (by first | omega | (simp only [List.length_map]; omega)) (by first | omega | (simp only [List.length_map]; omega))) ?_) | (guard_target = Arith _ _ _; refine Arith.fit (by decide) ?_) | (guard_target = Index _ _ _; first | refine Index.mk _ (idx_map (i := i) (by omega)) ?_ | refine Index.mk _ (idx_map (by omega)) ?_) | (guard_target = Need (_ = true) _; refine Need.mk (by first | kernel_rfl | rfl) ?_) | (guard_target = LinkV _ _ _; first  | refine LinkV.no ?_) | (guard_target = GhO _ _ _ _; refine GhO.go ?_) | (guard_target = Need _ _; refine Need.mk (by first | ((simp only [List.length_cons, List.length_nil, maxLen]; constructor <;> omega)) | omega | (simp only [List.length_map]; omega)) ?_))
  all_goals first | rfl | trivial | (have h9 := ha.2; rw [List.take_of_length_le (by omega)] at h9; rw [h9]; rfl)
theorem copyExpr_ok (x : XExpr) (hb : budExpr x ≤ 1048576) : CallX Tryz.prog 111 [.a 3 (encExpr x)] [] (.a 3 (ownT x)) := by
  rw [encExpr_eq]
  have h1 : budS budExpr x.kids ≤ budExpr x := by
    cases x
    simp only [budExpr, budExprS_eq, XExpr.kids]
    exact Nat.le_refl _
  exact copyExpr_all x (by have := budS_len budExpr x.kids; omega) fun k _hk => copyExpr_ok k (by have := budS_mem budExpr _hk; omega)
  termination_by SizeOf.sizeOf x
  decreasing_by
    have := List.sizeOf_lt_of_mem _hk
    cases x
    simp only [XExpr.mk.sizeOf_spec]
    show SizeOf.sizeOf k < _
    simp only [XExpr.kids] at this
    omega
theorem l01Own_ok (x : XExpr) (hb : budExpr x ≤ 1048576) : CallX Tryz.prog 96 [.c (.rp 3 (encExpr x))] [] (.a 3 (ownT x)) := by
  rw [encExpr_eq]
  have h1 : budS budExpr x.kids ≤ budExpr x := by
    cases x
    simp only [budExpr, budExprS_eq, XExpr.kids]
    exact Nat.le_refl _
  exact l01Own_all x (by have := budS_len budExpr x.kids; omega) fun k _hk => l01Own_ok k (by have := budS_mem budExpr _hk; omega)
  termination_by SizeOf.sizeOf x
  decreasing_by
    have := List.sizeOf_lt_of_mem _hk
    cases x
    simp only [XExpr.mk.sizeOf_spec]
    show SizeOf.sizeOf k < _
    simp only [XExpr.kids] at this
    omega
end Go.Proofs.YtmpcfplelpdbhaaGreat

namespace Go.Proofs.YtmpcfplelpdbhaaGreat
open Go Go.KA Go.Proofs
set_option maxHeartbeats 16000000
set_option maxRecDepth 100000
theorem ownT_ro (x : XExpr) : roL (ownT x) = encExpr x := by
  have := roExpr x
  rwa [ownExpr_eq] at this
theorem own_soft (x : XExpr) : SoftT (.a 3 (ownT x)) (.a 3 (encExpr x)) := by
  rw [← ownT_ro]
  exact .v (.a (SoftN.roL _))
theorem l01Own_ro (x : XExpr) (hb : budExpr x ≤ 1048576) : CallX Tryz.prog 96 [.c (.rp 3 (encExpr x))] [] (.a 3 (encExpr x)) := (l01Own_ok x hb).soft (own_soft x)
theorem enc_mk (k n : Int) (ks : List XExpr) : encExpr (.mk k n ks) = [J k, J n, .ro 3 (ks.map encExpr)] := encExpr_eq _
abbrev leafE (k n : Int) : XExpr := .mk k n []
abbrev notE (c : XExpr) : XExpr := .mk 5 0 [c]
abbrev pairE (k : Int) (a b : XExpr) : XExpr := .mk k 0 [a, b]
theorem leaf_ok (k n : Int) : CallX Tryz.prog 250 [I k, I n] [] (.a 3 (encExpr (leafE k n))) := by
  have h : CallX Tryz.prog 250 [I k, I n] [] (.a 3 [J k, J n, .ows 37 3 []]) := by
    refine callX_of_vc htb hm Tryz.func250 rfl rfl rfl rfl (ann := fun _ => none) (gh := fun _ => false) ?_
    repeat' ((conv => whnf); first | (guard_target = Done _; refine Done.mk ?_) | (guard_target = RetX _ _; refine RetX.mk ?_ ?_) | (guard_target = Fact _ _; refine Fact.mk fun hL => ?_; (try simp only [List.length_map, maxLen] at hL)) | (guard_target = Branch _ _ _; (first | refine Branch.dec ?_ ?_ | refine Branch.beq ?_ ?_ | refine Branch.bne ?_ ?_ | refine Branch.ndec ?_ ?_ | refine Branch.nb ?_ ?_ | refine Branch.mk ?_ ?_) <;> intro h <;> (try simp only [List.length_map] at h) <;> (try omega) <;> (try contradiction)) | (guard_target = Arith _ _ _; refine Arith.fit (wrap_fit (by first | omega | (simp only [List.length_map]; omega)) (by first | omega | (simp only [List.length_map]; omega))) ?_) | (guard_target = Arith _ _ _; refine Arith.fit (by decide) ?_) | (guard_target = Index _ _ _; first  | refine Index.mk _ (idx_map (by omega)) ?_) | (guard_target = Need (_ = true) _; refine Need.mk (by first | kernel_rfl | rfl) ?_) | (guard_target = LinkV _ _ _; first  | refine LinkV.no ?_) | (guard_target = GhO _ _ _ _; refine GhO.go ?_) | (guard_target = Need _ _; refine Need.mk (by first  | omega | (simp only [List.length_map]; omega)) ?_))
    all_goals first | rfl | trivial
  rw [enc_mk]
  exact h.soft (.v (.a (.same (.same (.ro .nil)))))
theorem tree_ro (k : Int) (ks : List XExpr) : CallX Tryz.prog 108 [I k, .c (.ro 3 (ks.map encExpr))] [] (.a 3 (encExpr (.mk k 0 ks))) := by
  rw [enc_mk]
  refine callX_of_vc htb hm Tryz.func108 rfl rfl rfl rfl (ann := fun _ => none) (gh := fun _ => false) ?_
  repeat' ((conv => whnf); first | (guard_target = Done _; refine Done.mk ?_) | (guard_target = RetX _ _; refine RetX.mk ?_ ?_) | (guard_target = Fact _ _; refine Fact.mk fun hL => ?_; (try simp only [List.length_map, maxLen] at hL)) | (guard_target = Branch _ _ _; (first | refine Branch.dec ?_ ?_ | refine Branch.beq ?_ ?_ | refine Branch.bne ?_ ?_ | refine Branch.ndec ?_ ?_ | refine Branch.nb ?_ ?_ | refine Branch.mk ?_ ?_) <;> intro h <;> (try simp only [List.length_map] at h) <;> (try omega) <;> (try contradiction)) | (guard_target = Arith _ _ _; refine Arith.fit (wrap_fit (by first | omega | (simp only [List.length_map]; omega)) (by first | omega | (simp only [List.length_map]; omega))) ?_) | (guard_target = Arith _ _ _; refine Arith.fit (by decide) ?_) | (guard_target = Index _ _ _; first  | refine Index.mk _ (idx_map (by omega)) ?_) | (guard_target = Need (_ = true) _; refine Need.mk (by first | kernel_rfl | rfl) ?_) | (guard_target = LinkV _ _ _; first  | refine LinkV.no ?_) | (guard_target = GhO _ _ _ _; refine GhO.go ?_) | (guard_target = Need _ _; refine Need.mk (by first  | omega | (simp only [List.length_map]; omega)) ?_))
  all_goals first | rfl | trivial
theorem tree_ok (k : Int) (ks : List XExpr) : CallX Tryz.prog 108 [I k, .c (.ows 37 3 (ks.map encExpr))] [] (.a 3 (encExpr (.mk k 0 ks))) := (tree_ro k ks).give (.same (.c .nil))
theorem not_ok (c : XExpr) : CallX Tryz.prog 109 [.a 3 (encExpr c)] [] (.a 3 (encExpr (notE c))) := by
  cases c
  refine callX_of_vc htb hm Tryz.func109 rfl rfl rfl rfl (ann := fun _ => none) (gh := fun _ => false) ?_
  repeat' ((conv => whnf); first | (guard_target = Done _; refine Done.mk ?_) | (guard_target = RetX _ _; refine RetX.mk ?_ ?_) | (guard_target = Fact _ _; refine Fact.mk fun hL => ?_; (try simp only [List.length_map, maxLen] at hL)) | (guard_target = Branch _ _ _; (first | refine Branch.dec ?_ ?_ | refine Branch.beq ?_ ?_ | refine Branch.bne ?_ ?_ | refine Branch.ndec ?_ ?_ | refine Branch.nb ?_ ?_ | refine Branch.mk ?_ ?_) <;> intro h <;> (try simp only [List.length_map] at h) <;> (try omega) <;> (try contradiction)) | (guard_target = CallN _ 108 _ _ _ _; refine CallN.gen [false, true] _ _ _ rfl (tree_ok 5 [_]) rfl rfl _ rfl ?_) | (guard_target = Arith _ _ _; refine Arith.fit (wrap_fit (by first | omega | (simp only [List.length_map]; omega)) (by first | omega | (simp only [List.length_map]; omega))) ?_) | (guard_target = Arith _ _ _; refine Arith.fit (by decide) ?_) | (guard_target = Index _ _ _; first  | refine Index.mk _ (idx_map (by omega)) ?_) | (guard_target = Need (_ = true) _; refine Need.mk (by first | kernel_rfl | rfl) ?_) | (guard_target = LinkV _ _ _; first  | refine LinkV.no ?_) | (guard_target = GhO _ _ _ _; refine GhO.go ?_) | (guard_target = Need _ _; refine Need.mk (by first  | omega | (simp only [List.length_map]; omega)) ?_))
  all_goals first | rfl | trivial
theorem both_ok (a b : XExpr) : CallX Tryz.prog 110 [.a 3 (encExpr a), .a 3 (encExpr b)] [] (.a 3 (encExpr (pairE 7 a b))) := by
  cases a
  cases b
  refine callX_of_vc htb hm Tryz.func110 rfl rfl rfl rfl (ann := fun _ => none) (gh := fun _ => false) ?_
  repeat' ((conv => whnf); first | (guard_target = Done _; refine Done.mk ?_) | (guard_target = RetX _ _; refine RetX.mk ?_ ?_) | (guard_target = Fact _ _; refine Fact.mk fun hL => ?_; (try simp only [List.length_map, maxLen] at hL)) | (guard_target = Branch _ _ _; (first | refine Branch.dec ?_ ?_ | refine Branch.beq ?_ ?_ | refine Branch.bne ?_ ?_ | refine Branch.ndec ?_ ?_ | refine Branch.nb ?_ ?_ | refine Branch.mk ?_ ?_) <;> intro h <;> (try simp only [List.length_map] at h) <;> (try omega) <;> (try contradiction)) | (guard_target = CallN _ 108 _ _ _ _; refine CallN.gen [false, true] _ _ _ rfl (tree_ok 7 [_, _]) rfl rfl _ rfl ?_) | (guard_target = Arith _ _ _; refine Arith.fit (wrap_fit (by first | omega | (simp only [List.length_map]; omega)) (by first | omega | (simp only [List.length_map]; omega))) ?_) | (guard_target = Arith _ _ _; refine Arith.fit (by decide) ?_) | (guard_target = Index _ _ _; first  | refine Index.mk _ (idx_map (by omega)) ?_) | (guard_target = Need (_ = true) _; refine Need.mk (by first | kernel_rfl | rfl) ?_) | (guard_target = LinkV _ _ _; first  | refine LinkV.no ?_) | (guard_target = GhO _ _ _ _; refine GhO.go ?_) | (guard_target = Need _ _; refine Need.mk (by first  | omega | (simp only [List.length_map]; omega)) ?_))
  all_goals first | rfl | trivial
theorem l02Zero_ok : CallX Tryz.prog 210 [] [] (.a 3 (encExpr (leafE 1 0))) := by
  have h : CallX Tryz.prog 210 [] [] (.a 3 [J 1, J 0, .ows 37 3 []]) := by
    refine callX_of_vc htb hm Tryz.func210 rfl rfl rfl rfl (ann := fun _ => none) (gh := fun _ => false) ?_
    repeat' ((conv => whnf); first | (guard_target = Done _; refine Done.mk ?_) | (guard_target = RetX _ _; refine RetX.mk ?_ ?_) | (guard_target = Fact _ _; refine Fact.mk fun hL => ?_; (try simp only [List.length_map, maxLen] at hL)) | (guard_target = Branch _ _ _; (first | refine Branch.dec ?_ ?_ | refine Branch.beq ?_ ?_ | refine Branch.bne ?_ ?_ | refine Branch.ndec ?_ ?_ | refine Branch.nb ?_ ?_ | refine Branch.mk ?_ ?_) <;> intro h <;> (try simp only [List.length_map] at h) <;> (try omega) <;> (try contradiction)) | (guard_target = Arith _ _ _; refine Arith.fit (wrap_fit (by first | omega | (simp only [List.length_map]; omega)) (by first | omega | (simp only [List.length_map]; omega))) ?_) | (guard_target = Arith _ _ _; refine Arith.fit (by decide) ?_) | (guard_target = Index _ _ _; first  | refine Index.mk _ (idx_map (by omega)) ?_) | (guard_target = Need (_ = true) _; refine Need.mk (by first | kernel_rfl | rfl) ?_) | (guard_target = LinkV _ _ _; first  | refine LinkV.no ?_) | (guard_target = GhO _ _ _ _; refine GhO.go ?_) | (guard_target = Need _ _; refine Need.mk (by first  | omega | (simp only [List.length_map]; omega)) ?_))
    all_goals first | rfl | trivial
  rw [enc_mk]
  exact h.soft (.v (.a (.same (.same (.ro .nil)))))
theorem l02One_ok : CallX Tryz.prog 245 [] [] (.a 3 (encExpr (leafE 2 0))) := by
  have h : CallX Tryz.prog 245 [] [] (.a 3 [J 2, J 0, .ows 37 3 []]) := by
    refine callX_of_vc htb hm Tryz.func245 rfl rfl rfl rfl (ann := fun _ => none) (gh := fun _ => false) ?_
    repeat' ((conv => whnf); first | (guard_target = Done _; refine Done.mk ?_) | (guard_target = RetX _ _; refine RetX.mk ?_ ?_) | (guard_target = Fact _ _; refine Fact.mk fun hL => ?_; (try simp only [List.length_map, maxLen] at hL)) | (guard_target = Branch _ _ _; (first | refine Branch.dec ?_ ?_ | refine Branch.beq ?_ ?_ | refine Branch.bne ?_ ?_ | refine Branch.ndec ?_ ?_ | refine Branch.nb ?_ ?_ | refine Branch.mk ?_ ?_) <;> intro h <;> (try simp only [List.length_map] at h) <;> (try omega) <;> (try contradiction)) | (guard_target = Arith _ _ _; refine Arith.fit (wrap_fit (by first | omega | (simp only [List.length_map]; omega)) (by first | omega | (simp only [List.length_map]; omega))) ?_) | (guard_target = Arith _ _ _; refine Arith.fit (by decide) ?_) | (guard_target = Index _ _ _; first  | refine Index.mk _ (idx_map (by omega)) ?_) | (guard_target = Need (_ = true) _; refine Need.mk (by first | kernel_rfl | rfl) ?_) | (guard_target = LinkV _ _ _; first  | refine LinkV.no ?_) | (guard_target = GhO _ _ _ _; refine GhO.go ?_) | (guard_target = Need _ _; refine Need.mk (by first  | omega | (simp only [List.length_map]; omega)) ?_))
    all_goals first | rfl | trivial
  rw [enc_mk]
  exact h.soft (.v (.a (.same (.same (.ro .nil)))))
theorem l02Pair_ok (k : Int) (a b : XExpr) : CallX Tryz.prog 161 [I k, .a 3 (encExpr a), .a 3 (encExpr b)] [] (.a 3 (encExpr (pairE k a b))) := by
  have h : CallX Tryz.prog 161 [I k, .a 3 (encExpr a), .a 3 (encExpr b)] [] (.a 3 [J k, J 0, .ows 37 3 [encExpr a, encExpr b]]) := by
    cases a
    cases b
    refine callX_of_vc htb hm Tryz.func161 rfl rfl rfl rfl (ann := fun _ => none) (gh := fun _ => false) ?_
    repeat' ((conv => whnf); first | (guard_target = Done _; refine Done.mk ?_) | (guard_target = RetX _ _; refine RetX.mk ?_ ?_) | (guard_target = Fact _ _; refine Fact.mk fun hL => ?_; (try simp only [List.length_map, maxLen] at hL)) | (guard_target = Branch _ _ _; (first | refine Branch.dec ?_ ?_ | refine Branch.beq ?_ ?_ | refine Branch.bne ?_ ?_ | refine Branch.ndec ?_ ?_ | refine Branch.nb ?_ ?_ | refine Branch.mk ?_ ?_) <;> intro h <;> (try simp only [List.length_map] at h) <;> (try omega) <;> (try contradiction)) | (guard_target = Arith _ _ _; refine Arith.fit (wrap_fit (by first | omega | (simp only [List.length_map]; omega)) (by first | omega | (simp only [List.length_map]; omega))) ?_) | (guard_target = Arith _ _ _; refine Arith.fit (by decide) ?_) | (guard_target = Index _ _ _; first  | refine Index.mk _ (idx_map (by omega)) ?_) | (guard_target = Need (_ = true) _; refine Need.mk (by first | kernel_rfl | rfl) ?_) | (guard_target = LinkV _ _ _; first  | refine LinkV.no ?_) | (guard_target = GhO _ _ _ _; refine GhO.go ?_) | (guard_target = Need _ _; refine Need.mk (by first  | omega | (simp only [List.length_map]; omega)) ?_))
    all_goals first | rfl | trivial
  rw [enc_mk]
  exact h.soft (.v (.a (.same (.same (.ro .nil)))))
theorem l06Not_ok (c : XExpr) (hb : budExpr c ≤ 1048576) : CallX Tryz.prog 162 [.a 3 (encExpr c)] [] (.a 3 (encExpr (notE c))) := by
  have h : CallX Tryz.prog 162 [.a 3 (encExpr c)] [] (.a 3 [J 5, J 0, .ows 37 3 [encExpr c]]) := by
    cases c
    refine callX_of_vc htb hm Tryz.func162 rfl rfl rfl rfl (ann := fun _ => none) (gh := fun reg_ => match reg_ with | 1 => true | _ => false) ?_
    repeat' ((conv => whnf); first | (guard_target = Done _; refine Done.mk ?_) | (guard_target = RetX _ _; refine RetX.mk ?_ ?_) | (guard_target = Fact _ _; refine Fact.mk fun hL => ?_; (try simp only [List.length_map, maxLen] at hL)) | (guard_target = Branch _ _ _; (first | refine Branch.dec ?_ ?_ | refine Branch.beq ?_ ?_ | refine Branch.bne ?_ ?_ | refine Branch.ndec ?_ ?_ | refine Branch.nb ?_ ?_ | refine Branch.mk ?_ ?_) <;> intro h <;> (try simp only [List.length_map] at h) <;> (try omega) <;> (try contradiction)) | (guard_target = CallN _ 96 _ _ _ _; refine CallN.gen [] _ _ _ rfl (l01Own_ro _ hb) rfl rfl _ rfl ?_) | (guard_target = Gh _ _ _ _ _; refine Gh.frzp 0 _ rfl (Gh.go ?_)) | (guard_target = Arith _ _ _; refine Arith.fit (wrap_fit (by first | omega | (simp only [List.length_map]; omega)) (by first | omega | (simp only [List.length_map]; omega))) ?_) | (guard_target = Arith _ _ _; refine Arith.fit (by decide) ?_) | (guard_target = Index _ _ _; first  | refine Index.mk _ (idx_map (by omega)) ?_) | (guard_target = Need (_ = true) _; refine Need.mk (by first | kernel_rfl | rfl) ?_) | (guard_target = LinkV _ _ _; first  | refine LinkV.no ?_) | (guard_target = GhO _ _ _ _; refine GhO.go ?_) | (guard_target = Need _ _; refine Need.mk (by first  | omega | (simp only [List.length_map]; omega)) ?_))
    all_goals first | rfl | trivial
  rw [enc_mk]
  exact h.soft (.v (.a (.same (.same (.ro .nil)))))
theorem l07Asserted_ok (c post : XExpr) (hb : budExpr c ≤ 1048576) (hb2 : budExpr post ≤ 1048576) : CallX Tryz.prog 93 [.c (.rp 3 (encExpr c)), .c (.rp 3 (encExpr post))] [] (.a 3 (encExpr (pairE 6 (notE c) post))) := by
  cases c
  cases post
  refine callX_of_vc htb hm Tryz.func93 rfl rfl rfl rfl (ann := fun _ => none) (gh := fun _ => false) ?_
  repeat' ((conv => whnf); first | (guard_target = Done _; refine Done.mk ?_) | (guard_target = RetX _ _; refine RetX.mk ?_ ?_) | (guard_target = Fact _ _; refine Fact.mk fun hL => ?_; (try simp only [List.length_map, maxLen] at hL)) | (guard_target = Branch _ _ _; (first | refine Branch.dec ?_ ?_ | refine Branch.beq ?_ ?_ | refine Branch.bne ?_ ?_ | refine Branch.ndec ?_ ?_ | refine Branch.nb ?_ ?_ | refine Branch.mk ?_ ?_) <;> intro h <;> (try simp only [List.length_map] at h) <;> (try omega) <;> (try contradiction)) | (guard_target = CallN _ 162 _ _ _ _; refine CallN.gen [] _ _ _ rfl (l06Not_ok _ hb) rfl rfl _ rfl ?_) | (guard_target = CallN _ 96 _ _ _ _; refine CallN.gen [] _ _ _ rfl (l01Own_ro _ hb2) rfl rfl _ rfl ?_) | (guard_target = CallN _ 161 _ _ _ _; refine CallN.gen [] _ _ _ rfl (l02Pair_ok 6 (notE _) _) rfl rfl _ rfl ?_) | (guard_target = Arith _ _ _; refine Arith.fit (wrap_fit (by first | omega | (simp only [List.length_map]; omega)) (by first | omega | (simp only [List.length_map]; omega))) ?_) | (guard_target = Arith _ _ _; refine Arith.fit (by decide) ?_) | (guard_target = Index _ _ _; first  | refine Index.mk _ (idx_map (by omega)) ?_) | (guard_target = Need (_ = true) _; refine Need.mk (by first | kernel_rfl | rfl) ?_) | (guard_target = LinkV _ _ _; first  | refine LinkV.no ?_) | (guard_target = GhO _ _ _ _; refine GhO.go ?_) | (guard_target = Need _ _; refine Need.mk (by first  | omega | (simp only [List.length_map]; omega)) ?_))
  all_goals first | rfl | trivial
def withE (b : Bool) (c w : XExpr) : XExpr := pairE 7 (if b then notE c else c) w
theorem l07With_ok (b : Bool) (c w : XExpr) (hb : budExpr c ≤ 1048576) (hb2 : budExpr w ≤ 1048576) : CallX Tryz.prog 95 [.c (.rp 3 (encExpr c)), B b, .c (.rp 3 (encExpr w))] [] (.a 3 (encExpr (withE b c w))) := by
  cases c
  cases w
  cases b
  · refine callX_of_vc htb hm Tryz.func95 rfl rfl rfl rfl (ann := fun _ => none) (gh := fun _ => false) ?_
    repeat' ((conv => whnf); first | (guard_target = Done _; refine Done.mk ?_) | (guard_target = RetX _ _; refine RetX.mk ?_ ?_) | (guard_target = Fact _ _; refine Fact.mk fun hL => ?_; (try simp only [List.length_map, maxLen] at hL)) | (guard_target = Branch _ _ _; (first | refine Branch.dec ?_ ?_ | refine Branch.beq ?_ ?_ | refine Branch.bne ?_ ?_ | refine Branch.ndec ?_ ?_ | refine Branch.nb ?_ ?_ | refine Branch.mk ?_ ?_) <;> intro h <;> (try simp only [] at h) <;> (try omega) <;> (try contradiction)) | (guard_target = CallN _ 162 _ _ _ _; refine CallN.gen [] _ _ _ rfl (l06Not_ok _ hb) rfl rfl _ rfl ?_) | (guard_target = CallN _ 96 _ _ _ _; refine CallN.gen [] _ _ _ rfl (l01Own_ro _ hb) rfl rfl _ rfl ?_) | (guard_target = CallN _ 96 _ _ _ _; refine CallN.gen [] _ _ _ rfl (l01Own_ro _ hb2) rfl rfl _ rfl ?_) | (guard_target = CallN _ 161 _ _ _ _; refine CallN.gen [] _ _ _ rfl (l02Pair_ok 7 _ _) rfl rfl _ rfl ?_) | (guard_target = Arith _ _ _; refine Arith.fit (wrap_fit (by first | omega | (simp only [List.length_map]; omega)) (by first | omega | (simp only [List.length_map]; omega))) ?_) | (guard_target = Arith _ _ _; refine Arith.fit (by decide) ?_) | (guard_target = Index _ _ _; first  | refine Index.mk _ (idx_map (by omega)) ?_) | (guard_target = Need (_ = true) _; refine Need.mk (by first | kernel_rfl | rfl) ?_) | (guard_target = LinkV _ _ _; first  | refine LinkV.no ?_) | (guard_target = GhO _ _ _ _; refine GhO.go ?_) | (guard_target = Need _ _; refine Need.mk (by first  | omega | (simp only [List.length_map]; omega)) ?_))
    all_goals first | rfl | trivial
  · refine callX_of_vc htb hm Tryz.func95 rfl rfl rfl rfl (ann := fun _ => none) (gh := fun _ => false) ?_
    repeat' ((conv => whnf); first | (guard_target = Done _; refine Done.mk ?_) | (guard_target = RetX _ _; refine RetX.mk ?_ ?_) | (guard_target = Fact _ _; refine Fact.mk fun hL => ?_; (try simp only [List.length_map, maxLen] at hL)) | (guard_target = Branch _ _ _; (first | refine Branch.dec ?_ ?_ | refine Branch.beq ?_ ?_ | refine Branch.bne ?_ ?_ | refine Branch.ndec ?_ ?_ | refine Branch.nb ?_ ?_ | refine Branch.mk ?_ ?_) <;> intro h <;> (try simp only [] at h) <;> (try omega) <;> (try contradiction)) | (guard_target = CallN _ 162 _ _ _ _; refine CallN.gen [] _ _ _ rfl (l06Not_ok _ hb) rfl rfl _ rfl ?_) | (guard_target = CallN _ 96 _ _ _ _; refine CallN.gen [] _ _ _ rfl (l01Own_ro _ hb) rfl rfl _ rfl ?_) | (guard_target = CallN _ 96 _ _ _ _; refine CallN.gen [] _ _ _ rfl (l01Own_ro _ hb2) rfl rfl _ rfl ?_) | (guard_target = CallN _ 161 _ _ _ _; refine CallN.gen [] _ _ _ rfl (l02Pair_ok 7 (notE _) _) rfl rfl _ rfl ?_) | (guard_target = Arith _ _ _; refine Arith.fit (wrap_fit (by first | omega | (simp only [List.length_map]; omega)) (by first | omega | (simp only [List.length_map]; omega))) ?_) | (guard_target = Arith _ _ _; refine Arith.fit (by decide) ?_) | (guard_target = Index _ _ _; first  | refine Index.mk _ (idx_map (by omega)) ?_) | (guard_target = Need (_ = true) _; refine Need.mk (by first | kernel_rfl | rfl) ?_) | (guard_target = LinkV _ _ _; first  | refine LinkV.no ?_) | (guard_target = GhO _ _ _ _; refine GhO.go ?_) | (guard_target = Need _ _; refine Need.mk (by first  | omega | (simp only [List.length_map]; omega)) ?_))
    all_goals first | rfl | trivial
end Go.Proofs.YtmpcfplelpdbhaaGreat

namespace Go.Proofs.YtmpcfplelpdbhaaGreat
open Go Go.KA Go.Proofs
set_option maxHeartbeats 16000000
set_option maxRecDepth 100000
def bitV (n atom : Int) : Int := IntKind.i64.wrap ((BitVec.ofInt 64 (atom.fdiv (2 ^ (min n.toNat 64))) &&& BitVec.ofInt 64 1).toNat)
def litE (atom : Int) (i : Nat) : XExpr := if bitV i atom = 0 then notE (leafE 3 i) else leafE 3 i
def atE (atom : Int) : Nat → XExpr
  | 0 => leafE 2 0
  | k + 1 => if k = 0 then litE atom 0 else pairE 7 (atE atom k) (litE atom k)
theorem lit_y {atom : Int} {i : Nat} (h : bitV i atom = 0) : litE atom i = notE (leafE 3 i) := by unfold litE; rw [if_pos h]
theorem lit_n {atom : Int} {i : Nat} (h : ¬ bitV i atom = 0) : litE atom i = leafE 3 i := by unfold litE; rw [if_neg h]
theorem at_0 {atom : Int} {k : Nat} (h : (k : Int) = 0) {e : XExpr} (he : litE atom k = e) : e = atE atom (k + 1) := by
  have : k = 0 := by omega
  subst this
  exact he.symm
theorem at_s {atom : Int} {k : Nat} (h : ¬ (k : Int) = 0) {e x : XExpr} (he : litE atom k = e) (hx : x = atE atom k) : pairE 7 x e = atE atom (k + 1) := by
  unfold atE
  rw [if_neg (by omega), he, hx]
theorem ex_mk (x : XExpr) : ∃ k n ks, x = .mk k n ks := by
  cases x
  exact ⟨_, _, _, rfl⟩
theorem idx_mk {l : List XExpr} {i : Nat} {d e : XExpr} (h : i < l.length) (he : l.getD i d = e) : (l.map encExpr)[i]? = some (encExpr e) := by
  rw [← he]
  exact idx_getD h
section
variable (t a : Int) (ht : 0 ≤ t ∧ t ≤ 3)
include ht
theorem conditionOf_ok (atom : Int) (e : XExpr) (he : atE atom t.toNat = e) : CallX Tryz.prog 221 [.a 2 [J t, J a], I atom] [] (.a 3 (encExpr e)) := by
  subst he
  have hl := fun k : Nat => leaf_ok 3 k
  by_cases h0 : t = 0
  · subst h0
    have h1 := leaf_ok 2 0
    refine callX_of_vc htb hm Tryz.func221 rfl rfl rfl rfl (ann := fun _ => none) (gh := fun _ => false) ?_
    repeat' ((conv => whnf); first | (guard_target = Done _; refine Done.mk ?_) | (guard_target = RetX _ _; refine RetX.mk ?_ ?_) | (guard_target = Fact _ _; refine Fact.mk fun hL => ?_; (try simp only [List.length_map, maxLen] at hL)) | (guard_target = Branch _ _ _; (first | refine Branch.dec ?_ ?_ | refine Branch.beq ?_ ?_ | refine Branch.bne ?_ ?_ | refine Branch.ndec ?_ ?_ | refine Branch.nb ?_ ?_ | refine Branch.mk ?_ ?_) <;> intro h <;> (try simp only [] at h) <;> (try omega) <;> (try contradiction)) | (guard_target = CallN _ 250 _ _ _ _; refine CallN.gen [] _ _ _ rfl (h1) rfl rfl _ rfl ?_) | (guard_target = Arith _ _ _; refine Arith.fit (wrap_fit (by first | omega | (simp only [List.length_map]; omega)) (by first | omega | (simp only [List.length_map]; omega))) ?_) | (guard_target = Arith _ _ _; refine Arith.fit (by decide) ?_) | (guard_target = Index _ _ _; first  | refine Index.mk _ (idx_map (by omega)) ?_) | (guard_target = Need (_ = true) _; refine Need.mk (by first | kernel_rfl | rfl) ?_) | (guard_target = LinkV _ _ _; first  | refine LinkV.no ?_) | (guard_target = GhO _ _ _ _; refine GhO.go ?_) | (guard_target = Need _ _; refine Need.mk (by first  | omega | (simp only [List.length_map]; omega)) ?_))
    all_goals first | rfl | trivial
  · refine callX_of_vc htb hm Tryz.func221 rfl rfl rfl rfl (ann := fun _ => none) (gh := fun reg_ => match reg_ with | 4 => true | _ => false) ?_
    repeat' ((conv => whnf); first | (guard_target = Done _; refine Done.mk ?_) | (guard_target = RetX _ _; refine RetX.mk ?_ ?_) | (guard_target =~ LoopE 5 _ _ _ _ _ _; refine LoopE.mk { α := XExpr × Nat, keep := [1, 4, 5, 14], ov := fun ⟨x, k⟩ => [(15, I (k : Nat))], hv := fun ⟨x, k⟩ => [(5, .cc 3 (encExpr x))], φ := fun ⟨x, k⟩ => k ≤ t.toNat ∧ (k = 0 ∨ x = atE atom k), μ := fun ⟨x, k⟩ => t.toNat - k } (LoopN.mk ((.mk 0 0 [], 0) : XExpr × Nat) (by exact ⟨Nat.zero_le _, .inl rfl⟩) (by (repeat' ((conv => whnf) <;> (first | exact trivial | refine ⟨?_, ?_⟩ | kernel_rfl))); done) (by (repeat' ((conv => whnf) <;> (first | exact trivial | refine ⟨?_, ?_⟩ | kernel_rfl))); done) (by (repeat' ((conv => whnf) <;> (first | exact trivial | refine ⟨?_, ?_⟩ | exact rfl | (simp only [List.map_append, List.map_cons, List.map_nil, List.map_set]; first | done | rfl)))); done) (fun A ha => ?_) (by intro A; first | rfl | (obtain ⟨_, _⟩ := A; rfl) | (obtain ⟨_, _, _⟩ := A; rfl))); obtain ⟨x, k⟩ := A; have ha : k ≤ t.toNat ∧ (k = 0 ∨ x = atE atom k) := ha; rcases x with ⟨x1, x2, x3⟩) | (guard_target = Gh _ _ _ _ _; refine Gh.go ⟨((notE (leafE 3 k), k + 1) : XExpr × Nat), (by (have hb : bitV k atom = 0 := (by assumption); have hk : (k : Int) = 0 := h; exact ⟨by show k + 1 ≤ _; omega, .inr (at_0 hk (lit_y hb))⟩)), (by first | (show _ < _; simp only []; omega) | omega | (simp; omega)), (by (repeat' ((conv => whnf) <;> (first | exact trivial | refine ⟨?_, ?_⟩ | kernel_rfl))); done), (by (repeat' ((conv => whnf) <;> (first | exact trivial | refine ⟨?_, ?_⟩ | kernel_rfl))); done), (by (repeat' ((conv => whnf) <;> (first | exact trivial | refine ⟨?_, ?_⟩ | exact rfl | (simp only [List.map_append, List.map_cons, List.map_nil, List.map_set]; first | done | rfl)))); done)⟩) | (guard_target = Gh _ _ _ _ _; refine Gh.go ⟨((leafE 3 k, k + 1) : XExpr × Nat), (by (have hb : ¬ bitV k atom = 0 := (by assumption); have hk : (k : Int) = 0 := h; exact ⟨by show k + 1 ≤ _; omega, .inr (at_0 hk (lit_n hb))⟩)), (by first | (show _ < _; simp only []; omega) | omega | (simp; omega)), (by (repeat' ((conv => whnf) <;> (first | exact trivial | refine ⟨?_, ?_⟩ | kernel_rfl))); done), (by (repeat' ((conv => whnf) <;> (first | exact trivial | refine ⟨?_, ?_⟩ | kernel_rfl))); done), (by (repeat' ((conv => whnf) <;> (first | exact trivial | refine ⟨?_, ?_⟩ | exact rfl | (simp only [List.map_append, List.map_cons, List.map_nil, List.map_set]; first | done | rfl)))); done)⟩) | (guard_target = Gh _ _ _ _ _; refine Gh.go ⟨((pairE 7 (.mk x1 x2 x3) (notE (leafE 3 k)), k + 1) : XExpr × Nat), (by (have hb : bitV k atom = 0 := (by assumption); have hk : ¬ (k : Int) = 0 := h; exact ⟨by show k + 1 ≤ _; omega, .inr (at_s hk (lit_y hb) (ha.2.resolve_left (by omega)))⟩)), (by first | (show _ < _; simp only []; omega) | omega | (simp; omega)), (by (repeat' ((conv => whnf) <;> (first | exact trivial | refine ⟨?_, ?_⟩ | kernel_rfl))); done), (by (repeat' ((conv => whnf) <;> (first | exact trivial | refine ⟨?_, ?_⟩ | kernel_rfl))); done), (by (repeat' ((conv => whnf) <;> (first | exact trivial | refine ⟨?_, ?_⟩ | exact rfl | (simp only [List.map_append, List.map_cons, List.map_nil, List.map_set]; first | done | rfl)))); done)⟩) | (guard_target = Gh _ _ _ _ _; refine Gh.go ⟨((pairE 7 (.mk x1 x2 x3) (leafE 3 k), k + 1) : XExpr × Nat), (by (have hb : ¬ bitV k atom = 0 := (by assumption); have hk : ¬ (k : Int) = 0 := h; exact ⟨by show k + 1 ≤ _; omega, .inr (at_s hk (lit_n hb) (ha.2.resolve_left (by omega)))⟩)), (by first | (show _ < _; simp only []; omega) | omega | (simp; omega)), (by (repeat' ((conv => whnf) <;> (first | exact trivial | refine ⟨?_, ?_⟩ | kernel_rfl))); done), (by (repeat' ((conv => whnf) <;> (first | exact trivial | refine ⟨?_, ?_⟩ | kernel_rfl))); done), (by (repeat' ((conv => whnf) <;> (first | exact trivial | refine ⟨?_, ?_⟩ | exact rfl | (simp only [List.map_append, List.map_cons, List.map_nil, List.map_set]; first | done | rfl)))); done)⟩) | (guard_target = Fact _ _; refine Fact.mk fun hL => ?_; (try simp only [List.length_map, maxLen] at hL)) | (guard_target = Branch _ _ _; (first | refine Branch.dec ?_ ?_ | refine Branch.beq ?_ ?_ | refine Branch.bne ?_ ?_ | refine Branch.ndec ?_ ?_ | refine Branch.nb ?_ ?_ | refine Branch.mk ?_ ?_) <;> intro h <;> (try simp only [List.length_map] at h) <;> (try omega) <;> (try contradiction)) | (guard_target = CallN _ 250 _ _ _ _; refine CallN.gen [] _ _ _ rfl (hl k) rfl rfl _ rfl ?_) | (guard_target = CallN _ 108 _ _ _ _; refine CallN.gen [false, true] _ _ _ rfl (tree_ok 5 [leafE 3 k]) rfl rfl _ rfl ?_) | (guard_target = CallN _ 108 _ _ _ _; refine CallN.gen [false, true] _ _ _ rfl (tree_ok 7 [_, notE (leafE 3 k)]) rfl rfl _ rfl ?_) | (guard_target = CallN _ 108 _ _ _ _; refine CallN.gen [false, true] _ _ _ rfl (tree_ok 7 [_, leafE 3 k]) rfl rfl _ rfl ?_) | (guard_target = Gh _ _ _ _ _; refine Gh.frz 3 (.ro 3 []) rfl (Gh.soft 5 (.cc rfl) (Gh.go ?_))) | (guard_target = Arith _ _ _; refine Arith.fit (wrap_fit (by first | omega | (simp only [List.length_map]; omega)) (by first | omega | (simp only [List.length_map]; omega))) ?_) | (guard_target = Arith _ _ _; refine Arith.fit (by decide) ?_) | (guard_target = Index _ _ _; first  | refine Index.mk _ (idx_map (by omega)) ?_) | (guard_target = Need (_ = true) _; refine Need.mk (by first | kernel_rfl | rfl) ?_) | (guard_target = LinkV _ _ _; first  | refine LinkV.no ?_) | (guard_target = GhO _ _ _ _; refine GhO.go ?_) | (guard_target = Need _ _; refine Need.mk (by first  | omega | (simp only [List.length_map]; omega)) ?_))
    all_goals first | rfl | trivial | (have e9 : k = t.toNat := (by omega); rw [← e9, ← ha.2.resolve_left (by omega)]; done)
theorem l02AtomExpr_ok (atom : Int) (e : XExpr) (he : atE atom t.toNat = e) : CallX Tryz.prog 211 [.a 2 [J t, J a], I atom] [] (.a 3 (encExpr e)) := by
  subst he
  refine callX_of_vc htb hm Tryz.func211 rfl rfl rfl rfl (ann := fun _ => none) (gh := fun reg_ => match reg_ with | 6 => true | 8 => true | _ => false) ?_
  repeat' ((conv => whnf); first | (guard_target = Done _; refine Done.mk ?_) | (guard_target = RetX _ _; refine RetX.mk ?_ ?_) | (guard_target =~ LoopE 3 _ _ _ _ _ _; refine LoopE.mk { α := XExpr × Nat, keep := [1, 2, 4, 5], ov := fun ⟨x, k⟩ => [(6, I (k : Nat))], hv := fun ⟨x, k⟩ => [(4, .cc 3 (encExpr x))], φ := fun ⟨x, k⟩ => k ≤ t.toNat ∧ x = atE atom k, μ := fun ⟨x, k⟩ => t.toNat - k } (LoopN.mk ((leafE 2 0, 0) : XExpr × Nat) (by exact ⟨Nat.zero_le _, rfl⟩) (by (repeat' ((conv => whnf) <;> (first | exact trivial | refine ⟨?_, ?_⟩ | kernel_rfl))); done) (by (repeat' ((conv => whnf) <;> (first | exact trivial | refine ⟨?_, ?_⟩ | kernel_rfl))); done) (by (repeat' ((conv => whnf) <;> (first | exact trivial | refine ⟨?_, ?_⟩ | exact rfl | (simp only [List.map_append, List.map_cons, List.map_nil, List.map_set]; first | done | rfl)))); done) (fun A ha => ?_) (by intro A; first | rfl | (obtain ⟨_, _⟩ := A; rfl) | (obtain ⟨_, _, _⟩ := A; rfl))); obtain ⟨x, k⟩ := A; have ha : k ≤ t.toNat ∧ x = atE atom k := ha; rcases x with ⟨x1, x2, x3⟩) | (guard_target = Gh _ _ _ _ _; refine Gh.go ⟨((notE (leafE 3 k), k + 1) : XExpr × Nat), (by (have hb : bitV k atom = 0 := (by assumption); have hk : (k : Int) = 0 := h; exact ⟨by show k + 1 ≤ _; omega, at_0 hk (lit_y hb)⟩)), (by first | (show _ < _; simp only []; omega) | omega | (simp; omega)), (by (repeat' ((conv => whnf) <;> (first | exact trivial | refine ⟨?_, ?_⟩ | kernel_rfl))); done), (by (repeat' ((conv => whnf) <;> (first | exact trivial | refine ⟨?_, ?_⟩ | kernel_rfl))); done), (by (repeat' ((conv => whnf) <;> (first | exact trivial | refine ⟨?_, ?_⟩ | exact rfl | (simp only [List.map_append, List.map_cons, List.map_nil, List.map_set]; first | done | rfl)))); done)⟩) | (guard_target = Gh _ _ _ _ _; refine Gh.go ⟨((leafE 3 k, k + 1) : XExpr × Nat), (by (have hb : ¬ bitV k atom = 0 := (by assumption); have hk : (k : Int) = 0 := h; exact ⟨by show k + 1 ≤ _; omega, at_0 hk (lit_n hb)⟩)), (by first | (show _ < _; simp only []; omega) | omega | (simp; omega)), (by (repeat' ((conv => whnf) <;> (first | exact trivial | refine ⟨?_, ?_⟩ | kernel_rfl))); done), (by (repeat' ((conv => whnf) <;> (first | exact trivial | refine ⟨?_, ?_⟩ | kernel_rfl))); done), (by (repeat' ((conv => whnf) <;> (first | exact trivial | refine ⟨?_, ?_⟩ | exact rfl | (simp only [List.map_append, List.map_cons, List.map_nil, List.map_set]; first | done | rfl)))); done)⟩) | (guard_target = Gh _ _ _ _ _; refine Gh.go ⟨((pairE 7 (.mk x1 x2 x3) (notE (leafE 3 k)), k + 1) : XExpr × Nat), (by (have hb : bitV k atom = 0 := (by assumption); have hk : ¬ (k : Int) = 0 := h; exact ⟨by show k + 1 ≤ _; omega, at_s hk (lit_y hb) ha.2⟩)), (by first | (show _ < _; simp only []; omega) | omega | (simp; omega)), (by (repeat' ((conv => whnf) <;> (first | exact trivial | refine ⟨?_, ?_⟩ | kernel_rfl))); done), (by (repeat' ((conv => whnf) <;> (first | exact trivial | refine ⟨?_, ?_⟩ | kernel_rfl))); done), (by (repeat' ((conv => whnf) <;> (first | exact trivial | refine ⟨?_, ?_⟩ | exact rfl | (simp only [List.map_append, List.map_cons, List.map_nil, List.map_set]; first | done | rfl)))); done)⟩) | (guard_target = Gh _ _ _ _ _; refine Gh.go ⟨((pairE 7 (.mk x1 x2 x3) (leafE 3 k), k + 1) : XExpr × Nat), (by (have hb : ¬ bitV k atom = 0 := (by assumption); have hk : ¬ (k : Int) = 0 := h; exact ⟨by show k + 1 ≤ _; omega, at_s hk (lit_n hb) ha.2⟩)), (by first | (show _ < _; simp only []; omega) | omega | (simp; omega)), (by (repeat' ((conv => whnf) <;> (first | exact trivial | refine ⟨?_, ?_⟩ | kernel_rfl))); done), (by (repeat' ((conv => whnf) <;> (first | exact trivial | refine ⟨?_, ?_⟩ | kernel_rfl))); done), (by (repeat' ((conv => whnf) <;> (first | exact trivial | refine ⟨?_, ?_⟩ | exact rfl | (simp only [List.map_append, List.map_cons, List.map_nil, List.map_set]; first | done | rfl)))); done)⟩) | (guard_target = Fact _ _; refine Fact.mk fun hL => ?_; (try simp only [List.length_map, maxLen] at hL)) | (guard_target = Branch _ _ _; (first | refine Branch.dec ?_ ?_ | refine Branch.beq ?_ ?_ | refine Branch.bne ?_ ?_ | refine Branch.ndec ?_ ?_ | refine Branch.nb ?_ ?_ | refine Branch.mk ?_ ?_) <;> intro h <;> (try simp only [List.length_map] at h) <;> (try omega) <;> (try contradiction)) | (guard_target = CallN _ 245 _ _ _ _; refine CallN.gen [] _ _ _ rfl (l02One_ok) rfl rfl _ rfl ?_) | (guard_target = CallN _ 161 _ _ _ _; refine CallN.gen [] _ _ _ rfl (l02Pair_ok 7 (.mk x1 x2 x3) (notE (leafE 3 k))) rfl rfl _ rfl ?_) | (guard_target = CallN _ 161 _ _ _ _; refine CallN.gen [] _ _ _ rfl (l02Pair_ok 7 (.mk x1 x2 x3) (leafE 3 k)) rfl rfl _ rfl ?_) | (guard_target = Arith IntKind.u64 _ _; refine Arith.fit (u64_fit (by omega) (by omega)) ?_) | (guard_target = Gh _ _ _ _ _; refine Gh.frz 5 (.ro 3 []) rfl (Gh.soft 7 (.cc rfl) (Gh.go ?_))) | (guard_target = Gh _ _ _ _ _; refine Gh.frz 8 (.ro 3 [encExpr (leafE 3 k)]) rfl (Gh.soft 7 (.cc rfl) (Gh.go ?_))) | (guard_target = Gh _ _ _ _ _; (have hb : ¬ bitV k atom = 0 := h); refine Gh.go ?_) | (guard_target = Arith _ _ _; refine Arith.fit (wrap_fit (by first | omega | (simp only [List.length_map]; omega)) (by first | omega | (simp only [List.length_map]; omega))) ?_) | (guard_target = Arith _ _ _; refine Arith.fit (by decide) ?_) | (guard_target = Index _ _ _; first  | refine Index.mk _ (idx_map (by omega)) ?_) | (guard_target = Need (_ = true) _; refine Need.mk (by first | kernel_rfl | rfl) ?_) | (guard_target = LinkV _ _ _; first  | refine LinkV.no ?_) | (guard_target = GhO _ _ _ _; refine GhO.go ?_) | (guard_target = Need _ _; refine Need.mk (by first  | omega | (simp only [List.length_map]; omega)) ?_))
  all_goals first | rfl | trivial | (have e9 : k = t.toNat := (by omega); rw [← e9, ← ha.2]; done)
end
end Go.Proofs.YtmpcfplelpdbhaaGreat

namespace Go.Proofs.YtmpcfplelpdbhaaGreat
open Go Go.KA Go.Proofs
set_option maxHeartbeats 16000000
set_option maxRecDepth 100000
def sumE (es : List XExpr) : XExpr := es.foldl (pairE 6) (leafE 1 0)
def ofE (T : Nat) (L : List Int) : XExpr := sumE (L.map fun z => atE z T)
theorem sum_step {es : List XExpr} {i : Nat} (h : i < es.length) {s e d : XExpr} (hs : s = sumE (es.take i)) (he : es.getD i d = e) : pairE 6 s e = sumE (es.take (i + 1)) := by
  unfold sumE
  rw [fold_step _ _ _ h, ← getD_eq (d := d) h, he, hs]
  rfl
theorem sumOf_ro (es : List XExpr) (e : XExpr) (he : sumE es = e) : CallX Tryz.prog 222 [.c (.ro 3 (es.map encExpr))] [] (.a 3 (encExpr e)) := by
  subst he
  have h0 := leaf_ok 1 0
  refine callX_of_vc htb hm Tryz.func222 rfl rfl rfl rfl (ann := fun _ => none) (gh := fun _ => false) ?_
  repeat' ((conv => whnf); first | (guard_target = Done _; refine Done.mk ?_) | (guard_target = RetX _ _; refine RetX.mk ?_ ?_) | (guard_target =~ LoopE 3 _ _ _ _ _ _; refine LoopE.mk { α := XExpr × Nat, keep := [2, 3, 7, 8], ov := fun ⟨s, i⟩ => [(9, I (i : Nat))], hv := fun ⟨s, i⟩ => [(3, .cc 3 (encExpr s))], φ := fun ⟨s, i⟩ => i ≤ es.length ∧ s = sumE (es.take i), μ := fun ⟨s, i⟩ => es.length - i } (LoopN.mk ((leafE 1 0, 0) : XExpr × Nat) (by exact ⟨Nat.zero_le _, rfl⟩) (by (repeat' ((conv => whnf) <;> (first | exact trivial | refine ⟨?_, ?_⟩ | kernel_rfl))); done) (by (repeat' ((conv => whnf) <;> (first | exact trivial | refine ⟨?_, ?_⟩ | kernel_rfl))); done) (by (repeat' ((conv => whnf) <;> (first | exact trivial | refine ⟨?_, ?_⟩ | exact rfl | (simp only [List.map_append, List.map_cons, List.map_nil, List.map_set]; first | done | rfl)))); done) (fun A ha => ?_) (by intro A; first | rfl | (obtain ⟨_, _⟩ := A; rfl) | (obtain ⟨_, _, _⟩ := A; rfl))); obtain ⟨s, i⟩ := A; have ha : i ≤ es.length ∧ s = sumE (es.take i) := ha; obtain ⟨k, n, ks, he⟩ := ex_mk (es.getD i (leafE 0 0)); rcases s with ⟨x1, x2, x3⟩) | (guard_target = Gh _ _ _ _ _; refine Gh.go ⟨((pairE 6 (.mk x1 x2 x3) (.mk k n ks), i + 1) : XExpr × Nat), (by exact ⟨by show i + 1 ≤ _; omega, sum_step (by omega) ha.2 he⟩), (by first | (show _ < _; simp only []; omega) | omega | (simp; omega)), (by (repeat' ((conv => whnf) <;> (first | exact trivial | refine ⟨?_, ?_⟩ | kernel_rfl))); done), (by (repeat' ((conv => whnf) <;> (first | exact trivial | refine ⟨?_, ?_⟩ | kernel_rfl))); done), (by (repeat' ((conv => whnf) <;> (first | exact trivial | refine ⟨?_, ?_⟩ | exact rfl | (simp only [List.map_append, List.map_cons, List.map_nil, List.map_set]; first | done | rfl)))); done)⟩) | (guard_target = Fact _ _; refine Fact.mk fun hL => ?_; (try simp only [List.length_map, maxLen] at hL)) | (guard_target = Branch _ _ _; (first | refine Branch.dec ?_ ?_ | refine Branch.beq ?_ ?_ | refine Branch.bne ?_ ?_ | refine Branch.ndec ?_ ?_ | refine Branch.nb ?_ ?_ | refine Branch.mk ?_ ?_) <;> intro h <;> (try simp only [List.length_map] at h) <;> (try omega) <;> (try contradiction)) | (guard_target = CallN _ 250 _ _ _ _; refine CallN.gen [] _ _ _ rfl (h0) rfl rfl _ rfl ?_) | (guard_target = CallN _ 108 _ _ _ _; refine CallN.gen [false, true] _ _ _ rfl (tree_ok 6 [_, _]) rfl rfl _ rfl ?_) | (guard_target = Arith _ _ _; refine Arith.fit (wrap_fit (by first | omega | (simp only [List.length_map]; omega)) (by first | omega | (simp only [List.length_map]; omega))) ?_) | (guard_target = Arith _ _ _; refine Arith.fit (by decide) ?_) | (guard_target = Index _ _ _; first | refine Index.mk _ (idx_mk (by omega) he) ?_ | refine Index.mk _ (idx_map (by omega)) ?_) | (guard_target = Need (_ = true) _; refine Need.mk (by first | kernel_rfl | rfl) ?_) | (guard_target = LinkV _ _ _; first  | refine LinkV.no ?_) | (guard_target = GhO _ _ _ _; refine GhO.go ?_) | (guard_target = Need _ _; refine Need.mk (by first  | omega | (simp only [List.length_map]; omega)) ?_))
  all_goals first | rfl | trivial | (have h9 := ha.2; rw [List.take_of_length_le (by omega)] at h9; rw [← h9]; done)
theorem sumOf_ok (es : List XExpr) (e : XExpr) (he : sumE es = e) : CallX Tryz.prog 222 [.c (.ows 37 3 (es.map encExpr))] [] (.a 3 (encExpr e)) := (sumOf_ro es e he).give (.c .nil)
theorem cond_next {T i : Nat} {L : List Int} {es : List XExpr} {x : XExpr} (hi : i < L.length) (h : es = (L.take i).map fun z => atE z T) (hx : atE L[i] T = x) : es ++ [x] = (L.take (i + 1)).map fun z => atE z T := by
  rw [take_map_next hi, hx, h]
theorem cond_sum {T i : Nat} {L : List Int} {s x : XExpr} (hi : i < L.length) (h : s = sumE ((L.take i).map fun z => atE z T)) (hx : atE L[i] T = x) : pairE 6 s x = sumE ((L.take (i + 1)).map fun z => atE z T) := by
  rw [take_map_next hi, hx, h]
  unfold sumE
  rw [List.foldl_append]
  rfl
section
variable (t a : Int) (ht : 0 ≤ t ∧ t ≤ 3)
include ht
theorem ofAtoms_ok (L : List Int) (hL : L.length ≤ 1000) (e : XExpr) (he : ofE t.toNat L = e) : CallX Tryz.prog 170 [.a 2 [J t, J a], .c (.ro 1 (L.map eI))] [] (.a 3 (encExpr e)) := by
  have hc := fun z e => conditionOf_ok t a ht z e
  obtain ⟨k, n, ks, hmk⟩ := ex_mk e
  refine callX_of_vc htb hm Tryz.func170 rfl rfl rfl rfl (ann := fun _ => none) (gh := fun _ => false) ?_
  repeat' ((conv => whnf); first | (guard_target = Done _; refine Done.mk ?_) | (guard_target = RetX _ _; refine RetX.mk ?_ ?_) | (guard_target =~ LoopE 3 _ _ _ _ _ _; refine LoopE.mk { α := List XExpr × Nat, keep := [2, 4, 9, 10], ov := fun ⟨es, i⟩ => [(5, .lw 3), (11, I (i : Nat))], hv := fun ⟨es, i⟩ => [(3, .row none 37 3 (es.map encExpr))], φ := fun ⟨es, i⟩ => i ≤ L.length ∧ es = (L.take i).map (fun z => atE z t.toNat), μ := fun ⟨es, i⟩ => L.length - i } (LoopN.mk (([], 0) : List XExpr × Nat) (by exact ⟨Nat.zero_le _, rfl⟩) (by (repeat' ((conv => whnf) <;> (first | exact trivial | refine ⟨?_, ?_⟩ | kernel_rfl))); done) (by (repeat' ((conv => whnf) <;> (first | exact trivial | refine ⟨?_, ?_⟩ | kernel_rfl))); done) (by (repeat' ((conv => whnf) <;> (first | exact trivial | refine ⟨?_, ?_⟩ | exact rfl | (simp only [List.map_append, List.map_cons, List.map_nil, List.map_set]; first | done | rfl)))); done) (fun A ha => ?_) (by intro A; first | rfl | (obtain ⟨_, _⟩ := A; rfl) | (obtain ⟨_, _, _⟩ := A; rfl))); obtain ⟨es, i⟩ := A; have ha : i ≤ L.length ∧ es = (L.take i).map (fun z => atE z t.toNat) := ha; have hel : es.length = i := (by rw [ha.2, List.length_map, List.length_take]; omega)) | (guard_target = Gh _ _ _ _ _; refine Gh.go ⟨((es ++ [.mk x1 x2 x3], i + 1) : List XExpr × Nat), (by exact ⟨by show i + 1 ≤ _; omega, cond_next (by omega) ha.2 hx⟩), (by first | (show _ < _; simp only []; omega) | omega | (simp; omega)), (by (repeat' ((conv => whnf) <;> (first | exact trivial | refine ⟨?_, ?_⟩ | kernel_rfl))); done), (by (repeat' ((conv => whnf) <;> (first | exact trivial | refine ⟨?_, ?_⟩ | kernel_rfl))); done), (by (repeat' ((conv => whnf) <;> (first | exact trivial | refine ⟨?_, ?_⟩ | exact rfl | (simp only [List.map_append, List.map_cons, List.map_nil]; first | done | rfl)))); done)⟩) | (guard_target = Fact _ _; refine Fact.mk fun hL => ?_; (try simp only [List.length_map, maxLen] at hL)) | (guard_target = Branch _ _ _; (first | refine Branch.dec ?_ ?_ | refine Branch.beq ?_ ?_ | refine Branch.bne ?_ ?_ | refine Branch.ndec ?_ ?_ | refine Branch.nb ?_ ?_ | refine Branch.mk ?_ ?_) <;> intro h <;> (try simp only [List.length_map] at h) <;> (try omega) <;> (try contradiction)) | (guard_target = CallN _ 221 _ _ _ _; obtain ⟨x1, x2, x3, hx⟩ := ex_mk (atE L[i] t.toNat); refine CallN.gen [] _ _ _ rfl (hc L[i] (.mk x1 x2 x3) hx) rfl rfl _ rfl ?_) | (guard_target = CallN _ 222 _ _ _ _; (have h9 := ha.2; rw [List.take_of_length_le (by omega)] at h9); refine CallN.gen [true] _ _ _ rfl (sumOf_ok es (.mk k n ks) (by rw [h9, ← hmk]; exact he)) rfl rfl _ rfl ?_) | (guard_target = Arith _ _ _; refine Arith.fit (wrap_fit (by first | omega | (simp only [List.length_map]; omega)) (by first | omega | (simp only [List.length_map]; omega))) ?_) | (guard_target = Arith _ _ _; refine Arith.fit (by decide) ?_) | (guard_target = Index _ _ _; first | refine Index.mk _ (idx_map (l := L) (i := i) (by omega)) ?_ | refine Index.mk _ (idx_map (by omega)) ?_) | (guard_target = Need (_ = true) _; refine Need.mk (by first | kernel_rfl | rfl) ?_) | (guard_target = LinkV _ _ _; first  | refine LinkV.no ?_) | (guard_target = GhO _ _ _ _; refine GhO.go ?_) | (guard_target = Need _ _; refine Need.mk (by first | ((simp only [List.length_map, List.length_cons, List.length_nil, maxLen]; constructor <;> omega)) | omega | (simp only [List.length_map]; omega)) ?_))
  all_goals first | rfl | trivial | (rw [hmk]; done)
theorem l07Of_ok (L : List Int) (e : XExpr) (he : ofE t.toNat L = e) : CallX Tryz.prog 159 [.a 2 [J t, J a], .c (.ro 1 (L.map eI))] [] (.a 3 (encExpr e)) := by
  have hc := fun z e => l02AtomExpr_ok t a ht z e
  subst he
  refine callX_of_vc htb hm Tryz.func159 rfl rfl rfl rfl (ann := fun _ => none) (gh := fun _ => false) ?_
  repeat' ((conv => whnf); first | (guard_target = Done _; refine Done.mk ?_) | (guard_target = RetX _ _; refine RetX.mk ?_ ?_) | (guard_target =~ LoopE 3 _ _ _ _ _ _; refine LoopE.mk { α := XExpr × Nat, keep := [1, 2, 4, 5], ov := fun ⟨s, i⟩ => [(6, I (i : Nat))], hv := fun ⟨s, i⟩ => [(4, .cc 3 (encExpr s))], φ := fun ⟨s, i⟩ => i ≤ L.length ∧ s = sumE ((L.take i).map fun z => atE z t.toNat), μ := fun ⟨s, i⟩ => L.length - i } (LoopN.mk ((leafE 1 0, 0) : XExpr × Nat) (by exact ⟨Nat.zero_le _, rfl⟩) (by (repeat' ((conv => whnf) <;> (first | exact trivial | refine ⟨?_, ?_⟩ | kernel_rfl))); done) (by (repeat' ((conv => whnf) <;> (first | exact trivial | refine ⟨?_, ?_⟩ | kernel_rfl))); done) (by (repeat' ((conv => whnf) <;> (first | exact trivial | refine ⟨?_, ?_⟩ | exact rfl | (simp only [List.map_append, List.map_cons, List.map_nil, List.map_set]; first | done | rfl)))); done) (fun A ha => ?_) (by intro A; first | rfl | (obtain ⟨_, _⟩ := A; rfl) | (obtain ⟨_, _, _⟩ := A; rfl))); obtain ⟨s, i⟩ := A; have ha : i ≤ L.length ∧ s = sumE ((L.take i).map fun z => atE z t.toNat) := ha; rcases s with ⟨s1, s2, s3⟩) | (guard_target = Gh _ _ _ _ _; refine Gh.go ⟨((pairE 6 (.mk s1 s2 s3) (.mk x1 x2 x3), i + 1) : XExpr × Nat), (by exact ⟨by show i + 1 ≤ _; omega, cond_sum (by omega) ha.2 hx⟩), (by first | (show _ < _; simp only []; omega) | omega | (simp; omega)), (by (repeat' ((conv => whnf) <;> (first | exact trivial | refine ⟨?_, ?_⟩ | kernel_rfl))); done), (by (repeat' ((conv => whnf) <;> (first | exact trivial | refine ⟨?_, ?_⟩ | kernel_rfl))); done), (by (repeat' ((conv => whnf) <;> (first | exact trivial | refine ⟨?_, ?_⟩ | exact rfl | (simp only [List.map_append, List.map_cons, List.map_nil, List.map_set]; first | done | rfl)))); done)⟩) | (guard_target = Fact _ _; refine Fact.mk fun hL => ?_; (try simp only [List.length_map, maxLen] at hL)) | (guard_target = Branch _ _ _; (first | refine Branch.dec ?_ ?_ | refine Branch.beq ?_ ?_ | refine Branch.bne ?_ ?_ | refine Branch.ndec ?_ ?_ | refine Branch.nb ?_ ?_ | refine Branch.mk ?_ ?_) <;> intro h <;> (try simp only [List.length_map] at h) <;> (try omega) <;> (try contradiction)) | (guard_target = CallN _ 210 _ _ _ _; refine CallN.gen [] _ _ _ rfl (l02Zero_ok) rfl rfl _ rfl ?_) | (guard_target = CallN _ 161 _ _ _ _; refine CallN.gen [] _ _ _ rfl (l02Pair_ok 6 _ _) rfl rfl _ rfl ?_) | (guard_target = CallN _ 211 _ _ _ _; obtain ⟨x1, x2, x3, hx⟩ := ex_mk (atE L[i] t.toNat); refine CallN.gen [] _ _ _ rfl (hc L[i] (.mk x1 x2 x3) hx) rfl rfl _ rfl ?_) | (guard_target = Arith _ _ _; refine Arith.fit (wrap_fit (by first | omega | (simp only [List.length_map]; omega)) (by first | omega | (simp only [List.length_map]; omega))) ?_) | (guard_target = Arith _ _ _; refine Arith.fit (by decide) ?_) | (guard_target = Index _ _ _; first | refine Index.mk _ (idx_map (l := L) (i := i) (by omega)) ?_ | refine Index.mk _ (idx_map (by omega)) ?_) | (guard_target = Need (_ = true) _; refine Need.mk (by first | kernel_rfl | rfl) ?_) | (guard_target = LinkV _ _ _; first  | refine LinkV.no ?_) | (guard_target = GhO _ _ _ _; refine GhO.go ?_) | (guard_target = Need _ _; refine Need.mk (by first  | omega | (simp only [List.length_map]; omega)) ?_))
  all_goals first | rfl | trivial | (have h9 := ha.2; rw [List.take_of_length_le (by omega)] at h9; rw [h9]; rfl)
variable (l : List XPremise) (hl : PremOk t a l) (N : Nat) (hN : atomsN t = N ∧ 1 ≤ N ∧ N ≤ 8)
include hl hN
def weakE (t : Int) (N : Nat) (l : List XPremise) (p : XProg) (c : XExpr) : XExpr := ofE t.toNat (selR N (sureP N (ldR N l p) c))
theorem weak_ok (p : XProg) (hp : POk t a p) (c : XExpr) (hc : okC t a c) (e : XExpr) (he : weakE t N l p c = e) : CallX Tryz.prog 107 [.a 3 [J t, J a, .ro 7 (l.map encPremise)], .a 6 (encProg p), .a 3 (encExpr c)] [] (.a 3 (encExpr e)) := by
  obtain ⟨k, n, ks, rfl⟩ := ex_mk e
  have hw := weakest_ok t a ht l hl N hN p hp c hc
  have ho := ofAtoms_ok t a ht (selR N (sureP N (ldR N l p) c)) (by have := selR_len N (sureP N (ldR N l p) c); omega) (.mk k n ks) he
  refine callX_of_vc htb hm Tryz.func107 rfl rfl rfl rfl (ann := fun _ => none) (gh := fun _ => false) ?_
  repeat' ((conv => whnf); first | (guard_target = Done _; refine Done.mk ?_) | (guard_target = RetX _ _; refine RetX.mk ?_ ?_) | (guard_target = Fact _ _; refine Fact.mk fun hL => ?_; (try simp only [List.length_map, maxLen] at hL)) | (guard_target = Branch _ _ _; (first | refine Branch.dec ?_ ?_ | refine Branch.beq ?_ ?_ | refine Branch.bne ?_ ?_ | refine Branch.ndec ?_ ?_ | refine Branch.nb ?_ ?_ | refine Branch.mk ?_ ?_) <;> intro h <;> (try simp only [List.length_map] at h) <;> (try omega) <;> (try contradiction)) | (guard_target = CallN _ 104 _ _ _ _; refine CallN.gen [] _ _ _ rfl (hw) rfl rfl _ rfl ?_) | (guard_target = CallN _ 170 _ _ _ _; refine CallN.gen [] _ _ _ rfl (ho) rfl rfl _ rfl ?_) | (guard_target = Arith _ _ _; refine Arith.fit (wrap_fit (by first | omega | (simp only [List.length_map]; omega)) (by first | omega | (simp only [List.length_map]; omega))) ?_) | (guard_target = Arith _ _ _; refine Arith.fit (by decide) ?_) | (guard_target = Index _ _ _; first  | refine Index.mk _ (idx_map (by omega)) ?_) | (guard_target = Need (_ = true) _; refine Need.mk (by first | kernel_rfl | rfl) ?_) | (guard_target = LinkV _ _ _; first  | refine LinkV.no ?_) | (guard_target = GhO _ _ _ _; refine GhO.go ?_) | (guard_target = Need _ _; refine Need.mk (by first  | omega | (simp only [List.length_map]; omega)) ?_))
  all_goals first | rfl | trivial
abbrev finC (t a : Int) (l : List XPremise) (left : Int) (bad : Bool) : List CV := [J t, J a, .ro 7 (l.map encPremise), J left, .val (.bool bad)]
theorem sure_ok (left : Int) (bad : Bool) (p : XProg) (hp : POk t a p) (c : XExpr) (hc : okC t a c) (e : XExpr) (he : weakE t N l p c = e) : CallX Tryz.prog 92 [.c (.op (finC t a l left bad)), .c (.rp 6 (encProg p)), .c (.rp 3 (encExpr c))] [some [.op (finC t a l left bad)], none, none] (.a 3 (encExpr e)) := by
  obtain ⟨k, n, ks, rfl⟩ := ex_mk e
  have hw := l07Sure_ok t a ht l hl N hN p hp c hc
  have ho := l07Of_ok t a ht (selR N (sureP N (ldR N l p) c)) (.mk k n ks) he
  refine callX_of_vc htb hm Tryz.func92 rfl rfl rfl rfl (ann := fun _ => none) (gh := fun _ => false) ?_
  repeat' ((conv => whnf); first | (guard_target = Done _; refine Done.mk ?_) | (guard_target = RetX _ _; refine RetX.mk ?_ ?_) | (guard_target = Fact _ _; refine Fact.mk fun hL => ?_; (try simp only [List.length_map, maxLen] at hL)) | (guard_target = Branch _ _ _; (first | refine Branch.dec ?_ ?_ | refine Branch.beq ?_ ?_ | refine Branch.bne ?_ ?_ | refine Branch.ndec ?_ ?_ | refine Branch.nb ?_ ?_ | refine Branch.mk ?_ ?_) <;> intro h <;> (try simp only [List.length_map] at h) <;> (try omega) <;> (try contradiction)) | (guard_target = CallN _ 160 _ _ _ _; refine CallN.gen [] _ _ _ rfl (hw) rfl rfl _ rfl ?_) | (guard_target = CallN _ 159 _ _ _ _; refine CallN.gen [] _ _ _ rfl (ho) rfl rfl _ rfl ?_) | (guard_target = Arith _ _ _; refine Arith.fit (wrap_fit (by first | omega | (simp only [List.length_map]; omega)) (by first | omega | (simp only [List.length_map]; omega))) ?_) | (guard_target = Arith _ _ _; refine Arith.fit (by decide) ?_) | (guard_target = Index _ _ _; first  | refine Index.mk _ (idx_map (by omega)) ?_) | (guard_target = Need (_ = true) _; refine Need.mk (by first | kernel_rfl | rfl) ?_) | (guard_target = LinkV _ _ _; first  | refine LinkV.no ?_) | (guard_target = GhO _ _ _ _; refine GhO.go ?_) | (guard_target = Need _ _; refine Need.mk (by first  | omega | (simp only [List.length_map]; omega)) ?_))
  all_goals first | rfl | trivial | exact ⟨rfl, trivial⟩
end
end Go.Proofs.YtmpcfplelpdbhaaGreat
