/- Contracts of the copies of expressions: they own their memory. No conditions but the number of the parts. -/
import Derived.Test.YthgajpkahkhlpaaGreatZA
import Derived.Test.YthgajpkahkhlpaaGreatEngY
namespace Go.Proofs.YthgajpkahkhlpaaGreat
open Go Go.KA Go.Proofs
set_option maxHeartbeats 16000000
set_option maxRecDepth 100000
abbrev ownT (x : XExpr) : List CV := [J x.kind, J x.num, .own 37 3 (x.kids.map ownExpr)]
theorem own_next {l : List XExpr} {i : Nat} {rows : List (List CV)} (hi : i < l.length) (h : rows = (l.take i).map ownExpr) : rows ++ [ownT l[i]] = (l.take (i + 1)).map ownExpr := by
  rw [take_map_next hi, h, ownExpr_eq]
theorem copyExpr_all (x : XExpr) (hl : x.kids.length ≤ 1048576) (hx : ∀ k ∈ x.kids, CallX Tryz.prog 141 [.a 3 (encExpr k)] [] (.a 3 (ownT k))) : CallX Tryz.prog 141 [.a 3 (toldE x)] [] (.a 3 (ownT x)) := by
  refine callX_of_vc htb hm Tryz.func141 rfl rfl rfl rfl (ann := fun _ => none) (gh := fun _ => false) ?_
  repeat' ((conv => whnf); first | (guard_target = Done _; refine Done.mk ?_) | (guard_target = RetX _ _; refine RetX.mk ?_ ?_) | (guard_target =~ LoopE 3 _ _ _ _ _ _; refine LoopE.mk { α := Nat × List (List CV), keep := [2, 3, 12, 13], ov := fun ⟨i, rows⟩ => [(14, I (i : Nat))], hv := fun ⟨i, rows⟩ => [(5, .cells [.c (J x.kind), .c (J x.num), .lw 3]), (3, .orow none 37 3 rows)], φ := fun ⟨i, rows⟩ => i ≤ x.kids.length ∧ rows = (x.kids.take i).map ownExpr, μ := fun ⟨i, rows⟩ => x.kids.length - i } (LoopN.mk ((0, []) : Nat × List (List CV)) (by exact ⟨Nat.zero_le _, rfl⟩) (by repeat' first | exact trivial | exact rfl | constructor) (by repeat' first | exact trivial | exact rfl | constructor) (by (repeat' first | exact trivial | exact rfl | refine ⟨?_, ?_⟩ | (simp only [List.map_append, List.map_cons, List.map_nil, List.map_set]; first | done | rfl)); done) (fun A ha => ?_) (by intro A; first | rfl | (obtain ⟨_, _⟩ := A; rfl) | (obtain ⟨_, _, _⟩ := A; rfl))); obtain ⟨i, rows⟩ := A; have ha : i ≤ x.kids.length ∧ rows = (x.kids.take i).map ownExpr := ha; have hrl : rows.length = i := (by rw [ha.2, List.length_map, List.length_take]; omega)) | (guard_target = Gh _ _ _ _ _; refine Gh.go ⟨((i + 1, rows ++ [ownT x.kids[i]]) : Nat × List (List CV)), (by exact ⟨by show i + 1 ≤ _; omega, own_next (by omega) ha.2⟩), (by first | (show _ < _; simp only []; omega) | omega | (simp; omega)), (by repeat' first | exact trivial | exact rfl | constructor), (by repeat' first | exact trivial | exact rfl | constructor), (by (repeat' first | exact trivial | exact rfl | refine ⟨?_, ?_⟩ | (simp only [List.map_append, List.map_cons, List.map_nil, List.map_set]; first | done | rfl)); done)⟩) | (guard_target = Fact _ _; refine Fact.mk fun hL => ?_; (try simp only [List.length_map, maxLen] at hL)) | (guard_target = Branch _ _ _; (first | apply Branch.dec | apply Branch.beq | apply Branch.bne | apply Branch.ndec | apply Branch.nb | apply Branch.mk) <;> intro h <;> (try simp only [List.length_map] at h) <;> (try omega) <;> (try contradiction)) | (guard_target = CallN _ 141 _ _ _ _; refine CallN.gen [] _ _ _ rfl (hx _ (List.getElem_mem (by omega))) rfl rfl _ rfl ?_) | (guard_target = Arith _ _ _; refine Arith.fit (by apply wrap_fit <;> first | omega | (simp only [List.length_map]; omega)) ?_) | (guard_target = Arith _ _ _; refine Arith.fit (by decide) ?_) | (guard_target = Index _ _ _; first | refine Index.mk _ (idx_map (i := i) (by omega)) ?_ | refine Index.mk _ (idx_map (by omega)) ?_) | (guard_target = Need (_ = true) _; refine Need.mk (by first | kernel_rfl | rfl) ?_) | (guard_target = LinkV _ _ _; refine LinkV.no ?_) | (guard_target = GhO _ _ _ _; refine GhO.go ?_) | (guard_target = Need _ _; refine Need.mk (by first | ((simp only [List.length_cons, List.length_nil, maxLen]; constructor <;> omega)) | omega | (simp only [List.length_map]; omega)) ?_))
  all_goals first | rfl | trivial | (have h9 := ha.2; rw [List.take_of_length_le (by omega)] at h9; rw [h9]; rfl)
theorem l01Own_all (x : XExpr) (hl : x.kids.length ≤ 1048576) (hx : ∀ k ∈ x.kids, CallX Tryz.prog 126 [.c (.rp 3 (encExpr k))] [] (.a 3 (ownT k))) : CallX Tryz.prog 126 [.c (.rp 3 (toldE x))] [] (.a 3 (ownT x)) := by
  refine callX_of_vc htb hm Tryz.func126 rfl rfl rfl rfl (ann := fun _ => none) (gh := fun _ => false) ?_
  repeat' ((conv => whnf); first | (guard_target = Done _; refine Done.mk ?_) | (guard_target = RetX _ _; refine RetX.mk ?_ ?_) | (guard_target =~ LoopE 3 _ _ _ _ _ _; refine LoopE.mk { α := Nat × List (List CV), keep := [0, 2, 3], ov := fun ⟨i, rows⟩ => [(4, I (i : Nat))], hv := fun ⟨i, rows⟩ => [(4, .cells [.c (J x.kind), .c (J x.num), .lw 2]), (2, .orow none 37 3 rows)], φ := fun ⟨i, rows⟩ => i ≤ x.kids.length ∧ rows = (x.kids.take i).map ownExpr, μ := fun ⟨i, rows⟩ => x.kids.length - i } (LoopN.mk ((0, []) : Nat × List (List CV)) (by exact ⟨Nat.zero_le _, rfl⟩) (by repeat' first | exact trivial | exact rfl | constructor) (by repeat' first | exact trivial | exact rfl | constructor) (by (repeat' first | exact trivial | exact rfl | refine ⟨?_, ?_⟩ | (simp only [List.map_append, List.map_cons, List.map_nil, List.map_set]; first | done | rfl)); done) (fun A ha => ?_) (by intro A; first | rfl | (obtain ⟨_, _⟩ := A; rfl) | (obtain ⟨_, _, _⟩ := A; rfl))); obtain ⟨i, rows⟩ := A; have ha : i ≤ x.kids.length ∧ rows = (x.kids.take i).map ownExpr := ha; have hrl : rows.length = i := (by rw [ha.2, List.length_map, List.length_take]; omega)) | (guard_target = Gh _ _ _ _ _; refine Gh.go ⟨((i + 1, rows ++ [ownT x.kids[i]]) : Nat × List (List CV)), (by exact ⟨by show i + 1 ≤ _; omega, own_next (by omega) ha.2⟩), (by first | (show _ < _; simp only []; omega) | omega | (simp; omega)), (by repeat' first | exact trivial | exact rfl | constructor), (by repeat' first | exact trivial | exact rfl | constructor), (by (repeat' first | exact trivial | exact rfl | refine ⟨?_, ?_⟩ | (simp only [List.map_append, List.map_cons, List.map_nil, List.map_set]; first | done | rfl)); done)⟩) | (guard_target = Fact _ _; refine Fact.mk fun hL => ?_; (try simp only [List.length_map, maxLen] at hL)) | (guard_target = Branch _ _ _; (first | apply Branch.dec | apply Branch.beq | apply Branch.bne | apply Branch.ndec | apply Branch.nb | apply Branch.mk) <;> intro h <;> (try simp only [List.length_map] at h) <;> (try omega) <;> (try contradiction)) | (guard_target = CallN _ 126 _ _ _ _; refine CallN.gen [] _ _ _ rfl (hx _ (List.getElem_mem (by omega))) rfl rfl _ rfl ?_) | (guard_target = Arith _ _ _; refine Arith.fit (by apply wrap_fit <;> first | omega | (simp only [List.length_map]; omega)) ?_) | (guard_target = Arith _ _ _; refine Arith.fit (by decide) ?_) | (guard_target = Index _ _ _; first | refine Index.mk _ (idx_map (i := i) (by omega)) ?_ | refine Index.mk _ (idx_map (by omega)) ?_) | (guard_target = Need (_ = true) _; refine Need.mk (by first | kernel_rfl | rfl) ?_) | (guard_target = LinkV _ _ _; refine LinkV.no ?_) | (guard_target = GhO _ _ _ _; refine GhO.go ?_) | (guard_target = Need _ _; refine Need.mk (by first | ((simp only [List.length_cons, List.length_nil, maxLen]; constructor <;> omega)) | omega | (simp only [List.length_map]; omega)) ?_))
  all_goals first | rfl | trivial | (have h9 := ha.2; rw [List.take_of_length_le (by omega)] at h9; rw [h9]; rfl)
theorem copyExpr_ok (x : XExpr) (hb : budExpr x ≤ 1048576) : CallX Tryz.prog 141 [.a 3 (encExpr x)] [] (.a 3 (ownT x)) := by
  rw [encExpr_eq]
  have h1 : budS budExpr x.kids ≤ budExpr x := by
    cases x
    simp only [budExpr, budExprS_eq, XExpr.kids]
    exact Nat.le_refl _
  exact copyExpr_all x (by have := budS_len budExpr x.kids; omega) fun k _hk => copyExpr_ok k (by have := budS_mem budExpr _hk; omega)
  termination_by SizeOf.sizeOf x
  decreasing_by
    have := List.sizeOf_lt_of_mem _hk
    cases x
    simp only [XExpr.mk.sizeOf_spec]
    show SizeOf.sizeOf k < _
    simp only [XExpr.kids] at this
    omega
theorem l01Own_ok (x : XExpr) (hb : budExpr x ≤ 1048576) : CallX Tryz.prog 126 [.c (.rp 3 (encExpr x))] [] (.a 3 (ownT x)) := by
  rw [encExpr_eq]
  have h1 : budS budExpr x.kids ≤ budExpr x := by
    cases x
    simp only [budExpr, budExprS_eq, XExpr.kids]
    exact Nat.le_refl _
  exact l01Own_all x (by have := budS_len budExpr x.kids; omega) fun k _hk => l01Own_ok k (by have := budS_mem budExpr _hk; omega)
  termination_by SizeOf.sizeOf x
  decreasing_by
    have := List.sizeOf_lt_of_mem _hk
    cases x
    simp only [XExpr.mk.sizeOf_spec]
    show SizeOf.sizeOf k < _
    simp only [XExpr.kids] at this
    omega
theorem copyExpr_told (x : XExpr) (hb : budExpr x ≤ 1048576) : CallX Tryz.prog 141 [.a 3 (toldE x)] [] (.a 3 (ownT x)) := by
  have := copyExpr_ok x hb
  rwa [encExpr_eq] at this
theorem l01Own_told (x : XExpr) (hb : budExpr x ≤ 1048576) (r : List CV) (n : Nat) (hn : 3 ≤ n) : CallX Tryz.prog 126 [.c (.rp n (toldE x ++ r))] [] (.a 3 (ownT x)) := by
  have := l01Own_ok x hb
  rw [encExpr_eq] at this
  exact this.cut (.cut (k := 3) hn .nil)
/-! ### rows without own parts stand as owned ones -/
inductive OwnUp : List CV → List CV → Prop
  | nil : OwnUp [] []
  | same {c cs cs'} (h : OwnUp cs cs') : OwnUp (c :: cs) (c :: cs')
  | up {ty sz rows cs cs'} (h : OwnUp cs cs') : OwnUp (.ows ty sz rows :: cs) (.own ty sz rows :: cs')
theorem OwnUp.den {w : World} {ok : Nat → Prop} {cs cs' : List CV} (h : OwnUp cs cs') : ∀ {vs : List Value} {f : List Nat}, Den w ok cs vs f → Den w ok cs' vs f := by
  induction h with
  | nil => intro vs f h; exact h
  | same h ih =>
    intro vs f hd
    cases hd with
    | any h1 ht => exact .any h1 (ih ht)
    | val h1 ht => exact .val h1 (ih ht)
    | cb ht => exact .cb (ih ht)
    | ro a b c d e f ht => exact .ro a b c d e f (ih ht)
    | rp a b c d ht => exact .rp a b c d (ih ht)
    | own a b c ht => exact .own a b c (ih ht)
    | ows a b c ht => exact .ows a b c (ih ht)
    | op a b ht => exact .op a b (ih ht)
  | up h ih =>
    intro vs f hd
    cases hd with
    | ows a b c ht =>
      have := Den.own a b c (ih ht)
      simpa using this
theorem OwnUp.len {cs cs' : List CV} (h : OwnUp cs cs') : cs.length = cs'.length := by
  induction h <;> simp_all
end Go.Proofs.YthgajpkahkhlpaaGreat

namespace Go.Proofs.YthgajpkahkhlpaaGreat
open Go Go.KA Go.Proofs
set_option maxHeartbeats 16000000
set_option maxRecDepth 100000
theorem Clone_ok (l : List Int) (hl : l.length ≤ 1048576) : CallX Tryz.prog 229 [.c (.ro 1 (l.map eI))] [] (.c (.ows 2 1 (l.map eI))) := by
  refine callX_of_vc htb hm Tryz.func229 rfl rfl rfl rfl (ann := fun _ => none) (gh := fun _ => false) ?_
  repeat' ((conv => whnf); first | (guard_target = Done _; refine Done.mk ?_) | (guard_target = RetX _ _; refine RetX.mk ?_ ?_) | (guard_target = Fact _ _; refine Fact.mk fun hL => ?_; (try simp only [List.length_map, maxLen] at hL)) | (guard_target = Branch _ _ _; (first | apply Branch.dec | apply Branch.beq | apply Branch.bne | apply Branch.ndec | apply Branch.nb | apply Branch.mk) <;> intro h <;> (try simp only [List.length_map] at h) <;> (try omega) <;> (try contradiction)) | (guard_target = NilB _ _; refine NilB.mk fun b hb => ?_) | (guard_target = Arith _ _ _; refine Arith.fit (by apply wrap_fit <;> first | omega | (simp only [List.length_map]; omega)) ?_) | (guard_target = Arith _ _ _; refine Arith.fit (by decide) ?_) | (guard_target = Index _ _ _; first  | refine Index.mk _ (idx_map (by omega)) ?_) | (guard_target = Need (_ = true) _; refine Need.mk (by first | kernel_rfl | rfl) ?_) | (guard_target = LinkV _ _ _; refine LinkV.no ?_) | (guard_target = GhO _ _ _ _; refine GhO.go ?_) | (guard_target = Need _ _; refine Need.mk (by first | ((simp only [List.length_map, List.length_nil, maxLen]; constructor <;> omega)) | omega | (simp only [List.length_map]; omega)) ?_))
  all_goals first | rfl | trivial | (rw [hb h])
theorem l00Own_list (l : List Int) (hl : l.length ≤ 1048576) : CallX Tryz.prog 195 [.c (.ro 1 (l.map eI))] [] (.c (.ows 2 1 (l.map eI))) := by
  refine callX_of_vc htb hm Tryz.func195 rfl rfl rfl rfl (ann := fun _ => none) (gh := fun _ => false) ?_
  repeat' ((conv => whnf); first | (guard_target = Done _; refine Done.mk ?_) | (guard_target = RetX _ _; refine RetX.mk ?_ ?_) | (guard_target = Fact _ _; refine Fact.mk fun hL => ?_; (try simp only [List.length_map, maxLen] at hL)) | (guard_target = Branch _ _ _; (first | apply Branch.dec | apply Branch.beq | apply Branch.bne | apply Branch.ndec | apply Branch.nb | apply Branch.mk) <;> intro h <;> (try simp only [List.length_map] at h) <;> (try omega) <;> (try contradiction)) | (guard_target = Arith _ _ _; refine Arith.fit (by apply wrap_fit <;> first | omega | (simp only [List.length_map]; omega)) ?_) | (guard_target = Arith _ _ _; refine Arith.fit (by decide) ?_) | (guard_target = Index _ _ _; first  | refine Index.mk _ (idx_map (by omega)) ?_) | (guard_target = Need (_ = true) _; refine Need.mk (by first | kernel_rfl | rfl) ?_) | (guard_target = LinkV _ _ _; refine LinkV.no ?_) | (guard_target = GhO _ _ _ _; refine GhO.go ?_) | (guard_target = Need _ _; refine Need.mk (by first | ((simp only [List.length_map, List.length_nil, maxLen]; constructor <;> omega)) | omega | (simp only [List.length_map]; omega)) ?_))
  all_goals first | rfl | trivial
theorem copyExprs_ok (l : List XExpr) (hl : budS budExpr l ≤ 1048576) : CallX Tryz.prog 306 [.c (.ro 3 (l.map encExpr))] [] (.c (.own 37 3 (l.map ownExpr))) := by
  have hn := budS_len budExpr l
  have hc : ∀ i (hi : i < l.length), CallX Tryz.prog 141 [.a 3 (encExpr l[i])] [] (.a 3 (ownT l[i])) := fun i hi => copyExpr_ok _ (by have := budS_mem budExpr (List.getElem_mem hi); omega)
  refine callX_of_vc htb hm Tryz.func306 rfl rfl rfl rfl (ann := fun _ => none) (gh := fun _ => false) ?_
  repeat' ((conv => whnf); first | (guard_target = Done _; refine Done.mk ?_) | (guard_target = RetX _ _; refine RetX.mk ?_ ?_) | (guard_target =~ LoopE 3 _ _ _ _ _ _; refine LoopE.mk { α := Nat × List (List CV), keep := [9, 10], ov := fun ⟨i, rows⟩ => [(3, .lw 1), (11, I (i : Nat))], hv := fun ⟨i, rows⟩ => [(1, .orow none 37 3 rows)], φ := fun ⟨i, rows⟩ => i ≤ l.length ∧ rows = (l.take i).map ownExpr, μ := fun ⟨i, rows⟩ => l.length - i } (LoopN.mk ((0, []) : Nat × List (List CV)) (by exact ⟨Nat.zero_le _, rfl⟩) (by repeat' first | exact trivial | exact rfl | constructor) (by repeat' first | exact trivial | exact rfl | constructor) (by (repeat' first | exact trivial | exact rfl | refine ⟨?_, ?_⟩ | (simp only [List.map_append, List.map_cons, List.map_nil, List.map_set]; first | done | rfl)); done) (fun A ha => ?_) (by intro A; first | rfl | (obtain ⟨_, _⟩ := A; rfl) | (obtain ⟨_, _, _⟩ := A; rfl))); obtain ⟨i, rows⟩ := A; have ha : i ≤ l.length ∧ rows = (l.take i).map ownExpr := ha; have hrl : rows.length = i := (by rw [ha.2, List.length_map, List.length_take]; omega)) | (guard_target = Gh _ _ _ _ _; refine Gh.go ⟨((i + 1, rows ++ [ownT l[i]]) : Nat × List (List CV)), (by exact ⟨by show i + 1 ≤ _; omega, own_next (by omega) ha.2⟩), (by first | (show _ < _; simp only []; omega) | omega | (simp; omega)), (by repeat' first | exact trivial | exact rfl | constructor), (by repeat' first | exact trivial | exact rfl | constructor), (by (repeat' first | exact trivial | exact rfl | refine ⟨?_, ?_⟩ | (simp only [List.map_append, List.map_cons, List.map_nil, List.map_set]; first | done | rfl)); done)⟩) | (guard_target = Fact _ _; refine Fact.mk fun hL => ?_; (try simp only [List.length_map, maxLen] at hL)) | (guard_target = Branch _ _ _; (first | apply Branch.dec | apply Branch.beq | apply Branch.bne | apply Branch.ndec | apply Branch.nb | apply Branch.mk) <;> intro h <;> (try simp only [List.length_map] at h) <;> (try omega) <;> (try contradiction)) | (guard_target = CallN _ 141 _ _ _ _; refine CallN.gen [] _ _ _ rfl (hc i (by omega)) rfl rfl _ rfl ?_) | (guard_target = Arith _ _ _; refine Arith.fit (by apply wrap_fit <;> first | omega | (simp only [List.length_map]; omega)) ?_) | (guard_target = Arith _ _ _; refine Arith.fit (by decide) ?_) | (guard_target = Index _ _ _; first | refine Index.mk _ (idx_map (i := i) (by omega)) ?_ | refine Index.mk _ (idx_map (by omega)) ?_) | (guard_target = Need (_ = true) _; refine Need.mk (by first | kernel_rfl | rfl) ?_) | (guard_target = LinkV _ _ _; refine LinkV.no ?_) | (guard_target = GhO _ _ _ _; refine GhO.go ?_) | (guard_target = Need _ _; refine Need.mk (by first | ((simp only [List.length_cons, List.length_nil, List.length_map, maxLen]; constructor <;> omega)) | ((simp only [List.length_map]; omega)) | omega | (simp only [List.length_map]; omega)) ?_))
  all_goals first | rfl | trivial | (have h9 := ha.2; rw [List.take_of_length_le (by omega)] at h9; rw [h9])
theorem l04OwnList_ok (l : List XExpr) (hl : budS budExpr l ≤ 1048576) : CallX Tryz.prog 293 [.c (.ro 3 (l.map encExpr))] [] (.c (.own 37 3 (l.map ownExpr))) := by
  have hn := budS_len budExpr l
  have hc : ∀ i (hi : i < l.length), CallX Tryz.prog 126 [.c (.rp 3 (encExpr l[i]))] [] (.a 3 (ownT l[i])) := fun i hi => l01Own_ok _ (by have := budS_mem budExpr (List.getElem_mem hi); omega)
  refine callX_of_vc htb hm Tryz.func293 rfl rfl rfl rfl (ann := fun _ => none) (gh := fun _ => false) ?_
  repeat' ((conv => whnf); first | (guard_target = Done _; refine Done.mk ?_) | (guard_target = RetX _ _; refine RetX.mk ?_ ?_) | (guard_target =~ LoopE 3 _ _ _ _ _ _; refine LoopE.mk { α := Nat × List (List CV), keep := [0], ov := fun ⟨i, rows⟩ => [(3, .lw 1), (4, I (i : Nat))], hv := fun ⟨i, rows⟩ => [(1, .orow none 37 3 rows)], φ := fun ⟨i, rows⟩ => i ≤ l.length ∧ rows = (l.take i).map ownExpr, μ := fun ⟨i, rows⟩ => l.length - i } (LoopN.mk ((0, []) : Nat × List (List CV)) (by exact ⟨Nat.zero_le _, rfl⟩) (by repeat' first | exact trivial | exact rfl | constructor) (by repeat' first | exact trivial | exact rfl | constructor) (by (repeat' first | exact trivial | exact rfl | refine ⟨?_, ?_⟩ | (simp only [List.map_append, List.map_cons, List.map_nil, List.map_set]; first | done | rfl)); done) (fun A ha => ?_) (by intro A; first | rfl | (obtain ⟨_, _⟩ := A; rfl) | (obtain ⟨_, _, _⟩ := A; rfl))); obtain ⟨i, rows⟩ := A; have ha : i ≤ l.length ∧ rows = (l.take i).map ownExpr := ha; have hrl : rows.length = i := (by rw [ha.2, List.length_map, List.length_take]; omega)) | (guard_target = Gh _ _ _ _ _; refine Gh.go ⟨((i + 1, rows ++ [ownT l[i]]) : Nat × List (List CV)), (by exact ⟨by show i + 1 ≤ _; omega, own_next (by omega) ha.2⟩), (by first | (show _ < _; simp only []; omega) | omega | (simp; omega)), (by repeat' first | exact trivial | exact rfl | constructor), (by repeat' first | exact trivial | exact rfl | constructor), (by (repeat' first | exact trivial | exact rfl | refine ⟨?_, ?_⟩ | (simp only [List.map_append, List.map_cons, List.map_nil, List.map_set]; first | done | rfl)); done)⟩) | (guard_target = Fact _ _; refine Fact.mk fun hL => ?_; (try simp only [List.length_map, maxLen] at hL)) | (guard_target = Branch _ _ _; (first | apply Branch.dec | apply Branch.beq | apply Branch.bne | apply Branch.ndec | apply Branch.nb | apply Branch.mk) <;> intro h <;> (try simp only [List.length_map] at h) <;> (try omega) <;> (try contradiction)) | (guard_target = CallN _ 126 _ _ _ _; refine CallN.gen [] _ _ _ rfl (hc i (by omega)) rfl rfl _ rfl ?_) | (guard_target = Arith _ _ _; refine Arith.fit (by apply wrap_fit <;> first | omega | (simp only [List.length_map]; omega)) ?_) | (guard_target = Arith _ _ _; refine Arith.fit (by decide) ?_) | (guard_target = Index _ _ _; first | refine Index.mk _ (idx_map (i := i) (by omega)) ?_ | refine Index.mk _ (idx_map (by omega)) ?_) | (guard_target = Need (_ = true) _; refine Need.mk (by first | kernel_rfl | rfl) ?_) | (guard_target = LinkV _ _ _; refine LinkV.no ?_) | (guard_target = GhO _ _ _ _; refine GhO.go ?_) | (guard_target = Need _ _; refine Need.mk (by first | ((simp only [List.length_cons, List.length_nil, maxLen]; constructor <;> omega)) | omega | (simp only [List.length_map]; omega)) ?_))
  all_goals first | rfl | trivial | (have h9 := ha.2; rw [List.take_of_length_le (by omega)] at h9; rw [h9])
theorem copyStep_ok (s : XProofStep) (hb : budProofStep s ≤ 1048576) : CallX Tryz.prog 297 [.a 5 (encProofStep s)] [] (.a 5 (ownProofStep s)) := by
  have h0 : s.path.length ≤ 1048576 ∧ budS budExpr s.tests ≤ 1048576 ∧ budS budExpr s.acts ≤ 1048576 := by simp only [budProofStep] at hb; omega
  refine callX_of_vc htb hm Tryz.func297 rfl rfl rfl rfl (ann := fun _ => none) (gh := fun _ => false) ?_
  repeat' ((conv => whnf); first | (guard_target = Done _; refine Done.mk ?_) | (guard_target = RetX _ _; refine RetX.mk ?_ ?_) | (guard_target = Fact _ _; refine Fact.mk fun hL => ?_; (try simp only [List.length_map, maxLen] at hL)) | (guard_target = Branch _ _ _; (first | apply Branch.dec | apply Branch.beq | apply Branch.bne | apply Branch.ndec | apply Branch.nb | apply Branch.mk) <;> intro h <;> (try simp only [List.length_map] at h) <;> (try omega) <;> (try contradiction)) | (guard_target = CallN _ 229 _ _ _ _; refine CallN.gen [] _ _ _ rfl (Clone_ok s.path h0.1) rfl rfl _ rfl ?_) | (guard_target = CallN _ 306 _ _ _ _; refine CallN.gen [] _ _ _ rfl (copyExprs_ok s.tests h0.2.1) rfl rfl _ rfl ?_) | (guard_target = CallN _ 306 _ _ _ _; refine CallN.gen [] _ _ _ rfl (copyExprs_ok s.acts h0.2.2) rfl rfl _ rfl ?_) | (guard_target = Arith _ _ _; refine Arith.fit (by apply wrap_fit <;> first | omega | (simp only [List.length_map]; omega)) ?_) | (guard_target = Arith _ _ _; refine Arith.fit (by decide) ?_) | (guard_target = Index _ _ _; first  | refine Index.mk _ (idx_map (by omega)) ?_) | (guard_target = Need (_ = true) _; refine Need.mk (by first | kernel_rfl | rfl) ?_) | (guard_target = LinkV _ _ _; refine LinkV.no ?_) | (guard_target = GhO _ _ _ _; refine GhO.go ?_) | (guard_target = Need _ _; refine Need.mk (by first  | omega | (simp only [List.length_map]; omega)) ?_))
  all_goals first | rfl | trivial
theorem l04OwnStep_ok (s : XProofStep) (hb : budProofStep s ≤ 1048576) : CallX Tryz.prog 267 [.c (.rp 5 (encProofStep s))] [] (.a 5 (ownProofStep s)) := by
  have h0 : s.path.length ≤ 1048576 ∧ budS budExpr s.tests ≤ 1048576 ∧ budS budExpr s.acts ≤ 1048576 := by simp only [budProofStep] at hb; omega
  refine callX_of_vc htb hm Tryz.func267 rfl rfl rfl rfl (ann := fun _ => none) (gh := fun _ => false) ?_
  repeat' ((conv => whnf); first | (guard_target = Done _; refine Done.mk ?_) | (guard_target = RetX _ _; refine RetX.mk ?_ ?_) | (guard_target = Fact _ _; refine Fact.mk fun hL => ?_; (try simp only [List.length_map, maxLen] at hL)) | (guard_target = Branch _ _ _; (first | apply Branch.dec | apply Branch.beq | apply Branch.bne | apply Branch.ndec | apply Branch.nb | apply Branch.mk) <;> intro h <;> (try simp only [List.length_map] at h) <;> (try omega) <;> (try contradiction)) | (guard_target = CallN _ 195 _ _ _ _; refine CallN.gen [] _ _ _ rfl (l00Own_list s.path h0.1) rfl rfl _ rfl ?_) | (guard_target = CallN _ 293 _ _ _ _; refine CallN.gen [] _ _ _ rfl (l04OwnList_ok s.tests h0.2.1) rfl rfl _ rfl ?_) | (guard_target = CallN _ 293 _ _ _ _; refine CallN.gen [] _ _ _ rfl (l04OwnList_ok s.acts h0.2.2) rfl rfl _ rfl ?_) | (guard_target = Arith _ _ _; refine Arith.fit (by apply wrap_fit <;> first | omega | (simp only [List.length_map]; omega)) ?_) | (guard_target = Arith _ _ _; refine Arith.fit (by decide) ?_) | (guard_target = Index _ _ _; first  | refine Index.mk _ (idx_map (by omega)) ?_) | (guard_target = Need (_ = true) _; refine Need.mk (by first | kernel_rfl | rfl) ?_) | (guard_target = LinkV _ _ _; refine LinkV.no ?_) | (guard_target = GhO _ _ _ _; refine GhO.go ?_) | (guard_target = Need _ _; refine Need.mk (by first  | omega | (simp only [List.length_map]; omega)) ?_))
  all_goals first | rfl | trivial
end Go.Proofs.YthgajpkahkhlpaaGreat
