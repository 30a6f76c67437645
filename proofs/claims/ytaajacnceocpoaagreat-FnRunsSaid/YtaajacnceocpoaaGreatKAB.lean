/- Contract of the reference's function that looks whether an expression has the form of the table. No conditions. -/
import Derived.Test.YtaajacnceocpoaaGreatKAA
namespace Go.Proofs.YtaajacnceocpoaaGreat
open Go Go.KA Go.Proofs
mutual
def treeB (t a : Int) : XExpr → Bool
  | .mk k n kids => ((kids.length : Int) == kidsN k) && (if k == 3 then rng 0 (t - 1) n else if k == 4 then rng 0 (a - 1) n else (n == 0) && ((!(k == 5) || condS kids) && treeS t a kids))
def treeS (t a : Int) : List XExpr → Bool
  | [] => true
  | x :: xs => treeB t a x && treeS t a xs
end
theorem treeS_all (t a : Int) : ∀ l : List XExpr, treeS t a l = l.all (treeB t a)
  | [] => rfl
  | x :: xs => by simp only [treeS, List.all_cons]; rw [treeS_all t a xs]
theorem treeB_eq (t a : Int) (e : XExpr) : treeB t a e = (((e.kids.length : Int) == kidsN e.kind) && (if e.kind == 3 then rng 0 (t - 1) e.num else if e.kind == 4 then rng 0 (a - 1) e.num else (e.num == 0) && ((!(e.kind == 5) || e.kids.all condB) && e.kids.all (treeB t a)))) := by
  cases e
  simp only [treeB, treeS_all, condS_all]
  rfl
set_option maxHeartbeats 8000000 in
theorem l01Tree_all (t a : Int) (ht : 0 ≤ t ∧ t ≤ 3) (ha : 0 ≤ a ∧ a ≤ 4) (e : XExpr) (hx : ∀ x ∈ e.kids, CallF Tryz.prog 93 [.a 2 [J t, J a], .c (.rp 3 (encExpr x))] (B (treeB t a x))) : CallF Tryz.prog 93 [.a 2 [J t, J a], .c (.rp 3 (toldE e))] (B (treeB t a e)) := by
  refine callF_of_vc htb hm Tryz.func93 rfl rfl rfl rfl (ann := fun n => match n with | 11 => some { α := Nat, keep := [1, 2], ov := fun i => [(5, I i)], φ := fun i => i ≤ e.kids.length ∧ (e.kids.take i).all (treeB t a) = true, μ := fun i => e.kids.length - i } | _ => none) (gh := fun _ => false) ?_
  refine Need.mk (by kernel_rfl) ?_
  refine CallN.pure _ _ rfl (l01Kids_ok _) rfl _ rfl ?_
  refine Need.mk (by kernel_rfl) ?_
  refine Branch.mk (fun h1 => ?_) (fun h1 => ?_)
  · refine Done.mk ?_
    rw [List.length_map] at h1
    have : ((e.kids.length : Int) == kidsN e.kind) = false := by simpa using h1
    rw [treeB_eq, this]; rfl
  rw [List.length_map] at h1
  have h1 : ((e.kids.length : Int) == kidsN e.kind) = true := by simpa using h1
  refine Branch.mk (fun h3 => ?_) (fun h3 => ?_)
  · refine Need.mk (by kernel_rfl) ?_
    refine Arith.fit (wrap_fit (by omega) (by omega)) ?_
    refine CallN.pure _ _ rfl (l00In_ok _ _ _) rfl _ rfl ?_
    refine Need.mk (by kernel_rfl) ?_
    refine Done.mk ?_
    rw [treeB_eq, h1, h3]; rfl
  refine Branch.mk (fun h4 => ?_) (fun h4 => ?_)
  · refine Need.mk (by kernel_rfl) ?_
    refine Arith.fit (wrap_fit (by omega) (by omega)) ?_
    refine CallN.pure _ _ rfl (l00In_ok _ _ _) rfl _ rfl ?_
    refine Need.mk (by kernel_rfl) ?_
    refine Done.mk ?_
    rw [treeB_eq, h1, h3, h4]; rfl
  refine Branch.mk (fun h0 => ?_) (fun h0 => ?_)
  · refine Done.mk ?_
    have : (e.num == 0) = false := by simpa using h0
    rw [treeB_eq, h1, h3, h4, this]; rfl
  have h0 : (e.num == 0) = true := by simpa using h0
  refine Branch.mk (fun h5 => ?_) (fun h5 => ?_)
  · have hk : e.kind = 5 := eq_of_beq h5
    have hl1 : (e.kids.length : Int) = 1 := by
      have := eq_of_beq h1
      rw [hk] at this
      exact this
    have hi0 : 0 < e.kids.length := by omega
    have hone : e.kids.all condB = condB e.kids[0] := by
      match hm : e.kids, hi0, hl1 with
      | [x], _, _ => simp
    refine Need.mk (by omega) (Index.mk (encExpr e.kids[0]) (by show (e.kids.map encExpr)[0]? = _; rw [List.getElem?_map, List.getElem?_eq_getElem hi0]; rfl) ?_)
    refine CallN.pure _ _ rfl (l01Condition_ok _) rfl _ rfl ?_
    refine Branch.mk (fun hc => ?_) (fun hc => ?_)
    · refine Done.mk ?_
      have hc : condB e.kids[0] = false := by simpa using hc
      rw [treeB_eq, h1, h3, h4, h0, h5, hone, hc]; rfl
    have hc : condB e.kids[0] = true := by simpa using hc
    have hC : (!(e.kind == 5) || e.kids.all condB) = true := by rw [hone, hc, h5]; rfl
    refine LoopN.mk (0 : Nat) ⟨Nat.zero_le _, rfl⟩ ⟨⟨rfl, rfl⟩, trivial⟩ ⟨⟨rfl, rfl⟩, ⟨rfl, rfl⟩, trivial⟩ ⟨⟨rfl, rfl⟩, trivial⟩ ?_ (fun _ => rfl)
    intro (i : Nat) (hi : i ≤ e.kids.length ∧ (e.kids.take i).all (treeB t a) = true)
    obtain ⟨hi, hal⟩ := hi
    refine Fact.mk fun hL => ?_
    refine Branch.mk (fun h => ?_) (fun h => ?_)
    · have h := of_decide_eq_true h
      rw [List.length_map] at h hL
      have hi' : i < e.kids.length := by omega
      refine Need.mk (by kernel_rfl) ?_
      refine Need.mk (by omega) (Index.mk (encExpr e.kids[i]) (by simp [hi']) ?_)
      refine CallN.pure _ _ rfl (hx _ (List.getElem_mem hi')) rfl _ rfl ?_
      refine Need.mk (by kernel_rfl) ?_
      refine Branch.mk (fun hb => ?_) (fun hb => ?_)
      · refine Done.mk ?_
        rw [treeB_eq, h1, h3, h4, h0, hC, all_no hi' (by simpa using hb)]; rfl
      · simp only [maxLen] at hL
        refine Arith.fit (wrap_fit (by omega) (by omega)) ?_
        exact Gh.go ⟨i + 1, ⟨hi', all_more hi' hal (by simpa using hb)⟩, (by show e.kids.length - (i + 1) < e.kids.length - i; omega), ⟨⟨rfl, rfl⟩, trivial⟩, ⟨⟨rfl, rfl⟩, ⟨rfl, rfl⟩, trivial⟩, ⟨⟨rfl, rfl⟩, trivial⟩⟩
    · have h := of_decide_eq_false h
      rw [List.length_map] at h
      have : i = e.kids.length := by omega
      subst this
      refine Done.mk ?_
      rw [List.take_length] at hal
      rw [treeB_eq, h1, h3, h4, h0, hC, hal]; rfl
  · have hC : (!(e.kind == 5) || e.kids.all condB) = true := by rw [h5]; rfl
    refine LoopN.mk (0 : Nat) ⟨Nat.zero_le _, rfl⟩ ⟨⟨rfl, rfl⟩, trivial⟩ ⟨⟨rfl, rfl⟩, ⟨rfl, rfl⟩, trivial⟩ ⟨⟨rfl, rfl⟩, trivial⟩ ?_ (fun _ => rfl)
    intro (i : Nat) (hi : i ≤ e.kids.length ∧ (e.kids.take i).all (treeB t a) = true)
    obtain ⟨hi, hal⟩ := hi
    refine Fact.mk fun hL => ?_
    refine Branch.mk (fun h => ?_) (fun h => ?_)
    · have h := of_decide_eq_true h
      rw [List.length_map] at h hL
      have hi' : i < e.kids.length := by omega
      refine Need.mk (by kernel_rfl) ?_
      refine Need.mk (by omega) (Index.mk (encExpr e.kids[i]) (by simp [hi']) ?_)
      refine CallN.pure _ _ rfl (hx _ (List.getElem_mem hi')) rfl _ rfl ?_
      refine Need.mk (by kernel_rfl) ?_
      refine Branch.mk (fun hb => ?_) (fun hb => ?_)
      · refine Done.mk ?_
        rw [treeB_eq, h1, h3, h4, h0, hC, all_no hi' (by simpa using hb)]; rfl
      · simp only [maxLen] at hL
        refine Arith.fit (wrap_fit (by omega) (by omega)) ?_
        exact Gh.go ⟨i + 1, ⟨hi', all_more hi' hal (by simpa using hb)⟩, (by show e.kids.length - (i + 1) < e.kids.length - i; omega), ⟨⟨rfl, rfl⟩, trivial⟩, ⟨⟨rfl, rfl⟩, ⟨rfl, rfl⟩, trivial⟩, ⟨⟨rfl, rfl⟩, trivial⟩⟩
    · have h := of_decide_eq_false h
      rw [List.length_map] at h
      have : i = e.kids.length := by omega
      subst this
      refine Done.mk ?_
      rw [List.take_length] at hal
      rw [treeB_eq, h1, h3, h4, h0, hC, hal]; rfl
theorem l01Tree_ok (t a : Int) (ht : 0 ≤ t ∧ t ≤ 3) (ha : 0 ≤ a ∧ a ≤ 4) (e : XExpr) : CallF Tryz.prog 93 [.a 2 [J t, J a], .c (.rp 3 (encExpr e))] (B (treeB t a e)) := by
  rw [encExpr_eq]
  exact l01Tree_all t a ht ha e fun x _hx => l01Tree_ok t a ht ha x
  termination_by SizeOf.sizeOf e
  decreasing_by
    have := List.sizeOf_lt_of_mem _hx
    cases e
    simp only [XExpr.mk.sizeOf_spec]
    show SizeOf.sizeOf x < _
    simp only [XExpr.kids] at this
    omega
end Go.Proofs.YtaajacnceocpoaaGreat

namespace Go.Proofs.YtaajacnceocpoaaGreat
open Go Go.KA Go.Proofs
theorem idx_map {α : Type} {f : α → List CV} {l : List α} {i : Nat} (h : i < l.length) : (l.map f)[i]? = some (f l[i]) := by
  rw [List.getElem?_map, List.getElem?_eq_getElem h]
  rfl
mutual
def shE (t a : Int) : XExpr → Int → Int → Option Int
  | .mk k n kids, nodes, depth =>
    if nodes = 0 ∨ depth = 0 ∨ kidsN k ≠ kids.length then none
    else if (if k = 3 then rng 0 (t - 1) n else if k = 4 then rng 0 (a - 1) n else n == 0) && (!(k == 5) || condS kids) then shS t a kids (nodes - 1) (depth - 1) else none
def shS (t a : Int) : List XExpr → Int → Int → Option Int
  | [], nodes, _ => some nodes
  | x :: xs, nodes, depth => match shE t a x nodes depth with
    | none => none
    | some m => shS t a xs m depth
end
theorem shE_eq (t a : Int) (e : XExpr) (nodes depth : Int) : shE t a e nodes depth = if nodes = 0 ∨ depth = 0 ∨ kidsN e.kind ≠ e.kids.length then none
    else if (if e.kind = 3 then rng 0 (t - 1) e.num else if e.kind = 4 then rng 0 (a - 1) e.num else e.num == 0) && (!(e.kind == 5) || e.kids.all condB) then shS t a e.kids (nodes - 1) (depth - 1) else none := by
  cases e
  simp only [shE, condS_all]
  rfl
abbrev shR (o : Option Int) : SV := .tup [I (o.getD 0), B o.isSome]
theorem shS_step (t a : Int) {l : List XExpr} {i : Nat} {m d : Int} (h : i < l.length) : shS t a (l.drop i) m d = match shE t a l[i] m d with | none => none | some m' => shS t a (l.drop (i + 1)) m' d := by
  rw [List.drop_eq_getElem_cons h]
  rfl
mutual
theorem shE_range (t a : Int) : ∀ (e : XExpr) (n d r : Int), 0 ≤ n → shE t a e n d = some r → 0 ≤ r ∧ r ≤ n
  | .mk k num kids, n, d, r, hn, h => by
    unfold shE at h
    by_cases h1 : n = 0 ∨ d = 0 ∨ kidsN k ≠ kids.length
    · rw [if_pos h1] at h; cases h
    rw [if_neg h1] at h
    generalize hC : ((if k = 3 then rng 0 (t - 1) num else if k = 4 then rng 0 (a - 1) num else num == 0) && (!(k == 5) || condS kids)) = C at h
    cases C with
    | false => exact absurd h (by simp)
    | true =>
      have := shS_range t a kids (n - 1) (d - 1) r (by omega) (by simpa using h)
      omega
theorem shS_range (t a : Int) : ∀ (l : List XExpr) (n d r : Int), 0 ≤ n → shS t a l n d = some r → 0 ≤ r ∧ r ≤ n
  | [], n, d, r, hn, h => by
    simp only [shS, Option.some.injEq] at h
    omega
  | x :: xs, n, d, r, hn, h => by
    simp only [shS] at h
    split at h
    · cases h
    rename_i m hm
    have h1 := shE_range t a x n d m hn hm
    have h2 := shS_range t a xs m d r h1.1 h
    omega
end
set_option maxHeartbeats 8000000 in
theorem shaped_all (t a : Int) (ht : 0 ≤ t ∧ t ≤ 3) (ha : 0 ≤ a ∧ a ≤ 4) (e : XExpr) (nodes depth : Int) (hn : 0 ≤ nodes ∧ nodes ≤ 1048576) (hd : 0 ≤ depth ∧ depth ≤ 1048576)
    (hx : ∀ x ∈ e.kids, ∀ nodes depth : Int, 0 ≤ nodes ∧ nodes ≤ 1048576 → 0 ≤ depth ∧ depth ≤ 1048576 → CallF Tryz.prog 112 [.a 2 [J t, J a], .a 3 (encExpr x), I nodes, I depth] (shR (shE t a x nodes depth))) :
    CallF Tryz.prog 112 [.a 2 [J t, J a], .a 3 (toldE e), I nodes, I depth] (shR (shE t a e nodes depth)) := by
  refine callF_of_vc htb hm Tryz.func112 rfl rfl rfl rfl (ann := fun _ => none) (gh := fun _ => false) ?_
  have k5 : e.kind = 5 → kidsN e.kind = 1 := by intro h; rw [h]; rfl
  have hone : e.kind = 5 → kidsN e.kind = e.kids.length → ∀ h0 : 0 < e.kids.length, e.kids.all condB = condB e.kids[0] := by
    intro h1 h2 h0
    rw [k5 h1] at h2
    match hm : e.kids, h0, h2 with
    | [x], _, _ => simp
  repeat' ((conv => whnf); first | (guard_target = Done _; refine Done.mk ?_; first | (rw [shE_eq]; simp_all [shR, normS, normV]; done) | (have hn' : shE t a e.kids[i] m (depth - 1) = none := (by simpa using h); have hq := shS_step t a (m := m) (d := depth - 1) (show i < e.kids.length by omega); rw [hn'] at hq; rw [shE_eq, ha.2.2, hq]; simp [shR, normS, normV]; done) | (have h0 : 0 < e.kids.length := (by omega); have h51 : e.kids.all condB = false := (hone (by omega) (by omega) h0).trans ‹condB e.kids[0] = false›; rw [shE_eq, h51]; simp [shR, normS, normV, *]; done) | (rw [shE_eq, ha.2.2, List.drop_of_length_le (by omega)]; simp_all [shR, shS, normS, normV]; done) | skip) | (guard_target =~ LoopE 16 _ _ _ _ _ _; refine LoopE.mk { α := Nat × Int, keep := [3, 4, 66, 67], ov := fun ⟨i, m⟩ => [(2, I m), (68, I i)], φ := fun ⟨i, m⟩ => i ≤ e.kids.length ∧ (0 ≤ m ∧ m ≤ 1048576) ∧ shS t a e.kids (nodes - 1) (depth - 1) = shS t a (e.kids.drop i) m (depth - 1), μ := fun ⟨i, m⟩ => e.kids.length - i } (LoopN.mk ((0, nodes - 1) : Nat × Int) (by exact ⟨Nat.zero_le _, ⟨by show 0 ≤ nodes - 1; omega, by show nodes - 1 ≤ 1048576; omega⟩, rfl⟩) (by repeat' ((conv => whnf) <;> first | exact trivial | kernel_rfl | constructor)) (by repeat' ((conv => whnf) <;> first | exact trivial | kernel_rfl | constructor)) (by repeat' ((conv => whnf) <;> first | exact trivial | refine ⟨?_, ?_⟩ | exact rfl | (simp only [List.map_append, List.map_cons, List.map_nil, List.map_set]; first | done | rfl))) (fun A ha => ?_) (by intro A; first | rfl | (obtain ⟨_, _⟩ := A; rfl) | (obtain ⟨_, _, _⟩ := A; rfl))); obtain ⟨i, m⟩ := A; have ha : i ≤ e.kids.length ∧ (0 ≤ m ∧ m ≤ 1048576) ∧ shS t a e.kids (nodes - 1) (depth - 1) = shS t a (e.kids.drop i) m (depth - 1) := ha) | (guard_target = Gh _ _ _ _ _; refine Gh.go ⟨((i + 1, (shE t a e.kids[i] m (depth - 1)).getD 0) : Nat × Int), (by obtain ⟨hi, hm, hs⟩ := ha; obtain ⟨r, hr⟩ := Option.isSome_iff_exists.1 h; exact ⟨by show i + 1 ≤ _; omega, (by have := shE_range t a _ _ _ _ hm.1 hr; rw [hr]; simp only [Option.getD_some]; omega), (by rw [hs, shS_step t a (show i < e.kids.length by omega), hr]; rfl)⟩), (by first | (show _ < _; simp only []; omega) | omega | (simp; omega)), (by repeat' ((conv => whnf) <;> first | exact trivial | kernel_rfl | constructor)), (by repeat' ((conv => whnf) <;> first | exact trivial | kernel_rfl | constructor)), (by repeat' ((conv => whnf) <;> first | exact trivial | refine ⟨?_, ?_⟩ | exact rfl | (simp only [List.map_append, List.map_cons, List.map_nil, List.map_set]; first | done | rfl)))⟩) | (guard_target = Fact _ _; refine Fact.mk fun hL => ?_; (try simp only [List.length_map, maxLen] at hL)) | (guard_target = Branch _ _ _; (first | apply Branch.dec | apply Branch.beq | apply Branch.bne | apply Branch.ndec | apply Branch.nb | apply Branch.mk) <;> intro h <;> (try simp only [List.length_map] at h) <;> (try omega) <;> (try contradiction)) | (guard_target = CallN _ 160 _ _ _ _; refine CallN.pure _ _ rfl (kidsOf_ok _) rfl _ rfl ?_) | (guard_target = CallN _ 51 _ _ _ _; refine CallN.pure _ _ rfl (within_ok _ _ _) rfl _ rfl ?_) | (guard_target = CallN _ 161 _ _ _ _; refine CallN.pure _ _ rfl (isCondition_ok _) rfl _ rfl ?_) | (guard_target = CallN _ 112 _ _ _ _; refine CallN.pure _ _ rfl (hx _ (List.getElem_mem (by omega)) m (depth - 1) (by omega) (by omega)) rfl _ rfl ?_) | (guard_target = Arith _ _ _; refine Arith.fit (by apply wrap_fit <;> first | omega | (simp only [List.length_map]; omega)) ?_) | (guard_target = Arith _ _ _; refine Arith.fit (by decide) ?_) | (guard_target = Index _ _ _; first | refine Index.mk _ (idx_map (i := i) (by omega)) ?_ | refine Index.mk _ (idx_map (i := 0) (by omega)) ?_ | refine Index.mk _ (idx_map (by omega)) ?_) | (guard_target = Need (_ = true) _; refine Need.mk (by first | kernel_rfl | rfl) ?_) | (guard_target = LinkV _ _ _; refine LinkV.no ?_) | (guard_target = GhO _ _ _ _; refine GhO.go ?_) | (guard_target = Need _ _; refine Need.mk (by first  | omega | (simp only [List.length_map]; omega)) ?_))
  have h0 : 0 < e.kids.length := (by omega)
  have h51 : e.kids.all condB = true := (hone (by omega) (by omega) h0).trans ‹condB e.kids[0] = true›
  have hd0 := List.drop_of_length_le (show e.kids.length ≤ i by omega)
  have c1 : ¬ (nodes = 0 ∨ depth = 0 ∨ kidsN e.kind ≠ e.kids.length) := by omega
  have c2 : ¬ e.kind = 3 := by omega
  have c3 : ¬ e.kind = 4 := by omega
  rw [shE_eq, if_neg c1, if_neg c2, if_neg c3, h51, ha.2.2, hd0, show (e.num == 0) = true by (rw [beq_iff_eq]; omega), Bool.or_true]
  rfl
theorem shaped_ok (t a : Int) (ht : 0 ≤ t ∧ t ≤ 3) (ha : 0 ≤ a ∧ a ≤ 4) (e : XExpr) (nodes depth : Int) (hn : 0 ≤ nodes ∧ nodes ≤ 1048576) (hd : 0 ≤ depth ∧ depth ≤ 1048576) : CallF Tryz.prog 112 [.a 2 [J t, J a], .a 3 (encExpr e), I nodes, I depth] (shR (shE t a e nodes depth)) := by
  rw [encExpr_eq]
  exact shaped_all t a ht ha e nodes depth hn hd fun x _hx nodes depth hn hd => shaped_ok t a ht ha x nodes depth hn hd
  termination_by SizeOf.sizeOf e
  decreasing_by
    have := List.sizeOf_lt_of_mem _hx
    cases e
    simp only [XExpr.mk.sizeOf_spec]
    show SizeOf.sizeOf x < _
    simp only [XExpr.kids] at this
    omega
/-! ### the plain law -/
theorem ite_iff {α : Type} {p q : Prop} [Decidable p] [Decidable q] (h : p ↔ q) (x y : α) : (if p then x else y) = if q then x else y := by
  by_cases hp : p
  · rw [if_pos hp, if_pos (h.1 hp)]
  · rw [if_neg hp, if_neg fun hq => hp (h.2 hq)]
mutual
theorem shE_law (t a : Int) : ∀ (e : XExpr) (n d : Int), 0 ≤ n → 0 ≤ d → shE t a e n d = if 0 ≤ leftE e n ∧ (depthE e : Int) ≤ d ∧ treeB t a e = true then some (leftE e n) else none
  | .mk k num kids, n, d, hn, hd => by
    have hr := leftE_range (.mk k num kids) n hn
    have hS := shS_law t a kids (n - 1) (d - 1)
    unfold shE
    rw [show leftE (.mk k num kids) n = leftS kids (n - 1) from rfl] at hr ⊢
    rw [show depthE (.mk k num kids) = depthS kids + 1 from rfl]
    have ht : treeB t a (.mk k num kids) = (((kids.length : Int) == kidsN k) && (if k == 3 then rng 0 (t - 1) num else if k == 4 then rng 0 (a - 1) num else (num == 0) && ((!(k == 5) || condS kids) && treeS t a kids))) := rfl
    rw [ht]
    by_cases h1 : n = 0 ∨ d = 0 ∨ kidsN k ≠ kids.length
    · rw [if_pos h1, if_neg]
      rintro ⟨g1, g2, g3⟩
      rcases h1 with h1 | h1 | h1
      · omega
      · omega
      · simp only [Bool.and_eq_true, beq_iff_eq] at g3
        exact h1 g3.1.symm
    rw [if_neg h1]
    have hl : ((kids.length : Int) == kidsN k) = true := by simp only [beq_iff_eq]; omega
    have hS := hS (by omega) (by omega)
    rw [hl, hS]
    by_cases h3 : k = 3
    · have : kids = [] := by
        have : kidsN k = 0 := by rw [h3]; rfl
        exact List.length_eq_zero_iff.1 (by omega)
      subst this h3
      simp only [treeS, leftS, depthS]
      cases rng 0 (t - 1) num <;> simp <;> omega
    by_cases h4 : k = 4
    · have : kids = [] := by
        have : kidsN k = 0 := by rw [h4]; rfl
        exact List.length_eq_zero_iff.1 (by omega)
      subst this h4
      simp only [treeS, leftS, depthS]
      cases rng 0 (a - 1) num <;> simp <;> omega
    simp only [if_neg h3, if_neg h4, beq_iff_eq, Bool.true_and]
    cases num == 0 <;> cases !(k == 5) || condS kids <;> cases treeS t a kids <;> simp <;> (try omega)
    refine ite_iff ?_ _ _
    omega
theorem shS_law (t a : Int) : ∀ (l : List XExpr) (n d : Int), 0 ≤ n → 0 ≤ d → shS t a l n d = if 0 ≤ leftS l n ∧ (depthS l : Int) ≤ d ∧ treeS t a l = true then some (leftS l n) else none
  | [], n, d, hn, hd => by
    rw [if_pos ⟨hn, hd, rfl⟩]
    rfl
  | x :: xs, n, d, hn, hd => by
    have e1 : leftS (x :: xs) n = leftS xs (leftE x n) := by simp only [leftS]; rw [if_neg (by omega : ¬ n < 0)]
    have e2 : depthS (x :: xs) = max (depthE x) (depthS xs) := rfl
    have e3 : treeS t a (x :: xs) = (treeB t a x && treeS t a xs) := rfl
    have e4 : shS t a (x :: xs) n d = match shE t a x n d with | none => none | some m => shS t a xs m d := rfl
    rw [e4, shE_law t a x n d hn hd]
    by_cases h : 0 ≤ leftE x n ∧ (depthE x : Int) ≤ d ∧ treeB t a x = true
    · rw [if_pos h]
      show shS t a xs (leftE x n) d = _
      rw [shS_law t a xs (leftE x n) d h.1 hd]
      have := h.2.1
      have key : (0 ≤ leftS xs (leftE x n) ∧ (depthS xs : Int) ≤ d ∧ treeS t a xs = true) ↔ (0 ≤ leftS (x :: xs) n ∧ (depthS (x :: xs) : Int) ≤ d ∧ treeS t a (x :: xs) = true) := ?_
      · rw [ite_iff key, e1]
      rw [e1, e2, e3, h.2.2, Bool.true_and]
      constructor
      · rintro ⟨g1, g2, g3⟩; exact ⟨g1, by omega, g3⟩
      · rintro ⟨g1, g2, g3⟩; exact ⟨g1, by omega, g3⟩
    · rw [if_neg h, if_neg]
      rw [e1, e2, e3]
      rintro ⟨g1, g2, g3⟩
      simp only [Bool.and_eq_true] at g3
      refine h ⟨?_, by omega, g3.1⟩
      by_cases hneg : leftE x n < 0
      · rw [leftS_neg hneg] at g1
        exact g1
      · omega
end
def goodE (t a : Int) (e : XExpr) : Bool := decide (0 ≤ leftE e 200) && (decide ((depthE e : Int) ≤ 40) && treeB t a e)
theorem shE_good (t a : Int) (e : XExpr) : (shE t a e 200 40).isSome = goodE t a e := by
  rw [shE_law t a e 200 40 (by omega) (by omega)]
  unfold goodE
  by_cases h1 : 0 ≤ leftE e 200 <;> by_cases h2 : (depthE e : Int) ≤ 40 <;> cases treeB t a e <;> simp [h1, h2]
end Go.Proofs.YtaajacnceocpoaaGreat

namespace Go.Proofs.YtaajacnceocpoaaGreat
open Go Go.KA Go.Proofs
set_option maxHeartbeats 16000000
set_option maxRecDepth 100000
theorem sig_bounds {t a : Int} (h : goodSig t a = true) : (0 ≤ t ∧ t ≤ 3) ∧ (0 ≤ a ∧ a ≤ 4) := by
  simp only [goodSig, rng, Bool.and_eq_true, decide_eq_true_eq] at h
  omega
theorem isExpr_ok (t a : Int) (ht : 0 ≤ t ∧ t ≤ 3) (ha : 0 ≤ a ∧ a ≤ 4) (e : XExpr) : CallF Tryz.prog 47 [.a 2 [J t, J a], .a 3 (encExpr e)] (B (goodE t a e)) := by
  rw [← shE_good]
  refine callF_of_vc htb hm Tryz.func47 rfl rfl rfl rfl (ann := fun _ => none) (gh := fun _ => false) ?_
  repeat' ((conv => whnf); first | (guard_target = Done _; refine Done.mk ?_; first | (rfl; done) | skip) | (guard_target = CallN _ 112 _ _ _ _; refine CallN.pure _ _ rfl (shaped_ok t a ht ha e 200 40 (by omega) (by omega)) rfl _ rfl ?_) | (guard_target = Need (_ = true) _; refine Need.mk (by first | kernel_rfl | rfl) ?_) | (guard_target = GhO _ _ _ _; refine GhO.go ?_) | (guard_target = Need _ _; refine Need.mk (by first  | omega | (simp only [List.length_map]; omega)) ?_))
theorem l01Ok_ok (t a : Int) (e : XExpr) (hl : budExpr e ≤ 1048576) : CallF Tryz.prog 31 [.a 2 [J t, J a], .c (.rp 3 (encExpr e))] (B (goodSig t a && goodE t a e)) := by
  refine callF_of_vc htb hm Tryz.func31 rfl rfl rfl rfl (ann := fun _ => none) (gh := fun _ => false) ?_
  repeat' ((conv => whnf); first | (guard_target = Done _; refine Done.mk ?_; first | (rfl; done) | (simp_all [goodE, normS, normV]; done) | (simp_all [goodE, normS, normV]; omega; done) | (simp_all [goodE, normS, normV]; intros; omega; done) | (simp_all [-List.all_eq_true, -List.all_eq_false, goodE, normS, normV]; done) | (simp_all [-List.all_eq_true, -List.all_eq_false, goodE, normS, normV]; omega; done) | skip) | (guard_target = Branch _ _ _; (first | apply Branch.dec | apply Branch.beq | apply Branch.bne | apply Branch.ndec | apply Branch.nb | apply Branch.mk) <;> intro h <;> (try simp only [List.length_map] at h) <;> (try omega) <;> (try contradiction)) | (guard_target = CallN _ 87 _ _ _ _; refine CallN.pure _ _ rfl (l01Sig_ok t a) rfl _ rfl ?_) | (guard_target = CallN _ 91 _ _ _ _; refine CallN.pure _ _ rfl (l01Left_ok e 200 (by omega) (by omega)) rfl _ rfl ?_) | (guard_target = CallN _ 92 _ _ _ _; refine CallN.pure _ _ rfl (l01Depth_ok e hl) rfl _ rfl ?_) | (guard_target = CallN _ 93 _ _ _ _; refine CallN.pure _ _ rfl (l01Tree_ok t a (sig_bounds ‹_›).1 (sig_bounds ‹_›).2 e) rfl _ rfl ?_) | (guard_target = Need _ _; refine Need.mk (by first  | omega | (simp only [List.length_map]; omega)) ?_))
theorem all_stop {α : Type} {p : α → Bool} {l : List α} {i : Nat} (h : i < l.length) (hp : p l[i] = false) : l.all p = false := all_no h hp
theorem all_go {α : Type} {p : α → Bool} {l : List α} {i : Nat} (h : i < l.length) (ha : i ≤ l.length ∧ (l.take i).all p = true) (hp : p l[i] = true) : i + 1 ≤ l.length ∧ (l.take (i + 1)).all p = true := ⟨h, all_more h ha.2 hp⟩
theorem all_end {α : Type} {p : α → Bool} {l : List α} {i : Nat} (h : ¬ (i : Int) < (l.length : Int)) (ha : i ≤ l.length ∧ (l.take i).all p = true) : l.all p = true := by
  have := ha.2
  rwa [List.take_of_length_le (by omega)] at this
theorem inRange_ok (l : List Int) (n : Int) (hn : 0 ≤ n ∧ n ≤ 1048576) : CallF Tryz.prog 155 [.c (.ro 1 (l.map eI)), I n] (B (l.all (rng 0 (n - 1)))) := by
  refine callF_of_vc htb hm Tryz.func155 rfl rfl rfl rfl (ann := fun _ => none) (gh := fun _ => false) ?_
  repeat' ((conv => whnf); first | (guard_target = Done _; refine Done.mk ?_; first | (rw [all_stop (i := i) (by omega) h]; rfl; done) | (rw [all_end (by omega) ha]; rfl; done) | skip) | (guard_target =~ LoopE 2 _ _ _ _ _ _; refine LoopE.mk { α := Nat, keep := [1, 7, 8], ov := fun i => [(9, I i)], φ := fun i => i ≤ l.length ∧ (l.take i).all (rng 0 (n - 1)) = true, μ := fun i => l.length - i } (LoopN.mk (0 : Nat) (by exact ⟨Nat.zero_le _, rfl⟩) (by repeat' ((conv => whnf) <;> first | exact trivial | kernel_rfl | constructor)) (by repeat' ((conv => whnf) <;> first | exact trivial | kernel_rfl | constructor)) (by repeat' ((conv => whnf) <;> first | exact trivial | refine ⟨?_, ?_⟩ | exact rfl | (simp only [List.map_append, List.map_cons, List.map_nil, List.map_set]; first | done | rfl))) (fun (i : Nat) ha => ?_) (by intro A; first | rfl | (obtain ⟨_, _⟩ := A; rfl) | (obtain ⟨_, _, _⟩ := A; rfl))); have ha : i ≤ l.length ∧ (l.take i).all (rng 0 (n - 1)) = true := ha) | (guard_target = Gh _ _ _ _ _; refine Gh.go ⟨(i + 1 : Nat), (by exact all_go (by omega) ha h), (by first | (show _ < _; simp only []; omega) | omega | (simp; omega)), (by repeat' ((conv => whnf) <;> first | exact trivial | kernel_rfl | constructor)), (by repeat' ((conv => whnf) <;> first | exact trivial | kernel_rfl | constructor)), (by repeat' ((conv => whnf) <;> first | exact trivial | refine ⟨?_, ?_⟩ | exact rfl | (simp only [List.map_append, List.map_cons, List.map_nil, List.map_set]; first | done | rfl)))⟩) | (guard_target = Fact _ _; refine Fact.mk fun hL => ?_; (try simp only [List.length_map, maxLen] at hL)) | (guard_target = Branch _ _ _; (first | apply Branch.dec | apply Branch.beq | apply Branch.bne | apply Branch.ndec | apply Branch.nb | apply Branch.mk) <;> intro h <;> (try simp only [List.length_map] at h) <;> (try omega) <;> (try contradiction)) | (guard_target = CallN _ 51 _ _ _ _; refine CallN.pure _ _ rfl (within_ok _ _ _) rfl _ rfl ?_) | (guard_target = Arith _ _ _; refine Arith.fit (by apply wrap_fit <;> first | omega | (simp only [List.length_map]; omega)) ?_) | (guard_target = Arith _ _ _; refine Arith.fit (by decide) ?_) | (guard_target = Index _ _ _; first | refine Index.mk _ (idx_map (i := i) (by omega)) ?_ | refine Index.mk _ (idx_map (by omega)) ?_) | (guard_target = LinkV _ _ _; refine LinkV.no ?_) | (guard_target = Need _ _; refine Need.mk (by first  | omega | (simp only [List.length_map]; omega)) ?_))
theorem idx_getD {α : Type} {f : α → List CV} {l : List α} {i : Nat} {d : α} (h : i < l.length) : (l.map f)[i]? = some (f (l.getD i d)) := by
  rw [List.getElem?_map, List.getElem?_eq_getElem h, List.getD_eq_getElem?_getD, List.getElem?_eq_getElem h]
  rfl
theorem getD_eq {α : Type} {l : List α} {i : Nat} {d : α} (h : i < l.length) : l.getD i d = l[i] := by
  rw [List.getD_eq_getElem?_getD, List.getElem?_eq_getElem h]
  rfl
theorem no_of {b : Bool} (h : b = false) : normS (SV.c (.cb false)) = B b := by subst h; rfl
theorem yes_of {b : Bool} (h : b = true) : normS (SV.c (.cb true)) = B b := by subst h; rfl
/-! ### lists of expressions -/
end Go.Proofs.YtaajacnceocpoaaGreat

namespace Go.Proofs.YtaajacnceocpoaaGreat
open Go Go.KA Go.Proofs
def condG (t a : Int) (e : XExpr) : Bool := goodE t a e && condB e
theorem isCond_ok (t a : Int) (ht : 0 ≤ t ∧ t ≤ 3) (ha : 0 ≤ a ∧ a ≤ 4) (e : XExpr) : CallF Tryz.prog 130 [.a 2 [J t, J a], .a 3 (encExpr e)] (B (condG t a e)) := by
  refine callF_of_vc htb hm Tryz.func130 rfl rfl rfl rfl (ann := fun _ => none) (gh := fun _ => false) ?_
  repeat' ((conv => whnf); first | (guard_target = Done _; refine Done.mk ?_; first | (rfl; done) | (simp_all [condG, normS, normV]; done) | (simp_all [condG, normS, normV]; omega; done) | (simp_all [condG, normS, normV]; intros; omega; done) | (simp_all [-List.all_eq_true, -List.all_eq_false, condG, normS, normV]; done) | (simp_all [-List.all_eq_true, -List.all_eq_false, condG, normS, normV]; omega; done) | skip) | (guard_target = Branch _ _ _; (first | apply Branch.dec | apply Branch.beq | apply Branch.bne | apply Branch.ndec | apply Branch.nb | apply Branch.mk) <;> intro h <;> (try simp only [List.length_map] at h) <;> (try omega) <;> (try contradiction)) | (guard_target = CallN _ 47 _ _ _ _; refine CallN.pure _ _ rfl (isExpr_ok t a ht ha e) rfl _ rfl ?_) | (guard_target = CallN _ 161 _ _ _ _; refine CallN.pure _ _ rfl (isCondition_ok e) rfl _ rfl ?_) | (guard_target = Need _ _; refine Need.mk (by first  | omega | (simp only [List.length_map]; omega)) ?_))
theorem l06Cond_ok (t a : Int) (hs : goodSig t a = true) (e : XExpr) (hl : budExpr e ≤ 1048576) : CallF Tryz.prog 128 [.a 2 [J t, J a], .c (.rp 3 (encExpr e))] (B (condG t a e)) := by
  refine callF_of_vc htb hm Tryz.func128 rfl rfl rfl rfl (ann := fun _ => none) (gh := fun _ => false) ?_
  repeat' ((conv => whnf); first | (guard_target = Done _; refine Done.mk ?_; first | (rfl; done) | (simp_all [condG, normS, normV]; done) | (simp_all [condG, normS, normV]; omega; done) | (simp_all [condG, normS, normV]; intros; omega; done) | (simp_all [-List.all_eq_true, -List.all_eq_false, condG, normS, normV]; done) | (simp_all [-List.all_eq_true, -List.all_eq_false, condG, normS, normV]; omega; done) | skip) | (guard_target = Branch _ _ _; (first | apply Branch.dec | apply Branch.beq | apply Branch.bne | apply Branch.ndec | apply Branch.nb | apply Branch.mk) <;> intro h <;> (try simp only [List.length_map] at h) <;> (try omega) <;> (try contradiction)) | (guard_target = CallN _ 31 _ _ _ _; refine CallN.pure _ _ rfl (l01Ok_ok t a e hl) rfl _ rfl ?_) | (guard_target = CallN _ 154 _ _ _ _; refine CallN.pure _ _ rfl (l01Condition_ok e) rfl _ rfl ?_) | (guard_target = Need _ _; refine Need.mk (by first  | omega | (simp only [List.length_map]; omega)) ?_))
/-! ### flowcharts -/
def atomsN (t : Int) : Int := if t = 0 then 1 else if t = 1 then 2 else if t = 2 then 4 else 8
theorem atomsIn_ok (t a : Int) (ht : 0 ≤ t ∧ t ≤ 3) : CallF Tryz.prog 156 [.a 2 [J t, J a]] (I (atomsN t)) := by
  have h4 : t = 0 ∨ t = 1 ∨ t = 2 ∨ t = 3 := by omega
  rcases h4 with rfl | rfl | rfl | rfl
  all_goals
    refine callF_of_vc htb hm Tryz.func156 rfl rfl rfl rfl (ann := fun _ => none) (gh := fun _ => false) ?_
    repeat' ((conv => whnf); first | (guard_target = Done _; refine Done.mk ?_; first | (rfl; done) | skip) | (guard_target = Arith _ _ _; refine Arith.fit (wrap_fit (by (first | omega | decide)) (by (first | omega | decide))) ?_) | (guard_target = Arith _ _ _; refine Arith.fit (by decide) ?_) | (guard_target = Need _ _; refine Need.mk (by first  | omega | (simp only [List.length_map]; omega)) ?_))
end Go.Proofs.YtaajacnceocpoaaGreat
