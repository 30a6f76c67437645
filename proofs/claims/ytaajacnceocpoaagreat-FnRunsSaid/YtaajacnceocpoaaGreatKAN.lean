/- Contract of the draws of worlds. No conditions but bounds of size. -/
import Derived.Test.YtaajacnceocpoaaGreatKAM
namespace Go.Proofs.YtaajacnceocpoaaGreat
open Go Go.KA Go.Proofs
set_option maxHeartbeats 16000000
set_option maxRecDepth 100000
theorem amongO_ok (l : List Int) (hl : 0 < l.length ∧ l.length ≤ 1000) (s : Src) (hs : Rd s 900000) (hc : s.code.length ≤ 1000000) : CallX Tryz.prog 97 [.c (.op (srcC s)), .c (.ows 2 1 (l.map eI))] [some [.op (srcC (amongS l s))], none] (I (amongV l s)) := (among_ok l hl s hs hc).give (.same (.c .nil))
theorem l00Min_ok (a b : Int) : CallF Tryz.prog 95 [I a, I b] (I (if a < b then a else b)) := by
  refine callF_of_vc htb hm Tryz.func95 rfl rfl rfl rfl (ann := fun _ => none) (gh := fun _ => false) ?_
  repeat' ((conv => whnf); first | (guard_target = Done _; refine Done.mk ?_; first | (rfl; done) | (simp_all [normS, normV]; done) | (simp_all [normS, normV]; omega; done) | (simp_all [normS, normV]; intros; omega; done) | (simp_all [-List.all_eq_true, -List.all_eq_false, normS, normV]; done) | (simp_all [-List.all_eq_true, -List.all_eq_false, normS, normV]; omega; done) | skip) | (guard_target = Branch _ _ _; (first | apply Branch.dec | apply Branch.beq | apply Branch.bne | apply Branch.ndec | apply Branch.nb | apply Branch.mk) <;> intro h <;> (try simp only [List.length_map] at h) <;> (try omega) <;> (try contradiction)) | (guard_target = Need _ _; refine Need.mk (by first  | omega | (simp only [List.length_map]; omega)) ?_))
theorem l00Max_ok (a b : Int) : CallF Tryz.prog 96 [I a, I b] (I (if a > b then a else b)) := by
  refine callF_of_vc htb hm Tryz.func96 rfl rfl rfl rfl (ann := fun _ => none) (gh := fun _ => false) ?_
  repeat' ((conv => whnf); first | (guard_target = Done _; refine Done.mk ?_; first | (rfl; done) | (simp_all [normS, normV]; done) | (simp_all [normS, normV]; omega; done) | (simp_all [normS, normV]; intros; omega; done) | (simp_all [-List.all_eq_true, -List.all_eq_false, normS, normV]; done) | (simp_all [-List.all_eq_true, -List.all_eq_false, normS, normV]; omega; done) | skip) | (guard_target = Branch _ _ _; (first | apply Branch.dec | apply Branch.beq | apply Branch.bne | apply Branch.ndec | apply Branch.nb | apply Branch.mk) <;> intro h <;> (try simp only [List.length_map] at h) <;> (try omega) <;> (try contradiction)) | (guard_target = Need _ _; refine Need.mk (by first  | omega | (simp only [List.length_map]; omega)) ?_))
theorem iterS_cd {f : Src → Src} (hf : ∀ s, (f s).code = s.code) (s : Src) : ∀ i : Nat, (iterS f s i).code = s.code
  | 0 => rfl
  | i + 1 => by show (f _).code = _; rw [hf, iterS_cd hf s i]
theorem cellS_cd (n : Int) (s : Src) : (cellS n s).code = s.code := by
  unfold cellS
  split <;> simp only [pick_cd]
theorem rowS_cd (n : Nat) (s : Src) : (rowS n s).code = s.code := iterS_cd (cellS_cd n) s n
theorem runV_getD {α : Type} (v : Src → α) (f : Src → Src) (s : Src) {n i : Nat} (h : i < n) (d : α) : (runV v f s n).getD i d = v (iterS f s i) := by
  unfold runV
  rw [List.getD_eq_getElem?_getD, List.getElem?_map, List.getElem?_range h]
  rfl
theorem world_end {A : Int} {g : XSig} {s : Src} {i a : Nat} {l : List Int} {ls : List (List Int)} {sx : Src} (h1 : i ≤ statesN s ∧ l = runV (atomV A) atomS (pickS s 6) i) (e1 : i = statesN s) (h2 : a ≤ actsN g ∧ ls = runV (rowV (statesN s)) (rowS (statesN s)) (actsF s) a ∧ sx = iterS (rowS (statesN s)) (actsF s) a) (e2 : a = actsN g) : l = atomsW A s ∧ ls = actsW g s ∧ sx = endS g s := by
  subst e1 e2
  exact ⟨h1.2, h2.2.1, h2.2.2⟩
theorem world0 {A : Int} {g : XSig} {s sx : Src} (q : sx = endS g s) (h : pickV sx 30 = 0) : worldS g s = amongS [-1, 8] (pickS sx 30) ∧ worldD A g s = (bendAtom (amongV [-1, 8] (pickS sx 30)) (atomsW A s), actsW g s) := by
  subst q
  unfold worldS worldD
  simp only []
  rw [if_pos h, if_pos h]
  exact ⟨rfl, rfl⟩
theorem world1 {A : Int} {g : XSig} {s sx : Src} (q : sx = endS g s) (h : pickV sx 30 = 1) : worldS g s = pickS sx 30 ∧ worldD A g s = (atomsW A s, actsW g s ++ [[0]]) := by
  subst q
  unfold worldS worldD
  simp only []
  rw [if_neg (by omega), if_neg (by omega), if_neg (by omega), if_pos h]
  exact ⟨rfl, rfl⟩
theorem world2 {A : Int} {g : XSig} {s sx : Src} (q : sx = endS g s) (h : pickV sx 30 = 2) (h2 : actsN g ≠ 0) : worldS g s = amongS [-2, (statesN s : Int)] (pickS sx 30) ∧ worldD A g s = (atomsW A s, bendHead (amongV [-2, (statesN s : Int)] (pickS sx 30)) (actsW g s)) := by
  subst q
  unfold worldS worldD
  simp only []
  rw [if_neg (by omega), if_pos ⟨h, h2⟩, if_neg (by omega), if_neg (by omega), if_pos ⟨h, h2⟩]
  exact ⟨rfl, rfl⟩
theorem world3 {A : Int} {g : XSig} {s sx : Src} (q : sx = endS g s) (h0 : pickV sx 30 ≠ 0) (h1 : pickV sx 30 ≠ 1) (h2 : ¬ (pickV sx 30 = 2 ∧ actsN g ≠ 0)) : worldS g s = pickS sx 30 ∧ worldD A g s = (atomsW A s, actsW g s) := by
  subst q
  unfold worldS worldD
  simp only []
  rw [if_neg h0, if_neg h2, if_neg h0, if_neg h1, if_neg h2]
  exact ⟨rfl, rfl⟩
theorem bendAtom_set (v : Int) (l : List Int) : (l.map eI).set 0 [.val (.int .i64 v)] = (bendAtom v l).map eI := by cases l <;> rfl
theorem bendHead_set (v : Int) (u : Value) (ls : List (List Int)) : ((ls.map fun l => [CV.ows 2 1 (l.map eI)]).set 0 [.val u]).set 0 [.ows 2 1 (((ls.getD 0 []).map eI).set 0 [.val (.int .i64 v)])] = (bendHead v ls).map fun l => [CV.ows 2 1 (l.map eI)] := by
  cases ls with
  | nil => rfl
  | cons r rs => cases r <;> rfl
theorem cell_yes {n : Nat} {sx sy : Src} {i : Nat} {r : List Int} (ha : i ≤ n ∧ r = runV (cellV n) (cellS n) sx i ∧ sy = iterS (cellS n) sx i) (hi : i < n) (h : pickV sy 10 = 0) : i + 1 ≤ n ∧ r ++ [-1] = runV (cellV n) (cellS n) sx (i + 1) ∧ pickS sy 10 = iterS (cellS n) sx (i + 1) := by
  obtain ⟨h1, rfl, rfl⟩ := ha
  have hb : oneB (iterS (cellS n) sx i) 10 = true := by simp [oneB, h]
  refine ⟨by omega, ?_, ?_⟩
  · rw [runV_succ, cellV, if_pos hb]
  · show _ = cellS n (iterS (cellS n) sx i)
    rw [cellS, if_pos hb]
theorem cell_no {n : Nat} {sx sy : Src} {i : Nat} {r : List Int} {k : Int} (ha : i ≤ n ∧ r = runV (cellV n) (cellS n) sx i ∧ sy = iterS (cellS n) sx i) (hi : i < n) (h : ¬ pickV sy 10 = 0) (hk : (n : Int) = k) : i + 1 ≤ n ∧ r ++ [pickV (pickS sy 10) k] = runV (cellV n) (cellS n) sx (i + 1) ∧ pickS (pickS sy 10) k = iterS (cellS n) sx (i + 1) := by
  obtain ⟨h1, rfl, rfl⟩ := ha
  subst hk
  have hb : ¬ oneB (iterS (cellS n) sx i) 10 = true := by simp [oneB, h]
  refine ⟨by omega, ?_, ?_⟩
  · rw [runV_succ, cellV, if_neg hb]
  · show _ = cellS n (iterS (cellS n) sx i)
    rw [cellS, if_neg hb]
theorem row_next {n N : Nat} {s0 sx sy : Src} {i a : Nat} {r : List Int} {ls : List (List Int)} (hA : a ≤ N ∧ ls = runV (rowV n) (rowS n) s0 a ∧ sx = iterS (rowS n) s0 a) (ha : i ≤ n ∧ r = runV (cellV n) (cellS n) sx i ∧ sy = iterS (cellS n) sx i) (hi : ¬ i < n) (hN : a < N) : a + 1 ≤ N ∧ ls ++ [r] = runV (rowV n) (rowS n) s0 (a + 1) ∧ sy = iterS (rowS n) s0 (a + 1) := by
  obtain ⟨h1, rfl, rfl⟩ := hA
  obtain ⟨h2, rfl, rfl⟩ := ha
  have e : i = n := by omega
  subst e
  exact ⟨by omega, by rw [runV_succ]; rfl, rfl⟩
theorem set_get {α : Type} {l : List α} {i : Nat} {x : α} (h : i < l.length) : (l.set i x)[i]? = some x := by
  simp [h]
section
variable (g : XSig) (hg : 0 ≤ g.tests ∧ g.tests ≤ 3 ∧ 0 ≤ g.actions ∧ g.actions ≤ 4) (s : Src) (m : Int) (hs : Rd s m) (hq : m ≤ 500000) (hc : s.code.length ≤ 1000000) (A : Int) (hA : 1 ≤ A ∧ A ≤ 8) (hat : CallF Tryz.prog 94 [.a 2 [J g.tests, J g.actions]] (I A))
include hg hs hq hc hA hat
theorem world_ok : CallX Tryz.prog 33 [.c (.op (srcC s)), .a 2 [J g.tests, J g.actions]] [some [.op (srcC (worldS g s))], none] (.a 2 [.ows 2 1 ((worldD A g s).1.map eI), .own 34 1 ((worldD A g s).2.map fun l => [.ows 2 1 (l.map eI)])]) := by
  have i6 : I64 6 := by unfold I64; omega
  have i8 : I64 8 := by unfold I64; omega
  have i10 : I64 10 := by unfold I64; omega
  have i30 : I64 30 := by unfold I64; omega
  have q6 := pick_ok s (hs.mono (by omega)) hc 6 i6
  obtain ⟨w1, w2, w3⟩ := statesN_in s
  have r6 : Rd (pickS s 6) (m + 2) := hs.pick 6
  have c6 : (pickS s 6).code.length ≤ 1000000 := by rw [pick_cd]; exact hc
  have rA : ∀ i : Nat, i ≤ statesN s → Rd (iterS atomS (pickS s 6) i) (m + 14) := fun i hi => (Rd.iter (k := 2) (by omega) (fun _ _ h => h.pick 8) r6 i).mono (by omega)
  have cA : ∀ i : Nat, (iterS atomS (pickS s 6) i).code.length ≤ 1000000 := fun i => by rw [iterS_cd (f := atomS) (fun s => pick_cd s 8)]; exact c6
  have q8 : ∀ i : Nat, i < statesN s → CallX Tryz.prog 57 [.c (.op (srcC (iterS atomS (pickS s 6) i))), I 8] [some [.op (srcC (iterS atomS (pickS s 6) (i + 1)))], none] (I (pickV (iterS atomS (pickS s 6) i) 8)) := fun i hi => pick_ok _ ((rA i (by omega)).mono (by omega)) (cA i) 8 i8
  have b8 : ∀ i : Nat, 0 ≤ pickV (iterS atomS (pickS s 6) i) 8 ∧ pickV (iterS atomS (pickS s 6) i) 8 < 8 := fun i => pickV_in _ (by omega)
  have eN : ((actsN g : Nat) : Int) = g.actions := by unfold actsN; split <;> (try split) <;> omega
  have rB : ∀ a : Nat, a ≤ actsN g → Rd (iterS (rowS (statesN s)) (actsF s) a) (m + 14 + 24 * a) := fun a ha => (Rd.iter (k := 24) (by omega) (fun _ _ h => (h.row (statesN s)).mono (by omega)) (rA (statesN s) (Nat.le_refl _)) a).mono (by omega)
  have cB : ∀ a : Nat, (iterS (rowS (statesN s)) (actsF s) a).code.length ≤ 1000000 := fun a => by rw [iterS_cd (rowS_cd _)]; exact cA _
  have rC : ∀ (x : Src) (i : Nat), Rd x (m + 200) → i ≤ statesN s → Rd (iterS (cellS (statesN s)) x i) (m + 300) := fun x i hx hi => (Rd.iter (k := 4) (by omega) (fun _ _ h => h.cell (statesN s)) hx i).mono (by omega)
  have cC : ∀ (x : Src) (i : Nat), (iterS (cellS (statesN s)) x i).code.length = x.code.length := fun x i => by rw [iterS_cd (cellS_cd _)]
  have mn := l00Min_ok g.actions 4
  have mx := l00Max_ok g.actions 0
  rw [show (if g.actions > 0 then g.actions else 0) = g.actions by split <;> omega] at mx
  rw [show (if g.actions < 4 then g.actions else 4) = g.actions by split <;> omega] at mn
  obtain ⟨gt, ga⟩ := g
  simp only [] at hat hg mn mx eN
  refine callX_of_vc htb hm Tryz.func33 rfl rfl rfl rfl (ann := fun _ => none) (gh := fun reg_ => match reg_ with | 25 => true | 26 => true | _ => false) ?_
  repeat' ((conv => whnf); first | (guard_target = RetX _ _; refine RetX.mk ?_ ?_) | (guard_target =~ LoopE 8 _ _ _ _ _ _; refine LoopE.mk { α := Nat × List (List Int) × Src, keep := [0, 3, 4, 5, 6], ov := fun ⟨a, ls, sx⟩ => [(8, I (a : Nat))], hv := fun ⟨a, ls, sx⟩ => [(0, .cc 3 (srcC sx)), (6, .orow none 34 1 (ls.map fun l => [.ows 2 1 (l.map eI)])), (9, .cells [.lw 5, .lw 6])], φ := fun ⟨a, ls, sx⟩ => a ≤ actsN ⟨gt, ga⟩ ∧ ls = runV (rowV (statesN s)) (rowS (statesN s)) (actsF s) a ∧ sx = iterS (rowS (statesN s)) (actsF s) a, μ := fun ⟨a, ls, sx⟩ => actsN ⟨gt, ga⟩ - a } (LoopN.mk ((0, [], iterS atomS (pickS s 6) i) : Nat × List (List Int) × Src) (by exact ⟨Nat.zero_le _, rfl, (by show _ = actsF s; unfold actsF; rw [show i = statesN s by omega])⟩) (by repeat' ((conv => whnf) <;> first | exact trivial | kernel_rfl | constructor)) (by repeat' ((conv => whnf) <;> first | exact trivial | kernel_rfl | constructor)) (by repeat' ((conv => whnf) <;> first | exact trivial | refine ⟨?_, ?_⟩ | exact rfl | (simp only [List.map_append, List.map_cons, List.map_nil, List.map_set]; first | done | rfl))) (fun A ha => ?_) (by intro A; first | rfl | (obtain ⟨_, _⟩ := A; rfl) | (obtain ⟨_, _, _⟩ := A; rfl))); obtain ⟨a, ls, sx⟩ := A; have ha : a ≤ actsN ⟨gt, ga⟩ ∧ ls = runV (rowV (statesN s)) (rowS (statesN s)) (actsF s) a ∧ sx = iterS (rowS (statesN s)) (actsF s) a := ha; have hA2 := ha; have hrl2 : ls.length = a := (by rw [ha.2.1, runV_len]); have hl0 : 0 < ls.length → (ls.getD 0 []).length = statesN s := (by intro h0; rw [ha.2.1, runV_getD _ _ _ (by omega), rowV_len]); have hr9 : Rd sx (m + 120) := (by rw [ha.2.2]; exact (rB a (by omega)).mono (by omega)); have hc9 : sx.code.length ≤ 1000000 := (by rw [ha.2.2]; exact cB a)) | (guard_target =~ LoopE 12 _ _ _ _ _ _; refine LoopE.mk { α := Nat × List Int × Src, keep := [0, 3, 4, 5, 6, 8], ov := fun ⟨i, r, sy⟩ => [(9, .lw 10), (10, I (i : Nat))], hv := fun ⟨i, r, sy⟩ => [(0, .cc 3 (srcC sy)), (10, .row none 2 1 (r.map eI))], φ := fun ⟨i, r, sy⟩ => i ≤ statesN s ∧ r = runV (cellV (statesN s)) (cellS (statesN s)) sx i ∧ sy = iterS (cellS (statesN s)) sx i, μ := fun ⟨i, r, sy⟩ => statesN s - i } (LoopN.mk ((0, [], sx) : Nat × List Int × Src) (by exact ⟨Nat.zero_le _, rfl, rfl⟩) (by repeat' ((conv => whnf) <;> first | exact trivial | kernel_rfl | constructor)) (by repeat' ((conv => whnf) <;> first | exact trivial | kernel_rfl | constructor)) (by repeat' ((conv => whnf) <;> first | exact trivial | refine ⟨?_, ?_⟩ | exact rfl | (simp only [List.map_append, List.map_cons, List.map_nil, List.map_set]; first | done | rfl))) (fun A ha => ?_) (by intro A; first | rfl | (obtain ⟨_, _⟩ := A; rfl) | (obtain ⟨_, _, _⟩ := A; rfl))); obtain ⟨i, r, sy⟩ := A; have ha : i ≤ statesN s ∧ r = runV (cellV (statesN s)) (cellS (statesN s)) sx i ∧ sy = iterS (cellS (statesN s)) sx i := ha; have hr3 : Rd sy (m + 300) := (by rw [ha.2.2]; exact rC _ _ (by rw [hA2.2.2]; exact (rB a (by omega)).mono (by omega)) ha.1); have hc3 : sy.code.length ≤ 1000000 := (by rw [ha.2.2, cC, hA2.2.2]; exact cB a); have hrl3 : r.length = i := (by rw [ha.2.1, runV_len])) | (guard_target =~ LoopE 4 _ _ _ _ _ _; refine LoopE.mk { α := Nat × List Int, keep := [0, 3, 4, 5, 6], ov := fun ⟨i, l⟩ => [(7, I (i : Nat))], hv := fun ⟨i, l⟩ => [(0, .cc 3 (srcC (iterS atomS (pickS s 6) i))), (5, .row none 2 1 (l.map eI)), (9, .cells [.lw 5, .lw 6])], φ := fun ⟨i, l⟩ => i ≤ statesN s ∧ l = runV (atomV A) atomS (pickS s 6) i, μ := fun ⟨i, l⟩ => statesN s - i } (LoopN.mk ((0, []) : Nat × List Int) (by exact ⟨Nat.zero_le _, rfl⟩) (by repeat' ((conv => whnf) <;> first | exact trivial | kernel_rfl | constructor)) (by repeat' ((conv => whnf) <;> first | exact trivial | kernel_rfl | constructor)) (by repeat' ((conv => whnf) <;> first | exact trivial | refine ⟨?_, ?_⟩ | exact rfl | (simp only [List.map_append, List.map_cons, List.map_nil, List.map_set]; first | done | rfl))) (fun A ha => ?_) (by intro A; first | rfl | (obtain ⟨_, _⟩ := A; rfl) | (obtain ⟨_, _, _⟩ := A; rfl))); obtain ⟨i, l⟩ := A; have ha : i ≤ statesN s ∧ l = runV (atomV A) atomS (pickS s 6) i := ha; have hA1 := ha; have hi8 := b8 i; have hrl : l.length = i := (by rw [ha.2, runV_len])) | (guard_target = Gh _ _ _ _ _; refine Gh.go ⟨((i + 1, r ++ [-1], pickS sy 10) : Nat × List Int × Src), (by exact cell_yes ha (by omega) (by assumption)), (by first | (show _ < _; simp only []; omega) | omega | (simp; omega)), (by repeat' ((conv => whnf) <;> first | exact trivial | kernel_rfl | constructor)), (by repeat' ((conv => whnf) <;> first | exact trivial | kernel_rfl | constructor)), (by repeat' ((conv => whnf) <;> first | exact trivial | refine ⟨?_, ?_⟩ | exact rfl | (simp only [List.map_append, List.map_cons, List.map_nil, List.map_set]; first | done | rfl)))⟩) | (guard_target = Gh _ _ _ _ _; refine Gh.go ⟨((i + 1, r ++ [pickV (pickS sy 10) (1 + pickV s 6)], pickS (pickS sy 10) (1 + pickV s 6)) : Nat × List Int × Src), (by exact cell_no ha (by omega) (by assumption) w3), (by first | (show _ < _; simp only []; omega) | omega | (simp; omega)), (by repeat' ((conv => whnf) <;> first | exact trivial | kernel_rfl | constructor)), (by repeat' ((conv => whnf) <;> first | exact trivial | kernel_rfl | constructor)), (by repeat' ((conv => whnf) <;> first | exact trivial | refine ⟨?_, ?_⟩ | exact rfl | (simp only [List.map_append, List.map_cons, List.map_nil, List.map_set]; first | done | rfl)))⟩) | (guard_target = Gh _ _ _ _ _; refine Gh.go ⟨((a + 1, ls ++ [r], sy) : Nat × List (List Int) × Src), (by exact row_next hA2 ha (by omega) (by omega)), (by first | (show _ < _; simp only []; omega) | omega | (simp; omega)), (by repeat' ((conv => whnf) <;> first | exact trivial | kernel_rfl | constructor)), (by repeat' ((conv => whnf) <;> first | exact trivial | kernel_rfl | constructor)), (by repeat' ((conv => whnf) <;> first | exact trivial | refine ⟨?_, ?_⟩ | exact rfl | (simp only [List.map_append, List.map_cons, List.map_nil, List.map_set]; first | done | rfl)))⟩) | (guard_target = Gh _ _ _ _ _; refine Gh.go ⟨((i + 1, l ++ [atomV A (iterS atomS (pickS s 6) i)]) : Nat × List Int), (by exact ⟨by show i + 1 ≤ _; omega, by show l ++ _ = _; rw [runV_succ, ha.2]⟩), (by first | (show _ < _; simp only []; omega) | omega | (simp; omega)), (by repeat' ((conv => whnf) <;> first | exact trivial | kernel_rfl | constructor)), (by repeat' ((conv => whnf) <;> first | exact trivial | kernel_rfl | constructor)), (by repeat' ((conv => whnf) <;> first | exact trivial | refine ⟨?_, ?_⟩ | exact rfl | (simp only [List.map_append, List.map_cons, List.map_nil, List.map_set]; first | done | rfl)))⟩) | (guard_target = Fact _ _; refine Fact.mk fun hL => ?_; (try simp only [List.length_map, maxLen] at hL)) | (guard_target = Branch _ _ _; (first | apply Branch.dec | apply Branch.beq | apply Branch.bne | apply Branch.ndec | apply Branch.nb | apply Branch.mk) <;> intro h <;> (try simp only [List.length_map] at h) <;> (try omega) <;> (try contradiction)) | (guard_target = CallN _ 95 _ _ _ _; refine CallN.pure _ _ rfl (mn) rfl _ rfl ?_) | (guard_target = CallN _ 96 _ _ _ _; refine CallN.pure _ _ rfl (mx) rfl _ rfl ?_) | (guard_target = CallN _ 94 _ _ _ _; refine CallN.pure _ _ rfl (hat) rfl _ rfl ?_) | (guard_target = CallN _ 57 _ _ _ _; (first | refine CallN.gen [true, false] _ _ _ rfl q6 rfl rfl _ rfl ?_ | refine CallN.gen [true, false] _ _ _ rfl (q8 i (by omega)) rfl rfl _ rfl ?_ | refine CallN.gen [true, false] _ _ _ rfl (pick_ok (pickS sy 10) ((hr3.pick 10).mono (by omega)) (by rw [pick_cd]; exact hc3) (1 + pickV s 6) (by unfold I64; omega)) rfl rfl _ rfl ?_)) | (guard_target = CallN _ 78 _ _ _ _; refine CallN.gen [true, false] _ _ _ rfl (one_ok sy (hr3.mono (by omega)) hc3 10 i10) rfl rfl _ rfl ?_) | (guard_target = CallN _ 57 _ _ _ _; refine CallN.gen [true, false] _ _ _ rfl (pick_ok sx (hr9.mono (by omega)) hc9 30 i30) rfl rfl _ rfl ?_) | (guard_target = CallN _ 97 _ _ _ _; (first | refine CallN.gen [true, true] _ _ _ rfl (amongO_ok [-1, 8] (by decide) (pickS sx 30) ((hr9.pick 30).mono (by omega)) (by rw [pick_cd]; exact hc9)) rfl rfl _ rfl ?_ | refine CallN.gen [true, true] _ _ _ rfl (amongO_ok [-2, 1 + pickV s 6] (by simp) (pickS sx 30) ((hr9.pick 30).mono (by omega)) (by rw [pick_cd]; exact hc9)) rfl rfl _ rfl ?_)) | (guard_target = Gh _ _ _ _ _; (first | (refine Gh.closes 6 0 0 10 rfl (set_get (by rw [List.length_map]; omega)) rfl rfl rfl (Gh.go ?_); have mk26 := True.intro) | (have _ : pickV sx 30 = 2 ∧ 0 < ls.length := (by omega); refine Gh.go ?_) | (refine Gh.go ?_; have mk26 := True.intro))) | (guard_target = GhO _ _ _ _; (first | (have _ := mk26; refine GhO.go ?_) | refine GhO.opens 6 0 0 rfl (idx_getD (l := ls) (d := []) (i := 0) (by omega)) rfl fun v => GhO.go ?_)) | (guard_target = Arith _ _ _; refine Arith.fit (by apply wrap_fit <;> first | omega | (simp only [List.length_map]; omega)) ?_) | (guard_target = Arith _ _ _; refine Arith.fit (by decide) ?_) | (guard_target = Index _ _ _; first | refine Index.mk _ (set_get (by rw [List.length_map]; omega)) ?_ | refine Index.mk _ (idx_map (by omega)) ?_) | (guard_target = Need (_ = true) _; refine Need.mk (by first | kernel_rfl | rfl) ?_) | (guard_target = LinkV _ _ _; first | refine LinkV.row 10 rfl ?_ | refine LinkV.orow 10 rfl ?_ | refine LinkV.no ?_) | (guard_target = GhO _ _ _ _; refine GhO.go ?_) | (guard_target = Need _ _; refine Need.mk (by first | ((simp only [List.length_set, List.length_map]; omega)) | ((simp only [List.length_map]; rw [hl0 (by omega)]; omega)) | ((simp only [List.length_map, List.length_cons, List.length_nil, maxLen]; constructor <;> omega)) | omega | (simp only [List.length_map]; omega)) ?_))
  all_goals (obtain ⟨q1, q2, q3⟩ := world_end (A := A) (g := ⟨gt, ga⟩) hA1 (by omega) hA2 (by omega))
  all_goals (first | (have h0 : pickV sx 30 = 0 := (by assumption); obtain ⟨z1, z2⟩ := world0 (A := A) q3 h0) | (have h0 : pickV sx 30 = 1 := (by assumption); obtain ⟨z1, z2⟩ := world1 (A := A) q3 h0) | (have h0 : pickV sx 30 = 2 := (by assumption); have h00 : 0 < ls.length := (by omega); obtain ⟨z1, z2⟩ := world2 (A := A) q3 h0 (by omega)) | (obtain ⟨z1, z2⟩ := world3 (A := A) (g := ⟨gt, ga⟩) q3 (by omega) (by omega) (by omega)))
  all_goals (rw [← q1, ← q2] at z2)
  all_goals (first | (rw [z1]; exact ⟨rfl, trivial⟩) | (rw [z2]; simp only [← bendAtom_set, List.map_append]; rfl) | (rw [z2]; refine Eq.trans ?_ (congrArg (fun z => SV.a 2 [.ows 2 1 (l.map eI), .own 34 1 z]) (bendHead_set (amongV [-2, (statesN s : Int)] (pickS sx 30)) v ls)); rw [w3]; rfl))
theorem world_ro : CallX Tryz.prog 33 [.c (.op (srcC s)), .a 2 [J g.tests, J g.actions]] [some [.op (srcC (worldS g s))], none] (.a 2 (encWorld ⟨(worldD A g s).1, (worldD A g s).2⟩)) := by
  refine (world_ok g hg s m hs hq hc A hA hat).soft ?_
  show SoftT _ (SV.a 2 [_, _])
  rw [show ((worldD A g s).2.map fun l => [CV.ro 1 (l.map eI)]) = roLL ((worldD A g s).2.map fun l => [CV.ows 2 1 (l.map eI)]) from (roLL_of (f := fun (l : List Int) => [CV.ows 2 1 (l.map eI)]) (g := fun l => [CV.ro 1 (l.map eI)]) (fun l => rfl) _).symm]
  exact .v (.a (.ro (.ro .nil)))
end
end Go.Proofs.YtaajacnceocpoaaGreat
