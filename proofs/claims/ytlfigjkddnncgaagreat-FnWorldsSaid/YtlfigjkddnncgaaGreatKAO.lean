/- Contracts: conditions of atoms, and the weakest condition of a program. No conditions but that programs and conditions are valid. -/
import Derived.Test.YtlfigjkddnncgaaGreatKAN
namespace Go.Proofs.YtlfigjkddnncgaaGreat
open Go Go.KA Go.Proofs
set_option maxHeartbeats 16000000
set_option maxRecDepth 100000
def bitV (n atom : Int) : Int := IntKind.i64.wrap ((BitVec.ofInt 64 (atom.fdiv (2 ^ (min n.toNat 64))) &&& BitVec.ofInt 64 1).toNat)
def litE (atom : Int) (i : Nat) : XExpr := if bitV i atom = 0 then notE (leafE 3 i) else leafE 3 i
def atE (atom : Int) : Nat → XExpr
  | 0 => leafE 2 0
  | k + 1 => if k = 0 then litE atom 0 else pairE 7 (atE atom k) (litE atom k)
theorem lit_y {atom : Int} {i : Nat} (h : bitV i atom = 0) : litE atom i = notE (leafE 3 i) := by unfold litE; rw [if_pos h]
theorem lit_n {atom : Int} {i : Nat} (h : ¬ bitV i atom = 0) : litE atom i = leafE 3 i := by unfold litE; rw [if_neg h]
theorem at_0 {atom : Int} {k : Nat} (h : (k : Int) = 0) {e : XExpr} (he : litE atom k = e) : e = atE atom (k + 1) := by
  have : k = 0 := by omega
  subst this
  exact he.symm
theorem at_s {atom : Int} {k : Nat} (h : ¬ (k : Int) = 0) {e x : XExpr} (he : litE atom k = e) (hx : x = atE atom k) : pairE 7 x e = atE atom (k + 1) := by
  unfold atE
  rw [if_neg (by omega), he, hx]
theorem ex_mk (x : XExpr) : ∃ k n ks, x = .mk k n ks := by
  cases x
  exact ⟨_, _, _, rfl⟩
section
variable (t a : Int) (ht : 0 ≤ t ∧ t ≤ 3)
include ht
theorem l02AtomExpr_ok (atom : Int) (e : XExpr) (he : atE atom t.toNat = e) : CallX Tryz.prog 94 [.a 2 [J t, J a], I atom] [] (.a 3 (encExpr e)) := by
  subst he
  refine callX_of_vc htb hm Tryz.func94 rfl rfl rfl rfl (ann := fun _ => none) (gh := fun reg_ => match reg_ with | 6 => true | 8 => true | _ => false) ?_
  repeat' ((conv => whnf); first | (guard_target = Done _; refine Done.mk ?_) | (guard_target = RetX _ _; refine RetX.mk ?_ ?_) | (guard_target =~ LoopE 3 _ _ _ _ _ _; refine LoopE.mk { α := XExpr × Nat, keep := [1, 2, 4, 5], ov := fun ⟨x, k⟩ => [(6, I (k : Nat))], hv := fun ⟨x, k⟩ => [(4, .cc 3 (encExpr x))], φ := fun ⟨x, k⟩ => k ≤ t.toNat ∧ x = atE atom k, μ := fun ⟨x, k⟩ => t.toNat - k } (LoopN.mk ((leafE 2 0, 0) : XExpr × Nat) (by exact ⟨Nat.zero_le _, rfl⟩) (by (repeat' ((conv => whnf) <;> (first | exact trivial | refine ⟨?_, ?_⟩ | kernel_rfl))); done) (by (repeat' ((conv => whnf) <;> (first | exact trivial | refine ⟨?_, ?_⟩ | kernel_rfl))); done) (by (repeat' ((conv => whnf) <;> (first | exact trivial | refine ⟨?_, ?_⟩ | exact rfl | (simp only [List.map_append, List.map_cons, List.map_nil, List.map_set]; first | done | rfl)))); done) (fun A ha => ?_) (by intro A; first | rfl | (obtain ⟨_, _⟩ := A; rfl) | (obtain ⟨_, _, _⟩ := A; rfl))); obtain ⟨x, k⟩ := A; have ha : k ≤ t.toNat ∧ x = atE atom k := ha; rcases x with ⟨x1, x2, x3⟩) | (guard_target = Gh _ _ _ _ _; refine Gh.go ⟨((notE (leafE 3 k), k + 1) : XExpr × Nat), (by (have hb : bitV k atom = 0 := (by assumption); have hk : (k : Int) = 0 := h; exact ⟨by show k + 1 ≤ _; omega, at_0 hk (lit_y hb)⟩)), (by first | (show _ < _; simp only []; omega) | omega | (simp; omega)), (by (repeat' ((conv => whnf) <;> (first | exact trivial | refine ⟨?_, ?_⟩ | kernel_rfl))); done), (by (repeat' ((conv => whnf) <;> (first | exact trivial | refine ⟨?_, ?_⟩ | kernel_rfl))); done), (by (repeat' ((conv => whnf) <;> (first | exact trivial | refine ⟨?_, ?_⟩ | exact rfl | (simp only [List.map_append, List.map_cons, List.map_nil, List.map_set]; first | done | rfl)))); done)⟩) | (guard_target = Gh _ _ _ _ _; refine Gh.go ⟨((leafE 3 k, k + 1) : XExpr × Nat), (by (have hb : ¬ bitV k atom = 0 := (by assumption); have hk : (k : Int) = 0 := h; exact ⟨by show k + 1 ≤ _; omega, at_0 hk (lit_n hb)⟩)), (by first | (show _ < _; simp only []; omega) | omega | (simp; omega)), (by (repeat' ((conv => whnf) <;> (first | exact trivial | refine ⟨?_, ?_⟩ | kernel_rfl))); done), (by (repeat' ((conv => whnf) <;> (first | exact trivial | refine ⟨?_, ?_⟩ | kernel_rfl))); done), (by (repeat' ((conv => whnf) <;> (first | exact trivial | refine ⟨?_, ?_⟩ | exact rfl | (simp only [List.map_append, List.map_cons, List.map_nil, List.map_set]; first | done | rfl)))); done)⟩) | (guard_target = Gh _ _ _ _ _; refine Gh.go ⟨((pairE 7 (.mk x1 x2 x3) (notE (leafE 3 k)), k + 1) : XExpr × Nat), (by (have hb : bitV k atom = 0 := (by assumption); have hk : ¬ (k : Int) = 0 := h; exact ⟨by show k + 1 ≤ _; omega, at_s hk (lit_y hb) ha.2⟩)), (by first | (show _ < _; simp only []; omega) | omega | (simp; omega)), (by (repeat' ((conv => whnf) <;> (first | exact trivial | refine ⟨?_, ?_⟩ | kernel_rfl))); done), (by (repeat' ((conv => whnf) <;> (first | exact trivial | refine ⟨?_, ?_⟩ | kernel_rfl))); done), (by (repeat' ((conv => whnf) <;> (first | exact trivial | refine ⟨?_, ?_⟩ | exact rfl | (simp only [List.map_append, List.map_cons, List.map_nil, List.map_set]; first | done | rfl)))); done)⟩) | (guard_target = Gh _ _ _ _ _; refine Gh.go ⟨((pairE 7 (.mk x1 x2 x3) (leafE 3 k), k + 1) : XExpr × Nat), (by (have hb : ¬ bitV k atom = 0 := (by assumption); have hk : ¬ (k : Int) = 0 := h; exact ⟨by show k + 1 ≤ _; omega, at_s hk (lit_n hb) ha.2⟩)), (by first | (show _ < _; simp only []; omega) | omega | (simp; omega)), (by (repeat' ((conv => whnf) <;> (first | exact trivial | refine ⟨?_, ?_⟩ | kernel_rfl))); done), (by (repeat' ((conv => whnf) <;> (first | exact trivial | refine ⟨?_, ?_⟩ | kernel_rfl))); done), (by (repeat' ((conv => whnf) <;> (first | exact trivial | refine ⟨?_, ?_⟩ | exact rfl | (simp only [List.map_append, List.map_cons, List.map_nil, List.map_set]; first | done | rfl)))); done)⟩) | (guard_target = Fact _ _; refine Fact.mk fun hL => ?_; (try simp only [List.length_map, maxLen] at hL)) | (guard_target = Branch _ _ _; (first | refine Branch.dec ?_ ?_ | refine Branch.beq ?_ ?_ | refine Branch.bne ?_ ?_ | refine Branch.ndec ?_ ?_ | refine Branch.nb ?_ ?_ | refine Branch.mk ?_ ?_) <;> intro h <;> (try simp only [List.length_map] at h) <;> (try omega) <;> (try contradiction)) | (guard_target = CallN _ 43 _ _ _ _; refine CallN.gen [] _ _ _ rfl (l02One_ok) rfl rfl _ rfl ?_) | (guard_target = CallN _ 93 _ _ _ _; refine CallN.gen [] _ _ _ rfl (l02Pair_ok 7 (.mk x1 x2 x3) (notE (leafE 3 k))) rfl rfl _ rfl ?_) | (guard_target = CallN _ 93 _ _ _ _; refine CallN.gen [] _ _ _ rfl (l02Pair_ok 7 (.mk x1 x2 x3) (leafE 3 k)) rfl rfl _ rfl ?_) | (guard_target = Arith IntKind.u64 _ _; refine Arith.fit (u64_fit (by omega) (by omega)) ?_) | (guard_target = Gh _ _ _ _ _; refine Gh.frz 5 (.ro 3 []) rfl (Gh.soft 7 (.cc rfl) (Gh.go ?_))) | (guard_target = Gh _ _ _ _ _; refine Gh.frz 8 (.ro 3 [encExpr (leafE 3 k)]) rfl (Gh.soft 7 (.cc rfl) (Gh.go ?_))) | (guard_target = Gh _ _ _ _ _; (have hb : ¬ bitV k atom = 0 := h); refine Gh.go ?_) | (guard_target = Arith _ _ _; refine Arith.fit (wrap_fit (by first | omega | (simp only [List.length_map]; omega)) (by first | omega | (simp only [List.length_map]; omega))) ?_) | (guard_target = Arith _ _ _; refine Arith.fit (by decide) ?_) | (guard_target = Index _ _ _; first  | refine Index.mk _ (idx_map (by omega)) ?_) | (guard_target = Need (_ = true) _; refine Need.mk (by first | kernel_rfl | rfl) ?_) | (guard_target = LinkV _ _ _; first  | refine LinkV.no ?_) | (guard_target = GhO _ _ _ _; refine GhO.go ?_) | (guard_target = Need _ _; refine Need.mk (by first  | omega | (simp only [List.length_map]; omega)) ?_))
  all_goals first | rfl | trivial | (have e9 : k = t.toNat := (by omega); rw [← e9, ← ha.2]; done)
end
end Go.Proofs.YtlfigjkddnncgaaGreat

namespace Go.Proofs.YtlfigjkddnncgaaGreat
open Go Go.KA Go.Proofs
set_option maxHeartbeats 16000000
set_option maxRecDepth 100000
def sumE (es : List XExpr) : XExpr := es.foldl (pairE 6) (leafE 1 0)
def ofE (T : Nat) (L : List Int) : XExpr := sumE (L.map fun z => atE z T)
theorem cond_sum {T i : Nat} {L : List Int} {s x : XExpr} (hi : i < L.length) (h : s = sumE ((L.take i).map fun z => atE z T)) (hx : atE L[i] T = x) : pairE 6 s x = sumE ((L.take (i + 1)).map fun z => atE z T) := by
  rw [take_map_next hi, hx, h]
  unfold sumE
  rw [List.foldl_append]
  rfl
section
variable (t a : Int) (ht : 0 ≤ t ∧ t ≤ 3)
include ht
theorem l07Of_ok (L : List Int) (e : XExpr) (he : ofE t.toNat L = e) : CallX Tryz.prog 36 [.a 2 [J t, J a], .c (.ro 1 (L.map eI))] [] (.a 3 (encExpr e)) := by
  have hc := fun z e => l02AtomExpr_ok t a ht z e
  subst he
  refine callX_of_vc htb hm Tryz.func36 rfl rfl rfl rfl (ann := fun _ => none) (gh := fun _ => false) ?_
  repeat' ((conv => whnf); first | (guard_target = Done _; refine Done.mk ?_) | (guard_target = RetX _ _; refine RetX.mk ?_ ?_) | (guard_target =~ LoopE 3 _ _ _ _ _ _; refine LoopE.mk { α := XExpr × Nat, keep := [1, 2, 4, 5], ov := fun ⟨s, i⟩ => [(6, I (i : Nat))], hv := fun ⟨s, i⟩ => [(4, .cc 3 (encExpr s))], φ := fun ⟨s, i⟩ => i ≤ L.length ∧ s = sumE ((L.take i).map fun z => atE z t.toNat), μ := fun ⟨s, i⟩ => L.length - i } (LoopN.mk ((leafE 1 0, 0) : XExpr × Nat) (by exact ⟨Nat.zero_le _, rfl⟩) (by (repeat' ((conv => whnf) <;> (first | exact trivial | refine ⟨?_, ?_⟩ | kernel_rfl))); done) (by (repeat' ((conv => whnf) <;> (first | exact trivial | refine ⟨?_, ?_⟩ | kernel_rfl))); done) (by (repeat' ((conv => whnf) <;> (first | exact trivial | refine ⟨?_, ?_⟩ | exact rfl | (simp only [List.map_append, List.map_cons, List.map_nil, List.map_set]; first | done | rfl)))); done) (fun A ha => ?_) (by intro A; first | rfl | (obtain ⟨_, _⟩ := A; rfl) | (obtain ⟨_, _, _⟩ := A; rfl))); obtain ⟨s, i⟩ := A; have ha : i ≤ L.length ∧ s = sumE ((L.take i).map fun z => atE z t.toNat) := ha; rcases s with ⟨s1, s2, s3⟩) | (guard_target = Gh _ _ _ _ _; refine Gh.go ⟨((pairE 6 (.mk s1 s2 s3) (.mk x1 x2 x3), i + 1) : XExpr × Nat), (by exact ⟨by show i + 1 ≤ _; omega, cond_sum (by omega) ha.2 hx⟩), (by first | (show _ < _; simp only []; omega) | omega | (simp; omega)), (by (repeat' ((conv => whnf) <;> (first | exact trivial | refine ⟨?_, ?_⟩ | kernel_rfl))); done), (by (repeat' ((conv => whnf) <;> (first | exact trivial | refine ⟨?_, ?_⟩ | kernel_rfl))); done), (by (repeat' ((conv => whnf) <;> (first | exact trivial | refine ⟨?_, ?_⟩ | exact rfl | (simp only [List.map_append, List.map_cons, List.map_nil, List.map_set]; first | done | rfl)))); done)⟩) | (guard_target = Fact _ _; refine Fact.mk fun hL => ?_; (try simp only [List.length_map, maxLen] at hL)) | (guard_target = Branch _ _ _; (first | refine Branch.dec ?_ ?_ | refine Branch.beq ?_ ?_ | refine Branch.bne ?_ ?_ | refine Branch.ndec ?_ ?_ | refine Branch.nb ?_ ?_ | refine Branch.mk ?_ ?_) <;> intro h <;> (try simp only [List.length_map] at h) <;> (try omega) <;> (try contradiction)) | (guard_target = CallN _ 92 _ _ _ _; refine CallN.gen [] _ _ _ rfl (l02Zero_ok) rfl rfl _ rfl ?_) | (guard_target = CallN _ 93 _ _ _ _; refine CallN.gen [] _ _ _ rfl (l02Pair_ok 6 _ _) rfl rfl _ rfl ?_) | (guard_target = CallN _ 94 _ _ _ _; obtain ⟨x1, x2, x3, hx⟩ := ex_mk (atE L[i] t.toNat); refine CallN.gen [] _ _ _ rfl (hc L[i] (.mk x1 x2 x3) hx) rfl rfl _ rfl ?_) | (guard_target = Arith _ _ _; refine Arith.fit (wrap_fit (by first | omega | (simp only [List.length_map]; omega)) (by first | omega | (simp only [List.length_map]; omega))) ?_) | (guard_target = Arith _ _ _; refine Arith.fit (by decide) ?_) | (guard_target = Index _ _ _; first | refine Index.mk _ (idx_map (l := L) (i := i) (by omega)) ?_ | refine Index.mk _ (idx_map (by omega)) ?_) | (guard_target = Need (_ = true) _; refine Need.mk (by first | kernel_rfl | rfl) ?_) | (guard_target = LinkV _ _ _; first  | refine LinkV.no ?_) | (guard_target = GhO _ _ _ _; refine GhO.go ?_) | (guard_target = Need _ _; refine Need.mk (by first  | omega | (simp only [List.length_map]; omega)) ?_))
  all_goals first | rfl | trivial | (have h9 := ha.2; rw [List.take_of_length_le (by omega)] at h9; rw [h9]; rfl)
variable (l : List XPremise) (hl : PremOk t a l) (N : Nat) (hN : atomsN t = N ∧ 1 ≤ N ∧ N ≤ 8)
include hl hN
def weakE (t : Int) (N : Nat) (l : List XPremise) (p : XProg) (c : XExpr) : XExpr := ofE t.toNat (selR N (sureP N (ldR N l p) c))
abbrev finC (t a : Int) (l : List XPremise) (left : Int) (bad : Bool) : List CV := [J t, J a, .ro 7 (l.map encPremise), J left, .val (.bool bad)]
end
end Go.Proofs.YtlfigjkddnncgaaGreat

namespace Go.Proofs.YtlfigjkddnncgaaGreat
open Go Go.KA Go.Proofs
set_option maxHeartbeats 16000000
set_option maxRecDepth 100000
abbrev nodeD (r : Int) (pre : XExpr) (p : XProg) (post : XExpr) (ks : List XDerivation) : XDerivation := .mk r ⟨pre, p, post⟩ ks
def nilP : XProg := .mk 0 0 (.mk 0 0 []) []
def nilD : XDerivation := nodeD 0 (.mk 0 0 []) nilP (.mk 0 0 []) []
def actsD (l : List XPremise) (p : XProg) : List XDerivation := (l.filter fun x => x.act == p.num).map fun x => nodeD 3 x.pre p x.post []
def findK (t : Int) (N : Nat) (l : List XPremise) (p : XProg) (fs : List (XExpr → XDerivation)) (c : XExpr) : XDerivation :=
  if p.kind = 1 then nodeD 8 (weakE t N l p c) p c [nodeD 1 c p c []]
  else if p.kind = 2 then nodeD 2 (weakE t N l p c) p c []
  else if p.kind = 3 then nodeD 8 (weakE t N l p c) p c (actsD l p)
  else if p.kind = 4 then nodeD 8 (weakE t N l p c) p c [nodeD 4 (pairE 6 (notE p.cond) c) p c []]
  else if p.kind = 5 then nodeD 5 (weakE t N l p c) p c [fs.getD 0 (fun _ => nilD) (weakE t N l (p.kids.getD 1 nilP) c), fs.getD 1 (fun _ => nilD) c]
  else if p.kind = 6 then nodeD 6 (weakE t N l p c) p c [nodeD 8 (pairE 7 p.cond (weakE t N l p c)) (p.kids.getD 0 nilP) c [fs.getD 0 (fun _ => nilD) c], nodeD 8 (pairE 7 (notE p.cond) (weakE t N l p c)) (p.kids.getD 1 nilP) c [fs.getD 1 (fun _ => nilD) c]]
  else nodeD 8 (weakE t N l p c) p c [nodeD 7 (weakE t N l p c) p (pairE 7 (notE p.cond) (weakE t N l p c)) [nodeD 8 (pairE 7 p.cond (weakE t N l p c)) (p.kids.getD 0 nilP) (weakE t N l p c) [fs.getD 0 (fun _ => nilD) (weakE t N l p c)]]]
mutual
def findD (t : Int) (N : Nat) (l : List XPremise) : XProg → XExpr → XDerivation
  | .mk k n cnd ks => fun c => findK t N l (.mk k n cnd ks) (findL t N l ks) c
def findL (t : Int) (N : Nat) (l : List XPremise) : List XProg → List (XExpr → XDerivation)
  | [] => []
  | p :: ps => findD t N l p :: findL t N l ps
end
section
variable {t : Int} {N : Nat} {l : List XPremise} {p : XProg} {c w : XExpr} (hw : weakE t N l p c = w)
include hw
end
end Go.Proofs.YtlfigjkddnncgaaGreat

namespace Go.Proofs.YtlfigjkddnncgaaGreat
open Go Go.KA Go.Proofs
set_option maxRecDepth 100000
theorem bud_lit (atom : Int) (i : Nat) : budExpr (litE atom i) ≤ 1 := by
  unfold litE
  split <;> simp [budExpr, budExprS]
theorem bud_at (atom : Int) : ∀ k : Nat, budExpr (atE atom k) ≤ 4 * k
  | 0 => by simp [atE, budExpr, budExprS]
  | k + 1 => by
    have h1 := bud_at atom k
    have h2 := bud_lit atom k
    have h3 := bud_lit atom 0
    unfold atE
    split
    · omega
    · simp only [budExpr, budExprS]; omega
theorem bud_sum (m : Nat) : ∀ (es : List XExpr) (s : XExpr), (∀ e ∈ es, budExpr e ≤ m) → budExpr (es.foldl (pairE 6) s) ≤ budExpr s + es.length * (m + 2)
  | [], s, _ => by simp
  | e :: es, s, h => by
    have h1 := bud_sum m es (pairE 6 s e) fun x hx => h x (by simp [hx])
    have h2 := h e (by simp)
    have h3 : budExpr (pairE 6 s e) = budExpr s + 1 + (budExpr e + 1) := by simp [budExpr, budExprS]
    simp only [List.foldl_cons, List.length_cons, Nat.add_mul]
    omega
theorem bud_weak {t : Int} (ht : 0 ≤ t ∧ t ≤ 3) {N : Nat} (hN : N ≤ 8) (l : List XPremise) (p : XProg) (c : XExpr) : budExpr (weakE t N l p c) ≤ 200 := by
  unfold weakE ofE sumE
  have h1 := selR_len N (sureP N (ldR N l p) c)
  have h2 := bud_sum 12 ((selR N (sureP N (ldR N l p) c)).map fun z => atE z t.toNat) (leafE 1 0) fun e he => by
    obtain ⟨z, _, rfl⟩ := List.mem_map.1 he
    have := bud_at z t.toNat
    omega
  rw [List.length_map] at h2
  have h3 : budExpr (leafE 1 0) = 0 := by simp [budExpr, budExprS]
  omega
end Go.Proofs.YtlfigjkddnncgaaGreat

namespace Go.Proofs.YtlfigjkddnncgaaGreat
open Go Go.KA Go.Proofs
set_option maxHeartbeats 16000000
set_option maxRecDepth 100000
abbrev actsR (l : List XPremise) (p : XProg) : List XDerivation := (l.filter fun x => x.act == p.num).map fun x => nodeD 3 x.pre p x.post []
section
variable (t a : Int) (ht : 0 ≤ t ∧ t ≤ 3) (l : List XPremise) (hl : PremOk t a l) (hl12 : l.length ≤ 12) (N : Nat) (hN : atomsN t = N ∧ 1 ≤ N ∧ N ≤ 8)
include ht hl hl12 hN
end
end Go.Proofs.YtlfigjkddnncgaaGreat
