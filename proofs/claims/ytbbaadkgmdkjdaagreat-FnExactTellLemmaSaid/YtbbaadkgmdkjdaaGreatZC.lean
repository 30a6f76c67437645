/- Marks of an archive's memory; contracts of the functions that ask a server, and of SavedAt; its law answers true. No conditions. -/
import Derived.Test.YtbbaadkgmdkjdaaGreatZb
import Derived.Test.YtbbaadkgmdkjdaaGreatMk
namespace Go.Proofs.YtbbaadkgmdkjdaaGreat
open Go Go.KA Go.Proofs
set_option maxHeartbeats 16000000
set_option maxRecDepth 100000
/-! ### marks -/
mutual
theorem mke_le : ∀ e : XExpr, mkeExpr e ≤ 2 + 2 * budExpr e
  | .mk k n kids => by
    have := mkeS_le kids
    simp only [mkeExpr, budExpr]
    omega
theorem mkeS_le : ∀ l : List XExpr, mkeExprS l ≤ 2 * budExprS l
  | [] => Nat.le_refl _
  | x :: xs => by
    have h1 := mke_le x
    have h2 := mkeS_le xs
    simp only [mkeExprS, budExprS]
    omega
end
theorem bsum_one {α : Type} : ∀ l : List α, bsum one l = l.length
  | [] => rfl
  | x :: xs => by simp only [bsum, one, List.length_cons]; rw [bsum_one xs]; omega
theorem mkeL_le (l : List XExpr) : bsum mkeExpr l ≤ 2 * budS budExpr l := by
  have h := mkeS_le l
  rwa [mkeExprS_eq, budExprS_eq] at h
theorem bsum_up {α : Type} {f g : α → Nat} {c d : Nat} (hf : ∀ x, f x ≤ c + d * g x) (hcd : c ≤ d) (l : List α) : bsum f l ≤ d * budS g l := by
  have h := bsum_mono (l := l) (f := f) (g := fun x => c + d * g x) fun x _ => hf x
  rw [bsum_lin] at h
  have : c * l.length ≤ d * l.length := Nat.mul_le_mul_right _ hcd
  unfold budS
  rw [Nat.mul_add]
  omega
theorem mkeSt_le (s : XProofStep) : mkeProofStep s ≤ 2 + 2 * budProofStep s := by
  have h1 := mkeL_le s.tests
  have h2 := mkeL_le s.acts
  rw [mkeProofStep_eq, bsum_one]
  simp only [budProofStep]
  omega
theorem mkeKids_le (e : XExpr) : bsum mkeExpr e.kids ≤ 2 * budExpr e := by
  have := mke_le e
  rw [mkeExpr_eq] at this
  omega
theorem mkeCl_le (c : XClaim) : mkeClaim c ≤ 6 + 2 * budClaim c := by
  have h1 := mkeKids_le c.left
  have h2 := mkeKids_le c.right
  have h3 := bsum_up (fun s => mkeSt_le s) (Nat.le_refl 2) c.steps
  rw [mkeClaim_eq]
  simp only [budClaim]
  omega
theorem mkeCls_le (l : List XClaim) : bsum mkeClaim l ≤ 6 * budS budClaim l := bsum_up (c := 6) (d := 6) (fun s => by have := mkeCl_le s; omega) (Nat.le_refl 6) l
theorem mkeNo_le (n : XNote) : mkeNote n ≤ 6 + 6 * budNote n := by
  have h := mkeCls_le n.entry.proof.claims
  rw [mkeNote_eq, bsum_one]
  simp only [budNote, budEntry, budProof]
  omega
theorem mkeSe_le (s : XServer) : mkeServer s ≤ 6 + 6 * budServer s := by
  have h := bsum_up (fun s => mkeNo_le s) (Nat.le_refl 6) s.notes
  rw [mkeServer_eq]
  simp only [budServer]
  omega
theorem mkePa_le (p : XPacket) : mkePacket p ≤ 6 + 6 * budPacket p := by
  have h := mkeCls_le p.note.entry.proof.claims
  rw [mkePacket_eq, bsum_one]
  simp only [budPacket, budNote, budEntry, budProof]
  omega
theorem mkArch_le (a : XArchive) (hl : budArchive a ≤ 1048576) : bsum mkeServer a.servers + bsum mkePacket a.flying ≤ 10000000 := by
  have h1 := bsum_up (fun s => mkeSe_le s) (Nat.le_refl 6) a.servers
  have h2 := bsum_up (fun s => mkePa_le s) (Nat.le_refl 6) a.flying
  simp only [budArchive] at hl
  omega
/-! ### asking a server -/
def placeB (a : XArchive) (s : Int) : Bool := rng 0 ((a.servers.length : Int) - 1) s
noncomputable def askN (a : XArchive) (s id : Int) : Int := if goodArch a = false then 1 else if placeB a s = false ∨ rng 0 99 id = false then 2 else 0
theorem isPlace_ok (a : XArchive) (s : Int) : CallF Tryz.prog 121 [.a 4 (encArchive a), I s] (B (placeB a s)) := by
  refine callF_of_vc htb hm Tryz.func121 rfl rfl rfl rfl (ann := fun _ => none) (gh := fun _ => false) ?_
  repeat' ((conv => whnf); first
    | (guard_target = Done _; refine Done.mk ?_; first | ((simp only [List.length_map]; rfl); done) | skip)
    | (guard_target = RetX _ _; refine RetX.mk ?_ ?_)
    | (guard_target = Fact _ _; refine Fact.mk fun hL => ?_; (try simp only [List.length_map, maxLen] at hL))
    | (guard_target = Branch _ _ _; (first | refine Branch.dec (fun h => ?_) (fun h => ?_) | refine Branch.beq (fun h => ?_) (fun h => ?_) | refine Branch.bne (fun h => ?_) (fun h => ?_) | refine Branch.ndec (fun h => ?_) (fun h => ?_) | refine Branch.nb (fun h => ?_) (fun h => ?_) | refine Branch.mk (fun h => ?_) (fun h => ?_)) <;> (try simp only [List.length_map] at h) <;> (try omega) <;> (try contradiction))
    | (guard_target = CallN _ 51 _ _ _ _; refine CallN.pure _ _ rfl (within_ok _ _ _) rfl _ rfl ?_)
    | (guard_target = Arith _ _ _; refine Arith.fit (wrap_fit (by first | omega | (simp only [List.length_map]; omega)) (by first | omega | (simp only [List.length_map]; omega))) ?_)
    | (guard_target = Arith _ _ _; refine Arith.fit (by decide) ?_)
    | (guard_target = Index _ _ _; first  | refine Index.mk _ (idx_map (by omega)) ?_)
    | (guard_target = Need (chkDraw _ = true) _; refine Need.mk (by kernel_rfl) ?_)
    | (guard_target = Need (chkRecs _ _ = true) _; refine Need.mk (by first | kernel_rfl | rfl) ?_)
    | (guard_target = Need _ _; refine Need.mk (by first  | omega | (simp only [List.length_map]; omega)) ?_))
theorem l08At_ok (a : XArchive) (s : Int) : CallF Tryz.prog 89 [.c (.rp 4 (encArchive a)), I s] (B (placeB a s)) := by
  refine callF_of_vc htb hm Tryz.func89 rfl rfl rfl rfl (ann := fun _ => none) (gh := fun _ => false) ?_
  repeat' ((conv => whnf); first
    | (guard_target = Done _; refine Done.mk ?_; first | ((simp only [List.length_map]; rfl); done) | skip)
    | (guard_target = RetX _ _; refine RetX.mk ?_ ?_)
    | (guard_target = Fact _ _; refine Fact.mk fun hL => ?_; (try simp only [List.length_map, maxLen] at hL))
    | (guard_target = Branch _ _ _; (first | refine Branch.dec (fun h => ?_) (fun h => ?_) | refine Branch.beq (fun h => ?_) (fun h => ?_) | refine Branch.bne (fun h => ?_) (fun h => ?_) | refine Branch.ndec (fun h => ?_) (fun h => ?_) | refine Branch.nb (fun h => ?_) (fun h => ?_) | refine Branch.mk (fun h => ?_) (fun h => ?_)) <;> (try simp only [List.length_map] at h) <;> (try omega) <;> (try contradiction))
    | (guard_target = CallN _ 90 _ _ _ _; refine CallN.pure _ _ rfl (l00In_ok _ _ _) rfl _ rfl ?_)
    | (guard_target = Arith _ _ _; refine Arith.fit (wrap_fit (by first | omega | (simp only [List.length_map]; omega)) (by first | omega | (simp only [List.length_map]; omega))) ?_)
    | (guard_target = Arith _ _ _; refine Arith.fit (by decide) ?_)
    | (guard_target = Index _ _ _; first  | refine Index.mk _ (idx_map (by omega)) ?_)
    | (guard_target = Need (chkDraw _ = true) _; refine Need.mk (by kernel_rfl) ?_)
    | (guard_target = Need (chkRecs _ _ = true) _; refine Need.mk (by first | kernel_rfl | rfl) ?_)
    | (guard_target = Need _ _; refine Need.mk (by first  | omega | (simp only [List.length_map]; omega)) ?_))
theorem askServer_ok (a : XArchive) (s id : Int) (hl : budArchive a ≤ 1048576) : CallF Tryz.prog 70 [.a 4 (encArchive a), I s, I id] (I (askN a s id)) := by
  refine callF_of_vc htb hm Tryz.func70 rfl rfl rfl rfl (ann := fun _ => none) (gh := fun _ => false) ?_
  repeat' ((conv => whnf); first
    | (guard_target = Done _; refine Done.mk ?_; first | ((simp_all [askN, normS, normV]; done); done) | skip)
    | (guard_target = RetX _ _; refine RetX.mk ?_ ?_)
    | (guard_target = Fact _ _; refine Fact.mk fun hL => ?_; (try simp only [List.length_map, maxLen] at hL))
    | (guard_target = Branch _ _ _; (first | refine Branch.dec (fun h => ?_) (fun h => ?_) | refine Branch.beq (fun h => ?_) (fun h => ?_) | refine Branch.bne (fun h => ?_) (fun h => ?_) | refine Branch.ndec (fun h => ?_) (fun h => ?_) | refine Branch.nb (fun h => ?_) (fun h => ?_) | refine Branch.mk (fun h => ?_) (fun h => ?_)) <;> (try simp only [List.length_map] at h) <;> (try omega) <;> (try contradiction))
    | (guard_target = CallN _ 15 _ _ _ _; refine CallN.pure _ _ rfl (ValidArchive_ok a hl) rfl _ rfl ?_)
    | (guard_target = CallN _ 121 _ _ _ _; refine CallN.pure _ _ rfl (isPlace_ok a s) rfl _ rfl ?_)
    | (guard_target = CallN _ 51 _ _ _ _; refine CallN.pure _ _ rfl (within_ok _ _ _) rfl _ rfl ?_)
    | (guard_target = Arith _ _ _; refine Arith.fit (wrap_fit (by first | omega | (simp only [List.length_map]; omega)) (by first | omega | (simp only [List.length_map]; omega))) ?_)
    | (guard_target = Arith _ _ _; refine Arith.fit (by decide) ?_)
    | (guard_target = Index _ _ _; first  | refine Index.mk _ (idx_map (by omega)) ?_)
    | (guard_target = Need (chkDraw _ = true) _; refine Need.mk (by kernel_rfl) ?_)
    | (guard_target = Need (chkRecs _ _ = true) _; refine Need.mk (by first | kernel_rfl | rfl) ?_)
    | (guard_target = Need _ _; refine Need.mk (by first  | omega | (simp only [List.length_map]; omega)) ?_))
theorem l08Asked_ok (a : XArchive) (s id : Int) (hl : budArchive a ≤ 1048576) : CallF Tryz.prog 68 [.c (.rp 4 (encArchive a)), I s, I id] (I (askN a s id)) := by
  refine callF_of_vc htb hm Tryz.func68 rfl rfl rfl rfl (ann := fun _ => none) (gh := fun _ => false) ?_
  repeat' ((conv => whnf); first
    | (guard_target = Done _; refine Done.mk ?_; first | ((simp_all [askN, normS, normV]; done); done) | skip)
    | (guard_target = RetX _ _; refine RetX.mk ?_ ?_)
    | (guard_target = Fact _ _; refine Fact.mk fun hL => ?_; (try simp only [List.length_map, maxLen] at hL))
    | (guard_target = Branch _ _ _; (first | refine Branch.dec (fun h => ?_) (fun h => ?_) | refine Branch.beq (fun h => ?_) (fun h => ?_) | refine Branch.bne (fun h => ?_) (fun h => ?_) | refine Branch.ndec (fun h => ?_) (fun h => ?_) | refine Branch.nb (fun h => ?_) (fun h => ?_) | refine Branch.mk (fun h => ?_) (fun h => ?_)) <;> (try simp only [List.length_map] at h) <;> (try omega) <;> (try contradiction))
    | (guard_target = CallN _ 46 _ _ _ _; refine CallN.pure _ _ rfl (l08Ok_ok a hl) rfl _ rfl ?_)
    | (guard_target = CallN _ 89 _ _ _ _; refine CallN.pure _ _ rfl (l08At_ok a s) rfl _ rfl ?_)
    | (guard_target = CallN _ 90 _ _ _ _; refine CallN.pure _ _ rfl (l00In_ok _ _ _) rfl _ rfl ?_)
    | (guard_target = Arith _ _ _; refine Arith.fit (wrap_fit (by first | omega | (simp only [List.length_map]; omega)) (by first | omega | (simp only [List.length_map]; omega))) ?_)
    | (guard_target = Arith _ _ _; refine Arith.fit (by decide) ?_)
    | (guard_target = Index _ _ _; first  | refine Index.mk _ (idx_map (by omega)) ?_)
    | (guard_target = Need (chkDraw _ = true) _; refine Need.mk (by kernel_rfl) ?_)
    | (guard_target = Need (chkRecs _ _ = true) _; refine Need.mk (by first | kernel_rfl | rfl) ?_)
    | (guard_target = Need _ _; refine Need.mk (by first  | omega | (simp only [List.length_map]; omega)) ?_))
theorem ask_ok {a : XArchive} {s id : Int} (h : askN a s id = 0) : GA a ∧ placeB a s = true ∧ rng 0 99 id = true := by
  unfold askN at h
  cases hg : goodArch a with
  | false => rw [hg] at h; simp at h
  | true =>
    rw [hg] at h
    refine ⟨(arch_iff a).1 hg, ?_⟩
    cases h1 : placeB a s <;> cases h2 : rng 0 99 id <;> simp_all
end Go.Proofs.YtbbaadkgmdkjdaaGreat

namespace Go.Proofs.YtbbaadkgmdkjdaaGreat
open Go Go.KA Go.Proofs
set_option maxHeartbeats 16000000
set_option maxRecDepth 100000
/-! ### marks of numbers -/
def mkI (n : Nat) (k : Int) : List Int := (List.range n).map fun (j : Nat) => k + j
theorem mkI_len (n : Nat) (k : Int) : (mkI n k).length = n := by simp [mkI]
theorem mkI_get {n j : Nat} {k : Int} (h : j < (mkI n k).length) : (mkI n k)[j] = k + j := by simp [mkI]
def hfI (l : List Int) (k : Int) (i : Nat) : List Int := mkI i k ++ l.drop i
theorem hf_len {l : List Int} {k : Int} {i : Nat} (h : i ≤ l.length) : (hfI l k i).length = l.length := by
  unfold hfI
  rw [List.length_append, mkI_len, List.length_drop]
  omega
theorem hf_set {l : List Int} {k : Int} {i : Nat} (h : i < l.length) : (hfI l k i).set i (k + i) = hfI l k (i + 1) := by
  unfold hfI
  rw [List.set_append_right _ _ (by rw [mkI_len]; exact Nat.le_refl _), mkI_len, Nat.sub_self, List.drop_eq_getElem_cons h, List.set_cons_zero]
  unfold mkI
  rw [List.range_succ, List.map_append, List.append_assoc]
  rfl
theorem hf_setm {l : List Int} {k : Int} {i : Nat} (h : i < l.length) : ((hfI l k i).map eI).set i [J (k + i)] = (hfI l k (i + 1)).map eI := by
  rw [← hf_set h, List.map_set]
theorem hf_end {l : List Int} {k : Int} {i : Nat} (h : i = l.length) : hfI l k i = mkI l.length k := by
  unfold hfI
  rw [List.drop_of_length_le (by omega), List.append_nil, h]
theorem markInt64S_told (l : List Int) (k : Int) (hl : l.length ≤ 100000000) (hk : 0 ≤ k ∧ k ≤ 100000000000) : CallX Tryz.prog 26 [.c (.ows 2 1 (l.map eI)), I k] [some [.ows 2 1 ((mkI l.length k).map eI)], none] (I (k + l.length)) := by
  refine callX_of_vc htb hm Tryz.func26 rfl rfl rfl rfl (ann := fun _ => none) (gh := fun _ => false) ?_
  repeat' ((conv => whnf); first
    | (guard_target = RetX _ _; have hi : i = l.length := (by omega); have hc : c = k + l.length := (by omega); refine RetX.mk (by rw [hc]) ⟨?_, trivial⟩; show some [CV.ows 2 1 ((hfI l k i).map eI)] = _; rw [hf_end hi])
    | (guard_target = Done _; refine Done.mk ?_)
    | (guard_target = RetX _ _; refine RetX.mk ?_ ?_)
    | (guard_target =~ LoopE 2 _ _ _ _ _ _; refine LoopE.mk { α := Nat × Int, keep := [0], ov := fun ⟨i, c⟩ => [(1, I c), (5, I i)], hv := fun ⟨i, c⟩ => [(0, .row none 2 1 ((hfI l k i).map eI))], φ := fun ⟨i, c⟩ => i ≤ l.length ∧ c = k + i, μ := fun ⟨i, c⟩ => l.length - i } (LoopN.mk ((0, k) : Nat × Int) (by exact ⟨Nat.zero_le _, by show k = k + (0 : Nat); omega⟩) (by (repeat' first | exact trivial | exact rfl | refine ⟨?_, ?_⟩); done) (by (repeat' first | exact trivial | exact rfl | refine ⟨?_, ?_⟩); done) (by (repeat' first | exact trivial | exact rfl | refine ⟨?_, ?_⟩ | (simp only [List.map_append, List.map_cons, List.map_nil]; first | done | rfl)); done) (fun A ha => ?_) (by intro A; first | rfl | (obtain ⟨_, _⟩ := A; rfl) | (obtain ⟨_, _, _⟩ := A; rfl))); obtain ⟨i, c⟩ := A; have ha : i ≤ l.length ∧ c = k + i := ha; have hh := hf_len (k := k) ha.1)
    | (guard_target = Fact _ _; refine Fact.mk fun hL => ?_; (try simp only [List.length_map, maxLen] at hL))
    | (guard_target = Branch _ _ _; (first | refine Branch.dec (fun h => ?_) (fun h => ?_) | refine Branch.beq (fun h => ?_) (fun h => ?_) | refine Branch.bne (fun h => ?_) (fun h => ?_) | refine Branch.ndec (fun h => ?_) (fun h => ?_) | refine Branch.nb (fun h => ?_) (fun h => ?_) | refine Branch.mk (fun h => ?_) (fun h => ?_)) <;> (try simp only [List.length_map] at h) <;> (try omega) <;> (try contradiction))
    | (guard_target = Gh _ _ _ _ _; obtain rfl : c = k + i := ha.2; refine Gh.go ⟨((i + 1, k + i + 1) : Nat × Int), ⟨by show i + 1 ≤ _; omega, by show k + i + 1 = k + (i + 1 : Nat); omega⟩, (by show l.length - (i + 1) < l.length - i; omega), ⟨⟨rfl, rfl⟩, ⟨rfl, rfl⟩, trivial⟩, ⟨⟨rfl, rfl⟩, trivial⟩, ⟨⟨?_, rfl⟩, trivial⟩⟩; exact congrArg (Blk.row none 2 1) (hf_setm (l := l) (k := k) (i := i) (by omega)))
    | (guard_target = Arith _ _ _; refine Arith.fit (wrap_fit (by first | omega | (simp only [List.length_map]; omega)) (by first | omega | (simp only [List.length_map]; omega))) ?_)
    | (guard_target = Arith _ _ _; refine Arith.fit (by decide) ?_)
    | (guard_target = Index _ _ _; first | refine Index.mk _ (idx_map (i := i) (by omega)) ?_ | refine Index.mk _ (idx_map (by omega)) ?_)
    | (guard_target = Need (chkDraw _ = true) _; refine Need.mk (by kernel_rfl) ?_)
    | (guard_target = Need (chkRecs _ _ = true) _; refine Need.mk (by first | kernel_rfl | rfl) ?_)
    | (guard_target = Need _ _; refine Need.mk (by first  | omega | (simp only [List.length_map]; omega)) ?_))
theorem heldInt64S_told (n : Nat) (k : Int) (hl : n ≤ 100000000) (hk : 0 ≤ k ∧ k ≤ 100000000000) : CallF Tryz.prog 27 [.c (.ro 1 ((mkI n k).map eI)), I k] (I (k + n)) := by
  refine callF_of_vc htb hm Tryz.func27 rfl rfl rfl rfl (ann := fun _ => none) (gh := fun _ => false) ?_
  repeat' ((conv => whnf); first
    | (guard_target = Done _; refine Done.mk ?_; first | (exfalso; rw [mkI_get] at h; omega; done) | (have hc : c = k + n := (by omega); rw [hc]; rfl; done) | skip)
    | (guard_target = RetX _ _; refine RetX.mk ?_ ?_)
    | (guard_target =~ LoopE 2 _ _ _ _ _ _; refine LoopE.mk { α := Nat × Int, keep := [0], ov := fun ⟨i, c⟩ => [(1, I c), (5, I i)], φ := fun ⟨i, c⟩ => i ≤ n ∧ c = k + i, μ := fun ⟨i, c⟩ => n - i } (LoopN.mk ((0, k) : Nat × Int) (by exact ⟨Nat.zero_le _, by show k = k + (0 : Nat); omega⟩) (by (repeat' first | exact trivial | exact rfl | refine ⟨?_, ?_⟩); done) (by (repeat' first | exact trivial | exact rfl | refine ⟨?_, ?_⟩); done) (by (repeat' first | exact trivial | exact rfl | refine ⟨?_, ?_⟩ | (simp only [List.map_append, List.map_cons, List.map_nil]; first | done | rfl)); done) (fun A ha => ?_) (by intro A; first | rfl | (obtain ⟨_, _⟩ := A; rfl) | (obtain ⟨_, _, _⟩ := A; rfl))); obtain ⟨i, c⟩ := A; have ha : i ≤ n ∧ c = k + i := ha; have hh := mkI_len n k)
    | (guard_target = Gh _ _ _ _ _; refine Gh.go ⟨((i + 1, c + 1) : Nat × Int), (by exact ⟨by show i + 1 ≤ _; omega, by show c + 1 = k + (i + 1 : Nat); omega⟩), (by first | (show _ < _; simp only []; omega) | omega | (simp; omega)), (by (repeat' first | exact trivial | exact rfl | refine ⟨?_, ?_⟩); done), (by (repeat' first | exact trivial | exact rfl | refine ⟨?_, ?_⟩); done), (by (repeat' first | exact trivial | exact rfl | refine ⟨?_, ?_⟩ | (simp only [List.map_append, List.map_cons, List.map_nil]; first | done | rfl)); done)⟩)
    | (guard_target = Fact _ _; refine Fact.mk fun hL => ?_; (try simp only [List.length_map, maxLen] at hL))
    | (guard_target = Branch _ _ _; (first | refine Branch.dec (fun h => ?_) (fun h => ?_) | refine Branch.beq (fun h => ?_) (fun h => ?_) | refine Branch.bne (fun h => ?_) (fun h => ?_) | refine Branch.ndec (fun h => ?_) (fun h => ?_) | refine Branch.nb (fun h => ?_) (fun h => ?_) | refine Branch.mk (fun h => ?_) (fun h => ?_)) <;> (try simp only [List.length_map] at h) <;> (try omega) <;> (try contradiction))
    | (guard_target = Arith _ _ _; refine Arith.fit (wrap_fit (by first | omega | (simp only [List.length_map]; omega)) (by first | omega | (simp only [List.length_map]; omega))) ?_)
    | (guard_target = Arith _ _ _; refine Arith.fit (by decide) ?_)
    | (guard_target = Index _ _ _; first | refine Index.mk _ (idx_map (i := i) (by omega)) ?_ | refine Index.mk _ (idx_map (by omega)) ?_)
    | (guard_target = Need (chkDraw _ = true) _; refine Need.mk (by kernel_rfl) ?_)
    | (guard_target = Need (chkRecs _ _ = true) _; refine Need.mk (by first | kernel_rfl | rfl) ?_)
    | (guard_target = Need _ _; refine Need.mk (by first  | omega | (simp only [List.length_map]; omega)) ?_))
theorem pureLL_ints : ∀ l : List Int, pureLL (l.map eI)
  | [] => trivial
  | x :: xs => ⟨⟨trivial, trivial⟩, pureLL_ints xs⟩
/-! ### numbers that are picked -/
def selR (n : Nat) (p : Nat → Bool) : List Int := ((List.range n).filter p).map fun (i : Nat) => (i : Int)
theorem selR_yes {n : Nat} {p : Nat → Bool} (h : p n = true) : selR (n + 1) p = selR n p ++ [(n : Int)] := by
  simp [selR, List.range_succ, h]
theorem selR_no {n : Nat} {p : Nat → Bool} (h : p n = false) : selR (n + 1) p = selR n p := by
  simp [selR, List.range_succ, h]
theorem selR_len (n : Nat) (p : Nat → Bool) : (selR n p).length ≤ n := by
  have := List.length_filter_le p (List.range n)
  simpa [selR] using this
theorem selR_congr {n : Nat} {p q : Nat → Bool} (h : ∀ i, i < n → p i = q i) : selR n p = selR n q := by
  unfold selR
  congr 1
  exact List.filter_congr fun i hi => h i (by simpa using hi)
abbrev resI (l : List Int) (c : Int) : SV := .tup [.c (.ows 2 1 (l.map eI)), I c]
abbrev encA (a : XArchive) : SV := .a 4 (encArchive a)
/-- what a server has saved -/
abbrev sav (s : XServer) : List XNote := (s.notes.drop (0 : Int).toNat).take (s.saved.toNat - (0 : Int).toNat)
def savedP (a : XArchive) (r : Bool) (id : Int) (i : Nat) : Bool := decide (0 ≤ spotN (sav (a.servers.getD i s00)) r id)
theorem savedB {a : XArchive} (h : GA a) {i : Nat} (hi : i < a.servers.length) : 0 ≤ (a.servers.getD i s00).saved ∧ (a.servers.getD i s00).saved ≤ ((a.servers.getD i s00).notes.length : Int) := by
  have h4 := List.all_eq_true.1 h.2.2.2.1 _ (List.getElem_mem hi)
  rw [getD_eq hi]
  unfold goodServer at h4
  simp only [Bool.and_eq_true] at h4
  exact rng_le h4.2.1
section
variable (a : XArchive) (r : Bool) (id : Int) (hl : budArchive a ≤ 1048576)
include hl
theorem SavedAt_bad (h : ¬ askN a 0 id = 0) : CallX Tryz.prog 23 [encA a, B r, I id] [] (resI [] (askN a 0 id)) := by
  refine callX_of_vc htb hm Tryz.func23 rfl rfl rfl rfl (ann := fun _ => none) (gh := fun _ => false) ?_
  repeat' ((conv => whnf); first
    | (guard_target = Done _; refine Done.mk ?_)
    | (guard_target = RetX _ _; refine RetX.mk ?_ ?_)
    | (guard_target = Fact _ _; refine Fact.mk fun hL => ?_; (try simp only [List.length_map, maxLen] at hL))
    | (guard_target = Branch _ _ _; (first | refine Branch.dec (fun h => ?_) (fun h => ?_) | refine Branch.beq (fun h => ?_) (fun h => ?_) | refine Branch.bne (fun h => ?_) (fun h => ?_) | refine Branch.ndec (fun h => ?_) (fun h => ?_) | refine Branch.nb (fun h => ?_) (fun h => ?_) | refine Branch.mk (fun h => ?_) (fun h => ?_)) <;> (try simp only [List.length_map] at h) <;> (try omega) <;> (try contradiction))
    | (guard_target = CallN _ 70 _ _ _ _; refine CallN.pure _ _ rfl (askServer_ok a 0 id hl) rfl _ rfl ?_)
    | (guard_target = Arith _ _ _; refine Arith.fit (wrap_fit (by first | omega | (simp only [List.length_map]; omega)) (by first | omega | (simp only [List.length_map]; omega))) ?_)
    | (guard_target = Arith _ _ _; refine Arith.fit (by decide) ?_)
    | (guard_target = Index _ _ _; first  | refine Index.mk _ (idx_map (by omega)) ?_)
    | (guard_target = Need (chkDraw _ = true) _; refine Need.mk (by kernel_rfl) ?_)
    | (guard_target = Need (chkRecs _ _ = true) _; refine Need.mk (by first | kernel_rfl | rfl) ?_)
    | (guard_target = Need _ _; refine Need.mk (by first  | omega | (simp only [List.length_map]; omega)) ?_))
  all_goals first | rfl | trivial
theorem SavedAt_ok (h : askN a 0 id = 0) : CallX Tryz.prog 23 [encA a, B r, I id] [] (resI (selR a.servers.length (savedP a r id)) 0) := by
  have hg := (ask_ok h).1
  have hk := askServer_ok a 0 id hl
  rw [h] at hk
  have h5 := rng_le hg.2.1
  have hlen := selR_len
  refine callX_of_vc htb hm Tryz.func23 rfl rfl rfl rfl (ann := fun _ => none) (gh := fun _ => false) ?_
  repeat' ((conv => whnf); first
    | (guard_target = Done _; refine Done.mk ?_)
    | (guard_target = RetX _ _; refine RetX.mk ?_ ?_)
    | (guard_target =~ LoopE 6 _ _ _ _ _ _; refine LoopE.mk { α := Nat × List Int, keep := [1, 2, 20, 21], ov := fun ⟨i, R⟩ => [(9, .lw 2), (22, I i)], hv := fun ⟨i, R⟩ => [(2, .row none 2 1 (R.map eI))], φ := fun ⟨i, R⟩ => i ≤ a.servers.length ∧ R = selR i (savedP a r id), μ := fun ⟨i, R⟩ => a.servers.length - i } (LoopN.mk ((0, []) : Nat × List Int) (by exact ⟨Nat.zero_le _, rfl⟩) (by (repeat' first | exact trivial | exact rfl | refine ⟨?_, ?_⟩); done) (by (repeat' first | exact trivial | exact rfl | refine ⟨?_, ?_⟩); done) (by (repeat' first | exact trivial | exact rfl | refine ⟨?_, ?_⟩ | (simp only [List.map_append, List.map_cons, List.map_nil]; first | done | rfl)); done) (fun A ha => ?_) (by intro A; first | rfl | (obtain ⟨_, _⟩ := A; rfl) | (obtain ⟨_, _, _⟩ := A; rfl))); obtain ⟨i, R⟩ := A; have ha : i ≤ a.servers.length ∧ R = selR i (savedP a r id) := ha; have hb := hlen i (savedP a r id); rw [← ha.2] at hb)
    | (guard_target = Gh _ _ _ _ _; refine Gh.go ⟨((i + 1, R ++ [(i : Int)]) : Nat × List Int), (by exact ⟨by show i + 1 ≤ _; omega, by show R ++ [_] = _; rw [selR_yes (decide_eq_true h), ha.2]⟩), (by first | (show _ < _; simp only []; omega) | omega | (simp; omega)), (by (repeat' first | exact trivial | exact rfl | refine ⟨?_, ?_⟩); done), (by (repeat' first | exact trivial | exact rfl | refine ⟨?_, ?_⟩); done), (by (repeat' first | exact trivial | exact rfl | refine ⟨?_, ?_⟩ | (simp only [List.map_append, List.map_cons, List.map_nil]; first | done | rfl)); done)⟩)
    | (guard_target = Gh _ _ _ _ _; refine Gh.go ⟨((i + 1, R) : Nat × List Int), (by exact ⟨by show i + 1 ≤ _; omega, by show R = _; rw [selR_no (decide_eq_false h), ha.2]⟩), (by first | (show _ < _; simp only []; omega) | omega | (simp; omega)), (by (repeat' first | exact trivial | exact rfl | refine ⟨?_, ?_⟩); done), (by (repeat' first | exact trivial | exact rfl | refine ⟨?_, ?_⟩); done), (by (repeat' first | exact trivial | exact rfl | refine ⟨?_, ?_⟩ | (simp only [List.map_append, List.map_cons, List.map_nil]; first | done | rfl)); done)⟩)
    | (guard_target = Fact _ _; refine Fact.mk fun hL => ?_; (try simp only [List.length_map, maxLen] at hL))
    | (guard_target = Branch _ _ _; (first | refine Branch.dec (fun h => ?_) (fun h => ?_) | refine Branch.beq (fun h => ?_) (fun h => ?_) | refine Branch.bne (fun h => ?_) (fun h => ?_) | refine Branch.ndec (fun h => ?_) (fun h => ?_) | refine Branch.nb (fun h => ?_) (fun h => ?_) | refine Branch.mk (fun h => ?_) (fun h => ?_)) <;> (try simp only [List.length_map] at h) <;> (try omega) <;> (try contradiction))
    | (guard_target = CallN _ 70 _ _ _ _; refine CallN.pure _ _ rfl (hk) rfl _ rfl ?_)
    | (guard_target = CallN _ 71 _ _ _ _; refine CallN.pure _ _ rfl (find_cut (a.servers.getD i s00).notes 0 (a.servers.getD i s00).saved r id) rfl _ rfl ?_)
    | (guard_target = Arith _ _ _; refine Arith.fit (wrap_fit (by first | omega | (simp only [List.length_map]; omega)) (by first | omega | (simp only [List.length_map]; omega))) ?_)
    | (guard_target = Arith _ _ _; refine Arith.fit (by decide) ?_)
    | (guard_target = Index _ _ _; first | refine Index.mk _ (idx_getD (d := s00) (i := i) (by omega)) ?_ | refine Index.mk _ (idx_map (by omega)) ?_)
    | (guard_target = Need (chkDraw _ = true) _; refine Need.mk (by kernel_rfl) ?_)
    | (guard_target = Need (chkRecs _ _ = true) _; refine Need.mk (by first | kernel_rfl | rfl) ?_)
    | (guard_target = Need _ _; refine Need.mk (by first | ((have := savedB hg (i := i) (by omega); simp only [List.length_map]; omega)) | ((simp only [List.length_map, List.length_cons, List.length_nil, maxLen]; constructor <;> omega)) | omega | (simp only [List.length_map]; omega)) ?_))
  all_goals first | rfl | trivial | (have e : i = a.servers.length := (by omega); have h9 := ha.2; rw [e] at h9; rw [h9]; done)
theorem specSavedAt_bad (h : ¬ askN a 0 id = 0) : CallX Tryz.prog 22 [encA a, B r, I id] [] (resI [] (askN a 0 id)) := by
  refine callX_of_vc htb hm Tryz.func22 rfl rfl rfl rfl (ann := fun _ => none) (gh := fun _ => false) ?_
  repeat' ((conv => whnf); first
    | (guard_target = Done _; refine Done.mk ?_)
    | (guard_target = RetX _ _; refine RetX.mk ?_ ?_)
    | (guard_target = Fact _ _; refine Fact.mk fun hL => ?_; (try simp only [List.length_map, maxLen] at hL))
    | (guard_target = Branch _ _ _; (first | refine Branch.dec (fun h => ?_) (fun h => ?_) | refine Branch.beq (fun h => ?_) (fun h => ?_) | refine Branch.bne (fun h => ?_) (fun h => ?_) | refine Branch.ndec (fun h => ?_) (fun h => ?_) | refine Branch.nb (fun h => ?_) (fun h => ?_) | refine Branch.mk (fun h => ?_) (fun h => ?_)) <;> (try simp only [List.length_map] at h) <;> (try omega) <;> (try contradiction))
    | (guard_target = CallN _ 68 _ _ _ _; refine CallN.pure _ _ rfl (l08Asked_ok a 0 id hl) rfl _ rfl ?_)
    | (guard_target = Arith _ _ _; refine Arith.fit (wrap_fit (by first | omega | (simp only [List.length_map]; omega)) (by first | omega | (simp only [List.length_map]; omega))) ?_)
    | (guard_target = Arith _ _ _; refine Arith.fit (by decide) ?_)
    | (guard_target = Index _ _ _; first  | refine Index.mk _ (idx_map (by omega)) ?_)
    | (guard_target = Need (chkDraw _ = true) _; refine Need.mk (by kernel_rfl) ?_)
    | (guard_target = Need (chkRecs _ _ = true) _; refine Need.mk (by first | kernel_rfl | rfl) ?_)
    | (guard_target = Need _ _; refine Need.mk (by first  | omega | (simp only [List.length_map]; omega)) ?_))
  all_goals first | rfl | trivial
theorem specSavedAt_ok (h : askN a 0 id = 0) : CallX Tryz.prog 22 [encA a, B r, I id] [] (resI (selR a.servers.length (savedP a r id)) 0) := by
  have hg := (ask_ok h).1
  have hk := l08Asked_ok a 0 id hl
  rw [h] at hk
  have h5 := rng_le hg.2.1
  have hlen := selR_len
  refine callX_of_vc htb hm Tryz.func22 rfl rfl rfl rfl (ann := fun _ => none) (gh := fun _ => false) ?_
  repeat' ((conv => whnf); first
    | (guard_target = Done _; refine Done.mk ?_)
    | (guard_target = RetX _ _; refine RetX.mk ?_ ?_)
    | (guard_target =~ LoopE 6 _ _ _ _ _ _; refine LoopE.mk { α := Nat × List Int, keep := [1, 2, 3], ov := fun ⟨i, R⟩ => [(9, .lw 2), (10, I i)], hv := fun ⟨i, R⟩ => [(2, .row none 2 1 (R.map eI))], φ := fun ⟨i, R⟩ => i ≤ a.servers.length ∧ R = selR i (savedP a r id), μ := fun ⟨i, R⟩ => a.servers.length - i } (LoopN.mk ((0, []) : Nat × List Int) (by exact ⟨Nat.zero_le _, rfl⟩) (by (repeat' first | exact trivial | exact rfl | refine ⟨?_, ?_⟩); done) (by (repeat' first | exact trivial | exact rfl | refine ⟨?_, ?_⟩); done) (by (repeat' first | exact trivial | exact rfl | refine ⟨?_, ?_⟩ | (simp only [List.map_append, List.map_cons, List.map_nil]; first | done | rfl)); done) (fun A ha => ?_) (by intro A; first | rfl | (obtain ⟨_, _⟩ := A; rfl) | (obtain ⟨_, _, _⟩ := A; rfl))); obtain ⟨i, R⟩ := A; have ha : i ≤ a.servers.length ∧ R = selR i (savedP a r id) := ha; have hb := hlen i (savedP a r id); rw [← ha.2] at hb)
    | (guard_target = Gh _ _ _ _ _; refine Gh.go ⟨((i + 1, R ++ [(i : Int)]) : Nat × List Int), (by exact ⟨by show i + 1 ≤ _; omega, by show R ++ [_] = _; rw [selR_yes (decide_eq_true h), ha.2]⟩), (by first | (show _ < _; simp only []; omega) | omega | (simp; omega)), (by (repeat' first | exact trivial | exact rfl | refine ⟨?_, ?_⟩); done), (by (repeat' first | exact trivial | exact rfl | refine ⟨?_, ?_⟩); done), (by (repeat' first | exact trivial | exact rfl | refine ⟨?_, ?_⟩ | (simp only [List.map_append, List.map_cons, List.map_nil]; first | done | rfl)); done)⟩)
    | (guard_target = Gh _ _ _ _ _; refine Gh.go ⟨((i + 1, R) : Nat × List Int), (by exact ⟨by show i + 1 ≤ _; omega, by show R = _; rw [selR_no (decide_eq_false h), ha.2]⟩), (by first | (show _ < _; simp only []; omega) | omega | (simp; omega)), (by (repeat' first | exact trivial | exact rfl | refine ⟨?_, ?_⟩); done), (by (repeat' first | exact trivial | exact rfl | refine ⟨?_, ?_⟩); done), (by (repeat' first | exact trivial | exact rfl | refine ⟨?_, ?_⟩ | (simp only [List.map_append, List.map_cons, List.map_nil]; first | done | rfl)); done)⟩)
    | (guard_target = Fact _ _; refine Fact.mk fun hL => ?_; (try simp only [List.length_map, maxLen] at hL))
    | (guard_target = Branch _ _ _; (first | refine Branch.dec (fun h => ?_) (fun h => ?_) | refine Branch.beq (fun h => ?_) (fun h => ?_) | refine Branch.bne (fun h => ?_) (fun h => ?_) | refine Branch.ndec (fun h => ?_) (fun h => ?_) | refine Branch.nb (fun h => ?_) (fun h => ?_) | refine Branch.mk (fun h => ?_) (fun h => ?_)) <;> (try simp only [List.length_map] at h) <;> (try omega) <;> (try contradiction))
    | (guard_target = CallN _ 68 _ _ _ _; refine CallN.pure _ _ rfl (hk) rfl _ rfl ?_)
    | (guard_target = CallN _ 69 _ _ _ _; refine CallN.pure _ _ rfl (l08Spot_cut (a.servers.getD i s00).notes 0 (a.servers.getD i s00).saved r id) rfl _ rfl ?_)
    | (guard_target = Arith _ _ _; refine Arith.fit (wrap_fit (by first | omega | (simp only [List.length_map]; omega)) (by first | omega | (simp only [List.length_map]; omega))) ?_)
    | (guard_target = Arith _ _ _; refine Arith.fit (by decide) ?_)
    | (guard_target = Index _ _ _; first | refine Index.mk _ (idx_getD (d := s00) (i := i) (by omega)) ?_ | refine Index.mk _ (idx_map (by omega)) ?_)
    | (guard_target = Need (chkDraw _ = true) _; refine Need.mk (by kernel_rfl) ?_)
    | (guard_target = Need (chkRecs _ _ = true) _; refine Need.mk (by first | kernel_rfl | rfl) ?_)
    | (guard_target = Need _ _; refine Need.mk (by first | ((have := savedB hg (i := i) (by omega); simp only [List.length_map]; omega)) | ((simp only [List.length_map, List.length_cons, List.length_nil, maxLen]; constructor <;> omega)) | omega | (simp only [List.length_map]; omega)) ?_))
  all_goals first | rfl | trivial | (have e : i = a.servers.length := (by omega); have h9 := ha.2; rw [e] at h9; rw [h9]; done)
end
theorem eqI_told (l : List Int) : CallF Tryz.prog 24 [.c (.ro 1 (l.map eI)), .c (.ro 1 (l.map eI))] (B true) := by
  have := eqInt64S_ok l l
  rwa [eqv_self] at this
theorem pure_resI (l : List Int) (c : Int) : pureT (resI l c) := by
  simp [pureT, pureV, pureC, pureLL_ints]
theorem savedAt_big (a : XArchive) (r : Bool) (id : Int) (hl : ¬ budArchive a ≤ 1048576) : CallF Tryz.prog 5 [encA a, B r, I id] (B true) := by
  have hz := szArchive_ok a 1048576 (by omega)
  rw [szr_neg (by omega)] at hz
  refine callF_of_vc htb hm Tryz.func5 rfl rfl rfl rfl (ann := fun _ => none) (gh := fun _ => false) ?_
  repeat' ((conv => whnf); first
    | (guard_target = Done _; refine Done.mk ?_; first | (rfl; done) | skip)
    | (guard_target = RetX _ _; refine RetX.mk ?_ ?_)
    | (guard_target = Fact _ _; refine Fact.mk fun hL => ?_; (try simp only [List.length_map, maxLen] at hL))
    | (guard_target = Branch _ _ _; (first | refine Branch.dec (fun h => ?_) (fun h => ?_) | refine Branch.beq (fun h => ?_) (fun h => ?_) | refine Branch.bne (fun h => ?_) (fun h => ?_) | refine Branch.ndec (fun h => ?_) (fun h => ?_) | refine Branch.nb (fun h => ?_) (fun h => ?_) | refine Branch.mk (fun h => ?_) (fun h => ?_)) <;> (try simp only [List.length_map] at h) <;> (try omega) <;> (try contradiction))
    | (guard_target = CallN _ 12 _ _ _ _; refine CallN.pure _ _ rfl (hz) rfl _ rfl ?_)
    | (guard_target = Arith _ _ _; refine Arith.fit (wrap_fit (by first | omega | (simp only [List.length_map]; omega)) (by first | omega | (simp only [List.length_map]; omega))) ?_)
    | (guard_target = Arith _ _ _; refine Arith.fit (by decide) ?_)
    | (guard_target = Index _ _ _; first  | refine Index.mk _ (idx_map (by omega)) ?_)
    | (guard_target = Need (chkDraw _ = true) _; refine Need.mk (by kernel_rfl) ?_)
    | (guard_target = Need (chkRecs _ _ = true) _; refine Need.mk (by first | kernel_rfl | rfl) ?_)
    | (guard_target = Need _ _; refine Need.mk (by first  | omega | (simp only [List.length_map]; omega)) ?_))
theorem savedAt_same (a : XArchive) (r : Bool) (id : Int) (hl : budArchive a ≤ 1048576) (l : List Int) (c : Int) (hll : l.length ≤ 1000000) (hs0 : CallX Tryz.prog 22 [encA a, B r, I id] [] (resI l c)) (hi0 : CallX Tryz.prog 23 [encA a, B r, I id] [] (resI l c)) : CallF Tryz.prog 5 [encA a, B r, I id] (B true) := by
  have hz := szArchive_ok a 1048576 (by omega)
  rw [szr_eq hl] at hz
  have hs : CallX Tryz.prog 22 [.a 4 (roL (ownArchive a)), B r, I id] [] (resI l c) := by rw [roArchive]; exact hs0
  have hi : CallX Tryz.prog 23 [.a 4 (roL (ownArchive a)), B r, I id] [] (resI l c) := by rw [roArchive]; exact hi0
  have hk := mkArch_le a hl
  have hp := pure_resI l c
  refine callF_of_vc htb hm Tryz.func5 rfl rfl rfl rfl (ann := fun _ => none) (gh := fun _ => false) ?_
  repeat' ((conv => whnf); first
    | (guard_target = Done _; refine Done.mk ?_; first | (rfl; done) | skip)
    | (guard_target = RetX _ _; refine RetX.mk ?_ ?_)
    | (guard_target = Fact _ _; refine Fact.mk fun hL => ?_; (try simp only [List.length_map, maxLen] at hL))
    | (guard_target = Branch _ _ _; (first | refine Branch.dec (fun h => ?_) (fun h => ?_) | refine Branch.beq (fun h => ?_) (fun h => ?_) | refine Branch.bne (fun h => ?_) (fun h => ?_) | refine Branch.ndec (fun h => ?_) (fun h => ?_) | refine Branch.nb (fun h => ?_) (fun h => ?_) | refine Branch.mk (fun h => ?_) (fun h => ?_)) <;> (try simp only [List.length_map] at h) <;> (try omega) <;> (try contradiction))
    | (guard_target = CallN _ 12 _ _ _ _; refine CallN.pure _ _ rfl (hz) rfl _ rfl ?_)
    | (guard_target = CallN _ 14 _ _ _ _; refine CallN.gen [] _ _ _ rfl (toArchive_ok a hl) rfl rfl _ rfl ?_)
    | (guard_target = CallN _ 24 _ _ _ _; refine CallN.pure _ _ rfl (eqI_told l) rfl _ rfl ?_)
    | (guard_target = CallN _ 16 _ _ _ _; refine CallN.pure _ _ rfl (eqArch_own a) rfl _ rfl ?_)
    | (guard_target = CallN _ 25 _ _ _ _; refine CallN.gen [true, false] _ _ _ rfl (markArchive_ok a 1 (by omega) (by omega)) rfl rfl _ rfl ?_)
    | (guard_target = CallN _ 26 _ _ _ _; refine CallN.gen [true, false] _ _ _ rfl (markInt64S_told l 1 (by omega) (by omega)) rfl rfl _ rfl ?_)
    | (guard_target = CallN _ 27 _ _ _ _; refine CallN.pure _ _ rfl (heldInt64S_told l.length 1 (by omega) (by omega)) rfl _ rfl ?_)
    | (guard_target = CallN _ 22 _ _ _ _; refine CallN.own _ _ rfl hs hp _ rfl ?_)
    | (guard_target = CallN _ 23 _ _ _ _; refine CallN.own _ _ rfl hi hp _ rfl ?_)
    | (guard_target = Arith _ _ _; refine Arith.fit (wrap_fit (by first | omega | (simp only [List.length_map]; omega)) (by first | omega | (simp only [List.length_map]; omega))) ?_)
    | (guard_target = Arith _ _ _; refine Arith.fit (by decide) ?_)
    | (guard_target = Index _ _ _; first  | refine Index.mk _ (idx_map (by omega)) ?_)
    | (guard_target = Need (chkDraw _ = true) _; refine Need.mk (by kernel_rfl) ?_)
    | (guard_target = Need (chkRecs _ _ = true) _; refine Need.mk (by first | kernel_rfl | rfl) ?_)
    | (guard_target = Need _ _; refine Need.mk (by first  | omega | (simp only [List.length_map]; omega)) ?_))
theorem savedAt_law (a : XArchive) (r : Bool) (id : Int) : CallF Tryz.prog 5 [encA a, B r, I id] (B true) := by
  by_cases hl : budArchive a ≤ 1048576
  case neg => exact savedAt_big a r id hl
  by_cases h : askN a 0 id = 0
  · have h5 := rng_le (ask_ok h).1.2.1
    have hlen := selR_len a.servers.length (savedP a r id)
    exact savedAt_same a r id hl _ _ (by omega) (specSavedAt_ok a r id hl h) (SavedAt_ok a r id hl h)
  · exact savedAt_same a r id hl [] _ (by simp) (specSavedAt_bad a r id hl h) (SavedAt_bad a r id hl h)
end Go.Proofs.YtbbaadkgmdkjdaaGreat

namespace Go.Proofs.YtbbaadkgmdkjdaaGreat
open Go Go.KA Go.Proofs
set_option maxHeartbeats 16000000
set_option maxRecDepth 100000
/-! ### sorted numbers -/
def sortI (l : List Int) : List Int := l.mergeSort fun x y => decide (x ≤ y)
theorem sortI_perm (l : List Int) : (sortI l).Perm l := List.mergeSort_perm l _
theorem sortI_len (l : List Int) : (sortI l).length = l.length := (sortI_perm l).length_eq
theorem sortI_sorted (l : List Int) : (sortI l).Pairwise (· ≤ ·) := by
  have := List.pairwise_mergeSort (le := fun x y : Int => decide (x ≤ y)) (by intro a b c; simp; omega) (by intro a b; simp; omega) l
  exact this.imp fun h => of_decide_eq_true h
theorem sortI_eq {l m : List Int} (hm : m.Pairwise (· < ·)) (hl : l.Nodup) (h : ∀ x, x ∈ l ↔ x ∈ m) : sortI l = m := by
  have hmn : m.Nodup := hm.imp fun h => by omega
  have hp : (sortI l).Perm m := (sortI_perm l).trans ((List.perm_ext_iff_of_nodup hl hmn).2 h)
  exact List.Perm.eq_of_pairwise (le := fun x y : Int => x ≤ y) (fun a b _ _ h1 h2 => by omega) (sortI_sorted l) (hm.imp fun h => by omega) hp
theorem selR_lt (n : Nat) (p : Nat → Bool) : (selR n p).Pairwise (· < ·) := by
  unfold selR
  rw [List.pairwise_map]
  exact (List.pairwise_lt_range.filter p).imp fun h => by omega
theorem selR_mem {n : Nat} {p : Nat → Bool} {x : Int} : x ∈ selR n p ↔ ∃ i : Nat, i < n ∧ p i = true ∧ (i : Int) = x := by
  unfold selR
  simp only [List.mem_map, List.mem_filter, List.mem_range]
  constructor
  · rintro ⟨i, ⟨h1, h2⟩, h3⟩; exact ⟨i, h1, h2, h3⟩
  · rintro ⟨i, h1, h2, h3⟩; exact ⟨i, ⟨h1, h2⟩, h3⟩
theorem sort_sel {l : List Int} {p : Nat → Bool} (hl : l.Nodup) (hr : ∀ x ∈ l, 0 ≤ x ∧ x ≤ 99) (hp : ∀ i : Nat, i < 100 → (p i = true ↔ (i : Int) ∈ l)) : sortI l = selR 100 p := by
  refine sortI_eq (selR_lt _ _) hl fun x => ?_
  rw [selR_mem]
  constructor
  · intro hx
    have := hr x hx
    refine ⟨x.toNat, by omega, (hp _ (by omega)).2 ?_, by omega⟩
    rwa [show ((x.toNat : Nat) : Int) = x by omega]
  · rintro ⟨i, h1, h2, rfl⟩
    exact (hp i h1).1 h2
/-! ### notes -/
def idsN (l : List XNote) (r : Bool) : List Int := (l.filter (·.revoke == r)).map (·.id)
theorem mem_ids {l : List XNote} {r : Bool} {x : Int} : x ∈ idsN l r ↔ 0 ≤ spotN l r x := by
  unfold idsN spotN
  rw [idxP_ge]
  simp only [List.mem_map, List.mem_filter, noteIs, Bool.and_eq_true, beq_iff_eq]
  constructor
  · rintro ⟨y, ⟨h1, h2⟩, h3⟩; exact ⟨y, h1, h2, h3⟩
  · rintro ⟨y, h1, h2, h3⟩; exact ⟨y, ⟨h1, h2⟩, h3⟩
theorem ids_next {l : List XNote} {i : Nat} (h : i < l.length) (r : Bool) : idsN (l.take (i + 1)) r = idsN (l.take i) r ++ (if l[i].revoke = r then [l[i].id] else []) := by
  unfold idsN
  rw [List.take_add_one, List.getElem?_eq_getElem h, List.filter_append, List.map_append]
  by_cases hr : l[i].revoke = r <;> simp [hr]
theorem gn_get {t a : Int} {l : List XNote} (hg : goodNotes t a l = true) {i : Nat} (hi : i < l.length) : goodNote t a l[i] = true ∧ spotN (l.take i) l[i].revoke l[i].id < 0 ∧ knows (l.take i) l[i].entry.rests = true := by
  have := allR_get hg hi
  unfold noteAt at this
  rw [getD_eq hi] at this
  simpa only [Bool.and_eq_true, decide_eq_true_eq] using this
theorem gn_take {t a : Int} {l : List XNote} (hg : goodNotes t a l = true) (n : Nat) : goodNotes t a (l.take n) = true := by
  unfold goodNotes allR
  rw [List.all_eq_true]
  intro i hi
  have hi : i < (l.take n).length := by simpa using hi
  have h1 : i < l.length := by rw [List.length_take] at hi; omega
  have h2 : i < n := by rw [List.length_take] at hi; omega
  have h3 := gn_get hg h1
  unfold noteAt
  rw [getD_eq hi, List.getElem_take, List.take_take, Nat.min_eq_left (by omega)]
  simp [h3.1, h3.2.1, h3.2.2]
theorem ids_nodup {t a : Int} {l : List XNote} (hg : goodNotes t a l = true) (r : Bool) : (idsN l r).Nodup := by
  have key : ∀ i, i ≤ l.length → (idsN (l.take i) r).Nodup := by
    intro i
    induction i with
    | zero => intro _; simp [idsN]
    | succ i ih =>
      intro hi
      have h1 := gn_get hg (show i < l.length by omega)
      rw [ids_next (by omega)]
      by_cases hr : l[i].revoke = r
      · rw [if_pos hr]
        refine List.nodup_append.2 ⟨ih (by omega), by simp, fun x hx y hy => ?_⟩
        have hy := List.mem_singleton.1 hy
        subst hy
        rintro rfl
        have := mem_ids.1 hx
        rw [hr] at h1
        omega
      · rw [if_neg hr, List.append_nil]
        exact ih (by omega)
  have := key l.length (Nat.le_refl _)
  rwa [List.take_length] at this
theorem ids_range {t a : Int} {l : List XNote} (hg : goodNotes t a l = true) (r : Bool) : ∀ x ∈ idsN l r, 0 ≤ x ∧ x ≤ 99 := by
  intro x hx
  unfold idsN at hx
  obtain ⟨y, hy, rfl⟩ := List.mem_map.1 hx
  obtain ⟨i, hi, rfl⟩ := List.mem_iff_getElem.1 (List.mem_filter.1 hy).1
  have h1 := (gn_get hg hi).1
  unfold goodNote at h1
  simp only [Bool.and_eq_true] at h1
  exact rng_le h1.1
theorem ids_sel {t a : Int} {l : List XNote} (hg : goodNotes t a l = true) (r : Bool) : sortI (idsN l r) = selR 100 fun i => decide (0 ≤ spotN l r i) :=
  sort_sel (ids_nodup hg r) (ids_range hg r) fun i _ => by rw [decide_eq_true_iff, mem_ids]
theorem srv_notes {a : XArchive} (h : GA a) {i : Nat} (hi : i < a.servers.length) : goodNotes a.sig.tests a.sig.actions (a.servers.getD i s00).notes = true ∧ (a.servers.getD i s00).notes.length ≤ 20 := by
  have h4 := List.all_eq_true.1 h.2.2.2.1 _ (List.getElem_mem hi)
  rw [getD_eq hi]
  unfold goodServer at h4
  simp only [Bool.and_eq_true, decide_eq_true_eq] at h4
  exact ⟨h4.2.2.2, by omega⟩
end Go.Proofs.YtbbaadkgmdkjdaaGreat
