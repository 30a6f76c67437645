/- Contracts of the functions that compare entries and notes, and that gather all notes. No conditions. -/
import Derived.Test.YtbbaadkgmdkjdaaGreatYi
namespace Go.Proofs.YtbbaadkgmdkjdaaGreat
open Go Go.KA Go.Proofs
set_option maxHeartbeats 16000000
set_option maxRecDepth 100000
theorem eqEn (x y : XEntry) : eqv x y = ((x.id == y.id) && (eqv x.rests y.rests && eqv x.proof y.proof)) := by
  cases x; cases y
  refine Bool.eq_iff_iff.2 ?_
  simp
theorem sameEntry_ok (x y : XEntry) : CallF Tryz.prog 55 [.a 5 (encEntry x), .a 5 (encEntry y)] (B (eqv x y)) := by
  rw [eqEn]
  refine callF_of_vc htb hm Tryz.func55 rfl rfl rfl rfl (ann := fun _ => none) (gh := fun _ => false) ?_
  repeat' ((conv => whnf); first
    | (guard_target = Done _; refine Done.mk ?_; first | ((simp_all [eqv_ne, normS, normV]; done); done) | skip)
    | (guard_target = RetX _ _; refine RetX.mk ?_ ?_)
    | (guard_target = Fact _ _; refine Fact.mk fun hL => ?_; (try simp only [List.length_map, maxLen] at hL))
    | (guard_target = Branch _ _ _; (first | refine Branch.dec (fun h => ?_) (fun h => ?_) | refine Branch.beq (fun h => ?_) (fun h => ?_) | refine Branch.bne (fun h => ?_) (fun h => ?_) | refine Branch.ndec (fun h => ?_) (fun h => ?_) | refine Branch.nb (fun h => ?_) (fun h => ?_) | refine Branch.mk (fun h => ?_) (fun h => ?_)) <;> (try simp only [List.length_map] at h) <;> (try omega) <;> (try contradiction))
    | (guard_target = CallN _ 110 _ _ _ _; refine CallN.pure _ _ rfl (Equal_ok _ _) rfl _ rfl ?_)
    | (guard_target = CallN _ 111 _ _ _ _; refine CallN.pure _ _ rfl (SameProof_ok x.proof y.proof) rfl _ rfl ?_)
    | (guard_target = Arith _ _ _; refine Arith.fit (wrap_fit (by first | omega | (simp only [List.length_map]; omega)) (by first | omega | (simp only [List.length_map]; omega))) ?_)
    | (guard_target = Arith _ _ _; refine Arith.fit (by decide) ?_)
    | (guard_target = Index _ _ _; first  | refine Index.mk _ (idx_map (by omega)) ?_)
    | (guard_target = Need (chkDraw _ = true) _; refine Need.mk (by kernel_rfl) ?_)
    | (guard_target = Need (chkRecs _ _ = true) _; refine Need.mk (by first | kernel_rfl | rfl) ?_)
    | (guard_target = Need _ _; refine Need.mk (by first  | omega | (simp only [List.length_map]; omega)) ?_))
theorem l01Same_cut (x y : XExpr) (r s : List CV) (n : Nat) (hn : 3 ≤ n) : CallF Tryz.prog 157 [.c (.rp n (toldE x ++ r)), .c (.rp n (toldE y ++ s))] (B (eqv x y)) := by
  have := l01Same_ok x y
  rw [encExpr_eq, encExpr_eq] at this
  have h1 : CallF Tryz.prog 157 [.c (.rp 3 (toldE x)), .c (.rp n (toldE y ++ s))] (B (eqv x y)) := this.cut (.same (.cut (cs := toldE y ++ s) (k := 3) hn .nil))
  exact h1.cut (.cut (cs := toldE x ++ r) (k := 3) hn (.same .nil))
theorem specSameProof_ok (x y : XProof) : CallF Tryz.prog 161 [.a 3 (encProof x), .a 3 (encProof y)] (B (eqv x y)) := by
  rw [eqP]
  refine callF_of_vc htb hm Tryz.func161 rfl rfl rfl rfl (ann := fun _ => none) (gh := fun _ => false) ?_
  repeat' ((conv => whnf); first
    | (guard_target = Done _; refine Done.mk ?_; first | ((refine no_of ?_; rw [eqL_len (by omega), Bool.and_false]); done) | ((refine yes_of ?_; rw [eqL_end ha.2.1 (by omega) ha.2.2]; simp_all; done); done) | ((refine no_of ?_; simp_all; done); done) | ((have hi : i < x.claims.length := (by omega); have hj : i < y.claims.length := (by omega); refine no_of ?_; rw [eqL_no hi hj, Bool.and_false]; rw [eqC]; simp_all [getD_eq hi, getD_eq hj, eqv_ne]); done) | skip)
    | (guard_target = RetX _ _; refine RetX.mk ?_ ?_)
    | (guard_target =~ LoopE 4 _ _ _ _ _ _; refine LoopE.mk { α := Nat, keep := [2, 3], ov := fun i => [(5, I i)], φ := fun i => i ≤ x.claims.length ∧ x.claims.length = y.claims.length ∧ x.claims.take i = y.claims.take i, μ := fun i => x.claims.length - i } (LoopN.mk (0 : Nat) (by exact ⟨Nat.zero_le _, by omega, rfl⟩) (by (repeat' first | exact trivial | exact rfl | refine ⟨?_, ?_⟩); done) (by (repeat' first | exact trivial | exact rfl | refine ⟨?_, ?_⟩); done) (by (repeat' first | exact trivial | exact rfl | refine ⟨?_, ?_⟩ | (simp only [List.map_append, List.map_cons, List.map_nil]; first | done | rfl)); done) (fun (i : Nat) ha => ?_) (by intro A; first | rfl | (obtain ⟨_, _⟩ := A; rfl) | (obtain ⟨_, _, _⟩ := A; rfl))); have ha : i ≤ x.claims.length ∧ x.claims.length = y.claims.length ∧ x.claims.take i = y.claims.take i := ha)
    | (guard_target = Gh _ _ _ _ _; refine Gh.go ⟨(i + 1 : Nat), (by (have hi : i < x.claims.length := (by omega); have hj : i < y.claims.length := (by omega); refine ⟨hi, ha.2.1, eqL_go hi hj ha.2.2 ?_⟩; rw [eqC]; simp_all [getD_eq hi, getD_eq hj])), (by first | (show _ < _; simp only []; omega) | omega | (simp; omega)), (by (repeat' first | exact trivial | exact rfl | refine ⟨?_, ?_⟩); done), (by (repeat' first | exact trivial | exact rfl | refine ⟨?_, ?_⟩); done), (by (repeat' first | exact trivial | exact rfl | refine ⟨?_, ?_⟩ | (simp only [List.map_append, List.map_cons, List.map_nil]; first | done | rfl)); done)⟩)
    | (guard_target = Fact _ _; refine Fact.mk fun hL => ?_; (try simp only [List.length_map, maxLen] at hL))
    | (guard_target = Branch _ _ _; (first | refine Branch.dec (fun h => ?_) (fun h => ?_) | refine Branch.beq (fun h => ?_) (fun h => ?_) | refine Branch.bne (fun h => ?_) (fun h => ?_) | refine Branch.ndec (fun h => ?_) (fun h => ?_) | refine Branch.nb (fun h => ?_) (fun h => ?_) | refine Branch.mk (fun h => ?_) (fun h => ?_)) <;> (try simp only [List.length_map] at h) <;> (try omega) <;> (try contradiction))
    | (guard_target = CallN _ 188 _ _ _ _; refine CallN.pure _ _ rfl (l04SameSteps_ok _ _) rfl _ rfl ?_)
    | (guard_target = CallN _ 157 _ _ _ _; (first | refine CallN.pure _ _ rfl (l01Same_cut (x.claims.getD i c0).left (y.claims.getD i c0).left _ _ 9 (by omega)) rfl _ rfl ?_ | refine CallN.pure _ _ rfl (l01Same_cut (x.claims.getD i c0).right (y.claims.getD i c0).right _ _ 6 (by omega)) rfl _ rfl ?_))
    | (guard_target = Arith _ _ _; refine Arith.fit (wrap_fit (by first | omega | (simp only [List.length_map]; omega)) (by first | omega | (simp only [List.length_map]; omega))) ?_)
    | (guard_target = Arith _ _ _; refine Arith.fit (by decide) ?_)
    | (guard_target = Index _ _ _; first | refine Index.mk _ (idx_getD (d := c0) (i := i) (by omega)) ?_ | refine Index.mk _ (idx_map (by omega)) ?_)
    | (guard_target = Need (chkDraw _ = true) _; refine Need.mk (by kernel_rfl) ?_)
    | (guard_target = Need (chkRecs _ _ = true) _; refine Need.mk (by first | kernel_rfl | rfl) ?_)
    | (guard_target = Need _ _; refine Need.mk (by first  | omega | (simp only [List.length_map]; omega)) ?_))
theorem eqNo (x y : XNote) : eqv x y = ((x.revoke == y.revoke) && ((x.id == y.id) && eqv x.entry y.entry)) := by
  cases x; cases y
  refine Bool.eq_iff_iff.2 ?_
  simp
theorem l08Same_ok (x y : XNote) : CallF Tryz.prog 140 [.c (.rp 7 (encNote x)), .c (.rp 7 (encNote y))] (B (eqv x y)) := by
  rw [eqNo, eqEn]
  refine callF_of_vc htb hm Tryz.func140 rfl rfl rfl rfl (ann := fun _ => none) (gh := fun _ => false) ?_
  repeat' ((conv => whnf); first
    | (guard_target = Done _; refine Done.mk ?_; first | ((simp_all [eqv_ne, normS, normV]; done); done) | skip)
    | (guard_target = RetX _ _; refine RetX.mk ?_ ?_)
    | (guard_target = Fact _ _; refine Fact.mk fun hL => ?_; (try simp only [List.length_map, maxLen] at hL))
    | (guard_target = Branch _ _ _; (first | refine Branch.dec (fun h => ?_) (fun h => ?_) | refine Branch.beq (fun h => ?_) (fun h => ?_) | refine Branch.bne (fun h => ?_) (fun h => ?_) | refine Branch.ndec (fun h => ?_) (fun h => ?_) | refine Branch.nb (fun h => ?_) (fun h => ?_) | refine Branch.mk (fun h => ?_) (fun h => ?_)) <;> (try simp only [List.length_map] at h) <;> (try omega) <;> (try contradiction))
    | (guard_target = CallN _ 160 _ _ _ _; refine CallN.pure _ _ rfl (l00Same_ok _ _) rfl _ rfl ?_)
    | (guard_target = CallN _ 161 _ _ _ _; refine CallN.pure _ _ rfl (specSameProof_ok x.entry.proof y.entry.proof) rfl _ rfl ?_)
    | (guard_target = Arith _ _ _; refine Arith.fit (wrap_fit (by first | omega | (simp only [List.length_map]; omega)) (by first | omega | (simp only [List.length_map]; omega))) ?_)
    | (guard_target = Arith _ _ _; refine Arith.fit (by decide) ?_)
    | (guard_target = Index _ _ _; first  | refine Index.mk _ (idx_map (by omega)) ?_)
    | (guard_target = Need (chkDraw _ = true) _; refine Need.mk (by kernel_rfl) ?_)
    | (guard_target = Need (chkRecs _ _ = true) _; refine Need.mk (by first | kernel_rfl | rfl) ?_)
    | (guard_target = Need _ _; refine Need.mk (by first  | omega | (simp only [List.length_map]; omega)) ?_))
/-! ### all notes -/
def allN (a : XArchive) : List XNote := a.servers.flatMap XServer.notes ++ a.flying.map XPacket.note
theorem flat_next {α β : Type} {f : α → List β} {l : List α} {i : Nat} (h : i < l.length) : (l.take (i + 1)).flatMap f = (l.take i).flatMap f ++ f l[i] := by
  rw [List.take_add_one, List.getElem?_eq_getElem h, List.flatMap_append]
  simp
theorem take_map_next {α β : Type} {f : α → β} {l : List α} {i : Nat} (h : i < l.length) : (l.take (i + 1)).map f = (l.take i).map f ++ [f l[i]] := by
  rw [List.take_add_one, List.getElem?_eq_getElem h, List.map_append]
  rfl
theorem flat_len {α : Type} {f : α → List XNote} {g : α → Nat} (hg : ∀ x, (f x).length ≤ g x) : ∀ (l : List α), (l.flatMap f).length ≤ bsum g l
  | [] => Nat.le_refl _
  | x :: xs => by
    have h1 := flat_len hg xs
    have h2 := hg x
    simp only [List.flatMap_cons, List.length_append, bsum]
    omega
theorem allNotes_ok (a : XArchive) (hl : budArchive a ≤ 1048576) : CallX Tryz.prog 54 [.a 4 (encArchive a)] [] (.c (.ows 92 7 ((allN a).map encNote))) := by
  have hb : ∀ i, ((a.servers.take i).flatMap XServer.notes).length ≤ 1048576 := fun i => by
    have h1 := flat_len (f := XServer.notes) (g := budServer) (fun s => budS_len budNote s.notes) (a.servers.take i)
    have h2 := bsum_le (f := budServer) a.servers i
    simp only [budArchive, budS] at hl
    omega
  have hf : a.flying.length ≤ 1048576 := by simp only [budArchive, budS] at hl; omega
  have hn : ∀ i, i < a.servers.length → (a.servers.getD i ⟨false, [], 0⟩).notes.length ≤ 1048576 := fun i h => by
    rw [getD_eq h]
    have h1 := budS_mem budServer (List.getElem_mem h)
    have h2 := budS_len budNote (a.servers[i]).notes
    simp only [budArchive, budServer] at hl h1
    omega
  refine callX_of_vc htb hm Tryz.func54 rfl rfl rfl rfl (ann := fun _ => none) (gh := fun _ => false) ?_
  repeat' ((conv => whnf); first
    | (guard_target = Done _; refine Done.mk ?_)
    | (guard_target = RetX _ _; refine RetX.mk ?_ ?_)
    | (guard_target =~ LoopE 3 _ _ _ _ _ _; refine LoopE.mk { α := Nat × List XNote, keep := [1, 10, 11], ov := fun ⟨i, R⟩ => [(3, .lw 2), (12, I i)], hv := fun ⟨i, R⟩ => [(2, .row none 92 7 (R.map encNote))], φ := fun ⟨i, R⟩ => i ≤ a.servers.length ∧ R = (a.servers.take i).flatMap XServer.notes, μ := fun ⟨i, R⟩ => a.servers.length - i } (LoopN.mk ((0, []) : Nat × List XNote) (by exact ⟨Nat.zero_le _, rfl⟩) (by (repeat' first | exact trivial | exact rfl | refine ⟨?_, ?_⟩); done) (by (repeat' first | exact trivial | exact rfl | refine ⟨?_, ?_⟩); done) (by (repeat' first | exact trivial | exact rfl | refine ⟨?_, ?_⟩ | (simp only [List.map_append, List.map_cons, List.map_nil]; first | done | rfl)); done) (fun A ha => ?_) (by intro A; first | rfl | (obtain ⟨_, _⟩ := A; rfl) | (obtain ⟨_, _, _⟩ := A; rfl))); obtain ⟨i, R⟩ := A; have ha : i ≤ a.servers.length ∧ R = (a.servers.take i).flatMap XServer.notes := ha)
    | (guard_target =~ LoopE 8 _ _ _ _ _ _; refine LoopE.mk { α := Nat × List XNote, keep := [22, 23], ov := fun ⟨k, S⟩ => [(3, .lw 2), (24, I k)], hv := fun ⟨k, S⟩ => [(2, .row none 92 7 (S.map encNote))], φ := fun ⟨k, S⟩ => k ≤ a.flying.length ∧ S = R ++ (a.flying.take k).map XPacket.note, μ := fun ⟨k, S⟩ => a.flying.length - k } (LoopN.mk ((0, R) : Nat × List XNote) (by exact ⟨Nat.zero_le _, by simp⟩) (by (repeat' first | exact trivial | exact rfl | refine ⟨?_, ?_⟩); done) (by (repeat' first | exact trivial | exact rfl | refine ⟨?_, ?_⟩); done) (by (repeat' first | exact trivial | exact rfl | refine ⟨?_, ?_⟩ | (simp only [List.map_append, List.map_cons, List.map_nil]; first | done | rfl)); done) (fun A ha => ?_) (by intro A; first | rfl | (obtain ⟨_, _⟩ := A; rfl) | (obtain ⟨_, _, _⟩ := A; rfl))); obtain ⟨k, S⟩ := A; have ha : k ≤ a.flying.length ∧ S = R ++ (a.flying.take k).map XPacket.note := ha)
    | (guard_target = Gh _ _ _ _ _; refine Gh.go ⟨((i + 1, R ++ (a.servers.getD i ⟨false, [], 0⟩).notes) : Nat × List XNote), (by (have hi : i < a.servers.length := (by omega); refine ⟨hi, ?_⟩; show R ++ _ = _; rw [flat_next hi, ha.2, getD_eq hi])), (by first | (show _ < _; simp only []; omega) | omega | (simp; omega)), (by (repeat' first | exact trivial | exact rfl | refine ⟨?_, ?_⟩); done), (by (repeat' first | exact trivial | exact rfl | refine ⟨?_, ?_⟩); done), (by (repeat' first | exact trivial | exact rfl | refine ⟨?_, ?_⟩ | (simp only [List.map_append, List.map_cons, List.map_nil]; first | done | rfl)); done)⟩)
    | (guard_target = Gh _ _ _ _ _; refine Gh.go ⟨((k + 1, S ++ [a.flying[k].note]) : Nat × List XNote), (by (have hk : k < a.flying.length := (by omega); refine ⟨hk, ?_⟩; show S ++ _ = _; rw [take_map_next hk, ha.2, List.append_assoc])), (by first | (show _ < _; simp only []; omega) | omega | (simp; omega)), (by (repeat' first | exact trivial | exact rfl | refine ⟨?_, ?_⟩); done), (by (repeat' first | exact trivial | exact rfl | refine ⟨?_, ?_⟩); done), (by (repeat' first | exact trivial | exact rfl | refine ⟨?_, ?_⟩ | (simp only [List.map_append, List.map_cons, List.map_nil]; first | done | rfl)); done)⟩)
    | (guard_target = Fact _ _; refine Fact.mk fun hL => ?_; (try simp only [List.length_map, maxLen] at hL))
    | (guard_target = Branch _ _ _; (first | refine Branch.dec (fun h => ?_) (fun h => ?_) | refine Branch.beq (fun h => ?_) (fun h => ?_) | refine Branch.bne (fun h => ?_) (fun h => ?_) | refine Branch.ndec (fun h => ?_) (fun h => ?_) | refine Branch.nb (fun h => ?_) (fun h => ?_) | refine Branch.mk (fun h => ?_) (fun h => ?_)) <;> (try simp only [List.length_map] at h) <;> (try omega) <;> (try contradiction))
    | (guard_target = Arith _ _ _; refine Arith.fit (wrap_fit (by first | omega | (simp only [List.length_map]; omega)) (by first | omega | (simp only [List.length_map]; omega))) ?_)
    | (guard_target = Arith _ _ _; refine Arith.fit (by decide) ?_)
    | (guard_target = Index _ _ _; first | refine Index.mk _ (idx_getD (d := ⟨false, [], 0⟩) (i := i) (by omega)) ?_ | refine Index.mk _ (idx_map (i := k) (by omega)) ?_ | refine Index.mk _ (idx_map (by omega)) ?_)
    | (guard_target = Need (chkDraw _ = true) _; refine Need.mk (by kernel_rfl) ?_)
    | (guard_target = Need (chkRecs _ _ = true) _; refine Need.mk (by first | kernel_rfl | rfl) ?_)
    | (guard_target = Need _ _; refine Need.mk (by first | ((have h2 := ha.2; have h1 := hb i; simp only [List.length_map, maxLen]; first | (have h3 := hn i (by omega); rw [← h2] at h1; constructor <;> omega) | (have h8 := (‹_ ∧ R = _› : i ≤ _ ∧ R = _).2; rw [← h8] at h1; have h4 := congrArg List.length h2; simp only [List.length_append, List.length_map, List.length_take] at h4; simp only [List.length_cons, List.length_nil]; constructor <;> omega))) | omega | (simp only [List.length_map]; omega)) ?_))
  all_goals (try trivial)
  all_goals (have h8 := (‹_ ∧ R = _› : i ≤ _ ∧ R = _).2; have h9 := ha.2; rw [List.take_of_length_le (show a.servers.length ≤ i by omega)] at h8; rw [List.take_of_length_le (show a.flying.length ≤ k by omega)] at h9; rw [h9, h8]; rfl)
end Go.Proofs.YtbbaadkgmdkjdaaGreat
