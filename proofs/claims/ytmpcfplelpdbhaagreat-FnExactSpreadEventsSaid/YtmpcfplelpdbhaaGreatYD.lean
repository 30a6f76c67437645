/- Contracts of the functions that compare entries and notes, and that gather all notes. No conditions. -/
import Derived.Test.YtmpcfplelpdbhaaGreatYC
namespace Go.Proofs.YtmpcfplelpdbhaaGreat
open Go Go.KA Go.Proofs
set_option maxHeartbeats 16000000
set_option maxRecDepth 100000
theorem eqEn (x y : XEntry) : eqv x y = ((x.id == y.id) && (eqv x.rests y.rests && eqv x.proof y.proof)) := by
  cases x; cases y
  refine Bool.eq_iff_iff.2 ?_
  simp
theorem sameEntry_ok (x y : XEntry) : CallF Tryz.prog 134 [.a 5 (encEntry x), .a 5 (encEntry y)] (B (eqv x y)) := by
  rw [eqEn]
  refine callF_of_vc htb hm Tryz.func134 rfl rfl rfl rfl (ann := fun _ => none) (gh := fun _ => false) ?_
  repeat' ((conv => whnf); first | (guard_target = Done _; refine Done.mk ?_; first | ((simp_all [eqv_ne, normS, normV]; done); done) | skip) | (guard_target = RetX _ _; refine RetX.mk ?_ ?_) | (guard_target = Fact _ _; refine Fact.mk fun hL => ?_; (try simp only [List.length_map, maxLen] at hL)) | (guard_target = Branch _ _ _; (first | refine Branch.dec ?_ ?_ | refine Branch.beq ?_ ?_ | refine Branch.bne ?_ ?_ | refine Branch.ndec ?_ ?_ | refine Branch.nb ?_ ?_ | refine Branch.mk ?_ ?_) <;> intro h <;> (try simp only [List.length_map] at h) <;> (try omega) <;> (try contradiction)) | (guard_target = CallN _ 189 _ _ _ _; refine CallN.pure _ _ rfl (Equal_ok _ _) rfl _ rfl ?_) | (guard_target = CallN _ 190 _ _ _ _; refine CallN.pure _ _ rfl (SameProof_ok x.proof y.proof) rfl _ rfl ?_) | (guard_target = Arith _ _ _; refine Arith.fit (wrap_fit (by first | omega | (simp only [List.length_map]; omega)) (by first | omega | (simp only [List.length_map]; omega))) ?_) | (guard_target = Arith _ _ _; refine Arith.fit (by decide) ?_) | (guard_target = Index _ _ _; first  | refine Index.mk _ (idx_map (by omega)) ?_) | (guard_target = Need (_ = true) _; refine Need.mk (by first | kernel_rfl | rfl) ?_) | (guard_target = LinkV _ _ _; first  | refine LinkV.no ?_) | (guard_target = GhO _ _ _ _; refine GhO.go ?_) | (guard_target = Need _ _; refine Need.mk (by first  | omega | (simp only [List.length_map]; omega)) ?_))
theorem l01Same_cut (x y : XExpr) (r s : List CV) (n : Nat) (hn : 3 ≤ n) : CallF Tryz.prog 254 [.c (.rp n (toldE x ++ r)), .c (.rp n (toldE y ++ s))] (B (eqv x y)) := by
  have := l01Same_ok x y
  rw [encExpr_eq, encExpr_eq] at this
  have h1 : CallF Tryz.prog 254 [.c (.rp 3 (toldE x)), .c (.rp n (toldE y ++ s))] (B (eqv x y)) := this.cut (.same (.cut (cs := toldE y ++ s) (k := 3) hn .nil))
  exact h1.cut (.cut (cs := toldE x ++ r) (k := 3) hn (.same .nil))
theorem specSameProof_ok (x y : XProof) : CallF Tryz.prog 227 [.a 3 (encProof x), .a 3 (encProof y)] (B (eqv x y)) := by
  rw [eqP]
  refine callF_of_vc htb hm Tryz.func227 rfl rfl rfl rfl (ann := fun _ => none) (gh := fun _ => false) ?_
  repeat' ((conv => whnf); first | (guard_target = Done _; refine Done.mk ?_; first | ((refine no_of ?_; rw [eqL_len (by omega), Bool.and_false]); done) | ((refine yes_of ?_; rw [eqL_end ha.2.1 (by omega) ha.2.2]; simp_all; done); done) | ((refine no_of ?_; simp_all; done); done) | ((have hi : i < x.claims.length := (by omega); have hj : i < y.claims.length := (by omega); refine no_of ?_; rw [eqL_no hi hj, Bool.and_false]; rw [eqC]; simp_all [eqv_ne]); done) | skip) | (guard_target = RetX _ _; refine RetX.mk ?_ ?_) | (guard_target =~ LoopE 4 _ _ _ _ _ _; refine LoopE.mk { α := Nat, keep := [2, 3], ov := fun i => [(5, I i)], φ := fun i => i ≤ x.claims.length ∧ x.claims.length = y.claims.length ∧ x.claims.take i = y.claims.take i, μ := fun i => x.claims.length - i } (LoopN.mk (0 : Nat) (by exact ⟨Nat.zero_le _, by omega, rfl⟩) (by (repeat' first | exact trivial | exact rfl | refine ⟨?_, ?_⟩); done) (by (repeat' first | exact trivial | exact rfl | refine ⟨?_, ?_⟩); done) (by (repeat' first | exact trivial | exact rfl | refine ⟨?_, ?_⟩ | (simp only [List.map_append, List.map_cons, List.map_nil, List.map_set]; first | done | rfl)); done) (fun (i : Nat) ha => ?_) (by intro A; first | rfl | (obtain ⟨_, _⟩ := A; rfl) | (obtain ⟨_, _, _⟩ := A; rfl))); have ha : i ≤ x.claims.length ∧ x.claims.length = y.claims.length ∧ x.claims.take i = y.claims.take i := ha) | (guard_target = Gh _ _ _ _ _; refine Gh.go ⟨(i + 1 : Nat), (by (have hi : i < x.claims.length := (by omega); have hj : i < y.claims.length := (by omega); refine ⟨hi, ha.2.1, eqL_go hi hj ha.2.2 ?_⟩; rw [eqC]; simp_all [])), (by first | (show _ < _; simp only []; omega) | omega | (simp; omega)), (by (repeat' first | exact trivial | exact rfl | refine ⟨?_, ?_⟩); done), (by (repeat' first | exact trivial | exact rfl | refine ⟨?_, ?_⟩); done), (by (repeat' first | exact trivial | exact rfl | refine ⟨?_, ?_⟩ | (simp only [List.map_append, List.map_cons, List.map_nil, List.map_set]; first | done | rfl)); done)⟩) | (guard_target = Fact _ _; refine Fact.mk fun hL => ?_; (try simp only [List.length_map, maxLen] at hL)) | (guard_target = Branch _ _ _; (first | refine Branch.dec ?_ ?_ | refine Branch.beq ?_ ?_ | refine Branch.bne ?_ ?_ | refine Branch.ndec ?_ ?_ | refine Branch.nb ?_ ?_ | refine Branch.mk ?_ ?_) <;> intro h <;> (try simp only [List.length_map] at h) <;> (try omega) <;> (try contradiction)) | (guard_target = CallN _ 255 _ _ _ _; refine CallN.pure _ _ rfl (l04SameSteps_ok _ _) rfl _ rfl ?_) | (guard_target = CallN _ 254 _ _ _ _; (first | refine CallN.pure _ _ rfl (l01Same_cut (x.claims.getD i c0).left (y.claims.getD i c0).left _ _ 9 (by omega)) rfl _ rfl ?_ | refine CallN.pure _ _ rfl (l01Same_cut (x.claims.getD i c0).right (y.claims.getD i c0).right _ _ 6 (by omega)) rfl _ rfl ?_)) | (guard_target = Arith _ _ _; refine Arith.fit (wrap_fit (by first | omega | (simp only [List.length_map]; omega)) (by first | omega | (simp only [List.length_map]; omega))) ?_) | (guard_target = Arith _ _ _; refine Arith.fit (by decide) ?_) | (guard_target = Index _ _ _; first | refine Index.mk _ (idx_getD (d := c0) (i := i) (by omega)) ?_ | refine Index.mk _ (idx_map (by omega)) ?_) | (guard_target = Need (_ = true) _; refine Need.mk (by first | kernel_rfl | rfl) ?_) | (guard_target = LinkV _ _ _; first  | refine LinkV.no ?_) | (guard_target = GhO _ _ _ _; refine GhO.go ?_) | (guard_target = Need _ _; refine Need.mk (by first  | omega | (simp only [List.length_map]; omega)) ?_))
theorem eqNo (x y : XNote) : eqv x y = ((x.revoke == y.revoke) && ((x.id == y.id) && eqv x.entry y.entry)) := by
  cases x; cases y
  refine Bool.eq_iff_iff.2 ?_
  simp
theorem l08Same_ok (x y : XNote) : CallF Tryz.prog 176 [.c (.rp 7 (encNote x)), .c (.rp 7 (encNote y))] (B (eqv x y)) := by
  rw [eqNo, eqEn]
  refine callF_of_vc htb hm Tryz.func176 rfl rfl rfl rfl (ann := fun _ => none) (gh := fun _ => false) ?_
  repeat' ((conv => whnf); first | (guard_target = Done _; refine Done.mk ?_; first | ((simp_all [eqv_ne, normS, normV]; done); done) | skip) | (guard_target = RetX _ _; refine RetX.mk ?_ ?_) | (guard_target = Fact _ _; refine Fact.mk fun hL => ?_; (try simp only [List.length_map, maxLen] at hL)) | (guard_target = Branch _ _ _; (first | refine Branch.dec ?_ ?_ | refine Branch.beq ?_ ?_ | refine Branch.bne ?_ ?_ | refine Branch.ndec ?_ ?_ | refine Branch.nb ?_ ?_ | refine Branch.mk ?_ ?_) <;> intro h <;> (try simp only [List.length_map] at h) <;> (try omega) <;> (try contradiction)) | (guard_target = CallN _ 226 _ _ _ _; refine CallN.pure _ _ rfl (l00Same_ok _ _) rfl _ rfl ?_) | (guard_target = CallN _ 227 _ _ _ _; refine CallN.pure _ _ rfl (specSameProof_ok x.entry.proof y.entry.proof) rfl _ rfl ?_) | (guard_target = Arith _ _ _; refine Arith.fit (wrap_fit (by first | omega | (simp only [List.length_map]; omega)) (by first | omega | (simp only [List.length_map]; omega))) ?_) | (guard_target = Arith _ _ _; refine Arith.fit (by decide) ?_) | (guard_target = Index _ _ _; first  | refine Index.mk _ (idx_map (by omega)) ?_) | (guard_target = Need (_ = true) _; refine Need.mk (by first | kernel_rfl | rfl) ?_) | (guard_target = LinkV _ _ _; first  | refine LinkV.no ?_) | (guard_target = GhO _ _ _ _; refine GhO.go ?_) | (guard_target = Need _ _; refine Need.mk (by first  | omega | (simp only [List.length_map]; omega)) ?_))
/-! ### all notes -/
def allN (a : XArchive) : List XNote := a.servers.flatMap XServer.notes ++ a.flying.map XPacket.note
theorem flat_next {α β : Type} {f : α → List β} {l : List α} {i : Nat} (h : i < l.length) : (l.take (i + 1)).flatMap f = (l.take i).flatMap f ++ f l[i] := by
  rw [List.take_add_one, List.getElem?_eq_getElem h, List.flatMap_append]
  simp
theorem take_map_next {α β : Type} {f : α → β} {l : List α} {i : Nat} (h : i < l.length) : (l.take (i + 1)).map f = (l.take i).map f ++ [f l[i]] := by
  rw [List.take_add_one, List.getElem?_eq_getElem h, List.map_append]
  rfl
theorem flat_len {α : Type} {f : α → List XNote} {g : α → Nat} (hg : ∀ x, (f x).length ≤ g x) : ∀ (l : List α), (l.flatMap f).length ≤ bsum g l
  | [] => Nat.le_refl _
  | x :: xs => by
    have h1 := flat_len hg xs
    have h2 := hg x
    simp only [List.flatMap_cons, List.length_append, bsum]
    omega
theorem allNotes_ok (a : XArchive) (hl : budArchive a ≤ 1048576) : CallX Tryz.prog 133 [.a 4 (encArchive a)] [] (.c (.ows 136 7 ((allN a).map encNote))) := by
  have hb : ∀ i, ((a.servers.take i).flatMap XServer.notes).length ≤ 1048576 := fun i => by
    have h1 := flat_len (f := XServer.notes) (g := budServer) (fun s => budS_len budNote s.notes) (a.servers.take i)
    have h2 := bsum_le (f := budServer) a.servers i
    simp only [budArchive, budS] at hl
    omega
  have hf : a.flying.length ≤ 1048576 := by simp only [budArchive, budS] at hl; omega
  have hn : ∀ i, i < a.servers.length → (a.servers.getD i ⟨false, [], 0⟩).notes.length ≤ 1048576 := fun i h => by
    rw [getD_eq h]
    have h1 := budS_mem budServer (List.getElem_mem h)
    have h2 := budS_len budNote (a.servers[i]).notes
    simp only [budArchive, budServer] at hl h1
    omega
  refine callX_of_vc htb hm Tryz.func133 rfl rfl rfl rfl (ann := fun _ => none) (gh := fun _ => false) ?_
  repeat' ((conv => whnf); first | (guard_target = Done _; refine Done.mk ?_) | (guard_target = RetX _ _; refine RetX.mk ?_ ?_) | (guard_target =~ LoopE 3 _ _ _ _ _ _; refine LoopE.mk { α := Nat × List XNote, keep := [1, 10, 11], ov := fun ⟨i, R⟩ => [(3, .lw 2), (12, I i)], hv := fun ⟨i, R⟩ => [(2, .row none 136 7 (R.map encNote))], φ := fun ⟨i, R⟩ => i ≤ a.servers.length ∧ R = (a.servers.take i).flatMap XServer.notes, μ := fun ⟨i, R⟩ => a.servers.length - i } (LoopN.mk ((0, []) : Nat × List XNote) (by exact ⟨Nat.zero_le _, rfl⟩) (by (repeat' first | exact trivial | exact rfl | refine ⟨?_, ?_⟩); done) (by (repeat' first | exact trivial | exact rfl | refine ⟨?_, ?_⟩); done) (by (repeat' first | exact trivial | exact rfl | refine ⟨?_, ?_⟩ | (simp only [List.map_append, List.map_cons, List.map_nil, List.map_set]; first | done | rfl)); done) (fun A ha => ?_) (by intro A; first | rfl | (obtain ⟨_, _⟩ := A; rfl) | (obtain ⟨_, _, _⟩ := A; rfl))); obtain ⟨i, R⟩ := A; have ha : i ≤ a.servers.length ∧ R = (a.servers.take i).flatMap XServer.notes := ha) | (guard_target =~ LoopE 8 _ _ _ _ _ _; refine LoopE.mk { α := Nat × List XNote, keep := [22, 23], ov := fun ⟨k, S⟩ => [(3, .lw 2), (24, I k)], hv := fun ⟨k, S⟩ => [(2, .row none 136 7 (S.map encNote))], φ := fun ⟨k, S⟩ => k ≤ a.flying.length ∧ S = R ++ (a.flying.take k).map XPacket.note, μ := fun ⟨k, S⟩ => a.flying.length - k } (LoopN.mk ((0, R) : Nat × List XNote) (by exact ⟨Nat.zero_le _, by simp⟩) (by (repeat' first | exact trivial | exact rfl | refine ⟨?_, ?_⟩); done) (by (repeat' first | exact trivial | exact rfl | refine ⟨?_, ?_⟩); done) (by (repeat' first | exact trivial | exact rfl | refine ⟨?_, ?_⟩ | (simp only [List.map_append, List.map_cons, List.map_nil, List.map_set]; first | done | rfl)); done) (fun A ha => ?_) (by intro A; first | rfl | (obtain ⟨_, _⟩ := A; rfl) | (obtain ⟨_, _, _⟩ := A; rfl))); obtain ⟨k, S⟩ := A; have ha : k ≤ a.flying.length ∧ S = R ++ (a.flying.take k).map XPacket.note := ha) | (guard_target = Gh _ _ _ _ _; refine Gh.go ⟨((i + 1, R ++ (a.servers.getD i ⟨false, [], 0⟩).notes) : Nat × List XNote), (by (have hi : i < a.servers.length := (by omega); refine ⟨hi, ?_⟩; show R ++ _ = _; rw [flat_next hi, ha.2, getD_eq hi])), (by first | (show _ < _; simp only []; omega) | omega | (simp; omega)), (by (repeat' first | exact trivial | exact rfl | refine ⟨?_, ?_⟩); done), (by (repeat' first | exact trivial | exact rfl | refine ⟨?_, ?_⟩); done), (by (repeat' first | exact trivial | exact rfl | refine ⟨?_, ?_⟩ | (simp only [List.map_append]; first | done | rfl)); done)⟩) | (guard_target = Gh _ _ _ _ _; refine Gh.go ⟨((k + 1, S ++ [a.flying[k].note]) : Nat × List XNote), (by (have hk : k < a.flying.length := (by omega); refine ⟨hk, ?_⟩; show S ++ _ = _; rw [take_map_next hk, ha.2, List.append_assoc])), (by first | (show _ < _; simp only []; omega) | omega | (simp; omega)), (by (repeat' first | exact trivial | exact rfl | refine ⟨?_, ?_⟩); done), (by (repeat' first | exact trivial | exact rfl | refine ⟨?_, ?_⟩); done), (by (repeat' first | exact trivial | exact rfl | refine ⟨?_, ?_⟩ | (simp only [List.map_append, List.map_cons, List.map_nil]; first | done | rfl)); done)⟩) | (guard_target = Fact _ _; refine Fact.mk fun hL => ?_; (try simp only [List.length_map, maxLen] at hL)) | (guard_target = Branch _ _ _; (first | refine Branch.dec ?_ ?_ | refine Branch.beq ?_ ?_ | refine Branch.bne ?_ ?_ | refine Branch.ndec ?_ ?_ | refine Branch.nb ?_ ?_ | refine Branch.mk ?_ ?_) <;> intro h <;> (try simp only [List.length_map] at h) <;> (try omega) <;> (try contradiction)) | (guard_target = Arith _ _ _; refine Arith.fit (wrap_fit (by first | omega | (simp only [List.length_map]; omega)) (by first | omega | (simp only [List.length_map]; omega))) ?_) | (guard_target = Arith _ _ _; refine Arith.fit (by decide) ?_) | (guard_target = Index _ _ _; first | refine Index.mk _ (idx_getD (d := ⟨false, [], 0⟩) (i := i) (by omega)) ?_ | refine Index.mk _ (idx_map (i := k) (by omega)) ?_ | refine Index.mk _ (idx_map (by omega)) ?_) | (guard_target = Need (_ = true) _; refine Need.mk (by first | kernel_rfl | rfl) ?_) | (guard_target = LinkV _ _ _; first  | refine LinkV.no ?_) | (guard_target = GhO _ _ _ _; refine GhO.go ?_) | (guard_target = Need _ _; refine Need.mk (by first | ((have h2 := ha.2; have h1 := hb i; simp only [List.length_map, maxLen]; first | (have h3 := hn i (by omega); rw [← h2] at h1; constructor <;> omega) | (have h8 := (‹_ ∧ R = _› : i ≤ _ ∧ R = _).2; rw [← h8] at h1; have h4 := congrArg List.length h2; simp only [List.length_append, List.length_map, List.length_take] at h4; simp only [List.length_cons, List.length_nil]; constructor <;> omega))) | omega | (simp only [List.length_map]; omega)) ?_))
  all_goals (try trivial)
  all_goals (have h8 := (‹_ ∧ R = _› : i ≤ _ ∧ R = _).2; have h9 := ha.2; rw [List.take_of_length_le (show a.servers.length ≤ i by omega)] at h8; rw [List.take_of_length_le (show a.flying.length ≤ k by omega)] at h9; rw [h9, h8]; rfl)
end Go.Proofs.YtmpcfplelpdbhaaGreat

namespace Go.Proofs.YtmpcfplelpdbhaaGreat
open Go Go.KA Go.Proofs
set_option maxHeartbeats 16000000
set_option maxRecDepth 100000
noncomputable def cdec (P : Prop) : Bool := @decide P (Classical.propDecidable _)
theorem cdec_yes {P : Prop} (h : P) : cdec P = true := @decide_eq_true P (Classical.propDecidable _) h
theorem cdec_no {P : Prop} (h : ¬ P) : cdec P = false := @decide_eq_false P (Classical.propDecidable _) h
theorem cdec_of {P : Prop} (h : cdec P = true) : P := @of_decide_eq_true P (Classical.propDecidable _) h
def Alike (x y : XNote) : Prop := x.id = y.id → x.revoke = false → y.revoke = false → x.entry = y.entry
theorem Alike.symm {x y : XNote} (h : Alike x y) : Alike y x := fun h1 h2 h3 => (h h1.symm h3 h2).symm
theorem Alike.refl (x : XNote) : Alike x x := fun _ _ _ => rfl
def Agree (l : List XNote) : Prop := ∀ x ∈ l, ∀ y ∈ l, Alike x y
theorem Agree.nil : Agree [] := by simp [Agree]
theorem Agree.next {l : List XNote} {i : Nat} (h : i < l.length) (h1 : Agree (l.take i)) (h2 : ∀ y ∈ l.take i, Alike l[i] y) : Agree (l.take (i + 1)) := by
  rw [List.take_add_one, List.getElem?_eq_getElem h]
  intro x hx y hy
  simp only [Option.toList_some, List.mem_append, List.mem_singleton] at hx hy
  rcases hx with hx | rfl <;> rcases hy with hy | rfl
  · exact h1 x hx y hy
  · exact (h2 x hx).symm
  · exact h2 y hy
  · exact .refl _
theorem l08Agree_ok (l : List XNote) : CallF Tryz.prog 125 [.c (.ro 7 (l.map encNote))] (B (cdec (Agree l))) := by
  have hno : ∀ i k (hi : i < l.length) (hk : k < l.length), l[i].id = l[k].id → l[i].revoke = false → l[k].revoke = false → ¬ l[i] = l[k] → ¬ Agree l := by
    intro i k hi hk h1 h2 h3 h4 hA
    have := hA _ (List.getElem_mem hi) _ (List.getElem_mem hk) h1 h2 h3
    refine h4 ?_
    generalize l[i] = x at *
    generalize l[k] = y at *
    cases x; cases y
    simp_all
  refine callF_of_vc htb hm Tryz.func125 rfl rfl rfl rfl (ann := fun _ => none) (gh := fun _ => false) ?_
  repeat' ((conv => whnf); first | (guard_target = Done _; refine Done.mk ?_; first | (exact no_of (cdec_no (hno i k (by omega) (by omega) (by assumption) (by assumption) (by assumption) h)); done) | (exact yes_of (cdec_yes (by have := (‹i ≤ l.length ∧ Agree _›).2; rwa [List.take_of_length_le (by omega)] at this)); done) | skip) | (guard_target = RetX _ _; refine RetX.mk ?_ ?_) | (guard_target =~ LoopE 2 _ _ _ _ _ _; refine LoopE.mk { α := Nat, keep := [0], ov := fun i => [(3, I i)], φ := fun i => i ≤ l.length ∧ Agree (l.take i), μ := fun i => l.length - i } (LoopN.mk (0 : Nat) (by exact ⟨Nat.zero_le _, Agree.nil⟩) (by (repeat' first | exact trivial | exact rfl | refine ⟨?_, ?_⟩); done) (by (repeat' first | exact trivial | exact rfl | refine ⟨?_, ?_⟩); done) (by (repeat' first | exact trivial | exact rfl | refine ⟨?_, ?_⟩ | (simp only [List.map_append, List.map_cons, List.map_nil, List.map_set]; first | done | rfl)); done) (fun (i : Nat) ha => ?_) (by intro A; first | rfl | (obtain ⟨_, _⟩ := A; rfl) | (obtain ⟨_, _, _⟩ := A; rfl))); have ha : i ≤ l.length ∧ Agree (l.take i) := ha) | (guard_target =~ LoopE 5 _ _ _ _ _ _; refine LoopE.mk { α := Nat, keep := [0, 3], ov := fun k => [(4, I k)], φ := fun k => k ≤ i ∧ ∀ j (hj : j < l.length) (hi : i < l.length), j < k → Alike l[i] l[j], μ := fun k => i - k } (LoopN.mk (0 : Nat) (by exact ⟨Nat.zero_le _, fun j _ _ hj => by omega⟩) (by (repeat' first | exact trivial | exact rfl | refine ⟨?_, ?_⟩); done) (by (repeat' first | exact trivial | exact rfl | refine ⟨?_, ?_⟩); done) (by (repeat' first | exact trivial | exact rfl | refine ⟨?_, ?_⟩ | (simp only [List.map_append, List.map_cons, List.map_nil, List.map_set]; first | done | rfl)); done) (fun (k : Nat) ha => ?_) (by intro A; first | rfl | (obtain ⟨_, _⟩ := A; rfl) | (obtain ⟨_, _, _⟩ := A; rfl))); have ha : k ≤ i ∧ ∀ j (hj : j < l.length) (hi : i < l.length), j < k → Alike l[i] l[j] := ha) | (guard_target = Gh _ _ _ _ _; refine Gh.go ⟨(k + 1 : Nat), (by (refine ⟨by show k + 1 ≤ _; omega, fun j hj hi hjk => ?_⟩; rcases Nat.lt_succ_iff_lt_or_eq.1 hjk with hjk | rfl; exact ha.2 j hj hi hjk; intro a1 a2 a3; simp_all)), (by first | (show _ < _; simp only []; omega) | omega | (simp; omega)), (by (repeat' first | exact trivial | exact rfl | refine ⟨?_, ?_⟩); done), (by (repeat' first | exact trivial | exact rfl | refine ⟨?_, ?_⟩); done), (by (repeat' first | exact trivial | exact rfl | refine ⟨?_, ?_⟩ | (simp only [List.map_append, List.map_cons, List.map_nil, List.map_set]; first | done | rfl)); done)⟩) | (guard_target = Gh _ _ _ _ _; refine Gh.go ⟨(i + 1 : Nat), (by (have hi : i < l.length := (by omega); refine ⟨hi, Agree.next hi (‹i ≤ l.length ∧ Agree _›).2 fun y hy => ?_⟩; obtain ⟨j, hj, e⟩ := List.mem_iff_getElem.1 hy; rw [List.length_take] at hj; rw [List.getElem_take] at e; rw [← e]; exact ha.2 j (by omega) hi (by omega))), (by first | (show _ < _; simp only []; omega) | omega | (simp; omega)), (by (repeat' first | exact trivial | exact rfl | refine ⟨?_, ?_⟩); done), (by (repeat' first | exact trivial | exact rfl | refine ⟨?_, ?_⟩); done), (by (repeat' first | exact trivial | exact rfl | refine ⟨?_, ?_⟩ | (simp only [List.map_append, List.map_cons, List.map_nil, List.map_set]; first | done | rfl)); done)⟩) | (guard_target = Fact _ _; refine Fact.mk fun hL => ?_; (try simp only [List.length_map, maxLen] at hL)) | (guard_target = Branch _ _ _; (first | refine Branch.dec ?_ ?_ | refine Branch.beq ?_ ?_ | refine Branch.bne ?_ ?_ | refine Branch.ndec ?_ ?_ | refine Branch.nb ?_ ?_ | refine Branch.mk ?_ ?_) <;> intro h <;> (try simp only [List.length_map] at h) <;> (try omega) <;> (try contradiction)) | (guard_target = CallN _ 176 _ _ _ _; refine CallN.pure _ _ rfl (l08Same_ok _ _) rfl _ rfl ?_) | (guard_target = Arith _ _ _; refine Arith.fit (wrap_fit (by first | omega | (simp only [List.length_map]; omega)) (by first | omega | (simp only [List.length_map]; omega))) ?_) | (guard_target = Arith _ _ _; refine Arith.fit (by decide) ?_) | (guard_target = Index _ _ _; first | refine Index.mk _ (idx_map (i := i) (by omega)) ?_ | refine Index.mk _ (idx_map (i := k) (by omega)) ?_ | refine Index.mk _ (idx_map (by omega)) ?_) | (guard_target = Need (_ = true) _; refine Need.mk (by first | kernel_rfl | rfl) ?_) | (guard_target = LinkV _ _ _; first  | refine LinkV.no ?_) | (guard_target = GhO _ _ _ _; refine GhO.go ?_) | (guard_target = Need _ _; refine Need.mk (by first  | omega | (simp only [List.length_map]; omega)) ?_))
/-! ### archives -/
abbrev s00 : XServer := ⟨false, [], 0⟩
def goodPkt (t a : Int) (n : Int) (p : XPacket) : Bool := rng 0 (n - 1) p.to0 && goodNote t a p.note
noncomputable def goodArch (a : XArchive) : Bool :=
  goodSig a.sig.tests a.sig.actions && (rng 1 5 a.servers.length && (decide ((a.flying.length : Int) ≤ 12) && (a.servers.all (goodServer a.sig.tests a.sig.actions) && (a.flying.all (goodPkt a.sig.tests a.sig.actions a.servers.length) && cdec (Agree (allN a))))))
abbrev mE (q : Int × XEntry) : Value × SV := (.int .i64 q.1, .a 5 (encEntry q.2))
theorem kget (l : List (Int × XEntry)) (id : Int) : (∃ (j : Nat) (e : XEntry), l[j]? = some (id, e)) ∨ ∀ q ∈ l, q.1 ≠ id := by
  by_cases h : ∃ q ∈ l, q.1 = id
  · obtain ⟨q, hq, rfl⟩ := h
    obtain ⟨j, hj, e⟩ := List.mem_iff_getElem.1 hq
    exact .inl ⟨j, q.2, by rw [List.getElem?_eq_getElem hj, e]⟩
  · exact .inr fun q hq e => h ⟨q, hq, e⟩
theorem kmiss {l : List (Int × XEntry)} {id : Int} (h : ∀ q ∈ l, q.1 ≠ id) : ∀ p ∈ l.map mE, p.1 ≠ .int .i64 id := by
  intro p hp e
  obtain ⟨q, hq, rfl⟩ := List.mem_map.1 hp
  simp at e
  exact h q hq e
theorem khit {l : List (Int × XEntry)} {id : Int} {j : Nat} {e : XEntry} (h : l[j]? = some (id, e)) : (l.map mE)[j]? = some (.int .i64 id, .a 5 (encEntry e)) := by
  rw [List.getElem?_map, h]
  rfl
theorem _root_.Go.KA.MapPut.same {es : List (Value × SV)} {k : Value} {v : SV} {K : List (Value × SV) → Prop} (j : Nat) (h : es[j]? = some (k, v)) (g : K es) : MapPut es k v K := by
  refine MapPut.old j v h ?_
  obtain ⟨hj, e⟩ := List.getElem?_eq_some_iff.1 h
  have : es.set j (k, v) = es := by
    rw [← e]
    exact List.set_getElem_self hj
  rw [this]
  exact g
theorem _root_.Go.KA.MapPut.more {α : Type} {f : α → Value × SV} {l : List α} {k : Value} {v : SV} {K : List (Value × SV) → Prop} (q : α) (hq : f q = (k, v)) (h : ∀ p ∈ l.map f, p.1 ≠ k) (g : K ((l ++ [q]).map f)) : MapPut (l.map f) k v K := by
  refine MapPut.new h ?_
  rw [← hq]
  simpa using g
structure Kept (l : List XNote) (i : Nat) (K : List (Int × XEntry)) : Prop where
  lt : i ≤ l.length
  mem : ∀ q ∈ K, ∃ x ∈ l.take i, x.revoke = false ∧ x.id = q.1 ∧ x.entry = q.2
  all : ∀ x ∈ l.take i, x.revoke = false → (x.id, x.entry) ∈ K
  agree : Agree (l.take i)
theorem Kept.zero (l : List XNote) : Kept l 0 [] := ⟨Nat.zero_le _, by simp, by simp, by simpa using Agree.nil⟩
theorem take_mem {α : Type} {l : List α} {i : Nat} (h : i < l.length) {x : α} (hx : x ∈ l.take (i + 1)) : x ∈ l.take i ∨ x = l[i] := by
  rw [List.take_add_one, List.getElem?_eq_getElem h] at hx
  rcases List.mem_append.1 hx with hx | hx
  · exact .inl hx
  · exact .inr (List.mem_singleton.1 hx)
theorem take_mono {α : Type} {l : List α} {i : Nat} (h : i < l.length) {x : α} (hx : x ∈ l.take i ∨ x = l[i]) : x ∈ l.take (i + 1) := by
  rw [List.take_add_one, List.getElem?_eq_getElem h]
  exact List.mem_append.2 (hx.imp id fun e => List.mem_singleton.2 e)
theorem Kept.skip {l : List XNote} {i : Nat} {K : List (Int × XEntry)} (hK : Kept l i K) (h : i < l.length) (hr : l[i].revoke = true) : Kept l (i + 1) K := by
  refine ⟨h, fun q hq => ?_, fun x hx hx0 => ?_, Agree.next h hK.agree fun y hy => ?_⟩
  · obtain ⟨x, h1, h2⟩ := hK.mem q hq
    exact ⟨x, take_mono h (.inl h1), h2⟩
  · rcases take_mem h hx with hx | rfl
    · exact hK.all x hx hx0
    · rw [hr] at hx0; cases hx0
  · intro _ h2; rw [hr] at h2; cases h2
theorem Kept.old {l : List XNote} {i j : Nat} {K : List (Int × XEntry)} (hK : Kept l i K) (h : i < l.length) (_hr : l[i].revoke = false) (hj : K[j]? = some (l[i].id, l[i].entry)) : Kept l (i + 1) K := by
  refine ⟨h, fun q hq => ?_, fun x hx hx0 => ?_, Agree.next h hK.agree fun y hy h1 h2 h3 => ?_⟩
  · obtain ⟨x, h1, h2⟩ := hK.mem q hq
    exact ⟨x, take_mono h (.inl h1), h2⟩
  · rcases take_mem h hx with hx | rfl
    · exact hK.all x hx hx0
    · exact List.mem_of_getElem? hj
  · obtain ⟨x, g1, g2, g3, g4⟩ := hK.mem _ (List.mem_of_getElem? hj)
    dsimp only at g3 g4
    rw [← g4]
    exact hK.agree x g1 y hy (g3.trans h1) g2 h3
theorem Kept.new {l : List XNote} {i : Nat} {K : List (Int × XEntry)} (hK : Kept l i K) (h : i < l.length) (hr : l[i].revoke = false) (hm : ∀ q ∈ K, q.1 ≠ l[i].id) : Kept l (i + 1) (K ++ [(l[i].id, l[i].entry)]) := by
  refine ⟨h, fun q hq => ?_, fun x hx hx0 => ?_, Agree.next h hK.agree fun y hy h1 h2 h3 => ?_⟩
  · rcases List.mem_append.1 hq with hq | hq
    · obtain ⟨x, h1, h2⟩ := hK.mem q hq
      exact ⟨x, take_mono h (.inl h1), h2⟩
    · have hq := List.mem_singleton.1 hq
      subst hq
      exact ⟨l[i], take_mono h (.inr rfl), hr, rfl, rfl⟩
  · rcases take_mem h hx with hx | rfl
    · exact List.mem_append.2 (.inl (hK.all x hx hx0))
    · simp
  · exact absurd h1.symm (hm _ (hK.all y hy h3))
theorem Kept.bad {l : List XNote} {i j : Nat} {K : List (Int × XEntry)} {e : XEntry} (hK : Kept l i K) (h : i < l.length) (hr : l[i].revoke = false) (hj : K[j]? = some (l[i].id, e)) (hne : ¬ e = l[i].entry) : ¬ Agree l := by
  intro hA
  obtain ⟨x, g1, g2, g3, g4⟩ := hK.mem _ (List.mem_of_getElem? hj)
  dsimp only at g3 g4
  exact hne (by rw [← g4]; exact hA x (List.mem_of_mem_take g1) _ (List.getElem_mem h) g3 g2 hr)
theorem Kept.done {l : List XNote} {i : Nat} {K : List (Int × XEntry)} (hK : Kept l i K) (h : ¬ i < l.length) : Agree l := by
  have := hK.agree
  rwa [List.take_of_length_le (by omega)] at this
theorem Kept.skip' {l : List XNote} {i : Nat} {K : List (Int × XEntry)} (hK : Kept l i K) (h : i < l.length) (hr : (l.getD i n0).revoke = true) : Kept l (i + 1) K := hK.skip h (by rwa [getD_eq h] at hr)
theorem Kept.old' {l : List XNote} {i j : Nat} {K : List (Int × XEntry)} (hK : Kept l i K) (h : i < l.length) (hr : (l.getD i n0).revoke = false) (hj : K[j]? = some ((l.getD i n0).id, (l.getD i n0).entry)) : Kept l (i + 1) K := by
  rw [getD_eq h] at hr hj
  exact hK.old h hr hj
theorem Kept.new' {l : List XNote} {i : Nat} {K : List (Int × XEntry)} (hK : Kept l i K) (h : i < l.length) (hr : (l.getD i n0).revoke = false) (hm : ∀ q ∈ K, q.1 ≠ (l.getD i n0).id) : Kept l (i + 1) (K ++ [((l.getD i n0).id, (l.getD i n0).entry)]) := by
  rw [getD_eq h] at hr hm ⊢
  exact hK.new h hr hm
theorem Kept.bad' {l : List XNote} {i j : Nat} {K : List (Int × XEntry)} {e : XEntry} (hK : Kept l i K) (h : i < l.length) (hr : (l.getD i n0).revoke = false) (hj : K[j]? = some ((l.getD i n0).id, e)) (hne : ¬ e = (l.getD i n0).entry) : ¬ Agree l := by
  rw [getD_eq h] at hr hj hne
  exact hK.bad h hr hj hne
abbrev GA (a : XArchive) : Prop := goodSig a.sig.tests a.sig.actions = true ∧ rng 1 5 a.servers.length = true ∧ (a.flying.length : Int) ≤ 12 ∧ a.servers.all (goodServer a.sig.tests a.sig.actions) = true ∧ a.flying.all (goodPkt a.sig.tests a.sig.actions a.servers.length) = true ∧ Agree (allN a)
theorem arch_iff (a : XArchive) : goodArch a = true ↔ GA a := by
  unfold goodArch
  simp only [Bool.and_eq_true, decide_eq_true_eq]
  constructor
  · rintro ⟨h1, h2, h3, h4, h5, h6⟩; exact ⟨h1, h2, h3, h4, h5, cdec_of h6⟩
  · rintro ⟨h1, h2, h3, h4, h5, h6⟩; exact ⟨h1, h2, h3, h4, h5, cdec_yes h6⟩
theorem arch_no {a : XArchive} (h : ¬ GA a) : goodArch a = false := by
  cases hb : goodArch a with
  | false => rfl
  | true => exact absurd ((arch_iff a).1 hb) h
abbrev p00 : XPacket := ⟨0, n0⟩
theorem pkt_no {t a n : Int} {l : List XPacket} {k : Nat} (hk : k < l.length) (h : rng 0 (n - 1) (l.getD k p00).to0 = false ∨ goodNote t a (l.getD k p00).note = false) : goodPkt t a n l[k] = false := by
  rw [getD_eq hk] at h
  unfold goodPkt
  rcases h with h | h <;> rw [h]
  · rfl
  · rw [Bool.and_false]
theorem pkt_yes {t a n : Int} {l : List XPacket} {k : Nat} (hk : k < l.length) (h1 : rng 0 (n - 1) (l.getD k p00).to0 = true) (h2 : goodNote t a (l.getD k p00).note = true) : goodPkt t a n l[k] = true := by
  rw [getD_eq hk] at h1 h2
  unfold goodPkt
  rw [h1, h2]
  rfl
theorem ValidArchive_ok (a : XArchive) (hl : budArchive a ≤ 1048576) : CallF Tryz.prog 66 [.a 4 (encArchive a)] (B (goodArch a)) := by
  have hsb : ∀ i (h : i < a.servers.length), budServer a.servers[i] ≤ 1048576 := fun i h => by
    have := budS_mem budServer (List.getElem_mem h)
    simp only [budArchive] at hl
    omega
  have hpb : ∀ i (h : i < a.flying.length), budNote (a.flying.getD i p00).note ≤ 1048576 := fun i h => by
    rw [getD_eq h]
    have := budS_mem budPacket (List.getElem_mem h)
    simp only [budArchive, budPacket] at hl this
    omega
  have hal := allNotes_ok a hl
  generalize hal' : allN a = L at hal
  refine callF_of_vc htb hm Tryz.func66 rfl rfl rfl rfl (ann := fun _ => none) (gh := fun _ => false) ?_
  repeat' ((conv => whnf); first | (guard_target = Done _; refine Done.mk ?_; first | ((refine no_of (arch_no ?_); rintro ⟨g1, g2, g3, g4, g5, g6⟩; first | omega | (rw [g1] at h; cases h; done) | (rw [g2] at h; cases h; done) | (rw [all_stop (i := i) (by omega) h] at g4; cases g4; done) | (rw [all_stop (i := k) (by omega) (pkt_no (by omega) (.inl h))] at g5; cases g5; done) | (rw [all_stop (i := k) (by omega) (pkt_no (by omega) (.inr h))] at g5; cases g5; done) | (rw [hal'] at g6; exact Kept.bad' ha (by omega) (by assumption) hj h g6)); done) | ((refine yes_of ((arch_iff a).2 ⟨by assumption, by assumption, by omega, all_end (by omega) (by assumption), all_end (by omega) (by assumption), by rw [hal']; exact Kept.done ha (by omega)⟩)); done) | skip) | (guard_target = RetX _ _; refine RetX.mk ?_ ?_) | (guard_target =~ LoopE 5 _ _ _ _ _ _; refine LoopE.mk { α := Nat, keep := [1, 3, 32, 33], ov := fun i => [(34, I i)], φ := fun i => i ≤ a.servers.length ∧ (a.servers.take i).all (goodServer a.sig.tests a.sig.actions) = true, μ := fun i => a.servers.length - i } (LoopN.mk (0 : Nat) (by exact ⟨Nat.zero_le _, rfl⟩) (by (repeat' first | exact trivial | exact rfl | refine ⟨?_, ?_⟩); done) (by (repeat' first | exact trivial | exact rfl | refine ⟨?_, ?_⟩); done) (by (repeat' first | exact trivial | exact rfl | refine ⟨?_, ?_⟩ | (simp only [List.map_append, List.map_cons, List.map_nil, List.map_set]; first | done | rfl)); done) (fun (i : Nat) ha => ?_) (by intro A; first | rfl | (obtain ⟨_, _⟩ := A; rfl) | (obtain ⟨_, _, _⟩ := A; rfl))); have ha : i ≤ a.servers.length ∧ (a.servers.take i).all (goodServer a.sig.tests a.sig.actions) = true := ha) | (guard_target =~ LoopE 11 _ _ _ _ _ _; refine LoopE.mk { α := Nat, keep := [1, 3, 45, 46], ov := fun k => [(47, I k)], φ := fun k => k ≤ a.flying.length ∧ (a.flying.take k).all (goodPkt a.sig.tests a.sig.actions a.servers.length) = true, μ := fun k => a.flying.length - k } (LoopN.mk (0 : Nat) (by exact ⟨Nat.zero_le _, rfl⟩) (by (repeat' first | exact trivial | exact rfl | refine ⟨?_, ?_⟩); done) (by (repeat' first | exact trivial | exact rfl | refine ⟨?_, ?_⟩); done) (by (repeat' first | exact trivial | exact rfl | refine ⟨?_, ?_⟩ | (simp only [List.map_append, List.map_cons, List.map_nil, List.map_set]; first | done | rfl)); done) (fun (k : Nat) ha => ?_) (by intro A; first | rfl | (obtain ⟨_, _⟩ := A; rfl) | (obtain ⟨_, _, _⟩ := A; rfl))); have ha : k ≤ a.flying.length ∧ (a.flying.take k).all (goodPkt a.sig.tests a.sig.actions a.servers.length) = true := ha) | (guard_target =~ LoopE 18 _ _ _ _ _ _; refine LoopE.mk { α := Nat × List (Int × XEntry), keep := [8, 68, 69], ov := fun ⟨m, K⟩ => [(70, I m)], hv := fun ⟨m, K⟩ => [(1, .mmap (some .i64) (K.map mE))], φ := fun ⟨m, K⟩ => Kept L m K, μ := fun ⟨m, K⟩ => L.length - m } (LoopN.mk ((0, []) : Nat × List (Int × XEntry)) (by exact Kept.zero _) (by (repeat' first | exact trivial | exact rfl | refine ⟨?_, ?_⟩); done) (by (repeat' first | exact trivial | exact rfl | refine ⟨?_, ?_⟩); done) (by (repeat' first | exact trivial | exact rfl | refine ⟨?_, ?_⟩ | (simp only [List.map_append, List.map_cons, List.map_nil, List.map_set]; first | done | rfl)); done) (fun A ha => ?_) (by intro A; first | rfl | (obtain ⟨_, _⟩ := A; rfl) | (obtain ⟨_, _, _⟩ := A; rfl))); obtain ⟨m, K⟩ := A; have ha : Kept L m K := ha) | (guard_target = Gh _ _ _ _ _; refine Gh.go ⟨(i + 1 : Nat), (by exact all_go (by omega) ha h), (by first | (show _ < _; simp only []; omega) | omega | (simp; omega)), (by (repeat' first | exact trivial | exact rfl | refine ⟨?_, ?_⟩); done), (by (repeat' first | exact trivial | exact rfl | refine ⟨?_, ?_⟩); done), (by (repeat' first | exact trivial | exact rfl | refine ⟨?_, ?_⟩ | (simp only [List.map_append, List.map_cons, List.map_nil, List.map_set]; first | done | rfl)); done)⟩) | (guard_target = Gh _ _ _ _ _; refine Gh.go ⟨(k + 1 : Nat), (by exact all_go (by omega) ha (pkt_yes (by omega) (by assumption) h)), (by first | (show _ < _; simp only []; omega) | omega | (simp; omega)), (by (repeat' first | exact trivial | exact rfl | refine ⟨?_, ?_⟩); done), (by (repeat' first | exact trivial | exact rfl | refine ⟨?_, ?_⟩); done), (by (repeat' first | exact trivial | exact rfl | refine ⟨?_, ?_⟩ | (simp only [List.map_append, List.map_cons, List.map_nil, List.map_set]; first | done | rfl)); done)⟩) | (guard_target = Gh _ _ _ _ _; refine Gh.go ⟨((m + 1, K) : Nat × List (Int × XEntry)), (by exact Kept.skip' ha (by omega) (by assumption)), (by first | (show _ < _; simp only []; omega) | omega | (simp; omega)), (by (repeat' first | exact trivial | exact rfl | refine ⟨?_, ?_⟩); done), (by (repeat' first | exact trivial | exact rfl | refine ⟨?_, ?_⟩); done), (by (repeat' first | exact trivial | exact rfl | refine ⟨?_, ?_⟩ | (simp only [List.map_append, List.map_cons, List.map_nil, List.map_set]; first | done | rfl)); done)⟩) | (guard_target = Gh _ _ _ _ _; refine Gh.go ⟨((m + 1, K) : Nat × List (Int × XEntry)), (by exact Kept.old' ha (by omega) (by assumption) hj), (by first | (show _ < _; simp only []; omega) | omega | (simp; omega)), (by (repeat' first | exact trivial | exact rfl | refine ⟨?_, ?_⟩); done), (by (repeat' first | exact trivial | exact rfl | refine ⟨?_, ?_⟩); done), (by (repeat' first | exact trivial | exact rfl | refine ⟨?_, ?_⟩ | (simp only [List.map_append, List.map_cons, List.map_nil, List.map_set]; first | done | rfl)); done)⟩) | (guard_target = Gh _ _ _ _ _; refine Gh.go ⟨((m + 1, K ++ [((L.getD m n0).id, (L.getD m n0).entry)]) : Nat × List (Int × XEntry)), (by exact Kept.new' ha (by omega) (by assumption) hmiss), (by first | (show _ < _; simp only []; omega) | omega | (simp; omega)), (by (repeat' first | exact trivial | exact rfl | refine ⟨?_, ?_⟩); done), (by (repeat' first | exact trivial | exact rfl | refine ⟨?_, ?_⟩); done), (by (repeat' first | exact trivial | exact rfl | refine ⟨?_, ?_⟩ | (simp only [List.map_append, List.map_cons, List.map_nil, List.map_set]; first | done | rfl)); done)⟩) | (guard_target = Fact _ _; refine Fact.mk fun hL => ?_; (try simp only [List.length_map, maxLen] at hL)) | (guard_target = Branch _ _ _; (first | refine Branch.dec ?_ ?_ | refine Branch.beq ?_ ?_ | refine Branch.bne ?_ ?_ | refine Branch.ndec ?_ ?_ | refine Branch.nb ?_ ?_ | refine Branch.mk ?_ ?_) <;> intro h <;> (try simp only [List.length_map] at h) <;> (try omega) <;> (try contradiction)) | (guard_target = CallN _ 100 _ _ _ _; refine CallN.pure _ _ rfl (validSig_ok _ _) rfl _ rfl ?_) | (guard_target = CallN _ 130 _ _ _ _; refine CallN.pure _ _ rfl (within_ok _ _ _) rfl _ rfl ?_) | (guard_target = CallN _ 131 _ _ _ _; refine CallN.pure _ _ rfl (isServer_ok _ _ _ (hsb i (by omega))) rfl _ rfl ?_) | (guard_target = CallN _ 132 _ _ _ _; refine CallN.pure _ _ rfl (isNote_ok _ _ _ (hpb k (by omega))) rfl _ rfl ?_) | (guard_target = CallN _ 133 _ _ _ _; refine CallN.gen [] _ _ _ rfl (hal) rfl rfl _ rfl ?_) | (guard_target = CallN _ 134 _ _ _ _; refine CallN.pure _ _ rfl (sameEntry_ok e (L.getD m n0).entry) rfl _ rfl ?_) | (guard_target = MapGet _ _ _; rcases kget K (L.getD m n0).id with ⟨j, e, hj⟩ | hmiss <;> (first | refine MapGet.hit j _ (khit hj) ?_ | refine MapGet.miss (kmiss hmiss) ?_)) | (guard_target = MapPut _ _ _ _; (first | (have h5 : e = (L.getD m n0).entry := (by assumption); rw [h5] at hj; refine MapPut.same j (khit hj) ?_) | refine MapPut.more ((L.getD m n0).id, (L.getD m n0).entry) rfl (kmiss hmiss) ?_)) | (guard_target = Arith _ _ _; refine Arith.fit (wrap_fit (by first | omega | (simp only [List.length_map]; omega)) (by first | omega | (simp only [List.length_map]; omega))) ?_) | (guard_target = Arith _ _ _; refine Arith.fit (by decide) ?_) | (guard_target = Index _ _ _; first | refine Index.mk _ (idx_map (i := i) (by omega)) ?_ | refine Index.mk _ (idx_getD (d := p00) (i := k) (by omega)) ?_ | refine Index.mk _ (idx_getD (d := n0) (i := m) (by omega)) ?_ | refine Index.mk _ (idx_map (by omega)) ?_) | (guard_target = Need (_ = true) _; refine Need.mk (by first | kernel_rfl | rfl) ?_) | (guard_target = LinkV _ _ _; first  | refine LinkV.no ?_) | (guard_target = GhO _ _ _ _; refine GhO.go ?_) | (guard_target = Need _ _; refine Need.mk (by first  | omega | (simp only [List.length_map]; omega)) ?_))
end Go.Proofs.YtmpcfplelpdbhaaGreat

namespace Go.Proofs.YtmpcfplelpdbhaaGreat
open Go Go.KA Go.Proofs
set_option maxHeartbeats 16000000
set_option maxRecDepth 100000
theorem l08Ok_ok (a : XArchive) (hl : budArchive a ≤ 1048576) : CallF Tryz.prog 59 [.c (.rp 4 (encArchive a))] (B (goodArch a)) := by
  have hsb : ∀ i (h : i < a.servers.length), budServer (a.servers.getD i s00) ≤ 1048576 := fun i h => by
    rw [getD_eq h]
    have := budS_mem budServer (List.getElem_mem h)
    simp only [budArchive] at hl
    omega
  have hpb : ∀ i (h : i < a.flying.length), budNote (a.flying.getD i p00).note ≤ 1048576 := fun i h => by
    rw [getD_eq h]
    have := budS_mem budPacket (List.getElem_mem h)
    simp only [budArchive, budPacket] at hl this
    omega
  have hn : ∀ i (h : i < a.servers.length), (a.servers.getD i s00).notes.length ≤ 1048576 := fun i h => by
    have h1 := hsb i h
    have h2 := budS_len budNote (a.servers.getD i s00).notes
    simp only [budServer] at h1
    omega
  have hb : ∀ i, ((a.servers.take i).flatMap XServer.notes).length ≤ 1048576 := fun i => by
    have h1 := flat_len (f := XServer.notes) (g := budServer) (fun s => budS_len budNote s.notes) (a.servers.take i)
    have h2 := bsum_le (f := budServer) a.servers i
    simp only [budArchive, budS] at hl
    omega
  have hf : a.flying.length ≤ 1048576 := by simp only [budArchive, budS] at hl; omega
  refine callF_of_vc htb hm Tryz.func59 rfl rfl rfl rfl (ann := fun _ => none) (gh := fun _ => false) ?_
  repeat' ((conv => whnf); first | (guard_target = Done _; refine Done.mk ?_; first | ((refine no_of (arch_no ?_); rintro ⟨g1, g2, g3, g4, g5, g6⟩; first | omega | (rw [g1] at h; cases h; done) | (rw [g2] at h; cases h; done) | (have hi : i < a.servers.length := (by omega); rw [getD_eq hi] at h; rw [all_stop hi h] at g4; cases g4; done) | (rw [all_stop (i := k) (by omega) (pkt_no (by omega) (.inl h))] at g5; cases g5; done) | (rw [all_stop (i := k) (by omega) (pkt_no (by omega) (.inr h))] at g5; cases g5; done)); done) | skip) | (guard_target = RetX _ _; refine RetX.mk ?_ ?_) | (guard_target =~ LoopE 6 _ _ _ _ _ _; refine LoopE.mk { α := Nat × List XNote, keep := [0, 3], ov := fun ⟨i, R⟩ => [(4, .lw 0), (5, I i)], hv := fun ⟨i, R⟩ => [(0, .row none 136 7 (R.map encNote))], φ := fun ⟨i, R⟩ => i ≤ a.servers.length ∧ (a.servers.take i).all (goodServer a.sig.tests a.sig.actions) = true ∧ R = (a.servers.take i).flatMap XServer.notes, μ := fun ⟨i, R⟩ => a.servers.length - i } (LoopN.mk ((0, []) : Nat × List XNote) (by exact ⟨Nat.zero_le _, rfl, rfl⟩) (by (repeat' first | exact trivial | exact rfl | refine ⟨?_, ?_⟩); done) (by (repeat' first | exact trivial | exact rfl | refine ⟨?_, ?_⟩); done) (by (repeat' first | exact trivial | exact rfl | refine ⟨?_, ?_⟩ | (simp only [List.map_append, List.map_cons, List.map_nil, List.map_set]; first | done | rfl)); done) (fun A ha => ?_) (by intro A; first | rfl | (obtain ⟨_, _⟩ := A; rfl) | (obtain ⟨_, _, _⟩ := A; rfl))); obtain ⟨i, R⟩ := A; have ha : i ≤ a.servers.length ∧ (a.servers.take i).all (goodServer a.sig.tests a.sig.actions) = true ∧ R = (a.servers.take i).flatMap XServer.notes := ha) | (guard_target =~ LoopE 12 _ _ _ _ _ _; refine LoopE.mk { α := Nat × List XNote, keep := [0, 3], ov := fun ⟨k, S⟩ => [(4, .lw 0), (6, I k)], hv := fun ⟨k, S⟩ => [(0, .row none 136 7 (S.map encNote))], φ := fun ⟨k, S⟩ => k ≤ a.flying.length ∧ (a.flying.take k).all (goodPkt a.sig.tests a.sig.actions a.servers.length) = true ∧ S = R ++ (a.flying.take k).map XPacket.note, μ := fun ⟨k, S⟩ => a.flying.length - k } (LoopN.mk ((0, R) : Nat × List XNote) (by exact ⟨Nat.zero_le _, rfl, by simp⟩) (by (repeat' first | exact trivial | exact rfl | refine ⟨?_, ?_⟩); done) (by (repeat' first | exact trivial | exact rfl | refine ⟨?_, ?_⟩); done) (by (repeat' first | exact trivial | exact rfl | refine ⟨?_, ?_⟩ | (simp only [List.map_append, List.map_cons, List.map_nil, List.map_set]; first | done | rfl)); done) (fun A ha => ?_) (by intro A; first | rfl | (obtain ⟨_, _⟩ := A; rfl) | (obtain ⟨_, _, _⟩ := A; rfl))); obtain ⟨k, S⟩ := A; have ha : k ≤ a.flying.length ∧ (a.flying.take k).all (goodPkt a.sig.tests a.sig.actions a.servers.length) = true ∧ S = R ++ (a.flying.take k).map XPacket.note := ha) | (guard_target = Gh _ _ _ _ _; refine Gh.go ⟨((i + 1, R ++ (a.servers.getD i s00).notes) : Nat × List XNote), (by (have hi : i < a.servers.length := (by omega); rw [getD_eq hi] at h ⊢; refine ⟨hi, all_more hi ha.2.1 h, ?_⟩; show R ++ _ = _; rw [flat_next hi, ha.2.2])), (by first | (show _ < _; simp only []; omega) | omega | (simp; omega)), (by (repeat' first | exact trivial | exact rfl | refine ⟨?_, ?_⟩); done), (by (repeat' first | exact trivial | exact rfl | refine ⟨?_, ?_⟩); done), (by (repeat' first | exact trivial | exact rfl | refine ⟨?_, ?_⟩ | (simp only [List.map_append]; first | done | rfl)); done)⟩) | (guard_target = Gh _ _ _ _ _; refine Gh.go ⟨((k + 1, S ++ [(a.flying.getD k p00).note]) : Nat × List XNote), (by (have hk : k < a.flying.length := (by omega); refine ⟨hk, all_more hk ha.2.1 (pkt_yes hk h (by assumption)), ?_⟩; show S ++ _ = _; rw [take_map_next hk, ha.2.2, List.append_assoc, getD_eq hk])), (by first | (show _ < _; simp only []; omega) | omega | (simp; omega)), (by (repeat' first | exact trivial | exact rfl | refine ⟨?_, ?_⟩); done), (by (repeat' first | exact trivial | exact rfl | refine ⟨?_, ?_⟩); done), (by (repeat' first | exact trivial | exact rfl | refine ⟨?_, ?_⟩ | (simp only [List.map_append, List.map_cons, List.map_nil]; first | done | rfl)); done)⟩) | (guard_target = Fact _ _; refine Fact.mk fun hL => ?_; (try simp only [List.length_map, maxLen] at hL)) | (guard_target = Branch _ _ _; (first | refine Branch.dec ?_ ?_ | refine Branch.beq ?_ ?_ | refine Branch.bne ?_ ?_ | refine Branch.ndec ?_ ?_ | refine Branch.nb ?_ ?_ | refine Branch.mk ?_ ?_) <;> intro h <;> (try simp only [List.length_map] at h) <;> (try omega) <;> (try contradiction)) | (guard_target = CallN _ 86 _ _ _ _; refine CallN.pure _ _ rfl (l01Sig_ok _ _) rfl _ rfl ?_) | (guard_target = CallN _ 122 _ _ _ _; refine CallN.pure _ _ rfl (l00In_ok _ _ _) rfl _ rfl ?_) | (guard_target = CallN _ 123 _ _ _ _; refine CallN.pure _ _ rfl (l08Server_ok _ _ _ (hsb i (by omega))) rfl _ rfl ?_) | (guard_target = CallN _ 124 _ _ _ _; refine CallN.pure _ _ rfl (l08Note_ok _ _ _ (hpb k (by omega))) rfl _ rfl ?_) | (guard_target = CallN _ 125 _ _ _ _; refine CallN.pure _ _ rfl (l08Agree_ok S) rfl _ rfl ?_) | (guard_target = Arith _ _ _; refine Arith.fit (wrap_fit (by first | omega | (simp only [List.length_map]; omega)) (by first | omega | (simp only [List.length_map]; omega))) ?_) | (guard_target = Arith _ _ _; refine Arith.fit (by decide) ?_) | (guard_target = Index _ _ _; first | refine Index.mk _ (idx_getD (d := s00) (i := i) (by omega)) ?_ | refine Index.mk _ (idx_getD (d := p00) (i := k) (by omega)) ?_ | refine Index.mk _ (idx_map (by omega)) ?_) | (guard_target = Need (_ = true) _; refine Need.mk (by first | kernel_rfl | rfl) ?_) | (guard_target = LinkV _ _ _; first  | refine LinkV.no ?_) | (guard_target = GhO _ _ _ _; refine GhO.go ?_) | (guard_target = Need _ _; refine Need.mk (by first | ((have h2 := ha.2.2; have h1 := hb i; simp only [List.length_map, maxLen]; first | (have h3 := hn i (by omega); rw [← h2] at h1; constructor <;> omega) | (have h8 := (‹_ ∧ _ ∧ R = _› : i ≤ _ ∧ _ ∧ R = _).2.2; rw [← h8] at h1; have h4 := congrArg List.length h2; simp only [List.length_append, List.length_map, List.length_take] at h4; simp only [List.length_cons, List.length_nil]; constructor <;> omega))) | omega | (simp only [List.length_map]; omega)) ?_))
  have h7 := (‹_ ∧ _ ∧ R = _› : i ≤ _ ∧ (a.servers.take i).all _ = true ∧ R = _)
  have h8 := h7.2.2
  have h6 := h7.2.1
  have h9 := ha.2.2
  have h5 := ha.2.1
  rw [List.take_of_length_le (show a.servers.length ≤ i by omega)] at h8 h6
  rw [List.take_of_length_le (show a.flying.length ≤ k by omega)] at h9 h5
  have e : S = allN a := by rw [h9, h8]; rfl
  have h4 : goodSig a.sig.tests a.sig.actions = true := by assumption
  have h3 : rng 1 5 a.servers.length = true := by assumption
  have h2 : decide ((a.flying.length : Int) ≤ 12) = true := decide_eq_true (by omega)
  unfold goodArch
  rw [h4, h3, h2, h6, h5, e]
  rfl
end Go.Proofs.YtmpcfplelpdbhaaGreat
