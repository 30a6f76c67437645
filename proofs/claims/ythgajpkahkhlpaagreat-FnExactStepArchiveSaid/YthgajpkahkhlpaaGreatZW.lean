/- Contracts of what revokes: the program's and the reference's function. Conditions: the archive's shape. -/
import Derived.Test.YthgajpkahkhlpaaGreatZV
import Derived.Test.YthgajpkahkhlpaaGreatZC
namespace Go.Proofs.YthgajpkahkhlpaaGreat
open Go Go.KA Go.Proofs
set_option maxHeartbeats 16000000
set_option maxRecDepth 100000
structure WA (a : XArchive) : Prop where
  n5 : 1 ≤ a.servers.length ∧ a.servers.length ≤ 5
  f12 : a.flying.length ≤ 12
  sv : ∀ i, i < a.servers.length → (a.servers.getD i s00).notes.length ≤ 20 ∧ 0 ≤ (a.servers.getD i s00).saved ∧ (a.servers.getD i s00).saved ≤ ((a.servers.getD i s00).notes.length : Int)
  bn : ∀ i, i < a.servers.length → ∀ n ∈ (a.servers.getD i s00).notes, budNote n ≤ 1048576
  pk : ∀ i, i < a.flying.length → 0 ≤ (a.flying.getD i p00).to0 ∧ (a.flying.getD i p00).to0 < (a.servers.length : Int) ∧ budNote (a.flying.getD i p00).note ≤ 1048576
structure EA (e : XEvent) : Prop where
  ra : 0 ≤ e.a ∧ e.a ≤ 999
  rb : 0 ≤ e.b ∧ e.b ≤ 999
  rc : 0 ≤ e.c ∧ e.c ≤ 999
  bl : e.rests.length + budProof e.proof + e.votes.length ≤ 1048576
theorem set_back {l : List XServer} {i : Nat} {x y : List CV} (hi : i < l.length) (hy : y = softS (l.getD i s00)) : ((l.map softS).set i x).set i y = l.map softS := by
  rw [List.set_set, hy, getD_eq hi, ← List.map_set, List.set_getElem_self]
theorem set_upd {l : List XServer} {i : Nat} {x y : List CV} {s : XServer} (hy : y = softS s) : ((l.map softS).set i x).set i y = (l.set i s).map softS := by
  rw [List.set_set, hy, List.map_set]
theorem set_upd1 {l : List XServer} {i : Nat} {y : List CV} {s : XServer} (hy : y = softS s) : (l.map softS).set i y = (l.set i s).map softS := by
  rw [hy, List.map_set]
theorem softL_refl : ∀ l : List (List CV), SoftL l l
  | [] => .nil
  | r :: rs => .cons (SoftC.refl r) (softL_refl rs)
theorem softL_set {x y : List CV} (h : SoftC x y) : ∀ {l : List (List CV)} {i : Nat}, SoftL (l.set i x) (l.set i y)
  | [], _ => .nil
  | _ :: rs, 0 => .cons h (softL_refl rs)
  | r :: _, _ + 1 => .cons (SoftC.refl r) (softL_set h)
theorem soft_back {l : List XServer} {i : Nat} {x y : List CV} (hi : i < l.length) (hy : y = softS (l.getD i s00)) : SoftL (((l.map softS).set i x).set i y) (l.map softS) := by
  rw [set_back hi hy]
  exact softL_refl _
theorem roLL_snoc {l : List XNote} {r : List CV} {n : XNote} (h : roL r = encNote n) : roLL (l.map encNote ++ [r]) = (l ++ [n]).map encNote := by
  have h1 := roLL_enc l
  rw [roLL_map] at h1 ⊢
  rw [List.map_append, h1, List.map_append]
  refine congrArg _ ?_
  show [r.map roC] = [encNote n]
  rw [← h, roL_map]
abbrev FA (a : XArchive) (R : List (List CV)) : Option (List CV) := some [CV.op [J a.sig.tests, J a.sig.actions, CV.own 152 3 R, CV.ows 239 8 (a.flying.map encPacket)]]
section
variable {a : XArchive} {e : XEvent}
theorem rev_2 (h1 : e.b ≥ 100) : doRevoke a e = (2, a) := if_pos h1
theorem rev_4a (h1 : ¬ e.b ≥ 100) (h2 : (sA a e.a).up = false) : doRevoke a e = (4, a) := by
  unfold doRevoke
  rw [if_neg (by omega), if_pos (by rw [h2]; rfl)]
theorem rev_4b (h1 : ¬ e.b ≥ 100) (h2 : (sA a e.a).up = true) (h3 : spotN (sA a e.a).notes true e.b ≥ 0) : doRevoke a e = (4, a) := by
  unfold doRevoke
  rw [if_neg (by omega), if_pos (by rw [h2, decide_eq_true h3]; rfl)]
theorem rev_3 (h1 : ¬ e.b ≥ 100) (h2 : (sA a e.a).up = true) (h3 : ¬ spotN (sA a e.a).notes true e.b ≥ 0) (h4 : ((sA a e.a).notes.length : Int) = 20) : doRevoke a e = (3, a) := by
  unfold doRevoke
  rw [if_neg (by omega), if_neg (by rw [h2, decide_eq_false h3]; decide), if_pos (by omega)]
theorem rev_0 (h1 : ¬ e.b ≥ 100) (h2 : (sA a e.a).up = true) (h3 : ¬ spotN (sA a e.a).notes true e.b ≥ 0) (h4 : ¬ ((sA a e.a).notes.length : Int) = 20) : doRevoke a e = (0, setS a e.a (addN (sA a e.a) (revN e))) := by
  unfold doRevoke
  rw [if_neg (by omega), if_neg (by rw [h2, decide_eq_false h3]; decide), if_neg (by omega)]
end
theorem revoke_ok (a : XArchive) (e : XEvent) (hw : WA a) (he : EA e) (hp : e.a < (a.servers.length : Int)) : CallX Tryz.prog 182 [.c (.op (softA a)), .a 9 (encEvent e)] [some [.op (softA (doRevoke a e).2)], none] (I (doRevoke a e).1) := by
  have hpl : e.a.toNat < a.servers.length := by have := he.ra; omega
  have hra := he.ra
  have h20 := (hw.sv _ hpl).1
  refine callX_of_vcg htb hm Tryz.func182 rfl rfl rfl rfl (ann := fun _ => none) (gh := fun reg_ => match reg_ with | 4 => true | _ => false) ?_
  repeat' ((conv => whnf); first | (guard_target =~ RetX (I 2 = _) _; have hd : doRevoke a e = (2, a) := rev_2 (by assumption); rw [hd]; exact RetX.mk rfl ⟨rfl, trivial⟩) | (guard_target = Done _; refine Done.mk ?_) | (guard_target = RetX _ _; refine RetX.mk ?_ ?_) | (guard_target = Fact _ _; refine Fact.mk fun hL => ?_; (try simp only [List.length_map, maxLen] at hL)) | (guard_target = Branch _ _ _; (first | apply Branch.dec | apply Branch.beq | apply Branch.bne | apply Branch.ndec | apply Branch.nb | apply Branch.mk) <;> intro h <;> (try simp only [List.length_map] at h) <;> (try omega) <;> (try contradiction)) | (guard_target = Gh _ _ _ _ _; refine Gh.go ?_) | (guard_target = Arith _ _ _; refine Arith.fit (by apply wrap_fit <;> first | omega | (simp only [List.length_map]; omega)) ?_) | (guard_target = Arith _ _ _; refine Arith.fit (by decide) ?_) | (guard_target = Index _ _ _; first | refine Index.mk _ (idx_getD (d := s00) hpl) ?_ | refine Index.mk _ (idx_map (by omega)) ?_) | (guard_target = Need (_ = true) _; refine Need.mk (by first | kernel_rfl | rfl) ?_) | (guard_target = LinkV _ _ _; refine LinkV.no ?_) | (guard_target = Need _ _; refine Need.mk (by first | ((simp only [List.length_map]; omega)) | omega | (simp only [List.length_map]; omega)) ?_))
  all_goals (conv => whnf)
  all_goals try refine GhO.opens 0 e.a.toNat 1 rfl (idx_getD (d := s00) hpl) rfl fun v => GhO.go ?_
  repeat' ((conv => whnf); first | (guard_target =~ RetX (I 4 = _) _; have hd : doRevoke a e = (4, a) := (by first | exact rev_4a (by assumption) (by assumption) | exact rev_4b (by assumption) (by assumption) (by assumption)); rw [hd]; exact RetX.mk rfl ⟨congrArg (FA a) (set_back hpl rfl), trivial⟩) | (guard_target =~ RetX (I 3 = _) _; have hd : doRevoke a e = (3, a) := rev_3 (by assumption) (by assumption) (by assumption) (by assumption); rw [hd]; exact RetX.mk rfl ⟨congrArg (FA a) (set_back hpl rfl), trivial⟩) | (guard_target =~ RetX (I 0 = _) _; have hd : doRevoke a e = (0, setS a e.a (addN (sA a e.a) (revN e))) := rev_0 (by assumption) (by assumption) (by assumption) (by assumption); rw [hd]; exact RetX.mk rfl ⟨congrArg (FA a) (set_upd (s := addN (sA a e.a) (revN e)) (congrArg (fun R => [CV.val (.bool (sA a e.a).up), CV.ows 157 7 R, J (sA a e.a).saved]) (roLL_snoc rfl))), trivial⟩) | (guard_target = Done _; refine Done.mk ?_) | (guard_target = RetX _ _; refine RetX.mk ?_ ?_) | (guard_target = Fact _ _; refine Fact.mk fun hL => ?_; (try simp only [List.length_map, maxLen] at hL)) | (guard_target = Branch _ _ _; (first | apply Branch.dec | apply Branch.beq | apply Branch.bne | apply Branch.ndec | apply Branch.nb | apply Branch.mk) <;> intro h <;> (try simp only [List.length_map] at h) <;> (try omega) <;> (try contradiction)) | (guard_target = CallN _ 83 _ _ _ _; refine CallN.pure _ _ rfl (find_ok (a.servers.getD e.a.toNat s00).notes true e.b) rfl _ rfl ?_) | (guard_target = Gh _ _ _ _ _; refine Gh.closes 0 e.a.toNat 1 4 rfl (set_get (by rw [List.length_map]; exact hpl)) rfl rfl rfl (Gh.go ?_)) | (guard_target = Gh _ _ _ _ _; refine Gh.soft 0 (SoftB.orow (softL_set (i := e.a.toNat) (.same (.ows (.same .nil))))) (Gh.go ?_)) | (guard_target = Arith _ _ _; refine Arith.fit (by apply wrap_fit <;> first | omega | (simp only [List.length_map]; omega)) ?_) | (guard_target = Arith _ _ _; refine Arith.fit (by decide) ?_) | (guard_target = Index _ _ _; first | refine Index.mk _ (set_get (by rw [List.length_map]; exact hpl)) ?_ | refine Index.mk _ (idx_map (by omega)) ?_) | (guard_target = Need (_ = true) _; refine Need.mk (by first | kernel_rfl | rfl) ?_) | (guard_target = LinkV _ _ _; first | refine LinkV.row 4 rfl ?_ | refine LinkV.orow 4 rfl ?_ | refine LinkV.no ?_) | (guard_target = GhO _ _ _ _; refine GhO.go ?_) | (guard_target = Need _ _; refine Need.mk (by first | ((simp only [List.length_map]; omega)) | ((simp only [List.length_cons, List.length_nil, List.length_map, maxLen]; constructor <;> omega)) | omega | (simp only [List.length_map]; omega)) ?_))
  all_goals (try (conv => whnf))
end Go.Proofs.YthgajpkahkhlpaaGreat

namespace Go.Proofs.YthgajpkahkhlpaaGreat
open Go Go.KA Go.Proofs
set_option maxHeartbeats 16000000
set_option maxRecDepth 100000
abbrev viewA (a : XArchive) : List CV := [J a.sig.tests, J a.sig.actions, .ro 3 (roLL (a.servers.map softS)), .ro 8 (a.flying.map encPacket)]
theorem viewA_eq (a : XArchive) : viewA a = encArchive a := by
  unfold viewA
  rw [roLL_softS]
  rfl
theorem l08At_soft (a : XArchive) (s : Int) : CallF Tryz.prog 268 [.c (.rp 4 (viewA a)), I s] (B (placeB a s)) := by
  rw [viewA_eq]
  exact l08At_ok a s
theorem isPlace_soft (a : XArchive) (s : Int) : CallF Tryz.prog 180 [.a 4 (viewA a), I s] (B (placeB a s)) := by
  rw [viewA_eq]
  exact isPlace_ok a s
theorem flat20 {a : XArchive} (hw : WA a) : ∀ i, i ≤ a.servers.length → ((a.servers.take i).flatMap XServer.notes).length ≤ 20 * i
  | 0, _ => by simp
  | i + 1, hi => by
    have h := flat20 hw i (by omega)
    have h1 := (hw.sv i (by omega)).1
    rw [List.take_succ_eq_append_getElem (by omega), List.flatMap_append, List.length_append]
    rw [getD_eq (by omega)] at h1
    simp only [List.flatMap_cons, List.flatMap_nil, List.append_nil]
    omega
theorem allNotes_soft (a : XArchive) (hw : WA a) : CallX Tryz.prog 163 [.m [.c (J a.sig.tests), .c (J a.sig.actions), .c (.own 152 3 (a.servers.map softS)), .c (.ows 239 8 (a.flying.map encPacket))]] [some (softA a)] (.c (.ows 157 7 ((allN a).map encNote))) := by
  have h5 := hw.n5
  have hf := hw.f12
  have hfl := flat20 hw
  have hsv := hw.sv
  refine callX_of_vc htb hm Tryz.func163 rfl rfl rfl rfl (ann := fun _ => none) (gh := fun _ => false) ?_
  repeat' ((conv => whnf); first | (guard_target = Done _; refine Done.mk ?_) | (guard_target = RetX _ _; refine RetX.mk ?_ ?_) | (guard_target =~ LoopE 3 _ _ _ _ _ _; refine LoopE.mk { α := Nat × List XNote, keep := [1, 10, 11], ov := fun ⟨i, R⟩ => [(3, .lw 4), (12, I (i : Nat))], hv := fun ⟨i, R⟩ => [(4, .row none 157 7 (R.map encNote))], φ := fun ⟨i, R⟩ => i ≤ a.servers.length ∧ R = (a.servers.take i).flatMap XServer.notes, μ := fun ⟨i, R⟩ => a.servers.length - i } (LoopN.mk ((0, []) : Nat × List XNote) (by exact ⟨Nat.zero_le _, rfl⟩) (by repeat' first | exact trivial | exact rfl | constructor) (by repeat' first | exact trivial | exact rfl | constructor) (by (repeat' first | exact trivial | exact rfl | refine ⟨?_, ?_⟩ | (simp only [List.map_append, List.map_cons, List.map_nil, List.map_set]; first | done | rfl)); done) (fun A ha => ?_) (by intro A; first | rfl | (obtain ⟨_, _⟩ := A; rfl) | (obtain ⟨_, _, _⟩ := A; rfl))); obtain ⟨i, R⟩ := A; have ha : i ≤ a.servers.length ∧ R = (a.servers.take i).flatMap XServer.notes := ha; have hR2 := ha.2; have hRl := hfl i ha.1; rw [← ha.2] at hRl; have hsi := hsv i) | (guard_target =~ LoopE 8 _ _ _ _ _ _; refine LoopE.mk { α := Nat × List XNote, keep := [22, 23], ov := fun ⟨k, S⟩ => [(3, .lw 4), (24, I (k : Nat))], hv := fun ⟨k, S⟩ => [(4, .row none 157 7 (S.map encNote))], φ := fun ⟨k, S⟩ => k ≤ a.flying.length ∧ S = R ++ (a.flying.take k).map XPacket.note, μ := fun ⟨k, S⟩ => a.flying.length - k } (LoopN.mk ((0, R) : Nat × List XNote) (by exact ⟨Nat.zero_le _, by simp⟩) (by repeat' first | exact trivial | exact rfl | constructor) (by repeat' first | exact trivial | exact rfl | constructor) (by (repeat' first | exact trivial | exact rfl | refine ⟨?_, ?_⟩ | (simp only [List.map_append, List.map_cons, List.map_nil, List.map_set]; first | done | rfl)); done) (fun A ha => ?_) (by intro A; first | rfl | (obtain ⟨_, _⟩ := A; rfl) | (obtain ⟨_, _, _⟩ := A; rfl))); obtain ⟨k, S⟩ := A; have ha : k ≤ a.flying.length ∧ S = R ++ (a.flying.take k).map XPacket.note := ha; have hSl := congrArg List.length ha.2; simp only [List.length_append, List.length_map, List.length_take] at hSl) | (guard_target = Gh _ _ _ _ _; refine Gh.go ⟨((k + 1, S ++ [(a.flying.getD k p00).note]) : Nat × List XNote), (by (have hk : k < a.flying.length := (by omega); refine ⟨hk, ?_⟩; show S ++ _ = _; rw [take_map_next hk, ha.2, List.append_assoc, getD_eq hk])), (by first | (show _ < _; simp only []; omega) | omega | (simp; omega)), (by repeat' first | exact trivial | exact rfl | constructor), (by repeat' first | exact trivial | exact rfl | constructor), (by (repeat' first | exact trivial | exact rfl | refine ⟨?_, ?_⟩ | (simp only [List.map_append, List.map_cons, List.map_nil]; first | done | rfl)); done)⟩) | (guard_target = Fact _ _; refine Fact.mk fun hL => ?_; (try simp only [List.length_map, maxLen] at hL)) | (guard_target = Branch _ _ _; (first | apply Branch.dec | apply Branch.beq | apply Branch.bne | apply Branch.ndec | apply Branch.nb | apply Branch.mk) <;> intro h <;> (try simp only [List.length_map] at h) <;> (try omega) <;> (try contradiction)) | (guard_target = ∀ _ : Value, _; intro v) | (guard_target = Gh _ _ _ _ _; refine Gh.closes 0 i 1 5 rfl (set_get (by rw [List.length_map]; omega)) rfl rfl rfl (Gh.go ⟨((i + 1, R ++ (a.servers.getD i s00).notes) : Nat × List XNote), (by (have hi : i < a.servers.length := (by omega); refine ⟨hi, ?_⟩; show R ++ _ = _; rw [flat_next hi, ha.2, getD_eq hi])), (by show a.servers.length - (i + 1) < a.servers.length - i; omega), (by repeat' first | exact trivial | exact rfl | constructor), (by repeat' first | exact trivial | exact rfl | constructor), (by (repeat' first | exact trivial | exact rfl | exact congrArg (Blk.orow none 152 3) (set_back (by omega) rfl) | refine ⟨?_, ?_⟩ | (simp only [List.map_append]; first | done | rfl)); done)⟩)) | (guard_target = Arith _ _ _; refine Arith.fit (by apply wrap_fit <;> first | omega | (simp only [List.length_map]; omega)) ?_) | (guard_target = Arith _ _ _; refine Arith.fit (by decide) ?_) | (guard_target = Index _ _ _; first | refine Index.mk _ (idx_getD (d := s00) (i := i) (by omega)) ?_ | refine Index.mk _ (idx_getD (d := p00) (i := k) (by omega)) ?_ | refine Index.mk _ (idx_map (by omega)) ?_) | (guard_target = Need (_ = true) _; refine Need.mk (by first | kernel_rfl | rfl) ?_) | (guard_target = LinkV _ _ _; refine LinkV.no ?_) | (guard_target = GhO _ _ _ _; refine GhO.go ?_) | (guard_target = Need _ _; refine Need.mk (by first | ((simp only [List.length_map, List.length_cons, List.length_nil, maxLen]; first | (constructor <;> omega) | (have hsj := hsi (by omega); constructor <;> omega))) | omega | (simp only [List.length_map]; omega)) ?_))
  all_goals (try (conv => whnf))
  all_goals first | exact ⟨rfl, trivial⟩ | (have h9 := ha.2; rw [List.take_of_length_le (by omega)] at h9; rw [hR2, List.take_of_length_le (by omega)] at h9; rw [h9]; rfl)
theorem taken_iff {a : XArchive} {id : Int} : takenA a id = (a.servers.any (fun s => decide (spotN s.notes false id ≥ 0)) || a.flying.any (fun p => noteIs false id p.note)) := by
  refine Bool.eq_iff_iff.2 ?_
  unfold takenA
  rw [decide_eq_true_iff, Bool.or_eq_true, List.any_eq_true, List.any_eq_true]
  unfold spotN
  rw [idxP_ge]
  unfold allN
  constructor
  · rintro ⟨y, hy, hp⟩
    rcases List.mem_append.1 hy with h | h
    · obtain ⟨s, hs, hn⟩ := List.mem_flatMap.1 h
      exact .inl ⟨s, hs, decide_eq_true (idxP_ge.2 ⟨y, hn, hp⟩)⟩
    · obtain ⟨p, hp', rfl⟩ := List.mem_map.1 h
      exact .inr ⟨p, hp', hp⟩
  · rintro (⟨s, hs, h⟩ | ⟨p, hp, h⟩)
    · obtain ⟨y, hy, hq⟩ := idxP_ge.1 (of_decide_eq_true h)
      exact ⟨y, List.mem_append.2 (.inl (List.mem_flatMap.2 ⟨s, hs, hy⟩)), hq⟩
    · exact ⟨p.note, List.mem_append.2 (.inr (List.mem_map.2 ⟨p, hp, rfl⟩)), h⟩
theorem anyS_stop {α : Type} {p : α → Bool} {l : List α} {i : Nat} (hi : i < l.length) (h : p l[i] = true) : l.any p = true := List.any_eq_true.2 ⟨_, List.getElem_mem hi, h⟩
theorem anyS_end {α : Type} {p : α → Bool} {l : List α} {i : Nat} (hi : l.length ≤ i) (h : (l.take i).all (fun y => !(p y)) = true) : l.any p = false := by
  rw [List.take_of_length_le hi] at h
  cases hb : l.any p with
  | false => rfl
  | true =>
    obtain ⟨y, hy, hp⟩ := List.any_eq_true.1 hb
    have := List.all_eq_true.1 h y hy
    rw [hp] at this
    cases this
theorem l08Taken_ok (a : XArchive) (id : Int) (h5 : a.servers.length ≤ 1048576) (hf : a.flying.length ≤ 1048576) : CallF Tryz.prog 270 [.c (.rp 4 (encArchive a)), I id] (B (takenA a id)) := by
  rw [taken_iff]
  refine callF_of_vc htb hm Tryz.func270 rfl rfl rfl rfl (ann := fun _ => none) (gh := fun _ => false) ?_
  repeat' ((conv => whnf); first | (guard_target = Done _; refine Done.mk ?_; first | ((refine yes_of ?_; rw [anyS_stop (p := fun s : XServer => decide (spotN s.notes false id ≥ 0)) (i := i) (by omega) (by rw [← getD_eq (d := s00) (by omega)]; exact decide_eq_true h)]; rfl); done) | ((refine yes_of ?_; rw [anyS_stop (p := fun p : XPacket => noteIs false id p.note) (i := k) (by omega) (by rw [← getD_eq (d := p00) (by omega)]; simp_all [noteIs]), Bool.or_true]); done) | ((refine no_of ?_; rw [anyS_end (by omega) hA.2, anyS_end (by omega) ha.2]; rfl); done) | skip) | (guard_target = RetX _ _; refine RetX.mk ?_ ?_) | (guard_target =~ LoopE 2 _ _ _ _ _ _; refine LoopE.mk { α := Nat, keep := [0, 1], ov := fun i => [(5, I (i : Nat))], φ := fun i => i ≤ a.servers.length ∧ (a.servers.take i).all (fun s => !(decide (spotN s.notes false id ≥ 0))) = true, μ := fun i => a.servers.length - i } (LoopN.mk (0 : Nat) (by exact ⟨Nat.zero_le _, rfl⟩) (by repeat' first | exact trivial | exact rfl | constructor) (by repeat' first | exact trivial | exact rfl | constructor) (by (repeat' first | exact trivial | exact rfl | refine ⟨?_, ?_⟩ | (simp only [List.map_append, List.map_cons, List.map_nil, List.map_set]; first | done | rfl)); done) (fun (i : Nat) ha => ?_) (by intro A; first | rfl | (obtain ⟨_, _⟩ := A; rfl) | (obtain ⟨_, _, _⟩ := A; rfl))); have ha : i ≤ a.servers.length ∧ (a.servers.take i).all (fun s => !(decide (spotN s.notes false id ≥ 0))) = true := ha; have hA := ha) | (guard_target =~ LoopE 7 _ _ _ _ _ _; refine LoopE.mk { α := Nat, keep := [0, 1], ov := fun k => [(6, I (k : Nat))], φ := fun k => k ≤ a.flying.length ∧ (a.flying.take k).all (fun p => !(noteIs false id p.note)) = true, μ := fun k => a.flying.length - k } (LoopN.mk (0 : Nat) (by exact ⟨Nat.zero_le _, rfl⟩) (by repeat' first | exact trivial | exact rfl | constructor) (by repeat' first | exact trivial | exact rfl | constructor) (by (repeat' first | exact trivial | exact rfl | refine ⟨?_, ?_⟩ | (simp only [List.map_append, List.map_cons, List.map_nil, List.map_set]; first | done | rfl)); done) (fun (k : Nat) ha => ?_) (by intro A; first | rfl | (obtain ⟨_, _⟩ := A; rfl) | (obtain ⟨_, _, _⟩ := A; rfl))); have ha : k ≤ a.flying.length ∧ (a.flying.take k).all (fun p => !(noteIs false id p.note)) = true := ha) | (guard_target = Gh _ _ _ _ _; refine Gh.go ⟨(i + 1 : Nat), (by exact all_go (by omega) ha (by rw [← getD_eq (d := s00) (by omega)]; exact not_of (decide_eq_false h))), (by first | (show _ < _; simp only []; omega) | omega | (simp; omega)), (by repeat' first | exact trivial | exact rfl | constructor), (by repeat' first | exact trivial | exact rfl | constructor), (by (repeat' first | exact trivial | exact rfl | refine ⟨?_, ?_⟩ | (simp only [List.map_append, List.map_cons, List.map_nil, List.map_set]; first | done | rfl)); done)⟩) | (guard_target = Gh _ _ _ _ _; refine Gh.go ⟨(k + 1 : Nat), (by exact all_go (by omega) ha (by rw [← getD_eq (d := p00) (by omega)]; refine not_of ?_; simp_all [noteIs])), (by first | (show _ < _; simp only []; omega) | omega | (simp; omega)), (by repeat' first | exact trivial | exact rfl | constructor), (by repeat' first | exact trivial | exact rfl | constructor), (by (repeat' first | exact trivial | exact rfl | refine ⟨?_, ?_⟩ | (simp only [List.map_append, List.map_cons, List.map_nil, List.map_set]; first | done | rfl)); done)⟩) | (guard_target = Fact _ _; refine Fact.mk fun hL => ?_; (try simp only [List.length_map, maxLen] at hL)) | (guard_target = Branch _ _ _; (first | apply Branch.dec | apply Branch.beq | apply Branch.bne | apply Branch.ndec | apply Branch.nb | apply Branch.mk) <;> intro h <;> (try simp only [List.length_map] at h) <;> (try omega) <;> (try contradiction)) | (guard_target = CallN _ 76 _ _ _ _; refine CallN.pure _ _ rfl (l08Spot_ok (a.servers.getD i s00).notes false id) rfl _ rfl ?_) | (guard_target = Arith _ _ _; refine Arith.fit (by apply wrap_fit <;> first | omega | (simp only [List.length_map]; omega)) ?_) | (guard_target = Arith _ _ _; refine Arith.fit (by decide) ?_) | (guard_target = Index _ _ _; first | refine Index.mk _ (idx_getD (d := s00) (i := i) (by omega)) ?_ | refine Index.mk _ (idx_getD (d := p00) (i := k) (by omega)) ?_ | refine Index.mk _ (idx_map (by omega)) ?_) | (guard_target = Need (_ = true) _; refine Need.mk (by first | kernel_rfl | rfl) ?_) | (guard_target = LinkV _ _ _; refine LinkV.no ?_) | (guard_target = GhO _ _ _ _; refine GhO.go ?_) | (guard_target = Need _ _; refine Need.mk (by first  | omega | (simp only [List.length_map]; omega)) ?_))
theorem l08Taken_soft (a : XArchive) (hw : WA a) (id : Int) : CallF Tryz.prog 270 [.c (.rp 4 (viewA a)), I id] (B (takenA a id)) := by
  rw [viewA_eq]
  exact l08Taken_ok a id (by have := hw.n5; omega) (by have := hw.f12; omega)
end Go.Proofs.YthgajpkahkhlpaaGreat

namespace Go.Proofs.YthgajpkahkhlpaaGreat
open Go Go.KA Go.Proofs
set_option maxHeartbeats 16000000
set_option maxRecDepth 100000
section
variable {a : XArchive} {e : XEvent}
theorem put_4a (h2 : (sA a e.a).up = false) : doPut a e = (4, a) := by
  unfold doPut
  rw [if_pos (by rw [h2]; rfl)]
theorem put_4b (h2 : (sA a e.a).up = true) (h3 : knows (sA a e.a).notes e.rests = false) : doPut a e = (4, a) := by
  unfold doPut
  rw [if_pos (by rw [h2, h3]; rfl)]
theorem put_8 (h2 : (sA a e.a).up = true) (h3 : knows (sA a e.a).notes e.rests = true) (h4 : votesB e.votes = false) : doPut a e = (8, a) := by
  unfold doPut
  rw [if_neg (by rw [h2, h3]; decide), if_pos h4]
theorem put_3 (h2 : (sA a e.a).up = true) (h3 : knows (sA a e.a).notes e.rests = true) (h4 : votesB e.votes = true) (h5 : ((sA a e.a).notes.length : Int) = 20 ∨ 100 ≤ newId a e.a ∨ takenA a (newId a e.a) = true) : doPut a e = (3, a) := by
  unfold doPut
  rw [if_neg (by rw [h2, h3]; decide), if_neg (by rw [h4]; decide), if_pos]
  rw [Bool.or_eq_true, Bool.or_eq_true, decide_eq_true_iff, decide_eq_true_iff]
  rcases h5 with h | h
  · exact .inl (by omega)
  · exact .inr h
theorem put_0 (h2 : (sA a e.a).up = true) (h3 : knows (sA a e.a).notes e.rests = true) (h4 : votesB e.votes = true) (h5 : ¬ ((sA a e.a).notes.length : Int) = 20) (h6 : ¬ 100 ≤ newId a e.a) (h7 : takenA a (newId a e.a) = false) : doPut a e = (0, setS a e.a (addN (sA a e.a) (putN a e))) := by
  unfold doPut
  rw [if_neg (by rw [h2, h3]; decide), if_neg (by rw [h4]; decide), if_neg]
  rw [decide_eq_false (by omega : ¬ (sA a e.a).notes.length = 20), decide_eq_false h6, h7]
  decide
end
theorem ownP_yes {n i : Int} {x : XNote} (h : x.revoke = false) (h2 : x.id.tmod n = i) : ownP n i x = true := by
  unfold ownP
  rw [h, decide_eq_true h2]
  rfl
theorem ownP_no1 {n i : Int} {x : XNote} (h : x.revoke = true) : ownP n i x = false := by
  unfold ownP
  rw [h]
  rfl
theorem ownP_no2 {n i : Int} {x : XNote} (h2 : ¬ x.id.tmod n = i) : ownP n i x = false := by
  unfold ownP
  rw [decide_eq_false h2, Bool.and_false]
theorem put_ok (a : XArchive) (e : XEvent) (hw : WA a) (he : EA e) (hp : e.a < (a.servers.length : Int)) : CallX Tryz.prog 181 [.c (.op (softA a)), .a 9 (encEvent e)] [some [.op (softA (doPut a e).2)], none] (I (doPut a e).1) := by
  have hpl : e.a.toNat < a.servers.length := by have := he.ra; omega
  have hra := he.ra
  have h5 := hw.n5
  have h20 := (hw.sv _ hpl).1
  have hmul : ∀ c : Int, 0 ≤ c → c ≤ 20 → 0 ≤ (a.servers.length : Int) * c ∧ (a.servers.length : Int) * c ≤ 100 := fun c h1 h2 => by
    constructor
    · exact Int.mul_nonneg (by omega) h1
    · have := Int.mul_le_mul (show (a.servers.length : Int) ≤ 5 by omega) h2 h1 (by omega)
      omega
  have hvo := counted_ok e.votes (by have := he.bl; omega)
  obtain ⟨vb, hvb⟩ : ∃ vb, vb = votesB e.votes := ⟨_, rfl⟩
  rw [← hvb] at hvo
  have hbn : ∀ x y, budNote ⟨false, x, ⟨y, e.rests, e.proof⟩⟩ ≤ 1048576 := fun _ _ => by have := he.bl; simp only [budNote, budEntry]; omega
  refine callX_of_vcg htb hm Tryz.func181 rfl rfl rfl rfl (ann := fun _ => none) (gh := fun reg_ => match reg_ with | 2 => true | 1000015 => true | 14015 => true | 17 => true | _ => false) ?_
  repeat' ((conv => whnf); first | (guard_target = Done _; refine Done.mk ?_) | (guard_target = RetX _ _; refine RetX.mk ?_ ?_) | (guard_target = Fact _ _; refine Fact.mk fun hL => ?_; (try simp only [List.length_map, maxLen] at hL)) | (guard_target = Branch _ _ _; (first | apply Branch.dec | apply Branch.beq | apply Branch.bne | apply Branch.ndec | apply Branch.nb | apply Branch.mk) <;> intro h <;> (try simp only [List.length_map] at h) <;> (try omega) <;> (try contradiction)) | (guard_target = Gh _ _ _ _ _; refine Gh.go ?_) | (guard_target = Arith _ _ _; refine Arith.fit (by apply wrap_fit <;> first | omega | (simp only [List.length_map]; omega)) ?_) | (guard_target = Arith _ _ _; refine Arith.fit (by decide) ?_) | (guard_target = Index _ _ _; first | refine Index.mk _ (idx_getD (d := s00) hpl) ?_ | refine Index.mk _ (idx_map (by omega)) ?_) | (guard_target = Need (_ = true) _; refine Need.mk (by first | kernel_rfl | rfl) ?_) | (guard_target = LinkV _ _ _; refine LinkV.no ?_) | (guard_target = Need _ _; refine Need.mk (by first | ((simp only [List.length_map]; omega)) | omega | (simp only [List.length_map]; omega)) ?_))
  all_goals (conv => whnf)
  all_goals try refine GhO.opens 0 e.a.toNat 1 rfl (idx_getD (d := s00) hpl) rfl fun v => GhO.go ?_
  repeat' ((conv => whnf); first | (guard_target =~ RetX (I 4 = _) _; have hd : doPut a e = (4, a) := (by first | exact put_4a (by assumption) | exact put_4b (by assumption) (by assumption)); rw [hd]; exact RetX.mk rfl ⟨rfl, trivial⟩) | (guard_target =~ RetX (I 8 = _) _; have hd : doPut a e = (8, a) := put_8 (by assumption) (by assumption) (by rw [← hvb]; assumption); rw [hd]; exact RetX.mk rfl ⟨rfl, trivial⟩) | (guard_target = Done _; refine Done.mk ?_) | (guard_target = RetX _ _; refine RetX.mk ?_ ?_) | (guard_target =~ LoopE 9 _ _ _ _ _ _; refine LoopE.mk { α := Int × Nat, keep := [0, 3, 5, 6, 45, 46], ov := fun ⟨c, i⟩ => [(7, I c), (47, I (i : Nat))], φ := fun ⟨c, i⟩ => i ≤ (a.servers.getD e.a.toNat s00).notes.length ∧ c = (((a.servers.getD e.a.toNat s00).notes.take i).countP (ownP a.servers.length e.a) : Nat), μ := fun ⟨c, i⟩ => (a.servers.getD e.a.toNat s00).notes.length - i } (LoopN.mk ((0, 0) : Int × Nat) (by exact ⟨Nat.zero_le _, by simp⟩) (by repeat' first | exact trivial | exact rfl | constructor) (by repeat' first | exact trivial | exact rfl | constructor) (by (repeat' first | exact trivial | exact rfl | refine ⟨?_, ?_⟩ | (simp only [List.map_append, List.map_cons, List.map_nil, List.map_set]; first | done | rfl)); done) (fun A ha => ?_) (by intro A; first | rfl | (obtain ⟨_, _⟩ := A; rfl) | (obtain ⟨_, _, _⟩ := A; rfl))); obtain ⟨c, i⟩ := A; have ha : i ≤ (a.servers.getD e.a.toNat s00).notes.length ∧ c = (((a.servers.getD e.a.toNat s00).notes.take i).countP (ownP a.servers.length e.a) : Nat) := ha; have hc9 := ha.2; have hle9 := cnt_le (p := ownP a.servers.length e.a) (l := (a.servers.getD e.a.toNat s00).notes) (i := i)) | (guard_target = Gh _ _ _ _ _; refine Gh.go ⟨((c + 1, i + 1) : Int × Nat), (by exact ⟨by show i + 1 ≤ _; omega, cnt_yes (by omega) (by rw [← getD_eq (d := n0) (by omega)]; refine ownP_yes (by assumption) ?_; simpa only [List.length_set, List.length_map] using h) ha.2⟩), (by first | (show _ < _; simp only []; omega) | omega | (simp; omega)), (by repeat' first | exact trivial | exact rfl | constructor), (by repeat' first | exact trivial | exact rfl | constructor), (by (repeat' first | exact trivial | exact rfl | refine ⟨?_, ?_⟩ | (simp only [List.map_append, List.map_cons, List.map_nil, List.map_set]; first | done | rfl)); done)⟩) | (guard_target = Gh _ _ _ _ _; refine Gh.go ⟨((c, i + 1) : Int × Nat), (by exact ⟨by show i + 1 ≤ _; omega, cnt_no (by omega) (by rw [← getD_eq (d := n0) (by omega)]; first | exact ownP_no1 h | (refine ownP_no2 ?_; simpa only [List.length_set, List.length_map] using h)) ha.2⟩), (by first | (show _ < _; simp only []; omega) | omega | (simp; omega)), (by repeat' first | exact trivial | exact rfl | constructor), (by repeat' first | exact trivial | exact rfl | constructor), (by (repeat' first | exact trivial | exact rfl | refine ⟨?_, ?_⟩ | (simp only [List.map_append, List.map_cons, List.map_nil, List.map_set]; first | done | rfl)); done)⟩) | (guard_target = Fact _ _; refine Fact.mk fun hL => ?_; (try simp only [List.length_map, maxLen] at hL)) | (guard_target = Branch _ _ _; (first | apply Branch.dec | apply Branch.beq | apply Branch.bne | apply Branch.ndec | apply Branch.nb | apply Branch.mk) <;> intro h <;> (try simp only [List.length_map] at h) <;> (try omega) <;> (try contradiction)) | (guard_target = CallN _ 225 _ _ _ _; refine CallN.pure _ _ rfl (knowsAll_ok (a.servers.getD e.a.toNat s00).notes e.rests) rfl _ rfl ?_) | (guard_target = CallN _ 237 _ _ _ _; refine CallN.pure _ _ rfl (hvo) rfl _ rfl ?_) | (guard_target = Gh _ _ _ _ _; refine Gh.closes 0 e.a.toNat 1 4 rfl (set_get (by rw [List.length_map]; exact hpl)) rfl rfl rfl (Gh.soft 0 (b' := .orow none 152 3 (a.servers.map softS)) (.orow (soft_back hpl rfl)) (Gh.go ?_))) | (guard_target = Gh _ _ _ _ _; refine Gh.go ?_) | (guard_target = Arith _ _ _; refine Arith.fit (wrap_fit (by (first | omega | (simp only [List.length_set, List.length_map]; omega) | (simp only [List.length_set, List.length_map]; have hm9 := hmul c (by omega) (by omega); omega))) (by (first | omega | (simp only [List.length_set, List.length_map]; omega) | (simp only [List.length_set, List.length_map]; have hm9 := hmul c (by omega) (by omega); omega)))) ?_) | (guard_target = Arith _ _ _; refine Arith.fit (by decide) ?_) | (guard_target = Index _ _ _; first | refine Index.mk _ (set_get (by rw [List.length_map]; exact hpl)) ?_ | refine Index.mk _ (idx_getD (d := n0) (i := i) (by omega)) ?_ | refine Index.mk _ (idx_map (by omega)) ?_) | (guard_target = Need (_ = true) _; refine Need.mk (by first | kernel_rfl | rfl) ?_) | (guard_target = LinkV _ _ _; first | refine LinkV.row 4 rfl ?_ | refine LinkV.orow 4 rfl ?_ | refine LinkV.no ?_) | (guard_target = Need _ _; refine Need.mk (by first | ((simp only [List.length_set, List.length_map]; omega)) | omega | (simp only [List.length_map]; omega)) ?_))
  all_goals (conv => whnf)
  all_goals (have hid : e.a + ((((a.servers.map softS).set e.a.toNat (splice (softS (a.servers.getD e.a.toNat s00)) 1 [CV.val v])).length : Nat) : Int) * c = newId a e.a := (by rw [List.length_set, List.length_map]; have h9 := ha.2; rw [List.take_of_length_le (by omega)] at h9; rw [h9]; rfl); refine GhO.go ?_)
  repeat' ((conv => whnf); first | (guard_target =~ RetX (I 3 = _) _; have hd : doPut a e = (3, a) := put_3 (by assumption) (by assumption) (by rw [← hvb]; assumption) (by first | exact .inl (by assumption) | exact .inr (.inl (by rw [← hid]; assumption)) | exact .inr (.inr (by rw [← hid]; exact decide_eq_true (by assumption)))); rw [hd]; exact RetX.mk rfl ⟨rfl, trivial⟩) | (guard_target = Done _; refine Done.mk ?_) | (guard_target = RetX _ _; refine RetX.mk ?_ ?_) | (guard_target = Fact _ _; refine Fact.mk fun hL => ?_; (try simp only [List.length_map, maxLen] at hL)) | (guard_target = Branch _ _ _; (first | apply Branch.dec | apply Branch.beq | apply Branch.bne | apply Branch.ndec | apply Branch.nb | apply Branch.mk) <;> intro h <;> (try simp only [List.length_map] at h) <;> (try omega) <;> (try contradiction)) | (guard_target = CallN _ 163 _ _ _ _; refine CallN.gen [true] _ _ _ rfl (allNotes_soft a hw) rfl rfl _ rfl ?_) | (guard_target = CallN _ 83 _ _ _ _; refine CallN.pure _ _ rfl (find_ok (allN a) false _) rfl _ rfl ?_) | (guard_target = Gh _ _ _ _ _; refine Gh.go ?_) | (guard_target = Arith _ _ _; refine Arith.fit (by apply wrap_fit <;> first | omega | (simp only [List.length_map]; omega)) ?_) | (guard_target = Arith _ _ _; refine Arith.fit (by decide) ?_) | (guard_target = Index _ _ _; first  | refine Index.mk _ (idx_map (by omega)) ?_) | (guard_target = Need (_ = true) _; refine Need.mk (by first | kernel_rfl | rfl) ?_) | (guard_target = LinkV _ _ _; refine LinkV.no ?_) | (guard_target = Need _ _; refine Need.mk (by first  | omega | (simp only [List.length_map]; omega)) ?_))
  all_goals (conv => whnf)
  all_goals refine GhO.opens 0 e.a.toNat 1 rfl (idx_getD (d := s00) hpl) rfl fun v => GhO.go ?_
  repeat' ((conv => whnf); first | (guard_target =~ RetX (I 0 = _) _; have hd : doPut a e = (0, setS a e.a (addN (sA a e.a) (putN a e))) := put_0 (by assumption) (by assumption) (by rw [← hvb]; assumption) (by assumption) (by rw [← hid]; assumption) (by rw [← hid]; exact decide_eq_false (by assumption)); rw [hd]; exact RetX.mk rfl ⟨congrArg (FA a) (set_upd (s := addN (sA a e.a) (putN a e)) (by simp only [softS, List.map_append]; unfold putN; rw [← hid]; rfl)), trivial⟩) | (guard_target = Done _; refine Done.mk ?_) | (guard_target = RetX _ _; refine RetX.mk ?_ ?_) | (guard_target = Fact _ _; refine Fact.mk fun hL => ?_; (try simp only [List.length_map, maxLen] at hL)) | (guard_target = Branch _ _ _; (first | apply Branch.dec | apply Branch.beq | apply Branch.bne | apply Branch.ndec | apply Branch.nb | apply Branch.mk) <;> intro h <;> (try simp only [List.length_map] at h) <;> (try omega) <;> (try contradiction)) | (guard_target = CallN _ 165 _ _ _ _; refine CallN.gen [] _ _ _ rfl (copyNote_soft ⟨false, _, ⟨_, e.rests, e.proof⟩⟩ (hbn _ _)) rfl rfl _ rfl ?_) | (guard_target = Gh _ _ _ _ _; refine Gh.go ?_) | (guard_target = Arith _ _ _; refine Arith.fit (by apply wrap_fit <;> first | omega | (simp only [List.length_map]; omega)) ?_) | (guard_target = Arith _ _ _; refine Arith.fit (by decide) ?_) | (guard_target = Index _ _ _; first | refine Index.mk _ (set_get (by rw [List.length_map]; exact hpl)) ?_ | refine Index.mk _ (idx_map (by omega)) ?_) | (guard_target = Need (_ = true) _; refine Need.mk (by first | kernel_rfl | rfl) ?_) | (guard_target = LinkV _ _ _; first | refine LinkV.row 4 rfl ?_ | refine LinkV.orow 4 rfl ?_ | refine LinkV.row 5 rfl ?_ | refine LinkV.orow 5 rfl ?_ | refine LinkV.row 6 rfl ?_ | refine LinkV.orow 6 rfl ?_ | refine LinkV.row 7 rfl ?_ | refine LinkV.orow 7 rfl ?_ | refine LinkV.row 8 rfl ?_ | refine LinkV.orow 8 rfl ?_ | refine LinkV.row 9 rfl ?_ | refine LinkV.orow 9 rfl ?_ | refine LinkV.row 10 rfl ?_ | refine LinkV.orow 10 rfl ?_ | refine LinkV.no ?_) | (guard_target = GhO _ _ _ _; refine GhO.go ?_) | (guard_target = Need _ _; refine Need.mk (by first | ((simp only [List.length_set, List.length_map]; omega)) | ((simp only [List.length_cons, List.length_nil, List.length_map, maxLen]; constructor <;> omega)) | omega | (simp only [List.length_map]; omega)) ?_))
  all_goals (try (conv => whnf))
end Go.Proofs.YthgajpkahkhlpaaGreat
