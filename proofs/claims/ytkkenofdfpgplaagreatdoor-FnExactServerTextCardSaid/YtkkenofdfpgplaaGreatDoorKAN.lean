/- Contracts of the functions that look whether archives are valid. No conditions. -/
import Derived.Test.YtkkenofdfpgplaaGreatDoorKAM
namespace Go.Proofs.YtkkenofdfpgplaaGreatDoor
open Go Go.KA Go.Proofs
set_option maxHeartbeats 16000000
set_option maxRecDepth 100000
noncomputable def cdec (P : Prop) : Bool := @decide P (Classical.propDecidable _)
theorem cdec_yes {P : Prop} (h : P) : cdec P = true := @decide_eq_true P (Classical.propDecidable _) h
theorem cdec_no {P : Prop} (h : ¬ P) : cdec P = false := @decide_eq_false P (Classical.propDecidable _) h
theorem cdec_of {P : Prop} (h : cdec P = true) : P := @of_decide_eq_true P (Classical.propDecidable _) h
def Alike (x y : XNote) : Prop := x.id = y.id → x.revoke = false → y.revoke = false → x.entry = y.entry
theorem Alike.symm {x y : XNote} (h : Alike x y) : Alike y x := fun h1 h2 h3 => (h h1.symm h3 h2).symm
theorem Alike.refl (x : XNote) : Alike x x := fun _ _ _ => rfl
def Agree (l : List XNote) : Prop := ∀ x ∈ l, ∀ y ∈ l, Alike x y
theorem Agree.nil : Agree [] := by simp [Agree]
theorem Agree.next {l : List XNote} {i : Nat} (h : i < l.length) (h1 : Agree (l.take i)) (h2 : ∀ y ∈ l.take i, Alike l[i] y) : Agree (l.take (i + 1)) := by
  rw [List.take_add_one, List.getElem?_eq_getElem h]
  intro x hx y hy
  simp only [Option.toList_some, List.mem_append, List.mem_singleton] at hx hy
  rcases hx with hx | rfl <;> rcases hy with hy | rfl
  · exact h1 x hx y hy
  · exact (h2 x hx).symm
  · exact h2 y hy
  · exact .refl _
theorem l08Agree_ok (l : List XNote) : CallF Tryz.prog 49 [.c (.ro 7 (l.map encNote))] (B (cdec (Agree l))) := by
  have hno : ∀ i k (hi : i < l.length) (hk : k < l.length), l[i].id = l[k].id → l[i].revoke = false → l[k].revoke = false → ¬ l[i] = l[k] → ¬ Agree l := by
    intro i k hi hk h1 h2 h3 h4 hA
    have := hA _ (List.getElem_mem hi) _ (List.getElem_mem hk) h1 h2 h3
    refine h4 ?_
    generalize l[i] = x at *
    generalize l[k] = y at *
    cases x; cases y
    simp_all
  refine callF_of_vc htb hm Tryz.func49 rfl rfl rfl rfl (ann := fun _ => none) (gh := fun _ => false) ?_
  repeat' ((conv => whnf); first | (guard_target = Done _; refine Done.mk ?_; first | (exact no_of (cdec_no (hno i k (by omega) (by omega) (by assumption) (by assumption) (by assumption) h)); done) | (exact yes_of (cdec_yes (by have := (‹i ≤ l.length ∧ Agree _›).2; rwa [List.take_of_length_le (by omega)] at this)); done) | skip) | (guard_target = RetX _ _; refine RetX.mk ?_ ?_) | (guard_target =~ LoopE 2 _ _ _ _ _ _; refine LoopE.mk { α := Nat, keep := [0], ov := fun i => [(3, I i)], φ := fun i => i ≤ l.length ∧ Agree (l.take i), μ := fun i => l.length - i } (LoopN.mk (0 : Nat) (by exact ⟨Nat.zero_le _, Agree.nil⟩) (by (repeat' ((conv => whnf) <;> (first | exact trivial | refine ⟨?_, ?_⟩ | kernel_rfl))); done) (by (repeat' ((conv => whnf) <;> (first | exact trivial | refine ⟨?_, ?_⟩ | kernel_rfl))); done) (by (repeat' ((conv => whnf) <;> (first | exact trivial | refine ⟨?_, ?_⟩ | exact rfl | (simp only [List.map_append, List.map_cons, List.map_nil, List.map_set]; first | done | rfl)))); done) (fun (i : Nat) ha => ?_) (by intro A; first | rfl | (obtain ⟨_, _⟩ := A; rfl) | (obtain ⟨_, _, _⟩ := A; rfl))); have ha : i ≤ l.length ∧ Agree (l.take i) := ha) | (guard_target =~ LoopE 5 _ _ _ _ _ _; refine LoopE.mk { α := Nat, keep := [0, 3], ov := fun k => [(4, I k)], φ := fun k => k ≤ i ∧ ∀ j (hj : j < l.length) (hi : i < l.length), j < k → Alike l[i] l[j], μ := fun k => i - k } (LoopN.mk (0 : Nat) (by exact ⟨Nat.zero_le _, fun j _ _ hj => by omega⟩) (by (repeat' ((conv => whnf) <;> (first | exact trivial | refine ⟨?_, ?_⟩ | kernel_rfl))); done) (by (repeat' ((conv => whnf) <;> (first | exact trivial | refine ⟨?_, ?_⟩ | kernel_rfl))); done) (by (repeat' ((conv => whnf) <;> (first | exact trivial | refine ⟨?_, ?_⟩ | exact rfl | (simp only [List.map_append, List.map_cons, List.map_nil, List.map_set]; first | done | rfl)))); done) (fun (k : Nat) ha => ?_) (by intro A; first | rfl | (obtain ⟨_, _⟩ := A; rfl) | (obtain ⟨_, _, _⟩ := A; rfl))); have ha : k ≤ i ∧ ∀ j (hj : j < l.length) (hi : i < l.length), j < k → Alike l[i] l[j] := ha) | (guard_target = Gh _ _ _ _ _; refine Gh.go ⟨(k + 1 : Nat), (by (refine ⟨by show k + 1 ≤ _; omega, fun j hj hi hjk => ?_⟩; rcases Nat.lt_succ_iff_lt_or_eq.1 hjk with hjk | rfl; exact ha.2 j hj hi hjk; intro a1 a2 a3; simp_all)), (by first | (show _ < _; simp only []; omega) | omega | (simp; omega)), (by (repeat' ((conv => whnf) <;> (first | exact trivial | refine ⟨?_, ?_⟩ | kernel_rfl))); done), (by (repeat' ((conv => whnf) <;> (first | exact trivial | refine ⟨?_, ?_⟩ | kernel_rfl))); done), (by (repeat' ((conv => whnf) <;> (first | exact trivial | refine ⟨?_, ?_⟩ | exact rfl | (simp only [List.map_append, List.map_cons, List.map_nil, List.map_set]; first | done | rfl)))); done)⟩) | (guard_target = Gh _ _ _ _ _; refine Gh.go ⟨(i + 1 : Nat), (by (have hi : i < l.length := (by omega); refine ⟨hi, Agree.next hi (‹i ≤ l.length ∧ Agree _›).2 fun y hy => ?_⟩; obtain ⟨j, hj, e⟩ := List.mem_iff_getElem.1 hy; rw [List.length_take] at hj; rw [List.getElem_take] at e; rw [← e]; exact ha.2 j (by omega) hi (by omega))), (by first | (show _ < _; simp only []; omega) | omega | (simp; omega)), (by (repeat' ((conv => whnf) <;> (first | exact trivial | refine ⟨?_, ?_⟩ | kernel_rfl))); done), (by (repeat' ((conv => whnf) <;> (first | exact trivial | refine ⟨?_, ?_⟩ | kernel_rfl))); done), (by (repeat' ((conv => whnf) <;> (first | exact trivial | refine ⟨?_, ?_⟩ | exact rfl | (simp only [List.map_append, List.map_cons, List.map_nil, List.map_set]; first | done | rfl)))); done)⟩) | (guard_target = Fact _ _; refine Fact.mk fun hL => ?_; (try simp only [List.length_map, maxLen] at hL)) | (guard_target = Branch _ _ _; (first | refine Branch.dec ?_ ?_ | refine Branch.beq ?_ ?_ | refine Branch.bne ?_ ?_ | refine Branch.ndec ?_ ?_ | refine Branch.nb ?_ ?_ | refine Branch.mk ?_ ?_) <;> intro h <;> (try simp only [List.length_map] at h) <;> (try omega) <;> (try contradiction)) | (guard_target = CallN _ 67 _ _ _ _; refine CallN.pure _ _ rfl (l08Same_ok _ _) rfl _ rfl ?_) | (guard_target = Arith _ _ _; refine Arith.fit (wrap_fit (by first | omega | (simp only [List.length_map]; omega)) (by first | omega | (simp only [List.length_map]; omega))) ?_) | (guard_target = Arith _ _ _; refine Arith.fit (by decide) ?_) | (guard_target = Index _ _ _; first | refine Index.mk _ (idx_map (i := i) (by omega)) ?_ | refine Index.mk _ (idx_map (i := k) (by omega)) ?_ | refine Index.mk _ (idx_map (by omega)) ?_) | (guard_target = Need (_ = true) _; refine Need.mk (by first | kernel_rfl | rfl) ?_) | (guard_target = LinkV _ _ _; first  | refine LinkV.no ?_) | (guard_target = GhO _ _ _ _; refine GhO.go ?_) | (guard_target = Need _ _; refine Need.mk (by first  | omega | (simp only [List.length_map]; omega)) ?_))
/-! ### archives -/
abbrev s00 : XServer := ⟨false, [], 0⟩
def goodPkt (t a : Int) (n : Int) (p : XPacket) : Bool := rng 0 (n - 1) p.to0 && goodNote t a p.note
noncomputable def goodArch (a : XArchive) : Bool :=
  goodSig a.sig.tests a.sig.actions && (rng 1 5 a.servers.length && (decide ((a.flying.length : Int) ≤ 12) && (a.servers.all (goodServer a.sig.tests a.sig.actions) && (a.flying.all (goodPkt a.sig.tests a.sig.actions a.servers.length) && cdec (Agree (allN a))))))
abbrev mE (q : Int × XEntry) : Value × SV := (.int .i64 q.1, .a 5 (encEntry q.2))
theorem kget (l : List (Int × XEntry)) (id : Int) : (∃ (j : Nat) (e : XEntry), l[j]? = some (id, e)) ∨ ∀ q ∈ l, q.1 ≠ id := by
  by_cases h : ∃ q ∈ l, q.1 = id
  · obtain ⟨q, hq, rfl⟩ := h
    obtain ⟨j, hj, e⟩ := List.mem_iff_getElem.1 hq
    exact .inl ⟨j, q.2, by rw [List.getElem?_eq_getElem hj, e]⟩
  · exact .inr fun q hq e => h ⟨q, hq, e⟩
theorem kmiss {l : List (Int × XEntry)} {id : Int} (h : ∀ q ∈ l, q.1 ≠ id) : ∀ p ∈ l.map mE, p.1 ≠ .int .i64 id := by
  intro p hp e
  obtain ⟨q, hq, rfl⟩ := List.mem_map.1 hp
  simp at e
  exact h q hq e
theorem khit {l : List (Int × XEntry)} {id : Int} {j : Nat} {e : XEntry} (h : l[j]? = some (id, e)) : (l.map mE)[j]? = some (.int .i64 id, .a 5 (encEntry e)) := by
  rw [List.getElem?_map, h]
  rfl
theorem _root_.Go.KA.MapPut.same {es : List (Value × SV)} {k : Value} {v : SV} {K : List (Value × SV) → Prop} (j : Nat) (h : es[j]? = some (k, v)) (g : K es) : MapPut es k v K := by
  refine MapPut.old j v h ?_
  obtain ⟨hj, e⟩ := List.getElem?_eq_some_iff.1 h
  have : es.set j (k, v) = es := by
    rw [← e]
    exact List.set_getElem_self hj
  rw [this]
  exact g
theorem _root_.Go.KA.MapPut.more {α : Type} {f : α → Value × SV} {l : List α} {k : Value} {v : SV} {K : List (Value × SV) → Prop} (q : α) (hq : f q = (k, v)) (h : ∀ p ∈ l.map f, p.1 ≠ k) (g : K ((l ++ [q]).map f)) : MapPut (l.map f) k v K := by
  refine MapPut.new h ?_
  rw [← hq]
  simpa using g
structure Kept (l : List XNote) (i : Nat) (K : List (Int × XEntry)) : Prop where
  lt : i ≤ l.length
  mem : ∀ q ∈ K, ∃ x ∈ l.take i, x.revoke = false ∧ x.id = q.1 ∧ x.entry = q.2
  all : ∀ x ∈ l.take i, x.revoke = false → (x.id, x.entry) ∈ K
  agree : Agree (l.take i)
theorem Kept.zero (l : List XNote) : Kept l 0 [] := ⟨Nat.zero_le _, by simp, by simp, by simpa using Agree.nil⟩
theorem take_mem {α : Type} {l : List α} {i : Nat} (h : i < l.length) {x : α} (hx : x ∈ l.take (i + 1)) : x ∈ l.take i ∨ x = l[i] := by
  rw [List.take_add_one, List.getElem?_eq_getElem h] at hx
  rcases List.mem_append.1 hx with hx | hx
  · exact .inl hx
  · exact .inr (List.mem_singleton.1 hx)
theorem take_mono {α : Type} {l : List α} {i : Nat} (h : i < l.length) {x : α} (hx : x ∈ l.take i ∨ x = l[i]) : x ∈ l.take (i + 1) := by
  rw [List.take_add_one, List.getElem?_eq_getElem h]
  exact List.mem_append.2 (hx.imp id fun e => List.mem_singleton.2 e)
theorem Kept.skip {l : List XNote} {i : Nat} {K : List (Int × XEntry)} (hK : Kept l i K) (h : i < l.length) (hr : l[i].revoke = true) : Kept l (i + 1) K := by
  refine ⟨h, fun q hq => ?_, fun x hx hx0 => ?_, Agree.next h hK.agree fun y hy => ?_⟩
  · obtain ⟨x, h1, h2⟩ := hK.mem q hq
    exact ⟨x, take_mono h (.inl h1), h2⟩
  · rcases take_mem h hx with hx | rfl
    · exact hK.all x hx hx0
    · rw [hr] at hx0; cases hx0
  · intro _ h2; rw [hr] at h2; cases h2
theorem Kept.old {l : List XNote} {i j : Nat} {K : List (Int × XEntry)} (hK : Kept l i K) (h : i < l.length) (_hr : l[i].revoke = false) (hj : K[j]? = some (l[i].id, l[i].entry)) : Kept l (i + 1) K := by
  refine ⟨h, fun q hq => ?_, fun x hx hx0 => ?_, Agree.next h hK.agree fun y hy h1 h2 h3 => ?_⟩
  · obtain ⟨x, h1, h2⟩ := hK.mem q hq
    exact ⟨x, take_mono h (.inl h1), h2⟩
  · rcases take_mem h hx with hx | rfl
    · exact hK.all x hx hx0
    · exact List.mem_of_getElem? hj
  · obtain ⟨x, g1, g2, g3, g4⟩ := hK.mem _ (List.mem_of_getElem? hj)
    dsimp only at g3 g4
    rw [← g4]
    exact hK.agree x g1 y hy (g3.trans h1) g2 h3
theorem Kept.new {l : List XNote} {i : Nat} {K : List (Int × XEntry)} (hK : Kept l i K) (h : i < l.length) (hr : l[i].revoke = false) (hm : ∀ q ∈ K, q.1 ≠ l[i].id) : Kept l (i + 1) (K ++ [(l[i].id, l[i].entry)]) := by
  refine ⟨h, fun q hq => ?_, fun x hx hx0 => ?_, Agree.next h hK.agree fun y hy h1 h2 h3 => ?_⟩
  · rcases List.mem_append.1 hq with hq | hq
    · obtain ⟨x, h1, h2⟩ := hK.mem q hq
      exact ⟨x, take_mono h (.inl h1), h2⟩
    · have hq := List.mem_singleton.1 hq
      subst hq
      exact ⟨l[i], take_mono h (.inr rfl), hr, rfl, rfl⟩
  · rcases take_mem h hx with hx | rfl
    · exact List.mem_append.2 (.inl (hK.all x hx hx0))
    · simp
  · exact absurd h1.symm (hm _ (hK.all y hy h3))
theorem Kept.bad {l : List XNote} {i j : Nat} {K : List (Int × XEntry)} {e : XEntry} (hK : Kept l i K) (h : i < l.length) (hr : l[i].revoke = false) (hj : K[j]? = some (l[i].id, e)) (hne : ¬ e = l[i].entry) : ¬ Agree l := by
  intro hA
  obtain ⟨x, g1, g2, g3, g4⟩ := hK.mem _ (List.mem_of_getElem? hj)
  dsimp only at g3 g4
  exact hne (by rw [← g4]; exact hA x (List.mem_of_mem_take g1) _ (List.getElem_mem h) g3 g2 hr)
theorem Kept.done {l : List XNote} {i : Nat} {K : List (Int × XEntry)} (hK : Kept l i K) (h : ¬ i < l.length) : Agree l := by
  have := hK.agree
  rwa [List.take_of_length_le (by omega)] at this
theorem Kept.skip' {l : List XNote} {i : Nat} {K : List (Int × XEntry)} (hK : Kept l i K) (h : i < l.length) (hr : (l.getD i n0).revoke = true) : Kept l (i + 1) K := hK.skip h (by rwa [getD_eq h] at hr)
theorem Kept.old' {l : List XNote} {i j : Nat} {K : List (Int × XEntry)} (hK : Kept l i K) (h : i < l.length) (hr : (l.getD i n0).revoke = false) (hj : K[j]? = some ((l.getD i n0).id, (l.getD i n0).entry)) : Kept l (i + 1) K := by
  rw [getD_eq h] at hr hj
  exact hK.old h hr hj
theorem Kept.new' {l : List XNote} {i : Nat} {K : List (Int × XEntry)} (hK : Kept l i K) (h : i < l.length) (hr : (l.getD i n0).revoke = false) (hm : ∀ q ∈ K, q.1 ≠ (l.getD i n0).id) : Kept l (i + 1) (K ++ [((l.getD i n0).id, (l.getD i n0).entry)]) := by
  rw [getD_eq h] at hr hm ⊢
  exact hK.new h hr hm
theorem Kept.bad' {l : List XNote} {i j : Nat} {K : List (Int × XEntry)} {e : XEntry} (hK : Kept l i K) (h : i < l.length) (hr : (l.getD i n0).revoke = false) (hj : K[j]? = some ((l.getD i n0).id, e)) (hne : ¬ e = (l.getD i n0).entry) : ¬ Agree l := by
  rw [getD_eq h] at hr hj hne
  exact hK.bad h hr hj hne
abbrev GA (a : XArchive) : Prop := goodSig a.sig.tests a.sig.actions = true ∧ rng 1 5 a.servers.length = true ∧ (a.flying.length : Int) ≤ 12 ∧ a.servers.all (goodServer a.sig.tests a.sig.actions) = true ∧ a.flying.all (goodPkt a.sig.tests a.sig.actions a.servers.length) = true ∧ Agree (allN a)
theorem arch_iff (a : XArchive) : goodArch a = true ↔ GA a := by
  unfold goodArch
  simp only [Bool.and_eq_true, decide_eq_true_eq]
  constructor
  · rintro ⟨h1, h2, h3, h4, h5, h6⟩; exact ⟨h1, h2, h3, h4, h5, cdec_of h6⟩
  · rintro ⟨h1, h2, h3, h4, h5, h6⟩; exact ⟨h1, h2, h3, h4, h5, cdec_yes h6⟩
theorem arch_no {a : XArchive} (h : ¬ GA a) : goodArch a = false := by
  cases hb : goodArch a with
  | false => rfl
  | true => exact absurd ((arch_iff a).1 hb) h
abbrev p00 : XPacket := ⟨0, n0⟩
theorem pkt_no {t a n : Int} {l : List XPacket} {k : Nat} (hk : k < l.length) (h : rng 0 (n - 1) (l.getD k p00).to0 = false ∨ goodNote t a (l.getD k p00).note = false) : goodPkt t a n l[k] = false := by
  rw [getD_eq hk] at h
  unfold goodPkt
  rcases h with h | h <;> rw [h]
  · rfl
  · rw [Bool.and_false]
theorem pkt_yes {t a n : Int} {l : List XPacket} {k : Nat} (hk : k < l.length) (h1 : rng 0 (n - 1) (l.getD k p00).to0 = true) (h2 : goodNote t a (l.getD k p00).note = true) : goodPkt t a n l[k] = true := by
  rw [getD_eq hk] at h1 h2
  unfold goodPkt
  rw [h1, h2]
  rfl
theorem ValidArchive_ok (a : XArchive) (hl : budArchive a ≤ 1048576) : CallF Tryz.prog 36 [.a 4 (encArchive a)] (B (goodArch a)) := by
  have hsb : ∀ i (h : i < a.servers.length), budServer a.servers[i] ≤ 1048576 := fun i h => by
    have := budS_mem budServer (List.getElem_mem h)
    simp only [budArchive] at hl
    omega
  have hpb : ∀ i (h : i < a.flying.length), budNote (a.flying.getD i p00).note ≤ 1048576 := fun i h => by
    rw [getD_eq h]
    have := budS_mem budPacket (List.getElem_mem h)
    simp only [budArchive, budPacket] at hl this
    omega
  have hal := allNotes_ok a hl
  generalize hal' : allN a = L at hal
  refine callF_of_vc htb hm Tryz.func36 rfl rfl rfl rfl (ann := fun _ => none) (gh := fun _ => false) ?_
  repeat' ((conv => whnf); first | (guard_target = Done _; refine Done.mk ?_; first | ((refine no_of (arch_no ?_); rintro ⟨g1, g2, g3, g4, g5, g6⟩; first | omega | (rw [g1] at h; cases h; done) | (rw [g2] at h; cases h; done) | (rw [all_stop (i := i) (by omega) h] at g4; cases g4; done) | (rw [all_stop (i := k) (by omega) (pkt_no (by omega) (.inl h))] at g5; cases g5; done) | (rw [all_stop (i := k) (by omega) (pkt_no (by omega) (.inr h))] at g5; cases g5; done) | (rw [hal'] at g6; exact Kept.bad' ha (by omega) (by assumption) hj h g6)); done) | ((refine yes_of ((arch_iff a).2 ⟨by assumption, by assumption, by omega, all_end (by omega) (by assumption), all_end (by omega) (by assumption), by rw [hal']; exact Kept.done ha (by omega)⟩)); done) | skip) | (guard_target = RetX _ _; refine RetX.mk ?_ ?_) | (guard_target =~ LoopE 5 _ _ _ _ _ _; refine LoopE.mk { α := Nat, keep := [1, 3, 32, 33], ov := fun i => [(34, I i)], φ := fun i => i ≤ a.servers.length ∧ (a.servers.take i).all (goodServer a.sig.tests a.sig.actions) = true, μ := fun i => a.servers.length - i } (LoopN.mk (0 : Nat) (by exact ⟨Nat.zero_le _, rfl⟩) (by (repeat' ((conv => whnf) <;> (first | exact trivial | refine ⟨?_, ?_⟩ | kernel_rfl))); done) (by (repeat' ((conv => whnf) <;> (first | exact trivial | refine ⟨?_, ?_⟩ | kernel_rfl))); done) (by (repeat' ((conv => whnf) <;> (first | exact trivial | refine ⟨?_, ?_⟩ | exact rfl | (simp only [List.map_append, List.map_cons, List.map_nil, List.map_set]; first | done | rfl)))); done) (fun (i : Nat) ha => ?_) (by intro A; first | rfl | (obtain ⟨_, _⟩ := A; rfl) | (obtain ⟨_, _, _⟩ := A; rfl))); have ha : i ≤ a.servers.length ∧ (a.servers.take i).all (goodServer a.sig.tests a.sig.actions) = true := ha) | (guard_target =~ LoopE 11 _ _ _ _ _ _; refine LoopE.mk { α := Nat, keep := [1, 3, 45, 46], ov := fun k => [(47, I k)], φ := fun k => k ≤ a.flying.length ∧ (a.flying.take k).all (goodPkt a.sig.tests a.sig.actions a.servers.length) = true, μ := fun k => a.flying.length - k } (LoopN.mk (0 : Nat) (by exact ⟨Nat.zero_le _, rfl⟩) (by (repeat' ((conv => whnf) <;> (first | exact trivial | refine ⟨?_, ?_⟩ | kernel_rfl))); done) (by (repeat' ((conv => whnf) <;> (first | exact trivial | refine ⟨?_, ?_⟩ | kernel_rfl))); done) (by (repeat' ((conv => whnf) <;> (first | exact trivial | refine ⟨?_, ?_⟩ | exact rfl | (simp only [List.map_append, List.map_cons, List.map_nil, List.map_set]; first | done | rfl)))); done) (fun (k : Nat) ha => ?_) (by intro A; first | rfl | (obtain ⟨_, _⟩ := A; rfl) | (obtain ⟨_, _, _⟩ := A; rfl))); have ha : k ≤ a.flying.length ∧ (a.flying.take k).all (goodPkt a.sig.tests a.sig.actions a.servers.length) = true := ha) | (guard_target =~ LoopE 18 _ _ _ _ _ _; refine LoopE.mk { α := Nat × List (Int × XEntry), keep := [8, 68, 69], ov := fun ⟨m, K⟩ => [(70, I m)], hv := fun ⟨m, K⟩ => [(1, .mmap (some .i64) (K.map mE))], φ := fun ⟨m, K⟩ => Kept L m K, μ := fun ⟨m, K⟩ => L.length - m } (LoopN.mk ((0, []) : Nat × List (Int × XEntry)) (by exact Kept.zero _) (by (repeat' ((conv => whnf) <;> (first | exact trivial | refine ⟨?_, ?_⟩ | kernel_rfl))); done) (by (repeat' ((conv => whnf) <;> (first | exact trivial | refine ⟨?_, ?_⟩ | kernel_rfl))); done) (by (repeat' ((conv => whnf) <;> (first | exact trivial | refine ⟨?_, ?_⟩ | exact rfl | (simp only [List.map_append, List.map_cons, List.map_nil, List.map_set]; first | done | rfl)))); done) (fun A ha => ?_) (by intro A; first | rfl | (obtain ⟨_, _⟩ := A; rfl) | (obtain ⟨_, _, _⟩ := A; rfl))); obtain ⟨m, K⟩ := A; have ha : Kept L m K := ha) | (guard_target = Gh _ _ _ _ _; refine Gh.go ⟨(i + 1 : Nat), (by exact all_go (by omega) ha h), (by first | (show _ < _; simp only []; omega) | omega | (simp; omega)), (by (repeat' ((conv => whnf) <;> (first | exact trivial | refine ⟨?_, ?_⟩ | kernel_rfl))); done), (by (repeat' ((conv => whnf) <;> (first | exact trivial | refine ⟨?_, ?_⟩ | kernel_rfl))); done), (by (repeat' ((conv => whnf) <;> (first | exact trivial | refine ⟨?_, ?_⟩ | exact rfl | (simp only [List.map_append, List.map_cons, List.map_nil, List.map_set]; first | done | rfl)))); done)⟩) | (guard_target = Gh _ _ _ _ _; refine Gh.go ⟨(k + 1 : Nat), (by exact all_go (by omega) ha (pkt_yes (by omega) (by assumption) h)), (by first | (show _ < _; simp only []; omega) | omega | (simp; omega)), (by (repeat' ((conv => whnf) <;> (first | exact trivial | refine ⟨?_, ?_⟩ | kernel_rfl))); done), (by (repeat' ((conv => whnf) <;> (first | exact trivial | refine ⟨?_, ?_⟩ | kernel_rfl))); done), (by (repeat' ((conv => whnf) <;> (first | exact trivial | refine ⟨?_, ?_⟩ | exact rfl | (simp only [List.map_append, List.map_cons, List.map_nil, List.map_set]; first | done | rfl)))); done)⟩) | (guard_target = Gh _ _ _ _ _; refine Gh.go ⟨((m + 1, K) : Nat × List (Int × XEntry)), (by exact Kept.skip' ha (by omega) (by assumption)), (by first | (show _ < _; simp only []; omega) | omega | (simp; omega)), (by (repeat' ((conv => whnf) <;> (first | exact trivial | refine ⟨?_, ?_⟩ | kernel_rfl))); done), (by (repeat' ((conv => whnf) <;> (first | exact trivial | refine ⟨?_, ?_⟩ | kernel_rfl))); done), (by (repeat' ((conv => whnf) <;> (first | exact trivial | refine ⟨?_, ?_⟩ | exact rfl | (simp only [List.map_append, List.map_cons, List.map_nil, List.map_set]; first | done | rfl)))); done)⟩) | (guard_target = Gh _ _ _ _ _; refine Gh.go ⟨((m + 1, K) : Nat × List (Int × XEntry)), (by exact Kept.old' ha (by omega) (by assumption) hj), (by first | (show _ < _; simp only []; omega) | omega | (simp; omega)), (by (repeat' ((conv => whnf) <;> (first | exact trivial | refine ⟨?_, ?_⟩ | kernel_rfl))); done), (by (repeat' ((conv => whnf) <;> (first | exact trivial | refine ⟨?_, ?_⟩ | kernel_rfl))); done), (by (repeat' ((conv => whnf) <;> (first | exact trivial | refine ⟨?_, ?_⟩ | exact rfl | (simp only [List.map_append, List.map_cons, List.map_nil, List.map_set]; first | done | rfl)))); done)⟩) | (guard_target = Gh _ _ _ _ _; refine Gh.go ⟨((m + 1, K ++ [((L.getD m n0).id, (L.getD m n0).entry)]) : Nat × List (Int × XEntry)), (by exact Kept.new' ha (by omega) (by assumption) hmiss), (by first | (show _ < _; simp only []; omega) | omega | (simp; omega)), (by (repeat' ((conv => whnf) <;> (first | exact trivial | refine ⟨?_, ?_⟩ | kernel_rfl))); done), (by (repeat' ((conv => whnf) <;> (first | exact trivial | refine ⟨?_, ?_⟩ | kernel_rfl))); done), (by (repeat' ((conv => whnf) <;> (first | exact trivial | refine ⟨?_, ?_⟩ | exact rfl | (simp only [List.map_append, List.map_cons, List.map_nil, List.map_set]; first | done | rfl)))); done)⟩) | (guard_target = Fact _ _; refine Fact.mk fun hL => ?_; (try simp only [List.length_map, maxLen] at hL)) | (guard_target = Branch _ _ _; (first | refine Branch.dec ?_ ?_ | refine Branch.beq ?_ ?_ | refine Branch.bne ?_ ?_ | refine Branch.ndec ?_ ?_ | refine Branch.nb ?_ ?_ | refine Branch.mk ?_ ?_) <;> intro h <;> (try simp only [List.length_map] at h) <;> (try omega) <;> (try contradiction)) | (guard_target = CallN _ 52 _ _ _ _; refine CallN.pure _ _ rfl (validSig_ok _ _) rfl _ rfl ?_) | (guard_target = CallN _ 38 _ _ _ _; refine CallN.pure _ _ rfl (within_ok _ _ _) rfl _ rfl ?_) | (guard_target = CallN _ 53 _ _ _ _; refine CallN.pure _ _ rfl (isServer_ok _ _ _ (hsb i (by omega))) rfl _ rfl ?_) | (guard_target = CallN _ 54 _ _ _ _; refine CallN.pure _ _ rfl (isNote_ok _ _ _ (hpb k (by omega))) rfl _ rfl ?_) | (guard_target = CallN _ 55 _ _ _ _; refine CallN.gen [] _ _ _ rfl (hal) rfl rfl _ rfl ?_) | (guard_target = CallN _ 56 _ _ _ _; refine CallN.pure _ _ rfl (sameEntry_ok e (L.getD m n0).entry) rfl _ rfl ?_) | (guard_target = MapGet _ _ _; rcases kget K (L.getD m n0).id with ⟨j, e, hj⟩ | hmiss <;> (first | refine MapGet.hit j _ (khit hj) ?_ | refine MapGet.miss (kmiss hmiss) ?_)) | (guard_target = MapPut _ _ _ _; (first | (have h5 : e = (L.getD m n0).entry := (by assumption); rw [h5] at hj; refine MapPut.same j (khit hj) ?_) | refine MapPut.more ((L.getD m n0).id, (L.getD m n0).entry) rfl (kmiss hmiss) ?_)) | (guard_target = Arith _ _ _; refine Arith.fit (wrap_fit (by first | omega | (simp only [List.length_map]; omega)) (by first | omega | (simp only [List.length_map]; omega))) ?_) | (guard_target = Arith _ _ _; refine Arith.fit (by decide) ?_) | (guard_target = Index _ _ _; first | refine Index.mk _ (idx_map (i := i) (by omega)) ?_ | refine Index.mk _ (idx_getD (d := p00) (i := k) (by omega)) ?_ | refine Index.mk _ (idx_getD (d := n0) (i := m) (by omega)) ?_ | refine Index.mk _ (idx_map (by omega)) ?_) | (guard_target = Need (_ = true) _; refine Need.mk (by first | kernel_rfl | rfl) ?_) | (guard_target = LinkV _ _ _; first  | refine LinkV.no ?_) | (guard_target = GhO _ _ _ _; refine GhO.go ?_) | (guard_target = Need _ _; refine Need.mk (by first  | omega | (simp only [List.length_map]; omega)) ?_))
end Go.Proofs.YtkkenofdfpgplaaGreatDoor
