/- The plan of events, as plain functions; contracts of what saves all notes. Conditions: the archive's shape. -/
import Derived.Test.YtmpcfplelpdbhaaGreatWC
import Derived.Test.YtmpcfplelpdbhaaGreatWD
namespace Go.Proofs.YtmpcfplelpdbhaaGreat
open Go Go.KA Go.Proofs
set_option maxHeartbeats 16000000
set_option maxRecDepth 100000
def itN (f : Nat → XSpr → XSpr) : Nat → XSpr → XSpr
  | 0, s => s
  | n + 1, s => f n (itN f n s)
theorem itN_keep {P : XSpr → Prop} {f : Nat → XSpr → XSpr} {m : Nat} (hf : ∀ i, i < m → ∀ s, P s → P (f i s)) : ∀ n, n ≤ m → ∀ {s}, P s → P (itN f n s)
  | 0, _, _, h => h
  | n + 1, hn, _, h => hf n (by omega) _ (itN_keep hf n (by omega) h)
theorem itN_id {f : Nat → XSpr → XSpr} (hf : ∀ i s, f i s = s) : ∀ n s, itN f n s = s
  | 0, _ => rfl
  | n + 1, s => by
    show f n (itN f n s) = s
    rw [hf, itN_id hf n s]
structure WQ (n : Nat) (s : XSpr) : Prop where
  p : WP s
  n : s.a.servers.length = n
theorem WQ.step {n : Nat} {s : XSpr} (h : WQ n s) {e : XEvent} (he : EA e) : WQ n (doP s e) := ⟨h.p.step he, (doP_len s e).trans h.n⟩
def dropP (_ : Nat) (s : XSpr) : XSpr := doP s (evP 6 0 0 0)
def saveP (i : Nat) (s : XSpr) : XSpr := if (s.a.servers.getD i s00).up = true then doP s (evP 7 (i : Nat) 0 0) else s
def sendP (a : XArchive) (i c k : Nat) (s : XSpr) : XSpr :=
  if i = k ∨ (a.servers.getD i s00).up = false ∨ (a.servers.getD k s00).up = false ∨ spotN (s.a.servers.getD k s00).notes ((a.servers.getD i s00).notes.getD c n0).revoke ((a.servers.getD i s00).notes.getD c n0).id ≥ 0 then s
  else doP (doP s (evP 3 (i : Nat) (k : Nat) (c : Nat))) (evP 4 0 0 0)
def sendK (a : XArchive) (i c : Nat) (s : XSpr) : XSpr := itN (sendP a i c) a.servers.length s
def sendC (a : XArchive) (i : Nat) (s : XSpr) : XSpr := itN (sendK a i) (a.servers.getD i s00).notes.length s
def planP (a : XArchive) : XSpr :=
  itN saveP a.servers.length (itN (sendC a) a.servers.length (itN saveP a.servers.length (itN dropP a.flying.length ⟨a, [], true⟩)))
theorem e6 : EA (evP 6 0 0 0) := EA.evP (by omega) (by omega) (by omega)
theorem e4 : EA (evP 4 0 0 0) := EA.evP (by omega) (by omega) (by omega)
theorem e7 {i : Nat} (h : i ≤ 999) : EA (evP 7 (i : Nat) 0 0) := EA.evP (by omega) (by omega) (by omega)
theorem e3 {i k c : Nat} (h : i ≤ 999) (h2 : k ≤ 999) (h3 : c ≤ 999) : EA (evP 3 (i : Nat) (k : Nat) (c : Nat)) := EA.evP (by omega) (by omega) (by omega)
theorem WQ.drop {n i : Nat} {s : XSpr} (h : WQ n s) : WQ n (dropP i s) := h.step e6
theorem WQ.save {n i : Nat} {s : XSpr} (h : WQ n s) (hi : i < n) : WQ n (saveP i s) := by
  have h5 := h.p.w.n5
  have hn := h.n
  unfold saveP
  split
  · exact h.step (e7 (by omega))
  · exact h
theorem WQ.saves {n m : Nat} {s : XSpr} (h : WQ n s) (hm : m ≤ n) : WQ n (itN saveP m s) := itN_keep (P := WQ n) (fun _ hi _ h => h.save hi) m hm h
theorem WQ.sendOne {n i c k : Nat} {a : XArchive} {s : XSpr} (h : WQ n s) (hi : i < n) (hc : c < 20) (hk : k < n) : WQ n (sendP a i c k s) := by
  have h5 := h.p.w.n5
  have hn := h.n
  unfold sendP
  split
  · exact h
  · exact (h.step (e3 (by omega) (by omega) (by omega))).step e4
theorem WQ.sendsP {a : XArchive} {i c m : Nat} {s : XSpr} (h : WQ a.servers.length s) (hi : i < a.servers.length) (hc : c < 20) (hm : m ≤ a.servers.length) : WQ a.servers.length (itN (sendP a i c) m s) :=
  itN_keep (P := WQ a.servers.length) (fun _ hk _ h => h.sendOne hi hc hk) m hm h
theorem WQ.sendsK {a : XArchive} {i m : Nat} {s : XSpr} (h : WQ a.servers.length s) (hi : i < a.servers.length) (hm : m ≤ 20) : WQ a.servers.length (itN (sendK a i) m s) :=
  itN_keep (P := WQ a.servers.length) (m := 20) (fun _ hk _ h => h.sendsP hi hk (Nat.le_refl _)) m hm h
theorem WQ.sendsC {a : XArchive} {m : Nat} {s : XSpr} (hw : WA a) (h : WQ a.servers.length s) (hm : m ≤ a.servers.length) : WQ a.servers.length (itN (sendC a) m s) :=
  itN_keep (P := WQ a.servers.length) (m := a.servers.length) (fun i hk _ h => h.sendsK hk (hw.sv i hk).1) m hm h
theorem sendC_down {a : XArchive} {i : Nat} {s : XSpr} (h : (a.servers.getD i s00).up = false) : sendC a i s = s :=
  itN_id (fun c s => itN_id (fun k s => by unfold sendP; rw [if_pos (.inr (.inl h))]) _ s) _ s
theorem saveP_y {i : Nat} {s : XSpr} (h : (s.a.servers.getD i s00).up = true) : saveP i s = doP s (evP 7 (i : Nat) 0 0) := if_pos h
theorem saveP_n {i : Nat} {s : XSpr} (h : (s.a.servers.getD i s00).up = false) : saveP i s = s := if_neg (by rw [h]; decide)
theorem save_next {i : Nat} {s t : XSpr} (h : t = itN saveP i s) (hu : (t.a.servers.getD i s00).up = true) : doP t (evP 7 (i : Nat) 0 0) = itN saveP (i + 1) s := by
  show _ = saveP i (itN saveP i s)
  rw [← h, saveP_y hu]
theorem save_skip {i : Nat} {s t : XSpr} (h : t = itN saveP i s) (hu : (t.a.servers.getD i s00).up = false) : t = itN saveP (i + 1) s := by
  show _ = saveP i (itN saveP i s)
  rw [← h, saveP_n hu]
section
variable (hv : Value) (n : Nat) (s : XSpr) (hw : WQ n s)
include hw
theorem save_ok : CallX Tryz.prog 69 [.c (.op (softP hv s))] [some [.op (softP hv (itN saveP n s))]] (.tup []) := by
  have h5 : n ≤ 5 := by have := hw.p.w.n5; have := hw.n; omega
  have hn0 := hw.n
  refine callX_of_vc htb hm Tryz.func69 rfl rfl rfl rfl (ann := fun _ => none) (gh := fun reg_ => match reg_ with | 2 => true | 4 => true | _ => false) ?_
  repeat' ((conv => whnf); first | (guard_target = Done _; refine Done.mk ?_) | (guard_target = RetX _ _; refine RetX.mk ?_ ?_) | (guard_target =~ LoopE 1 _ _ _ _ _ _; refine LoopE.mk { α := Nat × XSpr × Bool, keep := [0, 9], ov := fun ⟨i, t, b⟩ => [(10, I (i : Nat)), (8, cond b (.c (.val hv)) (.lw 0))], hv := fun ⟨i, t, b⟩ => [(0, .orow (some hv) 127 3 (t.a.servers.map softS)), (1, .row none 210 8 (t.a.flying.map encPacket)), (2, .orow none 147 9 (t.l.map owsEv)), (3, .cells [.c (J t.a.sig.tests), .c (J t.a.sig.actions), .lw 0, .lw 1, .lw 2, .c (.val (.bool t.ok))])], φ := fun ⟨i, t, b⟩ => i ≤ n ∧ t = itN saveP i s, μ := fun ⟨i, t, b⟩ => n - i } (LoopN.mk ((0, s, false) : Nat × XSpr × Bool) (by exact ⟨Nat.zero_le _, rfl⟩) (by (repeat' first | exact trivial | exact rfl | refine ⟨?_, ?_⟩); done) (by (repeat' first | exact trivial | exact rfl | refine ⟨?_, ?_⟩); done) (by (repeat' first | exact trivial | exact rfl | refine ⟨?_, ?_⟩ | (simp only [List.map_append, List.map_cons, List.map_nil, List.map_set]; first | done | rfl)); done) (fun A ha => ?_) (by intro A; first | rfl | (obtain ⟨_, _⟩ := A; rfl) | (obtain ⟨_, _, _⟩ := A; rfl))); obtain ⟨i, t, b⟩ := A; have ha : i ≤ n ∧ t = itN saveP i s := ha; have hq : WQ n t := (by rw [ha.2]; exact hw.saves ha.1); have htn := hq.n; cases b) | (guard_target = Gh _ _ _ _ _; refine Gh.go ⟨((i + 1, doP t (evP 7 (i : Nat) 0 0), true) : Nat × XSpr × Bool), (by exact ⟨by show i + 1 ≤ n; omega, save_next ha.2 h⟩), (by first | (show _ < _; simp only []; omega) | omega | (simp; omega)), (by (repeat' first | exact trivial | exact rfl | refine ⟨?_, ?_⟩); done), (by (repeat' first | exact trivial | exact rfl | refine ⟨?_, ?_⟩); done), (by (repeat' first | exact trivial | exact rfl | refine ⟨?_, ?_⟩ | (simp only [List.map_append, List.map_cons, List.map_nil, List.map_set]; first | done | rfl)); done)⟩) | (guard_target = Fact _ _; refine Fact.mk fun hL => ?_; (try simp only [List.length_map, maxLen] at hL)) | (guard_target = Branch _ _ _; (first | refine Branch.dec ?_ ?_ | refine Branch.beq ?_ ?_ | refine Branch.bne ?_ ?_ | refine Branch.ndec ?_ ?_ | refine Branch.nb ?_ ?_ | refine Branch.mk ?_ ?_) <;> intro h <;> (try simp only [List.length_map] at h) <;> (try omega) <;> (try contradiction)) | (guard_target = CallN _ 68 _ _ _ _; refine CallN.gen [true, true] _ _ _ rfl (do_ok hv t hq.p 7 (i : Nat) 0 0 (e7 (by omega)) (by omega)) rfl rfl _ rfl ?_) | (guard_target = Gh _ _ _ _ _; first | refine Gh.closes 0 i 1 4 rfl (set_get (by rw [List.length_map]; omega)) rfl rfl rfl (Gh.soft 0 (b' := .orow (some hv) 127 3 (t.a.servers.map softS)) (.orow (soft_back (by omega) rfl)) (Gh.go ⟨((i + 1, t, false) : Nat × XSpr × Bool), ⟨by show i + 1 ≤ n; omega, save_skip ha.2 h⟩, (by show _ < _; simp only []; omega), (by (repeat' first | exact trivial | exact rfl | refine ⟨?_, ?_⟩); done), (by (repeat' first | exact trivial | exact rfl | refine ⟨?_, ?_⟩); done), (by (repeat' first | exact trivial | exact rfl | refine ⟨?_, ?_⟩ | (simp only [List.map_append, List.map_cons, List.map_nil, List.map_set]; first | done | rfl)); done)⟩)) | refine Gh.closes 0 i 1 4 rfl (set_get (by rw [List.length_map]; omega)) rfl rfl rfl (Gh.soft 0 (b' := .orow (some hv) 127 3 (t.a.servers.map softS)) (.orow (soft_back (by omega) rfl)) (Gh.told 8 0 rfl rfl (Gh.go ?_))) | refine Gh.link 8 0 rfl rfl (Gh.go ?_) | refine Gh.go ?_) | (guard_target = ∀ _ : Value, _; intro v) | (guard_target = Arith _ _ _; refine Arith.fit (wrap_fit (by first | omega | (simp only [List.length_map]; omega)) (by first | omega | (simp only [List.length_map]; omega))) ?_) | (guard_target = Arith _ _ _; refine Arith.fit (by decide) ?_) | (guard_target = Index _ _ _; first | refine Index.mk _ (idx_getD (d := s00) (i := i) (by omega)) ?_ | refine Index.mk _ (idx_map (by omega)) ?_) | (guard_target = Need (_ = true) _; refine Need.mk (by first | kernel_rfl | rfl) ?_) | (guard_target = LinkV _ _ _; first  | refine LinkV.no ?_) | (guard_target = GhO _ _ _ _; refine GhO.go ?_) | (guard_target = Need _ _; refine Need.mk (by first | ((simp only [List.length_map]; omega)) | omega | (simp only [List.length_map]; omega)) ?_))
  all_goals (try (conv => whnf))
  all_goals first | rfl | exact ⟨rfl, trivial⟩ | (rw [show t = itN saveP n s by have h9 := ha.2; rwa [show i = n by omega] at h9]; exact ⟨rfl, trivial⟩)
end
end Go.Proofs.YtmpcfplelpdbhaaGreat

namespace Go.Proofs.YtmpcfplelpdbhaaGreat
open Go Go.KA Go.Proofs
set_option maxHeartbeats 16000000
set_option maxRecDepth 100000
section
variable (hv : Value) (n : Nat) (s : XSpr) (hw : WQ n s)
include hw
theorem ssave_ok : CallX Tryz.prog 62 [.c (.op (softQ hv s))] [some [.op (softQ hv (itN saveP n s))]] (.tup []) := by
  have h5 : n ≤ 5 := by have := hw.p.w.n5; have := hw.n; omega
  refine callX_of_vc htb hm Tryz.func62 rfl rfl rfl rfl (ann := fun _ => none) (gh := fun _ => false) ?_
  repeat' ((conv => whnf); first | (guard_target = Done _; refine Done.mk ?_) | (guard_target = RetX _ _; refine RetX.mk ?_ ?_) | (guard_target =~ LoopE 1 _ _ _ _ _ _; refine LoopE.mk { α := Nat × XSpr, keep := [0], ov := fun ⟨i, t⟩ => [(2, I (i : Nat))], hv := fun ⟨i, t⟩ => [(0, .orow (some hv) 127 3 (t.a.servers.map softS)), (1, .row none 210 8 (t.a.flying.map encPacket)), (2, .orow none 147 9 (t.l.map encEvent)), (3, .cells [.c (J t.a.sig.tests), .c (J t.a.sig.actions), .lw 0, .lw 1, .lw 2, .c (.val (.bool (!t.ok)))])], φ := fun ⟨i, t⟩ => i ≤ n ∧ t = itN saveP i s, μ := fun ⟨i, t⟩ => n - i } (LoopN.mk ((0, s) : Nat × XSpr) (by exact ⟨Nat.zero_le _, rfl⟩) (by (repeat' first | exact trivial | exact rfl | refine ⟨?_, ?_⟩); done) (by (repeat' first | exact trivial | exact rfl | refine ⟨?_, ?_⟩); done) (by (repeat' first | exact trivial | exact rfl | refine ⟨?_, ?_⟩ | (simp only [List.map_append, List.map_cons, List.map_nil, List.map_set]; first | done | rfl)); done) (fun A ha => ?_) (by intro A; first | rfl | (obtain ⟨_, _⟩ := A; rfl) | (obtain ⟨_, _, _⟩ := A; rfl))); obtain ⟨i, t⟩ := A; have ha : i ≤ n ∧ t = itN saveP i s := ha; have hq : WQ n t := (by rw [ha.2]; exact hw.saves ha.1); have htn := hq.n) | (guard_target = Gh _ _ _ _ _; refine Gh.go ⟨((i + 1, doP t (evP 7 (i : Nat) 0 0)) : Nat × XSpr), (by exact ⟨by show i + 1 ≤ n; omega, save_next ha.2 h⟩), (by first | (show _ < _; simp only []; omega) | omega | (simp; omega)), (by (repeat' first | exact trivial | exact rfl | refine ⟨?_, ?_⟩); done), (by (repeat' first | exact trivial | exact rfl | refine ⟨?_, ?_⟩); done), (by (repeat' first | exact trivial | exact rfl | refine ⟨?_, ?_⟩ | (simp only [List.map_append, List.map_cons, List.map_nil, List.map_set]; first | done | rfl)); done)⟩) | (guard_target = Gh _ _ _ _ _; refine Gh.go ⟨((i + 1, t) : Nat × XSpr), (by exact ⟨by show i + 1 ≤ n; omega, save_skip ha.2 h⟩), (by first | (show _ < _; simp only []; omega) | omega | (simp; omega)), (by (repeat' first | exact trivial | exact rfl | refine ⟨?_, ?_⟩); done), (by (repeat' first | exact trivial | exact rfl | refine ⟨?_, ?_⟩); done), (by (repeat' first | exact trivial | exact rfl | refine ⟨?_, ?_⟩ | (simp only [List.map_append, List.map_cons, List.map_nil, List.map_set]; first | done | rfl)); done)⟩) | (guard_target = Fact _ _; refine Fact.mk fun hL => ?_; (try simp only [List.length_map, maxLen] at hL)) | (guard_target = Branch _ _ _; (first | refine Branch.dec ?_ ?_ | refine Branch.beq ?_ ?_ | refine Branch.bne ?_ ?_ | refine Branch.ndec ?_ ?_ | refine Branch.nb ?_ ?_ | refine Branch.mk ?_ ?_) <;> intro h <;> (try simp only [List.length_map] at h) <;> (try omega) <;> (try contradiction)) | (guard_target = CallN _ 61 _ _ _ _; refine CallN.gen [true, false, false, false, false] _ _ _ rfl (sdo_ok hv t hq.p 7 (i : Nat) 0 0 (e7 (by omega)) (by omega)) rfl rfl _ rfl ?_) | (guard_target = Arith _ _ _; refine Arith.fit (wrap_fit (by first | omega | (simp only [List.length_map]; omega)) (by first | omega | (simp only [List.length_map]; omega))) ?_) | (guard_target = Arith _ _ _; refine Arith.fit (by decide) ?_) | (guard_target = Index _ _ _; first | refine Index.mk _ (idx_getD (d := s00) (i := i) (by omega)) ?_ | refine Index.mk _ (idx_map (by omega)) ?_) | (guard_target = Need (_ = true) _; refine Need.mk (by first | kernel_rfl | rfl) ?_) | (guard_target = LinkV _ _ _; first  | refine LinkV.no ?_) | (guard_target = GhO _ _ _ _; refine GhO.go ?_) | (guard_target = Need _ _; refine Need.mk (by first | ((simp only [List.length_map]; omega)) | omega | (simp only [List.length_map]; omega)) ?_))
  all_goals (try (conv => whnf))
  all_goals first | rfl | exact ⟨rfl, trivial⟩ | (rw [show t = itN saveP n s by have h9 := ha.2; rwa [show i = n by omega] at h9]; exact ⟨rfl, trivial⟩)
end
end Go.Proofs.YtmpcfplelpdbhaaGreat
