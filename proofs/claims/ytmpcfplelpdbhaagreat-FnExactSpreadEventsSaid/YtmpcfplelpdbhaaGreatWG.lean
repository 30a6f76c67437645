/- Contract of the program's SpreadEvents. Conditions: the size. -/
import Derived.Test.YtmpcfplelpdbhaaGreatWF
import Derived.Test.YtmpcfplelpdbhaaGreatZT
namespace Go.Proofs.YtmpcfplelpdbhaaGreat
open Go Go.KA Go.Proofs
set_option maxHeartbeats 16000000
set_option maxRecDepth 100000
abbrev spr0 (a : XArchive) : XSpr := ⟨a, [], true⟩
abbrev spr1 (a : XArchive) : XSpr := itN dropP a.flying.length (spr0 a)
abbrev spr2 (a : XArchive) : XSpr := itN saveP a.servers.length (spr1 a)
theorem WQ.zero {a : XArchive} (hw : WA a) : WQ a.servers.length (spr0 a) := ⟨⟨hw, Nat.zero_le _⟩, rfl⟩
theorem WQ.drops {a : XArchive} {m : Nat} (hw : WA a) : WQ a.servers.length (itN dropP m (spr0 a)) := itN_keep (P := WQ a.servers.length) (m := m) (fun _ _ _ h => h.drop) m (Nat.le_refl _) (.zero hw)
theorem WQ.two {a : XArchive} (hw : WA a) : WQ a.servers.length (spr2 a) := (WQ.drops hw).saves (Nat.le_refl _)
theorem sendP_y {a : XArchive} {i c k : Nat} {s : XSpr} (h : ¬ (i = k ∨ (a.servers.getD i s00).up = false ∨ (a.servers.getD k s00).up = false ∨ spotN (s.a.servers.getD k s00).notes ((a.servers.getD i s00).notes.getD c n0).revoke ((a.servers.getD i s00).notes.getD c n0).id ≥ 0)) : sendP a i c k s = doP (doP s (evP 3 (i : Nat) (k : Nat) (c : Nat))) (evP 4 0 0 0) := if_neg h
theorem sendP_n {a : XArchive} {i c k : Nat} {s : XSpr} (h : i = k ∨ (a.servers.getD i s00).up = false ∨ (a.servers.getD k s00).up = false ∨ spotN (s.a.servers.getD k s00).notes ((a.servers.getD i s00).notes.getD c n0).revoke ((a.servers.getD i s00).notes.getD c n0).id ≥ 0) : sendP a i c k s = s := if_pos h
theorem spr_two {a : XArchive} {j : Nat} {t : XSpr} (h : t = itN dropP j (spr0 a)) (hj : j = a.flying.length) : itN saveP a.servers.length t = itN (sendC a) 0 (spr2 a) := by
  subst hj
  rw [h]
  rfl
theorem spr_skip {a : XArchive} {i c k : Nat} {u x : XSpr} (hx : x = itN (sendP a i c) k u) (h : i = k ∨ (a.servers.getD i s00).up = false ∨ (a.servers.getD k s00).up = false ∨ spotN (x.a.servers.getD k s00).notes ((a.servers.getD i s00).notes.getD c n0).revoke ((a.servers.getD i s00).notes.getD c n0).id ≥ 0) : x = itN (sendP a i c) (k + 1) u := by
  show x = sendP a i c k (itN (sendP a i c) k u)
  rw [← hx, sendP_n h]
theorem spr_go {a : XArchive} {i c k : Nat} {u x : XSpr} (hx : x = itN (sendP a i c) k u) (h1 : ¬ i = k) (h2 : (a.servers.getD i s00).up = true) (h3 : (a.servers.getD k s00).up = true) (h4 : ¬ spotN (x.a.servers.getD k s00).notes ((a.servers.getD i s00).notes.getD c n0).revoke ((a.servers.getD i s00).notes.getD c n0).id ≥ 0) :
    doP (doP x (evP 3 (i : Nat) (k : Nat) (c : Nat))) (evP 4 0 0 0) = itN (sendP a i c) (k + 1) u := by
  show _ = sendP a i c k (itN (sendP a i c) k u)
  rw [← hx, sendP_y]
  rintro (e | e | e | e)
  · exact h1 e
  · exact absurd (h2.symm.trans e) (by decide)
  · exact absurd (h3.symm.trans e) (by decide)
  · exact h4 e
theorem spr_k {a : XArchive} {i c k : Nat} {t u x : XSpr} (hu : u = itN (sendK a i) c t) (hx : x = itN (sendP a i c) k u) (hk : k = a.servers.length) : x = itN (sendK a i) (c + 1) t := by
  subst hk
  show x = itN (sendP a i c) a.servers.length (itN (sendK a i) c t)
  rw [← hu]
  exact hx
theorem spr_c {a : XArchive} {i c : Nat} {t u : XSpr} (ht : t = itN (sendC a) i (spr2 a)) (hu : u = itN (sendK a i) c t) (hc : c = (a.servers.getD i s00).notes.length) : u = itN (sendC a) (i + 1) (spr2 a) := by
  subst hc
  show u = itN (sendK a i) (a.servers.getD i s00).notes.length (itN (sendC a) i (spr2 a))
  rw [← ht]
  exact hu
theorem spr_end {a : XArchive} {i : Nat} {t : XSpr} (ht : t = itN (sendC a) i (spr2 a)) (hi : i = a.servers.length) : itN saveP a.servers.length t = planP a := by
  subst hi
  rw [ht]
  rfl
section
variable (a : XArchive) (hx : budArchive a ≤ 1048576)
include hx
theorem Spread_bad (hg : goodArch a = false) : CallX Tryz.prog 22 [.a 4 (encArchive a)] [] (.tup [.c (.ows 147 9 []), I 1]) := by
  have hv := ValidArchive_ok a hx
  rw [hg] at hv
  refine callX_of_vc htb hm Tryz.func22 rfl rfl rfl rfl (ann := fun _ => none) (gh := fun _ => false) ?_
  repeat' ((conv => whnf); first | (guard_target = Done _; refine Done.mk ?_) | (guard_target = RetX _ _; refine RetX.mk ?_ ?_) | (guard_target = Fact _ _; refine Fact.mk fun hL => ?_; (try simp only [List.length_map, maxLen] at hL)) | (guard_target = Branch _ _ _; (first | refine Branch.dec ?_ ?_ | refine Branch.beq ?_ ?_ | refine Branch.bne ?_ ?_ | refine Branch.ndec ?_ ?_ | refine Branch.nb ?_ ?_ | refine Branch.mk ?_ ?_) <;> intro h <;> (try simp only [] at h) <;> (try omega) <;> (try contradiction)) | (guard_target = CallN _ 66 _ _ _ _; refine CallN.pure _ _ rfl (hv) rfl _ rfl ?_) | (guard_target = Arith _ _ _; refine Arith.fit (wrap_fit (by first | omega | (simp only [List.length_map]; omega)) (by first | omega | (simp only [List.length_map]; omega))) ?_) | (guard_target = Arith _ _ _; refine Arith.fit (by decide) ?_) | (guard_target = Index _ _ _; first  | refine Index.mk _ (idx_map (by omega)) ?_) | (guard_target = Need (_ = true) _; refine Need.mk (by first | kernel_rfl | rfl) ?_) | (guard_target = LinkV _ _ _; first  | refine LinkV.no ?_) | (guard_target = GhO _ _ _ _; refine GhO.go ?_) | (guard_target = Need _ _; refine Need.mk (by first  | omega | (simp only [List.length_map]; omega)) ?_))
  all_goals first | rfl | trivial | exact ⟨rfl, trivial⟩ | (exfalso; omega)
theorem Spread_good (hg : goodArch a = true) : CallX Tryz.prog 22 [.a 4 (encArchive a)] [] (cond (planP a).ok (.tup [.c (.own 147 9 ((planP a).l.map owsEv)), I 0]) (.tup [.c (.ows 147 9 []), I 3])) := by
  have hv0 := ValidArchive_ok a hx
  rw [hg] at hv0
  have hwa : WA a := .of ((arch_iff a).1 hg) hx
  have h5 := hwa.n5
  have h12 := hwa.f12
  refine callX_of_vc htb hm Tryz.func22 rfl rfl rfl rfl (ann := fun _ => none) (gh := fun reg_ => match reg_ with | 4 => true | 18 => true | 19 => true | _ => false) ?_
  repeat' ((conv => whnf); first | (guard_target = Gh _ _ _ _ _; have _ := mark20; refine Gh.go ⟨((k + 1, doP (doP x (evP 3 (i : Nat) (k : Nat) (c : Nat))) (evP 4 0 0 0)) : Nat × XSpr), ⟨by show k + 1 ≤ _; omega, spr_go ha4.2 (by omega) (by assumption) (by assumption) (by omega)⟩, (by show _ < _; simp only []; omega), (by (repeat' ((conv => whnf) <;> (first | exact trivial | refine ⟨?_, ?_⟩ | kernel_rfl))); done), (by (repeat' ((conv => whnf) <;> (first | exact trivial | refine ⟨?_, ?_⟩ | kernel_rfl))); done), (by (repeat' ((conv => whnf) <;> (first | exact trivial | refine ⟨?_, ?_⟩ | kernel_rfl))); done)⟩) | (guard_target = Gh _ _ _ _ _; have _ : ¬ spotN (x.a.servers.getD k s00).notes ((a.servers.getD i s00).notes.getD c n0).revoke ((a.servers.getD i s00).notes.getD c n0).id ≥ 0 := h; refine Gh.closes 2 k 1 21 rfl (set_get (by rw [List.length_map]; omega)) rfl rfl rfl (Gh.soft 2 (b' := .orow (some hv) 127 3 (x.a.servers.map softS)) (.orow (soft_back (by omega) rfl)) (Gh.go ?_))) | (guard_target = Gh _ _ _ _ _; have _ := v0; refine Gh.closes 2 k 1 21 rfl (set_get (by rw [List.length_map]; omega)) rfl rfl rfl (Gh.soft 2 (b' := .orow (some hv) 127 3 (x.a.servers.map softS)) (.orow (soft_back (by omega) rfl)) (Gh.go ⟨((k + 1, x) : Nat × XSpr), ⟨by show k + 1 ≤ _; omega, spr_skip ha4.2 (by first | exact .inl (by omega) | exact .inr (.inl h) | exact .inr (.inr (.inl h)) | exact .inr (.inr (.inr h)))⟩, (by show _ < _; simp only []; omega), (by (repeat' ((conv => whnf) <;> (first | exact trivial | refine ⟨?_, ?_⟩ | kernel_rfl))); done), (by (repeat' ((conv => whnf) <;> (first | exact trivial | refine ⟨?_, ?_⟩ | kernel_rfl))); done), (by (repeat' ((conv => whnf) <;> (first | exact trivial | refine ⟨?_, ?_⟩ | kernel_rfl))); done)⟩))) | (guard_target = Gh _ _ _ _ _; have _ : (k : Int) < (a.servers.length : Int) := h; refine Gh.go ?_) | (guard_target = Gh _ _ _ _ _; have _ : ¬ (k : Int) < (a.servers.length : Int) := h; refine Gh.go ⟨((c + 1, x) : Nat × XSpr), ⟨by show c + 1 ≤ _; omega, spr_k ha3.2 ha4.2 (by omega)⟩, (by show _ < _; simp only []; omega), (by (repeat' ((conv => whnf) <;> (first | exact trivial | refine ⟨?_, ?_⟩ | kernel_rfl))); done), (by (repeat' ((conv => whnf) <;> (first | exact trivial | refine ⟨?_, ?_⟩ | kernel_rfl))); done), (by (repeat' ((conv => whnf) <;> (first | exact trivial | refine ⟨?_, ?_⟩ | kernel_rfl))); done)⟩) | (guard_target = Gh _ _ _ _ _; have _ : ¬ (c : Int) < ((a.servers.getD i s00).notes.length : Int) := h; refine Gh.go ⟨((i + 1, u) : Nat × XSpr), ⟨by show i + 1 ≤ _; omega, spr_c ha2.2 ha3.2 (by omega)⟩, (by show _ < _; simp only []; omega), (by (repeat' ((conv => whnf) <;> (first | exact trivial | refine ⟨?_, ?_⟩ | kernel_rfl))); done), (by (repeat' ((conv => whnf) <;> (first | exact trivial | refine ⟨?_, ?_⟩ | kernel_rfl))); done), (by (repeat' ((conv => whnf) <;> (first | exact trivial | refine ⟨?_, ?_⟩ | kernel_rfl))); done)⟩) | (guard_target = Gh _ _ _ _ _; have _ := hq1; refine Gh.go ⟨((j + 1, doP t1 (evP 6 0 0 0)) : Nat × XSpr), ⟨by show j + 1 ≤ _; omega, congrArg (dropP j) ha.2⟩, (by show _ < _; simp only []; omega), (by (repeat' ((conv => whnf) <;> (first | exact trivial | refine ⟨?_, ?_⟩ | kernel_rfl))); done), (by (repeat' ((conv => whnf) <;> (first | exact trivial | refine ⟨?_, ?_⟩ | kernel_rfl))); done), (by (repeat' ((conv => whnf) <;> (first | exact trivial | refine ⟨?_, ?_⟩ | kernel_rfl))); done)⟩) | (guard_target = Gh _ _ _ _ _; refine Gh.pin 2 rfl fun hv => Gh.soft 6 (b' := .orow none 147 9 []) .up (Gh.soft 10 .cb (Gh.go ?_))) | (guard_target = GhO _ _ _ _; first | (have _ := v0; refine GhO.go ?_) | refine GhO.opens 2 k 1 rfl (idx_getD (d := s00) (by omega)) rfl fun v0 => GhO.go ?_ | refine GhO.go ?_) | (guard_target = CallN _ 68 _ _ _ _; have _ := mark19; have mark20 : True := trivial; refine CallN.gen [true, true] _ _ _ rfl (do_ok hv (doP x (evP 3 (i : Nat) (k : Nat) (c : Nat))) (hq4.step (e3 (by omega) (by omega) (by omega))).p 4 0 0 0 e4 (by omega)) rfl rfl _ rfl ?_) | (guard_target = CallN _ 68 _ _ _ _; have _ := v0; have mark19 : True := trivial; refine CallN.gen [true, true] _ _ _ rfl (do_ok hv x hq4.p 3 (i : Nat) (k : Nat) (c : Nat) (e3 (by omega) (by omega) (by omega)) (by omega)) rfl rfl _ rfl ?_) | (guard_target = Done _; refine Done.mk ?_) | (guard_target = RetX _ _; refine RetX.mk ?_ ?_) | (guard_target =~ LoopE 5 _ _ _ _ _ _; refine LoopE.mk { α := Nat × XSpr, keep := [1, 4, 19], ov := fun ⟨j, t1⟩ => [(20, I (j : Nat))], hv := fun ⟨j, t1⟩ => [(2, .orow (some hv) 127 3 (t1.a.servers.map softS)), (3, .row none 210 8 (t1.a.flying.map encPacket)), (6, .orow none 147 9 (t1.l.map owsEv)), (10, .cells [.c (J t1.a.sig.tests), .c (J t1.a.sig.actions), .lw 2, .lw 3, .lw 6, .c (.val (.bool t1.ok))])], φ := fun ⟨j, t1⟩ => j ≤ a.flying.length ∧ t1 = itN dropP j (spr0 a), μ := fun ⟨j, t1⟩ => a.flying.length - j } (LoopN.mk ((0, spr0 a) : Nat × XSpr) (by exact ⟨Nat.zero_le _, rfl⟩) (by (repeat' ((conv => whnf) <;> (first | exact trivial | refine ⟨?_, ?_⟩ | kernel_rfl))); done) (by (repeat' ((conv => whnf) <;> (first | exact trivial | refine ⟨?_, ?_⟩ | kernel_rfl))); done) (by (repeat' ((conv => whnf) <;> (first | exact trivial | refine ⟨?_, ?_⟩ | kernel_rfl))); done) (fun A ha => ?_) (by intro A; first | rfl | (obtain ⟨_, _⟩ := A; rfl) | (obtain ⟨_, _, _⟩ := A; rfl))); obtain ⟨j, t1⟩ := A; have ha : j ≤ a.flying.length ∧ t1 = itN dropP j (spr0 a) := ha; have ha1 := ha; have hq1 : WQ a.servers.length t1 := (by rw [ha.2]; exact .drops hwa)) | (guard_target =~ LoopE 10 _ _ _ _ _ _; refine LoopE.mk { α := Nat × XSpr, keep := [], ov := fun ⟨i, t⟩ => [(29, I (i : Nat)), (1, .lp 0 0), (4, .lp 10 0), (27, .c (.ro 3 (a.servers.map encServer))), (28, I ((a.servers.map encServer).length : Nat))], hv := fun ⟨i, t⟩ => [(0, .cc 4 (encArchive a)), (2, .orow (some hv) 127 3 (t.a.servers.map softS)), (3, .row none 210 8 (t.a.flying.map encPacket)), (6, .orow none 147 9 (t.l.map owsEv)), (10, .cells [.c (J t.a.sig.tests), .c (J t.a.sig.actions), .lw 2, .lw 3, .lw 6, .c (.val (.bool t.ok))])], φ := fun ⟨i, t⟩ => i ≤ a.servers.length ∧ t = itN (sendC a) i (spr2 a), μ := fun ⟨i, t⟩ => a.servers.length - i } (LoopN.mk ((0, itN saveP a.servers.length t1) : Nat × XSpr) (by exact ⟨Nat.zero_le _, spr_two ha1.2 (by omega)⟩) (by (repeat' ((conv => whnf) <;> (first | exact trivial | refine ⟨?_, ?_⟩ | kernel_rfl))); done) (by (repeat' ((conv => whnf) <;> (first | exact trivial | refine ⟨?_, ?_⟩ | kernel_rfl))); done) (by (repeat' ((conv => whnf) <;> (first | exact trivial | refine ⟨?_, ?_⟩ | kernel_rfl))); done) (fun A ha => ?_) (by intro A; first | rfl | (obtain ⟨_, _⟩ := A; rfl) | (obtain ⟨_, _, _⟩ := A; rfl))); obtain ⟨i, t⟩ := A; have ha : i ≤ a.servers.length ∧ t = itN (sendC a) i (spr2 a) := ha; have ha2 := ha; have hq2 : WQ a.servers.length t := (by rw [ha.2]; exact .sendsC hwa (.two hwa) ha.1)) | (guard_target =~ LoopE 13 _ _ _ _ _ _; refine LoopE.mk { α := Nat × XSpr, keep := [], ov := fun ⟨c, u⟩ => [(37, I (c : Nat)), (1, .lp 0 0), (4, .lp 10 0), (27, .c (.ro 3 (a.servers.map encServer))), (28, I ((a.servers.map encServer).length : Nat)), (29, I (i : Nat)), (5, I (i : Nat)), (6, .lp 15 0), (35, .c (.ro 7 ((a.servers.getD i s00).notes.map encNote))), (36, I (((a.servers.getD i s00).notes.map encNote).length : Nat))], hv := fun ⟨c, u⟩ => [(0, .cc 4 (encArchive a)), (15, .cc 3 (encServer (a.servers.getD i s00))), (2, .orow (some hv) 127 3 (u.a.servers.map softS)), (3, .row none 210 8 (u.a.flying.map encPacket)), (6, .orow none 147 9 (u.l.map owsEv)), (10, .cells [.c (J u.a.sig.tests), .c (J u.a.sig.actions), .lw 2, .lw 3, .lw 6, .c (.val (.bool u.ok))])], φ := fun ⟨c, u⟩ => c ≤ (a.servers.getD i s00).notes.length ∧ u = itN (sendK a i) c t, μ := fun ⟨c, u⟩ => (a.servers.getD i s00).notes.length - c } (LoopN.mk ((0, t) : Nat × XSpr) (by exact ⟨Nat.zero_le _, rfl⟩) (by (repeat' ((conv => whnf) <;> (first | exact trivial | refine ⟨?_, ?_⟩ | kernel_rfl))); done) (by (repeat' ((conv => whnf) <;> (first | exact trivial | refine ⟨?_, ?_⟩ | kernel_rfl))); done) (by (repeat' ((conv => whnf) <;> (first | exact trivial | refine ⟨?_, ?_⟩ | kernel_rfl))); done) (fun A ha => ?_) (by intro A; first | rfl | (obtain ⟨_, _⟩ := A; rfl) | (obtain ⟨_, _, _⟩ := A; rfl))); obtain ⟨c, u⟩ := A; have ha : c ≤ (a.servers.getD i s00).notes.length ∧ u = itN (sendK a i) c t := ha; have ha3 := ha; have hi : i < a.servers.length := (by omega); have hn := hwa.sv i hi; have hq3 : WQ a.servers.length u := (by rw [ha.2]; exact .sendsK hq2 hi (by omega))) | (guard_target =~ LoopE 16 _ _ _ _ _ _; refine LoopE.mk { α := Nat × XSpr, keep := [], ov := fun ⟨k, x⟩ => [(45, I (k : Nat)), (1, .lp 0 0), (4, .lp 10 0), (27, .c (.ro 3 (a.servers.map encServer))), (28, I ((a.servers.map encServer).length : Nat)), (29, I (i : Nat)), (5, I (i : Nat)), (6, .lp 15 0), (35, .c (.ro 7 ((a.servers.getD i s00).notes.map encNote))), (36, I (((a.servers.getD i s00).notes.map encNote).length : Nat)), (37, I (c : Nat)), (7, I (c : Nat)), (8, .lp 18 0), (43, .c (.ro 3 (a.servers.map encServer))), (44, I ((a.servers.map encServer).length : Nat))], hv := fun ⟨k, x⟩ => [(0, .cc 4 (encArchive a)), (15, .cc 3 (encServer (a.servers.getD i s00))), (18, .cc 7 (encNote ((a.servers.getD i s00).notes.getD c n0))), (2, .orow (some hv) 127 3 (x.a.servers.map softS)), (3, .row none 210 8 (x.a.flying.map encPacket)), (6, .orow none 147 9 (x.l.map owsEv)), (10, .cells [.c (J x.a.sig.tests), .c (J x.a.sig.actions), .lw 2, .lw 3, .lw 6, .c (.val (.bool x.ok))])], φ := fun ⟨k, x⟩ => k ≤ a.servers.length ∧ x = itN (sendP a i c) k u, μ := fun ⟨k, x⟩ => a.servers.length - k } (LoopN.mk ((0, u) : Nat × XSpr) (by exact ⟨Nat.zero_le _, rfl⟩) (by (repeat' ((conv => whnf) <;> (first | exact trivial | refine ⟨?_, ?_⟩ | kernel_rfl))); done) (by (repeat' ((conv => whnf) <;> (first | exact trivial | refine ⟨?_, ?_⟩ | kernel_rfl))); done) (by (repeat' ((conv => whnf) <;> (first | exact trivial | refine ⟨?_, ?_⟩ | kernel_rfl))); done) (fun A ha => ?_) (by intro A; first | rfl | (obtain ⟨_, _⟩ := A; rfl) | (obtain ⟨_, _, _⟩ := A; rfl))); obtain ⟨k, x⟩ := A; have ha : k ≤ a.servers.length ∧ x = itN (sendP a i c) k u := ha; have ha4 := ha; have hc : c < 20 := (by omega); have hq4 : WQ a.servers.length x := (by rw [ha.2]; exact .sendsP hq3 hi hc ha.1); have hn4 := hq4.n) | (guard_target = Fact _ _; refine Fact.mk fun hL => ?_; (try simp only [List.length_map, maxLen] at hL)) | (guard_target = Branch _ _ _; (first | refine Branch.dec ?_ ?_ | refine Branch.beq ?_ ?_ | refine Branch.bne ?_ ?_ | refine Branch.ndec ?_ ?_ | refine Branch.nb ?_ ?_ | refine Branch.mk ?_ ?_) <;> intro h <;> (try simp only [List.length_map] at h) <;> (try omega) <;> (try contradiction)) | (guard_target = CallN _ 66 _ _ _ _; refine CallN.pure _ _ rfl (hv0) rfl _ rfl ?_) | (guard_target = CallN _ 67 _ _ _ _; refine CallN.gen [] _ _ _ rfl (copyArchive_soft a hwa.ca) rfl rfl _ rfl ?_) | (guard_target = CallN _ 68 _ _ _ _; refine CallN.gen [true, true] _ _ _ rfl (do_ok hv t1 hq1.p 6 0 0 0 e6 (by omega)) rfl rfl _ rfl ?_) | (guard_target = CallN _ 70 _ _ _ _; refine CallN.pure _ _ rfl (find_ok (x.a.servers.getD k s00).notes ((a.servers.getD i s00).notes.getD c n0).revoke ((a.servers.getD i s00).notes.getD c n0).id) rfl _ rfl ?_) | (guard_target = CallN _ 69 _ _ _ _; refine CallN.gen [true] _ _ _ rfl (save_ok hv a.servers.length t hq2) rfl rfl _ rfl ?_) | (guard_target = CallN _ 69 _ _ _ _; refine CallN.gen [true] _ _ _ rfl (save_ok hv a.servers.length t1 hq1) rfl rfl _ rfl ?_) | (guard_target = Arith _ _ _; refine Arith.fit (wrap_fit (by first | omega | (simp only [List.length_map]; omega)) (by first | omega | (simp only [List.length_map]; omega))) ?_) | (guard_target = Arith _ _ _; refine Arith.fit (by decide) ?_) | (guard_target = Index _ _ _; first | refine Index.mk _ (set_get (by rw [List.length_map]; omega)) ?_ | refine Index.mk _ (idx_getD (d := s00) (i := i) (by omega)) ?_ | refine Index.mk _ (idx_getD (d := s00) (i := k) (by omega)) ?_ | refine Index.mk _ (idx_getD (d := n0) (i := c) (by omega)) ?_ | refine Index.mk _ (idx_map (by omega)) ?_) | (guard_target = Need (_ = true) _; refine Need.mk (by first | kernel_rfl | rfl) ?_) | (guard_target = LinkV _ _ _; first | refine LinkV.row 21 rfl ?_ | refine LinkV.orow 21 rfl ?_ | refine LinkV.no ?_) | (guard_target = Need _ _; refine Need.mk (by first | ((simp only [List.length_set, List.length_map]; omega)) | omega | (simp only [List.length_map]; omega)) ?_))
  all_goals first
    | exact trivial
    | (have hp := spr_end ha2.2 (by omega); rw [hp] at h; rw [h]; rfl)
    | (have hp := spr_end ha2.2 (by omega); rw [hp] at h ⊢; rw [h]; rfl)
   
end
end Go.Proofs.YtmpcfplelpdbhaaGreat

namespace Go.Proofs.YtmpcfplelpdbhaaGreat
open Go Go.KA Go.Proofs
set_option maxHeartbeats 16000000
set_option maxRecDepth 100000
theorem spr_down {a : XArchive} {i c : Nat} {t u : XSpr} (ht : t = itN (sendC a) i (spr2 a)) (hu : u = itN (sendK a i) c t) (h : (a.servers.getD i s00).up = false) : u = itN (sendC a) (i + 1) (spr2 a) := by
  show u = sendC a i (itN (sendC a) i (spr2 a))
  rw [← ht, sendC_down h, hu]
  exact itN_id (fun c s => itN_id (fun k s => by unfold sendP; rw [if_pos (.inr (.inl h))]) _ s) _ t
section
variable (a : XArchive) (hx : budArchive a ≤ 1048576)
include hx
theorem sSpread_bad (hg : goodArch a = false) : CallX Tryz.prog 20 [.a 4 (encArchive a)] [] (.tup [.c (.ows 147 9 []), I 1]) := by
  have hv := l08Ok_ok a hx
  rw [hg] at hv
  refine callX_of_vc htb hm Tryz.func20 rfl rfl rfl rfl (ann := fun _ => none) (gh := fun _ => false) ?_
  repeat' ((conv => whnf); first | (guard_target = Done _; refine Done.mk ?_) | (guard_target = RetX _ _; refine RetX.mk ?_ ?_) | (guard_target = Fact _ _; refine Fact.mk fun hL => ?_; (try simp only [List.length_map, maxLen] at hL)) | (guard_target = Branch _ _ _; (first | refine Branch.dec ?_ ?_ | refine Branch.beq ?_ ?_ | refine Branch.bne ?_ ?_ | refine Branch.ndec ?_ ?_ | refine Branch.nb ?_ ?_ | refine Branch.mk ?_ ?_) <;> intro h <;> (try simp only [] at h) <;> (try omega) <;> (try contradiction)) | (guard_target = CallN _ 59 _ _ _ _; refine CallN.pure _ _ rfl (hv) rfl _ rfl ?_) | (guard_target = Arith _ _ _; refine Arith.fit (wrap_fit (by first | omega | (simp only [List.length_map]; omega)) (by first | omega | (simp only [List.length_map]; omega))) ?_) | (guard_target = Arith _ _ _; refine Arith.fit (by decide) ?_) | (guard_target = Index _ _ _; first  | refine Index.mk _ (idx_map (by omega)) ?_) | (guard_target = Need (_ = true) _; refine Need.mk (by first | kernel_rfl | rfl) ?_) | (guard_target = LinkV _ _ _; first  | refine LinkV.no ?_) | (guard_target = GhO _ _ _ _; refine GhO.go ?_) | (guard_target = Need _ _; refine Need.mk (by first  | omega | (simp only [List.length_map]; omega)) ?_))
  all_goals first | rfl | trivial | exact ⟨rfl, trivial⟩ | (exfalso; omega)
theorem sSpread_good (hg : goodArch a = true) : CallX Tryz.prog 20 [.a 4 (encArchive a)] [] (cond (planP a).ok (.tup [.c (.own 147 9 ((planP a).l.map encEvent)), I 0]) (.tup [.c (.ows 147 9 []), I 3])) := by
  have hv0 := l08Ok_ok a hx
  rw [hg] at hv0
  have hwa : WA a := .of ((arch_iff a).1 hg) hx
  have h5 := hwa.n5
  have h12 := hwa.f12
  refine callX_of_vc htb hm Tryz.func20 rfl rfl rfl rfl (ann := fun _ => none) (gh := fun reg_ => match reg_ with | 4 => true | 19 => true | 20 => true | _ => false) ?_
  repeat' ((conv => whnf); first | (guard_target = CallN _ 60 _ _ _ _; refine CallN.own _ _ rfl (l08Own_ok a hwa.ca) (pure_arch a) _ rfl ?_) | (guard_target = Gh _ _ _ _ _; have _ := mark20; refine Gh.go ⟨((k + 1, doP (doP x (evP 3 (i : Nat) (k : Nat) (c : Nat))) (evP 4 0 0 0)) : Nat × XSpr), ⟨by show k + 1 ≤ _; omega, spr_go ha4.2 (by omega) (by assumption) (by assumption) (by omega)⟩, (by show _ < _; simp only []; omega), (by (repeat' ((conv => whnf) <;> (first | exact trivial | refine ⟨?_, ?_⟩ | kernel_rfl))); done), (by (repeat' ((conv => whnf) <;> (first | exact trivial | refine ⟨?_, ?_⟩ | kernel_rfl))); done), (by (repeat' ((conv => whnf) <;> (first | exact trivial | refine ⟨?_, ?_⟩ | kernel_rfl))); done)⟩) | (guard_target = Gh _ _ _ _ _; have _ : ¬ spotN (x.a.servers.getD k s00).notes ((a.servers.getD i s00).notes.getD c n0).revoke ((a.servers.getD i s00).notes.getD c n0).id ≥ 0 := h; refine Gh.closes 2 k 1 11 rfl (set_get (by rw [List.length_map]; omega)) rfl rfl rfl (Gh.soft 2 (b' := .orow (some hv) 127 3 (x.a.servers.map softS)) (.orow (soft_back (by omega) rfl)) (Gh.go ?_))) | (guard_target = Gh _ _ _ _ _; have _ := v0; refine Gh.closes 2 k 1 11 rfl (set_get (by rw [List.length_map]; omega)) rfl rfl rfl (Gh.soft 2 (b' := .orow (some hv) 127 3 (x.a.servers.map softS)) (.orow (soft_back (by omega) rfl)) (Gh.go ⟨((k + 1, x) : Nat × XSpr), ⟨by show k + 1 ≤ _; omega, spr_skip ha4.2 (by first | exact .inl (by omega) | exact .inr (.inr (.inl h)) | exact .inr (.inr (.inr h)))⟩, (by show _ < _; simp only []; omega), (by (repeat' ((conv => whnf) <;> (first | exact trivial | refine ⟨?_, ?_⟩ | kernel_rfl))); done), (by (repeat' ((conv => whnf) <;> (first | exact trivial | refine ⟨?_, ?_⟩ | kernel_rfl))); done), (by (repeat' ((conv => whnf) <;> (first | exact trivial | refine ⟨?_, ?_⟩ | kernel_rfl))); done)⟩))) | (guard_target = Gh _ _ _ _ _; have _ : (k : Int) < (a.servers.length : Int) := h; refine Gh.go ?_) | (guard_target = Gh _ _ _ _ _; have _ : ¬ (k : Int) < (a.servers.length : Int) := h; refine Gh.go ⟨((c + 1, x) : Nat × XSpr), ⟨by show c + 1 ≤ _; omega, spr_k ha3.2 ha4.2 (by omega)⟩, (by show _ < _; simp only []; omega), (by (repeat' ((conv => whnf) <;> (first | exact trivial | refine ⟨?_, ?_⟩ | kernel_rfl))); done), (by (repeat' ((conv => whnf) <;> (first | exact trivial | refine ⟨?_, ?_⟩ | kernel_rfl))); done), (by (repeat' ((conv => whnf) <;> (first | exact trivial | refine ⟨?_, ?_⟩ | kernel_rfl))); done)⟩) | (guard_target = Gh _ _ _ _ _; have _ : ¬ (c : Int) < ((a.servers.getD i s00).notes.length : Int) := h; refine Gh.go ⟨((i + 1, u) : Nat × XSpr), ⟨by show i + 1 ≤ _; omega, spr_c ha2.2 ha3.2 (by omega)⟩, (by show _ < _; simp only []; omega), (by (repeat' ((conv => whnf) <;> (first | exact trivial | refine ⟨?_, ?_⟩ | kernel_rfl))); done), (by (repeat' ((conv => whnf) <;> (first | exact trivial | refine ⟨?_, ?_⟩ | kernel_rfl))); done), (by (repeat' ((conv => whnf) <;> (first | exact trivial | refine ⟨?_, ?_⟩ | kernel_rfl))); done)⟩) | (guard_target = Gh _ _ _ _ _; have _ : (a.servers.getD i s00).up = false := h; refine Gh.go ⟨((i + 1, u) : Nat × XSpr), ⟨by show i + 1 ≤ _; omega, spr_down ha2.2 ha3.2 h⟩, (by show _ < _; simp only []; omega), (by (repeat' ((conv => whnf) <;> (first | exact trivial | refine ⟨?_, ?_⟩ | kernel_rfl))); done), (by (repeat' ((conv => whnf) <;> (first | exact trivial | refine ⟨?_, ?_⟩ | kernel_rfl))); done), (by (repeat' ((conv => whnf) <;> (first | exact trivial | refine ⟨?_, ?_⟩ | kernel_rfl))); done)⟩) | (guard_target = Gh _ _ _ _ _; have _ := hq1; refine Gh.go ⟨((j + 1, doP t1 (evP 6 0 0 0)) : Nat × XSpr), ⟨by show j + 1 ≤ _; omega, congrArg (dropP j) ha.2⟩, (by show _ < _; simp only []; omega), (by (repeat' ((conv => whnf) <;> (first | exact trivial | refine ⟨?_, ?_⟩ | kernel_rfl))); done), (by (repeat' ((conv => whnf) <;> (first | exact trivial | refine ⟨?_, ?_⟩ | kernel_rfl))); done), (by (repeat' ((conv => whnf) <;> (first | exact trivial | refine ⟨?_, ?_⟩ | kernel_rfl))); done)⟩) | (guard_target = Gh _ _ _ _ _; refine Gh.soft 2 (b' := .orow none 127 3 (a.servers.map softS)) (.orow (softL_srv _)) (Gh.soft 3 (softB_pkt _ _) (Gh.pin 2 rfl fun hv => Gh.soft 6 (b' := .orow none 147 9 []) .up (Gh.go ?_)))) | (guard_target = GhO _ _ _ _; first | (have _ := v0; refine GhO.go ?_) | refine GhO.opens 2 k 1 rfl (idx_getD (d := s00) (by omega)) rfl fun v0 => GhO.go ?_ | refine GhO.go ?_) | (guard_target = CallN _ 61 _ _ _ _; have _ := mark19; have mark20 : True := trivial; refine CallN.gen [true, false, false, false, false] _ _ _ rfl (sdo_ok hv (doP x (evP 3 (i : Nat) (k : Nat) (c : Nat))) (hq4.step (e3 (by omega) (by omega) (by omega))).p 4 0 0 0 e4 (by omega)) rfl rfl _ rfl ?_) | (guard_target = CallN _ 61 _ _ _ _; have _ := v0; have mark19 : True := trivial; refine CallN.gen [true, false, false, false, false] _ _ _ rfl (sdo_ok hv x hq4.p 3 (i : Nat) (k : Nat) (c : Nat) (e3 (by omega) (by omega) (by omega)) (by omega)) rfl rfl _ rfl ?_) | (guard_target = Done _; refine Done.mk ?_) | (guard_target = RetX _ _; refine RetX.mk ?_ ?_) | (guard_target =~ LoopE 5 _ _ _ _ _ _; refine LoopE.mk { α := Nat × XSpr, keep := [1, 4], ov := fun ⟨j, t1⟩ => [(5, I (j : Nat))], hv := fun ⟨j, t1⟩ => [(2, .orow (some hv) 127 3 (t1.a.servers.map softS)), (3, .row none 210 8 (t1.a.flying.map encPacket)), (6, .orow none 147 9 (t1.l.map encEvent)), (7, .cells [.c (J t1.a.sig.tests), .c (J t1.a.sig.actions), .lw 2, .lw 3, .lw 6, .c (.val (.bool (!t1.ok)))])], φ := fun ⟨j, t1⟩ => j ≤ a.flying.length ∧ t1 = itN dropP j (spr0 a), μ := fun ⟨j, t1⟩ => a.flying.length - j } (LoopN.mk ((0, spr0 a) : Nat × XSpr) (by exact ⟨Nat.zero_le _, rfl⟩) (by (repeat' ((conv => whnf) <;> (first | exact trivial | refine ⟨?_, ?_⟩ | kernel_rfl))); done) (by (repeat' ((conv => whnf) <;> (first | exact trivial | refine ⟨?_, ?_⟩ | kernel_rfl))); done) (by (repeat' ((conv => whnf) <;> (first | exact trivial | refine ⟨?_, ?_⟩ | kernel_rfl))); done) (fun A ha => ?_) (by intro A; first | rfl | (obtain ⟨_, _⟩ := A; rfl) | (obtain ⟨_, _, _⟩ := A; rfl))); obtain ⟨j, t1⟩ := A; have ha : j ≤ a.flying.length ∧ t1 = itN dropP j (spr0 a) := ha; have ha1 := ha; have hq1 : WQ a.servers.length t1 := (by rw [ha.2]; exact .drops hwa)) | (guard_target =~ LoopE 10 _ _ _ _ _ _; refine LoopE.mk { α := Nat × XSpr, keep := [], ov := fun ⟨i, t⟩ => [(6, I (i : Nat)), (1, .lp 0 0), (4, .lp 7 0)], hv := fun ⟨i, t⟩ => [(0, .cc 4 (encArchive a)), (2, .orow (some hv) 127 3 (t.a.servers.map softS)), (3, .row none 210 8 (t.a.flying.map encPacket)), (6, .orow none 147 9 (t.l.map encEvent)), (7, .cells [.c (J t.a.sig.tests), .c (J t.a.sig.actions), .lw 2, .lw 3, .lw 6, .c (.val (.bool (!t.ok)))])], φ := fun ⟨i, t⟩ => i ≤ a.servers.length ∧ t = itN (sendC a) i (spr2 a), μ := fun ⟨i, t⟩ => a.servers.length - i } (LoopN.mk ((0, itN saveP a.servers.length t1) : Nat × XSpr) (by exact ⟨Nat.zero_le _, spr_two ha1.2 (by omega)⟩) (by (repeat' ((conv => whnf) <;> (first | exact trivial | refine ⟨?_, ?_⟩ | kernel_rfl))); done) (by (repeat' ((conv => whnf) <;> (first | exact trivial | refine ⟨?_, ?_⟩ | kernel_rfl))); done) (by (repeat' ((conv => whnf) <;> (first | exact trivial | refine ⟨?_, ?_⟩ | kernel_rfl))); done) (fun A ha => ?_) (by intro A; first | rfl | (obtain ⟨_, _⟩ := A; rfl) | (obtain ⟨_, _, _⟩ := A; rfl))); obtain ⟨i, t⟩ := A; have ha : i ≤ a.servers.length ∧ t = itN (sendC a) i (spr2 a) := ha; have ha2 := ha; have hq2 : WQ a.servers.length t := (by rw [ha.2]; exact .sendsC hwa (.two hwa) ha.1)) | (guard_target =~ LoopE 13 _ _ _ _ _ _; refine LoopE.mk { α := Nat × XSpr, keep := [], ov := fun ⟨c, u⟩ => [(7, I (c : Nat)), (1, .lp 0 0), (4, .lp 7 0), (6, I (i : Nat))], hv := fun ⟨c, u⟩ => [(0, .cc 4 (encArchive a)), (2, .orow (some hv) 127 3 (u.a.servers.map softS)), (3, .row none 210 8 (u.a.flying.map encPacket)), (6, .orow none 147 9 (u.l.map encEvent)), (7, .cells [.c (J u.a.sig.tests), .c (J u.a.sig.actions), .lw 2, .lw 3, .lw 6, .c (.val (.bool (!u.ok)))])], φ := fun ⟨c, u⟩ => c ≤ (a.servers.getD i s00).notes.length ∧ u = itN (sendK a i) c t, μ := fun ⟨c, u⟩ => (a.servers.getD i s00).notes.length - c } (LoopN.mk ((0, t) : Nat × XSpr) (by exact ⟨Nat.zero_le _, rfl⟩) (by (repeat' ((conv => whnf) <;> (first | exact trivial | refine ⟨?_, ?_⟩ | kernel_rfl))); done) (by (repeat' ((conv => whnf) <;> (first | exact trivial | refine ⟨?_, ?_⟩ | kernel_rfl))); done) (by (repeat' ((conv => whnf) <;> (first | exact trivial | refine ⟨?_, ?_⟩ | kernel_rfl))); done) (fun A ha => ?_) (by intro A; first | rfl | (obtain ⟨_, _⟩ := A; rfl) | (obtain ⟨_, _, _⟩ := A; rfl))); obtain ⟨c, u⟩ := A; have ha : c ≤ (a.servers.getD i s00).notes.length ∧ u = itN (sendK a i) c t := ha; have ha3 := ha; have hi : i < a.servers.length := (by omega); have hn := hwa.sv i hi; have hq3 : WQ a.servers.length u := (by rw [ha.2]; exact .sendsK hq2 hi (by omega))) | (guard_target =~ LoopE 17 _ _ _ _ _ _; refine LoopE.mk { α := Nat × XSpr, keep := [], ov := fun ⟨k, x⟩ => [(9, I (k : Nat)), (1, .lp 0 0), (4, .lp 7 0), (6, I (i : Nat)), (7, I (c : Nat)), (8, .c (.rp 7 (encNote ((a.servers.getD i s00).notes.getD c n0))))], hv := fun ⟨k, x⟩ => [(0, .cc 4 (encArchive a)), (2, .orow (some hv) 127 3 (x.a.servers.map softS)), (3, .row none 210 8 (x.a.flying.map encPacket)), (6, .orow none 147 9 (x.l.map encEvent)), (7, .cells [.c (J x.a.sig.tests), .c (J x.a.sig.actions), .lw 2, .lw 3, .lw 6, .c (.val (.bool (!x.ok)))])], φ := fun ⟨k, x⟩ => k ≤ a.servers.length ∧ x = itN (sendP a i c) k u, μ := fun ⟨k, x⟩ => a.servers.length - k } (LoopN.mk ((0, u) : Nat × XSpr) (by exact ⟨Nat.zero_le _, rfl⟩) (by (repeat' ((conv => whnf) <;> (first | exact trivial | refine ⟨?_, ?_⟩ | kernel_rfl))); done) (by (repeat' ((conv => whnf) <;> (first | exact trivial | refine ⟨?_, ?_⟩ | kernel_rfl))); done) (by (repeat' ((conv => whnf) <;> (first | exact trivial | refine ⟨?_, ?_⟩ | kernel_rfl))); done) (fun A ha => ?_) (by intro A; first | rfl | (obtain ⟨_, _⟩ := A; rfl) | (obtain ⟨_, _, _⟩ := A; rfl))); obtain ⟨k, x⟩ := A; have ha : k ≤ a.servers.length ∧ x = itN (sendP a i c) k u := ha; have ha4 := ha; have hc : c < 20 := (by omega); have hq4 : WQ a.servers.length x := (by rw [ha.2]; exact .sendsP hq3 hi hc ha.1); have hn4 := hq4.n) | (guard_target = Fact _ _; refine Fact.mk fun hL => ?_; (try simp only [List.length_map, maxLen] at hL)) | (guard_target = Branch _ _ _; (first | refine Branch.dec ?_ ?_ | refine Branch.beq ?_ ?_ | refine Branch.bne ?_ ?_ | refine Branch.ndec ?_ ?_ | refine Branch.nb ?_ ?_ | refine Branch.mk ?_ ?_) <;> intro h <;> (try simp only [List.length_map] at h) <;> (try omega) <;> (try contradiction)) | (guard_target = CallN _ 59 _ _ _ _; refine CallN.pure _ _ rfl (hv0) rfl _ rfl ?_) | (guard_target = CallN _ 61 _ _ _ _; refine CallN.gen [true, false, false, false, false] _ _ _ rfl (sdo_ok hv t1 hq1.p 6 0 0 0 e6 (by omega)) rfl rfl _ rfl ?_) | (guard_target = CallN _ 63 _ _ _ _; refine CallN.pure _ _ rfl (l08Spot_ok (x.a.servers.getD k s00).notes ((a.servers.getD i s00).notes.getD c n0).revoke ((a.servers.getD i s00).notes.getD c n0).id) rfl _ rfl ?_) | (guard_target = CallN _ 62 _ _ _ _; refine CallN.gen [true] _ _ _ rfl (ssave_ok hv a.servers.length t hq2) rfl rfl _ rfl ?_) | (guard_target = CallN _ 62 _ _ _ _; refine CallN.gen [true] _ _ _ rfl (ssave_ok hv a.servers.length t1 hq1) rfl rfl _ rfl ?_) | (guard_target = Arith _ _ _; refine Arith.fit (wrap_fit (by first | omega | (simp only [List.length_map]; omega)) (by first | omega | (simp only [List.length_map]; omega))) ?_) | (guard_target = Arith _ _ _; refine Arith.fit (by decide) ?_) | (guard_target = Index _ _ _; first | refine Index.mk _ (set_get (by rw [List.length_map]; omega)) ?_ | refine Index.mk _ (idx_getD (d := s00) (i := i) (by omega)) ?_ | refine Index.mk _ (idx_getD (d := s00) (i := k) (by omega)) ?_ | refine Index.mk _ (idx_getD (d := n0) (i := c) (by omega)) ?_ | refine Index.mk _ (idx_map (by omega)) ?_) | (guard_target = Need (_ = true) _; refine Need.mk (by first | kernel_rfl | rfl) ?_) | (guard_target = LinkV _ _ _; first | refine LinkV.row 11 rfl ?_ | refine LinkV.orow 11 rfl ?_ | refine LinkV.no ?_) | (guard_target = Need _ _; refine Need.mk (by first | ((simp only [List.length_set, List.length_map]; omega)) | omega | (simp only [List.length_map]; omega)) ?_))
  all_goals first
    | exact trivial
    | (have hp := spr_end ha2.2 (by omega); rw [hp] at h; rw [h]; rfl)
    | (have hp := spr_end ha2.2 (by omega); rw [hp] at h ⊢; rw [h]; rfl)
   
end
end Go.Proofs.YtmpcfplelpdbhaaGreat

namespace Go.Proofs.YtmpcfplelpdbhaaGreat
open Go Go.KA Go.Proofs
set_option maxHeartbeats 16000000
set_option maxRecDepth 100000
/-! ### the planned events are plain -/
def PE (s : XSpr) : Prop := ∀ e ∈ s.l, e.rests = [] ∧ e.proof = ⟨⟨0, 0⟩, []⟩ ∧ e.votes = []
theorem PE.step {s : XSpr} (h : PE s) (k a b c : Int) : PE (doP s (evP k a b c)) := by
  unfold doP
  split
  · exact h
  split
  · exact h
  split
  · intro e he
    rcases List.mem_append.1 he with he | he
    · exact h e he
    · rw [List.mem_singleton.1 he]
      exact ⟨rfl, rfl, rfl⟩
  · exact h
theorem PE.save {i : Nat} {s : XSpr} (h : PE s) : PE (saveP i s) := by
  unfold saveP
  split
  · exact h.step _ _ _ _
  · exact h
theorem PE.sendOne {a : XArchive} {i c k : Nat} {s : XSpr} (h : PE s) : PE (sendP a i c k s) := by
  unfold sendP
  split
  · exact h
  · exact (h.step _ _ _ _).step _ _ _ _
theorem PE.it {f : Nat → XSpr → XSpr} (hf : ∀ i s, PE s → PE (f i s)) (n : Nat) {s : XSpr} (h : PE s) : PE (itN f n s) := itN_keep (P := PE) (m := n) (fun i _ s h => hf i s h) n (Nat.le_refl _) h
theorem PE.plan (a : XArchive) : PE (planP a) := by
  have h0 : PE ⟨a, [], true⟩ := fun e he => by cases he
  exact .it (fun _ _ h => h.save) _ (.it (fun _ _ h => .it (fun _ _ h => .it (fun _ _ h => h.sendOne) _ h) _ h) _ (.it (fun _ _ h => h.save) _ (.it (fun _ _ h => h.step _ _ _ _) _ h0)))
theorem plan_len {a : XArchive} (hw : WA a) : (planP a).l.length ≤ 300 :=
  ((WQ.sendsC hw (.two hw) (Nat.le_refl _)).saves (Nat.le_refl _)).p.l
theorem plain_bud : ∀ {l : List XEvent}, (∀ e ∈ l, e.rests = [] ∧ e.proof = ⟨⟨0, 0⟩, []⟩ ∧ e.votes = []) → bsum mkeEvent l ≤ 6 * l.length
  | [], _ => Nat.le_refl _
  | e :: es, h => by
    obtain ⟨h1, h2, h3⟩ := h e (by simp)
    have h4 := plain_bud (l := es) fun x hx => h x (List.mem_cons_of_mem _ hx)
    have h5 : mkeEvent e = 6 := by rw [mkeEvent_eq, h1, h2, h3]; rfl
    simp only [bsum, List.length_cons]
    omega
theorem plain_up : ∀ {l : List XEvent}, (∀ e ∈ l, e.rests = [] ∧ e.proof = ⟨⟨0, 0⟩, []⟩ ∧ e.votes = []) → OwnUp (l.map owsEv).flatten (l.map ownEvent).flatten
  | [], _ => .nil
  | e :: es, h => by
    obtain ⟨h1, h2, h3⟩ := h e (by simp)
    have h4 := plain_up (l := es) fun x hx => h x (List.mem_cons_of_mem _ hx)
    have e1 : owsEv e = [J e.kind, J e.a, J e.b, J e.c, .ows 2 1 [], J 0, J 0, .ows 236 9 [], .ows 4 1 []] := by simp only [owsEv, h1, h2, h3]; rfl
    have e2 : ownEvent e = [J e.kind, J e.a, J e.b, J e.c, .ows 2 1 [], J 0, J 0, .own 236 9 [], .ows 4 1 []] := by simp only [ownEvent, h1, h2, h3]; rfl
    rw [List.map_cons, List.map_cons, List.flatten_cons, List.flatten_cons, e1, e2]
    exact .same (.same (.same (.same (.same (.same (.same (.up (.same h4))))))))
/-! ### results of one cell -/
theorem CallX.cellUp {P : Program} {f : Nat} {args : List SV} {outs : List (Option (List CV))} {x x' : CV} {c : Int} (h : CallX P f args outs (.tup [.c x, I c])) (hd : ∀ (w : World) (ok : Nat → Prop) (v : Value) (g : List Nat), Den w ok [x] [v] g → Den w ok [x'] [v] g) : CallX P f args outs (.tup [.c x', I c]) := by
  refine ⟨h.1, fun w ok vs fs h1 h2 h3 h4 => (h.2 w ok vs fs h1 h2 h3 h4).mono ?_⟩
  rintro e w' ⟨v, fr, fo, h5, h6, h7, h8, h9, h10⟩
  refine ⟨v, fr, fo, h5, h6, h7, h8, ?_, h10⟩
  cases h9 with
  | v h =>
    cases h with
    | v h =>
      cases h fun _ => none with
      | c h => cases h
  | tup h =>
    cases h with
    | cons ha ht =>
      refine .tup (.cons ?_ ht)
      cases ha with
      | v h =>
        refine .v fun ρ => ?_
        cases h ρ with
        | c h => cases h with
          | c h => exact .c (.c (hd _ _ _ _ h))
      | o h => exact .o (hd _ _ _ _ h)
theorem up_nil {ty sz : Nat} (w : World) (ok : Nat → Prop) (v : Value) (g : List Nat) (h : Den w ok [.ows ty sz []] [v] g) : Den w ok [.own ty sz []] [v] g := by
  cases h with
  | ows hin hr ho ht =>
    have := Den.own hin hr ho ht
    simpa using this
theorem up_rows {ty sz : Nat} {rows rows' : List (List CV)} (hr' : ∀ r ∈ rows', r.length = sz) (hl : rows'.length = rows.length) (hu : OwnUp rows.flatten rows'.flatten) (w : World) (ok : Nat → Prop) (v : Value) (g : List Nat) (h : Den w ok [.own ty sz rows] [v] g) : Den w ok [.own ty sz rows'] [v] g := by
  cases h with
  | own hin hr ho ht => exact .own (hu.den hin) hr' (hl ▸ ho) ht
noncomputable def sprL (a : XArchive) : List XEvent := if goodArch a = true ∧ (planP a).ok = true then (planP a).l else []
noncomputable def sprC (a : XArchive) : Int := if goodArch a = false then 1 else if (planP a).ok = true then 0 else 3
theorem sprL_y {a : XArchive} (h : goodArch a = true) (h2 : (planP a).ok = true) : sprL a = (planP a).l := if_pos ⟨h, h2⟩
theorem sprL_b {a : XArchive} (h : goodArch a = false) : sprL a = [] := if_neg fun e => by rw [h] at e; exact absurd e.1 (by decide)
theorem sprL_n {a : XArchive} (h2 : (planP a).ok = false) : sprL a = [] := if_neg fun e => by rw [h2] at e; exact absurd e.2 (by decide)
theorem sprL_pe (a : XArchive) : ∀ e ∈ sprL a, e.rests = [] ∧ e.proof = ⟨⟨0, 0⟩, []⟩ ∧ e.votes = [] := by
  unfold sprL
  split
  · exact PE.plan a
  · intro e he; cases he
theorem Spread_ok (a : XArchive) (hx : budArchive a ≤ 1048576) : CallX Tryz.prog 22 [.a 4 (encArchive a)] [] (.tup [.c (.own 147 9 ((sprL a).map ownEvent)), I (sprC a)]) := by
  cases hg : goodArch a with
  | false =>
    rw [sprL_b hg, show sprC a = 1 from if_pos hg]
    exact CallX.cellUp (Spread_bad a hx hg) up_nil
  | true =>
    have h := Spread_good a hx hg
    cases hp : (planP a).ok with
    | false =>
      rw [hp] at h
      rw [sprL_n hp, show sprC a = 3 by unfold sprC; rw [if_neg (by rw [hg]; decide), if_neg (by rw [hp]; decide)]]
      exact CallX.cellUp h up_nil
    | true =>
      rw [hp] at h
      rw [sprL_y hg hp, show sprC a = 0 by unfold sprC; rw [if_neg (by rw [hg]; decide), if_pos hp]]
      refine CallX.cellUp h (up_rows (fun r hr => ?_) (by simp) (plain_up (PE.plan a)))
      obtain ⟨e, _, rfl⟩ := List.mem_map.1 hr
      rfl
theorem sSpread_ok (a : XArchive) (hx : budArchive a ≤ 1048576) : CallX Tryz.prog 20 [.a 4 (encArchive a)] [] (.tup [.c (.own 147 9 ((sprL a).map encEvent)), I (sprC a)]) := by
  cases hg : goodArch a with
  | false =>
    rw [sprL_b hg, show sprC a = 1 from if_pos hg]
    exact CallX.cellUp (sSpread_bad a hx hg) up_nil
  | true =>
    have h := sSpread_good a hx hg
    cases hp : (planP a).ok with
    | false =>
      rw [hp] at h
      rw [sprL_n hp, show sprC a = 3 by unfold sprC; rw [if_neg (by rw [hg]; decide), if_neg (by rw [hp]; decide)]]
      exact CallX.cellUp h up_nil
    | true =>
      rw [hp] at h
      rw [sprL_y hg hp, show sprC a = 0 by unfold sprC; rw [if_neg (by rw [hg]; decide), if_pos hp]]
      exact h
theorem sprL_len {a : XArchive} (hx : budArchive a ≤ 1048576) : (sprL a).length ≤ 300 := by
  unfold sprL
  split
  · rename_i h
    exact plan_len (.of ((arch_iff a).1 h.1) hx)
  · exact Nat.zero_le _
theorem pureL_event (e : XEvent) : pureL (ownEvent e) := by
  simp only [ownEvent, pureL, pureC]
  exact ⟨trivial, trivial, trivial, trivial, pureLL_int _, trivial, trivial, pureLL_of pureL_claim _, pureLL_of (f := eB) (fun x => (show pureC _ ∧ True from ⟨trivial, trivial⟩)) _, trivial⟩
theorem pure_evS (l : List XEvent) (c : Int) : pureT (.tup [.c (.own 147 9 (l.map ownEvent)), I c]) := by
  intro s hs
  rcases List.mem_cons.1 hs with rfl | hs
  · exact pureLL_of pureL_event l
  · rw [List.mem_singleton.1 hs]
    exact trivial
theorem roLL_encE (l : List XEvent) : roLL (l.map encEvent) = l.map encEvent := roLL_of (fun _ => rfl) l
theorem eqEvS_2 (l : List XEvent) : CallF Tryz.prog 23 [.c (.ro 9 (roLL (l.map ownEvent))), .c (.ro 9 (roLL (l.map encEvent)))] (B true) := by
  rw [roLL_of roEvent, roLL_encE]
  have := eqEventS_ok l l
  rwa [eqv_self] at this
theorem heldEvS_own (l : List XEvent) (hk : 1 + (bsum mkeEvent l : Nat) ≤ (4611686018427387904 : Int)) : CallF Tryz.prog 27 [.c (.ro 9 (roLL ((mkdL mkdEvent mkeEvent l 1).map ownEvent))), I 1] (I (1 + (bsum mkeEvent l : Nat))) := by
  rw [roLL_of roEvent]
  exact heldEventS_mk l 1 (by omega) hk
theorem SpreadEvents_law (a : XArchive) : CallF Tryz.prog 4 [.a 4 (encArchive a)] (B true) := by
  have hz := szArchive_ok a 1048576 (by omega)
  by_cases hl : budArchive a ≤ 1048576
  case neg =>
    rw [szr_neg (by omega)] at hz
    refine callF_of_vc htb hm Tryz.func4 rfl rfl rfl rfl (ann := fun _ => none) (gh := fun _ => false) ?_
    repeat' ((conv => whnf); first | (guard_target = Done _; refine Done.mk ?_; first | (rfl; done) | skip) | (guard_target = RetX _ _; refine RetX.mk ?_ ?_) | (guard_target = Fact _ _; refine Fact.mk fun hL => ?_; (try simp only [List.length_map, maxLen] at hL)) | (guard_target = Branch _ _ _; (first | refine Branch.dec ?_ ?_ | refine Branch.beq ?_ ?_ | refine Branch.bne ?_ ?_ | refine Branch.ndec ?_ ?_ | refine Branch.nb ?_ ?_ | refine Branch.mk ?_ ?_) <;> intro h <;> (try simp only [List.length_map] at h) <;> (try omega) <;> (try contradiction)) | (guard_target = CallN _ 19 _ _ _ _; refine CallN.pure _ _ rfl (hz) rfl _ rfl ?_) | (guard_target = Arith _ _ _; refine Arith.fit (wrap_fit (by first | omega | (simp only [List.length_map]; omega)) (by first | omega | (simp only [List.length_map]; omega))) ?_) | (guard_target = Arith _ _ _; refine Arith.fit (by decide) ?_) | (guard_target = Index _ _ _; first  | refine Index.mk _ (idx_map (by omega)) ?_) | (guard_target = Need (_ = true) _; refine Need.mk (by first | kernel_rfl | rfl) ?_) | (guard_target = LinkV _ _ _; first  | refine LinkV.no ?_) | (guard_target = GhO _ _ _ _; refine GhO.go ?_) | (guard_target = Need _ _; refine Need.mk (by first  | omega | (simp only [List.length_map]; omega)) ?_))
  case pos =>
    rw [szr_eq hl] at hz
    have hs := sSpread_ok a hl
    have hi : CallX Tryz.prog 22 [.a 4 (roL (ownArchive a))] [] (.tup [.c (.own 147 9 ((sprL a).map ownEvent)), I (sprC a)]) := by rw [roArchive]; exact Spread_ok a hl
    have hk := mkArch_le a hl
    have hk2 := plain_bud (sprL_pe a)
    have hk3 := sprL_len hl
    generalize sprL a = L at *
    generalize sprC a = C at *
    refine callF_of_vc htb hm Tryz.func4 rfl rfl rfl rfl (ann := fun _ => none) (gh := fun reg_ => match reg_ with | 6 => true | _ => false) ?_
    repeat' ((conv => whnf); first | (guard_target = Done _; refine Done.mk ?_) | (guard_target = RetX _ _; refine RetX.mk ?_ ?_) | (guard_target = Fact _ _; refine Fact.mk fun hL => ?_; (try simp only [List.length_map, maxLen] at hL)) | (guard_target = Branch _ _ _; (first | refine Branch.dec ?_ ?_ | refine Branch.beq ?_ ?_ | refine Branch.bne ?_ ?_ | refine Branch.ndec ?_ ?_ | refine Branch.nb ?_ ?_ | refine Branch.mk ?_ ?_) <;> intro h <;> (try simp only [List.length_map] at h) <;> (try omega) <;> (try contradiction)) | (guard_target = CallN _ 19 _ _ _ _; refine CallN.pure _ _ rfl (hz) rfl _ rfl ?_) | (guard_target = CallN _ 21 _ _ _ _; refine CallN.gen [] _ _ _ rfl (toArchive_enc a hl) rfl rfl _ rfl ?_) | (guard_target = CallN _ 20 _ _ _ _; refine CallN.gen [] _ _ _ rfl (hs) rfl rfl _ rfl ?_) | (guard_target = Arith _ _ _; refine Arith.fit (wrap_fit (by first | omega | (simp only [List.length_map]; omega)) (by first | omega | (simp only [List.length_map]; omega))) ?_) | (guard_target = Arith _ _ _; refine Arith.fit (by decide) ?_) | (guard_target = Index _ _ _; first  | refine Index.mk _ (idx_map (by omega)) ?_) | (guard_target = Need (_ = true) _; refine Need.mk (by first | kernel_rfl | rfl) ?_) | (guard_target = LinkV _ _ _; first  | refine LinkV.no ?_) | (guard_target = Need _ _; refine Need.mk (by first  | omega | (simp only [List.length_map]; omega)) ?_))
    all_goals (conv => whnf)
    all_goals try refine Gh.go ?_
    repeat' ((conv => whnf); first | (guard_target = Done _; refine Done.mk ?_; first | (rfl; done) | skip) | (guard_target = RetX _ _; refine RetX.mk ?_ ?_) | (guard_target = Fact _ _; refine Fact.mk fun hL => ?_; (try simp only [List.length_map, maxLen] at hL)) | (guard_target = Branch _ _ _; (first | refine Branch.dec ?_ ?_ | refine Branch.beq ?_ ?_ | refine Branch.bne ?_ ?_ | refine Branch.ndec ?_ ?_ | refine Branch.nb ?_ ?_ | refine Branch.mk ?_ ?_) <;> intro h <;> (try simp only [] at h) <;> (try omega) <;> (try contradiction)) | (guard_target = CallN _ 21 _ _ _ _; refine CallN.gen [] _ _ _ rfl (toArchive_ok a hl) rfl rfl _ rfl ?_) | (guard_target = CallN _ 23 _ _ _ _; refine CallN.pure _ _ rfl (eqEvS_2 L) rfl _ rfl ?_) | (guard_target = CallN _ 24 _ _ _ _; refine CallN.pure _ _ rfl (eqArch_own a) rfl _ rfl ?_) | (guard_target = CallN _ 25 _ _ _ _; refine CallN.gen [true, false] _ _ _ rfl (markArchive_ok a 1 (by omega) (by omega)) rfl rfl _ rfl ?_) | (guard_target = CallN _ 26 _ _ _ _; refine CallN.gen [true, false] _ _ _ rfl (markEventS_out L 1 (by omega) (by omega)) rfl rfl _ rfl ?_) | (guard_target = CallN _ 27 _ _ _ _; refine CallN.pure _ _ rfl (heldEvS_own L (by omega)) rfl _ rfl ?_) | (guard_target = CallN _ 22 _ _ _ _; refine CallN.own _ _ rfl hi (pure_evS _ _) _ rfl ?_) | (guard_target = Arith _ _ _; refine Arith.fit (wrap_fit (by first | omega | (simp only [List.length_map]; omega)) (by first | omega | (simp only [List.length_map]; omega))) ?_) | (guard_target = Arith _ _ _; refine Arith.fit (by decide) ?_) | (guard_target = Index _ _ _; first  | refine Index.mk _ (idx_map (by omega)) ?_) | (guard_target = Need (_ = true) _; refine Need.mk (by first | kernel_rfl | rfl) ?_) | (guard_target = LinkV _ _ _; first  | refine LinkV.no ?_) | (guard_target = GhO _ _ _ _; refine GhO.go ?_) | (guard_target = Need _ _; refine Need.mk (by first  | omega | (simp only [List.length_map]; omega)) ?_))
end Go.Proofs.YtmpcfplelpdbhaaGreat
