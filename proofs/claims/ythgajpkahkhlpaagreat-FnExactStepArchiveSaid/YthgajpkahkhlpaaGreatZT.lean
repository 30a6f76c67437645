/- Plain laws: an event keeps an archive's shape; the shape of what is valid. No conditions. -/
import Derived.Test.YthgajpkahkhlpaaGreatZZ
import Derived.Test.YthgajpkahkhlpaaGreatZC
namespace Go.Proofs.YthgajpkahkhlpaaGreat
open Go Go.KA Go.Proofs
set_option maxRecDepth 100000
structure SA (s : XServer) : Prop where
  n20 : s.notes.length ≤ 20
  sav : 0 ≤ s.saved ∧ s.saved ≤ (s.notes.length : Int)
  bn : ∀ n ∈ s.notes, budNote n ≤ 1048576
theorem WA.srv {a : XArchive} (hw : WA a) {i : Nat} (hi : i < a.servers.length) : SA (a.servers.getD i s00) := ⟨(hw.sv i hi).1, (hw.sv i hi).2, hw.bn i hi⟩
theorem getD_set {l : List XServer} {i k : Nat} {s : XServer} (hk : k < l.length) : (l.set i s).getD k s00 = if i = k then s else l.getD k s00 := by
  rw [getD_eq (by rw [List.length_set]; exact hk), List.getElem_set, getD_eq hk]
theorem WA.set {a : XArchive} (hw : WA a) (i : Int) {s : XServer} (hs : SA s) : WA (setS a i s) := by
  have hl : (a.servers.set i.toNat s).length = a.servers.length := List.length_set
  refine ⟨?_, hw.f12, fun k hk => ?_, fun k hk => ?_, fun k hk => ?_⟩
  · show 1 ≤ (a.servers.set i.toNat s).length ∧ (a.servers.set i.toNat s).length ≤ 5
    rw [hl]; exact hw.n5
  · have hk' : k < a.servers.length := hl ▸ hk
    show ((a.servers.set i.toNat s).getD k s00).notes.length ≤ 20 ∧ 0 ≤ ((a.servers.set i.toNat s).getD k s00).saved ∧ ((a.servers.set i.toNat s).getD k s00).saved ≤ (((a.servers.set i.toNat s).getD k s00).notes.length : Int)
    rw [getD_set hk']
    split
    · exact ⟨hs.n20, hs.sav⟩
    · exact hw.sv k hk'
  · have hk' : k < a.servers.length := hl ▸ hk
    show ∀ n ∈ ((a.servers.set i.toNat s).getD k s00).notes, budNote n ≤ 1048576
    rw [getD_set hk']
    split
    · exact hs.bn
    · exact hw.bn k hk'
  · have := hw.pk k hk
    show 0 ≤ (a.flying.getD k p00).to0 ∧ (a.flying.getD k p00).to0 < ((a.servers.set i.toNat s).length : Int) ∧ budNote (a.flying.getD k p00).note ≤ 1048576
    rw [hl]; exact this
theorem SA.add {s : XServer} (h : SA s) (hn : ¬ s.notes.length = 20) {n : XNote} (hb : budNote n ≤ 1048576) : SA (addN s n) := by
  have h1 := h.n20
  have h2 := h.sav
  refine ⟨?_, ?_, fun x hx => ?_⟩
  · show (s.notes ++ [n]).length ≤ 20
    rw [List.length_append]; simp only [List.length_singleton]; omega
  · show 0 ≤ s.saved ∧ s.saved ≤ ((s.notes ++ [n]).length : Int)
    rw [List.length_append]; simp only [List.length_singleton]; omega
  · rcases List.mem_append.1 hx with hx | hx
    · exact h.bn x hx
    · rw [List.mem_singleton.1 hx]; exact hb
theorem WA.fly {a : XArchive} (hw : WA a) {l : List XPacket} (hl : l.length ≤ 12) (h : ∀ p ∈ l, 0 ≤ p.to0 ∧ p.to0 < (a.servers.length : Int) ∧ budNote p.note ≤ 1048576) : WA ⟨a.sig, a.servers, l⟩ := by
  refine ⟨hw.n5, hl, hw.sv, hw.bn, fun i hi => ?_⟩
  show 0 ≤ (l.getD i p00).to0 ∧ (l.getD i p00).to0 < (a.servers.length : Int) ∧ budNote (l.getD i p00).note ≤ 1048576
  rw [getD_eq hi]
  exact h _ (List.getElem_mem hi)
theorem WA.mem {a : XArchive} (hw : WA a) {p : XPacket} (hp : p ∈ a.flying) : 0 ≤ p.to0 ∧ p.to0 < (a.servers.length : Int) ∧ budNote p.note ≤ 1048576 := by
  obtain ⟨i, hi, rfl⟩ := List.mem_iff_getElem.1 hp
  have := hw.pk i hi
  rwa [getD_eq hi] at this
theorem WA.drop {a : XArchive} (hw : WA a) (i : Int) : WA (doDrop a i).2 := by
  have h12 := hw.f12
  unfold doDrop
  split
  · exact hw
  · refine hw.fly ?_ fun p hp => ?_
    · rw [List.length_append, List.length_take, List.length_drop]; omega
    · rcases List.mem_append.1 hp with hp | hp
      · exact hw.mem (List.mem_of_mem_take hp)
      · exact hw.mem (List.mem_of_mem_drop hp)
theorem WA.take {a : XArchive} (hw : WA a) {i : Int} (hi : 0 ≤ i) : WA (doTake a i).2 := by
  unfold doTake
  repeat' split
  · exact hw
  · exact hw
  · exact hw
  · have hp := hw.pk i.toNat (by omega)
    exact hw.set _ ((hw.srv (i := (pktA a i).to0.toNat) (by show (a.flying.getD i.toNat p00).to0.toNat < _; omega)).add (by assumption) hp.2.2)
theorem bud_put {a : XArchive} {e : XEvent} (he : EA e) : budNote (putN a e) ≤ 1048576 := by
  have := he.bl
  show e.rests.length + budProof e.proof ≤ 1048576
  omega
theorem bud_rev (e : XEvent) : budNote (revN e) ≤ 1048576 := by
  have : budNote (revN e) = 0 := rfl
  omega
theorem WA.step {a : XArchive} (hw : WA a) {e : XEvent} (he : EA e) : WA (doA a e).2 := by
  have hz := he.ra.1
  have hc := he.rc.1
  unfold doA
  split
  · unfold doDeliver
    split
    · exact (hw.take hz).drop _
    · exact hw
  split
  · exact hw.take hz
  split
  · exact hw.drop _
  split
  · exact hw
  have hp : placeB a e.a = true := by cases hb : placeB a e.a with
    | true => rfl
    | false => contradiction
  have hpl : e.a.toNat < a.servers.length := by have := rng_le hp; have := hw.n5; omega
  have hs : SA (sA a e.a) := hw.srv hpl
  split
  · unfold doPut
    repeat' split
    · exact hw
    · exact hw
    · exact hw
    · refine hw.set _ (hs.add ?_ (bud_put he))
      rename_i h
      intro h20
      exact h (by rw [decide_eq_true h20]; rfl)
  split
  · unfold doRevoke
    repeat' split
    · exact hw
    · exact hw
    · exact hw
    · exact hw.set _ (hs.add (by assumption) (bud_rev e))
  split
  · unfold doSend
    repeat' split
    · exact hw
    · exact hw
    · exact hw
    · have hf := hw.f12
      rename_i h1 h2 h3
      simp only [Bool.or_eq_true, Bool.not_eq_true', decide_eq_true_eq, not_or, Bool.not_eq_false] at h1
      have hb := rng_le h1.1
      refine hw.fly (by rw [List.length_append]; simp only [List.length_singleton]; omega) fun p hp => ?_
      rcases List.mem_append.1 hp with hp | hp
      · exact hw.mem hp
      · rw [List.mem_singleton.1 hp]
        have hn : e.c.toNat < (sA a e.a).notes.length := by omega
        refine ⟨hb.1, by show e.b < _; omega, ?_⟩
        show budNote ((sA a e.a).notes.getD e.c.toNat n0) ≤ 1048576
        rw [getD_eq hn]
        exact hs.bn _ (List.getElem_mem hn)
  have h1 := hs.n20
  have h2 := hs.sav
  unfold doSave
  repeat' split
  · exact hw
  · exact hw.set _ ⟨h1, ⟨by show (0 : Int) ≤ ((sA a e.a).notes.length : Nat); omega, Int.le_refl _⟩, hs.bn⟩
  · refine hw.set _ ⟨?_, ?_, fun n hn => hs.bn n (List.mem_of_mem_take hn)⟩
    · show ((sA a e.a).notes.take _).length ≤ 20
      rw [List.length_take]; omega
    · show 0 ≤ (sA a e.a).saved ∧ (sA a e.a).saved ≤ (((sA a e.a).notes.take (sA a e.a).saved.toNat).length : Int)
      rw [List.length_take]; omega
  · exact hw.set _ ⟨h1, h2, hs.bn⟩
theorem WA.ca {a : XArchive} (hw : WA a) : CA a := by
  have h5 := hw.n5
  have h12 := hw.f12
  refine ⟨by omega, by omega, fun i hi => ?_, fun i hi k hk => ?_, fun i hi => (hw.pk i hi).2.2⟩
  · have := (hw.sv i hi).1; omega
  · rw [getD_eq hk]
    exact hw.bn i hi _ (List.getElem_mem hk)
theorem WA.of {a : XArchive} (hg : GA a) (hb : budArchive a ≤ 1048576) : WA a := by
  have hc := CA.of hb
  have h5 := rng_le hg.2.1
  have h12 := hg.2.2.1
  refine ⟨by omega, by omega, fun i hi => ⟨?_, savedB hg hi⟩, fun i hi n hn => ?_, fun i hi => ?_⟩
  · have h4 := List.all_eq_true.1 hg.2.2.2.1 _ (List.getElem_mem hi)
    rw [getD_eq hi]
    unfold goodServer at h4
    simp only [Bool.and_eq_true, decide_eq_true_eq] at h4
    omega
  · obtain ⟨k, hk, rfl⟩ := List.mem_iff_getElem.1 hn
    have := hc.bn i hi k hk
    rwa [getD_eq hk] at this
  · have h := List.all_eq_true.1 hg.2.2.2.2.1 _ (List.getElem_mem hi)
    unfold goodPkt at h
    simp only [Bool.and_eq_true] at h
    have h1 := rng_le h.1
    have h2 := hc.bp i hi
    rw [getD_eq hi] at h2 ⊢
    exact ⟨h1.1, by omega, h2⟩
theorem EA.of {t c : Int} {e : XEvent} (hg : goodEvent t c e = true) (hb : budEvent e ≤ 1048576) : EA e ∧ (1 ≤ e.kind ∧ e.kind ≤ 9) := by
  unfold goodEvent at hg
  simp only [Bool.and_eq_true] at hg
  exact ⟨⟨rng_le hg.2.1, rng_le hg.2.2.1, rng_le hg.2.2.2.1, hb⟩, rng_le hg.1⟩
end Go.Proofs.YthgajpkahkhlpaaGreat

namespace Go.Proofs.YthgajpkahkhlpaaGreat
open Go Go.KA Go.Proofs
set_option maxHeartbeats 16000000
set_option maxRecDepth 100000
theorem pureL_srv (s : XServer) : pureL (ownServer s) := ⟨trivial, pureLL_of pureL_note s.notes, trivial, trivial⟩
theorem pureL_pkt (p : XPacket) : pureL (ownPacket p) := ⟨trivial, pureL_note p.note⟩
theorem pureL_arch (a : XArchive) : pureL (ownArchive a) := ⟨trivial, trivial, pureLL_of pureL_srv a.servers, pureLL_of pureL_pkt a.flying, trivial⟩
theorem pure_arch (a : XArchive) : pureT (.a 4 (ownArchive a)) := fun x hx => pureL_iff.1 (pureL_arch a) x hx
theorem softL_srv (l : List XServer) : SoftL (l.map ownServer) (l.map softS) := SoftL.map (fun s => by
  refine .same ?_
  have h : SoftC [.own 157 7 (s.notes.map ownNote), J s.saved] [.ows 157 7 (roLL (s.notes.map ownNote)), J s.saved] := .ows (.same .nil)
  rw [roLL_of roNote] at h
  exact h) l
theorem softB_pkt (o : Option Value) (l : List XPacket) : SoftB (.orow o 239 8 (l.map ownPacket)) (.row o 239 8 (l.map encPacket)) := by
  have h : SoftB (.orow o 239 8 (l.map ownPacket)) (.row o 239 8 (roLL (l.map ownPacket))) := .row
  rwa [roLL_of roPacket] at h
abbrev zA : XArchive := ⟨⟨0, 0⟩, [], []⟩
def stepO (a : XArchive) (e : XEvent) : Int × XArchive := if (doA a e).1 = 0 then doA a e else ((doA a e).1, zA)
theorem CallX.ownUpO {P : Program} {f : Nat} {args : List SV} {outs : List (Option (List CV))} {cs cs' : List CV} {n : Nat} {c : Int} (h : CallX P f args outs (.tup [.a n cs, I c])) (hc : OwnUp cs cs') : CallX P f args outs (.tup [.a n cs', I c]) := by
  refine ⟨h.1, fun w ok vs fs h1 h2 h3 h4 => (h.2 w ok vs fs h1 h2 h3 h4).mono ?_⟩
  rintro e w' ⟨v, fr, fo, h5, h6, h7, h8, h9, h10⟩
  refine ⟨v, fr, fo, h5, h6, h7, h8, ?_, h10⟩
  cases h9 with
  | v h =>
    cases h with
    | v h =>
      cases h fun _ => none with
      | c h => cases h
  | tup h =>
    cases h with
    | cons ha ht =>
      refine .tup (.cons ?_ ht)
      cases ha with
      | v h =>
        refine .v fun ρ => ?_
        cases h ρ with
        | c h => cases h
        | a a1 a2 => first | exact .a (hc.len ▸ a1) (hc.den a2) | exact .a hc.len.symm (hc.den a2) | exact .a hc.len.symm (hc.den a1)
      | a hl h => exact .a (hc.len ▸ hl) (hc.den h)
theorem zeroUpS {P : Program} {f : Nat} {args : List SV} {outs : List (Option (List CV))} {c : Int} (h : CallX P f args outs (.tup [.a 4 [J 0, J 0, .ows 152 3 [], .ows 239 8 []], I c])) : CallX P f args outs (.tup [.a 4 (softA zA), I c]) :=
  CallX.ownUpO h (.same (.same (.up (.same .nil))))
theorem l08Step_ok (a : XArchive) (e : XEvent) (hw : WA a) (he : EA e) (hk9 : 1 ≤ e.kind ∧ e.kind ≤ 9) : CallX Tryz.prog 99 [.c (.op (encArchive a)), .c (.rp 9 (encEvent e))] [some [.op (encArchive a)], none] (.tup [.a 4 (softA (stepO a e).2), I (stepO a e).1]) := by
  have hc := hw.ca
  unfold stepO
  by_cases h0 : (doA a e).1 = 0
  · rw [if_pos h0]
    refine callX_of_vc htb hm Tryz.func99 rfl rfl rfl rfl (ann := fun _ => none) (gh := fun reg_ => match reg_ with | 2 => true | _ => false) ?_
    repeat' ((conv => whnf); first | (guard_target = Done _; refine Done.mk ?_) | (guard_target = RetX _ _; refine RetX.mk ?_ ?_) | (guard_target = Fact _ _; refine Fact.mk fun hL => ?_; (try simp only [List.length_map, maxLen] at hL)) | (guard_target = Branch _ _ _; (first | apply Branch.dec | apply Branch.beq | apply Branch.bne | apply Branch.ndec | apply Branch.nb | apply Branch.mk) <;> intro h <;> (try simp only [List.length_map] at h) <;> (try omega) <;> (try contradiction)) | (guard_target = CallN _ 157 _ _ _ _; refine CallN.gen [true, false] _ _ _ rfl (l08Do_ok a e hw he hk9) rfl rfl _ rfl ?_) | (guard_target = CallN _ 73 _ _ _ _; refine CallN.own _ _ rfl (l08Own_ok a hc) (pure_arch a) _ rfl ?_) | (guard_target = Gh _ _ _ _ _; refine Gh.soft 4 (b' := .orow none 152 3 (a.servers.map softS)) (.orow (softL_srv _)) (Gh.soft 5 (softB_pkt _ _) (Gh.go ?_))) | (guard_target = Arith _ _ _; refine Arith.fit (by apply wrap_fit <;> first | omega | (simp only [List.length_map]; omega)) ?_) | (guard_target = Arith _ _ _; refine Arith.fit (by decide) ?_) | (guard_target = Index _ _ _; first  | refine Index.mk _ (idx_map (by omega)) ?_) | (guard_target = Need (_ = true) _; refine Need.mk (by first | kernel_rfl | rfl) ?_) | (guard_target = LinkV _ _ _; refine LinkV.no ?_) | (guard_target = GhO _ _ _ _; refine GhO.go ?_) | (guard_target = Need _ _; refine Need.mk (by first  | omega | (simp only [List.length_map]; omega)) ?_))
    all_goals first | rfl | exact ⟨rfl, trivial⟩ | (exfalso; omega) | (rw [h0]; rfl) | (exfalso; contradiction)
  · rw [if_neg h0]
    refine zeroUpS ?_
    refine callX_of_vc htb hm Tryz.func99 rfl rfl rfl rfl (ann := fun _ => none) (gh := fun reg_ => match reg_ with | 2 => true | _ => false) ?_
    repeat' ((conv => whnf); first | (guard_target = Done _; refine Done.mk ?_) | (guard_target = RetX _ _; refine RetX.mk ?_ ?_) | (guard_target = Fact _ _; refine Fact.mk fun hL => ?_; (try simp only [List.length_map, maxLen] at hL)) | (guard_target = Branch _ _ _; (first | apply Branch.dec | apply Branch.beq | apply Branch.bne | apply Branch.ndec | apply Branch.nb | apply Branch.mk) <;> intro h <;> (try simp only [List.length_map] at h) <;> (try omega) <;> (try contradiction)) | (guard_target = CallN _ 157 _ _ _ _; refine CallN.gen [true, false] _ _ _ rfl (l08Do_ok a e hw he hk9) rfl rfl _ rfl ?_) | (guard_target = CallN _ 73 _ _ _ _; refine CallN.own _ _ rfl (l08Own_ok a hc) (pure_arch a) _ rfl ?_) | (guard_target = Gh _ _ _ _ _; refine Gh.soft 4 (b' := .orow none 152 3 (a.servers.map softS)) (.orow (softL_srv _)) (Gh.soft 5 (softB_pkt _ _) (Gh.go ?_))) | (guard_target = Arith _ _ _; refine Arith.fit (by apply wrap_fit <;> first | omega | (simp only [List.length_map]; omega)) ?_) | (guard_target = Arith _ _ _; refine Arith.fit (by decide) ?_) | (guard_target = Index _ _ _; first  | refine Index.mk _ (idx_map (by omega)) ?_) | (guard_target = Need (_ = true) _; refine Need.mk (by first | kernel_rfl | rfl) ?_) | (guard_target = LinkV _ _ _; refine LinkV.no ?_) | (guard_target = GhO _ _ _ _; refine GhO.go ?_) | (guard_target = Need _ _; refine Need.mk (by first  | omega | (simp only [List.length_map]; omega)) ?_))
    all_goals first | rfl | exact ⟨rfl, trivial⟩ | (exfalso; omega) | (exfalso; contradiction)
end Go.Proofs.YthgajpkahkhlpaaGreat

namespace Go.Proofs.YthgajpkahkhlpaaGreat
open Go Go.KA Go.Proofs
set_option maxHeartbeats 16000000
set_option maxRecDepth 100000
noncomputable def stepA (a : XArchive) (e : XEvent) : Int × XArchive := if goodVE a e = true then stepO a e else (1, zA)
section
variable (a : XArchive) (e : XEvent) (hx : budArchive a ≤ 1048576) (he : budEvent e ≤ 1048576)
include hx he
end
end Go.Proofs.YthgajpkahkhlpaaGreat

namespace Go.Proofs.YthgajpkahkhlpaaGreat
open Go Go.KA Go.Proofs
set_option maxHeartbeats 16000000
set_option maxRecDepth 100000
/-! ### sizes -/
theorem mkArch6 (a : XArchive) : bsum mkeServer a.servers + bsum mkePacket a.flying ≤ 6 * budArchive a := by
  have h1 := bsum_up (fun s => mkeSe_le s) (Nat.le_refl 6) a.servers
  have h2 := bsum_up (fun s => mkePa_le s) (Nat.le_refl 6) a.flying
  simp only [budArchive]
  omega
theorem bsum_max {α : Type} {f : α → Nat} {M : Nat} : ∀ l : List α, (∀ x ∈ l, f x ≤ M) → bsum f l ≤ l.length * M
  | [], _ => by simp [bsum]
  | x :: xs, h => by
    have h1 := h x (by simp)
    have h2 := bsum_max xs fun y hy => h y (by simp [hy])
    simp only [bsum, List.length_cons, Nat.add_mul]
    omega
theorem budS_max {α : Type} {f : α → Nat} {M N : Nat} (hN : N = M + 1) (l : List α) (h : ∀ x ∈ l, f x ≤ M) : budS f l ≤ l.length * N := by
  have := bsum_max l h
  subst hN
  unfold budS
  rw [Nat.mul_add]
  omega
theorem lmul {n m M : Nat} (h : n ≤ m) : n * M ≤ m * M := Nat.mul_le_mul_right _ h
theorem SA.bud {s : XServer} (h : SA s) : budServer s ≤ 20971540 := by
  have h1 := budS_max (N := 1048577) (by omega) _ h.bn
  have h2 := lmul (M := 1048577) h.n20
  simp only [budServer]
  omega
theorem WA.bud {a : XArchive} (hw : WA a) : budArchive a ≤ 125000000 := by
  have h1 := budS_max (N := 20971541) (by omega) a.servers fun s hs => show budServer s ≤ 20971540 by
    obtain ⟨i, hi, rfl⟩ := List.mem_iff_getElem.1 hs
    have h := hw.srv hi
    rw [getD_eq hi] at h
    exact h.bud
  have h2 := budS_max (f := budPacket) (M := 1048576) (N := 1048577) (by omega) a.flying fun p hp => (hw.mem hp).2.2
  have h5 := lmul (M := 20971541) hw.n5.2
  have h12 := lmul (M := 1048577) hw.f12
  have h0 : budSig a.sig = 0 := rfl
  simp only [budArchive]
  omega
theorem mkWA {a : XArchive} (hw : WA a) : bsum mkeServer a.servers + bsum mkePacket a.flying ≤ 1000000000 := by
  have h1 := mkArch6 a
  have h2 := hw.bud
  omega
theorem toArchive_enc (a : XArchive) (hl : budArchive a ≤ 1048576) : CallX Tryz.prog 23 [.a 4 (encArchive a)] [] (.a 4 (encArchive a)) :=
  (toArchive_ok a hl).soft (.v (.a (by rw [← roArchive]; exact SoftN.roL _)))
theorem heldArchive_own (x : XArchive) (hk : 1 + (bsum mkeServer x.servers + bsum mkePacket x.flying : Nat) ≤ (4611686018427387904 : Int)) : CallF Tryz.prog 36 [.a 4 (roL (ownArchive (mkvArchive x 1))), I 1] (I (1 + (bsum mkeServer x.servers : Nat) + (bsum mkePacket x.flying : Nat))) := by
  rw [roArchive]
  exact heldArchive_mk x 1 (by omega) hk
end Go.Proofs.YthgajpkahkhlpaaGreat
