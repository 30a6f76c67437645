/- The draws of the laws as plain functions of the bytes that they read: next, pick, one, the signature, conditions, programs and worlds; numbers picked are in their bounds, and so many bytes are read. No conditions but those that each says. -/
import Derived.Test.YtaajacnceocpoaaGreatKAH
namespace Go.Proofs.YtaajacnceocpoaaGreat
open Go Go.KA
structure Src where
  code : List UInt8
  pos : Int
  seed : Int
def srcC (s : Src) : List CV := [.ro 1 (s.code.map fun b => [.val (.int .u8 (b.toNat : Int))]), .val (.int .i64 s.pos), .val (.int .u64 s.seed)]
def Src.byte (s : Src) : Int := if s.pos < s.code.length then ((s.code.getD s.pos.toNat 0).toNat : Int) else 0
def Src.seed1 (s : Src) : Int := IntKind.u64.wrap (IntKind.u64.wrap (IntKind.u64.wrap (s.seed * 6364136223846793005) + IntKind.u64.wrap s.byte) + 1442695040888963407)
def nextS (s : Src) : Src := ⟨s.code, s.pos + 1, s.seed1⟩
def farV (x : Int) : Int := IntKind.u64.wrap ((BitVec.ofInt IntKind.u64.bits (x.fdiv (2 ^ 40)) &&& BitVec.ofInt IntKind.u64.bits 255).toNat)
def nextV (s : Src) : Int := if s.pos + 1 ≤ s.code.length then s.byte else farV s.seed1
theorem farV_in (x : Int) : 0 ≤ farV x ∧ farV x ≤ 255 := by
  unfold farV
  have h : (BitVec.ofInt IntKind.u64.bits (x.fdiv (2 ^ 40)) &&& BitVec.ofInt IntKind.u64.bits 255).toNat ≤ 255 := by
    rw [BitVec.toNat_and]
    exact Nat.le_trans Nat.and_le_right (by decide)
  generalize (BitVec.ofInt IntKind.u64.bits (x.fdiv (2 ^ 40)) &&& BitVec.ofInt IntKind.u64.bits 255).toNat = n at h
  simp only [IntKind.wrap, IntKind.bits, IntKind.signed, Bool.false_and]
  have : (n : Int) % 2 ^ 64 = n := by omega
  simp only [this]
  simp
  omega
theorem byte_in (s : Src) : 0 ≤ s.byte ∧ s.byte ≤ 255 := by
  unfold Src.byte
  split
  · have := (s.code.getD s.pos.toNat 0).toNat_lt
    omega
  · omega
theorem nextV_in (s : Src) : 0 ≤ nextV s ∧ nextV s ≤ 255 := by
  unfold nextV
  split
  · exact byte_in s
  · exact farV_in _
def Rd (s : Src) (n : Int) : Prop := 0 ≤ s.pos ∧ s.pos ≤ n
theorem Rd.next {s : Src} {n : Int} (h : Rd s n) : Rd (nextS s) (n + 1) := by
  unfold Rd nextS at *
  simp only
  omega
theorem Rd.mono {s : Src} {n m : Int} (h : Rd s n) (hm : n ≤ m) : Rd s m := by
  unfold Rd at *
  omega
def pickV (s : Src) (n : Int) : Int := if n ≤ 1 then 0 else if n > 200 then (nextV s * 256 + nextV (nextS s)).tmod n else (nextV s).tmod n
def pickS (s : Src) (n : Int) : Src := if n ≤ 1 then s else if n > 200 then nextS (nextS s) else nextS s
theorem pickV_in (s : Src) {n : Int} (h : 0 < n) : 0 ≤ pickV s n ∧ pickV s n < n := by
  have h1 := nextV_in s
  have h2 := nextV_in (nextS s)
  unfold pickV
  split
  · omega
  · split
    · exact ⟨Int.tmod_nonneg _ (by omega), Int.tmod_lt_of_pos _ h⟩
    · exact ⟨Int.tmod_nonneg _ (by omega), Int.tmod_lt_of_pos _ h⟩
theorem pickV_lo (s : Src) (n : Int) : 0 ≤ pickV s n := by
  have h1 := nextV_in s
  have h2 := nextV_in (nextS s)
  unfold pickV
  split
  · omega
  · split
    · exact Int.tmod_nonneg _ (by omega)
    · exact Int.tmod_nonneg _ (by omega)
theorem Rd.pick {s : Src} {n : Int} (h : Rd s n) (k : Int) : Rd (pickS s k) (n + 2) := by
  unfold pickS
  split
  · exact h.mono (by omega)
  · split
    · exact h.next.next.mono (by omega)
    · exact h.next.mono (by omega)
def oneB (s : Src) (n : Int) : Bool := pickV s n == 0
def sigS (s : Src) : Src := pickS (pickS (pickS s 2) 2) 12
def drawSig (s : Src) : XSig × Src :=
  let t := 1 + pickV s 2
  let a := 1 + pickV (pickS s 2) 2
  let k := pickV (pickS (pickS s 2) 2) 12
  if k = 0 then (⟨pickV (sigS s) 4, a⟩, pickS (sigS s) 4)
  else if k = 1 then (⟨t, pickV (sigS s) 5⟩, pickS (sigS s) 5)
  else (⟨t, a⟩, sigS s)
theorem drawSig_in (s : Src) : 0 ≤ (drawSig s).1.tests ∧ (drawSig s).1.tests ≤ 3 ∧ 0 ≤ (drawSig s).1.actions ∧ (drawSig s).1.actions ≤ 4 := by
  have h1 := pickV_in s (n := 2) (by omega)
  have h2 := pickV_in (pickS s 2) (n := 2) (by omega)
  have h3 := pickV_in (sigS s) (n := 4) (by omega)
  have h4 := pickV_in (sigS s) (n := 5) (by omega)
  unfold drawSig
  simp only
  split
  · simp only; omega
  · split
    · simp only; omega
    · simp only; omega
theorem Rd.sig {s : Src} {n : Int} (h : Rd s n) : Rd (drawSig s).2 (n + 8) := by
  have h0 : Rd (sigS s) (n + 6) := (((h.pick 2).pick 2).pick 12).mono (by omega)
  unfold drawSig
  simp only
  split
  · exact (h0.pick 4).mono (by omega)
  · split
    · exact (h0.pick 5).mono (by omega)
    · exact h0.mono (by omega)
structure Gen where
  s : Src
  left : Int
def genC (r : Gen) (g : XSig) : List CV := [.op (srcC r.s), .val (.int .i64 g.tests), .val (.int .i64 g.actions), .val (.int .i64 r.left)]
def leaf0 (s : Src) : XExpr × Src := (.mk (1 + pickV s 2) 0 [], pickS s 2)
def leaf1 (g : XSig) (s : Src) : XExpr × Src :=
  if g.tests > 0 then
    if oneB s 4 then leaf0 (pickS s 4) else (.mk 3 (pickV (pickS s 4) g.tests) [], pickS (pickS s 4) g.tests)
  else leaf0 s
def leafD (g : XSig) (c : Bool) (s : Src) : XExpr × Src :=
  if c = false ∧ g.actions > 0 then
    if oneB s 3 then leaf1 g (pickS s 3) else (.mk 4 (pickV (pickS s 3) g.actions) [], pickS (pickS s 3) g.actions)
  else leaf1 g s
def pairX (k : Int) (a b : XExpr) : XExpr := .mk k 0 [a, b]
def halfB (c : Bool) (s : Src) (n : Int) : Bool := if c then true else oneB s n
def halfS (c : Bool) (s : Src) (n : Int) : Src := if c then s else pickS s n
def leafR (g : XSig) (c : Bool) (r : Gen) (s : Src) : XExpr × Gen := ((leafD g c s).1, ⟨(leafD g c s).2, r.left - 1⟩)
def exprE (g : XSig) : Nat → Bool → Gen → XExpr × Gen
  | 0, c, r => leafR g c r r.s
  | d + 1, c, r =>
    if r.left - 1 < 1 then leafR g c r r.s
    else if oneB r.s 6 then leafR g c r (pickS r.s 6)
    else
      let k := pickV (pickS r.s 6) 10
      let r1 : Gen := ⟨pickS (pickS r.s 6) 10, r.left - 1⟩
      if k = 0 ∨ (c = true ∧ k < 4) then (.mk 5 0 [(exprE g d true r1).1], (exprE g d true r1).2)
      else if k < 4 then (.mk 8 0 [(exprE g d false r1).1], (exprE g d false r1).2)
      else
        let a := exprE g d (halfB c r1.s 5) ⟨halfS c r1.s 5, r1.left⟩
        let b := exprE g d (halfB c a.2.s 6) ⟨halfS c a.2.s 6, a.2.left⟩
        (pairX (if k < 6 then 6 else 7) a.1 b.1, b.2)
theorem Rd.half {s : Src} {n : Int} (h : Rd s n) (c : Bool) (k : Int) : Rd (halfS c s k) (n + 2) := by
  unfold halfS
  split
  · exact h.mono (by omega)
  · exact h.pick k
theorem Rd.dleaf0 {s : Src} {n : Int} (h : Rd s n) : Rd (leaf0 s).2 (n + 2) := h.pick 2
theorem Rd.dleaf1 {s : Src} {n : Int} (h : Rd s n) (g : XSig) : Rd (leaf1 g s).2 (n + 4) := by
  unfold leaf1
  split
  · split
    · exact ((h.pick 4).dleaf0).mono (by omega)
    · exact ((h.pick 4).pick g.tests).mono (by omega)
  · exact h.dleaf0.mono (by omega)
theorem Rd.dleafD {s : Src} {n : Int} (h : Rd s n) (g : XSig) (c : Bool) : Rd (leafD g c s).2 (n + 6) := by
  unfold leafD
  split
  · split
    · exact ((h.pick 3).dleaf1 g).mono (by omega)
    · exact ((h.pick 3).pick g.actions).mono (by omega)
  · exact (h.dleaf1 g).mono (by omega)
def costE (d : Nat) : Int := 20 * 3 ^ d
theorem costE_succ (d : Nat) : costE (d + 1) = 3 * costE d := by unfold costE; rw [Int.pow_succ]; omega
theorem costE_lo : ∀ d : Nat, 20 ≤ costE d
  | 0 => by decide
  | d + 1 => by have := costE_lo d; rw [costE_succ]; omega
theorem Rd.expr (g : XSig) : ∀ (d : Nat) (c : Bool) (r : Gen) {n : Int}, Rd r.s n → Rd (exprE g d c r).2.s (n + costE d)
  | 0, c, r, n, h => by
    have := costE_lo 0
    exact (h.dleafD g c).mono (by omega)
  | d + 1, c, r, n, h => by
    have h1 := costE_lo d
    have h2 := costE_succ d
    have hp := (h.pick 6).pick 10
    unfold exprE
    split
    · exact (h.dleafD g c).mono (by omega)
    · split
      · exact ((h.pick 6).dleafD g c).mono (by omega)
      · simp only
        split
        · exact (Rd.expr g d true ⟨_, _⟩ hp).mono (by omega)
        · split
          · exact (Rd.expr g d false ⟨_, _⟩ hp).mono (by omega)
          · have ha := Rd.expr g d (halfB c (pickS (pickS r.s 6) 10) 5) ⟨halfS c (pickS (pickS r.s 6) 10) 5, r.left - 1⟩ (hp.half c 5)
            exact (Rd.expr g d _ ⟨_, _⟩ (ha.half c 6)).mono (by omega)
def testE (g : XSig) (s : Src) : XExpr := .mk 3 (pickV s g.tests) []
def condE (g : XSig) (s : Src) : XExpr × Src :=
  if g.tests > 0 then
    if oneB s 3 then ((exprE g 3 true ⟨pickS s 3, 5⟩).1, (exprE g 3 true ⟨pickS s 3, 5⟩).2.s)
    else if oneB (pickS (pickS s 3) g.tests) 3 then (.mk 5 0 [testE g (pickS s 3)], pickS (pickS (pickS s 3) g.tests) 3)
    else (testE g (pickS s 3), pickS (pickS (pickS s 3) g.tests) 3)
  else ((exprE g 3 true ⟨s, 5⟩).1, (exprE g 3 true ⟨s, 5⟩).2.s)
theorem Rd.cond {s : Src} {n : Int} (h : Rd s n) (g : XSig) : Rd (condE g s).2 (n + 600) := by
  have e : costE 3 = 540 := rfl
  unfold condE
  split
  · split
    · exact (Rd.expr g 3 true ⟨_, _⟩ (h.pick 3)).mono (by omega)
    · split
      · exact (((h.pick 3).pick g.tests).pick 3).mono (by omega)
      · exact (((h.pick 3).pick g.tests).pick 3).mono (by omega)
  · exact (Rd.expr g 3 true ⟨_, _⟩ h).mono (by omega)
def noE : XExpr := .mk 0 0 []
def endP (g : XSig) (k : Int) (s : Src) : XProg × Src :=
  if g.actions > 0 ∧ k ≠ 2 then (.mk 3 (pickV s g.actions) noE [], pickS s g.actions)
  else if pickV s 4 = 0 then (.mk 2 0 noE [], pickS s 4)
  else if pickV s 4 = 1 then (.mk 4 0 (condE g (pickS s 4)).1 [], (condE g (pickS s 4)).2)
  else (.mk 1 0 noE [], pickS s 4)
def endR (g : XSig) (r : Gen) : XProg × Gen := ((endP g (pickV r.s 12) (pickS r.s 12)).1, ⟨(endP g (pickV r.s 12) (pickS r.s 12)).2, r.left - 1⟩)
def progP (g : XSig) : Nat → Gen → XProg × Gen
  | 0, r => endR g r
  | d + 1, r =>
    let k := pickV r.s 12
    if r.left - 1 < 1 ∨ k < 3 then endR g r
    else if k < 6 then
      let a := progP g d ⟨pickS r.s 12, r.left - 1⟩
      let b := progP g d a.2
      (.mk 5 0 noE [a.1, b.1], b.2)
    else
      let c := condE g (pickS r.s 12)
      let a := progP g d ⟨c.2, r.left - 1⟩
      if k < 9 then
        let b := progP g d a.2
        (.mk 6 0 c.1 [a.1, b.1], b.2)
      else (.mk 7 0 c.1 [a.1], a.2)
theorem Rd.dendP {s : Src} {n : Int} (h : Rd s n) (g : XSig) (k : Int) : Rd (endP g k s).2 (n + 602) := by
  unfold endP
  split
  · exact (h.pick g.actions).mono (by omega)
  · split
    · exact (h.pick 4).mono (by omega)
    · split
      · exact ((h.pick 4).cond g).mono (by omega)
      · exact (h.pick 4).mono (by omega)
def costP (d : Nat) : Int := 700 * 3 ^ d
theorem costP_succ (d : Nat) : costP (d + 1) = 3 * costP d := by unfold costP; rw [Int.pow_succ]; omega
theorem costP_lo : ∀ d : Nat, 700 ≤ costP d
  | 0 => by decide
  | d + 1 => by have := costP_lo d; rw [costP_succ]; omega
theorem Rd.prog (g : XSig) : ∀ (d : Nat) (r : Gen) {n : Int}, Rd r.s n → Rd (progP g d r).2.s (n + costP d)
  | 0, r, n, h => by
    have := costP_lo 0
    exact ((h.pick 12).dendP g _).mono (by omega)
  | d + 1, r, n, h => by
    have h1 := costP_lo d
    have h2 := costP_succ d
    have he : Rd (endR g r).2.s (n + costP (d + 1)) := ((h.pick 12).dendP g _).mono (by omega)
    unfold progP
    simp only
    split
    · exact he
    · split
      · have ha := Rd.prog g d ⟨pickS r.s 12, r.left - 1⟩ (h.pick 12)
        exact (Rd.prog g d _ ha).mono (by omega)
      · have ha := Rd.prog g d ⟨(condE g (pickS r.s 12)).2, r.left - 1⟩ ((h.pick 12).cond g)
        split
        · exact (Rd.prog g d _ ha).mono (by omega)
        · exact ha.mono (by omega)
/-! ### What is drawn is small -/
theorem two_pow_succ (d : Nat) : 2 ^ (d + 1) = 2 * 2 ^ d := by rw [Nat.pow_succ]; omega
theorem leafD_bud (g : XSig) (c : Bool) (s : Src) : budExpr (leafD g c s).1 = 0 := by
  have h0 : ∀ s, budExpr (leaf0 s).1 = 0 := fun s => rfl
  have h1 : ∀ s, budExpr (leaf1 g s).1 = 0 := by
    intro s
    unfold leaf1
    split
    · split
      · exact h0 _
      · rfl
    · exact h0 _
  unfold leafD
  split
  · split
    · exact h1 _
    · rfl
  · exact h1 _
theorem exprE_bud (g : XSig) : ∀ (d : Nat) (c : Bool) (r : Gen), budExpr (exprE g d c r).1 + 2 ≤ 2 ^ (d + 1)
  | 0, c, r => by
    have := leafD_bud g c r.s
    show budExpr (leafD g c r.s).1 + 2 ≤ 2
    omega
  | d + 1, c, r => by
    have hp := two_pow_succ (d + 1)
    have h0 : 2 ≤ 2 ^ (d + 1) := by have := two_pow_succ d; have : 0 < 2 ^ d := Nat.pow_pos (by omega); omega
    unfold exprE
    split
    · have := leafD_bud g c r.s
      show budExpr (leafD g c r.s).1 + 2 ≤ _
      omega
    · split
      · have := leafD_bud g c (pickS r.s 6)
        show budExpr (leafD g c (pickS r.s 6)).1 + 2 ≤ _
        omega
      · simp only
        split
        · have := exprE_bud g d true ⟨pickS (pickS r.s 6) 10, r.left - 1⟩
          simp only [budExpr, budExprS]
          omega
        · split
          · have := exprE_bud g d false ⟨pickS (pickS r.s 6) 10, r.left - 1⟩
            simp only [budExpr, budExprS]
            omega
          · simp only [pairX, budExpr, budExprS]
            have h1 := exprE_bud g d (halfB c (pickS (pickS r.s 6) 10) 5) ⟨halfS c (pickS (pickS r.s 6) 10) 5, r.left - 1⟩
            have h2 := exprE_bud g d (halfB c (exprE g d (halfB c (pickS (pickS r.s 6) 10) 5) ⟨halfS c (pickS (pickS r.s 6) 10) 5, r.left - 1⟩).2.s 6) ⟨halfS c (exprE g d (halfB c (pickS (pickS r.s 6) 10) 5) ⟨halfS c (pickS (pickS r.s 6) 10) 5, r.left - 1⟩).2.s 6, (exprE g d (halfB c (pickS (pickS r.s 6) 10) 5) ⟨halfS c (pickS (pickS r.s 6) 10) 5, r.left - 1⟩).2.left⟩
            omega
theorem condE_bud (g : XSig) (s : Src) : budExpr (condE g s).1 ≤ 14 := by
  have h : ∀ r, budExpr (exprE g 3 true r).1 ≤ 14 := fun r => by have := exprE_bud g 3 true r; omega
  unfold condE
  split
  · split
    · exact h _
    · split
      · simp only [testE, budExpr, budExprS]; omega
      · simp only [testE, budExpr, budExprS]; omega
  · exact h _
inductive DrawnP : XProg → Prop
  | leaf {k n c} (h : k = 1 ∨ k = 2 ∨ k = 3 ∨ k = 4) : DrawnP (.mk k n c [])
  | seq {a b} (ha : DrawnP a) (hb : DrawnP b) : DrawnP (.mk 5 0 noE [a, b])
  | cond {c a b} (ha : DrawnP a) (hb : DrawnP b) : DrawnP (.mk 6 0 c [a, b])
  | loop {c a} (ha : DrawnP a) : DrawnP (.mk 7 0 c [a])
theorem endP_ok (g : XSig) (k : Int) (s : Src) : DrawnP (endP g k s).1 ∧ budProg (endP g k s).1 ≤ 14 := by
  have h := condE_bud g (pickS s 4)
  unfold endP
  split
  · exact ⟨.leaf (by omega), by simp [budProg, budProgS, noE, budExpr, budExprS]⟩
  · split
    · exact ⟨.leaf (by omega), by simp [budProg, budProgS, noE, budExpr, budExprS]⟩
    · split
      · exact ⟨.leaf (by omega), by simp only [budProg, budProgS]; omega⟩
      · exact ⟨.leaf (by omega), by simp [budProg, budProgS, noE, budExpr, budExprS]⟩
theorem progP_ok (g : XSig) : ∀ (d : Nat) (r : Gen), DrawnP (progP g d r).1 ∧ budProg (progP g d r).1 + 16 ≤ 30 * 2 ^ d
  | 0, r => by
    obtain ⟨h1, h2⟩ := endP_ok g (pickV r.s 12) (pickS r.s 12)
    exact ⟨h1, by show budProg (endP g (pickV r.s 12) (pickS r.s 12)).1 + 16 ≤ 30; omega⟩
  | d + 1, r => by
    have hp := two_pow_succ d
    have h0 : 0 < 2 ^ d := Nat.pow_pos (by omega)
    have he : DrawnP (endR g r).1 ∧ budProg (endR g r).1 + 16 ≤ 30 * 2 ^ (d + 1) := by
      obtain ⟨h1, h2⟩ := endP_ok g (pickV r.s 12) (pickS r.s 12)
      refine ⟨h1, ?_⟩
      show budProg (endP g (pickV r.s 12) (pickS r.s 12)).1 + 16 ≤ _
      omega
    unfold progP
    simp only
    split
    · exact he
    · split
      · obtain ⟨a1, a2⟩ := progP_ok g d ⟨pickS r.s 12, r.left - 1⟩
        obtain ⟨b1, b2⟩ := progP_ok g d (progP g d ⟨pickS r.s 12, r.left - 1⟩).2
        refine ⟨.seq a1 b1, ?_⟩
        simp only [budProg, budProgS, noE, budExpr, budExprS]
        omega
      · have hc := condE_bud g (pickS r.s 12)
        obtain ⟨a1, a2⟩ := progP_ok g d ⟨(condE g (pickS r.s 12)).2, r.left - 1⟩
        split
        · obtain ⟨b1, b2⟩ := progP_ok g d (progP g d ⟨(condE g (pickS r.s 12)).2, r.left - 1⟩).2
          refine ⟨.cond a1 b1, ?_⟩
          simp only [budProg, budProgS]
          omega
        · refine ⟨.loop a1, ?_⟩
          simp only [budProg, budProgS]
          omega
end Go.Proofs.YtaajacnceocpoaaGreat

namespace Go.Proofs.YtaajacnceocpoaaGreat
open Go Go.KA
def iterS (f : Src → Src) (s : Src) : Nat → Src
  | 0 => s
  | i + 1 => f (iterS f s i)
def runV {α : Type} (v : Src → α) (f : Src → Src) (s : Src) (n : Nat) : List α := (List.range n).map fun j => v (iterS f s j)
theorem runV_succ {α : Type} (v : Src → α) (f : Src → Src) (s : Src) (n : Nat) : runV v f s (n + 1) = runV v f s n ++ [v (iterS f s n)] := by
  simp [runV, List.range_succ]
theorem runV_len {α : Type} (v : Src → α) (f : Src → Src) (s : Src) (n : Nat) : (runV v f s n).length = n := by simp [runV]
theorem Rd.iter {f : Src → Src} {k : Int} (hk : 0 ≤ k) (hf : ∀ s n, Rd s n → Rd (f s) (n + k)) {s : Src} {n : Int} (h : Rd s n) : ∀ i : Nat, Rd (iterS f s i) (n + k * i)
  | 0 => by simpa [iterS] using h
  | i + 1 => by
    have := hf _ _ (Rd.iter hk hf h i)
    have e : n + k * ((i + 1 : Nat) : Int) = n + k * i + k := by rw [Int.natCast_add, Int.mul_add]; simp; omega
    rw [e]
    exact this
def amongV (l : List Int) (s : Src) : Int := l.getD (pickV s l.length).toNat 0
def amongS (l : List Int) (s : Src) : Src := pickS s l.length
def cellV (n : Int) (s : Src) : Int := if oneB s 10 then -1 else pickV (pickS s 10) n
def cellS (n : Int) (s : Src) : Src := if oneB s 10 then pickS s 10 else pickS (pickS s 10) n
theorem Rd.cell {s : Src} {m : Int} (h : Rd s m) (n : Int) : Rd (cellS n s) (m + 4) := by
  unfold cellS
  split
  · exact (h.pick 10).mono (by omega)
  · exact ((h.pick 10).pick n).mono (by omega)
def rowV (n : Nat) (s : Src) : List Int := runV (cellV n) (cellS n) s n
def rowS (n : Nat) (s : Src) : Src := iterS (cellS n) s n
theorem Rd.row {s : Src} {m : Int} (h : Rd s m) (n : Nat) : Rd (rowS n s) (m + 4 * n) := Rd.iter (by omega) (fun _ _ h => h.cell n) h n
theorem rowV_len (n : Nat) (s : Src) : (rowV n s).length = n := runV_len _ _ _ _
def statesN (s : Src) : Nat := (1 + pickV s 6).toNat
theorem statesN_in (s : Src) : 1 ≤ statesN s ∧ statesN s ≤ 6 ∧ (statesN s : Int) = 1 + pickV s 6 := by
  have := pickV_in s (n := 6) (by omega)
  unfold statesN
  omega
def atomV (A : Int) (s : Src) : Int := (pickV s 8).tmod A
def atomS (s : Src) : Src := pickS s 8
def actsN (g : XSig) : Nat := if g.actions < 0 then 0 else if g.actions < 4 then g.actions.toNat else 4
def atomsW (A : Int) (s : Src) : List Int := runV (atomV A) atomS (pickS s 6) (statesN s)
def actsF (s : Src) : Src := iterS atomS (pickS s 6) (statesN s)
def actsW (g : XSig) (s : Src) : List (List Int) := runV (rowV (statesN s)) (rowS (statesN s)) (actsF s) (actsN g)
def endS (g : XSig) (s : Src) : Src := iterS (rowS (statesN s)) (actsF s) (actsN g)
def bendHead (v : Int) : List (List Int) → List (List Int)
  | [] => []
  | [] :: rs => [] :: rs
  | (_ :: xs) :: rs => (v :: xs) :: rs
def bendAtom (v : Int) : List Int → List Int
  | [] => []
  | _ :: xs => v :: xs
def worldD (A : Int) (g : XSig) (s : Src) : List Int × List (List Int) :=
  let e := endS g s
  let k := pickV e 30
  if k = 0 then (bendAtom (amongV [-1, 8] (pickS e 30)) (atomsW A s), actsW g s)
  else if k = 1 then (atomsW A s, actsW g s ++ [[0]])
  else if k = 2 ∧ actsN g ≠ 0 then (atomsW A s, bendHead (amongV [-2, statesN s] (pickS e 30)) (actsW g s))
  else (atomsW A s, actsW g s)
def worldS (g : XSig) (s : Src) : Src :=
  let e := endS g s
  let k := pickV e 30
  if k = 0 then pickS (pickS e 30) 2
  else if k = 2 ∧ actsN g ≠ 0 then pickS (pickS e 30) 2
  else pickS e 30
end Go.Proofs.YtaajacnceocpoaaGreat

namespace Go.Proofs.YtaajacnceocpoaaGreat
open Go Go.KA Go.Proofs
set_option maxHeartbeats 16000000
set_option maxRecDepth 100000
theorem idx_u8 {l : List UInt8} {i : Nat} (h : i < l.length) : (l.map fun b => [CV.val (.int .u8 (b.toNat : Int))])[i]? = some [.val (.int .u8 ((l.getD i 0).toNat : Int))] := by
  rw [List.getElem?_map, List.getElem?_eq_getElem h, List.getD_eq_getElem?_getD, List.getElem?_eq_getElem h]
  rfl
theorem far_fit (x : Int) : IntKind.i64.wrap (farV x) = farV x := wrap_fit (by have := farV_in x; omega) (by have := farV_in x; omega)
section
variable (s : Src) (hs : Rd s 1000000) (hc : s.code.length ≤ 1000000)
include hs hc
theorem next_ok : CallX Tryz.prog 120 [.c (.op (srcC s))] [some [.op (srcC (nextS s))]] (I (nextV s)) := by
  obtain ⟨code, pos, seed⟩ := s
  have h1 := hs.1
  have h2 := hs.2
  simp only [] at h1 h2 hc
  have hbt := (code.getD pos.toNat 0).toNat_lt
  have hlen : (code.map fun b => [CV.val (.int .u8 (b.toNat : Int))]).length = code.length := List.length_map _
  by_cases hp : pos < code.length
  · have hb : Src.byte ⟨code, pos, seed⟩ = ((code.getD pos.toNat 0).toNat : Int) := if_pos hp
    have hn : nextV ⟨code, pos, seed⟩ = Src.byte ⟨code, pos, seed⟩ := if_pos (show pos + 1 ≤ (code.length : Int) by omega)
    rw [hn]
    simp only [nextS, srcC, Src.seed1, hb]
    refine callX_of_vc htb hm Tryz.func120 rfl rfl rfl rfl (ann := fun _ => none) (gh := fun _ => false) ?_
    repeat' ((conv => whnf); first | (guard_target = RetX _ _; refine RetX.mk ?_ ?_) | (guard_target = Fact _ _; refine Fact.mk fun hL => ?_; (try simp only [List.length_map, maxLen] at hL)) | (guard_target = Branch _ _ _; (first | apply Branch.dec | apply Branch.beq | apply Branch.bne | apply Branch.ndec | apply Branch.nb | apply Branch.mk) <;> intro h <;> (try simp only [List.length_map] at h) <;> (try omega) <;> (try contradiction)) | (guard_target = Arith .u64 _ _; refine Arith.wrap ?_) | (guard_target = Arith _ _ _; (first | refine Arith.fit (wrap_fit (by omega) (by omega)) ?_ | refine Arith.fit (far_fit _) ?_)) | (guard_target = Need _ _; refine Need.mk (by omega) ?_) | (guard_target = Arith _ _ _; refine Arith.fit (by apply wrap_fit <;> first | omega | (simp only [List.length_map]; omega)) ?_) | (guard_target = Arith _ _ _; refine Arith.fit (by decide) ?_) | (guard_target = Index _ _ _; first | refine Index.mk _ (idx_u8 (by omega)) ?_ | refine Index.mk _ (idx_map (by omega)) ?_) | (guard_target = Need (_ = true) _; refine Need.mk (by first | kernel_rfl | rfl) ?_) | (guard_target = LinkV _ _ _; refine LinkV.no ?_) | (guard_target = GhO _ _ _ _; refine GhO.go ?_) | (guard_target = Need _ _; refine Need.mk (by first  | omega | (simp only [List.length_map]; omega)) ?_))
    all_goals first | rfl | exact ⟨rfl, trivial⟩ | (exfalso; simp at *; omega)
  · have hb : Src.byte ⟨code, pos, seed⟩ = 0 := if_neg hp
    have hn : nextV ⟨code, pos, seed⟩ = farV (Src.seed1 ⟨code, pos, seed⟩) := if_neg (show ¬ pos + 1 ≤ (code.length : Int) by omega)
    rw [hn]
    simp only [nextS, srcC, Src.seed1, hb]
    refine callX_of_vc htb hm Tryz.func120 rfl rfl rfl rfl (ann := fun _ => none) (gh := fun _ => false) ?_
    repeat' ((conv => whnf); first | (guard_target = RetX _ _; refine RetX.mk ?_ ?_) | (guard_target = Fact _ _; refine Fact.mk fun hL => ?_; (try simp only [List.length_map, maxLen] at hL)) | (guard_target = Branch _ _ _; (first | apply Branch.dec | apply Branch.beq | apply Branch.bne | apply Branch.ndec | apply Branch.nb | apply Branch.mk) <;> intro h <;> (try simp only [List.length_map] at h) <;> (try omega) <;> (try contradiction)) | (guard_target = Arith .u64 _ _; refine Arith.wrap ?_) | (guard_target = Arith _ _ _; (first | refine Arith.fit (wrap_fit (by omega) (by omega)) ?_ | refine Arith.fit (far_fit _) ?_)) | (guard_target = Need _ _; refine Need.mk (by omega) ?_) | (guard_target = Arith _ _ _; refine Arith.fit (by apply wrap_fit <;> first | omega | (simp only [List.length_map]; omega)) ?_) | (guard_target = Arith _ _ _; refine Arith.fit (by decide) ?_) | (guard_target = Index _ _ _; first  | refine Index.mk _ (idx_map (by omega)) ?_) | (guard_target = Need (_ = true) _; refine Need.mk (by first | kernel_rfl | rfl) ?_) | (guard_target = LinkV _ _ _; refine LinkV.no ?_) | (guard_target = GhO _ _ _ _; refine GhO.go ?_) | (guard_target = Need _ _; refine Need.mk (by first  | omega | (simp only [List.length_map]; omega)) ?_))
    all_goals first | rfl | exact ⟨rfl, trivial⟩ | (exfalso; simp at *; omega)
end
section
variable (s : Src) (hs : Rd s 900000) (hc : s.code.length ≤ 1000000)
include hs hc
theorem pick_ok (n : Int) (hn : I64 n) : CallX Tryz.prog 57 [.c (.op (srcC s)), I n] [some [.op (srcC (pickS s n))], none] (I (pickV s n)) := by
  have h1 := next_ok s (hs.mono (by omega)) hc
  have h2 := next_ok (nextS s) (hs.next.mono (by omega)) hc
  have b1 := nextV_in s
  have b2 := nextV_in (nextS s)
  unfold I64 at hn
  unfold pickS pickV
  by_cases g1 : n ≤ 1
  · rw [if_pos g1, if_pos g1]
    refine callX_of_vc htb hm Tryz.func57 rfl rfl rfl rfl (ann := fun _ => none) (gh := fun _ => false) ?_
    repeat' ((conv => whnf); first | (guard_target = RetX _ _; refine RetX.mk ?_ ?_) | (guard_target = Branch _ _ _; (first | apply Branch.dec | apply Branch.beq | apply Branch.bne | apply Branch.ndec | apply Branch.nb | apply Branch.mk) <;> intro h <;> (try simp only [List.length_map] at h) <;> (try omega) <;> (try contradiction)) | (guard_target = Arith _ _ _; refine Arith.fit (by apply wrap_fit <;> first | omega | (simp only [List.length_map]; omega)) ?_) | (guard_target = Arith _ _ _; refine Arith.fit (by decide) ?_) | (guard_target = Need _ _; refine Need.mk (by first  | omega | (simp only [List.length_map]; omega)) ?_))
    all_goals first | rfl | exact ⟨rfl, trivial⟩ | (exfalso; simp at *; omega)
  rw [if_neg g1, if_neg g1]
  by_cases g2 : n > 200
  · rw [if_pos g2, if_pos g2]
    refine callX_of_vc htb hm Tryz.func57 rfl rfl rfl rfl (ann := fun _ => none) (gh := fun _ => false) ?_
    repeat' ((conv => whnf); first | (guard_target = RetX _ _; refine RetX.mk ?_ ?_) | (guard_target = Branch _ _ _; (first | apply Branch.dec | apply Branch.beq | apply Branch.bne | apply Branch.ndec | apply Branch.nb | apply Branch.mk) <;> intro h <;> (try simp only [List.length_map] at h) <;> (try omega) <;> (try contradiction)) | (guard_target = CallN _ 120 _ _ _ _; (first | refine CallN.gen [true] _ _ _ rfl h1 rfl rfl _ rfl ?_ | refine CallN.gen [true] _ _ _ rfl h2 rfl rfl _ rfl ?_)) | (guard_target = Arith _ _ _; refine Arith.fit (wrap_fit (by omega) (by omega)) ?_) | (guard_target = Need _ _; refine Need.mk (by omega) ?_) | (guard_target = Arith _ _ _; refine Arith.fit (by apply wrap_fit <;> first | omega | (simp only [List.length_map]; omega)) ?_) | (guard_target = Arith _ _ _; refine Arith.fit (by decide) ?_) | (guard_target = Index _ _ _; first  | refine Index.mk _ (idx_map (by omega)) ?_) | (guard_target = Need (_ = true) _; refine Need.mk (by first | kernel_rfl | rfl) ?_) | (guard_target = LinkV _ _ _; refine LinkV.no ?_) | (guard_target = GhO _ _ _ _; refine GhO.go ?_) | (guard_target = Need _ _; refine Need.mk (by first  | omega | (simp only [List.length_map]; omega)) ?_))
    all_goals first | rfl | exact ⟨rfl, trivial⟩ | (exfalso; simp at *; omega)
  · rw [if_neg g2, if_neg g2]
    refine callX_of_vc htb hm Tryz.func57 rfl rfl rfl rfl (ann := fun _ => none) (gh := fun _ => false) ?_
    repeat' ((conv => whnf); first | (guard_target = RetX _ _; refine RetX.mk ?_ ?_) | (guard_target = Branch _ _ _; (first | apply Branch.dec | apply Branch.beq | apply Branch.bne | apply Branch.ndec | apply Branch.nb | apply Branch.mk) <;> intro h <;> (try simp only [List.length_map] at h) <;> (try omega) <;> (try contradiction)) | (guard_target = CallN _ 120 _ _ _ _; refine CallN.gen [true] _ _ _ rfl h1 rfl rfl _ rfl ?_) | (guard_target = Arith _ _ _; refine Arith.fit (wrap_fit (by omega) (by omega)) ?_) | (guard_target = Need _ _; refine Need.mk (by omega) ?_) | (guard_target = Arith _ _ _; refine Arith.fit (by apply wrap_fit <;> first | omega | (simp only [List.length_map]; omega)) ?_) | (guard_target = Arith _ _ _; refine Arith.fit (by decide) ?_) | (guard_target = Index _ _ _; first  | refine Index.mk _ (idx_map (by omega)) ?_) | (guard_target = Need (_ = true) _; refine Need.mk (by first | kernel_rfl | rfl) ?_) | (guard_target = LinkV _ _ _; refine LinkV.no ?_) | (guard_target = GhO _ _ _ _; refine GhO.go ?_) | (guard_target = Need _ _; refine Need.mk (by first  | omega | (simp only [List.length_map]; omega)) ?_))
    all_goals first | rfl | exact ⟨rfl, trivial⟩ | (exfalso; simp at *; omega)
end
end Go.Proofs.YtaajacnceocpoaaGreat
