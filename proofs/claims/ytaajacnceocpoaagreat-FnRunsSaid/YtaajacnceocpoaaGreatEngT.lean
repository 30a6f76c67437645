/- Part of a proof engine for functions of the given program: what an operation, a loop and a call compute, symbolically. No conditions. -/
import Derived.Test.YtaajacnceocpoaaGreatEngS
import Derived.Laws.StructEq
import Derived.ChangeKeysEq
import Derived.KernelRfl
namespace Go.KA
open Go Go.RowKit

/-! ### Checking a table of types by running -/
def zcB : ZC → Value → Bool
  | .v (.bool false), .bool false => true
  | .v (.int k 0), .int k' 0 => kEq k k'
  | .v (.string x), .string y => Nat.beq x.data.toList.length 0 && Nat.beq y.data.toList.length 0
  | .v .nilFunc, .nilFunc => true
  | .v (.map none), .map none => true
  | .v (.pointer none), .pointer none => true
  | .v .nilIface, .nilIface => true
  | .s _ _, .slice none 0 0 => true
  | _, _ => false
def zcsB : List ZC → List Value → Bool
  | [], [] => true
  | z :: zs, v :: vs => zcB z v && zcsB zs vs
  | _, _ => false
def bEq : Bool → Bool → Bool
  | true, true => true
  | false, false => true
  | _, _ => false
def isAggV : Value → Bool
  | .agg _ => true
  | _ => false
def elemB (P : Program) (d : TypeDesc) : Option (Nat × Nat × Nat) → Bool
  | none => true
  | some (e, sz, by_) => (match d with | .slice e' => Nat.beq e e' | _ => false) && Nat.blt 0 sz &&
    match P.info? e with
    | some inf => Nat.beq inf.size sz && (Nat.beq inf.bytes by_ && match inf.zero with | some z => Nat.beq z.cells.toList.length sz | none => false)
    | none => false
def fldB (P : Program) : List Field → List (Nat × Nat × Nat) → Bool
  | [], [] => true
  | f :: fs, (off, ft, sz) :: is => Nat.beq f.offset off && (Nat.beq f.type ft && (Nat.blt 0 sz && ((match P.info? ft with | some inf => Nat.beq inf.size sz | none => false) && fldB P fs is)))
  | _, _ => false
def fieldsB (P : Program) (d : TypeDesc) (l : List (Nat × Nat × Nat)) : Bool :=
  match l with
  | [] => true
  | l => match d with | .struct fs => fldB P fs.toList l | _ => false
def ikB (d : TypeDesc) : Option IntKind → Bool
  | none => true
  | some k => match d with | .int k' => kEq k k' | _ => false
def isBoolD : TypeDesc → Bool
  | .bool => true
  | _ => false
def isStrD : TypeDesc → Bool
  | .string => true
  | _ => false
def zoneB (i : TyI) : Option Value → Bool
  | none => true
  | some z => match i.agg with | true => true | false => z.oneCell'
def mapKB (P : Program) (d : TypeDesc) : Option (Option IntKind × Nat) → Bool
  | none => true
  | some (k, e) => match d with
    | .map kt e' => Nat.beq e e' && (match P.underlying kt, k with | some (.int k'), some k => kEq k k' | some .string, none => true | _, _ => false)
    | _ => false
def isIntT (P : Program) (t : Nat) : Bool := match P.underlying t with | some (.int _) => true | _ => false
def eq2B (P : Program) (t : Nat) : TypeDesc → Bool
  | .struct fs => match fs.toList with
    | [f, g] => isIntT P f.type && (isIntT P g.type && (Nat.beq f.offset 0 && (Nat.beq g.offset 1 && (f.name != "_" && (g.name != "_" && (!P.eqGuardType P.depth t && !P.stoodInHeld t))))))
    | _ => false
  | _ => false
def orB (a b : Bool) : Bool := match a with | true => b | false => true
def zeroB (i : TyI) : Option Value → Bool
  | none => false
  | some z => zcsB i.zero z.cells.toList && (Nat.beq z.cells.toList.length i.size && orB i.agg (isAggV z))
def tyOkB (P : Program) (t : Nat) (i : TyI) : Bool :=
  match P.info? t, P.underlying t with
  | some inf, some d => Nat.beq inf.size i.size && (bEq d.isRow i.agg && (zeroB i inf.zero && (elemB P d i.elem && (fieldsB P d i.fields && (ikB d i.ik && (orB i.isB (isBoolD d) && (orB i.isS (isStrD d) && (zoneB i inf.zero && mapKB P d i.mapK && orB i.eq2 (eq2B P t d)))))))))
  | _, _ => false
def tblB (P : Program) : List (Nat × TyI) → Bool
  | [] => true
  | (t, i) :: r => tyOkB P t i && tblB P r

theorem bEq_eq {a b : Bool} (h : bEq a b = true) : a = b := by
  cases a <;> cases b <;> first | rfl | exact absurd h (by decide)
theorem orB_eq {a b : Bool} (h : orB a b = true) (ha : a = true) : b = true := by subst ha; exact h
theorem ba_nil {s : ByteArray} (h : s.data.toList.length = 0) : s = ByteArray.empty := by
  obtain ⟨⟨l⟩⟩ := s
  have : l = [] := List.length_eq_zero_iff.1 h
  subst this
  rfl
theorem zcB_eq {z : ZC} {v : Value} (h : zcB z v = true) : z.val = v ∧ z.val.oneCell' = true := by
  unfold zcB at h
  split at h
  · exact ⟨rfl, rfl⟩
  · exact ⟨by rw [kEq_eq h]; rfl, rfl⟩
  · rename_i x y
    simp only [Bool.and_eq_true] at h
    have h1 := ba_nil (Nat.eq_of_beq_eq_true h.1)
    have h2 := ba_nil (Nat.eq_of_beq_eq_true h.2)
    subst h1 h2
    exact ⟨rfl, rfl⟩
  · exact ⟨rfl, rfl⟩
  · exact ⟨rfl, rfl⟩
  · exact ⟨rfl, rfl⟩
  · exact ⟨rfl, rfl⟩
  · exact ⟨rfl, rfl⟩
  · exact absurd h (by decide)
theorem zcsB_eq : ∀ {zs : List ZC} {vs : List Value}, zcsB zs vs = true → vs = zs.map ZC.val ∧ ∀ z ∈ zs, z.val.oneCell' = true
  | [], [], _ => ⟨rfl, by simp⟩
  | [], _ :: _, h => absurd h (by simp [zcsB])
  | _ :: _, [], h => absurd h (by simp [zcsB])
  | z :: zs, v :: vs, h => by
    simp only [zcsB, Bool.and_eq_true] at h
    obtain ⟨h1, h2⟩ := zcB_eq h.1
    obtain ⟨h3, h4⟩ := zcsB_eq h.2
    refine ⟨by rw [h3, ← h1]; rfl, fun x hx => ?_⟩
    rcases List.mem_cons.1 hx with rfl | hx
    · exact h2
    · exact h4 x hx

theorem eq2_of {P : Program} {t : TypeId} {f g : Field} {k1 k2 : IntKind} (hu : P.underlying t = some (.struct #[f, g])) (h1 : P.underlying f.type = some (.int k1)) (h2 : P.underlying g.type = some (.int k2)) (o1 : f.offset = 0) (o2 : g.offset = 1)
    (n1 : (f.name != "_") = true) (n2 : (g.name != "_") = true) (hm : P.eqGuardType P.depth t = false) (hp : P.stoodInHeld t = false) (xo yo : Operand) (a b c d : Int) (k k' : IntKind) (w : World) :
    (do eqGuard .eql t xo yo (.agg #[.int k a, .int k' b]) (.agg #[.int k c, .int k' d]); binOp .eql t (.agg #[.int k a, .int k' b]) (.agg #[.int k c, .int k' d])).run P w = .ok (.bool (a == c && b == d)) w ∧
    (do eqGuard .neq t xo yo (.agg #[.int k a, .int k' b]) (.agg #[.int k c, .int k' d]); binOp .neq t (.agg #[.int k a, .int k' b]) (.agg #[.int k c, .int k' d])).run P w = .ok (.bool (!(a == c && b == d))) w := by
  have hf : P.fieldsOf t = #[f, g] := by simp [Program.fieldsOf, hu]
  have hu' : P.underlying t = some (.struct (P.fieldsOf t)) := by rw [hf]; exact hu
  have n1' : f.name ≠ "_" := by simpa using n1
  have n2' : g.name ≠ "_" := by simpa using n2
  have e : (Op.equalIn 10000 t (.agg #[.int k a, .int k' b]) (.agg #[.int k c, .int k' d])).run P w = .ok (a == c && b == d) w := by
    rw [show (10000 : Nat) = 9998 + 1 + 1 from rfl, run_equalIn_struct w _ t _ _ hu' hp, hf]
    simp only [Op.eqFields, o1, o2, n1', n2', Sem.run_bind, Sem.run_ite, ne_eq, not_false_eq_true, if_true]
    have p1 : ∀ (x y : Value), (part f.type #[x, y] 0).run P w = .ok (if isAggV x then x else x) w ∨ True := fun _ _ => .inr trivial
    have q1 : ∀ (x y : Value), (part f.type #[x, y] 0).run P w = .ok x w := by
      intro x y; simp [part, isAgg, run_underlying h1]
    have q2 : ∀ (x y : Value), (part g.type #[x, y] 1).run P w = .ok y w := by
      intro x y; simp [part, isAgg, run_underlying h2]
    simp only [q1, q2, Result.andThen_ok, run_equalIn_int w _ _ k k1 a c h1, run_equalIn_int w _ _ k' k2 b d h2]
    cases a == c <;> cases b == d <;> simp
  constructor
  · rw [Sem.run_bind, run_eqGuard_agg w _ t xo yo _ _ hm, Result.andThen_ok, run_eql_struct, e]; rfl
  · rw [Sem.run_bind, run_eqGuard_agg w _ t xo yo _ _ hm, Result.andThen_ok, run_neq_struct, e]; rfl

theorem isIntT_eq {P : Program} {t : Nat} (h : isIntT P t = true) : ∃ k, P.underlying t = some (.int k) := by
  unfold isIntT at h
  split at h
  · exact ⟨_, by assumption⟩
  · exact absurd h (by decide)

theorem fldB_get {P : Program} : ∀ {fs : List Field} {is : List (Nat × Nat × Nat)}, fldB P fs is = true → ∀ (n off ft sz : Nat), is[n]? = some (off, ft, sz) → 0 < sz ∧ ∃ f : Field, fs[n]? = some f ∧ f.offset = off ∧ f.type = ft ∧ (P.info? ft).map (·.size) = some sz
  | [], [], _, n, off, ft, sz, h => by simp at h
  | [], _ :: _, h, _, _, _, _, _ => absurd h (by simp [fldB])
  | _ :: _, [], h, _, _, _, _, _ => absurd h (by simp [fldB])
  | f :: fs, (o, t, s) :: is, h, n, off, ft, sz, hn => by
    simp only [fldB, Bool.and_eq_true] at h
    obtain ⟨h1, h2, h3, h4, h5⟩ := h
    cases n with
    | zero =>
      simp only [List.getElem?_cons_zero, Option.some.injEq, Prod.mk.injEq] at hn
      obtain ⟨rfl, rfl, rfl⟩ := hn
      refine ⟨by rw [Nat.blt_eq] at h3; exact h3, f, rfl, Nat.eq_of_beq_eq_true h1, Nat.eq_of_beq_eq_true h2, ?_⟩
      split at h4
      · rename_i inf hi; rw [hi]; simp [Nat.eq_of_beq_eq_true h4]
      · exact absurd h4 (by decide)
    | succ n => exact fldB_get h5 n off ft sz (by simpa using hn)
theorem fldB_places {P : Program} : ∀ {fs : List Field} {is : List (Nat × Nat × Nat)}, fldB P fs is = true → fs.mapM (fun (f : Field) => (P.info? f.type).map fun i => (f.offset, i.size)) = some (is.map fun x => (x.1, x.2.2))
  | [], [], _ => rfl
  | [], _ :: _, h => absurd h (by simp [fldB])
  | _ :: _, [], h => absurd h (by simp [fldB])
  | f :: fs, (o, t, s) :: is, h => by
    simp only [fldB, Bool.and_eq_true] at h
    obtain ⟨h1, h2, h3, h4, h5⟩ := h
    have ih := fldB_places h5
    have e1 := Nat.eq_of_beq_eq_true h1
    have e2 := Nat.eq_of_beq_eq_true h2
    subst e1 e2
    split at h4
    · rename_i inf hi
      have e3 := Nat.eq_of_beq_eq_true h4
      subst e3
      rw [List.mapM_cons, hi, ih]
      rfl
    · exact absurd h4 (by decide)

theorem tyOkB_sound {P : Program} {t : Nat} {i : TyI} (h : tyOkB P t i = true) : TyOk P t i := by
  unfold tyOkB at h
  split at h
  case h_2 => exact absurd h (by decide)
  rename_i inf d hi hu
  simp only [Bool.and_eq_true] at h
  obtain ⟨h1, h2, h3, h4, h5, h6, h7, h8, ⟨h11, h10⟩, h9⟩ := h
  have e1 := Nat.eq_of_beq_eq_true h1
  refine ⟨by rw [hi]; simp [e1], ⟨d, hu, bEq_eq h2⟩, ?_, ?_, ?_, ?_, ?_, ?_, ?_, ?_, ?_, ?_⟩
  · unfold zeroB at h3
    split at h3
    · exact absurd h3 (by decide)
    · rename_i z hz
      simp only [Bool.and_eq_true] at h3
      obtain ⟨g1, g2, g3⟩ := h3
      obtain ⟨z1, z2⟩ := zcsB_eq g1
      refine ⟨inf, z, hi, hz, z1, by simpa using Nat.eq_of_beq_eq_true g2, fun ha => ?_, z2⟩
      have := orB_eq g3 ha
      cases z <;> simp [isAggV] at this
      rfl
  · intro e sz by_ he
    rw [he] at h4
    simp only [elemB, Bool.and_eq_true] at h4
    obtain ⟨⟨g1, g2⟩, g3⟩ := h4
    split at g1
    case h_2 => exact absurd g1 (by decide)
    have := Nat.eq_of_beq_eq_true g1
    subst this
    split at g3
    case h_2 => exact absurd g3 (by decide)
    rename_i inf2 hi2
    simp only [Bool.and_eq_true] at g3
    obtain ⟨g3, g4, g5⟩ := g3
    split at g5
    case h_2 => exact absurd g5 (by decide)
    rename_i z hz
    exact ⟨hu, by rw [Nat.blt_eq] at g2; exact g2, inf2, z, hi2, Nat.eq_of_beq_eq_true g3, Nat.eq_of_beq_eq_true g4, hz, by simpa using Nat.eq_of_beq_eq_true g5⟩
  · intro n off ft fsz hn
    unfold fieldsB at h5
    split at h5
    · rename_i hl; rw [hl] at hn; simp at hn
    · split at h5
      · rename_i fs
        obtain ⟨g1, f, g2, g3⟩ := fldB_get h5 n off ft fsz hn
        exact ⟨g1, fs, f, hu, by simpa using g2, g3⟩
      · exact absurd h5 (by decide)
  · intro hne
    unfold fieldsB at h5
    split at h5
    · rename_i hl; exact absurd hl hne
    · split at h5
      · rename_i fs
        exact ⟨fs, hu, fldB_places h5⟩
      · exact absurd h5 (by decide)
  · intro k hk
    rw [hk] at h6
    unfold ikB at h6
    simp only at h6
    split at h6
    · rw [kEq_eq h6]; exact hu
    · exact absurd h6 (by decide)
  · intro hb
    have := orB_eq h7 hb
    cases d <;> simp [isBoolD] at this
    exact hu
  · intro hb
    have := orB_eq h8 hb
    cases d <;> simp [isStrD] at this
    exact hu
  · intro hag inf' z hi' hz
    rw [hi] at hi'
    injection hi' with hi'
    subst hi'
    rw [hz] at h11
    unfold zoneB at h11
    rw [hag] at h11
    exact h11
  · intro k e hk
    rw [hk] at h10
    unfold mapKB at h10
    simp only at h10
    split at h10
    case h_2 => exact absurd h10 (by decide)
    rename_i kt e'
    simp only [Bool.and_eq_true] at h10
    obtain ⟨g1, g2⟩ := h10
    have := Nat.eq_of_beq_eq_true g1
    subst this
    refine ⟨kt, hu, ?_⟩
    split at g2
    · rename_i k' k0 hk'
      rw [hk', kEq_eq g2]; rfl
    · rename_i hk'
      rw [hk']; rfl
    · exact absurd g2 (by decide)
  · intro hb
    have := orB_eq h9 hb
    unfold eq2B at this
    split at this
    case h_2 => exact absurd this (by decide)
    rename_i fs
    split at this
    case h_2 => exact absurd this (by decide)
    rename_i f g hfg
    simp only [Bool.and_eq_true, Bool.not_eq_true'] at this
    obtain ⟨a1, a2, a3, a4, a5, a6, a7, a8⟩ := this
    obtain ⟨k1, b1⟩ := isIntT_eq a1
    obtain ⟨k2, b2⟩ := isIntT_eq a2
    have hfs : fs = #[f, g] := by
      have := congrArg List.toArray hfg
      simpa using this
    exact eq2_of (hfs ▸ hu) b1 b2 (Nat.eq_of_beq_eq_true a3) (Nat.eq_of_beq_eq_true a4) a5 a6 a7 a8

theorem tblB_mem {P : Program} : ∀ {l : List (Nat × TyI)}, tblB P l = true → ∀ t i, (t, i) ∈ l → TyOk P t i
  | [], _, t, i, h => by simp at h
  | (u, j) :: r, h, t, i, hm => by
    simp only [tblB, Bool.and_eq_true] at h
    rcases List.mem_cons.1 hm with e | hm
    · injection e with e1 e2; subst e1 e2; exact tyOkB_sound h.1
    · exact tblB_mem h.2 t i hm
theorem tblOk_of {P : Program} {tbl : TT} (h : tblB P tbl.toList = true) : TblOk P tbl := fun t i hf => tblB_mem h t i (tbl.mem t i hf)

end Go.KA
