/- Part of a proof engine for functions of the given program: constant bools in what is left behind are told as values. No conditions. -/
import Derived.Test.YtlfigjkddnncgaaGreatGv
namespace Go.KA
open Go Go.RowKit
inductive ReC : List CV → List CV → Prop
  | nil : ReC [] []
  | same {c cs cs'} (h : ReC cs cs') : ReC (c :: cs) (c :: cs')
  | cb {b cs cs'} (h : ReC cs cs') : ReC (.cb b :: cs) (.val (.bool b) :: cs')
  | op {a a' cs cs'} (k : ReC a a') (h : ReC cs cs') : ReC (.op a :: cs) (.op a' :: cs')
theorem ReC.den {w : World} {ok : Nat → Prop} {cs cs' : List CV} (h : ReC cs cs') : ∀ {vs : List Value} {f : List Nat}, Den w ok cs vs f → Den w ok cs' vs f := by
  induction h with
  | nil => intro vs f h; exact h
  | same h ih =>
    intro vs f hd
    cases hd with
    | any h1 ht => exact .any h1 (ih ht)
    | val h1 ht => exact .val h1 (ih ht)
    | cb ht => exact .cb (ih ht)
    | ro a b c d e f ht => exact .ro a b c d e f (ih ht)
    | rp a b c d ht => exact .rp a b c d (ih ht)
    | own a b c ht => exact .own a b c (ih ht)
    | ows a b c ht => exact .ows a b c (ih ht)
    | ownp a b c ht => exact .ownp a b c (ih ht)
    | op a b ht => exact .op a b (ih ht)
    | bld a b c ht => exact .bld a b c (ih ht)
  | cb h ih =>
    intro vs f hd
    cases hd with
    | cb ht => exact .val rfl (ih ht)
  | op k h ihk ih =>
    intro vs f hd
    cases hd with
    | op a b ht => exact .op a (ihk b) (ih ht)
inductive ReO : List (Option (List CV)) → List (Option (List CV)) → Prop
  | nil : ReO [] []
  | same {o os os'} (h : ReO os os') : ReO (o :: os) (o :: os')
  | re {cs cs' os os'} (k : ReC cs cs') (h : ReO os os') : ReO (some cs :: os) (some cs' :: os')
theorem ReC.op_at {cs cs' : List CV} (h : ReC cs cs') : ∀ (i : Nat) (x : List CV), cs'[i]? = some (.op x) → ∃ y, cs[i]? = some (.op y) := by
  induction h with
  | nil => intro i x hx; simp at hx
  | @same c cs cs' h ih =>
    intro i x hx
    cases i with
    | zero => exact ⟨x, hx⟩
    | succ i => exact ih i x hx
  | @cb b cs cs' h ih =>
    intro i x hx
    cases i with
    | zero => simp at hx
    | succ i => exact ih i x hx
  | @op a a' cs cs' k h _ ih =>
    intro i x hx
    cases i with
    | zero => exact ⟨a, rfl⟩
    | succ i => exact ih i x hx
theorem Keep.re {w0 w : World} {v : Value} {cs cs' : List CV} (h : Keep w0 w v cs) (k : ReC cs cs') : Keep w0 w v cs' := by
  intro cells' e
  subst e
  cases k with
  | same k => cases k; exact h cells' rfl
  | @op a _ _ _ ka k =>
    cases k
    intro b ty ty' arr arr' h1 h2 h3 i x hx
    obtain ⟨y, hy⟩ := ka.op_at i x hx
    exact h a rfl b ty ty' arr arr' h1 h2 h3 i y hy
theorem ReO.den {w0 w : World} {ok : Nat → Prop} {os os' : List (Option (List CV))} (h : ReO os os') : ∀ {vs : List Value} {f : List Nat}, OutL w0 w ok os vs f → OutL w0 w ok os' vs f := by
  induction h with
  | nil => intro vs f h; exact h
  | same h ih =>
    intro vs f ho
    cases ho with
    | none ht => exact .none (ih ht)
    | some hd hk ht => exact .some hd hk (ih ht)
  | re k h ih =>
    intro vs f ho
    cases ho with
    | some hd hk ht => exact .some (k.den hd) (hk.re k) (ih ht)
end Go.KA
