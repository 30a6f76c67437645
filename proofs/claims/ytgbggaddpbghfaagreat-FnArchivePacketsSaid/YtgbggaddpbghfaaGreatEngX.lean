/- Part of a proof engine for functions of the given program: what an operation, a loop and a call compute, symbolically. No conditions. -/
import Derived.Test.YtgbggaddpbghfaaGreatEngW
namespace Go.KA
open Go Go.RowKit
theorem uY{w:World}{ok:Nat→Prop}{sz k:Nat}{cs:List CV}{v:Value}{f:List Nat}(hk:k≤sz)(h:Den w ok [.rp sz cs] [v] f):Den w ok [.rp k (cs.take k)] [v] f:=by
 cases h with
 | @rp _ _ _ _ _ xs ad hl hin hs hrd ht=>
   refine .rp (xs:=xs.take k) (by rw[List.length_take];omega) (jm hin k) hs (fun j x hx=>hrd j x ?_) ht
   rw[List.getElem?_take] at hx
   split at hx
   ·exact hx
   ·cases hx
inductive jG:List SV→List SV→Prop
 |nil:jG [] []
 |same {s ss ss'} (h:jG ss ss'):jG (s::ss) (s::ss')
 |cut {sz k cs ss ss'} (hk:k≤sz) (h:jG ss ss'):jG (.c (.rp sz cs)::ss) (.c (.rp k (cs.take k))::ss')
theorem jG.al{w:World}{ok:Nat→Prop}{ss ss':List SV}(h:jG ss ss'):∀{vs:List Value} {f:List Nat},AL w ok ss vs f→AL w ok ss' vs f:=by
 induction h with
 |nil=>intro vs f ha;exact ha
 |same h ih=>
  intro vs f ha
  cases ha with|cons h0 ht=>exact .cons h0 (ih ht)
 |cut hk h ih=>
  intro vs f ha
  cases ha with
  |cons h0 ht=>
   refine .cons ?_ (ih ht)
   cases h0 with
   |v hv=>
    refine .v fun ρ=> ?_
    cases hv ρ with
    |c hc=>cases hc with|c hd=>exact .c (.c (uY hk hd))
   |o hd=>exact .o (uY hk hd)
theorem ah.cut{P:Program}{f:Nat}{args args':List SV}{outs:List (Option (List CV))}{r:SV}(h:ah P f args' outs r)(hc:jG args args'):ah P f args outs r:=
 ⟨h.1,fun w ok vs fs h1 h2 h3 h4=>h.2 w ok vs fs h1 (hc.al h2) h3 h4⟩
end Go.KA
