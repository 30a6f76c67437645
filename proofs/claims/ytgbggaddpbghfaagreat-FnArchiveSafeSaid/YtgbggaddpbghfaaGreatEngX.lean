/- Part of a proof engine for functions of the given program: what an operation, a loop and a call compute, symbolically. No conditions. -/
import Derived.Test.YtgbggaddpbghfaaGreatEngW
namespace Go.KA
open Go Go.RowKit
theorem x9{w:World}{ok:Nat->Prop}{sz k:Nat}{cs:List CV}{v:Value}{f:List Nat}(hk:k≤sz)(h:Den w ok [.rp sz cs] [v] f):Den w ok [.rp k (cs.take k)] [v] f:=by
 cases h with
 | @rp _ _ _ _ _ xs ad hl bw hs jH ht=>
   refine .rp (xs:=xs.take k) (by rw[aq];omega) (kH bw k) hs (fun j x hx=>jH j x ?_) ht;rw[List.getElem?_take]at hx;split at hx
   ·exact hx
   ·cases hx
inductive lh:List SV->List SV->Prop
 |nil:lh [] []
 |same {s ss gx} (h:lh ss gx):lh (s::ss) (s::gx)
 |cut {sz k cs ss gx} (hk:k≤sz) (h:lh ss gx):lh (.c (.rp sz cs)::ss) (.c (.rp k (cs.take k))::gx)
theorem lh.al{w:World}{ok:Nat->Prop}{ss gx:List SV}(h:lh ss gx):∀{vs:List Value} {f:List Nat},AL w ok ss vs f->AL w ok gx vs f:=by
 induction h with
 |nil=>intro vs f ha;exact ha
 |same h ih=>
  intro vs f ha;cases ha with|cons h0 ht=>exact .cons h0 (ih ht)
 |cut hk h ih=>
  intro vs f ha;cases ha with
  |cons h0 ht=>
   refine .cons ?_ (ih ht);cases h0 with
   |v hv=>
    refine .v fun ρ=>?_
    cases hv ρ with
    |c hc=>cases hc with|c hd=>exact .c (.c (x9 hk hd))
   |o hd=>exact .o (x9 hk hd)
theorem aE.cut{P:Program}{f:Nat}{args df:List SV}{outs:List (Option (List CV))}{r:SV}(h:aE P f df outs r)(hc:lh args df):aE P f args outs r:=
 ⟨h.1,fun w ok vs fs h1 h2 h3 h4=>h.2 w ok vs fs h1 (hc.al h2) h3 h4⟩
end Go.KA
