/- Part of a proof engine for functions of the given program: what an operation, a loop and a call compute, symbolically. No conditions. -/
import Derived.Test.YtgbggaddpbghfaaGreatEngN
import Derived.Orders
namespace Go.KA
open Go Go.RowKit
def fQ(X:(SV→Prop)→Prop):Prop:=∀K,X K→∃s,K s∧∀K':SV→Prop,K' s→X K'
def El(X:(gI→Prop)→Prop):Prop:=∀K,X K→∃E,K E∧∀K':gI→Prop,K' E→X K'
section
variable{P:Program}{tbl:TT}{H:HM}
theorem fQ.q{X:(SV→Prop)→Prop}(h:fQ X):El fun K=>X fun sv=>K (.q sv):=fun K hX=>by
 obtain⟨s,h1,h2⟩:=h _ hX
 exact⟨_,h1,fun K' hK'=>h2 _ hK'⟩
theorem aE:fQ fun _=>False:=fun _ h=>h.elim
theorem bZ{g:SV}:fQ fun K=>K g:=fun _ h=>⟨g,h,fun _ h=>h⟩
theorem dg{b:Bool}{p q:(SV→Prop)→Prop}(hp:fQ p)(hq:fQ q):fQ fun K=>cond b (p K) (q K):=by
 cases b with
 |true=>exact hp
 |false=>exact hq
theorem fE{q:Prop}{p:(SV→Prop)→Prop}(hp:fQ p):fQ fun K=>aV q (p K):=fun K h=>by
 obtain⟨s,h1,h2⟩:=hp _ h.k
 exact⟨s,h1,fun K' hK'=>⟨h.h,h2 _ hK'⟩⟩
theorem qa{k:IntKind}{z:Int}{g:Int→SV}:fQ fun K=>Arith k z fun z=>K (g z):=fun K h=>by
 cases h with
 |fit h hk=>exact⟨_,hk,fun K' hK'=> .fit h hK'⟩
 |wrap hk=>exact⟨_,hk,fun K' hK'=> .wrap hK'⟩
theorem uC{l:List (List CV)}{n:Nat}{G:List CV→(SV→Prop)→Prop}(hG:∀r,fQ (G r)):fQ fun K=>Index l n fun r=>G r K:=fun K h=>by
 cases h with
 |mk r h k=>
  obtain⟨s,h1,h2⟩:=hG r _ k
  exact⟨s,h1,fun K' hK'=> .mk r h (h2 _ hK')⟩
theorem pf{agg:Bool}{size:Nat}{cs:List CV}:fQ fun K=>AR agg size cs K:=by
 unfold AR
 cases agg with
 |true=>exact dg bZ aE
 |false=>cases cs with
  |nil=>exact aE
  |cons x _=>exact bZ
theorem Jm{agg:Bool}{size:Nat}{cs:List SV}:fQ fun K=>Lg agg size cs K:=by
 unfold Lg
 cases agg with
 |true=>exact dg bZ aE
 |false=>cases cs with
  |nil=>exact aE
  |cons x _=>exact bZ
theorem wG{t:Nat}{p:SV}:fQ fun K=>vl tbl t p H K:=by
 unfold vl
 cases tbl.find t with
 |none=>exact aE
 |some i=>
  simp only
  split
  ·exact dg bZ pf
  ·split
   ·exact dg bZ pf
   ·exact Jm
   ·exact aE
  ·split
   ·exact dg (uC fun r=>dg bZ pf) aE
   ·exact dg (uC fun r=>dg pf aE) aE
   ·exact aE
  ·exact aE
theorem II{s:Nat}{p:SV}{f:Nat}:fQ fun K=>v8 tbl s p f K:=by
 unfold v8
 cases tbl.find s with
 |none=>exact aE
 |some i=>
  simp only
  cases i.fields[f]? with
  |none=>exact aE
  |some x=>
   simp only
   split
   ·exact bZ
   ·exact bZ
   ·exact bZ
   ·exact aE
theorem yl{t:Nat}{x ix:SV}:fQ fun K=>lj tbl t x ix H K:=by
 unfold lj
 split
 ·split
  ·split
   ·exact dg (fE (uC fun r=>bZ)) aE
   ·split
    ·exact dg (fE bZ) aE
    ·exact dg (fE bZ) aE
    ·exact aE
   ·exact dg (fE bZ) aE
   ·exact aE
  ·exact aE
 ·exact aE
theorem xF{t:Nat}{x ix:SV}:fQ fun K=>kp tbl t x ix H K:=by
 unfold kp
 split
 ·split
  ·split
   ·exact fE bZ
   ·exact aE
  ·exact aE
 ·split
  ·split
   ·exact fE bZ
   ·exact aE
  ·exact aE
 ·split
  ·split
   ·exact fE bZ
   ·exact aE
  ·exact aE
 ·exact yl
theorem Gv{op:BinOp}{k:IntKind}{a b:Int}:fQ fun K=>IT op k a b K:=by
 unfold IT
 cases op<;>first
  |exact aE
  |exact qa
  |exact bZ
  |exact fE qa
  |exact fE bZ
theorem L9{op:BinOp}{a b:ByteArray}:fQ fun K=>Jr op a b K:=by
 unfold Jr
 cases op<;>first
  |exact aE
  |exact bZ
  |exact fE bZ
theorem Me{op:BinOp}{x y:SV}:fQ fun K=>JZ op x y K:=by
 unfold JZ
 split
 ·cases op<;>first
   |exact Gv
   |exact dg Gv aE
 ·split
  ·exact L9
  ·exact aE
theorem Jv{op:BinOp}{x y:SV}:fQ fun K=>Cp op x y K:=by
 unfold Cp
 split
 ·cases op<;>first
   |exact aE
   |exact bZ
 ·exact aE
theorem Kh{op:BinOp}{x y:SV}:fQ fun K=>Du op x y K:=by
 unfold Du
 split
 ·cases op<;>exact dg (by first|exact bZ|exact aE) aE
 ·exact aE
theorem ET{op:BinOp}{t:Nat}{x y:SV}:fQ fun K=>rR tbl op t x y K:=by
 unfold rR
 split
 ·split
  ·exact dg Jv aE
  ·exact aE
 ·split
  ·exact dg Kh aE
  ·exact aE
 ·exact Me
theorem KH{op:BinOp}{t:Nat}{x y:SV}:fQ fun K=>Dz true tbl op t x y K:=by
 unfold Dz
 cases Bg y with
 |true=>simp only;split<;>exact aE
 |false=>exact ET
theorem OD{op:UnOp}{x:SV}:fQ fun K=>Px op x K:=by
 unfold Px
 cases op<;>simp only<;>first
  |exact aE
  |(split<;>first
       |exact aE
       |exact qa
       |exact bZ)
theorem Kj{c a b:SV}:fQ fun K=>D8 c a b K:=by
 unfold D8
 split
 ·exact bZ
 ·exact bZ
 ·split
  ·exact bZ
  ·exact aE
 ·exact aE
theorem DB{x:SV}{i:Nat}:fQ fun K=>pS x i K:=by
 unfold pS
 split
 ·split
  ·exact bZ
  ·exact aE
 ·exact aE
theorem ML{x:SV}:fQ fun K=>JI x K:=by
 unfold JI
 split<;>first|exact bZ|exact aE
theorem JJ{d:Nat}{x:SV}:fQ fun K=>Cz tbl d x K:=by
 unfold Cz
 split
 ·split
  ·exact qa
  ·exact aE
 ·exact aE
theorem HC{e d:Nat}{x:SV}:fQ fun K=>xc tbl e d x H K:=by
 unfold xc
 split
 ·split
  ·split
   ·refine dg ?_ aE
    split
    ·split
     ·split
      ·exact dg bZ aE
      ·exact aE
     ·exact aE
    ·exact aE
   ·exact aE
  ·exact aE
 ·exact aE
theorem GN{x:SV}:fQ fun K=>HA true x H K:=by
 unfold HA
 split
 ·exact bZ
 ·split
  ·exact bZ
  ·exact bZ
  ·exact aE
 ·exact bZ
 ·exact bZ
 ·exact bZ
 ·exact aE
theorem OP{x ix:SV}:fQ fun K=>xP x ix K:=by
 unfold xP
 split
 ·exact fE bZ
 ·exact aE
theorem Hl{j sz len:Nat}{l h:Int}:fQ fun K=>gz j sz len l h K:=fun K hS=>by
 cases hS with
 |some hb k=>exact⟨_,k,fun K' hK'=> .some hb hK'⟩
 |none hb k=>exact⟨_,k,fun K' hK'=> .none hb hK'⟩
 |all hb k=>exact⟨_,k,fun K' hK'=> .all hb hK'⟩
theorem Iz{t:Nat}{x:SV}{lo hi:Option SV}:fQ fun K=>wH tbl t x lo hi H K:=by
 unfold wH
 cases tbl.find t with
 |none=>exact aE
 |some i=>
  simp only
  split
  ·split
   ·exact dg (fE bZ) aE
   ·exact aE
  ·split
   ·split
    ·exact dg Hl aE
    ·exact aE
   ·split
    ·exact dg Hl aE
    ·exact aE
   ·exact aE
  ·split
   ·exact dg (fE bZ) aE
   ·exact aE
  ·exact aE
theorem aA:El fun _=>False:=fun _ h=>h.elim
theorem cC{g:gI}:El fun K=>K g:=fun _ h=>⟨g,h,fun _ h=>h⟩
theorem bx{b:Bool}{p q:(gI→Prop)→Prop}(hp:El p)(hq:El q):El fun K=>cond b (p K) (q K):=by
 cases b with
 |true=>exact hp
 |false=>exact hq
theorem p9{q:Prop}{p:(gI→Prop)→Prop}(hp:El p):El fun K=>aV q (p K):=fun K h=>by
 obtain⟨s,h1,h2⟩:=hp _ h.k
 exact⟨s,h1,fun K' hK'=>⟨h.h,h2 _ hK'⟩⟩
theorem qX{l:List (List CV)}{n:Nat}{G:List CV→(gI→Prop)→Prop}(hG:∀r,El (G r)):El fun K=>Index l n fun r=>G r K:=fun K h=>by
 cases h with
 |mk r h k=>
  obtain⟨s,h1,h2⟩:=hG r _ k
  exact⟨s,h1,fun K' hK'=> .mk r h (h2 _ hK')⟩
theorem Hw{f:Nat}{args:List SV}{n:Nat}:El fun K=>aa (d:=true) P f args H n K:=fun K h=>by
 cases h with
 |pure args' r hv h hs E he k=>exact⟨E,k,fun K' k'=> .pure args' r hv h hs E he k'⟩
 |own args' r hv h hp E he k=>exact⟨E,k,fun K' k'=> .own args' r hv h hp E he k'⟩
 |gen md args' outs r hv h hn hc E he k=>exact⟨E,k,fun K' k'=> .gen md args' outs r hv h hn hc E he k'⟩
 |Ql md args' outs r hv h hn hp E he k=>exact⟨E,k,fun K' k'=> .Ql md args' outs r hv h hn hp E he k'⟩
 |ex hd=>cases hd
 |raw hd=>cases hd
 |gM md args' outs r hv h hn hc sv i b k1 s u ty sz rows x y c he h1 h2 h3 hd hc0 k=>exact⟨_,k,fun K' k'=> .gM md args' outs r hv h hn hc sv i b k1 s u ty sz rows x y c he h1 h2 h3 hd hc0 k'⟩
theorem rM{sz:Nat}{rows:List (List CV)}{idx off size:Nat}{cs:List CV}{g:List (List CV)→gI}:El fun K=>uH sz rows idx off size cs fun r=>K (g r):=by
 unfold uH
 exact bx (bx (qX fun r=>cC) (bx (qX fun r=>cC) aA)) aA
theorem FZ{t:Nat}{p v:SV}:El fun K=>xK tbl t p v H K:=by
 unfold xK
 cases tbl.find t with
 |none=>exact aA
 |some i=>
  simp only
  split
  ·split
   ·split
    ·exact bx (bx cC (bx cC aA)) aA
    ·exact bx cC aA
    ·exact bx (bx cC (bx cC aA)) aA
    ·exact bx cC aA
   ·split
    ·exact bx (bx cC (bx cC aA)) aA
    ·exact bx cC aA
    ·exact bx cC aA
   ·split
    ·split
     ·exact bx cC aA
     ·exact aA
    ·exact aA
   ·exact aA
  ·split
   ·exact aA
   ·split
    ·refine bx ?_ aA
     split
     ·exact rM
     ·exact bx rM aA
    ·exact bx (bx rM aA) aA
    ·exact aA
  ·exact aA
theorem BU{t:Nat}{s x:SV}{n:Nat}:El fun K=>sj true tbl t s x H n K:=by
 unfold sj
 split
 ·split
  ·split
   ·split<;>first|exact cC|exact aA
   ·split
    ·split
     ·refine bx ?_ aA
      unfold fact
      refine p9 ?_
      split<;>exact cC
     ·exact bx (by unfold fact;exact p9 cC) aA
     ·exact aA
    ·exact aA
  ·exact aA
 ·split
  ·split
   ·split
    ·refine bx ?_ aA
     unfold fact
     refine p9 ?_
     split<;>exact cC
    ·exact aA
   ·exact aA
  ·exact aA
 ·exact aA
theorem Dy{X:(SV→Prop)→Prop}{G:SV→(SV→Prop)→Prop}(hX:fQ X)(hG:∀s,fQ (G s)):fQ fun K=>X fun s=>G s K:=fun K h=>by
 obtain⟨s,h1,h2⟩:=hX _ h
 obtain⟨s',h3,h4⟩:=hG s K h1
 exact⟨s',h3,fun K' hK'=>h2 _ (h4 K' hK')⟩
theorem GP{el:Bool}{sv:SV}:fQ fun K=>HT el H sv K:=by
 unfold HT
 split
 ·refine dg (fun K h=> ?_) bZ
  cases h with
  |no k=>exact⟨_,k,fun K' hK'=> .no hK'⟩
  |row i h k=>exact⟨_,k,fun K' hK'=> .row i h hK'⟩
  |aG i h k=>exact⟨_,k,fun K' hK'=> .aG i h hK'⟩
 ·exact bZ
theorem HS{t:Nat}{p:SV}{n:Nat}:El fun K=>DN true tbl t p H n K:=by
 unfold DN
 split
 ·split
  ·cases tbl.find t with
   |none=>exact aA
   |some i=>exact bx (qX fun r=>by unfold Lp;exact bx (Dy pf fun s=>GP).q aA) aA
  ·exact wG.q
 ·exact(Dy wG fun s=>GP).q
 ·exact wG.q
theorem EG{t:Nat}{x k:SV}{ok:Bool}:fQ fun K=>sQ tbl t x k ok H K:=by
 unfold sQ
 split
 ·split
  ·split
   ·split
    ·refine dg (fun K h=> ?_) aE
     cases h with
     |Pd j s h g=>
      cases ok with
      |true=>exact⟨_,g,fun K' hK'=> .Pd j s h hK'⟩
      |false=>exact⟨_,g,fun K' hK'=> .Pd j s h hK'⟩
     |IU h g=>
      cases ok with
      |true=>exact⟨_,g,fun K' hK'=> .IU h hK'⟩
      |false=>exact⟨_,g,fun K' hK'=> .IU h hK'⟩
    ·exact aE
   ·exact aE
  ·exact aE
 ·exact aE
theorem w6{t:Nat}{x k v:SV}:El fun K=>lz tbl t x k v H K:=by
 unfold lz
 split
 ·split
  ·split
   ·split
    ·refine bx (fun K h=> ?_) aA
     cases h with
     |wS j s h g=>exact⟨_,g,fun K' hK'=> .wS j s h hK'⟩
     |new h g=>exact⟨_,g,fun K' hK'=> .new h hK'⟩
    ·exact aA
   ·exact aA
  ·exact aA
 ·exact aA
theorem Nc{op:Op}{ty n:Nat}{T:TM}:El fun K=>yO true P tbl op ty T H n K:=by
 cases op<;>simp only[yO]<;>first|exact aA|skip
 case move x=>
  unfold zv
  split
  ·split
   ·split<;>exact cC
   ·exact cC
  ·exact cC
 case assign x=>
  unfold zv
  split
  ·split
   ·split<;>exact cC
   ·exact cC
  ·exact cC
 case pick=>exact Kj.q
 case alloc t=>unfold AY;(repeat' split)<;>first|exact cC|exact aA
 case box t x=>unfold Ni;split<;>first|exact cC|exact aA
 case build t ps=>
  unfold AF
  split
  ·exact aA
  ·refine bx aA ?_
   split<;>first|exact cC|exact aA
 case buildSlice t l ps=>
  unfold mc
  split
  ·exact aA
  ·split
   ·exact aA
   ·split
    ·exact aA
    ·refine bx ?_ aA
     split
     ·exact cC
     ·exact bx cC aA
 case load=>exact HS
 case store=>exact FZ
 case nilCheck=>exact ML.q
 case binOp=>exact KH.q
 case unOp=>exact OD.q
 case convert=>exact bx JJ.q HC.q
 case makeFunc=>
  split
  ·unfold Kc;exact bx cC aA
  ·exact aA
 case makeSlice=>
  unfold nR
  split
  ·split
   ·exact aA
   ·split
    ·exact aA
    ·exact p9 cC
  ·exact aA
 case slice=>
  split
  ·exact Iz.q
  ·exact aA
 case fieldAddr=>exact II.q
 case indexAddr=>exact xF.q
 case index=>
  split
  ·exact bx OP.q aA
  ·exact aA
 case extract=>exact DB.q
 case makeMap t r=>
  split
  ·unfold sf
   split
   ·split
    ·exact cC
    ·exact aA
   ·exact aA
  ·exact aA
 case lookup=>exact EG.q
 case mapUpdate=>exact w6
 case call c=>
  unfold G8
  split
  ·split
   ·split
    ·split
     ·exact bx GN.q aA
     ·exact aA
    ·split
     ·exact bx GN.q aA
     ·exact aA
   ·exact aA
  ·split
   ·exact bx BU aA
   ·exact aA
  ·split
   ·exact Hw
   ·exact aA
  ·exact aA
theorem Pn{d:Bool}{op:Op}{ty n:Nat}{T T':TM}{K:gI→Prop}(hT:∀x∈op.operands,ev T' x=ev T x)(h:yO d P tbl op ty T H n K):yO d P tbl op ty T' H n K:=by
 cases op<;>simp only[yO] at h⊢ <;>first|exact h.elim|skip
 case move x=>rw[hT x (by simp[Op.operands])];exact h
 case assign x=>rw[hT x (by simp[Op.operands])];exact h
 case pick a b c=>rw[hT a (by simp[Op.operands]),hT b (by simp[Op.operands]),hT c (by simp[Op.operands])];exact h
 case alloc t=>exact h
 case box t x=>rw[hT x (by simp[Op.operands])];exact h
 case build t ps=>
  have:(ps.toList.map fun p=>(p.1,ev T' p.2))=ps.toList.map fun p=>(p.1,ev T p.2):=by
   refine List.map_congr_left fun p hp=> ?_
   rw[hT p.2 (by simp only[Op.operands];exact List.mem_toArray.2 (List.mem_map.2 ⟨p,hp,rfl⟩))]
  rw[this];exact h
 case buildSlice t l ps=>
  have:(ps.toList.map fun p=>(p.1,ev T' p.2))=ps.toList.map fun p=>(p.1,ev T p.2):=by
   refine List.map_congr_left fun p hp=> ?_
   rw[hT p.2 (by simp only[Op.operands];exact List.mem_toArray.2 (List.mem_map.2 ⟨p,hp,rfl⟩))]
  rw[this];exact h
 case load t x=>rw[hT x (by simp[Op.operands])];exact h
 case store t x y=>rw[hT x (by simp[Op.operands]),hT y (by simp[Op.operands])];exact h
 case nilCheck x=>rw[hT x (by simp[Op.operands])];exact h
 case binOp op t x y yt=>rw[hT x (by simp[Op.operands]),hT y (by simp[Op.operands])];exact h
 case unOp op t x=>rw[hT x (by simp[Op.operands])];exact h
 case convert s t x=>rw[hT x (by simp[Op.operands])];exact h
 case makeFunc fn first caps=>
  split at h
  ·have:caps.toList.map (ev T')=caps.toList.map (ev T):=by
        refine List.map_congr_left fun x hx=> ?_
        rw[hT x (by simp only[Op.operands];simp at hx⊢;exact .inr hx)]
   rw[this];exact h
  ·exact h.elim
 case makeSlice t l c=>rw[hT l (by simp[Op.operands]),hT c (by simp[Op.operands])];exact h
 case slice t x lo hi mx=>
  split at h
  ·have e1:∀o:Option Operand,(∀x,o=some x→ev T' x=ev T x)→o.map (ev T')=o.map (ev T):=by
        intro o ho
        cases o with
        |none=>rfl
        |some x=>simp[ho x rfl]
   rw[hT x (by simp[Op.operands]),e1 lo fun y hy=>hT y (by simp[Op.operands,hy]),e1 hi fun y hy=>hT y (by simp[Op.operands,hy])]
   exact h
  ·exact h.elim
 case fieldAddr s x f=>rw[hT x (by simp[Op.operands])];exact h
 case indexAddr t x i=>rw[hT x (by simp[Op.operands]),hT i (by simp[Op.operands])];exact h
 case index t x i=>rw[hT x (by simp[Op.operands]),hT i (by simp[Op.operands])];exact h
 case extract x i=>rw[hT x (by simp[Op.operands])];exact h
 case makeMap t r=>
  split at h
  ·exact h
  ·exact h.elim
 case lookup t x k ok=>rw[hT x (by simp[Op.operands]),hT k (by simp[Op.operands])];exact h
 case mapUpdate t x k v=>rw[hT x (by simp[Op.operands]),hT k (by simp[Op.operands]),hT v (by simp[Op.operands])];exact h
 case call c=>
  obtain⟨callee,args,argTypes⟩:=c
  unfold G8 at h⊢
  cases callee with
  |invoke r m=>exact h.elim
  |builtin b=>
   have hA:∀x∈args,ev T' x=ev T x:=fun x hx=>hT x (by simp[Op.operands,Call.operands,hx])
   cases b<;>simp only at h⊢ <;>first|exact h.elim|skip
   case len=>
        split at h
        ·rename_i x t hx ht
         rw[hA x (by have:x∈args.toList:=by rw[hx];simp
                     simpa using this)]
         exact h
        ·exact h.elim
   case append=>
        split at h
        ·rename_i x y t t' hx ht
         rw[hA x (by have:x∈args.toList:=by rw[hx];simp
                     simpa using this),hA y (by have:y∈args.toList:=by rw[hx];simp
                                                simpa using this)]
         exact h
        ·exact h.elim
  |value f=>
   have hA:∀x∈args,ev T' x=ev T x:=fun x hx=>hT x (by simp[Op.operands,Call.operands,hx])
   have e1:∀(xs:List Operand) (ts:List Nat),(∀x∈xs,ev T' x=ev T x)→kx tbl T' xs ts=kx tbl T xs ts:=by
        intro xs
        induction xs with
        |nil=>intro ts _;cases ts<;>rfl
        |cons x xs ih=>
         intro ts hx
         cases ts with
         |nil=>simp only[kx];rw[hx x (by simp),ih [] fun y hy=>hx y (by simp[hy])]
         |cons t ts=>simp only[kx];rw[hx x (by simp),ih ts fun y hy=>hx y (by simp[hy])]
   simp only at h⊢
   rw[hT f (by simp[Op.operands,Call.operands]),e1 _ _ fun x hx=>hA x (by simpa using hx)]
   exact h
end
end Go.KA
