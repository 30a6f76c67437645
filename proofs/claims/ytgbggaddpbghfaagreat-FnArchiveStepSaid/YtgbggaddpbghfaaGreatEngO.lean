/- Part of a proof engine for functions of the given program: what an operation, a loop and a call compute, symbolically. No conditions. -/
import Derived.Test.YtgbggaddpbghfaaGreatEngN
import Derived.Orders
namespace Go.KA
open Go Go.RowKit
def fO(X:(SV→Prop)→Prop):Prop:=∀K,X K→∃s,K s∧∀K':SV→Prop,K' s→X K'
def DH(X:(gC→Prop)→Prop):Prop:=∀K,X K→∃E,K E∧∀K':gC→Prop,K' E→X K'
section
variable{P:Program}{tbl:TT}{H:HM}
theorem fO.q{X:(SV→Prop)→Prop}(h:fO X):DH fun K=>X fun sv=>K (.q sv):=fun K hX=>by
 obtain⟨s,h1,h2⟩:=h _ hX
 exact⟨_,h1,fun K' hK'=>h2 _ hK'⟩
theorem aD:fO fun _=>False:=fun _ h=>h.elim
theorem ck{g:SV}:fO fun K=>K g:=fun _ h=>⟨g,h,fun _ h=>h⟩
theorem di{b:Bool}{p q:(SV→Prop)→Prop}(hp:fO p)(hq:fO q):fO fun K=>cond b (p K) (q K):=by
 cases b with
 |true=>exact hp
 |false=>exact hq
theorem fI{q:Prop}{p:(SV→Prop)→Prop}(hp:fO p):fO fun K=>aQ q (p K):=fun K h=>by
 obtain⟨s,h1,h2⟩:=hp _ h.k
 exact⟨s,h1,fun K' hK'=>⟨h.h,h2 _ hK'⟩⟩
theorem pN{k:IntKind}{z:Int}{g:Int→SV}:fO fun K=>Arith k z fun z=>K (g z):=fun K h=>by
 cases h with
 |fit h hk=>exact⟨_,hk,fun K' hK'=> .fit h hK'⟩
 |wrap hk=>exact⟨_,hk,fun K' hK'=> .wrap hK'⟩
theorem tC{l:List (List CV)}{n:Nat}{G:List CV→(SV→Prop)→Prop}(hG:∀r,fO (G r)):fO fun K=>Index l n fun r=>G r K:=fun K h=>by
 cases h with
 |mk r h k=>
  obtain⟨s,h1,h2⟩:=hG r _ k
  exact⟨s,h1,fun K' hK'=> .mk r h (h2 _ hK')⟩
theorem oW{agg:Bool}{size:Nat}{cs:List CV}:fO fun K=>zO agg size cs K:=by
 unfold zO
 cases agg with
 |true=>exact di ck aD
 |false=>cases cs with
  |nil=>exact aD
  |cons x _=>exact ck
theorem JJ{agg:Bool}{size:Nat}{cs:List SV}:fO fun K=>Kg agg size cs K:=by
 unfold Kg
 cases agg with
 |true=>exact di ck aD
 |false=>cases cs with
  |nil=>exact aD
  |cons x _=>exact ck
theorem vK{t:Nat}{p:SV}:fO fun K=>uA tbl t p H K:=by
 unfold uA
 cases tbl.find t with
 |none=>exact aD
 |some i=>
  simp only
  split
  ·exact di ck oW
  ·split
   ·exact di ck oW
   ·exact JJ
   ·exact aD
  ·split
   ·exact di (tC fun r=>di ck oW) aD
   ·exact di (tC fun r=>di oW aD) aD
   ·exact aD
  ·exact aD
theorem H5{s:Nat}{p:SV}{f:Nat}:fO fun K=>xg tbl s p f K:=by
 unfold xg
 cases tbl.find s with
 |none=>exact aD
 |some i=>
  simp only
  cases i.fields[f]? with
  |none=>exact aD
  |some x=>
   simp only
   split
   ·exact ck
   ·exact ck
   ·exact ck
   ·exact aD
theorem xU{t:Nat}{x ix:SV}:fO fun K=>lO tbl t x ix H K:=by
 unfold lO
 split
 ·split
  ·split
   ·exact di (fI (tC fun r=>ck)) aD
   ·split
    ·exact di (fI ck) aD
    ·exact di (fI ck) aD
    ·exact aD
   ·exact di (fI ck) aD
   ·exact aD
  ·exact aD
 ·exact aD
theorem xI{t:Nat}{x ix:SV}:fO fun K=>j7 tbl t x ix H K:=by
 unfold j7
 split
 ·split
  ·split
   ·exact fI ck
   ·exact aD
  ·exact aD
 ·split
  ·split
   ·exact fI ck
   ·exact aD
  ·exact aD
 ·split
  ·split
   ·exact fI ck
   ·exact aD
  ·exact aD
 ·exact xU
theorem GU{op:BinOp}{k:IntKind}{a b:Int}:fO fun K=>GX op k a b K:=by
 unfold GX
 cases op<;>first
  |exact aD
  |exact pN
  |exact ck
  |exact fI pN
  |exact fI ck
theorem LC{op:BinOp}{a b:ByteArray}:fO fun K=>KH op a b K:=by
 unfold KH
 cases op<;>first
  |exact aD
  |exact ck
  |exact fI ck
theorem LW{op:BinOp}{x y:SV}:fO fun K=>I1 op x y K:=by
 unfold I1
 split
 ·cases op<;>first
   |exact GU
   |exact di GU aD
 ·split
  ·exact LC
  ·exact aD
theorem JT{op:BinOp}{x y:SV}:fO fun K=>C4 op x y K:=by
 unfold C4
 split
 ·cases op<;>first
   |exact aD
   |exact ck
 ·exact aD
theorem JX{op:BinOp}{x y:SV}:fO fun K=>CN op x y K:=by
 unfold CN
 split
 ·cases op<;>exact di (by first|exact ck|exact aD) aD
 ·exact aD
theorem Fg{op:BinOp}{t:Nat}{x y:SV}:fO fun K=>rH tbl op t x y K:=by
 unfold rH
 split
 ·split
  ·exact di JT aD
  ·exact aD
 ·split
  ·exact di JX aD
  ·exact aD
 ·exact LW
theorem IF{op:BinOp}{t:Nat}{x y:SV}:fO fun K=>DF true tbl op t x y K:=by
 unfold DF
 cases Ah y with
 |true=>simp only;split<;>exact aD
 |false=>exact Fg
theorem Ny{op:UnOp}{x:SV}:fO fun K=>OX op x K:=by
 unfold OX
 cases op<;>simp only<;>first
  |exact aD
  |(split<;>first
       |exact aD
       |exact pN
       |exact ck)
theorem IZ{c a b:SV}:fO fun K=>Dn c a b K:=by
 unfold Dn
 split
 ·exact ck
 ·exact ck
 ·split
  ·exact ck
  ·exact aD
 ·exact aD
theorem B6{x:SV}{i:Nat}:fO fun K=>oF x i K:=by
 unfold oF
 split
 ·split
  ·exact ck
  ·exact aD
 ·exact aD
theorem MA{x:SV}:fO fun K=>Ka x K:=by
 unfold Ka
 split<;>first|exact ck|exact aD
theorem KW{d:Nat}{x:SV}:fO fun K=>CQ tbl d x K:=by
 unfold CQ
 split
 ·split
  ·exact pN
  ·exact aD
 ·exact aD
theorem Iw{e d:Nat}{x:SV}:fO fun K=>wT tbl e d x H K:=by
 unfold wT
 split
 ·split
  ·split
   ·refine di ?_ aD
    split
    ·split
     ·split
      ·exact di ck aD
      ·exact aD
     ·exact aD
    ·exact aD
   ·exact aD
  ·exact aD
 ·exact aD
theorem Gg{x:SV}:fO fun K=>It true x H K:=by
 unfold It
 split
 ·exact ck
 ·split
  ·exact ck
  ·exact ck
  ·exact aD
 ·exact ck
 ·exact ck
 ·exact ck
 ·exact aD
theorem N9{x ix:SV}:fO fun K=>wI x ix K:=by
 unfold wI
 split
 ·exact fI ck
 ·exact aD
theorem Gk{j sz len:Nat}{l h:Int}:fO fun K=>gv j sz len l h K:=fun K hS=>by
 cases hS with
 |some hb k=>exact⟨_,k,fun K' hK'=> .some hb hK'⟩
 |none hb k=>exact⟨_,k,fun K' hK'=> .none hb hK'⟩
 |all hb k=>exact⟨_,k,fun K' hK'=> .all hb hK'⟩
theorem H3{t:Nat}{x:SV}{lo hi:Option SV}:fO fun K=>vO tbl t x lo hi H K:=by
 unfold vO
 cases tbl.find t with
 |none=>exact aD
 |some i=>
  simp only
  split
  ·split
   ·exact di (fI ck) aD
   ·exact aD
  ·split
   ·split
    ·exact di Gk aD
    ·exact aD
   ·split
    ·exact di Gk aD
    ·exact aD
   ·exact aD
  ·split
   ·exact di (fI ck) aD
   ·exact aD
  ·exact aD
theorem aA:DH fun _=>False:=fun _ h=>h.elim
theorem cM{g:gC}:DH fun K=>K g:=fun _ h=>⟨g,h,fun _ h=>h⟩
theorem bH{b:Bool}{p q:(gC→Prop)→Prop}(hp:DH p)(hq:DH q):DH fun K=>cond b (p K) (q K):=by
 cases b with
 |true=>exact hp
 |false=>exact hq
theorem pO{q:Prop}{p:(gC→Prop)→Prop}(hp:DH p):DH fun K=>aQ q (p K):=fun K h=>by
 obtain⟨s,h1,h2⟩:=hp _ h.k
 exact⟨s,h1,fun K' hK'=>⟨h.h,h2 _ hK'⟩⟩
theorem qx{l:List (List CV)}{n:Nat}{G:List CV→(gC→Prop)→Prop}(hG:∀r,DH (G r)):DH fun K=>Index l n fun r=>G r K:=fun K h=>by
 cases h with
 |mk r h k=>
  obtain⟨s,h1,h2⟩:=hG r _ k
  exact⟨s,h1,fun K' hK'=> .mk r h (h2 _ hK')⟩
theorem Hl{f:Nat}{args:List SV}{n:Nat}:DH fun K=>aa (d:=true) P f args H n K:=fun K h=>by
 cases h with
 |pure args' r hv h hs E he k=>exact⟨E,k,fun K' k'=> .pure args' r hv h hs E he k'⟩
 |own args' r hv h hp E he k=>exact⟨E,k,fun K' k'=> .own args' r hv h hp E he k'⟩
 |gen md args' outs r hv h hn hc E he k=>exact⟨E,k,fun K' k'=> .gen md args' outs r hv h hn hc E he k'⟩
 |Pv md args' outs r hv h hn hp E he k=>exact⟨E,k,fun K' k'=> .Pv md args' outs r hv h hn hp E he k'⟩
 |ex hd=>cases hd
 |raw hd=>cases hd
 |gJ md args' outs r hv h hn hc sv i b k1 s u ty sz rows x y c he h1 h2 h3 hd hc0 k=>exact⟨_,k,fun K' k'=> .gJ md args' outs r hv h hn hc sv i b k1 s u ty sz rows x y c he h1 h2 h3 hd hc0 k'⟩
theorem qG{sz:Nat}{rows:List (List CV)}{idx off size:Nat}{cs:List CV}{g:List (List CV)→gC}:DH fun K=>uK sz rows idx off size cs fun r=>K (g r):=by
 unfold uK
 exact bH (bH (qx fun r=>cM) (bH (qx fun r=>cM) aA)) aA
theorem Fs{t:Nat}{p v:SV}:DH fun K=>xa tbl t p v H K:=by
 unfold xa
 cases tbl.find t with
 |none=>exact aA
 |some i=>
  simp only
  split
  ·split
   ·split
    ·exact bH (bH cM (bH cM aA)) aA
    ·exact bH cM aA
    ·exact bH (bH cM (bH cM aA)) aA
    ·exact bH cM aA
   ·split
    ·exact bH (bH cM (bH cM aA)) aA
    ·exact bH cM aA
    ·exact bH cM aA
   ·split
    ·split
     ·exact bH cM aA
     ·exact aA
    ·exact aA
   ·exact aA
  ·split
   ·exact aA
   ·split
    ·refine bH ?_ aA
     split
     ·exact qG
     ·exact bH qG aA
    ·exact bH (bH qG aA) aA
    ·exact aA
  ·exact aA
theorem Bp{t:Nat}{s x:SV}{n:Nat}:DH fun K=>qZ true tbl t s x H n K:=by
 unfold qZ
 split
 ·split
  ·split
   ·split<;>first|exact cM|exact aA
   ·split
    ·split
     ·refine bH ?_ aA
      unfold fact
      refine pO ?_
      split<;>exact cM
     ·exact bH (by unfold fact;exact pO cM) aA
     ·exact aA
    ·exact aA
  ·exact aA
 ·split
  ·split
   ·split
    ·refine bH ?_ aA
     unfold fact
     refine pO ?_
     split<;>exact cM
    ·exact aA
   ·exact aA
  ·exact aA
 ·exact aA
theorem BM{X:(SV→Prop)→Prop}{G:SV→(SV→Prop)→Prop}(hX:fO X)(hG:∀s,fO (G s)):fO fun K=>X fun s=>G s K:=fun K h=>by
 obtain⟨s,h1,h2⟩:=hX _ h
 obtain⟨s',h3,h4⟩:=hG s K h1
 exact⟨s',h3,fun K' hK'=>h2 _ (h4 K' hK')⟩
theorem GI{el:Bool}{sv:SV}:fO fun K=>Iz el H sv K:=by
 unfold Iz
 split
 ·refine di (fun K h=> ?_) ck
  cases h with
  |no k=>exact⟨_,k,fun K' hK'=> .no hK'⟩
  |row i h k=>exact⟨_,k,fun K' hK'=> .row i h hK'⟩
  |aG i h k=>exact⟨_,k,fun K' hK'=> .aG i h hK'⟩
 ·exact ck
theorem Ir{t:Nat}{p:SV}{n:Nat}:DH fun K=>BD true tbl t p H n K:=by
 unfold BD
 split
 ·split
  ·cases tbl.find t with
   |none=>exact aA
   |some i=>exact bH (qx fun r=>by unfold La;exact bH (BM oW fun s=>GI).q aA) aA
  ·exact vK.q
 ·exact(BM vK fun s=>GI).q
 ·exact vK.q
theorem Er{t:Nat}{x k:SV}{ok:Bool}:fO fun K=>rI tbl t x k ok H K:=by
 unfold rI
 split
 ·split
  ·split
   ·split
    ·refine di (fun K h=> ?_) aD
     cases h with
     |Oy j s h g=>
      cases ok with
      |true=>exact⟨_,g,fun K' hK'=> .Oy j s h hK'⟩
      |false=>exact⟨_,g,fun K' hK'=> .Oy j s h hK'⟩
     |Ho h g=>
      cases ok with
      |true=>exact⟨_,g,fun K' hK'=> .Ho h hK'⟩
      |false=>exact⟨_,g,fun K' hK'=> .Ho h hK'⟩
    ·exact aD
   ·exact aD
  ·exact aD
 ·exact aD
theorem xA{t:Nat}{x k v:SV}:DH fun K=>lD tbl t x k v H K:=by
 unfold lD
 split
 ·split
  ·split
   ·split
    ·refine bH (fun K h=> ?_) aA
     cases h with
     |wQ j s h g=>exact⟨_,g,fun K' hK'=> .wQ j s h hK'⟩
     |new h g=>exact⟨_,g,fun K' hK'=> .new h hK'⟩
    ·exact aA
   ·exact aA
  ·exact aA
 ·exact aA
theorem L8{op:Op}{ty n:Nat}{T:TM}:DH fun K=>zm true P tbl op ty T H n K:=by
 cases op<;>simp only[zm]<;>first|exact aA|skip
 case move x=>
  unfold yi
  split
  ·split
   ·split<;>exact cM
   ·exact cM
  ·exact cM
 case assign x=>
  unfold yi
  split
  ·split
   ·split<;>exact cM
   ·exact cM
  ·exact cM
 case pick=>exact IZ.q
 case alloc t=>unfold zM;(repeat' split)<;>first|exact cM|exact aA
 case box t x=>unfold LX;split<;>first|exact cM|exact aA
 case build t ps=>
  unfold AJ
  split
  ·exact aA
  ·refine bH aA ?_
   split<;>first|exact cM|exact aA
 case buildSlice t l ps=>
  unfold mf
  split
  ·exact aA
  ·split
   ·exact aA
   ·split
    ·exact aA
    ·refine bH ?_ aA
     split
     ·exact cM
     ·exact bH cM aA
 case load=>exact Ir
 case store=>exact Fs
 case nilCheck=>exact MA.q
 case binOp=>exact IF.q
 case unOp=>exact Ny.q
 case convert=>exact bH KW.q Iw.q
 case makeFunc=>
  split
  ·unfold IU;exact bH cM aA
  ·exact aA
 case makeSlice=>
  unfold nP
  split
  ·split
   ·exact aA
   ·split
    ·exact aA
    ·exact pO cM
  ·exact aA
 case slice=>
  split
  ·exact H3.q
  ·exact aA
 case fieldAddr=>exact H5.q
 case indexAddr=>exact xI.q
 case index=>
  split
  ·exact bH N9.q aA
  ·exact aA
 case extract=>exact B6.q
 case makeMap t r=>
  split
  ·unfold so
   split
   ·split
    ·exact cM
    ·exact aA
   ·exact aA
  ·exact aA
 case lookup=>exact Er.q
 case mapUpdate=>exact xA
 case call c=>
  unfold Gs
  split
  ·split
   ·split
    ·split
     ·exact bH Gg.q aA
     ·exact aA
    ·split
     ·exact bH Gg.q aA
     ·exact aA
   ·exact aA
  ·split
   ·exact bH Bp aA
   ·exact aA
  ·split
   ·exact Hl
   ·exact aA
  ·exact aA
theorem OF{d:Bool}{op:Op}{ty n:Nat}{T T':TM}{K:gC→Prop}(hT:∀x∈op.operands,ev T' x=ev T x)(h:zm d P tbl op ty T H n K):zm d P tbl op ty T' H n K:=by
 cases op<;>simp only[zm] at h⊢ <;>first|exact h.elim|skip
 case move x=>rw[hT x (by simp[Op.operands])];exact h
 case assign x=>rw[hT x (by simp[Op.operands])];exact h
 case pick a b c=>rw[hT a (by simp[Op.operands]),hT b (by simp[Op.operands]),hT c (by simp[Op.operands])];exact h
 case alloc t=>exact h
 case box t x=>rw[hT x (by simp[Op.operands])];exact h
 case build t ps=>
  have:(ps.toList.map fun p=>(p.1,ev T' p.2))=ps.toList.map fun p=>(p.1,ev T p.2):=by
   refine List.map_congr_left fun p hp=> ?_
   rw[hT p.2 (by simp only[Op.operands];exact List.mem_toArray.2 (List.mem_map.2 ⟨p,hp,rfl⟩))]
  rw[this];exact h
 case buildSlice t l ps=>
  have:(ps.toList.map fun p=>(p.1,ev T' p.2))=ps.toList.map fun p=>(p.1,ev T p.2):=by
   refine List.map_congr_left fun p hp=> ?_
   rw[hT p.2 (by simp only[Op.operands];exact List.mem_toArray.2 (List.mem_map.2 ⟨p,hp,rfl⟩))]
  rw[this];exact h
 case load t x=>rw[hT x (by simp[Op.operands])];exact h
 case store t x y=>rw[hT x (by simp[Op.operands]),hT y (by simp[Op.operands])];exact h
 case nilCheck x=>rw[hT x (by simp[Op.operands])];exact h
 case binOp op t x y yt=>rw[hT x (by simp[Op.operands]),hT y (by simp[Op.operands])];exact h
 case unOp op t x=>rw[hT x (by simp[Op.operands])];exact h
 case convert s t x=>rw[hT x (by simp[Op.operands])];exact h
 case makeFunc fn first caps=>
  split at h
  ·have:caps.toList.map (ev T')=caps.toList.map (ev T):=by
        refine List.map_congr_left fun x hx=> ?_
        rw[hT x (by simp only[Op.operands];simp at hx⊢;exact .inr hx)]
   rw[this];exact h
  ·exact h.elim
 case makeSlice t l c=>rw[hT l (by simp[Op.operands]),hT c (by simp[Op.operands])];exact h
 case slice t x lo hi mx=>
  split at h
  ·have e1:∀o:Option Operand,(∀x,o=some x→ev T' x=ev T x)→o.map (ev T')=o.map (ev T):=by
        intro o ho
        cases o with
        |none=>rfl
        |some x=>simp[ho x rfl]
   rw[hT x (by simp[Op.operands]),e1 lo fun y hy=>hT y (by simp[Op.operands,hy]),e1 hi fun y hy=>hT y (by simp[Op.operands,hy])]
   exact h
  ·exact h.elim
 case fieldAddr s x f=>rw[hT x (by simp[Op.operands])];exact h
 case indexAddr t x i=>rw[hT x (by simp[Op.operands]),hT i (by simp[Op.operands])];exact h
 case index t x i=>rw[hT x (by simp[Op.operands]),hT i (by simp[Op.operands])];exact h
 case extract x i=>rw[hT x (by simp[Op.operands])];exact h
 case makeMap t r=>
  split at h
  ·exact h
  ·exact h.elim
 case lookup t x k ok=>rw[hT x (by simp[Op.operands]),hT k (by simp[Op.operands])];exact h
 case mapUpdate t x k v=>rw[hT x (by simp[Op.operands]),hT k (by simp[Op.operands]),hT v (by simp[Op.operands])];exact h
 case call c=>
  obtain⟨callee,args,argTypes⟩:=c
  unfold Gs at h⊢
  cases callee with
  |invoke r m=>exact h.elim
  |builtin b=>
   have hA:∀x∈args,ev T' x=ev T x:=fun x hx=>hT x (by simp[Op.operands,Call.operands,hx])
   cases b<;>simp only at h⊢ <;>first|exact h.elim|skip
   case len=>
        split at h
        ·rename_i x t hx ht
         rw[hA x (by have:x∈args.toList:=by rw[hx];simp
                     simpa using this)]
         exact h
        ·exact h.elim
   case append=>
        split at h
        ·rename_i x y t t' hx ht
         rw[hA x (by have:x∈args.toList:=by rw[hx];simp
                     simpa using this),hA y (by have:y∈args.toList:=by rw[hx];simp
                                                simpa using this)]
         exact h
        ·exact h.elim
  |value f=>
   have hA:∀x∈args,ev T' x=ev T x:=fun x hx=>hT x (by simp[Op.operands,Call.operands,hx])
   have e1:∀(xs:List Operand) (ts:List Nat),(∀x∈xs,ev T' x=ev T x)→j6 tbl T' xs ts=j6 tbl T xs ts:=by
        intro xs
        induction xs with
        |nil=>intro ts _;cases ts<;>rfl
        |cons x xs ih=>
         intro ts hx
         cases ts with
         |nil=>simp only[j6];rw[hx x (by simp),ih [] fun y hy=>hx y (by simp[hy])]
         |cons t ts=>simp only[j6];rw[hx x (by simp),ih ts fun y hy=>hx y (by simp[hy])]
   simp only at h⊢
   rw[hT f (by simp[Op.operands,Call.operands]),e1 _ _ fun x hx=>hA x (by simpa using hx)]
   exact h
end
end Go.KA
