/- Part of a proof engine for functions of the given program: what an operation, a loop and a call compute, symbolically. No conditions. -/
import Derived.Test.YtgbggaddpbghfaaGreatEngN
import Derived.Orders
namespace Go.KA
open Go Go.RowKit
def gU(X:(SV->Prop)->Prop):Prop:=∀K,X K-> ∃s,K s/\ ∀K':SV->Prop,K' s->X K'
def HV(X:(iT->Prop)->Prop):Prop:=∀K,X K-> ∃E,K E/\ ∀K':iT->Prop,K' E->X K'
section
variable{P:Program}{tbl:TT}{H:HM}
theorem gU.q{X:(SV->Prop)->Prop}(h:gU X):HV fun K=>X fun sv=>K (.q sv):=fun K hX=>by
 obtain⟨s,h1,h2⟩:=h _ hX;exact⟨_,h1,fun K' pZ=>h2 _ pZ⟩
theorem aQ:gU fun _=>False:=fun _ h=>h.elim
theorem cN{g:SV}:gU fun K=>K g:=fun _ h=>⟨g,h,fun _ h=>h⟩
theorem dK{b:Bool}{p q:(SV->Prop)->Prop}(hp:gU p)(hq:gU q):gU fun K=>cond b (p K) (q K):=by
 cases b with
 |true=>exact hp
 |false=>exact hq
theorem gJ{q:Prop}{p:(SV->Prop)->Prop}(hp:gU p):gU fun K=>bh q (p K):=fun K h=>by
 obtain⟨s,h1,h2⟩:=hp _ h.k;exact⟨s,h1,fun K' pZ=>⟨h.h,h2 _ pZ⟩⟩
theorem se{k:IntKind}{z:Int}{g:Int->SV}:gU fun K=>Arith k z fun z=>K (g z):=fun K h=>by
 cases h with
 |fit h hk=>exact⟨_,hk,fun K' pZ=> .fit h pZ⟩
 |wrap hk=>exact⟨_,hk,fun K' pZ=> .wrap pZ⟩
theorem wG{l:List (List CV)}{n:Nat}{G:List CV->(SV->Prop)->Prop}(hG:∀r,gU (G r)):gU fun K=>Index l n fun r=>G r K:=fun K h=>by
 cases h with
 |mk r h k=>
  obtain⟨s,h1,h2⟩:=hG r _ k;exact⟨s,h1,fun K' pZ=> .mk r h (h2 _ pZ)⟩
theorem qQ{agg:Bool}{size:Nat}{cs:List CV}:gU fun K=>EU agg size cs K:=by
 unfold EU;cases agg with
 |true=>exact dK cN aQ
 |false=>cases cs with
  |nil=>exact aQ
  |cons x _=>exact cN
theorem OD{agg:Bool}{size:Nat}{cs:List SV}:gU fun K=>PN agg size cs K:=by
 unfold PN;cases agg with
 |true=>exact dK cN aQ
 |false=>cases cs with
  |nil=>exact aQ
  |cons x _=>exact cN
theorem zE{t:Nat}{p:SV}:gU fun K=>xL tbl t p H K:=by
 unfold xL;cases tbl.find t with
 |none=>exact aQ
 |some i=>
  simp only;split
  ·exact dK cN qQ
  ·split
   ·exact dK cN qQ
   ·exact OD
   ·exact aQ
  ·split
   ·exact dK (wG fun r=>dK cN qQ) aQ
   ·exact dK (wG fun r=>dK qQ aQ) aQ
   ·exact aQ
  ·exact aQ
theorem M1{s:Nat}{p:SV}{f:Nat}:gU fun K=>Ak tbl s p f K:=by
 unfold Ak;cases tbl.find s with
 |none=>exact aQ
 |some i=>
  simp only;cases i.fields[f]? with
  |none=>exact aQ
  |some x=>
   simp only;split
   ·exact cN
   ·exact cN
   ·exact cN
   ·exact aQ
theorem Bo{t:Nat}{x ix:SV}:gU fun K=>nz tbl t x ix H K:=by
 unfold nz;split
 ·split
  ·split
   ·exact dK (gJ (wG fun r=>cN)) aQ
   ·split
    ·exact dK (gJ cN) aQ
    ·exact dK (gJ cN) aQ
    ·exact aQ
   ·exact dK (gJ cN) aQ
   ·exact aQ
  ·exact aQ
 ·exact aQ
theorem AP{t:Nat}{x ix:SV}:gU fun K=>ma tbl t x ix H K:=by
 unfold ma;split
 ·split
  ·split
   ·exact gJ cN
   ·exact aQ
  ·exact aQ
 ·split
  ·split
   ·exact gJ cN
   ·exact aQ
  ·exact aQ
 ·split
  ·split
   ·exact gJ cN
   ·exact aQ
  ·exact aQ
 ·exact Bo
theorem Lx{op:BinOp}{k:IntKind}{a b:Int}:gU fun K=>NI op k a b K:=by
 unfold NI;cases op<;>first
  |exact aQ
  |exact se
  |exact cN
  |exact gJ se
  |exact gJ cN
theorem TB{op:BinOp}{a b:ByteArray}:gU fun K=>Qk op a b K:=by
 unfold Qk;cases op<;>first
  |exact aQ
  |exact cN
  |exact gJ cN
theorem Se{op:BinOp}{x y:SV}:gU fun K=>Rg op x y K:=by
 unfold Rg;split
 ·cases op<;>first
   |exact Lx
   |exact dK Lx aQ
 ·split
  ·exact TB
  ·exact aQ
theorem Pq{op:BinOp}{x y:SV}:gU fun K=>G1 op x y K:=by
 unfold G1;split
 ·cases op<;>first
   |exact aQ
   |exact cN
 ·exact aQ
theorem Rh{op:BinOp}{x y:SV}:gU fun K=>Fk op x y K:=by
 unfold Fk;split
 ·cases op<;>exact dK (by first|exact cN|exact aQ) aQ
 ·exact aQ
theorem JP{op:BinOp}{t:Nat}{x y:SV}:gU fun K=>uR tbl op t x y K:=by
 unfold uR;split
 ·split
  ·exact dK Pq aQ
  ·exact aQ
 ·split
  ·exact dK Rh aQ
  ·exact aQ
 ·exact Se
theorem PC{op:BinOp}{t:Nat}{x y:SV}:gU fun K=>It true tbl op t x y K:=by
 unfold It;cases Ex y with
 |true=>simp only;split<;>exact aQ
 |false=>exact JP
theorem UY{op:UnOp}{x:SV}:gU fun K=>Zv op x K:=by
 unfold Zv;cases op<;>simp only<;>first
  |exact aQ
  |(split<;>first
                 |exact aQ
                 |exact se
                 |exact cN)
theorem Qy{c a b:SV}:gU fun K=>GI c a b K:=by
 unfold GI;split
 ·exact cN
 ·exact cN
 ·split
  ·exact cN
  ·exact aQ
 ·exact aQ
theorem Gr{x:SV}{i:Nat}:gU fun K=>rM x i K:=by
 unfold rM;split
 ·split
  ·exact cN
  ·exact aQ
 ·exact aQ
theorem SC{x:SV}:gU fun K=>Rv x K:=by
 unfold Rv;split<;>first|exact cN|exact aQ
theorem Qp{d:Nat}{x:SV}:gU fun K=>HI tbl d x K:=by
 unfold HI;split
 ·split
  ·exact se
  ·exact aQ
 ·exact aQ
theorem Mw{e d:Nat}{x:SV}:gU fun K=>Av tbl e d x H K:=by
 unfold Av;split
 ·split
  ·split
   ·refine dK ?_ aQ;split
    ·split
     ·split
      ·exact dK cN aQ
      ·exact aQ
     ·exact aQ
    ·exact aQ
   ·exact aQ
  ·exact aQ
 ·exact aQ
theorem KK{x:SV}:gU fun K=>Mg true x H K:=by
 unfold Mg;split
 ·exact cN
 ·split
  ·exact cN
  ·exact cN
  ·exact aQ
 ·exact cN
 ·exact cN
 ·exact cN
 ·exact aQ
theorem WS{x ix:SV}:gU fun K=>Af x ix K:=by
 unfold Af;split
 ·exact gJ cN
 ·exact aQ
theorem KT{j sz len:Nat}{l h:Int}:gU fun K=>iK j sz len l h K:=fun K hS=>by
 cases hS with
 |some hb k=>exact⟨_,k,fun K' pZ=> .some hb pZ⟩
 |none hb k=>exact⟨_,k,fun K' pZ=> .none hb pZ⟩
 |all hb k=>exact⟨_,k,fun K' pZ=> .all hb pZ⟩
theorem M9{t:Nat}{x:SV}{lo hi:Option SV}:gU fun K=>AO tbl t x lo hi H K:=by
 unfold AO;cases tbl.find t with
 |none=>exact aQ
 |some i=>
  simp only;split
  ·split
   ·exact dK (gJ cN) aQ
   ·exact aQ
  ·split
   ·split
    ·exact dK KT aQ
    ·exact aQ
   ·split
    ·exact dK KT aQ
    ·exact aQ
   ·exact aQ
  ·split
   ·exact dK (gJ cN) aQ
   ·exact aQ
  ·exact aQ
theorem aO:HV fun _=>False:=fun _ h=>h.elim
theorem da{g:iT}:HV fun K=>K g:=fun _ h=>⟨g,h,fun _ h=>h⟩
theorem b8{b:Bool}{p q:(iT->Prop)->Prop}(hp:HV p)(hq:HV q):HV fun K=>cond b (p K) (q K):=by
 cases b with
 |true=>exact hp
 |false=>exact hq
theorem sc{q:Prop}{p:(iT->Prop)->Prop}(hp:HV p):HV fun K=>bh q (p K):=fun K h=>by
 obtain⟨s,h1,h2⟩:=hp _ h.k;exact⟨s,h1,fun K' pZ=>⟨h.h,h2 _ pZ⟩⟩
theorem tQ{l:List (List CV)}{n:Nat}{G:List CV->(iT->Prop)->Prop}(hG:∀r,HV (G r)):HV fun K=>Index l n fun r=>G r K:=fun K h=>by
 cases h with
 |mk r h k=>
  obtain⟨s,h1,h2⟩:=hG r _ k;exact⟨s,h1,fun K' pZ=> .mk r h (h2 _ pZ)⟩
theorem Mx{f:Nat}{args:List SV}{n:Nat}:HV fun K=>ay (d:=true) P f args H n K:=fun K h=>by
 cases h with
 |pure df r hv h hs E he k=>exact⟨E,k,fun K' k'=> .pure df r hv h hs E he k'⟩
 |own df r hv h hp E he k=>exact⟨E,k,fun K' k'=> .own df r hv h hp E he k'⟩
 |gen md df outs r hv h hn hc E he k=>exact⟨E,k,fun K' k'=> .gen md df outs r hv h hn hc E he k'⟩
 |pug md df outs r hv h hn hp E he k=>exact⟨E,k,fun K' k'=> .pug md df outs r hv h hn hp E he k'⟩
 |ex hd=>cases hd
 |raw hd=>cases hd
 |iY md df outs r hv h hn hc sv i b k1 s u ty sz rows x y c he h1 h2 h3 hd ZV k=>exact⟨_,k,fun K' k'=> .iY md df outs r hv h hn hc sv i b k1 s u ty sz rows x y c he h1 h2 h3 hd ZV k'⟩
theorem uj{sz:Nat}{rows:List (List CV)}{idx off size:Nat}{cs:List CV}{g:List (List CV)->iT}:HV fun K=>xG sz rows idx off size cs fun r=>K (g r):=by
 unfold xG;exact b8 (b8 (tQ fun r=>da) (b8 (tQ fun r=>da) aO)) aO
theorem Jm{t:Nat}{p v:SV}:HV fun K=>Ag tbl t p v H K:=by
 unfold Ag;cases tbl.find t with
 |none=>exact aO
 |some i=>
  simp only;split
  ·split
   ·split
    ·exact b8 (b8 da (b8 da aO)) aO
    ·exact b8 da aO
    ·exact b8 (b8 da (b8 da aO)) aO
    ·exact b8 da aO
   ·split
    ·exact b8 (b8 da (b8 da aO)) aO
    ·exact b8 da aO
    ·exact b8 da aO
   ·split
    ·split
     ·exact b8 da aO
     ·exact aO
    ·exact aO
   ·exact aO
  ·split
   ·exact aO
   ·split
    ·refine b8 ?_ aO;split
     ·exact uj
     ·exact b8 uj aO
    ·exact b8 (b8 uj aO) aO
    ·exact aO
  ·exact aO
theorem G0{t:Nat}{s x:SV}{n:Nat}:HV fun K=>vj true tbl t s x H n K:=by
 unfold vj;split
 ·split
  ·split
   ·split<;>first|exact da|exact aO
   ·split
    ·split
     ·refine b8 ?_ aO;unfold fact;refine sc ?_;split<;>exact da
     ·exact b8 (by unfold fact;exact sc da) aO
     ·exact aO
    ·exact aO
  ·exact aO
 ·split
  ·split
   ·split
    ·refine b8 ?_ aO;unfold fact;refine sc ?_;split<;>exact da
    ·exact aO
   ·exact aO
  ·exact aO
 ·exact aO
theorem Ir{X:(SV->Prop)->Prop}{G:SV->(SV->Prop)->Prop}(hX:gU X)(hG:∀s,gU (G s)):gU fun K=>X fun s=>G s K:=fun K h=>by
 obtain⟨s,h1,h2⟩:=hX _ h;obtain⟨s',h3,h4⟩:=hG s K h1;exact⟨s',h3,fun K' pZ=>h2 _ (h4 K' pZ)⟩
theorem LY{el:Bool}{sv:SV}:gU fun K=>MS el H sv K:=by
 unfold MS;split
 ·refine dK (fun K h=>?_) cN;cases h with
  |no k=>exact⟨_,k,fun K' pZ=> .no pZ⟩
  |row i h k=>exact⟨_,k,fun K' pZ=> .row i h pZ⟩
  |aU i h k=>exact⟨_,k,fun K' pZ=> .aU i h pZ⟩
 ·exact cN
theorem NK{t:Nat}{p:SV}{n:Nat}:HV fun K=>Ia true tbl t p H n K:=by
 unfold Ia;split
 ·split
  ·cases tbl.find t with
   |none=>exact aO
   |some i=>exact b8 (tQ fun r=>by unfold Po;exact b8 (Ir qQ fun s=>LY).q aO) aO
  ·exact zE.q
 ·exact(Ir zE fun s=>LY).q
 ·exact zE.q
theorem Kb{t:Nat}{x k:SV}{ok:Bool}:gU fun K=>uU tbl t x k ok H K:=by
 unfold uU;split
 ·split
  ·split
   ·split
    ·refine dK (fun K h=>?_) aQ;cases h with
     |Xi j s h g=>
      cases ok with
      |true=>exact⟨_,g,fun K' pZ=> .Xi j s h pZ⟩
      |false=>exact⟨_,g,fun K' pZ=> .Xi j s h pZ⟩
     |Na h g=>
      cases ok with
      |true=>exact⟨_,g,fun K' pZ=> .Na h pZ⟩
      |false=>exact⟨_,g,fun K' pZ=> .Na h pZ⟩
    ·exact aQ
   ·exact aQ
  ·exact aQ
 ·exact aQ
theorem rA{t:Nat}{x k v:SV}:HV fun K=>lP tbl t x k v H K:=by
 unfold lP;split
 ·split
  ·split
   ·split
    ·refine b8 (fun K h=>?_) aO;cases h with
     |y5 j s h g=>exact⟨_,g,fun K' pZ=> .y5 j s h pZ⟩
     |new h g=>exact⟨_,g,fun K' pZ=> .new h pZ⟩
    ·exact aO
   ·exact aO
  ·exact aO
 ·exact aO
theorem SW{op:Op}{ty n:Nat}{T:TM}:HV fun K=>B0 true P tbl op ty T H n K:=by
 cases op<;>simp only[B0]<;>first|exact aO|skip
 case move x=>
  unfold CX;split
  ·split
   ·split<;>exact da
   ·exact da
  ·exact da
 case assign x=>
  unfold CX;split
  ·split
   ·split<;>exact da
   ·exact da
  ·exact da
 case pick=>exact Qy.q
 case alloc t=>unfold D5;(repeat' split)<;>first|exact da|exact aO
 case box t x=>unfold Sy;split<;>first|exact da|exact aO
 case build t ps=>
  unfold Er;split
  ·exact aO
  ·refine b8 aO ?_;split<;>first|exact da|exact aO
 case buildSlice t l ps=>
  unfold ou;split
  ·exact aO
  ·split
   ·exact aO
   ·split
    ·exact aO
    ·refine b8 ?_ aO;split
     ·exact da
     ·exact b8 da aO
 case load=>exact NK
 case store=>exact Jm
 case nilCheck=>exact SC.q
 case binOp=>exact PC.q
 case unOp=>exact UY.q
 case convert=>exact b8 Qp.q Mw.q
 case makeFunc=>
  split
  ·unfold Ou;exact b8 da aO
  ·exact aO
 case makeSlice=>
  unfold qn;split
  ·split
   ·exact aO
   ·split
    ·exact aO
    ·exact sc da
  ·exact aO
 case slice=>
  split
  ·exact M9.q
  ·exact aO
 case fieldAddr=>exact M1.q
 case indexAddr=>exact AP.q
 case index=>
  split
  ·exact b8 WS.q aO
  ·exact aO
 case extract=>exact Gr.q
 case makeMap t r=>
  split
  ·unfold uP;split
   ·split
    ·exact da
    ·exact aO
   ·exact aO
  ·exact aO
 case lookup=>exact Kb.q
 case mapUpdate=>exact rA
 case insert=>exact rA
 case call c=>
  unfold KQ;split
  ·split
   ·split
    ·split
     ·exact b8 KK.q aO
     ·exact aO
    ·split
     ·exact b8 KK.q aO
     ·exact aO
   ·exact aO
  ·split
   ·exact b8 G0 aO
   ·exact aO
  ·split
   ·exact Mx
   ·exact aO
  ·exact aO
theorem X9{d:Bool}{op:Op}{ty n:Nat}{T T':TM}{K:iT->Prop}(hT:∀x∈op.operands,ev T' x=ev T x)(h:B0 d P tbl op ty T H n K):B0 d P tbl op ty T' H n K:=by
 cases op<;>simp only[B0]at h⊢ <;>first|exact h.elim|skip
 case move x=>rw[hT x (by simp[Op.operands])];exact h
 case assign x=>rw[hT x (by simp[Op.operands])];exact h
 case pick a b c=>rw[hT a (by simp[Op.operands]),hT b (by simp[Op.operands]),hT c (by simp[Op.operands])];exact h
 case alloc t=>exact h
 case box t x=>rw[hT x (by simp[Op.operands])];exact h
 case build t ps=>
  have:(ps.toList.map fun p=>(p.1,ev T' p.2))=ps.toList.map fun p=>(p.1,ev T p.2):=by
   refine List.map_congr_left fun p hp=>?_
   rw[hT p.2 (by simp only[Op.operands];exact List.mem_toArray.2 (List.mem_map.2 ⟨p,hp,rfl⟩))]
  rw[this];exact h
 case buildSlice t l ps=>
  have:(ps.toList.map fun p=>(p.1,ev T' p.2))=ps.toList.map fun p=>(p.1,ev T p.2):=by
   refine List.map_congr_left fun p hp=>?_
   rw[hT p.2 (by simp only[Op.operands];exact List.mem_toArray.2 (List.mem_map.2 ⟨p,hp,rfl⟩))]
  rw[this];exact h
 case load t x=>rw[hT x (by simp[Op.operands])];exact h
 case store t x y=>rw[hT x (by simp[Op.operands]),hT y (by simp[Op.operands])];exact h
 case nilCheck x=>rw[hT x (by simp[Op.operands])];exact h
 case binOp op t x y yt=>rw[hT x (by simp[Op.operands]),hT y (by simp[Op.operands])];exact h
 case unOp op t x=>rw[hT x (by simp[Op.operands])];exact h
 case convert s t x=>rw[hT x (by simp[Op.operands])];exact h
 case makeFunc fn first ij=>
  split at h
  ·have:ij.toList.map (ev T')=ij.toList.map (ev T):=by
        refine List.map_congr_left fun x hx=>?_
        rw[hT x (by simp only[Op.operands];simp at hx⊢;exact .inr hx)]
   rw[this];exact h
  ·exact h.elim
 case makeSlice t l c=>rw[hT l (by simp[Op.operands]),hT c (by simp[Op.operands])];exact h
 case slice t x lo hi mx=>
  split at h
  ·have e1:∀o:Option Operand,(∀x,o=some x->ev T' x=ev T x)->o.map (ev T')=o.map (ev T):=by
        intro o ho;cases o with
        |none=>rfl
        |some x=>simp[ho x rfl]
   rw[hT x (by simp[Op.operands]),e1 lo fun y hy=>hT y (by simp[Op.operands,hy]),e1 hi fun y hy=>hT y (by simp[Op.operands,hy])];exact h
  ·exact h.elim
 case fieldAddr s x f=>rw[hT x (by simp[Op.operands])];exact h
 case indexAddr t x i=>rw[hT x (by simp[Op.operands]),hT i (by simp[Op.operands])];exact h
 case index t x i=>rw[hT x (by simp[Op.operands]),hT i (by simp[Op.operands])];exact h
 case extract x i=>rw[hT x (by simp[Op.operands])];exact h
 case makeMap t r=>
  split at h
  ·exact h
  ·exact h.elim
 case lookup t x k ok=>rw[hT x (by simp[Op.operands]),hT k (by simp[Op.operands])];exact h
 case mapUpdate t x k v=>rw[hT x (by simp[Op.operands]),hT k (by simp[Op.operands]),hT v (by simp[Op.operands])];exact h
 case insert t x k v=>rw[hT x (by simp[Op.operands]),hT k (by simp[Op.operands]),hT v (by simp[Op.operands])];exact h
 case call c=>
  obtain⟨callee,args,argTypes⟩:=c;unfold KQ at h⊢;cases callee with
  |invoke r m=>exact h.elim
  |builtin b=>
   have hA:∀x∈args,ev T' x=ev T x:=fun x hx=>hT x (by simp[Op.operands,Call.operands,hx])
   cases b<;>simp only at h⊢ <;>first|exact h.elim|skip
   case len=>
        split at h
        ·rename_i x t hx ht;rw[hA x (by have:x∈args.toList:=by rw[hx];simp
                                        simpa using this)]
         exact h
        ·exact h.elim
   case append=>
        split at h
        ·rename_i x y t t' hx ht;rw[hA x (by have:x∈args.toList:=by rw[hx];simp
                                             simpa using this),hA y (by have:y∈args.toList:=by rw[hx];simp
                                                                        simpa using this)]
         exact h
        ·exact h.elim
  |value f=>
   have hA:∀x∈args,ev T' x=ev T x:=fun x hx=>hT x (by simp[Op.operands,Call.operands,hx])
   have e1:∀(xs:List Operand) (ts:List Nat),(∀x∈xs,ev T' x=ev T x)->me tbl T' xs ts=me tbl T xs ts:=by
        intro xs
        induction xs with
        |nil=>intro ts _;cases ts<;>rfl
        |cons x xs ih=>
         intro ts hx;cases ts with
         |nil=>simp only[me];rw[hx x (by simp),ih [] fun y hy=>hx y (by simp[hy])]
         |cons t ts=>simp only[me];rw[hx x (by simp),ih ts fun y hy=>hx y (by simp[hy])]
   simp only at h⊢;rw[hT f (by simp[Op.operands,Call.operands]),e1 _ _ fun x hx=>hA x (by simpa using hx)];exact h
end
end Go.KA
