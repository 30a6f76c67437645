/- Part of a proof engine for functions of the given program: what an operation, a loop and a call compute, symbolically. No conditions. -/
import Derived.Test.YtgbggaddpbghfaaGreatEngA
import Derived.Laws.BytesArg
namespace Go.KA
open Go
structure bM(b:Bool)(p q:Prop):Prop where
 t:b=true->p
 f:b=false->q
structure bh(p:Prop)(k:Prop):Prop where
 h:p
 k:k
structure Fact(p:Prop)(k:Prop):Prop where
 k:p->k
inductive Index(l:List (List CV))(n:Nat)(K:List CV->Prop):Prop
 |mk (r:List CV) (h:l[n]? =some r) (k:K r)
inductive Arith(k:IntKind)(z:Int)(K:Int->Prop):Prop
 |fit (h:k.wrap z=z) (hk:K z)
 |wrap (hk:K (k.wrap z))
inductive ZC where
 |v (x:Value)
 |s (ll dw:Nat)
def ZC.val:ZC->Value
 | .v x=>x
 | .s _ _=> .slice none 0 0
structure iZ where
 agg:Bool
 size:Nat
 fields:List (Nat × Nat × Nat):=[]
 elem:Option (Nat × Nat × Nat):=none
 ik:Option IntKind:=none
 T4:Bool:=false
 Ws:Bool:=false
 Jk:Bool:=false
 DK:Option (Option IntKind × Nat):=none
 arr:Option (Nat × Nat × Nat):=none
 zero:List ZC
inductive TT where
 |leaf
 |node (l:TT) (k:Nat) (i:iZ) (r:TT)
def TT.find:TT->Nat->Option iZ
 | .leaf,_=>none
 | .node l k i r,t=>cond (Nat.blt t k) (l.find t) (cond (Nat.blt k t) (r.find t) (some i))
def TT.toList:TT->List (Nat × iZ)
 | .leaf=>[]
 | .node l k i r=>l.toList++(k,i)::r.toList
theorem TT.mem:∀(x:TT) (t:Nat) (i:iZ),x.find t=some i->(t,i)∈x.toList
 | .leaf,t,i,h=>by simp[TT.find]at h
 | .node l k j r,t,i,h=>by
   simp only[TT.find]at h;simp only[TT.toList,ao,List.mem_cons];cases h1:Nat.blt t k with
   |true=>rw[h1]at h;exact .inl (l.mem t i h)
   |false=>
    rw[h1]at h;cases h2:Nat.blt k t with
    |true=>rw[h2]at h;exact .inr (.inr (r.mem t i h))
    |false=>
     rw[h2]at h;have e1:¬t<k:=by intro hh;rw[<-Nat.blt_eq]at hh;simp[hh]at h1
     have e2:¬k<t:=by intro hh;rw[<-Nat.blt_eq]at hh;simp[hh]at h2
     have:t=k:=by omega
     injection h with h
     exact .inr (.inl (by rw[this,h]))
structure vM(P:Program)(t:Nat)(i:iZ):Prop where
 size:(P.info? t).map (·.size)=some i.size
 agg:∃d,P.underlying t=some d/\d.isRow=i.agg
 zero:∃inf z,P.info? t=some inf/\inf.zero=some z/\z.cells.toList=i.zero.map ZC.val/\z.cells.size=i.size/\(i.agg=true->z= .agg z.cells)/\(∀z∈i.zero,z.val.oneCell'=true)
 elem:∀e sz ZB,i.elem=some (e,sz,ZB)->P.underlying t=some (.slice e)/\0<sz/\ ∃inf z,P.info? e=some inf/\inf.size=sz/\inf.bytes=ZB/\inf.zero=some z/\z.cells.size=sz
 field:∀(n:Nat) off ft W0,i.fields[n]? =some (off,ft,W0)->0<W0/\ ∃(fs:Array Field) (f:Field),P.underlying t=some (.struct fs)/\fs[n]? =some f/\f.offset=off/\f.type=ft/\(P.info? ft).map (·.size)=some W0
 VO:i.fields≠[]-> ∃fs:Array Field,P.underlying t=some (.struct fs)/\fs.toList.mapM (fun f=>(P.info? f.type).map fun i=>(f.offset,i.size))=some (i.fields.map fun x=>(x.1,x.2.2))
 ik:∀k,i.ik=some k->P.underlying t=some (.int k)
 Ws:i.Ws=true->P.underlying t=some .bool
 Jk:i.Jk=true->P.underlying t=some .string
 ace:i.agg=false-> ∀inf z,P.info? t=some inf->inf.zero=some z->z.oneCell'=true
 DK:∀k e,i.DK=some (k,e)-> ∃kt,P.underlying t=some (.map kt e)/\P.underlying kt=some (Ca k)
 arr:∀e sz n,i.arr=some (e,sz,n)->P.underlying t=some (.array n e)/\ ∃inf,P.info? e=some inf/\inf.size=sz
 T4:i.T4=true-> ∀(xo yo:Operand) (a b c d:Int) (k k':IntKind) (w:World),(do eqGuard .eql t xo yo (.agg #[.int k a, .int k' b]) (.agg #[.int k c, .int k' d]);binOp .eql t (.agg #[.int k a, .int k' b]) (.agg #[.int k c, .int k' d])).run P w= .ok (.bool (a==c&&b==d)) w/\
  (do eqGuard .neq t xo yo (.agg #[.int k a, .int k' b]) (.agg #[.int k c, .int k' d]);binOp .neq t (.agg #[.int k a, .int k' b]) (.agg #[.int k c, .int k' d])).run P w= .ok (.bool (!(a==c&&b==d))) w
def en(P:Program)(tbl:TT):Prop:=∀t i,tbl.find t=some i->vM P t i
def Dm(T:TM)(d:Nat)(v:SV):TM:=fun i=>cond (Nat.beq i d) v (T i)
def ff(T:TM)(d:Option Nat)(v:SV):TM:=match d with|some d=>Dm T d v|none=>T
def Qm:Value->SV
 | .bool b=> .c (.cb b)
 | .agg a=>cond (a.toList.all Value.oneCell') (.a a.toList.length (a.toList.map CV.val)) .any
 | .tuple _=> .any
 | .func (.func f) a b=>match a.toList,b.toList with|[],[]=> .clo f []|_,_=> .any
 |v=> .c (.val v)
def ev(T:TM):Operand->SV
 | .tmp t=>T t
 | .const v=>Qm v
 | .global _=> .any
 | .func f=> .clo f []
def Wj:SV->Option Bool
 | .c (.cb b)=>some b
 | .c (.val (.bool b))=>some b
 |_=>none
def JE:SV->Option (IntKind × Int)
 | .c (.val (.int k n))=>some (k,n)
 |_=>none
def u7:SV->Option ByteArray
 | .c (.val (.string s))=>some s
 |_=>none
def qy:SV->Bool
 | .c _| .lp .. | .le .. | .lw _| .ls .. | .mp _=>true
 |_=>false
def Hz(n j:Nat):SV->SV
 | .lp i o=>cond (Nat.beq i j) (.c .any) (cond (Nat.beq i n) (.lp j o) (.lp i o))
 | .lw i=>cond (Nat.beq i j) (.c .any) (cond (Nat.beq i n) (.lw j) (.lw i))
 | .le i a b c=>cond (Nat.beq i j) (.c .any) (cond (Nat.beq i n) (.le j a b c) (.le i a b c))
 | .ls i a b c=>cond (Nat.beq i j) (.c .any) (cond (Nat.beq i n) (.ls j a b c) (.ls i a b c))
 | .mp i=>cond (Nat.beq i j) (.c .any) (cond (Nat.beq i n) (.mp j) (.mp i))
 |x=>x
def Mr(k:Nat)(r:CV):SV->SV
 | .lw i=>cond (Nat.beq i k) (.c r) (.lw i)
 |x=>x
def UQ(g:SV->SV):SV->SV
 | .m cs=> .m (cs.map g)
 | .clo f cs=> .clo f (cs.map g)
 | .a n cs=> .a n cs
 | .tup vs=> .tup vs
 | .any=> .any
 |x=>g x
def XY(g:SV->SV):SV->SV
 | .tup vs=> .tup (vs.map (UQ g))
 |x=>UQ g x
def P9(g:SV->SV):dW->dW
 | .cells cs=> .cells (cs.map g)
 |b=>b
def DX(g:SV->SV)(T:TM):TM:=fun i=>XY g (T i)
def dY(H:HM)(j:Nat)(b:dW):HM:=fun i=>cond (Nat.beq i j) b (H i)
def du:List (Nat × dW)->HM->HM
 |[],H=>H
 |(j,b)::r,H=>du r (dY H j b)
structure iT where
 sv:SV
 ws:List (Nat × dW)
 c:Nat
 rn:List (Nat × Nat)
abbrev iT.q(s:SV):iT:=⟨s,[],0,[]⟩
def cellsOf:SV->Option (List SV ⊕ List CV)
 | .a _ cs=>some (.inr cs)
 | .m cs=>some (.inl cs)
 | .c x=>some (.inr [x])
 | .lp i a=>some (.inl [.lp i a])
 | .le i a b c=>some (.inl [.le i a b c])
 | .lw i=>some (.inl [.lw i])
 | .ls i a b c=>some (.inl [.ls i a b c])
 | .mp i=>some (.inl [.mp i])
 |_=>none
def bo{α:Type}(l:List α)(off:Nat)(x:List α):List α:=l.take off++x++l.drop (off+x.length)
def EU(agg:Bool)(size:Nat)(cs:List CV)(K:SV->Prop):Prop:=
 match agg with
 |true=>cond (Nat.beq (cs.take size).length size) (K (.a size (cs.take size))) False
 |false=>match cs with|x::_=>K (.c x)|[]=>False
def PN(agg:Bool)(size:Nat)(cs:List SV)(K:SV->Prop):Prop:=
 match agg with
 |true=>cond (Nat.beq (cs.take size).length size) (K (.m (cs.take size))) False
 |false=>match cs with|x::_=>K x|[]=>False
def ji:CV->Bool
 | .own _ _ _=>false
 | .fQ _ _ _ _=>false
 | .ows _ _ _=>false
 | .op _=>false
 | .jB _ _ _=>false
 |_=>true
def Zs(agg:Bool)(size:Nat)(cs:List CV)(K:SV->Prop):Prop:=
 cond ((cs.take (cond agg size 1)).all ji) (EU agg size (cs.take (cond agg size 1)) K) False
def xL(tbl:TT)(t:Nat)(p:SV)(H:HM)(K:SV->Prop):Prop:=
 match tbl.find t with
 |none=>False
 |some i=>
  match p with
  | .c (.rp sz cs)=>cond (i.agg&&Nat.beq sz i.size) (K (.a sz cs)) (EU i.agg i.size cs K)
  | .lp j off=>
    match H j with
    | .cc sz cs=>cond (i.agg&&(Nat.beq sz i.size&&Nat.beq off 0)) (K (.a sz cs)) (EU i.agg i.size (cs.drop off) K)
    | .cells cs=>PN i.agg i.size (cs.drop off) K
    |_=>False
  | .le j sz idx off=>
    match H j with
    | .row _ _ fN rows=>
      cond (Nat.beq sz fN) (Index rows idx fun r=>cond (i.agg&&(Nat.beq sz i.size&&Nat.beq off 0)) (K (.a sz r)) (EU i.agg i.size (r.drop off) K)) False
    | .aU _ _ fN rows=>cond (Nat.beq sz fN) (Index rows idx fun r=>Zs i.agg i.size (r.drop off) K) False
    |_=>False
  |_=>False
inductive ch(H:HM)(v:Value)(K:SV->Prop):Prop
 |no (k:K (.c (.val v)))
 |row (i:Nat) {ty sz:Nat} {rows:List (List CV)} (h:H i= .row (some v) ty sz rows) (k:K (.lw i))
 |aU (i:Nat) {ty sz:Nat} {rows:List (List CV)} (h:H i= .aU (some v) ty sz rows) (k:K (.lw i))
def MS(el:Bool)(H:HM)(sv:SV)(K:SV->Prop):Prop:=
 match sv with
 | .c (.val v)=>cond el (ch H v K) (K (.c (.val v)))
 |sv=>K sv
def Ak(tbl:TT)(s:Nat)(p:SV)(f:Nat)(K:SV->Prop):Prop:=
 match tbl.find s with
 |none=>False
 |some i=>
  match i.fields[f]? with
  |none=>False
  |some (off,_,_)=>
   match p with
   | .c (.rp sz cs)=>K (.c (.rp (sz-off) (cs.drop off)))
   | .lp j o=>K (.lp j (o+off))
   | .le j sz idx o=>K (.le j sz idx (o+off))
   |_=>False
def nz(tbl:TT)(t:Nat)(x ix:SV)(H:HM)(K:SV->Prop):Prop:=
 match tbl.find t,JE ix with
 |some i,some (_,n)=>
  match i.elem with
  |some (_,dw,_)=>
   match x with
   | .c (.ro sz rows)=>cond (Nat.beq sz dw) (bh (0≤n) (Index rows n.toNat fun r=>K (.c (.rp sz r)))) False
   | .lw j=>
     match H j with
     | .row _ _ sz rows=>cond (Nat.beq sz dw) (bh (0≤n/\n.toNat<rows.length) (K (.le j sz n.toNat 0))) False
     | .aU _ _ sz rows=>cond (Nat.beq sz dw) (bh (0≤n/\n.toNat<rows.length) (K (.le j sz n.toNat 0))) False
     |_=>False
   | .ls j sz off len=>cond (Nat.beq sz dw) (bh (0≤n/\n.toNat<len) (K (.le j sz (off+n.toNat) 0))) False
   |_=>False
  |none=>False
 |_,_=>False
def ma(tbl:TT)(t:Nat)(x ix:SV)(H:HM)(K:SV->Prop):Prop:=
 match x with
 | .lp j off=>match tbl.find t,JE ix with
   |some i,some (_,n)=>match i.arr with
    |some (_,dw,len)=>bh (0≤n/\n.toNat<len) (K (.lp j (off+n.toNat*dw)))
    |none=>False
   |_,_=>False
 | .le j sz idx off=>match tbl.find t,JE ix with
   |some i,some (_,n)=>match i.arr with
    |some (_,dw,len)=>bh (0≤n/\n.toNat<len) (K (.le j sz idx (off+n.toNat*dw)))
    |none=>False
   |_,_=>False
 | .c (.rp sz cs)=>match tbl.find t,JE ix with
   |some i,some (_,n)=>match i.arr with
    |some (_,dw,len)=>bh (0≤n/\n.toNat<len) (K (.c (.rp (sz-n.toNat*dw) (cs.drop (n.toNat*dw)))))
    |none=>False
   |_,_=>False
 |x=>nz tbl t x ix H K
def Ma:IntKind->IntKind->Bool
 | .i8, .i8| .i16, .i16| .i32, .i32| .i64, .i64| .u8, .u8| .u16, .u16| .u32, .u32| .u64, .u64=>true
 |_,_=>false
def Bc(b:Bool):SV:= .c (.val (.bool b))
def Fg(k:IntKind)(n:Int):SV:= .c (.val (.int k n))
def NI(op:BinOp)(k:IntKind)(a b:Int)(K:SV->Prop):Prop:=
 match op with
 | .add=>Arith k (a+b) fun z=>K (Fg k z)
 | .sub=>Arith k (a-b) fun z=>K (Fg k z)
 | .mul=>Arith k (a*b) fun z=>K (Fg k z)
 | .quo=>bh (b≠0) (Arith k (a.tdiv b) fun z=>K (Fg k z))
 | .rem=>bh (b≠0) (K (Fg k (a.tmod b)))
 | .eql=>K (Bc (a==b))
 | .neq=>K (Bc (a != b))
 | .lss=>K (Bc (decide (a<b)))
 | .leq=>K (Bc (decide (a≤b)))
 | .gtr=>K (Bc (decide (a>b)))
 | .geq=>K (Bc (decide (a≥b)))
 | .shl=>bh (0≤b) (Arith k (a*2^(min b.toNat k.bits)) fun z=>K (Fg k z))
 | .shr=>bh (0≤b) (K (Fg k (a.fdiv (2^(min b.toNat k.bits)))))
 | .and=>K (Fg k (k.wrap ((BitVec.ofInt k.bits a &&& BitVec.ofInt k.bits b).toNat)))
 |_=>False
def Qk(op:BinOp)(a b:ByteArray)(K:SV->Prop):Prop:=
 match op with
 | .add=>bh (a.size+b.size≤9223372036854775807) (K (.c (.val (.string (a++b)))))
 | .eql=>K (Bc (a.toList==b.toList))
 | .neq=>K (Bc (!(a.toList==b.toList)))
 | .lss=>K (Bc (Op.bytesLess a.toList b.toList))
 | .geq=>K (Bc (!Op.bytesLess a.toList b.toList))
 |_=>False
def Rg(op:BinOp)(x y:SV)(K:SV->Prop):Prop:=
 match JE x,JE y with
 |some (k,a),some (k',b)=>
  match op with
  | .shl| .shr=>NI op k a b K
  |_=>cond (Ma k k') (NI op k a b K) False
 |_,_=>
  match u7 x,u7 y with
  |some a,some b=>Qk op a b K
  |_,_=>False
def G1(op:BinOp)(x y:SV)(K:SV->Prop):Prop:=
 match Wj x,Wj y with
 |some a,some b=>match op with| .eql=>K (Bc (a==b))| .neq=>K (Bc (!(a==b)))|_=>False
 |_,_=>False
def Fk(op:BinOp)(x y:SV)(K:SV->Prop):Prop:=
 match x,y with
 | .a _ [.val (.int k a), .val (.int k' b)], .a _ [.val (.int k1 c), .val (.int k1' d)]=>
   cond (Ma k k1&&Ma k' k1') (match op with| .eql=>K (Bc (a==c&&b==d))| .neq=>K (Bc (!(a==c&&b==d)))|_=>False) False
 |_,_=>False
def uR(tbl:TT)(op:BinOp)(t:Nat)(x y:SV)(K:SV->Prop):Prop:=
 match JE x,u7 x,Wj x with
 |none,none,some _=>match tbl.find t with
  |some i=>cond i.Ws (G1 op x y K) False
  |none=>False
 |none,none,none=>match tbl.find t with
  |some i=>cond i.T4 (Fk op x y K) False
  |none=>False
 |_,_,_=>Rg op x y K
inductive VT(rows:List (List CV))(K:Bool->Prop):Prop
 |mk (k:∀b:Bool,(b=true->rows=[])->K b)
def Ex:SV->Bool
 | .c (.val (.slice none 0 0))=>true
 |_=>false
def It(d:Bool)(tbl:TT)(op:BinOp)(t:Nat)(x y:SV)(K:SV->Prop):Prop:=
 match Ex y with
 |true=>match x with
  | .c (.ro sz rows)=>cond d False (match tbl.find t with
    |some i=>match i.elem with
     |some (_,dw,_)=>match op with
      | .eql=>cond (Nat.beq sz dw) (VT rows fun b=>K (Bc b)) False
      |_=>False
     |none=>False
    |none=>False)
  |_=>False
 |false=>uR tbl op t x y K
def Zv(op:UnOp)(x:SV)(K:SV->Prop):Prop:=
 match op with
 | .not=>match x with
   | .c (.cb b)=>K (.c (.cb (!b)))
   | .c (.val (.bool b))=>K (Bc (!b))
   |_=>False
 | .neg=>match JE x with|some (k,n)=>Arith k (0-n) fun z=>K (Fg k z)|none=>False
 |_=>False
def GI(c a b:SV)(K:SV->Prop):Prop:=
 match c with
 | .c (.cb true)=>K a
 | .c (.cb false)=>K b
 | .c (.val (.bool t))=>match Wj a,Wj b with|some x,some y=>K (Bc (if t then x else y))|_,_=>False
 |_=>False
def rM(x:SV)(i:Nat)(K:SV->Prop):Prop:=
 match x with
 | .tup vs=>match vs[i]? with|some v=>K v|none=>False
 |_=>False
def Rv(x:SV)(K:SV->Prop):Prop:=
 match x with
 | .c (.rp sz cs)=>K (.c (.rp sz cs))
 | .lp i o=>K (.lp i o)
 | .le i a b c=>K (.le i a b c)
 | .clo k cs=>K (.clo k cs)
 |_=>False
def fact(d:Bool)(p k:Prop):Prop:=cond d k (Fact p k)
def Mg(d:Bool)(x:SV)(H:HM)(K:SV->Prop):Prop:=
 match x with
 | .c (.ro _ rows)=>fact d (rows.length≤maxLen) (K (Fg .i64 (rows.length:Int)))
 | .lw j=>match H j with
   | .row _ _ _ rows=>fact d (rows.length≤maxLen) (K (Fg .i64 (rows.length:Int)))
   | .aU _ _ _ rows=>fact d (rows.length≤maxLen) (K (Fg .i64 (rows.length:Int)))
   |_=>False
 | .ls _ _ _ len=>fact d (len≤maxLen) (K (Fg .i64 (len:Int)))
 | .c (.val (.string s))=>K (Fg .i64 (s.size:Int))
 | .c (.val (.slice none 0 0))=>K (Fg .i64 0)
 |_=>False
def HI(tbl:TT)(dst:Nat)(x:SV)(K:SV->Prop):Prop:=
 match tbl.find dst,JE x with
 |some i,some (_,n)=>match i.ik with|some k=>Arith k n fun z=>K (Fg k z)|none=>False
 |_,_=>False
def y9:List (List CV)->Option (List Int)
 |[]=>some []
 |[.val (.int .u8 n)]::rs=>match y9 rs with
  |some l=>some (n::l)
  |none=>none
 |_=>none
def Av(tbl:TT)(s d:Nat)(x:SV)(H:HM)(K:SV->Prop):Prop:=
 match tbl.find s,tbl.find d with
 |some i,some j=>match i.elem with
  |some (e,dw,_)=>match tbl.find e with
   |some k=>cond (j.Jk&&(Nat.beq dw 1&&match k.ik with|some .u8=>true|_=>false)) (match x with
    | .lw q=>match H q with
      | .row _ _ sz rows=>match y9 rows with
        |some l=>cond (Nat.beq sz 1) (K (.c (.val (.string (strOfNums l))))) False
        |none=>False
      |_=>False
    |_=>False) False
   |none=>False
  |none=>False
 |_,_=>False
def Af(x ix:SV)(K:SV->Prop):Prop:=
 match x,JE ix with
 | .c (.val (.string s)),some (_,n)=>bh (0≤n/\n.toNat<s.size) (K (Fg .u8 ((s.data.toList.getD n.toNat 0).toNat:Int)))
 |_,_=>False
def xj(RS:Int):Option SV->Option Int
 |none=>some RS
 |some s=>match JE s with|some (_,n)=>some n|none=>none
inductive iK(j sz len:Nat)(l h:Int)(K:SV->Prop):Prop
 |some (hb:0≤l/\l≤h/\h≤(len:Int)/\l<(len:Int)) (k:K (.ls j sz l.toNat (h.toNat-l.toNat)))
 |none (hb:0≤l/\l=h/\h≤(len:Int)) (k:K (.c (.ro sz [])))
 |all (hb:l=0/\h=(len:Int)) (k:K (.lw j))
def AO(tbl:TT)(t:Nat)(x:SV)(lo hi:Option SV)(H:HM)(K:SV->Prop):Prop:=
 match tbl.find t with
 |none=>False
 |some i=>
  match x with
  | .c (.ro sz rows)=>match i.elem,xj 0 lo,xj (rows.length:Int) hi with
    |some (_,dw,_),some l,some h=>cond (Nat.beq sz dw) (bh (0≤l/\l≤h/\h≤(rows.length:Int)) (K (.c (.ro sz ((rows.drop l.toNat).take (h.toNat-l.toNat)))))) False
    |_,_,_=>False
  | .lw j=>match H j with
    | .row _ _ sz rows=>match i.elem,xj 0 lo,xj (rows.length:Int) hi with
      |some (_,dw,_),some l,some h=>cond (Nat.beq sz dw) (iK j sz rows.length l h K) False
      |_,_,_=>False
    | .aU _ _ sz rows=>match i.elem,xj 0 lo,xj (rows.length:Int) hi with
      |some (_,dw,_),some l,some h=>cond (Nat.beq sz dw) (iK j sz rows.length l h K) False
      |_,_,_=>False
    |_=>False
  | .c (.val (.string s))=>match xj 0 lo,xj (s.size:Int) hi with
    |some l,some h=>cond i.Jk (bh (0≤l/\l≤h/\h≤(s.size:Int)) (K (.c (.val (.string (s.extract l.toNat h.toNat)))))) False
    |_,_=>False
  |_=>False
def lu:List ZC->Nat->List SV
 |[],_=>[]
 | .v x::zs,n=> .c (.val x)::lu zs n
 | .s _ _::zs,n=> .lw n::lu zs (n+1)
def GP:List ZC->Nat->List (Nat × dW)
 |[],_=>[]
 | .v _::zs,n=>GP zs n
 | .s ll dw::zs,n=>(n, .row none ll dw [])::GP zs (n+1)
def sT:List ZC->Nat
 |[]=>0
 | .v _::zs=>sT zs
 | .s _ _::zs=>sT zs+1
def gl:List ZC->List CV
 |[]=>[]
 | .v x::zs=> .val x::gl zs
 | .s _ dw::zs=> .ro dw []::gl zs
def vB:List SV->Option (List CV)
 |[]=>some []
 | .c x::xs=>match vB xs with|some ys=>some (x::ys)|none=>none
 |_::_=>none
def gj(cs:List SV):dW:=match vB cs with|some l=> .cc l.length l|none=> .cells cs
def X0(tbl:TT):List ZC->Option Nat
 | .v (.pointer none):: .s e dw::[]=>cond (Nat.beq dw 1) (match tbl.find e with|some ei=>(match ei.ik with|some .u8=>some e|_=>none)|none=>none) none
 |_=>none
def D5(tbl:TT)(t n:Nat)(K:iT->Prop):Prop:=
 match tbl.find t with
 |some i=>match X0 tbl i.zero with
  |some e=>K ⟨.lp n 0,[(n, .jB t e ByteArray.empty)],1,[]⟩
  |none=>K ⟨.lp (n+sT i.zero) 0,GP i.zero n++[(n+sT i.zero,gj (lu i.zero n))],sT i.zero+1,[]⟩
 |none=>False
def CX(tbl:TT)(TI:Nat)(s:SV)(n:Nat)(K:iT->Prop):Prop:=
 match s with
 | .c (.val (.slice none 0 0))=>match tbl.find TI with
   |some i=>match i.elem with
    |some (ll,dw,_)=>K ⟨.lw n,[(n, .row none ll dw [])],1,[]⟩
    |none=>K (.q s)
   |none=>K (.q s)
 |s=>K (.q s)
def Sy(s:SV)(n:Nat)(K:iT->Prop):Prop:=
 match s with
 | .a k cs=>K ⟨.lp n 0,[(n, .cc k cs)],1,[]⟩
 | .m cs=>K ⟨.lp n 0,[(n,gj cs)],1,[]⟩
 | .c x=>K ⟨.lp n 0,[(n, .cc 1 [x])],1,[]⟩
 | .lp i o=>K ⟨.lp n 0,[(n, .cells [.lp i o])],1,[]⟩
 | .lw i=>K ⟨.lp n 0,[(n, .cells [.lw i])],1,[]⟩
 |_=>False
def iN:SV->List Nat
 | .lw i=>[i]
 | .ls i _ _ _=>[i]
 |_=>[]
def lk:SV->List Nat
 | .m cs=>cs.flatMap iN
 |x=>iN x
def gK:List Nat->Bool
 |[]=>true
 |x::xs=> !(xs.any (Nat.beq x))&&gK xs
def iL(f:SV->Option CV):List SV->Option (List CV)
 |[]=>some []
 |x::xs=>match f x,iL f xs with
  |some y,some ys=>some (y::ys)
  |_,_=>none
def oA(f:SV->Option SV):List SV->Option (List SV)
 |[]=>some []
 |x::xs=>match f x,oA f xs with
  |some y,some ys=>some (y::ys)
  |_,_=>none
def jR(H:HM):SV->Option CV
 | .lw k=>match H k with
   | .row _ ty sz rows=>some (.ows ty sz rows)
   | .aU _ ty sz rows=>some (.own ty sz rows)
   |_=>none
 | .ls k sz off len=>match H k,off with
   | .row _ ty fN rows,0=>cond (Nat.beq sz fN) (some (.ows ty fN (rows.take len))) none
   |_,_=>none
 | .c (.cb b)=>some (.val (.bool b))
 | .c x=>some x
 |_=>none
def Cw(H:HM):SV->Option (List CV)
 | .a _ cs=>some cs
 | .m cs=>iL (jR H) cs
 |s=>match jR H s with|some x=>some [x]|none=>none
def kp:List Nat->List (Nat × dW)
 |[]=>[]
 |k::ks=>(k, .dead)::kp ks
def wr(j:Nat)(b:dW):iT:=⟨.any,[(j,b)],0,[]⟩
def xG(sz:Nat)(rows:List (List CV))(idx off:Nat)(size:Nat)(cs:List CV)(K:List (List CV)->Prop):Prop:=
 cond (Nat.beq cs.length size) (cond (Nat.beq off 0&&Nat.beq cs.length sz) (Index rows idx fun _=>K (rows.set idx cs)) (cond (Nat.ble (off+cs.length) sz) (Index rows idx fun r=>K (rows.set idx (bo r off cs))) False)) False
theorem Mo{sz:Nat}{rows:List (List CV)}{idx off size:Nat}{cs:List CV}{K:List (List CV)->Prop}(h:xG sz rows idx off size cs K):
 cond (Nat.beq cs.length size) (Index rows idx fun r=>cond (Nat.beq off 0&&Nat.beq cs.length sz) (K (rows.set idx cs)) (cond (Nat.ble (off+cs.length) sz) (K (rows.set idx (bo r off cs))) False)) False:=by
 unfold xG at h;cases h1:Nat.beq cs.length size<;>rw[h1]at h
 ·exact h.elim
 ·simp only[cond]at h⊢;cases h2:(Nat.beq off 0&&Nat.beq cs.length sz)<;>rw[h2]at h
  ·simp only at h⊢;cases h3:Nat.ble (off+cs.length) sz<;>rw[h3]at h
   ·exact h.elim
   ·exact h
  ·exact h
def Ag(tbl:TT)(t:Nat)(p v:SV)(H:HM)(K:iT->Prop):Prop:=
 match tbl.find t with
 |none=>False
 |some i=>
 match p with
 | .lp j off=>
   match H j with
   | .cc sz cs=>
     match v with
     | .a n dn=>cond (Nat.beq n i.size) (cond (Nat.beq off 0&&Nat.beq n sz) (K (wr j (.cc n dn))) (cond (Nat.ble (off+n) sz) (K (wr j (.cc sz (bo cs off dn)))) False)) False
     | .c x=>cond (Nat.beq 1 i.size&&Nat.blt off sz) (K (wr j (.cc sz (bo cs off [x])))) False
     | .m dn=>cond (Nat.beq dn.length i.size) (cond (Nat.beq off 0&&Nat.beq dn.length sz) (K (wr j (gj dn))) (cond (Nat.ble (off+dn.length) sz) (K (wr j (gj (bo (cs.map .c) off dn)))) False)) False
     |x=>cond (qy x&&(Nat.beq 1 i.size&&Nat.blt off sz)) (K (wr j (.cells (bo (cs.map .c) off [x])))) False
   | .cells cs=>
     match v with
     | .a n dn=>cond (Nat.beq n i.size) (cond (Nat.beq off 0&&Nat.beq n cs.length) (K (wr j (.cc n dn))) (cond (Nat.ble (off+n) cs.length) (K (wr j (gj (bo cs off (dn.map .c))))) False)) False
     | .m dn=>cond (Nat.beq dn.length i.size&&Nat.ble (off+dn.length) cs.length) (K (wr j (gj (bo cs off dn)))) False
     |x=>cond (qy x&&(Nat.beq 1 i.size&&Nat.blt off cs.length)) (K (wr j (gj (bo cs off [x])))) False
   | .jB t' e _=>match v with
     | .m [.c (.val (.pointer none)), .lw k]=>match H k with
       | .row _ e' sz []=>cond ((Nat.beq e e'&&Nat.beq sz 1)&&(Nat.beq off 0&&Nat.beq 2 i.size)) (K ⟨.any,[(k, .dead),(j, .jB t' e ByteArray.empty)],0,[]⟩) False
       |_=>False
     |_=>False
   |_=>False
 | .le j sz idx off=>
   match Cw H v with
   |none=>False
   |some cs=>
    match H j with
    | .row o ty fN rows=>
      cond (Nat.beq sz fN)
         (match lk v with
         |[]=>xG sz rows idx off i.size cs fun dr=>K (wr j (.row o ty fN dr))
         |ks=>cond (gK (j::ks)) (xG sz rows idx off i.size cs fun dr=>K ⟨.any,kp ks++[(j, .aU o ty fN dr)],0,[]⟩) False) False
    | .aU o ty fN rows=>
      cond (Nat.beq sz fN) (cond (gK (j::lk v)) (xG sz rows idx off i.size cs fun dr=>K ⟨.any,kp (lk v)++[(j, .aU o ty fN dr)],0,[]⟩) False) False
    |_=>False
 |_=>False
def xM(fields:List (Nat × Nat × Nat))(cells:List SV):List (Nat × SV)->Option (List SV)
 |[]=>some cells
 |(i,s)::rest=>
  match fields[i]? with
  |none=>none
  |some (off,_,sz)=>
   match s with
   | .a n cs=>cond (Nat.beq n sz&&Nat.ble (off+n) cells.length) (xM fields (bo cells off (cs.map .c)) rest) none
   | .m cs=>cond (Nat.beq cs.length sz&&Nat.ble (off+cs.length) cells.length) (xM fields (bo cells off cs) rest) none
   |x=>cond (qy x&&(Nat.beq 1 sz&&Nat.blt off cells.length)) (xM fields (bo cells off [x]) rest) none
def Tu(cs:List SV):SV:=match vB cs with|some l=> .a l.length l|none=> .m cs
def Er(tbl:TT)(t:Nat)(parts:List (Nat × SV))(n:Nat)(K:iT->Prop):Prop:=
 match tbl.find t with
 |none=>False
 |some i=>cond i.fields.isEmpty False (match xM i.fields (lu i.zero n) parts with
  |some cs=>K ⟨Tu cs,GP i.zero n,sT i.zero,[]⟩
  |none=>False)
def rowsOf(H:HM)(sz:Nat)(n:Nat):List (Nat × SV)->Option (List (List CV))
 |[]=>some []
 |(i,s)::rest=>cond (Nat.beq i n) (match Cw H s,rowsOf H sz (n+1) rest with|some r,some rs=>cond (Nat.beq r.length sz) (some (r::rs)) none|_,_=>none) none
def ou(tbl:TT)(t len:Nat)(parts:List (Nat × SV))(H:HM)(n:Nat)(K:iT->Prop):Prop:=
 match tbl.find t with
 |none=>False
 |some i=>match i.elem with
  |none=>False
  |some (ll,dw,_)=>
   match rowsOf H dw 0 parts with
   |none=>False
   |some rows=>cond (Nat.beq rows.length len&&(Nat.beq parts.length len&&Nat.ble (len*dw) 16777216))
    (match parts.flatMap fun p=>lk p.2 with
    |[]=>K ⟨.lw n,[(n, .row none ll dw rows)],1,[]⟩
    |ks=>cond (gK ks) (K ⟨.lw n,kp ks++[(n, .aU none ll dw rows)],1,[]⟩) False) False
def qn(tbl:TT)(t:Nat)(l c:SV)(n:Nat)(K:iT->Prop):Prop:=
 match tbl.find t,JE l,JE c with
 |some i,some (_,k),some (_,m)=>match i.elem with
  |none=>False
  |some (ll,dw,yg)=>match tbl.find ll with
   |none=>False
   |some ei=>bh (0≤k/\k≤m/\(yg:Int)*m≤281474976710656/\m≤9223372036854775807) (K ⟨.lw n,[(n, .row none ll dw (List.replicate k.toNat (gl ei.zero)))],1,[]⟩)
 |_,_,_=>False
def uH(H:HM)(j:Nat):SV->Option (Nat × List (List CV)× List Nat)
 | .c (.ro sz rows)=>some (sz,rows,[])
 | .lw i=>cond (Nat.beq i j) none (match H i with| .row _ _ sz rows=>some (sz,rows,[])| .aU _ _ sz rows=>some (sz,rows,[i])|_=>none)
 | .ls i sz off len=>cond (Nat.beq i j) none (match H i with| .row _ _ fN rows=>cond (Nat.beq sz fN) (some (sz,(rows.drop off).take len,[])) none|_=>none)
 |_=>none
def vj(d:Bool)(tbl:TT)(t:Nat)(s x:SV)(H:HM)(n:Nat)(K:iT->Prop):Prop:=
 match tbl.find t,s with
 |some i, .lw j=>match i.elem with
  |some (ll,dw,yg)=>
   match x with
   | .c (.val (.slice none 0 0))=>match H j with
     | .row _ _ _ _=>K (.q (.lw j))
     | .aU _ _ _ _=>K (.q (.lw j))
     |_=>False
   |x=>match uH H j x with
    |some (fN,rs,ks)=>
     match H j with
     | .row _ ty sz rows=>
       cond (Nat.beq ty ll&&(Nat.beq sz dw&&Nat.beq fN dw))
        (fact d (rows.length≤maxLen/\rs.length≤maxLen) (bh (rows.length+rs.length≤maxLen/\(rows.length+rs.length)*yg≤140737488355328)
           (match ks with
           |[]=>K ⟨.lw n,[(j, .dead),(n, .row none ty sz (rows++rs))],1,[(n,j)]⟩
           |ks=>K ⟨.lw n,kp (j::ks)++[(n, .aU none ty sz (rows++rs))],1,[(n,j)]⟩))) False
     | .aU _ ty sz rows=>
       cond (Nat.beq ty ll&&(Nat.beq sz dw&&Nat.beq fN dw))
        (fact d (rows.length≤maxLen/\rs.length≤maxLen) (bh (rows.length+rs.length≤maxLen/\(rows.length+rs.length)*yg≤140737488355328)
           (K ⟨.lw n,kp (j::ks)++[(n, .aU none ty sz (rows++rs))],1,[(n,j)]⟩))) False
     |_=>False
    |none=>False
  |none=>False
 |some i, .ls j Fc 0 len=>match i.elem with
  |some (ll,dw,yg)=>match uH H j x with
   |some (fN,rs,ks)=>match H j with
    | .row _ ty sz rows=>cond (Nat.beq Fc sz&&(Nat.beq ty ll&&(Nat.beq sz dw&&Nat.beq fN dw)))
         (fact d ((rows.take len).length≤maxLen/\rs.length≤maxLen) (bh ((rows.take len).length+rs.length≤maxLen/\((rows.take len).length+rs.length)*yg≤140737488355328)
          (match ks with
          |[]=>K ⟨.lw n,[(j, .dead),(n, .row none ty sz (rows.take len++rs))],1,[(n,j)]⟩
          |ks=>K ⟨.lw n,kp (j::ks)++[(n, .aU none ty sz (rows.take len++rs))],1,[(n,j)]⟩))) False
    |_=>False
   |none=>False
  |none=>False
 |_,_=>False
def zI(n:Nat):List CV->(List CV->List SV->List (Nat × dW)->Nat->Prop)->Prop
 |[],K=>K [] [] [] n
 | .own ty sz rows::cs,K=>∀v:Value,zI (n+1) cs fun ps ss bs m=>K (.val v::ps) (.lw n::ss) ((n, .aU (some v) ty sz rows)::bs) m
 | .ows ty sz rows::cs,K=>∀v:Value,zI (n+1) cs fun ps ss bs m=>K (.val v::ps) (.lw n::ss) ((n, .row (some v) ty sz rows)::bs) m
 | .fQ _ _ _ _::_,_=>False
 | .op _::_,_=>False
 | .jB _ _ _::_,_=>False
 |c::cs,K=>zI n cs fun ps ss bs m=>K (c::ps) (.c c::ss) bs m
def HL:Option IntKind->Option IntKind->Bool
 |some a,some b=>Ma a b
 |none,none=>true
 |_,_=>false
inductive EJ(es:List (Value × SV))(k:Value)(K:Option SV->Prop):Prop
 |Xi (j:Nat) (s:SV) (h:es[j]? =some (k,s)) (g:K (some s))
 |Na (h:∀p∈es,p.1≠k) (g:K none)
inductive oR(es:List (Value × SV))(k:Value)(v:SV)(K:List (Value × SV)->Prop):Prop
 |y5 (j:Nat) (s:SV) (h:es[j]? =some (k,s)) (g:K (es.set j (k,v)))
 |new (h:∀p∈es,p.1≠k) (g:K (es++[(k,v)]))
def RL(d:Option IntKind):SV->Option Value
 | .c (.val (.int k n))=>match d with|some k'=>cond (Ma k k') (some (.int k n)) none|none=>none
 | .c (.val (.string s))=>match d with|none=>some (.string s)|some _=>none
 |_=>none
def Fx:SV->Bool
 | .c _=>true
 | .a _ _=>true
 |_=>false
def Lc(i:iZ):SV:=
 match i.agg with
 |true=> .a i.size (gl i.zero)
 |false=>match gl i.zero with|[x]=> .c x|_=> .c .any
def uP(tbl:TT)(t n:Nat)(K:iT->Prop):Prop:=
 match tbl.find t with
 |some i=>match i.DK with
  |some (k,_)=>K ⟨.mp n,[(n, .pD k [])],1,[]⟩
  |none=>False
 |none=>False
def uU(tbl:TT)(t:Nat)(x k:SV)(ok:Bool)(H:HM)(K:SV->Prop):Prop:=
 match tbl.find t with
 |some i=>match i.DK with
  |some (kd,e)=>match tbl.find e,x,RL kd k with
   |some ei, .mp j,some key=>match H j with
    | .pD Rx es=>cond (HL kd Rx) (EJ es key fun r=>match r,ok with
      |some s,true=>K (.tup [s,Bc true])
      |some s,false=>K s
      |none,true=>K (.tup [Lc ei,Bc false])
      |none,false=>K (Lc ei)) False
    |_=>False
   |_,_,_=>False
  |none=>False
 |none=>False
def lP(tbl:TT)(t:Nat)(x k v:SV)(H:HM)(K:iT->Prop):Prop:=
 match tbl.find t with
 |some i=>match i.DK with
  |some (kd,_)=>match x,RL kd k with
   | .mp j,some key=>match H j with
     | .pD Rx es=>cond (Fx v&&HL kd Rx) (oR es key v fun Vt=>K ⟨.any,[(j, .pD Rx Vt)],0,[]⟩) False
     |_=>False
   |_,_=>False
  |none=>False
 |none=>False
end Go.KA
