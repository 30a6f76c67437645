/- Part of a proof engine for functions of the given program: what an operation, a loop and a call compute, symbolically. No conditions. -/
import Derived.Test.YtgbggaddpbghfaaGreatEngA
import Derived.Laws.BytesArg
namespace Go.KA
open Go
structure bd(b:Bool)(p q:Prop):Prop where
 t:b=true→p
 f:b=false→q
structure aV(p:Prop)(k:Prop):Prop where
 h:p
 k:k
structure Fact(p:Prop)(k:Prop):Prop where
 k:p→k
inductive Index(l:List (List CV))(n:Nat)(K:List CV→Prop):Prop
 |mk (r:List CV) (h:l[n]? =some r) (k:K r)
inductive Arith(k:IntKind)(z:Int)(K:Int→Prop):Prop
 |fit (h:k.wrap z=z) (hk:K z)
 |wrap (hk:K (k.wrap z))
inductive ZC where
 |v (x:Value)
 |s (ety cT:Nat)
def ZC.val:ZC→Value
 | .v x=>x
 | .s _ _=> .slice none 0 0
structure gN where
 agg:Bool
 size:Nat
 fields:List (Nat × Nat × Nat):=[]
 elem:Option (Nat × Nat × Nat):=none
 ik:Option IntKind:=none
 ND:Bool:=false
 N4:Bool:=false
 FL:Bool:=false
 AN:Option (Option IntKind × Nat):=none
 arr:Option (Nat × Nat × Nat):=none
 zero:List ZC
inductive TT where
 |leaf
 |node (l:TT) (k:Nat) (i:gN) (r:TT)
def TT.find:TT→Nat→Option gN
 | .leaf,_=>none
 | .node l k i r,t=>cond (Nat.blt t k) (l.find t) (cond (Nat.blt k t) (r.find t) (some i))
def TT.toList:TT→List (Nat × gN)
 | .leaf=>[]
 | .node l k i r=>l.toList++(k,i)::r.toList
theorem TT.mem:∀(x:TT) (t:Nat) (i:gN),x.find t=some i→(t,i)∈x.toList
 | .leaf,t,i,h=>by simp[TT.find] at h
 | .node l k j r,t,i,h=>by
   simp only[TT.find] at h
   simp only[TT.toList,List.mem_append,List.mem_cons]
   cases h1:Nat.blt t k with
   |true=>rw[h1] at h;exact .inl (l.mem t i h)
   |false=>
    rw[h1] at h
    cases h2:Nat.blt k t with
    |true=>rw[h2] at h;exact .inr (.inr (r.mem t i h))
    |false=>
     rw[h2] at h
     have e1:¬t<k:=by intro hh;rw[←Nat.blt_eq] at hh;simp[hh] at h1
     have e2:¬k<t:=by intro hh;rw[←Nat.blt_eq] at hh;simp[hh] at h2
     have:t=k:=by omega
     injection h with h
     exact .inr (.inl (by rw[this,h]))
structure r6(P:Program)(t:Nat)(i:gN):Prop where
 size:(P.info? t).map (·.size)=some i.size
 agg:∃d,P.underlying t=some d∧d.isRow=i.agg
 zero:∃inf z,P.info? t=some inf∧inf.zero=some z∧z.cells.toList=i.zero.map ZC.val∧z.cells.size=i.size∧(i.agg=true→z= .agg z.cells)∧(∀z∈i.zero,z.val.oneCell'=true)
 elem:∀e sz by_,i.elem=some (e,sz,by_)→P.underlying t=some (.slice e)∧0<sz∧∃inf z,P.info? e=some inf∧inf.size=sz∧inf.bytes=by_∧inf.zero=some z∧z.cells.size=sz
 field:∀(n:Nat) off ft fsz,i.fields[n]? =some (off,ft,fsz)→0<fsz∧∃(fs:Array Field) (f:Field),P.underlying t=some (.struct fs)∧fs[n]? =some f∧f.offset=off∧f.type=ft∧(P.info? ft).map (·.size)=some fsz
 Oa:i.fields≠[]→∃fs:Array Field,P.underlying t=some (.struct fs)∧fs.toList.mapM (fun f=>(P.info? f.type).map fun i=>(f.offset,i.size))=some (i.fields.map fun x=>(x.1,x.2.2))
 ik:∀k,i.ik=some k→P.underlying t=some (.int k)
 N4:i.N4=true→P.underlying t=some .bool
 FL:i.FL=true→P.underlying t=some .string
 Qk:i.agg=false→∀inf z,P.info? t=some inf→inf.zero=some z→z.oneCell'=true
 AN:∀k e,i.AN=some (k,e)→∃kt,P.underlying t=some (.map kt e)∧P.underlying kt=some (yR k)
 arr:∀e sz n,i.arr=some (e,sz,n)→P.underlying t=some (.array n e)∧∃inf,P.info? e=some inf∧inf.size=sz
 ND:i.ND=true→∀(xo yo:Operand) (a b c d:Int) (k k':IntKind) (w:World),(do eqGuard .eql t xo yo (.agg #[.int k a, .int k' b]) (.agg #[.int k c, .int k' d]);binOp .eql t (.agg #[.int k a, .int k' b]) (.agg #[.int k c, .int k' d])).run P w= .ok (.bool (a==c&&b==d)) w∧
  (do eqGuard .neq t xo yo (.agg #[.int k a, .int k' b]) (.agg #[.int k c, .int k' d]);binOp .neq t (.agg #[.int k a, .int k' b]) (.agg #[.int k c, .int k' d])).run P w= .ok (.bool (!(a==c&&b==d))) w
def dM(P:Program)(tbl:TT):Prop:=∀t i,tbl.find t=some i→r6 P t i
def Ac(T:TM)(d:Nat)(v:SV):TM:=fun i=>cond (Nat.beq i d) v (T i)
def ez(T:TM)(d:Option Nat)(v:SV):TM:=match d with|some d=>Ac T d v|none=>T
def K2:Value→SV
 | .bool b=> .c (.cb b)
 | .agg a=>cond (a.toList.all Value.oneCell') (.a a.toList.length (a.toList.map CV.val)) .any
 | .tuple _=> .any
 | .func (.func f) a b=>match a.toList,b.toList with|[],[]=> .clo f []|_,_=> .any
 |v=> .c (.val v)
def ev(T:TM):Operand→SV
 | .tmp t=>T t
 | .const v=>K2 v
 | .global _=> .any
 | .func f=> .clo f []
def OJ:SV→Option Bool
 | .c (.cb b)=>some b
 | .c (.val (.bool b))=>some b
 |_=>none
def EY:SV→Option (IntKind × Int)
 | .c (.val (.int k n))=>some (k,n)
 |_=>none
def r7:SV→Option ByteArray
 | .c (.val (.string s))=>some s
 |_=>none
def oq:SV→Bool
 | .c _| .lp .. | .le .. | .lw _| .ls .. | .mp _=>true
 |_=>false
def Ci(n j:Nat):SV→SV
 | .lp i o=>cond (Nat.beq i j) (.c .any) (cond (Nat.beq i n) (.lp j o) (.lp i o))
 | .lw i=>cond (Nat.beq i j) (.c .any) (cond (Nat.beq i n) (.lw j) (.lw i))
 | .le i a b c=>cond (Nat.beq i j) (.c .any) (cond (Nat.beq i n) (.le j a b c) (.le i a b c))
 | .ls i a b c=>cond (Nat.beq i j) (.c .any) (cond (Nat.beq i n) (.ls j a b c) (.ls i a b c))
 | .mp i=>cond (Nat.beq i j) (.c .any) (cond (Nat.beq i n) (.mp j) (.mp i))
 |x=>x
def HH(k:Nat)(r:CV):SV→SV
 | .lw i=>cond (Nat.beq i k) (.c r) (.lw i)
 |x=>x
def Pb(g:SV→SV):SV→SV
 | .m cs=> .m (cs.map g)
 | .clo f cs=> .clo f (cs.map g)
 | .a n cs=> .a n cs
 | .tup vs=> .tup vs
 | .any=> .any
 |x=>g x
def Pl(g:SV→SV):SV→SV
 | .tup vs=> .tup (vs.map (Pb g))
 |x=>Pb g x
def KC(g:SV→SV):dE→dE
 | .cells cs=> .cells (cs.map g)
 |b=>b
def AH(g:SV→SV)(T:TM):TM:=fun i=>Pl g (T i)
def dA(H:HM)(j:Nat)(b:dE):HM:=fun i=>cond (Nat.beq i j) b (H i)
def cY:List (Nat × dE)→HM→HM
 |[],H=>H
 |(j,b)::r,H=>cY r (dA H j b)
structure gI where
 sv:SV
 ws:List (Nat × dE)
 c:Nat
 rn:List (Nat × Nat)
abbrev gI.q(s:SV):gI:=⟨s,[],0,[]⟩
def cellsOf:SV→Option (List SV ⊕ List CV)
 | .a _ cs=>some (.inr cs)
 | .m cs=>some (.inl cs)
 | .c x=>some (.inr [x])
 | .lp i a=>some (.inl [.lp i a])
 | .le i a b c=>some (.inl [.le i a b c])
 | .lw i=>some (.inl [.lw i])
 | .ls i a b c=>some (.inl [.ls i a b c])
 | .mp i=>some (.inl [.mp i])
 |_=>none
def aN{α:Type}(l:List α)(off:Nat)(x:List α):List α:=l.take off++x++l.drop (off+x.length)
def AR(agg:Bool)(size:Nat)(cs:List CV)(K:SV→Prop):Prop:=
 match agg with
 |true=>cond (Nat.beq (cs.take size).length size) (K (.a size (cs.take size))) False
 |false=>match cs with|x::_=>K (.c x)|[]=>False
def Lg(agg:Bool)(size:Nat)(cs:List SV)(K:SV→Prop):Prop:=
 match agg with
 |true=>cond (Nat.beq (cs.take size).length size) (K (.m (cs.take size))) False
 |false=>match cs with|x::_=>K x|[]=>False
def gU:CV→Bool
 | .own _ _ _=>false
 | .eW _ _ _ _=>false
 | .ows _ _ _=>false
 | .op _=>false
 | .iu _ _ _=>false
 |_=>true
def Po(agg:Bool)(size:Nat)(cs:List CV)(K:SV→Prop):Prop:=
 cond ((cs.take (cond agg size 1)).all gU) (AR agg size (cs.take (cond agg size 1)) K) False
def vl(tbl:TT)(t:Nat)(p:SV)(H:HM)(K:SV→Prop):Prop:=
 match tbl.find t with
 |none=>False
 |some i=>
  match p with
  | .c (.rp sz cs)=>cond (i.agg&&Nat.beq sz i.size) (K (.a sz cs)) (AR i.agg i.size cs K)
  | .lp j off=>
    match H j with
    | .cc sz cs=>cond (i.agg&&(Nat.beq sz i.size&&Nat.beq off 0)) (K (.a sz cs)) (AR i.agg i.size (cs.drop off) K)
    | .cells cs=>Lg i.agg i.size (cs.drop off) K
    |_=>False
  | .le j sz idx off=>
    match H j with
    | .row _ _ sz' rows=>
      cond (Nat.beq sz sz') (Index rows idx fun r=>cond (i.agg&&(Nat.beq sz i.size&&Nat.beq off 0)) (K (.a sz r)) (AR i.agg i.size (r.drop off) K)) False
    | .aG _ _ sz' rows=>cond (Nat.beq sz sz') (Index rows idx fun r=>Po i.agg i.size (r.drop off) K) False
    |_=>False
  |_=>False
inductive bH(H:HM)(v:Value)(K:SV→Prop):Prop
 |no (k:K (.c (.val v)))
 |row (i:Nat) {ty sz:Nat} {rows:List (List CV)} (h:H i= .row (some v) ty sz rows) (k:K (.lw i))
 |aG (i:Nat) {ty sz:Nat} {rows:List (List CV)} (h:H i= .aG (some v) ty sz rows) (k:K (.lw i))
def HT(el:Bool)(H:HM)(sv:SV)(K:SV→Prop):Prop:=
 match sv with
 | .c (.val v)=>cond el (bH H v K) (K (.c (.val v)))
 |sv=>K sv
def v8(tbl:TT)(s:Nat)(p:SV)(f:Nat)(K:SV→Prop):Prop:=
 match tbl.find s with
 |none=>False
 |some i=>
  match i.fields[f]? with
  |none=>False
  |some (off,_,_)=>
   match p with
   | .c (.rp sz cs)=>K (.c (.rp (sz-off) (cs.drop off)))
   | .lp j o=>K (.lp j (o+off))
   | .le j sz idx o=>K (.le j sz idx (o+off))
   |_=>False
def lj(tbl:TT)(t:Nat)(x ix:SV)(H:HM)(K:SV→Prop):Prop:=
 match tbl.find t,EY ix with
 |some i,some (_,n)=>
  match i.elem with
  |some (_,cT,_)=>
   match x with
   | .c (.ro sz rows)=>cond (Nat.beq sz cT) (aV (0≤n) (Index rows n.toNat fun r=>K (.c (.rp sz r)))) False
   | .lw j=>
     match H j with
     | .row _ _ sz rows=>cond (Nat.beq sz cT) (aV (0≤n∧n.toNat<rows.length) (K (.le j sz n.toNat 0))) False
     | .aG _ _ sz rows=>cond (Nat.beq sz cT) (aV (0≤n∧n.toNat<rows.length) (K (.le j sz n.toNat 0))) False
     |_=>False
   | .ls j sz off len=>cond (Nat.beq sz cT) (aV (0≤n∧n.toNat<len) (K (.le j sz (off+n.toNat) 0))) False
   |_=>False
  |none=>False
 |_,_=>False
def kp(tbl:TT)(t:Nat)(x ix:SV)(H:HM)(K:SV→Prop):Prop:=
 match x with
 | .lp j off=>match tbl.find t,EY ix with
   |some i,some (_,n)=>match i.arr with
    |some (_,cT,len)=>aV (0≤n∧n.toNat<len) (K (.lp j (off+n.toNat*cT)))
    |none=>False
   |_,_=>False
 | .le j sz idx off=>match tbl.find t,EY ix with
   |some i,some (_,n)=>match i.arr with
    |some (_,cT,len)=>aV (0≤n∧n.toNat<len) (K (.le j sz idx (off+n.toNat*cT)))
    |none=>False
   |_,_=>False
 | .c (.rp sz cs)=>match tbl.find t,EY ix with
   |some i,some (_,n)=>match i.arr with
    |some (_,cT,len)=>aV (0≤n∧n.toNat<len) (K (.c (.rp (sz-n.toNat*cT) (cs.drop (n.toNat*cT)))))
    |none=>False
   |_,_=>False
 |x=>lj tbl t x ix H K
def HF:IntKind→IntKind→Bool
 | .i8, .i8| .i16, .i16| .i32, .i32| .i64, .i64| .u8, .u8| .u16, .u16| .u32, .u32| .u64, .u64=>true
 |_,_=>false
def x7(b:Bool):SV:= .c (.val (.bool b))
def BC(k:IntKind)(n:Int):SV:= .c (.val (.int k n))
def IT(op:BinOp)(k:IntKind)(a b:Int)(K:SV→Prop):Prop:=
 match op with
 | .add=>Arith k (a+b) fun z=>K (BC k z)
 | .sub=>Arith k (a-b) fun z=>K (BC k z)
 | .mul=>Arith k (a*b) fun z=>K (BC k z)
 | .quo=>aV (b≠0) (Arith k (a.tdiv b) fun z=>K (BC k z))
 | .rem=>aV (b≠0) (K (BC k (a.tmod b)))
 | .eql=>K (x7 (a==b))
 | .neq=>K (x7 (a != b))
 | .lss=>K (x7 (decide (a<b)))
 | .leq=>K (x7 (decide (a≤b)))
 | .gtr=>K (x7 (decide (a>b)))
 | .geq=>K (x7 (decide (a≥b)))
 | .shl=>aV (0≤b) (Arith k (a*2^(min b.toNat k.bits)) fun z=>K (BC k z))
 | .shr=>aV (0≤b) (K (BC k (a.fdiv (2^(min b.toNat k.bits)))))
 | .and=>K (BC k (k.wrap ((BitVec.ofInt k.bits a &&& BitVec.ofInt k.bits b).toNat)))
 |_=>False
def Jr(op:BinOp)(a b:ByteArray)(K:SV→Prop):Prop:=
 match op with
 | .add=>aV (a.size+b.size≤9223372036854775807) (K (.c (.val (.string (a++b)))))
 | .eql=>K (x7 (a.toList==b.toList))
 | .neq=>K (x7 (!(a.toList==b.toList)))
 | .lss=>K (x7 (Op.bytesLess a.toList b.toList))
 | .geq=>K (x7 (!Op.bytesLess a.toList b.toList))
 |_=>False
def JZ(op:BinOp)(x y:SV)(K:SV→Prop):Prop:=
 match EY x,EY y with
 |some (k,a),some (k',b)=>
  match op with
  | .shl| .shr=>IT op k a b K
  |_=>cond (HF k k') (IT op k a b K) False
 |_,_=>
  match r7 x,r7 y with
  |some a,some b=>Jr op a b K
  |_,_=>False
def Cp(op:BinOp)(x y:SV)(K:SV→Prop):Prop:=
 match OJ x,OJ y with
 |some a,some b=>match op with| .eql=>K (x7 (a==b))| .neq=>K (x7 (!(a==b)))|_=>False
 |_,_=>False
def Du(op:BinOp)(x y:SV)(K:SV→Prop):Prop:=
 match x,y with
 | .a _ [.val (.int k a), .val (.int k' b)], .a _ [.val (.int k1 c), .val (.int k1' d)]=>
   cond (HF k k1&&HF k' k1') (match op with| .eql=>K (x7 (a==c&&b==d))| .neq=>K (x7 (!(a==c&&b==d)))|_=>False) False
 |_,_=>False
def rR(tbl:TT)(op:BinOp)(t:Nat)(x y:SV)(K:SV→Prop):Prop:=
 match EY x,r7 x,OJ x with
 |none,none,some _=>match tbl.find t with
  |some i=>cond i.N4 (Cp op x y K) False
  |none=>False
 |none,none,none=>match tbl.find t with
  |some i=>cond i.ND (Du op x y K) False
  |none=>False
 |_,_,_=>JZ op x y K
inductive OM(rows:List (List CV))(K:Bool→Prop):Prop
 |mk (k:∀b:Bool,(b=true→rows=[])→K b)
def Bg:SV→Bool
 | .c (.val (.slice none 0 0))=>true
 |_=>false
def Dz(d:Bool)(tbl:TT)(op:BinOp)(t:Nat)(x y:SV)(K:SV→Prop):Prop:=
 match Bg y with
 |true=>match x with
  | .c (.ro sz rows)=>cond d False (match tbl.find t with
    |some i=>match i.elem with
     |some (_,cT,_)=>match op with
      | .eql=>cond (Nat.beq sz cT) (OM rows fun b=>K (x7 b)) False
      |_=>False
     |none=>False
    |none=>False)
  |_=>False
 |false=>rR tbl op t x y K
def Px(op:UnOp)(x:SV)(K:SV→Prop):Prop:=
 match op with
 | .not=>match x with
   | .c (.cb b)=>K (.c (.cb (!b)))
   | .c (.val (.bool b))=>K (x7 (!b))
   |_=>False
 | .neg=>match EY x with|some (k,n)=>Arith k (0-n) fun z=>K (BC k z)|none=>False
 |_=>False
def D8(c a b:SV)(K:SV→Prop):Prop:=
 match c with
 | .c (.cb true)=>K a
 | .c (.cb false)=>K b
 | .c (.val (.bool t))=>match OJ a,OJ b with|some x,some y=>K (x7 (if t then x else y))|_,_=>False
 |_=>False
def pS(x:SV)(i:Nat)(K:SV→Prop):Prop:=
 match x with
 | .tup vs=>match vs[i]? with|some v=>K v|none=>False
 |_=>False
def JI(x:SV)(K:SV→Prop):Prop:=
 match x with
 | .c (.rp sz cs)=>K (.c (.rp sz cs))
 | .lp i o=>K (.lp i o)
 | .le i a b c=>K (.le i a b c)
 | .clo k cs=>K (.clo k cs)
 |_=>False
def fact(d:Bool)(p k:Prop):Prop:=cond d k (Fact p k)
def HA(d:Bool)(x:SV)(H:HM)(K:SV→Prop):Prop:=
 match x with
 | .c (.ro _ rows)=>fact d (rows.length≤maxLen) (K (BC .i64 (rows.length:Int)))
 | .lw j=>match H j with
   | .row _ _ _ rows=>fact d (rows.length≤maxLen) (K (BC .i64 (rows.length:Int)))
   | .aG _ _ _ rows=>fact d (rows.length≤maxLen) (K (BC .i64 (rows.length:Int)))
   |_=>False
 | .ls _ _ _ len=>fact d (len≤maxLen) (K (BC .i64 (len:Int)))
 | .c (.val (.string s))=>K (BC .i64 (s.size:Int))
 | .c (.val (.slice none 0 0))=>K (BC .i64 0)
 |_=>False
def Cz(tbl:TT)(dst:Nat)(x:SV)(K:SV→Prop):Prop:=
 match tbl.find dst,EY x with
 |some i,some (_,n)=>match i.ik with|some k=>Arith k n fun z=>K (BC k z)|none=>False
 |_,_=>False
def wJ:List (List CV)→Option (List Int)
 |[]=>some []
 |[.val (.int .u8 n)]::rs=>match wJ rs with
  |some l=>some (n::l)
  |none=>none
 |_=>none
def xc(tbl:TT)(s d:Nat)(x:SV)(H:HM)(K:SV→Prop):Prop:=
 match tbl.find s,tbl.find d with
 |some i,some j=>match i.elem with
  |some (e,cT,_)=>match tbl.find e with
   |some k=>cond (j.FL&&(Nat.beq cT 1&&match k.ik with|some .u8=>true|_=>false)) (match x with
    | .lw q=>match H q with
      | .row _ _ sz rows=>match wJ rows with
        |some l=>cond (Nat.beq sz 1) (K (.c (.val (.string (strOfNums l))))) False
        |none=>False
      |_=>False
    |_=>False) False
   |none=>False
  |none=>False
 |_,_=>False
def xP(x ix:SV)(K:SV→Prop):Prop:=
 match x,EY ix with
 | .c (.val (.string s)),some (_,n)=>aV (0≤n∧n.toNat<s.size) (K (BC .u8 ((s.data.toList.getD n.toNat 0).toNat:Int)))
 |_,_=>False
def tN(dflt:Int):Option SV→Option Int
 |none=>some dflt
 |some s=>match EY s with|some (_,n)=>some n|none=>none
inductive gz(j sz len:Nat)(l h:Int)(K:SV→Prop):Prop
 |some (hb:0≤l∧l≤h∧h≤(len:Int)∧l<(len:Int)) (k:K (.ls j sz l.toNat (h.toNat-l.toNat)))
 |none (hb:0≤l∧l=h∧h≤(len:Int)) (k:K (.c (.ro sz [])))
 |all (hb:l=0∧h=(len:Int)) (k:K (.lw j))
def wH(tbl:TT)(t:Nat)(x:SV)(lo hi:Option SV)(H:HM)(K:SV→Prop):Prop:=
 match tbl.find t with
 |none=>False
 |some i=>
  match x with
  | .c (.ro sz rows)=>match i.elem,tN 0 lo,tN (rows.length:Int) hi with
    |some (_,cT,_),some l,some h=>cond (Nat.beq sz cT) (aV (0≤l∧l≤h∧h≤(rows.length:Int)) (K (.c (.ro sz ((rows.drop l.toNat).take (h.toNat-l.toNat)))))) False
    |_,_,_=>False
  | .lw j=>match H j with
    | .row _ _ sz rows=>match i.elem,tN 0 lo,tN (rows.length:Int) hi with
      |some (_,cT,_),some l,some h=>cond (Nat.beq sz cT) (gz j sz rows.length l h K) False
      |_,_,_=>False
    | .aG _ _ sz rows=>match i.elem,tN 0 lo,tN (rows.length:Int) hi with
      |some (_,cT,_),some l,some h=>cond (Nat.beq sz cT) (gz j sz rows.length l h K) False
      |_,_,_=>False
    |_=>False
  | .c (.val (.string s))=>match tN 0 lo,tN (s.size:Int) hi with
    |some l,some h=>cond i.FL (aV (0≤l∧l≤h∧h≤(s.size:Int)) (K (.c (.val (.string (s.extract l.toNat h.toNat)))))) False
    |_,_=>False
  |_=>False
def jS:List ZC→Nat→List SV
 |[],_=>[]
 | .v x::zs,n=> .c (.val x)::jS zs n
 | .s _ _::zs,n=> .lw n::jS zs (n+1)
def CS:List ZC→Nat→List (Nat × dE)
 |[],_=>[]
 | .v _::zs,n=>CS zs n
 | .s ety cT::zs,n=>(n, .row none ety cT [])::CS zs (n+1)
def qu:List ZC→Nat
 |[]=>0
 | .v _::zs=>qu zs
 | .s _ _::zs=>qu zs+1
def fe:List ZC→List CV
 |[]=>[]
 | .v x::zs=> .val x::fe zs
 | .s _ cT::zs=> .ro cT []::fe zs
def s8:List SV→Option (List CV)
 |[]=>some []
 | .c x::xs=>match s8 xs with|some ys=>some (x::ys)|none=>none
 |_::_=>none
def ff(cs:List SV):dE:=match s8 cs with|some l=> .cc l.length l|none=> .cells cs
def Ps(tbl:TT):List ZC→Option Nat
 | .v (.pointer none):: .s e cT::[]=>cond (Nat.beq cT 1) (match tbl.find e with|some ei=>(match ei.ik with|some .u8=>some e|_=>none)|none=>none) none
 |_=>none
def AY(tbl:TT)(t n:Nat)(K:gI→Prop):Prop:=
 match tbl.find t with
 |some i=>match Ps tbl i.zero with
  |some e=>K ⟨.lp n 0,[(n, .iu t e ByteArray.empty)],1,[]⟩
  |none=>K ⟨.lp (n+qu i.zero) 0,CS i.zero n++[(n+qu i.zero,ff (jS i.zero n))],qu i.zero+1,[]⟩
 |none=>False
def zv(tbl:TT)(oty:Nat)(s:SV)(n:Nat)(K:gI→Prop):Prop:=
 match s with
 | .c (.val (.slice none 0 0))=>match tbl.find oty with
   |some i=>match i.elem with
    |some (ety,cT,_)=>K ⟨.lw n,[(n, .row none ety cT [])],1,[]⟩
    |none=>K (.q s)
   |none=>K (.q s)
 |s=>K (.q s)
def Ni(s:SV)(n:Nat)(K:gI→Prop):Prop:=
 match s with
 | .a k cs=>K ⟨.lp n 0,[(n, .cc k cs)],1,[]⟩
 | .m cs=>K ⟨.lp n 0,[(n,ff cs)],1,[]⟩
 | .c x=>K ⟨.lp n 0,[(n, .cc 1 [x])],1,[]⟩
 | .lp i o=>K ⟨.lp n 0,[(n, .cells [.lp i o])],1,[]⟩
 | .lw i=>K ⟨.lp n 0,[(n, .cells [.lw i])],1,[]⟩
 |_=>False
def gx:SV→List Nat
 | .lw i=>[i]
 | .ls i _ _ _=>[i]
 |_=>[]
def jH:SV→List Nat
 | .m cs=>cs.flatMap gx
 |x=>gx x
def fH:List Nat→Bool
 |[]=>true
 |x::xs=> !(xs.any (Nat.beq x))&&fH xs
def gv(f:SV→Option CV):List SV→Option (List CV)
 |[]=>some []
 |x::xs=>match f x,gv f xs with
  |some y,some ys=>some (y::ys)
  |_,_=>none
def mo(f:SV→Option SV):List SV→Option (List SV)
 |[]=>some []
 |x::xs=>match f x,mo f xs with
  |some y,some ys=>some (y::ys)
  |_,_=>none
def iC(H:HM):SV→Option CV
 | .lw k=>match H k with
   | .row _ ty sz rows=>some (.ows ty sz rows)
   | .aG _ ty sz rows=>some (.own ty sz rows)
   |_=>none
 | .ls k sz off len=>match H k,off with
   | .row _ ty sz' rows,0=>cond (Nat.beq sz sz') (some (.ows ty sz' (rows.take len))) none
   |_,_=>none
 | .c (.cb b)=>some (.val (.bool b))
 | .c x=>some x
 |_=>none
def yW(H:HM):SV→Option (List CV)
 | .a _ cs=>some cs
 | .m cs=>gv (iC H) cs
 |s=>match iC H s with|some x=>some [x]|none=>none
def iW:List Nat→List (Nat × dE)
 |[]=>[]
 |k::ks=>(k, .dead)::iW ks
def wr(j:Nat)(b:dE):gI:=⟨.any,[(j,b)],0,[]⟩
def uH(sz:Nat)(rows:List (List CV))(idx off:Nat)(size:Nat)(cs:List CV)(K:List (List CV)→Prop):Prop:=
 cond (Nat.beq cs.length size) (cond (Nat.beq off 0&&Nat.beq cs.length sz) (Index rows idx fun _=>K (rows.set idx cs)) (cond (Nat.ble (off+cs.length) sz) (Index rows idx fun r=>K (rows.set idx (aN r off cs))) False)) False
theorem Hy{sz:Nat}{rows:List (List CV)}{idx off size:Nat}{cs:List CV}{K:List (List CV)→Prop}(h:uH sz rows idx off size cs K):
 cond (Nat.beq cs.length size) (Index rows idx fun r=>cond (Nat.beq off 0&&Nat.beq cs.length sz) (K (rows.set idx cs)) (cond (Nat.ble (off+cs.length) sz) (K (rows.set idx (aN r off cs))) False)) False:=by
 unfold uH at h
 cases h1:Nat.beq cs.length size<;>rw[h1] at h
 ·exact h.elim
 ·simp only[cond] at h⊢
  cases h2:(Nat.beq off 0&&Nat.beq cs.length sz)<;>rw[h2] at h
  ·simp only at h⊢
   cases h3:Nat.ble (off+cs.length) sz<;>rw[h3] at h
   ·exact h.elim
   ·exact h
  ·exact h
def xK(tbl:TT)(t:Nat)(p v:SV)(H:HM)(K:gI→Prop):Prop:=
 match tbl.find t with
 |none=>False
 |some i=>
 match p with
 | .lp j off=>
   match H j with
   | .cc sz cs=>
     match v with
     | .a n cs'=>cond (Nat.beq n i.size) (cond (Nat.beq off 0&&Nat.beq n sz) (K (wr j (.cc n cs'))) (cond (Nat.ble (off+n) sz) (K (wr j (.cc sz (aN cs off cs')))) False)) False
     | .c x=>cond (Nat.beq 1 i.size&&Nat.blt off sz) (K (wr j (.cc sz (aN cs off [x])))) False
     | .m cs'=>cond (Nat.beq cs'.length i.size) (cond (Nat.beq off 0&&Nat.beq cs'.length sz) (K (wr j (ff cs'))) (cond (Nat.ble (off+cs'.length) sz) (K (wr j (ff (aN (cs.map .c) off cs')))) False)) False
     |x=>cond (oq x&&(Nat.beq 1 i.size&&Nat.blt off sz)) (K (wr j (.cells (aN (cs.map .c) off [x])))) False
   | .cells cs=>
     match v with
     | .a n cs'=>cond (Nat.beq n i.size) (cond (Nat.beq off 0&&Nat.beq n cs.length) (K (wr j (.cc n cs'))) (cond (Nat.ble (off+n) cs.length) (K (wr j (ff (aN cs off (cs'.map .c))))) False)) False
     | .m cs'=>cond (Nat.beq cs'.length i.size&&Nat.ble (off+cs'.length) cs.length) (K (wr j (ff (aN cs off cs')))) False
     |x=>cond (oq x&&(Nat.beq 1 i.size&&Nat.blt off cs.length)) (K (wr j (ff (aN cs off [x])))) False
   | .iu t' e _=>match v with
     | .m [.c (.val (.pointer none)), .lw k]=>match H k with
       | .row _ e' sz []=>cond ((Nat.beq e e'&&Nat.beq sz 1)&&(Nat.beq off 0&&Nat.beq 2 i.size)) (K ⟨.any,[(k, .dead),(j, .iu t' e ByteArray.empty)],0,[]⟩) False
       |_=>False
     |_=>False
   |_=>False
 | .le j sz idx off=>
   match yW H v with
   |none=>False
   |some cs=>
    match H j with
    | .row o ty sz' rows=>
      cond (Nat.beq sz sz')
         (match jH v with
         |[]=>uH sz rows idx off i.size cs fun rows'=>K (wr j (.row o ty sz' rows'))
         |ks=>cond (fH (j::ks)) (uH sz rows idx off i.size cs fun rows'=>K ⟨.any,iW ks++[(j, .aG o ty sz' rows')],0,[]⟩) False) False
    | .aG o ty sz' rows=>
      cond (Nat.beq sz sz') (cond (fH (j::jH v)) (uH sz rows idx off i.size cs fun rows'=>K ⟨.any,iW (jH v)++[(j, .aG o ty sz' rows')],0,[]⟩) False) False
    |_=>False
 |_=>False
def uJ(fields:List (Nat × Nat × Nat))(cells:List SV):List (Nat × SV)→Option (List SV)
 |[]=>some cells
 |(i,s)::rest=>
  match fields[i]? with
  |none=>none
  |some (off,_,sz)=>
   match s with
   | .a n cs=>cond (Nat.beq n sz&&Nat.ble (off+n) cells.length) (uJ fields (aN cells off (cs.map .c)) rest) none
   | .m cs=>cond (Nat.beq cs.length sz&&Nat.ble (off+cs.length) cells.length) (uJ fields (aN cells off cs) rest) none
   |x=>cond (oq x&&(Nat.beq 1 sz&&Nat.blt off cells.length)) (uJ fields (aN cells off [x]) rest) none
def Nf(cs:List SV):SV:=match s8 cs with|some l=> .a l.length l|none=> .m cs
def AF(tbl:TT)(t:Nat)(parts:List (Nat × SV))(n:Nat)(K:gI→Prop):Prop:=
 match tbl.find t with
 |none=>False
 |some i=>cond i.fields.isEmpty False (match uJ i.fields (jS i.zero n) parts with
  |some cs=>K ⟨Nf cs,CS i.zero n,qu i.zero,[]⟩
  |none=>False)
def rowsOf(H:HM)(sz:Nat)(n:Nat):List (Nat × SV)→Option (List (List CV))
 |[]=>some []
 |(i,s)::rest=>cond (Nat.beq i n) (match yW H s,rowsOf H sz (n+1) rest with|some r,some rs=>cond (Nat.beq r.length sz) (some (r::rs)) none|_,_=>none) none
def mc(tbl:TT)(t len:Nat)(parts:List (Nat × SV))(H:HM)(n:Nat)(K:gI→Prop):Prop:=
 match tbl.find t with
 |none=>False
 |some i=>match i.elem with
  |none=>False
  |some (ety,cT,_)=>
   match rowsOf H cT 0 parts with
   |none=>False
   |some rows=>cond (Nat.beq rows.length len&&(Nat.beq parts.length len&&Nat.ble (len*cT) 16777216))
    (match parts.flatMap fun p=>jH p.2 with
    |[]=>K ⟨.lw n,[(n, .row none ety cT rows)],1,[]⟩
    |ks=>cond (fH ks) (K ⟨.lw n,iW ks++[(n, .aG none ety cT rows)],1,[]⟩) False) False
def nR(tbl:TT)(t:Nat)(l c:SV)(n:Nat)(K:gI→Prop):Prop:=
 match tbl.find t,EY l,EY c with
 |some i,some (_,k),some (_,m)=>match i.elem with
  |none=>False
  |some (ety,cT,eby)=>match tbl.find ety with
   |none=>False
   |some ei=>aV (0≤k∧k≤m∧(eby:Int)*m≤281474976710656∧m≤9223372036854775807) (K ⟨.lw n,[(n, .row none ety cT (List.replicate k.toNat (fe ei.zero)))],1,[]⟩)
 |_,_,_=>False
def sE(H:HM)(j:Nat):SV→Option (Nat × List (List CV)× List Nat)
 | .c (.ro sz rows)=>some (sz,rows,[])
 | .lw i=>cond (Nat.beq i j) none (match H i with| .row _ _ sz rows=>some (sz,rows,[])| .aG _ _ sz rows=>some (sz,rows,[i])|_=>none)
 | .ls i sz off len=>cond (Nat.beq i j) none (match H i with| .row _ _ sz' rows=>cond (Nat.beq sz sz') (some (sz,(rows.drop off).take len,[])) none|_=>none)
 |_=>none
def sj(d:Bool)(tbl:TT)(t:Nat)(s x:SV)(H:HM)(n:Nat)(K:gI→Prop):Prop:=
 match tbl.find t,s with
 |some i, .lw j=>match i.elem with
  |some (ety,cT,eby)=>
   match x with
   | .c (.val (.slice none 0 0))=>match H j with
     | .row _ _ _ _=>K (.q (.lw j))
     | .aG _ _ _ _=>K (.q (.lw j))
     |_=>False
   |x=>match sE H j x with
    |some (sz',rs,ks)=>
     match H j with
     | .row _ ty sz rows=>
       cond (Nat.beq ty ety&&(Nat.beq sz cT&&Nat.beq sz' cT))
        (fact d (rows.length≤maxLen∧rs.length≤maxLen) (aV (rows.length+rs.length≤maxLen∧(rows.length+rs.length)*eby≤140737488355328)
           (match ks with
           |[]=>K ⟨.lw n,[(j, .dead),(n, .row none ty sz (rows++rs))],1,[(n,j)]⟩
           |ks=>K ⟨.lw n,iW (j::ks)++[(n, .aG none ty sz (rows++rs))],1,[(n,j)]⟩))) False
     | .aG _ ty sz rows=>
       cond (Nat.beq ty ety&&(Nat.beq sz cT&&Nat.beq sz' cT))
        (fact d (rows.length≤maxLen∧rs.length≤maxLen) (aV (rows.length+rs.length≤maxLen∧(rows.length+rs.length)*eby≤140737488355328)
           (K ⟨.lw n,iW (j::ks)++[(n, .aG none ty sz (rows++rs))],1,[(n,j)]⟩))) False
     |_=>False
    |none=>False
  |none=>False
 |some i, .ls j sz0 0 len=>match i.elem with
  |some (ety,cT,eby)=>match sE H j x with
   |some (sz',rs,ks)=>match H j with
    | .row _ ty sz rows=>cond (Nat.beq sz0 sz&&(Nat.beq ty ety&&(Nat.beq sz cT&&Nat.beq sz' cT)))
         (fact d ((rows.take len).length≤maxLen∧rs.length≤maxLen) (aV ((rows.take len).length+rs.length≤maxLen∧((rows.take len).length+rs.length)*eby≤140737488355328)
          (match ks with
          |[]=>K ⟨.lw n,[(j, .dead),(n, .row none ty sz (rows.take len++rs))],1,[(n,j)]⟩
          |ks=>K ⟨.lw n,iW (j::ks)++[(n, .aG none ty sz (rows.take len++rs))],1,[(n,j)]⟩))) False
    |_=>False
   |none=>False
  |none=>False
 |_,_=>False
def xR(n:Nat):List CV→(List CV→List SV→List (Nat × dE)→Nat→Prop)→Prop
 |[],K=>K [] [] [] n
 | .own ty sz rows::cs,K=>∀v:Value,xR (n+1) cs fun ps ss bs m=>K (.val v::ps) (.lw n::ss) ((n, .aG (some v) ty sz rows)::bs) m
 | .ows ty sz rows::cs,K=>∀v:Value,xR (n+1) cs fun ps ss bs m=>K (.val v::ps) (.lw n::ss) ((n, .row (some v) ty sz rows)::bs) m
 | .eW _ _ _ _::_,_=>False
 | .op _::_,_=>False
 | .iu _ _ _::_,_=>False
 |c::cs,K=>xR n cs fun ps ss bs m=>K (c::ps) (.c c::ss) bs m
def Cu:Option IntKind→Option IntKind→Bool
 |some a,some b=>HF a b
 |none,none=>true
 |_,_=>false
inductive Am(es:List (Value × SV))(k:Value)(K:Option SV→Prop):Prop
 |Pd (j:Nat) (s:SV) (h:es[j]? =some (k,s)) (g:K (some s))
 |IU (h:∀p∈es,p.1≠k) (g:K none)
inductive mP(es:List (Value × SV))(k:Value)(v:SV)(K:List (Value × SV)→Prop):Prop
 |wS (j:Nat) (s:SV) (h:es[j]? =some (k,s)) (g:K (es.set j (k,v)))
 |new (h:∀p∈es,p.1≠k) (g:K (es++[(k,v)]))
def L4(d:Option IntKind):SV→Option Value
 | .c (.val (.int k n))=>match d with|some k'=>cond (HF k k') (some (.int k n)) none|none=>none
 | .c (.val (.string s))=>match d with|none=>some (.string s)|some _=>none
 |_=>none
def B7:SV→Bool
 | .c _=>true
 | .a _ _=>true
 |_=>false
def GC(i:gN):SV:=
 match i.agg with
 |true=> .a i.size (fe i.zero)
 |false=>match fe i.zero with|[x]=> .c x|_=> .c .any
def sf(tbl:TT)(t n:Nat)(K:gI→Prop):Prop:=
 match tbl.find t with
 |some i=>match i.AN with
  |some (k,_)=>K ⟨.mp n,[(n, .ny k [])],1,[]⟩
  |none=>False
 |none=>False
def sQ(tbl:TT)(t:Nat)(x k:SV)(ok:Bool)(H:HM)(K:SV→Prop):Prop:=
 match tbl.find t with
 |some i=>match i.AN with
  |some (kd,e)=>match tbl.find e,x,L4 kd k with
   |some ei, .mp j,some key=>match H j with
    | .ny kd' es=>cond (Cu kd kd') (Am es key fun r=>match r,ok with
      |some s,true=>K (.tup [s,x7 true])
      |some s,false=>K s
      |none,true=>K (.tup [GC ei,x7 false])
      |none,false=>K (GC ei)) False
    |_=>False
   |_,_,_=>False
  |none=>False
 |none=>False
def lz(tbl:TT)(t:Nat)(x k v:SV)(H:HM)(K:gI→Prop):Prop:=
 match tbl.find t with
 |some i=>match i.AN with
  |some (kd,_)=>match x,L4 kd k with
   | .mp j,some key=>match H j with
     | .ny kd' es=>cond (B7 v&&Cu kd kd') (mP es key v fun es'=>K ⟨.any,[(j, .ny kd' es')],0,[]⟩) False
     |_=>False
   |_,_=>False
  |none=>False
 |none=>False
end Go.KA
