/- Part of a proof engine for functions of the given program: what an operation, a loop and a call compute, symbolically. No conditions. -/
import Derived.Test.YtgbggaddpbghfaaGreatEngW
import Derived.Test.YtgbggaddpbghfaaGreatTb
namespace Go.Proofs.YtgbggaddpbghfaaGreat
open Go Go.KA
abbrev I(n:Int):SV:= .c (.val (.int .i64 n))
abbrev B(b:Bool):SV:= .c (.val (.bool b))
abbrev eI(n:Int):List CV:=[.val (.int .i64 n)]
abbrev eB(b:Bool):List CV:=[.val (.bool b)]
def lJ(z:Int):Prop:= -9223372036854775808≤z/\z≤9223372036854775807
def dA{α:Type}(f:α->Nat):List α->Nat
 |[]=>0
 |x::xs=>f x+dA f xs
def fU{α:Type}(f:α->Nat)(l:List α):Nat:=l.length+dA f l
def Wi(b left:Nat):Int:=if b≤left then((left-b:Nat):Int)else-1
theorem xw{α:Type}{f:α->Nat}:∀{l:List α} {i:Nat} {x:α},l[i]? =some x->dA f (l.take (i+1))=dA f (l.take i)+f x
 |[],i,x,h=>by simp at h
 |y::ys,0,x,h=>by simp at h;subst h;simp[dA]
 |y::ys,i+1,x,h=>by
  have:=xw (f:=f) (l:=ys) (i:=i) (x:=x) (by simpa using h);simp only[List.take_succ_cons,dA]at this⊢;omega
theorem sR{α:Type}{f:α->Nat}:∀(l:List α) (i:Nat),dA f (l.take i)≤dA f l
 |[],i=>by simp
 |y::ys,0=>by simp[dA]
 |y::ys,i+1=>by
  have:=sR (f:=f) ys i;simp only[List.take_succ_cons,dA];omega
theorem eP{α:Type}(f:α->Nat)(l:List α):l.length≤fU f l:=Nat.le_add_right _ _
theorem vw{α:Type}(f:α->Nat):∀{l:List α} {x:α},x∈l->f x≤dA f l
 |y::ys,x,h=>by
  simp only[dA];rcases List.mem_cons.1 h with rfl|h
  ·omega
  ·have:=vw f h;omega
theorem di{α:Type}(f:α->Nat){l:List α}{x:α}(h:x∈l):f x≤fU f l:=Nat.le_trans (vw f h) (Nat.le_add_left _ _)
theorem hm:Tryz.prog.follows .mixedOrders=true:=by kernel_rfl
theorem bu{z:Int}(h1: -9223372036854775808≤z)(h2:z≤9223372036854775807):IntKind.i64.wrap z=z:=by
 simp only[IntKind.wrap,IntKind.bits,IntKind.signed,Bool.true_and];have:z % 2^64=z\/z % 2^64=z+2^64:=by omega
 split<;>rename_i h
 ·have h:=of_decide_eq_true h;omega
 ·have h:=of_decide_eq_false (eq_false_of_ne_true h);omega
def half{α:Type}(row:α->List CV)(z:List CV)(l:List α)(i:Nat):List (List CV):=(l.take i).map row++List.replicate (l.length-i) z
section
variable{α:Type}{row:α->List CV}{z:List CV}{l:List α}
end
noncomputable def eqv{α:Type}(x y:α):Bool:= @decide (x=y) (Classical.propDecidable _)
@[simp] theorem eqv_true {α:Type} {x y:α}:eqv x y=true↔x=y:=by
  unfold eqv;exact@decide_eq_true_iff _ (Classical.propDecidable _)
@[simp] theorem eqv_self {α:Type} (x:α):eqv x x=true:=eqv_true.2 rfl
theorem oW{α:Type}{x y:α}(h:x=y):eqv x y=true:=eqv_true.2 h
theorem gE{α:Type}{x y:α}(h:x≠y):eqv x y=false:=by
 cases hb:eqv x y with
 |false=>rfl
 |true=>exact absurd (eqv_true.1 hb) h
structure ku where
 aK:Int
 aF:Int
def JL(_e:ku):Nat:=0
inductive aA where
 |mk (kind:Int) (num:Int) (kids:List aA)
def aA.kind:aA->Int
 | .mk x _ _=>x
def aA.num:aA->Int
 | .mk _ x _=>x
def aA.kids:aA->List aA
 | .mk _ _ x=>x
mutual
def aD:aA->List CV
 | .mk kind num kids=>[.val (.int .i64 kind), .val (.int .i64 num), .ro 3 (o9 kids)]
def o9:List aA->List (List CV)
 |[]=>[]
 |x::xs=>aD x::o9 xs
end
theorem v7:∀l:List aA,o9 l=l.map aD
 |[]=>rfl
 |x::xs=>by simp only[o9,List.map_cons];rw[v7 xs]
theorem bK(e:aA):aD e=[.val (.int .i64 e.kind), .val (.int .i64 e.num), .ro 3 (e.kids.map aD)]:=by
 cases e;simp only[aD,v7];rfl
mutual
def aH:aA->Nat
 | .mk _ _ kids=>bd kids
def bd:List aA->Nat
 |[]=>0
 |x::xs=>(aH x+1)+bd xs
end
theorem oy:∀l:List aA,bd l=fU aH l
 |[]=>rfl
 |x::xs=>by simp only[bd,fU,dA,List.length_cons];rw[oy xs];simp only[fU];omega
structure aP where
 use:Int
 back:Bool
 path:List Int
 aK:List aA
 dy:List aA
def cD(e:aP):List CV:=[.val (.int .i64 e.use), .val (.bool e.back), .ro 1 (e.path.map eI), .ro 3 (e.aK.map aD), .ro 3 (e.dy.map aD)]
def cq(e:aP):Nat:=e.path.length+fU aH e.aK+fU aH e.dy
structure bV where
 left:aA
 right:aA
 l8:Int
 ref:Int
 steps:List aP
def aV(e:bV):List CV:=[.val (.int .i64 e.left.kind), .val (.int .i64 e.left.num), .ro 3 (e.left.kids.map aD), .val (.int .i64 e.right.kind), .val (.int .i64 e.right.num), .ro 3 (e.right.kids.map aD), .val (.int .i64 e.l8), .val (.int .i64 e.ref), .ro 5 (e.steps.map cD)]
def cB(e:bV):Nat:=aH e.left+aH e.right+fU cq e.steps
structure cY where
 sig:ku
 aG:List bV
def dk(e:cY):List CV:=[.val (.int .i64 e.sig.aK), .val (.int .i64 e.sig.aF), .ro 9 (e.aG.map aV)]
def cL(e:cY):Nat:=JL e.sig+fU cB e.aG
structure dS where
 id:Int
 bI:List Int
 proof:cY
def kC(e:dS):List CV:=[.val (.int .i64 e.id), .ro 1 (e.bI.map eI), .val (.int .i64 e.proof.sig.aK), .val (.int .i64 e.proof.sig.aF), .ro 9 (e.proof.aG.map aV)]
def nE(e:dS):Nat:=e.bI.length+cL e.proof
structure aT where
 bT:Bool
 id:Int
 entry:dS
def bG(e:aT):List CV:=[.val (.bool e.bT), .val (.int .i64 e.id), .val (.int .i64 e.entry.id), .ro 1 (e.entry.bI.map eI), .val (.int .i64 e.entry.proof.sig.aK), .val (.int .i64 e.entry.proof.sig.aF), .ro 9 (e.entry.proof.aG.map aV)]
def bU(e:aT):Nat:=nE e.entry
structure bj where
 up:Bool
 notes:List aT
 saved:Int
def cZ(e:bj):List CV:=[.val (.bool e.up), .ro 7 (e.notes.map bG), .val (.int .i64 e.saved)]
def db(e:bj):Nat:=fU bU e.notes
structure c8 where
 mc:Int
 note:aT
def bN(e:c8):List CV:=[.val (.int .i64 e.mc), .val (.bool e.note.bT), .val (.int .i64 e.note.id), .val (.int .i64 e.note.entry.id), .ro 1 (e.note.entry.bI.map eI), .val (.int .i64 e.note.entry.proof.sig.aK), .val (.int .i64 e.note.entry.proof.sig.aF), .ro 9 (e.note.entry.proof.aG.map aV)]
def gG(e:c8):Nat:=bU e.note
structure aB where
 sig:ku
 az:List bj
 aL:List c8
def aW(e:aB):List CV:=[.val (.int .i64 e.sig.aK), .val (.int .i64 e.sig.aF), .ro 3 (e.az.map cZ), .ro 8 (e.aL.map bN)]
def bS(e:aB):Nat:=JL e.sig+fU db e.az+fU gG e.aL
structure bH where
 kind:Int
 a:Int
 b:Int
 c:Int
 bI:List Int
 proof:cY
 nH:List Bool
def cj(e:bH):List CV:=[.val (.int .i64 e.kind), .val (.int .i64 e.a), .val (.int .i64 e.b), .val (.int .i64 e.c), .ro 1 (e.bI.map eI), .val (.int .i64 e.proof.sig.aK), .val (.int .i64 e.proof.sig.aF), .ro 9 (e.proof.aG.map aV), .ro 1 (e.nH.map eB)]
def gi(e:bH):Nat:=e.bI.length+cL e.proof+e.nH.length
structure b7 where
 left:aA
 right:aA
def bm(e:b7):List CV:=[.val (.int .i64 e.left.kind), .val (.int .i64 e.left.num), .ro 3 (e.left.kids.map aD), .val (.int .i64 e.right.kind), .val (.int .i64 e.right.num), .ro 3 (e.right.kids.map aD)]
theorem cM{α:Type}{f g:α->List CV}(h:∀x,pf (f x)=g x)(l:List α):dD (l.map f)=l.map g:=by
 rw[ep,List.map_map];refine List.map_congr_left fun x _=>?_
 rw[<-h x,so];rfl
mutual
def aM:aA->List CV
 | .mk kind num kids=>[.val (.int .i64 kind), .val (.int .i64 num), .own 66 3 (ml kids)]
def ml:List aA->List (List CV)
 |[]=>[]
 |x::xs=>aM x::ml xs
end
theorem vG:∀l:List aA,ml l=l.map aM
 |[]=>rfl
 |x::xs=>by simp only[ml,List.map_cons];rw[vG xs]
theorem dQ(e:aA):aM e=[.val (.int .i64 e.kind), .val (.int .i64 e.num), .own 66 3 (e.kids.map aM)]:=by
 cases e;simp only[aM,vG];rfl
mutual
theorem fJ:∀e:aA,pf (aM e)=aD e
 | .mk kind num kids=>by
   simp only[aM,aD,pf,mV];rw[KC _]
theorem KC:∀l:List aA,dD (ml l)=o9 l
 |[]=>rfl
 |x::xs=>by simp only[ml,o9,dD];rw[fJ x,KC xs]
end
def bx(e:aP):List CV:=[.val (.int .i64 e.use), .val (.bool e.back), .ows 2 1 (e.path.map eI), .own 66 3 (e.aK.map aM), .own 66 3 (e.dy.map aM)]
theorem xC(e:aP):pf (bx e)=cD e:=by
 simp only[bx,cD,pf,mV,cM fJ]
def fH(e:bV):List CV:=[.val (.int .i64 e.left.kind), .val (.int .i64 e.left.num), .own 66 3 (e.left.kids.map aM), .val (.int .i64 e.right.kind), .val (.int .i64 e.right.num), .own 66 3 (e.right.kids.map aM), .val (.int .i64 e.l8), .val (.int .i64 e.ref), .own 156 5 (e.steps.map bx)]
theorem Dk(e:bV):pf (fH e)=aV e:=by
 simp only[fH,aV,pf,mV,cM fJ,cM xC]
def q8(e:cY):List CV:=[.val (.int .i64 e.sig.aK), .val (.int .i64 e.sig.aF), .own 104 9 (e.aG.map fH)]
theorem Tv(e:cY):pf (q8 e)=dk e:=by
 simp only[q8,dk,pf,mV,cM Dk]
def ey(e:aT):List CV:=[.val (.bool e.bT), .val (.int .i64 e.id), .val (.int .i64 e.entry.id), .ows 2 1 (e.entry.bI.map eI), .val (.int .i64 e.entry.proof.sig.aK), .val (.int .i64 e.entry.proof.sig.aF), .own 104 9 (e.entry.proof.aG.map fH)]
theorem AT(e:aT):pf (ey e)=bG e:=by
 simp only[ey,bG,pf,mV,cM Dk]
def fY(e:bj):List CV:=[.val (.bool e.up), .own 51 7 (e.notes.map ey), .val (.int .i64 e.saved)]
theorem Qa(e:bj):pf (fY e)=cZ e:=by
 simp only[fY,cZ,pf,mV,cM AT]
def eG(e:c8):List CV:=[.val (.int .i64 e.mc), .val (.bool e.note.bT), .val (.int .i64 e.note.id), .val (.int .i64 e.note.entry.id), .ows 2 1 (e.note.entry.bI.map eI), .val (.int .i64 e.note.entry.proof.sig.aK), .val (.int .i64 e.note.entry.proof.sig.aF), .own 104 9 (e.note.entry.proof.aG.map fH)]
theorem ve(e:c8):pf (eG e)=bN e:=by
 simp only[eG,bN,pf,mV,cM Dk]
def gu(e:aB):List CV:=[.val (.int .i64 e.sig.aK), .val (.int .i64 e.sig.aF), .own 47 3 (e.az.map fY), .own 89 8 (e.aL.map eG)]
theorem MU(e:aB):pf (gu e)=aW e:=by
 simp only[gu,aW,pf,mV,cM Qa,cM ve]
def xQ(e:b7):List CV:=[.val (.int .i64 e.left.kind), .val (.int .i64 e.left.num), .own 66 3 (e.left.kids.map aM), .val (.int .i64 e.right.kind), .val (.int .i64 e.right.num), .own 66 3 (e.right.kids.map aM)]
end Go.Proofs.YtgbggaddpbghfaaGreat
