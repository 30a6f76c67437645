/- Part of a proof engine for functions of the given program: what an operation, a loop and a call compute, symbolically. No conditions. -/
import Derived.Test.YtgbggaddpbghfaaGreatEngW
import Derived.Test.YtgbggaddpbghfaaGreatTb
namespace Go.Proofs.YtgbggaddpbghfaaGreat
open Go Go.KA
abbrev I(n:Int):SV:= .c (.val (.int .i64 n))
abbrev B(b:Bool):SV:= .c (.val (.bool b))
abbrev eI(n:Int):List CV:=[.val (.int .i64 n)]
abbrev eB(b:Bool):List CV:=[.val (.bool b)]
def jI(z:Int):Prop:= -9223372036854775808≤z∧z≤9223372036854775807
def cZ{α:Type}(f:α→Nat):List α→Nat
 |[]=>0
 |x::xs=>f x+cZ f xs
def eK{α:Type}(f:α→Nat)(l:List α):Nat:=l.length+cZ f l
def Ov(b left:Nat):Int:=if b≤left then((left-b:Nat):Int) else-1
theorem uc{α:Type}{f:α→Nat}:∀{l:List α} {i:Nat} {x:α},l[i]? =some x→cZ f (l.take (i+1))=cZ f (l.take i)+f x
 |[],i,x,h=>by simp at h
 |y::ys,0,x,h=>by simp at h;subst h;simp[cZ]
 |y::ys,i+1,x,h=>by
  have:=uc (f:=f) (l:=ys) (i:=i) (x:=x) (by simpa using h)
  simp only[List.take_succ_cons,cZ] at this⊢
  omega
theorem qn{α:Type}{f:α→Nat}:∀(l:List α) (i:Nat),cZ f (l.take i)≤cZ f l
 |[],i=>by simp
 |y::ys,0=>by simp[cZ]
 |y::ys,i+1=>by
  have:=qn (f:=f) ys i
  simp only[List.take_succ_cons,cZ]
  omega
theorem dB{α:Type}(f:α→Nat)(l:List α):l.length≤eK f l:=Nat.le_add_right _ _
theorem sR{α:Type}(f:α→Nat):∀{l:List α} {x:α},x∈l→f x≤cZ f l
 |y::ys,x,h=>by
  simp only[cZ]
  rcases List.mem_cons.1 h with rfl|h
  ·omega
  ·have:=sR f h;omega
theorem cS{α:Type}(f:α→Nat){l:List α}{x:α}(h:x∈l):f x≤eK f l:=Nat.le_trans (sR f h) (Nat.le_add_left _ _)
theorem hm:Tryz.prog.follows .mixedOrders=true:=by kernel_rfl
theorem aP{z:Int}(h1: -9223372036854775808≤z)(h2:z≤9223372036854775807):IntKind.i64.wrap z=z:=by
 simp only[IntKind.wrap,IntKind.bits,IntKind.signed,Bool.true_and]
 have:z % 2^64=z∨z % 2^64=z+2^64:=by omega
 split<;>rename_i h
 ·have h:=of_decide_eq_true h;omega
 ·have h:=of_decide_eq_false (eq_false_of_ne_true h);omega
def half{α:Type}(row:α→List CV)(z:List CV)(l:List α)(i:Nat):List (List CV):=(l.take i).map row++List.replicate (l.length-i) z
section
variable{α:Type}{row:α→List CV}{z:List CV}{l:List α}
end
noncomputable def eqv{α:Type}(x y:α):Bool:= @decide (x=y) (Classical.propDecidable _)
@[simp] theorem eqv_true {α:Type} {x y:α}:eqv x y=true↔x=y:=by
  unfold eqv
  exact@decide_eq_true_iff _ (Classical.propDecidable _)
@[simp] theorem eqv_self {α:Type} (x:α):eqv x x=true:=eqv_true.2 rfl
theorem lU{α:Type}{x y:α}(h:x=y):eqv x y=true:=eqv_true.2 h
theorem fx{α:Type}{x y:α}(h:x≠y):eqv x y=false:=by
 cases hb:eqv x y with
 |false=>rfl
 |true=>exact absurd (eqv_true.1 hb) h
structure jd where
 au:Int
 ai:Int
def Fa(_e:jd):Nat:=0
inductive ae where
 |mk (kind:Int) (num:Int) (kids:List ae)
def ae.kind:ae→Int
 | .mk x _ _=>x
def ae.num:ae→Int
 | .mk _ x _=>x
def ae.kids:ae→List ae
 | .mk _ _ x=>x
mutual
def ag:ae→List CV
 | .mk kind num kids=>[.val (.int .i64 kind), .val (.int .i64 num), .ro 3 (mX kids)]
def mX:List ae→List (List CV)
 |[]=>[]
 |x::xs=>ag x::mX xs
end
theorem sO:∀l:List ae,mX l=l.map ag
 |[]=>rfl
 |x::xs=>by simp only[mX,List.map_cons];rw[sO xs]
theorem a9(e:ae):ag e=[.val (.int .i64 e.kind), .val (.int .i64 e.num), .ro 3 (e.kids.map ag)]:=by
 cases e
 simp only[ag,sO]
 rfl
mutual
def aj:ae→Nat
 | .mk _ _ kids=>aJ kids
def aJ:List ae→Nat
 |[]=>0
 |x::xs=>(aj x+1)+aJ xs
end
theorem mD:∀l:List ae,aJ l=eK aj l
 |[]=>rfl
 |x::xs=>by simp only[aJ,eK,cZ,List.length_cons];rw[mD xs];simp only[eK];omega
structure aB where
 use:Int
 back:Bool
 path:List Int
 au:List ae
 c9:List ae
def bP(e:aB):List CV:=[.val (.int .i64 e.use), .val (.bool e.back), .ro 1 (e.path.map eI), .ro 3 (e.au.map ag), .ro 3 (e.c9.map ag)]
def bJ(e:aB):Nat:=e.path.length+eK aj e.au+eK aj e.c9
structure bm where
 left:ae
 right:ae
 kg:Int
 ref:Int
 steps:List aB
def aH(e:bm):List CV:=[.val (.int .i64 e.left.kind), .val (.int .i64 e.left.num), .ro 3 (e.left.kids.map ag), .val (.int .i64 e.right.kind), .val (.int .i64 e.right.num), .ro 3 (e.right.kids.map ag), .val (.int .i64 e.kg), .val (.int .i64 e.ref), .ro 5 (e.steps.map bP)]
def bV(e:bm):Nat:=aj e.left+aj e.right+eK bJ e.steps
structure cx where
 sig:jd
 ao:List bm
def cK(e:cx):List CV:=[.val (.int .i64 e.sig.au), .val (.int .i64 e.sig.ai), .ro 9 (e.ao.map aH)]
def b7(e:cx):Nat:=Fa e.sig+eK bV e.ao
structure dD where
 id:Int
 bj:List Int
 proof:cx
def kz(e:dD):List CV:=[.val (.int .i64 e.id), .ro 1 (e.bj.map eI), .val (.int .i64 e.proof.sig.au), .val (.int .i64 e.proof.sig.ai), .ro 9 (e.proof.ao.map aH)]
def nu(e:dD):Nat:=e.bj.length+b7 e.proof
structure aM where
 bU:Bool
 id:Int
 entry:dD
def bg(e:aM):List CV:=[.val (.bool e.bU), .val (.int .i64 e.id), .val (.int .i64 e.entry.id), .ro 1 (e.entry.bj.map eI), .val (.int .i64 e.entry.proof.sig.au), .val (.int .i64 e.entry.proof.sig.ai), .ro 9 (e.entry.proof.ao.map aH)]
def bu(e:aM):Nat:=nu e.entry
structure aO where
 up:Bool
 notes:List aM
 saved:Int
def cE(e:aO):List CV:=[.val (.bool e.up), .ro 7 (e.notes.map bg), .val (.int .i64 e.saved)]
def c7(e:aO):Nat:=eK bu e.notes
structure cB where
 ju:Int
 note:aM
def aQ(e:cB):List CV:=[.val (.int .i64 e.ju), .val (.bool e.note.bU), .val (.int .i64 e.note.id), .val (.int .i64 e.note.entry.id), .ro 1 (e.note.entry.bj.map eI), .val (.int .i64 e.note.entry.proof.sig.au), .val (.int .i64 e.note.entry.proof.sig.ai), .ro 9 (e.note.entry.proof.ao.map aH)]
def fO(e:cB):Nat:=bu e.note
structure af where
 sig:jd
 ab:List aO
 aw:List cB
def az(e:af):List CV:=[.val (.int .i64 e.sig.au), .val (.int .i64 e.sig.ai), .ro 3 (e.ab.map cE), .ro 8 (e.aw.map aQ)]
def b8(e:af):Nat:=Fa e.sig+eK c7 e.ab+eK fO e.aw
structure aS where
 kind:Int
 a:Int
 b:Int
 c:Int
 bj:List Int
 proof:cx
 mb:List Bool
def aT(e:aS):List CV:=[.val (.int .i64 e.kind), .val (.int .i64 e.a), .val (.int .i64 e.b), .val (.int .i64 e.c), .ro 1 (e.bj.map eI), .val (.int .i64 e.proof.sig.au), .val (.int .i64 e.proof.sig.ai), .ro 9 (e.proof.ao.map aH), .ro 1 (e.mb.map eB)]
def cN(e:aS):Nat:=e.bj.length+b7 e.proof+e.mb.length
structure bT where
 left:ae
 right:ae
def aU(e:bT):List CV:=[.val (.int .i64 e.left.kind), .val (.int .i64 e.left.num), .ro 3 (e.left.kids.map ag), .val (.int .i64 e.right.kind), .val (.int .i64 e.right.num), .ro 3 (e.right.kids.map ag)]
theorem bQ{α:Type}{f g:α→List CV}(h:∀x,nr (f x)=g x)(l:List α):cW (l.map f)=l.map g:=by
 rw[dO,List.map_map]
 refine List.map_congr_left fun x _=> ?_
 rw[←h x,qm]
 rfl
mutual
def ay:ae→List CV
 | .mk kind num kids=>[.val (.int .i64 kind), .val (.int .i64 num), .own 66 3 (ku kids)]
def ku:List ae→List (List CV)
 |[]=>[]
 |x::xs=>ay x::ku xs
end
theorem sV:∀l:List ae,ku l=l.map ay
 |[]=>rfl
 |x::xs=>by simp only[ku,List.map_cons];rw[sV xs]
theorem dt(e:ae):ay e=[.val (.int .i64 e.kind), .val (.int .i64 e.num), .own 66 3 (e.kids.map ay)]:=by
 cases e
 simp only[ay,sV]
 rfl
mutual
theorem eM:∀e:ae,nr (ay e)=ag e
 | .mk kind num kids=>by
   simp only[ay,ag,nr,l5]
   rw[Hb _]
theorem Hb:∀l:List ae,cW (ku l)=mX l
 |[]=>rfl
 |x::xs=>by simp only[ku,mX,cW];rw[eM x,Hb xs]
end
def aW(e:aB):List CV:=[.val (.int .i64 e.use), .val (.bool e.back), .ows 2 1 (e.path.map eI), .own 66 3 (e.au.map ay), .own 66 3 (e.c9.map ay)]
theorem uK(e:aB):nr (aW e)=bP e:=by
 simp only[aW,bP,nr,l5,bQ eM]
def eO(e:bm):List CV:=[.val (.int .i64 e.left.kind), .val (.int .i64 e.left.num), .own 66 3 (e.left.kids.map ay), .val (.int .i64 e.right.kind), .val (.int .i64 e.right.num), .own 66 3 (e.right.kids.map ay), .val (.int .i64 e.kg), .val (.int .i64 e.ref), .own 156 5 (e.steps.map aW)]
theorem Av(e:bm):nr (eO e)=aH e:=by
 simp only[eO,aH,nr,l5,bQ eM,bQ uK]
def oP(e:cx):List CV:=[.val (.int .i64 e.sig.au), .val (.int .i64 e.sig.ai), .own 104 9 (e.ao.map eO)]
theorem MC(e:cx):nr (oP e)=cK e:=by
 simp only[oP,cK,nr,l5,bQ Av]
def dS(e:aM):List CV:=[.val (.bool e.bU), .val (.int .i64 e.id), .val (.int .i64 e.entry.id), .ows 2 1 (e.entry.bj.map eI), .val (.int .i64 e.entry.proof.sig.au), .val (.int .i64 e.entry.proof.sig.ai), .own 104 9 (e.entry.proof.ao.map eO)]
theorem wk(e:aM):nr (dS e)=bg e:=by
 simp only[dS,bg,nr,l5,bQ Av]
def ee(e:aO):List CV:=[.val (.bool e.up), .own 51 7 (e.notes.map dS), .val (.int .i64 e.saved)]
theorem xL(e:aO):nr (ee e)=cE e:=by
 simp only[ee,cE,nr,l5,bQ wk]
def dG(e:cB):List CV:=[.val (.int .i64 e.ju), .val (.bool e.note.bU), .val (.int .i64 e.note.id), .val (.int .i64 e.note.entry.id), .ows 2 1 (e.note.entry.bj.map eI), .val (.int .i64 e.note.entry.proof.sig.au), .val (.int .i64 e.note.entry.proof.sig.ai), .own 104 9 (e.note.entry.proof.ao.map eO)]
theorem oL(e:cB):nr (dG e)=aQ e:=by
 simp only[dG,aQ,nr,l5,bQ Av]
def du(e:af):List CV:=[.val (.int .i64 e.sig.au), .val (.int .i64 e.sig.ai), .own 47 3 (e.ab.map ee), .own 89 8 (e.aw.map dG)]
theorem IE(e:af):nr (du e)=az e:=by
 simp only[du,az,nr,l5,bQ xL,bQ oL]
end Go.Proofs.YtgbggaddpbghfaaGreat
