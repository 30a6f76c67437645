/- Part of a proof engine for functions of the given program: what an operation, a loop and a call compute, symbolically. No conditions. -/
import Derived.Test.YtgbggaddpbghfaaGreatEngW
import Derived.Test.YtgbggaddpbghfaaGreatTb
namespace Go.Proofs.YtgbggaddpbghfaaGreat
open Go Go.KA
abbrev I(n:Int):SV:= .c (.val (.int .i64 n))
abbrev B(b:Bool):SV:= .c (.val (.bool b))
abbrev eI(n:Int):List CV:=[.val (.int .i64 n)]
abbrev eB(b:Bool):List CV:=[.val (.bool b)]
def jE(z:Int):Prop:= -9223372036854775808≤z∧z≤9223372036854775807
def c8{α:Type}(f:α→Nat):List α→Nat
 |[]=>0
 |x::xs=>f x+c8 f xs
def fm{α:Type}(f:α→Nat)(l:List α):Nat:=l.length+c8 f l
def N1(b left:Nat):Int:=if b≤left then((left-b:Nat):Int) else-1
theorem ud{α:Type}{f:α→Nat}:∀{l:List α} {i:Nat} {x:α},l[i]? =some x→c8 f (l.take (i+1))=c8 f (l.take i)+f x
 |[],i,x,h=>by simp at h
 |y::ys,0,x,h=>by simp at h;subst h;simp[c8]
 |y::ys,i+1,x,h=>by
  have:=ud (f:=f) (l:=ys) (i:=i) (x:=x) (by simpa using h)
  simp only[List.take_succ_cons,c8] at this⊢
  omega
theorem pD{α:Type}{f:α→Nat}:∀(l:List α) (i:Nat),c8 f (l.take i)≤c8 f l
 |[],i=>by simp
 |y::ys,0=>by simp[c8]
 |y::ys,i+1=>by
  have:=pD (f:=f) ys i
  simp only[List.take_succ_cons,c8]
  omega
theorem eg{α:Type}(f:α→Nat)(l:List α):l.length≤fm f l:=Nat.le_add_right _ _
theorem rl{α:Type}(f:α→Nat):∀{l:List α} {x:α},x∈l→f x≤c8 f l
 |y::ys,x,h=>by
  simp only[c8]
  rcases List.mem_cons.1 h with rfl|h
  ·omega
  ·have:=rl f h;omega
theorem cY{α:Type}(f:α→Nat){l:List α}{x:α}(h:x∈l):f x≤fm f l:=Nat.le_trans (rl f h) (Nat.le_add_left _ _)
theorem hm:Tryz.prog.follows .mixedOrders=true:=by kernel_rfl
theorem aL{z:Int}(h1: -9223372036854775808≤z)(h2:z≤9223372036854775807):IntKind.i64.wrap z=z:=by
 simp only[IntKind.wrap,IntKind.bits,IntKind.signed,Bool.true_and]
 have:z % 2^64=z∨z % 2^64=z+2^64:=by omega
 split<;>rename_i h
 ·have h:=of_decide_eq_true h;omega
 ·have h:=of_decide_eq_false (eq_false_of_ne_true h);omega
def half{α:Type}(row:α→List CV)(z:List CV)(l:List α)(i:Nat):List (List CV):=(l.take i).map row++List.replicate (l.length-i) z
section
variable{α:Type}{row:α→List CV}{z:List CV}{l:List α}
end
noncomputable def eqv{α:Type}(x y:α):Bool:= @decide (x=y) (Classical.propDecidable _)
@[simp] theorem eqv_true {α:Type} {x y:α}:eqv x y=true↔x=y:=by
  unfold eqv
  exact@decide_eq_true_iff _ (Classical.propDecidable _)
@[simp] theorem eqv_self {α:Type} (x:α):eqv x x=true:=eqv_true.2 rfl
theorem kY{α:Type}{x y:α}(h:x=y):eqv x y=true:=eqv_true.2 h
theorem fh{α:Type}{x y:α}(h:x≠y):eqv x y=false:=by
 cases hb:eqv x y with
 |false=>rfl
 |true=>exact absurd (eqv_true.1 hb) h
structure ja where
 au:Int
 aq:Int
def D5(_e:ja):Nat:=0
inductive ae where
 |mk (kind:Int) (num:Int) (kids:List ae)
def ae.kind:ae→Int
 | .mk x _ _=>x
def ae.num:ae→Int
 | .mk _ x _=>x
def ae.kids:ae→List ae
 | .mk _ _ x=>x
mutual
def af:ae→List CV
 | .mk kind num kids=>[.val (.int .i64 kind), .val (.int .i64 num), .ro 3 (nc kids)]
def nc:List ae→List (List CV)
 |[]=>[]
 |x::xs=>af x::nc xs
end
theorem sX:∀l:List ae,nc l=l.map af
 |[]=>rfl
 |x::xs=>by simp only[nc,List.map_cons];rw[sX xs]
theorem a9(e:ae):af e=[.val (.int .i64 e.kind), .val (.int .i64 e.num), .ro 3 (e.kids.map af)]:=by
 cases e
 simp only[af,sX]
 rfl
mutual
def ao:ae→Nat
 | .mk _ _ kids=>aK kids
def aK:List ae→Nat
 |[]=>0
 |x::xs=>(ao x+1)+aK xs
end
theorem l7:∀l:List ae,aK l=fm ao l
 |[]=>rfl
 |x::xs=>by simp only[aK,fm,c8,List.length_cons];rw[l7 xs];simp only[fm];omega
structure aB where
 use:Int
 back:Bool
 path:List Int
 au:List ae
 c9:List ae
def bU(e:aB):List CV:=[.val (.int .i64 e.use), .val (.bool e.back), .ro 1 (e.path.map eI), .ro 3 (e.au.map af), .ro 3 (e.c9.map af)]
def bO(e:aB):Nat:=e.path.length+fm ao e.au+fm ao e.c9
structure bw where
 left:ae
 right:ae
 j9:Int
 ref:Int
 steps:List aB
def aH(e:bw):List CV:=[.val (.int .i64 e.left.kind), .val (.int .i64 e.left.num), .ro 3 (e.left.kids.map af), .val (.int .i64 e.right.kind), .val (.int .i64 e.right.num), .ro 3 (e.right.kids.map af), .val (.int .i64 e.j9), .val (.int .i64 e.ref), .ro 5 (e.steps.map bU)]
def bY(e:bw):Nat:=ao e.left+ao e.right+fm bO e.steps
structure cE where
 sig:ja
 aj:List bw
def cL(e:cE):List CV:=[.val (.int .i64 e.sig.au), .val (.int .i64 e.sig.aq), .ro 9 (e.aj.map aH)]
def cC(e:cE):Nat:=D5 e.sig+fm bY e.aj
structure dB where
 id:Int
 bu:List Int
 proof:cE
def ki(e:dB):List CV:=[.val (.int .i64 e.id), .ro 1 (e.bu.map eI), .val (.int .i64 e.proof.sig.au), .val (.int .i64 e.proof.sig.aq), .ro 9 (e.proof.aj.map aH)]
def nq(e:dB):Nat:=e.bu.length+cC e.proof
structure aS where
 bZ:Bool
 id:Int
 entry:dB
def bj(e:aS):List CV:=[.val (.bool e.bZ), .val (.int .i64 e.id), .val (.int .i64 e.entry.id), .ro 1 (e.entry.bu.map eI), .val (.int .i64 e.entry.proof.sig.au), .val (.int .i64 e.entry.proof.sig.aq), .ro 9 (e.entry.proof.aj.map aH)]
def bG(e:aS):Nat:=nq e.entry
structure aT where
 up:Bool
 notes:List aS
 saved:Int
def dt(e:aT):List CV:=[.val (.bool e.up), .ro 7 (e.notes.map bj), .val (.int .i64 e.saved)]
def cZ(e:aT):Nat:=fm bG e.notes
structure cJ where
 j1:Int
 note:aS
def bh(e:cJ):List CV:=[.val (.int .i64 e.j1), .val (.bool e.note.bZ), .val (.int .i64 e.note.id), .val (.int .i64 e.note.entry.id), .ro 1 (e.note.entry.bu.map eI), .val (.int .i64 e.note.entry.proof.sig.au), .val (.int .i64 e.note.entry.proof.sig.aq), .ro 9 (e.note.entry.proof.aj.map aH)]
def fG(e:cJ):Nat:=bG e.note
structure ag where
 sig:ja
 ab:List aT
 aw:List cJ
def aJ(e:ag):List CV:=[.val (.int .i64 e.sig.au), .val (.int .i64 e.sig.aq), .ro 3 (e.ab.map dt), .ro 8 (e.aw.map bh)]
def cq(e:ag):Nat:=D5 e.sig+fm cZ e.ab+fm fG e.aw
structure bm where
 kind:Int
 a:Int
 b:Int
 c:Int
 bu:List Int
 proof:cE
 kW:List Bool
def bM(e:bm):List CV:=[.val (.int .i64 e.kind), .val (.int .i64 e.a), .val (.int .i64 e.b), .val (.int .i64 e.c), .ro 1 (e.bu.map eI), .val (.int .i64 e.proof.sig.au), .val (.int .i64 e.proof.sig.aq), .ro 9 (e.proof.aj.map aH), .ro 1 (e.kW.map eB)]
def gm(e:bm):Nat:=e.bu.length+cC e.proof+e.kW.length
structure bX where
 left:ae
 right:ae
def aV(e:bX):List CV:=[.val (.int .i64 e.left.kind), .val (.int .i64 e.left.num), .ro 3 (e.left.kids.map af), .val (.int .i64 e.right.kind), .val (.int .i64 e.right.num), .ro 3 (e.right.kids.map af)]
theorem ch{α:Type}{f g:α→List CV}(h:∀x,mZ (f x)=g x)(l:List α):db (l.map f)=l.map g:=by
 rw[dN,List.map_map]
 refine List.map_congr_left fun x _=> ?_
 rw[←h x,py]
 rfl
mutual
def az:ae→List CV
 | .mk kind num kids=>[.val (.int .i64 kind), .val (.int .i64 num), .own 66 3 (jX kids)]
def jX:List ae→List (List CV)
 |[]=>[]
 |x::xs=>az x::jX xs
end
theorem sI:∀l:List ae,jX l=l.map az
 |[]=>rfl
 |x::xs=>by simp only[jX,List.map_cons];rw[sI xs]
theorem dw(e:ae):az e=[.val (.int .i64 e.kind), .val (.int .i64 e.num), .own 66 3 (e.kids.map az)]:=by
 cases e
 simp only[az,sI]
 rfl
mutual
theorem eK:∀e:ae,mZ (az e)=af e
 | .mk kind num kids=>by
   simp only[az,af,mZ,kM]
   rw[Gd _]
theorem Gd:∀l:List ae,db (jX l)=nc l
 |[]=>rfl
 |x::xs=>by simp only[jX,nc,db];rw[eK x,Gd xs]
end
def aY(e:aB):List CV:=[.val (.int .i64 e.use), .val (.bool e.back), .ows 2 1 (e.path.map eI), .own 66 3 (e.au.map az), .own 66 3 (e.c9.map az)]
theorem uv(e:aB):mZ (aY e)=bU e:=by
 simp only[aY,bU,mZ,kM,ch eK]
def eF(e:bw):List CV:=[.val (.int .i64 e.left.kind), .val (.int .i64 e.left.num), .own 66 3 (e.left.kids.map az), .val (.int .i64 e.right.kind), .val (.int .i64 e.right.num), .own 66 3 (e.right.kids.map az), .val (.int .i64 e.j9), .val (.int .i64 e.ref), .own 156 5 (e.steps.map aY)]
theorem AH(e:bw):mZ (eF e)=aH e:=by
 simp only[eF,aH,mZ,kM,ch eK,ch uv]
def ph(e:cE):List CV:=[.val (.int .i64 e.sig.au), .val (.int .i64 e.sig.aq), .own 104 9 (e.aj.map eF)]
theorem LY(e:cE):mZ (ph e)=cL e:=by
 simp only[ph,cL,mZ,kM,ch AH]
def dP(e:aS):List CV:=[.val (.bool e.bZ), .val (.int .i64 e.id), .val (.int .i64 e.entry.id), .ows 2 1 (e.entry.bu.map eI), .val (.int .i64 e.entry.proof.sig.au), .val (.int .i64 e.entry.proof.sig.aq), .own 104 9 (e.entry.proof.aj.map eF)]
theorem wY(e:aS):mZ (dP e)=bj e:=by
 simp only[dP,bj,mZ,kM,ch AH]
def eV(e:aT):List CV:=[.val (.bool e.up), .own 51 7 (e.notes.map dP), .val (.int .i64 e.saved)]
theorem JR(e:aT):mZ (eV e)=dt e:=by
 simp only[eV,dt,mZ,kM,ch wY]
def ed(e:cJ):List CV:=[.val (.int .i64 e.j1), .val (.bool e.note.bZ), .val (.int .i64 e.note.id), .val (.int .i64 e.note.entry.id), .ows 2 1 (e.note.entry.bu.map eI), .val (.int .i64 e.note.entry.proof.sig.au), .val (.int .i64 e.note.entry.proof.sig.aq), .own 104 9 (e.note.entry.proof.aj.map eF)]
theorem rR(e:cJ):mZ (ed e)=bh e:=by
 simp only[ed,bh,mZ,kM,ch AH]
def fc(e:ag):List CV:=[.val (.int .i64 e.sig.au), .val (.int .i64 e.sig.aq), .own 47 3 (e.ab.map eV), .own 89 8 (e.aw.map ed)]
theorem G4(e:ag):mZ (fc e)=aJ e:=by
 simp only[fc,aJ,mZ,kM,ch JR,ch rR]
end Go.Proofs.YtgbggaddpbghfaaGreat
