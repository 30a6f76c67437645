/- The text of a valid expression: its shape and its size. Plain laws. No conditions. -/
import Derived.Test.YtgbggaddpbghfaaGreatKAI
namespace Go.Proofs.YtgbggaddpbghfaaGreat
open Go Go.KA Go.Proofs Go.Proofs.Tryz
set_option maxHeartbeats 16000000
set_option maxRecDepth 100000
def Sr(l:List ByteArray):Nat:=(l.map ByteArray.size).sum
theorem SK:∀l:List ByteArray,(l.getD 0 .empty).size+(l.getD 1 .empty).size≤Sr l
 |[]=>aw _
 |[x]=>by simp[Sr]
 |x::y::l=>by simp[Sr]<;>omega
theorem M6(k n:Int)(l:List ByteArray):(WL k n l).size≤7+Sr l:=by
 have h:=SK l;have h2:=Nk n.toNat;have sz3:(ByteArray.mk #[32,43,32]).size=3:=rfl;unfold WL
 repeat' split
 all_goals(simp only[ByteArray.size_append,PB,sz3];omega)
mutual
theorem BI:∀(e:aA) (n:Int),0≤cR e n->((IS e).size:Int)≤7*(n-cR e n)
 | .mk k m ks,n,h=>by
   simp only[cR]at h⊢;have h1:=zU ks (n-1) h;have h2:=M6 k m (FV ks);simp only[IS];omega
theorem zU:∀(l:List aA) (n:Int),0≤dI l n->(Sr (FV l):Int)≤7*(n-dI l n)
 |[],n,h=>by simp[Sr,FV,dI]
 |x::xs,n,h=>by
  simp only[dI]at h⊢;by_cases hn:n<0
  ·rw[if_pos hn]at h;omega
  ·rw[if_neg hn]at h⊢;by_cases h0:cR x n<0
   ·rw[pA h0]at h;omega
   ·have h1:=BI x n (by omega);have h2:=zU xs (cR x n) h;have h3:Sr (FV (x::xs))=(IS x).size+Sr (FV xs):=by simp[FV,Sr]
    omega
end
mutual
theorem FY{t a:Int}(ht:t≤3)(ha:a≤4):∀(e:aA),eo t a e=true->QG e=true
 | .mk k n ks,h=>by
   rw[eo]at h;rw[QG];simp only[ab,beq_iff_eq]at h;obtain⟨h1,h2⟩:=h;have hk:ee 1 8 k=true/\ON ks=true/\(!(decide (k=3)||decide (k=4))||ee 0 99 n)=true:=by
    have hl:(0:Int)≤ks.length:=by omega
    by_cases h3:k=3
    ·subst h3;have:ks=[]:=List.eq_nil_of_length_eq_zero (by have:dt 3=0:=rfl;omega);subst this;simp only[ee,beq_self_eq_true,if_true,ab,decide_eq_true_eq]at h2;refine⟨rfl,rfl,?_⟩;simp only[ee,Bool.or_eq_true,ab];exact .inr ⟨decide_eq_true (by omega),decide_eq_true (by omega)⟩
    ·by_cases h4:k=4
     ·subst h4;have:ks=[]:=List.eq_nil_of_length_eq_zero (by have:dt 4=0:=rfl;omega);subst this;have h2:ee 0 (a-1) n=true:=h2;simp only[ee,ab,decide_eq_true_eq]at h2;refine⟨rfl,rfl,?_⟩;simp only[ee,Bool.or_eq_true,ab];exact .inr ⟨decide_eq_true (by omega),decide_eq_true (by omega)⟩
     ·rw[if_neg h3,if_neg h4]at h2;simp only[ab]at h2;refine⟨?_,BM ht ha ks h2.2.2,?_⟩
      ·have h5:0≤dt k:=by omega
       simp only[ee,ab];unfold dt at h5;constructor<;>refine decide_eq_true ?_<;>(repeat' split at h5)<;>simp at* <;>omega
      ·simp[h3,h4]
   rw[hk.1,hk.2.1,hk.2.2];simp[h1]
theorem BM{t a:Int}(ht:t≤3)(ha:a≤4):∀(l:List aA),iV t a l=true->ON l=true
 |[],_=>rfl
 |x::xs,h=>by
  simp only[iV,ab]at h;simp only[ON,ab];exact⟨FY ht ha x h.1,BM ht ha xs h.2⟩
end
abbrev OkT(e:aA):Prop:=QG e=true/\(IS e).size≤1400
theorem Ha{t a:Int}(hs:cE t a=true){e:aA}(h:bz t a e=true):OkT e:=by
 simp only[bz,ab,decide_eq_true_eq]at h;simp only[cE,ee,ab,decide_eq_true_eq]at hs;have h1:=BI e 200 h.1;exact⟨FY (by omega) (by omega) e h.2.2,by omega⟩
def x7(e:dS):bV:=e.proof.aG.getD (e.proof.aG.length-1) c0
def jK(e:dS):b7:=⟨(x7 e).left,(x7 e).right⟩
theorem Gi{α:Type}{f:α->List CV}{l:List α}(d:α)(h:0<l.length):(l.map f)[(((l.map f).length:Int)-1).toNat]? =some (f (l.getD (l.length-1) d)):=by
 have e:(((l.map f).length:Int)-1).toNat=l.length-1:=by rw[aa];omega
 rw[e];exact aN (by omega)
theorem EC(e:dS)(h:0<e.proof.aG.length):aS prog 64 [.a 5 (kC e)] (.a 6 (bm (jK e))):=by
 refine cF func64 (h:=?_)
 repeat'((conv=>whnf);first
  |(apply bP.mk;first|(rfl;done)|skip)
  |(apply Fact.mk;intro hL;try simp only[aa,maxLen]at hL)
  |refine aR ?_|(show Index _ _ _;first|(refine Index.mk _ (Gi c0 h) ?_)|fail)
  |refine nO ?_)
theorem tu(c:bV):aS prog 140 [.c (.rp 9 (aV c))] (.a 6 (bm ⟨c.left,c.right⟩)):=by
 refine cF func140 (h:=?_)
 repeat'((conv=>whnf);first
  |(apply bP.mk;first|(rfl;done)|skip)
  |refine nB ?_)
theorem yb(e:dS)(h:0<e.proof.aG.length)(hl:e.proof.aG.length≤1000000):aS prog 136 [.c (.rp 5 (kC e))] (.a 6 (bm (jK e))):=by
 refine cF func136 (h:=?_)
 repeat'((conv=>whnf);first
  |(apply bP.mk;first|(rfl;done)|skip)|(show ay _ 140 _ _ _ _;refine cP rfl (tu (x7 e)) ?_)
  |refine aR ?_|(show Index _ _ _;first|(refine Index.mk _ (Gi c0 h) ?_)|fail)
  |refine nB ?_
  |refine nO ?_)
abbrev OkQ(q:b7):Prop:=OkT q.left/\OkT q.right
structure OkN(n:aT):Prop where
 id:0≤n.id/\n.id<100
 bI:n.bT=false-> ∀r∈n.entry.bI,0≤r/\r<100
 len:n.bT=false->n.entry.bI.length≤4
 aG:n.bT=false->0<n.entry.proof.aG.length/\n.entry.proof.aG.length≤40
 line:n.bT=false->OkQ (jK n.entry)
theorem U7{t a:Int}{n:aT}(h:cU t a n=true):OkN n:=by
 unfold cU at h;simp only[ee,ab,decide_eq_true_eq]at h;obtain⟨⟨h1,h2⟩,h3⟩:=h;refine⟨by omega,fun hr r hm=>?_,fun hr=>?_,fun hr=>?_,fun hr=>?_⟩
 all_goals
  rw[hr]at h3;simp only[Bool.false_eq_true,if_false,ab,dE,decide_eq_true_eq,aj]at h3;obtain⟨_,g1,_,g3,g4,_,g6,_⟩:=h3
 ·have:=bQ (g3 r hm);omega
 ·omega
 ·simp only[dT,ab,decide_eq_true_eq]at g4;omega
 ·simp only[dT,ab,decide_eq_true_eq,aj]at g4;have hl:n.entry.proof.aG.length-1<n.entry.proof.aG.length:=by omega
  have hc:=g4.2.2 (x7 n.entry) (by
   unfold x7;rw[getD_eq hl];exact ag hl)
  simp only[c7,ab]at hc;exact⟨Ha g4.1 hc.1,Ha g4.1 hc.2.1⟩
abbrev e00:aA:= .mk 0 0 []
theorem mn{l:List aA}{i:Nat}(h:i<l.length):(l.map aD)[i]? =some (aY (l.getD i e00)):=by
 have h2:(l.map aD)[i]? =some (aD (l.getD i e00)):=aN h;rw[bK]at h2;exact h2
inductive Tree(t a:Int):aA->Prop
 |zero:Tree t a (.mk 1 0 [])
 |one:Tree t a (.mk 2 0 [])
 |test {n} (h0:0≤n) (h1:n<t):Tree t a (.mk 3 n [])
 |act {n} (h0:0≤n) (h1:n<a):Tree t a (.mk 4 n [])
 |not {x} (hc:dq x=true) (h:Tree t a x):Tree t a (.mk 5 0 [x])
 |sum {x y} (hx:Tree t a x) (hy:Tree t a y):Tree t a (.mk 6 0 [x,y])
 |dot {x y} (hx:Tree t a x) (hy:Tree t a y):Tree t a (.mk 7 0 [x,y])
 |star {x} (hx:Tree t a x):Tree t a (.mk 8 0 [x])
theorem Tree.eo{t a:Int}{e:aA}(h:Tree t a e):eo t a e=true:=by
 induction h with
 |zero=>rfl
 |one=>rfl
 |test h0 h1=>simp[Go.Proofs.YtgbggaddpbghfaaGreat.eo,dt,ee];omega
 |act h0 h1=>simp[Go.Proofs.YtgbggaddpbghfaaGreat.eo,dt,ee];omega
 |not hc h ih=>simp[Go.Proofs.YtgbggaddpbghfaaGreat.eo,iV,dt,po,hc,ih]
 |sum hx hy vr ih2=>simp[Go.Proofs.YtgbggaddpbghfaaGreat.eo,iV,dt,vr,ih2]
 |dot hx hy vr ih2=>simp[Go.Proofs.YtgbggaddpbghfaaGreat.eo,iV,dt,vr,ih2]
 |star hx ih=>simp[Go.Proofs.YtgbggaddpbghfaaGreat.eo,iV,dt,ih]
theorem iR{t a:Int}:∀(e:aA),eo t a e=true->Tree t a e
 | .mk k n ks,h=>by
   rw[iw]at h;simp only[aA.kind,aA.num,aA.kids,ab,beq_iff_eq]at h;obtain⟨h1,h2⟩:=h;have Tk:(ks.length:Int)=0->ks=[]:=fun h=>List.eq_nil_of_length_eq_zero (by omega)
   have Zn:(ks.length:Int)=1-> ∃x,ks=[x]:=fun h=>by
    match ks,h with
    |[x],_=>exact⟨x,rfl⟩
    |[],h=>simp at h
    |_::_::_,h=>simp at h;omega
   have YV:(ks.length:Int)=2-> ∃x y,ks=[x,y]:=fun h=>by
    match ks,h with
    |[x,y],_=>exact⟨x,y,rfl⟩
    |[],h=>simp at h
    |[_],h=>simp at h
    |_::_::_::_,h=>simp at h;omega
   have hk:k=1\/k=2\/k=3\/k=4\/k=5\/k=6\/k=7\/k=8:=by
    have h5:0≤dt k:=by omega
    unfold dt at h5
    (repeat' split at h5)<;>simp at* <;>omega
   rcases hk with rfl|rfl|rfl|rfl|rfl|rfl|rfl|rfl
   ·obtain rfl:=Tk (by rw[h1];rfl);simp at h2;subst h2;exact .zero
   ·obtain rfl:=Tk (by rw[h1];rfl);simp at h2;subst h2;exact .one
   ·obtain rfl:=Tk (by rw[h1];rfl);simp[ee]at h2;exact .test h2.1 (by omega)
   ·obtain rfl:=Tk (by rw[h1];rfl);simp[ee]at h2;exact .act h2.1 (by omega)
   ·obtain⟨x,rfl⟩:=Zn (by rw[h1];rfl);simp at h2;obtain⟨rfl,h3,h4⟩:=h2;exact .not h3 (iR x h4)
   ·obtain⟨x,y,rfl⟩:=YV (by rw[h1];rfl);simp at h2;obtain⟨rfl,h3,h4⟩:=h2;exact .sum (iR x h3) (iR y h4)
   ·obtain⟨x,y,rfl⟩:=YV (by rw[h1];rfl);simp at h2;obtain⟨rfl,h3,h4⟩:=h2;exact .dot (iR x h3) (iR y h4)
   ·obtain⟨x,rfl⟩:=Zn (by rw[h1];rfl);simp at h2;obtain⟨rfl,h4⟩:=h2;exact .star (iR x h4)
abbrev jj(e:aA):Nat:=aH e+1
theorem tZ:∀l m:List aA,bd (l++m)=bd l+bd m
 |[],m=>by simp[bd]
 |x::l,m=>by simp only[List.cons_append,bd,tZ l m];omega
theorem vL{l:List aA}{i:Nat}(h:i<l.length):bd (l.take (i+1))=bd (l.take i)+jj l[i]:=by
 rw[List.take_add_one,List.getElem?_eq_getElem h,tZ];simp[bd,jj]
theorem AM(l:List aA)(i:Nat):bd (l.take i)≤bd l:=by
 have h:=tZ (l.take i) (l.drop i);rw[List.take_append_drop]at h;omega
theorem TD{l:List aA}{x:aA}(h:x∈l):jj x≤bd l:=by
 induction l with
 |nil=>cases h
 |cons y l ih=>
  rcases List.mem_cons.1 h with rfl|h
  ·simp only[bd,jj];omega
  ·have:=ih h;simp only[bd];omega
theorem AE(e:aA):jj e=bd e.kids+1:=by cases e;rfl
theorem yS{e x:aA}(h:x∈e.kids):jj x<jj e:=by
 have:=TD h;rw[AE e];omega
theorem qq(x y:aA):aS prog 51 [.c (.rp 3 (aY x)), .c (.rp 3 (aY y))] (B (eqv x y)):=by
 have:=qg x y;rwa[bK,bK]at this
theorem tz(x:aA)(hb:aH x≤1048576):aE prog 137 [.c (.rp 3 (aY x))] [] (.a 3 (aY x)):=by
 have:=NN x hb;rwa[bK]at this
theorem mM(x:aA):aS prog 214 [.c (.rp 3 (aY x))] (B (dq x)):=by
 have:=jV x;rwa[bK]at this
section
variable(e:aA)(acc:List aA)(hz:acc.length≤1000000)
include hz
end
section
variable{t a:Int}(ht:t≤3)(Ui:a≤4)
include ht Ui
end
section
variable{t a:Int}(ht:t≤3)(Ui:a≤4)
include ht Ui
end
theorem Hl(e:aA)(hn:jj e≤1000000)(hx:∀x∈e.kids,aS prog 193 [.c (.rp 3 (aD x))] (I (jj x:Nat))):aS prog 193 [.c (.rp 3 (aY e))] (I (jj e:Nat)):=by
 have hb:∀i,bd (e.kids.take i)+1≤1000000:=fun i=>by
  have:=AM e.kids i;have:=AE e;omega
 have hl:e.kids.length≤bd e.kids:=by
  generalize e.kids=l
  induction l with
  |nil=>simp
  |cons x l ih=>simp only[bd,List.length_cons];omega
 have hk:=AE e;refine cF func193 (h:=?_)
 repeat'((conv=>whnf);first
  |(apply bP.mk;first|((rw[ha.2,ar (by omega),<-hk];rfl);done)|skip)|(show aZ 3 _ _ _ _ _ _;refine lp (Int × Nat) [0] (fun⟨n,i⟩=>[(3,I n),(4,I (i:Nat))]) (fun⟨n,i⟩=>i≤e.kids.length/\n=(bd (e.kids.take i)+1:Nat)) (fun⟨n,i⟩=>e.kids.length-i) (1,0) (by exact⟨ah _,by simp[bd]⟩) (fun A ha=>?_);obtain⟨n,i⟩:=A;have ha:i≤e.kids.length/\n=(bd (e.kids.take i)+1:Nat):=ha;have Rb:=hb i;have hnx:=AM e.kids (i+1))
  |refine nx ((n+(jj (e.kids[i]'(by omega)):Int),i+1):Int × Nat) (by exact⟨by show i+1≤_;omega,by show n+_=_;rw[vL (by omega),ha.2];omega⟩)
  |(apply Fact.mk;intro hL;try simp only[aa,maxLen]at hL)
  |((apply bX;constructor)<;>intro h<;>(try simp only[aa]at h)<;>(try first|omega|contradiction))|(show ay _ 193 _ _ _ _;refine cP rfl (hx _ (ag (show i<e.kids.length by omega))) ?_)|(show Arith _ _ _;refine Arith.fit (bu (by(have h9:=vL (l:=e.kids) (i:=i) (by omega);have h8:=hb (i+1);omega)) (by(have h9:=vL (l:=e.kids) (i:=i) (by omega);have h8:=hb (i+1);omega))) ?_)|(show Index _ _ _;first|(refine Index.mk _ (bZ (l:=e.kids) (i:=i) (by omega)) ?_)|fail)
  |refine nO ?_)
 all_goals first|rfl|trivial
theorem A6(e:aA)(hn:jj e≤1000000):aS prog 193 [.c (.rp 3 (aD e))] (I (jj e:Nat)):=by
 rw[bK];exact Hl e hn fun x vu=>A6 x (by have:=yS vu;omega)
 termination_by SizeOf.sizeOf e
 decreasing_by
  have:=List.sizeOf_lt_of_mem vu;cases e;simp only[aA.mk.sizeOf_spec];show SizeOf.sizeOf x<_;simp only[aA.kids]at this;omega
theorem Ei(e:aA)(hn:jj e≤1000000):aS prog 193 [.c (.rp 3 (aY e))] (I (jj e:Nat)):=by
 have:=A6 e hn;rwa[bK]at this
section
variable{t a:Int}(ht:t≤3)(Ui:a≤4)
include ht
include Ui
end
abbrev dm:aA:= .mk 0 0 []
abbrev KJ(x:ByteArray):SV:= .c (.val (.string x))
abbrev U8(n:Nat):SV:= .c (.val (.int .u8 (n:Int)))
structure jQ where
 at_:Nat
 deep:Int
 bad:Bool
abbrev iB(t:ByteArray)(s:jQ):List CV:=[.val (.string t),J (s.at_:Nat),J s.deep, .val (.bool s.bad)]
def BH(t:ByteArray)(i:Nat):Nat:=(t.data.toList.getD i 0).toNat
def dF(t:ByteArray)(i:Nat):Nat:=if i<t.size then BH t i else 0
theorem w4(t:ByteArray):t.data.toList.length=t.size:=by rw[Array.length_toList];rfl
theorem VK(t:ByteArray)(i:Nat):BH t i≤255:=by
 have:=(t.data.toList.getD i 0).toNat_lt;unfold BH;omega
theorem dZ{t:ByteArray}{i:Nat}(h:0<dF t i):i<t.size:=by
 unfold dF at h;split at h
 ·assumption
 ·omega
def eC(t:ByteArray)(s:jQ)(b:Nat):jQ:=if dF t s.at_=b then⟨s.at_+1,s.deep,s.bad⟩else⟨s.at_,s.deep,true⟩
def PM(b:UInt8):Bool:=decide (48≤b.toNat/\b.toNat≤57)
def eJ(t:ByteArray)(i:Nat):Nat:=i+((t.data.toList.drop i).takeWhile PM).length
theorem drop_cons{t:ByteArray}{i:Nat}(h:i<t.size):t.data.toList.drop i=t.data.toList.getD i 0::t.data.toList.drop (i+1):=by
 have hl:i<t.data.toList.length:=by rw[w4];exact h
 rw[List.drop_eq_getElem_cons hl,List.getD_eq_getElem?_getD,List.getElem?_eq_getElem hl];rfl
theorem uX{t:ByteArray}{i:Nat}(h1:48≤dF t i)(h2:dF t i≤57):eJ t i=eJ t (i+1):=by
 have h:=dZ (show 0<dF t i by omega);have e:dF t i=(t.data.toList.getD i 0).toNat:=if_pos h;unfold eJ;rw[drop_cons h,List.takeWhile_cons,if_pos (show PM (t.data.toList.getD i 0)=true from decide_eq_true (by omega)),List.length_cons];omega
theorem vJ{t:ByteArray}{i:Nat}(h:¬(48≤dF t i/\dF t i≤57)):eJ t i=i:=by
 unfold eJ;by_cases hi:i<t.size
 ·have e:dF t i=(t.data.toList.getD i 0).toNat:=if_pos hi;rw[drop_cons hi,List.takeWhile_cons,if_neg (by intro hd;have:=of_decide_eq_true hd;omega)];rfl
 ·rw[List.drop_of_length_le (by rw[w4];omega)];rfl
theorem IN{t:ByteArray}{i:Nat}(h:i≤t.size):i≤eJ t i/\eJ t i≤t.size:=by
 have h1:=(List.takeWhile_sublist (l:=t.data.toList.drop i) PM).length_le;rw[List.length_drop,w4]at h1;unfold eJ;omega
def ua:List UInt8->Int->Int × Bool
 |[],n=>(n,true)
 |b::r,n=>if b.toNat<48 then(0,false)else if 57<b.toNat then(0,false)else ua r (n*10+((b.toNat:Int)-48))
def NG(x:ByteArray):Int × Bool:=if x.size<1 then(0,false)else if x.size>9 then(0,false)else if BH x 0=48/\x.size>1 then(0,false)else ua x.data.toList 0
def s8(t:ByteArray)(s:jQ):aA × jQ:=
 (.mk (if dF t s.at_=97 then 4 else 3) (NG (t.extract (s.at_+1) (eJ t (s.at_+1)))).1 [],⟨eJ t (s.at_+1),s.deep,s.bad|| !(NG (t.extract (s.at_+1) (eJ t (s.at_+1)))).2⟩)
def qK:List UInt8->aA->aA × Nat
 |[],e=>(e,0)
 |b::r,e=>if b.toNat=42 then((qK r (.mk 8 0 [e])).1,(qK r (.mk 8 0 [e])).2+1)else(e,0)
def eU(t:ByteArray)(i:Nat)(e:aA):aA × Nat:=qK (t.data.toList.drop i) e
theorem CN{t:ByteArray}{i:Nat}(e:aA)(h:dF t i=42):eU t i e=((eU t (i+1) (.mk 8 0 [e])).1,(eU t (i+1) (.mk 8 0 [e])).2+1):=by
 have hi:=dZ (show 0<dF t i by omega);have e:dF t i=(t.data.toList.getD i 0).toNat:=if_pos hi;unfold eU;rw[drop_cons hi];rw[qK,if_pos (by omega)]
theorem Cf{t:ByteArray}{i:Nat}(e:aA)(h:¬dF t i=42):eU t i e=(e,0):=by
 unfold eU;by_cases hi:i<t.size
 ·have e:dF t i=(t.data.toList.getD i 0).toNat:=if_pos hi;rw[drop_cons hi];rw[qK,if_neg (by omega)]
 ·rw[List.drop_of_length_le (by rw[w4];omega)];rfl
theorem Li:∀(l:List UInt8) (e:aA),(qK l e).2≤l.length
 |[],e=>aw _
 |b::r,e=>by
  have:=Li r (.mk 8 0 [e]);simp only[qK,List.length_cons];split
  ·simp only[];omega
  ·simp only[];omega
def gk(t:ByteArray)(f:jQ->aA × jQ)(s:jQ):aA × jQ:=
 if s.bad=true\/s.deep+1>100 then(dm,⟨s.at_,s.deep+1,true⟩)
 else
    let r:=f ⟨s.at_,s.deep+1,s.bad⟩
    if r.2.bad=true then(r.1,⟨r.2.at_,r.2.deep-1,true⟩)
    else((eU t r.2.at_ r.1).1,⟨r.2.at_+(eU t r.2.at_ r.1).2,r.2.deep-1,false⟩)
def rV(t:ByteArray)(s:jQ):Int × jQ:=if dF t s.at_=43 then(6,eC t ⟨s.at_+1,s.deep,s.bad⟩ 32)else(7,s)
def ke(t:ByteArray)(f:jQ->aA × jQ)(s:jQ):aA × jQ:=
 let a:=f (eC t s 40)
 let k:=rV t (eC t a.2 32)
 let b:=f k.2
 (.mk k.1 0 [a.1,b.1],eC t b.2 41)
def dG(t:ByteArray):Nat->jQ->aA × jQ
 |0,s=>(dm,s)
 |n+1,s=>
  if dF t s.at_=48 then(.mk 1 0 [],⟨s.at_+1,s.deep,s.bad⟩)
  else if dF t s.at_=49 then(.mk 2 0 [],⟨s.at_+1,s.deep,s.bad⟩)
  else if dF t s.at_=116\/dF t s.at_=97 then s8 t s
  else if dF t s.at_=126 then
   if s.deep+1>100 then(dm,⟨s.at_+1,s.deep+1,true⟩)
   else
    let r:=dG t n ⟨s.at_+1,s.deep+1,s.bad⟩
    (.mk 5 0 [r.1],⟨r.2.at_,r.2.deep-1,r.2.bad⟩)
  else if dF t s.at_=40 then ke t (gk t (dG t n)) s
  else(dm,⟨s.at_,s.deep,true⟩)
structure ur(t:ByteArray)(s:jQ)(e:aA)(r:jQ)(m:Int):Prop where
 size:r.at_≤t.size
 lo:s.at_≤r.at_
 deep:r.bad=false->s.bad=false/\r.deep=s.deep
 dlo:s.deep≤r.deep
 dhi:r.deep≤m
 Tw:aH e+2*s.at_≤2*r.at_
theorem rz{t:ByteArray}{s:jQ}{b:Nat}(hb:0<b)(h:s.at_≤t.size):(eC t s b).at_≤t.size/\s.at_≤(eC t s b).at_/\(eC t s b).deep=s.deep/\((eC t s b).bad=false->s.bad=false):=by
 unfold eC;split
 ·have:=dZ (t:=t) (i:=s.at_) (by omega);exact⟨by simp only[];omega,by simp only[];omega,rfl,id⟩
 ·exact⟨h,aw _,rfl,by simp⟩
theorem Ah{t:ByteArray}{s:jQ}(h:s.at_≤t.size):(rV t s).2.at_≤t.size/\s.at_≤(rV t s).2.at_/\(rV t s).2.deep=s.deep/\((rV t s).2.bad=false->s.bad=false):=by
 unfold rV;split
 ·have:=dZ (t:=t) (i:=s.at_) (by omega);have h2:=rz (t:=t) (s:=⟨s.at_+1,s.deep,s.bad⟩) (b:=32) (by omega) (by simp only[];omega);simp only[]at h2⊢;exact⟨h2.1,by omega,h2.2.2.1,h2.2.2.2⟩
 ·exact⟨h,aw _,rfl,id⟩
theorem pd(k n:Int):aH (.mk k n [])=0:=rfl
theorem LL(k n:Int)(x:aA):aH (.mk k n [x])=aH x+1:=by simp[aH,bd]
theorem S3(k n:Int)(x y:aA):aH (.mk k n [x,y])=aH x+aH y+2:=by simp[aH,bd];omega
theorem HT:∀(l:List UInt8) (e:aA),aH (qK l e).1=aH e+(qK l e).2
 |[],e=>rfl
 |b::r,e=>by
  have:=HT r (.mk 8 0 [e]);rw[LL]at this;simp only[qK];split
  ·simp only[];omega
  ·rfl
theorem vT{t:ByteArray}{f:jQ->aA × jQ}(hf:∀s:jQ,s.bad=false->0≤s.deep->s.deep≤100->s.at_≤t.size->1≤s.deep->ur t s (f s).1 (f s).2 102)(s:jQ)(h0:0≤s.deep)(h1:s.deep≤101)(hg:s.bad=false->s.deep≤100)(h2:s.at_≤t.size):
 ur t s (gk t f s).1 (gk t f s).2 (if s.bad=true then s.deep+1 else 101):=by
 have e0:aH dm=0:=rfl;unfold gk;split
 ·rename_i h;refine⟨h2,aw _,by simp,by simp only[];omega,?_,by show aH dm+2*s.at_≤2*s.at_;rw[e0];omega⟩;cases hb:s.bad with
  |true=>simp only[if_true];omega
  |false=>simp only[Bool.false_eq_true,if_false];have:=hg hb;omega
 ·rename_i h;have hb:s.bad=false:=by cases hb:s.bad with|true=>exact absurd (.inl hb) h|false=>rfl
  have hd:¬s.deep+1>100:=fun hd=>h (.inr hd)
  have hh:=hf ⟨s.at_,s.deep+1,s.bad⟩ hb (by simp only[];omega) (by simp only[];omega) h2 (by simp only[];omega);obtain⟨g1,g2,g3,g4,g5,g6⟩:=hh;simp only[]at g2 g3 g4 g6⊢;generalize f ⟨s.at_,s.deep+1,s.bad⟩=r at g1 g2 g3 g4 g5 g6⊢;rw[hb];simp only[Bool.false_eq_true,if_false];cases hr:r.2.bad with
  |true=>
   simp only[if_true];exact⟨g1,g2,by simp,by simp only[];omega,by simp only[];omega,g6⟩
  |false=>
   simp only[Bool.false_eq_true,if_false];have g3:=(g3 hr).2;have hl:=Li (t.data.toList.drop r.2.at_) r.1;rw[List.length_drop,w4]at hl;have nN:=HT (t.data.toList.drop r.2.at_) r.1;have eR:eU t r.2.at_ r.1=qK (t.data.toList.drop r.2.at_) r.1:=rfl
   rw[<-eR]at hl nN;exact⟨by simp only[];omega,by simp only[];omega,fun _=>⟨hb,by simp only[];omega⟩,by simp only[];omega,by simp only[];omega,by simp only[];omega⟩
theorem O5{t:ByteArray}{f:jQ->aA × jQ}(hf:∀s:jQ,0≤s.deep->s.deep≤101->(s.bad=false->s.deep≤100)->s.at_≤t.size->ur t s (f s).1 (f s).2 (if s.bad=true then s.deep+1 else 101))(s:jQ)(hb:s.bad=false)(h0:0≤s.deep)(h1:s.deep≤100)(h2:s.at_≤t.size)(h3:dF t s.at_=40):
 ur t s (ke t f s).1 (ke t f s).2 102:=by
 have hs:=dZ (t:=t) (i:=s.at_) (by omega);have e1:eC t s 40=⟨s.at_+1,s.deep,s.bad⟩:=if_pos h3;have a1:=hf ⟨s.at_+1,s.deep,s.bad⟩ h0 (by simp only[];omega) (fun _=>h1) (by simp only[];omega);unfold ke;rw[e1];simp only[];generalize f ⟨s.at_+1,s.deep,s.bad⟩=A at a1⊢;obtain⟨a,s1⟩:=A;obtain⟨p1,p2,p3,p4,p5,p6⟩:=a1;simp only[hb,Bool.false_eq_true,if_false]at p1 p2 p3 p4 p5 p6⊢;obtain⟨q1,q2,q3,q4⟩:=rz (t:=t) (s:=s1) (b:=32) (by omega) p1;obtain⟨r1,r2,r3,r4⟩:=Ah (t:=t) (s:=eC t s1 32) q1;generalize rV t (eC t s1 32)=K at r1 r2 r3 r4⊢;obtain⟨k,s2⟩:=K;simp only[]at r1 r2 r3 r4⊢;have b1:=hf s2 (by omega) (by omega) (fun k=>by have:=(p3 (q4 (r4 k))).2;omega) r1
 generalize f s2=B at b1⊢;obtain⟨b,s3⟩:=B;obtain⟨u1,u2,u3,u4,u5,u6⟩:=b1;simp only[]at u1 u2 u3 u4 u5 u6⊢;obtain⟨v1,v2,v3,v4⟩:=rz (t:=t) (s:=s3) (b:=41) (by omega) u1;refine⟨v1,by omega,fun h=>?_,by omega,?_,by rw[S3];omega⟩
 ·obtain⟨k2,k3⟩:=u3 (v4 h);have k4:=p3 (q4 (r4 k2));exact⟨hb,by omega⟩
 ·split at u5<;>omega
theorem iH{t:ByteArray}:∀(n:Nat) (s:jQ),s.bad=false->0≤s.deep->s.deep≤100->s.at_≤t.size->ur t s (dG t n s).1 (dG t n s).2 102
 |0,s,hb,h0,h1,h2=>⟨h2,aw _,fun _=>⟨hb,rfl⟩,Int.le_refl _,by simp only[dG];omega,by simp only[dG,pd];omega⟩
 |n+1,s,hb,h0,h1,h2=>by
  have ih:=iH (t:=t) n;rw[dG];split
  ·have:=dZ (t:=t) (i:=s.at_) (by omega);exact⟨by simp only[];omega,by simp only[];omega,fun _=>⟨hb,rfl⟩,Int.le_refl _,by simp only[];omega,by simp only[pd];omega⟩
  split
  ·have:=dZ (t:=t) (i:=s.at_) (by omega);exact⟨by simp only[];omega,by simp only[];omega,fun _=>⟨hb,rfl⟩,Int.le_refl _,by simp only[];omega,by simp only[pd];omega⟩
  split
  ·have hp:=dZ (t:=t) (i:=s.at_) (by omega);have hd:=IN (t:=t) (i:=s.at_+1) (by omega);unfold s8;exact⟨hd.2,by simp only[];omega,fun _=>⟨hb,rfl⟩,Int.le_refl _,by simp only[];omega,by simp only[pd];omega⟩
  split
  ·have hp:=dZ (t:=t) (i:=s.at_) (by omega);split
   ·exact⟨by simp only[];omega,by simp only[];omega,by simp,by simp only[];omega,by simp only[];omega,by rw[show dm=aA.mk 0 0 []from rfl,pd];simp only[];omega⟩
   ·have hh:=ih ⟨s.at_+1,s.deep+1,s.bad⟩ hb (by simp only[];omega) (by simp only[];omega) (by simp only[];omega);obtain⟨p1,p2,p3,p4,p5,p6⟩:=hh;simp only[]at p1 p2 p3 p4 p5 p6⊢;exact⟨p1,by simp only[];omega,fun h=>⟨hb,by have:=(p3 h).2;simp only[]at this⊢;omega⟩,by simp only[];omega,by simp only[];omega,by show aH (.mk 5 0 [_])+2*s.at_≤2*(dG t n _).2.at_;rw[LL];omega⟩
  split
  ·exact O5 (vT fun s a b c d _=>ih s a b c d) s hb h0 h1 h2 (by assumption)
  ·exact⟨h2,aw _,by simp,Int.le_refl _,by simp only[];omega,by rw[show dm=aA.mk 0 0 []from rfl,pd];simp only[];omega⟩
def mB(t:ByteArray):aA × jQ:=gk t (dG t 101) ⟨0,0,false⟩
def okR(t:ByteArray):Bool:= !(mB t).2.bad&&decide ((mB t).2.at_=t.size)
theorem Rn(t:ByteArray):ur t ⟨0,0,false⟩ (mB t).1 (mB t).2 101:=
 vT (fun s a b c d _=>iH 101 s a b c d) ⟨0,0,false⟩ (by decide) (by decide) (fun _=>by decide) (ah _)
theorem B6(t:ByteArray):aH (mB t).1≤2*t.size:=by
 have h:=Rn t;have:=h.Tw;have:=h.size;simp only[]at*;omega
abbrev Oc:aA:= .mk 2 0 []
def yD(a b:Int):Int:=if a>b then a else b
mutual
def dM(k:Int):aA->Int->Int
 | .mk kd n ks,m=>fS k ks (if kd=k then yD m (n+1)else m)
def fS(k:Int):List aA->Int->Int
 |[],m=>m
 |x::xs,m=>fS k xs (dM k x m)
end
theorem lT{k:Int}:∀{l:List aA} {i:Nat} (h:i<l.length) (m:Int),fS k (l.take (i+1)) m=dM k l[i] (fS k (l.take i) m)
 |x::xs,0,h,m=>by simp[fS]
 |x::xs,i+1,h,m=>by
  simp only[List.take_succ_cons,fS,List.getElem_cons_succ];exact lT (by simpa using h) _
def mz(q:b7):Int:=dM 3 q.right (dM 3 q.left 0)
def qB(q:b7):Int:=dM 4 q.right (dM 4 q.left 0)
mutual
def lM(aK dy:List aA):aA->Int->aA × Int
 | .mk k n ks,l=>
   if l-1<0 then(dm,l-1)
   else if k=3 then
    if n≥(aK.length:Nat)then(Oc,l-1)else(aK.getD n.toNat dm,l-1-((jj (aK.getD n.toNat dm):Nat)-1))
   else if k=4 then
    if n≥(dy.length:Nat)then(Oc,l-1)else(dy.getD n.toNat dm,l-1-((jj (dy.getD n.toNat dm):Nat)-1))
   else(.mk k n (jl aK dy ks (l-1)).1,(jl aK dy ks (l-1)).2)
def jl(aK dy:List aA):List aA->Int->List aA × Int
 |[],l=>([],l)
 |x::xs,l=>((lM aK dy x l).1::(jl aK dy xs (lM aK dy x l).2).1,(jl aK dy xs (lM aK dy x l).2).2)
end
theorem Ct{ts us:List aA}:∀{l:List aA} {i:Nat} (h:i<l.length) (m:Int),
 jl ts us (l.take (i+1)) m=((jl ts us (l.take i) m).1++[(lM ts us l[i] (jl ts us (l.take i) m).2).1],(lM ts us l[i] (jl ts us (l.take i) m).2).2)
 |x::xs,0,h,m=>by simp[jl]
 |x::xs,i+1,h,m=>by
  simp only[List.take_succ_cons,jl,List.getElem_cons_succ];rw[Ct (by simpa using h)];simp
theorem Ip{ts us:List aA}:∀(l:List aA) (m:Int),(jl ts us l m).1.length=l.length
 |[],m=>rfl
 |x::xs,m=>by simp only[jl,List.length_cons,Ip xs]
theorem nP{ts us:List aA}(h1:∀x∈ts,aH x≤200)(h2:∀x∈us,aH x≤200):∀(e:aA) (m:Int),jj (lM ts us e m).1≤201*jj e/\m-201*jj e≤(lM ts us e m).2/\(lM ts us e m).2≤m
 | .mk k n ks,m=>by
   have get:∀{l:List aA} {i:Nat},(∀x∈l,aH x≤200)->aH (l.getD i dm)≤200:=by
    intro l i h;by_cases hi:i<l.length
    ·rw[List.getD_eq_getElem?_getD,List.getElem?_eq_getElem hi];exact h _ (ag hi)
    ·rw[List.getD_eq_getElem?_getD,List.getElem?_eq_none (by omega)];exact ah _
   have hs:∀(l:List aA) (hl:∀x∈l,x∈ks) (m:Int),bd (jl ts us l m).1≤201*bd l/\m-201*bd l≤(jl ts us l m).2/\(jl ts us l m).2≤m:=by
    intro l
    induction l with
    |nil=>intro _ m;simp only[jl,bd,List.length_nil];omega
    |cons x xs ih=>
     intro hl m;have hxm:x∈ks:=hl x (List.mem_cons_self ..);have hx:=nP h1 h2 x m;have qC:=ih (fun y hy=>hl y (List.mem_cons_of_mem _ hy)) (lM ts us x m).2;simp only[jl,bd,List.length_cons,jj]at hx qC⊢;omega
   have hk:=hs ks (fun _ h=>h) (m-1);have hlen:ks.length≤bd ks:=by
    clear hk hs
    induction ks with
    |nil=>exact ah _
    |cons x xs ih=>
     simp only[bd,List.length_cons];omega
   have g1:=get (i:=n.toNat) h1;have g2:=get (i:=n.toNat) h2;rw[lM];have e0:aH dm=0:=rfl;have e1:aH Oc=0:=rfl;have e2:jj (.mk k n ks)=bd ks+1:=by simp only[jj,aH]
   split
   ·simp only[jj,e0];omega
   split
   ·split
    ·simp only[jj,e1];omega
    ·simp only[jj]at g1 e2⊢;omega
   split
   ·split
    ·simp only[jj,e1];omega
    ·simp only[jj]at g2 e2⊢;omega
   ·have e3:aH (.mk k n (jl ts us ks (m-1)).1)=bd (jl ts us ks (m-1)).1:=by simp only[aH]
    simp only[jj,e3]at e2⊢;omega
 termination_by e=>SizeOf.sizeOf e
 decreasing_by
  have:=List.sizeOf_lt_of_mem hxm;simp only[aA.mk.sizeOf_spec];omega
def pK:aA->List Int->Bool->aA × Bool × Bool
 |e,[],b=>(e,b,true)
 |e,i::p,b=>if 0≤i/\i≤(e.kids.length:Nat)-1 then pK (e.kids.getD i.toNat dm) p (b||decide (e.kind=5))else(e,b,false)
def iS(y:aA):aA->List Int->aA
 |_,[]=>y
 | .mk k n ks,i::p=> .mk k n (ks.set i.toNat (iS y (ks.getD i.toNat dm) p))
def o6(t a:Int)(e:aA)(p:List Int)(y:aA):aA × Int:=
 if(pK e p false).2.2=false then(dm,2)
 else if(pK e p false).2.1=true/\dq y=false then(dm,4)
 else if bz t a (iS y e p)=false then(dm,3)
 else(iS y e p,0)
theorem CH:∀(l:List aA) (i:Nat) (y:aA),i<l.length->bd (l.set i y)+aH (l.getD i dm)=bd l+aH y
 |[],i,y,h=>by simp at h
 |x::xs,0,y,h=>by simp only[List.set_cons_zero,bd,List.getD_cons_zero];omega
 |x::xs,i+1,y,h=>by
  have:=CH xs i y (by simpa using h);simp only[List.set_cons_succ,bd,List.getD_cons_succ];omega
theorem y7:∀(l:List aA) (i:Nat),aH (l.getD i dm)≤bd l
 |[],i=>by simp[aH,bd]
 |x::xs,0=>by simp only[bd,List.getD_cons_zero];omega
 |x::xs,i+1=>by
  have:=y7 xs i;simp only[bd,List.getD_cons_succ];omega
theorem Cr(y:aA):∀(p:List Int) (e:aA),aH (iS y e p)≤aH e+aH y
 |[],e=>by simp only[iS];omega
 |i::p, .mk k n ks=>by
  have h1:=Cr y p (ks.getD i.toNat dm);simp only[iS,aH];by_cases hi:i.toNat<ks.length
  ·have h2:=CH ks i.toNat (iS y (ks.getD i.toNat dm) p) hi;omega
  ·rw[List.set_eq_of_length_le (by omega)];omega
structure Fit where
 t0:aA
 t1:aA
 t2:aA
 a0:aA
 a1:aA
 a2:aA
 a3:aA
def rY:Fit:=⟨dm,dm,dm,dm,dm,dm,dm⟩
def Fit.aK(x:Fit):List aA:=[x.t0,x.t1,x.t2]
def Fit.dy(x:Fit):List aA:=[x.a0,x.a1,x.a2,x.a3]
noncomputable def eV(y5 e:aA):Bool:=if y5.kind=0 then true else eqv y5 e
def ej(y5 e:aA):aA:=if y5.kind=0 then e else y5
noncomputable def ya(x:Fit)(n:Int)(e:aA):Bool × Fit:=
 if n=0 then(eV x.t0 e,{x with t0:=ej x.t0 e})
 else if n=1 then(eV x.t1 e,{x with t1:=ej x.t1 e})
 else(eV x.t2 e,{x with t2:=ej x.t2 e})
noncomputable def uL(x:Fit)(n:Int)(e:aA):Bool × Fit:=
 if n=0 then(eV x.a0 e,{x with a0:=ej x.a0 e})
 else if n=1 then(eV x.a1 e,{x with a1:=ej x.a1 e})
 else if n=2 then(eV x.a2 e,{x with a2:=ej x.a2 e})
 else(eV x.a3 e,{x with a3:=ej x.a3 e})
mutual
noncomputable def gM:aA->aA->Fit->Bool × Fit
 | .mk k n ks,e,x=>
   if k=3 then(if dq e=true then ya x n e else(false,x))
   else if k=4 then uL x n e
   else if k=e.kind/\ks.length=e.kids.length then rL ks e.kids x
   else(false,x)
noncomputable def rL:List aA->List aA->Fit->Bool × Fit
 |p::ps,e::es,x=>if(gM p e x).1=true then rL ps es (gM p e x).2 else(false,(gM p e x).2)
 |_,_,x=>(true,x)
end
def jP(x:aA):aA:=if x.kind=0 then Oc else x
mutual
def kr(k m:Int):aA->Bool
 | .mk kd n ks=>decide (kd=k/\n=m)||Bw k m ks
def Bw(k m:Int):List aA->Bool
 |[]=>false
 |x::xs=>kr k m x||Bw k m xs
end
def jm(t a:Int)(e:aA)(ts us:List aA):aA × Bool:=((lM ts us e 200).1,decide (0≤(lM ts us e 200).2)&&bz t a (lM ts us e 200).1)
def Aq(x:Fit)(e:aA):Bool:=
 decide (x.t0.kind=0)&&kr 3 0 e||decide (x.t1.kind=0)&&kr 3 1 e||decide (x.t2.kind=0)&&kr 3 2 e||
 decide (x.a0.kind=0)&&kr 4 0 e||decide (x.a1.kind=0)&&kr 4 1 e||decide (x.a2.kind=0)&&kr 4 2 e||decide (x.a3.kind=0)&&kr 4 3 e
def fR(l:List aA)(n:Int):List aA:=(l.take n.toNat).map jP
noncomputable def yI(t a:Int)(e:aA)(use:Int)(back:Bool)(fr to:aA)(path:List Int)(node:aA):Option aP:=
 if(gM fr node rY).1=false then none
 else if Aq (gM fr node rY).2 to=true then none
 else
  let ts:=fR (gM fr node rY).2.aK (dM 3 fr (dM 3 to 0))
  let us:=fR (gM fr node rY).2.dy (dM 4 fr (dM 4 to 0))
  if(jm t a to ts us).2=false then none
  else if(o6 t a e path (jm t a to ts us).1).2=0 then some ⟨use,back,path,ts,us⟩else none
structure qI where
 out:List aP
 bad:Bool
def vl(s:qI):Option aP->qI
 |none=>s
 |some x=>if s.out.length≥300 then⟨s.out,true⟩else⟨s.out++[x],s.bad⟩
noncomputable def Om(t a:Int)(ax:List b7)(e:aA)(path:List Int)(node:aA)(use:Nat)(s:qI):qI:=
 let q:=ax.getD use ⟨dm,dm⟩
 vl (vl s (yI t a e use false q.left q.right path node)) (yI t a e use true q.right q.left path node)
noncomputable def tH(t a:Int)(ax:List b7)(e:aA)(path:List Int)(node:aA):Nat->Nat->qI->qI
 |0,_,s=>s
 |m+1,use,s=>if s.bad=true then s else tH t a ax e path node m (use+1) (Om t a ax e path node use s)
mutual
noncomputable def lx(t a:Int)(ax:List b7)(e:aA):aA->List Int->qI->qI
 | .mk k n ks,path,s=>fG t a ax e ks path 0 (tH t a ax e path (.mk k n ks) ax.length 0 s)
noncomputable def fG(t a:Int)(ax:List b7)(e:aA):List aA->List Int->Nat->qI->qI
 |[],_,_,s=>s
 |x::xs,path,i,s=>if s.bad=true then s else fG t a ax e xs path (i+1) (lx t a ax e x (path++[(i:Int)]) s)
end
noncomputable def mZ(t a:Int)(ax:List b7)(e:aA):qI:=lx t a ax e e [] ⟨[],false⟩
def kW(ax:List b7)(p:cY)(k use:Int):b7 × Bool:=
 if use≥0 then(ax.getD use.toNat ⟨dm,dm⟩,true)
 else if-1-use≥k then(⟨dm,dm⟩,false)
 else if-1-use≥(p.aG.length:Nat)then(⟨dm,dm⟩,false)
 else(⟨(p.aG.getD (-1-use).toNat ⟨dm,dm,0,0,[]⟩).left,(p.aG.getD (-1-use).toNat ⟨dm,dm,0,0,[]⟩).right⟩,true)
noncomputable def g9(ax:List b7)(p:cY)(k:Int)(e:aA)(s:aP):aA × Int:=
 let q:=(kW ax p k s.use).1
 if(kW ax p k s.use).2=false then(dm,2)
 else if¬((s.aK.length:Int)=mz q)then(dm,2)
 else if¬((s.dy.length:Int)=qB q)then(dm,2)
 else if(pK e s.path false).2.2=false then(dm,2)
 else
  let x:=jm p.sig.aK p.sig.aF q.left s.aK s.dy
  let y:=jm p.sig.aK p.sig.aF q.right s.aK s.dy
  if x.2=false\/y.2=false then(dm,3)
  else
   let fr:=if s.back=true then y.1 else x.1
   let to:=if s.back=true then x.1 else y.1
   if eqv (pK e s.path false).1 fr=false then(dm,6)
   else o6 p.sig.aK p.sig.aF e s.path to
theorem gn(x:aA):aD x=aY x:=bK x
theorem mW{P:Program}{f:Nat}{args:List SV}{outs:List (Option (List CV))}{k n:Int}(h:aE P f args outs (.a 3 [J k,J n, .ows 66 3 []])):aE P f args outs (.a 3 (aY (.mk k n []))):=
 h.soft (.v (.a (.same (.same (.ro .nil)))))
section
variable(t:ByteArray)(hz:t.size≤100000)
include hz
theorem mJ(s:jQ):aS prog 218 [.c (.rp 4 (iB t s))] (U8 (dF t s.at_)):=by
 have _:=hz;obtain⟨i,d,b⟩:=s;by_cases h:i<t.size
 ·rw[show dF t i=BH t i from if_pos h];refine cF func218 (h:=?_)
  repeat'((conv=>whnf);first
   |apply bP.mk
   |((apply bX;constructor)<;>intro h<;>(try simp only[aa]at h)<;>(try first|omega|contradiction))
   |refine nB ?_
   |refine nO ?_)
  all_goals first|rfl|trivial
 ·rw[show dF t i=0 from if_neg h];refine cF func218 (h:=?_)
  repeat'((conv=>whnf);first
   |apply bP.mk
   |((apply bX;constructor)<;>intro h<;>(try simp only[aa]at h)<;>(try first|omega|contradiction))
   |refine nB ?_)
  all_goals first|rfl|trivial
theorem ow(s:jQ)(b:Nat)(h:s.at_≤t.size):aE prog 227 [.c (.op (iB t s)),U8 b] [some [.op (iB t (eC t s b))],none] (.tup []):=by
 have hp:=mJ t hz s;obtain⟨i,d,c⟩:=s;simp only[]at hp h;obtain⟨R,hR⟩:∃R,eC t ⟨i,d,c⟩ b=R:=⟨_,rfl⟩
 rw[hR];unfold eC at hR;simp only[]at hR;generalize dF t i=p at hp hR;by_cases hb:p=b
 ·rw[if_pos hb]at hR;subst hR hb;refine cX func227 (h:=?_)
  repeat'((conv=>whnf);first
   |refine aI.mk ?_ ?_
   |((apply bX;constructor)<;>intro h<;>(try simp only[aa]at h)<;>(try first|omega|contradiction))|(show ay _ 218 _ _ _ _;refine cP rfl (hp) ?_)
   |refine aR ?_)
  all_goals first|rfl|exact⟨rfl,trivial⟩|trivial
 ·rw[if_neg hb]at hR;subst hR;refine aE.tP (?_:aE _ _ _ [some [.op [.val (.string t),J (i:Nat),J d, .cb true]],none] _) (.re (.op (.same (.same (.same (.cb .nil)))) .nil) (.same .nil));refine cX func227 (h:=?_)
  repeat'((conv=>whnf);first
   |refine aI.mk ?_ ?_
   |((apply bX;constructor)<;>intro h<;>(try simp only[aa]at h)<;>(try first|omega|contradiction))|(show ay _ 218 _ _ _ _;refine cP rfl (hp) ?_))
  all_goals first|rfl|exact⟨rfl,trivial⟩|trivial
end
theorem wrap_u8'{z:Int}(h1:0≤z)(h2:z≤255):IntKind.u8.wrap z=z:=by
 simp only[IntKind.wrap,IntKind.bits,IntKind.signed,Bool.false_and];have:z % 2^8=z:=by omega
 simp only[this];simp
theorem QM{x:ByteArray}{i:Nat}{n:Int}(h:i<x.size)(h1:¬((BH x i:Nat):Int)<48)(h2:¬((BH x i:Nat):Int)>57):ua (x.data.toList.drop i) n=ua (x.data.toList.drop (i+1)) (n*10+((BH x i:Nat)-48)):=by
 rw[drop_cons h,ua,if_neg (show¬(x.data.toList.getD i 0).toNat<48 by unfold BH at h1;omega),if_neg (show¬57<(x.data.toList.getD i 0).toNat by unfold BH at h2;omega)];rfl
theorem WC{x:ByteArray}{i:Nat}{n:Int}(h:i<x.size)(h1:((BH x i:Nat):Int)<48):ua (x.data.toList.drop i) n=(0,false):=by
 rw[drop_cons h,ua,if_pos (show(x.data.toList.getD i 0).toNat<48 by unfold BH at h1;omega)]
theorem V8{x:ByteArray}{i:Nat}{n:Int}(h:i<x.size)(h1:((BH x i:Nat):Int)>57):ua (x.data.toList.drop i) n=(0,false):=by
 rw[drop_cons h,ua];split
 ·rfl
 ·rw[if_pos (show 57<(x.data.toList.getD i 0).toNat by unfold BH at h1;omega)]
theorem TJ{x:ByteArray}{i:Nat}{n:Int}(h:¬i<x.size):ua (x.data.toList.drop i) n=(n,true):=by
 rw[List.drop_of_length_le (by rw[w4];omega)];rfl
theorem O0{n:Int}{i:Nat}{b:Int}(h0:0≤n)(h1:n<10^i)(h2:0≤b)(h3:b≤9):0≤n*10+b/\n*10+b<10^(i+1):=by
 rw[Int.pow_succ];omega
theorem L9{i:Nat}(h:i≤9):(10:Int)^i≤1000000000:=by
 have:((10:Nat)^i:Nat)≤10^9:=Nat.pow_le_pow_right (by omega) h;have e:((10:Int)^i)=(((10:Nat)^i:Nat):Int):=by rw[Int.natCast_pow];rfl
 rw[e];omega
theorem vH(x:ByteArray):aS prog 226 [KJ x] (.tup [I (NG x).1,B (NG x).2]):=by
 obtain⟨R,hR⟩:∃R,NG x=R:=⟨_,rfl⟩
 rw[hR];unfold NG at hR;by_cases h1:x.size<1
 ·rw[if_pos h1]at hR;subst hR;refine cF func226 (h:=?_)
  repeat'((conv=>whnf);first
   |apply bP.mk
   |((apply bX;constructor)<;>intro h<;>(try simp only[aa]at h)<;>(try first|omega|contradiction)))
  all_goals first|rfl|trivial
 rw[if_neg h1]at hR;by_cases h2:x.size>9
 ·rw[if_pos h2]at hR;subst hR;refine cF func226 (h:=?_)
  repeat'((conv=>whnf);first
   |apply bP.mk
   |((apply bX;constructor)<;>intro h<;>(try simp only[aa]at h)<;>(try first|omega|contradiction)))
  all_goals first|rfl|trivial
 rw[if_neg h2]at hR;by_cases h3:BH x 0=48/\x.size>1
 ·rw[if_pos h3]at hR;subst hR;have h30:((x.data.toList.getD (Int.toNat 0) 0).toNat:Int)=48:=by have:=h3.1;show((BH x 0:Nat):Int)=48;omega
  refine cF func226 (h:=?_)
  repeat'((conv=>whnf);first
   |apply bP.mk
   |((apply bX;constructor)<;>intro h<;>(try simp only[aa]at h)<;>(try first|omega|contradiction))|(show bh _ _;refine bh.mk (by first|((constructor<;>omega))|fail) ?_))
  all_goals first|rfl|trivial
 rw[if_neg h3]at hR;have hb:∀i,0≤((BH x i:Nat):Int)/\((BH x i:Nat):Int)≤255:=fun i=>by have:=VK x i;omega
 have h30:((x.data.toList.getD (Int.toNat 0) 0).toNat:Int)=48-> ¬1<x.size:=fun h h'=>h3 ⟨by have h:((BH x 0:Nat):Int)=48:=h;omega,h'⟩
 subst hR;refine cF func226 (h:=?_)
 repeat'((conv=>whnf);first
  |(apply bP.mk;first|((rw[<-ha.2.1,WC (by omega) (by assumption)];rfl);done)|((rw[<-ha.2.1,V8 (by omega) (by assumption)];rfl);done)|((rw[<-ha.2.1,TJ (by omega)];rfl);done)|skip)|(show aZ 5 _ _ _ _ _ _;refine lp (Int × Nat) [0] (fun⟨n,i⟩=>[(4,I n),(5,I (i:Nat))]) (fun⟨n,i⟩=>i≤x.size/\ua (x.data.toList.drop i) n=ua x.data.toList 0/\0≤n/\n<10^i) (fun⟨n,i⟩=>x.size-i) (0,0) (by exact⟨ah _,rfl,Int.le_refl _,by decide⟩) (fun A ha=>?_);obtain⟨n,i⟩:=A;have ha:i≤x.size/\ua (x.data.toList.drop i) n=ua x.data.toList 0/\0≤n/\n<10^i:=ha;have Cz:=L9 (i:=i) (by omega);have Rb:0≤((x.data.toList.getD (Int.toNat (i:Nat)) 0).toNat:Int)/\((x.data.toList.getD (Int.toNat (i:Nat)) 0).toNat:Int)≤255:=hb i)
  |refine nx ((n*10+(((BH x i:Nat):Int)-48),i+1):Int × Nat) (by exact⟨by show i+1≤_;omega,by show ua _ _=_;rw[<-ha.2.1];exact(QM (by omega) (by assumption) (by assumption)).symm,O0 ha.2.2.1 ha.2.2.2 (show 0≤((x.data.toList.getD (Int.toNat (i:Nat)) 0).toNat:Int)-48 by omega) (show((x.data.toList.getD (Int.toNat (i:Nat)) 0).toNat:Int)-48≤9 by omega)⟩)
  |((apply bX;constructor)<;>intro h<;>(try simp only[aa]at h)<;>(try first|omega|contradiction))|(show Arith .u8 _ _;refine Arith.fit (wrap_u8' (by omega) (by omega)) ?_)|(show Arith _ _ _;refine Arith.fit (bu (by omega) (by omega)) ?_)|(show bh _ _;refine bh.mk (by first|((constructor<;>omega))|fail) ?_))
 all_goals first|rfl|trivial
end Go.Proofs.YtgbggaddpbghfaaGreat
