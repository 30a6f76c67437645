/- Contracts of the reference's reader of expressions: names, sums and products, stars. Conditions: bounds of size. -/
import Derived.Test.YtgbggaddpbghfaaGreatKAJ
namespace Go.Proofs.YtgbggaddpbghfaaGreat
open Go Go.KA Go.Proofs Go.Proofs.Tryz
set_option maxHeartbeats 16000000
set_option maxRecDepth 100000
section
variable(t:ByteArray)(hz:t.size≤100000)
include hz
theorem RW(i:Nat)(d:Int)(hi:i<t.size):aE prog 221 [.c (.op (iB t ⟨i,d,false⟩))] [some [.op (iB t (s8 t ⟨i,d,false⟩).2)]] (.a 3 (aY (s8 t ⟨i,d,false⟩).1)):=by
 have hp:=fun j=>mJ t hz ⟨j,d,false⟩
 have hn:=fun j=>vH (t.extract (i+1) j)
 have hd:=IN (t:=t) (i:=i+1) (by omega);simp only[s8,Bool.false_or];refine mW ?_;obtain⟨k,hk⟩:∃k:Int,(if dF t i=97 then(4:Int)else 3)=k:=⟨_,rfl⟩
 rw[hk];simp only[]at hp;have xA:=hp i;generalize dF t i=p0 at xA hk;by_cases h97:p0=97
 ·rw[if_pos h97]at hk;subst h97 hk;refine cX func221 (h:=?_)
  repeat'((conv=>whnf);first
   |(show aI _ _;(obtain rfl:j=eJ t (i+1):=(by have:=vJ (t:=t) (i:=j) (by omega);omega));exact aI.mk rfl ⟨rfl,trivial⟩)|(show aZ 6 _ _ _ _ _ _;refine n7 (Nat) [0,2,3,4] (fun j=>[]) (fun j=>[(0, .cc 4 (iB t ⟨j,d,false⟩))]) (fun j=>i+1≤j/\j≤t.size/\eJ t j=eJ t (i+1)) (fun j=>t.size+1-j) (i+1) (by exact⟨aw _,by omega,rfl⟩) (fun j ha=>?_))
   |refine tD (j+1:Nat) (by exact⟨by show i+1≤j+1;omega,by have:=dZ (t:=t) (i:=j) (by omega);show j+1≤_;omega,by show eJ t (j+1)=_;rw[<-ha.2.2];exact(uX (by omega) (by omega)).symm⟩)
   |((apply bX;constructor)<;>intro h<;>(try simp only[aa]at h)<;>(try first|omega|contradiction))|(show ay _ 218 _ _ _ _;refine cP rfl (xA) ?_)|(show ay _ 218 _ _ _ _;refine cP rfl (hp j) ?_)|(show ay _ 226 _ _ _ _;refine cP rfl (hn j) ?_)
   |refine aR ?_
   |refine nB ?_
   |refine nO ?_)
  all_goals first|rfl|exact⟨rfl,trivial⟩|trivial
 ·rw[if_neg h97]at hk;subst hk;refine cX func221 (h:=?_)
  repeat'((conv=>whnf);first
   |(show aI _ _;(obtain rfl:j=eJ t (i+1):=(by have:=vJ (t:=t) (i:=j) (by omega);omega));exact aI.mk rfl ⟨rfl,trivial⟩)|(show aZ 6 _ _ _ _ _ _;refine n7 (Nat) [0,2,3,4] (fun j=>[]) (fun j=>[(0, .cc 4 (iB t ⟨j,d,false⟩))]) (fun j=>i+1≤j/\j≤t.size/\eJ t j=eJ t (i+1)) (fun j=>t.size+1-j) (i+1) (by exact⟨aw _,by omega,rfl⟩) (fun j ha=>?_))
   |refine tD (j+1:Nat) (by exact⟨by show i+1≤j+1;omega,by have:=dZ (t:=t) (i:=j) (by omega);show j+1≤_;omega,by show eJ t (j+1)=_;rw[<-ha.2.2];exact(uX (by omega) (by omega)).symm⟩)
   |((apply bX;constructor)<;>intro h<;>(try simp only[aa]at h)<;>(try first|omega|contradiction))|(show ay _ 218 _ _ _ _;refine cP rfl (xA) ?_)|(show ay _ 218 _ _ _ _;refine cP rfl (hp j) ?_)|(show ay _ 226 _ _ _ _;refine cP rfl (hn j) ?_)
   |refine aR ?_
   |refine nB ?_
   |refine nO ?_)
  all_goals first|rfl|exact⟨rfl,trivial⟩|trivial
theorem S5(f:jQ->aA × jQ)(d0:Int)(h0:0≤d0)(h1:d0≤100)(hf:∀s:jQ,0≤s.deep->s.deep≤101->(s.bad=false->s.deep≤100)->s.at_≤t.size->ur t s (f s).1 (f s).2 (if s.bad=true then s.deep+1 else 101))
 (hE:∀s:jQ,0≤s.deep->s.deep≤101->(s.bad=false->s.deep=d0)->s.at_≤t.size->aE prog 209 [.c (.op (iB t s))] [some [.op (iB t (f s).2)]] (.a 3 (aY (f s).1)))
 (i:Nat)(hi:i≤t.size)(h3:dF t i=40):aE prog 222 [.c (.op (iB t ⟨i,d0,false⟩))] [some [.op (iB t (ke t f ⟨i,d0,false⟩).2)]] (.a 3 (aY (ke t f ⟨i,d0,false⟩).1)):=by
 have hs:=dZ (t:=t) (i:=i) (by omega);have e1:eC t ⟨i,d0,false⟩ 40=⟨i+1,d0,false⟩:=if_pos h3;have c1:=ow t hz ⟨i,d0,false⟩ 40 hi;rw[e1]at c1;have a1:=hf ⟨i+1,d0,false⟩ h0 (by simp only[];omega) (fun _=>h1) (by simp only[];omega);have c2:=hE ⟨i+1,d0,false⟩ h0 (by simp only[];omega) (fun _=>rfl) (by simp only[];omega);unfold ke;rw[e1];simp only[];generalize f ⟨i+1,d0,false⟩=A at a1 c2⊢;obtain⟨⟨ak,an,OE⟩,s1⟩:=A;obtain⟨p1,p2,p3,p4,p5,p6⟩:=a1;simp only[Bool.false_eq_true,if_false]at p1 p2 p3 p4 p5 p6 c2⊢;obtain⟨q1,q2,q3,q4⟩:=rz (t:=t) (s:=s1) (b:=32) (by omega) p1;have c3:=ow t hz s1 32 p1;have c4:=mJ t hz (eC t s1 32)
 obtain⟨r1,r2,r3,r4⟩:=Ah (t:=t) (s:=eC t s1 32) q1;have hT:∀s3:jQ,s3.at_≤t.size->aE prog 227 [.c (.op (iB t s3)),U8 41] [some [.op (iB t (eC t s3 41))],none] (.tup []):=fun s3 h=>ow t hz s3 41 h
 have fin:∀(K:Int × jQ),K.2.at_≤t.size->K.2.deep=(eC t s1 32).deep->(K.2.bad=false->(eC t s1 32).bad=false)->ur t K.2 (f K.2).1 (f K.2).2 (if K.2.bad=true then K.2.deep+1 else 101)/\aE prog 209 [.c (.op (iB t K.2))] [some [.op (iB t (f K.2).2)]] (.a 3 (aY (f K.2).1)):=by
  intro K k1 k2 k3;exact⟨hf K.2 (by omega) (by omega) (fun k=>by have:=(p3 (q4 (k3 k))).2;omega) k1,hE K.2 (by omega) (by omega) (fun k=>by have:=(p3 (q4 (k3 k))).2;omega) k1⟩
 obtain⟨g1,g2⟩:=fin _ r1 r3 r4;clear fin hE hf;have soft:∀{k:Int} {b:aA} {s':jQ},aE prog 222 [.c (.op (iB t ⟨i,d0,false⟩))] [some [.op (iB t s')]] (.a 3 [J k,J 0, .ows 66 3 [aY (.mk ak an OE),aY b]])->aE prog 222 [.c (.op (iB t ⟨i,d0,false⟩))] [some [.op (iB t s')]] (.a 3 (aY (.mk k 0 [.mk ak an OE,b]))):=by
  intro k b s' h;have e:aY (.mk k 0 [.mk ak an OE,b])=[J k,J 0, .ro 3 [aY (.mk ak an OE),aY b]]:=by rw[<-gn (.mk ak an OE),<-gn b];rfl
  rw[e];exact h.soft (.v (.a (.same (.same (.ro .nil)))))
 generalize hs2:eC t s1 32=s2 at*;obtain⟨j2,d2,b2⟩:=s2;simp only[]at*;by_cases h43:dF t j2=43
 ·have hj2:=dZ (t:=t) (i:=j2) (by omega);have e2:rV t ⟨j2,d2,b2⟩=(6,eC t ⟨j2+1,d2,b2⟩ 32):=if_pos h43;have c5:=ow t hz ⟨j2+1,d2,b2⟩ 32 (by simp only[];omega);rw[e2]at g1 g2⊢;rw[h43]at c4;simp only[]at g1 g2⊢;generalize eC t ⟨j2+1,d2,b2⟩ 32=s3 at*;obtain⟨j3,d3,b3⟩:=s3;generalize f ⟨j3,d3,b3⟩=Bb at*;obtain⟨⟨bk,bn,bks⟩,s4⟩:=Bb;have c6:=hT s4 g1.size;obtain⟨j4,d4,b4⟩:=s4;simp only[]at*;generalize eC t ⟨j4,d4,b4⟩ 41=s5 at*;obtain⟨j5,d5,b5⟩:=s5;refine soft ?_;refine cX func222 (h:=?_)
  repeat'((conv=>whnf);first
   |refine aI.mk ?_ ?_
   |((apply bX;constructor)<;>intro h<;>(try simp only[aa]at h)<;>(try first|omega|contradiction))|(show ay _ 227 _ _ _ _;refine cG [true,false] rfl (c1) ?_)|(show ay _ 209 _ _ _ _;refine cG [true] rfl (c2) ?_)|(show ay _ 227 _ _ _ _;refine cG [true,false] rfl (c3) ?_)|(show ay _ 218 _ _ _ _;refine cP rfl (c4) ?_)|(show ay _ 227 _ _ _ _;refine cG [true,false] rfl (c5) ?_)|(show ay _ 209 _ _ _ _;refine cG [true] rfl (g2) ?_)|(show ay _ 227 _ _ _ _;refine cG [true,false] rfl (c6) ?_)
   |refine aR ?_)
  all_goals first|rfl|exact⟨rfl,trivial⟩|trivial
 ·have e2:rV t ⟨j2,d2,b2⟩=(7,⟨j2,d2,b2⟩):=if_neg h43;rw[e2]at g1 g2⊢;simp only[]at g1 g2⊢;generalize dF t j2=p at*;generalize f ⟨j2,d2,b2⟩=Bb at*;obtain⟨⟨bk,bn,bks⟩,s4⟩:=Bb;have c6:=hT s4 g1.size;obtain⟨j4,d4,b4⟩:=s4;simp only[]at*;generalize eC t ⟨j4,d4,b4⟩ 41=s5 at*;obtain⟨j5,d5,b5⟩:=s5;refine soft ?_;refine cX func222 (h:=?_)
  repeat'((conv=>whnf);first
   |refine aI.mk ?_ ?_
   |((apply bX;constructor)<;>intro h<;>(try simp only[aa]at h)<;>(try first|omega|contradiction))|(show ay _ 227 _ _ _ _;refine cG [true,false] rfl (c1) ?_)|(show ay _ 209 _ _ _ _;refine cG [true] rfl (c2) ?_)|(show ay _ 227 _ _ _ _;refine cG [true,false] rfl (c3) ?_)|(show ay _ 218 _ _ _ _;refine cP rfl (c4) ?_)|(show ay _ 209 _ _ _ _;refine cG [true] rfl (g2) ?_)|(show ay _ 227 _ _ _ _;refine cG [true,false] rfl (c6) ?_))
  all_goals first|rfl|exact⟨rfl,trivial⟩|trivial
end
section
variable(t:ByteArray)(hz:t.size≤100000)
include hz
theorem PE(s:jQ)(f:jQ->aA × jQ)(h0:0≤s.deep)(h1:s.deep≤101)(hb:s.bad=true\/s.deep+1>100):aE prog 209 [.c (.op (iB t s))] [some [.op (iB t (gk t f s).2)]] (.a 3 (aY (gk t f s).1)):=by
 have _:=hz;unfold gk;rw[if_pos hb];refine mW ?_;obtain⟨i,d,b⟩:=s;simp only[]at h0 h1 hb⊢;refine aE.tP (?_:aE _ _ _ [some [.op [.val (.string t),J (i:Nat),J (d+1), .cb true]]] _) (.re (.op (.same (.same (.same (.cb .nil)))) .nil) .nil);cases b with
 |true=>
  refine cX func209 (h:=?_)
  repeat'((conv=>whnf);first
   |refine aI.mk ?_ ?_
   |((apply bX;constructor)<;>intro h<;>(try simp only[aa]at h)<;>(try first|omega|contradiction))
   |refine aR ?_)
  all_goals first|rfl|exact⟨rfl,trivial⟩|trivial|(exfalso;simp_all;done)
 |false=>
  have hb:d+1>100:=by simpa using hb
  refine cX func209 (h:=?_)
  repeat'((conv=>whnf);first
   |refine aI.mk ?_ ?_
   |((apply bX;constructor)<;>intro h<;>(try simp only[aa]at h)<;>(try first|omega|contradiction))
   |refine aR ?_)
  all_goals first|rfl|exact⟨rfl,trivial⟩|trivial|(exfalso;simp_all;done)
theorem Sa(i:Nat)(d:Int)(f:jQ->aA × jQ)(h0:0≤d)(h1:d+1≤100)(hi:i≤t.size)(ho:ur t ⟨i,d+1,false⟩ (f ⟨i,d+1,false⟩).1 (f ⟨i,d+1,false⟩).2 102)
 (hI:aE prog 217 [.c (.op (iB t ⟨i,d+1,false⟩))] [some [.op (iB t (f ⟨i,d+1,false⟩).2)]] (.a 3 (aY (f ⟨i,d+1,false⟩).1))):
 aE prog 209 [.c (.op (iB t ⟨i,d,false⟩))] [some [.op (iB t (gk t f ⟨i,d,false⟩).2)]] (.a 3 (aY (gk t f ⟨i,d,false⟩).1)):=by
 have _:=hi;unfold gk;rw[if_neg (by simp only[Bool.false_eq_true,false_or];omega)];simp only[];generalize f ⟨i,d+1,false⟩=A at ho hI⊢;obtain⟨e,⟨j,d2,b2⟩⟩:=A;obtain⟨g1,g2,g3,g4,g5,g6⟩:=ho;simp only[]at g1 g2 g3 g4 g5 g6 hI⊢;cases b2 with
 |true=>
  rw[if_pos rfl];obtain⟨k,n,ks⟩:=e;refine cX func209 (h:=?_)
  repeat'((conv=>whnf);first
   |refine aI.mk ?_ ?_|(show aZ 6 _ _ _ _ _ _;refine lp (Unit) [0,2,3] (fun u=>[]) (fun u=>True) (fun u=>0) () (by trivial) (fun u ha=>?_))
   |((apply bX;constructor)<;>intro h<;>(try simp only[aa]at h)<;>(try first|omega|contradiction))|(show ay _ 217 _ _ _ _;refine cG [true] rfl (hI) ?_)
   |refine aR ?_)
  all_goals first|rfl|exact⟨rfl,trivial⟩|trivial
 |false=>
  rw[if_neg (by decide)];have hp:=fun m=>mJ t hz ⟨m,d2,false⟩
  simp only[]at hp;have uo:∀(m:Nat) (x:aA),dF t m=42->eU t m x=((eU t (m+1) (.mk 8 0 [x])).1,(eU t (m+1) (.mk 8 0 [x])).2+1):=fun m x h=>CN x h
  have Yb:∀(m:Nat) (x:aA),¬dF t m=42->eU t m x=(x,0):=fun m x h=>Cf x h
  generalize hS:eU t j e=S;obtain⟨X,c⟩:=S;have fin:∀(m:Nat) (x:aA) (R:List (List CV)),R=x.kids.map aD-> ¬dF t m=42->(eU t m x).1=X->m+(eU t m x).2=j+c->aY X=[J x.kind,J x.num, .ro 3 R]/\j+c=m:=by
   intro m x R hR hm h1 h2;rw[Yb m x hm]at h1 h2;simp only[]at h1 h2;subst h1 hR;exact⟨rfl,by omega⟩
  refine cX func209 (h:=?_)
  repeat'((conv=>whnf);first
   |(show Gh _ _ _ _ _;refine Gh.Eg 5 (.ro 3 [[J x.kind,J x.num, .ro 3 R]]) rfl (Gh.soft 4 (.cc rfl) ?_))|(show aI _ _;(obtain⟨h8,h9⟩:=fin m x R ha.1 (by omega) ha.2.2.1 ha.2.2.2);rw[h8,h9];exact aI.mk rfl ⟨rfl,trivial⟩)|(show aZ 6 _ _ _ _ _ _;refine n7 (aA × List (List CV)× Nat) [0,2,3] (fun⟨x,R,m⟩=>[]) (fun⟨x,R,m⟩=>[(0, .cc 4 (iB t ⟨m,d2,false⟩)),(4, .cc 3 [J x.kind,J x.num, .ro 3 R])]) (fun⟨x,R,m⟩=>R=x.kids.map aD/\m≤t.size/\(eU t m x).1=X/\m+(eU t m x).2=j+c) (fun⟨x,R,m⟩=>t.size+1-m) (e,e.kids.map aD,j) (by exact⟨rfl,g1,by rw[hS],by rw[hS]⟩) (fun A ha=>?_);obtain⟨x,R,m⟩:=A;have ha:R=x.kids.map aD/\m≤t.size/\(eU t m x).1=X/\m+(eU t m x).2=j+c:=ha)
   |refine tD ((.mk 8 0 [x],[[J x.kind,J x.num, .ro 3 R]],m+1):aA × List (List CV)× Nat) (by exact⟨by show _=[aD x];rw[gn x,ha.1],by have:=dZ (t:=t) (i:=m) (by omega);show m+1≤_;omega,by show(eU t (m+1) (.mk 8 0 [x])).1=X;rw[<-ha.2.2.1,uo m x (by omega)],by show m+1+(eU t (m+1) (.mk 8 0 [x])).2=_;rw[<-ha.2.2.2,uo m x (by omega)];(try simp only[]);omega⟩)
   |((apply bX;constructor)<;>intro h<;>(try simp only[aa]at h)<;>(try first|omega|contradiction))|(show ay _ 217 _ _ _ _;refine cG [true] rfl (hI) ?_)|(show ay _ 218 _ _ _ _;refine cP rfl (hp m) ?_)
   |refine aR ?_)
  all_goals first|rfl|exact⟨rfl,trivial⟩|trivial
theorem He(f:jQ->aA × jQ)(d0:Int)(h0:0≤d0)(h1:d0≤100)(ho:∀s:jQ,s.bad=false->0≤s.deep->s.deep≤100->s.at_≤t.size->1≤s.deep->ur t s (f s).1 (f s).2 102)
 (hI:d0+1≤100-> ∀i,i≤t.size->aE prog 217 [.c (.op (iB t ⟨i,d0+1,false⟩))] [some [.op (iB t (f ⟨i,d0+1,false⟩).2)]] (.a 3 (aY (f ⟨i,d0+1,false⟩).1)))
 (s:jQ)(g0:0≤s.deep)(g1:s.deep≤101)(g2:s.bad=false->s.deep=d0)(g3:s.at_≤t.size):
 aE prog 209 [.c (.op (iB t s))] [some [.op (iB t (gk t f s).2)]] (.a 3 (aY (gk t f s).1)):=by
 by_cases hb:s.bad=true\/s.deep+1>100
 ·exact PE t hz s f g0 g1 hb
 ·obtain⟨i,d,b⟩:=s;simp only[not_or,Bool.not_eq_true]at hb g0 g1 g2 g3;obtain⟨rfl,hd⟩:=hb;have UD:=g2 rfl;subst UD;exact Sa t hz i d f g0 (by omega) g3 (ho ⟨i,d+1,false⟩ rfl (by simp only[];omega) (by simp only[];omega) g3 (by simp only[];omega)) (hI (by omega) i g3)
theorem Jl(n:Nat)(d:Int)(h0:0≤d)(h1:d≤100)(i:Nat)(hi:i≤t.size)
 (hN:d+1≤100->i+1≤t.size->aE prog 217 [.c (.op (iB t ⟨i+1,d+1,false⟩))] [some [.op (iB t (dG t n ⟨i+1,d+1,false⟩).2)]] (.a 3 (aY (dG t n ⟨i+1,d+1,false⟩).1)))
 (hP:dF t i=40->aE prog 222 [.c (.op (iB t ⟨i,d,false⟩))] [some [.op (iB t (ke t (gk t (dG t n)) ⟨i,d,false⟩).2)]] (.a 3 (aY (ke t (gk t (dG t n)) ⟨i,d,false⟩).1))):
 aE prog 217 [.c (.op (iB t ⟨i,d,false⟩))] [some [.op (iB t (dG t (n+1) ⟨i,d,false⟩).2)]] (.a 3 (aY (dG t (n+1) ⟨i,d,false⟩).1)):=by
 have hp:=mJ t hz ⟨i,d,false⟩;have uZ:0<dF t i->i<t.size:=fun h=>dZ h
 have Yy:i<t.size->_:=fun h=>RW t hz i d h
 rw[dG];simp only[]at hp⊢;generalize dF t i=p at hp uZ hP;by_cases g1:p=48
 ·rw[if_pos g1];subst g1;have:=uZ (by decide);refine mW ?_;refine cX func217 (h:=?_)
  repeat'((conv=>whnf);first
   |refine aI.mk ?_ ?_
   |((apply bX;constructor)<;>intro h<;>(try simp only[aa]at h)<;>(try first|omega|contradiction))|(show ay _ 218 _ _ _ _;refine cP rfl (hp) ?_)
   |refine aR ?_)
  all_goals first|rfl|exact⟨rfl,trivial⟩|trivial
 rw[if_neg g1];by_cases g2:p=49
 ·rw[if_pos g2];subst g2;have:=uZ (by decide);refine mW ?_;refine cX func217 (h:=?_)
  repeat'((conv=>whnf);first
   |refine aI.mk ?_ ?_
   |((apply bX;constructor)<;>intro h<;>(try simp only[aa]at h)<;>(try first|omega|contradiction))|(show ay _ 218 _ _ _ _;refine cP rfl (hp) ?_)
   |refine aR ?_)
  all_goals first|rfl|exact⟨rfl,trivial⟩|trivial
 rw[if_neg g2];by_cases g3:p=116\/p=97
 ·rw[if_pos g3];have:=uZ (by omega);have c:=Yy this;generalize s8 t ⟨i,d,false⟩=R at c⊢;obtain⟨⟨k,m,ks⟩,s⟩:=R;rcases g3 with rfl|rfl
  ·skip
   refine cX func217 (h:=?_)
   repeat'((conv=>whnf);first
     |refine aI.mk ?_ ?_
     |((apply bX;constructor)<;>intro h<;>(try simp only[aa]at h)<;>(try first|omega|contradiction))|(show ay _ 218 _ _ _ _;refine cP rfl (hp) ?_)|(show ay _ 221 _ _ _ _;refine cG [true] rfl (c) ?_))
   all_goals first|rfl|exact⟨rfl,trivial⟩|trivial
  ·skip
   refine cX func217 (h:=?_)
   repeat'((conv=>whnf);first
     |refine aI.mk ?_ ?_
     |((apply bX;constructor)<;>intro h<;>(try simp only[aa]at h)<;>(try first|omega|contradiction))|(show ay _ 218 _ _ _ _;refine cP rfl (hp) ?_)|(show ay _ 221 _ _ _ _;refine cG [true] rfl (c) ?_))
   all_goals first|rfl|exact⟨rfl,trivial⟩|trivial
 rw[if_neg g3];by_cases g4:p=126
 ·rw[if_pos g4];subst g4;have:=uZ (by decide);by_cases g5:d+1>100
  ·rw[if_pos g5];refine mW ?_;refine aE.tP (?_:aE _ _ _ [some [.op [.val (.string t),J ((i+1:Nat):Int),J (d+1), .cb true]]] _) (.re (.op (.same (.same (.same (.cb .nil)))) .nil) .nil);refine cX func217 (h:=?_)
   repeat'((conv=>whnf);first
     |refine aI.mk ?_ ?_
     |((apply bX;constructor)<;>intro h<;>(try simp only[aa]at h)<;>(try first|omega|contradiction))|(show ay _ 218 _ _ _ _;refine cP rfl (hp) ?_)
     |refine aR ?_)
   all_goals first|rfl|exact⟨rfl,trivial⟩|trivial
  ·rw[if_neg g5];have c:=hN (by omega) (by omega);have hb:=iH (t:=t) n ⟨i+1,d+1,false⟩ rfl (by simp only[];omega) (by simp only[];omega) (by simp only[];omega);generalize dG t n ⟨i+1,d+1,false⟩=R at c hb⊢;obtain⟨⟨k,m,ks⟩,⟨j,d2,b2⟩⟩:=R;have q1:=hb.dlo;have q2:=hb.dhi;simp only[]at q1 q2;have e:aY (.mk 5 0 [.mk k m ks])=[J 5,J 0, .ro 3 [aY (.mk k m ks)]]:=by rw[<-gn (.mk k m ks)];rfl
   rw[e];refine aE.soft (?_:aE _ _ _ _ (.a 3 [J 5,J 0, .ows 66 3 [aY (.mk k m ks)]])) (.v (.a (.same (.same (.ro .nil)))));refine cX func217 (h:=?_)
   repeat'((conv=>whnf);first
     |refine aI.mk ?_ ?_
     |((apply bX;constructor)<;>intro h<;>(try simp only[aa]at h)<;>(try first|omega|contradiction))|(show ay _ 218 _ _ _ _;refine cP rfl (hp) ?_)|(show ay _ 217 _ _ _ _;refine cG [true] rfl (c) ?_)
     |refine aR ?_)
   all_goals first|rfl|exact⟨rfl,trivial⟩|trivial
 rw[if_neg g4];by_cases g5:p=40
 ·rw[if_pos g5];have c:=hP g5;subst g5;generalize ke t (gk t (dG t n)) ⟨i,d,false⟩=R at c⊢;obtain⟨⟨k,m,ks⟩,s⟩:=R;refine cX func217 (h:=?_)
  repeat'((conv=>whnf);first
   |refine aI.mk ?_ ?_
   |((apply bX;constructor)<;>intro h<;>(try simp only[aa]at h)<;>(try first|omega|contradiction))|(show ay _ 218 _ _ _ _;refine cP rfl (hp) ?_)|(show ay _ 222 _ _ _ _;refine cG [true] rfl (c) ?_))
  all_goals first|rfl|exact⟨rfl,trivial⟩|trivial
 rw[if_neg g5];refine mW ?_;refine aE.tP (?_:aE _ _ _ [some [.op [.val (.string t),J (i:Nat),J d, .cb true]]] _) (.re (.op (.same (.same (.same (.cb .nil)))) .nil) .nil);refine cX func217 (h:=?_)
 repeat'((conv=>whnf);first
  |refine aI.mk ?_ ?_
  |((apply bX;constructor)<;>intro h<;>(try simp only[aa]at h)<;>(try first|omega|contradiction))|(show ay _ 218 _ _ _ _;refine cP rfl (hp) ?_))
 all_goals first|rfl|exact⟨rfl,trivial⟩|trivial
theorem Hx:∀(n:Nat) (d:Int),0≤d->d≤100->101≤d+n-> ∀i,i≤t.size->aE prog 217 [.c (.op (iB t ⟨i,d,false⟩))] [some [.op (iB t (dG t n ⟨i,d,false⟩).2)]] (.a 3 (aY (dG t n ⟨i,d,false⟩).1))
 |0,d,h0,h1,h2,i,hi=>by omega
 |n+1,d,h0,h1,h2,i,hi=>by
  have ih:=Hx n;refine Jl t hz n d h0 h1 i hi (fun hd h=>ih (d+1) (by omega) hd (by omega) (i+1) h) fun h40=>?_
  refine S5 t hz (gk t (dG t n)) d h0 h1 (fun s a b c e=>vT (fun s a b c e _=>iH n s a b c e) s a b c e) (fun s a b c e=>?_) i hi h40;exact He t hz (dG t n) d h0 h1 (fun s a b c e _=>iH n s a b c e) (fun hd i hi=>ih (d+1) (by omega) hd (by omega) i hi) s a b c e
theorem TQ:aE prog 209 [.c (.op (iB t ⟨0,0,false⟩))] [some [.op (iB t (mB t).2)]] (.a 3 (aY (mB t).1)):=
 He t hz (dG t 101) 0 (by decide) (by decide) (fun s a b c e _=>iH 101 s a b c e) (fun _ i hi=>Hx t hz 101 1 (by decide) (by decide) (by decide) i hi) ⟨0,0,false⟩ (by decide) (by decide) (fun _=>rfl) (ah _)
end
def kf(t a:Int)(x:ByteArray):aA × Int:=
 if x.size>4000 then(dm,2)else if okR x=true/\bz t a (mB x).1=true then((mB x).1,0)else(dm,5)
theorem HX(t a:Int)(hs:cE t a=true)(x:ByteArray):aE prog 189 [.a 2 [J t,J a],KJ x] [] (.tup [.a 3 (aY (kf t a x).1),I (kf t a x).2]):=by
 have c1:=mY t a;rw[hs]at c1;have soft:∀{f:Nat} {args:List SV} {n:Int},aE prog f args [] (.tup [.a 3 [J 0,J 0, .ows 66 3 []],I n])->aE prog f args [] (.tup [.a 3 (aY dm),I n]):=fun h=>
  h.soft (.tup (.cons (.a (.same (.same (.ro .nil)))) (.cons .same .nil)))
 unfold kf;by_cases h4:x.size>4000
 ·rw[if_pos h4];refine soft ?_;refine cX func189 (h:=?_)
  repeat'((conv=>whnf);first
   |refine aI.mk ?_ ?_
   |((apply bX;constructor)<;>intro h<;>(try simp only[aa]at h)<;>(try first|omega|contradiction))|(show ay _ 85 _ _ _ _;refine cP rfl (c1) ?_))
  all_goals first|rfl|exact⟨rfl,trivial⟩|trivial
 rw[if_neg h4];have c2:=TQ x (by omega);have hb:=B6 x;have c3:=nh t a (mB x).1 (by omega);rw[hs,gn]at c3;unfold okR;generalize mB x=R at c2 c3⊢;obtain⟨⟨k,n,ks⟩,⟨j,d,b⟩⟩:=R;simp only[Bool.true_and]at c3⊢;generalize bz t a (.mk k n ks)=g at c3⊢;cases b with
 |true=>
  rw[if_neg (by simp)];refine soft ?_;refine cX func189 (h:=?_)
  repeat'((conv=>whnf);first
   |refine aI.mk ?_ ?_
   |((apply bX;constructor)<;>intro h<;>(try simp only[aa]at h)<;>(try first|omega|contradiction))|(show ay _ 85 _ _ _ _;refine cP rfl (c1) ?_)|(show ay _ 209 _ _ _ _;refine cG [true] rfl (c2) ?_))
  all_goals first|rfl|exact⟨rfl,trivial⟩|trivial
 |false=>
  by_cases hj:j=x.size
  ·cases g with
   |true=>
    rw[if_pos ⟨by simp[hj],rfl⟩];refine cX func189 (h:=?_)
    repeat'((conv=>whnf);first
       |refine aI.mk ?_ ?_
       |((apply bX;constructor)<;>intro h<;>(try simp only[aa]at h)<;>(try first|omega|contradiction))|(show ay _ 85 _ _ _ _;refine cP rfl (c1) ?_)|(show ay _ 209 _ _ _ _;refine cG [true] rfl (c2) ?_)|(show ay _ 174 _ _ _ _;refine cP rfl (c3) ?_))
    all_goals first|rfl|exact⟨rfl,trivial⟩|trivial
   |false=>
    rw[if_neg (by simp)];refine soft ?_;refine cX func189 (h:=?_)
    repeat'((conv=>whnf);first
       |refine aI.mk ?_ ?_
       |((apply bX;constructor)<;>intro h<;>(try simp only[aa]at h)<;>(try first|omega|contradiction))|(show ay _ 85 _ _ _ _;refine cP rfl (c1) ?_)|(show ay _ 209 _ _ _ _;refine cG [true] rfl (c2) ?_)|(show ay _ 174 _ _ _ _;refine cP rfl (c3) ?_))
    all_goals first|rfl|exact⟨rfl,trivial⟩|trivial
  ·rw[if_neg (by simp[hj])];refine soft ?_;refine cX func189 (h:=?_)
   repeat'((conv=>whnf);first
        |refine aI.mk ?_ ?_
        |((apply bX;constructor)<;>intro h<;>(try simp only[aa]at h)<;>(try first|omega|contradiction))|(show ay _ 85 _ _ _ _;refine cP rfl (c1) ?_)|(show ay _ 209 _ _ _ _;refine cG [true] rfl (c2) ?_))
   all_goals first|rfl|exact⟨rfl,trivial⟩|trivial
theorem yL(b:ByteArray):b.toList=b.data.toList:=ByteArray.toList_eq b
def I3(t x:ByteArray)(i:Nat):Bool:=(t.extract i (i+x.size)).data.toList==x.data.toList
def vK(t x:ByteArray):Nat->Nat->Option Nat
 |0,_=>none
 |f+1,i=>if i+x.size≤t.size then(if I3 t x i=true then some i else vK t x f (i+1))else none
def tE(t x:ByteArray):ByteArray × ByteArray × Bool:=
 match vK t x (t.size+1) 0 with
 |some i=>(t.extract 0 i,t.extract (i+x.size) t.size,true)
 |none=>(⟨#[]⟩,⟨#[]⟩,false)
theorem TP{t x:ByteArray}{i:Nat}(h:i+x.size≤t.size)(hh:((t.extract i (i+x.size)).toList==x.toList)=true):vK t x (t.size+1-i) i=some i:=by
 rw[show t.size+1-i=(t.size-i)+1 by omega,vK,if_pos h,if_pos];unfold I3;rw[<-yL,<-yL];exact hh
theorem Vk{t x:ByteArray}{i:Nat}(h:i+x.size≤t.size)(hh:((t.extract i (i+x.size)).toList==x.toList)=false):vK t x (t.size+1-i) i=vK t x (t.size+1-(i+1)) (i+1):=by
 rw[show t.size+1-i=(t.size+1-(i+1))+1 by omega,vK,if_pos h,if_neg];unfold I3;rw[<-yL,<-yL,hh]
 decide
theorem PA{t x:ByteArray}{i:Nat}(h:¬i+x.size≤t.size):vK t x (t.size+1-i) i=none:=by
 generalize t.size+1-i=n;cases n with
 |zero=>rfl
 |succ n=>rw[vK,if_neg h]
theorem MG(t x:ByteArray)(h1:t.size≤1000000000)(h2:x.size≤1000000000):aS prog 220 [KJ t,KJ x] (.tup [KJ (tE t x).1,KJ (tE t x).2.1,B (tE t x).2.2]):=by
 obtain⟨R,hR⟩:∃R,tE t x=R:=⟨_,rfl⟩
 rw[hR];have hs:∀i,vK t x (t.size+1) 0=some i->R=(t.extract 0 i,t.extract (i+x.size) t.size,true):=fun i h=>by
  rw[<-hR];unfold tE;rw[h]
 have hn:vK t x (t.size+1) 0=none->R=(⟨#[]⟩,⟨#[]⟩,false):=fun h=>by
  rw[<-hR];unfold tE;rw[h]
 refine cF func220 (h:=?_)
 repeat'((conv=>whnf);first
  |(apply bP.mk;first|((rw[hs i (by rw[<-ha.2];exact TP (by omega) (by assumption))];rfl);done)|((rw[hn (by rw[<-ha.2];exact PA (by omega))];rfl);done)|skip)|(show aZ 2 _ _ _ _ _ _;refine lp (Nat) [0,1] (fun i=>[(7,I (i:Nat))]) (fun i=>i≤t.size+1/\vK t x (t.size+1-i) i=vK t x (t.size+1) 0) (fun i=>t.size+1-i) 0 (by exact⟨ah _,rfl⟩) (fun i ha=>?_))
  |refine nx (i+1:Nat) (by exact⟨by show i+1≤_;omega,by show vK t x (t.size+1-(i+1)) (i+1)=_;rw[<-ha.2];exact(Vk (by omega) (by assumption)).symm⟩)
  |((apply bX;constructor)<;>intro h<;>(try simp only[aa]at h)<;>(try first|omega|contradiction))
  |refine aR ?_
  |refine nB ?_|(show bh _ _;refine bh.mk (by first|((refine⟨?_,?_,?_⟩<;>omega))|fail) ?_))
 all_goals first|rfl|trivial
theorem Ru(t x:ByteArray):(tE t x).1.size≤t.size/\(tE t x).2.1.size≤t.size:=by
 unfold tE;split
 ·simp only[ByteArray.size_extract];omega
 ·exact⟨ah _,ah _⟩
def AH(t a:Int)(x:ByteArray):b7 × Bool:=
 if(tE x ⟨#[32,61,32]⟩).2.2=true then(⟨(kf t a (tE x ⟨#[32,61,32]⟩).1).1,(kf t a (tE x ⟨#[32,61,32]⟩).2.1).1⟩,decide ((kf t a (tE x ⟨#[32,61,32]⟩).1).2=0)&&decide ((kf t a (tE x ⟨#[32,61,32]⟩).2.1).2=0))
 else(⟨dm,dm⟩,false)
theorem z6(t a:Int)(hs:cE t a=true)(x:ByteArray)(hx:x.size≤1000000):aE prog 212 [.a 2 [J t,J a],KJ x] [] (.tup [.a 6 (bm (AH t a x).1),B (AH t a x).2]):=by
 have c1:=MG x ⟨#[32,61,32]⟩ (by omega) (by decide);have gC:=Ru x ⟨#[32,61,32]⟩;have c2:=fun y=>HX t a hs y
 unfold AH;generalize tE x ⟨#[32,61,32]⟩=R at c1 gC⊢;obtain⟨l,r,b⟩:=R;simp only[]at c1 gC⊢;have c3:=c2 l;have c4:=c2 r;generalize kf t a l=L at c3⊢;generalize kf t a r=Q at c4⊢;obtain⟨⟨k1,n1,s1⟩,d1⟩:=L;obtain⟨⟨k2,n2,s2⟩,d2⟩:=Q;cases b with
 |true=>
  rw[if_pos rfl];simp only[];obtain⟨b1,kg⟩:∃b1:Bool,(d1==0)=b1:=⟨_,rfl⟩
  have e1:decide (d1=0)=(d1==0):=rfl;have e2:decide (d2=0)=(d2==0):=rfl;rw[e1,e2];by_cases h1:d1=0
  ·have:(d1==0)=true:=by simp[h1]
   rw[this];refine cX func212 (h:=?_)
   repeat'((conv=>whnf);first
        |refine aI.mk ?_ ?_
        |((apply bX;constructor)<;>intro h<;>(try simp only[aa]at h)<;>(try first|omega|contradiction))|(show ay _ 220 _ _ _ _;refine cP rfl (c1) ?_)|(show ay _ 189 _ _ _ _;refine cG [] rfl (c3) ?_)|(show ay _ 189 _ _ _ _;refine cG [] rfl (c4) ?_))
   all_goals first|rfl|trivial|(exfalso;simp_all;done)
  ·have:(d1==0)=false:=by simp[h1]
   rw[this];refine cX func212 (h:=?_)
   repeat'((conv=>whnf);first
        |refine aI.mk ?_ ?_
        |((apply bX;constructor)<;>intro h<;>(try simp only[aa]at h)<;>(try first|omega|contradiction))|(show ay _ 220 _ _ _ _;refine cP rfl (c1) ?_)|(show ay _ 189 _ _ _ _;refine cG [] rfl (c3) ?_)|(show ay _ 189 _ _ _ _;refine cG [] rfl (c4) ?_))
   all_goals first|rfl|trivial|(exfalso;simp_all;done)
 |false=>
  rw[if_neg (by decide)];refine aE.soft (?_:aE _ _ _ _ (.tup [.a 6 [J 0,J 0, .ows 66 3 [],J 0,J 0, .ows 66 3 []],B false])) (.tup (.cons (.a (.same (.same (.ro (.same (.same (.ro .nil))))))) (.cons .same .nil)));refine cX func212 (h:=?_)
  repeat'((conv=>whnf);first
   |refine aI.mk ?_ ?_
   |((apply bX;constructor)<;>intro h<;>(try simp only[aa]at h)<;>(try first|omega|contradiction))|(show ay _ 220 _ _ _ _;refine cP rfl (c1) ?_))
  all_goals first|rfl|trivial
def Lz:List ByteArray:=[
 ⟨#[40,97,48,32,43,32,40,97,49,32,43,32,97,50,41,41,32,61,32,40,40,97,48,32,43,32,97,49,41,32,43,32,97,50,41]⟩,
 ⟨#[40,97,48,32,43,32,97,49,41,32,61,32,40,97,49,32,43,32,97,48,41]⟩,
 ⟨#[40,97,48,32,43,32,48,41,32,61,32,97,48]⟩,
 ⟨#[40,97,48,32,43,32,97,48,41,32,61,32,97,48]⟩,
 ⟨#[40,97,48,32,40,97,49,32,97,50,41,41,32,61,32,40,40,97,48,32,97,49,41,32,97,50,41]⟩,
 ⟨#[40,49,32,97,48,41,32,61,32,97,48]⟩,
 ⟨#[40,97,48,32,49,41,32,61,32,97,48]⟩,
 ⟨#[40,97,48,32,40,97,49,32,43,32,97,50,41,41,32,61,32,40,40,97,48,32,97,49,41,32,43,32,40,97,48,32,97,50,41,41]⟩,
 ⟨#[40,40,97,48,32,43,32,97,49,41,32,97,50,41,32,61,32,40,40,97,48,32,97,50,41,32,43,32,40,97,49,32,97,50,41,41]⟩,
 ⟨#[40,48,32,97,48,41,32,61,32,48]⟩,
 ⟨#[40,97,48,32,48,41,32,61,32,48]⟩,
 ⟨#[40,49,32,43,32,40,97,48,32,97,48,42,41,41,32,61,32,97,48,42]⟩,
 ⟨#[40,49,32,43,32,40,97,48,42,32,97,48,41,41,32,61,32,97,48,42]⟩,
 ⟨#[40,116,48,32,116,48,41,32,61,32,116,48]⟩,
 ⟨#[40,116,48,32,116,49,41,32,61,32,40,116,49,32,116,48,41]⟩,
 ⟨#[40,116,48,32,43,32,126,116,48,41,32,61,32,49]⟩,
 ⟨#[40,116,48,32,126,116,48,41,32,61,32,48]⟩,
 ⟨#[126,126,116,48,32,61,32,116,48]⟩,
 ⟨#[126,40,116,48,32,43,32,116,49,41,32,61,32,40,126,116,48,32,126,116,49,41]⟩,
 ⟨#[126,40,116,48,32,116,49,41,32,61,32,40,126,116,48,32,43,32,126,116,49,41]⟩,
 ⟨#[126,48,32,61,32,49]⟩,
 ⟨#[126,49,32,61,32,48]⟩,
 ⟨#[40,116,48,32,43,32,49,41,32,61,32,49]⟩,
 ⟨#[40,40,116,48,32,43,32,116,49,41,32,40,116,48,32,43,32,116,50,41,41,32,61,32,40,116,48,32,43,32,40,116,49,32,116,50,41,41]⟩]
theorem Rf:∀x∈Lz,x.size≤1000000:=by decide
abbrev eS(x:ByteArray):List CV:=[.val (.string x)]
theorem Iq:aE prog 202 [] [] (.c (.ows 9 1 (Lz.map eS))):=by
 refine cX func202 (h:=?_)
 repeat'((conv=>whnf);first
  |refine aI.mk ?_ ?_)
 all_goals first|rfl|trivial
theorem zj:aE prog 213 [] [] (.a 2 [J 3,J 4]):=by
 refine cX func213 (h:=?_)
 repeat'((conv=>whnf);first
  |refine aI.mk ?_ ?_)
 all_goals first|rfl|trivial
def jO:List b7:=Lz.map fun x=>(AH 3 4 x).1
theorem LU:Lz.length=24:=rfl
theorem yJ:jO.length=24:=rfl
theorem Gl:cE 3 4=true:=rfl
theorem Q8{i:Nat}(h:i<24):(Lz.getD i ⟨#[]⟩).size≤1000000:=by
 rw[getD_eq (show i<Lz.length from h)];exact Rf _ (ag _)
abbrev U4:b7:=⟨dm,dm⟩
theorem Rr{i:Nat}(h:i<24):jO.getD i U4=(AH 3 4 (Lz.getD i ⟨#[]⟩)).1:=by
 rw[getD_eq (show i<jO.length from h),getD_eq (show i<Lz.length from h)];unfold jO;rw[List.getElem_map]
theorem OP{i:Nat}(h:i<24):(jO.take i).map bm++[bm (jO.getD i U4)]=(jO.take (i+1)).map bm:=by
 rw[List.take_add_one,List.getElem?_eq_getElem (show i<jO.length from h),getD_eq (show i<jO.length from h),au];rfl
theorem Mn:aE prog 210 [] [] (.c (.ows 68 6 (jO.map bm))):=by
 have c1:=Iq;have c3:∀i,i<24->aE prog 212 [.a 2 [J 3,J 4],KJ (Lz.getD i ⟨#[]⟩)] [] (.tup [.a 6 (bm (jO.getD i U4)),B (AH 3 4 (Lz.getD i ⟨#[]⟩)).2]):=fun i h=>by
  rw[Rr h];exact z6 3 4 Gl _ (Q8 h)
 have hl:=LU;have hq:=yJ;have hn:=fun i h=>OP (i:=i) h
 generalize Lz=A at c1 c3 hl;generalize jO=Q at c3 hq hn⊢;have fin:Q.map bm=(Q.take 24).map bm:=by rw[ar (by omega)]
 rw[fin];refine cX func210 (h:=?_)
 repeat'((conv=>whnf);first
  |refine aI.mk ?_ ?_|(show aZ 4 _ _ _ _ _ _;refine qJ (List (List CV)× Nat) [1] (fun⟨rows,i⟩=>[(2, .lw 2),(3,I (i:Nat))]) (fun⟨rows,i⟩=>[(2, .row none 68 6 rows)]) (fun⟨rows,i⟩=>i≤24/\rows=(Q.take i).map bm/\rows.length≤24) (fun⟨rows,i⟩=>24-i) ([],0) (by exact⟨ah _,by simp,ah _⟩) (fun A ha=>?_);obtain⟨rows,i⟩:=A;have ha:i≤24/\rows=(Q.take i).map bm/\rows.length≤24:=ha)
  |refine nx ((rows++[bm (Q.getD i U4)],i+1):List (List CV)× Nat) (by exact⟨by show i+1≤24;omega,by show rows++_=_;rw[ha.2.1];exact hn i (by omega),by show(rows++_).length≤24;rw[ai,ha.2.1,aa,aq];simp only[List.length_cons,List.length_nil];omega⟩)
  |(apply Fact.mk;intro hL;try simp only[aa,maxLen]at hL)
  |((apply bX;constructor)<;>intro h<;>(try simp only[aa]at h)<;>(try first|omega|contradiction))|(show ay _ 202 _ _ _ _;refine cG [] rfl (c1) ?_)|(show ay _ 213 _ _ _ _;refine cG [] rfl (zj) ?_)|(show ay _ 212 _ _ _ _;refine cG [] rfl (c3 i (by omega)) ?_)
  |refine aR ?_|(show Index _ _ _;first|(refine Index.mk _ (aN (d:=⟨#[]⟩) (i:=i) (by omega)) ?_)|fail)
  |refine nB ?_|(show bh _ _;refine bh.mk (by first|((simp only[List.length_cons,List.length_nil,maxLen];constructor<;>omega))|fail) ?_)
  |refine nO ?_)
 all_goals first|rfl|trivial|((have h9:=ha.2.1);(have h8:i=24:=by have:=ha.1;omega);rw[h8]at h9;rw[h9];done)
theorem Og(p:cY)(k use:Int)(h0:0≤use)(h1:use≤23):aE prog 196 [.c (.rp 3 (dk p)),I k,I use] [] (.tup [.a 6 (bm (kW jO p k use).1),B (kW jO p k use).2]):=by
 have c1:=Iq;have e:kW jO p k use=(jO.getD use.toNat U4,true):=if_pos h0;rw[e];have c3:aE prog 212 [.a 2 [J 3,J 4],KJ (Lz.getD use.toNat ⟨#[]⟩)] [] (.tup [.a 6 (bm (jO.getD use.toNat U4)),B (AH 3 4 (Lz.getD use.toNat ⟨#[]⟩)).2]):=by
  rw[Rr (by omega)];exact z6 3 4 Gl _ (Q8 (by omega))
 have hl:=LU;generalize Lz=A at c1 c3 hl;generalize jO.getD use.toNat U4=q at c3⊢;refine cX func196 (h:=?_)
 repeat'((conv=>whnf);first
  |refine aI.mk ?_ ?_
  |((apply bX;constructor)<;>intro h<;>(try simp only[aa]at h)<;>(try first|omega|contradiction))|(show ay _ 202 _ _ _ _;refine cG [] rfl (c1) ?_)|(show ay _ 213 _ _ _ _;refine cG [] rfl (zj) ?_)|(show ay _ 212 _ _ _ _;refine cG [] rfl (c3) ?_)|(show Index _ _ _;first|(refine Index.mk _ (aN (d:=⟨#[]⟩) (i:=use.toNat) (by omega)) ?_)|fail)|(show bh _ _;refine bh.mk (by first|((simp only[aa];constructor<;>omega))|fail) ?_))
 all_goals first|rfl|trivial
theorem O1(p:cY)(k use:Int)(h0:use<0)(h1: -1000000≤use)(hk:k≤1000000):aE prog 196 [.c (.rp 3 (dk p)),I k,I use] [] (.tup [.a 6 (bm (kW jO p k use).1),B (kW jO p k use).2]):=by
 obtain⟨R,hR⟩:∃R,kW jO p k use=R:=⟨_,rfl⟩
 rw[hR];unfold kW at hR;rw[if_neg (by omega)]at hR;have soft:∀{f:Nat} {args:List SV},aE prog f args [] (.tup [.a 6 [J 0,J 0, .ows 66 3 [],J 0,J 0, .ows 66 3 []],B false])->aE prog f args [] (.tup [.a 6 (bm ⟨dm,dm⟩),B false]):=fun h=>
  h.soft (.tup (.cons (.a (.same (.same (.ro (.same (.same (.ro .nil))))))) (.cons .same .nil)))
 by_cases h2: -1-use≥k
 ·rw[if_pos h2]at hR;subst hR;refine soft ?_;refine cX func196 (h:=?_)
  repeat'((conv=>whnf);first
   |refine aI.mk ?_ ?_
   |((apply bX;constructor)<;>intro h<;>(try simp only[aa]at h)<;>(try first|omega|contradiction))
   |refine aR ?_)
  all_goals first|rfl|trivial
 rw[if_neg h2]at hR;by_cases h3: -1-use≥(p.aG.length:Nat)
 ·rw[if_pos h3]at hR;subst hR;refine soft ?_;refine cX func196 (h:=?_)
  repeat'((conv=>whnf);first
   |refine aI.mk ?_ ?_
   |(apply Fact.mk;intro hL;try simp only[aa,maxLen]at hL)
   |((apply bX;constructor)<;>intro h<;>(try simp only[aa]at h)<;>(try first|omega|contradiction))
   |refine aR ?_)
  all_goals first|rfl|trivial
 rw[if_neg h3]at hR;subst hR;refine cX func196 (h:=?_)
 repeat'((conv=>whnf);first
  |refine aI.mk ?_ ?_
  |(apply Fact.mk;intro hL;try simp only[aa,maxLen]at hL)
  |((apply bX;constructor)<;>intro h<;>(try simp only[aa]at h)<;>(try first|omega|contradiction))
  |refine aR ?_|(show Index _ _ _;first|(refine Index.mk _ (aN (d:=⟨dm,dm,0,0,[]⟩) (i:=(-1-use).toNat) (by omega)) ?_)|fail)
  |refine nB ?_
  |refine nO ?_)
 all_goals first|rfl|trivial
mutual
def mN:aA->Bool
 | .mk _ n ks=>decide (0≤n/\n≤3)&&r8 ks
def r8:List aA->Bool
 |[]=>true
 |x::xs=>mN x&&r8 xs
end
theorem zB:∀{l:List aA} {x:aA},x∈l->r8 l=true->mN x=true
 |y::l,x,h,hl=>by
  simp only[r8,ab]at hl;rcases List.mem_cons.1 h with rfl|h
  ·exact hl.1
  ·exact zB h hl.2
theorem m8{t a:Int}(ht:t≤3)(ha:a≤4){e:aA}(h:Tree t a e):mN e=true:=by
 induction h with
 |zero=>rfl
 |one=>rfl
 |test h0 h1=>simp only[mN,r8,Bool.and_true,decide_eq_true_eq];omega
 |act h0 h1=>simp only[mN,r8,Bool.and_true,decide_eq_true_eq];omega
 |not hc h ih=>simp[mN,r8,ih]
 |sum hx hy vr ih2=>simp[mN,r8,vr,ih2]
 |dot hx hy vr ih2=>simp[mN,r8,vr,ih2]
 |star hx ih=>simp[mN,r8,ih]
theorem dU{t a:Int}{e:aA}(h:bz t a e=true):aH e≤200:=by
 unfold bz at h;simp only[ab,decide_eq_true_eq]at h;have h2:=((pg e).1 200).1 h.1;unfold dw at h2;omega
mutual
theorem D8(k:Int):∀(e:aA) (m:Int),mN e=true->0≤m->m≤4->0≤dM k e m/\dM k e m≤4
 | .mk kd n ks,m,h,h0,h1=>by
   simp only[mN,ab,decide_eq_true_eq]at h;rw[dM];refine yP k ks _ h.2 ?_ ?_<;>unfold yD<;>(repeat' split)<;>omega
theorem yP(k:Int):∀(l:List aA) (m:Int),r8 l=true->0≤m->m≤4->0≤fS k l m/\fS k l m≤4
 |[],m,_,h0,h1=>⟨h0,h1⟩
 |x::xs,m,h,h0,h1=>by
  simp only[r8,ab]at h;rw[fS];have:=D8 k x m h.1 h0 h1;exact yP k xs _ h.2 this.1 this.2
end
theorem Lm(e:aA):mN e=(decide (0≤e.num/\e.num≤3)&&r8 e.kids):=by
 cases e;rw[mN];rfl
theorem w7:∀{l:List aA} (i:Nat),r8 l=true->r8 (l.take i)=true
 |[],i,_=>by simp[r8]
 |x::xs,0,_=>rfl
 |x::xs,i+1,h=>by
  simp only[r8,ab,List.take_succ_cons]at h⊢;exact⟨h.1,w7 i h.2⟩
theorem K1(a b:Int):aS prog 77 [I a,I b] (I (yD a b)):=by
 unfold yD;refine cF func77 (h:=?_)
 repeat'((conv=>whnf);first
  |apply bP.mk
  |((apply bX;constructor)<;>intro h<;>(try simp only[aa]at h)<;>(try first|omega|contradiction)))
 all_goals first|(rw[if_pos (by assumption)];rfl)|(rw[if_neg (by assumption)];rfl)|rfl|trivial
theorem JW(e:aA)(hl:mN e=true)(hx:∀x∈e.kids,∀m n:Int,0≤m->m≤4->0≤n->n≤4->aE prog 208 [.c (.rp 3 (aD x)), .c (.op [J m]), .c (.op [J n])] [none,some [.op [J (dM 3 x m)]],some [.op [J (dM 4 x n)]]] (.tup [])):
 ∀m n:Int,0≤m->m≤4->0≤n->n≤4->aE prog 208 [.c (.rp 3 (aY e)), .c (.op [J m]), .c (.op [J n])] [none,some [.op [J (dM 3 e m)]],some [.op [J (dM 4 e n)]]] (.tup []):=by
 intro m n m0 m1 n0 n1;obtain⟨k,d,ks⟩:=e;rw[mN,ab,decide_eq_true_eq]at hl;rw[dM,dM];simp only[aA.kids]at hx;have e0:aY (.mk k d ks)=[J k,J d, .ro 3 (ks.map aD)]:=rfl;rw[e0];obtain⟨M,hM⟩:∃M,(if k=3 then yD m (d+1)else m)=M:=⟨_,rfl⟩
 obtain⟨N,hN⟩:∃N,(if k=4 then yD n (d+1)else n)=N:=⟨_,rfl⟩
 have hMb:0≤M/\M≤4:=by rw[<-hM];unfold yD;(repeat' split)<;>omega
 have hNb:0≤N/\N≤4:=by rw[<-hN];unfold yD;(repeat' split)<;>omega
 have b3:=fun i=>yP 3 (ks.take i) M (w7 i hl.2) hMb.1 hMb.2
 have b4:=fun i=>yP 4 (ks.take i) N (w7 i hl.2) hNb.1 hNb.2
 rw[hM,hN];have cm:=K1 m (d+1);have cn:=K1 n (d+1);have abD:fS 3 (ks.take ks.length) M=fS 3 ks M:=by rw[List.take_length]
 have aaw:fS 4 (ks.take ks.length) N=fS 4 ks N:=by rw[List.take_length]
 rw[<-abD,<-aaw];by_cases h3:k=3
 ·subst h3;rw[if_pos rfl]at hM;rw[if_neg (by decide)]at hN;rw[hM]at cm;subst hN;refine cX func208 (h:=?_)
  repeat'((conv=>whnf);first
   |(show aI _ _;(obtain rfl:i=ks.length:=(by have:=ha.1;omega));rw[<-ha.2.1,<-ha.2.2];exact aI.mk rfl ⟨rfl,rfl,trivial⟩)|(show aZ 5 _ _ _ _ _ _;refine n7 (Nat × Int × Int) [0,1,2] (fun⟨i,p,q⟩=>[(6,I (i:Nat))]) (fun⟨i,p,q⟩=>[(0, .cc 1 [J p]),(1, .cc 1 [J q])]) (fun⟨i,p,q⟩=>i≤ks.length/\p=fS 3 (ks.take i) M/\q=fS 4 (ks.take i) n) (fun⟨i,p,q⟩=>ks.length-i) (0,M,n) (by exact⟨ah _,by simp[fS],by simp[fS]⟩) (fun A ha=>?_);obtain⟨i,p,q⟩:=A;have ha:i≤ks.length/\p=fS 3 (ks.take i) M/\q=fS 4 (ks.take i) n:=ha;have h3i:=b3 i;have h4i:=b4 i)
   |refine tD ((i+1,dM 3 ks[i] p,dM 4 ks[i] q):Nat × Int × Int) (by exact⟨by show i+1≤_;omega,by show _=fS 3 (ks.take (i+1)) M;rw[lT (by omega),<-ha.2.1],by show _=fS 4 (ks.take (i+1)) n;rw[lT (by omega),<-ha.2.2]⟩)
   |(apply Fact.mk;intro hL;try simp only[aa,maxLen]at hL)
   |((apply bX;constructor)<;>intro h<;>(try simp only[aa]at h)<;>(try first|omega|contradiction))|(show ay _ 77 _ _ _ _;refine cP rfl (cm) ?_)|(show ay _ 208 _ _ _ _;refine cG [false,true,true] rfl (hx ks[i] (ag (by omega)) p q (by omega) (by omega) (by omega) (by omega)) ?_)
   |refine aR ?_|(show Index _ _ _;first|(refine Index.mk _ (bZ (i:=i) (by omega)) ?_)|fail)
   |refine nB ?_
   |refine nO ?_)
  all_goals first|rfl|trivial
 rw[if_neg h3]at hM;subst hM;by_cases h4:k=4
 ·subst h4;rw[if_pos rfl]at hN;rw[hN]at cn;refine cX func208 (h:=?_)
  repeat'((conv=>whnf);first
   |(show aI _ _;(obtain rfl:i=ks.length:=(by have:=ha.1;omega));rw[<-ha.2.1,<-ha.2.2];exact aI.mk rfl ⟨rfl,rfl,trivial⟩)|(show aZ 5 _ _ _ _ _ _;refine n7 (Nat × Int × Int) [0,1,2] (fun⟨i,p,q⟩=>[(6,I (i:Nat))]) (fun⟨i,p,q⟩=>[(0, .cc 1 [J p]),(1, .cc 1 [J q])]) (fun⟨i,p,q⟩=>i≤ks.length/\p=fS 3 (ks.take i) m/\q=fS 4 (ks.take i) N) (fun⟨i,p,q⟩=>ks.length-i) (0,m,N) (by exact⟨ah _,by simp[fS],by simp[fS]⟩) (fun A ha=>?_);obtain⟨i,p,q⟩:=A;have ha:i≤ks.length/\p=fS 3 (ks.take i) m/\q=fS 4 (ks.take i) N:=ha;have h3i:=b3 i;have h4i:=b4 i)
   |refine tD ((i+1,dM 3 ks[i] p,dM 4 ks[i] q):Nat × Int × Int) (by exact⟨by show i+1≤_;omega,by show _=fS 3 (ks.take (i+1)) m;rw[lT (by omega),<-ha.2.1],by show _=fS 4 (ks.take (i+1)) N;rw[lT (by omega),<-ha.2.2]⟩)
   |(apply Fact.mk;intro hL;try simp only[aa,maxLen]at hL)
   |((apply bX;constructor)<;>intro h<;>(try simp only[aa]at h)<;>(try first|omega|contradiction))|(show ay _ 77 _ _ _ _;refine cP rfl (cn) ?_)|(show ay _ 208 _ _ _ _;refine cG [false,true,true] rfl (hx ks[i] (ag (by omega)) p q (by omega) (by omega) (by omega) (by omega)) ?_)
   |refine aR ?_|(show Index _ _ _;first|(refine Index.mk _ (bZ (i:=i) (by omega)) ?_)|fail)
   |refine nB ?_
   |refine nO ?_)
  all_goals first|rfl|trivial
 rw[if_neg h4]at hN;subst hN;refine cX func208 (h:=?_)
 repeat'((conv=>whnf);first
  |(show aI _ _;(obtain rfl:i=ks.length:=(by have:=ha.1;omega));rw[<-ha.2.1,<-ha.2.2];exact aI.mk rfl ⟨rfl,rfl,trivial⟩)|(show aZ 5 _ _ _ _ _ _;refine n7 (Nat × Int × Int) [0,1,2] (fun⟨i,p,q⟩=>[(6,I (i:Nat))]) (fun⟨i,p,q⟩=>[(0, .cc 1 [J p]),(1, .cc 1 [J q])]) (fun⟨i,p,q⟩=>i≤ks.length/\p=fS 3 (ks.take i) m/\q=fS 4 (ks.take i) n) (fun⟨i,p,q⟩=>ks.length-i) (0,m,n) (by exact⟨ah _,by simp[fS],by simp[fS]⟩) (fun A ha=>?_);obtain⟨i,p,q⟩:=A;have ha:i≤ks.length/\p=fS 3 (ks.take i) m/\q=fS 4 (ks.take i) n:=ha;have h3i:=b3 i;have h4i:=b4 i)
  |refine tD ((i+1,dM 3 ks[i] p,dM 4 ks[i] q):Nat × Int × Int) (by exact⟨by show i+1≤_;omega,by show _=fS 3 (ks.take (i+1)) m;rw[lT (by omega),<-ha.2.1],by show _=fS 4 (ks.take (i+1)) n;rw[lT (by omega),<-ha.2.2]⟩)
  |(apply Fact.mk;intro hL;try simp only[aa,maxLen]at hL)
  |((apply bX;constructor)<;>intro h<;>(try simp only[aa]at h)<;>(try first|omega|contradiction))|(show ay _ 208 _ _ _ _;refine cG [false,true,true] rfl (hx ks[i] (ag (by omega)) p q (by omega) (by omega) (by omega) (by omega)) ?_)
  |refine aR ?_|(show Index _ _ _;first|(refine Index.mk _ (bZ (i:=i) (by omega)) ?_)|fail)
  |refine nO ?_)
 all_goals first|rfl|trivial
theorem lI(e:aA)(hl:mN e=true)(m n:Int)(m0:0≤m)(m1:m≤4)(n0:0≤n)(n1:n≤4):aE prog 208 [.c (.rp 3 (aD e)), .c (.op [J m]), .c (.op [J n])] [none,some [.op [J (dM 3 e m)]],some [.op [J (dM 4 e n)]]] (.tup []):=by
 rw[bK];exact JW e hl (fun x vu m n a b c d=>lI x (zB vu (by rw[Lm,ab]at hl;exact hl.2)) m n a b c d) m n m0 m1 n0 n1
 termination_by SizeOf.sizeOf e
 decreasing_by
  have:=List.sizeOf_lt_of_mem vu;cases e;simp only[aA.mk.sizeOf_spec];show SizeOf.sizeOf x<_;simp only[aA.kids]at this;omega
theorem z8(q:b7)(h1:mN q.left=true)(h2:mN q.right=true):aS prog 187 [.c (.rp 6 (bm q))] (.tup [I (mz q),I (qB q)]):=by
 have c1:=lI q.left h1 0 0 (by decide) (by decide) (by decide) (by decide);have a3:=D8 3 q.left 0 h1 (by decide) (by decide);have a4:=D8 4 q.left 0 h1 (by decide) (by decide);have c2:=lI q.right h2 _ _ a3.1 a3.2 a4.1 a4.2;unfold mz qB;rw[gn]at c1 c2;generalize dM 3 q.left 0=m at*;generalize dM 4 q.left 0=n at*;generalize dM 3 q.right m=p at*;generalize dM 4 q.right n=r at*;have c1:=c1.cut (.cut (k:=3) (sz:=6) (cs:=bm q) (by decide) (.same (.same .nil)));refine cF func187 (h:=?_)
 repeat'((conv=>whnf);first
  |apply bP.mk|(show ay _ 208 _ _ _ _;refine cG [false,true,true] rfl (c1) ?_)|(show ay _ 208 _ _ _ _;refine cG [false,true,true] rfl (c2) ?_)
  |refine nB ?_)
 all_goals first|rfl|trivial
theorem HG{ts us:List aA}(h1:∀x∈ts,aH x≤200)(h2:∀x∈us,aH x≤200):∀(l:List aA) (m:Int),m-201*bd l≤(jl ts us l m).2/\(jl ts us l m).2≤m
 |[],m=>by simp only[jl,bd];omega
 |x::xs,m=>by
  have hx:=nP h1 h2 x m;have qC:=HG h1 h2 xs (lM ts us x m).2;simp only[jl,bd,jj]at hx qC⊢;omega
end Go.Proofs.YtgbggaddpbghfaaGreat
