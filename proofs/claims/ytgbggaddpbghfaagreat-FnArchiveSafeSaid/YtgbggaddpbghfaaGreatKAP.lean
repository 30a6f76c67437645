/- Contracts of the reference's reader of expressions: what is read owns its memory. Conditions: bounds of size. -/
import Derived.Test.YtgbggaddpbghfaaGreatKAO
namespace Go.Proofs.YtgbggaddpbghfaaGreat
open Go Go.KA Go.Proofs Go.Proofs.Tryz
set_option maxHeartbeats 16000000
set_option maxRecDepth 100000
section
variable(t:ByteArray)(hz:t.size≤100000)
include hz
theorem WJ(i:Nat)(d:Int)(hi:i<t.size):aE prog 221 [.c (.op (iB t ⟨i,d,false⟩))] [some [.op (iB t (s8 t ⟨i,d,false⟩).2)]] (.a 3 (cC (s8 t ⟨i,d,false⟩).1)):=by
 have hp:=fun j=>mJ t hz ⟨j,d,false⟩
 have hn:=fun j=>vH (t.extract (i+1) j)
 have hd:=IN (t:=t) (i:=i+1) (by omega);simp only[s8,Bool.false_or];refine eA ?_;obtain⟨k,hk⟩:∃k:Int,(if dF t i=97 then(4:Int)else 3)=k:=⟨_,rfl⟩
 rw[hk];simp only[]at hp;have xA:=hp i;generalize dF t i=p0 at xA hk;by_cases h97:p0=97
 ·rw[if_pos h97]at hk;subst h97 hk;refine cX func221 (h:=?_)
  repeat'((conv=>whnf);first
   |(show aI _ _;(obtain rfl:j=eJ t (i+1):=(by have:=vJ (t:=t) (i:=j) (by omega);omega));exact aI.mk rfl ⟨rfl,trivial⟩)|(show aZ 6 _ _ _ _ _ _;refine n7 (Nat) [0,2,3,4] (fun j=>[]) (fun j=>[(0, .cc 4 (iB t ⟨j,d,false⟩))]) (fun j=>i+1≤j/\j≤t.size/\eJ t j=eJ t (i+1)) (fun j=>t.size+1-j) (i+1) (by exact⟨aw _,by omega,rfl⟩) (fun j ha=>?_))
   |refine tD (j+1:Nat) (by exact⟨by show i+1≤j+1;omega,by have:=dZ (t:=t) (i:=j) (by omega);show j+1≤_;omega,by show eJ t (j+1)=_;rw[<-ha.2.2];exact(uX (by omega) (by omega)).symm⟩)
   |((apply bX;constructor)<;>intro h<;>(try simp only[]at h)<;>(try first|omega|contradiction))|(show ay _ 218 _ _ _ _;refine cP rfl (xA) ?_)|(show ay _ 218 _ _ _ _;refine cP rfl (hp j) ?_)|(show ay _ 226 _ _ _ _;refine cP rfl (hn j) ?_)
   |refine aR ?_
   |refine nB ?_
   |refine nO ?_)
  all_goals first|rfl|exact⟨rfl,trivial⟩|trivial
 ·rw[if_neg h97]at hk;subst hk;refine cX func221 (h:=?_)
  repeat'((conv=>whnf);first
   |(show aI _ _;(obtain rfl:j=eJ t (i+1):=(by have:=vJ (t:=t) (i:=j) (by omega);omega));exact aI.mk rfl ⟨rfl,trivial⟩)|(show aZ 6 _ _ _ _ _ _;refine n7 (Nat) [0,2,3,4] (fun j=>[]) (fun j=>[(0, .cc 4 (iB t ⟨j,d,false⟩))]) (fun j=>i+1≤j/\j≤t.size/\eJ t j=eJ t (i+1)) (fun j=>t.size+1-j) (i+1) (by exact⟨aw _,by omega,rfl⟩) (fun j ha=>?_))
   |refine tD (j+1:Nat) (by exact⟨by show i+1≤j+1;omega,by have:=dZ (t:=t) (i:=j) (by omega);show j+1≤_;omega,by show eJ t (j+1)=_;rw[<-ha.2.2];exact(uX (by omega) (by omega)).symm⟩)
   |((apply bX;constructor)<;>intro h<;>(try simp only[]at h)<;>(try first|omega|contradiction))|(show ay _ 218 _ _ _ _;refine cP rfl (xA) ?_)|(show ay _ 218 _ _ _ _;refine cP rfl (hp j) ?_)|(show ay _ 226 _ _ _ _;refine cP rfl (hn j) ?_)
   |refine aR ?_
   |refine nB ?_
   |refine nO ?_)
  all_goals first|rfl|exact⟨rfl,trivial⟩|trivial
theorem UW(f:jQ->aA × jQ)(d0:Int)(h0:0≤d0)(h1:d0≤100)(hf:∀s:jQ,0≤s.deep->s.deep≤101->(s.bad=false->s.deep≤100)->s.at_≤t.size->ur t s (f s).1 (f s).2 (if s.bad=true then s.deep+1 else 101))
 (hE:∀s:jQ,0≤s.deep->s.deep≤101->(s.bad=false->s.deep=d0)->s.at_≤t.size->aE prog 209 [.c (.op (iB t s))] [some [.op (iB t (f s).2)]] (.a 3 (cC (f s).1)))
 (i:Nat)(hi:i≤t.size)(h3:dF t i=40):aE prog 222 [.c (.op (iB t ⟨i,d0,false⟩))] [some [.op (iB t (ke t f ⟨i,d0,false⟩).2)]] (.a 3 (cC (ke t f ⟨i,d0,false⟩).1)):=by
 have hs:=dZ (t:=t) (i:=i) (by omega);have e1:eC t ⟨i,d0,false⟩ 40=⟨i+1,d0,false⟩:=if_pos h3;have c1:=ow t hz ⟨i,d0,false⟩ 40 hi;rw[e1]at c1;have a1:=hf ⟨i+1,d0,false⟩ h0 (by simp only[];omega) (fun _=>h1) (by simp only[];omega);have c2:=hE ⟨i+1,d0,false⟩ h0 (by simp only[];omega) (fun _=>rfl) (by simp only[];omega);unfold ke;rw[e1];simp only[];generalize f ⟨i+1,d0,false⟩=A at a1 c2⊢;obtain⟨⟨ak,an,OE⟩,s1⟩:=A;obtain⟨p1,p2,p3,p4,p5,p6⟩:=a1;simp only[Bool.false_eq_true,if_false]at p1 p2 p3 p4 p5 p6 c2⊢;obtain⟨q1,q2,q3,q4⟩:=rz (t:=t) (s:=s1) (b:=32) (by omega) p1;have c3:=ow t hz s1 32 p1;have c4:=mJ t hz (eC t s1 32)
 obtain⟨r1,r2,r3,r4⟩:=Ah (t:=t) (s:=eC t s1 32) q1;have hT:∀s3:jQ,s3.at_≤t.size->aE prog 227 [.c (.op (iB t s3)),U8 41] [some [.op (iB t (eC t s3 41))],none] (.tup []):=fun s3 h=>ow t hz s3 41 h
 have fin:∀(K:Int × jQ),K.2.at_≤t.size->K.2.deep=(eC t s1 32).deep->(K.2.bad=false->(eC t s1 32).bad=false)->ur t K.2 (f K.2).1 (f K.2).2 (if K.2.bad=true then K.2.deep+1 else 101)/\aE prog 209 [.c (.op (iB t K.2))] [some [.op (iB t (f K.2).2)]] (.a 3 (cC (f K.2).1)):=by
  intro K k1 k2 k3;exact⟨hf K.2 (by omega) (by omega) (fun k=>by have:=(p3 (q4 (k3 k))).2;omega) k1,hE K.2 (by omega) (by omega) (fun k=>by have:=(p3 (q4 (k3 k))).2;omega) k1⟩
 obtain⟨g1,g2⟩:=fin _ r1 r3 r4;clear fin hE hf;have soft:∀{k:Int} {b:aA} {s':jQ},aE prog 222 [.c (.op (iB t ⟨i,d0,false⟩))] [some [.op (iB t s')]] (.a 3 [J k,J 0, .own 66 3 [cC (.mk ak an OE),cC b]])->aE prog 222 [.c (.op (iB t ⟨i,d0,false⟩))] [some [.op (iB t s')]] (.a 3 (cC (.mk k 0 [.mk ak an OE,b]))):=by
  intro k b s' h;have e:cC (.mk k 0 [.mk ak an OE,b])=[J k,J 0, .own 66 3 [cC (.mk ak an OE),cC b]]:=by
   show[J k,J 0,CV.own 66 3 [aM (.mk ak an OE),aM b]]=_;rw[dQ,dQ]
  rw[e];exact h
 generalize hs2:eC t s1 32=s2 at*;obtain⟨j2,d2,b2⟩:=s2;simp only[]at*;by_cases h43:dF t j2=43
 ·have hj2:=dZ (t:=t) (i:=j2) (by omega);have e2:rV t ⟨j2,d2,b2⟩=(6,eC t ⟨j2+1,d2,b2⟩ 32):=if_pos h43;have c5:=ow t hz ⟨j2+1,d2,b2⟩ 32 (by simp only[];omega);rw[e2]at g1 g2⊢;rw[h43]at c4;simp only[]at g1 g2⊢;generalize eC t ⟨j2+1,d2,b2⟩ 32=s3 at*;obtain⟨j3,d3,b3⟩:=s3;generalize f ⟨j3,d3,b3⟩=Bb at*;obtain⟨⟨bk,bn,bks⟩,s4⟩:=Bb;have c6:=hT s4 g1.size;obtain⟨j4,d4,b4⟩:=s4;simp only[]at*;generalize eC t ⟨j4,d4,b4⟩ 41=s5 at*;obtain⟨j5,d5,b5⟩:=s5;refine soft ?_;refine cX func222 (h:=?_)
  repeat'((conv=>whnf);first
   |refine aI.mk ?_ ?_
   |((apply bX;constructor)<;>intro h<;>(try simp only[aa]at h)<;>(try first|omega|contradiction))|(show ay _ 227 _ _ _ _;refine cG [true,false] rfl (c1) ?_)|(show ay _ 209 _ _ _ _;refine cG [true] rfl (c2) ?_)|(show ay _ 227 _ _ _ _;refine cG [true,false] rfl (c3) ?_)|(show ay _ 218 _ _ _ _;refine cP rfl (c4) ?_)|(show ay _ 227 _ _ _ _;refine cG [true,false] rfl (c5) ?_)|(show ay _ 209 _ _ _ _;refine cG [true] rfl (g2) ?_)|(show ay _ 227 _ _ _ _;refine cG [true,false] rfl (c6) ?_)
   |refine aR ?_)
  all_goals first|rfl|exact⟨rfl,trivial⟩|trivial
 ·have e2:rV t ⟨j2,d2,b2⟩=(7,⟨j2,d2,b2⟩):=if_neg h43;rw[e2]at g1 g2⊢;simp only[]at g1 g2⊢;generalize dF t j2=p at*;generalize f ⟨j2,d2,b2⟩=Bb at*;obtain⟨⟨bk,bn,bks⟩,s4⟩:=Bb;have c6:=hT s4 g1.size;obtain⟨j4,d4,b4⟩:=s4;simp only[]at*;generalize eC t ⟨j4,d4,b4⟩ 41=s5 at*;obtain⟨j5,d5,b5⟩:=s5;refine soft ?_;refine cX func222 (h:=?_)
  repeat'((conv=>whnf);first
   |refine aI.mk ?_ ?_
   |((apply bX;constructor)<;>intro h<;>(try simp only[aa]at h)<;>(try first|omega|contradiction))|(show ay _ 227 _ _ _ _;refine cG [true,false] rfl (c1) ?_)|(show ay _ 209 _ _ _ _;refine cG [true] rfl (c2) ?_)|(show ay _ 227 _ _ _ _;refine cG [true,false] rfl (c3) ?_)|(show ay _ 218 _ _ _ _;refine cP rfl (c4) ?_)|(show ay _ 209 _ _ _ _;refine cG [true] rfl (g2) ?_)|(show ay _ 227 _ _ _ _;refine cG [true,false] rfl (c6) ?_))
  all_goals first|rfl|exact⟨rfl,trivial⟩|trivial
end
section
variable(t:ByteArray)(hz:t.size≤100000)
include hz
theorem Ns(s:jQ)(f:jQ->aA × jQ)(h0:0≤s.deep)(h1:s.deep≤101)(hb:s.bad=true\/s.deep+1>100):aE prog 209 [.c (.op (iB t s))] [some [.op (iB t (gk t f s).2)]] (.a 3 (cC (gk t f s).1)):=by
 have _:=hz;unfold gk;rw[if_pos hb];refine eA ?_;obtain⟨i,d,b⟩:=s;simp only[]at h0 h1 hb⊢;refine aE.tP (?_:aE _ _ _ [some [.op [.val (.string t),J (i:Nat),J (d+1), .cb true]]] _) (.re (.op (.same (.same (.same (.cb .nil)))) .nil) .nil);cases b with
 |true=>
  refine cX func209 (h:=?_)
  repeat'((conv=>whnf);first
   |refine aI.mk ?_ ?_
   |((apply bX;constructor)<;>intro h<;>(try simp only[]at h)<;>(try first|omega|contradiction))
   |refine aR ?_)
  all_goals first|rfl|exact⟨rfl,trivial⟩|trivial|(exfalso;simp_all;done)
 |false=>
  have hb:d+1>100:=by simpa using hb
  refine cX func209 (h:=?_)
  repeat'((conv=>whnf);first
   |refine aI.mk ?_ ?_
   |((apply bX;constructor)<;>intro h<;>(try simp only[]at h)<;>(try first|omega|contradiction))
   |refine aR ?_)
  all_goals first|rfl|exact⟨rfl,trivial⟩|trivial|(exfalso;simp_all;done)
theorem Rs(i:Nat)(d:Int)(f:jQ->aA × jQ)(h0:0≤d)(h1:d+1≤100)(hi:i≤t.size)(ho:ur t ⟨i,d+1,false⟩ (f ⟨i,d+1,false⟩).1 (f ⟨i,d+1,false⟩).2 102)
 (hI:aE prog 217 [.c (.op (iB t ⟨i,d+1,false⟩))] [some [.op (iB t (f ⟨i,d+1,false⟩).2)]] (.a 3 (cC (f ⟨i,d+1,false⟩).1))):
 aE prog 209 [.c (.op (iB t ⟨i,d,false⟩))] [some [.op (iB t (gk t f ⟨i,d,false⟩).2)]] (.a 3 (cC (gk t f ⟨i,d,false⟩).1)):=by
 have _:=hi;unfold gk;rw[if_neg (by simp only[Bool.false_eq_true,false_or];omega)];simp only[];generalize f ⟨i,d+1,false⟩=A at ho hI⊢;obtain⟨e,⟨j,d2,b2⟩⟩:=A;obtain⟨g1,g2,g3,g4,g5,g6⟩:=ho;simp only[]at g1 g2 g3 g4 g5 g6 hI⊢;cases b2 with
 |true=>
  rw[if_pos rfl];obtain⟨k,n,ks⟩:=e;refine cX func209 (h:=?_)
  repeat'((conv=>whnf);first
   |refine aI.mk ?_ ?_|(show aZ 6 _ _ _ _ _ _;refine lp (Unit) [0,2,3] (fun u=>[]) (fun u=>True) (fun u=>0) () (by trivial) (fun u ha=>?_))
   |((apply bX;constructor)<;>intro h<;>(try simp only[]at h)<;>(try first|omega|contradiction))|(show ay _ 217 _ _ _ _;refine cG [true] rfl (hI) ?_)
   |refine aR ?_)
  all_goals first|rfl|exact⟨rfl,trivial⟩|trivial
 |false=>
  rw[if_neg (by decide)];have hp:=fun m=>mJ t hz ⟨m,d2,false⟩
  simp only[]at hp;have uo:∀(m:Nat) (x:aA),dF t m=42->eU t m x=((eU t (m+1) (.mk 8 0 [x])).1,(eU t (m+1) (.mk 8 0 [x])).2+1):=fun m x h=>CN x h
  have Yb:∀(m:Nat) (x:aA),¬dF t m=42->eU t m x=(x,0):=fun m x h=>Cf x h
  generalize hS:eU t j e=S;obtain⟨X,c⟩:=S;have fin:∀(m:Nat) (x:aA) (R:List (List CV)),R=x.kids.map aM-> ¬dF t m=42->(eU t m x).1=X->m+(eU t m x).2=j+c->cC X=[J x.kind,J x.num, .own 66 3 R]/\j+c=m:=by
   intro m x R hR hm h1 h2;rw[Yb m x hm]at h1 h2;simp only[]at h1 h2;subst h1 hR;exact⟨rfl,by omega⟩
  refine cX func209 (h:=?_)
  repeat'((conv=>whnf);first
   |(show Gh _ _ _ _ _;refine Gh.N2 6 3 rfl ?_)|(show aI _ _;(obtain⟨h8,h9⟩:=fin m x R ha.1 (by omega) ha.2.2.1 ha.2.2.2);rw[h8,h9];exact aI.mk rfl ⟨rfl,trivial⟩)|(show aZ 6 _ _ _ _ _ _;refine n7 (aA × List (List CV)× Nat) [0,2,3] (fun⟨x,R,m⟩=>[]) (fun⟨x,R,m⟩=>[(0, .cc 4 (iB t ⟨m,d2,false⟩)),(5, .cells [.c (J x.kind), .c (J x.num), .lw 3]),(3, .aU none 66 3 R)]) (fun⟨x,R,m⟩=>R=x.kids.map aM/\m≤t.size/\(eU t m x).1=X/\m+(eU t m x).2=j+c) (fun⟨x,R,m⟩=>t.size+1-m) (e,e.kids.map aM,j) (by exact⟨rfl,g1,by rw[hS],by rw[hS]⟩) (fun A ha=>?_);obtain⟨x,R,m⟩:=A;have ha:R=x.kids.map aM/\m≤t.size/\(eU t m x).1=X/\m+(eU t m x).2=j+c:=ha)
   |refine tD ((.mk 8 0 [x],[[J x.kind,J x.num, .own 66 3 R]],m+1):aA × List (List CV)× Nat) (by exact⟨by show _=[aM x];rw[dQ x,ha.1],by have:=dZ (t:=t) (i:=m) (by omega);show m+1≤_;omega,by show(eU t (m+1) (.mk 8 0 [x])).1=X;rw[<-ha.2.2.1,uo m x (by omega)],by show m+1+(eU t (m+1) (.mk 8 0 [x])).2=_;rw[<-ha.2.2.2,uo m x (by omega)];(try simp only[]);omega⟩)
   |((apply bX;constructor)<;>intro h<;>(try simp only[]at h)<;>(try first|omega|contradiction))|(show ay _ 217 _ _ _ _;refine cG [true] rfl (hI) ?_)|(show ay _ 218 _ _ _ _;refine cP rfl (hp m) ?_)
   |refine aR ?_)
  all_goals first|rfl|exact⟨rfl,trivial⟩|trivial
theorem CG(f:jQ->aA × jQ)(d0:Int)(h0:0≤d0)(h1:d0≤100)(ho:∀s:jQ,s.bad=false->0≤s.deep->s.deep≤100->s.at_≤t.size->1≤s.deep->ur t s (f s).1 (f s).2 102)
 (hI:d0+1≤100-> ∀i,i≤t.size->aE prog 217 [.c (.op (iB t ⟨i,d0+1,false⟩))] [some [.op (iB t (f ⟨i,d0+1,false⟩).2)]] (.a 3 (cC (f ⟨i,d0+1,false⟩).1)))
 (s:jQ)(g0:0≤s.deep)(g1:s.deep≤101)(g2:s.bad=false->s.deep=d0)(g3:s.at_≤t.size):
 aE prog 209 [.c (.op (iB t s))] [some [.op (iB t (gk t f s).2)]] (.a 3 (cC (gk t f s).1)):=by
 by_cases hb:s.bad=true\/s.deep+1>100
 ·exact Ns t hz s f g0 g1 hb
 ·obtain⟨i,d,b⟩:=s;simp only[not_or,Bool.not_eq_true]at hb g0 g1 g2 g3;obtain⟨rfl,hd⟩:=hb;have UD:=g2 rfl;subst UD;exact Rs t hz i d f g0 (by omega) g3 (ho ⟨i,d+1,false⟩ rfl (by simp only[];omega) (by simp only[];omega) g3 (by simp only[];omega)) (hI (by omega) i g3)
theorem Gx(n:Nat)(d:Int)(h0:0≤d)(h1:d≤100)(i:Nat)(_hi:i≤t.size)
 (hN:d+1≤100->i+1≤t.size->aE prog 217 [.c (.op (iB t ⟨i+1,d+1,false⟩))] [some [.op (iB t (dG t n ⟨i+1,d+1,false⟩).2)]] (.a 3 (cC (dG t n ⟨i+1,d+1,false⟩).1)))
 (hP:dF t i=40->aE prog 222 [.c (.op (iB t ⟨i,d,false⟩))] [some [.op (iB t (ke t (gk t (dG t n)) ⟨i,d,false⟩).2)]] (.a 3 (cC (ke t (gk t (dG t n)) ⟨i,d,false⟩).1))):
 aE prog 217 [.c (.op (iB t ⟨i,d,false⟩))] [some [.op (iB t (dG t (n+1) ⟨i,d,false⟩).2)]] (.a 3 (cC (dG t (n+1) ⟨i,d,false⟩).1)):=by
 have hp:=mJ t hz ⟨i,d,false⟩;have uZ:0<dF t i->i<t.size:=fun h=>dZ h
 have Yy:i<t.size->_:=fun h=>WJ t hz i d h
 rw[dG];simp only[]at hp⊢;generalize dF t i=p at hp uZ hP;by_cases g1:p=48
 ·rw[if_pos g1];subst g1;have:=uZ (by decide);refine eA ?_;refine cX func217 (h:=?_)
  repeat'((conv=>whnf);first
   |refine aI.mk ?_ ?_
   |((apply bX;constructor)<;>intro h<;>(try simp only[aa]at h)<;>(try first|omega|contradiction))|(show ay _ 218 _ _ _ _;refine cP rfl (hp) ?_)
   |refine aR ?_)
  all_goals first|rfl|exact⟨rfl,trivial⟩|trivial
 rw[if_neg g1];by_cases g2:p=49
 ·rw[if_pos g2];subst g2;have:=uZ (by decide);refine eA ?_;refine cX func217 (h:=?_)
  repeat'((conv=>whnf);first
   |refine aI.mk ?_ ?_
   |((apply bX;constructor)<;>intro h<;>(try simp only[aa]at h)<;>(try first|omega|contradiction))|(show ay _ 218 _ _ _ _;refine cP rfl (hp) ?_)
   |refine aR ?_)
  all_goals first|rfl|exact⟨rfl,trivial⟩|trivial
 rw[if_neg g2];by_cases g3:p=116\/p=97
 ·rw[if_pos g3];have:=uZ (by omega);have c:=Yy this;generalize s8 t ⟨i,d,false⟩=R at c⊢;obtain⟨⟨k,m,ks⟩,s⟩:=R;rcases g3 with rfl|rfl
  ·skip
   refine cX func217 (h:=?_)
   repeat'((conv=>whnf);first
     |refine aI.mk ?_ ?_
     |((apply bX;constructor)<;>intro h<;>(try simp only[aa]at h)<;>(try first|omega|contradiction))|(show ay _ 218 _ _ _ _;refine cP rfl (hp) ?_)|(show ay _ 221 _ _ _ _;refine cG [true] rfl (c) ?_))
   all_goals first|rfl|exact⟨rfl,trivial⟩|trivial
  ·skip
   refine cX func217 (h:=?_)
   repeat'((conv=>whnf);first
     |refine aI.mk ?_ ?_
     |((apply bX;constructor)<;>intro h<;>(try simp only[aa]at h)<;>(try first|omega|contradiction))|(show ay _ 218 _ _ _ _;refine cP rfl (hp) ?_)|(show ay _ 221 _ _ _ _;refine cG [true] rfl (c) ?_))
   all_goals first|rfl|exact⟨rfl,trivial⟩|trivial
 rw[if_neg g3];by_cases g4:p=126
 ·rw[if_pos g4];subst g4;have:=uZ (by decide);by_cases g5:d+1>100
  ·rw[if_pos g5];refine eA ?_;refine aE.tP (?_:aE _ _ _ [some [.op [.val (.string t),J ((i+1:Nat):Int),J (d+1), .cb true]]] _) (.re (.op (.same (.same (.same (.cb .nil)))) .nil) .nil);refine cX func217 (h:=?_)
   repeat'((conv=>whnf);first
     |refine aI.mk ?_ ?_
     |((apply bX;constructor)<;>intro h<;>(try simp only[]at h)<;>(try first|omega|contradiction))|(show ay _ 218 _ _ _ _;refine cP rfl (hp) ?_)
     |refine aR ?_)
   all_goals first|rfl|exact⟨rfl,trivial⟩|trivial
  ·rw[if_neg g5];have c:=hN (by omega) (by omega);have hb:=iH (t:=t) n ⟨i+1,d+1,false⟩ rfl (by simp only[];omega) (by simp only[];omega) (by simp only[];omega);generalize dG t n ⟨i+1,d+1,false⟩=R at c hb⊢;obtain⟨⟨k,m,ks⟩,⟨j,d2,b2⟩⟩:=R;have q1:=hb.dlo;have q2:=hb.dhi;simp only[]at q1 q2;refine Au ?_;refine cX func217 (h:=?_)
   repeat'((conv=>whnf);first
     |refine aI.mk ?_ ?_
     |((apply bX;constructor)<;>intro h<;>(try simp only[]at h)<;>(try first|omega|contradiction))|(show ay _ 218 _ _ _ _;refine cP rfl (hp) ?_)|(show ay _ 217 _ _ _ _;refine cG [true] rfl (c) ?_)
     |refine aR ?_)
   all_goals first|rfl|exact⟨rfl,trivial⟩|trivial
 rw[if_neg g4];by_cases g5:p=40
 ·rw[if_pos g5];have c:=hP g5;subst g5;generalize ke t (gk t (dG t n)) ⟨i,d,false⟩=R at c⊢;obtain⟨⟨k,m,ks⟩,s⟩:=R;refine cX func217 (h:=?_)
  repeat'((conv=>whnf);first
   |refine aI.mk ?_ ?_
   |((apply bX;constructor)<;>intro h<;>(try simp only[aa]at h)<;>(try first|omega|contradiction))|(show ay _ 218 _ _ _ _;refine cP rfl (hp) ?_)|(show ay _ 222 _ _ _ _;refine cG [true] rfl (c) ?_))
  all_goals first|rfl|exact⟨rfl,trivial⟩|trivial
 rw[if_neg g5];refine eA ?_;refine aE.tP (?_:aE _ _ _ [some [.op [.val (.string t),J (i:Nat),J d, .cb true]]] _) (.re (.op (.same (.same (.same (.cb .nil)))) .nil) .nil);refine cX func217 (h:=?_)
 repeat'((conv=>whnf);first
  |refine aI.mk ?_ ?_
  |((apply bX;constructor)<;>intro h<;>(try simp only[aa]at h)<;>(try first|omega|contradiction))|(show ay _ 218 _ _ _ _;refine cP rfl (hp) ?_))
 all_goals first|rfl|exact⟨rfl,trivial⟩|trivial
theorem LR:∀(n:Nat) (d:Int),0≤d->d≤100->101≤d+n-> ∀i,i≤t.size->aE prog 217 [.c (.op (iB t ⟨i,d,false⟩))] [some [.op (iB t (dG t n ⟨i,d,false⟩).2)]] (.a 3 (cC (dG t n ⟨i,d,false⟩).1))
 |0,d,h0,h1,h2,i,hi=>by omega
 |n+1,d,h0,h1,h2,i,hi=>by
  have ih:=LR n;refine Gx t hz n d h0 h1 i hi (fun hd h=>ih (d+1) (by omega) hd (by omega) (i+1) h) fun h40=>?_
  refine UW t hz (gk t (dG t n)) d h0 h1 (fun s a b c e=>vT (fun s a b c e _=>iH n s a b c e) s a b c e) (fun s a b c e=>?_) i hi h40;exact CG t hz (dG t n) d h0 h1 (fun s a b c e _=>iH n s a b c e) (fun hd i hi=>ih (d+1) (by omega) hd (by omega) i hi) s a b c e
theorem US:aE prog 209 [.c (.op (iB t ⟨0,0,false⟩))] [some [.op (iB t (mB t).2)]] (.a 3 (cC (mB t).1)):=
 CG t hz (dG t 101) 0 (by decide) (by decide) (fun s a b c e _=>iH 101 s a b c e) (fun _ i hi=>LR t hz 101 1 (by decide) (by decide) (by decide) i hi) ⟨0,0,false⟩ (by decide) (by decide) (fun _=>rfl) (ah _)
end
theorem DA(t a:Int)(hs:cE t a=true)(x:ByteArray):aE prog 189 [.a 2 [J t,J a],KJ x] [] (.tup [.a 3 (cC (kf t a x).1),I (kf t a x).2]):=by
 have c1:=mY t a;rw[hs]at c1;have soft:∀{f:Nat} {args:List SV} {n:Int},aE prog f args [] (.tup [.a 3 [J 0,J 0, .ows 66 3 []],I n])->aE prog f args [] (.tup [.a 3 (cC dm),I n]):=B3
 unfold kf;by_cases h4:x.size>4000
 ·rw[if_pos h4];refine soft ?_;refine cX func189 (h:=?_)
  repeat'((conv=>whnf);first
   |refine aI.mk ?_ ?_
   |((apply bX;constructor)<;>intro h<;>(try simp only[]at h)<;>(try first|omega|contradiction))|(show ay _ 85 _ _ _ _;refine cP rfl (c1) ?_))
  all_goals first|rfl|exact⟨rfl,trivial⟩|trivial
 rw[if_neg h4];have c2:=US x (by omega);have hb:=B6 x;have c3:=nh t a (mB x).1 (by omega);rw[hs,gn]at c3;unfold okR;generalize mB x=R at c2 c3⊢;obtain⟨⟨k,n,ks⟩,⟨j,d,b⟩⟩:=R;simp only[Bool.true_and]at c3⊢;have e8:aY (.mk k n ks)=[J k,J n, .ro 3 (dD (ks.map aM))]:=by rw[cM fJ];rfl
 rw[e8]at c3;generalize bz t a (.mk k n ks)=g at c3⊢;cases b with
 |true=>
  rw[if_neg (by simp)];refine soft ?_;refine cX func189 (h:=?_)
  repeat'((conv=>whnf);first
   |refine aI.mk ?_ ?_
   |((apply bX;constructor)<;>intro h<;>(try simp only[]at h)<;>(try first|omega|contradiction))|(show ay _ 85 _ _ _ _;refine cP rfl (c1) ?_)|(show ay _ 209 _ _ _ _;refine cG [true] rfl (c2) ?_))
  all_goals first|rfl|exact⟨rfl,trivial⟩|trivial
 |false=>
  by_cases hj:j=x.size
  ·cases g with
   |true=>
    rw[if_pos ⟨by simp[hj],rfl⟩];refine cX func189 (h:=?_)
    repeat'((conv=>whnf);first
       |refine aI.mk ?_ ?_
       |((apply bX;constructor)<;>intro h<;>(try simp only[]at h)<;>(try first|omega|contradiction))|(show ay _ 85 _ _ _ _;refine cP rfl (c1) ?_)|(show ay _ 209 _ _ _ _;refine cG [true] rfl (c2) ?_)|(show ay _ 174 _ _ _ _;refine cP rfl (c3) ?_))
    all_goals first|rfl|exact⟨rfl,trivial⟩|trivial
   |false=>
    rw[if_neg (by simp)];refine soft ?_;refine cX func189 (h:=?_)
    repeat'((conv=>whnf);first
       |refine aI.mk ?_ ?_
       |((apply bX;constructor)<;>intro h<;>(try simp only[]at h)<;>(try first|omega|contradiction))|(show ay _ 85 _ _ _ _;refine cP rfl (c1) ?_)|(show ay _ 209 _ _ _ _;refine cG [true] rfl (c2) ?_)|(show ay _ 174 _ _ _ _;refine cP rfl (c3) ?_))
    all_goals first|rfl|exact⟨rfl,trivial⟩|trivial
  ·rw[if_neg (by simp[hj])];refine soft ?_;refine cX func189 (h:=?_)
   repeat'((conv=>whnf);first
        |refine aI.mk ?_ ?_
        |((apply bX;constructor)<;>intro h<;>(try simp only[]at h)<;>(try first|omega|contradiction))|(show ay _ 85 _ _ _ _;refine cP rfl (c1) ?_)|(show ay _ 209 _ _ _ _;refine cG [true] rfl (c2) ?_))
   all_goals first|rfl|exact⟨rfl,trivial⟩|trivial
section
open Go Go.KA
theorem CL:∀(e:aA) (n:Int),(aH e:Int)+1≤n->cR e n=n-aH e-1
 | .mk k num kids,n,h=>by
   rw[cR];have h1:(bd kids:Int)≤n-1:=by
    simp only[aH]at h;omega
   rw[leftS_bud kids (n-1) h1];simp only[aH];omega
 where leftS_bud:∀(l:List aA) (n:Int),(bd l:Int)≤n->dI l n=n-bd l
 |[],n,h=>by simp[dI,bd]
 |x::xs,n,h=>by
  rw[dI,if_neg (by have:(0:Int)≤bd (x::xs):=by omega
                   omega)]
  simp only[bd]at h⊢;rw[CL x n (by omega),leftS_bud xs _ (by omega)];omega
structure gv(t a:Int)(c:Bool)(d:Nat)(e:aA):Prop where
 tree:eo t a e=true
 cond:c=true->dq e=true
 depth:fx e≤d+1
theorem gv.mono{t a:Int}{c:Bool}{d d':Nat}{e:aA}(h:gv t a c d e)(hd:d≤d'):gv t a c d' e:=⟨h.tree,h.cond,by have:=h.depth;omega⟩
theorem gv.any{t a:Int}{d:Nat}{e:aA}(h:gv t a true d e)(c:Bool):gv t a c d e:=⟨h.tree,fun _=>h.cond rfl,h.depth⟩
section
variable(g:ku)
theorem x5(s:Src)(c:Bool):gv g.aK g.aF c 0 (iC s).1:=by
 have h:=cV s (n:=2) (by omega);have:cx s 2=0\/cx s 2=1:=by omega
 unfold iC;rcases this with h1|h1<;>rw[h1]
 ·exact⟨rfl,fun _=>rfl,aw 1⟩
 ·exact⟨rfl,fun _=>rfl,aw 1⟩
theorem JC{n:Int}(hn:0≤n/\n<g.aK)(c:Bool):gv g.aK g.aF c 0 (.mk 3 n []):=by
 refine⟨?_,fun _=>rfl,aw 1⟩;simp[eo,dt,ee];omega
theorem L4{n:Int}(hn:0≤n/\n<g.aF):gv g.aK g.aF false 0 (.mk 4 n []):=by
 refine⟨?_,(fun h=>by cases h),aw 1⟩;simp[eo,dt,ee];omega
theorem xZ(s:Src)(c:Bool):gv g.aK g.aF c 0 (gH g s).1:=by
 unfold gH;split
 ·split
  ·exact x5 g _ c
  ·exact JC g (cV _ (by omega)) c
 ·exact x5 g _ c
theorem qM(c:Bool)(s:Src):gv g.aK g.aF c 0 (cI g c s).1:=by
 unfold cI;split
 ·rename_i h;obtain⟨rfl,h⟩:=h;split
  ·exact xZ g _ _
  ·exact L4 g (cV _ (by omega))
 ·exact xZ g _ c
theorem MR{e:aA}{d:Nat}(h:gv g.aK g.aF true d e)(c:Bool):gv g.aK g.aF c (d+1) (.mk 5 0 [e]):=by
 have h1:=h.tree;have h2:=h.cond rfl;have h3:=h.depth;refine⟨?_,fun _=>?_,?_⟩
 ·simp[eo,iV,dt,po,h1,h2]
 ·simp[dq,po,ee,h2]
 ·simp[fx,fI];omega
theorem J1{e:aA}{d:Nat}(h:gv g.aK g.aF false d e):gv g.aK g.aF false (d+1) (.mk 8 0 [e]):=by
 have h1:=h.tree;have h3:=h.depth;refine⟨?_,(fun h=>by cases h),?_⟩
 ·simp[eo,iV,dt,h1]
 ·simp[fx,fI];omega
theorem Jt{k:Int}(hk:k=6\/k=7){c c1 c2:Bool}{e f:aA}{d:Nat}(h:gv g.aK g.aF c1 d e)(h':gv g.aK g.aF c2 d f)(hc:c=true->c1=true/\c2=true):gv g.aK g.aF c (d+1) (vD k e f):=by
 have h1:=h.tree;have T5:=h'.tree;have h3:=h.depth;have h3':=h'.depth;refine⟨?_,fun hc'=>?_,?_⟩
 ·rcases hk with rfl|rfl<;>simp[vD,eo,iV,dt,h1,T5]
 ·have h2:=h.cond (hc hc').1;have Xc:=h'.cond (hc hc').2;rcases hk with rfl|rfl<;>simp[vD,dq,po,ee,h2,Xc]
 ·simp[vD,fx,fI];omega
theorem l9:∀(d:Nat) (c:Bool) (r:JH),gv g.aK g.aF c d (bY g d c r).1
 |0,c,r=>qM g c r.s
 |d+1,c,r=>by
  unfold bY;split
  ·exact(qM g c r.s).mono (by omega)
  ·split
   ·exact(qM g c (aJ r.s 6)).mono (by omega)
   ·simp only;split
    ·exact MR g (l9 d true _) c
    ·split
     ·rename_i h1 h2;have hc:c=false:=by
        cases c with
        |false=>rfl
        |true=>exact absurd (.inr ⟨rfl,h2⟩) h1
      subst hc;exact J1 g (l9 d false _)
     ·exact Jt g (by split<;>simp) (l9 d _ _) (l9 d _ _) (by intro hc;subst hc;exact⟨rfl,rfl⟩)
theorem An{c:Bool}{d:Nat}{e:aA}(h:gv g.aK g.aF c d e)(hd:d≤39)(hb:aH e≤199):bz g.aK g.aF e=true:=by
 have h1:=CL e 200 (by omega);have h2:=h.depth;simp only[bz,ab,decide_eq_true_eq];exact⟨by omega,by omega,h.tree⟩
end
end
structure jW(s:Src)(n:Int):Prop where
 rd:Rd s n
 len:s.code.length≤1000000
theorem jW.mono{s:Src}{n m:Int}(h:jW s n)(hm:n≤m):jW s m:=⟨h.rd.mono hm,h.len⟩
theorem jW.pick{s:Src}{n:Int}(h:jW s n)(k:Int):jW (aJ s k) (n+2):=⟨h.rd.pick k,by rw[dO];exact h.len⟩
theorem BO{d:Bool}{s:Src}{N k:Int}{args:List SV}{H:HM}{m:Nat}{K:iT->Prop}(hS:jW s N)(hN:N≤800000000)(hk:lJ k)(hv:tS H [true,false] args=some [.c (.op (dz s)),I k])(hn:gK (fK H [true,false] args)=true)(hc:ez [true,false] args=true)
 (c:∀v s',jW s' (N+2)->0≤v->(0<k->v<k)->match iQ H [true,false] args [some [.op (dz s')],none] (I v) m with|some E=>K E|none=>False):ay (d:=d) prog 53 args H m K:=by
 have h:=c (cx s k) (aJ s k) (hS.pick k) (QJ s k) fun h=>(cV s h).2
 split at h
 ·rename_i E he;exact ay.gen [true,false] _ _ _ hv (dx s (hS.rd.mono (by omega)) hS.len k hk) hn hc E he h
 ·exact h.elim
theorem XD{d:Bool}{s:Src}{N k:Int}{args:List SV}{H:HM}{m:Nat}{K:iT->Prop}(hS:jW s N)(hN:N≤800000000)(hk:lJ k)(hv:tS H [true,false] args=some [.c (.op (dz s)),I k])(hn:gK (fK H [true,false] args)=true)(hc:ez [true,false] args=true)
 (c:∀b s',jW s' (N+2)->match iQ H [true,false] args [some [.op (dz s')],none] (B b) m with|some E=>K E|none=>False):ay (d:=d) prog 76 args H m K:=by
 have h:=c (ky s k) (aJ s k) (hS.pick k);split at h
 ·rename_i E he;exact ay.gen [true,false] _ _ _ hv (jF s (hS.rd.mono (by omega)) hS.len k hk) hn hc E he h
 ·exact h.elim
theorem Kk{d:Bool}{s:Src}{N:Int}{l:List Int}{args:List SV}{H:HM}{m:Nat}{K:iT->Prop}(hS:jW s N)(hN:N≤800000000)(hl:0<l.length/\l.length≤1000)(hv:tS H [true,true] args=some [.c (.op (dz s)), .c (.ows 2 1 (l.map eI))])(hn:gK (fK H [true,true] args)=true)(hc:ez [true,true] args=true)
 (c:∀v s',jW s' (N+2)->v∈l->match iQ H [true,true] args [some [.op (dz s')],none] (I v) m with|some E=>K E|none=>False):ay (d:=d) prog 73 args H m K:=by
 have bw:wD l s∈l:=by
  unfold wD;have b:=cV s (n:=l.length) (by omega);rw[getD_eq (by omega)];exact ag _
 have h:=c (wD l s) (EN l s) (hS.pick _) bw;split at h
 ·rename_i E he;exact ay.gen [true,true] _ _ _ hv (L5 l hl s (hS.rd.mono (by omega)) hS.len) hn hc E he h
 ·exact h.elim
section
variable(t a:Int)(ht:0≤t/\t≤3)(hac:0≤a/\a≤4)
include ht hac
end
theorem iA{t a:Int}{e:aA}:bz t a e=true↔jj e≤200/\fx e≤40/\eo t a e=true:=by
 have h:=((pg e).1 200);unfold dw at h;simp only[bz,ab,decide_eq_true_eq];constructor
 ·rintro⟨h1,h2,h3⟩;have:=h.1 h1;exact⟨by simp only[jj];omega,by omega,h3⟩
 ·rintro⟨h1,h2,h3⟩;exact⟨h.2 (by simp only[jj]at h1;omega),by omega,h3⟩
theorem Ks{t a:Int}{e k:aA}(h:eo t a e=true)(hk:k∈e.kids):eo t a k=true:=by
 rw[iw]at h;simp only[ab,beq_iff_eq]at h;obtain⟨h1,h2⟩:=h;split at h2
 ·rename_i h3;rw[h3]at h1;have:e.kids=[]:=by simpa[dt]using h1
  rw[this]at hk;cases hk
 ·split at h2
  ·rename_i h3;rw[h3]at h1;have:e.kids=[]:=by simpa[dt]using h1
   rw[this]at hk;cases hk
  ·simp only[ab,aj]at h2;exact h2.2.2 k hk
theorem QA{t a:Int}{e:aA}(h:eo t a e=true):e.kids.length≤2:=by
 rw[iw]at h;simp only[ab,beq_iff_eq]at h;have h1:=h.1;unfold dt at h1
 repeat' split at h1
 all_goals omega
theorem zG:∀{l:List aA} {x:aA},x∈l->fx x≤fI l
 |y::l,x,h=>by
  rw[fI];rcases List.mem_cons.1 h with rfl|h
  ·omega
  ·have:=zG h;omega
theorem Fj{t a:Int}{e x:aA}(h:bz t a e=true)(hx:x∈e.kids):bz t a x=true/\fx x+1≤fx e:=by
 rw[iA]at h⊢;have h1:=yS (e:=e) hx;have h2:=zG hx;have h3:=wL e;exact⟨⟨by omega,by omega,Ks h.2.2 hx⟩,by omega⟩
theorem qY(t a:Int):bz t a (.mk 2 0 [])=true:=An ⟨t,a⟩ (⟨rfl,fun _=>rfl,aw 1⟩:gv t a true 0 (.mk 2 0 [])) (by decide) (by decide)
theorem Qu:dq (.mk 2 0 [])=true:=rfl
section
variable{t a:Int}
structure DU(t a:Int)(F:Fit):Prop where
 ts:∀x∈F.aK,x.kind=0\/(bz t a x=true/\dq x=true)
 us:∀x∈F.dy,x.kind=0\/bz t a x=true
theorem Vz:DU t a rY:=⟨fun x hx=>by simp[Fit.aK,rY]at hx;subst hx;exact .inl rfl,fun x hx=>by simp[Fit.dy,rY]at hx;subst hx;exact .inl rfl⟩
theorem Qd{P:aA->Prop}{y5 e:aA}(h:y5.kind=0\/P y5)(he:P e):(ej y5 e).kind=0\/P (ej y5 e):=by
 unfold ej;split
 ·exact .inr he
 ·exact h
theorem Sv{F:Fit}(hF:DU t a F)(n:Int){e:aA}(he:bz t a e=true)(hc:dq e=true):DU t a (ya F n e).2:=by
 have h0:=hF.ts F.t0 (by simp[Fit.aK]);have h1:=hF.ts F.t1 (by simp[Fit.aK]);have h2:=hF.ts F.t2 (by simp[Fit.aK]);unfold ya
 repeat' split
 all_goals
  refine⟨fun x hx=>?_,fun x hx=>hF.us x hx⟩;simp only[Fit.aK,List.mem_cons,List.not_mem_nil,or_false]at hx;rcases hx with rfl|rfl|rfl
  all_goals first|assumption|exact Qd (P:=fun x=>bz t a x=true/\dq x=true) (by assumption) ⟨he,hc⟩
theorem Ta{F:Fit}(hF:DU t a F)(n:Int){e:aA}(he:bz t a e=true):DU t a (uL F n e).2:=by
 have h0:=hF.us F.a0 (by simp[Fit.dy]);have h1:=hF.us F.a1 (by simp[Fit.dy]);have h2:=hF.us F.a2 (by simp[Fit.dy]);have h3:=hF.us F.a3 (by simp[Fit.dy]);unfold uL
 repeat' split
 all_goals
  refine⟨fun x hx=>hF.ts x hx,fun x hx=>?_⟩;simp only[Fit.dy,List.mem_cons,List.not_mem_nil,or_false]at hx;rcases hx with rfl|rfl|rfl|rfl
  all_goals first|assumption|exact Qd (P:=fun x=>bz t a x=true) (by assumption) he
mutual
theorem Py:∀(p y:aA) (F:Fit),bz t a y=true->DU t a F->DU t a (gM p y F).2
 | .mk k n ks,y,F,hy,hF=>by
   rw[gM];split
   ·split
    ·rename_i hc;exact Sv hF n hy hc
    ·exact hF
   ·split
    ·exact Ta hF n hy
    ·split
     ·exact OR ks y.kids F (fun x hx=>(Fj hy hx).1) hF
     ·exact hF
theorem OR:∀(ps ys:List aA) (F:Fit),(∀x∈ys,bz t a x=true)->DU t a F->DU t a (rL ps ys F).2
 |p::ps,y::ys,F,hy,hF=>by
  rw[rL];have h1:=Py p y F (hy y (by simp)) hF;split
  ·exact OR ps ys _ (fun x hx=>hy x (by simp[hx])) h1
  ·exact h1
 |[],ys,F,_,hF=>by
  rw[rL]
  ·exact hF
  ·intro _ _ _ _ h;cases h
 |p::ps,[],F,_,hF=>by
  rw[rL]
  ·exact hF
  ·intro _ _ _ _ _ h;cases h
end
theorem Wb{x:aA}(h:x.kind=0\/bz t a x=true):bz t a (jP x)=true:=by
 unfold jP;split
 ·exact qY t a
 ·exact h.resolve_left (by assumption)
theorem Lu{x:aA}(h:x.kind=0\/(bz t a x=true/\dq x=true)):bz t a (jP x)=true/\dq (jP x)=true:=by
 unfold jP;split
 ·exact⟨qY t a,Qu⟩
 ·exact h.resolve_left (by assumption)
theorem F7(l:List aA)(n:Int):(fR l n).length≤l.length:=by
 unfold fR;rw[aa,aq];exact Nat.min_le_right _ _
def j9(t a:Int)(s:aP):Prop:=dv t a s=true/\0≤s.use
theorem Ow{e:aA}{use:Int}{back:Bool}{fr to:aA}{path:List Int}{node:aA}{st:aP}(hn:bz t a node=true)(hp:path.all (ee 0 1)=true)(hl:path.length≤40)(hu:0≤use/\use≤23)
 (h:yI t a e use back fr to path node=some st):j9 t a st:=by
 have hF:=Py fr node rY hn Vz;unfold yI at h;split at h
 ·cases h
 split at h
 ·cases h
 simp only[]at h;split at h
 ·cases h
 split at h
 ·have e1:=(Option.some.inj h).symm;subst e1;generalize(gM fr node rY).2=F at hF⊢;have h1:=F7 F.aK (dM 3 fr (dM 3 to 0));have h2:=F7 F.dy (dM 4 fr (dM 4 to 0));have e3:F.aK.length=3:=rfl;have e4:F.dy.length=4:=rfl;refine⟨?_,hu.1⟩;simp only[dv,ab,decide_eq_true_eq,aj];refine⟨eL (by omega) hu.2,by omega,fun x hx=>aj.1 hp x hx,by omega,by omega,fun x hx=>?_,fun x hx=>?_,fun x hx=>?_⟩
  ·obtain⟨y,hy,rfl⟩:=List.mem_map.1 hx;exact(Lu (hF.ts y (List.mem_of_mem_take hy))).1
  ·obtain⟨y,hy,rfl⟩:=List.mem_map.1 hx;exact(Lu (hF.ts y (List.mem_of_mem_take hy))).2
  ·obtain⟨y,hy,rfl⟩:=List.mem_map.1 hx;exact Wb (hF.us y (List.mem_of_mem_take hy))
 ·cases h
theorem QY{P:aP->Prop}{s:qI}(hs:∀x∈s.out,P x){o:Option aP}(ho:∀x,o=some x->P x):∀x∈(vl s o).out,P x:=by
 cases o with
 |none=>exact hs
 |some y=>
  unfold vl;simp only[];split
  ·exact hs
  ·intro x hx;rcases ao.1 hx with hx|hx
   ·exact hs x hx
   ·rw[List.mem_singleton.1 hx];exact ho y rfl
section
variable(ax:List b7)(e:aA)
theorem Pm{path:List Int}{node:aA}(hn:bz t a node=true)(hp:path.all (ee 0 1)=true)(hl:path.length≤40):∀(m use:Nat) (s:qI),use+m≤24->(∀x∈s.out,j9 t a x)-> ∀x∈(tH t a ax e path node m use s).out,j9 t a x
 |0,_,s,_,hs=>hs
 |m+1,use,s,hm,hs=>by
  rw[tH];split
  ·exact hs
  ·refine Pm hn hp hl m (use+1) _ (by omega) ?_;refine QY (QY hs fun x hx=>?_) fun x hx=>?_
   ·exact Ow hn hp hl ⟨by omega,by omega⟩ hx
   ·exact Ow hn hp hl ⟨by omega,by omega⟩ hx
mutual
theorem Hs(ZU:ax.length=24):∀(node:aA) (path:List Int) (s:qI),bz t a node=true->path.all (ee 0 1)=true->path.length+fx node≤40->(∀x∈s.out,j9 t a x)-> ∀x∈(lx t a ax e node path s).out,j9 t a x
 | .mk k n ks,path,s,hn,hp,hl,hs=>by
   rw[lx];have h2:=QA (iA.1 hn).2.2;refine FN ZU ks path 0 _ (by simp only[aA.kids]at h2;omega) (fun x hx=>?_) hp (Pm ax e hn hp (by omega) _ _ _ (by omega) hs);have h3:=Fj hn hx;exact⟨h3.1,by omega⟩
theorem FN(ZU:ax.length=24):∀(l:List aA) (path:List Int) (i:Nat) (s:qI),i+l.length≤2->(∀x∈l,bz t a x=true/\path.length+1+fx x≤40)->path.all (ee 0 1)=true->(∀x∈s.out,j9 t a x)-> ∀x∈(fG t a ax e l path i s).out,j9 t a x
 |[],_,_,s,_,_,_,hs=>by rw[fG];exact hs
 |y::l,path,i,s,hi,hl,hp,hs=>by
  rw[fG];split
  ·exact hs
  ·simp only[List.length_cons]at hi;have h1:=hl y (by simp);refine FN ZU l path (i+1) _ (by omega) (fun x hx=>hl x (by simp[hx])) hp (Hs ZU y _ s h1.1 ?_ (by simp only[ai,List.length_cons,List.length_nil];omega) hs);rw[List.all_append,hp];simp only[List.all_cons,List.all_nil,Bool.and_true,Bool.true_and];exact eL (by omega) (by omega)
end
end
theorem LZ{e:aA}(he:bz t a e=true):∀x∈(mZ t a jO e).out,j9 t a x:=Hs jO e yJ e [] ⟨[],false⟩ he rfl (by have:=(iA.1 he).2.1;simpa using this) (by simp)
theorem RI{e y:aA}{p:List Int}(h:(o6 t a e p y).2=0):bz t a (o6 t a e p y).1=true:=by
 unfold o6 at h⊢;split
 ·rename_i h1;rw[if_pos h1]at h;cases h
 split
 ·rename_i h1 h2;rw[if_neg h1,if_pos h2]at h;cases h
 split
 ·rename_i h1 h2 h3;rw[if_neg h1,if_neg h2,if_pos h3]at h;cases h
 ·rename_i h3;simpa using h3
end
theorem uz{ax:List b7}{p:cY}{k:Int}{e:aA}{s:aP}(h:(g9 ax p k e s).2=0):bz p.sig.aK p.sig.aF (g9 ax p k e s).1=true:=by
 have hr:=fun to=>RI (t:=p.sig.aK) (a:=p.sig.aF) (e:=e) (p:=s.path) (y:=to)
 revert h;simp only[g9]
 repeat' split
 all_goals first|(intro h;cases h;done)|exact hr _
theorem BQ{p:cY}{use:Int}(h0:0≤use)(h1:use≤23)(k:Int):Cd (kW jO p k use).1:=by
 unfold kW;rw[if_pos h0];refine GG _ ?_;rw[getD_eq (by rw[yJ];omega)];exact ag _
theorem xf{t a:Int}{s:aP}(h:j9 t a s):0≤s.use/\s.use≤23:=by
 have h1:=h.1;simp only[dv,ab]at h1;have h2:=bQ h1.1;have h3:=h.2;omega
theorem kE{t a:Int}{s:aP}(h:dv t a s=true):(∀x∈s.aK,bz t a x=true)/\ ∀x∈s.dy,bz t a x=true:=by
 simp only[dv,ab,aj]at h;exact⟨h.2.2.2.2.2.1,h.2.2.2.2.2.2.2⟩
def qw:List ByteArray:=[⟨#[116,48]⟩,⟨#[126,116,48]⟩,⟨#[49]⟩,⟨#[48]⟩,⟨#[40,116,48,32,43,32,48,41]⟩]
def xH(l:List ByteArray)(s:Src):ByteArray:=l.getD (cx s l.length).toNat ⟨#[]⟩
def GF(l:List ByteArray)(s:Src):Src:=aJ s l.length
def FK(t a:Int)(x:ByteArray):aA:=if(kf t a x).2=0 then(kf t a x).1 else .mk 2 0 []
def fy(t a:Int)(s:Src):Nat->List aA × Src
 |0=>([],s)
 |i+1=>((fy t a s i).1++[FK t a (xH qw (fy t a s i).2)],GF qw (fy t a s i).2)
def nL(t a:Int)(s:Src):Nat->List aA × Src
 |0=>([],s)
 |i+1=>((nL t a s i).1++[(bY ⟨t,a⟩ 6 false ⟨(nL t a s i).2,4⟩).1],(bY ⟨t,a⟩ 6 false ⟨(nL t a s i).2,4⟩).2.s)
def zK(t a:Int)(one two:Int)(s:Src):List aA × List aA × Src:=
 ((fy t a s one.toNat).1,(nL t a (fy t a s one.toNat).2 two.toNat).1,(nL t a (fy t a s one.toNat).2 two.toNat).2)
theorem jW.expr{s:Src}{n:Int}(h:jW s n)(g:ku)(d:Nat)(c:Bool)(l:Int):jW (bY g d c ⟨s,l⟩).2.s (n+na d):=⟨Rd.expr g d c ⟨s,l⟩ h.rd,by rw[kF];exact h.len⟩
theorem sM{t a:Int}{s:Src}{n:Int}(h:jW s n):∀i:Nat,jW (fy t a s i).2 (n+2*i)
 |0=>h.mono (by omega)
 |i+1=>by
  have h1:=(sM (t:=t) (a:=a) h i).pick ((qw.length:Nat):Int);exact h1.mono (by omega)
theorem y8{t a:Int}{s:Src}{n:Int}(h:jW s n):∀i:Nat,jW (nL t a s i).2 (n+20000*i)
 |0=>h.mono (by omega)
 |i+1=>by
  have h1:=(y8 (t:=t) (a:=a) h i).expr ⟨t,a⟩ 6 false 4;have:=zf;exact h1.mono (by omega)
theorem tV(t a:Int)(s:Src):∀i:Nat,(fy t a s i).1.length=i
 |0=>rfl
 |i+1=>by rw[fy,ai,tV];rfl
theorem xp(t a:Int)(s:Src):∀i:Nat,(nL t a s i).1.length=i
 |0=>rfl
 |i+1=>by rw[nL,ai,xp];rfl
theorem nU(t a:Int)(c:Bool)(r:JH):bz t a (bY ⟨t,a⟩ 6 c r).1=true:=An ⟨t,a⟩ (l9 ⟨t,a⟩ 6 c r) (by decide) (by have:=pc ⟨t,a⟩ 6 c r;omega)
theorem Jw{t a:Int}{x:ByteArray}(h:(kf t a x).2=0):bz t a (kf t a x).1=true:=by
 unfold kf at h⊢;split
 ·rename_i h1;rw[if_pos h1]at h;cases h
 split
 ·rename_i h2;exact h2.2
 ·rename_i h1 h2;rw[if_neg h1,if_neg h2]at h;cases h
theorem J4(t a:Int)(x:ByteArray):bz t a (FK t a x)=true:=by
 unfold FK;split
 ·exact Jw (by assumption)
 ·exact qY t a
theorem ye(t a:Int)(s:Src):∀i:Nat,∀x∈(fy t a s i).1,bz t a x=true
 |0,x,h=>by cases h
 |i+1,x,h=>by
  rw[fy]at h;rcases ao.1 h with h|h
  ·exact ye t a s i x h
  ·rw[List.mem_singleton.1 h];exact J4 t a _
theorem zN(t a:Int)(s:Src):∀i:Nat,∀x∈(nL t a s i).1,bz t a x=true
 |0,x,h=>by cases h
 |i+1,x,h=>by
  rw[nL]at h;rcases ao.1 h with h|h
  ·exact zN t a s i x h
  ·rw[List.mem_singleton.1 h];exact nU t a _ _
theorem Ki:qw.all (fun x=>dq (mB x).1)=true:=by kernel_rfl
theorem Mc(s:Src):xH qw s∈qw:=by
 have h:=cV s (n:=(qw.length:Nat)) (by decide);unfold xH;rw[getD_eq (by omega)];exact ag _
theorem JJ(t a:Int)(s:Src):dq (FK t a (xH qw s))=true:=by
 have h:=aj.1 Ki _ (Mc s);unfold FK;split
 ·rename_i h1;unfold kf at h1⊢;split
  ·rename_i h2;rw[if_pos h2]at h1;cases h1
  split
  ·exact h
  ·rename_i h2 h3;rw[if_neg h2,if_neg h3]at h1;cases h1
 ·rfl
theorem yf(t a:Int)(s:Src):∀i:Nat,∀x∈(fy t a s i).1,dq x=true
 |0,x,h=>by cases h
 |i+1,x,h=>by
  rw[fy]at h;rcases ao.1 h with h|h
  ·exact yf t a s i x h
  ·rw[List.mem_singleton.1 h];exact JJ t a _
def ju:aP:=⟨0,false,[],[],[]⟩
noncomputable def j7(p:cY):Nat->Src->aA->List aP->List aP × aA × Src
 |0,s,e,out=>(out,e,s)
 |i+1,s,e,out=>
  if(mZ p.sig.aK p.sig.aF jO e).bad=true\/(mZ p.sig.aK p.sig.aF jO e).out.length=0 then(out,e,s)
  else
   let st:=(mZ p.sig.aK p.sig.aF jO e).out.getD (cx s (mZ p.sig.aK p.sig.aF jO e).out.length).toNat ju
   let s':=aJ s (mZ p.sig.aK p.sig.aF jO e).out.length
   if(g9 jO p 0 e st).2=0/\jj (g9 jO p 0 e st).1≤60 then j7 p i s' (g9 jO p 0 e st).1 (out++[st])else(out,e,s')
theorem Pt{l:List aP}(h:¬l.length=0)(s:Src):l.getD (cx s l.length).toNat ju∈l:=by
 have h1:=cV s (n:=(l.length:Nat)) (by omega);rw[getD_eq (by omega)];exact ag _
theorem Cs(p:cY):∀(i:Nat) (s:Src) (e:aA) (out:List aP) (n:Int),jW s n->jW (j7 p i s e out).2.2 (n+2*i)
 |0,s,e,out,n,h=>h.mono (by omega)
 |i+1,s,e,out,n,h=>by
  rw[j7];split
  ·exact h.mono (by omega)
  ·simp only[];split
   ·exact(Cs p i _ _ _ (n+2) (h.pick _)).mono (by omega)
   ·exact(h.pick _).mono (by omega)
theorem xW(p:cY):∀(i:Nat) (s:Src) (e:aA) (out:List aP),bz p.sig.aK p.sig.aF e=true->(∀x∈out,j9 p.sig.aK p.sig.aF x)->
 bz p.sig.aK p.sig.aF (j7 p i s e out).2.1=true/\(∀x∈(j7 p i s e out).1,j9 p.sig.aK p.sig.aF x)/\(j7 p i s e out).1.length≤out.length+i
 |0,s,e,out,h,ho=>⟨h,ho,aw _⟩
 |i+1,s,e,out,h,ho=>by
  rw[j7];split
  ·exact⟨h,ho,by simp only[];omega⟩
  ·rename_i h1;simp only[not_or]at h1;have hm:=LZ h _ (Pt h1.2 s);simp only[];split
   ·rename_i h2;have ih:=xW p i (aJ s (mZ p.sig.aK p.sig.aF jO e).out.length) _ (out++[(mZ p.sig.aK p.sig.aF jO e).out.getD (cx s (mZ p.sig.aK p.sig.aF jO e).out.length).toNat ju]) (uz h2.1) (fun x hx=>by
     rcases ao.1 hx with hx|hx
     ·exact ho x hx
     ·rw[List.mem_singleton.1 hx];exact hm)
    refine⟨ih.1,ih.2.1,?_⟩;have h3:=ih.2.2;simp only[ai,List.length_cons,List.length_nil]at h3;omega
   ·exact⟨h,ho,by simp only[];omega⟩
end Go.Proofs.YtgbggaddpbghfaaGreat
