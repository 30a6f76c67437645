/- Contracts of the reference's reader of expressions: names, sums and products, stars. Conditions: bounds of size. -/
import Derived.Test.YtgbggaddpbghfaaGreatKAJ
namespace Go.Proofs.YtgbggaddpbghfaaGreat
open Go Go.KA Go.Proofs
set_option maxHeartbeats 16000000
set_option maxRecDepth 100000
section
variable(t:ByteArray)(hz:t.size≤100000)
include hz
theorem Lo(i:Nat)(d:Int)(hi:i<t.size):ai Tryz.prog 221 [.c (.op (gj t ⟨i,d,false⟩))] [some [.op (gj t (qh t ⟨i,d,false⟩).2)]] (.a 3 (aI (qh t ⟨i,d,false⟩).1)):=by
 have hp:=fun j=>kA t hz ⟨j,d,false⟩
 have hn:=fun j=>s6 (t.extract (i+1) j)
 have hd:=D6 (t:=t) (i:=i+1) (by omega)
 simp only[qh,Bool.false_or]
 refine kN ?_
 obtain⟨k,hk⟩:∃k:Int,(if df t i=97 then(4:Int) else 3)=k:=⟨_,rfl⟩
 rw[hk]
 simp only[] at hp
 have hpi:=hp i
 generalize df t i=p0 at hpi hk
 by_cases h97:p0=97
 ·rw[if_pos h97] at hk
  subst h97 hk
  refine cX Tryz.func221 (h:= ?_)
  repeat'((conv=>whnf);first
   |(guard_target=ah _ _;(obtain rfl:j=dY t (i+1):=(by have:=rC (t:=t) (i:=j) (by omega);omega));exact ah.mk rfl ⟨rfl,trivial⟩)
   |refine ah.mk ?_ ?_|(guard_target=~ aP 6 _ _ _ _ _ _;refine lX (Nat) [0,2,3,4] (fun j=>[]) (fun j=>[(0, .cc 4 (gj t ⟨j,d,false⟩))]) (fun j=>i+1≤j∧j≤t.size∧dY t j=dY t (i+1)) (fun j=>t.size+1-j) (i+1) (by exact⟨Nat.le_refl _,by omega,rfl⟩) (fun j ha=> ?_))
   |refine qJ (j+1:Nat) (by exact⟨by show i+1≤j+1;omega,by have:=dC (t:=t) (i:=j) (by omega);show j+1≤_;omega,by show dY t (j+1)=_;rw[←ha.2.2];exact(ry (by omega) (by omega)).symm⟩)
   |(apply Fact.mk;intro hL;try simp only[List.length_map,maxLen] at hL)
   |((first|apply bA|apply bB|apply bC|apply bD|apply bE|apply bF)<;>intro h<;>(try simp only[List.length_map] at h)<;>(try omega)<;>(try contradiction))|(guard_target=aa _ 218 _ _ _ _;refine cP rfl (hpi) ?_)|(guard_target=aa _ 218 _ _ _ _;refine cP rfl (hp j) ?_)|(guard_target=aa _ 226 _ _ _ _;refine cP rfl (hn j) ?_)
   |refine aR ?_
   |refine iX (k:= ?_)
   |refine nB ?_
   |apply cj.go|(guard_target=aQ _ _;refine aQ.mk (by first|((refine⟨?_, ?_, ?_⟩<;>omega))|fail) ?_)
   |refine nO ?_)
  all_goals first|rfl|exact⟨rfl,trivial⟩|trivial
 ·rw[if_neg h97] at hk
  subst hk
  refine cX Tryz.func221 (h:= ?_)
  repeat'((conv=>whnf);first
   |(guard_target=ah _ _;(obtain rfl:j=dY t (i+1):=(by have:=rC (t:=t) (i:=j) (by omega);omega));exact ah.mk rfl ⟨rfl,trivial⟩)
   |refine ah.mk ?_ ?_|(guard_target=~ aP 6 _ _ _ _ _ _;refine lX (Nat) [0,2,3,4] (fun j=>[]) (fun j=>[(0, .cc 4 (gj t ⟨j,d,false⟩))]) (fun j=>i+1≤j∧j≤t.size∧dY t j=dY t (i+1)) (fun j=>t.size+1-j) (i+1) (by exact⟨Nat.le_refl _,by omega,rfl⟩) (fun j ha=> ?_))
   |refine qJ (j+1:Nat) (by exact⟨by show i+1≤j+1;omega,by have:=dC (t:=t) (i:=j) (by omega);show j+1≤_;omega,by show dY t (j+1)=_;rw[←ha.2.2];exact(ry (by omega) (by omega)).symm⟩)
   |(apply Fact.mk;intro hL;try simp only[List.length_map,maxLen] at hL)
   |((first|apply bA|apply bB|apply bC|apply bD|apply bE|apply bF)<;>intro h<;>(try simp only[List.length_map] at h)<;>(try omega)<;>(try contradiction))|(guard_target=aa _ 218 _ _ _ _;refine cP rfl (hpi) ?_)|(guard_target=aa _ 218 _ _ _ _;refine cP rfl (hp j) ?_)|(guard_target=aa _ 226 _ _ _ _;refine cP rfl (hn j) ?_)
   |refine aR ?_
   |refine iX (k:= ?_)
   |refine nB ?_
   |apply cj.go|(guard_target=aQ _ _;refine aQ.mk (by first|((refine⟨?_, ?_, ?_⟩<;>omega))|fail) ?_)
   |refine nO ?_)
  all_goals first|rfl|exact⟨rfl,trivial⟩|trivial
theorem Li(f:iH→ae × iH)(d0:Int)(h0:0≤d0)(h1:d0≤100)(hf:∀s:iH,0≤s.deep→s.deep≤101→(s.bad=false→s.deep≤100)→s.at_≤t.size→rh t s (f s).1 (f s).2 (if s.bad=true then s.deep+1 else 101))
 (hE:∀s:iH,0≤s.deep→s.deep≤101→(s.bad=false→s.deep=d0)→s.at_≤t.size→ai Tryz.prog 209 [.c (.op (gj t s))] [some [.op (gj t (f s).2)]] (.a 3 (aI (f s).1)))
 (i:Nat)(hi:i≤t.size)(h3:df t i=40):ai Tryz.prog 222 [.c (.op (gj t ⟨i,d0,false⟩))] [some [.op (gj t (iY t f ⟨i,d0,false⟩).2)]] (.a 3 (aI (iY t f ⟨i,d0,false⟩).1)):=by
 have hs:=dC (t:=t) (i:=i) (by omega)
 have e1:dV t ⟨i,d0,false⟩ 40=⟨i+1,d0,false⟩:=if_pos h3
 have c1:=mu t hz ⟨i,d0,false⟩ 40 hi
 rw[e1] at c1
 have a1:=hf ⟨i+1,d0,false⟩ h0 (by simp only[];omega) (fun _=>h1) (by simp only[];omega)
 have c2:=hE ⟨i+1,d0,false⟩ h0 (by simp only[];omega) (fun _=>rfl) (by simp only[];omega)
 unfold iY
 rw[e1]
 simp only[]
 generalize f ⟨i+1,d0,false⟩=A at a1 c2⊢
 obtain⟨⟨ak,an,aks⟩,s1⟩:=A
 obtain⟨p1,p2,p3,p4,p5,p6⟩:=a1
 simp only[Bool.false_eq_true,if_false] at p1 p2 p3 p4 p5 p6 c2⊢
 obtain⟨q1,q2,q3,q4⟩:=pa (t:=t) (s:=s1) (b:=32) (by omega) p1
 have c3:=mu t hz s1 32 p1
 have c4:=kA t hz (dV t s1 32)
 obtain⟨r1,r2,r3,r4⟩:=w4 (t:=t) (s:=dV t s1 32) q1
 have hT:∀s3:iH,s3.at_≤t.size→ai Tryz.prog 227 [.c (.op (gj t s3)),U8 41] [some [.op (gj t (dV t s3 41))],none] (.tup []):=fun s3 h=>mu t hz s3 41 h
 have fin:∀(K:Int × iH),K.2.at_≤t.size→K.2.deep=(dV t s1 32).deep→(K.2.bad=false→(dV t s1 32).bad=false)→rh t K.2 (f K.2).1 (f K.2).2 (if K.2.bad=true then K.2.deep+1 else 101)∧ai Tryz.prog 209 [.c (.op (gj t K.2))] [some [.op (gj t (f K.2).2)]] (.a 3 (aI (f K.2).1)):=by
  intro K k1 k2 k3
  exact⟨hf K.2 (by omega) (by omega) (fun k=>by have:=(p3 (q4 (k3 k))).2;omega) k1,hE K.2 (by omega) (by omega) (fun k=>by have:=(p3 (q4 (k3 k))).2;omega) k1⟩
 obtain⟨g1,g2⟩:=fin _ r1 r3 r4
 clear fin hE hf
 have soft:∀{k:Int} {b:ae} {s':iH},ai Tryz.prog 222 [.c (.op (gj t ⟨i,d0,false⟩))] [some [.op (gj t s')]] (.a 3 [J k,J 0, .ows 66 3 [aI (.mk ak an aks),aI b]])→ai Tryz.prog 222 [.c (.op (gj t ⟨i,d0,false⟩))] [some [.op (gj t s')]] (.a 3 (aI (.mk k 0 [.mk ak an aks,b]))):=by
  intro k b s' h
  have e:aI (.mk k 0 [.mk ak an aks,b])=[J k,J 0, .ro 3 [aI (.mk ak an aks),aI b]]:=by rw[←ff (.mk ak an aks),←ff b];rfl
  rw[e]
  exact h.soft (.v (.a (.same (.same (.ro .nil)))))
 generalize hs2:dV t s1 32=s2 at*
 obtain⟨j2,d2,b2⟩:=s2
 simp only[] at*
 by_cases h43:df t j2=43
 ·have hj2:=dC (t:=t) (i:=j2) (by omega)
  have e2:oE t ⟨j2,d2,b2⟩=(6,dV t ⟨j2+1,d2,b2⟩ 32):=if_pos h43
  have c5:=mu t hz ⟨j2+1,d2,b2⟩ 32 (by simp only[];omega)
  rw[e2] at g1 g2⊢
  rw[h43] at c4
  simp only[] at g1 g2⊢
  generalize dV t ⟨j2+1,d2,b2⟩ 32=s3 at*
  obtain⟨j3,d3,b3⟩:=s3
  generalize f ⟨j3,d3,b3⟩=Bb at*
  obtain⟨⟨bk,bn,bks⟩,s4⟩:=Bb
  have c6:=hT s4 g1.size
  obtain⟨j4,d4,b4⟩:=s4
  simp only[] at*
  generalize dV t ⟨j4,d4,b4⟩ 41=s5 at*
  obtain⟨j5,d5,b5⟩:=s5
  refine soft ?_
  refine cX Tryz.func222 (h:= ?_)
  repeat'((conv=>whnf);first
   |refine ah.mk ?_ ?_
   |((first|apply bA|apply bB|apply bC|apply bD|apply bE|apply bF)<;>intro h<;>(try simp only[List.length_map] at h)<;>(try omega)<;>(try contradiction))|(guard_target=aa _ 227 _ _ _ _;refine cG [true,false] rfl (c1) ?_)|(guard_target=aa _ 209 _ _ _ _;refine cG [true] rfl (c2) ?_)|(guard_target=aa _ 227 _ _ _ _;refine cG [true,false] rfl (c3) ?_)|(guard_target=aa _ 218 _ _ _ _;refine cP rfl (c4) ?_)|(guard_target=aa _ 227 _ _ _ _;refine cG [true,false] rfl (c5) ?_)|(guard_target=aa _ 209 _ _ _ _;refine cG [true] rfl (g2) ?_)|(guard_target=aa _ 227 _ _ _ _;refine cG [true,false] rfl (c6) ?_)
   |refine aR ?_
   |refine iX (k:= ?_)
   |refine nO ?_)
  all_goals first|rfl|exact⟨rfl,trivial⟩|trivial
 ·have e2:oE t ⟨j2,d2,b2⟩=(7,⟨j2,d2,b2⟩):=if_neg h43
  rw[e2] at g1 g2⊢
  simp only[] at g1 g2⊢
  generalize df t j2=p at*
  generalize f ⟨j2,d2,b2⟩=Bb at*
  obtain⟨⟨bk,bn,bks⟩,s4⟩:=Bb
  have c6:=hT s4 g1.size
  obtain⟨j4,d4,b4⟩:=s4
  simp only[] at*
  generalize dV t ⟨j4,d4,b4⟩ 41=s5 at*
  obtain⟨j5,d5,b5⟩:=s5
  refine soft ?_
  refine cX Tryz.func222 (h:= ?_)
  repeat'((conv=>whnf);first
   |refine ah.mk ?_ ?_
   |((first|apply bA|apply bB|apply bC|apply bD|apply bE|apply bF)<;>intro h<;>(try simp only[List.length_map] at h)<;>(try omega)<;>(try contradiction))|(guard_target=aa _ 227 _ _ _ _;refine cG [true,false] rfl (c1) ?_)|(guard_target=aa _ 209 _ _ _ _;refine cG [true] rfl (c2) ?_)|(guard_target=aa _ 227 _ _ _ _;refine cG [true,false] rfl (c3) ?_)|(guard_target=aa _ 218 _ _ _ _;refine cP rfl (c4) ?_)|(guard_target=aa _ 209 _ _ _ _;refine cG [true] rfl (g2) ?_)|(guard_target=aa _ 227 _ _ _ _;refine cG [true,false] rfl (c6) ?_)
   |refine aR ?_
   |refine iX (k:= ?_)
   |refine nO ?_)
  all_goals first|rfl|exact⟨rfl,trivial⟩|trivial
end
end Go.Proofs.YtgbggaddpbghfaaGreat
namespace Go.Proofs.YtgbggaddpbghfaaGreat
open Go Go.KA Go.Proofs
set_option maxHeartbeats 16000000
set_option maxRecDepth 100000
section
variable(t:ByteArray)(hz:t.size≤100000)
include hz
theorem Jf(s:iH)(f:iH→ae × iH)(h0:0≤s.deep)(h1:s.deep≤101)(hb:s.bad=true∨s.deep+1>100):ai Tryz.prog 209 [.c (.op (gj t s))] [some [.op (gj t (eZ t f s).2)]] (.a 3 (aI (eZ t f s).1)):=by
 have _:=hz
 unfold eZ
 rw[if_pos hb]
 refine kN ?_
 obtain⟨i,d,b⟩:=s
 simp only[] at h0 h1 hb⊢
 refine ai.qU (?_:ai _ _ _ [some [.op [.val (.string t),J (i:Nat),J (d+1), .cb true]]] _) (.re (.op (.same (.same (.same (.cb .nil)))) .nil) .nil)
 cases b with
 |true=>
  refine cX Tryz.func209 (h:= ?_)
  repeat'((conv=>whnf);first
   |refine ah.mk ?_ ?_
   |((first|apply bA|apply bB|apply bC|apply bD|apply bE|apply bF)<;>intro h<;>(try simp only[List.length_map] at h)<;>(try omega)<;>(try contradiction))
   |refine aR ?_
   |refine iX (k:= ?_)
   |refine nO ?_)
  all_goals first|rfl|exact⟨rfl,trivial⟩|trivial|(exfalso;simp_all;done)
 |false=>
  have hb:d+1>100:=by simpa using hb
  refine cX Tryz.func209 (h:= ?_)
  repeat'((conv=>whnf);first
   |refine ah.mk ?_ ?_
   |((first|apply bA|apply bB|apply bC|apply bD|apply bE|apply bF)<;>intro h<;>(try simp only[List.length_map] at h)<;>(try omega)<;>(try contradiction))
   |refine aR ?_
   |refine iX (k:= ?_)
   |refine nO ?_)
  all_goals first|rfl|exact⟨rfl,trivial⟩|trivial|(exfalso;simp_all;done)
theorem Ly(i:Nat)(d:Int)(f:iH→ae × iH)(h0:0≤d)(h1:d+1≤100)(hi:i≤t.size)(ho:rh t ⟨i,d+1,false⟩ (f ⟨i,d+1,false⟩).1 (f ⟨i,d+1,false⟩).2 102)
 (hI:ai Tryz.prog 217 [.c (.op (gj t ⟨i,d+1,false⟩))] [some [.op (gj t (f ⟨i,d+1,false⟩).2)]] (.a 3 (aI (f ⟨i,d+1,false⟩).1))):
 ai Tryz.prog 209 [.c (.op (gj t ⟨i,d,false⟩))] [some [.op (gj t (eZ t f ⟨i,d,false⟩).2)]] (.a 3 (aI (eZ t f ⟨i,d,false⟩).1)):=by
 have _:=hi
 unfold eZ
 rw[if_neg (by simp only[Bool.false_eq_true,false_or];omega)]
 simp only[]
 generalize f ⟨i,d+1,false⟩=A at ho hI⊢
 obtain⟨e,⟨j,d2,b2⟩⟩:=A
 obtain⟨g1,g2,g3,g4,g5,g6⟩:=ho
 simp only[] at g1 g2 g3 g4 g5 g6 hI⊢
 cases b2 with
 |true=>
  rw[if_pos rfl]
  obtain⟨k,n,ks⟩:=e
  refine cX Tryz.func209 (h:= ?_)
  repeat'((conv=>whnf);first
   |refine ah.mk ?_ ?_|(guard_target=~ aP 6 _ _ _ _ _ _;refine lp (Unit) [0,2,3] (fun u=>[]) (fun u=>True) (fun u=>0) () (by trivial) (fun u ha=> ?_))
   |((first|apply bA|apply bB|apply bC|apply bD|apply bE|apply bF)<;>intro h<;>(try simp only[List.length_map] at h)<;>(try omega)<;>(try contradiction))|(guard_target=aa _ 217 _ _ _ _;refine cG [true] rfl (hI) ?_)
   |refine aR ?_
   |refine iX (k:= ?_)
   |refine nO ?_)
  all_goals first|rfl|exact⟨rfl,trivial⟩|trivial
 |false=>
  rw[if_neg (by decide)]
  have hp:=fun m=>kA t hz ⟨m,d2,false⟩
  simp only[] at hp
  have hst:∀(m:Nat) (x:ae),df t m=42→ej t m x=((ej t (m+1) (.mk 8 0 [x])).1,(ej t (m+1) (.mk 8 0 [x])).2+1):=fun m x h=>yp x h
  have hse:∀(m:Nat) (x:ae),¬df t m=42→ej t m x=(x,0):=fun m x h=>ze x h
  generalize hS:ej t j e=S
  obtain⟨X,c⟩:=S
  have fin:∀(m:Nat) (x:ae) (R:List (List CV)),R=x.kids.map af→¬df t m=42→(ej t m x).1=X→m+(ej t m x).2=j+c→aI X=[J x.kind,J x.num, .ro 3 R]∧j+c=m:=by
   intro m x R hR hm h1 h2
   rw[hse m x hm] at h1 h2
   simp only[] at h1 h2
   subst h1 hR
   exact⟨rfl,by omega⟩
  refine cX Tryz.func209 (h:= ?_)
  repeat'((conv=>whnf);first
   |(guard_target=Gh _ _ _ _ _;refine Gh.G8 5 (.ro 3 [[J x.kind,J x.num, .ro 3 R]]) rfl (Gh.soft 4 (.cc rfl) ?_))|(guard_target=ah _ _;(obtain⟨h8,h9⟩:=fin m x R ha.1 (by omega) ha.2.2.1 ha.2.2.2);rw[h8,h9];exact ah.mk rfl ⟨rfl,trivial⟩)
   |refine ah.mk ?_ ?_|(guard_target=~ aP 6 _ _ _ _ _ _;refine lX (ae × List (List CV)× Nat) [0,2,3] (fun⟨x,R,m⟩=>[]) (fun⟨x,R,m⟩=>[(0, .cc 4 (gj t ⟨m,d2,false⟩)),(4, .cc 3 [J x.kind,J x.num, .ro 3 R])]) (fun⟨x,R,m⟩=>R=x.kids.map af∧m≤t.size∧(ej t m x).1=X∧m+(ej t m x).2=j+c) (fun⟨x,R,m⟩=>t.size+1-m) (e,e.kids.map af,j) (by exact⟨rfl,g1,by rw[hS],by rw[hS]⟩) (fun A ha=> ?_);obtain⟨x,R,m⟩:=A;have ha:R=x.kids.map af∧m≤t.size∧(ej t m x).1=X∧m+(ej t m x).2=j+c:=ha)
   |refine qJ ((.mk 8 0 [x],[[J x.kind,J x.num, .ro 3 R]],m+1):ae × List (List CV)× Nat) (by exact⟨by show _=[af x];rw[ff x,ha.1],by have:=dC (t:=t) (i:=m) (by omega);show m+1≤_;omega,by show(ej t (m+1) (.mk 8 0 [x])).1=X;rw[←ha.2.2.1,hst m x (by omega)],by show m+1+(ej t (m+1) (.mk 8 0 [x])).2=_;rw[←ha.2.2.2,hst m x (by omega)];(try simp only[]);omega⟩)
   |((first|apply bA|apply bB|apply bC|apply bD|apply bE|apply bF)<;>intro h<;>(try simp only[List.length_map] at h)<;>(try omega)<;>(try contradiction))|(guard_target=aa _ 217 _ _ _ _;refine cG [true] rfl (hI) ?_)|(guard_target=aa _ 218 _ _ _ _;refine cP rfl (hp m) ?_)
   |refine aR ?_
   |refine iX (k:= ?_)
   |refine nO ?_)
  all_goals first|rfl|exact⟨rfl,trivial⟩|trivial
theorem CY(f:iH→ae × iH)(d0:Int)(h0:0≤d0)(h1:d0≤100)(ho:∀s:iH,s.bad=false→0≤s.deep→s.deep≤100→s.at_≤t.size→1≤s.deep→rh t s (f s).1 (f s).2 102)
 (hI:d0+1≤100→∀i,i≤t.size→ai Tryz.prog 217 [.c (.op (gj t ⟨i,d0+1,false⟩))] [some [.op (gj t (f ⟨i,d0+1,false⟩).2)]] (.a 3 (aI (f ⟨i,d0+1,false⟩).1)))
 (s:iH)(g0:0≤s.deep)(g1:s.deep≤101)(g2:s.bad=false→s.deep=d0)(g3:s.at_≤t.size):
 ai Tryz.prog 209 [.c (.op (gj t s))] [some [.op (gj t (eZ t f s).2)]] (.a 3 (aI (eZ t f s).1)):=by
 by_cases hb:s.bad=true∨s.deep+1>100
 ·exact Jf t hz s f g0 g1 hb
 ·obtain⟨i,d,b⟩:=s
  simp only[not_or,Bool.not_eq_true] at hb g0 g1 g2 g3
  obtain⟨rfl,hd⟩:=hb
  have hd0:=g2 rfl
  subst hd0
  exact Ly t hz i d f g0 (by omega) g3 (ho ⟨i,d+1,false⟩ rfl (by simp only[];omega) (by simp only[];omega) g3 (by simp only[];omega)) (hI (by omega) i g3)
theorem ED(n:Nat)(d:Int)(h0:0≤d)(h1:d≤100)(i:Nat)(hi:i≤t.size)
 (hN:d+1≤100→i+1≤t.size→ai Tryz.prog 217 [.c (.op (gj t ⟨i+1,d+1,false⟩))] [some [.op (gj t (dh t n ⟨i+1,d+1,false⟩).2)]] (.a 3 (aI (dh t n ⟨i+1,d+1,false⟩).1)))
 (hP:df t i=40→ai Tryz.prog 222 [.c (.op (gj t ⟨i,d,false⟩))] [some [.op (gj t (iY t (eZ t (dh t n)) ⟨i,d,false⟩).2)]] (.a 3 (aI (iY t (eZ t (dh t n)) ⟨i,d,false⟩).1))):
 ai Tryz.prog 217 [.c (.op (gj t ⟨i,d,false⟩))] [some [.op (gj t (dh t (n+1) ⟨i,d,false⟩).2)]] (.a 3 (aI (dh t (n+1) ⟨i,d,false⟩).1)):=by
 have hp:=kA t hz ⟨i,d,false⟩
 have hpp:0<df t i→i<t.size:=fun h=>dC h
 have hnm:i<t.size→_:=fun h=>Lo t hz i d h
 rw[dh]
 simp only[] at hp⊢
 generalize df t i=p at hp hpp hP
 by_cases g1:p=48
 ·rw[if_pos g1]
  subst g1
  have:=hpp (by decide)
  refine kN ?_
  refine cX Tryz.func217 (h:= ?_)
  repeat'((conv=>whnf);first
   |refine ah.mk ?_ ?_
   |((first|apply bA|apply bB|apply bC|apply bD|apply bE|apply bF)<;>intro h<;>(try simp only[List.length_map] at h)<;>(try omega)<;>(try contradiction))|(guard_target=aa _ 218 _ _ _ _;refine cP rfl (hp) ?_)
   |refine aR ?_
   |refine iX (k:= ?_)
   |refine nO ?_)
  all_goals first|rfl|exact⟨rfl,trivial⟩|trivial
 rw[if_neg g1]
 by_cases g2:p=49
 ·rw[if_pos g2]
  subst g2
  have:=hpp (by decide)
  refine kN ?_
  refine cX Tryz.func217 (h:= ?_)
  repeat'((conv=>whnf);first
   |refine ah.mk ?_ ?_
   |((first|apply bA|apply bB|apply bC|apply bD|apply bE|apply bF)<;>intro h<;>(try simp only[List.length_map] at h)<;>(try omega)<;>(try contradiction))|(guard_target=aa _ 218 _ _ _ _;refine cP rfl (hp) ?_)
   |refine aR ?_
   |refine iX (k:= ?_)
   |refine nO ?_)
  all_goals first|rfl|exact⟨rfl,trivial⟩|trivial
 rw[if_neg g2]
 by_cases g3:p=116∨p=97
 ·rw[if_pos g3]
  have:=hpp (by omega)
  have c:=hnm this
  generalize qh t ⟨i,d,false⟩=R at c⊢
  obtain⟨⟨k,m,ks⟩,s⟩:=R
  rcases g3 with rfl|rfl
  ·skip
   refine cX Tryz.func217 (h:= ?_)
   repeat'((conv=>whnf);first
     |refine ah.mk ?_ ?_
     |((first|apply bA|apply bB|apply bC|apply bD|apply bE|apply bF)<;>intro h<;>(try simp only[List.length_map] at h)<;>(try omega)<;>(try contradiction))|(guard_target=aa _ 218 _ _ _ _;refine cP rfl (hp) ?_)|(guard_target=aa _ 221 _ _ _ _;refine cG [true] rfl (c) ?_)
     |refine aR ?_
     |refine iX (k:= ?_)
     |refine nO ?_)
   all_goals first|rfl|exact⟨rfl,trivial⟩|trivial
  ·skip
   refine cX Tryz.func217 (h:= ?_)
   repeat'((conv=>whnf);first
     |refine ah.mk ?_ ?_
     |((first|apply bA|apply bB|apply bC|apply bD|apply bE|apply bF)<;>intro h<;>(try simp only[List.length_map] at h)<;>(try omega)<;>(try contradiction))|(guard_target=aa _ 218 _ _ _ _;refine cP rfl (hp) ?_)|(guard_target=aa _ 221 _ _ _ _;refine cG [true] rfl (c) ?_)
     |refine aR ?_
     |refine iX (k:= ?_)
     |refine nO ?_)
   all_goals first|rfl|exact⟨rfl,trivial⟩|trivial
 rw[if_neg g3]
 by_cases g4:p=126
 ·rw[if_pos g4]
  subst g4
  have:=hpp (by decide)
  by_cases g5:d+1>100
  ·rw[if_pos g5]
   refine kN ?_
   refine ai.qU (?_:ai _ _ _ [some [.op [.val (.string t),J ((i+1:Nat):Int),J (d+1), .cb true]]] _) (.re (.op (.same (.same (.same (.cb .nil)))) .nil) .nil)
   refine cX Tryz.func217 (h:= ?_)
   repeat'((conv=>whnf);first
     |refine ah.mk ?_ ?_
     |((first|apply bA|apply bB|apply bC|apply bD|apply bE|apply bF)<;>intro h<;>(try simp only[List.length_map] at h)<;>(try omega)<;>(try contradiction))|(guard_target=aa _ 218 _ _ _ _;refine cP rfl (hp) ?_)
     |refine aR ?_
     |refine iX (k:= ?_)
     |refine nO ?_)
   all_goals first|rfl|exact⟨rfl,trivial⟩|trivial
  ·rw[if_neg g5]
   have c:=hN (by omega) (by omega)
   have hb:=gn (t:=t) n ⟨i+1,d+1,false⟩ rfl (by simp only[];omega) (by simp only[];omega) (by simp only[];omega)
   generalize dh t n ⟨i+1,d+1,false⟩=R at c hb⊢
   obtain⟨⟨k,m,ks⟩,⟨j,d2,b2⟩⟩:=R
   have q1:=hb.PR
   have q2:=hb.P1
   simp only[] at q1 q2
   have e:aI (.mk 5 0 [.mk k m ks])=[J 5,J 0, .ro 3 [aI (.mk k m ks)]]:=by rw[←ff (.mk k m ks)];rfl
   rw[e]
   refine ai.soft (?_:ai _ _ _ _ (.a 3 [J 5,J 0, .ows 66 3 [aI (.mk k m ks)]])) (.v (.a (.same (.same (.ro .nil)))))
   refine cX Tryz.func217 (h:= ?_)
   repeat'((conv=>whnf);first
     |refine ah.mk ?_ ?_
     |((first|apply bA|apply bB|apply bC|apply bD|apply bE|apply bF)<;>intro h<;>(try simp only[List.length_map] at h)<;>(try omega)<;>(try contradiction))|(guard_target=aa _ 218 _ _ _ _;refine cP rfl (hp) ?_)|(guard_target=aa _ 217 _ _ _ _;refine cG [true] rfl (c) ?_)
     |refine aR ?_
     |refine iX (k:= ?_)
     |refine nO ?_)
   all_goals first|rfl|exact⟨rfl,trivial⟩|trivial
 rw[if_neg g4]
 by_cases g5:p=40
 ·rw[if_pos g5]
  have c:=hP g5
  subst g5
  generalize iY t (eZ t (dh t n)) ⟨i,d,false⟩=R at c⊢
  obtain⟨⟨k,m,ks⟩,s⟩:=R
  refine cX Tryz.func217 (h:= ?_)
  repeat'((conv=>whnf);first
   |refine ah.mk ?_ ?_
   |((first|apply bA|apply bB|apply bC|apply bD|apply bE|apply bF)<;>intro h<;>(try simp only[List.length_map] at h)<;>(try omega)<;>(try contradiction))|(guard_target=aa _ 218 _ _ _ _;refine cP rfl (hp) ?_)|(guard_target=aa _ 222 _ _ _ _;refine cG [true] rfl (c) ?_)
   |refine aR ?_
   |refine iX (k:= ?_)
   |refine nO ?_)
  all_goals first|rfl|exact⟨rfl,trivial⟩|trivial
 rw[if_neg g5]
 refine kN ?_
 refine ai.qU (?_:ai _ _ _ [some [.op [.val (.string t),J (i:Nat),J d, .cb true]]] _) (.re (.op (.same (.same (.same (.cb .nil)))) .nil) .nil)
 refine cX Tryz.func217 (h:= ?_)
 repeat'((conv=>whnf);first
  |refine ah.mk ?_ ?_
  |((first|apply bA|apply bB|apply bC|apply bD|apply bE|apply bF)<;>intro h<;>(try simp only[List.length_map] at h)<;>(try omega)<;>(try contradiction))|(guard_target=aa _ 218 _ _ _ _;refine cP rfl (hp) ?_)
  |refine aR ?_
  |refine iX (k:= ?_)
  |refine nO ?_)
 all_goals first|rfl|exact⟨rfl,trivial⟩|trivial
theorem B3:∀(n:Nat) (d:Int),0≤d→d≤100→101≤d+n→∀i,i≤t.size→ai Tryz.prog 217 [.c (.op (gj t ⟨i,d,false⟩))] [some [.op (gj t (dh t n ⟨i,d,false⟩).2)]] (.a 3 (aI (dh t n ⟨i,d,false⟩).1))
 |0,d,h0,h1,h2,i,hi=>by omega
 |n+1,d,h0,h1,h2,i,hi=>by
  have ih:=B3 n
  refine ED t hz n d h0 h1 i hi (fun hd h=>ih (d+1) (by omega) hd (by omega) (i+1) h) fun h40=> ?_
  refine Li t hz (eZ t (dh t n)) d h0 h1 (fun s a b c e=>sE (fun s a b c e _=>gn n s a b c e) s a b c e) (fun s a b c e=> ?_) i hi h40
  exact CY t hz (dh t n) d h0 h1 (fun s a b c e _=>gn n s a b c e) (fun hd i hi=>ih (d+1) (by omega) hd (by omega) i hi) s a b c e
theorem Lv:ai Tryz.prog 209 [.c (.op (gj t ⟨0,0,false⟩))] [some [.op (gj t (kr t).2)]] (.a 3 (aI (kr t).1)):=
 CY t hz (dh t 101) 0 (by decide) (by decide) (fun s a b c e _=>gn 101 s a b c e) (fun _ i hi=>B3 t hz 101 1 (by decide) (by decide) (by decide) i hi) ⟨0,0,false⟩ (by decide) (by decide) (fun _=>rfl) (Nat.zero_le _)
end
def iP(t a:Int)(x:ByteArray):ae × Int:=
 if x.size>4000 then(cQ,2) else if PI x=true∧aW t a (kr x).1=true then((kr x).1,0) else(cQ,5)
theorem BY(t a:Int)(hs:bT t a=true)(x:ByteArray):ai Tryz.prog 189 [.a 2 [J t,J a],F4 x] [] (.tup [.a 3 (aI (iP t a x).1),I (iP t a x).2]):=by
 have c1:=kJ t a
 rw[hs] at c1
 have soft:∀{f:Nat} {args:List SV} {n:Int},ai Tryz.prog f args [] (.tup [.a 3 [J 0,J 0, .ows 66 3 []],I n])→ai Tryz.prog f args [] (.tup [.a 3 (aI cQ),I n]):=fun h=>
  h.soft (.tup (.cons (.a (.same (.same (.ro .nil)))) (.cons .same .nil)))
 unfold iP
 by_cases h4:x.size>4000
 ·rw[if_pos h4]
  refine soft ?_
  refine cX Tryz.func189 (h:= ?_)
  repeat'((conv=>whnf);first
   |refine ah.mk ?_ ?_
   |(apply Fact.mk;intro hL;try simp only[List.length_map,maxLen] at hL)
   |((first|apply bA|apply bB|apply bC|apply bD|apply bE|apply bF)<;>intro h<;>(try simp only[List.length_map] at h)<;>(try omega)<;>(try contradiction))|(guard_target=aa _ 85 _ _ _ _;refine cP rfl (c1) ?_)
   |refine iX (k:= ?_)
   |refine nO ?_)
  all_goals first|rfl|exact⟨rfl,trivial⟩|trivial
 rw[if_neg h4]
 have c2:=Lv x (by omega)
 have hb:=zF x
 have c3:=lF t a (kr x).1 (by omega)
 rw[hs,ff] at c3
 unfold PI
 generalize kr x=R at c2 c3⊢
 obtain⟨⟨k,n,ks⟩,⟨j,d,b⟩⟩:=R
 simp only[Bool.true_and] at c3⊢
 generalize aW t a (.mk k n ks)=g at c3⊢
 cases b with
 |true=>
  rw[if_neg (by simp)]
  refine soft ?_
  refine cX Tryz.func189 (h:= ?_)
  repeat'((conv=>whnf);first
   |refine ah.mk ?_ ?_
   |(apply Fact.mk;intro hL;try simp only[List.length_map,maxLen] at hL)
   |((first|apply bA|apply bB|apply bC|apply bD|apply bE|apply bF)<;>intro h<;>(try simp only[List.length_map] at h)<;>(try omega)<;>(try contradiction))|(guard_target=aa _ 85 _ _ _ _;refine cP rfl (c1) ?_)|(guard_target=aa _ 209 _ _ _ _;refine cG [true] rfl (c2) ?_)
   |refine iX (k:= ?_)
   |refine nO ?_)
  all_goals first|rfl|exact⟨rfl,trivial⟩|trivial
 |false=>
  by_cases hj:j=x.size
  ·cases g with
   |true=>
    rw[if_pos ⟨by simp[hj],rfl⟩]
    refine cX Tryz.func189 (h:= ?_)
    repeat'((conv=>whnf);first
       |refine ah.mk ?_ ?_
       |(apply Fact.mk;intro hL;try simp only[List.length_map,maxLen] at hL)
       |((first|apply bA|apply bB|apply bC|apply bD|apply bE|apply bF)<;>intro h<;>(try simp only[List.length_map] at h)<;>(try omega)<;>(try contradiction))|(guard_target=aa _ 85 _ _ _ _;refine cP rfl (c1) ?_)|(guard_target=aa _ 209 _ _ _ _;refine cG [true] rfl (c2) ?_)|(guard_target=aa _ 174 _ _ _ _;refine cP rfl (c3) ?_)
       |refine iX (k:= ?_)
       |refine nO ?_)
    all_goals first|rfl|exact⟨rfl,trivial⟩|trivial
   |false=>
    rw[if_neg (by simp)]
    refine soft ?_
    refine cX Tryz.func189 (h:= ?_)
    repeat'((conv=>whnf);first
       |refine ah.mk ?_ ?_
       |(apply Fact.mk;intro hL;try simp only[List.length_map,maxLen] at hL)
       |((first|apply bA|apply bB|apply bC|apply bD|apply bE|apply bF)<;>intro h<;>(try simp only[List.length_map] at h)<;>(try omega)<;>(try contradiction))|(guard_target=aa _ 85 _ _ _ _;refine cP rfl (c1) ?_)|(guard_target=aa _ 209 _ _ _ _;refine cG [true] rfl (c2) ?_)|(guard_target=aa _ 174 _ _ _ _;refine cP rfl (c3) ?_)
       |refine iX (k:= ?_)
       |refine nO ?_)
    all_goals first|rfl|exact⟨rfl,trivial⟩|trivial
  ·rw[if_neg (by simp[hj])]
   refine soft ?_
   refine cX Tryz.func189 (h:= ?_)
   repeat'((conv=>whnf);first
        |refine ah.mk ?_ ?_
        |(apply Fact.mk;intro hL;try simp only[List.length_map,maxLen] at hL)
        |((first|apply bA|apply bB|apply bC|apply bD|apply bE|apply bF)<;>intro h<;>(try simp only[List.length_map] at h)<;>(try omega)<;>(try contradiction))|(guard_target=aa _ 85 _ _ _ _;refine cP rfl (c1) ?_)|(guard_target=aa _ 209 _ _ _ _;refine cG [true] rfl (c2) ?_)|(guard_target=aa _ 174 _ _ _ _;refine cP rfl (c3) ?_)
        |refine iX (k:= ?_)
        |refine nO ?_)
   all_goals first|rfl|exact⟨rfl,trivial⟩|trivial
end Go.Proofs.YtgbggaddpbghfaaGreat
namespace Go.Proofs.YtgbggaddpbghfaaGreat
open Go Go.KA Go.Proofs
set_option maxHeartbeats 16000000
set_option maxRecDepth 100000
theorem vE(b:ByteArray):b.toList=b.data.toList:=ByteArray.toList_eq b
def Ft(t x:ByteArray)(i:Nat):Bool:=(t.extract i (i+x.size)).data.toList==x.data.toList
def su(t x:ByteArray):Nat→Nat→Option Nat
 |0,_=>none
 |f+1,i=>if i+x.size≤t.size then(if Ft t x i=true then some i else su t x f (i+1)) else none
def qE(t x:ByteArray):ByteArray × ByteArray × Bool:=
 match su t x (t.size+1) 0 with
 |some i=>(t.extract 0 i,t.extract (i+x.size) t.size,true)
 |none=>(⟨#[]⟩,⟨#[]⟩,false)
theorem Mj{t x:ByteArray}{i:Nat}(h:i+x.size≤t.size)(hh:((t.extract i (i+x.size)).toList==x.toList)=true):su t x (t.size+1-i) i=some i:=by
 rw[show t.size+1-i=(t.size-i)+1 by omega,su,if_pos h,if_pos]
 unfold Ft
 rw[←vE,←vE]
 exact hh
theorem Nq{t x:ByteArray}{i:Nat}(h:i+x.size≤t.size)(hh:((t.extract i (i+x.size)).toList==x.toList)=false):su t x (t.size+1-i) i=su t x (t.size+1-(i+1)) (i+1):=by
 rw[show t.size+1-i=(t.size+1-(i+1))+1 by omega,su,if_pos h,if_neg]
 unfold Ft
 rw[←vE,←vE,hh]
 decide
theorem IH{t x:ByteArray}{i:Nat}(h:¬i+x.size≤t.size):su t x (t.size+1-i) i=none:=by
 generalize t.size+1-i=n
 cases n with
 |zero=>rfl
 |succ n=>rw[su,if_neg h]
theorem Ix(t x:ByteArray)(h1:t.size≤1000000000)(h2:x.size≤1000000000):aE Tryz.prog 220 [F4 t,F4 x] (.tup [F4 (qE t x).1,F4 (qE t x).2.1,B (qE t x).2.2]):=by
 obtain⟨R,hR⟩:∃R,qE t x=R:=⟨_,rfl⟩
 rw[hR]
 have hs:∀i,su t x (t.size+1) 0=some i→R=(t.extract 0 i,t.extract (i+x.size) t.size,true):=fun i h=>by
  rw[←hR];unfold qE;rw[h]
 have hn:su t x (t.size+1) 0=none→R=(⟨#[]⟩,⟨#[]⟩,false):=fun h=>by
  rw[←hR];unfold qE;rw[h]
 refine cF Tryz.func220 (h:= ?_)
 repeat'((conv=>whnf);first
  |(apply bo.mk;first|((rw[hs i (by rw[←ha.2];exact Mj (by omega) (by assumption))];rfl);done)|((rw[hn (by rw[←ha.2];exact IH (by omega))];rfl);done)|skip)|(guard_target=~ aP 2 _ _ _ _ _ _;refine lp (Nat) [0,1] (fun i=>[(7,I (i:Nat))]) (fun i=>i≤t.size+1∧su t x (t.size+1-i) i=su t x (t.size+1) 0) (fun i=>t.size+1-i) 0 (by exact⟨Nat.zero_le _,rfl⟩) (fun i ha=> ?_))
  |refine nx (i+1:Nat) (by exact⟨by show i+1≤_;omega,by show su t x (t.size+1-(i+1)) (i+1)=_;rw[←ha.2];exact(Nq (by omega) (by assumption)).symm⟩)
  |(apply Fact.mk;intro hL;try simp only[List.length_map,maxLen] at hL)
  |((first|apply bA|apply bB|apply bC|apply bD|apply bE|apply bF)<;>intro h<;>(try simp only[List.length_map] at h)<;>(try omega)<;>(try contradiction))
  |refine aR ?_
  |refine nB ?_
  |apply cj.go|(guard_target=aQ _ _;refine aQ.mk (by first|((refine⟨?_, ?_, ?_⟩<;>omega))|fail) ?_)
  |refine nO ?_)
 all_goals first|rfl|trivial
theorem JO(t x:ByteArray):(qE t x).1.size≤t.size∧(qE t x).2.1.size≤t.size:=by
 unfold qE
 split
 ·simp only[ByteArray.size_extract]
  omega
 ·exact⟨Nat.zero_le _,Nat.zero_le _⟩
def v8(t a:Int)(x:ByteArray):bX × Bool:=
 if(qE x ⟨#[32,61,32]⟩).2.2=true then(⟨(iP t a (qE x ⟨#[32,61,32]⟩).1).1,(iP t a (qE x ⟨#[32,61,32]⟩).2.1).1⟩,decide ((iP t a (qE x ⟨#[32,61,32]⟩).1).2=0)&&decide ((iP t a (qE x ⟨#[32,61,32]⟩).2.1).2=0))
 else(⟨cQ,cQ⟩,false)
theorem wO(t a:Int)(hs:bT t a=true)(x:ByteArray)(hx:x.size≤1000000):ai Tryz.prog 212 [.a 2 [J t,J a],F4 x] [] (.tup [.a 6 (aV (v8 t a x).1),B (v8 t a x).2]):=by
 have c1:=Ix x ⟨#[32,61,32]⟩ (by omega) (by decide)
 have hsz:=JO x ⟨#[32,61,32]⟩
 have c2:=fun y=>BY t a hs y
 unfold v8
 generalize qE x ⟨#[32,61,32]⟩=R at c1 hsz⊢
 obtain⟨l,r,b⟩:=R
 simp only[] at c1 hsz⊢
 have c3:=c2 l
 have c4:=c2 r
 generalize iP t a l=L at c3⊢
 generalize iP t a r=Q at c4⊢
 obtain⟨⟨k1,n1,s1⟩,d1⟩:=L
 obtain⟨⟨k2,n2,s2⟩,d2⟩:=Q
 cases b with
 |true=>
  rw[if_pos rfl]
  simp only[]
  obtain⟨b1,hb1⟩:∃b1:Bool,(d1==0)=b1:=⟨_,rfl⟩
  have e1:decide (d1=0)=(d1==0):=rfl
  have e2:decide (d2=0)=(d2==0):=rfl
  rw[e1,e2]
  by_cases h1:d1=0
  ·have:(d1==0)=true:=by simp[h1]
   rw[this]
   refine cX Tryz.func212 (h:= ?_)
   repeat'((conv=>whnf);first
        |refine ah.mk ?_ ?_
        |((first|apply bA|apply bB|apply bC|apply bD|apply bE|apply bF)<;>intro h<;>(try simp only[List.length_map] at h)<;>(try omega)<;>(try contradiction))|(guard_target=aa _ 220 _ _ _ _;refine cP rfl (c1) ?_)|(guard_target=aa _ 189 _ _ _ _;refine cG [] rfl (c3) ?_)|(guard_target=aa _ 189 _ _ _ _;refine cG [] rfl (c4) ?_)
        |refine iX (k:= ?_)
        |refine nB ?_
        |apply cj.go
        |refine nO ?_)
   all_goals first|rfl|trivial|(exfalso;simp_all;done)
  ·have:(d1==0)=false:=by simp[h1]
   rw[this]
   refine cX Tryz.func212 (h:= ?_)
   repeat'((conv=>whnf);first
        |refine ah.mk ?_ ?_
        |((first|apply bA|apply bB|apply bC|apply bD|apply bE|apply bF)<;>intro h<;>(try simp only[List.length_map] at h)<;>(try omega)<;>(try contradiction))|(guard_target=aa _ 220 _ _ _ _;refine cP rfl (c1) ?_)|(guard_target=aa _ 189 _ _ _ _;refine cG [] rfl (c3) ?_)|(guard_target=aa _ 189 _ _ _ _;refine cG [] rfl (c4) ?_)
        |refine iX (k:= ?_)
        |refine nB ?_
        |apply cj.go
        |refine nO ?_)
   all_goals first|rfl|trivial|(exfalso;simp_all;done)
 |false=>
  rw[if_neg (by decide)]
  refine ai.soft (?_:ai _ _ _ _ (.tup [.a 6 [J 0,J 0, .ows 66 3 [],J 0,J 0, .ows 66 3 []],B false])) (.tup (.cons (.a (.same (.same (.ro (.same (.same (.ro .nil))))))) (.cons .same .nil)))
  refine cX Tryz.func212 (h:= ?_)
  repeat'((conv=>whnf);first
   |refine ah.mk ?_ ?_
   |((first|apply bA|apply bB|apply bC|apply bD|apply bE|apply bF)<;>intro h<;>(try simp only[List.length_map] at h)<;>(try omega)<;>(try contradiction))|(guard_target=aa _ 220 _ _ _ _;refine cP rfl (c1) ?_)
   |refine iX (k:= ?_)
   |refine nB ?_
   |apply cj.go
   |refine nO ?_)
  all_goals first|rfl|trivial
def GH:List ByteArray:=[
 ⟨#[40,97,48,32,43,32,40,97,49,32,43,32,97,50,41,41,32,61,32,40,40,97,48,32,43,32,97,49,41,32,43,32,97,50,41]⟩,
 ⟨#[40,97,48,32,43,32,97,49,41,32,61,32,40,97,49,32,43,32,97,48,41]⟩,
 ⟨#[40,97,48,32,43,32,48,41,32,61,32,97,48]⟩,
 ⟨#[40,97,48,32,43,32,97,48,41,32,61,32,97,48]⟩,
 ⟨#[40,97,48,32,40,97,49,32,97,50,41,41,32,61,32,40,40,97,48,32,97,49,41,32,97,50,41]⟩,
 ⟨#[40,49,32,97,48,41,32,61,32,97,48]⟩,
 ⟨#[40,97,48,32,49,41,32,61,32,97,48]⟩,
 ⟨#[40,97,48,32,40,97,49,32,43,32,97,50,41,41,32,61,32,40,40,97,48,32,97,49,41,32,43,32,40,97,48,32,97,50,41,41]⟩,
 ⟨#[40,40,97,48,32,43,32,97,49,41,32,97,50,41,32,61,32,40,40,97,48,32,97,50,41,32,43,32,40,97,49,32,97,50,41,41]⟩,
 ⟨#[40,48,32,97,48,41,32,61,32,48]⟩,
 ⟨#[40,97,48,32,48,41,32,61,32,48]⟩,
 ⟨#[40,49,32,43,32,40,97,48,32,97,48,42,41,41,32,61,32,97,48,42]⟩,
 ⟨#[40,49,32,43,32,40,97,48,42,32,97,48,41,41,32,61,32,97,48,42]⟩,
 ⟨#[40,116,48,32,116,48,41,32,61,32,116,48]⟩,
 ⟨#[40,116,48,32,116,49,41,32,61,32,40,116,49,32,116,48,41]⟩,
 ⟨#[40,116,48,32,43,32,126,116,48,41,32,61,32,49]⟩,
 ⟨#[40,116,48,32,126,116,48,41,32,61,32,48]⟩,
 ⟨#[126,126,116,48,32,61,32,116,48]⟩,
 ⟨#[126,40,116,48,32,43,32,116,49,41,32,61,32,40,126,116,48,32,126,116,49,41]⟩,
 ⟨#[126,40,116,48,32,116,49,41,32,61,32,40,126,116,48,32,43,32,126,116,49,41]⟩,
 ⟨#[126,48,32,61,32,49]⟩,
 ⟨#[126,49,32,61,32,48]⟩,
 ⟨#[40,116,48,32,43,32,49,41,32,61,32,49]⟩,
 ⟨#[40,40,116,48,32,43,32,116,49,41,32,40,116,48,32,43,32,116,50,41,41,32,61,32,40,116,48,32,43,32,40,116,49,32,116,50,41,41]⟩]
theorem KG:∀x∈GH,x.size≤1000000:=by decide
abbrev eS(x:ByteArray):List CV:=[.val (.string x)]
theorem B9:ai Tryz.prog 202 [] [] (.c (.ows 9 1 (GH.map eS))):=by
 refine cX Tryz.func202 (h:= ?_)
 repeat'((conv=>whnf);first
  |refine ah.mk ?_ ?_
  |(apply Fact.mk;intro hL;try simp only[List.length_map,maxLen] at hL)
  |refine nO ?_)
 all_goals first|rfl|trivial
theorem xJ:ai Tryz.prog 213 [] [] (.a 2 [J 3,J 4]):=by
 refine cX Tryz.func213 (h:= ?_)
 repeat'((conv=>whnf);first
  |refine ah.mk ?_ ?_
  |refine iX (k:= ?_)
  |refine nO ?_)
 all_goals first|rfl|trivial
def iw:List bX:=GH.map fun x=>(v8 3 4 x).1
end Go.Proofs.YtgbggaddpbghfaaGreat
namespace Go.Proofs.YtgbggaddpbghfaaGreat
open Go Go.KA Go.Proofs
set_option maxHeartbeats 16000000
set_option maxRecDepth 100000
theorem Gz:GH.length=24:=rfl
theorem vF:iw.length=24:=rfl
theorem BF:bT 3 4=true:=rfl
theorem JU{i:Nat}(h:i<24):(GH.getD i ⟨#[]⟩).size≤1000000:=by
 rw[getD_eq (show i<GH.length from h)]
 exact KG _ (List.getElem_mem _)
abbrev NT:bX:=⟨cQ,cQ⟩
theorem JH{i:Nat}(h:i<24):iw.getD i NT=(v8 3 4 (GH.getD i ⟨#[]⟩)).1:=by
 rw[getD_eq (show i<iw.length from h),getD_eq (show i<GH.length from h)]
 unfold iw
 rw[List.getElem_map]
theorem Kj{i:Nat}(h:i<24):(iw.take i).map aV++[aV (iw.getD i NT)]=(iw.take (i+1)).map aV:=by
 rw[List.take_add_one,List.getElem?_eq_getElem (show i<iw.length from h),getD_eq (show i<iw.length from h),List.map_append]
 rfl
theorem Ik:ai Tryz.prog 210 [] [] (.c (.ows 68 6 (iw.map aV))):=by
 have c1:=B9
 have c3:∀i,i<24→ai Tryz.prog 212 [.a 2 [J 3,J 4],F4 (GH.getD i ⟨#[]⟩)] [] (.tup [.a 6 (aV (iw.getD i NT)),B (v8 3 4 (GH.getD i ⟨#[]⟩)).2]):=fun i h=>by
  rw[JH h]
  exact wO 3 4 BF _ (JU h)
 have hl:=Gz
 have hq:=vF
 have hn:=fun i h=>Kj (i:=i) h
 generalize GH=A at c1 c3 hl
 generalize iw=Q at c3 hq hn⊢
 have fin:Q.map aV=(Q.take 24).map aV:=by rw[List.take_of_length_le (by omega)]
 rw[fin]
 refine cX Tryz.func210 (h:= ?_)
 repeat'((conv=>whnf);first
  |refine ah.mk ?_ ?_|(guard_target=~ aP 4 _ _ _ _ _ _;refine tJ (List (List CV)× Nat) [1] (fun⟨rows,i⟩=>[(2, .lw 2),(3,I (i:Nat))]) (fun⟨rows,i⟩=>[(2, .row none 68 6 rows)]) (fun⟨rows,i⟩=>i≤24∧rows=(Q.take i).map aV∧rows.length≤24) (fun⟨rows,i⟩=>24-i) ([],0) (by exact⟨Nat.zero_le _,by simp,Nat.zero_le _⟩) (fun A ha=> ?_);obtain⟨rows,i⟩:=A;have ha:i≤24∧rows=(Q.take i).map aV∧rows.length≤24:=ha)
  |refine nx ((rows++[aV (Q.getD i NT)],i+1):List (List CV)× Nat) (by exact⟨by show i+1≤24;omega,by show rows++_=_;rw[ha.2.1];exact hn i (by omega),by show(rows++_).length≤24;rw[List.length_append,ha.2.1,List.length_map,List.length_take];simp only[List.length_cons,List.length_nil];omega⟩)
  |(apply Fact.mk;intro hL;try simp only[List.length_map,maxLen] at hL)
  |((first|apply bA|apply bB|apply bC|apply bD|apply bE|apply bF)<;>intro h<;>(try simp only[List.length_map] at h)<;>(try omega)<;>(try contradiction))|(guard_target=aa _ 202 _ _ _ _;refine cG [] rfl (c1) ?_)|(guard_target=aa _ 213 _ _ _ _;refine cG [] rfl (xJ) ?_)|(guard_target=aa _ 212 _ _ _ _;refine cG [] rfl (c3 i (by omega)) ?_)
  |refine aR ?_|(guard_target=Index _ _ _;first|refine Index.mk _ (aF (d:=⟨#[]⟩) (i:=i) (by omega)) ?_)
  |refine iX (k:= ?_)
  |refine nB ?_
  |apply ay.no
  |apply cj.go|(guard_target=aQ _ _;refine aQ.mk (by first|((simp only[List.length_cons,List.length_nil,maxLen];constructor<;>omega))|fail) ?_)
  |refine nO ?_)
 all_goals first|rfl|trivial|((have h9:=ha.2.1);(have h8:i=24:=by have:=ha.1;omega);rw[h8] at h9;rw[h9];done)
theorem Jq(p:cE)(k use:Int)(h0:0≤use)(h1:use≤23):ai Tryz.prog 196 [.c (.rp 3 (cL p)),I k,I use] [] (.tup [.a 6 (aV (jw iw p k use).1),B (jw iw p k use).2]):=by
 have c1:=B9
 have e:jw iw p k use=(iw.getD use.toNat NT,true):=if_pos h0
 rw[e]
 have c3:ai Tryz.prog 212 [.a 2 [J 3,J 4],F4 (GH.getD use.toNat ⟨#[]⟩)] [] (.tup [.a 6 (aV (iw.getD use.toNat NT)),B (v8 3 4 (GH.getD use.toNat ⟨#[]⟩)).2]):=by
  rw[JH (by omega)]
  exact wO 3 4 BF _ (JU (by omega))
 have hl:=Gz
 generalize GH=A at c1 c3 hl
 generalize iw.getD use.toNat NT=q at c3⊢
 refine cX Tryz.func196 (h:= ?_)
 repeat'((conv=>whnf);first
  |refine ah.mk ?_ ?_
  |(apply Fact.mk;intro hL;try simp only[List.length_map,maxLen] at hL)
  |((first|apply bA|apply bB|apply bC|apply bD|apply bE|apply bF)<;>intro h<;>(try simp only[List.length_map] at h)<;>(try omega)<;>(try contradiction))|(guard_target=aa _ 202 _ _ _ _;refine cG [] rfl (c1) ?_)|(guard_target=aa _ 213 _ _ _ _;refine cG [] rfl (xJ) ?_)|(guard_target=aa _ 212 _ _ _ _;refine cG [] rfl (c3) ?_)
  |refine aR ?_|(guard_target=Index _ _ _;first|refine Index.mk _ (aF (d:=⟨#[]⟩) (i:=use.toNat) (by omega)) ?_)
  |refine iX (k:= ?_)
  |refine nB ?_
  |apply ay.no
  |apply cj.go|(guard_target=aQ _ _;refine aQ.mk (by first|((simp only[List.length_map];constructor<;>omega))|fail) ?_)
  |refine nO ?_)
 all_goals first|rfl|trivial
theorem JN(p:cE)(k use:Int)(h0:use<0)(h1: -1000000≤use)(hk:k≤1000000):ai Tryz.prog 196 [.c (.rp 3 (cL p)),I k,I use] [] (.tup [.a 6 (aV (jw iw p k use).1),B (jw iw p k use).2]):=by
 obtain⟨R,hR⟩:∃R,jw iw p k use=R:=⟨_,rfl⟩
 rw[hR]
 unfold jw at hR
 rw[if_neg (by omega)] at hR
 have soft:∀{f:Nat} {args:List SV},ai Tryz.prog f args [] (.tup [.a 6 [J 0,J 0, .ows 66 3 [],J 0,J 0, .ows 66 3 []],B false])→ai Tryz.prog f args [] (.tup [.a 6 (aV ⟨cQ,cQ⟩),B false]):=fun h=>
  h.soft (.tup (.cons (.a (.same (.same (.ro (.same (.same (.ro .nil))))))) (.cons .same .nil)))
 by_cases h2: -1-use≥k
 ·rw[if_pos h2] at hR
  subst hR
  refine soft ?_
  refine cX Tryz.func196 (h:= ?_)
  repeat'((conv=>whnf);first
   |refine ah.mk ?_ ?_
   |(apply Fact.mk;intro hL;try simp only[List.length_map,maxLen] at hL)
   |((first|apply bA|apply bB|apply bC|apply bD|apply bE|apply bF)<;>intro h<;>(try simp only[List.length_map] at h)<;>(try omega)<;>(try contradiction))
   |refine aR ?_
   |refine iX (k:= ?_)
   |refine nB ?_
   |apply ay.no
   |apply cj.go
   |refine nO ?_)
  all_goals first|rfl|trivial
 rw[if_neg h2] at hR
 by_cases h3: -1-use≥(p.aj.length:Nat)
 ·rw[if_pos h3] at hR
  subst hR
  refine soft ?_
  refine cX Tryz.func196 (h:= ?_)
  repeat'((conv=>whnf);first
   |refine ah.mk ?_ ?_
   |(apply Fact.mk;intro hL;try simp only[List.length_map,maxLen] at hL)
   |((first|apply bA|apply bB|apply bC|apply bD|apply bE|apply bF)<;>intro h<;>(try simp only[List.length_map] at h)<;>(try omega)<;>(try contradiction))
   |refine aR ?_
   |refine iX (k:= ?_)
   |refine nB ?_
   |apply ay.no
   |apply cj.go
   |refine nO ?_)
  all_goals first|rfl|trivial
 rw[if_neg h3] at hR
 subst hR
 refine cX Tryz.func196 (h:= ?_)
 repeat'((conv=>whnf);first
  |refine ah.mk ?_ ?_
  |(apply Fact.mk;intro hL;try simp only[List.length_map,maxLen] at hL)
  |((first|apply bA|apply bB|apply bC|apply bD|apply bE|apply bF)<;>intro h<;>(try simp only[List.length_map] at h)<;>(try omega)<;>(try contradiction))
  |refine aR ?_|(guard_target=Index _ _ _;first|refine Index.mk _ (aF (d:=⟨cQ,cQ,0,0,[]⟩) (i:=(-1-use).toNat) (by omega)) ?_)
  |refine iX (k:= ?_)
  |refine nB ?_
  |apply ay.no
  |apply cj.go
  |refine nO ?_)
 all_goals first|rfl|trivial
mutual
def kG:ae→Bool
 | .mk _ n ks=>decide (0≤n∧n≤3)&&oL ks
def oL:List ae→Bool
 |[]=>true
 |x::xs=>kG x&&oL xs
end
theorem xb:∀{l:List ae} {x:ae},x∈l→oL l=true→kG x=true
 |y::l,x,h,hl=>by
  simp only[oL,Bool.and_eq_true] at hl
  rcases List.mem_cons.1 h with rfl|h
  ·exact hl.1
  ·exact xb h hl.2
theorem lK{t a:Int}(ht:t≤3)(ha:a≤4){e:ae}(h:Tree t a e):kG e=true:=by
 induction h with
 |zero=>rfl
 |one=>rfl
 |test h0 h1=>simp only[kG,oL,Bool.and_true,decide_eq_true_eq];omega
 |act h0 h1=>simp only[kG,oL,Bool.and_true,decide_eq_true_eq];omega
 |not hc h ih=>simp[kG,oL,ih]
 |sum hx hy ih1 ih2=>simp[kG,oL,ih1,ih2]
 |dot hx hy ih1 ih2=>simp[kG,oL,ih1,ih2]
 |star hx ih=>simp[kG,oL,ih]
theorem dx{t a:Int}{e:ae}(h:aW t a e=true):ao e≤200:=by
 unfold aW at h
 simp only[Bool.and_eq_true,decide_eq_true_eq] at h
 have h2:=((mR e).1 200).1 h.1
 unfold cV at h2
 omega
end Go.Proofs.YtgbggaddpbghfaaGreat
