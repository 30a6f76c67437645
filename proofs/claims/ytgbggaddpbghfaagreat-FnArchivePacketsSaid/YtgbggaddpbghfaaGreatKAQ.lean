/- Contracts of the reference's reader of expressions: what is read owns its memory. Conditions: bounds of size. -/
import Derived.Test.YtgbggaddpbghfaaGreatKAP
namespace Go.Proofs.YtgbggaddpbghfaaGreat
open Go Go.KA Go.Proofs
set_option maxHeartbeats 16000000
set_option maxRecDepth 100000
section
variable(t:ByteArray)(hz:t.size≤100000)
include hz
theorem OF(i:Nat)(d:Int)(hi:i<t.size):ah Tryz.prog 221 [.c (.op (gi t ⟨i,d,false⟩))] [some [.op (gi t (qz t ⟨i,d,false⟩).2)]] (.a 3 (bN (qz t ⟨i,d,false⟩).1)):=by
 have hp:=fun j=>kM t hz ⟨j,d,false⟩
 have hn:=fun j=>rQ (t.extract (i+1) j)
 have hd:=Eu (t:=t) (i:=i+1) (by omega)
 simp only[qz,Bool.false_or]
 refine dX ?_
 obtain⟨k,hk⟩:∃k:Int,(if dc t i=97 then(4:Int) else 3)=k:=⟨_,rfl⟩
 rw[hk]
 simp only[] at hp
 have hpi:=hp i
 generalize dc t i=p0 at hpi hk
 by_cases h97:p0=97
 ·rw[if_pos h97] at hk
  subst h97 hk
  refine cX Tryz.func221 (h:= ?_)
  repeat'((conv=>whnf);first
   |(guard_target=aq _ _;(obtain rfl:j=eg t (i+1):=(by have:=ta (t:=t) (i:=j) (by omega);omega));exact aq.mk rfl ⟨rfl,trivial⟩)|(guard_target=~ aK 6 _ _ _ _ _ _;refine l8 (Nat) [0,2,3,4] (fun j=>[]) (fun j=>[(0, .cc 4 (gi t ⟨j,d,false⟩))]) (fun j=>i+1≤j∧j≤t.size∧eg t j=eg t (i+1)) (fun j=>t.size+1-j) (i+1) (by exact⟨Nat.le_refl _,by omega,rfl⟩) (fun j ha=> ?_))
   |refine rL (j+1:Nat) (by exact⟨by show i+1≤j+1;omega,by have:=dC (t:=t) (i:=j) (by omega);show j+1≤_;omega,by show eg t (j+1)=_;rw[←ha.2.2];exact(sN (by omega) (by omega)).symm⟩)
   |((first|apply bA|apply bB|apply bC|apply bD|apply bE|apply bF)<;>intro h<;>(try simp only[List.length_map] at h)<;>(try omega)<;>(try contradiction))|(guard_target=aa _ 218 _ _ _ _;refine cP rfl (hpi) ?_)|(guard_target=aa _ 218 _ _ _ _;refine cP rfl (hp j) ?_)|(guard_target=aa _ 226 _ _ _ _;refine cP rfl (hn j) ?_)
   |refine aR ?_
   |refine nB ?_
   |refine nO ?_)
  all_goals first|rfl|exact⟨rfl,trivial⟩|trivial
 ·rw[if_neg h97] at hk
  subst hk
  refine cX Tryz.func221 (h:= ?_)
  repeat'((conv=>whnf);first
   |(guard_target=aq _ _;(obtain rfl:j=eg t (i+1):=(by have:=ta (t:=t) (i:=j) (by omega);omega));exact aq.mk rfl ⟨rfl,trivial⟩)|(guard_target=~ aK 6 _ _ _ _ _ _;refine l8 (Nat) [0,2,3,4] (fun j=>[]) (fun j=>[(0, .cc 4 (gi t ⟨j,d,false⟩))]) (fun j=>i+1≤j∧j≤t.size∧eg t j=eg t (i+1)) (fun j=>t.size+1-j) (i+1) (by exact⟨Nat.le_refl _,by omega,rfl⟩) (fun j ha=> ?_))
   |refine rL (j+1:Nat) (by exact⟨by show i+1≤j+1;omega,by have:=dC (t:=t) (i:=j) (by omega);show j+1≤_;omega,by show eg t (j+1)=_;rw[←ha.2.2];exact(sN (by omega) (by omega)).symm⟩)
   |((first|apply bA|apply bB|apply bC|apply bD|apply bE|apply bF)<;>intro h<;>(try simp only[List.length_map] at h)<;>(try omega)<;>(try contradiction))|(guard_target=aa _ 218 _ _ _ _;refine cP rfl (hpi) ?_)|(guard_target=aa _ 218 _ _ _ _;refine cP rfl (hp j) ?_)|(guard_target=aa _ 226 _ _ _ _;refine cP rfl (hn j) ?_)
   |refine aR ?_
   |refine nB ?_
   |refine nO ?_)
  all_goals first|rfl|exact⟨rfl,trivial⟩|trivial
theorem O4(f:iH→ae × iH)(d0:Int)(h0:0≤d0)(h1:d0≤100)(hf:∀s:iH,0≤s.deep→s.deep≤101→(s.bad=false→s.deep≤100)→s.at_≤t.size→rW t s (f s).1 (f s).2 (if s.bad=true then s.deep+1 else 101))
 (hE:∀s:iH,0≤s.deep→s.deep≤101→(s.bad=false→s.deep=d0)→s.at_≤t.size→ah Tryz.prog 209 [.c (.op (gi t s))] [some [.op (gi t (f s).2)]] (.a 3 (bN (f s).1)))
 (i:Nat)(hi:i≤t.size)(h3:dc t i=40):ah Tryz.prog 222 [.c (.op (gi t ⟨i,d0,false⟩))] [some [.op (gi t (jc t f ⟨i,d0,false⟩).2)]] (.a 3 (bN (jc t f ⟨i,d0,false⟩).1)):=by
 have hs:=dC (t:=t) (i:=i) (by omega)
 have e1:dY t ⟨i,d0,false⟩ 40=⟨i+1,d0,false⟩:=if_pos h3
 have c1:=mr t hz ⟨i,d0,false⟩ 40 hi
 rw[e1] at c1
 have a1:=hf ⟨i+1,d0,false⟩ h0 (by simp only[];omega) (fun _=>h1) (by simp only[];omega)
 have c2:=hE ⟨i+1,d0,false⟩ h0 (by simp only[];omega) (fun _=>rfl) (by simp only[];omega)
 unfold jc
 rw[e1]
 simp only[]
 generalize f ⟨i+1,d0,false⟩=A at a1 c2⊢
 obtain⟨⟨ak,an,aks⟩,s1⟩:=A
 obtain⟨p1,p2,p3,p4,p5,p6⟩:=a1
 simp only[Bool.false_eq_true,if_false] at p1 p2 p3 p4 p5 p6 c2⊢
 obtain⟨q1,q2,q3,q4⟩:=oF (t:=t) (s:=s1) (b:=32) (by omega) p1
 have c3:=mr t hz s1 32 p1
 have c4:=kM t hz (dY t s1 32)
 obtain⟨r1,r2,r3,r4⟩:=wM (t:=t) (s:=dY t s1 32) q1
 have hT:∀s3:iH,s3.at_≤t.size→ah Tryz.prog 227 [.c (.op (gi t s3)),U8 41] [some [.op (gi t (dY t s3 41))],none] (.tup []):=fun s3 h=>mr t hz s3 41 h
 have fin:∀(K:Int × iH),K.2.at_≤t.size→K.2.deep=(dY t s1 32).deep→(K.2.bad=false→(dY t s1 32).bad=false)→rW t K.2 (f K.2).1 (f K.2).2 (if K.2.bad=true then K.2.deep+1 else 101)∧ah Tryz.prog 209 [.c (.op (gi t K.2))] [some [.op (gi t (f K.2).2)]] (.a 3 (bN (f K.2).1)):=by
  intro K k1 k2 k3
  exact⟨hf K.2 (by omega) (by omega) (fun k=>by have:=(p3 (q4 (k3 k))).2;omega) k1,hE K.2 (by omega) (by omega) (fun k=>by have:=(p3 (q4 (k3 k))).2;omega) k1⟩
 obtain⟨g1,g2⟩:=fin _ r1 r3 r4
 clear fin hE hf
 have soft:∀{k:Int} {b:ae} {s':iH},ah Tryz.prog 222 [.c (.op (gi t ⟨i,d0,false⟩))] [some [.op (gi t s')]] (.a 3 [J k,J 0, .own 66 3 [bN (.mk ak an aks),bN b]])→ah Tryz.prog 222 [.c (.op (gi t ⟨i,d0,false⟩))] [some [.op (gi t s')]] (.a 3 (bN (.mk k 0 [.mk ak an aks,b]))):=by
  intro k b s' h
  have e:bN (.mk k 0 [.mk ak an aks,b])=[J k,J 0, .own 66 3 [bN (.mk ak an aks),bN b]]:=by
   show[J k,J 0,CV.own 66 3 [ay (.mk ak an aks),ay b]]=_
   rw[dt,dt]
  rw[e]
  exact h
 generalize hs2:dY t s1 32=s2 at*
 obtain⟨j2,d2,b2⟩:=s2
 simp only[] at*
 by_cases h43:dc t j2=43
 ·have hj2:=dC (t:=t) (i:=j2) (by omega)
  have e2:oR t ⟨j2,d2,b2⟩=(6,dY t ⟨j2+1,d2,b2⟩ 32):=if_pos h43
  have c5:=mr t hz ⟨j2+1,d2,b2⟩ 32 (by simp only[];omega)
  rw[e2] at g1 g2⊢
  rw[h43] at c4
  simp only[] at g1 g2⊢
  generalize dY t ⟨j2+1,d2,b2⟩ 32=s3 at*
  obtain⟨j3,d3,b3⟩:=s3
  generalize f ⟨j3,d3,b3⟩=Bb at*
  obtain⟨⟨bk,bn,bks⟩,s4⟩:=Bb
  have c6:=hT s4 g1.size
  obtain⟨j4,d4,b4⟩:=s4
  simp only[] at*
  generalize dY t ⟨j4,d4,b4⟩ 41=s5 at*
  obtain⟨j5,d5,b5⟩:=s5
  refine soft ?_
  refine cX Tryz.func222 (h:= ?_)
  repeat'((conv=>whnf);first
   |refine aq.mk ?_ ?_
   |((first|apply bA|apply bB|apply bC|apply bD|apply bE|apply bF)<;>intro h<;>(try simp only[List.length_map] at h)<;>(try omega)<;>(try contradiction))|(guard_target=aa _ 227 _ _ _ _;refine cG [true,false] rfl (c1) ?_)|(guard_target=aa _ 209 _ _ _ _;refine cG [true] rfl (c2) ?_)|(guard_target=aa _ 227 _ _ _ _;refine cG [true,false] rfl (c3) ?_)|(guard_target=aa _ 218 _ _ _ _;refine cP rfl (c4) ?_)|(guard_target=aa _ 227 _ _ _ _;refine cG [true,false] rfl (c5) ?_)|(guard_target=aa _ 209 _ _ _ _;refine cG [true] rfl (g2) ?_)|(guard_target=aa _ 227 _ _ _ _;refine cG [true,false] rfl (c6) ?_)
   |refine aR ?_)
  all_goals first|rfl|exact⟨rfl,trivial⟩|trivial
 ·have e2:oR t ⟨j2,d2,b2⟩=(7,⟨j2,d2,b2⟩):=if_neg h43
  rw[e2] at g1 g2⊢
  simp only[] at g1 g2⊢
  generalize dc t j2=p at*
  generalize f ⟨j2,d2,b2⟩=Bb at*
  obtain⟨⟨bk,bn,bks⟩,s4⟩:=Bb
  have c6:=hT s4 g1.size
  obtain⟨j4,d4,b4⟩:=s4
  simp only[] at*
  generalize dY t ⟨j4,d4,b4⟩ 41=s5 at*
  obtain⟨j5,d5,b5⟩:=s5
  refine soft ?_
  refine cX Tryz.func222 (h:= ?_)
  repeat'((conv=>whnf);first
   |refine aq.mk ?_ ?_
   |((first|apply bA|apply bB|apply bC|apply bD|apply bE|apply bF)<;>intro h<;>(try simp only[List.length_map] at h)<;>(try omega)<;>(try contradiction))|(guard_target=aa _ 227 _ _ _ _;refine cG [true,false] rfl (c1) ?_)|(guard_target=aa _ 209 _ _ _ _;refine cG [true] rfl (c2) ?_)|(guard_target=aa _ 227 _ _ _ _;refine cG [true,false] rfl (c3) ?_)|(guard_target=aa _ 218 _ _ _ _;refine cP rfl (c4) ?_)|(guard_target=aa _ 209 _ _ _ _;refine cG [true] rfl (g2) ?_)|(guard_target=aa _ 227 _ _ _ _;refine cG [true,false] rfl (c6) ?_))
  all_goals first|rfl|exact⟨rfl,trivial⟩|trivial
end
section
variable(t:ByteArray)(hz:t.size≤100000)
include hz
theorem HI(s:iH)(f:iH→ae × iH)(h0:0≤s.deep)(h1:s.deep≤101)(hb:s.bad=true∨s.deep+1>100):ah Tryz.prog 209 [.c (.op (gi t s))] [some [.op (gi t (fh t f s).2)]] (.a 3 (bN (fh t f s).1)):=by
 have _:=hz
 unfold fh
 rw[if_pos hb]
 refine dX ?_
 obtain⟨i,d,b⟩:=s
 simp only[] at h0 h1 hb⊢
 refine ah.rG (?_:ah _ _ _ [some [.op [.val (.string t),J (i:Nat),J (d+1), .cb true]]] _) (.re (.op (.same (.same (.same (.cb .nil)))) .nil) .nil)
 cases b with
 |true=>
  refine cX Tryz.func209 (h:= ?_)
  repeat'((conv=>whnf);first
   |refine aq.mk ?_ ?_
   |((first|apply bA|apply bB|apply bC|apply bD|apply bE|apply bF)<;>intro h<;>(try simp only[List.length_map] at h)<;>(try omega)<;>(try contradiction))
   |refine aR ?_)
  all_goals first|rfl|exact⟨rfl,trivial⟩|trivial|(exfalso;simp_all;done)
 |false=>
  have hb:d+1>100:=by simpa using hb
  refine cX Tryz.func209 (h:= ?_)
  repeat'((conv=>whnf);first
   |refine aq.mk ?_ ?_
   |((first|apply bA|apply bB|apply bC|apply bD|apply bE|apply bF)<;>intro h<;>(try simp only[List.length_map] at h)<;>(try omega)<;>(try contradiction))
   |refine aR ?_)
  all_goals first|rfl|exact⟨rfl,trivial⟩|trivial|(exfalso;simp_all;done)
theorem Lh(i:Nat)(d:Int)(f:iH→ae × iH)(h0:0≤d)(h1:d+1≤100)(hi:i≤t.size)(ho:rW t ⟨i,d+1,false⟩ (f ⟨i,d+1,false⟩).1 (f ⟨i,d+1,false⟩).2 102)
 (hI:ah Tryz.prog 217 [.c (.op (gi t ⟨i,d+1,false⟩))] [some [.op (gi t (f ⟨i,d+1,false⟩).2)]] (.a 3 (bN (f ⟨i,d+1,false⟩).1))):
 ah Tryz.prog 209 [.c (.op (gi t ⟨i,d,false⟩))] [some [.op (gi t (fh t f ⟨i,d,false⟩).2)]] (.a 3 (bN (fh t f ⟨i,d,false⟩).1)):=by
 have _:=hi
 unfold fh
 rw[if_neg (by simp only[Bool.false_eq_true,false_or];omega)]
 simp only[]
 generalize f ⟨i,d+1,false⟩=A at ho hI⊢
 obtain⟨e,⟨j,d2,b2⟩⟩:=A
 obtain⟨g1,g2,g3,g4,g5,g6⟩:=ho
 simp only[] at g1 g2 g3 g4 g5 g6 hI⊢
 cases b2 with
 |true=>
  rw[if_pos rfl]
  obtain⟨k,n,ks⟩:=e
  refine cX Tryz.func209 (h:= ?_)
  repeat'((conv=>whnf);first
   |refine aq.mk ?_ ?_|(guard_target=~ aK 6 _ _ _ _ _ _;refine lp (Unit) [0,2,3] (fun u=>[]) (fun u=>True) (fun u=>0) () (by trivial) (fun u ha=> ?_))
   |((first|apply bA|apply bB|apply bC|apply bD|apply bE|apply bF)<;>intro h<;>(try simp only[List.length_map] at h)<;>(try omega)<;>(try contradiction))|(guard_target=aa _ 217 _ _ _ _;refine cG [true] rfl (hI) ?_)
   |refine aR ?_)
  all_goals first|rfl|exact⟨rfl,trivial⟩|trivial
 |false=>
  rw[if_neg (by decide)]
  have hp:=fun m=>kM t hz ⟨m,d2,false⟩
  simp only[] at hp
  have hst:∀(m:Nat) (x:ae),dc t m=42→ej t m x=((ej t (m+1) (.mk 8 0 [x])).1,(ej t (m+1) (.mk 8 0 [x])).2+1):=fun m x h=>zI x h
  have hse:∀(m:Nat) (x:ae),¬dc t m=42→ej t m x=(x,0):=fun m x h=>yI x h
  generalize hS:ej t j e=S
  obtain⟨X,c⟩:=S
  have fin:∀(m:Nat) (x:ae) (R:List (List CV)),R=x.kids.map ay→¬dc t m=42→(ej t m x).1=X→m+(ej t m x).2=j+c→bN X=[J x.kind,J x.num, .own 66 3 R]∧j+c=m:=by
   intro m x R hR hm h1 h2
   rw[hse m x hm] at h1 h2
   simp only[] at h1 h2
   subst h1 hR
   exact⟨rfl,by omega⟩
  refine cX Tryz.func209 (h:= ?_)
  repeat'((conv=>whnf);first
   |(guard_target=Gh _ _ _ _ _;refine Gh.I7 6 3 rfl ?_)|(guard_target=aq _ _;(obtain⟨h8,h9⟩:=fin m x R ha.1 (by omega) ha.2.2.1 ha.2.2.2);rw[h8,h9];exact aq.mk rfl ⟨rfl,trivial⟩)|(guard_target=~ aK 6 _ _ _ _ _ _;refine l8 (ae × List (List CV)× Nat) [0,2,3] (fun⟨x,R,m⟩=>[]) (fun⟨x,R,m⟩=>[(0, .cc 4 (gi t ⟨m,d2,false⟩)),(5, .cells [.c (J x.kind), .c (J x.num), .lw 3]),(3, .aG none 66 3 R)]) (fun⟨x,R,m⟩=>R=x.kids.map ay∧m≤t.size∧(ej t m x).1=X∧m+(ej t m x).2=j+c) (fun⟨x,R,m⟩=>t.size+1-m) (e,e.kids.map ay,j) (by exact⟨rfl,g1,by rw[hS],by rw[hS]⟩) (fun A ha=> ?_);obtain⟨x,R,m⟩:=A;have ha:R=x.kids.map ay∧m≤t.size∧(ej t m x).1=X∧m+(ej t m x).2=j+c:=ha)
   |refine rL ((.mk 8 0 [x],[[J x.kind,J x.num, .own 66 3 R]],m+1):ae × List (List CV)× Nat) (by exact⟨by show _=[ay x];rw[dt x,ha.1],by have:=dC (t:=t) (i:=m) (by omega);show m+1≤_;omega,by show(ej t (m+1) (.mk 8 0 [x])).1=X;rw[←ha.2.2.1,hst m x (by omega)],by show m+1+(ej t (m+1) (.mk 8 0 [x])).2=_;rw[←ha.2.2.2,hst m x (by omega)];(try simp only[]);omega⟩)
   |((first|apply bA|apply bB|apply bC|apply bD|apply bE|apply bF)<;>intro h<;>(try simp only[List.length_map] at h)<;>(try omega)<;>(try contradiction))|(guard_target=aa _ 217 _ _ _ _;refine cG [true] rfl (hI) ?_)|(guard_target=aa _ 218 _ _ _ _;refine cP rfl (hp m) ?_)
   |refine aR ?_)
  all_goals first|rfl|exact⟨rfl,trivial⟩|trivial
theorem zi(f:iH→ae × iH)(d0:Int)(h0:0≤d0)(h1:d0≤100)(ho:∀s:iH,s.bad=false→0≤s.deep→s.deep≤100→s.at_≤t.size→1≤s.deep→rW t s (f s).1 (f s).2 102)
 (hI:d0+1≤100→∀i,i≤t.size→ah Tryz.prog 217 [.c (.op (gi t ⟨i,d0+1,false⟩))] [some [.op (gi t (f ⟨i,d0+1,false⟩).2)]] (.a 3 (bN (f ⟨i,d0+1,false⟩).1)))
 (s:iH)(g0:0≤s.deep)(g1:s.deep≤101)(g2:s.bad=false→s.deep=d0)(g3:s.at_≤t.size):
 ah Tryz.prog 209 [.c (.op (gi t s))] [some [.op (gi t (fh t f s).2)]] (.a 3 (bN (fh t f s).1)):=by
 by_cases hb:s.bad=true∨s.deep+1>100
 ·exact HI t hz s f g0 g1 hb
 ·obtain⟨i,d,b⟩:=s
  simp only[not_or,Bool.not_eq_true] at hb g0 g1 g2 g3
  obtain⟨rfl,hd⟩:=hb
  have hd0:=g2 rfl
  subst hd0
  exact Lh t hz i d f g0 (by omega) g3 (ho ⟨i,d+1,false⟩ rfl (by simp only[];omega) (by simp only[];omega) g3 (by simp only[];omega)) (hI (by omega) i g3)
theorem CD(n:Nat)(d:Int)(h0:0≤d)(h1:d≤100)(i:Nat)(hi:i≤t.size)
 (hN:d+1≤100→i+1≤t.size→ah Tryz.prog 217 [.c (.op (gi t ⟨i+1,d+1,false⟩))] [some [.op (gi t (df t n ⟨i+1,d+1,false⟩).2)]] (.a 3 (bN (df t n ⟨i+1,d+1,false⟩).1)))
 (hP:dc t i=40→ah Tryz.prog 222 [.c (.op (gi t ⟨i,d,false⟩))] [some [.op (gi t (jc t (fh t (df t n)) ⟨i,d,false⟩).2)]] (.a 3 (bN (jc t (fh t (df t n)) ⟨i,d,false⟩).1))):
 ah Tryz.prog 217 [.c (.op (gi t ⟨i,d,false⟩))] [some [.op (gi t (df t (n+1) ⟨i,d,false⟩).2)]] (.a 3 (bN (df t (n+1) ⟨i,d,false⟩).1)):=by
 have hp:=kM t hz ⟨i,d,false⟩
 have hpp:0<dc t i→i<t.size:=fun h=>dC h
 have hnm:i<t.size→_:=fun h=>OF t hz i d h
 rw[df]
 simp only[] at hp⊢
 generalize dc t i=p at hp hpp hP
 by_cases g1:p=48
 ·rw[if_pos g1]
  subst g1
  have:=hpp (by decide)
  refine dX ?_
  refine cX Tryz.func217 (h:= ?_)
  repeat'((conv=>whnf);first
   |refine aq.mk ?_ ?_
   |((first|apply bA|apply bB|apply bC|apply bD|apply bE|apply bF)<;>intro h<;>(try simp only[List.length_map] at h)<;>(try omega)<;>(try contradiction))|(guard_target=aa _ 218 _ _ _ _;refine cP rfl (hp) ?_)
   |refine aR ?_)
  all_goals first|rfl|exact⟨rfl,trivial⟩|trivial
 rw[if_neg g1]
 by_cases g2:p=49
 ·rw[if_pos g2]
  subst g2
  have:=hpp (by decide)
  refine dX ?_
  refine cX Tryz.func217 (h:= ?_)
  repeat'((conv=>whnf);first
   |refine aq.mk ?_ ?_
   |((first|apply bA|apply bB|apply bC|apply bD|apply bE|apply bF)<;>intro h<;>(try simp only[List.length_map] at h)<;>(try omega)<;>(try contradiction))|(guard_target=aa _ 218 _ _ _ _;refine cP rfl (hp) ?_)
   |refine aR ?_)
  all_goals first|rfl|exact⟨rfl,trivial⟩|trivial
 rw[if_neg g2]
 by_cases g3:p=116∨p=97
 ·rw[if_pos g3]
  have:=hpp (by omega)
  have c:=hnm this
  generalize qz t ⟨i,d,false⟩=R at c⊢
  obtain⟨⟨k,m,ks⟩,s⟩:=R
  rcases g3 with rfl|rfl
  ·skip
   refine cX Tryz.func217 (h:= ?_)
   repeat'((conv=>whnf);first
     |refine aq.mk ?_ ?_
     |((first|apply bA|apply bB|apply bC|apply bD|apply bE|apply bF)<;>intro h<;>(try simp only[List.length_map] at h)<;>(try omega)<;>(try contradiction))|(guard_target=aa _ 218 _ _ _ _;refine cP rfl (hp) ?_)|(guard_target=aa _ 221 _ _ _ _;refine cG [true] rfl (c) ?_))
   all_goals first|rfl|exact⟨rfl,trivial⟩|trivial
  ·skip
   refine cX Tryz.func217 (h:= ?_)
   repeat'((conv=>whnf);first
     |refine aq.mk ?_ ?_
     |((first|apply bA|apply bB|apply bC|apply bD|apply bE|apply bF)<;>intro h<;>(try simp only[List.length_map] at h)<;>(try omega)<;>(try contradiction))|(guard_target=aa _ 218 _ _ _ _;refine cP rfl (hp) ?_)|(guard_target=aa _ 221 _ _ _ _;refine cG [true] rfl (c) ?_))
   all_goals first|rfl|exact⟨rfl,trivial⟩|trivial
 rw[if_neg g3]
 by_cases g4:p=126
 ·rw[if_pos g4]
  subst g4
  have:=hpp (by decide)
  by_cases g5:d+1>100
  ·rw[if_pos g5]
   refine dX ?_
   refine ah.rG (?_:ah _ _ _ [some [.op [.val (.string t),J ((i+1:Nat):Int),J (d+1), .cb true]]] _) (.re (.op (.same (.same (.same (.cb .nil)))) .nil) .nil)
   refine cX Tryz.func217 (h:= ?_)
   repeat'((conv=>whnf);first
     |refine aq.mk ?_ ?_
     |((first|apply bA|apply bB|apply bC|apply bD|apply bE|apply bF)<;>intro h<;>(try simp only[List.length_map] at h)<;>(try omega)<;>(try contradiction))|(guard_target=aa _ 218 _ _ _ _;refine cP rfl (hp) ?_)
     |refine aR ?_)
   all_goals first|rfl|exact⟨rfl,trivial⟩|trivial
  ·rw[if_neg g5]
   have c:=hN (by omega) (by omega)
   have hb:=gu (t:=t) n ⟨i+1,d+1,false⟩ rfl (by simp only[];omega) (by simp only[];omega) (by simp only[];omega)
   generalize df t n ⟨i+1,d+1,false⟩=R at c hb⊢
   obtain⟨⟨k,m,ks⟩,⟨j,d2,b2⟩⟩:=R
   have q1:=hb.Qx
   have q2:=hb.QH
   simp only[] at q1 q2
   refine xd ?_
   refine cX Tryz.func217 (h:= ?_)
   repeat'((conv=>whnf);first
     |refine aq.mk ?_ ?_
     |((first|apply bA|apply bB|apply bC|apply bD|apply bE|apply bF)<;>intro h<;>(try simp only[List.length_map] at h)<;>(try omega)<;>(try contradiction))|(guard_target=aa _ 218 _ _ _ _;refine cP rfl (hp) ?_)|(guard_target=aa _ 217 _ _ _ _;refine cG [true] rfl (c) ?_)
     |refine aR ?_)
   all_goals first|rfl|exact⟨rfl,trivial⟩|trivial
 rw[if_neg g4]
 by_cases g5:p=40
 ·rw[if_pos g5]
  have c:=hP g5
  subst g5
  generalize jc t (fh t (df t n)) ⟨i,d,false⟩=R at c⊢
  obtain⟨⟨k,m,ks⟩,s⟩:=R
  refine cX Tryz.func217 (h:= ?_)
  repeat'((conv=>whnf);first
   |refine aq.mk ?_ ?_
   |((first|apply bA|apply bB|apply bC|apply bD|apply bE|apply bF)<;>intro h<;>(try simp only[List.length_map] at h)<;>(try omega)<;>(try contradiction))|(guard_target=aa _ 218 _ _ _ _;refine cP rfl (hp) ?_)|(guard_target=aa _ 222 _ _ _ _;refine cG [true] rfl (c) ?_))
  all_goals first|rfl|exact⟨rfl,trivial⟩|trivial
 rw[if_neg g5]
 refine dX ?_
 refine ah.rG (?_:ah _ _ _ [some [.op [.val (.string t),J (i:Nat),J d, .cb true]]] _) (.re (.op (.same (.same (.same (.cb .nil)))) .nil) .nil)
 refine cX Tryz.func217 (h:= ?_)
 repeat'((conv=>whnf);first
  |refine aq.mk ?_ ?_
  |((first|apply bA|apply bB|apply bC|apply bD|apply bE|apply bF)<;>intro h<;>(try simp only[List.length_map] at h)<;>(try omega)<;>(try contradiction))|(guard_target=aa _ 218 _ _ _ _;refine cP rfl (hp) ?_))
 all_goals first|rfl|exact⟨rfl,trivial⟩|trivial
theorem Gp:∀(n:Nat) (d:Int),0≤d→d≤100→101≤d+n→∀i,i≤t.size→ah Tryz.prog 217 [.c (.op (gi t ⟨i,d,false⟩))] [some [.op (gi t (df t n ⟨i,d,false⟩).2)]] (.a 3 (bN (df t n ⟨i,d,false⟩).1))
 |0,d,h0,h1,h2,i,hi=>by omega
 |n+1,d,h0,h1,h2,i,hi=>by
  have ih:=Gp n
  refine CD t hz n d h0 h1 i hi (fun hd h=>ih (d+1) (by omega) hd (by omega) (i+1) h) fun h40=> ?_
  refine O4 t hz (fh t (df t n)) d h0 h1 (fun s a b c e=>r5 (fun s a b c e _=>gu n s a b c e) s a b c e) (fun s a b c e=> ?_) i hi h40
  exact zi t hz (df t n) d h0 h1 (fun s a b c e _=>gu n s a b c e) (fun hd i hi=>ih (d+1) (by omega) hd (by omega) i hi) s a b c e
theorem OX:ah Tryz.prog 209 [.c (.op (gi t ⟨0,0,false⟩))] [some [.op (gi t (kF t).2)]] (.a 3 (bN (kF t).1)):=
 zi t hz (df t 101) 0 (by decide) (by decide) (fun s a b c e _=>gu 101 s a b c e) (fun _ i hi=>Gp t hz 101 1 (by decide) (by decide) (by decide) i hi) ⟨0,0,false⟩ (by decide) (by decide) (fun _=>rfl) (Nat.zero_le _)
end
theorem Ab(t a:Int)(hs:bO t a=true)(x:ByteArray):ah Tryz.prog 189 [.a 2 [J t,J a],G3 x] [] (.tup [.a 3 (bN (iU t a x).1),I (iU t a x).2]):=by
 have c1:=kV t a
 rw[hs] at c1
 have soft:∀{f:Nat} {args:List SV} {n:Int},ah Tryz.prog f args [] (.tup [.a 3 [J 0,J 0, .ows 66 3 []],I n])→ah Tryz.prog f args [] (.tup [.a 3 (bN cL),I n]):=yM
 unfold iU
 by_cases h4:x.size>4000
 ·rw[if_pos h4]
  refine soft ?_
  refine cX Tryz.func189 (h:= ?_)
  repeat'((conv=>whnf);first
   |refine aq.mk ?_ ?_
   |((first|apply bA|apply bB|apply bC|apply bD|apply bE|apply bF)<;>intro h<;>(try simp only[List.length_map] at h)<;>(try omega)<;>(try contradiction))|(guard_target=aa _ 85 _ _ _ _;refine cP rfl (c1) ?_))
  all_goals first|rfl|exact⟨rfl,trivial⟩|trivial
 rw[if_neg h4]
 have c2:=OX x (by omega)
 have hb:=yL x
 have c3:=lJ t a (kF x).1 (by omega)
 rw[hs,fv] at c3
 unfold Qf
 generalize kF x=R at c2 c3⊢
 obtain⟨⟨k,n,ks⟩,⟨j,d,b⟩⟩:=R
 simp only[Bool.true_and] at c3⊢
 have e8:aI (.mk k n ks)=[J k,J n, .ro 3 (cW (ks.map ay))]:=by rw[bQ eM];rfl
 rw[e8] at c3
 generalize aY t a (.mk k n ks)=g at c3⊢
 cases b with
 |true=>
  rw[if_neg (by simp)]
  refine soft ?_
  refine cX Tryz.func189 (h:= ?_)
  repeat'((conv=>whnf);first
   |refine aq.mk ?_ ?_
   |((first|apply bA|apply bB|apply bC|apply bD|apply bE|apply bF)<;>intro h<;>(try simp only[List.length_map] at h)<;>(try omega)<;>(try contradiction))|(guard_target=aa _ 85 _ _ _ _;refine cP rfl (c1) ?_)|(guard_target=aa _ 209 _ _ _ _;refine cG [true] rfl (c2) ?_))
  all_goals first|rfl|exact⟨rfl,trivial⟩|trivial
 |false=>
  by_cases hj:j=x.size
  ·cases g with
   |true=>
    rw[if_pos ⟨by simp[hj],rfl⟩]
    refine cX Tryz.func189 (h:= ?_)
    repeat'((conv=>whnf);first
       |refine aq.mk ?_ ?_
       |((first|apply bA|apply bB|apply bC|apply bD|apply bE|apply bF)<;>intro h<;>(try simp only[List.length_map] at h)<;>(try omega)<;>(try contradiction))|(guard_target=aa _ 85 _ _ _ _;refine cP rfl (c1) ?_)|(guard_target=aa _ 209 _ _ _ _;refine cG [true] rfl (c2) ?_)|(guard_target=aa _ 174 _ _ _ _;refine cP rfl (c3) ?_))
    all_goals first|rfl|exact⟨rfl,trivial⟩|trivial
   |false=>
    rw[if_neg (by simp)]
    refine soft ?_
    refine cX Tryz.func189 (h:= ?_)
    repeat'((conv=>whnf);first
       |refine aq.mk ?_ ?_
       |((first|apply bA|apply bB|apply bC|apply bD|apply bE|apply bF)<;>intro h<;>(try simp only[List.length_map] at h)<;>(try omega)<;>(try contradiction))|(guard_target=aa _ 85 _ _ _ _;refine cP rfl (c1) ?_)|(guard_target=aa _ 209 _ _ _ _;refine cG [true] rfl (c2) ?_)|(guard_target=aa _ 174 _ _ _ _;refine cP rfl (c3) ?_))
    all_goals first|rfl|exact⟨rfl,trivial⟩|trivial
  ·rw[if_neg (by simp[hj])]
   refine soft ?_
   refine cX Tryz.func189 (h:= ?_)
   repeat'((conv=>whnf);first
        |refine aq.mk ?_ ?_
        |((first|apply bA|apply bB|apply bC|apply bD|apply bE|apply bF)<;>intro h<;>(try simp only[List.length_map] at h)<;>(try omega)<;>(try contradiction))|(guard_target=aa _ 85 _ _ _ _;refine cP rfl (c1) ?_)|(guard_target=aa _ 209 _ _ _ _;refine cG [true] rfl (c2) ?_))
   all_goals first|rfl|exact⟨rfl,trivial⟩|trivial
end Go.Proofs.YtgbggaddpbghfaaGreat
namespace Go.Proofs.YtgbggaddpbghfaaGreat
open Go Go.KA
theorem zZ:∀(e:ae) (n:Int),(aj e:Int)+1≤n→b9 e n=n-aj e-1
 | .mk k num kids,n,h=>by
   rw[b9]
   have h1:(aJ kids:Int)≤n-1:=by
    simp only[aj] at h
    omega
   rw[leftS_bud kids (n-1) h1]
   simp only[aj]
   omega
 where leftS_bud:∀(l:List ae) (n:Int),(aJ l:Int)≤n→dh l n=n-aJ l
 |[],n,h=>by simp[dh,aJ]
 |x::xs,n,h=>by
  rw[dh,if_neg (by have:(0:Int)≤aJ (x::xs):=by omega
                   omega)]
  simp only[aJ] at h⊢
  rw[zZ x n (by omega),leftS_bud xs _ (by omega)]
  omega
structure fq(t a:Int)(c:Bool)(d:Nat)(e:ae):Prop where
 tree:dK t a e=true
 cond:c=true→cQ e=true
 depth:eD e≤d+1
theorem fq.mono{t a:Int}{c:Bool}{d d':Nat}{e:ae}(h:fq t a c d e)(hd:d≤d'):fq t a c d' e:=⟨h.tree,h.cond,by have:=h.depth;omega⟩
theorem fq.any{t a:Int}{d:Nat}{e:ae}(h:fq t a true d e)(c:Bool):fq t a c d e:=⟨h.tree,fun _=>h.cond rfl,h.depth⟩
section
variable(g:jd)
theorem uO(s:Src)(c:Bool):fq g.au g.ai c 0 (gg s).1:=by
 have h:=ch s (n:=2) (by omega)
 have:bK s 2=0∨bK s 2=1:=by omega
 unfold gg
 rcases this with h1|h1<;>rw[h1]
 ·exact⟨rfl,fun _=>rfl,Nat.le_refl 1⟩
 ·exact⟨rfl,fun _=>rfl,Nat.le_refl 1⟩
theorem FK{n:Int}(hn:0≤n∧n<g.au)(c:Bool):fq g.au g.ai c 0 (.mk 3 n []):=by
 refine⟨?_,fun _=>rfl,Nat.le_refl 1⟩
 simp[dK,gE,cR,dJ]
 omega
theorem Ix{n:Int}(hn:0≤n∧n<g.ai):fq g.au g.ai false 0 (.mk 4 n []):=by
 refine⟨?_,(fun h=>by cases h),Nat.le_refl 1⟩
 simp[dK,gE,cR,dJ]
 omega
theorem uW(s:Src)(c:Bool):fq g.au g.ai c 0 (fN g s).1:=by
 unfold fN
 split
 ·split
  ·exact uO g _ c
  ·exact FK g (ch _ (by omega)) c
 ·exact uO g _ c
theorem oS(c:Bool)(s:Src):fq g.au g.ai c 0 (bS g c s).1:=by
 unfold bS
 split
 ·rename_i h
  obtain⟨rfl,h⟩:=h
  split
  ·exact uW g _ _
  ·exact Ix g (ch _ (by omega))
 ·exact uW g _ c
theorem H3{e:ae}{d:Nat}(h:fq g.au g.ai true d e)(c:Bool):fq g.au g.ai c (d+1) (.mk 5 0 [e]):=by
 have h1:=h.tree
 have h2:=h.cond rfl
 have h3:=h.depth
 refine⟨?_,fun _=> ?_, ?_⟩
 ·simp[dK,gE,cR,na,h1,h2]
 ·simp[cQ,na,dJ,h2]
 ·simp[eD,eN];omega
theorem Fz{e:ae}{d:Nat}(h:fq g.au g.ai false d e):fq g.au g.ai false (d+1) (.mk 8 0 [e]):=by
 have h1:=h.tree
 have h3:=h.depth
 refine⟨?_,(fun h=>by cases h), ?_⟩
 ·simp[dK,gE,cR,h1]
 ·simp[eD,eN];omega
theorem ED{k:Int}(hk:k=6∨k=7){c c1 c2:Bool}{e f:ae}{d:Nat}(h:fq g.au g.ai c1 d e)(h':fq g.au g.ai c2 d f)(hc:c=true→c1=true∧c2=true):fq g.au g.ai c (d+1) (sw k e f):=by
 have h1:=h.tree
 have h1':=h'.tree
 have h3:=h.depth
 have h3':=h'.depth
 refine⟨?_,fun hc'=> ?_, ?_⟩
 ·rcases hk with rfl|rfl<;>simp[sw,dK,gE,cR,h1,h1']
 ·have h2:=h.cond (hc hc').1
  have h2':=h'.cond (hc hc').2
  rcases hk with rfl|rfl<;>simp[sw,cQ,na,dJ,h2,h2']
 ·simp[sw,eD,eN];omega
theorem ky:∀(d:Nat) (c:Bool) (r:Eo),fq g.au g.ai c d (bo g d c r).1
 |0,c,r=>oS g c r.s
 |d+1,c,r=>by
  unfold bo
  split
  ·exact(oS g c r.s).mono (by omega)
  ·split
   ·exact(oS g c (ar r.s 6)).mono (by omega)
   ·simp only
    split
    ·exact H3 g (ky d true _) c
    ·split
     ·rename_i h1 h2
      have hc:c=false:=by
        cases c with
        |false=>rfl
        |true=>exact absurd (.inr ⟨rfl,h2⟩) h1
      subst hc
      exact Fz g (ky d false _)
     ·exact ED g (by split<;>simp) (ky d _ _) (ky d _ _) (by intro hc;subst hc;exact⟨rfl,rfl⟩)
theorem w4{c:Bool}{d:Nat}{e:ae}(h:fq g.au g.ai c d e)(hd:d≤39)(hb:aj e≤199):aY g.au g.ai e=true:=by
 have h1:=zZ e 200 (by omega)
 have h2:=h.depth
 simp only[aY,Bool.and_eq_true,decide_eq_true_eq]
 exact⟨by omega,by omega,h.tree⟩
end
end Go.Proofs.YtgbggaddpbghfaaGreat
namespace Go.Proofs.YtgbggaddpbghfaaGreat
open Go Go.KA Go.Proofs
set_option maxHeartbeats 16000000
set_option maxRecDepth 100000
structure iP(s:Src)(n:Int):Prop where
 rd:Rd s n
 len:s.code.length≤1000000
theorem iP.mono{s:Src}{n m:Int}(h:iP s n)(hm:n≤m):iP s m:=⟨h.rd.mono hm,h.len⟩
theorem iP.pick{s:Src}{n:Int}(h:iP s n)(k:Int):iP (ar s k) (n+2):=⟨h.rd.pick k,by rw[dr];exact h.len⟩
theorem zl{d:Bool}{s:Src}{N k:Int}{args:List SV}{H:HM}{m:Nat}{K:gI→Prop}(hS:iP s N)(hN:N≤800000000)(hk:jI k)(hv:rE H [true,false] args=some [.c (.op (c8 s)),I k])(hn:fH (eT H [true,false] args)=true)(hc:dT [true,false] args=true)
 (c:∀v s',iP s' (N+2)→0≤v→(0<k→v<k)→match gC H [true,false] args [some [.op (c8 s')],none] (I v) m with|some E=>K E|none=>False):aa (d:=d) Tryz.prog 53 args H m K:=by
 have h:=c (bK s k) (ar s k) (hS.pick k) (La s k) fun h=>(ch s h).2
 split at h
 ·rename_i E he
  exact aa.gen [true,false] _ _ _ hv (cV s (hS.rd.mono (by omega)) hS.len k hk) hn hc E he h
 ·exact h.elim
theorem Pu{d:Bool}{s:Src}{N k:Int}{args:List SV}{H:HM}{m:Nat}{K:gI→Prop}(hS:iP s N)(hN:N≤800000000)(hk:jI k)(hv:rE H [true,false] args=some [.c (.op (c8 s)),I k])(hn:fH (eT H [true,false] args)=true)(hc:dT [true,false] args=true)
 (c:∀b s',iP s' (N+2)→match gC H [true,false] args [some [.op (c8 s')],none] (B b) m with|some E=>K E|none=>False):aa (d:=d) Tryz.prog 76 args H m K:=by
 have h:=c (jf s k) (ar s k) (hS.pick k)
 split at h
 ·rename_i E he
  exact aa.gen [true,false] _ _ _ hv (iA s (hS.rd.mono (by omega)) hS.len k hk) hn hc E he h
 ·exact h.elim
theorem Ez{d:Bool}{s:Src}{N:Int}{l:List Int}{args:List SV}{H:HM}{m:Nat}{K:gI→Prop}(hS:iP s N)(hN:N≤800000000)(hl:0<l.length∧l.length≤1000)(hv:rE H [true,true] args=some [.c (.op (c8 s)), .c (.ows 2 1 (l.map eI))])(hn:fH (eT H [true,true] args)=true)(hc:dT [true,true] args=true)
 (c:∀v s',iP s' (N+2)→v∈l→match gC H [true,true] args [some [.op (c8 s')],none] (I v) m with|some E=>K E|none=>False):aa (d:=d) Tryz.prog 73 args H m K:=by
 have hin:tG l s∈l:=by
  unfold tG
  have b:=ch s (n:=l.length) (by omega)
  rw[getD_eq (by omega)]
  exact List.getElem_mem _
 have h:=c (tG l s) (AT l s) (hS.pick _) hin
 split at h
 ·rename_i E he
  exact aa.gen [true,true] _ _ _ hv (IA l hl s (hS.rd.mono (by omega)) hS.len) hn hc E he h
 ·exact h.elim
section
variable(t a:Int)(ht:0≤t∧t≤3)(hac:0≤a∧a≤4)
include ht hac
end
end Go.Proofs.YtgbggaddpbghfaaGreat
