/- Contracts of the reference's reader of expressions: expressions with stars, expressions without, a whole text. Conditions: bounds of size. -/
import Derived.Test.YtgbggaddpbghfaaGreatKAK
namespace Go.Proofs.YtgbggaddpbghfaaGreat
open Go Go.KA Go.Proofs
set_option maxHeartbeats 16000000
set_option maxRecDepth 100000
section
variable(t:ByteArray)(hz:t.size≤100000)
include hz
theorem K8(s:iH)(f:iH→ae × iH)(h0:0≤s.deep)(h1:s.deep≤101)(hb:s.bad=true∨s.deep+1>100):ah Tryz.prog 209 [.c (.op (gi t s))] [some [.op (gi t (fh t f s).2)]] (.a 3 (aI (fh t f s).1)):=by
 have _:=hz
 unfold fh
 rw[if_pos hb]
 refine kU ?_
 obtain⟨i,d,b⟩:=s
 simp only[] at h0 h1 hb⊢
 refine ah.rG (?_:ah _ _ _ [some [.op [.val (.string t),J (i:Nat),J (d+1), .cb true]]] _) (.re (.op (.same (.same (.same (.cb .nil)))) .nil) .nil)
 cases b with
 |true=>
  refine cX Tryz.func209 (h:= ?_)
  repeat'((conv=>whnf);first
   |refine aq.mk ?_ ?_
   |((first|apply bA|apply bB|apply bC|apply bD|apply bE|apply bF)<;>intro h<;>(try simp only[List.length_map] at h)<;>(try omega)<;>(try contradiction))
   |refine aR ?_)
  all_goals first|rfl|exact⟨rfl,trivial⟩|trivial|(exfalso;simp_all;done)
 |false=>
  have hb:d+1>100:=by simpa using hb
  refine cX Tryz.func209 (h:= ?_)
  repeat'((conv=>whnf);first
   |refine aq.mk ?_ ?_
   |((first|apply bA|apply bB|apply bC|apply bD|apply bE|apply bF)<;>intro h<;>(try simp only[List.length_map] at h)<;>(try omega)<;>(try contradiction))
   |refine aR ?_)
  all_goals first|rfl|exact⟨rfl,trivial⟩|trivial|(exfalso;simp_all;done)
theorem MH(i:Nat)(d:Int)(f:iH→ae × iH)(h0:0≤d)(h1:d+1≤100)(hi:i≤t.size)(ho:rW t ⟨i,d+1,false⟩ (f ⟨i,d+1,false⟩).1 (f ⟨i,d+1,false⟩).2 102)
 (hI:ah Tryz.prog 217 [.c (.op (gi t ⟨i,d+1,false⟩))] [some [.op (gi t (f ⟨i,d+1,false⟩).2)]] (.a 3 (aI (f ⟨i,d+1,false⟩).1))):
 ah Tryz.prog 209 [.c (.op (gi t ⟨i,d,false⟩))] [some [.op (gi t (fh t f ⟨i,d,false⟩).2)]] (.a 3 (aI (fh t f ⟨i,d,false⟩).1)):=by
 have _:=hi
 unfold fh
 rw[if_neg (by simp only[Bool.false_eq_true,false_or];omega)]
 simp only[]
 generalize f ⟨i,d+1,false⟩=A at ho hI⊢
 obtain⟨e,⟨j,d2,b2⟩⟩:=A
 obtain⟨g1,g2,g3,g4,g5,g6⟩:=ho
 simp only[] at g1 g2 g3 g4 g5 g6 hI⊢
 cases b2 with
 |true=>
  rw[if_pos rfl]
  obtain⟨k,n,ks⟩:=e
  refine cX Tryz.func209 (h:= ?_)
  repeat'((conv=>whnf);first
   |refine aq.mk ?_ ?_|(guard_target=~ aK 6 _ _ _ _ _ _;refine lp (Unit) [0,2,3] (fun u=>[]) (fun u=>True) (fun u=>0) () (by trivial) (fun u ha=> ?_))
   |((first|apply bA|apply bB|apply bC|apply bD|apply bE|apply bF)<;>intro h<;>(try simp only[List.length_map] at h)<;>(try omega)<;>(try contradiction))|(guard_target=aa _ 217 _ _ _ _;refine cG [true] rfl (hI) ?_)
   |refine aR ?_)
  all_goals first|rfl|exact⟨rfl,trivial⟩|trivial
 |false=>
  rw[if_neg (by decide)]
  have hp:=fun m=>kM t hz ⟨m,d2,false⟩
  simp only[] at hp
  have hst:∀(m:Nat) (x:ae),dc t m=42→ej t m x=((ej t (m+1) (.mk 8 0 [x])).1,(ej t (m+1) (.mk 8 0 [x])).2+1):=fun m x h=>zI x h
  have hse:∀(m:Nat) (x:ae),¬dc t m=42→ej t m x=(x,0):=fun m x h=>yI x h
  generalize hS:ej t j e=S
  obtain⟨X,c⟩:=S
  have fin:∀(m:Nat) (x:ae) (R:List (List CV)),R=x.kids.map ag→¬dc t m=42→(ej t m x).1=X→m+(ej t m x).2=j+c→aI X=[J x.kind,J x.num, .ro 3 R]∧j+c=m:=by
   intro m x R hR hm h1 h2
   rw[hse m x hm] at h1 h2
   simp only[] at h1 h2
   subst h1 hR
   exact⟨rfl,by omega⟩
  refine cX Tryz.func209 (h:= ?_)
  repeat'((conv=>whnf);first
   |(guard_target=Gh _ _ _ _ _;refine Gh.zG 5 (.ro 3 [[J x.kind,J x.num, .ro 3 R]]) rfl (Gh.soft 4 (.cc rfl) ?_))|(guard_target=aq _ _;(obtain⟨h8,h9⟩:=fin m x R ha.1 (by omega) ha.2.2.1 ha.2.2.2);rw[h8,h9];exact aq.mk rfl ⟨rfl,trivial⟩)|(guard_target=~ aK 6 _ _ _ _ _ _;refine l8 (ae × List (List CV)× Nat) [0,2,3] (fun⟨x,R,m⟩=>[]) (fun⟨x,R,m⟩=>[(0, .cc 4 (gi t ⟨m,d2,false⟩)),(4, .cc 3 [J x.kind,J x.num, .ro 3 R])]) (fun⟨x,R,m⟩=>R=x.kids.map ag∧m≤t.size∧(ej t m x).1=X∧m+(ej t m x).2=j+c) (fun⟨x,R,m⟩=>t.size+1-m) (e,e.kids.map ag,j) (by exact⟨rfl,g1,by rw[hS],by rw[hS]⟩) (fun A ha=> ?_);obtain⟨x,R,m⟩:=A;have ha:R=x.kids.map ag∧m≤t.size∧(ej t m x).1=X∧m+(ej t m x).2=j+c:=ha)
   |refine rL ((.mk 8 0 [x],[[J x.kind,J x.num, .ro 3 R]],m+1):ae × List (List CV)× Nat) (by exact⟨by show _=[ag x];rw[fv x,ha.1],by have:=dC (t:=t) (i:=m) (by omega);show m+1≤_;omega,by show(ej t (m+1) (.mk 8 0 [x])).1=X;rw[←ha.2.2.1,hst m x (by omega)],by show m+1+(ej t (m+1) (.mk 8 0 [x])).2=_;rw[←ha.2.2.2,hst m x (by omega)];(try simp only[]);omega⟩)
   |((first|apply bA|apply bB|apply bC|apply bD|apply bE|apply bF)<;>intro h<;>(try simp only[List.length_map] at h)<;>(try omega)<;>(try contradiction))|(guard_target=aa _ 217 _ _ _ _;refine cG [true] rfl (hI) ?_)|(guard_target=aa _ 218 _ _ _ _;refine cP rfl (hp m) ?_)
   |refine aR ?_)
  all_goals first|rfl|exact⟨rfl,trivial⟩|trivial
theorem CE(f:iH→ae × iH)(d0:Int)(h0:0≤d0)(h1:d0≤100)(ho:∀s:iH,s.bad=false→0≤s.deep→s.deep≤100→s.at_≤t.size→1≤s.deep→rW t s (f s).1 (f s).2 102)
 (hI:d0+1≤100→∀i,i≤t.size→ah Tryz.prog 217 [.c (.op (gi t ⟨i,d0+1,false⟩))] [some [.op (gi t (f ⟨i,d0+1,false⟩).2)]] (.a 3 (aI (f ⟨i,d0+1,false⟩).1)))
 (s:iH)(g0:0≤s.deep)(g1:s.deep≤101)(g2:s.bad=false→s.deep=d0)(g3:s.at_≤t.size):
 ah Tryz.prog 209 [.c (.op (gi t s))] [some [.op (gi t (fh t f s).2)]] (.a 3 (aI (fh t f s).1)):=by
 by_cases hb:s.bad=true∨s.deep+1>100
 ·exact K8 t hz s f g0 g1 hb
 ·obtain⟨i,d,b⟩:=s
  simp only[not_or,Bool.not_eq_true] at hb g0 g1 g2 g3
  obtain⟨rfl,hd⟩:=hb
  have hd0:=g2 rfl
  subst hd0
  exact MH t hz i d f g0 (by omega) g3 (ho ⟨i,d+1,false⟩ rfl (by simp only[];omega) (by simp only[];omega) g3 (by simp only[];omega)) (hI (by omega) i g3)
theorem Ff(n:Nat)(d:Int)(h0:0≤d)(h1:d≤100)(i:Nat)(hi:i≤t.size)
 (hN:d+1≤100→i+1≤t.size→ah Tryz.prog 217 [.c (.op (gi t ⟨i+1,d+1,false⟩))] [some [.op (gi t (df t n ⟨i+1,d+1,false⟩).2)]] (.a 3 (aI (df t n ⟨i+1,d+1,false⟩).1)))
 (hP:dc t i=40→ah Tryz.prog 222 [.c (.op (gi t ⟨i,d,false⟩))] [some [.op (gi t (jc t (fh t (df t n)) ⟨i,d,false⟩).2)]] (.a 3 (aI (jc t (fh t (df t n)) ⟨i,d,false⟩).1))):
 ah Tryz.prog 217 [.c (.op (gi t ⟨i,d,false⟩))] [some [.op (gi t (df t (n+1) ⟨i,d,false⟩).2)]] (.a 3 (aI (df t (n+1) ⟨i,d,false⟩).1)):=by
 have hp:=kM t hz ⟨i,d,false⟩
 have hpp:0<dc t i→i<t.size:=fun h=>dC h
 have hnm:i<t.size→_:=fun h=>L6 t hz i d h
 rw[df]
 simp only[] at hp⊢
 generalize dc t i=p at hp hpp hP
 by_cases g1:p=48
 ·rw[if_pos g1]
  subst g1
  have:=hpp (by decide)
  refine kU ?_
  refine cX Tryz.func217 (h:= ?_)
  repeat'((conv=>whnf);first
   |refine aq.mk ?_ ?_
   |((first|apply bA|apply bB|apply bC|apply bD|apply bE|apply bF)<;>intro h<;>(try simp only[List.length_map] at h)<;>(try omega)<;>(try contradiction))|(guard_target=aa _ 218 _ _ _ _;refine cP rfl (hp) ?_)
   |refine aR ?_)
  all_goals first|rfl|exact⟨rfl,trivial⟩|trivial
 rw[if_neg g1]
 by_cases g2:p=49
 ·rw[if_pos g2]
  subst g2
  have:=hpp (by decide)
  refine kU ?_
  refine cX Tryz.func217 (h:= ?_)
  repeat'((conv=>whnf);first
   |refine aq.mk ?_ ?_
   |((first|apply bA|apply bB|apply bC|apply bD|apply bE|apply bF)<;>intro h<;>(try simp only[List.length_map] at h)<;>(try omega)<;>(try contradiction))|(guard_target=aa _ 218 _ _ _ _;refine cP rfl (hp) ?_)
   |refine aR ?_)
  all_goals first|rfl|exact⟨rfl,trivial⟩|trivial
 rw[if_neg g2]
 by_cases g3:p=116∨p=97
 ·rw[if_pos g3]
  have:=hpp (by omega)
  have c:=hnm this
  generalize qz t ⟨i,d,false⟩=R at c⊢
  obtain⟨⟨k,m,ks⟩,s⟩:=R
  rcases g3 with rfl|rfl
  ·skip
   refine cX Tryz.func217 (h:= ?_)
   repeat'((conv=>whnf);first
     |refine aq.mk ?_ ?_
     |((first|apply bA|apply bB|apply bC|apply bD|apply bE|apply bF)<;>intro h<;>(try simp only[List.length_map] at h)<;>(try omega)<;>(try contradiction))|(guard_target=aa _ 218 _ _ _ _;refine cP rfl (hp) ?_)|(guard_target=aa _ 221 _ _ _ _;refine cG [true] rfl (c) ?_))
   all_goals first|rfl|exact⟨rfl,trivial⟩|trivial
  ·skip
   refine cX Tryz.func217 (h:= ?_)
   repeat'((conv=>whnf);first
     |refine aq.mk ?_ ?_
     |((first|apply bA|apply bB|apply bC|apply bD|apply bE|apply bF)<;>intro h<;>(try simp only[List.length_map] at h)<;>(try omega)<;>(try contradiction))|(guard_target=aa _ 218 _ _ _ _;refine cP rfl (hp) ?_)|(guard_target=aa _ 221 _ _ _ _;refine cG [true] rfl (c) ?_))
   all_goals first|rfl|exact⟨rfl,trivial⟩|trivial
 rw[if_neg g3]
 by_cases g4:p=126
 ·rw[if_pos g4]
  subst g4
  have:=hpp (by decide)
  by_cases g5:d+1>100
  ·rw[if_pos g5]
   refine kU ?_
   refine ah.rG (?_:ah _ _ _ [some [.op [.val (.string t),J ((i+1:Nat):Int),J (d+1), .cb true]]] _) (.re (.op (.same (.same (.same (.cb .nil)))) .nil) .nil)
   refine cX Tryz.func217 (h:= ?_)
   repeat'((conv=>whnf);first
     |refine aq.mk ?_ ?_
     |((first|apply bA|apply bB|apply bC|apply bD|apply bE|apply bF)<;>intro h<;>(try simp only[List.length_map] at h)<;>(try omega)<;>(try contradiction))|(guard_target=aa _ 218 _ _ _ _;refine cP rfl (hp) ?_)
     |refine aR ?_)
   all_goals first|rfl|exact⟨rfl,trivial⟩|trivial
  ·rw[if_neg g5]
   have c:=hN (by omega) (by omega)
   have hb:=gu (t:=t) n ⟨i+1,d+1,false⟩ rfl (by simp only[];omega) (by simp only[];omega) (by simp only[];omega)
   generalize df t n ⟨i+1,d+1,false⟩=R at c hb⊢
   obtain⟨⟨k,m,ks⟩,⟨j,d2,b2⟩⟩:=R
   have q1:=hb.Qx
   have q2:=hb.QH
   simp only[] at q1 q2
   have e:aI (.mk 5 0 [.mk k m ks])=[J 5,J 0, .ro 3 [aI (.mk k m ks)]]:=by rw[←fv (.mk k m ks)];rfl
   rw[e]
   refine ah.soft (?_:ah _ _ _ _ (.a 3 [J 5,J 0, .ows 66 3 [aI (.mk k m ks)]])) (.v (.a (.same (.same (.ro .nil)))))
   refine cX Tryz.func217 (h:= ?_)
   repeat'((conv=>whnf);first
     |refine aq.mk ?_ ?_
     |((first|apply bA|apply bB|apply bC|apply bD|apply bE|apply bF)<;>intro h<;>(try simp only[List.length_map] at h)<;>(try omega)<;>(try contradiction))|(guard_target=aa _ 218 _ _ _ _;refine cP rfl (hp) ?_)|(guard_target=aa _ 217 _ _ _ _;refine cG [true] rfl (c) ?_)
     |refine aR ?_)
   all_goals first|rfl|exact⟨rfl,trivial⟩|trivial
 rw[if_neg g4]
 by_cases g5:p=40
 ·rw[if_pos g5]
  have c:=hP g5
  subst g5
  generalize jc t (fh t (df t n)) ⟨i,d,false⟩=R at c⊢
  obtain⟨⟨k,m,ks⟩,s⟩:=R
  refine cX Tryz.func217 (h:= ?_)
  repeat'((conv=>whnf);first
   |refine aq.mk ?_ ?_
   |((first|apply bA|apply bB|apply bC|apply bD|apply bE|apply bF)<;>intro h<;>(try simp only[List.length_map] at h)<;>(try omega)<;>(try contradiction))|(guard_target=aa _ 218 _ _ _ _;refine cP rfl (hp) ?_)|(guard_target=aa _ 222 _ _ _ _;refine cG [true] rfl (c) ?_))
  all_goals first|rfl|exact⟨rfl,trivial⟩|trivial
 rw[if_neg g5]
 refine kU ?_
 refine ah.rG (?_:ah _ _ _ [some [.op [.val (.string t),J (i:Nat),J d, .cb true]]] _) (.re (.op (.same (.same (.same (.cb .nil)))) .nil) .nil)
 refine cX Tryz.func217 (h:= ?_)
 repeat'((conv=>whnf);first
  |refine aq.mk ?_ ?_
  |((first|apply bA|apply bB|apply bC|apply bD|apply bE|apply bF)<;>intro h<;>(try simp only[List.length_map] at h)<;>(try omega)<;>(try contradiction))|(guard_target=aa _ 218 _ _ _ _;refine cP rfl (hp) ?_))
 all_goals first|rfl|exact⟨rfl,trivial⟩|trivial
theorem Cv:∀(n:Nat) (d:Int),0≤d→d≤100→101≤d+n→∀i,i≤t.size→ah Tryz.prog 217 [.c (.op (gi t ⟨i,d,false⟩))] [some [.op (gi t (df t n ⟨i,d,false⟩).2)]] (.a 3 (aI (df t n ⟨i,d,false⟩).1))
 |0,d,h0,h1,h2,i,hi=>by omega
 |n+1,d,h0,h1,h2,i,hi=>by
  have ih:=Cv n
  refine Ff t hz n d h0 h1 i hi (fun hd h=>ih (d+1) (by omega) hd (by omega) (i+1) h) fun h40=> ?_
  refine Mr t hz (fh t (df t n)) d h0 h1 (fun s a b c e=>r5 (fun s a b c e _=>gu n s a b c e) s a b c e) (fun s a b c e=> ?_) i hi h40
  exact CE t hz (df t n) d h0 h1 (fun s a b c e _=>gu n s a b c e) (fun hd i hi=>ih (d+1) (by omega) hd (by omega) i hi) s a b c e
theorem My:ah Tryz.prog 209 [.c (.op (gi t ⟨0,0,false⟩))] [some [.op (gi t (kF t).2)]] (.a 3 (aI (kF t).1)):=
 CE t hz (df t 101) 0 (by decide) (by decide) (fun s a b c e _=>gu 101 s a b c e) (fun _ i hi=>Cv t hz 101 1 (by decide) (by decide) (by decide) i hi) ⟨0,0,false⟩ (by decide) (by decide) (fun _=>rfl) (Nat.zero_le _)
end
def iU(t a:Int)(x:ByteArray):ae × Int:=
 if x.size>4000 then(cL,2) else if Qf x=true∧aY t a (kF x).1=true then((kF x).1,0) else(cL,5)
theorem Dq(t a:Int)(hs:bO t a=true)(x:ByteArray):ah Tryz.prog 189 [.a 2 [J t,J a],G3 x] [] (.tup [.a 3 (aI (iU t a x).1),I (iU t a x).2]):=by
 have c1:=kV t a
 rw[hs] at c1
 have soft:∀{f:Nat} {args:List SV} {n:Int},ah Tryz.prog f args [] (.tup [.a 3 [J 0,J 0, .ows 66 3 []],I n])→ah Tryz.prog f args [] (.tup [.a 3 (aI cL),I n]):=fun h=>
  h.soft (.tup (.cons (.a (.same (.same (.ro .nil)))) (.cons .same .nil)))
 unfold iU
 by_cases h4:x.size>4000
 ·rw[if_pos h4]
  refine soft ?_
  refine cX Tryz.func189 (h:= ?_)
  repeat'((conv=>whnf);first
   |refine aq.mk ?_ ?_
   |((first|apply bA|apply bB|apply bC|apply bD|apply bE|apply bF)<;>intro h<;>(try simp only[List.length_map] at h)<;>(try omega)<;>(try contradiction))|(guard_target=aa _ 85 _ _ _ _;refine cP rfl (c1) ?_))
  all_goals first|rfl|exact⟨rfl,trivial⟩|trivial
 rw[if_neg h4]
 have c2:=My x (by omega)
 have hb:=yL x
 have c3:=lJ t a (kF x).1 (by omega)
 rw[hs,fv] at c3
 unfold Qf
 generalize kF x=R at c2 c3⊢
 obtain⟨⟨k,n,ks⟩,⟨j,d,b⟩⟩:=R
 simp only[Bool.true_and] at c3⊢
 generalize aY t a (.mk k n ks)=g at c3⊢
 cases b with
 |true=>
  rw[if_neg (by simp)]
  refine soft ?_
  refine cX Tryz.func189 (h:= ?_)
  repeat'((conv=>whnf);first
   |refine aq.mk ?_ ?_
   |((first|apply bA|apply bB|apply bC|apply bD|apply bE|apply bF)<;>intro h<;>(try simp only[List.length_map] at h)<;>(try omega)<;>(try contradiction))|(guard_target=aa _ 85 _ _ _ _;refine cP rfl (c1) ?_)|(guard_target=aa _ 209 _ _ _ _;refine cG [true] rfl (c2) ?_))
  all_goals first|rfl|exact⟨rfl,trivial⟩|trivial
 |false=>
  by_cases hj:j=x.size
  ·cases g with
   |true=>
    rw[if_pos ⟨by simp[hj],rfl⟩]
    refine cX Tryz.func189 (h:= ?_)
    repeat'((conv=>whnf);first
       |refine aq.mk ?_ ?_
       |((first|apply bA|apply bB|apply bC|apply bD|apply bE|apply bF)<;>intro h<;>(try simp only[List.length_map] at h)<;>(try omega)<;>(try contradiction))|(guard_target=aa _ 85 _ _ _ _;refine cP rfl (c1) ?_)|(guard_target=aa _ 209 _ _ _ _;refine cG [true] rfl (c2) ?_)|(guard_target=aa _ 174 _ _ _ _;refine cP rfl (c3) ?_))
    all_goals first|rfl|exact⟨rfl,trivial⟩|trivial
   |false=>
    rw[if_neg (by simp)]
    refine soft ?_
    refine cX Tryz.func189 (h:= ?_)
    repeat'((conv=>whnf);first
       |refine aq.mk ?_ ?_
       |((first|apply bA|apply bB|apply bC|apply bD|apply bE|apply bF)<;>intro h<;>(try simp only[List.length_map] at h)<;>(try omega)<;>(try contradiction))|(guard_target=aa _ 85 _ _ _ _;refine cP rfl (c1) ?_)|(guard_target=aa _ 209 _ _ _ _;refine cG [true] rfl (c2) ?_)|(guard_target=aa _ 174 _ _ _ _;refine cP rfl (c3) ?_))
    all_goals first|rfl|exact⟨rfl,trivial⟩|trivial
  ·rw[if_neg (by simp[hj])]
   refine soft ?_
   refine cX Tryz.func189 (h:= ?_)
   repeat'((conv=>whnf);first
        |refine aq.mk ?_ ?_
        |((first|apply bA|apply bB|apply bC|apply bD|apply bE|apply bF)<;>intro h<;>(try simp only[List.length_map] at h)<;>(try omega)<;>(try contradiction))|(guard_target=aa _ 85 _ _ _ _;refine cP rfl (c1) ?_)|(guard_target=aa _ 209 _ _ _ _;refine cG [true] rfl (c2) ?_))
   all_goals first|rfl|exact⟨rfl,trivial⟩|trivial
end Go.Proofs.YtgbggaddpbghfaaGreat
namespace Go.Proofs.YtgbggaddpbghfaaGreat
open Go Go.KA Go.Proofs
set_option maxHeartbeats 16000000
set_option maxRecDepth 100000
theorem vS(b:ByteArray):b.toList=b.data.toList:=ByteArray.toList_eq b
def ES(t x:ByteArray)(i:Nat):Bool:=(t.extract i (i+x.size)).data.toList==x.data.toList
def rP(t x:ByteArray):Nat→Nat→Option Nat
 |0,_=>none
 |f+1,i=>if i+x.size≤t.size then(if ES t x i=true then some i else rP t x f (i+1)) else none
def rD(t x:ByteArray):ByteArray × ByteArray × Bool:=
 match rP t x (t.size+1) 0 with
 |some i=>(t.extract 0 i,t.extract (i+x.size) t.size,true)
 |none=>(⟨#[]⟩,⟨#[]⟩,false)
theorem M0{t x:ByteArray}{i:Nat}(h:i+x.size≤t.size)(hh:((t.extract i (i+x.size)).toList==x.toList)=true):rP t x (t.size+1-i) i=some i:=by
 rw[show t.size+1-i=(t.size-i)+1 by omega,rP,if_pos h,if_pos]
 unfold ES
 rw[←vS,←vS]
 exact hh
theorem OH{t x:ByteArray}{i:Nat}(h:i+x.size≤t.size)(hh:((t.extract i (i+x.size)).toList==x.toList)=false):rP t x (t.size+1-i) i=rP t x (t.size+1-(i+1)) (i+1):=by
 rw[show t.size+1-i=(t.size+1-(i+1))+1 by omega,rP,if_pos h,if_neg]
 unfold ES
 rw[←vS,←vS,hh]
 decide
theorem Ku{t x:ByteArray}{i:Nat}(h:¬i+x.size≤t.size):rP t x (t.size+1-i) i=none:=by
 generalize t.size+1-i=n
 cases n with
 |zero=>rfl
 |succ n=>rw[rP,if_neg h]
theorem IQ(t x:ByteArray)(h1:t.size≤1000000000)(h2:x.size≤1000000000):aD Tryz.prog 220 [G3 t,G3 x] (.tup [G3 (rD t x).1,G3 (rD t x).2.1,B (rD t x).2.2]):=by
 obtain⟨R,hR⟩:∃R,rD t x=R:=⟨_,rfl⟩
 rw[hR]
 have hs:∀i,rP t x (t.size+1) 0=some i→R=(t.extract 0 i,t.extract (i+x.size) t.size,true):=fun i h=>by
  rw[←hR];unfold rD;rw[h]
 have hn:rP t x (t.size+1) 0=none→R=(⟨#[]⟩,⟨#[]⟩,false):=fun h=>by
  rw[←hR];unfold rD;rw[h]
 refine cF Tryz.func220 (h:= ?_)
 repeat'((conv=>whnf);first
  |(apply bh.mk;first|((rw[hs i (by rw[←ha.2];exact M0 (by omega) (by assumption))];rfl);done)|((rw[hn (by rw[←ha.2];exact Ku (by omega))];rfl);done)|skip)|(guard_target=~ aK 2 _ _ _ _ _ _;refine lp (Nat) [0,1] (fun i=>[(7,I (i:Nat))]) (fun i=>i≤t.size+1∧rP t x (t.size+1-i) i=rP t x (t.size+1) 0) (fun i=>t.size+1-i) 0 (by exact⟨Nat.zero_le _,rfl⟩) (fun i ha=> ?_))
  |refine nx (i+1:Nat) (by exact⟨by show i+1≤_;omega,by show rP t x (t.size+1-(i+1)) (i+1)=_;rw[←ha.2];exact(OH (by omega) (by assumption)).symm⟩)
  |((first|apply bA|apply bB|apply bC|apply bD|apply bE|apply bF)<;>intro h<;>(try simp only[List.length_map] at h)<;>(try omega)<;>(try contradiction))
  |refine aR ?_
  |refine nB ?_|(guard_target=aV _ _;refine aV.mk (by first|((refine⟨?_, ?_, ?_⟩<;>omega))|fail) ?_))
 all_goals first|rfl|trivial
theorem Ls(t x:ByteArray):(rD t x).1.size≤t.size∧(rD t x).2.1.size≤t.size:=by
 unfold rD
 split
 ·simp only[ByteArray.size_extract]
  omega
 ·exact⟨Nat.zero_le _,Nat.zero_le _⟩
def xB(t a:Int)(x:ByteArray):bT × Bool:=
 if(rD x ⟨#[32,61,32]⟩).2.2=true then(⟨(iU t a (rD x ⟨#[32,61,32]⟩).1).1,(iU t a (rD x ⟨#[32,61,32]⟩).2.1).1⟩,decide ((iU t a (rD x ⟨#[32,61,32]⟩).1).2=0)&&decide ((iU t a (rD x ⟨#[32,61,32]⟩).2.1).2=0))
 else(⟨cL,cL⟩,false)
theorem xi(t a:Int)(hs:bO t a=true)(x:ByteArray)(hx:x.size≤1000000):ah Tryz.prog 212 [.a 2 [J t,J a],G3 x] [] (.tup [.a 6 (aU (xB t a x).1),B (xB t a x).2]):=by
 have c1:=IQ x ⟨#[32,61,32]⟩ (by omega) (by decide)
 have hsz:=Ls x ⟨#[32,61,32]⟩
 have c2:=fun y=>Dq t a hs y
 unfold xB
 generalize rD x ⟨#[32,61,32]⟩=R at c1 hsz⊢
 obtain⟨l,r,b⟩:=R
 simp only[] at c1 hsz⊢
 have c3:=c2 l
 have c4:=c2 r
 generalize iU t a l=L at c3⊢
 generalize iU t a r=Q at c4⊢
 obtain⟨⟨k1,n1,s1⟩,d1⟩:=L
 obtain⟨⟨k2,n2,s2⟩,d2⟩:=Q
 cases b with
 |true=>
  rw[if_pos rfl]
  simp only[]
  obtain⟨b1,hb1⟩:∃b1:Bool,(d1==0)=b1:=⟨_,rfl⟩
  have e1:decide (d1=0)=(d1==0):=rfl
  have e2:decide (d2=0)=(d2==0):=rfl
  rw[e1,e2]
  by_cases h1:d1=0
  ·have:(d1==0)=true:=by simp[h1]
   rw[this]
   refine cX Tryz.func212 (h:= ?_)
   repeat'((conv=>whnf);first
        |refine aq.mk ?_ ?_
        |((first|apply bA|apply bB|apply bC|apply bD|apply bE|apply bF)<;>intro h<;>(try simp only[List.length_map] at h)<;>(try omega)<;>(try contradiction))|(guard_target=aa _ 220 _ _ _ _;refine cP rfl (c1) ?_)|(guard_target=aa _ 189 _ _ _ _;refine cG [] rfl (c3) ?_)|(guard_target=aa _ 189 _ _ _ _;refine cG [] rfl (c4) ?_))
   all_goals first|rfl|trivial|(exfalso;simp_all;done)
  ·have:(d1==0)=false:=by simp[h1]
   rw[this]
   refine cX Tryz.func212 (h:= ?_)
   repeat'((conv=>whnf);first
        |refine aq.mk ?_ ?_
        |((first|apply bA|apply bB|apply bC|apply bD|apply bE|apply bF)<;>intro h<;>(try simp only[List.length_map] at h)<;>(try omega)<;>(try contradiction))|(guard_target=aa _ 220 _ _ _ _;refine cP rfl (c1) ?_)|(guard_target=aa _ 189 _ _ _ _;refine cG [] rfl (c3) ?_)|(guard_target=aa _ 189 _ _ _ _;refine cG [] rfl (c4) ?_))
   all_goals first|rfl|trivial|(exfalso;simp_all;done)
 |false=>
  rw[if_neg (by decide)]
  refine ah.soft (?_:ah _ _ _ _ (.tup [.a 6 [J 0,J 0, .ows 66 3 [],J 0,J 0, .ows 66 3 []],B false])) (.tup (.cons (.a (.same (.same (.ro (.same (.same (.ro .nil))))))) (.cons .same .nil)))
  refine cX Tryz.func212 (h:= ?_)
  repeat'((conv=>whnf);first
   |refine aq.mk ?_ ?_
   |((first|apply bA|apply bB|apply bC|apply bD|apply bE|apply bF)<;>intro h<;>(try simp only[List.length_map] at h)<;>(try omega)<;>(try contradiction))|(guard_target=aa _ 220 _ _ _ _;refine cP rfl (c1) ?_))
  all_goals first|rfl|trivial
def Gy:List ByteArray:=[
 ⟨#[40,97,48,32,43,32,40,97,49,32,43,32,97,50,41,41,32,61,32,40,40,97,48,32,43,32,97,49,41,32,43,32,97,50,41]⟩,
 ⟨#[40,97,48,32,43,32,97,49,41,32,61,32,40,97,49,32,43,32,97,48,41]⟩,
 ⟨#[40,97,48,32,43,32,48,41,32,61,32,97,48]⟩,
 ⟨#[40,97,48,32,43,32,97,48,41,32,61,32,97,48]⟩,
 ⟨#[40,97,48,32,40,97,49,32,97,50,41,41,32,61,32,40,40,97,48,32,97,49,41,32,97,50,41]⟩,
 ⟨#[40,49,32,97,48,41,32,61,32,97,48]⟩,
 ⟨#[40,97,48,32,49,41,32,61,32,97,48]⟩,
 ⟨#[40,97,48,32,40,97,49,32,43,32,97,50,41,41,32,61,32,40,40,97,48,32,97,49,41,32,43,32,40,97,48,32,97,50,41,41]⟩,
 ⟨#[40,40,97,48,32,43,32,97,49,41,32,97,50,41,32,61,32,40,40,97,48,32,97,50,41,32,43,32,40,97,49,32,97,50,41,41]⟩,
 ⟨#[40,48,32,97,48,41,32,61,32,48]⟩,
 ⟨#[40,97,48,32,48,41,32,61,32,48]⟩,
 ⟨#[40,49,32,43,32,40,97,48,32,97,48,42,41,41,32,61,32,97,48,42]⟩,
 ⟨#[40,49,32,43,32,40,97,48,42,32,97,48,41,41,32,61,32,97,48,42]⟩,
 ⟨#[40,116,48,32,116,48,41,32,61,32,116,48]⟩,
 ⟨#[40,116,48,32,116,49,41,32,61,32,40,116,49,32,116,48,41]⟩,
 ⟨#[40,116,48,32,43,32,126,116,48,41,32,61,32,49]⟩,
 ⟨#[40,116,48,32,126,116,48,41,32,61,32,48]⟩,
 ⟨#[126,126,116,48,32,61,32,116,48]⟩,
 ⟨#[126,40,116,48,32,43,32,116,49,41,32,61,32,40,126,116,48,32,126,116,49,41]⟩,
 ⟨#[126,40,116,48,32,116,49,41,32,61,32,40,126,116,48,32,43,32,126,116,49,41]⟩,
 ⟨#[126,48,32,61,32,49]⟩,
 ⟨#[126,49,32,61,32,48]⟩,
 ⟨#[40,116,48,32,43,32,49,41,32,61,32,49]⟩,
 ⟨#[40,40,116,48,32,43,32,116,49,41,32,40,116,48,32,43,32,116,50,41,41,32,61,32,40,116,48,32,43,32,40,116,49,32,116,50,41,41]⟩]
theorem KP:∀x∈Gy,x.size≤1000000:=by decide
abbrev eS(x:ByteArray):List CV:=[.val (.string x)]
theorem BW:ah Tryz.prog 202 [] [] (.c (.ows 9 1 (Gy.map eS))):=by
 refine cX Tryz.func202 (h:= ?_)
 repeat'((conv=>whnf);first
  |refine aq.mk ?_ ?_)
 all_goals first|rfl|trivial
theorem xN:ah Tryz.prog 213 [] [] (.a 2 [J 3,J 4]):=by
 refine cX Tryz.func213 (h:= ?_)
 repeat'((conv=>whnf);first
  |refine aq.mk ?_ ?_)
 all_goals first|rfl|trivial
def iD:List bT:=Gy.map fun x=>(xB 3 4 x).1
end Go.Proofs.YtgbggaddpbghfaaGreat
namespace Go.Proofs.YtgbggaddpbghfaaGreat
open Go Go.KA Go.Proofs
set_option maxHeartbeats 16000000
set_option maxRecDepth 100000
theorem F9:Gy.length=24:=rfl
theorem vU:iD.length=24:=rfl
theorem Ca:bO 3 4=true:=rfl
theorem KO{i:Nat}(h:i<24):(Gy.getD i ⟨#[]⟩).size≤1000000:=by
 rw[getD_eq (show i<Gy.length from h)]
 exact KP _ (List.getElem_mem _)
abbrev OI:bT:=⟨cL,cL⟩
theorem JV{i:Nat}(h:i<24):iD.getD i OI=(xB 3 4 (Gy.getD i ⟨#[]⟩)).1:=by
 rw[getD_eq (show i<iD.length from h),getD_eq (show i<Gy.length from h)]
 unfold iD
 rw[List.getElem_map]
theorem Kk{i:Nat}(h:i<24):(iD.take i).map aU++[aU (iD.getD i OI)]=(iD.take (i+1)).map aU:=by
 rw[List.take_add_one,List.getElem?_eq_getElem (show i<iD.length from h),getD_eq (show i<iD.length from h),List.map_append]
 rfl
theorem Ia:ah Tryz.prog 210 [] [] (.c (.ows 68 6 (iD.map aU))):=by
 have c1:=BW
 have c3:∀i,i<24→ah Tryz.prog 212 [.a 2 [J 3,J 4],G3 (Gy.getD i ⟨#[]⟩)] [] (.tup [.a 6 (aU (iD.getD i OI)),B (xB 3 4 (Gy.getD i ⟨#[]⟩)).2]):=fun i h=>by
  rw[JV h]
  exact xi 3 4 Ca _ (KO h)
 have hl:=F9
 have hq:=vU
 have hn:=fun i h=>Kk (i:=i) h
 generalize Gy=A at c1 c3 hl
 generalize iD=Q at c3 hq hn⊢
 have fin:Q.map aU=(Q.take 24).map aU:=by rw[List.take_of_length_le (by omega)]
 rw[fin]
 refine cX Tryz.func210 (h:= ?_)
 repeat'((conv=>whnf);first
  |refine aq.mk ?_ ?_|(guard_target=~ aK 4 _ _ _ _ _ _;refine sM (List (List CV)× Nat) [1] (fun⟨rows,i⟩=>[(2, .lw 2),(3,I (i:Nat))]) (fun⟨rows,i⟩=>[(2, .row none 68 6 rows)]) (fun⟨rows,i⟩=>i≤24∧rows=(Q.take i).map aU∧rows.length≤24) (fun⟨rows,i⟩=>24-i) ([],0) (by exact⟨Nat.zero_le _,by simp,Nat.zero_le _⟩) (fun A ha=> ?_);obtain⟨rows,i⟩:=A;have ha:i≤24∧rows=(Q.take i).map aU∧rows.length≤24:=ha)
  |refine nx ((rows++[aU (Q.getD i OI)],i+1):List (List CV)× Nat) (by exact⟨by show i+1≤24;omega,by show rows++_=_;rw[ha.2.1];exact hn i (by omega),by show(rows++_).length≤24;rw[List.length_append,ha.2.1,List.length_map,List.length_take];simp only[List.length_cons,List.length_nil];omega⟩)
  |(apply Fact.mk;intro hL;try simp only[List.length_map,maxLen] at hL)
  |((first|apply bA|apply bB|apply bC|apply bD|apply bE|apply bF)<;>intro h<;>(try simp only[List.length_map] at h)<;>(try omega)<;>(try contradiction))|(guard_target=aa _ 202 _ _ _ _;refine cG [] rfl (c1) ?_)|(guard_target=aa _ 213 _ _ _ _;refine cG [] rfl (xN) ?_)|(guard_target=aa _ 212 _ _ _ _;refine cG [] rfl (c3 i (by omega)) ?_)
  |refine aR ?_|(guard_target=Index _ _ _;first|(refine Index.mk _ (aF (d:=⟨#[]⟩) (i:=i) (by omega)) ?_)|fail)
  |refine nB ?_|(guard_target=aV _ _;refine aV.mk (by first|((simp only[List.length_cons,List.length_nil,maxLen];constructor<;>omega))|fail) ?_)
  |refine nO ?_)
 all_goals first|rfl|trivial|((have h9:=ha.2.1);(have h8:i=24:=by have:=ha.1;omega);rw[h8] at h9;rw[h9];done)
theorem K5(p:cx)(k use:Int)(h0:0≤use)(h1:use≤23):ah Tryz.prog 196 [.c (.rp 3 (cK p)),I k,I use] [] (.tup [.a 6 (aU (jr iD p k use).1),B (jr iD p k use).2]):=by
 have c1:=BW
 have e:jr iD p k use=(iD.getD use.toNat OI,true):=if_pos h0
 rw[e]
 have c3:ah Tryz.prog 212 [.a 2 [J 3,J 4],G3 (Gy.getD use.toNat ⟨#[]⟩)] [] (.tup [.a 6 (aU (iD.getD use.toNat OI)),B (xB 3 4 (Gy.getD use.toNat ⟨#[]⟩)).2]):=by
  rw[JV (by omega)]
  exact xi 3 4 Ca _ (KO (by omega))
 have hl:=F9
 generalize Gy=A at c1 c3 hl
 generalize iD.getD use.toNat OI=q at c3⊢
 refine cX Tryz.func196 (h:= ?_)
 repeat'((conv=>whnf);first
  |refine aq.mk ?_ ?_
  |((first|apply bA|apply bB|apply bC|apply bD|apply bE|apply bF)<;>intro h<;>(try simp only[List.length_map] at h)<;>(try omega)<;>(try contradiction))|(guard_target=aa _ 202 _ _ _ _;refine cG [] rfl (c1) ?_)|(guard_target=aa _ 213 _ _ _ _;refine cG [] rfl (xN) ?_)|(guard_target=aa _ 212 _ _ _ _;refine cG [] rfl (c3) ?_)|(guard_target=Index _ _ _;first|(refine Index.mk _ (aF (d:=⟨#[]⟩) (i:=use.toNat) (by omega)) ?_)|fail)|(guard_target=aV _ _;refine aV.mk (by first|((simp only[List.length_map];constructor<;>omega))|fail) ?_))
 all_goals first|rfl|trivial
theorem Lu(p:cx)(k use:Int)(h0:use<0)(h1: -1000000≤use)(hk:k≤1000000):ah Tryz.prog 196 [.c (.rp 3 (cK p)),I k,I use] [] (.tup [.a 6 (aU (jr iD p k use).1),B (jr iD p k use).2]):=by
 obtain⟨R,hR⟩:∃R,jr iD p k use=R:=⟨_,rfl⟩
 rw[hR]
 unfold jr at hR
 rw[if_neg (by omega)] at hR
 have soft:∀{f:Nat} {args:List SV},ah Tryz.prog f args [] (.tup [.a 6 [J 0,J 0, .ows 66 3 [],J 0,J 0, .ows 66 3 []],B false])→ah Tryz.prog f args [] (.tup [.a 6 (aU ⟨cL,cL⟩),B false]):=fun h=>
  h.soft (.tup (.cons (.a (.same (.same (.ro (.same (.same (.ro .nil))))))) (.cons .same .nil)))
 by_cases h2: -1-use≥k
 ·rw[if_pos h2] at hR
  subst hR
  refine soft ?_
  refine cX Tryz.func196 (h:= ?_)
  repeat'((conv=>whnf);first
   |refine aq.mk ?_ ?_
   |((first|apply bA|apply bB|apply bC|apply bD|apply bE|apply bF)<;>intro h<;>(try simp only[List.length_map] at h)<;>(try omega)<;>(try contradiction))
   |refine aR ?_)
  all_goals first|rfl|trivial
 rw[if_neg h2] at hR
 by_cases h3: -1-use≥(p.ao.length:Nat)
 ·rw[if_pos h3] at hR
  subst hR
  refine soft ?_
  refine cX Tryz.func196 (h:= ?_)
  repeat'((conv=>whnf);first
   |refine aq.mk ?_ ?_
   |(apply Fact.mk;intro hL;try simp only[List.length_map,maxLen] at hL)
   |((first|apply bA|apply bB|apply bC|apply bD|apply bE|apply bF)<;>intro h<;>(try simp only[List.length_map] at h)<;>(try omega)<;>(try contradiction))
   |refine aR ?_)
  all_goals first|rfl|trivial
 rw[if_neg h3] at hR
 subst hR
 refine cX Tryz.func196 (h:= ?_)
 repeat'((conv=>whnf);first
  |refine aq.mk ?_ ?_
  |(apply Fact.mk;intro hL;try simp only[List.length_map,maxLen] at hL)
  |((first|apply bA|apply bB|apply bC|apply bD|apply bE|apply bF)<;>intro h<;>(try simp only[List.length_map] at h)<;>(try omega)<;>(try contradiction))
  |refine aR ?_|(guard_target=Index _ _ _;first|(refine Index.mk _ (aF (d:=⟨cL,cL,0,0,[]⟩) (i:=(-1-use).toNat) (by omega)) ?_)|fail)
  |refine nB ?_
  |refine nO ?_)
 all_goals first|rfl|trivial
mutual
def kO:ae→Bool
 | .mk _ n ks=>decide (0≤n∧n≤3)&&pF ks
def pF:List ae→Bool
 |[]=>true
 |x::xs=>kO x&&pF xs
end
theorem xp:∀{l:List ae} {x:ae},x∈l→pF l=true→kO x=true
 |y::l,x,h,hl=>by
  simp only[pF,Bool.and_eq_true] at hl
  rcases List.mem_cons.1 h with rfl|h
  ·exact hl.1
  ·exact xp h hl.2
theorem kY{t a:Int}(ht:t≤3)(ha:a≤4){e:ae}(h:Tree t a e):kO e=true:=by
 induction h with
 |zero=>rfl
 |one=>rfl
 |test h0 h1=>simp only[kO,pF,Bool.and_true,decide_eq_true_eq];omega
 |act h0 h1=>simp only[kO,pF,Bool.and_true,decide_eq_true_eq];omega
 |not hc h ih=>simp[kO,pF,ih]
 |sum hx hy ih1 ih2=>simp[kO,pF,ih1,ih2]
 |dot hx hy ih1 ih2=>simp[kO,pF,ih1,ih2]
 |star hx ih=>simp[kO,pF,ih]
theorem dw{t a:Int}{e:ae}(h:aY t a e=true):aj e≤200:=by
 unfold aY at h
 simp only[Bool.and_eq_true,decide_eq_true_eq] at h
 have h2:=((ng e).1 200).1 h.1
 unfold cT at h2
 omega
end Go.Proofs.YtgbggaddpbghfaaGreat
namespace Go.Proofs.YtgbggaddpbghfaaGreat
open Go Go.KA Go.Proofs
set_option maxHeartbeats 16000000
set_option maxRecDepth 100000
mutual
theorem Bh(k:Int):∀(e:ae) (m:Int),kO e=true→0≤m→m≤4→0≤dm k e m∧dm k e m≤4
 | .mk kd n ks,m,h,h0,h1=>by
   simp only[kO,Bool.and_eq_true,decide_eq_true_eq] at h
   rw[dm]
   refine vJ k ks _ h.2 ?_ ?_<;>unfold vH<;>(repeat' split)<;>omega
theorem vJ(k:Int):∀(l:List ae) (m:Int),pF l=true→0≤m→m≤4→0≤eY k l m∧eY k l m≤4
 |[],m,_,h0,h1=>⟨h0,h1⟩
 |x::xs,m,h,h0,h1=>by
  simp only[pF,Bool.and_eq_true] at h
  rw[eY]
  have:=Bh k x m h.1 h0 h1
  exact vJ k xs _ h.2 this.1 this.2
end
theorem GR(e:ae):kO e=(decide (0≤e.num∧e.num≤3)&&pF e.kids):=by
 cases e
 rw[kO]
 rfl
theorem tB:∀{l:List ae} (i:Nat),pF l=true→pF (l.take i)=true
 |[],i,_=>by simp[pF]
 |x::xs,0,_=>rfl
 |x::xs,i+1,h=>by
  simp only[pF,Bool.and_eq_true,List.take_succ_cons] at h⊢
  exact⟨h.1,tB i h.2⟩
theorem G0(a b:Int):aD Tryz.prog 77 [I a,I b] (I (vH a b)):=by
 unfold vH
 refine cF Tryz.func77 (h:= ?_)
 repeat'((conv=>whnf);first
  |apply bh.mk
  |((first|apply bA|apply bB|apply bC|apply bD|apply bE|apply bF)<;>intro h<;>(try simp only[List.length_map] at h)<;>(try omega)<;>(try contradiction)))
 all_goals first|(rw[if_pos (by assumption)];rfl)|(rw[if_neg (by assumption)];rfl)|rfl|trivial
theorem EW(e:ae)(hl:kO e=true)(hx:∀x∈e.kids,∀m n:Int,0≤m→m≤4→0≤n→n≤4→ah Tryz.prog 208 [.c (.rp 3 (ag x)), .c (.op [J m]), .c (.op [J n])] [none,some [.op [J (dm 3 x m)]],some [.op [J (dm 4 x n)]]] (.tup [])):
 ∀m n:Int,0≤m→m≤4→0≤n→n≤4→ah Tryz.prog 208 [.c (.rp 3 (aI e)), .c (.op [J m]), .c (.op [J n])] [none,some [.op [J (dm 3 e m)]],some [.op [J (dm 4 e n)]]] (.tup []):=by
 intro m n m0 m1 n0 n1
 obtain⟨k,d,ks⟩:=e
 rw[kO,Bool.and_eq_true,decide_eq_true_eq] at hl
 rw[dm,dm]
 simp only[ae.kids] at hx
 have e0:aI (.mk k d ks)=[J k,J d, .ro 3 (ks.map ag)]:=rfl
 rw[e0]
 obtain⟨M,hM⟩:∃M,(if k=3 then vH m (d+1) else m)=M:=⟨_,rfl⟩
 obtain⟨N,hN⟩:∃N,(if k=4 then vH n (d+1) else n)=N:=⟨_,rfl⟩
 have hMb:0≤M∧M≤4:=by rw[←hM];unfold vH;(repeat' split)<;>omega
 have hNb:0≤N∧N≤4:=by rw[←hN];unfold vH;(repeat' split)<;>omega
 have b3:=fun i=>vJ 3 (ks.take i) M (tB i hl.2) hMb.1 hMb.2
 have b4:=fun i=>vJ 4 (ks.take i) N (tB i hl.2) hNb.1 hNb.2
 rw[hM,hN]
 have cm:=G0 m (d+1)
 have cn:=G0 n (d+1)
 have fin3:eY 3 (ks.take ks.length) M=eY 3 ks M:=by rw[List.take_length]
 have fin4:eY 4 (ks.take ks.length) N=eY 4 ks N:=by rw[List.take_length]
 rw[←fin3,←fin4]
 by_cases h3:k=3
 ·subst h3
  rw[if_pos rfl] at hM
  rw[if_neg (by decide)] at hN
  rw[hM] at cm
  subst hN
  refine cX Tryz.func208 (h:= ?_)
  repeat'((conv=>whnf);first
   |(guard_target=aq _ _;(obtain rfl:i=ks.length:=(by have:=ha.1;omega));rw[←ha.2.1,←ha.2.2];exact aq.mk rfl ⟨rfl,rfl,trivial⟩)|(guard_target=~ aK 5 _ _ _ _ _ _;refine l8 (Nat × Int × Int) [0,1,2] (fun⟨i,p,q⟩=>[(6,I (i:Nat))]) (fun⟨i,p,q⟩=>[(0, .cc 1 [J p]),(1, .cc 1 [J q])]) (fun⟨i,p,q⟩=>i≤ks.length∧p=eY 3 (ks.take i) M∧q=eY 4 (ks.take i) n) (fun⟨i,p,q⟩=>ks.length-i) (0,M,n) (by exact⟨Nat.zero_le _,by simp[eY],by simp[eY]⟩) (fun A ha=> ?_);obtain⟨i,p,q⟩:=A;have ha:i≤ks.length∧p=eY 3 (ks.take i) M∧q=eY 4 (ks.take i) n:=ha;have h3i:=b3 i;have h4i:=b4 i)
   |refine rL ((i+1,dm 3 ks[i] p,dm 4 ks[i] q):Nat × Int × Int) (by exact⟨by show i+1≤_;omega,by show _=eY 3 (ks.take (i+1)) M;rw[jW (by omega),←ha.2.1],by show _=eY 4 (ks.take (i+1)) n;rw[jW (by omega),←ha.2.2]⟩)
   |(apply Fact.mk;intro hL;try simp only[List.length_map,maxLen] at hL)
   |((first|apply bA|apply bB|apply bC|apply bD|apply bE|apply bF)<;>intro h<;>(try simp only[List.length_map] at h)<;>(try omega)<;>(try contradiction))|(guard_target=aa _ 77 _ _ _ _;refine cP rfl (cm) ?_)|(guard_target=aa _ 208 _ _ _ _;refine cG [false,true,true] rfl (hx ks[i] (List.getElem_mem (by omega)) p q (by omega) (by omega) (by omega) (by omega)) ?_)
   |refine aR ?_|(guard_target=Index _ _ _;first|(refine Index.mk _ (bw (i:=i) (by omega)) ?_)|fail)
   |refine nB ?_
   |refine nO ?_)
  all_goals first|rfl|trivial
 rw[if_neg h3] at hM
 subst hM
 by_cases h4:k=4
 ·subst h4
  rw[if_pos rfl] at hN
  rw[hN] at cn
  refine cX Tryz.func208 (h:= ?_)
  repeat'((conv=>whnf);first
   |(guard_target=aq _ _;(obtain rfl:i=ks.length:=(by have:=ha.1;omega));rw[←ha.2.1,←ha.2.2];exact aq.mk rfl ⟨rfl,rfl,trivial⟩)|(guard_target=~ aK 5 _ _ _ _ _ _;refine l8 (Nat × Int × Int) [0,1,2] (fun⟨i,p,q⟩=>[(6,I (i:Nat))]) (fun⟨i,p,q⟩=>[(0, .cc 1 [J p]),(1, .cc 1 [J q])]) (fun⟨i,p,q⟩=>i≤ks.length∧p=eY 3 (ks.take i) m∧q=eY 4 (ks.take i) N) (fun⟨i,p,q⟩=>ks.length-i) (0,m,N) (by exact⟨Nat.zero_le _,by simp[eY],by simp[eY]⟩) (fun A ha=> ?_);obtain⟨i,p,q⟩:=A;have ha:i≤ks.length∧p=eY 3 (ks.take i) m∧q=eY 4 (ks.take i) N:=ha;have h3i:=b3 i;have h4i:=b4 i)
   |refine rL ((i+1,dm 3 ks[i] p,dm 4 ks[i] q):Nat × Int × Int) (by exact⟨by show i+1≤_;omega,by show _=eY 3 (ks.take (i+1)) m;rw[jW (by omega),←ha.2.1],by show _=eY 4 (ks.take (i+1)) N;rw[jW (by omega),←ha.2.2]⟩)
   |(apply Fact.mk;intro hL;try simp only[List.length_map,maxLen] at hL)
   |((first|apply bA|apply bB|apply bC|apply bD|apply bE|apply bF)<;>intro h<;>(try simp only[List.length_map] at h)<;>(try omega)<;>(try contradiction))|(guard_target=aa _ 77 _ _ _ _;refine cP rfl (cn) ?_)|(guard_target=aa _ 208 _ _ _ _;refine cG [false,true,true] rfl (hx ks[i] (List.getElem_mem (by omega)) p q (by omega) (by omega) (by omega) (by omega)) ?_)
   |refine aR ?_|(guard_target=Index _ _ _;first|(refine Index.mk _ (bw (i:=i) (by omega)) ?_)|fail)
   |refine nB ?_
   |refine nO ?_)
  all_goals first|rfl|trivial
 rw[if_neg h4] at hN
 subst hN
 refine cX Tryz.func208 (h:= ?_)
 repeat'((conv=>whnf);first
  |(guard_target=aq _ _;(obtain rfl:i=ks.length:=(by have:=ha.1;omega));rw[←ha.2.1,←ha.2.2];exact aq.mk rfl ⟨rfl,rfl,trivial⟩)|(guard_target=~ aK 5 _ _ _ _ _ _;refine l8 (Nat × Int × Int) [0,1,2] (fun⟨i,p,q⟩=>[(6,I (i:Nat))]) (fun⟨i,p,q⟩=>[(0, .cc 1 [J p]),(1, .cc 1 [J q])]) (fun⟨i,p,q⟩=>i≤ks.length∧p=eY 3 (ks.take i) m∧q=eY 4 (ks.take i) n) (fun⟨i,p,q⟩=>ks.length-i) (0,m,n) (by exact⟨Nat.zero_le _,by simp[eY],by simp[eY]⟩) (fun A ha=> ?_);obtain⟨i,p,q⟩:=A;have ha:i≤ks.length∧p=eY 3 (ks.take i) m∧q=eY 4 (ks.take i) n:=ha;have h3i:=b3 i;have h4i:=b4 i)
  |refine rL ((i+1,dm 3 ks[i] p,dm 4 ks[i] q):Nat × Int × Int) (by exact⟨by show i+1≤_;omega,by show _=eY 3 (ks.take (i+1)) m;rw[jW (by omega),←ha.2.1],by show _=eY 4 (ks.take (i+1)) n;rw[jW (by omega),←ha.2.2]⟩)
  |(apply Fact.mk;intro hL;try simp only[List.length_map,maxLen] at hL)
  |((first|apply bA|apply bB|apply bC|apply bD|apply bE|apply bF)<;>intro h<;>(try simp only[List.length_map] at h)<;>(try omega)<;>(try contradiction))|(guard_target=aa _ 208 _ _ _ _;refine cG [false,true,true] rfl (hx ks[i] (List.getElem_mem (by omega)) p q (by omega) (by omega) (by omega) (by omega)) ?_)
  |refine aR ?_|(guard_target=Index _ _ _;first|(refine Index.mk _ (bw (i:=i) (by omega)) ?_)|fail)
  |refine nO ?_)
 all_goals first|rfl|trivial
theorem jV(e:ae)(hl:kO e=true)(m n:Int)(m0:0≤m)(m1:m≤4)(n0:0≤n)(n1:n≤4):ah Tryz.prog 208 [.c (.rp 3 (ag e)), .c (.op [J m]), .c (.op [J n])] [none,some [.op [J (dm 3 e m)]],some [.op [J (dm 4 e n)]]] (.tup []):=by
 rw[a9]
 exact EW e hl (fun x _hx m n a b c d=>jV x (xp _hx (by rw[GR,Bool.and_eq_true] at hl;exact hl.2)) m n a b c d) m n m0 m1 n0 n1
 termination_by SizeOf.sizeOf e
 decreasing_by
  have:=List.sizeOf_lt_of_mem _hx
  cases e
  simp only[ae.mk.sizeOf_spec]
  show SizeOf.sizeOf x<_
  simp only[ae.kids] at this
  omega
theorem xA(q:bT)(h1:kO q.left=true)(h2:kO q.right=true):aD Tryz.prog 187 [.c (.rp 6 (aU q))] (.tup [I (kG q),I (om q)]):=by
 have c1:=jV q.left h1 0 0 (by decide) (by decide) (by decide) (by decide)
 have a3:=Bh 3 q.left 0 h1 (by decide) (by decide)
 have a4:=Bh 4 q.left 0 h1 (by decide) (by decide)
 have c2:=jV q.right h2 _ _ a3.1 a3.2 a4.1 a4.2
 unfold kG om
 rw[fv] at c1 c2
 generalize dm 3 q.left 0=m at*
 generalize dm 4 q.left 0=n at*
 generalize dm 3 q.right m=p at*
 generalize dm 4 q.right n=r at*
 have c1:=c1.cut (.cut (k:=3) (sz:=6) (cs:=aU q) (by decide) (.same (.same .nil)))
 refine cF Tryz.func187 (h:= ?_)
 repeat'((conv=>whnf);first
  |apply bh.mk|(guard_target=aa _ 208 _ _ _ _;refine cG [false,true,true] rfl (c1) ?_)|(guard_target=aa _ 208 _ _ _ _;refine cG [false,true,true] rfl (c2) ?_)
  |refine nB ?_)
 all_goals first|rfl|trivial
end Go.Proofs.YtgbggaddpbghfaaGreat
namespace Go.Proofs.YtgbggaddpbghfaaGreat
open Go Go.KA Go.Proofs
set_option maxHeartbeats 16000000
set_option maxRecDepth 100000
theorem C6{ts us:List ae}(h1:∀x∈ts,aj x≤200)(h2:∀x∈us,aj x≤200):∀(l:List ae) (m:Int),m-201*aJ l≤(il ts us l m).2∧(il ts us l m).2≤m
 |[],m=>by simp only[il,aJ];omega
 |x::xs,m=>by
  have hx:=lY h1 h2 x m
  have hxs:=C6 h1 h2 xs (jP ts us x m).2
  simp only[il,aJ,gZ] at hx hxs⊢
  omega
end Go.Proofs.YtgbggaddpbghfaaGreat
namespace Go.Proofs.YtgbggaddpbghfaaGreat
open Go Go.KA Go.Proofs
set_option maxHeartbeats 16000000
set_option maxRecDepth 100000
theorem u7{x:ae}{p:List Int}{i:Nat}{b:Bool}(h:i<p.length)(hr:dJ 0 ((x.kids.length:Int)-1) p[i]=true):nA x (p.drop i) b=nA (x.kids.getD (p[i]).toNat cL) (p.drop (i+1)) (b||decide (x.kind=5)):=by
 have h1:=bX hr
 rw[List.drop_eq_getElem_cons h,nA,if_pos ⟨h1.1,by simpa using h1.2⟩]
theorem JT{x:ae}{p:List Int}{i:Nat}{b:Bool}(h:i<p.length)(hr:dJ 0 ((x.kids.length:Int)-1) p[i]=false):nA x (p.drop i) b=(x,b,false):=by
 rw[List.drop_eq_getElem_cons h,nA,if_neg]
 intro h2
 rw[eL h2.1 (by simpa using h2.2)] at hr
 cases hr
theorem LS{x:ae}{p:List Int}{i:Nat}{b:Bool}(h:¬i<p.length):nA x (p.drop i) b=(x,b,true):=by
 rw[List.drop_of_length_le (by omega)]
 rfl
theorem xG(x:ae):x.kids.length≤aj x:=by
 have:∀l:List ae,l.length≤aJ l:=fun l=>by
  induction l with
  |nil=>exact Nat.zero_le _
  |cons x xs ih=>simp only[aJ,List.length_cons];omega
 cases x
 simp only[aj,ae.kids]
 exact this _
theorem An(x:ae)(i:Nat):aj (x.kids.getD i cL)≤aj x:=by
 have:=xW x.kids i
 cases x
 simp only[aj,ae.kids] at this⊢
 exact this
theorem Jp(e:ae)(p:List Int)(hb:aj e≤1048576):aD Tryz.prog 197 [.c (.rp 3 (aI e)), .c (.ro 1 (p.map eI))] (.tup [.c (.rp 3 (aI (nA e p false).1)),B (nA e p false).2.1,B (nA e p false).2.2]):=by
 obtain⟨R,hR⟩:∃R,nA e p false=R:=⟨_,rfl⟩
 rw[hR]
 have cr:=fun x lo hi=>dH x lo hi
 refine cF Tryz.func197 (h:= ?_)
 repeat'((conv=>whnf);first
  |(apply bh.mk;first|((rw[←hA,JT (by omega) (by simpa using‹dJ 0 _ _=false›)];rfl);done)|((rw[←hA,LS (by omega)];rfl);done)|skip)|(guard_target=~ aK 3 _ _ _ _ _ _;refine lp (ae × SV × Bool × Nat) [1] (fun⟨x,S,b,i⟩=>[(0, .c (.rp 3 (aI x))),(7,S),(8,I (i:Nat))]) (fun⟨x,S,b,i⟩=>(S= .c (.cb b)∨S=B b)∧i≤p.length∧nA x (p.drop i) b=R∧aj x≤1048576) (fun⟨x,S,b,i⟩=>p.length-i) (e, .c (.cb false),false,0) (by exact⟨.inl rfl,Nat.zero_le _,hR,hb⟩) (fun A ha=> ?_);obtain⟨x,S,b,i⟩:=A;have ha:(S= .c (.cb b)∨S=B b)∧i≤p.length∧nA x (p.drop i) b=R∧aj x≤1048576:=ha;(obtain⟨hS,hi,hA,hB⟩:=ha);(have hkl:=xG x);(have hkb:=An x);(rcases hS with rfl|rfl<;>cases b))
  |refine nx ((x.kids.getD (p[i]'(by omega)).toNat cL, .c (.cb true),true,i+1):ae × SV × Bool × Nat) (by exact⟨.inl rfl,by show i+1≤_;omega,by show nA _ (p.drop (i+1)) true=R;rw[←hA];exact(u7 (b:=true) (by omega) (by simpa using‹dJ 0 _ _=true›)).symm,Nat.le_trans (hkb _) hB⟩)
  |refine nx ((x.kids.getD (p[i]'(by omega)).toNat cL,B (x.kind==5),x.kind==5,i+1):ae × SV × Bool × Nat) (by exact⟨.inr rfl,by show i+1≤_;omega,by show nA _ (p.drop (i+1)) (x.kind==5)=R;rw[←hA];exact(u7 (b:=false) (by omega) (by simpa using‹dJ 0 _ _=true›)).symm,Nat.le_trans (hkb _) hB⟩)
  |(apply Fact.mk;intro hL;try simp only[List.length_map,maxLen] at hL)
  |((first|apply bA|apply bB|apply bC|apply bD|apply bE|apply bF)<;>intro h<;>(try simp only[List.length_map] at h)<;>(try omega)<;>(try contradiction))|(guard_target=aa _ 86 _ _ _ _;refine cP rfl (dH (p[i]'(by omega)) 0 (((x.kids.map ag).length:Nat)-1)) ?_)|(guard_target=Arith _ _ _;refine Arith.fit (aP (by simp only[List.length_map];omega) (by simp only[List.length_map];omega)) ?_)
  |refine aR ?_|(guard_target=Index _ _ _;first|(refine Index.mk _ (bw (i:=i) (by omega)) ?_)|(refine Index.mk _ (kh (l:=x.kids) (i:=(p[i]'(by omega)).toNat) (by have h9:=bX ‹dJ 0 _ _=true›;(try simp only[List.length_map] at h9);omega)) ?_)|fail)
  |refine nB ?_|(guard_target=aV _ _;refine aV.mk (by first|((have h9:=bX ‹dJ 0 _ _=true›;(try simp only[List.length_map] at h9);omega))|fail) ?_)
  |refine nO ?_)
 all_goals first|rfl|trivial
end Go.Proofs.YtgbggaddpbghfaaGreat
namespace Go.Proofs.YtgbggaddpbghfaaGreat
open Go Go.KA Go.Proofs
set_option maxHeartbeats 16000000
set_option maxRecDepth 100000
def cI:List Int→ae→List ae
 |[],e=>e.kids
 |i::p,e=>cI p (e.kids.getD i.toNat cL)
def yV(ks:List ae):List Int→ae→ae
 |[],e=> .mk e.kind e.num ks
 |i::p,e=> .mk e.kind e.num (e.kids.set i.toNat (yV ks p (e.kids.getD i.toNat cL)))
theorem tI(i:Int):∀(p:List Int) (e:ae),cI (p++[i]) e=((cI p e).getD i.toNat cL).kids
 |[],e=>rfl
 |j::p,e=>by
  rw[List.cons_append,cI,cI,tI i p]
theorem A1(y e:ae)(i:Int)(p:List Int):gK y e (i::p)= .mk e.kind e.num (e.kids.set i.toNat (gK y (e.kids.getD i.toNat cL) p)):=by
 cases e
 rfl
theorem zx(y:ae)(i:Int):∀(p:List Int) (e:ae),yV ((cI p e).set i.toNat y) p e=gK y e (p++[i])
 |[],e=>by
  rw[List.nil_append,A1,gK]
  rfl
 |j::p,e=>by
  rw[List.cons_append,A1,yV,cI,zx y i p]
theorem A6{l:List ae}{i:Nat}(h:i<l.length):(l.map ay)[i]? =some (bN (l.getD i cL)):=by
 rw[List.getElem?_map,List.getElem?_eq_getElem h,getD_eq h]
 exact congrArg some (dt _)
end Go.Proofs.YtgbggaddpbghfaaGreat
