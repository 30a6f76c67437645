/- Contracts of the reference's greatest numbers of an equation, of replacing tests and actions, and of the node at a path. Conditions: valid trees, bounds of size. -/
import Derived.Test.YtgbggaddpbghfaaGreatKAK
namespace Go.Proofs.YtgbggaddpbghfaaGreat
open Go Go.KA Go.Proofs
set_option maxHeartbeats 16000000
set_option maxRecDepth 100000
mutual
theorem zR(k:Int):∀(e:ae) (m:Int),kG e=true→0≤m→m≤4→0≤dq k e m∧dq k e m≤4
 | .mk kd n ks,m,h,h0,h1=>by
   simp only[kG,Bool.and_eq_true,decide_eq_true_eq] at h
   rw[dq]
   refine vz k ks _ h.2 ?_ ?_<;>unfold vt<;>(repeat' split)<;>omega
theorem vz(k:Int):∀(l:List ae) (m:Int),oL l=true→0≤m→m≤4→0≤eT k l m∧eT k l m≤4
 |[],m,_,h0,h1=>⟨h0,h1⟩
 |x::xs,m,h,h0,h1=>by
  simp only[oL,Bool.and_eq_true] at h
  rw[eT]
  have:=zR k x m h.1 h0 h1
  exact vz k xs _ h.2 this.1 this.2
end
theorem Gm(e:ae):kG e=(decide (0≤e.num∧e.num≤3)&&oL e.kids):=by
 cases e
 rw[kG]
 rfl
theorem tY:∀{l:List ae} (i:Nat),oL l=true→oL (l.take i)=true
 |[],i,_=>by simp[oL]
 |x::xs,0,_=>rfl
 |x::xs,i+1,h=>by
  simp only[oL,Bool.and_eq_true,List.take_succ_cons] at h⊢
  exact⟨h.1,tY i h.2⟩
theorem FO(a b:Int):aE Tryz.prog 77 [I a,I b] (I (vt a b)):=by
 unfold vt
 refine cF Tryz.func77 (h:= ?_)
 repeat'((conv=>whnf);first
  |apply bo.mk
  |((first|apply bA|apply bB|apply bC|apply bD|apply bE|apply bF)<;>intro h<;>(try simp only[List.length_map] at h)<;>(try omega)<;>(try contradiction))
  |refine nO ?_)
 all_goals first|(rw[if_pos (by assumption)];rfl)|(rw[if_neg (by assumption)];rfl)|rfl|trivial
theorem Ej(e:ae)(hl:kG e=true)(hx:∀x∈e.kids,∀m n:Int,0≤m→m≤4→0≤n→n≤4→ai Tryz.prog 208 [.c (.rp 3 (af x)), .c (.op [J m]), .c (.op [J n])] [none,some [.op [J (dq 3 x m)]],some [.op [J (dq 4 x n)]]] (.tup [])):
 ∀m n:Int,0≤m→m≤4→0≤n→n≤4→ai Tryz.prog 208 [.c (.rp 3 (aI e)), .c (.op [J m]), .c (.op [J n])] [none,some [.op [J (dq 3 e m)]],some [.op [J (dq 4 e n)]]] (.tup []):=by
 intro m n m0 m1 n0 n1
 obtain⟨k,d,ks⟩:=e
 rw[kG,Bool.and_eq_true,decide_eq_true_eq] at hl
 rw[dq,dq]
 simp only[ae.kids] at hx
 have e0:aI (.mk k d ks)=[J k,J d, .ro 3 (ks.map af)]:=rfl
 rw[e0]
 obtain⟨M,hM⟩:∃M,(if k=3 then vt m (d+1) else m)=M:=⟨_,rfl⟩
 obtain⟨N,hN⟩:∃N,(if k=4 then vt n (d+1) else n)=N:=⟨_,rfl⟩
 have hMb:0≤M∧M≤4:=by rw[←hM];unfold vt;(repeat' split)<;>omega
 have hNb:0≤N∧N≤4:=by rw[←hN];unfold vt;(repeat' split)<;>omega
 have b3:=fun i=>vz 3 (ks.take i) M (tY i hl.2) hMb.1 hMb.2
 have b4:=fun i=>vz 4 (ks.take i) N (tY i hl.2) hNb.1 hNb.2
 rw[hM,hN]
 have cm:=FO m (d+1)
 have cn:=FO n (d+1)
 have fin3:eT 3 (ks.take ks.length) M=eT 3 ks M:=by rw[List.take_length]
 have fin4:eT 4 (ks.take ks.length) N=eT 4 ks N:=by rw[List.take_length]
 rw[←fin3,←fin4]
 by_cases h3:k=3
 ·subst h3
  rw[if_pos rfl] at hM
  rw[if_neg (by decide)] at hN
  rw[hM] at cm
  subst hN
  refine cX Tryz.func208 (h:= ?_)
  repeat'((conv=>whnf);first
   |(guard_target=ah _ _;(obtain rfl:i=ks.length:=(by have:=ha.1;omega));rw[←ha.2.1,←ha.2.2];exact ah.mk rfl ⟨rfl,rfl,trivial⟩)
   |refine ah.mk ?_ ?_|(guard_target=~ aP 5 _ _ _ _ _ _;refine lX (Nat × Int × Int) [0,1,2] (fun⟨i,p,q⟩=>[(6,I (i:Nat))]) (fun⟨i,p,q⟩=>[(0, .cc 1 [J p]),(1, .cc 1 [J q])]) (fun⟨i,p,q⟩=>i≤ks.length∧p=eT 3 (ks.take i) M∧q=eT 4 (ks.take i) n) (fun⟨i,p,q⟩=>ks.length-i) (0,M,n) (by exact⟨Nat.zero_le _,by simp[eT],by simp[eT]⟩) (fun A ha=> ?_);obtain⟨i,p,q⟩:=A;have ha:i≤ks.length∧p=eT 3 (ks.take i) M∧q=eT 4 (ks.take i) n:=ha;have h3i:=b3 i;have h4i:=b4 i)
   |refine qJ ((i+1,dq 3 ks[i] p,dq 4 ks[i] q):Nat × Int × Int) (by exact⟨by show i+1≤_;omega,by show _=eT 3 (ks.take (i+1)) M;rw[jM (by omega),←ha.2.1],by show _=eT 4 (ks.take (i+1)) n;rw[jM (by omega),←ha.2.2]⟩)
   |(apply Fact.mk;intro hL;try simp only[List.length_map,maxLen] at hL)
   |((first|apply bA|apply bB|apply bC|apply bD|apply bE|apply bF)<;>intro h<;>(try simp only[List.length_map] at h)<;>(try omega)<;>(try contradiction))|(guard_target=aa _ 77 _ _ _ _;refine cP rfl (cm) ?_)|(guard_target=aa _ 208 _ _ _ _;refine cG [false,true,true] rfl (hx ks[i] (List.getElem_mem (by omega)) p q (by omega) (by omega) (by omega) (by omega)) ?_)
   |refine aR ?_|(guard_target=Index _ _ _;first|refine Index.mk _ (bz (i:=i) (by omega)) ?_)
   |refine iX (k:= ?_)
   |refine nB ?_
   |apply ay.no
   |apply cj.go
   |refine nO ?_)
  all_goals first|rfl|trivial
 rw[if_neg h3] at hM
 subst hM
 by_cases h4:k=4
 ·subst h4
  rw[if_pos rfl] at hN
  rw[hN] at cn
  refine cX Tryz.func208 (h:= ?_)
  repeat'((conv=>whnf);first
   |(guard_target=ah _ _;(obtain rfl:i=ks.length:=(by have:=ha.1;omega));rw[←ha.2.1,←ha.2.2];exact ah.mk rfl ⟨rfl,rfl,trivial⟩)
   |refine ah.mk ?_ ?_|(guard_target=~ aP 5 _ _ _ _ _ _;refine lX (Nat × Int × Int) [0,1,2] (fun⟨i,p,q⟩=>[(6,I (i:Nat))]) (fun⟨i,p,q⟩=>[(0, .cc 1 [J p]),(1, .cc 1 [J q])]) (fun⟨i,p,q⟩=>i≤ks.length∧p=eT 3 (ks.take i) m∧q=eT 4 (ks.take i) N) (fun⟨i,p,q⟩=>ks.length-i) (0,m,N) (by exact⟨Nat.zero_le _,by simp[eT],by simp[eT]⟩) (fun A ha=> ?_);obtain⟨i,p,q⟩:=A;have ha:i≤ks.length∧p=eT 3 (ks.take i) m∧q=eT 4 (ks.take i) N:=ha;have h3i:=b3 i;have h4i:=b4 i)
   |refine qJ ((i+1,dq 3 ks[i] p,dq 4 ks[i] q):Nat × Int × Int) (by exact⟨by show i+1≤_;omega,by show _=eT 3 (ks.take (i+1)) m;rw[jM (by omega),←ha.2.1],by show _=eT 4 (ks.take (i+1)) N;rw[jM (by omega),←ha.2.2]⟩)
   |(apply Fact.mk;intro hL;try simp only[List.length_map,maxLen] at hL)
   |((first|apply bA|apply bB|apply bC|apply bD|apply bE|apply bF)<;>intro h<;>(try simp only[List.length_map] at h)<;>(try omega)<;>(try contradiction))|(guard_target=aa _ 77 _ _ _ _;refine cP rfl (cn) ?_)|(guard_target=aa _ 208 _ _ _ _;refine cG [false,true,true] rfl (hx ks[i] (List.getElem_mem (by omega)) p q (by omega) (by omega) (by omega) (by omega)) ?_)
   |refine aR ?_|(guard_target=Index _ _ _;first|refine Index.mk _ (bz (i:=i) (by omega)) ?_)
   |refine iX (k:= ?_)
   |refine nB ?_
   |apply ay.no
   |apply cj.go
   |refine nO ?_)
  all_goals first|rfl|trivial
 rw[if_neg h4] at hN
 subst hN
 refine cX Tryz.func208 (h:= ?_)
 repeat'((conv=>whnf);first
  |(guard_target=ah _ _;(obtain rfl:i=ks.length:=(by have:=ha.1;omega));rw[←ha.2.1,←ha.2.2];exact ah.mk rfl ⟨rfl,rfl,trivial⟩)
  |refine ah.mk ?_ ?_|(guard_target=~ aP 5 _ _ _ _ _ _;refine lX (Nat × Int × Int) [0,1,2] (fun⟨i,p,q⟩=>[(6,I (i:Nat))]) (fun⟨i,p,q⟩=>[(0, .cc 1 [J p]),(1, .cc 1 [J q])]) (fun⟨i,p,q⟩=>i≤ks.length∧p=eT 3 (ks.take i) m∧q=eT 4 (ks.take i) n) (fun⟨i,p,q⟩=>ks.length-i) (0,m,n) (by exact⟨Nat.zero_le _,by simp[eT],by simp[eT]⟩) (fun A ha=> ?_);obtain⟨i,p,q⟩:=A;have ha:i≤ks.length∧p=eT 3 (ks.take i) m∧q=eT 4 (ks.take i) n:=ha;have h3i:=b3 i;have h4i:=b4 i)
  |refine qJ ((i+1,dq 3 ks[i] p,dq 4 ks[i] q):Nat × Int × Int) (by exact⟨by show i+1≤_;omega,by show _=eT 3 (ks.take (i+1)) m;rw[jM (by omega),←ha.2.1],by show _=eT 4 (ks.take (i+1)) n;rw[jM (by omega),←ha.2.2]⟩)
  |(apply Fact.mk;intro hL;try simp only[List.length_map,maxLen] at hL)
  |((first|apply bA|apply bB|apply bC|apply bD|apply bE|apply bF)<;>intro h<;>(try simp only[List.length_map] at h)<;>(try omega)<;>(try contradiction))|(guard_target=aa _ 208 _ _ _ _;refine cG [false,true,true] rfl (hx ks[i] (List.getElem_mem (by omega)) p q (by omega) (by omega) (by omega) (by omega)) ?_)
  |refine aR ?_|(guard_target=Index _ _ _;first|refine Index.mk _ (bz (i:=i) (by omega)) ?_)
  |refine iX (k:= ?_)
  |refine nB ?_
  |apply ay.no
  |apply cj.go
  |refine nO ?_)
 all_goals first|rfl|trivial
theorem jG(e:ae)(hl:kG e=true)(m n:Int)(m0:0≤m)(m1:m≤4)(n0:0≤n)(n1:n≤4):ai Tryz.prog 208 [.c (.rp 3 (af e)), .c (.op [J m]), .c (.op [J n])] [none,some [.op [J (dq 3 e m)]],some [.op [J (dq 4 e n)]]] (.tup []):=by
 rw[a9]
 exact Ej e hl (fun x _hx m n a b c d=>jG x (xb _hx (by rw[Gm,Bool.and_eq_true] at hl;exact hl.2)) m n a b c d) m n m0 m1 n0 n1
 termination_by SizeOf.sizeOf e
 decreasing_by
  have:=List.sizeOf_lt_of_mem _hx
  cases e
  simp only[ae.mk.sizeOf_spec]
  show SizeOf.sizeOf x<_
  simp only[ae.kids] at this
  omega
theorem wg(q:bX)(h1:kG q.left=true)(h2:kG q.right=true):aE Tryz.prog 187 [.c (.rp 6 (aV q))] (.tup [I (kx q),I (om q)]):=by
 have c1:=jG q.left h1 0 0 (by decide) (by decide) (by decide) (by decide)
 have a3:=zR 3 q.left 0 h1 (by decide) (by decide)
 have a4:=zR 4 q.left 0 h1 (by decide) (by decide)
 have c2:=jG q.right h2 _ _ a3.1 a3.2 a4.1 a4.2
 unfold kx om
 rw[ff] at c1 c2
 generalize dq 3 q.left 0=m at*
 generalize dq 4 q.left 0=n at*
 generalize dq 3 q.right m=p at*
 generalize dq 4 q.right n=r at*
 have c1:=c1.cut (.cut (k:=3) (sz:=6) (cs:=aV q) (by decide) (.same (.same .nil)))
 refine cF Tryz.func187 (h:= ?_)
 repeat'((conv=>whnf);first
  |apply bo.mk|(guard_target=aa _ 208 _ _ _ _;refine cG [false,true,true] rfl (c1) ?_)|(guard_target=aa _ 208 _ _ _ _;refine cG [false,true,true] rfl (c2) ?_)
  |refine iX (k:= ?_)
  |refine nB ?_
  |apply cj.go
  |refine nO ?_)
 all_goals first|rfl|trivial
end Go.Proofs.YtgbggaddpbghfaaGreat
namespace Go.Proofs.YtgbggaddpbghfaaGreat
open Go Go.KA Go.Proofs
set_option maxHeartbeats 16000000
set_option maxRecDepth 100000
theorem CU{ts us:List ae}(h1:∀x∈ts,ao x≤200)(h2:∀x∈us,ao x≤200):∀(l:List ae) (m:Int),m-201*aK l≤(gZ ts us l m).2∧(gZ ts us l m).2≤m
 |[],m=>by simp only[gZ,aK];omega
 |x::xs,m=>by
  have hx:=lG h1 h2 x m
  have hxs:=CU h1 h2 xs (jL ts us x m).2
  simp only[gZ,aK,gV] at hx hxs⊢
  omega
end Go.Proofs.YtgbggaddpbghfaaGreat
namespace Go.Proofs.YtgbggaddpbghfaaGreat
open Go Go.KA Go.Proofs
set_option maxHeartbeats 16000000
set_option maxRecDepth 100000
theorem uQ{x:ae}{p:List Int}{i:Nat}{b:Bool}(h:i<p.length)(hr:dH 0 ((x.kids.length:Int)-1) p[i]=true):nr x (p.drop i) b=nr (x.kids.getD (p[i]).toNat cQ) (p.drop (i+1)) (b||decide (x.kind=5)):=by
 have h1:=bW hr
 rw[List.drop_eq_getElem_cons h,nr,if_pos ⟨h1.1,by simpa using h1.2⟩]
theorem JI{x:ae}{p:List Int}{i:Nat}{b:Bool}(h:i<p.length)(hr:dH 0 ((x.kids.length:Int)-1) p[i]=false):nr x (p.drop i) b=(x,b,false):=by
 rw[List.drop_eq_getElem_cons h,nr,if_neg]
 intro h2
 rw[eQ h2.1 (by simpa using h2.2)] at hr
 cases hr
theorem IV{x:ae}{p:List Int}{i:Nat}{b:Bool}(h:¬i<p.length):nr x (p.drop i) b=(x,b,true):=by
 rw[List.drop_of_length_le (by omega)]
 rfl
theorem wq(x:ae):x.kids.length≤ao x:=by
 have:∀l:List ae,l.length≤aK l:=fun l=>by
  induction l with
  |nil=>exact Nat.zero_le _
  |cons x xs ih=>simp only[aK,List.length_cons];omega
 cases x
 simp only[ao,ae.kids]
 exact this _
theorem AF(x:ae)(i:Nat):ao (x.kids.getD i cQ)≤ao x:=by
 have:=vN x.kids i
 cases x
 simp only[ao,ae.kids] at this⊢
 exact this
theorem Kr(e:ae)(p:List Int)(hb:ao e≤1048576):aE Tryz.prog 197 [.c (.rp 3 (aI e)), .c (.ro 1 (p.map eI))] (.tup [.c (.rp 3 (aI (nr e p false).1)),B (nr e p false).2.1,B (nr e p false).2.2]):=by
 obtain⟨R,hR⟩:∃R,nr e p false=R:=⟨_,rfl⟩
 rw[hR]
 have cr:=fun x lo hi=>dE x lo hi
 refine cF Tryz.func197 (h:= ?_)
 repeat'((conv=>whnf);first
  |(apply bo.mk;first|((rw[←hA,JI (by omega) (by simpa using‹dH 0 _ _=false›)];rfl);done)|((rw[←hA,IV (by omega)];rfl);done)|skip)|(guard_target=~ aP 3 _ _ _ _ _ _;refine lp (ae × SV × Bool × Nat) [1] (fun⟨x,S,b,i⟩=>[(0, .c (.rp 3 (aI x))),(7,S),(8,I (i:Nat))]) (fun⟨x,S,b,i⟩=>(S= .c (.cb b)∨S=B b)∧i≤p.length∧nr x (p.drop i) b=R∧ao x≤1048576) (fun⟨x,S,b,i⟩=>p.length-i) (e, .c (.cb false),false,0) (by exact⟨.inl rfl,Nat.zero_le _,hR,hb⟩) (fun A ha=> ?_);obtain⟨x,S,b,i⟩:=A;have ha:(S= .c (.cb b)∨S=B b)∧i≤p.length∧nr x (p.drop i) b=R∧ao x≤1048576:=ha;(obtain⟨hS,hi,hA,hB⟩:=ha);(have hkl:=wq x);(have hkb:=AF x);(rcases hS with rfl|rfl<;>cases b))
  |refine nx ((x.kids.getD (p[i]'(by omega)).toNat cQ, .c (.cb true),true,i+1):ae × SV × Bool × Nat) (by exact⟨.inl rfl,by show i+1≤_;omega,by show nr _ (p.drop (i+1)) true=R;rw[←hA];exact(uQ (b:=true) (by omega) (by simpa using‹dH 0 _ _=true›)).symm,Nat.le_trans (hkb _) hB⟩)
  |refine nx ((x.kids.getD (p[i]'(by omega)).toNat cQ,B (x.kind==5),x.kind==5,i+1):ae × SV × Bool × Nat) (by exact⟨.inr rfl,by show i+1≤_;omega,by show nr _ (p.drop (i+1)) (x.kind==5)=R;rw[←hA];exact(uQ (b:=false) (by omega) (by simpa using‹dH 0 _ _=true›)).symm,Nat.le_trans (hkb _) hB⟩)
  |(apply Fact.mk;intro hL;try simp only[List.length_map,maxLen] at hL)
  |((first|apply bA|apply bB|apply bC|apply bD|apply bE|apply bF)<;>intro h<;>(try simp only[List.length_map] at h)<;>(try omega)<;>(try contradiction))|(guard_target=aa _ 86 _ _ _ _;refine cP rfl (dE (p[i]'(by omega)) 0 (((x.kids.map af).length:Nat)-1)) ?_)|(guard_target=Arith _ _ _;refine Arith.fit (aL (by simp only[List.length_map];omega) (by simp only[List.length_map];omega)) ?_)
  |refine aR ?_|(guard_target=Index _ _ _;first|refine Index.mk _ (bz (i:=i) (by omega)) ?_|refine Index.mk _ (km (l:=x.kids) (i:=(p[i]'(by omega)).toNat) (by have h9:=bW ‹dH 0 _ _=true›;(try simp only[List.length_map] at h9);omega)) ?_)
  |refine iX (k:= ?_)
  |refine nB ?_
  |apply ay.no
  |apply cj.go|(guard_target=aQ _ _;refine aQ.mk (by first|((have h9:=bW ‹dH 0 _ _=true›;(try simp only[List.length_map] at h9);omega))|fail) ?_)
  |refine nO ?_)
 all_goals first|rfl|trivial
end Go.Proofs.YtgbggaddpbghfaaGreat
namespace Go.Proofs.YtgbggaddpbghfaaGreat
open Go Go.KA Go.Proofs
set_option maxHeartbeats 16000000
set_option maxRecDepth 100000
def cN:List Int→ae→List ae
 |[],e=>e.kids
 |i::p,e=>cN p (e.kids.getD i.toNat cQ)
def yP(ks:List ae):List Int→ae→ae
 |[],e=> .mk e.kind e.num ks
 |i::p,e=> .mk e.kind e.num (e.kids.set i.toNat (yP ks p (e.kids.getD i.toNat cQ)))
theorem tE(i:Int):∀(p:List Int) (e:ae),cN (p++[i]) e=((cN p e).getD i.toNat cQ).kids
 |[],e=>rfl
 |j::p,e=>by
  rw[List.cons_append,cN,cN,tE i p]
theorem zQ(y e:ae)(i:Int)(p:List Int):gD y e (i::p)= .mk e.kind e.num (e.kids.set i.toNat (gD y (e.kids.getD i.toNat cQ) p)):=by
 cases e
 rfl
theorem ye(y:ae)(i:Int):∀(p:List Int) (e:ae),yP ((cN p e).set i.toNat y) p e=gD y e (p++[i])
 |[],e=>by
  rw[List.nil_append,zQ,gD]
  rfl
 |j::p,e=>by
  rw[List.cons_append,zQ,yP,cN,ye y i p]
theorem AO{l:List ae}{i:Nat}(h:i<l.length):(l.map az)[i]? =some (bQ (l.getD i cQ)):=by
 rw[List.getElem?_map,List.getElem?_eq_getElem h,getD_eq h]
 exact congrArg some (dw _)
end Go.Proofs.YtgbggaddpbghfaaGreat
namespace Go.Proofs.YtgbggaddpbghfaaGreat
open Go Go.KA Go.Proofs
set_option maxHeartbeats 16000000
set_option maxRecDepth 100000
abbrev lW(a b c d e f g:ae):List CV:=[J a.kind,J a.num, .ro 3 (a.kids.map af),J b.kind,J b.num, .ro 3 (b.kids.map af),J c.kind,J c.num, .ro 3 (c.kids.map af),J d.kind,J d.num, .ro 3 (d.kids.map af),J e.kind,J e.num, .ro 3 (e.kids.map af),J f.kind,J f.num, .ro 3 (f.kids.map af),J g.kind,J g.num, .ro 3 (g.kids.map af)]
abbrev NN(x:Fit):List CV:=lW x.t0 x.t1 x.t2 x.a0 x.a1 x.a2 x.a3
theorem kP(x e:ae)(sz:Nat)(hs:3≤sz)(l:List CV):aE Tryz.prog 51 [.c (.rp sz (aI x++l)), .c (.rp 3 (aI e))] (B (eqv x e)):=(nE x e).cut (jB.cut (sz:=sz) (k:=3) (cs:=aI x++l) hs (.same .nil))
section
variable(a b c d e f g y:ae)(hb:ao y≤1048576)
include hb
theorem Ok:ai Tryz.prog 228 [.c (.op (lW a b c d e f g)), .c (.rp 3 (aI y))] [some [.op (lW (dI a y) b c d e f g)]] (B (ee a y)):=by
 by_cases h0:a.kind=0
 ·have e1:dI a y=y:=if_pos h0
  have e2:ee a y=true:=if_pos h0
  rw[e1,e2]
  refine cX Tryz.func228 (h:= ?_)
  repeat'((conv=>whnf);first
   |refine ah.mk ?_ ?_
   |((first|apply bA|apply bB|apply bC|apply bD|apply bE|apply bF)<;>intro h<;>(try simp only[List.length_map] at h)<;>(try omega)<;>(try contradiction))|(guard_target=aa _ 137 _ _ _ _;refine cG [] rfl (qM y hb) ?_)
   |refine iX (k:= ?_)
   |refine nO ?_)
  all_goals first|rfl|trivial
 ·have e1:dI a y=a:=if_neg h0
  have e2:ee a y=eqv a y:=if_neg h0
  rw[e1,e2]
  refine cX Tryz.func228 (h:= ?_)
  repeat'((conv=>whnf);first
   |refine ah.mk ?_ ?_
   |((first|apply bA|apply bB|apply bC|apply bD|apply bE|apply bF)<;>intro h<;>(try simp only[List.length_map] at h)<;>(try omega)<;>(try contradiction))|(guard_target=aa _ 51 _ _ _ _;refine cP rfl (kP a y 21 (by decide) [J b.kind,J b.num, .ro 3 (b.kids.map af),J c.kind,J c.num, .ro 3 (c.kids.map af),J d.kind,J d.num, .ro 3 (d.kids.map af),J e.kind,J e.num, .ro 3 (e.kids.map af),J f.kind,J f.num, .ro 3 (f.kids.map af),J g.kind,J g.num, .ro 3 (g.kids.map af)]) ?_)
   |refine iX (k:= ?_)
   |refine nO ?_)
  all_goals first|rfl|trivial
theorem Ol:ai Tryz.prog 228 [.tup [.c (.op (lW a b c d e f g)), .lp 0 3], .c (.rp 3 (aI y))] [some [.op (lW a (dI b y) c d e f g)]] (B (ee b y)):=by
 by_cases h0:b.kind=0
 ·have e1:dI b y=y:=if_pos h0
  have e2:ee b y=true:=if_pos h0
  rw[e1,e2]
  refine cX Tryz.func228 (h:= ?_)
  repeat'((conv=>whnf);first
   |refine ah.mk ?_ ?_
   |((first|apply bA|apply bB|apply bC|apply bD|apply bE|apply bF)<;>intro h<;>(try simp only[List.length_map] at h)<;>(try omega)<;>(try contradiction))|(guard_target=aa _ 137 _ _ _ _;refine cG [] rfl (qM y hb) ?_)
   |refine iX (k:= ?_)
   |refine nO ?_)
  all_goals first|rfl|trivial
 ·have e1:dI b y=b:=if_neg h0
  have e2:ee b y=eqv b y:=if_neg h0
  rw[e1,e2]
  refine cX Tryz.func228 (h:= ?_)
  repeat'((conv=>whnf);first
   |refine ah.mk ?_ ?_
   |((first|apply bA|apply bB|apply bC|apply bD|apply bE|apply bF)<;>intro h<;>(try simp only[List.length_map] at h)<;>(try omega)<;>(try contradiction))|(guard_target=aa _ 51 _ _ _ _;refine cP rfl (kP b y 18 (by decide) [J c.kind,J c.num, .ro 3 (c.kids.map af),J d.kind,J d.num, .ro 3 (d.kids.map af),J e.kind,J e.num, .ro 3 (e.kids.map af),J f.kind,J f.num, .ro 3 (f.kids.map af),J g.kind,J g.num, .ro 3 (g.kids.map af)]) ?_)
   |refine iX (k:= ?_)
   |refine nO ?_)
  all_goals first|rfl|trivial
theorem On:ai Tryz.prog 228 [.tup [.c (.op (lW a b c d e f g)), .lp 0 6], .c (.rp 3 (aI y))] [some [.op (lW a b (dI c y) d e f g)]] (B (ee c y)):=by
 by_cases h0:c.kind=0
 ·have e1:dI c y=y:=if_pos h0
  have e2:ee c y=true:=if_pos h0
  rw[e1,e2]
  refine cX Tryz.func228 (h:= ?_)
  repeat'((conv=>whnf);first
   |refine ah.mk ?_ ?_
   |((first|apply bA|apply bB|apply bC|apply bD|apply bE|apply bF)<;>intro h<;>(try simp only[List.length_map] at h)<;>(try omega)<;>(try contradiction))|(guard_target=aa _ 137 _ _ _ _;refine cG [] rfl (qM y hb) ?_)
   |refine iX (k:= ?_)
   |refine nO ?_)
  all_goals first|rfl|trivial
 ·have e1:dI c y=c:=if_neg h0
  have e2:ee c y=eqv c y:=if_neg h0
  rw[e1,e2]
  refine cX Tryz.func228 (h:= ?_)
  repeat'((conv=>whnf);first
   |refine ah.mk ?_ ?_
   |((first|apply bA|apply bB|apply bC|apply bD|apply bE|apply bF)<;>intro h<;>(try simp only[List.length_map] at h)<;>(try omega)<;>(try contradiction))|(guard_target=aa _ 51 _ _ _ _;refine cP rfl (kP c y 15 (by decide) [J d.kind,J d.num, .ro 3 (d.kids.map af),J e.kind,J e.num, .ro 3 (e.kids.map af),J f.kind,J f.num, .ro 3 (f.kids.map af),J g.kind,J g.num, .ro 3 (g.kids.map af)]) ?_)
   |refine iX (k:= ?_)
   |refine nO ?_)
  all_goals first|rfl|trivial
theorem N8:ai Tryz.prog 228 [.tup [.c (.op (lW a b c d e f g)), .lp 0 9], .c (.rp 3 (aI y))] [some [.op (lW a b c (dI d y) e f g)]] (B (ee d y)):=by
 by_cases h0:d.kind=0
 ·have e1:dI d y=y:=if_pos h0
  have e2:ee d y=true:=if_pos h0
  rw[e1,e2]
  refine cX Tryz.func228 (h:= ?_)
  repeat'((conv=>whnf);first
   |refine ah.mk ?_ ?_
   |((first|apply bA|apply bB|apply bC|apply bD|apply bE|apply bF)<;>intro h<;>(try simp only[List.length_map] at h)<;>(try omega)<;>(try contradiction))|(guard_target=aa _ 137 _ _ _ _;refine cG [] rfl (qM y hb) ?_)
   |refine iX (k:= ?_)
   |refine nO ?_)
  all_goals first|rfl|trivial
 ·have e1:dI d y=d:=if_neg h0
  have e2:ee d y=eqv d y:=if_neg h0
  rw[e1,e2]
  refine cX Tryz.func228 (h:= ?_)
  repeat'((conv=>whnf);first
   |refine ah.mk ?_ ?_
   |((first|apply bA|apply bB|apply bC|apply bD|apply bE|apply bF)<;>intro h<;>(try simp only[List.length_map] at h)<;>(try omega)<;>(try contradiction))|(guard_target=aa _ 51 _ _ _ _;refine cP rfl (kP d y 12 (by decide) [J e.kind,J e.num, .ro 3 (e.kids.map af),J f.kind,J f.num, .ro 3 (f.kids.map af),J g.kind,J g.num, .ro 3 (g.kids.map af)]) ?_)
   |refine iX (k:= ?_)
   |refine nO ?_)
  all_goals first|rfl|trivial
theorem NO:ai Tryz.prog 228 [.tup [.c (.op (lW a b c d e f g)), .lp 0 12], .c (.rp 3 (aI y))] [some [.op (lW a b c d (dI e y) f g)]] (B (ee e y)):=by
 by_cases h0:e.kind=0
 ·have e1:dI e y=y:=if_pos h0
  have e2:ee e y=true:=if_pos h0
  rw[e1,e2]
  refine cX Tryz.func228 (h:= ?_)
  repeat'((conv=>whnf);first
   |refine ah.mk ?_ ?_
   |((first|apply bA|apply bB|apply bC|apply bD|apply bE|apply bF)<;>intro h<;>(try simp only[List.length_map] at h)<;>(try omega)<;>(try contradiction))|(guard_target=aa _ 137 _ _ _ _;refine cG [] rfl (qM y hb) ?_)
   |refine iX (k:= ?_)
   |refine nO ?_)
  all_goals first|rfl|trivial
 ·have e1:dI e y=e:=if_neg h0
  have e2:ee e y=eqv e y:=if_neg h0
  rw[e1,e2]
  refine cX Tryz.func228 (h:= ?_)
  repeat'((conv=>whnf);first
   |refine ah.mk ?_ ?_
   |((first|apply bA|apply bB|apply bC|apply bD|apply bE|apply bF)<;>intro h<;>(try simp only[List.length_map] at h)<;>(try omega)<;>(try contradiction))|(guard_target=aa _ 51 _ _ _ _;refine cP rfl (kP e y 9 (by decide) [J f.kind,J f.num, .ro 3 (f.kids.map af),J g.kind,J g.num, .ro 3 (g.kids.map af)]) ?_)
   |refine iX (k:= ?_)
   |refine nO ?_)
  all_goals first|rfl|trivial
theorem NS:ai Tryz.prog 228 [.tup [.c (.op (lW a b c d e f g)), .lp 0 15], .c (.rp 3 (aI y))] [some [.op (lW a b c d e (dI f y) g)]] (B (ee f y)):=by
 by_cases h0:f.kind=0
 ·have e1:dI f y=y:=if_pos h0
  have e2:ee f y=true:=if_pos h0
  rw[e1,e2]
  refine cX Tryz.func228 (h:= ?_)
  repeat'((conv=>whnf);first
   |refine ah.mk ?_ ?_
   |((first|apply bA|apply bB|apply bC|apply bD|apply bE|apply bF)<;>intro h<;>(try simp only[List.length_map] at h)<;>(try omega)<;>(try contradiction))|(guard_target=aa _ 137 _ _ _ _;refine cG [] rfl (qM y hb) ?_)
   |refine iX (k:= ?_)
   |refine nO ?_)
  all_goals first|rfl|trivial
 ·have e1:dI f y=f:=if_neg h0
  have e2:ee f y=eqv f y:=if_neg h0
  rw[e1,e2]
  refine cX Tryz.func228 (h:= ?_)
  repeat'((conv=>whnf);first
   |refine ah.mk ?_ ?_
   |((first|apply bA|apply bB|apply bC|apply bD|apply bE|apply bF)<;>intro h<;>(try simp only[List.length_map] at h)<;>(try omega)<;>(try contradiction))|(guard_target=aa _ 51 _ _ _ _;refine cP rfl (kP f y 6 (by decide) [J g.kind,J g.num, .ro 3 (g.kids.map af)]) ?_)
   |refine iX (k:= ?_)
   |refine nO ?_)
  all_goals first|rfl|trivial
theorem N2:ai Tryz.prog 228 [.tup [.c (.op (lW a b c d e f g)), .lp 0 18], .c (.rp 3 (aI y))] [some [.op (lW a b c d e f (dI g y))]] (B (ee g y)):=by
 by_cases h0:g.kind=0
 ·have e1:dI g y=y:=if_pos h0
  have e2:ee g y=true:=if_pos h0
  rw[e1,e2]
  refine cX Tryz.func228 (h:= ?_)
  repeat'((conv=>whnf);first
   |refine ah.mk ?_ ?_
   |((first|apply bA|apply bB|apply bC|apply bD|apply bE|apply bF)<;>intro h<;>(try simp only[List.length_map] at h)<;>(try omega)<;>(try contradiction))|(guard_target=aa _ 137 _ _ _ _;refine cG [] rfl (qM y hb) ?_)
   |refine iX (k:= ?_)
   |refine nO ?_)
  all_goals first|rfl|trivial
 ·have e1:dI g y=g:=if_neg h0
  have e2:ee g y=eqv g y:=if_neg h0
  rw[e1,e2]
  refine cX Tryz.func228 (h:= ?_)
  repeat'((conv=>whnf);first
   |refine ah.mk ?_ ?_
   |((first|apply bA|apply bB|apply bC|apply bD|apply bE|apply bF)<;>intro h<;>(try simp only[List.length_map] at h)<;>(try omega)<;>(try contradiction))|(guard_target=aa _ 51 _ _ _ _;refine cP rfl (kP g y 3 (by decide) []) ?_)
   |refine iX (k:= ?_)
   |refine nO ?_)
  all_goals first|rfl|trivial
end
end Go.Proofs.YtgbggaddpbghfaaGreat
namespace Go.Proofs.YtgbggaddpbghfaaGreat
open Go Go.KA Go.Proofs
set_option maxHeartbeats 16000000
set_option maxRecDepth 100000
abbrev kC(p y:ae)(x:Fit):Prop:=ai Tryz.prog 223 [.c (.op (NN x)), .c (.rp 3 (aI p)), .c (.rp 3 (aI y))] [some [.op (NN (fM p y x).2)]] (B (fM p y x).1)
theorem Jk{ps es:List ae}{z:Fit}{i:Nat}(h1:i<ps.length)(h2:i<es.length):oJ (ps.drop i) (es.drop i) z=if(fM (ps.getD i cQ) (es.getD i cQ) z).1=true then oJ (ps.drop (i+1)) (es.drop (i+1)) (fM (ps.getD i cQ) (es.getD i cQ) z).2 else(false,(fM (ps.getD i cQ) (es.getD i cQ) z).2):=by
 rw[List.drop_eq_getElem_cons h1,List.drop_eq_getElem_cons h2,oJ,getD_eq h1,getD_eq h2]
theorem FT(l:List ae)(z:Fit):oJ [] l z=(true,z):=by
 rw[oJ]
 intro _ _ _ _ h
 cases h
section
variable(ks:List ae)(y:ae)(x:Fit)(hb:ao y≤1048576)
include hb
theorem Kl(n:Int)(hc:cS y=false):kC (.mk 3 n ks) y x:=by
 have e1:fM (.mk 3 n ks) y x=(false,x):=by rw[fM,if_pos rfl,hc];rfl
 have c1:=kD y
 rw[hc] at c1
 have _:=hb
 unfold kC
 rw[e1]
 have e0:aI (.mk 3 n ks)=[J 3,J n, .ro 3 (ks.map af)]:=rfl
 rw[e0]
 obtain⟨a,b,c,d,e,f,g⟩:=x
 refine cX Tryz.func223 (h:= ?_)
 repeat'((conv=>whnf);first
  |refine ah.mk ?_ ?_
  |(apply Fact.mk;intro hL;try simp only[List.length_map,maxLen] at hL)
  |((first|apply bA|apply bB|apply bC|apply bD|apply bE|apply bF)<;>intro h<;>(try simp only[List.length_map] at h)<;>(try omega)<;>(try contradiction))|(guard_target=aa _ 214 _ _ _ _;refine cP rfl (c1) ?_)
  |refine aR ?_
  |refine iX (k:= ?_)
  |refine nB ?_
  |apply ay.no
  |apply cj.go
  |refine nO ?_)
 all_goals first|rfl|trivial
theorem Nn(hc:cS y=true):kC (.mk 3 0 ks) y x:=by
 obtain⟨a,b,c,d,e,f,g⟩:=x
 have e1:fM (.mk 3 0 ks) y ⟨a,b,c,d,e,f,g⟩=(ee a y,⟨dI a y,b,c,d,e,f,g⟩):=by rw[fM];simp[vd,hc]
 have c1:=kD y
 rw[hc] at c1
 have c2:=Ok a b c d e f g y hb
 unfold kC
 rw[e1]
 have e0:aI (.mk 3 0 ks)=[J 3,J 0, .ro 3 (ks.map af)]:=rfl
 rw[e0]
 refine cX Tryz.func223 (h:= ?_)
 repeat'((conv=>whnf);first
  |refine ah.mk ?_ ?_
  |(apply Fact.mk;intro hL;try simp only[List.length_map,maxLen] at hL)
  |((first|apply bA|apply bB|apply bC|apply bD|apply bE|apply bF)<;>intro h<;>(try simp only[List.length_map] at h)<;>(try omega)<;>(try contradiction))|(guard_target=aa _ 214 _ _ _ _;refine cP rfl (c1) ?_)|(guard_target=aa _ 228 _ _ _ _;refine cG [true,false] rfl (c2) ?_)
  |refine aR ?_
  |refine iX (k:= ?_)
  |refine nB ?_
  |apply ay.no
  |apply cj.go
  |refine nO ?_)
 all_goals first|rfl|trivial
theorem NZ(hc:cS y=true):kC (.mk 3 1 ks) y x:=by
 obtain⟨a,b,c,d,e,f,g⟩:=x
 have e1:fM (.mk 3 1 ks) y ⟨a,b,c,d,e,f,g⟩=(ee b y,⟨a,dI b y,c,d,e,f,g⟩):=by rw[fM];simp[vd,hc]
 have c1:=kD y
 rw[hc] at c1
 have c2:=Ol a b c d e f g y hb
 unfold kC
 rw[e1]
 have e0:aI (.mk 3 1 ks)=[J 3,J 1, .ro 3 (ks.map af)]:=rfl
 rw[e0]
 refine cX Tryz.func223 (h:= ?_)
 repeat'((conv=>whnf);first
  |refine ah.mk ?_ ?_
  |(apply Fact.mk;intro hL;try simp only[List.length_map,maxLen] at hL)
  |((first|apply bA|apply bB|apply bC|apply bD|apply bE|apply bF)<;>intro h<;>(try simp only[List.length_map] at h)<;>(try omega)<;>(try contradiction))|(guard_target=aa _ 214 _ _ _ _;refine cP rfl (c1) ?_)|(guard_target=aa _ 228 _ _ _ _;refine cG [true,false] rfl (c2) ?_)
  |refine aR ?_
  |refine iX (k:= ?_)
  |refine nB ?_
  |apply ay.no
  |apply cj.go
  |refine nO ?_)
 all_goals first|rfl|trivial
theorem NG(hc:cS y=true):kC (.mk 3 2 ks) y x:=by
 obtain⟨a,b,c,d,e,f,g⟩:=x
 have e1:fM (.mk 3 2 ks) y ⟨a,b,c,d,e,f,g⟩=(ee c y,⟨a,b,dI c y,d,e,f,g⟩):=by rw[fM];simp[vd,hc]
 have c1:=kD y
 rw[hc] at c1
 have c2:=On a b c d e f g y hb
 unfold kC
 rw[e1]
 have e0:aI (.mk 3 2 ks)=[J 3,J 2, .ro 3 (ks.map af)]:=rfl
 rw[e0]
 refine cX Tryz.func223 (h:= ?_)
 repeat'((conv=>whnf);first
  |refine ah.mk ?_ ?_
  |(apply Fact.mk;intro hL;try simp only[List.length_map,maxLen] at hL)
  |((first|apply bA|apply bB|apply bC|apply bD|apply bE|apply bF)<;>intro h<;>(try simp only[List.length_map] at h)<;>(try omega)<;>(try contradiction))|(guard_target=aa _ 214 _ _ _ _;refine cP rfl (c1) ?_)|(guard_target=aa _ 228 _ _ _ _;refine cG [true,false] rfl (c2) ?_)
  |refine aR ?_
  |refine iX (k:= ?_)
  |refine nB ?_
  |apply ay.no
  |apply cj.go
  |refine nO ?_)
 all_goals first|rfl|trivial
theorem NX:kC (.mk 4 0 ks) y x:=by
 obtain⟨a,b,c,d,e,f,g⟩:=x
 have e1:fM (.mk 4 0 ks) y ⟨a,b,c,d,e,f,g⟩=(ee d y,⟨a,b,c,dI d y,e,f,g⟩):=by rw[fM];simp[sc]
 have c1:=kD y
 have c2:=N8 a b c d e f g y hb
 unfold kC
 rw[e1]
 have e0:aI (.mk 4 0 ks)=[J 4,J 0, .ro 3 (ks.map af)]:=rfl
 rw[e0]
 refine cX Tryz.func223 (h:= ?_)
 repeat'((conv=>whnf);first
  |refine ah.mk ?_ ?_
  |(apply Fact.mk;intro hL;try simp only[List.length_map,maxLen] at hL)
  |((first|apply bA|apply bB|apply bC|apply bD|apply bE|apply bF)<;>intro h<;>(try simp only[List.length_map] at h)<;>(try omega)<;>(try contradiction))|(guard_target=aa _ 214 _ _ _ _;refine cP rfl (c1) ?_)|(guard_target=aa _ 228 _ _ _ _;refine cG [true,false] rfl (c2) ?_)
  |refine aR ?_
  |refine iX (k:= ?_)
  |refine nB ?_
  |apply ay.no
  |apply cj.go
  |refine nO ?_)
 all_goals first|rfl|trivial
theorem NH:kC (.mk 4 1 ks) y x:=by
 obtain⟨a,b,c,d,e,f,g⟩:=x
 have e1:fM (.mk 4 1 ks) y ⟨a,b,c,d,e,f,g⟩=(ee e y,⟨a,b,c,d,dI e y,f,g⟩):=by rw[fM];simp[sc]
 have c1:=kD y
 have c2:=NO a b c d e f g y hb
 unfold kC
 rw[e1]
 have e0:aI (.mk 4 1 ks)=[J 4,J 1, .ro 3 (ks.map af)]:=rfl
 rw[e0]
 refine cX Tryz.func223 (h:= ?_)
 repeat'((conv=>whnf);first
  |refine ah.mk ?_ ?_
  |(apply Fact.mk;intro hL;try simp only[List.length_map,maxLen] at hL)
  |((first|apply bA|apply bB|apply bC|apply bD|apply bE|apply bF)<;>intro h<;>(try simp only[List.length_map] at h)<;>(try omega)<;>(try contradiction))|(guard_target=aa _ 214 _ _ _ _;refine cP rfl (c1) ?_)|(guard_target=aa _ 228 _ _ _ _;refine cG [true,false] rfl (c2) ?_)
  |refine aR ?_
  |refine iX (k:= ?_)
  |refine nB ?_
  |apply ay.no
  |apply cj.go
  |refine nO ?_)
 all_goals first|rfl|trivial
theorem N3:kC (.mk 4 2 ks) y x:=by
 obtain⟨a,b,c,d,e,f,g⟩:=x
 have e1:fM (.mk 4 2 ks) y ⟨a,b,c,d,e,f,g⟩=(ee f y,⟨a,b,c,d,e,dI f y,g⟩):=by rw[fM];simp[sc]
 have c1:=kD y
 have c2:=NS a b c d e f g y hb
 unfold kC
 rw[e1]
 have e0:aI (.mk 4 2 ks)=[J 4,J 2, .ro 3 (ks.map af)]:=rfl
 rw[e0]
 refine cX Tryz.func223 (h:= ?_)
 repeat'((conv=>whnf);first
  |refine ah.mk ?_ ?_
  |(apply Fact.mk;intro hL;try simp only[List.length_map,maxLen] at hL)
  |((first|apply bA|apply bB|apply bC|apply bD|apply bE|apply bF)<;>intro h<;>(try simp only[List.length_map] at h)<;>(try omega)<;>(try contradiction))|(guard_target=aa _ 214 _ _ _ _;refine cP rfl (c1) ?_)|(guard_target=aa _ 228 _ _ _ _;refine cG [true,false] rfl (c2) ?_)
  |refine aR ?_
  |refine iX (k:= ?_)
  |refine nB ?_
  |apply ay.no
  |apply cj.go
  |refine nO ?_)
 all_goals first|rfl|trivial
theorem NR:kC (.mk 4 3 ks) y x:=by
 obtain⟨a,b,c,d,e,f,g⟩:=x
 have e1:fM (.mk 4 3 ks) y ⟨a,b,c,d,e,f,g⟩=(ee g y,⟨a,b,c,d,e,f,dI g y⟩):=by rw[fM];simp[sc]
 have c1:=kD y
 have c2:=N2 a b c d e f g y hb
 unfold kC
 rw[e1]
 have e0:aI (.mk 4 3 ks)=[J 4,J 3, .ro 3 (ks.map af)]:=rfl
 rw[e0]
 refine cX Tryz.func223 (h:= ?_)
 repeat'((conv=>whnf);first
  |refine ah.mk ?_ ?_
  |(apply Fact.mk;intro hL;try simp only[List.length_map,maxLen] at hL)
  |((first|apply bA|apply bB|apply bC|apply bD|apply bE|apply bF)<;>intro h<;>(try simp only[List.length_map] at h)<;>(try omega)<;>(try contradiction))|(guard_target=aa _ 214 _ _ _ _;refine cP rfl (c1) ?_)|(guard_target=aa _ 228 _ _ _ _;refine cG [true,false] rfl (c2) ?_)
  |refine aR ?_
  |refine iX (k:= ?_)
  |refine nB ?_
  |apply ay.no
  |apply cj.go
  |refine nO ?_)
 all_goals first|rfl|trivial
theorem LA(k n:Int)(h3:¬k=3)(h4:¬k=4)(hk:¬(k=y.kind∧ks.length=y.kids.length)):kC (.mk k n ks) y x:=by
 have e1:fM (.mk k n ks) y x=(false,x):=by rw[fM,if_neg h3,if_neg h4,if_neg hk]
 have _:=hb
 unfold kC
 rw[e1]
 have e0:aI (.mk k n ks)=[J k,J n, .ro 3 (ks.map af)]:=rfl
 rw[e0]
 obtain⟨a,b,c,d,e,f,g⟩:=x
 by_cases h1:k=y.kind
 ·have h2:¬((ks.length:Nat):Int)=(y.kids.length:Nat):=fun h=>hk ⟨h1,by omega⟩
  refine cX Tryz.func223 (h:= ?_)
  repeat'((conv=>whnf);first
   |refine ah.mk ?_ ?_
   |(apply Fact.mk;intro hL;try simp only[List.length_map,maxLen] at hL)
   |((first|apply bA|apply bB|apply bC|apply bD|apply bE|apply bF)<;>intro h<;>(try simp only[List.length_map] at h)<;>(try omega)<;>(try contradiction))
   |refine aR ?_
   |refine iX (k:= ?_)
   |refine nB ?_
   |apply ay.no
   |apply cj.go
   |refine nO ?_)
  all_goals first|rfl|trivial
 ·refine cX Tryz.func223 (h:= ?_)
  repeat'((conv=>whnf);first
   |refine ah.mk ?_ ?_
   |(apply Fact.mk;intro hL;try simp only[List.length_map,maxLen] at hL)
   |((first|apply bA|apply bB|apply bC|apply bD|apply bE|apply bF)<;>intro h<;>(try simp only[List.length_map] at h)<;>(try omega)<;>(try contradiction))
   |refine aR ?_
   |refine iX (k:= ?_)
   |refine nB ?_
   |apply ay.no
   |apply cj.go
   |refine nO ?_)
  all_goals first|rfl|trivial
theorem Mf(k n:Int)(h3:¬k=3)(h4:¬k=4)(hk:k=y.kind)(hl:ks.length=y.kids.length)(ih:∀i,i<ks.length→∀x:Fit,kC (ks.getD i cQ) (y.kids.getD i cQ) x):kC (.mk k n ks) y x:=by
 obtain⟨R,hR⟩:∃R,oJ ks y.kids x=R:=⟨_,rfl⟩
 have e1:fM (.mk k n ks) y x=R:=by rw[fM,if_neg h3,if_neg h4,if_pos ⟨hk,hl⟩,hR]
 have hkl:=wq y
 unfold kC
 rw[e1]
 have e0:aI (.mk k n ks)=[J k,J n, .ro 3 (ks.map af)]:=rfl
 rw[e0]
 have h2:((ks.length:Nat):Int)=(y.kids.length:Nat):=by omega
 refine cX Tryz.func223 (h:= ?_)
 repeat'((conv=>whnf);first
  |(guard_target=ah _ _;(have h9:¬((i:Nat):Int)<(y.kids.length:Nat):=h);(obtain rfl:R=(true,z):=by rw[←ha.2,List.drop_of_length_le (by omega),FT]);exact ah.mk rfl ⟨rfl,trivial⟩)|(guard_target=ah _ _;(obtain rfl:R=(false,(fM (ks.getD i cQ) (y.kids.getD i cQ) z).2):=by rw[←ha.2,Jk (i:=i) (by omega) (by omega),if_neg (by simpa using h)]);exact ah.mk rfl ⟨rfl,trivial⟩)
  |refine ah.mk ?_ ?_|(guard_target=~ aP 8 _ _ _ _ _ _;refine lX (Fit × Nat) [0,1,2] (fun⟨z,i⟩=>[(7,I (i:Nat))]) (fun⟨z,i⟩=>[(0, .cc 21 (NN z))]) (fun⟨z,i⟩=>i≤y.kids.length∧oJ (ks.drop i) (y.kids.drop i) z=R) (fun⟨z,i⟩=>y.kids.length-i) (x,0) (by exact⟨Nat.zero_le _,hR⟩) (fun A ha=> ?_);obtain⟨z,i⟩:=A;have ha:i≤y.kids.length∧oJ (ks.drop i) (y.kids.drop i) z=R:=ha)
  |refine qJ (((fM (ks.getD i cQ) (y.kids.getD i cQ) z).2,i+1):Fit × Nat) (by exact⟨by show i+1≤_;omega,by rw[←ha.2,Jk (i:=i) (by omega) (by omega),if_pos h]⟩)
  |(apply Fact.mk;intro hL;try simp only[List.length_map,maxLen] at hL)
  |((first|apply bA|apply bB|apply bC|apply bD|apply bE|apply bF)<;>intro h<;>(try simp only[List.length_map] at h)<;>(try omega)<;>(try contradiction))|(guard_target=aa _ 223 _ _ _ _;refine cG [true,false,false] rfl (ih i (by omega) z) ?_)
  |refine aR ?_|(guard_target=Index _ _ _;first|refine Index.mk _ (km (l:=ks) (i:=i) (by omega)) ?_|refine Index.mk _ (km (l:=y.kids) (i:=i) (by omega)) ?_)
  |refine iX (k:= ?_)
  |refine nB ?_
  |apply ay.no
  |apply cj.go
  |refine nO ?_)
 all_goals first|rfl|trivial
end
theorem zB:∀(p:ae),Tree 3 4 p→∀(y:ae) (x:Fit),ao y≤1048576→kC p y x:=by
 intro p h
 have rec_:∀(k n:Int) (ks:List ae),¬k=3→¬k=4→(∀i,i<ks.length→∀(y:ae) (x:Fit),ao y≤1048576→kC (ks.getD i cQ) y x)→∀(y:ae) (x:Fit),ao y≤1048576→kC (.mk k n ks) y x:=by
  intro k n ks h3 h4 ih y x hb
  by_cases hk:k=y.kind∧ks.length=y.kids.length
  ·exact Mf ks y x hb k n h3 h4 hk.1 hk.2 fun i hi x=>ih i hi _ x (Nat.le_trans (AF y i) hb)
  ·exact LA ks y x hb k n h3 h4 hk
 induction h with
 |zero=>exact rec_ 1 0 [] (by decide) (by decide) fun i hi=>by simp at hi
 |one=>exact rec_ 2 0 [] (by decide) (by decide) fun i hi=>by simp at hi
 | @test n h0 h1=>
   intro y x hb
   cases hc:cS y with
   |false=>exact Kl [] y x hb n hc
   |true=>
    obtain rfl|rfl|rfl:n=0∨n=1∨n=2:=by omega
    ·exact Nn [] y x hb hc
    ·exact NZ [] y x hb hc
    ·exact NG [] y x hb hc
 | @act n h0 h1=>
   intro y x hb
   obtain rfl|rfl|rfl|rfl:n=0∨n=1∨n=2∨n=3:=by omega
   ·exact NX [] y x hb
   ·exact NH [] y x hb
   ·exact N3 [] y x hb
   ·exact NR [] y x hb
 |not hc h ih=>
  refine rec_ 5 0 _ (by decide) (by decide) fun i hi=> ?_
  obtain rfl:i=0:=by simpa using hi
  exact ih
 |sum hx hy ih1 ih2=>
  refine rec_ 6 0 _ (by decide) (by decide) fun i hi=> ?_
  obtain rfl|rfl:i=0∨i=1:=by simp at hi;omega
  ·exact ih1
  ·exact ih2
 |dot hx hy ih1 ih2=>
  refine rec_ 7 0 _ (by decide) (by decide) fun i hi=> ?_
  obtain rfl|rfl:i=0∨i=1:=by simp at hi;omega
  ·exact ih1
  ·exact ih2
 |star hx ih=>
  refine rec_ 8 0 _ (by decide) (by decide) fun i hi=> ?_
  obtain rfl:i=0:=by simpa using hi
  exact ih
end Go.Proofs.YtgbggaddpbghfaaGreat
namespace Go.Proofs.YtgbggaddpbghfaaGreat
open Go Go.KA Go.Proofs
set_option maxHeartbeats 16000000
set_option maxRecDepth 100000
theorem AX{k m:Int}{l:List ae}{i:Nat}(h:i<l.length):xZ k m (l.drop i)=(jb k m (l.getD i cQ)||xZ k m (l.drop (i+1))):=by
 rw[List.drop_eq_getElem_cons h,xZ,getD_eq h]
theorem Mh(k m:Int)(ks:List ae):aE Tryz.prog 224 [.c (.rp 3 (aI (.mk k m ks))),I k,I m] (B true):=by
 have e0:aI (.mk k m ks)=[J k,J m, .ro 3 (ks.map af)]:=rfl
 rw[e0]
 refine cF Tryz.func224 (h:= ?_)
 repeat'((conv=>whnf);first
  |apply bo.mk
  |(apply Fact.mk;intro hL;try simp only[List.length_map,maxLen] at hL)
  |((first|apply bA|apply bB|apply bC|apply bD|apply bE|apply bF)<;>intro h<;>(try simp only[List.length_map] at h)<;>(try omega)<;>(try contradiction))
  |refine aR ?_
  |refine iX (k:= ?_)
  |apply ay.no
  |refine nO ?_)
 all_goals first|rfl|trivial
theorem L3(k m kd n:Int)(ks:List ae)(h:¬(kd=k∧n=m))(ih:∀i,i<ks.length→aE Tryz.prog 224 [.c (.rp 3 (aI (ks.getD i cQ))),I k,I m] (B (jb k m (ks.getD i cQ)))):aE Tryz.prog 224 [.c (.rp 3 (aI (.mk kd n ks))),I k,I m] (B (xZ k m ks)):=by
 obtain⟨R,hR⟩:∃R,xZ k m ks=R:=⟨_,rfl⟩
 rw[hR]
 have e0:aI (.mk kd n ks)=[J kd,J n, .ro 3 (ks.map af)]:=rfl
 rw[e0]
 by_cases h1:kd=k
 ·have h2:¬n=m:=fun e=>h ⟨h1,e⟩
  refine cF Tryz.func224 (h:= ?_)
  repeat'((conv=>whnf);first
   |(apply bo.mk;first|((rw[←ha.2,List.drop_of_length_le (by omega)];rfl);done)|((rw[←ha.2,AX (i:=i) (by omega),h];rfl);done)|skip)|(guard_target=~ aP 4 _ _ _ _ _ _;refine lp (Nat) [0,1,2] (fun i=>[(7,I (i:Nat))]) (fun i=>i≤ks.length∧xZ k m (ks.drop i)=R) (fun i=>ks.length-i) 0 (by exact⟨Nat.zero_le _,hR⟩) (fun i ha=> ?_))
   |refine nx (i+1:Nat) (by exact⟨by show i+1≤_;omega,by rw[←ha.2,AX (i:=i) (by omega),h];rfl⟩)
   |(apply Fact.mk;intro hL;try simp only[List.length_map,maxLen] at hL)
   |((first|apply bA|apply bB|apply bC|apply bD|apply bE|apply bF)<;>intro h<;>(try simp only[List.length_map] at h)<;>(try omega)<;>(try contradiction))|(guard_target=aa _ 224 _ _ _ _;refine cP rfl (ih i (by omega)) ?_)
   |refine aR ?_|(guard_target=Index _ _ _;first|refine Index.mk _ (km (l:=ks) (i:=i) (by omega)) ?_)
   |refine iX (k:= ?_)
   |apply ay.no
   |refine nO ?_)
  all_goals first|rfl|trivial
 ·refine cF Tryz.func224 (h:= ?_)
  repeat'((conv=>whnf);first
   |(apply bo.mk;first|((rw[←ha.2,List.drop_of_length_le (by omega)];rfl);done)|((rw[←ha.2,AX (i:=i) (by omega),h];rfl);done)|skip)|(guard_target=~ aP 4 _ _ _ _ _ _;refine lp (Nat) [0,1,2] (fun i=>[(7,I (i:Nat))]) (fun i=>i≤ks.length∧xZ k m (ks.drop i)=R) (fun i=>ks.length-i) 0 (by exact⟨Nat.zero_le _,hR⟩) (fun i ha=> ?_))
   |refine nx (i+1:Nat) (by exact⟨by show i+1≤_;omega,by rw[←ha.2,AX (i:=i) (by omega),h];rfl⟩)
   |(apply Fact.mk;intro hL;try simp only[List.length_map,maxLen] at hL)
   |((first|apply bA|apply bB|apply bC|apply bD|apply bE|apply bF)<;>intro h<;>(try simp only[List.length_map] at h)<;>(try omega)<;>(try contradiction))|(guard_target=aa _ 224 _ _ _ _;refine cP rfl (ih i (by omega)) ?_)
   |refine aR ?_|(guard_target=Index _ _ _;first|refine Index.mk _ (km (l:=ks) (i:=i) (by omega)) ?_)
   |refine iX (k:= ?_)
   |apply ay.no
   |refine nO ?_)
  all_goals first|rfl|trivial
theorem ju(k m:Int)(e:ae):aE Tryz.prog 224 [.c (.rp 3 (aI e)),I k,I m] (B (jb k m e)):=by
 obtain⟨kd,n,ks⟩:=e
 by_cases h:kd=k∧n=m
 ·obtain⟨rfl,rfl⟩:=h
  have e:jb kd n (.mk kd n ks)=true:=by rw[jb];simp
  rw[e]
  exact Mh _ _ _
 ·have e:jb k m (.mk kd n ks)=xZ k m ks:=by rw[jb];simp[h]
  rw[e]
  exact L3 k m kd n ks h fun i hi=>ju k m (ks.getD i cQ)
termination_by SizeOf.sizeOf e
decreasing_by
 rw[getD_eq hi]
 have:=List.sizeOf_lt_of_mem (List.getElem_mem hi)
 simp only[ae.mk.sizeOf_spec]
 omega
theorem lV{x:ae}(h:x.kind=0):iG x=IB:=if_pos h
theorem nD{x:ae}(h:¬x.kind=0):iG x=x:=if_neg h
end Go.Proofs.YtgbggaddpbghfaaGreat
