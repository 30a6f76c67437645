/- The text of a valid expression: its shape and its size. Plain laws. No conditions. -/
import Derived.Test.YtgbggaddpbghfaaGreatKAI
namespace Go.Proofs.YtgbggaddpbghfaaGreat
open Go Go.KA Go.Proofs
set_option maxHeartbeats 16000000
set_option maxRecDepth 100000
def ME(l:List ByteArray):Nat:=(l.map ByteArray.size).sum
theorem MD:∀l:List ByteArray,(l.getD 0 .empty).size+(l.getD 1 .empty).size≤ME l
 |[]=>Nat.le_refl _
 |[x]=>by simp[ME]
 |x::y::l=>by simp[ME]<;>omega
theorem GZ(k n:Int)(l:List ByteArray):(N4 k n l).size≤7+ME l:=by
 have h:=MD l
 have h2:=Ij n.toNat
 have sz3:(ByteArray.mk #[32,43,32]).size=3:=rfl
 unfold N4
 repeat' split
 all_goals(simp only[ByteArray.size_append,Jz,sz3];omega)
mutual
theorem yM:∀(e:ae) (n:Int),0≤cx e n→((E3 e).size:Int)≤7*(n-cx e n)
 | .mk k m ks,n,h=>by
   simp only[cx] at h⊢
   have h1:=vJ ks (n-1) h
   have h2:=GZ k m (Dd ks)
   simp only[E3]
   omega
theorem vJ:∀(l:List ae) (n:Int),0≤dn l n→(ME (Dd l):Int)≤7*(n-dn l n)
 |[],n,h=>by simp[ME,Dd,dn]
 |x::xs,n,h=>by
  simp only[dn] at h⊢
  by_cases hn:n<0
  ·rw[if_pos hn] at h;omega
  ·rw[if_neg hn] at h⊢
   by_cases h0:cx x n<0
   ·rw[mV h0] at h;omega
   ·have h1:=yM x n (by omega)
    have h2:=vJ xs (cx x n) h
    have h3:ME (Dd (x::xs))=(E3 x).size+ME (Dd xs):=by simp[Dd,ME]
    omega
end
mutual
theorem Cs{t a:Int}(ht:t≤3)(ha:a≤4):∀(e:ae),dJ t a e=true→IM e=true
 | .mk k n ks,h=>by
   rw[dJ] at h
   rw[IM]
   simp only[Bool.and_eq_true,beq_iff_eq] at h
   obtain⟨h1,h2⟩:=h
   have hk:dH 1 8 k=true∧Ko ks=true∧(!(decide (k=3)||decide (k=4))||dH 0 99 n)=true:=by
    have hl:(0:Int)≤ks.length:=by omega
    by_cases h3:k=3
    ·subst h3
     have:ks=[]:=List.eq_nil_of_length_eq_zero (by have:cT 3=0:=rfl;omega)
     subst this
     simp only[dH,beq_self_eq_true,if_true,Bool.and_eq_true,decide_eq_true_eq] at h2
     refine⟨rfl,rfl, ?_⟩
     simp only[dH,Bool.or_eq_true,Bool.and_eq_true]
     exact .inr ⟨decide_eq_true (by omega),decide_eq_true (by omega)⟩
    ·by_cases h4:k=4
     ·subst h4
      have:ks=[]:=List.eq_nil_of_length_eq_zero (by have:cT 4=0:=rfl;omega)
      subst this
      have h2:dH 0 (a-1) n=true:=h2
      simp only[dH,Bool.and_eq_true,decide_eq_true_eq] at h2
      refine⟨rfl,rfl, ?_⟩
      simp only[dH,Bool.or_eq_true,Bool.and_eq_true]
      exact .inr ⟨decide_eq_true (by omega),decide_eq_true (by omega)⟩
     ·rw[if_neg h3,if_neg h4] at h2
      simp only[Bool.and_eq_true] at h2
      refine⟨?_,zi ht ha ks h2.2.2, ?_⟩
      ·have h5:0≤cT k:=by omega
       simp only[dH,Bool.and_eq_true]
       unfold cT at h5
       constructor<;>refine decide_eq_true ?_<;>(repeat' split at h5)<;>simp at* <;>omega
      ·simp[h3,h4]
   rw[hk.1,hk.2.1,hk.2.2]
   simp[h1]
theorem zi{t a:Int}(ht:t≤3)(ha:a≤4):∀(l:List ae),gH t a l=true→Ko l=true
 |[],_=>rfl
 |x::xs,h=>by
  simp only[gH,Bool.and_eq_true] at h
  simp only[Ko,Bool.and_eq_true]
  exact⟨Cs ht ha x h.1,zi ht ha xs h.2⟩
end
abbrev PD(e:ae):Prop:=IM e=true∧(E3 e).size≤1400
theorem Bs{t a:Int}(hs:bT t a=true){e:ae}(h:aW t a e=true):PD e:=by
 simp only[aW,Bool.and_eq_true,decide_eq_true_eq] at h
 simp only[bT,dH,Bool.and_eq_true,decide_eq_true_eq] at hs
 have h1:=yM e 200 h.1
 exact⟨Cs (by omega) (by omega) e h.2.2,by omega⟩
end Go.Proofs.YtgbggaddpbghfaaGreat
namespace Go.Proofs.YtgbggaddpbghfaaGreat
open Go Go.KA Go.Proofs
set_option maxHeartbeats 16000000
set_option maxRecDepth 100000
def wZ(e:dB):bw:=e.proof.aj.getD (e.proof.aj.length-1) c0
def nI(e:dB):bX:=⟨(wZ e).left,(wZ e).right⟩
theorem J2{α:Type}{f:α→List CV}{l:List α}(d:α)(h:0<l.length):(l.map f)[(((l.map f).length:Int)-1).toNat]? =some (f (l.getD (l.length-1) d)):=by
 have e:(((l.map f).length:Int)-1).toNat=l.length-1:=by rw[List.length_map];omega
 rw[e]
 exact aF (by omega)
theorem pU(c:bw):aE Tryz.prog 140 [.c (.rp 9 (aH c))] (.a 6 (aV ⟨c.left,c.right⟩)):=by
 refine cF Tryz.func140 (h:= ?_)
 repeat'((conv=>whnf);first
  |(apply bo.mk;first|(rfl;done)|skip)
  |refine iX (k:= ?_)
  |refine nB ?_
  |apply cj.go
  |refine nO ?_)
theorem u7(e:dB)(h:0<e.proof.aj.length)(hl:e.proof.aj.length≤1000000):aE Tryz.prog 136 [.c (.rp 5 (ki e))] (.a 6 (aV (nI e))):=by
 refine cF Tryz.func136 (h:= ?_)
 repeat'((conv=>whnf);first
  |(apply bo.mk;first|(rfl;done)|skip)
  |(apply Fact.mk;intro hL;try simp only[List.length_map,maxLen] at hL)|(guard_target=aa _ 140 _ _ _ _;refine cP rfl (pU (wZ e)) ?_)
  |refine aR ?_|(guard_target=Index _ _ _;first|refine Index.mk _ (J2 c0 h) ?_)
  |refine iX (k:= ?_)
  |refine nB ?_
  |apply ay.no
  |apply cj.go
  |refine nO ?_)
abbrev P7(q:bX):Prop:=PD q.left∧PD q.right
structure P3(n:aS):Prop where
 id:0≤n.id∧n.id<100
 bu:n.bZ=false→∀r∈n.entry.bu,0≤r∧r<100
 len:n.bZ=false→n.entry.bu.length≤4
 aj:n.bZ=false→0<n.entry.proof.aj.length∧n.entry.proof.aj.length≤40
 line:n.bZ=false→P7 (nI n.entry)
theorem N6{t a:Int}{n:aS}(h:bI t a n=true):P3 n:=by
 unfold bI at h
 simp only[dH,Bool.and_eq_true,decide_eq_true_eq] at h
 obtain⟨⟨h1,h2⟩,h3⟩:=h
 refine⟨by omega,fun hr r hm=> ?_,fun hr=> ?_,fun hr=> ?_,fun hr=> ?_⟩
 all_goals
  rw[hr] at h3
  simp only[Bool.false_eq_true,if_false,Bool.and_eq_true,cU,decide_eq_true_eq,List.all_eq_true] at h3
  obtain⟨_,g1,_,g3,g4,_,g6,_⟩:=h3
 ·have:=bW (g3 r hm);omega
 ·omega
 ·simp only[cD,Bool.and_eq_true,decide_eq_true_eq] at g4
  omega
 ·simp only[cD,Bool.and_eq_true,decide_eq_true_eq,List.all_eq_true] at g4
  have hl:n.entry.proof.aj.length-1<n.entry.proof.aj.length:=by omega
  have hc:=g4.2.2 (wZ n.entry) (by
   unfold wZ
   rw[getD_eq hl]
   exact List.getElem_mem hl)
  simp only[cI,Bool.and_eq_true] at hc
  exact⟨Bs g4.1 hc.1,Bs g4.1 hc.2.1⟩
end Go.Proofs.YtgbggaddpbghfaaGreat
namespace Go.Proofs.YtgbggaddpbghfaaGreat
open Go Go.KA Go.Proofs
end Go.Proofs.YtgbggaddpbghfaaGreat
namespace Go.Proofs.YtgbggaddpbghfaaGreat
open Go Go.KA Go.Proofs
set_option maxHeartbeats 4000000
set_option maxRecDepth 100000
end Go.Proofs.YtgbggaddpbghfaaGreat
namespace Go.Proofs.YtgbggaddpbghfaaGreat
open Go Go.KA Go.Proofs
set_option maxHeartbeats 16000000
set_option maxRecDepth 100000
abbrev PY:ae:= .mk 0 0 []
theorem km{l:List ae}{i:Nat}(h:i<l.length):(l.map af)[i]? =some (aI (l.getD i PY)):=by
 have h2:(l.map af)[i]? =some (af (l.getD i PY)):=aF h
 rw[a9] at h2
 exact h2
end Go.Proofs.YtgbggaddpbghfaaGreat
namespace Go.Proofs.YtgbggaddpbghfaaGreat
open Go Go.KA Go.Proofs
set_option maxHeartbeats 16000000
set_option maxRecDepth 100000
inductive Tree(t a:Int):ae→Prop
 |zero:Tree t a (.mk 1 0 [])
 |one:Tree t a (.mk 2 0 [])
 |test {n} (h0:0≤n) (h1:n<t):Tree t a (.mk 3 n [])
 |act {n} (h0:0≤n) (h1:n<a):Tree t a (.mk 4 n [])
 |not {x} (hc:cS x=true) (h:Tree t a x):Tree t a (.mk 5 0 [x])
 |sum {x y} (hx:Tree t a x) (hy:Tree t a y):Tree t a (.mk 6 0 [x,y])
 |dot {x y} (hx:Tree t a x) (hy:Tree t a y):Tree t a (.mk 7 0 [x,y])
 |star {x} (hx:Tree t a x):Tree t a (.mk 8 0 [x])
theorem Tree.dJ{t a:Int}{e:ae}(h:Tree t a e):dJ t a e=true:=by
 induction h with
 |zero=>rfl
 |one=>rfl
 |test h0 h1=>simp[Go.Proofs.YtgbggaddpbghfaaGreat.dJ,cT,dH];omega
 |act h0 h1=>simp[Go.Proofs.YtgbggaddpbghfaaGreat.dJ,cT,dH];omega
 |not hc h ih=>simp[Go.Proofs.YtgbggaddpbghfaaGreat.dJ,gH,cT,mQ,hc,ih]
 |sum hx hy ih1 ih2=>simp[Go.Proofs.YtgbggaddpbghfaaGreat.dJ,gH,cT,ih1,ih2]
 |dot hx hy ih1 ih2=>simp[Go.Proofs.YtgbggaddpbghfaaGreat.dJ,gH,cT,ih1,ih2]
 |star hx ih=>simp[Go.Proofs.YtgbggaddpbghfaaGreat.dJ,gH,cT,ih]
theorem gB{t a:Int}:∀(e:ae),dJ t a e=true→Tree t a e
 | .mk k n ks,h=>by
   rw[gl] at h
   simp only[ae.kind,ae.num,ae.kids,Bool.and_eq_true,beq_iff_eq] at h
   obtain⟨h1,h2⟩:=h
   have len0:(ks.length:Int)=0→ks=[]:=fun h=>List.eq_nil_of_length_eq_zero (by omega)
   have len1:(ks.length:Int)=1→∃x,ks=[x]:=fun h=>by
    match ks,h with
    |[x],_=>exact⟨x,rfl⟩
    |[],h=>simp at h
    |_::_::_,h=>simp at h;omega
   have len2:(ks.length:Int)=2→∃x y,ks=[x,y]:=fun h=>by
    match ks,h with
    |[x,y],_=>exact⟨x,y,rfl⟩
    |[],h=>simp at h
    |[_],h=>simp at h
    |_::_::_::_,h=>simp at h;omega
   have hk:k=1∨k=2∨k=3∨k=4∨k=5∨k=6∨k=7∨k=8:=by
    have h5:0≤cT k:=by omega
    unfold cT at h5
    (repeat' split at h5)<;>simp at* <;>omega
   rcases hk with rfl|rfl|rfl|rfl|rfl|rfl|rfl|rfl
   ·obtain rfl:=len0 (by rw[h1];rfl)
    simp at h2
    subst h2
    exact .zero
   ·obtain rfl:=len0 (by rw[h1];rfl)
    simp at h2
    subst h2
    exact .one
   ·obtain rfl:=len0 (by rw[h1];rfl)
    simp[dH] at h2
    exact .test h2.1 (by omega)
   ·obtain rfl:=len0 (by rw[h1];rfl)
    simp[dH] at h2
    exact .act h2.1 (by omega)
   ·obtain⟨x,rfl⟩:=len1 (by rw[h1];rfl)
    simp at h2
    obtain⟨rfl,h3,h4⟩:=h2
    exact .not h3 (gB x h4)
   ·obtain⟨x,y,rfl⟩:=len2 (by rw[h1];rfl)
    simp at h2
    obtain⟨rfl,h3,h4⟩:=h2
    exact .sum (gB x h3) (gB y h4)
   ·obtain⟨x,y,rfl⟩:=len2 (by rw[h1];rfl)
    simp at h2
    obtain⟨rfl,h3,h4⟩:=h2
    exact .dot (gB x h3) (gB y h4)
   ·obtain⟨x,rfl⟩:=len1 (by rw[h1];rfl)
    simp at h2
    obtain⟨rfl,h4⟩:=h2
    exact .star (gB x h4)
abbrev gV(e:ae):Nat:=ao e+1
theorem qs:∀l m:List ae,aK (l++m)=aK l+aK m
 |[],m=>by simp[aK]
 |x::l,m=>by simp only[List.cons_append,aK,qs l m];omega
theorem rQ{l:List ae}{i:Nat}(h:i<l.length):aK (l.take (i+1))=aK (l.take i)+gV l[i]:=by
 rw[List.take_add_one,List.getElem?_eq_getElem h,qs]
 simp[aK,gV]
theorem w5(l:List ae)(i:Nat):aK (l.take i)≤aK l:=by
 have h:=qs (l.take i) (l.drop i)
 rw[List.take_append_drop] at h
 omega
theorem Mg{l:List ae}{x:ae}(h:x∈l):gV x≤aK l:=by
 induction l with
 |nil=>cases h
 |cons y l ih=>
  rcases List.mem_cons.1 h with rfl|h
  ·simp only[aK,gV];omega
  ·have:=ih h;simp only[aK];omega
theorem vU(e:ae):gV e=aK e.kids+1:=by cases e;rfl
theorem vA{e x:ae}(h:x∈e.kids):gV x<gV e:=by
 have:=Mg h
 rw[vU e]
 omega
end Go.Proofs.YtgbggaddpbghfaaGreat
namespace Go.Proofs.YtgbggaddpbghfaaGreat
open Go Go.KA Go.Proofs
set_option maxHeartbeats 16000000
set_option maxRecDepth 100000
theorem nE(x y:ae):aE Tryz.prog 51 [.c (.rp 3 (aI x)), .c (.rp 3 (aI y))] (B (eqv x y)):=by
 have:=nL x y
 rwa[a9,a9] at this
theorem qM(x:ae)(hb:ao x≤1048576):ai Tryz.prog 137 [.c (.rp 3 (aI x))] [] (.a 3 (aI x)):=by
 have:=HI x hb
 rwa[a9] at this
theorem kD(x:ae):aE Tryz.prog 214 [.c (.rp 3 (aI x))] (B (cS x)):=by
 have:=iI x
 rwa[a9] at this
section
variable(e:ae)(acc:List ae)(hz:acc.length≤1000000)
include hz
end
section
variable{t a:Int}(ht:t≤3)(ha2:a≤4)
include ht ha2
end
end Go.Proofs.YtgbggaddpbghfaaGreat
namespace Go.Proofs.YtgbggaddpbghfaaGreat
open Go Go.KA Go.Proofs
set_option maxHeartbeats 16000000
set_option maxRecDepth 100000
section
variable{t a:Int}(ht:t≤3)(ha2:a≤4)
include ht ha2
end
end Go.Proofs.YtgbggaddpbghfaaGreat
namespace Go.Proofs.YtgbggaddpbghfaaGreat
open Go Go.KA Go.Proofs
set_option maxHeartbeats 16000000
set_option maxRecDepth 100000
theorem BV(e:ae)(hn:gV e≤1000000)(hx:∀x∈e.kids,aE Tryz.prog 193 [.c (.rp 3 (af x))] (I (gV x:Nat))):aE Tryz.prog 193 [.c (.rp 3 (aI e))] (I (gV e:Nat)):=by
 have hb:∀i,aK (e.kids.take i)+1≤1000000:=fun i=>by
  have:=w5 e.kids i
  have:=vU e
  omega
 have hl:e.kids.length≤aK e.kids:=by
  generalize e.kids=l
  induction l with
  |nil=>simp
  |cons x l ih=>simp only[aK,List.length_cons];omega
 have hk:=vU e
 refine cF Tryz.func193 (h:= ?_)
 repeat'((conv=>whnf);first
  |(apply bo.mk;first|((rw[ha.2,List.take_of_length_le (by omega),←hk];rfl);done)|skip)|(guard_target=~ aP 3 _ _ _ _ _ _;refine lp (Int × Nat) [0] (fun⟨n,i⟩=>[(3,I n),(4,I (i:Nat))]) (fun⟨n,i⟩=>i≤e.kids.length∧n=(aK (e.kids.take i)+1:Nat)) (fun⟨n,i⟩=>e.kids.length-i) (1,0) (by exact⟨Nat.zero_le _,by simp[aK]⟩) (fun A ha=> ?_);obtain⟨n,i⟩:=A;have ha:i≤e.kids.length∧n=(aK (e.kids.take i)+1:Nat):=ha;have hbi:=hb i;have hnx:=w5 e.kids (i+1))
  |refine nx ((n+(gV (e.kids[i]'(by omega)):Int),i+1):Int × Nat) (by exact⟨by show i+1≤_;omega,by show n+_=_;rw[rQ (by omega),ha.2];omega⟩)
  |(apply Fact.mk;intro hL;try simp only[List.length_map,maxLen] at hL)
  |((first|apply bA|apply bB|apply bC|apply bD|apply bE|apply bF)<;>intro h<;>(try simp only[List.length_map] at h)<;>(try omega)<;>(try contradiction))|(guard_target=aa _ 193 _ _ _ _;refine cP rfl (hx _ (List.getElem_mem (show i<e.kids.length by omega))) ?_)|(guard_target=Arith _ _ _;refine Arith.fit (aL (by(have h9:=rQ (l:=e.kids) (i:=i) (by omega);have h8:=hb (i+1);omega)) (by(have h9:=rQ (l:=e.kids) (i:=i) (by omega);have h8:=hb (i+1);omega))) ?_)
  |refine aR ?_|(guard_target=Index _ _ _;first|refine Index.mk _ (bz (l:=e.kids) (i:=i) (by omega)) ?_)
  |refine iX (k:= ?_)
  |apply ay.no
  |refine nO ?_)
 all_goals first|rfl|trivial
theorem xz(e:ae)(hn:gV e≤1000000):aE Tryz.prog 193 [.c (.rp 3 (af e))] (I (gV e:Nat)):=by
 rw[a9]
 exact BV e hn fun x _hx=>xz x (by have:=vA _hx;omega)
 termination_by SizeOf.sizeOf e
 decreasing_by
  have:=List.sizeOf_lt_of_mem _hx
  cases e
  simp only[ae.mk.sizeOf_spec]
  show SizeOf.sizeOf x<_
  simp only[ae.kids] at this
  omega
theorem Ay(e:ae)(hn:gV e≤1000000):aE Tryz.prog 193 [.c (.rp 3 (aI e))] (I (gV e:Nat)):=by
 have:=xz e hn
 rwa[a9] at this
section
variable{t a:Int}(ht:t≤3)(ha2:a≤4)
include ht
include ha2
end
end Go.Proofs.YtgbggaddpbghfaaGreat
namespace Go.Proofs.YtgbggaddpbghfaaGreat
open Go Go.KA Go.Proofs
set_option maxHeartbeats 16000000
set_option maxRecDepth 100000
abbrev cQ:ae:= .mk 0 0 []
abbrev F4(x:ByteArray):SV:= .c (.val (.string x))
abbrev U8(n:Nat):SV:= .c (.val (.int .u8 (n:Int)))
structure iH where
 at_:Nat
 deep:Int
 bad:Bool
abbrev gj(t:ByteArray)(s:iH):List CV:=[.val (.string t),J (s.at_:Nat),J s.deep, .val (.bool s.bad)]
def yn(t:ByteArray)(i:Nat):Nat:=(t.data.toList.getD i 0).toNat
def df(t:ByteArray)(i:Nat):Nat:=if i<t.size then yn t i else 0
theorem ua(t:ByteArray):t.data.toList.length=t.size:=by rw[Array.length_toList];rfl
theorem Nu(t:ByteArray)(i:Nat):yn t i≤255:=by
 have:=(t.data.toList.getD i 0).toNat_lt
 unfold yn
 omega
theorem dC{t:ByteArray}{i:Nat}(h:0<df t i):i<t.size:=by
 unfold df at h
 split at h
 ·assumption
 ·omega
def dV(t:ByteArray)(s:iH)(b:Nat):iH:=if df t s.at_=b then⟨s.at_+1,s.deep,s.bad⟩ else⟨s.at_,s.deep,true⟩
def KZ(b:UInt8):Bool:=decide (48≤b.toNat∧b.toNat≤57)
def dY(t:ByteArray)(i:Nat):Nat:=i+((t.data.toList.drop i).takeWhile KZ).length
theorem drop_cons{t:ByteArray}{i:Nat}(h:i<t.size):t.data.toList.drop i=t.data.toList.getD i 0::t.data.toList.drop (i+1):=by
 have hl:i<t.data.toList.length:=by rw[ua];exact h
 rw[List.drop_eq_getElem_cons hl,List.getD_eq_getElem?_getD,List.getElem?_eq_getElem hl]
 rfl
theorem ry{t:ByteArray}{i:Nat}(h1:48≤df t i)(h2:df t i≤57):dY t i=dY t (i+1):=by
 have h:=dC (show 0<df t i by omega)
 have e:df t i=(t.data.toList.getD i 0).toNat:=if_pos h
 unfold dY
 rw[drop_cons h,List.takeWhile_cons,if_pos (show KZ (t.data.toList.getD i 0)=true from decide_eq_true (by omega)),List.length_cons]
 omega
theorem rC{t:ByteArray}{i:Nat}(h:¬(48≤df t i∧df t i≤57)):dY t i=i:=by
 unfold dY
 by_cases hi:i<t.size
 ·have e:df t i=(t.data.toList.getD i 0).toNat:=if_pos hi
  rw[drop_cons hi,List.takeWhile_cons,if_neg (by intro hd;have:=of_decide_eq_true hd;omega)]
  rfl
 ·rw[List.drop_of_length_le (by rw[ua];omega)]
  rfl
theorem D6{t:ByteArray}{i:Nat}(h:i≤t.size):i≤dY t i∧dY t i≤t.size:=by
 have h1:=(List.takeWhile_sublist (l:=t.data.toList.drop i) KZ).length_le
 rw[List.length_drop,ua] at h1
 unfold dY
 omega
def qS:List UInt8→Int→Int × Bool
 |[],n=>(n,true)
 |b::r,n=>if b.toNat<48 then(0,false) else if 57<b.toNat then(0,false) else qS r (n*10+((b.toNat:Int)-48))
def He(x:ByteArray):Int × Bool:=if x.size<1 then(0,false) else if x.size>9 then(0,false) else if yn x 0=48∧x.size>1 then(0,false) else qS x.data.toList 0
def qh(t:ByteArray)(s:iH):ae × iH:=
 (.mk (if df t s.at_=97 then 4 else 3) (He (t.extract (s.at_+1) (dY t (s.at_+1)))).1 [],⟨dY t (s.at_+1),s.deep,s.bad|| !(He (t.extract (s.at_+1) (dY t (s.at_+1)))).2⟩)
def oC:List UInt8→ae→ae × Nat
 |[],e=>(e,0)
 |b::r,e=>if b.toNat=42 then((oC r (.mk 8 0 [e])).1,(oC r (.mk 8 0 [e])).2+1) else(e,0)
def ej(t:ByteArray)(i:Nat)(e:ae):ae × Nat:=oC (t.data.toList.drop i) e
theorem yp{t:ByteArray}{i:Nat}(e:ae)(h:df t i=42):ej t i e=((ej t (i+1) (.mk 8 0 [e])).1,(ej t (i+1) (.mk 8 0 [e])).2+1):=by
 have hi:=dC (show 0<df t i by omega)
 have e:df t i=(t.data.toList.getD i 0).toNat:=if_pos hi
 unfold ej
 rw[drop_cons hi]
 rw[oC,if_pos (by omega)]
theorem ze{t:ByteArray}{i:Nat}(e:ae)(h:¬df t i=42):ej t i e=(e,0):=by
 unfold ej
 by_cases hi:i<t.size
 ·have e:df t i=(t.data.toList.getD i 0).toNat:=if_pos hi
  rw[drop_cons hi]
  rw[oC,if_neg (by omega)]
 ·rw[List.drop_of_length_le (by rw[ua];omega)]
  rfl
theorem GV:∀(l:List UInt8) (e:ae),(oC l e).2≤l.length
 |[],e=>Nat.le_refl _
 |b::r,e=>by
  have:=GV r (.mk 8 0 [e])
  simp only[oC,List.length_cons]
  split
  ·simp only[];omega
  ·simp only[];omega
def eZ(t:ByteArray)(f:iH→ae × iH)(s:iH):ae × iH:=
 if s.bad=true∨s.deep+1>100 then(cQ,⟨s.at_,s.deep+1,true⟩)
 else
    let r:=f ⟨s.at_,s.deep+1,s.bad⟩
    if r.2.bad=true then(r.1,⟨r.2.at_,r.2.deep-1,true⟩)
    else((ej t r.2.at_ r.1).1,⟨r.2.at_+(ej t r.2.at_ r.1).2,r.2.deep-1,false⟩)
def oE(t:ByteArray)(s:iH):Int × iH:=if df t s.at_=43 then(6,dV t ⟨s.at_+1,s.deep,s.bad⟩ 32) else(7,s)
def iY(t:ByteArray)(f:iH→ae × iH)(s:iH):ae × iH:=
 let a:=f (dV t s 40)
 let k:=oE t (dV t a.2 32)
 let b:=f k.2
 (.mk k.1 0 [a.1,b.1],dV t b.2 41)
def dh(t:ByteArray):Nat→iH→ae × iH
 |0,s=>(cQ,s)
 |n+1,s=>
  if df t s.at_=48 then(.mk 1 0 [],⟨s.at_+1,s.deep,s.bad⟩)
  else if df t s.at_=49 then(.mk 2 0 [],⟨s.at_+1,s.deep,s.bad⟩)
  else if df t s.at_=116∨df t s.at_=97 then qh t s
  else if df t s.at_=126 then
   if s.deep+1>100 then(cQ,⟨s.at_+1,s.deep+1,true⟩)
   else
    let r:=dh t n ⟨s.at_+1,s.deep+1,s.bad⟩
    (.mk 5 0 [r.1],⟨r.2.at_,r.2.deep-1,r.2.bad⟩)
  else if df t s.at_=40 then iY t (eZ t (dh t n)) s
  else(cQ,⟨s.at_,s.deep,true⟩)
structure rh(t:ByteArray)(s:iH)(e:ae)(r:iH)(m:Int):Prop where
 size:r.at_≤t.size
 lo:s.at_≤r.at_
 deep:r.bad=false→s.bad=false∧r.deep=s.deep
 PR:s.deep≤r.deep
 P1:r.deep≤m
 MO:ao e+2*s.at_≤2*r.at_
theorem pa{t:ByteArray}{s:iH}{b:Nat}(hb:0<b)(h:s.at_≤t.size):(dV t s b).at_≤t.size∧s.at_≤(dV t s b).at_∧(dV t s b).deep=s.deep∧((dV t s b).bad=false→s.bad=false):=by
 unfold dV
 split
 ·have:=dC (t:=t) (i:=s.at_) (by omega)
  exact⟨by simp only[];omega,by simp only[];omega,rfl,id⟩
 ·exact⟨h,Nat.le_refl _,rfl,by simp⟩
theorem w4{t:ByteArray}{s:iH}(h:s.at_≤t.size):(oE t s).2.at_≤t.size∧s.at_≤(oE t s).2.at_∧(oE t s).2.deep=s.deep∧((oE t s).2.bad=false→s.bad=false):=by
 unfold oE
 split
 ·have:=dC (t:=t) (i:=s.at_) (by omega)
  have h2:=pa (t:=t) (s:=⟨s.at_+1,s.deep,s.bad⟩) (b:=32) (by omega) (by simp only[];omega)
  simp only[] at h2⊢
  exact⟨h2.1,by omega,h2.2.2.1,h2.2.2.2⟩
 ·exact⟨h,Nat.le_refl _,rfl,id⟩
theorem m7(k n:Int):ao (.mk k n [])=0:=rfl
theorem FK(k n:Int)(x:ae):ao (.mk k n [x])=ao x+1:=by simp[ao,aK]
theorem Lu(k n:Int)(x y:ae):ao (.mk k n [x,y])=ao x+ao y+2:=by simp[ao,aK];omega
theorem C9:∀(l:List UInt8) (e:ae),ao (oC l e).1=ao e+(oC l e).2
 |[],e=>rfl
 |b::r,e=>by
  have:=C9 r (.mk 8 0 [e])
  rw[FK] at this
  simp only[oC]
  split
  ·simp only[];omega
  ·rfl
theorem sE{t:ByteArray}{f:iH→ae × iH}(hf:∀s:iH,s.bad=false→0≤s.deep→s.deep≤100→s.at_≤t.size→1≤s.deep→rh t s (f s).1 (f s).2 102)(s:iH)(h0:0≤s.deep)(h1:s.deep≤101)(hg:s.bad=false→s.deep≤100)(h2:s.at_≤t.size):
 rh t s (eZ t f s).1 (eZ t f s).2 (if s.bad=true then s.deep+1 else 101):=by
 have e0:ao cQ=0:=rfl
 unfold eZ
 split
 ·rename_i h
  refine⟨h2,Nat.le_refl _,by simp,by simp only[];omega, ?_,by show ao cQ+2*s.at_≤2*s.at_;rw[e0];omega⟩
  cases hb:s.bad with
  |true=>simp only[if_true];omega
  |false=>simp only[Bool.false_eq_true,if_false];have:=hg hb;omega
 ·rename_i h
  have hb:s.bad=false:=by cases hb:s.bad with|true=>exact absurd (.inl hb) h|false=>rfl
  have hd:¬s.deep+1>100:=fun hd=>h (.inr hd)
  have hh:=hf ⟨s.at_,s.deep+1,s.bad⟩ hb (by simp only[];omega) (by simp only[];omega) h2 (by simp only[];omega)
  obtain⟨g1,g2,g3,g4,g5,g6⟩:=hh
  simp only[] at g2 g3 g4 g6⊢
  generalize f ⟨s.at_,s.deep+1,s.bad⟩=r at g1 g2 g3 g4 g5 g6⊢
  rw[hb]
  simp only[Bool.false_eq_true,if_false]
  cases hr:r.2.bad with
  |true=>
   simp only[if_true]
   exact⟨g1,g2,by simp,by simp only[];omega,by simp only[];omega,g6⟩
  |false=>
   simp only[Bool.false_eq_true,if_false]
   have g3:=(g3 hr).2
   have hl:=GV (t.data.toList.drop r.2.at_) r.1
   rw[List.length_drop,ua] at hl
   have hb2:=C9 (t.data.toList.drop r.2.at_) r.1
   have eR:ej t r.2.at_ r.1=oC (t.data.toList.drop r.2.at_) r.1:=rfl
   rw[←eR] at hl hb2
   exact⟨by simp only[];omega,by simp only[];omega,fun _=>⟨hb,by simp only[];omega⟩,by simp only[];omega,by simp only[];omega,by simp only[];omega⟩
theorem Ks{t:ByteArray}{f:iH→ae × iH}(hf:∀s:iH,0≤s.deep→s.deep≤101→(s.bad=false→s.deep≤100)→s.at_≤t.size→rh t s (f s).1 (f s).2 (if s.bad=true then s.deep+1 else 101))(s:iH)(hb:s.bad=false)(h0:0≤s.deep)(h1:s.deep≤100)(h2:s.at_≤t.size)(h3:df t s.at_=40):
 rh t s (iY t f s).1 (iY t f s).2 102:=by
 have hs:=dC (t:=t) (i:=s.at_) (by omega)
 have e1:dV t s 40=⟨s.at_+1,s.deep,s.bad⟩:=if_pos h3
 have a1:=hf ⟨s.at_+1,s.deep,s.bad⟩ h0 (by simp only[];omega) (fun _=>h1) (by simp only[];omega)
 unfold iY
 rw[e1]
 simp only[]
 generalize f ⟨s.at_+1,s.deep,s.bad⟩=A at a1⊢
 obtain⟨a,s1⟩:=A
 obtain⟨p1,p2,p3,p4,p5,p6⟩:=a1
 simp only[hb,Bool.false_eq_true,if_false] at p1 p2 p3 p4 p5 p6⊢
 obtain⟨q1,q2,q3,q4⟩:=pa (t:=t) (s:=s1) (b:=32) (by omega) p1
 obtain⟨r1,r2,r3,r4⟩:=w4 (t:=t) (s:=dV t s1 32) q1
 generalize oE t (dV t s1 32)=K at r1 r2 r3 r4⊢
 obtain⟨k,s2⟩:=K
 simp only[] at r1 r2 r3 r4⊢
 have b1:=hf s2 (by omega) (by omega) (fun k=>by have:=(p3 (q4 (r4 k))).2;omega) r1
 generalize f s2=B at b1⊢
 obtain⟨b,s3⟩:=B
 obtain⟨u1,u2,u3,u4,u5,u6⟩:=b1
 simp only[] at u1 u2 u3 u4 u5 u6⊢
 obtain⟨v1,v2,v3,v4⟩:=pa (t:=t) (s:=s3) (b:=41) (by omega) u1
 refine⟨v1,by omega,fun h=> ?_,by omega, ?_,by rw[Lu];omega⟩
 ·obtain⟨k2,k3⟩:=u3 (v4 h)
  have k4:=p3 (q4 (r4 k2))
  exact⟨hb,by omega⟩
 ·split at u5<;>omega
theorem gn{t:ByteArray}:∀(n:Nat) (s:iH),s.bad=false→0≤s.deep→s.deep≤100→s.at_≤t.size→rh t s (dh t n s).1 (dh t n s).2 102
 |0,s,hb,h0,h1,h2=>⟨h2,Nat.le_refl _,fun _=>⟨hb,rfl⟩,Int.le_refl _,by simp only[dh];omega,by simp only[dh,m7];omega⟩
 |n+1,s,hb,h0,h1,h2=>by
  have ih:=gn (t:=t) n
  rw[dh]
  split
  ·have:=dC (t:=t) (i:=s.at_) (by omega)
   exact⟨by simp only[];omega,by simp only[];omega,fun _=>⟨hb,rfl⟩,Int.le_refl _,by simp only[];omega,by simp only[m7];omega⟩
  split
  ·have:=dC (t:=t) (i:=s.at_) (by omega)
   exact⟨by simp only[];omega,by simp only[];omega,fun _=>⟨hb,rfl⟩,Int.le_refl _,by simp only[];omega,by simp only[m7];omega⟩
  split
  ·have hp:=dC (t:=t) (i:=s.at_) (by omega)
   have hd:=D6 (t:=t) (i:=s.at_+1) (by omega)
   unfold qh
   exact⟨hd.2,by simp only[];omega,fun _=>⟨hb,rfl⟩,Int.le_refl _,by simp only[];omega,by simp only[m7];omega⟩
  split
  ·have hp:=dC (t:=t) (i:=s.at_) (by omega)
   split
   ·exact⟨by simp only[];omega,by simp only[];omega,by simp,by simp only[];omega,by simp only[];omega,by rw[show cQ=ae.mk 0 0 [] from rfl,m7];simp only[];omega⟩
   ·have hh:=ih ⟨s.at_+1,s.deep+1,s.bad⟩ hb (by simp only[];omega) (by simp only[];omega) (by simp only[];omega)
    obtain⟨p1,p2,p3,p4,p5,p6⟩:=hh
    simp only[] at p1 p2 p3 p4 p5 p6⊢
    exact⟨p1,by simp only[];omega,fun h=>⟨hb,by have:=(p3 h).2;simp only[] at this⊢;omega⟩,by simp only[];omega,by simp only[];omega,by show ao (.mk 5 0 [_])+2*s.at_≤2*(dh t n _).2.at_;rw[FK];omega⟩
  split
  ·exact Ks (sE fun s a b c d _=>ih s a b c d) s hb h0 h1 h2 (by assumption)
  ·exact⟨h2,Nat.le_refl _,by simp,Int.le_refl _,by simp only[];omega,by rw[show cQ=ae.mk 0 0 [] from rfl,m7];simp only[];omega⟩
def kr(t:ByteArray):ae × iH:=eZ t (dh t 101) ⟨0,0,false⟩
def PI(t:ByteArray):Bool:= !(kr t).2.bad&&decide ((kr t).2.at_=t.size)
theorem KN(t:ByteArray):rh t ⟨0,0,false⟩ (kr t).1 (kr t).2 101:=
 sE (fun s a b c d _=>gn 101 s a b c d) ⟨0,0,false⟩ (by decide) (by decide) (fun _=>by decide) (Nat.zero_le _)
theorem zF(t:ByteArray):ao (kr t).1≤2*t.size:=by
 have h:=KN t
 have:=h.MO
 have:=h.size
 simp only[] at*
 omega
end Go.Proofs.YtgbggaddpbghfaaGreat
namespace Go.Proofs.YtgbggaddpbghfaaGreat
open Go Go.KA Go.Proofs
set_option maxHeartbeats 16000000
set_option maxRecDepth 100000
abbrev IB:ae:= .mk 2 0 []
def vt(a b:Int):Int:=if a>b then a else b
mutual
def dq(k:Int):ae→Int→Int
 | .mk kd n ks,m=>eT k ks (if kd=k then vt m (n+1) else m)
def eT(k:Int):List ae→Int→Int
 |[],m=>m
 |x::xs,m=>eT k xs (dq k x m)
end
theorem jM{k:Int}:∀{l:List ae} {i:Nat} (h:i<l.length) (m:Int),eT k (l.take (i+1)) m=dq k l[i] (eT k (l.take i) m)
 |x::xs,0,h,m=>by simp[eT]
 |x::xs,i+1,h,m=>by
  simp only[List.take_succ_cons,eT,List.getElem_cons_succ]
  exact jM (by simpa using h) _
def kx(q:bX):Int:=dq 3 q.right (dq 3 q.left 0)
def om(q:bX):Int:=dq 4 q.right (dq 4 q.left 0)
mutual
def jL(au c9:List ae):ae→Int→ae × Int
 | .mk k n ks,l=>
   if l-1<0 then(cQ,l-1)
   else if k=3 then
    if n≥(au.length:Nat) then(IB,l-1) else(au.getD n.toNat cQ,l-1-((gV (au.getD n.toNat cQ):Nat)-1))
   else if k=4 then
    if n≥(c9.length:Nat) then(IB,l-1) else(c9.getD n.toNat cQ,l-1-((gV (c9.getD n.toNat cQ):Nat)-1))
   else(.mk k n (gZ au c9 ks (l-1)).1,(gZ au c9 ks (l-1)).2)
def gZ(au c9:List ae):List ae→Int→List ae × Int
 |[],l=>([],l)
 |x::xs,l=>((jL au c9 x l).1::(gZ au c9 xs (jL au c9 x l).2).1,(gZ au c9 xs (jL au c9 x l).2).2)
end
theorem zg{ts us:List ae}:∀{l:List ae} {i:Nat} (h:i<l.length) (m:Int),
 gZ ts us (l.take (i+1)) m=((gZ ts us (l.take i) m).1++[(jL ts us l[i] (gZ ts us (l.take i) m).2).1],(jL ts us l[i] (gZ ts us (l.take i) m).2).2)
 |x::xs,0,h,m=>by simp[gZ]
 |x::xs,i+1,h,m=>by
  simp only[List.take_succ_cons,gZ,List.getElem_cons_succ]
  rw[zg (by simpa using h)]
  simp
theorem BH{ts us:List ae}:∀(l:List ae) (m:Int),(gZ ts us l m).1.length=l.length
 |[],m=>rfl
 |x::xs,m=>by simp only[gZ,List.length_cons,BH xs]
theorem lG{ts us:List ae}(h1:∀x∈ts,ao x≤200)(h2:∀x∈us,ao x≤200):∀(e:ae) (m:Int),gV (jL ts us e m).1≤201*gV e∧m-201*gV e≤(jL ts us e m).2∧(jL ts us e m).2≤m
 | .mk k n ks,m=>by
   have get:∀{l:List ae} {i:Nat},(∀x∈l,ao x≤200)→ao (l.getD i cQ)≤200:=by
    intro l i h
    by_cases hi:i<l.length
    ·rw[List.getD_eq_getElem?_getD,List.getElem?_eq_getElem hi]
     exact h _ (List.getElem_mem hi)
    ·rw[List.getD_eq_getElem?_getD,List.getElem?_eq_none (by omega)]
     exact Nat.zero_le _
   have hs:∀(l:List ae) (hl:∀x∈l,x∈ks) (m:Int),aK (gZ ts us l m).1≤201*aK l∧m-201*aK l≤(gZ ts us l m).2∧(gZ ts us l m).2≤m:=by
    intro l
    induction l with
    |nil=>intro _ m;simp only[gZ,aK,List.length_nil];omega
    |cons x xs ih=>
     intro hl m
     have hxm:x∈ks:=hl x (List.mem_cons_self ..)
     have hx:=lG h1 h2 x m
     have hxs:=ih (fun y hy=>hl y (List.mem_cons_of_mem _ hy)) (jL ts us x m).2
     simp only[gZ,aK,List.length_cons,gV] at hx hxs⊢
     omega
   have hk:=hs ks (fun _ h=>h) (m-1)
   have hlen:ks.length≤aK ks:=by
    clear hk hs
    induction ks with
    |nil=>exact Nat.zero_le _
    |cons x xs ih=>
     simp only[aK,List.length_cons]
     omega
   have g1:=get (i:=n.toNat) h1
   have g2:=get (i:=n.toNat) h2
   rw[jL]
   have e0:ao cQ=0:=rfl
   have e1:ao IB=0:=rfl
   have e2:gV (.mk k n ks)=aK ks+1:=by simp only[gV,ao]
   split
   ·simp only[gV,e0];omega
   split
   ·split
    ·simp only[gV,e1];omega
    ·simp only[gV] at g1 e2⊢;omega
   split
   ·split
    ·simp only[gV,e1];omega
    ·simp only[gV] at g2 e2⊢;omega
   ·have e3:ao (.mk k n (gZ ts us ks (m-1)).1)=aK (gZ ts us ks (m-1)).1:=by simp only[ao]
    simp only[gV,e3] at e2⊢
    omega
 termination_by e=>SizeOf.sizeOf e
 decreasing_by
  have:=List.sizeOf_lt_of_mem hxm
  simp only[ae.mk.sizeOf_spec]
  omega
end Go.Proofs.YtgbggaddpbghfaaGreat
namespace Go.Proofs.YtgbggaddpbghfaaGreat
open Go Go.KA Go.Proofs
set_option maxHeartbeats 16000000
set_option maxRecDepth 100000
def nr:ae→List Int→Bool→ae × Bool × Bool
 |e,[],b=>(e,b,true)
 |e,i::p,b=>if 0≤i∧i≤(e.kids.length:Nat)-1 then nr (e.kids.getD i.toNat cQ) p (b||decide (e.kind=5)) else(e,b,false)
def gD(y:ae):ae→List Int→ae
 |_,[]=>y
 | .mk k n ks,i::p=> .mk k n (ks.set i.toNat (gD y (ks.getD i.toNat cQ) p))
def mP(t a:Int)(e:ae)(p:List Int)(y:ae):ae × Int:=
 if(nr e p false).2.2=false then(cQ,2)
 else if(nr e p false).2.1=true∧cS y=false then(cQ,4)
 else if aW t a (gD y e p)=false then(cQ,3)
 else(gD y e p,0)
theorem zy:∀(l:List ae) (i:Nat) (y:ae),i<l.length→aK (l.set i y)+ao (l.getD i cQ)=aK l+ao y
 |[],i,y,h=>by simp at h
 |x::xs,0,y,h=>by simp only[List.set_cons_zero,aK,List.getD_cons_zero];omega
 |x::xs,i+1,y,h=>by
  have:=zy xs i y (by simpa using h)
  simp only[List.set_cons_succ,aK,List.getD_cons_succ]
  omega
theorem vN:∀(l:List ae) (i:Nat),ao (l.getD i cQ)≤aK l
 |[],i=>by simp[ao,aK]
 |x::xs,0=>by simp only[aK,List.getD_cons_zero];omega
 |x::xs,i+1=>by
  have:=vN xs i
  simp only[aK,List.getD_cons_succ]
  omega
theorem y2(y:ae):∀(p:List Int) (e:ae),ao (gD y e p)≤ao e+ao y
 |[],e=>by simp only[gD];omega
 |i::p, .mk k n ks=>by
  have h1:=y2 y p (ks.getD i.toNat cQ)
  simp only[gD,ao]
  by_cases hi:i.toNat<ks.length
  ·have h2:=zy ks i.toNat (gD y (ks.getD i.toNat cQ) p) hi
   omega
  ·rw[List.set_eq_of_length_le (by omega)]
   omega
structure Fit where
 t0:ae
 t1:ae
 t2:ae
 a0:ae
 a1:ae
 a2:ae
 a3:ae
def pc:Fit:=⟨cQ,cQ,cQ,cQ,cQ,cQ,cQ⟩
def Fit.au(x:Fit):List ae:=[x.t0,x.t1,x.t2]
def Fit.c9(x:Fit):List ae:=[x.a0,x.a1,x.a2,x.a3]
noncomputable def ee(wQ e:ae):Bool:=if wQ.kind=0 then true else eqv wQ e
def dI(wQ e:ae):ae:=if wQ.kind=0 then e else wQ
noncomputable def vd(x:Fit)(n:Int)(e:ae):Bool × Fit:=
 if n=0 then(ee x.t0 e,{x with t0:=dI x.t0 e})
 else if n=1 then(ee x.t1 e,{x with t1:=dI x.t1 e})
 else(ee x.t2 e,{x with t2:=dI x.t2 e})
noncomputable def sc(x:Fit)(n:Int)(e:ae):Bool × Fit:=
 if n=0 then(ee x.a0 e,{x with a0:=dI x.a0 e})
 else if n=1 then(ee x.a1 e,{x with a1:=dI x.a1 e})
 else if n=2 then(ee x.a2 e,{x with a2:=dI x.a2 e})
 else(ee x.a3 e,{x with a3:=dI x.a3 e})
mutual
noncomputable def fM:ae→ae→Fit→Bool × Fit
 | .mk k n ks,e,x=>
   if k=3 then(if cS e=true then vd x n e else(false,x))
   else if k=4 then sc x n e
   else if k=e.kind∧ks.length=e.kids.length then oJ ks e.kids x
   else(false,x)
noncomputable def oJ:List ae→List ae→Fit→Bool × Fit
 |p::ps,e::es,x=>if(fM p e x).1=true then oJ ps es (fM p e x).2 else(false,(fM p e x).2)
 |_,_,x=>(true,x)
end
def iG(x:ae):ae:=if x.kind=0 then IB else x
mutual
def jb(k m:Int):ae→Bool
 | .mk kd n ks=>decide (kd=k∧n=m)||xZ k m ks
def xZ(k m:Int):List ae→Bool
 |[]=>false
 |x::xs=>jb k m x||xZ k m xs
end
def ie(t a:Int)(e:ae)(ts us:List ae):ae × Bool:=((jL ts us e 200).1,decide (0≤(jL ts us e 200).2)&&aW t a (jL ts us e 200).1)
def wP(x:Fit)(e:ae):Bool:=
 decide (x.t0.kind=0)&&jb 3 0 e||decide (x.t1.kind=0)&&jb 3 1 e||decide (x.t2.kind=0)&&jb 3 2 e||
 decide (x.a0.kind=0)&&jb 4 0 e||decide (x.a1.kind=0)&&jb 4 1 e||decide (x.a2.kind=0)&&jb 4 2 e||decide (x.a3.kind=0)&&jb 4 3 e
def eO(l:List ae)(n:Int):List ae:=(l.take n.toNat).map iG
noncomputable def vh(t a:Int)(e:ae)(use:Int)(back:Bool)(fr to:ae)(path:List Int)(node:ae):Option aB:=
 if(fM fr node pc).1=false then none
 else if wP (fM fr node pc).2 to=true then none
 else
  let ts:=eO (fM fr node pc).2.au (dq 3 fr (dq 3 to 0))
  let us:=eO (fM fr node pc).2.c9 (dq 4 fr (dq 4 to 0))
  if(ie t a to ts us).2=false then none
  else if(mP t a e path (ie t a to ts us).1).2=0 then some ⟨use,back,path,ts,us⟩ else none
structure ot where
 out:List aB
 bad:Bool
def rK(s:ot):Option aB→ot
 |none=>s
 |some x=>if s.out.length≥300 then⟨s.out,true⟩ else⟨s.out++[x],s.bad⟩
noncomputable def KV(t a:Int)(ax:List bX)(e:ae)(path:List Int)(node:ae)(use:Nat)(s:ot):ot:=
 let q:=ax.getD use ⟨cQ,cQ⟩
 rK (rK s (vh t a e use false q.left q.right path node)) (vh t a e use true q.right q.left path node)
noncomputable def qT(t a:Int)(ax:List bX)(e:ae)(path:List Int)(node:ae):Nat→Nat→ot→ot
 |0,_,s=>s
 |m+1,use,s=>if s.bad=true then s else qT t a ax e path node m (use+1) (KV t a ax e path node use s)
mutual
noncomputable def jF(t a:Int)(ax:List bX)(e:ae):ae→List Int→ot→ot
 | .mk k n ks,path,s=>eG t a ax e ks path 0 (qT t a ax e path (.mk k n ks) ax.length 0 s)
noncomputable def eG(t a:Int)(ax:List bX)(e:ae):List ae→List Int→Nat→ot→ot
 |[],_,_,s=>s
 |x::xs,path,i,s=>if s.bad=true then s else eG t a ax e xs path (i+1) (jF t a ax e x (path++[(i:Int)]) s)
end
noncomputable def kZ(t a:Int)(ax:List bX)(e:ae):ot:=jF t a ax e e [] ⟨[],false⟩
def jw(ax:List bX)(p:cE)(k use:Int):bX × Bool:=
 if use≥0 then(ax.getD use.toNat ⟨cQ,cQ⟩,true)
 else if-1-use≥k then(⟨cQ,cQ⟩,false)
 else if-1-use≥(p.aj.length:Nat) then(⟨cQ,cQ⟩,false)
 else(⟨(p.aj.getD (-1-use).toNat ⟨cQ,cQ,0,0,[]⟩).left,(p.aj.getD (-1-use).toNat ⟨cQ,cQ,0,0,[]⟩).right⟩,true)
noncomputable def gf(ax:List bX)(p:cE)(k:Int)(e:ae)(s:aB):ae × Int:=
 let q:=(jw ax p k s.use).1
 if(jw ax p k s.use).2=false then(cQ,2)
 else if¬((s.au.length:Int)=kx q) then(cQ,2)
 else if¬((s.c9.length:Int)=om q) then(cQ,2)
 else if(nr e s.path false).2.2=false then(cQ,2)
 else
  let x:=ie p.sig.au p.sig.aq q.left s.au s.c9
  let y:=ie p.sig.au p.sig.aq q.right s.au s.c9
  if x.2=false∨y.2=false then(cQ,3)
  else
   let fr:=if s.back=true then y.1 else x.1
   let to:=if s.back=true then x.1 else y.1
   if eqv (nr e s.path false).1 fr=false then(cQ,6)
   else mP p.sig.au p.sig.aq e s.path to
end Go.Proofs.YtgbggaddpbghfaaGreat
namespace Go.Proofs.YtgbggaddpbghfaaGreat
open Go Go.KA Go.Proofs
set_option maxHeartbeats 16000000
set_option maxRecDepth 100000
theorem ff(x:ae):af x=aI x:=a9 x
theorem kN{P:Program}{f:Nat}{args:List SV}{outs:List (Option (List CV))}{k n:Int}(h:ai P f args outs (.a 3 [J k,J n, .ows 66 3 []])):ai P f args outs (.a 3 (aI (.mk k n []))):=
 h.soft (.v (.a (.same (.same (.ro .nil)))))
section
variable(t:ByteArray)(hz:t.size≤100000)
include hz
theorem kA(s:iH):aE Tryz.prog 218 [.c (.rp 4 (gj t s))] (U8 (df t s.at_)):=by
 have _:=hz
 obtain⟨i,d,b⟩:=s
 by_cases h:i<t.size
 ·rw[show df t i=yn t i from if_pos h]
  refine cF Tryz.func218 (h:= ?_)
  repeat'((conv=>whnf);first
   |apply bo.mk
   |(apply Fact.mk;intro hL;try simp only[List.length_map,maxLen] at hL)
   |((first|apply bA|apply bB|apply bC|apply bD|apply bE|apply bF)<;>intro h<;>(try simp only[List.length_map] at h)<;>(try omega)<;>(try contradiction))
   |refine iX (k:= ?_)
   |refine nB ?_
   |apply cj.go|(guard_target=aQ _ _;refine aQ.mk (by first|((constructor<;>omega))|fail) ?_)
   |refine nO ?_)
  all_goals first|rfl|trivial
 ·rw[show df t i=0 from if_neg h]
  refine cF Tryz.func218 (h:= ?_)
  repeat'((conv=>whnf);first
   |apply bo.mk
   |(apply Fact.mk;intro hL;try simp only[List.length_map,maxLen] at hL)
   |((first|apply bA|apply bB|apply bC|apply bD|apply bE|apply bF)<;>intro h<;>(try simp only[List.length_map] at h)<;>(try omega)<;>(try contradiction))
   |refine iX (k:= ?_)
   |refine nB ?_
   |apply cj.go|(guard_target=aQ _ _;refine aQ.mk (by first|((constructor<;>omega))|fail) ?_)
   |refine nO ?_)
  all_goals first|rfl|trivial
theorem mu(s:iH)(b:Nat)(h:s.at_≤t.size):ai Tryz.prog 227 [.c (.op (gj t s)),U8 b] [some [.op (gj t (dV t s b))],none] (.tup []):=by
 have hp:=kA t hz s
 obtain⟨i,d,c⟩:=s
 simp only[] at hp h
 obtain⟨R,hR⟩:∃R,dV t ⟨i,d,c⟩ b=R:=⟨_,rfl⟩
 rw[hR]
 unfold dV at hR
 simp only[] at hR
 generalize df t i=p at hp hR
 by_cases hb:p=b
 ·rw[if_pos hb] at hR
  subst hR hb
  refine cX Tryz.func227 (h:= ?_)
  repeat'((conv=>whnf);first
   |refine ah.mk ?_ ?_
   |((first|apply bA|apply bB|apply bC|apply bD|apply bE|apply bF)<;>intro h<;>(try simp only[List.length_map] at h)<;>(try omega)<;>(try contradiction))|(guard_target=aa _ 218 _ _ _ _;refine cP rfl (hp) ?_)
   |refine aR ?_
   |refine iX (k:= ?_)
   |refine nO ?_)
  all_goals first|rfl|exact⟨rfl,trivial⟩|trivial
 ·rw[if_neg hb] at hR
  subst hR
  refine ai.qU (?_:ai _ _ _ [some [.op [.val (.string t),J (i:Nat),J d, .cb true]],none] _) (.re (.op (.same (.same (.same (.cb .nil)))) .nil) (.same .nil))
  refine cX Tryz.func227 (h:= ?_)
  repeat'((conv=>whnf);first
   |refine ah.mk ?_ ?_
   |((first|apply bA|apply bB|apply bC|apply bD|apply bE|apply bF)<;>intro h<;>(try simp only[List.length_map] at h)<;>(try omega)<;>(try contradiction))|(guard_target=aa _ 218 _ _ _ _;refine cP rfl (hp) ?_)
   |refine aR ?_
   |refine iX (k:= ?_)
   |refine nO ?_)
  all_goals first|rfl|exact⟨rfl,trivial⟩|trivial
end
theorem wrap_u8'{z:Int}(h1:0≤z)(h2:z≤255):IntKind.u8.wrap z=z:=by
 simp only[IntKind.wrap,IntKind.bits,IntKind.signed,Bool.false_and]
 have:z % 2^8=z:=by omega
 simp only[this]
 simp
theorem JA{x:ByteArray}{i:Nat}{n:Int}(h:i<x.size)(h1:¬((yn x i:Nat):Int)<48)(h2:¬((yn x i:Nat):Int)>57):qS (x.data.toList.drop i) n=qS (x.data.toList.drop (i+1)) (n*10+((yn x i:Nat)-48)):=by
 rw[drop_cons h,qS,if_neg (show¬(x.data.toList.getD i 0).toNat<48 by unfold yn at h1;omega),if_neg (show¬57<(x.data.toList.getD i 0).toNat by unfold yn at h2;omega)]
 rfl
theorem Nm{x:ByteArray}{i:Nat}{n:Int}(h:i<x.size)(h1:((yn x i:Nat):Int)<48):qS (x.data.toList.drop i) n=(0,false):=by
 rw[drop_cons h,qS,if_pos (show(x.data.toList.getD i 0).toNat<48 by unfold yn at h1;omega)]
theorem Of{x:ByteArray}{i:Nat}{n:Int}(h:i<x.size)(h1:((yn x i:Nat):Int)>57):qS (x.data.toList.drop i) n=(0,false):=by
 rw[drop_cons h,qS]
 split
 ·rfl
 ·rw[if_pos (show 57<(x.data.toList.getD i 0).toNat by unfold yn at h1;omega)]
theorem LD{x:ByteArray}{i:Nat}{n:Int}(h:¬i<x.size):qS (x.data.toList.drop i) n=(n,true):=by
 rw[List.drop_of_length_le (by rw[ua];omega)]
 rfl
theorem I0{n:Int}{i:Nat}{b:Int}(h0:0≤n)(h1:n<10^i)(h2:0≤b)(h3:b≤9):0≤n*10+b∧n*10+b<10^(i+1):=by
 rw[Int.pow_succ]
 omega
theorem Iq{i:Nat}(h:i≤9):(10:Int)^i≤1000000000:=by
 have:((10:Nat)^i:Nat)≤10^9:=Nat.pow_le_pow_right (by omega) h
 have e:((10:Int)^i)=(((10:Nat)^i:Nat):Int):=by rw[Int.natCast_pow];rfl
 rw[e]
 omega
theorem s6(x:ByteArray):aE Tryz.prog 226 [F4 x] (.tup [I (He x).1,B (He x).2]):=by
 obtain⟨R,hR⟩:∃R,He x=R:=⟨_,rfl⟩
 rw[hR]
 unfold He at hR
 by_cases h1:x.size<1
 ·rw[if_pos h1] at hR
  subst hR
  refine cF Tryz.func226 (h:= ?_)
  repeat'((conv=>whnf);first
   |apply bo.mk
   |(apply Fact.mk;intro hL;try simp only[List.length_map,maxLen] at hL)
   |((first|apply bA|apply bB|apply bC|apply bD|apply bE|apply bF)<;>intro h<;>(try simp only[List.length_map] at h)<;>(try omega)<;>(try contradiction))
   |refine aR ?_
   |refine iX (k:= ?_)
   |refine nO ?_)
  all_goals first|rfl|trivial
 rw[if_neg h1] at hR
 by_cases h2:x.size>9
 ·rw[if_pos h2] at hR
  subst hR
  refine cF Tryz.func226 (h:= ?_)
  repeat'((conv=>whnf);first
   |apply bo.mk
   |(apply Fact.mk;intro hL;try simp only[List.length_map,maxLen] at hL)
   |((first|apply bA|apply bB|apply bC|apply bD|apply bE|apply bF)<;>intro h<;>(try simp only[List.length_map] at h)<;>(try omega)<;>(try contradiction))
   |refine aR ?_
   |refine iX (k:= ?_)
   |refine nO ?_)
  all_goals first|rfl|trivial
 rw[if_neg h2] at hR
 by_cases h3:yn x 0=48∧x.size>1
 ·rw[if_pos h3] at hR
  subst hR
  have h30:((x.data.toList.getD (Int.toNat 0) 0).toNat:Int)=48:=by have:=h3.1;show((yn x 0:Nat):Int)=48;omega
  refine cF Tryz.func226 (h:= ?_)
  repeat'((conv=>whnf);first
   |apply bo.mk
   |(apply Fact.mk;intro hL;try simp only[List.length_map,maxLen] at hL)
   |((first|apply bA|apply bB|apply bC|apply bD|apply bE|apply bF)<;>intro h<;>(try simp only[List.length_map] at h)<;>(try omega)<;>(try contradiction))
   |refine aR ?_
   |refine iX (k:= ?_)|(guard_target=aQ _ _;refine aQ.mk (by first|((constructor<;>omega))|fail) ?_)
   |refine nO ?_)
  all_goals first|rfl|trivial
 rw[if_neg h3] at hR
 have hb:∀i,0≤((yn x i:Nat):Int)∧((yn x i:Nat):Int)≤255:=fun i=>by have:=Nu x i;omega
 have h30:((x.data.toList.getD (Int.toNat 0) 0).toNat:Int)=48→¬1<x.size:=fun h h'=>h3 ⟨by have h:((yn x 0:Nat):Int)=48:=h;omega,h'⟩
 subst hR
 refine cF Tryz.func226 (h:= ?_)
 repeat'((conv=>whnf);first
  |(apply bo.mk;first|((rw[←ha.2.1,Nm (by omega) (by assumption)];rfl);done)|((rw[←ha.2.1,Of (by omega) (by assumption)];rfl);done)|((rw[←ha.2.1,LD (by omega)];rfl);done)|skip)|(guard_target=~ aP 5 _ _ _ _ _ _;refine lp (Int × Nat) [0] (fun⟨n,i⟩=>[(4,I n),(5,I (i:Nat))]) (fun⟨n,i⟩=>i≤x.size∧qS (x.data.toList.drop i) n=qS x.data.toList 0∧0≤n∧n<10^i) (fun⟨n,i⟩=>x.size-i) (0,0) (by exact⟨Nat.zero_le _,rfl,Int.le_refl _,by decide⟩) (fun A ha=> ?_);obtain⟨n,i⟩:=A;have ha:i≤x.size∧qS (x.data.toList.drop i) n=qS x.data.toList 0∧0≤n∧n<10^i:=ha;have h10:=Iq (i:=i) (by omega);have hbi:0≤((x.data.toList.getD (Int.toNat (i:Nat)) 0).toNat:Int)∧((x.data.toList.getD (Int.toNat (i:Nat)) 0).toNat:Int)≤255:=hb i)
  |refine nx ((n*10+(((yn x i:Nat):Int)-48),i+1):Int × Nat) (by exact⟨by show i+1≤_;omega,by show qS _ _=_;rw[←ha.2.1];exact(JA (by omega) (by assumption) (by assumption)).symm,I0 ha.2.2.1 ha.2.2.2 (show 0≤((x.data.toList.getD (Int.toNat (i:Nat)) 0).toNat:Int)-48 by omega) (show((x.data.toList.getD (Int.toNat (i:Nat)) 0).toNat:Int)-48≤9 by omega)⟩)
  |(apply Fact.mk;intro hL;try simp only[List.length_map,maxLen] at hL)
  |((first|apply bA|apply bB|apply bC|apply bD|apply bE|apply bF)<;>intro h<;>(try simp only[List.length_map] at h)<;>(try omega)<;>(try contradiction))|(guard_target=Arith .u8 _ _;refine Arith.fit (wrap_u8' (by omega) (by omega)) ?_)|(guard_target=Arith _ _ _;refine Arith.fit (aL (by omega) (by omega)) ?_)
  |refine aR ?_
  |refine iX (k:= ?_)|(guard_target=aQ _ _;refine aQ.mk (by first|((constructor<;>omega))|fail) ?_)
  |refine nO ?_)
 all_goals first|rfl|trivial
end Go.Proofs.YtgbggaddpbghfaaGreat
