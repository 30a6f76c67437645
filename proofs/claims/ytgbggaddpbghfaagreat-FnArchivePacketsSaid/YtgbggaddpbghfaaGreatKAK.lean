/- The reference's reader of expressions, as a plain function of a text: where it is, how deep, whether it has failed. Plain laws. No conditions. -/
import Derived.Test.YtgbggaddpbghfaaGreatKAJ
namespace Go.Proofs.YtgbggaddpbghfaaGreat
open Go Go.KA Go.Proofs
set_option maxHeartbeats 16000000
set_option maxRecDepth 100000
abbrev cL:ae:= .mk 0 0 []
abbrev G3(x:ByteArray):SV:= .c (.val (.string x))
abbrev U8(n:Nat):SV:= .c (.val (.int .u8 (n:Int)))
structure iH where
 at_:Nat
 deep:Int
 bad:Bool
abbrev gi(t:ByteArray)(s:iH):List CV:=[.val (.string t),J (s.at_:Nat),J s.deep, .val (.bool s.bad)]
def zH(t:ByteArray)(i:Nat):Nat:=(t.data.toList.getD i 0).toNat
def dc(t:ByteArray)(i:Nat):Nat:=if i<t.size then zH t i else 0
theorem tV(t:ByteArray):t.data.toList.length=t.size:=by rw[Array.length_toList];rfl
theorem N8(t:ByteArray)(i:Nat):zH t i≤255:=by
 have:=(t.data.toList.getD i 0).toNat_lt
 unfold zH
 omega
theorem dC{t:ByteArray}{i:Nat}(h:0<dc t i):i<t.size:=by
 unfold dc at h
 split at h
 ·assumption
 ·omega
def dY(t:ByteArray)(s:iH)(b:Nat):iH:=if dc t s.at_=b then⟨s.at_+1,s.deep,s.bad⟩ else⟨s.at_,s.deep,true⟩
def JS(b:UInt8):Bool:=decide (48≤b.toNat∧b.toNat≤57)
def eg(t:ByteArray)(i:Nat):Nat:=i+((t.data.toList.drop i).takeWhile JS).length
theorem drop_cons{t:ByteArray}{i:Nat}(h:i<t.size):t.data.toList.drop i=t.data.toList.getD i 0::t.data.toList.drop (i+1):=by
 have hl:i<t.data.toList.length:=by rw[tV];exact h
 rw[List.drop_eq_getElem_cons hl,List.getD_eq_getElem?_getD,List.getElem?_eq_getElem hl]
 rfl
theorem sN{t:ByteArray}{i:Nat}(h1:48≤dc t i)(h2:dc t i≤57):eg t i=eg t (i+1):=by
 have h:=dC (show 0<dc t i by omega)
 have e:dc t i=(t.data.toList.getD i 0).toNat:=if_pos h
 unfold eg
 rw[drop_cons h,List.takeWhile_cons,if_pos (show JS (t.data.toList.getD i 0)=true from decide_eq_true (by omega)),List.length_cons]
 omega
theorem ta{t:ByteArray}{i:Nat}(h:¬(48≤dc t i∧dc t i≤57)):eg t i=i:=by
 unfold eg
 by_cases hi:i<t.size
 ·have e:dc t i=(t.data.toList.getD i 0).toNat:=if_pos hi
  rw[drop_cons hi,List.takeWhile_cons,if_neg (by intro hd;have:=of_decide_eq_true hd;omega)]
  rfl
 ·rw[List.drop_of_length_le (by rw[tV];omega)]
  rfl
theorem Eu{t:ByteArray}{i:Nat}(h:i≤t.size):i≤eg t i∧eg t i≤t.size:=by
 have h1:=(List.takeWhile_sublist (l:=t.data.toList.drop i) JS).length_le
 rw[List.length_drop,tV] at h1
 unfold eg
 omega
def qW:List UInt8→Int→Int × Bool
 |[],n=>(n,true)
 |b::r,n=>if b.toNat<48 then(0,false) else if 57<b.toNat then(0,false) else qW r (n*10+((b.toNat:Int)-48))
def IY(x:ByteArray):Int × Bool:=if x.size<1 then(0,false) else if x.size>9 then(0,false) else if zH x 0=48∧x.size>1 then(0,false) else qW x.data.toList 0
def qz(t:ByteArray)(s:iH):ae × iH:=
 (.mk (if dc t s.at_=97 then 4 else 3) (IY (t.extract (s.at_+1) (eg t (s.at_+1)))).1 [],⟨eg t (s.at_+1),s.deep,s.bad|| !(IY (t.extract (s.at_+1) (eg t (s.at_+1)))).2⟩)
def oE:List UInt8→ae→ae × Nat
 |[],e=>(e,0)
 |b::r,e=>if b.toNat=42 then((oE r (.mk 8 0 [e])).1,(oE r (.mk 8 0 [e])).2+1) else(e,0)
def ej(t:ByteArray)(i:Nat)(e:ae):ae × Nat:=oE (t.data.toList.drop i) e
theorem zI{t:ByteArray}{i:Nat}(e:ae)(h:dc t i=42):ej t i e=((ej t (i+1) (.mk 8 0 [e])).1,(ej t (i+1) (.mk 8 0 [e])).2+1):=by
 have hi:=dC (show 0<dc t i by omega)
 have e:dc t i=(t.data.toList.getD i 0).toNat:=if_pos hi
 unfold ej
 rw[drop_cons hi]
 rw[oE,if_pos (by omega)]
theorem yI{t:ByteArray}{i:Nat}(e:ae)(h:¬dc t i=42):ej t i e=(e,0):=by
 unfold ej
 by_cases hi:i<t.size
 ·have e:dc t i=(t.data.toList.getD i 0).toNat:=if_pos hi
  rw[drop_cons hi]
  rw[oE,if_neg (by omega)]
 ·rw[List.drop_of_length_le (by rw[tV];omega)]
  rfl
theorem Gg:∀(l:List UInt8) (e:ae),(oE l e).2≤l.length
 |[],e=>Nat.le_refl _
 |b::r,e=>by
  have:=Gg r (.mk 8 0 [e])
  simp only[oE,List.length_cons]
  split
  ·simp only[];omega
  ·simp only[];omega
def fh(t:ByteArray)(f:iH→ae × iH)(s:iH):ae × iH:=
 if s.bad=true∨s.deep+1>100 then(cL,⟨s.at_,s.deep+1,true⟩)
 else
    let r:=f ⟨s.at_,s.deep+1,s.bad⟩
    if r.2.bad=true then(r.1,⟨r.2.at_,r.2.deep-1,true⟩)
    else((ej t r.2.at_ r.1).1,⟨r.2.at_+(ej t r.2.at_ r.1).2,r.2.deep-1,false⟩)
def oR(t:ByteArray)(s:iH):Int × iH:=if dc t s.at_=43 then(6,dY t ⟨s.at_+1,s.deep,s.bad⟩ 32) else(7,s)
def jc(t:ByteArray)(f:iH→ae × iH)(s:iH):ae × iH:=
 let a:=f (dY t s 40)
 let k:=oR t (dY t a.2 32)
 let b:=f k.2
 (.mk k.1 0 [a.1,b.1],dY t b.2 41)
def df(t:ByteArray):Nat→iH→ae × iH
 |0,s=>(cL,s)
 |n+1,s=>
  if dc t s.at_=48 then(.mk 1 0 [],⟨s.at_+1,s.deep,s.bad⟩)
  else if dc t s.at_=49 then(.mk 2 0 [],⟨s.at_+1,s.deep,s.bad⟩)
  else if dc t s.at_=116∨dc t s.at_=97 then qz t s
  else if dc t s.at_=126 then
   if s.deep+1>100 then(cL,⟨s.at_+1,s.deep+1,true⟩)
   else
    let r:=df t n ⟨s.at_+1,s.deep+1,s.bad⟩
    (.mk 5 0 [r.1],⟨r.2.at_,r.2.deep-1,r.2.bad⟩)
  else if dc t s.at_=40 then jc t (fh t (df t n)) s
  else(cL,⟨s.at_,s.deep,true⟩)
structure rW(t:ByteArray)(s:iH)(e:ae)(r:iH)(m:Int):Prop where
 size:r.at_≤t.size
 lo:s.at_≤r.at_
 deep:r.bad=false→s.bad=false∧r.deep=s.deep
 Qx:s.deep≤r.deep
 QH:r.deep≤m
 Pj:aj e+2*s.at_≤2*r.at_
theorem oF{t:ByteArray}{s:iH}{b:Nat}(hb:0<b)(h:s.at_≤t.size):(dY t s b).at_≤t.size∧s.at_≤(dY t s b).at_∧(dY t s b).deep=s.deep∧((dY t s b).bad=false→s.bad=false):=by
 unfold dY
 split
 ·have:=dC (t:=t) (i:=s.at_) (by omega)
  exact⟨by simp only[];omega,by simp only[];omega,rfl,id⟩
 ·exact⟨h,Nat.le_refl _,rfl,by simp⟩
theorem wM{t:ByteArray}{s:iH}(h:s.at_≤t.size):(oR t s).2.at_≤t.size∧s.at_≤(oR t s).2.at_∧(oR t s).2.deep=s.deep∧((oR t s).2.bad=false→s.bad=false):=by
 unfold oR
 split
 ·have:=dC (t:=t) (i:=s.at_) (by omega)
  have h2:=oF (t:=t) (s:=⟨s.at_+1,s.deep,s.bad⟩) (b:=32) (by omega) (by simp only[];omega)
  simp only[] at h2⊢
  exact⟨h2.1,by omega,h2.2.2.1,h2.2.2.2⟩
 ·exact⟨h,Nat.le_refl _,rfl,id⟩
theorem mZ(k n:Int):aj (.mk k n [])=0:=rfl
theorem Gs(k n:Int)(x:ae):aj (.mk k n [x])=aj x+1:=by simp[aj,aJ]
theorem MX(k n:Int)(x y:ae):aj (.mk k n [x,y])=aj x+aj y+2:=by simp[aj,aJ];omega
theorem De:∀(l:List UInt8) (e:ae),aj (oE l e).1=aj e+(oE l e).2
 |[],e=>rfl
 |b::r,e=>by
  have:=De r (.mk 8 0 [e])
  rw[Gs] at this
  simp only[oE]
  split
  ·simp only[];omega
  ·rfl
theorem r5{t:ByteArray}{f:iH→ae × iH}(hf:∀s:iH,s.bad=false→0≤s.deep→s.deep≤100→s.at_≤t.size→1≤s.deep→rW t s (f s).1 (f s).2 102)(s:iH)(h0:0≤s.deep)(h1:s.deep≤101)(hg:s.bad=false→s.deep≤100)(h2:s.at_≤t.size):
 rW t s (fh t f s).1 (fh t f s).2 (if s.bad=true then s.deep+1 else 101):=by
 have e0:aj cL=0:=rfl
 unfold fh
 split
 ·rename_i h
  refine⟨h2,Nat.le_refl _,by simp,by simp only[];omega, ?_,by show aj cL+2*s.at_≤2*s.at_;rw[e0];omega⟩
  cases hb:s.bad with
  |true=>simp only[if_true];omega
  |false=>simp only[Bool.false_eq_true,if_false];have:=hg hb;omega
 ·rename_i h
  have hb:s.bad=false:=by cases hb:s.bad with|true=>exact absurd (.inl hb) h|false=>rfl
  have hd:¬s.deep+1>100:=fun hd=>h (.inr hd)
  have hh:=hf ⟨s.at_,s.deep+1,s.bad⟩ hb (by simp only[];omega) (by simp only[];omega) h2 (by simp only[];omega)
  obtain⟨g1,g2,g3,g4,g5,g6⟩:=hh
  simp only[] at g2 g3 g4 g6⊢
  generalize f ⟨s.at_,s.deep+1,s.bad⟩=r at g1 g2 g3 g4 g5 g6⊢
  rw[hb]
  simp only[Bool.false_eq_true,if_false]
  cases hr:r.2.bad with
  |true=>
   simp only[if_true]
   exact⟨g1,g2,by simp,by simp only[];omega,by simp only[];omega,g6⟩
  |false=>
   simp only[Bool.false_eq_true,if_false]
   have g3:=(g3 hr).2
   have hl:=Gg (t.data.toList.drop r.2.at_) r.1
   rw[List.length_drop,tV] at hl
   have hb2:=De (t.data.toList.drop r.2.at_) r.1
   have eR:ej t r.2.at_ r.1=oE (t.data.toList.drop r.2.at_) r.1:=rfl
   rw[←eR] at hl hb2
   exact⟨by simp only[];omega,by simp only[];omega,fun _=>⟨hb,by simp only[];omega⟩,by simp only[];omega,by simp only[];omega,by simp only[];omega⟩
theorem KN{t:ByteArray}{f:iH→ae × iH}(hf:∀s:iH,0≤s.deep→s.deep≤101→(s.bad=false→s.deep≤100)→s.at_≤t.size→rW t s (f s).1 (f s).2 (if s.bad=true then s.deep+1 else 101))(s:iH)(hb:s.bad=false)(h0:0≤s.deep)(h1:s.deep≤100)(h2:s.at_≤t.size)(h3:dc t s.at_=40):
 rW t s (jc t f s).1 (jc t f s).2 102:=by
 have hs:=dC (t:=t) (i:=s.at_) (by omega)
 have e1:dY t s 40=⟨s.at_+1,s.deep,s.bad⟩:=if_pos h3
 have a1:=hf ⟨s.at_+1,s.deep,s.bad⟩ h0 (by simp only[];omega) (fun _=>h1) (by simp only[];omega)
 unfold jc
 rw[e1]
 simp only[]
 generalize f ⟨s.at_+1,s.deep,s.bad⟩=A at a1⊢
 obtain⟨a,s1⟩:=A
 obtain⟨p1,p2,p3,p4,p5,p6⟩:=a1
 simp only[hb,Bool.false_eq_true,if_false] at p1 p2 p3 p4 p5 p6⊢
 obtain⟨q1,q2,q3,q4⟩:=oF (t:=t) (s:=s1) (b:=32) (by omega) p1
 obtain⟨r1,r2,r3,r4⟩:=wM (t:=t) (s:=dY t s1 32) q1
 generalize oR t (dY t s1 32)=K at r1 r2 r3 r4⊢
 obtain⟨k,s2⟩:=K
 simp only[] at r1 r2 r3 r4⊢
 have b1:=hf s2 (by omega) (by omega) (fun k=>by have:=(p3 (q4 (r4 k))).2;omega) r1
 generalize f s2=B at b1⊢
 obtain⟨b,s3⟩:=B
 obtain⟨u1,u2,u3,u4,u5,u6⟩:=b1
 simp only[] at u1 u2 u3 u4 u5 u6⊢
 obtain⟨v1,v2,v3,v4⟩:=oF (t:=t) (s:=s3) (b:=41) (by omega) u1
 refine⟨v1,by omega,fun h=> ?_,by omega, ?_,by rw[MX];omega⟩
 ·obtain⟨k2,k3⟩:=u3 (v4 h)
  have k4:=p3 (q4 (r4 k2))
  exact⟨hb,by omega⟩
 ·split at u5<;>omega
theorem gu{t:ByteArray}:∀(n:Nat) (s:iH),s.bad=false→0≤s.deep→s.deep≤100→s.at_≤t.size→rW t s (df t n s).1 (df t n s).2 102
 |0,s,hb,h0,h1,h2=>⟨h2,Nat.le_refl _,fun _=>⟨hb,rfl⟩,Int.le_refl _,by simp only[df];omega,by simp only[df,mZ];omega⟩
 |n+1,s,hb,h0,h1,h2=>by
  have ih:=gu (t:=t) n
  rw[df]
  split
  ·have:=dC (t:=t) (i:=s.at_) (by omega)
   exact⟨by simp only[];omega,by simp only[];omega,fun _=>⟨hb,rfl⟩,Int.le_refl _,by simp only[];omega,by simp only[mZ];omega⟩
  split
  ·have:=dC (t:=t) (i:=s.at_) (by omega)
   exact⟨by simp only[];omega,by simp only[];omega,fun _=>⟨hb,rfl⟩,Int.le_refl _,by simp only[];omega,by simp only[mZ];omega⟩
  split
  ·have hp:=dC (t:=t) (i:=s.at_) (by omega)
   have hd:=Eu (t:=t) (i:=s.at_+1) (by omega)
   unfold qz
   exact⟨hd.2,by simp only[];omega,fun _=>⟨hb,rfl⟩,Int.le_refl _,by simp only[];omega,by simp only[mZ];omega⟩
  split
  ·have hp:=dC (t:=t) (i:=s.at_) (by omega)
   split
   ·exact⟨by simp only[];omega,by simp only[];omega,by simp,by simp only[];omega,by simp only[];omega,by rw[show cL=ae.mk 0 0 [] from rfl,mZ];simp only[];omega⟩
   ·have hh:=ih ⟨s.at_+1,s.deep+1,s.bad⟩ hb (by simp only[];omega) (by simp only[];omega) (by simp only[];omega)
    obtain⟨p1,p2,p3,p4,p5,p6⟩:=hh
    simp only[] at p1 p2 p3 p4 p5 p6⊢
    exact⟨p1,by simp only[];omega,fun h=>⟨hb,by have:=(p3 h).2;simp only[] at this⊢;omega⟩,by simp only[];omega,by simp only[];omega,by show aj (.mk 5 0 [_])+2*s.at_≤2*(df t n _).2.at_;rw[Gs];omega⟩
  split
  ·exact KN (r5 fun s a b c d _=>ih s a b c d) s hb h0 h1 h2 (by assumption)
  ·exact⟨h2,Nat.le_refl _,by simp,Int.le_refl _,by simp only[];omega,by rw[show cL=ae.mk 0 0 [] from rfl,mZ];simp only[];omega⟩
def kF(t:ByteArray):ae × iH:=fh t (df t 101) ⟨0,0,false⟩
def Qf(t:ByteArray):Bool:= !(kF t).2.bad&&decide ((kF t).2.at_=t.size)
theorem KB(t:ByteArray):rW t ⟨0,0,false⟩ (kF t).1 (kF t).2 101:=
 r5 (fun s a b c d _=>gu 101 s a b c d) ⟨0,0,false⟩ (by decide) (by decide) (fun _=>by decide) (Nat.zero_le _)
theorem yL(t:ByteArray):aj (kF t).1≤2*t.size:=by
 have h:=KB t
 have:=h.Pj
 have:=h.size
 simp only[] at*
 omega
end Go.Proofs.YtgbggaddpbghfaaGreat
namespace Go.Proofs.YtgbggaddpbghfaaGreat
open Go Go.KA Go.Proofs
set_option maxHeartbeats 16000000
set_option maxRecDepth 100000
abbrev I8:ae:= .mk 2 0 []
def vH(a b:Int):Int:=if a>b then a else b
mutual
def dm(k:Int):ae→Int→Int
 | .mk kd n ks,m=>eY k ks (if kd=k then vH m (n+1) else m)
def eY(k:Int):List ae→Int→Int
 |[],m=>m
 |x::xs,m=>eY k xs (dm k x m)
end
theorem jW{k:Int}:∀{l:List ae} {i:Nat} (h:i<l.length) (m:Int),eY k (l.take (i+1)) m=dm k l[i] (eY k (l.take i) m)
 |x::xs,0,h,m=>by simp[eY]
 |x::xs,i+1,h,m=>by
  simp only[List.take_succ_cons,eY,List.getElem_cons_succ]
  exact jW (by simpa using h) _
def kG(q:bT):Int:=dm 3 q.right (dm 3 q.left 0)
def om(q:bT):Int:=dm 4 q.right (dm 4 q.left 0)
mutual
def jP(au c9:List ae):ae→Int→ae × Int
 | .mk k n ks,l=>
   if l-1<0 then(cL,l-1)
   else if k=3 then
    if n≥(au.length:Nat) then(I8,l-1) else(au.getD n.toNat cL,l-1-((gZ (au.getD n.toNat cL):Nat)-1))
   else if k=4 then
    if n≥(c9.length:Nat) then(I8,l-1) else(c9.getD n.toNat cL,l-1-((gZ (c9.getD n.toNat cL):Nat)-1))
   else(.mk k n (il au c9 ks (l-1)).1,(il au c9 ks (l-1)).2)
def il(au c9:List ae):List ae→Int→List ae × Int
 |[],l=>([],l)
 |x::xs,l=>((jP au c9 x l).1::(il au c9 xs (jP au c9 x l).2).1,(il au c9 xs (jP au c9 x l).2).2)
end
theorem zD{ts us:List ae}:∀{l:List ae} {i:Nat} (h:i<l.length) (m:Int),
 il ts us (l.take (i+1)) m=((il ts us (l.take i) m).1++[(jP ts us l[i] (il ts us (l.take i) m).2).1],(jP ts us l[i] (il ts us (l.take i) m).2).2)
 |x::xs,0,h,m=>by simp[il]
 |x::xs,i+1,h,m=>by
  simp only[List.take_succ_cons,il,List.getElem_cons_succ]
  rw[zD (by simpa using h)]
  simp
theorem Dd{ts us:List ae}:∀(l:List ae) (m:Int),(il ts us l m).1.length=l.length
 |[],m=>rfl
 |x::xs,m=>by simp only[il,List.length_cons,Dd xs]
theorem lY{ts us:List ae}(h1:∀x∈ts,aj x≤200)(h2:∀x∈us,aj x≤200):∀(e:ae) (m:Int),gZ (jP ts us e m).1≤201*gZ e∧m-201*gZ e≤(jP ts us e m).2∧(jP ts us e m).2≤m
 | .mk k n ks,m=>by
   have get:∀{l:List ae} {i:Nat},(∀x∈l,aj x≤200)→aj (l.getD i cL)≤200:=by
    intro l i h
    by_cases hi:i<l.length
    ·rw[List.getD_eq_getElem?_getD,List.getElem?_eq_getElem hi]
     exact h _ (List.getElem_mem hi)
    ·rw[List.getD_eq_getElem?_getD,List.getElem?_eq_none (by omega)]
     exact Nat.zero_le _
   have hs:∀(l:List ae) (hl:∀x∈l,x∈ks) (m:Int),aJ (il ts us l m).1≤201*aJ l∧m-201*aJ l≤(il ts us l m).2∧(il ts us l m).2≤m:=by
    intro l
    induction l with
    |nil=>intro _ m;simp only[il,aJ,List.length_nil];omega
    |cons x xs ih=>
     intro hl m
     have hxm:x∈ks:=hl x (List.mem_cons_self ..)
     have hx:=lY h1 h2 x m
     have hxs:=ih (fun y hy=>hl y (List.mem_cons_of_mem _ hy)) (jP ts us x m).2
     simp only[il,aJ,List.length_cons,gZ] at hx hxs⊢
     omega
   have hk:=hs ks (fun _ h=>h) (m-1)
   have hlen:ks.length≤aJ ks:=by
    clear hk hs
    induction ks with
    |nil=>exact Nat.zero_le _
    |cons x xs ih=>
     simp only[aJ,List.length_cons]
     omega
   have g1:=get (i:=n.toNat) h1
   have g2:=get (i:=n.toNat) h2
   rw[jP]
   have e0:aj cL=0:=rfl
   have e1:aj I8=0:=rfl
   have e2:gZ (.mk k n ks)=aJ ks+1:=by simp only[gZ,aj]
   split
   ·simp only[gZ,e0];omega
   split
   ·split
    ·simp only[gZ,e1];omega
    ·simp only[gZ] at g1 e2⊢;omega
   split
   ·split
    ·simp only[gZ,e1];omega
    ·simp only[gZ] at g2 e2⊢;omega
   ·have e3:aj (.mk k n (il ts us ks (m-1)).1)=aJ (il ts us ks (m-1)).1:=by simp only[aj]
    simp only[gZ,e3] at e2⊢
    omega
 termination_by e=>SizeOf.sizeOf e
 decreasing_by
  have:=List.sizeOf_lt_of_mem hxm
  simp only[ae.mk.sizeOf_spec]
  omega
end Go.Proofs.YtgbggaddpbghfaaGreat
namespace Go.Proofs.YtgbggaddpbghfaaGreat
open Go Go.KA Go.Proofs
set_option maxHeartbeats 16000000
set_option maxRecDepth 100000
def nA:ae→List Int→Bool→ae × Bool × Bool
 |e,[],b=>(e,b,true)
 |e,i::p,b=>if 0≤i∧i≤(e.kids.length:Nat)-1 then nA (e.kids.getD i.toNat cL) p (b||decide (e.kind=5)) else(e,b,false)
def gK(y:ae):ae→List Int→ae
 |_,[]=>y
 | .mk k n ks,i::p=> .mk k n (ks.set i.toNat (gK y (ks.getD i.toNat cL) p))
def m8(t a:Int)(e:ae)(p:List Int)(y:ae):ae × Int:=
 if(nA e p false).2.2=false then(cL,2)
 else if(nA e p false).2.1=true∧cQ y=false then(cL,4)
 else if aY t a (gK y e p)=false then(cL,3)
 else(gK y e p,0)
theorem zr:∀(l:List ae) (i:Nat) (y:ae),i<l.length→aJ (l.set i y)+aj (l.getD i cL)=aJ l+aj y
 |[],i,y,h=>by simp at h
 |x::xs,0,y,h=>by simp only[List.set_cons_zero,aJ,List.getD_cons_zero];omega
 |x::xs,i+1,y,h=>by
  have:=zr xs i y (by simpa using h)
  simp only[List.set_cons_succ,aJ,List.getD_cons_succ]
  omega
theorem xW:∀(l:List ae) (i:Nat),aj (l.getD i cL)≤aJ l
 |[],i=>by simp[aj,aJ]
 |x::xs,0=>by simp only[aJ,List.getD_cons_zero];omega
 |x::xs,i+1=>by
  have:=xW xs i
  simp only[aJ,List.getD_cons_succ]
  omega
theorem yS(y:ae):∀(p:List Int) (e:ae),aj (gK y e p)≤aj e+aj y
 |[],e=>by simp only[gK];omega
 |i::p, .mk k n ks=>by
  have h1:=yS y p (ks.getD i.toNat cL)
  simp only[gK,aj]
  by_cases hi:i.toNat<ks.length
  ·have h2:=zr ks i.toNat (gK y (ks.getD i.toNat cL) p) hi
   omega
  ·rw[List.set_eq_of_length_le (by omega)]
   omega
structure Fit where
 t0:ae
 t1:ae
 t2:ae
 a0:ae
 a1:ae
 a2:ae
 a3:ae
def pq:Fit:=⟨cL,cL,cL,cL,cL,cL,cL⟩
def Fit.au(x:Fit):List ae:=[x.t0,x.t1,x.t2]
def Fit.c9(x:Fit):List ae:=[x.a0,x.a1,x.a2,x.a3]
noncomputable def ep(wS e:ae):Bool:=if wS.kind=0 then true else eqv wS e
def dL(wS e:ae):ae:=if wS.kind=0 then e else wS
noncomputable def vd(x:Fit)(n:Int)(e:ae):Bool × Fit:=
 if n=0 then(ep x.t0 e,{x with t0:=dL x.t0 e})
 else if n=1 then(ep x.t1 e,{x with t1:=dL x.t1 e})
 else(ep x.t2 e,{x with t2:=dL x.t2 e})
noncomputable def tc(x:Fit)(n:Int)(e:ae):Bool × Fit:=
 if n=0 then(ep x.a0 e,{x with a0:=dL x.a0 e})
 else if n=1 then(ep x.a1 e,{x with a1:=dL x.a1 e})
 else if n=2 then(ep x.a2 e,{x with a2:=dL x.a2 e})
 else(ep x.a3 e,{x with a3:=dL x.a3 e})
mutual
noncomputable def fM:ae→ae→Fit→Bool × Fit
 | .mk k n ks,e,x=>
   if k=3 then(if cQ e=true then vd x n e else(false,x))
   else if k=4 then tc x n e
   else if k=e.kind∧ks.length=e.kids.length then oQ ks e.kids x
   else(false,x)
noncomputable def oQ:List ae→List ae→Fit→Bool × Fit
 |p::ps,e::es,x=>if(fM p e x).1=true then oQ ps es (fM p e x).2 else(false,(fM p e x).2)
 |_,_,x=>(true,x)
end
def iI(x:ae):ae:=if x.kind=0 then I8 else x
mutual
def je(k m:Int):ae→Bool
 | .mk kd n ks=>decide (kd=k∧n=m)||yi k m ks
def yi(k m:Int):List ae→Bool
 |[]=>false
 |x::xs=>je k m x||yi k m xs
end
def ie(t a:Int)(e:ae)(ts us:List ae):ae × Bool:=((jP ts us e 200).1,decide (0≤(jP ts us e 200).2)&&aY t a (jP ts us e 200).1)
def wK(x:Fit)(e:ae):Bool:=
 decide (x.t0.kind=0)&&je 3 0 e||decide (x.t1.kind=0)&&je 3 1 e||decide (x.t2.kind=0)&&je 3 2 e||
 decide (x.a0.kind=0)&&je 4 0 e||decide (x.a1.kind=0)&&je 4 1 e||decide (x.a2.kind=0)&&je 4 2 e||decide (x.a3.kind=0)&&je 4 3 e
def eX(l:List ae)(n:Int):List ae:=(l.take n.toNat).map iI
noncomputable def vF(t a:Int)(e:ae)(use:Int)(back:Bool)(fr to:ae)(path:List Int)(node:ae):Option aB:=
 if(fM fr node pq).1=false then none
 else if wK (fM fr node pq).2 to=true then none
 else
  let ts:=eX (fM fr node pq).2.au (dm 3 fr (dm 3 to 0))
  let us:=eX (fM fr node pq).2.c9 (dm 4 fr (dm 4 to 0))
  if(ie t a to ts us).2=false then none
  else if(m8 t a e path (ie t a to ts us).1).2=0 then some ⟨use,back,path,ts,us⟩ else none
structure oy where
 out:List aB
 bad:Bool
def sa(s:oy):Option aB→oy
 |none=>s
 |some x=>if s.out.length≥300 then⟨s.out,true⟩ else⟨s.out++[x],s.bad⟩
noncomputable def LG(t a:Int)(ax:List bT)(e:ae)(path:List Int)(node:ae)(use:Nat)(s:oy):oy:=
 let q:=ax.getD use ⟨cL,cL⟩
 sa (sa s (vF t a e use false q.left q.right path node)) (vF t a e use true q.right q.left path node)
noncomputable def rr(t a:Int)(ax:List bT)(e:ae)(path:List Int)(node:ae):Nat→Nat→oy→oy
 |0,_,s=>s
 |m+1,use,s=>if s.bad=true then s else rr t a ax e path node m (use+1) (LG t a ax e path node use s)
mutual
noncomputable def jR(t a:Int)(ax:List bT)(e:ae):ae→List Int→oy→oy
 | .mk k n ks,path,s=>eP t a ax e ks path 0 (rr t a ax e path (.mk k n ks) ax.length 0 s)
noncomputable def eP(t a:Int)(ax:List bT)(e:ae):List ae→List Int→Nat→oy→oy
 |[],_,_,s=>s
 |x::xs,path,i,s=>if s.bad=true then s else eP t a ax e xs path (i+1) (jR t a ax e x (path++[(i:Int)]) s)
end
noncomputable def l4(t a:Int)(ax:List bT)(e:ae):oy:=jR t a ax e e [] ⟨[],false⟩
def jr(ax:List bT)(p:cx)(k use:Int):bT × Bool:=
 if use≥0 then(ax.getD use.toNat ⟨cL,cL⟩,true)
 else if-1-use≥k then(⟨cL,cL⟩,false)
 else if-1-use≥(p.ao.length:Nat) then(⟨cL,cL⟩,false)
 else(⟨(p.ao.getD (-1-use).toNat ⟨cL,cL,0,0,[]⟩).left,(p.ao.getD (-1-use).toNat ⟨cL,cL,0,0,[]⟩).right⟩,true)
noncomputable def fW(ax:List bT)(p:cx)(k:Int)(e:ae)(s:aB):ae × Int:=
 let q:=(jr ax p k s.use).1
 if(jr ax p k s.use).2=false then(cL,2)
 else if¬((s.au.length:Int)=kG q) then(cL,2)
 else if¬((s.c9.length:Int)=om q) then(cL,2)
 else if(nA e s.path false).2.2=false then(cL,2)
 else
  let x:=ie p.sig.au p.sig.ai q.left s.au s.c9
  let y:=ie p.sig.au p.sig.ai q.right s.au s.c9
  if x.2=false∨y.2=false then(cL,3)
  else
   let fr:=if s.back=true then y.1 else x.1
   let to:=if s.back=true then x.1 else y.1
   if eqv (nA e s.path false).1 fr=false then(cL,6)
   else m8 p.sig.au p.sig.ai e s.path to
end Go.Proofs.YtgbggaddpbghfaaGreat
namespace Go.Proofs.YtgbggaddpbghfaaGreat
open Go Go.KA Go.Proofs
set_option maxHeartbeats 16000000
set_option maxRecDepth 100000
theorem fv(x:ae):ag x=aI x:=a9 x
theorem kU{P:Program}{f:Nat}{args:List SV}{outs:List (Option (List CV))}{k n:Int}(h:ah P f args outs (.a 3 [J k,J n, .ows 66 3 []])):ah P f args outs (.a 3 (aI (.mk k n []))):=
 h.soft (.v (.a (.same (.same (.ro .nil)))))
section
variable(t:ByteArray)(hz:t.size≤100000)
include hz
theorem kM(s:iH):aD Tryz.prog 218 [.c (.rp 4 (gi t s))] (U8 (dc t s.at_)):=by
 have _:=hz
 obtain⟨i,d,b⟩:=s
 by_cases h:i<t.size
 ·rw[show dc t i=zH t i from if_pos h]
  refine cF Tryz.func218 (h:= ?_)
  repeat'((conv=>whnf);first
   |apply bh.mk
   |((first|apply bA|apply bB|apply bC|apply bD|apply bE|apply bF)<;>intro h<;>(try simp only[List.length_map] at h)<;>(try omega)<;>(try contradiction))
   |refine nB ?_
   |refine nO ?_)
  all_goals first|rfl|trivial
 ·rw[show dc t i=0 from if_neg h]
  refine cF Tryz.func218 (h:= ?_)
  repeat'((conv=>whnf);first
   |apply bh.mk
   |((first|apply bA|apply bB|apply bC|apply bD|apply bE|apply bF)<;>intro h<;>(try simp only[List.length_map] at h)<;>(try omega)<;>(try contradiction))
   |refine nB ?_)
  all_goals first|rfl|trivial
theorem mr(s:iH)(b:Nat)(h:s.at_≤t.size):ah Tryz.prog 227 [.c (.op (gi t s)),U8 b] [some [.op (gi t (dY t s b))],none] (.tup []):=by
 have hp:=kM t hz s
 obtain⟨i,d,c⟩:=s
 simp only[] at hp h
 obtain⟨R,hR⟩:∃R,dY t ⟨i,d,c⟩ b=R:=⟨_,rfl⟩
 rw[hR]
 unfold dY at hR
 simp only[] at hR
 generalize dc t i=p at hp hR
 by_cases hb:p=b
 ·rw[if_pos hb] at hR
  subst hR hb
  refine cX Tryz.func227 (h:= ?_)
  repeat'((conv=>whnf);first
   |refine aq.mk ?_ ?_
   |((first|apply bA|apply bB|apply bC|apply bD|apply bE|apply bF)<;>intro h<;>(try simp only[List.length_map] at h)<;>(try omega)<;>(try contradiction))|(guard_target=aa _ 218 _ _ _ _;refine cP rfl (hp) ?_)
   |refine aR ?_)
  all_goals first|rfl|exact⟨rfl,trivial⟩|trivial
 ·rw[if_neg hb] at hR
  subst hR
  refine ah.rG (?_:ah _ _ _ [some [.op [.val (.string t),J (i:Nat),J d, .cb true]],none] _) (.re (.op (.same (.same (.same (.cb .nil)))) .nil) (.same .nil))
  refine cX Tryz.func227 (h:= ?_)
  repeat'((conv=>whnf);first
   |refine aq.mk ?_ ?_
   |((first|apply bA|apply bB|apply bC|apply bD|apply bE|apply bF)<;>intro h<;>(try simp only[List.length_map] at h)<;>(try omega)<;>(try contradiction))|(guard_target=aa _ 218 _ _ _ _;refine cP rfl (hp) ?_))
  all_goals first|rfl|exact⟨rfl,trivial⟩|trivial
end
theorem wrap_u8'{z:Int}(h1:0≤z)(h2:z≤255):IntKind.u8.wrap z=z:=by
 simp only[IntKind.wrap,IntKind.bits,IntKind.signed,Bool.false_and]
 have:z % 2^8=z:=by omega
 simp only[this]
 simp
theorem JF{x:ByteArray}{i:Nat}{n:Int}(h:i<x.size)(h1:¬((zH x i:Nat):Int)<48)(h2:¬((zH x i:Nat):Int)>57):qW (x.data.toList.drop i) n=qW (x.data.toList.drop (i+1)) (n*10+((zH x i:Nat)-48)):=by
 rw[drop_cons h,qW,if_neg (show¬(x.data.toList.getD i 0).toNat<48 by unfold zH at h1;omega),if_neg (show¬57<(x.data.toList.getD i 0).toNat by unfold zH at h2;omega)]
 rfl
theorem O8{x:ByteArray}{i:Nat}{n:Int}(h:i<x.size)(h1:((zH x i:Nat):Int)<48):qW (x.data.toList.drop i) n=(0,false):=by
 rw[drop_cons h,qW,if_pos (show(x.data.toList.getD i 0).toNat<48 by unfold zH at h1;omega)]
theorem O9{x:ByteArray}{i:Nat}{n:Int}(h:i<x.size)(h1:((zH x i:Nat):Int)>57):qW (x.data.toList.drop i) n=(0,false):=by
 rw[drop_cons h,qW]
 split
 ·rfl
 ·rw[if_pos (show 57<(x.data.toList.getD i 0).toNat by unfold zH at h1;omega)]
theorem M8{x:ByteArray}{i:Nat}{n:Int}(h:¬i<x.size):qW (x.data.toList.drop i) n=(n,true):=by
 rw[List.drop_of_length_le (by rw[tV];omega)]
 rfl
theorem Jy{n:Int}{i:Nat}{b:Int}(h0:0≤n)(h1:n<10^i)(h2:0≤b)(h3:b≤9):0≤n*10+b∧n*10+b<10^(i+1):=by
 rw[Int.pow_succ]
 omega
theorem H4{i:Nat}(h:i≤9):(10:Int)^i≤1000000000:=by
 have:((10:Nat)^i:Nat)≤10^9:=Nat.pow_le_pow_right (by omega) h
 have e:((10:Int)^i)=(((10:Nat)^i:Nat):Int):=by rw[Int.natCast_pow];rfl
 rw[e]
 omega
theorem rQ(x:ByteArray):aD Tryz.prog 226 [G3 x] (.tup [I (IY x).1,B (IY x).2]):=by
 obtain⟨R,hR⟩:∃R,IY x=R:=⟨_,rfl⟩
 rw[hR]
 unfold IY at hR
 by_cases h1:x.size<1
 ·rw[if_pos h1] at hR
  subst hR
  refine cF Tryz.func226 (h:= ?_)
  repeat'((conv=>whnf);first
   |apply bh.mk
   |((first|apply bA|apply bB|apply bC|apply bD|apply bE|apply bF)<;>intro h<;>(try simp only[List.length_map] at h)<;>(try omega)<;>(try contradiction)))
  all_goals first|rfl|trivial
 rw[if_neg h1] at hR
 by_cases h2:x.size>9
 ·rw[if_pos h2] at hR
  subst hR
  refine cF Tryz.func226 (h:= ?_)
  repeat'((conv=>whnf);first
   |apply bh.mk
   |((first|apply bA|apply bB|apply bC|apply bD|apply bE|apply bF)<;>intro h<;>(try simp only[List.length_map] at h)<;>(try omega)<;>(try contradiction)))
  all_goals first|rfl|trivial
 rw[if_neg h2] at hR
 by_cases h3:zH x 0=48∧x.size>1
 ·rw[if_pos h3] at hR
  subst hR
  have h30:((x.data.toList.getD (Int.toNat 0) 0).toNat:Int)=48:=by have:=h3.1;show((zH x 0:Nat):Int)=48;omega
  refine cF Tryz.func226 (h:= ?_)
  repeat'((conv=>whnf);first
   |apply bh.mk
   |((first|apply bA|apply bB|apply bC|apply bD|apply bE|apply bF)<;>intro h<;>(try simp only[List.length_map] at h)<;>(try omega)<;>(try contradiction))|(guard_target=aV _ _;refine aV.mk (by first|((constructor<;>omega))|fail) ?_))
  all_goals first|rfl|trivial
 rw[if_neg h3] at hR
 have hb:∀i,0≤((zH x i:Nat):Int)∧((zH x i:Nat):Int)≤255:=fun i=>by have:=N8 x i;omega
 have h30:((x.data.toList.getD (Int.toNat 0) 0).toNat:Int)=48→¬1<x.size:=fun h h'=>h3 ⟨by have h:((zH x 0:Nat):Int)=48:=h;omega,h'⟩
 subst hR
 refine cF Tryz.func226 (h:= ?_)
 repeat'((conv=>whnf);first
  |(apply bh.mk;first|((rw[←ha.2.1,O8 (by omega) (by assumption)];rfl);done)|((rw[←ha.2.1,O9 (by omega) (by assumption)];rfl);done)|((rw[←ha.2.1,M8 (by omega)];rfl);done)|skip)|(guard_target=~ aK 5 _ _ _ _ _ _;refine lp (Int × Nat) [0] (fun⟨n,i⟩=>[(4,I n),(5,I (i:Nat))]) (fun⟨n,i⟩=>i≤x.size∧qW (x.data.toList.drop i) n=qW x.data.toList 0∧0≤n∧n<10^i) (fun⟨n,i⟩=>x.size-i) (0,0) (by exact⟨Nat.zero_le _,rfl,Int.le_refl _,by decide⟩) (fun A ha=> ?_);obtain⟨n,i⟩:=A;have ha:i≤x.size∧qW (x.data.toList.drop i) n=qW x.data.toList 0∧0≤n∧n<10^i:=ha;have h10:=H4 (i:=i) (by omega);have hbi:0≤((x.data.toList.getD (Int.toNat (i:Nat)) 0).toNat:Int)∧((x.data.toList.getD (Int.toNat (i:Nat)) 0).toNat:Int)≤255:=hb i)
  |refine nx ((n*10+(((zH x i:Nat):Int)-48),i+1):Int × Nat) (by exact⟨by show i+1≤_;omega,by show qW _ _=_;rw[←ha.2.1];exact(JF (by omega) (by assumption) (by assumption)).symm,Jy ha.2.2.1 ha.2.2.2 (show 0≤((x.data.toList.getD (Int.toNat (i:Nat)) 0).toNat:Int)-48 by omega) (show((x.data.toList.getD (Int.toNat (i:Nat)) 0).toNat:Int)-48≤9 by omega)⟩)
  |((first|apply bA|apply bB|apply bC|apply bD|apply bE|apply bF)<;>intro h<;>(try simp only[List.length_map] at h)<;>(try omega)<;>(try contradiction))|(guard_target=Arith .u8 _ _;refine Arith.fit (wrap_u8' (by omega) (by omega)) ?_)|(guard_target=Arith _ _ _;refine Arith.fit (aP (by omega) (by omega)) ?_)|(guard_target=aV _ _;refine aV.mk (by first|((constructor<;>omega))|fail) ?_))
 all_goals first|rfl|trivial
end Go.Proofs.YtgbggaddpbghfaaGreat
namespace Go.Proofs.YtgbggaddpbghfaaGreat
open Go Go.KA Go.Proofs
set_option maxHeartbeats 16000000
set_option maxRecDepth 100000
section
variable(t:ByteArray)(hz:t.size≤100000)
include hz
theorem L6(i:Nat)(d:Int)(hi:i<t.size):ah Tryz.prog 221 [.c (.op (gi t ⟨i,d,false⟩))] [some [.op (gi t (qz t ⟨i,d,false⟩).2)]] (.a 3 (aI (qz t ⟨i,d,false⟩).1)):=by
 have hp:=fun j=>kM t hz ⟨j,d,false⟩
 have hn:=fun j=>rQ (t.extract (i+1) j)
 have hd:=Eu (t:=t) (i:=i+1) (by omega)
 simp only[qz,Bool.false_or]
 refine kU ?_
 obtain⟨k,hk⟩:∃k:Int,(if dc t i=97 then(4:Int) else 3)=k:=⟨_,rfl⟩
 rw[hk]
 simp only[] at hp
 have hpi:=hp i
 generalize dc t i=p0 at hpi hk
 by_cases h97:p0=97
 ·rw[if_pos h97] at hk
  subst h97 hk
  refine cX Tryz.func221 (h:= ?_)
  repeat'((conv=>whnf);first
   |(guard_target=aq _ _;(obtain rfl:j=eg t (i+1):=(by have:=ta (t:=t) (i:=j) (by omega);omega));exact aq.mk rfl ⟨rfl,trivial⟩)|(guard_target=~ aK 6 _ _ _ _ _ _;refine l8 (Nat) [0,2,3,4] (fun j=>[]) (fun j=>[(0, .cc 4 (gi t ⟨j,d,false⟩))]) (fun j=>i+1≤j∧j≤t.size∧eg t j=eg t (i+1)) (fun j=>t.size+1-j) (i+1) (by exact⟨Nat.le_refl _,by omega,rfl⟩) (fun j ha=> ?_))
   |refine rL (j+1:Nat) (by exact⟨by show i+1≤j+1;omega,by have:=dC (t:=t) (i:=j) (by omega);show j+1≤_;omega,by show eg t (j+1)=_;rw[←ha.2.2];exact(sN (by omega) (by omega)).symm⟩)
   |((first|apply bA|apply bB|apply bC|apply bD|apply bE|apply bF)<;>intro h<;>(try simp only[List.length_map] at h)<;>(try omega)<;>(try contradiction))|(guard_target=aa _ 218 _ _ _ _;refine cP rfl (hpi) ?_)|(guard_target=aa _ 218 _ _ _ _;refine cP rfl (hp j) ?_)|(guard_target=aa _ 226 _ _ _ _;refine cP rfl (hn j) ?_)
   |refine aR ?_
   |refine nB ?_
   |refine nO ?_)
  all_goals first|rfl|exact⟨rfl,trivial⟩|trivial
 ·rw[if_neg h97] at hk
  subst hk
  refine cX Tryz.func221 (h:= ?_)
  repeat'((conv=>whnf);first
   |(guard_target=aq _ _;(obtain rfl:j=eg t (i+1):=(by have:=ta (t:=t) (i:=j) (by omega);omega));exact aq.mk rfl ⟨rfl,trivial⟩)|(guard_target=~ aK 6 _ _ _ _ _ _;refine l8 (Nat) [0,2,3,4] (fun j=>[]) (fun j=>[(0, .cc 4 (gi t ⟨j,d,false⟩))]) (fun j=>i+1≤j∧j≤t.size∧eg t j=eg t (i+1)) (fun j=>t.size+1-j) (i+1) (by exact⟨Nat.le_refl _,by omega,rfl⟩) (fun j ha=> ?_))
   |refine rL (j+1:Nat) (by exact⟨by show i+1≤j+1;omega,by have:=dC (t:=t) (i:=j) (by omega);show j+1≤_;omega,by show eg t (j+1)=_;rw[←ha.2.2];exact(sN (by omega) (by omega)).symm⟩)
   |((first|apply bA|apply bB|apply bC|apply bD|apply bE|apply bF)<;>intro h<;>(try simp only[List.length_map] at h)<;>(try omega)<;>(try contradiction))|(guard_target=aa _ 218 _ _ _ _;refine cP rfl (hpi) ?_)|(guard_target=aa _ 218 _ _ _ _;refine cP rfl (hp j) ?_)|(guard_target=aa _ 226 _ _ _ _;refine cP rfl (hn j) ?_)
   |refine aR ?_
   |refine nB ?_
   |refine nO ?_)
  all_goals first|rfl|exact⟨rfl,trivial⟩|trivial
theorem Mr(f:iH→ae × iH)(d0:Int)(h0:0≤d0)(h1:d0≤100)(hf:∀s:iH,0≤s.deep→s.deep≤101→(s.bad=false→s.deep≤100)→s.at_≤t.size→rW t s (f s).1 (f s).2 (if s.bad=true then s.deep+1 else 101))
 (hE:∀s:iH,0≤s.deep→s.deep≤101→(s.bad=false→s.deep=d0)→s.at_≤t.size→ah Tryz.prog 209 [.c (.op (gi t s))] [some [.op (gi t (f s).2)]] (.a 3 (aI (f s).1)))
 (i:Nat)(hi:i≤t.size)(h3:dc t i=40):ah Tryz.prog 222 [.c (.op (gi t ⟨i,d0,false⟩))] [some [.op (gi t (jc t f ⟨i,d0,false⟩).2)]] (.a 3 (aI (jc t f ⟨i,d0,false⟩).1)):=by
 have hs:=dC (t:=t) (i:=i) (by omega)
 have e1:dY t ⟨i,d0,false⟩ 40=⟨i+1,d0,false⟩:=if_pos h3
 have c1:=mr t hz ⟨i,d0,false⟩ 40 hi
 rw[e1] at c1
 have a1:=hf ⟨i+1,d0,false⟩ h0 (by simp only[];omega) (fun _=>h1) (by simp only[];omega)
 have c2:=hE ⟨i+1,d0,false⟩ h0 (by simp only[];omega) (fun _=>rfl) (by simp only[];omega)
 unfold jc
 rw[e1]
 simp only[]
 generalize f ⟨i+1,d0,false⟩=A at a1 c2⊢
 obtain⟨⟨ak,an,aks⟩,s1⟩:=A
 obtain⟨p1,p2,p3,p4,p5,p6⟩:=a1
 simp only[Bool.false_eq_true,if_false] at p1 p2 p3 p4 p5 p6 c2⊢
 obtain⟨q1,q2,q3,q4⟩:=oF (t:=t) (s:=s1) (b:=32) (by omega) p1
 have c3:=mr t hz s1 32 p1
 have c4:=kM t hz (dY t s1 32)
 obtain⟨r1,r2,r3,r4⟩:=wM (t:=t) (s:=dY t s1 32) q1
 have hT:∀s3:iH,s3.at_≤t.size→ah Tryz.prog 227 [.c (.op (gi t s3)),U8 41] [some [.op (gi t (dY t s3 41))],none] (.tup []):=fun s3 h=>mr t hz s3 41 h
 have fin:∀(K:Int × iH),K.2.at_≤t.size→K.2.deep=(dY t s1 32).deep→(K.2.bad=false→(dY t s1 32).bad=false)→rW t K.2 (f K.2).1 (f K.2).2 (if K.2.bad=true then K.2.deep+1 else 101)∧ah Tryz.prog 209 [.c (.op (gi t K.2))] [some [.op (gi t (f K.2).2)]] (.a 3 (aI (f K.2).1)):=by
  intro K k1 k2 k3
  exact⟨hf K.2 (by omega) (by omega) (fun k=>by have:=(p3 (q4 (k3 k))).2;omega) k1,hE K.2 (by omega) (by omega) (fun k=>by have:=(p3 (q4 (k3 k))).2;omega) k1⟩
 obtain⟨g1,g2⟩:=fin _ r1 r3 r4
 clear fin hE hf
 have soft:∀{k:Int} {b:ae} {s':iH},ah Tryz.prog 222 [.c (.op (gi t ⟨i,d0,false⟩))] [some [.op (gi t s')]] (.a 3 [J k,J 0, .ows 66 3 [aI (.mk ak an aks),aI b]])→ah Tryz.prog 222 [.c (.op (gi t ⟨i,d0,false⟩))] [some [.op (gi t s')]] (.a 3 (aI (.mk k 0 [.mk ak an aks,b]))):=by
  intro k b s' h
  have e:aI (.mk k 0 [.mk ak an aks,b])=[J k,J 0, .ro 3 [aI (.mk ak an aks),aI b]]:=by rw[←fv (.mk ak an aks),←fv b];rfl
  rw[e]
  exact h.soft (.v (.a (.same (.same (.ro .nil)))))
 generalize hs2:dY t s1 32=s2 at*
 obtain⟨j2,d2,b2⟩:=s2
 simp only[] at*
 by_cases h43:dc t j2=43
 ·have hj2:=dC (t:=t) (i:=j2) (by omega)
  have e2:oR t ⟨j2,d2,b2⟩=(6,dY t ⟨j2+1,d2,b2⟩ 32):=if_pos h43
  have c5:=mr t hz ⟨j2+1,d2,b2⟩ 32 (by simp only[];omega)
  rw[e2] at g1 g2⊢
  rw[h43] at c4
  simp only[] at g1 g2⊢
  generalize dY t ⟨j2+1,d2,b2⟩ 32=s3 at*
  obtain⟨j3,d3,b3⟩:=s3
  generalize f ⟨j3,d3,b3⟩=Bb at*
  obtain⟨⟨bk,bn,bks⟩,s4⟩:=Bb
  have c6:=hT s4 g1.size
  obtain⟨j4,d4,b4⟩:=s4
  simp only[] at*
  generalize dY t ⟨j4,d4,b4⟩ 41=s5 at*
  obtain⟨j5,d5,b5⟩:=s5
  refine soft ?_
  refine cX Tryz.func222 (h:= ?_)
  repeat'((conv=>whnf);first
   |refine aq.mk ?_ ?_
   |((first|apply bA|apply bB|apply bC|apply bD|apply bE|apply bF)<;>intro h<;>(try simp only[List.length_map] at h)<;>(try omega)<;>(try contradiction))|(guard_target=aa _ 227 _ _ _ _;refine cG [true,false] rfl (c1) ?_)|(guard_target=aa _ 209 _ _ _ _;refine cG [true] rfl (c2) ?_)|(guard_target=aa _ 227 _ _ _ _;refine cG [true,false] rfl (c3) ?_)|(guard_target=aa _ 218 _ _ _ _;refine cP rfl (c4) ?_)|(guard_target=aa _ 227 _ _ _ _;refine cG [true,false] rfl (c5) ?_)|(guard_target=aa _ 209 _ _ _ _;refine cG [true] rfl (g2) ?_)|(guard_target=aa _ 227 _ _ _ _;refine cG [true,false] rfl (c6) ?_)
   |refine aR ?_)
  all_goals first|rfl|exact⟨rfl,trivial⟩|trivial
 ·have e2:oR t ⟨j2,d2,b2⟩=(7,⟨j2,d2,b2⟩):=if_neg h43
  rw[e2] at g1 g2⊢
  simp only[] at g1 g2⊢
  generalize dc t j2=p at*
  generalize f ⟨j2,d2,b2⟩=Bb at*
  obtain⟨⟨bk,bn,bks⟩,s4⟩:=Bb
  have c6:=hT s4 g1.size
  obtain⟨j4,d4,b4⟩:=s4
  simp only[] at*
  generalize dY t ⟨j4,d4,b4⟩ 41=s5 at*
  obtain⟨j5,d5,b5⟩:=s5
  refine soft ?_
  refine cX Tryz.func222 (h:= ?_)
  repeat'((conv=>whnf);first
   |refine aq.mk ?_ ?_
   |((first|apply bA|apply bB|apply bC|apply bD|apply bE|apply bF)<;>intro h<;>(try simp only[List.length_map] at h)<;>(try omega)<;>(try contradiction))|(guard_target=aa _ 227 _ _ _ _;refine cG [true,false] rfl (c1) ?_)|(guard_target=aa _ 209 _ _ _ _;refine cG [true] rfl (c2) ?_)|(guard_target=aa _ 227 _ _ _ _;refine cG [true,false] rfl (c3) ?_)|(guard_target=aa _ 218 _ _ _ _;refine cP rfl (c4) ?_)|(guard_target=aa _ 209 _ _ _ _;refine cG [true] rfl (g2) ?_)|(guard_target=aa _ 227 _ _ _ _;refine cG [true,false] rfl (c6) ?_))
  all_goals first|rfl|exact⟨rfl,trivial⟩|trivial
end
end Go.Proofs.YtgbggaddpbghfaaGreat
