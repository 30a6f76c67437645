/- Contracts of the reference's draw of steps and of a last claim; the proof is lent and stays as it is. Conditions: valid claims, bounds of what has been read. -/
import Derived.Test.YtgbggaddpbghfaaGreatKAR
namespace Go.Proofs.YtgbggaddpbghfaaGreat
open Go Go.KA Go.Proofs
set_option maxHeartbeats 16000000
set_option maxRecDepth 100000
theorem tO(l:List bm):cW (l.map aH)=l.map aH:=bQ (fun _=>rfl) l
noncomputable def jZ(p:cx)(most:Nat)(s:Src)(e:ae):List aB × ae × Src:=iQ p (bK s ((most:Nat)+1)).toNat (ar s ((most:Nat)+1)) e []
theorem BF(s:Src)(most:Nat):(bK s ((most:Nat)+1)).toNat≤most:=by
 have h:=ch s (n:=((most:Nat):Int)+1) (by omega)
 omega
theorem HO{p:cx}{most:Nat}{s:Src}{N:Int}(h:iP s N)(e:ae):iP (jZ p most s e).2.2 (N+2+2*most):=by
 have h1:=BF s most
 exact(zj p _ _ e [] _ (h.pick _)).mono (by omega)
theorem Ce{p:cx}{most:Nat}{s:Src}{e:ae}(he:aY p.sig.au p.sig.ai e=true):aY p.sig.au p.sig.ai (jZ p most s e).2.1=true∧(∀x∈(jZ p most s e).1,iZ p.sig.au p.sig.ai x)∧(jZ p most s e).1.length≤most:=by
 have h1:=BF s most
 have h:=vm p (bK s ((most:Nat)+1)).toNat (ar s ((most:Nat)+1)) e [] he (by simp)
 exact⟨h.1,h.2.1,by have:=h.2.2;simp only[List.length_nil] at this;exact Nat.le_trans this (by omega)⟩
theorem HX{t a:Int}(x:ae):(l4 t a iD x).out.length≤300:=q8 t a iD x x [] ⟨[],false⟩ (by simp)
section
variable{t a:Int}(hs:bO t a=true)(hg:0≤t∧t≤3∧0≤a∧a≤4)
include hs
theorem te(cl:List bm){e:ae}(he:aY t a e=true)(most:Nat)(hm9:most≤1000){s:Src}{N:Int}(hS:iP s N)(hN:N≤500000000)(u:Value):
 ah Tryz.prog 169 [.c (.op (c8 s)), .c (.op [J t,J a, .eW u 104 9 (cl.map aH)]), .a 3 (su e),I (most:Nat)] [some [.op (c8 (jZ ⟨⟨t,a⟩,cl⟩ most s e).2.2)],some [.op [J t,J a, .eW u 104 9 (cl.map aH)]],none,none] (.tup [.c (.own 156 5 ((jZ ⟨⟨t,a⟩,cl⟩ most s e).1.map aW)), .a 3 (bN (jZ ⟨⟨t,a⟩,cl⟩ most s e).2.1)]):=by
 have hbd:∀{st:aB},iZ t a st→(∀x∈st.au,aj x≤200)∧∀x∈st.c9,aj x≤200:=fun h=>⟨fun x hx=>dw ((jj h.1).1 x hx),fun x hx=>dw ((jj h.1).2 x hx)⟩
 refine Df (F:=iQ ⟨⟨t,a⟩,cl⟩) (fB:=fun x=>(l4 t a iD x).bad) (fL:=fun x=>(l4 t a iD x).out) (aX:=fun x st=>(fW iD ⟨⟨t,a⟩,cl⟩ 0 x st).1) (aC:=fun x st=>(fW iD ⟨⟨t,a⟩,cl⟩ 0 x st).2) hm9 hN hS he ?_ (fun x hx=> ?_) (fun x st hx hst=> ?_) (fun x st hx hst hc=> ?_) (fun x hx=>Gx hx) (fun x=>HX x) (fun x st hc=>sc (p:=⟨⟨t,a⟩,cl⟩) hc) (fun _ _ _=>rfl) (fun i s x o h=> ?_) (fun i s x o h1 h2 h3=> ?_) (fun i s x o h1 h2 h3=> ?_) rfl
 ·have h:=eu e (by have:=dw he;omega)
  rwa[fv,pX] at h
 ·have h:=Ka hs x (dw hx)
  rwa[pX] at h
 ·have h:=rS ⟨⟨t,a⟩,cl⟩ hs 0 x (dw hx) st (.inl (ux hst)) (fun _=>zh (ux hst).1 (ux hst).2 0) (hbd hst).1 (hbd hst).2
  rw[pX,Nb] at h
  rw[tO]
  exact h
 ·have h:=Aq (fW iD ⟨⟨t,a⟩,cl⟩ 0 x st).1 (by have:=(gp.1 (sc (p:=⟨⟨t,a⟩,cl⟩) hc)).1;omega)
  rwa[pX] at h
 ·show iQ _ (i+1) s x o=_
  rw[iQ]
  exact if_pos h
 ·show iQ _ (i+1) s x o=_
  rw[iQ,if_neg (by simp only[not_or];exact⟨by simpa using h1,h2⟩)]
  exact if_neg h3
 ·show iQ _ (i+1) s x o=_
  rw[iQ,if_neg (by simp only[not_or];exact⟨by simpa using h1,h2⟩)]
  exact if_pos h3
include hg
omit hs in
theorem DJ{e:ae}(h:aY t a e=true):kO e=true:=kY hg.2.1 hg.2.2.2 (gD e (gp.1 h).2.2)
omit hs in
theorem MV{l r:ae}(h1:aY t a l=true)(h2:aY t a r=true):(0≤kG ⟨l,r⟩∧kG ⟨l,r⟩≤3)∧0≤om ⟨l,r⟩∧om ⟨l,r⟩≤4:=by
 have a1:=fI (gD l (gp.1 h1).2.2) 0
 have a2:=fI (gD r (gp.1 h2).2.2) (dm 3 l 0)
 have a3:=fI (gD r (gp.1 h2).2.2) (dm 4 l 0)
 have b1:=a1.1 hg.1
 have b2:=a1.2.1 hg.2.2.1
 have b3:=a2.1 b1
 have b4:=a3.2.1 b2
 unfold kG om
 simp only[]
 have:=a1.2.2.1
 have:=a1.2.2.2
 have:=a2.2.2.1
 have:=a3.2.2.2
 exact⟨⟨by omega,by omega⟩,by omega,by omega⟩
theorem Cq{s:Src}{N:Int}(hS:iP s N)(hN:N≤400000000)(u:Value)(cl:List bm)(hcl:∀c∈cl,aY t a c.left=true∧aY t a c.right=true)(hn:cl.length≤39):
 ∃c s',cq t a c=true∧c.kg=1∧c.steps.length≤2∧iP s' (N+200000)∧ah Tryz.prog 138 [.c (.op (c8 s)), .c (.op [J t,J a, .eW u 104 9 (cl.map aH)])] [some [.op (c8 s')],some [.op [J t,J a, .eW u 104 9 (cl.map aH)]]] (.a 9 (aH c)):=by
 have hlen:(cl.map aH).length=cl.length:=List.length_map _
 have h1:=hS.pick 2
 have h2:=h1.pick (((cl.map aH).length:Nat):Int)
 obtain⟨C,hC,hCg⟩:∃C:bm,(0<(cl.map aH).length→(cl.map aH)[(bK (ar s 2) ((cl.map aH).length:Nat)).toNat]? =some (aH C))∧aY t a C.left=true∧aY t a C.right=true:=by
  by_cases h:0<cl.length
  ·have hi:=ch (ar s 2) (n:=((cl.map aH).length:Nat)) (by omega)
   refine⟨cl.getD (bK (ar s 2) ((cl.map aH).length:Nat)).toNat c0,fun _=>aF (by omega),hcl _ ?_⟩
   rw[getD_eq (by omega)]
   exact List.getElem_mem _
  ·exact⟨⟨.mk 2 0 [], .mk 2 0 [],1,0,[]⟩,fun h'=>absurd (hlen▸h') h,oI t a,oI t a⟩
 have hF:=MV hg hCg.1 hCg.2
 have lL:=DJ hg hCg.1
 have lR:=DJ hg hCg.2
 have cd:=vy hs hg h2 (by omega) hF.1 hF.2 (xA ⟨C.left,C.right⟩ lL lR)
 have t1:=rJ t a (ar (ar s 2) ((cl.map aH).length:Nat)) (kG ⟨C.left,C.right⟩).toNat
 have t2:=uT t a (ar (ar s 2) ((cl.map aH).length:Nat)) (kG ⟨C.left,C.right⟩).toNat
 have t3:=uN t a (ar (ar s 2) ((cl.map aH).length:Nat)) (kG ⟨C.left,C.right⟩).toNat
 have t4:=qe (t:=t) (a:=a) h2 (kG ⟨C.left,C.right⟩).toNat
 have a1:=uy t a (eC t a (ar (ar s 2) ((cl.map aH).length:Nat)) (kG ⟨C.left,C.right⟩).toNat).2 (om ⟨C.left,C.right⟩).toNat
 have a2:=xS t a (eC t a (ar (ar s 2) ((cl.map aH).length:Nat)) (kG ⟨C.left,C.right⟩).toNat).2 (om ⟨C.left,C.right⟩).toNat
 have a3:=wC (t:=t) (a:=a) t4 (om ⟨C.left,C.right⟩).toNat
 unfold wR at cd
 simp only[] at cd
 generalize lD t a (eC t a (ar (ar s 2) ((cl.map aH).length:Nat)) (kG ⟨C.left,C.right⟩).toNat).2 (om ⟨C.left,C.right⟩).toNat=A at cd a1 a2 a3
 generalize eC t a (ar (ar s 2) ((cl.map aH).length:Nat)) (kG ⟨C.left,C.right⟩).toNat=T at cd t1 t2 t3 t4
 obtain⟨us,s3⟩:=A
 obtain⟨ts,s2'⟩:=T
 simp only[] at cd a1 a2 a3 t1 t2 t3 t4
 have bt:∀x∈ts,aj x≤200:=fun x hx=>dw (t2 x hx)
 have ba:∀x∈us,aj x≤200:=fun x hx=>dw (a2 x hx)
 have hS3:iP s3 (N+100000):=a3.mono (by omega)
 have cs1:=(lM bt ba t a hs C.left lL (by have:=(gp.1 hCg.1).1;omega)).cut (.same (jG.cut (sz:=6) (k:=3) (cs:=[J C.left.kind,J C.left.num, .ro 3 (C.left.kids.map ag),J C.right.kind,J C.right.num, .ro 3 (C.right.kids.map ag)]) (by decide) (jG.refl _)))
 have cs2:=lM bt ba t a hs C.right lR (by have:=(gp.1 hCg.2).1;omega)
 rw[←bQ eM ts,←bQ eM us] at cs1 cs2
 have gX:∀{x:ae},(ie t a x ts us).2=true→aY t a (ie t a x ts us).1=true:=fun h=>by
  unfold ie at h⊢
  simp only[Bool.and_eq_true] at h
  exact h.2
 have hz:∀z,(z=s∨z=ar s 2∨z=s3)→iP z (N+100000):=by
  rintro z (rfl|rfl|rfl)
  ·exact hS.mono (by omega)
  ·exact h1.mono (by omega)
  ·exact hS3
 have he:∀z,(z=s∨z=ar s 2∨z=s3)→iP (bo ⟨t,a⟩ 6 false ⟨z,5⟩).2.s (N+120000):=fun z h=>by
  have:=wT
  exact((hz z h).expr ⟨t,a⟩ 6 false 5).mono (by omega)
 have core:=fun r sF=>EN (r:=r) (sF:=sF) (rows:=cl.map aH) (u:=u) (L:=C.left) (R:=C.right) (ru:=C.kg) (rf:=C.ref) (st:=C.steps.map bP) (ts:=ts) (us:=us) (ev:=fun z=>(bo ⟨t,a⟩ 6 false ⟨z,5⟩).1) (es:=fun z=>(bo ⟨t,a⟩ 6 false ⟨z,5⟩).2.s)
  (gS:=fun z=>(jZ ⟨⟨t,a⟩,cl⟩ 2 (bo ⟨t,a⟩ 6 false ⟨z,5⟩).2.s (bo ⟨t,a⟩ 6 false ⟨z,5⟩).1).1) (gT:=fun z=>(jZ ⟨⟨t,a⟩,cl⟩ 2 (bo ⟨t,a⟩ 6 false ⟨z,5⟩).2.s (bo ⟨t,a⟩ 6 false ⟨z,5⟩).1).2.1) (gs:=fun z=>(jZ ⟨⟨t,a⟩,cl⟩ 2 (bo ⟨t,a⟩ 6 false ⟨z,5⟩).2.s (bo ⟨t,a⟩ 6 false ⟨z,5⟩).1).2.2)
  (by omega) (iA s (hS.rd.mono (by omega)) hS.len 2 (by unfold jI;omega)) (cV (ar s 2) (h1.rd.mono (by omega)) h1.len ((cl.map aH).length:Nat) (by unfold jI;omega)) (fun h=>ch _ (by omega)) hC cd cs1 cs2
  (fun z h=>sD ⟨t,a⟩ hg z ((hz z h).rd.mono (by omega)) (hz z h).len 5 (by decide)) (fun z h=>te hs cl (lh t a _ _) 2 (by decide) (he z h) (by omega) u)
 by_cases hA:0<(cl.map aH).length∧jf s 2=true∧(ie t a C.left ts us).2=true∧(ie t a C.right ts us).2=true
 ·obtain⟨k1,k2,k3,k4⟩:=hA
  have hi:=ch (ar s 2) (n:=((cl.map aH).length:Nat)) (by omega)
  refine⟨⟨(ie t a C.left ts us).1,(ie t a C.right ts us).1,1,0,[⟨-1-bK (ar s 2) ((cl.map aH).length:Nat),false,[],ts,us⟩]⟩,s3, ?_,rfl,by simp,hS3.mono (by omega), ?_⟩
  ·have hst:cU t a ⟨-1-bK (ar s 2) ((cl.map aH).length:Nat),false,[],ts,us⟩=true:=by
        simp only[cU,Bool.and_eq_true,decide_eq_true_eq,List.all_eq_true]
        exact⟨eL (by omega) (by omega),by simp,by simp,by omega,by omega,t2,t3,a2⟩
   simp only[cq,Bool.and_eq_true,decide_eq_true_eq,List.all_eq_true]
   exact⟨gX k3,gX k4,rfl,rfl,by simp,rfl,by simpa using hst⟩
  ·have h:=core _ s3 (fun _ _ _ _=>⟨rfl,rfl⟩) (fun z h _ _=>by
        have:=(h k1 k2).1
        rw[k3,k4] at this
        exact absurd this (by decide))
   have h:=h.soft (.v (.a (.same (.same (.ro (.same (.same (.ro (.same (.same (.ro .nil)))))))))))
   have e:∀X Y:ae,∀sr:List (List CV),∀S:List aB,cW sr=S.map bP→[J X.kind,J X.num,l5 (.own 66 3 (X.kids.map ay)),J Y.kind,J Y.num,l5 (.own 66 3 (Y.kids.map ay)),J 1,J 0,l5 (.own 156 5 sr)]=aH ⟨X,Y,1,0,S⟩:=by
        intro X Y sr S hS
        simp only[l5,bQ eM,hS]
        rfl
   rw[e _ _ _ [⟨-1-bK (ar s 2) ((cl.map aH).length:Nat),false,[],ts,us⟩] (by simp only[cW,nr,l5,bQ eM];rfl)] at h
   exact h
 ·obtain⟨z,hz0,q1,q2,q3⟩:∃z,(z=s∨z=ar s 2∨z=s3)∧(0<(cl.map aH).length→jf s 2=true→z=s3)∧(0<(cl.map aH).length→jf s 2=false→z=ar s 2)∧(¬0<(cl.map aH).length→z=s):=by
   by_cases k1:0<(cl.map aH).length
   ·cases k2:jf s 2 with
    |true=>exact⟨s3, .inr (.inr rfl),fun _ _=>rfl,fun _ h=>(by cases h),fun h=>absurd k1 h⟩
    |false=>exact⟨ar s 2, .inr (.inl rfl),fun _ h=>(by cases h),fun _ _=>rfl,fun h=>absurd k1 h⟩
   ·exact⟨s, .inl rfl,fun h=>absurd h k1,fun h=>absurd h k1,fun _=>rfl⟩
  have hG:=Ce (p:=⟨⟨t,a⟩,cl⟩) (most:=2) (s:=(bo ⟨t,a⟩ 6 false ⟨z,5⟩).2.s) (e:=(bo ⟨t,a⟩ 6 false ⟨z,5⟩).1) (lh t a _ _)
  have hO:=HO (p:=⟨⟨t,a⟩,cl⟩) (most:=2) (he z hz0) (bo ⟨t,a⟩ 6 false ⟨z,5⟩).1
  have h:=core _ (jZ ⟨⟨t,a⟩,cl⟩ 2 (bo ⟨t,a⟩ 6 false ⟨z,5⟩).2.s (bo ⟨t,a⟩ 6 false ⟨z,5⟩).1).2.2 (fun b1 b2 b3 b4=>absurd ⟨b1,b2,b3,b4⟩ hA) (fun z' p1 p2 p3=>by
   have hzz:z'=z:=by
        by_cases k1:0<(cl.map aH).length
        ·cases k2:jf s 2 with
         |true=>rw[(p1 k1 k2).2,q1 k1 k2]
         |false=>rw[p2 k1 k2,q2 k1 k2]
        ·rw[p3 k1,q3 k1]
   subst hzz
   exact⟨rfl,rfl⟩)
  refine⟨⟨(bo ⟨t,a⟩ 6 false ⟨z,5⟩).1,(jZ ⟨⟨t,a⟩,cl⟩ 2 (bo ⟨t,a⟩ 6 false ⟨z,5⟩).2.s (bo ⟨t,a⟩ 6 false ⟨z,5⟩).1).2.1,1,0,(jZ ⟨⟨t,a⟩,cl⟩ 2 (bo ⟨t,a⟩ 6 false ⟨z,5⟩).2.s (bo ⟨t,a⟩ 6 false ⟨z,5⟩).1).1⟩,_, ?_,rfl,hG.2.2,hO.mono (by omega), ?_⟩
  ·have h4:=hG.2.2
   simp only[cq,Bool.and_eq_true,decide_eq_true_eq,List.all_eq_true]
   exact⟨lh t a _ _,hG.1,rfl,rfl,by omega,rfl,fun x hx=>(hG.2.1 x hx).1⟩
  ·have h:=h.soft (.v (.a (.same (.same (.same (.same (.same (.ro (.same (.same (.ro .nil)))))))))))
   simp only[l5,bQ eM,bQ uK] at h
   exact h
end
end Go.Proofs.YtgbggaddpbghfaaGreat
namespace Go.Proofs.YtgbggaddpbghfaaGreat
open Go Go.KA Go.Proofs
set_option maxHeartbeats 16000000
set_option maxRecDepth 100000
def tp(l:List Int)(x:Int):Bool:=l.all (fun y=> !(y==x))
theorem IM{l:List Int}{x:Int}:tp l x=true↔x∉l:=by
 unfold tp
 rw[List.all_eq_true]
 constructor
 ·intro h hx
  have:=h x hx
  simp at this
 ·intro h y hy
  have:y≠x:=fun e=>h (e▸hy)
  simpa using this
theorem IP(l:List Int)(x:Int):aD Tryz.prog 135 [.c (.ro 1 (l.map eI)),I x] (B (!tp l x)):=by
 refine cF Tryz.func135 (h:= ?_)
 repeat'((conv=>whnf);first
  |(apply bh.mk;first|((unfold tp;rw[eo (i:=i) (by omega) (by simpa using h)];rfl);done)|((unfold tp;rw[eU (by omega) ha];rfl);done)|skip)|(guard_target=~ aK 2 _ _ _ _ _ _;refine lp (Nat) [0,1] (fun i=>[(5,I (i:Nat))]) (fun i=>i≤l.length∧(l.take i).all (fun y=> !(y==x))=true) (fun i=>l.length-i) 0 (by exact⟨Nat.zero_le _,rfl⟩) (fun i ha=> ?_))
  |refine nx (i+1:Nat) (by exact eZ (by omega) ha (by simpa using h))
  |(apply Fact.mk;intro hL;try simp only[List.length_map,maxLen] at hL)
  |((first|apply bA|apply bB|apply bC|apply bD|apply bE|apply bF)<;>intro h<;>(try simp only[List.length_map] at h)<;>(try omega)<;>(try contradiction))
  |refine aR ?_|(guard_target=Index _ _ _;first|(refine Index.mk _ (bw (l:=l) (i:=i) (by omega)) ?_)|fail)
  |refine nO ?_)
 all_goals first|rfl|trivial
noncomputable def ry(p:cx)(k:Int):List aB→ae→ae→Bool
 |[],e,r=>eqv e r
 |st::ss,e,r=>if(fW iD p k e st).2=0 then ry p k ss (fW iD p k e st).1 r else false
theorem Iq{p:cx}{k:Int}{l:List aB}{i:Nat}(h:i<l.length)(e r:ae):ry p k (l.drop i) e r=if(fW iD p k e (l.getD i ic)).2=0 then ry p k (l.drop (i+1)) (fW iD p k e (l.getD i ic)).1 r else false:=by
 rw[List.drop_eq_getElem_cons h,ry,getD_eq h]
section
variable{t a:Int}{p:cx}{k:Nat}{c:bm}{aX:ae→aB→ae}{aC:ae→aB→Int}{sh:List aB→ae→ae→Bool}{b:Bool}
 (hk:k<p.ao.length)(hk9:p.ao.length≤1000000)(hc:p.ao.getD k c0=c)(hr1:c.kg=1)(hsl:c.steps.length≤100)
 (co:ah Tryz.prog 137 [.c (.rp 9 (aH c))] [] (.a 3 (bN c.left)))(hg:aY t a c.left=true)
 (cA:∀x st,aY t a x=true→st∈c.steps→ah Tryz.prog 172 [.c (.rp 3 (cK p)),I (k:Nat), .c (.rp 3 (su x)), .c (.rp 5 (bP st))] [] (.tup [.a 3 (bN (aX x st)),I (aC x st)]))
 (gA:∀x st,aC x st=0→aY t a (aX x st)=true)
 (cs:∀x,aD Tryz.prog 51 [.c (.rp 3 (su x)), .c (.rp 6 ((aH c).drop 3))] (B (sh [] x c.right)))
 (sg:∀i,i<c.steps.length→∀x,sh (c.steps.drop i) x c.right=if aC x (c.steps.getD i ic)=0 then sh (c.steps.drop (i+1)) (aX x (c.steps.getD i ic)) c.right else false)
include hk hk9 hc hr1 hsl co hg cA gA cs sg
theorem Fk:ah Tryz.prog 142 [.c (.rp 3 (cK p)),I (k:Nat)] [] (B (sh c.steps c.left c.right)):=by
 have _:=hk9
 obtain⟨R,hR⟩:∃R,sh c.steps c.left c.right=R:=⟨_,rfl⟩
 rw[hR]
 have hidx:(p.ao.map aH)[((k:Nat):Int).toNat]? =some (aH c):=by rw[←hc];exact aF (i:=k) (by omega)
 have hmem:∀i,i<c.steps.length→c.steps.getD i ic∈c.steps:=fun i h=>by rw[getD_eq h];exact List.getElem_mem h
 obtain⟨l,r,ru,rf,ss⟩:=c
 simp only[] at hr1
 subst hr1
 refine cX Tryz.func142 (h:= ?_)
 repeat'((conv=>whnf);first
  |(guard_target=aa _ 172 _ _ _ _;(have hlt:i<ss.length:=by omega);(have hq:=sg i hlt x);refine aa.own _ _ rfl (cA x _ hgx (hmem i hlt)) (kq (g9 _)) _ rfl ?_)|(guard_target=Gh _ _ _ _ _;(have hcc:aC x (ss.getD i ic)=0:=by assumption);refine Gh.zG 0 _ rfl (Gh.I7 3 0 rfl (Gh.go ⟨((i+1,aX x (ss.getD i ic)):Nat × ae),(by exact⟨by show i+1≤ss.length;omega,(hq.trans (if_pos hcc)).symm.trans hS,gA _ _ hcc⟩),(by show _<_;(try simp only[]);omega),(by(repeat'((conv=>whnf)<;>(first|exact trivial|refine⟨?_, ?_⟩|kernel_rfl)));done),(by(repeat'((conv=>whnf)<;>(first|exact trivial|refine⟨?_, ?_⟩|kernel_rfl)));done),(by(repeat'((conv=>whnf)<;>(first|exact trivial|refine⟨?_, ?_⟩|kernel_rfl)));done)⟩)))
  |refine aq.mk ?_ ?_|(guard_target=~ aK 6 _ _ _ _ _ _;refine l8 (Nat × ae) [0,1,5,6] (fun⟨i,x⟩=>[(7,I (i:Nat))]) (fun⟨i,x⟩=>[(0, .aG none 66 3 (x.kids.map ay)),(2, .cells [.c (J x.kind), .c (J x.num), .lw 0])]) (fun⟨i,x⟩=>i≤ss.length∧sh (ss.drop i) x r=R∧aY t a x=true) (fun⟨i,x⟩=>ss.length-i) (0,l) (by exact⟨Nat.zero_le _,hR,hg⟩) (fun A ha=> ?_);obtain⟨i,x⟩:=A;have ha:i≤ss.length∧sh (ss.drop i) x r=R∧aY t a x=true:=ha;(obtain⟨hi,hS,hgx⟩:=ha))
  |(apply Fact.mk;intro hL;try simp only[List.length_map,maxLen] at hL)
  |((first|apply bA|apply bB|apply bC|apply bD|apply bE|apply bF)<;>intro h<;>(try simp only[List.length_map] at h)<;>(try omega)<;>(try contradiction))|(guard_target=aa _ 137 _ _ _ _;refine cG [] rfl (co) ?_)|(guard_target=aa _ 51 _ _ _ _;refine cP rfl (cs x) ?_)
  |refine aR ?_|(guard_target=Index _ _ _;first|(refine Index.mk _ (hidx) ?_)|(refine Index.mk _ (aF (l:=ss) (d:=ic) (i:=i) (by omega)) ?_)|fail)
  |refine nO ?_)
 all_goals first|rfl|trivial|(have e9:i=ss.length:=(by omega);exact congrArg (fun b=>SV.c (CV.val (Value.bool b))) ((by rw[e9,List.drop_length]:sh [] x r=sh (ss.drop i) x r).trans hS))|(have h8:=‹¬aC x (ss.getD i ic)=0›;exact congrArg (fun b=>SV.c (CV.val (Value.bool b))) ((hq.trans (if_neg h8)).symm.trans hS))
end
end Go.Proofs.YtgbggaddpbghfaaGreat
namespace Go.Proofs.YtgbggaddpbghfaaGreat
open Go Go.KA Go.Proofs
set_option maxHeartbeats 4000000
set_option maxRecDepth 100000
theorem AB{l:List aM}{r:Bool}{id:Int}(h:bz l r id<0):∀y∈l,y.bU=r→y.id≠id:=by
 intro y hy h1 h2
 have h3:0≤bz l r id:=vM.1 (by
  unfold HY
  exact List.mem_map.2 ⟨y,List.mem_filter.2 ⟨hy,by simp[h1]⟩,h2⟩)
 omega
theorem MP{l:List aM}{r:Bool}{id:Int}(h:∀y∈l,y.bU=r→y.id≠id):bz l r id<0:=by
 refine Int.not_le.1 fun h1=> ?_
 have h2:=vM.2 h1
 unfold HY at h2
 obtain⟨y,hy,e⟩:=List.mem_map.1 h2
 rw[List.mem_filter] at hy
 exact h y hy.1 (by simpa using hy.2) e
theorem mK{t a:Int}{l:List aM}:ed t a l=true↔∀i,i<l.length→fK t a l i=true:=by
 unfold ed l6
 rw[List.all_eq_true]
 exact⟨fun h i hi=>h i (List.mem_range.2 hi),fun h i hi=>h i (List.mem_range.1 hi)⟩
theorem z8{t a:Int}{l:List aM}{n:aM}(h:ed t a l=true)(h1:cJ t a n=true)(h2:bz l n.bU n.id<0)(h3:gG l n.entry.bj=true):ed t a (l++[n])=true:=by
 rw[mK] at h⊢
 intro i hi
 rw[List.length_append,List.length_singleton] at hi
 unfold fK
 by_cases e:i<l.length
 ·have h4:=h i e
  unfold fK at h4
  have e1:(l++[n]).getD i n0=l.getD i n0:=by
   rw[List.getD_eq_getElem?_getD,List.getD_eq_getElem?_getD,List.getElem?_append_left e]
  rw[e1,List.take_append_of_le_length (by omega)]
  exact h4
 ·obtain rfl:i=l.length:=by omega
  have e1:(l++[n]).getD l.length n0=n:=by simp[List.getD_eq_getElem?_getD]
  have e2:(l++[n]).take l.length=l:=by simp
  rw[e1,e2,h1,h3,decide_eq_true h2]
  rfl
theorem FX{t a:Int}{l:List aM}(h:ed t a l=true)(k:Nat):ed t a (l.take k)=true:=by
 rw[mK] at h⊢
 intro i hi
 rw[List.length_take] at hi
 have h4:=h i (by omega)
 unfold fK at h4⊢
 have e1:(l.take k).getD i n0=l.getD i n0:=by
  rw[List.getD_eq_getElem?_getD,List.getD_eq_getElem?_getD,List.getElem?_take,if_pos (by omega)]
 rw[e1,List.take_take,Nat.min_eq_left (by omega)]
 exact h4
theorem dW.sub{l l':List aM}(h:dW l)(hs:∀x∈l',x∈l):dW l':=fun x hx y hy=>h x (hs x hx) y (hs y hy)
theorem dW.more{l l':List aM}{n:aM}(h:dW l)(hs:∀x∈l',x∈l∨x=n)(hn:∀y∈l,Alike n y):dW l':=fun x hx y hy=>by
 rcases hs x hx with h1|rfl<;>rcases hs y hy with h2|rfl
 ·exact h x h1 y h2
 ·exact(hn x h1).symm
 ·exact hn y h2
 ·exact Alike.refl _
theorem dQ{a:af}{x:aM}:x∈iz a↔(∃s∈a.ab,x∈s.notes)∨∃p∈a.aw,p.note=x:=by
 unfold iz
 simp only[List.mem_append,List.mem_flatMap,List.mem_map]
structure JE(t a:Int)(s:aO):Prop where
 F5:s.notes.length≤20
 sav:0≤s.saved∧s.saved≤(s.notes.length:Int)
 up:s.up=true∨s.saved=(s.notes.length:Int)
 uz:ed t a s.notes=true
theorem G1{t a:Int}{s:aO}:ck t a s=true↔JE t a s:=by
 unfold ck
 simp only[Bool.and_eq_true,Bool.or_eq_true,decide_eq_true_eq,beq_iff_eq]
 constructor
 ·rintro⟨h1,h2,h3,h4⟩
  exact⟨by omega,bX h2,h3,h4⟩
 ·rintro⟨h1,h2,h3,h4⟩
  exact⟨by omega,eL h2.1 h2.2,h3,h4⟩
structure GB(a:af):Prop where
 sig:bO a.sig.au a.sig.ai=true
 n5:dJ 1 5 a.ab.length=true
 f12:a.aw.length≤12
 srv:∀s∈a.ab,JE a.sig.au a.sig.ai s
 P5:∀p∈a.aw,(0≤p.ju∧p.ju≤(a.ab.length:Int)-1)∧cJ a.sig.au a.sig.ai p.note=true
 P6:dW (iz a)
theorem Jq{a:af}:GA a↔GB a:=by
 constructor
 ·rintro⟨h1,h2,h3,h4,h5,h6⟩
  refine⟨h1,h2,by omega,fun s hs=>G1.1 (List.all_eq_true.1 h4 s hs),fun p hp=> ?_,h6⟩
  have:=List.all_eq_true.1 h5 p hp
  unfold fZ at this
  rw[Bool.and_eq_true] at this
  exact⟨bX this.1,this.2⟩
 ·rintro⟨h1,h2,h3,h4,h5,h6⟩
  refine⟨h1,h2,by omega,List.all_eq_true.2 fun s hs=>G1.2 (h4 s hs),List.all_eq_true.2 fun p hp=> ?_,h6⟩
  unfold fZ
  rw[Bool.and_eq_true]
  exact⟨eL (h5 p hp).1.1 (h5 p hp).1.2,(h5 p hp).2⟩
section
variable{a:af}(hG:GB a)
include hG
theorem GB.set{i:Int}{s:aO}(hs:JE a.sig.au a.sig.ai s)(hA:dW (iz (iy a i s))):GB (iy a i s):=by
 refine⟨hG.sig, ?_,hG.f12,fun x hx=> ?_,fun p hp=> ?_,hA⟩
 ·show dJ 1 5 (a.ab.set i.toNat s).length=true
  rw[List.length_set];exact hG.n5
 ·rcases List.mem_or_eq_of_mem_set hx with h|h
  ·exact hG.srv x h
  ·exact h▸hs
 ·show(0≤p.ju∧p.ju≤((a.ab.set i.toNat s).length:Int)-1)∧_
  rw[List.length_set];exact hG.P5 p hp
omit hG in
theorem Bt{i:Int}{s:aO}{x:aM}(hx:x∈iz (iy a i s)):x∈iz a∨x∈s.notes:=by
 rw[dQ] at hx
 rcases hx with⟨s',hs',hx⟩|⟨p,hp,hx⟩
 ·rcases List.mem_or_eq_of_mem_set hs' with h|h
  ·exact .inl (dQ.2 (.inl ⟨s',h,hx⟩))
  ·exact .inr (h▸hx)
 ·exact .inl (dQ.2 (.inr ⟨p,hp,hx⟩))
omit hG in
theorem jY{i:Int}(hi:bY a i=true):sA a i∈a.ab:=by
 have h:=bX hi
 show a.ab.getD i.toNat db∈_
 rw[getD_eq (by omega)]
 exact List.getElem_mem _
theorem GB.place{p:cB}(hp:p∈a.aw):bY a p.ju=true:=by
 have:=(hG.P5 p hp).1
 exact eL this.1 this.2
theorem GB.add{i:Int}(hi:bY a i=true){n:aM}(h1:cJ a.sig.au a.sig.ai n=true)(h2:bz (sA a i).notes n.bU n.id<0)(h3:gG (sA a i).notes n.entry.bj=true)(h4:¬(sA a i).notes.length=20)(h5:(sA a i).up=true)(h6:∀y∈iz a,Alike n y):GB (iy a i (jB (sA a i) n)):=by
 have hs:=hG.srv _ (jY hi)
 have h20:=hs.F5
 have hsv:=hs.sav
 refine hG.set ⟨?_, ?_, .inl h5,z8 hs.uz h1 h2 h3⟩ ?_
 ·show((sA a i).notes++[n]).length≤20
  rw[List.length_append,List.length_singleton];omega
 ·show 0≤(sA a i).saved∧(sA a i).saved≤(((sA a i).notes++[n]).length:Int)
  rw[List.length_append,List.length_singleton];omega
 ·refine hG.P6.more (n:=n) (fun x hx=> ?_) h6
  rcases Bt hx with h|h
  ·exact .inl h
  ·rcases List.mem_append.1 h with h|h
   ·exact .inl (dQ.2 (.inl ⟨_,jY hi,h⟩))
   ·exact .inr (List.mem_singleton.1 h)
theorem GB.PU{l:List cB}(hl:l.length≤12)(h:∀p∈l,p∈a.aw∨((0≤p.ju∧p.ju≤(a.ab.length:Int)-1)∧cJ a.sig.au a.sig.ai p.note=true∧p.note∈iz a)):GB ⟨a.sig,a.ab,l⟩:=by
 refine⟨hG.sig,hG.n5,hl,hG.srv,fun p hp=> ?_,hG.P6.sub fun x hx=> ?_⟩
 ·rcases h p hp with h|h
  ·exact hG.P5 p h
  ·exact⟨h.1,h.2.1⟩
 ·rw[dQ] at hx
  rcases hx with⟨s,hs,hx⟩|⟨p,hp,rfl⟩
  ·exact dQ.2 (.inl ⟨s,hs,hx⟩)
  ·rcases h p hp with h|h
   ·exact dQ.2 (.inr ⟨p,h,rfl⟩)
   ·exact h.2.2
theorem GB.note{s:aO}(hs:s∈a.ab){n:aM}(hn:n∈s.notes):cJ a.sig.au a.sig.ai n=true:=by
 obtain⟨i,hi,rfl⟩:=List.mem_iff_getElem.1 hn
 have h:=mK.1 (hG.srv s hs).uz i hi
 unfold fK at h
 rw[getD_eq hi,Bool.and_eq_true] at h
 exact h.1
theorem GB.drop(i:Int):GB (dP a i).2:=by
 unfold dP
 split
 ·exact hG
 ·have:=hG.f12
  refine hG.PU (by rw[List.length_append,List.length_take,List.length_drop];omega) fun p hp=> .inl ?_
  rcases List.mem_append.1 hp with hp|hp
  ·exact List.mem_of_mem_take hp
  ·exact List.mem_of_mem_drop hp
theorem GB.take{i:Int}(hi:0≤i):GB (bM a i).2:=by
 unfold bM
 split
 ·exact hG
 split
 ·exact hG
 split
 ·exact hG
 ·rename_i h1 h2 h3
  have hp:eQ a i∈a.aw:=by
   show a.aw.getD i.toNat jl∈_
   rw[getD_eq (by omega)]
   exact List.getElem_mem _
  have h4:jK a (eQ a i)=true:=by simpa using h2
  unfold jK at h4
  simp only[Bool.and_eq_true,decide_eq_true_eq] at h4
  exact hG.add (hG.place hp) (hG.P5 _ hp).2 h4.2.1 h4.2.2 h3 h4.1 fun y hy=>hG.P6 _ (dQ.2 (.inr ⟨_,hp,rfl⟩)) y hy
theorem Lx{e:aS}(he:cH a.sig.au a.sig.ai e=true):GB (iB a e).2:=by
 unfold cH at he
 simp only[Bool.and_eq_true] at he
 have ea:=bX he.2.1
 have eb:=bX he.2.2.1
 have ec:=bX he.2.2.2.1
 unfold iB
 split
 ·unfold dR
  split
  ·exact(hG.take ea.1).drop e.a
  ·exact hG
 split
 ·exact hG.take ea.1
 split
 ·exact hG.drop e.a
 split
 ·exact hG
 rename_i hpl
 have hp:bY a e.a=true:=by simpa using hpl
 have hpr:=bX hp
 have hs:=hG.srv _ (jY hp)
 split
 ·rename_i hk
  have hent:=he.2.2.2.2.2.2
  rw[if_pos hk,Bool.and_eq_true] at hent
  unfold eJ
  split
  ·exact hG
  split
  ·exact hG
  split
  ·exact hG
  ·rename_i h1 h2 h3
   simp only[Bool.or_eq_true,Bool.not_eq_true',decide_eq_true_eq,not_or,Bool.not_eq_false,Bool.not_eq_true] at h1 h3
   have hid:0≤jL a e.a:=by
        unfold jL
        have:0≤(a.ab.length:Int)*((sA a e.a).notes.countP (qT a.ab.length e.a):Nat):=Int.mul_nonneg (by omega) (by omega)
        omega
   have htk:bz (iz a) false (jL a e.a)<0:=by
        have h9:=h3.2.2
        unfold oe at h9
        have:=of_decide_eq_false h9
        omega
   have hlt:jL a e.a≤99:=by
        have:=h3.2.1
        omega
   refine hG.add hp ?_ ?_ h1.2 h3.1 h1.1 fun y hy e1 _ e2=>absurd e1.symm (AB htk y hy e2)
   ·unfold cJ wY
    simp only[Bool.false_eq_true,if_false,beq_self_eq_true,Bool.true_and,Bool.and_eq_true]
    exact⟨eL hid hlt,hent.1⟩
   ·exact MP fun y hy=>AB htk y (dQ.2 (.inl ⟨_,jY hp,hy⟩))
 split
 ·unfold cD
  split
  ·exact hG
  split
  ·exact hG
  split
  ·exact hG
  ·rename_i h1 h2 h3
   simp only[Bool.or_eq_true,Bool.not_eq_true',decide_eq_true_eq,not_or,Bool.not_eq_false] at h2
   refine hG.add hp ?_ (show bz (sA a e.a).notes true e.b<0 by omega) rfl h3 h2.1 fun y _ _ e1 _=>by cases e1
   unfold cJ yr
   simp only[if_true,Bool.and_eq_true]
   exact⟨eL eb.1 (by omega),rfl⟩
 split
 ·unfold dv
  split
  ·exact hG
  split
  ·exact hG
  split
  ·exact hG
  ·rename_i h1 h2 h3
   simp only[Bool.or_eq_true,Bool.not_eq_true',decide_eq_true_eq,not_or,Bool.not_eq_false] at h1
   have hf:=hG.f12
   have hb:=bX h1.1
   have hn:(sA a e.a).notes.getD e.c.toNat n0∈(sA a e.a).notes:=by
        rw[getD_eq (by omega)]
        exact List.getElem_mem _
   refine hG.PU (by rw[List.length_append,List.length_singleton];omega) fun p hp'=> ?_
   rcases List.mem_append.1 hp' with hp'|hp'
   ·exact .inl hp'
   ·rw[List.mem_singleton.1 hp']
    exact .inr ⟨hb,hG.note (jY hp) hn,dQ.2 (.inl ⟨_,jY hp,hn⟩)⟩
 ·have h1:=hs.F5
  have h2:=hs.sav
  have hsub:∀s:aO,(∀x∈s.notes,x∈(sA a e.a).notes)→dW (iz (iy a e.a s)):=fun s hx=>hG.P6.sub fun x h=>by
   rcases Bt h with h|h
   ·exact h
   ·exact dQ.2 (.inl ⟨_,jY hp,hx x h⟩)
  unfold iw
  split
  ·exact hG
  rename_i hup
  split
  ·exact hG.set ⟨h1,⟨by show(0:Int)≤((sA a e.a).notes.length:Nat);omega,Int.le_refl _⟩, .inr rfl,hs.uz⟩ (hsub _ fun x h=>h)
  split
  ·refine hG.set ⟨?_, ?_, .inr ?_,FX hs.uz _⟩ (hsub _ fun x h=>List.mem_of_mem_take h)
   ·show((sA a e.a).notes.take _).length≤20
    rw[List.length_take];omega
   ·show 0≤(sA a e.a).saved∧(sA a e.a).saved≤(((sA a e.a).notes.take (sA a e.a).saved.toNat).length:Int)
    rw[List.length_take];omega
   ·show(sA a e.a).saved=(((sA a e.a).notes.take (sA a e.a).saved.toNat).length:Int)
    rw[List.length_take];omega
  ·exact hG.set ⟨h1,h2, .inl rfl,hs.uz⟩ (hsub _ fun x h=>h)
end
structure NM(s s':aO):Prop where
 sav:s.saved≤s'.saved
 pre:s.notes.take s.saved.toNat=s'.notes.take s.saved.toNat
theorem NM.refl(s:aO):NM s s:=⟨Int.le_refl _,rfl⟩
theorem Ij{a:af}{i:Int}{s:aO}{k:Nat}(hk:k<a.ab.length):(iy a i s).ab.getD k db=if i.toNat=k then s else a.ab.getD k db:=by
 show(a.ab.set i.toNat s).getD k db=_
 exact vV hk
end Go.Proofs.YtgbggaddpbghfaaGreat
namespace Go.Proofs.YtgbggaddpbghfaaGreat
open Go Go.KA Go.Proofs
set_option maxHeartbeats 16000000
set_option maxRecDepth 100000
theorem Tree.wide{t a t' a':Int}(ht:t≤t')(ha:a≤a'){e:ae}(h:Tree t a e):Tree t' a' e:=by
 induction h with
 |zero=>exact .zero
 |one=>exact .one
 |test h0 h1=>exact .test h0 (by omega)
 |act h0 h1=>exact .act h0 (by omega)
 |not hc _ ih=>exact .not hc ih
 |sum _ _ h1 h2=>exact .sum h1 h2
 |dot _ _ h1 h2=>exact .dot h1 h2
 |star _ ih=>exact .star ih
theorem ko{t a:Int}{c:bm}(h:cq t a c=true):aY t a c.left=true∧aY t a c.right=true∧c.steps.length≤60∧∀s∈c.steps,cU t a s=true:=by
 simp only[cq,Bool.and_eq_true,decide_eq_true_eq,List.all_eq_true] at h
 exact⟨h.1,h.2.1,by omega,h.2.2.2.2.2.2⟩
section
variable{t a:Int}(hs:bO t a=true)(hg:0≤t∧t≤3∧0≤a∧a≤4){cl:List bm}(hcl:∀c∈cl,cq t a c=true)
include hg hcl
theorem Ev{k use:Int}(hu:use≤23)(h:(jr iD ⟨⟨t,a⟩,cl⟩ k use).2=true):yZ (jr iD ⟨⟨t,a⟩,cl⟩ k use).1:=by
 by_cases h0:0≤use
 ·exact zh h0 hu k
 ·unfold jr at h⊢
  rw[if_neg (by omega)] at h⊢
  by_cases h1: -1-use≥k
  ·rw[if_pos h1] at h;cases h
  ·rw[if_neg h1] at h⊢
   by_cases h2: -1-use≥((cl.length:Nat):Int)
   ·rw[if_pos h2] at h;cases h
   ·rw[if_neg h2]
    have hm:(cl.getD (-1-use).toNat ⟨cL,cL,0,0,[]⟩)∈cl:=by
      rw[getD_eq (by omega)]
      exact List.getElem_mem _
    have hc:=ko (hcl _ hm)
    exact⟨(gD _ (gp.1 hc.1).2.2).wide hg.2.1 hg.2.2.2,(gD _ (gp.1 hc.2.1).2.2).wide hg.2.1 hg.2.2.2,dw hc.1,dw hc.2.1⟩
include hs
theorem Dr{k:Nat}(hk:k<cl.length)(hn:cl.length≤40)(hr:(cl.getD k c0).kg=1):ah Tryz.prog 142 [.c (.rp 3 (cK ⟨⟨t,a⟩,cl⟩)),I (k:Nat)] [] (B (ry ⟨⟨t,a⟩,cl⟩ (k:Nat) (cl.getD k c0).steps (cl.getD k c0).left (cl.getD k c0).right)):=by
 have hm:cl.getD k c0∈cl:=by
  rw[getD_eq hk]
  exact List.getElem_mem _
 have hc:=ko (hcl _ hm)
 generalize hC:cl.getD k c0=c at hm hc hr⊢
 have hst:∀st∈c.steps, -40≤st.use∧st.use≤23∧(∀x∈st.au,aj x≤200)∧∀x∈st.c9,aj x≤200:=fun st h=>by
  have h1:=hc.2.2.2 st h
  have h2:=jj h1
  simp only[cU,Bool.and_eq_true] at h1
  have h3:=bX h1.1
  exact⟨by omega,by omega,fun x hx=>dw (h2.1 x hx),fun x hx=>dw (h2.2 x hx)⟩
 refine Fk (t:=t) (a:=a) (p:=⟨⟨t,a⟩,cl⟩) (aX:=fun x st=>(fW iD ⟨⟨t,a⟩,cl⟩ k x st).1) (aC:=fun x st=>(fW iD ⟨⟨t,a⟩,cl⟩ k x st).2) (sh:=ry ⟨⟨t,a⟩,cl⟩ k) hk (by show cl.length≤_;omega) hC hr (by omega) ?_ hc.1 (fun x st hx hs'=> ?_) (fun x st h=>sc (p:=⟨⟨t,a⟩,cl⟩) h) (fun x=> ?_) (fun i hi x=>Iq hi x c.right)
 ·have h:=(eu c.left (by have:=dw hc.1;omega))
  rw[a9] at h
  exact h.cut (.cut (sz:=9) (k:=3) (cs:=aH c) (by decide) .nil)
 ·obtain⟨b1,b2,b3,b4⟩:=hst st hs'
  have h:=rS ⟨⟨t,a⟩,cl⟩ hs k x (dw hx) st (by omega) (fun hq=>Ev hg hcl b2 hq) b3 b4
  rw[pX] at h
  exact h
 ·have h1:=nC x c.right
  rw[pX] at h1
  exact h1.cut (.same (.cut (sz:=6) (k:=3) (cs:=(aH c).drop 3) (by decide) .nil))
end
noncomputable def Qe(p:cx)(k:Nat):Bool:=ry p (k:Nat) (p.ao.getD k c0).steps (p.ao.getD k c0).left (p.ao.getD k c0).right
noncomputable def Qd(notes:List aM)(r:List Int)(p:cx)(i:Nat):Bool:=eqv (nI (notes.getD (bz notes false (r.getD i 0)).toNat n0).entry) (⟨(p.ao.getD i c0).left,(p.ao.getD i c0).right⟩:bT)
theorem I4{k n:Nat}(h:k=n)(f:Nat→Bool):l6 (k-n) f=true:=by rw[h,Nat.sub_self];rfl
theorem Jj{n k:Nat}{g:Nat→Bool}(hk:n≤k)(h:l6 (k-n) (fun j=>g (n+j))=true)(h2:g k=true):l6 (k+1-n) (fun j=>g (n+j))=true:=by
 rw[show k+1-n=(k-n)+1 by omega]
 refine qd h ?_
 show g (n+(k-n))=true
 rwa[show n+(k-n)=k by omega]
section
variable{n m:Nat}{say shw:Nat→Bool}
def va(n m:Nat)(say shw:Nat→Bool):Bool:=l6 n say&&l6 (m-n) (fun j=>shw (n+j))
theorem IK{i:Nat}(hi:i<n)(h:say i=false):va n m say shw=false:=by
 unfold va
 rw[Bk hi h,Bool.false_and]
theorem Il{k:Nat}(h1:n≤k)(hk:k<m)(h:shw k=false):va n m say shw=false:=by
 unfold va
 rw[Bk (n:=m-n) (i:=k-n) (p:=fun j=>shw (n+j)) (by omega) (by show shw (n+(k-n))=false;rwa[show n+(k-n)=k by omega]),Bool.and_false]
theorem yA{i k:Nat}(hi:i=n)(hk:k=m)(h1:l6 i say=true)(h2:l6 (k-n) (fun j=>shw (n+j))=true):va n m say shw=true:=by
 subst hi hk
 unfold va
 rw[h1,h2]
 rfl
end
noncomputable def FF(notes:List aM)(r:List Int)(p:cx):Bool:=va r.length p.ao.length (Qd notes r p) (Qe p)
theorem Es{sv:aO}{r:List Int}{p:cx}{say shw:Nat→Bool}(hr:r.length≤p.ao.length)(hp:p.ao.length≤40)(hr9:r.length≤4)
 (hsp:∀i,i<r.length→0≤bz sv.notes false (r.getD i 0)∧bz sv.notes false (r.getD i 0)<(sv.notes.length:Nat))
 (hlm:∀i,i<r.length→aD Tryz.prog 136 [.c (.rp 5 (kz (sv.notes.getD (bz sv.notes false (r.getD i 0)).toNat n0).entry))] (.a 6 (aU (nI (sv.notes.getD (bz sv.notes false (r.getD i 0)).toNat n0).entry))))
 (hse:∀i,i<r.length→aD Tryz.prog 141 [.c (.rp 6 (aU (nI (sv.notes.getD (bz sv.notes false (r.getD i 0)).toNat n0).entry))), .c (.rp 6 (aU ⟨(p.ao.getD i c0).left,(p.ao.getD i c0).right⟩))] (B (say i)))
 (hsh:∀k,r.length≤k→k<p.ao.length→ah Tryz.prog 142 [.c (.rp 3 (cK p)),I (k:Nat)] [] (B (shw k))):
 aD Tryz.prog 110 [.c (.rp 3 (cE sv)), .c (.ro 1 (r.map eI)), .c (.rp 3 (cK p))] (B (va r.length p.ao.length say shw)):=by
 have hlr:(r.map eI).length=r.length:=List.length_map _
 refine cF Tryz.func110 (h:= ?_)
 repeat'((conv=>whnf);first
  |apply bh.mk|(guard_target=~ aK 2 _ _ _ _ _ _;refine lp (Nat) [0,1,2] (fun i=>[(7,I (i:Nat))]) (fun i=>i≤r.length∧l6 i say=true) (fun i=>r.length-i) 0 (by exact⟨Nat.zero_le _,rfl⟩) (fun i ha=> ?_);have hA1:=ha.2;have hB1:=ha.1)|(guard_target=~ aK 9 _ _ _ _ _ _;refine lp (Nat) [2] (fun k=>[(10,I (k:Nat))]) (fun k=>(r.length≤k∧k≤p.ao.length)∧l6 (k-r.length) (fun j=>shw (r.length+j))=true) (fun k=>p.ao.length-k) ((r.map eI).length) (by exact⟨⟨by show r.length≤(r.map eI).length;omega,by show(r.map eI).length≤_;omega⟩,I4 hlr _⟩) (fun k ha=> ?_))
  |refine nx (i+1:Nat) (by exact⟨by show i+1≤_;omega,qd ha.2 (by assumption)⟩)
  |refine nx (k+1:Nat) (by exact⟨by show _≤k+1∧k+1≤_;omega,Jj (by omega) ha.2 (by assumption)⟩)
  |(apply Fact.mk;intro hL;try simp only[List.length_map,maxLen] at hL)
  |((first|apply bA|apply bB|apply bC|apply bD|apply bE|apply bF)<;>intro h<;>(try simp only[List.length_map] at h)<;>(try omega)<;>(try contradiction))|(guard_target=aa _ 60 _ _ _ _;refine cP rfl (gQ sv.notes false (r.getD i 0)) ?_)|(guard_target=aa _ 136 _ _ _ _;refine cP rfl (hlm i (by omega)) ?_)|(guard_target=aa _ 140 _ _ _ _;refine cP rfl (qJ (p.ao.getD i c0)) ?_)|(guard_target=aa _ 141 _ _ _ _;refine cP rfl (hse i (by omega)) ?_)|(guard_target=aa _ 142 _ _ _ _;refine cG [] rfl (hsh k (by omega) (by omega)) ?_)
  |refine aR ?_|(guard_target=Index _ _ _;first|(refine Index.mk _ (aF (l:=r) (d:=0) (i:=i) (by omega)) ?_)|(refine Index.mk _ (aF (d:=c0) (i:=i) (by omega)) ?_)|(refine Index.mk _ (aF (d:=n0) (i:=(bz sv.notes false (r.getD i 0)).toNat) (by(have:=hsp i (by omega));omega)) ?_)|fail)
  |refine nB ?_|(guard_target=aV _ _;refine aV.mk (by first|(((have hs7:=hsp i (by omega));omega))|fail) ?_))
 all_goals first|exact congrArg B (IK (i:=i) (by omega) (by assumption)).symm|exact congrArg B (Il (k:=k) (by omega) (by omega) (by assumption)).symm|exact congrArg B (yA (i:=i) (k:=k) (by omega) (by omega) (by assumption) ha.2).symm|exact congrArg B (yA (i:=i) (k:=k) (by omega) (by omega) ha.2 (by assumption)).symm
end Go.Proofs.YtgbggaddpbghfaaGreat
