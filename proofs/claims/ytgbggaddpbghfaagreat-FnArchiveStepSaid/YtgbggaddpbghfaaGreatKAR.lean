/- Contracts of the reference's draw of steps and of a last claim; the proof is lent and stays as it is. Conditions: valid claims, bounds of what has been read. -/
import Derived.Test.YtgbggaddpbghfaaGreatKAQ
namespace Go.Proofs.YtgbggaddpbghfaaGreat
open Go Go.KA Go.Proofs
set_option maxHeartbeats 16000000
set_option maxRecDepth 100000
theorem s7(l:List bw):db (l.map aH)=l.map aH:=ch (fun _=>rfl) l
noncomputable def jN(p:cE)(most:Nat)(s:Src)(e:ae):List aB × ae × Src:=iN p (bP s ((most:Nat)+1)).toNat (ar s ((most:Nat)+1)) e []
theorem Dw(s:Src)(most:Nat):(bP s ((most:Nat)+1)).toNat≤most:=by
 have h:=cH s (n:=((most:Nat):Int)+1) (by omega)
 omega
theorem Hy{p:cE}{most:Nat}{s:Src}{N:Int}(h:iK s N)(e:ae):iK (jN p most s e).2.2 (N+2+2*most):=by
 have h1:=Dw s most
 exact(zh p _ _ e [] _ (h.pick _)).mono (by omega)
theorem Cd{p:cE}{most:Nat}{s:Src}{e:ae}(he:aW p.sig.au p.sig.aq e=true):aW p.sig.au p.sig.aq (jN p most s e).2.1=true∧(∀x∈(jN p most s e).1,iS p.sig.au p.sig.aq x)∧(jN p most s e).1.length≤most:=by
 have h1:=Dw s most
 have h:=uC p (bP s ((most:Nat)+1)).toNat (ar s ((most:Nat)+1)) e [] he (by simp)
 exact⟨h.1,h.2.1,by have:=h.2.2;simp only[List.length_nil] at this;exact Nat.le_trans this (by omega)⟩
theorem HN{t a:Int}(x:ae):(kZ t a iw x).out.length≤300:=qO t a iw x x [] ⟨[],false⟩ (by simp)
section
variable{t a:Int}(hs:bT t a=true)(hg:0≤t∧t≤3∧0≤a∧a≤4)
include hs
theorem rr(cl:List bw){e:ae}(he:aW t a e=true)(most:Nat)(hm9:most≤1000){s:Src}{N:Int}(hS:iK s N)(hN:N≤500000000)(u:Value):
 ai Tryz.prog 169 [.c (.op (da s)), .c (.op [J t,J a, .eN u 104 9 (cl.map aH)]), .a 3 (sw e),I (most:Nat)] [some [.op (da (jN ⟨⟨t,a⟩,cl⟩ most s e).2.2)],some [.op [J t,J a, .eN u 104 9 (cl.map aH)]],none,none] (.tup [.c (.own 156 5 ((jN ⟨⟨t,a⟩,cl⟩ most s e).1.map aY)), .a 3 (bQ (jN ⟨⟨t,a⟩,cl⟩ most s e).2.1)]):=by
 have hbd:∀{st:aB},iS t a st→(∀x∈st.au,ao x≤200)∧∀x∈st.c9,ao x≤200:=fun h=>⟨fun x hx=>dx ((jl h.1).1 x hx),fun x hx=>dx ((jl h.1).2 x hx)⟩
 refine DA (F:=iN ⟨⟨t,a⟩,cl⟩) (fB:=fun x=>(kZ t a iw x).bad) (fL:=fun x=>(kZ t a iw x).out) (aX:=fun x st=>(gf iw ⟨⟨t,a⟩,cl⟩ 0 x st).1) (aC:=fun x st=>(gf iw ⟨⟨t,a⟩,cl⟩ 0 x st).2) hm9 hN hS he ?_ (fun x hx=> ?_) (fun x st hx hst=> ?_) (fun x st hx hst hc=> ?_) (fun x hx=>Gr hx) (fun x=>HN x) (fun x st hc=>rW (p:=⟨⟨t,a⟩,cl⟩) hc) (fun _ _ _=>rfl) (fun i s x o h=> ?_) (fun i s x o h1 h2 h3=> ?_) (fun i s x o h1 h2 h3=> ?_) rfl
 ·have h:=er e (by have:=dx he;omega)
  rwa[ff,pL] at h
 ·have h:=J8 hs x (dx hx)
  rwa[pL] at h
 ·have h:=rz ⟨⟨t,a⟩,cl⟩ hs 0 x (dx hx) st (.inl (tV hst)) (fun _=>zk (tV hst).1 (tV hst).2 0) (hbd hst).1 (hbd hst).2
  rw[pL,LP] at h
  rw[s7]
  exact h
 ·have h:=Ay (gf iw ⟨⟨t,a⟩,cl⟩ 0 x st).1 (by have:=(gk.1 (rW (p:=⟨⟨t,a⟩,cl⟩) hc)).1;omega)
  rwa[pL] at h
 ·show iN _ (i+1) s x o=_
  rw[iN]
  exact if_pos h
 ·show iN _ (i+1) s x o=_
  rw[iN,if_neg (by simp only[not_or];exact⟨by simpa using h1,h2⟩)]
  exact if_neg h3
 ·show iN _ (i+1) s x o=_
  rw[iN,if_neg (by simp only[not_or];exact⟨by simpa using h1,h2⟩)]
  exact if_pos h3
include hg
omit hs in
theorem Dx{e:ae}(h:aW t a e=true):kG e=true:=lK hg.2.1 hg.2.2.2 (gB e (gk.1 h).2.2)
omit hs in
theorem LU{l r:ae}(h1:aW t a l=true)(h2:aW t a r=true):(0≤kx ⟨l,r⟩∧kx ⟨l,r⟩≤3)∧0≤om ⟨l,r⟩∧om ⟨l,r⟩≤4:=by
 have a1:=fC (gB l (gk.1 h1).2.2) 0
 have a2:=fC (gB r (gk.1 h2).2.2) (dq 3 l 0)
 have a3:=fC (gB r (gk.1 h2).2.2) (dq 4 l 0)
 have b1:=a1.1 hg.1
 have b2:=a1.2.1 hg.2.2.1
 have b3:=a2.1 b1
 have b4:=a3.2.1 b2
 unfold kx om
 simp only[]
 have:=a1.2.2.1
 have:=a1.2.2.2
 have:=a2.2.2.1
 have:=a3.2.2.2
 exact⟨⟨by omega,by omega⟩,by omega,by omega⟩
theorem Dh{s:Src}{N:Int}(hS:iK s N)(hN:N≤400000000)(u:Value)(cl:List bw)(hcl:∀c∈cl,aW t a c.left=true∧aW t a c.right=true)(hn:cl.length≤39):
 ∃c s',cI t a c=true∧c.j9=1∧c.steps.length≤2∧iK s' (N+200000)∧ai Tryz.prog 138 [.c (.op (da s)), .c (.op [J t,J a, .eN u 104 9 (cl.map aH)])] [some [.op (da s')],some [.op [J t,J a, .eN u 104 9 (cl.map aH)]]] (.a 9 (aH c)):=by
 have hlen:(cl.map aH).length=cl.length:=List.length_map _
 have h1:=hS.pick 2
 have h2:=h1.pick (((cl.map aH).length:Nat):Int)
 obtain⟨C,hC,hCg⟩:∃C:bw,(0<(cl.map aH).length→(cl.map aH)[(bP (ar s 2) ((cl.map aH).length:Nat)).toNat]? =some (aH C))∧aW t a C.left=true∧aW t a C.right=true:=by
  by_cases h:0<cl.length
  ·have hi:=cH (ar s 2) (n:=((cl.map aH).length:Nat)) (by omega)
   refine⟨cl.getD (bP (ar s 2) ((cl.map aH).length:Nat)).toNat c0,fun _=>aF (by omega),hcl _ ?_⟩
   rw[getD_eq (by omega)]
   exact List.getElem_mem _
  ·exact⟨⟨.mk 2 0 [], .mk 2 0 [],1,0,[]⟩,fun h'=>absurd (hlen▸h') h,oX t a,oX t a⟩
 have hF:=LU hg hCg.1 hCg.2
 have lL:=Dx hg hCg.1
 have lR:=Dx hg hCg.2
 have cd:=vj hs hg h2 (by omega) hF.1 hF.2 (wg ⟨C.left,C.right⟩ lL lR)
 have t1:=qL t a (ar (ar s 2) ((cl.map aH).length:Nat)) (kx ⟨C.left,C.right⟩).toNat
 have t2:=uP t a (ar (ar s 2) ((cl.map aH).length:Nat)) (kx ⟨C.left,C.right⟩).toNat
 have t3:=uE t a (ar (ar s 2) ((cl.map aH).length:Nat)) (kx ⟨C.left,C.right⟩).toNat
 have t4:=pK (t:=t) (a:=a) h2 (kx ⟨C.left,C.right⟩).toNat
 have a1:=tO t a (ey t a (ar (ar s 2) ((cl.map aH).length:Nat)) (kx ⟨C.left,C.right⟩).toNat).2 (om ⟨C.left,C.right⟩).toNat
 have a2:=wA t a (ey t a (ar (ar s 2) ((cl.map aH).length:Nat)) (kx ⟨C.left,C.right⟩).toNat).2 (om ⟨C.left,C.right⟩).toNat
 have a3:=wK (t:=t) (a:=a) t4 (om ⟨C.left,C.right⟩).toNat
 unfold xc at cd
 simp only[] at cd
 generalize ld t a (ey t a (ar (ar s 2) ((cl.map aH).length:Nat)) (kx ⟨C.left,C.right⟩).toNat).2 (om ⟨C.left,C.right⟩).toNat=A at cd a1 a2 a3
 generalize ey t a (ar (ar s 2) ((cl.map aH).length:Nat)) (kx ⟨C.left,C.right⟩).toNat=T at cd t1 t2 t3 t4
 obtain⟨us,s3⟩:=A
 obtain⟨ts,s2'⟩:=T
 simp only[] at cd a1 a2 a3 t1 t2 t3 t4
 have bt:∀x∈ts,ao x≤200:=fun x hx=>dx (t2 x hx)
 have ba:∀x∈us,ao x≤200:=fun x hx=>dx (a2 x hx)
 have hS3:iK s3 (N+100000):=a3.mono (by omega)
 have cs1:=(ll bt ba t a hs C.left lL (by have:=(gk.1 hCg.1).1;omega)).cut (.same (jB.cut (sz:=6) (k:=3) (cs:=[J C.left.kind,J C.left.num, .ro 3 (C.left.kids.map af),J C.right.kind,J C.right.num, .ro 3 (C.right.kids.map af)]) (by decide) (jB.refl _)))
 have cs2:=ll bt ba t a hs C.right lR (by have:=(gk.1 hCg.2).1;omega)
 rw[←ch eK ts,←ch eK us] at cs1 cs2
 have gX:∀{x:ae},(ie t a x ts us).2=true→aW t a (ie t a x ts us).1=true:=fun h=>by
  unfold ie at h⊢
  simp only[Bool.and_eq_true] at h
  exact h.2
 have hz:∀z,(z=s∨z=ar s 2∨z=s3)→iK z (N+100000):=by
  rintro z (rfl|rfl|rfl)
  ·exact hS.mono (by omega)
  ·exact h1.mono (by omega)
  ·exact hS3
 have he:∀z,(z=s∨z=ar s 2∨z=s3)→iK (bx ⟨t,a⟩ 6 false ⟨z,5⟩).2.s (N+120000):=fun z h=>by
  have:=v9
  exact((hz z h).expr ⟨t,a⟩ 6 false 5).mono (by omega)
 have core:=fun r sF=>Ey (r:=r) (sF:=sF) (rows:=cl.map aH) (u:=u) (L:=C.left) (R:=C.right) (ru:=C.j9) (rf:=C.ref) (st:=C.steps.map bU) (ts:=ts) (us:=us) (ev:=fun z=>(bx ⟨t,a⟩ 6 false ⟨z,5⟩).1) (es:=fun z=>(bx ⟨t,a⟩ 6 false ⟨z,5⟩).2.s)
  (gS:=fun z=>(jN ⟨⟨t,a⟩,cl⟩ 2 (bx ⟨t,a⟩ 6 false ⟨z,5⟩).2.s (bx ⟨t,a⟩ 6 false ⟨z,5⟩).1).1) (gT:=fun z=>(jN ⟨⟨t,a⟩,cl⟩ 2 (bx ⟨t,a⟩ 6 false ⟨z,5⟩).2.s (bx ⟨t,a⟩ 6 false ⟨z,5⟩).1).2.1) (gs:=fun z=>(jN ⟨⟨t,a⟩,cl⟩ 2 (bx ⟨t,a⟩ 6 false ⟨z,5⟩).2.s (bx ⟨t,a⟩ 6 false ⟨z,5⟩).1).2.2)
  (by omega) (ir s (hS.rd.mono (by omega)) hS.len 2 (by unfold jE;omega)) (c7 (ar s 2) (h1.rd.mono (by omega)) h1.len ((cl.map aH).length:Nat) (by unfold jE;omega)) (fun h=>cH _ (by omega)) hC cd cs1 cs2
  (fun z h=>sk ⟨t,a⟩ hg z ((hz z h).rd.mono (by omega)) (hz z h).len 5 (by decide)) (fun z h=>rr hs cl (lN t a _ _) 2 (by decide) (he z h) (by omega) u)
 by_cases hA:0<(cl.map aH).length∧iZ s 2=true∧(ie t a C.left ts us).2=true∧(ie t a C.right ts us).2=true
 ·obtain⟨k1,k2,k3,k4⟩:=hA
  have hi:=cH (ar s 2) (n:=((cl.map aH).length:Nat)) (by omega)
  refine⟨⟨(ie t a C.left ts us).1,(ie t a C.right ts us).1,1,0,[⟨-1-bP (ar s 2) ((cl.map aH).length:Nat),false,[],ts,us⟩]⟩,s3, ?_,rfl,by simp,hS3.mono (by omega), ?_⟩
  ·have hst:b9 t a ⟨-1-bP (ar s 2) ((cl.map aH).length:Nat),false,[],ts,us⟩=true:=by
        simp only[b9,Bool.and_eq_true,decide_eq_true_eq,List.all_eq_true]
        exact⟨eQ (by omega) (by omega),by simp,by simp,by omega,by omega,t2,t3,a2⟩
   simp only[cI,Bool.and_eq_true,decide_eq_true_eq,List.all_eq_true]
   exact⟨gX k3,gX k4,rfl,rfl,by simp,rfl,by simpa using hst⟩
  ·have h:=core _ s3 (fun _ _ _ _=>⟨rfl,rfl⟩) (fun z h _ _=>by
        have:=(h k1 k2).1
        rw[k3,k4] at this
        exact absurd this (by decide))
   have h:=h.soft (.v (.a (.same (.same (.ro (.same (.same (.ro (.same (.same (.ro .nil)))))))))))
   have e:∀X Y:ae,∀sr:List (List CV),∀S:List aB,db sr=S.map bU→[J X.kind,J X.num,kM (.own 66 3 (X.kids.map az)),J Y.kind,J Y.num,kM (.own 66 3 (Y.kids.map az)),J 1,J 0,kM (.own 156 5 sr)]=aH ⟨X,Y,1,0,S⟩:=by
        intro X Y sr S hS
        simp only[kM,ch eK,hS]
        rfl
   rw[e _ _ _ [⟨-1-bP (ar s 2) ((cl.map aH).length:Nat),false,[],ts,us⟩] (by simp only[db,mZ,kM,ch eK];rfl)] at h
   exact h
 ·obtain⟨z,hz0,q1,q2,q3⟩:∃z,(z=s∨z=ar s 2∨z=s3)∧(0<(cl.map aH).length→iZ s 2=true→z=s3)∧(0<(cl.map aH).length→iZ s 2=false→z=ar s 2)∧(¬0<(cl.map aH).length→z=s):=by
   by_cases k1:0<(cl.map aH).length
   ·cases k2:iZ s 2 with
    |true=>exact⟨s3, .inr (.inr rfl),fun _ _=>rfl,fun _ h=>(by cases h),fun h=>absurd k1 h⟩
    |false=>exact⟨ar s 2, .inr (.inl rfl),fun _ h=>(by cases h),fun _ _=>rfl,fun h=>absurd k1 h⟩
   ·exact⟨s, .inl rfl,fun h=>absurd h k1,fun h=>absurd h k1,fun _=>rfl⟩
  have hG:=Cd (p:=⟨⟨t,a⟩,cl⟩) (most:=2) (s:=(bx ⟨t,a⟩ 6 false ⟨z,5⟩).2.s) (e:=(bx ⟨t,a⟩ 6 false ⟨z,5⟩).1) (lN t a _ _)
  have hO:=Hy (p:=⟨⟨t,a⟩,cl⟩) (most:=2) (he z hz0) (bx ⟨t,a⟩ 6 false ⟨z,5⟩).1
  have h:=core _ (jN ⟨⟨t,a⟩,cl⟩ 2 (bx ⟨t,a⟩ 6 false ⟨z,5⟩).2.s (bx ⟨t,a⟩ 6 false ⟨z,5⟩).1).2.2 (fun b1 b2 b3 b4=>absurd ⟨b1,b2,b3,b4⟩ hA) (fun z' p1 p2 p3=>by
   have hzz:z'=z:=by
        by_cases k1:0<(cl.map aH).length
        ·cases k2:iZ s 2 with
         |true=>rw[(p1 k1 k2).2,q1 k1 k2]
         |false=>rw[p2 k1 k2,q2 k1 k2]
        ·rw[p3 k1,q3 k1]
   subst hzz
   exact⟨rfl,rfl⟩)
  refine⟨⟨(bx ⟨t,a⟩ 6 false ⟨z,5⟩).1,(jN ⟨⟨t,a⟩,cl⟩ 2 (bx ⟨t,a⟩ 6 false ⟨z,5⟩).2.s (bx ⟨t,a⟩ 6 false ⟨z,5⟩).1).2.1,1,0,(jN ⟨⟨t,a⟩,cl⟩ 2 (bx ⟨t,a⟩ 6 false ⟨z,5⟩).2.s (bx ⟨t,a⟩ 6 false ⟨z,5⟩).1).1⟩,_, ?_,rfl,hG.2.2,hO.mono (by omega), ?_⟩
  ·have h4:=hG.2.2
   simp only[cI,Bool.and_eq_true,decide_eq_true_eq,List.all_eq_true]
   exact⟨lN t a _ _,hG.1,rfl,rfl,by omega,rfl,fun x hx=>(hG.2.1 x hx).1⟩
  ·have h:=h.soft (.v (.a (.same (.same (.same (.same (.same (.ro (.same (.same (.ro .nil)))))))))))
   simp only[kM,ch eK,ch uv] at h
   exact h
end
end Go.Proofs.YtgbggaddpbghfaaGreat
namespace Go.Proofs.YtgbggaddpbghfaaGreat
open Go Go.KA Go.Proofs
set_option maxHeartbeats 16000000
set_option maxRecDepth 100000
def qX(l:List Int)(x:Int):Bool:=l.all (fun y=> !(y==x))
theorem HA{l:List Int}{x:Int}:qX l x=true↔x∉l:=by
 unfold qX
 rw[List.all_eq_true]
 constructor
 ·intro h hx
  have:=h x hx
  simp at this
 ·intro h y hy
  have:y≠x:=fun e=>h (e▸hy)
  simpa using this
theorem HC(l:List Int)(x:Int):aE Tryz.prog 135 [.c (.ro 1 (l.map eI)),I x] (B (!qX l x)):=by
 refine cF Tryz.func135 (h:= ?_)
 repeat'((conv=>whnf);first
  |(apply bo.mk;first|((unfold qX;rw[dM (i:=i) (by omega) (by simpa using h)];rfl);done)|((unfold qX;rw[dG (by omega) ha];rfl);done)|skip)|(guard_target=~ aP 2 _ _ _ _ _ _;refine lp (Nat) [0,1] (fun i=>[(5,I (i:Nat))]) (fun i=>i≤l.length∧(l.take i).all (fun y=> !(y==x))=true) (fun i=>l.length-i) 0 (by exact⟨Nat.zero_le _,rfl⟩) (fun i ha=> ?_))
  |refine nx (i+1:Nat) (by exact fy (by omega) ha (by simpa using h))
  |(apply Fact.mk;intro hL;try simp only[List.length_map,maxLen] at hL)
  |((first|apply bA|apply bB|apply bC|apply bD|apply bE|apply bF)<;>intro h<;>(try simp only[List.length_map] at h)<;>(try omega)<;>(try contradiction))
  |refine aR ?_|(guard_target=Index _ _ _;first|refine Index.mk _ (bz (l:=l) (i:=i) (by omega)) ?_)
  |refine iX (k:= ?_)
  |apply ay.no
  |refine nO ?_)
 all_goals first|rfl|trivial
noncomputable def qI(p:cE)(k:Int):List aB→ae→ae→Bool
 |[],e,r=>eqv e r
 |st::ss,e,r=>if(gf iw p k e st).2=0 then qI p k ss (gf iw p k e st).1 r else false
theorem HD{p:cE}{k:Int}{l:List aB}{i:Nat}(h:i<l.length)(e r:ae):qI p k (l.drop i) e r=if(gf iw p k e (l.getD i ic)).2=0 then qI p k (l.drop (i+1)) (gf iw p k e (l.getD i ic)).1 r else false:=by
 rw[List.drop_eq_getElem_cons h,qI,getD_eq h]
section
variable{t a:Int}{p:cE}{k:Nat}{c:bw}{aX:ae→aB→ae}{aC:ae→aB→Int}{sh:List aB→ae→ae→Bool}{b:Bool}
 (hk:k<p.aj.length)(hk9:p.aj.length≤1000000)(hc:p.aj.getD k c0=c)(hr1:c.j9=1)(hsl:c.steps.length≤100)
 (co:ai Tryz.prog 137 [.c (.rp 9 (aH c))] [] (.a 3 (bQ c.left)))(hg:aW t a c.left=true)
 (cA:∀x st,aW t a x=true→st∈c.steps→ai Tryz.prog 172 [.c (.rp 3 (cL p)),I (k:Nat), .c (.rp 3 (sw x)), .c (.rp 5 (bU st))] [] (.tup [.a 3 (bQ (aX x st)),I (aC x st)]))
 (gA:∀x st,aC x st=0→aW t a (aX x st)=true)
 (cs:∀x,aE Tryz.prog 51 [.c (.rp 3 (sw x)), .c (.rp 6 ((aH c).drop 3))] (B (sh [] x c.right)))
 (sg:∀i,i<c.steps.length→∀x,sh (c.steps.drop i) x c.right=if aC x (c.steps.getD i ic)=0 then sh (c.steps.drop (i+1)) (aX x (c.steps.getD i ic)) c.right else false)
include hk hk9 hc hr1 hsl co hg cA gA cs sg
theorem DX:ai Tryz.prog 142 [.c (.rp 3 (cL p)),I (k:Nat)] [] (B (sh c.steps c.left c.right)):=by
 have _:=hk9
 obtain⟨R,hR⟩:∃R,sh c.steps c.left c.right=R:=⟨_,rfl⟩
 rw[hR]
 have hidx:(p.aj.map aH)[((k:Nat):Int).toNat]? =some (aH c):=by rw[←hc];exact aF (i:=k) (by omega)
 have hmem:∀i,i<c.steps.length→c.steps.getD i ic∈c.steps:=fun i h=>by rw[getD_eq h];exact List.getElem_mem h
 obtain⟨l,r,ru,rf,ss⟩:=c
 simp only[] at hr1
 subst hr1
 refine cX Tryz.func142 (h:= ?_)
 repeat'((conv=>whnf);first
  |(guard_target=aa _ 172 _ _ _ _;(have hlt:i<ss.length:=by omega);(have hq:=sg i hlt x);refine aa.own _ _ rfl (cA x _ hgx (hmem i hlt)) (kg (gY _)) _ rfl ?_)|(guard_target=Gh _ _ _ _ _;(have hcc:aC x (ss.getD i ic)=0:=by assumption);refine Gh.G8 0 _ rfl (Gh.IA 3 0 rfl (Gh.go ⟨((i+1,aX x (ss.getD i ic)):Nat × ae),(by exact⟨by show i+1≤ss.length;omega,(hq.trans (if_pos hcc)).symm.trans hS,gA _ _ hcc⟩),(by show _<_;(try simp only[]);omega),(by(repeat'((conv=>whnf)<;>(first|exact trivial|refine⟨?_, ?_⟩|kernel_rfl)));done),(by(repeat'((conv=>whnf)<;>(first|exact trivial|refine⟨?_, ?_⟩|kernel_rfl)));done),(by(repeat'((conv=>whnf)<;>(first|exact trivial|refine⟨?_, ?_⟩|kernel_rfl)));done)⟩)))
  |refine ah.mk ?_ ?_|(guard_target=~ aP 6 _ _ _ _ _ _;refine lX (Nat × ae) [0,1,5,6] (fun⟨i,x⟩=>[(7,I (i:Nat))]) (fun⟨i,x⟩=>[(0, .aG none 66 3 (x.kids.map az)),(2, .cells [.c (J x.kind), .c (J x.num), .lw 0])]) (fun⟨i,x⟩=>i≤ss.length∧sh (ss.drop i) x r=R∧aW t a x=true) (fun⟨i,x⟩=>ss.length-i) (0,l) (by exact⟨Nat.zero_le _,hR,hg⟩) (fun A ha=> ?_);obtain⟨i,x⟩:=A;have ha:i≤ss.length∧sh (ss.drop i) x r=R∧aW t a x=true:=ha;(obtain⟨hi,hS,hgx⟩:=ha))
  |(apply Fact.mk;intro hL;try simp only[List.length_map,maxLen] at hL)
  |((first|apply bA|apply bB|apply bC|apply bD|apply bE|apply bF)<;>intro h<;>(try simp only[List.length_map] at h)<;>(try omega)<;>(try contradiction))|(guard_target=aa _ 137 _ _ _ _;refine cG [] rfl (co) ?_)|(guard_target=aa _ 51 _ _ _ _;refine cP rfl (cs x) ?_)
  |refine aR ?_|(guard_target=Index _ _ _;first|refine Index.mk _ (hidx) ?_|refine Index.mk _ (aF (l:=ss) (d:=ic) (i:=i) (by omega)) ?_)
  |refine iX (k:= ?_)
  |refine nB ?_
  |apply ay.no
  |apply cj.go
  |refine nO ?_)
 all_goals first|rfl|trivial|(have e9:i=ss.length:=(by omega);exact congrArg (fun b=>SV.c (CV.val (Value.bool b))) ((by rw[e9,List.drop_length]:sh [] x r=sh (ss.drop i) x r).trans hS))|(have h8:=‹¬aC x (ss.getD i ic)=0›;exact congrArg (fun b=>SV.c (CV.val (Value.bool b))) ((hq.trans (if_neg h8)).symm.trans hS))
end
end Go.Proofs.YtgbggaddpbghfaaGreat
namespace Go.Proofs.YtgbggaddpbghfaaGreat
open Go Go.KA Go.Proofs
set_option maxHeartbeats 4000000
set_option maxRecDepth 100000
theorem F5{l:List aS}{r:Bool}{id:Int}(h:bK l r id<0):∀y∈l,y.bZ=r→y.id≠id:=by
 intro y hy h1 h2
 have h3:0≤bK l r id:=vu.1 (by
  unfold G3
  exact List.mem_map.2 ⟨y,List.mem_filter.2 ⟨hy,by simp[h1]⟩,h2⟩)
 omega
theorem LG{l:List aS}{r:Bool}{id:Int}(h:∀y∈l,y.bZ=r→y.id≠id):bK l r id<0:=by
 refine Int.not_le.1 fun h1=> ?_
 have h2:=vu.2 h1
 unfold G3 at h2
 obtain⟨y,hy,e⟩:=List.mem_map.1 h2
 rw[List.mem_filter] at hy
 exact h y hy.1 (by simpa using hy.2) e
theorem mC{t a:Int}{l:List aS}:dW t a l=true↔∀i,i<l.length→fx t a l i=true:=by
 unfold dW l3
 rw[List.all_eq_true]
 exact⟨fun h i hi=>h i (List.mem_range.2 hi),fun h i hi=>h i (List.mem_range.1 hi)⟩
theorem Aa{t a:Int}{l:List aS}{n:aS}(h:dW t a l=true)(h1:bI t a n=true)(h2:bK l n.bZ n.id<0)(h3:gz l n.entry.bu=true):dW t a (l++[n])=true:=by
 rw[mC] at h⊢
 intro i hi
 rw[List.length_append,List.length_singleton] at hi
 unfold fx
 by_cases e:i<l.length
 ·have h4:=h i e
  unfold fx at h4
  have e1:(l++[n]).getD i n0=l.getD i n0:=by
   rw[List.getD_eq_getElem?_getD,List.getD_eq_getElem?_getD,List.getElem?_append_left e]
  rw[e1,List.take_append_of_le_length (by omega)]
  exact h4
 ·obtain rfl:i=l.length:=by omega
  have e1:(l++[n]).getD l.length n0=n:=by simp[List.getD_eq_getElem?_getD]
  have e2:(l++[n]).take l.length=l:=by simp
  rw[e1,e2,h1,h3,decide_eq_true h2]
  rfl
theorem Fi{t a:Int}{l:List aS}(h:dW t a l=true)(k:Nat):dW t a (l.take k)=true:=by
 rw[mC] at h⊢
 intro i hi
 rw[List.length_take] at hi
 have h4:=h i (by omega)
 unfold fx at h4⊢
 have e1:(l.take k).getD i n0=l.getD i n0:=by
  rw[List.getD_eq_getElem?_getD,List.getD_eq_getElem?_getD,List.getElem?_take,if_pos (by omega)]
 rw[e1,List.take_take,Nat.min_eq_left (by omega)]
 exact h4
theorem dT.sub{l l':List aS}(h:dT l)(hs:∀x∈l',x∈l):dT l':=fun x hx y hy=>h x (hs x hx) y (hs y hy)
theorem dT.more{l l':List aS}{n:aS}(h:dT l)(hs:∀x∈l',x∈l∨x=n)(hn:∀y∈l,Alike n y):dT l':=fun x hx y hy=>by
 rcases hs x hx with h1|rfl<;>rcases hs y hy with h2|rfl
 ·exact h x h1 y h2
 ·exact(hn x h1).symm
 ·exact hn y h2
 ·exact Alike.refl _
theorem dO{a:ag}{x:aS}:x∈iq a↔(∃s∈a.ab,x∈s.notes)∨∃p∈a.aw,p.note=x:=by
 unfold iq
 simp only[List.mem_append,List.mem_flatMap,List.mem_map]
structure Gy(t a:Int)(s:aT):Prop where
 Fz:s.notes.length≤20
 sav:0≤s.saved∧s.saved≤(s.notes.length:Int)
 up:s.up=true∨s.saved=(s.notes.length:Int)
 ny:dW t a s.notes=true
theorem FJ{t a:Int}{s:aT}:bN t a s=true↔Gy t a s:=by
 unfold bN
 simp only[Bool.and_eq_true,Bool.or_eq_true,decide_eq_true_eq,beq_iff_eq]
 constructor
 ·rintro⟨h1,h2,h3,h4⟩
  exact⟨by omega,bW h2,h3,h4⟩
 ·rintro⟨h1,h2,h3,h4⟩
  exact⟨by omega,eQ h2.1 h2.2,h3,h4⟩
structure GB(a:ag):Prop where
 sig:bT a.sig.au a.sig.aq=true
 n5:dH 1 5 a.ab.length=true
 f12:a.aw.length≤12
 srv:∀s∈a.ab,Gy a.sig.au a.sig.aq s
 Pm:∀p∈a.aw,(0≤p.j1∧p.j1≤(a.ab.length:Int)-1)∧bI a.sig.au a.sig.aq p.note=true
 Pn:dT (iq a)
theorem KM{a:ag}:GA a↔GB a:=by
 constructor
 ·rintro⟨h1,h2,h3,h4,h5,h6⟩
  refine⟨h1,h2,by omega,fun s hs=>FJ.1 (List.all_eq_true.1 h4 s hs),fun p hp=> ?_,h6⟩
  have:=List.all_eq_true.1 h5 p hp
  unfold fW at this
  rw[Bool.and_eq_true] at this
  exact⟨bW this.1,this.2⟩
 ·rintro⟨h1,h2,h3,h4,h5,h6⟩
  refine⟨h1,h2,by omega,List.all_eq_true.2 fun s hs=>FJ.2 (h4 s hs),List.all_eq_true.2 fun p hp=> ?_,h6⟩
  unfold fW
  rw[Bool.and_eq_true]
  exact⟨eQ (h5 p hp).1.1 (h5 p hp).1.2,(h5 p hp).2⟩
section
variable{a:ag}(hG:GB a)
include hG
theorem GB.set{i:Int}{s:aT}(hs:Gy a.sig.au a.sig.aq s)(hA:dT (iq (iD a i s))):GB (iD a i s):=by
 refine⟨hG.sig, ?_,hG.f12,fun x hx=> ?_,fun p hp=> ?_,hA⟩
 ·show dH 1 5 (a.ab.set i.toNat s).length=true
  rw[List.length_set];exact hG.n5
 ·rcases List.mem_or_eq_of_mem_set hx with h|h
  ·exact hG.srv x h
  ·exact h▸hs
 ·show(0≤p.j1∧p.j1≤((a.ab.set i.toNat s).length:Int)-1)∧_
  rw[List.length_set];exact hG.Pm p hp
omit hG in
theorem Az{i:Int}{s:aT}{x:aS}(hx:x∈iq (iD a i s)):x∈iq a∨x∈s.notes:=by
 rw[dO] at hx
 rcases hx with⟨s',hs',hx⟩|⟨p,hp,hx⟩
 ·rcases List.mem_or_eq_of_mem_set hs' with h|h
  ·exact .inl (dO.2 (.inl ⟨s',h,hx⟩))
  ·exact .inr (h▸hx)
 ·exact .inl (dO.2 (.inr ⟨p,hp,hx⟩))
omit hG in
theorem iO{i:Int}(hi:b8 a i=true):sA a i∈a.ab:=by
 have h:=bW hi
 show a.ab.getD i.toNat cO∈_
 rw[getD_eq (by omega)]
 exact List.getElem_mem _
theorem GB.place{p:cJ}(hp:p∈a.aw):b8 a p.j1=true:=by
 have:=(hG.Pm p hp).1
 exact eQ this.1 this.2
theorem GB.add{i:Int}(hi:b8 a i=true){n:aS}(h1:bI a.sig.au a.sig.aq n=true)(h2:bK (sA a i).notes n.bZ n.id<0)(h3:gz (sA a i).notes n.entry.bu=true)(h4:¬(sA a i).notes.length=20)(h5:(sA a i).up=true)(h6:∀y∈iq a,Alike n y):GB (iD a i (kj (sA a i) n)):=by
 have hs:=hG.srv _ (iO hi)
 have h20:=hs.Fz
 have hsv:=hs.sav
 refine hG.set ⟨?_, ?_, .inl h5,Aa hs.ny h1 h2 h3⟩ ?_
 ·show((sA a i).notes++[n]).length≤20
  rw[List.length_append,List.length_singleton];omega
 ·show 0≤(sA a i).saved∧(sA a i).saved≤(((sA a i).notes++[n]).length:Int)
  rw[List.length_append,List.length_singleton];omega
 ·refine hG.Pn.more (n:=n) (fun x hx=> ?_) h6
  rcases Az hx with h|h
  ·exact .inl h
  ·rcases List.mem_append.1 h with h|h
   ·exact .inl (dO.2 (.inl ⟨_,iO hi,h⟩))
   ·exact .inr (List.mem_singleton.1 h)
theorem GB.O0{l:List cJ}(hl:l.length≤12)(h:∀p∈l,p∈a.aw∨((0≤p.j1∧p.j1≤(a.ab.length:Int)-1)∧bI a.sig.au a.sig.aq p.note=true∧p.note∈iq a)):GB ⟨a.sig,a.ab,l⟩:=by
 refine⟨hG.sig,hG.n5,hl,hG.srv,fun p hp=> ?_,hG.Pn.sub fun x hx=> ?_⟩
 ·rcases h p hp with h|h
  ·exact hG.Pm p h
  ·exact⟨h.1,h.2.1⟩
 ·rw[dO] at hx
  rcases hx with⟨s,hs,hx⟩|⟨p,hp,rfl⟩
  ·exact dO.2 (.inl ⟨s,hs,hx⟩)
  ·rcases h p hp with h|h
   ·exact dO.2 (.inr ⟨p,h,rfl⟩)
   ·exact h.2.2
theorem GB.note{s:aT}(hs:s∈a.ab){n:aS}(hn:n∈s.notes):bI a.sig.au a.sig.aq n=true:=by
 obtain⟨i,hi,rfl⟩:=List.mem_iff_getElem.1 hn
 have h:=mC.1 (hG.srv s hs).ny i hi
 unfold fx at h
 rw[getD_eq hi,Bool.and_eq_true] at h
 exact h.1
theorem GB.drop(i:Int):GB (eP a i).2:=by
 unfold eP
 split
 ·exact hG
 ·have:=hG.f12
  refine hG.O0 (by rw[List.length_append,List.length_take,List.length_drop];omega) fun p hp=> .inl ?_
  rcases List.mem_append.1 hp with hp|hp
  ·exact List.mem_of_mem_take hp
  ·exact List.mem_of_mem_drop hp
theorem GB.take{i:Int}(hi:0≤i):GB (cR a i).2:=by
 unfold cR
 split
 ·exact hG
 split
 ·exact hG
 split
 ·exact hG
 ·rename_i h1 h2 h3
  have hp:gI a i∈a.aw:=by
   show a.aw.getD i.toNat jd∈_
   rw[getD_eq (by omega)]
   exact List.getElem_mem _
  have h4:ln a (gI a i)=true:=by simpa using h2
  unfold ln at h4
  simp only[Bool.and_eq_true,decide_eq_true_eq] at h4
  exact hG.add (hG.place hp) (hG.Pm _ hp).2 h4.2.1 h4.2.2 h3 h4.1 fun y hy=>hG.Pn _ (dO.2 (.inr ⟨_,hp,rfl⟩)) y hy
theorem BG{e:bm}(he:bS a.sig.au a.sig.aq e=true):GB (l4 a e).2:=by
 unfold bS at he
 simp only[Bool.and_eq_true] at he
 have ea:=bW he.2.1
 have eb:=bW he.2.2.1
 have ec:=bW he.2.2.2.1
 unfold l4
 split
 ·unfold fF
  split
  ·exact(hG.take ea.1).drop e.a
  ·exact hG
 split
 ·exact hG.take ea.1
 split
 ·exact hG.drop e.a
 split
 ·exact hG
 rename_i hpl
 have hp:b8 a e.a=true:=by simpa using hpl
 have hpr:=bW hp
 have hs:=hG.srv _ (iO hp)
 split
 ·rename_i hk
  have hent:=he.2.2.2.2.2.2
  rw[if_pos hk,Bool.and_eq_true] at hent
  unfold eD
  split
  ·exact hG
  split
  ·exact hG
  split
  ·exact hG
  ·rename_i h1 h2 h3
   simp only[Bool.or_eq_true,Bool.not_eq_true',decide_eq_true_eq,not_or,Bool.not_eq_false,Bool.not_eq_true] at h1 h3
   have hid:0≤jC a e.a:=by
        unfold jC
        have:0≤(a.ab.length:Int)*((sA a e.a).notes.countP (qK a.ab.length e.a):Nat):=Int.mul_nonneg (by omega) (by omega)
        omega
   have htk:bK (iq a) false (jC a e.a)<0:=by
        have h9:=h3.2.2
        unfold nT at h9
        have:=of_decide_eq_false h9
        omega
   have hlt:jC a e.a≤99:=by
        have:=h3.2.1
        omega
   refine hG.add hp ?_ ?_ h1.2 h3.1 h1.1 fun y hy e1 _ e2=>absurd e1.symm (F5 htk y hy e2)
   ·unfold bI wm
    simp only[Bool.false_eq_true,if_false,beq_self_eq_true,Bool.true_and,Bool.and_eq_true]
    exact⟨eQ hid hlt,hent.1⟩
   ·exact LG fun y hy=>F5 htk y (dO.2 (.inl ⟨_,iO hp,hy⟩))
 split
 ·unfold cK
  split
  ·exact hG
  split
  ·exact hG
  split
  ·exact hG
  ·rename_i h1 h2 h3
   simp only[Bool.or_eq_true,Bool.not_eq_true',decide_eq_true_eq,not_or,Bool.not_eq_false] at h2
   refine hG.add hp ?_ (show bK (sA a e.a).notes true e.b<0 by omega) rfl h3 h2.1 fun y _ _ e1 _=>by cases e1
   unfold bI ya
   simp only[if_true,Bool.and_eq_true]
   exact⟨eQ eb.1 (by omega),rfl⟩
 split
 ·unfold dy
  split
  ·exact hG
  split
  ·exact hG
  split
  ·exact hG
  ·rename_i h1 h2 h3
   simp only[Bool.or_eq_true,Bool.not_eq_true',decide_eq_true_eq,not_or,Bool.not_eq_false] at h1
   have hf:=hG.f12
   have hb:=bW h1.1
   have hn:(sA a e.a).notes.getD e.c.toNat n0∈(sA a e.a).notes:=by
        rw[getD_eq (by omega)]
        exact List.getElem_mem _
   refine hG.O0 (by rw[List.length_append,List.length_singleton];omega) fun p hp'=> ?_
   rcases List.mem_append.1 hp' with hp'|hp'
   ·exact .inl hp'
   ·rw[List.mem_singleton.1 hp']
    exact .inr ⟨hb,hG.note (iO hp) hn,dO.2 (.inl ⟨_,iO hp,hn⟩)⟩
 ·have h1:=hs.Fz
  have h2:=hs.sav
  have hsub:∀s:aT,(∀x∈s.notes,x∈(sA a e.a).notes)→dT (iq (iD a e.a s)):=fun s hx=>hG.Pn.sub fun x h=>by
   rcases Az h with h|h
   ·exact h
   ·exact dO.2 (.inl ⟨_,iO hp,hx x h⟩)
  unfold iu
  split
  ·exact hG
  rename_i hup
  split
  ·exact hG.set ⟨h1,⟨by show(0:Int)≤((sA a e.a).notes.length:Nat);omega,Int.le_refl _⟩, .inr rfl,hs.ny⟩ (hsub _ fun x h=>h)
  split
  ·refine hG.set ⟨?_, ?_, .inr ?_,Fi hs.ny _⟩ (hsub _ fun x h=>List.mem_of_mem_take h)
   ·show((sA a e.a).notes.take _).length≤20
    rw[List.length_take];omega
   ·show 0≤(sA a e.a).saved∧(sA a e.a).saved≤(((sA a e.a).notes.take (sA a e.a).saved.toNat).length:Int)
    rw[List.length_take];omega
   ·show(sA a e.a).saved=(((sA a e.a).notes.take (sA a e.a).saved.toNat).length:Int)
    rw[List.length_take];omega
  ·exact hG.set ⟨h1,h2, .inl rfl,hs.ny⟩ (hsub _ fun x h=>h)
end
structure lh(s s':aT):Prop where
 sav:s.saved≤s'.saved
 pre:s.notes.take s.saved.toNat=s'.notes.take s.saved.toNat
theorem lh.refl(s:aT):lh s s:=⟨Int.le_refl _,rfl⟩
theorem lh.EH{t a:Int}{s:aT}(h:Gy t a s)(n:aS):lh s (kj s n):=⟨Int.le_refl _,by
 show _=(s.notes++[n]).take _
 rw[List.take_append_of_le_length (by have:=h.sav;omega)]⟩
theorem Hz{a:ag}{i:Int}{s:aT}{k:Nat}(hk:k<a.ab.length):(iD a i s).ab.getD k cO=if i.toNat=k then s else a.ab.getD k cO:=by
 show(a.ab.set i.toNat s).getD k cO=_
 exact xH hk
theorem Ic{a:ag}{i:Int}{s:aT}(hs:lh (sA a i) s){k:Nat}(hk:k<a.ab.length):lh (a.ab.getD k cO) ((iD a i s).ab.getD k cO):=by
 rw[Hz hk]
 split
 ·rename_i e
  subst e
  exact hs
 ·exact .refl _
theorem zE{a:ag}(hG:GB a){e:bm}(he:bS a.sig.au a.sig.aq e=true){k:Nat}(hk:k<a.ab.length):(l4 a e).2.ab.length=a.ab.length∧lh (a.ab.getD k cO) ((l4 a e).2.ab.getD k cO):=by
 unfold bS at he
 simp only[Bool.and_eq_true] at he
 have ea:=bW he.2.1
 have same:∀l:List cJ,(⟨a.sig,a.ab,l⟩:ag).ab.length=a.ab.length∧lh (a.ab.getD k cO) ((⟨a.sig,a.ab,l⟩:ag).ab.getD k cO):=fun _=>⟨rfl, .refl _⟩
 have self:a.ab.length=a.ab.length∧lh (a.ab.getD k cO) (a.ab.getD k cO):=⟨rfl, .refl _⟩
 have set':∀{i:Int} {s:aT},lh (sA a i) s→(iD a i s).ab.length=a.ab.length∧lh (a.ab.getD k cO) ((iD a i s).ab.getD k cO):=fun h=>⟨List.length_set,Ic h hk⟩
 have tk:(cR a e.a).2.ab.length=a.ab.length∧lh (a.ab.getD k cO) ((cR a e.a).2.ab.getD k cO):=by
  unfold cR
  split
  ·exact self
  split
  ·exact self
  split
  ·exact self
  ·rename_i h1 h2 h3
   have hp:gI a e.a∈a.aw:=by
        show a.aw.getD e.a.toNat jd∈_
        rw[getD_eq (by omega)]
        exact List.getElem_mem _
   exact set' (.EH (hG.srv _ (iO (hG.place hp))) _)
 unfold l4
 split
 ·unfold fF
  split
  ·unfold eP
   split
   ·exact tk
   ·exact tk
  ·exact self
 split
 ·exact tk
 split
 ·unfold eP
  split
  ·exact self
  ·exact same _
 split
 ·exact self
 rename_i hpl
 have hp:b8 a e.a=true:=by simpa using hpl
 have hs:=hG.srv _ (iO hp)
 split
 ·unfold eD
  repeat' split
  all_goals first|exact self|exact set' (.EH hs _)
 split
 ·unfold cK
  repeat' split
  all_goals first|exact self|exact set' (.EH hs _)
 split
 ·unfold dy
  repeat' split
  all_goals first|exact self|exact same _
 ·unfold iu
  split
  ·exact self
  split
  ·exact set' ⟨hs.sav.2,rfl⟩
  split
  ·exact set' ⟨Int.le_refl _,by show _=((sA a e.a).notes.take (sA a e.a).saved.toNat).take _;rw[List.take_take,Nat.min_self]⟩
  ·exact set' ⟨Int.le_refl _,rfl⟩
end Go.Proofs.YtgbggaddpbghfaaGreat
namespace Go.Proofs.YtgbggaddpbghfaaGreat
open Go Go.KA Go.Proofs
set_option maxHeartbeats 16000000
set_option maxRecDepth 100000
theorem Tree.wide{t a t' a':Int}(ht:t≤t')(ha:a≤a'){e:ae}(h:Tree t a e):Tree t' a' e:=by
 induction h with
 |zero=>exact .zero
 |one=>exact .one
 |test h0 h1=>exact .test h0 (by omega)
 |act h0 h1=>exact .act h0 (by omega)
 |not hc _ ih=>exact .not hc ih
 |sum _ _ h1 h2=>exact .sum h1 h2
 |dot _ _ h1 h2=>exact .dot h1 h2
 |star _ ih=>exact .star ih
theorem jZ{t a:Int}{c:bw}(h:cI t a c=true):aW t a c.left=true∧aW t a c.right=true∧c.steps.length≤60∧∀s∈c.steps,b9 t a s=true:=by
 simp only[cI,Bool.and_eq_true,decide_eq_true_eq,List.all_eq_true] at h
 exact⟨h.1,h.2.1,by omega,h.2.2.2.2.2.2⟩
section
variable{t a:Int}(hs:bT t a=true)(hg:0≤t∧t≤3∧0≤a∧a≤4){cl:List bw}(hcl:∀c∈cl,cI t a c=true)
include hg hcl
theorem Eo{k use:Int}(hu:use≤23)(h:(jw iw ⟨⟨t,a⟩,cl⟩ k use).2=true):yB (jw iw ⟨⟨t,a⟩,cl⟩ k use).1:=by
 by_cases h0:0≤use
 ·exact zk h0 hu k
 ·unfold jw at h⊢
  rw[if_neg (by omega)] at h⊢
  by_cases h1: -1-use≥k
  ·rw[if_pos h1] at h;cases h
  ·rw[if_neg h1] at h⊢
   by_cases h2: -1-use≥((cl.length:Nat):Int)
   ·rw[if_pos h2] at h;cases h
   ·rw[if_neg h2]
    have hm:(cl.getD (-1-use).toNat ⟨cQ,cQ,0,0,[]⟩)∈cl:=by
      rw[getD_eq (by omega)]
      exact List.getElem_mem _
    have hc:=jZ (hcl _ hm)
    exact⟨(gB _ (gk.1 hc.1).2.2).wide hg.2.1 hg.2.2.2,(gB _ (gk.1 hc.2.1).2.2).wide hg.2.1 hg.2.2.2,dx hc.1,dx hc.2.1⟩
include hs
theorem Cg{k:Nat}(hk:k<cl.length)(hn:cl.length≤40)(hr:(cl.getD k c0).j9=1):ai Tryz.prog 142 [.c (.rp 3 (cL ⟨⟨t,a⟩,cl⟩)),I (k:Nat)] [] (B (qI ⟨⟨t,a⟩,cl⟩ (k:Nat) (cl.getD k c0).steps (cl.getD k c0).left (cl.getD k c0).right)):=by
 have hm:cl.getD k c0∈cl:=by
  rw[getD_eq hk]
  exact List.getElem_mem _
 have hc:=jZ (hcl _ hm)
 generalize hC:cl.getD k c0=c at hm hc hr⊢
 have hst:∀st∈c.steps, -40≤st.use∧st.use≤23∧(∀x∈st.au,ao x≤200)∧∀x∈st.c9,ao x≤200:=fun st h=>by
  have h1:=hc.2.2.2 st h
  have h2:=jl h1
  simp only[b9,Bool.and_eq_true] at h1
  have h3:=bW h1.1
  exact⟨by omega,by omega,fun x hx=>dx (h2.1 x hx),fun x hx=>dx (h2.2 x hx)⟩
 refine DX (t:=t) (a:=a) (p:=⟨⟨t,a⟩,cl⟩) (aX:=fun x st=>(gf iw ⟨⟨t,a⟩,cl⟩ k x st).1) (aC:=fun x st=>(gf iw ⟨⟨t,a⟩,cl⟩ k x st).2) (sh:=qI ⟨⟨t,a⟩,cl⟩ k) hk (by show cl.length≤_;omega) hC hr (by omega) ?_ hc.1 (fun x st hx hs'=> ?_) (fun x st h=>rW (p:=⟨⟨t,a⟩,cl⟩) h) (fun x=> ?_) (fun i hi x=>HD hi x c.right)
 ·have h:=(er c.left (by have:=dx hc.1;omega))
  rw[a9] at h
  exact h.cut (.cut (sz:=9) (k:=3) (cs:=aH c) (by decide) .nil)
 ·obtain⟨b1,b2,b3,b4⟩:=hst st hs'
  have h:=rz ⟨⟨t,a⟩,cl⟩ hs k x (dx hx) st (by omega) (fun hq=>Eo hg hcl b2 hq) b3 b4
  rw[pL] at h
  exact h
 ·have h1:=nE x c.right
  rw[pL] at h1
  exact h1.cut (.same (.cut (sz:=6) (k:=3) (cs:=(aH c).drop 3) (by decide) .nil))
end
noncomputable def Px(p:cE)(k:Nat):Bool:=qI p (k:Nat) (p.aj.getD k c0).steps (p.aj.getD k c0).left (p.aj.getD k c0).right
noncomputable def PF(notes:List aS)(r:List Int)(p:cE)(i:Nat):Bool:=eqv (nI (notes.getD (bK notes false (r.getD i 0)).toNat n0).entry) (⟨(p.aj.getD i c0).left,(p.aj.getD i c0).right⟩:bX)
theorem Hw{k n:Nat}(h:k=n)(f:Nat→Bool):l3 (k-n) f=true:=by rw[h,Nat.sub_self];rfl
theorem Jh{n k:Nat}{g:Nat→Bool}(hk:n≤k)(h:l3 (k-n) (fun j=>g (n+j))=true)(h2:g k=true):l3 (k+1-n) (fun j=>g (n+j))=true:=by
 rw[show k+1-n=(k-n)+1 by omega]
 refine pE h ?_
 show g (n+(k-n))=true
 rwa[show n+(k-n)=k by omega]
section
variable{n m:Nat}{say shw:Nat→Bool}
def uT(n m:Nat)(say shw:Nat→Bool):Bool:=l3 n say&&l3 (m-n) (fun j=>shw (n+j))
theorem G6{i:Nat}(hi:i<n)(h:say i=false):uT n m say shw=false:=by
 unfold uT
 rw[zI hi h,Bool.false_and]
theorem H6{k:Nat}(h1:n≤k)(hk:k<m)(h:shw k=false):uT n m say shw=false:=by
 unfold uT
 rw[zI (n:=m-n) (i:=k-n) (p:=fun j=>shw (n+j)) (by omega) (by show shw (n+(k-n))=false;rwa[show n+(k-n)=k by omega]),Bool.and_false]
theorem yQ{i k:Nat}(hi:i=n)(hk:k=m)(h1:l3 i say=true)(h2:l3 (k-n) (fun j=>shw (n+j))=true):uT n m say shw=true:=by
 subst hi hk
 unfold uT
 rw[h1,h2]
 rfl
end
noncomputable def Eh(notes:List aS)(r:List Int)(p:cE):Bool:=uT r.length p.aj.length (PF notes r p) (Px p)
theorem Ea{sv:aT}{r:List Int}{p:cE}{say shw:Nat→Bool}(hr:r.length≤p.aj.length)(hp:p.aj.length≤40)(hr9:r.length≤4)
 (hsp:∀i,i<r.length→0≤bK sv.notes false (r.getD i 0)∧bK sv.notes false (r.getD i 0)<(sv.notes.length:Nat))
 (hlm:∀i,i<r.length→aE Tryz.prog 136 [.c (.rp 5 (ki (sv.notes.getD (bK sv.notes false (r.getD i 0)).toNat n0).entry))] (.a 6 (aV (nI (sv.notes.getD (bK sv.notes false (r.getD i 0)).toNat n0).entry))))
 (hse:∀i,i<r.length→aE Tryz.prog 141 [.c (.rp 6 (aV (nI (sv.notes.getD (bK sv.notes false (r.getD i 0)).toNat n0).entry))), .c (.rp 6 (aV ⟨(p.aj.getD i c0).left,(p.aj.getD i c0).right⟩))] (B (say i)))
 (hsh:∀k,r.length≤k→k<p.aj.length→ai Tryz.prog 142 [.c (.rp 3 (cL p)),I (k:Nat)] [] (B (shw k))):
 aE Tryz.prog 110 [.c (.rp 3 (dt sv)), .c (.ro 1 (r.map eI)), .c (.rp 3 (cL p))] (B (uT r.length p.aj.length say shw)):=by
 have hlr:(r.map eI).length=r.length:=List.length_map _
 refine cF Tryz.func110 (h:= ?_)
 repeat'((conv=>whnf);first
  |apply bo.mk|(guard_target=~ aP 2 _ _ _ _ _ _;refine lp (Nat) [0,1,2] (fun i=>[(7,I (i:Nat))]) (fun i=>i≤r.length∧l3 i say=true) (fun i=>r.length-i) 0 (by exact⟨Nat.zero_le _,rfl⟩) (fun i ha=> ?_);have hA1:=ha.2;have hB1:=ha.1)|(guard_target=~ aP 9 _ _ _ _ _ _;refine lp (Nat) [2] (fun k=>[(10,I (k:Nat))]) (fun k=>(r.length≤k∧k≤p.aj.length)∧l3 (k-r.length) (fun j=>shw (r.length+j))=true) (fun k=>p.aj.length-k) ((r.map eI).length) (by exact⟨⟨by show r.length≤(r.map eI).length;omega,by show(r.map eI).length≤_;omega⟩,Hw hlr _⟩) (fun k ha=> ?_))
  |refine nx (i+1:Nat) (by exact⟨by show i+1≤_;omega,pE ha.2 (by assumption)⟩)
  |refine nx (k+1:Nat) (by exact⟨by show _≤k+1∧k+1≤_;omega,Jh (by omega) ha.2 (by assumption)⟩)
  |(apply Fact.mk;intro hL;try simp only[List.length_map,maxLen] at hL)
  |((first|apply bA|apply bB|apply bC|apply bD|apply bE|apply bF)<;>intro h<;>(try simp only[List.length_map] at h)<;>(try omega)<;>(try contradiction))|(guard_target=aa _ 60 _ _ _ _;refine cP rfl (gR sv.notes false (r.getD i 0)) ?_)|(guard_target=aa _ 136 _ _ _ _;refine cP rfl (hlm i (by omega)) ?_)|(guard_target=aa _ 140 _ _ _ _;refine cP rfl (pU (p.aj.getD i c0)) ?_)|(guard_target=aa _ 141 _ _ _ _;refine cP rfl (hse i (by omega)) ?_)|(guard_target=aa _ 142 _ _ _ _;refine cG [] rfl (hsh k (by omega) (by omega)) ?_)
  |refine aR ?_|(guard_target=Index _ _ _;first|refine Index.mk _ (aF (l:=r) (d:=0) (i:=i) (by omega)) ?_|refine Index.mk _ (aF (d:=c0) (i:=i) (by omega)) ?_|refine Index.mk _ (aF (d:=n0) (i:=(bK sv.notes false (r.getD i 0)).toNat) (by(have:=hsp i (by omega));omega)) ?_)
  |refine iX (k:= ?_)
  |refine nB ?_
  |apply ay.no
  |apply cj.go|(guard_target=aQ _ _;refine aQ.mk (by first|(((have hs7:=hsp i (by omega));omega))|fail) ?_)
  |refine nO ?_)
 all_goals first|exact congrArg B (G6 (i:=i) (by omega) (by assumption)).symm|exact congrArg B (H6 (k:=k) (by omega) (by omega) (by assumption)).symm|exact congrArg B (yQ (i:=i) (k:=k) (by omega) (by omega) (by assumption) ha.2).symm|exact congrArg B (yQ (i:=i) (k:=k) (by omega) (by omega) ha.2 (by assumption)).symm
end Go.Proofs.YtgbggaddpbghfaaGreat
