/- Steps that are found, lists and steps that are drawn, as plain functions, and that they are valid. Plain laws. No conditions. -/
import Derived.Test.YtgbggaddpbghfaaGreatKAQ
namespace Go.Proofs.YtgbggaddpbghfaaGreat
open Go Go.KA Go.Proofs
set_option maxHeartbeats 4000000
set_option maxRecDepth 100000
theorem gp{t a:Int}{e:ae}:aY t a e=true↔gZ e≤200∧eD e≤40∧dK t a e=true:=by
 have h:=((ng e).1 200)
 unfold cT at h
 simp only[aY,Bool.and_eq_true,decide_eq_true_eq]
 constructor
 ·rintro⟨h1,h2,h3⟩
  have:=h.1 h1
  exact⟨by simp only[gZ];omega,by omega,h3⟩
 ·rintro⟨h1,h2,h3⟩
  exact⟨h.2 (by simp only[gZ] at h1;omega),by omega,h3⟩
theorem EH{t a:Int}{e k:ae}(h:dK t a e=true)(hk:k∈e.kids):dK t a k=true:=by
 rw[gk] at h
 simp only[Bool.and_eq_true,beq_iff_eq] at h
 obtain⟨h1,h2⟩:=h
 split at h2
 ·rename_i h3
  rw[h3] at h1
  have:e.kids=[]:=by simpa[cR] using h1
  rw[this] at hk
  cases hk
 ·split at h2
  ·rename_i h3
   rw[h3] at h1
   have:e.kids=[]:=by simpa[cR] using h1
   rw[this] at hk
   cases hk
  ·simp only[Bool.and_eq_true,List.all_eq_true] at h2
   exact h2.2.2 k hk
theorem J0{t a:Int}{e:ae}(h:dK t a e=true):e.kids.length≤2:=by
 rw[gk] at h
 simp only[Bool.and_eq_true,beq_iff_eq] at h
 have h1:=h.1
 unfold cR at h1
 repeat' split at h1
 all_goals omega
theorem xk:∀{l:List ae} {x:ae},x∈l→eD x≤eN l
 |y::l,x,h=>by
  rw[eN]
  rcases List.mem_cons.1 h with rfl|h
  ·omega
  ·have:=xk h
   omega
theorem Cj{t a:Int}{e x:ae}(h:aY t a e=true)(hx:x∈e.kids):aY t a x=true∧eD x+1≤eD e:=by
 rw[gp] at h⊢
 have h1:=vK (e:=e) hx
 have h2:=xk hx
 have h3:=uA e
 exact⟨⟨by omega,by omega,EH h.2.2 hx⟩,by omega⟩
theorem oI(t a:Int):aY t a (.mk 2 0 [])=true:=w4 ⟨t,a⟩ (⟨rfl,fun _=>rfl,Nat.le_refl 1⟩:fq t a true 0 (.mk 2 0 [])) (by decide) (by decide)
theorem KL:cQ (.mk 2 0 [])=true:=rfl
section
variable{t a:Int}
structure Ai(t a:Int)(F:Fit):Prop where
 ts:∀x∈F.au,x.kind=0∨(aY t a x=true∧cQ x=true)
 us:∀x∈F.c9,x.kind=0∨aY t a x=true
theorem Ow:Ai t a pq:=⟨fun x hx=>by simp[Fit.au,pq] at hx;subst hx;exact .inl rfl,fun x hx=>by simp[Fit.c9,pq] at hx;subst hx;exact .inl rfl⟩
theorem JK{P:ae→Prop}{wS e:ae}(h:wS.kind=0∨P wS)(he:P e):(dL wS e).kind=0∨P (dL wS e):=by
 unfold dL
 split
 ·exact .inr he
 ·exact h
theorem MW{F:Fit}(hF:Ai t a F)(n:Int){e:ae}(he:aY t a e=true)(hc:cQ e=true):Ai t a (vd F n e).2:=by
 have h0:=hF.ts F.t0 (by simp[Fit.au])
 have h1:=hF.ts F.t1 (by simp[Fit.au])
 have h2:=hF.ts F.t2 (by simp[Fit.au])
 unfold vd
 repeat' split
 all_goals
  refine⟨fun x hx=> ?_,fun x hx=>hF.us x hx⟩
  simp only[Fit.au,List.mem_cons,List.not_mem_nil,or_false] at hx
  rcases hx with rfl|rfl|rfl
  all_goals first|assumption|exact JK (P:=fun x=>aY t a x=true∧cQ x=true) (by assumption) ⟨he,hc⟩
theorem Mu{F:Fit}(hF:Ai t a F)(n:Int){e:ae}(he:aY t a e=true):Ai t a (tc F n e).2:=by
 have h0:=hF.us F.a0 (by simp[Fit.c9])
 have h1:=hF.us F.a1 (by simp[Fit.c9])
 have h2:=hF.us F.a2 (by simp[Fit.c9])
 have h3:=hF.us F.a3 (by simp[Fit.c9])
 unfold tc
 repeat' split
 all_goals
  refine⟨fun x hx=>hF.ts x hx,fun x hx=> ?_⟩
  simp only[Fit.c9,List.mem_cons,List.not_mem_nil,or_false] at hx
  rcases hx with rfl|rfl|rfl|rfl
  all_goals first|assumption|exact JK (P:=fun x=>aY t a x=true) (by assumption) he
mutual
theorem Lv:∀(p y:ae) (F:Fit),aY t a y=true→Ai t a F→Ai t a (fM p y F).2
 | .mk k n ks,y,F,hy,hF=>by
   rw[fM]
   split
   ·split
    ·rename_i hc
     exact MW hF n hy hc
    ·exact hF
   ·split
    ·exact Mu hF n hy
    ·split
     ·exact Kr ks y.kids F (fun x hx=>(Cj hy hx).1) hF
     ·exact hF
theorem Kr:∀(ps ys:List ae) (F:Fit),(∀x∈ys,aY t a x=true)→Ai t a F→Ai t a (oQ ps ys F).2
 |p::ps,y::ys,F,hy,hF=>by
  rw[oQ]
  have h1:=Lv p y F (hy y (by simp)) hF
  split
  ·exact Kr ps ys _ (fun x hx=>hy x (by simp[hx])) h1
  ·exact h1
 |[],ys,F,_,hF=>by
  rw[oQ]
  ·exact hF
  ·intro _ _ _ _ h;cases h
 |p::ps,[],F,_,hF=>by
  rw[oQ]
  ·exact hF
  ·intro _ _ _ _ _ h;cases h
end
theorem Oq{x:ae}(h:x.kind=0∨aY t a x=true):aY t a (iI x)=true:=by
 unfold iI
 split
 ·exact oI t a
 ·exact h.resolve_left (by assumption)
theorem Gm{x:ae}(h:x.kind=0∨(aY t a x=true∧cQ x=true)):aY t a (iI x)=true∧cQ (iI x)=true:=by
 unfold iI
 split
 ·exact⟨oI t a,KL⟩
 ·exact h.resolve_left (by assumption)
theorem Eh(l:List ae)(n:Int):(eX l n).length≤l.length:=by
 unfold eX
 rw[List.length_map,List.length_take]
 exact Nat.min_le_right _ _
def iZ(t a:Int)(s:aB):Prop:=cU t a s=true∧0≤s.use
theorem LB{e:ae}{use:Int}{back:Bool}{fr to:ae}{path:List Int}{node:ae}{st:aB}(hn:aY t a node=true)(hp:path.all (dJ 0 1)=true)(hl:path.length≤40)(hu:0≤use∧use≤23)
 (h:vF t a e use back fr to path node=some st):iZ t a st:=by
 have hF:=Lv fr node pq hn Ow
 unfold vF at h
 split at h
 ·cases h
 split at h
 ·cases h
 simp only[] at h
 split at h
 ·cases h
 split at h
 ·have e1:=(Option.some.inj h).symm
  subst e1
  generalize(fM fr node pq).2=F at hF⊢
  have h1:=Eh F.au (dm 3 fr (dm 3 to 0))
  have h2:=Eh F.c9 (dm 4 fr (dm 4 to 0))
  have e3:F.au.length=3:=rfl
  have e4:F.c9.length=4:=rfl
  refine⟨?_,hu.1⟩
  simp only[cU,Bool.and_eq_true,decide_eq_true_eq,List.all_eq_true]
  refine⟨eL (by omega) hu.2,by omega,fun x hx=>List.all_eq_true.1 hp x hx,by omega,by omega,fun x hx=> ?_,fun x hx=> ?_,fun x hx=> ?_⟩
  ·obtain⟨y,hy,rfl⟩:=List.mem_map.1 hx
   exact(Gm (hF.ts y (List.mem_of_mem_take hy))).1
  ·obtain⟨y,hy,rfl⟩:=List.mem_map.1 hx
   exact(Gm (hF.ts y (List.mem_of_mem_take hy))).2
  ·obtain⟨y,hy,rfl⟩:=List.mem_map.1 hx
   exact Oq (hF.us y (List.mem_of_mem_take hy))
 ·cases h
theorem KE{P:aB→Prop}{s:oy}(hs:∀x∈s.out,P x){o:Option aB}(ho:∀x,o=some x→P x):∀x∈(sa s o).out,P x:=by
 cases o with
 |none=>exact hs
 |some y=>
  unfold sa
  simp only[]
  split
  ·exact hs
  ·intro x hx
   rcases List.mem_append.1 hx with hx|hx
   ·exact hs x hx
   ·rw[List.mem_singleton.1 hx];exact ho y rfl
section
variable(ax:List bT)(e:ae)
theorem Kt{path:List Int}{node:ae}(hn:aY t a node=true)(hp:path.all (dJ 0 1)=true)(hl:path.length≤40):∀(m use:Nat) (s:oy),use+m≤24→(∀x∈s.out,iZ t a x)→∀x∈(rr t a ax e path node m use s).out,iZ t a x
 |0,_,s,_,hs=>hs
 |m+1,use,s,hm,hs=>by
  rw[rr]
  split
  ·exact hs
  ·refine Kt hn hp hl m (use+1) _ (by omega) ?_
   refine KE (KE hs fun x hx=> ?_) fun x hx=> ?_
   ·exact LB hn hp hl ⟨by omega,by omega⟩ hx
   ·exact LB hn hp hl ⟨by omega,by omega⟩ hx
mutual
theorem DP(hax:ax.length=24):∀(node:ae) (path:List Int) (s:oy),aY t a node=true→path.all (dJ 0 1)=true→path.length+eD node≤40→(∀x∈s.out,iZ t a x)→∀x∈(jR t a ax e node path s).out,iZ t a x
 | .mk k n ks,path,s,hn,hp,hl,hs=>by
   rw[jR]
   have h2:=J0 (gp.1 hn).2.2
   refine BI hax ks path 0 _ (by simp only[ae.kids] at h2;omega) (fun x hx=> ?_) hp (Kt ax e hn hp (by omega) _ _ _ (by omega) hs)
   have h3:=Cj hn hx
   exact⟨h3.1,by omega⟩
theorem BI(hax:ax.length=24):∀(l:List ae) (path:List Int) (i:Nat) (s:oy),i+l.length≤2→(∀x∈l,aY t a x=true∧path.length+1+eD x≤40)→path.all (dJ 0 1)=true→(∀x∈s.out,iZ t a x)→∀x∈(eP t a ax e l path i s).out,iZ t a x
 |[],_,_,s,_,_,_,hs=>by rw[eP];exact hs
 |y::l,path,i,s,hi,hl,hp,hs=>by
  rw[eP]
  split
  ·exact hs
  ·simp only[List.length_cons] at hi
   have h1:=hl y (by simp)
   refine BI hax l path (i+1) _ (by omega) (fun x hx=>hl x (by simp[hx])) hp (DP hax y _ s h1.1 ?_ (by simp only[List.length_append,List.length_cons,List.length_nil];omega) hs)
   rw[List.all_append,hp]
   simp only[List.all_cons,List.all_nil,Bool.and_true,Bool.true_and]
   exact eL (by omega) (by omega)
end
end
theorem Gx{e:ae}(he:aY t a e=true):∀x∈(l4 t a iD e).out,iZ t a x:=DP iD e vU e [] ⟨[],false⟩ he rfl (by have:=(gp.1 he).2.1;simpa using this) (by simp)
theorem Mv{e y:ae}{p:List Int}(h:(m8 t a e p y).2=0):aY t a (m8 t a e p y).1=true:=by
 unfold m8 at h⊢
 split
 ·rename_i h1;rw[if_pos h1] at h;cases h
 split
 ·rename_i h1 h2;rw[if_neg h1,if_pos h2] at h;cases h
 split
 ·rename_i h1 h2 h3;rw[if_neg h1,if_neg h2,if_pos h3] at h;cases h
 ·rename_i h3;simpa using h3
end
theorem sc{ax:List bT}{p:cx}{k:Int}{e:ae}{s:aB}(h:(fW ax p k e s).2=0):aY p.sig.au p.sig.ai (fW ax p k e s).1=true:=by
 have hr:=fun to=>Mv (t:=p.sig.au) (a:=p.sig.ai) (e:=e) (p:=s.path) (y:=to)
 revert h
 simp only[fW]
 repeat' split
 all_goals first|(intro h;cases h;done)|exact hr _
theorem zh{p:cx}{use:Int}(h0:0≤use)(h1:use≤23)(k:Int):yZ (jr iD p k use).1:=by
 unfold jr
 rw[if_pos h0]
 refine Dp _ ?_
 rw[getD_eq (by rw[vU];omega)]
 exact List.getElem_mem _
theorem ux{t a:Int}{s:aB}(h:iZ t a s):0≤s.use∧s.use≤23:=by
 have h1:=h.1
 simp only[cU,Bool.and_eq_true] at h1
 have h2:=bX h1.1
 have h3:=h.2
 omega
theorem jj{t a:Int}{s:aB}(h:cU t a s=true):(∀x∈s.au,aY t a x=true)∧∀x∈s.c9,aY t a x=true:=by
 simp only[cU,Bool.and_eq_true,List.all_eq_true] at h
 exact⟨h.2.2.2.2.2.1,h.2.2.2.2.2.2.2⟩
def ow:List ByteArray:=[⟨#[116,48]⟩,⟨#[126,116,48]⟩,⟨#[49]⟩,⟨#[48]⟩,⟨#[40,116,48,32,43,32,48,41]⟩]
def uR(l:List ByteArray)(s:Src):ByteArray:=l.getD (bK s l.length).toNat ⟨#[]⟩
def CO(l:List ByteArray)(s:Src):Src:=ar s l.length
def CF(t a:Int)(x:ByteArray):ae:=if(iU t a x).2=0 then(iU t a x).1 else .mk 2 0 []
def eC(t a:Int)(s:Src):Nat→List ae × Src
 |0=>([],s)
 |i+1=>((eC t a s i).1++[CF t a (uR ow (eC t a s i).2)],CO ow (eC t a s i).2)
def lD(t a:Int)(s:Src):Nat→List ae × Src
 |0=>([],s)
 |i+1=>((lD t a s i).1++[(bo ⟨t,a⟩ 6 false ⟨(lD t a s i).2,4⟩).1],(bo ⟨t,a⟩ 6 false ⟨(lD t a s i).2,4⟩).2.s)
def wR(t a:Int)(one two:Int)(s:Src):List ae × List ae × Src:=
 ((eC t a s one.toNat).1,(lD t a (eC t a s one.toNat).2 two.toNat).1,(lD t a (eC t a s one.toNat).2 two.toNat).2)
theorem iP.expr{s:Src}{n:Int}(h:iP s n)(g:jd)(d:Nat)(c:Bool)(l:Int):iP (bo g d c ⟨s,l⟩).2.s (n+lV d):=⟨Rd.expr g d c ⟨s,l⟩ h.rd,by rw[jk];exact h.len⟩
theorem qe{t a:Int}{s:Src}{n:Int}(h:iP s n):∀i:Nat,iP (eC t a s i).2 (n+2*i)
 |0=>h.mono (by omega)
 |i+1=>by
  have h1:=(qe (t:=t) (a:=a) h i).pick ((ow.length:Nat):Int)
  exact h1.mono (by omega)
theorem wC{t a:Int}{s:Src}{n:Int}(h:iP s n):∀i:Nat,iP (lD t a s i).2 (n+20000*i)
 |0=>h.mono (by omega)
 |i+1=>by
  have h1:=(wC (t:=t) (a:=a) h i).expr ⟨t,a⟩ 6 false 4
  have:=wT
  exact h1.mono (by omega)
theorem rJ(t a:Int)(s:Src):∀i:Nat,(eC t a s i).1.length=i
 |0=>rfl
 |i+1=>by rw[eC,List.length_append,rJ];rfl
theorem uy(t a:Int)(s:Src):∀i:Nat,(lD t a s i).1.length=i
 |0=>rfl
 |i+1=>by rw[lD,List.length_append,uy];rfl
theorem lh(t a:Int)(c:Bool)(r:Eo):aY t a (bo ⟨t,a⟩ 6 c r).1=true:=w4 ⟨t,a⟩ (ky ⟨t,a⟩ 6 c r) (by decide) (by have:=nz ⟨t,a⟩ 6 c r;omega)
theorem FH{t a:Int}{x:ByteArray}(h:(iU t a x).2=0):aY t a (iU t a x).1=true:=by
 unfold iU at h⊢
 split
 ·rename_i h1;rw[if_pos h1] at h;cases h
 split
 ·rename_i h2;exact h2.2
 ·rename_i h1 h2;rw[if_neg h1,if_neg h2] at h;cases h
theorem F4(t a:Int)(x:ByteArray):aY t a (CF t a x)=true:=by
 unfold CF
 split
 ·exact FH (by assumption)
 ·exact oI t a
theorem uT(t a:Int)(s:Src):∀i:Nat,∀x∈(eC t a s i).1,aY t a x=true
 |0,x,h=>by cases h
 |i+1,x,h=>by
  rw[eC] at h
  rcases List.mem_append.1 h with h|h
  ·exact uT t a s i x h
  ·rw[List.mem_singleton.1 h];exact F4 t a _
theorem xS(t a:Int)(s:Src):∀i:Nat,∀x∈(lD t a s i).1,aY t a x=true
 |0,x,h=>by cases h
 |i+1,x,h=>by
  rw[lD] at h
  rcases List.mem_append.1 h with h|h
  ·exact xS t a s i x h
  ·rw[List.mem_singleton.1 h];exact lh t a _ _
theorem Ft:ow.all (fun x=>cQ (kF x).1)=true:=by kernel_rfl
theorem IH(s:Src):uR ow s∈ow:=by
 have h:=ch s (n:=(ow.length:Nat)) (by decide)
 unfold uR
 rw[getD_eq (by omega)]
 exact List.getElem_mem _
theorem EK(t a:Int)(s:Src):cQ (CF t a (uR ow s))=true:=by
 have h:=List.all_eq_true.1 Ft _ (IH s)
 unfold CF
 split
 ·rename_i h1
  unfold iU at h1⊢
  split
  ·rename_i h2;rw[if_pos h2] at h1;cases h1
  split
  ·exact h
  ·rename_i h2 h3;rw[if_neg h2,if_neg h3] at h1;cases h1
 ·rfl
theorem uN(t a:Int)(s:Src):∀i:Nat,∀x∈(eC t a s i).1,cQ x=true
 |0,x,h=>by cases h
 |i+1,x,h=>by
  rw[eC] at h
  rcases List.mem_append.1 h with h|h
  ·exact uN t a s i x h
  ·rw[List.mem_singleton.1 h];exact EK t a _
def ic:aB:=⟨0,false,[],[],[]⟩
noncomputable def iQ(p:cx):Nat→Src→ae→List aB→List aB × ae × Src
 |0,s,e,out=>(out,e,s)
 |i+1,s,e,out=>
  if(l4 p.sig.au p.sig.ai iD e).bad=true∨(l4 p.sig.au p.sig.ai iD e).out.length=0 then(out,e,s)
  else
   let st:=(l4 p.sig.au p.sig.ai iD e).out.getD (bK s (l4 p.sig.au p.sig.ai iD e).out.length).toNat ic
   let s':=ar s (l4 p.sig.au p.sig.ai iD e).out.length
   if(fW iD p 0 e st).2=0∧gZ (fW iD p 0 e st).1≤60 then iQ p i s' (fW iD p 0 e st).1 (out++[st]) else(out,e,s')
theorem KJ{l:List aB}(h:¬l.length=0)(s:Src):l.getD (bK s l.length).toNat ic∈l:=by
 have h1:=ch s (n:=(l.length:Nat)) (by omega)
 rw[getD_eq (by omega)]
 exact List.getElem_mem _
theorem zj(p:cx):∀(i:Nat) (s:Src) (e:ae) (out:List aB) (n:Int),iP s n→iP (iQ p i s e out).2.2 (n+2*i)
 |0,s,e,out,n,h=>h.mono (by omega)
 |i+1,s,e,out,n,h=>by
  rw[iQ]
  split
  ·exact h.mono (by omega)
  ·simp only[]
   split
   ·exact(zj p i _ _ _ (n+2) (h.pick _)).mono (by omega)
   ·exact(h.pick _).mono (by omega)
theorem vm(p:cx):∀(i:Nat) (s:Src) (e:ae) (out:List aB),aY p.sig.au p.sig.ai e=true→(∀x∈out,iZ p.sig.au p.sig.ai x)→
 aY p.sig.au p.sig.ai (iQ p i s e out).2.1=true∧(∀x∈(iQ p i s e out).1,iZ p.sig.au p.sig.ai x)∧(iQ p i s e out).1.length≤out.length+i
 |0,s,e,out,h,ho=>⟨h,ho,Nat.le_refl _⟩
 |i+1,s,e,out,h,ho=>by
  rw[iQ]
  split
  ·exact⟨h,ho,by simp only[];omega⟩
  ·rename_i h1
   simp only[not_or] at h1
   have hm:=Gx h _ (KJ h1.2 s)
   simp only[]
   split
   ·rename_i h2
    have ih:=vm p i (ar s (l4 p.sig.au p.sig.ai iD e).out.length) _ (out++[(l4 p.sig.au p.sig.ai iD e).out.getD (bK s (l4 p.sig.au p.sig.ai iD e).out.length).toNat ic]) (sc h2.1) (fun x hx=>by
     rcases List.mem_append.1 hx with hx|hx
     ·exact ho x hx
     ·rw[List.mem_singleton.1 hx];exact hm)
    refine⟨ih.1,ih.2.1, ?_⟩
    have h3:=ih.2.2
    simp only[List.length_append,List.length_cons,List.length_nil] at h3
    omega
   ·exact⟨h,ho,by simp only[];omega⟩
end Go.Proofs.YtgbggaddpbghfaaGreat
namespace Go.Proofs.YtgbggaddpbghfaaGreat
open Go Go.KA Go.Proofs
set_option maxHeartbeats 16000000
set_option maxRecDepth 100000
theorem Km(l:List ByteArray)(hl:0<l.length∧l.length≤1000)(s:Src)(hs:Rd s 900000000)(hc:s.code.length≤1000000):ah Tryz.prog 188 [.c (.op (c8 s)), .c (.ro 1 (l.map eS))] [some [.op (c8 (CO l s))],none] (G3 (uR l s)):=by
 have i:jI (l.length:Int):=by unfold jI;omega
 have p:=cV s hs hc l.length i
 have b:=ch s (n:=l.length) (by omega)
 unfold CO uR
 generalize bK s (l.length:Int)=k at p b⊢
 generalize ar s (l.length:Int)=s1 at p⊢
 rw[←List.length_map (f:=eS)] at p
 refine cX Tryz.func188 (h:= ?_)
 repeat'((conv=>whnf);first
  |refine aq.mk ?_ ?_
  |(apply Fact.mk;intro hL;try simp only[List.length_map,maxLen] at hL)|(guard_target=aa _ 53 _ _ _ _;refine aa.gen [true,false] _ _ _ rfl p rfl rfl _ rfl ?_)|(guard_target=Index _ _ _;first|(refine Index.mk _ (aF (l:=l) (d:=⟨#[]⟩) (i:=k.toNat) (by omega)) ?_)|fail)
  |refine nO ?_)
 all_goals first|rfl|exact⟨rfl,trivial⟩|(exfalso;simp at*;omega)
theorem Nd(l:List ByteArray)(hl:0<l.length∧l.length≤1000)(s:Src)(hs:Rd s 900000000)(hc:s.code.length≤1000000):ah Tryz.prog 188 [.c (.op (c8 s)), .c (.ows 9 1 (l.map eS))] [some [.op (c8 (CO l s))],none] (G3 (uR l s)):=(Km l hl s hs hc).Fc (.same (.c .nil))
section
variable{t a:Int}{s0:Src}{one two:Nat}(h1:one≤3)(h2:two≤4){Q:List CV}{T A:Nat→List (List CV)}{S1 S2:Nat→Src}{tv:Src→ByteArray}{ts es:Src→Src}{rv:ByteArray→ae}{rc:ByteArray→Int}{ev:Src→ae}
 (cf:aD Tryz.prog 187 [.c (.rp 6 Q)] (.tup [I (one:Nat),I (two:Nat)]))
 (ct:∀i,i<one→ah Tryz.prog 188 [.c (.op (c8 (S1 i))), .c (.ows 9 1 (ow.map eS))] [some [.op (c8 (ts (S1 i)))],none] (G3 (tv (S1 i))))
 (cr:∀x,ah Tryz.prog 189 [.a 2 [J t,J a],G3 x] [] (.tup [.a 3 (bN (rv x)),I (rc x)]))
 (ce:∀i,i<two→ah Tryz.prog 139 [.c (.op (c8 (S2 i))), .a 2 [J t,J a],I 4] [some [.op (c8 (es (S2 i)))],none,none] (.a 3 (bN (ev (S2 i)))))
 (t0:T 0=[])(tn:∀i,T (i+1)=T i++[bN (if rc (tv (S1 i))=0 then rv (tv (S1 i)) else .mk 2 0 [])])(tl:∀i,(T i).length=i)
 (s1:S1 0=s0)(sn:∀i,S1 (i+1)=ts (S1 i))(s2:S2 0=S1 one)(sm:∀i,S2 (i+1)=es (S2 i))
 (a0:A 0=[])(an:∀i,A (i+1)=A i++[bN (ev (S2 i))])(al:∀i,(A i).length=i)
include h1 h2 cf ct cr ce t0 tn tl s1 sn s2 sm a0 an al
theorem EJ:ah Tryz.prog 167 [.c (.op (c8 s0)), .a 2 [J t,J a], .c (.rp 6 Q)] [some [.op (c8 (S2 two))],none,none] (.tup [.c (.own 66 3 (T one)), .c (.own 66 3 (A two))]):=by
 refine cX Tryz.func167 (h:= ?_)
 repeat'((conv=>whnf);first
  |(guard_target=aq _ _;(have hi9:i=one:=by omega);(have hj9:j=two:=by omega);(subst hi9 hj9 hT1 hA1 hS2);exact aq.mk rfl ⟨rfl,trivial⟩)|(guard_target=~ aK 5 _ _ _ _ _ _;refine l8 (Nat × List (List CV)× Src) [0,4,8,9,11] (fun⟨i,rows,s⟩=>[(10, .lw 4),(12,I (i:Nat))]) (fun⟨i,rows,s⟩=>[(0, .cc 3 (c8 s)),(4, .aG none 66 3 rows)]) (fun⟨i,rows,s⟩=>i≤one∧rows=T i∧s=S1 i) (fun⟨i,rows,s⟩=>one-i) (0,[],s0) (by exact⟨Nat.zero_le _,t0.symm,s1.symm⟩) (fun A ha=> ?_);obtain⟨i,rows,s⟩:=A;have ha:i≤one∧rows=T i∧s=S1 i:=ha;(have hi1:=ha.1);(have hT1:=ha.2.1);(have hS1:=ha.2.2);(have hl1:rows.length=i:=by rw[hT1,tl]))|(guard_target=~ aK 13 _ _ _ _ _ _;refine l8 (Nat × List (List CV)× Src) [0,4,9,10] (fun⟨j,rws,z⟩=>[(11, .lw 5),(16,I (j:Nat))]) (fun⟨j,rws,z⟩=>[(0, .cc 3 (c8 z)),(5, .aG none 66 3 rws)]) (fun⟨j,rws,z⟩=>j≤two∧rws=A j∧z=S2 j) (fun⟨j,rws,z⟩=>two-j) (0,[],s) (by(have hi9:i=one:=by omega);exact⟨Nat.zero_le _,a0.symm,by rw[s2,hS1,hi9]⟩) (fun A ha=> ?_);obtain⟨j,rws,z⟩:=A;have ha:j≤two∧rws=A j∧z=S2 j:=ha;(have hj1:=ha.1);(have hA1:=ha.2.1);(have hS2:=ha.2.2);(have hl2:rws.length=j:=by rw[hA1,al]))
  |refine rL ((i+1,rows++[bN (rv (tv s))],ts s):Nat × List (List CV)× Src) (by exact⟨by show i+1≤_;omega,by show _=T (i+1);rw[tn,hT1,←hS1,if_pos (by simpa using h)],by show _=S1 (i+1);rw[sn,hS1]⟩)
  |refine rL ((i+1,rows++[bN (.mk 2 0 [])],ts s):Nat × List (List CV)× Src) (by exact⟨by show i+1≤_;omega,by show _=T (i+1);rw[tn,hT1,←hS1,if_neg (by simpa using h)],by show _=S1 (i+1);rw[sn,hS1]⟩)
  |refine rL ((j+1,rws++[bN (ev z)],es z):Nat × List (List CV)× Src) (by exact⟨by show j+1≤_;omega,by show _=A (j+1);rw[an,hA1,←hS2],by show _=S2 (j+1);rw[sm,hS2]⟩)
  |(apply Fact.mk;intro hL;try simp only[List.length_map,maxLen] at hL)
  |((first|apply bA|apply bB|apply bC|apply bD|apply bE|apply bF)<;>intro h<;>(try simp only[List.length_map] at h)<;>(try omega)<;>(try contradiction))|(guard_target=aa _ 187 _ _ _ _;refine cP rfl (cf) ?_)|(guard_target=aa _ 188 _ _ _ _;refine cG [true,true] rfl (hS1▸ct i (by omega)) ?_)|(guard_target=aa _ 189 _ _ _ _;refine cG [] rfl (cr (tv s)) ?_)|(guard_target=aa _ 190 _ _ _ _;refine cG [] rfl (vO) ?_)|(guard_target=aa _ 139 _ _ _ _;refine cG [true,false,false] rfl (hS2▸ce j (by omega)) ?_)
  |refine aR ?_|(guard_target=aV _ _;refine aV.mk (by first|((simp only[List.length_cons,List.length_nil,maxLen];constructor<;>omega))|fail) ?_))
 all_goals first|rfl|exact⟨rfl,trivial⟩|trivial
end
theorem vy{t a:Int}(hs:bO t a=true)(hg:0≤t∧t≤3∧0≤a∧a≤4){s:Src}{N:Int}(hS:iP s N)(hN:N≤500000000){Q:List CV}{one two:Int}(b1:0≤one∧one≤3)(b2:0≤two∧two≤4)
 (cf:aD Tryz.prog 187 [.c (.rp 6 Q)] (.tup [I one,I two])):
 ah Tryz.prog 167 [.c (.op (c8 s)), .a 2 [J t,J a], .c (.rp 6 Q)] [some [.op (c8 (wR t a one two s).2.2)],none,none] (.tup [.c (.own 66 3 ((wR t a one two s).1.map ay)), .c (.own 66 3 ((wR t a one two s).2.1.map ay))]):=by
 obtain⟨m,rfl⟩:∃m:Nat,one=(m:Int):=⟨one.toNat,by omega⟩
 obtain⟨n,rfl⟩:∃n:Nat,two=(n:Int):=⟨two.toNat,by omega⟩
 unfold wR
 rw[Int.toNat_natCast,Int.toNat_natCast]
 refine EJ (s0:=s) (one:=m) (two:=n) (by omega) (by omega) (T:=fun i=>(eC t a s i).1.map ay) (A:=fun i=>(lD t a (eC t a s m).2 i).1.map ay) (S1:=fun i=>(eC t a s i).2) (S2:=fun i=>(lD t a (eC t a s m).2 i).2)
  (tv:=uR ow) (ts:=CO ow) (rv:=fun x=>(iU t a x).1) (rc:=fun x=>(iU t a x).2) (ev:=fun s=>(bo ⟨t,a⟩ 6 false ⟨s,4⟩).1) (es:=fun s=>(bo ⟨t,a⟩ 6 false ⟨s,4⟩).2.s)
  cf (fun i hi=> ?_) (fun x=>Ab t a hs x) (fun i hi=> ?_) rfl (fun i=> ?_) (fun i=> ?_) rfl (fun i=>rfl) rfl (fun i=>rfl) rfl (fun i=> ?_) (fun i=> ?_)
 ·have h:=qe (t:=t) (a:=a) hS i
  exact Nd ow (by decide) _ (h.rd.mono (by omega)) h.len
 ·have h:=wC (t:=t) (a:=a) (qe (t:=t) (a:=a) hS m) i
  exact sD ⟨t,a⟩ hg _ (h.rd.mono (by omega)) h.len 4 (by decide)
 ·show(eC t a s (i+1)).1.map ay=_
  rw[eC,List.map_append,List.map_cons,List.map_nil,dt]
  rfl
 ·rw[List.length_map,rJ]
 ·show(lD t a (eC t a s m).2 (i+1)).1.map ay=_
  rw[lD,List.map_append,List.map_cons,List.map_nil,dt]
 ·rw[List.length_map,uy]
end Go.Proofs.YtgbggaddpbghfaaGreat
namespace Go.Proofs.YtgbggaddpbghfaaGreat
open Go Go.KA Go.Proofs
set_option maxHeartbeats 16000000
set_option maxRecDepth 100000
abbrev su(x:ae):List CV:=[J x.kind,J x.num, .ro 3 (cW (x.kids.map ay))]
abbrev MM(s:aB):List CV:=[J s.use, .val (.bool s.back), .ro 1 (s.path.map eI), .ro 3 (cW (s.au.map ay)), .ro 3 (cW (s.c9.map ay))]
theorem pX(x:ae):aI x=su x:=by
 unfold su
 rw[bQ eM]
theorem Nb(s:aB):bP s=MM s:=by
 unfold MM
 rw[bQ eM,bQ eM]
 rfl
theorem IW(l:List aB)(b:Bool):jJ (.tup [.c (.own 156 5 (l.map aW)),B b]):=by
 intro s hs
 simp only[List.mem_cons,List.not_mem_nil,or_false] at hs
 rcases hs with rfl|rfl
 ·exact ig wO l
 ·trivial
section
variable{t a:Int}{p:cx}{e:ae}{most:Nat}{s0:Src}{N:Int}(hmost:most≤1000)(hN:N≤500000000)(hS0:iP s0 N)(he:aY t a e=true)
 {F:Nat→Src→ae→List aB→List aB × ae × Src}{fB:ae→Bool}{fL:ae→List aB}{aX:ae→aB→ae}{aC:ae→aB→Int}
 (hsig:p.sig.au=t∧p.sig.ai=a)
 (co:ah Tryz.prog 137 [.c (.rp 3 (aI e))] [] (.a 3 (bN e)))
 (cF:∀x,aY t a x=true→ah Tryz.prog 192 [.a 2 [J t,J a], .c (.rp 3 (su x))] [] (.tup [.c (.own 156 5 ((fL x).map aW)),B (!fB x)]))
 (cA:∀x st,aY t a x=true→iZ t a st→ah Tryz.prog 172 [.c (.rp 3 (cK p)),I 0, .c (.rp 3 (su x)), .c (.rp 5 (MM st))] [] (.tup [.a 3 (bN (aX x st)),I (aC x st)]))
 (cz:∀x st,aY t a x=true→iZ t a st→aC x st=0→aD Tryz.prog 193 [.c (.rp 3 (su (aX x st)))] (I (gZ (aX x st):Nat)))
 (gF:∀x,aY t a x=true→∀st∈fL x,iZ t a st)(gL:∀x,(fL x).length≤300)(gA:∀x st,aC x st=0→aY t a (aX x st)=true)
 (f0:∀s x o,F 0 s x o=(o,x,s))
 (f1:∀i s x o,(fB x=true∨(fL x).length=0)→F (i+1) s x o=(o,x,s))
 (f2:∀i s x o,fB x=false→¬(fL x).length=0→¬(aC x ((fL x).getD (bK s (fL x).length).toNat ic)=0∧gZ (aX x ((fL x).getD (bK s (fL x).length).toNat ic))≤60)→F (i+1) s x o=(o,x,ar s (fL x).length))
 (f3:∀i s x o,fB x=false→¬(fL x).length=0→(aC x ((fL x).getD (bK s (fL x).length).toNat ic)=0∧gZ (aX x ((fL x).getD (bK s (fL x).length).toNat ic))≤60)→F (i+1) s x o=F i (ar s (fL x).length) (aX x ((fL x).getD (bK s (fL x).length).toNat ic)) (o++[(fL x).getD (bK s (fL x).length).toNat ic]))
include hmost hN hS0 he hsig co cF cA cz gF gL gA f0 f1 f2 f3
end
end Go.Proofs.YtgbggaddpbghfaaGreat
namespace Go.Proofs.YtgbggaddpbghfaaGreat
open Go Go.KA Go.Proofs
set_option maxHeartbeats 16000000
set_option maxRecDepth 100000
section
variable{t a:Int}{u:Value}{cl:List (List CV)}{e:ae}{most:Nat}{s0:Src}{N:Int}(hmost:most≤1000)(hN:N≤500000000)(hS0:iP s0 N)(he:aY t a e=true)
 {F:Nat→Src→ae→List aB→List aB × ae × Src}{fB:ae→Bool}{fL:ae→List aB}{aX:ae→aB→ae}{aC:ae→aB→Int}
 (co:ah Tryz.prog 137 [.c (.rp 3 (su e))] [] (.a 3 (bN e)))
 (cF:∀x,aY t a x=true→ah Tryz.prog 192 [.a 2 [J t,J a], .c (.rp 3 (su x))] [] (.tup [.c (.own 156 5 ((fL x).map aW)),B (!fB x)]))
 (cA:∀x st,aY t a x=true→iZ t a st→ah Tryz.prog 172 [.c (.rp 3 [J t,J a, .ro 9 (cW cl)]),I 0, .c (.rp 3 (su x)), .c (.rp 5 (MM st))] [] (.tup [.a 3 (bN (aX x st)),I (aC x st)]))
 (cz:∀x st,aY t a x=true→iZ t a st→aC x st=0→aD Tryz.prog 193 [.c (.rp 3 (su (aX x st)))] (I (gZ (aX x st):Nat)))
 (gF:∀x,aY t a x=true→∀st∈fL x,iZ t a st)(gL:∀x,(fL x).length≤300)(gA:∀x st,aC x st=0→aY t a (aX x st)=true)
 (f0:∀s x o,F 0 s x o=(o,x,s))
 (f1:∀i s x o,(fB x=true∨(fL x).length=0)→F (i+1) s x o=(o,x,s))
 (f2:∀i s x o,fB x=false→¬(fL x).length=0→¬(aC x ((fL x).getD (bK s (fL x).length).toNat ic)=0∧gZ (aX x ((fL x).getD (bK s (fL x).length).toNat ic))≤60)→F (i+1) s x o=(o,x,ar s (fL x).length))
 (f3:∀i s x o,fB x=false→¬(fL x).length=0→(aC x ((fL x).getD (bK s (fL x).length).toNat ic)=0∧gZ (aX x ((fL x).getD (bK s (fL x).length).toNat ic))≤60)→F (i+1) s x o=F i (ar s (fL x).length) (aX x ((fL x).getD (bK s (fL x).length).toNat ic)) (o++[(fL x).getD (bK s (fL x).length).toNat ic]))
include hmost hN hS0 he co cF cA cz gF gL gA f0 f1 f2 f3
theorem Df{R:List aB × ae × Src}(hR:F (bK s0 (most+1)).toNat (ar s0 (most+1)) e []=R):ah Tryz.prog 169 [.c (.op (c8 s0)), .c (.op [J t,J a, .eW u 104 9 cl]), .a 3 (su e),I (most:Nat)] [some [.op (c8 R.2.2)],some [.op [J t,J a, .eW u 104 9 cl]],none,none] (.tup [.c (.own 156 5 (R.1.map aW)), .a 3 (bN R.2.1)]):=by
 have cp:=cV s0 (hS0.rd.mono (by omega)) hS0.len (most+1) (by unfold jI;omega)
 have bp:=ch s0 (n:=((most:Nat):Int)+1) (by omega)
 have hS1:=hS0.pick (most+1)
 generalize bK s0 (((most:Nat):Int)+1)=k at cp bp hR
 generalize ar s0 (((most:Nat):Int)+1)=s1 at cp hS1 hR
 obtain⟨m,rfl⟩:∃m:Nat,k=(m:Int):=⟨k.toNat,by omega⟩
 rw[Int.toNat_natCast] at hR
 refine cX Tryz.func169 (h:= ?_)
 repeat'((conv=>whnf);first
  |(guard_target=aa _ 53 _ _ _ _;(have _:=hL);(obtain⟨j,rfl⟩:∃j,i=j+1:=⟨i-1,by omega⟩);(have h0:¬(fL x).length=0:=by omega);(have hq:=cV s (hS.rd.mono (by omega)) hS.len ((fL x).length:Nat) (by unfold jI;omega));(have bk:=ch s (n:=((fL x).length:Nat)) (by omega));(have hS':=hS.pick ((fL x).length:Nat));(have q2:=f2 j s x o);(have q3:=f3 j s x o);generalize bK s ((fL x).length:Nat)=kk at hq bk q2 q3;generalize ar s ((fL x).length:Nat)=sq at hq hS' q2 q3;rw[←List.length_map (f:=aW)] at hq;(have hst:iZ t a ((fL x).getD kk.toNat ic):=gF x hg _ (by rw[getD_eq (by omega)];exact List.getElem_mem _));refine aa.gen [true,false] _ _ _ rfl hq rfl rfl _ rfl ?_)|(guard_target=Gh _ _ _ _ _;(have hc:aC x ((fL x).getD kk.toNat ic)=0:=by assumption);(have hb:fB x=false:=by first|assumption|(have h9:=‹(!fB x)=true›;simpa using h9));(have hn:gZ (aX x ((fL x).getD kk.toNat ic))≤60:=by omega);refine Gh.zG 8 _ rfl (Gh.I7 19 8 rfl (Gh.go ⟨(⟨z-1,j,rows++[aW ((fL x).getD kk.toNat ic)],aX x ((fL x).getD kk.toNat ic),sq,o++[((fL x).getD kk.toNat ic)]⟩:Int × Nat × List (List CV)× ae × Src × List aB),(by exact⟨by show z-1=_;omega,by show j≤m;omega,by show _=(o++[((fL x).getD kk.toNat ic)]).map aW;rw[List.map_append,←hr];rfl,(q3 hb h0 ⟨hc,hn⟩).symm.trans hF,gA _ _ hc,hS'.mono (by omega),by show(o++[_]).length+j≤m;rw[List.length_append];simp only[List.length_cons,List.length_nil];omega⟩),(by show _<_;(try simp only[]);omega),(by(repeat'((conv=>whnf)<;>(first|exact trivial|refine⟨?_, ?_⟩|kernel_rfl)));done),(by(repeat'((conv=>whnf)<;>(first|exact trivial|refine⟨?_, ?_⟩|kernel_rfl)));done),(by(repeat'((conv=>whnf)<;>(first|exact trivial|refine⟨?_, ?_⟩|kernel_rfl)));done)⟩)))|(guard_target=aq _ _;(have hz0:=‹¬z>0›);(obtain rfl:i=0:=by omega);(obtain rfl:=(f0 s x o).symm.trans hF);subst hr;exact aq.mk rfl ⟨rfl,rfl,trivial⟩)|(guard_target=aq _ _;(have h9:fB x=true∨(fL x).length=0:=by first|exact .inl (by assumption)|(have h8:=‹(!fB x)=false›;exact .inl (by simpa using h8))|exact .inr (by omega));(obtain⟨j,rfl⟩:∃j,i=j+1:=⟨i-1,by omega⟩);(obtain rfl:=(f1 j s x o h9).symm.trans hF);subst hr;exact aq.mk rfl ⟨rfl,rfl,trivial⟩)|(guard_target=aq _ _;(have hb:fB x=false:=by first|assumption|(have h9:=‹(!fB x)=true›;simpa using h9));(have h9:¬(aC x ((fL x).getD kk.toNat ic)=0∧gZ (aX x ((fL x).getD kk.toNat ic))≤60):=by first|exact(fun hc=>absurd hc.1 (by assumption))|exact(fun hc=>absurd hc.2 (by omega)));(obtain rfl:=(q2 hb h0 h9).symm.trans hF);subst hr;exact aq.mk rfl ⟨rfl,rfl,trivial⟩)|(guard_target=~ aK 4 _ _ _ _ _ _;refine l8 (Int × Nat × List (List CV)× ae × Src × List aB) [0,1,9,11] (fun⟨z,i,rows,x,s,o⟩=>[(10, .lw 7),(12,I z)]) (fun⟨z,i,rows,x,s,o⟩=>[(0, .cc 3 (c8 s)),(7, .aG none 156 5 rows),(8, .aG none 66 3 (x.kids.map ay)),(10, .cells [.c (J x.kind), .c (J x.num), .lw 8])]) (fun⟨z,i,rows,x,s,o⟩=>z=(i:Nat)∧i≤m∧rows=o.map aW∧F i s x o=R∧aY t a x=true∧iP s (N+2+2*((m:Int)-i))∧o.length+i≤m) (fun⟨z,i,rows,x,s,o⟩=>i) ((m:Int),m,[],e,s1,[]) (by exact⟨rfl,Nat.le_refl _,rfl,hR,he,hS1.mono (by omega),by simp⟩) (fun A ha=> ?_);obtain⟨z,i,rows,x,s,o⟩:=A;have ha:z=(i:Nat)∧i≤m∧rows=o.map aW∧F i s x o=R∧aY t a x=true∧iP s (N+2+2*((m:Int)-i))∧o.length+i≤m:=ha;(obtain⟨hz,hi,hr,hF,hg,hS,ho⟩:=ha);(have hL:=gL x);(have hrl:rows.length≤1000:=by rw[hr,List.length_map];omega))
  |(apply Fact.mk;intro hL;try simp only[List.length_map,maxLen] at hL)
  |((first|apply bA|apply bB|apply bC|apply bD|apply bE|apply bF)<;>intro h<;>(try simp only[List.length_map] at h)<;>(try omega)<;>(try contradiction))|(guard_target=aa _ 193 _ _ _ _;refine cP rfl (cz x _ hg hst (by assumption)) ?_)|(guard_target=aa _ 137 _ _ _ _;refine aa.own _ _ rfl co (g9 _) _ rfl ?_)|(guard_target=aa _ 192 _ _ _ _;refine aa.own _ _ rfl (cF x hg) (IW _ _) _ rfl ?_)|(guard_target=aa _ 53 _ _ _ _;refine aa.gen [true,false] _ _ _ rfl cp rfl rfl _ rfl ?_)|(guard_target=aa _ 172 _ _ _ _;refine aa.own _ _ rfl (cA x _ hg hst) (kq (g9 _)) _ rfl ?_)
  |(intro v_)
  |refine aR ?_|(guard_target=Index _ _ _;first|(refine Index.mk _ (aF (l:=fL x) (d:=ic) (i:=kk.toNat) (by omega)) ?_)|fail)
  |refine nB ?_|(guard_target=aV _ _;refine aV.mk (by first|((simp only[List.length_cons,List.length_nil,maxLen];constructor<;>omega))|fail) ?_)
  |refine nO ?_)
 all_goals first|rfl|exact⟨rfl,trivial⟩|exact⟨rfl,rfl,trivial⟩|trivial
end
end Go.Proofs.YtgbggaddpbghfaaGreat
namespace Go.Proofs.YtgbggaddpbghfaaGreat
open Go Go.KA Go.Proofs
set_option maxHeartbeats 16000000
set_option maxRecDepth 100000
section
variable{t a iv ru rf:Int}{s0 s1 s2 s3 sF:Src}{u:Value}{rows st:List (List CV)}{L R X1 X2:ae}{ts us:List ae}{b1 x1 x2:Bool}{r:SV}{ev gT:Src→ae}{es gs:Src→Src}{gS:Src→List aB}
 (hl:rows.length≤1000)
 (c1:ah Tryz.prog 76 [.c (.op (c8 s0)),I 2] [some [.op (c8 s1)],none] (B b1))
 (cp:ah Tryz.prog 53 [.c (.op (c8 s1)),I (rows.length:Nat)] [some [.op (c8 s2)],none] (I iv))
 (hiv:0<rows.length→0≤iv∧iv<(rows.length:Nat))
 (hix:0<rows.length→rows[iv.toNat]? =some [J L.kind,J L.num, .ro 3 (L.kids.map ag),J R.kind,J R.num, .ro 3 (R.kids.map ag),J ru,J rf, .ro 5 st])
 (cd:ah Tryz.prog 167 [.c (.op (c8 s2)), .a 2 [J t,J a], .c (.rp 6 [J L.kind,J L.num, .ro 3 (L.kids.map ag),J R.kind,J R.num, .ro 3 (R.kids.map ag)])] [some [.op (c8 s3)],none,none] (.tup [.c (.own 66 3 (ts.map ay)), .c (.own 66 3 (us.map ay))]))
 (cs1:ah Tryz.prog 168 [.a 2 [J t,J a], .c (.rp 6 [J L.kind,J L.num, .ro 3 (L.kids.map ag),J R.kind,J R.num, .ro 3 (R.kids.map ag)]), .c (.ro 3 (cW (ts.map ay))), .c (.ro 3 (cW (us.map ay)))] [] (.tup [.a 3 (bN X1),B x1]))
 (cs2:ah Tryz.prog 168 [.a 2 [J t,J a], .c (.rp 3 [J R.kind,J R.num, .ro 3 (R.kids.map ag)]), .c (.ro 3 (cW (ts.map ay))), .c (.ro 3 (cW (us.map ay)))] [] (.tup [.a 3 (bN X2),B x2]))
 (ce:∀z,(z=s0∨z=s1∨z=s3)→ah Tryz.prog 139 [.c (.op (c8 z)), .a 2 [J t,J a],I 5] [some [.op (c8 (es z))],none,none] (.a 3 (bN (ev z))))
 (cg:∀z,(z=s0∨z=s1∨z=s3)→ah Tryz.prog 169 [.c (.op (c8 (es z))), .c (.op [J t,J a, .eW u 104 9 rows]), .a 3 (su (ev z)),I 2] [some [.op (c8 (gs z))],some [.op [J t,J a, .eW u 104 9 rows]],none,none] (.tup [.c (.own 156 5 ((gS z).map aW)), .a 3 (bN (gT z))]))
 (o1:0<rows.length→b1=true→x1=true→x2=true→r= .a 9 [J X1.kind,J X1.num, .own 66 3 (X1.kids.map ay),J X2.kind,J X2.num, .own 66 3 (X2.kids.map ay),J 1,J 0, .own 156 5 [[J (-1-iv), .val (.bool false), .ows 2 1 [], .own 66 3 (ts.map ay), .own 66 3 (us.map ay)]]]∧sF=s3)
 (o2:∀z,(0<rows.length→b1=true→(x1=false∨x2=false)∧z=s3)→(0<rows.length→b1=false→z=s1)→(¬0<rows.length→z=s0)→r= .a 9 [J (ev z).kind,J (ev z).num, .ro 3 (cW ((ev z).kids.map ay)),J (gT z).kind,J (gT z).num, .own 66 3 ((gT z).kids.map ay),J 1,J 0, .own 156 5 ((gS z).map aW)]∧sF=gs z)
include hl c1 cp hiv hix cd cs1 cs2 ce cg o1 o2
theorem EN:ah Tryz.prog 138 [.c (.op (c8 s0)), .c (.op [J t,J a, .eW u 104 9 rows])] [some [.op (c8 sF)],some [.op [J t,J a, .eW u 104 9 rows]]] r:=by
 refine cX Tryz.func138 (fun reg_=>match reg_ with|5=>true|12=>true|_=>false) (h:= ?_)
 repeat'((conv=>whnf);first
  |(guard_target=Gh _ _ _ _ _;(fail_if_success (have _:=hi5));(have _:=‹b1=true›);(have hi5:=hiv (by omega));refine Gh.DU 14 _ rfl (Gh.go ?_))|(guard_target=Gh _ _ _ _ _;(have _:=hi5);refine Gh.zG 23 _ rfl (Gh.go ?_))|(guard_target=Gh _ _ _ _ _;refine Gh.zG 7 _ rfl (Gh.go ?_))|(guard_target=aq _ _;(obtain⟨rfl,rfl⟩:=o1 (by omega) (by assumption) (by assumption) (by assumption));exact aq.mk rfl ⟨rfl,rfl,trivial⟩)|(guard_target=aq _ _;(obtain⟨rfl,rfl⟩:=o2 s0 (fun h _=>absurd h (by omega)) (fun h _=>absurd h (by omega)) (fun _=>rfl));exact aq.mk rfl ⟨rfl,rfl,trivial⟩)|(guard_target=aq _ _;(have h8:=‹b1=false›);(obtain⟨rfl,rfl⟩:=o2 s1 (fun _ h=>absurd (h.symm.trans h8) (by decide)) (fun _ _=>rfl) (fun h=>absurd (by omega) h));exact aq.mk rfl ⟨rfl,rfl,trivial⟩)|(guard_target=aq _ _;(have h8:=‹b1=true›);(obtain⟨rfl,rfl⟩:=o2 s3 (fun _ _=>⟨by first|exact .inl (by assumption)|exact .inr (by assumption),rfl⟩) (fun _ h=>absurd (h8.symm.trans h) (by decide)) (fun h=>absurd (by omega) h));exact aq.mk rfl ⟨rfl,rfl,trivial⟩)
  |(apply Fact.mk;intro hL;try simp only[List.length_map,maxLen] at hL)
  |((first|apply bA|apply bB|apply bC|apply bD|apply bE|apply bF)<;>intro h<;>(try simp only[List.length_map] at h)<;>(try omega)<;>(try contradiction))|(guard_target=aa _ 76 _ _ _ _;refine cG [true,false] rfl (c1) ?_)|(guard_target=aa _ 53 _ _ _ _;refine cG [true,false] rfl (cp) ?_)|(guard_target=aa _ 167 _ _ _ _;refine cG [true,false,false] rfl (cd) ?_)|(guard_target=aa _ 140 _ _ _ _;refine aa.raw rfl (pn da hm Tryz.func140 rfl rfl rfl rfl (ann:=fun _=>none) (gh:=fun _=>false) ?_))|(guard_target=uo _ _ _ _ _ _;refine uo.of rfl ?_)|(guard_target=kC _ _ _;first|refine kC.refl ?_|refine kC.iK ?_|refine kC.one ?_|refine kC.step ?_)|(guard_target=aa _ 168 _ _ _ _;(first|refine aa.own _ _ rfl cs1 (kq (g9 _)) _ rfl ?_|refine aa.own _ _ rfl cs2 (kq (g9 _)) _ rfl ?_))|(guard_target=aa _ 139 _ _ _ _;(first|refine aa.gen [true,false,false] _ _ _ rfl (ce s0 (.inl rfl)) rfl rfl _ rfl ?_|refine aa.gen [true,false,false] _ _ _ rfl (ce s1 (.inr (.inl rfl))) rfl rfl _ rfl ?_|refine aa.gen [true,false,false] _ _ _ rfl (ce s3 (.inr (.inr rfl))) rfl rfl _ rfl ?_))|(guard_target=aa _ 169 _ _ _ _;(first|refine aa.gen [true,true,false,false] _ _ _ rfl (cg s0 (.inl rfl)) rfl rfl _ rfl ?_|refine aa.gen [true,true,false,false] _ _ _ rfl (cg s1 (.inr (.inl rfl))) rfl rfl _ rfl ?_|refine aa.gen [true,true,false,false] _ _ _ rfl (cg s3 (.inr (.inr rfl))) rfl rfl _ rfl ?_))
  |refine aR ?_|(guard_target=Index _ _ _;first|(refine Index.mk _ (hix (by omega)) ?_)|fail)
  |refine nB ?_
  |apply iV.go
  |refine nO ?_)
 all_goals first|rfl|exact⟨rfl,trivial⟩|trivial
end
end Go.Proofs.YtgbggaddpbghfaaGreat
