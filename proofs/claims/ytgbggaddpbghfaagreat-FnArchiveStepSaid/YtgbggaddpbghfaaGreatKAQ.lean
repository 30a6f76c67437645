/- Contracts of the draws of words: the word drawn is not told, only that there is one. Conditions: a valid signature, bounds of size. -/
import Derived.Test.YtgbggaddpbghfaaGreatKAP
namespace Go.Proofs.YtgbggaddpbghfaaGreat
open Go Go.KA Go.Proofs
set_option maxHeartbeats 16000000
set_option maxRecDepth 100000
structure iK(s:Src)(n:Int):Prop where
 rd:Rd s n
 len:s.code.length≤1000000
theorem iK.mono{s:Src}{n m:Int}(h:iK s n)(hm:n≤m):iK s m:=⟨h.rd.mono hm,h.len⟩
theorem iK.pick{s:Src}{n:Int}(h:iK s n)(k:Int):iK (ar s k) (n+2):=⟨h.rd.pick k,by rw[du];exact h.len⟩
theorem yg{d:Bool}{s:Src}{N k:Int}{args:List SV}{H:HM}{m:Nat}{K:gC→Prop}(hS:iK s N)(hN:N≤800000000)(hk:jE k)(hv:qC H [true,false] args=some [.c (.op (da s)),I k])(hn:fD (eJ H [true,false] args)=true)(hc:dQ [true,false] args=true)
 (c:∀v s',iK s' (N+2)→0≤v→(0<k→v<k)→match gG H [true,false] args [some [.op (da s')],none] (I v) m with|some E=>K E|none=>False):aa (d:=d) Tryz.prog 53 args H m K:=by
 have h:=c (bP s k) (ar s k) (hS.pick k) (Lc s k) fun h=>(cH s h).2
 split at h
 ·rename_i E he
  exact aa.gen [true,false] _ _ _ hv (c7 s (hS.rd.mono (by omega)) hS.len k hk) hn hc E he h
 ·exact h.elim
theorem OR{d:Bool}{s:Src}{N k:Int}{args:List SV}{H:HM}{m:Nat}{K:gC→Prop}(hS:iK s N)(hN:N≤800000000)(hk:jE k)(hv:qC H [true,false] args=some [.c (.op (da s)),I k])(hn:fD (eJ H [true,false] args)=true)(hc:dQ [true,false] args=true)
 (c:∀b s',iK s' (N+2)→match gG H [true,false] args [some [.op (da s')],none] (B b) m with|some E=>K E|none=>False):aa (d:=d) Tryz.prog 76 args H m K:=by
 have h:=c (iZ s k) (ar s k) (hS.pick k)
 split at h
 ·rename_i E he
  exact aa.gen [true,false] _ _ _ hv (ir s (hS.rd.mono (by omega)) hS.len k hk) hn hc E he h
 ·exact h.elim
theorem Fe{d:Bool}{s:Src}{N:Int}{l:List Int}{args:List SV}{H:HM}{m:Nat}{K:gC→Prop}(hS:iK s N)(hN:N≤800000000)(hl:0<l.length∧l.length≤1000)(hv:qC H [true,true] args=some [.c (.op (da s)), .c (.ows 2 1 (l.map eI))])(hn:fD (eJ H [true,true] args)=true)(hc:dQ [true,true] args=true)
 (c:∀v s',iK s' (N+2)→v∈l→match gG H [true,true] args [some [.op (da s')],none] (I v) m with|some E=>K E|none=>False):aa (d:=d) Tryz.prog 73 args H m K:=by
 have hin:tH l s∈l:=by
  unfold tH
  have b:=cH s (n:=l.length) (by omega)
  rw[getD_eq (by omega)]
  exact List.getElem_mem _
 have h:=c (tH l s) (AS l s) (hS.pick _) hin
 split at h
 ·rename_i E he
  exact aa.gen [true,true] _ _ _ hv (HH l hl s (hS.rd.mono (by omega)) hS.len) hn hc E he h
 ·exact h.elim
section
variable(t a:Int)(ht:0≤t∧t≤3)(hac:0≤a∧a≤4)
include ht hac
end
end Go.Proofs.YtgbggaddpbghfaaGreat
namespace Go.Proofs.YtgbggaddpbghfaaGreat
open Go Go.KA Go.Proofs
set_option maxHeartbeats 4000000
set_option maxRecDepth 100000
theorem gk{t a:Int}{e:ae}:aW t a e=true↔gV e≤200∧ez e≤40∧dJ t a e=true:=by
 have h:=((mR e).1 200)
 unfold cV at h
 simp only[aW,Bool.and_eq_true,decide_eq_true_eq]
 constructor
 ·rintro⟨h1,h2,h3⟩
  have:=h.1 h1
  exact⟨by simp only[gV];omega,by omega,h3⟩
 ·rintro⟨h1,h2,h3⟩
  exact⟨h.2 (by simp only[gV] at h1;omega),by omega,h3⟩
theorem E4{t a:Int}{e k:ae}(h:dJ t a e=true)(hk:k∈e.kids):dJ t a k=true:=by
 rw[gl] at h
 simp only[Bool.and_eq_true,beq_iff_eq] at h
 obtain⟨h1,h2⟩:=h
 split at h2
 ·rename_i h3
  rw[h3] at h1
  have:e.kids=[]:=by simpa[cT] using h1
  rw[this] at hk
  cases hk
 ·split at h2
  ·rename_i h3
   rw[h3] at h1
   have:e.kids=[]:=by simpa[cT] using h1
   rw[this] at hk
   cases hk
  ·simp only[Bool.and_eq_true,List.all_eq_true] at h2
   exact h2.2.2 k hk
theorem K6{t a:Int}{e:ae}(h:dJ t a e=true):e.kids.length≤2:=by
 rw[gl] at h
 simp only[Bool.and_eq_true,beq_iff_eq] at h
 have h1:=h.1
 unfold cT at h1
 repeat' split at h1
 all_goals omega
theorem wX:∀{l:List ae} {x:ae},x∈l→ez x≤eL l
 |y::l,x,h=>by
  rw[eL]
  rcases List.mem_cons.1 h with rfl|h
  ·omega
  ·have:=wX h
   omega
theorem BP{t a:Int}{e x:ae}(h:aW t a e=true)(hx:x∈e.kids):aW t a x=true∧ez x+1≤ez e:=by
 rw[gk] at h⊢
 have h1:=vA (e:=e) hx
 have h2:=wX hx
 have h3:=tK e
 exact⟨⟨by omega,by omega,E4 h.2.2 hx⟩,by omega⟩
theorem oX(t a:Int):aW t a (.mk 2 0 [])=true:=wi ⟨t,a⟩ (⟨rfl,fun _=>rfl,Nat.le_refl 1⟩:fg t a true 0 (.mk 2 0 [])) (by decide) (by decide)
theorem Jl:cS (.mk 2 0 [])=true:=rfl
section
variable{t a:Int}
structure z4(t a:Int)(F:Fit):Prop where
 ts:∀x∈F.au,x.kind=0∨(aW t a x=true∧cS x=true)
 us:∀x∈F.c9,x.kind=0∨aW t a x=true
theorem NV:z4 t a pc:=⟨fun x hx=>by simp[Fit.au,pc] at hx;subst hx;exact .inl rfl,fun x hx=>by simp[Fit.c9,pc] at hx;subst hx;exact .inl rfl⟩
theorem IY{P:ae→Prop}{wQ e:ae}(h:wQ.kind=0∨P wQ)(he:P e):(dI wQ e).kind=0∨P (dI wQ e):=by
 unfold dI
 split
 ·exact .inr he
 ·exact h
theorem LL{F:Fit}(hF:z4 t a F)(n:Int){e:ae}(he:aW t a e=true)(hc:cS e=true):z4 t a (vd F n e).2:=by
 have h0:=hF.ts F.t0 (by simp[Fit.au])
 have h1:=hF.ts F.t1 (by simp[Fit.au])
 have h2:=hF.ts F.t2 (by simp[Fit.au])
 unfold vd
 repeat' split
 all_goals
  refine⟨fun x hx=> ?_,fun x hx=>hF.us x hx⟩
  simp only[Fit.au,List.mem_cons,List.not_mem_nil,or_false] at hx
  rcases hx with rfl|rfl|rfl
  all_goals first|assumption|exact IY (P:=fun x=>aW t a x=true∧cS x=true) (by assumption) ⟨he,hc⟩
theorem Mc{F:Fit}(hF:z4 t a F)(n:Int){e:ae}(he:aW t a e=true):z4 t a (sc F n e).2:=by
 have h0:=hF.us F.a0 (by simp[Fit.c9])
 have h1:=hF.us F.a1 (by simp[Fit.c9])
 have h2:=hF.us F.a2 (by simp[Fit.c9])
 have h3:=hF.us F.a3 (by simp[Fit.c9])
 unfold sc
 repeat' split
 all_goals
  refine⟨fun x hx=>hF.ts x hx,fun x hx=> ?_⟩
  simp only[Fit.c9,List.mem_cons,List.not_mem_nil,or_false] at hx
  rcases hx with rfl|rfl|rfl|rfl
  all_goals first|assumption|exact IY (P:=fun x=>aW t a x=true) (by assumption) he
mutual
theorem Lf:∀(p y:ae) (F:Fit),aW t a y=true→z4 t a F→z4 t a (fM p y F).2
 | .mk k n ks,y,F,hy,hF=>by
   rw[fM]
   split
   ·split
    ·rename_i hc
     exact LL hF n hy hc
    ·exact hF
   ·split
    ·exact Mc hF n hy
    ·split
     ·exact KD ks y.kids F (fun x hx=>(BP hy hx).1) hF
     ·exact hF
theorem KD:∀(ps ys:List ae) (F:Fit),(∀x∈ys,aW t a x=true)→z4 t a F→z4 t a (oJ ps ys F).2
 |p::ps,y::ys,F,hy,hF=>by
  rw[oJ]
  have h1:=Lf p y F (hy y (by simp)) hF
  split
  ·exact KD ps ys _ (fun x hx=>hy x (by simp[hx])) h1
  ·exact h1
 |[],ys,F,_,hF=>by
  rw[oJ]
  ·exact hF
  ·intro _ _ _ _ h;cases h
 |p::ps,[],F,_,hF=>by
  rw[oJ]
  ·exact hF
  ·intro _ _ _ _ _ h;cases h
end
theorem NL{x:ae}(h:x.kind=0∨aW t a x=true):aW t a (iG x)=true:=by
 unfold iG
 split
 ·exact oX t a
 ·exact h.resolve_left (by assumption)
theorem FW{x:ae}(h:x.kind=0∨(aW t a x=true∧cS x=true)):aW t a (iG x)=true∧cS (iG x)=true:=by
 unfold iG
 split
 ·exact⟨oX t a,Jl⟩
 ·exact h.resolve_left (by assumption)
theorem Ci(l:List ae)(n:Int):(eO l n).length≤l.length:=by
 unfold eO
 rw[List.length_map,List.length_take]
 exact Nat.min_le_right _ _
def iS(t a:Int)(s:aB):Prop:=b9 t a s=true∧0≤s.use
theorem K9{e:ae}{use:Int}{back:Bool}{fr to:ae}{path:List Int}{node:ae}{st:aB}(hn:aW t a node=true)(hp:path.all (dH 0 1)=true)(hl:path.length≤40)(hu:0≤use∧use≤23)
 (h:vh t a e use back fr to path node=some st):iS t a st:=by
 have hF:=Lf fr node pc hn NV
 unfold vh at h
 split at h
 ·cases h
 split at h
 ·cases h
 simp only[] at h
 split at h
 ·cases h
 split at h
 ·have e1:=(Option.some.inj h).symm
  subst e1
  generalize(fM fr node pc).2=F at hF⊢
  have h1:=Ci F.au (dq 3 fr (dq 3 to 0))
  have h2:=Ci F.c9 (dq 4 fr (dq 4 to 0))
  have e3:F.au.length=3:=rfl
  have e4:F.c9.length=4:=rfl
  refine⟨?_,hu.1⟩
  simp only[b9,Bool.and_eq_true,decide_eq_true_eq,List.all_eq_true]
  refine⟨eQ (by omega) hu.2,by omega,fun x hx=>List.all_eq_true.1 hp x hx,by omega,by omega,fun x hx=> ?_,fun x hx=> ?_,fun x hx=> ?_⟩
  ·obtain⟨y,hy,rfl⟩:=List.mem_map.1 hx
   exact(FW (hF.ts y (List.mem_of_mem_take hy))).1
  ·obtain⟨y,hy,rfl⟩:=List.mem_map.1 hx
   exact(FW (hF.ts y (List.mem_of_mem_take hy))).2
  ·obtain⟨y,hy,rfl⟩:=List.mem_map.1 hx
   exact NL (hF.us y (List.mem_of_mem_take hy))
 ·cases h
theorem Jr{P:aB→Prop}{s:ot}(hs:∀x∈s.out,P x){o:Option aB}(ho:∀x,o=some x→P x):∀x∈(rK s o).out,P x:=by
 cases o with
 |none=>exact hs
 |some y=>
  unfold rK
  simp only[]
  split
  ·exact hs
  ·intro x hx
   rcases List.mem_append.1 hx with hx|hx
   ·exact hs x hx
   ·rw[List.mem_singleton.1 hx];exact ho y rfl
section
variable(ax:List bX)(e:ae)
theorem Jj{path:List Int}{node:ae}(hn:aW t a node=true)(hp:path.all (dH 0 1)=true)(hl:path.length≤40):∀(m use:Nat) (s:ot),use+m≤24→(∀x∈s.out,iS t a x)→∀x∈(qT t a ax e path node m use s).out,iS t a x
 |0,_,s,_,hs=>hs
 |m+1,use,s,hm,hs=>by
  rw[qT]
  split
  ·exact hs
  ·refine Jj hn hp hl m (use+1) _ (by omega) ?_
   refine Jr (Jr hs fun x hx=> ?_) fun x hx=> ?_
   ·exact K9 hn hp hl ⟨by omega,by omega⟩ hx
   ·exact K9 hn hp hl ⟨by omega,by omega⟩ hx
mutual
theorem Dr(hax:ax.length=24):∀(node:ae) (path:List Int) (s:ot),aW t a node=true→path.all (dH 0 1)=true→path.length+ez node≤40→(∀x∈s.out,iS t a x)→∀x∈(jF t a ax e node path s).out,iS t a x
 | .mk k n ks,path,s,hn,hp,hl,hs=>by
   rw[jF]
   have h2:=K6 (gk.1 hn).2.2
   refine DS hax ks path 0 _ (by simp only[ae.kids] at h2;omega) (fun x hx=> ?_) hp (Jj ax e hn hp (by omega) _ _ _ (by omega) hs)
   have h3:=BP hn hx
   exact⟨h3.1,by omega⟩
theorem DS(hax:ax.length=24):∀(l:List ae) (path:List Int) (i:Nat) (s:ot),i+l.length≤2→(∀x∈l,aW t a x=true∧path.length+1+ez x≤40)→path.all (dH 0 1)=true→(∀x∈s.out,iS t a x)→∀x∈(eG t a ax e l path i s).out,iS t a x
 |[],_,_,s,_,_,_,hs=>by rw[eG];exact hs
 |y::l,path,i,s,hi,hl,hp,hs=>by
  rw[eG]
  split
  ·exact hs
  ·simp only[List.length_cons] at hi
   have h1:=hl y (by simp)
   refine DS hax l path (i+1) _ (by omega) (fun x hx=>hl x (by simp[hx])) hp (Dr hax y _ s h1.1 ?_ (by simp only[List.length_append,List.length_cons,List.length_nil];omega) hs)
   rw[List.all_append,hp]
   simp only[List.all_cons,List.all_nil,Bool.and_true,Bool.true_and]
   exact eQ (by omega) (by omega)
end
end
theorem Gr{e:ae}(he:aW t a e=true):∀x∈(kZ t a iw e).out,iS t a x:=Dr iw e vF e [] ⟨[],false⟩ he rfl (by have:=(gk.1 he).2.1;simpa using this) (by simp)
theorem Mb{e y:ae}{p:List Int}(h:(mP t a e p y).2=0):aW t a (mP t a e p y).1=true:=by
 unfold mP at h⊢
 split
 ·rename_i h1;rw[if_pos h1] at h;cases h
 split
 ·rename_i h1 h2;rw[if_neg h1,if_pos h2] at h;cases h
 split
 ·rename_i h1 h2 h3;rw[if_neg h1,if_neg h2,if_pos h3] at h;cases h
 ·rename_i h3;simpa using h3
end
theorem rW{ax:List bX}{p:cE}{k:Int}{e:ae}{s:aB}(h:(gf ax p k e s).2=0):aW p.sig.au p.sig.aq (gf ax p k e s).1=true:=by
 have hr:=fun to=>Mb (t:=p.sig.au) (a:=p.sig.aq) (e:=e) (p:=s.path) (y:=to)
 revert h
 simp only[gf]
 repeat' split
 all_goals first|(intro h;cases h;done)|exact hr _
theorem zk{p:cE}{use:Int}(h0:0≤use)(h1:use≤23)(k:Int):yB (jw iw p k use).1:=by
 unfold jw
 rw[if_pos h0]
 refine C5 _ ?_
 rw[getD_eq (by rw[vF];omega)]
 exact List.getElem_mem _
theorem tV{t a:Int}{s:aB}(h:iS t a s):0≤s.use∧s.use≤23:=by
 have h1:=h.1
 simp only[b9,Bool.and_eq_true] at h1
 have h2:=bW h1.1
 have h3:=h.2
 omega
theorem jl{t a:Int}{s:aB}(h:b9 t a s=true):(∀x∈s.au,aW t a x=true)∧∀x∈s.c9,aW t a x=true:=by
 simp only[b9,Bool.and_eq_true,List.all_eq_true] at h
 exact⟨h.2.2.2.2.2.1,h.2.2.2.2.2.2.2⟩
def oa:List ByteArray:=[⟨#[116,48]⟩,⟨#[126,116,48]⟩,⟨#[49]⟩,⟨#[48]⟩,⟨#[40,116,48,32,43,32,48,41]⟩]
def uU(l:List ByteArray)(s:Src):ByteArray:=l.getD (bP s l.length).toNat ⟨#[]⟩
def Df(l:List ByteArray)(s:Src):Src:=ar s l.length
def CZ(t a:Int)(x:ByteArray):ae:=if(iP t a x).2=0 then(iP t a x).1 else .mk 2 0 []
def ey(t a:Int)(s:Src):Nat→List ae × Src
 |0=>([],s)
 |i+1=>((ey t a s i).1++[CZ t a (uU oa (ey t a s i).2)],Df oa (ey t a s i).2)
def ld(t a:Int)(s:Src):Nat→List ae × Src
 |0=>([],s)
 |i+1=>((ld t a s i).1++[(bx ⟨t,a⟩ 6 false ⟨(ld t a s i).2,4⟩).1],(bx ⟨t,a⟩ 6 false ⟨(ld t a s i).2,4⟩).2.s)
def xc(t a:Int)(one two:Int)(s:Src):List ae × List ae × Src:=
 ((ey t a s one.toNat).1,(ld t a (ey t a s one.toNat).2 two.toNat).1,(ld t a (ey t a s one.toNat).2 two.toNat).2)
theorem iK.expr{s:Src}{n:Int}(h:iK s n)(g:ja)(d:Nat)(c:Bool)(l:Int):iK (bx g d c ⟨s,l⟩).2.s (n+kR d):=⟨Rd.expr g d c ⟨s,l⟩ h.rd,by rw[jv];exact h.len⟩
theorem pK{t a:Int}{s:Src}{n:Int}(h:iK s n):∀i:Nat,iK (ey t a s i).2 (n+2*i)
 |0=>h.mono (by omega)
 |i+1=>by
  have h1:=(pK (t:=t) (a:=a) h i).pick ((oa.length:Nat):Int)
  exact h1.mono (by omega)
theorem wK{t a:Int}{s:Src}{n:Int}(h:iK s n):∀i:Nat,iK (ld t a s i).2 (n+20000*i)
 |0=>h.mono (by omega)
 |i+1=>by
  have h1:=(wK (t:=t) (a:=a) h i).expr ⟨t,a⟩ 6 false 4
  have:=v9
  exact h1.mono (by omega)
theorem qL(t a:Int)(s:Src):∀i:Nat,(ey t a s i).1.length=i
 |0=>rfl
 |i+1=>by rw[ey,List.length_append,qL];rfl
theorem tO(t a:Int)(s:Src):∀i:Nat,(ld t a s i).1.length=i
 |0=>rfl
 |i+1=>by rw[ld,List.length_append,tO];rfl
theorem lN(t a:Int)(c:Bool)(r:FH):aW t a (bx ⟨t,a⟩ 6 c r).1=true:=wi ⟨t,a⟩ (jY ⟨t,a⟩ 6 c r) (by decide) (by have:=na ⟨t,a⟩ 6 c r;omega)
theorem Fx{t a:Int}{x:ByteArray}(h:(iP t a x).2=0):aW t a (iP t a x).1=true:=by
 unfold iP at h⊢
 split
 ·rename_i h1;rw[if_pos h1] at h;cases h
 split
 ·rename_i h2;exact h2.2
 ·rename_i h1 h2;rw[if_neg h1,if_neg h2] at h;cases h
theorem Fo(t a:Int)(x:ByteArray):aW t a (CZ t a x)=true:=by
 unfold CZ
 split
 ·exact Fx (by assumption)
 ·exact oX t a
theorem uP(t a:Int)(s:Src):∀i:Nat,∀x∈(ey t a s i).1,aW t a x=true
 |0,x,h=>by cases h
 |i+1,x,h=>by
  rw[ey] at h
  rcases List.mem_append.1 h with h|h
  ·exact uP t a s i x h
  ·rw[List.mem_singleton.1 h];exact Fo t a _
theorem wA(t a:Int)(s:Src):∀i:Nat,∀x∈(ld t a s i).1,aW t a x=true
 |0,x,h=>by cases h
 |i+1,x,h=>by
  rw[ld] at h
  rcases List.mem_append.1 h with h|h
  ·exact wA t a s i x h
  ·rw[List.mem_singleton.1 h];exact lN t a _ _
theorem D4:oa.all (fun x=>cS (kr x).1)=true:=by kernel_rfl
theorem Hb(s:Src):uU oa s∈oa:=by
 have h:=cH s (n:=(oa.length:Nat)) (by decide)
 unfold uU
 rw[getD_eq (by omega)]
 exact List.getElem_mem _
theorem E6(t a:Int)(s:Src):cS (CZ t a (uU oa s))=true:=by
 have h:=List.all_eq_true.1 D4 _ (Hb s)
 unfold CZ
 split
 ·rename_i h1
  unfold iP at h1⊢
  split
  ·rename_i h2;rw[if_pos h2] at h1;cases h1
  split
  ·exact h
  ·rename_i h2 h3;rw[if_neg h2,if_neg h3] at h1;cases h1
 ·rfl
theorem uE(t a:Int)(s:Src):∀i:Nat,∀x∈(ey t a s i).1,cS x=true
 |0,x,h=>by cases h
 |i+1,x,h=>by
  rw[ey] at h
  rcases List.mem_append.1 h with h|h
  ·exact uE t a s i x h
  ·rw[List.mem_singleton.1 h];exact E6 t a _
def ic:aB:=⟨0,false,[],[],[]⟩
noncomputable def iN(p:cE):Nat→Src→ae→List aB→List aB × ae × Src
 |0,s,e,out=>(out,e,s)
 |i+1,s,e,out=>
  if(kZ p.sig.au p.sig.aq iw e).bad=true∨(kZ p.sig.au p.sig.aq iw e).out.length=0 then(out,e,s)
  else
   let st:=(kZ p.sig.au p.sig.aq iw e).out.getD (bP s (kZ p.sig.au p.sig.aq iw e).out.length).toNat ic
   let s':=ar s (kZ p.sig.au p.sig.aq iw e).out.length
   if(gf iw p 0 e st).2=0∧gV (gf iw p 0 e st).1≤60 then iN p i s' (gf iw p 0 e st).1 (out++[st]) else(out,e,s')
theorem IP{l:List aB}(h:¬l.length=0)(s:Src):l.getD (bP s l.length).toNat ic∈l:=by
 have h1:=cH s (n:=(l.length:Nat)) (by omega)
 rw[getD_eq (by omega)]
 exact List.getElem_mem _
theorem zh(p:cE):∀(i:Nat) (s:Src) (e:ae) (out:List aB) (n:Int),iK s n→iK (iN p i s e out).2.2 (n+2*i)
 |0,s,e,out,n,h=>h.mono (by omega)
 |i+1,s,e,out,n,h=>by
  rw[iN]
  split
  ·exact h.mono (by omega)
  ·simp only[]
   split
   ·exact(zh p i _ _ _ (n+2) (h.pick _)).mono (by omega)
   ·exact(h.pick _).mono (by omega)
theorem uC(p:cE):∀(i:Nat) (s:Src) (e:ae) (out:List aB),aW p.sig.au p.sig.aq e=true→(∀x∈out,iS p.sig.au p.sig.aq x)→
 aW p.sig.au p.sig.aq (iN p i s e out).2.1=true∧(∀x∈(iN p i s e out).1,iS p.sig.au p.sig.aq x)∧(iN p i s e out).1.length≤out.length+i
 |0,s,e,out,h,ho=>⟨h,ho,Nat.le_refl _⟩
 |i+1,s,e,out,h,ho=>by
  rw[iN]
  split
  ·exact⟨h,ho,by simp only[];omega⟩
  ·rename_i h1
   simp only[not_or] at h1
   have hm:=Gr h _ (IP h1.2 s)
   simp only[]
   split
   ·rename_i h2
    have ih:=uC p i (ar s (kZ p.sig.au p.sig.aq iw e).out.length) _ (out++[(kZ p.sig.au p.sig.aq iw e).out.getD (bP s (kZ p.sig.au p.sig.aq iw e).out.length).toNat ic]) (rW h2.1) (fun x hx=>by
     rcases List.mem_append.1 hx with hx|hx
     ·exact ho x hx
     ·rw[List.mem_singleton.1 hx];exact hm)
    refine⟨ih.1,ih.2.1, ?_⟩
    have h3:=ih.2.2
    simp only[List.length_append,List.length_cons,List.length_nil] at h3
    omega
   ·exact⟨h,ho,by simp only[];omega⟩
end Go.Proofs.YtgbggaddpbghfaaGreat
namespace Go.Proofs.YtgbggaddpbghfaaGreat
open Go Go.KA Go.Proofs
set_option maxHeartbeats 16000000
set_option maxRecDepth 100000
theorem Ji(l:List ByteArray)(hl:0<l.length∧l.length≤1000)(s:Src)(hs:Rd s 900000000)(hc:s.code.length≤1000000):ai Tryz.prog 188 [.c (.op (da s)), .c (.ro 1 (l.map eS))] [some [.op (da (Df l s))],none] (F4 (uU l s)):=by
 have i:jE (l.length:Int):=by unfold jE;omega
 have p:=c7 s hs hc l.length i
 have b:=cH s (n:=l.length) (by omega)
 unfold Df uU
 generalize bP s (l.length:Int)=k at p b⊢
 generalize ar s (l.length:Int)=s1 at p⊢
 rw[←List.length_map (f:=eS)] at p
 refine cX Tryz.func188 (h:= ?_)
 repeat'((conv=>whnf);first
  |refine ah.mk ?_ ?_
  |(apply Fact.mk;intro hL;try simp only[List.length_map,maxLen] at hL)|(guard_target=aa _ 53 _ _ _ _;refine aa.gen [true,false] _ _ _ rfl p rfl rfl _ rfl ?_)|(guard_target=Index _ _ _;first|refine Index.mk _ (aF (l:=l) (d:=⟨#[]⟩) (i:=k.toNat) (by omega)) ?_)
  |refine iX (k:= ?_)
  |apply ay.no
  |refine nO ?_)
 all_goals first|rfl|exact⟨rfl,trivial⟩|(exfalso;simp at*;omega)
theorem Mv(l:List ByteArray)(hl:0<l.length∧l.length≤1000)(s:Src)(hs:Rd s 900000000)(hc:s.code.length≤1000000):ai Tryz.prog 188 [.c (.op (da s)), .c (.ows 9 1 (l.map eS))] [some [.op (da (Df l s))],none] (F4 (uU l s)):=(Ji l hl s hs hc).Lq (.same (.c .nil))
section
variable{t a:Int}{s0:Src}{one two:Nat}(h1:one≤3)(h2:two≤4){Q:List CV}{T A:Nat→List (List CV)}{S1 S2:Nat→Src}{tv:Src→ByteArray}{ts es:Src→Src}{rv:ByteArray→ae}{rc:ByteArray→Int}{ev:Src→ae}
 (cf:aE Tryz.prog 187 [.c (.rp 6 Q)] (.tup [I (one:Nat),I (two:Nat)]))
 (ct:∀i,i<one→ai Tryz.prog 188 [.c (.op (da (S1 i))), .c (.ows 9 1 (oa.map eS))] [some [.op (da (ts (S1 i)))],none] (F4 (tv (S1 i))))
 (cr:∀x,ai Tryz.prog 189 [.a 2 [J t,J a],F4 x] [] (.tup [.a 3 (bQ (rv x)),I (rc x)]))
 (ce:∀i,i<two→ai Tryz.prog 139 [.c (.op (da (S2 i))), .a 2 [J t,J a],I 4] [some [.op (da (es (S2 i)))],none,none] (.a 3 (bQ (ev (S2 i)))))
 (t0:T 0=[])(tn:∀i,T (i+1)=T i++[bQ (if rc (tv (S1 i))=0 then rv (tv (S1 i)) else .mk 2 0 [])])(tl:∀i,(T i).length=i)
 (s1:S1 0=s0)(sn:∀i,S1 (i+1)=ts (S1 i))(s2:S2 0=S1 one)(sm:∀i,S2 (i+1)=es (S2 i))
 (a0:A 0=[])(an:∀i,A (i+1)=A i++[bQ (ev (S2 i))])(al:∀i,(A i).length=i)
include h1 h2 cf ct cr ce t0 tn tl s1 sn s2 sm a0 an al
theorem Fp:ai Tryz.prog 167 [.c (.op (da s0)), .a 2 [J t,J a], .c (.rp 6 Q)] [some [.op (da (S2 two))],none,none] (.tup [.c (.own 66 3 (T one)), .c (.own 66 3 (A two))]):=by
 refine cX Tryz.func167 (h:= ?_)
 repeat'((conv=>whnf);first
  |(guard_target=ah _ _;(have hi9:i=one:=by omega);(have hj9:j=two:=by omega);(subst hi9 hj9 hT1 hA1 hS2);exact ah.mk rfl ⟨rfl,trivial⟩)
  |refine ah.mk ?_ ?_|(guard_target=~ aP 5 _ _ _ _ _ _;refine lX (Nat × List (List CV)× Src) [0,4,8,9,11] (fun⟨i,rows,s⟩=>[(10, .lw 4),(12,I (i:Nat))]) (fun⟨i,rows,s⟩=>[(0, .cc 3 (da s)),(4, .aG none 66 3 rows)]) (fun⟨i,rows,s⟩=>i≤one∧rows=T i∧s=S1 i) (fun⟨i,rows,s⟩=>one-i) (0,[],s0) (by exact⟨Nat.zero_le _,t0.symm,s1.symm⟩) (fun A ha=> ?_);obtain⟨i,rows,s⟩:=A;have ha:i≤one∧rows=T i∧s=S1 i:=ha;(have hi1:=ha.1);(have hT1:=ha.2.1);(have hS1:=ha.2.2);(have hl1:rows.length=i:=by rw[hT1,tl]))|(guard_target=~ aP 13 _ _ _ _ _ _;refine lX (Nat × List (List CV)× Src) [0,4,9,10] (fun⟨j,rws,z⟩=>[(11, .lw 5),(16,I (j:Nat))]) (fun⟨j,rws,z⟩=>[(0, .cc 3 (da z)),(5, .aG none 66 3 rws)]) (fun⟨j,rws,z⟩=>j≤two∧rws=A j∧z=S2 j) (fun⟨j,rws,z⟩=>two-j) (0,[],s) (by(have hi9:i=one:=by omega);exact⟨Nat.zero_le _,a0.symm,by rw[s2,hS1,hi9]⟩) (fun A ha=> ?_);obtain⟨j,rws,z⟩:=A;have ha:j≤two∧rws=A j∧z=S2 j:=ha;(have hj1:=ha.1);(have hA1:=ha.2.1);(have hS2:=ha.2.2);(have hl2:rws.length=j:=by rw[hA1,al]))
  |refine qJ ((i+1,rows++[bQ (rv (tv s))],ts s):Nat × List (List CV)× Src) (by exact⟨by show i+1≤_;omega,by show _=T (i+1);rw[tn,hT1,←hS1,if_pos (by simpa using h)],by show _=S1 (i+1);rw[sn,hS1]⟩)
  |refine qJ ((i+1,rows++[bQ (.mk 2 0 [])],ts s):Nat × List (List CV)× Src) (by exact⟨by show i+1≤_;omega,by show _=T (i+1);rw[tn,hT1,←hS1,if_neg (by simpa using h)],by show _=S1 (i+1);rw[sn,hS1]⟩)
  |refine qJ ((j+1,rws++[bQ (ev z)],es z):Nat × List (List CV)× Src) (by exact⟨by show j+1≤_;omega,by show _=A (j+1);rw[an,hA1,←hS2],by show _=S2 (j+1);rw[sm,hS2]⟩)
  |(apply Fact.mk;intro hL;try simp only[List.length_map,maxLen] at hL)
  |((first|apply bA|apply bB|apply bC|apply bD|apply bE|apply bF)<;>intro h<;>(try simp only[List.length_map] at h)<;>(try omega)<;>(try contradiction))|(guard_target=aa _ 187 _ _ _ _;refine cP rfl (cf) ?_)|(guard_target=aa _ 188 _ _ _ _;refine cG [true,true] rfl (hS1▸ct i (by omega)) ?_)|(guard_target=aa _ 189 _ _ _ _;refine cG [] rfl (cr (tv s)) ?_)|(guard_target=aa _ 190 _ _ _ _;refine cG [] rfl (vC) ?_)|(guard_target=aa _ 139 _ _ _ _;refine cG [true,false,false] rfl (hS2▸ce j (by omega)) ?_)
  |refine aR ?_
  |refine iX (k:= ?_)
  |refine nB ?_
  |apply cj.go|(guard_target=aQ _ _;refine aQ.mk (by first|((simp only[List.length_cons,List.length_nil,maxLen];constructor<;>omega))|fail) ?_)
  |refine nO ?_)
 all_goals first|rfl|exact⟨rfl,trivial⟩|trivial
end
theorem vj{t a:Int}(hs:bT t a=true)(hg:0≤t∧t≤3∧0≤a∧a≤4){s:Src}{N:Int}(hS:iK s N)(hN:N≤500000000){Q:List CV}{one two:Int}(b1:0≤one∧one≤3)(b2:0≤two∧two≤4)
 (cf:aE Tryz.prog 187 [.c (.rp 6 Q)] (.tup [I one,I two])):
 ai Tryz.prog 167 [.c (.op (da s)), .a 2 [J t,J a], .c (.rp 6 Q)] [some [.op (da (xc t a one two s).2.2)],none,none] (.tup [.c (.own 66 3 ((xc t a one two s).1.map az)), .c (.own 66 3 ((xc t a one two s).2.1.map az))]):=by
 obtain⟨m,rfl⟩:∃m:Nat,one=(m:Int):=⟨one.toNat,by omega⟩
 obtain⟨n,rfl⟩:∃n:Nat,two=(n:Int):=⟨two.toNat,by omega⟩
 unfold xc
 rw[Int.toNat_natCast,Int.toNat_natCast]
 refine Fp (s0:=s) (one:=m) (two:=n) (by omega) (by omega) (T:=fun i=>(ey t a s i).1.map az) (A:=fun i=>(ld t a (ey t a s m).2 i).1.map az) (S1:=fun i=>(ey t a s i).2) (S2:=fun i=>(ld t a (ey t a s m).2 i).2)
  (tv:=uU oa) (ts:=Df oa) (rv:=fun x=>(iP t a x).1) (rc:=fun x=>(iP t a x).2) (ev:=fun s=>(bx ⟨t,a⟩ 6 false ⟨s,4⟩).1) (es:=fun s=>(bx ⟨t,a⟩ 6 false ⟨s,4⟩).2.s)
  cf (fun i hi=> ?_) (fun x=>zV t a hs x) (fun i hi=> ?_) rfl (fun i=> ?_) (fun i=> ?_) rfl (fun i=>rfl) rfl (fun i=>rfl) rfl (fun i=> ?_) (fun i=> ?_)
 ·have h:=pK (t:=t) (a:=a) hS i
  exact Mv oa (by decide) _ (h.rd.mono (by omega)) h.len
 ·have h:=wK (t:=t) (a:=a) (pK (t:=t) (a:=a) hS m) i
  exact sk ⟨t,a⟩ hg _ (h.rd.mono (by omega)) h.len 4 (by decide)
 ·show(ey t a s (i+1)).1.map az=_
  rw[ey,List.map_append,List.map_cons,List.map_nil,dw]
  rfl
 ·rw[List.length_map,qL]
 ·show(ld t a (ey t a s m).2 (i+1)).1.map az=_
  rw[ld,List.map_append,List.map_cons,List.map_nil,dw]
 ·rw[List.length_map,tO]
end Go.Proofs.YtgbggaddpbghfaaGreat
namespace Go.Proofs.YtgbggaddpbghfaaGreat
open Go Go.KA Go.Proofs
set_option maxHeartbeats 16000000
set_option maxRecDepth 100000
abbrev sw(x:ae):List CV:=[J x.kind,J x.num, .ro 3 (db (x.kids.map az))]
abbrev Ls(s:aB):List CV:=[J s.use, .val (.bool s.back), .ro 1 (s.path.map eI), .ro 3 (db (s.au.map az)), .ro 3 (db (s.c9.map az))]
theorem pL(x:ae):aI x=sw x:=by
 unfold sw
 rw[ch eK]
theorem LP(s:aB):bU s=Ls s:=by
 unfold Ls
 rw[ch eK,ch eK]
 rfl
theorem H8(l:List aB)(b:Bool):j8 (.tup [.c (.own 156 5 (l.map aY)),B b]):=by
 intro s hs
 simp only[List.mem_cons,List.not_mem_nil,or_false] at hs
 rcases hs with rfl|rfl
 ·exact g9 we l
 ·trivial
section
variable{t a:Int}{p:cE}{e:ae}{most:Nat}{s0:Src}{N:Int}(hmost:most≤1000)(hN:N≤500000000)(hS0:iK s0 N)(he:aW t a e=true)
 {F:Nat→Src→ae→List aB→List aB × ae × Src}{fB:ae→Bool}{fL:ae→List aB}{aX:ae→aB→ae}{aC:ae→aB→Int}
 (hsig:p.sig.au=t∧p.sig.aq=a)
 (co:ai Tryz.prog 137 [.c (.rp 3 (aI e))] [] (.a 3 (bQ e)))
 (cF:∀x,aW t a x=true→ai Tryz.prog 192 [.a 2 [J t,J a], .c (.rp 3 (sw x))] [] (.tup [.c (.own 156 5 ((fL x).map aY)),B (!fB x)]))
 (cA:∀x st,aW t a x=true→iS t a st→ai Tryz.prog 172 [.c (.rp 3 (cL p)),I 0, .c (.rp 3 (sw x)), .c (.rp 5 (Ls st))] [] (.tup [.a 3 (bQ (aX x st)),I (aC x st)]))
 (cz:∀x st,aW t a x=true→iS t a st→aC x st=0→aE Tryz.prog 193 [.c (.rp 3 (sw (aX x st)))] (I (gV (aX x st):Nat)))
 (gF:∀x,aW t a x=true→∀st∈fL x,iS t a st)(gL:∀x,(fL x).length≤300)(gA:∀x st,aC x st=0→aW t a (aX x st)=true)
 (f0:∀s x o,F 0 s x o=(o,x,s))
 (f1:∀i s x o,(fB x=true∨(fL x).length=0)→F (i+1) s x o=(o,x,s))
 (f2:∀i s x o,fB x=false→¬(fL x).length=0→¬(aC x ((fL x).getD (bP s (fL x).length).toNat ic)=0∧gV (aX x ((fL x).getD (bP s (fL x).length).toNat ic))≤60)→F (i+1) s x o=(o,x,ar s (fL x).length))
 (f3:∀i s x o,fB x=false→¬(fL x).length=0→(aC x ((fL x).getD (bP s (fL x).length).toNat ic)=0∧gV (aX x ((fL x).getD (bP s (fL x).length).toNat ic))≤60)→F (i+1) s x o=F i (ar s (fL x).length) (aX x ((fL x).getD (bP s (fL x).length).toNat ic)) (o++[(fL x).getD (bP s (fL x).length).toNat ic]))
include hmost hN hS0 he hsig co cF cA cz gF gL gA f0 f1 f2 f3
end
end Go.Proofs.YtgbggaddpbghfaaGreat
namespace Go.Proofs.YtgbggaddpbghfaaGreat
open Go Go.KA Go.Proofs
set_option maxHeartbeats 16000000
set_option maxRecDepth 100000
section
variable{t a:Int}{u:Value}{cl:List (List CV)}{e:ae}{most:Nat}{s0:Src}{N:Int}(hmost:most≤1000)(hN:N≤500000000)(hS0:iK s0 N)(he:aW t a e=true)
 {F:Nat→Src→ae→List aB→List aB × ae × Src}{fB:ae→Bool}{fL:ae→List aB}{aX:ae→aB→ae}{aC:ae→aB→Int}
 (co:ai Tryz.prog 137 [.c (.rp 3 (sw e))] [] (.a 3 (bQ e)))
 (cF:∀x,aW t a x=true→ai Tryz.prog 192 [.a 2 [J t,J a], .c (.rp 3 (sw x))] [] (.tup [.c (.own 156 5 ((fL x).map aY)),B (!fB x)]))
 (cA:∀x st,aW t a x=true→iS t a st→ai Tryz.prog 172 [.c (.rp 3 [J t,J a, .ro 9 (db cl)]),I 0, .c (.rp 3 (sw x)), .c (.rp 5 (Ls st))] [] (.tup [.a 3 (bQ (aX x st)),I (aC x st)]))
 (cz:∀x st,aW t a x=true→iS t a st→aC x st=0→aE Tryz.prog 193 [.c (.rp 3 (sw (aX x st)))] (I (gV (aX x st):Nat)))
 (gF:∀x,aW t a x=true→∀st∈fL x,iS t a st)(gL:∀x,(fL x).length≤300)(gA:∀x st,aC x st=0→aW t a (aX x st)=true)
 (f0:∀s x o,F 0 s x o=(o,x,s))
 (f1:∀i s x o,(fB x=true∨(fL x).length=0)→F (i+1) s x o=(o,x,s))
 (f2:∀i s x o,fB x=false→¬(fL x).length=0→¬(aC x ((fL x).getD (bP s (fL x).length).toNat ic)=0∧gV (aX x ((fL x).getD (bP s (fL x).length).toNat ic))≤60)→F (i+1) s x o=(o,x,ar s (fL x).length))
 (f3:∀i s x o,fB x=false→¬(fL x).length=0→(aC x ((fL x).getD (bP s (fL x).length).toNat ic)=0∧gV (aX x ((fL x).getD (bP s (fL x).length).toNat ic))≤60)→F (i+1) s x o=F i (ar s (fL x).length) (aX x ((fL x).getD (bP s (fL x).length).toNat ic)) (o++[(fL x).getD (bP s (fL x).length).toNat ic]))
include hmost hN hS0 he co cF cA cz gF gL gA f0 f1 f2 f3
theorem DA{R:List aB × ae × Src}(hR:F (bP s0 (most+1)).toNat (ar s0 (most+1)) e []=R):ai Tryz.prog 169 [.c (.op (da s0)), .c (.op [J t,J a, .eN u 104 9 cl]), .a 3 (sw e),I (most:Nat)] [some [.op (da R.2.2)],some [.op [J t,J a, .eN u 104 9 cl]],none,none] (.tup [.c (.own 156 5 (R.1.map aY)), .a 3 (bQ R.2.1)]):=by
 have cp:=c7 s0 (hS0.rd.mono (by omega)) hS0.len (most+1) (by unfold jE;omega)
 have bp:=cH s0 (n:=((most:Nat):Int)+1) (by omega)
 have hS1:=hS0.pick (most+1)
 generalize bP s0 (((most:Nat):Int)+1)=k at cp bp hR
 generalize ar s0 (((most:Nat):Int)+1)=s1 at cp hS1 hR
 obtain⟨m,rfl⟩:∃m:Nat,k=(m:Int):=⟨k.toNat,by omega⟩
 rw[Int.toNat_natCast] at hR
 refine cX Tryz.func169 (h:= ?_)
 repeat'((conv=>whnf);first
  |(guard_target=aa _ 53 _ _ _ _;(have _:=hL);(obtain⟨j,rfl⟩:∃j,i=j+1:=⟨i-1,by omega⟩);(have h0:¬(fL x).length=0:=by omega);(have hq:=c7 s (hS.rd.mono (by omega)) hS.len ((fL x).length:Nat) (by unfold jE;omega));(have bk:=cH s (n:=((fL x).length:Nat)) (by omega));(have hS':=hS.pick ((fL x).length:Nat));(have q2:=f2 j s x o);(have q3:=f3 j s x o);generalize bP s ((fL x).length:Nat)=kk at hq bk q2 q3;generalize ar s ((fL x).length:Nat)=sq at hq hS' q2 q3;rw[←List.length_map (f:=aY)] at hq;(have hst:iS t a ((fL x).getD kk.toNat ic):=gF x hg _ (by rw[getD_eq (by omega)];exact List.getElem_mem _));refine aa.gen [true,false] _ _ _ rfl hq rfl rfl _ rfl ?_)|(guard_target=Gh _ _ _ _ _;(have hc:aC x ((fL x).getD kk.toNat ic)=0:=by assumption);(have hb:fB x=false:=by first|assumption|(have h9:=‹(!fB x)=true›;simpa using h9));(have hn:gV (aX x ((fL x).getD kk.toNat ic))≤60:=by omega);refine Gh.G8 8 _ rfl (Gh.IA 19 8 rfl (Gh.go ⟨(⟨z-1,j,rows++[aY ((fL x).getD kk.toNat ic)],aX x ((fL x).getD kk.toNat ic),sq,o++[((fL x).getD kk.toNat ic)]⟩:Int × Nat × List (List CV)× ae × Src × List aB),(by exact⟨by show z-1=_;omega,by show j≤m;omega,by show _=(o++[((fL x).getD kk.toNat ic)]).map aY;rw[List.map_append,←hr];rfl,(q3 hb h0 ⟨hc,hn⟩).symm.trans hF,gA _ _ hc,hS'.mono (by omega),by show(o++[_]).length+j≤m;rw[List.length_append];simp only[List.length_cons,List.length_nil];omega⟩),(by show _<_;(try simp only[]);omega),(by(repeat'((conv=>whnf)<;>(first|exact trivial|refine⟨?_, ?_⟩|kernel_rfl)));done),(by(repeat'((conv=>whnf)<;>(first|exact trivial|refine⟨?_, ?_⟩|kernel_rfl)));done),(by(repeat'((conv=>whnf)<;>(first|exact trivial|refine⟨?_, ?_⟩|kernel_rfl)));done)⟩)))|(guard_target=ah _ _;(have hz0:=‹¬z>0›);(obtain rfl:i=0:=by omega);(obtain rfl:=(f0 s x o).symm.trans hF);subst hr;exact ah.mk rfl ⟨rfl,rfl,trivial⟩)|(guard_target=ah _ _;(have h9:fB x=true∨(fL x).length=0:=by first|exact .inl (by assumption)|(have h8:=‹(!fB x)=false›;exact .inl (by simpa using h8))|exact .inr (by omega));(obtain⟨j,rfl⟩:∃j,i=j+1:=⟨i-1,by omega⟩);(obtain rfl:=(f1 j s x o h9).symm.trans hF);subst hr;exact ah.mk rfl ⟨rfl,rfl,trivial⟩)|(guard_target=ah _ _;(have hb:fB x=false:=by first|assumption|(have h9:=‹(!fB x)=true›;simpa using h9));(have h9:¬(aC x ((fL x).getD kk.toNat ic)=0∧gV (aX x ((fL x).getD kk.toNat ic))≤60):=by first|exact(fun hc=>absurd hc.1 (by assumption))|exact(fun hc=>absurd hc.2 (by omega)));(obtain rfl:=(q2 hb h0 h9).symm.trans hF);subst hr;exact ah.mk rfl ⟨rfl,rfl,trivial⟩)
  |refine ah.mk ?_ ?_|(guard_target=~ aP 4 _ _ _ _ _ _;refine lX (Int × Nat × List (List CV)× ae × Src × List aB) [0,1,9,11] (fun⟨z,i,rows,x,s,o⟩=>[(10, .lw 7),(12,I z)]) (fun⟨z,i,rows,x,s,o⟩=>[(0, .cc 3 (da s)),(7, .aG none 156 5 rows),(8, .aG none 66 3 (x.kids.map az)),(10, .cells [.c (J x.kind), .c (J x.num), .lw 8])]) (fun⟨z,i,rows,x,s,o⟩=>z=(i:Nat)∧i≤m∧rows=o.map aY∧F i s x o=R∧aW t a x=true∧iK s (N+2+2*((m:Int)-i))∧o.length+i≤m) (fun⟨z,i,rows,x,s,o⟩=>i) ((m:Int),m,[],e,s1,[]) (by exact⟨rfl,Nat.le_refl _,rfl,hR,he,hS1.mono (by omega),by simp⟩) (fun A ha=> ?_);obtain⟨z,i,rows,x,s,o⟩:=A;have ha:z=(i:Nat)∧i≤m∧rows=o.map aY∧F i s x o=R∧aW t a x=true∧iK s (N+2+2*((m:Int)-i))∧o.length+i≤m:=ha;(obtain⟨hz,hi,hr,hF,hg,hS,ho⟩:=ha);(have hL:=gL x);(have hrl:rows.length≤1000:=by rw[hr,List.length_map];omega))
  |(apply Fact.mk;intro hL;try simp only[List.length_map,maxLen] at hL)
  |((first|apply bA|apply bB|apply bC|apply bD|apply bE|apply bF)<;>intro h<;>(try simp only[List.length_map] at h)<;>(try omega)<;>(try contradiction))|(guard_target=aa _ 193 _ _ _ _;refine cP rfl (cz x _ hg hst (by assumption)) ?_)|(guard_target=aa _ 137 _ _ _ _;refine aa.own _ _ rfl co (gY _) _ rfl ?_)|(guard_target=aa _ 192 _ _ _ _;refine aa.own _ _ rfl (cF x hg) (H8 _ _) _ rfl ?_)|(guard_target=aa _ 53 _ _ _ _;refine aa.gen [true,false] _ _ _ rfl cp rfl rfl _ rfl ?_)|(guard_target=aa _ 172 _ _ _ _;refine aa.own _ _ rfl (cA x _ hg hst) (kg (gY _)) _ rfl ?_)
  |(intro v_)
  |refine aR ?_|(guard_target=Index _ _ _;first|refine Index.mk _ (aF (l:=fL x) (d:=ic) (i:=kk.toNat) (by omega)) ?_)
  |refine iX (k:= ?_)
  |refine nB ?_
  |apply ay.no
  |apply cj.go|(guard_target=aQ _ _;refine aQ.mk (by first|((simp only[List.length_cons,List.length_nil,maxLen];constructor<;>omega))|fail) ?_)
  |refine nO ?_)
 all_goals first|rfl|exact⟨rfl,trivial⟩|exact⟨rfl,rfl,trivial⟩|trivial
end
end Go.Proofs.YtgbggaddpbghfaaGreat
namespace Go.Proofs.YtgbggaddpbghfaaGreat
open Go Go.KA Go.Proofs
set_option maxHeartbeats 16000000
set_option maxRecDepth 100000
section
variable{t a iv ru rf:Int}{s0 s1 s2 s3 sF:Src}{u:Value}{rows st:List (List CV)}{L R X1 X2:ae}{ts us:List ae}{b1 x1 x2:Bool}{r:SV}{ev gT:Src→ae}{es gs:Src→Src}{gS:Src→List aB}
 (hl:rows.length≤1000)
 (c1:ai Tryz.prog 76 [.c (.op (da s0)),I 2] [some [.op (da s1)],none] (B b1))
 (cp:ai Tryz.prog 53 [.c (.op (da s1)),I (rows.length:Nat)] [some [.op (da s2)],none] (I iv))
 (hiv:0<rows.length→0≤iv∧iv<(rows.length:Nat))
 (hix:0<rows.length→rows[iv.toNat]? =some [J L.kind,J L.num, .ro 3 (L.kids.map af),J R.kind,J R.num, .ro 3 (R.kids.map af),J ru,J rf, .ro 5 st])
 (cd:ai Tryz.prog 167 [.c (.op (da s2)), .a 2 [J t,J a], .c (.rp 6 [J L.kind,J L.num, .ro 3 (L.kids.map af),J R.kind,J R.num, .ro 3 (R.kids.map af)])] [some [.op (da s3)],none,none] (.tup [.c (.own 66 3 (ts.map az)), .c (.own 66 3 (us.map az))]))
 (cs1:ai Tryz.prog 168 [.a 2 [J t,J a], .c (.rp 6 [J L.kind,J L.num, .ro 3 (L.kids.map af),J R.kind,J R.num, .ro 3 (R.kids.map af)]), .c (.ro 3 (db (ts.map az))), .c (.ro 3 (db (us.map az)))] [] (.tup [.a 3 (bQ X1),B x1]))
 (cs2:ai Tryz.prog 168 [.a 2 [J t,J a], .c (.rp 3 [J R.kind,J R.num, .ro 3 (R.kids.map af)]), .c (.ro 3 (db (ts.map az))), .c (.ro 3 (db (us.map az)))] [] (.tup [.a 3 (bQ X2),B x2]))
 (ce:∀z,(z=s0∨z=s1∨z=s3)→ai Tryz.prog 139 [.c (.op (da z)), .a 2 [J t,J a],I 5] [some [.op (da (es z))],none,none] (.a 3 (bQ (ev z))))
 (cg:∀z,(z=s0∨z=s1∨z=s3)→ai Tryz.prog 169 [.c (.op (da (es z))), .c (.op [J t,J a, .eN u 104 9 rows]), .a 3 (sw (ev z)),I 2] [some [.op (da (gs z))],some [.op [J t,J a, .eN u 104 9 rows]],none,none] (.tup [.c (.own 156 5 ((gS z).map aY)), .a 3 (bQ (gT z))]))
 (o1:0<rows.length→b1=true→x1=true→x2=true→r= .a 9 [J X1.kind,J X1.num, .own 66 3 (X1.kids.map az),J X2.kind,J X2.num, .own 66 3 (X2.kids.map az),J 1,J 0, .own 156 5 [[J (-1-iv), .val (.bool false), .ows 2 1 [], .own 66 3 (ts.map az), .own 66 3 (us.map az)]]]∧sF=s3)
 (o2:∀z,(0<rows.length→b1=true→(x1=false∨x2=false)∧z=s3)→(0<rows.length→b1=false→z=s1)→(¬0<rows.length→z=s0)→r= .a 9 [J (ev z).kind,J (ev z).num, .ro 3 (db ((ev z).kids.map az)),J (gT z).kind,J (gT z).num, .own 66 3 ((gT z).kids.map az),J 1,J 0, .own 156 5 ((gS z).map aY)]∧sF=gs z)
include hl c1 cp hiv hix cd cs1 cs2 ce cg o1 o2
theorem Ey:ai Tryz.prog 138 [.c (.op (da s0)), .c (.op [J t,J a, .eN u 104 9 rows])] [some [.op (da sF)],some [.op [J t,J a, .eN u 104 9 rows]]] r:=by
 refine cX Tryz.func138 (fun reg_=>match reg_ with|5=>true|12=>true|_=>false) (h:= ?_)
 repeat'((conv=>whnf);first
  |(guard_target=Gh _ _ _ _ _;(fail_if_success (have _:=hi5));(have _:=‹b1=true›);(have hi5:=hiv (by omega));refine Gh.Ax 14 _ rfl (Gh.go ?_))|(guard_target=Gh _ _ _ _ _;(have _:=hi5);refine Gh.G8 23 _ rfl (Gh.go ?_))|(guard_target=Gh _ _ _ _ _;refine Gh.G8 7 _ rfl (Gh.go ?_))|(guard_target=ah _ _;(obtain⟨rfl,rfl⟩:=o1 (by omega) (by assumption) (by assumption) (by assumption));exact ah.mk rfl ⟨rfl,rfl,trivial⟩)|(guard_target=ah _ _;(obtain⟨rfl,rfl⟩:=o2 s0 (fun h _=>absurd h (by omega)) (fun h _=>absurd h (by omega)) (fun _=>rfl));exact ah.mk rfl ⟨rfl,rfl,trivial⟩)|(guard_target=ah _ _;(have h8:=‹b1=false›);(obtain⟨rfl,rfl⟩:=o2 s1 (fun _ h=>absurd (h.symm.trans h8) (by decide)) (fun _ _=>rfl) (fun h=>absurd (by omega) h));exact ah.mk rfl ⟨rfl,rfl,trivial⟩)|(guard_target=ah _ _;(have h8:=‹b1=true›);(obtain⟨rfl,rfl⟩:=o2 s3 (fun _ _=>⟨by first|exact .inl (by assumption)|exact .inr (by assumption),rfl⟩) (fun _ h=>absurd (h8.symm.trans h) (by decide)) (fun h=>absurd (by omega) h));exact ah.mk rfl ⟨rfl,rfl,trivial⟩)
  |apply bo.mk
  |refine ah.mk ?_ ?_
  |(apply Fact.mk;intro hL;try simp only[List.length_map,maxLen] at hL)
  |((first|apply bA|apply bB|apply bC|apply bD|apply bE|apply bF)<;>intro h<;>(try simp only[List.length_map] at h)<;>(try omega)<;>(try contradiction))|(guard_target=aa _ 76 _ _ _ _;refine cG [true,false] rfl (c1) ?_)|(guard_target=aa _ 53 _ _ _ _;refine cG [true,false] rfl (cp) ?_)|(guard_target=aa _ 167 _ _ _ _;refine cG [true,false,false] rfl (cd) ?_)|(guard_target=aa _ 140 _ _ _ _;refine aa.raw rfl (pt dd hm Tryz.func140 rfl rfl rfl rfl (ann:=fun _=>none) (gh:=fun _=>false) ?_))|(guard_target=uq _ _ _ _ _ _;refine uq.of rfl ?_)|(guard_target=kq _ _ _;first|refine kq.refl ?_|refine kq.iC ?_|refine kq.one ?_|refine kq.step ?_)|(guard_target=aa _ 168 _ _ _ _;(first|refine aa.own _ _ rfl cs1 (kg (gY _)) _ rfl ?_|refine aa.own _ _ rfl cs2 (kg (gY _)) _ rfl ?_))|(guard_target=aa _ 139 _ _ _ _;(first|refine aa.gen [true,false,false] _ _ _ rfl (ce s0 (.inl rfl)) rfl rfl _ rfl ?_|refine aa.gen [true,false,false] _ _ _ rfl (ce s1 (.inr (.inl rfl))) rfl rfl _ rfl ?_|refine aa.gen [true,false,false] _ _ _ rfl (ce s3 (.inr (.inr rfl))) rfl rfl _ rfl ?_))|(guard_target=aa _ 169 _ _ _ _;(first|refine aa.gen [true,true,false,false] _ _ _ rfl (cg s0 (.inl rfl)) rfl rfl _ rfl ?_|refine aa.gen [true,true,false,false] _ _ _ rfl (cg s1 (.inr (.inl rfl))) rfl rfl _ rfl ?_|refine aa.gen [true,true,false,false] _ _ _ rfl (cg s3 (.inr (.inr rfl))) rfl rfl _ rfl ?_))
  |refine aR ?_|(guard_target=Index _ _ _;first|refine Index.mk _ (hix (by omega)) ?_)
  |refine iX (k:= ?_)
  |refine nB ?_
  |apply ay.no
  |apply cj.go
  |refine nO ?_)
 all_goals first|rfl|exact⟨rfl,trivial⟩|trivial
end
end Go.Proofs.YtgbggaddpbghfaaGreat
