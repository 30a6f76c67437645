/- Part of a proof engine for functions of the given program: what an operation, a loop and a call compute, symbolically. No conditions. -/
import Derived.Test.YtgbggaddpbghfaaGreatEngL
namespace Go.KA
open Go Go.RowKit
def pJ(ks:List Nat):List oA:=ks.map fun k=>⟨k, .dead,[],none⟩
theorem ki:∀ks:List Nat,fu (pJ ks)=iW ks
 |[]=>rfl
 |k::ks=>by
  have:=ki ks
  simp only[pJ,fu,List.map_cons,iW] at this⊢
  rw[this]
theorem dx(a b:List oA):fu (a++b)=fu a++fu b:=by simp[fu]
theorem tM{ks:List Nat}{e:oA}(h:e∈pJ ks):e.b= .dead∧e.f=[]∧e.v=none∧e.nm∈ks:=by
 obtain⟨k,hk,rfl⟩:=List.mem_map.1 h
 exact⟨rfl,rfl,rfl,hk⟩
theorem Ld(ks:List Nat):(pJ ks).map (·.nm)=ks:=by simp[pJ,Function.comp_def]
theorem Mp(ks:List Nat):((pJ ks).map (·.f)).flatten=[]:=by
 rw[List.flatten_eq_nil_iff]
 intro l hl
 obtain⟨e,he,rfl⟩:=List.mem_map.1 hl
 exact(tM he).2.1
structure eA(w:World)(ok:Nat→Prop)(ρ:RM)(n m:Nat)(names:List Nat)(L:List oA)(f:List Nat):Prop where
 le:n≤m
 nm:(L.map (·.nm)).Perm (List.range' n (m-n)++names)
 ft:((L.map (·.f)).flatten).Perm f
 den:∀e∈L,∀ρ':RM,Ext ρ ρ'→(∀e'∈L,e'.v≠none→ρ' e'.nm=e'.v)→dd ρ' w ok e.b (l7 e (ρ e.nm)) e.f
 new:∀e∈L,e.v≠none→n≤e.nm∧e.nm<m
section
variable{w:World}{ok:Nat→Prop}{ρ:RM}
theorem eA.nil{n:Nat}:eA w ok ρ n n [] [] []:=⟨Nat.le_refl _,by simp,by simp,by simp,by simp⟩
theorem eA.append{n m k:Nat}{a b:List Nat}{L L':List oA}{f f':List Nat}(h:eA w ok ρ n m a L f)(h':eA w ok ρ m k b L' f'):eA w ok ρ n k (a++b) (L++L') (f++f'):=by
 have e1:=h.le
 have e2:=h'.le
 refine⟨by omega, ?_, ?_,fun e he ρ' hρ hv=> ?_,fun e he hev=> ?_⟩
 ·rw[List.map_append]
  refine(h.nm.append h'.nm).trans ?_
  have:List.range' n (k-n)=List.range' n (m-n)++List.range' m (k-m):=by
   have:=List.range'_append_1 (s:=n) (m:=m-n) (n:=k-m)
   rw[show n+(m-n)=m by omega,show m-n+(k-m)=k-n by omega] at this
   exact this.symm
  rw[this]
  simp only[List.append_assoc]
  refine .append_left _ ?_
  exact List.perm_append_comm_assoc a _ b
 ·rw[List.map_append,List.flatten_append]
  exact h.ft.append h'.ft
 ·rcases List.mem_append.1 he with he|he
  ·exact h.den e he ρ' hρ fun e' he'=>hv e' (by simp[he'])
  ·exact h'.den e he ρ' hρ fun e' he'=>hv e' (by simp[he'])
 ·rcases List.mem_append.1 he with he|he
  ·have:=h.new e he hev;omega
  ·have:=h'.new e he hev;omega
theorem eA.JW{n:Nat}{L:List oA}{f g:List Nat}(h:gB w ok n L g)(hp:g.Perm f):eA w ok ρ n (n+L.length) [] L f:=by
 refine⟨by omega,by rw[h.names];simp,by rw[h.flat];exact hp,fun e he ρ' hρ hv=> ?_,fun e he _=>h.mem he⟩
 obtain⟨u,h1,h2⟩:=h.den e he
 simp only[l7,h1]
 exact h2 ρ' fun e' he'=>hv e' he' (by obtain⟨u',hu',_⟩:=h.den e' he';rw[hu'];simp)
theorem eA.dead{n:Nat}(ks:List Nat):eA w ok ρ n n ks (pJ ks) []:=by
 refine⟨Nat.le_refl _,by rw[Ld];simp,by rw[Mp],fun e he ρ' hρ hv=> ?_,fun e he hev=> ?_⟩
 ·obtain⟨h1,h2,_⟩:=tM he
  rw[h1,h2]
  exact .dead
 ·exact absurd (tM he).2.2.1 hev
theorem eA.one{n k:Nat}{b:dE}{f:List Nat}(h:∀ρ':RM,Ext ρ ρ'→dd ρ' w ok b (ρ k) f):eA w ok ρ n n [k] [⟨k,b,f,none⟩] f:=by
 refine⟨Nat.le_refl _,by simp,by simp,fun e he ρ' hρ hv=> ?_,fun e he hev=> ?_⟩
 ·have he:=List.mem_singleton.1 he
  subst he
  exact h ρ' hρ
 ·have he:=List.mem_singleton.1 he
  subst he
  exact absurd rfl hev
theorem Jf{w0:World}{os:List (Option (List CV))}{v:Value}{vs:List Value}{f:List Nat}(h:kH w0 w ok os (v::vs) f):∃g f',f=g++f'∧(∀c,NC os=some c→Den w ok c (lI v).cells.toList g∧Ar w0 w (lI v) c)∧(NC os=none→g=[])∧kH w0 w ok os.tail vs f':=by
 cases h with
 |nil=>exact⟨[],[],rfl,by simp[NC],fun _=>rfl, .nil⟩
 |none ht=>exact⟨[],_,rfl,by simp[NC],fun _=>rfl,ht⟩
 |some h hk ht=>exact⟨_,_,rfl,fun c hc=>by simp[NC] at hc;subst hc;exact⟨h,hk⟩,fun hc=>by simp[NC] at hc,ht⟩
theorem BR{w0:World}{vs:List Value}{f:List Nat}(h:kH w0 w ok [] vs f):f=[]:=by cases h;rfl
theorem eA.QG{n m k b ty:Nat}{arr:Array Value}{ks:List Nat}{L:List oA}{g:List Nat}{ss:List SV}(hρ:ρ k=some (.pointer (some ⟨b,0,none⟩)))(hb:w.heap[b]? =some (.cells arr ty (0,0)))(h1:eA w ok ρ n m ks L g)
 (hC:∀ρ':RM,Ext ρ ρ'→(∀e∈L,e.v≠none→ρ' e.nm=e.v)→PW (bG ρ' w ok) ss arr.toList):eA w ok ρ n m (k::ks) (L++[⟨k,ff ss,[b],none⟩]) (b::g):=by
 refine⟨h1.le, ?_, ?_,fun e he ρ' hρ' hv=> ?_,fun e he hev=> ?_⟩
 ·rw[List.map_append]
  refine(h1.nm.append_right _).trans ?_
  simp only[List.map_cons,List.map_nil,List.append_assoc]
  exact .append_left _ (List.perm_append_singleton k ks)
 ·rw[List.map_append,List.flatten_append]
  refine(h1.ft.append_right _).trans ?_
  simp only[List.map_cons,List.map_nil,List.flatten_cons,List.flatten_nil,List.append_nil]
  exact List.perm_append_singleton b g
 ·rcases List.mem_append.1 he with he|he
  ·exact h1.den e he ρ' hρ' fun e' he'=>hv e' (by simp[he'])
  ·have he:=List.mem_singleton.1 he
   subst he
   simp only[l7,hρ]
   obtain⟨k1,k2⟩:=hC ρ' hρ' fun e he=>hv e (by simp[he])
   exact et hb k1 k2
 ·rcases List.mem_append.1 he with he|he
  ·exact h1.new e he hev
  ·have he:=List.mem_singleton.1 he
   subst he
   exact absurd rfl hev
theorem lH{w0:World}{ok0:Nat→Prop}:∀{ss:List SV} {cs:List CV} {vs0 vs:List Value} {n m:Nat} {ss':List SV} {ws:List (Nat × dE)} {g:List Nat},
 yq n ss cs=some (ss',ws,m)→PW (bG ρ w0 ok0) ss vs0→Den w ok cs vs g→(∀(i:Nat) x,cs[i]? =some (.op x)→vs[i]? =vs0[i]?)→
 ∃L,fu L=ws∧eA w ok ρ n m (ss.flatMap iE) L g∧∀ρ':RM,Ext ρ ρ'→(∀e∈L,e.v≠none→ρ' e.nm=e.v)→PW (bG ρ' w ok) ss' vs
 |[],cs,vs0,vs,n,m,ss',ws,g,h,hp,hd,hk=>by
  cases cs with
  |cons _ _=>simp[yq] at h
  |nil=>
   simp only[yq,Option.some.injEq,Prod.mk.injEq] at h
   obtain⟨rfl,rfl,rfl⟩:=h
   cases hd
   exact⟨[],rfl, .nil,fun _ _ _=>⟨rfl,by simp⟩⟩
 |s::ss,[],vs0,vs,n,m,ss',ws,g,h,hp,hd,hk=>by cases s<;>simp[yq] at h
 |s::ss,c::cs,vs0,vs,n,m,ss',ws,g,h,hp,hd,hk=>by
  cases vs0 with
  |nil=>exact absurd hp.1 (by simp)
  |cons v0 vs0=>
  have hp':PW (bG ρ w0 ok0) ss vs0:=⟨by simpa using hp.1,fun j a v ha hv=>hp.2 (j+1) a v ha hv⟩
  have hs0:bG ρ w0 ok0 s v0:=hp.2 0 s v0 rfl rfl
  have hk':∀{v:Value} {vs:List Value},(∀(i:Nat) x,(c::cs)[i]? =some (.op x)→(v::vs)[i]? =(v0::vs0)[i]?)→∀(i:Nat) x,cs[i]? =some (.op x)→vs[i]? =vs0[i]? :=fun hk i x hx=>by simpa using hk (i+1) x (by simpa using hx)
  unfold yq at h
  split at h
  ·rename_i e _;cases e
  ·rename_i n0 j off ss0 c0 cs0 e1 e2
   cases e1
   cases e2
   split at h
   case h_2=>cases h
   rename_i is
   split at h
   case h_2=>cases h
   rename_i ks bs m1 hr1
   split at h
   case h_2=>cases h
   rename_i ss1 ws1 m2 hr2
   simp only[Option.some.injEq,Prod.mk.injEq] at h
   obtain⟨rfl,rfl,rfl⟩:=h
   cases hd with
   | @op as vs f ty _ b g arr hb hin ht=>
     have e0:=hk 0 is rfl
     simp only[List.getElem?_cons_zero,Option.some.injEq] at e0
     subst e0
     obtain⟨L0,g1,g2,g3,g4⟩:=dk hr1 hin
     subst g2
     obtain⟨L,k1,k2,k3⟩:=lH hr2 hp' ht (hk' hk)
     obtain⟨hρ,hoff⟩:ρ j=some (.pointer (some ⟨b,0,none⟩))∧off=0:=by
      cases hs0 with
      |lp h=>exact⟨h,rfl⟩
     subst hoff
     have hC:∀ρ':RM,Ext ρ ρ'→(∀e∈L0,e.v≠none→ρ' e.nm=e.v)→PW (bG ρ' w ok) ks arr.toList:=fun ρ' _ hv=>g4 ρ' fun e he=>hv e he (by obtain⟨u,hu,_⟩:=g3.den e he;rw[hu];simp)
     have h1:=eA.QG hρ hb (eA.JW (ρ:=ρ) g3 (.refl _)) hC
     have h2:=h1.append k2
     refine⟨L0++[⟨j,ff ks,[b],none⟩]++L, ?_,by simpa only[iE,List.flatMap_cons,List.cons_append] using h2,fun ρ' hρ' hv=> ?_⟩
     ·rw[dx,dx,g1,k1,List.append_assoc]
      rfl
     ·obtain⟨q1,q2⟩:=k3 ρ' hρ' fun e he=>hv e (by simp[he])
      refine⟨by simp[q1],fun i a v ha hv'=> ?_⟩
      cases i with
      |zero=>
       simp at ha hv'
       subst ha hv'
       exact .lp (hρ' _ _ hρ)
      |succ i=>exact q2 i a v (by simpa using ha) (by simpa using hv')
  ·rename_i n0 mA lA lB k ss0 c0 cs0 e1 e2
   cases e1
   cases e2
   split at h
   ·rename_i ty sz rows
    split at h
    case h_2=>cases h
    rename_i ss1 ws1 m2 hr2
    simp only[Option.some.injEq,Prod.mk.injEq] at h
    obtain⟨rfl,rfl,rfl⟩:=h
    cases hd with
    | @ows _ _ _ ty sz rows xs v hin hr ho ht=>
      have hA:ey [.ows ty sz rows] n0=some ([.lw n0],[(n0, .row none ty sz rows)],n0+1):=rfl
      obtain⟨L0,g1,g2,g3,g4⟩:=dk hA (Den.ows hin hr ho .nil)
      rw[g2] at hr2
      obtain⟨L,k1,k2,k3⟩:=lH hr2 hp' ht (hk' hk)
      have h2:=((eA.JW (ρ:=ρ) g3 (.refl _)).append (eA.dead [k])).append k2
      refine⟨L0++pJ [k]++L, ?_,by simpa[iE,gx] using h2,fun ρ' hρ' hv=> ?_⟩
      ·rw[dx,dx,g1,k1,ki]
       rfl
      ·obtain⟨q1,q2⟩:=k3 ρ' hρ' fun e he=>hv e (by simp[he])
       have q0:=g4 ρ' fun e he=>hv e (by simp[he]) (by obtain⟨u,hu,_⟩:=g3.den e he;rw[hu];simp)
       refine⟨by simp[q1],fun i a v ha hv'=> ?_⟩
       cases i with
       |zero=>
        simp at ha hv'
        subst ha hv'
        exact q0.2 0 _ _ rfl rfl
       |succ i=>exact q2 i a v (by simpa using ha) (by simpa using hv')
   ·rename_i ty sz rows
    split at h
    case h_2=>cases h
    rename_i ss1 ws1 m2 hr2
    simp only[Option.some.injEq,Prod.mk.injEq] at h
    obtain⟨rfl,rfl,rfl⟩:=h
    cases hd with
    | @own _ _ _ ty sz rows xs v g hin hr ho ht=>
      have hA:ey [.own ty sz rows] n0=some ([.lw n0],[(n0, .aG none ty sz rows)],n0+1):=rfl
      obtain⟨L0,g1,g2,g3,g4⟩:=dk hA (Den.own hin hr ho .nil)
      rw[g2] at hr2
      obtain⟨L,k1,k2,k3⟩:=lH hr2 hp' ht (hk' hk)
      have h2:=((eA.JW (ρ:=ρ) g3 (.refl _)).append (eA.dead [k])).append k2
      refine⟨L0++pJ [k]++L, ?_,by simpa[iE,gx] using h2,fun ρ' hρ' hv=> ?_⟩
      ·rw[dx,dx,g1,k1,ki]
       rfl
      ·obtain⟨q1,q2⟩:=k3 ρ' hρ' fun e he=>hv e (by simp[he])
       have q0:=g4 ρ' fun e he=>hv e (by simp[he]) (by obtain⟨u,hu,_⟩:=g3.den e he;rw[hu];simp)
       refine⟨by simp[q1],fun i a v ha hv'=> ?_⟩
       cases i with
       |zero=>
        simp at ha hv'
        subst ha hv'
        exact q0.2 0 _ _ rfl rfl
       |succ i=>exact q2 i a v (by simpa using ha) (by simpa using hv')
   ·cases h
  ·rename_i n1 m1 l1 l2 x ss0 c0 cs0 e1 e2
   cases e1
   cases e2
   split at h
   case h_2=>cases h
   rename_i hpl
   split at h
   case h_2=>cases h
   rename_i ss1 ws1 m2 hr2
   simp only[Option.some.injEq,Prod.mk.injEq] at h
   obtain⟨rfl,rfl,rfl⟩:=h
   have fin:∀{v:Value} {vs:List Value} {g:List Nat},Den w ok [c] [v] []→Den w ok cs vs g→(∀(i:Nat) x,(c::cs)[i]? =some (.op x)→(v::vs)[i]? =(v0::vs0)[i]?)→
    ∃L,fu L=ws1∧eA w ok ρ n1 m2 ((SV.c x::ss).flatMap iE) L g∧∀ρ':RM,Ext ρ ρ'→(∀e∈L,e.v≠none→ρ' e.nm=e.v)→PW (bG ρ' w ok) (.c c::ss1) (v::vs):=by
        intro v vs g h1 ht hk
        obtain⟨L,k1,k2,k3⟩:=lH hr2 hp' ht (hk' hk)
        refine⟨L,k1,by simpa[iE,gx] using k2,fun ρ' hρ' hv=> ?_⟩
        obtain⟨q1,q2⟩:=k3 ρ' hρ' hv
        refine⟨by simp[q1],fun i a v ha hv'=> ?_⟩
        cases i with
        |zero=>
         simp at ha hv'
         subst ha hv'
         exact .c h1
        |succ i=>exact q2 i a v (by simpa using ha) (by simpa using hv')
   cases hd with
   |any h1 ht=>exact fin (.any h1 .nil) ht hk
   |val h1 ht=>exact fin (.val h1 .nil) ht hk
   |cb ht=>exact fin (.cb .nil) ht hk
   |ro hn hc hm hr hin hrd ht=>exact fin (.ro hn hc hm hr hin hrd .nil) ht hk
   |rp hl hin hs hrd ht=>exact fin (.rp hl hin hs hrd .nil) ht hk
   |own _ _ _ _=>cases hpl
   |ows _ _ _ _=>cases hpl
   |eW _ _ _ _=>cases hpl
   |op _ _ _=>cases hpl
   |iu _ _ _ _=>cases hpl
  ·cases h
theorem CX{w0:World}{ok0:Nat→Prop}{H:HM}{F:FM}(hB:∀i,H i= .dead∨dd ρ w0 ok0 (H i) (ρ i) (F i)){k:Nat}{v:Value}(hρ:ρ k=some v):∀u,oo (H k)=some u→v=u:=by
 intro u hu
 unfold oo at hu
 split at hu
 ·rename_i hk
  obtain⟨v',xs,hv',_,_,_,_,hm⟩:=ir hB hk
  rw[hρ] at hv'
  injection hv' with hv'
  subst hv'
  exact hm u hu
 ·rename_i hk
  obtain⟨v',xs,f,hv',_,_,_,_,hm⟩:=dN hB hk
  rw[hρ] at hv'
  injection hv' with hv'
  subst hv'
  exact hm u hu
 ·cases hu
theorem oa{w0:World}{ok0:Nat→Prop}{H:HM}{F:FM}(hB:∀i,H i= .dead∨dd ρ w0 ok0 (H i) (ρ i) (F i)){n:Nat}:∀{ss:List SV} {cs:List CV} {vs:List Value} {ws:List (Nat × dE)} {g:List Nat},
 Bl H ss cs=some ws→PW (bG ρ w0 ok0) ss vs→Den w ok cs vs g→∃L,fu L=ws∧eA w ok ρ n n (ss.flatMap gx) L g
 |[],[],vs,ws,g,h,hp,hd=>by
  simp[Bl] at h
  subst h
  cases hd
  exact⟨[],rfl, .nil⟩
 |s::ss,c::cs,vs,ws,g,h,hp,hd=>by
  have htl:∀{v:Value} {vs:List Value},PW (bG ρ w0 ok0) (s::ss) (v::vs)→PW (bG ρ w0 ok0) ss vs:=fun hp=>⟨by simpa using hp.1,fun j a v ha hv=>hp.2 (j+1) a v ha hv⟩
  unfold Bl at h
  split at h
  ·rename_i he _;cases he
  ·rename_i k ss0 c0 cs0 he1 he2
   cases he1
   cases he2
   split at h
   ·rename_i ty sz rows
    split at h
    case h_2=>cases h
    rename_i l hl
    injection h with h
    subst h
    cases hd with
    |ows hin hr ho ht=>
     obtain⟨L,a1,a2⟩:=oa (n:=n) hB hl (htl hp) ht
     have hρ:ρ k=some _:=(tq (.v (.c (hp.2 0 _ _ rfl rfl)))).1
     obtain⟨L1,b1,h1⟩:∃L1,fu L1=[(k, .row (oo (H k)) ty sz rows)]∧eA w ok ρ n n [k] L1 _:=⟨[⟨k, .row (oo (H k)) ty sz rows,_,none⟩],rfl, .one fun ρ' _=>by
      rw[hρ];exact .row ho hr hin (CX hB hρ)⟩
     exact⟨L1++L,by rw[dx,b1,a1];rfl,by simpa[gx] using h1.append a2⟩
   ·rename_i ty sz rows
    split at h
    case h_2=>cases h
    rename_i l hl
    injection h with h
    subst h
    cases hd with
    |own hin hr ho ht=>
     obtain⟨L,a1,a2⟩:=oa (n:=n) hB hl (htl hp) ht
     have hρ:ρ k=some _:=(tq (.v (.c (hp.2 0 _ _ rfl rfl)))).1
     obtain⟨L1,b1,h1⟩:∃L1,fu L1=[(k, .aG (oo (H k)) ty sz rows)]∧eA w ok ρ n n [k] L1 _:=⟨[⟨k, .aG (oo (H k)) ty sz rows,_,none⟩],rfl, .one fun ρ' _=>by
      rw[hρ];exact .aG ho hr hin (CX hB hρ)⟩
     exact⟨L1++L,by rw[dx,b1,a1];rfl,by simpa[gx] using h1.append a2⟩
   ·cases h
  ·rename_i x ss0 c0 cs0 he1 he2
   cases he1
   cases he2
   split at h
   case h_2=>cases h
   rename_i hpl
   have hg:∀{v:Value} {vs:List Value} {g:List Nat},Den w ok (c::cs) (v::vs) g→Den w ok cs vs g:=by
        intro v vs g hd
        cases hd with
        |any _ ht=>exact ht
        |val _ ht=>exact ht
        |cb ht=>exact ht
        |ro _ _ _ _ _ _ ht=>exact ht
        |rp _ _ _ _ ht=>exact ht
        |own _ _ _ _=>cases hpl
        |ows _ _ _ _=>cases hpl
        |eW _ _ _ _=>cases hpl
        |op _ _ _=>cases hpl
        |iu _ _ _ _=>cases hpl
   cases vs with
   |nil=>exact absurd hp.1 (by simp)
   |cons v vs=>
    obtain⟨L,a1,a2⟩:=oa (n:=n) hB h (htl hp) (hg hd)
    exact⟨L,a1,by simpa[gx] using a2⟩
  ·cases h
 |[],_::_,_,_,_,h,_,_=>by simp[Bl] at h
 |s::_,[],_,_,_,h,_,_=>by cases s<;>simp[Bl] at h
theorem Fi{w0:World}{ok0:Nat→Prop}{H:HM}{F:FM}(hB:∀i,H i= .dead∨dd ρ w0 ok0 (H i) (ρ i) (F i)){n m:Nat}{s:SV}{v:Value}{o:Option (List CV)}{ws:List (Nat × dE)}{rn:List (Nat × Nat)}{g:List Nat}
 (h:OU H n s o=some (ws,m,rn))(hs:aZ ρ w0 ok0 s v)(hd:∀c,o=some c→Den w ok c (lI v).cells.toList g)(hkp:∀c,o=some c→Ar w0 w (lI v) c)(hn:o=none→g=[]):∃L,fu L=ws∧eA w ok ρ n m (en H s) L g:=by
 unfold OU at h
 split at h
 ·rename_i k
  obtain⟨hρ,hsl⟩:=tq hs
  have hcell:(lI v).cells.toList=[v]:=by obtain⟨a,n,c,rfl⟩:=hsl;rfl
  rw[hcell] at hd
  have hmark:∀u,oo (H k)=some u→v=u:=by
   intro u hu
   unfold oo at hu
   split at hu
   ·rename_i hk
    obtain⟨v',xs,hv',_,_,_,_,hm⟩:=ir hB hk
    rw[hρ] at hv'
    injection hv' with hv'
    subst hv'
    exact hm u hu
   ·rename_i hk
    obtain⟨v',xs,f,hv',_,_,_,_,hm⟩:=dN hB hk
    rw[hρ] at hv'
    injection hv' with hv'
    subst hv'
    exact hm u hu
   ·cases hu
  split at h
  ·rename_i ty sz rows
   simp only[Option.some.injEq,Prod.mk.injEq] at h
   obtain⟨rfl,rfl,rfl⟩:=h
   have:=hd _ rfl
   refine⟨[⟨k,_,g,none⟩],rfl, .one fun ρ' _=> ?_⟩
   rw[hρ]
   cases this with
   |ows hin hr ho ht=>cases ht;rw[List.append_nil];exact .row ho hr hin hmark
  ·rename_i ty sz rows
   simp only[Option.some.injEq,Prod.mk.injEq] at h
   obtain⟨rfl,rfl,rfl⟩:=h
   have:=hd _ rfl
   refine⟨[⟨k,_,g,none⟩],rfl, .one fun ρ' _=> ?_⟩
   rw[hρ]
   cases this with
   |own hin hr ho ht=>cases ht;rw[List.append_nil];exact .aG ho hr hin hmark
  ·simp only[Option.some.injEq,Prod.mk.injEq] at h
   obtain⟨rfl,rfl,rfl⟩:=h
   have:=hn rfl
   subst this
   exact⟨pJ [k],ki [k], .dead [k]⟩
  ·cases h
 ·rename_i k off
  obtain⟨b,hρ,rfl⟩:=sW hs
  have hcell:(lI (Value.pointer (some ⟨b,off,none⟩))).cells.toList=[Value.pointer (some ⟨b,0,none⟩)]:=rfl
  rw[hcell] at hd
  split at h
  ·rename_i cells
   split at h
   ·split at h
    case h_2=>cases h
    rename_i cs hk
    split at h
    case h_2=>cases h
    rename_i ss ws1 m' hrec
    simp only[Option.some.injEq,Prod.mk.injEq] at h
    obtain⟨rfl,rfl,rfl⟩:=h
    have hkeep:=hkp _ rfl
    have:=hd _ rfl
    cases this with
    | @op _ _ _ ty' _ b' g' arr hb hin ht=>
      cases ht
      obtain⟨b0,ty0,arr0,hρ0,hh0,hl0,hin0,_⟩:=kI hB hk
      rw[hρ] at hρ0
      simp only[Option.some.injEq,Value.pointer.injEq,Addr.mk.injEq,and_true] at hρ0
      subst hρ0
      obtain⟨L,a1,a2,a3⟩:=lH hrec ⟨hl0,hin0⟩ hin (hkeep cells rfl b ty0 ty' arr0 arr rfl hh0 hb)
      refine⟨L++[⟨k,ff ss,[b],none⟩],by rw[dx,a1];rfl, ?_⟩
      have e:en H (.lp k off)=k::cs.flatMap iE:=by simp[en,hk]
      rw[e]
      simpa using eA.QG hρ hb a2 a3
   rename_i hnest
   split at h
   case h_2=>cases h
   rename_i ss bs m' hrec
   have:=hd _ rfl
   cases this with
   | @op _ _ _ ty' _ b' g' arr hb hin ht=>
     cases ht
     obtain⟨L,a1,a2,a3,a4⟩:=dk hrec hin
     subst a2
     have hT:eA w ok ρ n (n+L.length) [] L g':= .JW a3 (.refl _)
     have main:∀{ks:List Nat} {L0:List oA},eA w ok ρ (n+L.length) (n+L.length) ks L0 []→eA w ok ρ n (n+L.length) (k::ks) (L++L0++[⟨k,ff ss,[b],none⟩]) (b::g'++[]):=by
      intro ks L0 h0
      have h1:=hT.append h0
      refine⟨h1.le, ?_, ?_,fun e he ρ' hρ' hv=> ?_,fun e he hev=> ?_⟩
      ·rw[List.map_append]
       refine(h1.nm.append_right _).trans ?_
       simp only[List.nil_append,List.map_cons,List.map_nil,List.append_assoc]
       exact .append_left _ (List.perm_append_singleton k ks)
      ·rw[List.map_append,List.flatten_append]
       refine(h1.ft.append_right _).trans ?_
       simp only[List.append_nil,List.map_cons,List.map_nil,List.flatten_cons,List.flatten_nil]
       exact List.perm_append_singleton b g'
      ·rcases List.mem_append.1 he with he|he
       ·exact h1.den e he ρ' hρ' fun e' he'=>hv e' (by simp at he'⊢;rcases he' with h|h<;>simp[h])
       ·have he:=List.mem_singleton.1 he
        subst he
        simp only[l7,hρ]
        obtain⟨k1,k2⟩:=a4 ρ' fun e he=>hv e (by simp[he]) (by obtain⟨u,hu,_⟩:=a3.den e he;rw[hu];simp)
        exact et hb k1 k2
      ·rcases List.mem_append.1 he with he|he
       ·exact h1.new e he hev
       ·have he:=List.mem_singleton.1 he
        subst he
        exact absurd rfl hev
     split at h
     ·rename_i cs hk
      simp only[Option.some.injEq,Prod.mk.injEq] at h
      obtain⟨rfl,rfl,rfl⟩:=h
      refine⟨L++pJ (cs.flatMap iE)++[⟨k,ff ss,[b],none⟩], ?_, ?_⟩
      ·rw[dx,dx,ki,a1]
       rfl
      ·have e:en H (.lp k off)=k::cs.flatMap iE:=by simp[en,hk]
       rw[e]
       exact main (.dead _)
     ·rename_i hne
      simp only[Option.some.injEq,Prod.mk.injEq] at h
      obtain⟨rfl,rfl,rfl⟩:=h
      refine⟨L++[]++[⟨k,ff ss,[b],none⟩], ?_, ?_⟩
      ·rw[List.append_nil,dx,a1]
       rfl
      ·have e:en H (.lp k off)=[k]:=by
           cases hk:H k<;>first|(exact(hne _ hk).elim)|simp[en,hk]
       rw[e]
       exact main .nil
  ·rename_i t e s
   split at h
   case h_2=>cases h
   rename_i hk
   simp only[Option.some.injEq,Prod.mk.injEq] at h
   obtain⟨rfl,rfl,rfl⟩:=h
   have:=hd _ rfl
   have e1:en H (.lp k off)=[k]:=by simp[en,hk]
   rw[e1]
   refine⟨[⟨k,_,g,none⟩],rfl, .one fun ρ' _=> ?_⟩
   rw[hρ]
   cases this with
   |iu hp hb ho ht=>cases ht;rw[List.append_nil];exact .iu hp hb ho
  ·have:=hn rfl
   subst this
   split at h
   ·rename_i cs hk
    simp only[Option.some.injEq,Prod.mk.injEq] at h
    obtain⟨rfl,rfl,rfl⟩:=h
    have e:en H (.lp k off)=k::cs.flatMap iE:=by simp[en,hk]
    rw[e]
    exact⟨_,ki _, .dead _⟩
   ·rename_i hne
    simp only[Option.some.injEq,Prod.mk.injEq] at h
    obtain⟨rfl,rfl,rfl⟩:=h
    have e:en H (.lp k off)=[k]:=by
         cases hk:H k<;>first|(exact(hne _ hk).elim)|simp[en,hk]
    rw[e]
    exact⟨_,ki [k], .dead [k]⟩
  ·cases h
 ·rename_i ss
  have hag:lI v=v:=by cases hs with|v h=>cases h with|c h=>cases h|m _ _=>rfl
  rw[hag] at hd
  have hp:PW (bG ρ w0 ok0) ss v.cells.toList:=(lx hs).2.2.1 ss rfl
  split at h
  ·rename_i cs
   split at h
   case h_2=>cases h
   rename_i l hl
   simp only[Option.some.injEq,Prod.mk.injEq] at h
   obtain⟨rfl,rfl,rfl⟩:=h
   have:=hd cs rfl
   generalize v.cells.toList=vs at hp this
   exact oa hB hl hp this
  ·have:=hn rfl
   subst this
   simp only[Option.some.injEq,Prod.mk.injEq] at h
   obtain⟨rfl,rfl,rfl⟩:=h
   exact⟨_,ki _, .dead _⟩
 ·cases h
theorem pD{w0:World}{ok0:Nat→Prop}{H:HM}{F:FM}(hB:∀i,H i= .dead∨dd ρ w0 ok0 (H i) (ρ i) (F i)):∀{args:List SV} {md:List Bool} {vs:List Value} {os:List (Option (List CV))} {n m:Nat} {ws:List (Nat × dE)} {rn:List (Nat × Nat)} {f:List Nat},
 oh H n md args os=some (ws,m,rn)→args.length=vs.length→(∀(j:Nat) s v,args[j]? =some s→vs[j]? =some v→aZ ρ w0 ok0 s v)→kH w0 w ok os vs f→∃L,fu L=ws∧eA w ok ρ n m (eT H md args) L f
 |[],md,vs,os,n,m,ws,rn,f,h,hl,_,ho=>by
  have e1:eT H md []=[]:=by cases md with|nil=>rfl|cons b _=>cases b<;>rfl
  rw[e1]
  cases os with
  |nil=>
   have:=BR ho
   subst this
   have:ws=[]∧n=m:=by
     cases md with
     |nil=>simp[oh] at h;exact⟨h.1.symm▸rfl,h.2.1⟩
     |cons b _=>cases b<;>(simp[oh] at h;exact⟨h.1.symm▸rfl,h.2.1⟩)
   obtain⟨rfl,rfl⟩:=this
   exact⟨[],rfl, .nil⟩
  |cons o os=>
   exfalso
   cases md with
   |nil=>simp[oh] at h
   |cons b _=>cases b<;>simp[oh] at h
 |s::ss,md,vs,os,n,m,ws,rn,f,h,hl,hd,ho=>by
  cases vs with
  |nil=>simp at hl
  |cons v vs=>
   cases md with
   |nil=>
    cases os with
    |nil=>
     have:=BR ho
     subst this
     simp only[oh,Option.some.injEq,Prod.mk.injEq] at h
     obtain⟨rfl,rfl,rfl⟩:=h
     exact⟨[],rfl, .nil⟩
    |cons o os=>simp[oh] at h
   |cons b ms=>
    obtain⟨g,f',rfl,h1,h2,h3⟩:=Jf ho
    have hl':ss.length=vs.length:=by simpa using hl
    have hd':∀(j:Nat) s v,ss[j]? =some s→vs[j]? =some v→aZ ρ w0 ok0 s v:=fun j s v hs hv=>hd (j+1) s v hs hv
    cases b with
    |true=>
     simp only[oh] at h
     split at h
     case h_2=>cases h
     rename_i ws1 m1 rn1 hr1
     split at h
     case h_2=>cases h
     rename_i ws2 m2 rn2 hr2
     simp only[Option.some.injEq,Prod.mk.injEq] at h
     obtain⟨rfl,rfl,rfl⟩:=h
     obtain⟨L1,a1,a2⟩:=Fi hB hr1 (hd 0 s v rfl rfl) (fun c hc=>(h1 c hc).1) (fun c hc=>(h1 c hc).2) h2
     obtain⟨L2,b1,b2⟩:=pD hB hr2 hl' hd' h3
     exact⟨L1++L2,by rw[dx,a1,b1],a2.append b2⟩
    |false=>
     simp only[oh] at h
     split at h
     case h_2=>cases h
     rename_i hnone
     have:=h2 hnone
     subst this
     obtain⟨L2,b1,b2⟩:=pD hB h hl' hd' h3
     exact⟨L2,b1,b2⟩
end
section
variable{P:Program}{Γ:Cx}{H Hm:HM}{ρ:RM}{F:FM}{w:World}
theorem E2{s s':SV}(h:ji Hm s=some s'):∀k∈en Hm s,Hm k≠ .dead:=by
 intro k hk
 unfold ji at h
 split at h
 ·rename_i j
  simp only[en,List.mem_singleton] at hk
  subst hk
  intro e
  simp[iC,e] at h
 ·rename_i j off
  split at h
  ·rename_i sz cs hj
   simp only[en,hj,List.mem_singleton] at hk
   subst hk
   rw[hj]
   simp
  ·rename_i cs hj
   simp only[en,hj,List.mem_cons] at hk
   rcases hk with rfl|hk
   ·rw[hj];simp
   ·obtain⟨_,h⟩:True∧∃l,gv (lk Hm) cs=some l:=by
     cases hb:Nat.beq off 0 with
     |false=>rw[hb] at h;cases h
     |true=>
      rw[hb] at h
      simp only[cond] at h
      split at h
      ·rename_i l hl;exact⟨trivial,l,hl⟩
      ·cases h
    obtain⟨l,hl⟩:=h
    exact rN hl k hk
  ·rename_i t e s0 hj
   simp only[en,hj,List.mem_singleton] at hk
   subst hk
   rw[hj]
   simp
  ·cases h
 ·rename_i cs
  split at h
  ·rename_i l hl
   exact rF hl k (by simpa[en] using hk)
  ·cases h
 ·cases h
theorem Fv{s s':SV}(h:nw Hm s=some s'):∀k∈en Hm s,Hm k≠ .dead:=by
 unfold nw at h
 split at h
 ·rename_i j off
  intro k hk
  split at h
  ·rename_i sz cs hj
   simp only[en,hj,List.mem_singleton] at hk
   subst hk
   rw[hj]
   simp
  ·rename_i cs hj
   simp only[en,hj,List.mem_cons] at hk
   rcases hk with rfl|hk
   ·rw[hj];simp
   ·split at h
    ·rename_i l hl;exact rN hl k hk
    ·cases h
  ·cases h
 ·exact E2 h
theorem q9{Hv:HM}:∀{args:List SV} {md:List Bool} {args':List SV},ll Hm Hv md args=some args'→∀k∈eT Hm md args,Hm k≠ .dead
 |[],md,args',h,k,hk=>by
  cases md with
  |nil=>simp[eT] at hk
  |cons b _=>cases b<;>simp[eT] at hk
 |s::ss,md,args',h,k,hk=>by
  cases md with
  |nil=>simp[eT] at hk
  |cons b ms=>
   cases b with
   |true=>
    simp only[ll] at h
    split at h
    ·rename_i x xs hx hxs
     simp only[eT,List.mem_append] at hk
     rcases hk with hk|hk
     ·exact Fv hx k hk
     ·exact q9 hxs k hk
    ·cases h
   |false=>
    simp only[ll] at h
    split at h
    ·rename_i x xs hx hxs
     exact q9 hxs k (by simpa[eT] using hk)
    ·cases h
theorem gO{l:List Nat}{x:Nat}:g7 l x=true↔x∈l:=by
 simp only[g7,List.any_eq_true]
 constructor
 ·rintro⟨y,hy,h⟩;rw[Nat.eq_of_beq_eq_true h];exact hy
 ·intro h;exact⟨x,h,by simp⟩
theorem vW(hm:Mem Γ H ρ F w)(hle:l9 Hm H){f n:Nat}{args args':List SV}{vs:List Value}{md:List Bool}{α:Type}{φ:α→Prop}{outs:α→List (Option (List CV))}{r:α→SV}{K:gI→Prop}(hv:rE Hm md args=some args')(h:gJ P f args' φ outs r)
 (hn:(eT Hm md args).Nodup)(hc:dT md args=true∨(∀x,jJ (r x)∧wz (outs x)))(he:∀x,φ x→∃E,gC Hm md args (outs x) (r x) n=some E∧K E)(hfr:me ρ n K)(hl:args.length=vs.length)
 (hd:∀(j:Nat) s v,args[j]? =some s→vs[j]? =some v→aZ ρ w (aL Γ F w) s v):HL P f∧Calls P f vs.toArray w (lg Γ H ρ F w n K):=by
 refine⟨h.1, ?_⟩
 have hB:=hm.hb hle
 obtain⟨Hv,hv,hHv⟩:∃Hv,ll Hm Hv md args=some args'∧∀i,Hv i≠ .dead→Hv i=Hm i∧i∉eT Hm md args:=by
  cases md with
  |nil=>exact⟨Hm,hv,fun i _=>⟨rfl,by simp[eT]⟩⟩
  |cons b ms=>
   refine⟨_,hv,fun i hi=> ?_⟩
   unfold GO at hi⊢
   cases hb:g7 (eT Hm (b::ms) args) i with
   |true=>rw[hb] at hi;exact absurd rfl hi
   |false=>exact⟨rfl,fun hm=>by rw[gO.2 hm] at hb;cases hb⟩
 have hBv:∀i,Hv i= .dead∨dd ρ w (aL Γ F w) (Hv i) (ρ i) (F i):=by
  intro i
  by_cases hi:Hv i= .dead
  ·exact .inl hi
  ·rw[(hHv i hi).1];exact hB i
 have hlive:=q9 hv
 generalize hlent:eT Hm md args=lent at hn hlive hHv
 have hfsn:=ld hm hn
 obtain⟨ok,hok1,hok2,hokF,hokn⟩:∃ok:Nat→Prop,(∀b,aL Γ F w b→ok b)∧(∀b,ok b→b<w.heap.size∧b∉lent.flatMap F)∧((∀i,Hv i≠ .dead→∀b∈F i,ok b)∨dT md args=true)∧
  ((∀x,jJ (r x)∧wz (outs x))∨∀b,ok b→aL Γ F w b):=by
  have hnl:∀b,aL Γ F w b→b∉lent.flatMap F:=fun b hb hbl=>by
   obtain⟨i,_,hi⟩:=List.mem_flatMap.1 hbl
   exact hb.2.2 ⟨i,hi⟩
  rcases hc with hc|hc
  ·exact⟨aL Γ F w,fun _ h=>h,fun b hb=>⟨hb.1,hnl b hb⟩, .inr hc, .inr fun _ h=>h⟩
  ·refine⟨fun b=>aL Γ F w b∨∃i,i∉lent∧b∈F i,fun _ h=> .inl h, ?_, .inl fun i hi b hb=> .inr ⟨i,(hHv i hi).2,hb⟩, .inl hc⟩
   rintro b (hb|⟨i,hi,hb⟩)
   ·exact⟨hb.1,hnl b hb⟩
   ·refine⟨hm.lt i b hb,fun hbl=> ?_⟩
    obtain⟨j,hj,hbj⟩:=List.mem_flatMap.1 hbl
    exact hi (hm.jz i j b hb hbj▸hj)
 have hOL:=BM hB hBv hok1 hokF hv hl hd
 rw[hlent] at hOL
 refine(h.2 w ok vs (lent.flatMap F) (fun b hb=>(hok2 b hb).1) hOL hfsn fun b hb=>⟨?_,fun hb'=>(hok2 b hb').2 hb⟩).mono ?_
 ·obtain⟨i,_,hi⟩:=List.mem_flatMap.1 hb
  exact hm.lt i b hi
 rintro e w' ⟨x,hx,v,fr,fo,rfl,hg,hnd,hsub,hr,ho⟩
 obtain⟨E,he,k⟩:=he x hx
 obtain⟨ok',hr',ho',hok'⟩:∃ok':Nat→Prop,OT w' ok' (r x) v fr∧kH w w' ok' (outs x) vs fo∧∀b,ok' b→b<w'.heap.size∧(aL Γ F w b∨b∈lent.flatMap F∨w.heap.size≤b)∧b∉fr++fo:=by
  rcases hokn with hp|hp
  ·exact⟨fun _=>False,hr.pure (hp x).1,ho.pure (hp x).2,fun b hb=>hb.elim⟩
  ·exact⟨_,hr,ho,fun b hb=>⟨hb.1,hb.2.1.imp_left (hp b),hb.2.2⟩⟩
 unfold gC at he
 split at he
 case h_2=>cases he
 rename_i sv bs m hadopt
 split at he
 case h_2=>cases he
 rename_i ws m' rn houts
 injection he with he
 subst he
 obtain⟨L1,g1,a1,a2,a3,a4,a5⟩:=By hadopt hr'
 subst a2
 obtain⟨L2,b1,b2⟩:=pD (ρ:=ρ) hB houts hl hd ho'
 rw[hlent] at b2
 have hA:=(eA.JW (ρ:=ρ) a3 a4).append b2
 simp only[List.nil_append] at hA
 have hmm:=b2.le
 have hfresh:∀i,n≤i→i<m'→ρ i=none:=fun i h1 h2=>hfr _ k i h1 (by simp;omega)
 have hold:∀i∈lent,ρ i≠none:=fun i hi hρ=>jF hm hle hρ (hlive i hi) rfl
 have hndN:((L1++L2).map (·.nm)).Nodup:=by
  rw[hA.nm.nodup_iff,List.nodup_append]
  refine⟨List.nodup_range',hn,fun a ha b hb e=> ?_⟩
  subst e
  rw[List.mem_range'_1] at ha
  exact hold a hb (hfresh a ha.1 (by omega))
 have hnew:∀e∈L1++L2,e.v≠none→ρ e.nm=none:=fun e he hev=>by
  have:=hA.new e he hev
  exact hfresh _ this.1 this.2
 have hlentL:∀i∈lent,∃e∈L1++L2,e.nm=i:=fun i hi=>by
  have:i∈(L1++L2).map (·.nm):=hA.nm.symm.subset (by simp[hi])
  obtain⟨e,he,rfl⟩:=List.mem_map.1 this
  exact⟨e,he,rfl⟩
 have hR:∀e∈L1++L2,e.v≠none→mO (L1++L2) ρ e.nm=e.v:=by
  intro e he hev
  rw[(fX hndN he H F ρ).2.2]
  cases hv':e.v with
  |none=>exact absurd hv' hev
  |some u=>simp[l7,hv']
 obtain⟨x1,x2⟩:=m7 (ρ:=ρ) (L1++L2) hndN hnew
 have hFlent:∀b,(∀e∈L1++L2,b∉F e.nm)→b∉lent.flatMap F:=by
  intro b hb hbl
  obtain⟨i,hi,hbi⟩:=List.mem_flatMap.1 hbl
  obtain⟨e,he,rfl⟩:=hlentL i hi
  exact hb e he hbi
 have hin:∀e∈L1++L2,∀b∈e.f,b∈fr++fo:=fun e he b hb=>hA.ft.subset (List.mem_flatten.2 ⟨e.f,List.mem_map.2 ⟨e,he,rfl⟩,hb⟩)
 have hokc:∀b,ok' b→aL Γ (oz (L1++L2) F) w' b:=by
  intro b hb
  obtain⟨h1,h2,h3⟩:=hok' b hb
  refine⟨h1, ?_, ?_⟩
  ·rcases h2 with h2|h2|h2
   ·exact h2.2.1
   ·obtain⟨i,_,hi⟩:=List.mem_flatMap.1 h2
    exact .inr (hm.src i b hi)
   ·exact .inr (.inr (Nat.le_trans hm.size h2))
  ·rintro⟨i,hi⟩
   by_cases hI:∃e∈L1++L2,e.nm=i
   ·obtain⟨e,he,rfl⟩:=hI
    rw[(fX hndN he H F ρ).2.1] at hi
    exact h3 (hin e he b hi)
   ·rw[(kK (fun e he h'=>hI ⟨e,he,h'⟩) H F ρ).2.1] at hi
    rcases h2 with h2|h2|h2
    ·exact h2.2.2 ⟨i,hi⟩
    ·obtain⟨j,hj,hbj⟩:=List.mem_flatMap.1 h2
     have:=hm.jz i j b hi hbj
     subst this
     exact hI (hlentL i hj)
    ·have:=hm.lt i b hi;omega
 obtain⟨k1,k2,k3⟩:=hm.ents (L1++L2) (w':=w') hg.os hg.tape hg.output hg.size hndN hnew (fun b hb hnb=>hg.block b hb (hFlent b hnb))
  (fun e he b hb=>by
   have:=hsub b (hin e he b hb)
   rcases this.1 with h1|h1
   ·obtain⟨i,hi,hbi⟩:=List.mem_flatMap.1 h1
    obtain⟨e',he',rfl⟩:=hlentL i hi
    exact .inl ⟨e',he',hbi⟩
   ·exact .inr ⟨h1,this.2⟩)
  (hA.ft.nodup_iff.2 hnd)
  (fun e he _=>(hA.den e he _ x1 hR).mono (fun _ _=>rfl) hokc (fun _ _=>rfl) (Ext.refl _))
 refine⟨_,_,_,v,rfl,k,x1,fun i hi=> ?_, ?_,k2,k3,(a5 _ fun e he=>hR e (by simp[he]) (by obtain⟨u,hu,_⟩:=a3.den e he;rw[hu];simp)).mono (fun _ _=>rfl) hokc (Ext.refl _)⟩
 ·obtain⟨e,he,rfl,hev⟩:=x2 i hi
  have:=hA.new e he hev
  simp only
  omega
 ·rw[nE,dx,a1,b1] at k1
  exact k1
theorem nv(hm:Mem Γ H ρ F w)(hle:l9 Hm H){f n:Nat}{args args':List SV}{vs:List Value}{md:List Bool}{outs:List (Option (List CV))}{r:SV}{E:gI}{K:gI→Prop}(hv:rE Hm md args=some args')(h:ah P f args' outs r)
 (hn:(eT Hm md args).Nodup)(hc:dT md args=true∨(jJ r∧wz outs))(he:gC Hm md args outs r n=some E)(k:K E)(hfr:me ρ n K)(hl:args.length=vs.length)
 (hd:∀(j:Nat) s v,args[j]? =some s→vs[j]? =some v→aZ ρ w (aL Γ F w) s v):HL P f∧Calls P f vs.toArray w (lg Γ H ρ F w n K):=
 vW (φ:=fun _:Unit=>True) (outs:=fun _=>outs) (r:=fun _=>r) hm hle hv (h.QM () trivial) hn (hc.imp_right fun h _=>h) (fun _ _=>⟨E,he,k⟩) hfr hl hd
end
end Go.KA
