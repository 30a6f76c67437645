/- Part of a proof engine for functions of the given program: what an operation, a loop and a call compute, symbolically. No conditions. -/
import Derived.Test.YtgbggaddpbghfaaGreatEngL
namespace Go.KA
open Go Go.RowKit
def oK(ks:List Nat):List oy:=ks.map fun k=>⟨k, .dead,[],none⟩
theorem kh:∀ks:List Nat,fq (oK ks)=iQ ks
 |[]=>rfl
 |k::ks=>by
  have:=kh ks
  simp only[oK,fq,List.map_cons,iQ] at this⊢
  rw[this]
theorem dz(a b:List oy):fq (a++b)=fq a++fq b:=by simp[fq]
theorem tc{ks:List Nat}{e:oy}(h:e∈oK ks):e.b= .dead∧e.f=[]∧e.v=none∧e.nm∈ks:=by
 obtain⟨k,hk,rfl⟩:=List.mem_map.1 h
 exact⟨rfl,rfl,rfl,hk⟩
theorem Jv(ks:List Nat):(oK ks).map (·.nm)=ks:=by simp[oK,Function.comp_def]
theorem Ms(ks:List Nat):((oK ks).map (·.f)).flatten=[]:=by
 rw[List.flatten_eq_nil_iff]
 intro l hl
 obtain⟨e,he,rfl⟩:=List.mem_map.1 hl
 exact(tc he).2.1
structure ew(w:World)(ok:Nat→Prop)(ρ:RM)(n m:Nat)(names:List Nat)(L:List oy)(f:List Nat):Prop where
 le:n≤m
 nm:(L.map (·.nm)).Perm (List.range' n (m-n)++names)
 ft:((L.map (·.f)).flatten).Perm f
 den:∀e∈L,∀ρ':RM,Ext ρ ρ'→(∀e'∈L,e'.v≠none→ρ' e'.nm=e'.v)→dg ρ' w ok e.b (lY e (ρ e.nm)) e.f
 new:∀e∈L,e.v≠none→n≤e.nm∧e.nm<m
section
variable{w:World}{ok:Nat→Prop}{ρ:RM}
theorem ew.nil{n:Nat}:ew w ok ρ n n [] [] []:=⟨Nat.le_refl _,by simp,by simp,by simp,by simp⟩
theorem ew.append{n m k:Nat}{a b:List Nat}{L L':List oy}{f f':List Nat}(h:ew w ok ρ n m a L f)(h':ew w ok ρ m k b L' f'):ew w ok ρ n k (a++b) (L++L') (f++f'):=by
 have e1:=h.le
 have e2:=h'.le
 refine⟨by omega, ?_, ?_,fun e he ρ' hρ hv=> ?_,fun e he hev=> ?_⟩
 ·rw[List.map_append]
  refine(h.nm.append h'.nm).trans ?_
  have:List.range' n (k-n)=List.range' n (m-n)++List.range' m (k-m):=by
   have:=List.range'_append_1 (s:=n) (m:=m-n) (n:=k-m)
   rw[show n+(m-n)=m by omega,show m-n+(k-m)=k-n by omega] at this
   exact this.symm
  rw[this]
  simp only[List.append_assoc]
  refine .append_left _ ?_
  exact List.perm_append_comm_assoc a _ b
 ·rw[List.map_append,List.flatten_append]
  exact h.ft.append h'.ft
 ·rcases List.mem_append.1 he with he|he
  ·exact h.den e he ρ' hρ fun e' he'=>hv e' (by simp[he'])
  ·exact h'.den e he ρ' hρ fun e' he'=>hv e' (by simp[he'])
 ·rcases List.mem_append.1 he with he|he
  ·have:=h.new e he hev;omega
  ·have:=h'.new e he hev;omega
theorem ew.I4{n:Nat}{L:List oy}{f g:List Nat}(h:gx w ok n L g)(hp:g.Perm f):ew w ok ρ n (n+L.length) [] L f:=by
 refine⟨by omega,by rw[h.names];simp,by rw[h.flat];exact hp,fun e he ρ' hρ hv=> ?_,fun e he _=>h.mem he⟩
 obtain⟨u,h1,h2⟩:=h.den e he
 simp only[lY,h1]
 exact h2 ρ' fun e' he'=>hv e' he' (by obtain⟨u',hu',_⟩:=h.den e' he';rw[hu'];simp)
theorem ew.dead{n:Nat}(ks:List Nat):ew w ok ρ n n ks (oK ks) []:=by
 refine⟨Nat.le_refl _,by rw[Jv];simp,by rw[Ms],fun e he ρ' hρ hv=> ?_,fun e he hev=> ?_⟩
 ·obtain⟨h1,h2,_⟩:=tc he
  rw[h1,h2]
  exact .dead
 ·exact absurd (tc he).2.2.1 hev
theorem ew.one{n k:Nat}{b:dD}{f:List Nat}(h:∀ρ':RM,Ext ρ ρ'→dg ρ' w ok b (ρ k) f):ew w ok ρ n n [k] [⟨k,b,f,none⟩] f:=by
 refine⟨Nat.le_refl _,by simp,by simp,fun e he ρ' hρ hv=> ?_,fun e he hev=> ?_⟩
 ·have he:=List.mem_singleton.1 he
  subst he
  exact h ρ' hρ
 ·have he:=List.mem_singleton.1 he
  subst he
  exact absurd rfl hev
theorem Jc{w0:World}{os:List (Option (List CV))}{v:Value}{vs:List Value}{f:List Nat}(h:kz w0 w ok os (v::vs) f):∃g f',f=g++f'∧(∀c,MN os=some c→Den w ok c (kS v).cells.toList g∧A7 w0 w (kS v) c)∧(MN os=none→g=[])∧kz w0 w ok os.tail vs f':=by
 cases h with
 |nil=>exact⟨[],[],rfl,by simp[MN],fun _=>rfl, .nil⟩
 |none ht=>exact⟨[],_,rfl,by simp[MN],fun _=>rfl,ht⟩
 |some h hk ht=>exact⟨_,_,rfl,fun c hc=>by simp[MN] at hc;subst hc;exact⟨h,hk⟩,fun hc=>by simp[MN] at hc,ht⟩
theorem Bo{w0:World}{vs:List Value}{f:List Nat}(h:kz w0 w ok [] vs f):f=[]:=by cases h;rfl
theorem ew.PT{n m k b ty:Nat}{arr:Array Value}{ks:List Nat}{L:List oy}{g:List Nat}{ss:List SV}(hρ:ρ k=some (.pointer (some ⟨b,0,none⟩)))(hb:w.heap[b]? =some (.cells arr ty (0,0)))(h1:ew w ok ρ n m ks L g)
 (hC:∀ρ':RM,Ext ρ ρ'→(∀e∈L,e.v≠none→ρ' e.nm=e.v)→PW (bJ ρ' w ok) ss arr.toList):ew w ok ρ n m (k::ks) (L++[⟨k,eY ss,[b],none⟩]) (b::g):=by
 refine⟨h1.le, ?_, ?_,fun e he ρ' hρ' hv=> ?_,fun e he hev=> ?_⟩
 ·rw[List.map_append]
  refine(h1.nm.append_right _).trans ?_
  simp only[List.map_cons,List.map_nil,List.append_assoc]
  exact .append_left _ (List.perm_append_singleton k ks)
 ·rw[List.map_append,List.flatten_append]
  refine(h1.ft.append_right _).trans ?_
  simp only[List.map_cons,List.map_nil,List.flatten_cons,List.flatten_nil,List.append_nil]
  exact List.perm_append_singleton b g
 ·rcases List.mem_append.1 he with he|he
  ·exact h1.den e he ρ' hρ' fun e' he'=>hv e' (by simp[he'])
  ·have he:=List.mem_singleton.1 he
   subst he
   simp only[lY,hρ]
   obtain⟨k1,k2⟩:=hC ρ' hρ' fun e he=>hv e (by simp[he])
   exact eh hb k1 k2
 ·rcases List.mem_append.1 he with he|he
  ·exact h1.new e he hev
  ·have he:=List.mem_singleton.1 he
   subst he
   exact absurd rfl hev
theorem lj{w0:World}{ok0:Nat→Prop}:∀{ss:List SV} {cs:List CV} {vs0 vs:List Value} {n m:Nat} {ss':List SV} {ws:List (Nat × dD)} {g:List Nat},
 x6 n ss cs=some (ss',ws,m)→PW (bJ ρ w0 ok0) ss vs0→Den w ok cs vs g→(∀(i:Nat) x,cs[i]? =some (.op x)→vs[i]? =vs0[i]?)→
 ∃L,fq L=ws∧ew w ok ρ n m (ss.flatMap iF) L g∧∀ρ':RM,Ext ρ ρ'→(∀e∈L,e.v≠none→ρ' e.nm=e.v)→PW (bJ ρ' w ok) ss' vs
 |[],cs,vs0,vs,n,m,ss',ws,g,h,hp,hd,hk=>by
  cases cs with
  |cons _ _=>simp[x6] at h
  |nil=>
   simp only[x6,Option.some.injEq,Prod.mk.injEq] at h
   obtain⟨rfl,rfl,rfl⟩:=h
   cases hd
   exact⟨[],rfl, .nil,fun _ _ _=>⟨rfl,by simp⟩⟩
 |s::ss,[],vs0,vs,n,m,ss',ws,g,h,hp,hd,hk=>by cases s<;>simp[x6] at h
 |s::ss,c::cs,vs0,vs,n,m,ss',ws,g,h,hp,hd,hk=>by
  cases vs0 with
  |nil=>exact absurd hp.1 (by simp)
  |cons v0 vs0=>
  have hp':PW (bJ ρ w0 ok0) ss vs0:=⟨by simpa using hp.1,fun j a v ha hv=>hp.2 (j+1) a v ha hv⟩
  have hs0:bJ ρ w0 ok0 s v0:=hp.2 0 s v0 rfl rfl
  have hk':∀{v:Value} {vs:List Value},(∀(i:Nat) x,(c::cs)[i]? =some (.op x)→(v::vs)[i]? =(v0::vs0)[i]?)→∀(i:Nat) x,cs[i]? =some (.op x)→vs[i]? =vs0[i]? :=fun hk i x hx=>by simpa using hk (i+1) x (by simpa using hx)
  unfold x6 at h
  split at h
  ·rename_i e _;cases e
  ·rename_i n0 j off ss0 c0 cs0 e1 e2
   cases e1
   cases e2
   split at h
   case h_2=>cases h
   rename_i is
   split at h
   case h_2=>cases h
   rename_i ks bs m1 hr1
   split at h
   case h_2=>cases h
   rename_i ss1 ws1 m2 hr2
   simp only[Option.some.injEq,Prod.mk.injEq] at h
   obtain⟨rfl,rfl,rfl⟩:=h
   cases hd with
   | @op as vs f ty _ b g arr hb hin ht=>
     have e0:=hk 0 is rfl
     simp only[List.getElem?_cons_zero,Option.some.injEq] at e0
     subst e0
     obtain⟨L0,g1,g2,g3,g4⟩:=dk hr1 hin
     subst g2
     obtain⟨L,k1,k2,k3⟩:=lj hr2 hp' ht (hk' hk)
     obtain⟨hρ,hoff⟩:ρ j=some (.pointer (some ⟨b,0,none⟩))∧off=0:=by
      cases hs0 with
      |lp h=>exact⟨h,rfl⟩
     subst hoff
     have hC:∀ρ':RM,Ext ρ ρ'→(∀e∈L0,e.v≠none→ρ' e.nm=e.v)→PW (bJ ρ' w ok) ks arr.toList:=fun ρ' _ hv=>g4 ρ' fun e he=>hv e he (by obtain⟨u,hu,_⟩:=g3.den e he;rw[hu];simp)
     have h1:=ew.PT hρ hb (ew.I4 (ρ:=ρ) g3 (.refl _)) hC
     have h2:=h1.append k2
     refine⟨L0++[⟨j,eY ks,[b],none⟩]++L, ?_,by simpa only[iF,List.flatMap_cons,List.cons_append] using h2,fun ρ' hρ' hv=> ?_⟩
     ·rw[dz,dz,g1,k1,List.append_assoc]
      rfl
     ·obtain⟨q1,q2⟩:=k3 ρ' hρ' fun e he=>hv e (by simp[he])
      refine⟨by simp[q1],fun i a v ha hv'=> ?_⟩
      cases i with
      |zero=>
       simp at ha hv'
       subst ha hv'
       exact .lp (hρ' _ _ hρ)
      |succ i=>exact q2 i a v (by simpa using ha) (by simpa using hv')
  ·rename_i n0 mA lA lB k ss0 c0 cs0 e1 e2
   cases e1
   cases e2
   split at h
   ·rename_i ty sz rows
    split at h
    case h_2=>cases h
    rename_i ss1 ws1 m2 hr2
    simp only[Option.some.injEq,Prod.mk.injEq] at h
    obtain⟨rfl,rfl,rfl⟩:=h
    cases hd with
    | @ows _ _ _ ty sz rows xs v hin hr ho ht=>
      have hA:eu [.ows ty sz rows] n0=some ([.lw n0],[(n0, .row none ty sz rows)],n0+1):=rfl
      obtain⟨L0,g1,g2,g3,g4⟩:=dk hA (Den.ows hin hr ho .nil)
      rw[g2] at hr2
      obtain⟨L,k1,k2,k3⟩:=lj hr2 hp' ht (hk' hk)
      have h2:=((ew.I4 (ρ:=ρ) g3 (.refl _)).append (ew.dead [k])).append k2
      refine⟨L0++oK [k]++L, ?_,by simpa[iF,gy] using h2,fun ρ' hρ' hv=> ?_⟩
      ·rw[dz,dz,g1,k1,kh]
       rfl
      ·obtain⟨q1,q2⟩:=k3 ρ' hρ' fun e he=>hv e (by simp[he])
       have q0:=g4 ρ' fun e he=>hv e (by simp[he]) (by obtain⟨u,hu,_⟩:=g3.den e he;rw[hu];simp)
       refine⟨by simp[q1],fun i a v ha hv'=> ?_⟩
       cases i with
       |zero=>
        simp at ha hv'
        subst ha hv'
        exact q0.2 0 _ _ rfl rfl
       |succ i=>exact q2 i a v (by simpa using ha) (by simpa using hv')
   ·rename_i ty sz rows
    split at h
    case h_2=>cases h
    rename_i ss1 ws1 m2 hr2
    simp only[Option.some.injEq,Prod.mk.injEq] at h
    obtain⟨rfl,rfl,rfl⟩:=h
    cases hd with
    | @own _ _ _ ty sz rows xs v g hin hr ho ht=>
      have hA:eu [.own ty sz rows] n0=some ([.lw n0],[(n0, .aG none ty sz rows)],n0+1):=rfl
      obtain⟨L0,g1,g2,g3,g4⟩:=dk hA (Den.own hin hr ho .nil)
      rw[g2] at hr2
      obtain⟨L,k1,k2,k3⟩:=lj hr2 hp' ht (hk' hk)
      have h2:=((ew.I4 (ρ:=ρ) g3 (.refl _)).append (ew.dead [k])).append k2
      refine⟨L0++oK [k]++L, ?_,by simpa[iF,gy] using h2,fun ρ' hρ' hv=> ?_⟩
      ·rw[dz,dz,g1,k1,kh]
       rfl
      ·obtain⟨q1,q2⟩:=k3 ρ' hρ' fun e he=>hv e (by simp[he])
       have q0:=g4 ρ' fun e he=>hv e (by simp[he]) (by obtain⟨u,hu,_⟩:=g3.den e he;rw[hu];simp)
       refine⟨by simp[q1],fun i a v ha hv'=> ?_⟩
       cases i with
       |zero=>
        simp at ha hv'
        subst ha hv'
        exact q0.2 0 _ _ rfl rfl
       |succ i=>exact q2 i a v (by simpa using ha) (by simpa using hv')
   ·cases h
  ·rename_i n1 m1 l1 l2 x ss0 c0 cs0 e1 e2
   cases e1
   cases e2
   split at h
   case h_2=>cases h
   rename_i hpl
   split at h
   case h_2=>cases h
   rename_i ss1 ws1 m2 hr2
   simp only[Option.some.injEq,Prod.mk.injEq] at h
   obtain⟨rfl,rfl,rfl⟩:=h
   have fin:∀{v:Value} {vs:List Value} {g:List Nat},Den w ok [c] [v] []→Den w ok cs vs g→(∀(i:Nat) x,(c::cs)[i]? =some (.op x)→(v::vs)[i]? =(v0::vs0)[i]?)→
    ∃L,fq L=ws1∧ew w ok ρ n1 m2 ((SV.c x::ss).flatMap iF) L g∧∀ρ':RM,Ext ρ ρ'→(∀e∈L,e.v≠none→ρ' e.nm=e.v)→PW (bJ ρ' w ok) (.c c::ss1) (v::vs):=by
        intro v vs g h1 ht hk
        obtain⟨L,k1,k2,k3⟩:=lj hr2 hp' ht (hk' hk)
        refine⟨L,k1,by simpa[iF,gy] using k2,fun ρ' hρ' hv=> ?_⟩
        obtain⟨q1,q2⟩:=k3 ρ' hρ' hv
        refine⟨by simp[q1],fun i a v ha hv'=> ?_⟩
        cases i with
        |zero=>
         simp at ha hv'
         subst ha hv'
         exact .c h1
        |succ i=>exact q2 i a v (by simpa using ha) (by simpa using hv')
   cases hd with
   |any h1 ht=>exact fin (.any h1 .nil) ht hk
   |val h1 ht=>exact fin (.val h1 .nil) ht hk
   |cb ht=>exact fin (.cb .nil) ht hk
   |ro hn hc hm hr hin hrd ht=>exact fin (.ro hn hc hm hr hin hrd .nil) ht hk
   |rp hl hin hs hrd ht=>exact fin (.rp hl hin hs hrd .nil) ht hk
   |own _ _ _ _=>cases hpl
   |ows _ _ _ _=>cases hpl
   |eN _ _ _ _=>cases hpl
   |op _ _ _=>cases hpl
   |ig _ _ _ _=>cases hpl
  ·cases h
theorem DG{w0:World}{ok0:Nat→Prop}{H:HM}{F:FM}(hB:∀i,H i= .dead∨dg ρ w0 ok0 (H i) (ρ i) (F i)){k:Nat}{v:Value}(hρ:ρ k=some v):∀u,oq (H k)=some u→v=u:=by
 intro u hu
 unfold oq at hu
 split at hu
 ·rename_i hk
  obtain⟨v',xs,hv',_,_,_,_,hm⟩:=ij hB hk
  rw[hρ] at hv'
  injection hv' with hv'
  subst hv'
  exact hm u hu
 ·rename_i hk
  obtain⟨v',xs,f,hv',_,_,_,_,hm⟩:=dL hB hk
  rw[hρ] at hv'
  injection hv' with hv'
  subst hv'
  exact hm u hu
 ·cases hu
theorem nF{w0:World}{ok0:Nat→Prop}{H:HM}{F:FM}(hB:∀i,H i= .dead∨dg ρ w0 ok0 (H i) (ρ i) (F i)){n:Nat}:∀{ss:List SV} {cs:List CV} {vs:List Value} {ws:List (Nat × dD)} {g:List Nat},
 AP H ss cs=some ws→PW (bJ ρ w0 ok0) ss vs→Den w ok cs vs g→∃L,fq L=ws∧ew w ok ρ n n (ss.flatMap gy) L g
 |[],[],vs,ws,g,h,hp,hd=>by
  simp[AP] at h
  subst h
  cases hd
  exact⟨[],rfl, .nil⟩
 |s::ss,c::cs,vs,ws,g,h,hp,hd=>by
  have htl:∀{v:Value} {vs:List Value},PW (bJ ρ w0 ok0) (s::ss) (v::vs)→PW (bJ ρ w0 ok0) ss vs:=fun hp=>⟨by simpa using hp.1,fun j a v ha hv=>hp.2 (j+1) a v ha hv⟩
  unfold AP at h
  split at h
  ·rename_i he _;cases he
  ·rename_i k ss0 c0 cs0 he1 he2
   cases he1
   cases he2
   split at h
   ·rename_i ty sz rows
    split at h
    case h_2=>cases h
    rename_i l hl
    injection h with h
    subst h
    cases hd with
    |ows hin hr ho ht=>
     obtain⟨L,a1,a2⟩:=nF (n:=n) hB hl (htl hp) ht
     have hρ:ρ k=some _:=(rD (.v (.c (hp.2 0 _ _ rfl rfl)))).1
     obtain⟨L1,b1,h1⟩:∃L1,fq L1=[(k, .row (oq (H k)) ty sz rows)]∧ew w ok ρ n n [k] L1 _:=⟨[⟨k, .row (oq (H k)) ty sz rows,_,none⟩],rfl, .one fun ρ' _=>by
      rw[hρ];exact .row ho hr hin (DG hB hρ)⟩
     exact⟨L1++L,by rw[dz,b1,a1];rfl,by simpa[gy] using h1.append a2⟩
   ·rename_i ty sz rows
    split at h
    case h_2=>cases h
    rename_i l hl
    injection h with h
    subst h
    cases hd with
    |own hin hr ho ht=>
     obtain⟨L,a1,a2⟩:=nF (n:=n) hB hl (htl hp) ht
     have hρ:ρ k=some _:=(rD (.v (.c (hp.2 0 _ _ rfl rfl)))).1
     obtain⟨L1,b1,h1⟩:∃L1,fq L1=[(k, .aG (oq (H k)) ty sz rows)]∧ew w ok ρ n n [k] L1 _:=⟨[⟨k, .aG (oq (H k)) ty sz rows,_,none⟩],rfl, .one fun ρ' _=>by
      rw[hρ];exact .aG ho hr hin (DG hB hρ)⟩
     exact⟨L1++L,by rw[dz,b1,a1];rfl,by simpa[gy] using h1.append a2⟩
   ·cases h
  ·rename_i x ss0 c0 cs0 he1 he2
   cases he1
   cases he2
   split at h
   case h_2=>cases h
   rename_i hpl
   have hg:∀{v:Value} {vs:List Value} {g:List Nat},Den w ok (c::cs) (v::vs) g→Den w ok cs vs g:=by
        intro v vs g hd
        cases hd with
        |any _ ht=>exact ht
        |val _ ht=>exact ht
        |cb ht=>exact ht
        |ro _ _ _ _ _ _ ht=>exact ht
        |rp _ _ _ _ ht=>exact ht
        |own _ _ _ _=>cases hpl
        |ows _ _ _ _=>cases hpl
        |eN _ _ _ _=>cases hpl
        |op _ _ _=>cases hpl
        |ig _ _ _ _=>cases hpl
   cases vs with
   |nil=>exact absurd hp.1 (by simp)
   |cons v vs=>
    obtain⟨L,a1,a2⟩:=nF (n:=n) hB h (htl hp) (hg hd)
    exact⟨L,a1,by simpa[gy] using a2⟩
  ·cases h
 |[],_::_,_,_,_,h,_,_=>by simp[AP] at h
 |s::_,[],_,_,_,h,_,_=>by cases s<;>simp[AP] at h
theorem EZ{w0:World}{ok0:Nat→Prop}{H:HM}{F:FM}(hB:∀i,H i= .dead∨dg ρ w0 ok0 (H i) (ρ i) (F i)){n m:Nat}{s:SV}{v:Value}{o:Option (List CV)}{ws:List (Nat × dD)}{rn:List (Nat × Nat)}{g:List Nat}
 (h:Om H n s o=some (ws,m,rn))(hs:aZ ρ w0 ok0 s v)(hd:∀c,o=some c→Den w ok c (kS v).cells.toList g)(hkp:∀c,o=some c→A7 w0 w (kS v) c)(hn:o=none→g=[]):∃L,fq L=ws∧ew w ok ρ n m (ef H s) L g:=by
 unfold Om at h
 split at h
 ·rename_i k
  obtain⟨hρ,hsl⟩:=rD hs
  have hcell:(kS v).cells.toList=[v]:=by obtain⟨a,n,c,rfl⟩:=hsl;rfl
  rw[hcell] at hd
  have hmark:∀u,oq (H k)=some u→v=u:=by
   intro u hu
   unfold oq at hu
   split at hu
   ·rename_i hk
    obtain⟨v',xs,hv',_,_,_,_,hm⟩:=ij hB hk
    rw[hρ] at hv'
    injection hv' with hv'
    subst hv'
    exact hm u hu
   ·rename_i hk
    obtain⟨v',xs,f,hv',_,_,_,_,hm⟩:=dL hB hk
    rw[hρ] at hv'
    injection hv' with hv'
    subst hv'
    exact hm u hu
   ·cases hu
  split at h
  ·rename_i ty sz rows
   simp only[Option.some.injEq,Prod.mk.injEq] at h
   obtain⟨rfl,rfl,rfl⟩:=h
   have:=hd _ rfl
   refine⟨[⟨k,_,g,none⟩],rfl, .one fun ρ' _=> ?_⟩
   rw[hρ]
   cases this with
   |ows hin hr ho ht=>cases ht;rw[List.append_nil];exact .row ho hr hin hmark
  ·rename_i ty sz rows
   simp only[Option.some.injEq,Prod.mk.injEq] at h
   obtain⟨rfl,rfl,rfl⟩:=h
   have:=hd _ rfl
   refine⟨[⟨k,_,g,none⟩],rfl, .one fun ρ' _=> ?_⟩
   rw[hρ]
   cases this with
   |own hin hr ho ht=>cases ht;rw[List.append_nil];exact .aG ho hr hin hmark
  ·simp only[Option.some.injEq,Prod.mk.injEq] at h
   obtain⟨rfl,rfl,rfl⟩:=h
   have:=hn rfl
   subst this
   exact⟨oK [k],kh [k], .dead [k]⟩
  ·cases h
 ·rename_i k off
  obtain⟨b,hρ,rfl⟩:=rZ hs
  have hcell:(kS (Value.pointer (some ⟨b,off,none⟩))).cells.toList=[Value.pointer (some ⟨b,0,none⟩)]:=rfl
  rw[hcell] at hd
  split at h
  ·rename_i cells
   split at h
   ·split at h
    case h_2=>cases h
    rename_i cs hk
    split at h
    case h_2=>cases h
    rename_i ss ws1 m' hrec
    simp only[Option.some.injEq,Prod.mk.injEq] at h
    obtain⟨rfl,rfl,rfl⟩:=h
    have hkeep:=hkp _ rfl
    have:=hd _ rfl
    cases this with
    | @op _ _ _ ty' _ b' g' arr hb hin ht=>
      cases ht
      obtain⟨b0,ty0,arr0,hρ0,hh0,hl0,hin0,_⟩:=kH hB hk
      rw[hρ] at hρ0
      simp only[Option.some.injEq,Value.pointer.injEq,Addr.mk.injEq,and_true] at hρ0
      subst hρ0
      obtain⟨L,a1,a2,a3⟩:=lj hrec ⟨hl0,hin0⟩ hin (hkeep cells rfl b ty0 ty' arr0 arr rfl hh0 hb)
      refine⟨L++[⟨k,eY ss,[b],none⟩],by rw[dz,a1];rfl, ?_⟩
      have e:ef H (.lp k off)=k::cs.flatMap iF:=by simp[ef,hk]
      rw[e]
      simpa using ew.PT hρ hb a2 a3
   rename_i hnest
   split at h
   case h_2=>cases h
   rename_i ss bs m' hrec
   have:=hd _ rfl
   cases this with
   | @op _ _ _ ty' _ b' g' arr hb hin ht=>
     cases ht
     obtain⟨L,a1,a2,a3,a4⟩:=dk hrec hin
     subst a2
     have hT:ew w ok ρ n (n+L.length) [] L g':= .I4 a3 (.refl _)
     have main:∀{ks:List Nat} {L0:List oy},ew w ok ρ (n+L.length) (n+L.length) ks L0 []→ew w ok ρ n (n+L.length) (k::ks) (L++L0++[⟨k,eY ss,[b],none⟩]) (b::g'++[]):=by
      intro ks L0 h0
      have h1:=hT.append h0
      refine⟨h1.le, ?_, ?_,fun e he ρ' hρ' hv=> ?_,fun e he hev=> ?_⟩
      ·rw[List.map_append]
       refine(h1.nm.append_right _).trans ?_
       simp only[List.nil_append,List.map_cons,List.map_nil,List.append_assoc]
       exact .append_left _ (List.perm_append_singleton k ks)
      ·rw[List.map_append,List.flatten_append]
       refine(h1.ft.append_right _).trans ?_
       simp only[List.append_nil,List.map_cons,List.map_nil,List.flatten_cons,List.flatten_nil]
       exact List.perm_append_singleton b g'
      ·rcases List.mem_append.1 he with he|he
       ·exact h1.den e he ρ' hρ' fun e' he'=>hv e' (by simp at he'⊢;rcases he' with h|h<;>simp[h])
       ·have he:=List.mem_singleton.1 he
        subst he
        simp only[lY,hρ]
        obtain⟨k1,k2⟩:=a4 ρ' fun e he=>hv e (by simp[he]) (by obtain⟨u,hu,_⟩:=a3.den e he;rw[hu];simp)
        exact eh hb k1 k2
      ·rcases List.mem_append.1 he with he|he
       ·exact h1.new e he hev
       ·have he:=List.mem_singleton.1 he
        subst he
        exact absurd rfl hev
     split at h
     ·rename_i cs hk
      simp only[Option.some.injEq,Prod.mk.injEq] at h
      obtain⟨rfl,rfl,rfl⟩:=h
      refine⟨L++oK (cs.flatMap iF)++[⟨k,eY ss,[b],none⟩], ?_, ?_⟩
      ·rw[dz,dz,kh,a1]
       rfl
      ·have e:ef H (.lp k off)=k::cs.flatMap iF:=by simp[ef,hk]
       rw[e]
       exact main (.dead _)
     ·rename_i hne
      simp only[Option.some.injEq,Prod.mk.injEq] at h
      obtain⟨rfl,rfl,rfl⟩:=h
      refine⟨L++[]++[⟨k,eY ss,[b],none⟩], ?_, ?_⟩
      ·rw[List.append_nil,dz,a1]
       rfl
      ·have e:ef H (.lp k off)=[k]:=by
           cases hk:H k<;>first|(exact(hne _ hk).elim)|simp[ef,hk]
       rw[e]
       exact main .nil
  ·rename_i t e s
   split at h
   case h_2=>cases h
   rename_i hk
   simp only[Option.some.injEq,Prod.mk.injEq] at h
   obtain⟨rfl,rfl,rfl⟩:=h
   have:=hd _ rfl
   have e1:ef H (.lp k off)=[k]:=by simp[ef,hk]
   rw[e1]
   refine⟨[⟨k,_,g,none⟩],rfl, .one fun ρ' _=> ?_⟩
   rw[hρ]
   cases this with
   |ig hp hb ho ht=>cases ht;rw[List.append_nil];exact .ig hp hb ho
  ·have:=hn rfl
   subst this
   split at h
   ·rename_i cs hk
    simp only[Option.some.injEq,Prod.mk.injEq] at h
    obtain⟨rfl,rfl,rfl⟩:=h
    have e:ef H (.lp k off)=k::cs.flatMap iF:=by simp[ef,hk]
    rw[e]
    exact⟨_,kh _, .dead _⟩
   ·rename_i hne
    simp only[Option.some.injEq,Prod.mk.injEq] at h
    obtain⟨rfl,rfl,rfl⟩:=h
    have e:ef H (.lp k off)=[k]:=by
         cases hk:H k<;>first|(exact(hne _ hk).elim)|simp[ef,hk]
    rw[e]
    exact⟨_,kh [k], .dead [k]⟩
  ·cases h
 ·rename_i ss
  have hag:kS v=v:=by cases hs with|v h=>cases h with|c h=>cases h|m _ _=>rfl
  rw[hag] at hd
  have hp:PW (bJ ρ w0 ok0) ss v.cells.toList:=(kT hs).2.2.1 ss rfl
  split at h
  ·rename_i cs
   split at h
   case h_2=>cases h
   rename_i l hl
   simp only[Option.some.injEq,Prod.mk.injEq] at h
   obtain⟨rfl,rfl,rfl⟩:=h
   have:=hd cs rfl
   generalize v.cells.toList=vs at hp this
   exact nF hB hl hp this
  ·have:=hn rfl
   subst this
   simp only[Option.some.injEq,Prod.mk.injEq] at h
   obtain⟨rfl,rfl,rfl⟩:=h
   exact⟨_,kh _, .dead _⟩
 ·cases h
theorem oQ{w0:World}{ok0:Nat→Prop}{H:HM}{F:FM}(hB:∀i,H i= .dead∨dg ρ w0 ok0 (H i) (ρ i) (F i)):∀{args:List SV} {md:List Bool} {vs:List Value} {os:List (Option (List CV))} {n m:Nat} {ws:List (Nat × dD)} {rn:List (Nat × Nat)} {f:List Nat},
 n9 H n md args os=some (ws,m,rn)→args.length=vs.length→(∀(j:Nat) s v,args[j]? =some s→vs[j]? =some v→aZ ρ w0 ok0 s v)→kz w0 w ok os vs f→∃L,fq L=ws∧ew w ok ρ n m (eJ H md args) L f
 |[],md,vs,os,n,m,ws,rn,f,h,hl,_,ho=>by
  have e1:eJ H md []=[]:=by cases md with|nil=>rfl|cons b _=>cases b<;>rfl
  rw[e1]
  cases os with
  |nil=>
   have:=Bo ho
   subst this
   have:ws=[]∧n=m:=by
     cases md with
     |nil=>simp[n9] at h;exact⟨h.1.symm▸rfl,h.2.1⟩
     |cons b _=>cases b<;>(simp[n9] at h;exact⟨h.1.symm▸rfl,h.2.1⟩)
   obtain⟨rfl,rfl⟩:=this
   exact⟨[],rfl, .nil⟩
  |cons o os=>
   exfalso
   cases md with
   |nil=>simp[n9] at h
   |cons b _=>cases b<;>simp[n9] at h
 |s::ss,md,vs,os,n,m,ws,rn,f,h,hl,hd,ho=>by
  cases vs with
  |nil=>simp at hl
  |cons v vs=>
   cases md with
   |nil=>
    cases os with
    |nil=>
     have:=Bo ho
     subst this
     simp only[n9,Option.some.injEq,Prod.mk.injEq] at h
     obtain⟨rfl,rfl,rfl⟩:=h
     exact⟨[],rfl, .nil⟩
    |cons o os=>simp[n9] at h
   |cons b ms=>
    obtain⟨g,f',rfl,h1,h2,h3⟩:=Jc ho
    have hl':ss.length=vs.length:=by simpa using hl
    have hd':∀(j:Nat) s v,ss[j]? =some s→vs[j]? =some v→aZ ρ w0 ok0 s v:=fun j s v hs hv=>hd (j+1) s v hs hv
    cases b with
    |true=>
     simp only[n9] at h
     split at h
     case h_2=>cases h
     rename_i ws1 m1 rn1 hr1
     split at h
     case h_2=>cases h
     rename_i ws2 m2 rn2 hr2
     simp only[Option.some.injEq,Prod.mk.injEq] at h
     obtain⟨rfl,rfl,rfl⟩:=h
     obtain⟨L1,a1,a2⟩:=EZ hB hr1 (hd 0 s v rfl rfl) (fun c hc=>(h1 c hc).1) (fun c hc=>(h1 c hc).2) h2
     obtain⟨L2,b1,b2⟩:=oQ hB hr2 hl' hd' h3
     exact⟨L1++L2,by rw[dz,a1,b1],a2.append b2⟩
    |false=>
     simp only[n9] at h
     split at h
     case h_2=>cases h
     rename_i hnone
     have:=h2 hnone
     subst this
     obtain⟨L2,b1,b2⟩:=oQ hB h hl' hd' h3
     exact⟨L2,b1,b2⟩
end
section
variable{P:Program}{Γ:Cx}{H Hm:HM}{ρ:RM}{F:FM}{w:World}
theorem D9{s s':SV}(h:jf Hm s=some s'):∀k∈ef Hm s,Hm k≠ .dead:=by
 intro k hk
 unfold jf at h
 split at h
 ·rename_i j
  simp only[ef,List.mem_singleton] at hk
  subst hk
  intro e
  simp[iy,e] at h
 ·rename_i j off
  split at h
  ·rename_i sz cs hj
   simp only[ef,hj,List.mem_singleton] at hk
   subst hk
   rw[hj]
   simp
  ·rename_i cs hj
   simp only[ef,hj,List.mem_cons] at hk
   rcases hk with rfl|hk
   ·rw[hj];simp
   ·obtain⟨_,h⟩:True∧∃l,gq (lJ Hm) cs=some l:=by
     cases hb:Nat.beq off 0 with
     |false=>rw[hb] at h;cases h
     |true=>
      rw[hb] at h
      simp only[cond] at h
      split at h
      ·rename_i l hl;exact⟨trivial,l,hl⟩
      ·cases h
    obtain⟨l,hl⟩:=h
    exact qt hl k hk
  ·rename_i t e s0 hj
   simp only[ef,hj,List.mem_singleton] at hk
   subst hk
   rw[hj]
   simp
  ·cases h
 ·rename_i cs
  split at h
  ·rename_i l hl
   exact qB hl k (by simpa[ef] using hk)
  ·cases h
 ·cases h
theorem DV{s s':SV}(h:m8 Hm s=some s'):∀k∈ef Hm s,Hm k≠ .dead:=by
 unfold m8 at h
 split at h
 ·rename_i j off
  intro k hk
  split at h
  ·rename_i sz cs hj
   simp only[ef,hj,List.mem_singleton] at hk
   subst hk
   rw[hj]
   simp
  ·rename_i cs hj
   simp only[ef,hj,List.mem_cons] at hk
   rcases hk with rfl|hk
   ·rw[hj];simp
   ·split at h
    ·rename_i l hl;exact qt hl k hk
    ·cases h
  ·cases h
 ·exact D9 h
theorem qR{Hv:HM}:∀{args:List SV} {md:List Bool} {args':List SV},lb Hm Hv md args=some args'→∀k∈eJ Hm md args,Hm k≠ .dead
 |[],md,args',h,k,hk=>by
  cases md with
  |nil=>simp[eJ] at hk
  |cons b _=>cases b<;>simp[eJ] at hk
 |s::ss,md,args',h,k,hk=>by
  cases md with
  |nil=>simp[eJ] at hk
  |cons b ms=>
   cases b with
   |true=>
    simp only[lb] at h
    split at h
    ·rename_i x xs hx hxs
     simp only[eJ,List.mem_append] at hk
     rcases hk with hk|hk
     ·exact DV hx k hk
     ·exact qR hxs k hk
    ·cases h
   |false=>
    simp only[lb] at h
    split at h
    ·rename_i x xs hx hxs
     exact qR hxs k (by simpa[eJ] using hk)
    ·cases h
theorem gU{l:List Nat}{x:Nat}:g7 l x=true↔x∈l:=by
 simp only[g7,List.any_eq_true]
 constructor
 ·rintro⟨y,hy,h⟩;rw[Nat.eq_of_beq_eq_true h];exact hy
 ·intro h;exact⟨x,h,by simp⟩
theorem wu(hm:Mem Γ H ρ F w)(hle:lZ Hm H){f n:Nat}{args args':List SV}{vs:List Value}{md:List Bool}{α:Type}{φ:α→Prop}{outs:α→List (Option (List CV))}{r:α→SV}{K:gC→Prop}(hv:qC Hm md args=some args')(h:fU P f args' φ outs r)
 (hn:(eJ Hm md args).Nodup)(hc:dQ md args=true∨(∀x,j8 (r x)∧wa (outs x)))(he:∀x,φ x→∃E,gG Hm md args (outs x) (r x) n=some E∧K E)(hfr:mn ρ n K)(hl:args.length=vs.length)
 (hd:∀(j:Nat) s v,args[j]? =some s→vs[j]? =some v→aZ ρ w (aO Γ F w) s v):HW P f∧Calls P f vs.toArray w (lk Γ H ρ F w n K):=by
 refine⟨h.1, ?_⟩
 have hB:=hm.hb hle
 obtain⟨Hv,hv,hHv⟩:∃Hv,lb Hm Hv md args=some args'∧∀i,Hv i≠ .dead→Hv i=Hm i∧i∉eJ Hm md args:=by
  cases md with
  |nil=>exact⟨Hm,hv,fun i _=>⟨rfl,by simp[eJ]⟩⟩
  |cons b ms=>
   refine⟨_,hv,fun i hi=> ?_⟩
   unfold GR at hi⊢
   cases hb:g7 (eJ Hm (b::ms) args) i with
   |true=>rw[hb] at hi;exact absurd rfl hi
   |false=>exact⟨rfl,fun hm=>by rw[gU.2 hm] at hb;cases hb⟩
 have hBv:∀i,Hv i= .dead∨dg ρ w (aO Γ F w) (Hv i) (ρ i) (F i):=by
  intro i
  by_cases hi:Hv i= .dead
  ·exact .inl hi
  ·rw[(hHv i hi).1];exact hB i
 have hlive:=qR hv
 generalize hlent:eJ Hm md args=lent at hn hlive hHv
 have hfsn:=lq hm hn
 obtain⟨ok,hok1,hok2,hokF,hokn⟩:∃ok:Nat→Prop,(∀b,aO Γ F w b→ok b)∧(∀b,ok b→b<w.heap.size∧b∉lent.flatMap F)∧((∀i,Hv i≠ .dead→∀b∈F i,ok b)∨dQ md args=true)∧
  ((∀x,j8 (r x)∧wa (outs x))∨∀b,ok b→aO Γ F w b):=by
  have hnl:∀b,aO Γ F w b→b∉lent.flatMap F:=fun b hb hbl=>by
   obtain⟨i,_,hi⟩:=List.mem_flatMap.1 hbl
   exact hb.2.2 ⟨i,hi⟩
  rcases hc with hc|hc
  ·exact⟨aO Γ F w,fun _ h=>h,fun b hb=>⟨hb.1,hnl b hb⟩, .inr hc, .inr fun _ h=>h⟩
  ·refine⟨fun b=>aO Γ F w b∨∃i,i∉lent∧b∈F i,fun _ h=> .inl h, ?_, .inl fun i hi b hb=> .inr ⟨i,(hHv i hi).2,hb⟩, .inl hc⟩
   rintro b (hb|⟨i,hi,hb⟩)
   ·exact⟨hb.1,hnl b hb⟩
   ·refine⟨hm.lt i b hb,fun hbl=> ?_⟩
    obtain⟨j,hj,hbj⟩:=List.mem_flatMap.1 hbl
    exact hi (hm.jt i j b hb hbj▸hj)
 have hOL:=CT hB hBv hok1 hokF hv hl hd
 rw[hlent] at hOL
 refine(h.2 w ok vs (lent.flatMap F) (fun b hb=>(hok2 b hb).1) hOL hfsn fun b hb=>⟨?_,fun hb'=>(hok2 b hb').2 hb⟩).mono ?_
 ·obtain⟨i,_,hi⟩:=List.mem_flatMap.1 hb
  exact hm.lt i b hi
 rintro e w' ⟨x,hx,v,fr,fo,rfl,hg,hnd,hsub,hr,ho⟩
 obtain⟨E,he,k⟩:=he x hx
 obtain⟨ok',hr',ho',hok'⟩:∃ok':Nat→Prop,OT w' ok' (r x) v fr∧kz w w' ok' (outs x) vs fo∧∀b,ok' b→b<w'.heap.size∧(aO Γ F w b∨b∈lent.flatMap F∨w.heap.size≤b)∧b∉fr++fo:=by
  rcases hokn with hp|hp
  ·exact⟨fun _=>False,hr.pure (hp x).1,ho.pure (hp x).2,fun b hb=>hb.elim⟩
  ·exact⟨_,hr,ho,fun b hb=>⟨hb.1,hb.2.1.imp_left (hp b),hb.2.2⟩⟩
 unfold gG at he
 split at he
 case h_2=>cases he
 rename_i sv bs m hadopt
 split at he
 case h_2=>cases he
 rename_i ws m' rn houts
 injection he with he
 subst he
 obtain⟨L1,g1,a1,a2,a3,a4,a5⟩:=zY hadopt hr'
 subst a2
 obtain⟨L2,b1,b2⟩:=oQ (ρ:=ρ) hB houts hl hd ho'
 rw[hlent] at b2
 have hA:=(ew.I4 (ρ:=ρ) a3 a4).append b2
 simp only[List.nil_append] at hA
 have hmm:=b2.le
 have hfresh:∀i,n≤i→i<m'→ρ i=none:=fun i h1 h2=>hfr _ k i h1 (by simp;omega)
 have hold:∀i∈lent,ρ i≠none:=fun i hi hρ=>jx hm hle hρ (hlive i hi) rfl
 have hndN:((L1++L2).map (·.nm)).Nodup:=by
  rw[hA.nm.nodup_iff,List.nodup_append]
  refine⟨List.nodup_range',hn,fun a ha b hb e=> ?_⟩
  subst e
  rw[List.mem_range'_1] at ha
  exact hold a hb (hfresh a ha.1 (by omega))
 have hnew:∀e∈L1++L2,e.v≠none→ρ e.nm=none:=fun e he hev=>by
  have:=hA.new e he hev
  exact hfresh _ this.1 this.2
 have hlentL:∀i∈lent,∃e∈L1++L2,e.nm=i:=fun i hi=>by
  have:i∈(L1++L2).map (·.nm):=hA.nm.symm.subset (by simp[hi])
  obtain⟨e,he,rfl⟩:=List.mem_map.1 this
  exact⟨e,he,rfl⟩
 have hR:∀e∈L1++L2,e.v≠none→mM (L1++L2) ρ e.nm=e.v:=by
  intro e he hev
  rw[(fY hndN he H F ρ).2.2]
  cases hv':e.v with
  |none=>exact absurd hv' hev
  |some u=>simp[lY,hv']
 obtain⟨x1,x2⟩:=m5 (ρ:=ρ) (L1++L2) hndN hnew
 have hFlent:∀b,(∀e∈L1++L2,b∉F e.nm)→b∉lent.flatMap F:=by
  intro b hb hbl
  obtain⟨i,hi,hbi⟩:=List.mem_flatMap.1 hbl
  obtain⟨e,he,rfl⟩:=hlentL i hi
  exact hb e he hbi
 have hin:∀e∈L1++L2,∀b∈e.f,b∈fr++fo:=fun e he b hb=>hA.ft.subset (List.mem_flatten.2 ⟨e.f,List.mem_map.2 ⟨e,he,rfl⟩,hb⟩)
 have hokc:∀b,ok' b→aO Γ (ou (L1++L2) F) w' b:=by
  intro b hb
  obtain⟨h1,h2,h3⟩:=hok' b hb
  refine⟨h1, ?_, ?_⟩
  ·rcases h2 with h2|h2|h2
   ·exact h2.2.1
   ·obtain⟨i,_,hi⟩:=List.mem_flatMap.1 h2
    exact .inr (hm.src i b hi)
   ·exact .inr (.inr (Nat.le_trans hm.size h2))
  ·rintro⟨i,hi⟩
   by_cases hI:∃e∈L1++L2,e.nm=i
   ·obtain⟨e,he,rfl⟩:=hI
    rw[(fY hndN he H F ρ).2.1] at hi
    exact h3 (hin e he b hi)
   ·rw[(kF (fun e he h'=>hI ⟨e,he,h'⟩) H F ρ).2.1] at hi
    rcases h2 with h2|h2|h2
    ·exact h2.2.2 ⟨i,hi⟩
    ·obtain⟨j,hj,hbj⟩:=List.mem_flatMap.1 h2
     have:=hm.jt i j b hi hbj
     subst this
     exact hI (hlentL i hj)
    ·have:=hm.lt i b hi;omega
 obtain⟨k1,k2,k3⟩:=hm.ents (L1++L2) (w':=w') hg.os hg.tape hg.output hg.size hndN hnew (fun b hb hnb=>hg.block b hb (hFlent b hnb))
  (fun e he b hb=>by
   have:=hsub b (hin e he b hb)
   rcases this.1 with h1|h1
   ·obtain⟨i,hi,hbi⟩:=List.mem_flatMap.1 h1
    obtain⟨e',he',rfl⟩:=hlentL i hi
    exact .inl ⟨e',he',hbi⟩
   ·exact .inr ⟨h1,this.2⟩)
  (hA.ft.nodup_iff.2 hnd)
  (fun e he _=>(hA.den e he _ x1 hR).mono (fun _ _=>rfl) hokc (fun _ _=>rfl) (Ext.refl _))
 refine⟨_,_,_,v,rfl,k,x1,fun i hi=> ?_, ?_,k2,k3,(a5 _ fun e he=>hR e (by simp[he]) (by obtain⟨u,hu,_⟩:=a3.den e he;rw[hu];simp)).mono (fun _ _=>rfl) hokc (Ext.refl _)⟩
 ·obtain⟨e,he,rfl,hev⟩:=x2 i hi
  have:=hA.new e he hev
  simp only
  omega
 ·rw[nz,dz,a1,b1] at k1
  exact k1
theorem mS(hm:Mem Γ H ρ F w)(hle:lZ Hm H){f n:Nat}{args args':List SV}{vs:List Value}{md:List Bool}{outs:List (Option (List CV))}{r:SV}{E:gC}{K:gC→Prop}(hv:qC Hm md args=some args')(h:ai P f args' outs r)
 (hn:(eJ Hm md args).Nodup)(hc:dQ md args=true∨(j8 r∧wa outs))(he:gG Hm md args outs r n=some E)(k:K E)(hfr:mn ρ n K)(hl:args.length=vs.length)
 (hd:∀(j:Nat) s v,args[j]? =some s→vs[j]? =some v→aZ ρ w (aO Γ F w) s v):HW P f∧Calls P f vs.toArray w (lk Γ H ρ F w n K):=
 wu (φ:=fun _:Unit=>True) (outs:=fun _=>outs) (r:=fun _=>r) hm hle hv (h.P5 () trivial) hn (hc.imp_right fun h _=>h) (fun _ _=>⟨E,he,k⟩) hfr hl hd
end
end Go.KA
