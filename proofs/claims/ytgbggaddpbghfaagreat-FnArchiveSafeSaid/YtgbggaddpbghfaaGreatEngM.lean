/- Part of a proof engine for functions of the given program: what an operation, a loop and a call compute, symbolically. No conditions. -/
import Derived.Test.YtgbggaddpbghfaaGreatEngL
namespace Go.KA
open Go Go.RowKit
def rr(ks:List Nat):List rH:=ks.map fun k=>⟨k, .dead,[],none⟩
theorem mg:∀ks:List Nat,gp (rr ks)=kp ks
 |[]=>rfl
 |k::ks=>by
  have:=mg ks;simp only[rr,gp,List.map_cons,kp]at this⊢;rw[this]
theorem dX(a b:List rH):gp (a++b)=gp a++gp b:=by simp[gp]
theorem wE{ks:List Nat}{e:rH}(h:e∈rr ks):e.b= .dead/\e.f=[]/\e.v=none/\e.nm∈ks:=by
 obtain⟨k,hk,rfl⟩:=List.mem_map.1 h;exact⟨rfl,rfl,rfl,hk⟩
theorem Qr(ks:List Nat):(rr ks).map (·.nm)=ks:=by simp[rr,Function.comp_def]
theorem SZ(ks:List Nat):((rr ks).map (·.f)).flatten=[]:=by
 rw[List.flatten_eq_nil_iff];intro l hl;obtain⟨e,he,rfl⟩:=List.mem_map.1 hl;exact(wE he).2.1
structure fm(w:World)(ok:Nat->Prop)(ρ:RM)(n m:Nat)(names:List Nat)(L:List rH)(f:List Nat):Prop where
 le:n≤m
 nm:(L.map (·.nm)).Perm (List.range' n (m-n)++names)
 ft:((L.map (·.f)).flatten).Perm f
 den:∀e∈L,∀ρ':RM,Ext ρ ρ'->(∀e'∈L,e'.v≠none->ρ' e'.nm=e'.v)->dH ρ' w ok e.b (n8 e (ρ e.nm)) e.f
 new:∀e∈L,e.v≠none->n≤e.nm/\e.nm<m
section
variable{w:World}{ok:Nat->Prop}{ρ:RM}
theorem fm.nil{n:Nat}:fm w ok ρ n n [] [] []:=⟨aw _,by simp,by simp,by simp,by simp⟩
theorem fm.append{n m k:Nat}{a b:List Nat}{L L':List rH}{f f':List Nat}(h:fm w ok ρ n m a L f)(h':fm w ok ρ m k b L' f'):fm w ok ρ n k (a++b) (L++L') (f++f'):=by
 have e1:=h.le;have e2:=h'.le;refine⟨by omega,?_,?_,fun e he ρ' hρ hv=>?_,fun e he oz=>?_⟩
 ·rw[au];refine(h.nm.append h'.nm).trans ?_;have:List.range' n (k-n)=List.range' n (m-n)++List.range' m (k-m):=by
   have:=List.range'_append_1 (s:=n) (m:=m-n) (n:=k-m);rw[show n+(m-n)=m by omega,show m-n+(k-m)=k-n by omega]at this;exact this.symm
  rw[this];simp only[List.append_assoc];refine .append_left _ ?_;exact List.perm_append_comm_assoc a _ b
 ·rw[au,List.flatten_append];exact h.ft.append h'.ft
 ·rcases ao.1 he with he|he
  ·exact h.den e he ρ' hρ fun e' qt=>hv e' (by simp[qt])
  ·exact h'.den e he ρ' hρ fun e' qt=>hv e' (by simp[qt])
 ·rcases ao.1 he with he|he
  ·have:=h.new e he oz;omega
  ·have:=h'.new e he oz;omega
theorem fm.P3{n:Nat}{L:List rH}{f g:List Nat}(h:iM w ok n L g)(hp:g.Perm f):fm w ok ρ n (n+L.length) [] L f:=by
 refine⟨by omega,by rw[h.names];simp,by rw[h.flat];exact hp,fun e he ρ' hρ hv=>?_,fun e he _=>h.mem he⟩;obtain⟨u,h1,h2⟩:=h.den e he;simp only[n8,h1];exact h2 ρ' fun e' qt=>hv e' qt (by obtain⟨u',hu',_⟩:=h.den e' qt;rw[hu'];simp)
theorem fm.dead{n:Nat}(ks:List Nat):fm w ok ρ n n ks (rr ks) []:=by
 refine⟨aw _,by rw[Qr];simp,by rw[SZ],fun e he ρ' hρ hv=>?_,fun e he oz=>?_⟩
 ·obtain⟨h1,h2,_⟩:=wE he;rw[h1,h2];exact .dead
 ·exact absurd (wE he).2.2.1 oz
theorem fm.one{n k:Nat}{b:dW}{f:List Nat}(h:∀ρ':RM,Ext ρ ρ'->dH ρ' w ok b (ρ k) f):fm w ok ρ n n [k] [⟨k,b,f,none⟩] f:=by
 refine⟨aw _,by simp,by simp,fun e he ρ' hρ hv=>?_,fun e he oz=>?_⟩
 ·have he:=List.mem_singleton.1 he;subst he;exact h ρ' hρ
 ·have he:=List.mem_singleton.1 he;subst he;exact absurd rfl oz
theorem Qw{w0:World}{os:List (Option (List CV))}{v:Value}{vs:List Value}{f:List Nat}(h:mL w0 w ok os (v::vs) f):∃g f',f=g++f'/\(∀c,T7 os=some c->Den w ok c (m6 v).cells.toList g/\Dj w0 w (m6 v) c)/\(T7 os=none->g=[])/\mL w0 w ok os.tail vs f':=by
 cases h with
 |nil=>exact⟨[],[],rfl,by simp[T7],fun _=>rfl, .nil⟩
 |none ht=>exact⟨[],_,rfl,by simp[T7],fun _=>rfl,ht⟩
 |some h hk ht=>exact⟨_,_,rfl,fun c hc=>by simp[T7]at hc;subst hc;exact⟨h,hk⟩,fun hc=>by simp[T7]at hc,ht⟩
theorem Gu{w0:World}{vs:List Value}{f:List Nat}(h:mL w0 w ok [] vs f):f=[]:=by cases h;rfl
theorem fm.blk{n m k b ty:Nat}{arr:Array Value}{ks:List Nat}{L:List rH}{g:List Nat}{ss:List SV}(hρ:ρ k=some (.pointer (some ⟨b,0,none⟩)))(hb:w.heap[b]? =some (.cells arr ty (0,0)))(h1:fm w ok ρ n m ks L g)
 (hC:∀ρ':RM,Ext ρ ρ'->(∀e∈L,e.v≠none->ρ' e.nm=e.v)->PW (b9 ρ' w ok) ss arr.toList):fm w ok ρ n m (k::ks) (L++[⟨k,gj ss,[b],none⟩]) (b::g):=by
 refine⟨h1.le,?_,?_,fun e he ρ' im hv=>?_,fun e he oz=>?_⟩
 ·rw[au];refine(h1.nm.append_right _).trans ?_;simp only[List.map_cons,List.map_nil,List.append_assoc];exact .append_left _ (List.perm_append_singleton k ks)
 ·rw[au,List.flatten_append];refine(h1.ft.append_right _).trans ?_;simp only[List.map_cons,List.map_nil,List.flatten_cons,List.flatten_nil,List.append_nil];exact List.perm_append_singleton b g
 ·rcases ao.1 he with he|he
  ·exact h1.den e he ρ' im fun e' qt=>hv e' (by simp[qt])
  ·have he:=List.mem_singleton.1 he;subst he;simp only[n8,hρ];obtain⟨k1,k2⟩:=hC ρ' im fun e he=>hv e (by simp[he])
   exact eX hb k1 k2
 ·rcases ao.1 he with he|he
  ·exact h1.new e he oz
  ·have he:=List.mem_singleton.1 he;subst he;exact absurd rfl oz
theorem ng{w0:World}{yM:Nat->Prop}:∀{ss:List SV} {cs:List CV} {N7 vs:List Value} {n m:Nat} {gx:List SV} {ws:List (Nat × dW)} {g:List Nat},
 Bn n ss cs=some (gx,ws,m)->PW (b9 ρ w0 yM) ss N7->Den w ok cs vs g->(∀(i:Nat) x,cs[i]? =some (.op x)->vs[i]? =N7[i]?)->
 ∃L,gp L=ws/\fm w ok ρ n m (ss.flatMap jT) L g/\ ∀ρ':RM,Ext ρ ρ'->(∀e∈L,e.v≠none->ρ' e.nm=e.v)->PW (b9 ρ' w ok) gx vs
 |[],cs,N7,vs,n,m,gx,ws,g,h,hp,hd,hk=>by
  cases cs with
  |cons _ _=>simp[Bn]at h
  |nil=>
   simp only[Bn,Option.some.injEq,Prod.mk.injEq]at h;obtain⟨rfl,rfl,rfl⟩:=h;cases hd;exact⟨[],rfl, .nil,fun _ _ _=>⟨rfl,by simp⟩⟩
 |s::ss,[],N7,vs,n,m,gx,ws,g,h,hp,hd,hk=>by cases s<;>simp[Bn]at h
 |s::ss,c::cs,N7,vs,n,m,gx,ws,g,h,hp,hd,hk=>by
  cases N7 with
  |nil=>exact absurd hp.1 (by simp)
  |cons v0 N7=>
  have K3:PW (b9 ρ w0 yM) ss N7:=⟨by simpa using hp.1,fun j a v ha hv=>hp.2 (j+1) a v ha hv⟩;have Fa:b9 ρ w0 yM s v0:=hp.2 0 s v0 rfl rfl;have sY:∀{v:Value} {vs:List Value},(∀(i:Nat) x,(c::cs)[i]? =some (.op x)->(v::vs)[i]? =(v0::N7)[i]?)-> ∀(i:Nat) x,cs[i]? =some (.op x)->vs[i]? =N7[i]? :=fun hk i x hx=>by simpa using hk (i+1) x (by simpa using hx)
  unfold Bn at h;split at h
  ·rename_i e _;cases e
  ·rename_i n0 j off UK c0 uq e1 e2;cases e1;cases e2;split at h
   case h_2=>cases h
   rename_i is;split at h
   case h_2=>cases h
   rename_i ks bs m1 yE;split at h
   case h_2=>cases h
   rename_i ZX W2 m2 Jg;simp only[Option.some.injEq,Prod.mk.injEq]at h;obtain⟨rfl,rfl,rfl⟩:=h;cases hd with
   | @op as vs f ty _ b g arr hb bw ht=>
     have e0:=hk 0 is rfl;simp only[List.getElem?_cons_zero,Option.some.injEq]at e0;subst e0;obtain⟨L0,g1,g2,g3,g4⟩:=dL yE bw;subst g2;obtain⟨L,k1,k2,k3⟩:=ng Jg K3 ht (sY hk);obtain⟨hρ,PU⟩:ρ j=some (.pointer (some ⟨b,0,none⟩))/\off=0:=by
      cases Fa with
      |lp h=>exact⟨h,rfl⟩
     subst PU;have hC:∀ρ':RM,Ext ρ ρ'->(∀e∈L0,e.v≠none->ρ' e.nm=e.v)->PW (b9 ρ' w ok) ks arr.toList:=fun ρ' _ hv=>g4 ρ' fun e he=>hv e he (by obtain⟨u,hu,_⟩:=g3.den e he;rw[hu];simp)
     have h1:=fm.blk hρ hb (fm.P3 (ρ:=ρ) g3 (.refl _)) hC;have h2:=h1.append k2;refine⟨L0++[⟨j,gj ks,[b],none⟩]++L,?_,by simpa only[jT,List.flatMap_cons,List.cons_append]using h2,fun ρ' im hv=>?_⟩
     ·rw[dX,dX,g1,k1,List.append_assoc];rfl
     ·obtain⟨q1,q2⟩:=k3 ρ' im fun e he=>hv e (by simp[he])
      refine⟨by simp[q1],fun i a v ha gZ=>?_⟩;cases i with
      |zero=>
       simp at ha gZ;subst ha gZ;exact .lp (im _ _ hρ)
      |succ i=>exact q2 i a v (by simpa using ha) (by simpa using gZ)
  ·rename_i n0 mA lA lB k UK c0 uq e1 e2;cases e1;cases e2;split at h
   ·rename_i ty sz rows;split at h
    case h_2=>cases h
    rename_i ZX W2 m2 Jg;simp only[Option.some.injEq,Prod.mk.injEq]at h;obtain⟨rfl,rfl,rfl⟩:=h;cases hd with
    | @ows _ _ _ ty sz rows xs v bw hr ho ht=>
      have hA:fg [.ows ty sz rows] n0=some ([.lw n0],[(n0, .row none ty sz rows)],n0+1):=rfl;obtain⟨L0,g1,g2,g3,g4⟩:=dL hA (Den.ows bw hr ho .nil);rw[g2]at Jg;obtain⟨L,k1,k2,k3⟩:=ng Jg K3 ht (sY hk);have h2:=((fm.P3 (ρ:=ρ) g3 (.refl _)).append (fm.dead [k])).append k2;refine⟨L0++rr [k]++L,?_,by simpa[jT,iN]using h2,fun ρ' im hv=>?_⟩
      ·rw[dX,dX,g1,k1,mg];rfl
      ·obtain⟨q1,q2⟩:=k3 ρ' im fun e he=>hv e (by simp[he])
       have q0:=g4 ρ' fun e he=>hv e (by simp[he]) (by obtain⟨u,hu,_⟩:=g3.den e he;rw[hu];simp)
       refine⟨by simp[q1],fun i a v ha gZ=>?_⟩;cases i with
       |zero=>
        simp at ha gZ;subst ha gZ;exact q0.2 0 _ _ rfl rfl
       |succ i=>exact q2 i a v (by simpa using ha) (by simpa using gZ)
   ·rename_i ty sz rows;split at h
    case h_2=>cases h
    rename_i ZX W2 m2 Jg;simp only[Option.some.injEq,Prod.mk.injEq]at h;obtain⟨rfl,rfl,rfl⟩:=h;cases hd with
    | @own _ _ _ ty sz rows xs v g bw hr ho ht=>
      have hA:fg [.own ty sz rows] n0=some ([.lw n0],[(n0, .aU none ty sz rows)],n0+1):=rfl;obtain⟨L0,g1,g2,g3,g4⟩:=dL hA (Den.own bw hr ho .nil);rw[g2]at Jg;obtain⟨L,k1,k2,k3⟩:=ng Jg K3 ht (sY hk);have h2:=((fm.P3 (ρ:=ρ) g3 (.refl _)).append (fm.dead [k])).append k2;refine⟨L0++rr [k]++L,?_,by simpa[jT,iN]using h2,fun ρ' im hv=>?_⟩
      ·rw[dX,dX,g1,k1,mg];rfl
      ·obtain⟨q1,q2⟩:=k3 ρ' im fun e he=>hv e (by simp[he])
       have q0:=g4 ρ' fun e he=>hv e (by simp[he]) (by obtain⟨u,hu,_⟩:=g3.den e he;rw[hu];simp)
       refine⟨by simp[q1],fun i a v ha gZ=>?_⟩;cases i with
       |zero=>
        simp at ha gZ;subst ha gZ;exact q0.2 0 _ _ rfl rfl
       |succ i=>exact q2 i a v (by simpa using ha) (by simpa using gZ)
   ·cases h
  ·rename_i n1 m1 l1 l2 x UK c0 uq e1 e2;cases e1;cases e2;split at h
   case h_2=>cases h
   rename_i dV;split at h
   case h_2=>cases h
   rename_i ZX W2 m2 Jg;simp only[Option.some.injEq,Prod.mk.injEq]at h;obtain⟨rfl,rfl,rfl⟩:=h;have fin:∀{v:Value} {vs:List Value} {g:List Nat},Den w ok [c] [v] []->Den w ok cs vs g->(∀(i:Nat) x,(c::cs)[i]? =some (.op x)->(v::vs)[i]? =(v0::N7)[i]?)->
    ∃L,gp L=W2/\fm w ok ρ n1 m2 ((SV.c x::ss).flatMap jT) L g/\ ∀ρ':RM,Ext ρ ρ'->(∀e∈L,e.v≠none->ρ' e.nm=e.v)->PW (b9 ρ' w ok) (.c c::ZX) (v::vs):=by
        intro v vs g h1 ht hk;obtain⟨L,k1,k2,k3⟩:=ng Jg K3 ht (sY hk);refine⟨L,k1,by simpa[jT,iN]using k2,fun ρ' im hv=>?_⟩;obtain⟨q1,q2⟩:=k3 ρ' im hv;refine⟨by simp[q1],fun i a v ha gZ=>?_⟩;cases i with
        |zero=>
         simp at ha gZ;subst ha gZ;exact .c h1
        |succ i=>exact q2 i a v (by simpa using ha) (by simpa using gZ)
   cases hd with
   |any h1 ht=>exact fin (.any h1 .nil) ht hk
   |val h1 ht=>exact fin (.val h1 .nil) ht hk
   |cb ht=>exact fin (.cb .nil) ht hk
   |ro hn hc hm hr bw jH ht=>exact fin (.ro hn hc hm hr bw jH .nil) ht hk
   |rp hl bw hs jH ht=>exact fin (.rp hl bw hs jH .nil) ht hk
   |own _ _ _ _=>cases dV
   |ows _ _ _ _=>cases dV
   |fQ _ _ _ _=>cases dV
   |op _ _ _=>cases dV
   |jB _ _ _ _=>cases dV
  ·cases h
theorem GV{w0:World}{yM:Nat->Prop}{H:HM}{F:FM}(hB:∀i,H i= .dead\/dH ρ w0 yM (H i) (ρ i) (F i)){k:Nat}{v:Value}(hρ:ρ k=some v):∀u,qu (H k)=some u->v=u:=by
 intro u hu;unfold qu at hu;split at hu
 ·rename_i hk;obtain⟨v',xs,gZ,_,_,_,_,hm⟩:=jx hB hk;rw[hρ]at gZ;injection gZ with gZ
  subst gZ;exact hm u hu
 ·rename_i hk;obtain⟨v',xs,f,gZ,_,_,_,_,hm⟩:=et hB hk;rw[hρ]at gZ;injection gZ with gZ
  subst gZ;exact hm u hu
 ·cases hu
theorem pN{w0:World}{yM:Nat->Prop}{H:HM}{F:FM}(hB:∀i,H i= .dead\/dH ρ w0 yM (H i) (ρ i) (F i)){n:Nat}:∀{ss:List SV} {cs:List CV} {vs:List Value} {ws:List (Nat × dW)} {g:List Nat},
 Eu H ss cs=some ws->PW (b9 ρ w0 yM) ss vs->Den w ok cs vs g-> ∃L,gp L=ws/\fm w ok ρ n n (ss.flatMap iN) L g
 |[],[],vs,ws,g,h,hp,hd=>by
  simp[Eu]at h;subst h;cases hd;exact⟨[],rfl, .nil⟩
 |s::ss,c::cs,vs,ws,g,h,hp,hd=>by
  have RO:∀{v:Value} {vs:List Value},PW (b9 ρ w0 yM) (s::ss) (v::vs)->PW (b9 ρ w0 yM) ss vs:=fun hp=>⟨by simpa using hp.1,fun j a v ha hv=>hp.2 (j+1) a v ha hv⟩
  unfold Eu at h;split at h
  ·rename_i he _;cases he
  ·rename_i k UK c0 uq he1 he2;cases he1;cases he2;split at h
   ·rename_i ty sz rows;split at h
    case h_2=>cases h
    rename_i l hl;injection h with h
    subst h;cases hd with
    |ows bw hr ho ht=>
     obtain⟨L,a1,a2⟩:=pN (n:=n) hB hl (RO hp) ht;have hρ:ρ k=some _:=(wg (.v (.c (hp.2 0 _ _ rfl rfl)))).1;obtain⟨L1,b1,h1⟩:∃L1,gp L1=[(k, .row (qu (H k)) ty sz rows)]/\fm w ok ρ n n [k] L1 _:=⟨[⟨k, .row (qu (H k)) ty sz rows,_,none⟩],rfl, .one fun ρ' _=>by
      rw[hρ];exact .row ho hr bw (GV hB hρ)⟩
     exact⟨L1++L,by rw[dX,b1,a1];rfl,by simpa[iN]using h1.append a2⟩
   ·rename_i ty sz rows;split at h
    case h_2=>cases h
    rename_i l hl;injection h with h
    subst h;cases hd with
    |own bw hr ho ht=>
     obtain⟨L,a1,a2⟩:=pN (n:=n) hB hl (RO hp) ht;have hρ:ρ k=some _:=(wg (.v (.c (hp.2 0 _ _ rfl rfl)))).1;obtain⟨L1,b1,h1⟩:∃L1,gp L1=[(k, .aU (qu (H k)) ty sz rows)]/\fm w ok ρ n n [k] L1 _:=⟨[⟨k, .aU (qu (H k)) ty sz rows,_,none⟩],rfl, .one fun ρ' _=>by
      rw[hρ];exact .aU ho hr bw (GV hB hρ)⟩
     exact⟨L1++L,by rw[dX,b1,a1];rfl,by simpa[iN]using h1.append a2⟩
   ·cases h
  ·rename_i x UK c0 uq he1 he2;cases he1;cases he2;split at h
   case h_2=>cases h
   rename_i dV;have hg:∀{v:Value} {vs:List Value} {g:List Nat},Den w ok (c::cs) (v::vs) g->Den w ok cs vs g:=by
        intro v vs g hd;cases hd with
        |any _ ht=>exact ht
        |val _ ht=>exact ht
        |cb ht=>exact ht
        |ro _ _ _ _ _ _ ht=>exact ht
        |rp _ _ _ _ ht=>exact ht
        |own _ _ _ _=>cases dV
        |ows _ _ _ _=>cases dV
        |fQ _ _ _ _=>cases dV
        |op _ _ _=>cases dV
        |jB _ _ _ _=>cases dV
   cases vs with
   |nil=>exact absurd hp.1 (by simp)
   |cons v vs=>
    obtain⟨L,a1,a2⟩:=pN (n:=n) hB h (RO hp) (hg hd);exact⟨L,a1,by simpa[iN]using a2⟩
  ·cases h
 |[],_::_,_,_,_,h,_,_=>by simp[Eu]at h
 |s::_,[],_,_,_,h,_,_=>by cases s<;>simp[Eu]at h
theorem JZ{w0:World}{yM:Nat->Prop}{H:HM}{F:FM}(hB:∀i,H i= .dead\/dH ρ w0 yM (H i) (ρ i) (F i)){n m:Nat}{s:SV}{v:Value}{o:Option (List CV)}{ws:List (Nat × dW)}{rn:List (Nat × Nat)}{g:List Nat}
 (h:VL H n s o=some (ws,m,rn))(hs:bJ ρ w0 yM s v)(hd:∀c,o=some c->Den w ok c (m6 v).cells.toList g)(hkp:∀c,o=some c->Dj w0 w (m6 v) c)(hn:o=none->g=[]):∃L,gp L=ws/\fm w ok ρ n m (eT H s) L g:=by
 unfold VL at h;split at h
 ·rename_i k;obtain⟨hρ,TL⟩:=wg hs;have kR:(m6 v).cells.toList=[v]:=by obtain⟨a,n,c,rfl⟩:=TL;rfl
  rw[kR]at hd;have Ul:∀u,qu (H k)=some u->v=u:=by
   intro u hu;unfold qu at hu;split at hu
   ·rename_i hk;obtain⟨v',xs,gZ,_,_,_,_,hm⟩:=jx hB hk;rw[hρ]at gZ;injection gZ with gZ
    subst gZ;exact hm u hu
   ·rename_i hk;obtain⟨v',xs,f,gZ,_,_,_,_,hm⟩:=et hB hk;rw[hρ]at gZ;injection gZ with gZ
    subst gZ;exact hm u hu
   ·cases hu
  split at h
  ·rename_i ty sz rows;simp only[Option.some.injEq,Prod.mk.injEq]at h;obtain⟨rfl,rfl,rfl⟩:=h;have:=hd _ rfl;refine⟨[⟨k,_,g,none⟩],rfl, .one fun ρ' _=>?_⟩;rw[hρ];cases this with
   |ows bw hr ho ht=>cases ht;rw[List.append_nil];exact .row ho hr bw Ul
  ·rename_i ty sz rows;simp only[Option.some.injEq,Prod.mk.injEq]at h;obtain⟨rfl,rfl,rfl⟩:=h;have:=hd _ rfl;refine⟨[⟨k,_,g,none⟩],rfl, .one fun ρ' _=>?_⟩;rw[hρ];cases this with
   |own bw hr ho ht=>cases ht;rw[List.append_nil];exact .aU ho hr bw Ul
  ·simp only[Option.some.injEq,Prod.mk.injEq]at h;obtain⟨rfl,rfl,rfl⟩:=h;have:=hn rfl;subst this;exact⟨rr [k],mg [k], .dead [k]⟩
  ·cases h
 ·rename_i k off;obtain⟨b,hρ,rfl⟩:=uD hs;have kR:(m6 (Value.pointer (some ⟨b,off,none⟩))).cells.toList=[Value.pointer (some ⟨b,0,none⟩)]:=rfl;rw[kR]at hd;split at h
  ·rename_i cells;split at h
   ·split at h
    case h_2=>cases h
    rename_i cs hk;split at h
    case h_2=>cases h
    rename_i ss W2 m' ir;simp only[Option.some.injEq,Prod.mk.injEq]at h;obtain⟨rfl,rfl,rfl⟩:=h;have Qz:=hkp _ rfl;have:=hd _ rfl;cases this with
    | @op _ _ _ mq _ b' g' arr hb bw ht=>
      cases ht;obtain⟨b0,V5,RX,aay,hh0,NY,Tr,_⟩:=mO hB hk;rw[hρ]at aay;simp only[Option.some.injEq,Value.pointer.injEq,Addr.mk.injEq,and_true]at aay;subst aay;obtain⟨L,a1,a2,a3⟩:=ng ir ⟨NY,Tr⟩ bw (Qz cells rfl b V5 mq RX arr rfl hh0 hb);refine⟨L++[⟨k,gj ss,[b],none⟩],by rw[dX,a1];rfl,?_⟩;have e:eT H (.lp k off)=k::cs.flatMap jT:=by simp[eT,hk]
      rw[e];simpa using fm.blk hρ hb a2 a3
   rename_i acB;split at h
   case h_2=>cases h
   rename_i ss bs m' ir;have:=hd _ rfl;cases this with
   | @op _ _ _ mq _ b' g' arr hb bw ht=>
     cases ht;obtain⟨L,a1,a2,a3,a4⟩:=dL ir bw;subst a2;have hT:fm w ok ρ n (n+L.length) [] L g':= .P3 a3 (.refl _);have main:∀{ks:List Nat} {L0:List rH},fm w ok ρ (n+L.length) (n+L.length) ks L0 []->fm w ok ρ n (n+L.length) (k::ks) (L++L0++[⟨k,gj ss,[b],none⟩]) (b::g'++[]):=by
      intro ks L0 h0;have h1:=hT.append h0;refine⟨h1.le,?_,?_,fun e he ρ' im hv=>?_,fun e he oz=>?_⟩
      ·rw[au];refine(h1.nm.append_right _).trans ?_;simp only[List.nil_append,List.map_cons,List.map_nil,List.append_assoc];exact .append_left _ (List.perm_append_singleton k ks)
      ·rw[au,List.flatten_append];refine(h1.ft.append_right _).trans ?_;simp only[List.append_nil,List.map_cons,List.map_nil,List.flatten_cons,List.flatten_nil];exact List.perm_append_singleton b g'
      ·rcases ao.1 he with he|he
       ·exact h1.den e he ρ' im fun e' qt=>hv e' (by simp at qt⊢;rcases qt with h|h<;>simp[h])
       ·have he:=List.mem_singleton.1 he;subst he;simp only[n8,hρ];obtain⟨k1,k2⟩:=a4 ρ' fun e he=>hv e (by simp[he]) (by obtain⟨u,hu,_⟩:=a3.den e he;rw[hu];simp)
        exact eX hb k1 k2
      ·rcases ao.1 he with he|he
       ·exact h1.new e he oz
       ·have he:=List.mem_singleton.1 he;subst he;exact absurd rfl oz
     split at h
     ·rename_i cs hk;simp only[Option.some.injEq,Prod.mk.injEq]at h;obtain⟨rfl,rfl,rfl⟩:=h;refine⟨L++rr (cs.flatMap jT)++[⟨k,gj ss,[b],none⟩],?_,?_⟩
      ·rw[dX,dX,mg,a1];rfl
      ·have e:eT H (.lp k off)=k::cs.flatMap jT:=by simp[eT,hk]
       rw[e];exact main (.dead _)
     ·rename_i jr;simp only[Option.some.injEq,Prod.mk.injEq]at h;obtain⟨rfl,rfl,rfl⟩:=h;refine⟨L++[]++[⟨k,gj ss,[b],none⟩],?_,?_⟩
      ·rw[List.append_nil,dX,a1];rfl
      ·have e:eT H (.lp k off)=[k]:=by
           cases hk:H k<;>first|(exact(jr _ hk).elim)|simp[eT,hk]
       rw[e];exact main .nil
  ·rename_i t e s;split at h
   case h_2=>cases h
   rename_i hk;simp only[Option.some.injEq,Prod.mk.injEq]at h;obtain⟨rfl,rfl,rfl⟩:=h;have:=hd _ rfl;have e1:eT H (.lp k off)=[k]:=by simp[eT,hk]
   rw[e1];refine⟨[⟨k,_,g,none⟩],rfl, .one fun ρ' _=>?_⟩;rw[hρ];cases this with
   |jB hp hb ho ht=>cases ht;rw[List.append_nil];exact .jB hp hb ho
  ·have:=hn rfl;subst this;split at h
   ·rename_i cs hk;simp only[Option.some.injEq,Prod.mk.injEq]at h;obtain⟨rfl,rfl,rfl⟩:=h;have e:eT H (.lp k off)=k::cs.flatMap jT:=by simp[eT,hk]
    rw[e];exact⟨_,mg _, .dead _⟩
   ·rename_i jr;simp only[Option.some.injEq,Prod.mk.injEq]at h;obtain⟨rfl,rfl,rfl⟩:=h;have e:eT H (.lp k off)=[k]:=by
         cases hk:H k<;>first|(exact(jr _ hk).elim)|simp[eT,hk]
    rw[e];exact⟨_,mg [k], .dead [k]⟩
  ·cases h
 ·rename_i ss;have Zw:m6 v=v:=by cases hs with|v h=>cases h with|c h=>cases h|m _ _=>rfl
  rw[Zw]at hd;have hp:PW (b9 ρ w0 yM) ss v.cells.toList:=(nD hs).2.2.1 ss rfl;split at h
  ·rename_i cs;split at h
   case h_2=>cases h
   rename_i l hl;simp only[Option.some.injEq,Prod.mk.injEq]at h;obtain⟨rfl,rfl,rfl⟩:=h;have:=hd cs rfl;generalize v.cells.toList=vs at hp this;exact pN hB hl hp this
  ·have:=hn rfl;subst this;simp only[Option.some.injEq,Prod.mk.injEq]at h;obtain⟨rfl,rfl,rfl⟩:=h;exact⟨_,mg _, .dead _⟩
 ·cases h
theorem qZ{w0:World}{yM:Nat->Prop}{H:HM}{F:FM}(hB:∀i,H i= .dead\/dH ρ w0 yM (H i) (ρ i) (F i)):∀{args:List SV} {md:List Bool} {vs:List Value} {os:List (Option (List CV))} {n m:Nat} {ws:List (Nat × dW)} {rn:List (Nat × Nat)} {f:List Nat},
 qA H n md args os=some (ws,m,rn)->args.length=vs.length->(∀(j:Nat) s v,args[j]? =some s->vs[j]? =some v->bJ ρ w0 yM s v)->mL w0 w ok os vs f-> ∃L,gp L=ws/\fm w ok ρ n m (fK H md args) L f
 |[],md,vs,os,n,m,ws,rn,f,h,hl,_,ho=>by
  have e1:fK H md []=[]:=by cases md with|nil=>rfl|cons b _=>cases b<;>rfl
  rw[e1];cases os with
  |nil=>
   have:=Gu ho;subst this;have:ws=[]/\n=m:=by
     cases md with
     |nil=>simp[qA]at h;exact⟨h.1.symm▸rfl,h.2.1⟩
     |cons b _=>cases b<;>(simp[qA]at h;exact⟨h.1.symm▸rfl,h.2.1⟩)
   obtain⟨rfl,rfl⟩:=this;exact⟨[],rfl, .nil⟩
  |cons o os=>
   exfalso;cases md with
   |nil=>simp[qA]at h
   |cons b _=>cases b<;>simp[qA]at h
 |s::ss,md,vs,os,n,m,ws,rn,f,h,hl,hd,ho=>by
  cases vs with
  |nil=>simp at hl
  |cons v vs=>
   cases md with
   |nil=>
    cases os with
    |nil=>
     have:=Gu ho;subst this;simp only[qA,Option.some.injEq,Prod.mk.injEq]at h;obtain⟨rfl,rfl,rfl⟩:=h;exact⟨[],rfl, .nil⟩
    |cons o os=>simp[qA]at h
   |cons b ms=>
    obtain⟨g,f',rfl,h1,h2,h3⟩:=Qw ho;have uY:ss.length=vs.length:=by simpa using hl
    have VD:∀(j:Nat) s v,ss[j]? =some s->vs[j]? =some v->bJ ρ w0 yM s v:=fun j s v hs hv=>hd (j+1) s v hs hv
    cases b with
    |true=>
     simp only[qA]at h;split at h
     case h_2=>cases h
     rename_i W2 m1 rn1 yE;split at h
     case h_2=>cases h
     rename_i ws2 m2 rn2 Jg;simp only[Option.some.injEq,Prod.mk.injEq]at h;obtain⟨rfl,rfl,rfl⟩:=h;obtain⟨L1,a1,a2⟩:=JZ hB yE (hd 0 s v rfl rfl) (fun c hc=>(h1 c hc).1) (fun c hc=>(h1 c hc).2) h2;obtain⟨L2,b1,b2⟩:=qZ hB Jg uY VD h3;exact⟨L1++L2,by rw[dX,a1,b1],a2.append b2⟩
    |false=>
     simp only[qA]at h;split at h
     case h_2=>cases h
     rename_i Gy;have:=h2 Gy;subst this;obtain⟨L2,b1,b2⟩:=qZ hB h uY VD h3;exact⟨L2,b1,b2⟩
end
section
variable{P:Program}{Γ:Cx}{H Hm:HM}{ρ:RM}{F:FM}{w:World}
theorem I4{s s':SV}(h:kS Hm s=some s'):∀k∈eT Hm s,Hm k≠ .dead:=by
 intro k hk;unfold kS at h;split at h
 ·rename_i j;simp only[eT,List.mem_singleton]at hk;subst hk;intro e;simp[jR,e]at h
 ·rename_i j off;split at h
  ·rename_i sz cs hj;simp only[eT,hj,List.mem_singleton]at hk;subst hk;rw[hj];simp
  ·rename_i cs hj;simp only[eT,hj,List.mem_cons]at hk;rcases hk with rfl|hk
   ·rw[hj];simp
   ·obtain⟨_,h⟩:True/\ ∃l,iL (nI Hm) cs=some l:=by
     cases hb:Nat.beq off 0 with
     |false=>rw[hb]at h;cases h
     |true=>
      rw[hb]at h;simp only[cond]at h;split at h
      ·rename_i l hl;exact⟨trivial,l,hl⟩
      ·cases h
    obtain⟨l,hl⟩:=h;exact ue hl k hk
  ·rename_i t e s0 hj;simp only[eT,hj,List.mem_singleton]at hk;subst hk;rw[hj];simp
  ·cases h
 ·rename_i cs;split at h
  ·rename_i l hl;exact tA hl k (by simpa[eT]using hk)
  ·cases h
 ·cases h
theorem I6{s s':SV}(h:py Hm s=some s'):∀k∈eT Hm s,Hm k≠ .dead:=by
 unfold py at h;split at h
 ·rename_i j off;intro k hk;split at h
  ·rename_i sz cs hj;simp only[eT,hj,List.mem_singleton]at hk;subst hk;rw[hj];simp
  ·rename_i cs hj;simp only[eT,hj,List.mem_cons]at hk;rcases hk with rfl|hk
   ·rw[hj];simp
   ·split at h
    ·rename_i l hl;exact ue hl k hk
    ·cases h
  ·cases h
 ·exact I4 h
theorem tY{Hv:HM}:∀{args:List SV} {md:List Bool} {df:List SV},nK Hm Hv md args=some df-> ∀k∈fK Hm md args,Hm k≠ .dead
 |[],md,df,h,k,hk=>by
  cases md with
  |nil=>simp[fK]at hk
  |cons b _=>cases b<;>simp[fK]at hk
 |s::ss,md,df,h,k,hk=>by
  cases md with
  |nil=>simp[fK]at hk
  |cons b ms=>
   cases b with
   |true=>
    simp only[nK]at h;split at h
    ·rename_i x xs hx qC;simp only[fK,ao]at hk;rcases hk with hk|hk
     ·exact I6 hx k hk
     ·exact tY qC k hk
    ·cases h
   |false=>
    simp only[nK]at h;split at h
    ·rename_i x xs hx qC;exact tY qC k (by simpa[fK]using hk)
    ·cases h
theorem jg{l:List Nat}{x:Nat}:jt l x=true↔x∈l:=by
 simp only[jt,List.any_eq_true];constructor
 ·rintro⟨y,hy,h⟩;rw[ae h];exact hy
 ·intro h;exact⟨x,h,by simp⟩
theorem zP(hm:Mem Γ H ρ F w)(hle:n9 Hm H){f n:Nat}{args df:List SV}{vs:List Value}{md:List Bool}{α:Type}{φ:α->Prop}{outs:α->List (Option (List CV))}{r:α->SV}{K:iT->Prop}(hv:tS Hm md args=some df)(h:gW P f df φ outs r)
 (hn:(fK Hm md args).Nodup)(hc:ez md args=true\/(∀x,ld (r x)/\y1 (outs x)))(he:∀x,φ x-> ∃E,iQ Hm md args (outs x) (r x) n=some E/\K E)(nY:oc ρ n K)(hl:args.length=vs.length)
 (hd:∀(j:Nat) s v,args[j]? =some s->vs[j]? =some v->bJ ρ w (bg Γ F w) s v):MK P f/\Calls P f vs.toArray w (nj Γ H ρ F w n K):=by
 refine⟨h.1,?_⟩;have hB:=hm.hb hle;obtain⟨Hv,hv,hHv⟩:∃Hv,nK Hm Hv md args=some df/\ ∀i,Hv i≠ .dead->Hv i=Hm i/\i∉fK Hm md args:=by
  cases md with
  |nil=>exact⟨Hm,hv,fun i _=>⟨rfl,by simp[fK]⟩⟩
  |cons b ms=>
   refine⟨_,hv,fun i hi=>?_⟩;unfold Ll at hi⊢;cases hb:jt (fK Hm (b::ms) args) i with
   |true=>rw[hb]at hi;exact absurd rfl hi
   |false=>exact⟨rfl,fun hm=>by rw[jg.2 hm]at hb;cases hb⟩
 have hBv:∀i,Hv i= .dead\/dH ρ w (bg Γ F w) (Hv i) (ρ i) (F i):=by
  intro i;by_cases hi:Hv i= .dead
  ·exact .inl hi
  ·rw[(hHv i hi).1];exact hB i
 have KU:=tY hv;generalize hlent:fK Hm md args=lent at hn KU hHv;have Tg:=nc hm hn;obtain⟨ok,aaY,tT,qG,aab⟩:∃ok:Nat->Prop,(∀b,bg Γ F w b->ok b)/\(∀b,ok b->b<w.heap.size/\b∉lent.flatMap F)/\((∀i,Hv i≠ .dead-> ∀b∈F i,ok b)\/ez md args=true)/\
  ((∀x,ld (r x)/\y1 (outs x))\/ ∀b,ok b->bg Γ F w b):=by
  have YR:∀b,bg Γ F w b->b∉lent.flatMap F:=fun b hb YK=>by
   obtain⟨i,_,hi⟩:=List.mem_flatMap.1 YK;exact hb.2.2 ⟨i,hi⟩
  rcases hc with hc|hc
  ·exact⟨bg Γ F w,fun _ h=>h,fun b hb=>⟨hb.1,YR b hb⟩, .inr hc, .inr fun _ h=>h⟩
  ·refine⟨fun b=>bg Γ F w b\/ ∃i,i∉lent/\b∈F i,fun _ h=> .inl h,?_, .inl fun i hi b hb=> .inr ⟨i,(hHv i hi).2,hb⟩, .inl hc⟩;rintro b (hb|⟨i,hi,hb⟩)
   ·exact⟨hb.1,YR b hb⟩
   ·refine⟨hm.lt i b hb,fun YK=>?_⟩;obtain⟨j,hj,E8⟩:=List.mem_flatMap.1 YK;exact hi (hm.kO i j b hb E8▸hj)
 have hOL:=Hc hB hBv aaY qG hv hl hd;rw[hlent]at hOL;refine(h.2 w ok vs (lent.flatMap F) (fun b hb=>(tT b hb).1) hOL Tg fun b hb=>⟨?_,fun fX=>(tT b fX).2 hb⟩).mono ?_
 ·obtain⟨i,_,hi⟩:=List.mem_flatMap.1 hb;exact hm.lt i b hi
 rintro e w' ⟨x,hx,v,fr,fo,rfl,hg,gB,jn,hr,ho⟩;obtain⟨E,he,k⟩:=he x hx;obtain⟨ok',my,N9,iu⟩:∃ok':Nat->Prop,OT w' ok' (r x) v fr/\mL w w' ok' (outs x) vs fo/\ ∀b,ok' b->b<w'.heap.size/\(bg Γ F w b\/b∈lent.flatMap F\/w.heap.size≤b)/\b∉fr++fo:=by
  rcases aab with hp|hp
  ·exact⟨fun _=>False,hr.pure (hp x).1,ho.pure (hp x).2,fun b hb=>hb.elim⟩
  ·exact⟨_,hr,ho,fun b hb=>⟨hb.1,hb.2.1.imp_left (hp b),hb.2.2⟩⟩
 unfold iQ at he;split at he
 case h_2=>cases he
 rename_i sv bs m Wt;split at he
 case h_2=>cases he
 rename_i ws m' rn XW;injection he with he
 subst he;obtain⟨L1,g1,a1,a2,a3,a4,a5⟩:=Dz Wt my;subst a2;obtain⟨L2,b1,b2⟩:=qZ (ρ:=ρ) hB XW hl hd N9;rw[hlent]at b2;have hA:=(fm.P3 (ρ:=ρ) a3 a4).append b2;simp only[List.nil_append]at hA;have OA:=b2.le;have Pd:∀i,n≤i->i<m'->ρ i=none:=fun i h1 h2=>nY _ k i h1 (by simp;omega)
 have hold:∀i∈lent,ρ i≠none:=fun i hi hρ=>kM hm hle hρ (KU i hi) rfl
 have Td:((L1++L2).map (·.nm)).Nodup:=by
  rw[hA.nm.nodup_iff,List.nodup_append];refine⟨List.nodup_range',hn,fun a ha b hb e=>?_⟩;subst e;rw[List.mem_range'_1]at ha;exact hold a hb (Pd a ha.1 (by omega))
 have pe:∀e∈L1++L2,e.v≠none->ρ e.nm=none:=fun e he oz=>by
  have:=hA.new e he oz;exact Pd _ this.1 this.2
 have Je:∀i∈lent,∃e∈L1++L2,e.nm=i:=fun i hi=>by
  have:i∈(L1++L2).map (·.nm):=hA.nm.symm.subset (by simp[hi]);obtain⟨e,he,rfl⟩:=List.mem_map.1 this;exact⟨e,he,rfl⟩
 have hR:∀e∈L1++L2,e.v≠none->oQ (L1++L2) ρ e.nm=e.v:=by
  intro e he oz;rw[(ic Td he H F ρ).2.2];cases gZ:e.v with
  |none=>exact absurd gZ oz
  |some u=>simp[n8,gZ]
 obtain⟨x1,x2⟩:=pF (ρ:=ρ) (L1++L2) Td pe;have VS:∀b,(∀e∈L1++L2,b∉F e.nm)->b∉lent.flatMap F:=by
  intro b hb YK;obtain⟨i,hi,Rb⟩:=List.mem_flatMap.1 YK;obtain⟨e,he,rfl⟩:=Je i hi;exact hb e he Rb
 have bw:∀e∈L1++L2,∀b∈e.f,b∈fr++fo:=fun e he b hb=>hA.ft.subset (List.mem_flatten.2 ⟨e.f,List.mem_map.2 ⟨e,he,rfl⟩,hb⟩)
 have X7:∀b,ok' b->bg Γ (qF (L1++L2) F) w' b:=by
  intro b hb;obtain⟨h1,h2,h3⟩:=iu b hb;refine⟨h1,?_,?_⟩
  ·rcases h2 with h2|h2|h2
   ·exact h2.2.1
   ·obtain⟨i,_,hi⟩:=List.mem_flatMap.1 h2;exact .inr (hm.src i b hi)
   ·exact .inr (.inr (Nat.le_trans hm.size h2))
  ·rintro⟨i,hi⟩;by_cases hI:∃e∈L1++L2,e.nm=i
   ·obtain⟨e,he,rfl⟩:=hI;rw[(ic Td he H F ρ).2.1]at hi;exact h3 (bw e he b hi)
   ·rw[(mD (fun e he h'=>hI ⟨e,he,h'⟩) H F ρ).2.1]at hi;rcases h2 with h2|h2|h2
    ·exact h2.2.2 ⟨i,hi⟩
    ·obtain⟨j,hj,E8⟩:=List.mem_flatMap.1 h2;have:=hm.kO i j b hi E8;subst this;exact hI (Je i hj)
    ·have:=hm.lt i b hi;omega
 obtain⟨k1,k2,k3⟩:=hm.ents (L1++L2) (w':=w') hg.os hg.tape hg.output hg.size Td pe (fun b hb Sp=>hg.block b hb (VS b Sp))
  (fun e he b hb=>by
   have:=jn b (bw e he b hb);rcases this.1 with h1|h1
   ·obtain⟨i,hi,Rb⟩:=List.mem_flatMap.1 h1;obtain⟨e',qt,rfl⟩:=Je i hi;exact .inl ⟨e',qt,Rb⟩
   ·exact .inr ⟨h1,this.2⟩)
  (hA.ft.nodup_iff.2 gB)
  (fun e he _=>(hA.den e he _ x1 hR).mono (fun _ _=>rfl) X7 (fun _ _=>rfl) (Ext.refl _))
 refine⟨_,_,_,v,rfl,k,x1,fun i hi=>?_,?_,k2,k3,(a5 _ fun e he=>hR e (by simp[he]) (by obtain⟨u,hu,_⟩:=a3.den e he;rw[hu];simp)).mono (fun _ _=>rfl) X7 (Ext.refl _)⟩
 ·obtain⟨e,he,rfl,oz⟩:=x2 i hi;have:=hA.new e he oz;simp only;omega
 ·rw[pV,dX,a1,b1]at k1;exact k1
theorem ph(hm:Mem Γ H ρ F w)(hle:n9 Hm H){f n:Nat}{args df:List SV}{vs:List Value}{md:List Bool}{outs:List (Option (List CV))}{r:SV}{E:iT}{K:iT->Prop}(hv:tS Hm md args=some df)(h:aE P f df outs r)
 (hn:(fK Hm md args).Nodup)(hc:ez md args=true\/(ld r/\y1 outs))(he:iQ Hm md args outs r n=some E)(k:K E)(nY:oc ρ n K)(hl:args.length=vs.length)
 (hd:∀(j:Nat) s v,args[j]? =some s->vs[j]? =some v->bJ ρ w (bg Γ F w) s v):MK P f/\Calls P f vs.toArray w (nj Γ H ρ F w n K):=
 zP (φ:=fun _:Unit=>True) (outs:=fun _=>outs) (r:=fun _=>r) hm hle hv (h.toE () trivial) hn (hc.imp_right fun h _=>h) (fun _ _=>⟨E,he,k⟩) nY hl hd
end
end Go.KA
