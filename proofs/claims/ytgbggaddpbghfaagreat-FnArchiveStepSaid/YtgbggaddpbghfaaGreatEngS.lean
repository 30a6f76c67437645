/- Part of a proof engine for functions of the given program: what an operation, a loop and a call compute, symbolically. No conditions. -/
import Derived.Test.YtgbggaddpbghfaaGreatEngR
namespace Go.KA
open Go Go.RowKit
structure bo(p:Prop):Prop where
 h:p
def T0(args:List SV):TM:=fun i=>match args[i]? with|some s=>s|none=> .any
def H0(bs:List (Nat × dD)):HM:=cW bs fun _=> .dead
def pX(tbl:TT):List ResultVar→TM→HM→(List SV→Prop)→Prop
 |[],_,_,K=>K []
 | .tmp t::rs,T,H,K=>pX tbl rs T H fun l=>K (T t::l)
 | .cell t ty::rs,T,H,K=>uA tbl ty (T t) H fun sv=>pX tbl rs T H fun l=>K (sv::l)
def oI:List SV→SV
 |[x]=>x
 |l=> .tup l
def CI(H:HM)(s:SV):Option SV:=
 match s with
 | .tup vs=>match l8 (gN H) vs with|some l=>some (.tup l)|none=>none
 |s=>gN H s
def aM:SV→SV
 | .c (.cb b)=> .c (.val (.bool b))
 |s=>s
def aN:SV→SV
 | .tup vs=> .tup (vs.map aM)
 |s=>aM s
theorem CP{ρ:RM}{w:World}{ok:Nat→Prop}{s:SV}{v:Value}(h:dX ρ w ok s v):dX ρ w ok (aM s) v:=by
 unfold aM
 split
 ·cases h with|c h=>cases h with|c h=>rw[nQ h];exact .c (.c (mk_val rfl))
 ·exact h
def O2(tbl:TT)(rs:List ResultVar)(r:SV):X→TM→HM→Nat→Prop
 | .exit _,_,_,_=>False
 |_,T,H,_=>pX tbl rs T H fun l=>match CI H (oI l) with|some s=>bo (aN s=r)|none=>False
def qa(H:HM)(s:SV):Option SV:=
 match s with
 | .m cs=>match gq (iy H) cs with|some l=>some (.a l.length l)|none=>none
 | .a n cs=>some (.a n cs)
 | .lp k o=>jf H (.lp k o)
 | .clo k caps=>match caps.all my with|true=>some (.clo k caps)|false=>none
 | .any=>none
 | .tup _=>none
 |s=>match iy H s with|some x=>some (.c x)|none=>none
def qk(H:HM)(s:SV):List Nat:=
 match s with
 | .m cs=>cs.flatMap gy
 | .lp k o=>ef H (.lp k o)
 |s=>gy s
def BT(H:HM)(s:SV):Option SV:=
 match s with
 | .tup vs=>match l8 (qa H) vs with|some l=>some (.tup l)|none=>none
 | .any=>some .any
 |s=>qa H s
def vT(H:HM)(s:SV):List Nat:=
 match s with
 | .tup vs=>vs.flatMap (qk H)
 |s=>qk H s
def AM(H:HM):List SV→List (Option (List CV))→List Nat
 |s::ss,some _::os=>ef H s++AM H ss os
 |_::ss,none::os=>AM H ss os
 |_,_=>[]
def mN:SV→List CV
 | .c x=>[x]
 | .m ss=>match qY ss with|some l=>l|none=>[]
 | .tup (.c x::_)=>[x]
 |_=>[]
def I8(H:HM):List SV→List (Option (List CV))→Prop
 |s::ss,some cs::os=>(m8 H s).map mN=some cs∧I8 H ss os
 |_::ss,none::os=>I8 H ss os
 |_,[]=>True
 |[],_::_=>False
def mv:List SV→List SV→Bool
 |[],_=>true
 | .lp m o::cs,c0::cs0=>match c0 with
   | .lp m' o'=>Nat.beq m m'&&(Nat.beq o o'&&mv cs cs0)
   |_=>false
 | .lp _ _::_,[]=>false
 |_::cs,[]=>mv cs []
 |_::cs,_::cs0=>mv cs cs0
def nK:dD→List SV
 | .cells cs=>cs
 |_=>[]
def Cm(H0 H:HM):List SV→List (Option (List CV))→Bool
 |s::ss,_::os=>(match s with| .lp k _=>(match H k with| .cells cs=>mv cs (nK (H0 k))|_=>true)|_=>true)&&Cm H0 H ss os
 |_,_=>true
def Pk:SV→List Nat
 | .lp m _=>[m]
 |_=>[]
def rS(ss:List SV)(bs:List (Nat × dD)):List Nat:=ss.flatMap NW++bs.flatMap fun p=>(nK p.2).flatMap Pk
structure ah(p q:Prop):Prop where
 h:p
 o:q
def FE(tbl:TT)(rs:List ResultVar)(H0:HM)(ss:List SV)(outs:List (Option (List CV)))(r:SV):X→TM→HM→Nat→Prop
 | .exit _,_,_,_=>False
 |_,T,H,_=>pX tbl rs T H fun l=>cond (fD (vT H (oI l)++AM H ss outs)&&Cm H0 H ss outs) (match BT H (oI l) with|some s=>ah (s=r) (I8 H ss outs)|none=>False) False
section
variable{P:Program}{tbl:TT}
def tj(tmps:Array Value):ResultVar→Sem Value
 | .tmp t=>pure (tmps.getD t undef)
 | .cell a t=>do loadVar t (←asAddr (tmps.getD a undef))
theorem oU(dd:dK P tbl){Γ:Cx}{nt:Nat}{T:TM}{H:HM}{ρ:RM}{F:FM}{a:Act}{w:World}(hS:St Γ nt T H ρ F a w):∀(rs:List ResultVar) {K:List SV→Prop},pX tbl rs T H K→
 ∃l vs,K l∧(rs.mapM (tj a.tmps)).run P w= .ok vs w∧l.length=vs.length∧∀(j:Nat) s v,l[j]? =some s→vs[j]? =some v→aZ ρ w (aO Γ F w) s v
 |[],K,h=>⟨[],[],h,by simp,rfl,by simp⟩
 | .tmp t::rs,K,h=>by
   obtain⟨l,vs,hK,hr,hl,hv⟩:=oU dd hS rs h
   refine⟨_,a.tmps.getD t undef::vs,hK,by simp[List.mapM_cons,tj,hr],by simp[hl],fun j s v hs hv'=> ?_⟩
   cases j with
   |zero=>
    simp only[List.getElem?_cons_zero,Option.some.injEq] at hs hv'
    subst hs hv'
    exact hS.tmps t
   |succ j=>exact hv j s v (by simpa using hs) (by simpa using hv')
 | .cell t ty::rs,K,h=>by
   obtain⟨sv,v,h',hrun,hT⟩:=mi (hS.mem.hb (lZ.refl H)) dd h (hS.tmps t)
   obtain⟨l,vs,hK,hr,hl,hv⟩:=oU dd hS rs h'
   have hload:(tj a.tmps (.cell t ty)).run P w= .ok v w:=by
    unfold tj
    have:∃ad,a.tmps.getD t undef= .pointer (some ad):=by
        unfold Instr.loadAt at hrun
        generalize a.tmps.getD t undef=x at hrun
        cases x<;>first|(simp[Instr.sureAddr] at hrun;done)|skip
        rename_i p
        cases p with
        |none=>simp[Instr.sureAddr] at hrun
        |some ad=>exact⟨ad,rfl⟩
    obtain⟨ad,had⟩:=this
    simp only[had] at hrun⊢
    simpa[Instr.loadAt,Instr.sureAddr,asAddr] using hrun
   refine⟨_,v::vs,hK,by rw[List.mapM_cons];simp[hload,hr],by simp[hl],fun j s u hs hu=> ?_⟩
   cases j with
   |zero=>
    simp only[List.getElem?_cons_zero,Option.some.injEq] at hs hu
    subst hs hu
    exact hT
   |succ j=>exact hv j s u (by simpa using hs) (by simpa using hu)
theorem oD(dd:dK P tbl){Γ:Cx}{nt:Nat}{T:TM}{H:HM}{ρ:RM}{F:FM}{a:Act}{w:World}(hS:St Γ nt T H ρ F a w){fn:Func}{K:List SV→Prop}(h:pX tbl fn.results.toList T H K):
 ∃(l:List SV) (vs:List Value),K l∧(results fn a.tmps).run P w= .ok (if h:vs.toArray.size=1 then vs.toArray[0] else .tuple vs.toArray) w∧l.length=vs.length∧∀(j:Nat) s v,l[j]? =some s→vs[j]? =some v→aZ ρ w (aO Γ F w) s v:=by
 obtain⟨l,vs,hK,hr,hl,hv⟩:=oU dd hS _ h
 refine⟨l,vs,hK, ?_,hl,hv⟩
 have hrun:(fn.results.mapM (tj a.tmps)).run P w= .ok vs.toArray w:=by
  rw[Array.mapM_eq_mapM_toList]
  simp[hr]
 have:results fn a.tmps=(do let vs←fn.results.mapM (tj a.tmps);pure (if h:vs.size=1 then vs[0] else .tuple vs)):=by
  unfold results
  congr 1
 rw[this,Sem.run_bind,hrun]
 rfl
end
section
variable{w:World}{ok okv:Nat→Prop}{ρ:RM}{H:HM}{F:FM}
theorem NP{x:CV}{v:Value}{f:List Nat}(h:pT w ok (.c x) v f):jm w ok (.c x) v f:=by
 cases h with
 |v h=>exact .v h
 |o h=>exact .o h
theorem KX{k o:Nat}{s':SV}(h:jf H (.lp k o)=some s'):∃x,s'= .c x:=by
 unfold jf at h
 simp only at h
 split at h
 ·cases hb:Nat.beq o 0<;>rw[hb] at h
  ·cases h
  ·injection h with h;exact⟨_,h.symm⟩
 ·cases hb:Nat.beq o 0<;>rw[hb] at h
  ·cases h
  ·simp only[cond] at h
   split at h
   ·injection h with h;exact⟨_,h.symm⟩
   ·cases h
 ·cases hb:Nat.beq o 0<;>rw[hb] at h
  ·cases h
  ·injection h with h;exact⟨_,h.symm⟩
 ·cases h
theorem uL(hB:∀i,H i= .dead∨dg ρ w ok (H i) (ρ i) (F i)){s s':SV}{v:Value}(h:qa H s=some s')(hd:dX ρ w ok s v):jm w ok s' v ((qk H s).flatMap F):=by
 unfold qa at h
 split at h
 ·split at h
  ·rename_i l hl
   injection h with h
   subst h
   cases hd with
   |c hd=>cases hd
   |m hlen hh=>exact .a rfl (by simpa[qk] using ml hB hl hlen hh)
  ·cases h
 ·injection h with h
  subst h
  cases hd with
  |c hd=>cases hd
  |a hlen hd=>exact .a hlen (by simpa[qk,gy] using hd)
 ·rename_i k o
  have h1:=uJ hB (fun _ h=>h) h (.v hd)
  obtain⟨x,rfl⟩:=KX h
  exact NP h1
 ·rename_i k caps
  split at h
  case h_2=>cases h
  rename_i hc
  injection h with h
  subst h
  have:=ql (s:= .clo k caps) (fun _ h=>h) hc hd
  simpa[qk,gy] using jm.v this
 ·cases h
 ·cases h
 ·rename_i n1 n2 n3 n4 n5 n6
  split at h
  ·rename_i x hx
   injection h with h
   subst h
   have hc:bJ ρ w ok s v:=by
        cases hd with
        |c hd=>exact hd
        |a _ _=>exact(n2 _ _ rfl).elim
        |m _ _=>exact(n1 _ rfl).elim
        |clo _ _=>exact(n4 _ _ rfl).elim
   have hu:qk H s=gy s:=by cases s<;>first|rfl|exact(n1 _ rfl).elim|exact(n3 _ _ rfl).elim
   rw[hu]
   exact .o (iU hB hx hc)
  ·cases h
theorem sV(hB:∀i,H i= .dead∨dg ρ w ok (H i) (ρ i) (F i)):∀{ss ss':List SV} {vs:List Value},l8 (qa H) ss=some ss'→ss.length=vs.length→(∀(j:Nat) s v,ss[j]? =some s→vs[j]? =some v→dX ρ w ok s v)→OL w ok ss' vs ((ss.flatMap (qk H)).flatMap F)
 |[],ss',vs,h,hl,_=>by
  simp[l8] at h
  subst h
  cases vs with
  |nil=>simpa using OL.nil
  |cons _ _=>simp at hl
 |s::ss,ss',vs,h,hl,hd=>by
  cases vs with
  |nil=>simp at hl
  |cons v vs=>
   simp only[l8] at h
   split at h
   ·rename_i y ys hy hys
    injection h with h
    subst h
    have h1:=uL hB hy (hd 0 _ _ rfl rfl)
    have h3:=sV hB hys (by simpa using hl) fun j s v hs hv=>hd (j+1) s v hs hv
    have:=OL.cons h1 h3
    simpa using this
   ·cases h
theorem CF(hB:∀i,H i= .dead∨dg ρ w ok (H i) (ρ i) (F i)){s r:SV}{v:Value}(h:BT H s=some r)(hd:aZ ρ w ok s v):OT w ok r v ((vT H s).flatMap F):=by
 unfold BT at h
 split at h
 ·split at h
  ·rename_i l hl
   injection h with h
   subst h
   cases hd with
   |v hd=>cases hd with|c hd=>cases hd
   |tup hlen hh=>exact .tup (sV hB hl hlen hh)
  ·cases h
 ·injection h with h
  subst h
  cases hd with
  |any=>simpa[vT,qk,gy] using OT.any
  |v hd=>cases hd with|c hd=>cases hd
 ·rename_i hne hna
  have hu:vT H s=qk H s:=by cases s<;>first|rfl|exact(hne _ rfl).elim
  rw[hu]
  cases hd with
  |any=>exact(hna rfl).elim
  |v hd=>exact .v (uL hB h hd)
  |tup _ _=>exact(hne _ rfl).elim
theorem nV{Hv:HM}(hB:∀i,H i= .dead∨dg ρ w ok (H i) (ρ i) (F i))(hok:∀b,ok b→okv b)(hF:∀i,H i≠ .dead→∀b∈F i,okv b):∀{ss ss':List SV} {vs:List Value},l8 (gN H) ss=some ss'→ss.length=vs.length→(∀(j:Nat) s v,ss[j]? =some s→vs[j]? =some v→dX ρ w ok s v)→OL w okv ss' vs []
 |[],ss',vs,h,hl,_=>by
  simp[l8] at h
  subst h
  cases vs with
  |nil=>exact OL.nil
  |cons _ _=>simp at hl
 |s::ss,ss',vs,h,hl,hd=>by
  cases vs with
  |nil=>simp at hl
  |cons v vs=>
   simp only[l8] at h
   split at h
   ·rename_i y ys hy hys
    injection h with h
    subst h
    have h1:jm w okv y v []:= .v (mc hB hok hF hy (hd 0 _ _ rfl rfl))
    have h3:=nV (Hv:=Hv) hB hok hF hys (by simpa using hl) fun j s v hs hv=>hd (j+1) s v hs hv
    have:=OL.cons h1 h3
    simpa using this
   ·cases h
theorem Kv{s:SV}{v:Value}(h:jm w ok s v []):jm w ok (aM s) v []:=by
 cases h with
 |v h=>exact .v fun ρ=>CP (h ρ)
 |o h=>
  rename_i x
  cases x<;>first|exact .o h|skip
  rw[nQ h]
  exact .o (mk_val rfl)
 |a hl h=>exact .a hl h
theorem Gp:∀{ss:List SV} {vs:List Value},OL w ok ss vs []→OL w ok (ss.map aM) vs []
 |[],vs,h=>by cases h;exact .nil
 |s::ss,vs,h=>by
  generalize hf:([]:List Nat)=f at h
  cases h with
  |cons h ht=>
   rename_i v fs vs gs
   have h1:fs=[]:=by cases fs with|nil=>rfl|cons _ _=>simp at hf
   subst h1
   simp at hf
   subst hf
   have:=OL.cons (Kv h) (Gp ht)
   simpa using this
theorem Mw{s:SV}{v:Value}(h:OT w ok s v []):OT w ok (aN s) v []:=by
 generalize hf:([]:List Nat)=f at h
 cases h with
 |any=>exact .any
 |v h=>
  subst hf
  refine .v ?_
  have:aN s=aM s:=by
    cases s<;>first|rfl|skip
    cases h with
    |v h=>cases h (fun _=>none) with|c h=>cases h
  rw[this]
  exact Kv h
 |tup h=>subst hf;exact .tup (Gp h)
theorem xK:∀cs:List CV,qY (cs.map SV.c)=some cs
 |[]=>rfl
 |c::cs=>by simp only[List.map_cons,qY,xK cs]
theorem zl(cs:List CV):mN (.m (cs.map .c))=cs:=by simp only[mN,xK]
theorem wk{s x:SV}(h:jf H s=some x):(∃c,x= .c c)∨∃cs:List CV,x= .m (cs.map .c):=by
 have hc:∀{b:Bool} {o:Option SV},cond b o none=some x→o=some x:=by
  intro b o hb
  cases b with
  |true=>exact hb
  |false=>cases hb
 unfold jf at h
 split at h
 ·split at h
  ·injection h with h;exact .inl ⟨_,h.symm⟩
  ·cases h
 ·split at h
  ·have h:=hc h;injection h with h;exact .inl ⟨_,h.symm⟩
  ·have h:=hc h
   split at h
   ·injection h with h;exact .inl ⟨_,h.symm⟩
   ·cases h
  ·have h:=hc h;injection h with h;exact .inl ⟨_,h.symm⟩
  ·cases h
 ·split at h
  ·injection h with h;exact .inr ⟨_,h.symm⟩
  ·cases h
 ·cases h
theorem tx:∀{cs cs0:List SV} {i m o:Nat},mv cs cs0=true→cs[i]? =some (.lp m o)→cs0[i]? =some (.lp m o)
 |[],_,i,m,o,_,h=>by simp at h
 |c::cs,cs0,i,m,o,hk,h=>by
  cases i with
  |zero=>
   simp at h
   subst h
   cases cs0 with
   |nil=>simp[mv] at hk
   |cons c0 cs0=>
    cases c0<;>simp only[mv] at hk<;>first|cases hk|skip
    simp only[Bool.and_eq_true] at hk
    rw[Nat.eq_of_beq_eq_true hk.1,Nat.eq_of_beq_eq_true hk.2.1]
    rfl
  |succ i=>
   have h':cs[i]? =some (.lp m o):=by simpa using h
   cases cs0 with
   |nil=>
    have hk':mv cs []=true:=by cases c<;>simp only[mv] at hk<;>first|exact hk|cases hk
    have:=tx hk' h'
    simp at this
   |cons c0 cs0=>
    have hk':mv cs cs0=true:=by
     cases c<;>simp only[mv] at hk<;>first|exact hk|skip
     cases c0<;>simp only[Bool.and_eq_true] at hk<;>first|exact hk.2.2|cases hk
    have:=tx hk' h'
    simpa using this
theorem y6{H0 H:HM}:∀{ss:List SV} {os:List (Option (List CV))} {j k o:Nat} {x:Option (List CV)} {cs:List SV},Cm H0 H ss os=true→ss[j]? =some (.lp k o)→os[j]? =some x→H k= .cells cs→mv cs (nK (H0 k))=true
 |[],os,j,k,o,x,cs,h,hs,ho,hk=>by simp at hs
 |s::ss,[],j,k,o,x,cs,h,hs,ho,hk=>by simp at ho
 |s::ss,y::os,j,k,o,x,cs,h,hs,ho,hk=>by
  simp only[Cm,Bool.and_eq_true] at h
  cases j with
  |zero=>
   simp at hs
   subst hs
   have:=h.1
   simpa[hk] using this
  |succ j=>exact y6 h.2 (by simpa using hs) (by simpa using ho) hk
theorem DB{f:SV→Option CV}:∀{cs:List SV} {l:List CV} {i:Nat} {x:CV},gq f cs=some l→l[i]? =some x→∃s,cs[i]? =some s∧f s=some x
 |[],l,i,x,h,hx=>by simp[gq] at h;subst h;simp at hx
 |c::cs,l,i,x,h,hx=>by
  simp only[gq] at h
  split at h
  ·rename_i y ys hy hys
   injection h with h
   subst h
   cases i with
   |zero=>simp at hx;subst hx;exact⟨c,rfl,hy⟩
   |succ i=>simpa using DB hys (by simpa using hx)
  ·cases h
theorem pG:∀{cs:List CV} {vs:List Value} {i:Nat} {x:List CV},Den w ok cs vs []→cs[i]? =some (.op x)→False
 |[],vs,i,x,_,h=>by simp at h
 |c::cs,vs,i,x,hd,h=>by
  generalize hf:([]:List Nat)=f at hd
  cases i with
  |zero=>
   simp at h
   subst h
   cases hd
   simp at hf
  |succ i=>
   have h':cs[i]? =some (.op x):=by simpa using h
   cases hd<;>first
        |(subst hf;exact pG (by assumption) h')
        |(simp at hf;simp only[hf.2] at*;exact pG (by assumption) h')
        |(simp at hf;done)
        |(have hf2:=List.append_eq_nil_iff.1 hf.symm;rw[hf2.2] at*;exact pG (by assumption) h')
theorem uF{w0:World}{ok0:Nat→Prop}{ρ0:RM}{H0:HM}{F0:FM}(hB0:∀i,H0 i= .dead∨dg ρ0 w0 ok0 (H0 i) (ρ0 i) (F0 i))(hB:∀i,H i= .dead∨dg ρ w ok (H i) (ρ i) (F i)){s:SV}{v:Value}{l:List CV}
 (h0:aZ ρ0 w0 ok0 s v)(h1:aZ ρ w ok s v)(hl:(jf H s).map mN=some l)(hk:∀k o cs,s= .lp k o→H k= .cells cs→mv cs (nK (H0 k))=true)
 (hp:∀k o m,s= .lp k o→m∈(nK (H0 k)).flatMap Pk→ρ m=ρ0 m):A7 w0 w v l:=by
 rintro cells rfl b ty ty' arr arr' rfl hw0 hw i x hx
 cases s<;>simp only[jf] at hl
 case c=>cases hl
 case a=>cases hl
 case clo=>cases hl
 case any=>cases hl
 case tup=>cases hl
 case le=>cases hl
 case ls=>cases hl
 case mp=>cases hl
 case m ss=>cases h1 with|v h=>cases h with|c h=>cases h
 case lw k=>cases h1 with|v h=>cases h with|c h=>cases h
 case lp k off=>
  obtain⟨b0,e0,e1⟩:=rZ h0
  obtain⟨b1,e2,e3⟩:=rZ h1
  simp only[Value.pointer.injEq,Option.some.injEq,Addr.mk.injEq,and_true] at e1 e3
  obtain⟨rfl,rfl⟩:=e1
  obtain⟨rfl,_⟩:=e3
  cases hH:H k with
  |cc sz cs=>
   simp only[hH,cond,Option.map_some,mN,Option.some.injEq,List.cons.injEq,CV.op.injEq,and_true] at hl
   subst hl
   obtain⟨b2,ty2,arr2,q1,q2,_,q4,_⟩:=Bx hB hH
   exact(pG q4 hx).elim
  |cells cs=>
   simp only[hH,cond] at hl
   cases hm:gq (lJ H) cs with
   |none=>rw[hm] at hl;simp at hl
   |some l0=>
    rw[hm] at hl
    simp only[Option.map_some,mN,Option.some.injEq,List.cons.injEq,CV.op.injEq,and_true] at hl
    subst hl
    obtain⟨c,hc,hcx⟩:=DB hm hx
    obtain⟨b2,ty2,arr2,q1,q2,q3,q4,_⟩:=kH hB hH
    rw[e2] at q1
    simp only[Option.some.injEq,Value.pointer.injEq,Addr.mk.injEq,and_true] at q1
    subst q1
    rw[hw] at q2
    simp only[Option.some.injEq,Obj.cells.injEq] at q2
    obtain⟨rfl,_⟩:=q2
    have hi:i<arr'.toList.length:=by rw[←q3];exact(List.getElem?_eq_some_iff.1 hc).1
    have hv:=List.getElem?_eq_getElem hi
    have hcd:=q4 i c _ hc hv
    have hlp:∃m o,c= .lp m o:=by
         cases c with
         |lp m o=>exact⟨m,o,rfl⟩
         |c y=>
          exfalso
          revert hcd
          generalize arr'.toList[i]=u
          intro hcd
          cases hcd with
          |c hd=>
           cases y with
           |op is=>cases hd
           |_=>simp[lJ,r5,iy] at hcx
         |lw k2=>
          exfalso
          simp only[lJ,r5,iy] at hcx
          split at hcx
          ·cases hcx
          ·split at hcx<;>cases hcx
         |ls k2 a1 a2 a3=>
          exfalso
          simp only[lJ,r5,iy] at hcx
          split at hcx
          ·rename_i sz' _ _
           cases hb:Nat.beq a1 sz'<;>rw[hb] at hcx<;>cases hcx
          ·cases hcx
         |_=>simp[lJ,r5,iy] at hcx
    obtain⟨m,o,rfl⟩:=hlp
    have hg:=tx (hk k 0 cs rfl hH) hc
    obtain⟨cs0,hH0⟩:∃cs0,H0 k= .cells cs0:=by
         cases h:H0 k<;>rw[h] at hg<;>first|exact⟨_,rfl⟩|(simp[nK] at hg)
    rw[hH0] at hg
    obtain⟨b3,ty3,arr3,p1,p2,p3,p4,_⟩:=kH hB0 hH0
    rw[e0] at p1
    simp only[Option.some.injEq,Value.pointer.injEq,Addr.mk.injEq,and_true] at p1
    subst p1
    rw[hw0] at p2
    simp only[Option.some.injEq,Obj.cells.injEq] at p2
    obtain⟨rfl,_⟩:=p2
    have hi0:i<arr.toList.length:=by rw[←p3];exact(List.getElem?_eq_some_iff.1 hg).1
    have hv0:=List.getElem?_eq_getElem hi0
    have hcd0:=p4 i _ _ hg hv0
    rw[hv,hv0]
    have hpm:=hp k 0 m rfl (by rw[hH0];exact List.mem_flatMap.2 ⟨_,List.mem_of_getElem? hg,by simp[Pk]⟩)
    generalize arr'.toList[i]=u at hcd
    generalize arr.toList[i]=u0 at hcd0
    cases hcd with
    |lp g1=>
    cases hcd0 with
    |lp g2=>
    rw[hpm,g2] at g1
    simp only[Option.some.injEq,Value.pointer.injEq,Addr.mk.injEq,and_true] at g1
    rw[g1]
  |ig t e s0=>simp only[hH,cond,Option.map_some,mN,Option.some.injEq,List.cons.injEq,and_true] at hl;cases hl
  |_=>simp only[hH] at hl;cases hl
theorem El{w0:World}{ok0:Nat→Prop}{ρ0:RM}{H0:HM}{F0:FM}(hB0:∀i,H0 i= .dead∨dg ρ0 w0 ok0 (H0 i) (ρ0 i) (F0 i))(hB:∀i,H i= .dead∨dg ρ w ok (H i) (ρ i) (F i)){s:SV}{v:Value}{l:List CV}
 (h0:aZ ρ0 w0 ok0 s v)(h1:aZ ρ w ok s v)(hl:(m8 H s).map mN=some l)(hk:∀k o cs,s= .lp k o→H k= .cells cs→mv cs (nK (H0 k))=true)
 (hp:∀k o m,s= .lp k o→m∈(nK (H0 k)).flatMap Pk→ρ m=ρ0 m):A7 w0 w (kS v) l:=by
 by_cases hs:∃k off,s= .lp k off
 ·obtain⟨k,off,rfl⟩:=hs
  have hl':(jf H (.lp k 0)).map mN=some l:=by
   cases off with
   |zero=>exact hl
   |succ o=>
    simp only[m8] at hl
    simp only[jf]
    cases hH:H k with
    |cc sz cs=>rw[hH] at hl;exact hl
    |cells cs=>
     rw[hH] at hl
     simp only at hl
     cases hm:gq (lJ H) cs with
     |none=>rw[hm] at hl;cases hl
     |some l0=>rw[hm] at hl;simp only[hm];exact hl
    |_=>rw[hH] at hl;cases hl
  obtain⟨b,e0,rfl⟩:=rZ h0
  have h1':aZ ρ w ok (.lp k 0) (.pointer (some ⟨b,0,none⟩)):=by
   obtain⟨b1,e2,e3⟩:=rZ h1
   cases e3
   exact .v (.c (.lp e2))
  exact uF hB0 hB (.v (.c (.lp e0))) h1' hl' (fun k' o cs e hc=>by cases e;exact hk k off cs rfl hc) (fun k' o m e hm=>by cases e;exact hp k off m rfl hm)
 ·have e:m8 H s=jf H s:=by cases s<;>first|rfl|exact(hs ⟨_,_,rfl⟩).elim
  rw[e] at hl
  have hv:kS v=v:=by
   unfold kS
   split
   ·exfalso
    cases s<;>simp only[jf] at hl
    case lp k off=>exact hs ⟨_,_,rfl⟩
    case m ss=>cases h1 with|v h=>cases h with|c h=>cases h
    case lw k=>cases h1 with|v h=>cases h with|c h=>cases h
    all_goals cases hl
   ·rfl
  rw[hv]
  exact uF hB0 hB h0 h1 hl hk hp
theorem Fq{s x:SV}(h:m8 H s=some x):jf H s=some x∨∃cs o,x= .tup [.c (.op cs), .lp 0 o]:=by
 unfold m8 at h
 split at h
 ·split at h
  ·injection h with h;exact .inr ⟨_,_,h.symm⟩
  ·split at h
   ·injection h with h;exact .inr ⟨_,_,h.symm⟩
   ·cases h
  ·cases h
 ·exact .inl h
theorem Eb{s x:SV}{v:Value}(h:jf H s=some x)(hd:aZ ρ w ok s v):kS v=v:=by
 cases s<;>simp only[jf] at h
 case lp k off=>
  have:off=0:=by
   cases off with
   |zero=>rfl
   |succ o=>exfalso;revert h;cases H k<;>simp[cond,Nat.beq]
  subst this
  obtain⟨b,_,rfl⟩:=rZ hd
  rfl
 case lw k=>
  obtain⟨_,a,n,c,rfl⟩:=rD hd
  rfl
 case m ss=>cases hd with|v h=>cases h with|c h=>cases h|m _ _=>rfl
 all_goals cases h
theorem qQ{w0:World}(hB:∀i,H i= .dead∨dg ρ w ok (H i) (ρ i) (F i)):∀{ss:List SV} {os:List (Option (List CV))} {vs:List Value},I8 H ss os→ss.length=vs.length→(∀(j:Nat) s v,ss[j]? =some s→vs[j]? =some v→aZ ρ w ok s v)→
 (∀(j:Nat) s v cs,ss[j]? =some s→vs[j]? =some v→os[j]? =some (some cs)→(m8 H s).map mN=some cs→A7 w0 w (kS v) cs)→kz w0 w ok os vs ((AM H ss os).flatMap F)
 |ss,[],vs,_,_,_,_=>by
  have:AM H ss []=[]:=by cases ss<;>rfl
  rw[this]
  exact .nil
 |[],o::os,vs,h,_,_,_=>h.elim
 |s::ss,none::os,vs,h,hl,hd,hk=>by
  cases vs with
  |nil=>simp at hl
  |cons v vs=>exact .none (qQ hB h (by simpa using hl) (fun j s v hs hv=>hd (j+1) s v hs hv) fun j s v cs hs hv ho hc=>hk (j+1) s v cs hs hv ho hc)
 |s::ss,some c::os,vs,h,hl,hd,hk=>by
  cases vs with
  |nil=>simp at hl
  |cons v vs=>
   have h0:=hd 0 s v rfl rfl
   have h2:=qQ hB h.2 (by simpa using hl) (fun j s v hs hv=>hd (j+1) s v hs hv) fun j s v cs hs hv ho hc=>hk (j+1) s v cs hs hv ho hc
   have h3:Den w ok c (kS v).cells.toList ((ef H s).flatMap F):=by
        have h4:=h.1
        cases hx:m8 H s with
        |none=>rw[hx] at h4;cases h4
        |some x=>
         rw[hx] at h4
         simp only[Option.map_some,Option.some.injEq] at h4
         subst h4
         have h1:=uV hB (fun _ h=>h) hx h0
         generalize(ef H s).flatMap F=g at h1
         rcases Fq hx with hx|⟨cs,o,rfl⟩
         ·rw[Eb hx h0]
          cases h1 with
          |v h=>
           obtain⟨_,cc,cm,_⟩:=kT (aZ.v (h ρ))
           rcases wk hx with⟨y,rfl⟩|⟨cs,rfl⟩
           ·exact cc y rfl
           ·have hp:=cm _ rfl
            rw[zl]
            exact(jO (xK cs) hp.1 hp.2).1
          |o h=>have:=h.one;rw[kL (this v (by simp))];exact h
          |m h=>rw[zl];simpa[Value.cells] using h
          |off h=>rcases wk hx with⟨y,h⟩|⟨cs,h⟩<;>cases h
         ·cases h1 with
          |v h=>cases h ρ with|c h=>cases h
          |off h=>exact h
   have:=kz.some h3 (hk 0 s v c rfl rfl rfl h.1) h2
   simpa[AM] using this
end
section
variable{P:Program}{tbl:TT}
theorem enter{w:World}{ok:Nat→Prop}{args ss:List SV}{vs:List Value}{fs:List Nat}{bs:List (Nat × dD)}{np nt:Nat}(hok:∀b,ok b→b<w.heap.size)(hO:AL w ok args vs fs)(hnd:fs.Nodup)(hfs:∀b∈fs,b<w.heap.size∧¬ok b)
 (ha:fw args 0=some (ss,bs,np))(hn:args.length≤nt):∃(pv:RM) (F:FM),(∀i v,pv i=some v→i<np)∧ss.length=vs.length∧gu pv np∧(∀(j:Nat) s v,ss[j]? =some s→vs[j]? =some v→dX pv w ok s v)∧
  St ⟨w,ok,(· ∈fs),pv⟩ nt (T0 ss) (H0 bs) pv F {tmps:=vs.toArray++Array.replicate (nt-vs.toArray.size) undef,defers:=[]} w:=by
 obtain⟨L,g,a1,a2,a3,a4,a5⟩:=qj ha hO
 let Γ:Cx:=⟨w,ok,(· ∈fs),mM L fun _=>none⟩
 have hnd':=a3.nodup
 have hR:∀e∈L,mM L (fun _=>none) e.nm=e.v:=by
  intro e he
  rw[(fY hnd' he (fun _=> .dead) (fun _=>[]) (fun _=>none)).2.2]
  obtain⟨u,hu,_⟩:=a3.den e he
  simp[lY,hu]
 have hmem0:Mem ⟨w,ok,(· ∈fs),fun _=>none⟩ (fun _=> .dead) (fun _=>none) (fun _=>[]) w:=
  ⟨fun _=> .dead,by simp,by simp,by simp,by simp,fun b hb=>⟨hok b hb,fun hf=>(hfs b hf).2 hb⟩,fun _ _ _=>rfl,Nat.le_refl _,rfl,rfl,rfl,by simp⟩
 have hg:∀b∈g,b∈fs:=fun b hb=>a4.subset hb
 have hin:∀e∈L,∀b∈e.f,b∈fs:=fun e he b hb=>hg b (by rw[←a3.flat];exact List.mem_flatten.2 ⟨e.f,List.mem_map.2 ⟨e,he,rfl⟩,hb⟩)
 have hF:∀i b,b∈ou L (fun _=>[]) i→∃e∈L,e.nm=i∧b∈e.f:=by
  intro i b hb
  by_cases hI:∃e∈L,e.nm=i
  ·obtain⟨e,he,rfl⟩:=hI
   rw[(fY hnd' he (fun _=> .dead) (fun _=>[]) (fun _=>none)).2.1] at hb
   exact⟨e,he,rfl,hb⟩
  ·rw[(kF (fun e he h'=>hI ⟨e,he,h'⟩) (fun _=> .dead) (fun _=>[]) (fun _=>none)).2.1] at hb
   cases hb
 have hflat:((L.map (·.f)).flatten).Nodup:=by rw[a3.flat];exact a4.nodup_iff.2 hnd
 have hokF:∀b,ok b→aO Γ (ou L fun _=>[]) w b:=fun b hb=>⟨hok b hb, .inl hb,fun⟨i,hi⟩=>by
  obtain⟨e,he,_,hbe⟩:=hF i b hi
  exact(hfs b (hin e he b hbe)).2 hb⟩
 have hnone:∀i,(∀e∈L,e.nm≠i)→wW L (fun _=> .dead) i= .dead∧ou L (fun _=>[]) i=[]∧mM L (fun _=>none) i=none:=fun i h=>kF h _ _ _
 have hpv:∀i v,mM L (fun _=>none) i=some v→i<np:=by
  intro i v hv
  by_cases hI:∃e∈L,e.nm=i
  ·obtain⟨e,he,rfl⟩:=hI
   have:=a3.mem he
   omega
  ·rw[(hnone i fun e he h'=>hI ⟨e,he,h'⟩).2.2] at hv
   cases hv
 have hmem:Mem Γ (wW L fun _=> .dead) (mM L fun _=>none) (ou L fun _=>[]) w:=by
  refine⟨fun i=> ?_,fun i j b hi hj=> ?_,fun i=> ?_,fun i b hb=> ?_,fun i b hb=> ?_,fun b hb=>⟨hok b hb,fun hf=>(hfs b hf).2 hb⟩,fun _ _ _=>rfl,Nat.le_refl _,rfl,rfl,rfl,fun i v hv=>hv⟩
  ·by_cases hI:∃e∈L,e.nm=i
   ·obtain⟨e,he,rfl⟩:=hI
    obtain⟨h1,h2,_⟩:=fY hnd' he (fun _=> .dead) (fun _=>[]) (fun _=>none)
    obtain⟨u,hu,hd⟩:=a3.den e he
    rw[h1,h2,hR e he,hu]
    exact(hd _ hR).mono (fun _ _=>rfl) hokF (fun _ _=>rfl) (Ext.refl _)
   ·obtain⟨h1,h2,h3⟩:=hnone i fun e he h'=>hI ⟨e,he,h'⟩
    rw[h1,h2]
    exact .dead
  ·obtain⟨e,he,rfl,hbe⟩:=hF i b hi
   obtain⟨e',he',rfl,hbe'⟩:=hF j b hj
   exact tI hflat hnd' he he' hbe hbe'
  ·by_cases hI:∃e∈L,e.nm=i
   ·obtain⟨e,he,rfl⟩:=hI
    rw[(fY hnd' he (fun _=> .dead) (fun _=>[]) (fun _=>none)).2.1]
    exact tR hflat he
   ·rw[(hnone i fun e he h'=>hI ⟨e,he,h'⟩).2.1];simp
  ·obtain⟨e,he,rfl,hbe⟩:=hF i b hb
   exact(hfs b (hin e he b hbe)).1
  ·obtain⟨e,he,rfl,hbe⟩:=hF i b hb
   exact .inl (hin e he b hbe)
 obtain⟨h5,h6⟩:=a5 _ hR
 have hlen:args.length=vs.length:=hO.length
 refine⟨mM L fun _=>none,ou L fun _=>[],fun i v hv=>hpv i v hv,h5,fun i hi=> ?_,fun j s v hs hv=> ?_, ?_⟩
 ·cases hv:mM L (fun _=>none) i with
  |none=>rfl
  |some v=>have:=hpv i v hv;omega
 ·exact h6 j s v hs hv
 ·refine⟨?_,rfl,by simp;omega,fun i=> ?_⟩
  ·rw[nz,a1] at hmem
   exact hmem
  ·unfold T0
   cases ha:ss[i]? with
   |none=>exact .any
   |some s=>
    have hi:i<vs.length:=by rw[←h5];exact(List.getElem?_eq_some_iff.1 ha).1
    have hvi:vs[i]? =some vs[i]:=List.getElem?_eq_getElem hi
    have:(vs.toArray++Array.replicate (nt-vs.toArray.size) undef).getD i undef=vs[i]:=by
     rw[Array.getD_eq_getD_getElem?,Array.getElem?_append_left (by simpa using hi)]
     simp[hi]
    simp only[]
    rw[this]
    exact .v ((h6 i s _ ha hvi).mono (fun _ _=>rfl) hokF (Ext.refl _))
theorem JG{w w':World}{ok:Nat→Prop}{fs:List Nat}{pv:RM}{F:FM}{fp:List Nat}{ks:List Nat}(hfp:fp=ks.flatMap F):∀b,aO ⟨w,ok,(· ∈fs),pv⟩ F w' b→xL ok fs fp w w' b:=by
 rintro b ⟨h1,h2,h3⟩
 refine⟨h1,h2,fun hb=> ?_⟩
 rw[hfp] at hb
 obtain⟨i,_,hi⟩:=List.mem_flatMap.1 hb
 exact h3 ⟨i,hi⟩
theorem BR{w w':World}{ok:Nat→Prop}{fs:List Nat}{pv:RM}{H:HM}{ρ:RM}{F:FM}(h:Mem ⟨w,ok,(· ∈fs),pv⟩ H ρ F w'):Grown fs w w':=
 ⟨h.os,h.tape,h.output,h.size,fun b hb hf=>h.frame b hb hf⟩
theorem GG{l:List SV}{vs:List Value}{ρ:RM}{w:World}{ok:Nat→Prop}(hl:l.length=vs.length)(hv:∀(j:Nat) s v,l[j]? =some s→vs[j]? =some v→aZ ρ w ok s v)(hV:(∃x,l=[x])∨∀(j:Nat) s v,l[j]? =some s→vs[j]? =some v→dX ρ w ok s v):
 aZ ρ w ok (oI l) (if h:vs.toArray.size=1 then vs.toArray[0] else .tuple vs.toArray):=by
 match l,vs,hl with
 |[],[],_=>exact .tup (vs:=[]) rfl (by simp)
 |[x],[v],_=>exact hv 0 x v rfl rfl
 |x::y::l,v::u::vs,hl'=>
  rcases hV with⟨z,hz⟩|hV
  ·simp at hz
  ·have:=aZ.tup (ρ:=ρ) (w:=w) (ok:=ok) hl' hV
   simpa[oI] using this
def JL:List Nat→Nat→Nat
 |[],m=>m
 |x::xs,m=>JL xs (Nat.lor m (Nat.pow 2 x))
def ta:List Nat→Nat→(Nat→Prop)→Prop
 |[],m,K=>K m
 |x::xs,m,K=>lit x fun x=>lit (Nat.lor m (Nat.pow 2 x)) fun m=>ta xs m K
theorem Ao:∀(l:List Nat) (m:Nat) (K:Nat→Prop),ta l m K=K (JL l m)
 |[],_,_=>rfl
 |x::xs,m,K=>by simp only[ta,D3,JL];exact Ao xs _ K
theorem DN{i:Nat}:∀{l:List Nat} {m:Nat},(i∈l∨m.testBit i=true)→(JL l m).testBit i=true
 |[],m,h=>by
  rcases h with h|h
  ·cases h
  ·exact h
 |x::xs,m,h=>by
  refine DN (l:=xs) ?_
  rcases h with h|h
  ·rcases List.mem_cons.1 h with rfl|h
   ·right
    rw[pz]
    have:(Nat.pow 2 i).testBit i=true:=Nat.testBit_two_pow_self
    rw[this,Bool.or_true]
   ·exact .inl h
  ·right
   rw[pz,h];rfl
def OY(ss:List SV)(bs:List (Nat × dD)):Nat:=JL (rS ss bs) 0
def vr(l:List Nat)(ρ:RM):RM:=fun i=>if i∈l then ρ i else none
theorem tf{l:List Nat}{ρ:RM}{i:Nat}{v:Value}(h:vr l ρ i=some v):i∈l∧ρ i=some v:=by
 unfold vr at h
 split at h
 ·exact⟨by assumption,h⟩
 ·cases h
theorem pB{l:List Nat}{ρ:RM}{i:Nat}(h:i∈l):vr l ρ i=ρ i:=if_pos h
theorem bJ.vr{ρ:RM}{w:World}{ok:Nat→Prop}{s:SV}{v:Value}{l:List Nat}(h:bJ ρ w ok s v)(hl:∀i∈tg s,i∈l):bJ (vr l ρ) w ok s v:=by
 cases h with
 |c h=>exact .c h
 |lp h=>exact .lp (by rw[pB (hl _ (by simp[tg]))];exact h)
 |le h=>exact .le (by rw[pB (hl _ (by simp[tg]))];exact h)
 |lw h=>exact .lw (by rw[pB (hl _ (by simp[tg]))];exact h)
 |ls h h1 h2 h3 h4=>exact .ls (by rw[pB (hl _ (by simp[tg]))];exact h) h1 h2 h3 h4
 |mp h=>exact .mp (by rw[pB (hl _ (by simp[tg]))];exact h)
theorem dX.vr{ρ:RM}{w:World}{ok:Nat→Prop}{s:SV}{v:Value}{l:List Nat}(h:dX ρ w ok s v)(hl:∀i∈NW s,i∈l):dX (vr l ρ) w ok s v:=by
 cases h with
 |c h=>
  refine .c (h.vr fun i hi=>hl i ?_)
  cases h<;>first|exact hi|(simp[tg] at hi)
 |a h1 h=>exact .a h1 h
 |m h1 h=>exact .m h1 fun j a v ha hv=>(h j a v ha hv).vr fun i hi=>hl i (List.mem_flatMap.2 ⟨a,List.mem_of_getElem? ha,hi⟩)
 |clo h1 h=>exact .clo h1 fun j a v ha hv=>(h j a v ha hv).vr fun i hi=>hl i (List.mem_flatMap.2 ⟨a,List.mem_of_getElem? ha,hi⟩)
theorem JE{w:World}{ok:Nat→Prop}{args ss:List SV}{vs:List Value}{fs:List Nat}{bs:List (Nat × dD)}{np nt:Nat}(hok:∀b,ok b→b<w.heap.size)(hO:AL w ok args vs fs)(hnd:fs.Nodup)(hfs:∀b∈fs,b<w.heap.size∧¬ok b)
 (ha:fw args 0=some (ss,bs,np))(hn:args.length≤nt):∃(pv ρ0:RM) (F:FM),(∀m∈rS ss bs,pv m=ρ0 m)∧Ext pv ρ0∧qm ⟨w,ok,(· ∈fs),pv⟩ (OY ss bs)∧ss.length=vs.length∧gu ρ0 np∧(∀(j:Nat) s v,ss[j]? =some s→vs[j]? =some v→dX pv w ok s v)∧
  St ⟨w,ok,(· ∈fs),pv⟩ nt (T0 ss) (H0 bs) ρ0 F {tmps:=vs.toArray++Array.replicate (nt-vs.toArray.size) undef,defers:=[]} w:=by
 obtain⟨pv,F,hpin,hlen,hfree,hargs,hS⟩:=enter hok hO hnd hfs ha hn
 refine⟨Go.KA.vr (rS ss bs) pv,pv,F,fun m hm=>pB hm,fun i v hv=>(tf hv).2,fun i v hv=> ?_,hlen,hfree,fun j s v hs hv=>(hargs j s v hs hv).vr fun i hi=>List.mem_append_left _ (List.mem_flatMap.2 ⟨s,List.mem_of_getElem? hs,hi⟩), ?_⟩
 ·unfold OY
  rw[Ab]
  exact DN (.inl (tf hv).1)
 ·obtain⟨m,h1,h2,h3⟩:=hS
  exact⟨⟨m.blocks,m.jt,m.nodup,m.lt,m.src,m.mB,m.frame,m.size,m.os,m.tape,m.output,fun i v hv=>m.yr i v (tf hv).2⟩,h1,h2,h3⟩
theorem B5:∀{bs:List (Nat × dD)} {H:HM} {k:Nat} {b:dD},cW bs H k=b→(k,b)∈bs∨H k=b
 |[],H,k,b,h=> .inr h
 |(j,c)::r,H,k,b,h=>by
  rcases B5 (bs:=r) h with h|h
  ·exact .inl (by simp[h])
  ·unfold dA at h
   cases hb:Nat.beq k j with
   |true=>
    have:=Nat.eq_of_beq_eq_true hb
    subst this
    rw[hb] at h
    simp only[cond] at h
    subst h
    exact .inl (by simp)
   |false=>
    rw[hb] at h
    exact .inr h
theorem NJ{bs:List (Nat × dD)}{k:Nat}{b:dD}(h:H0 bs k=b)(hb:b≠ .dead):(k,b)∈bs:=by
 rcases B5 h with h|h
 ·exact h
 ·exact absurd h.symm hb
theorem sY(dd:dK P tbl)(hmix:P.follows .mixedOrders=true){f:Nat}{fn:Func}{c:Code}{args ss:List SV}{α:Type}{φ:α→Prop}{outs:α→List (Option (List CV))}{r:α→SV}{bs:List (Nat × dD)}{np:Nat}{ann:Nat→Option Inv}{gh:Nat→Bool}(hf:P.funcs[f]? =some fn)(hname:(fn.name== "runtime.NumGoroutine")=false)
 (hb:fn.body=some c)(hn:Nat.ble args.length fn.ntmps=true)(ha:fw args 0=some (ss,bs,np)){Kf:Nat→X→TM→HM→Nat→Prop}
 (hK:∀{Γ:Cx} {pm nt:Nat} {ρ:RM} {F:FM} {a:Act} {w:World} {T:TM} {H:HM} {n:Nat} {e:X},qm Γ pm→Kf pm e T H n→St Γ nt T H ρ F a w→gu ρ n→∃T' H' ρ' F' x,φ x∧FE tbl fn.results.toList (H0 bs) ss (outs x) (r x) e T' H' n∧St Γ nt T' H' ρ' F' a w∧gu ρ' n)
 (h:ta (rS ss bs) 0 fun pm=>A9 P tbl fn.ntmps pm ann gh c (Kf pm) (T0 ss) (H0 bs) np):fU P f args φ outs r:=by
 refine⟨⟨fn,hf,hname,by rw[hb];rfl⟩,fun w ok vs fs hok hO hnd hfs=> ?_⟩
 refine calls_of_wp hf hb ?_
 obtain⟨pv,ρ0,F0,hpv,hpe,hpin,hlen,hfree,hargs,hS⟩:=JE hok hO hnd hfs ha (Nat.le_of_ble_eq_true hn)
 rw[Ao,nA] at h
 refine gQ dd hmix hpin c h ?_ hS hfree
 intro e T H n ρ F a w' hk hs hf'
 obtain⟨T,H,ρ,F,x,hx,hk,hs,hf'⟩:=hK hpin hk hs hf'
 have fin:pX tbl fn.results.toList T H (fun l=>cond (fD (vT H (oI l)++AM H ss (outs x))&&Cm (H0 bs) H ss (outs x)) (match BT H (oI l) with|some s=>ah (s=r x) (I8 H ss (outs x))|none=>False) False)→
  a.defers=[]∧∃v,(results fn a.tmps).run P w'= .ok v w'∧∃x,φ x∧∃v' fr fo,Ending.returned v= .returned v'∧Grown fs w w'∧(fr++fo).Nodup∧(∀b∈fr++fo,(b∈fs∨w.heap.size≤b)∧b<w'.heap.size)∧
    OT w' (xL ok fs (fr++fo) w w') (r x) v' fr∧kz w w' (xL ok fs (fr++fo) w w') (outs x) vs fo:=by
  intro hk
  obtain⟨l,vs',hK,hrun,hl',hv'⟩:=oD dd hs hk
  obtain⟨hnn,hK⟩:=fV hK
  rw[Bool.and_eq_true] at hnn
  obtain⟨hnn,hkb⟩:=hnn
  split at hK
  case h_2=>exact hK.elim
  rename_i s hcons
  obtain⟨hsr,hout⟩:=hK
  rw[hsr] at hcons
  have hB:=hs.mem.hb (lZ.refl H)
  have hV:(∃x,l=[x])∨∀(j:Nat) s v,l[j]? =some s→vs'[j]? =some v→dX ρ w' (aO ⟨w,ok,(· ∈fs),pv⟩ F w') s v:=by
   match l with
   |[]=>right;simp
   |[x]=>exact .inl ⟨x,rfl⟩
   |x::y::l=>
    right
    intro j s v hs0 hv0
    have h3:=hv' j s v hs0 hv0
    have hsome:∃s1,qa H s=some s1:=by
     simp only[oI,BT] at hcons
     split at hcons
     ·rename_i l0 hl0
      have key:∀(ss ss':List SV),l8 (qa H) ss=some ss'→∀(j:Nat) s0,ss[j]? =some s0→∃s1,qa H s0=some s1:=by
          intro ss
          induction ss with
          |nil=>intro _ _ j s0 h;simp at h
          |cons a as ih=>
           intro ss' hm' j s0 hj
           simp only[l8] at hm'
           split at hm'
           ·rename_i y0 ys hy hys
            cases j with
            |zero=>simp at hj;subst hj;exact⟨_,hy⟩
            |succ j=>exact ih ys hys j s0 (by simpa using hj)
           ·cases hm'
      exact key _ _ hl0 j s hs0
     ·cases hcons
    obtain⟨s1,hs1⟩:=hsome
    refine h3.vc ?_ ?_
    ·rintro rfl
     simp[qa] at hs1
    ·rintro zs rfl
     simp[qa] at hs1
  have hT:=GG hl' hv' hV
  have h1:=CF hB hcons hT
  have hlen':ss.length=vs.length:=hlen
  have hT1:∀(j:Nat) s v,ss[j]? =some s→vs[j]? =some v→aZ ρ w' (aO ⟨w,ok,(· ∈fs),pv⟩ F w') s v:=fun j s v hs0 hv0=> .v ((hargs j s v hs0 hv0).mono (fun b hb=>hs.mem.frame b (hs.mem.mB b hb).1 (hs.mem.mB b hb).2) (fun b hb=>⟨Nat.lt_of_lt_of_le (hs.mem.mB b hb).1 hs.mem.size, .inl hb,fun⟨i,hi⟩=>by
   rcases hs.mem.src i b hi with h1|h1
   ·exact(hs.mem.mB b hb).2 h1
   ·have:=(hs.mem.mB b hb).1;omega⟩) fun i u hu=>hs.mem.yr i u hu)
  have hB0:=hS.mem.hb (lZ.refl (H0 bs))
  have h2:=qQ (w0:=w) (vs:=vs) hB hout hlen' hT1 fun j s v cs hs0 hv0 ho hc=>El hB0 hB (.v ((hargs j s v hs0 hv0).mono (fun _ _=>rfl) (fun b hb=>⟨(hS.mem.mB b hb).1, .inl hb,fun⟨i,hi⟩=>by
        rcases hS.mem.src i b hi with h1|h1
        ·exact(hS.mem.mB b hb).2 h1
        ·exact absurd h1 (Nat.not_le.2 (hS.mem.mB b hb).1)⟩) hpe)) (hT1 j s v hs0 hv0) hc
   (fun k o cs e hH=>y6 hkb (e▸hs0) ho hH) fun k o m e hm=>by
        obtain⟨c,hc1,hc2⟩:=List.mem_flatMap.1 hm
        have hbs:∀cs,H0 bs k= .cells cs→(k,dD.cells cs)∈bs:=fun cs h=>NJ h (by simp)
        cases hH:H0 bs k<;>rw[hH] at hc1<;>simp only[nK,List.not_mem_nil] at hc1
        rename_i cs0
        have hmp:m∈rS ss bs:=List.mem_append_right _ (List.mem_flatMap.2 ⟨_,hbs cs0 hH,by rw[hH] at hm;exact hm⟩)
        have hm0:=hpv m hmp
        obtain⟨b3,ty3,arr3,p1,p2,p3,p4,_⟩:=kH hB0 hH
        obtain⟨i,hi,hci⟩:=List.mem_iff_getElem.1 hc1
        have hi0:i<arr3.toList.length:=by rw[←p3];exact hi
        have hcd0:=p4 i c _ (by rw[List.getElem?_eq_getElem hi,hci]) (List.getElem?_eq_getElem hi0)
        generalize arr3.toList[i]=u0 at hcd0
        cases c<;>simp only[Pk,List.mem_singleton,List.not_mem_nil] at hc2
        subst hc2
        cases hcd0 with
        |lp g2=>rw[g2,hs.mem.yr m _ (hm0.trans g2)]
  have hnod:=lq hs.mem (fv hnn)
  rw[List.flatMap_append] at hnod
  refine⟨hs.defers,_,hrun,x,hx,_,_,_,rfl,BR hs.mem,hnod,fun b hb=> ?_,h1.Na (JG (ks:=vT H (oI l)++AM H ss (outs x)) (by rw[List.flatMap_append])),h2.mono (JG (ks:=vT H (oI l)++AM H ss (outs x)) (by rw[List.flatMap_append]))⟩
  rw[←List.flatMap_append] at hb
  obtain⟨i,_,hi⟩:=List.mem_flatMap.1 hb
  refine⟨?_,hs.mem.lt i b hi⟩
  exact hs.mem.src i b hi
 cases e with
 |normal=>exact fin hk
 |ret=>exact fin hk
 |exit i=>exact hk.elim
theorem sR(dd:dK P tbl)(hmix:P.follows .mixedOrders=true){f:Nat}{fn:Func}{c:Code}{args ss:List SV}{outs:List (Option (List CV))}{r:SV}{bs:List (Nat × dD)}{np:Nat}{ann:Nat→Option Inv}{gh:Nat→Bool}(hf:P.funcs[f]? =some fn)(hname:(fn.name== "runtime.NumGoroutine")=false)
 (hb:fn.body=some c)(hn:Nat.ble args.length fn.ntmps=true)(ha:fw args 0=some (ss,bs,np)){Kf:Nat→X→TM→HM→Nat→Prop}
 (hK:∀{Γ:Cx} {pm nt:Nat} {ρ:RM} {F:FM} {a:Act} {w:World} {T:TM} {H:HM} {n:Nat} {e:X},qm Γ pm→Kf pm e T H n→St Γ nt T H ρ F a w→gu ρ n→∃T' H' ρ' F',FE tbl fn.results.toList (H0 bs) ss outs r e T' H' n∧St Γ nt T' H' ρ' F' a w∧gu ρ' n)
 (h:ta (rS ss bs) 0 fun pm=>A9 P tbl fn.ntmps pm ann gh c (Kf pm) (T0 ss) (H0 bs) np):ai P f args outs r:=
 fU.P4 (φ:=fun _:Unit=>True) (sY dd hmix hf hname hb hn ha (outs:=fun _=>outs) (r:=fun _=>r) (fun hpin hk hs hf=>by
  obtain⟨T',H',ρ',F',h1,h2,h3⟩:=hK hpin hk hs hf
  exact⟨T',H',ρ',F',(),trivial,h1,h2,h3⟩) h)
def N0{α:Type}(tbl:TT)(rs:List ResultVar)(H0:HM)(ss:List SV)(φ:α→Prop)(outs:α→List (Option (List CV)))(r:α→SV)(np:Nat):X→TM→HM→Nat→Prop
 | .exit _,_,_,_=>False
 |e,T,H,n=>Gh np n T H fun T H=>∃x,φ x∧FE tbl rs H0 ss (outs x) (r x) e T H n
theorem DK(dd:dK P tbl)(hmix:P.follows .mixedOrders=true){f:Nat}{fn:Func}{c:Code}{args ss:List SV}{α:Type}{φ:α→Prop}{outs:α→List (Option (List CV))}{r:α→SV}{bs:List (Nat × dD)}{np:Nat}{ann:Nat→Option Inv}{gh:Nat→Bool}(hf:P.funcs[f]? =some fn)(hname:(fn.name== "runtime.NumGoroutine")=false)
 (hb:fn.body=some c)(hn:Nat.ble args.length fn.ntmps=true)(ha:fw args 0=some (ss,bs,np))(h:ta (rS ss bs) 0 fun pm=>A9 P tbl fn.ntmps pm ann gh c (N0 tbl fn.results.toList (H0 bs) ss φ outs r pm) (T0 ss) (H0 bs) np):fU P f args φ outs r:=sY dd hmix hf hname hb hn ha (Kf:=fun pm=>N0 tbl fn.results.toList (H0 bs) ss φ outs r pm) (fun{Γ pm nt ρ F a w T H n e} hpin hk hs hf=>by
 cases e with
 |exit i=>exact hk.elim
 |normal=>
  obtain⟨T',H',ρ',F',⟨x,hx,k1⟩,k2,k3⟩:=lM hpin hk hs hf
  exact⟨T',H',ρ',F',x,hx,k1,k2,k3⟩
 |ret=>
  obtain⟨T',H',ρ',F',⟨x,hx,k1⟩,k2,k3⟩:=lM hpin hk hs hf
  exact⟨T',H',ρ',F',x,hx,k1,k2,k3⟩) h
def KE(tbl:TT)(rs:List ResultVar)(H0:HM)(ss:List SV)(outs:List (Option (List CV)))(r:SV)(np:Nat):X→TM→HM→Nat→Prop
 | .exit _,_,_,_=>False
 |e,T,H,n=>Gh np n T H fun T H=>FE tbl rs H0 ss outs r e T H n
theorem B4(dd:dK P tbl)(hmix:P.follows .mixedOrders=true){f:Nat}{fn:Func}{c:Code}{args ss:List SV}{outs:List (Option (List CV))}{r:SV}{bs:List (Nat × dD)}{np:Nat}{ann:Nat→Option Inv}{gh:Nat→Bool}(hf:P.funcs[f]? =some fn)(hname:(fn.name== "runtime.NumGoroutine")=false)
 (hb:fn.body=some c)(hn:Nat.ble args.length fn.ntmps=true)(ha:fw args 0=some (ss,bs,np))(h:ta (rS ss bs) 0 fun pm=>A9 P tbl fn.ntmps pm ann gh c (FE tbl fn.results.toList (H0 bs) ss outs r) (T0 ss) (H0 bs) np):ai P f args outs r:=sR dd hmix hf hname hb hn ha (Kf:=fun _=>FE tbl fn.results.toList (H0 bs) ss outs r) (fun _ hk hs hf=>⟨_,_,_,_,hk,hs,hf⟩) h
theorem zU(dd:dK P tbl)(hmix:P.follows .mixedOrders=true){f:Nat}{fn:Func}{c:Code}{args ss:List SV}{outs:List (Option (List CV))}{r:SV}{bs:List (Nat × dD)}{np:Nat}{ann:Nat→Option Inv}{gh:Nat→Bool}(hf:P.funcs[f]? =some fn)(hname:(fn.name== "runtime.NumGoroutine")=false)
 (hb:fn.body=some c)(hn:Nat.ble args.length fn.ntmps=true)(ha:fw args 0=some (ss,bs,np))(h:ta (rS ss bs) 0 fun pm=>A9 P tbl fn.ntmps pm ann gh c (KE tbl fn.results.toList (H0 bs) ss outs r pm) (T0 ss) (H0 bs) np):ai P f args outs r:=sR dd hmix hf hname hb hn ha (Kf:=fun pm=>KE tbl fn.results.toList (H0 bs) ss outs r pm) (fun{Γ pm nt ρ F a w T H n e} hpin hk hs hf=>by
 cases e with
 |exit i=>exact hk.elim
 |normal=>
  obtain⟨T',H',ρ',F',k1,k2,k3⟩:=lM hpin hk hs hf
  exact⟨T',H',ρ',F',k1,k2,k3⟩
 |ret=>
  obtain⟨T',H',ρ',F',k1,k2,k3⟩:=lM hpin hk hs hf
  exact⟨T',H',ρ',F',k1,k2,k3⟩) h
theorem dF(dd:dK P tbl)(hmix:P.follows .mixedOrders=true){f:Nat}{fn:Func}{c:Code}{args ss:List SV}{r:SV}{bs:List (Nat × dD)}{np:Nat}{ann:Nat→Option Inv}{gh:Nat→Bool}(hf:P.funcs[f]? =some fn)(hname:(fn.name== "runtime.NumGoroutine")=false)
 (hb:fn.body=some c)(hn:Nat.ble args.length fn.ntmps=true)(ha:fw args 0=some (ss,bs,np))(h:ta (rS ss bs) 0 fun pm=>A9 P tbl fn.ntmps pm ann gh c (O2 tbl fn.results.toList r) (T0 ss) (H0 bs) np):aE P f args r:=by
 refine⟨⟨fn,hf,hname,by rw[hb];rfl⟩,fun w ok vs fs hok hO hnd hfs=> ?_⟩
 refine calls_of_wp hf hb ?_
 obtain⟨pv,ρ0,F0,hpv,hpe,hpin,hlen,hfree,hargs,hS⟩:=JE hok hO hnd hfs ha (Nat.le_of_ble_eq_true hn)
 rw[Ao,nA] at h
 refine gQ dd hmix hpin c h ?_ hS hfree
 intro e T H n ρ F a w' hk hs hf'
 have fin:pX tbl fn.results.toList T H (fun l=>match CI H (oI l) with|some s=>bo (aN s=r)|none=>False)→
  a.defers=[]∧∃v,(results fn a.tmps).run P w'= .ok v w'∧∃v' fr fo,Ending.returned v= .returned v'∧Grown fs w w'∧(fr++fo).Nodup∧(∀b∈fr++fo,(b∈fs∨w.heap.size≤b)∧b<w'.heap.size)∧
    OT w' (xL ok fs (fr++fo) w w') r v' fr∧kz w w' (xL ok fs (fr++fo) w w') [] vs fo:=by
  intro hk
  obtain⟨l,vs',hK,hrun,hl',hv'⟩:=oD dd hs hk
  split at hK
  case h_2=>exact hK.elim
  rename_i s hview
  have:=hK.h
  subst this
  have hB:=hs.mem.hb (lZ.refl H)
  have hokv:∀b,aO ⟨w,ok,(· ∈fs),pv⟩ F w' b→xL ok fs ([]++[]) w w' b:=fun b hb=>⟨hb.1,hb.2.1,by simp⟩
  have hF:∀i,H i≠ .dead→∀b∈F i,xL ok fs ([]++[]) w w' b:=fun i _ b hb=>⟨hs.mem.lt i b hb, .inr (hs.mem.src i b hb),by simp⟩
  refine⟨hs.defers,_,hrun,_,[],[],rfl,BR hs.mem,by simp,by simp,Mw ?_, .nil⟩
  have hV:∀{x s:SV} {v:Value},gN H x=some s→aZ ρ w' (aO ⟨w,ok,(· ∈fs),pv⟩ F w') x v→jm w' (xL ok fs ([]++[]) w w') s v []:=fun hx hT=> .v (mc hB hokv hF hx (Al hx hT))
  match l,vs',hl' with
  |[],[],_=>
   simp only[oI,CI,l8,Option.some.injEq] at hview
   subst hview
   exact .tup (vs:=[]) .nil
  |[x],[v],_=>
   have h0:=hv' 0 x v rfl rfl
   simp only[oI] at hview
   unfold CI at hview
   split at hview
   ·rename_i zs
    split at hview
    ·rename_i l0 hl0
     injection hview with hview
     subst hview
     cases h0 with
     |v h0=>cases h0 with|c h0=>cases h0
     |tup hlen0 hh=>exact .tup (nV (Hv:=H) hB hokv hF hl0 hlen0 hh)
    ·cases hview
   ·exact .v (hV hview h0)
  |x::y::l,v::u::vs',hl'=>
   simp only[oI,CI] at hview
   split at hview
   ·rename_i l0 hl0
    injection hview with hview
    subst hview
    have:=nV (Hv:=H) hB hokv hF hl0 hl' fun j s v hs0 hv0=>by
     have h3:=hv' j s v hs0 hv0
     have hsome:∃s1,gN H s=some s1:=by
      have key:∀(ss ss':List SV),l8 (gN H) ss=some ss'→∀(j:Nat) s0,ss[j]? =some s0→∃s1,gN H s0=some s1:=by
       intro ss
       induction ss with
       |nil=>intro _ _ j s0 h;simp at h
       |cons a as ih=>
        intro ss' hm' j s0 hj
        simp only[l8] at hm'
        split at hm'
        ·rename_i y0 ys hy hys
         cases j with
         |zero=>simp at hj;subst hj;exact⟨_,hy⟩
         |succ j=>exact ih ys hys j s0 (by simpa using hj)
        ·cases hm'
      exact key _ _ hl0 j s hs0
     obtain⟨s1,hs1⟩:=hsome
     exact Al hs1 h3
    have h4:=OT.tup this
    simpa using h4
   ·cases hview
 cases e with
 |normal=>exact fin hk
 |ret=>exact fin hk
 |exit i=>exact hk.elim
inductive D8(H:HM):HM→List (Nat × dD)→Prop
 |refl:D8 H H []
 |step {H':HM} {ws bs:List (Nat × dD)} (h:D8 H H' ws):D8 H (cW bs H') (ws++bs)
theorem D8.eq{H H':HM}{ws:List (Nat × dD)}(h:D8 H H' ws):H'=cW ws H:=by
 induction h with
 |refl=>rfl
 |step h ih=>rw[mj,←ih]
theorem D8.one{H H':HM}{ws:List (Nat × dD)}{j:Nat}{b:dD}(h:D8 H H' ws):D8 H (dA H' j b) (ws++[(j,b)]):=D8.step (bs:=[(j,b)]) h
theorem D8.iC{H:HM}:∀{l:List (Nat × dD)} {H':HM} {ws:List (Nat × dD)},D8 H H' ws→D8 H (iC l H') (ws++l.reverse)
 |[],H',ws,h=>by rw[List.reverse_nil,List.append_nil];exact h
 |(k,b)::r,H',ws,h=>by
  have:=(D8.iC (l:=r) h).one (j:=k) (b:=b)
  rw[List.append_assoc] at this
  rw[List.reverse_cons]
  exact this
def MY:SV→Bool
 | .any=>false
 | .tup _=>false
 |_=>true
def DY:List SV→Bool
 |[_]=>true
 |l=>l.all MY
inductive uq(H0:HM)(n0:Nat)(K:gC→Prop)(s:SV)(H:HM)(n:Nat):Prop
 |mk (ws:List (Nat × dD)) (hu:D8 H0 H ws) (hn:Nat.ble n0 n=true) (k:K ⟨s,ws,n-n0,[]⟩)
inductive kq(H:HM):HM→(List (Nat × dD)→Prop)→Prop
 |refl {K} (k:K []):kq H H K
 |step {H':HM} {bs:List (Nat × dD)} {K} (h:kq H H' fun ws=>K (ws++bs)):kq H (cW bs H') K
 |one {H':HM} {j:Nat} {b:dD} {K} (h:kq H H' fun ws=>K (ws++[(j,b)])):kq H (dA H' j b) K
 |iC {H':HM} {l:List (Nat × dD)} {K} (h:kq H H' fun ws=>K (ws++l.reverse)):kq H (KA.iC l H') K
theorem kq.ex{H H':HM}{K:List (Nat × dD)→Prop}(h:kq H H' K):∃ws,D8 H H' ws∧K ws:=by
 induction h with
 |refl k=>exact⟨_, .refl,k⟩
 |step _ ih=>obtain⟨ws,h1,h2⟩:=ih;exact⟨_,h1.step,h2⟩
 |one _ ih=>obtain⟨ws,h1,h2⟩:=ih;exact⟨_,h1.one,h2⟩
 |iC _ ih=>obtain⟨ws,h1,h2⟩:=ih;exact⟨_,h1.iC,h2⟩
theorem uq.of{H0:HM}{n0:Nat}{K:gC→Prop}{s:SV}{H:HM}{n:Nat}(hn:Nat.ble n0 n=true)(h:kq H0 H fun ws=>K ⟨s,ws,n-n0,[]⟩):uq H0 n0 K s H n:=by
 obtain⟨ws,h1,h2⟩:=h.ex
 exact .mk ws h1 hn h2
def PL(tbl:TT)(rs:List ResultVar)(H0:HM)(n0:Nat)(K:gC→Prop):X→TM→HM→Nat→Prop
 | .exit _,_,_,_=>False
 |_,T,H,n=>pX tbl rs T H fun l=>cond (DY l) (uq H0 n0 K (oI l) H n) False
theorem pF{Γ:Cx}{H:HM}{ρ:RM}{F F':FM}{w w':World}(hm:Mem Γ H ρ F w):aO ⟨w,aO Γ F w,fun b=>∃i,b∈F i,ρ⟩ F' w'=aO Γ F' w':=by
 funext b
 apply propext
 unfold aO
 constructor
 ·rintro⟨h1,h2,h3⟩
  refine⟨h1, ?_,h3⟩
  rcases h2 with h2|⟨i,h2⟩|h2
  ·exact h2.2.1
  ·exact .inr (hm.src i b h2)
  ·exact .inr (.inr (Nat.le_trans hm.size h2))
 ·rintro⟨h1,h2,h3⟩
  refine⟨h1, ?_,h3⟩
  by_cases hb:b<w.heap.size
  ·by_cases hi:∃i,b∈F i
   ·exact .inr (.inl hi)
   ·exact .inl ⟨hb,h2,hi⟩
  ·exact .inr (.inr (by simpa using hb))
theorem pt(dd:dK P tbl)(hmix:P.follows .mixedOrders=true){f:Nat}{fn:Func}{c:Code}{args:List SV}{H:HM}{n pm:Nat}{K:gC→Prop}{ann:Nat→Option Inv}{gh:Nat→Bool}(hf:P.funcs[f]? =some fn)(hname:(fn.name== "runtime.NumGoroutine")=false)
 (hb:fn.body=some c)(hn:Nat.ble args.length fn.ntmps=true)(hpm:2^n-1=pm)(h:A9 P tbl fn.ntmps pm ann gh c (PL tbl fn.results.toList H n K) (T0 args) H n):M0 P f args H n K:=by
 intro Γ ρ F w vs hm hfree hfull hlen hargs
 refine⟨⟨fn,hf,hname,by rw[hb];rfl⟩, ?_⟩
 refine calls_of_wp hf hb ?_
 have hpin:qm ⟨w,aO Γ F w,fun b=>∃i,b∈F i,ρ⟩ pm:=fun i v hv=>by
  have hi:i<n:=Nat.lt_of_not_le fun h=>by
   have h0:ρ i=some v:=hv
   rw[hfree i h] at h0
   cases h0
  rw[Ab,←hpm,Nat.testBit_two_pow_sub_one]
  exact decide_eq_true hi
 have hle:=Nat.le_of_ble_eq_true hn
 have hS:St ⟨w,aO Γ F w,fun b=>∃i,b∈F i,ρ⟩ fn.ntmps (T0 args) H ρ F {tmps:=vs.toArray++Array.replicate (fn.ntmps-vs.toArray.size) undef,defers:=[]} w:=by
  refine⟨⟨fun i=> ?_,hm.jt,hm.nodup,hm.lt,fun i b hb=> .inl ⟨i,hb⟩,fun b hb=>⟨hb.1,hb.2.2⟩,fun _ _ _=>rfl,Nat.le_refl _,rfl,rfl,rfl,fun i v h=>h⟩,rfl, ?_,fun i=> ?_⟩
  ·rw[pF hm];exact hm.blocks i
  ·simp;omega
  ·rw[pF hm]
   unfold T0
   split
   ·rename_i s hs
    have hi:i<vs.length:=by rw[←hlen];exact(List.getElem?_eq_some_iff.1 hs).1
    have:=hargs i s vs[i] hs (List.getElem?_eq_getElem hi)
    simpa[Array.getD_eq_getD_getElem?,Array.getElem?_append,hi] using this
   ·exact .any
 rw[nA] at h
 refine gQ dd hmix hpin c h ?_ hS hfree
 intro e T H' n' ρ' F' a w' hk hs hf'
 have fin:pX tbl fn.results.toList T H' (fun l=>cond (DY l) (uq H n K (oI l) H' n') False)→a.defers=[]∧∃v,(results fn a.tmps).run P w'= .ok v w'∧lk Γ H ρ F w n K (.returned v) w':=by
  intro hk
  obtain⟨l,vs',hK,hrun,hl',hv'⟩:=oD dd hs hk
  obtain⟨hp,⟨ws,hu,hnn,hK2⟩⟩:=fV hK
  have hu:=hu.eq
  subst hu
  have hnn:=Nat.le_of_ble_eq_true hnn
  rw[pF hm] at hv'
  have hV:(∃x,l=[x])∨∀(j:Nat) s v,l[j]? =some s→vs'[j]? =some v→dX ρ' w' (aO Γ F' w') s v:=by
   by_cases h1:∃x,l=[x]
   ·exact .inl h1
   ·right
    intro j s v hs0 hv0
    have hp:l.all MY=true:=by
     unfold DY at hp
     split at hp
     ·exact absurd ⟨_,rfl⟩ h1
     ·exact hp
    have h3:=hv' j s v hs0 hv0
    have h4:=List.all_eq_true.1 hp s (List.mem_of_getElem? hs0)
    refine h3.vc ?_ ?_
    ·rintro rfl;cases h4
    ·rintro zs rfl;cases h4
  have hext:Ext ρ ρ':=fun i v h=>hs.mem.yr i v h
  have hsz:w.heap.size≤w'.heap.size:=hs.mem.size
  have hfr:∀b,b<w.heap.size→(¬∃i,b∈F i)→w'.heap[b]? =w.heap[b]? :=hs.mem.frame
  have hsrc:∀i,∀b∈F' i,(∃i,b∈F i)∨w.heap.size≤b:=hs.mem.src
  refine⟨hs.defers,_,hrun,⟨oI l,ws,n'-n,[]⟩,ρ',F',_,rfl,hK2,hext,fun i hi=> ?_, ?_,fun b hb=> ?_,fun b hb=>hfr b hb.1 hb.2.2,GG hl' hv' hV⟩
  ·have h1:¬i<n:=fun h=>by
        cases hv:ρ i with
        |none=>exact hfull i h hv
        |some v=>exact hi (by rw[hext i v hv,hv])
   have h2:¬n'≤i:=fun h=>hi (by rw[hf' i h,hfree i (by omega)])
   exact⟨by omega,by show i<n+(n'-n);omega⟩
  ·refine⟨fun i=> ?_,hs.mem.jt,hs.mem.nodup,hs.mem.lt,fun i b hb=> ?_,hm.mB,fun b h1 h2=> ?_,Nat.le_trans hm.size hsz,hs.mem.os.trans hm.os,hs.mem.tape.trans hm.tape,hs.mem.output.trans hm.output,fun i v h=>hext i v (hm.yr i v h)⟩
   ·have:=hs.mem.blocks i
    rw[pF hm] at this
    exact this
   ·rcases hsrc i b hb with⟨j,h⟩|h
    ·exact hm.src j b h
    ·exact .inr (Nat.le_trans hm.size h)
   ·rw[hfr b (Nat.lt_of_lt_of_le h1 hm.size) fun⟨i,hi⟩=>by
     rcases hm.src i b hi with h|h
     ·exact h2 h
     ·omega]
    exact hm.frame b h1 h2
  ·refine⟨Nat.lt_of_lt_of_le hb.1 hsz,hb.2.1,fun⟨i,hi⟩=> ?_⟩
   rcases hsrc i b hi with h|h
   ·exact hb.2.2 h
   ·have:=hb.1;omega
 cases e with
 |normal=>exact fin hk
 |ret=>exact fin hk
 |exit i=>exact hk.elim
end
end Go.KA
