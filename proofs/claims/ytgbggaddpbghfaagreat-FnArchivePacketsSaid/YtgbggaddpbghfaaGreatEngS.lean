/- Part of a proof engine for functions of the given program: what an operation, a loop and a call compute, symbolically. No conditions. -/
import Derived.Test.YtgbggaddpbghfaaGreatEngR
namespace Go.KA
open Go Go.RowKit
structure bh(p:Prop):Prop where
 h:p
def T0(args:List SV):TM:=fun i=>match args[i]? with|some s=>s|none=> .any
def H0(bs:List (Nat × dE)):HM:=cY bs fun _=> .dead
def qO(tbl:TT):List ResultVar→TM→HM→(List SV→Prop)→Prop
 |[],_,_,K=>K []
 | .tmp t::rs,T,H,K=>qO tbl rs T H fun l=>K (T t::l)
 | .cell t ty::rs,T,H,K=>vl tbl ty (T t) H fun sv=>qO tbl rs T H fun l=>K (sv::l)
def pd:List SV→SV
 |[x]=>x
 |l=> .tup l
def DZ(H:HM)(s:SV):Option SV:=
 match s with
 | .tup vs=>match mo (gR H) vs with|some l=>some (.tup l)|none=>none
 |s=>gR H s
def cM:SV→SV
 | .c (.cb b)=> .c (.val (.bool b))
 |s=>s
def cO:SV→SV
 | .tup vs=> .tup (vs.map cM)
 |s=>cM s
theorem C0{ρ:RM}{w:World}{ok:Nat→Prop}{s:SV}{v:Value}(h:dZ ρ w ok s v):dZ ρ w ok (cM s) v:=by
 unfold cM
 split
 ·cases h with|c h=>cases h with|c h=>rw[n8 h];exact .c (.c (mk_val rfl))
 ·exact h
def P4(tbl:TT)(rs:List ResultVar)(r:SV):X→TM→HM→Nat→Prop
 | .exit _,_,_,_=>False
 |_,T,H,_=>qO tbl rs T H fun l=>match DZ H (pd l) with|some s=>bh (cO s=r)|none=>False
def qD(H:HM)(s:SV):Option SV:=
 match s with
 | .m cs=>match gv (iC H) cs with|some l=>some (.a l.length l)|none=>none
 | .a n cs=>some (.a n cs)
 | .lp k o=>ji H (.lp k o)
 | .clo k caps=>match caps.all mw with|true=>some (.clo k caps)|false=>none
 | .any=>none
 | .tup _=>none
 |s=>match iC H s with|some x=>some (.c x)|none=>none
def qQ(H:HM)(s:SV):List Nat:=
 match s with
 | .m cs=>cs.flatMap gx
 | .lp k o=>en H (.lp k o)
 |s=>gx s
def C8(H:HM)(s:SV):Option SV:=
 match s with
 | .tup vs=>match mo (qD H) vs with|some l=>some (.tup l)|none=>none
 | .any=>some .any
 |s=>qD H s
def wi(H:HM)(s:SV):List Nat:=
 match s with
 | .tup vs=>vs.flatMap (qQ H)
 |s=>qQ H s
def AP(H:HM):List SV→List (Option (List CV))→List Nat
 |s::ss,some _::os=>en H s++AP H ss os
 |_::ss,none::os=>AP H ss os
 |_,_=>[]
def mQ:SV→List CV
 | .c x=>[x]
 | .m ss=>match s8 ss with|some l=>l|none=>[]
 | .tup (.c x::_)=>[x]
 |_=>[]
def KZ(H:HM):List SV→List (Option (List CV))→Prop
 |s::ss,some cs::os=>(nw H s).map mQ=some cs∧KZ H ss os
 |_::ss,none::os=>KZ H ss os
 |_,[]=>True
 |[],_::_=>False
def mB:List SV→List SV→Bool
 |[],_=>true
 | .lp m o::cs,c0::cs0=>match c0 with
   | .lp m' o'=>Nat.beq m m'&&(Nat.beq o o'&&mB cs cs0)
   |_=>false
 | .lp _ _::_,[]=>false
 |_::cs,[]=>mB cs []
 |_::cs,_::cs0=>mB cs cs0
def n7:dE→List SV
 | .cells cs=>cs
 |_=>[]
def BX(H0 H:HM):List SV→List (Option (List CV))→Bool
 |s::ss,_::os=>(match s with| .lp k _=>(match H k with| .cells cs=>mB cs (n7 (H0 k))|_=>true)|_=>true)&&BX H0 H ss os
 |_,_=>true
def PK:SV→List Nat
 | .lp m _=>[m]
 |_=>[]
def sZ(ss:List SV)(bs:List (Nat × dE)):List Nat:=ss.flatMap Pa++bs.flatMap fun p=>(n7 p.2).flatMap PK
structure aq(p q:Prop):Prop where
 h:p
 o:q
def FT(tbl:TT)(rs:List ResultVar)(H0:HM)(ss:List SV)(outs:List (Option (List CV)))(r:SV):X→TM→HM→Nat→Prop
 | .exit _,_,_,_=>False
 |_,T,H,_=>qO tbl rs T H fun l=>cond (fH (wi H (pd l)++AP H ss outs)&&BX H0 H ss outs) (match C8 H (pd l) with|some s=>aq (s=r) (KZ H ss outs)|none=>False) False
section
variable{P:Program}{tbl:TT}
def tK(tmps:Array Value):ResultVar→Sem Value
 | .tmp t=>pure (tmps.getD t undef)
 | .cell a t=>do loadVar t (←asAddr (tmps.getD a undef))
theorem py(da:dM P tbl){Γ:Cx}{nt:Nat}{T:TM}{H:HM}{ρ:RM}{F:FM}{a:Act}{w:World}(hS:St Γ nt T H ρ F a w):∀(rs:List ResultVar) {K:List SV→Prop},qO tbl rs T H K→
 ∃l vs,K l∧(rs.mapM (tK a.tmps)).run P w= .ok vs w∧l.length=vs.length∧∀(j:Nat) s v,l[j]? =some s→vs[j]? =some v→aZ ρ w (aL Γ F w) s v
 |[],K,h=>⟨[],[],h,by simp,rfl,by simp⟩
 | .tmp t::rs,K,h=>by
   obtain⟨l,vs,hK,hr,hl,hv⟩:=py da hS rs h
   refine⟨_,a.tmps.getD t undef::vs,hK,by simp[List.mapM_cons,tK,hr],by simp[hl],fun j s v hs hv'=> ?_⟩
   cases j with
   |zero=>
    simp only[List.getElem?_cons_zero,Option.some.injEq] at hs hv'
    subst hs hv'
    exact hS.tmps t
   |succ j=>exact hv j s v (by simpa using hs) (by simpa using hv')
 | .cell t ty::rs,K,h=>by
   obtain⟨sv,v,h',hrun,hT⟩:=mj (hS.mem.hb (l9.refl H)) da h (hS.tmps t)
   obtain⟨l,vs,hK,hr,hl,hv⟩:=py da hS rs h'
   have hload:(tK a.tmps (.cell t ty)).run P w= .ok v w:=by
    unfold tK
    have:∃ad,a.tmps.getD t undef= .pointer (some ad):=by
        unfold Instr.loadAt at hrun
        generalize a.tmps.getD t undef=x at hrun
        cases x<;>first|(simp[Instr.sureAddr] at hrun;done)|skip
        rename_i p
        cases p with
        |none=>simp[Instr.sureAddr] at hrun
        |some ad=>exact⟨ad,rfl⟩
    obtain⟨ad,had⟩:=this
    simp only[had] at hrun⊢
    simpa[Instr.loadAt,Instr.sureAddr,asAddr] using hrun
   refine⟨_,v::vs,hK,by rw[List.mapM_cons];simp[hload,hr],by simp[hl],fun j s u hs hu=> ?_⟩
   cases j with
   |zero=>
    simp only[List.getElem?_cons_zero,Option.some.injEq] at hs hu
    subst hs hu
    exact hT
   |succ j=>exact hv j s u (by simpa using hs) (by simpa using hu)
theorem px(da:dM P tbl){Γ:Cx}{nt:Nat}{T:TM}{H:HM}{ρ:RM}{F:FM}{a:Act}{w:World}(hS:St Γ nt T H ρ F a w){fn:Func}{K:List SV→Prop}(h:qO tbl fn.results.toList T H K):
 ∃(l:List SV) (vs:List Value),K l∧(results fn a.tmps).run P w= .ok (if h:vs.toArray.size=1 then vs.toArray[0] else .tuple vs.toArray) w∧l.length=vs.length∧∀(j:Nat) s v,l[j]? =some s→vs[j]? =some v→aZ ρ w (aL Γ F w) s v:=by
 obtain⟨l,vs,hK,hr,hl,hv⟩:=py da hS _ h
 refine⟨l,vs,hK, ?_,hl,hv⟩
 have hrun:(fn.results.mapM (tK a.tmps)).run P w= .ok vs.toArray w:=by
  rw[Array.mapM_eq_mapM_toList]
  simp[hr]
 have:results fn a.tmps=(do let vs←fn.results.mapM (tK a.tmps);pure (if h:vs.size=1 then vs[0] else .tuple vs)):=by
  unfold results
  congr 1
 rw[this,Sem.run_bind,hrun]
 rfl
end
section
variable{w:World}{ok okv:Nat→Prop}{ρ:RM}{H:HM}{F:FM}
theorem Ou{x:CV}{v:Value}{f:List Nat}(h:qt w ok (.c x) v f):jn w ok (.c x) v f:=by
 cases h with
 |v h=>exact .v h
 |o h=>exact .o h
theorem Kz{k o:Nat}{s':SV}(h:ji H (.lp k o)=some s'):∃x,s'= .c x:=by
 unfold ji at h
 simp only at h
 split at h
 ·cases hb:Nat.beq o 0<;>rw[hb] at h
  ·cases h
  ·injection h with h;exact⟨_,h.symm⟩
 ·cases hb:Nat.beq o 0<;>rw[hb] at h
  ·cases h
  ·simp only[cond] at h
   split at h
   ·injection h with h;exact⟨_,h.symm⟩
   ·cases h
 ·cases hb:Nat.beq o 0<;>rw[hb] at h
  ·cases h
  ·injection h with h;exact⟨_,h.symm⟩
 ·cases h
theorem uU(hB:∀i,H i= .dead∨dd ρ w ok (H i) (ρ i) (F i)){s s':SV}{v:Value}(h:qD H s=some s')(hd:dZ ρ w ok s v):jn w ok s' v ((qQ H s).flatMap F):=by
 unfold qD at h
 split at h
 ·split at h
  ·rename_i l hl
   injection h with h
   subst h
   cases hd with
   |c hd=>cases hd
   |m hlen hh=>exact .a rfl (by simpa[qQ] using mg hB hl hlen hh)
  ·cases h
 ·injection h with h
  subst h
  cases hd with
  |c hd=>cases hd
  |a hlen hd=>exact .a hlen (by simpa[qQ,gx] using hd)
 ·rename_i k o
  have h1:=ve hB (fun _ h=>h) h (.v hd)
  obtain⟨x,rfl⟩:=Kz h
  exact Ou h1
 ·rename_i k caps
  split at h
  case h_2=>cases h
  rename_i hc
  injection h with h
  subst h
  have:=qP (s:= .clo k caps) (fun _ h=>h) hc hd
  simpa[qQ,gx] using jn.v this
 ·cases h
 ·cases h
 ·rename_i n1 n2 n3 n4 n5 n6
  split at h
  ·rename_i x hx
   injection h with h
   subst h
   have hc:bG ρ w ok s v:=by
        cases hd with
        |c hd=>exact hd
        |a _ _=>exact(n2 _ _ rfl).elim
        |m _ _=>exact(n1 _ rfl).elim
        |clo _ _=>exact(n4 _ _ rfl).elim
   have hu:qQ H s=gx s:=by cases s<;>first|rfl|exact(n1 _ rfl).elim|exact(n3 _ _ rfl).elim
   rw[hu]
   exact .o (iT hB hx hc)
  ·cases h
theorem si(hB:∀i,H i= .dead∨dd ρ w ok (H i) (ρ i) (F i)):∀{ss ss':List SV} {vs:List Value},mo (qD H) ss=some ss'→ss.length=vs.length→(∀(j:Nat) s v,ss[j]? =some s→vs[j]? =some v→dZ ρ w ok s v)→OL w ok ss' vs ((ss.flatMap (qQ H)).flatMap F)
 |[],ss',vs,h,hl,_=>by
  simp[mo] at h
  subst h
  cases vs with
  |nil=>simpa using OL.nil
  |cons _ _=>simp at hl
 |s::ss,ss',vs,h,hl,hd=>by
  cases vs with
  |nil=>simp at hl
  |cons v vs=>
   simp only[mo] at h
   split at h
   ·rename_i y ys hy hys
    injection h with h
    subst h
    have h1:=uU hB hy (hd 0 _ _ rfl rfl)
    have h3:=si hB hys (by simpa using hl) fun j s v hs hv=>hd (j+1) s v hs hv
    have:=OL.cons h1 h3
    simpa using this
   ·cases h
theorem Ec(hB:∀i,H i= .dead∨dd ρ w ok (H i) (ρ i) (F i)){s r:SV}{v:Value}(h:C8 H s=some r)(hd:aZ ρ w ok s v):OT w ok r v ((wi H s).flatMap F):=by
 unfold C8 at h
 split at h
 ·split at h
  ·rename_i l hl
   injection h with h
   subst h
   cases hd with
   |v hd=>cases hd with|c hd=>cases hd
   |tup hlen hh=>exact .tup (si hB hl hlen hh)
  ·cases h
 ·injection h with h
  subst h
  cases hd with
  |any=>simpa[wi,qQ,gx] using OT.any
  |v hd=>cases hd with|c hd=>cases hd
 ·rename_i hne hna
  have hu:wi H s=qQ H s:=by cases s<;>first|rfl|exact(hne _ rfl).elim
  rw[hu]
  cases hd with
  |any=>exact(hna rfl).elim
  |v hd=>exact .v (uU hB h hd)
  |tup _ _=>exact(hne _ rfl).elim
theorem nD{Hv:HM}(hB:∀i,H i= .dead∨dd ρ w ok (H i) (ρ i) (F i))(hok:∀b,ok b→okv b)(hF:∀i,H i≠ .dead→∀b∈F i,okv b):∀{ss ss':List SV} {vs:List Value},mo (gR H) ss=some ss'→ss.length=vs.length→(∀(j:Nat) s v,ss[j]? =some s→vs[j]? =some v→dZ ρ w ok s v)→OL w okv ss' vs []
 |[],ss',vs,h,hl,_=>by
  simp[mo] at h
  subst h
  cases vs with
  |nil=>exact OL.nil
  |cons _ _=>simp at hl
 |s::ss,ss',vs,h,hl,hd=>by
  cases vs with
  |nil=>simp at hl
  |cons v vs=>
   simp only[mo] at h
   split at h
   ·rename_i y ys hy hys
    injection h with h
    subst h
    have h1:jn w okv y v []:= .v (ml hB hok hF hy (hd 0 _ _ rfl rfl))
    have h3:=nD (Hv:=Hv) hB hok hF hys (by simpa using hl) fun j s v hs hv=>hd (j+1) s v hs hv
    have:=OL.cons h1 h3
    simpa using this
   ·cases h
theorem KF{s:SV}{v:Value}(h:jn w ok s v []):jn w ok (cM s) v []:=by
 cases h with
 |v h=>exact .v fun ρ=>C0 (h ρ)
 |o h=>
  rename_i x
  cases x<;>first|exact .o h|skip
  rw[n8 h]
  exact .o (mk_val rfl)
 |a hl h=>exact .a hl h
theorem GI:∀{ss:List SV} {vs:List Value},OL w ok ss vs []→OL w ok (ss.map cM) vs []
 |[],vs,h=>by cases h;exact .nil
 |s::ss,vs,h=>by
  generalize hf:([]:List Nat)=f at h
  cases h with
  |cons h ht=>
   rename_i v fs vs gs
   have h1:fs=[]:=by cases fs with|nil=>rfl|cons _ _=>simp at hf
   subst h1
   simp at hf
   subst hf
   have:=OL.cons (KF h) (GI ht)
   simpa using this
theorem Na{s:SV}{v:Value}(h:OT w ok s v []):OT w ok (cO s) v []:=by
 generalize hf:([]:List Nat)=f at h
 cases h with
 |any=>exact .any
 |v h=>
  subst hf
  refine .v ?_
  have:cO s=cM s:=by
    cases s<;>first|rfl|skip
    cases h with
    |v h=>cases h (fun _=>none) with|c h=>cases h
  rw[this]
  exact KF h
 |tup h=>subst hf;exact .tup (GI h)
theorem xO:∀cs:List CV,s8 (cs.map SV.c)=some cs
 |[]=>rfl
 |c::cs=>by simp only[List.map_cons,s8,xO cs]
theorem yF(cs:List CV):mQ (.m (cs.map .c))=cs:=by simp only[mQ,xO]
theorem xh{s x:SV}(h:ji H s=some x):(∃c,x= .c c)∨∃cs:List CV,x= .m (cs.map .c):=by
 have hc:∀{b:Bool} {o:Option SV},cond b o none=some x→o=some x:=by
  intro b o hb
  cases b with
  |true=>exact hb
  |false=>cases hb
 unfold ji at h
 split at h
 ·split at h
  ·injection h with h;exact .inl ⟨_,h.symm⟩
  ·cases h
 ·split at h
  ·have h:=hc h;injection h with h;exact .inl ⟨_,h.symm⟩
  ·have h:=hc h
   split at h
   ·injection h with h;exact .inl ⟨_,h.symm⟩
   ·cases h
  ·have h:=hc h;injection h with h;exact .inl ⟨_,h.symm⟩
  ·cases h
 ·split at h
  ·injection h with h;exact .inr ⟨_,h.symm⟩
  ·cases h
 ·cases h
theorem tQ:∀{cs cs0:List SV} {i m o:Nat},mB cs cs0=true→cs[i]? =some (.lp m o)→cs0[i]? =some (.lp m o)
 |[],_,i,m,o,_,h=>by simp at h
 |c::cs,cs0,i,m,o,hk,h=>by
  cases i with
  |zero=>
   simp at h
   subst h
   cases cs0 with
   |nil=>simp[mB] at hk
   |cons c0 cs0=>
    cases c0<;>simp only[mB] at hk<;>first|cases hk|skip
    simp only[Bool.and_eq_true] at hk
    rw[Nat.eq_of_beq_eq_true hk.1,Nat.eq_of_beq_eq_true hk.2.1]
    rfl
  |succ i=>
   have h':cs[i]? =some (.lp m o):=by simpa using h
   cases cs0 with
   |nil=>
    have hk':mB cs []=true:=by cases c<;>simp only[mB] at hk<;>first|exact hk|cases hk
    have:=tQ hk' h'
    simp at this
   |cons c0 cs0=>
    have hk':mB cs cs0=true:=by
     cases c<;>simp only[mB] at hk<;>first|exact hk|skip
     cases c0<;>simp only[Bool.and_eq_true] at hk<;>first|exact hk.2.2|cases hk
    have:=tQ hk' h'
    simpa using this
theorem zB{H0 H:HM}:∀{ss:List SV} {os:List (Option (List CV))} {j k o:Nat} {x:Option (List CV)} {cs:List SV},BX H0 H ss os=true→ss[j]? =some (.lp k o)→os[j]? =some x→H k= .cells cs→mB cs (n7 (H0 k))=true
 |[],os,j,k,o,x,cs,h,hs,ho,hk=>by simp at hs
 |s::ss,[],j,k,o,x,cs,h,hs,ho,hk=>by simp at ho
 |s::ss,y::os,j,k,o,x,cs,h,hs,ho,hk=>by
  simp only[BX,Bool.and_eq_true] at h
  cases j with
  |zero=>
   simp at hs
   subst hs
   have:=h.1
   simpa[hk] using this
  |succ j=>exact zB h.2 (by simpa using hs) (by simpa using ho) hk
theorem Dj{f:SV→Option CV}:∀{cs:List SV} {l:List CV} {i:Nat} {x:CV},gv f cs=some l→l[i]? =some x→∃s,cs[i]? =some s∧f s=some x
 |[],l,i,x,h,hx=>by simp[gv] at h;subst h;simp at hx
 |c::cs,l,i,x,h,hx=>by
  simp only[gv] at h
  split at h
  ·rename_i y ys hy hys
   injection h with h
   subst h
   cases i with
   |zero=>simp at hx;subst hx;exact⟨c,rfl,hy⟩
   |succ i=>simpa using Dj hys (by simpa using hx)
  ·cases h
theorem qf:∀{cs:List CV} {vs:List Value} {i:Nat} {x:List CV},Den w ok cs vs []→cs[i]? =some (.op x)→False
 |[],vs,i,x,_,h=>by simp at h
 |c::cs,vs,i,x,hd,h=>by
  generalize hf:([]:List Nat)=f at hd
  cases i with
  |zero=>
   simp at h
   subst h
   cases hd
   simp at hf
  |succ i=>
   have h':cs[i]? =some (.op x):=by simpa using h
   cases hd<;>first
        |(subst hf;exact qf (by assumption) h')
        |(simp at hf;simp only[hf.2] at*;exact qf (by assumption) h')
        |(simp at hf;done)
        |(have hf2:=List.append_eq_nil_iff.1 hf.symm;rw[hf2.2] at*;exact qf (by assumption) h')
theorem vk{w0:World}{ok0:Nat→Prop}{ρ0:RM}{H0:HM}{F0:FM}(hB0:∀i,H0 i= .dead∨dd ρ0 w0 ok0 (H0 i) (ρ0 i) (F0 i))(hB:∀i,H i= .dead∨dd ρ w ok (H i) (ρ i) (F i)){s:SV}{v:Value}{l:List CV}
 (h0:aZ ρ0 w0 ok0 s v)(h1:aZ ρ w ok s v)(hl:(ji H s).map mQ=some l)(hk:∀k o cs,s= .lp k o→H k= .cells cs→mB cs (n7 (H0 k))=true)
 (hp:∀k o m,s= .lp k o→m∈(n7 (H0 k)).flatMap PK→ρ m=ρ0 m):Ar w0 w v l:=by
 rintro cells rfl b ty ty' arr arr' rfl hw0 hw i x hx
 cases s<;>simp only[ji] at hl
 case c=>cases hl
 case a=>cases hl
 case clo=>cases hl
 case any=>cases hl
 case tup=>cases hl
 case le=>cases hl
 case ls=>cases hl
 case mp=>cases hl
 case m ss=>cases h1 with|v h=>cases h with|c h=>cases h
 case lw k=>cases h1 with|v h=>cases h with|c h=>cases h
 case lp k off=>
  obtain⟨b0,e0,e1⟩:=sW h0
  obtain⟨b1,e2,e3⟩:=sW h1
  simp only[Value.pointer.injEq,Option.some.injEq,Addr.mk.injEq,and_true] at e1 e3
  obtain⟨rfl,rfl⟩:=e1
  obtain⟨rfl,_⟩:=e3
  cases hH:H k with
  |cc sz cs=>
   simp only[hH,cond,Option.map_some,mQ,Option.some.injEq,List.cons.injEq,CV.op.injEq,and_true] at hl
   subst hl
   obtain⟨b2,ty2,arr2,q1,q2,_,q4,_⟩:=DT hB hH
   exact(qf q4 hx).elim
  |cells cs=>
   simp only[hH,cond] at hl
   cases hm:gv (lk H) cs with
   |none=>rw[hm] at hl;simp at hl
   |some l0=>
    rw[hm] at hl
    simp only[Option.map_some,mQ,Option.some.injEq,List.cons.injEq,CV.op.injEq,and_true] at hl
    subst hl
    obtain⟨c,hc,hcx⟩:=Dj hm hx
    obtain⟨b2,ty2,arr2,q1,q2,q3,q4,_⟩:=kI hB hH
    rw[e2] at q1
    simp only[Option.some.injEq,Value.pointer.injEq,Addr.mk.injEq,and_true] at q1
    subst q1
    rw[hw] at q2
    simp only[Option.some.injEq,Obj.cells.injEq] at q2
    obtain⟨rfl,_⟩:=q2
    have hi:i<arr'.toList.length:=by rw[←q3];exact(List.getElem?_eq_some_iff.1 hc).1
    have hv:=List.getElem?_eq_getElem hi
    have hcd:=q4 i c _ hc hv
    have hlp:∃m o,c= .lp m o:=by
         cases c with
         |lp m o=>exact⟨m,o,rfl⟩
         |c y=>
          exfalso
          revert hcd
          generalize arr'.toList[i]=u
          intro hcd
          cases hcd with
          |c hd=>
           cases y with
           |op is=>cases hd
           |_=>simp[lk,sH,iC] at hcx
         |lw k2=>
          exfalso
          simp only[lk,sH,iC] at hcx
          split at hcx
          ·cases hcx
          ·split at hcx<;>cases hcx
         |ls k2 a1 a2 a3=>
          exfalso
          simp only[lk,sH,iC] at hcx
          split at hcx
          ·rename_i sz' _ _
           cases hb:Nat.beq a1 sz'<;>rw[hb] at hcx<;>cases hcx
          ·cases hcx
         |_=>simp[lk,sH,iC] at hcx
    obtain⟨m,o,rfl⟩:=hlp
    have hg:=tQ (hk k 0 cs rfl hH) hc
    obtain⟨cs0,hH0⟩:∃cs0,H0 k= .cells cs0:=by
         cases h:H0 k<;>rw[h] at hg<;>first|exact⟨_,rfl⟩|(simp[n7] at hg)
    rw[hH0] at hg
    obtain⟨b3,ty3,arr3,p1,p2,p3,p4,_⟩:=kI hB0 hH0
    rw[e0] at p1
    simp only[Option.some.injEq,Value.pointer.injEq,Addr.mk.injEq,and_true] at p1
    subst p1
    rw[hw0] at p2
    simp only[Option.some.injEq,Obj.cells.injEq] at p2
    obtain⟨rfl,_⟩:=p2
    have hi0:i<arr.toList.length:=by rw[←p3];exact(List.getElem?_eq_some_iff.1 hg).1
    have hv0:=List.getElem?_eq_getElem hi0
    have hcd0:=p4 i _ _ hg hv0
    rw[hv,hv0]
    have hpm:=hp k 0 m rfl (by rw[hH0];exact List.mem_flatMap.2 ⟨_,List.mem_of_getElem? hg,by simp[PK]⟩)
    generalize arr'.toList[i]=u at hcd
    generalize arr.toList[i]=u0 at hcd0
    cases hcd with
    |lp g1=>
    cases hcd0 with
    |lp g2=>
    rw[hpm,g2] at g1
    simp only[Option.some.injEq,Value.pointer.injEq,Addr.mk.injEq,and_true] at g1
    rw[g1]
  |iu t e s0=>simp only[hH,cond,Option.map_some,mQ,Option.some.injEq,List.cons.injEq,and_true] at hl;cases hl
  |_=>simp only[hH] at hl;cases hl
theorem Fy{w0:World}{ok0:Nat→Prop}{ρ0:RM}{H0:HM}{F0:FM}(hB0:∀i,H0 i= .dead∨dd ρ0 w0 ok0 (H0 i) (ρ0 i) (F0 i))(hB:∀i,H i= .dead∨dd ρ w ok (H i) (ρ i) (F i)){s:SV}{v:Value}{l:List CV}
 (h0:aZ ρ0 w0 ok0 s v)(h1:aZ ρ w ok s v)(hl:(nw H s).map mQ=some l)(hk:∀k o cs,s= .lp k o→H k= .cells cs→mB cs (n7 (H0 k))=true)
 (hp:∀k o m,s= .lp k o→m∈(n7 (H0 k)).flatMap PK→ρ m=ρ0 m):Ar w0 w (lI v) l:=by
 by_cases hs:∃k off,s= .lp k off
 ·obtain⟨k,off,rfl⟩:=hs
  have hl':(ji H (.lp k 0)).map mQ=some l:=by
   cases off with
   |zero=>exact hl
   |succ o=>
    simp only[nw] at hl
    simp only[ji]
    cases hH:H k with
    |cc sz cs=>rw[hH] at hl;exact hl
    |cells cs=>
     rw[hH] at hl
     simp only at hl
     cases hm:gv (lk H) cs with
     |none=>rw[hm] at hl;cases hl
     |some l0=>rw[hm] at hl;simp only[hm];exact hl
    |_=>rw[hH] at hl;cases hl
  obtain⟨b,e0,rfl⟩:=sW h0
  have h1':aZ ρ w ok (.lp k 0) (.pointer (some ⟨b,0,none⟩)):=by
   obtain⟨b1,e2,e3⟩:=sW h1
   cases e3
   exact .v (.c (.lp e2))
  exact vk hB0 hB (.v (.c (.lp e0))) h1' hl' (fun k' o cs e hc=>by cases e;exact hk k off cs rfl hc) (fun k' o m e hm=>by cases e;exact hp k off m rfl hm)
 ·have e:nw H s=ji H s:=by cases s<;>first|rfl|exact(hs ⟨_,_,rfl⟩).elim
  rw[e] at hl
  have hv:lI v=v:=by
   unfold lI
   split
   ·exfalso
    cases s<;>simp only[ji] at hl
    case lp k off=>exact hs ⟨_,_,rfl⟩
    case m ss=>cases h1 with|v h=>cases h with|c h=>cases h
    case lw k=>cases h1 with|v h=>cases h with|c h=>cases h
    all_goals cases hl
   ·rfl
  rw[hv]
  exact vk hB0 hB h0 h1 hl hk hp
theorem Fo{s x:SV}(h:nw H s=some x):ji H s=some x∨∃cs o,x= .tup [.c (.op cs), .lp 0 o]:=by
 unfold nw at h
 split at h
 ·split at h
  ·injection h with h;exact .inr ⟨_,_,h.symm⟩
  ·split at h
   ·injection h with h;exact .inr ⟨_,_,h.symm⟩
   ·cases h
  ·cases h
 ·exact .inl h
theorem EU{s x:SV}{v:Value}(h:ji H s=some x)(hd:aZ ρ w ok s v):lI v=v:=by
 cases s<;>simp only[ji] at h
 case lp k off=>
  have:off=0:=by
   cases off with
   |zero=>rfl
   |succ o=>exfalso;revert h;cases H k<;>simp[cond,Nat.beq]
  subst this
  obtain⟨b,_,rfl⟩:=sW hd
  rfl
 case lw k=>
  obtain⟨_,a,n,c,rfl⟩:=tq hd
  rfl
 case m ss=>cases hd with|v h=>cases h with|c h=>cases h|m _ _=>rfl
 all_goals cases h
theorem rz{w0:World}(hB:∀i,H i= .dead∨dd ρ w ok (H i) (ρ i) (F i)):∀{ss:List SV} {os:List (Option (List CV))} {vs:List Value},KZ H ss os→ss.length=vs.length→(∀(j:Nat) s v,ss[j]? =some s→vs[j]? =some v→aZ ρ w ok s v)→
 (∀(j:Nat) s v cs,ss[j]? =some s→vs[j]? =some v→os[j]? =some (some cs)→(nw H s).map mQ=some cs→Ar w0 w (lI v) cs)→kH w0 w ok os vs ((AP H ss os).flatMap F)
 |ss,[],vs,_,_,_,_=>by
  have:AP H ss []=[]:=by cases ss<;>rfl
  rw[this]
  exact .nil
 |[],o::os,vs,h,_,_,_=>h.elim
 |s::ss,none::os,vs,h,hl,hd,hk=>by
  cases vs with
  |nil=>simp at hl
  |cons v vs=>exact .none (rz hB h (by simpa using hl) (fun j s v hs hv=>hd (j+1) s v hs hv) fun j s v cs hs hv ho hc=>hk (j+1) s v cs hs hv ho hc)
 |s::ss,some c::os,vs,h,hl,hd,hk=>by
  cases vs with
  |nil=>simp at hl
  |cons v vs=>
   have h0:=hd 0 s v rfl rfl
   have h2:=rz hB h.2 (by simpa using hl) (fun j s v hs hv=>hd (j+1) s v hs hv) fun j s v cs hs hv ho hc=>hk (j+1) s v cs hs hv ho hc
   have h3:Den w ok c (lI v).cells.toList ((en H s).flatMap F):=by
        have h4:=h.1
        cases hx:nw H s with
        |none=>rw[hx] at h4;cases h4
        |some x=>
         rw[hx] at h4
         simp only[Option.map_some,Option.some.injEq] at h4
         subst h4
         have h1:=vn hB (fun _ h=>h) hx h0
         generalize(en H s).flatMap F=g at h1
         rcases Fo hx with hx|⟨cs,o,rfl⟩
         ·rw[EU hx h0]
          cases h1 with
          |v h=>
           obtain⟨_,cc,cm,_⟩:=lx (aZ.v (h ρ))
           rcases xh hx with⟨y,rfl⟩|⟨cs,rfl⟩
           ·exact cc y rfl
           ·have hp:=cm _ rfl
            rw[yF]
            exact(jT (xO cs) hp.1 hp.2).1
          |o h=>have:=h.one;rw[kX (this v (by simp))];exact h
          |m h=>rw[yF];simpa[Value.cells] using h
          |off h=>rcases xh hx with⟨y,h⟩|⟨cs,h⟩<;>cases h
         ·cases h1 with
          |v h=>cases h ρ with|c h=>cases h
          |off h=>exact h
   have:=kH.some h3 (hk 0 s v c rfl rfl rfl h.1) h2
   simpa[AP] using this
end
section
variable{P:Program}{tbl:TT}
theorem enter{w:World}{ok:Nat→Prop}{args ss:List SV}{vs:List Value}{fs:List Nat}{bs:List (Nat × dE)}{np nt:Nat}(hok:∀b,ok b→b<w.heap.size)(hO:AL w ok args vs fs)(hnd:fs.Nodup)(hfs:∀b∈fs,b<w.heap.size∧¬ok b)
 (ha:fC args 0=some (ss,bs,np))(hn:args.length≤nt):∃(pv:RM) (F:FM),(∀i v,pv i=some v→i<np)∧ss.length=vs.length∧gy pv np∧(∀(j:Nat) s v,ss[j]? =some s→vs[j]? =some v→dZ pv w ok s v)∧
  St ⟨w,ok,(· ∈fs),pv⟩ nt (T0 ss) (H0 bs) pv F {tmps:=vs.toArray++Array.replicate (nt-vs.toArray.size) undef,defers:=[]} w:=by
 obtain⟨L,g,a1,a2,a3,a4,a5⟩:=qC ha hO
 let Γ:Cx:=⟨w,ok,(· ∈fs),mO L fun _=>none⟩
 have hnd':=a3.nodup
 have hR:∀e∈L,mO L (fun _=>none) e.nm=e.v:=by
  intro e he
  rw[(fX hnd' he (fun _=> .dead) (fun _=>[]) (fun _=>none)).2.2]
  obtain⟨u,hu,_⟩:=a3.den e he
  simp[l7,hu]
 have hmem0:Mem ⟨w,ok,(· ∈fs),fun _=>none⟩ (fun _=> .dead) (fun _=>none) (fun _=>[]) w:=
  ⟨fun _=> .dead,by simp,by simp,by simp,by simp,fun b hb=>⟨hok b hb,fun hf=>(hfs b hf).2 hb⟩,fun _ _ _=>rfl,Nat.le_refl _,rfl,rfl,rfl,by simp⟩
 have hg:∀b∈g,b∈fs:=fun b hb=>a4.subset hb
 have hin:∀e∈L,∀b∈e.f,b∈fs:=fun e he b hb=>hg b (by rw[←a3.flat];exact List.mem_flatten.2 ⟨e.f,List.mem_map.2 ⟨e,he,rfl⟩,hb⟩)
 have hF:∀i b,b∈oz L (fun _=>[]) i→∃e∈L,e.nm=i∧b∈e.f:=by
  intro i b hb
  by_cases hI:∃e∈L,e.nm=i
  ·obtain⟨e,he,rfl⟩:=hI
   rw[(fX hnd' he (fun _=> .dead) (fun _=>[]) (fun _=>none)).2.1] at hb
   exact⟨e,he,rfl,hb⟩
  ·rw[(kK (fun e he h'=>hI ⟨e,he,h'⟩) (fun _=> .dead) (fun _=>[]) (fun _=>none)).2.1] at hb
   cases hb
 have hflat:((L.map (·.f)).flatten).Nodup:=by rw[a3.flat];exact a4.nodup_iff.2 hnd
 have hokF:∀b,ok b→aL Γ (oz L fun _=>[]) w b:=fun b hb=>⟨hok b hb, .inl hb,fun⟨i,hi⟩=>by
  obtain⟨e,he,_,hbe⟩:=hF i b hi
  exact(hfs b (hin e he b hbe)).2 hb⟩
 have hnone:∀i,(∀e∈L,e.nm≠i)→we L (fun _=> .dead) i= .dead∧oz L (fun _=>[]) i=[]∧mO L (fun _=>none) i=none:=fun i h=>kK h _ _ _
 have hpv:∀i v,mO L (fun _=>none) i=some v→i<np:=by
  intro i v hv
  by_cases hI:∃e∈L,e.nm=i
  ·obtain⟨e,he,rfl⟩:=hI
   have:=a3.mem he
   omega
  ·rw[(hnone i fun e he h'=>hI ⟨e,he,h'⟩).2.2] at hv
   cases hv
 have hmem:Mem Γ (we L fun _=> .dead) (mO L fun _=>none) (oz L fun _=>[]) w:=by
  refine⟨fun i=> ?_,fun i j b hi hj=> ?_,fun i=> ?_,fun i b hb=> ?_,fun i b hb=> ?_,fun b hb=>⟨hok b hb,fun hf=>(hfs b hf).2 hb⟩,fun _ _ _=>rfl,Nat.le_refl _,rfl,rfl,rfl,fun i v hv=>hv⟩
  ·by_cases hI:∃e∈L,e.nm=i
   ·obtain⟨e,he,rfl⟩:=hI
    obtain⟨h1,h2,_⟩:=fX hnd' he (fun _=> .dead) (fun _=>[]) (fun _=>none)
    obtain⟨u,hu,hd⟩:=a3.den e he
    rw[h1,h2,hR e he,hu]
    exact(hd _ hR).mono (fun _ _=>rfl) hokF (fun _ _=>rfl) (Ext.refl _)
   ·obtain⟨h1,h2,h3⟩:=hnone i fun e he h'=>hI ⟨e,he,h'⟩
    rw[h1,h2]
    exact .dead
  ·obtain⟨e,he,rfl,hbe⟩:=hF i b hi
   obtain⟨e',he',rfl,hbe'⟩:=hF j b hj
   exact tu hflat hnd' he he' hbe hbe'
  ·by_cases hI:∃e∈L,e.nm=i
   ·obtain⟨e,he,rfl⟩:=hI
    rw[(fX hnd' he (fun _=> .dead) (fun _=>[]) (fun _=>none)).2.1]
    exact uq hflat he
   ·rw[(hnone i fun e he h'=>hI ⟨e,he,h'⟩).2.1];simp
  ·obtain⟨e,he,rfl,hbe⟩:=hF i b hb
   exact(hfs b (hin e he b hbe)).1
  ·obtain⟨e,he,rfl,hbe⟩:=hF i b hb
   exact .inl (hin e he b hbe)
 obtain⟨h5,h6⟩:=a5 _ hR
 have hlen:args.length=vs.length:=hO.length
 refine⟨mO L fun _=>none,oz L fun _=>[],fun i v hv=>hpv i v hv,h5,fun i hi=> ?_,fun j s v hs hv=> ?_, ?_⟩
 ·cases hv:mO L (fun _=>none) i with
  |none=>rfl
  |some v=>have:=hpv i v hv;omega
 ·exact h6 j s v hs hv
 ·refine⟨?_,rfl,by simp;omega,fun i=> ?_⟩
  ·rw[nE,a1] at hmem
   exact hmem
  ·unfold T0
   cases ha:ss[i]? with
   |none=>exact .any
   |some s=>
    have hi:i<vs.length:=by rw[←h5];exact(List.getElem?_eq_some_iff.1 ha).1
    have hvi:vs[i]? =some vs[i]:=List.getElem?_eq_getElem hi
    have:(vs.toArray++Array.replicate (nt-vs.toArray.size) undef).getD i undef=vs[i]:=by
     rw[Array.getD_eq_getD_getElem?,Array.getElem?_append_left (by simpa using hi)]
     simp[hi]
    simp only[]
    rw[this]
    exact .v ((h6 i s _ ha hvi).mono (fun _ _=>rfl) hokF (Ext.refl _))
theorem J9{w w':World}{ok:Nat→Prop}{fs:List Nat}{pv:RM}{F:FM}{fp:List Nat}{ks:List Nat}(hfp:fp=ks.flatMap F):∀b,aL ⟨w,ok,(· ∈fs),pv⟩ F w' b→x8 ok fs fp w w' b:=by
 rintro b ⟨h1,h2,h3⟩
 refine⟨h1,h2,fun hb=> ?_⟩
 rw[hfp] at hb
 obtain⟨i,_,hi⟩:=List.mem_flatMap.1 hb
 exact h3 ⟨i,hi⟩
theorem Dn{w w':World}{ok:Nat→Prop}{fs:List Nat}{pv:RM}{H:HM}{ρ:RM}{F:FM}(h:Mem ⟨w,ok,(· ∈fs),pv⟩ H ρ F w'):Grown fs w w':=
 ⟨h.os,h.tape,h.output,h.size,fun b hb hf=>h.frame b hb hf⟩
theorem GY{l:List SV}{vs:List Value}{ρ:RM}{w:World}{ok:Nat→Prop}(hl:l.length=vs.length)(hv:∀(j:Nat) s v,l[j]? =some s→vs[j]? =some v→aZ ρ w ok s v)(hV:(∃x,l=[x])∨∀(j:Nat) s v,l[j]? =some s→vs[j]? =some v→dZ ρ w ok s v):
 aZ ρ w ok (pd l) (if h:vs.toArray.size=1 then vs.toArray[0] else .tuple vs.toArray):=by
 match l,vs,hl with
 |[],[],_=>exact .tup (vs:=[]) rfl (by simp)
 |[x],[v],_=>exact hv 0 x v rfl rfl
 |x::y::l,v::u::vs,hl'=>
  rcases hV with⟨z,hz⟩|hV
  ·simp at hz
  ·have:=aZ.tup (ρ:=ρ) (w:=w) (ok:=ok) hl' hV
   simpa[pd] using this
def Lq:List Nat→Nat→Nat
 |[],m=>m
 |x::xs,m=>Lq xs (Nat.lor m (Nat.pow 2 x))
def ud:List Nat→Nat→(Nat→Prop)→Prop
 |[],m,K=>K m
 |x::xs,m,K=>lit x fun x=>lit (Nat.lor m (Nat.pow 2 x)) fun m=>ud xs m K
theorem AS:∀(l:List Nat) (m:Nat) (K:Nat→Prop),ud l m K=K (Lq l m)
 |[],_,_=>rfl
 |x::xs,m,K=>by simp only[ud,Fh,Lq];exact AS xs _ K
theorem BD{i:Nat}:∀{l:List Nat} {m:Nat},(i∈l∨m.testBit i=true)→(Lq l m).testBit i=true
 |[],m,h=>by
  rcases h with h|h
  ·cases h
  ·exact h
 |x::xs,m,h=>by
  refine BD (l:=xs) ?_
  rcases h with h|h
  ·rcases List.mem_cons.1 h with rfl|h
   ·right
    rw[p7]
    have:(Nat.pow 2 i).testBit i=true:=Nat.testBit_two_pow_self
    rw[this,Bool.or_true]
   ·exact .inl h
  ·right
   rw[p7,h];rfl
def PD(ss:List SV)(bs:List (Nat × dE)):Nat:=Lq (sZ ss bs) 0
def vE(l:List Nat)(ρ:RM):RM:=fun i=>if i∈l then ρ i else none
theorem tz{l:List Nat}{ρ:RM}{i:Nat}{v:Value}(h:vE l ρ i=some v):i∈l∧ρ i=some v:=by
 unfold vE at h
 split at h
 ·exact⟨by assumption,h⟩
 ·cases h
theorem qp{l:List Nat}{ρ:RM}{i:Nat}(h:i∈l):vE l ρ i=ρ i:=if_pos h
theorem bG.vE{ρ:RM}{w:World}{ok:Nat→Prop}{s:SV}{v:Value}{l:List Nat}(h:bG ρ w ok s v)(hl:∀i∈uB s,i∈l):bG (vE l ρ) w ok s v:=by
 cases h with
 |c h=>exact .c h
 |lp h=>exact .lp (by rw[qp (hl _ (by simp[uB]))];exact h)
 |le h=>exact .le (by rw[qp (hl _ (by simp[uB]))];exact h)
 |lw h=>exact .lw (by rw[qp (hl _ (by simp[uB]))];exact h)
 |ls h h1 h2 h3 h4=>exact .ls (by rw[qp (hl _ (by simp[uB]))];exact h) h1 h2 h3 h4
 |mp h=>exact .mp (by rw[qp (hl _ (by simp[uB]))];exact h)
theorem dZ.vE{ρ:RM}{w:World}{ok:Nat→Prop}{s:SV}{v:Value}{l:List Nat}(h:dZ ρ w ok s v)(hl:∀i∈Pa s,i∈l):dZ (vE l ρ) w ok s v:=by
 cases h with
 |c h=>
  refine .c (h.vE fun i hi=>hl i ?_)
  cases h<;>first|exact hi|(simp[uB] at hi)
 |a h1 h=>exact .a h1 h
 |m h1 h=>exact .m h1 fun j a v ha hv=>(h j a v ha hv).vE fun i hi=>hl i (List.mem_flatMap.2 ⟨a,List.mem_of_getElem? ha,hi⟩)
 |clo h1 h=>exact .clo h1 fun j a v ha hv=>(h j a v ha hv).vE fun i hi=>hl i (List.mem_flatMap.2 ⟨a,List.mem_of_getElem? ha,hi⟩)
theorem Kn{w:World}{ok:Nat→Prop}{args ss:List SV}{vs:List Value}{fs:List Nat}{bs:List (Nat × dE)}{np nt:Nat}(hok:∀b,ok b→b<w.heap.size)(hO:AL w ok args vs fs)(hnd:fs.Nodup)(hfs:∀b∈fs,b<w.heap.size∧¬ok b)
 (ha:fC args 0=some (ss,bs,np))(hn:args.length≤nt):∃(pv ρ0:RM) (F:FM),(∀m∈sZ ss bs,pv m=ρ0 m)∧Ext pv ρ0∧qN ⟨w,ok,(· ∈fs),pv⟩ (PD ss bs)∧ss.length=vs.length∧gy ρ0 np∧(∀(j:Nat) s v,ss[j]? =some s→vs[j]? =some v→dZ pv w ok s v)∧
  St ⟨w,ok,(· ∈fs),pv⟩ nt (T0 ss) (H0 bs) ρ0 F {tmps:=vs.toArray++Array.replicate (nt-vs.toArray.size) undef,defers:=[]} w:=by
 obtain⟨pv,F,hpin,hlen,hfree,hargs,hS⟩:=enter hok hO hnd hfs ha hn
 refine⟨Go.KA.vE (sZ ss bs) pv,pv,F,fun m hm=>qp hm,fun i v hv=>(tz hv).2,fun i v hv=> ?_,hlen,hfree,fun j s v hs hv=>(hargs j s v hs hv).vE fun i hi=>List.mem_append_left _ (List.mem_flatMap.2 ⟨s,List.mem_of_getElem? hs,hi⟩), ?_⟩
 ·unfold PD
  rw[Bo]
  exact BD (.inl (tz hv).1)
 ·obtain⟨m,h1,h2,h3⟩:=hS
  exact⟨⟨m.blocks,m.jz,m.nodup,m.lt,m.src,m.mU,m.frame,m.size,m.os,m.tape,m.output,fun i v hv=>m.yG i v (tz hv).2⟩,h1,h2,h3⟩
theorem C9:∀{bs:List (Nat × dE)} {H:HM} {k:Nat} {b:dE},cY bs H k=b→(k,b)∈bs∨H k=b
 |[],H,k,b,h=> .inr h
 |(j,c)::r,H,k,b,h=>by
  rcases C9 (bs:=r) h with h|h
  ·exact .inl (by simp[h])
  ·unfold dA at h
   cases hb:Nat.beq k j with
   |true=>
    have:=Nat.eq_of_beq_eq_true hb
    subst this
    rw[hb] at h
    simp only[cond] at h
    subst h
    exact .inl (by simp)
   |false=>
    rw[hb] at h
    exact .inr h
theorem Oj{bs:List (Nat × dE)}{k:Nat}{b:dE}(h:H0 bs k=b)(hb:b≠ .dead):(k,b)∈bs:=by
 rcases C9 h with h|h
 ·exact h
 ·exact absurd h.symm hb
theorem rY(da:dM P tbl)(hmix:P.follows .mixedOrders=true){f:Nat}{fn:Func}{c:Code}{args ss:List SV}{α:Type}{φ:α→Prop}{outs:α→List (Option (List CV))}{r:α→SV}{bs:List (Nat × dE)}{np:Nat}{ann:Nat→Option Inv}{gh:Nat→Bool}(hf:P.funcs[f]? =some fn)(hname:(fn.name== "runtime.NumGoroutine")=false)
 (hb:fn.body=some c)(hn:Nat.ble args.length fn.ntmps=true)(ha:fC args 0=some (ss,bs,np)){Kf:Nat→X→TM→HM→Nat→Prop}
 (hK:∀{Γ:Cx} {pm nt:Nat} {ρ:RM} {F:FM} {a:Act} {w:World} {T:TM} {H:HM} {n:Nat} {e:X},qN Γ pm→Kf pm e T H n→St Γ nt T H ρ F a w→gy ρ n→∃T' H' ρ' F' x,φ x∧FT tbl fn.results.toList (H0 bs) ss (outs x) (r x) e T' H' n∧St Γ nt T' H' ρ' F' a w∧gy ρ' n)
 (h:ud (sZ ss bs) 0 fun pm=>BB P tbl fn.ntmps pm ann gh c (Kf pm) (T0 ss) (H0 bs) np):gJ P f args φ outs r:=by
 refine⟨⟨fn,hf,hname,by rw[hb];rfl⟩,fun w ok vs fs hok hO hnd hfs=> ?_⟩
 refine calls_of_wp hf hb ?_
 obtain⟨pv,ρ0,F0,hpv,hpe,hpin,hlen,hfree,hargs,hS⟩:=Kn hok hO hnd hfs ha (Nat.le_of_ble_eq_true hn)
 rw[AS,oc] at h
 refine gP da hmix hpin c h ?_ hS hfree
 intro e T H n ρ F a w' hk hs hf'
 obtain⟨T,H,ρ,F,x,hx,hk,hs,hf'⟩:=hK hpin hk hs hf'
 have fin:qO tbl fn.results.toList T H (fun l=>cond (fH (wi H (pd l)++AP H ss (outs x))&&BX (H0 bs) H ss (outs x)) (match C8 H (pd l) with|some s=>aq (s=r x) (KZ H ss (outs x))|none=>False) False)→
  a.defers=[]∧∃v,(results fn a.tmps).run P w'= .ok v w'∧∃x,φ x∧∃v' fr fo,Ending.returned v= .returned v'∧Grown fs w w'∧(fr++fo).Nodup∧(∀b∈fr++fo,(b∈fs∨w.heap.size≤b)∧b<w'.heap.size)∧
    OT w' (x8 ok fs (fr++fo) w w') (r x) v' fr∧kH w w' (x8 ok fs (fr++fo) w w') (outs x) vs fo:=by
  intro hk
  obtain⟨l,vs',hK,hrun,hl',hv'⟩:=px da hs hk
  obtain⟨hnn,hK⟩:=fY hK
  rw[Bool.and_eq_true] at hnn
  obtain⟨hnn,hkb⟩:=hnn
  split at hK
  case h_2=>exact hK.elim
  rename_i s hcons
  obtain⟨hsr,hout⟩:=hK
  rw[hsr] at hcons
  have hB:=hs.mem.hb (l9.refl H)
  have hV:(∃x,l=[x])∨∀(j:Nat) s v,l[j]? =some s→vs'[j]? =some v→dZ ρ w' (aL ⟨w,ok,(· ∈fs),pv⟩ F w') s v:=by
   match l with
   |[]=>right;simp
   |[x]=>exact .inl ⟨x,rfl⟩
   |x::y::l=>
    right
    intro j s v hs0 hv0
    have h3:=hv' j s v hs0 hv0
    have hsome:∃s1,qD H s=some s1:=by
     simp only[pd,C8] at hcons
     split at hcons
     ·rename_i l0 hl0
      have key:∀(ss ss':List SV),mo (qD H) ss=some ss'→∀(j:Nat) s0,ss[j]? =some s0→∃s1,qD H s0=some s1:=by
          intro ss
          induction ss with
          |nil=>intro _ _ j s0 h;simp at h
          |cons a as ih=>
           intro ss' hm' j s0 hj
           simp only[mo] at hm'
           split at hm'
           ·rename_i y0 ys hy hys
            cases j with
            |zero=>simp at hj;subst hj;exact⟨_,hy⟩
            |succ j=>exact ih ys hys j s0 (by simpa using hj)
           ·cases hm'
      exact key _ _ hl0 j s hs0
     ·cases hcons
    obtain⟨s1,hs1⟩:=hsome
    refine h3.vc ?_ ?_
    ·rintro rfl
     simp[qD] at hs1
    ·rintro zs rfl
     simp[qD] at hs1
  have hT:=GY hl' hv' hV
  have h1:=Ec hB hcons hT
  have hlen':ss.length=vs.length:=hlen
  have hT1:∀(j:Nat) s v,ss[j]? =some s→vs[j]? =some v→aZ ρ w' (aL ⟨w,ok,(· ∈fs),pv⟩ F w') s v:=fun j s v hs0 hv0=> .v ((hargs j s v hs0 hv0).mono (fun b hb=>hs.mem.frame b (hs.mem.mU b hb).1 (hs.mem.mU b hb).2) (fun b hb=>⟨Nat.lt_of_lt_of_le (hs.mem.mU b hb).1 hs.mem.size, .inl hb,fun⟨i,hi⟩=>by
   rcases hs.mem.src i b hi with h1|h1
   ·exact(hs.mem.mU b hb).2 h1
   ·have:=(hs.mem.mU b hb).1;omega⟩) fun i u hu=>hs.mem.yG i u hu)
  have hB0:=hS.mem.hb (l9.refl (H0 bs))
  have h2:=rz (w0:=w) (vs:=vs) hB hout hlen' hT1 fun j s v cs hs0 hv0 ho hc=>Fy hB0 hB (.v ((hargs j s v hs0 hv0).mono (fun _ _=>rfl) (fun b hb=>⟨(hS.mem.mU b hb).1, .inl hb,fun⟨i,hi⟩=>by
        rcases hS.mem.src i b hi with h1|h1
        ·exact(hS.mem.mU b hb).2 h1
        ·exact absurd h1 (Nat.not_le.2 (hS.mem.mU b hb).1)⟩) hpe)) (hT1 j s v hs0 hv0) hc
   (fun k o cs e hH=>zB hkb (e▸hs0) ho hH) fun k o m e hm=>by
        obtain⟨c,hc1,hc2⟩:=List.mem_flatMap.1 hm
        have hbs:∀cs,H0 bs k= .cells cs→(k,dE.cells cs)∈bs:=fun cs h=>Oj h (by simp)
        cases hH:H0 bs k<;>rw[hH] at hc1<;>simp only[n7,List.not_mem_nil] at hc1
        rename_i cs0
        have hmp:m∈sZ ss bs:=List.mem_append_right _ (List.mem_flatMap.2 ⟨_,hbs cs0 hH,by rw[hH] at hm;exact hm⟩)
        have hm0:=hpv m hmp
        obtain⟨b3,ty3,arr3,p1,p2,p3,p4,_⟩:=kI hB0 hH
        obtain⟨i,hi,hci⟩:=List.mem_iff_getElem.1 hc1
        have hi0:i<arr3.toList.length:=by rw[←p3];exact hi
        have hcd0:=p4 i c _ (by rw[List.getElem?_eq_getElem hi,hci]) (List.getElem?_eq_getElem hi0)
        generalize arr3.toList[i]=u0 at hcd0
        cases c<;>simp only[PK,List.mem_singleton,List.not_mem_nil] at hc2
        subst hc2
        cases hcd0 with
        |lp g2=>rw[g2,hs.mem.yG m _ (hm0.trans g2)]
  have hnod:=ld hs.mem (fm hnn)
  rw[List.flatMap_append] at hnod
  refine⟨hs.defers,_,hrun,x,hx,_,_,_,rfl,Dn hs.mem,hnod,fun b hb=> ?_,h1.NY (J9 (ks:=wi H (pd l)++AP H ss (outs x)) (by rw[List.flatMap_append])),h2.mono (J9 (ks:=wi H (pd l)++AP H ss (outs x)) (by rw[List.flatMap_append]))⟩
  rw[←List.flatMap_append] at hb
  obtain⟨i,_,hi⟩:=List.mem_flatMap.1 hb
  refine⟨?_,hs.mem.lt i b hi⟩
  exact hs.mem.src i b hi
 cases e with
 |normal=>exact fin hk
 |ret=>exact fin hk
 |exit i=>exact hk.elim
theorem sG(da:dM P tbl)(hmix:P.follows .mixedOrders=true){f:Nat}{fn:Func}{c:Code}{args ss:List SV}{outs:List (Option (List CV))}{r:SV}{bs:List (Nat × dE)}{np:Nat}{ann:Nat→Option Inv}{gh:Nat→Bool}(hf:P.funcs[f]? =some fn)(hname:(fn.name== "runtime.NumGoroutine")=false)
 (hb:fn.body=some c)(hn:Nat.ble args.length fn.ntmps=true)(ha:fC args 0=some (ss,bs,np)){Kf:Nat→X→TM→HM→Nat→Prop}
 (hK:∀{Γ:Cx} {pm nt:Nat} {ρ:RM} {F:FM} {a:Act} {w:World} {T:TM} {H:HM} {n:Nat} {e:X},qN Γ pm→Kf pm e T H n→St Γ nt T H ρ F a w→gy ρ n→∃T' H' ρ' F',FT tbl fn.results.toList (H0 bs) ss outs r e T' H' n∧St Γ nt T' H' ρ' F' a w∧gy ρ' n)
 (h:ud (sZ ss bs) 0 fun pm=>BB P tbl fn.ntmps pm ann gh c (Kf pm) (T0 ss) (H0 bs) np):ah P f args outs r:=
 gJ.QO (φ:=fun _:Unit=>True) (rY da hmix hf hname hb hn ha (outs:=fun _=>outs) (r:=fun _=>r) (fun hpin hk hs hf=>by
  obtain⟨T',H',ρ',F',h1,h2,h3⟩:=hK hpin hk hs hf
  exact⟨T',H',ρ',F',(),trivial,h1,h2,h3⟩) h)
def Ob{α:Type}(tbl:TT)(rs:List ResultVar)(H0:HM)(ss:List SV)(φ:α→Prop)(outs:α→List (Option (List CV)))(r:α→SV)(np:Nat):X→TM→HM→Nat→Prop
 | .exit _,_,_,_=>False
 |e,T,H,n=>Gh np n T H fun T H=>∃x,φ x∧FT tbl rs H0 ss (outs x) (r x) e T H n
theorem Cw(da:dM P tbl)(hmix:P.follows .mixedOrders=true){f:Nat}{fn:Func}{c:Code}{args ss:List SV}{α:Type}{φ:α→Prop}{outs:α→List (Option (List CV))}{r:α→SV}{bs:List (Nat × dE)}{np:Nat}{ann:Nat→Option Inv}{gh:Nat→Bool}(hf:P.funcs[f]? =some fn)(hname:(fn.name== "runtime.NumGoroutine")=false)
 (hb:fn.body=some c)(hn:Nat.ble args.length fn.ntmps=true)(ha:fC args 0=some (ss,bs,np))(h:ud (sZ ss bs) 0 fun pm=>BB P tbl fn.ntmps pm ann gh c (Ob tbl fn.results.toList (H0 bs) ss φ outs r pm) (T0 ss) (H0 bs) np):gJ P f args φ outs r:=rY da hmix hf hname hb hn ha (Kf:=fun pm=>Ob tbl fn.results.toList (H0 bs) ss φ outs r pm) (fun{Γ pm nt ρ F a w T H n e} hpin hk hs hf=>by
 cases e with
 |exit i=>exact hk.elim
 |normal=>
  obtain⟨T',H',ρ',F',⟨x,hx,k1⟩,k2,k3⟩:=lu hpin hk hs hf
  exact⟨T',H',ρ',F',x,hx,k1,k2,k3⟩
 |ret=>
  obtain⟨T',H',ρ',F',⟨x,hx,k1⟩,k2,k3⟩:=lu hpin hk hs hf
  exact⟨T',H',ρ',F',x,hx,k1,k2,k3⟩) h
def Lk(tbl:TT)(rs:List ResultVar)(H0:HM)(ss:List SV)(outs:List (Option (List CV)))(r:SV)(np:Nat):X→TM→HM→Nat→Prop
 | .exit _,_,_,_=>False
 |e,T,H,n=>Gh np n T H fun T H=>FT tbl rs H0 ss outs r e T H n
theorem CU(da:dM P tbl)(hmix:P.follows .mixedOrders=true){f:Nat}{fn:Func}{c:Code}{args ss:List SV}{outs:List (Option (List CV))}{r:SV}{bs:List (Nat × dE)}{np:Nat}{ann:Nat→Option Inv}{gh:Nat→Bool}(hf:P.funcs[f]? =some fn)(hname:(fn.name== "runtime.NumGoroutine")=false)
 (hb:fn.body=some c)(hn:Nat.ble args.length fn.ntmps=true)(ha:fC args 0=some (ss,bs,np))(h:ud (sZ ss bs) 0 fun pm=>BB P tbl fn.ntmps pm ann gh c (FT tbl fn.results.toList (H0 bs) ss outs r) (T0 ss) (H0 bs) np):ah P f args outs r:=sG da hmix hf hname hb hn ha (Kf:=fun _=>FT tbl fn.results.toList (H0 bs) ss outs r) (fun _ hk hs hf=>⟨_,_,_,_,hk,hs,hf⟩) h
theorem Bu(da:dM P tbl)(hmix:P.follows .mixedOrders=true){f:Nat}{fn:Func}{c:Code}{args ss:List SV}{outs:List (Option (List CV))}{r:SV}{bs:List (Nat × dE)}{np:Nat}{ann:Nat→Option Inv}{gh:Nat→Bool}(hf:P.funcs[f]? =some fn)(hname:(fn.name== "runtime.NumGoroutine")=false)
 (hb:fn.body=some c)(hn:Nat.ble args.length fn.ntmps=true)(ha:fC args 0=some (ss,bs,np))(h:ud (sZ ss bs) 0 fun pm=>BB P tbl fn.ntmps pm ann gh c (Lk tbl fn.results.toList (H0 bs) ss outs r pm) (T0 ss) (H0 bs) np):ah P f args outs r:=sG da hmix hf hname hb hn ha (Kf:=fun pm=>Lk tbl fn.results.toList (H0 bs) ss outs r pm) (fun{Γ pm nt ρ F a w T H n e} hpin hk hs hf=>by
 cases e with
 |exit i=>exact hk.elim
 |normal=>
  obtain⟨T',H',ρ',F',k1,k2,k3⟩:=lu hpin hk hs hf
  exact⟨T',H',ρ',F',k1,k2,k3⟩
 |ret=>
  obtain⟨T',H',ρ',F',k1,k2,k3⟩:=lu hpin hk hs hf
  exact⟨T',H',ρ',F',k1,k2,k3⟩) h
theorem dF(da:dM P tbl)(hmix:P.follows .mixedOrders=true){f:Nat}{fn:Func}{c:Code}{args ss:List SV}{r:SV}{bs:List (Nat × dE)}{np:Nat}{ann:Nat→Option Inv}{gh:Nat→Bool}(hf:P.funcs[f]? =some fn)(hname:(fn.name== "runtime.NumGoroutine")=false)
 (hb:fn.body=some c)(hn:Nat.ble args.length fn.ntmps=true)(ha:fC args 0=some (ss,bs,np))(h:ud (sZ ss bs) 0 fun pm=>BB P tbl fn.ntmps pm ann gh c (P4 tbl fn.results.toList r) (T0 ss) (H0 bs) np):aD P f args r:=by
 refine⟨⟨fn,hf,hname,by rw[hb];rfl⟩,fun w ok vs fs hok hO hnd hfs=> ?_⟩
 refine calls_of_wp hf hb ?_
 obtain⟨pv,ρ0,F0,hpv,hpe,hpin,hlen,hfree,hargs,hS⟩:=Kn hok hO hnd hfs ha (Nat.le_of_ble_eq_true hn)
 rw[AS,oc] at h
 refine gP da hmix hpin c h ?_ hS hfree
 intro e T H n ρ F a w' hk hs hf'
 have fin:qO tbl fn.results.toList T H (fun l=>match DZ H (pd l) with|some s=>bh (cO s=r)|none=>False)→
  a.defers=[]∧∃v,(results fn a.tmps).run P w'= .ok v w'∧∃v' fr fo,Ending.returned v= .returned v'∧Grown fs w w'∧(fr++fo).Nodup∧(∀b∈fr++fo,(b∈fs∨w.heap.size≤b)∧b<w'.heap.size)∧
    OT w' (x8 ok fs (fr++fo) w w') r v' fr∧kH w w' (x8 ok fs (fr++fo) w w') [] vs fo:=by
  intro hk
  obtain⟨l,vs',hK,hrun,hl',hv'⟩:=px da hs hk
  split at hK
  case h_2=>exact hK.elim
  rename_i s hview
  have:=hK.h
  subst this
  have hB:=hs.mem.hb (l9.refl H)
  have hokv:∀b,aL ⟨w,ok,(· ∈fs),pv⟩ F w' b→x8 ok fs ([]++[]) w w' b:=fun b hb=>⟨hb.1,hb.2.1,by simp⟩
  have hF:∀i,H i≠ .dead→∀b∈F i,x8 ok fs ([]++[]) w w' b:=fun i _ b hb=>⟨hs.mem.lt i b hb, .inr (hs.mem.src i b hb),by simp⟩
  refine⟨hs.defers,_,hrun,_,[],[],rfl,Dn hs.mem,by simp,by simp,Na ?_, .nil⟩
  have hV:∀{x s:SV} {v:Value},gR H x=some s→aZ ρ w' (aL ⟨w,ok,(· ∈fs),pv⟩ F w') x v→jn w' (x8 ok fs ([]++[]) w w') s v []:=fun hx hT=> .v (ml hB hokv hF hx (Bx hx hT))
  match l,vs',hl' with
  |[],[],_=>
   simp only[pd,DZ,mo,Option.some.injEq] at hview
   subst hview
   exact .tup (vs:=[]) .nil
  |[x],[v],_=>
   have h0:=hv' 0 x v rfl rfl
   simp only[pd] at hview
   unfold DZ at hview
   split at hview
   ·rename_i zs
    split at hview
    ·rename_i l0 hl0
     injection hview with hview
     subst hview
     cases h0 with
     |v h0=>cases h0 with|c h0=>cases h0
     |tup hlen0 hh=>exact .tup (nD (Hv:=H) hB hokv hF hl0 hlen0 hh)
    ·cases hview
   ·exact .v (hV hview h0)
  |x::y::l,v::u::vs',hl'=>
   simp only[pd,DZ] at hview
   split at hview
   ·rename_i l0 hl0
    injection hview with hview
    subst hview
    have:=nD (Hv:=H) hB hokv hF hl0 hl' fun j s v hs0 hv0=>by
     have h3:=hv' j s v hs0 hv0
     have hsome:∃s1,gR H s=some s1:=by
      have key:∀(ss ss':List SV),mo (gR H) ss=some ss'→∀(j:Nat) s0,ss[j]? =some s0→∃s1,gR H s0=some s1:=by
       intro ss
       induction ss with
       |nil=>intro _ _ j s0 h;simp at h
       |cons a as ih=>
        intro ss' hm' j s0 hj
        simp only[mo] at hm'
        split at hm'
        ·rename_i y0 ys hy hys
         cases j with
         |zero=>simp at hj;subst hj;exact⟨_,hy⟩
         |succ j=>exact ih ys hys j s0 (by simpa using hj)
        ·cases hm'
      exact key _ _ hl0 j s hs0
     obtain⟨s1,hs1⟩:=hsome
     exact Bx hs1 h3
    have h4:=OT.tup this
    simpa using h4
   ·cases hview
 cases e with
 |normal=>exact fin hk
 |ret=>exact fin hk
 |exit i=>exact hk.elim
inductive FQ(H:HM):HM→List (Nat × dE)→Prop
 |refl:FQ H H []
 |step {H':HM} {ws bs:List (Nat × dE)} (h:FQ H H' ws):FQ H (cY bs H') (ws++bs)
theorem FQ.eq{H H':HM}{ws:List (Nat × dE)}(h:FQ H H' ws):H'=cY ws H:=by
 induction h with
 |refl=>rfl
 |step h ih=>rw[mF,←ih]
theorem FQ.one{H H':HM}{ws:List (Nat × dE)}{j:Nat}{b:dE}(h:FQ H H' ws):FQ H (dA H' j b) (ws++[(j,b)]):=FQ.step (bs:=[(j,b)]) h
theorem FQ.iK{H:HM}:∀{l:List (Nat × dE)} {H':HM} {ws:List (Nat × dE)},FQ H H' ws→FQ H (iK l H') (ws++l.reverse)
 |[],H',ws,h=>by rw[List.reverse_nil,List.append_nil];exact h
 |(k,b)::r,H',ws,h=>by
  have:=(FQ.iK (l:=r) h).one (j:=k) (b:=b)
  rw[List.append_assoc] at this
  rw[List.reverse_cons]
  exact this
def NA:SV→Bool
 | .any=>false
 | .tup _=>false
 |_=>true
def Fs:List SV→Bool
 |[_]=>true
 |l=>l.all NA
inductive uo(H0:HM)(n0:Nat)(K:gI→Prop)(s:SV)(H:HM)(n:Nat):Prop
 |mk (ws:List (Nat × dE)) (hu:FQ H0 H ws) (hn:Nat.ble n0 n=true) (k:K ⟨s,ws,n-n0,[]⟩)
inductive kC(H:HM):HM→(List (Nat × dE)→Prop)→Prop
 |refl {K} (k:K []):kC H H K
 |step {H':HM} {bs:List (Nat × dE)} {K} (h:kC H H' fun ws=>K (ws++bs)):kC H (cY bs H') K
 |one {H':HM} {j:Nat} {b:dE} {K} (h:kC H H' fun ws=>K (ws++[(j,b)])):kC H (dA H' j b) K
 |iK {H':HM} {l:List (Nat × dE)} {K} (h:kC H H' fun ws=>K (ws++l.reverse)):kC H (KA.iK l H') K
theorem kC.ex{H H':HM}{K:List (Nat × dE)→Prop}(h:kC H H' K):∃ws,FQ H H' ws∧K ws:=by
 induction h with
 |refl k=>exact⟨_, .refl,k⟩
 |step _ ih=>obtain⟨ws,h1,h2⟩:=ih;exact⟨_,h1.step,h2⟩
 |one _ ih=>obtain⟨ws,h1,h2⟩:=ih;exact⟨_,h1.one,h2⟩
 |iK _ ih=>obtain⟨ws,h1,h2⟩:=ih;exact⟨_,h1.iK,h2⟩
theorem uo.of{H0:HM}{n0:Nat}{K:gI→Prop}{s:SV}{H:HM}{n:Nat}(hn:Nat.ble n0 n=true)(h:kC H0 H fun ws=>K ⟨s,ws,n-n0,[]⟩):uo H0 n0 K s H n:=by
 obtain⟨ws,h1,h2⟩:=h.ex
 exact .mk ws h1 hn h2
def Qh(tbl:TT)(rs:List ResultVar)(H0:HM)(n0:Nat)(K:gI→Prop):X→TM→HM→Nat→Prop
 | .exit _,_,_,_=>False
 |_,T,H,n=>qO tbl rs T H fun l=>cond (Fs l) (uo H0 n0 K (pd l) H n) False
theorem qi{Γ:Cx}{H:HM}{ρ:RM}{F F':FM}{w w':World}(hm:Mem Γ H ρ F w):aL ⟨w,aL Γ F w,fun b=>∃i,b∈F i,ρ⟩ F' w'=aL Γ F' w':=by
 funext b
 apply propext
 unfold aL
 constructor
 ·rintro⟨h1,h2,h3⟩
  refine⟨h1, ?_,h3⟩
  rcases h2 with h2|⟨i,h2⟩|h2
  ·exact h2.2.1
  ·exact .inr (hm.src i b h2)
  ·exact .inr (.inr (Nat.le_trans hm.size h2))
 ·rintro⟨h1,h2,h3⟩
  refine⟨h1, ?_,h3⟩
  by_cases hb:b<w.heap.size
  ·by_cases hi:∃i,b∈F i
   ·exact .inr (.inl hi)
   ·exact .inl ⟨hb,h2,hi⟩
  ·exact .inr (.inr (by simpa using hb))
theorem pn(da:dM P tbl)(hmix:P.follows .mixedOrders=true){f:Nat}{fn:Func}{c:Code}{args:List SV}{H:HM}{n pm:Nat}{K:gI→Prop}{ann:Nat→Option Inv}{gh:Nat→Bool}(hf:P.funcs[f]? =some fn)(hname:(fn.name== "runtime.NumGoroutine")=false)
 (hb:fn.body=some c)(hn:Nat.ble args.length fn.ntmps=true)(hpm:2^n-1=pm)(h:BB P tbl fn.ntmps pm ann gh c (Qh tbl fn.results.toList H n K) (T0 args) H n):NU P f args H n K:=by
 intro Γ ρ F w vs hm hfree hfull hlen hargs
 refine⟨⟨fn,hf,hname,by rw[hb];rfl⟩, ?_⟩
 refine calls_of_wp hf hb ?_
 have hpin:qN ⟨w,aL Γ F w,fun b=>∃i,b∈F i,ρ⟩ pm:=fun i v hv=>by
  have hi:i<n:=Nat.lt_of_not_le fun h=>by
   have h0:ρ i=some v:=hv
   rw[hfree i h] at h0
   cases h0
  rw[Bo,←hpm,Nat.testBit_two_pow_sub_one]
  exact decide_eq_true hi
 have hle:=Nat.le_of_ble_eq_true hn
 have hS:St ⟨w,aL Γ F w,fun b=>∃i,b∈F i,ρ⟩ fn.ntmps (T0 args) H ρ F {tmps:=vs.toArray++Array.replicate (fn.ntmps-vs.toArray.size) undef,defers:=[]} w:=by
  refine⟨⟨fun i=> ?_,hm.jz,hm.nodup,hm.lt,fun i b hb=> .inl ⟨i,hb⟩,fun b hb=>⟨hb.1,hb.2.2⟩,fun _ _ _=>rfl,Nat.le_refl _,rfl,rfl,rfl,fun i v h=>h⟩,rfl, ?_,fun i=> ?_⟩
  ·rw[qi hm];exact hm.blocks i
  ·simp;omega
  ·rw[qi hm]
   unfold T0
   split
   ·rename_i s hs
    have hi:i<vs.length:=by rw[←hlen];exact(List.getElem?_eq_some_iff.1 hs).1
    have:=hargs i s vs[i] hs (List.getElem?_eq_getElem hi)
    simpa[Array.getD_eq_getD_getElem?,Array.getElem?_append,hi] using this
   ·exact .any
 rw[oc] at h
 refine gP da hmix hpin c h ?_ hS hfree
 intro e T H' n' ρ' F' a w' hk hs hf'
 have fin:qO tbl fn.results.toList T H' (fun l=>cond (Fs l) (uo H n K (pd l) H' n') False)→a.defers=[]∧∃v,(results fn a.tmps).run P w'= .ok v w'∧lg Γ H ρ F w n K (.returned v) w':=by
  intro hk
  obtain⟨l,vs',hK,hrun,hl',hv'⟩:=px da hs hk
  obtain⟨hp,⟨ws,hu,hnn,hK2⟩⟩:=fY hK
  have hu:=hu.eq
  subst hu
  have hnn:=Nat.le_of_ble_eq_true hnn
  rw[qi hm] at hv'
  have hV:(∃x,l=[x])∨∀(j:Nat) s v,l[j]? =some s→vs'[j]? =some v→dZ ρ' w' (aL Γ F' w') s v:=by
   by_cases h1:∃x,l=[x]
   ·exact .inl h1
   ·right
    intro j s v hs0 hv0
    have hp:l.all NA=true:=by
     unfold Fs at hp
     split at hp
     ·exact absurd ⟨_,rfl⟩ h1
     ·exact hp
    have h3:=hv' j s v hs0 hv0
    have h4:=List.all_eq_true.1 hp s (List.mem_of_getElem? hs0)
    refine h3.vc ?_ ?_
    ·rintro rfl;cases h4
    ·rintro zs rfl;cases h4
  have hext:Ext ρ ρ':=fun i v h=>hs.mem.yG i v h
  have hsz:w.heap.size≤w'.heap.size:=hs.mem.size
  have hfr:∀b,b<w.heap.size→(¬∃i,b∈F i)→w'.heap[b]? =w.heap[b]? :=hs.mem.frame
  have hsrc:∀i,∀b∈F' i,(∃i,b∈F i)∨w.heap.size≤b:=hs.mem.src
  refine⟨hs.defers,_,hrun,⟨pd l,ws,n'-n,[]⟩,ρ',F',_,rfl,hK2,hext,fun i hi=> ?_, ?_,fun b hb=> ?_,fun b hb=>hfr b hb.1 hb.2.2,GY hl' hv' hV⟩
  ·have h1:¬i<n:=fun h=>by
        cases hv:ρ i with
        |none=>exact hfull i h hv
        |some v=>exact hi (by rw[hext i v hv,hv])
   have h2:¬n'≤i:=fun h=>hi (by rw[hf' i h,hfree i (by omega)])
   exact⟨by omega,by show i<n+(n'-n);omega⟩
  ·refine⟨fun i=> ?_,hs.mem.jz,hs.mem.nodup,hs.mem.lt,fun i b hb=> ?_,hm.mU,fun b h1 h2=> ?_,Nat.le_trans hm.size hsz,hs.mem.os.trans hm.os,hs.mem.tape.trans hm.tape,hs.mem.output.trans hm.output,fun i v h=>hext i v (hm.yG i v h)⟩
   ·have:=hs.mem.blocks i
    rw[qi hm] at this
    exact this
   ·rcases hsrc i b hb with⟨j,h⟩|h
    ·exact hm.src j b h
    ·exact .inr (Nat.le_trans hm.size h)
   ·rw[hfr b (Nat.lt_of_lt_of_le h1 hm.size) fun⟨i,hi⟩=>by
     rcases hm.src i b hi with h|h
     ·exact h2 h
     ·omega]
    exact hm.frame b h1 h2
  ·refine⟨Nat.lt_of_lt_of_le hb.1 hsz,hb.2.1,fun⟨i,hi⟩=> ?_⟩
   rcases hsrc i b hi with h|h
   ·exact hb.2.2 h
   ·have:=hb.1;omega
 cases e with
 |normal=>exact fin hk
 |ret=>exact fin hk
 |exit i=>exact hk.elim
end
end Go.KA
