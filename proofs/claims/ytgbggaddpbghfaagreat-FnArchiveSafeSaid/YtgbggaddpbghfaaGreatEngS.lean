/- Part of a proof engine for functions of the given program: what an operation, a loop and a call compute, symbolically. No conditions. -/
import Derived.Test.YtgbggaddpbghfaaGreatEngR
namespace Go.KA
open Go Go.RowKit
structure bP(p:Prop):Prop where
 h:p
def T0(args:List SV):TM:=fun i=>match args[i]? with|some s=>s|none=> .any
def H0(bs:List (Nat × dW)):HM:=du bs fun _=> .dead
def s6(tbl:TT):List ResultVar->TM->HM->(List SV->Prop)->Prop
 |[],_,_,K=>K []
 | .tmp t::rs,T,H,K=>s6 tbl rs T H fun l=>K (T t::l)
 | .cell t ty::rs,T,H,K=>xL tbl ty (T t) H fun sv=>s6 tbl rs T H fun l=>K (sv::l)
def rW:List SV->SV
 |[x]=>x
 |l=> .tup l
def F6(H:HM)(s:SV):Option SV:=
 match s with
 | .tup vs=>match oA (ja H) vs with|some l=>some (.tup l)|none=>none
 |s=>ja H s
def dh:SV->SV
 | .c (.cb b)=> .c (.val (.bool b))
 |s=>s
def dj:SV->SV
 | .tup vs=> .tup (vs.map dh)
 |s=>dh s
theorem Gs{ρ:RM}{w:World}{ok:Nat->Prop}{s:SV}{v:Value}(h:eK ρ w ok s v):eK ρ w ok (dh s) v:=by
 unfold dh;split
 ·cases h with|c h=>cases h with|c h=>rw[pQ h];exact .c (.c (mk_val rfl))
 ·exact h
def Yo(tbl:TT)(rs:List ResultVar)(r:SV):X->TM->HM->Nat->Prop
 | .exit _,_,_,_=>False
 |_,T,H,_=>s6 tbl rs T H fun l=>match F6 H (rW l)with|some s=>bP (dj s=r)|none=>False
def tc(H:HM)(s:SV):Option SV:=
 match s with
 | .m cs=>match iL (jR H) cs with|some l=>some (.a l.length l)|none=>none
 | .a n cs=>some (.a n cs)
 | .lp k o=>kS H (.lp k o)
 | .clo k ij=>match ij.all og with|true=>some (.clo k ij)|false=>none
 | .any=>none
 | .tup _=>none
 |s=>match jR H s with|some x=>some (.c x)|none=>none
def tp(H:HM)(s:SV):List Nat:=
 match s with
 | .m cs=>cs.flatMap iN
 | .lp k o=>eT H (.lp k o)
 |s=>iN s
def FX(H:HM)(s:SV):Option SV:=
 match s with
 | .tup vs=>match oA (tc H) vs with|some l=>some (.tup l)|none=>none
 | .any=>some .any
 |s=>tc H s
def A2(H:HM)(s:SV):List Nat:=
 match s with
 | .tup vs=>vs.flatMap (tp H)
 |s=>tp H s
def EX(H:HM):List SV->List (Option (List CV))->List Nat
 |s::ss,some _::os=>eT H s++EX H ss os
 |_::ss,none::os=>EX H ss os
 |_,_=>[]
def oM:SV->List CV
 | .c x=>[x]
 | .m ss=>match vB ss with|some l=>l|none=>[]
 | .tup (.c x::_)=>[x]
 |_=>[]
def PX(H:HM):List SV->List (Option (List CV))->Prop
 |s::ss,some cs::os=>(py H s).map oM=some cs/\PX H ss os
 |_::ss,none::os=>PX H ss os
 |_,[]=>True
 |[],_::_=>False
def oE:List SV->List SV->Bool
 |[],_=>true
 | .lp m o::cs,c0::uq=>match c0 with
   | .lp m' o'=>Nat.beq m m'&&(Nat.beq o o'&&oE cs uq)
   |_=>false
 | .lp _ _::_,[]=>false
 |_::cs,[]=>oE cs []
 |_::cs,_::uq=>oE cs uq
def pY:dW->List SV
 | .cells cs=>cs
 |_=>[]
def Ge(H0 H:HM):List SV->List (Option (List CV))->Bool
 |s::ss,_::os=>(match s with| .lp k _=>(match H k with| .cells cs=>oE cs (pY (H0 k))|_=>true)|_=>true)&&Ge H0 H ss os
 |_,_=>true
def YW:SV->List Nat
 | .lp m _=>[m]
 |_=>[]
def vU(ss:List SV)(bs:List (Nat × dW)):List Nat:=ss.flatMap Wk++bs.flatMap fun p=>(pY p.2).flatMap YW
structure aI(p q:Prop):Prop where
 h:p
 o:q
def I9(tbl:TT)(rs:List ResultVar)(H0:HM)(ss:List SV)(outs:List (Option (List CV)))(r:SV):X->TM->HM->Nat->Prop
 | .exit _,_,_,_=>False
 |_,T,H,_=>s6 tbl rs T H fun l=>cond (gK (A2 H (rW l)++EX H ss outs)&&Ge H0 H ss outs) (match FX H (rW l)with|some s=>aI (s=r) (PX H ss outs)|none=>False) False
section
variable{P:Program}{tbl:TT}
def wB(tmps:Array Value):ResultVar->Sem Value
 | .tmp t=>pure (tmps.getD t undef)
 | .cell a t=>do loadVar t (<-asAddr (tmps.getD a undef))
theorem qN(dC:en P tbl){Γ:Cx}{nt:Nat}{T:TM}{H:HM}{ρ:RM}{F:FM}{a:Act}{w:World}(hS:St Γ nt T H ρ F a w):∀(rs:List ResultVar) {K:List SV->Prop},s6 tbl rs T H K->
 ∃l vs,K l/\(rs.mapM (wB a.tmps)).run P w= .ok vs w/\l.length=vs.length/\ ∀(j:Nat) s v,l[j]? =some s->vs[j]? =some v->bJ ρ w (bg Γ F w) s v
 |[],K,h=>⟨[],[],h,by simp,rfl,by simp⟩
 | .tmp t::rs,K,h=>by
   obtain⟨l,vs,hK,hr,hl,hv⟩:=qN dC hS rs h;refine⟨_,a.tmps.getD t undef::vs,hK,by simp[List.mapM_cons,wB,hr],by simp[hl],fun j s v hs gZ=>?_⟩;cases j with
   |zero=>
    simp only[List.getElem?_cons_zero,Option.some.injEq]at hs gZ;subst hs gZ;exact hS.tmps t
   |succ j=>exact hv j s v (by simpa using hs) (by simpa using gZ)
 | .cell t ty::rs,K,h=>by
   obtain⟨sv,v,h',fu,hT⟩:=oG (hS.mem.hb (n9.refl H)) dC h (hS.tmps t);obtain⟨l,vs,hK,hr,hl,hv⟩:=qN dC hS rs h';have XO:(wB a.tmps (.cell t ty)).run P w= .ok v w:=by
    unfold wB;have:∃ad,a.tmps.getD t undef= .pointer (some ad):=by
        unfold Instr.loadAt at fu;generalize a.tmps.getD t undef=x at fu;cases x<;>first|(simp[Instr.sureAddr]at fu;done)|skip
        rename_i p;cases p with
        |none=>simp[Instr.sureAddr]at fu
        |some ad=>exact⟨ad,rfl⟩
    obtain⟨ad,had⟩:=this;simp only[had]at fu⊢;simpa[Instr.loadAt,Instr.sureAddr,asAddr]using fu
   refine⟨_,v::vs,hK,by rw[List.mapM_cons];simp[XO,hr],by simp[hl],fun j s u hs hu=>?_⟩;cases j with
   |zero=>
    simp only[List.getElem?_cons_zero,Option.some.injEq]at hs hu;subst hs hu;exact hT
   |succ j=>exact hv j s u (by simpa using hs) (by simpa using hu)
theorem qO(dC:en P tbl){Γ:Cx}{nt:Nat}{T:TM}{H:HM}{ρ:RM}{F:FM}{a:Act}{w:World}(hS:St Γ nt T H ρ F a w){fn:Func}{K:List SV->Prop}(h:s6 tbl fn.results.toList T H K):
 ∃(l:List SV) (vs:List Value),K l/\(results fn a.tmps).run P w= .ok (if h:vs.toArray.size=1 then vs.toArray[0]else .tuple vs.toArray) w/\l.length=vs.length/\ ∀(j:Nat) s v,l[j]? =some s->vs[j]? =some v->bJ ρ w (bg Γ F w) s v:=by
 obtain⟨l,vs,hK,hr,hl,hv⟩:=qN dC hS _ h;refine⟨l,vs,hK,?_,hl,hv⟩;have fu:(fn.results.mapM (wB a.tmps)).run P w= .ok vs.toArray w:=by
  rw[Array.mapM_eq_mapM_toList];simp[hr]
 have:results fn a.tmps=(do let vs<-fn.results.mapM (wB a.tmps);pure (if h:vs.size=1 then vs[0]else .tuple vs)):=by
  unfold results
  congr 1
 rw[this,Sem.run_bind,fu];rfl
end
section
variable{w:World}{ok qP:Nat->Prop}{ρ:RM}{H:HM}{F:FM}
theorem Wl{x:CV}{v:Value}{f:List Nat}(h:sV w ok (.c x) v f):kL w ok (.c x) v f:=by
 cases h with
 |v h=>exact .v h
 |o h=>exact .o h
theorem QH{k o:Nat}{s':SV}(h:kS H (.lp k o)=some s'):∃x,s'= .c x:=by
 unfold kS at h;simp only at h;split at h
 ·cases hb:Nat.beq o 0<;>rw[hb]at h
  ·cases h
  ·injection h with h;exact⟨_,h.symm⟩
 ·cases hb:Nat.beq o 0<;>rw[hb]at h
  ·cases h
  ·simp only[cond]at h;split at h
   ·injection h with h;exact⟨_,h.symm⟩
   ·cases h
 ·cases hb:Nat.beq o 0<;>rw[hb]at h
  ·cases h
  ·injection h with h;exact⟨_,h.symm⟩
 ·cases h
theorem yk(hB:∀i,H i= .dead\/dH ρ w ok (H i) (ρ i) (F i)){s s':SV}{v:Value}(h:tc H s=some s')(hd:eK ρ w ok s v):kL w ok s' v ((tp H s).flatMap F):=by
 unfold tc at h;split at h
 ·split at h
  ·rename_i l hl;injection h with h
   subst h;cases hd with
   |c hd=>cases hd
   |m hlen hh=>exact .a rfl (by simpa[tp]using oe hB hl hlen hh)
  ·cases h
 ·injection h with h
  subst h;cases hd with
  |c hd=>cases hd
  |a hlen hd=>exact .a hlen (by simpa[tp,iN]using hd)
 ·rename_i k o;have h1:=xP hB (fun _ h=>h) h (.v hd);obtain⟨x,rfl⟩:=QH h;exact Wl h1
 ·rename_i k ij;split at h
  case h_2=>cases h
  rename_i hc;injection h with h
  subst h;have:=td (s:= .clo k ij) (fun _ h=>h) hc hd;simpa[tp,iN]using kL.v this
 ·cases h
 ·cases h
 ·rename_i n1 n2 n3 n4 n5 n6;split at h
  ·rename_i x hx;injection h with h
   subst h;have hc:b9 ρ w ok s v:=by
        cases hd with
        |c hd=>exact hd
        |a _ _=>exact(n2 _ _ rfl).elim
        |m _ _=>exact(n1 _ rfl).elim
        |clo _ _=>exact(n4 _ _ rfl).elim
   have hu:tp H s=iN s:=by cases s<;>first|rfl|exact(n1 _ rfl).elim|exact(n3 _ _ rfl).elim
   rw[hu];exact .o (kh hB hx hc)
  ·cases h
theorem uB(hB:∀i,H i= .dead\/dH ρ w ok (H i) (ρ i) (F i)):∀{ss gx:List SV} {vs:List Value},oA (tc H) ss=some gx->ss.length=vs.length->(∀(j:Nat) s v,ss[j]? =some s->vs[j]? =some v->eK ρ w ok s v)->OL w ok gx vs ((ss.flatMap (tp H)).flatMap F)
 |[],gx,vs,h,hl,_=>by
  simp[oA]at h;subst h;cases vs with
  |nil=>simpa using OL.nil
  |cons _ _=>simp at hl
 |s::ss,gx,vs,h,hl,hd=>by
  cases vs with
  |nil=>simp at hl
  |cons v vs=>
   simp only[oA]at h;split at h
   ·rename_i y ys hy ud;injection h with h
    subst h;have h1:=yk hB hy (hd 0 _ _ rfl rfl);have h3:=uB hB ud (by simpa using hl) fun j s v hs hv=>hd (j+1) s v hs hv
    have:=OL.cons h1 h3;simpa using this
   ·cases h
theorem Ik(hB:∀i,H i= .dead\/dH ρ w ok (H i) (ρ i) (F i)){s r:SV}{v:Value}(h:FX H s=some r)(hd:bJ ρ w ok s v):OT w ok r v ((A2 H s).flatMap F):=by
 unfold FX at h;split at h
 ·split at h
  ·rename_i l hl;injection h with h
   subst h;cases hd with
   |v hd=>cases hd with|c hd=>cases hd
   |tup hlen hh=>exact .tup (uB hB hl hlen hh)
  ·cases h
 ·injection h with h
  subst h;cases hd with
  |any=>simpa[A2,tp,iN]using OT.any
  |v hd=>cases hd with|c hd=>cases hd
 ·rename_i jr hna;have hu:A2 H s=tp H s:=by cases s<;>first|rfl|exact(jr _ rfl).elim
  rw[hu];cases hd with
  |any=>exact(hna rfl).elim
  |v hd=>exact .v (yk hB h hd)
  |tup _ _=>exact(jr _ rfl).elim
theorem pX{Hv:HM}(hB:∀i,H i= .dead\/dH ρ w ok (H i) (ρ i) (F i))(cH:∀b,ok b->qP b)(hF:∀i,H i≠ .dead-> ∀b∈F i,qP b):∀{ss gx:List SV} {vs:List Value},oA (ja H) ss=some gx->ss.length=vs.length->(∀(j:Nat) s v,ss[j]? =some s->vs[j]? =some v->eK ρ w ok s v)->OL w qP gx vs []
 |[],gx,vs,h,hl,_=>by
  simp[oA]at h;subst h;cases vs with
  |nil=>exact OL.nil
  |cons _ _=>simp at hl
 |s::ss,gx,vs,h,hl,hd=>by
  cases vs with
  |nil=>simp at hl
  |cons v vs=>
   simp only[oA]at h;split at h
   ·rename_i y ys hy ud;injection h with h
    subst h;have h1:kL w qP y v []:= .v (oh hB cH hF hy (hd 0 _ _ rfl rfl));have h3:=pX (Hv:=Hv) hB cH hF ud (by simpa using hl) fun j s v hs hv=>hd (j+1) s v hs hv
    have:=OL.cons h1 h3;simpa using this
   ·cases h
theorem P0{s:SV}{v:Value}(h:kL w ok s v []):kL w ok (dh s) v []:=by
 cases h with
 |v h=>exact .v fun ρ=>Gs (h ρ)
 |o h=>
  rename_i x;cases x<;>first|exact .o h|skip
  rw[pQ h];exact .o (mk_val rfl)
 |a hl h=>exact .a hl h
theorem LO:∀{ss:List SV} {vs:List Value},OL w ok ss vs []->OL w ok (ss.map dh) vs []
 |[],vs,h=>by cases h;exact .nil
 |s::ss,vs,h=>by
  generalize hf:([]:List Nat)=f at h;cases h with
  |cons h ht=>
   rename_i v fs vs gs;have h1:fs=[]:=by cases fs with|nil=>rfl|cons _ _=>simp at hf
   subst h1;simp at hf;subst hf;have:=OL.cons (P0 h) (LO ht);simpa using this
theorem RP{s:SV}{v:Value}(h:OT w ok s v []):OT w ok (dj s) v []:=by
 generalize hf:([]:List Nat)=f at h;cases h with
 |any=>exact .any
 |v h=>
  subst hf;refine .v ?_;have:dj s=dh s:=by
    cases s<;>first|rfl|skip
    cases h with
    |v h=>cases h (fun _=>none)with|c h=>cases h
  rw[this];exact P0 h
 |tup h=>subst hf;exact .tup (LO h)
theorem zX:∀cs:List CV,vB (cs.map SV.c)=some cs
 |[]=>rfl
 |c::cs=>by simp only[List.map_cons,vB,zX cs]
theorem Cp(cs:List CV):oM (.m (cs.map .c))=cs:=by simp only[oM,zX]
theorem AK{s x:SV}(h:kS H s=some x):(∃c,x= .c c)\/ ∃cs:List CV,x= .m (cs.map .c):=by
 have hc:∀{b:Bool} {o:Option SV},cond b o none=some x->o=some x:=by
  intro b o hb;cases b with
  |true=>exact hb
  |false=>cases hb
 unfold kS at h;split at h
 ·split at h
  ·injection h with h;exact .inl ⟨_,h.symm⟩
  ·cases h
 ·split at h
  ·have h:=hc h;injection h with h;exact .inl ⟨_,h.symm⟩
  ·have h:=hc h;split at h
   ·injection h with h;exact .inl ⟨_,h.symm⟩
   ·cases h
  ·have h:=hc h;injection h with h;exact .inl ⟨_,h.symm⟩
  ·cases h
 ·split at h
  ·injection h with h;exact .inr ⟨_,h.symm⟩
  ·cases h
 ·cases h
theorem wV:∀{cs uq:List SV} {i m o:Nat},oE cs uq=true->cs[i]? =some (.lp m o)->uq[i]? =some (.lp m o)
 |[],_,i,m,o,_,h=>by simp at h
 |c::cs,uq,i,m,o,hk,h=>by
  cases i with
  |zero=>
   simp at h;subst h;cases uq with
   |nil=>simp[oE]at hk
   |cons c0 uq=>
    cases c0<;>simp only[oE]at hk<;>first|cases hk|skip
    simp only[ab]at hk;rw[ae hk.1,ae hk.2.1];rfl
  |succ i=>
   have h':cs[i]? =some (.lp m o):=by simpa using h
   cases uq with
   |nil=>
    have sY:oE cs []=true:=by cases c<;>simp only[oE]at hk<;>first|exact hk|cases hk
    have:=wV sY h';simp at this
   |cons c0 uq=>
    have sY:oE cs uq=true:=by
     cases c<;>simp only[oE]at hk<;>first|exact hk|skip
     cases c0<;>simp only[ab]at hk<;>first|exact hk.2.2|cases hk
    have:=wV sY h';simpa using this
theorem CY{H0 H:HM}:∀{ss:List SV} {os:List (Option (List CV))} {j k o:Nat} {x:Option (List CV)} {cs:List SV},Ge H0 H ss os=true->ss[j]? =some (.lp k o)->os[j]? =some x->H k= .cells cs->oE cs (pY (H0 k))=true
 |[],os,j,k,o,x,cs,h,hs,ho,hk=>by simp at hs
 |s::ss,[],j,k,o,x,cs,h,hs,ho,hk=>by simp at ho
 |s::ss,y::os,j,k,o,x,cs,h,hs,ho,hk=>by
  simp only[Ge,ab]at h;cases j with
  |zero=>
   simp at hs;subst hs;have:=h.1;simpa[hk]using this
  |succ j=>exact CY h.2 (by simpa using hs) (by simpa using ho) hk
theorem GQ{f:SV->Option CV}:∀{cs:List SV} {l:List CV} {i:Nat} {x:CV},iL f cs=some l->l[i]? =some x-> ∃s,cs[i]? =some s/\f s=some x
 |[],l,i,x,h,hx=>by simp[iL]at h;subst h;simp at hx
 |c::cs,l,i,x,h,hx=>by
  simp only[iL]at h;split at h
  ·rename_i y ys hy ud;injection h with h
   subst h;cases i with
   |zero=>simp at hx;subst hx;exact⟨c,rfl,hy⟩
   |succ i=>simpa using GQ ud (by simpa using hx)
  ·cases h
theorem r9:∀{cs:List CV} {vs:List Value} {i:Nat} {x:List CV},Den w ok cs vs []->cs[i]? =some (.op x)->False
 |[],vs,i,x,_,h=>by simp at h
 |c::cs,vs,i,x,hd,h=>by
  generalize hf:([]:List Nat)=f at hd;cases i with
  |zero=>
   simp at h;subst h;cases hd;simp at hf
  |succ i=>
   have h':cs[i]? =some (.op x):=by simpa using h
   cases hd<;>first
        |(subst hf;exact r9 (by assumption) h')
        |(simp at hf;simp only[hf.2]at*;exact r9 (by assumption) h')
        |(simp at hf;done)
        |(have Ot:=List.append_eq_nil_iff.1 hf.symm;rw[Ot.2]at*;exact r9 (by assumption) h')
theorem yd{w0:World}{yM:Nat->Prop}{ρ0:RM}{H0:HM}{F0:FM}(Vx:∀i,H0 i= .dead\/dH ρ0 w0 yM (H0 i) (ρ0 i) (F0 i))(hB:∀i,H i= .dead\/dH ρ w ok (H i) (ρ i) (F i)){s:SV}{v:Value}{l:List CV}
 (h0:bJ ρ0 w0 yM s v)(h1:bJ ρ w ok s v)(hl:(kS H s).map oM=some l)(hk:∀k o cs,s= .lp k o->H k= .cells cs->oE cs (pY (H0 k))=true)
 (hp:∀k o m,s= .lp k o->m∈(pY (H0 k)).flatMap YW->ρ m=ρ0 m):Dj w0 w v l:=by
 rintro cells rfl b ty mq arr iy rfl hw0 hw i x hx;cases s<;>simp only[kS]at hl
 case c=>cases hl
 case a=>cases hl
 case clo=>cases hl
 case any=>cases hl
 case tup=>cases hl
 case le=>cases hl
 case ls=>cases hl
 case mp=>cases hl
 case m ss=>cases h1 with|v h=>cases h with|c h=>cases h
 case lw k=>cases h1 with|v h=>cases h with|c h=>cases h
 case lp k off=>
  obtain⟨b0,e0,e1⟩:=uD h0;obtain⟨b1,e2,e3⟩:=uD h1;simp only[Value.pointer.injEq,Option.some.injEq,Addr.mk.injEq,and_true]at e1 e3;obtain⟨rfl,rfl⟩:=e1;obtain⟨rfl,_⟩:=e3;cases hH:H k with
  |cc sz cs=>
   simp only[hH,cond,Option.map_some,oM,Option.some.injEq,List.cons.injEq,CV.op.injEq,and_true]at hl;subst hl;obtain⟨b2,ty2,abB,q1,q2,_,q4,_⟩:=HC hB hH;exact(r9 q4 hx).elim
  |cells cs=>
   simp only[hH,cond]at hl;cases hm:iL (nI H) cs with
   |none=>rw[hm]at hl;simp at hl
   |some l0=>
    rw[hm]at hl;simp only[Option.map_some,oM,Option.some.injEq,List.cons.injEq,CV.op.injEq,and_true]at hl;subst hl;obtain⟨c,hc,N1⟩:=GQ hm hx;obtain⟨b2,ty2,abB,q1,q2,q3,q4,_⟩:=mO hB hH;rw[e2]at q1;simp only[Option.some.injEq,Value.pointer.injEq,Addr.mk.injEq,and_true]at q1;subst q1;rw[hw]at q2;simp only[Option.some.injEq,Obj.cells.injEq]at q2;obtain⟨rfl,_⟩:=q2;have hi:i<iy.toList.length:=by rw[<-q3];exact(List.getElem?_eq_some_iff.1 hc).1
    have hv:=List.getElem?_eq_getElem hi;have YE:=q4 i c _ hc hv;have hlp:∃m o,c= .lp m o:=by
         cases c with
         |lp m o=>exact⟨m,o,rfl⟩
         |c y=>
          exfalso;revert YE;generalize iy.toList[i]=u;intro YE;cases YE with
          |c hd=>
           cases y with
           |op is=>cases hd
           |_=>simp[nI,uW,jR]at N1
         |lw k2=>
          exfalso;simp only[nI,uW,jR]at N1;split at N1
          ·cases N1
          ·split at N1<;>cases N1
         |ls k2 a1 a2 a3=>
          exfalso;simp only[nI,uW,jR]at N1;split at N1
          ·rename_i fN _ _;cases hb:Nat.beq a1 fN<;>rw[hb]at N1<;>cases N1
          ·cases N1
         |_=>simp[nI,uW,jR]at N1
    obtain⟨m,o,rfl⟩:=hlp;have hg:=wV (hk k 0 cs rfl hH) hc;obtain⟨uq,hH0⟩:∃uq,H0 k= .cells uq:=by
         cases h:H0 k<;>rw[h]at hg<;>first|exact⟨_,rfl⟩|(simp[pY]at hg)
    rw[hH0]at hg;obtain⟨b3,ty3,U6,p1,p2,p3,p4,_⟩:=mO Vx hH0;rw[e0]at p1;simp only[Option.some.injEq,Value.pointer.injEq,Addr.mk.injEq,and_true]at p1;subst p1;rw[hw0]at p2;simp only[Option.some.injEq,Obj.cells.injEq]at p2;obtain⟨rfl,_⟩:=p2;have Rl:i<arr.toList.length:=by rw[<-p3];exact(List.getElem?_eq_some_iff.1 hg).1
    have wj:=List.getElem?_eq_getElem Rl;have Rj:=p4 i _ _ hg wj;rw[hv,wj];have hpm:=hp k 0 m rfl (by rw[hH0];exact List.mem_flatMap.2 ⟨_,List.mem_of_getElem? hg,by simp[YW]⟩);generalize iy.toList[i]=u at YE;generalize arr.toList[i]=u0 at Rj;cases YE with
    |lp g1=>
    cases Rj with
    |lp g2=>
    rw[hpm,g2]at g1;simp only[Option.some.injEq,Value.pointer.injEq,Addr.mk.injEq,and_true]at g1;rw[g1]
  |jB t e s0=>simp only[hH,cond,Option.map_some,oM,Option.some.injEq,List.cons.injEq,and_true]at hl;cases hl
  |_=>simp only[hH]at hl;cases hl
theorem Jp{w0:World}{yM:Nat->Prop}{ρ0:RM}{H0:HM}{F0:FM}(Vx:∀i,H0 i= .dead\/dH ρ0 w0 yM (H0 i) (ρ0 i) (F0 i))(hB:∀i,H i= .dead\/dH ρ w ok (H i) (ρ i) (F i)){s:SV}{v:Value}{l:List CV}
 (h0:bJ ρ0 w0 yM s v)(h1:bJ ρ w ok s v)(hl:(py H s).map oM=some l)(hk:∀k o cs,s= .lp k o->H k= .cells cs->oE cs (pY (H0 k))=true)
 (hp:∀k o m,s= .lp k o->m∈(pY (H0 k)).flatMap YW->ρ m=ρ0 m):Dj w0 w (m6 v) l:=by
 by_cases hs:∃k off,s= .lp k off
 ·obtain⟨k,off,rfl⟩:=hs;have uY:(kS H (.lp k 0)).map oM=some l:=by
   cases off with
   |zero=>exact hl
   |succ o=>
    simp only[py]at hl;simp only[kS];cases hH:H k with
    |cc sz cs=>rw[hH]at hl;exact hl
    |cells cs=>
     rw[hH]at hl;simp only at hl;cases hm:iL (nI H) cs with
     |none=>rw[hm]at hl;cases hl
     |some l0=>rw[hm]at hl;simp only[hm];exact hl
    |_=>rw[hH]at hl;cases hl
  obtain⟨b,e0,rfl⟩:=uD h0;have T5:bJ ρ w ok (.lp k 0) (.pointer (some ⟨b,0,none⟩)):=by
   obtain⟨b1,e2,e3⟩:=uD h1;cases e3;exact .v (.c (.lp e2))
  exact yd Vx hB (.v (.c (.lp e0))) T5 uY (fun k' o cs e hc=>by cases e;exact hk k off cs rfl hc) (fun k' o m e hm=>by cases e;exact hp k off m rfl hm)
 ·have e:py H s=kS H s:=by cases s<;>first|rfl|exact(hs ⟨_,_,rfl⟩).elim
  rw[e]at hl;have hv:m6 v=v:=by
   unfold m6;split
   ·exfalso;cases s<;>simp only[kS]at hl
    case lp k off=>exact hs ⟨_,_,rfl⟩
    case m ss=>cases h1 with|v h=>cases h with|c h=>cases h
    case lw k=>cases h1 with|v h=>cases h with|c h=>cases h
    all_goals cases hl
   ·rfl
  rw[hv];exact yd Vx hB h0 h1 hl hk hp
theorem Kp{s x:SV}(h:py H s=some x):kS H s=some x\/ ∃cs o,x= .tup [.c (.op cs), .lp 0 o]:=by
 unfold py at h;split at h
 ·split at h
  ·injection h with h;exact .inr ⟨_,_,h.symm⟩
  ·split at h
   ·injection h with h;exact .inr ⟨_,_,h.symm⟩
   ·cases h
  ·cases h
 ·exact .inl h
theorem Js{s x:SV}{v:Value}(h:kS H s=some x)(hd:bJ ρ w ok s v):m6 v=v:=by
 cases s<;>simp only[kS]at h
 case lp k off=>
  have:off=0:=by
   cases off with
   |zero=>rfl
   |succ o=>exfalso;revert h;cases H k<;>simp[cond,Nat.beq]
  subst this;obtain⟨b,_,rfl⟩:=uD hd;rfl
 case lw k=>
  obtain⟨_,a,n,c,rfl⟩:=wg hd;rfl
 case m ss=>cases hd with|v h=>cases h with|c h=>cases h|m _ _=>rfl
 all_goals cases h
theorem ug{w0:World}(hB:∀i,H i= .dead\/dH ρ w ok (H i) (ρ i) (F i)):∀{ss:List SV} {os:List (Option (List CV))} {vs:List Value},PX H ss os->ss.length=vs.length->(∀(j:Nat) s v,ss[j]? =some s->vs[j]? =some v->bJ ρ w ok s v)->
 (∀(j:Nat) s v cs,ss[j]? =some s->vs[j]? =some v->os[j]? =some (some cs)->(py H s).map oM=some cs->Dj w0 w (m6 v) cs)->mL w0 w ok os vs ((EX H ss os).flatMap F)
 |ss,[],vs,_,_,_,_=>by
  have:EX H ss []=[]:=by cases ss<;>rfl
  rw[this];exact .nil
 |[],o::os,vs,h,_,_,_=>h.elim
 |s::ss,none::os,vs,h,hl,hd,hk=>by
  cases vs with
  |nil=>simp at hl
  |cons v vs=>exact .none (ug hB h (by simpa using hl) (fun j s v hs hv=>hd (j+1) s v hs hv) fun j s v cs hs hv ho hc=>hk (j+1) s v cs hs hv ho hc)
 |s::ss,some c::os,vs,h,hl,hd,hk=>by
  cases vs with
  |nil=>simp at hl
  |cons v vs=>
   have h0:=hd 0 s v rfl rfl;have h2:=ug hB h.2 (by simpa using hl) (fun j s v hs hv=>hd (j+1) s v hs hv) fun j s v cs hs hv ho hc=>hk (j+1) s v cs hs hv ho hc
   have h3:Den w ok c (m6 v).cells.toList ((eT H s).flatMap F):=by
        have h4:=h.1;cases hx:py H s with
        |none=>rw[hx]at h4;cases h4
        |some x=>
         rw[hx]at h4;simp only[Option.map_some,Option.some.injEq]at h4;subst h4;have h1:=x8 hB (fun _ h=>h) hx h0;generalize(eT H s).flatMap F=g at h1;rcases Kp hx with hx|⟨cs,o,rfl⟩
         ·rw[Js hx h0];cases h1 with
          |v h=>
           obtain⟨_,cc,cm,_⟩:=nD (bJ.v (h ρ));rcases AK hx with⟨y,rfl⟩|⟨cs,rfl⟩
           ·exact cc y rfl
           ·have hp:=cm _ rfl;rw[Cp];exact(lN (zX cs) hp.1 hp.2).1
          |o h=>have:=h.one;rw[mU (this v (by simp))];exact h
          |m h=>rw[Cp];simpa[Value.cells]using h
          |off h=>rcases AK hx with⟨y,h⟩|⟨cs,h⟩<;>cases h
         ·cases h1 with
          |v h=>cases h ρ with|c h=>cases h
          |off h=>exact h
   have:=mL.some h3 (hk 0 s v c rfl rfl rfl h.1) h2;simpa[EX]using this
end
section
variable{P:Program}{tbl:TT}
theorem enter{w:World}{ok:Nat->Prop}{args ss:List SV}{vs:List Value}{fs:List Nat}{bs:List (Nat × dW)}{np nt:Nat}(cH:∀b,ok b->b<w.heap.size)(hO:AL w ok args vs fs)(gB:fs.Nodup)(yN:∀b∈fs,b<w.heap.size/\ ¬ok b)
 (ha:gD args 0=some (ss,bs,np))(hn:args.length≤nt):∃(pv:RM) (F:FM),(∀i v,pv i=some v->i<np)/\ss.length=vs.length/\iI pv np/\(∀(j:Nat) s v,ss[j]? =some s->vs[j]? =some v->eK pv w ok s v)/\
  St ⟨w,ok,(· ∈fs),pv⟩ nt (T0 ss) (H0 bs) pv F {tmps:=vs.toArray++Array.replicate (nt-vs.toArray.size) undef,defers:=[]} w:=by
 obtain⟨L,g,a1,a2,a3,a4,a5⟩:=tx ha hO
 let Γ:Cx:=⟨w,ok,(· ∈fs),oQ L fun _=>none⟩
 have Ap:=a3.nodup;have hR:∀e∈L,oQ L (fun _=>none) e.nm=e.v:=by
  intro e he;rw[(ic Ap he (fun _=> .dead) (fun _=>[]) (fun _=>none)).2.2];obtain⟨u,hu,_⟩:=a3.den e he;simp[n8,hu]
 have acR:Mem ⟨w,ok,(· ∈fs),fun _=>none⟩ (fun _=> .dead) (fun _=>none) (fun _=>[]) w:=
  ⟨fun _=> .dead,by simp,by simp,by simp,by simp,fun b hb=>⟨cH b hb,fun hf=>(yN b hf).2 hb⟩,fun _ _ _=>rfl,aw _,rfl,rfl,rfl,by simp⟩
 have hg:∀b∈g,b∈fs:=fun b hb=>a4.subset hb
 have bw:∀e∈L,∀b∈e.f,b∈fs:=fun e he b hb=>hg b (by rw[<-a3.flat];exact List.mem_flatten.2 ⟨e.f,List.mem_map.2 ⟨e,he,rfl⟩,hb⟩)
 have hF:∀i b,b∈qF L (fun _=>[]) i-> ∃e∈L,e.nm=i/\b∈e.f:=by
  intro i b hb;by_cases hI:∃e∈L,e.nm=i
  ·obtain⟨e,he,rfl⟩:=hI;rw[(ic Ap he (fun _=> .dead) (fun _=>[]) (fun _=>none)).2.1]at hb;exact⟨e,he,rfl,hb⟩
  ·rw[(mD (fun e he h'=>hI ⟨e,he,h'⟩) (fun _=> .dead) (fun _=>[]) (fun _=>none)).2.1]at hb;cases hb
 have uS:((L.map (·.f)).flatten).Nodup:=by rw[a3.flat];exact a4.nodup_iff.2 gB
 have qG:∀b,ok b->bg Γ (qF L fun _=>[]) w b:=fun b hb=>⟨cH b hb, .inl hb,fun⟨i,hi⟩=>by
  obtain⟨e,he,_,Fe⟩:=hF i b hi;exact(yN b (bw e he b Fe)).2 hb⟩
 have Gy:∀i,(∀e∈L,e.nm≠i)->AF L (fun _=> .dead) i= .dead/\qF L (fun _=>[]) i=[]/\oQ L (fun _=>none) i=none:=fun i h=>mD h _ _ _
 have Ya:∀i v,oQ L (fun _=>none) i=some v->i<np:=by
  intro i v hv;by_cases hI:∃e∈L,e.nm=i
  ·obtain⟨e,he,rfl⟩:=hI;have:=a3.mem he;omega
  ·rw[(Gy i fun e he h'=>hI ⟨e,he,h'⟩).2.2]at hv;cases hv
 have Mt:Mem Γ (AF L fun _=> .dead) (oQ L fun _=>none) (qF L fun _=>[]) w:=by
  refine⟨fun i=>?_,fun i j b hi hj=>?_,fun i=>?_,fun i b hb=>?_,fun i b hb=>?_,fun b hb=>⟨cH b hb,fun hf=>(yN b hf).2 hb⟩,fun _ _ _=>rfl,aw _,rfl,rfl,rfl,fun i v hv=>hv⟩
  ·by_cases hI:∃e∈L,e.nm=i
   ·obtain⟨e,he,rfl⟩:=hI;obtain⟨h1,h2,_⟩:=ic Ap he (fun _=> .dead) (fun _=>[]) (fun _=>none);obtain⟨u,hu,hd⟩:=a3.den e he;rw[h1,h2,hR e he,hu];exact(hd _ hR).mono (fun _ _=>rfl) qG (fun _ _=>rfl) (Ext.refl _)
   ·obtain⟨h1,h2,h3⟩:=Gy i fun e he h'=>hI ⟨e,he,h'⟩
    rw[h1,h2];exact .dead
  ·obtain⟨e,he,rfl,Fe⟩:=hF i b hi;obtain⟨e',qt,rfl,aac⟩:=hF j b hj;exact wJ uS Ap he qt Fe aac
  ·by_cases hI:∃e∈L,e.nm=i
   ·obtain⟨e,he,rfl⟩:=hI;rw[(ic Ap he (fun _=> .dead) (fun _=>[]) (fun _=>none)).2.1];exact wu uS he
   ·rw[(Gy i fun e he h'=>hI ⟨e,he,h'⟩).2.1];simp
  ·obtain⟨e,he,rfl,Fe⟩:=hF i b hb;exact(yN b (bw e he b Fe)).1
  ·obtain⟨e,he,rfl,Fe⟩:=hF i b hb;exact .inl (bw e he b Fe)
 obtain⟨h5,h6⟩:=a5 _ hR;have hlen:args.length=vs.length:=hO.length;refine⟨oQ L fun _=>none,qF L fun _=>[],fun i v hv=>Ya i v hv,h5,fun i hi=>?_,fun j s v hs hv=>?_,?_⟩
 ·cases hv:oQ L (fun _=>none) i with
  |none=>rfl
  |some v=>have:=Ya i v hv;omega
 ·exact h6 j s v hs hv
 ·refine⟨?_,rfl,by simp;omega,fun i=>?_⟩
  ·rw[pV,a1]at Mt;exact Mt
  ·unfold T0;cases ha:ss[i]? with
   |none=>exact .any
   |some s=>
    have hi:i<vs.length:=by rw[<-h5];exact(List.getElem?_eq_some_iff.1 ha).1
    have hvi:vs[i]? =some vs[i]:=List.getElem?_eq_getElem hi;have:(vs.toArray++Array.replicate (nt-vs.toArray.size) undef).getD i undef=vs[i]:=by
     rw[Array.getD_eq_getD_getElem?,Array.getElem?_append_left (by simpa using hi)];simp[hi]
    simp only[];rw[this];exact .v ((h6 i s _ ha hvi).mono (fun _ _=>rfl) qG (Ext.refl _))
theorem OZ{w w':World}{ok:Nat->Prop}{fs:List Nat}{pv:RM}{F:FM}{fp:List Nat}{ks:List Nat}(hfp:fp=ks.flatMap F):∀b,bg ⟨w,ok,(· ∈fs),pv⟩ F w' b->zc ok fs fp w w' b:=by
 rintro b ⟨h1,h2,h3⟩;refine⟨h1,h2,fun hb=>?_⟩;rw[hfp]at hb;obtain⟨i,_,hi⟩:=List.mem_flatMap.1 hb;exact h3 ⟨i,hi⟩
theorem Fl{w w':World}{ok:Nat->Prop}{fs:List Nat}{pv:RM}{H:HM}{ρ:RM}{F:FM}(h:Mem ⟨w,ok,(· ∈fs),pv⟩ H ρ F w'):Grown fs w w':=
 ⟨h.os,h.tape,h.output,h.size,fun b hb hf=>h.frame b hb hf⟩
theorem K2{l:List SV}{vs:List Value}{ρ:RM}{w:World}{ok:Nat->Prop}(hl:l.length=vs.length)(hv:∀(j:Nat) s v,l[j]? =some s->vs[j]? =some v->bJ ρ w ok s v)(hV:(∃x,l=[x])\/ ∀(j:Nat) s v,l[j]? =some s->vs[j]? =some v->eK ρ w ok s v):
 bJ ρ w ok (rW l) (if h:vs.toArray.size=1 then vs.toArray[0]else .tuple vs.toArray):=by
 match l,vs,hl with
 |[],[],_=>exact .tup (vs:=[]) rfl (by simp)
 |[x],[v],_=>exact hv 0 x v rfl rfl
 |x::y::l,v::u::vs,uY=>
  rcases hV with⟨z,hz⟩|hV
  ·simp at hz
  ·have:=bJ.tup (ρ:=ρ) (w:=w) (ok:=ok) uY hV;simpa[rW]using this
def Ra:List Nat->Nat->Nat
 |[],m=>m
 |x::xs,m=>Ra xs (Nat.lor m (Nat.pow 2 x))
def wQ:List Nat->Nat->(Nat->Prop)->Prop
 |[],m,K=>K m
 |x::xs,m,K=>lit x fun x=>lit (Nat.lor m (Nat.pow 2 x)) fun m=>wQ xs m K
theorem Es:∀(l:List Nat) (m:Nat) (K:Nat->Prop),wQ l m K=K (Ra l m)
 |[],_,_=>rfl
 |x::xs,m,K=>by simp only[wQ,J9,Ra];exact Es xs _ K
theorem H9{i:Nat}:∀{l:List Nat} {m:Nat},(i∈l\/m.testBit i=true)->(Ra l m).testBit i=true
 |[],m,h=>by
  rcases h with h|h
  ·cases h
  ·exact h
 |x::xs,m,h=>by
  refine H9 (l:=xs) ?_;rcases h with h|h
  ·rcases List.mem_cons.1 h with rfl|h
   ·right;rw[sa];have:(Nat.pow 2 i).testBit i=true:=Nat.testBit_two_pow_self;rw[this,Bool.or_true]
   ·exact .inl h
  ·right;rw[sa,h];rfl
def Xs(ss:List SV)(bs:List (Nat × dW)):Nat:=Ra (vU ss bs) 0
def yH(l:List Nat)(ρ:RM):RM:=fun i=>if i∈l then ρ i else none
theorem wK{l:List Nat}{ρ:RM}{i:Nat}{v:Value}(h:yH l ρ i=some v):i∈l/\ρ i=some v:=by
 unfold yH at h;split at h
 ·exact⟨by assumption,h⟩
 ·cases h
theorem sI{l:List Nat}{ρ:RM}{i:Nat}(h:i∈l):yH l ρ i=ρ i:=if_pos h
theorem b9.yH{ρ:RM}{w:World}{ok:Nat->Prop}{s:SV}{v:Value}{l:List Nat}(h:b9 ρ w ok s v)(hl:∀i∈wW s,i∈l):b9 (yH l ρ) w ok s v:=by
 cases h with
 |c h=>exact .c h
 |lp h=>exact .lp (by rw[sI (hl _ (by simp[wW]))];exact h)
 |le h=>exact .le (by rw[sI (hl _ (by simp[wW]))];exact h)
 |lw h=>exact .lw (by rw[sI (hl _ (by simp[wW]))];exact h)
 |ls h h1 h2 h3 h4=>exact .ls (by rw[sI (hl _ (by simp[wW]))];exact h) h1 h2 h3 h4
 |mp h=>exact .mp (by rw[sI (hl _ (by simp[wW]))];exact h)
theorem eK.yH{ρ:RM}{w:World}{ok:Nat->Prop}{s:SV}{v:Value}{l:List Nat}(h:eK ρ w ok s v)(hl:∀i∈Wk s,i∈l):eK (yH l ρ) w ok s v:=by
 cases h with
 |c h=>
  refine .c (h.yH fun i hi=>hl i ?_);cases h<;>first|exact hi|(simp[wW]at hi)
 |a h1 h=>exact .a h1 h
 |m h1 h=>exact .m h1 fun j a v ha hv=>(h j a v ha hv).yH fun i hi=>hl i (List.mem_flatMap.2 ⟨a,List.mem_of_getElem? ha,hi⟩)
 |clo h1 h=>exact .clo h1 fun j a v ha hv=>(h j a v ha hv).yH fun i hi=>hl i (List.mem_flatMap.2 ⟨a,List.mem_of_getElem? ha,hi⟩)
theorem Oj{w:World}{ok:Nat->Prop}{args ss:List SV}{vs:List Value}{fs:List Nat}{bs:List (Nat × dW)}{np nt:Nat}(cH:∀b,ok b->b<w.heap.size)(hO:AL w ok args vs fs)(gB:fs.Nodup)(yN:∀b∈fs,b<w.heap.size/\ ¬ok b)
 (ha:gD args 0=some (ss,bs,np))(hn:args.length≤nt):∃(pv ρ0:RM) (F:FM),(∀m∈vU ss bs,pv m=ρ0 m)/\Ext pv ρ0/\te ⟨w,ok,(· ∈fs),pv⟩ (Xs ss bs)/\ss.length=vs.length/\iI ρ0 np/\(∀(j:Nat) s v,ss[j]? =some s->vs[j]? =some v->eK pv w ok s v)/\
  St ⟨w,ok,(· ∈fs),pv⟩ nt (T0 ss) (H0 bs) ρ0 F {tmps:=vs.toArray++Array.replicate (nt-vs.toArray.size) undef,defers:=[]} w:=by
 obtain⟨pv,F,pS,hlen,iU,o7,hS⟩:=enter cH hO gB yN ha hn;refine⟨Go.KA.yH (vU ss bs) pv,pv,F,fun m hm=>sI hm,fun i v hv=>(wK hv).2,fun i v hv=>?_,hlen,iU,fun j s v hs hv=>(o7 j s v hs hv).yH fun i hi=>List.mem_append_left _ (List.mem_flatMap.2 ⟨s,List.mem_of_getElem? hs,hi⟩),?_⟩
 ·unfold Xs;rw[DH];exact H9 (.inl (wK hv).1)
 ·obtain⟨m,h1,h2,h3⟩:=hS;exact⟨⟨m.blocks,m.kO,m.nodup,m.lt,m.src,m.oN,m.frame,m.size,m.os,m.tape,m.output,fun i v hv=>m.CR i v (wK hv).2⟩,h1,h2,h3⟩
theorem HA:∀{bs:List (Nat × dW)} {H:HM} {k:Nat} {b:dW},du bs H k=b->(k,b)∈bs\/H k=b
 |[],H,k,b,h=> .inr h
 |(j,c)::r,H,k,b,h=>by
  rcases HA (bs:=r) h with h|h
  ·exact .inl (by simp[h])
  ·unfold dY at h;cases hb:Nat.beq k j with
   |true=>
    have:=ae hb;subst this;rw[hb]at h;simp only[cond]at h;subst h;exact .inl (by simp)
   |false=>
    rw[hb]at h;exact .inr h
theorem U3{bs:List (Nat × dW)}{k:Nat}{b:dW}(h:H0 bs k=b)(hb:b≠ .dead):(k,b)∈bs:=by
 rcases HA h with h|h
 ·exact h
 ·exact absurd h.symm hb
theorem vR(dC:en P tbl)(iW:P.follows .mixedOrders=true){f:Nat}{fn:Func}{c:Code}{args ss:List SV}{α:Type}{φ:α->Prop}{outs:α->List (Option (List CV))}{r:α->SV}{bs:List (Nat × dW)}{np:Nat}{ann:Nat->Option Inv}{gh:Nat->Bool}(hf:P.funcs[f]? =some fn)(jN:(fn.name== "runtime.NumGoroutine")=false)
 (hb:fn.body=some c)(hn:Nat.ble args.length fn.ntmps=true)(ha:gD args 0=some (ss,bs,np)){Kf:Nat->X->TM->HM->Nat->Prop}
 (hK:∀{Γ:Cx} {pm nt:Nat} {ρ:RM} {F:FM} {a:Act} {w:World} {T:TM} {H:HM} {n:Nat} {e:X},te Γ pm->Kf pm e T H n->St Γ nt T H ρ F a w->iI ρ n-> ∃T' H' ρ' F' x,φ x/\I9 tbl fn.results.toList (H0 bs) ss (outs x) (r x) e T' H' n/\St Γ nt T' H' ρ' F' a w/\iI ρ' n)
 (h:wQ (vU ss bs) 0 fun pm=>E5 P tbl fn.ntmps pm ann gh c (Kf pm) (T0 ss) (H0 bs) np):gW P f args φ outs r:=by
 refine⟨⟨fn,hf,jN,by rw[hb];rfl⟩,fun w ok vs fs cH hO gB yN=>?_⟩;refine calls_of_wp hf hb ?_;obtain⟨pv,ρ0,F0,Ya,hpe,pS,hlen,iU,o7,hS⟩:=Oj cH hO gB yN ha (Nat.le_of_ble_eq_true hn);rw[Es,qj]at h;refine jb dC iW pS c h ?_ hS iU;intro e T H n ρ F a w' hk hs IE;obtain⟨T,H,ρ,F,x,hx,hk,hs,IE⟩:=hK pS hk hs IE;have fin:s6 tbl fn.results.toList T H (fun l=>cond (gK (A2 H (rW l)++EX H ss (outs x))&&Ge (H0 bs) H ss (outs x)) (match FX H (rW l)with|some s=>aI (s=r x) (PX H ss (outs x))|none=>False) False)->
  a.defers=[]/\ ∃v,(results fn a.tmps).run P w'= .ok v w'/\ ∃x,φ x/\ ∃v' fr fo,Ending.returned v= .returned v'/\Grown fs w w'/\(fr++fo).Nodup/\(∀b∈fr++fo,(b∈fs\/w.heap.size≤b)/\b<w'.heap.size)/\
    OT w' (zc ok fs (fr++fo) w w') (r x) v' fr/\mL w w' (zc ok fs (fr++fo) w w') (outs x) vs fo:=by
  intro hk;obtain⟨l,Xl,hK,fu,uY,gZ⟩:=qO dC hs hk;obtain⟨Ps,hK⟩:=ie hK;rw[ab]at Ps;obtain⟨Ps,NQ⟩:=Ps;split at hK
  case h_2=>exact hK.elim
  rename_i s GZ;obtain⟨hsr,DE⟩:=hK;rw[hsr]at GZ;have hB:=hs.mem.hb (n9.refl H);have hV:(∃x,l=[x])\/ ∀(j:Nat) s v,l[j]? =some s->Xl[j]? =some v->eK ρ w' (bg ⟨w,ok,(· ∈fs),pv⟩ F w') s v:=by
   match l with
   |[]=>right;simp
   |[x]=>exact .inl ⟨x,rfl⟩
   |x::y::l=>
    right;intro j s v Fa wj;have h3:=gZ j s v Fa wj;have Qt:∃s1,tc H s=some s1:=by
     simp only[rW,FX]at GZ;split at GZ
     ·rename_i l0 NY;have key:∀(ss gx:List SV),oA (tc H) ss=some gx-> ∀(j:Nat) s0,ss[j]? =some s0-> ∃s1,tc H s0=some s1:=by
                                                                                       intro ss
                                                                                       induction ss with
                                                                                       |nil=>intro _ _ j s0 h;simp at h
                                                                                       |cons a as ih=>
                                                                                        intro gx Wu j s0 hj;simp only[oA]at Wu;split at Wu
                                                                                        ·rename_i y0 ys hy ud;cases j with
                                                                                         |zero=>simp at hj;subst hj;exact⟨_,hy⟩
                                                                                         |succ j=>exact ih ys ud j s0 (by simpa using hj)
                                                                                        ·cases Wu
      exact key _ _ NY j s Fa
     ·cases GZ
    obtain⟨s1,Ug⟩:=Qt;refine h3.vc ?_ ?_
    ·rintro rfl;simp[tc]at Ug
    ·rintro zs rfl;simp[tc]at Ug
  have hT:=K2 uY gZ hV;have h1:=Ik hB GZ hT;have G8:ss.length=vs.length:=hlen;have V7:∀(j:Nat) s v,ss[j]? =some s->vs[j]? =some v->bJ ρ w' (bg ⟨w,ok,(· ∈fs),pv⟩ F w') s v:=fun j s v Fa wj=> .v ((o7 j s v Fa wj).mono (fun b hb=>hs.mem.frame b (hs.mem.oN b hb).1 (hs.mem.oN b hb).2) (fun b hb=>⟨Nat.lt_of_lt_of_le (hs.mem.oN b hb).1 hs.mem.size, .inl hb,fun⟨i,hi⟩=>by
   rcases hs.mem.src i b hi with h1|h1
   ·exact(hs.mem.oN b hb).2 h1
   ·have:=(hs.mem.oN b hb).1;omega⟩) fun i u hu=>hs.mem.CR i u hu)
  have Vx:=hS.mem.hb (n9.refl (H0 bs));have h2:=ug (w0:=w) (vs:=vs) hB DE G8 V7 fun j s v cs Fa wj ho hc=>Jp Vx hB (.v ((o7 j s v Fa wj).mono (fun _ _=>rfl) (fun b hb=>⟨(hS.mem.oN b hb).1, .inl hb,fun⟨i,hi⟩=>by
        rcases hS.mem.src i b hi with h1|h1
        ·exact(hS.mem.oN b hb).2 h1
        ·exact absurd h1 (Nat.not_le.2 (hS.mem.oN b hb).1)⟩) hpe)) (V7 j s v Fa wj) hc
   (fun k o cs e hH=>CY NQ (e▸Fa) ho hH) fun k o m e hm=>by
        obtain⟨c,yF,QI⟩:=List.mem_flatMap.1 hm;have hbs:∀cs,H0 bs k= .cells cs->(k,dW.cells cs)∈bs:=fun cs h=>U3 h (by simp)
        cases hH:H0 bs k<;>rw[hH]at yF<;>simp only[pY,List.not_mem_nil]at yF;rename_i uq;have hmp:m∈vU ss bs:=List.mem_append_right _ (List.mem_flatMap.2 ⟨_,hbs uq hH,by rw[hH]at hm;exact hm⟩);have VX:=Ya m hmp;obtain⟨b3,ty3,U6,p1,p2,p3,p4,_⟩:=mO Vx hH;obtain⟨i,hi,hci⟩:=List.mem_iff_getElem.1 yF;have Rl:i<U6.toList.length:=by rw[<-p3];exact hi
        have Rj:=p4 i c _ (by rw[List.getElem?_eq_getElem hi,hci]) (List.getElem?_eq_getElem Rl);generalize U6.toList[i]=u0 at Rj;cases c<;>simp only[YW,List.mem_singleton,List.not_mem_nil]at QI;subst QI;cases Rj with
        |lp g2=>rw[g2,hs.mem.CR m _ (VX.trans g2)]
  have Xu:=nc hs.mem (gm Ps);rw[List.flatMap_append]at Xu;refine⟨hs.defers,_,fu,x,hx,_,_,_,rfl,Fl hs.mem,Xu,fun b hb=>?_,h1.Uw (OZ (ks:=A2 H (rW l)++EX H ss (outs x)) (by rw[List.flatMap_append])),h2.mono (OZ (ks:=A2 H (rW l)++EX H ss (outs x)) (by rw[List.flatMap_append]))⟩;rw[<-List.flatMap_append]at hb;obtain⟨i,_,hi⟩:=List.mem_flatMap.1 hb;refine⟨?_,hs.mem.lt i b hi⟩;exact hs.mem.src i b hi
 cases e with
 |normal=>exact fin hk
 |ret=>exact fin hk
 |exit i=>exact hk.elim
theorem uO(dC:en P tbl)(iW:P.follows .mixedOrders=true){f:Nat}{fn:Func}{c:Code}{args ss:List SV}{outs:List (Option (List CV))}{r:SV}{bs:List (Nat × dW)}{np:Nat}{ann:Nat->Option Inv}{gh:Nat->Bool}(hf:P.funcs[f]? =some fn)(jN:(fn.name== "runtime.NumGoroutine")=false)
 (hb:fn.body=some c)(hn:Nat.ble args.length fn.ntmps=true)(ha:gD args 0=some (ss,bs,np)){Kf:Nat->X->TM->HM->Nat->Prop}
 (hK:∀{Γ:Cx} {pm nt:Nat} {ρ:RM} {F:FM} {a:Act} {w:World} {T:TM} {H:HM} {n:Nat} {e:X},te Γ pm->Kf pm e T H n->St Γ nt T H ρ F a w->iI ρ n-> ∃T' H' ρ' F',I9 tbl fn.results.toList (H0 bs) ss outs r e T' H' n/\St Γ nt T' H' ρ' F' a w/\iI ρ' n)
 (h:wQ (vU ss bs) 0 fun pm=>E5 P tbl fn.ntmps pm ann gh c (Kf pm) (T0 ss) (H0 bs) np):aE P f args outs r:=
 gW.toX (φ:=fun _:Unit=>True) (vR dC iW hf jN hb hn ha (outs:=fun _=>outs) (r:=fun _=>r) (fun pS hk hs hf=>by
  obtain⟨T',H',ρ',F',h1,h2,h3⟩:=hK pS hk hs hf;exact⟨T',H',ρ',F',(),trivial,h1,h2,h3⟩) h)
def Vb{α:Type}(tbl:TT)(rs:List ResultVar)(H0:HM)(ss:List SV)(φ:α->Prop)(outs:α->List (Option (List CV)))(r:α->SV)(np:Nat):X->TM->HM->Nat->Prop
 | .exit _,_,_,_=>False
 |e,T,H,n=>Gh np n T H fun T H=>∃x,φ x/\I9 tbl rs H0 ss (outs x) (r x) e T H n
theorem HW(dC:en P tbl)(iW:P.follows .mixedOrders=true){f:Nat}{fn:Func}{c:Code}{args ss:List SV}{α:Type}{φ:α->Prop}{outs:α->List (Option (List CV))}{r:α->SV}{bs:List (Nat × dW)}{np:Nat}{ann:Nat->Option Inv}{gh:Nat->Bool}(hf:P.funcs[f]? =some fn)(jN:(fn.name== "runtime.NumGoroutine")=false)
 (hb:fn.body=some c)(hn:Nat.ble args.length fn.ntmps=true)(ha:gD args 0=some (ss,bs,np))(h:wQ (vU ss bs) 0 fun pm=>E5 P tbl fn.ntmps pm ann gh c (Vb tbl fn.results.toList (H0 bs) ss φ outs r pm) (T0 ss) (H0 bs) np):gW P f args φ outs r:=vR dC iW hf jN hb hn ha (Kf:=fun pm=>Vb tbl fn.results.toList (H0 bs) ss φ outs r pm) (fun{Γ pm nt ρ F a w T H n e} pS hk hs hf=>by
 cases e with
 |exit i=>exact hk.elim
 |normal=>
  obtain⟨T',H',ρ',F',⟨x,hx,k1⟩,k2,k3⟩:=nV pS hk hs hf;exact⟨T',H',ρ',F',x,hx,k1,k2,k3⟩
 |ret=>
  obtain⟨T',H',ρ',F',⟨x,hx,k1⟩,k2,k3⟩:=nV pS hk hs hf;exact⟨T',H',ρ',F',x,hx,k1,k2,k3⟩) h
def QU(tbl:TT)(rs:List ResultVar)(H0:HM)(ss:List SV)(outs:List (Option (List CV)))(r:SV)(np:Nat):X->TM->HM->Nat->Prop
 | .exit _,_,_,_=>False
 |e,T,H,n=>Gh np n T H fun T H=>I9 tbl rs H0 ss outs r e T H n
theorem G2(dC:en P tbl)(iW:P.follows .mixedOrders=true){f:Nat}{fn:Func}{c:Code}{args ss:List SV}{outs:List (Option (List CV))}{r:SV}{bs:List (Nat × dW)}{np:Nat}{ann:Nat->Option Inv}{gh:Nat->Bool}(hf:P.funcs[f]? =some fn)(jN:(fn.name== "runtime.NumGoroutine")=false)
 (hb:fn.body=some c)(hn:Nat.ble args.length fn.ntmps=true)(ha:gD args 0=some (ss,bs,np))(h:wQ (vU ss bs) 0 fun pm=>E5 P tbl fn.ntmps pm ann gh c (I9 tbl fn.results.toList (H0 bs) ss outs r) (T0 ss) (H0 bs) np):aE P f args outs r:=uO dC iW hf jN hb hn ha (Kf:=fun _=>I9 tbl fn.results.toList (H0 bs) ss outs r) (fun _ hk hs hf=>⟨_,_,_,_,hk,hs,hf⟩) h
theorem EF(dC:en P tbl)(iW:P.follows .mixedOrders=true){f:Nat}{fn:Func}{c:Code}{args ss:List SV}{outs:List (Option (List CV))}{r:SV}{bs:List (Nat × dW)}{np:Nat}{ann:Nat->Option Inv}{gh:Nat->Bool}(hf:P.funcs[f]? =some fn)(jN:(fn.name== "runtime.NumGoroutine")=false)
 (hb:fn.body=some c)(hn:Nat.ble args.length fn.ntmps=true)(ha:gD args 0=some (ss,bs,np))(h:wQ (vU ss bs) 0 fun pm=>E5 P tbl fn.ntmps pm ann gh c (QU tbl fn.results.toList (H0 bs) ss outs r pm) (T0 ss) (H0 bs) np):aE P f args outs r:=uO dC iW hf jN hb hn ha (Kf:=fun pm=>QU tbl fn.results.toList (H0 bs) ss outs r pm) (fun{Γ pm nt ρ F a w T H n e} pS hk hs hf=>by
 cases e with
 |exit i=>exact hk.elim
 |normal=>
  obtain⟨T',H',ρ',F',k1,k2,k3⟩:=nV pS hk hs hf;exact⟨T',H',ρ',F',k1,k2,k3⟩
 |ret=>
  obtain⟨T',H',ρ',F',k1,k2,k3⟩:=nV pS hk hs hf;exact⟨T',H',ρ',F',k1,k2,k3⟩) h
theorem eh(dC:en P tbl)(iW:P.follows .mixedOrders=true){f:Nat}{fn:Func}{c:Code}{args ss:List SV}{r:SV}{bs:List (Nat × dW)}{np:Nat}{ann:Nat->Option Inv}{gh:Nat->Bool}(hf:P.funcs[f]? =some fn)(jN:(fn.name== "runtime.NumGoroutine")=false)
 (hb:fn.body=some c)(hn:Nat.ble args.length fn.ntmps=true)(ha:gD args 0=some (ss,bs,np))(h:wQ (vU ss bs) 0 fun pm=>E5 P tbl fn.ntmps pm ann gh c (Yo tbl fn.results.toList r) (T0 ss) (H0 bs) np):aS P f args r:=by
 refine⟨⟨fn,hf,jN,by rw[hb];rfl⟩,fun w ok vs fs cH hO gB yN=>?_⟩;refine calls_of_wp hf hb ?_;obtain⟨pv,ρ0,F0,Ya,hpe,pS,hlen,iU,o7,hS⟩:=Oj cH hO gB yN ha (Nat.le_of_ble_eq_true hn);rw[Es,qj]at h;refine jb dC iW pS c h ?_ hS iU;intro e T H n ρ F a w' hk hs IE;have fin:s6 tbl fn.results.toList T H (fun l=>match F6 H (rW l)with|some s=>bP (dj s=r)|none=>False)->
  a.defers=[]/\ ∃v,(results fn a.tmps).run P w'= .ok v w'/\ ∃v' fr fo,Ending.returned v= .returned v'/\Grown fs w w'/\(fr++fo).Nodup/\(∀b∈fr++fo,(b∈fs\/w.heap.size≤b)/\b<w'.heap.size)/\
    OT w' (zc ok fs (fr++fo) w w') r v' fr/\mL w w' (zc ok fs (fr++fo) w w') [] vs fo:=by
  intro hk;obtain⟨l,Xl,hK,fu,uY,gZ⟩:=qO dC hs hk;split at hK
  case h_2=>exact hK.elim
  rename_i s l6;have:=hK.h;subst this;have hB:=hs.mem.hb (n9.refl H);have WX:∀b,bg ⟨w,ok,(· ∈fs),pv⟩ F w' b->zc ok fs ([]++[]) w w' b:=fun b hb=>⟨hb.1,hb.2.1,by simp⟩
  have hF:∀i,H i≠ .dead-> ∀b∈F i,zc ok fs ([]++[]) w w' b:=fun i _ b hb=>⟨hs.mem.lt i b hb, .inr (hs.mem.src i b hb),by simp⟩
  refine⟨hs.defers,_,fu,_,[],[],rfl,Fl hs.mem,by simp,by simp,RP ?_, .nil⟩;have hV:∀{x s:SV} {v:Value},ja H x=some s->bJ ρ w' (bg ⟨w,ok,(· ∈fs),pv⟩ F w') x v->kL w' (zc ok fs ([]++[]) w w') s v []:=fun hx hT=> .v (oh hB WX hF hx (EZ hx hT))
  match l,Xl,uY with
  |[],[],_=>
   simp only[rW,F6,oA,Option.some.injEq]at l6;subst l6;exact .tup (vs:=[]) .nil
  |[x],[v],_=>
   have h0:=gZ 0 x v rfl rfl;simp only[rW]at l6;unfold F6 at l6;split at l6
   ·rename_i zs;split at l6
    ·rename_i l0 NY;injection l6 with l6
     subst l6;cases h0 with
     |v h0=>cases h0 with|c h0=>cases h0
     |tup hlen0 hh=>exact .tup (pX (Hv:=H) hB WX hF NY hlen0 hh)
    ·cases l6
   ·exact .v (hV l6 h0)
  |x::y::l,v::u::Xl,uY=>
   simp only[rW,F6]at l6;split at l6
   ·rename_i l0 NY;injection l6 with l6
    subst l6;have:=pX (Hv:=H) hB WX hF NY uY fun j s v Fa wj=>by
     have h3:=gZ j s v Fa wj;have Qt:∃s1,ja H s=some s1:=by
      have key:∀(ss gx:List SV),oA (ja H) ss=some gx-> ∀(j:Nat) s0,ss[j]? =some s0-> ∃s1,ja H s0=some s1:=by
       intro ss
       induction ss with
       |nil=>intro _ _ j s0 h;simp at h
       |cons a as ih=>
        intro gx Wu j s0 hj;simp only[oA]at Wu;split at Wu
        ·rename_i y0 ys hy ud;cases j with
         |zero=>simp at hj;subst hj;exact⟨_,hy⟩
         |succ j=>exact ih ys ud j s0 (by simpa using hj)
        ·cases Wu
      exact key _ _ NY j s Fa
     obtain⟨s1,Ug⟩:=Qt;exact EZ Ug h3
    have h4:=OT.tup this;simpa using h4
   ·cases l6
 cases e with
 |normal=>exact fin hk
 |ret=>exact fin hk
 |exit i=>exact hk.elim
inductive Jr(H:HM):HM->List (Nat × dW)->Prop
 |refl:Jr H H []
 |step {H':HM} {ws bs:List (Nat × dW)} (h:Jr H H' ws):Jr H (du bs H') (ws++bs)
theorem Jr.eq{H H':HM}{ws:List (Nat × dW)}(h:Jr H H' ws):H'=du ws H:=by
 induction h with
 |refl=>rfl
 |step h ih=>rw[ot,<-ih]
theorem Jr.one{H H':HM}{ws:List (Nat × dW)}{j:Nat}{b:dW}(h:Jr H H' ws):Jr H (dY H' j b) (ws++[(j,b)]):=Jr.step (bs:=[(j,b)]) h
theorem Jr.iE{H:HM}:∀{l:List (Nat × dW)} {H':HM} {ws:List (Nat × dW)},Jr H H' ws->Jr H (iE l H') (ws++l.reverse)
 |[],H',ws,h=>by rw[List.reverse_nil,List.append_nil];exact h
 |(k,b)::r,H',ws,h=>by
  have:=(Jr.iE (l:=r) h).one (j:=k) (b:=b);rw[List.append_assoc]at this;rw[List.reverse_cons];exact this
def UA:SV->Bool
 | .any=>false
 | .tup _=>false
 |_=>true
def Kd:List SV->Bool
 |[_]=>true
 |l=>l.all UA
inductive xd(H0:HM)(n0:Nat)(K:iT->Prop)(s:SV)(H:HM)(n:Nat):Prop
 |mk (ws:List (Nat × dW)) (hu:Jr H0 H ws) (hn:Nat.ble n0 n=true) (k:K ⟨s,ws,n-n0,[]⟩)
inductive mu(H:HM):HM->(List (Nat × dW)->Prop)->Prop
 |refl {K} (k:K []):mu H H K
 |step {H':HM} {bs:List (Nat × dW)} {K} (h:mu H H' fun ws=>K (ws++bs)):mu H (du bs H') K
 |one {H':HM} {j:Nat} {b:dW} {K} (h:mu H H' fun ws=>K (ws++[(j,b)])):mu H (dY H' j b) K
 |iE {H':HM} {l:List (Nat × dW)} {K} (h:mu H H' fun ws=>K (ws++l.reverse)):mu H (KA.iE l H') K
theorem mu.ex{H H':HM}{K:List (Nat × dW)->Prop}(h:mu H H' K):∃ws,Jr H H' ws/\K ws:=by
 induction h with
 |refl k=>exact⟨_, .refl,k⟩
 |step _ ih=>obtain⟨ws,h1,h2⟩:=ih;exact⟨_,h1.step,h2⟩
 |one _ ih=>obtain⟨ws,h1,h2⟩:=ih;exact⟨_,h1.one,h2⟩
 |iE _ ih=>obtain⟨ws,h1,h2⟩:=ih;exact⟨_,h1.iE,h2⟩
theorem xd.of{H0:HM}{n0:Nat}{K:iT->Prop}{s:SV}{H:HM}{n:Nat}(hn:Nat.ble n0 n=true)(h:mu H0 H fun ws=>K ⟨s,ws,n-n0,[]⟩):xd H0 n0 K s H n:=by
 obtain⟨ws,h1,h2⟩:=h.ex;exact .mk ws h1 hn h2
def aaq(tbl:TT)(rs:List ResultVar)(H0:HM)(n0:Nat)(K:iT->Prop):X->TM->HM->Nat->Prop
 | .exit _,_,_,_=>False
 |_,T,H,n=>s6 tbl rs T H fun l=>cond (Kd l) (xd H0 n0 K (rW l) H n) False
theorem sJ{Γ:Cx}{H:HM}{ρ:RM}{F F':FM}{w w':World}(hm:Mem Γ H ρ F w):bg ⟨w,bg Γ F w,fun b=>∃i,b∈F i,ρ⟩ F' w'=bg Γ F' w':=by
 funext b
 apply propext;unfold bg;constructor
 ·rintro⟨h1,h2,h3⟩;refine⟨h1,?_,h3⟩;rcases h2 with h2|⟨i,h2⟩|h2
  ·exact h2.2.1
  ·exact .inr (hm.src i b h2)
  ·exact .inr (.inr (Nat.le_trans hm.size h2))
 ·rintro⟨h1,h2,h3⟩;refine⟨h1,?_,h3⟩;by_cases hb:b<w.heap.size
  ·by_cases hi:∃i,b∈F i
   ·exact .inr (.inl hi)
   ·exact .inl ⟨hb,h2,hi⟩
  ·exact .inr (.inr (by simpa using hb))
theorem qU(dC:en P tbl)(iW:P.follows .mixedOrders=true){f:Nat}{fn:Func}{c:Code}{args:List SV}{H:HM}{n pm:Nat}{K:iT->Prop}{ann:Nat->Option Inv}{gh:Nat->Bool}(hf:P.funcs[f]? =some fn)(jN:(fn.name== "runtime.NumGoroutine")=false)
 (hb:fn.body=some c)(hn:Nat.ble args.length fn.ntmps=true)(hpm:2^n-1=pm)(h:E5 P tbl fn.ntmps pm ann gh c (aaq tbl fn.results.toList H n K) (T0 args) H n):Ut P f args H n K:=by
 intro Γ ρ F w vs hm iU Zx hlen o7;refine⟨⟨fn,hf,jN,by rw[hb];rfl⟩,?_⟩;refine calls_of_wp hf hb ?_;have pS:te ⟨w,bg Γ F w,fun b=>∃i,b∈F i,ρ⟩ pm:=fun i v hv=>by
  have hi:i<n:=Nat.lt_of_not_le fun h=>by
   have h0:ρ i=some v:=hv;rw[iU i h]at h0;cases h0
  rw[DH,<-hpm,Nat.testBit_two_pow_sub_one];exact decide_eq_true hi
 have hle:=Nat.le_of_ble_eq_true hn;have hS:St ⟨w,bg Γ F w,fun b=>∃i,b∈F i,ρ⟩ fn.ntmps (T0 args) H ρ F {tmps:=vs.toArray++Array.replicate (fn.ntmps-vs.toArray.size) undef,defers:=[]} w:=by
  refine⟨⟨fun i=>?_,hm.kO,hm.nodup,hm.lt,fun i b hb=> .inl ⟨i,hb⟩,fun b hb=>⟨hb.1,hb.2.2⟩,fun _ _ _=>rfl,aw _,rfl,rfl,rfl,fun i v h=>h⟩,rfl,?_,fun i=>?_⟩
  ·rw[sJ hm];exact hm.blocks i
  ·simp;omega
  ·rw[sJ hm];unfold T0;split
   ·rename_i s hs;have hi:i<vs.length:=by rw[<-hlen];exact(List.getElem?_eq_some_iff.1 hs).1
    have:=o7 i s vs[i] hs (List.getElem?_eq_getElem hi);simpa[Array.getD_eq_getD_getElem?,Array.getElem?_append,hi]using this
   ·exact .any
 rw[qj]at h;refine jb dC iW pS c h ?_ hS iU;intro e T H' n' ρ' F' a w' hk hs IE;have fin:s6 tbl fn.results.toList T H' (fun l=>cond (Kd l) (xd H n K (rW l) H' n') False)->a.defers=[]/\ ∃v,(results fn a.tmps).run P w'= .ok v w'/\nj Γ H ρ F w n K (.returned v) w':=by
  intro hk;obtain⟨l,Xl,hK,fu,uY,gZ⟩:=qO dC hs hk;obtain⟨hp,⟨ws,hu,Ps,hK2⟩⟩:=ie hK;have hu:=hu.eq;subst hu;have Ps:=Nat.le_of_ble_eq_true Ps;rw[sJ hm]at gZ;have hV:(∃x,l=[x])\/ ∀(j:Nat) s v,l[j]? =some s->Xl[j]? =some v->eK ρ' w' (bg Γ F' w') s v:=by
   by_cases h1:∃x,l=[x]
   ·exact .inl h1
   ·right;intro j s v Fa wj;have hp:l.all UA=true:=by
     unfold Kd at hp;split at hp
     ·exact absurd ⟨_,rfl⟩ h1
     ·exact hp
    have h3:=gZ j s v Fa wj;have h4:=aj.1 hp s (List.mem_of_getElem? Fa);refine h3.vc ?_ ?_
    ·rintro rfl;cases h4
    ·rintro zs rfl;cases h4
  have We:Ext ρ ρ':=fun i v h=>hs.mem.CR i v h
  have gC:w.heap.size≤w'.heap.size:=hs.mem.size;have nY:∀b,b<w.heap.size->(¬∃i,b∈F i)->w'.heap[b]? =w.heap[b]? :=hs.mem.frame
  have qE:∀i,∀b∈F' i,(∃i,b∈F i)\/w.heap.size≤b:=hs.mem.src
  refine⟨hs.defers,_,fu,⟨rW l,ws,n'-n,[]⟩,ρ',F',_,rfl,hK2,We,fun i hi=>?_,?_,fun b hb=>?_,fun b hb=>nY b hb.1 hb.2.2,K2 uY gZ hV⟩
  ·have h1:¬i<n:=fun h=>by
        cases hv:ρ i with
        |none=>exact Zx i h hv
        |some v=>exact hi (by rw[We i v hv,hv])
   have h2:¬n'≤i:=fun h=>hi (by rw[IE i h,iU i (by omega)])
   exact⟨by omega,by show i<n+(n'-n);omega⟩
  ·refine⟨fun i=>?_,hs.mem.kO,hs.mem.nodup,hs.mem.lt,fun i b hb=>?_,hm.oN,fun b h1 h2=>?_,Nat.le_trans hm.size gC,hs.mem.os.trans hm.os,hs.mem.tape.trans hm.tape,hs.mem.output.trans hm.output,fun i v h=>We i v (hm.CR i v h)⟩
   ·have:=hs.mem.blocks i;rw[sJ hm]at this;exact this
   ·rcases qE i b hb with⟨j,h⟩|h
    ·exact hm.src j b h
    ·exact .inr (Nat.le_trans hm.size h)
   ·rw[nY b (Nat.lt_of_lt_of_le h1 hm.size) fun⟨i,hi⟩=>by
     rcases hm.src i b hi with h|h
     ·exact h2 h
     ·omega]
    exact hm.frame b h1 h2
  ·refine⟨Nat.lt_of_lt_of_le hb.1 gC,hb.2.1,fun⟨i,hi⟩=>?_⟩;rcases qE i b hi with h|h
   ·exact hb.2.2 h
   ·have:=hb.1;omega
 cases e with
 |normal=>exact fin hk
 |ret=>exact fin hk
 |exit i=>exact hk.elim
end
end Go.KA
