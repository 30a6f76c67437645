/- Part of a proof engine for functions of the given program: what an operation, a loop and a call compute, symbolically. No conditions. -/
import Derived.Test.YtgbggaddpbghfaaGreatEngK
namespace Go.KA
open Go Go.RowKit
def nW(H:HM):Nat->SV->Option CV
 |0,_=>none
 |n+1,s=>match s with
  | .c x=>some x
  | .lw i=>match H i with
    | .row _ _ sz rows=>some (.ro sz rows)
    | .aU _ _ sz rows=>some (.ro sz (dD rows))
    |_=>none
  | .ls i sz off len=>match H i with
    | .row _ _ fN rows=>cond (Nat.beq sz fN) (some (.ro sz ((rows.drop off).take len))) none
    | .aU _ _ fN rows=>cond (Nat.beq sz fN) (some (.ro sz (((dD rows).drop off).take len))) none
    |_=>none
  | .lp i off=>match H i with
    | .cc sz cs=>some (.rp (sz-off) (cs.drop off))
    | .cells cs=>match iL (nW H n) cs with
      |some l=>some (.rp (l.length-off) (l.drop off))
      |none=>none
    |_=>none
  | .le i sz idx off=>match H i with
    | .row _ _ fN rows=>cond (Nat.beq sz fN) (match rows[idx]? with|some r=>some (.rp (sz-off) (r.drop off))|none=>none) none
    |_=>none
  |_=>none
def ja(H:HM)(s:SV):Option SV:=
 match s with
 | .a n cs=>some (.a n cs)
 | .m cs=>match iL (nW H 5) cs with
   |some l=>some (.a l.length l)
   |none=>none
 | .clo k ij=>match iL (nW H 5) ij with
   |some l=>some (.clo k (l.map .c))
   |none=>none
 | .any=>none
 | .tup _=>none
 |x=>match nW H 5 x with
  |some c=>some (.c c)
  |none=>none
def og:SV->Bool
 | .c _=>true
 |_=>false
def mK:SV->Bool
 | .c _=>true
 | .a _ _=>true
 | .m cs=>cs.all og
 | .clo _ ij=>ij.all og
 |_=>false
def P7:CV->Bool
 | .val _=>true
 | .cb _=>true
 | .any=>true
 |_=>false
def K5:SV->Bool
 | .c x=>P7 x
 | .a _ cs=>cs.all P7
 |_=>false
def La:SV->Bool
 | .tup vs=>vs.all K5
 | .any=>true
 |x=>K5 x
def xE:SV->Prop
 | .c x=>jc x
 | .a _ cs=>∀x∈cs,jc x
 |_=>False
def ld:SV->Prop
 | .tup ss=>∀s∈ss,xE s
 | .any=>True
 |s=>xE s
def y1:List (Option (List CV))->Prop
 |[]=>True
 |none::os=>y1 os
 |some cs::os=>(∀c∈cs,jc c)/\y1 os
def jT:SV->List Nat
 | .lp k _=>[k]
 |s=>iN s
def eT(H:HM)(s:SV):List Nat:=
 match s with
 | .lw k=>[k]
 | .lp k _=>match H k with| .cells cs=>k::cs.flatMap jT|_=>[k]
 | .m cs=>cs.flatMap iN
 |_=>[]
def fK(H:HM):List Bool->List SV->List Nat
 |true::ms,s::ss=>eT H s++fK H ms ss
 |false::ms,_::ss=>fK H ms ss
 |_,_=>[]
def uW(H:HM):SV->Option CV
 | .lw k=>match H k with
   | .aU (some v) ty sz rows=>some (.fQ v ty sz rows)
   |_=>jR H (.lw k)
 |s=>jR H s
def nI(H:HM)(s:SV):Option CV:=
 match s with
 | .lp k off=>match H k with
   | .cc _ cs=>cond (Nat.beq off 0) (some (.op cs)) none
   |_=>none
 |s=>uW H s
def kS(H:HM)(s:SV):Option SV:=
 match s with
 | .lw k=>match jR H (.lw k)with|some x=>some (.c x)|none=>none
 | .lp k off=>match H k with
   | .cc _ cs=>cond (Nat.beq off 0) (some (.c (.op cs))) none
   | .cells cs=>cond (Nat.beq off 0) (match iL (nI H) cs with|some l=>some (.c (.op l))|none=>none) none
   | .jB t e s=>cond (Nat.beq off 0) (some (.c (.jB t e s))) none
   |_=>none
 | .m cs=>match iL (jR H) cs with|some l=>some (.m (l.map .c))|none=>none
 |_=>none
def py(H:HM)(s:SV):Option SV:=
 match s with
 | .lp k (o+1)=>match H k with
   | .cc _ cs=>some (.tup [.c (.op cs), .lp 0 (o+1)])
   | .cells cs=>match iL (nI H) cs with|some l=>some (.tup [.c (.op l), .lp 0 (o+1)])|none=>none
   |_=>none
 |s=>kS H s
def jt(l:List Nat)(x:Nat):Bool:=l.any (Nat.beq x)
def Ll(ks:List Nat)(H:HM):HM:=fun i=>cond (jt ks i) .dead (H i)
def nK(H Hv:HM):List Bool->List SV->Option (List SV)
 |_,[]=>some []
 |true::ms,s::ss=>match py H s,nK H Hv ms ss with|some x,some xs=>some (x::xs)|_,_=>none
 |false::ms,s::ss=>match ja Hv s,nK H Hv ms ss with|some x,some xs=>some (x::xs)|_,_=>none
 |[],s::ss=>match ja Hv s,nK H Hv [] ss with|some x,some xs=>some (x::xs)|_,_=>none
def tS(H:HM)(md:List Bool)(args:List SV):Option (List SV):=
 match md with
 |[]=>nK H H [] args
 |md=>nK H (Ll (fK H md args) H) md args
def ez:List Bool->List SV->Bool
 |_,[]=>true
 |true::ms,_::ss=>ez ms ss
 |false::ms,s::ss=>mK s&&ez ms ss
 |[],s::ss=>mK s&&ez [] ss
def qu:dW->Option Value
 | .row o _ _ _=>o
 | .aU o _ _ _=>o
 |_=>none
def SB:List SV->List SV->List (Nat × Nat)
 | .lw j::cs, .lw n::ss=>(n,j)::SB cs ss
 |_::cs,_::ss=>SB cs ss
 |_,_=>[]
def Eu(H:HM):List SV->List CV->Option (List (Nat × dW))
 |[],[]=>some []
 | .lw k::ss,c::cs=>match c with
   | .ows ty sz rows=>match Eu H ss cs with|some l=>some ((k, .row (qu (H k)) ty sz rows)::l)|none=>none
   | .own ty sz rows=>match Eu H ss cs with|some l=>some ((k, .aU (qu (H k)) ty sz rows)::l)|none=>none
   |_=>none
 | .c _::ss,c::cs=>match ji c with|true=>Eu H ss cs|false=>none
 |_,_=>none
def abk:SV->Bool
 | .lp _ _=>true
 |_=>false
def Y7(H:HM)(k:Nat):Bool:=match H k with| .cells cs=>cs.any abk|_=>false
def Bn:Nat->List SV->List CV->Option (List SV × List (Nat × dW)× Nat)
 |n,[],[]=>some ([],[],n)
 |n, .lp j off::ss,c::cs=>match c with
  | .op is=>match fg is n with
    |some (ks,bs,m)=>match Bn m ss cs with
     |some (gx,ws,m')=>some (.lp j off::gx,bs++(j,gj ks)::ws,m')
     |none=>none
    |none=>none
  |_=>none
 |n, .lw k::ss,c::cs=>match c with
  | .ows ty sz rows=>match Bn (n+1) ss cs with
    |some (gx,ws,m)=>some (.lw n::gx,(n, .row none ty sz rows)::(k, .dead)::ws,m)
    |none=>none
  | .own ty sz rows=>match Bn (n+1) ss cs with
    |some (gx,ws,m)=>some (.lw n::gx,(n, .aU none ty sz rows)::(k, .dead)::ws,m)
    |none=>none
  |_=>none
 |n, .c _::ss,c::cs=>match ji c with
  |true=>match Bn n ss cs with
   |some (gx,ws,m')=>some (.c c::gx,ws,m')
   |none=>none
  |false=>none
 |_,_,_=>none
def VL(H:HM)(n:Nat)(s:SV)(o:Option (List CV)):Option (List (Nat × dW)× Nat × List (Nat × Nat)):=
 match s with
 | .lw k=>match o with
   |some [.ows ty sz rows]=>some ([(k, .row (qu (H k)) ty sz rows)],n,[])
   |some [.own ty sz rows]=>some ([(k, .aU (qu (H k)) ty sz rows)],n,[])
   |none=>some ([(k, .dead)],n,[])
   |_=>none
 | .lp k _=>match o with
   |some [.op cells]=>match Y7 H k with
    |true=>match H k with
     | .cells cs=>match Bn n cs cells with
       |some (ss,ws,m)=>some (ws++[(k,gj ss)],m,SB cs ss)
       |none=>none
     |_=>none
    |false=>match fg cells n with
     |some (ss,bs,m)=>match H k with
      | .cells cs=>some (bs++kp (cs.flatMap jT)++[(k,gj ss)],m,SB cs ss)
      |_=>some (bs++[(k,gj ss)],m,[])
     |none=>none
   |some [.jB t e s]=>match H k with
    | .jB _ _ _=>some ([(k, .jB t e s)],n,[])
    |_=>none
   |none=>match H k with
    | .cells cs=>some (kp (k::cs.flatMap jT),n,[])
    |_=>some ([(k, .dead)],n,[])
   |_=>none
 | .m ss=>match o with
   |some cs=>match Eu H ss cs with|some l=>some (l,n,[])|none=>none
   |none=>some (kp (ss.flatMap iN),n,[])
 |_=>none
def T7:List (Option (List CV))->Option (List CV)
 |o::_=>o
 |[]=>none
def qA(H:HM):Nat->List Bool->List SV->List (Option (List CV))->Option (List (Nat × dW)× Nat × List (Nat × Nat))
 |n,true::ms,s::ss,os=>match VL H n s (T7 os)with
  |some (ws,m,rn)=>match qA H m ms ss os.tail with
   |some (ws',m',rn')=>some (ws++ws',m',rn++rn')
   |none=>none
  |none=>none
 |n,false::ms,_::ss,os=>match T7 os with
  |none=>qA H n ms ss os.tail
  |some _=>none
 |n,_,_,[]=>some ([],n,[])
 |_,_,_,_::_=>none
def iQ(H:HM)(md:List Bool)(args:List SV)(outs:List (Option (List CV)))(r:SV)(n:Nat):Option iT:=
 match zD r n with
 |some (sv,bs,m)=>match qA H m md args outs with
  |some (ws,m',rn)=>some ⟨sv,bs++ws,m'-n,rn⟩
  |none=>none
 |none=>none
def nj(Γ:Cx)(H:HM)(ρ:RM)(F:FM)(w:World)(n:Nat)(K:iT->Prop)(e:Ending)(w':World):Prop:=
 ∃E ρ' F' v,e= .returned v/\K E/\Ext ρ ρ'/\(∀i,ρ' i≠ρ i->n≤i/\i<n+E.c)/\Mem Γ (du E.ws H) ρ' F' w'/\
  (∀b,bg Γ F w b->bg Γ F' w' b)/\(∀b,bg Γ F w b->w'.heap[b]? =w.heap[b]?)/\bJ ρ' w' (bg Γ F' w') E.sv v
def Ut(P:Program)(f:Nat)(args:List SV)(H:HM)(n:Nat)(K:iT->Prop):Prop:=
 ∀(Γ:Cx) (ρ:RM) (F:FM) (w:World) (vs:List Value),Mem Γ H ρ F w->iI ρ n->(∀i,i<n->ρ i≠none)->args.length=vs.length->(∀(j:Nat) s v,args[j]? =some s->vs[j]? =some v->bJ ρ w (bg Γ F w) s v)->
  MK P f/\Calls P f vs.toArray w (nj Γ H ρ F w n K)
inductive ay{d:Bool}(P:Program)(f:Nat)(args:List SV)(H:HM)(n:Nat)(K:iT->Prop):Prop
 |pure (df:List SV) (r:SV) (hv:tS H [] args=some df) (h:aE P f df [] r) (hs:(ez [] args||La r)=true) (E:iT) (he:iQ H [] args [] r n=some E) (k:K E)
 |own (df:List SV) (r:SV) (hv:tS H [] args=some df) (h:aE P f df [] r) (hp:ld r) (E:iT) (he:iQ H [] args [] r n=some E) (k:K E)
 |gen (md:List Bool) (df:List SV) (outs:List (Option (List CV))) (r:SV) (hv:tS H md args=some df) (h:aE P f df outs r) (hn:gK (fK H md args)=true) (hc:ez md args=true) (E:iT) (he:iQ H md args outs r n=some E) (k:K E)
 |pug (md:List Bool) (df:List SV) (outs:List (Option (List CV))) (r:SV) (hv:tS H md args=some df) (h:aE P f df outs r) (hn:gK (fK H md args)=true) (hp:ld r/\y1 outs) (E:iT) (he:iQ H md args outs r n=some E) (k:K E)
 |ex {α:Type} (hd:d=false) (md:List Bool) (df:List SV) (φ:α->Prop) (outs:α->List (Option (List CV))) (r:α->SV) (hv:tS H md args=some df) (h:gW P f df φ outs r) (hn:gK (fK H md args)=true) (hc:ez md args=true)
  (k:∀x,φ x->match iQ H md args (outs x) (r x) n with|some E=>K E|none=>False)
 |raw (hd:d=false) (h:Ut P f args H n K)
 |iY (md:List Bool) (df:List SV) (outs:List (Option (List CV))) (r:SV) (hv:tS H md args=some df) (h:aE P f df outs r) (hn:gK (fK H md args)=true) (hc:ez md args=true) (sv:SV) (i b k1:Nat) (s:dW) (u:Value) (ty sz:Nat) (rows:List (List CV)) (x y:CV) (c:Nat)
  (he:iQ H md args outs r n=some ⟨sv,[(i,s),(n, .aU (some u) ty sz rows),(k1, .dead),(b, .cells [.c x, .c y, .lw n])],c,[(n,k1)]⟩) (h1:H k1= .aU (some u) ty sz rows) (h2:H b= .cells [.c x, .c y, .lw k1]) (h3:(match H i with| .dead=>false|_=>true)=true) (hd:gK [i,b,k1]=true) (ZV:Nat.beq c 0=false) (k:K ⟨sv,[(i,s)],c,[]⟩)
section
variable{ρ:RM}{w:World}{ok qP:Nat->Prop}{H:HM}{F:FM}
section
variable(hB:∀i,H i= .dead\/dH ρ w ok (H i) (ρ i) (F i))(cH:∀b,ok b->qP b)(hF:∀i,H i≠ .dead-> ∀b∈F i,qP b)
include hB cH hF
theorem rO:∀(n:Nat) (s:SV) (c:CV) (v:Value),nW H n s=some c->b9 ρ w ok s v->Den w qP [c] [v] []
 |0,_,_,_,h,_=>by simp[nW]at h
 |n+1,s,c,v,h,hd=>by
  simp only[nW]at h;split at h
  ·injection h with h
   subst h;cases hd with
   |c h=>exact h.mono (fun _ _=>rfl) cH (by simp)
  ·rename_i i;split at h
   ·rename_i o ty sz rows hi;injection h with h
    subst h;obtain⟨u,xs,hu,ho,hr,bw,ID,_⟩:=jx hB hi;have IA:=hF i (by rw[hi];simp);cases hd with
    |lw hv=>
     rw[hu]at hv;injection hv with hv
     subst hv;have:=lz (Den.ows bw hr ho .nil) cH (by rw[ID]at IA;simpa using IA);simpa[mV]using this
   ·rename_i o ty sz rows hi;injection h with h
    subst h;obtain⟨u,xs,f,hu,ho,hr,bw,ID,_⟩:=et hB hi;have IA:=hF i (by rw[hi];simp);cases hd with
    |lw hv=>
     rw[hu]at hv;injection hv with hv
     subst hv;have:=lz (Den.own bw hr ho .nil) cH (by rw[ID]at IA;simpa using IA);simpa[mV]using this
   ·cases h
  ·rename_i i sz off len;have fin:∀{rows:List (List CV)} {xs:List Value} {b m c c':Nat},Den w qP rows.flatten xs []->(∀r∈rows,r.length=sz)->At w ⟨b,0,none⟩ xs->qP b->rows.length=m->off+len≤m->len≤c'->c'≤maxLen->
    Den w qP [.ro sz ((rows.drop off).take len)] [.slice (some ⟨b,off*sz,none⟩) len c'] []:=by
    intro rows xs b m c c' bw hr jC hb hm h1 h2 h3;refine .ro (by simp;omega) h2 h3 (fun r my=>hr r (List.mem_of_mem_drop (List.mem_of_mem_take my))) (lU (off:=off) (len:=len) bw hr) (fun j x hx=>⟨_,rfl,rfl,hb,?_⟩) .nil;have mm:=lY (ig jC (off*sz)) (len*sz);rw[eW,Nat.zero_add]at mm;exact mm j x hx
   split at h
   ·rename_i o ty fN rows hi;cases hb:Nat.beq sz fN with
    |false=>rw[hb]at h;cases h
    |true=>
     rw[hb]at h;have:=ae hb;subst this;injection h with h
     subst h;obtain⟨u,xs,hu,ho,hr,bw,ID,_⟩:=jx hB hi;have IA:=hF i (by rw[hi];simp);cases hd with
     | @ls _ _ _ _ b n c c' hv h1 h2 h3=>
       rw[hu]at hv;injection hv with hv
       subst hv;obtain⟨jC,hn,hc,hm⟩:=kA ho rfl;exact fin (c:=c) (bw.mono (fun _ _=>rfl) cH (by simp)) hr jC (IA b (by rw[ID];simp[Value.ownBlock])) hn.symm h1 h2 h3
   ·rename_i o ty fN rows hi;cases hb:Nat.beq sz fN with
    |false=>rw[hb]at h;cases h
    |true=>
     rw[hb]at h;have:=ae hb;subst this;injection h with h
     subst h;obtain⟨u,xs,f,hu,ho,hr,bw,ID,_⟩:=et hB hi;have IA:=hF i (by rw[hi];simp);cases hd with
     | @ls _ _ _ _ b n c c' hv h1 h2 h3=>
       rw[hu]at hv;injection hv with hv
       subst hv;obtain⟨jC,hn,hc,hm⟩:=kA ho rfl;have hd:=lz bw cH (fun c hc=>IA c (by rw[ID];simp[hc]));rw[<-mX]at hd;have my:∀r∈dD rows,r.length=sz:=by
        rw[ep];intro r Lp;obtain⟨r0,h0,rfl⟩:=List.mem_map.1 Lp;simpa using hr r0 h0
       exact fin (c:=c) hd my jC (IA b (by rw[ID];simp[Value.ownBlock])) (by rw[ep,aa];exact hn.symm) h1 h2 h3
   ·cases h
  ·rename_i i off;split at h
   ·rename_i sz cs hi;injection h with h
    subst h;obtain⟨b,ty,arr,hρ,hh,hl,bw,ID⟩:=HC hB hi;have IA:=hF i (by rw[hi];simp);cases hd with
    |lp hv=>
     rw[hρ]at hv;simp only[Option.some.injEq,Value.pointer.injEq,Addr.mk.injEq,and_true]at hv;subst hv;have mm:=ig (xc hh) off;rw[eW,Nat.zero_add]at mm;refine .rp (by simp[hl]) (gI (bw.mono (fun _ _=>rfl) cH (by simp)) off) rfl (fun j x hx=>⟨_,rfl,rfl,IA b (by simp[ID]),mm j x hx⟩) .nil
   ·rename_i cs hi;split at h
    ·rename_i l uY;injection h with h
     subst h;obtain⟨b,ty,arr,hρ,hh,hl,bw,ID⟩:=mO hB hi;have IA:=hF i (by rw[hi];simp);cases hd with
     |lp hv=>
      rw[hρ]at hv;simp only[Option.some.injEq,Value.pointer.injEq,Addr.mk.injEq,and_true]at hv;subst hv;have mm:=ig (xc hh) off;rw[eW,Nat.zero_add]at mm;have key:∀(cs:List SV) (l:List CV) (vs:List Value),iL (nW H n) cs=some l->cs.length=vs.length->(∀(j:Nat) a v,cs[j]? =some a->vs[j]? =some v->b9 ρ w ok a v)->Den w qP l vs []:=by
        intro cs
        induction cs with
        |nil=>intro l vs h1 h2 _;simp[iL]at h1;subst h1;cases vs with|nil=>exact .nil|cons _ _=>simp at h2
        |cons c cs ih=>
         intro l vs h1 h2 h3;simp only[iL]at h1;split at h1
         ·rename_i y ys hy ud;injection h1 with h1
          subst h1;cases vs with
          |nil=>simp at h2
          |cons v vs=>
           have h4:=rO n c y v hy (h3 0 _ _ rfl rfl);have h5:=ih ys vs ud (by simpa using h2) fun j a v ha hv=>h3 (j+1) a v ha hv
           simpa using h4.append h5
         ·cases h1
      refine .rp (by simp) (gI (key cs l _ uY hl bw) off) rfl (fun j x hx=>⟨_,rfl,rfl,IA b (by simp[ID]),mm j x hx⟩) .nil
    ·cases h
   ·cases h
  ·rename_i i sz idx off;split at h
   ·rename_i o ty fN rows hi;cases hb:Nat.beq sz fN with
    |false=>rw[hb]at h;cases h
    |true=>
     rw[hb]at h;have:=ae hb;subst this;simp only[cond]at h;split at h
     ·rename_i r hx;injection h with h
      subst h;obtain⟨u,xs,hu,ho,hr,bw,ID,_⟩:=jx hB hi;have IA:=hF i (by rw[hi];simp);cases hd with
      | @le _ _ _ _ b n0 c0 hv=>
        rw[hu]at hv;injection hv with hv
        subst hv;obtain⟨jC,_,_,_⟩:=kA ho rfl;have mm:=ig (lY (ig jC (idx*sz)) sz) off;rw[eW,eW,Nat.zero_add]at mm;have d1:=gI (kH (gI bw (idx*sz)) sz) off;rw[fZ hr hx]at d1;have sU:=hr r (List.mem_of_getElem? hx);exact .rp (by simp[sU]) (d1.mono (fun _ _=>rfl) cH (by simp)) rfl (fun j x hx=>⟨_,rfl,rfl,IA b (by rw[ID];simp[Value.ownBlock]),mm j x hx⟩) .nil
     ·cases h
   ·cases h
  ·cases h
theorem ym{n:Nat}:∀{cs:List SV} {l:List CV} {vs:List Value},iL (nW H n) cs=some l->cs.length=vs.length->(∀(j:Nat) a v,cs[j]? =some a->vs[j]? =some v->b9 ρ w ok a v)->Den w qP l vs []/\l.length=vs.length:=by
 intro cs
 induction cs with
 |nil=>intro l vs h1 h2 _;simp[iL]at h1;subst h1;cases vs with|nil=>exact⟨.nil,rfl⟩|cons _ _=>simp at h2
 |cons c cs ih=>
  intro l vs h1 h2 h3;simp only[iL]at h1;split at h1
  ·rename_i y ys hy ud;injection h1 with h1
   subst h1;cases vs with
   |nil=>simp at h2
   |cons v vs=>
    have h4:=rO hB cH hF n c y v hy (h3 0 _ _ rfl rfl);obtain⟨h5,h6⟩:=ih ud (by simpa using h2) fun j a v ha hv=>h3 (j+1) a v ha hv
    exact⟨by simpa using h4.append h5,by simp[h6]⟩
  ·cases h1
theorem oh{s s':SV}{v:Value}(h:ja H s=some s')(hd:eK ρ w ok s v):∀ρ',eK ρ' w qP s' v:=by
 intro ρ';unfold ja at h;split at h
 ·injection h with h
  subst h;cases hd with
  |c h=>cases h
  |a hl h=>exact .a hl (h.mono (fun _ _=>rfl) cH (by simp))
 ·split at h
  ·rename_i l uY;injection h with h
   subst h;cases hd with
   |c h=>cases h
   |m hl h=>
    obtain⟨h1,h2⟩:=ym hB cH hF uY hl h;exact .a rfl h1
  ·cases h
 ·split at h
  ·rename_i l uY;injection h with h
   subst h;cases hd with
   |c h=>cases h
   |clo hl h=>
    obtain⟨h1,h2⟩:=ym hB cH hF uY hl h;refine .clo (by simp[h2]) fun j a v ha hv=>?_
    rw[List.getElem?_map]at ha;cases hc:l[j]? with
    |none=>simp[hc]at ha
    |some c=>
     simp[hc]at ha;subst ha;exact .c (h1.get hc hv)
  ·cases h
 ·cases h
 ·cases h
 ·split at h
  ·rename_i c hc;injection h with h
   subst h;have:b9 ρ w ok s v:=by
        cases hd with
        |c h=>exact h
        |a _ _=>simp_all
        |m _ _=>simp_all
        |clo _ _=>simp_all
   exact .c (.c (rO hB cH hF 5 s c v hc this))
  ·cases h
end
theorem td(cH:∀b,ok b->qP b){s:SV}{v:Value}(h:mK s=true)(hd:eK ρ w ok s v):∀ρ',eK ρ' w qP s v:=by
 intro ρ';cases hd with
 |c hd=>cases hd<;>first|cases h|skip
        rename_i hd;exact .c (.c (hd.mono (fun _ _=>rfl) cH (by simp)))
 |a hl hd=>exact .a hl (hd.mono (fun _ _=>rfl) cH (by simp))
 |m hl hd=>
  refine .m hl fun j a v ha hv=>?_
  have h1:=hd j a v ha hv;simp only[mK,aj]at h;have h2:=h a (List.mem_of_getElem? ha);cases h1<;>first|cases h2|skip
  rename_i h1;exact .c (h1.mono (fun _ _=>rfl) cH (by simp))
 |clo hl hd=>
  refine .clo hl fun j a v ha hv=>?_
  have h1:=hd j a v ha hv;simp only[mK,aj]at h;have h2:=h a (List.mem_of_getElem? ha);cases h1<;>first|cases h2|skip
  rename_i h1;exact .c (h1.mono (fun _ _=>rfl) cH (by simp))
theorem H3(H':HM):∀cs:List SV,cs.all og=true->iL (nW H 5) cs=iL (nW H' 5) cs:=by
 intro cs
 induction cs with
 |nil=>intro _;rfl
 |cons c cs ih=>
  intro hc;simp only[List.all_cons,ab]at hc;simp only[iL];cases c<;>first|(simp[og]at hc;done)|skip
  rw[ih hc.2];rfl
theorem H5:∀{s s':SV},mK s=true->ja H s=some s'->s'=s\/ ∃cs,s= .m cs/\cs.all og=true:=by
 intro s s' hc hv;unfold mK at hc;split at hc
 ·simp[ja,nW]at hv;exact .inl hv.symm
 ·simp[ja]at hv;exact .inl hv.symm
 ·exact .inr ⟨_,rfl,hc⟩
 ·rename_i k ij;have key:∀(ij:List SV) (l:List CV),ij.all og=true->iL (nW H 5) ij=some l->l.map .c=ij:=by
   intro ij
   induction ij with
   |nil=>intro l _ h;simp[iL]at h;subst h;rfl
   |cons c cs ih=>
    intro l hc h;simp only[List.all_cons,ab]at hc;simp only[iL]at h;cases c<;>first|(simp[og]at hc;done)|skip
    rename_i x;simp only[nW]at h;split at h
    ·rename_i y ys hy ud;injection h with h
     injection hy with hy
     subst h hy;simp[ih ys hc.2 ud]
    ·cases h
  simp only[ja]at hv;split at hv
  ·rename_i l hl;injection hv with hv
   subst hv;exact .inl (by rw[key ij l hc hl])
  ·cases hv
 ·cases hc
theorem I7(cH:∀b,ok b->qP b){s s':SV}{v:Value}(hc:mK s=true)(hv:ja H s=some s')(hd:eK ρ w ok s v):∀ρ',eK ρ' w qP s' v:=by
 rcases H5 hc hv with rfl|⟨cs,rfl,h⟩
 ·exact td cH hc hd
 ·have e:ja (fun _=> .dead) (.m cs)=some s':=by
   rw[<-hv];simp only[ja,H3 (H:=H) (fun _=> .dead) cs h]
  exact oh (H:=fun _=> .dead) (F:=fun _=>[]) (fun _=> .inl rfl) cH (fun _ h=>absurd rfl h) e hd
theorem EZ{s s':SV}{v:Value}(hv:ja H s=some s')(h:bJ ρ w ok s v):eK ρ w ok s v:=by
 cases h with
 |any=>simp[ja]at hv
 |v h=>exact h
 |tup _ _=>simp[ja]at hv
theorem Hu(hB:∀i,H i= .dead\/dH ρ w ok (H i) (ρ i) (F i)){s:SV}{x:CV}{v:Value}(h:uW H s=some x)(hd:b9 ρ w ok s v):Den w ok [x] [v] ((iN s).flatMap F):=by
 unfold uW at h;split at h
 ·rename_i k;split at h
  ·rename_i u ty sz rows hk;injection h with h
   subst h;cases hd with
   |lw hv=>
    obtain⟨u',xs,f,hu,ho,hr,bw,hF,hm⟩:=et hB hk;rw[hv]at hu;injection hu with hu
    subst hu;have:=hm _ rfl;subst this;have:=Den.fQ bw hr ho .nil;simpa[iN,hF]using this
  ·exact kh hB h hd
 ·exact kh hB h hd
theorem Io(hB:∀i,H i= .dead\/dH ρ w ok (H i) (ρ i) (F i)){s:SV}{x:CV}{v:Value}(h:nI H s=some x)(hd:b9 ρ w ok s v):Den w ok [x] [v] ((jT s).flatMap F):=by
 unfold nI at h;split at h
 ·rename_i k off;split at h
  ·rename_i sz cs hk;cases hb:Nat.beq off 0 with
   |false=>rw[hb]at h;cases h
   |true=>
    rw[hb]at h;have:=ae hb;subst this;injection h with h
    subst h;obtain⟨b',ty,arr,im,hh,hl,bw,BD⟩:=HC hB hk;cases hd with
    |lp hρ=>
     rw[hρ]at im;simp only[Option.some.injEq,Value.pointer.injEq,Addr.mk.injEq,and_true]at im;subst im;have:=Den.op hh bw .nil;simpa[jT,BD]using this
  ·cases h
 ·rename_i jr;have e:jT s=iN s:=by cases s<;>first|rfl|exact(jr _ _ rfl).elim
  rw[e];exact Hu hB h hd
theorem rQ(hB:∀i,H i= .dead\/dH ρ w ok (H i) (ρ i) (F i)):∀{cs:List SV} {l:List CV} {vs:List Value},iL (nI H) cs=some l->cs.length=vs.length->(∀(j:Nat) a v,cs[j]? =some a->vs[j]? =some v->b9 ρ w ok a v)->
 Den w ok l vs ((cs.flatMap jT).flatMap F)
 |[],l,vs,h,hl,_=>by
  simp[iL]at h;subst h;cases vs with
  |nil=>simpa using Den.nil
  |cons _ _=>simp at hl
 |c::cs,l,vs,h,hl,hd=>by
  cases vs with
  |nil=>simp at hl
  |cons v vs=>
   simp only[iL]at h;split at h
   ·rename_i y ys hy ud;injection h with h
    subst h;have h1:=Io hB hy (hd 0 _ _ rfl rfl);have h3:=rQ hB ud (by simpa using hl) fun j a v ha hv=>hd (j+1) a v ha hv
    have:=h1.append h3;simpa using this
   ·cases h
theorem JG{Hm:HM}{s:SV}{x:CV}(h:uW Hm s=some x):∀k∈iN s,Hm k≠ .dead:=by
 unfold uW at h;split at h
 ·rename_i k;split at h
  ·rename_i u ty sz rows hk;intro i hi e;simp only[iN,List.mem_singleton]at hi;subst hi;rw[hk]at e;cases e
  ·exact p7 h
 ·exact p7 h
theorem JR{Hm:HM}{s:SV}{x:CV}(h:nI Hm s=some x):∀k∈jT s,Hm k≠ .dead:=by
 unfold nI at h;split at h
 ·rename_i k off;split at h
  ·rename_i sz cs hk;intro i hi e;simp only[jT,List.mem_singleton]at hi;subst hi;rw[hk]at e;cases e
  ·cases h
 ·rename_i jr;have e:jT s=iN s:=by cases s<;>first|rfl|exact(jr _ _ rfl).elim
  rw[e];exact JG h
theorem ue{Hm:HM}:∀{cs:List SV} {l:List CV},iL (nI Hm) cs=some l-> ∀k∈cs.flatMap jT,Hm k≠ .dead
 |[],_,_,k,hk=>by simp at hk
 |c::cs,l,h,k,hk=>by
  simp only[iL]at h;split at h
  ·rename_i y ys hy ud;simp only[List.flatMap_cons,ao]at hk;rcases hk with hk|hk
   ·exact JR hy k hk
   ·exact ue ud k hk
  ·cases h
theorem xP(hB:∀i,H i= .dead\/dH ρ w ok (H i) (ρ i) (F i))(cH:∀b,ok b->qP b){s s':SV}{v:Value}(h:kS H s=some s')(hd:bJ ρ w ok s v):sV w qP s' v ((eT H s).flatMap F):=by
 unfold kS at h;split at h
 ·rename_i k;split at h
  ·rename_i x hx;injection h with h
   subst h;have hc:b9 ρ w ok (.lw k) v:=by cases hd with|v h=>cases h with|c h=>exact h
   have:=kh hB hx hc;exact .o (this.mono (fun _ _=>rfl) cH (fun _ _=>rfl))
  ·cases h
 ·rename_i k off;obtain⟨b,hρ,rfl⟩:=uD hd;split at h
  ·rename_i sz cs hk;cases hb:Nat.beq off 0 with
   |false=>rw[hb]at h;cases h
   |true=>
    rw[hb]at h;have:=ae hb;subst this;injection h with h
    subst h;obtain⟨b',ty,arr,im,hh,hl,bw,BD⟩:=HC hB hk;rw[hρ]at im;simp only[Option.some.injEq,Value.pointer.injEq,Addr.mk.injEq,and_true]at im;subst im;have:=Den.op hh bw .nil;simp only[eT,hk,List.flatMap_cons,List.flatMap_nil,BD];exact .o (this.mono (fun _ _=>rfl) cH (fun _ _=>rfl))
  ·rename_i cs hk;cases hb:Nat.beq off 0 with
   |false=>rw[hb]at h;cases h
   |true=>
    rw[hb]at h;have:=ae hb;subst this;simp only[cond]at h;split at h
    ·rename_i l NY;injection h with h
     subst h;obtain⟨b',ty,arr,im,hh,hl,bw,BD⟩:=mO hB hk;rw[hρ]at im;simp only[Option.some.injEq,Value.pointer.injEq,Addr.mk.injEq,and_true]at im;subst im;have:=Den.op hh (rQ hB NY hl bw) .nil;simp only[eT,hk,List.flatMap_cons,BD];have:=this.mono (w':=w) (ok':=qP) (fun _ _=>rfl) cH (fun _ _=>rfl);simp only[List.append_nil]at this;exact .o this
    ·cases h
  ·rename_i t e s hk;cases hb:Nat.beq off 0 with
   |false=>rw[hb]at h;cases h
   |true=>
    rw[hb]at h;have:=ae hb;subst this;injection h with h
    subst h;obtain⟨b',p,u,im,hp,hh,ho,BD⟩:=Uv hB hk;rw[hρ]at im;simp only[Option.some.injEq,Value.pointer.injEq,Addr.mk.injEq,and_true]at im;subst im;have:=Den.jB (ok:=qP) hp hh ho .nil;simp only[eT,hk,List.flatMap_cons,List.flatMap_nil,BD];exact .o this
  ·cases h
 ·rename_i cs;split at h
  ·rename_i l hl;injection h with h
   subst h;cases hd with
   |v hd=>cases hd with
    |c hd=>cases hd
    |m hlen hh=>exact .m ((by simpa[eT]using oe hB hl hlen hh:Den w ok l _ _).mono (fun _ _=>rfl) cH (fun _ _=>rfl))
  ·cases h
 ·cases h
theorem x8(hB:∀i,H i= .dead\/dH ρ w ok (H i) (ρ i) (F i))(cH:∀b,ok b->qP b){s s':SV}{v:Value}(h:py H s=some s')(hd:bJ ρ w ok s v):sV w qP s' v ((eT H s).flatMap F):=by
 unfold py at h;split at h
 ·rename_i k o;obtain⟨b,hρ,rfl⟩:=uD hd;split at h
  ·rename_i sz cs hk;injection h with h
   subst h;obtain⟨b',ty,arr,im,hh,hl,bw,BD⟩:=HC hB hk;rw[hρ]at im;simp only[Option.some.injEq,Value.pointer.injEq,Addr.mk.injEq,and_true]at im;subst im;have:=Den.op hh bw .nil;simp only[eT,hk,List.flatMap_cons,List.flatMap_nil,BD];exact .off (this.mono (fun _ _=>rfl) cH (fun _ _=>rfl))
  ·rename_i cs hk;split at h
   ·rename_i l NY;injection h with h
    subst h;obtain⟨b',ty,arr,im,hh,hl,bw,BD⟩:=mO hB hk;rw[hρ]at im;simp only[Option.some.injEq,Value.pointer.injEq,Addr.mk.injEq,and_true]at im;subst im;have:=Den.op hh (rQ hB NY hl bw) .nil;simp only[eT,hk,List.flatMap_cons,BD];have:=this.mono (w':=w) (ok':=qP) (fun _ _=>rfl) cH (fun _ _=>rfl);simp only[List.append_nil]at this;exact .off this
   ·cases h
  ·cases h
 ·exact xP hB cH h hd
theorem Hc{Hv:HM}(hB:∀i,H i= .dead\/dH ρ w ok (H i) (ρ i) (F i))(hBv:∀i,Hv i= .dead\/dH ρ w ok (Hv i) (ρ i) (F i))(cH:∀b,ok b->qP b):∀{md:List Bool} {args df:List SV} {vs:List Value},
 ((∀i,Hv i≠ .dead-> ∀b∈F i,qP b)\/ez md args=true)->nK H Hv md args=some df->args.length=vs.length->(∀(j:Nat) s v,args[j]? =some s->vs[j]? =some v->bJ ρ w ok s v)->
 AL w qP df vs ((fK H md args).flatMap F):=by
 intro md args
 induction args generalizing md with
 |nil=>
  intro df vs _ h hl _;have:df=[]:=by cases md<;>simpa[nK]using h.symm
  subst this;cases vs with
  |nil=>have:fK H md []=[]:=by cases md with|nil=>rfl|cons m _=>cases m<;>rfl
        rw[this];exact .nil
  |cons _ _=>simp at hl
 |cons s ss ih=>
  intro df vs hF h hl hd;cases vs with
  |nil=>simp at hl
  |cons v vs=>
   have h0:=hd 0 s v rfl rfl;have RO:=fun j s v hs hv=>hd (j+1) s v hs hv
   have view:∀{x:SV},(∀i,Hv i≠ .dead-> ∀b∈F i,qP b)\/mK s=true->ja Hv s=some x->sV w qP x v []:=by
        intro x hc hx;rcases hc with hc|hc
        ·exact .v (oh hBv cH hc hx (EZ hx h0))
        ·exact .v (I7 cH hc hx (EZ hx h0))
   cases md with
   |nil=>
    simp only[nK]at h;split at h
    ·rename_i x xs hx qC;injection h with h
     subst h;have h1:=ih (md:=[]) (hF.imp_right fun hc=>by simp only[ez,ab]at hc;exact hc.2) qC (by simpa using hl) RO;have h2:=view (hF.imp_right fun hc=>by simp only[ez,ab]at hc;exact hc.1) hx;have:=AL.cons h2 h1;simpa[fK]using this
    ·cases h
   |cons m ms=>
    cases m with
    |true=>
     simp only[nK]at h;split at h
     ·rename_i x xs hx qC;injection h with h
      subst h;have h1:=ih (md:=ms) (hF.imp_right fun hc=>by simpa[ez]using hc) qC (by simpa using hl) RO;have h2:=x8 hB cH hx h0;have:=AL.cons h2 h1;simpa[fK]using this
     ·cases h
    |false=>
     simp only[nK]at h;split at h
     ·rename_i x xs hx qC;injection h with h
      subst h;have h1:=ih (md:=ms) (hF.imp_right fun hc=>by simp only[ez,ab]at hc;exact hc.2) qC (by simpa using hl) RO;have h2:=view (hF.imp_right fun hc=>by simp only[ez,ab]at hc;exact hc.1) hx;have:=AL.cons h2 h1;simpa[fK]using this
     ·cases h
end
section
variable{w:World}{ok qP:Nat->Prop}
theorem De{x:CV}(h:P7 x=true):jc x:=by cases x<;>first|trivial|cases h
theorem kL.pure{s:SV}{v:Value}{f:List Nat}(h:kL w ok s v f)(hp:xE s):kL w qP s v f:=by
 cases h with
 |v h=>
  have h0:=h (fun _=>none);cases h0 with
  |c hc=>cases hc with
   |c hd=>exact .v fun ρ=> .c (.c (qX hd (by simpa[xE]using hp)))
   |lp h'=>cases h'
   |le h'=>cases h'
   |lw h'=>cases h'
   |ls h'=>cases h'
   |mp h'=>cases h'
  |a hl hd=>exact .v fun ρ=> .a hl (qX hd hp)
  |m _ _=>exact hp.elim
  |clo _ _=>exact hp.elim
 |o h=>exact .o (qX h (by simpa[xE]using hp))
 |a hl h=>exact .a hl (qX h hp)
theorem OL.pure{ss:List SV}{vs:List Value}{f:List Nat}(h:OL w ok ss vs f)(hp:∀s∈ss,xE s):OL w qP ss vs f:=by
 induction h with
 |nil=>exact .nil
 |cons h _ ih=>exact .cons (h.pure (hp _ (by simp))) (ih fun s hs=>hp s (by simp[hs]))
theorem OT.pure{s:SV}{v:Value}{f:List Nat}(h:OT w ok s v f)(hp:ld s):OT w qP s v f:=by
 cases h with
 |any=>exact .any
 |v h=>
  refine .v (h.pure ?_);cases s<;>first|exact hp|skip
  ·exact h.Et.elim
  ·cases h with
   |v h=>cases h (fun _=>none)with|c h=>cases h
 |tup h=>exact .tup (h.pure hp)
theorem mL.pure{w0:World}{os:List (Option (List CV))}{vs:List Value}{f:List Nat}(h:mL w0 w ok os vs f)(hp:y1 os):mL w0 w qP os vs f:=by
 induction h with
 |nil=>exact .nil
 |none _ ih=>exact .none (ih hp)
 |some h hk _ ih=>exact .some (qX h hp.1) hk (ih hp.2)
theorem mL.mono{w0:World}{ok':Nat->Prop}{os:List (Option (List CV))}{vs:List Value}{f:List Nat}(h:mL w0 w ok os vs f)(cH:∀b,ok b->ok' b):mL w0 w ok' os vs f:=by
 induction h with
 |nil=>exact .nil
 |none _ ih=>exact .none ih
 |some h hk _ ih=>exact .some (h.mono (fun _ _=>rfl) cH (fun _ _=>rfl)) hk ih
theorem OT.Uw{ok':Nat->Prop}{s:SV}{v:Value}{f:List Nat}(h:OT w ok s v f)(cH:∀b,ok b->ok' b):OT w ok' s v f:=by
 cases h with
 |any=>exact .any
 |v h=>exact .v (h.mono (fun _ _=>rfl) cH (fun _ _=>rfl))
 |tup h=>exact .tup (h.mono (fun _ _=>rfl) cH (fun _ _=>rfl))
theorem zk{s:SV}(h:K5 s=true):xE s:=by
 cases s<;>simp only[K5]at h<;>first|cases h|skip
 ·exact De h
 ·intro x hx;exact De (aj.1 h x hx)
theorem IX{s:SV}(h:La s=true):ld s:=by
 cases s<;>simp only[La]at h<;>first|exact zk h|trivial|skip
 intro s hs;exact zk (aj.1 h s hs)
end
end Go.KA
