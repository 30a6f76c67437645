/- Part of a proof engine for functions of the given program: what an operation, a loop and a call compute, symbolically. No conditions. -/
import Derived.Test.YtgbggaddpbghfaaGreatEngK
namespace Go.KA
open Go Go.RowKit
def lr(H:HM):Nat→SV→Option CV
 |0,_=>none
 |n+1,s=>match s with
  | .c x=>some x
  | .lw i=>match H i with
    | .row _ _ sz rows=>some (.ro sz rows)
    | .aG _ _ sz rows=>some (.ro sz (cW rows))
    |_=>none
  | .ls i sz off len=>match H i with
    | .row _ _ sz' rows=>cond (Nat.beq sz sz') (some (.ro sz ((rows.drop off).take len))) none
    | .aG _ _ sz' rows=>cond (Nat.beq sz sz') (some (.ro sz (((cW rows).drop off).take len))) none
    |_=>none
  | .lp i off=>match H i with
    | .cc sz cs=>some (.rp (sz-off) (cs.drop off))
    | .cells cs=>match gv (lr H n) cs with
      |some l=>some (.rp (l.length-off) (l.drop off))
      |none=>none
    |_=>none
  | .le i sz idx off=>match H i with
    | .row _ _ sz' rows=>cond (Nat.beq sz sz') (match rows[idx]? with|some r=>some (.rp (sz-off) (r.drop off))|none=>none) none
    |_=>none
  |_=>none
def gR(H:HM)(s:SV):Option SV:=
 match s with
 | .a n cs=>some (.a n cs)
 | .m cs=>match gv (lr H 5) cs with
   |some l=>some (.a l.length l)
   |none=>none
 | .clo k caps=>match gv (lr H 5) caps with
   |some l=>some (.clo k (l.map .c))
   |none=>none
 | .any=>none
 | .tup _=>none
 |x=>match lr H 5 x with
  |some c=>some (.c c)
  |none=>none
def mw:SV→Bool
 | .c _=>true
 |_=>false
def kR:SV→Bool
 | .c _=>true
 | .a _ _=>true
 | .m cs=>cs.all mw
 | .clo _ caps=>caps.all mw
 |_=>false
def LC:CV→Bool
 | .val _=>true
 | .cb _=>true
 | .any=>true
 |_=>false
def Hj:SV→Bool
 | .c x=>LC x
 | .a _ cs=>cs.all LC
 |_=>false
def Gj:SV→Bool
 | .tup vs=>vs.all Hj
 | .any=>true
 |x=>Hj x
def wA:SV→Prop
 | .c x=>im x
 | .a _ cs=>∀x∈cs,im x
 |_=>False
def jJ:SV→Prop
 | .tup ss=>∀s∈ss,wA s
 | .any=>True
 |s=>wA s
def wz:List (Option (List CV))→Prop
 |[]=>True
 |none::os=>wz os
 |some cs::os=>(∀c∈cs,im c)∧wz os
def iE:SV→List Nat
 | .lp k _=>[k]
 |s=>gx s
def en(H:HM)(s:SV):List Nat:=
 match s with
 | .lw k=>[k]
 | .lp k _=>match H k with| .cells cs=>k::cs.flatMap iE|_=>[k]
 | .m cs=>cs.flatMap gx
 |_=>[]
def eT(H:HM):List Bool→List SV→List Nat
 |true::ms,s::ss=>en H s++eT H ms ss
 |false::ms,_::ss=>eT H ms ss
 |_,_=>[]
def sH(H:HM):SV→Option CV
 | .lw k=>match H k with
   | .aG (some v) ty sz rows=>some (.eW v ty sz rows)
   |_=>iC H (.lw k)
 |s=>iC H s
def lk(H:HM)(s:SV):Option CV:=
 match s with
 | .lp k off=>match H k with
   | .cc _ cs=>cond (Nat.beq off 0) (some (.op cs)) none
   |_=>none
 |s=>sH H s
def ji(H:HM)(s:SV):Option SV:=
 match s with
 | .lw k=>match iC H (.lw k) with|some x=>some (.c x)|none=>none
 | .lp k off=>match H k with
   | .cc _ cs=>cond (Nat.beq off 0) (some (.c (.op cs))) none
   | .cells cs=>cond (Nat.beq off 0) (match gv (lk H) cs with|some l=>some (.c (.op l))|none=>none) none
   | .iu t e s=>cond (Nat.beq off 0) (some (.c (.iu t e s))) none
   |_=>none
 | .m cs=>match gv (iC H) cs with|some l=>some (.m (l.map .c))|none=>none
 |_=>none
def nw(H:HM)(s:SV):Option SV:=
 match s with
 | .lp k (o+1)=>match H k with
   | .cc _ cs=>some (.tup [.c (.op cs), .lp 0 (o+1)])
   | .cells cs=>match gv (lk H) cs with|some l=>some (.tup [.c (.op l), .lp 0 (o+1)])|none=>none
   |_=>none
 |s=>ji H s
def g7(l:List Nat)(x:Nat):Bool:=l.any (Nat.beq x)
def GO(ks:List Nat)(H:HM):HM:=fun i=>cond (g7 ks i) .dead (H i)
def ll(H Hv:HM):List Bool→List SV→Option (List SV)
 |_,[]=>some []
 |true::ms,s::ss=>match nw H s,ll H Hv ms ss with|some x,some xs=>some (x::xs)|_,_=>none
 |false::ms,s::ss=>match gR Hv s,ll H Hv ms ss with|some x,some xs=>some (x::xs)|_,_=>none
 |[],s::ss=>match gR Hv s,ll H Hv [] ss with|some x,some xs=>some (x::xs)|_,_=>none
def rE(H:HM)(md:List Bool)(args:List SV):Option (List SV):=
 match md with
 |[]=>ll H H [] args
 |md=>ll H (GO (eT H md args) H) md args
def dT:List Bool→List SV→Bool
 |_,[]=>true
 |true::ms,_::ss=>dT ms ss
 |false::ms,s::ss=>kR s&&dT ms ss
 |[],s::ss=>kR s&&dT [] ss
def oo:dE→Option Value
 | .row o _ _ _=>o
 | .aG o _ _ _=>o
 |_=>none
def Nh:List SV→List SV→List (Nat × Nat)
 | .lw j::cs, .lw n::ss=>(n,j)::Nh cs ss
 |_::cs,_::ss=>Nh cs ss
 |_,_=>[]
def Bl(H:HM):List SV→List CV→Option (List (Nat × dE))
 |[],[]=>some []
 | .lw k::ss,c::cs=>match c with
   | .ows ty sz rows=>match Bl H ss cs with|some l=>some ((k, .row (oo (H k)) ty sz rows)::l)|none=>none
   | .own ty sz rows=>match Bl H ss cs with|some l=>some ((k, .aG (oo (H k)) ty sz rows)::l)|none=>none
   |_=>none
 | .c _::ss,c::cs=>match gU c with|true=>Bl H ss cs|false=>none
 |_,_=>none
def Qq:SV→Bool
 | .lp _ _=>true
 |_=>false
def Pq(H:HM)(k:Nat):Bool:=match H k with| .cells cs=>cs.any Qq|_=>false
def yq:Nat→List SV→List CV→Option (List SV × List (Nat × dE)× Nat)
 |n,[],[]=>some ([],[],n)
 |n, .lp j off::ss,c::cs=>match c with
  | .op is=>match ey is n with
    |some (ks,bs,m)=>match yq m ss cs with
     |some (ss',ws,m')=>some (.lp j off::ss',bs++(j,ff ks)::ws,m')
     |none=>none
    |none=>none
  |_=>none
 |n, .lw k::ss,c::cs=>match c with
  | .ows ty sz rows=>match yq (n+1) ss cs with
    |some (ss',ws,m)=>some (.lw n::ss',(n, .row none ty sz rows)::(k, .dead)::ws,m)
    |none=>none
  | .own ty sz rows=>match yq (n+1) ss cs with
    |some (ss',ws,m)=>some (.lw n::ss',(n, .aG none ty sz rows)::(k, .dead)::ws,m)
    |none=>none
  |_=>none
 |n, .c _::ss,c::cs=>match gU c with
  |true=>match yq n ss cs with
   |some (ss',ws,m')=>some (.c c::ss',ws,m')
   |none=>none
  |false=>none
 |_,_,_=>none
def OU(H:HM)(n:Nat)(s:SV)(o:Option (List CV)):Option (List (Nat × dE)× Nat × List (Nat × Nat)):=
 match s with
 | .lw k=>match o with
   |some [.ows ty sz rows]=>some ([(k, .row (oo (H k)) ty sz rows)],n,[])
   |some [.own ty sz rows]=>some ([(k, .aG (oo (H k)) ty sz rows)],n,[])
   |none=>some ([(k, .dead)],n,[])
   |_=>none
 | .lp k _=>match o with
   |some [.op cells]=>match Pq H k with
    |true=>match H k with
     | .cells cs=>match yq n cs cells with
       |some (ss,ws,m)=>some (ws++[(k,ff ss)],m,Nh cs ss)
       |none=>none
     |_=>none
    |false=>match ey cells n with
     |some (ss,bs,m)=>match H k with
      | .cells cs=>some (bs++iW (cs.flatMap iE)++[(k,ff ss)],m,Nh cs ss)
      |_=>some (bs++[(k,ff ss)],m,[])
     |none=>none
   |some [.iu t e s]=>match H k with
    | .iu _ _ _=>some ([(k, .iu t e s)],n,[])
    |_=>none
   |none=>match H k with
    | .cells cs=>some (iW (k::cs.flatMap iE),n,[])
    |_=>some ([(k, .dead)],n,[])
   |_=>none
 | .m ss=>match o with
   |some cs=>match Bl H ss cs with|some l=>some (l,n,[])|none=>none
   |none=>some (iW (ss.flatMap gx),n,[])
 |_=>none
def NC:List (Option (List CV))→Option (List CV)
 |o::_=>o
 |[]=>none
def oh(H:HM):Nat→List Bool→List SV→List (Option (List CV))→Option (List (Nat × dE)× Nat × List (Nat × Nat))
 |n,true::ms,s::ss,os=>match OU H n s (NC os) with
  |some (ws,m,rn)=>match oh H m ms ss os.tail with
   |some (ws',m',rn')=>some (ws++ws',m',rn++rn')
   |none=>none
  |none=>none
 |n,false::ms,_::ss,os=>match NC os with
  |none=>oh H n ms ss os.tail
  |some _=>none
 |n,_,_,[]=>some ([],n,[])
 |_,_,_,_::_=>none
def gC(H:HM)(md:List Bool)(args:List SV)(outs:List (Option (List CV)))(r:SV)(n:Nat):Option gI:=
 match wu r n with
 |some (sv,bs,m)=>match oh H m md args outs with
  |some (ws,m',rn)=>some ⟨sv,bs++ws,m'-n,rn⟩
  |none=>none
 |none=>none
def lg(Γ:Cx)(H:HM)(ρ:RM)(F:FM)(w:World)(n:Nat)(K:gI→Prop)(e:Ending)(w':World):Prop:=
 ∃E ρ' F' v,e= .returned v∧K E∧Ext ρ ρ'∧(∀i,ρ' i≠ρ i→n≤i∧i<n+E.c)∧Mem Γ (cY E.ws H) ρ' F' w'∧
  (∀b,aL Γ F w b→aL Γ F' w' b)∧(∀b,aL Γ F w b→w'.heap[b]? =w.heap[b]?)∧aZ ρ' w' (aL Γ F' w') E.sv v
def NU(P:Program)(f:Nat)(args:List SV)(H:HM)(n:Nat)(K:gI→Prop):Prop:=
 ∀(Γ:Cx) (ρ:RM) (F:FM) (w:World) (vs:List Value),Mem Γ H ρ F w→gy ρ n→(∀i,i<n→ρ i≠none)→args.length=vs.length→(∀(j:Nat) s v,args[j]? =some s→vs[j]? =some v→aZ ρ w (aL Γ F w) s v)→
  HL P f∧Calls P f vs.toArray w (lg Γ H ρ F w n K)
inductive aa{d:Bool}(P:Program)(f:Nat)(args:List SV)(H:HM)(n:Nat)(K:gI→Prop):Prop
 |pure (args':List SV) (r:SV) (hv:rE H [] args=some args') (h:ah P f args' [] r) (hs:(dT [] args||Gj r)=true) (E:gI) (he:gC H [] args [] r n=some E) (k:K E)
 |own (args':List SV) (r:SV) (hv:rE H [] args=some args') (h:ah P f args' [] r) (hp:jJ r) (E:gI) (he:gC H [] args [] r n=some E) (k:K E)
 |gen (md:List Bool) (args':List SV) (outs:List (Option (List CV))) (r:SV) (hv:rE H md args=some args') (h:ah P f args' outs r) (hn:fH (eT H md args)=true) (hc:dT md args=true) (E:gI) (he:gC H md args outs r n=some E) (k:K E)
 |Ql (md:List Bool) (args':List SV) (outs:List (Option (List CV))) (r:SV) (hv:rE H md args=some args') (h:ah P f args' outs r) (hn:fH (eT H md args)=true) (hp:jJ r∧wz outs) (E:gI) (he:gC H md args outs r n=some E) (k:K E)
 |ex {α:Type} (hd:d=false) (md:List Bool) (args':List SV) (φ:α→Prop) (outs:α→List (Option (List CV))) (r:α→SV) (hv:rE H md args=some args') (h:gJ P f args' φ outs r) (hn:fH (eT H md args)=true) (hc:dT md args=true)
  (k:∀x,φ x→match gC H md args (outs x) (r x) n with|some E=>K E|none=>False)
 |raw (hd:d=false) (h:NU P f args H n K)
 |gM (md:List Bool) (args':List SV) (outs:List (Option (List CV))) (r:SV) (hv:rE H md args=some args') (h:ah P f args' outs r) (hn:fH (eT H md args)=true) (hc:dT md args=true) (sv:SV) (i b k1:Nat) (s:dE) (u:Value) (ty sz:Nat) (rows:List (List CV)) (x y:CV) (c:Nat)
  (he:gC H md args outs r n=some ⟨sv,[(i,s),(n, .aG (some u) ty sz rows),(k1, .dead),(b, .cells [.c x, .c y, .lw n])],c,[(n,k1)]⟩) (h1:H k1= .aG (some u) ty sz rows) (h2:H b= .cells [.c x, .c y, .lw k1]) (h3:(match H i with| .dead=>false|_=>true)=true) (hd:fH [i,b,k1]=true) (hc0:Nat.beq c 0=false) (k:K ⟨sv,[(i,s)],c,[]⟩)
section
variable{ρ:RM}{w:World}{ok okv:Nat→Prop}{H:HM}{F:FM}
section
variable(hB:∀i,H i= .dead∨dd ρ w ok (H i) (ρ i) (F i))(hok:∀b,ok b→okv b)(hF:∀i,H i≠ .dead→∀b∈F i,okv b)
include hB hok hF
theorem pA:∀(n:Nat) (s:SV) (c:CV) (v:Value),lr H n s=some c→bG ρ w ok s v→Den w okv [c] [v] []
 |0,_,_,_,h,_=>by simp[lr] at h
 |n+1,s,c,v,h,hd=>by
  simp only[lr] at h
  split at h
  ·injection h with h
   subst h
   cases hd with
   |c h=>exact h.mono (fun _ _=>rfl) hok (by simp)
  ·rename_i i
   split at h
   ·rename_i o ty sz rows hi
    injection h with h
    subst h
    obtain⟨u,xs,hu,ho,hr,hin,hFi,_⟩:=ir hB hi
    have hFo:=hF i (by rw[hi];simp)
    cases hd with
    |lw hv=>
     rw[hu] at hv
     injection hv with hv
     subst hv
     have:=jX (Den.ows hin hr ho .nil) hok (by rw[hFi] at hFo;simpa using hFo)
     simpa[l5] using this
   ·rename_i o ty sz rows hi
    injection h with h
    subst h
    obtain⟨u,xs,f,hu,ho,hr,hin,hFi,_⟩:=dN hB hi
    have hFo:=hF i (by rw[hi];simp)
    cases hd with
    |lw hv=>
     rw[hu] at hv
     injection hv with hv
     subst hv
     have:=jX (Den.own hin hr ho .nil) hok (by rw[hFi] at hFo;simpa using hFo)
     simpa[l5] using this
   ·cases h
  ·rename_i i sz off len
   have fin:∀{rows:List (List CV)} {xs:List Value} {b m c c':Nat},Den w okv rows.flatten xs []→(∀r∈rows,r.length=sz)→At w ⟨b,0,none⟩ xs→okv b→rows.length=m→off+len≤m→len≤c'→c'≤maxLen→
    Den w okv [.ro sz ((rows.drop off).take len)] [.slice (some ⟨b,off*sz,none⟩) len c'] []:=by
    intro rows xs b m c c' hin hr hat hb hm h1 h2 h3
    refine .ro (by simp;omega) h2 h3 (fun r hr'=>hr r (List.mem_of_mem_drop (List.mem_of_mem_take hr'))) (j6 (off:=off) (len:=len) hin hr) (fun j x hx=>⟨_,rfl,rfl,hb, ?_⟩) .nil
    have hat':=j8 (fV hat (off*sz)) (len*sz)
    rw[eh,Nat.zero_add] at hat'
    exact hat' j x hx
   split at h
   ·rename_i o ty sz' rows hi
    cases hb:Nat.beq sz sz' with
    |false=>rw[hb] at h;cases h
    |true=>
     rw[hb] at h
     have:=Nat.eq_of_beq_eq_true hb
     subst this
     injection h with h
     subst h
     obtain⟨u,xs,hu,ho,hr,hin,hFi,_⟩:=ir hB hi
     have hFo:=hF i (by rw[hi];simp)
     cases hd with
     | @ls _ _ _ _ b n c c' hv h1 h2 h3=>
       rw[hu] at hv
       injection hv with hv
       subst hv
       obtain⟨hat,hn,hc,hm⟩:=jv ho rfl
       exact fin (c:=c) (hin.mono (fun _ _=>rfl) hok (by simp)) hr hat (hFo b (by rw[hFi];simp[Value.ownBlock])) hn.symm h1 h2 h3
   ·rename_i o ty sz' rows hi
    cases hb:Nat.beq sz sz' with
    |false=>rw[hb] at h;cases h
    |true=>
     rw[hb] at h
     have:=Nat.eq_of_beq_eq_true hb
     subst this
     injection h with h
     subst h
     obtain⟨u,xs,f,hu,ho,hr,hin,hFi,_⟩:=dN hB hi
     have hFo:=hF i (by rw[hi];simp)
     cases hd with
     | @ls _ _ _ _ b n c c' hv h1 h2 h3=>
       rw[hu] at hv
       injection hv with hv
       subst hv
       obtain⟨hat,hn,hc,hm⟩:=jv ho rfl
       have hd:=jX hin hok (fun c hc=>hFo c (by rw[hFi];simp[hc]))
       rw[←kT] at hd
       have hr':∀r∈cW rows,r.length=sz:=by
        rw[dO]
        intro r hr0
        obtain⟨r0,h0,rfl⟩:=List.mem_map.1 hr0
        simpa using hr r0 h0
       exact fin (c:=c) hd hr' hat (hFo b (by rw[hFi];simp[Value.ownBlock])) (by rw[dO,List.length_map];exact hn.symm) h1 h2 h3
   ·cases h
  ·rename_i i off
   split at h
   ·rename_i sz cs hi
    injection h with h
    subst h
    obtain⟨b,ty,arr,hρ,hh,hl,hin,hFi⟩:=DT hB hi
    have hFo:=hF i (by rw[hi];simp)
    cases hd with
    |lp hv=>
     rw[hρ] at hv
     simp only[Option.some.injEq,Value.pointer.injEq,Addr.mk.injEq,and_true] at hv
     subst hv
     have hat':=fV (tD hh) off
     rw[eh,Nat.zero_add] at hat'
     refine .rp (by simp[hl]) (fG (hin.mono (fun _ _=>rfl) hok (by simp)) off) rfl (fun j x hx=>⟨_,rfl,rfl,hFo b (by simp[hFi]),hat' j x hx⟩) .nil
   ·rename_i cs hi
    split at h
    ·rename_i l hl'
     injection h with h
     subst h
     obtain⟨b,ty,arr,hρ,hh,hl,hin,hFi⟩:=kI hB hi
     have hFo:=hF i (by rw[hi];simp)
     cases hd with
     |lp hv=>
      rw[hρ] at hv
      simp only[Option.some.injEq,Value.pointer.injEq,Addr.mk.injEq,and_true] at hv
      subst hv
      have hat':=fV (tD hh) off
      rw[eh,Nat.zero_add] at hat'
      have key:∀(cs:List SV) (l:List CV) (vs:List Value),gv (lr H n) cs=some l→cs.length=vs.length→(∀(j:Nat) a v,cs[j]? =some a→vs[j]? =some v→bG ρ w ok a v)→Den w okv l vs []:=by
        intro cs
        induction cs with
        |nil=>intro l vs h1 h2 _;simp[gv] at h1;subst h1;cases vs with|nil=>exact .nil|cons _ _=>simp at h2
        |cons c cs ih=>
         intro l vs h1 h2 h3
         simp only[gv] at h1
         split at h1
         ·rename_i y ys hy hys
          injection h1 with h1
          subst h1
          cases vs with
          |nil=>simp at h2
          |cons v vs=>
           have h4:=pA n c y v hy (h3 0 _ _ rfl rfl)
           have h5:=ih ys vs hys (by simpa using h2) fun j a v ha hv=>h3 (j+1) a v ha hv
           simpa using h4.append h5
         ·cases h1
      refine .rp (by simp) (fG (key cs l _ hl' hl hin) off) rfl (fun j x hx=>⟨_,rfl,rfl,hFo b (by simp[hFi]),hat' j x hx⟩) .nil
    ·cases h
   ·cases h
  ·rename_i i sz idx off
   split at h
   ·rename_i o ty sz' rows hi
    cases hb:Nat.beq sz sz' with
    |false=>rw[hb] at h;cases h
    |true=>
     rw[hb] at h
     have:=Nat.eq_of_beq_eq_true hb
     subst this
     simp only[cond] at h
     split at h
     ·rename_i r hx
      injection h with h
      subst h
      obtain⟨u,xs,hu,ho,hr,hin,hFi,_⟩:=ir hB hi
      have hFo:=hF i (by rw[hi];simp)
      cases hd with
      | @le _ _ _ _ b n0 c0 hv=>
        rw[hu] at hv
        injection hv with hv
        subst hv
        obtain⟨hat,_,_,_⟩:=jv ho rfl
        have hat':=fV (j8 (fV hat (idx*sz)) sz) off
        rw[eh,eh,Nat.zero_add] at hat'
        have d1:=fG (jm (fG hin (idx*sz)) sz) off
        rw[fc hr hx] at d1
        have hrl:=hr r (List.mem_of_getElem? hx)
        exact .rp (by simp[hrl]) (d1.mono (fun _ _=>rfl) hok (by simp)) rfl (fun j x hx=>⟨_,rfl,rfl,hFo b (by rw[hFi];simp[Value.ownBlock]),hat' j x hx⟩) .nil
     ·cases h
   ·cases h
  ·cases h
theorem uM{n:Nat}:∀{cs:List SV} {l:List CV} {vs:List Value},gv (lr H n) cs=some l→cs.length=vs.length→(∀(j:Nat) a v,cs[j]? =some a→vs[j]? =some v→bG ρ w ok a v)→Den w okv l vs []∧l.length=vs.length:=by
 intro cs
 induction cs with
 |nil=>intro l vs h1 h2 _;simp[gv] at h1;subst h1;cases vs with|nil=>exact⟨.nil,rfl⟩|cons _ _=>simp at h2
 |cons c cs ih=>
  intro l vs h1 h2 h3
  simp only[gv] at h1
  split at h1
  ·rename_i y ys hy hys
   injection h1 with h1
   subst h1
   cases vs with
   |nil=>simp at h2
   |cons v vs=>
    have h4:=pA hB hok hF n c y v hy (h3 0 _ _ rfl rfl)
    obtain⟨h5,h6⟩:=ih hys (by simpa using h2) fun j a v ha hv=>h3 (j+1) a v ha hv
    exact⟨by simpa using h4.append h5,by simp[h6]⟩
  ·cases h1
theorem ml{s s':SV}{v:Value}(h:gR H s=some s')(hd:dZ ρ w ok s v):∀ρ',dZ ρ' w okv s' v:=by
 intro ρ'
 unfold gR at h
 split at h
 ·injection h with h
  subst h
  cases hd with
  |c h=>cases h
  |a hl h=>exact .a hl (h.mono (fun _ _=>rfl) hok (by simp))
 ·split at h
  ·rename_i l hl'
   injection h with h
   subst h
   cases hd with
   |c h=>cases h
   |m hl h=>
    obtain⟨h1,h2⟩:=uM hB hok hF hl' hl h
    exact .a rfl h1
  ·cases h
 ·split at h
  ·rename_i l hl'
   injection h with h
   subst h
   cases hd with
   |c h=>cases h
   |clo hl h=>
    obtain⟨h1,h2⟩:=uM hB hok hF hl' hl h
    refine .clo (by simp[h2]) fun j a v ha hv=> ?_
    rw[List.getElem?_map] at ha
    cases hc:l[j]? with
    |none=>simp[hc] at ha
    |some c=>
     simp[hc] at ha
     subst ha
     exact .c (h1.get hc hv)
  ·cases h
 ·cases h
 ·cases h
 ·split at h
  ·rename_i c hc
   injection h with h
   subst h
   have:bG ρ w ok s v:=by
        cases hd with
        |c h=>exact h
        |a _ _=>simp_all
        |m _ _=>simp_all
        |clo _ _=>simp_all
   exact .c (.c (pA hB hok hF 5 s c v hc this))
  ·cases h
end
theorem qP(hok:∀b,ok b→okv b){s:SV}{v:Value}(h:kR s=true)(hd:dZ ρ w ok s v):∀ρ',dZ ρ' w okv s v:=by
 intro ρ'
 cases hd with
 |c hd=>cases hd<;>first|cases h|skip
        rename_i hd
        exact .c (.c (hd.mono (fun _ _=>rfl) hok (by simp)))
 |a hl hd=>exact .a hl (hd.mono (fun _ _=>rfl) hok (by simp))
 |m hl hd=>
  refine .m hl fun j a v ha hv=> ?_
  have h1:=hd j a v ha hv
  simp only[kR,List.all_eq_true] at h
  have h2:=h a (List.mem_of_getElem? ha)
  cases h1<;>first|cases h2|skip
  rename_i h1
  exact .c (h1.mono (fun _ _=>rfl) hok (by simp))
 |clo hl hd=>
  refine .clo hl fun j a v ha hv=> ?_
  have h1:=hd j a v ha hv
  simp only[kR,List.all_eq_true] at h
  have h2:=h a (List.mem_of_getElem? ha)
  cases h1<;>first|cases h2|skip
  rename_i h1
  exact .c (h1.mono (fun _ _=>rfl) hok (by simp))
theorem BH(H':HM):∀cs:List SV,cs.all mw=true→gv (lr H 5) cs=gv (lr H' 5) cs:=by
 intro cs
 induction cs with
 |nil=>intro _;rfl
 |cons c cs ih=>
  intro hc
  simp only[List.all_cons,Bool.and_eq_true] at hc
  simp only[gv]
  cases c<;>first|(simp[mw] at hc;done)|skip
  rw[ih hc.2]
  rfl
theorem CK:∀{s s':SV},kR s=true→gR H s=some s'→s'=s∨∃cs,s= .m cs∧cs.all mw=true:=by
 intro s s' hc hv
 unfold kR at hc
 split at hc
 ·simp[gR,lr] at hv;exact .inl hv.symm
 ·simp[gR] at hv;exact .inl hv.symm
 ·exact .inr ⟨_,rfl,hc⟩
 ·rename_i k caps
  have key:∀(caps:List SV) (l:List CV),caps.all mw=true→gv (lr H 5) caps=some l→l.map .c=caps:=by
   intro caps
   induction caps with
   |nil=>intro l _ h;simp[gv] at h;subst h;rfl
   |cons c cs ih=>
    intro l hc h
    simp only[List.all_cons,Bool.and_eq_true] at hc
    simp only[gv] at h
    cases c<;>first|(simp[mw] at hc;done)|skip
    rename_i x
    simp only[lr] at h
    split at h
    ·rename_i y ys hy hys
     injection h with h
     injection hy with hy
     subst h hy
     simp[ih ys hc.2 hys]
    ·cases h
  simp only[gR] at hv
  split at hv
  ·rename_i l hl
   injection hv with hv
   subst hv
   exact .inl (by rw[key caps l hc hl])
  ·cases hv
 ·cases hc
theorem E7(hok:∀b,ok b→okv b){s s':SV}{v:Value}(hc:kR s=true)(hv:gR H s=some s')(hd:dZ ρ w ok s v):∀ρ',dZ ρ' w okv s' v:=by
 rcases CK hc hv with rfl|⟨cs,rfl,h⟩
 ·exact qP hok hc hd
 ·have e:gR (fun _=> .dead) (.m cs)=some s':=by
   rw[←hv]
   simp only[gR,BH (H:=H) (fun _=> .dead) cs h]
  exact ml (H:=fun _=> .dead) (F:=fun _=>[]) (fun _=> .inl rfl) hok (fun _ h=>absurd rfl h) e hd
theorem Bx{s s':SV}{v:Value}(hv:gR H s=some s')(h:aZ ρ w ok s v):dZ ρ w ok s v:=by
 cases h with
 |any=>simp[gR] at hv
 |v h=>exact h
 |tup _ _=>simp[gR] at hv
theorem B5(hB:∀i,H i= .dead∨dd ρ w ok (H i) (ρ i) (F i)){s:SV}{x:CV}{v:Value}(h:sH H s=some x)(hd:bG ρ w ok s v):Den w ok [x] [v] ((gx s).flatMap F):=by
 unfold sH at h
 split at h
 ·rename_i k
  split at h
  ·rename_i u ty sz rows hk
   injection h with h
   subst h
   cases hd with
   |lw hv=>
    obtain⟨u',xs,f,hu,ho,hr,hin,hF,hm⟩:=dN hB hk
    rw[hv] at hu
    injection hu with hu
    subst hu
    have:=hm _ rfl
    subst this
    have:=Den.eW hin hr ho .nil
    simpa[gx,hF] using this
  ·exact iT hB h hd
 ·exact iT hB h hd
theorem BV(hB:∀i,H i= .dead∨dd ρ w ok (H i) (ρ i) (F i)){s:SV}{x:CV}{v:Value}(h:lk H s=some x)(hd:bG ρ w ok s v):Den w ok [x] [v] ((iE s).flatMap F):=by
 unfold lk at h
 split at h
 ·rename_i k off
  split at h
  ·rename_i sz cs hk
   cases hb:Nat.beq off 0 with
   |false=>rw[hb] at h;cases h
   |true=>
    rw[hb] at h
    have:=Nat.eq_of_beq_eq_true hb
    subst this
    injection h with h
    subst h
    obtain⟨b',ty,arr,hρ',hh,hl,hin,hFk⟩:=DT hB hk
    cases hd with
    |lp hρ=>
     rw[hρ] at hρ'
     simp only[Option.some.injEq,Value.pointer.injEq,Addr.mk.injEq,and_true] at hρ'
     subst hρ'
     have:=Den.op hh hin .nil
     simpa[iE,hFk] using this
  ·cases h
 ·rename_i hne
  have e:iE s=gx s:=by cases s<;>first|rfl|exact(hne _ _ rfl).elim
  rw[e]
  exact B5 hB h hd
theorem pt(hB:∀i,H i= .dead∨dd ρ w ok (H i) (ρ i) (F i)):∀{cs:List SV} {l:List CV} {vs:List Value},gv (lk H) cs=some l→cs.length=vs.length→(∀(j:Nat) a v,cs[j]? =some a→vs[j]? =some v→bG ρ w ok a v)→
 Den w ok l vs ((cs.flatMap iE).flatMap F)
 |[],l,vs,h,hl,_=>by
  simp[gv] at h
  subst h
  cases vs with
  |nil=>simpa using Den.nil
  |cons _ _=>simp at hl
 |c::cs,l,vs,h,hl,hd=>by
  cases vs with
  |nil=>simp at hl
  |cons v vs=>
   simp only[gv] at h
   split at h
   ·rename_i y ys hy hys
    injection h with h
    subst h
    have h1:=BV hB hy (hd 0 _ _ rfl rfl)
    have h3:=pt hB hys (by simpa using hl) fun j a v ha hv=>hd (j+1) a v ha hv
    have:=h1.append h3
    simpa using this
   ·cases h
theorem EZ{Hm:HM}{s:SV}{x:CV}(h:sH Hm s=some x):∀k∈gx s,Hm k≠ .dead:=by
 unfold sH at h
 split at h
 ·rename_i k
  split at h
  ·rename_i u ty sz rows hk
   intro i hi e
   simp only[gx,List.mem_singleton] at hi
   subst hi
   rw[hk] at e
   cases e
  ·exact nH h
 ·exact nH h
theorem FU{Hm:HM}{s:SV}{x:CV}(h:lk Hm s=some x):∀k∈iE s,Hm k≠ .dead:=by
 unfold lk at h
 split at h
 ·rename_i k off
  split at h
  ·rename_i sz cs hk
   intro i hi e
   simp only[iE,List.mem_singleton] at hi
   subst hi
   rw[hk] at e
   cases e
  ·cases h
 ·rename_i hne
  have e:iE s=gx s:=by cases s<;>first|rfl|exact(hne _ _ rfl).elim
  rw[e]
  exact EZ h
theorem rN{Hm:HM}:∀{cs:List SV} {l:List CV},gv (lk Hm) cs=some l→∀k∈cs.flatMap iE,Hm k≠ .dead
 |[],_,_,k,hk=>by simp at hk
 |c::cs,l,h,k,hk=>by
  simp only[gv] at h
  split at h
  ·rename_i y ys hy hys
   simp only[List.flatMap_cons,List.mem_append] at hk
   rcases hk with hk|hk
   ·exact FU hy k hk
   ·exact rN hys k hk
  ·cases h
theorem ve(hB:∀i,H i= .dead∨dd ρ w ok (H i) (ρ i) (F i))(hok:∀b,ok b→okv b){s s':SV}{v:Value}(h:ji H s=some s')(hd:aZ ρ w ok s v):qt w okv s' v ((en H s).flatMap F):=by
 unfold ji at h
 split at h
 ·rename_i k
  split at h
  ·rename_i x hx
   injection h with h
   subst h
   have hc:bG ρ w ok (.lw k) v:=by cases hd with|v h=>cases h with|c h=>exact h
   have:=iT hB hx hc
   exact .o (this.mono (fun _ _=>rfl) hok (fun _ _=>rfl))
  ·cases h
 ·rename_i k off
  obtain⟨b,hρ,rfl⟩:=sW hd
  split at h
  ·rename_i sz cs hk
   cases hb:Nat.beq off 0 with
   |false=>rw[hb] at h;cases h
   |true=>
    rw[hb] at h
    have:=Nat.eq_of_beq_eq_true hb
    subst this
    injection h with h
    subst h
    obtain⟨b',ty,arr,hρ',hh,hl,hin,hFk⟩:=DT hB hk
    rw[hρ] at hρ'
    simp only[Option.some.injEq,Value.pointer.injEq,Addr.mk.injEq,and_true] at hρ'
    subst hρ'
    have:=Den.op hh hin .nil
    simp only[en,hk,List.flatMap_cons,List.flatMap_nil,hFk]
    exact .o (this.mono (fun _ _=>rfl) hok (fun _ _=>rfl))
  ·rename_i cs hk
   cases hb:Nat.beq off 0 with
   |false=>rw[hb] at h;cases h
   |true=>
    rw[hb] at h
    have:=Nat.eq_of_beq_eq_true hb
    subst this
    simp only[cond] at h
    split at h
    ·rename_i l hl0
     injection h with h
     subst h
     obtain⟨b',ty,arr,hρ',hh,hl,hin,hFk⟩:=kI hB hk
     rw[hρ] at hρ'
     simp only[Option.some.injEq,Value.pointer.injEq,Addr.mk.injEq,and_true] at hρ'
     subst hρ'
     have:=Den.op hh (pt hB hl0 hl hin) .nil
     simp only[en,hk,List.flatMap_cons,hFk]
     have:=this.mono (w':=w) (ok':=okv) (fun _ _=>rfl) hok (fun _ _=>rfl)
     simp only[List.append_nil] at this
     exact .o this
    ·cases h
  ·rename_i t e s hk
   cases hb:Nat.beq off 0 with
   |false=>rw[hb] at h;cases h
   |true=>
    rw[hb] at h
    have:=Nat.eq_of_beq_eq_true hb
    subst this
    injection h with h
    subst h
    obtain⟨b',p,u,hρ',hp,hh,ho,hFk⟩:=Ns hB hk
    rw[hρ] at hρ'
    simp only[Option.some.injEq,Value.pointer.injEq,Addr.mk.injEq,and_true] at hρ'
    subst hρ'
    have:=Den.iu (ok:=okv) hp hh ho .nil
    simp only[en,hk,List.flatMap_cons,List.flatMap_nil,hFk]
    exact .o this
  ·cases h
 ·rename_i cs
  split at h
  ·rename_i l hl
   injection h with h
   subst h
   cases hd with
   |v hd=>cases hd with
    |c hd=>cases hd
    |m hlen hh=>exact .m ((by simpa[en] using mg hB hl hlen hh:Den w ok l _ _).mono (fun _ _=>rfl) hok (fun _ _=>rfl))
  ·cases h
 ·cases h
theorem vn(hB:∀i,H i= .dead∨dd ρ w ok (H i) (ρ i) (F i))(hok:∀b,ok b→okv b){s s':SV}{v:Value}(h:nw H s=some s')(hd:aZ ρ w ok s v):qt w okv s' v ((en H s).flatMap F):=by
 unfold nw at h
 split at h
 ·rename_i k o
  obtain⟨b,hρ,rfl⟩:=sW hd
  split at h
  ·rename_i sz cs hk
   injection h with h
   subst h
   obtain⟨b',ty,arr,hρ',hh,hl,hin,hFk⟩:=DT hB hk
   rw[hρ] at hρ'
   simp only[Option.some.injEq,Value.pointer.injEq,Addr.mk.injEq,and_true] at hρ'
   subst hρ'
   have:=Den.op hh hin .nil
   simp only[en,hk,List.flatMap_cons,List.flatMap_nil,hFk]
   exact .off (this.mono (fun _ _=>rfl) hok (fun _ _=>rfl))
  ·rename_i cs hk
   split at h
   ·rename_i l hl0
    injection h with h
    subst h
    obtain⟨b',ty,arr,hρ',hh,hl,hin,hFk⟩:=kI hB hk
    rw[hρ] at hρ'
    simp only[Option.some.injEq,Value.pointer.injEq,Addr.mk.injEq,and_true] at hρ'
    subst hρ'
    have:=Den.op hh (pt hB hl0 hl hin) .nil
    simp only[en,hk,List.flatMap_cons,hFk]
    have:=this.mono (w':=w) (ok':=okv) (fun _ _=>rfl) hok (fun _ _=>rfl)
    simp only[List.append_nil] at this
    exact .off this
   ·cases h
  ·cases h
 ·exact ve hB hok h hd
theorem BM{Hv:HM}(hB:∀i,H i= .dead∨dd ρ w ok (H i) (ρ i) (F i))(hBv:∀i,Hv i= .dead∨dd ρ w ok (Hv i) (ρ i) (F i))(hok:∀b,ok b→okv b):∀{md:List Bool} {args args':List SV} {vs:List Value},
 ((∀i,Hv i≠ .dead→∀b∈F i,okv b)∨dT md args=true)→ll H Hv md args=some args'→args.length=vs.length→(∀(j:Nat) s v,args[j]? =some s→vs[j]? =some v→aZ ρ w ok s v)→
 AL w okv args' vs ((eT H md args).flatMap F):=by
 intro md args
 induction args generalizing md with
 |nil=>
  intro args' vs _ h hl _
  have:args'=[]:=by cases md<;>simpa[ll] using h.symm
  subst this
  cases vs with
  |nil=>have:eT H md []=[]:=by cases md with|nil=>rfl|cons m _=>cases m<;>rfl
        rw[this];exact .nil
  |cons _ _=>simp at hl
 |cons s ss ih=>
  intro args' vs hF h hl hd
  cases vs with
  |nil=>simp at hl
  |cons v vs=>
   have h0:=hd 0 s v rfl rfl
   have htl:=fun j s v hs hv=>hd (j+1) s v hs hv
   have view:∀{x:SV},(∀i,Hv i≠ .dead→∀b∈F i,okv b)∨kR s=true→gR Hv s=some x→qt w okv x v []:=by
        intro x hc hx
        rcases hc with hc|hc
        ·exact .v (ml hBv hok hc hx (Bx hx h0))
        ·exact .v (E7 hok hc hx (Bx hx h0))
   cases md with
   |nil=>
    simp only[ll] at h
    split at h
    ·rename_i x xs hx hxs
     injection h with h
     subst h
     have h1:=ih (md:=[]) (hF.imp_right fun hc=>by simp only[dT,Bool.and_eq_true] at hc;exact hc.2) hxs (by simpa using hl) htl
     have h2:=view (hF.imp_right fun hc=>by simp only[dT,Bool.and_eq_true] at hc;exact hc.1) hx
     have:=AL.cons h2 h1
     simpa[eT] using this
    ·cases h
   |cons m ms=>
    cases m with
    |true=>
     simp only[ll] at h
     split at h
     ·rename_i x xs hx hxs
      injection h with h
      subst h
      have h1:=ih (md:=ms) (hF.imp_right fun hc=>by simpa[dT] using hc) hxs (by simpa using hl) htl
      have h2:=vn hB hok hx h0
      have:=AL.cons h2 h1
      simpa[eT] using this
     ·cases h
    |false=>
     simp only[ll] at h
     split at h
     ·rename_i x xs hx hxs
      injection h with h
      subst h
      have h1:=ih (md:=ms) (hF.imp_right fun hc=>by simp only[dT,Bool.and_eq_true] at hc;exact hc.2) hxs (by simpa using hl) htl
      have h2:=view (hF.imp_right fun hc=>by simp only[dT,Bool.and_eq_true] at hc;exact hc.1) hx
      have:=AL.cons h2 h1
      simpa[eT] using this
     ·cases h
end
section
variable{w:World}{ok okv:Nat→Prop}
theorem yU{x:CV}(h:LC x=true):im x:=by cases x<;>first|trivial|cases h
theorem jn.pure{s:SV}{v:Value}{f:List Nat}(h:jn w ok s v f)(hp:wA s):jn w okv s v f:=by
 cases h with
 |v h=>
  have h0:=h (fun _=>none)
  cases h0 with
  |c hc=>cases hc with
   |c hd=>exact .v fun ρ=> .c (.c (oN hd (by simpa[wA] using hp)))
   |lp h'=>cases h'
   |le h'=>cases h'
   |lw h'=>cases h'
   |ls h'=>cases h'
   |mp h'=>cases h'
  |a hl hd=>exact .v fun ρ=> .a hl (oN hd hp)
  |m _ _=>exact hp.elim
  |clo _ _=>exact hp.elim
 |o h=>exact .o (oN h (by simpa[wA] using hp))
 |a hl h=>exact .a hl (oN h hp)
theorem OL.pure{ss:List SV}{vs:List Value}{f:List Nat}(h:OL w ok ss vs f)(hp:∀s∈ss,wA s):OL w okv ss vs f:=by
 induction h with
 |nil=>exact .nil
 |cons h _ ih=>exact .cons (h.pure (hp _ (by simp))) (ih fun s hs=>hp s (by simp[hs]))
theorem OT.pure{s:SV}{v:Value}{f:List Nat}(h:OT w ok s v f)(hp:jJ s):OT w okv s v f:=by
 cases h with
 |any=>exact .any
 |v h=>
  refine .v (h.pure ?_)
  cases s<;>first|exact hp|skip
  ·exact h.Ap.elim
  ·cases h with
   |v h=>cases h (fun _=>none) with|c h=>cases h
 |tup h=>exact .tup (h.pure hp)
theorem kH.pure{w0:World}{os:List (Option (List CV))}{vs:List Value}{f:List Nat}(h:kH w0 w ok os vs f)(hp:wz os):kH w0 w okv os vs f:=by
 induction h with
 |nil=>exact .nil
 |none _ ih=>exact .none (ih hp)
 |some h hk _ ih=>exact .some (oN h hp.1) hk (ih hp.2)
theorem kH.mono{w0:World}{ok':Nat→Prop}{os:List (Option (List CV))}{vs:List Value}{f:List Nat}(h:kH w0 w ok os vs f)(hok:∀b,ok b→ok' b):kH w0 w ok' os vs f:=by
 induction h with
 |nil=>exact .nil
 |none _ ih=>exact .none ih
 |some h hk _ ih=>exact .some (h.mono (fun _ _=>rfl) hok (fun _ _=>rfl)) hk ih
theorem OT.NY{ok':Nat→Prop}{s:SV}{v:Value}{f:List Nat}(h:OT w ok s v f)(hok:∀b,ok b→ok' b):OT w ok' s v f:=by
 cases h with
 |any=>exact .any
 |v h=>exact .v (h.mono (fun _ _=>rfl) hok (fun _ _=>rfl))
 |tup h=>exact .tup (h.mono (fun _ _=>rfl) hok (fun _ _=>rfl))
theorem xH{s:SV}(h:Hj s=true):wA s:=by
 cases s<;>simp only[Hj] at h<;>first|cases h|skip
 ·exact yU h
 ·intro x hx
  exact yU (List.all_eq_true.1 h x hx)
theorem F6{s:SV}(h:Gj s=true):jJ s:=by
 cases s<;>simp only[Gj] at h<;>first|exact xH h|trivial|skip
 intro s hs
 exact xH (List.all_eq_true.1 h s hs)
end
end Go.KA
