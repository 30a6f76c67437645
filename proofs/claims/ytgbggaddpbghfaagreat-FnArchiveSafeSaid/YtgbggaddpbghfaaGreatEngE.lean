/- Part of a proof engine for functions of the given program: what an operation, a loop and a call compute, symbolically. No conditions. -/
import Derived.Test.YtgbggaddpbghfaaGreatEngD
namespace Go.KA
open Go Go.RowKit
section
variable{P:Program}{tbl:TT}{Γ:Cx}{H Hm:HM}{ρ:RM}{F:FM}{w:World}
def um(Γ:Cx)(H:HM)(ρ:RM)(F:FM)(w:World)(n:Nat)(K:iT->Prop)(r:Result Value):Prop:=
 ∃E ρ' F' v w',K E/\r= .ok v w'/\Ext ρ ρ'/\(∀i,ρ' i≠ρ i->n≤i/\i<n+E.c)/\Mem Γ (du E.ws H) ρ' F' w'/\
  (∀b,bg Γ F w b->bg Γ F' w' b)/\(∀b,bg Γ F w b->w'.heap[b]? =w.heap[b]?)/\bJ ρ' w' (bg Γ F' w') E.sv v
def oc(ρ:RM)(n:Nat)(K:iT->Prop):Prop:=∀E,K E-> ∀i,n≤i->i<n+E.c->ρ i=none
theorem um.quiet(hm:Mem Γ H ρ F w){n:Nat}{K:iT->Prop}{r:Result Value}(h:∃sv v,K (.q sv)/\r= .ok v w/\bJ ρ w (bg Γ F w) sv v):um Γ H ρ F w n K r:=by
 obtain⟨sv,v,hK,hr,hT⟩:=h;exact⟨.q sv,ρ,F,v,w,hK,hr,Ext.refl _,fun i hi=>absurd rfl hi,hm,fun _ h=>h,fun _ _=>rfl,hT⟩
theorem m9{ρ:RM}{n:Nat}{v:Value}{i:Nat}(h:xi ρ n v i≠ρ i):i=n:=by
 by_cases e:i=n
 ·exact e
 ·exact absurd (ox e) h
theorem Mem.TG:∀(zs:List ZC) {H:HM} {ρ:RM} {F:FM} {n:Nat},Mem Γ H ρ F w->(∀i,n≤i->i<n+sT zs->ρ i=none)->
 ∃ρ' F',Mem Γ (du (GP zs n) H) ρ' F' w/\Ext ρ ρ'/\(∀i,ρ' i≠ρ i->n≤i/\i<n+sT zs)/\(∀b,bg Γ F w b->bg Γ F' w b)/\
  (∀ok,∀(j:Nat) s v,(lu zs n)[j]? =some s->(zs.map ZC.val)[j]? =some v->(∀z∈zs,z.val.oneCell'=true)->b9 ρ' w ok s v)
 |[],H,ρ,F,n,hm,_=>⟨ρ,F,hm,Ext.refl _,fun i hi=>absurd rfl hi,fun _ h=>h,fun ok j s v h=>by simp[lu]at h⟩
 | .v x::zs,H,ρ,F,n,hm,hf=>by
   obtain⟨ρ',F',h1,h2,h3,h4,h5⟩:=Mem.TG zs hm hf;refine⟨ρ',F',h1,h2,h3,h4,fun ok j s v hs hv hz=>?_⟩;cases j with
   |zero=>
    simp[lu]at hs;simp[ZC.val]at hv;subst hs hv;exact .c (.val (hz (.v x) (by simp)) .nil)
   |succ j=>exact h5 ok j s v (by simpa[lu]using hs) (by simpa using hv) fun z RG=>hz z (by simp[RG])
 | .s ll dw::zs,H,ρ,F,n,hm,hf=>by
   simp only[sT]at hf;obtain⟨g1,g2⟩:=hm.fill (hf n (aw _) (by omega)) (w':=w) (Below.refl _ _) (k:= .row none ll dw []) (v:= .slice none 0 0) (f:=[]) (by simp) (by simp)
    (.row (World.ownsRow_nil w 0 ll dw) (by simp) .nil (by simp))
   obtain⟨ρ',F',h1,h2,h3,h4,h5⟩:=Mem.TG zs (n:=n+1) g1 fun i h1 h2=>by rw[ox (by omega)];exact hf i (by omega) (by omega)
   refine⟨ρ',F',h1,(gQ (hf n (aw _) (by omega)) _).trans h2,fun i hi=>?_,fun b hb=>h4 b (g2 b hb),fun ok j s v hs hv hz=>?_⟩
   ·simp only[sT];by_cases e:i=n
    ·omega
    ·have:=h3 i (by rw[ox e];exact hi);omega
   ·cases j with
    |zero=>
     simp[lu]at hs;simp[ZC.val]at hv;subst hs hv;exact .lw (h2 _ _ gP)
    |succ j=>exact h5 ok j s v (by simpa[lu]using hs) (by simpa using hv) fun z RG=>hz z (by simp[RG])
theorem rq{nt:Nat}{T:TM}{a:Act}(hS:St Γ nt T H ρ F a w)(x:Operand):bJ ρ w (bg Γ F w) (ev T x) (a.eval x):=by
 cases x with
 |tmp t=>exact hS.tmps t
 |global g=>exact .any
 |func f=>exact .v (.clo (k:=f) (cs:=[]) (vs:=[]) rfl (by simp))
 |const v=>
  simp only[ev,Act.eval];unfold Qm;split
  ·exact eD (.cb .nil)
  ·rename_i a;cases hb:a.toList.all Value.oneCell' with
   |false=>exact .any
   |true=>
    have:∀l:List Value,(∀v∈l,v.oneCell'=true)->Den w (bg Γ F w) (l.map CV.val) l []:=by
        intro l
        induction l with
        |nil=>intro _;exact .nil
        |cons v l ih=>intro h;exact .val (h v (by simp)) (ih fun u hu=>h u (by simp[hu]))
    have h1:=this a.toList (aj.1 hb);exact .v (.a (by simp) h1)
  ·exact .any
  ·rename_i f x y;split
   ·rename_i h1 h2;have e1:x= #[]:=by simpa using h1
    have e2:y= #[]:=by simpa using h2
    subst e1 e2;exact .v (.clo (k:=f) (cs:=[]) (vs:=[]) rfl (by simp))
   ·exact .any
  ·rename_i h1 h2 h3 h4;refine eD (.val ?_ .nil);cases v<;>first|rfl|(exact absurd rfl (h2 _))|(exact absurd rfl (h3 _))
theorem Xp(zs:List ZC)(n:Nat):(lu zs n).length=zs.length:=by
 induction zs generalizing n with
 |nil=>rfl
 |cons z zs ih=>cases z<;>simp[lu,ih]
theorem lN{ok:Nat->Prop}:∀{cs:List SV} {l:List CV} {vs:List Value},vB cs=some l->cs.length=vs.length->(∀(j:Nat) a v,cs[j]? =some a->vs[j]? =some v->b9 ρ w ok a v)->Den w ok l vs []/\l.length=cs.length
 |[],l,vs,h,hl,_=>by
  simp[vB]at h;subst h;cases vs with
  |nil=>exact⟨.nil,rfl⟩
  |cons _ _=>simp at hl
 |c::cs,l,vs,h,hl,hd=>by
  cases vs with
  |nil=>simp at hl
  |cons v vs=>
   cases c<;>simp only[vB]at h<;>first|(cases h;done)|skip
   rename_i x;split at h
   ·rename_i ys ud;injection h with h
    subst h;obtain⟨h1,h2⟩:=lN (vs:=vs) ud (by simpa using hl) fun j a v ha hv=>hd (j+1) a v ha hv
    have h0:=hd 0 _ _ rfl rfl;cases h0 with
    |c h0=>exact⟨by simpa using h0.append h1,by simp[h2]⟩
   ·cases h
theorem eX{ok:Nat->Prop}{cs:List SV}{b ty:Nat}{arr:Array Value}(hb:w.heap[b]? =some (.cells arr ty (0,0)))(hl:cs.length=arr.toList.length)
 (h:∀(j:Nat) a v,cs[j]? =some a->arr.toList[j]? =some v->b9 ρ w ok a v):dH ρ w ok (gj cs) (some (.pointer (some ⟨b,0,none⟩))) [b]:=by
 unfold gj;split
 ·rename_i l hc;obtain⟨h1,h2⟩:=lN hc hl h;exact .cc hb rfl h1
 ·exact .cells hb hl h
theorem za{ok:Nat->Prop}{cs:List SV}{vs:List Value}(hl:cs.length=vs.length)(h:∀(j:Nat) a v,cs[j]? =some a->vs[j]? =some v->b9 ρ w ok a v):
 bJ ρ w ok (Tu cs) (.agg vs.toArray):=by
 unfold Tu;split
 ·rename_i l hc;obtain⟨h1,h2⟩:=lN hc hl h;exact .v (.a rfl h1)
 ·exact .v (.m hl h)
theorem g7(w:World)(o:Obj):Below w.heap.size w (w.alloc o):=(Below.refl _ _).alloc (aw _) o
theorem wR(w:World)(o:Obj):(w.alloc o).heap[w.heap.size]? =some o:=heap_alloc_new w o
theorem Mem.Jo(hm:Mem Γ H ρ F w){n:Nat}(hn:ρ n=none){ty:Nat}{k:dW}{arr:Array Value}
 (hk:∀w' ρ',w'.heap[w.heap.size]? =some (.cells arr ty (0,0))->Below w.heap.size w w'->Ext ρ ρ'->dH ρ' w' (bg Γ F w) k (some (.pointer (some ⟨w.heap.size,0,none⟩))) [w.heap.size]):
 ∃F',Mem Γ (dY H n k) (xi ρ n (.pointer (some ⟨w.heap.size,0,none⟩))) F' (w.alloc (.cells arr ty))/\(∀b,bg Γ F w b->bg Γ F' (w.alloc (.cells arr ty)) b)/\
  bJ (xi ρ n (.pointer (some ⟨w.heap.size,0,none⟩))) (w.alloc (.cells arr ty)) (bg Γ F' (w.alloc (.cells arr ty))) (.lp n 0) (.pointer (some ⟨w.heap.size,0,none⟩)):=by
 obtain⟨h1,h2⟩:=hm.fill hn (g7 w (.cells arr ty)) (k:=k) (v:= .pointer (some ⟨w.heap.size,0,none⟩)) (f:=[w.heap.size]) (by simp) (by simp)
  (hk _ _ (wR w _) (g7 w _) (gQ hn _))
 exact⟨_,h1,h2, .v (.c (.lp gP))⟩
theorem xJ(hm:Mem Γ H ρ F w){TI n:Nat}{s:SV}{v:Value}{K:iT->Prop}(h:CX tbl TI s n K)(hf:oc ρ n K)(hs:bJ ρ w (bg Γ F w) s v):um Γ H ρ F w n K (.ok v w):=by
 unfold CX at h;split at h
 ·have:=fD (b9.jM hs);subst this;split at h
  ·rename_i i hi;split at h
   ·rename_i ll dw yg he;have hn:=hf _ h n (aw _) (by simp);obtain⟨g1,g2⟩:=hm.fill hn (w':=w) (Below.refl _ _) (k:= .row none ll dw []) (v:= .slice none 0 0) (f:=[]) (by simp) (by simp)
     (.row (World.ownsRow_nil w 0 ll dw) (by simp) .nil (by simp))
    exact⟨_,_,_,_,_,h,rfl,gQ hn _,fun i hi=>by have:=m9 hi;simp;omega,g1,g2,fun _ _=>rfl, .v (.c (.lw gP))⟩
   ·exact um.quiet hm ⟨_,_,h,rfl,hs⟩
  ·exact um.quiet hm ⟨_,_,h,rfl,hs⟩
 ·exact um.quiet hm ⟨_,_,h,rfl,hs⟩
theorem B4{t:Nat}{z:Value}{inf:TypeInfo}(hi:P.info? t=some inf)(hz:inf.zero=some z):
 (Instr.alloc t true (.tuple #[])).run P w= .ok (.pointer (some ⟨w.heap.size,0,none⟩)) (w.alloc (.cells z.cells t)):=by
 simp[Instr.alloc,zeroValue,typeInfo,hi,hz,newVar,newRow]
theorem E2(dC:en P tbl)(hm:Mem Γ H ρ F w){t n:Nat}{K:iT->Prop}(h:D5 tbl t n K)(hf:oc ρ n K):
 um Γ H ρ F w n K ((Instr.alloc t true (.tuple #[])).run P w):=by
 unfold D5 at h;split at h
 case h_2=>exact h.elim
 rename_i i hi;obtain⟨inf,z,kX,hz,Ic,gC,_,jS⟩:=(dC _ _ hi).zero;split at h
 ·rename_i e he;have hn:=hf _ h n (aw _) (by simp);have hz2:z.cells= #[.pointer none, .slice none 0 0]:=by
   unfold X0 at he;split at he
   ·rename_i ll dw hzz;rw[hzz]at Ic;exact Array.ext' Ic
   ·cases he
  obtain⟨F2,g1,g2,g3⟩:=hm.Jo hn (ty:=t) (arr:=z.cells) (k:= .jB t e ByteArray.empty) fun w' ρ' qD hb im=>by
   rw[hz2]at qD;exact .jB (.inl rfl) qD (World.ownsRow_nil w' 0 e 1)
  exact⟨_,_,F2,_,_,h,B4 kX hz,gQ hn _,fun i hi=>by have:=m9 hi;simp;omega,g1,g2,fun b hb=>(g7 w _).block b hb.1,g3⟩
 have nY:=hf _ h;simp only at nY;obtain⟨ρ1,F1,h1,h2,h3,h4,h5⟩:=Mem.TG i.zero hm fun j a b=>nY j a (by omega)
 have Y5:ρ1 (n+sT i.zero)=none:=by
  have:ρ1 (n+sT i.zero)=ρ (n+sT i.zero):=by
   by_cases e:ρ1 (n+sT i.zero)=ρ (n+sT i.zero)
   ·exact e
   ·have:=h3 _ e;omega
  rw[this];exact nY _ (by omega) (by omega)
 obtain⟨F2,g1,g2,g3⟩:=h1.Jo Y5 (ty:=t) (arr:=z.cells) (k:=gj (lu i.zero n)) fun w' ρ' qD hb im=>by
  refine eX qD (by rw[Ic,Xp];simp) fun j s v hs hv=>?_
  rw[Ic]at hv;exact(h5 (bg Γ F1 w) j s v hs hv jS).mono (fun b fX=>hb.block b fX.1) (fun _ h=>h) im
 refine⟨_,_,F2,_,_,h,B4 kX hz,h2.trans (gQ Y5 _),fun j hj=>?_,by rw[ot];exact g1,fun b hb=>g2 b (h4 b hb),fun b hb=>(g7 w _).block b hb.1,g3⟩;by_cases e:j=n+sT i.zero
 ·simp only;omega
 ·rw[ox e]at hj;have:=h3 j hj;simp only;omega
theorem SO{t:Nat}{v:Value}:(Instr.box t v).run P w= .ok (.pointer (some ⟨w.heap.size,0,none⟩)) (w.alloc (.cells v.cells t)):=by
 simp[Instr.box,newVar,newRow]
theorem mU{v:Value}(h:v.oneCell'=true):v.cells= #[v]:=by cases v<;>first|rfl|cases h
theorem Ku(hm:Mem Γ H ρ F w){t n:Nat}{s:SV}{v:Value}{K:iT->Prop}(h:Sy s n K)(hf:oc ρ n K)(hs:bJ ρ w (bg Γ F w) s v):um Γ H ρ F w n K ((Instr.box t v).run P w):=by
 unfold Sy at h;have fin:∀{k:dW},K ⟨.lp n 0,[(n,k)],1,[]⟩->(∀w' ρ',w'.heap[w.heap.size]? =some (.cells v.cells t (0,0))->Below w.heap.size w w'->Ext ρ ρ'->dH ρ' w' (bg Γ F w) k (some (.pointer (some ⟨w.heap.size,0,none⟩))) [w.heap.size])->
  um Γ H ρ F w n K ((Instr.box t v).run P w):=by
  intro k hK hk;have hn:=hf _ hK n (aw _) (by simp);obtain⟨F2,g1,g2,g3⟩:=hm.Jo hn (ty:=t) (arr:=v.cells) (k:=k) hk;exact⟨_,_,F2,_,_,hK,SO,gQ hn _,fun i hi=>by have:=m9 hi;simp;omega,g1,g2,fun b hb=>(g7 w _).block b hb.1,g3⟩
 have one:∀{x:SV},b9 ρ w (bg Γ F w) x v->K ⟨.lp n 0,[(n, .cells [x])],1,[]⟩->um Γ H ρ F w n K ((Instr.box t v).run P w):=by
  intro x hx hK;refine fin hK fun w' ρ' qD hb im=>?_
  rw[mU hx.one]at qD;refine .cells qD rfl fun j a u ha hu=>?_
  cases j with
  |zero=>
   simp at ha hu;subst ha hu;exact hx.mono (fun b fX=>hb.block b fX.1) (fun _ h=>h) im
  |succ j=>simp at ha
 split at h
 ·rename_i k cs;cases hs with
  |v hs=>cases hs with
   |c hs=>cases hs
   |a hl hd=>
    rename_i vs;exact fin h fun w' ρ' qD hb im=> .cc qD hl (by simpa[Value.cells]using hd.mono (fun b fX=>hb.block b fX.1) (fun _ fX=>fX) (by simp))
 ·rename_i cs;cases hs with
  |v hs=>cases hs with
   |c hs=>cases hs
   |m hl hd=>
    rename_i vs;exact fin h fun w' ρ' qD hb im=>eX qD (by simpa[Value.cells]using hl) fun j a v ha hv=>(hd j a v ha (by simpa[Value.cells]using hv)).mono (fun b fX=>hb.block b fX.1) (fun _ h=>h) im
 ·rename_i x;have hd:=b9.jM hs;refine fin h fun w' ρ' qD hb im=>?_
  rw[mU (hd.one v (by simp))]at qD;exact .cc qD rfl (hd.mono (fun b fX=>hb.block b fX.1) (fun _ fX=>fX) (by simp))
 ·cases hs with
  |v hs=>cases hs with|c hs=>exact one hs h
 ·cases hs with
  |v hs=>cases hs with|c hs=>exact one hs h
 ·exact h.elim
def PW(R:SV->Value->Prop)(as:List SV)(vs:List Value):Prop:=as.length=vs.length/\ ∀(j:Nat) a v,as[j]? =some a->vs[j]? =some v->R a v
theorem PW.take{R:SV->Value->Prop}{as:List SV}{vs:List Value}(h:PW R as vs)(n:Nat):PW R (as.take n) (vs.take n):=by
 refine⟨by simp[h.1],fun j a v ha hv=>?_⟩;rw[List.getElem?_take]at ha hv;split at ha
 ·rename_i eu;rw[if_pos eu]at hv;exact h.2 j a v ha hv
 ·cases ha
theorem PW.drop{R:SV->Value->Prop}{as:List SV}{vs:List Value}(h:PW R as vs)(n:Nat):PW R (as.drop n) (vs.drop n):=by
 refine⟨by simp[h.1],fun j a v ha hv=>?_⟩;rw[List.getElem?_drop]at ha hv;exact h.2 _ a v ha hv
theorem PW.append{R:SV->Value->Prop}{as bs:List SV}{vs us:List Value}(h:PW R as vs)(k:PW R bs us):PW R (as++bs) (vs++us):=by
 refine⟨by simp[h.1,k.1],fun j a v ha hv=>?_⟩;by_cases hj:j<as.length
 ·rw[List.getElem?_append_left hj]at ha;rw[List.getElem?_append_left (by rw[<-h.1];exact hj)]at hv;exact h.2 j a v ha hv
 ·rw[List.getElem?_append_right (by omega)]at ha;rw[List.getElem?_append_right (by rw[<-h.1];omega),<-h.1]at hv;exact k.2 _ a v ha hv
theorem PW.bo{R:SV->Value->Prop}{as bs:List SV}{vs us:List Value}(h:PW R as vs)(k:PW R bs us)(off:Nat):PW R (bo as off bs) (bo vs off us):=by
 unfold KA.bo;rw[k.1];exact((h.take off).append k).append (h.drop _)
theorem PW.DW{ok:Nat->Prop}{cs:List CV}{vs:List Value}(h:Den w ok cs vs []):PW (b9 ρ w ok) (cs.map .c) vs:=by
 refine⟨by simp[h.length],fun j a v ha hv=>?_⟩;rw[List.getElem?_map]at ha;cases hc:cs[j]? with
 |none=>simp[hc]at ha
 |some c=>
  simp[hc]at ha;subst ha;exact .c (h.get hc hv)
theorem PW.one{ok:Nat->Prop}{as:List SV}{vs:List Value}(h:PW (b9 ρ w ok) as vs):∀v∈vs,v.oneCell'=true:=by
 intro v hv;obtain⟨j,hj,rfl⟩:=List.getElem_of_mem hv;exact(h.2 j (as[j]'(by rw[h.1];exact hj)) _ (by simp) (by simp)).one
theorem y2{ok:Nat->Prop}{as bs:List CV}{vs us:List Value}(h:Den w ok as vs [])(k:Den w ok bs us [])(off:Nat):Den w ok (bo as off bs) (bo vs off us) []:=by
 unfold KA.bo;rw[k.length];simpa using((kH h off).append k).append (gI h _)
theorem il{α:Type}{l x:List α}{off:Nat}(h:off+x.length≤l.length):(bo l off x).length=l.length:=by
 unfold bo;simp;omega
theorem pR{α:Type}{l x:List α}(h:x.length=l.length):bo l 0 x=x:=by
 unfold bo;simp[h]
theorem nD{ok:Nat->Prop}{x:SV}{v:Value}(h:bJ ρ w ok x v):
 (∀n cs,x= .a n cs->cs.length=n/\Den w ok cs v.cells.toList [])/\
 (∀c,x= .c c->Den w ok [c] v.cells.toList [])/\
 (∀cs,x= .m cs->PW (b9 ρ w ok) cs v.cells.toList)/\
 (qy x=true->PW (b9 ρ w ok) [x] v.cells.toList):=by
 refine⟨fun n cs e=>?_,fun c e=>?_,fun cs e=>?_,fun e=>?_⟩
 ·subst e;cases h with
  |v h=>cases h with
   |c h=>cases h
   |a hl h=>exact⟨hl,by simpa[Value.cells]using h⟩
 ·subst e;have hd:=b9.jM h;rw[mU (hd.one v (by simp))];exact hd
 ·subst e;cases h with
  |v h=>cases h with
   |c h=>cases h
   |m hl h=>exact⟨by simpa[Value.cells]using hl,by simpa[Value.cells]using h⟩
 ·have hc:b9 ρ w ok x v:=by
   cases h with
   |any=>cases e
   |tup _ _=>cases e
   |v h=>cases h with
    |c h=>exact h
    |a _ _=>cases e
    |m _ _=>cases e
    |clo _ _=>cases e
  rw[mU hc.one];refine⟨rfl,fun j a u ha hu=>?_⟩;cases j with
  |zero=>simp at ha hu;subst ha hu;exact hc
  |succ j=>simp at ha
theorem uF{ok:Nat->Prop}{w':World}{cs:List CV}{vs:List Value}(h:Den w ok cs vs [])(hs:∀c,ok c->w'.heap[c]? =w.heap[c]?):Den w' ok cs vs []:=
 h.mono hs (fun _ h=>h) (by simp)
theorem sk{ok:Nat->Prop}{w':World}{cs:List SV}{vs:List Value}(h:PW (b9 ρ w ok) cs vs)(hs:∀c,ok c->w'.heap[c]? =w.heap[c]?):PW (b9 ρ w' ok) cs vs:=
 ⟨h.1,fun j a v ha hv=>(h.2 j a v ha hv).mono hs (fun _ h=>h) (Ext.refl _)⟩
end
end Go.KA
