/- Part of a proof engine for functions of the given program: what an operation, a loop and a call compute, symbolically. No conditions. -/
import Derived.Test.YtgbggaddpbghfaaGreatEngJ
namespace Go.KA
open Go Go.RowKit
inductive kL(w:World)(ok:Nat->Prop):SV->Value->List Nat->Prop
 |v {s v} (h:∀ρ,eK ρ w ok s v):kL w ok s v []
 |o {x v f} (h:Den w ok [x] [v] f):kL w ok (.c x) v f
 |a {n cs vs f} (hl:cs.length=n) (h:Den w ok cs vs f):kL w ok (.a n cs) (.agg vs.toArray) f
inductive OL(w:World)(ok:Nat->Prop):List SV->List Value->List Nat->Prop
 |nil:OL w ok [] [] []
 |cons {s v f ss vs g} (h:kL w ok s v f) (ht:OL w ok ss vs g):OL w ok (s::ss) (v::vs) (f++g)
inductive OT(w:World)(ok:Nat->Prop):SV->Value->List Nat->Prop
 |any {v}:OT w ok .any v []
 |v {s v f} (h:kL w ok s v f):OT w ok s v f
 |tup {ss vs f} (h:OL w ok ss vs f):OT w ok (.tup ss) (.tuple vs.toArray) f
inductive sV(w:World)(ok:Nat->Prop):SV->Value->List Nat->Prop
 |v {s v} (h:∀ρ,eK ρ w ok s v):sV w ok s v []
 |o {x v f} (h:Den w ok [x] [v] f):sV w ok (.c x) v f
 |m {cs vs f} (h:Den w ok cs vs f):sV w ok (.m (cs.map .c)) (.agg vs.toArray) f
 |off {cs b o f} (h:Den w ok [.op cs] [.pointer (some ⟨b,0,none⟩)] f):sV w ok (.tup [.c (.op cs), .lp 0 o]) (.pointer (some ⟨b,o,none⟩)) f
inductive AL(w:World)(ok:Nat->Prop):List SV->List Value->List Nat->Prop
 |nil:AL w ok [] [] []
 |cons {s v f ss vs g} (h:sV w ok s v f) (ht:AL w ok ss vs g):AL w ok (s::ss) (v::vs) (f++g)
def m6:Value->Value
 | .pointer (some ⟨b,_,none⟩)=> .pointer (some ⟨b,0,none⟩)
 |v=>v
def Dj(w0 w:World)(v:Value)(cs:List CV):Prop:=
 ∀cells,cs=[.op cells]-> ∀(b ty mq:Nat) (arr iy:Array Value),v= .pointer (some ⟨b,0,none⟩)->w0.heap[b]? =some (.cells arr ty (0,0))->w.heap[b]? =some (.cells iy mq (0,0))->
  ∀(i:Nat) x,cells[i]? =some (.op x)->iy.toList[i]? =arr.toList[i]?
inductive mL(w0 w:World)(ok:Nat->Prop):List (Option (List CV))->List Value->List Nat->Prop
 |nil {vs}:mL w0 w ok [] vs []
 |none {os v vs f} (ht:mL w0 w ok os vs f):mL w0 w ok (none::os) (v::vs) f
 |some {cs os v vs f g} (h:Den w ok cs (m6 v).cells.toList g) (hk:Dj w0 w (m6 v) cs) (ht:mL w0 w ok os vs f):mL w0 w ok (some cs::os) (v::vs) (g++f)
section
variable{w w':World}{ok ok':Nat->Prop}
theorem kL.mono{s:SV}{v:Value}{f:List Nat}(h:kL w ok s v f)(hs:∀b,ok b->w'.heap[b]? =w.heap[b]?)(cH:∀b,ok b->ok' b)(hf:∀b∈f,w'.heap[b]? =w.heap[b]?):kL w' ok' s v f:=by
 cases h with
 |v h=>exact .v fun ρ=>(h ρ).mono hs cH (Ext.refl _)
 |o h=>exact .o (h.mono hs cH hf)
 |a hl h=>exact .a hl (h.mono hs cH hf)
theorem OL.mono{ss:List SV}{vs:List Value}{f:List Nat}(h:OL w ok ss vs f)(hs:∀b,ok b->w'.heap[b]? =w.heap[b]?)(cH:∀b,ok b->ok' b)(hf:∀b∈f,w'.heap[b]? =w.heap[b]?):OL w' ok' ss vs f:=by
 induction h with
 |nil=>exact .nil
 |cons h _ ih=>exact .cons (h.mono hs cH fun b hb=>hf b (by simp[hb])) (ih fun b hb=>hf b (by simp[hb]))
theorem AL.length{ss:List SV}{vs:List Value}{f:List Nat}(h:AL w ok ss vs f):ss.length=vs.length:=by
 induction h<;>simp_all
theorem OL.length{ss:List SV}{vs:List Value}{f:List Nat}(h:OL w ok ss vs f):ss.length=vs.length:=by
 induction h<;>simp_all
structure Grown(fs:List Nat)(w w':World):Prop where
 os:w'.os=w.os
 tape:w'.tape=w.tape
 output:w'.output=w.output
 size:w.heap.size≤w'.heap.size
 block:∀b,b<w.heap.size->b∉fs->w'.heap[b]? =w.heap[b]?
end
def MK(P:Program)(f:Nat):Prop:=∃fn,P.funcs[f]? =some fn/\(fn.name== "runtime.NumGoroutine")=false/\fn.body.isNone=false
def zc(ok:Nat->Prop)(fs fp:List Nat)(w w':World)(b:Nat):Prop:=b<w'.heap.size/\(ok b\/b∈fs\/w.heap.size≤b)/\b∉fp
def aE(P:Program)(f:Nat)(args:List SV)(outs:List (Option (List CV)))(r:SV):Prop:=
 MK P f/\ ∀(w:World) (ok:Nat->Prop) (vs:List Value) (fs:List Nat),(∀b,ok b->b<w.heap.size)->AL w ok args vs fs->fs.Nodup->(∀b∈fs,b<w.heap.size/\ ¬ok b)->
    Calls P f vs.toArray w fun e w'=>∃v fr fo,e= .returned v/\Grown fs w w'/\(fr++fo).Nodup/\(∀b∈fr++fo,(b∈fs\/w.heap.size≤b)/\b<w'.heap.size)/\
     OT w' (zc ok fs (fr++fo) w w') r v fr/\mL w w' (zc ok fs (fr++fo) w w') outs vs fo
def gW(P:Program)(f:Nat)(args:List SV){α:Type}(φ:α->Prop)(outs:α->List (Option (List CV)))(r:α->SV):Prop:=
 MK P f/\ ∀(w:World) (ok:Nat->Prop) (vs:List Value) (fs:List Nat),(∀b,ok b->b<w.heap.size)->AL w ok args vs fs->fs.Nodup->(∀b∈fs,b<w.heap.size/\ ¬ok b)->
    Calls P f vs.toArray w fun e w'=>∃x,φ x/\ ∃v fr fo,e= .returned v/\Grown fs w w'/\(fr++fo).Nodup/\(∀b∈fr++fo,(b∈fs\/w.heap.size≤b)/\b<w'.heap.size)/\
     OT w' (zc ok fs (fr++fo) w w') (r x) v fr/\mL w w' (zc ok fs (fr++fo) w w') (outs x) vs fo
theorem aE.toE{P:Program}{f:Nat}{args:List SV}{α:Type}{φ:α->Prop}{outs:α->List (Option (List CV))}{r:α->SV}(x:α)(hx:φ x)(h:aE P f args (outs x) (r x)):gW P f args φ outs r:=
 ⟨h.1,fun w ok vs fs h1 h2 h3 h4=>(h.2 w ok vs fs h1 h2 h3 h4).mono fun _ _ hp=>⟨x,hx,hp⟩⟩
theorem gW.imp{P:Program}{f:Nat}{args:List SV}{α β:Type}{φ:α->Prop}{outs:α->List (Option (List CV))}{r:α->SV}{ψ:β->Prop}{Gk:β->List (Option (List CV))}{r':β->SV}(h:gW P f args φ outs r)
 (g:∀x,φ x-> ∃y,ψ y/\Gk y=outs x/\r' y=r x):gW P f args ψ Gk r':=
 ⟨h.1,fun w ok vs fs h1 h2 h3 h4=>(h.2 w ok vs fs h1 h2 h3 h4).mono fun _ _ ⟨x,hx,hp⟩=>by
   obtain⟨y,hy,e1,e2⟩:=g x hx;exact⟨y,hy,by rw[e1,e2];exact hp⟩⟩
theorem gW.toX{P:Program}{f:Nat}{args:List SV}{α:Type}{φ:α->Prop}{outs:List (Option (List CV))}{r:SV}(h:gW P f args φ (fun _=>outs) (fun _=>r)):aE P f args outs r:=
 ⟨h.1,fun w ok vs fs h1 h2 h3 h4=>(h.2 w ok vs fs h1 h2 h3 h4).mono fun _ _ ⟨_,_,hp⟩=>hp⟩
abbrev aS(P:Program)(f:Nat)(args:List SV)(r:SV):Prop:=aE P f args [] r
def nq:List CV->Nat->Option (List SV × List (Nat × dW)× Nat)
 |[],n=>some ([],[],n)
 | .own ty sz rows::cs,n=>match nq cs (n+1)with|some (ss,bs,m)=>some (.lw n::ss,(n, .aU none ty sz rows)::bs,m)|none=>none
 | .ows ty sz rows::cs,n=>match nq cs (n+1)with|some (ss,bs,m)=>some (.lw n::ss,(n, .row none ty sz rows)::bs,m)|none=>none
 | .fQ v ty sz rows::cs,n=>match nq cs (n+1)with|some (ss,bs,m)=>some (.lw n::ss,(n, .aU (some v) ty sz rows)::bs,m)|none=>none
 | .op _::_,_=>none
 | .jB _ _ _::_,_=>none
 |c::cs,n=>match nq cs n with|some (ss,bs,m)=>some (.c c::ss,bs,m)|none=>none
def fg:List CV->Nat->Option (List SV × List (Nat × dW)× Nat)
 |[],n=>some ([],[],n)
 | .own ty sz rows::cs,n=>match fg cs (n+1)with|some (ss,bs,m)=>some (.lw n::ss,(n, .aU none ty sz rows)::bs,m)|none=>none
 | .ows ty sz rows::cs,n=>match fg cs (n+1)with|some (ss,bs,m)=>some (.lw n::ss,(n, .row none ty sz rows)::bs,m)|none=>none
 | .fQ v ty sz rows::cs,n=>match fg cs (n+1)with|some (ss,bs,m)=>some (.lw n::ss,(n, .aU (some v) ty sz rows)::bs,m)|none=>none
 | .op is::cs,n=>match nq is (n+1)with
   |some (ks,Xb,m0)=>match fg cs m0 with|some (ss,bs,m)=>some (.lp n 0::ss,(n,gj ks)::(Xb++bs),m)|none=>none
   |none=>none
 | .jB _ _ _::_,_=>none
 |c::cs,n=>match fg cs n with|some (ss,bs,m)=>some (.c c::ss,bs,m)|none=>none
def fw(s:SV)(n:Nat):Option (SV × List (Nat × dW)× Nat):=
 match s with
 | .c (.op cells)=>match fg cells n with|some (ss,bs,m)=>some (.lp m 0,bs++[(m,gj ss)],m+1)|none=>none
 | .c (.jB t e s)=>some (.lp n 0,[(n, .jB t e s)],n+1)
 | .c x=>match fg [x] n with|some ([s],bs,m)=>some (s,bs,m)|_=>none
 | .a k cs=>match fg cs n with
   |some (_,[],m)=>some (.a k cs,[],m)
   |some (ss,bs,m)=>some (.m ss,bs,m)
   |none=>none
 | .clo k ij=>some (.clo k ij,[],n)
 | .any=>some (.any,[],n)
 |_=>none
def uJ:List SV->Nat->Option (List SV × List (Nat × dW)× Nat)
 |[],n=>some ([],[],n)
 |s::ss,n=>match fw s n with
  |some (s',bs,m)=>match uJ ss m with
   |some (gx,Bh,m')=>some (s'::gx,bs++Bh,m')
   |none=>none
  |none=>none
def oU(s:SV)(n:Nat):Option (SV × List (Nat × dW)× Nat):=
 match s with
 | .a k cs=>some (.a k cs,[],n)
 | .m ss=>match vB ss with
   |some cs=>match fg cs n with|some (gx,bs,m)=>some (.m gx,bs,m)|none=>none
   |none=>none
 | .tup [.c (.op cells), .lp 0 o]=>match fg cells n with|some (ss,bs,m)=>some (.lp m o,bs++[(m,gj ss)],m+1)|none=>none
 |s=>fw s n
def gD:List SV->Nat->Option (List SV × List (Nat × dW)× Nat)
 |[],n=>some ([],[],n)
 |s::ss,n=>match oU s n with
  |some (s',bs,m)=>match gD ss m with
   |some (gx,Bh,m')=>some (s'::gx,bs++Bh,m')
   |none=>none
  |none=>none
def zD(s:SV)(n:Nat):Option (SV × List (Nat × dW)× Nat):=
 match s with
 | .tup ss=>match uJ ss n with|some (gx,bs,m)=>some (.tup gx,bs,m)|none=>none
 |s=>fw s n
section
variable{w:World}{ok:Nat->Prop}
theorem pW:∀{cs:List CV} {vs:List Value} {f:List Nat} {n:Nat} {ss:List SV} {bs:List (Nat × dW)} {m:Nat},nq cs n=some (ss,bs,m)->Den w ok cs vs f->
 ∃L,gp L=bs/\m=n+L.length/\iM w ok n L f/\ ∀ρ:RM,(∀e∈L,ρ e.nm=e.v)->PW (b9 ρ w ok) ss vs
 |[],vs,f,n,ss,bs,m,h,hd=>by
  simp only[nq,Option.some.injEq,Prod.mk.injEq]at h;obtain⟨rfl,rfl,rfl⟩:=h;cases hd;exact⟨[],rfl,rfl, .nil,fun ρ _=>⟨rfl,by simp⟩⟩
 |c::cs,vs,f,n,ss,bs,m,h,hd=>by
  have plain:∀{x:Value} {vs:List Value} {f:List Nat},Den w ok [c] [x] []->Den w ok cs vs f->(match nq cs n with|some (ss,bs,m)=>some (SV.c c::ss,bs,m)|none=>none)=some (ss,bs,m)->
        ∃L,gp L=bs/\m=n+L.length/\iM w ok n L f/\ ∀ρ:RM,(∀e∈L,ρ e.nm=e.v)->PW (b9 ρ w ok) ss (x::vs):=by
   intro x vs f h1 ht h;split at h
   ·rename_i gx Bh m' ir;simp only[Option.some.injEq,Prod.mk.injEq]at h;obtain⟨rfl,rfl,rfl⟩:=h;obtain⟨L,g1,g2,g3,g4⟩:=pW ir ht;refine⟨L,g1,g2,g3,fun ρ hρ=>⟨by simp[(g4 ρ hρ).1],fun j a v ha hv=>?_⟩⟩;cases j with
    |zero=>simp at ha hv;subst ha hv;exact .c h1
    |succ j=>exact(g4 ρ hρ).2 j a v (by simpa using ha) (by simpa using hv)
   ·cases h
  have owned:∀{x:Value} {vs:List Value} {g f:List Nat} {b:dW},(∃a n c,x= .slice a n c)->(∀ρ:RM,dH ρ w ok b (some x) g)->Den w ok cs vs f->
        (match nq cs (n+1)with|some (ss,bs,m)=>some (SV.lw n::ss,(n,b)::bs,m)|none=>none)=some (ss,bs,m)->
        ∃L,gp L=bs/\m=n+L.length/\iM w ok n L (g++f)/\ ∀ρ:RM,(∀e∈L,ρ e.nm=e.v)->PW (b9 ρ w ok) ss (x::vs):=by
   intro x vs g f b hx hb ht h;split at h
   ·rename_i gx Bh m' ir;simp only[Option.some.injEq,Prod.mk.injEq]at h;obtain⟨rfl,rfl,rfl⟩:=h;obtain⟨L,g1,g2,g3,g4⟩:=pW ir ht;refine⟨⟨n,b,g,some x⟩::L,by simp[gp]at g1⊢;exact g1,by simp;omega,?_,fun ρ hρ=>?_⟩
    ·have:=(iM.one (n:=n) hb).append (L':=L) (f':=f) (by simpa using g3);simpa using this
    ·obtain⟨k1,k2⟩:=g4 ρ fun e he=>hρ e (by simp[he])
     refine⟨by simp[k1],fun j a v ha hv=>?_⟩;cases j with
     |zero=>
      simp at ha hv;subst ha hv;obtain⟨a,k,c,rfl⟩:=hx;exact .lw (hρ ⟨n,b,g,some (.slice a k c)⟩ (by simp))
     |succ j=>exact k2 j a v (by simpa using ha) (by simpa using hv)
   ·cases h
  cases hd with
  |any h1 ht=>exact plain (.any h1 .nil) ht h
  |val h1 ht=>exact plain (.val h1 .nil) ht h
  |cb ht=>exact plain (.cb .nil) ht h
  |ro hn hc hm hr bw jH ht=>exact plain (.ro hn hc hm hr bw jH .nil) ht h
  |rp hl bw hs jH ht=>exact plain (.rp hl bw hs jH .nil) ht h
  |op hb bw ht=>simp[nq]at h
  |jB hp hb ho ht=>simp[nq]at h
  | @own as vs f ty sz rows xs v g bw hr ho ht=>
    have:=owned (x:=v) (g:=v.ownBlock.toList++g) (b:= .aU none ty sz rows) (by rcases dJ ho with⟨e,_⟩|⟨b,c,e,_⟩<;>exact⟨_,_,_,e⟩) (fun ρ=> .aU ho hr bw (by simp)) ht h;simpa using this
  | @fQ as vs f ty sz rows xs v g bw hr ho ht=>
    have:=owned (x:=v) (g:=v.ownBlock.toList++g) (b:= .aU (some v) ty sz rows) (by rcases dJ ho with⟨e,_⟩|⟨b,c,e,_⟩<;>exact⟨_,_,_,e⟩) (fun ρ=> .aU ho hr bw (by simp)) ht h;simpa using this
  | @ows as vs f ty sz rows xs v bw hr ho ht=>
    exact owned (x:=v) (g:=v.ownBlock.toList) (b:= .row none ty sz rows) (by rcases dJ ho with⟨e,_⟩|⟨b,c,e,_⟩<;>exact⟨_,_,_,e⟩) (fun ρ=> .row ho hr bw (by simp)) ht h
theorem Ml{n:Nat}{L:List rH}{f:List Nat}{ss:List SV}{b ty:Nat}{arr:Array Value}(hT:iM w ok (n+1) L f)(hb:w.heap[b]? =some (.cells arr ty (0,0)))(hC:∀ρ:RM,(∀e∈L,ρ e.nm=e.v)->PW (b9 ρ w ok) ss arr.toList):
 iM w ok n (⟨n,gj ss,[b],some (.pointer (some ⟨b,0,none⟩))⟩::L) (b::f):=by
 refine⟨?_,by simp[hT.flat],fun e he=>?_⟩
 ·rw[List.map_cons,hT.names,List.length_cons,List.range'_succ]
 ·rcases List.mem_cons.1 he with he|he
  ·subst he;refine⟨_,rfl,fun ρ hρ=>?_⟩;obtain⟨k1,k2⟩:=hC ρ fun e he=>hρ e (by simp[he])
   exact eX hb k1 k2
  ·obtain⟨u,h1,h2⟩:=hT.den e he;exact⟨u,h1,fun ρ hρ=>h2 ρ fun e' qt=>hρ e' (by simp[qt])⟩
theorem Pe{n:Nat}{L:List rH}{f:List Nat}{ss:List SV}{b ty:Nat}{arr:Array Value}(hT:iM w ok n L f)(hb:w.heap[b]? =some (.cells arr ty (0,0)))(hC:∀ρ:RM,(∀e∈L,ρ e.nm=e.v)->PW (b9 ρ w ok) ss arr.toList):
 iM w ok n (L++[⟨n+L.length,gj ss,[b],some (.pointer (some ⟨b,0,none⟩))⟩]) (f++[b]):=by
 refine⟨?_,by rw[au,List.flatten_append,hT.flat];simp,fun e he=>?_⟩
 ·rw[au,hT.names,ai,<-List.range'_append_1];rfl
 ·rcases ao.1 he with he|he
  ·obtain⟨u,h1,h2⟩:=hT.den e he;exact⟨u,h1,fun ρ hρ=>h2 ρ fun e' qt=>hρ e' (by simp[qt])⟩
  ·have he:=List.mem_singleton.1 he;subst he;refine⟨_,rfl,fun ρ hρ=>?_⟩;obtain⟨k1,k2⟩:=hC ρ fun e he=>hρ e (by simp[he])
   exact eX hb k1 k2
theorem dL:∀{cs:List CV} {vs:List Value} {f:List Nat} {n:Nat} {ss:List SV} {bs:List (Nat × dW)} {m:Nat},fg cs n=some (ss,bs,m)->Den w ok cs vs f->
 ∃L,gp L=bs/\m=n+L.length/\iM w ok n L f/\ ∀ρ:RM,(∀e∈L,ρ e.nm=e.v)->PW (b9 ρ w ok) ss vs
 |[],vs,f,n,ss,bs,m,h,hd=>by
  simp only[fg,Option.some.injEq,Prod.mk.injEq]at h;obtain⟨rfl,rfl,rfl⟩:=h;cases hd;exact⟨[],rfl,rfl, .nil,fun ρ _=>⟨rfl,by simp⟩⟩
 |c::cs,vs,f,n,ss,bs,m,h,hd=>by
  have plain:∀{x:Value} {vs:List Value} {f:List Nat},Den w ok [c] [x] []->Den w ok cs vs f->(match fg cs n with|some (ss,bs,m)=>some (SV.c c::ss,bs,m)|none=>none)=some (ss,bs,m)->
        ∃L,gp L=bs/\m=n+L.length/\iM w ok n L f/\ ∀ρ:RM,(∀e∈L,ρ e.nm=e.v)->PW (b9 ρ w ok) ss (x::vs):=by
   intro x vs f h1 ht h;split at h
   ·rename_i gx Bh m' ir;simp only[Option.some.injEq,Prod.mk.injEq]at h;obtain⟨rfl,rfl,rfl⟩:=h;obtain⟨L,g1,g2,g3,g4⟩:=dL ir ht;refine⟨L,g1,g2,g3,fun ρ hρ=>⟨by simp[(g4 ρ hρ).1],fun j a v ha hv=>?_⟩⟩;cases j with
    |zero=>simp at ha hv;subst ha hv;exact .c h1
    |succ j=>exact(g4 ρ hρ).2 j a v (by simpa using ha) (by simpa using hv)
   ·cases h
  have owned:∀{x:Value} {vs:List Value} {g f:List Nat} {b:dW},(∃a n c,x= .slice a n c)->(∀ρ:RM,dH ρ w ok b (some x) g)->Den w ok cs vs f->
        (match fg cs (n+1)with|some (ss,bs,m)=>some (SV.lw n::ss,(n,b)::bs,m)|none=>none)=some (ss,bs,m)->
        ∃L,gp L=bs/\m=n+L.length/\iM w ok n L (g++f)/\ ∀ρ:RM,(∀e∈L,ρ e.nm=e.v)->PW (b9 ρ w ok) ss (x::vs):=by
   intro x vs g f b hx hb ht h;split at h
   ·rename_i gx Bh m' ir;simp only[Option.some.injEq,Prod.mk.injEq]at h;obtain⟨rfl,rfl,rfl⟩:=h;obtain⟨L,g1,g2,g3,g4⟩:=dL ir ht;refine⟨⟨n,b,g,some x⟩::L,by simp[gp]at g1⊢;exact g1,by simp;omega,?_,fun ρ hρ=>?_⟩
    ·have:=(iM.one (n:=n) hb).append (L':=L) (f':=f) (by simpa using g3);simpa using this
    ·obtain⟨k1,k2⟩:=g4 ρ fun e he=>hρ e (by simp[he])
     refine⟨by simp[k1],fun j a v ha hv=>?_⟩;cases j with
     |zero=>
      simp at ha hv;subst ha hv;obtain⟨a,k,c,rfl⟩:=hx;exact .lw (hρ ⟨n,b,g,some (.slice a k c)⟩ (by simp))
     |succ j=>exact k2 j a v (by simpa using ha) (by simpa using hv)
   ·cases h
  cases hd with
  |any h1 ht=>exact plain (.any h1 .nil) ht h
  |val h1 ht=>exact plain (.val h1 .nil) ht h
  |cb ht=>exact plain (.cb .nil) ht h
  |ro hn hc hm hr bw jH ht=>exact plain (.ro hn hc hm hr bw jH .nil) ht h
  |rp hl bw hs jH ht=>exact plain (.rp hl bw hs jH .nil) ht h
  | @op as vs f ty is b g arr hb bw ht=>
    simp only[fg]at h;split at h
    case h_2=>cases h
    rename_i ks Xb m0 Lp;split at h
    case h_2=>cases h
    rename_i gx Bh m' ir;simp only[Option.some.injEq,Prod.mk.injEq]at h;obtain⟨rfl,rfl,rfl⟩:=h;obtain⟨L0,g1,g2,g3,g4⟩:=pW Lp bw;subst g2;have hT:=Ml g3 hb g4;obtain⟨L,k1,k2,k3,k4⟩:=dL ir ht;refine⟨(⟨n,gj ks,[b],some (.pointer (some ⟨b,0,none⟩))⟩::L0)++L,by simp[gp]at g1 k1⊢;rw[g1,k1],by simp;omega,?_,fun ρ hρ=>?_⟩
    ·have:=hT.append (L':=L) (f':=f) (by simpa[Nat.add_assoc,Nat.add_comm 1]using k3);simpa using this
    ·obtain⟨q1,q2⟩:=k4 ρ fun e he=>hρ e (by simp[he])
     refine⟨by simp[q1],fun j a v ha hv=>?_⟩;cases j with
     |zero=>
      simp at ha hv;subst ha hv;exact .lp (hρ ⟨n,gj ks,[b],some (.pointer (some ⟨b,0,none⟩))⟩ (by simp))
     |succ j=>exact q2 j a v (by simpa using ha) (by simpa using hv)
  |jB hp hb ho ht=>simp[fg]at h
  | @own as vs f ty sz rows xs v g bw hr ho ht=>
    have:=owned (x:=v) (g:=v.ownBlock.toList++g) (b:= .aU none ty sz rows) (by rcases dJ ho with⟨e,_⟩|⟨b,c,e,_⟩<;>exact⟨_,_,_,e⟩) (fun ρ=> .aU ho hr bw (by simp)) ht h;simpa using this
  | @fQ as vs f ty sz rows xs v g bw hr ho ht=>
    have:=owned (x:=v) (g:=v.ownBlock.toList++g) (b:= .aU (some v) ty sz rows) (by rcases dJ ho with⟨e,_⟩|⟨b,c,e,_⟩<;>exact⟨_,_,_,e⟩) (fun ρ=> .aU ho hr bw (by simp)) ht h;simpa using this
  | @ows as vs f ty sz rows xs v bw hr ho ht=>
    exact owned (x:=v) (g:=v.ownBlock.toList) (b:= .row none ty sz rows) (by rcases dJ ho with⟨e,_⟩|⟨b,c,e,_⟩<;>exact⟨_,_,_,e⟩) (fun ρ=> .row ho hr bw (by simp)) ht h
theorem mI{s s':SV}{v:Value}{f:List Nat}{n m:Nat}{bs:List (Nat × dW)}(h:fw s n=some (s',bs,m))(hd:kL w ok s v f):
 ∃L g,gp L=bs/\m=n+L.length/\iM w ok n L g/\g.Perm f/\ ∀ρ:RM,(∀e∈L,ρ e.nm=e.v)->bJ ρ w ok s' v:=by
 have one:∀{x:CV} {f:List Nat},Den w ok [x] [v] f->(∀cells,x≠ .op cells)->(∀t e s,x≠ .jB t e s)->fw (.c x) n=some (s',bs,m)-> ∃L g,gp L=bs/\m=n+L.length/\iM w ok n L g/\g.Perm f/\ ∀ρ:RM,(∀e∈L,ρ e.nm=e.v)->bJ ρ w ok s' v:=by
  intro x f hd hx TY h;have h':(match fg [x] n with|some ([s],bs,m)=>some (s,bs,m)|_=>none)=some (s',bs,m):=by
   cases x<;>first|exact h|exact absurd rfl (hx _)|exact absurd rfl (TY _ _ _)
  split at h'
  ·rename_i s0 Xb m0 ir;simp only[Option.some.injEq,Prod.mk.injEq]at h';obtain⟨rfl,rfl,rfl⟩:=h';obtain⟨L,g1,g2,g3,g4⟩:=dL ir hd;exact⟨L,f,g1,g2,g3, .refl _,fun ρ hρ=> .v (.c ((g4 ρ hρ).2 0 s0 v rfl rfl))⟩
  ·cases h'
 cases hd with
 |v hv=>
  have wj:=hv (fun _=>none);cases wj with
  |c hc=>
   cases hc with
   |c hd=>
    rename_i x;by_cases hx:∃cells,x= .op cells
    ·obtain⟨cells,rfl⟩:=hx;cases hd
    ·exact one hd (fun cells e=>hx ⟨cells,e⟩) (by rintro t e s rfl;cases hd) h
   |lp h'=>cases h'
   |le h'=>cases h'
   |lw h'=>cases h'
   |ls h'=>cases h'
   |mp h'=>cases h'
  |a hl hd=>
   rename_i k cs vs;simp only[fw]at h;split at h
   ·rename_i UK m0 ir;simp only[Option.some.injEq,Prod.mk.injEq]at h;obtain⟨rfl,rfl,rfl⟩:=h;obtain⟨L,g1,g2,g3,g4⟩:=dL ir hd;exact⟨L,[],g1,g2,g3, .refl _,fun ρ hρ=> .v (.a hl hd)⟩
   ·rename_i UK Xb m0 jr ir;simp only[Option.some.injEq,Prod.mk.injEq]at h;obtain⟨rfl,rfl,rfl⟩:=h;obtain⟨L,g1,g2,g3,g4⟩:=dL ir hd;exact⟨L,[],g1,g2,g3, .refl _,fun ρ hρ=> .v (.m (g4 ρ hρ).1 (g4 ρ hρ).2)⟩
   ·cases h
  |m hl hd=>simp[fw]at h
  |clo hl hd=>
   simp only[fw,Option.some.injEq,Prod.mk.injEq]at h;obtain⟨rfl,rfl,rfl⟩:=h;exact⟨[],[],rfl,rfl, .nil, .refl _,fun ρ _=> .v (hv ρ)⟩
 |o hd=>
  rename_i x;by_cases hx:∃cells,x= .op cells
  ·obtain⟨cells,rfl⟩:=hx;cases hd with
   | @op as vs f ty cells b g arr hb bw ht=>
     cases ht;simp only[fw]at h;split at h
     ·rename_i ss Xb m0 ir;simp only[Option.some.injEq,Prod.mk.injEq]at h;obtain⟨rfl,rfl,rfl⟩:=h;obtain⟨L,g1,g2,g3,g4⟩:=dL ir bw;subst g2;refine⟨_,_,?_,by simp;omega,Pe g3 hb g4,?_,fun ρ hρ=>?_⟩
      ·simp only[gp,au,List.map_cons,List.map_nil]at g1⊢;rw[g1]
      ·rw[List.append_nil];exact List.perm_append_singleton b g
      ·exact .v (.c (.lp (hρ ⟨n+L.length,gj ss,[b],some (.pointer (some ⟨b,0,none⟩))⟩ (by simp))))
     ·cases h
  ·by_cases TY:∃t e s,x= .jB t e s
   ·obtain⟨t,e,s,rfl⟩:=TY;cases hd with
    | @jB as vs f ty e s b p u hp hb ho ht=>
      cases ht;simp only[fw,Option.some.injEq,Prod.mk.injEq]at h;obtain⟨rfl,rfl,rfl⟩:=h;refine⟨[⟨n, .jB t e s,b::u.ownBlock.toList,some (.pointer (some ⟨b,0,none⟩))⟩],_,rfl,rfl, .one fun ρ=> .jB hp hb ho,by rw[List.append_nil],fun ρ hρ=>?_⟩;exact .v (.c (.lp (hρ ⟨n, .jB t e s,b::u.ownBlock.toList,some (.pointer (some ⟨b,0,none⟩))⟩ (by simp))))
   ·exact one hd (fun cells e=>hx ⟨cells,e⟩) (fun t e s h=>TY ⟨t,e,s,h⟩) h
 |a hl hd=>
  rename_i k cs vs;simp only[fw]at h;split at h
  ·rename_i UK m0 ir;simp only[Option.some.injEq,Prod.mk.injEq]at h;obtain⟨rfl,rfl,rfl⟩:=h;obtain⟨L,g1,g2,g3,g4⟩:=dL ir hd;have hL:L=[]:=by simpa[gp]using g1
   subst hL;have hf:f=[]:=by have:=g3.flat;simpa using this.symm
   subst hf;exact⟨[],[],rfl,g2,g3, .refl _,fun ρ hρ=> .v (.a hl hd)⟩
  ·rename_i UK Xb m0 jr ir;simp only[Option.some.injEq,Prod.mk.injEq]at h;obtain⟨rfl,rfl,rfl⟩:=h;obtain⟨L,g1,g2,g3,g4⟩:=dL ir hd;exact⟨L,f,g1,g2,g3, .refl _,fun ρ hρ=> .v (.m (g4 ρ hρ).1 (g4 ρ hρ).2)⟩
  ·cases h
theorem vi{s s':SV}{n m:Nat}{bs:List (Nat × dW)}(h:fw s n=some (s',bs,m))(hs:s≠ .any):s'≠ .any/\ ∀vs,s'≠ .tup vs:=by
 have h1:∀{cs:List CV} {n:Nat} {ss:List SV} {bs:List (Nat × dW)} {m:Nat},fg cs n=some (ss,bs,m)-> ∀s∈ss,s≠ .any/\ ∀vs,s≠ .tup vs:=by
  intro cs
  induction cs with
  |nil=>intro n ss bs m h;simp[fg]at h;obtain⟨rfl,_⟩:=h;simp
  |cons c cs ih=>
   intro n ss bs m h s hs;cases c<;>simp only[fg]at h<;>first
        |cases h
        |(split at h
          case h_2=>cases h
          split at h
          case h_2=>cases h
          rename_i ir;simp only[Option.some.injEq,Prod.mk.injEq]at h;obtain⟨rfl,_⟩:=h;rcases List.mem_cons.1 hs with rfl|hs
          ·exact⟨by simp,by simp⟩
          ·exact ih ir s hs)
        |(split at h<;>first
                                |(cases h;done)
                                |(rename_i ir
                                  simp only[Option.some.injEq,Prod.mk.injEq]at h;obtain⟨rfl,_⟩:=h;rcases List.mem_cons.1 hs with rfl|hs
                                  ·exact⟨by simp,by simp⟩
                                  ·exact ih ir s hs))
 unfold fw at h;split at h
 ·split at h
  ·simp only[Option.some.injEq,Prod.mk.injEq]at h;obtain⟨rfl,_⟩:=h;simp
  ·cases h
 ·simp only[Option.some.injEq,Prod.mk.injEq]at h;obtain⟨rfl,_⟩:=h;simp
 ·split at h
  ·rename_i ir;simp only[Option.some.injEq,Prod.mk.injEq]at h;obtain⟨rfl,_⟩:=h;exact h1 ir _ (by simp)
  ·cases h
 ·split at h
  ·simp only[Option.some.injEq,Prod.mk.injEq]at h;obtain⟨rfl,_⟩:=h;simp
  ·simp only[Option.some.injEq,Prod.mk.injEq]at h;obtain⟨rfl,_⟩:=h;simp
  ·cases h
 ·simp only[Option.some.injEq,Prod.mk.injEq]at h;obtain⟨rfl,_⟩:=h;simp
 ·exact absurd rfl hs
 ·cases h
theorem kL.Et{v:Value}{f:List Nat}(h:kL w ok .any v f):False:=by
 cases h with
 |v h=>cases h (fun _=>none)with|c h=>cases h
theorem tq:∀{ss gx:List SV} {vs:List Value} {f:List Nat} {n m:Nat} {bs:List (Nat × dW)},uJ ss n=some (gx,bs,m)->OL w ok ss vs f->
 ∃L g,gp L=bs/\m=n+L.length/\iM w ok n L g/\g.Perm f/\ ∀ρ:RM,(∀e∈L,ρ e.nm=e.v)->gx.length=vs.length/\ ∀(j:Nat) s v,gx[j]? =some s->vs[j]? =some v->eK ρ w ok s v
 |[],gx,vs,f,n,m,bs,h,hd=>by
  simp only[uJ,Option.some.injEq,Prod.mk.injEq]at h;obtain⟨rfl,rfl,rfl⟩:=h;cases hd;exact⟨[],[],rfl,rfl, .nil, .refl _,fun ρ _=>⟨rfl,by simp⟩⟩
 |s::ss,gx,vs,f,n,m,bs,h,hd=>by
  cases hd with
  |cons h0 ht=>
   simp only[uJ]at h;split at h
   case h_2=>cases h
   rename_i s1 bs1 m1 yE;split at h
   case h_2=>cases h
   rename_i ss2 bs2 m2 Jg;simp only[Option.some.injEq,Prod.mk.injEq]at h;obtain⟨rfl,rfl,rfl⟩:=h;obtain⟨L1,g1,a1,a2,a3,a4,a5⟩:=mI yE h0;subst a2;obtain⟨L2,g2,b1,b2,b3,b4,b5⟩:=tq Jg ht;have jr:s≠ .any:=by rintro rfl;exact h0.Et
   obtain⟨c1,c2⟩:=vi yE jr;refine⟨L1++L2,g1++g2,by simp[gp]at a1 b1⊢;rw[a1,b1],by rw[b2,ai];omega,a3.append b3,a4.append b4,fun ρ hρ=>?_⟩;have e1:=a5 ρ fun e he=>hρ e (by simp[he])
   have e2:=b5 ρ fun e he=>hρ e (by simp[he])
   refine⟨by simp[e2.1],fun j s v hs hv=>?_⟩;cases j with
   |zero=>simp at hs hv;subst hs hv;exact e1.vc c1 c2
   |succ j=>exact e2.2 j s v (by simpa using hs) (by simpa using hv)
theorem Dz{s s':SV}{v:Value}{f:List Nat}{n m:Nat}{bs:List (Nat × dW)}(h:zD s n=some (s',bs,m))(hd:OT w ok s v f):
 ∃L g,gp L=bs/\m=n+L.length/\iM w ok n L g/\g.Perm f/\ ∀ρ:RM,(∀e∈L,ρ e.nm=e.v)->bJ ρ w ok s' v:=by
 cases hd with
 |any=>
  simp only[zD,fw,Option.some.injEq,Prod.mk.injEq]at h;obtain⟨rfl,rfl,rfl⟩:=h;exact⟨[],[],rfl,rfl, .nil, .refl _,fun ρ _=> .any⟩
 |v hd=>
  have:zD s n=fw s n:=by
    cases s<;>first|rfl|skip
    cases hd with
    |v h=>cases h (fun _=>none)with|c h=>cases h
  rw[this]at h;exact mI h hd
 |tup hd=>
  simp only[zD]at h;split at h
  ·rename_i gx Bh m' hr;simp only[Option.some.injEq,Prod.mk.injEq]at h;obtain⟨rfl,rfl,rfl⟩:=h;obtain⟨L,g,a1,a2,a3,a4,a5⟩:=tq hr hd;exact⟨L,g,a1,a2,a3,a4,fun ρ hρ=> .tup (a5 ρ hρ).1 (a5 ρ hρ).2⟩
  ·cases h
theorem Di{s s':SV}{v:Value}{f:List Nat}{n m:Nat}{bs:List (Nat × dW)}(h:oU s n=some (s',bs,m))(hd:sV w ok s v f):
 ∃L g,gp L=bs/\m=n+L.length/\iM w ok n L g/\g.Perm f/\ ∀ρ:RM,(∀e∈L,ρ e.nm=e.v)->eK ρ w ok s' v:=by
 have UL:fw s n=some (s',bs,m)->kL w ok s v f-> ∃L g,gp L=bs/\m=n+L.length/\iM w ok n L g/\g.Perm f/\ ∀ρ:RM,(∀e∈L,ρ e.nm=e.v)->eK ρ w ok s' v:=by
  intro h hd;have jr:s≠ .any:=by rintro rfl;exact hd.Et
  obtain⟨c1,c2⟩:=vi h jr;obtain⟨L,g,a1,a2,a3,a4,a5⟩:=mI h hd;exact⟨L,g,a1,a2,a3,a4,fun ρ hρ=>(a5 ρ hρ).vc c1 c2⟩
 have many:∀{ss:List SV} {cs:List CV} {vs:List Value} {f:List Nat},vB ss=some cs->Den w ok cs vs f->(match fg cs n with|some (gx,bs,m)=>some (SV.m gx,bs,m)|none=>none)=some (s',bs,m)->
  ∃L g,gp L=bs/\m=n+L.length/\iM w ok n L g/\g.Perm f/\ ∀ρ:RM,(∀e∈L,ρ e.nm=e.v)->eK ρ w ok s' (.agg vs.toArray):=by
  intro ss cs vs f _ hd h;split at h
  ·rename_i gx Bh m' ir;simp only[Option.some.injEq,Prod.mk.injEq]at h;obtain⟨rfl,rfl,rfl⟩:=h;obtain⟨L,g1,g2,g3,g4⟩:=dL ir hd;exact⟨L,f,g1,g2,g3, .refl _,fun ρ hρ=> .m (g4 ρ hρ).1 (g4 ρ hρ).2⟩
  ·cases h
 cases s with
 |a k cs=>
  simp only[oU,Option.some.injEq,Prod.mk.injEq]at h;obtain⟨rfl,rfl,rfl⟩:=h;cases hd with
  |v hv=>exact⟨[],[],rfl,rfl, .nil, .refl _,fun ρ _=>hv ρ⟩
 |m ss=>
  simp only[oU]at h;split at h
  case h_2=>cases h
  rename_i cs Ic;cases hd with
  |v hv=>
   cases hv (fun _=>none)with
   |c hc=>cases hc
   |m hl hc=>
    obtain⟨h1,_⟩:=lN Ic hl hc;exact many Ic h1 h
  |m hd=>
   have:∀cs:List CV,vB (cs.map SV.c)=some cs:=by
     intro cs
     induction cs with
     |nil=>rfl
     |cons c cs ih=>simp only[List.map_cons,vB,ih]
   rw[this]at Ic;injection Ic with Ic
   subst Ic;exact many (this _) hd h
 |c x=>
  refine UL h ?_;cases hd with
  |v hv=>exact .v hv
  |o hd=>exact .o hd
 |clo k ij=>
  refine UL h ?_;cases hd with
  |v hv=>exact .v hv
 |any=>cases hd with|v hv=>cases hv (fun _=>none)with|c hc=>cases hc
 |tup ss=>
  unfold oU at h;split at h
  case h_1 he=>cases he
  case h_2 he=>cases he
  case h_3 cells o he=>
   injection he with he
   subst he;have hx:∃b,v= .pointer (some ⟨b,o,none⟩)/\Den w ok [.op cells] [.pointer (some ⟨b,0,none⟩)] f:=by
      cases hd with
      |v hv=>cases hv (fun _=>none)with|c hc=>cases hc
      |off hd=>exact⟨_,rfl,hd⟩
   obtain⟨b,rfl,hd2⟩:=hx;split at h
   case h_2=>cases h
   rename_i gx Bh m' ir;simp only[Option.some.injEq,Prod.mk.injEq]at h;obtain⟨rfl,rfl,rfl⟩:=h;have h0:fw (.c (.op cells)) n=some (.lp m' 0,Bh++[(m',gj gx)],m'+1):=by simp only[fw,ir]
   obtain⟨L,g,a1,a2,a3,a4,a5⟩:=mI h0 (.o hd2);refine⟨L,g,a1,a2,a3,a4,fun ρ hρ=>?_⟩;obtain⟨b',e1,e2⟩:=uD (a5 ρ hρ);simp only[Value.pointer.injEq,Option.some.injEq,Addr.mk.injEq,and_true]at e2;subst e2;exact .c (.lp e1)
  case h_4=>simp[fw]at h
 |lp i o=>simp[oU,fw]at h
 |le i a b c=>simp[oU,fw]at h
 |lw i=>simp[oU,fw]at h
 |ls i a b c=>simp[oU,fw]at h
 |mp i=>simp[oU,fw]at h
theorem tx:∀{ss gx:List SV} {vs:List Value} {f:List Nat} {n m:Nat} {bs:List (Nat × dW)},gD ss n=some (gx,bs,m)->AL w ok ss vs f->
 ∃L g,gp L=bs/\m=n+L.length/\iM w ok n L g/\g.Perm f/\ ∀ρ:RM,(∀e∈L,ρ e.nm=e.v)->gx.length=vs.length/\ ∀(j:Nat) s v,gx[j]? =some s->vs[j]? =some v->eK ρ w ok s v
 |[],gx,vs,f,n,m,bs,h,hd=>by
  simp only[gD,Option.some.injEq,Prod.mk.injEq]at h;obtain⟨rfl,rfl,rfl⟩:=h;cases hd;exact⟨[],[],rfl,rfl, .nil, .refl _,fun ρ _=>⟨rfl,by simp⟩⟩
 |s::ss,gx,vs,f,n,m,bs,h,hd=>by
  cases hd with
  |cons h0 ht=>
   simp only[gD]at h;split at h
   case h_2=>cases h
   rename_i s1 bs1 m1 yE;split at h
   case h_2=>cases h
   rename_i ss2 bs2 m2 Jg;simp only[Option.some.injEq,Prod.mk.injEq]at h;obtain⟨rfl,rfl,rfl⟩:=h;obtain⟨L1,g1,a1,a2,a3,a4,a5⟩:=Di yE h0;subst a2;obtain⟨L2,g2,b1,b2,b3,b4,b5⟩:=tx Jg ht;refine⟨L1++L2,g1++g2,by simp[gp]at a1 b1⊢;rw[a1,b1],by rw[b2,ai];omega,a3.append b3,a4.append b4,fun ρ hρ=>?_⟩;have e1:=a5 ρ fun e he=>hρ e (by simp[he])
   have e2:=b5 ρ fun e he=>hρ e (by simp[he])
   refine⟨by simp[e2.1],fun j s v hs hv=>?_⟩;cases j with
   |zero=>simp at hs hv;subst hs hv;exact e1
   |succ j=>exact e2.2 j s v (by simpa using hs) (by simpa using hv)
end
end Go.KA
