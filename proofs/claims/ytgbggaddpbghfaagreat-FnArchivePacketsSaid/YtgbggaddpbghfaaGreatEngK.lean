/- Part of a proof engine for functions of the given program: what an operation, a loop and a call compute, symbolically. No conditions. -/
import Derived.Test.YtgbggaddpbghfaaGreatEngJ
namespace Go.KA
open Go Go.RowKit
inductive jn(w:World)(ok:Nat→Prop):SV→Value→List Nat→Prop
 |v {s v} (h:∀ρ,dZ ρ w ok s v):jn w ok s v []
 |o {x v f} (h:Den w ok [x] [v] f):jn w ok (.c x) v f
 |a {n cs vs f} (hl:cs.length=n) (h:Den w ok cs vs f):jn w ok (.a n cs) (.agg vs.toArray) f
inductive OL(w:World)(ok:Nat→Prop):List SV→List Value→List Nat→Prop
 |nil:OL w ok [] [] []
 |cons {s v f ss vs g} (h:jn w ok s v f) (ht:OL w ok ss vs g):OL w ok (s::ss) (v::vs) (f++g)
inductive OT(w:World)(ok:Nat→Prop):SV→Value→List Nat→Prop
 |any {v}:OT w ok .any v []
 |v {s v f} (h:jn w ok s v f):OT w ok s v f
 |tup {ss vs f} (h:OL w ok ss vs f):OT w ok (.tup ss) (.tuple vs.toArray) f
inductive qt(w:World)(ok:Nat→Prop):SV→Value→List Nat→Prop
 |v {s v} (h:∀ρ,dZ ρ w ok s v):qt w ok s v []
 |o {x v f} (h:Den w ok [x] [v] f):qt w ok (.c x) v f
 |m {cs vs f} (h:Den w ok cs vs f):qt w ok (.m (cs.map .c)) (.agg vs.toArray) f
 |off {cs b o f} (h:Den w ok [.op cs] [.pointer (some ⟨b,0,none⟩)] f):qt w ok (.tup [.c (.op cs), .lp 0 o]) (.pointer (some ⟨b,o,none⟩)) f
inductive AL(w:World)(ok:Nat→Prop):List SV→List Value→List Nat→Prop
 |nil:AL w ok [] [] []
 |cons {s v f ss vs g} (h:qt w ok s v f) (ht:AL w ok ss vs g):AL w ok (s::ss) (v::vs) (f++g)
def lI:Value→Value
 | .pointer (some ⟨b,_,none⟩)=> .pointer (some ⟨b,0,none⟩)
 |v=>v
def Ar(w0 w:World)(v:Value)(cs:List CV):Prop:=
 ∀cells,cs=[.op cells]→∀(b ty ty':Nat) (arr arr':Array Value),v= .pointer (some ⟨b,0,none⟩)→w0.heap[b]? =some (.cells arr ty (0,0))→w.heap[b]? =some (.cells arr' ty' (0,0))→
  ∀(i:Nat) x,cells[i]? =some (.op x)→arr'.toList[i]? =arr.toList[i]?
inductive kH(w0 w:World)(ok:Nat→Prop):List (Option (List CV))→List Value→List Nat→Prop
 |nil {vs}:kH w0 w ok [] vs []
 |none {os v vs f} (ht:kH w0 w ok os vs f):kH w0 w ok (none::os) (v::vs) f
 |some {cs os v vs f g} (h:Den w ok cs (lI v).cells.toList g) (hk:Ar w0 w (lI v) cs) (ht:kH w0 w ok os vs f):kH w0 w ok (some cs::os) (v::vs) (g++f)
section
variable{w w':World}{ok ok':Nat→Prop}
theorem jn.mono{s:SV}{v:Value}{f:List Nat}(h:jn w ok s v f)(hs:∀b,ok b→w'.heap[b]? =w.heap[b]?)(hok:∀b,ok b→ok' b)(hf:∀b∈f,w'.heap[b]? =w.heap[b]?):jn w' ok' s v f:=by
 cases h with
 |v h=>exact .v fun ρ=>(h ρ).mono hs hok (Ext.refl _)
 |o h=>exact .o (h.mono hs hok hf)
 |a hl h=>exact .a hl (h.mono hs hok hf)
theorem OL.mono{ss:List SV}{vs:List Value}{f:List Nat}(h:OL w ok ss vs f)(hs:∀b,ok b→w'.heap[b]? =w.heap[b]?)(hok:∀b,ok b→ok' b)(hf:∀b∈f,w'.heap[b]? =w.heap[b]?):OL w' ok' ss vs f:=by
 induction h with
 |nil=>exact .nil
 |cons h _ ih=>exact .cons (h.mono hs hok fun b hb=>hf b (by simp[hb])) (ih fun b hb=>hf b (by simp[hb]))
theorem AL.length{ss:List SV}{vs:List Value}{f:List Nat}(h:AL w ok ss vs f):ss.length=vs.length:=by
 induction h<;>simp_all
theorem OL.length{ss:List SV}{vs:List Value}{f:List Nat}(h:OL w ok ss vs f):ss.length=vs.length:=by
 induction h<;>simp_all
structure Grown(fs:List Nat)(w w':World):Prop where
 os:w'.os=w.os
 tape:w'.tape=w.tape
 output:w'.output=w.output
 size:w.heap.size≤w'.heap.size
 block:∀b,b<w.heap.size→b∉fs→w'.heap[b]? =w.heap[b]?
end
def HL(P:Program)(f:Nat):Prop:=∃fn,P.funcs[f]? =some fn∧(fn.name== "runtime.NumGoroutine")=false∧fn.body.isNone=false
def x8(ok:Nat→Prop)(fs fp:List Nat)(w w':World)(b:Nat):Prop:=b<w'.heap.size∧(ok b∨b∈fs∨w.heap.size≤b)∧b∉fp
def ah(P:Program)(f:Nat)(args:List SV)(outs:List (Option (List CV)))(r:SV):Prop:=
 HL P f∧∀(w:World) (ok:Nat→Prop) (vs:List Value) (fs:List Nat),(∀b,ok b→b<w.heap.size)→AL w ok args vs fs→fs.Nodup→(∀b∈fs,b<w.heap.size∧¬ok b)→
    Calls P f vs.toArray w fun e w'=>∃v fr fo,e= .returned v∧Grown fs w w'∧(fr++fo).Nodup∧(∀b∈fr++fo,(b∈fs∨w.heap.size≤b)∧b<w'.heap.size)∧
     OT w' (x8 ok fs (fr++fo) w w') r v fr∧kH w w' (x8 ok fs (fr++fo) w w') outs vs fo
def gJ(P:Program)(f:Nat)(args:List SV){α:Type}(φ:α→Prop)(outs:α→List (Option (List CV)))(r:α→SV):Prop:=
 HL P f∧∀(w:World) (ok:Nat→Prop) (vs:List Value) (fs:List Nat),(∀b,ok b→b<w.heap.size)→AL w ok args vs fs→fs.Nodup→(∀b∈fs,b<w.heap.size∧¬ok b)→
    Calls P f vs.toArray w fun e w'=>∃x,φ x∧∃v fr fo,e= .returned v∧Grown fs w w'∧(fr++fo).Nodup∧(∀b∈fr++fo,(b∈fs∨w.heap.size≤b)∧b<w'.heap.size)∧
     OT w' (x8 ok fs (fr++fo) w w') (r x) v fr∧kH w w' (x8 ok fs (fr++fo) w w') (outs x) vs fo
theorem ah.QM{P:Program}{f:Nat}{args:List SV}{α:Type}{φ:α→Prop}{outs:α→List (Option (List CV))}{r:α→SV}(x:α)(hx:φ x)(h:ah P f args (outs x) (r x)):gJ P f args φ outs r:=
 ⟨h.1,fun w ok vs fs h1 h2 h3 h4=>(h.2 w ok vs fs h1 h2 h3 h4).mono fun _ _ hp=>⟨x,hx,hp⟩⟩
theorem gJ.imp{P:Program}{f:Nat}{args:List SV}{α β:Type}{φ:α→Prop}{outs:α→List (Option (List CV))}{r:α→SV}{ψ:β→Prop}{outs':β→List (Option (List CV))}{r':β→SV}(h:gJ P f args φ outs r)
 (g:∀x,φ x→∃y,ψ y∧outs' y=outs x∧r' y=r x):gJ P f args ψ outs' r':=
 ⟨h.1,fun w ok vs fs h1 h2 h3 h4=>(h.2 w ok vs fs h1 h2 h3 h4).mono fun _ _ ⟨x,hx,hp⟩=>by
   obtain⟨y,hy,e1,e2⟩:=g x hx
   exact⟨y,hy,by rw[e1,e2];exact hp⟩⟩
theorem gJ.QO{P:Program}{f:Nat}{args:List SV}{α:Type}{φ:α→Prop}{outs:List (Option (List CV))}{r:SV}(h:gJ P f args φ (fun _=>outs) (fun _=>r)):ah P f args outs r:=
 ⟨h.1,fun w ok vs fs h1 h2 h3 h4=>(h.2 w ok vs fs h1 h2 h3 h4).mono fun _ _ ⟨_,_,hp⟩=>hp⟩
abbrev aD(P:Program)(f:Nat)(args:List SV)(r:SV):Prop:=ah P f args [] r
def lK:List CV→Nat→Option (List SV × List (Nat × dE)× Nat)
 |[],n=>some ([],[],n)
 | .own ty sz rows::cs,n=>match lK cs (n+1) with|some (ss,bs,m)=>some (.lw n::ss,(n, .aG none ty sz rows)::bs,m)|none=>none
 | .ows ty sz rows::cs,n=>match lK cs (n+1) with|some (ss,bs,m)=>some (.lw n::ss,(n, .row none ty sz rows)::bs,m)|none=>none
 | .eW v ty sz rows::cs,n=>match lK cs (n+1) with|some (ss,bs,m)=>some (.lw n::ss,(n, .aG (some v) ty sz rows)::bs,m)|none=>none
 | .op _::_,_=>none
 | .iu _ _ _::_,_=>none
 |c::cs,n=>match lK cs n with|some (ss,bs,m)=>some (.c c::ss,bs,m)|none=>none
def ey:List CV→Nat→Option (List SV × List (Nat × dE)× Nat)
 |[],n=>some ([],[],n)
 | .own ty sz rows::cs,n=>match ey cs (n+1) with|some (ss,bs,m)=>some (.lw n::ss,(n, .aG none ty sz rows)::bs,m)|none=>none
 | .ows ty sz rows::cs,n=>match ey cs (n+1) with|some (ss,bs,m)=>some (.lw n::ss,(n, .row none ty sz rows)::bs,m)|none=>none
 | .eW v ty sz rows::cs,n=>match ey cs (n+1) with|some (ss,bs,m)=>some (.lw n::ss,(n, .aG (some v) ty sz rows)::bs,m)|none=>none
 | .op is::cs,n=>match lK is (n+1) with
   |some (ks,bs0,m0)=>match ey cs m0 with|some (ss,bs,m)=>some (.lp n 0::ss,(n,ff ks)::(bs0++bs),m)|none=>none
   |none=>none
 | .iu _ _ _::_,_=>none
 |c::cs,n=>match ey cs n with|some (ss,bs,m)=>some (.c c::ss,bs,m)|none=>none
def eF(s:SV)(n:Nat):Option (SV × List (Nat × dE)× Nat):=
 match s with
 | .c (.op cells)=>match ey cells n with|some (ss,bs,m)=>some (.lp m 0,bs++[(m,ff ss)],m+1)|none=>none
 | .c (.iu t e s)=>some (.lp n 0,[(n, .iu t e s)],n+1)
 | .c x=>match ey [x] n with|some ([s],bs,m)=>some (s,bs,m)|_=>none
 | .a k cs=>match ey cs n with
   |some (_,[],m)=>some (.a k cs,[],m)
   |some (ss,bs,m)=>some (.m ss,bs,m)
   |none=>none
 | .clo k caps=>some (.clo k caps,[],n)
 | .any=>some (.any,[],n)
 |_=>none
def tj:List SV→Nat→Option (List SV × List (Nat × dE)× Nat)
 |[],n=>some ([],[],n)
 |s::ss,n=>match eF s n with
  |some (s',bs,m)=>match tj ss m with
   |some (ss',bs',m')=>some (s'::ss',bs++bs',m')
   |none=>none
  |none=>none
def mR(s:SV)(n:Nat):Option (SV × List (Nat × dE)× Nat):=
 match s with
 | .a k cs=>some (.a k cs,[],n)
 | .m ss=>match s8 ss with
   |some cs=>match ey cs n with|some (ss',bs,m)=>some (.m ss',bs,m)|none=>none
   |none=>none
 | .tup [.c (.op cells), .lp 0 o]=>match ey cells n with|some (ss,bs,m)=>some (.lp m o,bs++[(m,ff ss)],m+1)|none=>none
 |s=>eF s n
def fC:List SV→Nat→Option (List SV × List (Nat × dE)× Nat)
 |[],n=>some ([],[],n)
 |s::ss,n=>match mR s n with
  |some (s',bs,m)=>match fC ss m with
   |some (ss',bs',m')=>some (s'::ss',bs++bs',m')
   |none=>none
  |none=>none
def wu(s:SV)(n:Nat):Option (SV × List (Nat × dE)× Nat):=
 match s with
 | .tup ss=>match tj ss n with|some (ss',bs,m)=>some (.tup ss',bs,m)|none=>none
 |s=>eF s n
section
variable{w:World}{ok:Nat→Prop}
theorem nF:∀{cs:List CV} {vs:List Value} {f:List Nat} {n:Nat} {ss:List SV} {bs:List (Nat × dE)} {m:Nat},lK cs n=some (ss,bs,m)→Den w ok cs vs f→
 ∃L,fu L=bs∧m=n+L.length∧gB w ok n L f∧∀ρ:RM,(∀e∈L,ρ e.nm=e.v)→PW (bG ρ w ok) ss vs
 |[],vs,f,n,ss,bs,m,h,hd=>by
  simp only[lK,Option.some.injEq,Prod.mk.injEq] at h
  obtain⟨rfl,rfl,rfl⟩:=h
  cases hd
  exact⟨[],rfl,rfl, .nil,fun ρ _=>⟨rfl,by simp⟩⟩
 |c::cs,vs,f,n,ss,bs,m,h,hd=>by
  have plain:∀{x:Value} {vs:List Value} {f:List Nat},Den w ok [c] [x] []→Den w ok cs vs f→(match lK cs n with|some (ss,bs,m)=>some (SV.c c::ss,bs,m)|none=>none)=some (ss,bs,m)→
        ∃L,fu L=bs∧m=n+L.length∧gB w ok n L f∧∀ρ:RM,(∀e∈L,ρ e.nm=e.v)→PW (bG ρ w ok) ss (x::vs):=by
   intro x vs f h1 ht h
   split at h
   ·rename_i ss' bs' m' hrec
    simp only[Option.some.injEq,Prod.mk.injEq] at h
    obtain⟨rfl,rfl,rfl⟩:=h
    obtain⟨L,g1,g2,g3,g4⟩:=nF hrec ht
    refine⟨L,g1,g2,g3,fun ρ hρ=>⟨by simp[(g4 ρ hρ).1],fun j a v ha hv=> ?_⟩⟩
    cases j with
    |zero=>simp at ha hv;subst ha hv;exact .c h1
    |succ j=>exact(g4 ρ hρ).2 j a v (by simpa using ha) (by simpa using hv)
   ·cases h
  have owned:∀{x:Value} {vs:List Value} {g f:List Nat} {b:dE},(∃a n c,x= .slice a n c)→(∀ρ:RM,dd ρ w ok b (some x) g)→Den w ok cs vs f→
        (match lK cs (n+1) with|some (ss,bs,m)=>some (SV.lw n::ss,(n,b)::bs,m)|none=>none)=some (ss,bs,m)→
        ∃L,fu L=bs∧m=n+L.length∧gB w ok n L (g++f)∧∀ρ:RM,(∀e∈L,ρ e.nm=e.v)→PW (bG ρ w ok) ss (x::vs):=by
   intro x vs g f b hx hb ht h
   split at h
   ·rename_i ss' bs' m' hrec
    simp only[Option.some.injEq,Prod.mk.injEq] at h
    obtain⟨rfl,rfl,rfl⟩:=h
    obtain⟨L,g1,g2,g3,g4⟩:=nF hrec ht
    refine⟨⟨n,b,g,some x⟩::L,by simp[fu] at g1⊢;exact g1,by simp;omega, ?_,fun ρ hρ=> ?_⟩
    ·have:=(gB.one (n:=n) hb).append (L':=L) (f':=f) (by simpa using g3)
     simpa using this
    ·obtain⟨k1,k2⟩:=g4 ρ fun e he=>hρ e (by simp[he])
     refine⟨by simp[k1],fun j a v ha hv=> ?_⟩
     cases j with
     |zero=>
      simp at ha hv
      subst ha hv
      obtain⟨a,k,c,rfl⟩:=hx
      exact .lw (hρ ⟨n,b,g,some (.slice a k c)⟩ (by simp))
     |succ j=>exact k2 j a v (by simpa using ha) (by simpa using hv)
   ·cases h
  cases hd with
  |any h1 ht=>exact plain (.any h1 .nil) ht h
  |val h1 ht=>exact plain (.val h1 .nil) ht h
  |cb ht=>exact plain (.cb .nil) ht h
  |ro hn hc hm hr hin hrd ht=>exact plain (.ro hn hc hm hr hin hrd .nil) ht h
  |rp hl hin hs hrd ht=>exact plain (.rp hl hin hs hrd .nil) ht h
  |op hb hin ht=>simp[lK] at h
  |iu hp hb ho ht=>simp[lK] at h
  | @own as vs f ty sz rows xs v g hin hr ho ht=>
    have:=owned (x:=v) (g:=v.ownBlock.toList++g) (b:= .aG none ty sz rows) (by rcases di ho with⟨e,_⟩|⟨b,c,e,_⟩<;>exact⟨_,_,_,e⟩) (fun ρ=> .aG ho hr hin (by simp)) ht h
    simpa using this
  | @eW as vs f ty sz rows xs v g hin hr ho ht=>
    have:=owned (x:=v) (g:=v.ownBlock.toList++g) (b:= .aG (some v) ty sz rows) (by rcases di ho with⟨e,_⟩|⟨b,c,e,_⟩<;>exact⟨_,_,_,e⟩) (fun ρ=> .aG ho hr hin (by simp)) ht h
    simpa using this
  | @ows as vs f ty sz rows xs v hin hr ho ht=>
    exact owned (x:=v) (g:=v.ownBlock.toList) (b:= .row none ty sz rows) (by rcases di ho with⟨e,_⟩|⟨b,c,e,_⟩<;>exact⟨_,_,_,e⟩) (fun ρ=> .row ho hr hin (by simp)) ht h
theorem HN{n:Nat}{L:List oA}{f:List Nat}{ss:List SV}{b ty:Nat}{arr:Array Value}(hT:gB w ok (n+1) L f)(hb:w.heap[b]? =some (.cells arr ty (0,0)))(hC:∀ρ:RM,(∀e∈L,ρ e.nm=e.v)→PW (bG ρ w ok) ss arr.toList):
 gB w ok n (⟨n,ff ss,[b],some (.pointer (some ⟨b,0,none⟩))⟩::L) (b::f):=by
 refine⟨?_,by simp[hT.flat],fun e he=> ?_⟩
 ·rw[List.map_cons,hT.names,List.length_cons,List.range'_succ]
 ·rcases List.mem_cons.1 he with he|he
  ·subst he
   refine⟨_,rfl,fun ρ hρ=> ?_⟩
   obtain⟨k1,k2⟩:=hC ρ fun e he=>hρ e (by simp[he])
   exact et hb k1 k2
  ·obtain⟨u,h1,h2⟩:=hT.den e he
   exact⟨u,h1,fun ρ hρ=>h2 ρ fun e' he'=>hρ e' (by simp[he'])⟩
theorem K9{n:Nat}{L:List oA}{f:List Nat}{ss:List SV}{b ty:Nat}{arr:Array Value}(hT:gB w ok n L f)(hb:w.heap[b]? =some (.cells arr ty (0,0)))(hC:∀ρ:RM,(∀e∈L,ρ e.nm=e.v)→PW (bG ρ w ok) ss arr.toList):
 gB w ok n (L++[⟨n+L.length,ff ss,[b],some (.pointer (some ⟨b,0,none⟩))⟩]) (f++[b]):=by
 refine⟨?_,by rw[List.map_append,List.flatten_append,hT.flat];simp,fun e he=> ?_⟩
 ·rw[List.map_append,hT.names,List.length_append,←List.range'_append_1]
  rfl
 ·rcases List.mem_append.1 he with he|he
  ·obtain⟨u,h1,h2⟩:=hT.den e he
   exact⟨u,h1,fun ρ hρ=>h2 ρ fun e' he'=>hρ e' (by simp[he'])⟩
  ·have he:=List.mem_singleton.1 he
   subst he
   refine⟨_,rfl,fun ρ hρ=> ?_⟩
   obtain⟨k1,k2⟩:=hC ρ fun e he=>hρ e (by simp[he])
   exact et hb k1 k2
theorem dk:∀{cs:List CV} {vs:List Value} {f:List Nat} {n:Nat} {ss:List SV} {bs:List (Nat × dE)} {m:Nat},ey cs n=some (ss,bs,m)→Den w ok cs vs f→
 ∃L,fu L=bs∧m=n+L.length∧gB w ok n L f∧∀ρ:RM,(∀e∈L,ρ e.nm=e.v)→PW (bG ρ w ok) ss vs
 |[],vs,f,n,ss,bs,m,h,hd=>by
  simp only[ey,Option.some.injEq,Prod.mk.injEq] at h
  obtain⟨rfl,rfl,rfl⟩:=h
  cases hd
  exact⟨[],rfl,rfl, .nil,fun ρ _=>⟨rfl,by simp⟩⟩
 |c::cs,vs,f,n,ss,bs,m,h,hd=>by
  have plain:∀{x:Value} {vs:List Value} {f:List Nat},Den w ok [c] [x] []→Den w ok cs vs f→(match ey cs n with|some (ss,bs,m)=>some (SV.c c::ss,bs,m)|none=>none)=some (ss,bs,m)→
        ∃L,fu L=bs∧m=n+L.length∧gB w ok n L f∧∀ρ:RM,(∀e∈L,ρ e.nm=e.v)→PW (bG ρ w ok) ss (x::vs):=by
   intro x vs f h1 ht h
   split at h
   ·rename_i ss' bs' m' hrec
    simp only[Option.some.injEq,Prod.mk.injEq] at h
    obtain⟨rfl,rfl,rfl⟩:=h
    obtain⟨L,g1,g2,g3,g4⟩:=dk hrec ht
    refine⟨L,g1,g2,g3,fun ρ hρ=>⟨by simp[(g4 ρ hρ).1],fun j a v ha hv=> ?_⟩⟩
    cases j with
    |zero=>simp at ha hv;subst ha hv;exact .c h1
    |succ j=>exact(g4 ρ hρ).2 j a v (by simpa using ha) (by simpa using hv)
   ·cases h
  have owned:∀{x:Value} {vs:List Value} {g f:List Nat} {b:dE},(∃a n c,x= .slice a n c)→(∀ρ:RM,dd ρ w ok b (some x) g)→Den w ok cs vs f→
        (match ey cs (n+1) with|some (ss,bs,m)=>some (SV.lw n::ss,(n,b)::bs,m)|none=>none)=some (ss,bs,m)→
        ∃L,fu L=bs∧m=n+L.length∧gB w ok n L (g++f)∧∀ρ:RM,(∀e∈L,ρ e.nm=e.v)→PW (bG ρ w ok) ss (x::vs):=by
   intro x vs g f b hx hb ht h
   split at h
   ·rename_i ss' bs' m' hrec
    simp only[Option.some.injEq,Prod.mk.injEq] at h
    obtain⟨rfl,rfl,rfl⟩:=h
    obtain⟨L,g1,g2,g3,g4⟩:=dk hrec ht
    refine⟨⟨n,b,g,some x⟩::L,by simp[fu] at g1⊢;exact g1,by simp;omega, ?_,fun ρ hρ=> ?_⟩
    ·have:=(gB.one (n:=n) hb).append (L':=L) (f':=f) (by simpa using g3)
     simpa using this
    ·obtain⟨k1,k2⟩:=g4 ρ fun e he=>hρ e (by simp[he])
     refine⟨by simp[k1],fun j a v ha hv=> ?_⟩
     cases j with
     |zero=>
      simp at ha hv
      subst ha hv
      obtain⟨a,k,c,rfl⟩:=hx
      exact .lw (hρ ⟨n,b,g,some (.slice a k c)⟩ (by simp))
     |succ j=>exact k2 j a v (by simpa using ha) (by simpa using hv)
   ·cases h
  cases hd with
  |any h1 ht=>exact plain (.any h1 .nil) ht h
  |val h1 ht=>exact plain (.val h1 .nil) ht h
  |cb ht=>exact plain (.cb .nil) ht h
  |ro hn hc hm hr hin hrd ht=>exact plain (.ro hn hc hm hr hin hrd .nil) ht h
  |rp hl hin hs hrd ht=>exact plain (.rp hl hin hs hrd .nil) ht h
  | @op as vs f ty is b g arr hb hin ht=>
    simp only[ey] at h
    split at h
    case h_2=>cases h
    rename_i ks bs0 m0 hr0
    split at h
    case h_2=>cases h
    rename_i ss' bs' m' hrec
    simp only[Option.some.injEq,Prod.mk.injEq] at h
    obtain⟨rfl,rfl,rfl⟩:=h
    obtain⟨L0,g1,g2,g3,g4⟩:=nF hr0 hin
    subst g2
    have hT:=HN g3 hb g4
    obtain⟨L,k1,k2,k3,k4⟩:=dk hrec ht
    refine⟨(⟨n,ff ks,[b],some (.pointer (some ⟨b,0,none⟩))⟩::L0)++L,by simp[fu] at g1 k1⊢;rw[g1,k1],by simp;omega, ?_,fun ρ hρ=> ?_⟩
    ·have:=hT.append (L':=L) (f':=f) (by simpa[Nat.add_assoc,Nat.add_comm 1] using k3)
     simpa using this
    ·obtain⟨q1,q2⟩:=k4 ρ fun e he=>hρ e (by simp[he])
     refine⟨by simp[q1],fun j a v ha hv=> ?_⟩
     cases j with
     |zero=>
      simp at ha hv
      subst ha hv
      exact .lp (hρ ⟨n,ff ks,[b],some (.pointer (some ⟨b,0,none⟩))⟩ (by simp))
     |succ j=>exact q2 j a v (by simpa using ha) (by simpa using hv)
  |iu hp hb ho ht=>simp[ey] at h
  | @own as vs f ty sz rows xs v g hin hr ho ht=>
    have:=owned (x:=v) (g:=v.ownBlock.toList++g) (b:= .aG none ty sz rows) (by rcases di ho with⟨e,_⟩|⟨b,c,e,_⟩<;>exact⟨_,_,_,e⟩) (fun ρ=> .aG ho hr hin (by simp)) ht h
    simpa using this
  | @eW as vs f ty sz rows xs v g hin hr ho ht=>
    have:=owned (x:=v) (g:=v.ownBlock.toList++g) (b:= .aG (some v) ty sz rows) (by rcases di ho with⟨e,_⟩|⟨b,c,e,_⟩<;>exact⟨_,_,_,e⟩) (fun ρ=> .aG ho hr hin (by simp)) ht h
    simpa using this
  | @ows as vs f ty sz rows xs v hin hr ho ht=>
    exact owned (x:=v) (g:=v.ownBlock.toList) (b:= .row none ty sz rows) (by rcases di ho with⟨e,_⟩|⟨b,c,e,_⟩<;>exact⟨_,_,_,e⟩) (fun ρ=> .row ho hr hin (by simp)) ht h
theorem kQ{s s':SV}{v:Value}{f:List Nat}{n m:Nat}{bs:List (Nat × dE)}(h:eF s n=some (s',bs,m))(hd:jn w ok s v f):
 ∃L g,fu L=bs∧m=n+L.length∧gB w ok n L g∧g.Perm f∧∀ρ:RM,(∀e∈L,ρ e.nm=e.v)→aZ ρ w ok s' v:=by
 have one:∀{x:CV} {f:List Nat},Den w ok [x] [v] f→(∀cells,x≠ .op cells)→(∀t e s,x≠ .iu t e s)→eF (.c x) n=some (s',bs,m)→∃L g,fu L=bs∧m=n+L.length∧gB w ok n L g∧g.Perm f∧∀ρ:RM,(∀e∈L,ρ e.nm=e.v)→aZ ρ w ok s' v:=by
  intro x f hd hx hx2 h
  have h':(match ey [x] n with|some ([s],bs,m)=>some (s,bs,m)|_=>none)=some (s',bs,m):=by
   cases x<;>first|exact h|exact absurd rfl (hx _)|exact absurd rfl (hx2 _ _ _)
  split at h'
  ·rename_i s0 bs0 m0 hrec
   simp only[Option.some.injEq,Prod.mk.injEq] at h'
   obtain⟨rfl,rfl,rfl⟩:=h'
   obtain⟨L,g1,g2,g3,g4⟩:=dk hrec hd
   exact⟨L,f,g1,g2,g3, .refl _,fun ρ hρ=> .v (.c ((g4 ρ hρ).2 0 s0 v rfl rfl))⟩
  ·cases h'
 cases hd with
 |v hv=>
  have hv0:=hv (fun _=>none)
  cases hv0 with
  |c hc=>
   cases hc with
   |c hd=>
    rename_i x
    by_cases hx:∃cells,x= .op cells
    ·obtain⟨cells,rfl⟩:=hx
     cases hd
    ·exact one hd (fun cells e=>hx ⟨cells,e⟩) (by rintro t e s rfl;cases hd) h
   |lp h'=>cases h'
   |le h'=>cases h'
   |lw h'=>cases h'
   |ls h'=>cases h'
   |mp h'=>cases h'
  |a hl hd=>
   rename_i k cs vs
   simp only[eF] at h
   split at h
   ·rename_i ss0 m0 hrec
    simp only[Option.some.injEq,Prod.mk.injEq] at h
    obtain⟨rfl,rfl,rfl⟩:=h
    obtain⟨L,g1,g2,g3,g4⟩:=dk hrec hd
    exact⟨L,[],g1,g2,g3, .refl _,fun ρ hρ=> .v (.a hl hd)⟩
   ·rename_i ss0 bs0 m0 hne hrec
    simp only[Option.some.injEq,Prod.mk.injEq] at h
    obtain⟨rfl,rfl,rfl⟩:=h
    obtain⟨L,g1,g2,g3,g4⟩:=dk hrec hd
    exact⟨L,[],g1,g2,g3, .refl _,fun ρ hρ=> .v (.m (g4 ρ hρ).1 (g4 ρ hρ).2)⟩
   ·cases h
  |m hl hd=>simp[eF] at h
  |clo hl hd=>
   simp only[eF,Option.some.injEq,Prod.mk.injEq] at h
   obtain⟨rfl,rfl,rfl⟩:=h
   exact⟨[],[],rfl,rfl, .nil, .refl _,fun ρ _=> .v (hv ρ)⟩
 |o hd=>
  rename_i x
  by_cases hx:∃cells,x= .op cells
  ·obtain⟨cells,rfl⟩:=hx
   cases hd with
   | @op as vs f ty cells b g arr hb hin ht=>
     cases ht
     simp only[eF] at h
     split at h
     ·rename_i ss bs0 m0 hrec
      simp only[Option.some.injEq,Prod.mk.injEq] at h
      obtain⟨rfl,rfl,rfl⟩:=h
      obtain⟨L,g1,g2,g3,g4⟩:=dk hrec hin
      subst g2
      refine⟨_,_, ?_,by simp;omega,K9 g3 hb g4, ?_,fun ρ hρ=> ?_⟩
      ·simp only[fu,List.map_append,List.map_cons,List.map_nil] at g1⊢
       rw[g1]
      ·rw[List.append_nil]
       exact List.perm_append_singleton b g
      ·exact .v (.c (.lp (hρ ⟨n+L.length,ff ss,[b],some (.pointer (some ⟨b,0,none⟩))⟩ (by simp))))
     ·cases h
  ·by_cases hx2:∃t e s,x= .iu t e s
   ·obtain⟨t,e,s,rfl⟩:=hx2
    cases hd with
    | @iu as vs f ty e s b p u hp hb ho ht=>
      cases ht
      simp only[eF,Option.some.injEq,Prod.mk.injEq] at h
      obtain⟨rfl,rfl,rfl⟩:=h
      refine⟨[⟨n, .iu t e s,b::u.ownBlock.toList,some (.pointer (some ⟨b,0,none⟩))⟩],_,rfl,rfl, .one fun ρ=> .iu hp hb ho,by rw[List.append_nil],fun ρ hρ=> ?_⟩
      exact .v (.c (.lp (hρ ⟨n, .iu t e s,b::u.ownBlock.toList,some (.pointer (some ⟨b,0,none⟩))⟩ (by simp))))
   ·exact one hd (fun cells e=>hx ⟨cells,e⟩) (fun t e s h=>hx2 ⟨t,e,s,h⟩) h
 |a hl hd=>
  rename_i k cs vs
  simp only[eF] at h
  split at h
  ·rename_i ss0 m0 hrec
   simp only[Option.some.injEq,Prod.mk.injEq] at h
   obtain⟨rfl,rfl,rfl⟩:=h
   obtain⟨L,g1,g2,g3,g4⟩:=dk hrec hd
   have hL:L=[]:=by simpa[fu] using g1
   subst hL
   have hf:f=[]:=by have:=g3.flat;simpa using this.symm
   subst hf
   exact⟨[],[],rfl,g2,g3, .refl _,fun ρ hρ=> .v (.a hl hd)⟩
  ·rename_i ss0 bs0 m0 hne hrec
   simp only[Option.some.injEq,Prod.mk.injEq] at h
   obtain⟨rfl,rfl,rfl⟩:=h
   obtain⟨L,g1,g2,g3,g4⟩:=dk hrec hd
   exact⟨L,f,g1,g2,g3, .refl _,fun ρ hρ=> .v (.m (g4 ρ hρ).1 (g4 ρ hρ).2)⟩
  ·cases h
theorem r8{s s':SV}{n m:Nat}{bs:List (Nat × dE)}(h:eF s n=some (s',bs,m))(hs:s≠ .any):s'≠ .any∧∀vs,s'≠ .tup vs:=by
 have h1:∀{cs:List CV} {n:Nat} {ss:List SV} {bs:List (Nat × dE)} {m:Nat},ey cs n=some (ss,bs,m)→∀s∈ss,s≠ .any∧∀vs,s≠ .tup vs:=by
  intro cs
  induction cs with
  |nil=>intro n ss bs m h;simp[ey] at h;obtain⟨rfl,_⟩:=h;simp
  |cons c cs ih=>
   intro n ss bs m h s hs
   cases c<;>simp only[ey] at h<;>first
        |cases h
        |(split at h
          case h_2=>cases h
          split at h
          case h_2=>cases h
          rename_i hrec
          simp only[Option.some.injEq,Prod.mk.injEq] at h
          obtain⟨rfl,_⟩:=h
          rcases List.mem_cons.1 hs with rfl|hs
          ·exact⟨by simp,by simp⟩
          ·exact ih hrec s hs)
        |(split at h<;>first
         |(cases h;done)
         |(rename_i hrec
           simp only[Option.some.injEq,Prod.mk.injEq] at h
           obtain⟨rfl,_⟩:=h
           rcases List.mem_cons.1 hs with rfl|hs
           ·exact⟨by simp,by simp⟩
           ·exact ih hrec s hs))
 unfold eF at h
 split at h
 ·split at h
  ·simp only[Option.some.injEq,Prod.mk.injEq] at h;obtain⟨rfl,_⟩:=h;simp
  ·cases h
 ·simp only[Option.some.injEq,Prod.mk.injEq] at h;obtain⟨rfl,_⟩:=h;simp
 ·split at h
  ·rename_i hrec
   simp only[Option.some.injEq,Prod.mk.injEq] at h
   obtain⟨rfl,_⟩:=h
   exact h1 hrec _ (by simp)
  ·cases h
 ·split at h
  ·simp only[Option.some.injEq,Prod.mk.injEq] at h;obtain⟨rfl,_⟩:=h;simp
  ·simp only[Option.some.injEq,Prod.mk.injEq] at h;obtain⟨rfl,_⟩:=h;simp
  ·cases h
 ·simp only[Option.some.injEq,Prod.mk.injEq] at h;obtain⟨rfl,_⟩:=h;simp
 ·exact absurd rfl hs
 ·cases h
theorem jn.Ap{v:Value}{f:List Nat}(h:jn w ok .any v f):False:=by
 cases h with
 |v h=>cases h (fun _=>none) with|c h=>cases h
theorem qK:∀{ss ss':List SV} {vs:List Value} {f:List Nat} {n m:Nat} {bs:List (Nat × dE)},tj ss n=some (ss',bs,m)→OL w ok ss vs f→
 ∃L g,fu L=bs∧m=n+L.length∧gB w ok n L g∧g.Perm f∧∀ρ:RM,(∀e∈L,ρ e.nm=e.v)→ss'.length=vs.length∧∀(j:Nat) s v,ss'[j]? =some s→vs[j]? =some v→dZ ρ w ok s v
 |[],ss',vs,f,n,m,bs,h,hd=>by
  simp only[tj,Option.some.injEq,Prod.mk.injEq] at h
  obtain⟨rfl,rfl,rfl⟩:=h
  cases hd
  exact⟨[],[],rfl,rfl, .nil, .refl _,fun ρ _=>⟨rfl,by simp⟩⟩
 |s::ss,ss',vs,f,n,m,bs,h,hd=>by
  cases hd with
  |cons h0 ht=>
   simp only[tj] at h
   split at h
   case h_2=>cases h
   rename_i s1 bs1 m1 hr1
   split at h
   case h_2=>cases h
   rename_i ss2 bs2 m2 hr2
   simp only[Option.some.injEq,Prod.mk.injEq] at h
   obtain⟨rfl,rfl,rfl⟩:=h
   obtain⟨L1,g1,a1,a2,a3,a4,a5⟩:=kQ hr1 h0
   subst a2
   obtain⟨L2,g2,b1,b2,b3,b4,b5⟩:=qK hr2 ht
   have hne:s≠ .any:=by rintro rfl;exact h0.Ap
   obtain⟨c1,c2⟩:=r8 hr1 hne
   refine⟨L1++L2,g1++g2,by simp[fu] at a1 b1⊢;rw[a1,b1],by rw[b2,List.length_append];omega,a3.append b3,a4.append b4,fun ρ hρ=> ?_⟩
   have e1:=a5 ρ fun e he=>hρ e (by simp[he])
   have e2:=b5 ρ fun e he=>hρ e (by simp[he])
   refine⟨by simp[e2.1],fun j s v hs hv=> ?_⟩
   cases j with
   |zero=>simp at hs hv;subst hs hv;exact e1.vc c1 c2
   |succ j=>exact e2.2 j s v (by simpa using hs) (by simpa using hv)
theorem By{s s':SV}{v:Value}{f:List Nat}{n m:Nat}{bs:List (Nat × dE)}(h:wu s n=some (s',bs,m))(hd:OT w ok s v f):
 ∃L g,fu L=bs∧m=n+L.length∧gB w ok n L g∧g.Perm f∧∀ρ:RM,(∀e∈L,ρ e.nm=e.v)→aZ ρ w ok s' v:=by
 cases hd with
 |any=>
  simp only[wu,eF,Option.some.injEq,Prod.mk.injEq] at h
  obtain⟨rfl,rfl,rfl⟩:=h
  exact⟨[],[],rfl,rfl, .nil, .refl _,fun ρ _=> .any⟩
 |v hd=>
  have:wu s n=eF s n:=by
    cases s<;>first|rfl|skip
    cases hd with
    |v h=>cases h (fun _=>none) with|c h=>cases h
  rw[this] at h
  exact kQ h hd
 |tup hd=>
  simp only[wu] at h
  split at h
  ·rename_i ss' bs' m' hr
   simp only[Option.some.injEq,Prod.mk.injEq] at h
   obtain⟨rfl,rfl,rfl⟩:=h
   obtain⟨L,g,a1,a2,a3,a4,a5⟩:=qK hr hd
   exact⟨L,g,a1,a2,a3,a4,fun ρ hρ=> .tup (a5 ρ hρ).1 (a5 ρ hρ).2⟩
  ·cases h
theorem A9{s s':SV}{v:Value}{f:List Nat}{n m:Nat}{bs:List (Nat × dE)}(h:mR s n=some (s',bs,m))(hd:qt w ok s v f):
 ∃L g,fu L=bs∧m=n+L.length∧gB w ok n L g∧g.Perm f∧∀ρ:RM,(∀e∈L,ρ e.nm=e.v)→dZ ρ w ok s' v:=by
 have fromV:eF s n=some (s',bs,m)→jn w ok s v f→∃L g,fu L=bs∧m=n+L.length∧gB w ok n L g∧g.Perm f∧∀ρ:RM,(∀e∈L,ρ e.nm=e.v)→dZ ρ w ok s' v:=by
  intro h hd
  have hne:s≠ .any:=by rintro rfl;exact hd.Ap
  obtain⟨c1,c2⟩:=r8 h hne
  obtain⟨L,g,a1,a2,a3,a4,a5⟩:=kQ h hd
  exact⟨L,g,a1,a2,a3,a4,fun ρ hρ=>(a5 ρ hρ).vc c1 c2⟩
 have many:∀{ss:List SV} {cs:List CV} {vs:List Value} {f:List Nat},s8 ss=some cs→Den w ok cs vs f→(match ey cs n with|some (ss',bs,m)=>some (SV.m ss',bs,m)|none=>none)=some (s',bs,m)→
  ∃L g,fu L=bs∧m=n+L.length∧gB w ok n L g∧g.Perm f∧∀ρ:RM,(∀e∈L,ρ e.nm=e.v)→dZ ρ w ok s' (.agg vs.toArray):=by
  intro ss cs vs f _ hd h
  split at h
  ·rename_i ss' bs' m' hrec
   simp only[Option.some.injEq,Prod.mk.injEq] at h
   obtain⟨rfl,rfl,rfl⟩:=h
   obtain⟨L,g1,g2,g3,g4⟩:=dk hrec hd
   exact⟨L,f,g1,g2,g3, .refl _,fun ρ hρ=> .m (g4 ρ hρ).1 (g4 ρ hρ).2⟩
  ·cases h
 cases s with
 |a k cs=>
  simp only[mR,Option.some.injEq,Prod.mk.injEq] at h
  obtain⟨rfl,rfl,rfl⟩:=h
  cases hd with
  |v hv=>exact⟨[],[],rfl,rfl, .nil, .refl _,fun ρ _=>hv ρ⟩
 |m ss=>
  simp only[mR] at h
  split at h
  case h_2=>cases h
  rename_i cs hcs
  cases hd with
  |v hv=>
   cases hv (fun _=>none) with
   |c hc=>cases hc
   |m hl hc=>
    obtain⟨h1,_⟩:=jT hcs hl hc
    exact many hcs h1 h
  |m hd=>
   have:∀cs:List CV,s8 (cs.map SV.c)=some cs:=by
     intro cs
     induction cs with
     |nil=>rfl
     |cons c cs ih=>simp only[List.map_cons,s8,ih]
   rw[this] at hcs
   injection hcs with hcs
   subst hcs
   exact many (this _) hd h
 |c x=>
  refine fromV h ?_
  cases hd with
  |v hv=>exact .v hv
  |o hd=>exact .o hd
 |clo k caps=>
  refine fromV h ?_
  cases hd with
  |v hv=>exact .v hv
 |any=>cases hd with|v hv=>cases hv (fun _=>none) with|c hc=>cases hc
 |tup ss=>
  unfold mR at h
  split at h
  case h_1 he=>cases he
  case h_2 he=>cases he
  case h_3 cells o he=>
   injection he with he
   subst he
   have hx:∃b,v= .pointer (some ⟨b,o,none⟩)∧Den w ok [.op cells] [.pointer (some ⟨b,0,none⟩)] f:=by
      cases hd with
      |v hv=>cases hv (fun _=>none) with|c hc=>cases hc
      |off hd=>exact⟨_,rfl,hd⟩
   obtain⟨b,rfl,hd2⟩:=hx
   split at h
   case h_2=>cases h
   rename_i ss' bs' m' hrec
   simp only[Option.some.injEq,Prod.mk.injEq] at h
   obtain⟨rfl,rfl,rfl⟩:=h
   have h0:eF (.c (.op cells)) n=some (.lp m' 0,bs'++[(m',ff ss')],m'+1):=by simp only[eF,hrec]
   obtain⟨L,g,a1,a2,a3,a4,a5⟩:=kQ h0 (.o hd2)
   refine⟨L,g,a1,a2,a3,a4,fun ρ hρ=> ?_⟩
   obtain⟨b',e1,e2⟩:=sW (a5 ρ hρ)
   simp only[Value.pointer.injEq,Option.some.injEq,Addr.mk.injEq,and_true] at e2
   subst e2
   exact .c (.lp e1)
  case h_4=>simp[eF] at h
 |lp i o=>simp[mR,eF] at h
 |le i a b c=>simp[mR,eF] at h
 |lw i=>simp[mR,eF] at h
 |ls i a b c=>simp[mR,eF] at h
 |mp i=>simp[mR,eF] at h
theorem qC:∀{ss ss':List SV} {vs:List Value} {f:List Nat} {n m:Nat} {bs:List (Nat × dE)},fC ss n=some (ss',bs,m)→AL w ok ss vs f→
 ∃L g,fu L=bs∧m=n+L.length∧gB w ok n L g∧g.Perm f∧∀ρ:RM,(∀e∈L,ρ e.nm=e.v)→ss'.length=vs.length∧∀(j:Nat) s v,ss'[j]? =some s→vs[j]? =some v→dZ ρ w ok s v
 |[],ss',vs,f,n,m,bs,h,hd=>by
  simp only[fC,Option.some.injEq,Prod.mk.injEq] at h
  obtain⟨rfl,rfl,rfl⟩:=h
  cases hd
  exact⟨[],[],rfl,rfl, .nil, .refl _,fun ρ _=>⟨rfl,by simp⟩⟩
 |s::ss,ss',vs,f,n,m,bs,h,hd=>by
  cases hd with
  |cons h0 ht=>
   simp only[fC] at h
   split at h
   case h_2=>cases h
   rename_i s1 bs1 m1 hr1
   split at h
   case h_2=>cases h
   rename_i ss2 bs2 m2 hr2
   simp only[Option.some.injEq,Prod.mk.injEq] at h
   obtain⟨rfl,rfl,rfl⟩:=h
   obtain⟨L1,g1,a1,a2,a3,a4,a5⟩:=A9 hr1 h0
   subst a2
   obtain⟨L2,g2,b1,b2,b3,b4,b5⟩:=qC hr2 ht
   refine⟨L1++L2,g1++g2,by simp[fu] at a1 b1⊢;rw[a1,b1],by rw[b2,List.length_append];omega,a3.append b3,a4.append b4,fun ρ hρ=> ?_⟩
   have e1:=a5 ρ fun e he=>hρ e (by simp[he])
   have e2:=b5 ρ fun e he=>hρ e (by simp[he])
   refine⟨by simp[e2.1],fun j s v hs hv=> ?_⟩
   cases j with
   |zero=>simp at hs hv;subst hs hv;exact e1
   |succ j=>exact e2.2 j s v (by simpa using hs) (by simpa using hv)
end
end Go.KA
