/- Part of a proof engine for functions of the given program: what an operation, a loop and a call compute, symbolically. No conditions. -/
import Derived.WalkKit
import Derived.Deep.LoopGhost
import Derived.Deep.MidRow
import Derived.MapKept
import Derived.Lib.AppendStr
namespace Go.KA
open Go
inductive CV where
 |any
 |val (x:Value)
 |cb (b:Bool)
 |ro (sz:Nat) (rows:List (List CV))
 |rp (sz:Nat) (cells:List CV)
 |own (ty sz:Nat) (rows:List (List CV))
 |ows (ty sz:Nat) (rows:List (List CV))
 |eW (v:Value) (ty sz:Nat) (rows:List (List CV))
 |op (cells:List CV)
 |iu (ty e:Nat) (s:ByteArray)
 deriving Inhabited
inductive SV where
 |any
 |c (x:CV)
 |a (n:Nat) (cs:List CV)
 |lp (i off:Nat)
 |le (i sz idx off:Nat)
 |lw (i:Nat)
 |ls (i sz off len:Nat)
 |mp (i:Nat)
 |m (cs:List SV)
 |tup (vs:List SV)
 |clo (k:Nat) (caps:List SV)
 deriving Inhabited
inductive dE where
 |dead
 |cc (sz:Nat) (cs:List CV)
 |cells (cs:List SV)
 |row (o:Option Value) (ty sz:Nat) (rows:List (List CV))
 |aG (o:Option Value) (ty sz:Nat) (rows:List (List CV))
 |ny (k:Option IntKind) (es:List (Value × SV))
 |iu (ty e:Nat) (s:ByteArray)
 deriving Inhabited
def yR:Option IntKind→TypeDesc
 |some k=> .int k
 |none=> .string
abbrev TM:=Nat→SV
abbrev HM:=Nat→dE
abbrev RM:=Nat→Option Value
abbrev FM:=Nat→List Nat
def Rd(w:World)(ok:Nat→Prop)(a:Option Addr)(xs:List Value):Prop:=
 ∀j x,xs[j]? =some x→∃ad,a=some ad∧ad.spot=none∧ok ad.block∧w.cell? (ad.add j)=some x
inductive Den(w:World)(ok:Nat→Prop):List CV→List Value→List Nat→Prop
 |nil:Den w ok [] [] []
 |any {as vs f v} (h1:v.oneCell'=true) (ht:Den w ok as vs f):Den w ok (.any::as) (v::vs) f
 |val {as vs f x} (h1:x.oneCell'=true) (ht:Den w ok as vs f):Den w ok (.val x::as) (x::vs) f
 |cb {as vs f b} (ht:Den w ok as vs f):Den w ok (.cb b::as) (.bool b::vs) f
 |ro {as vs f sz rows xs a n c} (hn:rows.length=n) (hc:n≤c) (hm:c≤maxLen) (hr:∀r∈rows,r.length=sz) (hin:Den w ok rows.flatten xs [])
  (hrd:Rd w ok a xs) (ht:Den w ok as vs f):Den w ok (.ro sz rows::as) (.slice a n c::vs) f
 |rp {as vs f sz cells xs ad} (hl:cells.length=sz) (hin:Den w ok cells xs []) (hs:ad.spot=none) (hrd:Rd w ok (some ad) xs) (ht:Den w ok as vs f):Den w ok (.rp sz cells::as) (.pointer (some ad)::vs) f
 |own {as vs f ty sz rows xs v g} (hin:Den w ok rows.flatten xs g) (hr:∀r∈rows,r.length=sz) (ho:w.ownsRow 0 ty sz v rows.length xs)
  (ht:Den w ok as vs f):Den w ok (.own ty sz rows::as) (v::vs) (v.ownBlock.toList++g++f)
 |ows {as vs f ty sz rows xs v} (hin:Den w ok rows.flatten xs []) (hr:∀r∈rows,r.length=sz) (ho:w.ownsRow 0 ty sz v rows.length xs)
  (ht:Den w ok as vs f):Den w ok (.ows ty sz rows::as) (v::vs) (v.ownBlock.toList++f)
 |eW {as vs f ty sz rows xs v g} (hin:Den w ok rows.flatten xs g) (hr:∀r∈rows,r.length=sz) (ho:w.ownsRow 0 ty sz v rows.length xs)
  (ht:Den w ok as vs f):Den w ok (.eW v ty sz rows::as) (v::vs) (v.ownBlock.toList++g++f)
 |op {as vs f ty cells b g} {arr:Array Value} (hb:w.heap[b]? =some (.cells arr ty (0,0))) (hin:Den w ok cells arr.toList g)
  (ht:Den w ok as vs f):Den w ok (.op cells::as) (.pointer (some ⟨b,0,none⟩)::vs) (b::g++f)
 |iu {as vs f ty e s b p v} (hp:p= .pointer none∨p= .pointer (some ⟨b,0,none⟩)) (hb:w.heap[b]? =some (.cells #[p,v] ty (0,0))) (ho:w.ownsRow 0 e 1 v s.size (Lib.strCells s))
  (ht:Den w ok as vs f):Den w ok (.iu ty e s::as) (.pointer (some ⟨b,0,none⟩)::vs) (b::v.ownBlock.toList++f)
theorem HV{w w':World}{a:Addr}(h:w'.heap[a.block]? =w.heap[a.block]?):w'.cell? a=w.cell? a:=by simp[World.cell?,h]
theorem uj(a:Addr)(n:Nat):(a.add n).block=a.block:=by unfold Addr.add;split<;>rfl
theorem add_add(a:Addr)(i j:Nat):(a.add i).add j=a.add (i+j):=by
 unfold Addr.add
 by_cases hi:i=0<;>by_cases hj:j=0<;>simp[hi,hj,Nat.add_assoc]
theorem pQ(a:Addr)(n:Nat)(h:a.spot=none):(a.add n).spot=none:=by unfold Addr.add;split<;>simp[h]
theorem eh(b o n:Nat):(⟨b,o,none⟩:Addr).add n=⟨b,o+n,none⟩:=by unfold Addr.add;split<;>simp_all
theorem Rd.mono{w w':World}{ok ok':Nat→Prop}{a:Option Addr}{xs:List Value}(h:Rd w ok a xs)
 (hs:∀b,ok b→w'.heap[b]? =w.heap[b]?)(hok:∀b,ok b→ok' b):Rd w' ok' a xs:=by
 intro j x hx
 obtain⟨ad,rfl,hsp,hb,hc⟩:=h j x hx
 exact⟨ad,rfl,hsp,hok _ hb,by rw[HV (w:=w) (by rw[uj];exact hs _ hb)];exact hc⟩
theorem jb{w w':World}{ty sz n:Nat}{v:Value}{xs:List Value}(h:w.ownsRow 0 ty sz v n xs)
 (hs:∀b,v.ownBlock=some b→w'.heap[b]? =w.heap[b]?):w'.ownsRow 0 ty sz v n xs:=by
 obtain⟨h1,h2⟩:=h
 refine⟨h1, ?_⟩
 rcases h2 with h2|⟨g,cap,cur,rfl,hb,hh,r⟩
 ·exact .inl h2
 ·exact .inr ⟨g,cap,cur,rfl,hb,by rw[hs g rfl];exact hh,r⟩
theorem Den.mono{w w':World}{ok ok':Nat→Prop}{as:List CV}{vs:List Value}{f:List Nat}(h:Den w ok as vs f)
 (hs:∀b,ok b→w'.heap[b]? =w.heap[b]?)(hok:∀b,ok b→ok' b)(hf:∀b∈f,w'.heap[b]? =w.heap[b]?):Den w' ok' as vs f:=by
 induction h with
 |nil=>exact .nil
 |any h1 _ ih=>exact .any h1 (ih hf)
 |val h1 _ ih=>exact .val h1 (ih hf)
 |cb _ ih=>exact .cb (ih hf)
 |ro hn hc hm hr _ hrd _ ih1 ih2=>exact .ro hn hc hm hr (ih1 (by simp)) (hrd.mono hs hok) (ih2 hf)
 |rp hl _ hsp hrd _ ih1 ih2=>exact .rp hl (ih1 (by simp)) hsp (hrd.mono hs hok) (ih2 hf)
 |own _ hr ho _ ih1 ih2=>
  refine .own (ih1 fun b hb=>hf b (by simp[hb])) hr (jb ho fun b hb=>hf b (by simp[hb])) (ih2 fun b hb=>hf b (by simp[hb]))
 |ows _ hr ho _ ih1 ih2=>
  refine .ows (ih1 (by simp)) hr (jb ho fun b hb=>hf b (by simp[hb])) (ih2 fun b hb=>hf b (by simp[hb]))
 |eW _ hr ho _ ih1 ih2=>
  refine .eW (ih1 fun b hb=>hf b (by simp[hb])) hr (jb ho fun b hb=>hf b (by simp[hb])) (ih2 fun b hb=>hf b (by simp[hb]))
 |op hb _ _ ih1 ih2=>
  refine .op (by rw[hf _ (by simp)];exact hb) (ih1 fun b hb=>hf b (by simp[hb])) (ih2 fun b hb=>hf b (by simp[hb]))
 |iu hp hb ho _ ih=>exact .iu hp (by rw[hf _ (by simp)];exact hb) (jb ho fun b hb=>hf b (by simp[hb])) (ih fun b hb=>hf b (by simp[hb]))
theorem Den.length{w:World}{ok:Nat→Prop}{as:List CV}{vs:List Value}{f:List Nat}(h:Den w ok as vs f):as.length=vs.length:=by
 induction h<;>simp_all
theorem jy{w:World}{ty sz n:Nat}{v:Value}{xs:List Value}(h:w.ownsRow 0 ty sz v n xs):v.oneCell'=true:=by
 obtain⟨_,h|⟨g,cap,cur,rfl,_⟩⟩:=h
 ·rw[h.1];rfl
 ·rfl
theorem Den.one{w:World}{ok:Nat→Prop}{as:List CV}{vs:List Value}{f:List Nat}(h:Den w ok as vs f):∀v∈vs,v.oneCell'=true:=by
 induction h with
 |nil=>simp
 |any h1 _ ih=>simp[h1];exact ih
 |val h1 _ ih=>simp[h1];exact ih
 |cb _ ih=>simp[Value.oneCell'];exact ih
 |ro _ _ _ _ _ _ _ _ ih=>simp[Value.oneCell'];exact ih
 |rp _ _ _ _ _ _ ih=>simp[Value.oneCell'];exact ih
 |own _ _ ho _ _ ih=>
  simp only[List.mem_cons,forall_eq_or_imp]
  exact⟨jy ho,ih⟩
 |ows _ _ ho _ _ ih=>
  simp only[List.mem_cons,forall_eq_or_imp]
  exact⟨jy ho,ih⟩
 |eW _ _ ho _ _ ih=>
  simp only[List.mem_cons,forall_eq_or_imp]
  exact⟨jy ho,ih⟩
 |op _ _ _ _ ih=>simp[Value.oneCell'];exact ih
 |iu _ _ _ _ ih=>simp[Value.oneCell'];exact ih
theorem Den.append{w:World}{ok:Nat→Prop}{as bs:List CV}{vs us:List Value}{f g:List Nat}(h:Den w ok as vs f)(k:Den w ok bs us g):Den w ok (as++bs) (vs++us) (f++g):=by
 induction h with
 |nil=>simpa using k
 |any h1 _ ih=>exact .any h1 ih
 |val h1 _ ih=>exact .val h1 ih
 |cb _ ih=>exact .cb ih
 |ro hn hc hm hr hin hrd _ _ ih=>exact .ro hn hc hm hr hin hrd ih
 |rp hl hin hs hrd _ _ ih=>exact .rp hl hin hs hrd ih
 |own hin hr ho _ _ ih=>
  have:=Den.own hin hr ho ih
  simp only[List.cons_append,List.append_assoc] at this⊢
  exact this
 |ows hin hr ho _ _ ih=>
  have:=Den.ows hin hr ho ih
  simp only[List.cons_append,List.append_assoc] at this⊢
  exact this
 |eW hin hr ho _ _ ih=>
  have:=Den.eW hin hr ho ih
  simp only[List.cons_append,List.append_assoc] at this⊢
  exact this
 |op hb hin _ _ ih=>
  have:=Den.op hb hin ih
  simp only[List.cons_append,List.append_assoc] at this⊢
  exact this
 |iu hp hb ho _ ih=>
  have:=Den.iu hp hb ho ih
  simp only[List.cons_append,List.append_assoc] at this⊢
  exact this
theorem Den.split{w:World}{ok:Nat→Prop}:∀{as bs:List CV} {vs:List Value} {f:List Nat},Den w ok (as++bs) vs f→
 ∃us ts g k,vs=us++ts∧f=g++k∧Den w ok as us g∧Den w ok bs ts k
 |[],bs,vs,f,h=>⟨[],vs,[],f,rfl,rfl, .nil,h⟩
 |a::as,bs,vs,f,h=>by
  cases h with
  |any h1 ht=>obtain⟨us,ts,g,k,rfl,rfl,h2,h3⟩:=Den.split ht;exact⟨_::us,ts,g,k,rfl,rfl, .any h1 h2,h3⟩
  |val h1 ht=>obtain⟨us,ts,g,k,rfl,rfl,h2,h3⟩:=Den.split ht;exact⟨_::us,ts,g,k,rfl,rfl, .val h1 h2,h3⟩
  |cb ht=>obtain⟨us,ts,g,k,rfl,rfl,h2,h3⟩:=Den.split ht;exact⟨_::us,ts,g,k,rfl,rfl, .cb h2,h3⟩
  |ro hn hc hm hr hin hrd ht=>obtain⟨us,ts,g,k,rfl,rfl,h2,h3⟩:=Den.split ht;exact⟨_::us,ts,g,k,rfl,rfl, .ro hn hc hm hr hin hrd h2,h3⟩
  |rp hl hin hs hrd ht=>obtain⟨us,ts,g,k,rfl,rfl,h2,h3⟩:=Den.split ht;exact⟨_::us,ts,g,k,rfl,rfl, .rp hl hin hs hrd h2,h3⟩
  |own hin hr ho ht=>
   obtain⟨us,ts,g,k,rfl,rfl,h2,h3⟩:=Den.split ht
   exact⟨_::us,ts,_,k,rfl,by simp only[List.append_assoc], .own hin hr ho h2,h3⟩
  |ows hin hr ho ht=>
   obtain⟨us,ts,g,k,rfl,rfl,h2,h3⟩:=Den.split ht
   exact⟨_::us,ts,_,k,rfl,by simp only[List.append_assoc], .ows hin hr ho h2,h3⟩
  |eW hin hr ho ht=>
   obtain⟨us,ts,g,k,rfl,rfl,h2,h3⟩:=Den.split ht
   exact⟨_::us,ts,_,k,rfl,by simp only[List.append_assoc], .eW hin hr ho h2,h3⟩
  |op hb hin ht=>
   obtain⟨us,ts,g,k,rfl,rfl,h2,h3⟩:=Den.split ht
   exact⟨_::us,ts,_,k,rfl,by simp only[List.append_assoc,List.cons_append], .op hb hin h2,h3⟩
  |iu hp hb ho ht=>
   obtain⟨us,ts,g,k,rfl,rfl,h2,h3⟩:=Den.split ht
   exact⟨_::us,ts,_,k,rfl,by simp only[List.append_assoc,List.cons_append], .iu hp hb ho h2,h3⟩
theorem Den.get{w:World}{ok:Nat→Prop}{as:List CV}{vs:List Value}(h:Den w ok as vs []){j:Nat}{a:CV}{v:Value}(ha:as[j]? =some a)(hv:vs[j]? =some v):Den w ok [a] [v] []:=by
 obtain⟨hlt,rfl⟩:=List.getElem?_eq_some_iff.1 ha
 have e:as=as.take j++([as[j]]++as.drop (j+1)):=by simp
 rw[e] at h
 obtain⟨us,ts,g,k,rfl,hf,h1,h2⟩:=h.split
 obtain⟨us2,ts2,g2,k2,rfl,hf2,h3,h4⟩:=h2.split
 have hl1:=h1.length
 have hl3:=h3.length
 simp at hl1 hl3
 simp at hf
 obtain⟨rfl,rfl⟩:=hf
 simp at hf2
 obtain⟨rfl,rfl⟩:=hf2
 match us2,hl3 with
 |[u],_=>
  have:(us++([u]++ts2))[j]? =some u:=by
    rw[List.getElem?_append_right (by omega)]
    simp[show j-us.length=0 by omega]
  rw[hv] at this
  injection this with this
  subst this
  exact h3
theorem Den.E3{w:World}{ok:Nat→Prop}:∀{as:List CV} {vs:List Value},as.length=vs.length→(∀(j:Nat) a v,as[j]? =some a→vs[j]? =some v→Den w ok [a] [v] [])→Den w ok as vs []
 |[],[],_,_=> .nil
 |a::as,v::vs,hl,h=>by
  have h0:=h 0 a v rfl rfl
  have ht:=Den.E3 (as:=as) (vs:=vs) (by simpa using hl) fun j a v ha hv=>h (j+1) a v ha hv
  simpa using h0.append ht
inductive bG(ρ:RM)(w:World)(ok:Nat→Prop):SV→Value→Prop
 |c {x v} (h:Den w ok [x] [v] []):bG ρ w ok (.c x) v
 |lp {i off b} (h:ρ i=some (.pointer (some ⟨b,0,none⟩))):bG ρ w ok (.lp i off) (.pointer (some ⟨b,off,none⟩))
 |le {i sz idx off b n c} (h:ρ i=some (.slice (some ⟨b,0,none⟩) n c)):bG ρ w ok (.le i sz idx off) (.pointer (some ⟨b,idx*sz+off,none⟩))
 |lw {i a n c} (h:ρ i=some (.slice a n c)):bG ρ w ok (.lw i) (.slice a n c)
 |ls {i sz off len b n c c'} (h:ρ i=some (.slice (some ⟨b,0,none⟩) n c)) (h1:off+len≤n) (h2:len≤c') (h3:c'≤maxLen) (h4:off+c'=c):bG ρ w ok (.ls i sz off len) (.slice (some ⟨b,off*sz,none⟩) len c')
 |mp {i b} (h:ρ i=some (.map (some b))):bG ρ w ok (.mp i) (.map (some b))
theorem bG.one{ρ:RM}{w:World}{ok:Nat→Prop}{a:SV}{v:Value}(h:bG ρ w ok a v):v.oneCell'=true:=by
 cases h<;>first|rfl|skip
 rename_i h
 exact h.one v (by simp)
inductive dZ(ρ:RM)(w:World)(ok:Nat→Prop):SV→Value→Prop
 |c {a v} (h:bG ρ w ok a v):dZ ρ w ok a v
 |a {n cs vs} (hl:cs.length=n) (h:Den w ok cs vs []):dZ ρ w ok (.a n cs) (.agg vs.toArray)
 |m {cs:List SV} {vs:List Value} (hl:cs.length=vs.length) (h:∀(j:Nat) a v,cs[j]? =some a→vs[j]? =some v→bG ρ w ok a v):dZ ρ w ok (.m cs) (.agg vs.toArray)
 |clo {k} {cs:List SV} {vs:List Value} (hl:cs.length=vs.length) (h:∀(j:Nat) a v,cs[j]? =some a→vs[j]? =some v→bG ρ w ok a v):dZ ρ w ok (.clo k cs) (.func (.func k) #[] vs.toArray)
inductive aZ(ρ:RM)(w:World)(ok:Nat→Prop):SV→Value→Prop
 |any {v}:aZ ρ w ok .any v
 |v {a v} (h:dZ ρ w ok a v):aZ ρ w ok a v
 |tup {cs:List SV} {vs:List Value} (hl:cs.length=vs.length) (h:∀(j:Nat) a v,cs[j]? =some a→vs[j]? =some v→dZ ρ w ok a v):aZ ρ w ok (.tup cs) (.tuple vs.toArray)
inductive dd(ρ:RM)(w:World)(ok:Nat→Prop):dE→Option Value→List Nat→Prop
 |dead {v}:dd ρ w ok .dead v []
 |cc {sz ty cs b} {arr:Array Value} (hb:w.heap[b]? =some (.cells arr ty (0,0))) (hl:cs.length=sz) (h:Den w ok cs arr.toList []):dd ρ w ok (.cc sz cs) (some (.pointer (some ⟨b,0,none⟩))) [b]
 |cells {ty} {cs:List SV} {b} {arr:Array Value} (hb:w.heap[b]? =some (.cells arr ty (0,0))) (hl:cs.length=arr.toList.length) (h:∀(j:Nat) a v,cs[j]? =some a→arr.toList[j]? =some v→bG ρ w ok a v):
  dd ρ w ok (.cells cs) (some (.pointer (some ⟨b,0,none⟩))) [b]
 |row {o ty sz rows v xs} (ho:w.ownsRow 0 ty sz v rows.length xs) (hr:∀r∈rows,r.length=sz) (hin:Den w ok rows.flatten xs []) (hv:∀u,o=some u→v=u):dd ρ w ok (.row o ty sz rows) (some v) v.ownBlock.toList
 |aG {o ty sz rows v xs f} (ho:w.ownsRow 0 ty sz v rows.length xs) (hr:∀r∈rows,r.length=sz) (hin:Den w ok rows.flatten xs f) (hv:∀u,o=some u→v=u):dd ρ w ok (.aG o ty sz rows) (some v) (v.ownBlock.toList++f)
 |ny {k} {es:List (Value × SV)} {b clock} {ents:Array MapEntry} (hb:w.heap[b]? =some (.map ents clock)) (hk:∀x∈ents.toList,MapKept.IsKey (yR k) x.key) (hn:(ents.toList.map (·.key)).Nodup)
  (hl:es.length=ents.toList.length) (h:∀(j:Nat) p e,es[j]? =some p→ents.toList[j]? =some e→p.1=e.key∧∀ρ,dZ ρ w ok p.2 e.val):dd ρ w ok (.ny k es) (some (.map (some b))) [b]
 |iu {ty e s b p v} (hp:p= .pointer none∨p= .pointer (some ⟨b,0,none⟩)) (hb:w.heap[b]? =some (.cells #[p,v] ty (0,0))) (ho:w.ownsRow 0 e 1 v s.size (Lib.strCells s)):
  dd ρ w ok (.iu ty e s) (some (.pointer (some ⟨b,0,none⟩))) (b::v.ownBlock.toList)
def Ext(ρ ρ':RM):Prop:=∀i v,ρ i=some v→ρ' i=some v
theorem Ext.refl(ρ:RM):Ext ρ ρ:=fun _ _ h=>h
theorem Ext.trans{a b c:RM}(h:Ext a b)(k:Ext b c):Ext a c:=fun i v hv=>k i v (h i v hv)
section
variable{ρ ρ':RM}{w w':World}{ok ok':Nat→Prop}
theorem bG.mono{a:SV}{v:Value}(h:bG ρ w ok a v)(hs:∀b,ok b→w'.heap[b]? =w.heap[b]?)(hok:∀b,ok b→ok' b)(hρ:Ext ρ ρ'):bG ρ' w' ok' a v:=by
 cases h with
 |c h=>exact .c (h.mono hs hok (by simp))
 |lp h=>exact .lp (hρ _ _ h)
 |le h=>exact .le (hρ _ _ h)
 |lw h=>exact .lw (hρ _ _ h)
 |ls h h1 h2 h3 h4=>exact .ls (hρ _ _ h) h1 h2 h3 h4
 |mp h=>exact .mp (hρ _ _ h)
theorem dZ.mono{a:SV}{v:Value}(h:dZ ρ w ok a v)(hs:∀b,ok b→w'.heap[b]? =w.heap[b]?)(hok:∀b,ok b→ok' b)(hρ:Ext ρ ρ'):dZ ρ' w' ok' a v:=by
 cases h with
 |c h=>exact .c (h.mono hs hok hρ)
 |a hl h=>exact .a hl (h.mono hs hok (by simp))
 |m hl h=>exact .m hl fun j a v ha hv=>(h j a v ha hv).mono hs hok hρ
 |clo hl h=>exact .clo hl fun j a v ha hv=>(h j a v ha hv).mono hs hok hρ
theorem aZ.mono{a:SV}{v:Value}(h:aZ ρ w ok a v)(hs:∀b,ok b→w'.heap[b]? =w.heap[b]?)(hok:∀b,ok b→ok' b)(hρ:Ext ρ ρ'):aZ ρ' w' ok' a v:=by
 cases h with
 |any=>exact .any
 |v h=>exact .v (h.mono hs hok hρ)
 |tup hl h=>exact .tup hl fun j a v ha hv=>(h j a v ha hv).mono hs hok hρ
theorem dd.mono{k:dE}{v:Option Value}{f:List Nat}(h:dd ρ w ok k v f)(hs:∀b,ok b→w'.heap[b]? =w.heap[b]?)(hok:∀b,ok b→ok' b)(hf:∀b∈f,w'.heap[b]? =w.heap[b]?)(hρ:Ext ρ ρ'):dd ρ' w' ok' k v f:=by
 cases h with
 |dead=>exact .dead
 |cc hb hl h=>exact .cc (by rw[hf _ (by simp)];exact hb) hl (h.mono hs hok (by simp))
 |cells hb hl h=>exact .cells (by rw[hf _ (by simp)];exact hb) hl fun j a v ha hv=>(h j a v ha hv).mono hs hok hρ
 |row ho hr hin hv=>exact .row (jb ho fun b hb=>hf b (by simp[hb])) hr (hin.mono hs hok (by simp)) hv
 |aG ho hr hin hv=>exact .aG (jb ho fun b hb=>hf b (by simp[hb])) hr (hin.mono hs hok fun b hb=>hf b (by simp[hb])) hv
 |ny hb hk hn hl h=>exact .ny (by rw[hf _ (by simp)];exact hb) hk hn hl fun j p e hp he=>⟨(h j p e hp he).1,fun ρ=>((h j p e hp he).2 ρ).mono hs hok (Ext.refl _)⟩
 |iu hp hb ho=>exact .iu hp (by rw[hf _ (by simp)];exact hb) (jb ho fun b hb=>hf b (by simp[hb]))
end
structure Cx where
 w0:World
 PG:Nat→Prop
 fin:Nat→Prop
 pv:RM
def aL(Γ:Cx)(F:FM)(w:World)(b:Nat):Prop:=
 b<w.heap.size∧(Γ.PG b∨Γ.fin b∨Γ.w0.heap.size≤b)∧¬∃i,b∈F i
structure Mem(Γ:Cx)(H:HM)(ρ:RM)(F:FM)(w:World):Prop where
 blocks:∀i,dd ρ w (aL Γ F w) (H i) (ρ i) (F i)
 jz:∀i j b,b∈F i→b∈F j→i=j
 nodup:∀i,(F i).Nodup
 lt:∀i,∀b∈F i,b<w.heap.size
 src:∀i,∀b∈F i,Γ.fin b∨Γ.w0.heap.size≤b
 mU:∀b,Γ.PG b→b<Γ.w0.heap.size∧¬Γ.fin b
 frame:∀b,b<Γ.w0.heap.size→¬Γ.fin b→w.heap[b]? =Γ.w0.heap[b]?
 size:Γ.w0.heap.size≤w.heap.size
 os:w.os=Γ.w0.os
 tape:w.tape=Γ.w0.tape
 output:w.output=Γ.w0.output
 yG:∀i v,Γ.pv i=some v→ρ i=some v
structure St(Γ:Cx)(nt:Nat)(T:TM)(H:HM)(ρ:RM)(F:FM)(a:Act)(w:World):Prop where
 mem:Mem Γ H ρ F w
 defers:a.defers=[]
 nt:a.tmps.size=nt
 tmps:∀i,aZ ρ w (aL Γ F w) (T i) (a.tmps.getD i undef)
def gy(ρ:RM)(n:Nat):Prop:=∀i,n≤i→ρ i=none
end Go.KA
