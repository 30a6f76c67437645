/- Part of a proof engine for functions of the given program: what an operation, a loop and a call compute, symbolically. No conditions. -/
import Derived.WalkKit
import Derived.Deep.LoopGhost
import Derived.Deep.MidRow
import Derived.MapKept
import Derived.Lib.AppendStr
namespace Go.KA
theorem aa.{u,v}{A:Type u}{B:Type v}{as:List A}(f:A->B):(as.map f).length=as.length:=List.length_map f
theorem ab(a b:Bool):((a&&b)=true)=(a=true/\b=true):=Bool.and_eq_true a b
theorem ae{n m:Nat}:Nat.beq n m=true->n=m:=Nat.eq_of_beq_eq_true
theorem af.{u}{A:Type u}{as:List A}{i:Nat}{a:A}:(as.set i a).length=as.length:=List.length_set
theorem ag.{u}{A:Type u}{l:List A}{n:Nat}(h:n<l.length):l[n]∈l:=List.getElem_mem h
theorem ah(n:Nat):0≤n:=Nat.zero_le n
theorem ai.{u}{A:Type u}{as bs:List A}:(as++bs).length=as.length+bs.length:=List.length_append
theorem aj.{u}{A:Type u}{p:A->Bool}{l:List A}:l.all p=true↔∀x,x∈l->p x=true:=List.all_eq_true
theorem ao.{u}{A:Type u}{a:A}{s t:List A}:a∈s++t↔a∈s∨a∈t:=List.mem_append
theorem aq.{u}{A:Type u}{i:Nat}{l:List A}:(l.take i).length=min i l.length:=List.length_take
theorem ar.{u}{A:Type u}{i:Nat}{l:List A}(h:l.length≤i):l.take i=l:=List.take_of_length_le h
theorem au.{u,v}{A:Type u}{B:Type v}{l₁ l₂:List A}{f:A->B}:(l₁++l₂).map f=l₁.map f++l₂.map f:=List.map_append
theorem aw(n:Nat):n≤n:=Nat.le_refl n
open Go
inductive CV where
 |any
 |val (x:Value)
 |cb (b:Bool)
 |ro (sz:Nat) (rows:List (List CV))
 |rp (sz:Nat) (cells:List CV)
 |own (ty sz:Nat) (rows:List (List CV))
 |ows (ty sz:Nat) (rows:List (List CV))
 |fQ (v:Value) (ty sz:Nat) (rows:List (List CV))
 |op (cells:List CV)
 |jB (ty e:Nat) (s:ByteArray)
 deriving Inhabited
inductive SV where
 |any
 |c (x:CV)
 |a (n:Nat) (cs:List CV)
 |lp (i off:Nat)
 |le (i sz idx off:Nat)
 |lw (i:Nat)
 |ls (i sz off len:Nat)
 |mp (i:Nat)
 |m (cs:List SV)
 |tup (vs:List SV)
 |clo (k:Nat) (ij:List SV)
 deriving Inhabited
inductive dW where
 |dead
 |cc (sz:Nat) (cs:List CV)
 |cells (cs:List SV)
 |row (o:Option Value) (ty sz:Nat) (rows:List (List CV))
 |aU (o:Option Value) (ty sz:Nat) (rows:List (List CV))
 |pD (k:Option IntKind) (es:List (Value × SV))
 |jB (ty e:Nat) (s:ByteArray)
 deriving Inhabited
def Ca:Option IntKind->TypeDesc
 |some k=> .int k
 |none=> .string
abbrev TM:=Nat->SV
abbrev HM:=Nat->dW
abbrev RM:=Nat->Option Value
abbrev FM:=Nat->List Nat
def Rd(w:World)(ok:Nat->Prop)(a:Option Addr)(xs:List Value):Prop:=
 ∀j x,xs[j]? =some x-> ∃ad,a=some ad/\ad.spot=none/\ok ad.block/\w.cell? (ad.add j)=some x
inductive Den(w:World)(ok:Nat->Prop):List CV->List Value->List Nat->Prop
 |nil:Den w ok [] [] []
 |any {as vs f v} (h1:v.oneCell'=true) (ht:Den w ok as vs f):Den w ok (.any::as) (v::vs) f
 |val {as vs f x} (h1:x.oneCell'=true) (ht:Den w ok as vs f):Den w ok (.val x::as) (x::vs) f
 |cb {as vs f b} (ht:Den w ok as vs f):Den w ok (.cb b::as) (.bool b::vs) f
 |ro {as vs f sz rows xs a n c} (hn:rows.length=n) (hc:n≤c) (hm:c≤maxLen) (hr:∀r∈rows,r.length=sz) (bw:Den w ok rows.flatten xs [])
  (jH:Rd w ok a xs) (ht:Den w ok as vs f):Den w ok (.ro sz rows::as) (.slice a n c::vs) f
 |rp {as vs f sz cells xs ad} (hl:cells.length=sz) (bw:Den w ok cells xs []) (hs:ad.spot=none) (jH:Rd w ok (some ad) xs) (ht:Den w ok as vs f):Den w ok (.rp sz cells::as) (.pointer (some ad)::vs) f
 |own {as vs f ty sz rows xs v g} (bw:Den w ok rows.flatten xs g) (hr:∀r∈rows,r.length=sz) (ho:w.ownsRow 0 ty sz v rows.length xs)
  (ht:Den w ok as vs f):Den w ok (.own ty sz rows::as) (v::vs) (v.ownBlock.toList++g++f)
 |ows {as vs f ty sz rows xs v} (bw:Den w ok rows.flatten xs []) (hr:∀r∈rows,r.length=sz) (ho:w.ownsRow 0 ty sz v rows.length xs)
  (ht:Den w ok as vs f):Den w ok (.ows ty sz rows::as) (v::vs) (v.ownBlock.toList++f)
 |fQ {as vs f ty sz rows xs v g} (bw:Den w ok rows.flatten xs g) (hr:∀r∈rows,r.length=sz) (ho:w.ownsRow 0 ty sz v rows.length xs)
  (ht:Den w ok as vs f):Den w ok (.fQ v ty sz rows::as) (v::vs) (v.ownBlock.toList++g++f)
 |op {as vs f ty cells b g} {arr:Array Value} (hb:w.heap[b]? =some (.cells arr ty (0,0))) (bw:Den w ok cells arr.toList g)
  (ht:Den w ok as vs f):Den w ok (.op cells::as) (.pointer (some ⟨b,0,none⟩)::vs) (b::g++f)
 |jB {as vs f ty e s b p v} (hp:p= .pointer none\/p= .pointer (some ⟨b,0,none⟩)) (hb:w.heap[b]? =some (.cells #[p,v] ty (0,0))) (ho:w.ownsRow 0 e 1 v s.size (Lib.strCells s))
  (ht:Den w ok as vs f):Den w ok (.jB ty e s::as) (.pointer (some ⟨b,0,none⟩)::vs) (b::v.ownBlock.toList++f)
theorem NL{w w':World}{a:Addr}(h:w'.heap[a.block]? =w.heap[a.block]?):w'.cell? a=w.cell? a:=by simp[World.cell?,h]
theorem xg(a:Addr)(n:Nat):(a.add n).block=a.block:=by unfold Addr.add;split<;>rfl
theorem add_add(a:Addr)(i j:Nat):(a.add i).add j=a.add (i+j):=by
 unfold Addr.add;by_cases hi:i=0<;>by_cases hj:j=0<;>simp[hi,hj,Nat.add_assoc]
theorem rm(a:Addr)(n:Nat)(h:a.spot=none):(a.add n).spot=none:=by unfold Addr.add;split<;>simp[h]
theorem eW(b o n:Nat):(⟨b,o,none⟩:Addr).add n=⟨b,o+n,none⟩:=by unfold Addr.add;split<;>simp_all
theorem Rd.mono{w w':World}{ok ok':Nat->Prop}{a:Option Addr}{xs:List Value}(h:Rd w ok a xs)
 (hs:∀b,ok b->w'.heap[b]? =w.heap[b]?)(cH:∀b,ok b->ok' b):Rd w' ok' a xs:=by
 intro j x hx;obtain⟨ad,rfl,Qf,hb,hc⟩:=h j x hx;exact⟨ad,rfl,Qf,cH _ hb,by rw[NL (w:=w) (by rw[xg];exact hs _ hb)];exact hc⟩
theorem kj{w w':World}{ty sz n:Nat}{v:Value}{xs:List Value}(h:w.ownsRow 0 ty sz v n xs)
 (hs:∀b,v.ownBlock=some b->w'.heap[b]? =w.heap[b]?):w'.ownsRow 0 ty sz v n xs:=by
 obtain⟨h1,h2⟩:=h;refine⟨h1,?_⟩;rcases h2 with h2|⟨g,cap,cur,rfl,hb,hh,r⟩
 ·exact .inl h2
 ·exact .inr ⟨g,cap,cur,rfl,hb,by rw[hs g rfl];exact hh,r⟩
theorem Den.mono{w w':World}{ok ok':Nat->Prop}{as:List CV}{vs:List Value}{f:List Nat}(h:Den w ok as vs f)
 (hs:∀b,ok b->w'.heap[b]? =w.heap[b]?)(cH:∀b,ok b->ok' b)(hf:∀b∈f,w'.heap[b]? =w.heap[b]?):Den w' ok' as vs f:=by
 induction h with
 |nil=>exact .nil
 |any h1 _ ih=>exact .any h1 (ih hf)
 |val h1 _ ih=>exact .val h1 (ih hf)
 |cb _ ih=>exact .cb (ih hf)
 |ro hn hc hm hr _ jH _ vr ih2=>exact .ro hn hc hm hr (vr (by simp)) (jH.mono hs cH) (ih2 hf)
 |rp hl _ Qf jH _ vr ih2=>exact .rp hl (vr (by simp)) Qf (jH.mono hs cH) (ih2 hf)
 |own _ hr ho _ vr ih2=>
  refine .own (vr fun b hb=>hf b (by simp[hb])) hr (kj ho fun b hb=>hf b (by simp[hb])) (ih2 fun b hb=>hf b (by simp[hb]))
 |ows _ hr ho _ vr ih2=>
  refine .ows (vr (by simp)) hr (kj ho fun b hb=>hf b (by simp[hb])) (ih2 fun b hb=>hf b (by simp[hb]))
 |fQ _ hr ho _ vr ih2=>
  refine .fQ (vr fun b hb=>hf b (by simp[hb])) hr (kj ho fun b hb=>hf b (by simp[hb])) (ih2 fun b hb=>hf b (by simp[hb]))
 |op hb _ _ vr ih2=>
  refine .op (by rw[hf _ (by simp)];exact hb) (vr fun b hb=>hf b (by simp[hb])) (ih2 fun b hb=>hf b (by simp[hb]))
 |jB hp hb ho _ ih=>exact .jB hp (by rw[hf _ (by simp)];exact hb) (kj ho fun b hb=>hf b (by simp[hb])) (ih fun b hb=>hf b (by simp[hb]))
theorem Den.length{w:World}{ok:Nat->Prop}{as:List CV}{vs:List Value}{f:List Nat}(h:Den w ok as vs f):as.length=vs.length:=by
 induction h<;>simp_all
theorem kP{w:World}{ty sz n:Nat}{v:Value}{xs:List Value}(h:w.ownsRow 0 ty sz v n xs):v.oneCell'=true:=by
 obtain⟨_,h|⟨g,cap,cur,rfl,_⟩⟩:=h
 ·rw[h.1];rfl
 ·rfl
theorem Den.one{w:World}{ok:Nat->Prop}{as:List CV}{vs:List Value}{f:List Nat}(h:Den w ok as vs f):∀v∈vs,v.oneCell'=true:=by
 induction h with
 |nil=>simp
 |any h1 _ ih=>simp[h1];exact ih
 |val h1 _ ih=>simp[h1];exact ih
 |cb _ ih=>simp[Value.oneCell'];exact ih
 |ro _ _ _ _ _ _ _ _ ih=>simp[Value.oneCell'];exact ih
 |rp _ _ _ _ _ _ ih=>simp[Value.oneCell'];exact ih
 |own _ _ ho _ _ ih=>
  simp only[List.mem_cons,forall_eq_or_imp];exact⟨kP ho,ih⟩
 |ows _ _ ho _ _ ih=>
  simp only[List.mem_cons,forall_eq_or_imp];exact⟨kP ho,ih⟩
 |fQ _ _ ho _ _ ih=>
  simp only[List.mem_cons,forall_eq_or_imp];exact⟨kP ho,ih⟩
 |op _ _ _ _ ih=>simp[Value.oneCell'];exact ih
 |jB _ _ _ _ ih=>simp[Value.oneCell'];exact ih
theorem Den.append{w:World}{ok:Nat->Prop}{as bs:List CV}{vs us:List Value}{f g:List Nat}(h:Den w ok as vs f)(k:Den w ok bs us g):Den w ok (as++bs) (vs++us) (f++g):=by
 induction h with
 |nil=>simpa using k
 |any h1 _ ih=>exact .any h1 ih
 |val h1 _ ih=>exact .val h1 ih
 |cb _ ih=>exact .cb ih
 |ro hn hc hm hr bw jH _ _ ih=>exact .ro hn hc hm hr bw jH ih
 |rp hl bw hs jH _ _ ih=>exact .rp hl bw hs jH ih
 |own bw hr ho _ _ ih=>
  have:=Den.own bw hr ho ih;simp only[List.cons_append,List.append_assoc]at this⊢;exact this
 |ows bw hr ho _ _ ih=>
  have:=Den.ows bw hr ho ih;simp only[List.cons_append,List.append_assoc]at this⊢;exact this
 |fQ bw hr ho _ _ ih=>
  have:=Den.fQ bw hr ho ih;simp only[List.cons_append,List.append_assoc]at this⊢;exact this
 |op hb bw _ _ ih=>
  have:=Den.op hb bw ih;simp only[List.cons_append,List.append_assoc]at this⊢;exact this
 |jB hp hb ho _ ih=>
  have:=Den.jB hp hb ho ih;simp only[List.cons_append,List.append_assoc]at this⊢;exact this
theorem Den.split{w:World}{ok:Nat->Prop}:∀{as bs:List CV} {vs:List Value} {f:List Nat},Den w ok (as++bs) vs f->
 ∃us ts g k,vs=us++ts/\f=g++k/\Den w ok as us g/\Den w ok bs ts k
 |[],bs,vs,f,h=>⟨[],vs,[],f,rfl,rfl, .nil,h⟩
 |a::as,bs,vs,f,h=>by
  cases h with
  |any h1 ht=>obtain⟨us,ts,g,k,rfl,rfl,h2,h3⟩:=Den.split ht;exact⟨_::us,ts,g,k,rfl,rfl, .any h1 h2,h3⟩
  |val h1 ht=>obtain⟨us,ts,g,k,rfl,rfl,h2,h3⟩:=Den.split ht;exact⟨_::us,ts,g,k,rfl,rfl, .val h1 h2,h3⟩
  |cb ht=>obtain⟨us,ts,g,k,rfl,rfl,h2,h3⟩:=Den.split ht;exact⟨_::us,ts,g,k,rfl,rfl, .cb h2,h3⟩
  |ro hn hc hm hr bw jH ht=>obtain⟨us,ts,g,k,rfl,rfl,h2,h3⟩:=Den.split ht;exact⟨_::us,ts,g,k,rfl,rfl, .ro hn hc hm hr bw jH h2,h3⟩
  |rp hl bw hs jH ht=>obtain⟨us,ts,g,k,rfl,rfl,h2,h3⟩:=Den.split ht;exact⟨_::us,ts,g,k,rfl,rfl, .rp hl bw hs jH h2,h3⟩
  |own bw hr ho ht=>
   obtain⟨us,ts,g,k,rfl,rfl,h2,h3⟩:=Den.split ht;exact⟨_::us,ts,_,k,rfl,by simp only[List.append_assoc], .own bw hr ho h2,h3⟩
  |ows bw hr ho ht=>
   obtain⟨us,ts,g,k,rfl,rfl,h2,h3⟩:=Den.split ht;exact⟨_::us,ts,_,k,rfl,by simp only[List.append_assoc], .ows bw hr ho h2,h3⟩
  |fQ bw hr ho ht=>
   obtain⟨us,ts,g,k,rfl,rfl,h2,h3⟩:=Den.split ht;exact⟨_::us,ts,_,k,rfl,by simp only[List.append_assoc], .fQ bw hr ho h2,h3⟩
  |op hb bw ht=>
   obtain⟨us,ts,g,k,rfl,rfl,h2,h3⟩:=Den.split ht;exact⟨_::us,ts,_,k,rfl,by simp only[List.append_assoc,List.cons_append], .op hb bw h2,h3⟩
  |jB hp hb ho ht=>
   obtain⟨us,ts,g,k,rfl,rfl,h2,h3⟩:=Den.split ht;exact⟨_::us,ts,_,k,rfl,by simp only[List.append_assoc,List.cons_append], .jB hp hb ho h2,h3⟩
theorem Den.get{w:World}{ok:Nat->Prop}{as:List CV}{vs:List Value}(h:Den w ok as vs []){j:Nat}{a:CV}{v:Value}(ha:as[j]? =some a)(hv:vs[j]? =some v):Den w ok [a] [v] []:=by
 obtain⟨eu,rfl⟩:=List.getElem?_eq_some_iff.1 ha;have e:as=as.take j++([as[j]]++as.drop (j+1)):=by simp
 rw[e]at h;obtain⟨us,ts,g,k,rfl,hf,h1,h2⟩:=h.split;obtain⟨us2,VA,g2,k2,rfl,Ot,h3,h4⟩:=h2.split;have RD:=h1.length;have hl3:=h3.length;simp at RD hl3;simp at hf;obtain⟨rfl,rfl⟩:=hf;simp at Ot;obtain⟨rfl,rfl⟩:=Ot
 match us2,hl3 with
 |[u],_=>
  have:(us++([u]++VA))[j]? =some u:=by
    rw[List.getElem?_append_right (by omega)];simp[show j-us.length=0 by omega]
  rw[hv]at this;injection this with this
  subst this;exact h3
theorem Den.JV{w:World}{ok:Nat->Prop}:∀{as:List CV} {vs:List Value},as.length=vs.length->(∀(j:Nat) a v,as[j]? =some a->vs[j]? =some v->Den w ok [a] [v] [])->Den w ok as vs []
 |[],[],_,_=> .nil
 |a::as,v::vs,hl,h=>by
  have h0:=h 0 a v rfl rfl;have ht:=Den.JV (as:=as) (vs:=vs) (by simpa using hl) fun j a v ha hv=>h (j+1) a v ha hv
  simpa using h0.append ht
inductive b9(ρ:RM)(w:World)(ok:Nat->Prop):SV->Value->Prop
 |c {x v} (h:Den w ok [x] [v] []):b9 ρ w ok (.c x) v
 |lp {i off b} (h:ρ i=some (.pointer (some ⟨b,0,none⟩))):b9 ρ w ok (.lp i off) (.pointer (some ⟨b,off,none⟩))
 |le {i sz idx off b n c} (h:ρ i=some (.slice (some ⟨b,0,none⟩) n c)):b9 ρ w ok (.le i sz idx off) (.pointer (some ⟨b,idx*sz+off,none⟩))
 |lw {i a n c} (h:ρ i=some (.slice a n c)):b9 ρ w ok (.lw i) (.slice a n c)
 |ls {i sz off len b n c c'} (h:ρ i=some (.slice (some ⟨b,0,none⟩) n c)) (h1:off+len≤n) (h2:len≤c') (h3:c'≤maxLen) (h4:off+c'=c):b9 ρ w ok (.ls i sz off len) (.slice (some ⟨b,off*sz,none⟩) len c')
 |mp {i b} (h:ρ i=some (.map (some b))):b9 ρ w ok (.mp i) (.map (some b))
theorem b9.one{ρ:RM}{w:World}{ok:Nat->Prop}{a:SV}{v:Value}(h:b9 ρ w ok a v):v.oneCell'=true:=by
 cases h<;>first|rfl|skip
 rename_i h;exact h.one v (by simp)
inductive eK(ρ:RM)(w:World)(ok:Nat->Prop):SV->Value->Prop
 |c {a v} (h:b9 ρ w ok a v):eK ρ w ok a v
 |a {n cs vs} (hl:cs.length=n) (h:Den w ok cs vs []):eK ρ w ok (.a n cs) (.agg vs.toArray)
 |m {cs:List SV} {vs:List Value} (hl:cs.length=vs.length) (h:∀(j:Nat) a v,cs[j]? =some a->vs[j]? =some v->b9 ρ w ok a v):eK ρ w ok (.m cs) (.agg vs.toArray)
 |clo {k} {cs:List SV} {vs:List Value} (hl:cs.length=vs.length) (h:∀(j:Nat) a v,cs[j]? =some a->vs[j]? =some v->b9 ρ w ok a v):eK ρ w ok (.clo k cs) (.func (.func k) #[] vs.toArray)
inductive bJ(ρ:RM)(w:World)(ok:Nat->Prop):SV->Value->Prop
 |any {v}:bJ ρ w ok .any v
 |v {a v} (h:eK ρ w ok a v):bJ ρ w ok a v
 |tup {cs:List SV} {vs:List Value} (hl:cs.length=vs.length) (h:∀(j:Nat) a v,cs[j]? =some a->vs[j]? =some v->eK ρ w ok a v):bJ ρ w ok (.tup cs) (.tuple vs.toArray)
inductive dH(ρ:RM)(w:World)(ok:Nat->Prop):dW->Option Value->List Nat->Prop
 |dead {v}:dH ρ w ok .dead v []
 |cc {sz ty cs b} {arr:Array Value} (hb:w.heap[b]? =some (.cells arr ty (0,0))) (hl:cs.length=sz) (h:Den w ok cs arr.toList []):dH ρ w ok (.cc sz cs) (some (.pointer (some ⟨b,0,none⟩))) [b]
 |cells {ty} {cs:List SV} {b} {arr:Array Value} (hb:w.heap[b]? =some (.cells arr ty (0,0))) (hl:cs.length=arr.toList.length) (h:∀(j:Nat) a v,cs[j]? =some a->arr.toList[j]? =some v->b9 ρ w ok a v):
  dH ρ w ok (.cells cs) (some (.pointer (some ⟨b,0,none⟩))) [b]
 |row {o ty sz rows v xs} (ho:w.ownsRow 0 ty sz v rows.length xs) (hr:∀r∈rows,r.length=sz) (bw:Den w ok rows.flatten xs []) (hv:∀u,o=some u->v=u):dH ρ w ok (.row o ty sz rows) (some v) v.ownBlock.toList
 |aU {o ty sz rows v xs f} (ho:w.ownsRow 0 ty sz v rows.length xs) (hr:∀r∈rows,r.length=sz) (bw:Den w ok rows.flatten xs f) (hv:∀u,o=some u->v=u):dH ρ w ok (.aU o ty sz rows) (some v) (v.ownBlock.toList++f)
 |pD {k} {es:List (Value × SV)} {b clock} {ents:Array MapEntry} (hb:w.heap[b]? =some (.map ents clock)) (hk:∀x∈ents.toList,MapKept.IsKey (Ca k) x.key) (hn:(ents.toList.map (·.key)).Nodup)
  (hl:es.length=ents.toList.length) (h:∀(j:Nat) p e,es[j]? =some p->ents.toList[j]? =some e->p.1=e.key/\ ∀ρ,eK ρ w ok p.2 e.val):dH ρ w ok (.pD k es) (some (.map (some b))) [b]
 |jB {ty e s b p v} (hp:p= .pointer none\/p= .pointer (some ⟨b,0,none⟩)) (hb:w.heap[b]? =some (.cells #[p,v] ty (0,0))) (ho:w.ownsRow 0 e 1 v s.size (Lib.strCells s)):
  dH ρ w ok (.jB ty e s) (some (.pointer (some ⟨b,0,none⟩))) (b::v.ownBlock.toList)
def Ext(ρ ρ':RM):Prop:=∀i v,ρ i=some v->ρ' i=some v
theorem Ext.refl(ρ:RM):Ext ρ ρ:=fun _ _ h=>h
theorem Ext.trans{a b c:RM}(h:Ext a b)(k:Ext b c):Ext a c:=fun i v hv=>k i v (h i v hv)
section
variable{ρ ρ':RM}{w w':World}{ok ok':Nat->Prop}
theorem b9.mono{a:SV}{v:Value}(h:b9 ρ w ok a v)(hs:∀b,ok b->w'.heap[b]? =w.heap[b]?)(cH:∀b,ok b->ok' b)(hρ:Ext ρ ρ'):b9 ρ' w' ok' a v:=by
 cases h with
 |c h=>exact .c (h.mono hs cH (by simp))
 |lp h=>exact .lp (hρ _ _ h)
 |le h=>exact .le (hρ _ _ h)
 |lw h=>exact .lw (hρ _ _ h)
 |ls h h1 h2 h3 h4=>exact .ls (hρ _ _ h) h1 h2 h3 h4
 |mp h=>exact .mp (hρ _ _ h)
theorem eK.mono{a:SV}{v:Value}(h:eK ρ w ok a v)(hs:∀b,ok b->w'.heap[b]? =w.heap[b]?)(cH:∀b,ok b->ok' b)(hρ:Ext ρ ρ'):eK ρ' w' ok' a v:=by
 cases h with
 |c h=>exact .c (h.mono hs cH hρ)
 |a hl h=>exact .a hl (h.mono hs cH (by simp))
 |m hl h=>exact .m hl fun j a v ha hv=>(h j a v ha hv).mono hs cH hρ
 |clo hl h=>exact .clo hl fun j a v ha hv=>(h j a v ha hv).mono hs cH hρ
theorem bJ.mono{a:SV}{v:Value}(h:bJ ρ w ok a v)(hs:∀b,ok b->w'.heap[b]? =w.heap[b]?)(cH:∀b,ok b->ok' b)(hρ:Ext ρ ρ'):bJ ρ' w' ok' a v:=by
 cases h with
 |any=>exact .any
 |v h=>exact .v (h.mono hs cH hρ)
 |tup hl h=>exact .tup hl fun j a v ha hv=>(h j a v ha hv).mono hs cH hρ
theorem dH.mono{k:dW}{v:Option Value}{f:List Nat}(h:dH ρ w ok k v f)(hs:∀b,ok b->w'.heap[b]? =w.heap[b]?)(cH:∀b,ok b->ok' b)(hf:∀b∈f,w'.heap[b]? =w.heap[b]?)(hρ:Ext ρ ρ'):dH ρ' w' ok' k v f:=by
 cases h with
 |dead=>exact .dead
 |cc hb hl h=>exact .cc (by rw[hf _ (by simp)];exact hb) hl (h.mono hs cH (by simp))
 |cells hb hl h=>exact .cells (by rw[hf _ (by simp)];exact hb) hl fun j a v ha hv=>(h j a v ha hv).mono hs cH hρ
 |row ho hr bw hv=>exact .row (kj ho fun b hb=>hf b (by simp[hb])) hr (bw.mono hs cH (by simp)) hv
 |aU ho hr bw hv=>exact .aU (kj ho fun b hb=>hf b (by simp[hb])) hr (bw.mono hs cH fun b hb=>hf b (by simp[hb])) hv
 |pD hb hk hn hl h=>exact .pD (by rw[hf _ (by simp)];exact hb) hk hn hl fun j p e hp he=>⟨(h j p e hp he).1,fun ρ=>((h j p e hp he).2 ρ).mono hs cH (Ext.refl _)⟩
 |jB hp hb ho=>exact .jB hp (by rw[hf _ (by simp)];exact hb) (kj ho fun b hb=>hf b (by simp[hb]))
end
structure Cx where
 w0:World
 YX:Nat->Prop
 fin:Nat->Prop
 pv:RM
def bg(Γ:Cx)(F:FM)(w:World)(b:Nat):Prop:=
 b<w.heap.size/\(Γ.YX b\/Γ.fin b\/Γ.w0.heap.size≤b)/\ ¬∃i,b∈F i
structure Mem(Γ:Cx)(H:HM)(ρ:RM)(F:FM)(w:World):Prop where
 blocks:∀i,dH ρ w (bg Γ F w) (H i) (ρ i) (F i)
 kO:∀i j b,b∈F i->b∈F j->i=j
 nodup:∀i,(F i).Nodup
 lt:∀i,∀b∈F i,b<w.heap.size
 src:∀i,∀b∈F i,Γ.fin b\/Γ.w0.heap.size≤b
 oN:∀b,Γ.YX b->b<Γ.w0.heap.size/\ ¬Γ.fin b
 frame:∀b,b<Γ.w0.heap.size-> ¬Γ.fin b->w.heap[b]? =Γ.w0.heap[b]?
 size:Γ.w0.heap.size≤w.heap.size
 os:w.os=Γ.w0.os
 tape:w.tape=Γ.w0.tape
 output:w.output=Γ.w0.output
 CR:∀i v,Γ.pv i=some v->ρ i=some v
structure St(Γ:Cx)(nt:Nat)(T:TM)(H:HM)(ρ:RM)(F:FM)(a:Act)(w:World):Prop where
 mem:Mem Γ H ρ F w
 defers:a.defers=[]
 nt:a.tmps.size=nt
 tmps:∀i,bJ ρ w (bg Γ F w) (T i) (a.tmps.getD i undef)
def iI(ρ:RM)(n:Nat):Prop:=∀i,n≤i->ρ i=none
end Go.KA
