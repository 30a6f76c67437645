/- Part of a proof engine for functions of the given program: what an operation, a loop and a call compute, symbolically. No conditions. -/
import Derived.Test.YtgbggaddpbghfaaGreatEngX
namespace Go.KA
open Go Go.RowKit
inductive dj:List CV→List CV→Prop
 |nil:dj [] []
 |same {c cs cs'} (h:dj cs cs'):dj (c::cs) (c::cs')
 |ro {c cs cs'} (h:dj cs cs'):dj (c::cs) (l5 c::cs')
 |ows {ty sz rows cs cs'} (h:dj cs cs'):dj (.own ty sz rows::cs) (.ows ty sz (cW rows)::cs')
 |own {ty sz rows rows' cs cs'} (hl:rows'.length=rows.length) (hr:(∀r∈rows,r.length=sz)→∀r∈rows',r.length=sz) (hi:dj rows.flatten rows'.flatten) (h:dj cs cs'):dj (.own ty sz rows::cs) (.own ty sz rows'::cs')
theorem dj.len{cs cs':List CV}(h:dj cs cs'):cs'.length=cs.length:=by
 induction h<;>simp_all
theorem dj.append{as as' bs bs':List CV}(h:dj as as')(k:dj bs bs'):dj (as++bs) (as'++bs'):=by
 induction h with
 |nil=>exact k
 |same _ ih=>exact .same ih
 |ro _ ih=>exact .ro ih
 |ows _ ih=>exact .ows ih
 |own hl hr hi _ _ ih=>exact .own hl hr hi ih
theorem dj.refl:∀cs:List CV,dj cs cs
 |[]=> .nil
 |_::cs=> .same (dj.refl cs)
theorem dj.nr:∀cs:List CV,dj cs (nr cs)
 |[]=> .nil
 |_::cs=> .ro (dj.nr cs)
theorem dj.flat{α:Type}{f g:α→List CV}(h:∀x,dj (f x) (g x)):∀l:List α,dj (l.map f).flatten (l.map g).flatten
 |[]=> .nil
 |x::xs=>(h x).append (dj.flat h xs)
theorem dj.rows{α:Type}{f g:α→List CV}{ty sz:Nat}{l:List α}{cs cs':List CV}(hin:∀x,dj (f x) (g x))(h:dj cs cs'):dj (.own ty sz (l.map f)::cs) (.own ty sz (l.map g)::cs'):=by
 refine .own (by simp) (fun hr r hm=> ?_) (dj.flat hin l) h
 obtain⟨x,hx,rfl⟩:=List.mem_map.1 hm
 rw[(hin x).len]
 exact hr _ (List.mem_map.2 ⟨x,hx,rfl⟩)
theorem dj.den{w:World}{ok:Nat→Prop}{cs cs':List CV}(hs:dj cs cs'):∀{vs:List Value} {f:List Nat},Den w ok cs vs f→f.Nodup→
 ∃f',f'.Sublist f∧∀ok':Nat→Prop,(∀b,ok b→ok' b)→(∀b∈f,b∉f'→ok' b)→Den w ok' cs' vs f':=by
 induction hs with
 |nil=>
  intro vs f h _
  cases h
  exact⟨[],List.Sublist.refl _,fun _ _ _=> .nil⟩
 | @same c cs cs' hs ih=>
   intro vs f h hn
   obtain⟨us,ts,g,k,rfl,rfl,h1,h2⟩:=Den.split (as:=[c]) h
   rw[List.nodup_append] at hn
   obtain⟨k',hk,hd⟩:=ih h2 hn.2.1
   refine⟨g++k',(List.Sublist.refl g).append hk,fun ok' hok hin=> ?_⟩
   refine(h1.mono (fun _ _=>rfl) hok fun _ _=>rfl).append (hd ok' hok fun b hb hb'=>hin b (by simp[hb]) fun hm=> ?_)
   rcases List.mem_append.1 hm with hm|hm
   ·exact hn.2.2 b hm b hb rfl
   ·exact hb' hm
 | @ro c cs cs' hs ih=>
   intro vs f h hn
   obtain⟨us,ts,g,k,rfl,rfl,h1,h2⟩:=Den.split (as:=[c]) h
   rw[List.nodup_append] at hn
   obtain⟨k',hk,hd⟩:=ih h2 hn.2.1
   refine⟨k',hk.trans (List.sublist_append_right g k),fun ok' hok hin=> ?_⟩
   have e:=(jX h1 hok fun b hb=>hin b (by simp[hb]) fun hm=>hn.2.2 b hb b (hk.subset hm) rfl).append (hd ok' hok fun b hb hb'=>hin b (by simp[hb]) hb')
   simpa using e
 | @ows ty sz rows cs cs' hs ih=>
   intro vs f h hn
   cases h with
   | @own as vs f ty sz rows xs v g hin hr ho ht=>
     rw[List.nodup_append,List.nodup_append] at hn
     obtain⟨k',hk,hd⟩:=ih ht hn.2.1
     refine⟨v.ownBlock.toList++k', ?_,fun ok' hok hok2=> ?_⟩
     ·exact((List.sublist_append_left _ g)).append hk
     ·have hk2:∀b∈g,ok' b:=fun b hb=>hok2 b (by simp[hb]) fun hm=>by
       rcases List.mem_append.1 hm with hm|hm
       ·exact hn.1.2.2 b hm b hb rfl
       ·exact hn.2.2 b (by simp[hb]) b (hk.subset hm) rfl
      have h1:=jX hin hok hk2
      rw[←kT] at h1
      have hlen:(cW rows).length=rows.length:=by rw[dO];simp
      have hr':∀r∈cW rows,r.length=sz:=by
       rw[dO]
       intro r hr0
       obtain⟨r0,h0,rfl⟩:=List.mem_map.1 hr0
       simpa using hr r0 h0
      refine .ows h1 hr' (by rw[hlen];exact ho) (hd ok' hok fun b hb hb'=>hok2 b (by simp[hb]) fun hm=> ?_)
      rcases List.mem_append.1 hm with hm|hm
      ·exact hn.2.2 b (by simp[hm]) b hb rfl
      ·exact hb' hm
 | @own ty sz rows rows' cs cs' hl hr' hi hs ihi ih=>
   intro vs f h hn
   cases h with
   | @own as vs f ty sz rows xs v g hin hr ho ht=>
     rw[List.nodup_append,List.nodup_append] at hn
     obtain⟨g',hg,hd1⟩:=ihi hin hn.1.2.1
     obtain⟨k',hk,hd⟩:=ih ht hn.2.1
     refine⟨v.ownBlock.toList++g'++k',((List.Sublist.refl _).append hg).append hk,fun ok' hok hok2=> ?_⟩
     refine .own (hd1 ok' hok fun b hb hb'=>hok2 b (by simp[hb]) fun hm=> ?_) (hr' hr) (by rw[hl];exact ho) (hd ok' hok fun b hb hb'=>hok2 b (by simp[hb]) fun hm=> ?_)
     ·rcases List.mem_append.1 hm with hm|hm
      ·rcases List.mem_append.1 hm with hm|hm
       ·exact hn.1.2.2 b hm b hb rfl
       ·exact hb' hm
      ·exact hn.2.2 b (by simp[hb]) b (hk.subset hm) rfl
     ·rcases List.mem_append.1 hm with hm|hm
      ·refine hn.2.2 b ?_ b hb rfl
       rcases List.mem_append.1 hm with hm|hm
       ·simp[hm]
       ·simp[hg.subset hm]
      ·exact hb' hm
inductive uP:SV→SV→Prop
 |same {s}:uP s s
 |a {n cs cs'} (h:dj cs cs'):uP (.a n cs) (.a n cs')
 |c {x x'} (h:dj [x] [x']):uP (.c x) (.c x')
inductive ue:List SV→List SV→Prop
 |nil:ue [] []
 |cons {s s' ss ss'} (h:uP s s') (t:ue ss ss'):ue (s::ss) (s'::ss')
inductive wV:SV→SV→Prop
 |v {s s'} (h:uP s s'):wV s s'
 |tup {ss ss'} (h:ue ss ss'):wV (.tup ss) (.tup ss')
section
variable{w:World}{ok:Nat→Prop}
theorem jn.tT{ok':Nat→Prop}{s:SV}{v:Value}{f:List Nat}(h:jn w ok s v f)(hok:∀b,ok b→ok' b):jn w ok' s v f:=h.mono (fun _ _=>rfl) hok fun _ _=>rfl
theorem uP.den{s s':SV}(hs:uP s s'){v:Value}{f:List Nat}(h:jn w ok s v f)(hn:f.Nodup):
 ∃f',f'.Sublist f∧∀ok':Nat→Prop,(∀b,ok b→ok' b)→(∀b∈f,b∉f'→ok' b)→jn w ok' s' v f':=by
 cases hs with
 |same=>exact⟨f,List.Sublist.refl _,fun ok' hok _=>h.tT hok⟩
 | @a n cs cs' hc=>
   have key:∀{vs:List Value},cs.length=n→Den w ok cs vs f→∃f',f'.Sublist f∧∀ok':Nat→Prop,(∀b,ok b→ok' b)→(∀b∈f,b∉f'→ok' b)→jn w ok' (.a n cs') (.agg vs.toArray) f':=by
    intro vs hl hd
    obtain⟨f',h1,h2⟩:=hc.den hd hn
    exact⟨f',h1,fun ok' hok hin=> .a (by rw[hc.len];exact hl) (h2 ok' hok hin)⟩
   cases h with
   |v h=>
    cases h fun _=>none with
    |c h=>cases h
    |a hl hd=>exact key hl hd
   |a hl hd=>exact key hl hd
 | @c x x' hc=>
   have key:Den w ok [x] [v] f→∃f',f'.Sublist f∧∀ok':Nat→Prop,(∀b,ok b→ok' b)→(∀b∈f,b∉f'→ok' b)→jn w ok' (.c x') v f':=by
    intro hd
    obtain⟨f',h1,h2⟩:=hc.den hd hn
    exact⟨f',h1,fun ok' hok hin=> .o (h2 ok' hok hin)⟩
   cases h with
   |v h=>
    cases h fun _=>none with
    |c h=>cases h with|c hd=>exact key hd
   |o hd=>exact key hd
theorem ue.den{ss ss':List SV}(hs:ue ss ss'):∀{vs:List Value} {f:List Nat},OL w ok ss vs f→f.Nodup→
 ∃f',f'.Sublist f∧∀ok':Nat→Prop,(∀b,ok b→ok' b)→(∀b∈f,b∉f'→ok' b)→OL w ok' ss' vs f':=by
 induction hs with
 |nil=>
  intro vs f h _
  cases h
  exact⟨[],List.Sublist.refl _,fun _ _ _=> .nil⟩
 |cons h0 _ ih=>
  intro vs f h hn
  cases h with
  | @cons _ v g _ vs k h1 h2=>
    rw[List.nodup_append] at hn
    obtain⟨g',hg,hd1⟩:=h0.den h1 hn.1
    obtain⟨k',hk,hd⟩:=ih h2 hn.2.1
    refine⟨g'++k',hg.append hk,fun ok' hok hin=> .cons (hd1 ok' hok fun b hb hb'=>hin b (by simp[hb]) fun hm=> ?_) (hd ok' hok fun b hb hb'=>hin b (by simp[hb]) fun hm=> ?_)⟩
    ·rcases List.mem_append.1 hm with hm|hm
     ·exact hb' hm
     ·exact hn.2.2 b hb b (hk.subset hm) rfl
    ·rcases List.mem_append.1 hm with hm|hm
     ·exact hn.2.2 b (hg.subset hm) b hb rfl
     ·exact hb' hm
theorem wV.den{s s':SV}(hs:wV s s'){v:Value}{f:List Nat}(h:OT w ok s v f)(hn:f.Nodup):
 ∃f',f'.Sublist f∧∀ok':Nat→Prop,(∀b,ok b→ok' b)→(∀b∈f,b∉f'→ok' b)→OT w ok' s' v f':=by
 cases hs with
 |v h0=>
  cases h with
  |any=>
   cases h0 with
   |same=>exact⟨[],List.Sublist.refl _,fun _ _ _=> .any⟩
  |v h=>
   obtain⟨f',h1,h2⟩:=h0.den h hn
   exact⟨f',h1,fun ok' hok hin=> .v (h2 ok' hok hin)⟩
  |tup h=>
   cases h0 with
   |same=>exact⟨f,List.Sublist.refl _,fun ok' hok _=>(OT.tup h).NY hok⟩
 |tup h0=>
  cases h with
  |v h=>
   cases h with
   |v h=>cases h fun _=>none with|c h=>cases h
  |tup h=>
   obtain⟨f',h1,h2⟩:=h0.den h hn
   exact⟨f',h1,fun ok' hok hin=> .tup (h2 ok' hok hin)⟩
end
theorem ah.soft{P:Program}{f:Nat}{args:List SV}{outs:List (Option (List CV))}{r r':SV}(h:ah P f args outs r)(hs:wV r r'):ah P f args outs r':=by
 refine⟨h.1,fun w ok vs fs h1 h2 h3 h4=>(h.2 w ok vs fs h1 h2 h3 h4).mono ?_⟩
 rintro e w' ⟨v,fr,fo,he,hg,hn,hb,hr,ho⟩
 have hn':=hn
 rw[List.nodup_append] at hn
 obtain⟨fr',hf,hd⟩:=hs.den hr hn.1
 have hok:∀b,x8 ok fs (fr++fo) w w' b→x8 ok fs (fr'++fo) w w' b:=fun b hb=>⟨hb.1,hb.2.1,fun hm=>hb.2.2 (by
  rcases List.mem_append.1 hm with hm|hm
  ·simp[hf.subset hm]
  ·simp[hm])⟩
 refine⟨v,fr',fo,he,hg,hn'.sublist (hf.append (List.Sublist.refl _)),fun b hb'=>hb b ?_,hd _ hok fun b hb1 hb2=> ?_,ho.mono hok⟩
 ·rcases List.mem_append.1 hb' with hm|hm
  ·simp[hf.subset hm]
  ·simp[hm]
 ·have h5:=hb b (by simp[hb1])
  refine⟨h5.2, ?_,fun hm=> ?_⟩
  ·rcases h5.1 with h6|h6
   ·exact .inr (.inl h6)
   ·exact .inr (.inr h6)
  ·rcases List.mem_append.1 hm with hm|hm
   ·exact hb2 hm
   ·exact hn.2.2 b hb1 b hm rfl
theorem GX{H:HM}{j sz idx off:Nat}{o:Option Value}{ty:Nat}{rows:List (List CV)}{r:List CV}(h1:H j= .row o ty sz rows)(h2:rows[idx]? =some r):rE H [] [.le j sz idx off]=some [.c (.rp (sz-off) (r.drop off))]:=by
 simp[rE,ll,gR,lr,h1,h2]
end Go.KA
