/- Part of a proof engine for functions of the given program: what an operation, a loop and a call compute, symbolically. No conditions. -/
import Derived.Test.YtgbggaddpbghfaaGreatEngX
namespace Go.KA
open Go Go.RowKit
inductive dB:List CV->List CV->Prop
 |nil:dB [] []
 |same {c cs dn} (h:dB cs dn):dB (c::cs) (c::dn)
 |ro {c cs dn} (h:dB cs dn):dB (c::cs) (mV c::dn)
 |ows {ty sz rows cs dn} (h:dB cs dn):dB (.own ty sz rows::cs) (.ows ty sz (dD rows)::dn)
 |own {ty sz rows dr cs dn} (hl:dr.length=rows.length) (hr:(∀r∈rows,r.length=sz)-> ∀r∈dr,r.length=sz) (hi:dB rows.flatten dr.flatten) (h:dB cs dn):dB (.own ty sz rows::cs) (.own ty sz dr::dn)
theorem dB.len{cs dn:List CV}(h:dB cs dn):dn.length=cs.length:=by
 induction h<;>simp_all
theorem dB.append{as Lq bs Bh:List CV}(h:dB as Lq)(k:dB bs Bh):dB (as++bs) (Lq++Bh):=by
 induction h with
 |nil=>exact k
 |same _ ih=>exact .same ih
 |ro _ ih=>exact .ro ih
 |ows _ ih=>exact .ows ih
 |own hl hr hi _ _ ih=>exact .own hl hr hi ih
theorem dB.refl:∀cs:List CV,dB cs cs
 |[]=> .nil
 |_::cs=> .same (dB.refl cs)
theorem dB.pf:∀cs:List CV,dB cs (pf cs)
 |[]=> .nil
 |_::cs=> .ro (dB.pf cs)
theorem dB.flat{α:Type}{f g:α->List CV}(h:∀x,dB (f x) (g x)):∀l:List α,dB (l.map f).flatten (l.map g).flatten
 |[]=> .nil
 |x::xs=>(h x).append (dB.flat h xs)
theorem dB.rows{α:Type}{f g:α->List CV}{ty sz:Nat}{l:List α}{cs dn:List CV}(bw:∀x,dB (f x) (g x))(h:dB cs dn):dB (.own ty sz (l.map f)::cs) (.own ty sz (l.map g)::dn):=by
 refine .own (by simp) (fun hr r hm=>?_) (dB.flat bw l) h;obtain⟨x,hx,rfl⟩:=List.mem_map.1 hm;rw[(bw x).len];exact hr _ (List.mem_map.2 ⟨x,hx,rfl⟩)
theorem dB.den{w:World}{ok:Nat->Prop}{cs dn:List CV}(hs:dB cs dn):∀{vs:List Value} {f:List Nat},Den w ok cs vs f->f.Nodup->
 ∃f',f'.Sublist f/\ ∀ok':Nat->Prop,(∀b,ok b->ok' b)->(∀b∈f,b∉f'->ok' b)->Den w ok' dn vs f':=by
 induction hs with
 |nil=>
  intro vs f h _;cases h;exact⟨[],List.Sublist.refl _,fun _ _ _=> .nil⟩
 | @same c cs dn hs ih=>
   intro vs f h hn;obtain⟨us,ts,g,k,rfl,rfl,h1,h2⟩:=Den.split (as:=[c]) h;rw[List.nodup_append]at hn;obtain⟨k',hk,hd⟩:=ih h2 hn.2.1;refine⟨g++k',(List.Sublist.refl g).append hk,fun ok' cH bw=>?_⟩;refine(h1.mono (fun _ _=>rfl) cH fun _ _=>rfl).append (hd ok' cH fun b hb fX=>bw b (by simp[hb]) fun hm=>?_);rcases ao.1 hm with hm|hm
   ·exact hn.2.2 b hm b hb rfl
   ·exact fX hm
 | @ro c cs dn hs ih=>
   intro vs f h hn;obtain⟨us,ts,g,k,rfl,rfl,h1,h2⟩:=Den.split (as:=[c]) h;rw[List.nodup_append]at hn;obtain⟨k',hk,hd⟩:=ih h2 hn.2.1;refine⟨k',hk.trans (List.sublist_append_right g k),fun ok' cH bw=>?_⟩;have e:=(lz h1 cH fun b hb=>bw b (by simp[hb]) fun hm=>hn.2.2 b hb b (hk.subset hm) rfl).append (hd ok' cH fun b hb fX=>bw b (by simp[hb]) fX);simpa using e
 | @ows ty sz rows cs dn hs ih=>
   intro vs f h hn;cases h with
   | @own as vs f ty sz rows xs v g bw hr ho ht=>
     rw[List.nodup_append,List.nodup_append]at hn;obtain⟨k',hk,hd⟩:=ih ht hn.2.1;refine⟨v.ownBlock.toList++k',?_,fun ok' cH tT=>?_⟩
     ·exact((List.sublist_append_left _ g)).append hk
     ·have MJ:∀b∈g,ok' b:=fun b hb=>tT b (by simp[hb]) fun hm=>by
       rcases ao.1 hm with hm|hm
       ·exact hn.1.2.2 b hm b hb rfl
       ·exact hn.2.2 b (by simp[hb]) b (hk.subset hm) rfl
      have h1:=lz bw cH MJ;rw[<-mX]at h1;have hlen:(dD rows).length=rows.length:=by rw[ep];simp
      have my:∀r∈dD rows,r.length=sz:=by
       rw[ep];intro r Lp;obtain⟨r0,h0,rfl⟩:=List.mem_map.1 Lp;simpa using hr r0 h0
      refine .ows h1 my (by rw[hlen];exact ho) (hd ok' cH fun b hb fX=>tT b (by simp[hb]) fun hm=>?_);rcases ao.1 hm with hm|hm
      ·exact hn.2.2 b (by simp[hm]) b hb rfl
      ·exact fX hm
 | @own ty sz rows dr cs dn hl my hi hs ihi ih=>
   intro vs f h hn;cases h with
   | @own as vs f ty sz rows xs v g bw hr ho ht=>
     rw[List.nodup_append,List.nodup_append]at hn;obtain⟨g',hg,YT⟩:=ihi bw hn.1.2.1;obtain⟨k',hk,hd⟩:=ih ht hn.2.1;refine⟨v.ownBlock.toList++g'++k',((List.Sublist.refl _).append hg).append hk,fun ok' cH tT=>?_⟩;refine .own (YT ok' cH fun b hb fX=>tT b (by simp[hb]) fun hm=>?_) (my hr) (by rw[hl];exact ho) (hd ok' cH fun b hb fX=>tT b (by simp[hb]) fun hm=>?_)
     ·rcases ao.1 hm with hm|hm
      ·rcases ao.1 hm with hm|hm
       ·exact hn.1.2.2 b hm b hb rfl
       ·exact fX hm
      ·exact hn.2.2 b (by simp[hb]) b (hk.subset hm) rfl
     ·rcases ao.1 hm with hm|hm
      ·refine hn.2.2 b ?_ b hb rfl;rcases ao.1 hm with hm|hm
       ·simp[hm]
       ·simp[hg.subset hm]
      ·exact fX hm
inductive yl:SV->SV->Prop
 |same {s}:yl s s
 |a {n cs dn} (h:dB cs dn):yl (.a n cs) (.a n dn)
 |c {x x'} (h:dB [x] [x']):yl (.c x) (.c x')
inductive wZ:List SV->List SV->Prop
 |nil:wZ [] []
 |cons {s s' ss gx} (h:yl s s') (t:wZ ss gx):wZ (s::ss) (s'::gx)
inductive AR:SV->SV->Prop
 |v {s s'} (h:yl s s'):AR s s'
 |tup {ss gx} (h:wZ ss gx):AR (.tup ss) (.tup gx)
section
variable{w:World}{ok:Nat->Prop}
theorem kL.wo{ok':Nat->Prop}{s:SV}{v:Value}{f:List Nat}(h:kL w ok s v f)(cH:∀b,ok b->ok' b):kL w ok' s v f:=h.mono (fun _ _=>rfl) cH fun _ _=>rfl
theorem yl.den{s s':SV}(hs:yl s s'){v:Value}{f:List Nat}(h:kL w ok s v f)(hn:f.Nodup):
 ∃f',f'.Sublist f/\ ∀ok':Nat->Prop,(∀b,ok b->ok' b)->(∀b∈f,b∉f'->ok' b)->kL w ok' s' v f':=by
 cases hs with
 |same=>exact⟨f,List.Sublist.refl _,fun ok' cH _=>h.wo cH⟩
 | @a n cs dn hc=>
   have key:∀{vs:List Value},cs.length=n->Den w ok cs vs f-> ∃f',f'.Sublist f/\ ∀ok':Nat->Prop,(∀b,ok b->ok' b)->(∀b∈f,b∉f'->ok' b)->kL w ok' (.a n dn) (.agg vs.toArray) f':=by
    intro vs hl hd;obtain⟨f',h1,h2⟩:=hc.den hd hn;exact⟨f',h1,fun ok' cH bw=> .a (by rw[hc.len];exact hl) (h2 ok' cH bw)⟩
   cases h with
   |v h=>
    cases h fun _=>none with
    |c h=>cases h
    |a hl hd=>exact key hl hd
   |a hl hd=>exact key hl hd
 | @c x x' hc=>
   have key:Den w ok [x] [v] f-> ∃f',f'.Sublist f/\ ∀ok':Nat->Prop,(∀b,ok b->ok' b)->(∀b∈f,b∉f'->ok' b)->kL w ok' (.c x') v f':=by
    intro hd;obtain⟨f',h1,h2⟩:=hc.den hd hn;exact⟨f',h1,fun ok' cH bw=> .o (h2 ok' cH bw)⟩
   cases h with
   |v h=>
    cases h fun _=>none with
    |c h=>cases h with|c hd=>exact key hd
   |o hd=>exact key hd
theorem wZ.den{ss gx:List SV}(hs:wZ ss gx):∀{vs:List Value} {f:List Nat},OL w ok ss vs f->f.Nodup->
 ∃f',f'.Sublist f/\ ∀ok':Nat->Prop,(∀b,ok b->ok' b)->(∀b∈f,b∉f'->ok' b)->OL w ok' gx vs f':=by
 induction hs with
 |nil=>
  intro vs f h _;cases h;exact⟨[],List.Sublist.refl _,fun _ _ _=> .nil⟩
 |cons h0 _ ih=>
  intro vs f h hn;cases h with
  | @cons _ v g _ vs k h1 h2=>
    rw[List.nodup_append]at hn;obtain⟨g',hg,YT⟩:=h0.den h1 hn.1;obtain⟨k',hk,hd⟩:=ih h2 hn.2.1;refine⟨g'++k',hg.append hk,fun ok' cH bw=> .cons (YT ok' cH fun b hb fX=>bw b (by simp[hb]) fun hm=>?_) (hd ok' cH fun b hb fX=>bw b (by simp[hb]) fun hm=>?_)⟩
    ·rcases ao.1 hm with hm|hm
     ·exact fX hm
     ·exact hn.2.2 b hb b (hk.subset hm) rfl
    ·rcases ao.1 hm with hm|hm
     ·exact hn.2.2 b (hg.subset hm) b hb rfl
     ·exact fX hm
theorem AR.den{s s':SV}(hs:AR s s'){v:Value}{f:List Nat}(h:OT w ok s v f)(hn:f.Nodup):
 ∃f',f'.Sublist f/\ ∀ok':Nat->Prop,(∀b,ok b->ok' b)->(∀b∈f,b∉f'->ok' b)->OT w ok' s' v f':=by
 cases hs with
 |v h0=>
  cases h with
  |any=>
   cases h0 with
   |same=>exact⟨[],List.Sublist.refl _,fun _ _ _=> .any⟩
  |v h=>
   obtain⟨f',h1,h2⟩:=h0.den h hn;exact⟨f',h1,fun ok' cH bw=> .v (h2 ok' cH bw)⟩
  |tup h=>
   cases h0 with
   |same=>exact⟨f,List.Sublist.refl _,fun ok' cH _=>(OT.tup h).Uw cH⟩
 |tup h0=>
  cases h with
  |v h=>
   cases h with
   |v h=>cases h fun _=>none with|c h=>cases h
  |tup h=>
   obtain⟨f',h1,h2⟩:=h0.den h hn;exact⟨f',h1,fun ok' cH bw=> .tup (h2 ok' cH bw)⟩
end
theorem aE.soft{P:Program}{f:Nat}{args:List SV}{outs:List (Option (List CV))}{r r':SV}(h:aE P f args outs r)(hs:AR r r'):aE P f args outs r':=by
 refine⟨h.1,fun w ok vs fs h1 h2 h3 h4=>(h.2 w ok vs fs h1 h2 h3 h4).mono ?_⟩;rintro e w' ⟨v,fr,fo,he,hg,hn,hb,hr,ho⟩;have V3:=hn;rw[List.nodup_append]at hn;obtain⟨Xq,hf,hd⟩:=hs.den hr hn.1;have cH:∀b,zc ok fs (fr++fo) w w' b->zc ok fs (Xq++fo) w w' b:=fun b hb=>⟨hb.1,hb.2.1,fun hm=>hb.2.2 (by
  rcases ao.1 hm with hm|hm
  ·simp[hf.subset hm]
  ·simp[hm])⟩
 refine⟨v,Xq,fo,he,hg,V3.sublist (hf.append (List.Sublist.refl _)),fun b fX=>hb b ?_,hd _ cH fun b kg nN=>?_,ho.mono cH⟩
 ·rcases ao.1 fX with hm|hm
  ·simp[hf.subset hm]
  ·simp[hm]
 ·have h5:=hb b (by simp[kg]);refine⟨h5.2,?_,fun hm=>?_⟩
  ·rcases h5.1 with h6|h6
   ·exact .inr (.inl h6)
   ·exact .inr (.inr h6)
  ·rcases ao.1 hm with hm|hm
   ·exact nN hm
   ·exact hn.2.2 b kg b hm rfl
theorem Ls{H:HM}{j sz idx off:Nat}{o:Option Value}{ty:Nat}{rows:List (List CV)}{r:List CV}(h1:H j= .row o ty sz rows)(h2:rows[idx]? =some r):tS H [] [.le j sz idx off]=some [.c (.rp (sz-off) (r.drop off))]:=by
 simp[tS,nK,ja,nW,h1,h2]
end Go.KA
