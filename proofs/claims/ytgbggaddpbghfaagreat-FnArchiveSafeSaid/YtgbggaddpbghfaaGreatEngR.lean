/- Part of a proof engine for functions of the given program: what an operation, a loop and a call compute, symbolically. No conditions. -/
import Derived.Test.YtgbggaddpbghfaaGreatEngQ
namespace Go.KA
open Go Go.RowKit
def Vf:dW->Option CV
 | .row _ _ sz rows=>some (.ro sz rows)
 | .aU _ _ sz rows=>some (.ro sz (dD rows))
 |_=>none
def Vs(j:Nat)(r:CV)(H:HM):HM:=fun i=>cond (Nat.beq i j) .dead (P9 (Mr j r) (H i))
def VI:dW->Option (List CV)
 | .cc _ cs=>some cs
 |_=>none
def QP(k:Nat)(cs:List CV):SV->SV
 | .lp i off=>cond (Nat.beq i k) (.c (.rp (cs.length-off) (cs.drop off))) (.lp i off)
 |x=>x
def Sl(j:Nat)(g:SV->SV)(H:HM):HM:=fun i=>cond (Nat.beq i j) .dead (P9 g (H i))
inductive gY:List CV->List CV->Prop
 |nil:gY [] []
 |same {c cs dn} (h:gY cs dn):gY (c::cs) (c::dn)
 |ro {c cs dn} (h:gY cs dn):gY (c::cs) (mV c::dn)
 |ows {ty sz rows cs dn} (h:gY cs dn):gY (.own ty sz rows::cs) (.ows ty sz (dD rows)::dn)
theorem gY.len{cs dn:List CV}(h:gY cs dn):dn.length=cs.length:=by
 induction h<;>simp_all
theorem gY.refl:∀cs:List CV,gY cs cs
 |[]=> .nil
 |_::cs=> .same (gY.refl cs)
theorem gY.append{as Lq bs Bh:List CV}(h:gY as Lq)(k:gY bs Bh):gY (as++bs) (Lq++Bh):=by
 induction h with
 |nil=>exact k
 |same _ ih=>exact .same ih
 |ro _ ih=>exact .ro ih
 |ows _ ih=>exact .ows ih
theorem gY.den{w:World}{ok:Nat->Prop}{cs dn:List CV}(hs:gY cs dn):∀{vs:List Value} {f:List Nat},Den w ok cs vs f->f.Nodup->
 ∃f',f'.Sublist f/\ ∀ok':Nat->Prop,(∀b,ok b->ok' b)->(∀b∈f,b∉f'->ok' b)->Den w ok' dn vs f':=by
 induction hs with
 |nil=>
  intro vs f h _;cases h;exact⟨[],List.Sublist.refl _,fun _ _ _=> .nil⟩
 | @same c cs dn hs ih=>
   intro vs f h hn;obtain⟨us,ts,g,k,rfl,rfl,h1,h2⟩:=Den.split (as:=[c]) h;rw[List.nodup_append]at hn;obtain⟨k',hk,hd⟩:=ih h2 hn.2.1;refine⟨g++k',(List.Sublist.refl g).append hk,fun ok' cH bw=>?_⟩;refine(h1.mono (fun _ _=>rfl) cH fun _ _=>rfl).append (hd ok' cH fun b hb fX=>bw b (by simp[hb]) fun hm=>?_);rcases ao.1 hm with hm|hm
   ·exact hn.2.2 b hm b hb rfl
   ·exact fX hm
 | @ro c cs dn hs ih=>
   intro vs f h hn;obtain⟨us,ts,g,k,rfl,rfl,h1,h2⟩:=Den.split (as:=[c]) h;rw[List.nodup_append]at hn;obtain⟨k',hk,hd⟩:=ih h2 hn.2.1;refine⟨k',hk.trans (List.sublist_append_right g k),fun ok' cH bw=>?_⟩;have e:=(lz h1 cH fun b hb=>bw b (by simp[hb]) fun hm=>hn.2.2 b hb b (hk.subset hm) rfl).append (hd ok' cH fun b hb fX=>bw b (by simp[hb]) fX);simpa using e
 | @ows ty sz rows cs dn hs ih=>
   intro vs f h hn;cases h with
   | @own as vs f ty sz rows xs v g bw hr ho ht=>
     rw[List.nodup_append,List.nodup_append]at hn;obtain⟨k',hk,hd⟩:=ih ht hn.2.1;refine⟨v.ownBlock.toList++k',?_,fun ok' cH tT=>?_⟩
     ·exact((List.sublist_append_left _ g)).append hk
     ·have MJ:∀b∈g,ok' b:=fun b hb=>tT b (by simp[hb]) fun hm=>by
       rcases ao.1 hm with hm|hm
       ·exact hn.1.2.2 b hm b hb rfl
       ·exact hn.2.2 b (by simp[hb]) b (hk.subset hm) rfl
      have h1:=lz bw cH MJ;rw[<-mX]at h1;have hlen:(dD rows).length=rows.length:=by rw[ep];simp
      have my:∀r∈dD rows,r.length=sz:=by
       rw[ep];intro r Lp;obtain⟨r0,h0,rfl⟩:=List.mem_map.1 Lp;simpa using hr r0 h0
      refine .ows h1 my (by rw[hlen];exact ho) (hd ok' cH fun b hb fX=>tT b (by simp[hb]) fun hm=>?_);rcases ao.1 hm with hm|hm
      ·exact hn.2.2 b (by simp[hm]) b hb rfl
      ·exact fX hm
inductive jy:List (List CV)->List (List CV)->Prop
 |nil:jy [] []
 |cons {r r' rs NX} (h:gY r r') (t:jy rs NX):jy (r::rs) (r'::NX)
theorem jy.flat{rs NX:List (List CV)}(h:jy rs NX):gY rs.flatten NX.flatten:=by
 induction h with
 |nil=>exact .nil
 |cons h _ ih=>exact h.append ih
theorem jy.len{rs NX:List (List CV)}(h:jy rs NX):NX.length=rs.length:=by
 induction h<;>simp_all
theorem jy.rows{rs NX:List (List CV)}{sz:Nat}(h:jy rs NX):(∀r∈rs,r.length=sz)-> ∀r∈NX,r.length=sz:=by
 induction h with
 |nil=>exact fun h=>h
 |cons h _ ih=>
  intro hr r hm;rcases List.mem_cons.1 hm with rfl|hm
  ·rw[h.len];exact hr _ (by simp)
  ·exact ih (fun r my=>hr r (by simp[my])) r hm
theorem jy.map{α:Type}{f g:α->List CV}(h:∀x,gY (f x) (g x)):∀l:List α,jy (l.map f) (l.map g)
 |[]=> .nil
 |x::xs=> .cons (h x) (jy.map h xs)
def QD:SV->SV
 | .c (.cb b)=> .c (.val (.bool b))
 |s=>s
theorem F4{ρ:RM}{w:World}{ok:Nat->Prop}{s:SV}{v:Value}(h:b9 ρ w ok s v):b9 ρ w ok (QD s) v:=by
 unfold QD;split
 ·cases h with|c h=>rw[pQ h];exact .c (mk_val rfl)
 ·exact h
inductive iP:dW->dW->Prop
 |row {o ty sz rows}:iP (.aU o ty sz rows) (.row o ty sz (dD rows))
 |aU {o ty sz rows dr} (h:jy rows dr):iP (.aU o ty sz rows) (.aU o ty sz dr)
 |Xv {o ty sz rows}:iP (.aU o ty sz rows) (.aU none ty sz rows)
 |up {o ty sz rows}:iP (.row o ty sz rows) (.aU o ty sz rows)
 |cc {cs l} (h:vB cs=some l):iP (.cells cs) (.cc l.length l)
 |cb {cs}:iP (.cells cs) (.cells (cs.map QD))
theorem iP.den{ρ:RM}{w:World}{ok:Nat->Prop}{b b':dW}{v:Option Value}{f:List Nat}(hs:iP b b')(h:dH ρ w ok b v f)(hn:f.Nodup):
 ∃f',f'.Sublist f/\ ∀ok':Nat->Prop,(∀b,ok b->ok' b)->(∀b∈f,b∉f'->ok' b)->dH ρ w ok' b' v f':=by
 cases hs with
 | @row o ty sz rows=>
   cases h with
   | @aU _ _ _ _ v xs g ho hr bw hv=>
     rw[List.nodup_append]at hn;refine⟨v.ownBlock.toList,List.sublist_append_left _ _,fun ok' cH tT=>?_⟩;have h1:=lz bw cH fun b hb=>tT b (by simp[hb]) fun hm=>hn.2.2 b hm b hb rfl
     rw[<-mX]at h1;have hlen:(dD rows).length=rows.length:=by rw[ep];simp
     refine .row (by rw[hlen];exact ho) ?_ h1 hv;rw[ep];intro r Lp;obtain⟨r0,h0,rfl⟩:=List.mem_map.1 Lp;simpa using hr r0 h0
 | @aU o ty sz rows dr hl=>
   cases h with
   | @aU _ _ _ _ v xs g ho hr bw hv=>
     rw[List.nodup_append]at hn;obtain⟨k',hk,hd⟩:=hl.flat.den bw hn.2.1;refine⟨v.ownBlock.toList++k',(List.Sublist.refl _).append hk,fun ok' cH tT=>?_⟩;refine .aU (by rw[hl.len];exact ho) (hl.rows hr) (hd ok' cH fun b hb fX=>tT b (by simp[hb]) fun hm=>?_) hv;rcases ao.1 hm with hm|hm
     ·exact hn.2.2 b hm b hb rfl
     ·exact fX hm
 | @cc cs l hl=>
   refine⟨f,List.Sublist.refl _,fun ok' cH _=>?_⟩;cases h with
   | @cells ty cs b arr hb hlen hh=>
     obtain⟨h1,h2⟩:=lN hl hlen hh;exact .cc hb rfl (h1.mono (fun _ _=>rfl) cH (by simp))
 | @cb cs=>
   refine⟨f,List.Sublist.refl _,fun ok' cH _=>?_⟩;cases h with
   | @cells ty cs b arr hb hlen hh=>
     refine .cells hb (by simpa using hlen) fun j a v ha hv=>?_
     rw[List.getElem?_map]at ha;cases h0:cs[j]? with
     |none=>rw[h0]at ha;cases ha
     |some a0=>
      rw[h0]at ha;obtain rfl:=Option.some.inj ha;exact(F4 (hh j a0 v h0 hv)).mono (fun _ _=>rfl) cH (Ext.refl _)
 | @up o ty sz rows=>
   refine⟨f,List.Sublist.refl _,fun ok' cH _=>?_⟩;cases h with
   | @row _ _ _ _ v xs ho hr bw hv=>
     have h1:=dH.aU (ρ:=ρ) (w:=w) (ok:=ok') (o:=o) (ty:=ty) (sz:=sz) (rows:=rows) (f:=[]) ho hr (bw.mono (fun _ _=>rfl) cH (fun _ _=>rfl)) hv;rwa[List.append_nil]at h1
 | @Xv o ty sz rows=>
   refine⟨f,List.Sublist.refl _,fun ok' cH _=>?_⟩;cases h with
   |aU ho hr bw hv=>exact .aU ho hr (bw.mono (fun _ _=>rfl) cH (fun _ _=>rfl)) (by simp)
inductive oO(v:Value)(r:CV):List CV->List CV->Prop
 |nil:oO v r [] []
 |same {c cs dn} (h:oO v r cs dn):oO v r (c::cs) (c::dn)
 |here {cs dn} (h:oO v r cs dn):oO v r (.val v::cs) (r::dn)
 |ro {sz rows i row mw cs dn} (hi:rows[i]? =some row) (hr:oO v r row mw) (h:oO v r cs dn):oO v r (.ro sz rows::cs) (.ro sz (rows.set i mw)::dn)
theorem oO.len{v:Value}{r:CV}{cs dn:List CV}(h:oO v r cs dn):dn.length=cs.length:=by
 induction h<;>simp_all
theorem oO.refl{v:Value}{r:CV}:∀cs:List CV,oO v r cs cs
 |[]=> .nil
 |c::cs=> .same (oO.refl cs)
theorem oO.append{v:Value}{r:CV}{as Lq bs Bh:List CV}(h:oO v r as Lq)(k:oO v r bs Bh):oO v r (as++bs) (Lq++Bh):=by
 induction h with
 |nil=>exact k
 |same _ ih=>exact .same ih
 |here _ ih=>exact .here ih
 |ro hi hr _ _ ih=>exact .ro hi hr ih
theorem oO.den{v:Value}{r:CV}{w:World}{ok ok':Nat->Prop}{cs dn:List CV}(hs:oO v r cs dn)(cH:∀b,ok b->ok' b)(hr:Den w ok' [r] [v] []):∀{vs:List Value},Den w ok cs vs []->Den w ok' dn vs []:=by
 induction hs with
 |nil=>intro vs h;cases h;exact .nil
 | @same c cs dn h ih=>
   intro vs hd;obtain⟨us,ts,g,k,rfl,hf,h1,h2⟩:=Den.split (as:=[c]) (bs:=cs) hd;simp only[List.nil_eq,List.append_eq_nil_iff]at hf;obtain⟨rfl,rfl⟩:=hf;exact(h1.mono (fun _ _=>rfl) cH (by simp)).append (ih h2)
 |here h ih=>
  intro vs hd;cases hd with
  |val h1 ht=>exact hr.append (ih ht)
 | @ro sz rows i row mw cs dn hi oT h vr ih2=>
   intro vs hd;cases hd with
   | @ro _ vs f _ _ xs a n c hn hc hm gC bw jH ht=>
     obtain⟨eu,he⟩:=List.getElem?_eq_some_iff.1 hi;have e0:rows=rows.take i++row::rows.drop (i+1):=by rw[<-he];simp
     have e1:rows.set i mw=rows.take i++mw::rows.drop (i+1):=by
       rw[List.set_eq_take_append_cons_drop];simp[eu]
     have Oe:=bw;rw[e0,List.flatten_append,List.flatten_cons]at Oe;obtain⟨u1,t1,g1,k1,WZ,TZ,d1,d2⟩:=Oe.split;simp only[List.nil_eq,List.append_eq_nil_iff]at TZ;obtain⟨rfl,rfl⟩:=TZ;obtain⟨u2,t2,g2,k2,TY,Ot,d3,d4⟩:=d2.split;simp only[List.nil_eq,List.append_eq_nil_iff]at Ot;obtain⟨rfl,rfl⟩:=Ot;have d5:=(d1.mono (fun _ _=>rfl) cH (by simp)).append ((vr d3).append (d4.mono (fun _ _=>rfl) cH (by simp)));refine .ro (xs:=xs) (by rw[af];exact hn) hc hm (fun q hq=>?_) ?_ (jH.mono (fun _ _=>rfl) cH) (ih2 ht)
     ·rcases List.mem_or_eq_of_mem_set hq with h|h
      ·exact gC q h
      ·rw[h,oT.len];exact gC row (List.mem_of_getElem? hi)
     ·rw[e1,List.flatten_append,List.flatten_cons,WZ,TY];simpa using d5
inductive mv(v:Value)(r:CV):List CV->List CV->Prop
 |here {cs}:mv v r (.val v::cs) (r::cs)
 |skip {c cs dn} (h:mv v r cs dn):mv v r (c::cs) (c::dn)
 |own {ty sz rows i row mw cs} (hi:rows[i]? =some row) (hr:mv v r row mw):mv v r (.own ty sz rows::cs) (.own ty sz (rows.set i mw)::cs)
theorem mv.len{v:Value}{r:CV}{cs dn:List CV}(h:mv v r cs dn):dn.length=cs.length:=by
 induction h<;>simp_all
theorem mv.right{v:Value}{r:CV}{as Lq:List CV}(h:mv v r as Lq)(bs:List CV):mv v r (as++bs) (Lq++bs):=by
 induction h with
 |here=>exact .here
 |skip _ ih=>exact .skip ih
 |own hi hr _=>exact .own hi hr
theorem mv.left{v:Value}{r:CV}{as Lq:List CV}(h:mv v r as Lq):∀bs:List CV,mv v r (bs++as) (bs++Lq)
 |[]=>h
 |_::bs=> .skip (h.left bs)
theorem mv.rows{v:Value}{r:CV}{rows:List (List CV)}{i:Nat}{row mw:List CV}(hi:rows[i]? =some row)(h:mv v r row mw):mv v r rows.flatten (rows.set i mw).flatten:=by
 obtain⟨eu,he⟩:=List.getElem?_eq_some_iff.1 hi;have e0:rows.flatten=(rows.take i).flatten++(row++(rows.drop (i+1)).flatten):=by
  conv=>lhs;rw[<-List.take_append_drop i rows,List.drop_eq_getElem_cons eu,he]
  simp
 have e1:(rows.set i mw).flatten=(rows.take i).flatten++(mw++(rows.drop (i+1)).flatten):=by
  rw[List.set_eq_take_append_cons_drop];simp[eu]
 rw[e0,e1];exact(h.right _).left _
theorem mv.den{v:Value}{r:CV}{w:World}{ok:Nat->Prop}{g:List Nat}{cs dn:List CV}(hs:mv v r cs dn)(hr:Den w ok [r] [v] g):∀{vs:List Value} {f:List Nat},Den w ok cs vs f-> ∃f',Den w ok dn vs f'/\f'.Perm (f++g):=by
 induction hs with
 |here=>
  intro vs f hd;cases hd with
  |val h1 ht=>exact⟨g++f,hr.append ht,List.perm_append_comm⟩
 | @skip c cs dn h ih=>
   intro vs f hd;obtain⟨us,ts,g1,k,rfl,rfl,h1,h2⟩:=Den.split (as:=[c]) (bs:=cs) hd;obtain⟨k',h3,h4⟩:=ih h2;refine⟨g1++k',h1.append h3,?_⟩;rw[List.append_assoc];exact h4.append_left g1
 | @own ty sz rows i row mw cs hi oT ih=>
   intro vs f hd;cases hd with
   | @own _ vs f1 _ _ _ xs v1 g1 bw gC ho ht=>
     obtain⟨eu,he⟩:=List.getElem?_eq_some_iff.1 hi;have e0:rows=rows.take i++row::rows.drop (i+1):=by rw[<-he];simp
     have e1:rows.set i mw=rows.take i++mw::rows.drop (i+1):=by
        rw[List.set_eq_take_append_cons_drop];simp[eu]
     have Oe:=bw;rw[e0,List.flatten_append,List.flatten_cons]at Oe;obtain⟨u1,t1,ga,gb,WZ,TZ,d1,d2⟩:=Oe.split;obtain⟨u2,t2,gc,gd,TY,Ot,d3,d4⟩:=d2.split;obtain⟨gc',d5,hp⟩:=ih d3;have d6:=d1.append (d5.append d4);have d7:Den w ok (rows.set i mw).flatten xs (ga++(gc'++gd)):=by
        rw[e1,List.flatten_append,List.flatten_cons,WZ,TY];exact d6
     refine⟨_, .own d7 (fun q hq=>?_) (by rw[af];exact ho) ht,?_⟩
     ·rcases List.mem_or_eq_of_mem_set hq with h|h
      ·exact gC q h
      ·rw[h,oT.len];exact gC row (List.mem_of_getElem? hi)
     ·rw[TZ,Ot];rw[List.perm_iff_count]at hp⊢;intro x;have:=hp x;simp only[List.count_append]at this⊢;omega
inductive Gh(np n:Nat):TM->HM->(TM->HM->Prop)->Prop
 |go {T H K} (k:K T H):Gh np n T H K
 |Eg {T H K} (j:Nat) (r:CV) (hr:Vf (H j)=some r) (k:Gh np n (DX (Mr j r) T) (Vs j r H) K):Gh np n T H K
 |EO {T H K} (j:Nat) (cs:List CV) (hr:VI (H j)=some cs) (k:Gh np n (DX (QP j cs) T) (Sl j (QP j cs) H) K):Gh np n T H K
 |soft {T H K} (j:Nat) {b':dW} (h:iP (H j) b') (k:Gh np n T (dY H j b') K):Gh np n T H K
 |close {T H K} (j idx off k:Nat) {o:Option Value} {ty sz:Nat} {rows:List (List CV)} {r:List CV} {v:Value} {mq fN:Nat} {dr:List (List CV)} (h1:H j= .aU o ty sz rows) (h2:rows[idx]? =some r) (h3:r[off]? =some (.val v)) (h4:H k= .aU (some v) mq fN dr) (vx:Nat.beq j k=false)
  (g:Gh np n T (dY (dY H k .dead) j (.aU o ty sz (rows.set idx (bo r off [.own mq fN dr])))) K):Gh np n T H K
 |j8 {T H K} (j idx off k:Nat) {o:Option Value} {ty sz:Nat} {rows:List (List CV)} {r:List CV} {v:Value} {mq fN:Nat} {dr:List (List CV)} (h1:H j= .aU o ty sz rows) (h2:rows[idx]? =some r) (h3:r[off]? =some (.val v)) (h4:H k= .row (some v) mq fN dr) (vx:Nat.beq j k=false)
  (g:Gh np n T (dY (dY H k .dead) j (.aU o ty sz (rows.set idx (bo r off [.ows mq fN dr])))) K):Gh np n T H K
 |CR {T H K} (j:Nat) {o:Option Value} {ty sz:Nat} {rows:List (List CV)} (h:H j= .aU o ty sz rows) (k:∀v:Value,Gh np n T (dY H j (.aU (some v) ty sz rows)) K):Gh np n T H K
 |told {T H K} (i j:Nat) {v:Value} {ty sz:Nat} {rows:List (List CV)} (ht:T i= .lw j) (h:H j= .aU (some v) ty sz rows) (k:Gh np n (Dm T i (.c (.val v))) H K):Gh np n T H K
 |link {T H K} (i j:Nat) {v:Value} {ty sz:Nat} {rows:List (List CV)} (ht:T i= .c (.val v)) (h:H j= .aU (some v) ty sz rows) (k:Gh np n (Dm T i (.lw j)) H K):Gh np n T H K
 |fill {T H K} (j k:Nat) {sz ty Wi:Nat} {cs dn:List CV} {rows:List (List CV)} {v:Value} (h1:H j= .cc sz cs) (h2:H k= .row (some v) ty Wi rows) (vx:Nat.beq j k=false) (hs:oO v (.ro Wi rows) cs dn)
  (g:Gh np n T (dY (dY H k .dead) j (.cc sz dn)) K):Gh np n T H K
 |C7 {T H K} (j k i:Nat) {o:Option Value} {ty sz:Nat} {rows:List (List CV)} {row mw:List CV} {v:Value} {mq fN:Nat} {dr:List (List CV)} (h1:H j= .aU o ty sz rows) (h2:rows[i]? =some row) (h4:H k= .aU (some v) mq fN dr) (vx:Nat.beq j k=false) (hs:mv v (.own mq fN dr) row mw)
  (g:Gh np n T (dY (dY H k .dead) j (.aU o ty sz (rows.set i mw))) K):Gh np n T H K
 |Pf {T H K} (j i k:Nat) {cs:List SV} {v:Value} {ty sz:Nat} {rows:List (List CV)} (h1:H j= .cells cs) (h2:cs[i]? =some (.lw k)) (h3:H k= .aU (some v) ty sz rows) (g:Gh np n T (dY H j (.cells (cs.set i (.c (.val v))))) K):Gh np n T H K
 |N2 {T H K} (a b:Nat) (h:(Wr np (a,b) H&&Nat.blt b n)=true) (k:Gh np n (DX (Hz a b) T) (MZ a b H) K):Gh np n T H K
section
variable{Γ:Cx}{H:HM}{ρ:RM}{F:FM}{w:World}
theorem Zc{ok ok':Nat->Prop}{k:Nat}{r:CV}(cH:∀b,ok b->ok' b)(hr:∀v,ρ k=some v->Den w ok' [r] [v] []){a:SV}{v:Value}(h:b9 ρ w ok a v):b9 ρ w ok' (Mr k r a) v:=by
 cases h with
 |c h=>exact .c (h.mono (fun _ _=>rfl) cH (by simp))
 |lp h=>exact .lp h
 |le h=>exact .le h
 | @lw i a n c h=>
   simp only[Mr];cases hb:Nat.beq i k with
   |true=>
    have:=ae hb;subst this;exact .c (hr _ h)
   |false=>exact .lw h
 |ls h h1 h2 h3 h4=>exact .ls h h1 h2 h3 h4
 |mp h=>exact .mp h
theorem St.Eg{nt:Nat}{T:TM}{a:Act}(hS:St Γ nt T H ρ F a w){j:Nat}{r:CV}(hr:Vf (H j)=some r):St Γ nt (DX (Mr j r) T) (Vs j r H) ρ (gR F j []) a w:=by
 have h:=hS.mem;have cH:∀b,bg Γ F w b->bg Γ (gR F j []) w b:=by
  intro b hb;refine⟨hb.1,hb.2.1,?_⟩;rintro⟨i,hi⟩;by_cases e:i=j
  ·subst e;rw[bO]at hi;cases hi
  ·rw[cJ e]at hi;exact hb.2.2 ⟨i,hi⟩
 have qG:∀b∈F j,bg Γ (gR F j []) w b:=by
  intro b hb;refine⟨h.lt j b hb, .inr (h.src j b hb),?_⟩;rintro⟨i,hi⟩;by_cases e:i=j
  ·subst e;rw[bO]at hi;cases hi
  ·rw[cJ e]at hi;exact e (h.kO i j b hi hb)
 have qW:∀v,ρ j=some v->Den w (bg Γ (gR F j []) w) [r] [v] []:=by
  intro v hv;have hB:=h.hb (n9.refl H);unfold Vf at hr;split at hr
  ·rename_i hj;injection hr with hr
   subst hr;obtain⟨v',xs,gZ,ho,Za,bw,hF,_⟩:=jx hB hj;rw[hv]at gZ;injection gZ with gZ
   subst gZ;have:=lz (Den.ows bw Za ho .nil) cH (by rw[hF]at qG;simpa using qG);simpa[mV]using this
  ·rename_i hj;injection hr with hr
   subst hr;obtain⟨v',xs,f,gZ,ho,Za,bw,hF,_⟩:=et hB hj;rw[hv]at gZ;injection gZ with gZ
   subst gZ;have:=lz (Den.own bw Za ho .nil) cH (by rw[hF]at qG;simpa using qG);simpa[mV]using this
  ·cases hr
 have hg:∀a v,b9 ρ w (bg Γ F w) a v->b9 ρ w (bg Γ (gR F j []) w) (Mr j r a) v:=fun a v=>Zc cH qW
 refine⟨⟨fun i=>?_,fun i k b hi hk=>?_,fun i=>?_,fun i b hb=>?_,fun i b hb=>?_,h.oN,h.frame,h.size,h.os,h.tape,h.output,h.CR⟩,hS.defers,hS.nt,fun i=>PK hg cH (hS.tmps i)⟩
 ·unfold Vs;by_cases e:i=j
  ·subst e;simp only[Nat.beq_refl,cond];rw[bO];exact .dead
  ·have hb:Nat.beq i j=false:=by
        cases hb:Nat.beq i j with
        |true=>exact absurd (ae hb) e
        |false=>rfl
   rw[hb,cJ e];exact K4 hg cH (h.blocks i)
 ·by_cases e:i=j
  ·subst e;rw[bO]at hi;cases hi
  ·by_cases e':k=j
   ·subst e';rw[bO]at hk;cases hk
   ·rw[cJ e]at hi;rw[cJ e']at hk;exact h.kO i k b hi hk
 ·by_cases e:i=j
  ·subst e;rw[bO];simp
  ·rw[cJ e];exact h.nodup i
 ·by_cases e:i=j
  ·subst e;rw[bO]at hb;cases hb
  ·rw[cJ e]at hb;exact h.lt i b hb
 ·by_cases e:i=j
  ·subst e;rw[bO]at hb;cases hb
  ·rw[cJ e]at hb;exact h.src i b hb
theorem St.frozen{nt:Nat}{T:TM}{a:Act}(hS:St Γ nt T H ρ F a w){j:Nat}{g:SV->SV}(hgg:(∀b,bg Γ F w b->bg Γ (gR F j []) w b)->(∀b∈F j,bg Γ (gR F j []) w b)-> ∀a v,b9 ρ w (bg Γ F w) a v->b9 ρ w (bg Γ (gR F j []) w) (g a) v):St Γ nt (DX g T) (Sl j g H) ρ (gR F j []) a w:=by
 have h:=hS.mem;have cH:∀b,bg Γ F w b->bg Γ (gR F j []) w b:=by
  intro b hb;refine⟨hb.1,hb.2.1,?_⟩;rintro⟨i,hi⟩;by_cases e:i=j
  ·subst e;rw[bO]at hi;cases hi
  ·rw[cJ e]at hi;exact hb.2.2 ⟨i,hi⟩
 have qG:∀b∈F j,bg Γ (gR F j []) w b:=by
  intro b hb;refine⟨h.lt j b hb, .inr (h.src j b hb),?_⟩;rintro⟨i,hi⟩;by_cases e:i=j
  ·subst e;rw[bO]at hi;cases hi
  ·rw[cJ e]at hi;exact e (h.kO i j b hi hb)
 have hg:=hgg cH qG;refine⟨⟨fun i=>?_,fun i k b hi hk=>?_,fun i=>?_,fun i b hb=>?_,fun i b hb=>?_,h.oN,h.frame,h.size,h.os,h.tape,h.output,h.CR⟩,hS.defers,hS.nt,fun i=>PK hg cH (hS.tmps i)⟩
 ·unfold Sl;by_cases e:i=j
  ·subst e;simp only[Nat.beq_refl,cond];rw[bO];exact .dead
  ·have hb:Nat.beq i j=false:=by
        cases hb:Nat.beq i j with
        |true=>exact absurd (ae hb) e
        |false=>rfl
   rw[hb,cJ e];exact K4 hg cH (h.blocks i)
 ·by_cases e:i=j
  ·subst e;rw[bO]at hi;cases hi
  ·by_cases e':k=j
   ·subst e';rw[bO]at hk;cases hk
   ·rw[cJ e]at hi;rw[cJ e']at hk;exact h.kO i k b hi hk
 ·by_cases e:i=j
  ·subst e;rw[bO];simp
  ·rw[cJ e];exact h.nodup i
 ·by_cases e:i=j
  ·subst e;rw[bO]at hb;cases hb
  ·rw[cJ e]at hb;exact h.lt i b hb
 ·by_cases e:i=j
  ·subst e;rw[bO]at hb;cases hb
  ·rw[cJ e]at hb;exact h.src i b hb
theorem St.Tp{nt:Nat}{T:TM}{a:Act}(hS:St Γ nt T H ρ F a w){j:Nat}{cs:List CV}(hr:VI (H j)=some cs):St Γ nt (DX (QP j cs) T) (Sl j (QP j cs) H) ρ (gR F j []) a w:=by
 refine hS.frozen fun cH qG a v hd=>?_
 have hB:=hS.mem.hb (n9.refl H);unfold VI at hr;split at hr
 case h_2=>cases hr
 rename_i sz dn hj;injection hr with hr
 subst hr;obtain⟨b,ty,arr,hρ,hh,hl,bw,ID⟩:=HC hB hj;cases hd with
 |c h=>exact .c (h.mono (fun _ _=>rfl) cH (by simp))
 | @lp i off b' h=>
   simp only[QP];cases hb:Nat.beq i j with
   |true=>
    have:=ae hb;subst this;rw[hρ]at h;simp only[Option.some.injEq,Value.pointer.injEq,Addr.mk.injEq,and_true]at h;subst h;have mm:=ig (xc hh) off;rw[eW,Nat.zero_add]at mm;exact .c (.rp (by simp) (gI (bw.mono (fun _ _=>rfl) cH (by simp)) off) rfl (fun k x hx=>⟨_,rfl,rfl,qG b (by simp[ID]),mm k x hx⟩) .nil)
   |false=>exact .lp h
 |le h=>exact .le h
 |lw h=>exact .lw h
 |ls h h1 h2 h3 h4=>exact .ls h h1 h2 h3 h4
 |mp h=>exact .mp h
theorem rG{sz idx off:Nat}{rows:List (List CV)}{r cs:List CV}(hr:∀r∈rows,r.length=sz)(hx:rows[idx]? =some r)(wO:off+cs.length≤sz):(rows.set idx (bo r off cs)).flatten=bo rows.flatten (idx*sz+off) cs:=by
 have sU:=hr r (List.mem_of_getElem? hx);have Bu:=(List.getElem?_eq_some_iff.1 hx).1;have e0:rows=rows.take idx++r::rows.drop (idx+1):=by
  obtain⟨h1,h2⟩:=List.getElem?_eq_some_iff.1 hx;rw[<-h2];simp
 have e1:rows.set idx (bo r off cs)=rows.take idx++bo r off cs::rows.drop (idx+1):=by
  rw[List.set_eq_take_append_cons_drop];simp[Bu]
 have eu:(rows.take idx).flatten.length=idx*sz:=by
  rw[fE fun r my=>hr r (List.mem_of_mem_take my),aq]
  congr 1
  omega
 rw[e1]
 conv=>rhs;rw[e0]
 simp only[List.flatten_append,List.flatten_cons];unfold bo;rw[List.take_append,eu,List.take_of_length_le (l:=(rows.take idx).flatten) (by omega),show idx*sz+off-idx*sz=off by omega,List.take_append,List.drop_append,eu,
  List.drop_of_length_le (l:=(rows.take idx).flatten) (by omega),show idx*sz+off+cs.length-idx*sz=off+cs.length by omega,List.drop_append,
  show off-r.length=0 by omega,show off+cs.length-r.length=0 by omega]
 simp
theorem St.close{nt:Nat}{T:TM}{a:Act}(hS:St Γ nt T H ρ F a w){j idx off k:Nat}{o:Option Value}{ty sz:Nat}{rows:List (List CV)}{r:List CV}{v:Value}{c:CV}(h1:H j= .aU o ty sz rows)(h2:rows[idx]? =some r)(h3:r[off]? =some (.val v))
 (hc:ρ k=some v->Den w (bg Γ F w) [c] [v] (F k))(hk:∃u,ρ k=some u/\u=v)(vx:Nat.beq j k=false):∃F',St Γ nt T (dY (dY H k .dead) j (.aU o ty sz (rows.set idx (bo r off [c])))) ρ F' a w:=by
 have hm:=hS.mem;have jr:=Bl vx;obtain⟨u,xs,f,hu,ho,hr,bw,hF,hv⟩:=et (hm.hb (n9.refl H)) h1;obtain⟨_,adr,rfl⟩:=hk;have hd:=hc adr;have sU:=hr r (List.mem_of_getElem? h2);have PU:=(List.getElem?_eq_some_iff.1 h3).1;have Bu:=(List.getElem?_eq_some_iff.1 h2).1;obtain⟨f1,f2,f3,rfl,Rz⟩:=xz bw hd (idx*sz+off);rw[<-rG hr h2 (by simp;omega)]at Rz;rename_i u0;have kR:rows.flatten[idx*sz+off]? =some (.val u0):=by
  have h5:=fZ hr h2;have h6:((rows.flatten.drop (idx*sz)).take sz)[off]? =some (.val u0):=by rw[h5];exact h3
  rw[List.getElem?_take,if_pos (by omega),List.getElem?_drop]at h6;exact h6
 have qC:xs[idx*sz+off]? =some u0:=by
  have eu:idx*sz+off<rows.flatten.length:=(List.getElem?_eq_some_iff.1 kR).1;have OB:idx*sz+off<xs.length:=by rw[<-bw.length];exact eu
  obtain⟨g1,g2,_,k1,k2⟩:=pM bw (idx*sz+off);have e1:rows.flatten.drop (idx*sz+off)= .val u0::rows.flatten.drop (idx*sz+off+1):=by
   rw[List.drop_eq_getElem_cons eu]
   congr 1
   have:=List.getElem?_eq_getElem eu;rw[kR]at this;injection this with this
   exact this.symm
  have e2:xs.drop (idx*sz+off)=xs[idx*sz+off]::xs.drop (idx*sz+off+1):=List.drop_eq_getElem_cons OB;rw[e1,e2]at k2;rw[List.getElem?_eq_getElem OB];generalize xs[idx*sz+off]=y at k2;cases k2;rfl
 have abw:bo xs (idx*sz+off) [u0]=xs:=by
  unfold bo;have OB:=(List.getElem?_eq_some_iff.1 qC).1;have:xs[idx*sz+off]=u0:=(List.getElem?_eq_some_iff.1 qC).2
  conv=>rhs;rw[<-List.take_append_drop (idx*sz+off) xs,List.drop_eq_getElem_cons OB,this]
  simp
 rw[abw]at Rz;have gB:=hm.nodup j;rw[hF]at gB;have BD:∀b∈F k,b∉F j:=fun b hb E8=>jr (hm.kO j k b E8 hb)
 have oT:∀q∈rows.set idx (bo r off [c]),q.length=sz:=by
  intro q hq;rcases List.mem_or_eq_of_mem_set hq with h|h
  ·exact hr q h
  ·rw[h,il (by simp;omega)];exact sU
 rw[List.nodup_append,List.nodup_append,List.nodup_append]at gB;obtain⟨n1,⟨⟨n2,_,n3⟩,n4,n5⟩,n6⟩:=gB;obtain⟨g1,g2,g3⟩:=hm.qT (j:=j) (ks:=[k]) (k:= .aU o ty sz (rows.set idx (bo r off [c]))) (f:=u.ownBlock.toList++(f1++F k++f3)) (ρ':=ρ) (w':=w) rfl rfl rfl (aw _) (Ext.refl _) (fun _ _=>rfl) (by simpa using jr) (fun _ _ _ _=>rfl)
  (fun b hb=>by
   simp only[ao]at hb;rcases hb with hb|(hb|hb)|hb
   ·exact .inl (by rw[hF];simp;exact .inl (by simpa using hb))
   ·exact .inl (by rw[hF];simp[hb])
   ·exact .inr (.inl ⟨k,by simp,hb⟩)
   ·exact .inl (by rw[hF];simp[hb]))
  (by
   rw[List.nodup_append,List.nodup_append,List.nodup_append];refine⟨n1,⟨⟨n2,hm.nodup k,fun a ha b hb e=>?_⟩,n4,fun a ha b hb e=>?_⟩,fun a ha b hb e=>?_⟩
   ·subst e;exact BD a hb (by rw[hF];simp[ha])
   ·subst e;rcases ao.1 ha with ha|ha
    ·exact n5 a (by simp[ha]) a hb rfl
    ·exact BD a ha (by rw[hF];simp[hb])
   ·subst e;simp only[ao]at hb;rcases hb with(hb|hb)|hb
    ·exact n6 a ha a (by simp[hb]) rfl
    ·exact BD a hb (by rw[hF];exact List.mem_append_left _ ha)
    ·exact n6 a ha a (by simp[hb]) rfl)
  (fun ok' iu=>by
   rw[hu];exact .aU (xs:=xs) (by rw[af];exact ho) oT (Rz.mono (fun _ _=>rfl) iu (fun _ _=>rfl)) hv)
 exact⟨_,hS.move g1 (Ext.refl _) g2 g3⟩
theorem St.soft{nt:Nat}{T:TM}{a:Act}(hS:St Γ nt T H ρ F a w){j:Nat}{b':dW}(hs:iP (H j) b'):∃f',St Γ nt T (dY H j b') ρ (gR F j f') a w:=by
 have h:=hS.mem;obtain⟨f',jn,hd⟩:=hs.den (h.blocks j) (h.nodup j);have cH:∀b,bg Γ F w b->bg Γ (gR F j f') w b:=by
  intro b hb;refine⟨hb.1,hb.2.1,?_⟩;rintro⟨i,hi⟩;by_cases e:i=j
  ·subst e;rw[bO]at hi;exact hb.2.2 ⟨_,jn.subset hi⟩
  ·rw[cJ e]at hi;exact hb.2.2 ⟨i,hi⟩
 have qG:∀b∈F j,b∉f'->bg Γ (gR F j f') w b:=by
  intro b hb fX;refine⟨h.lt j b hb, .inr (h.src j b hb),?_⟩;rintro⟨i,hi⟩;by_cases e:i=j
  ·subst e;rw[bO]at hi;exact fX hi
  ·rw[cJ e]at hi;exact e (h.kO i j b hi hb)
 refine⟨f',⟨fun i=>?_,fun i k b hi hk=>?_,fun i=>?_,fun i b hb=>?_,fun i b hb=>?_,h.oN,h.frame,h.size,h.os,h.tape,h.output,h.CR⟩,hS.defers,hS.nt,fun i=>(hS.tmps i).mono (fun _ _=>rfl) cH (Ext.refl _)⟩
 ·by_cases e:i=j
  ·subst e;rw[bO,eF];exact hd _ cH qG
  ·rw[cJ e,fP e];exact(h.blocks i).mono (fun _ _=>rfl) cH (fun _ _=>rfl) (Ext.refl _)
 ·have lg:b∈F i:=by
   by_cases e:i=j
   ·subst e;rw[bO]at hi;exact jn.subset hi
   ·rwa[cJ e]at hi
  have sY:b∈F k:=by
   by_cases e:k=j
   ·subst e;rw[bO]at hk;exact jn.subset hk
   ·rwa[cJ e]at hk
  exact h.kO i k b lg sY
 ·by_cases e:i=j
  ·subst e;rw[bO];exact jn.nodup (h.nodup _)
  ·rw[cJ e];exact h.nodup i
 ·by_cases e:i=j
  ·subst e;rw[bO]at hb;exact h.lt _ b (jn.subset hb)
  ·rw[cJ e]at hb;exact h.lt i b hb
 ·by_cases e:i=j
  ·subst e;rw[bO]at hb;exact h.src _ b (jn.subset hb)
  ·rw[cJ e]at hb;exact h.src i b hb
theorem St.fill{nt:Nat}{T:TM}{a:Act}(hS:St Γ nt T H ρ F a w){j k sz ty Wi:Nat}{cs dn:List CV}{rows:List (List CV)}{v:Value}(h1:H j= .cc sz cs)(h2:H k= .row (some v) ty Wi rows)(vx:Nat.beq j k=false)(hs:oO v (.ro Wi rows) cs dn):
 ∃F',St Γ nt T (dY (dY H k .dead) j (.cc sz dn)) ρ F' a w:=by
 have h:=hS.mem;have jr:=Bl vx;have cH:∀b,bg Γ F w b->bg Γ (gR F k []) w b:=by
  intro b hb;refine⟨hb.1,hb.2.1,?_⟩;rintro⟨i,hi⟩;by_cases e:i=k
  ·subst e;rw[bO]at hi;cases hi
  ·rw[cJ e]at hi;exact hb.2.2 ⟨i,hi⟩
 have qG:∀b∈F k,bg Γ (gR F k []) w b:=by
  intro b hb;refine⟨h.lt k b hb, .inr (h.src k b hb),?_⟩;rintro⟨i,hi⟩;by_cases e:i=k
  ·subst e;rw[bO]at hi;cases hi
  ·rw[cJ e]at hi;exact e (h.kO i k b hi hb)
 have hr:Den w (bg Γ (gR F k []) w) [.ro Wi rows] [v] []:=by
  obtain⟨v',xs,gZ,ho,Za,bw,hF,hm⟩:=jx (h.hb (n9.refl H)) h2;have EH:=hm _ rfl;subst EH;have:=lz (Den.ows bw Za ho .nil) cH (by rw[hF]at qG;simpa using qG);simpa[mV]using this
 refine⟨gR F k [],⟨fun i=>?_,fun i l b hi hl=>?_,fun i=>?_,fun i b hb=>?_,fun i b hb=>?_,h.oN,h.frame,h.size,h.os,h.tape,h.output,h.CR⟩,hS.defers,hS.nt,fun i=>(hS.tmps i).mono (fun _ _=>rfl) cH (Ext.refl _)⟩
 ·by_cases e:i=j
  ·subst e;rw[eF,cJ jr];have hb:=h.blocks i;rw[h1]at hb;generalize hv:ρ i=o at hb;generalize hf:F i=fi at hb;cases hb with
   |cc hb hl hd=>exact .cc hb (by rw[hs.len];exact hl) (hs.den cH hr hd)
  ·rw[fP e];by_cases e2:i=k
   ·subst e2;rw[eF,bO];exact .dead
   ·rw[fP e2,cJ e2];exact(h.blocks i).mono (fun _ _=>rfl) cH (fun _ _=>rfl) (Ext.refl _)
 ·have lg:b∈F i:=by
   by_cases e:i=k
   ·subst e;rw[bO]at hi;cases hi
   ·rwa[cJ e]at hi
  have uY:b∈F l:=by
   by_cases e:l=k
   ·subst e;rw[bO]at hl;cases hl
   ·rwa[cJ e]at hl
  exact h.kO i l b lg uY
 ·by_cases e:i=k
  ·subst e;rw[bO];exact List.nodup_nil
  ·rw[cJ e];exact h.nodup i
 ·by_cases e:i=k
  ·subst e;rw[bO]at hb;cases hb
  ·rw[cJ e]at hb;exact h.lt i b hb
 ·by_cases e:i=k
  ·subst e;rw[bO]at hb;cases hb
  ·rw[cJ e]at hb;exact h.src i b hb
theorem St.C7{nt:Nat}{T:TM}{a:Act}(hS:St Γ nt T H ρ F a w){j k i:Nat}{o:Option Value}{ty sz:Nat}{rows:List (List CV)}{row mw:List CV}{v:Value}{mq fN:Nat}{dr:List (List CV)}(h1:H j= .aU o ty sz rows)(h2:rows[i]? =some row)(h4:H k= .aU (some v) mq fN dr)(vx:Nat.beq j k=false)(hs:mv v (.own mq fN dr) row mw):
 ∃F',St Γ nt T (dY (dY H k .dead) j (.aU o ty sz (rows.set i mw))) ρ F' a w:=by
 have hm:=hS.mem;have jr:=Bl vx;obtain⟨u,xs,f,hu,ho,hr,bw,hF,hv⟩:=et (hm.hb (n9.refl H)) h1;obtain⟨v',MD,f',gZ,N9,my,Pn,I5,Wm⟩:=et (hm.hb (n9.refl H)) h4;have EH:=Wm _ rfl;subst EH;have hd:Den w (bg Γ F w) [.own mq fN dr] [v'] (F k):=by
  have:=Den.own Pn my N9 .nil;rw[I5];simpa using this
 obtain⟨f2,Rz,hp⟩:=(mv.rows h2 hs).den hd bw;have BD:∀b∈F k,b∉F j:=fun b hb E8=>jr (hm.kO j k b E8 hb)
 have oT:∀q∈rows.set i mw,q.length=sz:=by
  intro q hq;rcases List.mem_or_eq_of_mem_set hq with h|h
  ·exact hr q h
  ·rw[h,hs.len];exact hr row (List.mem_of_getElem? h2)
 have uZ:(u.ownBlock.toList++f2).Perm (F j++F k):=by
  rw[hF,List.append_assoc];exact hp.append_left _
 obtain⟨g1,g2,g3⟩:=hm.qT (j:=j) (ks:=[k]) (k:= .aU o ty sz (rows.set i mw)) (f:=u.ownBlock.toList++f2) (ρ':=ρ) (w':=w) rfl rfl rfl (aw _) (Ext.refl _) (fun _ _=>rfl) (by simpa using jr) (fun _ _ _ _=>rfl)
  (fun b hb=>by
   rcases ao.1 (uZ.mem_iff.1 hb)with hb|hb
   ·exact .inl hb
   ·exact .inr (.inl ⟨k,by simp,hb⟩))
  (by
   refine uZ.nodup_iff.2 ?_;rw[List.nodup_append];exact⟨hm.nodup j,hm.nodup k,fun a ha b hb e=>BD a (e▸hb) ha⟩)
  (fun ok' iu=>by
   rw[hu];exact .aU (xs:=xs) (by rw[af];exact ho) oT (Rz.mono (fun _ _=>rfl) iu (fun _ _=>rfl)) hv)
 exact⟨_,hS.move g1 (Ext.refl _) g2 g3⟩
theorem St.Pf{nt:Nat}{T:TM}{a:Act}(hS:St Γ nt T H ρ F a w){j i k:Nat}{cs:List SV}{v:Value}{ty sz:Nat}{rows:List (List CV)}(h1:H j= .cells cs)(h2:cs[i]? =some (.lw k))(h3:H k= .aU (some v) ty sz rows):
 St Γ nt T (dY H j (.cells (cs.set i (.c (.val v))))) ρ F a w:=by
 have hm:=hS.mem;obtain⟨v',xs,f,hv,ho,hr,bw,hF,Wm⟩:=et (hm.hb (n9.refl _)) h3;have EH:=Wm _ rfl;subst EH;refine⟨⟨fun l=>?_,hm.kO,hm.nodup,hm.lt,hm.src,hm.oN,hm.frame,hm.size,hm.os,hm.tape,hm.output,hm.CR⟩,hS.defers,hS.nt,hS.tmps⟩;by_cases e:l=j
 ·subst e;rw[eF];have hb:=hm.blocks l;rw[h1]at hb;generalize wj:ρ l=o at hb;generalize hf:F l=fi at hb;cases hb with
  | @cells ty cs b arr hb hl hh=>
    refine .cells hb (by rw[af];exact hl) fun m a u ha hu=>?_
    rw[List.getElem?_set]at ha;split at ha
    ·rename_i ZS;split at ha
     ·subst ZS;obtain rfl:=Option.some.inj ha;have:=hh i _ u h2 hu;cases this with
      |lw hx=>
       rw[hv]at hx;injection hx with hx
       subst hx;exact .c (.val (kP ho) .nil)
     ·cases ha
    ·exact hh m a u ha hu
 ·rw[fP e];exact hm.blocks l
theorem nV{nt np n:Nat}(s7:te Γ np){T:TM}{H:HM}{K:TM->HM->Prop}(h:Gh np n T H K):∀{ρ:RM} {F:FM} {a:Act} {w:World},St Γ nt T H ρ F a w->iI ρ n-> ∃T' H' ρ' F',K T' H'/\St Γ nt T' H' ρ' F' a w/\iI ρ' n:=by
 induction h with
 |go k=>intro ρ F a w hS hf;exact⟨_,_,ρ,F,k,hS,hf⟩
 |Eg j r hr _ ih=>intro ρ F a w hS hf;exact ih (hS.Eg hr) hf
 |EO j cs hr _ ih=>intro ρ F a w hS hf;exact ih (hS.Tp hr) hf
 |soft j h _ ih=>
  intro ρ F a w hS hf;obtain⟨f',h'⟩:=hS.soft h;exact ih h' hf
 | @CR T H K j o ty sz rows h _ ih=>
   intro ρ F a w hS hf;obtain⟨v,xs,f,hv,ho,hr,bw,hF,hm⟩:=et (hS.mem.hb (n9.refl _)) h;refine ih v (F:=F) ?_ hf;have hm:=hS.mem;refine⟨⟨fun i=>?_,hm.kO,hm.nodup,hm.lt,hm.src,hm.oN,hm.frame,hm.size,hm.os,hm.tape,hm.output,hm.CR⟩,hS.defers,hS.nt,hS.tmps⟩;by_cases e:i=j
   ·subst e;rw[eF,hv,hF];exact .aU ho hr bw (by simp)
   ·rw[fP e];exact hm.blocks i
 | @told T H K i j v ty sz rows ht h _ ih=>
   intro ρ F a w hS hf;refine ih (F:=F) ⟨hS.mem,hS.defers,hS.nt,fun k=>?_⟩ hf;unfold Dm;cases hb:Nat.beq k i with
   |false=>exact hS.tmps k
   |true=>
    have:=ae hb;subst this;have h0:=hS.tmps k;rw[ht]at h0;obtain⟨v',xs,f,hv,ho,hr,bw,hF,hm⟩:=et (hS.mem.hb (n9.refl _)) h;have EH:=hm _ rfl;have h1:=(wg h0).1;rw[hv]at h1;injection h1 with h1
    rw[<-h1,EH];exact .v (.c (.c (.val (EH▸kP ho) .nil)))
 | @link T H K i j v ty sz rows ht h _ ih=>
   intro ρ F a w hS hf;refine ih (F:=F) ⟨hS.mem,hS.defers,hS.nt,fun k=>?_⟩ hf;unfold Dm;cases hb:Nat.beq k i with
   |false=>exact hS.tmps k
   |true=>
    have:=ae hb;subst this;have h0:=hS.tmps k;rw[ht]at h0;obtain⟨v',xs,f,hv,ho,hr,bw,hF,hm⟩:=et (hS.mem.hb (n9.refl _)) h;have EH:=hm _ rfl;have h1:=fD (b9.jM h0);subst EH;simp only[cond];rw[h1];rcases dJ ho with⟨e,_⟩|⟨b,c,e,_⟩<;>(refine .v (.c ?_);subst e;exact .lw hv)
 |close j idx off k h1 h2 h3 h4 vx _ ih=>
  intro ρ F a w hS hf;obtain⟨v',xs,f,gZ,ho,hr,bw,hF,hm⟩:=et (hS.mem.hb (n9.refl _)) h4;have EH:=hm _ rfl;obtain⟨F',h⟩:=hS.close (c:= .own _ _ _) h1 h2 h3 (fun hk=>by
   have:=Den.own bw hr ho .nil;rw[hF];rw[EH]at this⊢;simpa using this) ⟨v',gZ,EH⟩ vx
  exact ih h hf
 |j8 j idx off k h1 h2 h3 h4 vx _ ih=>
  intro ρ F a w hS hf;obtain⟨v',xs,gZ,ho,hr,bw,hF,hm⟩:=jx (hS.mem.hb (n9.refl _)) h4;have EH:=hm _ rfl;obtain⟨F',h⟩:=hS.close (c:= .ows _ _ _) h1 h2 h3 (fun hk=>by
   have:=Den.ows bw hr ho .nil;rw[hF];rw[EH]at this⊢;simpa using this) ⟨v',gZ,EH⟩ vx
  exact ih h hf
 |fill j k h1 h2 vx hs _ ih=>
  intro ρ F a w hS hf;obtain⟨F',h⟩:=hS.fill h1 h2 vx hs;exact ih h hf
 |C7 j k i h1 h2 h4 vx hs _ ih=>
  intro ρ F a w hS hf;obtain⟨F',h⟩:=hS.C7 h1 h2 h4 vx hs;exact ih h hf
 |Pf j i k h1 h2 h3 _ ih=>
  intro ρ F a w hS hf;exact ih (hS.Pf h1 h2 h3) hf
 |N2 a b h _ ih=>
  intro ρ F act w hS hf;simp only[ab]at h;obtain⟨T',H',ρ',F',k1,k2,k3⟩:=l5 (rn:=[(a,b)]) (K:=fun T' H'=>T'=DX (Hz a b) _/\H'=MZ a b _) s7 (by simp only[ta,h.1,cond];exact⟨rfl,rfl⟩) hS hf (fun p hp=>by simp at hp;subst hp;have:=h.2;rwa[Nat.blt_eq]at this);obtain⟨rfl,rfl⟩:=k1;exact ih k2 k3
end
inductive jY:Nat->TM->HM->(TM->HM->Nat->Prop)->Prop
 |go {n T H K} (k:K T H n):jY n T H K
 |opens {n T H K} (j idx off:Nat) {o:Option Value} {ty sz:Nat} {rows:List (List CV)} {r:List CV} {mq fN:Nat} {dr:List (List CV)} (h1:H j= .aU o ty sz rows) (h2:rows[idx]? =some r) (h3:r[off]? =some (.ows mq fN dr))
  (k:∀v:Value,jY (n+1) T (dY (dY H n (.row (some v) mq fN dr)) j (.aU o ty sz (rows.set idx (bo r off [.val v])))) K):jY n T H K
 |OK {n T H K} (j idx off:Nat) {o:Option Value} {ty sz:Nat} {rows:List (List CV)} {r:List CV} {mq fN:Nat} {dr:List (List CV)} (h1:H j= .aU o ty sz rows) (h2:rows[idx]? =some r) (h3:r[off]? =some (.own mq fN dr))
  (k:∀v:Value,jY (n+1) T (dY (dY H n (.aU (some v) mq fN dr)) j (.aU o ty sz (rows.set idx (bo r off [.val v])))) K):jY n T H K
 |move {n T H K} (j:Nat) {o:Option Value} {ty sz:Nat} {rows:List (List CV)} (h1:H j= .aU o ty sz rows) (k:∀v:Value,(∀u,o=some u->v=u)->jY (n+1) T (dY (dY H n (.aU (some v) ty sz rows)) j .dead) K):jY n T H K
section
variable{Γ:Cx}{H:HM}{ρ:RM}{F:FM}{w:World}
theorem CP{sz idx off:Nat}{rows:List (List CV)}{r:List CV}{c:CV}(hr:∀r∈rows,r.length=sz)(h2:rows[idx]? =some r)(h3:r[off]? =some c):
 rows.flatten=rows.flatten.take (idx*sz+off)++([c]++rows.flatten.drop (idx*sz+off+1)):=by
 have sU:=hr r (List.mem_of_getElem? h2);have PU:=(List.getElem?_eq_some_iff.1 h3).1;have h5:=fZ hr h2;have h6:((rows.flatten.drop (idx*sz)).take sz)[off]? =some c:=by rw[h5];exact h3
 rw[List.getElem?_take,if_pos (by omega),List.getElem?_drop]at h6;have eu:=(List.getElem?_eq_some_iff.1 h6).1;have e:=(List.getElem?_eq_some_iff.1 h6).2
 conv=>lhs;rw[<-List.take_append_drop (idx*sz+off) rows.flatten,List.drop_eq_getElem_cons eu,e]
 rfl
theorem Kx(hm:Mem Γ H ρ F w){n j idx off:Nat}(iU:ρ n=none){o:Option Value}{ty sz:Nat}{rows:List (List CV)}{r:List CV}{mq fN:Nat}{dr:List (List CV)}(h1:H j= .aU o ty sz rows)(h2:rows[idx]? =some r)(h3:r[off]? =some (.ows mq fN dr)):
 ∃v ρ' F',Ext ρ ρ'/\(∀i,ρ' i≠ρ i->i=n)/\Mem Γ (dY (dY H n (.row (some v) mq fN dr)) j (.aU o ty sz (rows.set idx (bo r off [.val v])))) ρ' F' w/\ ∀b,bg Γ F w b->bg Γ F' w b:=by
 obtain⟨rv,xs,f,hρ,ho,hr,bw,hF,hv⟩:=et (hm.hb (n9.refl H)) h1;have sU:=hr r (List.mem_of_getElem? h2);have PU:=(List.getElem?_eq_some_iff.1 h3).1;have Jv:=CP hr h2 h3;have Tr:=bw;rw[Jv]at bw;obtain⟨us,ts,g,k,rfl,rfl,d1,d2⟩:=Den.split bw;obtain⟨us2,VA,g2,k2,rfl,rfl,d3,d4⟩:=Den.split d2;cases d3 with
 | @ows as vs f ty sz rows xs v Pn my N9 ht=>
   cases ht;have VM:n≠j:=(kM hm (n9.refl H) iU (by rw[h1];simp)).symm;have Oz:=hm.nodup j;rw[hF]at Oz;have jS:=kP N9
   let L':List rH:=[⟨n, .row (some v) mq fN dr,v.ownBlock.toList,some v⟩,⟨j, .aU o ty sz (rows.set idx (bo r off [.val v])),rv.ownBlock.toList++(g++k2),none⟩]
   have gB:(L'.map (·.nm)).Nodup:=by simp[L',VM]
   have pe:∀e∈L',e.v≠none->ρ e.nm=none:=by
    intro e he oz;simp only[L',List.mem_cons,List.not_mem_nil,or_false]at he;rcases he with rfl|rfl
    ·exact iU
    ·exact absurd rfl oz
   have xT:((L'.map (·.f)).flatten).Perm (rv.ownBlock.toList++(g++((v.ownBlock.toList++[])++k2))):=by
    simp only[L',List.map_cons,List.map_nil,List.flatten_cons,List.flatten_nil,List.append_nil];refine(List.perm_append_comm_assoc _ _ _).trans (.append_left _ ?_);exact List.perm_append_comm_assoc _ _ _
   have qW:∀ok':Nat->Prop,(∀b,bg Γ F w b->ok' b)->Den w ok' (rows.set idx (bo r off [.val v])).flatten (us++([v]++VA)) (g++k2):=by
    intro ok' iu;rw[rG hr h2 (by simp;omega)];unfold bo;have:=d1.append ((mk_val (w:=w) (ok:=bg Γ F w) jS).append d4);have:=this.mono (w':=w) (fun _ _=>rfl) iu (fun _ _=>rfl);simpa using this
   obtain⟨k1,k3,_⟩:=hm.ents L' (w':=w) rfl rfl rfl (aw _) gB pe (fun _ _ _=>rfl)
    (fun e he c hc=>by
        left;refine⟨⟨j, .aU o ty sz (rows.set idx (bo r off [.val v])),rv.ownBlock.toList++(g++k2),none⟩,by simp[L'],?_⟩;show c∈F j;rw[hF];exact xT.subset (List.mem_flatten.2 ⟨e.f,List.mem_map.2 ⟨e,he,rfl⟩,hc⟩))
    (xT.nodup_iff.2 Oz)
    (fun e he iu=>by
        simp only[L',List.mem_cons,List.not_mem_nil,or_false]at he;rcases he with rfl|rfl
        ·simp only[n8];exact .row N9 my (Pn.mono (fun _ _=>rfl) iu (by simp)) (by simp)
        ·simp only[n8,hρ];refine .aU (xs:=us++([v]++VA)) (by rw[af];exact ho) (fun q hq=>?_) (qW _ iu) hv;rcases List.mem_or_eq_of_mem_set hq with h1|h1
         ·exact hr q h1
         ·rw[h1,il (by simp;omega)];exact sU)
   obtain⟨x1,x2⟩:=pF L' gB pe;refine⟨v,_,_,x1,fun i hi=>?_,?_,k3⟩
   ·obtain⟨e,he,rfl,oz⟩:=x2 i hi;simp only[L',List.mem_cons,List.not_mem_nil,or_false]at he;rcases he with rfl|rfl
    ·rfl
    ·exact absurd rfl oz
   ·rw[pV]at k1;exact k1
theorem Ig(hm:Mem Γ H ρ F w){n j idx off:Nat}(iU:ρ n=none){o:Option Value}{ty sz:Nat}{rows:List (List CV)}{r:List CV}{mq fN:Nat}{dr:List (List CV)}(h1:H j= .aU o ty sz rows)(h2:rows[idx]? =some r)(h3:r[off]? =some (.own mq fN dr)):
 ∃v ρ' F',Ext ρ ρ'/\(∀i,ρ' i≠ρ i->i=n)/\Mem Γ (dY (dY H n (.aU (some v) mq fN dr)) j (.aU o ty sz (rows.set idx (bo r off [.val v])))) ρ' F' w/\ ∀b,bg Γ F w b->bg Γ F' w b:=by
 obtain⟨rv,xs,f,hρ,ho,hr,bw,hF,hv⟩:=et (hm.hb (n9.refl H)) h1;have sU:=hr r (List.mem_of_getElem? h2);have PU:=(List.getElem?_eq_some_iff.1 h3).1;have Jv:=CP hr h2 h3;have Tr:=bw;rw[Jv]at bw;obtain⟨us,ts,g,k,rfl,rfl,d1,d2⟩:=Den.split bw;obtain⟨us2,VA,g2,k2,rfl,rfl,d3,d4⟩:=Den.split d2;cases d3 with
 | @own as vs f ty sz rows xs v g' Pn my N9 ht=>
   cases ht;have VM:n≠j:=(kM hm (n9.refl H) iU (by rw[h1];simp)).symm;have Oz:=hm.nodup j;rw[hF]at Oz;have jS:=kP N9
   let L':List rH:=[⟨n, .aU (some v) mq fN dr,v.ownBlock.toList++g',some v⟩,⟨j, .aU o ty sz (rows.set idx (bo r off [.val v])),rv.ownBlock.toList++(g++k2),none⟩]
   have gB:(L'.map (·.nm)).Nodup:=by simp[L',VM]
   have pe:∀e∈L',e.v≠none->ρ e.nm=none:=by
    intro e he oz;simp only[L',List.mem_cons,List.not_mem_nil,or_false]at he;rcases he with rfl|rfl
    ·exact iU
    ·exact absurd rfl oz
   have xT:((L'.map (·.f)).flatten).Perm (rv.ownBlock.toList++(g++((v.ownBlock.toList++g'++[])++k2))):=by
    simp only[L',List.map_cons,List.map_nil,List.flatten_cons,List.flatten_nil,List.append_nil];refine(List.perm_append_comm_assoc _ _ _).trans (.append_left _ ?_);exact List.perm_append_comm_assoc _ _ _
   have qW:∀ok':Nat->Prop,(∀b,bg Γ F w b->ok' b)->Den w ok' (rows.set idx (bo r off [.val v])).flatten (us++([v]++VA)) (g++k2):=by
    intro ok' iu;rw[rG hr h2 (by simp;omega)];unfold bo;have:=d1.append ((mk_val (w:=w) (ok:=bg Γ F w) jS).append d4);have:=this.mono (w':=w) (fun _ _=>rfl) iu (fun _ _=>rfl);simpa using this
   obtain⟨k1,k3,_⟩:=hm.ents L' (w':=w) rfl rfl rfl (aw _) gB pe (fun _ _ _=>rfl)
    (fun e he c hc=>by
        left;refine⟨⟨j, .aU o ty sz (rows.set idx (bo r off [.val v])),rv.ownBlock.toList++(g++k2),none⟩,by simp[L'],?_⟩;show c∈F j;rw[hF];exact xT.subset (List.mem_flatten.2 ⟨e.f,List.mem_map.2 ⟨e,he,rfl⟩,hc⟩))
    (xT.nodup_iff.2 Oz)
    (fun e he iu=>by
        simp only[L',List.mem_cons,List.not_mem_nil,or_false]at he;rcases he with rfl|rfl
        ·simp only[n8];exact .aU N9 my (Pn.mono (fun _ _=>rfl) iu (fun _ _=>rfl)) (by simp)
        ·simp only[n8,hρ];refine .aU (xs:=us++([v]++VA)) (by rw[af];exact ho) (fun q hq=>?_) (qW _ iu) hv;rcases List.mem_or_eq_of_mem_set hq with h1|h1
         ·exact hr q h1
         ·rw[h1,il (by simp;omega)];exact sU)
   obtain⟨x1,x2⟩:=pF L' gB pe;refine⟨v,_,_,x1,fun i hi=>?_,?_,k3⟩
   ·obtain⟨e,he,rfl,oz⟩:=x2 i hi;simp only[L',List.mem_cons,List.not_mem_nil,or_false]at he;rcases he with rfl|rfl
    ·rfl
    ·exact absurd rfl oz
   ·rw[pV]at k1;exact k1
theorem Jy(hm:Mem Γ H ρ F w){n j:Nat}(iU:ρ n=none){o:Option Value}{ty sz:Nat}{rows:List (List CV)}(h1:H j= .aU o ty sz rows):
 ∃v ρ' F',(∀u,o=some u->v=u)/\Ext ρ ρ'/\(∀i,ρ' i≠ρ i->i=n)/\Mem Γ (dY (dY H n (.aU (some v) ty sz rows)) j .dead) ρ' F' w/\ ∀b,bg Γ F w b->bg Γ F' w b:=by
 obtain⟨v,xs,f,hρ,ho,hr,bw,hF,hv⟩:=et (hm.hb (n9.refl H)) h1;have VM:n≠j:=(kM hm (n9.refl H) iU (by rw[h1];simp)).symm;have Oz:=hm.nodup j;rw[hF]at Oz
 let L':List rH:=[⟨n, .aU (some v) ty sz rows,v.ownBlock.toList++f,some v⟩,⟨j, .dead,[],none⟩]
 have gB:(L'.map (·.nm)).Nodup:=by simp[L',VM]
 have pe:∀e∈L',e.v≠none->ρ e.nm=none:=by
  intro e he oz;simp only[L',List.mem_cons,List.not_mem_nil,or_false]at he;rcases he with rfl|rfl
  ·exact iU
  ·exact absurd rfl oz
 obtain⟨k1,k3,_⟩:=hm.ents L' (w':=w) rfl rfl rfl (aw _) gB pe (fun _ _ _=>rfl)
  (fun e he c hc=>by
   left;refine⟨⟨j, .dead,[],none⟩,by simp[L'],?_⟩;show c∈F j;rw[hF];simp only[L',List.mem_cons,List.not_mem_nil,or_false]at he;rcases he with rfl|rfl
   ·exact hc
   ·cases hc)
  (by simpa[L']using Oz)
  (fun e he iu=>by
   simp only[L',List.mem_cons,List.not_mem_nil,or_false]at he;rcases he with rfl|rfl
   ·simp only[n8];exact .aU ho hr (bw.mono (fun _ _=>rfl) iu (fun _ _=>rfl)) (by simp)
   ·exact .dead)
 obtain⟨x1,x2⟩:=pF L' gB pe;refine⟨v,_,_,hv,x1,fun i hi=>?_,?_,k3⟩
 ·obtain⟨e,he,rfl,oz⟩:=x2 i hi;simp only[L',List.mem_cons,List.not_mem_nil,or_false]at he;rcases he with rfl|rfl
  ·rfl
  ·exact absurd rfl oz
 ·rw[pV]at k1;exact k1
theorem CM{nt n:Nat}{T:TM}{H:HM}{K:TM->HM->Nat->Prop}(h:jY n T H K):∀{ρ:RM} {F:FM} {a:Act} {w:World},St Γ nt T H ρ F a w->iI ρ n-> ∃T' H' n' ρ' F',K T' H' n'/\St Γ nt T' H' ρ' F' a w/\iI ρ' n':=by
 induction h with
 |go k=>intro ρ F a w hS hf;exact⟨_,_,_,ρ,F,k,hS,hf⟩
 | @opens n T H K j idx off o ty sz rows r mq fN dr h1 h2 h3 _ ih=>
   intro ρ F a w hS hf;obtain⟨v,ρ',F',x1,x2,hm,cH⟩:=Kx hS.mem (hf n (aw _)) h1 h2 h3;refine ih v (ρ:=ρ') (F:=F') ⟨hm,hS.defers,hS.nt,fun i=>(hS.tmps i).mono (fun _ _=>rfl) cH x1⟩ fun i hi=>?_
   by_cases e:ρ' i=ρ i
   ·rw[e];exact hf i (by omega)
   ·have:=x2 i e;omega
 | @OK n T H K j idx off o ty sz rows r mq fN dr h1 h2 h3 _ ih=>
   intro ρ F a w hS hf;obtain⟨v,ρ',F',x1,x2,hm,cH⟩:=Ig hS.mem (hf n (aw _)) h1 h2 h3;refine ih v (ρ:=ρ') (F:=F') ⟨hm,hS.defers,hS.nt,fun i=>(hS.tmps i).mono (fun _ _=>rfl) cH x1⟩ fun i hi=>?_
   by_cases e:ρ' i=ρ i
   ·rw[e];exact hf i (by omega)
   ·have:=x2 i e;omega
 | @move n T H K j o ty sz rows h1 _ ih=>
   intro ρ F a w hS hf;obtain⟨v,ρ',F',hv,x1,x2,hm,cH⟩:=Jy hS.mem (hf n (aw _)) h1;refine ih v hv (ρ:=ρ') (F:=F') ⟨hm,hS.defers,hS.nt,fun i=>(hS.tmps i).mono (fun _ _=>rfl) cH x1⟩ fun i hi=>?_
   by_cases e:ρ' i=ρ i
   ·rw[e];exact hf i (by omega)
   ·have:=x2 i e;omega
end
inductive X where
 |normal
 |exit (id:Nat)
 |ret
def X.to:X->Exit
 | .normal=> .normal
 | .exit id=> .exit id
 | .ret=> .ret
structure Inv where
 α:Type
 iY:List Nat:=[]
 ov:α->List (Nat × SV)
 hv:α->List (Nat × dW):=fun _=>[]
 φ:α->Prop
 μ:α->Nat
def qs:List Nat->TM->TM
 |[],_=>fun _=> .any
 |k::ks,T=>fun i=>cond (Nat.beq i k) (T i) (qs ks T i)
def N3:List (Nat × SV)->TM->TM
 |[],T=>T
 |(k,v)::r,T=>fun i=>cond (Nat.beq i k) v (N3 r T i)
def A8(n:Nat):SV->Bool
 | .lp i _=>Nat.blt i n
 | .le i _ _ _=>Nat.blt i n
 | .lw i=>Nat.blt i n
 | .ls i _ _ _=>Nat.blt i n
 | .mp i=>Nat.blt i n
 |_=>true
def IY(n:Nat):SV->Bool
 | .m cs=>cs.all (A8 n)
 | .clo _ cs=>cs.all (A8 n)
 |x=>A8 n x
def tI(n:Nat):SV->Bool
 | .tup vs=>vs.all (IY n)
 |x=>IY n x
def D4(n:Nat):dW->Bool
 | .cells cs=>cs.all (A8 n)
 |_=>true
def wz(n:Nat):List (Nat × SV)->TM->Prop
 |[],_=>True
 |(k,v)::r,T=>(T k=v/\tI n v=true)/\wz n r T
def xa(n:Nat):List Nat->TM->TM->Prop
 |[],_,_=>True
 |k::r,T,T'=>(T' k=T k/\tI n (T k)=true)/\xa n r T T'
def iE:List (Nat × dW)->HM->HM
 |[],H=>H
 |(k,b)::r,H=>fun i=>cond (Nat.beq i k) b (iE r H i)
def GU(b c:dW):Prop:=
 match c,b with
 | .dead,_=>True
 | .aU o ty sz rows, .row o' mq fN dr=>(o'=o/\mq=ty)/\(fN=sz/\dr=rows)
 |c,b=>b=c
def sX(m:Nat):Nat->HM->HM->Prop
 |0,_,_=>True
 |k+1,H',Hh=>(GU (H' k) (Hh k)/\D4 m (Hh k)=true)/\sX m k H' Hh
inductive nu(np:Nat)(inv:Inv)(T:TM)(H:HM)(n:Nat)(body:(X->TM->HM->Nat->Prop)->TM->HM->Nat->Prop)(K:X->TM->HM->Nat->Prop):Prop
 |mk (a0:inv.α) (h0:inv.φ a0) (hT:wz n (inv.ov a0) T) (hK:xa n inv.iY T T) (hH:sX n n H (iE (inv.hv a0) H))
  (round:∀a,inv.φ a->body (fun e T' H' n'=>match e with
      | .normal=>Gh np n' T' H' fun T' H'=>∃a',inv.φ a'/\inv.μ a'<inv.μ a/\wz n (inv.ov a') T'/\xa n inv.iY T T'/\sX n n H' (iE (inv.hv a') H)
      |e=>K e T' H' n') (N3 (inv.ov a) (qs inv.iY T)) (iE (inv.hv a) H) n)
  (hl:∀a,(inv.hv a).all (fun p=>Nat.blt p.1 n)=true)
structure aZ(RF:Nat)(np:Nat)(T:TM)(H:HM)(n:Nat)(body:(X->TM->HM->Nat->Prop)->TM->HM->Nat->Prop)(K:X->TM->HM->Nat->Prop):Prop where
 mk'::ex:∃inv,nu np inv T H n body K
theorem aZ.mk{RF np:Nat}{T:TM}{H:HM}{n:Nat}{body:(X->TM->HM->Nat->Prop)->TM->HM->Nat->Prop}{K:X->TM->HM->Nat->Prop}(inv:Inv)(h:nu np inv T H n body K):aZ RF np T H n body K:=⟨⟨inv,h⟩⟩
def kV:Code->Nat
 | .region id _ _=>id
 | .seq a _=>kV a
 | .block _ b=>kV b
 | .loop b=>kV b
 | .cond _ a _=>kV a
 | .scope b=>kV b
 |_=>0
def Dh(c:Operand)(b:Bool)(T:TM):TM:=match c with| .tmp t=>Dm T t (.c (.cb b))|_=>T
def DO(ops:List Oper)(done:List Nat):List Nat:=(List.range ops.length).filter fun i=> !jt done i&&(match ops[i]? with|some o=>(gq o).all (jt done)|none=>false)
def fC:List Nat->(Nat->Prop)->Prop
 |[],_=>True
 |i::is,p=>p i/\fC is p
theorem Gp{p:Nat->Prop}:∀{l:List Nat},fC l p-> ∀i∈l,p i
 |_::_,h,i,hi=>by
  rcases List.mem_cons.1 hi with rfl|hi
  ·exact h.1
  ·exact Gp h.2 i hi
def vcT(P:Program)(tbl:TT)(nt np:Nat)(ops:List Oper)(f:Nat):List Nat->TM->HM->Nat->(TM->HM->Nat->Prop)->Prop:=
 Nat.rec (motive:=fun _=>List Nat->TM->HM->Nat->(TM->HM->Nat->Prop)->Prop) (fun _ T H n K=>K T H n) (fun _ ih=>fun done T H n K=>fC (DO ops done) fun i=>match ops[i]? with
    |some o=>cond (xX nt o.dst) (match o.guard with|none=>B0 false P tbl o.op o.type T H n fun E=>Lh np n E T o.dst H fun T H n=>ih (i::done) T H n K|some _=>False) False
    |none=>False) f
theorem Ij(p q:Nat->Bool)(i:Nat)(Xm:∀j,j≠i->p j=q j)(hp:p i=true)(hq:q i=false):∀m,(List.range m).countP p=(List.range m).countP q+(if i<m then 1 else 0)
 |0=>by simp
 |m+1=>by
  rw[List.range_succ,List.countP_append,List.countP_append,Ij p q i Xm hp hq m];by_cases e:m=i
  ·subst e;simp[hp,hq]
  ·have:=Xm m e;simp only[List.countP_cons,List.countP_nil,this];by_cases h1:i<m
   ·have h2:i<m+1:=by omega
    simp only[h1,h2,if_true];omega
   ·have h2:¬i<m+1:=by omega
    simp only[h1,h2,if_false];omega
section
variable{P:Program}{tbl:TT}{Γ:Cx}{nt np:Nat}
theorem NC(dC:en P tbl)(iW:P.follows .mixedOrders=true)(s7:te Γ np){id:Nat}{ops:Array Oper}{Q:Exit->Act->World->Prop}{K:TM->HM->Nat->Prop}{T:TM}{H:HM}{n:Nat}{ρ:RM}{F:FM}{a:Act}{w:World}(hc:ux ops.toList=true)
 (h:vcT P tbl nt np ops.toList ops.toList.length [] T H n K)(hQ:∀T H n ρ F a w,K T H n->St Γ nt T H ρ F a w->iI ρ n->Q .normal a w)(hS:St Γ nt T H ρ F a {w with drawn:=w.drawn+1})(hf:iI ρ n):(Code.region id ops true).wp P Q a w:=by
 have hd:=tm hc;refine wp_region_any iW ?_;refine KI hd (fun S a w=>∃f l T H n ρ F,(∀j,j<ops.toList.length->S j=jt l j)/\f=(List.range ops.toList.length).countP (fun j=> !jt l j)/\vcT P tbl nt np ops.toList f l T H n K/\St Γ nt T H ρ F a w/\iI ρ n) ?_ ?_ ?_ _ _ _ _ (by simp) ?_ ?_ ?_
 ·rintro S S' XI a w ⟨f,l,T,H,n,ρ,F,h1,h2⟩;exact⟨f,l,T,H,n,ρ,F,fun j hj=>by rw[<-XI j hj];exact h1 j hj,h2⟩
 ·rintro S i o a w next Ke hs BC Xx ⟨f,l,T,H,n,ρ,F,h1,h2,h3,hS,hf⟩ Co;have eu:i<ops.toList.length:=(List.getElem?_eq_some_iff.1 Ke).1;have ZS:jt l i=false:=by rw[<-h1 i eu];exact hs
  have Zj:=Ij (fun j=> !jt l j) (fun j=> !jt (i::l) j) i (fun j hj=>by
   have:Nat.beq j i=false:=by
        cases hb:Nat.beq j i with
        |true=>exact absurd (ae hb) hj
        |false=>rfl
   simp[jt,this]) (by simp[ZS]) (by simp[jt]) ops.toList.length
  rw[if_pos eu]at Zj;obtain⟨f',rfl⟩:∃f',f=f'+1:=⟨f-1,by omega⟩
  have Vo:i∈DO ops.toList l:=by
   unfold DO;rw[List.mem_filter];refine⟨by simpa using eu,?_⟩;rw[Ke,ZS];simp only[Bool.not_false,Bool.true_and,aj];intro e he;have:=hd.back i o Ke e he;rw[<-h1 e (by omega)];exact Xx e he
  have h4:=Gp (show fC (DO ops.toList l) _ from h3) i Vo;simp only[Ke]at h4;obtain⟨Ho,h4⟩:=ie h4;cases hg:o.guard with
  |some g=>rw[hg]at h4;exact h4.elim
  |none=>
   rw[hg]at h4;refine⟨fun _=>?_,fun hw=>by simp[Region.wanted,hg]at hw⟩;have hS:=Lo hS n;have hf:=Dd hf;refine wM dC hS (n9.refl H) h4 (fun E _ i h1 _=>hf i h1) (fun _=>⟨hf,fun i hi=>C4 hi,rfl⟩) ?_;intro E ρ' F' v w' hk g1 g2 g3 g4 g5 g6;have jA:=hS.move g3 g1 g4 g5;have IE:=AD hf g2;rw[P6]at hk;obtain⟨hb,hk⟩:=ie hk;obtain⟨T',H',ρ2,F2,k1,k2,k3⟩:=l5 s7 hk (jA.put Ho g6) IE fun p hp=>by
        have:=aj.1 hb p hp;rwa[Nat.blt_eq]at this
   refine Co _ _ ⟨f',i::l,T',H',_,ρ2,F2,fun j hj=>?_,by omega,k1,k2,k3⟩;simp only[];by_cases e:j=i
   ·subst e;simp[jt]
   ·rw[if_neg e,h1 j hj];have:Nat.beq j i=false:=by
     cases hb:Nat.beq j i with
     |true=>exact absurd (ae hb) e
     |false=>rfl
    simp[jt,this]
 ·rintro a w ⟨f,l,T,H,n,ρ,F,h1,h2,h3,hS,hf⟩;have h0:f=0:=by
   rw[h2,List.countP_eq_zero];intro j hj;have:=h1 j (by simpa using hj);simp[<-this]
  subst h0;exact hQ _ _ _ _ _ _ _ h3 hS hf
 ·intro i o ho hi;simp only[Array.getD_eq_getD_getElem?,Array.getElem?_replicate]at hi;split at hi<;>simp at hi
 ·rw[List.countP_eq_length.2]
  ·simp
  ·intro i hi;have:i<ops.size:=by simpa using hi
   simp[Array.getD_eq_getD_getElem?,this]
 ·have hz:∀j,(Array.replicate ops.size false).getD j false=false:=by
   intro j;simp only[Array.getD_eq_getD_getElem?,Array.getElem?_replicate];split<;>rfl
  refine⟨ops.toList.length,[],T,H,n,ρ,F,fun j _=>(hz j).trans rfl,?_,h,hS,hf⟩;rw[List.countP_eq_length.2]
  ·simp
  ·intro j _;rfl
end
def UJ(P:Program)(tbl:TT)(nt np:Nat)(ops:List Oper)(d:Bool)(T:TM)(H:HM)(n:Nat)(K:TM->HM->Nat->Prop):Prop:=
 match d with
 |false=>wX P tbl nt np ops ops 0 T H n K
 |true=>bh (ux ops=true) (RJ P tbl nt np ops ops 0 T H n [] [] K)
def Qo(gh:Nat->Bool)(id:Nat):Nat->Nat
 |0=>0
 |k+1=>cond (gh (1000*(k+1)+id)) k (Qo gh id k)
def w3(P:Program)(tbl:TT)(nt np:Nat)(gh:Nat->Bool)(id:Nat)(ops:List Oper)(d:Bool)(T:TM)(H:HM)(n:Nat)(K:TM->HM->Nat->Prop):Prop:=
 match gh (1000000+id)with
 |false=>UJ P tbl nt np ops d T H n K
 |true=>cond d (bh (ux ops=true) (vcT P tbl nt np ops ops.length [] T H n K)) (wX P tbl nt np ops (ops.take (Qo gh id 64)) 0 T H n fun T H n=>Gh np n T H fun T H=>jY n T H fun T H n=>wX P tbl nt np ops (ops.drop (Qo gh id 64)) (Qo gh id 64) T H n K)
def vc(P:Program)(tbl:TT)(nt np:Nat)(ann:Nat->Option Inv)(gh:Nat->Bool):Code->(X->TM->HM->Nat->Prop)->TM->HM->Nat->Prop
 | .skip,K,T,H,n=>K .normal T H n
 | .region id ops d,K,T,H,n=>match gh id with
   |false=>w3 P tbl nt np gh id ops.toList d T H n (K .normal)
   |true=>Gh np n T H fun T H=>jY n T H fun T H n=>w3 P tbl nt np gh id ops.toList d T H n (K .normal)
 | .seq x y,K,T,H,n=>vc P tbl nt np ann gh x (fun e T H n=>match e with| .normal=>vc P tbl nt np ann gh y K T H n|e=>K e T H n) T H n
 | .cond c x y,K,T,H,n=>match ev T c with
   | .c (.cb true)=>vc P tbl nt np ann gh x K T H n
   | .c (.cb false)=>vc P tbl nt np ann gh y K T H n
   | .c (.val (.bool b))=>bM b (vc P tbl nt np ann gh x K (Dh c true T) H n) (vc P tbl nt np ann gh y K (Dh c false T) H n)
   |_=>False
 | .block id c,K,T,H,n=>vc P tbl nt np ann gh c (fun e T H n=>match e with| .exit i=>cond (Nat.beq i id) (K .normal T H n) (K (.exit i) T H n)|e=>K e T H n) T H n
 | .loop c,K,T,H,n=>match ann (kV c)with
   |some inv=>nu np inv T H n (fun K T H n=>vc P tbl nt np ann gh c K T H n) K
   |none=>aZ (kV c) np T H n (fun K T H n=>vc P tbl nt np ann gh c K T H n) K
 | .exit id,K,T,H,n=>K (.exit id) T H n
 | .ret,K,T,H,n=>K .ret T H n
 |_,_,_,_,_=>False
def XB(P:Program)(tbl:TT)(nt np:Nat)(gh:Nat->Bool)(id:Nat)(ops:Array Oper)(d:Bool)(K:X->TM->HM->Nat->Prop)(T:TM)(H:HM)(n:Nat):Prop:=
 match gh id with
 |false=>w3 P tbl nt np gh id ops.toList d T H n (K .normal)
 |true=>Gh np n T H fun T H=>jY n T H fun T H n=>w3 P tbl nt np gh id ops.toList d T H n (K .normal)
def Uu(f g:(X->TM->HM->Nat->Prop)->TM->HM->Nat->Prop)(K:X->TM->HM->Nat->Prop)(T:TM)(H:HM)(n:Nat):Prop:=
 f (fun e T H n=>match e with| .normal=>g K T H n|e=>K e T H n) T H n
def Q1(c:Operand)(f g:(X->TM->HM->Nat->Prop)->TM->HM->Nat->Prop)(K:X->TM->HM->Nat->Prop)(T:TM)(H:HM)(n:Nat):Prop:=
 match ev T c with
 | .c (.cb true)=>f K T H n
 | .c (.cb false)=>g K T H n
 | .c (.val (.bool b))=>bM b (f K (Dh c true T) H n) (g K (Dh c false T) H n)
 |_=>False
def K6(id:Nat)(f:(X->TM->HM->Nat->Prop)->TM->HM->Nat->Prop)(K:X->TM->HM->Nat->Prop)(T:TM)(H:HM)(n:Nat):Prop:=
 f (fun e T H n=>match e with| .exit i=>cond (Nat.beq i id) (K .normal T H n) (K (.exit i) T H n)|e=>K e T H n) T H n
def QK(np:Nat)(ann:Nat->Option Inv)(c:Code)(f:(X->TM->HM->Nat->Prop)->TM->HM->Nat->Prop)(K:X->TM->HM->Nat->Prop)(T:TM)(H:HM)(n:Nat):Prop:=
 match ann (kV c)with
 |some inv=>nu np inv T H n (fun K T H n=>f K T H n) K
 |none=>aZ (kV c) np T H n (fun K T H n=>f K T H n) K
def E5(P:Program)(tbl:TT)(nt np:Nat)(ann:Nat->Option Inv)(gh:Nat->Bool)(c:Code):(X->TM->HM->Nat->Prop)->TM->HM->Nat->Prop:=
 Code.rec (motive:=fun _=>(X->TM->HM->Nat->Prop)->TM->HM->Nat->Prop) (fun K T H n=>K .normal T H n) (fun id ops d=>XB P tbl nt np gh id ops d) (fun _ _ f g=>Uu f g) (fun c _ _ f g=>Q1 c f g) (fun id _ f=>K6 id f) (fun c f=>QK np ann c f)
    (fun _ _ _ _ _ _ _ _ _ _=>False) (fun id K T H n=>K (.exit id) T H n) (fun _ _ _ _ _ _=>False) (fun _ _ _ _ _=>False) (fun _ _ _ _ _=>False) (fun K T H n=>K .ret T H n) (fun _ _ _ _ _=>False) c
theorem qj{P:Program}{tbl:TT}{nt np:Nat}{ann:Nat->Option Inv}{gh:Nat->Bool}:∀c,E5 P tbl nt np ann gh c=fun K T H n=>vc P tbl nt np ann gh c K T H n
 | .skip=>rfl
 | .region _ _ _=>rfl
 | .exit _=>rfl
 | .ret=>rfl
 | .scope _=>rfl
 | .label _=>rfl
 | .goto _=>rfl
 | .refuse _=>rfl
 | .rangeFunc _ _ _ _=>rfl
 | .seq x y=>by
   show Uu (E5 P tbl nt np ann gh x) (E5 P tbl nt np ann gh y)=_;rw[qj x,qj y];rfl
 | .cond c x y=>by
   show Q1 c (E5 P tbl nt np ann gh x) (E5 P tbl nt np ann gh y)=_;rw[qj x,qj y];rfl
 | .block id c=>by
   show K6 id (E5 P tbl nt np ann gh c)=_;rw[qj c];rfl
 | .loop c=>by
   show QK np ann c (E5 P tbl nt np ann gh c)=_;rw[qj c];rfl
section
variable{P:Program}{tbl:TT}{Γ:Cx}{nt np:Nat}
theorem K0{n:Nat}:∀(l:List (Nat × SV)) (T T':TM),wz n l T'->(∀i,T i= .any\/(T' i=T i/\tI n (T i)=true))-> ∀i,N3 l T i= .any\/(T' i=N3 l T i/\tI n (N3 l T i)=true)
 |[],_,_,_,h,i=>h i
 |(k,v)::r,T,T',hc,h,i=>by
  simp only[N3];cases hb:Nat.beq i k with
  |true=>
   have:=ae hb;subst this;exact .inr hc.1
  |false=>exact K0 r T T' hc.2 h i
theorem BV{n:Nat}:∀(l:List Nat) (T T':TM),xa n l T T'-> ∀i,qs l T i= .any\/(T' i=qs l T i/\tI n (qs l T i)=true)
 |[],_,_,_,_=> .inl rfl
 |k::r,T,T',hc,i=>by
  simp only[qs];cases hb:Nat.beq i k with
  |true=>
   have:=ae hb;subst this;exact .inr hc.1
  |false=>exact BV r T T' hc.2 i
def yB(n:Nat)(ρ:RM):RM:=fun i=>if i<n then ρ i else none
theorem vz{ρ:RM}{n i:Nat}{v:Value}(h:ρ i=some v)(hi:Nat.blt i n=true):yB n ρ i=some v:=by
 rw[Nat.blt_eq]at hi;simp[yB,hi,h]
theorem b9.below{n:Nat}{ρ:RM}{w:World}{ok:Nat->Prop}{a:SV}{v:Value}(hb:A8 n a=true)(h:b9 ρ w ok a v):b9 (yB n ρ) w ok a v:=by
 cases h with
 |c h=>exact .c h
 |lp h=>exact .lp (vz h hb)
 |le h=>exact .le (vz h hb)
 |lw h=>exact .lw (vz h hb)
 |ls h h1 h2 h3 h4=>exact .ls (vz h hb) h1 h2 h3 h4
 |mp h=>exact .mp (vz h hb)
theorem eK.below{n:Nat}{ρ:RM}{w:World}{ok:Nat->Prop}{a:SV}{v:Value}(hb:IY n a=true)(h:eK ρ w ok a v):eK (yB n ρ) w ok a v:=by
 cases h with
 |a hl h=>exact .a hl h
 |m hl h=>exact .m hl fun j a v ha hv=>(h j a v ha hv).below (aj.1 hb a (List.mem_of_getElem? ha))
 |clo hl h=>exact .clo hl fun j a v ha hv=>(h j a v ha hv).below (aj.1 hb a (List.mem_of_getElem? ha))
 |c h=>
  refine .c (h.below ?_);cases h<;>exact hb
theorem bJ.below{n:Nat}{ρ:RM}{w:World}{ok:Nat->Prop}{a:SV}{v:Value}(hb:tI n a=true)(h:bJ ρ w ok a v):bJ (yB n ρ) w ok a v:=by
 cases h with
 |any=>exact .any
 |v h=>
  refine .v (h.below ?_);cases h<;>first|exact hb|skip
  rename_i h;cases h<;>exact hb
 |tup hl h=>exact .tup hl fun j a v ha hv=>(h j a v ha hv).below (aj.1 hb a (List.mem_of_getElem? ha))
theorem dH.below{n i:Nat}{ρ:RM}{w:World}{ok:Nat->Prop}{k:dW}{f:List Nat}(hb:D4 n k=true)(hi:i<n)(h:dH ρ w ok k (ρ i) f):dH (yB n ρ) w ok k (yB n ρ i) f:=by
 have e:yB n ρ i=ρ i:=by simp[yB,hi]
 rw[e];generalize ρ i=u at h;cases h with
 |dead=>exact .dead
 |cc h1 h2 h3=>exact .cc h1 h2 h3
 |cells h1 hl h=>exact .cells h1 hl fun j a v ha hv=>(h j a v ha hv).below (aj.1 hb a (List.mem_of_getElem? ha))
 |row h1 h2 h3 h4=>exact .row h1 h2 h3 h4
 |aU h1 h2 h3 h4=>exact .aU h1 h2 h3 h4
 |pD h1 h2 h3 h4 h5=>exact .pD h1 h2 h3 h4 h5
 |jB h1 h2 h3=>exact .jB h1 h2 h3
theorem P5{ρ:RM}{w:World}{ok:Nat->Prop}{b c:dW}{v:Option Value}{f:List Nat}(h:GU b c)(hd:dH ρ w ok b v f):c= .dead\/dH ρ w ok c v f:=by
 unfold GU at h;split at h
 ·exact .inl rfl
 ·obtain⟨⟨rfl,rfl⟩,rfl,rfl⟩:=h;right;cases hd with
  |row ho hr bw hv=>have:=dH.aU (ρ:=ρ) ho hr bw hv;simpa using this
 ·right;rw[<-h];exact hd
theorem Hd{m:Nat}:∀{k:Nat} {H' Hh:HM},sX m k H' Hh-> ∀i,i<k->GU (H' i) (Hh i)/\D4 m (Hh i)=true
 |0,_,_,_,i,hi=>by omega
 |k+1,H',Hh,h,i,hi=>by
  by_cases e:i=k
  ·subst e;exact h.1
  ·exact Hd h.2 i (by omega)
theorem St.weaken{T T':TM}{H H':HM}{ρ:RM}{F:FM}{a:Act}{w:World}{n:Nat}(pS:∀i v,Γ.pv i=some v->i<n)(hS:St Γ nt T H ρ F a w)(hT:∀i,T' i= .any\/(T i=T' i/\tI n (T' i)=true))(hH:sX n n H H')(hd:∀i,n≤i->H' i= .dead):
 ∃ρ' F',St Γ nt T' H' ρ' F' a w/\iI ρ' n:=by
 have hm:=hS.mem
 let F':FM:=fun i=>match H' i with| .dead=>[]|_=>F i
 have I5:∀i b,b∈F' i->b∈F i:=by
  intro i b hb;simp only[F']at hb;split at hb
  ·cases hb
  ·exact hb
 have cH:∀b,bg Γ F w b->bg Γ F' w b:=fun b hb=>⟨hb.1,hb.2.1,fun⟨i,hi⟩=>hb.2.2 ⟨i,I5 i b hi⟩⟩
 refine⟨yB n ρ,F',⟨⟨fun i=>?_,fun i j b hi hj=>hm.kO i j b (I5 i b hi) (I5 j b hj),fun i=>?_,fun i b hb=>hm.lt i b (I5 i b hb),fun i b hb=>hm.src i b (I5 i b hb),hm.oN,hm.frame,hm.size,hm.os,hm.tape,hm.output,fun i v hv=>?_⟩,hS.defers,hS.nt,fun i=>?_⟩,fun i hi=>by simp[yB];omega⟩
 ·by_cases hi:i<n
  ·obtain⟨h1,h2⟩:=Hd hH i hi;rcases P5 h1 (hm.blocks i)with e|VD
   ·have:F' i=[]:=by simp only[F',e]
    rw[e,this];exact .dead
   ·have abK:=(VD.mono (fun _ _=>rfl) cH (fun _ _=>rfl) (Ext.refl _)).below h2 hi;by_cases e:H' i= .dead
    ·have:F' i=[]:=by simp only[F',e]
     rw[e,this];exact .dead
    ·have:F' i=F i:=by simp only[F']
     rw[this];exact abK
  ·have e:=hd i (by omega);have:F' i=[]:=by simp only[F',e]
   rw[e,this];exact .dead
 ·show(match H' i with| .dead=>[]|_=>F i).Nodup;split
  ·simp
  ·exact hm.nodup i
 ·have:=pS i v hv;simp only[yB,this,if_true];exact hm.CR i v hv
 ·rcases hT i with e|⟨e,hb⟩
  ·rw[e];exact .any
  ·have h1:=(hS.tmps i).mono (fun _ _=>rfl) cH (Ext.refl _);rw[e]at h1;exact h1.below hb
theorem MW{H:HM}{ρ:RM}{F:FM}{w:World}(hm:Mem Γ H ρ F w){n:Nat}(hf:iI ρ n):∀i,n≤i->H i= .dead:=fun i hi=>(hm.KF (hf i hi)).2
theorem Cq{n:Nat}:∀{l:List (Nat × dW)} {H:HM},(∀i,n≤i->H i= .dead)->l.all (fun p=>Nat.blt p.1 n)=true-> ∀i,n≤i->iE l H i= .dead
 |[],H,h,_,i,hi=>h i hi
 |(k,b)::r,H,h,hl,i,hi=>by
  simp only[List.all_cons,ab]at hl;have hk:=hl.1;rw[Nat.blt_eq]at hk;simp only[iE];have:Nat.beq i k=false:=by
    cases hb:Nat.beq i k with
    |true=>have:=ae hb;omega
    |false=>rfl
  rw[this];exact Cq h hl.2 i hi
theorem Pv{T:TM}{H:HM}{ρ:RM}{F:FM}{a:Act}{w:World}(hS:St Γ nt T H ρ F a w){c:Operand}{b:Bool}(h:a.eval c= .bool b):St Γ nt (Dh c b T) H ρ F a w:=by
 cases c with
 |tmp t=>
  refine⟨hS.mem,hS.defers,hS.nt,fun i=>?_⟩;simp only[Dh,Dm];cases hb:Nat.beq i t with
  |true=>
   have:=ae hb;subst this;simp only[cond];have:a.tmps.getD i undef= .bool b:=h;rw[this];exact eD (.cb .nil)
  |false=>exact hS.tmps i
 |_=>exact hS
theorem jb(dC:en P tbl)(iW:P.follows .mixedOrders=true)(s7:te Γ np){ann:Nat->Option Inv}{gh:Nat->Bool}:∀(c:Code) {K:X->TM->HM->Nat->Prop} {Q:Exit->Act->World->Prop} {T:TM} {H:HM} {n:Nat} {ρ:RM} {F:FM} {a:Act} {w:World},
 vc P tbl nt np ann gh c K T H n->(∀e T H n ρ F a w,K e T H n->St Γ nt T H ρ F a w->iI ρ n->Q e.to a w)->St Γ nt T H ρ F a w->iI ρ n->c.wp P Q a w
 | .skip,K,Q,T,H,n,ρ,F,a,w,h,hQ,hS,hf=>wp_skip (hQ _ _ _ _ _ _ _ _ h hS hf)
 | .exit id,K,Q,T,H,n,ρ,F,a,w,h,hQ,hS,hf=>wp_exit (hQ (.exit id) _ _ _ _ _ _ _ h hS hf)
 | .ret,K,Q,T,H,n,ρ,F,a,w,h,hQ,hS,hf=>wp_ret (hQ .ret _ _ _ _ _ _ _ h hS hf)
 | .region id ops d,K,Q,T,H,n,ρ,F,a,w,h,hQ,hS,hf=>by
   have YB:∀{T:TM} {H:HM} {n:Nat} {ρ:RM} {F:FM},UJ P tbl nt np ops.toList d T H n (K .normal)->St Γ nt T H ρ F a w->iI ρ n->(Code.region id ops d).wp P Q a w:=by
    intro T H n ρ F h hS hf;cases d with
    |false=>
     have h:kG P tbl nt np ops.toList ops.toList 0 T H n (K .normal):=by
      have h0:wX P tbl nt np ops.toList ops.toList 0 T H n (K .normal):=h;rw[xm]at h0;exact h0
     exact wp_region_list (by simpa using gV (l2:=[]) dC s7 (fun T H n ρ F a w hk hs hf=>hQ .normal T H n ρ F a w hk hs hf) _ 0 h hS hf)
    |true=>
     have ZO:RJ P tbl nt np ops.toList ops.toList 0 T H n [] [] (K .normal):=h.k;rw[K8]at ZO;exact Mm dC iW s7 h.h ZO (fun T H n ρ F a w hk hs hf=>hQ .normal _ _ _ _ _ _ _ hk hs hf) (hS.grow ⟨rfl,rfl,rfl,aw _,fun _ _=>rfl⟩) hf
   have main:∀{T:TM} {H:HM} {n:Nat} {ρ:RM} {F:FM},w3 P tbl nt np gh id ops.toList d T H n (K .normal)->St Γ nt T H ρ F a w->iI ρ n->(Code.region id ops d).wp P Q a w:=by
    intro T H n ρ F h hS hf;unfold w3 at h;split at h
    ·exact YB h hS hf
    ·cases d with
     |true=>
      simp only[cond]at h;exact NC dC iW s7 h.h h.k (fun T H n ρ F a w hk hs hf=>hQ .normal _ _ _ _ _ _ _ hk hs hf) (hS.grow ⟨rfl,rfl,rfl,aw _,fun _ _=>rfl⟩) hf
     |false=>
      simp only[cond,xm]at h;refine wp_region_list ?_;have:=gV (l2:=ops.toList.drop (Qo gh id 64)) (Q:=Q) dC s7 (fun T H n ρ F a w hk hs hf=>by
           obtain⟨T',H',ρ',F',k1,k2,k3⟩:=nV s7 hk hs hf;obtain⟨T'',H'',n'',aea,F'',g1,g2,g3⟩:=CM k1 k2 k3;simpa using gV (l2:=[]) (Q:=Q) dC s7 (fun T H n ρ F a w hk hs hf=>hQ .normal T H n ρ F a w hk hs hf) _ _ g1 g2 g3) _ 0 h hS hf
      rwa[List.take_append_drop]at this
   simp only[vc]at h;split at h
   ·exact main h hS hf
   ·obtain⟨T',H',ρ',F',k1,k2,k3⟩:=nV s7 h hS hf;obtain⟨T'',H'',n'',aea,F'',g1,g2,g3⟩:=CM k1 k2 k3;exact main g1 g2 g3
 | .seq x y,K,Q,T,H,n,ρ,F,a,w,h,hQ,hS,hf=>by
   refine wp_seq (jb dC iW s7 x h ?_ hS hf);intro e T H n ρ F a w hk hs hf;cases e with
   |normal=>exact jb dC iW s7 y hk hQ hs hf
   |exit id=>exact hQ (.exit id) _ _ _ _ _ _ _ hk hs hf
   |ret=>exact hQ .ret _ _ _ _ _ _ _ hk hs hf
 | .cond c x y,K,Q,T,H,n,ρ,F,a,w,h,hQ,hS,hf=>by
   have hE:=rq hS c;simp only[vc]at h;split at h
   ·rename_i hc;rw[hc]at hE;exact wp_cond (t:=true) (pQ (b9.jM hE)) (jb dC iW s7 x h hQ hS hf)
   ·rename_i hc;rw[hc]at hE;exact wp_cond (t:=false) (pQ (b9.jM hE)) (jb dC iW s7 y h hQ hS hf)
   ·rename_i b hc;rw[hc]at hE;have hv:=fD (b9.jM hE);refine wp_cond_split hv (fun e=>?_) (fun e=>?_)
    ·subst e;exact jb dC iW s7 x (h.t rfl) hQ (Pv hS hv) hf
    ·subst e;exact jb dC iW s7 y (h.f rfl) hQ (Pv hS hv) hf
   ·exact h.elim
 | .block id c,K,Q,T,H,n,ρ,F,a,w,h,hQ,hS,hf=>by
   refine wp_block (jb dC iW s7 c h ?_ hS hf);intro e T H n ρ F a w hk hs hf;cases e with
   |normal=>exact hQ .normal _ _ _ _ _ _ _ hk hs hf
   |exit i=>
    simp only at hk;simp only[X.to,Exit.inBlock];cases hb:Nat.beq i id with
    |true=>
     rw[hb]at hk;rw[if_pos (ae hb)];exact hQ .normal _ _ _ _ _ _ _ hk hs hf
    |false=>
     rw[hb]at hk;rw[if_neg (Bl hb)];exact hQ (.exit i) _ _ _ _ _ _ _ hk hs hf
   |ret=>exact hQ .ret _ _ _ _ _ _ _ hk hs hf
 | .loop c,K,Q,T,H,n,ρ,F,a,w,h,hQ,hS,hf=>by
   simp only[vc]at h;have h:∃inv,nu np inv T H n (fun K T H n=>vc P tbl nt np ann gh c K T H n) K:=by
    split at h
    ·exact⟨_,h⟩
    ·exact h.ex
   obtain⟨inv,h⟩:=h;obtain⟨a0,h0,hT,hKp,hH,round,hl⟩:=h;have pS:∀i v,Γ.pv i=some v->i<n:=fun i v hv=>by
    have h1:=hS.mem.CR i v hv;rcases Nat.lt_or_ge i n with h2|h2
    ·exact h2
    ·rw[hf i h2]at h1;cases h1
   have ZE:∀x i,n≤i->iE (inv.hv x) H i= .dead:=fun x i hi=>Cq (MW hS.mem hf) (hl x) i hi
   have head:∀{T':TM} {H':HM} {ρ:RM} {F:FM} {a:Act} {w:World} {x:inv.α},St Γ nt T' H' ρ F a w->wz n (inv.ov x) T'->xa n inv.iY T T'->sX n n H' (iE (inv.hv x) H)->
        ∃ρ' F',St Γ nt (N3 (inv.ov x) (qs inv.iY T)) (iE (inv.hv x) H) ρ' F' a w/\iI ρ' n:=fun hS g1 g2 g3=>hS.weaken pS (K0 _ _ _ g1 (BV _ _ _ g2)) g3 (ZE _)
   obtain⟨ρ0,F0,N8,YD⟩:=head hS hT hKp hH;refine wp_loop_ghost (fun m a w=>∃x ρ F,inv.φ x/\inv.μ x=m/\St Γ nt (N3 (inv.ov x) (qs inv.iY T)) (iE (inv.hv x) H) ρ F a w/\iI ρ n) (inv.μ a0) ⟨a0,ρ0,F0,h0,rfl,N8,YD⟩ ?_;rintro m a w ⟨x,ρ,F,hx,rfl,hs,hf⟩;refine jb dC iW s7 c (round x hx) ?_ hs hf;intro e T' H' n' ρ' F' a' w' hk RE IE;cases e with
   |normal=>
    obtain⟨T2,H2,ρ2,F2,⟨x',O4,hmu,g1,g2,g3⟩,k2,k3⟩:=nV s7 hk RE IE;obtain⟨ρ1,F1,Im,TZ⟩:=head k2 g1 g2 g3;exact⟨_,hmu,x',ρ1,F1,O4,rfl,Im,TZ⟩
   |exit i=>exact hQ (.exit i) _ _ _ _ _ _ _ hk RE IE
   |ret=>exact hQ .ret _ _ _ _ _ _ _ hk RE IE
 | .scope _,K,Q,T,H,n,ρ,F,a,w,h,hQ,hS,hf=>h.elim
 | .label _,K,Q,T,H,n,ρ,F,a,w,h,hQ,hS,hf=>h.elim
 | .goto _,K,Q,T,H,n,ρ,F,a,w,h,hQ,hS,hf=>h.elim
 | .refuse _,K,Q,T,H,n,ρ,F,a,w,h,hQ,hS,hf=>h.elim
 | .rangeFunc _ _ _ _,K,Q,T,H,n,ρ,F,a,w,h,hQ,hS,hf=>h.elim
end
end Go.KA
