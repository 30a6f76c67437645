/- Part of a proof engine for functions of the given program: what a function reads may be given up to it, with the memory that it owns. No conditions. -/
import Derived.Test.YtgbggaddpbghfaaGreatTy
import Derived.Test.YtgbggaddpbghfaaGreatEngU
import Derived.Test.YtgbggaddpbghfaaGreatSz
import Derived.Test.YtgbggaddpbghfaaGreatTo
import Derived.Test.YtgbggaddpbghfaaGreatEq
namespace Go.KA
open Go Go.RowKit
inductive vf:List SV→List SV→Prop
 |nil:vf [] []
 |same {s ss ss'} (h:vf ss ss'):vf (s::ss) (s::ss')
 |c {x ss ss'} (h:vf ss ss'):vf (.c x::ss) (.c (l5 x)::ss')
theorem qt.tT{w:World}{ok ok':Nat→Prop}{s:SV}{v:Value}{f:List Nat}(h:qt w ok s v f)(hok:∀b,ok b→ok' b):qt w ok' s v f:=by
 cases h with
 |v hv=>exact .v fun ρ=>(hv ρ).mono (fun _ _=>rfl) hok (Ext.refl _)
 |o hd=>exact .o (hd.mono (fun _ _=>rfl) hok fun _ _=>rfl)
 |m hd=>exact .m (hd.mono (fun _ _=>rfl) hok fun _ _=>rfl)
 |off hd=>exact .off (hd.mono (fun _ _=>rfl) hok fun _ _=>rfl)
theorem vf.al{w:World}{ok:Nat→Prop}{ss ss':List SV}(h:vf ss ss'):∀{vs:List Value} {f:List Nat},f.Nodup→AL w ok ss vs f→
 ∃f1,f1.Sublist f∧∀ok':Nat→Prop,(∀b,ok b→ok' b)→(∀b∈f,b∉f1→ok' b)→AL w ok' ss' vs f1:=by
 induction h with
 |nil=>intro vs f hf ha;cases ha;exact⟨[],List.Sublist.refl _,fun _ _ _=> .nil⟩
 |same h ih=>
  intro vs f hf ha
  cases ha with
  | @cons _ v g _ vs k h0 ht=>
    rw[List.nodup_append] at hf
    obtain⟨f1,hs,hd⟩:=ih hf.2.1 ht
    refine⟨g++f1,(List.Sublist.refl _).append hs,fun ok' hok hb=> .cons (h0.tT hok) (hd ok' hok fun b hb1 hb2=>hb b (by simp[hb1]) fun hm=> ?_)⟩
    rcases List.mem_append.1 hm with hm|hm
    ·exact hf.2.2 b hm b hb1 rfl
    ·exact hb2 hm
 |c h ih=>
  intro vs f hf ha
  cases ha with
  | @cons _ v g _ vs k h0 ht=>
    rw[List.nodup_append] at hf
    obtain⟨f1,hs,hd⟩:=ih hf.2.1 ht
    refine⟨f1,List.sublist_append_of_sublist_right hs,fun ok' hok hb=> ?_⟩
    have h1:=hd ok' hok fun b hb1 hb2=>hb b (by simp[hb1]) hb2
    have hg:∀b∈g,ok' b:=fun b hbg=>hb b (by simp[hbg]) fun hm=>hf.2.2 b hbg b (hs.subset hm) rfl
    have key:∀{x:CV} {v:Value} {g:List Nat},Den w ok [x] [v] g→(∀b∈g,ok' b)→qt w ok' (.c (l5 x)) v []:=fun hd hg=> .o (jX hd hok hg)
    cases h0 with
    |v hv=>
     cases hv (fun _=>none) with
     |c hc=>cases hc with|c hd=>exact .cons (f:=[]) (key hd (by simp)) h1
    |o hd=>exact .cons (f:=[]) (key hd hg) h1
theorem ah.Fc{P:Program}{f:Nat}{args args':List SV}{outs:List (Option (List CV))}{r:SV}(h:ah P f args' outs r)(hg:vf args args'):ah P f args outs r:=by
 refine⟨h.1,fun w ok vs fs h1 h2 h3 h4=> ?_⟩
 obtain⟨f1,hs,hd⟩:=hg.al h3 h2
 have h5:=h.2 w (fun b=>ok b∨(b∈fs∧b∉f1)) vs f1 (fun b hb=>hb.elim (h1 b) fun hb=>(h4 b hb.1).1) (hd _ (fun b hb=> .inl hb) (fun b hb hb2=> .inr ⟨hb,hb2⟩)) (h3.sublist hs)
  (fun b hb=>⟨(h4 b (hs.subset hb)).1,fun hk=>hk.elim (h4 b (hs.subset hb)).2 fun hk=>hk.2 hb⟩)
 refine h5.mono ?_
 rintro e w' ⟨v,fr,fo,rfl,hgr,hn,hb,ho,hou⟩
 have e:x8 (fun b=>ok b∨(b∈fs∧b∉f1)) f1 (fr++fo) w w'=x8 ok fs (fr++fo) w w':=by
  funext b
  have:((ok b∨(b∈fs∧b∉f1))∨b∈f1∨w.heap.size≤b)↔(ok b∨b∈fs∨w.heap.size≤b):=by
   have:= @List.Sublist.subset _ _ _ hs b
   by_cases h:b∈f1
   ·have:=this h
    simp[h,this]
   ·simp[h,or_assoc]
  unfold x8
  rw[this]
 rw[e] at ho hou
 refine⟨v,fr,fo,rfl,⟨hgr.os,hgr.tape,hgr.output,hgr.size,fun b hb hbn=>hgr.block b hb fun hm=>hbn (hs.subset hm)⟩,hn,fun b hbm=>⟨?_,(hb b hbm).2⟩,ho,hou⟩
 exact(hb b hbm).1.imp_left fun h=>hs.subset h
end Go.KA
namespace Go.KA
open Go Go.RowKit
inductive GZ:List CV→List CV→Prop
 |nil:GZ [] []
 |same {c cs cs'} (h:GZ cs cs'):GZ (c::cs) (c::cs')
 |cb {b cs cs'} (h:GZ cs cs'):GZ (.cb b::cs) (.val (.bool b)::cs')
 |op {a a' cs cs'} (k:GZ a a') (h:GZ cs cs'):GZ (.op a::cs) (.op a'::cs')
theorem GZ.den{w:World}{ok:Nat→Prop}{cs cs':List CV}(h:GZ cs cs'):∀{vs:List Value} {f:List Nat},Den w ok cs vs f→Den w ok cs' vs f:=by
 induction h with
 |nil=>intro vs f h;exact h
 |same h ih=>
  intro vs f hd
  cases hd with
  |any h1 ht=>exact .any h1 (ih ht)
  |val h1 ht=>exact .val h1 (ih ht)
  |cb ht=>exact .cb (ih ht)
  |ro a b c d e f ht=>exact .ro a b c d e f (ih ht)
  |rp a b c d ht=>exact .rp a b c d (ih ht)
  |own a b c ht=>exact .own a b c (ih ht)
  |ows a b c ht=>exact .ows a b c (ih ht)
  |eW a b c ht=>exact .eW a b c (ih ht)
  |op a b ht=>exact .op a b (ih ht)
  |iu a b c ht=>exact .iu a b c (ih ht)
 |cb h ih=>
  intro vs f hd
  cases hd with
  |cb ht=>exact .val rfl (ih ht)
 |op k h ihk ih=>
  intro vs f hd
  cases hd with
  |op a b ht=>exact .op a (ihk b) (ih ht)
inductive Nw:List (Option (List CV))→List (Option (List CV))→Prop
 |nil:Nw [] []
 |same {o os os'} (h:Nw os os'):Nw (o::os) (o::os')
 |re {cs cs' os os'} (k:GZ cs cs') (h:Nw os os'):Nw (some cs::os) (some cs'::os')
theorem GZ.PV{cs cs':List CV}(h:GZ cs cs'):∀(i:Nat) (x:List CV),cs'[i]? =some (.op x)→∃y,cs[i]? =some (.op y):=by
 induction h with
 |nil=>intro i x hx;simp at hx
 | @same c cs cs' h ih=>
   intro i x hx
   cases i with
   |zero=>exact⟨x,hx⟩
   |succ i=>exact ih i x hx
 | @cb b cs cs' h ih=>
   intro i x hx
   cases i with
   |zero=>simp at hx
   |succ i=>exact ih i x hx
 | @op a a' cs cs' k h _ ih=>
   intro i x hx
   cases i with
   |zero=>exact⟨a,rfl⟩
   |succ i=>exact ih i x hx
theorem Ar.re{w0 w:World}{v:Value}{cs cs':List CV}(h:Ar w0 w v cs)(k:GZ cs cs'):Ar w0 w v cs':=by
 intro cells' e
 subst e
 cases k with
 |same k=>cases k;exact h cells' rfl
 | @op a _ _ _ ka k=>
   cases k
   intro b ty ty' arr arr' h1 h2 h3 i x hx
   obtain⟨y,hy⟩:=ka.PV i x hx
   exact h a rfl b ty ty' arr arr' h1 h2 h3 i y hy
theorem Nw.den{w0 w:World}{ok:Nat→Prop}{os os':List (Option (List CV))}(h:Nw os os'):∀{vs:List Value} {f:List Nat},kH w0 w ok os vs f→kH w0 w ok os' vs f:=by
 induction h with
 |nil=>intro vs f h;exact h
 |same h ih=>
  intro vs f ho
  cases ho with
  |none ht=>exact .none (ih ht)
  |some hd hk ht=>exact .some hd hk (ih ht)
 |re k h ih=>
  intro vs f ho
  cases ho with
  |some hd hk ht=>exact .some (k.den hd) (hk.re k) (ih ht)
theorem ah.rG{P:Program}{f:Nat}{args:List SV}{outs outs':List (Option (List CV))}{r:SV}(h:ah P f args outs r)(ho:Nw outs outs'):ah P f args outs' r:=by
 refine⟨h.1,fun w ok vs fs h1 h2 h3 h4=>(h.2 w ok vs fs h1 h2 h3 h4).mono ?_⟩
 rintro e w' ⟨v,fr,fo,h5,h6,h7,h8,h9,h10⟩
 exact⟨v,fr,fo,h5,h6,h7,h8,h9,ho.den h10⟩
end Go.KA
namespace Go.Proofs.YtgbggaddpbghfaaGreat
open Go Go.KA Go.Proofs
theorem _root_.Go.KA.bd.beq{a b:Int}{A B:Prop}(t:a=b→A)(f:¬a=b→B):bd (a==b) A B:=bd.mk (fun h=>t (by simpa using h)) (fun h=>f (by simpa using h))
theorem _root_.Go.KA.bd.nb{b:Bool}{A B:Prop}(t:b=false→A)(f:b=true→B):bd (!b) A B:=bd.mk (fun h=>t (by simpa using h)) (fun h=>f (by simpa using h))
abbrev J(n:Int):CV:= .val (.int .i64 n)
def dJ(lo hi n:Int):Bool:=decide (lo≤n)&&decide (n≤hi)
theorem fa(n lo hi:Int):aD Tryz.prog 45 [I n,I lo,I hi] (B (dJ lo hi n)):=by
 refine dF da hm Tryz.func45 rfl rfl rfl rfl (ann:=fun _=>none) (gh:=fun _=>false) ?_
 refine bd.mk (fun h=> ?_) (fun h=> ?_)
 ·refine bh.mk ?_
  unfold dJ;rw[h];rfl
 ·refine bh.mk ?_
  unfold dJ;rw[h];rfl
theorem dH(n lo hi:Int):aD Tryz.prog 86 [I n,I lo,I hi] (B (dJ lo hi n)):=by
 refine dF da hm Tryz.func86 rfl rfl rfl rfl (ann:=fun _=>none) (gh:=fun _=>false) ?_
 refine bd.mk (fun h=> ?_) (fun h=> ?_)
 ·have h1:decide (lo≤n)=true:=by simpa using h
  refine bh.mk ?_
  unfold dJ;rw[h1];rfl
 ·have h1:decide (lo≤n)=false:=by simpa using h
  refine bh.mk ?_
  unfold dJ;rw[h1];rfl
def bO(a b:Int):Bool:=dJ 0 3 a&&dJ 0 4 b
theorem pa(a b:Int):aD Tryz.prog 44 [.a 2 [J a,J b]] (B (bO a b)):=by
 refine dF da hm Tryz.func44 rfl rfl rfl rfl (ann:=fun _=>none) (gh:=fun _=>false) ?_
 refine aa.pure _ _ rfl (fa _ _ _) rfl _ rfl ?_
 refine bd.mk (fun h=> ?_) (fun h=> ?_)
 ·refine aa.pure _ _ rfl (fa _ _ _) rfl _ rfl ?_
  refine bh.mk ?_
  unfold bO;rw[h];rfl
 ·refine bh.mk ?_
  unfold bO;rw[h];rfl
theorem kV(a b:Int):aD Tryz.prog 85 [.a 2 [J a,J b]] (B (bO a b)):=by
 refine dF da hm Tryz.func85 rfl rfl rfl rfl (ann:=fun _=>none) (gh:=fun _=>false) ?_
 refine aa.pure _ _ rfl (dH _ _ _) rfl _ rfl ?_
 refine bd.mk (fun h=> ?_) (fun h=> ?_)
 ·refine aa.pure _ _ rfl (dH _ _ _) rfl _ rfl ?_
  refine bh.mk ?_
  unfold bO;rw[h];rfl
 ·refine bh.mk ?_
  unfold bO;rw[h];rfl
abbrev aI(e:ae):List CV:=[J e.kind,J e.num, .ro 3 (e.kids.map ag)]
mutual
def cQ:ae→Bool
 | .mk kind _ kids=>(dJ 1 7 kind&& !(kind==4))&&na kids
def na:List ae→Bool
 |[]=>true
 |x::xs=>cQ x&&na xs
end
theorem p8:∀l:List ae,na l=l.all cQ
 |[]=>rfl
 |x::xs=>by simp only[na,List.all_cons];rw[p8 xs]
theorem ln(e:ae):cQ e=((dJ 1 7 e.kind&& !(e.kind==4))&&e.kids.all cQ):=by
 cases e
 simp only[cQ,p8]
 rfl
theorem rA{α:Type}{p:α→Bool}{l:List α}{i:Nat}(h:i<l.length)(hp:p l[i]=false):l.all p=false:=by
 rw[List.all_eq_false]
 exact⟨l[i],List.getElem_mem h,by simp[hp]⟩
theorem kj{α:Type}{p:α→Bool}{l:List α}{i:Nat}(h:i<l.length)(ha:(l.take i).all p=true)(hp:p l[i]=true):(l.take (i+1)).all p=true:=by
 rw[List.take_add_one,List.getElem?_eq_getElem h,List.all_append,ha]
 simp[hp]
theorem uv(e:ae)(hx:∀x∈e.kids,aD Tryz.prog 214 [.c (.rp 3 (ag x))] (B (cQ x))):aD Tryz.prog 214 [.c (.rp 3 (aI e))] (B (cQ e)):=by
 refine dF da hm Tryz.func214 rfl rfl rfl rfl (ann:=fun n=>match n with|4=>some {α:=Nat,gM:=[0],ov:=fun i=>[(3,I i)],φ:=fun i=>i≤e.kids.length∧(e.kids.take i).all cQ=true,μ:=fun i=>e.kids.length-i}|_=>none) (gh:=fun _=>false) ?_
 refine aa.pure _ _ rfl (dH _ _ _) rfl _ rfl ?_
 refine bd.mk (fun h1=> ?_) (fun h1=> ?_)
 ·refine bh.mk ?_
  have:dJ 1 7 e.kind=false:=by simpa using h1
  rw[ln,this];rfl
 have h1:dJ 1 7 e.kind=true:=by simpa using h1
 refine bd.mk (fun h2=> ?_) (fun h2=> ?_)
 ·refine bh.mk ?_
  rw[ln,h1,h2];rfl
 refine lQ.mk (0:Nat) ⟨Nat.zero_le _,rfl⟩ ⟨⟨rfl,rfl⟩,trivial⟩ ⟨⟨rfl,rfl⟩,trivial⟩ trivial ?_ (fun _=>rfl)
 intro(i:Nat) (hi:i≤e.kids.length∧(e.kids.take i).all cQ=true)
 obtain⟨hi,ha⟩:=hi
 refine Fact.mk fun hL=> ?_
 refine bd.mk (fun h=> ?_) (fun h=> ?_)
 ·have h:=of_decide_eq_true h
  rw[List.length_map] at h hL
  have hi':i<e.kids.length:=by omega
  refine aV.mk (by omega) (Index.mk (ag e.kids[i]) (by simp[hi']) ?_)
  refine aa.pure _ _ rfl (hx _ (List.getElem_mem hi')) rfl _ rfl ?_
  refine bd.mk (fun hb=> ?_) (fun hb=> ?_)
  ·refine bh.mk ?_
   rw[ln,h1,h2,rA hi' (by simpa using hb)];rfl
  ·simp only[maxLen] at hL
   refine Arith.fit (aP (by omega) (by omega)) ?_
   exact Gh.go ⟨i+1,⟨hi',kj hi' ha (by simpa using hb)⟩,(by show e.kids.length-(i+1)<e.kids.length-i;omega),⟨⟨rfl,rfl⟩,trivial⟩,⟨⟨rfl,rfl⟩,trivial⟩,trivial⟩
 ·have h:=of_decide_eq_false h
  rw[List.length_map] at h
  have:i=e.kids.length:=by omega
  subst this
  refine bh.mk ?_
  rw[List.take_length] at ha
  rw[ln,h1,h2,ha];rfl
theorem iN(e:ae):aD Tryz.prog 214 [.c (.rp 3 (ag e))] (B (cQ e)):=by
 rw[a9]
 exact uv e fun x _hx=>iN x
 termination_by SizeOf.sizeOf e
 decreasing_by
  have:=List.sizeOf_lt_of_mem _hx
  cases e
  simp only[ae.mk.sizeOf_spec]
  show SizeOf.sizeOf x<_
  simp only[ae.kids] at this
  omega
end Go.Proofs.YtgbggaddpbghfaaGreat
namespace Go.Proofs.YtgbggaddpbghfaaGreat
open Go Go.KA Go.Proofs
def cR(k:Int):Int:=if k==1||(k==2||(k==3||k==4)) then 0 else if k==5||k==8 then 1 else if k==6||k==7 then 2 else-1
theorem Ey(k:Int):aD Tryz.prog 215 [I k] (I (cR k)):=by
 refine dF da hm Tryz.func215 rfl rfl rfl rfl (ann:=fun _=>none) (gh:=fun _=>false) ?_
 refine bd.mk (fun h1=>bh.mk (by simp[cR,h1];rfl)) (fun h1=> ?_)
 refine bd.mk (fun h2=>bh.mk (by simp[cR,h1,h2];rfl)) (fun h2=> ?_)
 refine bd.mk (fun h3=>bh.mk (by simp[cR,h1,h2,h3];rfl)) (fun h3=> ?_)
 refine bd.mk (fun h4=>bh.mk (by simp[cR,h1,h2,h3,h4];rfl)) (fun h4=> ?_)
 refine bd.mk (fun h5=>bh.mk (by simp[cR,h1,h2,h3,h4,h5];rfl)) (fun h5=> ?_)
 refine bd.mk (fun h8=>bh.mk (by simp[cR,h1,h2,h3,h4,h5,h8];rfl)) (fun h8=> ?_)
 refine bd.mk (fun h6=>bh.mk (by simp[cR,h1,h2,h3,h4,h5,h6,h8];rfl)) (fun h6=> ?_)
 refine bd.mk (fun h7=>bh.mk (by simp[cR,h1,h2,h3,h4,h5,h6,h7,h8];rfl)) (fun h7=> ?_)
 exact bh.mk (by simp[cR,h1,h2,h3,h4,h5,h6,h7,h8];rfl)
theorem HK(k:Int):aD Tryz.prog 216 [I k] (I (cR k)):=by
 refine dF da hm Tryz.func216 rfl rfl rfl rfl (ann:=fun _=>none) (gh:=fun _=>false) ?_
 refine bd.mk (fun h1=>bh.mk (by simp[cR,h1];rfl)) (fun h1=> ?_)
 refine bd.mk (fun h2=>bh.mk (by simp[cR,h1,h2];rfl)) (fun h2=> ?_)
 refine bd.mk (fun h3=>bh.mk (by simp[cR,h1,h2,h3];rfl)) (fun h3=> ?_)
 refine bd.mk (fun h4=>bh.mk (by simp[cR,h1,h2,h3,h4];rfl)) (fun h4=> ?_)
 refine bd.mk (fun h5=>bh.mk (by simp[cR,h1,h2,h3,h4,h5];rfl)) (fun h5=> ?_)
 refine bd.mk (fun h8=>bh.mk (by simp[cR,h1,h2,h3,h4,h5,h8];rfl)) (fun h8=> ?_)
 refine bd.mk (fun h6=>bh.mk (by simp[cR,h1,h2,h3,h4,h5,h6,h8];rfl)) (fun h6=> ?_)
 refine bd.mk (fun h7=>bh.mk (by simp[cR,h1,h2,h3,h4,h5,h6,h7,h8];rfl)) (fun h7=> ?_)
 exact bh.mk (by simp[cR,h1,h2,h3,h4,h5,h6,h7,h8];rfl)
theorem vx(e:ae)(hx:∀x∈e.kids,aD Tryz.prog 206 [.a 3 (ag x)] (B (cQ x))):aD Tryz.prog 206 [.a 3 (aI e)] (B (cQ e)):=by
 refine dF da hm Tryz.func206 rfl rfl rfl rfl (ann:=fun n=>match n with|10=>some {α:=Nat,gM:=[2,15,16],ov:=fun i=>[(17,I i)],φ:=fun i=>i≤e.kids.length∧(e.kids.take i).all cQ=true,μ:=fun i=>e.kids.length-i}|_=>none) (gh:=fun _=>false) ?_
 refine bd.mk (fun hh=> ?_) (fun h1=>bd.mk (fun hh=> ?_) (fun h2=>bd.mk (fun hh=> ?_) (fun h3=>bd.mk (fun hh=> ?_) (fun h5=>bd.mk (fun hh=> ?_) (fun h6=>bd.mk (fun hh=> ?_) (fun h7=> ?_))))))
 rotate_left 6
 ·refine bh.mk ?_
  have:cQ e=false:=by
   rw[ln]
   simp only[beq_eq_false_iff_ne,ne_eq] at h1 h2 h3 h5 h6 h7
   have:(dJ 1 7 e.kind&& !(e.kind==4))=false:=by
        simp only[dJ,Bool.and_eq_false_iff,decide_eq_false_iff_not,Bool.not_eq_false',beq_iff_eq]
        omega
   rw[this];rfl
  rw[this];rfl
 all_goals
  have hk:(dJ 1 7 e.kind&& !(e.kind==4))=true:=by
   have hq:=eq_of_beq hh
   rw[hq];rfl
  refine Fact.mk fun hL=> ?_
  refine lQ.mk (0:Nat) ⟨Nat.zero_le _,rfl⟩ ⟨⟨rfl,rfl⟩,trivial⟩ ⟨⟨rfl,rfl⟩,⟨rfl,rfl⟩,⟨rfl,rfl⟩,trivial⟩ ⟨⟨rfl,rfl⟩,trivial⟩ ?_ (fun _=>rfl)
  intro(i:Nat) (hi:i≤e.kids.length∧(e.kids.take i).all cQ=true)
  obtain⟨hi,ha⟩:=hi
  rw[List.length_map] at hL
  refine bd.mk (fun h=> ?_) (fun h=> ?_)
  ·have h:=of_decide_eq_true h
   rw[List.length_map] at h
   have hi':i<e.kids.length:=by omega
   refine aV.mk (by omega) (Index.mk (ag e.kids[i]) (by simp[hi']) ?_)
   refine aa.pure _ _ rfl (hx _ (List.getElem_mem hi')) rfl _ rfl ?_
   refine bd.mk (fun hb=> ?_) (fun hb=> ?_)
   ·refine bh.mk ?_
    rw[ln,hk,rA hi' (by simpa using hb)];rfl
   ·simp only[maxLen] at hL
    refine Arith.fit (aP (by omega) (by omega)) ?_
    exact Gh.go ⟨i+1,⟨hi',kj hi' ha (by simpa using hb)⟩,(by show e.kids.length-(i+1)<e.kids.length-i;omega),⟨⟨rfl,rfl⟩,trivial⟩,⟨⟨rfl,rfl⟩,⟨rfl,rfl⟩,⟨rfl,rfl⟩,trivial⟩,⟨⟨rfl,rfl⟩,trivial⟩⟩
  ·have h:=of_decide_eq_false h
   rw[List.length_map] at h
   have:i=e.kids.length:=by omega
   subst this
   refine bh.mk ?_
   rw[List.take_length] at ha
   rw[ln,hk,ha];rfl
theorem kZ(e:ae):aD Tryz.prog 206 [.a 3 (ag e)] (B (cQ e)):=by
 rw[a9]
 exact vx e fun x _hx=>kZ x
 termination_by SizeOf.sizeOf e
 decreasing_by
  have:=List.sizeOf_lt_of_mem _hx
  cases e
  simp only[ae.mk.sizeOf_spec]
  show SizeOf.sizeOf x<_
  simp only[ae.kids] at this
  omega
end Go.Proofs.YtgbggaddpbghfaaGreat
namespace Go.Proofs.YtgbggaddpbghfaaGreat
open Go Go.KA Go.Proofs
mutual
def b9:ae→Int→Int
 | .mk _ _ kids,left=>dh kids (left-1)
def dh:List ae→Int→Int
 |[],left=>left
 |x::xs,left=>if left<0 then left else dh xs (b9 x left)
end
mutual
def eD:ae→Nat
 | .mk _ _ kids=>eN kids+1
def eN:List ae→Nat
 |[]=>0
 |x::xs=>max (eD x) (eN xs)
end
theorem uA(e:ae):eD e=eN e.kids+1:=by
 cases e
 rfl
theorem xg(e:ae)(left:Int):b9 e left=dh e.kids (left-1):=by
 cases e
 rfl
theorem Ct{l:List ae}{i:Nat}(h:i<l.length):eN (l.take (i+1))=max (eN (l.take i)) (eD l[i]):=by
 induction l generalizing i with
 |nil=>simp at h
 |cons x xs ih=>
  cases i with
  |zero=>simp[eN]
  |succ i=>
   simp only[List.length_cons,Nat.add_lt_add_iff_right] at h
   simp only[List.take_succ_cons,eN,List.getElem_cons_succ,ih h]
   omega
mutual
theorem za:∀e:ae,eD e≤aj e+1
 | .mk k n kids=>by
   have:=zQ kids
   simp only[eD,aj]
   omega
theorem zQ:∀l:List ae,eN l≤aJ l
 |[]=>Nat.le_refl _
 |x::xs=>by
  have h1:=za x
  have h2:=zQ xs
  simp only[eN,aJ]
  omega
end
theorem OB(a b:Nat):aD Tryz.prog 77 [I a,I b] (I (max a b:Nat)):=by
 refine dF da hm Tryz.func77 rfl rfl rfl rfl (ann:=fun _=>none) (gh:=fun _=>false) ?_
 refine bd.mk (fun h=> ?_) (fun h=> ?_)
 ·have h:(a:Int)>b:=of_decide_eq_true h
  refine bh.mk ?_
  rw[Nat.max_eq_left (by omega)];rfl
 ·have h:¬(a:Int)>b:=of_decide_eq_false h
  refine bh.mk ?_
  rw[Nat.max_eq_right (by omega)];rfl
theorem Ba(e:ae)(hl:aj e≤1048576)(hx:∀x∈e.kids,aD Tryz.prog 200 [.c (.rp 3 (ag x))] (I (eD x))):aD Tryz.prog 200 [.c (.rp 3 (aI e))] (I (eD e)):=by
 refine dF da hm Tryz.func200 rfl rfl rfl rfl (ann:=fun n=>match n with|3=>some {α:=Nat,gM:=[0],ov:=fun i=>[(4,I i),(3,I (eN (e.kids.take i)))],φ:=fun i=>i≤e.kids.length,μ:=fun i=>e.kids.length-i}|_=>none) (gh:=fun _=>false) ?_
 have hd:=za e
 rw[uA] at hd
 refine lQ.mk (0:Nat) (Nat.zero_le _) ⟨⟨rfl,rfl⟩,⟨rfl,rfl⟩,trivial⟩ ⟨⟨rfl,rfl⟩,trivial⟩ trivial ?_ (fun _=>rfl)
 intro(i:Nat) (hi:i≤e.kids.length)
 refine Fact.mk fun hL=> ?_
 refine bd.mk (fun h=> ?_) (fun h=> ?_)
 ·have h:=of_decide_eq_true h
  rw[List.length_map] at h hL
  have hi':i<e.kids.length:=by omega
  refine aV.mk (by omega) (Index.mk (ag e.kids[i]) (by simp[hi']) ?_)
  refine aa.pure _ _ rfl (hx _ (List.getElem_mem hi')) rfl _ rfl ?_
  refine aa.pure _ _ rfl (OB _ _) rfl _ rfl ?_
  simp only[maxLen] at hL
  refine Arith.fit (aP (by omega) (by omega)) ?_
  refine Gh.go ⟨i+1,hi',(by show e.kids.length-(i+1)<e.kids.length-i;omega),⟨⟨rfl,rfl⟩,⟨?_,rfl⟩,trivial⟩,⟨⟨rfl,rfl⟩,trivial⟩,trivial⟩
  exact congrArg (fun n:Nat=>I n) (Ct hi').symm
 ·have h:=of_decide_eq_false h
  rw[List.length_map] at h
  have:i=e.kids.length:=by omega
  subst this
  refine Arith.fit (aP (by omega) (by rw[List.take_length];omega)) ?_
  refine bh.mk ?_
  rw[uA,List.take_length];rfl
end Go.Proofs.YtgbggaddpbghfaaGreat
namespace Go.Proofs.YtgbggaddpbghfaaGreat
open Go Go.KA Go.Proofs
theorem nh{left:Int}(h:left<0):∀l:List ae,dh l left=left
 |[]=>rfl
 |x::xs=>by simp only[dh];rw[if_pos h]
theorem nT:∀(l m:List ae) (left:Int),dh (l++m) left=dh m (dh l left)
 |[],_,_=>rfl
 |x::xs,m,left=>by
  simp only[List.cons_append,dh]
  by_cases h:left<0
  ·rw[if_pos h,if_pos h,nh h]
  ·rw[if_neg h,if_neg h,nT xs m]
mutual
theorem mu:∀(e:ae) (left:Int),0≤left→ -1≤b9 e left∧b9 e left≤left-1
 | .mk _ _ kids,left,h=>by
   have:=pV kids (left-1) (by omega)
   simp only[b9]
   exact this
theorem pV:∀(l:List ae) (left:Int), -1≤left→ -1≤dh l left∧dh l left≤left
 |[],left,h=>⟨h,Int.le_refl _⟩
 |x::xs,left,h=>by
  simp only[dh]
  by_cases hn:left<0
  ·rw[if_pos hn];omega
  ·rw[if_neg hn]
   have h1:=mu x left (by omega)
   have h2:=pV xs (b9 x left) h1.1
   omega
end
theorem FD{l:List ae}{i:Nat}{left:Int}(h:i<l.length)(hp:0≤dh (l.take i) left):dh (l.take (i+1)) left=b9 l[i] (dh (l.take i) left):=by
 rw[List.take_add_one,List.getElem?_eq_getElem h,nT]
 simp only[Option.toList_some,dh]
 rw[if_neg (by omega)]
theorem E8{l:List ae}{i:Nat}{left:Int}(hp:dh (l.take i) left<0):dh l left=dh (l.take i) left:=by
 have h:l=l.take i++l.drop i:=(List.take_append_drop i l).symm
 conv=>lhs;rw[h]
 rw[nT,nh hp]
theorem Ck(e:ae)(left:Int)(h0:0≤left)(h1:left≤1048576)(hx:∀x∈e.kids,∀left:Int,0≤left→left≤1048576→aD Tryz.prog 145 [.c (.rp 3 (ag x)),I left] (I (b9 x left))):aD Tryz.prog 145 [.c (.rp 3 (aI e)),I left] (I (b9 e left)):=by
 refine dF da hm Tryz.func145 rfl rfl rfl rfl (ann:=fun n=>match n with|3=>some {α:=Nat,gM:=[0],ov:=fun i=>[(5,I i),(1,I (dh (e.kids.take i) (left-1)))],φ:=fun i=>i≤e.kids.length,μ:=fun i=>e.kids.length-i}|_=>none) (gh:=fun _=>false) ?_
 refine Arith.fit (aP (by omega) (by omega)) ?_
 refine lQ.mk (0:Nat) (Nat.zero_le _) ⟨⟨rfl,rfl⟩,⟨rfl,rfl⟩,trivial⟩ ⟨⟨rfl,rfl⟩,trivial⟩ trivial ?_ (fun _=>rfl)
 intro(i:Nat) (hi:i≤e.kids.length)
 have hr:=pV (e.kids.take i) (left-1) (by omega)
 refine Fact.mk fun hL=> ?_
 refine bd.mk (fun h=> ?_) (fun h=> ?_)
 ·have h:=of_decide_eq_true h
  rw[List.length_map] at h hL
  have hi':i<e.kids.length:=by omega
  refine bd.mk (fun hg=> ?_) (fun hg=> ?_)
  ·have hg:dh (e.kids.take i) (left-1)≥0:=of_decide_eq_true hg
   refine aV.mk (by omega) (Index.mk (ag e.kids[i]) (by simp[hi']) ?_)
   refine aa.pure _ _ rfl (hx _ (List.getElem_mem hi') (dh (e.kids.take i) (left-1)) (by omega) (by omega)) rfl _ rfl ?_
   simp only[maxLen] at hL
   refine Arith.fit (aP (by omega) (by omega)) ?_
   refine Gh.go ⟨i+1,hi',(by show e.kids.length-(i+1)<e.kids.length-i;omega),⟨⟨rfl,rfl⟩,⟨?_,rfl⟩,trivial⟩,⟨⟨rfl,rfl⟩,trivial⟩,trivial⟩
   exact congrArg I (FD hi' (by omega)).symm
  ·have hg:¬dh (e.kids.take i) (left-1)≥0:=of_decide_eq_false hg
   refine bh.mk ?_
   rw[xg,E8 (l:=e.kids) (i:=i) (by omega)];rfl
 ·have h:=of_decide_eq_false h
  rw[List.length_map] at h
  have:i=e.kids.length:=by omega
  subst this
  refine bh.mk ?_
  rw[xg,List.take_length];rfl
theorem rm(e:ae)(left:Int)(h0:0≤left)(h1:left≤1048576):aD Tryz.prog 145 [.c (.rp 3 (ag e)),I left] (I (b9 e left)):=by
 rw[a9]
 exact Ck e left h0 h1 fun x _hx left h0 h1=>rm x left h0 h1
 termination_by SizeOf.sizeOf e
 decreasing_by
  have:=List.sizeOf_lt_of_mem _hx
  cases e
  simp only[ae.mk.sizeOf_spec]
  show SizeOf.sizeOf x<_
  simp only[ae.kids] at this
  omega
theorem vj(e:ae)(hl:aj e≤1048576):aD Tryz.prog 200 [.c (.rp 3 (ag e))] (I (eD e)):=by
 rw[a9]
 exact Ba e hl fun x _hx=>vj x (by
  have:=cS aj _hx
  cases e
  simp only[aj,mD] at hl
  simp only[ae.kids] at this
  omega)
 termination_by SizeOf.sizeOf e
 decreasing_by
  have:=List.sizeOf_lt_of_mem _hx
  cases e
  simp only[ae.mk.sizeOf_spec]
  show SizeOf.sizeOf x<_
  simp only[ae.kids] at this
  omega
end Go.Proofs.YtgbggaddpbghfaaGreat
namespace Go.Proofs.YtgbggaddpbghfaaGreat
open Go Go.KA Go.Proofs
mutual
def dK(t a:Int):ae→Bool
 | .mk k n kids=>((kids.length:Int)==cR k)&&(if k==3 then dJ 0 (t-1) n else if k==4 then dJ 0 (a-1) n else(n==0)&&((!(k==5)||na kids)&&gE t a kids))
def gE(t a:Int):List ae→Bool
 |[]=>true
 |x::xs=>dK t a x&&gE t a xs
end
theorem yH(t a:Int):∀l:List ae,gE t a l=l.all (dK t a)
 |[]=>rfl
 |x::xs=>by simp only[gE,List.all_cons];rw[yH t a xs]
theorem gk(t a:Int)(e:ae):dK t a e=(((e.kids.length:Int)==cR e.kind)&&(if e.kind==3 then dJ 0 (t-1) e.num else if e.kind==4 then dJ 0 (a-1) e.num else(e.num==0)&&((!(e.kind==5)||e.kids.all cQ)&&e.kids.all (dK t a)))):=by
 cases e
 simp only[dK,yH,p8]
 rfl
set_option maxHeartbeats 8000000 in
theorem DA(t a:Int)(ht:0≤t∧t≤3)(ha:0≤a∧a≤4)(e:ae)(hx:∀x∈e.kids,aD Tryz.prog 201 [.a 2 [J t,J a], .c (.rp 3 (ag x))] (B (dK t a x))):aD Tryz.prog 201 [.a 2 [J t,J a], .c (.rp 3 (aI e))] (B (dK t a e)):=by
 refine dF da hm Tryz.func201 rfl rfl rfl rfl (ann:=fun n=>match n with|11=>some {α:=Nat,gM:=[1,2],ov:=fun i=>[(5,I i)],φ:=fun i=>i≤e.kids.length∧(e.kids.take i).all (dK t a)=true,μ:=fun i=>e.kids.length-i}|_=>none) (gh:=fun _=>false) ?_
 refine aV.mk (by kernel_rfl) ?_
 refine aa.pure _ _ rfl (Ey _) rfl _ rfl ?_
 refine aV.mk (by kernel_rfl) ?_
 refine bd.mk (fun h1=> ?_) (fun h1=> ?_)
 ·refine bh.mk ?_
  rw[List.length_map] at h1
  have:((e.kids.length:Int)==cR e.kind)=false:=by simpa using h1
  rw[gk,this];rfl
 rw[List.length_map] at h1
 have h1:((e.kids.length:Int)==cR e.kind)=true:=by simpa using h1
 refine bd.mk (fun h3=> ?_) (fun h3=> ?_)
 ·refine aV.mk (by kernel_rfl) ?_
  refine Arith.fit (aP (by omega) (by omega)) ?_
  refine aa.pure _ _ rfl (dH _ _ _) rfl _ rfl ?_
  refine aV.mk (by kernel_rfl) ?_
  refine bh.mk ?_
  rw[gk,h1,h3];rfl
 refine bd.mk (fun h4=> ?_) (fun h4=> ?_)
 ·refine aV.mk (by kernel_rfl) ?_
  refine Arith.fit (aP (by omega) (by omega)) ?_
  refine aa.pure _ _ rfl (dH _ _ _) rfl _ rfl ?_
  refine aV.mk (by kernel_rfl) ?_
  refine bh.mk ?_
  rw[gk,h1,h3,h4];rfl
 refine bd.mk (fun h0=> ?_) (fun h0=> ?_)
 ·refine bh.mk ?_
  have:(e.num==0)=false:=by simpa using h0
  rw[gk,h1,h3,h4,this];rfl
 have h0:(e.num==0)=true:=by simpa using h0
 refine bd.mk (fun h5=> ?_) (fun h5=> ?_)
 ·have hk:e.kind=5:=eq_of_beq h5
  have hl1:(e.kids.length:Int)=1:=by
   have:=eq_of_beq h1
   rw[hk] at this
   exact this
  have hi0:0<e.kids.length:=by omega
  have hone:e.kids.all cQ=cQ e.kids[0]:=by
   match hm:e.kids,hi0,hl1 with
   |[x],_,_=>simp
  refine aV.mk (by omega) (Index.mk (ag e.kids[0]) (by show(e.kids.map ag)[0]? =_;rw[List.getElem?_map,List.getElem?_eq_getElem hi0];rfl) ?_)
  refine aa.pure _ _ rfl (iN _) rfl _ rfl ?_
  refine bd.mk (fun hc=> ?_) (fun hc=> ?_)
  ·refine bh.mk ?_
   have hc:cQ e.kids[0]=false:=by simpa using hc
   rw[gk,h1,h3,h4,h0,h5,hone,hc];rfl
  have hc:cQ e.kids[0]=true:=by simpa using hc
  have hC:(!(e.kind==5)||e.kids.all cQ)=true:=by rw[hone,hc,h5];rfl
  refine lQ.mk (0:Nat) ⟨Nat.zero_le _,rfl⟩ ⟨⟨rfl,rfl⟩,trivial⟩ ⟨⟨rfl,rfl⟩,⟨rfl,rfl⟩,trivial⟩ ⟨⟨rfl,rfl⟩,trivial⟩ ?_ (fun _=>rfl)
  intro(i:Nat) (hi:i≤e.kids.length∧(e.kids.take i).all (dK t a)=true)
  obtain⟨hi,hal⟩:=hi
  refine Fact.mk fun hL=> ?_
  refine bd.mk (fun h=> ?_) (fun h=> ?_)
  ·have h:=of_decide_eq_true h
   rw[List.length_map] at h hL
   have hi':i<e.kids.length:=by omega
   refine aV.mk (by kernel_rfl) ?_
   refine aV.mk (by omega) (Index.mk (ag e.kids[i]) (by simp[hi']) ?_)
   refine aa.pure _ _ rfl (hx _ (List.getElem_mem hi')) rfl _ rfl ?_
   refine aV.mk (by kernel_rfl) ?_
   refine bd.mk (fun hb=> ?_) (fun hb=> ?_)
   ·refine bh.mk ?_
    rw[gk,h1,h3,h4,h0,hC,rA hi' (by simpa using hb)];rfl
   ·simp only[maxLen] at hL
    refine Arith.fit (aP (by omega) (by omega)) ?_
    exact Gh.go ⟨i+1,⟨hi',kj hi' hal (by simpa using hb)⟩,(by show e.kids.length-(i+1)<e.kids.length-i;omega),⟨⟨rfl,rfl⟩,trivial⟩,⟨⟨rfl,rfl⟩,⟨rfl,rfl⟩,trivial⟩,⟨⟨rfl,rfl⟩,trivial⟩⟩
  ·have h:=of_decide_eq_false h
   rw[List.length_map] at h
   have:i=e.kids.length:=by omega
   subst this
   refine bh.mk ?_
   rw[List.take_length] at hal
   rw[gk,h1,h3,h4,h0,hC,hal];rfl
 ·have hC:(!(e.kind==5)||e.kids.all cQ)=true:=by rw[h5];rfl
  refine lQ.mk (0:Nat) ⟨Nat.zero_le _,rfl⟩ ⟨⟨rfl,rfl⟩,trivial⟩ ⟨⟨rfl,rfl⟩,⟨rfl,rfl⟩,trivial⟩ ⟨⟨rfl,rfl⟩,trivial⟩ ?_ (fun _=>rfl)
  intro(i:Nat) (hi:i≤e.kids.length∧(e.kids.take i).all (dK t a)=true)
  obtain⟨hi,hal⟩:=hi
  refine Fact.mk fun hL=> ?_
  refine bd.mk (fun h=> ?_) (fun h=> ?_)
  ·have h:=of_decide_eq_true h
   rw[List.length_map] at h hL
   have hi':i<e.kids.length:=by omega
   refine aV.mk (by kernel_rfl) ?_
   refine aV.mk (by omega) (Index.mk (ag e.kids[i]) (by simp[hi']) ?_)
   refine aa.pure _ _ rfl (hx _ (List.getElem_mem hi')) rfl _ rfl ?_
   refine aV.mk (by kernel_rfl) ?_
   refine bd.mk (fun hb=> ?_) (fun hb=> ?_)
   ·refine bh.mk ?_
    rw[gk,h1,h3,h4,h0,hC,rA hi' (by simpa using hb)];rfl
   ·simp only[maxLen] at hL
    refine Arith.fit (aP (by omega) (by omega)) ?_
    exact Gh.go ⟨i+1,⟨hi',kj hi' hal (by simpa using hb)⟩,(by show e.kids.length-(i+1)<e.kids.length-i;omega),⟨⟨rfl,rfl⟩,trivial⟩,⟨⟨rfl,rfl⟩,⟨rfl,rfl⟩,trivial⟩,⟨⟨rfl,rfl⟩,trivial⟩⟩
  ·have h:=of_decide_eq_false h
   rw[List.length_map] at h
   have:i=e.kids.length:=by omega
   subst this
   refine bh.mk ?_
   rw[List.take_length] at hal
   rw[gk,h1,h3,h4,h0,hC,hal];rfl
theorem wy(t a:Int)(ht:0≤t∧t≤3)(ha:0≤a∧a≤4)(e:ae):aD Tryz.prog 201 [.a 2 [J t,J a], .c (.rp 3 (ag e))] (B (dK t a e)):=by
 rw[a9]
 exact DA t a ht ha e fun x _hx=>wy t a ht ha x
 termination_by SizeOf.sizeOf e
 decreasing_by
  have:=List.sizeOf_lt_of_mem _hx
  cases e
  simp only[ae.mk.sizeOf_spec]
  show SizeOf.sizeOf x<_
  simp only[ae.kids] at this
  omega
end Go.Proofs.YtgbggaddpbghfaaGreat
namespace Go.Proofs.YtgbggaddpbghfaaGreat
open Go Go.KA Go.Proofs
theorem bw{α:Type}{f:α→List CV}{l:List α}{i:Nat}(h:i<l.length):(l.map f)[i]? =some (f l[i]):=by
 rw[List.getElem?_map,List.getElem?_eq_getElem h]
 rfl
mutual
def EF(t a:Int):ae→Int→Int→Option Int
 | .mk k n kids,nodes,depth=>
   if nodes=0∨depth=0∨cR k≠kids.length then none
   else if(if k=3 then dJ 0 (t-1) n else if k=4 then dJ 0 (a-1) n else n==0)&&(!(k==5)||na kids) then Da t a kids (nodes-1) (depth-1) else none
def Da(t a:Int):List ae→Int→Int→Option Int
 |[],nodes,_=>some nodes
 |x::xs,nodes,depth=>match EF t a x nodes depth with
  |none=>none
  |some m=>Da t a xs m depth
end
theorem vY(t a:Int)(e:ae)(nodes depth:Int):EF t a e nodes depth=if nodes=0∨depth=0∨cR e.kind≠e.kids.length then none
 else if(if e.kind=3 then dJ 0 (t-1) e.num else if e.kind=4 then dJ 0 (a-1) e.num else e.num==0)&&(!(e.kind==5)||e.kids.all cQ) then Da t a e.kids (nodes-1) (depth-1) else none:=by
 cases e
 simp only[EF,p8]
 rfl
abbrev Om(o:Option Int):SV:= .tup [I (o.getD 0),B o.isSome]
theorem DY(t a:Int){l:List ae}{i:Nat}{m d:Int}(h:i<l.length):Da t a (l.drop i) m d=match EF t a l[i] m d with|none=>none|some m'=>Da t a (l.drop (i+1)) m' d:=by
 rw[List.drop_eq_getElem_cons h]
 rfl
mutual
theorem zS(t a:Int):∀(e:ae) (n d r:Int),0≤n→EF t a e n d=some r→0≤r∧r≤n
 | .mk k num kids,n,d,r,hn,h=>by
   unfold EF at h
   by_cases h1:n=0∨d=0∨cR k≠kids.length
   ·rw[if_pos h1] at h;cases h
   rw[if_neg h1] at h
   generalize hC:((if k=3 then dJ 0 (t-1) num else if k=4 then dJ 0 (a-1) num else num==0)&&(!(k==5)||na kids))=C at h
   cases C with
   |false=>exact absurd h (by simp)
   |true=>
    have:=zF t a kids (n-1) (d-1) r (by omega) (by simpa using h)
    omega
theorem zF(t a:Int):∀(l:List ae) (n d r:Int),0≤n→Da t a l n d=some r→0≤r∧r≤n
 |[],n,d,r,hn,h=>by
  simp only[Da,Option.some.injEq] at h
  omega
 |x::xs,n,d,r,hn,h=>by
  simp only[Da] at h
  split at h
  ·cases h
  rename_i m hm
  have h1:=zS t a x n d m hn hm
  have h2:=zF t a xs m d r h1.1 h
  omega
end
set_option maxHeartbeats 8000000 in
theorem Fw(t a:Int)(ht:0≤t∧t≤3)(ha:0≤a∧a≤4)(e:ae)(nodes depth:Int)(hn:0≤nodes∧nodes≤1048576)(hd:0≤depth∧depth≤1048576)
 (hx:∀x∈e.kids,∀nodes depth:Int,0≤nodes∧nodes≤1048576→0≤depth∧depth≤1048576→aD Tryz.prog 205 [.a 2 [J t,J a], .a 3 (ag x),I nodes,I depth] (Om (EF t a x nodes depth))):
 aD Tryz.prog 205 [.a 2 [J t,J a], .a 3 (aI e),I nodes,I depth] (Om (EF t a e nodes depth)):=by
 refine cF Tryz.func205 (h:= ?_)
 have k5:e.kind=5→cR e.kind=1:=by intro h;rw[h];rfl
 have hone:e.kind=5→cR e.kind=e.kids.length→∀h0:0<e.kids.length,e.kids.all cQ=cQ e.kids[0]:=by
  intro h1 h2 h0
  rw[k5 h1] at h2
  match hm:e.kids,h0,h2 with
  |[x],_,_=>simp
 repeat'((conv=>whnf);first
  |(apply bh.mk;first|(rw[vY];simp_all[Om,cO,cM];done)|(have hn':EF t a e.kids[i] m (depth-1)=none:=(by simpa using h);have hq:=DY t a (m:=m) (d:=depth-1) (show i<e.kids.length by omega);rw[hn'] at hq;rw[vY,ha.2.2,hq];simp[Om,cO,cM];done)|(have h0:0<e.kids.length:=(by omega);have h51:e.kids.all cQ=false:=(hone (by omega) (by omega) h0).trans ‹cQ e.kids[0]=false›;rw[vY,h51];simp[Om,cO,cM, *];done)|(rw[vY,ha.2.2,List.drop_of_length_le (by omega)];simp_all[Om,Da,cO,cM];done)|skip)|(guard_target=~ aK 16 _ _ _ _ _ _;refine lp (Nat × Int) [3,4,66,67] (fun⟨i,m⟩=>[(2,I m),(68,I i)]) (fun⟨i,m⟩=>i≤e.kids.length∧(0≤m∧m≤1048576)∧Da t a e.kids (nodes-1) (depth-1)=Da t a (e.kids.drop i) m (depth-1)) (fun⟨i,m⟩=>e.kids.length-i) (0,nodes-1) (by exact⟨Nat.zero_le _,⟨by show 0≤nodes-1;omega,by show nodes-1≤1048576;omega⟩,rfl⟩) (fun A ha=> ?_);obtain⟨i,m⟩:=A;have ha:i≤e.kids.length∧(0≤m∧m≤1048576)∧Da t a e.kids (nodes-1) (depth-1)=Da t a (e.kids.drop i) m (depth-1):=ha)
  |refine nx ((i+1,(EF t a e.kids[i] m (depth-1)).getD 0):Nat × Int) (by obtain⟨hi,hm,hs⟩:=ha;obtain⟨r,hr⟩:=Option.isSome_iff_exists.1 h;exact⟨by show i+1≤_;omega,(by have:=zS t a _ _ _ _ hm.1 hr;rw[hr];simp only[Option.getD_some];omega),(by rw[hs,DY t a (show i<e.kids.length by omega),hr];rfl)⟩)
  |(apply Fact.mk;intro hL;try simp only[List.length_map,maxLen] at hL)
  |((first|apply bA|apply bB|apply bC|apply bD|apply bE|apply bF)<;>intro h<;>(try simp only[List.length_map] at h)<;>(try omega)<;>(try contradiction))|(guard_target=aa _ 216 _ _ _ _;refine cP rfl (HK _) ?_)|(guard_target=aa _ 45 _ _ _ _;refine cP rfl (fa _ _ _) ?_)|(guard_target=aa _ 206 _ _ _ _;refine cP rfl (kZ _) ?_)|(guard_target=aa _ 205 _ _ _ _;refine cP rfl (hx _ (List.getElem_mem (by omega)) m (depth-1) (by omega) (by omega)) ?_)
  |refine aR ?_|(guard_target=Index _ _ _;first|(refine Index.mk _ (bw (i:=i) (by omega)) ?_)|(refine Index.mk _ (bw (i:=0) (by omega)) ?_)|fail)
  |refine nB ?_
  |refine nO ?_)
 have h0:0<e.kids.length:=(by omega)
 have h51:e.kids.all cQ=true:=(hone (by omega) (by omega) h0).trans ‹cQ e.kids[0]=true›
 have hd0:=List.drop_of_length_le (show e.kids.length≤i by omega)
 have c1:¬(nodes=0∨depth=0∨cR e.kind≠e.kids.length):=by omega
 have c2:¬e.kind=3:=by omega
 have c3:¬e.kind=4:=by omega
 rw[vY,if_neg c1,if_neg c2,if_neg c3,h51,ha.2.2,hd0,show(e.num==0)=true by(rw[beq_iff_eq];omega),Bool.or_true]
 rfl
theorem zn(t a:Int)(ht:0≤t∧t≤3)(ha:0≤a∧a≤4)(e:ae)(nodes depth:Int)(hn:0≤nodes∧nodes≤1048576)(hd:0≤depth∧depth≤1048576):aD Tryz.prog 205 [.a 2 [J t,J a], .a 3 (ag e),I nodes,I depth] (Om (EF t a e nodes depth)):=by
 rw[a9]
 exact Fw t a ht ha e nodes depth hn hd fun x _hx nodes depth hn hd=>zn t a ht ha x nodes depth hn hd
 termination_by SizeOf.sizeOf e
 decreasing_by
  have:=List.sizeOf_lt_of_mem _hx
  cases e
  simp only[ae.mk.sizeOf_spec]
  show SizeOf.sizeOf x<_
  simp only[ae.kids] at this
  omega
theorem Ga{α:Type}{p q:Prop}[Decidable p][Decidable q](h:p↔q)(x y:α):(if p then x else y)=if q then x else y:=by
 by_cases hp:p
 ·rw[if_pos hp,if_pos (h.1 hp)]
 ·rw[if_neg hp,if_neg fun hq=>hp (h.2 hq)]
mutual
theorem Gk(t a:Int):∀(e:ae) (n d:Int),0≤n→0≤d→EF t a e n d=if 0≤b9 e n∧(eD e:Int)≤d∧dK t a e=true then some (b9 e n) else none
 | .mk k num kids,n,d,hn,hd=>by
   have hr:=mu (.mk k num kids) n hn
   have hS:=GW t a kids (n-1) (d-1)
   unfold EF
   rw[show b9 (.mk k num kids) n=dh kids (n-1) from rfl] at hr⊢
   rw[show eD (.mk k num kids)=eN kids+1 from rfl]
   have ht:dK t a (.mk k num kids)=(((kids.length:Int)==cR k)&&(if k==3 then dJ 0 (t-1) num else if k==4 then dJ 0 (a-1) num else(num==0)&&((!(k==5)||na kids)&&gE t a kids))):=rfl
   rw[ht]
   by_cases h1:n=0∨d=0∨cR k≠kids.length
   ·rw[if_pos h1,if_neg]
    rintro⟨g1,g2,g3⟩
    rcases h1 with h1|h1|h1
    ·omega
    ·omega
    ·simp only[Bool.and_eq_true,beq_iff_eq] at g3
     exact h1 g3.1.symm
   rw[if_neg h1]
   have hl:((kids.length:Int)==cR k)=true:=by simp only[beq_iff_eq];omega
   have hS:=hS (by omega) (by omega)
   rw[hl,hS]
   by_cases h3:k=3
   ·have:kids=[]:=by
       have:cR k=0:=by rw[h3];rfl
       exact List.length_eq_zero_iff.1 (by omega)
    subst this h3
    simp only[gE,dh,eN]
    cases dJ 0 (t-1) num<;>simp<;>omega
   by_cases h4:k=4
   ·have:kids=[]:=by
       have:cR k=0:=by rw[h4];rfl
       exact List.length_eq_zero_iff.1 (by omega)
    subst this h4
    simp only[gE,dh,eN]
    cases dJ 0 (a-1) num<;>simp<;>omega
   simp only[if_neg h3,if_neg h4,beq_iff_eq,Bool.true_and]
   cases num==0<;>cases !(k==5)||na kids<;>cases gE t a kids<;>simp<;>(try omega)
   refine Ga ?_ _ _
   omega
theorem GW(t a:Int):∀(l:List ae) (n d:Int),0≤n→0≤d→Da t a l n d=if 0≤dh l n∧(eN l:Int)≤d∧gE t a l=true then some (dh l n) else none
 |[],n,d,hn,hd=>by
  rw[if_pos ⟨hn,hd,rfl⟩]
  rfl
 |x::xs,n,d,hn,hd=>by
  have e1:dh (x::xs) n=dh xs (b9 x n):=by simp only[dh];rw[if_neg (by omega:¬n<0)]
  have e2:eN (x::xs)=max (eD x) (eN xs):=rfl
  have e3:gE t a (x::xs)=(dK t a x&&gE t a xs):=rfl
  have e4:Da t a (x::xs) n d=match EF t a x n d with|none=>none|some m=>Da t a xs m d:=rfl
  rw[e4,Gk t a x n d hn hd]
  by_cases h:0≤b9 x n∧(eD x:Int)≤d∧dK t a x=true
  ·rw[if_pos h]
   show Da t a xs (b9 x n) d=_
   rw[GW t a xs (b9 x n) d h.1 hd]
   have:=h.2.1
   have key:(0≤dh xs (b9 x n)∧(eN xs:Int)≤d∧gE t a xs=true)↔(0≤dh (x::xs) n∧(eN (x::xs):Int)≤d∧gE t a (x::xs)=true):= ?_
   ·rw[Ga key,e1]
   rw[e1,e2,e3,h.2.2,Bool.true_and]
   constructor
   ·rintro⟨g1,g2,g3⟩;exact⟨g1,by omega,g3⟩
   ·rintro⟨g1,g2,g3⟩;exact⟨g1,by omega,g3⟩
  ·rw[if_neg h,if_neg]
   rw[e1,e2,e3]
   rintro⟨g1,g2,g3⟩
   simp only[Bool.and_eq_true] at g3
   refine h ⟨?_,by omega,g3.1⟩
   by_cases hneg:b9 x n<0
   ·rw[nh hneg] at g1
    exact g1
   ·omega
end
def aY(t a:Int)(e:ae):Bool:=decide (0≤b9 e 200)&&(decide ((eD e:Int)≤40)&&dK t a e)
theorem Kb(t a:Int)(e:ae):(EF t a e 200 40).isSome=aY t a e:=by
 rw[Gk t a e 200 40 (by omega) (by omega)]
 unfold aY
 by_cases h1:0≤b9 e 200<;>by_cases h2:(eD e:Int)≤40<;>cases dK t a e<;>simp[h1,h2]
end Go.Proofs.YtgbggaddpbghfaaGreat
