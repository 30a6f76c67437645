/- Part of a proof engine for functions of the given program: what a function reads may be given up to it, with the memory that it owns. No conditions. -/
import Derived.Test.YtgbggaddpbghfaaGreatTy
import Derived.Test.YtgbggaddpbghfaaGreatEngU
import Derived.Test.YtgbggaddpbghfaaGreatSz
import Derived.Test.YtgbggaddpbghfaaGreatTo
import Derived.Test.YtgbggaddpbghfaaGreatEq
namespace Go.KA
open Go Go.RowKit
inductive uz:List SV→List SV→Prop
 |nil:uz [] []
 |same {s ss ss'} (h:uz ss ss'):uz (s::ss) (s::ss')
 |c {x ss ss'} (h:uz ss ss'):uz (.c x::ss) (.c (kM x)::ss')
theorem pT.tG{w:World}{ok ok':Nat→Prop}{s:SV}{v:Value}{f:List Nat}(h:pT w ok s v f)(hok:∀b,ok b→ok' b):pT w ok' s v f:=by
 cases h with
 |v hv=>exact .v fun ρ=>(hv ρ).mono (fun _ _=>rfl) hok (Ext.refl _)
 |o hd=>exact .o (hd.mono (fun _ _=>rfl) hok fun _ _=>rfl)
 |m hd=>exact .m (hd.mono (fun _ _=>rfl) hok fun _ _=>rfl)
 |off hd=>exact .off (hd.mono (fun _ _=>rfl) hok fun _ _=>rfl)
theorem uz.al{w:World}{ok:Nat→Prop}{ss ss':List SV}(h:uz ss ss'):∀{vs:List Value} {f:List Nat},f.Nodup→AL w ok ss vs f→
 ∃f1,f1.Sublist f∧∀ok':Nat→Prop,(∀b,ok b→ok' b)→(∀b∈f,b∉f1→ok' b)→AL w ok' ss' vs f1:=by
 induction h with
 |nil=>intro vs f hf ha;cases ha;exact⟨[],List.Sublist.refl _,fun _ _ _=> .nil⟩
 |same h ih=>
  intro vs f hf ha
  cases ha with
  | @cons _ v g _ vs k h0 ht=>
    rw[List.nodup_append] at hf
    obtain⟨f1,hs,hd⟩:=ih hf.2.1 ht
    refine⟨g++f1,(List.Sublist.refl _).append hs,fun ok' hok hb=> .cons (h0.tG hok) (hd ok' hok fun b hb1 hb2=>hb b (by simp[hb1]) fun hm=> ?_)⟩
    rcases List.mem_append.1 hm with hm|hm
    ·exact hf.2.2 b hm b hb1 rfl
    ·exact hb2 hm
 |c h ih=>
  intro vs f hf ha
  cases ha with
  | @cons _ v g _ vs k h0 ht=>
    rw[List.nodup_append] at hf
    obtain⟨f1,hs,hd⟩:=ih hf.2.1 ht
    refine⟨f1,List.sublist_append_of_sublist_right hs,fun ok' hok hb=> ?_⟩
    have h1:=hd ok' hok fun b hb1 hb2=>hb b (by simp[hb1]) hb2
    have hg:∀b∈g,ok' b:=fun b hbg=>hb b (by simp[hbg]) fun hm=>hf.2.2 b hbg b (hs.subset hm) rfl
    have key:∀{x:CV} {v:Value} {g:List Nat},Den w ok [x] [v] g→(∀b∈g,ok' b)→pT w ok' (.c (kM x)) v []:=fun hd hg=> .o (jJ hd hok hg)
    cases h0 with
    |v hv=>
     cases hv (fun _=>none) with
     |c hc=>cases hc with|c hd=>exact .cons (f:=[]) (key hd (by simp)) h1
    |o hd=>exact .cons (f:=[]) (key hd hg) h1
theorem ai.Lq{P:Program}{f:Nat}{args args':List SV}{outs:List (Option (List CV))}{r:SV}(h:ai P f args' outs r)(hg:uz args args'):ai P f args outs r:=by
 refine⟨h.1,fun w ok vs fs h1 h2 h3 h4=> ?_⟩
 obtain⟨f1,hs,hd⟩:=hg.al h3 h2
 have h5:=h.2 w (fun b=>ok b∨(b∈fs∧b∉f1)) vs f1 (fun b hb=>hb.elim (h1 b) fun hb=>(h4 b hb.1).1) (hd _ (fun b hb=> .inl hb) (fun b hb hb2=> .inr ⟨hb,hb2⟩)) (h3.sublist hs)
  (fun b hb=>⟨(h4 b (hs.subset hb)).1,fun hk=>hk.elim (h4 b (hs.subset hb)).2 fun hk=>hk.2 hb⟩)
 refine h5.mono ?_
 rintro e w' ⟨v,fr,fo,rfl,hgr,hn,hb,ho,hou⟩
 have e:xL (fun b=>ok b∨(b∈fs∧b∉f1)) f1 (fr++fo) w w'=xL ok fs (fr++fo) w w':=by
  funext b
  have:((ok b∨(b∈fs∧b∉f1))∨b∈f1∨w.heap.size≤b)↔(ok b∨b∈fs∨w.heap.size≤b):=by
   have:= @List.Sublist.subset _ _ _ hs b
   by_cases h:b∈f1
   ·have:=this h
    simp[h,this]
   ·simp[h,or_assoc]
  unfold xL
  rw[this]
 rw[e] at ho hou
 refine⟨v,fr,fo,rfl,⟨hgr.os,hgr.tape,hgr.output,hgr.size,fun b hb hbn=>hgr.block b hb fun hm=>hbn (hs.subset hm)⟩,hn,fun b hbm=>⟨?_,(hb b hbm).2⟩,ho,hou⟩
 exact(hb b hbm).1.imp_left fun h=>hs.subset h
end Go.KA
namespace Go.KA
open Go Go.RowKit
inductive FZ:List CV→List CV→Prop
 |nil:FZ [] []
 |same {c cs cs'} (h:FZ cs cs'):FZ (c::cs) (c::cs')
 |cb {b cs cs'} (h:FZ cs cs'):FZ (.cb b::cs) (.val (.bool b)::cs')
 |op {a a' cs cs'} (k:FZ a a') (h:FZ cs cs'):FZ (.op a::cs) (.op a'::cs')
theorem FZ.den{w:World}{ok:Nat→Prop}{cs cs':List CV}(h:FZ cs cs'):∀{vs:List Value} {f:List Nat},Den w ok cs vs f→Den w ok cs' vs f:=by
 induction h with
 |nil=>intro vs f h;exact h
 |same h ih=>
  intro vs f hd
  cases hd with
  |any h1 ht=>exact .any h1 (ih ht)
  |val h1 ht=>exact .val h1 (ih ht)
  |cb ht=>exact .cb (ih ht)
  |ro a b c d e f ht=>exact .ro a b c d e f (ih ht)
  |rp a b c d ht=>exact .rp a b c d (ih ht)
  |own a b c ht=>exact .own a b c (ih ht)
  |ows a b c ht=>exact .ows a b c (ih ht)
  |eN a b c ht=>exact .eN a b c (ih ht)
  |op a b ht=>exact .op a b (ih ht)
  |ig a b c ht=>exact .ig a b c (ih ht)
 |cb h ih=>
  intro vs f hd
  cases hd with
  |cb ht=>exact .val rfl (ih ht)
 |op k h ihk ih=>
  intro vs f hd
  cases hd with
  |op a b ht=>exact .op a (ihk b) (ih ht)
inductive MX:List (Option (List CV))→List (Option (List CV))→Prop
 |nil:MX [] []
 |same {o os os'} (h:MX os os'):MX (o::os) (o::os')
 |re {cs cs' os os'} (k:FZ cs cs') (h:MX os os'):MX (some cs::os) (some cs'::os')
theorem FZ.Pa{cs cs':List CV}(h:FZ cs cs'):∀(i:Nat) (x:List CV),cs'[i]? =some (.op x)→∃y,cs[i]? =some (.op y):=by
 induction h with
 |nil=>intro i x hx;simp at hx
 | @same c cs cs' h ih=>
   intro i x hx
   cases i with
   |zero=>exact⟨x,hx⟩
   |succ i=>exact ih i x hx
 | @cb b cs cs' h ih=>
   intro i x hx
   cases i with
   |zero=>simp at hx
   |succ i=>exact ih i x hx
 | @op a a' cs cs' k h _ ih=>
   intro i x hx
   cases i with
   |zero=>exact⟨a,rfl⟩
   |succ i=>exact ih i x hx
theorem A7.re{w0 w:World}{v:Value}{cs cs':List CV}(h:A7 w0 w v cs)(k:FZ cs cs'):A7 w0 w v cs':=by
 intro cells' e
 subst e
 cases k with
 |same k=>cases k;exact h cells' rfl
 | @op a _ _ _ ka k=>
   cases k
   intro b ty ty' arr arr' h1 h2 h3 i x hx
   obtain⟨y,hy⟩:=ka.Pa i x hx
   exact h a rfl b ty ty' arr arr' h1 h2 h3 i y hy
theorem MX.den{w0 w:World}{ok:Nat→Prop}{os os':List (Option (List CV))}(h:MX os os'):∀{vs:List Value} {f:List Nat},kz w0 w ok os vs f→kz w0 w ok os' vs f:=by
 induction h with
 |nil=>intro vs f h;exact h
 |same h ih=>
  intro vs f ho
  cases ho with
  |none ht=>exact .none (ih ht)
  |some hd hk ht=>exact .some hd hk (ih ht)
 |re k h ih=>
  intro vs f ho
  cases ho with
  |some hd hk ht=>exact .some (k.den hd) (hk.re k) (ih ht)
theorem ai.qU{P:Program}{f:Nat}{args:List SV}{outs outs':List (Option (List CV))}{r:SV}(h:ai P f args outs r)(ho:MX outs outs'):ai P f args outs' r:=by
 refine⟨h.1,fun w ok vs fs h1 h2 h3 h4=>(h.2 w ok vs fs h1 h2 h3 h4).mono ?_⟩
 rintro e w' ⟨v,fr,fo,h5,h6,h7,h8,h9,h10⟩
 exact⟨v,fr,fo,h5,h6,h7,h8,h9,ho.den h10⟩
end Go.KA
namespace Go.Proofs.YtgbggaddpbghfaaGreat
open Go Go.KA Go.Proofs
theorem _root_.Go.KA.bf.beq{a b:Int}{A B:Prop}(t:a=b→A)(f:¬a=b→B):bf (a==b) A B:=bf.mk (fun h=>t (by simpa using h)) (fun h=>f (by simpa using h))
theorem _root_.Go.KA.bf.nb{b:Bool}{A B:Prop}(t:b=false→A)(f:b=true→B):bf (!b) A B:=bf.mk (fun h=>t (by simpa using h)) (fun h=>f (by simpa using h))
abbrev J(n:Int):CV:= .val (.int .i64 n)
def dH(lo hi n:Int):Bool:=decide (lo≤n)&&decide (n≤hi)
theorem eU(n lo hi:Int):aE Tryz.prog 45 [I n,I lo,I hi] (B (dH lo hi n)):=by
 refine dF dd hm Tryz.func45 rfl rfl rfl rfl (ann:=fun _=>none) (gh:=fun _=>false) ?_
 refine bf.mk (fun h=> ?_) (fun h=> ?_)
 ·refine bo.mk ?_
  unfold dH;rw[h];rfl
 ·refine bo.mk ?_
  unfold dH;rw[h];rfl
theorem dE(n lo hi:Int):aE Tryz.prog 86 [I n,I lo,I hi] (B (dH lo hi n)):=by
 refine dF dd hm Tryz.func86 rfl rfl rfl rfl (ann:=fun _=>none) (gh:=fun _=>false) ?_
 refine bf.mk (fun h=> ?_) (fun h=> ?_)
 ·have h1:decide (lo≤n)=true:=by simpa using h
  refine bo.mk ?_
  unfold dH;rw[h1];rfl
 ·have h1:decide (lo≤n)=false:=by simpa using h
  refine bo.mk ?_
  unfold dH;rw[h1];rfl
def bT(a b:Int):Bool:=dH 0 3 a&&dH 0 4 b
theorem ow(a b:Int):aE Tryz.prog 44 [.a 2 [J a,J b]] (B (bT a b)):=by
 refine dF dd hm Tryz.func44 rfl rfl rfl rfl (ann:=fun _=>none) (gh:=fun _=>false) ?_
 refine aa.pure _ _ rfl (eU _ _ _) rfl _ rfl ?_
 refine bf.mk (fun h=> ?_) (fun h=> ?_)
 ·refine aa.pure _ _ rfl (eU _ _ _) rfl _ rfl ?_
  refine bo.mk ?_
  unfold bT;rw[h];rfl
 ·refine bo.mk ?_
  unfold bT;rw[h];rfl
theorem kJ(a b:Int):aE Tryz.prog 85 [.a 2 [J a,J b]] (B (bT a b)):=by
 refine dF dd hm Tryz.func85 rfl rfl rfl rfl (ann:=fun _=>none) (gh:=fun _=>false) ?_
 refine aa.pure _ _ rfl (dE _ _ _) rfl _ rfl ?_
 refine bf.mk (fun h=> ?_) (fun h=> ?_)
 ·refine aa.pure _ _ rfl (dE _ _ _) rfl _ rfl ?_
  refine bo.mk ?_
  unfold bT;rw[h];rfl
 ·refine bo.mk ?_
  unfold bT;rw[h];rfl
abbrev aI(e:ae):List CV:=[J e.kind,J e.num, .ro 3 (e.kids.map af)]
mutual
def cS:ae→Bool
 | .mk kind _ kids=>(dH 1 7 kind&& !(kind==4))&&mQ kids
def mQ:List ae→Bool
 |[]=>true
 |x::xs=>cS x&&mQ xs
end
theorem pH:∀l:List ae,mQ l=l.all cS
 |[]=>rfl
 |x::xs=>by simp only[mQ,List.all_cons];rw[pH xs]
theorem lu(e:ae):cS e=((dH 1 7 e.kind&& !(e.kind==4))&&e.kids.all cS):=by
 cases e
 simp only[cS,pH]
 rfl
theorem qw{α:Type}{p:α→Bool}{l:List α}{i:Nat}(h:i<l.length)(hp:p l[i]=false):l.all p=false:=by
 rw[List.all_eq_false]
 exact⟨l[i],List.getElem_mem h,by simp[hp]⟩
theorem ke{α:Type}{p:α→Bool}{l:List α}{i:Nat}(h:i<l.length)(ha:(l.take i).all p=true)(hp:p l[i]=true):(l.take (i+1)).all p=true:=by
 rw[List.take_add_one,List.getElem?_eq_getElem h,List.all_append,ha]
 simp[hp]
theorem tm(e:ae)(hx:∀x∈e.kids,aE Tryz.prog 214 [.c (.rp 3 (af x))] (B (cS x))):aE Tryz.prog 214 [.c (.rp 3 (aI e))] (B (cS e)):=by
 refine dF dd hm Tryz.func214 rfl rfl rfl rfl (ann:=fun n=>match n with|4=>some {α:=Nat,gJ:=[0],ov:=fun i=>[(3,I i)],φ:=fun i=>i≤e.kids.length∧(e.kids.take i).all cS=true,μ:=fun i=>e.kids.length-i}|_=>none) (gh:=fun _=>false) ?_
 refine aa.pure _ _ rfl (dE _ _ _) rfl _ rfl ?_
 refine bf.mk (fun h1=> ?_) (fun h1=> ?_)
 ·refine bo.mk ?_
  have:dH 1 7 e.kind=false:=by simpa using h1
  rw[lu,this];rfl
 have h1:dH 1 7 e.kind=true:=by simpa using h1
 refine bf.mk (fun h2=> ?_) (fun h2=> ?_)
 ·refine bo.mk ?_
  rw[lu,h1,h2];rfl
 refine kO.mk (0:Nat) ⟨Nat.zero_le _,rfl⟩ ⟨⟨rfl,rfl⟩,trivial⟩ ⟨⟨rfl,rfl⟩,trivial⟩ trivial ?_ (fun _=>rfl)
 intro(i:Nat) (hi:i≤e.kids.length∧(e.kids.take i).all cS=true)
 obtain⟨hi,ha⟩:=hi
 refine Fact.mk fun hL=> ?_
 refine bf.mk (fun h=> ?_) (fun h=> ?_)
 ·have h:=of_decide_eq_true h
  rw[List.length_map] at h hL
  have hi':i<e.kids.length:=by omega
  refine aQ.mk (by omega) (Index.mk (af e.kids[i]) (by simp[hi']) ?_)
  refine aa.pure _ _ rfl (hx _ (List.getElem_mem hi')) rfl _ rfl ?_
  refine bf.mk (fun hb=> ?_) (fun hb=> ?_)
  ·refine bo.mk ?_
   rw[lu,h1,h2,qw hi' (by simpa using hb)];rfl
  ·simp only[maxLen] at hL
   refine Arith.fit (aL (by omega) (by omega)) ?_
   exact Gh.go ⟨i+1,⟨hi',ke hi' ha (by simpa using hb)⟩,(by show e.kids.length-(i+1)<e.kids.length-i;omega),⟨⟨rfl,rfl⟩,trivial⟩,⟨⟨rfl,rfl⟩,trivial⟩,trivial⟩
 ·have h:=of_decide_eq_false h
  rw[List.length_map] at h
  have:i=e.kids.length:=by omega
  subst this
  refine bo.mk ?_
  rw[List.take_length] at ha
  rw[lu,h1,h2,ha];rfl
theorem iI(e:ae):aE Tryz.prog 214 [.c (.rp 3 (af e))] (B (cS e)):=by
 rw[a9]
 exact tm e fun x _hx=>iI x
 termination_by SizeOf.sizeOf e
 decreasing_by
  have:=List.sizeOf_lt_of_mem _hx
  cases e
  simp only[ae.mk.sizeOf_spec]
  show SizeOf.sizeOf x<_
  simp only[ae.kids] at this
  omega
end Go.Proofs.YtgbggaddpbghfaaGreat
namespace Go.Proofs.YtgbggaddpbghfaaGreat
open Go Go.KA Go.Proofs
def cT(k:Int):Int:=if k==1||(k==2||(k==3||k==4)) then 0 else if k==5||k==8 then 1 else if k==6||k==7 then 2 else-1
theorem EE(k:Int):aE Tryz.prog 215 [I k] (I (cT k)):=by
 refine dF dd hm Tryz.func215 rfl rfl rfl rfl (ann:=fun _=>none) (gh:=fun _=>false) ?_
 refine bf.mk (fun h1=>bo.mk (by simp[cT,h1];rfl)) (fun h1=> ?_)
 refine bf.mk (fun h2=>bo.mk (by simp[cT,h1,h2];rfl)) (fun h2=> ?_)
 refine bf.mk (fun h3=>bo.mk (by simp[cT,h1,h2,h3];rfl)) (fun h3=> ?_)
 refine bf.mk (fun h4=>bo.mk (by simp[cT,h1,h2,h3,h4];rfl)) (fun h4=> ?_)
 refine bf.mk (fun h5=>bo.mk (by simp[cT,h1,h2,h3,h4,h5];rfl)) (fun h5=> ?_)
 refine bf.mk (fun h8=>bo.mk (by simp[cT,h1,h2,h3,h4,h5,h8];rfl)) (fun h8=> ?_)
 refine bf.mk (fun h6=>bo.mk (by simp[cT,h1,h2,h3,h4,h5,h6,h8];rfl)) (fun h6=> ?_)
 refine bf.mk (fun h7=>bo.mk (by simp[cT,h1,h2,h3,h4,h5,h6,h7,h8];rfl)) (fun h7=> ?_)
 exact bo.mk (by simp[cT,h1,h2,h3,h4,h5,h6,h7,h8];rfl)
theorem Ih(k:Int):aE Tryz.prog 216 [I k] (I (cT k)):=by
 refine dF dd hm Tryz.func216 rfl rfl rfl rfl (ann:=fun _=>none) (gh:=fun _=>false) ?_
 refine bf.mk (fun h1=>bo.mk (by simp[cT,h1];rfl)) (fun h1=> ?_)
 refine bf.mk (fun h2=>bo.mk (by simp[cT,h1,h2];rfl)) (fun h2=> ?_)
 refine bf.mk (fun h3=>bo.mk (by simp[cT,h1,h2,h3];rfl)) (fun h3=> ?_)
 refine bf.mk (fun h4=>bo.mk (by simp[cT,h1,h2,h3,h4];rfl)) (fun h4=> ?_)
 refine bf.mk (fun h5=>bo.mk (by simp[cT,h1,h2,h3,h4,h5];rfl)) (fun h5=> ?_)
 refine bf.mk (fun h8=>bo.mk (by simp[cT,h1,h2,h3,h4,h5,h8];rfl)) (fun h8=> ?_)
 refine bf.mk (fun h6=>bo.mk (by simp[cT,h1,h2,h3,h4,h5,h6,h8];rfl)) (fun h6=> ?_)
 refine bf.mk (fun h7=>bo.mk (by simp[cT,h1,h2,h3,h4,h5,h6,h7,h8];rfl)) (fun h7=> ?_)
 exact bo.mk (by simp[cT,h1,h2,h3,h4,h5,h6,h7,h8];rfl)
theorem vl(e:ae)(hx:∀x∈e.kids,aE Tryz.prog 206 [.a 3 (af x)] (B (cS x))):aE Tryz.prog 206 [.a 3 (aI e)] (B (cS e)):=by
 refine dF dd hm Tryz.func206 rfl rfl rfl rfl (ann:=fun n=>match n with|10=>some {α:=Nat,gJ:=[2,15,16],ov:=fun i=>[(17,I i)],φ:=fun i=>i≤e.kids.length∧(e.kids.take i).all cS=true,μ:=fun i=>e.kids.length-i}|_=>none) (gh:=fun _=>false) ?_
 refine bf.mk (fun hh=> ?_) (fun h1=>bf.mk (fun hh=> ?_) (fun h2=>bf.mk (fun hh=> ?_) (fun h3=>bf.mk (fun hh=> ?_) (fun h5=>bf.mk (fun hh=> ?_) (fun h6=>bf.mk (fun hh=> ?_) (fun h7=> ?_))))))
 rotate_left 6
 ·refine bo.mk ?_
  have:cS e=false:=by
   rw[lu]
   simp only[beq_eq_false_iff_ne,ne_eq] at h1 h2 h3 h5 h6 h7
   have:(dH 1 7 e.kind&& !(e.kind==4))=false:=by
        simp only[dH,Bool.and_eq_false_iff,decide_eq_false_iff_not,Bool.not_eq_false',beq_iff_eq]
        omega
   rw[this];rfl
  rw[this];rfl
 all_goals
  have hk:(dH 1 7 e.kind&& !(e.kind==4))=true:=by
   have hq:=eq_of_beq hh
   rw[hq];rfl
  refine Fact.mk fun hL=> ?_
  refine kO.mk (0:Nat) ⟨Nat.zero_le _,rfl⟩ ⟨⟨rfl,rfl⟩,trivial⟩ ⟨⟨rfl,rfl⟩,⟨rfl,rfl⟩,⟨rfl,rfl⟩,trivial⟩ ⟨⟨rfl,rfl⟩,trivial⟩ ?_ (fun _=>rfl)
  intro(i:Nat) (hi:i≤e.kids.length∧(e.kids.take i).all cS=true)
  obtain⟨hi,ha⟩:=hi
  rw[List.length_map] at hL
  refine bf.mk (fun h=> ?_) (fun h=> ?_)
  ·have h:=of_decide_eq_true h
   rw[List.length_map] at h
   have hi':i<e.kids.length:=by omega
   refine aQ.mk (by omega) (Index.mk (af e.kids[i]) (by simp[hi']) ?_)
   refine aa.pure _ _ rfl (hx _ (List.getElem_mem hi')) rfl _ rfl ?_
   refine bf.mk (fun hb=> ?_) (fun hb=> ?_)
   ·refine bo.mk ?_
    rw[lu,hk,qw hi' (by simpa using hb)];rfl
   ·simp only[maxLen] at hL
    refine Arith.fit (aL (by omega) (by omega)) ?_
    exact Gh.go ⟨i+1,⟨hi',ke hi' ha (by simpa using hb)⟩,(by show e.kids.length-(i+1)<e.kids.length-i;omega),⟨⟨rfl,rfl⟩,trivial⟩,⟨⟨rfl,rfl⟩,⟨rfl,rfl⟩,⟨rfl,rfl⟩,trivial⟩,⟨⟨rfl,rfl⟩,trivial⟩⟩
  ·have h:=of_decide_eq_false h
   rw[List.length_map] at h
   have:i=e.kids.length:=by omega
   subst this
   refine bo.mk ?_
   rw[List.take_length] at ha
   rw[lu,hk,ha];rfl
theorem lU(e:ae):aE Tryz.prog 206 [.a 3 (af e)] (B (cS e)):=by
 rw[a9]
 exact vl e fun x _hx=>lU x
 termination_by SizeOf.sizeOf e
 decreasing_by
  have:=List.sizeOf_lt_of_mem _hx
  cases e
  simp only[ae.mk.sizeOf_spec]
  show SizeOf.sizeOf x<_
  simp only[ae.kids] at this
  omega
end Go.Proofs.YtgbggaddpbghfaaGreat
namespace Go.Proofs.YtgbggaddpbghfaaGreat
open Go Go.KA Go.Proofs
mutual
def cx:ae→Int→Int
 | .mk _ _ kids,left=>dn kids (left-1)
def dn:List ae→Int→Int
 |[],left=>left
 |x::xs,left=>if left<0 then left else dn xs (cx x left)
end
mutual
def ez:ae→Nat
 | .mk _ _ kids=>eL kids+1
def eL:List ae→Nat
 |[]=>0
 |x::xs=>max (ez x) (eL xs)
end
theorem tK(e:ae):ez e=eL e.kids+1:=by
 cases e
 rfl
theorem wx(e:ae)(left:Int):cx e left=dn e.kids (left-1):=by
 cases e
 rfl
theorem Bg{l:List ae}{i:Nat}(h:i<l.length):eL (l.take (i+1))=max (eL (l.take i)) (ez l[i]):=by
 induction l generalizing i with
 |nil=>simp at h
 |cons x xs ih=>
  cases i with
  |zero=>simp[eL]
  |succ i=>
   simp only[List.length_cons,Nat.add_lt_add_iff_right] at h
   simp only[List.take_succ_cons,eL,List.getElem_cons_succ,ih h]
   omega
mutual
theorem yG:∀e:ae,ez e≤ao e+1
 | .mk k n kids=>by
   have:=zf kids
   simp only[ez,ao]
   omega
theorem zf:∀l:List ae,eL l≤aK l
 |[]=>Nat.le_refl _
 |x::xs=>by
  have h1:=yG x
  have h2:=zf xs
  simp only[eL,aK]
  omega
end
theorem Oe(a b:Nat):aE Tryz.prog 77 [I a,I b] (I (max a b:Nat)):=by
 refine dF dd hm Tryz.func77 rfl rfl rfl rfl (ann:=fun _=>none) (gh:=fun _=>false) ?_
 refine bf.mk (fun h=> ?_) (fun h=> ?_)
 ·have h:(a:Int)>b:=of_decide_eq_true h
  refine bo.mk ?_
  rw[Nat.max_eq_left (by omega)];rfl
 ·have h:¬(a:Int)>b:=of_decide_eq_false h
  refine bo.mk ?_
  rw[Nat.max_eq_right (by omega)];rfl
theorem zX(e:ae)(hl:ao e≤1048576)(hx:∀x∈e.kids,aE Tryz.prog 200 [.c (.rp 3 (af x))] (I (ez x))):aE Tryz.prog 200 [.c (.rp 3 (aI e))] (I (ez e)):=by
 refine dF dd hm Tryz.func200 rfl rfl rfl rfl (ann:=fun n=>match n with|3=>some {α:=Nat,gJ:=[0],ov:=fun i=>[(4,I i),(3,I (eL (e.kids.take i)))],φ:=fun i=>i≤e.kids.length,μ:=fun i=>e.kids.length-i}|_=>none) (gh:=fun _=>false) ?_
 have hd:=yG e
 rw[tK] at hd
 refine kO.mk (0:Nat) (Nat.zero_le _) ⟨⟨rfl,rfl⟩,⟨rfl,rfl⟩,trivial⟩ ⟨⟨rfl,rfl⟩,trivial⟩ trivial ?_ (fun _=>rfl)
 intro(i:Nat) (hi:i≤e.kids.length)
 refine Fact.mk fun hL=> ?_
 refine bf.mk (fun h=> ?_) (fun h=> ?_)
 ·have h:=of_decide_eq_true h
  rw[List.length_map] at h hL
  have hi':i<e.kids.length:=by omega
  refine aQ.mk (by omega) (Index.mk (af e.kids[i]) (by simp[hi']) ?_)
  refine aa.pure _ _ rfl (hx _ (List.getElem_mem hi')) rfl _ rfl ?_
  refine aa.pure _ _ rfl (Oe _ _) rfl _ rfl ?_
  simp only[maxLen] at hL
  refine Arith.fit (aL (by omega) (by omega)) ?_
  refine Gh.go ⟨i+1,hi',(by show e.kids.length-(i+1)<e.kids.length-i;omega),⟨⟨rfl,rfl⟩,⟨?_,rfl⟩,trivial⟩,⟨⟨rfl,rfl⟩,trivial⟩,trivial⟩
  exact congrArg (fun n:Nat=>I n) (Bg hi').symm
 ·have h:=of_decide_eq_false h
  rw[List.length_map] at h
  have:i=e.kids.length:=by omega
  subst this
  refine Arith.fit (aL (by omega) (by rw[List.take_length];omega)) ?_
  refine bo.mk ?_
  rw[tK,List.take_length];rfl
end Go.Proofs.YtgbggaddpbghfaaGreat
namespace Go.Proofs.YtgbggaddpbghfaaGreat
open Go Go.KA Go.Proofs
theorem mV{left:Int}(h:left<0):∀l:List ae,dn l left=left
 |[]=>rfl
 |x::xs=>by simp only[dn];rw[if_pos h]
theorem nR:∀(l m:List ae) (left:Int),dn (l++m) left=dn m (dn l left)
 |[],_,_=>rfl
 |x::xs,m,left=>by
  simp only[List.cons_append,dn]
  by_cases h:left<0
  ·rw[if_pos h,if_pos h,mV h]
  ·rw[if_neg h,if_neg h,nR xs m]
mutual
theorem mb:∀(e:ae) (left:Int),0≤left→ -1≤cx e left∧cx e left≤left-1
 | .mk _ _ kids,left,h=>by
   have:=pg kids (left-1) (by omega)
   simp only[cx]
   exact this
theorem pg:∀(l:List ae) (left:Int), -1≤left→ -1≤dn l left∧dn l left≤left
 |[],left,h=>⟨h,Int.le_refl _⟩
 |x::xs,left,h=>by
  simp only[dn]
  by_cases hn:left<0
  ·rw[if_pos hn];omega
  ·rw[if_neg hn]
   have h1:=mb x left (by omega)
   have h2:=pg xs (cx x left) h1.1
   omega
end
theorem Fb{l:List ae}{i:Nat}{left:Int}(h:i<l.length)(hp:0≤dn (l.take i) left):dn (l.take (i+1)) left=cx l[i] (dn (l.take i) left):=by
 rw[List.take_add_one,List.getElem?_eq_getElem h,nR]
 simp only[Option.toList_some,dn]
 rw[if_neg (by omega)]
theorem E1{l:List ae}{i:Nat}{left:Int}(hp:dn (l.take i) left<0):dn l left=dn (l.take i) left:=by
 have h:l=l.take i++l.drop i:=(List.take_append_drop i l).symm
 conv=>lhs;rw[h]
 rw[nR,mV hp]
theorem CR(e:ae)(left:Int)(h0:0≤left)(h1:left≤1048576)(hx:∀x∈e.kids,∀left:Int,0≤left→left≤1048576→aE Tryz.prog 145 [.c (.rp 3 (af x)),I left] (I (cx x left))):aE Tryz.prog 145 [.c (.rp 3 (aI e)),I left] (I (cx e left)):=by
 refine dF dd hm Tryz.func145 rfl rfl rfl rfl (ann:=fun n=>match n with|3=>some {α:=Nat,gJ:=[0],ov:=fun i=>[(5,I i),(1,I (dn (e.kids.take i) (left-1)))],φ:=fun i=>i≤e.kids.length,μ:=fun i=>e.kids.length-i}|_=>none) (gh:=fun _=>false) ?_
 refine Arith.fit (aL (by omega) (by omega)) ?_
 refine kO.mk (0:Nat) (Nat.zero_le _) ⟨⟨rfl,rfl⟩,⟨rfl,rfl⟩,trivial⟩ ⟨⟨rfl,rfl⟩,trivial⟩ trivial ?_ (fun _=>rfl)
 intro(i:Nat) (hi:i≤e.kids.length)
 have hr:=pg (e.kids.take i) (left-1) (by omega)
 refine Fact.mk fun hL=> ?_
 refine bf.mk (fun h=> ?_) (fun h=> ?_)
 ·have h:=of_decide_eq_true h
  rw[List.length_map] at h hL
  have hi':i<e.kids.length:=by omega
  refine bf.mk (fun hg=> ?_) (fun hg=> ?_)
  ·have hg:dn (e.kids.take i) (left-1)≥0:=of_decide_eq_true hg
   refine aQ.mk (by omega) (Index.mk (af e.kids[i]) (by simp[hi']) ?_)
   refine aa.pure _ _ rfl (hx _ (List.getElem_mem hi') (dn (e.kids.take i) (left-1)) (by omega) (by omega)) rfl _ rfl ?_
   simp only[maxLen] at hL
   refine Arith.fit (aL (by omega) (by omega)) ?_
   refine Gh.go ⟨i+1,hi',(by show e.kids.length-(i+1)<e.kids.length-i;omega),⟨⟨rfl,rfl⟩,⟨?_,rfl⟩,trivial⟩,⟨⟨rfl,rfl⟩,trivial⟩,trivial⟩
   exact congrArg I (Fb hi' (by omega)).symm
  ·have hg:¬dn (e.kids.take i) (left-1)≥0:=of_decide_eq_false hg
   refine bo.mk ?_
   rw[wx,E1 (l:=e.kids) (i:=i) (by omega)];rfl
 ·have h:=of_decide_eq_false h
  rw[List.length_map] at h
  have:i=e.kids.length:=by omega
  subst this
  refine bo.mk ?_
  rw[wx,List.take_length];rfl
theorem qF(e:ae)(left:Int)(h0:0≤left)(h1:left≤1048576):aE Tryz.prog 145 [.c (.rp 3 (af e)),I left] (I (cx e left)):=by
 rw[a9]
 exact CR e left h0 h1 fun x _hx left h0 h1=>qF x left h0 h1
 termination_by SizeOf.sizeOf e
 decreasing_by
  have:=List.sizeOf_lt_of_mem _hx
  cases e
  simp only[ae.mk.sizeOf_spec]
  show SizeOf.sizeOf x<_
  simp only[ae.kids] at this
  omega
theorem ux(e:ae)(hl:ao e≤1048576):aE Tryz.prog 200 [.c (.rp 3 (af e))] (I (ez e)):=by
 rw[a9]
 exact zX e hl fun x _hx=>ux x (by
  have:=cY ao _hx
  cases e
  simp only[ao,l7] at hl
  simp only[ae.kids] at this
  omega)
 termination_by SizeOf.sizeOf e
 decreasing_by
  have:=List.sizeOf_lt_of_mem _hx
  cases e
  simp only[ae.mk.sizeOf_spec]
  show SizeOf.sizeOf x<_
  simp only[ae.kids] at this
  omega
end Go.Proofs.YtgbggaddpbghfaaGreat
namespace Go.Proofs.YtgbggaddpbghfaaGreat
open Go Go.KA Go.Proofs
mutual
def dJ(t a:Int):ae→Bool
 | .mk k n kids=>((kids.length:Int)==cT k)&&(if k==3 then dH 0 (t-1) n else if k==4 then dH 0 (a-1) n else(n==0)&&((!(k==5)||mQ kids)&&gH t a kids))
def gH(t a:Int):List ae→Bool
 |[]=>true
 |x::xs=>dJ t a x&&gH t a xs
end
theorem zv(t a:Int):∀l:List ae,gH t a l=l.all (dJ t a)
 |[]=>rfl
 |x::xs=>by simp only[gH,List.all_cons];rw[zv t a xs]
theorem gl(t a:Int)(e:ae):dJ t a e=(((e.kids.length:Int)==cT e.kind)&&(if e.kind==3 then dH 0 (t-1) e.num else if e.kind==4 then dH 0 (a-1) e.num else(e.num==0)&&((!(e.kind==5)||e.kids.all cS)&&e.kids.all (dJ t a)))):=by
 cases e
 simp only[dJ,zv,pH]
 rfl
set_option maxHeartbeats 8000000 in
theorem Cn(t a:Int)(ht:0≤t∧t≤3)(ha:0≤a∧a≤4)(e:ae)(hx:∀x∈e.kids,aE Tryz.prog 201 [.a 2 [J t,J a], .c (.rp 3 (af x))] (B (dJ t a x))):aE Tryz.prog 201 [.a 2 [J t,J a], .c (.rp 3 (aI e))] (B (dJ t a e)):=by
 refine dF dd hm Tryz.func201 rfl rfl rfl rfl (ann:=fun n=>match n with|11=>some {α:=Nat,gJ:=[1,2],ov:=fun i=>[(5,I i)],φ:=fun i=>i≤e.kids.length∧(e.kids.take i).all (dJ t a)=true,μ:=fun i=>e.kids.length-i}|_=>none) (gh:=fun _=>false) ?_
 refine aQ.mk (by kernel_rfl) ?_
 refine aa.pure _ _ rfl (EE _) rfl _ rfl ?_
 refine aQ.mk (by kernel_rfl) ?_
 refine bf.mk (fun h1=> ?_) (fun h1=> ?_)
 ·refine bo.mk ?_
  rw[List.length_map] at h1
  have:((e.kids.length:Int)==cT e.kind)=false:=by simpa using h1
  rw[gl,this];rfl
 rw[List.length_map] at h1
 have h1:((e.kids.length:Int)==cT e.kind)=true:=by simpa using h1
 refine bf.mk (fun h3=> ?_) (fun h3=> ?_)
 ·refine aQ.mk (by kernel_rfl) ?_
  refine Arith.fit (aL (by omega) (by omega)) ?_
  refine aa.pure _ _ rfl (dE _ _ _) rfl _ rfl ?_
  refine aQ.mk (by kernel_rfl) ?_
  refine bo.mk ?_
  rw[gl,h1,h3];rfl
 refine bf.mk (fun h4=> ?_) (fun h4=> ?_)
 ·refine aQ.mk (by kernel_rfl) ?_
  refine Arith.fit (aL (by omega) (by omega)) ?_
  refine aa.pure _ _ rfl (dE _ _ _) rfl _ rfl ?_
  refine aQ.mk (by kernel_rfl) ?_
  refine bo.mk ?_
  rw[gl,h1,h3,h4];rfl
 refine bf.mk (fun h0=> ?_) (fun h0=> ?_)
 ·refine bo.mk ?_
  have:(e.num==0)=false:=by simpa using h0
  rw[gl,h1,h3,h4,this];rfl
 have h0:(e.num==0)=true:=by simpa using h0
 refine bf.mk (fun h5=> ?_) (fun h5=> ?_)
 ·have hk:e.kind=5:=eq_of_beq h5
  have hl1:(e.kids.length:Int)=1:=by
   have:=eq_of_beq h1
   rw[hk] at this
   exact this
  have hi0:0<e.kids.length:=by omega
  have hone:e.kids.all cS=cS e.kids[0]:=by
   match hm:e.kids,hi0,hl1 with
   |[x],_,_=>simp
  refine aQ.mk (by omega) (Index.mk (af e.kids[0]) (by show(e.kids.map af)[0]? =_;rw[List.getElem?_map,List.getElem?_eq_getElem hi0];rfl) ?_)
  refine aa.pure _ _ rfl (iI _) rfl _ rfl ?_
  refine bf.mk (fun hc=> ?_) (fun hc=> ?_)
  ·refine bo.mk ?_
   have hc:cS e.kids[0]=false:=by simpa using hc
   rw[gl,h1,h3,h4,h0,h5,hone,hc];rfl
  have hc:cS e.kids[0]=true:=by simpa using hc
  have hC:(!(e.kind==5)||e.kids.all cS)=true:=by rw[hone,hc,h5];rfl
  refine kO.mk (0:Nat) ⟨Nat.zero_le _,rfl⟩ ⟨⟨rfl,rfl⟩,trivial⟩ ⟨⟨rfl,rfl⟩,⟨rfl,rfl⟩,trivial⟩ ⟨⟨rfl,rfl⟩,trivial⟩ ?_ (fun _=>rfl)
  intro(i:Nat) (hi:i≤e.kids.length∧(e.kids.take i).all (dJ t a)=true)
  obtain⟨hi,hal⟩:=hi
  refine Fact.mk fun hL=> ?_
  refine bf.mk (fun h=> ?_) (fun h=> ?_)
  ·have h:=of_decide_eq_true h
   rw[List.length_map] at h hL
   have hi':i<e.kids.length:=by omega
   refine aQ.mk (by kernel_rfl) ?_
   refine aQ.mk (by omega) (Index.mk (af e.kids[i]) (by simp[hi']) ?_)
   refine aa.pure _ _ rfl (hx _ (List.getElem_mem hi')) rfl _ rfl ?_
   refine aQ.mk (by kernel_rfl) ?_
   refine bf.mk (fun hb=> ?_) (fun hb=> ?_)
   ·refine bo.mk ?_
    rw[gl,h1,h3,h4,h0,hC,qw hi' (by simpa using hb)];rfl
   ·simp only[maxLen] at hL
    refine Arith.fit (aL (by omega) (by omega)) ?_
    exact Gh.go ⟨i+1,⟨hi',ke hi' hal (by simpa using hb)⟩,(by show e.kids.length-(i+1)<e.kids.length-i;omega),⟨⟨rfl,rfl⟩,trivial⟩,⟨⟨rfl,rfl⟩,⟨rfl,rfl⟩,trivial⟩,⟨⟨rfl,rfl⟩,trivial⟩⟩
  ·have h:=of_decide_eq_false h
   rw[List.length_map] at h
   have:i=e.kids.length:=by omega
   subst this
   refine bo.mk ?_
   rw[List.take_length] at hal
   rw[gl,h1,h3,h4,h0,hC,hal];rfl
 ·have hC:(!(e.kind==5)||e.kids.all cS)=true:=by rw[h5];rfl
  refine kO.mk (0:Nat) ⟨Nat.zero_le _,rfl⟩ ⟨⟨rfl,rfl⟩,trivial⟩ ⟨⟨rfl,rfl⟩,⟨rfl,rfl⟩,trivial⟩ ⟨⟨rfl,rfl⟩,trivial⟩ ?_ (fun _=>rfl)
  intro(i:Nat) (hi:i≤e.kids.length∧(e.kids.take i).all (dJ t a)=true)
  obtain⟨hi,hal⟩:=hi
  refine Fact.mk fun hL=> ?_
  refine bf.mk (fun h=> ?_) (fun h=> ?_)
  ·have h:=of_decide_eq_true h
   rw[List.length_map] at h hL
   have hi':i<e.kids.length:=by omega
   refine aQ.mk (by kernel_rfl) ?_
   refine aQ.mk (by omega) (Index.mk (af e.kids[i]) (by simp[hi']) ?_)
   refine aa.pure _ _ rfl (hx _ (List.getElem_mem hi')) rfl _ rfl ?_
   refine aQ.mk (by kernel_rfl) ?_
   refine bf.mk (fun hb=> ?_) (fun hb=> ?_)
   ·refine bo.mk ?_
    rw[gl,h1,h3,h4,h0,hC,qw hi' (by simpa using hb)];rfl
   ·simp only[maxLen] at hL
    refine Arith.fit (aL (by omega) (by omega)) ?_
    exact Gh.go ⟨i+1,⟨hi',ke hi' hal (by simpa using hb)⟩,(by show e.kids.length-(i+1)<e.kids.length-i;omega),⟨⟨rfl,rfl⟩,trivial⟩,⟨⟨rfl,rfl⟩,⟨rfl,rfl⟩,trivial⟩,⟨⟨rfl,rfl⟩,trivial⟩⟩
  ·have h:=of_decide_eq_false h
   rw[List.length_map] at h
   have:i=e.kids.length:=by omega
   subst this
   refine bo.mk ?_
   rw[List.take_length] at hal
   rw[gl,h1,h3,h4,h0,hC,hal];rfl
theorem wv(t a:Int)(ht:0≤t∧t≤3)(ha:0≤a∧a≤4)(e:ae):aE Tryz.prog 201 [.a 2 [J t,J a], .c (.rp 3 (af e))] (B (dJ t a e)):=by
 rw[a9]
 exact Cn t a ht ha e fun x _hx=>wv t a ht ha x
 termination_by SizeOf.sizeOf e
 decreasing_by
  have:=List.sizeOf_lt_of_mem _hx
  cases e
  simp only[ae.mk.sizeOf_spec]
  show SizeOf.sizeOf x<_
  simp only[ae.kids] at this
  omega
end Go.Proofs.YtgbggaddpbghfaaGreat
namespace Go.Proofs.YtgbggaddpbghfaaGreat
open Go Go.KA Go.Proofs
theorem bz{α:Type}{f:α→List CV}{l:List α}{i:Nat}(h:i<l.length):(l.map f)[i]? =some (f l[i]):=by
 rw[List.getElem?_map,List.getElem?_eq_getElem h]
 rfl
mutual
def Ew(t a:Int):ae→Int→Int→Option Int
 | .mk k n kids,nodes,depth=>
   if nodes=0∨depth=0∨cT k≠kids.length then none
   else if(if k=3 then dH 0 (t-1) n else if k=4 then dH 0 (a-1) n else n==0)&&(!(k==5)||mQ kids) then Db t a kids (nodes-1) (depth-1) else none
def Db(t a:Int):List ae→Int→Int→Option Int
 |[],nodes,_=>some nodes
 |x::xs,nodes,depth=>match Ew t a x nodes depth with
  |none=>none
  |some m=>Db t a xs m depth
end
theorem vL(t a:Int)(e:ae)(nodes depth:Int):Ew t a e nodes depth=if nodes=0∨depth=0∨cT e.kind≠e.kids.length then none
 else if(if e.kind=3 then dH 0 (t-1) e.num else if e.kind=4 then dH 0 (a-1) e.num else e.num==0)&&(!(e.kind==5)||e.kids.all cS) then Db t a e.kids (nodes-1) (depth-1) else none:=by
 cases e
 simp only[Ew,pH]
 rfl
abbrev NK(o:Option Int):SV:= .tup [I (o.getD 0),B o.isSome]
theorem B0(t a:Int){l:List ae}{i:Nat}{m d:Int}(h:i<l.length):Db t a (l.drop i) m d=match Ew t a l[i] m d with|none=>none|some m'=>Db t a (l.drop (i+1)) m' d:=by
 rw[List.drop_eq_getElem_cons h]
 rfl
mutual
theorem yC(t a:Int):∀(e:ae) (n d r:Int),0≤n→Ew t a e n d=some r→0≤r∧r≤n
 | .mk k num kids,n,d,r,hn,h=>by
   unfold Ew at h
   by_cases h1:n=0∨d=0∨cT k≠kids.length
   ·rw[if_pos h1] at h;cases h
   rw[if_neg h1] at h
   generalize hC:((if k=3 then dH 0 (t-1) num else if k=4 then dH 0 (a-1) num else num==0)&&(!(k==5)||mQ kids))=C at h
   cases C with
   |false=>exact absurd h (by simp)
   |true=>
    have:=yF t a kids (n-1) (d-1) r (by omega) (by simpa using h)
    omega
theorem yF(t a:Int):∀(l:List ae) (n d r:Int),0≤n→Db t a l n d=some r→0≤r∧r≤n
 |[],n,d,r,hn,h=>by
  simp only[Db,Option.some.injEq] at h
  omega
 |x::xs,n,d,r,hn,h=>by
  simp only[Db] at h
  split at h
  ·cases h
  rename_i m hm
  have h1:=yC t a x n d m hn hm
  have h2:=yF t a xs m d r h1.1 h
  omega
end
set_option maxHeartbeats 8000000 in
theorem Fl(t a:Int)(ht:0≤t∧t≤3)(ha:0≤a∧a≤4)(e:ae)(nodes depth:Int)(hn:0≤nodes∧nodes≤1048576)(hd:0≤depth∧depth≤1048576)
 (hx:∀x∈e.kids,∀nodes depth:Int,0≤nodes∧nodes≤1048576→0≤depth∧depth≤1048576→aE Tryz.prog 205 [.a 2 [J t,J a], .a 3 (af x),I nodes,I depth] (NK (Ew t a x nodes depth))):
 aE Tryz.prog 205 [.a 2 [J t,J a], .a 3 (aI e),I nodes,I depth] (NK (Ew t a e nodes depth)):=by
 refine cF Tryz.func205 (h:= ?_)
 have k5:e.kind=5→cT e.kind=1:=by intro h;rw[h];rfl
 have hone:e.kind=5→cT e.kind=e.kids.length→∀h0:0<e.kids.length,e.kids.all cS=cS e.kids[0]:=by
  intro h1 h2 h0
  rw[k5 h1] at h2
  match hm:e.kids,h0,h2 with
  |[x],_,_=>simp
 repeat'((conv=>whnf);first
  |(apply bo.mk;first|(rw[vL];simp_all[NK,aN,aM];done)|(have hn':Ew t a e.kids[i] m (depth-1)=none:=(by simpa using h);have hq:=B0 t a (m:=m) (d:=depth-1) (show i<e.kids.length by omega);rw[hn'] at hq;rw[vL,ha.2.2,hq];simp[NK,aN,aM];done)|(have h0:0<e.kids.length:=(by omega);have h51:e.kids.all cS=false:=(hone (by omega) (by omega) h0).trans ‹cS e.kids[0]=false›;rw[vL,h51];simp[NK,aN,aM, *];done)|(rw[vL,ha.2.2,List.drop_of_length_le (by omega)];simp_all[NK,Db,aN,aM];done)|skip)|(guard_target=~ aP 16 _ _ _ _ _ _;refine lp (Nat × Int) [3,4,66,67] (fun⟨i,m⟩=>[(2,I m),(68,I i)]) (fun⟨i,m⟩=>i≤e.kids.length∧(0≤m∧m≤1048576)∧Db t a e.kids (nodes-1) (depth-1)=Db t a (e.kids.drop i) m (depth-1)) (fun⟨i,m⟩=>e.kids.length-i) (0,nodes-1) (by exact⟨Nat.zero_le _,⟨by show 0≤nodes-1;omega,by show nodes-1≤1048576;omega⟩,rfl⟩) (fun A ha=> ?_);obtain⟨i,m⟩:=A;have ha:i≤e.kids.length∧(0≤m∧m≤1048576)∧Db t a e.kids (nodes-1) (depth-1)=Db t a (e.kids.drop i) m (depth-1):=ha)
  |refine nx ((i+1,(Ew t a e.kids[i] m (depth-1)).getD 0):Nat × Int) (by obtain⟨hi,hm,hs⟩:=ha;obtain⟨r,hr⟩:=Option.isSome_iff_exists.1 h;exact⟨by show i+1≤_;omega,(by have:=yC t a _ _ _ _ hm.1 hr;rw[hr];simp only[Option.getD_some];omega),(by rw[hs,B0 t a (show i<e.kids.length by omega),hr];rfl)⟩)
  |(apply Fact.mk;intro hL;try simp only[List.length_map,maxLen] at hL)
  |((first|apply bA|apply bB|apply bC|apply bD|apply bE|apply bF)<;>intro h<;>(try simp only[List.length_map] at h)<;>(try omega)<;>(try contradiction))|(guard_target=aa _ 216 _ _ _ _;refine cP rfl (Ih _) ?_)|(guard_target=aa _ 45 _ _ _ _;refine cP rfl (eU _ _ _) ?_)|(guard_target=aa _ 206 _ _ _ _;refine cP rfl (lU _) ?_)|(guard_target=aa _ 205 _ _ _ _;refine cP rfl (hx _ (List.getElem_mem (by omega)) m (depth-1) (by omega) (by omega)) ?_)
  |refine aR ?_|(guard_target=Index _ _ _;first|refine Index.mk _ (bz (i:=i) (by omega)) ?_|refine Index.mk _ (bz (i:=0) (by omega)) ?_)
  |refine iX (k:= ?_)
  |refine nB ?_
  |apply ay.no
  |apply cj.go
  |refine nO ?_)
 have h0:0<e.kids.length:=(by omega)
 have h51:e.kids.all cS=true:=(hone (by omega) (by omega) h0).trans ‹cS e.kids[0]=true›
 have hd0:=List.drop_of_length_le (show e.kids.length≤i by omega)
 have c1:¬(nodes=0∨depth=0∨cT e.kind≠e.kids.length):=by omega
 have c2:¬e.kind=3:=by omega
 have c3:¬e.kind=4:=by omega
 rw[vL,if_neg c1,if_neg c2,if_neg c3,h51,ha.2.2,hd0,show(e.num==0)=true by(rw[beq_iff_eq];omega),Bool.or_true]
 rfl
theorem yV(t a:Int)(ht:0≤t∧t≤3)(ha:0≤a∧a≤4)(e:ae)(nodes depth:Int)(hn:0≤nodes∧nodes≤1048576)(hd:0≤depth∧depth≤1048576):aE Tryz.prog 205 [.a 2 [J t,J a], .a 3 (af e),I nodes,I depth] (NK (Ew t a e nodes depth)):=by
 rw[a9]
 exact Fl t a ht ha e nodes depth hn hd fun x _hx nodes depth hn hd=>yV t a ht ha x nodes depth hn hd
 termination_by SizeOf.sizeOf e
 decreasing_by
  have:=List.sizeOf_lt_of_mem _hx
  cases e
  simp only[ae.mk.sizeOf_spec]
  show SizeOf.sizeOf x<_
  simp only[ae.kids] at this
  omega
theorem Gj{α:Type}{p q:Prop}[Decidable p][Decidable q](h:p↔q)(x y:α):(if p then x else y)=if q then x else y:=by
 by_cases hp:p
 ·rw[if_pos hp,if_pos (h.1 hp)]
 ·rw[if_neg hp,if_neg fun hq=>hp (h.2 hq)]
mutual
theorem GF(t a:Int):∀(e:ae) (n d:Int),0≤n→0≤d→Ew t a e n d=if 0≤cx e n∧(ez e:Int)≤d∧dJ t a e=true then some (cx e n) else none
 | .mk k num kids,n,d,hn,hd=>by
   have hr:=mb (.mk k num kids) n hn
   have hS:=FL t a kids (n-1) (d-1)
   unfold Ew
   rw[show cx (.mk k num kids) n=dn kids (n-1) from rfl] at hr⊢
   rw[show ez (.mk k num kids)=eL kids+1 from rfl]
   have ht:dJ t a (.mk k num kids)=(((kids.length:Int)==cT k)&&(if k==3 then dH 0 (t-1) num else if k==4 then dH 0 (a-1) num else(num==0)&&((!(k==5)||mQ kids)&&gH t a kids))):=rfl
   rw[ht]
   by_cases h1:n=0∨d=0∨cT k≠kids.length
   ·rw[if_pos h1,if_neg]
    rintro⟨g1,g2,g3⟩
    rcases h1 with h1|h1|h1
    ·omega
    ·omega
    ·simp only[Bool.and_eq_true,beq_iff_eq] at g3
     exact h1 g3.1.symm
   rw[if_neg h1]
   have hl:((kids.length:Int)==cT k)=true:=by simp only[beq_iff_eq];omega
   have hS:=hS (by omega) (by omega)
   rw[hl,hS]
   by_cases h3:k=3
   ·have:kids=[]:=by
       have:cT k=0:=by rw[h3];rfl
       exact List.length_eq_zero_iff.1 (by omega)
    subst this h3
    simp only[gH,dn,eL]
    cases dH 0 (t-1) num<;>simp<;>omega
   by_cases h4:k=4
   ·have:kids=[]:=by
       have:cT k=0:=by rw[h4];rfl
       exact List.length_eq_zero_iff.1 (by omega)
    subst this h4
    simp only[gH,dn,eL]
    cases dH 0 (a-1) num<;>simp<;>omega
   simp only[if_neg h3,if_neg h4,beq_iff_eq,Bool.true_and]
   cases num==0<;>cases !(k==5)||mQ kids<;>cases gH t a kids<;>simp<;>(try omega)
   refine Gj ?_ _ _
   omega
theorem FL(t a:Int):∀(l:List ae) (n d:Int),0≤n→0≤d→Db t a l n d=if 0≤dn l n∧(eL l:Int)≤d∧gH t a l=true then some (dn l n) else none
 |[],n,d,hn,hd=>by
  rw[if_pos ⟨hn,hd,rfl⟩]
  rfl
 |x::xs,n,d,hn,hd=>by
  have e1:dn (x::xs) n=dn xs (cx x n):=by simp only[dn];rw[if_neg (by omega:¬n<0)]
  have e2:eL (x::xs)=max (ez x) (eL xs):=rfl
  have e3:gH t a (x::xs)=(dJ t a x&&gH t a xs):=rfl
  have e4:Db t a (x::xs) n d=match Ew t a x n d with|none=>none|some m=>Db t a xs m d:=rfl
  rw[e4,GF t a x n d hn hd]
  by_cases h:0≤cx x n∧(ez x:Int)≤d∧dJ t a x=true
  ·rw[if_pos h]
   show Db t a xs (cx x n) d=_
   rw[FL t a xs (cx x n) d h.1 hd]
   have:=h.2.1
   have key:(0≤dn xs (cx x n)∧(eL xs:Int)≤d∧gH t a xs=true)↔(0≤dn (x::xs) n∧(eL (x::xs):Int)≤d∧gH t a (x::xs)=true):= ?_
   ·rw[Gj key,e1]
   rw[e1,e2,e3,h.2.2,Bool.true_and]
   constructor
   ·rintro⟨g1,g2,g3⟩;exact⟨g1,by omega,g3⟩
   ·rintro⟨g1,g2,g3⟩;exact⟨g1,by omega,g3⟩
  ·rw[if_neg h,if_neg]
   rw[e1,e2,e3]
   rintro⟨g1,g2,g3⟩
   simp only[Bool.and_eq_true] at g3
   refine h ⟨?_,by omega,g3.1⟩
   by_cases hneg:cx x n<0
   ·rw[mV hneg] at g1
    exact g1
   ·omega
end
def aW(t a:Int)(e:ae):Bool:=decide (0≤cx e 200)&&(decide ((ez e:Int)≤40)&&dJ t a e)
theorem IG(t a:Int)(e:ae):(Ew t a e 200 40).isSome=aW t a e:=by
 rw[GF t a e 200 40 (by omega) (by omega)]
 unfold aW
 by_cases h1:0≤cx e 200<;>by_cases h2:(ez e:Int)≤40<;>cases dJ t a e<;>simp[h1,h2]
end Go.Proofs.YtgbggaddpbghfaaGreat
