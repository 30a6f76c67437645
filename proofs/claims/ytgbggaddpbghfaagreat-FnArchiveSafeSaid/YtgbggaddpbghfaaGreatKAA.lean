/- Part of a proof engine for functions of the given program: what a function reads may be given up to it, with the memory that it owns. No conditions. -/
import Derived.Test.YtgbggaddpbghfaaGreatTy
import Derived.Test.YtgbggaddpbghfaaGreatEngU
import Derived.Test.YtgbggaddpbghfaaGreatSz
import Derived.Test.YtgbggaddpbghfaaGreatTo
import Derived.Test.YtgbggaddpbghfaaGreatEq
namespace Go.KA
open Go Go.RowKit
inductive xD:List SV->List SV->Prop
 |nil:xD [] []
 |same {s ss gx} (h:xD ss gx):xD (s::ss) (s::gx)
 |c {x ss gx} (h:xD ss gx):xD (.c x::ss) (.c (mV x)::gx)
theorem sV.wo{w:World}{ok ok':Nat->Prop}{s:SV}{v:Value}{f:List Nat}(h:sV w ok s v f)(cH:∀b,ok b->ok' b):sV w ok' s v f:=by
 cases h with
 |v hv=>exact .v fun ρ=>(hv ρ).mono (fun _ _=>rfl) cH (Ext.refl _)
 |o hd=>exact .o (hd.mono (fun _ _=>rfl) cH fun _ _=>rfl)
 |m hd=>exact .m (hd.mono (fun _ _=>rfl) cH fun _ _=>rfl)
 |off hd=>exact .off (hd.mono (fun _ _=>rfl) cH fun _ _=>rfl)
theorem xD.al{w:World}{ok:Nat->Prop}{ss gx:List SV}(h:xD ss gx):∀{vs:List Value} {f:List Nat},f.Nodup->AL w ok ss vs f->
 ∃f1,f1.Sublist f/\ ∀ok':Nat->Prop,(∀b,ok b->ok' b)->(∀b∈f,b∉f1->ok' b)->AL w ok' gx vs f1:=by
 induction h with
 |nil=>intro vs f hf ha;cases ha;exact⟨[],List.Sublist.refl _,fun _ _ _=> .nil⟩
 |same h ih=>
  intro vs f hf ha;cases ha with
  | @cons _ v g _ vs k h0 ht=>
    rw[List.nodup_append]at hf;obtain⟨f1,hs,hd⟩:=ih hf.2.1 ht;refine⟨g++f1,(List.Sublist.refl _).append hs,fun ok' cH hb=> .cons (h0.wo cH) (hd ok' cH fun b kg nN=>hb b (by simp[kg]) fun hm=>?_)⟩;rcases ao.1 hm with hm|hm
    ·exact hf.2.2 b hm b kg rfl
    ·exact nN hm
 |c h ih=>
  intro vs f hf ha;cases ha with
  | @cons _ v g _ vs k h0 ht=>
    rw[List.nodup_append]at hf;obtain⟨f1,hs,hd⟩:=ih hf.2.1 ht;refine⟨f1,List.sublist_append_of_sublist_right hs,fun ok' cH hb=>?_⟩;have h1:=hd ok' cH fun b kg nN=>hb b (by simp[kg]) nN
    have hg:∀b∈g,ok' b:=fun b hbg=>hb b (by simp[hbg]) fun hm=>hf.2.2 b hbg b (hs.subset hm) rfl
    have key:∀{x:CV} {v:Value} {g:List Nat},Den w ok [x] [v] g->(∀b∈g,ok' b)->sV w ok' (.c (mV x)) v []:=fun hd hg=> .o (lz hd cH hg)
    cases h0 with
    |v hv=>
     cases hv (fun _=>none)with
     |c hc=>cases hc with|c hd=>exact .cons (f:=[]) (key hd (by simp)) h1
    |o hd=>exact .cons (f:=[]) (key hd hg) h1
theorem aE.Tq{P:Program}{f:Nat}{args df:List SV}{outs:List (Option (List CV))}{r:SV}(h:aE P f df outs r)(hg:xD args df):aE P f args outs r:=by
 refine⟨h.1,fun w ok vs fs h1 h2 h3 h4=>?_⟩;obtain⟨f1,hs,hd⟩:=hg.al h3 h2;have h5:=h.2 w (fun b=>ok b\/(b∈fs/\b∉f1)) vs f1 (fun b hb=>hb.elim (h1 b) fun hb=>(h4 b hb.1).1) (hd _ (fun b hb=> .inl hb) (fun b hb nN=> .inr ⟨hb,nN⟩)) (h3.sublist hs)
  (fun b hb=>⟨(h4 b (hs.subset hb)).1,fun hk=>hk.elim (h4 b (hs.subset hb)).2 fun hk=>hk.2 hb⟩)
 refine h5.mono ?_;rintro e w' ⟨v,fr,fo,rfl,Fb,hn,hb,ho,XT⟩;have e:zc (fun b=>ok b\/(b∈fs/\b∉f1)) f1 (fr++fo) w w'=zc ok fs (fr++fo) w w':=by
  funext b
  have:((ok b\/(b∈fs/\b∉f1))\/b∈f1\/w.heap.size≤b)↔(ok b\/b∈fs\/w.heap.size≤b):=by
   have:= @List.Sublist.subset _ _ _ hs b;by_cases h:b∈f1
   ·have:=this h;simp[h,this]
   ·simp[h,or_assoc]
  unfold zc;rw[this]
 rw[e]at ho XT;refine⟨v,fr,fo,rfl,⟨Fb.os,Fb.tape,Fb.output,Fb.size,fun b hb Mb=>Fb.block b hb fun hm=>Mb (hs.subset hm)⟩,hn,fun b YI=>⟨?_,(hb b YI).2⟩,ho,XT⟩;exact(hb b YI).1.imp_left fun h=>hs.subset h
end Go.KA
namespace Go.KA
open Go Go.RowKit
inductive Lv:List CV->List CV->Prop
 |nil:Lv [] []
 |same {c cs dn} (h:Lv cs dn):Lv (c::cs) (c::dn)
 |cb {b cs dn} (h:Lv cs dn):Lv (.cb b::cs) (.val (.bool b)::dn)
 |op {a a' cs dn} (k:Lv a a') (h:Lv cs dn):Lv (.op a::cs) (.op a'::dn)
theorem Lv.den{w:World}{ok:Nat->Prop}{cs dn:List CV}(h:Lv cs dn):∀{vs:List Value} {f:List Nat},Den w ok cs vs f->Den w ok dn vs f:=by
 induction h with
 |nil=>intro vs f h;exact h
 |same h ih=>
  intro vs f hd;cases hd with
  |any h1 ht=>exact .any h1 (ih ht)
  |val h1 ht=>exact .val h1 (ih ht)
  |cb ht=>exact .cb (ih ht)
  |ro a b c d e f ht=>exact .ro a b c d e f (ih ht)
  |rp a b c d ht=>exact .rp a b c d (ih ht)
  |own a b c ht=>exact .own a b c (ih ht)
  |ows a b c ht=>exact .ows a b c (ih ht)
  |fQ a b c ht=>exact .fQ a b c (ih ht)
  |op a b ht=>exact .op a b (ih ht)
  |jB a b c ht=>exact .jB a b c (ih ht)
 |cb h ih=>
  intro vs f hd;cases hd with
  |cb ht=>exact .val rfl (ih ht)
 |op k h ihk ih=>
  intro vs f hd;cases hd with
  |op a b ht=>exact .op a (ihk b) (ih ht)
inductive Uj:List (Option (List CV))->List (Option (List CV))->Prop
 |nil:Uj [] []
 |same {o os UO} (h:Uj os UO):Uj (o::os) (o::UO)
 |re {cs dn os UO} (k:Lv cs dn) (h:Uj os UO):Uj (some cs::os) (some dn::UO)
theorem Lv.XX{cs dn:List CV}(h:Lv cs dn):∀(i:Nat) (x:List CV),dn[i]? =some (.op x)-> ∃y,cs[i]? =some (.op y):=by
 induction h with
 |nil=>intro i x hx;simp at hx
 | @same c cs dn h ih=>
   intro i x hx;cases i with
   |zero=>exact⟨x,hx⟩
   |succ i=>exact ih i x hx
 | @cb b cs dn h ih=>
   intro i x hx;cases i with
   |zero=>simp at hx
   |succ i=>exact ih i x hx
 | @op a a' cs dn k h _ ih=>
   intro i x hx;cases i with
   |zero=>exact⟨a,rfl⟩
   |succ i=>exact ih i x hx
theorem Dj.re{w0 w:World}{v:Value}{cs dn:List CV}(h:Dj w0 w v cs)(k:Lv cs dn):Dj w0 w v dn:=by
 intro DY e;subst e;cases k with
 |same k=>cases k;exact h DY rfl
 | @op a _ _ _ ka k=>
   cases k;intro b ty mq arr iy h1 h2 h3 i x hx;obtain⟨y,hy⟩:=ka.XX i x hx;exact h a rfl b ty mq arr iy h1 h2 h3 i y hy
theorem Uj.den{w0 w:World}{ok:Nat->Prop}{os UO:List (Option (List CV))}(h:Uj os UO):∀{vs:List Value} {f:List Nat},mL w0 w ok os vs f->mL w0 w ok UO vs f:=by
 induction h with
 |nil=>intro vs f h;exact h
 |same h ih=>
  intro vs f ho;cases ho with
  |none ht=>exact .none (ih ht)
  |some hd hk ht=>exact .some hd hk (ih ht)
 |re k h ih=>
  intro vs f ho;cases ho with
  |some hd hk ht=>exact .some (k.den hd) (hk.re k) (ih ht)
theorem aE.tP{P:Program}{f:Nat}{args:List SV}{outs Gk:List (Option (List CV))}{r:SV}(h:aE P f args outs r)(ho:Uj outs Gk):aE P f args Gk r:=by
 refine⟨h.1,fun w ok vs fs h1 h2 h3 h4=>(h.2 w ok vs fs h1 h2 h3 h4).mono ?_⟩;rintro e w' ⟨v,fr,fo,h5,h6,h7,h8,h9,Cz⟩;exact⟨v,fr,fo,h5,h6,h7,h8,h9,ho.den Cz⟩
end Go.KA
namespace Go.Proofs.YtgbggaddpbghfaaGreat
open Go Go.KA Go.Proofs Go.Proofs.Tryz
set_option maxHeartbeats 16000000
set_option maxRecDepth 100000
theorem _root_.Go.KA.bM.beq{a b:Int}{A B:Prop}(t:a=b->A)(f:¬a=b->B):bM (a==b) A B:=bM.mk (fun h=>t (by simpa using h)) (fun h=>f (by simpa using h))
theorem _root_.Go.KA.bM.nb{b:Bool}{A B:Prop}(t:b=false->A)(f:b=true->B):bM (!b) A B:=bM.mk (fun h=>t (by simpa using h)) (fun h=>f (by simpa using h))
abbrev J(n:Int):CV:= .val (.int .i64 n)
def ee(lo hi n:Int):Bool:=decide (lo≤n)&&decide (n≤hi)
theorem eg(n lo hi:Int):aS prog 45 [I n,I lo,I hi] (B (ee lo hi n)):=by
 refine eh dC hm func45 rfl rfl rfl rfl (ann:=fun _=>none) (gh:=fun _=>false) ?_;refine bM.mk (fun h=>?_) (fun h=>?_)
 ·refine bP.mk ?_;unfold ee;rw[h];rfl
 ·refine bP.mk ?_;unfold ee;rw[h];rfl
theorem ed(n lo hi:Int):aS prog 86 [I n,I lo,I hi] (B (ee lo hi n)):=by
 refine eh dC hm func86 rfl rfl rfl rfl (ann:=fun _=>none) (gh:=fun _=>false) ?_;refine bM.mk (fun h=>?_) (fun h=>?_)
 ·have h1:decide (lo≤n)=true:=by simpa using h
  refine bP.mk ?_;unfold ee;rw[h1];rfl
 ·have h1:decide (lo≤n)=false:=by simpa using h
  refine bP.mk ?_;unfold ee;rw[h1];rfl
def cE(a b:Int):Bool:=ee 0 3 a&&ee 0 4 b
theorem rC(a b:Int):aS prog 44 [.a 2 [J a,J b]] (B (cE a b)):=by
 refine eh dC hm func44 rfl rfl rfl rfl (ann:=fun _=>none) (gh:=fun _=>false) ?_;refine ay.pure _ _ rfl (eg _ _ _) rfl _ rfl ?_;refine bM.mk (fun h=>?_) (fun h=>?_)
 ·refine ay.pure _ _ rfl (eg _ _ _) rfl _ rfl ?_;refine bP.mk ?_;unfold cE;rw[h];rfl
 ·refine bP.mk ?_;unfold cE;rw[h];rfl
theorem mY(a b:Int):aS prog 85 [.a 2 [J a,J b]] (B (cE a b)):=by
 refine eh dC hm func85 rfl rfl rfl rfl (ann:=fun _=>none) (gh:=fun _=>false) ?_;refine ay.pure _ _ rfl (ed _ _ _) rfl _ rfl ?_;refine bM.mk (fun h=>?_) (fun h=>?_)
 ·refine ay.pure _ _ rfl (ed _ _ _) rfl _ rfl ?_;refine bP.mk ?_;unfold cE;rw[h];rfl
 ·refine bP.mk ?_;unfold cE;rw[h];rfl
abbrev aY(e:aA):List CV:=[J e.kind,J e.num, .ro 3 (e.kids.map aD)]
mutual
def dq:aA->Bool
 | .mk kind _ kids=>(ee 1 7 kind&& !(kind==4))&&po kids
def po:List aA->Bool
 |[]=>true
 |x::xs=>dq x&&po xs
end
theorem sO:∀l:List aA,po l=l.all dq
 |[]=>rfl
 |x::xs=>by simp only[po,List.all_cons];rw[sO xs]
theorem nM(e:aA):dq e=((ee 1 7 e.kind&& !(e.kind==4))&&e.kids.all dq):=by
 cases e;simp only[dq,sO];rfl
theorem ui{α:Type}{p:α->Bool}{l:List α}{i:Nat}(h:i<l.length)(hp:p l[i]=false):l.all p=false:=by
 rw[List.all_eq_false];exact⟨l[i],ag h,by simp[hp]⟩
theorem mi{α:Type}{p:α->Bool}{l:List α}{i:Nat}(h:i<l.length)(ha:(l.take i).all p=true)(hp:p l[i]=true):(l.take (i+1)).all p=true:=by
 rw[List.take_add_one,List.getElem?_eq_getElem h,List.all_append,ha];simp[hp]
theorem xb(e:aA)(hx:∀x∈e.kids,aS prog 214 [.c (.rp 3 (aD x))] (B (dq x))):aS prog 214 [.c (.rp 3 (aY e))] (B (dq e)):=by
 refine eh dC hm func214 rfl rfl rfl rfl (ann:=fun n=>match n with|4=>some {α:=Nat,iY:=[0],ov:=fun i=>[(3,I i)],φ:=fun i=>i≤e.kids.length/\(e.kids.take i).all dq=true,μ:=fun i=>e.kids.length-i}|_=>none) (gh:=fun _=>false) ?_;refine ay.pure _ _ rfl (ed _ _ _) rfl _ rfl ?_;refine bM.mk (fun h1=>?_) (fun h1=>?_)
 ·refine bP.mk ?_;have:ee 1 7 e.kind=false:=by simpa using h1
  rw[nM,this];rfl
 have h1:ee 1 7 e.kind=true:=by simpa using h1
 refine bM.mk (fun h2=>?_) (fun h2=>?_)
 ·refine bP.mk ?_;rw[nM,h1,h2];rfl
 refine nu.mk (0:Nat) ⟨ah _,rfl⟩ ⟨⟨rfl,rfl⟩,trivial⟩ ⟨⟨rfl,rfl⟩,trivial⟩ trivial ?_ (fun _=>rfl);intro(i:Nat) (hi:i≤e.kids.length/\(e.kids.take i).all dq=true);obtain⟨hi,ha⟩:=hi;refine Fact.mk fun hL=>?_
 refine bM.mk (fun h=>?_) (fun h=>?_)
 ·have h:=of_decide_eq_true h;rw[aa]at h hL;have lg:i<e.kids.length:=by omega
  refine bh.mk (by omega) (Index.mk (aD e.kids[i]) (by simp[lg]) ?_);refine ay.pure _ _ rfl (hx _ (ag lg)) rfl _ rfl ?_;refine bM.mk (fun hb=>?_) (fun hb=>?_)
  ·refine bP.mk ?_;rw[nM,h1,h2,ui lg (by simpa using hb)];rfl
  ·simp only[maxLen]at hL;refine Arith.fit (bu (by omega) (by omega)) ?_;exact Gh.go ⟨i+1,⟨lg,mi lg ha (by simpa using hb)⟩,(by show e.kids.length-(i+1)<e.kids.length-i;omega),⟨⟨rfl,rfl⟩,trivial⟩,⟨⟨rfl,rfl⟩,trivial⟩,trivial⟩
 ·have h:=of_decide_eq_false h;rw[aa]at h;have:i=e.kids.length:=by omega
  subst this;refine bP.mk ?_;rw[List.take_length]at ha;rw[nM,h1,h2,ha];rfl
theorem jV(e:aA):aS prog 214 [.c (.rp 3 (aD e))] (B (dq e)):=by
 rw[bK];exact xb e fun x vu=>jV x
 termination_by SizeOf.sizeOf e
 decreasing_by
  have:=List.sizeOf_lt_of_mem vu;cases e;simp only[aA.mk.sizeOf_spec];show SizeOf.sizeOf x<_;simp only[aA.kids]at this;omega
def dt(k:Int):Int:=if k==1||(k==2||(k==3||k==4))then 0 else if k==5||k==8 then 1 else if k==6||k==7 then 2 else-1
theorem Kw(k:Int):aS prog 215 [I k] (I (dt k)):=by
 refine eh dC hm func215 rfl rfl rfl rfl (ann:=fun _=>none) (gh:=fun _=>false) ?_;refine bM.mk (fun h1=>bP.mk (by simp[dt,h1];rfl)) (fun h1=>?_);refine bM.mk (fun h2=>bP.mk (by simp[dt,h1,h2];rfl)) (fun h2=>?_);refine bM.mk (fun h3=>bP.mk (by simp[dt,h1,h2,h3];rfl)) (fun h3=>?_);refine bM.mk (fun h4=>bP.mk (by simp[dt,h1,h2,h3,h4];rfl)) (fun h4=>?_);refine bM.mk (fun h5=>bP.mk (by simp[dt,h1,h2,h3,h4,h5];rfl)) (fun h5=>?_);refine bM.mk (fun h8=>bP.mk (by simp[dt,h1,h2,h3,h4,h5,h8];rfl)) (fun h8=>?_);refine bM.mk (fun h6=>bP.mk (by simp[dt,h1,h2,h3,h4,h5,h6,h8];rfl)) (fun h6=>?_);refine bM.mk (fun h7=>bP.mk (by simp[dt,h1,h2,h3,h4,h5,h6,h7,h8];rfl)) (fun h7=>?_)
 exact bP.mk (by simp[dt,h1,h2,h3,h4,h5,h6,h7,h8];rfl)
theorem NH(k:Int):aS prog 216 [I k] (I (dt k)):=by
 refine eh dC hm func216 rfl rfl rfl rfl (ann:=fun _=>none) (gh:=fun _=>false) ?_;refine bM.mk (fun h1=>bP.mk (by simp[dt,h1];rfl)) (fun h1=>?_);refine bM.mk (fun h2=>bP.mk (by simp[dt,h1,h2];rfl)) (fun h2=>?_);refine bM.mk (fun h3=>bP.mk (by simp[dt,h1,h2,h3];rfl)) (fun h3=>?_);refine bM.mk (fun h4=>bP.mk (by simp[dt,h1,h2,h3,h4];rfl)) (fun h4=>?_);refine bM.mk (fun h5=>bP.mk (by simp[dt,h1,h2,h3,h4,h5];rfl)) (fun h5=>?_);refine bM.mk (fun h8=>bP.mk (by simp[dt,h1,h2,h3,h4,h5,h8];rfl)) (fun h8=>?_);refine bM.mk (fun h6=>bP.mk (by simp[dt,h1,h2,h3,h4,h5,h6,h8];rfl)) (fun h6=>?_);refine bM.mk (fun h7=>bP.mk (by simp[dt,h1,h2,h3,h4,h5,h6,h7,h8];rfl)) (fun h7=>?_)
 exact bP.mk (by simp[dt,h1,h2,h3,h4,h5,h6,h7,h8];rfl)
theorem yC(e:aA)(hx:∀x∈e.kids,aS prog 206 [.a 3 (aD x)] (B (dq x))):aS prog 206 [.a 3 (aY e)] (B (dq e)):=by
 refine eh dC hm func206 rfl rfl rfl rfl (ann:=fun n=>match n with|10=>some {α:=Nat,iY:=[2,15,16],ov:=fun i=>[(17,I i)],φ:=fun i=>i≤e.kids.length/\(e.kids.take i).all dq=true,μ:=fun i=>e.kids.length-i}|_=>none) (gh:=fun _=>false) ?_;refine bM.mk (fun hh=>?_) (fun h1=>bM.mk (fun hh=>?_) (fun h2=>bM.mk (fun hh=>?_) (fun h3=>bM.mk (fun hh=>?_) (fun h5=>bM.mk (fun hh=>?_) (fun h6=>bM.mk (fun hh=>?_) (fun h7=>?_))))))
 rotate_left 6
 ·refine bP.mk ?_;have:dq e=false:=by
   rw[nM];simp only[beq_eq_false_iff_ne,ne_eq]at h1 h2 h3 h5 h6 h7;have:(ee 1 7 e.kind&& !(e.kind==4))=false:=by
        simp only[ee,Bool.and_eq_false_iff,decide_eq_false_iff_not,Bool.not_eq_false',beq_iff_eq];omega
   rw[this];rfl
  rw[this];rfl
 all_goals
  have hk:(ee 1 7 e.kind&& !(e.kind==4))=true:=by
   have hq:=eq_of_beq hh;rw[hq];rfl
  refine Fact.mk fun hL=>?_
  refine nu.mk (0:Nat) ⟨ah _,rfl⟩ ⟨⟨rfl,rfl⟩,trivial⟩ ⟨⟨rfl,rfl⟩,⟨rfl,rfl⟩,⟨rfl,rfl⟩,trivial⟩ ⟨⟨rfl,rfl⟩,trivial⟩ ?_ (fun _=>rfl);intro(i:Nat) (hi:i≤e.kids.length/\(e.kids.take i).all dq=true);obtain⟨hi,ha⟩:=hi;rw[aa]at hL;refine bM.mk (fun h=>?_) (fun h=>?_)
  ·have h:=of_decide_eq_true h;rw[aa]at h;have lg:i<e.kids.length:=by omega
   refine bh.mk (by omega) (Index.mk (aD e.kids[i]) (by simp[lg]) ?_);refine ay.pure _ _ rfl (hx _ (ag lg)) rfl _ rfl ?_;refine bM.mk (fun hb=>?_) (fun hb=>?_)
   ·refine bP.mk ?_;rw[nM,hk,ui lg (by simpa using hb)];rfl
   ·simp only[maxLen]at hL;refine Arith.fit (bu (by omega) (by omega)) ?_;exact Gh.go ⟨i+1,⟨lg,mi lg ha (by simpa using hb)⟩,(by show e.kids.length-(i+1)<e.kids.length-i;omega),⟨⟨rfl,rfl⟩,trivial⟩,⟨⟨rfl,rfl⟩,⟨rfl,rfl⟩,⟨rfl,rfl⟩,trivial⟩,⟨⟨rfl,rfl⟩,trivial⟩⟩
  ·have h:=of_decide_eq_false h;rw[aa]at h;have:i=e.kids.length:=by omega
   subst this;refine bP.mk ?_;rw[List.take_length]at ha;rw[nM,hk,ha];rfl
theorem nv(e:aA):aS prog 206 [.a 3 (aD e)] (B (dq e)):=by
 rw[bK];exact yC e fun x vu=>nv x
 termination_by SizeOf.sizeOf e
 decreasing_by
  have:=List.sizeOf_lt_of_mem vu;cases e;simp only[aA.mk.sizeOf_spec];show SizeOf.sizeOf x<_;simp only[aA.kids]at this;omega
mutual
def cR:aA->Int->Int
 | .mk _ _ kids,left=>dI kids (left-1)
def dI:List aA->Int->Int
 |[],left=>left
 |x::xs,left=>if left<0 then left else dI xs (cR x left)
end
mutual
def fx:aA->Nat
 | .mk _ _ kids=>fI kids+1
def fI:List aA->Nat
 |[]=>0
 |x::xs=>max (fx x) (fI xs)
end
theorem wL(e:aA):fx e=fI e.kids+1:=by
 cases e;rfl
theorem y6(e:aA)(left:Int):cR e left=dI e.kids (left-1):=by
 cases e;rfl
theorem GO{l:List aA}{i:Nat}(h:i<l.length):fI (l.take (i+1))=max (fI (l.take i)) (fx l[i]):=by
 induction l generalizing i with
 |nil=>simp at h
 |cons x xs ih=>
  cases i with
  |zero=>simp[fI]
  |succ i=>
   simp only[List.length_cons,Nat.add_lt_add_iff_right]at h;simp only[List.take_succ_cons,fI,List.getElem_cons_succ,ih h];omega
mutual
theorem B1:∀e:aA,fx e≤aH e+1
 | .mk k n kids=>by
   have:=C6 kids;simp only[fx,aH];omega
theorem C6:∀l:List aA,fI l≤bd l
 |[]=>aw _
 |x::xs=>by
  have h1:=B1 x;have h2:=C6 xs;simp only[fI,bd];omega
end
theorem UX(a b:Nat):aS prog 77 [I a,I b] (I (max a b:Nat)):=by
 refine eh dC hm func77 rfl rfl rfl rfl (ann:=fun _=>none) (gh:=fun _=>false) ?_;refine bM.mk (fun h=>?_) (fun h=>?_)
 ·have h:(a:Int)>b:=of_decide_eq_true h;refine bP.mk ?_;rw[Nat.max_eq_left (by omega)];rfl
 ·have h:¬(a:Int)>b:=of_decide_eq_false h;refine bP.mk ?_;rw[Nat.max_eq_right (by omega)];rfl
theorem Ee(e:aA)(hl:aH e≤1048576)(hx:∀x∈e.kids,aS prog 200 [.c (.rp 3 (aD x))] (I (fx x))):aS prog 200 [.c (.rp 3 (aY e))] (I (fx e)):=by
 refine eh dC hm func200 rfl rfl rfl rfl (ann:=fun n=>match n with|3=>some {α:=Nat,iY:=[0],ov:=fun i=>[(4,I i),(3,I (fI (e.kids.take i)))],φ:=fun i=>i≤e.kids.length,μ:=fun i=>e.kids.length-i}|_=>none) (gh:=fun _=>false) ?_;have hd:=B1 e;rw[wL]at hd;refine nu.mk (0:Nat) (ah _) ⟨⟨rfl,rfl⟩,⟨rfl,rfl⟩,trivial⟩ ⟨⟨rfl,rfl⟩,trivial⟩ trivial ?_ (fun _=>rfl);intro(i:Nat) (hi:i≤e.kids.length);refine Fact.mk fun hL=>?_
 refine bM.mk (fun h=>?_) (fun h=>?_)
 ·have h:=of_decide_eq_true h;rw[aa]at h hL;have lg:i<e.kids.length:=by omega
  refine bh.mk (by omega) (Index.mk (aD e.kids[i]) (by simp[lg]) ?_);refine ay.pure _ _ rfl (hx _ (ag lg)) rfl _ rfl ?_;refine ay.pure _ _ rfl (UX _ _) rfl _ rfl ?_;simp only[maxLen]at hL;refine Arith.fit (bu (by omega) (by omega)) ?_;refine Gh.go ⟨i+1,lg,(by show e.kids.length-(i+1)<e.kids.length-i;omega),⟨⟨rfl,rfl⟩,⟨?_,rfl⟩,trivial⟩,⟨⟨rfl,rfl⟩,trivial⟩,trivial⟩;exact congrArg (fun n:Nat=>I n) (GO lg).symm
 ·have h:=of_decide_eq_false h;rw[aa]at h;have:i=e.kids.length:=by omega
  subst this;refine Arith.fit (bu (by omega) (by rw[List.take_length];omega)) ?_;refine bP.mk ?_;rw[wL,List.take_length];rfl
theorem pA{left:Int}(h:left<0):∀l:List aA,dI l left=left
 |[]=>rfl
 |x::xs=>by simp only[dI];rw[if_pos h]
theorem qe:∀(l m:List aA) (left:Int),dI (l++m) left=dI m (dI l left)
 |[],_,_=>rfl
 |x::xs,m,left=>by
  simp only[List.cons_append,dI];by_cases h:left<0
  ·rw[if_pos h,if_pos h,pA h]
  ·rw[if_neg h,if_neg h,qe xs m]
mutual
theorem oC:∀(e:aA) (left:Int),0≤left-> -1≤cR e left/\cR e left≤left-1
 | .mk _ _ kids,left,h=>by
   have:=r7 kids (left-1) (by omega);simp only[cR];exact this
theorem r7:∀(l:List aA) (left:Int), -1≤left-> -1≤dI l left/\dI l left≤left
 |[],left,h=>⟨h,Int.le_refl _⟩
 |x::xs,left,h=>by
  simp only[dI];by_cases hn:left<0
  ·rw[if_pos hn];omega
  ·rw[if_neg hn];have h1:=oC x left (by omega);have h2:=r7 xs (cR x left) h1.1;omega
end
theorem JY{l:List aA}{i:Nat}{left:Int}(h:i<l.length)(hp:0≤dI (l.take i) left):dI (l.take (i+1)) left=cR l[i] (dI (l.take i) left):=by
 rw[List.take_add_one,List.getElem?_eq_getElem h,qe];simp only[Option.toList_some,dI];rw[if_neg (by omega)]
theorem Kr{l:List aA}{i:Nat}{left:Int}(hp:dI (l.take i) left<0):dI l left=dI (l.take i) left:=by
 have h:l=l.take i++l.drop i:=(List.take_append_drop i l).symm
 conv=>lhs;rw[h]
 rw[qe,pA hp]
theorem Ii(e:aA)(left:Int)(h0:0≤left)(h1:left≤1048576)(hx:∀x∈e.kids,∀left:Int,0≤left->left≤1048576->aS prog 145 [.c (.rp 3 (aD x)),I left] (I (cR x left))):aS prog 145 [.c (.rp 3 (aY e)),I left] (I (cR e left)):=by
 refine eh dC hm func145 rfl rfl rfl rfl (ann:=fun n=>match n with|3=>some {α:=Nat,iY:=[0],ov:=fun i=>[(5,I i),(1,I (dI (e.kids.take i) (left-1)))],φ:=fun i=>i≤e.kids.length,μ:=fun i=>e.kids.length-i}|_=>none) (gh:=fun _=>false) ?_;refine Arith.fit (bu (by omega) (by omega)) ?_;refine nu.mk (0:Nat) (ah _) ⟨⟨rfl,rfl⟩,⟨rfl,rfl⟩,trivial⟩ ⟨⟨rfl,rfl⟩,trivial⟩ trivial ?_ (fun _=>rfl);intro(i:Nat) (hi:i≤e.kids.length);have hr:=r7 (e.kids.take i) (left-1) (by omega);refine Fact.mk fun hL=>?_
 refine bM.mk (fun h=>?_) (fun h=>?_)
 ·have h:=of_decide_eq_true h;rw[aa]at h hL;have lg:i<e.kids.length:=by omega
  refine bM.mk (fun hg=>?_) (fun hg=>?_)
  ·have hg:dI (e.kids.take i) (left-1)≥0:=of_decide_eq_true hg;refine bh.mk (by omega) (Index.mk (aD e.kids[i]) (by simp[lg]) ?_);refine ay.pure _ _ rfl (hx _ (ag lg) (dI (e.kids.take i) (left-1)) (by omega) (by omega)) rfl _ rfl ?_;simp only[maxLen]at hL;refine Arith.fit (bu (by omega) (by omega)) ?_;refine Gh.go ⟨i+1,lg,(by show e.kids.length-(i+1)<e.kids.length-i;omega),⟨⟨rfl,rfl⟩,⟨?_,rfl⟩,trivial⟩,⟨⟨rfl,rfl⟩,trivial⟩,trivial⟩;exact congrArg I (JY lg (by omega)).symm
  ·have hg:¬dI (e.kids.take i) (left-1)≥0:=of_decide_eq_false hg;refine bP.mk ?_;rw[y6,Kr (l:=e.kids) (i:=i) (by omega)];rfl
 ·have h:=of_decide_eq_false h;rw[aa]at h;have:i=e.kids.length:=by omega
  subst this;refine bP.mk ?_;rw[y6,List.take_length];rfl
theorem tR(e:aA)(left:Int)(h0:0≤left)(h1:left≤1048576):aS prog 145 [.c (.rp 3 (aD e)),I left] (I (cR e left)):=by
 rw[bK];exact Ii e left h0 h1 fun x vu left h0 h1=>tR x left h0 h1
 termination_by SizeOf.sizeOf e
 decreasing_by
  have:=List.sizeOf_lt_of_mem vu;cases e;simp only[aA.mk.sizeOf_spec];show SizeOf.sizeOf x<_;simp only[aA.kids]at this;omega
theorem xU(e:aA)(hl:aH e≤1048576):aS prog 200 [.c (.rp 3 (aD e))] (I (fx e)):=by
 rw[bK];exact Ee e hl fun x vu=>xU x (by
  have:=di aH vu;cases e;simp only[aH,oy]at hl;simp only[aA.kids]at this;omega)
 termination_by SizeOf.sizeOf e
 decreasing_by
  have:=List.sizeOf_lt_of_mem vu;cases e;simp only[aA.mk.sizeOf_spec];show SizeOf.sizeOf x<_;simp only[aA.kids]at this;omega
mutual
def eo(t a:Int):aA->Bool
 | .mk k n kids=>((kids.length:Int)==dt k)&&(if k==3 then ee 0 (t-1) n else if k==4 then ee 0 (a-1) n else(n==0)&&((!(k==5)||po kids)&&iV t a kids))
def iV(t a:Int):List aA->Bool
 |[]=>true
 |x::xs=>eo t a x&&iV t a xs
end
theorem CB(t a:Int):∀l:List aA,iV t a l=l.all (eo t a)
 |[]=>rfl
 |x::xs=>by simp only[iV,List.all_cons];rw[CB t a xs]
theorem iw(t a:Int)(e:aA):eo t a e=(((e.kids.length:Int)==dt e.kind)&&(if e.kind==3 then ee 0 (t-1) e.num else if e.kind==4 then ee 0 (a-1) e.num else(e.num==0)&&((!(e.kind==5)||e.kids.all dq)&&e.kids.all (eo t a)))):=by
 cases e;simp only[eo,CB,sO];rfl
set_option maxHeartbeats 8000000 in
theorem FU(t a:Int)(ht:0≤t/\t≤3)(ha:0≤a/\a≤4)(e:aA)(hx:∀x∈e.kids,aS prog 201 [.a 2 [J t,J a], .c (.rp 3 (aD x))] (B (eo t a x))):aS prog 201 [.a 2 [J t,J a], .c (.rp 3 (aY e))] (B (eo t a e)):=by
 refine eh dC hm func201 rfl rfl rfl rfl (ann:=fun n=>match n with|11=>some {α:=Nat,iY:=[1,2],ov:=fun i=>[(5,I i)],φ:=fun i=>i≤e.kids.length/\(e.kids.take i).all (eo t a)=true,μ:=fun i=>e.kids.length-i}|_=>none) (gh:=fun _=>false) ?_;refine bh.mk (by kernel_rfl) ?_;refine ay.pure _ _ rfl (Kw _) rfl _ rfl ?_;refine bh.mk (by kernel_rfl) ?_;refine bM.mk (fun h1=>?_) (fun h1=>?_)
 ·refine bP.mk ?_;rw[aa]at h1;have:((e.kids.length:Int)==dt e.kind)=false:=by simpa using h1
  rw[iw,this];rfl
 rw[aa]at h1;have h1:((e.kids.length:Int)==dt e.kind)=true:=by simpa using h1
 refine bM.mk (fun h3=>?_) (fun h3=>?_)
 ·refine bh.mk (by kernel_rfl) ?_;refine Arith.fit (bu (by omega) (by omega)) ?_;refine ay.pure _ _ rfl (ed _ _ _) rfl _ rfl ?_;refine bh.mk (by kernel_rfl) ?_;refine bP.mk ?_;rw[iw,h1,h3];rfl
 refine bM.mk (fun h4=>?_) (fun h4=>?_)
 ·refine bh.mk (by kernel_rfl) ?_;refine Arith.fit (bu (by omega) (by omega)) ?_;refine ay.pure _ _ rfl (ed _ _ _) rfl _ rfl ?_;refine bh.mk (by kernel_rfl) ?_;refine bP.mk ?_;rw[iw,h1,h3,h4];rfl
 refine bM.mk (fun h0=>?_) (fun h0=>?_)
 ·refine bP.mk ?_;have:(e.num==0)=false:=by simpa using h0
  rw[iw,h1,h3,h4,this];rfl
 have h0:(e.num==0)=true:=by simpa using h0
 refine bM.mk (fun h5=>?_) (fun h5=>?_)
 ·have hk:e.kind=5:=eq_of_beq h5;have RD:(e.kids.length:Int)=1:=by
   have:=eq_of_beq h1;rw[hk]at this;exact this
  have Rl:0<e.kids.length:=by omega
  have jS:e.kids.all dq=dq e.kids[0]:=by
   match hm:e.kids,Rl,RD with
   |[x],_,_=>simp
  refine bh.mk (by omega) (Index.mk (aD e.kids[0]) (by show(e.kids.map aD)[0]? =_;rw[List.getElem?_map,List.getElem?_eq_getElem Rl];rfl) ?_);refine ay.pure _ _ rfl (jV _) rfl _ rfl ?_;refine bM.mk (fun hc=>?_) (fun hc=>?_)
  ·refine bP.mk ?_;have hc:dq e.kids[0]=false:=by simpa using hc
   rw[iw,h1,h3,h4,h0,h5,jS,hc];rfl
  have hc:dq e.kids[0]=true:=by simpa using hc
  have hC:(!(e.kind==5)||e.kids.all dq)=true:=by rw[jS,hc,h5];rfl
  refine nu.mk (0:Nat) ⟨ah _,rfl⟩ ⟨⟨rfl,rfl⟩,trivial⟩ ⟨⟨rfl,rfl⟩,⟨rfl,rfl⟩,trivial⟩ ⟨⟨rfl,rfl⟩,trivial⟩ ?_ (fun _=>rfl);intro(i:Nat) (hi:i≤e.kids.length/\(e.kids.take i).all (eo t a)=true);obtain⟨hi,zp⟩:=hi;refine Fact.mk fun hL=>?_
  refine bM.mk (fun h=>?_) (fun h=>?_)
  ·have h:=of_decide_eq_true h;rw[aa]at h hL;have lg:i<e.kids.length:=by omega
   refine bh.mk (by kernel_rfl) ?_;refine bh.mk (by omega) (Index.mk (aD e.kids[i]) (by simp[lg]) ?_);refine ay.pure _ _ rfl (hx _ (ag lg)) rfl _ rfl ?_;refine bh.mk (by kernel_rfl) ?_;refine bM.mk (fun hb=>?_) (fun hb=>?_)
   ·refine bP.mk ?_;rw[iw,h1,h3,h4,h0,hC,ui lg (by simpa using hb)];rfl
   ·simp only[maxLen]at hL;refine Arith.fit (bu (by omega) (by omega)) ?_;exact Gh.go ⟨i+1,⟨lg,mi lg zp (by simpa using hb)⟩,(by show e.kids.length-(i+1)<e.kids.length-i;omega),⟨⟨rfl,rfl⟩,trivial⟩,⟨⟨rfl,rfl⟩,⟨rfl,rfl⟩,trivial⟩,⟨⟨rfl,rfl⟩,trivial⟩⟩
  ·have h:=of_decide_eq_false h;rw[aa]at h;have:i=e.kids.length:=by omega
   subst this;refine bP.mk ?_;rw[List.take_length]at zp;rw[iw,h1,h3,h4,h0,hC,zp];rfl
 ·have hC:(!(e.kind==5)||e.kids.all dq)=true:=by rw[h5];rfl
  refine nu.mk (0:Nat) ⟨ah _,rfl⟩ ⟨⟨rfl,rfl⟩,trivial⟩ ⟨⟨rfl,rfl⟩,⟨rfl,rfl⟩,trivial⟩ ⟨⟨rfl,rfl⟩,trivial⟩ ?_ (fun _=>rfl);intro(i:Nat) (hi:i≤e.kids.length/\(e.kids.take i).all (eo t a)=true);obtain⟨hi,zp⟩:=hi;refine Fact.mk fun hL=>?_
  refine bM.mk (fun h=>?_) (fun h=>?_)
  ·have h:=of_decide_eq_true h;rw[aa]at h hL;have lg:i<e.kids.length:=by omega
   refine bh.mk (by kernel_rfl) ?_;refine bh.mk (by omega) (Index.mk (aD e.kids[i]) (by simp[lg]) ?_);refine ay.pure _ _ rfl (hx _ (ag lg)) rfl _ rfl ?_;refine bh.mk (by kernel_rfl) ?_;refine bM.mk (fun hb=>?_) (fun hb=>?_)
   ·refine bP.mk ?_;rw[iw,h1,h3,h4,h0,hC,ui lg (by simpa using hb)];rfl
   ·simp only[maxLen]at hL;refine Arith.fit (bu (by omega) (by omega)) ?_;exact Gh.go ⟨i+1,⟨lg,mi lg zp (by simpa using hb)⟩,(by show e.kids.length-(i+1)<e.kids.length-i;omega),⟨⟨rfl,rfl⟩,trivial⟩,⟨⟨rfl,rfl⟩,⟨rfl,rfl⟩,trivial⟩,⟨⟨rfl,rfl⟩,trivial⟩⟩
  ·have h:=of_decide_eq_false h;rw[aa]at h;have:i=e.kids.length:=by omega
   subst this;refine bP.mk ?_;rw[List.take_length]at zp;rw[iw,h1,h3,h4,h0,hC,zp];rfl
theorem Az(t a:Int)(ht:0≤t/\t≤3)(ha:0≤a/\a≤4)(e:aA):aS prog 201 [.a 2 [J t,J a], .c (.rp 3 (aD e))] (B (eo t a e)):=by
 rw[bK];exact FU t a ht ha e fun x vu=>Az t a ht ha x
 termination_by SizeOf.sizeOf e
 decreasing_by
  have:=List.sizeOf_lt_of_mem vu;cases e;simp only[aA.mk.sizeOf_spec];show SizeOf.sizeOf x<_;simp only[aA.kids]at this;omega
theorem bZ{α:Type}{f:α->List CV}{l:List α}{i:Nat}(h:i<l.length):(l.map f)[i]? =some (f l[i]):=by
 rw[List.getElem?_map,List.getElem?_eq_getElem h];rfl
mutual
def JM(t a:Int):aA->Int->Int->Option Int
 | .mk k n kids,nodes,depth=>
   if nodes=0\/depth=0\/dt k≠kids.length then none
   else if(if k=3 then ee 0 (t-1) n else if k=4 then ee 0 (a-1) n else n==0)&&(!(k==5)||po kids)then Fy t a kids (nodes-1) (depth-1)else none
def Fy(t a:Int):List aA->Int->Int->Option Int
 |[],nodes,_=>some nodes
 |x::xs,nodes,depth=>match JM t a x nodes depth with
  |none=>none
  |some m=>Fy t a xs m depth
end
theorem AJ(t a:Int)(e:aA)(nodes depth:Int):JM t a e nodes depth=if nodes=0\/depth=0\/dt e.kind≠e.kids.length then none
 else if(if e.kind=3 then ee 0 (t-1) e.num else if e.kind=4 then ee 0 (a-1) e.num else e.num==0)&&(!(e.kind==5)||e.kids.all dq)then Fy t a e.kids (nodes-1) (depth-1)else none:=by
 cases e;simp only[JM,sO];rfl
abbrev U2(o:Option Int):SV:= .tup [I (o.getD 0),B o.isSome]
theorem Gz(t a:Int){l:List aA}{i:Nat}{m d:Int}(h:i<l.length):Fy t a (l.drop i) m d=match JM t a l[i] m d with|none=>none|some m'=>Fy t a (l.drop (i+1)) m' d:=by
 rw[List.drop_eq_getElem_cons h];rfl
mutual
theorem BT(t a:Int):∀(e:aA) (n d r:Int),0≤n->JM t a e n d=some r->0≤r/\r≤n
 | .mk k num kids,n,d,r,hn,h=>by
   unfold JM at h;by_cases h1:n=0\/d=0\/dt k≠kids.length
   ·rw[if_pos h1]at h;cases h
   rw[if_neg h1]at h;generalize hC:((if k=3 then ee 0 (t-1) num else if k=4 then ee 0 (a-1) num else num==0)&&(!(k==5)||po kids))=C at h;cases C with
   |false=>exact absurd h (by simp)
   |true=>
    have:=Cb t a kids (n-1) (d-1) r (by omega) (by simpa using h);omega
theorem Cb(t a:Int):∀(l:List aA) (n d r:Int),0≤n->Fy t a l n d=some r->0≤r/\r≤n
 |[],n,d,r,hn,h=>by
  simp only[Fy,Option.some.injEq]at h;omega
 |x::xs,n,d,r,hn,h=>by
  simp only[Fy]at h;split at h
  ·cases h
  rename_i m hm;have h1:=BT t a x n d m hn hm;have h2:=Cb t a xs m d r h1.1 h;omega
end
set_option maxHeartbeats 8000000 in
theorem I1(t a:Int)(ht:0≤t/\t≤3)(ha:0≤a/\a≤4)(e:aA)(nodes depth:Int)(hn:0≤nodes/\nodes≤1048576)(hd:0≤depth/\depth≤1048576)
 (hx:∀x∈e.kids,∀nodes depth:Int,0≤nodes/\nodes≤1048576->0≤depth/\depth≤1048576->aS prog 205 [.a 2 [J t,J a], .a 3 (aD x),I nodes,I depth] (U2 (JM t a x nodes depth))):
 aS prog 205 [.a 2 [J t,J a], .a 3 (aY e),I nodes,I depth] (U2 (JM t a e nodes depth)):=by
 refine cF func205 (h:=?_);have k5:e.kind=5->dt e.kind=1:=by intro h;rw[h];rfl
 have jS:e.kind=5->dt e.kind=e.kids.length-> ∀h0:0<e.kids.length,e.kids.all dq=dq e.kids[0]:=by
  intro h1 h2 h0;rw[k5 h1]at h2
  match hm:e.kids,h0,h2 with
  |[x],_,_=>simp
 repeat'((conv=>whnf);first
  |(apply bP.mk;first|(rw[AJ];simp_all[U2,dj,dh];done)|(have V3:JM t a e.kids[i] m (depth-1)=none:=(by simpa using h);have hq:=Gz t a (m:=m) (d:=depth-1) (show i<e.kids.length by omega);rw[V3]at hq;rw[AJ,ha.2.2,hq];simp[U2,dj,dh];done)|(have h0:0<e.kids.length:=(by omega);have h51:e.kids.all dq=false:=(jS (by omega) (by omega) h0).trans ‹dq e.kids[0]=false›;rw[AJ,h51];simp[U2,dj,dh, *];done)|(rw[AJ,ha.2.2,List.drop_of_length_le (by omega)];simp_all[U2,Fy,dj,dh];done)|skip)|(show aZ 16 _ _ _ _ _ _;refine lp (Nat × Int) [3,4,66,67] (fun⟨i,m⟩=>[(2,I m),(68,I i)]) (fun⟨i,m⟩=>i≤e.kids.length/\(0≤m/\m≤1048576)/\Fy t a e.kids (nodes-1) (depth-1)=Fy t a (e.kids.drop i) m (depth-1)) (fun⟨i,m⟩=>e.kids.length-i) (0,nodes-1) (by exact⟨ah _,⟨by show 0≤nodes-1;omega,by show nodes-1≤1048576;omega⟩,rfl⟩) (fun A ha=>?_);obtain⟨i,m⟩:=A;have ha:i≤e.kids.length/\(0≤m/\m≤1048576)/\Fy t a e.kids (nodes-1) (depth-1)=Fy t a (e.kids.drop i) m (depth-1):=ha)
  |refine nx ((i+1,(JM t a e.kids[i] m (depth-1)).getD 0):Nat × Int) (by obtain⟨hi,hm,hs⟩:=ha;obtain⟨r,hr⟩:=Option.isSome_iff_exists.1 h;exact⟨by show i+1≤_;omega,(by have:=BT t a _ _ _ _ hm.1 hr;rw[hr];simp only[Option.getD_some];omega),(by rw[hs,Gz t a (show i<e.kids.length by omega),hr];rfl)⟩)
  |(apply Fact.mk;intro hL;try simp only[aa,maxLen]at hL)
  |((apply bX;constructor)<;>intro h<;>(try simp only[aa]at h)<;>(try first|omega|contradiction))|(show ay _ 216 _ _ _ _;refine cP rfl (NH _) ?_)|(show ay _ 45 _ _ _ _;refine cP rfl (eg _ _ _) ?_)|(show ay _ 206 _ _ _ _;refine cP rfl (nv _) ?_)|(show ay _ 205 _ _ _ _;refine cP rfl (hx _ (ag (by omega)) m (depth-1) (by omega) (by omega)) ?_)
  |refine aR ?_|(show Index _ _ _;first|(refine Index.mk _ (bZ (i:=i) (by omega)) ?_)|(refine Index.mk _ (bZ (i:=0) (by omega)) ?_)|fail)
  |refine nB ?_
  |refine nO ?_)
 have h0:0<e.kids.length:=(by omega);have h51:e.kids.all dq=true:=(jS (by omega) (by omega) h0).trans ‹dq e.kids[0]=true›;have UD:=List.drop_of_length_le (show e.kids.length≤i by omega);have c1:¬(nodes=0\/depth=0\/dt e.kind≠e.kids.length):=by omega
 have c2:¬e.kind=3:=by omega
 have c3:¬e.kind=4:=by omega
 rw[AJ,if_neg c1,if_neg c2,if_neg c3,h51,ha.2.2,UD,show(e.num==0)=true by(rw[beq_iff_eq];omega),Bool.or_true];rfl
theorem BW(t a:Int)(ht:0≤t/\t≤3)(ha:0≤a/\a≤4)(e:aA)(nodes depth:Int)(hn:0≤nodes/\nodes≤1048576)(hd:0≤depth/\depth≤1048576):aS prog 205 [.a 2 [J t,J a], .a 3 (aD e),I nodes,I depth] (U2 (JM t a e nodes depth)):=by
 rw[bK];exact I1 t a ht ha e nodes depth hn hd fun x vu nodes depth hn hd=>BW t a ht ha x nodes depth hn hd
 termination_by SizeOf.sizeOf e
 decreasing_by
  have:=List.sizeOf_lt_of_mem vu;cases e;simp only[aA.mk.sizeOf_spec];show SizeOf.sizeOf x<_;simp only[aA.kids]at this;omega
theorem LV{α:Type}{p q:Prop}[Decidable p][Decidable q](h:p↔q)(x y:α):(if p then x else y)=if q then x else y:=by
 by_cases hp:p
 ·rw[if_pos hp,if_pos (h.1 hp)]
 ·rw[if_neg hp,if_neg fun hq=>hp (h.2 hq)]
mutual
theorem Lk(t a:Int):∀(e:aA) (n d:Int),0≤n->0≤d->JM t a e n d=if 0≤cR e n/\(fx e:Int)≤d/\eo t a e=true then some (cR e n)else none
 | .mk k num kids,n,d,hn,hd=>by
   have hr:=oC (.mk k num kids) n hn;have hS:=LK t a kids (n-1) (d-1);unfold JM;rw[show cR (.mk k num kids) n=dI kids (n-1)from rfl]at hr⊢;rw[show fx (.mk k num kids)=fI kids+1 from rfl];have ht:eo t a (.mk k num kids)=(((kids.length:Int)==dt k)&&(if k==3 then ee 0 (t-1) num else if k==4 then ee 0 (a-1) num else(num==0)&&((!(k==5)||po kids)&&iV t a kids))):=rfl;rw[ht];by_cases h1:n=0\/d=0\/dt k≠kids.length
   ·rw[if_pos h1,if_neg];rintro⟨g1,g2,g3⟩;rcases h1 with h1|h1|h1
    ·omega
    ·omega
    ·simp only[ab,beq_iff_eq]at g3;exact h1 g3.1.symm
   rw[if_neg h1];have hl:((kids.length:Int)==dt k)=true:=by simp only[beq_iff_eq];omega
   have hS:=hS (by omega) (by omega);rw[hl,hS];by_cases h3:k=3
   ·have:kids=[]:=by
       have:dt k=0:=by rw[h3];rfl
       exact List.length_eq_zero_iff.1 (by omega)
    subst this h3;simp only[iV,dI,fI];cases ee 0 (t-1) num<;>simp<;>omega
   by_cases h4:k=4
   ·have:kids=[]:=by
       have:dt k=0:=by rw[h4];rfl
       exact List.length_eq_zero_iff.1 (by omega)
    subst this h4;simp only[iV,dI,fI];cases ee 0 (a-1) num<;>simp<;>omega
   simp only[if_neg h3,if_neg h4,beq_iff_eq,Bool.true_and];cases num==0<;>cases !(k==5)||po kids<;>cases iV t a kids<;>simp<;>(try omega);refine LV ?_ _ _;omega
theorem LK(t a:Int):∀(l:List aA) (n d:Int),0≤n->0≤d->Fy t a l n d=if 0≤dI l n/\(fI l:Int)≤d/\iV t a l=true then some (dI l n)else none
 |[],n,d,hn,hd=>by
  rw[if_pos ⟨hn,hd,rfl⟩];rfl
 |x::xs,n,d,hn,hd=>by
  have e1:dI (x::xs) n=dI xs (cR x n):=by simp only[dI];rw[if_neg (by omega:¬n<0)]
  have e2:fI (x::xs)=max (fx x) (fI xs):=rfl;have e3:iV t a (x::xs)=(eo t a x&&iV t a xs):=rfl;have e4:Fy t a (x::xs) n d=match JM t a x n d with|none=>none|some m=>Fy t a xs m d:=rfl
  rw[e4,Lk t a x n d hn hd];by_cases h:0≤cR x n/\(fx x:Int)≤d/\eo t a x=true
  ·rw[if_pos h];show Fy t a xs (cR x n) d=_;rw[LK t a xs (cR x n) d h.1 hd];have:=h.2.1;have key:(0≤dI xs (cR x n)/\(fI xs:Int)≤d/\iV t a xs=true)↔(0≤dI (x::xs) n/\(fI (x::xs):Int)≤d/\iV t a (x::xs)=true):=?_
   ·rw[LV key,e1]
   rw[e1,e2,e3,h.2.2,Bool.true_and];constructor
   ·rintro⟨g1,g2,g3⟩;exact⟨g1,by omega,g3⟩
   ·rintro⟨g1,g2,g3⟩;exact⟨g1,by omega,g3⟩
  ·rw[if_neg h,if_neg];rw[e1,e2,e3];rintro⟨g1,g2,g3⟩;simp only[ab]at g3;refine h ⟨?_,by omega,g3.1⟩;by_cases hneg:cR x n<0
   ·rw[pA hneg]at g1;exact g1
   ·omega
end
def bz(t a:Int)(e:aA):Bool:=decide (0≤cR e 200)&&(decide ((fx e:Int)≤40)&&eo t a e)
theorem QX(t a:Int)(e:aA):(JM t a e 200 40).isSome=bz t a e:=by
 rw[Lk t a e 200 40 (by omega) (by omega)];unfold bz;by_cases h1:0≤cR e 200<;>by_cases h2:(fx e:Int)≤40<;>cases eo t a e<;>simp[h1,h2]
theorem qm{t a:Int}(h:cE t a=true):(0≤t/\t≤3)/\(0≤a/\a≤4):=by
 simp only[cE,ee,ab,decide_eq_true_eq]at h;omega
theorem MA(t a:Int)(ht:0≤t/\t≤3)(ha:0≤a/\a≤4)(e:aA):aS prog 176 [.a 2 [J t,J a], .a 3 (aD e)] (B (bz t a e)):=by
 rw[<-QX];refine cF func176 (h:=?_)
 repeat'((conv=>whnf);first
  |(apply bP.mk;first|(rfl;done)|skip)|(show ay _ 205 _ _ _ _;refine cP rfl (BW t a ht ha e 200 40 (by omega) (by omega)) ?_))
theorem nh(t a:Int)(e:aA)(hl:aH e≤1048576):aS prog 174 [.a 2 [J t,J a], .c (.rp 3 (aD e))] (B (cE t a&&bz t a e)):=by
 refine cF func174 (h:=?_)
 repeat'((conv=>whnf);first
  |(apply bP.mk;first|(simp_all[bz,dj,dh];done)|(simp_all[bz,dj,dh];omega;done)|skip)
  |((apply bX;constructor)<;>intro h<;>(try simp only[aa]at h)<;>(try first|omega|contradiction))|(show ay _ 85 _ _ _ _;refine cP rfl (mY t a) ?_)|(show ay _ 145 _ _ _ _;refine cP rfl (tR e 200 (by omega) (by omega)) ?_)|(show ay _ 200 _ _ _ _;refine cP rfl (xU e hl) ?_)|(show ay _ 201 _ _ _ _;refine cP rfl (Az t a (qm ‹_›).1 (qm ‹_›).2 e) ?_))
theorem eQ{α:Type}{p:α->Bool}{l:List α}{i:Nat}(h:i<l.length)(hp:p l[i]=false):l.all p=false:=ui h hp
theorem eN{α:Type}{p:α->Bool}{l:List α}{i:Nat}(h:i<l.length)(ha:i≤l.length/\(l.take i).all p=true)(hp:p l[i]=true):i+1≤l.length/\(l.take (i+1)).all p=true:=⟨h,mi h ha.2 hp⟩
theorem fO{α:Type}{p:α->Bool}{l:List α}{i:Nat}(h:¬(i:Int)<(l.length:Int))(ha:i≤l.length/\(l.take i).all p=true):l.all p=true:=by
 have:=ha.2;rwa[ar (by omega)]at this
theorem lD(l:List Int)(n:Int)(hn:0≤n/\n≤1048576):aS prog 63 [.c (.ro 1 (l.map eI)),I n] (B (l.all (ee 0 (n-1)))):=by
 refine cF func63 (h:=?_)
 repeat'((conv=>whnf);first
  |(apply bP.mk;first|(rw[eQ (i:=i) (by omega) h];rfl;done)|(rw[fO (by omega) ha];rfl;done)|skip)|(show aZ 2 _ _ _ _ _ _;refine lp (Nat) [1,7,8] (fun i=>[(9,I i)]) (fun i=>i≤l.length/\(l.take i).all (ee 0 (n-1))=true) (fun i=>l.length-i) 0 (by exact⟨ah _,rfl⟩) (fun i ha=>?_))
  |refine nx (i+1:Nat) (by exact eN (by omega) ha h)
  |(apply Fact.mk;intro hL;try simp only[aa,maxLen]at hL)
  |((apply bX;constructor)<;>intro h<;>(try simp only[aa]at h)<;>(try first|omega|contradiction))|(show ay _ 45 _ _ _ _;refine cP rfl (eg _ _ _) ?_)
  |refine aR ?_|(show Index _ _ _;first|(refine Index.mk _ (bZ (i:=i) (by omega)) ?_)|fail)
  |refine nO ?_)
theorem aN{α:Type}{f:α->List CV}{l:List α}{i:Nat}{d:α}(h:i<l.length):(l.map f)[i]? =some (f (l.getD i d)):=by
 rw[List.getElem?_map,List.getElem?_eq_getElem h,List.getD_eq_getElem?_getD,List.getElem?_eq_getElem h];rfl
theorem getD_eq{α:Type}{l:List α}{i:Nat}{d:α}(h:i<l.length):l.getD i d=l[i]:=by
 rw[List.getD_eq_getElem?_getD,List.getElem?_eq_getElem h];rfl
theorem bQ{lo hi n:Int}(h:ee lo hi n=true):lo≤n/\n≤hi:=by
 simpa only[ee,ab,decide_eq_true_eq]using h
theorem eM{b:Bool}(h:b=false):dj (SV.c (.cb false))=B b:=by subst h;rfl
theorem gO{b:Bool}(h:b=true):dj (SV.c (.cb true))=B b:=by subst h;rfl
theorem tf(t a:Int)(hs:cE t a=true)(l:List aA):aS prog 148 [.a 2 [J t,J a], .c (.ro 3 (l.map aD))] (B (l.all (bz t a))):=by
 refine cF func148 (h:=?_)
 repeat'((conv=>whnf);first
  |(apply bP.mk;first|(rw[eQ (i:=i) (by omega) h];rfl;done)|(rw[fO (by omega) ha,hs];rfl;done)|skip)|(show aZ 2 _ _ _ _ _ _;refine lp (Nat) [2,7,8] (fun i=>[(9,I i)]) (fun i=>i≤l.length/\(l.take i).all (bz t a)=true) (fun i=>l.length-i) 0 (by exact⟨ah _,rfl⟩) (fun i ha=>?_))
  |refine nx (i+1:Nat) (by exact eN (by omega) ha h)
  |(apply Fact.mk;intro hL;try simp only[aa,maxLen]at hL)
  |((apply bX;constructor)<;>intro h<;>(try simp only[aa]at h)<;>(try first|omega|contradiction))|(show ay _ 176 _ _ _ _;refine cP rfl (MA t a (qm hs).1 (qm hs).2 _) ?_)|(show ay _ 44 _ _ _ _;refine cP rfl (rC t a) ?_)
  |refine aR ?_|(show Index _ _ _;first|(refine Index.mk _ (bZ (i:=i) (by omega)) ?_)|fail)
  |refine nO ?_)
theorem wv(l:List aA):aS prog 177 [.c (.ro 3 (l.map aD))] (B (l.all dq)):=by
 refine cF func177 (h:=?_)
 repeat'((conv=>whnf);first
  |(apply bP.mk;first|(rw[eQ (i:=i) (by omega) h];rfl;done)|(rw[fO (by omega) ha];rfl;done)|skip)|(show aZ 2 _ _ _ _ _ _;refine lp (Nat) [5,6] (fun i=>[(7,I i)]) (fun i=>i≤l.length/\(l.take i).all dq=true) (fun i=>l.length-i) 0 (by exact⟨ah _,rfl⟩) (fun i ha=>?_))
  |refine nx (i+1:Nat) (by exact eN (by omega) ha h)
  |(apply Fact.mk;intro hL;try simp only[aa,maxLen]at hL)
  |((apply bX;constructor)<;>intro h<;>(try simp only[aa]at h)<;>(try first|omega|contradiction))|(show ay _ 206 _ _ _ _;refine cP rfl (nv _) ?_)
  |refine aR ?_|(show Index _ _ _;first|(refine Index.mk _ (bZ (i:=i) (by omega)) ?_)|fail)
  |refine nO ?_)
theorem Hf(t a:Int)(hs:cE t a=true)(l:List aA)(hl:fU aH l≤1048576):aS prog 203 [.a 2 [J t,J a], .c (.ro 3 (l.map aD))] (B (l.all (bz t a))):=by
 have hb:∀i (h:i<l.length),aH l[i]≤1048576:=fun i h=>Nat.le_trans (di aH (ag h)) hl
 refine cF func203 (h:=?_)
 repeat'((conv=>whnf);first
  |(apply bP.mk;first|(rw[hs,Bool.true_and]at h;rw[eQ (i:=i) (by omega) h];rfl;done)|(rw[fO (by omega) ha];rfl;done)|skip)|(show aZ 2 _ _ _ _ _ _;refine lp (Nat) [1,2] (fun i=>[(5,I i)]) (fun i=>i≤l.length/\(l.take i).all (bz t a)=true) (fun i=>l.length-i) 0 (by exact⟨ah _,rfl⟩) (fun i ha=>?_))
  |refine nx (i+1:Nat) (by(rw[hs,Bool.true_and]at h;exact eN (by omega) ha h))
  |(apply Fact.mk;intro hL;try simp only[aa,maxLen]at hL)
  |((apply bX;constructor)<;>intro h<;>(try simp only[aa]at h)<;>(try first|omega|contradiction))|(show ay _ 174 _ _ _ _;refine cP rfl (nh t a _ (hb i (by omega))) ?_)
  |refine aR ?_|(show Index _ _ _;first|(refine Index.mk _ (bZ (i:=i) (by omega)) ?_)|fail)
  |refine nB ?_
  |refine nO ?_)
theorem w8(l:List aA):aS prog 204 [.c (.ro 3 (l.map aD))] (B (l.all dq)):=by
 refine cF func204 (h:=?_)
 repeat'((conv=>whnf);first
  |(apply bP.mk;first|(rw[eQ (i:=i) (by omega) h];rfl;done)|(rw[fO (by omega) ha];rfl;done)|skip)|(show aZ 2 _ _ _ _ _ _;refine lp (Nat) [0] (fun i=>[(3,I i)]) (fun i=>i≤l.length/\(l.take i).all dq=true) (fun i=>l.length-i) 0 (by exact⟨ah _,rfl⟩) (fun i ha=>?_))
  |refine nx (i+1:Nat) (by exact eN (by omega) ha h)
  |(apply Fact.mk;intro hL;try simp only[aa,maxLen]at hL)
  |((apply bX;constructor)<;>intro h<;>(try simp only[aa]at h)<;>(try first|omega|contradiction))|(show ay _ 214 _ _ _ _;refine cP rfl (jV _) ?_)
  |refine aR ?_|(show Index _ _ _;first|(refine Index.mk _ (bZ (i:=i) (by omega)) ?_)|fail)
  |refine nO ?_)
end Go.Proofs.YtgbggaddpbghfaaGreat
