/- Part of a proof engine for functions of the given program: what an operation, a loop and a call compute, symbolically. No conditions. -/
import Derived.Test.YtgbggaddpbghfaaGreatEngV
import Derived.ProofKit
namespace Go.KA
open Go Go.RowKit
section
variable{H:Type}{enc:TypeId × Value->H}{P:Program}
theorem Df(hl:laidOutB P=true){W W':World}(hb:Below W.heap.size W W'){sp:Nat->Bool}:∀(ts:List TypeId) (vs:List Value) (ds:List (DataW H)) (ps:List MemPlace),(∀t∈ts,P.readableRec t=true/\t<P.types.size)->
 DataW.TrodAll enc P W 0 (fun _=>true) true ts vs ds ps->(∀x∈ps,x.block<W.heap.size)->(∀x∈ps,sp x.block=true)->DataW.TrodAll enc P W' 0 sp true ts vs ds ps
 |[],[],[],ps,_,h,_,_=>h
 |t::ts,v::vs,d::ds,ps,ht,h,eu,Qf=>by
  obtain⟨p,q,h1,h2,rfl⟩:=h;refine⟨p,q,?_,?_,rfl⟩
  ·exact WideElems.Trod_stays hl (ht t (by simp)).1 (ht t (by simp)).2 h1 (fun x hx=>hb.same (eu x (by simp[hx]))) (fun x hx=>Qf x (by simp[hx]))
  ·exact Df hl hb ts vs ds q (fun t' Yc=>ht t' (by simp[Yc])) h2 (fun x hx=>eu x (by simp[hx])) (fun x hx=>Qf x (by simp[hx]))
 |[],_::_,_,_,_,h,_,_=>by simp[DataW.TrodAll]at h
 |[],[],_::_,_,_,h,_,_=>by simp[DataW.TrodAll]at h
 |_::_,[],_,_,_,h,_,_=>by simp[DataW.TrodAll]at h
 |_::_,_::_,[],_,_,h,_,_=>by simp[DataW.TrodAll]at h
theorem Q0(hl:laidOutB P=true){f:Func}{s:ChangeSpec}{tb:TypeId}(Ok:s.vars=[])(Vd:f.resultTypes= #[tb])(dC:P.underlying tb=some .bool)
 (hts:∀t∈f.params.toList,P.readableRec t=true/\t<P.types.size){W W':World}{args:Array Value}{ds gs:List (DataW H)}{before:List MemPlace}
 (hW:DataW.Whole enc P f.params.toList s.vars false W args.toList ds gs before)(X4:s.fn H (ds++gs)={results:=[.lit (.bool true)],args:=ds})(hb:Below W.heap.size W W'){again:Bool}:
 s.post enc P f false true false again W args (.bool true) W':=by
 have eu:=hW.lt;have Yx:∀(b:Nat) (sp:Nat->Bool) (hd:Bool),DataW.TrodAll enc P W' b sp hd [tb] [.bool true] [.lit (.bool true)] []:=fun b sp hd=>
  ⟨[],[],⟨1,by simp[DataW.trod,dC,Value.cells]⟩,rfl,rfl⟩
 obtain⟨p,q,hA,hV,Xm,hz,_⟩:=id hW;rw[Ok]at hV;cases gs with
 |cons g gs=>simp[DataW.TrodVars]at hV
 |nil=>
  have hq:q=[]:=by simpa[DataW.TrodVars]using hV
  subst hq;rw[List.append_nil]at Xm;subst Xm;have o7:∀sp:Nat->Bool,(∀x∈before,sp x.block=true)->DataW.TrodAll enc P W' 0 sp true f.params.toList args.toList ds before:=fun sp Qf=>Df hl hb _ _ _ _ hts hA eu Qf
  refine⟨ds,[],before,[],before,[],hW,?_,?_,?_,?_,fun _=>⟨?_, .lit (.bool true)::ds,[],before,⟨before,[],?_,?_,by simp,?_,by simp⟩,fun x hx _=>hx⟩⟩
  ·rw[X4,Vd];exact Yx _ _ _
  ·rw[X4];exact o7 _ fun x hx=>by simpa using eu x hx
  ·rw[X4,Ok];rfl
  ·exact World.keptBut_mono (fun x hx=>⟨hx, .inr (.inl hx)⟩) (hb.frame (· ∈before))
  ·exact RowKit.ok_one Vd rfl (RowKit.okWide_bool_mk dC _)
  ·rw[Vd];obtain⟨x,hx⟩:∃x,x=before:=⟨_,rfl⟩
   exact⟨[],before,(⟨1,by simp[DataW.trod,dC,Value.cells]⟩:DataW.Trod enc P W' 0 (fun _=>true) true tb (.bool true) (.lit (.bool true)) []),o7 _ fun _ _=>rfl,rfl⟩
  ·rw[Ok];rfl
  ·intro b off hp;rw[hb.frozen (eu _ hp)];exact hz b off hp
theorem NF{n:Nat}{args:List SV}{vs:List Value}{W:World}(h:aS P n args (.c (.val (.bool true))))(hl:args.length=vs.length)
 (hv:∀(j:Nat) s v,args[j]? =some s->vs[j]? =some v-> ∀ρ,eK ρ W (tg W) s v):Calls P n vs.toArray W fun e W'=>e= .returned (.bool true)/\Below W.heap.size W W':=by
 have key:∀(args:List SV) (vs:List Value),args.length=vs.length->(∀(j:Nat) s v,args[j]? =some s->vs[j]? =some v-> ∀ρ,eK ρ W (tg W) s v)->AL W (tg W) args vs []:=by
  intro args
  induction args with
  |nil=>intro vs hl _;cases vs with|nil=>exact .nil|cons _ _=>simp at hl
  |cons s ss ih=>
   intro vs hl hv;cases vs with
   |nil=>simp at hl
   |cons v vs=>
    have:=AL.cons (.v (hv 0 s v rfl rfl)) (ih vs (by simpa using hl) fun j s v hs gZ=>hv (j+1) s v hs gZ);simpa using this
 refine(h.2 W (tg W) vs [] (fun b hb=>hb) (key args vs hl hv) (by simp) (by simp)).mono ?_;rintro e W' ⟨v,fr,fo,rfl,hg,_,_,hr,_⟩;have hv:v= .bool true:=by
  cases hr with
  |v h=>cases h with
   |v h=>exact fD (b9.jM (.v (h fun _=>none)))
   |o h=>cases h with|val _ _=>rfl
 subst hv;exact⟨rfl,hg.os,hg.tape,hg.output,hg.size,fun k hk=>hg.block k hk (by simp)⟩
theorem xV{W:World}{r:Reach}{b t e:Nat}{v:Value}(ht:P.underlying t=some (.slice e))(h:Value.okWide P W r b t v):∀cs,v≠ .agg cs:=by
 rintro cs rfl;simp[Value.okWide,ht,Cell.okWide,Cell.ok]at h
end
end Go.KA
