/- Part of a proof engine for functions of the given program: what an operation, a loop and a call compute, symbolically. No conditions. -/
import Derived.Test.YtgbggaddpbghfaaGreatEngT
import Derived.ChangeArms
namespace Go.KA
open Go
mutual
def BE{H:Type}:DataW H->Nat
 | .lit (.string b)=>b.length+1
 | .slice e _=>qi e+1
 | .agg p=>qi p+1
 |_=>1
def qi{H:Type}:List (DataW H)->Nat
 |[]=>0
 |d::r=>BE d+qi r
end
abbrev tg(w:World):Nat->Prop:=fun b=>b<w.heap.size
def Reads(P:Program)(t sz:Nat){α:Type}(enc:α->List CV)(μ:α->Nat)(G:α->Prop)(n:Nat):Prop:=
 ∀(H:Type) (eH:TypeId × Value->H) (w:World) (base:Nat) (sp:Nat->Bool) (held:Bool) (cs:List Value) (x:DataW H × List MemPlace),DataW.trod eH P w base sp held n t cs=some x->
  ∃v:α,cs.length=sz/\Den w (tg w) (enc v) cs []/\μ v≤BE x.1/\G v
def xl(P:Program)(fs:List Field)(o sz:Nat){α:Type}(enc:α->List CV)(μ:α->Nat)(G:α->Prop)(n:Nat):Prop:=
 ∀(H:Type) (eH:TypeId × Value->H) (w:World) (base:Nat) (sp:Nat->Bool) (held:Bool) (cs:List Value) (xs:List (DataW H × List MemPlace)),cs.length=o+sz->xs.length=fs.length->
  (∀(i:Nat) (f:Field),fs[i]? =some f->DataW.trod eH P w base sp held n f.type ((cs.drop f.offset).take (P.cellsOf f.type))=xs[i]?)->
  ∃v:α,Den w (tg w) (enc v) (cs.drop o) []/\μ v≤qi (xs.map (·.1))/\G v
section
variable{P:Program}{t sz n:Nat}{α β:Type}{enc:α->List CV}{R6:β->List CV}{μ:α->Nat}{μb:β->Nat}{G:α->Prop}{Gb:β->Prop}
theorem Reads.zero:Reads P t sz enc μ G 0:=fun H eH w base sp held cs x h=>by simp[DataW.trod]at h
theorem Reads.map(h:Reads P t sz enc μ G n)(f:α->β)(he:∀a,R6 (f a)=enc a)(hm:∀a,μb (f a)≤μ a)(hg:∀a,G a->Gb (f a)):Reads P t sz R6 μb Gb n:=by
 intro H eH w base sp held cs x hx;obtain⟨v,h1,h2,h3,h4⟩:=h H eH w base sp held cs x hx;exact⟨f v,h1,by rw[he];exact h2,Nat.le_trans (hm v) h3,hg v h4⟩
theorem Reads.int{k:IntKind}(ht:P.underlying t=some (.int k)):Reads P t 1 (fun z:Int=>[.val (.int k z)]) (fun _=>1) (fun z=>k.min≤z/\z≤k.max) n:=by
 intro H eH w base sp held cs x hx;obtain⟨z,rfl,rfl,hw⟩:=DataW.trod_int ht hx;exact⟨z,rfl, .val rfl .nil,by simp[BE],by simpa[Lit.wf]using hw⟩
theorem Reads.bool(ht:P.underlying t=some .bool):Reads P t 1 (fun b=>[.val (.bool b)]) (fun _=>1) (fun _=>True) n:=by
 intro H eH w base sp held cs x hx;obtain⟨b,rfl,rfl⟩:=DataW.trod_bool ht hx;exact⟨b,rfl, .val rfl .nil,by simp[BE],trivial⟩
theorem xK{γ:Type}{Q:Nat->γ->Prop}:∀(n:Nat),(∀i,i<n-> ∃v,Q i v)-> ∃l:List γ,l.length=n/\ ∀(i:Nat) v,l[i]? =some v->Q i v
 |0,_=>⟨[],rfl,by simp⟩
 |n+1,h=>by
  obtain⟨l,h1,h2⟩:=xK n fun i hi=>h i (by omega)
  obtain⟨v,hv⟩:=h n (by omega);refine⟨l++[v],by simp[h1],fun i u hu=>?_⟩;by_cases hi:i<l.length
  ·rw[List.getElem?_append_left hi]at hu;exact h2 i u hu
  ·rw[List.getElem?_append_right (by omega)]at hu;have:i=n:=by
    have:=(List.getElem?_eq_some_iff.1 hu).1;simp at this;omega
   subst this;rw[h1]at hu;simp at hu;subst hu;exact hv
theorem wF{w:World}{base:Nat}{a:Addr}{n:Nat}{cs:List Value}(h:w.cells? base a n=some cs):cs.length=n/\ ∀(i:Nat) v,cs[i]? =some v->w.cell? (a.add i)=some v:=by
 unfold World.cells? at h;split at h
 ·have key:∀(l:List Nat) (cs:List Value),l.mapM (fun i=>w.cell? (a.add i))=some cs->cs.length=l.length/\ ∀(i:Nat) v,cs[i]? =some v-> ∃j,l[i]? =some j/\w.cell? (a.add j)=some v:=by
   intro l
   induction l with
   |nil=>intro cs h;simp at h;subst h;exact⟨rfl,by simp⟩
   |cons x xs ih=>
    intro cs h;rw[List.mapM_cons]at h;cases hx:w.cell? (a.add x)with
    |none=>rw[hx]at h;simp at h
    |some v=>
     rw[hx]at h;cases qC:xs.mapM (fun i=>w.cell? (a.add i))with
     |none=>rw[qC]at h;simp at h
     |some vs=>
      rw[qC]at h;simp at h;subst h;obtain⟨h1,h2⟩:=ih vs qC;refine⟨by simp[h1],fun i u hu=>?_⟩;cases i with
      |zero=>simp at hu;subst hu;exact⟨x,rfl,hx⟩
      |succ i=>exact h2 i u (by simpa using hu)
  obtain⟨h1,h2⟩:=key _ _ h;refine⟨by simpa using h1,fun i v hv=>?_⟩;obtain⟨j,hj,hc⟩:=h2 i v hv;rw[List.getElem?_range (by have:=(List.getElem?_eq_some_iff.1 hj).1;simpa using this)]at hj;injection hj with hj
  subst hj;exact hc
 ·cases h
theorem O9(a:Addr)(m k:Nat):(a.add m).add k=a.add (m+k):=by
 unfold Addr.add;by_cases h1:m=0
 ·subst h1;simp
 ·by_cases h2:k=0
  ·subst h2;simp[h1]
  ·simp[h1,h2];omega
theorem CI{w:World}{a:Addr}{v:Value}(h:w.cell? a=some v):a.spot=none/\a.block<w.heap.size:=by
 unfold World.cell? at h;split at h
 ·rename_i hb;split at h
  ·cases h
  ·rename_i hs;refine⟨?_,(Array.getElem?_eq_some_iff.1 hb).1⟩;cases hc:a.spot with
   |none=>rfl
   |some _=>rw[hc]at hs;simp at hs
 ·cases h
def MQ:List Nat->Nat
 |[]=>0
 |x::xs=>x+MQ xs
theorem Reads.slice{e:Nat}(ht:P.underlying t=some (.slice e))(gC:P.cellsOf e=sz)(qa:0<sz)(hlen:∀a,(enc a).length=sz)(h:Reads P e sz enc μ G n):
 Reads P t 1 (fun l:List α=>[.ro sz (l.map enc)]) (fun l=>MQ (l.map μ)+1) (fun l=>∀x∈l,G x) (n+1):=by
 intro H eH w base sp held cs x hx;rcases DataW.trod_slice ht hx with⟨rfl,rfl⟩|⟨a,len,cap,elems,rest,m,hm,rfl,rfl,hb,hl,hc,mT,kx,_,_⟩
 ·exact⟨[],rfl, .ro (xs:=[]) rfl (aw _) (by simp[maxLen]) (by simp) .nil (fun j v hj=>by simp at hj) .nil,by simp[MQ,BE],by simp⟩
 ·have WK:m=n:=by omega
  subst WK;have jS:∀i,i<len-> ∃p:α × List Value × (DataW H × List MemPlace),elems[i]? =some p.2.2/\w.cells? base (a.add (i*sz)) sz=some p.2.1/\Den w (tg w) (enc p.1) p.2.1 []/\μ p.1≤BE p.2.2.1/\G p.1:=by
   intro i hi;have lg:i<elems.length:=by omega
   have:=kx i hi;rw[gC,List.getElem?_eq_getElem lg]at this;cases BC:w.cells? base (a.add (i*sz)) sz with
   |none=>rw[BC]at this;cases this
   |some cl=>
    rw[BC]at this;obtain⟨v,_,h2,h3,h4⟩:=h H eH w base sp held cl elems[i] this;exact⟨(v,cl,elems[i]),List.getElem?_eq_getElem lg,rfl,h2,h3,h4⟩
  obtain⟨l,Xk,Nz⟩:=xK len jS;have oT:∀r∈l.map (fun p=>enc p.1),r.length=sz:=by
   intro r hr;obtain⟨p,_,rfl⟩:=List.mem_map.1 hr;exact hlen _
  have wY:∀r∈l.map (fun p=>p.2.1),r.length=sz:=by
   intro r hr;obtain⟨p,hp,rfl⟩:=List.mem_map.1 hr;obtain⟨i,hi⟩:=List.getElem?_of_mem hp;exact(wF (Nz i p hi).2.1).1
  have qW:∀l:List (α × List Value × (DataW H × List MemPlace)),(∀p∈l,Den w (tg w) (enc p.1) p.2.1 [])->Den w (tg w) (l.map (fun p=>enc p.1)).flatten (l.map (fun p=>p.2.1)).flatten []:=by
   intro l
   induction l with
   |nil=>intro _;exact .nil
   |cons p ps ih=>
    intro hp;simp only[List.map_cons,List.flatten_cons];exact(hp p (by simp)).append (ih fun q hq=>hp q (by simp[hq]))
  have XQ:∀(l:List (α × List Value × (DataW H × List MemPlace))) (es:List (DataW H × List MemPlace)),l.length=es.length->(∀(i:Nat) p,l[i]? =some p->es[i]? =some p.2.2/\μ p.1≤BE p.2.2.1)->MQ ((l.map (·.1)).map μ)≤qi (es.map (·.1)):=by
   intro l
   induction l with
   |nil=>intro es _ _;simp[MQ]
   |cons p ps ih=>
    intro es hlen hp;cases es with
    |nil=>simp at hlen
    |cons e es=>
     obtain⟨g1,g2⟩:=hp 0 p rfl;simp at g1;subst g1;have:=ih es (by simpa using hlen) fun i q hq=>by
      have:=hp (i+1) q (by simpa using hq);simpa using this
     simp only[List.map_cons,MQ,qi];omega
  refine⟨l.map (·.1),rfl,?_,?_,?_⟩
  ·refine .ro (xs:=(l.map (fun p=>p.2.1)).flatten) (by simp[Xk]) hl hc ?_ ?_ ?_ .nil
   ·rw[List.map_map];exact oT
   ·have:=qW l fun p hp=>by
     obtain⟨i,hi⟩:=List.getElem?_of_mem hp;exact(Nz i p hi).2.2.1
    rw[List.map_map];exact this
   ·intro j v hj;have S6:j<(l.map (fun p=>p.2.1)).flatten.length:=(List.getElem?_eq_some_iff.1 hj).1;rw[fE wY,aa,Xk]at S6;have hq:j/sz<len:=(Nat.div_lt_iff_lt_mul qa).2 S6;have hm:j % sz<sz:=Nat.mod_lt _ qa;have ZZ:j/sz*sz+j % sz=j:=by rw[Nat.mul_comm];exact Nat.div_add_mod j sz
    obtain⟨pj,hp⟩:∃p,l[j/sz]? =some p:=⟨_,List.getElem?_eq_getElem (by rw[Xk];exact hq)⟩
    have yF:=(Nz _ _ hp).2.1;obtain⟨g1,g2⟩:=wF yF;have hr:=fZ wY (idx:=j/sz) (r:=pj.2.1) (by simp[hp]);have hv:pj.2.1[j % sz]? =some v:=by
     rw[<-hr,List.getElem?_take,if_pos hm,List.getElem?_drop,ZZ];exact hj
    have kR:=g2 _ _ hv;rw[O9,ZZ]at kR;have h0:a.spot=none:=by
     obtain⟨p0,MT⟩:∃p,l[0]? =some p:=⟨_,List.getElem?_eq_getElem (by rw[Xk];exact Nat.lt_of_le_of_lt (ah _) hq)⟩
     obtain⟨k1,k2⟩:=wF (Nz _ _ MT).2.1;have:=k2 0 _ (List.getElem?_eq_getElem (by rw[k1];exact qa));simp only[Nat.zero_mul,Addr.add,if_true]at this;exact(CI this).1
    have TA:(a.add j).block=a.block:=by unfold Addr.add;split<;>rfl
    refine⟨a,rfl,h0,?_,kR⟩;have:=(CI kR).2;rw[TA]at this;exact this
  ·have:=XQ l elems (by omega) fun i p hp=>⟨(Nz i p hp).1,(Nz i p hp).2.2.2.1⟩
   simp only[BE];omega
  ·intro x hx;obtain⟨p,hp,rfl⟩:=List.mem_map.1 hx;obtain⟨i,hi⟩:=List.getElem?_of_mem hp;exact(Nz i p hi).2.2.2.2
theorem xl.nil{o:Nat}:xl P [] o 0 (fun _:Unit=>[]) (fun _=>0) (fun _=>True) n:=by
 intro H eH w base sp held cs xs hl hx _;refine⟨(),?_,by simp,trivial⟩;rw[List.drop_of_length_le (by omega)];exact .nil
theorem xl.cons{f:Field}{fs:List Field}{o fN:Nat}(ho:f.offset=o)(gC:P.cellsOf f.type=sz)(h:Reads P f.type sz enc μ G n)(hs:xl P fs (o+sz) fN R6 μb Gb n):
 xl P (f::fs) o (sz+fN) (fun p:α × β=>enc p.1++R6 p.2) (fun p=>μ p.1+μb p.2) (fun p=>G p.1/\Gb p.2) n:=by
 intro H eH w base sp held cs xs hl hx hg;cases xs with
 |nil=>simp at hx
 |cons x xs=>
  have h0:=hg 0 f rfl;rw[ho,gC]at h0;obtain⟨v,h1,h2,h3,h4⟩:=h H eH w base sp held _ x (by simpa using h0);obtain⟨u,g1,g2,g3⟩:=hs H eH w base sp held cs xs (by omega) (by simpa using hx) fun i q hq=>by
   have:=hg (i+1) q (by simpa using hq);simpa using this
  refine⟨(v,u),?_,?_,h4,g3⟩
  ·have e:cs.drop o=(cs.drop o).take sz++cs.drop (o+sz):=by
        rw[<-List.drop_drop,List.take_append_drop]
   rw[e];exact h2.append g1
  ·simp only[List.map_cons,qi];omega
theorem Reads.struct{fs:Array Field}(ht:P.underlying t=some (.struct fs))(gC:P.cellsOf t=sz)(h:xl P fs.toList 0 sz enc μ G n):Reads P t sz enc (fun v=>μ v+1) G (n+1):=by
 intro H eH w base sp held cs x hx;obtain⟨xs,m,hm,rfl,hl,WM,hg⟩:=DataW.trod_struct ht hx;have WK:m=n:=by omega
 subst WK;obtain⟨v,h1,h2,h3⟩:=h H eH w base sp held cs xs (by omega) (by simpa using WM) fun i f hf=>hg i f (by simpa using hf)
 refine⟨v,by omega,by simpa using h1,by simp only[BE];omega,h3⟩
end
theorem Reads.arg{P:Program}{t sz:Nat}{α:Type}{enc:α->List CV}{μ:α->Nat}{G:α->Prop}{H:Type}{eH:TypeId × Value->H}{w:World}{sp:Nat->Bool}{held:Bool}{v:Value}{d:DataW H}{ps:List MemPlace}
 (h:∀n,Reads P t sz enc μ G n)(hd:DataW.Trod eH P w 0 sp held t v d ps):∃x:α,v.cells.toList.length=sz/\Den w (tg w) (enc x) v.cells.toList []/\μ x≤BE d/\G x:=by
 obtain⟨fuel,hf⟩:=hd;exact h fuel H eH w 0 sp held _ _ hf
theorem Yl{w:World}{ok:Nat->Prop}{x:CV}{v:Value}(hv:∀cs,v≠ .agg cs)(h:Den w ok [x] v.cells.toList []):∀ρ,eK ρ w ok (.c x) v:=by
 intro ρ;have:v.cells= #[v]:=by cases v<;>first|rfl|exact absurd rfl (hv _)
 rw[this]at h;exact .c (.c h)
end Go.KA
