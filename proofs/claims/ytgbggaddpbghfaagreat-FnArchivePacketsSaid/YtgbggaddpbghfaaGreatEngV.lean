/- Part of a proof engine for functions of the given program: what an operation, a loop and a call compute, symbolically. No conditions. -/
import Derived.Test.YtgbggaddpbghfaaGreatEngT
import Derived.ChangeArms
namespace Go.KA
open Go
mutual
def yh{H:Type}:DataW H→Nat
 | .lit (.string b)=>b.length+1
 | .slice e _=>nG e+1
 | .agg p=>nG p+1
 |_=>1
def nG{H:Type}:List (DataW H)→Nat
 |[]=>0
 |d::r=>yh d+nG r
end
abbrev qI(w:World):Nat→Prop:=fun b=>b<w.heap.size
def Reads(P:Program)(t sz:Nat){α:Type}(enc:α→List CV)(μ:α→Nat)(G:α→Prop)(n:Nat):Prop:=
 ∀(H:Type) (eH:TypeId × Value→H) (w:World) (base:Nat) (sp:Nat→Bool) (held:Bool) (cs:List Value) (x:DataW H × List MemPlace),DataW.trod eH P w base sp held n t cs=some x→
  ∃v:α,cs.length=sz∧Den w (qI w) (enc v) cs []∧μ v≤yh x.1∧G v
def tP(P:Program)(fs:List Field)(o sz:Nat){α:Type}(enc:α→List CV)(μ:α→Nat)(G:α→Prop)(n:Nat):Prop:=
 ∀(H:Type) (eH:TypeId × Value→H) (w:World) (base:Nat) (sp:Nat→Bool) (held:Bool) (cs:List Value) (xs:List (DataW H × List MemPlace)),cs.length=o+sz→xs.length=fs.length→
  (∀(i:Nat) (f:Field),fs[i]? =some f→DataW.trod eH P w base sp held n f.type ((cs.drop f.offset).take (P.cellsOf f.type))=xs[i]?)→
  ∃v:α,Den w (qI w) (enc v) (cs.drop o) []∧μ v≤nG (xs.map (·.1))∧G v
section
variable{P:Program}{t sz n:Nat}{α β:Type}{enc:α→List CV}{encb:β→List CV}{μ:α→Nat}{μb:β→Nat}{G:α→Prop}{Gb:β→Prop}
theorem Reads.zero:Reads P t sz enc μ G 0:=fun H eH w base sp held cs x h=>by simp[DataW.trod] at h
theorem Reads.map(h:Reads P t sz enc μ G n)(f:α→β)(he:∀a,encb (f a)=enc a)(hm:∀a,μb (f a)≤μ a)(hg:∀a,G a→Gb (f a)):Reads P t sz encb μb Gb n:=by
 intro H eH w base sp held cs x hx
 obtain⟨v,h1,h2,h3,h4⟩:=h H eH w base sp held cs x hx
 exact⟨f v,h1,by rw[he];exact h2,Nat.le_trans (hm v) h3,hg v h4⟩
theorem Reads.int{k:IntKind}(ht:P.underlying t=some (.int k)):Reads P t 1 (fun z:Int=>[.val (.int k z)]) (fun _=>1) (fun z=>k.min≤z∧z≤k.max) n:=by
 intro H eH w base sp held cs x hx
 obtain⟨z,rfl,rfl,hw⟩:=DataW.trod_int ht hx
 exact⟨z,rfl, .val rfl .nil,by simp[yh],by simpa[Lit.wf] using hw⟩
theorem Reads.bool(ht:P.underlying t=some .bool):Reads P t 1 (fun b=>[.val (.bool b)]) (fun _=>1) (fun _=>True) n:=by
 intro H eH w base sp held cs x hx
 obtain⟨b,rfl,rfl⟩:=DataW.trod_bool ht hx
 exact⟨b,rfl, .val rfl .nil,by simp[yh],trivial⟩
theorem uG{γ:Type}{Q:Nat→γ→Prop}:∀(n:Nat),(∀i,i<n→∃v,Q i v)→∃l:List γ,l.length=n∧∀(i:Nat) v,l[i]? =some v→Q i v
 |0,_=>⟨[],rfl,by simp⟩
 |n+1,h=>by
  obtain⟨l,h1,h2⟩:=uG n fun i hi=>h i (by omega)
  obtain⟨v,hv⟩:=h n (by omega)
  refine⟨l++[v],by simp[h1],fun i u hu=> ?_⟩
  by_cases hi:i<l.length
  ·rw[List.getElem?_append_left hi] at hu
   exact h2 i u hu
  ·rw[List.getElem?_append_right (by omega)] at hu
   have:i=n:=by
    have:=(List.getElem?_eq_some_iff.1 hu).1
    simp at this
    omega
   subst this
   rw[h1] at hu
   simp at hu
   subst hu
   exact hv
theorem tH{w:World}{base:Nat}{a:Addr}{n:Nat}{cs:List Value}(h:w.cells? base a n=some cs):cs.length=n∧∀(i:Nat) v,cs[i]? =some v→w.cell? (a.add i)=some v:=by
 unfold World.cells? at h
 split at h
 ·have key:∀(l:List Nat) (cs:List Value),l.mapM (fun i=>w.cell? (a.add i))=some cs→cs.length=l.length∧∀(i:Nat) v,cs[i]? =some v→∃j,l[i]? =some j∧w.cell? (a.add j)=some v:=by
   intro l
   induction l with
   |nil=>intro cs h;simp at h;subst h;exact⟨rfl,by simp⟩
   |cons x xs ih=>
    intro cs h
    rw[List.mapM_cons] at h
    cases hx:w.cell? (a.add x) with
    |none=>rw[hx] at h;simp at h
    |some v=>
     rw[hx] at h
     cases hxs:xs.mapM (fun i=>w.cell? (a.add i)) with
     |none=>rw[hxs] at h;simp at h
     |some vs=>
      rw[hxs] at h
      simp at h
      subst h
      obtain⟨h1,h2⟩:=ih vs hxs
      refine⟨by simp[h1],fun i u hu=> ?_⟩
      cases i with
      |zero=>simp at hu;subst hu;exact⟨x,rfl,hx⟩
      |succ i=>exact h2 i u (by simpa using hu)
  obtain⟨h1,h2⟩:=key _ _ h
  refine⟨by simpa using h1,fun i v hv=> ?_⟩
  obtain⟨j,hj,hc⟩:=h2 i v hv
  rw[List.getElem?_range (by have:=(List.getElem?_eq_some_iff.1 hj).1;simpa using this)] at hj
  injection hj with hj
  subst hj
  exact hc
 ·cases h
theorem LU(a:Addr)(m k:Nat):(a.add m).add k=a.add (m+k):=by
 unfold Addr.add
 by_cases h1:m=0
 ·subst h1;simp
 ·by_cases h2:k=0
  ·subst h2;simp[h1]
  ·simp[h1,h2];omega
theorem yC{w:World}{a:Addr}{v:Value}(h:w.cell? a=some v):a.spot=none∧a.block<w.heap.size:=by
 unfold World.cell? at h
 split at h
 ·rename_i hb
  split at h
  ·cases h
  ·rename_i hs
   refine⟨?_,(Array.getElem?_eq_some_iff.1 hb).1⟩
   cases hc:a.spot with
   |none=>rfl
   |some _=>rw[hc] at hs;simp at hs
 ·cases h
def IG:List Nat→Nat
 |[]=>0
 |x::xs=>x+IG xs
theorem Reads.slice{e:Nat}(ht:P.underlying t=some (.slice e))(hsz:P.cellsOf e=sz)(hpos:0<sz)(hlen:∀a,(enc a).length=sz)(h:Reads P e sz enc μ G n):
 Reads P t 1 (fun l:List α=>[.ro sz (l.map enc)]) (fun l=>IG (l.map μ)+1) (fun l=>∀x∈l,G x) (n+1):=by
 intro H eH w base sp held cs x hx
 rcases DataW.trod_slice ht hx with⟨rfl,rfl⟩|⟨a,len,cap,elems,rest,m,hm,rfl,rfl,hb,hl,hc,hel,hget,_,_⟩
 ·exact⟨[],rfl, .ro (xs:=[]) rfl (Nat.le_refl _) (by simp[maxLen]) (by simp) .nil (fun j v hj=>by simp at hj) .nil,by simp[IG,yh],by simp⟩
 ·have hmn:m=n:=by omega
  subst hmn
  have hone:∀i,i<len→∃p:α × List Value × (DataW H × List MemPlace),elems[i]? =some p.2.2∧w.cells? base (a.add (i*sz)) sz=some p.2.1∧Den w (qI w) (enc p.1) p.2.1 []∧μ p.1≤yh p.2.2.1∧G p.1:=by
   intro i hi
   have hi':i<elems.length:=by omega
   have:=hget i hi
   rw[hsz,List.getElem?_eq_getElem hi'] at this
   cases hcl:w.cells? base (a.add (i*sz)) sz with
   |none=>rw[hcl] at this;cases this
   |some cl=>
    rw[hcl] at this
    obtain⟨v,_,h2,h3,h4⟩:=h H eH w base sp held cl elems[i] this
    exact⟨(v,cl,elems[i]),List.getElem?_eq_getElem hi',rfl,h2,h3,h4⟩
  obtain⟨l,hll,hl2⟩:=uG len hone
  have hrow:∀r∈l.map (fun p=>enc p.1),r.length=sz:=by
   intro r hr
   obtain⟨p,_,rfl⟩:=List.mem_map.1 hr
   exact hlen _
  have hcells:∀r∈l.map (fun p=>p.2.1),r.length=sz:=by
   intro r hr
   obtain⟨p,hp,rfl⟩:=List.mem_map.1 hr
   obtain⟨i,hi⟩:=List.getElem?_of_mem hp
   exact(tH (hl2 i p hi).2.1).1
  have hden:∀l:List (α × List Value × (DataW H × List MemPlace)),(∀p∈l,Den w (qI w) (enc p.1) p.2.1 [])→Den w (qI w) (l.map (fun p=>enc p.1)).flatten (l.map (fun p=>p.2.1)).flatten []:=by
   intro l
   induction l with
   |nil=>intro _;exact .nil
   |cons p ps ih=>
    intro hp
    simp only[List.map_cons,List.flatten_cons]
    exact(hp p (by simp)).append (ih fun q hq=>hp q (by simp[hq]))
  have hbulk:∀(l:List (α × List Value × (DataW H × List MemPlace))) (es:List (DataW H × List MemPlace)),l.length=es.length→(∀(i:Nat) p,l[i]? =some p→es[i]? =some p.2.2∧μ p.1≤yh p.2.2.1)→IG ((l.map (·.1)).map μ)≤nG (es.map (·.1)):=by
   intro l
   induction l with
   |nil=>intro es _ _;simp[IG]
   |cons p ps ih=>
    intro es hlen hp
    cases es with
    |nil=>simp at hlen
    |cons e es=>
     obtain⟨g1,g2⟩:=hp 0 p rfl
     simp at g1
     subst g1
     have:=ih es (by simpa using hlen) fun i q hq=>by
      have:=hp (i+1) q (by simpa using hq)
      simpa using this
     simp only[List.map_cons,IG,nG]
     omega
  refine⟨l.map (·.1),rfl, ?_, ?_, ?_⟩
  ·refine .ro (xs:=(l.map (fun p=>p.2.1)).flatten) (by simp[hll]) hl hc ?_ ?_ ?_ .nil
   ·rw[List.map_map];exact hrow
   ·have:=hden l fun p hp=>by
     obtain⟨i,hi⟩:=List.getElem?_of_mem hp
     exact(hl2 i p hi).2.2.1
    rw[List.map_map]
    exact this
   ·intro j v hj
    have hjl:j<(l.map (fun p=>p.2.1)).flatten.length:=(List.getElem?_eq_some_iff.1 hj).1
    rw[eG hcells,List.length_map,hll] at hjl
    have hq:j/sz<len:=(Nat.div_lt_iff_lt_mul hpos).2 hjl
    have hm:j % sz<sz:=Nat.mod_lt _ hpos
    have hdm:j/sz*sz+j % sz=j:=by rw[Nat.mul_comm];exact Nat.div_add_mod j sz
    obtain⟨pj,hp⟩:∃p,l[j/sz]? =some p:=⟨_,List.getElem?_eq_getElem (by rw[hll];exact hq)⟩
    have hc1:=(hl2 _ _ hp).2.1
    obtain⟨g1,g2⟩:=tH hc1
    have hr:=fc hcells (idx:=j/sz) (r:=pj.2.1) (by simp[hp])
    have hv:pj.2.1[j % sz]? =some v:=by
     rw[←hr,List.getElem?_take,if_pos hm,List.getElem?_drop,hdm]
     exact hj
    have hcell:=g2 _ _ hv
    rw[LU,hdm] at hcell
    have h0:a.spot=none:=by
     obtain⟨p0,hp0⟩:∃p,l[0]? =some p:=⟨_,List.getElem?_eq_getElem (by rw[hll];exact Nat.lt_of_le_of_lt (Nat.zero_le _) hq)⟩
     obtain⟨k1,k2⟩:=tH (hl2 _ _ hp0).2.1
     have:=k2 0 _ (List.getElem?_eq_getElem (by rw[k1];exact hpos))
     simp only[Nat.zero_mul,Addr.add,if_true] at this
     exact(yC this).1
    have hblk:(a.add j).block=a.block:=by unfold Addr.add;split<;>rfl
    refine⟨a,rfl,h0, ?_,hcell⟩
    have:=(yC hcell).2
    rw[hblk] at this
    exact this
  ·have:=hbulk l elems (by omega) fun i p hp=>⟨(hl2 i p hp).1,(hl2 i p hp).2.2.2.1⟩
   simp only[yh]
   omega
  ·intro x hx
   obtain⟨p,hp,rfl⟩:=List.mem_map.1 hx
   obtain⟨i,hi⟩:=List.getElem?_of_mem hp
   exact(hl2 i p hi).2.2.2.2
theorem tP.nil{o:Nat}:tP P [] o 0 (fun _:Unit=>[]) (fun _=>0) (fun _=>True) n:=by
 intro H eH w base sp held cs xs hl hx _
 refine⟨(), ?_,by simp,trivial⟩
 rw[List.drop_of_length_le (by omega)]
 exact .nil
theorem tP.cons{f:Field}{fs:List Field}{o sz':Nat}(ho:f.offset=o)(hsz:P.cellsOf f.type=sz)(h:Reads P f.type sz enc μ G n)(hs:tP P fs (o+sz) sz' encb μb Gb n):
 tP P (f::fs) o (sz+sz') (fun p:α × β=>enc p.1++encb p.2) (fun p=>μ p.1+μb p.2) (fun p=>G p.1∧Gb p.2) n:=by
 intro H eH w base sp held cs xs hl hx hg
 cases xs with
 |nil=>simp at hx
 |cons x xs=>
  have h0:=hg 0 f rfl
  rw[ho,hsz] at h0
  obtain⟨v,h1,h2,h3,h4⟩:=h H eH w base sp held _ x (by simpa using h0)
  obtain⟨u,g1,g2,g3⟩:=hs H eH w base sp held cs xs (by omega) (by simpa using hx) fun i q hq=>by
   have:=hg (i+1) q (by simpa using hq)
   simpa using this
  refine⟨(v,u), ?_, ?_,h4,g3⟩
  ·have e:cs.drop o=(cs.drop o).take sz++cs.drop (o+sz):=by
        rw[←List.drop_drop,List.take_append_drop]
   rw[e]
   exact h2.append g1
  ·simp only[List.map_cons,nG]
   omega
theorem Reads.struct{fs:Array Field}(ht:P.underlying t=some (.struct fs))(hsz:P.cellsOf t=sz)(h:tP P fs.toList 0 sz enc μ G n):Reads P t sz enc (fun v=>μ v+1) G (n+1):=by
 intro H eH w base sp held cs x hx
 obtain⟨xs,m,hm,rfl,hl,hxl,hg⟩:=DataW.trod_struct ht hx
 have hmn:m=n:=by omega
 subst hmn
 obtain⟨v,h1,h2,h3⟩:=h H eH w base sp held cs xs (by omega) (by simpa using hxl) fun i f hf=>hg i f (by simpa using hf)
 refine⟨v,by omega,by simpa using h1,by simp only[yh];omega,h3⟩
end
theorem Reads.arg{P:Program}{t sz:Nat}{α:Type}{enc:α→List CV}{μ:α→Nat}{G:α→Prop}{H:Type}{eH:TypeId × Value→H}{w:World}{sp:Nat→Bool}{held:Bool}{v:Value}{d:DataW H}{ps:List MemPlace}
 (h:∀n,Reads P t sz enc μ G n)(hd:DataW.Trod eH P w 0 sp held t v d ps):∃x:α,v.cells.toList.length=sz∧Den w (qI w) (enc x) v.cells.toList []∧μ x≤yh d∧G x:=by
 obtain⟨fuel,hf⟩:=hd
 exact h fuel H eH w 0 sp held _ _ hf
theorem Pz{w:World}{ok:Nat→Prop}{x:CV}{v:Value}(hv:∀cs,v≠ .agg cs)(h:Den w ok [x] v.cells.toList []):∀ρ,dZ ρ w ok (.c x) v:=by
 intro ρ
 have:v.cells= #[v]:=by cases v<;>first|rfl|exact absurd rfl (hv _)
 rw[this] at h
 exact .c (.c h)
end Go.KA
