/- Part of a proof engine for functions of the given program: what an operation, a loop and a call compute, symbolically. No conditions. -/
import Derived.Test.YtgbggaddpbghfaaGreatEngP
namespace Go.KA
open Go Go.RowKit
section
variable{P:Program}{tbl:TT}{Γ:Cx}{nt np:Nat}
theorem G5{W:Nat→List (Nat × dE)}{S:Nat→Bool}{H0:HM}:∀(m:Nat),(∀j,j<m→S j=false)→hF W S H0 m=H0
 |0,_=>rfl
 |m+1,h=>by
  simp only[hF,h m (by omega),cond]
  exact G5 m fun j hj=>h j (by omega)
theorem Hc{W:Nat→List (Nat × dE)}{H0:HM}{i:Nat}:∀(m:Nat),i≤m→hF W (fun j=>Nat.blt j i) H0 m=hF W (fun _=>true) H0 i
 |0,h=>by
  have:i=0:=by omega
  subst this
  rfl
 |m+1,h=>by
  by_cases e:i=m+1
  ·subst e
   exact JY _ fun j hj=>by rw[Nat.blt_eq];exact hj
  ·have:Nat.blt m i=false:=by
    cases hb:Nat.blt m i with
    |false=>rfl
    |true=>rw[Nat.blt_eq] at hb;omega
   simp only[hF,this,cond]
   exact Hc m (by omega)
theorem HD(da:dM P tbl)(hmix:P.follows .mixedOrders=true)(hnp:qN Γ np){id:Nat}{ops:Array Oper}{Q:Exit→Act→World→Prop}{K:TM→HM→Nat→Prop}{T:TM}{H:HM}{n:Nat}{ρ:RM}{F:FM}{a:Act}{w:World}(hc:sJ ops.toList=true)
 (h:A2 P tbl nt np ops.toList ops.toList 0 T H n [] [] K)(hQ:∀T H n ρ F a w,K T H n→St Γ nt T H ρ F a w→gy ρ n→Q .normal a w)(hS:St Γ nt T H ρ F a {w with drawn:=w.drawn+1})(hf:gy ρ n):(Code.region id ops true).wp P Q a w:=by
 have hd:=qH hc
 obtain⟨l,hg⟩:=lN _ _ _ _ _ _ _ h
 let R:Nat→R1:=fun i=>l.getD i (uF 0)
 have hT0:T=tF ops.toList (fun i=>(R i).sv) (fun j=>Nat.blt j ([]:List Oper).length) T:=by
  funext t
  refine(vQ fun j o _ _=> ?_).symm
  cases hb:Nat.blt j ([]:List Oper).length with
  |false=>rfl
  |true=>rw[Nat.blt_eq] at hb;simp at hb
 obtain⟨h1,h2,n',h3,h4,hrec,hrn,hK⟩:=Ei (R:=R) (T0:=T) (H0:=H) hd ops.toList [] T H n [] [] l rfl hT0 rfl rfl rfl (fun j s hs=>by simp[R,List.getD,hs]) hg
 have h1:=fun i o ho=>h1 i o (by simp) ho
 have h2:=fun i hi=>h2 i (by simp) hi
 have h3:=fun i hi=>h3 i (by simp) hi
 generalize hW:(fun i=>(R i).E.ws)=W at*
 have hWi:∀i,W i=(R i).E.ws:=fun i=>by rw[←hW]
 have hwr:∀i,Jc W i=(R i).E.ws.map (·.1):=fun i=>by unfold Jc;rw[hWi]
 have hmono:∀j,j<ops.toList.length→∀i,i<j→(R i).n+(R i).E.c≤(R j).n:=by
  intro j
  induction j with
  |zero=>intro _ i hi;omega
  |succ j ih=>
   intro hj i hi
   have e:=(h2 j (by omega)).2.2 hj
   by_cases hij:i=j
   ·subst hij;omega
   ·have:=ih (by omega) i (by omega);omega
 refine wp_region_any hmix ?_
 refine Gc hd (fun S a w=>∃ρ' F',St Γ nt (tF ops.toList (fun i=>(R i).sv) S T) (hF W S H ops.toList.length) ρ' F' a w∧
  (∀j,j<ops.toList.length→S j=false→∀m,(R j).n≤m→m<(R j).n+(R j).E.c→ρ' m=none)∧gy ρ' n') ?_ ?_ ?_ _ _ _ _ (by simp) ?_ ?_ ?_
 ·rintro S S' hSS a w ⟨ρ',F',g1,g2,g3⟩
  have e1:tF ops.toList (fun i=>(R i).sv) S' T=tF ops.toList (fun i=>(R i).sv) S T:=by
   funext t
   exact ph hd fun j o hj _=>(hSS j (List.getElem?_eq_some_iff.1 hj).1).symm
  refine⟨ρ',F',by rw[e1,←JY _ hSS];exact g1,fun j hj hs=>g2 j hj (by rw[hSS j hj];exact hs),g3⟩
 ·rintro S i o a w next hoL hs hcl h3e ⟨ρ',F',g1,g2,g3⟩ hnext
  have hlt:i<ops.toList.length:=(List.getElem?_eq_some_iff.1 hoL).1
  have hreads:∀t∈o7 ops.toList o,tF ops.toList (fun i=>(R i).sv) S T t=tF ops.toList (fun i=>(R i).sv) (fun j=>Nat.blt j i) T t:=fun t ht=>KW hd hcl hoL hs h3e ht
  have hS'eq:∀j,(if j=i then true else S j)=if j=i then true else S j:=fun _=>rfl
  have hbefore:∀j k,j<i→k∈Jc W j→k∈(R i).τ→S j=true:=by
   intro j k hj hk hkτ
   cases hb:g7 (((mV ops.toList [])[i]?).getD []) j with
   |true=>exact wo hcl hoL h3e hb
   |false=>
    have:=(uS hrec hj hlt hb).2 k (by rw[hwr] at hk;exact hk)
    exact absurd hkτ this
  have hafter:∀j k,i<j→j<ops.toList.length→k∈Jc W j→(k∈(R i).τ∨k∈Jc W i)→S j=false:=by
   intro j k hj hjl hk hkτ
   cases hSj:S j with
   |false=>rfl
   |true=>
    cases hb:g7 (((mV ops.toList [])[j]?).getD []) i with
    |true=>
     have hoj:ops.toList[j]? =some ops.toList[j]:=List.getElem?_eq_getElem hjl
     have:=wo hcl hoj (fun x hx=>hcl j _ hoj hSj x hx) hb
     rw[hs] at this
     cases this
    |false=>
     have:=(uS hrec hj hjl hb).1 k (by rw[hwr] at hk;exact hk)
     rcases hkτ with hkτ|hkτ
     ·exact absurd hkτ this.1
     ·rw[hwr] at hkτ;exact absurd hkτ this.2
  have hmask:mq (R i).τ (hF W (fun _=>true) H i)=mq (R i).τ (hF W S H ops.toList.length):=by
   refine DM fun k hk=> ?_
   rw[←Hc (W:=W) (H0:=H) (i:=i) ops.toList.length (by omega)]
   refine xX _ fun j hj hkj=> ?_
   by_cases hji:j<i
   ·rw[hbefore j k hji hkj hk,Nat.blt_eq];exact hji
   ·have hbf:Nat.blt j i=false:=by
     cases hb:Nat.blt j i with
     |false=>rfl
     |true=>rw[Nat.blt_eq] at hb;omega
    rw[hbf]
    by_cases e:j=i
    ·rw[e,hs]
    ·rw[hafter j k (by omega) hj hkj (.inl hk)]
  have hTput:tF ops.toList (fun i=>(R i).sv) (fun j=>if j=i then true else S j) T=ez (tF ops.toList (fun i=>(R i).sv) S T) o.dst (R i).sv:=
   KI hd hoL (by simp) fun j _ hne=>by simp[hne]
  have hHadd:hF W (fun j=>if j=i then true else S j) H ops.toList.length=cY (W i) (hF W S H ops.toList.length):=
   Jk hs hS'eq _ hlt fun j k hij hj hki hkj=>hafter j k hij hj hkj (.inr hki)
  have fin:∀{ρ2:RM} {F2:FM} {a2:Act} {w2:World},St Γ nt (ez (tF ops.toList (fun i=>(R i).sv) S T) o.dst (R i).sv) (cY (W i) (hF W S H ops.toList.length)) ρ2 F2 a2 w2→(∀m,ρ2 m≠ρ' m→(R i).n≤m∧m<(R i).n+(R i).E.c)→next a2 w2:=by
   intro ρ2 F2 a2 w2 hSt hchg
   refine hnext a2 w2 ⟨ρ2,F2,by rw[hTput,hHadd];exact hSt,fun j hj hsj m hm1 hm2=> ?_,fun m hm=> ?_⟩
   ·have hji:j≠i:=by rintro rfl;simp at hsj
    have hsj':S j=false:=by simpa[hji] using hsj
    by_cases e:ρ2 m=ρ' m
    ·rw[e];exact g2 j hj hsj' m hm1 hm2
    ·have:=hchg m e
     rcases Nat.lt_or_ge i j with hij|hij
     ·have:=hmono j hj i hij;omega
     ·have:=hmono i hlt j (by omega);omega
   ·by_cases e:ρ2 m=ρ' m
    ·rw[e];exact g3 m hm
    ·have:=hchg m e
     have:=h3 i hlt
     omega
  obtain⟨hdst,hone⟩:=h1 i o hoL
  have run:GK P tbl o (tF ops.toList (fun i=>(R i).sv) (fun j=>Nat.blt j i) T) (hF W (fun _=>true) H i) (R i)→o.wp P a w next Q:=by
   rintro⟨hsv,hrun⟩
   have hop:=hrun (tF ops.toList (fun i=>(R i).sv) S T) fun x hx=>by
        cases x with
        |tmp t=>
         exact hreads t (by
          unfold o7
          refine List.mem_append_left _ (List.mem_filterMap.2 ⟨.tmp t,by simpa using hx,rfl⟩))
        |_=>rfl
   rw[hmask] at hop
   refine um da g1 (Jg _ _) hop (fun E hE m hm1 hm2=>by subst hE;exact g2 i hlt hs m hm1 hm2) (by intro h;cases h) ?_
   rintro E ρ2 F2 v w2 rfl k1 k2 k3 k4 k5 k6
   rw[←hWi] at k3
   exact fin ((g1.move k3 k1 k4 k5).put hdst (hsv _ _ _ _ k6)) k2
  cases hgd:o.guard with
  |none=>
   rw[hgd] at hone
   refine⟨fun _=>run hone,fun hw=> ?_⟩
   simp[Region.wanted,hgd] at hw
  |some gw=>
   obtain⟨j,want⟩:=gw
   rw[hgd] at hone
   obtain⟨t,ht,hcase⟩:=hone
   have htr:t∈o7 ops.toList o:=by
        unfold o7
        refine List.mem_append_right _ ?_
        rw[hgd]
        cases hq:ops.toList[j]? with
        |none=>rw[hq] at ht;cases ht
        |some q=>
         rw[hq] at ht
         simp only[Option.bind_some] at ht
         simp only[hq,ht,List.mem_singleton]
   have fin':R i=uF (R i).n→next (a.put o.dst undef) w:=by
        intro hany
        have e1:(R i).sv= .tup []:=by rw[hany];rfl
        have e2:W i=[]:=by rw[hWi,hany];rfl
        refine fin (ρ2:=ρ') (F2:=F') ?_ fun m hm=>absurd rfl hm
        rw[e1,e2]
        exact g1.put hdst (.tup (vs:=[]) rfl (by simp))
   rcases hcase with⟨b,hb,hcase⟩|⟨hb,hany⟩
   ·have hb':tF ops.toList (fun i=>(R i).sv) S T t= .c (.cb b):=(hreads t htr).trans hb
    have hy:yielded ops a.tmps j=some b:=by
     unfold yielded
     have:(ops[j]?).bind (·.dst)=some t:=by simpa using ht
     rw[this]
     simp[CJ g1 hb']
    rcases hcase with⟨hbw,hrun⟩|⟨hbw,hany⟩
    ·subst hbw
     refine⟨fun _=>run hrun,fun hw=> ?_⟩
     simp[Region.wanted,hgd,hy] at hw
    ·refine⟨fun hw=> ?_,fun _=>fin' hany⟩
     simp[Region.wanted,hgd,hy,hbw] at hw
   ·have hb':tF ops.toList (fun i=>(R i).sv) S T t= .tup []:=(hreads t htr).trans hb
    have hy:yielded ops a.tmps j=none:=by
     unfold yielded
     have h0:(ops[j]?).bind (·.dst)=some t:=by simpa using ht
     rw[h0]
     exact BG g1 hb'
    refine⟨fun hw=> ?_,fun _=>fin' hany⟩
    simp[Region.wanted,hgd,hy] at hw
 ·rintro a w ⟨ρ',F',g1,g2,g3⟩
  have e1:tF ops.toList (fun i=>(R i).sv) (fun _=>true) T=tF ops.toList (fun i=>(R i).sv) (fun j=>Nat.blt j ops.toList.length) T:=by
   funext t
   refine ph hd fun j o hj _=> ?_
   show true=Nat.blt j ops.toList.length
   rw[eq_comm,Nat.blt_eq]
   exact(List.getElem?_eq_some_iff.1 hj).1
  rw[e1] at g1
  obtain⟨T',H',ρ2,F2,k1,k2,k3⟩:=kr hnp hK g1 g3 fun p hp=>by
   have:=List.all_eq_true.1 hrn p hp
   rwa[Nat.blt_eq] at this
  exact hQ _ _ _ _ _ _ _ k1 k2 k3
 ·intro i o ho hi
  simp only[Array.getD_eq_getD_getElem?,Array.getElem?_replicate] at hi
  split at hi<;>simp at hi
 ·rw[List.countP_eq_length.2]
  ·simp
  ·intro i hi
   have:i<ops.size:=by simpa using hi
   simp[Array.getD_eq_getD_getElem?,this]
 ·have hz:∀j,(Array.replicate ops.size false).getD j false=false:=by
   intro j
   simp only[Array.getD_eq_getD_getElem?,Array.getElem?_replicate]
   split<;>rfl
  have e1:tF ops.toList (fun i=>(R i).sv) (fun i=>(Array.replicate ops.size false).getD i false) T=T:=by
   funext t
   exact vQ fun j o _ _=>hz j
  have e2:hF W (fun i=>(Array.replicate ops.size false).getD i false) H ops.toList.length=H:=G5 _ fun j _=>hz j
  refine⟨ρ,F,by rw[e1,e2];exact hS,fun j hj _ m hm1 _=>hf m ?_,fun m hm=>hf m (by omega)⟩
  have:=(h2 j hj).1
  omega
end
end Go.KA
