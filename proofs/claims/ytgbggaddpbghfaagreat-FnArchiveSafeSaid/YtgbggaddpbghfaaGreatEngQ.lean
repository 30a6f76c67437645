/- Part of a proof engine for functions of the given program: what an operation, a loop and a call compute, symbolically. No conditions. -/
import Derived.Test.YtgbggaddpbghfaaGreatEngP
namespace Go.KA
open Go Go.RowKit
section
variable{P:Program}{tbl:TT}{Γ:Cx}{nt np:Nat}
theorem Lr{W:Nat->List (Nat × dW)}{S:Nat->Bool}{H0:HM}:∀(m:Nat),(∀j,j<m->S j=false)->hF W S H0 m=H0
 |0,_=>rfl
 |m+1,h=>by
  simp only[hF,h m (by omega),cond];exact Lr m fun j hj=>h j (by omega)
theorem LQ{W:Nat->List (Nat × dW)}{H0:HM}{i:Nat}:∀(m:Nat),i≤m->hF W (fun j=>Nat.blt j i) H0 m=hF W (fun _=>true) H0 i
 |0,h=>by
  have:i=0:=by omega
  subst this;rfl
 |m+1,h=>by
  by_cases e:i=m+1
  ·subst e;exact PD _ fun j hj=>by rw[Nat.blt_eq];exact hj
  ·have:Nat.blt m i=false:=by
    cases hb:Nat.blt m i with
    |false=>rfl
    |true=>rw[Nat.blt_eq]at hb;omega
   simp only[hF,this,cond];exact LQ m (by omega)
theorem Mm(dC:en P tbl)(iW:P.follows .mixedOrders=true)(s7:te Γ np){id:Nat}{ops:Array Oper}{Q:Exit->Act->World->Prop}{K:TM->HM->Nat->Prop}{T:TM}{H:HM}{n:Nat}{ρ:RM}{F:FM}{a:Act}{w:World}(hc:ux ops.toList=true)
 (h:Dt P tbl nt np ops.toList ops.toList 0 T H n [] [] K)(hQ:∀T H n ρ F a w,K T H n->St Γ nt T H ρ F a w->iI ρ n->Q .normal a w)(hS:St Γ nt T H ρ F a {w with drawn:=w.drawn+1})(hf:iI ρ n):(Code.region id ops true).wp P Q a w:=by
 have hd:=tm hc;obtain⟨l,hg⟩:=m5 _ _ _ _ _ _ _ h
 let R:Nat->R1:=fun i=>l.getD i (x6 0)
 have XN:T=tF ops.toList (fun i=>(R i).sv) (fun j=>Nat.blt j ([]:List Oper).length) T:=by
  funext t
  refine(yQ fun j o _ _=>?_).symm;cases hb:Nat.blt j ([]:List Oper).length with
  |false=>rfl
  |true=>rw[Nat.blt_eq]at hb;simp at hb
 obtain⟨h1,h2,n',h3,h4,ir,Ja,hK⟩:=Iw (R:=R) (T0:=T) (H0:=H) hd ops.toList [] T H n [] [] l rfl XN rfl rfl rfl (fun j s hs=>by simp[R,List.getD,hs]) hg;have h1:=fun i o ho=>h1 i o (by simp) ho
 have h2:=fun i hi=>h2 i (by simp) hi
 have h3:=fun i hi=>h3 i (by simp) hi
 generalize hW:(fun i=>(R i).E.ws)=W at*;have hWi:∀i,W i=(R i).E.ws:=fun i=>by rw[<-hW]
 have Xf:∀i,N4 W i=(R i).E.ws.map (·.1):=fun i=>by unfold N4;rw[hWi]
 have UN:∀j,j<ops.toList.length-> ∀i,i<j->(R i).n+(R i).E.c≤(R j).n:=by
  intro j
  induction j with
  |zero=>intro _ i hi;omega
  |succ j ih=>
   intro hj i hi;have e:=(h2 j (by omega)).2.2 hj;by_cases EW:i=j
   ·subst EW;omega
   ·have:=ih (by omega) i (by omega);omega
 refine wp_region_any iW ?_;refine KI hd (fun S a w=>∃ρ' F',St Γ nt (tF ops.toList (fun i=>(R i).sv) S T) (hF W S H ops.toList.length) ρ' F' a w/\
  (∀j,j<ops.toList.length->S j=false-> ∀m,(R j).n≤m->m<(R j).n+(R j).E.c->ρ' m=none)/\iI ρ' n') ?_ ?_ ?_ _ _ _ _ (by simp) ?_ ?_ ?_
 ·rintro S S' XI a w ⟨ρ',F',g1,g2,g3⟩;have e1:tF ops.toList (fun i=>(R i).sv) S' T=tF ops.toList (fun i=>(R i).sv) S T:=by
   funext t
   exact rT hd fun j o hj _=>(XI j (List.getElem?_eq_some_iff.1 hj).1).symm
  refine⟨ρ',F',by rw[e1,<-PD _ XI];exact g1,fun j hj hs=>g2 j hj (by rw[XI j hj];exact hs),g3⟩
 ·rintro S i o a w next Ke hs BC h3e ⟨ρ',F',g1,g2,g3⟩ Co;have eu:i<ops.toList.length:=(List.getElem?_eq_some_iff.1 Ke).1;have Jn:∀t∈rD ops.toList o,tF ops.toList (fun i=>(R i).sv) S T t=tF ops.toList (fun i=>(R i).sv) (fun j=>Nat.blt j i) T t:=fun t ht=>PY hd BC Ke hs h3e ht
  have Ym:∀j,(if j=i then true else S j)=if j=i then true else S j:=fun _=>rfl
  have Ts:∀j k,j<i->k∈N4 W j->k∈(R i).τ->S j=true:=by
   intro j k hj hk TX;cases hb:jt (((pE ops.toList [])[i]?).getD []) j with
   |true=>exact AX BC Ke h3e hb
   |false=>
    have:=(xN ir hj eu hb).2 k (by rw[Xf]at hk;exact hk);exact absurd TX this
  have Pu:∀j k,i<j->j<ops.toList.length->k∈N4 W j->(k∈(R i).τ\/k∈N4 W i)->S j=false:=by
   intro j k hj S6 hk TX;cases hSj:S j with
   |false=>rfl
   |true=>
    cases hb:jt (((pE ops.toList [])[j]?).getD []) i with
    |true=>
     have hoj:ops.toList[j]? =some ops.toList[j]:=List.getElem?_eq_getElem S6;have:=AX BC hoj (fun x hx=>BC j _ hoj hSj x hx) hb;rw[hs]at this;cases this
    |false=>
     have:=(xN ir hj S6 hb).1 k (by rw[Xf]at hk;exact hk);rcases TX with TX|TX
     ·exact absurd TX this.1
     ·rw[Xf]at TX;exact absurd TX this.2
  have Yw:oo (R i).τ (hF W (fun _=>true) H i)=oo (R i).τ (hF W S H ops.toList.length):=by
   refine FF fun k hk=>?_
   rw[<-LQ (W:=W) (H0:=H) (i:=i) ops.toList.length (by omega)];refine zg _ fun j hj ZN=>?_
   by_cases ZL:j<i
   ·rw[Ts j k ZL ZN hk,Nat.blt_eq];exact ZL
   ·have YH:Nat.blt j i=false:=by
     cases hb:Nat.blt j i with
     |false=>rfl
     |true=>rw[Nat.blt_eq]at hb;omega
    rw[YH];by_cases e:j=i
    ·rw[e,hs]
    ·rw[Pu j k (by omega) hj ZN (.inl hk)]
  have Yi:tF ops.toList (fun i=>(R i).sv) (fun j=>if j=i then true else S j) T=ff (tF ops.toList (fun i=>(R i).sv) S T) o.dst (R i).sv:=
   Oy hd Ke (by simp) fun j _ jr=>by simp[jr]
  have Yj:hF W (fun j=>if j=i then true else S j) H ops.toList.length=du (W i) (hF W S H ops.toList.length):=
   Ri hs Ym _ eu fun j k EW hj PG ZN=>Pu j k EW hj ZN (.inr PG)
  have fin:∀{ρ2:RM} {F2:FM} {a2:Act} {w2:World},St Γ nt (ff (tF ops.toList (fun i=>(R i).sv) S T) o.dst (R i).sv) (du (W i) (hF W S H ops.toList.length)) ρ2 F2 a2 w2->(∀m,ρ2 m≠ρ' m->(R i).n≤m/\m<(R i).n+(R i).E.c)->next a2 w2:=by
   intro ρ2 F2 a2 w2 hSt Y2;refine Co a2 w2 ⟨ρ2,F2,by rw[Yi,Yj];exact hSt,fun j hj X6 m RC U9=>?_,fun m hm=>?_⟩
   ·have ZL:j≠i:=by rintro rfl;simp at X6
    have abx:S j=false:=by simpa[ZL]using X6
    by_cases e:ρ2 m=ρ' m
    ·rw[e];exact g2 j hj abx m RC U9
    ·have:=Y2 m e;rcases Nat.lt_or_ge i j with EW|EW
     ·have:=UN j hj i EW;omega
     ·have:=UN i eu j (by omega);omega
   ·by_cases e:ρ2 m=ρ' m
    ·rw[e];exact g3 m hm
    ·have:=Y2 m e;have:=h3 i eu;omega
  obtain⟨Ho,jS⟩:=h1 i o Ke;have run:LI P tbl o (tF ops.toList (fun i=>(R i).sv) (fun j=>Nat.blt j i) T) (hF W (fun _=>true) H i) (R i)->o.wp P a w next Q:=by
   rintro⟨wm,fu⟩;have hop:=fu (tF ops.toList (fun i=>(R i).sv) S T) fun x hx=>by
        cases x with
        |tmp t=>
         exact Jn t (by
          unfold rD;refine List.mem_append_left _ (List.mem_filterMap.2 ⟨.tmp t,by simpa using hx,rfl⟩))
        |_=>rfl
   rw[Yw]at hop;refine wM dC g1 (Pz _ _) hop (fun E hE m RC U9=>by subst hE;exact g2 i eu hs m RC U9) (by intro h;cases h) ?_;rintro E ρ2 F2 v w2 rfl k1 k2 k3 k4 k5 k6;rw[<-hWi]at k3;exact fin ((g1.move k3 k1 k4 k5).put Ho (wm _ _ _ _ k6)) k2
  cases WY:o.guard with
  |none=>
   rw[WY]at jS;refine⟨fun _=>run jS,fun hw=>?_⟩;simp[Region.wanted,WY]at hw
  |some gw=>
   obtain⟨j,want⟩:=gw;rw[WY]at jS;obtain⟨t,ht,Qi⟩:=jS;have htr:t∈rD ops.toList o:=by
        unfold rD;refine List.mem_append_right _ ?_;rw[WY];cases hq:ops.toList[j]? with
        |none=>rw[hq]at ht;cases ht
        |some q=>
         rw[hq]at ht;simp only[Option.bind_some]at ht;simp only[hq,ht,List.mem_singleton]
   have YZ:R i=x6 (R i).n->next (a.put o.dst undef) w:=by
        intro Nw;have e1:(R i).sv= .tup []:=by rw[Nw];rfl
        have e2:W i=[]:=by rw[hWi,Nw];rfl
        refine fin (ρ2:=ρ') (F2:=F') ?_ fun m hm=>absurd rfl hm
        rw[e1,e2];exact g1.put Ho (.tup (vs:=[]) rfl (by simp))
   rcases Qi with⟨b,hb,Qi⟩|⟨hb,Nw⟩
   ·have fX:tF ops.toList (fun i=>(R i).sv) S T t= .c (.cb b):=(Jn t htr).trans hb;have hy:yielded ops a.tmps j=some b:=by
     unfold yielded;have:(ops[j]?).bind (·.dst)=some t:=by simpa using ht
     rw[this];simp[GC g1 fX]
    rcases Qi with⟨hbw,fu⟩|⟨hbw,Nw⟩
    ·subst hbw;refine⟨fun _=>run fu,fun hw=>?_⟩;simp[Region.wanted,WY,hy]at hw
    ·refine⟨fun hw=>?_,fun _=>YZ Nw⟩;simp[Region.wanted,WY,hy,hbw]at hw
   ·have fX:tF ops.toList (fun i=>(R i).sv) S T t= .tup []:=(Jn t htr).trans hb;have hy:yielded ops a.tmps j=none:=by
     unfold yielded;have h0:(ops[j]?).bind (·.dst)=some t:=by simpa using ht
     rw[h0];exact Gt g1 fX
    refine⟨fun hw=>?_,fun _=>YZ Nw⟩;simp[Region.wanted,WY,hy]at hw
 ·rintro a w ⟨ρ',F',g1,g2,g3⟩;have e1:tF ops.toList (fun i=>(R i).sv) (fun _=>true) T=tF ops.toList (fun i=>(R i).sv) (fun j=>Nat.blt j ops.toList.length) T:=by
   funext t
   refine rT hd fun j o hj _=>?_
   show true=Nat.blt j ops.toList.length;rw[eq_comm,Nat.blt_eq];exact(List.getElem?_eq_some_iff.1 hj).1
  rw[e1]at g1;obtain⟨T',H',ρ2,F2,k1,k2,k3⟩:=l5 s7 hK g1 g3 fun p hp=>by
   have:=aj.1 Ja p hp;rwa[Nat.blt_eq]at this
  exact hQ _ _ _ _ _ _ _ k1 k2 k3
 ·intro i o ho hi;simp only[Array.getD_eq_getD_getElem?,Array.getElem?_replicate]at hi;split at hi<;>simp at hi
 ·rw[List.countP_eq_length.2]
  ·simp
  ·intro i hi;have:i<ops.size:=by simpa using hi
   simp[Array.getD_eq_getD_getElem?,this]
 ·have hz:∀j,(Array.replicate ops.size false).getD j false=false:=by
   intro j;simp only[Array.getD_eq_getD_getElem?,Array.getElem?_replicate];split<;>rfl
  have e1:tF ops.toList (fun i=>(R i).sv) (fun i=>(Array.replicate ops.size false).getD i false) T=T:=by
   funext t
   exact yQ fun j o _ _=>hz j
  have e2:hF W (fun i=>(Array.replicate ops.size false).getD i false) H ops.toList.length=H:=Lr _ fun j _=>hz j
  refine⟨ρ,F,by rw[e1,e2];exact hS,fun j hj _ m RC _=>hf m ?_,fun m hm=>hf m (by omega)⟩;have:=(h2 j hj).1;omega
end
end Go.KA
