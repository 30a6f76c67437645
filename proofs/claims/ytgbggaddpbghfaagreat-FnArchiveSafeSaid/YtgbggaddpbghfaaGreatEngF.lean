/- Part of a proof engine for functions of the given program: what an operation, a loop and a call compute, symbolically. No conditions. -/
import Derived.Test.YtgbggaddpbghfaaGreatEngE
namespace Go.KA
open Go Go.RowKit
theorem gm:∀{l:List Nat},gK l=true->l.Nodup
 |[],_=> .nil
 |x::xs,h=>by
  simp only[gK,ab,Bool.not_eq_true',List.any_eq_false]at h;refine List.nodup_cons.2 ⟨fun hx=>h.1 x hx (by simp),gm h.2⟩
section
variable{P:Program}{tbl:TT}{Γ:Cx}{H Hm:HM}{ρ:RM}{F:FM}{w:World}{ok:Nat->Prop}
omit P tbl Γ H Hm ρ F in
theorem w5{α:Type}{sz:Nat}:∀{rows:List (List α)},(∀r∈rows,r.length=sz)-> ∀n:Nat,(rows.take n).flatten=rows.flatten.take (n*sz)
 |[],_,n=>by simp
 |r::rs,hr,0=>by simp
 |r::rs,hr,n+1=>by
  have h1:=hr r (by simp);rw[List.take_succ_cons,List.flatten_cons,List.flatten_cons,w5 (fun r h=>hr r (by simp[h])) n,List.take_append,List.take_of_length_le (l:=r) (by rw[h1,Nat.succ_mul];omega),h1,Nat.succ_mul,Nat.add_sub_cancel]
theorem Bt{sz:Nat}{rows:List (List CV)}{xs:List Value}(hr:∀r∈rows,r.length=sz)(bw:Den w ok rows.flatten xs [])(n:Nat):Den w ok (rows.take n).flatten (xs.take (n*sz)) []:=by
 rw[w5 hr];exact kH bw _
theorem Hk{ty sz n len c c' b:Nat}{rows:List (List CV)}{xs:List Value}(h1:len≤n)(ho:w.ownsRow 0 ty sz (.slice (some ⟨b,0,none⟩) n c) rows.length xs)(h4:0+c'=c):
 w.ownsRow 0 ty sz (.slice (some ⟨b,0*sz,none⟩) len c') (rows.take len).length (xs.take (len*sz)):=by
 obtain⟨hl,⟨h0,_⟩|⟨g,cap,cur,hv,h5,hh,hc,hm,hs,wi⟩⟩:=ho
 ·cases h0
 ·simp only[Value.slice.injEq,Option.some.injEq,Addr.mk.injEq,and_true]at hv;obtain⟨rfl,rfl,rfl⟩:=hv;have e:(rows.take len).length=len:=by rw[aq];omega
  have hle:len*sz≤rows.length*sz:=Nat.mul_le_mul_right _ h1;rw[e];refine⟨by rw[aq,hl];omega, .inr ⟨b,c',cur,by rw[Nat.zero_mul],ah _,hh,by omega,by omega,by rw[hs];congr 1;omega,?_⟩⟩;rw[<-wi,List.take_take,Nat.min_eq_left hle]
section
variable(hB:∀i,Hm i= .dead\/dH ρ w ok (Hm i) (ρ i) (F i))
include hB
theorem kh{s:SV}{x:CV}{v:Value}(h:jR Hm s=some x)(hd:b9 ρ w ok s v):Den w ok [x] [v] ((iN s).flatMap F):=by
 unfold jR at h;split at h
 ·rename_i k;cases hd with
  |lw hv=>
   split at h
   ·rename_i o ty sz rows hk;injection h with h
    subst h;obtain⟨u,xs,hu,ho,hr,bw,hF,_⟩:=jx hB hk;rw[hv]at hu;injection hu with hu
    subst hu;have:=Den.ows bw hr ho .nil;simpa[iN,hF]using this
   ·rename_i o ty sz rows hk;injection h with h
    subst h;obtain⟨u,xs,f,hu,ho,hr,bw,hF,_⟩:=et hB hk;rw[hv]at hu;injection hu with hu
    subst hu;have:=Den.own bw hr ho .nil;simpa[iN,hF]using this
   ·cases h
 ·rename_i k sz off len;cases hd with
  |ls hv h1 h2 h3 h4=>
   split at h
   ·rename_i o ty fN rows hk;cases hb:Nat.beq sz fN with
    |false=>rw[hb]at h;cases h
    |true=>
     rw[hb]at h;have:=ae hb;subst this;injection h with h
     subst h;obtain⟨u,xs,hu,ho,hr,bw,hF,_⟩:=jx hB hk;rw[hv]at hu;injection hu with hu
     subst hu;have:=Den.ows (Bt hr bw _) (fun r my=>hr r (List.mem_of_mem_take my)) (Hk (by omega) ho h4) .nil;simpa[iN,hF,Value.ownBlock]using this
   ·cases h
 ·injection h with h
  subst h;cases hd with
  |c hd=>rw[pQ hd];exact mk_val rfl
 ·injection h with h
  subst h;cases hd with
  |c hd=>simpa[iN]using hd
 ·cases h
theorem oe:∀{cs:List SV} {l:List CV} {vs:List Value},iL (jR Hm) cs=some l->cs.length=vs.length->(∀(j:Nat) a v,cs[j]? =some a->vs[j]? =some v->b9 ρ w ok a v)->
 Den w ok l vs ((cs.flatMap iN).flatMap F)
 |[],l,vs,h,hl,_=>by
  simp[iL]at h;subst h;cases vs with
  |nil=>simpa using Den.nil
  |cons _ _=>simp at hl
 |c::cs,l,vs,h,hl,hd=>by
  cases vs with
  |nil=>simp at hl
  |cons v vs=>
   simp only[iL]at h;split at h
   ·rename_i y ys hy ud;injection h with h
    subst h;have h1:=kh hB hy (hd 0 _ _ rfl rfl);have h3:=oe ud (by simpa using hl) fun j a v ha hv=>hd (j+1) a v ha hv
    have:=h1.append h3;simpa using this
   ·cases h
theorem yh{s:SV}{l:List CV}{v:Value}(h:Cw Hm s=some l)(hT:bJ ρ w ok s v):Den w ok l v.cells.toList ((lk s).flatMap F):=by
 obtain⟨ca,cc,cm,c1⟩:=nD hT;unfold Cw at h;split at h
 ·rename_i n cs;injection h with h
  subst h;simpa[lk,iN]using(ca _ _ rfl).2
 ·rename_i cs;have hp:=cm _ rfl;simpa[lk]using oe hB h hp.1 hp.2
 ·rename_i n1 n2;split at h
  ·rename_i x hx;injection h with h
   subst h;have h1:qy s=true:=by
        unfold jR at hx;cases s<;>first|rfl|simp at hx
   have hp:=c1 h1;have hlen:v.cells.toList.length=1:=by have:=hp.1;simpa using this.symm
   match hv:v.cells.toList,hlen with
   |[u],_=>
    have hc:=hp.2 0 s u rfl (by rw[hv];rfl);have hl:lk s=iN s:=by cases s<;>first|rfl|exact(n2 _ rfl).elim
    rw[hl];exact kh hB hx hc
  ·cases h
omit hB in
theorem p7{s:SV}{x:CV}(h:jR Hm s=some x):∀k∈iN s,Hm k≠ .dead:=by
 intro k hk e;cases s<;>simp only[iN,List.mem_singleton,List.not_mem_nil]at hk
 ·subst hk;simp only[jR,e]at h;cases h
 ·subst hk;simp only[jR,e]at h;cases h
end
theorem nc(hm:Mem Γ H ρ F w):∀{ks:List Nat},ks.Nodup->(ks.flatMap F).Nodup
 |[],_=>by simp
 |k::ks,hn=>by
  rw[List.nodup_cons]at hn;rw[List.flatMap_cons,List.nodup_append];refine⟨hm.nodup k,nc hm hn.2,fun x hx y hy e=>?_⟩;subst e;obtain⟨j,hj,hxj⟩:=List.mem_flatMap.1 hy;exact hn.1 (hm.kO k j x hx hxj▸hj)
def sZ(ks:List Nat)(F:FM):FM:=fun i=>if i∈ks then[]else F i
theorem CZ:∀(ks:List Nat) (H:HM) (i:Nat),du (kp ks) H i=if i∈ks then .dead else H i
 |[],H,i=>by simp[kp,du]
 |k::ks,H,i=>by
  simp only[kp,du];rw[CZ ks];by_cases h1:i∈ks
  ·simp[h1]
  ·by_cases h2:i=k
   ·subst h2;simp[h1,eF]
   ·simp[h1,h2,fP h2]
theorem Mem.qT(hm:Mem Γ H ρ F w){j:Nat}{ks:List Nat}{k:dW}{f:List Nat}{ρ':RM}{w':World}(WV:w'.os=w.os)(zb:w'.tape=w.tape)(DE:w'.output=w.output)(eZ:w.heap.size≤w'.heap.size)
 (hρ:Ext ρ ρ')(abd:∀i,i≠j->ρ' i=ρ i)(vx:j∉ks)(ko:∀b,b<w.heap.size->b∉F j->(∀i∈ks,b∉F i)->w'.heap[b]? =w.heap[b]?)
 (hf:∀b∈f,b∈F j\/(∃i∈ks,b∈F i)\/(w.heap.size≤b/\b<w'.heap.size))(gB:f.Nodup)
 (hk:∀ok':Nat->Prop,(∀b,bg Γ F w b->ok' b)->dH ρ' w' ok' k (ρ' j) f):
 Mem Γ (du (kp ks++[(j,k)]) H) ρ' (gR (sZ ks F) j f) w'/\(∀b,bg Γ F w b->bg Γ (gR (sZ ks F) j f) w' b)/\ ∀b,bg Γ F w b->w'.heap[b]? =w.heap[b]? :=by
 have hF:∀i,i∉j::ks->gR (sZ ks F) j f i=F i:=fun i hi=>by
  simp only[List.mem_cons,not_or]at hi;rw[cJ hi.1];simp[sZ,hi.2]
 have jn:∀i∈j::ks,∀b∈gR (sZ ks F) j f i,(∃j'∈j::ks,b∈F j')\/(w.heap.size≤b/\b<w'.heap.size):=by
  intro i hi b hb;by_cases e:i=j
  ·subst e;rw[bO]at hb;rcases hf b hb with h1|⟨i',h1,h2⟩|h1
   ·exact .inl ⟨i,by simp,h1⟩
   ·exact .inl ⟨i',by simp[h1],h2⟩
   ·exact .inr h1
  ·rw[cJ e]at hb;have:i∈ks:=by simpa[e]using hi
   simp[sZ,this]at hb
 have hs:∀b,b<w.heap.size->(∀i∈j::ks,b∉F i)->w'.heap[b]? =w.heap[b]? :=fun b hb hn=>ko b hb (hn j (by simp)) fun i hi=>hn i (by simp[hi])
 have cH:=rZ (Γ:=Γ) eZ hF jn;have hH:∀i,du (kp ks++[(j,k)]) H i=if i=j then k else if i∈ks then .dead else H i:=by
  intro i;rw[ot];simp only[du];by_cases e:i=j
  ·subst e;simp[eF]
  ·rw[fP e,CZ];simp[e]
 refine⟨hm.write (j::ks) WV zb DE eZ hρ (fun i hi=>?_) hs jn ?_ ?_ ?_,cH,ql hs⟩
 ·have lg:=hi;simp only[List.mem_cons,not_or]at hi;exact⟨by rw[hH];simp[hi.1,hi.2],hF i lg,abd i hi.1⟩
 ·intro i hi;by_cases e:i=j
  ·subst e;rw[bO];exact gB
  ·rw[cJ e];have:i∈ks:=by simpa[e]using hi
   simp[sZ,this]
 ·intro i hi i' lg b hb fX;have key:∀i∈j::ks,b∈gR (sZ ks F) j f i->i=j:=by
   intro i hi hb;by_cases e:i=j
   ·exact e
   ·rw[cJ e]at hb;have:i∈ks:=by simpa[e]using hi
    simp[sZ,this]at hb
  rw[key i hi hb,key i' lg fX]
 ·intro i hi;rw[hH];by_cases e:i=j
  ·subst e;simp only[if_true];rw[bO];exact hk _ cH
  ·have:i∈ks:=by simpa[e]using hi
   rw[cJ e];simp only[e,this,if_false,if_true,sZ];exact .dead
theorem pM{as:List CV}{vs:List Value}{f:List Nat}(h:Den w ok as vs f)(n:Nat):∃f1 f2,f=f1++f2/\Den w ok (as.take n) (vs.take n) f1/\Den w ok (as.drop n) (vs.drop n) f2:=by
 rw[<-List.take_append_drop n as]at h;obtain⟨us,ts,g,k,rfl,rfl,h1,h2⟩:=h.split;have hl:=h1.length;by_cases hn:n≤as.length
 ·have hul:us.length=n:=by rw[<-hl,aq];omega
  refine⟨g,k,rfl,?_,?_⟩
  ·rw[List.take_left' hul];exact h1
  ·rw[List.drop_left' hul];exact h2
 ·have Xc:=h2;rw[List.drop_of_length_le (by omega)]at Xc;cases Xc;have:us.length≤n:=by rw[<-hl,aq];omega
  refine⟨g,[],by simp,?_,?_⟩
  ·rw[List.append_nil,ar this];exact h1
  ·rw[List.append_nil,List.drop_of_length_le this,List.drop_of_length_le (by omega)];exact .nil
theorem xz{as bs:List CV}{vs us:List Value}{f g:List Nat}(h:Den w ok as vs f)(k:Den w ok bs us g)(off:Nat):
 ∃f1 f2 f3,f=f1++f2++f3/\Den w ok (bo as off bs) (bo vs off us) (f1++g++f3):=by
 obtain⟨f1,fr,rfl,h1,h2⟩:=pM h off;obtain⟨f2,f3,rfl,_,h4⟩:=pM h2 bs.length;refine⟨f1,f2,f3,by simp,?_⟩;unfold bo;rw[List.drop_drop]at h4;have e:List.drop bs.length (List.drop off vs)=List.drop (off+us.length) vs:=by rw[List.drop_drop,k.length]
 rw[e]at h4;exact(h1.append k).append h4
theorem oL{t:Nat}{i:iZ}(hk:vM P t i){b o ty:Nat}{arr:Array Value}{v:Value}(hb:w.heap[b]? =some (.cells arr ty (0,0)))(hl:v.cells.size=i.size)
 (wO:o+v.cells.size≤arr.size)(jS:∀x∈v.cells.toList,x.oneCell'=true):
 (Instr.storeAt t (.pointer (some ⟨b,o,none⟩)) v).run P w= .ok () (w.setRow b (bo arr.toList o v.cells.toList).toArray):=by
 have h:=run_storeCells_at P b o ty v.cells.toList 0 arr w hb (by simpa using wO) jS;simp only[Nat.add_zero]at h;simp[Instr.storeAt,Instr.sureAddr,storeVar,xY hk,hl,h,bo]
def Pj(Γ:Cx)(H:HM)(ρ:RM)(F:FM)(w:World)(K:iT->Prop)(r:Result Unit):Prop:=
 ∃E F' w',K E/\r= .ok () w'/\E.sv= .any/\Mem Γ (du E.ws H) ρ F' w'/\(∀b,bg Γ F w b->bg Γ F' w' b)/\ ∀b,bg Γ F w b->w'.heap[b]? =w.heap[b]?
theorem Ql(hm:Mem Γ H ρ F w){j b ty:Nat}{k:dW}{v:Value}{arr iy:Array Value}(hρ:ρ j=some v)(hF:F j=[b])(hb:w.heap[b]? =some (.cells arr ty (0,0)))
 (hk:∀w',w'.heap[b]? =some (.cells iy ty (0,0))->(∀c,bg Γ F w c->w'.heap[c]? =w.heap[c]?)->dH ρ w' (bg Γ F w) k (some v) [b]):
 ∃F',Mem Γ (dY H j k) ρ F' (w.setRow b iy)/\(∀c,bg Γ F w c->bg Γ F' (w.setRow b iy) c)/\ ∀c,bg Γ F w c->(w.setRow b iy).heap[c]? =w.heap[c]? :=by
 have pH:b∈F j:=by simp[hF]
 have jr:∀c,bg Γ F w c->c≠b:=fun c hc e=>hc.2.2 ⟨j,e▸pH⟩
 have hs:∀c,bg Γ F w c->(w.setRow b iy).heap[c]? =w.heap[c]? :=fun c hc=>setRow_other w b c iy (jr c hc)
 obtain⟨h1,h2,h3⟩:=hm.set (j:=j) (w':=w.setRow b iy) rfl rfl rfl (by simp) (fun c _ hc=>setRow_other w b c iy (by rintro rfl;exact hc (by simp[hF])))
  (k:=k) (f:=[b]) (fun c hc=> .inl (by rw[hF];exact hc)) (by simp) (by rw[hρ];exact hk _ (setRow_heap w b arr iy ty (0,0) hb) hs)
 exact⟨_,h1,h2,h3⟩
theorem Uv{ok:Nat->Prop}(hB:∀i,H i= .dead\/dH ρ w ok (H i) (ρ i) (F i)){j t e:Nat}{s:ByteArray}(h:H j= .jB t e s):
 ∃(b:Nat) (p v:Value),ρ j=some (.pointer (some ⟨b,0,none⟩))/\(p= .pointer none\/p= .pointer (some ⟨b,0,none⟩))/\w.heap[b]? =some (.cells #[p,v] t (0,0))/\w.ownsRow 0 e 1 v s.size (Lib.strCells s)/\F j=b::v.ownBlock.toList:=by
 have h0:dH ρ w ok (H j) (ρ j) (F j):=(hB j).resolve_left (by rw[h];simp);rw[h]at h0;generalize ρ j=u at h0;generalize F j=f at h0;cases h0 with
 |jB hp hb ho=>exact⟨_,_,_,rfl,hp,hb,ho,rfl⟩
theorem EY(dC:en P tbl)(hm:Mem Γ H ρ F w)(hle:n9 Hm H){t:Nat}{p x:SV}{pv v:Value}{K:iT->Prop}(h:Ag tbl t p x Hm K)
 (hp:bJ ρ w (bg Γ F w) p pv)(hx:bJ ρ w (bg Γ F w) x v):Pj Γ H ρ F w K ((Instr.storeAt t pv v).run P w):=by
 unfold Ag at h;split at h
 ·exact h.elim
 rename_i i hi;have hk:=dC _ _ hi;obtain⟨ca,cc,cm,c1⟩:=nD hx;have hB:=hm.hb hle;split at h
 ·rename_i j off;obtain⟨b,hρ,rfl⟩:=uD hp;split at h
  ·rename_i sz cs hj;obtain⟨b',ty,arr,im,hh,hl,bw,hF⟩:=HC hB hj;rw[hρ]at im;simp only[Option.some.injEq,Value.pointer.injEq,Addr.mk.injEq,and_true]at im;subst im;have zp:arr.size=sz:=by rw[<-hl,bw.length];simp
   have done:∀{kb:dW} {o:Nat},K (wr j kb)->v.cells.size=i.size->o+v.cells.size≤arr.size->(∀x∈v.cells.toList,x.oneCell'=true)->off=o->
    (∀w',w'.heap[b]? =some (.cells (bo arr.toList o v.cells.toList).toArray ty (0,0))->(∀c,bg Γ F w c->w'.heap[c]? =w.heap[c]?)->dH ρ w' (bg Γ F w) kb (some (.pointer (some ⟨b,0,none⟩))) [b])->
    Pj Γ H ρ F w K ((Instr.storeAt t (.pointer (some ⟨b,off,none⟩)) v).run P w):=by
        intro kb o hK gC wO jS e hd;subst e;obtain⟨F',g1,g2,g3⟩:=Ql hm hρ hF hh hd;exact⟨_,F',_,hK,oL hk hh gC wO jS,rfl,g1,g2,g3⟩
   split at h
   ·rename_i n dn;obtain⟨hn,hd⟩:=ca _ _ rfl;have Wg:v.cells.size=n:=by rw[<-hn,hd.length];simp
    cases kg:Nat.beq n i.size with
    |false=>rw[kg]at h;exact h.elim
    |true=>
     rw[kg]at h;have e1:=ae kg;cases nN:(Nat.beq off 0&&Nat.beq n sz)with
     |true=>
      rw[nN]at h;simp only[ab]at nN;have e2:=ae nN.1;have e3:=ae nN.2;refine done h (by omega) (o:=0) (by omega) hd.one e2 fun w' qD hs=>?_
      rw[pR (by simp;omega)]at qD;exact .cc qD hn (by simpa using uF hd hs)
     |false=>
      rw[nN]at h;cases hb3:Nat.ble (off+n) sz with
      |false=>rw[hb3]at h;exact h.elim
      |true=>
       rw[hb3]at h;have e3:=Nat.le_of_ble_eq_true hb3;exact done h (by omega) (by omega) hd.one rfl fun w' qD hs=> .cc qD (by rw[il (by omega)];exact hl) (by simpa using uF (y2 bw hd off) hs)
   ·rename_i c;have hd:=cc _ rfl;have Wg:v.cells.size=1:=by have:=hd.length;simp at this;omega
    cases kg:(Nat.beq 1 i.size&&Nat.blt off sz)with
    |false=>rw[kg]at h;exact h.elim
    |true=>
     rw[kg]at h;simp only[ab]at kg;have e1:=ae kg.1;have e2:off<sz:=by have:=kg.2;rwa[Nat.blt_eq]at this
     exact done h (by omega) (by omega) hd.one rfl fun w' qD hs=> .cc qD (by rw[il (by simp;omega)];exact hl) (by simpa using uF (y2 bw hd off) hs)
   ·rename_i dn;have hd:=cm _ rfl;have Wg:v.cells.size=dn.length:=by have:=hd.1;simp at this;omega
    cases kg:Nat.beq dn.length i.size with
    |false=>rw[kg]at h;exact h.elim
    |true=>
     rw[kg]at h;have e1:=ae kg;cases nN:(Nat.beq off 0&&Nat.beq dn.length sz)with
     |true=>
      rw[nN]at h;simp only[ab]at nN;have e2:=ae nN.1;have e3:=ae nN.2;refine done h (by omega) (o:=0) (by omega) hd.one e2 fun w' qD hs=>?_
      rw[pR (by simp;omega)]at qD;have:=sk hd hs;exact eX qD (by simpa using this.1) (by simpa using this.2)
     |false=>
      rw[nN]at h;cases hb3:Nat.ble (off+dn.length) sz with
      |false=>rw[hb3]at h;exact h.elim
      |true=>
       rw[hb3]at h;have e3:=Nat.le_of_ble_eq_true hb3;refine done h (by omega) (by omega) hd.one rfl fun w' qD hs=>?_
       have:=sk ((PW.DW (ρ:=ρ) bw).bo hd off) hs;exact eX qD (by simpa using this.1) (by simpa using this.2)
   ·cases kg:(qy x&&(Nat.beq 1 i.size&&Nat.blt off sz))with
    |false=>rw[kg]at h;exact h.elim
    |true=>
     rw[kg]at h;simp only[ab]at kg;have hd:=c1 kg.1;have Wg:v.cells.size=1:=by have:=hd.1;simp at this;omega
     have e1:=ae kg.2.1;have e2:off<sz:=by have:=kg.2.2;rwa[Nat.blt_eq]at this
     refine done h (by omega) (by omega) hd.one rfl fun w' qD hs=>?_
     have:=sk ((PW.DW (ρ:=ρ) bw).bo hd off) hs;exact .cells qD (by simpa using this.1) (by simpa using this.2)
  ·rename_i cs hj;obtain⟨b',ty,arr,im,hh,hl,bw,hF⟩:=mO hB hj;rw[hρ]at im;simp only[Option.some.injEq,Value.pointer.injEq,Addr.mk.injEq,and_true]at im;subst im;have hpw:PW (b9 ρ w (bg Γ F w)) cs arr.toList:=⟨hl,bw⟩;have zp:arr.size=cs.length:=by rw[hl];simp
   have done:∀{kb:dW} {o:Nat},K (wr j kb)->v.cells.size=i.size->o+v.cells.size≤arr.size->(∀x∈v.cells.toList,x.oneCell'=true)->off=o->
    (∀w',w'.heap[b]? =some (.cells (bo arr.toList o v.cells.toList).toArray ty (0,0))->(∀c,bg Γ F w c->w'.heap[c]? =w.heap[c]?)->dH ρ w' (bg Γ F w) kb (some (.pointer (some ⟨b,0,none⟩))) [b])->
    Pj Γ H ρ F w K ((Instr.storeAt t (.pointer (some ⟨b,off,none⟩)) v).run P w):=by
        intro kb o hK gC wO jS e hd;subst e;obtain⟨F',g1,g2,g3⟩:=Ql hm hρ hF hh hd;exact⟨_,F',_,hK,oL hk hh gC wO jS,rfl,g1,g2,g3⟩
   split at h
   ·rename_i n dn;obtain⟨hn,hd⟩:=ca _ _ rfl;have Wg:v.cells.size=n:=by rw[<-hn,hd.length];simp
    cases kg:Nat.beq n i.size with
    |false=>rw[kg]at h;exact h.elim
    |true=>
     rw[kg]at h;have e1:=ae kg;cases nN:(Nat.beq off 0&&Nat.beq n cs.length)with
     |true=>
      rw[nN]at h;simp only[ab]at nN;have e2:=ae nN.1;have e3:=ae nN.2;refine done h (by omega) (o:=0) (by omega) hd.one e2 fun w' qD hs=>?_
      rw[pR (by simp;omega)]at qD;exact .cc qD hn (by simpa using uF hd hs)
     |false=>
      rw[nN]at h;cases hb3:Nat.ble (off+n) cs.length with
      |false=>rw[hb3]at h;exact h.elim
      |true=>
       rw[hb3]at h;have e3:=Nat.le_of_ble_eq_true hb3;refine done h (by omega) (by omega) hd.one rfl fun w' qD hs=>?_
       have:=sk (hpw.bo (PW.DW (ρ:=ρ) hd) off) hs;exact eX qD (by simpa using this.1) (by simpa using this.2)
   ·rename_i dn;have hd:=cm _ rfl;have Wg:v.cells.size=dn.length:=by have:=hd.1;simp at this;omega
    cases kg:(Nat.beq dn.length i.size&&Nat.ble (off+dn.length) cs.length)with
    |false=>rw[kg]at h;exact h.elim
    |true=>
     rw[kg]at h;simp only[ab]at kg;have e1:=ae kg.1;have e2:=Nat.le_of_ble_eq_true kg.2;refine done h (by omega) (by omega) hd.one rfl fun w' qD hs=>?_
     have:=sk (hpw.bo hd off) hs;exact eX qD (by simpa using this.1) (by simpa using this.2)
   ·cases kg:(qy x&&(Nat.beq 1 i.size&&Nat.blt off cs.length))with
    |false=>rw[kg]at h;exact h.elim
    |true=>
     rw[kg]at h;simp only[ab]at kg;have hd:=c1 kg.1;have Wg:v.cells.size=1:=by have:=hd.1;simp at this;omega
     have e1:=ae kg.2.1;have e2:off<cs.length:=by have:=kg.2.2;rwa[Nat.blt_eq]at this
     refine done h (by omega) (by omega) hd.one rfl fun w' qD hs=>?_
     have:=sk (hpw.bo hd off) hs;exact eX qD (by simpa using this.1) (by simpa using this.2)
  ·rename_i t' e sb hj;split at h
   case h_2=>exact h.elim
   rename_i k;split at h
   case h_2=>exact h.elim
   rename_i o' e' sz sY;cases kg:((Nat.beq e e'&&Nat.beq sz 1)&&(Nat.beq off 0&&Nat.beq 2 i.size))with
   |false=>rw[kg]at h;exact h.elim
   |true=>
    rw[kg]at h;simp only[ab]at kg;obtain⟨⟨q1,q2⟩,q3,q4⟩:=kg;obtain rfl:=ae q1;obtain rfl:=ae q2;obtain rfl:=ae q3;have q4:=ae q4;obtain⟨b',p,u,im,uZ,hh,ho,hFj⟩:=Uv hB hj;rw[hρ]at im;simp only[Option.some.injEq,Value.pointer.injEq,Addr.mk.injEq,and_true]at im;subst im;have hd:=cm _ rfl;have Nz:v.cells.toList.length=2:=hd.1.symm;obtain⟨x0,x1,hv⟩:∃x0 x1,v.cells.toList=[x0,x1]:=by
     match hvc:v.cells.toList,Nz with
     |[x0,x1],_=>exact⟨x0,x1,rfl⟩
    have d0:b9 ρ w (bg Γ F w) (.c (.val (.pointer none))) x0:=hd.2 0 _ _ rfl (by rw[hv];rfl);have d1:b9 ρ w (bg Γ F w) (.lw k) x1:=hd.2 1 _ _ rfl (by rw[hv];rfl);have e0:x0= .pointer none:=by cases d0 with|c hh2=>exact fD hh2
    subst e0;obtain⟨rv,xs,jX,ho2,hr,bw,BD,U9⟩:=jx hB sY;have e1:x1=rv:=by
     cases d1 with
     |lw hh2=>rw[jX]at hh2;exact(Option.some.inj hh2).symm
    subst e1;have qC:xs=[]:=by cases bw;rfl
    subst qC;have vx:j≠k:=by
     rintro rfl;rw[hj]at sY;cases sY
    have gC:v.cells.size=i.size:=by rw[<-q4,<-Nz];simp
    have fu:=oL (P:=P) (w:=w) hk hh gC (o:=0) (by rw[gC,<-q4];simp) hd.one;have aaI:(bo (#[p,u]:Array Value).toList 0 v.cells.toList).toArray= #[.pointer none,x1]:=by rw[hv];rfl
    rw[aaI]at fu;have E8:b∈F j:=by rw[hFj];simp
    have T1:b∉F k:=fun hb=>vx (hm.kO j k b E8 hb)
    have ho3:(w.setRow b #[.pointer none,x1]).ownsRow 0 e 1 x1 0 []:=kj ho2 fun c hc=>setRow_other w b c _ (by rintro rfl;exact T1 (by rw[BD];simp[hc]))
    obtain⟨g1,g2,g3⟩:=hm.qT (j:=j) (ks:=[k]) (k:= .jB t' e ByteArray.empty) (f:=b::x1.ownBlock.toList) (ρ':=ρ) (w':=w.setRow b #[.pointer none,x1]) rfl rfl rfl (by simp) (Ext.refl _) (fun _ _=>rfl) (by simpa using vx)
     (fun c _ hc _=>setRow_other w b c _ (by rintro rfl;exact hc E8))
     (fun c hc=>by
      rcases List.mem_cons.1 hc with rfl|hc
      ·exact .inl E8
      ·exact .inr (.inl ⟨k,by simp,by rw[BD];exact hc⟩))
     (by
      rw[List.nodup_cons];refine⟨fun hb=>T1 (by rw[BD];exact hb),?_⟩;cases x1.ownBlock<;>simp)
     (fun ok' _=>by
      rw[hρ];exact .jB (.inl rfl) (setRow_heap w b _ _ _ (0,0) hh) ho3)
    exact⟨_,_,_,h,fu,rfl,g1,g2,g3⟩
  ·exact h.elim
 ·rename_i j sz idx off;obtain⟨b,n0,c0,hρ,rfl⟩:=Nh hp;split at h
  ·exact h.elim
  rename_i dn Ic;have hd:=yh hB Ic hx;have key:∀{ty:Nat} {rows:List (List CV)} {xs:List Value} {f:List Nat} {o:Option Value} (K':List (List CV)->Prop),w.ownsRow 0 ty sz (.slice (some ⟨b,0,none⟩) n0 c0) rows.length xs->(∀r∈rows,r.length=sz)->
        Den w (bg Γ F w) rows.flatten xs f->F j=b::f->(j::lk x).Nodup->xG sz rows idx off i.size dn K'->
        ∃dr w' f' MD,K' dr/\(Instr.storeAt t (.pointer (some ⟨b,idx*sz+off,none⟩)) v).run P w= .ok () w'/\w'.os=w.os/\w'.tape=w.tape/\w'.output=w.output/\w.heap.size≤w'.heap.size/\
         (∀c,c<w.heap.size->c∉F j->w'.heap[c]? =w.heap[c]?)/\(∀c∈b::f',c∈F j\/(∃k∈lk x,c∈F k))/\(b::f').Nodup/\(lk x=[]->f=[]->f'=[])/\
         (∀r∈dr,r.length=sz)/\w'.ownsRow 0 ty sz (.slice (some ⟨b,0,none⟩) n0 c0) dr.length MD/\Den w' (bg Γ F w) dr.flatten MD f':=by
   intro ty rows xs f o K' ho hr bw hF gB h;obtain⟨WM,XP⟩:=ho;rcases XP with⟨e,_⟩|⟨g,cap,cur,e,_,hh,ZT,Zf,abJ,wi⟩
   ·cases e
   ·simp only[Value.slice.injEq,Option.some.injEq,Addr.mk.injEq,and_true]at e;obtain⟨rfl,rfl,rfl⟩:=e;have h:=Mo h;cases kg:Nat.beq dn.length i.size with
    |false=>rw[kg]at h;exact h.elim
    |true=>
    rw[kg]at h;have e1:=ae kg;obtain⟨r,O4,h⟩:=h;have sU:=hr r (List.mem_of_getElem? O4);have Wg:v.cells.size=dn.length:=by have:=hd.length;simp at this;omega
    obtain⟨wO,hK⟩:off+dn.length≤sz/\K' (rows.set idx (bo r off dn)):=by
     cases nN:(Nat.beq off 0&&Nat.beq dn.length sz)with
     |true=>
      rw[nN]at h;simp only[ab]at nN;have e2:=ae nN.1;have e3:=ae nN.2;exact⟨by omega,by rw[e2,pR (by omega)];exact h⟩
     |false=>
      rw[nN]at h;cases hb3:Nat.ble (off+dn.length) sz with
      |false=>rw[hb3]at h;exact h.elim
      |true=>
       rw[hb3]at h;exact⟨Nat.le_of_ble_eq_true hb3,h⟩
    have Bu:=(List.getElem?_eq_some_iff.1 O4).1;have hbound:idx*sz+sz≤rows.length*sz:=by rw[<-Nat.succ_mul];exact Nat.mul_le_mul_right _ Bu
    have aec:rows.length*sz≤c0*sz:=Nat.mul_le_mul_right _ ZT;have uS:(rows.set idx (bo r off dn)).flatten=bo rows.flatten (idx*sz+off) dn:=by
     have e0:rows=rows.take idx++r::rows.drop (idx+1):=by
      obtain⟨h1,h2⟩:=List.getElem?_eq_some_iff.1 O4;rw[<-h2];simp
     have e1:rows.set idx (bo r off dn)=rows.take idx++bo r off dn::rows.drop (idx+1):=by
      rw[List.set_eq_take_append_cons_drop];simp[Bu]
     have eu:(rows.take idx).flatten.length=idx*sz:=by
      rw[fE fun r my=>hr r (List.mem_of_mem_take my),aq]
      congr 1
      omega
     rw[e1]
     conv=>rhs;rw[e0]
     simp only[List.flatten_append,List.flatten_cons];unfold bo;rw[List.take_append,eu,List.take_of_length_le (l:=(rows.take idx).flatten) (by omega),show idx*sz+off-idx*sz=off by omega,List.take_append,List.drop_append,eu,
      List.drop_of_length_le (l:=(rows.take idx).flatten) (by omega),show idx*sz+off+dn.length-idx*sz=off+dn.length by omega,List.drop_append,
      show off-r.length=0 by omega,show off+dn.length-r.length=0 by omega]
     simp
    obtain⟨f1,f2,f3,rfl,Rz⟩:=xz bw hd (idx*sz+off);rw[<-uS]at Rz;have P1:(b::(f1++f2++f3)).Nodup:=by rw[<-hF];exact hm.nodup j
    rw[List.nodup_cons]at gB;have hgn:=nc hm gB.2;have hgj:∀c∈(lk x).flatMap F,c∉F j:=by
     intro c hc hcj;obtain⟨k,RZ,MJ⟩:=List.mem_flatMap.1 hc;exact gB.1 (hm.kO j k c hcj MJ▸RZ)
    have gC:v.cells.size=i.size:=by omega
    have Sp:∀c∈f1++(lk x).flatMap F++f3,c≠b:=by
     rintro c hc rfl;rw[List.nodup_cons]at P1;simp only[ao]at hc;rcases hc with(hc|hc)|hc
     ·exact P1.1 (by simp[hc])
     ·exact hgj c hc (by rw[hF];simp)
     ·exact P1.1 (by simp[hc])
    have pH:b∈F j:=by simp[hF]
    have jr:∀c,bg Γ F w c->c≠b:=fun c hc e=>hc.2.2 ⟨j,e▸pH⟩
    have oT:∀q∈rows.set idx (bo r off dn),q.length=sz:=by
     intro q hq;rcases List.mem_or_eq_of_mem_set hq with h1|h1
     ·exact hr q h1
     ·rw[h1,il (by omega)];exact sU
    have XM:Den (w.setRow b (bo cur.toList (idx*sz+off) v.cells.toList).toArray) (bg Γ F w) (rows.set idx (bo r off dn)).flatten (bo xs (idx*sz+off) v.cells.toList) (f1++(lk x).flatMap F++f3):=
     Rz.mono (fun c hc=>setRow_other w b c _ (jr c hc)) (fun _ h=>h) fun c hc=>setRow_other w b c _ (Sp c hc)
    refine⟨_,w.setRow b (bo cur.toList (idx*sz+off) v.cells.toList).toArray,f1++(lk x).flatMap F++f3,bo xs (idx*sz+off) v.cells.toList,hK,oL hk hh gC (by omega) hd.one,rfl,rfl,rfl,by simp,
     fun c _ hc=>setRow_other w b c _ (by rintro rfl;exact hc pH),?_,?_,?_,oT,?_,XM⟩
    ·intro c hc;simp only[List.mem_cons,ao]at hc;rcases hc with rfl|(hc|hc)|hc
     ·exact .inl pH
     ·exact .inl (by rw[hF];simp[hc])
     ·obtain⟨k,RZ,MJ⟩:=List.mem_flatMap.1 hc;exact .inr ⟨k,RZ,MJ⟩
     ·exact .inl (by rw[hF];simp[hc])
    ·rw[List.nodup_cons];refine⟨fun hc=>Sp b hc rfl,?_⟩;rw[List.nodup_cons]at P1;have h3:=P1.2;rw[List.nodup_append,List.nodup_append]at h3;obtain⟨⟨n1,_,_⟩,n3,n4⟩:=h3;rw[List.nodup_append,List.nodup_append];refine⟨⟨n1,hgn,fun a ha c hc e=>?_⟩,n3,fun a ha c hc e=>?_⟩
     ·subst e;exact hgj a hc (by rw[hF];simp[ha])
     ·subst e;rcases ao.1 ha with ha|ha
      ·exact n4 a (by simp[ha]) a hc rfl
      ·exact hgj a ha (by rw[hF];simp[hc])
    ·intro h1 h2;simp only[List.append_eq_nil_iff]at h2;simp[h1,h2.1.1,h2.2]
    ·refine⟨?_, .inr ⟨b,c0,_,by simp,ah _,setRow_heap w b cur _ ty (0,0) hh,by simpa using ZT,Zf,?_,?_⟩⟩
     ·rw[<-XM.length,fE oT]
     ·simp only[List.size_toArray];rw[il (by simp;omega)];simpa using abJ
     ·rw[<-wi];unfold bo;simp only[af];rw[List.take_append,List.take_append,List.take_take,List.take_take,List.drop_take,ai,aq];simp only[Array.length_toList];rw[show min (idx*sz+off) (rows.length*sz)=idx*sz+off by omega,show min (rows.length*sz) (idx*sz+off)=idx*sz+off by omega,
       List.take_of_length_le (l:=v.cells.toList) (by simp;omega)]
      rw[show min (idx*sz+off) cur.size=idx*sz+off by omega]
  split at h
  ·rename_i o ty fN rows hj;obtain⟨rv,xs,jX,ho,hr,bw,hF,hv⟩:=jx hB hj;rw[hρ]at jX;simp only[Option.some.injEq]at jX;subst jX;cases hb:Nat.beq sz fN with
   |false=>rw[hb]at h;exact h.elim
   |true=>
    rw[hb]at h;have:=ae hb;subst this;simp only[cond]at h;have I5:F j=b::[]:=by rw[hF];rfl
    split at h
    ·rename_i hl;obtain⟨dr,w',f',MD,hK,fu,e1,e2,e3,e4,e5,e6,e7,e8,e9,Zg,Oc⟩:=key (o:=o) _ ho hr bw I5 (by rw[hl];simp) h;have:=e8 hl rfl;subst this;obtain⟨g1,g2,g3⟩:=hm.qT (j:=j) (ks:=[]) (k:= .row o ty sz dr) (f:=[b]) (ρ':=ρ) e1 e2 e3 e4 (Ext.refl _) (fun _ _=>rfl) (by simp) (fun c h1 h2 _=>e5 c h1 h2) (fun c hc=>(e6 c hc).imp_right fun h=>by simp[hl]at h) e7
      (fun ok' iu=>by rw[hρ];exact .row Zg e9 (Oc.mono (fun _ _=>rfl) iu (by simp)) hv)
     exact⟨_,_,w',hK,fu,rfl,g1,g2,g3⟩
    ·cases gB:gK (j::lk x)with
     |false=>rw[gB]at h;exact h.elim
     |true=>
      rw[gB]at h;have Ap:=gm gB;obtain⟨dr,w',f',MD,hK,fu,e1,e2,e3,e4,e5,e6,e7,e8,e9,Zg,Oc⟩:=key (o:=o) _ ho hr bw I5 Ap h;obtain⟨g1,g2,g3⟩:=hm.qT (j:=j) (ks:=lk x) (k:= .aU o ty sz dr) (f:=b::f') (ρ':=ρ) e1 e2 e3 e4 (Ext.refl _) (fun _ _=>rfl) (List.nodup_cons.1 Ap).1 (fun c h1 h2 _=>e5 c h1 h2) (fun c hc=>(e6 c hc).imp_right .inl) e7
       (fun ok' iu=>by rw[hρ];exact .aU Zg e9 (Oc.mono (fun _ _=>rfl) iu (fun _ _=>rfl)) hv)
      exact⟨_,_,w',hK,fu,rfl,g1,g2,g3⟩
  ·rename_i o ty fN rows hj;obtain⟨rv,xs,f,jX,ho,hr,bw,hF,hv⟩:=et hB hj;rw[hρ]at jX;simp only[Option.some.injEq]at jX;subst jX;cases hb:Nat.beq sz fN with
   |false=>rw[hb]at h;exact h.elim
   |true=>
    rw[hb]at h;have:=ae hb;subst this;simp only[cond]at h;have I5:F j=b::f:=by rw[hF];rfl
    cases gB:gK (j::lk x)with
    |false=>rw[gB]at h;exact h.elim
    |true=>
     rw[gB]at h;have Ap:=gm gB;obtain⟨dr,w',f',MD,hK,fu,e1,e2,e3,e4,e5,e6,e7,e8,e9,Zg,Oc⟩:=key (o:=o) _ ho hr bw I5 Ap h;obtain⟨g1,g2,g3⟩:=hm.qT (j:=j) (ks:=lk x) (k:= .aU o ty sz dr) (f:=b::f') (ρ':=ρ) e1 e2 e3 e4 (Ext.refl _) (fun _ _=>rfl) (List.nodup_cons.1 Ap).1 (fun c h1 h2 _=>e5 c h1 h2) (fun c hc=>(e6 c hc).imp_right .inl) e7
      (fun ok' iu=>by rw[hρ];exact .aU Zg e9 (Oc.mono (fun _ _=>rfl) iu (fun _ _=>rfl)) hv)
     exact⟨_,_,w',hK,fu,rfl,g1,g2,g3⟩
  ·exact h.elim
 ·exact h.elim
end
end Go.KA
