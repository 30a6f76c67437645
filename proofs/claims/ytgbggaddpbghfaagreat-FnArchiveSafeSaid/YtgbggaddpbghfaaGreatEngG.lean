/- Part of a proof engine for functions of the given program: what an operation, a loop and a call compute, symbolically. No conditions. -/
import Derived.Test.YtgbggaddpbghfaaGreatEngF
namespace Go.KA
open Go Go.RowKit
theorem zx(off:Nat):∀(l:List Value) (k:Nat) (cells:List Value),off+k+l.length≤cells.length->
 (l.zipIdx k).foldl (fun cs p=>cs.set (off+p.2) p.1) cells=cells.take (off+k)++l++cells.drop (off+k+l.length)
 |[],k,cells,_=>by simp
 |x::l,k,cells,h=>by
  simp only[List.length_cons]at h;simp only[List.zipIdx_cons,List.foldl_cons];rw[zx off l (k+1) _ (by simp;omega)];have h1:(cells.set (off+k) x).take (off+(k+1))=cells.take (off+k)++[x]:=by
   rw[show off+(k+1)=off+k+1 by omega,List.take_add_one];rw[List.take_set_of_le (aw _),List.getElem?_set_self (by omega)];rfl
  have h2:(cells.set (off+k) x).drop (off+(k+1)+l.length)=cells.drop (off+k+(x::l).length):=by
   rw[List.drop_set_of_lt (by omega)]
   congr 1
   simp;omega
  rw[h1,h2];simp
theorem Ny(off:Nat)(cells:Array Value)(l:List (Value × Nat)):(l.foldl (fun cs p=>cs.setIfInBounds (off+p.2) p.1) cells).toList=l.foldl (fun cs p=>cs.set (off+p.2) p.1) cells.toList:=by
 induction l generalizing cells with
 |nil=>rfl
 |cons p l ih=>simp only[List.foldl_cons];rw[ih];simp
theorem EB(off:Nat)(cells vs:Array Value)(h:off+vs.size≤cells.size):
 (vs.zipIdx.foldl (fun cs (c,j)=>cs.setIfInBounds (off+j) c) cells).toList=bo cells.toList off vs.toList:=by
 have e:vs.zipIdx.foldl (fun cs (c,j)=>cs.setIfInBounds (off+j) c) cells=(vs.toList.zipIdx 0).foldl (fun cs p=>cs.setIfInBounds (off+p.2) p.1) cells:=by
  rw[<-Array.foldl_toList,Array.toList_zipIdx]
 rw[e,Ny,zx off vs.toList 0 cells.toList (by simpa using h)];simp[bo]
section
variable{P:Program}{tbl:TT}{Γ:Cx}{H Hm:HM}{ρ:RM}{F:FM}{w:World}
theorem BZ{place:Nat->Option (Nat × Nat)}{cells:Array Value}{i:Nat}{v:Value}{rest:List (Nat × Value)}{off:Nat}(hp:place i=some (off,v.cells.size))(wO:off+v.cells.size≤cells.size):
 ∃DY,DY.toList=bo cells.toList off v.cells.toList/\Instr.fill place cells ((i,v)::rest)=Instr.fill place DY rest:=by
 refine⟨_,EB off cells v.cells wO,?_⟩;simp[Instr.fill,hp,show¬cells.size<off+v.cells.size by omega]
def mC(ρ:RM)(w:World)(ok:Nat->Prop)(ps:List (Nat × SV))(vs:List (Nat × Value)):Prop:=
 ps.length=vs.length/\ ∀(j:Nat) p v,ps[j]? =some p->vs[j]? =some v->p.1=v.1/\bJ ρ w ok p.2 v.2
theorem mC.tail{ok:Nat->Prop}{p:Nat × SV}{ps:List (Nat × SV)}{v:Nat × Value}{vs:List (Nat × Value)}(h:mC ρ w ok (p::ps) (v::vs)):mC ρ w ok ps vs:=
 ⟨by simpa using h.1,fun j a b ha hb=>h.2 (j+1) a b ha hb⟩
theorem yc{fields:List (Nat × Nat × Nat)}{ok:Nat->Prop}:∀{ps:List (Nat × SV)} {vs:List (Nat × Value)} {cells:List SV} {arr:Array Value} {cs:List SV},
 xM fields cells ps=some cs->PW (b9 ρ w ok) cells arr.toList->mC ρ w ok ps vs->
 ∃iy,Instr.fill ((fields.map fun x=>(x.1,x.2.2)).toArray[·]?) arr vs=some iy/\PW (b9 ρ w ok) cs iy.toList
 |[],vs,cells,arr,cs,h,hp,hq=>by
  simp[xM]at h;subst h;cases vs with
  |nil=>exact⟨arr,rfl,hp⟩
  |cons _ _=>exact absurd hq.1 (by simp)
 |(i,s)::ps,vs,cells,arr,cs,h,hp,hq=>by
  cases vs with
  |nil=>exact absurd hq.1 (by simp)
  |cons u vs=>
   obtain⟨i',v⟩:=u;obtain⟨e,hT⟩:=hq.2 0 _ _ rfl rfl;simp only at e hT;subst e;have RO:=hq.tail;simp only[xM]at h;split at h
   ·cases h
   ·rename_i off ft sz hf;have Vw:((fields.map fun x=>(x.1,x.2.2)).toArray[i]? :Option (Nat × Nat))=some (off,sz):=by simp[hf]
    obtain⟨ca,cc,cm,c1⟩:=nD hT;have step:∀(xs:List SV),PW (b9 ρ w ok) xs v.cells.toList->xs.length=sz->off+xs.length≤cells.length->xM fields (bo cells off xs) ps=some cs->
     ∃iy,Instr.fill ((fields.map fun x=>(x.1,x.2.2)).toArray[·]?) arr ((i,v)::vs)=some iy/\PW (b9 ρ w ok) cs iy.toList:=by
     intro xs hx hl wO hh;have gC:v.cells.size=sz:=by have:=hx.1;simp at this;omega
     have BC:cells.length=arr.size:=by rw[hp.1];simp
     obtain⟨OG,h1,h2⟩:=BZ (place:=((fields.map fun x=>(x.1,x.2.2)).toArray[·]?)) (cells:=arr) (i:=i) (v:=v) (rest:=vs) (off:=off) (by rw[Vw,gC]) (by omega);obtain⟨iy,h3,h4⟩:=yc (arr:=OG) hh (by rw[h1];exact hp.bo hx off) RO;exact⟨iy,by rw[h2];exact h3,h4⟩
    split at h
    ·rename_i n dn;obtain⟨hn,hd⟩:=ca _ _ rfl;cases hb:(Nat.beq n sz&&Nat.ble (off+n) cells.length)with
     |false=>rw[hb]at h;cases h
     |true=>
      rw[hb]at h;simp only[ab]at hb;have e1:=ae hb.1;have e2:=Nat.le_of_ble_eq_true hb.2;exact step _ (PW.DW hd) (by simp;omega) (by simp;omega) h
    ·rename_i dn;have hd:=cm _ rfl;cases hb:(Nat.beq dn.length sz&&Nat.ble (off+dn.length) cells.length)with
     |false=>rw[hb]at h;cases h
     |true=>
      rw[hb]at h;simp only[ab]at hb;have e1:=ae hb.1;have e2:=Nat.le_of_ble_eq_true hb.2;exact step _ hd e1 e2 h
    ·cases hb:(qy s&&(Nat.beq 1 sz&&Nat.blt off cells.length))with
     |false=>rw[hb]at h;cases h
     |true=>
      rw[hb]at h;simp only[ab]at hb;have hd:=c1 hb.1;have e1:=ae hb.2.1;have e2:off<cells.length:=by have:=hb.2.2;rwa[Nat.blt_eq]at this
      exact step _ hd (by simpa using e1) (by simp;omega) h
theorem DF(dC:en P tbl)(hm:Mem Γ H ρ F w){t n:Nat}{ps:List (Nat × SV)}{vs:Array (Nat × Value)}{K:iT->Prop}(h:Er tbl t ps n K)(nY:oc ρ n K)
 (hp:mC ρ w (bg Γ F w) ps vs.toList):um Γ H ρ F w n K ((Instr.build t vs).run P w):=by
 unfold Er at h;split at h
 ·exact h.elim
 rename_i i hi;have hk:=dC _ _ hi;cases hemp:i.fields.isEmpty with
 |true=>rw[hemp]at h;exact h.elim
 |false=>
 rw[hemp]at h;simp only[cond]at h;split at h
 case h_2=>exact h.elim
 rename_i cs Ic;obtain⟨inf,z,kX,hz,Yf,gC,_,jS⟩:=hk.zero;have hf:=nY _ h;obtain⟨ρ1,F1,h1,h2,h3,h4,h5⟩:=Mem.TG i.zero hm hf;have jr:i.fields≠[]:=by intro e;rw[e]at hemp;cases hemp
 obtain⟨fs,hu,dV⟩:=hk.VO jr;have K3:mC ρ1 w (bg Γ F1 w) ps vs.toList:=⟨hp.1,fun j p v YY hvj=>by
  obtain⟨e,hT⟩:=hp.2 j p v YY hvj;exact⟨e,hT.mono (fun _ _=>rfl) h4 h2⟩⟩
 obtain⟨iy,g1,g2⟩:=yc (arr:=z.cells) Ic ⟨by rw[Xp,Yf];simp,fun j s v hs hv=>by
  rw[Yf]at hv;exact h5 _ j s v hs hv jS⟩ K3
 have hb:P.built t vs.toList=some iy:=by
  unfold Program.built;simp only[kX,hu,hz,dV];exact g1
 exact⟨_,ρ1,F1,_,_,h,run_build w t vs iy hb,h2,h3,h1,h4,fun _ _=>rfl,by simpa using za g2.1 g2.2⟩
theorem Mem.KF(hm:Mem Γ H ρ F w){n:Nat}(h:ρ n=none):F n=[]/\H n= .dead:=by
 have:=hm.blocks n;rw[h]at this;generalize F n=f,H n=k at this;cases this;exact⟨rfl,rfl⟩
theorem kM(hm:Mem Γ H ρ F w)(hle:n9 Hm H){n k:Nat}(hn:ρ n=none)(hk:Hm k≠ .dead):k≠n:=by
 rintro rfl;rcases hle k with e|e
 ·exact hk e
 ·exact hk (e.trans (hm.KF hn).2)
theorem tA:∀{cs:List SV} {l:List CV},iL (jR Hm) cs=some l-> ∀k∈cs.flatMap iN,Hm k≠ .dead
 |[],_,_,k,hk=>by simp at hk
 |c::cs,l,h,k,hk=>by
  simp only[iL]at h;split at h
  ·rename_i y ys hy ud;simp only[List.flatMap_cons,ao]at hk;rcases hk with hk|hk
   ·exact p7 hy k hk
   ·exact tA ud k hk
  ·cases h
theorem Jc{s:SV}{l:List CV}(h:Cw Hm s=some l):∀k∈lk s,Hm k≠ .dead:=by
 unfold Cw at h;split at h
 ·simp[lk,iN]
 ·simpa[lk]using tA h
 ·rename_i n1 n2;split at h
  ·rename_i x hx;have hl:lk s=iN s:=by cases s<;>first|rfl|exact(n2 _ rfl).elim
   rw[hl];exact p7 hx
  ·cases h
theorem vS(hm:Mem Γ H ρ F w)(hle:n9 Hm H){sz:Nat}(gC:0<sz):∀{ps:List (Nat × SV)} {n:Nat} {vs:List (Nat × Value)} {rows:List (List CV)} {arr:Array Value} {xs:List Value} {pre:List CV} {fp:List Nat},
 rowsOf Hm sz n ps=some rows->mC ρ w (bg Γ F w) ps vs->n*sz≤arr.size->arr.toList.take (n*sz)=xs->Den w (bg Γ F w) pre xs fp->(n+ps.length)*sz≤arr.size->
 ∃iy MD,Instr.fill (fun i=>some (i*sz,sz)) arr vs=some iy/\iy.size=arr.size/\iy.toList.take ((n+ps.length)*sz)=MD/\
  Den w (bg Γ F w) (pre++rows.flatten) MD (fp++(ps.flatMap fun p=>lk p.2).flatMap F)/\rows.length=ps.length/\(∀r∈rows,r.length=sz)/\ ∀k∈ps.flatMap (fun p=>lk p.2),Hm k≠ .dead
 |[],n,vs,rows,arr,xs,pre,fp,h,hq,_,wi,hd,_=>by
  simp[rowsOf]at h;subst h;cases vs with
  |nil=>exact⟨arr,xs,rfl,rfl,by simpa using wi,by simpa using hd,rfl,by simp,by simp⟩
  |cons _ _=>exact absurd hq.1 (by simp)
 |(i,s)::ps,n,vs,rows,arr,xs,pre,fp,h,hq,hn,wi,hd,wO=>by
  cases vs with
  |nil=>exact absurd hq.1 (by simp)
  |cons u vs=>
   obtain⟨i',v⟩:=u;obtain⟨e,hT⟩:=hq.2 0 _ _ rfl rfl;simp only at e hT;subst e;simp only[rowsOf]at h;cases hb:Nat.beq i n with
   |false=>rw[hb]at h;cases h
   |true=>
    rw[hb]at h;have:=ae hb;subst this;simp only[cond]at h;split at h
    ·rename_i r rs hr IC;split at h
     case h_2=>cases h
     rename_i sU;have sU:=ae sU;injection h with h
     subst h;have h1:=yh (hm.hb hle) hr hT;have h0:=Jc hr;have h3:v.cells.size=sz:=by have:=h1.length;simp at this;omega
     have hlen:(i+(ps.length+1))*sz=i*sz+sz+ps.length*sz:=by rw[Nat.add_mul,Nat.succ_mul];omega
     simp only[List.length_cons]at wO;obtain⟨OG,g1,g2⟩:=BZ (place:=fun i=>some (i*sz,sz)) (cells:=arr) (i:=i) (v:=v) (rest:=vs) (off:=i*sz) (by rw[h3]) (by rw[h3];omega);have Ug:OG.size=arr.size:=by
      rw[<-Array.length_toList,g1,il (by simp;omega),Array.length_toList]
     have abV:OG.toList.take ((i+1)*sz)=xs++v.cells.toList:=by
      rw[g1,<-wi];unfold bo;rw[Nat.succ_mul,List.take_append,List.take_append,ai,aq];simp only[Array.length_toList];rw[show min (i*sz) arr.size=i*sz by omega,List.take_of_length_le (l:=List.take (i*sz) arr.toList) (by simp;omega),List.take_of_length_le (l:=v.cells.toList) (by simp;omega),
         show i*sz+sz-(i*sz+v.cells.size)=0 by omega]
      simp
     obtain⟨iy,MD,k1,k2,k3,k4,k5,k6,k7⟩:=vS hm hle gC (arr:=OG) (pre:=pre++r) (fp:=fp++(lk s).flatMap F) IC hq.tail (by rw[Ug,Nat.succ_mul];omega) abV (hd.append h1)
      (by rw[Ug,show i+1+ps.length=i+(ps.length+1) by omega];exact wO)
     refine⟨iy,MD,by rw[g2];exact k1,by rw[k2,Ug],?_,?_,by simp[k5],?_,?_⟩
     ·rw[<-k3,show i+1+ps.length=i+((i,s)::ps).length by simp;omega]
     ·simpa using k4
     ·intro q ZW;simp only[List.mem_cons]at ZW;rcases ZW with rfl|ZW
      ·exact sU
      ·exact k6 q ZW
     ·intro k hk;simp only[List.flatMap_cons,ao]at hk;rcases hk with hk|hk
      ·exact h0 k hk
      ·exact k7 k hk
    ·cases h
theorem Mem.newRow(hm:Mem Γ H ρ F w)(hle:n9 Hm H){n:Nat}(hn:ρ n=none){ks:List Nat}{k:dW}{ty sz cap len:Nat}{rows:List (List CV)}{arr:Array Value}{xs:List Value}(hlen:rows.length=len)(hc:len≤cap)(Zf:cap≤maxLen)(hs:arr.size=cap*sz)
 (wi:arr.toList.take (len*sz)=xs)(hr:∀r∈rows,r.length=sz)(hd:Den w (bg Γ F w) rows.flatten xs (ks.flatMap F))(IB:ks.Nodup)(KU:∀k∈ks,Hm k≠ .dead)
 (hk:(ks=[]/\k= .row none ty sz rows)\/k= .aU none ty sz rows):
 ∃F',Mem Γ (du (kp ks++[(n,k)]) H) (xi ρ n (.slice (some ⟨w.heap.size,0,none⟩) len cap)) F' (w.alloc (.cells arr ty))/\(∀b,bg Γ F w b->bg Γ F' (w.alloc (.cells arr ty)) b)/\
  (∀b,bg Γ F w b->(w.alloc (.cells arr ty)).heap[b]? =w.heap[b]?):=by
 have hb:=g7 w (.cells arr ty);have hFn:=(hm.KF hn).1;have ab1:n∉ks:=fun h=>kM hm hle hn (KU n h) rfl
 have Ye:∀b∈ks.flatMap F,b<w.heap.size:=fun b fX=>by
  obtain⟨i,_,hi⟩:=List.mem_flatMap.1 fX;exact hm.lt i b hi
 have pH:(w.alloc (.cells arr ty)).ownsRow 0 ty sz (.slice (some ⟨w.heap.size,0,none⟩) len cap) rows.length xs:=by
  subst hlen;refine⟨?_, .inr ⟨w.heap.size,cap,arr,rfl,ah _,wR w _,hc,Zf,hs,wi⟩⟩;rw[<-hd.length,fE hr]
 have qW:∀ok':Nat->Prop,(∀b,bg Γ F w b->ok' b)->Den (w.alloc (.cells arr ty)) ok' rows.flatten xs (ks.flatMap F):=fun ok' iu=>
  hd.mono (fun b fX=>hb.block b fX.1) iu fun b fX=>hb.block b (Ye b fX)
 obtain⟨g1,g2,g3⟩:=hm.qT (j:=n) (ks:=ks) (k:=k) (f:=w.heap.size::ks.flatMap F) (ρ':=xi ρ n (.slice (some ⟨w.heap.size,0,none⟩) len cap)) (w':=w.alloc (.cells arr ty)) hb.os hb.tape hb.output hb.size
  (gQ hn _) (fun i hi=>ox hi) ab1 (fun b fX _ _=>hb.block b fX)
  (fun b fX=>by
   rcases List.mem_cons.1 fX with rfl|fX
   ·exact .inr (.inr ⟨aw _,by simp⟩)
   ·obtain⟨i,h1,h2⟩:=List.mem_flatMap.1 fX;exact .inr (.inl ⟨i,h1,h2⟩))
  (by
   rw[List.nodup_cons];exact⟨fun hh=>by have:=Ye _ hh;omega,nc hm IB⟩)
  (fun ok' iu=>by
   rw[gP];rcases hk with⟨rfl,rfl⟩|rfl
   ·exact .row pH hr (qW ok' iu) (by simp)
   ·exact .aU pH hr (qW ok' iu) (by simp))
 exact⟨_,g1,g2,g3⟩
theorem vN(dC:en P tbl)(hm:Mem Γ H ρ F w)(hle:n9 Hm H){t len n:Nat}{ps:List (Nat × SV)}{vs:Array (Nat × Value)}{K:iT->Prop}(h:ou tbl t len ps Hm n K)(nY:oc ρ n K)
 (hp:mC ρ w (bg Γ F w) ps vs.toList):um Γ H ρ F w n K ((Instr.buildSlice t len vs).run P w):=by
 unfold ou at h;split at h
 ·exact h.elim
 rename_i i hi;have hk:=dC _ _ hi;split at h
 ·exact h.elim
 rename_i ll dw yg mT;obtain⟨hu,qa,inf,z,kX,gC,IH,hz,W5⟩:=hk.elem _ _ _ mT;split at h
 ·exact h.elim
 rename_i rows KS;cases hb:(Nat.beq rows.length len&&(Nat.beq ps.length len&&Nat.ble (len*dw) 16777216))with
 |false=>rw[hb]at h;exact h.elim
 |true=>
  rw[hb]at h;simp only[ab]at hb;have e1:=ae hb.1;have e2:=ae hb.2.1;have e3:=Nat.le_of_ble_eq_true hb.2.2;simp only[cond]at h;generalize hZ:(Array.range (len*dw)).map ((if len*dw=0 then #[]else z.cells)[· % (if len*dw=0 then #[]else z.cells).size]!)=RX;have OJ:RX.size=len*dw:=by rw[<-hZ];simp
  obtain⟨iy,MD,k1,k2,k3,k4,k5,k6,k7⟩:=vS hm hle qa (arr:=RX) (pre:=[]) (fp:=[]) (n:=0) (xs:=[]) KS hp (by simp) (by simp) .nil (by rw[OJ,Nat.zero_add,e2];exact aw _);rw[Nat.zero_add]at k3;simp only[List.nil_append]at k4;have abF:len≤maxLen:=by
   have:=Nat.le_mul_of_pos_right len qa;simp only[maxLen];omega
  have fu:(Instr.buildSlice t len vs).run P w= .ok (.slice (some ⟨w.heap.size,0,none⟩) len len) (w.alloc (.cells iy ll)):=by
   have eu:¬2^24<len*dw:=by omega
   simp only[Instr.buildSlice,Sem.run_bind,run_underlying hu,Result.andThen_ok];have eZ:(sizeOf ll).run P w= .ok dw w:=by simp[sizeOf,typeInfo,kX,gC]
   rw[eZ];simp only[Result.andThen_ok];rw[if_neg eu];simp only[pure_bind];by_cases h0:len*dw=0
   ·rw[if_pos h0]at hZ⊢;rw[hZ,k1];simp[Go.newRow]
   ·rw[if_neg h0]at hZ⊢;have hzv:(zeroValue ll).run P w= .ok z w:=by simp[zeroValue,typeInfo,kX,hz]
    simp only[Sem.run_bind,hzv,Result.andThen_ok];rw[hZ,k1];simp[Go.newRow]
  have fin:∀{ks:List Nat} {k:dW},(ps.flatMap fun p=>lk p.2)=ks->ks.Nodup->((ks=[]/\k= .row none ll dw rows)\/k= .aU none ll dw rows)->K ⟨.lw n,kp ks++[(n,k)],1,[]⟩->
        um Γ H ρ F w n K ((Instr.buildSlice t len vs).run P w):=by
   intro ks k IB gB ZO hK;have hn:=nY _ hK n (aw _) (by simp);rw[IB]at k4 k7;obtain⟨F',g1,g2,g3⟩:=hm.newRow hle hn (ks:=ks) (k:=k) (ty:=ll) (sz:=dw) (cap:=len) (len:=len) (rows:=rows) (arr:=iy) (xs:=MD) e1 (aw _) abF (by rw[k2,OJ]) (by rw[<-k3,e2]) k6 k4 gB k7 ZO;exact⟨_,_,F',_,_,hK,fu,gQ hn _,fun i hi=>by have:=m9 hi;simp;omega,g1,g2,g3, .v (.c (.lw gP))⟩
  split at h
  ·rename_i IB;exact fin IB (by simp) (.inl ⟨rfl,rfl⟩) h
  ·cases gB:gK (ps.flatMap fun p=>lk p.2)with
   |false=>rw[gB]at h;exact h.elim
   |true=>rw[gB]at h;exact fin rfl (gm gB) (.inr rfl) h
theorem oF{ok:Nat->Prop}:∀(zs:List ZC),(∀z∈zs,z.val.oneCell'=true)->Den w ok (gl zs) (zs.map ZC.val) []
 |[],_=> .nil
 | .v x::zs,h=> .val (h (.v x) (by simp)) (oF zs fun z hz=>h z (by simp[hz]))
 | .s _ dw::zs,h=> .ro rfl (aw _) (by simp[maxLen]) (by simp) .nil (fun j x hx=>by simp at hx) (oF zs fun z hz=>h z (by simp[hz]))
theorem rE:∀(zs:List ZC),(gl zs).length=zs.length
 |[]=>rfl
 | .v _::zs=>by simp[gl,rE zs]
 | .s _ _::zs=>by simp[gl,rE zs]
theorem LM{ok:Nat->Prop}{cs:List CV}{vs:List Value}(h:Den w ok cs vs []):∀n,Den w ok (List.replicate n cs).flatten (List.replicate n vs).flatten []
 |0=> .nil
 |n+1=>by
  simp only[List.replicate_succ,List.flatten_cons];simpa using h.append (LM h n)
theorem NB{z:Array Value}{sz:Nat}(hz:z.size=sz)(qa:0<sz):∀(k n:Nat),k*sz≤n->(madeCells z n).toList.take (k*sz)=(List.replicate k z.toList).flatten:=by
 intro k n hk;have hl:((List.replicate k z.toList).flatten).length=k*sz:=by rw[fE (sz:=sz) (by intro r hr;rw[List.eq_of_mem_replicate hr];simpa using hz)];simp
 apply List.ext_getElem?;intro j;by_cases hj:j<k*sz
 ·rw[List.getElem?_take,if_pos hj];have h1:(madeCells z n).toList[j]? =some (z[j % z.size]!):=by
   simp[madeCells,show j<n by omega]
  rw[h1];have hq:j/sz<k:=Nat.div_lt_of_lt_mul (by rwa[Nat.mul_comm]);have hr:=fZ (sz:=sz) (rows:=List.replicate k z.toList) (idx:=j/sz) (r:=z.toList) (by intro r hr;rw[List.eq_of_mem_replicate hr];simpa using hz) (by simp[hq]);have WU:=Nat.mod_lt j qa;have ZZ:=Nat.div_add_mod j sz;have h2:z.toList[j % sz]? =(List.replicate k z.toList).flatten[j]? :=by
   conv=>lhs;rw[<-hr]
   rw[List.getElem?_take,if_pos WU,List.getElem?_drop]
   congr 1
   rw[Nat.mul_comm];exact ZZ
  rw[<-h2,hz];rw[Array.getElem?_toList,getElem!_pos z (j % sz) (by omega),Array.getElem?_eq_getElem (by omega)]
 ·rw[List.getElem?_eq_none (by simp;omega),List.getElem?_eq_none (by omega)]
theorem w6(dC:en P tbl)(hm:Mem Γ H ρ F w){t n:Nat}{l c:SV}{lv cv:Value}{K:iT->Prop}(h:qn tbl t l c n K)(nY:oc ρ n K)
 (hl:bJ ρ w (bg Γ F w) l lv)(hc:bJ ρ w (bg Γ F w) c cv):um Γ H ρ F w n K ((Instr.makeSlice t lv cv).run P w):=by
 unfold qn at h;split at h
 case h_2=>exact h.elim
 rename_i i kl k kc m hi hln Zf;have e1:=qv hln hl;have e2:=qv Zf hc;subst e1 e2;have hk:=dC _ _ hi;split at h
 ·exact h.elim
 rename_i ll dw yg mT;obtain⟨hu,qa,inf,z,kX,gC,IH,hz,W5⟩:=hk.elem _ _ _ mT;split at h
 ·exact h.elim
 rename_i ei Z9;obtain⟨aa4,z',Lw,RG,Yf,aeC,_,jS⟩:=(dC _ _ Z9).zero;rw[kX]at Lw;injection Lw with Lw
 subst Lw;rw[hz]at RG;injection RG with RG
 subst RG;obtain⟨⟨h0,Yy,hb,h63⟩,hK⟩:=h;have fu:=run_make (P:=P) w t ll inf z hu kX hz kl kc k m h0 Yy (by rw[IH];exact hb) h63;have eu:k.toNat≤m.toNat:=by omega
 have oT:∀r∈List.replicate k.toNat (gl ei.zero),r.length=dw:=by
  intro r hr;rw[List.eq_of_mem_replicate hr,rE,<-List.length_map (f:=ZC.val),<-Yf];simpa using W5
 have qW:Den w (bg Γ F w) (List.replicate k.toNat (gl ei.zero)).flatten (List.replicate k.toNat z.cells.toList).flatten ([].flatMap F):=by
  rw[Yf];exact LM (oF _ jS) _
 have hn:=nY _ hK n (aw _) (by simp);obtain⟨F',g1,g2,g3⟩:=hm.newRow (Hm:=H) (n9.refl H) hn (ks:=[]) (k:= .row none ll dw (List.replicate k.toNat (gl ei.zero))) (ty:=ll) (sz:=dw) (cap:=m.toNat) (len:=k.toNat) (rows:=List.replicate k.toNat (gl ei.zero)) (arr:=madeCells z.cells (m.toNat*inf.size)) (by simp) eu (by simp only[maxLen];omega)
  (by rw[gC];simp[madeCells]) (by rw[gC];exact NB W5 qa _ _ (Nat.mul_le_mul_right _ eu)) oT qW (by simp) (by simp) (.inl ⟨rfl,rfl⟩)
 exact⟨_,_,F',_,_,hK,fu,gQ hn _,fun i hi=>by have:=m9 hi;simp;omega,g1,g2,g3, .v (.c (.lw gP))⟩
end
end Go.KA
