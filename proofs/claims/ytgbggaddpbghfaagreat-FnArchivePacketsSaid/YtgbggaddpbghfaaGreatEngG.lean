/- Part of a proof engine for functions of the given program: what an operation, a loop and a call compute, symbolically. No conditions. -/
import Derived.Test.YtgbggaddpbghfaaGreatEngF
namespace Go.KA
open Go Go.RowKit
theorem xn(off:Nat):∀(l:List Value) (k:Nat) (cells:List Value),off+k+l.length≤cells.length→
 (l.zipIdx k).foldl (fun cs p=>cs.set (off+p.2) p.1) cells=cells.take (off+k)++l++cells.drop (off+k+l.length)
 |[],k,cells,_=>by simp
 |x::l,k,cells,h=>by
  simp only[List.length_cons] at h
  simp only[List.zipIdx_cons,List.foldl_cons]
  rw[xn off l (k+1) _ (by simp;omega)]
  have h1:(cells.set (off+k) x).take (off+(k+1))=cells.take (off+k)++[x]:=by
   rw[show off+(k+1)=off+k+1 by omega,List.take_add_one]
   rw[List.take_set_of_le (Nat.le_refl _),List.getElem?_set_self (by omega)]
   rfl
  have h2:(cells.set (off+k) x).drop (off+(k+1)+l.length)=cells.drop (off+k+(x::l).length):=by
   rw[List.drop_set_of_lt (by omega)]
   congr 1
   simp
   omega
  rw[h1,h2]
  simp
theorem I1(off:Nat)(cells:Array Value)(l:List (Value × Nat)):(l.foldl (fun cs p=>cs.setIfInBounds (off+p.2) p.1) cells).toList=l.foldl (fun cs p=>cs.set (off+p.2) p.1) cells.toList:=by
 induction l generalizing cells with
 |nil=>rfl
 |cons p l ih=>simp only[List.foldl_cons];rw[ih];simp
theorem AJ(off:Nat)(cells vs:Array Value)(h:off+vs.size≤cells.size):
 (vs.zipIdx.foldl (fun cs (c,j)=>cs.setIfInBounds (off+j) c) cells).toList=aN cells.toList off vs.toList:=by
 have e:vs.zipIdx.foldl (fun cs (c,j)=>cs.setIfInBounds (off+j) c) cells=(vs.toList.zipIdx 0).foldl (fun cs p=>cs.setIfInBounds (off+p.2) p.1) cells:=by
  rw[←Array.foldl_toList,Array.toList_zipIdx]
 rw[e,I1,xn off vs.toList 0 cells.toList (by simpa using h)]
 simp[aN]
section
variable{P:Program}{tbl:TT}{Γ:Cx}{H Hm:HM}{ρ:RM}{F:FM}{w:World}
theorem yN{place:Nat→Option (Nat × Nat)}{cells:Array Value}{i:Nat}{v:Value}{rest:List (Nat × Value)}{off:Nat}(hp:place i=some (off,v.cells.size))(hfit:off+v.cells.size≤cells.size):
 ∃cells',cells'.toList=aN cells.toList off v.cells.toList∧Instr.fill place cells ((i,v)::rest)=Instr.fill place cells' rest:=by
 refine⟨_,AJ off cells v.cells hfit, ?_⟩
 simp[Instr.fill,hp,show¬cells.size<off+v.cells.size by omega]
def kP(ρ:RM)(w:World)(ok:Nat→Prop)(ps:List (Nat × SV))(vs:List (Nat × Value)):Prop:=
 ps.length=vs.length∧∀(j:Nat) p v,ps[j]? =some p→vs[j]? =some v→p.1=v.1∧aZ ρ w ok p.2 v.2
theorem kP.tail{ok:Nat→Prop}{p:Nat × SV}{ps:List (Nat × SV)}{v:Nat × Value}{vs:List (Nat × Value)}(h:kP ρ w ok (p::ps) (v::vs)):kP ρ w ok ps vs:=
 ⟨by simpa using h.1,fun j a b ha hb=>h.2 (j+1) a b ha hb⟩
theorem uI{fields:List (Nat × Nat × Nat)}{ok:Nat→Prop}:∀{ps:List (Nat × SV)} {vs:List (Nat × Value)} {cells:List SV} {arr:Array Value} {cs:List SV},
 uJ fields cells ps=some cs→PW (bG ρ w ok) cells arr.toList→kP ρ w ok ps vs→
 ∃arr',Instr.fill ((fields.map fun x=>(x.1,x.2.2)).toArray[·]?) arr vs=some arr'∧PW (bG ρ w ok) cs arr'.toList
 |[],vs,cells,arr,cs,h,hp,hq=>by
  simp[uJ] at h
  subst h
  cases vs with
  |nil=>exact⟨arr,rfl,hp⟩
  |cons _ _=>exact absurd hq.1 (by simp)
 |(i,s)::ps,vs,cells,arr,cs,h,hp,hq=>by
  cases vs with
  |nil=>exact absurd hq.1 (by simp)
  |cons u vs=>
   obtain⟨i',v⟩:=u
   obtain⟨e,hT⟩:=hq.2 0 _ _ rfl rfl
   simp only at e hT
   subst e
   have htl:=hq.tail
   simp only[uJ] at h
   split at h
   ·cases h
   ·rename_i off ft sz hf
    have hplace:((fields.map fun x=>(x.1,x.2.2)).toArray[i]? :Option (Nat × Nat))=some (off,sz):=by simp[hf]
    obtain⟨ca,cc,cm,c1⟩:=lx hT
    have step:∀(xs:List SV),PW (bG ρ w ok) xs v.cells.toList→xs.length=sz→off+xs.length≤cells.length→uJ fields (aN cells off xs) ps=some cs→
     ∃arr',Instr.fill ((fields.map fun x=>(x.1,x.2.2)).toArray[·]?) arr ((i,v)::vs)=some arr'∧PW (bG ρ w ok) cs arr'.toList:=by
     intro xs hx hl hfit hh
     have hsz:v.cells.size=sz:=by have:=hx.1;simp at this;omega
     have hcl:cells.length=arr.size:=by rw[hp.1];simp
     obtain⟨arr1,h1,h2⟩:=yN (place:=((fields.map fun x=>(x.1,x.2.2)).toArray[·]?)) (cells:=arr) (i:=i) (v:=v) (rest:=vs) (off:=off) (by rw[hplace,hsz]) (by omega)
     obtain⟨arr',h3,h4⟩:=uI (arr:=arr1) hh (by rw[h1];exact hp.aN hx off) htl
     exact⟨arr',by rw[h2];exact h3,h4⟩
    split at h
    ·rename_i n cs'
     obtain⟨hn,hd⟩:=ca _ _ rfl
     cases hb:(Nat.beq n sz&&Nat.ble (off+n) cells.length) with
     |false=>rw[hb] at h;cases h
     |true=>
      rw[hb] at h
      simp only[Bool.and_eq_true] at hb
      have e1:=Nat.eq_of_beq_eq_true hb.1
      have e2:=Nat.le_of_ble_eq_true hb.2
      exact step _ (PW.Ah hd) (by simp;omega) (by simp;omega) h
    ·rename_i cs'
     have hd:=cm _ rfl
     cases hb:(Nat.beq cs'.length sz&&Nat.ble (off+cs'.length) cells.length) with
     |false=>rw[hb] at h;cases h
     |true=>
      rw[hb] at h
      simp only[Bool.and_eq_true] at hb
      have e1:=Nat.eq_of_beq_eq_true hb.1
      have e2:=Nat.le_of_ble_eq_true hb.2
      exact step _ hd e1 e2 h
    ·cases hb:(oq s&&(Nat.beq 1 sz&&Nat.blt off cells.length)) with
     |false=>rw[hb] at h;cases h
     |true=>
      rw[hb] at h
      simp only[Bool.and_eq_true] at hb
      have hd:=c1 hb.1
      have e1:=Nat.eq_of_beq_eq_true hb.2.1
      have e2:off<cells.length:=by have:=hb.2.2;rwa[Nat.blt_eq] at this
      exact step _ hd (by simpa using e1) (by simp;omega) h
theorem Bd(da:dM P tbl)(hm:Mem Γ H ρ F w){t n:Nat}{ps:List (Nat × SV)}{vs:Array (Nat × Value)}{K:gI→Prop}(h:AF tbl t ps n K)(hfr:me ρ n K)
 (hp:kP ρ w (aL Γ F w) ps vs.toList):rO Γ H ρ F w n K ((Instr.build t vs).run P w):=by
 unfold AF at h
 split at h
 ·exact h.elim
 rename_i i hi
 have hk:=da _ _ hi
 cases hemp:i.fields.isEmpty with
 |true=>rw[hemp] at h;exact h.elim
 |false=>
 rw[hemp] at h
 simp only[cond] at h
 split at h
 case h_2=>exact h.elim
 rename_i cs hcs
 obtain⟨inf,z,hinf,hz,hzc,hsz,_,hone⟩:=hk.zero
 have hf:=hfr _ h
 obtain⟨ρ1,F1,h1,h2,h3,h4,h5⟩:=Mem.MI i.zero hm hf
 have hne:i.fields≠[]:=by intro e;rw[e] at hemp;cases hemp
 obtain⟨fs,hu,hpl⟩:=hk.Oa hne
 have hp':kP ρ1 w (aL Γ F1 w) ps vs.toList:=⟨hp.1,fun j p v hpj hvj=>by
  obtain⟨e,hT⟩:=hp.2 j p v hpj hvj
  exact⟨e,hT.mono (fun _ _=>rfl) h4 h2⟩⟩
 obtain⟨arr',g1,g2⟩:=uI (arr:=z.cells) hcs ⟨by rw[Pr,hzc];simp,fun j s v hs hv=>by
  rw[hzc] at hv
  exact h5 _ j s v hs hv hone⟩ hp'
 have hb:P.built t vs.toList=some arr':=by
  unfold Program.built
  simp only[hinf,hu,hz,hpl]
  exact g1
 exact⟨_,ρ1,F1,_,_,h,run_build w t vs arr' hb,h2,h3,h1,h4,fun _ _=>rfl,by simpa using vZ g2.1 g2.2⟩
theorem Mem.GQ(hm:Mem Γ H ρ F w){n:Nat}(h:ρ n=none):F n=[]∧H n= .dead:=by
 have:=hm.blocks n
 rw[h] at this
 generalize F n=f,H n=k at this
 cases this
 exact⟨rfl,rfl⟩
theorem jF(hm:Mem Γ H ρ F w)(hle:l9 Hm H){n k:Nat}(hn:ρ n=none)(hk:Hm k≠ .dead):k≠n:=by
 rintro rfl
 rcases hle k with e|e
 ·exact hk e
 ·exact hk (e.trans (hm.GQ hn).2)
theorem rF:∀{cs:List SV} {l:List CV},gv (iC Hm) cs=some l→∀k∈cs.flatMap gx,Hm k≠ .dead
 |[],_,_,k,hk=>by simp at hk
 |c::cs,l,h,k,hk=>by
  simp only[gv] at h
  split at h
  ·rename_i y ys hy hys
   simp only[List.flatMap_cons,List.mem_append] at hk
   rcases hk with hk|hk
   ·exact nH hy k hk
   ·exact rF hys k hk
  ·cases h
theorem Fx{s:SV}{l:List CV}(h:yW Hm s=some l):∀k∈jH s,Hm k≠ .dead:=by
 unfold yW at h
 split at h
 ·simp[jH,gx]
 ·simpa[jH] using rF h
 ·rename_i n1 n2
  split at h
  ·rename_i x hx
   have hl:jH s=gx s:=by cases s<;>first|rfl|exact(n2 _ rfl).elim
   rw[hl]
   exact nH hx
  ·cases h
theorem rV(hm:Mem Γ H ρ F w)(hle:l9 Hm H){sz:Nat}(hsz:0<sz):∀{ps:List (Nat × SV)} {n:Nat} {vs:List (Nat × Value)} {rows:List (List CV)} {arr:Array Value} {xs:List Value} {pre:List CV} {fp:List Nat},
 rowsOf Hm sz n ps=some rows→kP ρ w (aL Γ F w) ps vs→n*sz≤arr.size→arr.toList.take (n*sz)=xs→Den w (aL Γ F w) pre xs fp→(n+ps.length)*sz≤arr.size→
 ∃arr' xs',Instr.fill (fun i=>some (i*sz,sz)) arr vs=some arr'∧arr'.size=arr.size∧arr'.toList.take ((n+ps.length)*sz)=xs'∧
  Den w (aL Γ F w) (pre++rows.flatten) xs' (fp++(ps.flatMap fun p=>jH p.2).flatMap F)∧rows.length=ps.length∧(∀r∈rows,r.length=sz)∧∀k∈ps.flatMap (fun p=>jH p.2),Hm k≠ .dead
 |[],n,vs,rows,arr,xs,pre,fp,h,hq,_,htk,hd,_=>by
  simp[rowsOf] at h
  subst h
  cases vs with
  |nil=>exact⟨arr,xs,rfl,rfl,by simpa using htk,by simpa using hd,rfl,by simp,by simp⟩
  |cons _ _=>exact absurd hq.1 (by simp)
 |(i,s)::ps,n,vs,rows,arr,xs,pre,fp,h,hq,hn,htk,hd,hfit=>by
  cases vs with
  |nil=>exact absurd hq.1 (by simp)
  |cons u vs=>
   obtain⟨i',v⟩:=u
   obtain⟨e,hT⟩:=hq.2 0 _ _ rfl rfl
   simp only at e hT
   subst e
   simp only[rowsOf] at h
   cases hb:Nat.beq i n with
   |false=>rw[hb] at h;cases h
   |true=>
    rw[hb] at h
    have:=Nat.eq_of_beq_eq_true hb
    subst this
    simp only[cond] at h
    split at h
    ·rename_i r rs hr hrs
     split at h
     case h_2=>cases h
     rename_i hrl
     have hrl:=Nat.eq_of_beq_eq_true hrl
     injection h with h
     subst h
     have h1:=uX (hm.hb hle) hr hT
     have h0:=Fx hr
     have h3:v.cells.size=sz:=by have:=h1.length;simp at this;omega
     have hlen:(i+(ps.length+1))*sz=i*sz+sz+ps.length*sz:=by rw[Nat.add_mul,Nat.succ_mul];omega
     simp only[List.length_cons] at hfit
     obtain⟨arr1,g1,g2⟩:=yN (place:=fun i=>some (i*sz,sz)) (cells:=arr) (i:=i) (v:=v) (rest:=vs) (off:=i*sz) (by rw[h3]) (by rw[h3];omega)
     have hs1:arr1.size=arr.size:=by
      rw[←Array.length_toList,g1,gf (by simp;omega),Array.length_toList]
     have htk1:arr1.toList.take ((i+1)*sz)=xs++v.cells.toList:=by
      rw[g1,←htk]
      unfold aN
      rw[Nat.succ_mul,List.take_append,List.take_append,List.length_append,List.length_take]
      simp only[Array.length_toList]
      rw[show min (i*sz) arr.size=i*sz by omega,List.take_of_length_le (l:=List.take (i*sz) arr.toList) (by simp;omega),List.take_of_length_le (l:=v.cells.toList) (by simp;omega),
         show i*sz+sz-(i*sz+v.cells.size)=0 by omega]
      simp
     obtain⟨arr',xs',k1,k2,k3,k4,k5,k6,k7⟩:=rV hm hle hsz (arr:=arr1) (pre:=pre++r) (fp:=fp++(jH s).flatMap F) hrs hq.tail (by rw[hs1,Nat.succ_mul];omega) htk1 (hd.append h1)
      (by rw[hs1,show i+1+ps.length=i+(ps.length+1) by omega];exact hfit)
     refine⟨arr',xs',by rw[g2];exact k1,by rw[k2,hs1], ?_, ?_,by simp[k5], ?_, ?_⟩
     ·rw[←k3,show i+1+ps.length=i+((i,s)::ps).length by simp;omega]
     ·simpa using k4
     ·intro q hq'
      simp only[List.mem_cons] at hq'
      rcases hq' with rfl|hq'
      ·exact hrl
      ·exact k6 q hq'
     ·intro k hk
      simp only[List.flatMap_cons,List.mem_append] at hk
      rcases hk with hk|hk
      ·exact h0 k hk
      ·exact k7 k hk
    ·cases h
theorem Mem.newRow(hm:Mem Γ H ρ F w)(hle:l9 Hm H){n:Nat}(hn:ρ n=none){ks:List Nat}{k:dE}{ty sz cap len:Nat}{rows:List (List CV)}{arr:Array Value}{xs:List Value}(hlen:rows.length=len)(hc:len≤cap)(hcm:cap≤maxLen)(hs:arr.size=cap*sz)
 (htk:arr.toList.take (len*sz)=xs)(hr:∀r∈rows,r.length=sz)(hd:Den w (aL Γ F w) rows.flatten xs (ks.flatMap F))(hks:ks.Nodup)(hlive:∀k∈ks,Hm k≠ .dead)
 (hk:(ks=[]∧k= .row none ty sz rows)∨k= .aG none ty sz rows):
 ∃F',Mem Γ (cY (iW ks++[(n,k)]) H) (tZ ρ n (.slice (some ⟨w.heap.size,0,none⟩) len cap)) F' (w.alloc (.cells arr ty))∧(∀b,aL Γ F w b→aL Γ F' (w.alloc (.cells arr ty)) b)∧
  (∀b,aL Γ F w b→(w.alloc (.cells arr ty)).heap[b]? =w.heap[b]?):=by
 have hb:=fU w (.cells arr ty)
 have hFn:=(hm.GQ hn).1
 have hnks:n∉ks:=fun h=>jF hm hle hn (hlive n h) rfl
 have hflt:∀b∈ks.flatMap F,b<w.heap.size:=fun b hb'=>by
  obtain⟨i,_,hi⟩:=List.mem_flatMap.1 hb'
  exact hm.lt i b hi
 have hown:(w.alloc (.cells arr ty)).ownsRow 0 ty sz (.slice (some ⟨w.heap.size,0,none⟩) len cap) rows.length xs:=by
  subst hlen
  refine⟨?_, .inr ⟨w.heap.size,cap,arr,rfl,Nat.zero_le _,uE w _,hc,hcm,hs,htk⟩⟩
  rw[←hd.length,eG hr]
 have hden:∀ok':Nat→Prop,(∀b,aL Γ F w b→ok' b)→Den (w.alloc (.cells arr ty)) ok' rows.flatten xs (ks.flatMap F):=fun ok' hok'=>
  hd.mono (fun b hb'=>hb.block b hb'.1) hok' fun b hb'=>hb.block b (hflt b hb')
 obtain⟨g1,g2,g3⟩:=hm.oY (j:=n) (ks:=ks) (k:=k) (f:=w.heap.size::ks.flatMap F) (ρ':=tZ ρ n (.slice (some ⟨w.heap.size,0,none⟩) len cap)) (w':=w.alloc (.cells arr ty)) hb.os hb.tape hb.output hb.size
  (fJ hn _) (fun i hi=>mi hi) hnks (fun b hb' _ _=>hb.block b hb')
  (fun b hb'=>by
   rcases List.mem_cons.1 hb' with rfl|hb'
   ·exact .inr (.inr ⟨Nat.le_refl _,by simp⟩)
   ·obtain⟨i,h1,h2⟩:=List.mem_flatMap.1 hb'
    exact .inr (.inl ⟨i,h1,h2⟩))
  (by
   rw[List.nodup_cons]
   exact⟨fun hh=>by have:=hflt _ hh;omega,ld hm hks⟩)
  (fun ok' hok'=>by
   rw[fD]
   rcases hk with⟨rfl,rfl⟩|rfl
   ·exact .row hown hr (hden ok' hok') (by simp)
   ·exact .aG hown hr (hden ok' hok') (by simp))
 exact⟨_,g1,g2,g3⟩
theorem sd(da:dM P tbl)(hm:Mem Γ H ρ F w)(hle:l9 Hm H){t len n:Nat}{ps:List (Nat × SV)}{vs:Array (Nat × Value)}{K:gI→Prop}(h:mc tbl t len ps Hm n K)(hfr:me ρ n K)
 (hp:kP ρ w (aL Γ F w) ps vs.toList):rO Γ H ρ F w n K ((Instr.buildSlice t len vs).run P w):=by
 unfold mc at h
 split at h
 ·exact h.elim
 rename_i i hi
 have hk:=da _ _ hi
 split at h
 ·exact h.elim
 rename_i ety cT eby hel
 obtain⟨hu,hpos,inf,z,hinf,hsz,hby,hz,hzs⟩:=hk.elem _ _ _ hel
 split at h
 ·exact h.elim
 rename_i rows hrows
 cases hb:(Nat.beq rows.length len&&(Nat.beq ps.length len&&Nat.ble (len*cT) 16777216)) with
 |false=>rw[hb] at h;exact h.elim
 |true=>
  rw[hb] at h
  simp only[Bool.and_eq_true] at hb
  have e1:=Nat.eq_of_beq_eq_true hb.1
  have e2:=Nat.eq_of_beq_eq_true hb.2.1
  have e3:=Nat.le_of_ble_eq_true hb.2.2
  simp only[cond] at h
  generalize hZ:(Array.range (len*cT)).map ((if len*cT=0 then #[] else z.cells)[· % (if len*cT=0 then #[] else z.cells).size]!)=arr0
  have hsize0:arr0.size=len*cT:=by rw[←hZ];simp
  obtain⟨arr',xs',k1,k2,k3,k4,k5,k6,k7⟩:=rV hm hle hpos (arr:=arr0) (pre:=[]) (fp:=[]) (n:=0) (xs:=[]) hrows hp (by simp) (by simp) .nil (by rw[hsize0,Nat.zero_add,e2];exact Nat.le_refl _)
  rw[Nat.zero_add] at k3
  simp only[List.nil_append] at k4
  have hmax:len≤maxLen:=by
   have:=Nat.le_mul_of_pos_right len hpos
   simp only[maxLen]
   omega
  have hrun:(Instr.buildSlice t len vs).run P w= .ok (.slice (some ⟨w.heap.size,0,none⟩) len len) (w.alloc (.cells arr' ety)):=by
   have hlt:¬2^24<len*cT:=by omega
   simp only[Instr.buildSlice,Sem.run_bind,run_underlying hu,Result.andThen_ok]
   have hsize:(sizeOf ety).run P w= .ok cT w:=by simp[sizeOf,typeInfo,hinf,hsz]
   rw[hsize]
   simp only[Result.andThen_ok]
   rw[if_neg hlt]
   simp only[pure_bind]
   by_cases h0:len*cT=0
   ·rw[if_pos h0] at hZ⊢
    rw[hZ,k1]
    simp[Go.newRow]
   ·rw[if_neg h0] at hZ⊢
    have hzv:(zeroValue ety).run P w= .ok z w:=by simp[zeroValue,typeInfo,hinf,hz]
    simp only[Sem.run_bind,hzv,Result.andThen_ok]
    rw[hZ,k1]
    simp[Go.newRow]
  have fin:∀{ks:List Nat} {k:dE},(ps.flatMap fun p=>jH p.2)=ks→ks.Nodup→((ks=[]∧k= .row none ety cT rows)∨k= .aG none ety cT rows)→K ⟨.lw n,iW ks++[(n,k)],1,[]⟩→
        rO Γ H ρ F w n K ((Instr.buildSlice t len vs).run P w):=by
   intro ks k hks hnd hk0 hK
   have hn:=hfr _ hK n (Nat.le_refl _) (by simp)
   rw[hks] at k4 k7
   obtain⟨F',g1,g2,g3⟩:=hm.newRow hle hn (ks:=ks) (k:=k) (ty:=ety) (sz:=cT) (cap:=len) (len:=len) (rows:=rows) (arr:=arr') (xs:=xs') e1 (Nat.le_refl _) hmax (by rw[k2,hsize0]) (by rw[←k3,e2]) k6 k4 hnd k7 hk0
   exact⟨_,_,F',_,_,hK,hrun,fJ hn _,fun i hi=>by have:=lW hi;simp;omega,g1,g2,g3, .v (.c (.lw fD))⟩
  split at h
  ·rename_i hks
   exact fin hks (by simp) (.inl ⟨rfl,rfl⟩) h
  ·cases hnd:fH (ps.flatMap fun p=>jH p.2) with
   |false=>rw[hnd] at h;exact h.elim
   |true=>rw[hnd] at h;exact fin rfl (fm hnd) (.inr rfl) h
theorem mn{ok:Nat→Prop}:∀(zs:List ZC),(∀z∈zs,z.val.oneCell'=true)→Den w ok (fe zs) (zs.map ZC.val) []
 |[],_=> .nil
 | .v x::zs,h=> .val (h (.v x) (by simp)) (mn zs fun z hz=>h z (by simp[hz]))
 | .s _ cT::zs,h=> .ro rfl (Nat.le_refl _) (by simp[maxLen]) (by simp) .nil (fun j x hx=>by simp at hx) (mn zs fun z hz=>h z (by simp[hz]))
theorem o6:∀(zs:List ZC),(fe zs).length=zs.length
 |[]=>rfl
 | .v _::zs=>by simp[fe,o6 zs]
 | .s _ _::zs=>by simp[fe,o6 zs]
theorem Gq{ok:Nat→Prop}{cs:List CV}{vs:List Value}(h:Den w ok cs vs []):∀n,Den w ok (List.replicate n cs).flatten (List.replicate n vs).flatten []
 |0=> .nil
 |n+1=>by
  simp only[List.replicate_succ,List.flatten_cons]
  simpa using h.append (Gq h n)
theorem Ib{z:Array Value}{sz:Nat}(hz:z.size=sz)(hpos:0<sz):∀(k n:Nat),k*sz≤n→(madeCells z n).toList.take (k*sz)=(List.replicate k z.toList).flatten:=by
 intro k n hk
 have hl:((List.replicate k z.toList).flatten).length=k*sz:=by rw[eG (sz:=sz) (by intro r hr;rw[List.eq_of_mem_replicate hr];simpa using hz)];simp
 apply List.ext_getElem?
 intro j
 by_cases hj:j<k*sz
 ·rw[List.getElem?_take,if_pos hj]
  have h1:(madeCells z n).toList[j]? =some (z[j % z.size]!):=by
   simp[madeCells,show j<n by omega]
  rw[h1]
  have hq:j/sz<k:=Nat.div_lt_of_lt_mul (by rwa[Nat.mul_comm])
  have hr:=fc (sz:=sz) (rows:=List.replicate k z.toList) (idx:=j/sz) (r:=z.toList) (by intro r hr;rw[List.eq_of_mem_replicate hr];simpa using hz) (by simp[hq])
  have hmod:=Nat.mod_lt j hpos
  have hdm:=Nat.div_add_mod j sz
  have h2:z.toList[j % sz]? =(List.replicate k z.toList).flatten[j]? :=by
   conv=>lhs;rw[←hr]
   rw[List.getElem?_take,if_pos hmod,List.getElem?_drop]
   congr 1
   rw[Nat.mul_comm]
   exact hdm
  rw[←h2,hz]
  rw[Array.getElem?_toList,getElem!_pos z (j % sz) (by omega),Array.getElem?_eq_getElem (by omega)]
 ·rw[List.getElem?_eq_none (by simp;omega),List.getElem?_eq_none (by omega)]
theorem tR(da:dM P tbl)(hm:Mem Γ H ρ F w){t n:Nat}{l c:SV}{lv cv:Value}{K:gI→Prop}(h:nR tbl t l c n K)(hfr:me ρ n K)
 (hl:aZ ρ w (aL Γ F w) l lv)(hc:aZ ρ w (aL Γ F w) c cv):rO Γ H ρ F w n K ((Instr.makeSlice t lv cv).run P w):=by
 unfold nR at h
 split at h
 case h_2=>exact h.elim
 rename_i i kl k kc m hi hln hcm
 have e1:=ou hln hl
 have e2:=ou hcm hc
 subst e1 e2
 have hk:=da _ _ hi
 split at h
 ·exact h.elim
 rename_i ety cT eby hel
 obtain⟨hu,hpos,inf,z,hinf,hsz,hby,hz,hzs⟩:=hk.elem _ _ _ hel
 split at h
 ·exact h.elim
 rename_i ei hei
 obtain⟨inf',z',hinf',hz',hzc,hzsz,_,hone⟩:=(da _ _ hei).zero
 rw[hinf] at hinf'
 injection hinf' with hinf'
 subst hinf'
 rw[hz] at hz'
 injection hz' with hz'
 subst hz'
 obtain⟨⟨h0,hnm,hb,h63⟩,hK⟩:=h
 have hrun:=run_make (P:=P) w t ety inf z hu hinf hz kl kc k m h0 hnm (by rw[hby];exact hb) h63
 have hlt:k.toNat≤m.toNat:=by omega
 have hrow:∀r∈List.replicate k.toNat (fe ei.zero),r.length=cT:=by
  intro r hr
  rw[List.eq_of_mem_replicate hr,o6,←List.length_map (f:=ZC.val),←hzc]
  simpa using hzs
 have hden:Den w (aL Γ F w) (List.replicate k.toNat (fe ei.zero)).flatten (List.replicate k.toNat z.cells.toList).flatten ([].flatMap F):=by
  rw[hzc]
  exact Gq (mn _ hone) _
 have hn:=hfr _ hK n (Nat.le_refl _) (by simp)
 obtain⟨F',g1,g2,g3⟩:=hm.newRow (Hm:=H) (l9.refl H) hn (ks:=[]) (k:= .row none ety cT (List.replicate k.toNat (fe ei.zero))) (ty:=ety) (sz:=cT) (cap:=m.toNat) (len:=k.toNat) (rows:=List.replicate k.toNat (fe ei.zero)) (arr:=madeCells z.cells (m.toNat*inf.size)) (by simp) hlt (by simp only[maxLen];omega)
  (by rw[hsz];simp[madeCells]) (by rw[hsz];exact Ib hzs hpos _ _ (Nat.mul_le_mul_right _ hlt)) hrow hden (by simp) (by simp) (.inl ⟨rfl,rfl⟩)
 exact⟨_,_,F',_,_,hK,hrun,fJ hn _,fun i hi=>by have:=lW hi;simp;omega,g1,g2,g3, .v (.c (.lw fD))⟩
end
end Go.KA
