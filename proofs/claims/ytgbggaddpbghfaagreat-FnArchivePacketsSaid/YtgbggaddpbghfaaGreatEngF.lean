/- Part of a proof engine for functions of the given program: what an operation, a loop and a call compute, symbolically. No conditions. -/
import Derived.Test.YtgbggaddpbghfaaGreatEngE
namespace Go.KA
open Go Go.RowKit
theorem fm:∀{l:List Nat},fH l=true→l.Nodup
 |[],_=> .nil
 |x::xs,h=>by
  simp only[fH,Bool.and_eq_true,Bool.not_eq_true',List.any_eq_false] at h
  refine List.nodup_cons.2 ⟨fun hx=>h.1 x hx (by simp),fm h.2⟩
section
variable{P:Program}{tbl:TT}{Γ:Cx}{H Hm:HM}{ρ:RM}{F:FM}{w:World}{ok:Nat→Prop}
omit P tbl Γ H Hm ρ F in
theorem tU{α:Type}{sz:Nat}:∀{rows:List (List α)},(∀r∈rows,r.length=sz)→∀n:Nat,(rows.take n).flatten=rows.flatten.take (n*sz)
 |[],_,n=>by simp
 |r::rs,hr,0=>by simp
 |r::rs,hr,n+1=>by
  have h1:=hr r (by simp)
  rw[List.take_succ_cons,List.flatten_cons,List.flatten_cons,tU (fun r h=>hr r (by simp[h])) n,List.take_append,List.take_of_length_le (l:=r) (by rw[h1,Nat.succ_mul];omega),h1,Nat.succ_mul,Nat.add_sub_cancel]
theorem yb{sz:Nat}{rows:List (List CV)}{xs:List Value}(hr:∀r∈rows,r.length=sz)(hin:Den w ok rows.flatten xs [])(n:Nat):Den w ok (rows.take n).flatten (xs.take (n*sz)) []:=by
 rw[tU hr]
 exact jm hin _
theorem BJ{ty sz n len c c' b:Nat}{rows:List (List CV)}{xs:List Value}(h1:len≤n)(ho:w.ownsRow 0 ty sz (.slice (some ⟨b,0,none⟩) n c) rows.length xs)(h4:0+c'=c):
 w.ownsRow 0 ty sz (.slice (some ⟨b,0*sz,none⟩) len c') (rows.take len).length (xs.take (len*sz)):=by
 obtain⟨hl,⟨h0,_⟩|⟨g,cap,cur,hv,h5,hh,hc,hm,hs,htk⟩⟩:=ho
 ·cases h0
 ·simp only[Value.slice.injEq,Option.some.injEq,Addr.mk.injEq,and_true] at hv
  obtain⟨rfl,rfl,rfl⟩:=hv
  have e:(rows.take len).length=len:=by rw[List.length_take];omega
  have hle:len*sz≤rows.length*sz:=Nat.mul_le_mul_right _ h1
  rw[e]
  refine⟨by rw[List.length_take,hl];omega, .inr ⟨b,c',cur,by rw[Nat.zero_mul],Nat.zero_le _,hh,by omega,by omega,by rw[hs];congr 1;omega, ?_⟩⟩
  rw[←htk,List.take_take,Nat.min_eq_left hle]
section
variable(hB:∀i,Hm i= .dead∨dd ρ w ok (Hm i) (ρ i) (F i))
include hB
theorem iT{s:SV}{x:CV}{v:Value}(h:iC Hm s=some x)(hd:bG ρ w ok s v):Den w ok [x] [v] ((gx s).flatMap F):=by
 unfold iC at h
 split at h
 ·rename_i k
  cases hd with
  |lw hv=>
   split at h
   ·rename_i o ty sz rows hk
    injection h with h
    subst h
    obtain⟨u,xs,hu,ho,hr,hin,hF,_⟩:=ir hB hk
    rw[hv] at hu
    injection hu with hu
    subst hu
    have:=Den.ows hin hr ho .nil
    simpa[gx,hF] using this
   ·rename_i o ty sz rows hk
    injection h with h
    subst h
    obtain⟨u,xs,f,hu,ho,hr,hin,hF,_⟩:=dN hB hk
    rw[hv] at hu
    injection hu with hu
    subst hu
    have:=Den.own hin hr ho .nil
    simpa[gx,hF] using this
   ·cases h
 ·rename_i k sz off len
  cases hd with
  |ls hv h1 h2 h3 h4=>
   split at h
   ·rename_i o ty sz' rows hk
    cases hb:Nat.beq sz sz' with
    |false=>rw[hb] at h;cases h
    |true=>
     rw[hb] at h
     have:=Nat.eq_of_beq_eq_true hb
     subst this
     injection h with h
     subst h
     obtain⟨u,xs,hu,ho,hr,hin,hF,_⟩:=ir hB hk
     rw[hv] at hu
     injection hu with hu
     subst hu
     have:=Den.ows (yb hr hin _) (fun r hr'=>hr r (List.mem_of_mem_take hr')) (BJ (by omega) ho h4) .nil
     simpa[gx,hF,Value.ownBlock] using this
   ·cases h
 ·injection h with h
  subst h
  cases hd with
  |c hd=>rw[n8 hd];exact mk_val rfl
 ·injection h with h
  subst h
  cases hd with
  |c hd=>simpa[gx] using hd
 ·cases h
theorem mg:∀{cs:List SV} {l:List CV} {vs:List Value},gv (iC Hm) cs=some l→cs.length=vs.length→(∀(j:Nat) a v,cs[j]? =some a→vs[j]? =some v→bG ρ w ok a v)→
 Den w ok l vs ((cs.flatMap gx).flatMap F)
 |[],l,vs,h,hl,_=>by
  simp[gv] at h
  subst h
  cases vs with
  |nil=>simpa using Den.nil
  |cons _ _=>simp at hl
 |c::cs,l,vs,h,hl,hd=>by
  cases vs with
  |nil=>simp at hl
  |cons v vs=>
   simp only[gv] at h
   split at h
   ·rename_i y ys hy hys
    injection h with h
    subst h
    have h1:=iT hB hy (hd 0 _ _ rfl rfl)
    have h3:=mg hys (by simpa using hl) fun j a v ha hv=>hd (j+1) a v ha hv
    have:=h1.append h3
    simpa using this
   ·cases h
theorem uX{s:SV}{l:List CV}{v:Value}(h:yW Hm s=some l)(hT:aZ ρ w ok s v):Den w ok l v.cells.toList ((jH s).flatMap F):=by
 obtain⟨ca,cc,cm,c1⟩:=lx hT
 unfold yW at h
 split at h
 ·rename_i n cs
  injection h with h
  subst h
  simpa[jH,gx] using(ca _ _ rfl).2
 ·rename_i cs
  have hp:=cm _ rfl
  simpa[jH] using mg hB h hp.1 hp.2
 ·rename_i n1 n2
  split at h
  ·rename_i x hx
   injection h with h
   subst h
   have h1:oq s=true:=by
        unfold iC at hx
        cases s<;>first|rfl|simp at hx
   have hp:=c1 h1
   have hlen:v.cells.toList.length=1:=by have:=hp.1;simpa using this.symm
   match hv:v.cells.toList,hlen with
   |[u],_=>
    have hc:=hp.2 0 s u rfl (by rw[hv];rfl)
    have hl:jH s=gx s:=by cases s<;>first|rfl|exact(n2 _ rfl).elim
    rw[hl]
    exact iT hB hx hc
  ·cases h
omit hB in
theorem nH{s:SV}{x:CV}(h:iC Hm s=some x):∀k∈gx s,Hm k≠ .dead:=by
 intro k hk e
 cases s<;>simp only[gx,List.mem_singleton,List.not_mem_nil] at hk
 ·subst hk
  simp only[iC,e] at h
  cases h
 ·subst hk
  simp only[iC,e] at h
  cases h
end
theorem ld(hm:Mem Γ H ρ F w):∀{ks:List Nat},ks.Nodup→(ks.flatMap F).Nodup
 |[],_=>by simp
 |k::ks,hn=>by
  rw[List.nodup_cons] at hn
  rw[List.flatMap_cons,List.nodup_append]
  refine⟨hm.nodup k,ld hm hn.2,fun x hx y hy e=> ?_⟩
  subst e
  obtain⟨j,hj,hxj⟩:=List.mem_flatMap.1 hy
  exact hn.1 (hm.jz k j x hx hxj▸hj)
def qB(ks:List Nat)(F:FM):FM:=fun i=>if i∈ks then[] else F i
theorem zy:∀(ks:List Nat) (H:HM) (i:Nat),cY (iW ks) H i=if i∈ks then .dead else H i
 |[],H,i=>by simp[iW,cY]
 |k::ks,H,i=>by
  simp only[iW,cY]
  rw[zy ks]
  by_cases h1:i∈ks
  ·simp[h1]
  ·by_cases h2:i=k
   ·subst h2;simp[h1,ef]
   ·simp[h1,h2,eV h2]
theorem Mem.oY(hm:Mem Γ H ρ F w){j:Nat}{ks:List Nat}{k:dE}{f:List Nat}{ρ':RM}{w':World}(hos:w'.os=w.os)(htape:w'.tape=w.tape)(hout:w'.output=w.output)(hsize:w.heap.size≤w'.heap.size)
 (hρ:Ext ρ ρ')(hρne:∀i,i≠j→ρ' i=ρ i)(hjk:j∉ks)(hsame:∀b,b<w.heap.size→b∉F j→(∀i∈ks,b∉F i)→w'.heap[b]? =w.heap[b]?)
 (hf:∀b∈f,b∈F j∨(∃i∈ks,b∈F i)∨(w.heap.size≤b∧b<w'.heap.size))(hnd:f.Nodup)
 (hk:∀ok':Nat→Prop,(∀b,aL Γ F w b→ok' b)→dd ρ' w' ok' k (ρ' j) f):
 Mem Γ (cY (iW ks++[(j,k)]) H) ρ' (fP (qB ks F) j f) w'∧(∀b,aL Γ F w b→aL Γ (fP (qB ks F) j f) w' b)∧∀b,aL Γ F w b→w'.heap[b]? =w.heap[b]? :=by
 have hF:∀i,i∉j::ks→fP (qB ks F) j f i=F i:=fun i hi=>by
  simp only[List.mem_cons,not_or] at hi
  rw[bW hi.1]
  simp[qB,hi.2]
 have hsub:∀i∈j::ks,∀b∈fP (qB ks F) j f i,(∃j'∈j::ks,b∈F j')∨(w.heap.size≤b∧b<w'.heap.size):=by
  intro i hi b hb
  by_cases e:i=j
  ·subst e
   rw[bf] at hb
   rcases hf b hb with h1|⟨i',h1,h2⟩|h1
   ·exact .inl ⟨i,by simp,h1⟩
   ·exact .inl ⟨i',by simp[h1],h2⟩
   ·exact .inr h1
  ·rw[bW e] at hb
   have:i∈ks:=by simpa[e] using hi
   simp[qB,this] at hb
 have hs:∀b,b<w.heap.size→(∀i∈j::ks,b∉F i)→w'.heap[b]? =w.heap[b]? :=fun b hb hn=>hsame b hb (hn j (by simp)) fun i hi=>hn i (by simp[hi])
 have hok:=pG (Γ:=Γ) hsize hF hsub
 have hH:∀i,cY (iW ks++[(j,k)]) H i=if i=j then k else if i∈ks then .dead else H i:=by
  intro i
  rw[mF]
  simp only[cY]
  by_cases e:i=j
  ·subst e;simp[ef]
  ·rw[eV e,zy];simp[e]
 refine⟨hm.write (j::ks) hos htape hout hsize hρ (fun i hi=> ?_) hs hsub ?_ ?_ ?_,hok,nS hs⟩
 ·have hi':=hi
  simp only[List.mem_cons,not_or] at hi
  exact⟨by rw[hH];simp[hi.1,hi.2],hF i hi',hρne i hi.1⟩
 ·intro i hi
  by_cases e:i=j
  ·subst e;rw[bf];exact hnd
  ·rw[bW e]
   have:i∈ks:=by simpa[e] using hi
   simp[qB,this]
 ·intro i hi i' hi' b hb hb'
  have key:∀i∈j::ks,b∈fP (qB ks F) j f i→i=j:=by
   intro i hi hb
   by_cases e:i=j
   ·exact e
   ·rw[bW e] at hb
    have:i∈ks:=by simpa[e] using hi
    simp[qB,this] at hb
  rw[key i hi hb,key i' hi' hb']
 ·intro i hi
  rw[hH]
  by_cases e:i=j
  ·subst e
   simp only[if_true]
   rw[bf]
   exact hk _ hok
  ·have:i∈ks:=by simpa[e] using hi
   rw[bW e]
   simp only[e,this,if_false,if_true,qB]
   exact .dead
theorem nU{as:List CV}{vs:List Value}{f:List Nat}(h:Den w ok as vs f)(n:Nat):∃f1 f2,f=f1++f2∧Den w ok (as.take n) (vs.take n) f1∧Den w ok (as.drop n) (vs.drop n) f2:=by
 rw[←List.take_append_drop n as] at h
 obtain⟨us,ts,g,k,rfl,rfl,h1,h2⟩:=h.split
 have hl:=h1.length
 by_cases hn:n≤as.length
 ·have hul:us.length=n:=by rw[←hl,List.length_take];omega
  refine⟨g,k,rfl, ?_, ?_⟩
  ·rw[List.take_left' hul];exact h1
  ·rw[List.drop_left' hul];exact h2
 ·have h2':=h2
  rw[List.drop_of_length_le (by omega)] at h2'
  cases h2'
  have:us.length≤n:=by rw[←hl,List.length_take];omega
  refine⟨g,[],by simp, ?_, ?_⟩
  ·rw[List.append_nil,List.take_of_length_le this];exact h1
  ·rw[List.append_nil,List.drop_of_length_le this,List.drop_of_length_le (by omega)];exact .nil
theorem vg{as bs:List CV}{vs us:List Value}{f g:List Nat}(h:Den w ok as vs f)(k:Den w ok bs us g)(off:Nat):
 ∃f1 f2 f3,f=f1++f2++f3∧Den w ok (aN as off bs) (aN vs off us) (f1++g++f3):=by
 obtain⟨f1,fr,rfl,h1,h2⟩:=nU h off
 obtain⟨f2,f3,rfl,_,h4⟩:=nU h2 bs.length
 refine⟨f1,f2,f3,by simp, ?_⟩
 unfold aN
 rw[List.drop_drop] at h4
 have e:List.drop bs.length (List.drop off vs)=List.drop (off+us.length) vs:=by rw[List.drop_drop,k.length]
 rw[e] at h4
 exact(h1.append k).append h4
theorem mC{t:Nat}{i:gN}(hk:r6 P t i){b o ty:Nat}{arr:Array Value}{v:Value}(hb:w.heap[b]? =some (.cells arr ty (0,0)))(hl:v.cells.size=i.size)
 (hfit:o+v.cells.size≤arr.size)(hone:∀x∈v.cells.toList,x.oneCell'=true):
 (Instr.storeAt t (.pointer (some ⟨b,o,none⟩)) v).run P w= .ok () (w.setRow b (aN arr.toList o v.cells.toList).toArray):=by
 have h:=run_storeCells_at P b o ty v.cells.toList 0 arr w hb (by simpa using hfit) hone
 simp only[Nat.add_zero] at h
 simp[Instr.storeAt,Instr.sureAddr,storeVar,vi hk,hl,h,aN]
def JQ(Γ:Cx)(H:HM)(ρ:RM)(F:FM)(w:World)(K:gI→Prop)(r:Result Unit):Prop:=
 ∃E F' w',K E∧r= .ok () w'∧E.sv= .any∧Mem Γ (cY E.ws H) ρ F' w'∧(∀b,aL Γ F w b→aL Γ F' w' b)∧∀b,aL Γ F w b→w'.heap[b]? =w.heap[b]?
theorem LQ(hm:Mem Γ H ρ F w){j b ty:Nat}{k:dE}{v:Value}{arr arr':Array Value}(hρ:ρ j=some v)(hF:F j=[b])(hb:w.heap[b]? =some (.cells arr ty (0,0)))
 (hk:∀w',w'.heap[b]? =some (.cells arr' ty (0,0))→(∀c,aL Γ F w c→w'.heap[c]? =w.heap[c]?)→dd ρ w' (aL Γ F w) k (some v) [b]):
 ∃F',Mem Γ (dA H j k) ρ F' (w.setRow b arr')∧(∀c,aL Γ F w c→aL Γ F' (w.setRow b arr') c)∧∀c,aL Γ F w c→(w.setRow b arr').heap[c]? =w.heap[c]? :=by
 have hown:b∈F j:=by simp[hF]
 have hne:∀c,aL Γ F w c→c≠b:=fun c hc e=>hc.2.2 ⟨j,e▸hown⟩
 have hs:∀c,aL Γ F w c→(w.setRow b arr').heap[c]? =w.heap[c]? :=fun c hc=>setRow_other w b c arr' (hne c hc)
 obtain⟨h1,h2,h3⟩:=hm.set (j:=j) (w':=w.setRow b arr') rfl rfl rfl (by simp) (fun c _ hc=>setRow_other w b c arr' (by rintro rfl;exact hc (by simp[hF])))
  (k:=k) (f:=[b]) (fun c hc=> .inl (by rw[hF];exact hc)) (by simp) (by rw[hρ];exact hk _ (setRow_heap w b arr arr' ty (0,0) hb) hs)
 exact⟨_,h1,h2,h3⟩
theorem Ns{ok:Nat→Prop}(hB:∀i,H i= .dead∨dd ρ w ok (H i) (ρ i) (F i)){j t e:Nat}{s:ByteArray}(h:H j= .iu t e s):
 ∃(b:Nat) (p v:Value),ρ j=some (.pointer (some ⟨b,0,none⟩))∧(p= .pointer none∨p= .pointer (some ⟨b,0,none⟩))∧w.heap[b]? =some (.cells #[p,v] t (0,0))∧w.ownsRow 0 e 1 v s.size (Lib.strCells s)∧F j=b::v.ownBlock.toList:=by
 have h0:dd ρ w ok (H j) (ρ j) (F j):=(hB j).resolve_left (by rw[h];simp)
 rw[h] at h0
 generalize ρ j=u at h0
 generalize F j=f at h0
 cases h0 with
 |iu hp hb ho=>exact⟨_,_,_,rfl,hp,hb,ho,rfl⟩
theorem Bf(da:dM P tbl)(hm:Mem Γ H ρ F w)(hle:l9 Hm H){t:Nat}{p x:SV}{pv v:Value}{K:gI→Prop}(h:xK tbl t p x Hm K)
 (hp:aZ ρ w (aL Γ F w) p pv)(hx:aZ ρ w (aL Γ F w) x v):JQ Γ H ρ F w K ((Instr.storeAt t pv v).run P w):=by
 unfold xK at h
 split at h
 ·exact h.elim
 rename_i i hi
 have hk:=da _ _ hi
 obtain⟨ca,cc,cm,c1⟩:=lx hx
 have hB:=hm.hb hle
 split at h
 ·rename_i j off
  obtain⟨b,hρ,rfl⟩:=sW hp
  split at h
  ·rename_i sz cs hj
   obtain⟨b',ty,arr,hρ',hh,hl,hin,hF⟩:=DT hB hj
   rw[hρ] at hρ'
   simp only[Option.some.injEq,Value.pointer.injEq,Addr.mk.injEq,and_true] at hρ'
   subst hρ'
   have hal:arr.size=sz:=by rw[←hl,hin.length];simp
   have done:∀{kb:dE} {o:Nat},K (wr j kb)→v.cells.size=i.size→o+v.cells.size≤arr.size→(∀x∈v.cells.toList,x.oneCell'=true)→off=o→
    (∀w',w'.heap[b]? =some (.cells (aN arr.toList o v.cells.toList).toArray ty (0,0))→(∀c,aL Γ F w c→w'.heap[c]? =w.heap[c]?)→dd ρ w' (aL Γ F w) kb (some (.pointer (some ⟨b,0,none⟩))) [b])→
    JQ Γ H ρ F w K ((Instr.storeAt t (.pointer (some ⟨b,off,none⟩)) v).run P w):=by
        intro kb o hK hsz hfit hone e hd
        subst e
        obtain⟨F',g1,g2,g3⟩:=LQ hm hρ hF hh hd
        exact⟨_,F',_,hK,mC hk hh hsz hfit hone,rfl,g1,g2,g3⟩
   split at h
   ·rename_i n cs'
    obtain⟨hn,hd⟩:=ca _ _ rfl
    have hvl:v.cells.size=n:=by rw[←hn,hd.length];simp
    cases hb1:Nat.beq n i.size with
    |false=>rw[hb1] at h;exact h.elim
    |true=>
     rw[hb1] at h
     have e1:=Nat.eq_of_beq_eq_true hb1
     cases hb2:(Nat.beq off 0&&Nat.beq n sz) with
     |true=>
      rw[hb2] at h
      simp only[Bool.and_eq_true] at hb2
      have e2:=Nat.eq_of_beq_eq_true hb2.1
      have e3:=Nat.eq_of_beq_eq_true hb2.2
      refine done h (by omega) (o:=0) (by omega) hd.one e2 fun w' hw' hs=> ?_
      rw[nZ (by simp;omega)] at hw'
      exact .cc hw' hn (by simpa using sT hd hs)
     |false=>
      rw[hb2] at h
      cases hb3:Nat.ble (off+n) sz with
      |false=>rw[hb3] at h;exact h.elim
      |true=>
       rw[hb3] at h
       have e3:=Nat.le_of_ble_eq_true hb3
       exact done h (by omega) (by omega) hd.one rfl fun w' hw' hs=> .cc hw' (by rw[gf (by omega)];exact hl) (by simpa using sT (xD hin hd off) hs)
   ·rename_i c
    have hd:=cc _ rfl
    have hvl:v.cells.size=1:=by have:=hd.length;simp at this;omega
    cases hb1:(Nat.beq 1 i.size&&Nat.blt off sz) with
    |false=>rw[hb1] at h;exact h.elim
    |true=>
     rw[hb1] at h
     simp only[Bool.and_eq_true] at hb1
     have e1:=Nat.eq_of_beq_eq_true hb1.1
     have e2:off<sz:=by have:=hb1.2;rwa[Nat.blt_eq] at this
     exact done h (by omega) (by omega) hd.one rfl fun w' hw' hs=> .cc hw' (by rw[gf (by simp;omega)];exact hl) (by simpa using sT (xD hin hd off) hs)
   ·rename_i cs'
    have hd:=cm _ rfl
    have hvl:v.cells.size=cs'.length:=by have:=hd.1;simp at this;omega
    cases hb1:Nat.beq cs'.length i.size with
    |false=>rw[hb1] at h;exact h.elim
    |true=>
     rw[hb1] at h
     have e1:=Nat.eq_of_beq_eq_true hb1
     cases hb2:(Nat.beq off 0&&Nat.beq cs'.length sz) with
     |true=>
      rw[hb2] at h
      simp only[Bool.and_eq_true] at hb2
      have e2:=Nat.eq_of_beq_eq_true hb2.1
      have e3:=Nat.eq_of_beq_eq_true hb2.2
      refine done h (by omega) (o:=0) (by omega) hd.one e2 fun w' hw' hs=> ?_
      rw[nZ (by simp;omega)] at hw'
      have:=qj hd hs
      exact et hw' (by simpa using this.1) (by simpa using this.2)
     |false=>
      rw[hb2] at h
      cases hb3:Nat.ble (off+cs'.length) sz with
      |false=>rw[hb3] at h;exact h.elim
      |true=>
       rw[hb3] at h
       have e3:=Nat.le_of_ble_eq_true hb3
       refine done h (by omega) (by omega) hd.one rfl fun w' hw' hs=> ?_
       have:=qj ((PW.Ah (ρ:=ρ) hin).aN hd off) hs
       exact et hw' (by simpa using this.1) (by simpa using this.2)
   ·cases hb1:(oq x&&(Nat.beq 1 i.size&&Nat.blt off sz)) with
    |false=>rw[hb1] at h;exact h.elim
    |true=>
     rw[hb1] at h
     simp only[Bool.and_eq_true] at hb1
     have hd:=c1 hb1.1
     have hvl:v.cells.size=1:=by have:=hd.1;simp at this;omega
     have e1:=Nat.eq_of_beq_eq_true hb1.2.1
     have e2:off<sz:=by have:=hb1.2.2;rwa[Nat.blt_eq] at this
     refine done h (by omega) (by omega) hd.one rfl fun w' hw' hs=> ?_
     have:=qj ((PW.Ah (ρ:=ρ) hin).aN hd off) hs
     exact .cells hw' (by simpa using this.1) (by simpa using this.2)
  ·rename_i cs hj
   obtain⟨b',ty,arr,hρ',hh,hl,hin,hF⟩:=kI hB hj
   rw[hρ] at hρ'
   simp only[Option.some.injEq,Value.pointer.injEq,Addr.mk.injEq,and_true] at hρ'
   subst hρ'
   have hpw:PW (bG ρ w (aL Γ F w)) cs arr.toList:=⟨hl,hin⟩
   have hal:arr.size=cs.length:=by rw[hl];simp
   have done:∀{kb:dE} {o:Nat},K (wr j kb)→v.cells.size=i.size→o+v.cells.size≤arr.size→(∀x∈v.cells.toList,x.oneCell'=true)→off=o→
    (∀w',w'.heap[b]? =some (.cells (aN arr.toList o v.cells.toList).toArray ty (0,0))→(∀c,aL Γ F w c→w'.heap[c]? =w.heap[c]?)→dd ρ w' (aL Γ F w) kb (some (.pointer (some ⟨b,0,none⟩))) [b])→
    JQ Γ H ρ F w K ((Instr.storeAt t (.pointer (some ⟨b,off,none⟩)) v).run P w):=by
        intro kb o hK hsz hfit hone e hd
        subst e
        obtain⟨F',g1,g2,g3⟩:=LQ hm hρ hF hh hd
        exact⟨_,F',_,hK,mC hk hh hsz hfit hone,rfl,g1,g2,g3⟩
   split at h
   ·rename_i n cs'
    obtain⟨hn,hd⟩:=ca _ _ rfl
    have hvl:v.cells.size=n:=by rw[←hn,hd.length];simp
    cases hb1:Nat.beq n i.size with
    |false=>rw[hb1] at h;exact h.elim
    |true=>
     rw[hb1] at h
     have e1:=Nat.eq_of_beq_eq_true hb1
     cases hb2:(Nat.beq off 0&&Nat.beq n cs.length) with
     |true=>
      rw[hb2] at h
      simp only[Bool.and_eq_true] at hb2
      have e2:=Nat.eq_of_beq_eq_true hb2.1
      have e3:=Nat.eq_of_beq_eq_true hb2.2
      refine done h (by omega) (o:=0) (by omega) hd.one e2 fun w' hw' hs=> ?_
      rw[nZ (by simp;omega)] at hw'
      exact .cc hw' hn (by simpa using sT hd hs)
     |false=>
      rw[hb2] at h
      cases hb3:Nat.ble (off+n) cs.length with
      |false=>rw[hb3] at h;exact h.elim
      |true=>
       rw[hb3] at h
       have e3:=Nat.le_of_ble_eq_true hb3
       refine done h (by omega) (by omega) hd.one rfl fun w' hw' hs=> ?_
       have:=qj (hpw.aN (PW.Ah (ρ:=ρ) hd) off) hs
       exact et hw' (by simpa using this.1) (by simpa using this.2)
   ·rename_i cs'
    have hd:=cm _ rfl
    have hvl:v.cells.size=cs'.length:=by have:=hd.1;simp at this;omega
    cases hb1:(Nat.beq cs'.length i.size&&Nat.ble (off+cs'.length) cs.length) with
    |false=>rw[hb1] at h;exact h.elim
    |true=>
     rw[hb1] at h
     simp only[Bool.and_eq_true] at hb1
     have e1:=Nat.eq_of_beq_eq_true hb1.1
     have e2:=Nat.le_of_ble_eq_true hb1.2
     refine done h (by omega) (by omega) hd.one rfl fun w' hw' hs=> ?_
     have:=qj (hpw.aN hd off) hs
     exact et hw' (by simpa using this.1) (by simpa using this.2)
   ·cases hb1:(oq x&&(Nat.beq 1 i.size&&Nat.blt off cs.length)) with
    |false=>rw[hb1] at h;exact h.elim
    |true=>
     rw[hb1] at h
     simp only[Bool.and_eq_true] at hb1
     have hd:=c1 hb1.1
     have hvl:v.cells.size=1:=by have:=hd.1;simp at this;omega
     have e1:=Nat.eq_of_beq_eq_true hb1.2.1
     have e2:off<cs.length:=by have:=hb1.2.2;rwa[Nat.blt_eq] at this
     refine done h (by omega) (by omega) hd.one rfl fun w' hw' hs=> ?_
     have:=qj (hpw.aN hd off) hs
     exact et hw' (by simpa using this.1) (by simpa using this.2)
  ·rename_i t' e sb hj
   split at h
   case h_2=>exact h.elim
   rename_i k
   split at h
   case h_2=>exact h.elim
   rename_i o' e' sz hk'
   cases hb1:((Nat.beq e e'&&Nat.beq sz 1)&&(Nat.beq off 0&&Nat.beq 2 i.size)) with
   |false=>rw[hb1] at h;exact h.elim
   |true=>
    rw[hb1] at h
    simp only[Bool.and_eq_true] at hb1
    obtain⟨⟨q1,q2⟩,q3,q4⟩:=hb1
    obtain rfl:=Nat.eq_of_beq_eq_true q1
    obtain rfl:=Nat.eq_of_beq_eq_true q2
    obtain rfl:=Nat.eq_of_beq_eq_true q3
    have q4:=Nat.eq_of_beq_eq_true q4
    obtain⟨b',p,u,hρ',hpp,hh,ho,hFj⟩:=Ns hB hj
    rw[hρ] at hρ'
    simp only[Option.some.injEq,Value.pointer.injEq,Addr.mk.injEq,and_true] at hρ'
    subst hρ'
    have hd:=cm _ rfl
    have hl2:v.cells.toList.length=2:=hd.1.symm
    obtain⟨x0,x1,hv⟩:∃x0 x1,v.cells.toList=[x0,x1]:=by
     match hvc:v.cells.toList,hl2 with
     |[x0,x1],_=>exact⟨x0,x1,rfl⟩
    have d0:bG ρ w (aL Γ F w) (.c (.val (.pointer none))) x0:=hd.2 0 _ _ rfl (by rw[hv];rfl)
    have d1:bG ρ w (aL Γ F w) (.lw k) x1:=hd.2 1 _ _ rfl (by rw[hv];rfl)
    have e0:x0= .pointer none:=by cases d0 with|c hh2=>exact eE hh2
    subst e0
    obtain⟨rv,xs,hrv,ho2,hr,hin,hFk,hm2⟩:=ir hB hk'
    have e1:x1=rv:=by
     cases d1 with
     |lw hh2=>rw[hrv] at hh2;exact(Option.some.inj hh2).symm
    subst e1
    have hxs:xs=[]:=by cases hin;rfl
    subst hxs
    have hjk:j≠k:=by
     rintro rfl
     rw[hj] at hk'
     cases hk'
    have hsz:v.cells.size=i.size:=by rw[←q4,←hl2];simp
    have hrun:=mC (P:=P) (w:=w) hk hh hsz (o:=0) (by rw[hsz,←q4];simp) hd.one
    have harr:(aN (#[p,u]:Array Value).toList 0 v.cells.toList).toArray= #[.pointer none,x1]:=by rw[hv];rfl
    rw[harr] at hrun
    have hbj:b∈F j:=by rw[hFj];simp
    have hbk:b∉F k:=fun hb=>hjk (hm.jz j k b hbj hb)
    have ho3:(w.setRow b #[.pointer none,x1]).ownsRow 0 e 1 x1 0 []:=jb ho2 fun c hc=>setRow_other w b c _ (by rintro rfl;exact hbk (by rw[hFk];simp[hc]))
    obtain⟨g1,g2,g3⟩:=hm.oY (j:=j) (ks:=[k]) (k:= .iu t' e ByteArray.empty) (f:=b::x1.ownBlock.toList) (ρ':=ρ) (w':=w.setRow b #[.pointer none,x1]) rfl rfl rfl (by simp) (Ext.refl _) (fun _ _=>rfl) (by simpa using hjk)
     (fun c _ hc _=>setRow_other w b c _ (by rintro rfl;exact hc hbj))
     (fun c hc=>by
      rcases List.mem_cons.1 hc with rfl|hc
      ·exact .inl hbj
      ·exact .inr (.inl ⟨k,by simp,by rw[hFk];exact hc⟩))
     (by
      rw[List.nodup_cons]
      refine⟨fun hb=>hbk (by rw[hFk];exact hb), ?_⟩
      cases x1.ownBlock<;>simp)
     (fun ok' _=>by
      rw[hρ]
      exact .iu (.inl rfl) (setRow_heap w b _ _ _ (0,0) hh) ho3)
    exact⟨_,_,_,h,hrun,rfl,g1,g2,g3⟩
  ·exact h.elim
 ·rename_i j sz idx off
  obtain⟨b,n0,c0,hρ,rfl⟩:=Ho hp
  split at h
  ·exact h.elim
  rename_i cs' hcs
  have hd:=uX hB hcs hx
  have key:∀{ty:Nat} {rows:List (List CV)} {xs:List Value} {f:List Nat} {o:Option Value} (K':List (List CV)→Prop),w.ownsRow 0 ty sz (.slice (some ⟨b,0,none⟩) n0 c0) rows.length xs→(∀r∈rows,r.length=sz)→
        Den w (aL Γ F w) rows.flatten xs f→F j=b::f→(j::jH x).Nodup→uH sz rows idx off i.size cs' K'→
        ∃rows' w' f' xs',K' rows'∧(Instr.storeAt t (.pointer (some ⟨b,idx*sz+off,none⟩)) v).run P w= .ok () w'∧w'.os=w.os∧w'.tape=w.tape∧w'.output=w.output∧w.heap.size≤w'.heap.size∧
         (∀c,c<w.heap.size→c∉F j→w'.heap[c]? =w.heap[c]?)∧(∀c∈b::f',c∈F j∨(∃k∈jH x,c∈F k))∧(b::f').Nodup∧(jH x=[]→f=[]→f'=[])∧
         (∀r∈rows',r.length=sz)∧w'.ownsRow 0 ty sz (.slice (some ⟨b,0,none⟩) n0 c0) rows'.length xs'∧Den w' (aL Γ F w) rows'.flatten xs' f':=by
   intro ty rows xs f o K' ho hr hin hF hnd h
   obtain⟨hxl,hform⟩:=ho
   rcases hform with⟨e,_⟩|⟨g,cap,cur,e,_,hh,hnc,hcm,hcs0,htk⟩
   ·cases e
   ·simp only[Value.slice.injEq,Option.some.injEq,Addr.mk.injEq,and_true] at e
    obtain⟨rfl,rfl,rfl⟩:=e
    have h:=Hy h
    cases hb1:Nat.beq cs'.length i.size with
    |false=>rw[hb1] at h;exact h.elim
    |true=>
    rw[hb1] at h
    have e1:=Nat.eq_of_beq_eq_true hb1
    obtain⟨r,hx',h⟩:=h
    have hrl:=hr r (List.mem_of_getElem? hx')
    have hvl:v.cells.size=cs'.length:=by have:=hd.length;simp at this;omega
    obtain⟨hfit,hK⟩:off+cs'.length≤sz∧K' (rows.set idx (aN r off cs')):=by
     cases hb2:(Nat.beq off 0&&Nat.beq cs'.length sz) with
     |true=>
      rw[hb2] at h
      simp only[Bool.and_eq_true] at hb2
      have e2:=Nat.eq_of_beq_eq_true hb2.1
      have e3:=Nat.eq_of_beq_eq_true hb2.2
      exact⟨by omega,by rw[e2,nZ (by omega)];exact h⟩
     |false=>
      rw[hb2] at h
      cases hb3:Nat.ble (off+cs'.length) sz with
      |false=>rw[hb3] at h;exact h.elim
      |true=>
       rw[hb3] at h
       exact⟨Nat.le_of_ble_eq_true hb3,h⟩
    have hidx:=(List.getElem?_eq_some_iff.1 hx').1
    have hbound:idx*sz+sz≤rows.length*sz:=by rw[←Nat.succ_mul];exact Nat.mul_le_mul_right _ hidx
    have hcap:rows.length*sz≤c0*sz:=Nat.mul_le_mul_right _ hnc
    have hflat:(rows.set idx (aN r off cs')).flatten=aN rows.flatten (idx*sz+off) cs':=by
     have e0:rows=rows.take idx++r::rows.drop (idx+1):=by
      obtain⟨h1,h2⟩:=List.getElem?_eq_some_iff.1 hx'
      rw[←h2]
      simp
     have e1:rows.set idx (aN r off cs')=rows.take idx++aN r off cs'::rows.drop (idx+1):=by
      rw[List.set_eq_take_append_cons_drop]
      simp[hidx]
     have hlt:(rows.take idx).flatten.length=idx*sz:=by
      rw[eG fun r hr'=>hr r (List.mem_of_mem_take hr'),List.length_take]
      congr 1
      omega
     rw[e1]
     conv=>rhs;rw[e0]
     simp only[List.flatten_append,List.flatten_cons]
     unfold aN
     rw[List.take_append,hlt,List.take_of_length_le (l:=(rows.take idx).flatten) (by omega),show idx*sz+off-idx*sz=off by omega,List.take_append,List.drop_append,hlt,
      List.drop_of_length_le (l:=(rows.take idx).flatten) (by omega),show idx*sz+off+cs'.length-idx*sz=off+cs'.length by omega,List.drop_append,
      show off-r.length=0 by omega,show off+cs'.length-r.length=0 by omega]
     simp
    obtain⟨f1,f2,f3,rfl,hdd⟩:=vg hin hd (idx*sz+off)
    rw[←hflat] at hdd
    have hndF:(b::(f1++f2++f3)).Nodup:=by rw[←hF];exact hm.nodup j
    rw[List.nodup_cons] at hnd
    have hgn:=ld hm hnd.2
    have hgj:∀c∈(jH x).flatMap F,c∉F j:=by
     intro c hc hcj
     obtain⟨k,hk1,hk2⟩:=List.mem_flatMap.1 hc
     exact hnd.1 (hm.jz j k c hcj hk2▸hk1)
    have hsz:v.cells.size=i.size:=by omega
    have hnb:∀c∈f1++(jH x).flatMap F++f3,c≠b:=by
     rintro c hc rfl
     rw[List.nodup_cons] at hndF
     simp only[List.mem_append] at hc
     rcases hc with(hc|hc)|hc
     ·exact hndF.1 (by simp[hc])
     ·exact hgj c hc (by rw[hF];simp)
     ·exact hndF.1 (by simp[hc])
    have hown:b∈F j:=by simp[hF]
    have hne:∀c,aL Γ F w c→c≠b:=fun c hc e=>hc.2.2 ⟨j,e▸hown⟩
    have hrow:∀q∈rows.set idx (aN r off cs'),q.length=sz:=by
     intro q hq
     rcases List.mem_or_eq_of_mem_set hq with h1|h1
     ·exact hr q h1
     ·rw[h1,gf (by omega)];exact hrl
    have hdd':Den (w.setRow b (aN cur.toList (idx*sz+off) v.cells.toList).toArray) (aL Γ F w) (rows.set idx (aN r off cs')).flatten (aN xs (idx*sz+off) v.cells.toList) (f1++(jH x).flatMap F++f3):=
     hdd.mono (fun c hc=>setRow_other w b c _ (hne c hc)) (fun _ h=>h) fun c hc=>setRow_other w b c _ (hnb c hc)
    refine⟨_,w.setRow b (aN cur.toList (idx*sz+off) v.cells.toList).toArray,f1++(jH x).flatMap F++f3,aN xs (idx*sz+off) v.cells.toList,hK,mC hk hh hsz (by omega) hd.one,rfl,rfl,rfl,by simp,
     fun c _ hc=>setRow_other w b c _ (by rintro rfl;exact hc hown), ?_, ?_, ?_,hrow, ?_,hdd'⟩
    ·intro c hc
     simp only[List.mem_cons,List.mem_append] at hc
     rcases hc with rfl|(hc|hc)|hc
     ·exact .inl hown
     ·exact .inl (by rw[hF];simp[hc])
     ·obtain⟨k,hk1,hk2⟩:=List.mem_flatMap.1 hc
      exact .inr ⟨k,hk1,hk2⟩
     ·exact .inl (by rw[hF];simp[hc])
    ·rw[List.nodup_cons]
     refine⟨fun hc=>hnb b hc rfl, ?_⟩
     rw[List.nodup_cons] at hndF
     have h3:=hndF.2
     rw[List.nodup_append,List.nodup_append] at h3
     obtain⟨⟨n1,_,_⟩,n3,n4⟩:=h3
     rw[List.nodup_append,List.nodup_append]
     refine⟨⟨n1,hgn,fun a ha c hc e=> ?_⟩,n3,fun a ha c hc e=> ?_⟩
     ·subst e;exact hgj a hc (by rw[hF];simp[ha])
     ·subst e
      rcases List.mem_append.1 ha with ha|ha
      ·exact n4 a (by simp[ha]) a hc rfl
      ·exact hgj a ha (by rw[hF];simp[hc])
    ·intro h1 h2
     simp only[List.append_eq_nil_iff] at h2
     simp[h1,h2.1.1,h2.2]
    ·refine⟨?_, .inr ⟨b,c0,_,by simp,Nat.zero_le _,setRow_heap w b cur _ ty (0,0) hh,by simpa using hnc,hcm, ?_, ?_⟩⟩
     ·rw[←hdd'.length,eG hrow]
     ·simp only[List.size_toArray]
      rw[gf (by simp;omega)]
      simpa using hcs0
     ·rw[←htk]
      unfold aN
      simp only[List.length_set]
      rw[List.take_append,List.take_append,List.take_take,List.take_take,List.drop_take,List.length_append,List.length_take]
      simp only[Array.length_toList]
      rw[show min (idx*sz+off) (rows.length*sz)=idx*sz+off by omega,show min (rows.length*sz) (idx*sz+off)=idx*sz+off by omega,
       List.take_of_length_le (l:=v.cells.toList) (by simp;omega)]
      rw[show min (idx*sz+off) cur.size=idx*sz+off by omega]
  split at h
  ·rename_i o ty sz' rows hj
   obtain⟨rv,xs,hrv,ho,hr,hin,hF,hv⟩:=ir hB hj
   rw[hρ] at hrv
   simp only[Option.some.injEq] at hrv
   subst hrv
   cases hb:Nat.beq sz sz' with
   |false=>rw[hb] at h;exact h.elim
   |true=>
    rw[hb] at h
    have:=Nat.eq_of_beq_eq_true hb
    subst this
    simp only[cond] at h
    have hF':F j=b::[]:=by rw[hF];rfl
    split at h
    ·rename_i hl
     obtain⟨rows',w',f',xs',hK,hrun,e1,e2,e3,e4,e5,e6,e7,e8,e9,e10,I8⟩:=key (o:=o) _ ho hr hin hF' (by rw[hl];simp) h
     have:=e8 hl rfl
     subst this
     obtain⟨g1,g2,g3⟩:=hm.oY (j:=j) (ks:=[]) (k:= .row o ty sz rows') (f:=[b]) (ρ':=ρ) e1 e2 e3 e4 (Ext.refl _) (fun _ _=>rfl) (by simp) (fun c h1 h2 _=>e5 c h1 h2) (fun c hc=>(e6 c hc).imp_right fun h=>by simp[hl] at h) e7
      (fun ok' hok'=>by rw[hρ];exact .row e10 e9 (I8.mono (fun _ _=>rfl) hok' (by simp)) hv)
     exact⟨_,_,w',hK,hrun,rfl,g1,g2,g3⟩
    ·cases hnd:fH (j::jH x) with
     |false=>rw[hnd] at h;exact h.elim
     |true=>
      rw[hnd] at h
      have hnd':=fm hnd
      obtain⟨rows',w',f',xs',hK,hrun,e1,e2,e3,e4,e5,e6,e7,e8,e9,e10,I8⟩:=key (o:=o) _ ho hr hin hF' hnd' h
      obtain⟨g1,g2,g3⟩:=hm.oY (j:=j) (ks:=jH x) (k:= .aG o ty sz rows') (f:=b::f') (ρ':=ρ) e1 e2 e3 e4 (Ext.refl _) (fun _ _=>rfl) (List.nodup_cons.1 hnd').1 (fun c h1 h2 _=>e5 c h1 h2) (fun c hc=>(e6 c hc).imp_right .inl) e7
       (fun ok' hok'=>by rw[hρ];exact .aG e10 e9 (I8.mono (fun _ _=>rfl) hok' (fun _ _=>rfl)) hv)
      exact⟨_,_,w',hK,hrun,rfl,g1,g2,g3⟩
  ·rename_i o ty sz' rows hj
   obtain⟨rv,xs,f,hrv,ho,hr,hin,hF,hv⟩:=dN hB hj
   rw[hρ] at hrv
   simp only[Option.some.injEq] at hrv
   subst hrv
   cases hb:Nat.beq sz sz' with
   |false=>rw[hb] at h;exact h.elim
   |true=>
    rw[hb] at h
    have:=Nat.eq_of_beq_eq_true hb
    subst this
    simp only[cond] at h
    have hF':F j=b::f:=by rw[hF];rfl
    cases hnd:fH (j::jH x) with
    |false=>rw[hnd] at h;exact h.elim
    |true=>
     rw[hnd] at h
     have hnd':=fm hnd
     obtain⟨rows',w',f',xs',hK,hrun,e1,e2,e3,e4,e5,e6,e7,e8,e9,e10,I8⟩:=key (o:=o) _ ho hr hin hF' hnd' h
     obtain⟨g1,g2,g3⟩:=hm.oY (j:=j) (ks:=jH x) (k:= .aG o ty sz rows') (f:=b::f') (ρ':=ρ) e1 e2 e3 e4 (Ext.refl _) (fun _ _=>rfl) (List.nodup_cons.1 hnd').1 (fun c h1 h2 _=>e5 c h1 h2) (fun c hc=>(e6 c hc).imp_right .inl) e7
      (fun ok' hok'=>by rw[hρ];exact .aG e10 e9 (I8.mono (fun _ _=>rfl) hok' (fun _ _=>rfl)) hv)
     exact⟨_,_,w',hK,hrun,rfl,g1,g2,g3⟩
  ·exact h.elim
 ·exact h.elim
end
end Go.KA
