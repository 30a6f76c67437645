/- Part of a proof engine for functions of the given program: what an operation, a loop and a call compute, symbolically. No conditions. -/
import Derived.Test.YtgbggaddpbghfaaGreatEngH
namespace Go.KA
open Go Go.RowKit
structure oA where
 nm:Nat
 b:dE
 f:List Nat
 v:Option Value
def we:List oA→HM→HM
 |[],H=>H
 |e::r,H=>we r (dA H e.nm e.b)
def oz:List oA→FM→FM
 |[],F=>F
 |e::r,F=>oz r (fP F e.nm e.f)
def l7(e:oA)(o:Option Value):Option Value:=match e.v with|some v=>some v|none=>o
def mO:List oA→RM→RM
 |[],ρ=>ρ
 |e::r,ρ=>mO r (fun i=>if i=e.nm then l7 e (ρ i) else ρ i)
def fu(L:List oA):List (Nat × dE):=L.map fun e=>(e.nm,e.b)
theorem nE:∀(L:List oA) (H:HM),we L H=cY (fu L) H
 |[],_=>rfl
 |e::r,H=>by simp only[we,fu,List.map_cons,cY];exact nE r _
theorem kK:∀{L:List oA} {i:Nat},(∀e∈L,e.nm≠i)→∀(H:HM) (F:FM) (ρ:RM),we L H i=H i∧oz L F i=F i∧mO L ρ i=ρ i
 |[],i,_,_,_,_=>⟨rfl,rfl,rfl⟩
 |e::r,i,h,H,F,ρ=>by
  have he:i≠e.nm:=fun h'=>h e (by simp) h'.symm
  obtain⟨h1,h2,h3⟩:=kK (L:=r) (i:=i) (fun e he=>h e (by simp[he])) (dA H e.nm e.b) (fP F e.nm e.f) (fun i=>if i=e.nm then l7 e (ρ i) else ρ i)
  simp only[we,oz,mO]
  rw[h1,h2,h3,eV he,bW he]
  simp[he]
theorem fX:∀{L:List oA},(L.map (·.nm)).Nodup→∀{e:oA},e∈L→∀(H:HM) (F:FM) (ρ:RM),we L H e.nm=e.b∧oz L F e.nm=e.f∧mO L ρ e.nm=l7 e (ρ e.nm)
 |[],_,e,h,_,_,_=>by cases h
 |x::r,hnd,e,h,H,F,ρ=>by
  simp only[List.map_cons,List.nodup_cons] at hnd
  rcases List.mem_cons.1 h with rfl|h
  ·obtain⟨h1,h2,h3⟩:=kK (L:=r) (i:=e.nm) (fun e' he' h'=>hnd.1 (List.mem_map.2 ⟨e',he',h'⟩)) (dA H e.nm e.b) (fP F e.nm e.f) (fun i=>if i=e.nm then l7 e (ρ i) else ρ i)
   simp only[we,oz,mO]
   rw[h1,h2,h3,ef,bf]
   simp
  ·have hne:e.nm≠x.nm:=fun h'=>hnd.1 (List.mem_map.2 ⟨e,h,h'⟩)
   obtain⟨h1,h2,h3⟩:=fX hnd.2 h (dA H x.nm x.b) (fP F x.nm x.f) (fun i=>if i=x.nm then l7 x (ρ i) else ρ i)
   simp only[we,oz,mO]
   rw[h1,h2,h3]
   simp[hne]
theorem tu:∀{L:List oA},((L.map (·.f)).flatten).Nodup→(L.map (·.nm)).Nodup→∀{e e':oA},e∈L→e'∈L→∀{b:Nat},b∈e.f→b∈e'.f→e.nm=e'.nm
 |[],_,_,e,_,h,_,_,_,_=>by cases h
 |x::r,hf,hn,e,e',h,h',b,hb,hb'=>by
  simp only[List.map_cons,List.flatten_cons,List.nodup_append] at hf
  simp only[List.map_cons,List.nodup_cons] at hn
  have mem:∀{e:oA},e∈r→b∈e.f→b∈(r.map (·.f)).flatten:=fun he hb=>List.mem_flatten.2 ⟨_,List.mem_map.2 ⟨_,he,rfl⟩,hb⟩
  rcases List.mem_cons.1 h with h1|h1<;>rcases List.mem_cons.1 h' with h2|h2
  ·rw[h1,h2]
  ·subst h1;exact absurd rfl (hf.2.2 b hb b (mem h2 hb'))
  ·subst h2;exact absurd rfl (hf.2.2 b hb' b (mem h1 hb))
  ·exact tu hf.2.1 hn.2 h1 h2 hb hb'
theorem uq:∀{L:List oA},((L.map (·.f)).flatten).Nodup→∀{e:oA},e∈L→e.f.Nodup
 |[],_,e,h=>by cases h
 |x::r,hf,e,h=>by
  simp only[List.map_cons,List.flatten_cons,List.nodup_append] at hf
  rcases List.mem_cons.1 h with rfl|h
  ·exact hf.1
  ·exact uq hf.2.1 h
section
variable{P:Program}{tbl:TT}{Γ:Cx}{H Hm:HM}{ρ:RM}{F:FM}{w:World}
theorem m7(L:List oA)(hnd:(L.map (·.nm)).Nodup)(hnew:∀e∈L,e.v≠none→ρ e.nm=none):Ext ρ (mO L ρ)∧∀i,mO L ρ i≠ρ i→∃e∈L,e.nm=i∧e.v≠none:=by
 have key:∀i,(∃e∈L,e.nm=i)∨mO L ρ i=ρ i:=fun i=>by
  by_cases h:∃e∈L,e.nm=i
  ·exact .inl h
  ·exact .inr (kK (L:=L) (i:=i) (fun e he h'=>h ⟨e,he,h'⟩) (fun _=> .dead) (fun _=>[]) ρ).2.2
 refine⟨fun i v hv=> ?_,fun i hi=> ?_⟩
 ·rcases key i with⟨e,he,rfl⟩|h
  ·rw[(fX hnd he (fun _=> .dead) (fun _=>[]) ρ).2.2]
   cases hev:e.v with
   |none=>simp[l7,hev,hv]
   |some u=>rw[hnew e he (by rw[hev];simp)] at hv;cases hv
  ·rw[h];exact hv
 ·rcases key i with⟨e,he,rfl⟩|h
  ·refine⟨e,he,rfl,fun hev=>hi ?_⟩
   rw[(fX hnd he (fun _=> .dead) (fun _=>[]) ρ).2.2]
   simp[l7,hev]
  ·exact absurd h hi
theorem Mem.ents(hm:Mem Γ H ρ F w)(L:List oA){w':World}(hos:w'.os=w.os)(htape:w'.tape=w.tape)(hout:w'.output=w.output)(hsize:w.heap.size≤w'.heap.size)
 (hnd:(L.map (·.nm)).Nodup)(hnew:∀e∈L,e.v≠none→ρ e.nm=none)(hsame:∀b,b<w.heap.size→(∀e∈L,b∉F e.nm)→w'.heap[b]? =w.heap[b]?)
 (hsub:∀e∈L,∀b∈e.f,(∃e'∈L,b∈F e'.nm)∨(w.heap.size≤b∧b<w'.heap.size))(hflat:((L.map (·.f)).flatten).Nodup)
 (hB:∀e∈L,(∀b,aL Γ F w b→aL Γ (oz L F) w' b)→dd (mO L ρ) w' (aL Γ (oz L F) w') e.b (l7 e (ρ e.nm)) e.f):
 Mem Γ (we L H) (mO L ρ) (oz L F) w'∧(∀b,aL Γ F w b→aL Γ (oz L F) w' b)∧∀b,aL Γ F w b→w'.heap[b]? =w.heap[b]? :=by
 have hI:∀{i},i∈L.map (·.nm)→∃e∈L,e.nm=i:=fun h=>by obtain⟨e,he,rfl⟩:=List.mem_map.1 h;exact⟨e,he,rfl⟩
 have hN:∀{i},i∉L.map (·.nm)→∀e∈L,e.nm≠i:=fun h e he h'=>h (List.mem_map.2 ⟨e,he,h'⟩)
 have hF:∀i,i∉L.map (·.nm)→oz L F i=F i:=fun i hi=>(kK (hN hi) H F ρ).2.1
 have hsub':∀i∈L.map (·.nm),∀b∈oz L F i,(∃j∈L.map (·.nm),b∈F j)∨(w.heap.size≤b∧b<w'.heap.size):=by
  intro i hi b hb
  obtain⟨e,he,rfl⟩:=hI hi
  rw[(fX hnd he H F ρ).2.1] at hb
  rcases hsub e he b hb with⟨e',he',h'⟩|h'
  ·exact .inl ⟨_,List.mem_map.2 ⟨e',he',rfl⟩,h'⟩
  ·exact .inr h'
 have hs':∀b,b<w.heap.size→(∀i∈L.map (·.nm),b∉F i)→w'.heap[b]? =w.heap[b]? :=fun b hb h=>hsame b hb fun e he=>h _ (List.mem_map.2 ⟨e,he,rfl⟩)
 have hok:=pG (Γ:=Γ) hsize hF hsub'
 refine⟨hm.write (L.map (·.nm)) hos htape hout hsize (m7 L hnd hnew).1 (fun i hi=>⟨(kK (hN hi) H F ρ).1,hF i hi,(kK (hN hi) H F ρ).2.2⟩) hs' hsub' ?_ ?_ ?_,hok,nS hs'⟩
 ·intro i hi
  obtain⟨e,he,rfl⟩:=hI hi
  rw[(fX hnd he H F ρ).2.1]
  exact uq hflat he
 ·intro i hi j hj b hb hb'
  obtain⟨e,he,rfl⟩:=hI hi
  obtain⟨e',he',rfl⟩:=hI hj
  rw[(fX hnd he H F ρ).2.1] at hb
  rw[(fX hnd he' H F ρ).2.1] at hb'
  exact tu hflat hnd he he' hb hb'
 ·intro i hi
  obtain⟨e,he,rfl⟩:=hI hi
  obtain⟨h1,h2,h3⟩:=fX hnd he H F ρ
  rw[h1,h2,h3]
  exact hB e he hok
structure gB(w:World)(ok:Nat→Prop)(n:Nat)(L:List oA)(f:List Nat):Prop where
 names:L.map (·.nm)=List.range' n L.length
 flat:(L.map (·.f)).flatten=f
 den:∀e∈L,∃u,e.v=some u∧∀ρ:RM,(∀e'∈L,ρ e'.nm=e'.v)→dd ρ w ok e.b (some u) e.f
theorem gB.nil{ok:Nat→Prop}{n:Nat}:gB w ok n [] []:=⟨rfl,rfl,by simp⟩
theorem gB.append{ok:Nat→Prop}{n:Nat}{L L':List oA}{f f':List Nat}(h:gB w ok n L f)(h':gB w ok (n+L.length) L' f'):gB w ok n (L++L') (f++f'):=by
 refine⟨?_,by rw[List.map_append,List.flatten_append,h.flat,h'.flat],fun e he=> ?_⟩
 ·rw[List.map_append,h.names,h'.names,List.length_append,←List.range'_append_1]
 ·rcases List.mem_append.1 he with he|he
  ·obtain⟨u,h1,h2⟩:=h.den e he
   exact⟨u,h1,fun ρ hρ=>h2 ρ fun e' he'=>hρ e' (by simp[he'])⟩
  ·obtain⟨u,h1,h2⟩:=h'.den e he
   exact⟨u,h1,fun ρ hρ=>h2 ρ fun e' he'=>hρ e' (by simp[he'])⟩
theorem gB.one{ok:Nat→Prop}{n:Nat}{b:dE}{u:Value}{f:List Nat}(h:∀ρ:RM,dd ρ w ok b (some u) f):gB w ok n [⟨n,b,f,some u⟩] f:=
 ⟨rfl,by simp,fun e he=>by simp at he;subst he;exact⟨u,rfl,fun ρ _=>h ρ⟩⟩
theorem gB.mem{ok:Nat→Prop}{n:Nat}{L:List oA}{f:List Nat}(h:gB w ok n L f){e:oA}(he:e∈L):n≤e.nm∧e.nm<n+L.length:=by
 have:e.nm∈List.range' n L.length:=by rw[←h.names];exact List.mem_map.2 ⟨e,he,rfl⟩
 simpa[List.mem_range'_1] using this
theorem gB.nodup{ok:Nat→Prop}{n:Nat}{L:List oA}{f:List Nat}(h:gB w ok n L f):(L.map (·.nm)).Nodup:=by rw[h.names];exact List.nodup_range'
def Lp(el:Bool)(H:HM)(d agg:Bool)(size j:Nat)(o:Option Value)(ty sz:Nat)(rows:List (List CV))(idx off n:Nat)(r:List CV)(K:gI→Prop):Prop:=
 cond (((r.drop off).take (cond agg size 1)).all gU) (AR agg size ((r.drop off).take (cond agg size 1)) fun sv=>HT el H sv fun sv=>K (.q sv))
    (cond d False (cond (Nat.beq ((r.drop off).take (cond agg size 1)).length (cond agg size 1))
     (xR n ((r.drop off).take (cond agg size 1)) fun ps ss bs m=>
       match agg with
       |true=>K ⟨Nf ss,bs++[(j, .aG o ty sz (rows.set idx (aN r off ps)))],m-n,[]⟩
       |false=>match ss with
        |[s]=>K ⟨s,bs++[(j, .aG o ty sz (rows.set idx (aN r off ps)))],m-n,[]⟩
        |_=>False) False))
def Pt(tbl:TT)(t:Nat):Bool:=match tbl.find t with|some i=>i.elem.isSome|none=>false
def DN(d:Bool)(tbl:TT)(t:Nat)(p:SV)(H:HM)(n:Nat)(K:gI→Prop):Prop:=
 match p with
 | .le j sz idx off=>
   match H j with
   | .aG o ty sz' rows=>match tbl.find t with
     |none=>False
     |some i=>cond (Nat.beq sz sz') (Index rows idx fun r=>Lp i.elem.isSome H d i.agg i.size j o ty sz' rows idx off n r K) False
   |_=>vl tbl t p H fun sv=>K (.q sv)
 | .lp _ _=>vl tbl t p H fun sv=>HT (Pt tbl t) H sv fun sv=>K (.q sv)
 |_=>vl tbl t p H fun sv=>K (.q sv)
theorem pg{ok:Nat→Prop}:∀{cs:List CV} {xs:List Value} {f:List Nat} {n:Nat} {K:List CV→List SV→List (Nat × dE)→Nat→Prop},xR n cs K→Den w ok cs xs f→
 ∃ps ss m L,K ps ss (fu L) m∧m=n+L.length∧gB w ok n L f∧Den w ok ps xs []∧∀ρ:RM,(∀e∈L,ρ e.nm=e.v)→PW (bG ρ w ok) ss xs
 |[],xs,f,n,K,h,hd=>by
  cases hd
  exact⟨[],[],n,[],h,rfl, .nil, .nil,fun ρ _=>⟨rfl,by simp⟩⟩
 |c::cs,xs,f,n,K,h,hd=>by
  have plain:∀{x:Value} {vs:List Value} {f:List Nat},Den w ok [c] [x] []→Den w ok cs vs f→(xR n cs fun ps ss bs m=>K (c::ps) (.c c::ss) bs m)→
        ∃ps ss m L,K ps ss (fu L) m∧m=n+L.length∧gB w ok n L f∧Den w ok ps (x::vs) []∧∀ρ:RM,(∀e∈L,ρ e.nm=e.v)→PW (bG ρ w ok) ss (x::vs):=by
   intro x vs f h1 ht h
   obtain⟨ps,ss,m,L,hK,hm,hT,hD,hC⟩:=pg h ht
   refine⟨_,_,m,L,hK,hm,hT,by simpa using h1.append hD,fun ρ hρ=> ?_⟩
   obtain⟨g1,g2⟩:=hC ρ hρ
   refine⟨by simp[g1],fun j a v ha hv=> ?_⟩
   cases j with
   |zero=>simp at ha hv;subst ha hv;exact .c h1
   |succ j=>exact g2 j a v (by simpa using ha) (by simpa using hv)
  have owned:∀{x:Value} {vs:List Value} {g f:List Nat} {b:Value→dE},x.oneCell'=true→(∃a n c,x= .slice a n c)→(∀ρ:RM,dd ρ w ok (b x) (some x) g)→Den w ok cs vs f→
        (∀v:Value,xR (n+1) cs fun ps ss bs m=>K (.val v::ps) (.lw n::ss) ((n,b v)::bs) m)→
        ∃ps ss m L,K ps ss (fu L) m∧m=n+L.length∧gB w ok n L (g++f)∧Den w ok ps (x::vs) []∧∀ρ:RM,(∀e∈L,ρ e.nm=e.v)→PW (bG ρ w ok) ss (x::vs):=by
   intro x vs g f b h1 hx hb ht h
   obtain⟨ps,ss,m,L,hK,hm,hT,hD,hC⟩:=pg (h x) ht
   refine⟨_,_,m,⟨n,b x,g,some x⟩::L,hK,by simp;omega, ?_, .val h1 hD,fun ρ hρ=> ?_⟩
   ·have:=(gB.one (n:=n) hb).append (L':=L) (f':=f) (by simpa using hT)
    simpa using this
   ·obtain⟨g1,g2⟩:=hC ρ fun e he=>hρ e (by simp[he])
    refine⟨by simp[g1],fun j a v ha hv=> ?_⟩
    cases j with
    |zero=>
     simp at ha hv
     subst ha hv
     obtain⟨a,k,c,rfl⟩:=hx
     exact .lw (hρ ⟨n,b (.slice a k c),g,some (.slice a k c)⟩ (by simp))
    |succ j=>exact g2 j a v (by simpa using ha) (by simpa using hv)
  cases hd with
  |any h1 ht=>exact plain (.any h1 .nil) ht h
  |val h1 ht=>exact plain (.val h1 .nil) ht h
  |cb ht=>exact plain (.cb .nil) ht h
  |ro hn hc hm hr hin hrd ht=>exact plain (.ro hn hc hm hr hin hrd .nil) ht h
  |rp hl hin hs hrd ht=>exact plain (.rp hl hin hs hrd .nil) ht h
  | @op as vs f ty cells b g arr hb hin ht=>
    exact h.elim
  | @own as vs f ty sz rows xs v g hin hr ho ht=>
    have:=owned (x:=v) (g:=v.ownBlock.toList++g) (b:=fun v=> .aG (some v) ty sz rows) (jy ho) (by rcases di ho with⟨e,_⟩|⟨b,c,e,_⟩<;>exact⟨_,_,_,e⟩) (fun ρ=> .aG ho hr hin (by simp)) ht h
    simpa using this
  |eW _ _ _ _=>exact h.elim
  |iu _ _ _ _=>exact h.elim
  | @ows as vs f ty sz rows xs v hin hr ho ht=>
    exact owned (x:=v) (g:=v.ownBlock.toList) (b:=fun v=> .row (some v) ty sz rows) (jy ho) (by rcases di ho with⟨e,_⟩|⟨b,c,e,_⟩<;>exact⟨_,_,_,e⟩) (fun ρ=> .row ho hr hin (by simp)) ht h
theorem vX(hB:∀i,Hm i= .dead∨dd ρ w (aL Γ F w) (Hm i) (ρ i) (F i)){el:Bool}{sv:SV}{v:Value}{K:SV→Prop}(h:HT el Hm sv K)(hT:aZ ρ w (aL Γ F w) sv v):∃sv,K sv∧aZ ρ w (aL Γ F w) sv v:=by
 unfold HT at h
 split at h
 ·rename_i u
  cases el with
  |false=>exact⟨_,h,hT⟩
  |true=>
   have:=eE (bG.iJ hT)
   subst this
   cases h with
   |no k=>exact⟨_,k,hT⟩
   |row i hi k=>
    obtain⟨u,xs,hu,ho,hr,hin,hF,hv⟩:=ir hB hi
    have:=hv _ rfl
    subst this
    rcases di ho with⟨e,_⟩|⟨b,c,e,_⟩<;>(refine⟨_,k, .v (.c ?_)⟩;subst e;exact .lw hu)
   |aG i hi k=>
    obtain⟨u,xs,f,hu,ho,hr,hin,hF,hv⟩:=dN hB hi
    have:=hv _ rfl
    subst this
    rcases di ho with⟨e,_⟩|⟨b,c,e,_⟩<;>(refine⟨_,k, .v (.c ?_)⟩;subst e;exact .lw hu)
 ·exact⟨_,h,hT⟩
theorem BN(da:dM P tbl)(hm:Mem Γ H ρ F w)(hle:l9 Hm H){d:Bool}{t n:Nat}{p:SV}{pv:Value}{K:gI→Prop}(h:DN d tbl t p Hm n K)(hfr:me ρ n K)(hp:aZ ρ w (aL Γ F w) p pv):
 rO Γ H ρ F w n K ((Instr.loadAt t pv).run P w):=by
 have hB:=hm.hb hle
 unfold DN at h
 split at h
 ·rename_i j sz idx off
  split at h
  ·rename_i o ty sz' rows hj
   obtain⟨b,n0,c0,hρ,rfl⟩:=Ho hp
   split at h
   ·exact h.elim
   rename_i i hi
   have hk:=da _ _ hi
   obtain⟨rv,xs,f,hrv,ho,hr,hin,hF,hv⟩:=dN hB hj
   rw[hρ] at hrv
   simp only[Option.some.injEq] at hrv
   subst hrv
   cases hb:Nat.beq sz sz' with
   |false=>rw[hb] at h;exact h.elim
   |true=>
    rw[hb] at h
    have:=Nat.eq_of_beq_eq_true hb
    subst this
    obtain⟨r,hx,h⟩:=h
    unfold Lp at h
    have hrl:=hr r (List.mem_of_getElem? hx)
    have hidx:=(List.getElem?_eq_some_iff.1 hx).1
    have hbound:idx*sz+sz≤rows.length*sz:=by rw[←Nat.succ_mul];exact Nat.mul_le_mul_right _ hidx
    obtain⟨f1,fr,hf0,d1,d2⟩:=nU hin (idx*sz)
    obtain⟨f2,f3,hf1,d3,d4⟩:=nU d2 sz
    rw[fc hr hx] at d3
    obtain⟨g1,gr,hf2,d5,d6⟩:=nU d3 off
    obtain⟨g2,g3,hf3,d7,d8⟩:=nU d6 (cond i.agg i.size 1)
    subst hf0 hf1 hf2 hf3
    have hat:=j8 (fV (j8 (fV (jv ho rfl).1 (idx*sz)) sz) off) (cond i.agg i.size 1)
    rw[eh,eh,Nat.zero_add] at hat
    cases hpl:((r.drop off).take (cond i.agg i.size 1)).all gU with
    |true=>
     rw[hpl,cond_true] at h
     obtain⟨sv0,v,hK0,hrn,hT0⟩:=lZ (ρ:=ρ) hk (xU d7 hpl) hat h
     obtain⟨sv,hK,hT⟩:=vX hB hK0 hT0
     exact rO.quiet hm ⟨sv,v,hK,by simp[Instr.loadAt,Instr.sureAddr,hrn],hT⟩
    |false=>
     rw[hpl] at h
     cases d with
     |true=>exact h.elim
     |false=>
     cases hlen:Nat.beq ((r.drop off).take (cond i.agg i.size 1)).length (cond i.agg i.size 1) with
     |false=>rw[hlen] at h;exact h.elim
     |true=>
     rw[hlen] at h
     have hlen:=Nat.eq_of_beq_eq_true hlen
     simp only[cond] at h
     obtain⟨ps,ss,m,L,hK,hmL,hT,hD,hC⟩:=pg h d7
     subst hmL
     generalize hys:List.take (bif i.agg then i.size else 1) (List.drop off (List.take sz (List.drop (idx*sz) xs)))=ys at hat d7 hD hC
     have hyl:ys.length=cond i.agg i.size 1:=by rw[←d7.length];exact hlen
     have hpl':ps.length=cond i.agg i.size 1:=by rw[hD.length];exact hyl
     have hszpos:off+cond i.agg i.size 1≤sz:=by
      have h1:=hlen
      rw[List.length_take,List.length_drop,hrl] at h1
      have:0<cond i.agg i.size 1∨cond i.agg i.size 1=0:=by omega
      rcases this with h2|h2
      ·omega
      ·have:((r.drop off).take (cond i.agg i.size 1))=[]:=by rw[h2];simp
       rw[this] at hpl
       simp at hpl
     have hrow':aN r off ps=r.take off++ps++r.drop (off+cond i.agg i.size 1):=by unfold aN;rw[hpl']
     have hden:∀ok':Nat→Prop,(∀b,aL Γ F w b→ok' b)→Den w ok' (rows.set idx (aN r off ps)).flatten xs (f1++(g1++g3)++f3):=by
      intro ok' hok'
      have e1:rows.set idx (aN r off ps)=rows.take idx++aN r off ps::rows.drop (idx+1):=by
       rw[List.set_eq_take_append_cons_drop]
       simp[hidx]
      have e0:rows.flatten=(rows.take idx).flatten++(r++(rows.drop (idx+1)).flatten):=by
       have:rows=rows.take idx++r::rows.drop (idx+1):=by
          obtain⟨h1,h2⟩:=List.getElem?_eq_some_iff.1 hx
          rw[←h2]
          simp
       conv=>lhs;rw[this]
       simp
      have hlt:(rows.take idx).flatten.length=idx*sz:=by
       rw[eG fun r hr'=>hr r (List.mem_of_mem_take hr'),List.length_take]
       congr 1
       omega
      rw[e0,List.take_left' hlt] at d1
      rw[e0,List.drop_left' hlt,List.drop_left' hrl] at d4
      rw[e1,List.flatten_append,List.flatten_cons,hrow']
      have hxs:xs=List.take (idx*sz) xs++((List.take off (List.take sz (List.drop (idx*sz) xs))++ys++List.drop (cond i.agg i.size 1) (List.drop off (List.take sz (List.drop (idx*sz) xs))))++List.drop sz (List.drop (idx*sz) xs)):=by
       rw[←hys,List.append_assoc (List.take off _),List.take_append_drop,List.take_append_drop,List.take_append_drop,List.take_append_drop]
      rw[List.drop_drop] at d8
      have:=d1.append (((d5.append hD).append d8).append d4)
      rw[←hxs] at this
      have:=this.mono (w':=w) (fun _ _=>rfl) hok' (fun _ _=>rfl)
      simpa using this
     have hnF:=hm.nodup j
     rw[hF] at hnF
     have hjl:Hm j≠ .dead:=by rw[hj];simp
     have fin:∀{s:SV} {v:Value},K ⟨s,fu L++[(j, .aG o ty sz (rows.set idx (aN r off ps)))],L.length,[]⟩→(loadVar t ⟨b,idx*sz+off,none⟩).run P w= .ok v w→
      (∀ρ':RM,(∀e∈L,ρ' e.nm=e.v)→aZ ρ' w (aL Γ F w) s v)→rO Γ H ρ F w n K ((Instr.loadAt t (.pointer (some ⟨b,idx*sz+off,none⟩))).run P w):=by
      intro s v hK hrun hs
      have hfree:∀e∈L,ρ e.nm=none:=fun e he=>hfr _ hK _ (hT.mem he).1 (hT.mem he).2
      have hjne:∀e∈L,e.nm≠j:=fun e he h'=>jF hm hle (hfree e he) hjl h'.symm
      let L':List oA:=L++[⟨j, .aG o ty sz (rows.set idx (aN r off ps)),b::(f1++(g1++g3)++f3),none⟩]
      have hnd:(L'.map (·.nm)).Nodup:=by
       simp only[L',List.map_append,List.map_cons,List.map_nil]
       rw[List.nodup_append]
       refine⟨hT.nodup,by simp,fun a ha c hc e=> ?_⟩
       obtain⟨e',he',rfl⟩:=List.mem_map.1 ha
       simp at hc
       exact hjne e' he' (e.trans hc)
      have hnew:∀e∈L',e.v≠none→ρ e.nm=none:=by
       intro e he hev
       rcases List.mem_append.1 he with he|he
       ·exact hfree e he
       ·simp at he;subst he;exact absurd rfl hev
      have hR:∀e∈L,mO L' ρ e.nm=e.v:=by
       intro e he
       rw[(fX hnd (e:=e) (by simp[L',he]) H F ρ).2.2]
       obtain⟨u,hu,_⟩:=hT.den e he
       simp[l7,hu]
      have hflen:((L'.map (·.f)).flatten)=g2++(b::(f1++(g1++g3)++f3)):=by
       simp only[L',List.map_append,List.flatten_append,hT.flat]
       simp
      have hperm:((L'.map (·.f)).flatten).Perm ((Value.slice (some ⟨b,0,none⟩) n0 c0).ownBlock.toList++(f1++((g1++(g2++g3))++f3))):=by
       rw[hflen]
       simp only[Value.ownBlock,Option.toList_some,List.cons_append,List.nil_append]
       refine(List.perm_middle).trans (.cons b ?_)
       rw[←List.append_assoc]
       simp only[List.append_assoc]
       refine(List.perm_append_comm_assoc g2 f1 _).trans (.append_left f1 ?_)
       refine(List.perm_append_comm_assoc g2 g1 _)
      obtain⟨k1,k2,k3⟩:=hm.ents L' (w':=w) rfl rfl rfl (Nat.le_refl _) hnd hnew (fun _ _ _=>rfl)
       (fun e he c hc=>by
          left
          refine⟨_,List.mem_append_right _ (List.mem_singleton.2 rfl), ?_⟩
          show c∈F j
          rw[hF]
          exact hperm.subset (List.mem_flatten.2 ⟨e.f,List.mem_map.2 ⟨e,he,rfl⟩,hc⟩))
       (hperm.nodup_iff.2 hnF)
       (fun e he hok'=>by
          rcases List.mem_append.1 he with he|he
          ·obtain⟨u,hu,hd⟩:=hT.den e he
           have:=hd (mO L' ρ) hR
           simp only[l7,hu]
           exact this.mono (fun _ _=>rfl) hok' (fun _ _=>rfl) (Ext.refl _)
          ·have he:=List.mem_singleton.1 he
           subst he
           simp only[l7,hρ]
           have:b::(f1++(g1++g3)++f3)=(Value.slice (some ⟨b,0,none⟩) n0 c0).ownBlock.toList++(f1++(g1++g3)++f3):=rfl
           rw[this]
           refine .aG (xs:=xs) (by rw[List.length_set];exact ho) (fun q hq=> ?_) (hden _ hok') hv
           rcases List.mem_or_eq_of_mem_set hq with h1|h1
           ·exact hr q h1
           ·rw[h1,gf (by omega)];exact hrl)
      obtain⟨x1,x2⟩:=m7 L' hnd hnew
      refine⟨_,_,_,v,w,hK,by simp[Instr.loadAt,Instr.sureAddr,hrun],x1,fun a ha=> ?_, ?_,k2,k3,(hs _ hR).mono (fun _ _=>rfl) k2 (Ext.refl _)⟩
      ·obtain⟨e,he,rfl,hev⟩:=x2 a ha
       rcases List.mem_append.1 he with he|he
       ·exact hT.mem he
       ·simp at he;subst he;exact absurd rfl hev
      ·rw[nE] at k1
       have:fu L'=fu L++[(j, .aG o ty sz (rows.set idx (aN r off ps)))]:=by simp[L',fu]
       rw[this] at k1
       exact k1
     have hmn:n+L.length-n=L.length:=by omega
     rw[hmn] at hK
     split at hK
     ·rename_i hagg
      rw[hagg] at hyl
      simp only[cond] at hyl
      exact fin hK (jw hk hyl hat hagg) fun ρ' hρ'=>vZ (hC ρ' hρ').1 (hC ρ' hρ').2
     ·rename_i hagg
      rw[hagg] at hyl
      simp only[cond] at hyl
      split at hK
      ·rename_i s
       match hy:ys,hyl with
       |[y],_=>
        have h0:=hat 0 y rfl
        rw[Addr.add_zero'] at h0
        exact fin hK (kE hk h0 hagg) fun ρ' hρ'=> .v (.c ((hC ρ' hρ').2 0 s y rfl rfl))
      ·exact hK.elim
  ·exact rO.quiet hm (mj hB da h hp)
 ·obtain⟨sv0,v,h0,hrn,hT0⟩:=mj hB da h hp
  obtain⟨sv,hK,hT⟩:=vX hB h0 hT0
  exact rO.quiet hm ⟨sv,v,hK,hrn,hT⟩
 ·exact rO.quiet hm (mj hB da h hp)
end
end Go.KA
