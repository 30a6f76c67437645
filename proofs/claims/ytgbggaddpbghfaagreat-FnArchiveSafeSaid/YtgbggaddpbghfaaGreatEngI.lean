/- Part of a proof engine for functions of the given program: what an operation, a loop and a call compute, symbolically. No conditions. -/
import Derived.Test.YtgbggaddpbghfaaGreatEngH
namespace Go.KA
open Go Go.RowKit
structure rH where
 nm:Nat
 b:dW
 f:List Nat
 v:Option Value
def AF:List rH->HM->HM
 |[],H=>H
 |e::r,H=>AF r (dY H e.nm e.b)
def qF:List rH->FM->FM
 |[],F=>F
 |e::r,F=>qF r (gR F e.nm e.f)
def n8(e:rH)(o:Option Value):Option Value:=match e.v with|some v=>some v|none=>o
def oQ:List rH->RM->RM
 |[],ρ=>ρ
 |e::r,ρ=>oQ r (fun i=>if i=e.nm then n8 e (ρ i)else ρ i)
def gp(L:List rH):List (Nat × dW):=L.map fun e=>(e.nm,e.b)
theorem pV:∀(L:List rH) (H:HM),AF L H=du (gp L) H
 |[],_=>rfl
 |e::r,H=>by simp only[AF,gp,List.map_cons,du];exact pV r _
theorem mD:∀{L:List rH} {i:Nat},(∀e∈L,e.nm≠i)-> ∀(H:HM) (F:FM) (ρ:RM),AF L H i=H i/\qF L F i=F i/\oQ L ρ i=ρ i
 |[],i,_,_,_,_=>⟨rfl,rfl,rfl⟩
 |e::r,i,h,H,F,ρ=>by
  have he:i≠e.nm:=fun h'=>h e (by simp) h'.symm
  obtain⟨h1,h2,h3⟩:=mD (L:=r) (i:=i) (fun e he=>h e (by simp[he])) (dY H e.nm e.b) (gR F e.nm e.f) (fun i=>if i=e.nm then n8 e (ρ i)else ρ i);simp only[AF,qF,oQ];rw[h1,h2,h3,fP he,cJ he];simp[he]
theorem ic:∀{L:List rH},(L.map (·.nm)).Nodup-> ∀{e:rH},e∈L-> ∀(H:HM) (F:FM) (ρ:RM),AF L H e.nm=e.b/\qF L F e.nm=e.f/\oQ L ρ e.nm=n8 e (ρ e.nm)
 |[],_,e,h,_,_,_=>by cases h
 |x::r,gB,e,h,H,F,ρ=>by
  simp only[List.map_cons,List.nodup_cons]at gB;rcases List.mem_cons.1 h with rfl|h
  ·obtain⟨h1,h2,h3⟩:=mD (L:=r) (i:=e.nm) (fun e' qt h'=>gB.1 (List.mem_map.2 ⟨e',qt,h'⟩)) (dY H e.nm e.b) (gR F e.nm e.f) (fun i=>if i=e.nm then n8 e (ρ i)else ρ i);simp only[AF,qF,oQ];rw[h1,h2,h3,eF,bO];simp
  ·have jr:e.nm≠x.nm:=fun h'=>gB.1 (List.mem_map.2 ⟨e,h,h'⟩)
   obtain⟨h1,h2,h3⟩:=ic gB.2 h (dY H x.nm x.b) (gR F x.nm x.f) (fun i=>if i=x.nm then n8 x (ρ i)else ρ i);simp only[AF,qF,oQ];rw[h1,h2,h3];simp[jr]
theorem wJ:∀{L:List rH},((L.map (·.f)).flatten).Nodup->(L.map (·.nm)).Nodup-> ∀{e e':rH},e∈L->e'∈L-> ∀{b:Nat},b∈e.f->b∈e'.f->e.nm=e'.nm
 |[],_,_,e,_,h,_,_,_,_=>by cases h
 |x::r,hf,hn,e,e',h,h',b,hb,fX=>by
  simp only[List.map_cons,List.flatten_cons,List.nodup_append]at hf;simp only[List.map_cons,List.nodup_cons]at hn;have mem:∀{e:rH},e∈r->b∈e.f->b∈(r.map (·.f)).flatten:=fun he hb=>List.mem_flatten.2 ⟨_,List.mem_map.2 ⟨_,he,rfl⟩,hb⟩
  rcases List.mem_cons.1 h with h1|h1<;>rcases List.mem_cons.1 h' with h2|h2
  ·rw[h1,h2]
  ·subst h1;exact absurd rfl (hf.2.2 b hb b (mem h2 fX))
  ·subst h2;exact absurd rfl (hf.2.2 b fX b (mem h1 hb))
  ·exact wJ hf.2.1 hn.2 h1 h2 hb fX
theorem wu:∀{L:List rH},((L.map (·.f)).flatten).Nodup-> ∀{e:rH},e∈L->e.f.Nodup
 |[],_,e,h=>by cases h
 |x::r,hf,e,h=>by
  simp only[List.map_cons,List.flatten_cons,List.nodup_append]at hf;rcases List.mem_cons.1 h with rfl|h
  ·exact hf.1
  ·exact wu hf.2.1 h
section
variable{P:Program}{tbl:TT}{Γ:Cx}{H Hm:HM}{ρ:RM}{F:FM}{w:World}
theorem pF(L:List rH)(gB:(L.map (·.nm)).Nodup)(pe:∀e∈L,e.v≠none->ρ e.nm=none):Ext ρ (oQ L ρ)/\ ∀i,oQ L ρ i≠ρ i-> ∃e∈L,e.nm=i/\e.v≠none:=by
 have key:∀i,(∃e∈L,e.nm=i)\/oQ L ρ i=ρ i:=fun i=>by
  by_cases h:∃e∈L,e.nm=i
  ·exact .inl h
  ·exact .inr (mD (L:=L) (i:=i) (fun e he h'=>h ⟨e,he,h'⟩) (fun _=> .dead) (fun _=>[]) ρ).2.2
 refine⟨fun i v hv=>?_,fun i hi=>?_⟩
 ·rcases key i with⟨e,he,rfl⟩|h
  ·rw[(ic gB he (fun _=> .dead) (fun _=>[]) ρ).2.2];cases oz:e.v with
   |none=>simp[n8,oz,hv]
   |some u=>rw[pe e he (by rw[oz];simp)]at hv;cases hv
  ·rw[h];exact hv
 ·rcases key i with⟨e,he,rfl⟩|h
  ·refine⟨e,he,rfl,fun oz=>hi ?_⟩;rw[(ic gB he (fun _=> .dead) (fun _=>[]) ρ).2.2];simp[n8,oz]
  ·exact absurd h hi
theorem Mem.ents(hm:Mem Γ H ρ F w)(L:List rH){w':World}(WV:w'.os=w.os)(zb:w'.tape=w.tape)(DE:w'.output=w.output)(eZ:w.heap.size≤w'.heap.size)
 (gB:(L.map (·.nm)).Nodup)(pe:∀e∈L,e.v≠none->ρ e.nm=none)(ko:∀b,b<w.heap.size->(∀e∈L,b∉F e.nm)->w'.heap[b]? =w.heap[b]?)
 (jn:∀e∈L,∀b∈e.f,(∃e'∈L,b∈F e'.nm)\/(w.heap.size≤b/\b<w'.heap.size))(uS:((L.map (·.f)).flatten).Nodup)
 (hB:∀e∈L,(∀b,bg Γ F w b->bg Γ (qF L F) w' b)->dH (oQ L ρ) w' (bg Γ (qF L F) w') e.b (n8 e (ρ e.nm)) e.f):
 Mem Γ (AF L H) (oQ L ρ) (qF L F) w'/\(∀b,bg Γ F w b->bg Γ (qF L F) w' b)/\ ∀b,bg Γ F w b->w'.heap[b]? =w.heap[b]? :=by
 have hI:∀{i},i∈L.map (·.nm)-> ∃e∈L,e.nm=i:=fun h=>by obtain⟨e,he,rfl⟩:=List.mem_map.1 h;exact⟨e,he,rfl⟩
 have hN:∀{i},i∉L.map (·.nm)-> ∀e∈L,e.nm≠i:=fun h e he h'=>h (List.mem_map.2 ⟨e,he,h'⟩)
 have hF:∀i,i∉L.map (·.nm)->qF L F i=F i:=fun i hi=>(mD (hN hi) H F ρ).2.1
 have TU:∀i∈L.map (·.nm),∀b∈qF L F i,(∃j∈L.map (·.nm),b∈F j)\/(w.heap.size≤b/\b<w'.heap.size):=by
  intro i hi b hb;obtain⟨e,he,rfl⟩:=hI hi;rw[(ic gB he H F ρ).2.1]at hb;rcases jn e he b hb with⟨e',qt,h'⟩|h'
  ·exact .inl ⟨_,List.mem_map.2 ⟨e',qt,rfl⟩,h'⟩
  ·exact .inr h'
 have RE:∀b,b<w.heap.size->(∀i∈L.map (·.nm),b∉F i)->w'.heap[b]? =w.heap[b]? :=fun b hb h=>ko b hb fun e he=>h _ (List.mem_map.2 ⟨e,he,rfl⟩)
 have cH:=rZ (Γ:=Γ) eZ hF TU;refine⟨hm.write (L.map (·.nm)) WV zb DE eZ (pF L gB pe).1 (fun i hi=>⟨(mD (hN hi) H F ρ).1,hF i hi,(mD (hN hi) H F ρ).2.2⟩) RE TU ?_ ?_ ?_,cH,ql RE⟩
 ·intro i hi;obtain⟨e,he,rfl⟩:=hI hi;rw[(ic gB he H F ρ).2.1];exact wu uS he
 ·intro i hi j hj b hb fX;obtain⟨e,he,rfl⟩:=hI hi;obtain⟨e',qt,rfl⟩:=hI hj;rw[(ic gB he H F ρ).2.1]at hb;rw[(ic gB qt H F ρ).2.1]at fX;exact wJ uS gB he qt hb fX
 ·intro i hi;obtain⟨e,he,rfl⟩:=hI hi;obtain⟨h1,h2,h3⟩:=ic gB he H F ρ;rw[h1,h2,h3];exact hB e he cH
structure iM(w:World)(ok:Nat->Prop)(n:Nat)(L:List rH)(f:List Nat):Prop where
 names:L.map (·.nm)=List.range' n L.length
 flat:(L.map (·.f)).flatten=f
 den:∀e∈L,∃u,e.v=some u/\ ∀ρ:RM,(∀e'∈L,ρ e'.nm=e'.v)->dH ρ w ok e.b (some u) e.f
theorem iM.nil{ok:Nat->Prop}{n:Nat}:iM w ok n [] []:=⟨rfl,rfl,by simp⟩
theorem iM.append{ok:Nat->Prop}{n:Nat}{L L':List rH}{f f':List Nat}(h:iM w ok n L f)(h':iM w ok (n+L.length) L' f'):iM w ok n (L++L') (f++f'):=by
 refine⟨?_,by rw[au,List.flatten_append,h.flat,h'.flat],fun e he=>?_⟩
 ·rw[au,h.names,h'.names,ai,<-List.range'_append_1]
 ·rcases ao.1 he with he|he
  ·obtain⟨u,h1,h2⟩:=h.den e he;exact⟨u,h1,fun ρ hρ=>h2 ρ fun e' qt=>hρ e' (by simp[qt])⟩
  ·obtain⟨u,h1,h2⟩:=h'.den e he;exact⟨u,h1,fun ρ hρ=>h2 ρ fun e' qt=>hρ e' (by simp[qt])⟩
theorem iM.one{ok:Nat->Prop}{n:Nat}{b:dW}{u:Value}{f:List Nat}(h:∀ρ:RM,dH ρ w ok b (some u) f):iM w ok n [⟨n,b,f,some u⟩] f:=
 ⟨rfl,by simp,fun e he=>by simp at he;subst he;exact⟨u,rfl,fun ρ _=>h ρ⟩⟩
theorem iM.mem{ok:Nat->Prop}{n:Nat}{L:List rH}{f:List Nat}(h:iM w ok n L f){e:rH}(he:e∈L):n≤e.nm/\e.nm<n+L.length:=by
 have:e.nm∈List.range' n L.length:=by rw[<-h.names];exact List.mem_map.2 ⟨e,he,rfl⟩
 simpa[List.mem_range'_1]using this
theorem iM.nodup{ok:Nat->Prop}{n:Nat}{L:List rH}{f:List Nat}(h:iM w ok n L f):(L.map (·.nm)).Nodup:=by rw[h.names];exact List.nodup_range'
def Po(el:Bool)(H:HM)(d agg:Bool)(size j:Nat)(o:Option Value)(ty sz:Nat)(rows:List (List CV))(idx off n:Nat)(r:List CV)(K:iT->Prop):Prop:=
 cond (((r.drop off).take (cond agg size 1)).all ji) (EU agg size ((r.drop off).take (cond agg size 1)) fun sv=>MS el H sv fun sv=>K (.q sv))
    (cond d False (cond (Nat.beq ((r.drop off).take (cond agg size 1)).length (cond agg size 1))
     (zI n ((r.drop off).take (cond agg size 1)) fun ps ss bs m=>
       match agg with
       |true=>K ⟨Tu ss,bs++[(j, .aU o ty sz (rows.set idx (bo r off ps)))],m-n,[]⟩
       |false=>match ss with
        |[s]=>K ⟨s,bs++[(j, .aU o ty sz (rows.set idx (bo r off ps)))],m-n,[]⟩
        |_=>False) False))
def XL(tbl:TT)(t:Nat):Bool:=match tbl.find t with|some i=>i.elem.isSome|none=>false
def Ia(d:Bool)(tbl:TT)(t:Nat)(p:SV)(H:HM)(n:Nat)(K:iT->Prop):Prop:=
 match p with
 | .le j sz idx off=>
   match H j with
   | .aU o ty fN rows=>match tbl.find t with
     |none=>False
     |some i=>cond (Nat.beq sz fN) (Index rows idx fun r=>Po i.elem.isSome H d i.agg i.size j o ty fN rows idx off n r K) False
   |_=>xL tbl t p H fun sv=>K (.q sv)
 | .lp _ _=>xL tbl t p H fun sv=>MS (XL tbl t) H sv fun sv=>K (.q sv)
 |_=>xL tbl t p H fun sv=>K (.q sv)
theorem q9{ok:Nat->Prop}:∀{cs:List CV} {xs:List Value} {f:List Nat} {n:Nat} {K:List CV->List SV->List (Nat × dW)->Nat->Prop},zI n cs K->Den w ok cs xs f->
 ∃ps ss m L,K ps ss (gp L) m/\m=n+L.length/\iM w ok n L f/\Den w ok ps xs []/\ ∀ρ:RM,(∀e∈L,ρ e.nm=e.v)->PW (b9 ρ w ok) ss xs
 |[],xs,f,n,K,h,hd=>by
  cases hd;exact⟨[],[],n,[],h,rfl, .nil, .nil,fun ρ _=>⟨rfl,by simp⟩⟩
 |c::cs,xs,f,n,K,h,hd=>by
  have plain:∀{x:Value} {vs:List Value} {f:List Nat},Den w ok [c] [x] []->Den w ok cs vs f->(zI n cs fun ps ss bs m=>K (c::ps) (.c c::ss) bs m)->
        ∃ps ss m L,K ps ss (gp L) m/\m=n+L.length/\iM w ok n L f/\Den w ok ps (x::vs) []/\ ∀ρ:RM,(∀e∈L,ρ e.nm=e.v)->PW (b9 ρ w ok) ss (x::vs):=by
   intro x vs f h1 ht h;obtain⟨ps,ss,m,L,hK,hm,hT,hD,hC⟩:=q9 h ht;refine⟨_,_,m,L,hK,hm,hT,by simpa using h1.append hD,fun ρ hρ=>?_⟩;obtain⟨g1,g2⟩:=hC ρ hρ;refine⟨by simp[g1],fun j a v ha hv=>?_⟩;cases j with
   |zero=>simp at ha hv;subst ha hv;exact .c h1
   |succ j=>exact g2 j a v (by simpa using ha) (by simpa using hv)
  have owned:∀{x:Value} {vs:List Value} {g f:List Nat} {b:Value->dW},x.oneCell'=true->(∃a n c,x= .slice a n c)->(∀ρ:RM,dH ρ w ok (b x) (some x) g)->Den w ok cs vs f->
        (∀v:Value,zI (n+1) cs fun ps ss bs m=>K (.val v::ps) (.lw n::ss) ((n,b v)::bs) m)->
        ∃ps ss m L,K ps ss (gp L) m/\m=n+L.length/\iM w ok n L (g++f)/\Den w ok ps (x::vs) []/\ ∀ρ:RM,(∀e∈L,ρ e.nm=e.v)->PW (b9 ρ w ok) ss (x::vs):=by
   intro x vs g f b h1 hx hb ht h;obtain⟨ps,ss,m,L,hK,hm,hT,hD,hC⟩:=q9 (h x) ht;refine⟨_,_,m,⟨n,b x,g,some x⟩::L,hK,by simp;omega,?_, .val h1 hD,fun ρ hρ=>?_⟩
   ·have:=(iM.one (n:=n) hb).append (L':=L) (f':=f) (by simpa using hT);simpa using this
   ·obtain⟨g1,g2⟩:=hC ρ fun e he=>hρ e (by simp[he])
    refine⟨by simp[g1],fun j a v ha hv=>?_⟩;cases j with
    |zero=>
     simp at ha hv;subst ha hv;obtain⟨a,k,c,rfl⟩:=hx;exact .lw (hρ ⟨n,b (.slice a k c),g,some (.slice a k c)⟩ (by simp))
    |succ j=>exact g2 j a v (by simpa using ha) (by simpa using hv)
  cases hd with
  |any h1 ht=>exact plain (.any h1 .nil) ht h
  |val h1 ht=>exact plain (.val h1 .nil) ht h
  |cb ht=>exact plain (.cb .nil) ht h
  |ro hn hc hm hr bw jH ht=>exact plain (.ro hn hc hm hr bw jH .nil) ht h
  |rp hl bw hs jH ht=>exact plain (.rp hl bw hs jH .nil) ht h
  | @op as vs f ty cells b g arr hb bw ht=>
    exact h.elim
  | @own as vs f ty sz rows xs v g bw hr ho ht=>
    have:=owned (x:=v) (g:=v.ownBlock.toList++g) (b:=fun v=> .aU (some v) ty sz rows) (kP ho) (by rcases dJ ho with⟨e,_⟩|⟨b,c,e,_⟩<;>exact⟨_,_,_,e⟩) (fun ρ=> .aU ho hr bw (by simp)) ht h;simpa using this
  |fQ _ _ _ _=>exact h.elim
  |jB _ _ _ _=>exact h.elim
  | @ows as vs f ty sz rows xs v bw hr ho ht=>
    exact owned (x:=v) (g:=v.ownBlock.toList) (b:=fun v=> .row (some v) ty sz rows) (kP ho) (by rcases dJ ho with⟨e,_⟩|⟨b,c,e,_⟩<;>exact⟨_,_,_,e⟩) (fun ρ=> .row ho hr bw (by simp)) ht h
theorem AA(hB:∀i,Hm i= .dead\/dH ρ w (bg Γ F w) (Hm i) (ρ i) (F i)){el:Bool}{sv:SV}{v:Value}{K:SV->Prop}(h:MS el Hm sv K)(hT:bJ ρ w (bg Γ F w) sv v):∃sv,K sv/\bJ ρ w (bg Γ F w) sv v:=by
 unfold MS at h;split at h
 ·rename_i u;cases el with
  |false=>exact⟨_,h,hT⟩
  |true=>
   have:=fD (b9.jM hT);subst this;cases h with
   |no k=>exact⟨_,k,hT⟩
   |row i hi k=>
    obtain⟨u,xs,hu,ho,hr,bw,hF,hv⟩:=jx hB hi;have:=hv _ rfl;subst this;rcases dJ ho with⟨e,_⟩|⟨b,c,e,_⟩<;>(refine⟨_,k, .v (.c ?_)⟩;subst e;exact .lw hu)
   |aU i hi k=>
    obtain⟨u,xs,f,hu,ho,hr,bw,hF,hv⟩:=et hB hi;have:=hv _ rfl;subst this;rcases dJ ho with⟨e,_⟩|⟨b,c,e,_⟩<;>(refine⟨_,k, .v (.c ?_)⟩;subst e;exact .lw hu)
 ·exact⟨_,h,hT⟩
theorem HE(dC:en P tbl)(hm:Mem Γ H ρ F w)(hle:n9 Hm H){d:Bool}{t n:Nat}{p:SV}{pv:Value}{K:iT->Prop}(h:Ia d tbl t p Hm n K)(nY:oc ρ n K)(hp:bJ ρ w (bg Γ F w) p pv):
 um Γ H ρ F w n K ((Instr.loadAt t pv).run P w):=by
 have hB:=hm.hb hle;unfold Ia at h;split at h
 ·rename_i j sz idx off;split at h
  ·rename_i o ty fN rows hj;obtain⟨b,n0,c0,hρ,rfl⟩:=Nh hp;split at h
   ·exact h.elim
   rename_i i hi;have hk:=dC _ _ hi;obtain⟨rv,xs,f,jX,ho,hr,bw,hF,hv⟩:=et hB hj;rw[hρ]at jX;simp only[Option.some.injEq]at jX;subst jX;cases hb:Nat.beq sz fN with
   |false=>rw[hb]at h;exact h.elim
   |true=>
    rw[hb]at h;have:=ae hb;subst this;obtain⟨r,hx,h⟩:=h;unfold Po at h;have sU:=hr r (List.mem_of_getElem? hx);have Bu:=(List.getElem?_eq_some_iff.1 hx).1;have hbound:idx*sz+sz≤rows.length*sz:=by rw[<-Nat.succ_mul];exact Nat.mul_le_mul_right _ Bu
    obtain⟨f1,fr,YD,d1,d2⟩:=pM bw (idx*sz);obtain⟨f2,f3,TZ,d3,d4⟩:=pM d2 sz;rw[fZ hr hx]at d3;obtain⟨g1,gr,Ot,d5,d6⟩:=pM d3 off;obtain⟨g2,g3,hf3,d7,d8⟩:=pM d6 (cond i.agg i.size 1);subst YD TZ Ot hf3;have jC:=lY (ig (lY (ig (kA ho rfl).1 (idx*sz)) sz) off) (cond i.agg i.size 1);rw[eW,eW,Nat.zero_add]at jC;cases dV:((r.drop off).take (cond i.agg i.size 1)).all ji with
    |true=>
     rw[dV,cond_true]at h;obtain⟨sv0,v,hK0,Ja,XN⟩:=nr (ρ:=ρ) hk (zn d7 dV) jC h;obtain⟨sv,hK,hT⟩:=AA hB hK0 XN;exact um.quiet hm ⟨sv,v,hK,by simp[Instr.loadAt,Instr.sureAddr,Ja],hT⟩
    |false=>
     rw[dV]at h;cases d with
     |true=>exact h.elim
     |false=>
     cases hlen:Nat.beq ((r.drop off).take (cond i.agg i.size 1)).length (cond i.agg i.size 1)with
     |false=>rw[hlen]at h;exact h.elim
     |true=>
     rw[hlen]at h;have hlen:=ae hlen;simp only[cond]at h;obtain⟨ps,ss,m,L,hK,hmL,hT,hD,hC⟩:=q9 h d7;subst hmL;generalize ud:List.take (bif i.agg then i.size else 1) (List.drop off (List.take sz (List.drop (idx*sz) xs)))=ys at jC d7 hD hC;have Vm:ys.length=cond i.agg i.size 1:=by rw[<-d7.length];exact hlen
     have aa3:ps.length=cond i.agg i.size 1:=by rw[hD.length];exact Vm
     have aae:off+cond i.agg i.size 1≤sz:=by
      have h1:=hlen;rw[aq,List.length_drop,sU]at h1;have:0<cond i.agg i.size 1\/cond i.agg i.size 1=0:=by omega
      rcases this with h2|h2
      ·omega
      ·have:((r.drop off).take (cond i.agg i.size 1))=[]:=by rw[h2];simp
       rw[this]at dV;simp at dV
     have Xo:bo r off ps=r.take off++ps++r.drop (off+cond i.agg i.size 1):=by unfold bo;rw[aa3]
     have qW:∀ok':Nat->Prop,(∀b,bg Γ F w b->ok' b)->Den w ok' (rows.set idx (bo r off ps)).flatten xs (f1++(g1++g3)++f3):=by
      intro ok' iu;have e1:rows.set idx (bo r off ps)=rows.take idx++bo r off ps::rows.drop (idx+1):=by
       rw[List.set_eq_take_append_cons_drop];simp[Bu]
      have e0:rows.flatten=(rows.take idx).flatten++(r++(rows.drop (idx+1)).flatten):=by
       have:rows=rows.take idx++r::rows.drop (idx+1):=by
          obtain⟨h1,h2⟩:=List.getElem?_eq_some_iff.1 hx;rw[<-h2];simp
       conv=>lhs;rw[this]
       simp
      have eu:(rows.take idx).flatten.length=idx*sz:=by
       rw[fE fun r my=>hr r (List.mem_of_mem_take my),aq]
       congr 1
       omega
      rw[e0,List.take_left' eu]at d1;rw[e0,List.drop_left' eu,List.drop_left' sU]at d4;rw[e1,List.flatten_append,List.flatten_cons,Xo];have qC:xs=List.take (idx*sz) xs++((List.take off (List.take sz (List.drop (idx*sz) xs))++ys++List.drop (cond i.agg i.size 1) (List.drop off (List.take sz (List.drop (idx*sz) xs))))++List.drop sz (List.drop (idx*sz) xs)):=by
       rw[<-ud,List.append_assoc (List.take off _),List.take_append_drop,List.take_append_drop,List.take_append_drop,List.take_append_drop]
      rw[List.drop_drop]at d8;have:=d1.append (((d5.append hD).append d8).append d4);rw[<-qC]at this;have:=this.mono (w':=w) (fun _ _=>rfl) iu (fun _ _=>rfl);simpa using this
     have Oz:=hm.nodup j;rw[hF]at Oz;have S6:Hm j≠ .dead:=by rw[hj];simp
     have fin:∀{s:SV} {v:Value},K ⟨s,gp L++[(j, .aU o ty sz (rows.set idx (bo r off ps)))],L.length,[]⟩->(loadVar t ⟨b,idx*sz+off,none⟩).run P w= .ok v w->
      (∀ρ':RM,(∀e∈L,ρ' e.nm=e.v)->bJ ρ' w (bg Γ F w) s v)->um Γ H ρ F w n K ((Instr.loadAt t (.pointer (some ⟨b,idx*sz+off,none⟩))).run P w):=by
      intro s v hK fu hs;have iU:∀e∈L,ρ e.nm=none:=fun e he=>nY _ hK _ (hT.mem he).1 (hT.mem he).2
      have aa8:∀e∈L,e.nm≠j:=fun e he h'=>kM hm hle (iU e he) S6 h'.symm
      let L':List rH:=L++[⟨j, .aU o ty sz (rows.set idx (bo r off ps)),b::(f1++(g1++g3)++f3),none⟩]
      have gB:(L'.map (·.nm)).Nodup:=by
       simp only[L',au,List.map_cons,List.map_nil];rw[List.nodup_append];refine⟨hT.nodup,by simp,fun a ha c hc e=>?_⟩;obtain⟨e',qt,rfl⟩:=List.mem_map.1 ha;simp at hc;exact aa8 e' qt (e.trans hc)
      have pe:∀e∈L',e.v≠none->ρ e.nm=none:=by
       intro e he oz;rcases ao.1 he with he|he
       ·exact iU e he
       ·simp at he;subst he;exact absurd rfl oz
      have hR:∀e∈L,oQ L' ρ e.nm=e.v:=by
       intro e he;rw[(ic gB (e:=e) (by simp[L',he]) H F ρ).2.2];obtain⟨u,hu,_⟩:=hT.den e he;simp[n8,hu]
      have Xz:((L'.map (·.f)).flatten)=g2++(b::(f1++(g1++g3)++f3)):=by
       simp only[L',au,List.flatten_append,hT.flat];simp
      have xT:((L'.map (·.f)).flatten).Perm ((Value.slice (some ⟨b,0,none⟩) n0 c0).ownBlock.toList++(f1++((g1++(g2++g3))++f3))):=by
       rw[Xz];simp only[Value.ownBlock,Option.toList_some,List.cons_append,List.nil_append];refine(List.perm_middle).trans (.cons b ?_);rw[<-List.append_assoc];simp only[List.append_assoc];refine(List.perm_append_comm_assoc g2 f1 _).trans (.append_left f1 ?_);refine(List.perm_append_comm_assoc g2 g1 _)
      obtain⟨k1,k2,k3⟩:=hm.ents L' (w':=w) rfl rfl rfl (aw _) gB pe (fun _ _ _=>rfl)
       (fun e he c hc=>by
          left;refine⟨_,List.mem_append_right _ (List.mem_singleton.2 rfl),?_⟩;show c∈F j;rw[hF];exact xT.subset (List.mem_flatten.2 ⟨e.f,List.mem_map.2 ⟨e,he,rfl⟩,hc⟩))
       (xT.nodup_iff.2 Oz)
       (fun e he iu=>by
          rcases ao.1 he with he|he
          ·obtain⟨u,hu,hd⟩:=hT.den e he;have:=hd (oQ L' ρ) hR;simp only[n8,hu];exact this.mono (fun _ _=>rfl) iu (fun _ _=>rfl) (Ext.refl _)
          ·have he:=List.mem_singleton.1 he;subst he;simp only[n8,hρ];have:b::(f1++(g1++g3)++f3)=(Value.slice (some ⟨b,0,none⟩) n0 c0).ownBlock.toList++(f1++(g1++g3)++f3):=rfl;rw[this];refine .aU (xs:=xs) (by rw[af];exact ho) (fun q hq=>?_) (qW _ iu) hv;rcases List.mem_or_eq_of_mem_set hq with h1|h1
           ·exact hr q h1
           ·rw[h1,il (by omega)];exact sU)
      obtain⟨x1,x2⟩:=pF L' gB pe;refine⟨_,_,_,v,w,hK,by simp[Instr.loadAt,Instr.sureAddr,fu],x1,fun a ha=>?_,?_,k2,k3,(hs _ hR).mono (fun _ _=>rfl) k2 (Ext.refl _)⟩
      ·obtain⟨e,he,rfl,oz⟩:=x2 a ha;rcases ao.1 he with he|he
       ·exact hT.mem he
       ·simp at he;subst he;exact absurd rfl oz
      ·rw[pV]at k1;have:gp L'=gp L++[(j, .aU o ty sz (rows.set idx (bo r off ps)))]:=by simp[L',gp]
       rw[this]at k1;exact k1
     have WK:n+L.length-n=L.length:=by omega
     rw[WK]at hK;split at hK
     ·rename_i qo;rw[qo]at Vm;simp only[cond]at Vm;exact fin hK (kT hk Vm jC qo) fun ρ' im=>za (hC ρ' im).1 (hC ρ' im).2
     ·rename_i qo;rw[qo]at Vm;simp only[cond]at Vm;split at hK
      ·rename_i s
       match hy:ys,Vm with
       |[y],_=>
        have h0:=jC 0 y rfl;rw[Addr.add_zero']at h0;exact fin hK (mr hk h0 qo) fun ρ' im=> .v (.c ((hC ρ' im).2 0 s y rfl rfl))
      ·exact hK.elim
  ·exact um.quiet hm (oG hB dC h hp)
 ·obtain⟨sv0,v,h0,Ja,XN⟩:=oG hB dC h hp;obtain⟨sv,hK,hT⟩:=AA hB h0 XN;exact um.quiet hm ⟨sv,v,hK,Ja,hT⟩
 ·exact um.quiet hm (oG hB dC h hp)
end
end Go.KA
