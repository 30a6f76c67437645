/- Part of a proof engine for functions of the given program: what an operation, a loop and a call compute, symbolically. No conditions. -/
import Derived.Test.YtgbggaddpbghfaaGreatEngI
namespace Go.KA
open Go Go.RowKit
section
variable{P:Program}{tbl:TT}{ρ:RM}{w:World}{ok:Nat->Prop}{H:HM}{F:FM}
def isLit(o:Option Value)(d z:Int):Prop:=match o with|some v=>∃k,v= .int k z|none=>z=d
def Ep(ρ:RM)(w:World)(ok:Nat->Prop)(s:Option SV)(v:Option Value):Prop:=match s,v with|some s,some v=>bJ ρ w ok s v|none,none=>True|_,_=>False
theorem ie{b:Bool}{p:Prop}(h:cond b p False):b=true/\p:=by
 cases b with
 |true=>exact⟨rfl,h⟩
 |false=>exact h.elim
theorem zo(b:Bool){len cap:Nat}{lo hi:Option Value}{l h:Int}(hl:isLit lo 0 l)(hh:isLit hi len h)(h0:0≤l)(h1:l≤h)(h2:h≤(cap:Int)):
 (Instr.sliceBounds b len cap lo hi none).run P w= .ok (l.toNat,h.toNat,cap) w:=by
 have e1:∀(k:IntKind) c,(Instr.sliceBound (.int k h) cap c).run P w= .ok h.toNat w:=fun k c=>by
  simp[Instr.sliceBound,asIntOf,show(0≤h/\h≤(cap:Int))from⟨by omega,h2⟩]
 have e2:∀(k:IntKind) c,(Instr.sliceBound (.int k l) h.toNat c).run P w= .ok l.toNat w:=fun k c=>by
  simp[Instr.sliceBound,asIntOf,show(0≤l/\l≤max h 0)from⟨h0,by omega⟩]
 unfold Instr.sliceBounds;cases lo with
 |none=>
  subst hl;cases hi with
  |none=>subst hh;simp
  |some v=>obtain⟨k,rfl⟩:=hh;simp[e1]
 |some u=>
  obtain⟨k',rfl⟩:=hl;cases hi with
  |none=>subst hh;simp only[Int.toNat_natCast]at e2;simp[e2]
  |some v=>obtain⟨k,rfl⟩:=hh;simp[e1,e2]
theorem xt{RS:Int}{s:Option SV}{z:Int}{v:Option Value}(h:xj RS s=some z)(hs:Ep ρ w ok s v):isLit v RS z:=by
 cases s with
 |none=>
  cases v with
  |none=>simp[xj]at h;exact h.symm
  |some v=>exact hs.elim
 |some s=>
  cases v with
  |none=>exact hs.elim
  |some v=>
   simp only[xj]at h;split at h
   ·rename_i k n hn;simp at h;subst h;exact⟨k,qv hn hs⟩
   ·cases h
theorem GL{P:Program}{t e:Nat}(hu:P.underlying t=some (.slice e))(d:Nat)(a:Option Addr)(n c:Nat)(w:World):(Op.equalIn (d+1) t (.slice a n c) (.slice none 0 0)).run P w= .ok a.isNone w:=by
 cases a<;>simp[Op.equalIn,run_underlying hu]
theorem JB{P:Program}{t e:Nat}(hu:P.underlying t=some (.slice e)){a:Option Addr}{n c:Nat}{w:World}{xo yo:Operand}:(do eqGuard .eql t xo yo (.slice a n c) (.slice none 0 0);binOp .eql t (.slice a n c) (.slice none 0 0)).run P w= .ok (.bool a.isNone) w:=by
 have h:(Op.equal t (.slice a n c) (.slice none 0 0)).run P w= .ok a.isNone w:=by
  unfold Op.equal;exact GL hu 9999 a n c w
 have e1:eqGuard .eql t xo yo (.slice a n c) (.slice none 0 0)=pure ():=by simp[eqGuard]
 have e2:binOp .eql t (.slice a n c) (.slice none 0 0)=(do pure (.bool (<-Op.equal t (.slice a n c) (.slice none 0 0)))):=by
  unfold binOp;rfl
 rw[e1,e2];simp only[pure_bind,Sem.run_bind,h,Result.andThen_ok,Sem.run_pure]
theorem Fm(dC:en P tbl){d:Bool}{op:BinOp}{x y:SV}{xv yv:Value}{t:Nat}{xo yo:Operand}{K:SV->Prop}(h:It d tbl op t x y K)(hx:bJ ρ w ok x xv)(hy:bJ ρ w ok y yv):
 ∃sv v,K sv/\(do eqGuard op t xo yo xv yv;binOp op t xv yv).run P w= .ok v w/\bJ ρ w ok sv v:=by
 unfold It at h;cases hn:Ex y with
 |false=>rw[hn]at h;exact Bi dC h hx hy
 |true=>
  rw[hn]at h;have hyv:yv= .slice none 0 0:=by
   unfold Ex at hn;split at hn
   ·exact fD (b9.jM hy)
   ·cases hn
  subst hyv;simp only at h;split at h
  ·rename_i sz rows;cases d with
   |true=>exact h.elim
   |false=>
    simp only[cond]at h;split at h
    ·rename_i i hi;split at h
     ·rename_i e1 e2 e3 he;obtain⟨hu,qa,_⟩:=(dC _ _ hi).elem _ _ _ he;obtain⟨a,n,c,xs,rfl,hn0,hc,hm,hr,bw,jH⟩:=TE hx;split at h
      ·obtain⟨gC,⟨k⟩⟩:=ie h;have gC:=ae gC;refine⟨_, .bool a.isNone,k a.isNone (fun hb=>?_),?_, .v (.c (.c (mk_val rfl)))⟩
       ·cases a with
        |some a=>cases hb
        |none=>
         cases rows with
         |nil=>rfl
         |cons r rs=>
          exfalso
          ·have hl:=bw.length;have h1:=hr r (by simp);rw[List.flatten_cons,ai,h1]at hl
           match xs,hl with
           |x::xs,_=>
            obtain⟨ad,h2,_⟩:=jH 0 x rfl;cases h2
           |[],hl=>simp at hl;omega
       ·exact JB hu
      ·exact h.elim
     ·exact h.elim
    ·exact h.elim
  ·exact h.elim
theorem ND:∀{rows:List (List CV)} {l:List Int} {xs:List Value},y9 rows=some l->Den w ok rows.flatten xs []->xs=l.map (Value.int .u8):=by
 intro rows
 induction rows with
 |nil=>
  intro l xs h hd;simp only[y9,Option.some.injEq]at h;subst h;simp only[List.flatten_nil]at hd;cases hd;rfl
 |cons r rs ih=>
  intro l xs h hd;unfold y9 at h;split at h
  ·rename_i he;cases he
  ·rename_i n NX he;injection he with h1 h2
   subst h1 h2;split at h
   ·rename_i l' hl;simp only[Option.some.injEq]at h;subst h;simp only[List.flatten_cons,List.cons_append,List.nil_append]at hd;cases hd with
    |val h1 ht=>rw[ih hl ht];rfl
   ·cases h
  ·cases h
theorem EE(hB:∀i,H i= .dead\/dH ρ w ok (H i) (ρ i) (F i))(dC:en P tbl){s d:Nat}{x:SV}{xv:Value}{K:SV->Prop}(h:Av tbl s d x H K)(hx:bJ ρ w ok x xv):
 ∃sv v,K sv/\(convert s d xv).run P w= .ok v w/\bJ ρ w ok sv v:=by
 unfold Av at h;split at h
 case h_2=>exact h.elim
 rename_i i j hi hj;split at h
 case h_2=>exact h.elim
 rename_i e dw yg mT;split at h
 case h_2=>exact h.elim
 rename_i k hk;obtain⟨hb,h⟩:=ie h;simp only[ab]at hb;have hu:=((dC _ _ hi).elem _ _ _ mT).1;have hS:=(dC _ _ hj).Jk hb.1;have N0:k.ik=some .u8:=by
  have:=hb.2.2;split at this
  ·assumption
  ·cases this
 have hue:=(dC _ _ hk).ik _ N0;split at h
 case h_2=>exact h.elim
 rename_i q;split at h
 case h_2=>exact h.elim
 rename_i o ty sz rows hq;split at h
 case h_2=>exact h.elim
 rename_i l hl;obtain⟨gC,h⟩:=ie h;have gC:=ae gC;subst gC;obtain⟨v,xs,hv,ho,hr,bw,_⟩:=jx hB hq;obtain⟨tK,_⟩:=wg hx;rw[hv]at tK;simp only[Option.some.injEq]at tK;subst tK;have qC:=ND hl bw;have hlen:l.length=rows.length:=by
  have h1:=ho.1;rw[qC,aa]at h1;omega
 refine⟨_, .string (strOfNums l),h,?_, .v (.c (.c (mk_val rfl)))⟩;rcases dJ ho with⟨rfl,hz,N5⟩|⟨b,c,rfl,hc,hm⟩
 ·have:l=[]:=List.eq_nil_of_length_eq_zero (by omega);subst this;rw[run_convert_bytes_nil w _ _ hu hue 0 0 _ hS];rfl
 ·refine run_convert_bytes_arg w _ _ hu hue b 0 rows.length c l hlen (fun n hn=>?_) _ hS;have jC:=(kA ho rfl).1 n (.int .u8 (l.getD n 0)) (by
   have V3:n<l.length:=by omega
   rw[qC,List.getElem?_map];simp[List.getD,List.getElem?_eq_getElem V3])
  rw[eW]at jC;exact jC
theorem Dp(hB:∀i,H i= .dead\/dH ρ w ok (H i) (ρ i) (F i))(dC:en P tbl){t:Nat}{x:SV}{xv:Value}{lo hi:Option SV}{lv hv:Option Value}{K:SV->Prop}(h:AO tbl t x lo hi H K)(hx:bJ ρ w ok x xv)
 (hlo:Ep ρ w ok lo lv)(hhi:Ep ρ w ok hi hv):
 ∃sv v,K sv/\(Instr.sliceAt t xv lv hv none).run P w= .ok v w/\bJ ρ w ok sv v:=by
 unfold AO at h;split at h
 ·exact h.elim
 rename_i i lg;have hk:=dC _ _ lg;have Xh:∀{ll dw yg:Nat} {a:Option Addr} {len cap:Nat} {l h:Int},i.elem=some (ll,dw,yg)->isLit lv 0 l->isLit hv len h->0≤l->l≤h->h≤(cap:Int)->
  (Instr.sliceAt t (.slice a len cap) lv hv none).run P w= .ok (.slice (if cap=l.toNat then a else a.map (·.add (l.toNat*dw))) (h.toNat-l.toNat) (cap-l.toNat)) w:=by
  intro ll dw yg a len cap l h mT h1 h2 h3 h4 h5;obtain⟨hu,qa,inf,z,kX,gC,_⟩:=hk.elem _ _ _ mT;have eZ:(sizeOf ll).run P w= .ok dw w:=by simp[sizeOf,typeInfo,kX,gC]
  have hb:=zo (P:=P) (w:=w) true (len:=len) (cap:=cap) h1 h2 h3 h4 h5;simp[Instr.sliceAt,Instr.slice,run_underlying hu,hb,eZ]
 split at h
 ·rename_i sz rows;split at h
  case h_2=>exact h.elim
  rename_i ll dw yg l hh mT hl SF;obtain⟨gC,⟨h0,h1,h2⟩,hK⟩:=ie h;clear h;have:=ae gC;subst this;obtain⟨a,n,c,xs,rfl,rfl,hc,hm,hr,bw,jH⟩:=TE hx;have h3:=xt hl hlo;have h4:=xt SF hhi;refine⟨_,_,hK,Xh mT h3 h4 h0 h1 (by omega),eD ?_⟩;have hd:=lU (off:=l.toNat) (len:=hh.toNat-l.toNat) bw hr;refine .ro (by simp;omega) (by omega) (by omega) (fun r my=>hr r (List.mem_of_mem_drop (List.mem_of_mem_take my))) hd (fun j x hj=>?_) .nil;rw[List.getElem?_take]at hj;split at hj
  case isFalse=>cases hj
  rename_i eu;rw[List.getElem?_drop]at hj;have jr:¬c=l.toNat:=by
   intro e;have:hh.toNat-l.toNat=0:=by omega
   rw[this]at eu;omega
  rw[if_neg jr];obtain⟨ad,rfl,hs,hb,kR⟩:=jH _ x hj;exact⟨_,rfl,rm _ _ hs,by rw[xg];exact hb,by rw[add_add];exact kR⟩
 ·rename_i j;obtain⟨tK,_⟩:=wg hx;have main:∀{ty sz:Nat} {rows:List (List CV)} {xs:List Value} {l hh:Int} {ll dw yg:Nat},w.ownsRow 0 ty sz xv rows.length xs->i.elem=some (ll,dw,yg)->xj 0 lo=some l->xj (rows.length:Int) hi=some hh->Nat.beq sz dw=true->iK j sz rows.length l hh K->
        ∃sv v,K sv/\(Instr.sliceAt t xv lv hv none).run P w= .ok v w/\bJ ρ w ok sv v:=by
   intro ty sz rows xs l hh ll dw yg ho mT hl SF gC hS;have:=ae gC;subst this;have h3:=xt hl hlo;have h4:=xt SF hhi;rcases dJ ho with⟨rfl,hz,_⟩|⟨b,c,rfl,hc,hm⟩
   ·cases hS with
    |some hb k=>omega
    |all hb k=>
     rw[hz]at h4 hb;have:=Xh (a:=none) (cap:=0) mT h3 h4 (by omega) (by omega) (by omega);obtain⟨kg,nN⟩:=hb;subst kg;subst nN;exact⟨_,_,k,this,by simpa using hx⟩
    |none hb k=>
     rw[hz]at h4;exact⟨_,_,k,Xh mT h3 h4 hb.1 (by omega) (by omega),eD (.ro (by simp;omega) (by omega) (by simp[maxLen]) (by simp) .nil (fun j x hj=>by simp at hj) .nil)⟩
   ·cases hS with
    |some hb k=>
     refine⟨_,_,k,Xh mT h3 h4 hb.1 hb.2.1 (by omega),?_⟩;rw[if_neg (by omega)];simp only[Option.map_some,eW,Nat.zero_add];exact .v (.c (.ls tK (by omega) (by omega) (by omega) (by omega)))
    |all hb k=>
     have:=Xh (a:=some ⟨b,0,none⟩) (cap:=c) mT h3 h4 (by omega) (by omega) (by omega);obtain⟨kg,nN⟩:=hb;subst kg;subst nN;refine⟨_,_,k,this,?_⟩;simpa[Addr.add]using hx
    |none hb k=>
     exact⟨_,_,k,Xh mT h3 h4 hb.1 (by omega) (by omega),eD (.ro (by simp;omega) (by omega) (by omega) (by simp) .nil (fun j x hj=>by simp at hj) .nil)⟩
  split at h
  ·rename_i o ty sz rows hj;split at h
   case h_2=>exact h.elim
   rename_i ll dw yg l hh mT hl SF;obtain⟨gC,h⟩:=ie h;obtain⟨rv,xs,jX,ho,_⟩:=jx hB hj;rw[tK]at jX;injection jX with jX
   subst jX;exact main ho mT hl SF gC h
  ·rename_i o ty sz rows hj;split at h
   case h_2=>exact h.elim
   rename_i ll dw yg l hh mT hl SF;obtain⟨gC,h⟩:=ie h;obtain⟨rv,xs,f,jX,ho,_⟩:=et hB hj;rw[tK]at jX;injection jX with jX
   subst jX;exact main ho mT hl SF gC h
  ·exact h.elim
 ·rename_i s;split at h
  case h_2=>exact h.elim
  rename_i l hh hl SF;cases hb:i.Jk with
  |false=>rw[hb]at h;exact h.elim
  |true=>
   rw[hb]at h;obtain⟨⟨h0,h1,h2⟩,hK⟩:=h;have:=fD (b9.jM hx);subst this;have hu:=hk.Jk hb;have Xj:=zo (P:=P) (w:=w) false (len:=s.size) (cap:=s.size) (xt hl hlo) (xt SF hhi) h0 h1 h2;exact⟨_,_,hK,by simp[Instr.sliceAt,Instr.slice,run_underlying hu,Xj],KO rfl⟩
 ·exact h.elim
end
mutual
def mV:CV->CV
 | .own _ sz rows=> .ro sz (dD rows)
 | .fQ _ _ sz rows=> .ro sz (dD rows)
 | .ows _ sz rows=> .ro sz rows
 | .op cells=> .rp cells.length (pf cells)
 | .jB _ _ _=> .any
 |x=>x
def pf:List CV->List CV
 |[]=>[]
 |x::xs=>mV x::pf xs
def dD:List (List CV)->List (List CV)
 |[]=>[]
 |r::rs=>pf r::dD rs
end
theorem so:∀l:List CV,pf l=l.map mV
 |[]=>rfl
 |x::xs=>by simp only[pf,List.map_cons];rw[so xs]
theorem ep:∀l:List (List CV),dD l=l.map fun r=>r.map mV
 |[]=>rfl
 |r::rs=>by simp only[dD,List.map_cons];rw[so,ep rs]
theorem mX(l:List (List CV)):(dD l).flatten=l.flatten.map mV:=by
 rw[ep,List.map_flatten]
mutual
def jc:CV->Prop
 | .own _ _ rows=>kJ rows
 | .fQ _ _ _ rows=>kJ rows
 | .ows _ _ rows=>kJ rows
 | .op cells=>ki cells
 | .ro _ rows=>rows=[]
 | .rp _ _=>False
 |_=>True
def ki:List CV->Prop
 |[]=>True
 |x::xs=>jc x/\ki xs
def kJ:List (List CV)->Prop
 |[]=>True
 |r::rs=>ki r/\kJ rs
end
theorem pz:∀{l:List CV},ki l↔∀x∈l,jc x
 |[]=>by simp[ki]
 |x::xs=>by simp[ki,pz (l:=xs)]
theorem zt:∀{l:List (List CV)},kJ l↔∀r∈l,∀x∈r,jc x
 |[]=>by simp[kJ]
 |x::xs=>by simp[kJ,zt (l:=xs),pz]
theorem lz{w:World}{ok ok':Nat->Prop}{cs:List CV}{vs:List Value}{f:List Nat}(h:Den w ok cs vs f)(cH:∀b,ok b->ok' b)(hf:∀b∈f,ok' b):Den w ok' (cs.map mV) vs []:=by
 induction h with
 |nil=>exact .nil
 |any h1 _ ih=>exact .any h1 (ih hf)
 |val h1 _ ih=>exact .val h1 (ih hf)
 |cb _ ih=>exact .cb (ih hf)
 |ro hn hc hm hr bw jH _ ihin ih=>exact .ro hn hc hm hr (bw.mono (fun _ _=>rfl) cH (by simp)) (jH.mono (fun _ _=>rfl) cH) (ih hf)
 |rp hl bw hs jH _ ihin ih=>exact .rp hl (bw.mono (fun _ _=>rfl) cH (by simp)) hs (jH.mono (fun _ _=>rfl) cH) (ih hf)
 | @own as vs f ty sz rows xs v g bw hr ho _ ihin ih=>
   have h1:=ihin fun b hb=>hf b (by simp[hb])
   have h2:=ih fun b hb=>hf b (by simp[hb])
   have my:∀r∈dD rows,r.length=sz:=by
    rw[ep];intro r Lp;obtain⟨r0,h0,rfl⟩:=List.mem_map.1 Lp;simpa using hr r0 h0
   have hlen:(dD rows).length=rows.length:=by rw[ep];simp
   rw[<-mX]at h1;simp only[List.map_cons,mV];rcases dJ ho with⟨rfl,hz,qC⟩|⟨b,c,rfl,hc,hm⟩
   ·subst qC;exact .ro (by omega) (aw _) (by simp[maxLen]) my h1 (fun j x hx=>by simp at hx) h2
   ·refine .ro hlen hc hm my h1 (fun j x hx=>⟨_,rfl,rfl,hf b (by simp[Value.ownBlock]),?_⟩) h2;exact(kA ho rfl).1 j x hx
 | @fQ as vs f ty sz rows xs v g bw hr ho _ ihin ih=>
   have h1:=ihin fun b hb=>hf b (by simp[hb])
   have h2:=ih fun b hb=>hf b (by simp[hb])
   have my:∀r∈dD rows,r.length=sz:=by
    rw[ep];intro r Lp;obtain⟨r0,h0,rfl⟩:=List.mem_map.1 Lp;simpa using hr r0 h0
   have hlen:(dD rows).length=rows.length:=by rw[ep];simp
   rw[<-mX]at h1;simp only[List.map_cons,mV];rcases dJ ho with⟨rfl,hz,qC⟩|⟨b,c,rfl,hc,hm⟩
   ·subst qC;exact .ro (by omega) (aw _) (by simp[maxLen]) my h1 (fun j x hx=>by simp at hx) h2
   ·refine .ro hlen hc hm my h1 (fun j x hx=>⟨_,rfl,rfl,hf b (by simp[Value.ownBlock]),?_⟩) h2;exact(kA ho rfl).1 j x hx
 | @ows as vs f ty sz rows xs v bw hr ho _ ihin ih=>
   have h1:=bw.mono (w':=w) (fun _ _=>rfl) cH (by simp);have h2:=ih fun b hb=>hf b (by simp[hb])
   simp only[List.map_cons,mV];rcases dJ ho with⟨rfl,hz,qC⟩|⟨b,c,rfl,hc,hm⟩
   ·subst qC;exact .ro (by omega) (aw _) (by simp[maxLen]) hr h1 (fun j x hx=>by simp at hx) h2
   ·refine .ro rfl hc hm hr h1 (fun j x hx=>⟨_,rfl,rfl,hf b (by simp[Value.ownBlock]),?_⟩) h2;exact(kA ho rfl).1 j x hx
 | @op as vs f ty cells b g arr hb bw _ ihin ih=>
   have h1:=ihin fun c hc=>hf c (by simp[hc])
   have h2:=ih fun c hc=>hf c (by simp[hc])
   simp only[List.map_cons,mV,so];refine .rp (by simp) h1 rfl (fun j x hx=>⟨_,rfl,rfl,hf b (by simp),?_⟩) h2;exact xc hb j x hx
 |jB _ _ _ _ ih=>exact .any rfl (ih fun c hc=>hf c (by simp[hc]))
theorem qX{w:World}{ok ok':Nat->Prop}{cs:List CV}{vs:List Value}{f:List Nat}(h:Den w ok cs vs f)(hp:∀x∈cs,jc x):Den w ok' cs vs f:=by
 have flat:∀{rows:List (List CV)},kJ rows-> ∀x∈rows.flatten,jc x:=by
  intro rows h0 x hx;obtain⟨r,yE,WZ⟩:=List.mem_flatten.1 hx;exact zt.1 h0 r yE x WZ
 induction h with
 |nil=>exact .nil
 |any h1 _ ih=>exact .any h1 (ih fun x hx=>hp x (by simp[hx]))
 |val h1 _ ih=>exact .val h1 (ih fun x hx=>hp x (by simp[hx]))
 |cb _ ih=>exact .cb (ih fun x hx=>hp x (by simp[hx]))
 |ro hn hc hm hr bw _ _ _ ih=>
  have h0:=hp _ (List.mem_cons_self);simp only[jc]at h0;subst h0;cases bw;exact .ro hn hc hm hr .nil (fun j x hx=>by simp at hx) (ih fun x hx=>hp x (by simp[hx]))
 |rp _ _ _ _ _ _ _=>have h0:=hp _ (List.mem_cons_self);simp only[jc]at h0
 |own bw hr ho _ ihin ih=>
  have h0:=hp _ (List.mem_cons_self);simp only[jc]at h0;exact .own (ihin (flat h0)) hr ho (ih fun x hx=>hp x (by simp[hx]))
 |ows bw hr ho _ ihin ih=>
  have h0:=hp _ (List.mem_cons_self);simp only[jc]at h0;exact .ows (ihin (flat h0)) hr ho (ih fun x hx=>hp x (by simp[hx]))
 |fQ bw hr ho _ ihin ih=>
  have h0:=hp _ (List.mem_cons_self);simp only[jc]at h0;exact .fQ (ihin (flat h0)) hr ho (ih fun x hx=>hp x (by simp[hx]))
 |op hb bw _ ihin ih=>
  have h0:=hp _ (List.mem_cons_self);simp only[jc]at h0;exact .op hb (ihin (pz.1 h0)) (ih fun x hx=>hp x (by simp[hx]))
 |jB h1 hb ho _ ih=>exact .jB h1 hb ho (ih fun x hx=>hp x (by simp[hx]))
section
variable{P:Program}{tbl:TT}{Γ:Cx}{H Hm:HM}{ρ:RM}{F:FM}{w:World}
theorem Ln{a b:Option IntKind}(h:HL a b=true):a=b:=by
 cases a<;>cases b<;>simp only[HL]at h<;>first|rfl|(rw[rI h])|cases h
theorem Xw{ok:Nat->Prop}{i:Nat}{v:Value}(h:bJ ρ w ok (.mp i) v):∃b,ρ i=some (.map (some b))/\v= .map (some b):=by
 cases h with
 |v h=>cases h with|c h=>cases h with|mp h=>exact⟨_,h,rfl⟩
theorem QN{ok:Nat->Prop}(hB:∀i,H i= .dead\/dH ρ w ok (H i) (ρ i) (F i)){j:Nat}{k:Option IntKind}{es:List (Value × SV)}(h:H j= .pD k es):
 ∃(b clock:Nat) (ents:Array MapEntry),ρ j=some (.map (some b))/\w.heap[b]? =some (.map ents clock)/\(∀x∈ents.toList,MapKept.IsKey (Ca k) x.key)/\(ents.toList.map (·.key)).Nodup/\es.length=ents.toList.length/\
  (∀(j:Nat) p e,es[j]? =some p->ents.toList[j]? =some e->p.1=e.key/\ ∀ρ,eK ρ w ok p.2 e.val)/\F j=[b]:=by
 have h0:dH ρ w ok (H j) (ρ j) (F j):=(hB j).resolve_left (by rw[h];simp);rw[h]at h0;generalize ρ j=u at h0;generalize F j=f at h0;cases h0 with
 |pD hb hk hn hl h=>exact⟨_,_,_,rfl,hb,hk,hn,hl,h,rfl⟩
theorem Rq{ok:Nat->Prop}{d:Option IntKind}{s:SV}{v key:Value}(h:RL d s=some key)(hs:bJ ρ w ok s v):v=key/\MapKept.IsKey (Ca d) key:=by
 unfold RL at h;split at h
 ·have:=fD (b9.jM hs);subst this;cases d with
  |none=>cases h
  |some k'=>
   simp only at h;rename_i k n;cases hb:Ma k k' with
   |false=>rw[hb]at h;cases h
   |true=>
    rw[hb]at h;injection h with h
    subst h;exact⟨rfl,rI hb⟩
 ·have:=fD (b9.jM hs);subst this;cases d with
  |none=>injection h with h;subst h;exact⟨rfl,trivial⟩
  |some _=>cases h
 ·cases h
theorem Ai(adv:en P tbl)(hm:Mem Γ H ρ F w){t n:Nat}{K:iT->Prop}(h:uP tbl t n K)(hf:oc ρ n K):um Γ H ρ F w n K ((Instr.makeMap t none).run P w):=by
 unfold uP at h;split at h
 case h_2=>exact h.elim
 split at h
 case h_2=>exact h.elim
 rename_i k _ _;have hn:=hf _ h n (aw _) (by simp);obtain⟨g1,g2⟩:=hm.fill hn (g7 w (.map #[] 0)) (k:= .pD k []) (v:= .map (some w.heap.size)) (f:=[w.heap.size]) (by simp) (by simp)
  (.pD (ents:= #[]) (wR w _) (by simp) (by simp) rfl (by simp))
 have hr:(Instr.makeMap t none).run P w= .ok (.map (some w.heap.size)) (w.alloc (.map #[] 0)):=by
  simp[Instr.makeMap]
 exact⟨_,_,_,_,_,h,hr,gQ hn _,fun i hi=>by have:=m9 hi;simp;omega,g1,g2,fun b hb=>(g7 w _).block b hb.1, .v (.c (.mp gP))⟩
theorem HN{ok:Nat->Prop}{t:Nat}{i:iZ}(hk:vM P t i):∃z,(zeroValue t).run P w= .ok z w/\eK ρ w ok (Lc i) z:=by
 obtain⟨inf,z,kX,hz,Ic,gC,Zw,jS⟩:=hk.zero;have fu:(zeroValue t).run P w= .ok z w:=by simp[zeroValue,typeInfo,kX,hz]
 have hd:Den w ok (gl i.zero) z.cells.toList []:=by rw[Ic];exact oF _ jS
 have hl:(gl i.zero).length=i.size:=by rw[hd.length];simpa using gC
 refine⟨z,fu,?_⟩;unfold Lc;cases ha:i.agg with
 |true=>
  have e:=Zw ha;have hv:eK ρ w ok (.a i.size (gl i.zero)) z:=by
   have:=eK.a (ρ:=ρ) hl hd;rw[e];simpa using this
  exact hv
 |false=>
  have ho:=hk.ace ha inf z kX hz;show eK ρ w ok (match gl i.zero with|[x]=> .c x|_=> .c .any) z;split
  ·rename_i x hx;rw[hx,mU ho]at hd;have hv:eK ρ w ok (.c x) z:= .c (.c (by simpa using hd));exact hv
  ·exact .c (.c (.any ho .nil))
theorem Cj{l:List MapEntry}(hn:(l.map (·.key)).Nodup){i j:Nat}{a b:MapEntry}(hi:l[i]? =some a)(hj:l[j]? =some b)(h:a.key=b.key):i=j:=by
 have e1:(l.map (·.key))[i]? =some a.key:=by simp[hi]
 have e2:(l.map (·.key))[j]? =some b.key:=by simp[hj]
 have h1:=(List.getElem?_eq_some_iff.1 e1).1;exact(List.getElem?_inj h1 hn).1 (by rw[e1,e2,h])
theorem Ys{ok:Nat->Prop}{s:SV}{v:Value}{b:Bool}(h:eK ρ w ok s v):bJ ρ w ok (.tup [s,Bc b]) (.tuple #[v, .bool b]):=by
 have:bJ ρ w ok (.tup [s,Bc b]) (.tuple [v, .bool b].toArray):=by
  refine .tup rfl fun j a u ha hu=>?_
  match j,ha,hu with
  |0,ha,hu=>simp at ha hu;subst ha hu;exact h
  |1,ha,hu=>simp at ha hu;subst ha hu;exact .c (.c (mk_val rfl))
  |j+2,ha,hu=>simp at ha
 exact this
theorem Bm(hB:∀i,H i= .dead\/dH ρ w (bg Γ F w) (H i) (ρ i) (F i))(dC:en P tbl){t:Nat}{x k:SV}{xv kv:Value}{ok:Bool}{K:SV->Prop}(h:uU tbl t x k ok H K)(hx:bJ ρ w (bg Γ F w) x xv)(hk:bJ ρ w (bg Γ F w) k kv):
 ∃sv v,K sv/\(Instr.lookup t xv kv ok).run P w= .ok v w/\bJ ρ w (bg Γ F w) sv v:=by
 unfold uU at h;split at h
 case h_2=>exact h.elim
 rename_i i hi;split at h
 case h_2=>exact h.elim
 rename_i kd e Wm;obtain⟨kt,hu,W7⟩:=(dC _ _ hi).DK _ _ Wm;split at h
 case h_2=>exact h.elim
 rename_i ei j key Z9 Vp;split at h
 case h_2=>exact h.elim
 rename_i Rx es hj;have Ry:HL kd Rx=true:=by
  cases hb:HL kd Rx with
  |true=>rfl
  |false=>rw[hb]at h;exact h.elim
 rw[Ry]at h;simp only[cond]at h;have:=Ln Ry;subst this;obtain⟨b,hρ,rfl⟩:=Xw hx;obtain⟨b',clock,ents,im,hb,IB,gB,hl,yG,hF⟩:=QN hB hj;rw[hρ]at im;simp only[Option.some.injEq,Value.map.injEq]at im;subst im;obtain⟨rfl,N0⟩:=Rq Vp hk;obtain⟨z,hz,hzV⟩:=HN (ρ:=ρ) (w:=w) (ok:=bg Γ F w) (dC _ _ Z9);have SU:(Instr.checkKey ents.isEmpty 10000 kt kv).run P w= .ok () w:=MapKept.run_checkKey W7 N0 _ 9999;have base:∀{a:Option (Nat × Value)},Instr.findNow (Ca kd) kv ents.toList 0=some a->(Instr.lookup t (.map (some b)) kv ok).run P w=
  match a with
  |some (_,v)=> .ok (if ok then .tuple #[v, .bool true]else v) w
  |none=> .ok (if ok then .tuple #[z, .bool false]else z) w:=by
  intro a ha;have RR:=MapKept.run_findKey W7 ha (P:=P) (w:=w);simp only[Instr.lookup,Sem.run_bind,run_underlying hu,MapKept.run_getObj_map hb,SU,RR,Result.andThen_ok,Sem.run_pure];cases a with
  |none=>simp[hz]
  |some a=>simp
 rcases MapKept.findNow_spec N0 ents.toList 0 IB with⟨h1,h2⟩|⟨j',e0,h1,h2,h3⟩
 ·rw[base h1];simp only;cases h with
  |Xi j0 s hs g=>
   have eu:=(List.getElem?_eq_some_iff.1 hs).1;rw[hl]at eu;have kx:ents.toList[j0]? =some (ents.toList[j0]):=List.getElem?_eq_getElem eu;exact absurd (yG j0 _ _ hs kx).1.symm (h2 _ (List.mem_of_getElem? kx))
  |Na _ g=>
   cases ok with
   |true=>
    exact⟨_,_,g,rfl,Ys hzV⟩
   |false=>exact⟨_,_,g,rfl, .v hzV⟩
 ·rw[base h1];simp only;cases h with
  |Xi j0 s hs g=>
   have eu:=(List.getElem?_eq_some_iff.1 hs).1;rw[hl]at eu;have kx:ents.toList[j0]? =some (ents.toList[j0]):=List.getElem?_eq_getElem eu;obtain⟨g1,g2⟩:=yG j0 _ _ hs kx;have hjj:j0=j':=Cj gB kx h2 (by rw[<-g1,h3]);subst hjj;rw[kx]at h2;injection h2 with h2
   subst h2;cases ok with
   |true=>exact⟨_,_,g,rfl,Ys (g2 ρ)⟩
   |false=>exact⟨_,_,g,rfl, .v (g2 ρ)⟩
  |Na TH g=>
   have eu:=(List.getElem?_eq_some_iff.1 h2).1;rw[<-hl]at eu;have kx:es[j']? =some (es[j']):=List.getElem?_eq_getElem eu;exact absurd ((yG j' _ _ kx h2).1.trans h3) (TH _ (List.mem_of_getElem? kx))
theorem Wa{ok:Nat->Prop}{s:SV}{v:Value}(hf:Fx s=true)(h:bJ ρ w ok s v):∀ρ',eK ρ' w ok s v:=by
 intro ρ';cases s<;>simp only[Fx]at hf<;>first|cases hf|skip
 ·exact .c (.c (b9.jM h))
 ·cases h with
  |v h=>cases h with
   |c h=>cases h
   |a hl h=>exact .a hl h
theorem pG(dC:en P tbl)(hm:Mem Γ H ρ F w)(hle:n9 Hm H){t:Nat}{x k v:SV}{xv kv vv:Value}{K:iT->Prop}(h:lP tbl t x k v Hm K)
 (hx:bJ ρ w (bg Γ F w) x xv)(hk:bJ ρ w (bg Γ F w) k kv)(hv:bJ ρ w (bg Γ F w) v vv):Pj Γ H ρ F w K ((Instr.mapUpdate t xv kv vv).run P w):=by
 unfold lP at h;split at h
 case h_2=>exact h.elim
 rename_i i hi;split at h
 case h_2=>exact h.elim
 rename_i kd e Wm;obtain⟨kt,hu,W7⟩:=(dC _ _ hi).DK _ _ Wm;split at h
 case h_2=>exact h.elim
 rename_i j key Vp;split at h
 case h_2=>exact h.elim
 rename_i Rx es hj;have RR:(Fx v&&HL kd Rx)=true:=by
  cases hb:(Fx v&&HL kd Rx)with
  |true=>rfl
  |false=>rw[hb]at h;exact h.elim
 rw[RR]at h;simp only[cond]at h;simp only[ab]at RR;obtain⟨uS,Ry⟩:=RR;have:=Ln Ry;subst this;obtain⟨b,hρ,rfl⟩:=Xw hx;obtain⟨b',clock,ents,im,hb,IB,gB,hl,yG,hF⟩:=QN (hm.hb hle) hj;rw[hρ]at im;simp only[Option.some.injEq,Value.map.injEq]at im;subst im;obtain⟨rfl,N0⟩:=Rq Vp hk;have EH:=Wa uS hv;have SU:(Instr.checkKey false 10000 kt kv).run P w= .ok () w:=MapKept.run_checkKey W7 N0 _ 9999;have pH:b∈F j:=by simp[hF]
 have jr:∀c,bg Γ F w c->c≠b:=fun c hc e=>hc.2.2 ⟨j,e▸pH⟩
 have aaB:∀(o:Obj),(∀c,bg Γ F w c->({w with heap:=w.heap.setIfInBounds b o}:World).heap[c]? =w.heap[c]?)/\({w with heap:=w.heap.setIfInBounds b o}:World).heap[b]? =some o:=fun o=>
  ⟨fun c hc=>(MapKept.heap_set hb).2 c (jr c hc),(MapKept.heap_set hb).1⟩
 have fin:∀{yn:Array MapEntry} {DD:Nat} {Vt:List (Value × SV)},(Instr.mapUpdate t (.map (some b)) kv vv).run P w= .ok () {w with heap:=w.heap.setIfInBounds b (.map yn DD)}->K ⟨.any,[(j, .pD kd Vt)],0,[]⟩->
  (∀x∈yn.toList,MapKept.IsKey (Ca kd) x.key)->(yn.toList.map (·.key)).Nodup->Vt.length=yn.toList.length->
  (∀(j:Nat) p e,Vt[j]? =some p->yn.toList[j]? =some e->p.1=e.key/\ ∀ρ,eK ρ w (bg Γ F w) p.2 e.val)->Pj Γ H ρ F w K ((Instr.mapUpdate t (.map (some b)) kv vv).run P w):=by
  intro yn DD Vt fu hK h1 h2 h3 h4;obtain⟨hs,Ff⟩:=aaB (.map yn DD);obtain⟨g1,g2,g3⟩:=hm.set (j:=j) (w':={w with heap:=w.heap.setIfInBounds b (.map yn DD)}) rfl rfl rfl (by simp) (fun c _ hc=>(MapKept.heap_set hb).2 c (by rintro rfl;exact hc pH))
   (k:= .pD kd Vt) (f:=[b]) (fun c hc=> .inl (by rw[hF];exact hc)) (by simp)
   (by rw[hρ];exact .pD Ff h1 h2 h3 fun j p e hp he=>⟨(h4 j p e hp he).1,fun ρ'=>((h4 j p e hp he).2 ρ').mono hs (fun _ h=>h) (Ext.refl _)⟩)
  exact⟨_,_,_,hK,fu,rfl,g1,g2,g3⟩
 rcases MapKept.findNow_spec N0 ents.toList 0 IB with⟨h1,h2⟩|⟨j',e0,h1,h2,h3⟩
 ·have RR:=MapKept.run_findKey W7 h1 (P:=P) (w:=w);have fu:(Instr.mapUpdate t (.map (some b)) kv vv).run P w= .ok () {w with heap:=w.heap.setIfInBounds b (.map (ents.push {key:=kv,val:=vv,born:=clock}) (clock+1))}:=by
   simp only[Instr.mapUpdate,Sem.run_bind,run_underlying hu,MapKept.run_getObj_map hb,SU,RR,Result.andThen_ok,MapKept.run_setObj_map _ hb]
  cases h with
  |y5 j0 s hs g=>
   have eu:=(List.getElem?_eq_some_iff.1 hs).1;rw[hl]at eu;have kx:ents.toList[j0]? =some (ents.toList[j0]):=List.getElem?_eq_getElem eu;exact absurd (yG j0 _ _ hs kx).1.symm (h2 _ (List.mem_of_getElem? kx))
  |new _ g=>
   refine fin fu g (fun x hx=>?_) ?_ (by simp[hl]) fun j p e hp he=>?_
   ·simp only[Array.toList_push,ao,List.mem_singleton]at hx;rcases hx with hx|rfl
    ·exact IB x hx
    ·exact N0
   ·simp only[Array.toList_push,au,List.map_cons,List.map_nil];refine List.nodup_append.2 ⟨gB,by simp,fun a ha c hc=>?_⟩;obtain⟨y,hy,rfl⟩:=List.mem_map.1 ha;simp at hc;subst hc;exact h2 y hy
   ·simp only[Array.toList_push]at he;by_cases hj:j<es.length
    ·rw[List.getElem?_append_left hj]at hp;rw[List.getElem?_append_left (by omega)]at he;exact yG j p e hp he
    ·rw[List.getElem?_append_right (by omega)]at hp;rw[List.getElem?_append_right (by omega)]at he;rw[hl]at hp;by_cases h0:j-ents.toList.length=0
     ·rw[h0]at hp he;simp at hp he;subst hp he;exact⟨rfl,EH⟩
     ·obtain⟨q,hq⟩:∃q,j-ents.toList.length=q+1:=⟨j-ents.toList.length-1,by omega⟩
      rw[hq]at hp;simp at hp
 ·have RR:=MapKept.run_findKey W7 h1 (P:=P) (w:=w);have Y8:ents[j']? =some e0:=by simpa using h2
  have fu:(Instr.mapUpdate t (.map (some b)) kv vv).run P w= .ok () {w with heap:=w.heap.setIfInBounds b (.map (ents.modify j' fun e=>{e with key:=kv,val:=vv}) clock)}:=by
   simp only[Instr.mapUpdate,Sem.run_bind,run_underlying hu,MapKept.run_getObj_map hb,SU,RR,Result.andThen_ok,Nat.zero_add,Y8,Option.map_some,Option.getD_some,h3,MapKept.run_keyThatStays N0,MapKept.run_setObj_map _ hb]
  have OB:=(List.getElem?_eq_some_iff.1 h2).1;have WU:∀q,(ents.modify j' fun e=>{e with key:=kv,val:=vv}).toList[q]? =if q=j' then some {e0 with key:=kv,val:=vv}else ents.toList[q]? :=by
   intro q;simp only[Array.getElem?_toList,Array.getElem?_modify];by_cases hq:q=j'
   ·subst hq;simp[Y8]
   ·simp[hq,Ne.symm hq]
  cases h with
  |y5 j0 s hs g=>
   have eu:=(List.getElem?_eq_some_iff.1 hs).1;rw[hl]at eu;have kx:ents.toList[j0]? =some (ents.toList[j0]):=List.getElem?_eq_getElem eu;obtain⟨g1,g2⟩:=yG j0 _ _ hs kx;have hjj:j0=j':=Cj gB kx h2 (by rw[<-g1,h3]);subst hjj;have Xy:∀e',ents[j0]? =some e'->({e' with key:=kv,val:=vv}:MapEntry).key=e'.key:=fun e' qt=>by rw[Y8]at qt;cases qt;exact h3.symm
   refine fin fu g (MapKept.isKey_modify IB _ _ Xy) ?_ (by simp[hl]) fun j p e hp he=>?_
   ·rw[MapKept.modify_keys j0 _ Xy];exact gB
   ·rw[WU]at he;by_cases hq:j=j0
    ·subst hq;simp only[if_true,Option.some.injEq]at he;subst he;have aba:j<es.length:=by omega
     rw[List.getElem?_set_self aba]at hp;injection hp with hp
     subst hp;exact⟨rfl,EH⟩
    ·rw[if_neg hq]at he;rw[List.getElem?_set_ne (Ne.symm hq)]at hp;exact yG j p e hp he
  |new TH g=>
   have eu:=(List.getElem?_eq_some_iff.1 h2).1;rw[<-hl]at eu;have kx:es[j']? =some (es[j']):=List.getElem?_eq_getElem eu;exact absurd ((yG j' _ _ kx h2).1.trans h3) (TH _ (List.mem_of_getElem? kx))
end
end Go.KA
