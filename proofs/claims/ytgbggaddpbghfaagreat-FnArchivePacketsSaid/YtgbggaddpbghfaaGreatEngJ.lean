/- Part of a proof engine for functions of the given program: what an operation, a loop and a call compute, symbolically. No conditions. -/
import Derived.Test.YtgbggaddpbghfaaGreatEngI
namespace Go.KA
open Go Go.RowKit
section
variable{P:Program}{tbl:TT}{ρ:RM}{w:World}{ok:Nat→Prop}{H:HM}{F:FM}
def isLit(o:Option Value)(d z:Int):Prop:=match o with|some v=>∃k,v= .int k z|none=>z=d
def z5(ρ:RM)(w:World)(ok:Nat→Prop)(s:Option SV)(v:Option Value):Prop:=match s,v with|some s,some v=>aZ ρ w ok s v|none,none=>True|_,_=>False
theorem fY{b:Bool}{p:Prop}(h:cond b p False):b=true∧p:=by
 cases b with
 |true=>exact⟨rfl,h⟩
 |false=>exact h.elim
theorem wc(b:Bool){len cap:Nat}{lo hi:Option Value}{l h:Int}(hl:isLit lo 0 l)(hh:isLit hi len h)(h0:0≤l)(h1:l≤h)(h2:h≤(cap:Int)):
 (Instr.sliceBounds b len cap lo hi none).run P w= .ok (l.toNat,h.toNat,cap) w:=by
 have e1:∀(k:IntKind) c,(Instr.sliceBound (.int k h) cap c).run P w= .ok h.toNat w:=fun k c=>by
  simp[Instr.sliceBound,asIntOf,show(0≤h∧h≤(cap:Int)) from⟨by omega,h2⟩]
 have e2:∀(k:IntKind) c,(Instr.sliceBound (.int k l) h.toNat c).run P w= .ok l.toNat w:=fun k c=>by
  simp[Instr.sliceBound,asIntOf,show(0≤l∧l≤max h 0) from⟨h0,by omega⟩]
 unfold Instr.sliceBounds
 cases lo with
 |none=>
  subst hl
  cases hi with
  |none=>subst hh;simp
  |some v=>obtain⟨k,rfl⟩:=hh;simp[e1]
 |some u=>
  obtain⟨k',rfl⟩:=hl
  cases hi with
  |none=>subst hh;simp only[Int.toNat_natCast] at e2;simp[e2]
  |some v=>obtain⟨k,rfl⟩:=hh;simp[e1,e2]
theorem tL{dflt:Int}{s:Option SV}{z:Int}{v:Option Value}(h:tN dflt s=some z)(hs:z5 ρ w ok s v):isLit v dflt z:=by
 cases s with
 |none=>
  cases v with
  |none=>simp[tN] at h;exact h.symm
  |some v=>exact hs.elim
 |some s=>
  cases v with
  |none=>exact hs.elim
  |some v=>
   simp only[tN] at h
   split at h
   ·rename_i k n hn
    simp at h
    subst h
    exact⟨k,ou hn hs⟩
   ·cases h
theorem B4{P:Program}{t e:Nat}(hu:P.underlying t=some (.slice e))(d:Nat)(a:Option Addr)(n c:Nat)(w:World):(Op.equalIn (d+1) t (.slice a n c) (.slice none 0 0)).run P w= .ok a.isNone w:=by
 cases a<;>simp[Op.equalIn,run_underlying hu]
theorem EB{P:Program}{t e:Nat}(hu:P.underlying t=some (.slice e)){a:Option Addr}{n c:Nat}{w:World}{xo yo:Operand}:(do eqGuard .eql t xo yo (.slice a n c) (.slice none 0 0);binOp .eql t (.slice a n c) (.slice none 0 0)).run P w= .ok (.bool a.isNone) w:=by
 have h:(Op.equal t (.slice a n c) (.slice none 0 0)).run P w= .ok a.isNone w:=by
  unfold Op.equal
  exact B4 hu 9999 a n c w
 have e1:eqGuard .eql t xo yo (.slice a n c) (.slice none 0 0)=pure ():=by simp[eqGuard]
 have e2:binOp .eql t (.slice a n c) (.slice none 0 0)=(do pure (.bool (←Op.equal t (.slice a n c) (.slice none 0 0)))):=by
  unfold binOp
  rfl
 rw[e1,e2]
 simp only[pure_bind,Sem.run_bind,h,Result.andThen_ok,Sem.run_pure]
theorem D6(da:dM P tbl){d:Bool}{op:BinOp}{x y:SV}{xv yv:Value}{t:Nat}{xo yo:Operand}{K:SV→Prop}(h:Dz d tbl op t x y K)(hx:aZ ρ w ok x xv)(hy:aZ ρ w ok y yv):
 ∃sv v,K sv∧(do eqGuard op t xo yo xv yv;binOp op t xv yv).run P w= .ok v w∧aZ ρ w ok sv v:=by
 unfold Dz at h
 cases hn:Bg y with
 |false=>rw[hn] at h;exact yz da h hx hy
 |true=>
  rw[hn] at h
  have hyv:yv= .slice none 0 0:=by
   unfold Bg at hn
   split at hn
   ·exact eE (bG.iJ hy)
   ·cases hn
  subst hyv
  simp only at h
  split at h
  ·rename_i sz rows
   cases d with
   |true=>exact h.elim
   |false=>
    simp only[cond] at h
    split at h
    ·rename_i i hi
     split at h
     ·rename_i e1 e2 e3 he
      obtain⟨hu,hpos,_⟩:=(da _ _ hi).elem _ _ _ he
      obtain⟨a,n,c,xs,rfl,hn0,hc,hm,hr,hin,hrd⟩:=Nj hx
      split at h
      ·obtain⟨hsz,⟨k⟩⟩:=fY h
       have hsz:=Nat.eq_of_beq_eq_true hsz
       refine⟨_, .bool a.isNone,k a.isNone (fun hb=> ?_), ?_, .v (.c (.c (mk_val rfl)))⟩
       ·cases a with
        |some a=>cases hb
        |none=>
         cases rows with
         |nil=>rfl
         |cons r rs=>
          exfalso
          ·have hl:=hin.length
           have h1:=hr r (by simp)
           rw[List.flatten_cons,List.length_append,h1] at hl
           match xs,hl with
           |x::xs,_=>
            obtain⟨ad,h2,_⟩:=hrd 0 x rfl
            cases h2
           |[],hl=>simp at hl;omega
       ·exact EB hu
      ·exact h.elim
     ·exact h.elim
    ·exact h.elim
  ·exact h.elim
theorem Ir:∀{rows:List (List CV)} {l:List Int} {xs:List Value},wJ rows=some l→Den w ok rows.flatten xs []→xs=l.map (Value.int .u8):=by
 intro rows
 induction rows with
 |nil=>
  intro l xs h hd
  simp only[wJ,Option.some.injEq] at h
  subst h
  simp only[List.flatten_nil] at hd
  cases hd
  rfl
 |cons r rs ih=>
  intro l xs h hd
  unfold wJ at h
  split at h
  ·rename_i he;cases he
  ·rename_i n rs' he
   injection he with h1 h2
   subst h1 h2
   split at h
   ·rename_i l' hl
    simp only[Option.some.injEq] at h
    subst h
    simp only[List.flatten_cons,List.cons_append,List.nil_append] at hd
    cases hd with
    |val h1 ht=>rw[ih hl ht];rfl
   ·cases h
  ·cases h
theorem AU(hB:∀i,H i= .dead∨dd ρ w ok (H i) (ρ i) (F i))(da:dM P tbl){s d:Nat}{x:SV}{xv:Value}{K:SV→Prop}(h:xc tbl s d x H K)(hx:aZ ρ w ok x xv):
 ∃sv v,K sv∧(convert s d xv).run P w= .ok v w∧aZ ρ w ok sv v:=by
 unfold xc at h
 split at h
 case h_2=>exact h.elim
 rename_i i j hi hj
 split at h
 case h_2=>exact h.elim
 rename_i e cT eby hel
 split at h
 case h_2=>exact h.elim
 rename_i k hk
 obtain⟨hb,h⟩:=fY h
 simp only[Bool.and_eq_true] at hb
 have hu:=((da _ _ hi).elem _ _ _ hel).1
 have hS:=(da _ _ hj).FL hb.1
 have hik:k.ik=some .u8:=by
  have:=hb.2.2
  split at this
  ·assumption
  ·cases this
 have hue:=(da _ _ hk).ik _ hik
 split at h
 case h_2=>exact h.elim
 rename_i q
 split at h
 case h_2=>exact h.elim
 rename_i o ty sz rows hq
 split at h
 case h_2=>exact h.elim
 rename_i l hl
 obtain⟨hsz,h⟩:=fY h
 have hsz:=Nat.eq_of_beq_eq_true hsz
 subst hsz
 obtain⟨v,xs,hv,ho,hr,hin,_⟩:=ir hB hq
 obtain⟨hxv,_⟩:=tq hx
 rw[hv] at hxv
 simp only[Option.some.injEq] at hxv
 subst hxv
 have hxs:=Ir hl hin
 have hlen:l.length=rows.length:=by
  have h1:=ho.1
  rw[hxs,List.length_map] at h1
  omega
 refine⟨_, .string (strOfNums l),h, ?_, .v (.c (.c (mk_val rfl)))⟩
 rcases di ho with⟨rfl,hz,hx0⟩|⟨b,c,rfl,hc,hm⟩
 ·have:l=[]:=List.eq_nil_of_length_eq_zero (by omega)
  subst this
  rw[run_convert_bytes_nil w _ _ hu hue 0 0 _ hS]
  rfl
 ·refine run_convert_bytes_arg w _ _ hu hue b 0 rows.length c l hlen (fun n hn=> ?_) _ hS
  have hat:=(jv ho rfl).1 n (.int .u8 (l.getD n 0)) (by
   have hn':n<l.length:=by omega
   rw[hxs,List.getElem?_map]
   simp[List.getD,List.getElem?_eq_getElem hn'])
  rw[eh] at hat
  exact hat
theorem Bm(hB:∀i,H i= .dead∨dd ρ w ok (H i) (ρ i) (F i))(da:dM P tbl){t:Nat}{x:SV}{xv:Value}{lo hi:Option SV}{lv hv:Option Value}{K:SV→Prop}(h:wH tbl t x lo hi H K)(hx:aZ ρ w ok x xv)
 (hlo:z5 ρ w ok lo lv)(hhi:z5 ρ w ok hi hv):
 ∃sv v,K sv∧(Instr.sliceAt t xv lv hv none).run P w= .ok v w∧aZ ρ w ok sv v:=by
 unfold wH at h
 split at h
 ·exact h.elim
 rename_i i hi'
 have hk:=da _ _ hi'
 have slc:∀{ety cT eby:Nat} {a:Option Addr} {len cap:Nat} {l h:Int},i.elem=some (ety,cT,eby)→isLit lv 0 l→isLit hv len h→0≤l→l≤h→h≤(cap:Int)→
  (Instr.sliceAt t (.slice a len cap) lv hv none).run P w= .ok (.slice (if cap=l.toNat then a else a.map (·.add (l.toNat*cT))) (h.toNat-l.toNat) (cap-l.toNat)) w:=by
  intro ety cT eby a len cap l h hel h1 h2 h3 h4 h5
  obtain⟨hu,hpos,inf,z,hinf,hsz,_⟩:=hk.elem _ _ _ hel
  have hsize:(sizeOf ety).run P w= .ok cT w:=by simp[sizeOf,typeInfo,hinf,hsz]
  have hb:=wc (P:=P) (w:=w) true (len:=len) (cap:=cap) h1 h2 h3 h4 h5
  simp[Instr.sliceAt,Instr.slice,run_underlying hu,hb,hsize]
 split at h
 ·rename_i sz rows
  split at h
  case h_2=>exact h.elim
  rename_i ety cT eby l hh hel hl hhh
  obtain⟨hsz,⟨h0,h1,h2⟩,hK⟩:=fY h
  clear h
  have:=Nat.eq_of_beq_eq_true hsz
  subst this
  obtain⟨a,n,c,xs,rfl,rfl,hc,hm,hr,hin,hrd⟩:=Nj hx
  have h3:=tL hl hlo
  have h4:=tL hhh hhi
  refine⟨_,_,hK,slc hel h3 h4 h0 h1 (by omega),dU ?_⟩
  have hd:=j6 (off:=l.toNat) (len:=hh.toNat-l.toNat) hin hr
  refine .ro (by simp;omega) (by omega) (by omega) (fun r hr'=>hr r (List.mem_of_mem_drop (List.mem_of_mem_take hr'))) hd (fun j x hj=> ?_) .nil
  rw[List.getElem?_take] at hj
  split at hj
  case isFalse=>cases hj
  rename_i hlt
  rw[List.getElem?_drop] at hj
  have hne:¬c=l.toNat:=by
   intro e
   have:hh.toNat-l.toNat=0:=by omega
   rw[this] at hlt
   omega
  rw[if_neg hne]
  obtain⟨ad,rfl,hs,hb,hcell⟩:=hrd _ x hj
  exact⟨_,rfl,pQ _ _ hs,by rw[uj];exact hb,by rw[add_add];exact hcell⟩
 ·rename_i j
  obtain⟨hxv,_⟩:=tq hx
  have main:∀{ty sz:Nat} {rows:List (List CV)} {xs:List Value} {l hh:Int} {ety cT eby:Nat},w.ownsRow 0 ty sz xv rows.length xs→i.elem=some (ety,cT,eby)→tN 0 lo=some l→tN (rows.length:Int) hi=some hh→Nat.beq sz cT=true→gz j sz rows.length l hh K→
        ∃sv v,K sv∧(Instr.sliceAt t xv lv hv none).run P w= .ok v w∧aZ ρ w ok sv v:=by
   intro ty sz rows xs l hh ety cT eby ho hel hl hhh hsz hS
   have:=Nat.eq_of_beq_eq_true hsz
   subst this
   have h3:=tL hl hlo
   have h4:=tL hhh hhi
   rcases di ho with⟨rfl,hz,_⟩|⟨b,c,rfl,hc,hm⟩
   ·cases hS with
    |some hb k=>omega
    |all hb k=>
     rw[hz] at h4 hb
     have:=slc (a:=none) (cap:=0) hel h3 h4 (by omega) (by omega) (by omega)
     obtain⟨hb1,hb2⟩:=hb
     subst hb1
     subst hb2
     exact⟨_,_,k,this,by simpa using hx⟩
    |none hb k=>
     rw[hz] at h4
     exact⟨_,_,k,slc hel h3 h4 hb.1 (by omega) (by omega),dU (.ro (by simp;omega) (by omega) (by simp[maxLen]) (by simp) .nil (fun j x hj=>by simp at hj) .nil)⟩
   ·cases hS with
    |some hb k=>
     refine⟨_,_,k,slc hel h3 h4 hb.1 hb.2.1 (by omega), ?_⟩
     rw[if_neg (by omega)]
     simp only[Option.map_some,eh,Nat.zero_add]
     exact .v (.c (.ls hxv (by omega) (by omega) (by omega) (by omega)))
    |all hb k=>
     have:=slc (a:=some ⟨b,0,none⟩) (cap:=c) hel h3 h4 (by omega) (by omega) (by omega)
     obtain⟨hb1,hb2⟩:=hb
     subst hb1
     subst hb2
     refine⟨_,_,k,this, ?_⟩
     simpa[Addr.add] using hx
    |none hb k=>
     exact⟨_,_,k,slc hel h3 h4 hb.1 (by omega) (by omega),dU (.ro (by simp;omega) (by omega) (by omega) (by simp) .nil (fun j x hj=>by simp at hj) .nil)⟩
  split at h
  ·rename_i o ty sz rows hj
   split at h
   case h_2=>exact h.elim
   rename_i ety cT eby l hh hel hl hhh
   obtain⟨hsz,h⟩:=fY h
   obtain⟨rv,xs,hrv,ho,_⟩:=ir hB hj
   rw[hxv] at hrv
   injection hrv with hrv
   subst hrv
   exact main ho hel hl hhh hsz h
  ·rename_i o ty sz rows hj
   split at h
   case h_2=>exact h.elim
   rename_i ety cT eby l hh hel hl hhh
   obtain⟨hsz,h⟩:=fY h
   obtain⟨rv,xs,f,hrv,ho,_⟩:=dN hB hj
   rw[hxv] at hrv
   injection hrv with hrv
   subst hrv
   exact main ho hel hl hhh hsz h
  ·exact h.elim
 ·rename_i s
  split at h
  case h_2=>exact h.elim
  rename_i l hh hl hhh
  cases hb:i.FL with
  |false=>rw[hb] at h;exact h.elim
  |true=>
   rw[hb] at h
   obtain⟨⟨h0,h1,h2⟩,hK⟩:=h
   have:=eE (bG.iJ hx)
   subst this
   have hu:=hk.FL hb
   have hbd:=wc (P:=P) (w:=w) false (len:=s.size) (cap:=s.size) (tL hl hlo) (tL hhh hhi) h0 h1 h2
   exact⟨_,_,hK,by simp[Instr.sliceAt,Instr.slice,run_underlying hu,hbd],Gt rfl⟩
 ·exact h.elim
end
mutual
def l5:CV→CV
 | .own _ sz rows=> .ro sz (cW rows)
 | .eW _ _ sz rows=> .ro sz (cW rows)
 | .ows _ sz rows=> .ro sz rows
 | .op cells=> .rp cells.length (nr cells)
 | .iu _ _ _=> .any
 |x=>x
def nr:List CV→List CV
 |[]=>[]
 |x::xs=>l5 x::nr xs
def cW:List (List CV)→List (List CV)
 |[]=>[]
 |r::rs=>nr r::cW rs
end
theorem qm:∀l:List CV,nr l=l.map l5
 |[]=>rfl
 |x::xs=>by simp only[nr,List.map_cons];rw[qm xs]
theorem dO:∀l:List (List CV),cW l=l.map fun r=>r.map l5
 |[]=>rfl
 |r::rs=>by simp only[cW,List.map_cons];rw[qm,dO rs]
theorem kT(l:List (List CV)):(cW l).flatten=l.flatten.map l5:=by
 rw[dO,List.map_flatten]
mutual
def im:CV→Prop
 | .own _ _ rows=>js rows
 | .eW _ _ _ rows=>js rows
 | .ows _ _ rows=>js rows
 | .op cells=>ja cells
 | .ro _ rows=>rows=[]
 | .rp _ _=>False
 |_=>True
def ja:List CV→Prop
 |[]=>True
 |x::xs=>im x∧ja xs
def js:List (List CV)→Prop
 |[]=>True
 |r::rs=>ja r∧js rs
end
theorem nq:∀{l:List CV},ja l↔∀x∈l,im x
 |[]=>by simp[ja]
 |x::xs=>by simp[ja,nq (l:=xs)]
theorem wj:∀{l:List (List CV)},js l↔∀r∈l,∀x∈r,im x
 |[]=>by simp[js]
 |x::xs=>by simp[js,wj (l:=xs),nq]
theorem jX{w:World}{ok ok':Nat→Prop}{cs:List CV}{vs:List Value}{f:List Nat}(h:Den w ok cs vs f)(hok:∀b,ok b→ok' b)(hf:∀b∈f,ok' b):Den w ok' (cs.map l5) vs []:=by
 induction h with
 |nil=>exact .nil
 |any h1 _ ih=>exact .any h1 (ih hf)
 |val h1 _ ih=>exact .val h1 (ih hf)
 |cb _ ih=>exact .cb (ih hf)
 |ro hn hc hm hr hin hrd _ ihin ih=>exact .ro hn hc hm hr (hin.mono (fun _ _=>rfl) hok (by simp)) (hrd.mono (fun _ _=>rfl) hok) (ih hf)
 |rp hl hin hs hrd _ ihin ih=>exact .rp hl (hin.mono (fun _ _=>rfl) hok (by simp)) hs (hrd.mono (fun _ _=>rfl) hok) (ih hf)
 | @own as vs f ty sz rows xs v g hin hr ho _ ihin ih=>
   have h1:=ihin fun b hb=>hf b (by simp[hb])
   have h2:=ih fun b hb=>hf b (by simp[hb])
   have hr':∀r∈cW rows,r.length=sz:=by
    rw[dO]
    intro r hr0
    obtain⟨r0,h0,rfl⟩:=List.mem_map.1 hr0
    simpa using hr r0 h0
   have hlen:(cW rows).length=rows.length:=by rw[dO];simp
   rw[←kT] at h1
   simp only[List.map_cons,l5]
   rcases di ho with⟨rfl,hz,hxs⟩|⟨b,c,rfl,hc,hm⟩
   ·subst hxs
    exact .ro (by omega) (Nat.le_refl _) (by simp[maxLen]) hr' h1 (fun j x hx=>by simp at hx) h2
   ·refine .ro hlen hc hm hr' h1 (fun j x hx=>⟨_,rfl,rfl,hf b (by simp[Value.ownBlock]), ?_⟩) h2
    exact(jv ho rfl).1 j x hx
 | @eW as vs f ty sz rows xs v g hin hr ho _ ihin ih=>
   have h1:=ihin fun b hb=>hf b (by simp[hb])
   have h2:=ih fun b hb=>hf b (by simp[hb])
   have hr':∀r∈cW rows,r.length=sz:=by
    rw[dO]
    intro r hr0
    obtain⟨r0,h0,rfl⟩:=List.mem_map.1 hr0
    simpa using hr r0 h0
   have hlen:(cW rows).length=rows.length:=by rw[dO];simp
   rw[←kT] at h1
   simp only[List.map_cons,l5]
   rcases di ho with⟨rfl,hz,hxs⟩|⟨b,c,rfl,hc,hm⟩
   ·subst hxs
    exact .ro (by omega) (Nat.le_refl _) (by simp[maxLen]) hr' h1 (fun j x hx=>by simp at hx) h2
   ·refine .ro hlen hc hm hr' h1 (fun j x hx=>⟨_,rfl,rfl,hf b (by simp[Value.ownBlock]), ?_⟩) h2
    exact(jv ho rfl).1 j x hx
 | @ows as vs f ty sz rows xs v hin hr ho _ ihin ih=>
   have h1:=hin.mono (w':=w) (fun _ _=>rfl) hok (by simp)
   have h2:=ih fun b hb=>hf b (by simp[hb])
   simp only[List.map_cons,l5]
   rcases di ho with⟨rfl,hz,hxs⟩|⟨b,c,rfl,hc,hm⟩
   ·subst hxs
    exact .ro (by omega) (Nat.le_refl _) (by simp[maxLen]) hr h1 (fun j x hx=>by simp at hx) h2
   ·refine .ro rfl hc hm hr h1 (fun j x hx=>⟨_,rfl,rfl,hf b (by simp[Value.ownBlock]), ?_⟩) h2
    exact(jv ho rfl).1 j x hx
 | @op as vs f ty cells b g arr hb hin _ ihin ih=>
   have h1:=ihin fun c hc=>hf c (by simp[hc])
   have h2:=ih fun c hc=>hf c (by simp[hc])
   simp only[List.map_cons,l5,qm]
   refine .rp (by simp) h1 rfl (fun j x hx=>⟨_,rfl,rfl,hf b (by simp), ?_⟩) h2
   exact tD hb j x hx
 |iu _ _ _ _ ih=>exact .any rfl (ih fun c hc=>hf c (by simp[hc]))
theorem oN{w:World}{ok ok':Nat→Prop}{cs:List CV}{vs:List Value}{f:List Nat}(h:Den w ok cs vs f)(hp:∀x∈cs,im x):Den w ok' cs vs f:=by
 have flat:∀{rows:List (List CV)},js rows→∀x∈rows.flatten,im x:=by
  intro rows h0 x hx
  obtain⟨r,hr1,hx1⟩:=List.mem_flatten.1 hx
  exact wj.1 h0 r hr1 x hx1
 induction h with
 |nil=>exact .nil
 |any h1 _ ih=>exact .any h1 (ih fun x hx=>hp x (by simp[hx]))
 |val h1 _ ih=>exact .val h1 (ih fun x hx=>hp x (by simp[hx]))
 |cb _ ih=>exact .cb (ih fun x hx=>hp x (by simp[hx]))
 |ro hn hc hm hr hin _ _ _ ih=>
  have h0:=hp _ (List.mem_cons_self)
  simp only[im] at h0
  subst h0
  cases hin
  exact .ro hn hc hm hr .nil (fun j x hx=>by simp at hx) (ih fun x hx=>hp x (by simp[hx]))
 |rp _ _ _ _ _ _ _=>have h0:=hp _ (List.mem_cons_self);simp only[im] at h0
 |own hin hr ho _ ihin ih=>
  have h0:=hp _ (List.mem_cons_self)
  simp only[im] at h0
  exact .own (ihin (flat h0)) hr ho (ih fun x hx=>hp x (by simp[hx]))
 |ows hin hr ho _ ihin ih=>
  have h0:=hp _ (List.mem_cons_self)
  simp only[im] at h0
  exact .ows (ihin (flat h0)) hr ho (ih fun x hx=>hp x (by simp[hx]))
 |eW hin hr ho _ ihin ih=>
  have h0:=hp _ (List.mem_cons_self)
  simp only[im] at h0
  exact .eW (ihin (flat h0)) hr ho (ih fun x hx=>hp x (by simp[hx]))
 |op hb hin _ ihin ih=>
  have h0:=hp _ (List.mem_cons_self)
  simp only[im] at h0
  exact .op hb (ihin (nq.1 h0)) (ih fun x hx=>hp x (by simp[hx]))
 |iu h1 hb ho _ ih=>exact .iu h1 hb ho (ih fun x hx=>hp x (by simp[hx]))
section
variable{P:Program}{tbl:TT}{Γ:Cx}{H Hm:HM}{ρ:RM}{F:FM}{w:World}
theorem Hn{a b:Option IntKind}(h:Cu a b=true):a=b:=by
 cases a<;>cases b<;>simp only[Cu] at h<;>first|rfl|(rw[pL h])|cases h
theorem PN{ok:Nat→Prop}{i:Nat}{v:Value}(h:aZ ρ w ok (.mp i) v):∃b,ρ i=some (.map (some b))∧v= .map (some b):=by
 cases h with
 |v h=>cases h with|c h=>cases h with|mp h=>exact⟨_,h,rfl⟩
theorem JX{ok:Nat→Prop}(hB:∀i,H i= .dead∨dd ρ w ok (H i) (ρ i) (F i)){j:Nat}{k:Option IntKind}{es:List (Value × SV)}(h:H j= .ny k es):
 ∃(b clock:Nat) (ents:Array MapEntry),ρ j=some (.map (some b))∧w.heap[b]? =some (.map ents clock)∧(∀x∈ents.toList,MapKept.IsKey (yR k) x.key)∧(ents.toList.map (·.key)).Nodup∧es.length=ents.toList.length∧
  (∀(j:Nat) p e,es[j]? =some p→ents.toList[j]? =some e→p.1=e.key∧∀ρ,dZ ρ w ok p.2 e.val)∧F j=[b]:=by
 have h0:dd ρ w ok (H j) (ρ j) (F j):=(hB j).resolve_left (by rw[h];simp)
 rw[h] at h0
 generalize ρ j=u at h0
 generalize F j=f at h0
 cases h0 with
 |ny hb hk hn hl h=>exact⟨_,_,_,rfl,hb,hk,hn,hl,h,rfl⟩
theorem Ln{ok:Nat→Prop}{d:Option IntKind}{s:SV}{v key:Value}(h:L4 d s=some key)(hs:aZ ρ w ok s v):v=key∧MapKept.IsKey (yR d) key:=by
 unfold L4 at h
 split at h
 ·have:=eE (bG.iJ hs)
  subst this
  cases d with
  |none=>cases h
  |some k'=>
   simp only at h
   rename_i k n
   cases hb:HF k k' with
   |false=>rw[hb] at h;cases h
   |true=>
    rw[hb] at h
    injection h with h
    subst h
    exact⟨rfl,pL hb⟩
 ·have:=eE (bG.iJ hs)
  subst this
  cases d with
  |none=>injection h with h;subst h;exact⟨rfl,trivial⟩
  |some _=>cases h
 ·cases h
theorem xC(_htb:dM P tbl)(hm:Mem Γ H ρ F w){t n:Nat}{K:gI→Prop}(h:sf tbl t n K)(hf:me ρ n K):rO Γ H ρ F w n K ((Instr.makeMap t none).run P w):=by
 unfold sf at h
 split at h
 case h_2=>exact h.elim
 split at h
 case h_2=>exact h.elim
 rename_i k _ _
 have hn:=hf _ h n (Nat.le_refl _) (by simp)
 obtain⟨g1,g2⟩:=hm.fill hn (fU w (.map #[] 0)) (k:= .ny k []) (v:= .map (some w.heap.size)) (f:=[w.heap.size]) (by simp) (by simp)
  (.ny (ents:= #[]) (uE w _) (by simp) (by simp) rfl (by simp))
 have hr:(Instr.makeMap t none).run P w= .ok (.map (some w.heap.size)) (w.alloc (.map #[] 0)):=by
  simp[Instr.makeMap]
 exact⟨_,_,_,_,_,h,hr,fJ hn _,fun i hi=>by have:=lW hi;simp;omega,g1,g2,fun b hb=>(fU w _).block b hb.1, .v (.c (.mp fD))⟩
theorem Dl{ok:Nat→Prop}{t:Nat}{i:gN}(hk:r6 P t i):∃z,(zeroValue t).run P w= .ok z w∧dZ ρ w ok (GC i) z:=by
 obtain⟨inf,z,hinf,hz,hcs,hsz,hag,hone⟩:=hk.zero
 have hrun:(zeroValue t).run P w= .ok z w:=by simp[zeroValue,typeInfo,hinf,hz]
 have hd:Den w ok (fe i.zero) z.cells.toList []:=by rw[hcs];exact mn _ hone
 have hl:(fe i.zero).length=i.size:=by rw[hd.length];simpa using hsz
 refine⟨z,hrun, ?_⟩
 unfold GC
 cases ha:i.agg with
 |true=>
  have e:=hag ha
  have hv:dZ ρ w ok (.a i.size (fe i.zero)) z:=by
   have:=dZ.a (ρ:=ρ) hl hd
   rw[e]
   simpa using this
  exact hv
 |false=>
  have ho:=hk.Qk ha inf z hinf hz
  show dZ ρ w ok (match fe i.zero with|[x]=> .c x|_=> .c .any) z
  split
  ·rename_i x hx
   rw[hx,kX ho] at hd
   have hv:dZ ρ w ok (.c x) z:= .c (.c (by simpa using hd))
   exact hv
  ·exact .c (.c (.any ho .nil))
theorem zC{l:List MapEntry}(hn:(l.map (·.key)).Nodup){i j:Nat}{a b:MapEntry}(hi:l[i]? =some a)(hj:l[j]? =some b)(h:a.key=b.key):i=j:=by
 have e1:(l.map (·.key))[i]? =some a.key:=by simp[hi]
 have e2:(l.map (·.key))[j]? =some b.key:=by simp[hj]
 have h1:=(List.getElem?_eq_some_iff.1 e1).1
 exact(List.getElem?_inj h1 hn).1 (by rw[e1,e2,h])
theorem Pg{ok:Nat→Prop}{s:SV}{v:Value}{b:Bool}(h:dZ ρ w ok s v):aZ ρ w ok (.tup [s,x7 b]) (.tuple #[v, .bool b]):=by
 have:aZ ρ w ok (.tup [s,x7 b]) (.tuple [v, .bool b].toArray):=by
  refine .tup rfl fun j a u ha hu=> ?_
  match j,ha,hu with
  |0,ha,hu=>simp at ha hu;subst ha hu;exact h
  |1,ha,hu=>simp at ha hu;subst ha hu;exact .c (.c (mk_val rfl))
  |j+2,ha,hu=>simp at ha
 exact this
theorem ym(hB:∀i,H i= .dead∨dd ρ w (aL Γ F w) (H i) (ρ i) (F i))(da:dM P tbl){t:Nat}{x k:SV}{xv kv:Value}{ok:Bool}{K:SV→Prop}(h:sQ tbl t x k ok H K)(hx:aZ ρ w (aL Γ F w) x xv)(hk:aZ ρ w (aL Γ F w) k kv):
 ∃sv v,K sv∧(Instr.lookup t xv kv ok).run P w= .ok v w∧aZ ρ w (aL Γ F w) sv v:=by
 unfold sQ at h
 split at h
 case h_2=>exact h.elim
 rename_i i hi
 split at h
 case h_2=>exact h.elim
 rename_i kd e hmk
 obtain⟨kt,hu,hku⟩:=(da _ _ hi).AN _ _ hmk
 split at h
 case h_2=>exact h.elim
 rename_i ei j key hei hkey
 split at h
 case h_2=>exact h.elim
 rename_i kd' es hj
 have hkd:Cu kd kd'=true:=by
  cases hb:Cu kd kd' with
  |true=>rfl
  |false=>rw[hb] at h;exact h.elim
 rw[hkd] at h
 simp only[cond] at h
 have:=Hn hkd
 subst this
 obtain⟨b,hρ,rfl⟩:=PN hx
 obtain⟨b',clock,ents,hρ',hb,hks,hnd,hl,hent,hF⟩:=JX hB hj
 rw[hρ] at hρ'
 simp only[Option.some.injEq,Value.map.injEq] at hρ'
 subst hρ'
 obtain⟨rfl,hik⟩:=Ln hkey hk
 obtain⟨z,hz,hzV⟩:=Dl (ρ:=ρ) (w:=w) (ok:=aL Γ F w) (da _ _ hei)
 have hchk:(Instr.checkKey ents.isEmpty 10000 kt kv).run P w= .ok () w:=MapKept.run_checkKey hku hik _ 9999
 have base:∀{a:Option (Nat × Value)},Instr.findNow (yR kd) kv ents.toList 0=some a→(Instr.lookup t (.map (some b)) kv ok).run P w=
  match a with
  |some (_,v)=> .ok (if ok then .tuple #[v, .bool true] else v) w
  |none=> .ok (if ok then .tuple #[z, .bool false] else z) w:=by
  intro a ha
  have hfk:=MapKept.run_findKey hku ha (P:=P) (w:=w)
  simp only[Instr.lookup,Sem.run_bind,run_underlying hu,MapKept.run_getObj_map hb,hchk,hfk,Result.andThen_ok,Sem.run_pure]
  cases a with
  |none=>simp[hz]
  |some a=>simp
 rcases MapKept.findNow_spec hik ents.toList 0 hks with⟨h1,h2⟩|⟨j',e0,h1,h2,h3⟩
 ·rw[base h1]
  simp only
  cases h with
  |Pd j0 s hs g=>
   have hlt:=(List.getElem?_eq_some_iff.1 hs).1
   rw[hl] at hlt
   have hget:ents.toList[j0]? =some (ents.toList[j0]):=List.getElem?_eq_getElem hlt
   exact absurd (hent j0 _ _ hs hget).1.symm (h2 _ (List.mem_of_getElem? hget))
  |IU _ g=>
   cases ok with
   |true=>
    exact⟨_,_,g,rfl,Pg hzV⟩
   |false=>exact⟨_,_,g,rfl, .v hzV⟩
 ·rw[base h1]
  simp only
  cases h with
  |Pd j0 s hs g=>
   have hlt:=(List.getElem?_eq_some_iff.1 hs).1
   rw[hl] at hlt
   have hget:ents.toList[j0]? =some (ents.toList[j0]):=List.getElem?_eq_getElem hlt
   obtain⟨g1,g2⟩:=hent j0 _ _ hs hget
   have hjj:j0=j':=zC hnd hget h2 (by rw[←g1,h3])
   subst hjj
   rw[hget] at h2
   injection h2 with h2
   subst h2
   cases ok with
   |true=>exact⟨_,_,g,rfl,Pg (g2 ρ)⟩
   |false=>exact⟨_,_,g,rfl, .v (g2 ρ)⟩
  |IU hno g=>
   have hlt:=(List.getElem?_eq_some_iff.1 h2).1
   rw[←hl] at hlt
   have hget:es[j']? =some (es[j']):=List.getElem?_eq_getElem hlt
   exact absurd ((hent j' _ _ hget h2).1.trans h3) (hno _ (List.mem_of_getElem? hget))
theorem O5{ok:Nat→Prop}{s:SV}{v:Value}(hf:B7 s=true)(h:aZ ρ w ok s v):∀ρ',dZ ρ' w ok s v:=by
 intro ρ'
 cases s<;>simp only[B7] at hf<;>first|cases hf|skip
 ·exact .c (.c (bG.iJ h))
 ·cases h with
  |v h=>cases h with
   |c h=>cases h
   |a hl h=>exact .a hl h
theorem uk(da:dM P tbl)(hm:Mem Γ H ρ F w)(hle:l9 Hm H){t:Nat}{x k v:SV}{xv kv vv:Value}{K:gI→Prop}(h:lz tbl t x k v Hm K)
 (hx:aZ ρ w (aL Γ F w) x xv)(hk:aZ ρ w (aL Γ F w) k kv)(hv:aZ ρ w (aL Γ F w) v vv):JQ Γ H ρ F w K ((Instr.mapUpdate t xv kv vv).run P w):=by
 unfold lz at h
 split at h
 case h_2=>exact h.elim
 rename_i i hi
 split at h
 case h_2=>exact h.elim
 rename_i kd e hmk
 obtain⟨kt,hu,hku⟩:=(da _ _ hi).AN _ _ hmk
 split at h
 case h_2=>exact h.elim
 rename_i j key hkey
 split at h
 case h_2=>exact h.elim
 rename_i kd' es hj
 have hfk:(B7 v&&Cu kd kd')=true:=by
  cases hb:(B7 v&&Cu kd kd') with
  |true=>rfl
  |false=>rw[hb] at h;exact h.elim
 rw[hfk] at h
 simp only[cond] at h
 simp only[Bool.and_eq_true] at hfk
 obtain⟨hflat,hkd⟩:=hfk
 have:=Hn hkd
 subst this
 obtain⟨b,hρ,rfl⟩:=PN hx
 obtain⟨b',clock,ents,hρ',hb,hks,hnd,hl,hent,hF⟩:=JX (hm.hb hle) hj
 rw[hρ] at hρ'
 simp only[Option.some.injEq,Value.map.injEq] at hρ'
 subst hρ'
 obtain⟨rfl,hik⟩:=Ln hkey hk
 have hvv:=O5 hflat hv
 have hchk:(Instr.checkKey false 10000 kt kv).run P w= .ok () w:=MapKept.run_checkKey hku hik _ 9999
 have hown:b∈F j:=by simp[hF]
 have hne:∀c,aL Γ F w c→c≠b:=fun c hc e=>hc.2.2 ⟨j,e▸hown⟩
 have hset:∀(o:Obj),(∀c,aL Γ F w c→({w with heap:=w.heap.setIfInBounds b o}:World).heap[c]? =w.heap[c]?)∧({w with heap:=w.heap.setIfInBounds b o}:World).heap[b]? =some o:=fun o=>
  ⟨fun c hc=>(MapKept.heap_set hb).2 c (hne c hc),(MapKept.heap_set hb).1⟩
 have fin:∀{ents':Array MapEntry} {clock':Nat} {es':List (Value × SV)},(Instr.mapUpdate t (.map (some b)) kv vv).run P w= .ok () {w with heap:=w.heap.setIfInBounds b (.map ents' clock')}→K ⟨.any,[(j, .ny kd es')],0,[]⟩→
  (∀x∈ents'.toList,MapKept.IsKey (yR kd) x.key)→(ents'.toList.map (·.key)).Nodup→es'.length=ents'.toList.length→
  (∀(j:Nat) p e,es'[j]? =some p→ents'.toList[j]? =some e→p.1=e.key∧∀ρ,dZ ρ w (aL Γ F w) p.2 e.val)→JQ Γ H ρ F w K ((Instr.mapUpdate t (.map (some b)) kv vv).run P w):=by
  intro ents' clock' es' hrun hK h1 h2 h3 h4
  obtain⟨hs,hsb⟩:=hset (.map ents' clock')
  obtain⟨g1,g2,g3⟩:=hm.set (j:=j) (w':={w with heap:=w.heap.setIfInBounds b (.map ents' clock')}) rfl rfl rfl (by simp) (fun c _ hc=>(MapKept.heap_set hb).2 c (by rintro rfl;exact hc hown))
   (k:= .ny kd es') (f:=[b]) (fun c hc=> .inl (by rw[hF];exact hc)) (by simp)
   (by rw[hρ];exact .ny hsb h1 h2 h3 fun j p e hp he=>⟨(h4 j p e hp he).1,fun ρ'=>((h4 j p e hp he).2 ρ').mono hs (fun _ h=>h) (Ext.refl _)⟩)
  exact⟨_,_,_,hK,hrun,rfl,g1,g2,g3⟩
 rcases MapKept.findNow_spec hik ents.toList 0 hks with⟨h1,h2⟩|⟨j',e0,h1,h2,h3⟩
 ·have hfk:=MapKept.run_findKey hku h1 (P:=P) (w:=w)
  have hrun:(Instr.mapUpdate t (.map (some b)) kv vv).run P w= .ok () {w with heap:=w.heap.setIfInBounds b (.map (ents.push {key:=kv,val:=vv,born:=clock}) (clock+1))}:=by
   simp only[Instr.mapUpdate,Sem.run_bind,run_underlying hu,MapKept.run_getObj_map hb,hchk,hfk,Result.andThen_ok,MapKept.run_setObj_map _ hb]
  cases h with
  |wS j0 s hs g=>
   have hlt:=(List.getElem?_eq_some_iff.1 hs).1
   rw[hl] at hlt
   have hget:ents.toList[j0]? =some (ents.toList[j0]):=List.getElem?_eq_getElem hlt
   exact absurd (hent j0 _ _ hs hget).1.symm (h2 _ (List.mem_of_getElem? hget))
  |new _ g=>
   refine fin hrun g (fun x hx=> ?_) ?_ (by simp[hl]) fun j p e hp he=> ?_
   ·simp only[Array.toList_push,List.mem_append,List.mem_singleton] at hx
    rcases hx with hx|rfl
    ·exact hks x hx
    ·exact hik
   ·simp only[Array.toList_push,List.map_append,List.map_cons,List.map_nil]
    refine List.nodup_append.2 ⟨hnd,by simp,fun a ha c hc=> ?_⟩
    obtain⟨y,hy,rfl⟩:=List.mem_map.1 ha
    simp at hc
    subst hc
    exact h2 y hy
   ·simp only[Array.toList_push] at he
    by_cases hj:j<es.length
    ·rw[List.getElem?_append_left hj] at hp
     rw[List.getElem?_append_left (by omega)] at he
     exact hent j p e hp he
    ·rw[List.getElem?_append_right (by omega)] at hp
     rw[List.getElem?_append_right (by omega)] at he
     rw[hl] at hp
     by_cases h0:j-ents.toList.length=0
     ·rw[h0] at hp he
      simp at hp he
      subst hp he
      exact⟨rfl,hvv⟩
     ·obtain⟨q,hq⟩:∃q,j-ents.toList.length=q+1:=⟨j-ents.toList.length-1,by omega⟩
      rw[hq] at hp
      simp at hp
 ·have hfk:=MapKept.run_findKey hku h1 (P:=P) (w:=w)
  have hj':ents[j']? =some e0:=by simpa using h2
  have hrun:(Instr.mapUpdate t (.map (some b)) kv vv).run P w= .ok () {w with heap:=w.heap.setIfInBounds b (.map (ents.modify j' fun e=>{e with key:=kv,val:=vv}) clock)}:=by
   simp only[Instr.mapUpdate,Sem.run_bind,run_underlying hu,MapKept.run_getObj_map hb,hchk,hfk,Result.andThen_ok,Nat.zero_add,hj',Option.map_some,Option.getD_some,h3,MapKept.run_keyThatStays hik,MapKept.run_setObj_map _ hb]
  have hlt':=(List.getElem?_eq_some_iff.1 h2).1
  have hmod:∀q,(ents.modify j' fun e=>{e with key:=kv,val:=vv}).toList[q]? =if q=j' then some {e0 with key:=kv,val:=vv} else ents.toList[q]? :=by
   intro q
   simp only[Array.getElem?_toList,Array.getElem?_modify]
   by_cases hq:q=j'
   ·subst hq;simp[hj']
   ·simp[hq,Ne.symm hq]
  cases h with
  |wS j0 s hs g=>
   have hlt:=(List.getElem?_eq_some_iff.1 hs).1
   rw[hl] at hlt
   have hget:ents.toList[j0]? =some (ents.toList[j0]):=List.getElem?_eq_getElem hlt
   obtain⟨g1,g2⟩:=hent j0 _ _ hs hget
   have hjj:j0=j':=zC hnd hget h2 (by rw[←g1,h3])
   subst hjj
   have hkeq:∀e',ents[j0]? =some e'→({e' with key:=kv,val:=vv}:MapEntry).key=e'.key:=fun e' he'=>by rw[hj'] at he';cases he';exact h3.symm
   refine fin hrun g (MapKept.isKey_modify hks _ _ hkeq) ?_ (by simp[hl]) fun j p e hp he=> ?_
   ·rw[MapKept.modify_keys j0 _ hkeq];exact hnd
   ·rw[hmod] at he
    by_cases hq:j=j0
    ·subst hq
     simp only[if_true,Option.some.injEq] at he
     subst he
     have hlt2:j<es.length:=by omega
     rw[List.getElem?_set_self hlt2] at hp
     injection hp with hp
     subst hp
     exact⟨rfl,hvv⟩
    ·rw[if_neg hq] at he
     rw[List.getElem?_set_ne (Ne.symm hq)] at hp
     exact hent j p e hp he
  |new hno g=>
   have hlt:=(List.getElem?_eq_some_iff.1 h2).1
   rw[←hl] at hlt
   have hget:es[j']? =some (es[j']):=List.getElem?_eq_getElem hlt
   exact absurd ((hent j' _ _ hget h2).1.trans h3) (hno _ (List.mem_of_getElem? hget))
end
end Go.KA
