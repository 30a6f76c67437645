/- Plain laws of TellLemma, and contracts of its parts. No conditions but the archive's validity. -/
import Derived.Test.YtgbggaddpbghfaaGreatKAS
namespace Go.Proofs.YtgbggaddpbghfaaGreat
open Go Go.KA Go.Proofs Go.Proofs.Tryz
set_option maxHeartbeats 16000000
set_option maxRecDepth 100000
def Jq(l:List Int):Bool:=(List.range l.length).all fun i=>decide (i=0)||decide (l.getD (i-1) 0<l.getD i 0)
theorem Sw{_n i:Nat}{p:Nat->Bool}(h:(List.range i).all p=true)(hp:p i=true):(List.range (i+1)).all p=true:=by
 rw[List.range_succ,List.all_append,h];simp[hp]
theorem M3{n i:Nat}{p:Nat->Bool}(hi:i<n)(hp:p i=false):(List.range n).all p=false:=by
 cases hb:(List.range n).all p with
 |false=>rfl
 |true=>
  have:=aj.1 hb i (List.mem_range.2 hi);rw[hp]at this;cases this
abbrev IM(l:List Int)(i:Nat):Bool:=decide (i=0)||decide (l.getD (i-1) 0<l.getD i 0)
theorem VZ{l:List Int}{i:Nat}(h1:1≤i)(hi:i<l.length)(h:l.getD i 0≤l.getD ((i:Int)-1).toNat 0):Jq l=false:=by
 refine M3 (p:=IM l) hi ?_;rw[show((i:Int)-1).toNat=i-1 by omega]at h;unfold IM;rw[decide_eq_false (by omega:¬i=0),decide_eq_false (by omega)];rfl
theorem QQ{l:List Int}{i:Nat}(ha:(List.range i).all (IM l)=true)(h:¬l.getD i 0≤l.getD ((i:Int)-1).toNat 0):(List.range (i+1)).all (IM l)=true:=by
 refine Sw (_n:=0) ha ?_;rw[show((i:Int)-1).toNat=i-1 by omega]at h;unfold IM;rw[decide_eq_true (by omega:l.getD (i-1) 0<l.getD i 0),Bool.or_true]
theorem So{l:List Int}{i:Nat}(hi:¬i<l.length)(h1:i≤l.length\/i=1)(h:(List.range i).all (IM l)=true):Jq l=true:=by
 by_cases e:i=l.length
 ·subst e;exact h
 ·have:l.length=0:=by omega
  unfold Jq;rw[this];rfl
theorem mP(l:List Int):aS prog 62 [.c (.ro 1 (l.map eI))] (B (Jq l)):=by
 refine cF func62 (h:=?_)
 repeat'((conv=>whnf);first
  |(apply bP.mk;first|(exact eM (VZ ha.1 (by omega) h);done)|(exact gO (So (by omega) ha.2.1 ha.2.2);done)|skip)|(show aZ 2 _ _ _ _ _ _;refine lp (Nat) [0] (fun i=>[(3,I (i:Nat))]) (fun i=>1≤i/\(i≤l.length\/i=1)/\(List.range i).all (IM l)=true) (fun i=>l.length-i) 1 (by exact⟨aw _, .inr rfl,rfl⟩) (fun i ha=>?_))
  |refine nx (i+1:Nat) (by exact⟨by omega, .inl (by show i+1≤_;omega),QQ ha.2.2 h⟩)
  |(apply Fact.mk;intro hL;try simp only[aa,maxLen]at hL)
  |((apply bX;constructor)<;>intro h<;>(try simp only[aa]at h)<;>(try first|omega|contradiction))
  |refine aR ?_|(show Index _ _ _;first|(refine Index.mk _ (aN (d:=0) (i:=i) (by omega)) ?_)|(refine Index.mk _ (aN (d:=0) (i:=((i:Int)-1).toNat) (by omega)) ?_)|fail)
  |refine nB ?_
  |refine nO ?_)
abbrev sv(a:aB)(s:Int):List aT:=sav (a.az.getD s.toNat ck)
abbrev kK(a:aB)(s:Int):List (List CV):=((((a.az.getD s.toNat ck).notes.map bG).drop (0:Int).toNat).take ((a.az.getD s.toNat ck).saved.toNat-(0:Int).toNat))
theorem vI(a:aB)(s:Int):kK a s=(sv a s).map bG:=by
 unfold kK sv sav;rw[List.map_take,List.map_drop]
theorem qf{a:aB}(hg:GA a){s:Int}(hs:bW a s=true):cS a.sig.aK a.sig.aF (sv a s)=true:=by
 have h1:=kZ hs;have h2:=(jv hg h1.2).1;unfold sv sav;simp only[Int.toNat_zero,List.drop_zero];exact SD h2 _
def jz(a:aB)(id:Int)(l:List Int):Option Int:=l.foldl (fun acc s=>if 0≤bf (sv a s) false id then some s else acc) none
theorem Ab{a:aB}{id:Int}{l:List Int}{i:Nat}(hi:i<l.length):jz a id (l.take (i+1))=if 0≤bf (sv a (l.getD i 0)) false id then some (l.getD i 0)else jz a id (l.take i):=by
 unfold jz;rw[List.take_succ_eq_append_getElem hi,List.foldl_append,getD_eq hi];rfl
theorem CD{a:aB}{id:Int}:∀{l:List Int} {acc:Option Int} {s:Int},l.foldl (fun acc s=>if 0≤bf (sv a s) false id then some s else acc) acc=some s->(s∈l/\known (sv a s) id)\/acc=some s
 |[],_,_,h=> .inr h
 |x::l,acc,s,h=>by
  rw[List.foldl_cons]at h;rcases CD h with h1|h1
  ·exact .inl ⟨by simp[h1.1],h1.2⟩
  ·split at h1
   ·rename_i hx;cases h1;exact .inl ⟨by simp,hx⟩
   ·exact .inr h1
theorem tO{a:aB}{id:Int}{l:List Int}{s:Int}(h:jz a id l=some s):s∈l/\known (sv a s) id:=
 (CD h).resolve_right fun h=>by cases h
noncomputable def pO(a:aB)(l:List Int)(L:List aT)(id:Int):Bool:=l.any fun s=>(sv a s).any (RQ L id)
theorem ti{a:aB}(hg:GA a){l:List Int}(hl:∀s∈l,bW a s=true){L:List aT}(hv:VN L){id:Int}(hk:known L id):
 (gf L id).any (OV (l.flatMap (sv a)))=pO a l L id:=by
 refine Bool.eq_iff_iff.2 ?_;unfold pO;rw[List.any_eq_true,List.any_eq_true];constructor
 ·rintro⟨z,hz,hr⟩;obtain⟨n,hn,hp⟩:=lZ.1 (of_decide_eq_true hr);obtain⟨s,hs,hn⟩:=List.mem_flatMap.1 hn;simp only[ef,ab,beq_iff_eq]at hp;have h1:=LN (VN.of (qf hg (hl s hs))) hn hp.1;refine⟨s,hs,List.any_eq_true.2 ⟨n,hn,?_⟩⟩;unfold RQ;rw[hp.1,Bool.true_and,Aa hv hk,show((n.id.toNat:Nat):Int)=n.id by omega,hp.2];exact oZ ((pJ hv hk).1 hz)
 ·rintro⟨s,hs,h⟩;obtain⟨n,hn,hb⟩:=List.any_eq_true.1 h;simp only[RQ,ab]at hb;have h1:=LN (VN.of (qf hg (hl s hs))) hn hb.1;have h2:=hb.2;rw[Aa hv hk,show((n.id.toNat:Nat):Int)=n.id by omega]at h2;exact⟨n.id,(pJ hv hk).2 (Dl h2),decide_eq_true (lZ.2 ⟨n,List.mem_flatMap.2 ⟨s,hs,hn⟩,by simp[ef,hb.1]⟩)⟩
theorem LJ{L:List aT}(hv:VN L){id:Int}(hk:known L id):0<(gf L id).length:=List.length_pos_of_mem ((pJ hv hk).2 (.refl _))
abbrev zQ:b7:=⟨.mk 0 0 [], .mk 0 0 []⟩
abbrev P8(q:b7)(c:Int):SV:= .tup [.a 6 (xQ q),I c]
abbrev zC:List CV:=[J 0,J 0, .ows 66 3 [],J 0,J 0, .ows 66 3 []]
abbrev Sm(c:Int):SV:= .tup [.a 6 zC,I c]
theorem aE.zero{P:Program}{f:Nat}{args:List SV}{c:Int}(h:aE P f args [] (Sm c)):aE P f args [] (P8 zQ c):=
 aE.Zy h (.same (.same (.up (.same (.same (.up .nil))))))
abbrev Mi(a:aB)(s:Int):Bool:=(a.az.getD s.toNat ck).up
def Wy(a:aB)(id:Int):Option Int->dW
 |none=> .cells [.c (J 0), .c (J 0), .lw 6, .c (J 0), .c (J 0), .lw 7]
 |some s=> .cc 6 (bm (jK (er (sv a s) id).entry))
noncomputable def Wf(a:aB)(id:Int):Option Int->SV
 |none=> .c (.ro 1 [])
 |some s=> .c (.ro 1 ((gf (sv a s) id).map eI))
theorem Cv{a:aB}{l:List Int}{i:Nat}{R:List (List CV)}(hi:i<l.length)(Bd:(a.az.getD (l.getD i 0).toNat ck).notes.length≤20)(h:R=((l.take i).flatMap (sv a)).map bG)(h1:R.length≤20*i):
 R++kK a (l.getD i 0)=((l.take (i+1)).flatMap (sv a)).map bG/\(R++kK a (l.getD i 0)).length≤20*(i+1):=by
 constructor
 ·rw[sQ hi,au,<-h,vI,getD_eq hi]
 ·rw[ai];unfold kK;simp only[aq,List.length_drop,aa];omega
abbrev CW(a:aB)(id:Int)(l:List Int)(i:Nat)(R:List (List CV))(o:Option Int):Prop:=i≤l.length/\R=((l.take i).flatMap (sv a)).map bG/\R.length≤20*i/\o=jz a id (l.take i)
theorem sN{a:aB}{id:Int}{l:List Int}{i:Nat}{R:List (List CV)}{o:Option Int}(hi:i<l.length)(Bd:(a.az.getD (l.getD i 0).toNat ck).notes.length≤20)(h:CW a id l i R o)(hn:¬bf (sv a (l.getD i 0)) false id≥0):CW a id l (i+1) (R++kK a (l.getD i 0)) o:=by
 have h1:=Cv hi Bd h.2.1 h.2.2.1;refine⟨hi,h1.1,h1.2,?_⟩;rw[Ab hi,if_neg (by omega)];exact h.2.2.2
theorem zO{a:aB}{id:Int}{l:List Int}{i:Nat}{R:List (List CV)}{o:Option Int}(hi:i<l.length)(Bd:(a.az.getD (l.getD i 0).toNat ck).notes.length≤20)(h:CW a id l i R o)(hn:bf (sv a (l.getD i 0)) false id≥0):CW a id l (i+1) (R++kK a (l.getD i 0)) (some (l.getD i 0)):=by
 have h1:=Cv hi Bd h.2.1 h.2.2.1;refine⟨hi,h1.1,h1.2,?_⟩;rw[Ab hi,if_pos (by omega)]
theorem r5{a:aB}{id:Int}{l:List Int}{i:Nat}{R:List (List CV)}{o:Option Int}(hi:¬i<l.length)(h:CW a id l i R o):o=jz a id l:=by
 have:=h.2.2.2;rwa[ar (by omega)]at this
theorem FO{a:aB}{id:Int}{l:List Int}{i:Nat}{R:List (List CV)}{o:Option Int}(hi:¬i<l.length)(h:CW a id l i R o):R=(l.flatMap (sv a)).map bG:=by
 have:=h.2.1;rwa[ar (by omega)]at this
theorem rF(a:aB)(s id:Int)(hv:VN (sv a s))(hk:known (sv a s) id):aE prog 61 [.c (.ro 7 (kK a s)),I id] [] (.c (.ows 2 1 ((gf (sv a s) id).map eI))):=by
 rw[vI];exact zu _ id hv hk
theorem Ea{a:aB}{s id:Int}(hk:known (sv a s) id):(kK a s)[(bf (sv a s) false id).toNat]? =some (bG (er (sv a s) id)):=by
 rw[vI];exact aN (qV hk)
theorem Ed{a:aB}{s id:Int}(hk:known (sv a s) id):0≤bf (sv a s) false id/\(bf (sv a s) false id).toNat<(kK a s).length:=by
 refine⟨hk,?_⟩;rw[vI,aa];exact qV hk
theorem KR{a:aB}(hl:bS a≤1048576){s id:Int}(hs:bW a s=true)(hk:known (sv a s) id):aH (jK (er (sv a s) id).entry).left≤1048576/\aH (jK (er (sv a s) id).entry).right≤1048576:=by
 have hp:=kZ hs;have h1:db (a.az.getD s.toNat ck)≤fU db a.az:=by
  rw[getD_eq hp.2];exact di db (ag hp.2)
 have h2:er (sv a s) id∈(a.az.getD s.toNat ck).notes:=by
  unfold er;rw[getD_eq (qV hk)];exact List.mem_of_mem_drop (List.mem_of_mem_take (ag (qV hk)))
 have h3:bU (er (sv a s) id)≤fU bU (a.az.getD s.toNat ck).notes:=di bU h2;generalize er (sv a s) id=n at*;have h5:aH (jK n.entry).left+aH (jK n.entry).right≤cL n.entry.proof:=by
  unfold jK x7;by_cases hc:n.entry.proof.aG.length-1<n.entry.proof.aG.length
  ·rw[getD_eq hc];have h4:=di cB (ag hc);simp only[cL];simp only[cB]at h4;omega
  ·rw[List.getD_eq_getElem?_getD,List.getElem?_eq_none (by omega)];exact ah _
 simp only[bS,db,bU,nE]at hl h1 h3;omega
theorem yW{a:aB}(h:fM a=true):1≤a.az.length/\a.az.length≤5:=by
 simp only[fM,ab]at h;have:=bQ h.2.1;omega
section
variable(a:aB)(id:Int)(l:List Int)(hl:bS a≤1048576)
include hl
section
variable(hg:fM a=true)
include hg
section
variable(h:Jq l=true)(h2:l.all (ee 0 ((a.az.length:Int)-1))=true)
include h h2
section
variable(h4:ee 0 99 id=true)(hn:l.length≤1048576)
include h4 hn
theorem YF(hu:l.all (Mi a)=true)(h6:2*(l.length:Int)≤a.az.length):aE prog 29 [qH a,I id, .c (.ro 1 (l.map eI))] [] (Sm 4):=by
 have hv:=fW a hl;rw[hg]at hv;have h1:=mP l;rw[h]at h1;have h3:=lD l ((a.az.map cZ).length:Nat) (by have:=yW hg;rw[aa];omega);rw[show((((a.az.map cZ).length:Nat):Int)-1)=(a.az.length:Int)-1 by rw[aa],h2]at h3;have h5:=eg id 0 99;rw[h4]at h5;have dV:∀i,i<l.length->0≤l.getD i 0/\(l.getD i 0).toNat<a.az.length:=fun i hi=>by
  rw[getD_eq hi];have:=bQ (aj.1 h2 _ (ag hi));omega
 refine cX func29 (h:=?_)
 repeat'((conv=>whnf);first
  |refine aI.mk ?_ ?_|(show aZ 6 _ _ _ _ _ _;refine lp (Nat) [1,2,3,6,40,41] (fun i=>[(42,I (i:Nat))]) (fun i=>i≤l.length/\(l.take i).all (Mi a)=true) (fun i=>l.length-i) 0 (by exact⟨ah _,rfl⟩) (fun i ha=>?_);have xA:=dV i)
  |refine nx (i+1:Nat) (by exact eN (by omega) ha (by rw[<-getD_eq (d:=0) (by omega)];simp_all[Mi]))
  |(apply Fact.mk;intro hL;try simp only[aa,maxLen]at hL)
  |((apply bX;constructor)<;>intro h<;>(try simp only[aa]at h)<;>(try first|omega|contradiction))|(show ay _ 13 _ _ _ _;refine cP rfl (hv) ?_)|(show ay _ 62 _ _ _ _;refine cP rfl (h1) ?_)|(show ay _ 63 _ _ _ _;refine cP rfl (h3) ?_)|(show ay _ 45 _ _ _ _;refine cP rfl (h5) ?_)
  |(have h8:(a.az.getD (l.getD i 0).toNat ck).up=false:=h;exact absurd (aj.1 hu _ (List.getElem_mem (n:=i) (by omega))) (by rw[<-getD_eq (d:=0) (by omega)];show¬(a.az.getD (l.getD i 0).toNat ck).up=true;rw[h8];decide))
  |refine aR ?_|(show Index _ _ _;first|(refine Index.mk _ (aN (d:=0) (i:=i) (l:=l) (by omega)) ?_)|(refine Index.mk _ (aN (d:=ck) (i:=(l.getD i 0).toNat) (by omega)) ?_)|fail)
  |refine nO ?_)
 all_goals first|rfl|trivial
theorem Zh(hu:l.all (Mi a)=true)(h6:¬2*(l.length:Int)≤a.az.length)(NU:jz a id l=none):aE prog 29 [qH a,I id, .c (.ro 1 (l.map eI))] [] (Sm 6):=by
 have hv:=fW a hl;rw[hg]at hv;have h1:=mP l;rw[h]at h1;have h3:=lD l ((a.az.map cZ).length:Nat) (by have:=yW hg;rw[aa];omega);rw[show((((a.az.map cZ).length:Nat):Int)-1)=(a.az.length:Int)-1 by rw[aa],h2]at h3;have h5:=eg id 0 99;rw[h4]at h5;have dV:∀i,i<l.length->0≤l.getD i 0/\(l.getD i 0).toNat<a.az.length:=fun i hi=>by
  rw[getD_eq hi];have:=bQ (aj.1 h2 _ (ag hi));omega
 have IQ:=(mb a).1 hg;have Uk:∀i,i<l.length->cS a.sig.aK a.sig.aF (sv a (l.getD i 0))=true:=fun i hi=>qf IQ (by
  rw[getD_eq hi];exact aj.1 h2 _ (ag hi))
 have Ff:∀i,i<l.length->0≤(a.az.getD (l.getD i 0).toNat ck).saved/\(a.az.getD (l.getD i 0).toNat ck).saved≤((a.az.getD (l.getD i 0).toNat ck).notes.length:Int):=fun i hi=>wx IQ (dV i hi).2
 have Qs:∀i,i<l.length->(a.az.getD (l.getD i 0).toNat ck).notes.length≤20:=fun i hi=>(jv IQ (dV i hi).2).2
 refine cX func29 (fun ew=>match ew with|15=>true|24=>true|_=>false) (h:=?_)
 repeat'((conv=>whnf);first
  |refine aI.mk ?_ ?_|(show aZ 6 _ _ _ _ _ _;refine lp (Nat) [1,2,3,6,40,41] (fun i=>[(42,I (i:Nat))]) (fun i=>i≤l.length/\(l.take i).all (Mi a)=true) (fun i=>l.length-i) 0 (by exact⟨ah _,rfl⟩) (fun i ha=>?_);have xA:=dV i)|(show aZ 17 _ _ _ _ _ _;refine qJ (Nat × List (List CV)× Option Int) [1,3,6,12,66,67] (fun⟨i,R,o⟩=>[(10, .lw 4),(11,Wf a id o),(68,I (i:Nat))]) (fun⟨i,R,o⟩=>[(4, .row none 51 7 R),(10,Wy a id o)]) (fun⟨i,R,o⟩=>i≤l.length/\R=((l.take i).flatMap (sv a)).map bG/\R.length≤20*i/\o=jz a id (l.take i)) (fun⟨i,R,o⟩=>l.length-i) (0,[],none) (by exact⟨ah _,rfl,ah _,rfl⟩) (fun A ha=>?_);obtain⟨i,R,o⟩:=A;have ha:i≤l.length/\R=((l.take i).flatMap (sv a)).map bG/\R.length≤20*i/\o=jz a id (l.take i):=ha;have xA:=dV i;have ZJ:=Ff i;have Bd:=Qs i;have E7:=ha;(rcases o with _|v))
  |refine nx (i+1:Nat) (by exact eN (by omega) ha (by rw[<-getD_eq (d:=0) (by omega)];simp_all[Mi]))
  |refine nx ((i+1,R++kK a (l.getD i 0),none):Nat × List (List CV)× Option Int) (by exact sN (by omega) (by omega) E7 (by have h8:¬bf (sv a (l.getD i 0)) false id≥0:=h;exact h8))
  |refine nx ((i+1,R++kK a (l.getD i 0),some v):Nat × List (List CV)× Option Int) (by exact sN (by omega) (by omega) E7 (by have h8:¬bf (sv a (l.getD i 0)) false id≥0:=h;exact h8))
  |refine nx ((i+1,R++kK a (l.getD i 0),some (l.getD i 0)):Nat × List (List CV)× Option Int) (by exact zO (by omega) (by omega) E7 h)
  |(apply Fact.mk;intro hL;try simp only[aa,maxLen]at hL)
  |((apply bX;constructor)<;>intro h<;>(try simp only[aa]at h)<;>(try first|omega|contradiction))|(show ay _ 13 _ _ _ _;refine cP rfl (hv) ?_)|(show ay _ 62 _ _ _ _;refine cP rfl (h1) ?_)|(show ay _ 63 _ _ _ _;refine cP rfl (h3) ?_)|(show ay _ 45 _ _ _ _;refine cP rfl (h5) ?_)|(show ay _ 59 _ _ _ _;refine cP rfl (ry _ _ _ _ _) ?_)|(show ay _ 61 _ _ _ _;refine cG [] rfl (rF a (l.getD i 0) id (VN.of (Uk i (by omega))) h) ?_)|(show ay _ 64 _ _ _ _;refine cP rfl (EC (er (sv a (l.getD i 0)) id).entry ((VE.of (Uk i (by omega))).cl _ h).1) ?_)
  |(have h8:(a.az.getD (l.getD i 0).toNat ck).up=false:=h;exact absurd (aj.1 hu _ (List.getElem_mem (n:=i) (by omega))) (by rw[<-getD_eq (d:=0) (by omega)];show¬(a.az.getD (l.getD i 0).toNat ck).up=true;rw[h8];decide))|(show Gh _ _ _ _ _;refine Gh.Eg 5 (.ro 1 []) rfl (Gh.go ?_))
  |(have h9:some v=jz a id l:=r5 (by omega) E7;rw[NU]at h9;cases h9)|(show Gh _ _ _ _ _;refine Gh.Eg 12 (.ro 1 ((gf (sv a (l.getD i 0)) id).map eI)) rfl (Gh.go ?_))|(show Gh _ _ _ _ _;refine Gh.go ?_)
  |refine aR ?_|(show Index _ _ _;first|(refine Index.mk _ (aN (d:=0) (i:=i) (l:=l) (by omega)) ?_)|(refine Index.mk _ (aN (d:=ck) (i:=(l.getD i 0).toNat) (by omega)) ?_)|(refine Index.mk _ (Ea (h:known (sv a (l.getD i 0)) id)) ?_)|fail)
  |refine nB ?_
  |apply jY.go|(show bh _ _;refine bh.mk (by first|((simp only[aa,aq,List.length_drop,maxLen];constructor<;>omega))|(exact Ed (h:known (sv a (l.getD i 0)) id))|fail) ?_)
  |refine nO ?_)
 all_goals first|rfl|trivial
theorem Xn(hu:l.all (Mi a)=true)(h6:¬2*(l.length:Int)≤a.az.length)(s:Int)(NU:jz a id l=some s)(ht:pO a l (sv a s) id=true):aE prog 29 [qH a,I id, .c (.ro 1 (l.map eI))] [] (Sm 8):=by
 have hv:=fW a hl;rw[hg]at hv;have h1:=mP l;rw[h]at h1;have h3:=lD l ((a.az.map cZ).length:Nat) (by have:=yW hg;rw[aa];omega);rw[show((((a.az.map cZ).length:Nat):Int)-1)=(a.az.length:Int)-1 by rw[aa],h2]at h3;have h5:=eg id 0 99;rw[h4]at h5;have dV:∀i,i<l.length->0≤l.getD i 0/\(l.getD i 0).toNat<a.az.length:=fun i hi=>by
  rw[getD_eq hi];have:=bQ (aj.1 h2 _ (ag hi));omega
 have IQ:=(mb a).1 hg;have Uk:∀i,i<l.length->cS a.sig.aK a.sig.aF (sv a (l.getD i 0))=true:=fun i hi=>qf IQ (by
  rw[getD_eq hi];exact aj.1 h2 _ (ag hi))
 have Ff:∀i,i<l.length->0≤(a.az.getD (l.getD i 0).toNat ck).saved/\(a.az.getD (l.getD i 0).toNat ck).saved≤((a.az.getD (l.getD i 0).toNat ck).notes.length:Int):=fun i hi=>wx IQ (dV i hi).2
 have Qs:∀i,i<l.length->(a.az.getD (l.getD i 0).toNat ck).notes.length≤20:=fun i hi=>(jv IQ (dV i hi).2).2
 have Sn:=tO NU;have YA:bW a s=true:=aj.1 h2 _ Sn.1;have Qv:=qf IQ YA;have wi:=ti IQ (l:=l) (fun s hs=>aj.1 h2 _ hs) (VN.of Qv) Sn.2;have jr:=LJ (VN.of Qv) Sn.2;have Vj:=KR hl YA Sn.2;refine cX func29 (fun ew=>match ew with|15=>true|24=>true|25=>true|_=>false) (h:=?_)
 repeat'((conv=>whnf);first
  |refine aI.mk ?_ ?_|(show aZ 6 _ _ _ _ _ _;refine lp (Nat) [1,2,3,6,40,41] (fun i=>[(42,I (i:Nat))]) (fun i=>i≤l.length/\(l.take i).all (Mi a)=true) (fun i=>l.length-i) 0 (by exact⟨ah _,rfl⟩) (fun i ha=>?_);have xA:=dV i)|(show aZ 17 _ _ _ _ _ _;refine qJ (Nat × List (List CV)× Option Int) [1,3,6,12,66,67] (fun⟨i,R,o⟩=>[(10, .lw 4),(11,Wf a id o),(68,I (i:Nat))]) (fun⟨i,R,o⟩=>[(4, .row none 51 7 R),(10,Wy a id o)]) (fun⟨i,R,o⟩=>i≤l.length/\R=((l.take i).flatMap (sv a)).map bG/\R.length≤20*i/\o=jz a id (l.take i)) (fun⟨i,R,o⟩=>l.length-i) (0,[],none) (by exact⟨ah _,rfl,ah _,rfl⟩) (fun A ha=>?_);obtain⟨i,R,o⟩:=A;have ha:i≤l.length/\R=((l.take i).flatMap (sv a)).map bG/\R.length≤20*i/\o=jz a id (l.take i):=ha;have xA:=dV i;have ZJ:=Ff i;have Bd:=Qs i;have E7:=ha;(rcases o with _|v))|(show aZ 28 _ _ _ _ _ _;refine lp (Nat) [6,10,12,107,108] (fun j=>[(109,I (j:Nat))]) (fun j=>j≤(gf (sv a s) id).length/\((gf (sv a s) id).take j).all (fun x=> !(OV (l.flatMap (sv a)) x))=true) (fun j=>(gf (sv a s) id).length-j) 0 (by exact⟨ah _,rfl⟩) (fun j ha=>?_);have hj:=ha)
  |refine nx (i+1:Nat) (by exact eN (by omega) ha (by rw[<-getD_eq (d:=0) (by omega)];simp_all[Mi]))
  |refine nx ((i+1,R++kK a (l.getD i 0),none):Nat × List (List CV)× Option Int) (by exact sN (by omega) (by omega) E7 (by have h8:¬bf (sv a (l.getD i 0)) false id≥0:=h;exact h8))
  |refine nx ((i+1,R++kK a (l.getD i 0),some v):Nat × List (List CV)× Option Int) (by exact sN (by omega) (by omega) E7 (by have h8:¬bf (sv a (l.getD i 0)) false id≥0:=h;exact h8))
  |refine nx ((i+1,R++kK a (l.getD i 0),some (l.getD i 0)):Nat × List (List CV)× Option Int) (by exact zO (by omega) (by omega) E7 h)
  |refine nx (j+1:Nat) (by exact eN (by omega) ha (by rw[<-getD_eq (d:=0) (by omega)];exact zq (decide_eq_false h)))
  |(apply Fact.mk;intro hL;try simp only[aa,maxLen]at hL)
  |((apply bX;constructor)<;>intro h<;>(try simp only[aa]at h)<;>(try first|omega|contradiction))|(show ay _ 13 _ _ _ _;refine cP rfl (hv) ?_)|(show ay _ 62 _ _ _ _;refine cP rfl (h1) ?_)|(show ay _ 63 _ _ _ _;refine cP rfl (h3) ?_)|(show ay _ 45 _ _ _ _;refine cP rfl (h5) ?_)|(show ay _ 59 _ _ _ _;refine cP rfl (ry _ _ _ _ _) ?_)|(show ay _ 61 _ _ _ _;refine cG [] rfl (rF a (l.getD i 0) id (VN.of (Uk i (by omega))) h) ?_)|(show ay _ 64 _ _ _ _;refine cP rfl (EC (er (sv a (l.getD i 0)) id).entry ((VE.of (Uk i (by omega))).cl _ h).1) ?_)|(show ay _ 59 _ _ _ _;refine cP rfl (mF (l.flatMap (sv a)) true _) ?_)
  |(have h8:(a.az.getD (l.getD i 0).toNat ck).up=false:=h;exact absurd (aj.1 hu _ (List.getElem_mem (n:=i) (by omega))) (by rw[<-getD_eq (d:=0) (by omega)];show¬(a.az.getD (l.getD i 0).toNat ck).up=true;rw[h8];decide))|(show Gh _ _ _ _ _;refine Gh.Eg 5 (.ro 1 []) rfl (Gh.go ?_))
  |(have h9:none=jz a id l:=r5 (by omega) E7;rw[NU]at h9;cases h9)
  |(have h9:(gf (sv a s) id).any (OV (l.flatMap (sv a)))=false:=TR (i:=j) (by omega) ha.2;rw[wi,ht]at h9;cases h9)|(show Gh _ _ _ _ _;refine Gh.Eg 12 (.ro 1 ((gf (sv a (l.getD i 0)) id).map eI)) rfl (Gh.go ?_))|(show Gh _ _ _ _ _;have h9:some v=jz a id l:=r5 (by omega) E7;rw[NU]at h9;obtain rfl:s=v:=(Option.some.inj h9.symm);have ZY:=FO (by omega) E7;subst ZY;refine Gh.go ?_)|(show Gh _ _ _ _ _;refine Gh.go ?_)
  |refine aR ?_|(show Index _ _ _;first|(refine Index.mk _ (aN (d:=0) (i:=i) (l:=l) (by omega)) ?_)|(refine Index.mk _ (aN (d:=ck) (i:=(l.getD i 0).toNat) (by omega)) ?_)|(refine Index.mk _ (Ea (h:known (sv a (l.getD i 0)) id)) ?_)|(refine Index.mk _ (aN (d:=0) (i:=j) (l:=gf (sv a s) id) (by omega)) ?_)|fail)
  |refine nB ?_
  |apply jY.go|(show bh _ _;refine bh.mk (by first|((simp only[aa,aq,List.length_drop,maxLen];constructor<;>omega))|(exact Ed (h:known (sv a (l.getD i 0)) id))|fail) ?_)
  |refine nO ?_)
 all_goals first|rfl|trivial
theorem YG(hu:l.all (Mi a)=true)(h6:¬2*(l.length:Int)≤a.az.length)(s:Int)(NU:jz a id l=some s)(ht:pO a l (sv a s) id=false):aE prog 29 [qH a,I id, .c (.ro 1 (l.map eI))] [] (P8 (jK (er (sv a s) id).entry) 0):=by
 have hv:=fW a hl;rw[hg]at hv;have h1:=mP l;rw[h]at h1;have h3:=lD l ((a.az.map cZ).length:Nat) (by have:=yW hg;rw[aa];omega);rw[show((((a.az.map cZ).length:Nat):Int)-1)=(a.az.length:Int)-1 by rw[aa],h2]at h3;have h5:=eg id 0 99;rw[h4]at h5;have dV:∀i,i<l.length->0≤l.getD i 0/\(l.getD i 0).toNat<a.az.length:=fun i hi=>by
  rw[getD_eq hi];have:=bQ (aj.1 h2 _ (ag hi));omega
 have IQ:=(mb a).1 hg;have Uk:∀i,i<l.length->cS a.sig.aK a.sig.aF (sv a (l.getD i 0))=true:=fun i hi=>qf IQ (by
  rw[getD_eq hi];exact aj.1 h2 _ (ag hi))
 have Ff:∀i,i<l.length->0≤(a.az.getD (l.getD i 0).toNat ck).saved/\(a.az.getD (l.getD i 0).toNat ck).saved≤((a.az.getD (l.getD i 0).toNat ck).notes.length:Int):=fun i hi=>wx IQ (dV i hi).2
 have Qs:∀i,i<l.length->(a.az.getD (l.getD i 0).toNat ck).notes.length≤20:=fun i hi=>(jv IQ (dV i hi).2).2
 have Sn:=tO NU;have YA:bW a s=true:=aj.1 h2 _ Sn.1;have Qv:=qf IQ YA;have wi:=ti IQ (l:=l) (fun s hs=>aj.1 h2 _ hs) (VN.of Qv) Sn.2;have jr:=LJ (VN.of Qv) Sn.2;have Vj:=KR hl YA Sn.2;refine cX func29 (fun ew=>match ew with|15=>true|24=>true|25=>true|_=>false) (h:=?_)
 repeat'((conv=>whnf);first
  |refine aI.mk ?_ ?_|(show aZ 6 _ _ _ _ _ _;refine lp (Nat) [1,2,3,6,40,41] (fun i=>[(42,I (i:Nat))]) (fun i=>i≤l.length/\(l.take i).all (Mi a)=true) (fun i=>l.length-i) 0 (by exact⟨ah _,rfl⟩) (fun i ha=>?_);have xA:=dV i)|(show aZ 17 _ _ _ _ _ _;refine qJ (Nat × List (List CV)× Option Int) [1,3,6,12,66,67] (fun⟨i,R,o⟩=>[(10, .lw 4),(11,Wf a id o),(68,I (i:Nat))]) (fun⟨i,R,o⟩=>[(4, .row none 51 7 R),(10,Wy a id o)]) (fun⟨i,R,o⟩=>i≤l.length/\R=((l.take i).flatMap (sv a)).map bG/\R.length≤20*i/\o=jz a id (l.take i)) (fun⟨i,R,o⟩=>l.length-i) (0,[],none) (by exact⟨ah _,rfl,ah _,rfl⟩) (fun A ha=>?_);obtain⟨i,R,o⟩:=A;have ha:i≤l.length/\R=((l.take i).flatMap (sv a)).map bG/\R.length≤20*i/\o=jz a id (l.take i):=ha;have xA:=dV i;have ZJ:=Ff i;have Bd:=Qs i;have E7:=ha;(rcases o with _|v))|(show aZ 28 _ _ _ _ _ _;refine lp (Nat) [6,10,12,107,108] (fun j=>[(109,I (j:Nat))]) (fun j=>j≤(gf (sv a s) id).length/\((gf (sv a s) id).take j).all (fun x=> !(OV (l.flatMap (sv a)) x))=true) (fun j=>(gf (sv a s) id).length-j) 0 (by exact⟨ah _,rfl⟩) (fun j ha=>?_);have hj:=ha)
  |refine nx (i+1:Nat) (by exact eN (by omega) ha (by rw[<-getD_eq (d:=0) (by omega)];simp_all[Mi]))
  |refine nx ((i+1,R++kK a (l.getD i 0),none):Nat × List (List CV)× Option Int) (by exact sN (by omega) (by omega) E7 (by have h8:¬bf (sv a (l.getD i 0)) false id≥0:=h;exact h8))
  |refine nx ((i+1,R++kK a (l.getD i 0),some v):Nat × List (List CV)× Option Int) (by exact sN (by omega) (by omega) E7 (by have h8:¬bf (sv a (l.getD i 0)) false id≥0:=h;exact h8))
  |refine nx ((i+1,R++kK a (l.getD i 0),some (l.getD i 0)):Nat × List (List CV)× Option Int) (by exact zO (by omega) (by omega) E7 h)
  |refine nx (j+1:Nat) (by exact eN (by omega) ha (by rw[<-getD_eq (d:=0) (by omega)];exact zq (decide_eq_false h)))
  |(apply Fact.mk;intro hL;try simp only[aa,maxLen]at hL)
  |((apply bX;constructor)<;>intro h<;>(try simp only[aa]at h)<;>(try first|omega|contradiction))|(show ay _ 13 _ _ _ _;refine cP rfl (hv) ?_)|(show ay _ 62 _ _ _ _;refine cP rfl (h1) ?_)|(show ay _ 63 _ _ _ _;refine cP rfl (h3) ?_)|(show ay _ 45 _ _ _ _;refine cP rfl (h5) ?_)|(show ay _ 59 _ _ _ _;refine cP rfl (ry _ _ _ _ _) ?_)|(show ay _ 61 _ _ _ _;refine cG [] rfl (rF a (l.getD i 0) id (VN.of (Uk i (by omega))) h) ?_)|(show ay _ 64 _ _ _ _;refine cP rfl (EC (er (sv a (l.getD i 0)) id).entry ((VE.of (Uk i (by omega))).cl _ h).1) ?_)|(show ay _ 59 _ _ _ _;refine cP rfl (mF (l.flatMap (sv a)) true _) ?_)|(show ay _ 65 _ _ _ _;refine cG [] rfl (lW (jK (er (sv a s) id).entry).left Vj.1) ?_)|(show ay _ 65 _ _ _ _;refine cG [] rfl (lW (jK (er (sv a s) id).entry).right Vj.2) ?_)
  |(have h8:(a.az.getD (l.getD i 0).toNat ck).up=false:=h;exact absurd (aj.1 hu _ (List.getElem_mem (n:=i) (by omega))) (by rw[<-getD_eq (d:=0) (by omega)];show¬(a.az.getD (l.getD i 0).toNat ck).up=true;rw[h8];decide))|(show Gh _ _ _ _ _;refine Gh.Eg 5 (.ro 1 []) rfl (Gh.go ?_))
  |(have h9:none=jz a id l:=r5 (by omega) E7;rw[NU]at h9;cases h9)
  |(have h9:bf (l.flatMap (sv a)) true ((gf (sv a s) id).getD j 0)≥0:=h;exact absurd (QW (p:=OV (l.flatMap (sv a))) (l:=gf (sv a s) id) (i:=j) (by omega) (by rw[<-getD_eq (d:=0) (by omega)];exact decide_eq_true h9)) (by rw[wi,ht];decide))|(show Gh _ _ _ _ _;refine Gh.Eg 12 (.ro 1 ((gf (sv a (l.getD i 0)) id).map eI)) rfl (Gh.go ?_))|(show Gh _ _ _ _ _;have h9:some v=jz a id l:=r5 (by omega) E7;rw[NU]at h9;obtain rfl:s=v:=(Option.some.inj h9.symm);have ZY:=FO (by omega) E7;subst ZY;refine Gh.go ?_)|(show Gh _ _ _ _ _;refine Gh.go ?_)
  |refine aR ?_|(show Index _ _ _;first|(refine Index.mk _ (aN (d:=0) (i:=i) (l:=l) (by omega)) ?_)|(refine Index.mk _ (aN (d:=ck) (i:=(l.getD i 0).toNat) (by omega)) ?_)|(refine Index.mk _ (Ea (h:known (sv a (l.getD i 0)) id)) ?_)|(refine Index.mk _ (aN (d:=0) (i:=j) (l:=gf (sv a s) id) (by omega)) ?_)|fail)
  |refine nB ?_
  |apply jY.go|(show bh _ _;refine bh.mk (by first|((simp only[aa,aq,List.length_drop,maxLen];constructor<;>omega))|(exact Ed (h:known (sv a (l.getD i 0)) id))|fail) ?_)
  |refine nO ?_)
 all_goals first|rfl|trivial
end
end
end
end
section
variable{a:aB}(hG:GB a)
include hG
def MX(a b:aB):Prop:=∀y∈fC b,y∈fC a\/ ∀x∈fC a,Alike x y
omit hG in
theorem fh:MX a a:=fun _ h=> .inl h
omit hG in
theorem sD{i:Int}{s:bj}(hs:∀y∈s.notes,y∈fC a\/ ∀x∈fC a,Alike x y):MX a (jE a i s):=fun y hy=>by
 rcases yT hy with h1|h1
 ·exact .inl h1
 ·exact hs y h1
omit hG in
theorem wb{i:Int}(hi:bW a i=true):∀y∈(sA a i).notes,y∈fC a:=fun _ hy=>dd.2 (.inl ⟨_,jD hi,hy⟩)
omit hG in
theorem Fw{b:aB}(h:MX a b)(i:Int):MX a (fv b i).2:=by
 unfold fv;split
 ·exact h
 ·intro y hy;refine h y ?_;rcases dd.1 hy with⟨s,hs,h1⟩|⟨p,hp,rfl⟩
  ·exact dd.2 (.inl ⟨s,hs,h1⟩)
  ·rcases ao.1 hp with hp|hp
   ·exact dd.2 (.inr ⟨p,List.mem_of_mem_take hp,rfl⟩)
   ·exact dd.2 (.inr ⟨p,List.mem_of_mem_drop hp,rfl⟩)
theorem Gj{i:Int}(hi:0≤i):MX a (dg a i).2:=by
 unfold dg;split
 ·exact fh
 ·rename_i h1;have hp:iJ a i∈a.aL:=by
   show a.aL.getD i.toNat lF∈_;rw[getD_eq (by omega)];exact ag _
  split
  ·exact fh
  ·split
   ·exact fh
   ·refine sD fun y hy=>?_
    rcases ao.1 hy with hy|hy
    ·exact .inl (wb (hG.place hp) y hy)
    ·obtain rfl:=List.mem_singleton.1 hy;exact .inl (dd.2 (.inr ⟨_,hp,rfl⟩))
theorem SP{e:bH}(he:cK a.sig.aK a.sig.aF e=true):MX a (lj a e).2:=by
 have hr:(0≤e.a)/\0≤e.c:=by
  simp only[cK,ab]at he;have h1:=bQ he.2.1;have h2:=bQ he.2.2.2.1;omega
 unfold lj;split
 ·unfold fV;split
  ·exact Fw (Gj hG hr.1) _
  ·exact fh
 split
 ·exact Gj hG hr.1
 split
 ·exact Fw fh _
 split
 ·exact fh
 rename_i hp;have hp:bW a e.a=true:=by simpa using hp
 split
 ·unfold fq;split
  ·exact fh
  split
  ·exact fh
  split
  ·exact fh
  ·rename_i h1 h2 h3;simp only[Bool.or_eq_true,Bool.not_eq_true',decide_eq_true_eq,not_or,Bool.not_eq_false,Bool.not_eq_true]at h1 h3;have wi:bf (fC a) false (kY a e.a)<0:=by
        have h9:=h3.2.2;unfold oY at h9;have:=of_decide_eq_false h9;omega
   refine sD fun y hy=>?_
   rcases ao.1 hy with hy|hy
   ·exact .inl (wb hp y hy)
   ·obtain rfl:=List.mem_singleton.1 hy;exact .inr fun x hx e1 h2 _=>absurd e1 (yO wi x hx h2)
 split
 ·unfold cT;split
  ·exact fh
  split
  ·exact fh
  split
  ·exact fh
  ·refine sD fun y hy=>?_
   rcases ao.1 hy with hy|hy
   ·exact .inl (wb hp y hy)
   ·obtain rfl:=List.mem_singleton.1 hy;exact .inr fun x _ _ _ h3=>by cases h3
 split
 ·unfold dR;split
  ·exact fh
  split
  ·exact fh
  split
  ·exact fh
  ·rename_i h1 h2 h3;intro y hy;rcases dd.1 hy with⟨s,hs,h4⟩|⟨p,hq,rfl⟩
   ·exact .inl (dd.2 (.inl ⟨s,hs,h4⟩))
   ·rcases ao.1 hq with hq|hq
    ·exact .inl (dd.2 (.inr ⟨p,hq,rfl⟩))
    ·obtain rfl:=List.mem_singleton.1 hq;refine .inl (wb hp _ ?_);simp only[Bool.or_eq_true,decide_eq_true_eq,not_or]at h1;show(sA a e.a).notes.getD e.c.toNat n0∈_;rw[getD_eq (by omega)];exact ag _
 ·have hs:∀y∈(sA a e.a).notes,y∈fC a\/ ∀x∈fC a,Alike x y:=fun y hy=> .inl (wb hp y hy)
  unfold jf;split
  ·exact fh
  split
  ·exact sD hs
  split
  ·exact sD fun y hy=>hs y (List.mem_of_mem_take hy)
  ·exact sD hs
theorem Ms{e:bH}(he:cK a.sig.aK a.sig.aF e=true):∀x∈fC a,∀y∈fC (lj a e).2,Alike x y:=fun x hx y hy=>
 (SP hG he y hy).elim (fun h=>hG.W6 x hx y h) fun h=>h x hx
end
theorem AQ{l:List aT}{x:Int}(h:known l x):er l x∈l/\(er l x).bT=false/\(er l x).id=x:=by
 obtain⟨hi,hp⟩:=vo (p:=ef false x) (l:=l) h;have e:er l x=l[(j1 (ef false x) l).toNat]:=getD_eq hi;rw[e];have h2:((l[(j1 (ef false x) l).toNat]).bT==false&&(l[(j1 (ef false x) l).toNat]).id==x)=true\/True:= .inr trivial;refine⟨ag _,?_,?_⟩<;>simp_all[ef]
theorem Nn{L0 L:List aT}(h0:VN L0)(hL:VN L)(ha:∀x∈L0,∀y∈L,Alike x y){x z:Int}(h:xB L0 x z):known L0 x->known L x->xB L x z:=by
 induction h with
 |refl x=>exact fun _ _=> .refl _
 | @head x y z hy _ ih=>
   intro k0 k;have n0:=AQ k0;have n1:=AQ k;have e:fe L0 x=fe L x:=congrArg dS.bI (ha _ n0.1 _ n1.1 (n0.2.2.trans n1.2.2.symm) n0.2.1 n1.2.1);exact .head (e▸hy) (ih (h0.bI _ k0 _ hy).1 (hL.bI _ k _ (e▸hy)).1)
theorem EV:∀(n:Nat) (p q:Nat->Bool),n<(fF n p).length+(fF n q).length-> ∃i,i<n/\p i=true/\q i=true
 |0,_,_,h=>absurd h (by simp[fF])
 |n+1,p,q,h=>by
  cases hp:p n with
  |false=>
   rw[oK hp]at h;cases hq:q n with
   |false=>
    rw[oK hq]at h;obtain⟨i,h1,h2⟩:=EV n p q (by omega);exact⟨i,by omega,h2⟩
   |true=>
    rw[pq hq,ai,List.length_singleton]at h;obtain⟨i,h1,h2⟩:=EV n p q (by omega);exact⟨i,by omega,h2⟩
  |true=>
   rw[pq hp,ai,List.length_singleton]at h;cases hq:q n with
   |true=>exact⟨n,by omega,hp,hq⟩
   |false=>
    rw[oK hq]at h;obtain⟨i,h1,h2⟩:=EV n p q (by omega);exact⟨i,by omega,h2⟩
noncomputable def Hp(a:aB)(id:Int)(l:List Int):b7 × Int:=
 if 2*(l.length:Int)≤a.az.length then(zQ,4)
 else match jz a id l with
  |none=>(zQ,6)
  |some s=>if pO a l (sv a s) id=true then(zQ,8)else(jK (er (sv a s) id).entry,0)
theorem Wh{l:List Int}(h:l.Pairwise (· < ·)):Jq l=true:=by
 unfold Jq;rw[aj];intro i hi;rw[List.mem_range]at hi;by_cases h0:i=0
 ·simp[h0]
 ·rw[List.pairwise_iff_getElem]at h;have:=h (i-1) i (by omega) hi (by omega);rw[Bool.or_eq_true];right;rw[getD_eq hi,getD_eq (by omega)];exact decide_eq_true this
theorem CK(q:b7)(c:Int):ld (P8 q c):=by simp[ld,xE,jc,xQ,mh]
def E6(a:aB)(p:Nat->Bool)(i:Nat):Bool:=(a.az.getD i ck).up&&p i
section
variable{a:aB}(hG:GB a)(hS:Small a)
include hG hS
theorem FQ{id:Int}(h4:ee 0 99 id=true)(p:Nat->Bool):
 aE prog 29 [.a 4 (aW a),I id, .c (.ro 1 ((fF a.az.length (E6 a p)).map eI))] [] (P8 (Hp a id (fF a.az.length (E6 a p))).1 (Hp a id (fF a.az.length (E6 a p))).2):=by
 have h5:=bQ hG.n5;have hl:bS a≤1048576:=by have:=lQ hG hS;omega
 have hg:=DZ hG;have h:=Wh (DT a.az.length (E6 a p));have hlen:=jI a.az.length (E6 a p);have h2:(fF a.az.length (E6 a p)).all (ee 0 ((a.az.length:Int)-1))=true:=by
  rw[aj];intro x hx;obtain⟨i,h1,_,rfl⟩:=px.1 hx;exact eL (by omega) (by omega)
 have hu:(fF a.az.length (E6 a p)).all (Mi a)=true:=by
  rw[aj];intro x hx;obtain⟨i,h1,h3,rfl⟩:=px.1 hx;unfold E6 at h3;rw[ab]at h3;exact h3.1
 generalize fF a.az.length (E6 a p)=l at*;unfold Hp;by_cases h6:2*(l.length:Int)≤a.az.length
 ·rw[if_pos h6];exact aE.zero (YF a id l hl hg h h2 h4 (by omega) hu h6)
 ·rw[if_neg h6];cases NU:jz a id l with
  |none=>exact aE.zero (Zh a id l hl hg h h2 h4 (by omega) hu h6 NU)
  |some s=>
   show aE _ _ _ _ (P8 (if pO a l (sv a s) id=true then(zQ,8)else(jK (er (sv a s) id).entry,0)).1 (if pO a l (sv a s) id=true then(zQ,8)else(jK (er (sv a s) id).entry,0)).2);by_cases ht:pO a l (sv a s) id=true
   ·rw[if_pos ht];exact aE.zero (Xn a id l hl hg h h2 h4 (by omega) hu h6 s NU ht)
   ·rw[if_neg ht];exact YG a id l hl hg h h2 h4 (by omega) hu h6 s NU (by simpa using ht)
end
theorem XK(a:aB)(s:Int):sv a s=(a.az.getD s.toNat ck).notes.take (a.az.getD s.toNat ck).saved.toNat:=rfl
theorem Yz{a:aB}(hG:GB a){s:Int}(h:0≤s/\s.toNat<a.az.length):VN (sv a s)/\ ∀x∈sv a s,x∈fC a:=by
 have hs:=hG.srv (a.az.getD s.toNat ck) (by rw[getD_eq h.2];exact ag _);rw[XK];exact⟨.of (Ax hs.lH _),fun x hx=>dd.2 (.inl ⟨_,by rw[getD_eq h.2];exact ag _,List.mem_of_mem_take hx⟩)⟩
theorem R4{A Z:aB}{i:Nat}(h:l7 (A.az.getD i ck) (Z.az.getD i ck)):∀x∈sav (A.az.getD i ck),x∈sv Z i:=fun x hx=>by
 have h1:x∈(A.az.getD i ck).notes.take (A.az.getD i ck).saved.toNat:=hx;rw[h.pre]at h1;show x∈(Z.az.getD i ck).notes.take (Z.az.getD i ck).saved.toNat;have h2:(Z.az.getD i ck).notes.take (A.az.getD i ck).saved.toNat=((Z.az.getD i ck).notes.take (Z.az.getD i ck).saved.toNat).take (A.az.getD i ck).saved.toNat:=by
  rw[List.take_take,Nat.min_eq_left (by have:=h.sav;omega)]
 rw[h2]at h1;exact List.mem_of_mem_take h1
theorem FR{A Z:aB}(hA:GB A)(hZ:GB Z)(zp:∀x∈fC A,∀y∈fC Z,Alike x y)(hn:Z.az.length=A.az.length)(hk:∀i,i<A.az.length->l7 (A.az.getD i ck) (Z.az.getD i ck))
 {w id:Int}(h0:known (rP A 0) id)(hw:w∈gf (rP A 0) id)(hm:(A.az.length:Int)<2*((fF A.az.length (jG A true w)).length:Int))(p:Nat->Bool):(Hp Z id (fF Z.az.length p)).2≠0:=by
 intro h;have h5:=bQ hA.n5;have Fa:=hA.srv (A.az.getD 0 ck) (by rw[getD_eq (by omega)];exact ag _);have wj:VN (rP A 0):= .of Fa.lH;have hr:=(pJ wj h0).1 hw;have Xf:=wj.range _ _ (hr.known wj h0).1;unfold Hp at h;split at h
 ·exact absurd (show(4:Int)=0 from h) (by decide)
 rename_i h6;split at h
 ·exact absurd (show(6:Int)=0 from h) (by decide)
 rename_i s hs;split at h
 ·exact absurd (show(8:Int)=0 from h) (by decide)
 rename_i ht;apply ht;have hls:=tO hs;obtain⟨j,hj,_,hjs⟩:=px.1 hls.1;have hvL:=Yz hZ (s:=s) (by omega);obtain⟨i,hi,R5,UC⟩:=EV A.az.length (jG A true w) p (by rw[hn]at h6;omega);unfold jG at R5;have U9:=lX.2 (of_decide_eq_true R5);unfold jZ at U9;obtain⟨y,hy,hyw⟩:=List.mem_map.1 U9;rw[List.mem_filter]at hy;have hyr:y.bT=true:=by simpa using hy.2
 unfold pO;rw[List.any_eq_true];refine⟨(i:Int),px.2 ⟨i,by omega,UC,rfl⟩,?_⟩;rw[List.any_eq_true];refine⟨y,R4 (hk i hi) y hy.1,?_⟩;unfold RQ;rw[hyr,hyw,Bool.true_and,Aa hvL.1 hls.2];rw[show((w.toNat:Nat):Int)=w by omega];refine oZ (Nn wj hvL.1 (fun x hx y hy=>zp x (dd.2 (.inl ⟨_,?_,hx⟩)) y (hvL.2 y hy)) hr h0 hls.2);rw[getD_eq (show(0:Int).toNat<A.az.length by omega)];exact ag _
theorem q7(l:List Int):aS prog 24 [.c (.ro 1 (l.map eI)), .c (.ro 1 (l.map eI))] (B true):=by
 refine cF func24 (h:=?_)
 repeat'((conv=>whnf);first
  |(apply bP.mk;first|(rfl;done)|skip)|(show aZ 4 _ _ _ _ _ _;refine lp (Nat) [0,1] (fun i=>[(5,I i)]) (fun i=>i≤l.length) (fun i=>l.length-i) 0 (by exact ah _) (fun i ha=>?_))
  |refine nx (i+1:Nat) (by(show i+1≤_;omega))
  |(apply Fact.mk;intro hL;try simp only[aa,maxLen]at hL)
  |((apply bX;constructor)<;>intro h<;>(try simp only[aa]at h)<;>(try first|omega|contradiction))
  |refine aR ?_|(show Index _ _ _;first|(refine Index.mk _ (aN (l:=l) (d:=0) (i:=i) (by omega)) ?_)|fail)
  |refine nB ?_
  |refine nO ?_)
 all_goals first|rfl|trivial
theorem Pc{l:List Int}{x:Int}{i:Nat}(hi:i<l.length)(h:x∉l.take i)(h2:¬l.getD i 0=x):x∉l.take (i+1):=by
 rw[List.take_succ_eq_append_getElem hi,ao,not_or];refine⟨h,fun h3=>h2 ?_⟩;rw[getD_eq hi];exact(List.mem_singleton.1 h3).symm
theorem GK(l:List Int)(x:Int):aS prog 28 [.c (.ro 1 (l.map eI)),I x] (B (decide (x∈l))):=by
 refine cF func28 (h:=?_)
 repeat'((conv=>whnf);first
  |(apply bP.mk;first|((have hi:i<l.length:=(by omega);have hm:x∈l:=h▸(getD_eq (d:=0) hi▸ag hi);rw[decide_eq_true hm];rfl);done)|((have hm:x∉l:=(by have h9:=ha.2;rwa[ar (by omega)]at h9);rw[decide_eq_false hm];rfl);done)|skip)|(show aZ 2 _ _ _ _ _ _;refine lp (Nat) [0,1] (fun i=>[(5,I i)]) (fun i=>i≤l.length/\x∉l.take i) (fun i=>l.length-i) 0 (by exact⟨ah _,by simp⟩) (fun i ha=>?_))
  |refine nx (i+1:Nat) (by exact⟨(by show i+1≤_;omega),Pc (by omega) ha.2 h⟩)
  |(apply Fact.mk;intro hL;try simp only[aa,maxLen]at hL)
  |((apply bX;constructor)<;>intro h<;>(try simp only[aa]at h)<;>(try first|omega|contradiction))
  |refine aR ?_|(show Index _ _ _;first|(refine Index.mk _ (aN (l:=l) (d:=0) (i:=i) (by omega)) ?_)|fail)
  |refine nO ?_)
 all_goals first|rfl|trivial
def BG(b:Int)(i:Nat):Bool:=decide (IntKind.i64.wrap ((BitVec.ofInt 64 (b.fdiv (2^(min i 64))) &&& BitVec.ofInt 64 1).toNat)=1)
theorem Ol{n:Nat}(h:n<5):IntKind.u64.wrap (n:Int)=n:=by
 simp only[IntKind.wrap,IntKind.bits,IntKind.signed,Bool.false_and];have:(n:Int) % 2^64=n:=by omega
 simp only[this];simp
theorem KX(a:aB)(hn:a.az.length≤5)(b:Int):aE prog 30 [.a 4 (aW a),I b] [] (.c (.ows 2 1 ((fF a.az.length (E6 a (BG b))).map eI))):=by
 refine cX func30 (h:=?_)
 repeat'((conv=>whnf);first
  |refine aI.mk ?_ ?_|(show aZ 3 _ _ _ _ _ _;refine qJ (Nat × List (List CV)) [1,2] (fun⟨i,R⟩=>[(5, .lw 2),(6,I (i:Nat))]) (fun⟨i,R⟩=>[(2, .row none 2 1 R)]) (fun⟨i,R⟩=>i≤a.az.length/\R=(fF i (E6 a (BG b))).map eI) (fun⟨i,R⟩=>a.az.length-i) (0,[]) (by exact⟨ah _,rfl⟩) (fun A ha=>?_);obtain⟨i,R⟩:=A;have ha:i≤a.az.length/\R=(fF i (E6 a (BG b))).map eI:=ha;have YN:R.length≤5:=(by have h9:=jI i (E6 a (BG b));rw[ha.2,aa];omega))
  |refine nx ((i+1,R++[eI (i:Nat)]):Nat × List (List CV)) (by exact⟨(by show i+1≤_;omega),(by rw[pq (by unfold E6 BG;rw[‹(a.az.getD i ck).up=true›];exact decide_eq_true h),au,<-ha.2];rfl)⟩)
  |refine nx ((i+1,R):Nat × List (List CV)) (by exact⟨(by show i+1≤_;omega),(by rw[oK (by unfold E6 BG;rw[‹(a.az.getD i ck).up=true›];exact decide_eq_false h),<-ha.2])⟩)
  |refine nx ((i+1,R):Nat × List (List CV)) (by exact⟨(by show i+1≤_;omega),(by rw[oK (by unfold E6;rw[‹(a.az.getD i ck).up=false›];rfl),<-ha.2])⟩)
  |(apply Fact.mk;intro hL;try simp only[aa,maxLen]at hL)
  |((apply bX;constructor)<;>intro h<;>(try simp only[aa]at h)<;>(try first|omega|contradiction))|(show Arith .u64 _ _;refine Arith.fit (Ol (by omega)) ?_)
  |refine aR ?_|(show Index _ _ _;first|(refine Index.mk _ (aN (l:=a.az) (d:=ck) (i:=i) (by omega)) ?_)|fail)|(show bh _ _;refine bh.mk (by first|((simp only[List.length_cons,List.length_nil,maxLen];first|omega|(constructor<;>omega)))|fail) ?_)
  |refine nO ?_)
 all_goals first|rfl|trivial|((have h9:=ha.2);rw[show i=a.az.length by omega]at h9;rw[h9])
theorem Pp{a:aB}(hG:GB a){s id:Int}(hs:0≤s/\s≤(a.az.length:Int)-1)(hi:0≤id/\id≤99):sW a s id=0:=by
 unfold sW;have h1:bW a s=true:=eL hs.1 hs.2;rw[DZ hG,h1,eL hi.1 hi.2];rfl
theorem DV{l:List aT}{t a:Int}(hg:cS t a l=true){r:Bool}{i:Nat}(hi:i<(iz (jZ l r)).length):0≤(iz (jZ l r)).getD i 0/\(iz (jZ l r)).getD i 0≤99/\0≤bf l r ((iz (jZ l r)).getD i 0):=by
 rw[getD_eq hi];have hm:(iz (jZ l r))[i]∈jZ l r:=(uf _).mem_iff.1 (ag hi);have h1:=pB hg r _ hm;exact⟨h1.1,h1.2,lX.1 hm⟩
theorem yw(code more:List UInt8):aS prog 5 [.c (.ro 1 (code.map Nj)), .c (.ro 1 (more.map Nj))] (B true):=by
 have l1:=Fh code;have l2:=Fh more;by_cases hb:4096<code.length
 ·rw[decide_eq_true hb]at l1;refine cF func5 (h:=?_)
  repeat'((conv=>whnf);first
   |apply bP.mk
   |((apply bX;constructor)<;>intro h<;>(try simp only[]at h)<;>(try first|omega|contradiction))|(show ay _ 7 _ _ _ _;refine cP rfl (l1) ?_))
  all_goals first|rfl|trivial
 rw[decide_eq_false hb]at l1;by_cases nN:4096<more.length
 ·rw[decide_eq_true nN]at l2;refine cF func5 (h:=?_)
  repeat'((conv=>whnf);first
   |apply bP.mk
   |((apply bX;constructor)<;>intro h<;>(try simp only[]at h)<;>(try first|omega|contradiction))|(show ay _ 7 _ _ _ _;refine cP rfl (l1) ?_)|(show ay _ 7 _ _ _ _;refine cP rfl (l2) ?_))
  all_goals first|rfl|trivial
 rw[decide_eq_false nN]at l2;have a1:=DS code (N:=0) (by omega) (LB code (by omega)) (f:=5) (by omega);have a2:∀A:aB,GB A->gW prog 9 [.c (.ro 1 (more.map Nj)), .a 4 (aW A),I 5] (fun x:bH=>yy A.sig.aK A.sig.aF x) (fun _=>[none,none,none]) (fun x=> .a 9 (cj x)):=fun A hG=>
  (JK hG more (N:=0) (by omega) (LB more (by omega)) (f:=5) (by omega)).soft fun x=> .v (.a (Tz x))
 have sf:∀(A:aB) (e:bH),GB A->Small A->yy A.sig.aK A.sig.aF e-> ∃(B:aB) (c:Int),
  aE prog 11 [.a 4 (aW A), .a 9 (cj e)] [] (.tup [.a 4 (aW B),I c])/\
  (c=0->GB B/\Small B/\B.az.length=A.az.length/\(∀i,i<A.az.length->l7 (A.az.getD i ck) (B.az.getD i ck))/\ ∀x∈fC A,∀y∈fC B,Alike x y):=fun A e h1 h2 h3=>by
  obtain⟨B,c,e1,_,h5,h6⟩:=Kg h1 h2 h3;refine⟨B,c,h5,fun hc=>?_⟩;obtain⟨g1,g2,g3,g4⟩:=h6 hc;refine⟨g1,g2,g3,g4,?_⟩;subst hc;rw[PZ h1 h3.lH]at e1;unfold lq at e1;split at e1
  ·rw[show B=(lj A e).2 by rw[e1]];exact Ms h1 h3.lH
  ·rename_i h9;injection e1 with e1 _
   exact absurd e1 h9
 have fc:∀A:aB,GB A->Small A-> ∃(u w:List Int),(∀i,i<u.length->0≤u.getD i 0/\u.getD i 0≤99/\known (rP A 0) (u.getD i 0))/\(∀i,i<w.length->0≤w.getD i 0/\w.getD i 0≤99)/\(u.length≤100/\w.length≤100)/\
  aE prog 20 [qH A,I 0] [] (uV u 0)/\aE prog 22 [qH A,I 0] [] (uV u 0)/\aE prog 21 [qH A,I 0] [] (uV w 0)/\aE prog 23 [qH A,I 0] [] (uV w 0):=fun A h1 h2=>by
  have hl:bS A≤1048576:=by have:=lQ h1 h2;omega
  have h5:=bQ h1.n5;have hs:=h1.srv (A.az.getD 0 ck) (by rw[getD_eq (by omega)];exact ag _);have hq:=Pp h1 (s:=0) (id:=0) (by omega) (by omega);have hb:∀r,(iz (jZ (A.az.getD 0 ck).notes r)).length≤100:=fun r=>by
   have:=LG (A.az.getD 0 ck).notes r;rw[sj];have:=hs.IG;omega
  exact⟨_,_,fun i hi=>DV hs.lH hi,fun i hi=>⟨(DV hs.lH hi).1,(DV hs.lH hi).2.1⟩,⟨hb _,hb _⟩,HJ A 0 hl hq,yr A 0 hl hq,Bx A 0 hl hq,vg A 0 hl hq⟩
 have c3:∀A:aB,GB A->Small A-> ∀w:Int,0≤w/\w≤99->aE prog 25 [qH A,B true,I w] [] (uV (fF A.az.length (jG A true w)) 0)/\aE prog 26 [qH A,B true,I w] [] (uV (fF A.az.length (jG A true w)) 0):=fun A h1 h2 w hw=>by
  have hl:bS A≤1048576:=by have:=lQ h1 h2;omega
  have h5:=bQ h1.n5;have hq:=Pp h1 (s:=0) (id:=w) (by omega) hw;exact⟨IK A true w hl hq,Ar A true w hl hq⟩
 have c4:∀A:aB,GB A->Small A-> ∀id:Int,0≤id/\id≤99->known (rP A 0) id->aE prog 27 [qH A,I 0,I id] [] (uV (gf (rP A 0) id) 0)/\id∈gf (rP A 0) id:=fun A h1 h2 id hi hk=>by
  have hl:bS A≤1048576:=by have:=lQ h1 h2;omega
  have h5:=bQ h1.n5;have hq:=Pp h1 (s:=0) (id:=id) (by omega) hi;exact⟨DI A 0 id hl hq hk,(pJ (QL hq).1 hk).2 (.refl _)⟩
 refine cF func5 (h:=?_)
 repeat'((conv=>whnf);first
  |(apply bP.mk;first|(rfl;done)|skip)|(show aZ 15 _ _ _ _ _ _;refine lp (Nat) [5,7,13,15] (fun i=>[(17,I i)]) (fun i=>i≤w.length) (fun i=>w.length-i) 0 (by exact ah _) (fun i ha=>?_))|(show aZ 23 _ _ _ _ _ _;refine lp (Nat) [5,7,13,15,17] (fun k=>[(22,I k)]) (fun k=>k≤u.length) (fun k=>u.length-k) 0 (by exact ah _) (fun k ha=>?_))|(show aZ 30 _ _ _ _ _ _;refine lp (Nat) [5,7,13,15,17,22] (fun b=>[(25,I b)]) (fun b=>1≤b/\b≤32) (fun b=>32-b) 1 (by omega) (fun b ha=>?_))
  |refine nx (i+1:Nat) (by(show i+1≤_;omega))
  |refine nx (k+1:Nat) (by(show k+1≤_;omega))
  |refine nx (b+1:Nat) (by(show 1≤b+1/\b+1≤32;omega))
  |(apply Fact.mk;intro hL;try simp only[aa,maxLen]at hL)
  |((apply bX;constructor)<;>intro h<;>(try simp only[aa]at h)<;>(try first|omega|contradiction))|(show ay _ 7 _ _ _ _;refine cP rfl (l1) ?_)|(show ay _ 7 _ _ _ _;refine cP rfl (l2) ?_)|(show ay _ 11 _ _ _ _;refine cG [] rfl (hs2) ?_)|(show ay _ 20 _ _ _ _;refine cG [] rfl (q1) ?_)|(show ay _ 22 _ _ _ _;refine cG [] rfl (q2) ?_)|(show ay _ 21 _ _ _ _;refine cG [] rfl (q3) ?_)|(show ay _ 23 _ _ _ _;refine cG [] rfl (q4) ?_)|(show ay _ 24 _ _ _ _;refine cP rfl (q7 u) ?_)|(show ay _ 24 _ _ _ _;refine cP rfl (q7 w) ?_)|(show ay _ 24 _ _ _ _;refine cP rfl (q7 (fF A.az.length (jG A true (w.getD i 0)))) ?_)|(show ay _ 25 _ _ _ _;refine cG [] rfl ((c3 A hA.1 hA.2.1 (w.getD i 0) (hw i (by omega))).1) ?_)|(show ay _ 26 _ _ _ _;refine cG [] rfl ((c3 A hA.1 hA.2.1 (w.getD i 0) (hw i (by omega))).2) ?_)|(show ay _ 27 _ _ _ _;refine cG [] rfl ((c4 A hA.1 hA.2.1 (u.getD k 0) ⟨(hu k (by omega)).1,(hu k (by omega)).2.1⟩ (hu k (by omega)).2.2).1) ?_)|(show ay _ 28 _ _ _ _;refine cP rfl (GK (gf (rP A 0) (u.getD k 0)) (u.getD k 0)) ?_)|(show ay _ 28 _ _ _ _;refine cP rfl (GK (gf (rP A 0) (u.getD k 0)) (w.getD i 0)) ?_)|(show ay _ 30 _ _ _ _;refine cG [] rfl (KX A (by omega) b) ?_)|(show ay _ 30 _ _ _ _;refine cG [] rfl (KX X (by have:=(hX ‹_›).2.2.1;omega) b) ?_)|(show ay _ 8 _ _ _ _;refine ay.ex rfl [false,false] _ _ _ _ rfl a1 rfl rfl (fun A hA=>?_))|(show ay _ 9 _ _ _ _;refine ay.ex rfl [false,false,false] _ _ _ _ rfl (a2 A hA.1) rfl rfl (fun e hE=>?_);(obtain⟨X,c,hs2,hX⟩:=sf A e hA.1 hA.2.1 hE);(obtain⟨u,w,hu,hw,hul,q1,q2,q3,q4⟩:=fc A hA.1 hA.2.1);have h5:=bQ hA.1.n5)|(show ay _ 29 _ _ _ _;refine ay.own _ _ rfl (FQ hA.1 hA.2.1 (id:=u.getD k 0) (eL (hu k (by omega)).1 (hu k (by omega)).2.1) (BG b)) (CK _ _) _ rfl ?_)|(show ay _ 29 _ _ _ _;refine ay.own _ _ rfl (FQ (hX ‹_›).1 (hX ‹_›).2.1 (id:=u.getD k 0) (eL (hu k (by omega)).1 (hu k (by omega)).2.1) (BG b)) (CK _ _) _ rfl ?_)|(show Arith _ _ _;refine Arith.fit (bu (by((have:=jI A.az.length (jG A true (w.getD i 0)));(try simp only[aa]);omega)) (by((have:=jI A.az.length (jG A true (w.getD i 0)));(try simp only[aa]);omega))) ?_)|(show Index _ _ _;first|(refine Index.mk _ (aN (l:=w) (d:=0) (i:=i) (by omega)) ?_)|(refine Index.mk _ (aN (l:=u) (d:=0) (i:=k) (by omega)) ?_)|fail)
  |refine nB ?_
  |refine nO ?_)
 all_goals first|rfl|trivial|(have hq:=(c4 A hA.1 hA.2.1 (u.getD k 0) ⟨(hu k (by omega)).1,(hu k (by omega)).2.1⟩ (hu k (by omega)).2.2).2;exact absurd hq h)|(have hm:=‹w.getD i 0∈gf (rP A 0) (u.getD k 0)›;have hq:=FR hA.1 hA.1 (fun x hx y hy=>hA.1.W6 x hx y hy) rfl (fun i _=>l7.refl _) (hu k (by omega)).2.2 hm (by omega) (E6 A (BG b));exact absurd h hq)|(have hc:=hX ‹c=0›;have hm:=‹w.getD i 0∈gf (rP A 0) (u.getD k 0)›;have hq:=FR hA.1 hc.1 hc.2.2.2.2 hc.2.2.1 hc.2.2.2.1 (hu k (by omega)).2.2 hm (by omega) (E6 X (BG b));exact absurd h hq)
end Go.Proofs.YtgbggaddpbghfaaGreat
