/- Plain laws: an event that is made leaves a valid archive, in which each server still has what it had saved. No conditions. -/
import Derived.Test.YtgbggaddpbghfaaGreatKAG
namespace Go.Proofs.YtgbggaddpbghfaaGreat
open Go Go.KA Go.Proofs Go.Proofs.Tryz
set_option maxRecDepth 100000
set_option maxHeartbeats 16000000
structure GS(t c:Int)(s:bj):Prop where
 IG:s.notes.length≤20
 lo:0≤s.saved
 hi:s.saved≤(s.notes.length:Int)
 up:s.up=true\/s.saved=(s.notes.length:Int)
 nt:∀i,i<s.notes.length->gy t c s.notes i=true
theorem eL{x y z:Int}(h1:x≤z)(h2:z≤y):ee x y z=true:=by
 simp only[ee,ab,decide_eq_true_eq];omega
theorem YJ{t c:Int}{s:bj}(h:cO t c s=true):GS t c s:=by
 unfold cO at h;simp only[ab,Bool.or_eq_true,decide_eq_true_eq,beq_iff_eq]at h;obtain⟨h1,h2,h3,h4⟩:=h;have h2:=bQ h2;exact⟨by omega,h2.1,h2.2,h3,fun i hi=>FP h4 hi⟩
theorem R3{n:Nat}{p:Nat->Bool}(h:∀i,i<n->p i=true):nS n p=true:=by
 unfold nS;rw[aj];intro i hi;exact h i (by simpa using hi)
theorem YO{t c:Int}{s:bj}(h:GS t c s):cO t c s=true:=by
 have h1:=h.IG;have h2:=h.lo;have h3:=h.hi;unfold cO;simp only[ab,Bool.or_eq_true,decide_eq_true_eq,beq_iff_eq];exact⟨by omega,eL h2 h3,h.up,R3 h.nt⟩
theorem GA.srv{a:aB}(hg:GA a){i:Nat}(hi:i<a.az.length):GS a.sig.aK a.sig.aF (a.az.getD i ck):=by
 rw[getD_eq hi];exact YJ (aj.1 hg.2.2.2.1 _ (ag hi))
theorem lO{t c:Int}{l:List aT}{i:Nat}:gy t c l i=true↔cU t c (l.getD i n0)=true/\bf (l.take i) (l.getD i n0).bT (l.getD i n0).id<0/\iO (l.take i) (l.getD i n0).entry.bI=true:=by
 unfold gy;simp only[ab,decide_eq_true_eq]
theorem GS.add{t c:Int}{s:bj}(h:GS t c s)(hu:s.up=true)(hl:¬s.notes.length=20){n:aT}(h1:cU t c n=true)(h2:bf s.notes n.bT n.id<0)(h3:iO s.notes n.entry.bI=true):GS t c (mf s n):=by
 have a1:=h.IG;have a2:=h.lo;have a3:=h.hi;have hlen:(s.notes++[n]).length=s.notes.length+1:=by simp
 refine⟨?_,a2,?_, .inl hu,fun i hi=>?_⟩
 ·show(s.notes++[n]).length≤20;omega
 ·show s.saved≤((s.notes++[n]).length:Int);omega
 ·show gy t c (s.notes++[n]) i=true;have hi:i<(s.notes++[n]).length:=hi;by_cases e:i<s.notes.length
  ·have h4:=lO.1 (h.nt i e);rw[lO];have e1:(s.notes++[n]).getD i n0=s.notes.getD i n0:=by rw[List.getD_eq_getElem?_getD,List.getElem?_append_left e,<-List.getD_eq_getElem?_getD]
   have e2:(s.notes++[n]).take i=s.notes.take i:=List.take_append_of_le_length (by omega);rw[e1,e2];exact h4
  ·have e:i=s.notes.length:=by omega
   subst e;rw[lO];have e1:(s.notes++[n]).getD s.notes.length n0=n:=by rw[List.getD_eq_getElem?_getD,List.getElem?_append_right (aw _)];simp
   have e2:(s.notes++[n]).take s.notes.length=s.notes:=by rw[List.take_append_of_le_length (aw _)];exact ar (aw _)
   rw[e1,e2];exact⟨h1,h2,h3⟩
theorem GS.YL{t c:Int}{s:bj}(h:GS t c s):GS t c ⟨false,s.notes.take s.saved.toNat,s.saved⟩:=by
 have a1:=h.IG;have a2:=h.lo;have a3:=h.hi;have hl:(s.notes.take s.saved.toNat).length=s.saved.toNat:=by rw[aq];omega
 refine⟨?_,a2,?_, .inr ?_,fun i hi=>?_⟩
 ·show(s.notes.take s.saved.toNat).length≤20;omega
 ·show s.saved≤((s.notes.take s.saved.toNat).length:Int);omega
 ·show s.saved=((s.notes.take s.saved.toNat).length:Int);omega
 ·have hi:i<(s.notes.take s.saved.toNat).length:=hi;show gy t c (s.notes.take s.saved.toNat) i=true;have h4:=lO.1 (h.nt i (by omega));rw[lO];have e1:(s.notes.take s.saved.toNat).getD i n0=s.notes.getD i n0:=by rw[List.getD_eq_getElem?_getD,List.getElem?_take,if_pos (by omega),<-List.getD_eq_getElem?_getD]
  have e2:(s.notes.take s.saved.toNat).take i=s.notes.take i:=by rw[List.take_take,Nat.min_eq_left (by omega)]
  rw[e1,e2];exact h4
theorem NR{x y:aT}(h:Alike x y):Alike y x:=fun h1 h2 h3=>(h h1.symm h3 h2).symm
theorem FZ{l l':List aT}{n:aT}(h:eE l)(hn:∀y∈l,Alike n y)(hl:∀x∈l',x∈l\/x=n):eE l':=by
 intro x hx y hy;rcases hl x hx with hx|rfl
 ·rcases hl y hy with hy|rfl
  ·exact h x hx y hy
  ·exact NR (hn x hx)
 ·rcases hl y hy with hy|rfl
  ·exact hn y hy
  ·exact fun _ _ _=>rfl
theorem wT{l l':List aT}(h:eE l)(hl:∀x∈l',x∈l):eE l':=fun x hx y hy=>h x (hl x hx) y (hl y hy)
theorem G6{a:aB}{s:bj}(hs:s∈a.az){x:aT}(hx:x∈s.notes):x∈fC a:=
 List.mem_append_left _ (List.mem_flatMap.2 ⟨s,hs,hx⟩)
theorem Ae{a:aB}{p:c8}(hp:p∈a.aL):p.note∈fC a:=List.mem_append_right _ (List.mem_map.2 ⟨p,hp,rfl⟩)
theorem oq{a:aB}{i:Nat}(hi:i<a.az.length){x:aT}(hx:x∈(a.az.getD i ck).notes):x∈fC a:=by
 rw[getD_eq hi]at hx;exact G6 (ag hi) hx
theorem zw{a:aB}{i:Int}{s:bj}{x:aT}(hx:x∈fC (jE a i s)):x∈fC a\/x∈s.notes:=by
 rcases ao.1 hx with hx|hx
 ·obtain⟨q,hq,hx⟩:=List.mem_flatMap.1 hx;rcases List.mem_or_eq_of_mem_set hq with h|h
  ·exact .inl (G6 h hx)
  ·exact .inr (h▸hx)
 ·exact .inl (List.mem_append_right _ hx)
theorem GA.set{a:aB}(hg:GA a)(i:Int){s:bj}(hs:GS a.sig.aK a.sig.aF s)(hn:eE (fC (jE a i s))):GA (jE a i s):=by
 have hl:(a.az.set i.toNat s).length=a.az.length:=af;refine⟨hg.1,?_,hg.2.2.1,?_,?_,hn⟩
 ·show ee 1 5 ((a.az.set i.toNat s).length:Nat)=true;rw[hl];exact hg.2.1
 ·show(a.az.set i.toNat s).all (cO a.sig.aK a.sig.aF)=true;rw[aj];intro q hq;rcases List.mem_or_eq_of_mem_set hq with h|h
  ·exact aj.1 hg.2.2.2.1 q h
  ·rw[h];exact YO hs
 ·show a.aL.all (g8 a.sig.aK a.sig.aF ((a.az.set i.toNat s).length:Nat))=true;rw[hl];exact hg.2.2.2.2.1
theorem GA.y5{a:aB}(hg:GA a)(i:Nat)(hi:i<a.az.length){s:bj}(hs:GS a.sig.aK a.sig.aF s)(hn:∀x∈s.notes,x∈fC a):GA (jE a (i:Nat) s):=
 hg.set _ hs (wT hg.2.2.2.2.2 fun x hx=>(zw hx).elim id (hn x))
theorem Mz{l:List aT}{r:Bool}{id:Int}(h:bf l r id<0):∀x∈l,x.id=id->x.bT=r->False:=by
 intro x hx h1 h2;have:0≤bf l r id:=lZ.2 ⟨x,hx,by simp[ef,h1,h2]⟩;omega
theorem Tm{l:List aT}{r:Bool}{id:Int}(h:∀x∈l,x.id=id->x.bT=r->False):bf l r id<0:=by
 have h9:¬0≤bf l r id:=fun h0=>by
  obtain⟨x,hx,hp⟩:=lZ.1 h0;simp only[ef,ab,beq_iff_eq]at hp;exact h x hx hp.2 hp.1
 omega
theorem GA.drop{a:aB}(hg:GA a)(i:Int):GA (fv a i).2:=by
 unfold fv;split
 ·exact hg
 ·have jn:∀p∈a.aL.take i.toNat++a.aL.drop (i.toNat+1),p∈a.aL:=fun p hp=>by
   rcases ao.1 hp with hp|hp
   ·exact List.mem_of_mem_take hp
   ·exact List.mem_of_mem_drop hp
  have Ci:=hg.2.2.1;refine⟨hg.1,hg.2.1,?_,hg.2.2.2.1,?_,wT hg.2.2.2.2.2 fun x hx=>?_⟩
  ·show((a.aL.take i.toNat++a.aL.drop (i.toNat+1)).length:Int)≤12;rw[ai,aq,List.length_drop];omega
  ·show(a.aL.take i.toNat++a.aL.drop (i.toNat+1)).all _=true;rw[aj];exact fun p hp=>aj.1 hg.2.2.2.2.1 p (jn p hp)
  ·rcases ao.1 hx with hx|hx
   ·exact List.mem_append_left _ hx
   ·obtain⟨p,hp,rfl⟩:=List.mem_map.1 hx;exact Ae (jn p hp)
theorem U0{a:aB}(hg:GA a){i:Int}(h0:0≤i)(hi:¬(a.aL.length:Int)≤i):iJ a i∈a.aL/\cU a.sig.aK a.sig.aF (iJ a i).note=true/\0≤(iJ a i).mc/\(iJ a i).mc.toNat<a.az.length:=by
 have hl:i.toNat<a.aL.length:=by omega
 have hm:iJ a i∈a.aL:=by
  show a.aL.getD i.toNat lF∈_;rw[getD_eq hl];exact ag hl
 have h:=aj.1 hg.2.2.2.2.1 _ hm;unfold g8 at h;simp only[ab]at h;have h1:=bQ h.1;exact⟨hm,h.2,h1.1,by omega⟩
theorem GA.take{a:aB}(hg:GA a){i:Int}(h0:0≤i):GA (dg a i).2:=by
 unfold dg;split
 ·exact hg
 split
 ·exact hg
 split
 ·exact hg
 ·rename_i h1 h2 h3;obtain⟨hm,hgn,ht,eu⟩:=U0 hg h0 h1;have hw:nA a (iJ a i)=true:=by cases h:nA a (iJ a i)with|true=>rfl|false=>exact absurd h h2
  unfold nA at hw;simp only[ab,decide_eq_true_eq]at hw;obtain⟨hu,hs,hk⟩:=hw;have hS:GS a.sig.aK a.sig.aF (sA a (iJ a i).mc):=hg.srv eu;have:=hg.y5 (iJ a i).mc.toNat eu (hS.add hu h3 hgn hs hk) (fun x hx=>by
   rcases ao.1 hx with hx|hx
   ·exact oq eu hx
   ·rw[List.mem_singleton.1 hx];exact Ae hm)
  rwa[Int.toNat_of_nonneg ht]at this
theorem GA.step{a:aB}(hg:GA a){e:bH}(he:cK a.sig.aK a.sig.aF e=true):GA (lj a e).2:=by
 unfold cK at he;simp only[ab]at he;obtain⟨ek,ea,eb,ec,_,_,ev⟩:=he;have ea:=bQ ea;have eb:=bQ eb;unfold lj;split
 ·unfold fV;split
  ·exact(hg.take ea.1).drop _
  ·exact hg
 split
 ·exact hg.take ea.1
 split
 ·exact hg.drop _
 split
 ·exact hg
 have hp:bW a e.a=true:=by cases hb:bW a e.a with
  |true=>rfl
  |false=>contradiction
 have dV:e.a.toNat<a.az.length:=by have:=bQ hp;omega
 have hS:GS a.sig.aK a.sig.aF (sA a e.a):=hg.srv dV;have Rt:((e.a.toNat:Nat):Int)=e.a:=Int.toNat_of_nonneg ea.1;split
 ·rename_i RZ;rw[if_pos RZ]at ev;simp only[ab]at ev;unfold fq;split
  ·exact hg
  split
  ·exact hg
  split
  ·exact hg
  ·rename_i h1 h2 h3;simp only[Bool.or_eq_true,Bool.not_eq_true',decide_eq_true_eq,not_or,Bool.not_eq_false]at h1 h3;have pe:0≤kY a e.a:=by
        unfold kY;have:(0:Int)≤(a.az.length:Int)*(((sA a e.a).notes.countP (uc a.az.length e.a):Nat):Int):=Int.mul_nonneg (Int.natCast_nonneg _) (Int.natCast_nonneg _);omega
   have iU:∀x∈fC a,x.id=kY a e.a->x.bT=false->False:=Mz (by
        have:=h3.2.2;unfold oY at this;simp only[decide_eq_true_eq]at this;omega)
   refine hg.set _ (hS.add h1.1 h3.1 ?_ (Tm fun x hx=>iU x (oq dV hx)) h1.2) (FZ (n:=zi a e) hg.2.2.2.2.2 (fun y hy h1 _ h3=>absurd h3 fun h3=>iU y hy h1.symm h3) fun x hx=>?_)
   ·unfold cU;simp only[ab];refine⟨eL pe (by show kY a e.a≤99;omega),?_⟩;rw[if_neg (by show¬false=true;decide)];simp only[ab,beq_iff_eq];exact⟨rfl,ev.1⟩
   ·rcases zw hx with hx|hx
    ·exact .inl hx
    ·rcases ao.1 hx with hx|hx
     ·exact .inl (oq dV hx)
     ·exact .inr (List.mem_singleton.1 hx)
 split
 ·unfold cT;split
  ·exact hg
  split
  ·exact hg
  split
  ·exact hg
  ·rename_i h1 h2 h3;simp only[Bool.or_eq_true,Bool.not_eq_true',decide_eq_true_eq,not_or,Bool.not_eq_false]at h2;refine hg.set _ (hS.add h2.1 h3 ?_ (by show bf (sA a e.a).notes true e.b<0;omega) rfl) (FZ (n:=Bf e) hg.2.2.2.2.2 (fun y hy _ h2 _=>by cases h2) fun x hx=>?_)
   ·unfold cU;simp only[ab];exact⟨eL eb.1 (by show e.b≤99;omega),rfl⟩
   ·rcases zw hx with hx|hx
    ·exact .inl hx
    ·rcases ao.1 hx with hx|hx
     ·exact .inl (oq dV hx)
     ·exact .inr (List.mem_singleton.1 hx)
 split
 ·unfold dR;split
  ·exact hg
  split
  ·exact hg
  split
  ·exact hg
  ·rename_i h1 h2 h3;simp only[Bool.or_eq_true,Bool.not_eq_true',decide_eq_true_eq,not_or,Bool.not_eq_false]at h1;have hb:=bQ h1.1;have hcn:e.c.toNat<(sA a e.a).notes.length:=by have:=(bQ ec).1;omega
   have bw:(sA a e.a).notes.getD e.c.toNat n0∈(sA a e.a).notes:=by rw[getD_eq hcn];exact ag hcn
   have Ci:=hg.2.2.1;refine⟨hg.1,hg.2.1,?_,hg.2.2.2.1,?_,wT hg.2.2.2.2.2 fun x hx=>?_⟩
   ·show((a.aL++[_]).length:Int)≤12;rw[ai];simp only[List.length_singleton];omega
   ·show(a.aL++[_]).all _=true;rw[List.all_append,hg.2.2.2.2.1];simp only[Bool.true_and,List.all_cons,List.all_nil,Bool.and_true];unfold g8;simp only[ab];exact⟨eL hb.1 hb.2,(lO.1 (hS.nt _ hcn)).1⟩
   ·rcases ao.1 hx with hx|hx
    ·exact List.mem_append_left _ hx
    ·obtain⟨p,hp,rfl⟩:=List.mem_map.1 hx;rcases ao.1 hp with hp|hp
     ·exact Ae hp
     ·rw[List.mem_singleton.1 hp];exact oq dV bw
 unfold jf;split
 ·exact hg
 split
 ·have:=hg.y5 _ dV (s:=⟨(sA a e.a).up,(sA a e.a).notes,((sA a e.a).notes.length:Nat)⟩) ⟨hS.IG,Int.natCast_nonneg _,Int.le_refl _, .inr rfl,hS.nt⟩ fun x hx=>oq dV hx
  rwa[Rt]at this
 split
 ·have:=hg.y5 _ dV hS.YL fun x hx=>oq dV (List.mem_of_mem_take hx)
  rwa[Rt]at this
 ·have:=hg.y5 _ dV (s:=⟨true,(sA a e.a).notes,(sA a e.a).saved⟩) ⟨hS.IG,hS.lo,hS.hi, .inl rfl,hS.nt⟩ fun x hx=>oq dV hx
  rwa[Rt]at this
structure Still(s s':bj):Prop where
 sv:s.saved≤s'.saved
 nt:s'.notes.take s.saved.toNat=s.notes.take s.saved.toNat
theorem Still.refl(s:bj):Still s s:=⟨Int.le_refl _,rfl⟩
theorem Nv(s:bj):ki (fY s):=⟨trivial,jo tC s.notes,trivial,trivial⟩
theorem MY(p:c8):ki (eG p):=⟨trivial,tC p.note⟩
theorem Jf(a:aB):ki (gu a):=⟨trivial,trivial,jo Nv a.az,jo MY a.aL,trivial⟩
theorem xq(a:aB):ld (.a 4 (gu a)):=fun x hx=>pz.1 (Jf a) x hx
theorem BP(l:List bj):jy (l.map fY) (l.map cy):=jy.map (fun s=>by
 refine .same ?_;have h:gY [.own 51 7 (s.notes.map ey),J s.saved] [.ows 51 7 (dD (s.notes.map ey)),J s.saved]:= .ows (.same .nil);rw[cM AT]at h;exact h) l
theorem C9(o:Option Value)(l:List c8):iP (.aU o 89 8 (l.map eG)) (.row o 89 8 (l.map bN)):=by
 have h:iP (.aU o 89 8 (l.map eG)) (.row o 89 8 (dD (l.map eG))):= .row;rwa[cM ve]at h
abbrev zA:aB:=⟨⟨0,0⟩,[],[]⟩
def lq(a:aB)(e:bH):Int × aB:=if(lj a e).1=0 then lj a e else((lj a e).1,zA)
theorem aE.Q7{P:Program}{f:Nat}{args:List SV}{outs:List (Option (List CV))}{cs dn:List CV}{n:Nat}{c:Int}(h:aE P f args outs (.tup [.a n cs,I c]))(hc:pI cs dn):aE P f args outs (.tup [.a n dn,I c]):=by
 refine⟨h.1,fun w ok vs fs h1 h2 h3 h4=>(h.2 w ok vs fs h1 h2 h3 h4).mono ?_⟩;rintro e w' ⟨v,fr,fo,h5,h6,h7,h8,h9,Cz⟩;refine⟨v,fr,fo,h5,h6,h7,h8,?_,Cz⟩;cases h9 with
 |v h=>
  cases h with
  |v h=>
   cases h fun _=>none with
   |c h=>cases h
 |tup h=>
  cases h with
  |cons ha ht=>
   refine .tup (.cons ?_ ht);cases ha with
   |v h=>
    refine .v fun ρ=>?_
    cases h ρ with
    |c h=>cases h
    |a a1 a2=>first|exact .a (hc.len▸a1) (hc.den a2)|exact .a hc.len.symm (hc.den a2)|exact .a hc.len.symm (hc.den a1)
   |a hl h=>exact .a (hc.len▸hl) (hc.den h)
theorem Ov{P:Program}{f:Nat}{args:List SV}{outs:List (Option (List CV))}{c:Int}(h:aE P f args outs (.tup [.a 4 [J 0,J 0, .ows 47 3 [], .ows 89 8 []],I c])):aE P f args outs (.tup [.a 4 (gu zA),I c]):=
 aE.Q7 h (.same (.same (.up (.up .nil))))
theorem DM{P:Program}{f:Nat}{args:List SV}{outs:List (Option (List CV))}{c:Int}(h:aE P f args outs (.tup [.a 4 [J 0,J 0, .ows 47 3 [], .ows 89 8 []],I c])):aE P f args outs (.tup [.a 4 (cQ zA),I c]):=
 aE.Q7 h (.same (.same (.up (.same .nil))))
theorem A7(a:aB)(e:bH)(hw:WA a)(he:EA e)(Iz:1≤e.kind/\e.kind≤9):aE prog 41 [.c (.op (aW a)), .c (.rp 9 (cj e))] [some [.op (aW a)],none] (.tup [.a 4 (cQ (lq a e).2),I (lq a e).1]):=by
 have hc:=hw.ca;unfold lq;by_cases h0:(lj a e).1=0
 ·rw[if_pos h0];refine cX func41 (fun ew=>match ew with|2=>true|_=>false) (h:=?_)
  repeat'((conv=>whnf);first
   |refine aI.mk ?_ ?_
   |((apply bX;constructor)<;>intro h<;>(try simp only[aa]at h)<;>(try first|omega|contradiction))|(show ay _ 93 _ _ _ _;refine cG [true,false] rfl (GJ a e hw he Iz) ?_)|(show ay _ 68 _ _ _ _;refine ay.own _ _ rfl (xn a hc) (xq a) _ rfl ?_)|(show Gh _ _ _ _ _;refine Gh.soft 4 (b':= .aU none 47 3 (a.az.map cy)) (.aU (BP _)) (Gh.soft 5 (C9 _ _) (Gh.go ?_)))
   |apply jY.go)
  all_goals first|rfl|exact⟨rfl,trivial⟩|(exfalso;omega)|(rw[h0];rfl)|(exfalso;contradiction)
 ·rw[if_neg h0];refine DM ?_;refine cX func41 (fun ew=>match ew with|2=>true|_=>false) (h:=?_)
  repeat'((conv=>whnf);first
   |refine aI.mk ?_ ?_
   |((apply bX;constructor)<;>intro h<;>(try simp only[aa]at h)<;>(try first|omega|contradiction))|(show ay _ 93 _ _ _ _;refine cG [true,false] rfl (GJ a e hw he Iz) ?_)|(show ay _ 68 _ _ _ _;refine ay.own _ _ rfl (xn a hc) (xq a) _ rfl ?_)|(show Gh _ _ _ _ _;refine Gh.soft 4 (b':= .aU none 47 3 (a.az.map cy)) (.aU (BP _)) (Gh.soft 5 (C9 _ _) (Gh.go ?_)))
   |apply jY.go)
  all_goals first|rfl|exact⟨rfl,trivial⟩|(exfalso;omega)|(exfalso;contradiction)
noncomputable def qx(a:aB)(e:bH):Int × aB:=if m7 a e=true then lq a e else(1,zA)
theorem Ud{a:aB}{e:bH}(h:m7 a e=true)(hx:bS a≤1048576)(he:gi e≤1048576):WA a/\EA e/\(1≤e.kind/\e.kind≤9):=by
 unfold m7 at h;rw[ab]at h;exact⟨.of ((mb a).1 h.1) hx,EA.of h.2 he⟩
section
variable(a:aB)(e:bH)(hx:bS a≤1048576)(he:gi e≤1048576)
include hx he
theorem zL:aE prog 10 [.a 4 (aW a), .a 9 (cj e)] [] (.tup [.a 4 (gu (qx a e).2),I (qx a e).1]):=by
 have hv:=BF a e hx he;unfold qx;cases hg:m7 a e with
 |false=>
  rw[hg]at hv;rw[if_neg (by decide)];refine Ov ?_;refine cX func10 (h:=?_)
  repeat'((conv=>whnf);first
   |refine aI.mk ?_ ?_
   |((apply bX;constructor)<;>intro h<;>(try simp only[aa]at h)<;>(try first|omega|contradiction))|(show ay _ 14 _ _ _ _;refine cP rfl (hv) ?_))
  all_goals first|rfl|trivial|exact⟨rfl,trivial⟩|(exfalso;omega)|(exfalso;contradiction)
 |true=>
  rw[hg]at hv;rw[if_pos rfl];obtain⟨hw,hE,Iz⟩:=Ud hg hx he;have hc:=hw.ca;have hcp:=qS (lj a e).2 (hw.step hE).ca;rw[<-uN]at hcp;unfold lq;by_cases h0:(lj a e).1=0
  ·rw[if_pos h0];refine cX func10 (h:=?_)
   repeat'((conv=>whnf);first
        |refine aI.mk ?_ ?_
        |((apply bX;constructor)<;>intro h<;>(try simp only[aa]at h)<;>(try first|omega|contradiction))|(show ay _ 14 _ _ _ _;refine cP rfl (hv) ?_)|(show ay _ 37 _ _ _ _;refine cG [] rfl (pn a hc) ?_)|(show ay _ 38 _ _ _ _;refine cG [true,false] rfl (B2 a e hw hE Iz) ?_)|(show ay _ 37 _ _ _ _;refine ay.own _ _ rfl hcp (xq _) _ rfl ?_))
   all_goals first|rfl|trivial|exact⟨rfl,trivial⟩|(exfalso;omega)|(rw[h0];rfl)|(exfalso;contradiction)
  ·rw[if_neg h0];refine Ov ?_;refine cX func10 (h:=?_)
   repeat'((conv=>whnf);first
        |refine aI.mk ?_ ?_
        |((apply bX;constructor)<;>intro h<;>(try simp only[aa]at h)<;>(try first|omega|contradiction))|(show ay _ 14 _ _ _ _;refine cP rfl (hv) ?_)|(show ay _ 37 _ _ _ _;refine cG [] rfl (pn a hc) ?_)|(show ay _ 38 _ _ _ _;refine cG [true,false] rfl (B2 a e hw hE Iz) ?_))
   all_goals first|rfl|trivial|exact⟨rfl,trivial⟩|(exfalso;omega)|(exfalso;contradiction)
theorem tJ:aE prog 11 [.a 4 (aW a), .a 9 (cj e)] [] (.tup [.a 4 (cQ (qx a e).2),I (qx a e).1]):=by
 have hp:cL e.proof≤1048576:=by simp only[gi]at he;omega
 have ho:=G3 a hx;have hv:=Is a e hp;unfold qx m7;cases hg:fM a with
 |false=>
  rw[hg]at ho;rw[Bool.false_and,if_neg (by decide)];refine DM ?_;refine cX func11 (fun ew=>match ew with|3=>true|_=>false) (h:=?_)
  repeat'((conv=>whnf);first
   |refine aI.mk ?_ ?_
   |((apply bX;constructor)<;>intro h<;>(try simp only[aa]at h)<;>(try first|omega|contradiction))|(show ay _ 39 _ _ _ _;refine cP rfl (ho) ?_))
  all_goals first|rfl|trivial|exact⟨rfl,trivial⟩|(exfalso;omega)|(exfalso;contradiction)
 |true=>
  rw[hg]at ho;rw[Bool.true_and];cases hg2:cK a.sig.aK a.sig.aF e with
  |false=>
   rw[hg2]at hv;rw[if_neg (by decide)];refine DM ?_;refine cX func11 (fun ew=>match ew with|3=>true|_=>false) (h:=?_)
   repeat'((conv=>whnf);first
        |refine aI.mk ?_ ?_
        |((apply bX;constructor)<;>intro h<;>(try simp only[aa]at h)<;>(try first|omega|contradiction))|(show ay _ 39 _ _ _ _;refine cP rfl (ho) ?_)|(show ay _ 40 _ _ _ _;refine cP rfl (hv) ?_))
   all_goals first|rfl|trivial|exact⟨rfl,trivial⟩|(exfalso;omega)|(exfalso;contradiction)
  |true=>
   rw[hg2]at hv;rw[if_pos rfl];obtain⟨hw,hE,Iz⟩:=Ud (by unfold m7;rw[hg,hg2];rfl) hx he;refine cX func11 (fun ew=>match ew with|3=>true|_=>false) (h:=?_)
   repeat'((conv=>whnf);first
        |refine aI.mk ?_ ?_
        |((apply bX;constructor)<;>intro h<;>(try simp only[aa]at h)<;>(try first|omega|contradiction))|(show ay _ 39 _ _ _ _;refine cP rfl (ho) ?_)|(show ay _ 40 _ _ _ _;refine cP rfl (hv) ?_)|(show ay _ 41 _ _ _ _;refine cG [true,false] rfl (A7 a e hw hE Iz) ?_)|(show Gh _ _ _ _ _;refine Gh.EO 1 _ rfl (Gh.go ?_))
        |apply jY.go)
   all_goals first|rfl|trivial|exact⟨rfl,trivial⟩|(exfalso;omega)|(exfalso;contradiction)
end
def Pb(p:aB × Int)(e:bH):aB × Int:=if(lj p.1 e).1=0 then((lj p.1 e).2,p.2+1)else p
abbrev aa5(a:aB)(l:List bH):aB × Int:=l.foldl Pb (a,0)
theorem Tn{p:aB × Int}{e:bH}(h:(lj p.1 e).1=0):Pb p e=((lj p.1 e).2,p.2+1):=if_pos h
theorem aE.VV{P:Program}{f:Nat}{args:List SV}{outs:List (Option (List CV))}{cs dn:List CV}{n:Nat}{ss:List SV}(h:aE P f args outs (.tup (.a n cs::ss)))(hc:pI cs dn):aE P f args outs (.tup (.a n dn::ss)):=by
 refine⟨h.1,fun w ok vs fs h1 h2 h3 h4=>(h.2 w ok vs fs h1 h2 h3 h4).mono ?_⟩;rintro e w' ⟨v,fr,fo,h5,h6,h7,h8,h9,Cz⟩;refine⟨v,fr,fo,h5,h6,h7,h8,?_,Cz⟩;cases h9 with
 |v h=>
  cases h with
  |v h=>
   cases h fun _=>none with
   |c h=>cases h
 |tup h=>
  cases h with
  |cons ha ht=>
   refine .tup (.cons ?_ ht);cases ha with
   |v h=>
    refine .v fun ρ=>?_
    cases h ρ with
    |c h=>cases h
    |a a1 a2=>first|exact .a (hc.len▸a1) (hc.den a2)|exact .a hc.len.symm (hc.den a2)|exact .a hc.len.symm (hc.den a1)
   |a hl h=>exact .a (hc.len▸hl) (hc.den h)
abbrev Yt(a:aB)(l:List bH):Bool:=l.all (cK a.sig.aK a.sig.aF)
section
variable(a:aB)(l:List bH)(hx:bS a≤1048576)(hl:fU gi l≤1048576)
include hx hl
end
section
variable(a:aB)(l:List bH)(hx:bS a≤1048576)(hl:fU gi l≤1048576)
include hx hl
end
section
variable(a:aB)(l:List bH)(hx:bS a≤1048576)(hl:fU gi l≤1048576)
include hx hl
end
section
open Go Go.KA
structure Src where
 code:List UInt8
 pos:Int
 El:Int
def dz(s:Src):List CV:=[.ro 1 (s.code.map fun b=>[.val (.int .u8 (b.toNat:Int))]), .val (.int .i64 s.pos), .val (.int .u64 s.El)]
def Src.byte(s:Src):Int:=if s.pos<s.code.length then((s.code.getD s.pos.toNat 0).toNat:Int)else 0
def Src.GW(s:Src):Int:=IntKind.u64.wrap (IntKind.u64.wrap (IntKind.u64.wrap (s.El*6364136223846793005)+IntKind.u64.wrap s.byte)+1442695040888963407)
def pw(s:Src):Src:=⟨s.code,s.pos+1,s.GW⟩
def KB(x:Int):Int:=IntKind.u64.wrap ((BitVec.ofInt IntKind.u64.bits (x.fdiv (2^40)) &&& BitVec.ofInt IntKind.u64.bits 255).toNat)
def wa(s:Src):Int:=if s.pos+1≤s.code.length then s.byte else KB s.GW
theorem DL(x:Int):0≤KB x/\KB x≤255:=by
 unfold KB;have h:(BitVec.ofInt IntKind.u64.bits (x.fdiv (2^40)) &&& BitVec.ofInt IntKind.u64.bits 255).toNat≤255:=by
  rw[BitVec.toNat_and];exact Nat.le_trans Nat.and_le_right (by decide)
 generalize(BitVec.ofInt IntKind.u64.bits (x.fdiv (2^40)) &&& BitVec.ofInt IntKind.u64.bits 255).toNat=n at h;simp only[IntKind.wrap,IntKind.bits,IntKind.signed,Bool.false_and];have:(n:Int) % 2^64=n:=by omega
 simp only[this];simp;omega
theorem RY(s:Src):0≤s.byte/\s.byte≤255:=by
 unfold Src.byte;split
 ·have:=(s.code.getD s.pos.toNat 0).toNat_lt;omega
 ·omega
theorem o8(s:Src):0≤wa s/\wa s≤255:=by
 unfold wa;split
 ·exact RY s
 ·exact DL _
def Rd(s:Src)(n:Int):Prop:=0≤s.pos/\s.pos≤n
theorem Rd.next{s:Src}{n:Int}(h:Rd s n):Rd (pw s) (n+1):=by
 unfold Rd pw at*;simp only;omega
theorem Rd.mono{s:Src}{n m:Int}(h:Rd s n)(hm:n≤m):Rd s m:=by
 unfold Rd at*;omega
def cx(s:Src)(n:Int):Int:=if n≤1 then 0 else if n>200 then(wa s*256+wa (pw s)).tmod n else(wa s).tmod n
def aJ(s:Src)(n:Int):Src:=if n≤1 then s else if n>200 then pw (pw s)else pw s
theorem cV(s:Src){n:Int}(h:0<n):0≤cx s n/\cx s n<n:=by
 have h1:=o8 s;have h2:=o8 (pw s);unfold cx;split
 ·omega
 ·split
  ·exact⟨Int.tmod_nonneg _ (by omega),Int.tmod_lt_of_pos _ h⟩
  ·exact⟨Int.tmod_nonneg _ (by omega),Int.tmod_lt_of_pos _ h⟩
theorem QJ(s:Src)(n:Int):0≤cx s n:=by
 have h1:=o8 s;have h2:=o8 (pw s);unfold cx;split
 ·omega
 ·split
  ·exact Int.tmod_nonneg _ (by omega)
  ·exact Int.tmod_nonneg _ (by omega)
theorem Rd.pick{s:Src}{n:Int}(h:Rd s n)(k:Int):Rd (aJ s k) (n+2):=by
 unfold aJ;split
 ·exact h.mono (by omega)
 ·split
  ·exact h.next.next.mono (by omega)
  ·exact h.next.mono (by omega)
def ky(s:Src)(n:Int):Bool:=cx s n==0
def Nc(s:Src):Src:=aJ (aJ (aJ s 2) 2) 12
def LA(s:Src):ku × Src:=
 let t:=1+cx s 2
 let a:=1+cx (aJ s 2) 2
 let k:=cx (aJ (aJ s 2) 2) 12
 if k=0 then(⟨cx (Nc s) 4,a⟩,aJ (Nc s) 4)
 else if k=1 then(⟨t,cx (Nc s) 5⟩,aJ (Nc s) 5)
 else(⟨t,a⟩,Nc s)
theorem Rd.sig{s:Src}{n:Int}(h:Rd s n):Rd (LA s).2 (n+8):=by
 have h0:Rd (Nc s) (n+6):=(((h.pick 2).pick 2).pick 12).mono (by omega);unfold LA;simp only;split
 ·exact(h0.pick 4).mono (by omega)
 ·split
  ·exact(h0.pick 5).mono (by omega)
  ·exact h0.mono (by omega)
structure JH where
 s:Src
 left:Int
def gg(r:JH)(g:ku):List CV:=[.op (dz r.s), .val (.int .i64 g.aK), .val (.int .i64 g.aF), .val (.int .i64 r.left)]
def iC(s:Src):aA × Src:=(.mk (1+cx s 2) 0 [],aJ s 2)
def gH(g:ku)(s:Src):aA × Src:=
 if g.aK>0 then
    if ky s 4 then iC (aJ s 4)else(.mk 3 (cx (aJ s 4) g.aK) [],aJ (aJ s 4) g.aK)
 else iC s
def cI(g:ku)(c:Bool)(s:Src):aA × Src:=
 if c=false/\g.aF>0 then
    if ky s 3 then gH g (aJ s 3)else(.mk 4 (cx (aJ s 3) g.aF) [],aJ (aJ s 3) g.aF)
 else gH g s
def vD(k:Int)(a b:aA):aA:= .mk k 0 [a,b]
def nJ(c:Bool)(s:Src)(n:Int):Bool:=if c then true else ky s n
def kI(c:Bool)(s:Src)(n:Int):Src:=if c then s else aJ s n
def QS(g:ku)(c:Bool)(r:JH)(s:Src):aA × JH:=((cI g c s).1,⟨(cI g c s).2,r.left-1⟩)
def bY(g:ku):Nat->Bool->JH->aA × JH
 |0,c,r=>QS g c r r.s
 |d+1,c,r=>
  if r.left-1<1 then QS g c r r.s
  else if ky r.s 6 then QS g c r (aJ r.s 6)
  else
   let k:=cx (aJ r.s 6) 10
   let r1:JH:=⟨aJ (aJ r.s 6) 10,r.left-1⟩
   if k=0\/(c=true/\k<4)then(.mk 5 0 [(bY g d true r1).1],(bY g d true r1).2)
   else if k<4 then(.mk 8 0 [(bY g d false r1).1],(bY g d false r1).2)
   else
    let a:=bY g d (nJ c r1.s 5) ⟨kI c r1.s 5,r1.left⟩
    let b:=bY g d (nJ c a.2.s 6) ⟨kI c a.2.s 6,a.2.left⟩
    (vD (if k<6 then 6 else 7) a.1 b.1,b.2)
theorem Rd.half{s:Src}{n:Int}(h:Rd s n)(c:Bool)(k:Int):Rd (kI c s k) (n+2):=by
 unfold kI;split
 ·exact h.mono (by omega)
 ·exact h.pick k
theorem Rd.Q4{s:Src}{n:Int}(h:Rd s n):Rd (iC s).2 (n+2):=h.pick 2
theorem Rd.Q9{s:Src}{n:Int}(h:Rd s n)(g:ku):Rd (gH g s).2 (n+4):=by
 unfold gH;split
 ·split
  ·exact((h.pick 4).Q4).mono (by omega)
  ·exact((h.pick 4).pick g.aK).mono (by omega)
 ·exact h.Q4.mono (by omega)
theorem Rd.IZ{s:Src}{n:Int}(h:Rd s n)(g:ku)(c:Bool):Rd (cI g c s).2 (n+6):=by
 unfold cI;split
 ·split
  ·exact((h.pick 3).Q9 g).mono (by omega)
  ·exact((h.pick 3).pick g.aF).mono (by omega)
 ·exact(h.Q9 g).mono (by omega)
def na(d:Nat):Int:=20*3^d
theorem pU(d:Nat):na (d+1)=3*na d:=by unfold na;rw[Int.pow_succ];omega
theorem nT:∀d:Nat,20≤na d
 |0=>by decide
 |d+1=>by have:=nT d;rw[pU];omega
theorem Rd.expr(g:ku):∀(d:Nat) (c:Bool) (r:JH) {n:Int},Rd r.s n->Rd (bY g d c r).2.s (n+na d)
 |0,c,r,n,h=>by
  have:=nT 0;exact(h.IZ g c).mono (by omega)
 |d+1,c,r,n,h=>by
  have h1:=nT d;have h2:=pU d;have hp:=(h.pick 6).pick 10;unfold bY;split
  ·exact(h.IZ g c).mono (by omega)
  ·split
   ·exact((h.pick 6).IZ g c).mono (by omega)
   ·simp only;split
    ·exact(Rd.expr g d true ⟨_,_⟩ hp).mono (by omega)
    ·split
     ·exact(Rd.expr g d false ⟨_,_⟩ hp).mono (by omega)
     ·have ha:=Rd.expr g d (nJ c (aJ (aJ r.s 6) 10) 5) ⟨kI c (aJ (aJ r.s 6) 10) 5,r.left-1⟩ (hp.half c 5);exact(Rd.expr g d _ ⟨_,_⟩ (ha.half c 6)).mono (by omega)
def Uq(g:ku)(s:Src):aA:= .mk 3 (cx s g.aK) []
def UM(g:ku)(s:Src):aA × Src:=
 if g.aK>0 then
    if ky s 3 then((bY g 3 true ⟨aJ s 3,5⟩).1,(bY g 3 true ⟨aJ s 3,5⟩).2.s)
    else if ky (aJ (aJ s 3) g.aK) 3 then(.mk 5 0 [Uq g (aJ s 3)],aJ (aJ (aJ s 3) g.aK) 3)
    else(Uq g (aJ s 3),aJ (aJ (aJ s 3) g.aK) 3)
 else((bY g 3 true ⟨s,5⟩).1,(bY g 3 true ⟨s,5⟩).2.s)
theorem Rd.cond{s:Src}{n:Int}(h:Rd s n)(g:ku):Rd (UM g s).2 (n+600):=by
 have e:na 3=540:=rfl;unfold UM;split
 ·split
  ·exact(Rd.expr g 3 true ⟨_,_⟩ (h.pick 3)).mono (by omega)
  ·split
   ·exact(((h.pick 3).pick g.aK).pick 3).mono (by omega)
   ·exact(((h.pick 3).pick g.aK).pick 3).mono (by omega)
 ·exact(Rd.expr g 3 true ⟨_,_⟩ h).mono (by omega)
theorem two_pow_succ(d:Nat):2^(d+1)=2*2^d:=by rw[Nat.pow_succ];omega
theorem wk(g:ku)(c:Bool)(s:Src):aH (cI g c s).1=0:=by
 have h0:∀s,aH (iC s).1=0:=fun s=>rfl
 have h1:∀s,aH (gH g s).1=0:=by
  intro s;unfold gH;split
  ·split
   ·exact h0 _
   ·rfl
  ·exact h0 _
 unfold cI;split
 ·split
  ·exact h1 _
  ·rfl
 ·exact h1 _
theorem pc(g:ku):∀(d:Nat) (c:Bool) (r:JH),aH (bY g d c r).1+2≤2^(d+1)
 |0,c,r=>by
  have:=wk g c r.s;show aH (cI g c r.s).1+2≤2;omega
 |d+1,c,r=>by
  have hp:=two_pow_succ (d+1);have h0:2≤2^(d+1):=by have:=two_pow_succ d;have:0<2^d:=Nat.pow_pos (by omega);omega
  unfold bY;split
  ·have:=wk g c r.s;show aH (cI g c r.s).1+2≤_;omega
  ·split
   ·have:=wk g c (aJ r.s 6);show aH (cI g c (aJ r.s 6)).1+2≤_;omega
   ·simp only;split
    ·have:=pc g d true ⟨aJ (aJ r.s 6) 10,r.left-1⟩;simp only[aH,bd];omega
    ·split
     ·have:=pc g d false ⟨aJ (aJ r.s 6) 10,r.left-1⟩;simp only[aH,bd];omega
     ·simp only[vD,aH,bd];have h1:=pc g d (nJ c (aJ (aJ r.s 6) 10) 5) ⟨kI c (aJ (aJ r.s 6) 10) 5,r.left-1⟩;have h2:=pc g d (nJ c (bY g d (nJ c (aJ (aJ r.s 6) 10) 5) ⟨kI c (aJ (aJ r.s 6) 10) 5,r.left-1⟩).2.s 6) ⟨kI c (bY g d (nJ c (aJ (aJ r.s 6) 10) 5) ⟨kI c (aJ (aJ r.s 6) 10) 5,r.left-1⟩).2.s 6,(bY g d (nJ c (aJ (aJ r.s 6) 10) 5) ⟨kI c (aJ (aJ r.s 6) 10) 5,r.left-1⟩).2.left⟩;omega
end
section
open Go Go.KA
def KV(f:Src->Src)(s:Src):Nat->Src
 |0=>s
 |i+1=>f (KV f s i)
theorem Rd.iter{f:Src->Src}{k:Int}(hk:0≤k)(hf:∀s n,Rd s n->Rd (f s) (n+k)){s:Src}{n:Int}(h:Rd s n):∀i:Nat,Rd (KV f s i) (n+k*i)
 |0=>by simpa[KV]using h
 |i+1=>by
  have:=hf _ _ (Rd.iter hk hf h i);have e:n+k*((i+1:Nat):Int)=n+k*i+k:=by rw[Int.natCast_add,Int.mul_add];simp;omega
  rw[e];exact this
def wD(l:List Int)(s:Src):Int:=l.getD (cx s l.length).toNat 0
def EN(l:List Int)(s:Src):Src:=aJ s l.length
def PQ(n:Int)(s:Src):Src:=if ky s 10 then aJ s 10 else aJ (aJ s 10) n
theorem Rd.cell{s:Src}{m:Int}(h:Rd s m)(n:Int):Rd (PQ n s) (m+4):=by
 unfold PQ;split
 ·exact(h.pick 10).mono (by omega)
 ·exact((h.pick 10).pick n).mono (by omega)
def aax(n:Nat)(s:Src):Src:=KV (PQ n) s n
theorem Rd.row{s:Src}{m:Int}(h:Rd s m)(n:Nat):Rd (aax n s) (m+4*n):=Rd.iter (by omega) (fun _ _ h=>h.cell n) h n
end
theorem Va{l:List UInt8}{i:Nat}(h:i<l.length):(l.map fun b=>[CV.val (.int .u8 (b.toNat:Int))])[i]? =some [.val (.int .u8 ((l.getD i 0).toNat:Int))]:=by
 rw[List.getElem?_map,List.getElem?_eq_getElem h,List.getD_eq_getElem?_getD,List.getElem?_eq_getElem h];rfl
theorem KN(x:Int):IntKind.i64.wrap (KB x)=KB x:=bu (by have:=DL x;omega) (by have:=DL x;omega)
section
variable(s:Src)(hs:Rd s 1000000000)(hc:s.code.length≤1000000)
include hs hc
theorem L3:aE prog 102 [.c (.op (dz s))] [some [.op (dz (pw s))]] (I (wa s)):=by
 obtain⟨code,pos,El⟩:=s;have h1:=hs.1;have h2:=hs.2;simp only[]at h1 h2 hc;have hbt:=(code.getD pos.toNat 0).toNat_lt;have hlen:(code.map fun b=>[CV.val (.int .u8 (b.toNat:Int))]).length=code.length:=aa _;by_cases hp:pos<code.length
 ·have hb:Src.byte ⟨code,pos,El⟩=((code.getD pos.toNat 0).toNat:Int):=if_pos hp;have hn:wa ⟨code,pos,El⟩=Src.byte ⟨code,pos,El⟩:=if_pos (show pos+1≤(code.length:Int) by omega);rw[hn];simp only[pw,dz,Src.GW,hb];refine cX func102 (h:=?_)
  repeat'((conv=>whnf);first
   |refine aI.mk ?_ ?_
   |((apply bX;constructor)<;>intro h<;>(try simp only[aa]at h)<;>(try first|omega|contradiction))|(show Arith .u64 _ _;refine Arith.wrap ?_)|(show Arith _ _ _;(first|refine Arith.fit (bu (by omega) (by omega)) ?_|refine Arith.fit (KN _) ?_))|(show bh _ _;refine bh.mk (by omega) ?_)|(show Index _ _ _;first|(refine Index.mk _ (Va (by omega)) ?_)|fail)
   |refine nB ?_)
  all_goals first|rfl|exact⟨rfl,trivial⟩|(exfalso;simp at*;omega)
 ·have hb:Src.byte ⟨code,pos,El⟩=0:=if_neg hp;have hn:wa ⟨code,pos,El⟩=KB (Src.GW ⟨code,pos,El⟩):=if_neg (show¬pos+1≤(code.length:Int) by omega);rw[hn];simp only[pw,dz,Src.GW,hb];refine cX func102 (h:=?_)
  repeat'((conv=>whnf);first
   |refine aI.mk ?_ ?_
   |((apply bX;constructor)<;>intro h<;>(try simp only[aa]at h)<;>(try first|omega|contradiction))|(show Arith .u64 _ _;refine Arith.wrap ?_)|(show Arith _ _ _;(first|refine Arith.fit (bu (by omega) (by omega)) ?_|refine Arith.fit (KN _) ?_))|(show bh _ _;refine bh.mk (by omega) ?_)
   |refine nB ?_)
  all_goals first|rfl|exact⟨rfl,trivial⟩|(exfalso;simp at*;omega)
end
section
variable(s:Src)(hs:Rd s 900000000)(hc:s.code.length≤1000000)
include hs hc
theorem dx(n:Int)(hn:lJ n):aE prog 53 [.c (.op (dz s)),I n] [some [.op (dz (aJ s n))],none] (I (cx s n)):=by
 have h1:=L3 s (hs.mono (by omega)) hc;have h2:=L3 (pw s) (hs.next.mono (by omega)) hc;have b1:=o8 s;have b2:=o8 (pw s);unfold lJ at hn;unfold aJ cx;by_cases g1:n≤1
 ·rw[if_pos g1,if_pos g1];refine cX func53 (h:=?_)
  repeat'((conv=>whnf);first
   |refine aI.mk ?_ ?_
   |((apply bX;constructor)<;>intro h<;>(try simp only[aa]at h)<;>(try first|omega|contradiction)))
  all_goals first|rfl|exact⟨rfl,trivial⟩|(exfalso;simp at*;omega)
 rw[if_neg g1,if_neg g1];by_cases g2:n>200
 ·rw[if_pos g2,if_pos g2];refine cX func53 (h:=?_)
  repeat'((conv=>whnf);first
   |refine aI.mk ?_ ?_
   |((apply bX;constructor)<;>intro h<;>(try simp only[aa]at h)<;>(try first|omega|contradiction))|(show ay _ 102 _ _ _ _;(first|refine ay.gen [true] _ _ _ rfl h1 rfl rfl _ rfl ?_|refine ay.gen [true] _ _ _ rfl h2 rfl rfl _ rfl ?_))|(show Arith _ _ _;refine Arith.fit (bu (by omega) (by omega)) ?_)|(show bh _ _;refine bh.mk (by omega) ?_))
  all_goals first|rfl|exact⟨rfl,trivial⟩|(exfalso;simp at*;omega)
 ·rw[if_neg g2,if_neg g2];refine cX func53 (h:=?_)
  repeat'((conv=>whnf);first
   |refine aI.mk ?_ ?_
   |((apply bX;constructor)<;>intro h<;>(try simp only[aa]at h)<;>(try first|omega|contradiction))|(show ay _ 102 _ _ _ _;refine ay.gen [true] _ _ _ rfl h1 rfl rfl _ rfl ?_)|(show bh _ _;refine bh.mk (by omega) ?_))
  all_goals first|rfl|exact⟨rfl,trivial⟩|(exfalso;simp at*;omega)
end
theorem SN(x:aA):pf (cC x)=aD x:=by
 have:=fJ x;rwa[dQ]at this
theorem Hj(x:aA):AR (.a 3 (cC x)) (.a 3 (aD x)):=by
 rw[<-SN];exact .v (.a (dB.pf _))
theorem NN(x:aA)(hb:aH x≤1048576):aE prog 137 [.c (.rp 3 (aD x))] [] (.a 3 (aD x)):=(fa x hb).soft (Hj x)
end Go.Proofs.YtgbggaddpbghfaaGreat
