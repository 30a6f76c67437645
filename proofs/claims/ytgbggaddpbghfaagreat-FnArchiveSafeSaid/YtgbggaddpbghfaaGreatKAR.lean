/- Plain laws: an event leaves a valid archive, in which each server still has what it had saved. No conditions. -/
import Derived.Test.YtgbggaddpbghfaaGreatKAQ
namespace Go.Proofs.YtgbggaddpbghfaaGreat
open Go Go.KA Go.Proofs Go.Proofs.Tryz
set_option maxHeartbeats 16000000
set_option maxRecDepth 100000
theorem yO{l:List aT}{r:Bool}{id:Int}(h:bf l r id<0):∀y∈l,y.bT=r->y.id≠id:=by
 intro y hy h1 h2;have h3:0≤bf l r id:=lX.1 (by
  unfold jZ;exact List.mem_map.2 ⟨y,List.mem_filter.2 ⟨hy,by simp[h1]⟩,h2⟩)
 omega
theorem Sq{l:List aT}{r:Bool}{id:Int}(h:∀y∈l,y.bT=r->y.id≠id):bf l r id<0:=by
 refine Int.not_le.1 fun h1=>?_
 have h2:=lX.2 h1;unfold jZ at h2;obtain⟨y,hy,e⟩:=List.mem_map.1 h2;rw[List.mem_filter]at hy;exact h y hy.1 (by simpa using hy.2) e
theorem oS{t a:Int}{l:List aT}:cS t a l=true↔∀i,i<l.length->gy t a l i=true:=by
 unfold cS nS;rw[aj];exact⟨fun h i hi=>h i (List.mem_range.2 hi),fun h i hi=>h i (List.mem_range.1 hi)⟩
theorem E0{t a:Int}{l:List aT}{n:aT}(h:cS t a l=true)(h1:cU t a n=true)(h2:bf l n.bT n.id<0)(h3:iO l n.entry.bI=true):cS t a (l++[n])=true:=by
 rw[oS]at h⊢;intro i hi;rw[ai,List.length_singleton]at hi;unfold gy;by_cases e:i<l.length
 ·have h4:=h i e;unfold gy at h4;have e1:(l++[n]).getD i n0=l.getD i n0:=by
   rw[List.getD_eq_getElem?_getD,List.getD_eq_getElem?_getD,List.getElem?_append_left e]
  rw[e1,List.take_append_of_le_length (by omega)];exact h4
 ·obtain rfl:i=l.length:=by omega
  have e1:(l++[n]).getD l.length n0=n:=by simp[List.getD_eq_getElem?_getD]
  have e2:(l++[n]).take l.length=l:=by simp
  rw[e1,e2,h1,h3,decide_eq_true h2];rfl
theorem Ax{t a:Int}{l:List aT}(h:cS t a l=true)(k:Nat):cS t a (l.take k)=true:=by
 rw[oS]at h⊢;intro i hi;rw[aq]at hi;have h4:=h i (by omega);unfold gy at h4⊢;have e1:(l.take k).getD i n0=l.getD i n0:=by
  rw[List.getD_eq_getElem?_getD,List.getD_eq_getElem?_getD,List.getElem?_take,if_pos (by omega)]
 rw[e1,List.take_take,Nat.min_eq_left (by omega)];exact h4
theorem eE.sub{l l':List aT}(h:eE l)(hs:∀x∈l',x∈l):eE l':=fun x hx y hy=>h x (hs x hx) y (hs y hy)
theorem eE.more{l l':List aT}{n:aT}(h:eE l)(hs:∀x∈l',x∈l\/x=n)(hn:∀y∈l,Alike n y):eE l':=fun x hx y hy=>by
 rcases hs x hx with h1|rfl<;>rcases hs y hy with h2|rfl
 ·exact h x h1 y h2
 ·exact(hn x h1).symm
 ·exact hn y h2
 ·exact Alike.refl _
theorem dd{a:aB}{x:aT}:x∈fC a↔(∃s∈a.az,x∈s.notes)\/ ∃p∈a.aL,p.note=x:=by
 unfold fC;simp only[ao,List.mem_flatMap,List.mem_map]
structure LP(t a:Int)(s:bj):Prop where
 IG:s.notes.length≤20
 sav:0≤s.saved/\s.saved≤(s.notes.length:Int)
 up:s.up=true\/s.saved=(s.notes.length:Int)
 lH:cS t a s.notes=true
theorem LS{t a:Int}{s:bj}:cO t a s=true↔LP t a s:=by
 unfold cO;simp only[ab,Bool.or_eq_true,decide_eq_true_eq,beq_iff_eq];constructor
 ·rintro⟨h1,h2,h3,h4⟩;exact⟨by omega,bQ h2,h3,h4⟩
 ·rintro⟨h1,h2,h3,h4⟩;exact⟨by omega,eL h2.1 h2.2,h3,h4⟩
structure GB(a:aB):Prop where
 sig:cE a.sig.aK a.sig.aF=true
 n5:ee 1 5 a.az.length=true
 f12:a.aL.length≤12
 srv:∀s∈a.az,LP a.sig.aK a.sig.aF s
 ZI:∀p∈a.aL,(0≤p.mc/\p.mc≤(a.az.length:Int)-1)/\cU a.sig.aK a.sig.aF p.note=true
 W6:eE (fC a)
theorem QO{a:aB}:GA a↔GB a:=by
 constructor
 ·rintro⟨h1,h2,h3,h4,h5,h6⟩;refine⟨h1,h2,by omega,fun s hs=>LS.1 (aj.1 h4 s hs),fun p hp=>?_,h6⟩;have:=aj.1 h5 p hp;unfold g8 at this;rw[ab]at this;exact⟨bQ this.1,this.2⟩
 ·rintro⟨h1,h2,h3,h4,h5,h6⟩;refine⟨h1,h2,by omega,aj.2 fun s hs=>LS.2 (h4 s hs),aj.2 fun p hp=>?_,h6⟩;unfold g8;rw[ab];exact⟨eL (h5 p hp).1.1 (h5 p hp).1.2,(h5 p hp).2⟩
section
variable{a:aB}(hG:GB a)
include hG
theorem GB.set{i:Int}{s:bj}(hs:LP a.sig.aK a.sig.aF s)(hA:eE (fC (jE a i s))):GB (jE a i s):=by
 refine⟨hG.sig,?_,hG.f12,fun x hx=>?_,fun p hp=>?_,hA⟩
 ·show ee 1 5 (a.az.set i.toNat s).length=true;rw[af];exact hG.n5
 ·rcases List.mem_or_eq_of_mem_set hx with h|h
  ·exact hG.srv x h
  ·exact h▸hs
 ·show(0≤p.mc/\p.mc≤((a.az.set i.toNat s).length:Int)-1)/\_;rw[af];exact hG.ZI p hp
omit hG in
theorem yT{i:Int}{s:bj}{x:aT}(hx:x∈fC (jE a i s)):x∈fC a\/x∈s.notes:=by
 rw[dd]at hx;rcases hx with⟨s',RE,hx⟩|⟨p,hp,hx⟩
 ·rcases List.mem_or_eq_of_mem_set RE with h|h
  ·exact .inl (dd.2 (.inl ⟨s',h,hx⟩))
  ·exact .inr (h▸hx)
 ·exact .inl (dd.2 (.inr ⟨p,hp,hx⟩))
omit hG in
theorem jD{i:Int}(hi:bW a i=true):sA a i∈a.az:=by
 have h:=bQ hi;show a.az.getD i.toNat ck∈_;rw[getD_eq (by omega)];exact ag _
theorem GB.place{p:c8}(hp:p∈a.aL):bW a p.mc=true:=by
 have:=(hG.ZI p hp).1;exact eL this.1 this.2
theorem GB.add{i:Int}(hi:bW a i=true){n:aT}(h1:cU a.sig.aK a.sig.aF n=true)(h2:bf (sA a i).notes n.bT n.id<0)(h3:iO (sA a i).notes n.entry.bI=true)(h4:¬(sA a i).notes.length=20)(h5:(sA a i).up=true)(h6:∀y∈fC a,Alike n y):GB (jE a i (mf (sA a i) n)):=by
 have hs:=hG.srv _ (jD hi);have Bd:=hs.IG;have wm:=hs.sav;refine hG.set ⟨?_,?_, .inl h5,E0 hs.lH h1 h2 h3⟩ ?_
 ·show((sA a i).notes++[n]).length≤20;rw[ai,List.length_singleton];omega
 ·show 0≤(sA a i).saved/\(sA a i).saved≤(((sA a i).notes++[n]).length:Int);rw[ai,List.length_singleton];omega
 ·refine hG.W6.more (n:=n) (fun x hx=>?_) h6;rcases yT hx with h|h
  ·exact .inl h
  ·rcases ao.1 h with h|h
   ·exact .inl (dd.2 (.inl ⟨_,jD hi,h⟩))
   ·exact .inr (List.mem_singleton.1 h)
theorem GB.Zz{l:List c8}(hl:l.length≤12)(h:∀p∈l,p∈a.aL\/((0≤p.mc/\p.mc≤(a.az.length:Int)-1)/\cU a.sig.aK a.sig.aF p.note=true/\p.note∈fC a)):GB ⟨a.sig,a.az,l⟩:=by
 refine⟨hG.sig,hG.n5,hl,hG.srv,fun p hp=>?_,hG.W6.sub fun x hx=>?_⟩
 ·rcases h p hp with h|h
  ·exact hG.ZI p h
  ·exact⟨h.1,h.2.1⟩
 ·rw[dd]at hx;rcases hx with⟨s,hs,hx⟩|⟨p,hp,rfl⟩
  ·exact dd.2 (.inl ⟨s,hs,hx⟩)
  ·rcases h p hp with h|h
   ·exact dd.2 (.inr ⟨p,h,rfl⟩)
   ·exact h.2.2
theorem GB.note{s:bj}(hs:s∈a.az){n:aT}(hn:n∈s.notes):cU a.sig.aK a.sig.aF n=true:=by
 obtain⟨i,hi,rfl⟩:=List.mem_iff_getElem.1 hn;have h:=oS.1 (hG.srv s hs).lH i hi;unfold gy at h;rw[getD_eq hi,ab]at h;exact h.1
theorem GB.drop(i:Int):GB (fv a i).2:=by
 unfold fv;split
 ·exact hG
 ·have:=hG.f12;refine hG.Zz (by rw[ai,aq,List.length_drop];omega) fun p hp=> .inl ?_
  rcases ao.1 hp with hp|hp
  ·exact List.mem_of_mem_take hp
  ·exact List.mem_of_mem_drop hp
theorem GB.take{i:Int}(hi:0≤i):GB (dg a i).2:=by
 unfold dg;split
 ·exact hG
 split
 ·exact hG
 split
 ·exact hG
 ·rename_i h1 h2 h3;have hp:iJ a i∈a.aL:=by
   show a.aL.getD i.toNat lF∈_;rw[getD_eq (by omega)];exact ag _
  have h4:nA a (iJ a i)=true:=by simpa using h2
  unfold nA at h4;simp only[ab,decide_eq_true_eq]at h4;exact hG.add (hG.place hp) (hG.ZI _ hp).2 h4.2.1 h4.2.2 h3 h4.1 fun y hy=>hG.W6 _ (dd.2 (.inr ⟨_,hp,rfl⟩)) y hy
theorem zR{e:bH}(he:cK a.sig.aK a.sig.aF e=true):GB (lj a e).2:=by
 unfold cK at he;simp only[ab]at he;have ea:=bQ he.2.1;have eb:=bQ he.2.2.1;have ec:=bQ he.2.2.2.1;unfold lj;split
 ·unfold fV;split
  ·exact(hG.take ea.1).drop e.a
  ·exact hG
 split
 ·exact hG.take ea.1
 split
 ·exact hG.drop e.a
 split
 ·exact hG
 rename_i dV;have hp:bW a e.a=true:=by simpa using dV
 have hpr:=bQ hp;have hs:=hG.srv _ (jD hp);split
 ·rename_i hk;have yG:=he.2.2.2.2.2.2;rw[if_pos hk,ab]at yG;unfold fq;split
  ·exact hG
  split
  ·exact hG
  split
  ·exact hG
  ·rename_i h1 h2 h3;simp only[Bool.or_eq_true,Bool.not_eq_true',decide_eq_true_eq,not_or,Bool.not_eq_false,Bool.not_eq_true]at h1 h3;have Ob:0≤kY a e.a:=by
        unfold kY;have:0≤(a.az.length:Int)*((sA a e.a).notes.countP (uc a.az.length e.a):Nat):=Int.mul_nonneg (by omega) (by omega);omega
   have wi:bf (fC a) false (kY a e.a)<0:=by
        have h9:=h3.2.2;unfold oY at h9;have:=of_decide_eq_false h9;omega
   have eu:kY a e.a≤99:=by
        have:=h3.2.1;omega
   refine hG.add hp ?_ ?_ h1.2 h3.1 h1.1 fun y hy e1 _ e2=>absurd e1.symm (yO wi y hy e2)
   ·unfold cU zi;simp only[Bool.false_eq_true,if_false,beq_self_eq_true,Bool.true_and,ab];exact⟨eL Ob eu,yG.1⟩
   ·exact Sq fun y hy=>yO wi y (dd.2 (.inl ⟨_,jD hp,hy⟩))
 split
 ·unfold cT;split
  ·exact hG
  split
  ·exact hG
  split
  ·exact hG
  ·rename_i h1 h2 h3;simp only[Bool.or_eq_true,Bool.not_eq_true',decide_eq_true_eq,not_or,Bool.not_eq_false]at h2;refine hG.add hp ?_ (show bf (sA a e.a).notes true e.b<0 by omega) rfl h3 h2.1 fun y _ _ e1 _=>by cases e1
   unfold cU Bf;simp only[if_true,ab];exact⟨eL eb.1 (by omega),rfl⟩
 split
 ·unfold dR;split
  ·exact hG
  split
  ·exact hG
  split
  ·exact hG
  ·rename_i h1 h2 h3;simp only[Bool.or_eq_true,Bool.not_eq_true',decide_eq_true_eq,not_or,Bool.not_eq_false]at h1;have hf:=hG.f12;have hb:=bQ h1.1;have hn:(sA a e.a).notes.getD e.c.toNat n0∈(sA a e.a).notes:=by
        rw[getD_eq (by omega)];exact ag _
   refine hG.Zz (by rw[ai,List.length_singleton];omega) fun p K3=>?_
   rcases ao.1 K3 with K3|K3
   ·exact .inl K3
   ·rw[List.mem_singleton.1 K3];exact .inr ⟨hb,hG.note (jD hp) hn,dd.2 (.inl ⟨_,jD hp,hn⟩)⟩
 ·have h1:=hs.IG;have h2:=hs.sav;have jn:∀s:bj,(∀x∈s.notes,x∈(sA a e.a).notes)->eE (fC (jE a e.a s)):=fun s hx=>hG.W6.sub fun x h=>by
   rcases yT h with h|h
   ·exact h
   ·exact dd.2 (.inl ⟨_,jD hp,hx x h⟩)
  unfold jf;split
  ·exact hG
  rename_i hup;split
  ·exact hG.set ⟨h1,⟨by show(0:Int)≤((sA a e.a).notes.length:Nat);omega,Int.le_refl _⟩, .inr rfl,hs.lH⟩ (jn _ fun x h=>h)
  split
  ·refine hG.set ⟨?_,?_, .inr ?_,Ax hs.lH _⟩ (jn _ fun x h=>List.mem_of_mem_take h)
   ·show((sA a e.a).notes.take _).length≤20;rw[aq];omega
   ·show 0≤(sA a e.a).saved/\(sA a e.a).saved≤(((sA a e.a).notes.take (sA a e.a).saved.toNat).length:Int);rw[aq];omega
   ·show(sA a e.a).saved=(((sA a e.a).notes.take (sA a e.a).saved.toNat).length:Int);rw[aq];omega
  ·exact hG.set ⟨h1,h2, .inl rfl,hs.lH⟩ (jn _ fun x h=>h)
end
structure l7(s s':bj):Prop where
 sav:s.saved≤s'.saved
 pre:s.notes.take s.saved.toNat=s'.notes.take s.saved.toNat
theorem l7.refl(s:bj):l7 s s:=⟨Int.le_refl _,rfl⟩
theorem l7.JQ{t a:Int}{s:bj}(h:LP t a s)(n:aT):l7 s (mf s n):=⟨Int.le_refl _,by
 show _=(s.notes++[n]).take _;rw[List.take_append_of_le_length (by have:=h.sav;omega)]⟩
theorem Mf{a:aB}{i:Int}{s:bj}{k:Nat}(hk:k<a.az.length):(jE a i s).az.getD k ck=if i.toNat=k then s else a.az.getD k ck:=by
 show(a.az.set i.toNat s).getD k ck=_;exact Ay hk
theorem Nd{a:aB}{i:Int}{s:bj}(hs:l7 (sA a i) s){k:Nat}(hk:k<a.az.length):l7 (a.az.getD k ck) ((jE a i s).az.getD k ck):=by
 rw[Mf hk];split
 ·rename_i e;subst e;exact hs
 ·exact .refl _
theorem CS{a:aB}(hG:GB a){e:bH}(he:cK a.sig.aK a.sig.aF e=true){k:Nat}(hk:k<a.az.length):(lj a e).2.az.length=a.az.length/\l7 (a.az.getD k ck) ((lj a e).2.az.getD k ck):=by
 unfold cK at he;simp only[ab]at he;have ea:=bQ he.2.1;have same:∀l:List c8,(⟨a.sig,a.az,l⟩:aB).az.length=a.az.length/\l7 (a.az.getD k ck) ((⟨a.sig,a.az,l⟩:aB).az.getD k ck):=fun _=>⟨rfl, .refl _⟩
 have self:a.az.length=a.az.length/\l7 (a.az.getD k ck) (a.az.getD k ck):=⟨rfl, .refl _⟩;have Mp:∀{i:Int} {s:bj},l7 (sA a i) s->(jE a i s).az.length=a.az.length/\l7 (a.az.getD k ck) ((jE a i s).az.getD k ck):=fun h=>⟨af,Nd h hk⟩
 have tk:(dg a e.a).2.az.length=a.az.length/\l7 (a.az.getD k ck) ((dg a e.a).2.az.getD k ck):=by
  unfold dg;split
  ·exact self
  split
  ·exact self
  split
  ·exact self
  ·rename_i h1 h2 h3;have hp:iJ a e.a∈a.aL:=by
        show a.aL.getD e.a.toNat lF∈_;rw[getD_eq (by omega)];exact ag _
   exact Mp (.JQ (hG.srv _ (jD (hG.place hp))) _)
 unfold lj;split
 ·unfold fV;split
  ·unfold fv;split
   ·exact tk
   ·exact tk
  ·exact self
 split
 ·exact tk
 split
 ·unfold fv;split
  ·exact self
  ·exact same _
 split
 ·exact self
 rename_i dV;have hp:bW a e.a=true:=by simpa using dV
 have hs:=hG.srv _ (jD hp);split
 ·unfold fq
  repeat' split
  all_goals first|exact self|exact Mp (.JQ hs _)
 split
 ·unfold cT
  repeat' split
  all_goals first|exact self|exact Mp (.JQ hs _)
 split
 ·unfold dR
  repeat' split
  all_goals first|exact self|exact same _
 ·unfold jf;split
  ·exact self
  split
  ·exact Mp ⟨hs.sav.2,rfl⟩
  split
  ·exact Mp ⟨Int.le_refl _,by show _=((sA a e.a).notes.take (sA a e.a).saved.toNat).take _;rw[List.take_take,Nat.min_self]⟩
  ·exact Mp ⟨Int.le_refl _,rfl⟩
theorem Tree.wide{t a t' a':Int}(ht:t≤t')(ha:a≤a'){e:aA}(h:Tree t a e):Tree t' a' e:=by
 induction h with
 |zero=>exact .zero
 |one=>exact .one
 |test h0 h1=>exact .test h0 (by omega)
 |act h0 h1=>exact .act h0 (by omega)
 |not hc _ ih=>exact .not hc ih
 |sum _ _ h1 h2=>exact .sum h1 h2
 |dot _ _ h1 h2=>exact .dot h1 h2
 |star _ ih=>exact .star ih
theorem mj{t a:Int}{c:bV}(h:c7 t a c=true):bz t a c.left=true/\bz t a c.right=true/\c.steps.length≤60/\ ∀s∈c.steps,dv t a s=true:=by
 simp only[c7,ab,decide_eq_true_eq,aj]at h;exact⟨h.1,h.2.1,by omega,h.2.2.2.2.2.2⟩
section
variable{t a:Int}(hs:cE t a=true)(hg:0≤t/\t≤3/\0≤a/\a≤4){cl:List bV}(BC:∀c∈cl,c7 t a c=true)
include hg BC
theorem IL{k use:Int}(hu:use≤23)(h:(kW jO ⟨⟨t,a⟩,cl⟩ k use).2=true):Cd (kW jO ⟨⟨t,a⟩,cl⟩ k use).1:=by
 by_cases h0:0≤use
 ·exact BQ h0 hu k
 ·unfold kW at h⊢;rw[if_neg (by omega)]at h⊢;by_cases h1: -1-use≥k
  ·rw[if_pos h1]at h;cases h
  ·rw[if_neg h1]at h⊢;by_cases h2: -1-use≥((cl.length:Nat):Int)
   ·rw[if_pos h2]at h;cases h
   ·rw[if_neg h2];have hm:(cl.getD (-1-use).toNat ⟨dm,dm,0,0,[]⟩)∈cl:=by
      rw[getD_eq (by omega)];exact ag _
    have hc:=mj (BC _ hm);exact⟨(iR _ (iA.1 hc.1).2.2).wide hg.2.1 hg.2.2.2,(iR _ (iA.1 hc.2.1).2.2).wide hg.2.1 hg.2.2.2,dU hc.1,dU hc.2.1⟩
include hs
theorem GX{k:Nat}(hk:k<cl.length)(hn:cl.length≤40)(hr:(cl.getD k c0).l8=1):aE prog 142 [.c (.rp 3 (dk ⟨⟨t,a⟩,cl⟩)),I (k:Nat)] [] (B (tL ⟨⟨t,a⟩,cl⟩ (k:Nat) (cl.getD k c0).steps (cl.getD k c0).left (cl.getD k c0).right)):=by
 have hm:cl.getD k c0∈cl:=by
  rw[getD_eq hk];exact ag _
 have hc:=mj (BC _ hm);generalize hC:cl.getD k c0=c at hm hc hr⊢;have uo:∀st∈c.steps, -40≤st.use/\st.use≤23/\(∀x∈st.aK,aH x≤200)/\ ∀x∈st.dy,aH x≤200:=fun st h=>by
  have h1:=hc.2.2.2 st h;have h2:=kE h1;simp only[dv,ab]at h1;have h3:=bQ h1.1;exact⟨by omega,by omega,fun x hx=>dU (h2.1 x hx),fun x hx=>dU (h2.2 x hx)⟩
 refine JN (t:=t) (a:=a) (p:=⟨⟨t,a⟩,cl⟩) (aX:=fun x st=>(g9 jO ⟨⟨t,a⟩,cl⟩ k x st).1) (aC:=fun x st=>(g9 jO ⟨⟨t,a⟩,cl⟩ k x st).2) (sh:=tL ⟨⟨t,a⟩,cl⟩ k) hk (by show cl.length≤_;omega) hC hr (by omega) ?_ hc.1 (fun x st hx RE=>?_) (fun x st h=>uz (p:=⟨⟨t,a⟩,cl⟩) h) (fun x=>?_) (fun i hi x=>MM hi x c.right)
 ·have h:=(fa c.left (by have:=dU hc.1;omega));rw[bK]at h;exact h.cut (.cut (sz:=9) (k:=3) (cs:=aV c) (by decide) .nil)
 ·obtain⟨b1,b2,b3,b4⟩:=uo st RE;have h:=vC ⟨⟨t,a⟩,cl⟩ hs k x (dU hx) st (by omega) (fun hq=>IL hg BC b2 hq) b3 b4;rw[sy]at h;exact h
 ·have h1:=qq x c.right;rw[sy]at h1;exact h1.cut (.same (.cut (sz:=6) (k:=3) (cs:=(aV c).drop 3) (by decide) .nil))
end
noncomputable def abv(p:cY)(k:Nat):Bool:=tL p (k:Nat) (p.aG.getD k c0).steps (p.aG.getD k c0).left (p.aG.getD k c0).right
noncomputable def abe(notes:List aT)(r:List Int)(p:cY)(i:Nat):Bool:=eqv (jK (notes.getD (bf notes false (r.getD i 0)).toNat n0).entry) (⟨(p.aG.getD i c0).left,(p.aG.getD i c0).right⟩:b7)
theorem MF{k n:Nat}(h:k=n)(f:Nat->Bool):nS (k-n) f=true:=by rw[h,Nat.sub_self];rfl
theorem QT{n k:Nat}{g:Nat->Bool}(hk:n≤k)(h:nS (k-n) (fun j=>g (n+j))=true)(h2:g k=true):nS (k+1-n) (fun j=>g (n+j))=true:=by
 rw[show k+1-n=(k-n)+1 by omega];refine sK h ?_;show g (n+(k-n))=true;rwa[show n+(k-n)=k by omega]
section
variable{n m:Nat}{QB NS:Nat->Bool}
def yj(n m:Nat)(QB NS:Nat->Bool):Bool:=nS n QB&&nS (m-n) (fun j=>NS (n+j))
theorem NW{i:Nat}(hi:i<n)(h:QB i=false):yj n m QB NS=false:=by
 unfold yj;rw[E1 hi h,Bool.false_and]
theorem No{k:Nat}(h1:n≤k)(hk:k<m)(h:NS k=false):yj n m QB NS=false:=by
 unfold yj;rw[E1 (n:=m-n) (i:=k-n) (p:=fun j=>NS (n+j)) (by omega) (by show NS (n+(k-n))=false;rwa[show n+(k-n)=k by omega]),Bool.and_false]
theorem Db{i k:Nat}(hi:i=n)(hk:k=m)(h1:nS i QB=true)(h2:nS (k-n) (fun j=>NS (n+j))=true):yj n m QB NS=true:=by
 subst hi hk;unfold yj;rw[h1,h2];rfl
end
noncomputable def I2(notes:List aT)(r:List Int)(p:cY):Bool:=yj r.length p.aG.length (abe notes r p) (abv p)
theorem JD{sv:bj}{r:List Int}{p:cY}{QB NS:Nat->Bool}(hr:r.length≤p.aG.length)(hp:p.aG.length≤40)(hr9:r.length≤4)
 (Qf:∀i,i<r.length->0≤bf sv.notes false (r.getD i 0)/\bf sv.notes false (r.getD i 0)<(sv.notes.length:Nat))
 (Z1:∀i,i<r.length->aS prog 136 [.c (.rp 5 (kC (sv.notes.getD (bf sv.notes false (r.getD i 0)).toNat n0).entry))] (.a 6 (bm (jK (sv.notes.getD (bf sv.notes false (r.getD i 0)).toNat n0).entry))))
 (Yb:∀i,i<r.length->aS prog 141 [.c (.rp 6 (bm (jK (sv.notes.getD (bf sv.notes false (r.getD i 0)).toNat n0).entry))), .c (.rp 6 (bm ⟨(p.aG.getD i c0).left,(p.aG.getD i c0).right⟩))] (B (QB i)))
 (hsh:∀k,r.length≤k->k<p.aG.length->aE prog 142 [.c (.rp 3 (dk p)),I (k:Nat)] [] (B (NS k))):
 aS prog 110 [.c (.rp 3 (cZ sv)), .c (.ro 1 (r.map eI)), .c (.rp 3 (dk p))] (B (yj r.length p.aG.length QB NS)):=by
 have hlr:(r.map eI).length=r.length:=aa _;refine cF func110 (h:=?_)
 repeat'((conv=>whnf);first
  |apply bP.mk|(show aZ 2 _ _ _ _ _ _;refine lp (Nat) [0,1,2] (fun i=>[(7,I (i:Nat))]) (fun i=>i≤r.length/\nS i QB=true) (fun i=>r.length-i) 0 (by exact⟨ah _,rfl⟩) (fun i ha=>?_);have Z4:=ha.2;have hB1:=ha.1)|(show aZ 9 _ _ _ _ _ _;refine lp (Nat) [2] (fun k=>[(10,I (k:Nat))]) (fun k=>(r.length≤k/\k≤p.aG.length)/\nS (k-r.length) (fun j=>NS (r.length+j))=true) (fun k=>p.aG.length-k) ((r.map eI).length) (by exact⟨⟨by show r.length≤(r.map eI).length;omega,by show(r.map eI).length≤_;omega⟩,MF hlr _⟩) (fun k ha=>?_))
  |refine nx (i+1:Nat) (by exact⟨by show i+1≤_;omega,sK ha.2 (by assumption)⟩)
  |refine nx (k+1:Nat) (by exact⟨by show _≤k+1/\k+1≤_;omega,QT (by omega) ha.2 (by assumption)⟩)
  |(apply Fact.mk;intro hL;try simp only[aa,maxLen]at hL)
  |((apply bX;constructor)<;>intro h<;>(try simp only[aa]at h)<;>(try first|omega|contradiction))|(show ay _ 60 _ _ _ _;refine cP rfl (jd sv.notes false (r.getD i 0)) ?_)|(show ay _ 136 _ _ _ _;refine cP rfl (Z1 i (by omega)) ?_)|(show ay _ 140 _ _ _ _;refine cP rfl (tu (p.aG.getD i c0)) ?_)|(show ay _ 141 _ _ _ _;refine cP rfl (Yb i (by omega)) ?_)|(show ay _ 142 _ _ _ _;refine cG [] rfl (hsh k (by omega) (by omega)) ?_)
  |refine aR ?_|(show Index _ _ _;first|(refine Index.mk _ (aN (l:=r) (d:=0) (i:=i) (by omega)) ?_)|(refine Index.mk _ (aN (d:=c0) (i:=i) (by omega)) ?_)|(refine Index.mk _ (aN (d:=n0) (i:=(bf sv.notes false (r.getD i 0)).toNat) (by(have:=Qf i (by omega));omega)) ?_)|fail)
  |refine nB ?_|(show bh _ _;refine bh.mk (by first|(((have hs7:=Qf i (by omega));omega))|fail) ?_))
 all_goals first|exact congrArg B (NW (i:=i) (by omega) (by assumption)).symm|exact congrArg B (No (k:=k) (by omega) (by omega) (by assumption)).symm|exact congrArg B (Db (i:=i) (k:=k) (by omega) (by omega) (by assumption) ha.2).symm|exact congrArg B (Db (i:=i) (k:=k) (by omega) (by omega) ha.2 (by assumption)).symm
structure DC(t a:Int)(n:Nat)(l:List bV):Prop where
 len:l.length=n+1
 ok:∀i,i<l.length->c7 t a (l.getD i c0)=true/\(l.getD i c0).l8=1/\(l.getD i c0).steps.length≤2/\(i<n->(l.getD i c0).steps=[])
structure D0(t a:Int)(l:List bV):Prop where
 ok:∀c∈l,c7 t a c=true/\c.l8=1/\c.steps=[]
section
variable{t a:Int}{l:List bV}
theorem D0.add{x y:aA}(h:D0 t a l)(h1:bz t a x=true)(h2:bz t a y=true):D0 t a (l++[⟨x,y,1,0,[]⟩]):=⟨fun c hc=>by
 rcases ao.1 hc with h3|h3
 ·exact h.ok c h3
 ·obtain rfl:=List.mem_singleton.1 h3;refine⟨?_,rfl,rfl⟩;simp only[c7,ab,decide_eq_true_eq,aj];exact⟨h1,h2,rfl,rfl,by simp,rfl,by simp⟩⟩
theorem D0.last{c:bV}(h:D0 t a l)(h1:c7 t a c=true)(h2:c.l8=1)(h3:c.steps.length≤2):DC t a l.length (l++[c]):=by
 refine⟨by simp,fun i hi=>?_⟩;by_cases h4:i<l.length
 ·have e:(l++[c]).getD i c0=l.getD i c0:=by
   rw[getD_eq hi,getD_eq h4,List.getElem_append_left h4]
  rw[e,getD_eq h4];have h5:=h.ok _ (ag h4);exact⟨h5.1,h5.2.1,by rw[h5.2.2];exact ah _,fun _=>h5.2.2⟩
 ·have e:(l++[c]).getD i c0=c:=by
   have h5:i=l.length:=by simp at hi;omega
   subst h5;simp
  rw[e];exact⟨h1,h2,h3,fun h5=>absurd h5 h4⟩
theorem DC.put{n:Nat}{x:aA}{i:Nat}(h:DC t a n l)(hi:i<l.length)(h1:bz t a x=true):DC t a n (l.set i ⟨(l.getD i c0).left,x,(l.getD i c0).l8,(l.getD i c0).ref,(l.getD i c0).steps⟩):=by
 refine⟨by rw[af];exact h.len,fun j hj=>?_⟩;rw[af]at hj;by_cases e:i=j
 ·subst e;have e1:(l.set i (⟨(l.getD i c0).left,x,(l.getD i c0).l8,(l.getD i c0).ref,(l.getD i c0).steps⟩:bV)).getD i c0=⟨(l.getD i c0).left,x,(l.getD i c0).l8,(l.getD i c0).ref,(l.getD i c0).steps⟩:=by
   rw[getD_eq (by rw[af];exact hi),List.getElem_set_self]
  rw[e1];obtain⟨h2,h3,h4,h5⟩:=h.ok i hi;refine⟨?_,h3,h4,h5⟩;simp only[c7,ab]at h2⊢;exact⟨h2.1,h1,h2.2.2⟩
 ·have e1:(l.set i (⟨(l.getD i c0).left,x,(l.getD i c0).l8,(l.getD i c0).ref,(l.getD i c0).steps⟩:bV)).getD j c0=l.getD j c0:=by
   rw[getD_eq (by rw[af];exact hj),getD_eq hj,List.getElem_set_ne e]
  rw[e1];exact h.ok j hj
theorem D0.mem(h:D0 t a l):∀c∈l,bz t a c.left=true/\bz t a c.right=true:=fun c hc=>by
 have:=mj (h.ok c hc).1;exact⟨this.1,this.2.1⟩
end
structure DR(notes:List aT)(r:List Int):Prop where
 nd:r.Nodup
 kn:∀x∈r,0≤bf notes false x
theorem DR.add{notes:List aT}{r:List Int}{x:Int}(h:DR notes r)(h1:x∉r)(h2:0≤bf notes false x):DR notes (r++[x]):=
 ⟨by
  rw[List.nodup_append];exact⟨h.nd,by simp,fun y hy z hz=>by
   obtain rfl:=List.mem_singleton.1 hz;intro e;subst e;exact h1 hy⟩,fun y hy=>by
  rcases ao.1 hy with h3|h3
  ·exact h.kn y h3
  ·obtain rfl:=List.mem_singleton.1 h3;exact h2⟩
theorem S9(l:List bV)(x y:aA):dD (l.map aV++[[J x.kind,J x.num, .own 66 3 (x.kids.map aM),J y.kind,J y.num, .own 66 3 (y.kids.map aM),J 1,J 0, .ows 156 5 []]])=(l++[(⟨x,y,1,0,[]⟩:bV)]).map aV:=by
 have e:∀l m:List (List CV),dD (l++m)=dD l++dD m:=fun l m=>by
  induction l with
  |nil=>rfl
  |cons c l ih=>simp only[List.cons_append,dD,ih]
 rw[e,wq,au];refine congrArg (l.map aV++ ·) ?_;simp only[dD,pf,mV,cM fJ];rfl
theorem Gc(o:Option Value)(l:List bV)(c:bV):iP (.aU o 104 9 (l.map aV++[aV c])) (.row o 104 9 ((l++[c]).map aV)):=by
 have h:=iP.row (o:=o) (ty:=104) (sz:=9) (rows:=(l++[c]).map aV);rw[wq]at h;rwa[show(l++[c]).map aV=l.map aV++[aV c]from au]at h⊢
section
variable{t a:Int}(hs:cE t a=true)(hg:0≤t/\t≤3/\0≤a/\a≤4){srv:List bj}{fl:List c8}{sv wr:Int}{notes:List aT}{ids:List Int}
 {up:Bool}{sav:Int}(h0:0≤sv)(h1:sv<(srv.length:Nat))(si:(srv.map cZ)[sv.toNat]? =some [.val (.bool up), .ro 7 (notes.map bG),J sav])(hn9:notes.length≤20)
 (hw:0≤wr/\wr≤100)
 (aat:ids.length≤100)(hkn:∀x∈ids,0≤bf notes false x/\bf notes false x<(notes.length:Nat))
 (ci:aE prog 58 [.c (.ro 7 (notes.map bG)),B false] [] (.c (.ows 2 1 (ids.map eI))))
 (Z1:∀x∈ids,aS prog 136 [.c (.rp 5 (kC (notes.getD (bf notes false x).toNat n0).entry))] (.a 6 (bm (jK (notes.getD (bf notes false x).toNat n0).entry))))
 (hle:∀x∈ids,bz t a (jK (notes.getD (bf notes false x).toNat n0).entry).left=true/\bz t a (jK (notes.getD (bf notes false x).toNat n0).entry).right=true)
include hs hg h0 h1 si hn9 hw aat hkn ci Z1 hle
theorem zS{s:Src}{N:Int}(jA:jW s N)(hN:N≤300000000):
 gW prog 109 [.c (.op (dz s)), .c (.op (aW ⟨⟨t,a⟩,srv,fl⟩)),I sv,I wr]
  (fun x:List Int × List bV × Src=>DR notes x.1/\x.1.length≤2/\DC t a x.1.length x.2.1/\jW x.2.2 (N+400000))
  (fun x=>[some [.op (dz x.2.2)],some [.op (aW ⟨⟨t,a⟩,srv,fl⟩)],none,none]) (fun x=> .tup [.c (.ows 2 1 (x.1.map eI)), .a 3 [J t,J a, .ows 104 9 (x.2.1.map aV)]]):=by
 have _:=h1;have _:=hn9;have OA:∀v:Int,0≤v->v<(ids.length:Nat)->ids.getD v.toNat 0∈ids:=fun v h2 h3=>by
  rw[getD_eq (by omega)];exact ag _
 have Ke:∀x∈ids,aE prog 137 [.c (.rp 6 (bm (jK (notes.getD (bf notes false x).toNat n0).entry)))] [] (.a 3 (cC (jK (notes.getD (bf notes false x).toNat n0).entry).left)):=fun x hx=>by
  have h:=fa (jK (notes.getD (bf notes false x).toNat n0).entry).left (by have:=dU (hle x hx).1;omega);rw[bK]at h;exact h.cut (.cut (sz:=6) (k:=3) (cs:=bm (jK (notes.getD (bf notes false x).toNat n0).entry)) (by decide) .nil)
 have hoR:∀x∈ids,aE prog 137 [.c (.rp 3 ((bm (jK (notes.getD (bf notes false x).toNat n0).entry)).drop 3))] [] (.a 3 (cC (jK (notes.getD (bf notes false x).toNat n0).entry).right)):=fun x hx=>by
  have h:=fa (jK (notes.getD (bf notes false x).toNat n0).entry).right (by have:=dU (hle x hx).2;omega);rw[bK]at h;exact h
 refine WH func109 (fun ew=>match ew with|7=>true|13=>true|14=>true|_=>false) (h:=?_)
 repeat'((conv=>whnf);first
  |(show ay _ 53 _ _ _ _;(have _:=k);(have Zp:(ids.map eI).length=ids.length:=aa _);refine BO jA (by omega) (by unfold lJ;omega) rfl rfl rfl (fun v s' jA wj RB=>?_);rw[Zp]at RB;(have Y1:=OA v wj (RB (by omega)));(have hq1:=hkn _ Y1);(have hq2:=hle _ Y1))|(show Gh _ _ _ _ _;(have h7:=‹k>0›);(have h8:=‹uK r (ids.getD v.toNat 0)=true›);(fail_if_success (have _:=hg7));(have hg7:=h7);refine Gh.soft 5 iP.row (Gh.go ?_))|(show Gh _ _ _ _ _;(have h7:=‹k>0›);(have h8:=‹uK r (ids.getD v.toNat 0)=false›);(fail_if_success (have _:=hg7));(have hg7:=h7);refine Gh.go ?_)|(show Gh _ _ _ _ _;(have h7:=‹k>0›);(have h8:=‹uK r (ids.getD v.toNat 0)=false›);refine Gh.go ⟨((s',r,cl,k-1):Src × List Int × List bV × Int),(by exact⟨⟨by show 0≤k-1;omega,by show k-1≤2;omega,jA.mono (by show _≤N+10+10*(2-(k-1));omega)⟩,⟨ha.2.1.1,by show(r.length:Int)+(k-1)≤2;omega⟩,ha.2.2.1,ha.2.2.2⟩),(by show(k-1).toNat<k.toNat;omega),(by(repeat'((conv=>whnf)<;>(first|exact trivial|refine⟨?_,?_⟩|kernel_rfl)));done),(by(repeat'((conv=>whnf)<;>(first|exact trivial|refine⟨?_,?_⟩|kernel_rfl)));done),(by(repeat'((conv=>whnf)<;>(first|exact trivial|refine⟨?_,?_⟩|kernel_rfl)));done)⟩)|(show Gh _ _ _ _ _;(have h7:=‹k>0›);(have h8:=‹uK r (ids.getD v.toNat 0)=true›);refine Gh.go ⟨((s',r++[ids.getD v.toNat 0],cl++[⟨(jK (notes.getD (bf notes false (ids.getD v.toNat 0)).toNat n0).entry).left,(jK (notes.getD (bf notes false (ids.getD v.toNat 0)).toNat n0).entry).right,1,0,[]⟩],k-1):Src × List Int × List bV × Int),(by exact⟨⟨by show 0≤k-1;omega,by show k-1≤2;omega,jA.mono (by show _≤N+10+10*(2-(k-1));omega)⟩,⟨by show(r++[_]).length=(cl++[_]).length;simp only[ai,List.length_cons,List.length_nil];omega,by show((r++[_]).length:Int)+(k-1)≤2;simp only[ai,List.length_cons,List.length_nil];omega⟩,ha.2.2.1.add (NA.1 h8) hq1.1,ha.2.2.2.add hq2.1 hq2.2⟩),(by show(k-1).toNat<k.toNat;omega),(by(repeat'((conv=>whnf)<;>(first|exact trivial|refine⟨?_,?_⟩|kernel_rfl)));done),(by(repeat'((conv=>whnf)<;>(first|exact trivial|refine⟨?_,?_⟩|kernel_rfl)));done),(by(repeat'((conv=>whnf)<;>(first|exact trivial|refine⟨?_,?_⟩|exact congrArg (dW.row none 104 9) (S9 cl _ _)|exact congrArg (dW.row none 2 1) (List.map_append (f:=eI) (l₁:=r) (l₂:=[_])).symm|exact rfl|(simp only[au,List.map_cons,List.map_nil];first|done|rfl)|(trace_state;fail))));done)⟩)|(show Gh _ _ _ _ _;(fail_if_success (have _:=u));refine Gh.soft 5 iP.up (Gh.CR 5 rfl fun u=>Gh.go ?_))|(show Gh _ _ _ _ _;(have _:=u);(fail_if_success (have _:=ZK));(have ZK:=yF);(have hD9:DC t a r.length (cl++[cF]):=ha.2.1.1▸ha.2.2.2.last yF QI MC);(have hl9:(cl++[cF]).length=cl.length+1:=by simp);(have RT:((cl++[cF]).map aV).length=(cl++[cF]).length:=aa _);refine Gh.soft 5 (Gc _ cl cF) (Gh.go ?_))|(show ay _ 53 _ _ _ _;(have _:=ZK);refine BO jA (by omega) (by unfold lJ;omega) rfl rfl rfl (fun w s9 jA hw0 hw1=>?_);rw[RT]at hw1;(have hw2:=hw1 (by omega));(have hE9:=jA.expr ⟨t,a⟩ 6 false 3);(have hC9:=zf);(have hP9:=hD9.put (i:=w.toNat) (by omega) (nU t a false ⟨s9,3⟩)))|(show Gh _ _ _ _ _;(have _:=hP9);refine Gh.go ⟨((r,(cl++[cF]).set w.toNat ⟨((cl++[cF]).getD w.toNat c0).left,(bY ⟨t,a⟩ 6 false ⟨s9,3⟩).1,((cl++[cF]).getD w.toNat c0).l8,((cl++[cF]).getD w.toNat c0).ref,((cl++[cF]).getD w.toNat c0).steps⟩,(bY ⟨t,a⟩ 6 false ⟨s9,3⟩).2.s):List Int × List bV × Src),(by exact⟨ha.2.2.1,by show r.length≤2;omega,hP9,hE9.mono (by omega)⟩),?_⟩)|(show Gh _ _ _ _ _;(have _:=ZK);(have _:=‹¬wr>0›);refine Gh.go ⟨((r,cl++[cF],sF):List Int × List bV × Src),(by exact⟨ha.2.2.1,by show r.length≤2;omega,hD9,jA.mono (by omega)⟩),?_⟩)|(show Gh _ _ _ _ _;(have _:=ZK);(have _:=‹wr>0›);(fail_if_success (have _:=w));refine Gh.go ⟨((r,cl++[cF],s'):List Int × List bV × Src),(by exact⟨ha.2.2.1,by show r.length≤2;omega,hD9,jA.mono (by omega)⟩),?_⟩)|(show ay _ 138 _ _ _ _;(obtain⟨cF,sF,yF,QI,MC,Dn,hF⟩:=Fq hs hg jA (by omega) u cl ha.2.2.2.mem (by omega));(have jA:=Dn);refine ay.iY [true,true] _ _ _ rfl hF rfl rfl _ 0 7 5 _ u _ _ _ _ _ _ rfl rfl rfl rfl rfl rfl ?_)
  |refine aI.mk ?_ ?_|(show aZ 6 _ _ _ _ _ _;refine qJ (Src × List Int × List bV × Int) [0,1,3,9,10,12,13] (fun⟨s1,r,cl,k⟩=>[(11, .lw 8),(14,I k)]) (fun⟨s1,r,cl,k⟩=>[(0, .cc 3 (dz s1)),(5, .row none 104 9 (cl.map aV)),(7, .cells [.c (J t), .c (J a), .lw 5]),(8, .row none 2 1 (r.map eI))]) (fun⟨s1,r,cl,k⟩=>(0≤k/\k≤2/\jW s1 (N+10+10*(2-k)))/\(r.length=cl.length/\(r.length:Int)+k≤2)/\DR notes r/\D0 t a cl) (fun⟨s1,r,cl,k⟩=>k.toNat) (s',[],[],v) (by exact⟨⟨by show 0≤v;omega,by show v≤2;omega,jA.mono (by show _≤N+10+10*(2-v);omega)⟩,⟨rfl,by show(0:Int)+v≤2;omega⟩,⟨by simp,by simp⟩,⟨by simp⟩⟩) (fun A ha=>?_);obtain⟨s1,r,cl,k⟩:=A;have ha:(0≤k/\k≤2/\jW s1 (N+10+10*(2-k)))/\(r.length=cl.length/\(r.length:Int)+k≤2)/\DR notes r/\D0 t a cl:=ha;have jA:=ha.1.2.2)
  |(apply Fact.mk;intro hL;try simp only[aa,maxLen]at hL)
  |((apply bX;constructor)<;>intro h<;>(try simp only[aa]at h)<;>(try first|omega|contradiction))|(show ay _ 58 _ _ _ _;refine cG [] rfl (ci) ?_)|(show ay _ 135 _ _ _ _;refine cP rfl (L6 r (ids.getD v.toNat 0)) ?_)|(show ay _ 60 _ _ _ _;refine cP rfl (jd _ false (ids.getD v.toNat 0)) ?_)|(show ay _ 136 _ _ _ _;refine cP rfl (Z1 _ Y1) ?_)|(show ay _ 53 _ _ _ _;refine BO jA (by omega) (by unfold lJ;omega) rfl rfl rfl (fun v s' jA wj RB=>?_))|(show ay _ 76 _ _ _ _;refine XD jA (by omega) (by unfold lJ;omega) rfl rfl rfl (fun v s' jA=>?_))|(show ay _ 137 _ _ _ _;(first|refine ay.own _ _ rfl (Ke _ Y1) (jw _) _ rfl ?_|refine ay.own _ _ rfl (hoR _ Y1) (jw _) _ rfl ?_))|(show ay _ 139 _ _ _ _;refine ay.gen [true,false,false] _ _ _ rfl (GR ⟨t,a⟩ hg _ (jA.rd.mono (by omega)) jA.len 3 (by decide)) rfl rfl _ rfl ?_)
  |refine aR ?_|(show Index _ _ _;first|(refine Index.mk _ (si) ?_)|(refine Index.mk _ (aN (l:=ids) (d:=0) (i:=v.toNat) (by omega)) ?_)|(refine Index.mk _ (aN (l:=notes) (d:=n0) (i:=(bf notes false (ids.getD v.toNat 0)).toNat) (by omega)) ?_)|(refine Index.mk _ (aN (l:=cl++[cF]) (d:=c0) (i:=w.toNat) (by omega)) ?_)|fail)
  |refine nB ?_
  |apply jY.go|(show bh _ _;refine bh.mk (by first|((simp only[aa,List.length_cons,List.length_nil,ai,maxLen];first|omega|(constructor<;>omega)))|fail) ?_)
  |refine nO ?_)
 all_goals first|rfl|exact⟨rfl,trivial⟩|exact⟨rfl,rfl,trivial⟩|trivial|(simp only[List.map_set];rfl)
end
noncomputable def tw(b:Bool):Nat->Src->List Bool->List Bool × Src
 |0,s,o=>(o,s)
 |i+1,s,o=>tw b i (aJ s 5) (o.set (cx s 5).toNat (!b))
theorem Ck(b:Bool):∀(i:Nat) (s:Src) (o:List Bool),(tw b i s o).1.length=o.length
 |0,_,_=>rfl
 |i+1,s,o=>by rw[tw,Ck b i,af]
theorem F8(b:Bool){N:Int}:∀(i:Nat) {s:Src} (o:List Bool),jW s N->jW (tw b i s o).2 (N+2*i)
 |0,_,_,h=>h.mono (by omega)
 |i+1,s,o,h=>by
  rw[tw];exact((F8 b (N:=N+2) i _ (h.pick 5))).mono (by omega)
noncomputable def qh(s:Src)(b:Bool)(f:Int):List Bool × Src:=tw b (cx s (f+1)).toNat (aJ s (f+1)) (List.replicate 5 b)
theorem J3(s:Src)(b:Bool)(f:Int):(qh s b f).1.length=5:=by
 unfold qh;rw[Ck];rfl
theorem M7{s:Src}{N:Int}(h:jW s N)(b:Bool){f:Int}(hf:0≤f/\f≤5):jW (qh s b f).2 (N+20):=by
 have h1:=cV s (n:=f+1) (by omega);exact(F8 b _ _ (h.pick (f+1))).mono (by omega)
theorem yq{s:Src}{N:Int}(hS:jW s N)(hN:N≤500000000)(b:Bool){f:Int}(hf:0≤f/\f≤5):
 aE prog 111 [.c (.op (dz s)),B b,I f] [some [.op (dz (qh s b f).2)],none,none] (.c (.ows 4 1 ((qh s b f).1.map eB))):=by
 have cp:=dx s (hS.rd.mono (by omega)) hS.len (f+1) (by unfold lJ;omega);have bp:=cV s (n:=f+1) (by omega);have Im:=hS.pick (f+1);obtain⟨R,hR⟩:∃R,qh s b f=R:=⟨_,rfl⟩
 rw[hR];unfold qh at hR;generalize cx s (f+1)=m at cp bp hR;generalize aJ s (f+1)=s1 at cp Im hR;obtain⟨k,rfl⟩:∃k:Nat,m=(k:Int):=⟨m.toNat,by omega⟩
 rw[Int.toNat_natCast]at hR;refine cX func111 (h:=?_)
 repeat'((conv=>whnf);first
  |(show ay _ 53 _ _ _ _;(have _:=hT);(obtain⟨j,rfl⟩:∃j,i=j+1:=⟨i-1,by omega⟩);(have c5:=dx s2 (NZ.rd.mono (by omega)) NZ.len 5 (by unfold lJ;omega));(have b5:=cV s2 (n:=5) (by omega));(have hS5:=NZ.pick 5);rw[tw]at hT;generalize cx s2 5=w at c5 b5 hT;generalize aJ s2 5=s5 at c5 hS5 hT;refine ay.gen [true,false] _ _ _ rfl c5 rfl rfl _ rfl ?_)|(show aI _ _;(have h9:=‹¬z>0›);(obtain rfl:i=0:=by omega);(obtain rfl:(o,s2)=R:=hT);exact aI.mk rfl ⟨rfl,trivial⟩)|(show aZ 3 _ _ _ _ _ _;refine qJ (Nat × List Bool) [0,1,2] (fun⟨i,o1⟩=>[(7, .lw 2),(8,I (i:Nat))]) (fun⟨i,o1⟩=>[(2, .row none 4 1 (o1.map eB))]) (fun⟨i,o1⟩=>i≤5/\o1=List.replicate i b) (fun⟨i,o1⟩=>5-i) (0,[]) (by exact⟨ah _,rfl⟩) (fun A ha=>?_);obtain⟨i,o1⟩:=A;have ha:i≤5/\o1=List.replicate i b:=ha;(obtain⟨R5,yE⟩:=ha);(have sU:(o1.map eB).length≤5:=by rw[yE,aa,List.length_replicate];exact R5);(have aeE:o1.length≤5:=by rw[yE,List.length_replicate];exact R5))|(show aZ 7 _ _ _ _ _ _;refine qJ (Int × Nat × Src × List Bool) [0,1,7] (fun⟨z,i,s2,o⟩=>[(9,I z)]) (fun⟨z,i,s2,o⟩=>[(0, .cc 3 (dz s2)),(2, .row none 4 1 (o.map eB))]) (fun⟨z,i,s2,o⟩=>z=(i:Nat)/\i≤k/\o.length=5/\tw b i s2 o=R/\jW s2 (N+2+2*((k:Int)-i))) (fun⟨z,i,s2,o⟩=>i) ((k:Int),k,s1,o1) (by exact⟨rfl,aw _,by(have h5:i=5:=by omega);rw[yE,h5];rfl,by(have h5:i=5:=by omega);show tw b k s1 o1=R;rw[yE,h5];exact hR,Im.mono (by show _≤N+2+2*((k:Int)-(k:Int));omega)⟩) (fun A ha=>?_);obtain⟨z,i,s2,o⟩:=A;have ha:z=(i:Nat)/\i≤k/\o.length=5/\tw b i s2 o=R/\jW s2 (N+2+2*((k:Int)-i)):=ha;(obtain⟨hz,hi,ho,hT,NZ⟩:=ha);(have hml:(o.map eB).length=o.length:=aa _))
  |refine nx ((i+1,o1++[b]):Nat × List Bool) (by exact⟨by show i+1≤5;omega,by show o1++[b]=_;rw[yE,List.replicate_succ']⟩)
  |refine nx ((z-1,j,s5,o.set w.toNat (!b)):Int × Nat × Src × List Bool) (by exact⟨by show z-1=_;omega,by show j≤k;omega,by show(o.set _ _).length=5;rw[af];exact ho,hT,hS5.mono (by show _≤N+2+2*((k:Int)-(j:Int));omega)⟩)
  |(apply Fact.mk;intro hL;try simp only[aa,maxLen]at hL)
  |((apply bX;constructor)<;>intro h<;>(try simp only[aa]at h)<;>(try first|omega|contradiction))|(show ay _ 53 _ _ _ _;refine cG [true,false] rfl (cp) ?_)
  |refine aR ?_
  |refine iX (k:=?_)|(show bh _ _;refine bh.mk (by first|((simp only[aa,List.length_cons,List.length_nil,maxLen];first|omega|(constructor<;>omega)))|fail) ?_))
 all_goals first|rfl|exact⟨rfl,trivial⟩|exact⟨rfl,rfl,trivial⟩|trivial
theorem vo{α:Type}{p:α->Bool}{l:List α}(h:0≤j1 p l):∃hi:(j1 p l).toNat<l.length,p (l[(j1 p l).toNat]'hi)=true:=by
 rcases vF p l with⟨h1,_⟩|⟨i,hi,h1,h2,h3⟩
 ·omega
 ·rw[h1];exact⟨by simpa using hi,by simpa using h2⟩
theorem eqQ(x y:b7):eqv x y=(eqv x.left y.left&&eqv x.right y.right):=by
 cases x;cases y;refine Bool.eq_iff_iff.2 ?_;simp
theorem tB(x y:b7):aS prog 141 [.c (.rp 6 (bm x)), .c (.rp 6 (bm y))] (B (eqv x y)):=by
 rw[eqQ];refine cF func141 (h:=?_)
 repeat'((conv=>whnf);first
  |(apply bP.mk;first|(simp_all[dj,dh];done)|skip)
  |((apply bX;constructor)<;>intro h<;>(try simp only[aa]at h)<;>(try first|omega|contradiction))|(show ay _ 51 _ _ _ _;refine cP rfl (oD _ _ _ _ 6 (by decide)) ?_)|(show ay _ 51 _ _ _ _;refine cP rfl (oD _ _ [] [] 3 (by decide)) ?_)
  |refine nB ?_)
theorem rK{α:Type}{f:α->Nat}{n:Nat}:∀{l:List α},(∀x∈l,f x≤n)->dA f l≤n*l.length
 |[],_=>ah _
 |x::xs,h=>by
  have h1:=h x (by simp);have h2:=rK (f:=f) (n:=n) (l:=xs) fun y hy=>h y (by simp[hy])
  simp only[dA,List.length_cons,Nat.mul_succ];omega
theorem QZ{t a:Int}{s:aP}(h:dv t a s=true):cq s≤1500:=by
 have h2:=kE h;simp only[dv,ab,decide_eq_true_eq]at h;have h3:=rK (f:=aH) (n:=200) (l:=s.aK) fun x hx=>dU (h2.1 x hx)
 have h4:=rK (f:=aH) (n:=200) (l:=s.dy) fun x hx=>dU (h2.2 x hx)
 unfold cq fU;omega
theorem Cn{t a:Int}{c:bV}{n:Nat}(h:c7 t a c=true)(hn:c.steps.length≤n)(_h2:n≤2):cB c≤400+1501*n:=by
 have hc:=mj h;have h1:=dU hc.1;have h3:=dU hc.2.1;have h4:=rK (f:=cq) (n:=1500) (l:=c.steps) fun x hx=>QZ (hc.2.2.2 x hx)
 unfold cB fU;omega
theorem Qn{t a:Int}{n:Nat}{l:List bV}(h:DC t a n l)(hn:n≤2):cL ⟨⟨t,a⟩,l⟩≤5000:=by
 have hl:=h.len;have h1:dA cB (l.take n)≤400*(l.take n).length:=rK fun x hx=>by
  obtain⟨i,hi,rfl⟩:=List.mem_iff_getElem.1 hx;rw[aq]at hi;have h2:=h.ok i (by omega);rw[getD_eq (by omega)]at h2;rw[List.getElem_take];have:=Cn (n:=0) h2.1 (by rw[h2.2.2.2 (by omega)];exact aw _) (by omega);omega
 have h2:=h.ok n (by omega);have h3:dA cB l=dA cB (l.take n)+cB (l.getD n c0):=by
  have h4:=xw (f:=cB) (l:=l) (i:=n) (x:=l.getD n c0) (by rw[getD_eq (by omega)];exact List.getElem?_eq_getElem _);rwa[ar (by omega)]at h4
 have h4:=Cn (n:=2) h2.1 h2.2.2.1 (by omega);rw[aq]at h1;unfold cL fU JL;show 0+(l.length+dA cB l)≤5000;omega
theorem Qg{t a:Int}{n:Nat}{l:List bV}(h:DC t a n l):∀c∈l,c7 t a c=true/\c.l8=1:=fun c hc=>by
 obtain⟨i,hi,rfl⟩:=List.mem_iff_getElem.1 hc;have:=h.ok i hi;rw[getD_eq hi]at this;exact⟨this.1,this.2.1⟩
theorem Jj{t a:Int}(hs:cE t a=true){notes:List aT}(hg:cS t a notes=true){r:List Int}{l:List bV}(hr:DR notes r)(h2:r.length≤2)(hd:DC t a r.length l):dE t a r ⟨⟨t,a⟩,l⟩=true:=by
 have hl:=hd.len;have hb:=Qn hd h2;have hp:=FH ⟨⟨t,a⟩,l⟩;have hm:=Qg hd;have hgp:dT ⟨⟨t,a⟩,l⟩=true:=by
  simp only[dT,ab,decide_eq_true_eq,aj];exact⟨hs,by omega,fun c hc=>(hm c hc).1⟩
 have ha:r.all (ee 0 99)=true:=aj.2 fun x hx=>by
  have:=pB hg false x (lX.2 (hr.kn x hx));exact eL this.1 this.2
 simp only[dE,ab,decide_eq_true_eq,beq_self_eq_true,true_and];exact⟨by omega,hr.nd,ha,hgp,by omega,by omega⟩
theorem uI{t a:Int}{notes:List aT}(hg:cS t a notes=true){x:Int}(hx:0≤bf notes false x):cU t a (notes.getD (bf notes false x).toNat n0)=true/\(notes.getD (bf notes false x).toNat n0).bT=false/\bf notes false x<(notes.length:Nat):=by
 obtain⟨hi,hp⟩:=vo (p:=ef false x) (l:=notes) hx;have h1:=xu hg hi;unfold bf at hx⊢;rw[getD_eq hi];simp only[ef,ab,beq_iff_eq]at hp;exact⟨h1.1,hp.1,by omega⟩
theorem Ad{t a:Int}{n:aT}(h:cU t a n=true)(hr:n.bT=false):0<n.entry.proof.aG.length/\n.entry.proof.aG.length≤40/\bz t a (jK n.entry).left=true/\bz t a (jK n.entry).right=true:=by
 have h1:=(U7 h).aG hr;refine⟨h1.1,h1.2,?_⟩;unfold cU at h;rw[hr]at h;simp only[Bool.false_eq_true,if_false,ab,dE,beq_iff_eq]at h;obtain⟨_,_,_,_,_,h4,⟨e1,e2⟩,_⟩:=h;simp only[dT,ab,aj]at h4;have hm:x7 n.entry∈n.entry.proof.aG:=by
  unfold x7;rw[getD_eq (by omega)];exact ag _
 have h5:=mj (h4.2.2 _ hm);rw[e1,e2]at h5;exact⟨h5.1,h5.2.1⟩
section
variable{A:aB}(hG:GB A)
include hG
theorem GB.in_:0≤A.sig.aK/\A.sig.aK≤3/\0≤A.sig.aF/\A.sig.aF≤4:=by
 have h:=hG.sig;simp only[cE,ee,ab,decide_eq_true_eq]at h;omega
theorem yp{s:Src}{N:Int}(hS:jW s N)(hN:N≤300000000){sv wr:Int}(hp:bW A sv=true)(hw:0≤wr/\wr≤100):
 gW prog 109 [.c (.op (dz s)), .c (.op (aW A)),I sv,I wr]
  (fun x:List Int × List bV × Src=>DR (sA A sv).notes x.1/\x.1.length≤2/\DC A.sig.aK A.sig.aF x.1.length x.2.1/\jW x.2.2 (N+400000))
  (fun x=>[some [.op (dz x.2.2)],some [.op (aW A)],none,none]) (fun x=> .tup [.c (.ows 2 1 (x.1.map eI)), .a 3 [J A.sig.aK,J A.sig.aF, .ows 104 9 (x.2.1.map aV)]]):=by
 have hl:=kZ hp;have wm:=hG.srv _ (jD hp);have hn:=wm.lH;have hm:∀x∈(fF 100 fun i=>decide (0≤bf (sA A sv).notes false i)),0≤bf (sA A sv).notes false x:=fun x hx=>by
  unfold fF at hx;obtain⟨i,hi,rfl⟩:=List.mem_map.1 hx;exact of_decide_eq_true (List.mem_filter.1 hi).2
 exact zS (t:=A.sig.aK) (a:=A.sig.aF) (srv:=A.az) (fl:=A.aL) (notes:=(sA A sv).notes) (up:=(sA A sv).up) (sav:=(sA A sv).saved) hG.sig hG.in_ hl.1 (by omega) (aN (d:=ck) (by omega)) wm.IG hw (jI 100 _) (fun x hx=>⟨hm x hx,(uI hn (hm x hx)).2.2⟩) (sw _ _)
  (fun x hx=>by
   have h1:=uI hn (hm x hx);have h2:=Ad h1.1 h1.2.1;exact yb _ h2.1 (by omega))
  (fun x hx=>by
   have h1:=uI hn (hm x hx);have h2:=Ad h1.1 h1.2.1;exact h2.2.2) hS hN
theorem F3{sv:Int}(hp:bW A sv=true){r:List Int}{l:List bV}(hr:DR (sA A sv).notes r)(h2:r.length≤2)(hd:DC A.sig.aK A.sig.aF r.length l):
 aS prog 110 [.c (.rp 3 (cZ (sA A sv))), .c (.ro 1 (r.map eI)), .c (.rp 3 (dk ⟨A.sig,l⟩))] (B (I2 (sA A sv).notes r ⟨A.sig,l⟩)):=by
 have wm:=hG.srv _ (jD hp);have hn:=wm.lH;have hl:=hd.len;have hm:=Qg hd;have hk:∀i,i<r.length->0≤bf (sA A sv).notes false (r.getD i 0):=fun i hi=>hr.kn _ (by rw[getD_eq hi];exact ag _)
 exact JD (sv:=sA A sv) (p:=⟨A.sig,l⟩) (by show r.length≤l.length;omega) (by show l.length≤40;omega) (by omega) (fun i hi=>⟨hk i hi,(uI hn (hk i hi)).2.2⟩)
  (fun i hi=>by
   have h1:=uI hn (hk i hi);have h3:=Ad h1.1 h1.2.1;exact yb _ h3.1 (by omega))
  (fun i hi=>tB _ _)
  (fun k h1 h3=>GX hG.sig hG.in_ (fun c hc=>(hm c hc).1) h3 (by omega) (by
   show(l.getD k c0).l8=1;rw[getD_eq h3];exact(hm _ (ag _)).2))
end
end Go.Proofs.YtgbggaddpbghfaaGreat
