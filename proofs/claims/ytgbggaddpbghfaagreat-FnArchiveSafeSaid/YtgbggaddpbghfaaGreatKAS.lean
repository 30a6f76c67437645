/- Contract of the reference's draw of an entry and its votes: there is a valid event. Conditions: a valid archive, bounds of what has been read. -/
import Derived.Test.YtgbggaddpbghfaaGreatKAR
namespace Go.Proofs.YtgbggaddpbghfaaGreat
open Go Go.KA Go.Proofs Go.Proofs.Tryz
set_option maxHeartbeats 16000000
set_option maxRecDepth 100000
def AG(e:bH):List CV:=[J e.kind,J e.a,J e.b,J e.c, .ows 2 1 (e.bI.map eI),J e.proof.sig.aK,J e.proof.sig.aF, .ows 104 9 (e.proof.aG.map aV), .ows 4 1 (e.nH.map eB)]
structure yy(t a:Int)(e:bH):Prop where
 lH:cK t a e=true
 Tw:gi e≤5100
section
variable{A:aB}(hG:GB A)
include hG
theorem Pw{sv:Int}(hp:bW A sv=true){r:List Int}{l:List bV}{v:List Bool}(hr:DR (sA A sv).notes r)(h2:r.length≤2)(hd:DC A.sig.aK A.sig.aF r.length l)(hv:v.length=5):yy A.sig.aK A.sig.aF ⟨1,sv,0,0,r,⟨A.sig,l⟩,v⟩:=by
 have h5:=bQ hG.n5;have h6:=bQ hp;have hb:cL ⟨A.sig,l⟩≤5000:=Qn hd h2;refine⟨?_,?_⟩
 ·have he:dE A.sig.aK A.sig.aF r ⟨A.sig,l⟩=true:=Jj hG.sig (hG.srv _ (jD hp)).lH hr h2 hd;simp only[cK,ab,Bool.or_eq_true,decide_eq_true_eq,if_true];exact⟨by decide,eL (by omega) (by omega),by decide,by decide, .inr (.inr trivial), .inr trivial,he,by rw[hv];rfl⟩
 ·show r.length+cL ⟨A.sig,l⟩+v.length≤5100;omega
theorem Bg{s:Src}{N:Int}(hS:jW s N)(hN:N≤300000000){sv wr f:Int}(hp:bW A sv=true)(hw:0≤wr/\wr≤100)(hf:0≤f/\f≤5):
 gW prog 75 [.c (.op (dz s)), .c (.op (aW A)),I sv,I wr,I f]
  (fun x:bH × Src=>yy A.sig.aK A.sig.aF x.1/\jW x.2 (N+400100)) (fun x=>[some [.op (dz x.2)],some [.op (aW A)],none,none,none]) (fun x=> .a 9 (AG x.1)):=by
 have hl:=kZ hp;have si:(A.az.map cZ)[sv.toNat]? =some (cZ (sA A sv)):=aN (d:=ck) (by omega);generalize hX:sA A sv=X at si;obtain⟨up,RK,sav⟩:=X;refine WH func75 (h:=?_)
 repeat'((conv=>whnf);first
  |(show Gh _ _ _ _ _;refine Gh.go ⟨((⟨1,sv,0,0,r,⟨A.sig,cl⟩,(qh s1 (I2 RK r ⟨A.sig,cl⟩) f).1⟩,(qh s1 (I2 RK r ⟨A.sig,cl⟩) f).2):bH × Src),⟨hP _,(hV2 _).mono (by omega)⟩,?_⟩)
  |refine aI.mk ?_ ?_|(show ay _ 110 _ _ _ _;refine cP rfl (hR) ?_)|(show ay _ 111 _ _ _ _;refine cG [true,false,false] rfl (hV _) ?_)|(show ay _ 109 _ _ _ _;refine ay.ex rfl [true,true,false,false] _ _ _ _ rfl (yp hG hS hN hp hw) rfl rfl (fun x hx=>?_);(obtain⟨r,cl,s1⟩:=x);(obtain⟨x1,x2,x3,x4⟩:=hx);(have hR:=F3 hG hp x1 x2 x3);rw[hX]at hR;(have hV:=fun b=>yq x4 (by omega) b hf);(have hV2:=fun b=>M7 x4 b hf);(have hP:=fun b=>Pw hG hp x1 x2 x3 (J3 s1 b f));(try simp only[]at x2 hR hV hV2 hP))|(show Index _ _ _;first|(refine Index.mk _ (si) ?_)|fail)
  |refine nB ?_
  |refine nO ?_)
 all_goals first|rfl|exact⟨rfl,trivial⟩|exact⟨rfl,rfl,trivial⟩|trivial
end
theorem Tj{t a k x y z:Int}(hk:2≤k/\k≤9)(hx:0≤x/\x≤999)(hy:0≤y/\y≤999)(hz:0≤z/\z≤999)(h2:k=2\/k=3\/y=0)(h3:k=3\/z=0):yy t a ⟨k,x,y,z,[],⟨⟨0,0⟩,[]⟩,[]⟩:=by
 refine⟨?_,by show(0:Nat)+(0+(0+0))+0≤5100;omega⟩;simp only[cK,ab,Bool.or_eq_true,decide_eq_true_eq];refine⟨eL (by omega) (by omega),eL hx.1 hx.2,eL hy.1 hy.2,eL hz.1 hz.2,h2,h3,?_⟩;rw[if_neg (by omega)];rfl
section
variable{A:aB}(hG:GB A)
include hG
theorem WG{at_:Int}(hp:bW A at_=true){x:Int}(hx:x∈(fF 100 fun i=>decide (0≤bf (sA A at_).notes false i))):0≤x/\x≤99:=by
 unfold fF at hx;obtain⟨i,hi,rfl⟩:=List.mem_map.1 hx;have:=of_decide_eq_true (List.mem_filter.1 hi).2;exact pB (hG.srv _ (jD hp)).lH false _ (lX.2 this)
omit hG in
theorem Sg{ids:List Int}(h:∀x∈ids,0≤x/\x≤99):∀i:Nat,0≤ids.getD i 0/\ids.getD i 0≤999:=fun i=>by
 by_cases hi:i<ids.length
 ·have:=h _ (ag hi);rw[getD_eq hi];omega
 ·have e:ids.getD i 0=0:=by simp[List.getElem?_eq_none (show ids.length≤i by omega)]
  rw[e];omega
theorem qz{s:Src}{N:Int}(jA:jW s N)(hN:N≤200000000){f:Int}(hf:0≤f/\f≤5):
 gW prog 36 [.c (.op (dz s)), .c (.op (aW A)),I f]
  (fun x:bH × Src=>yy A.sig.aK A.sig.aF x.1/\jW x.2 (N+401000)) (fun x=>[some [.op (dz x.2)],some [.op (aW A)],none]) (fun x=> .a 9 (AG x.1)):=by
 have hn5:=bQ hG.n5;have aep:=hG.f12;have RD:(A.az.map cZ).length=A.az.length:=aa _;have Nz:(A.aL.map bN).length=A.aL.length:=aa _;have aaQ:∀i:Int,0≤i->i<(A.az.length:Nat)->(A.az.map cZ)[i.toNat]? =some (cZ (sA A i)):=fun i h1 h2=>aN (d:=ck) (by omega)
 have aaP:∀i:Int,0≤i->i<(A.az.length:Nat)->bW A i=true:=fun i h1 h2=>eL h1 (by omega)
 refine WH func36 (h:=?_)
 repeat'((conv=>whnf);first
  |(show ay _ 73 _ _ _ _;(fail_if_success (have _:=kd));refine Kk (l:=[1,1,1,2,3,3,3,3,4,4,4,4,5,6,7,7,7,8,9,9]) jA (by omega) ⟨by decide,by decide⟩ rfl rfl rfl (fun kd s' jA Ry=>?_);(have hkr:1≤kd/\kd≤9:=by simp at Ry;omega))|(show ay _ 53 _ _ _ _;(fail_if_success (have _:=pl));refine BO jA (by omega) (by unfold lJ;omega) rfl rfl rfl (fun pl s' jA MT hp1=>?_);rw[RD]at hp1;(have hp2:=hp1 (by omega));(have dV:=aaP pl MT hp2);(have si:=aaQ pl MT hp2);(have wm:=hG.srv _ (jD dV));(have Bd:=wm.IG);(have ci:=sw (sA A pl).notes false);(have ZQ:=fun x=>WG hG dV (x:=x));(have Zp:=jI 100 fun i=>decide (0≤bf (sA A pl).notes false i));generalize hX:sA A pl=X at si Bd ci ZQ Zp;(obtain⟨up,RK,sav⟩:=X);(try simp only[]at Bd ci ZQ Zp);generalize(fF 100 fun i=>decide (0≤bf RK false i))=ids at ci ZQ Zp;(have hl3:(ids.map eI).length=ids.length:=aa _);(have hq9:=Sg ZQ);(have hl4:(RK.map bG).length=RK.length:=aa _);(have cm:=MH 1 ((RK.map bG).length:Nat));generalize hm:(if(1:Int)>((RK.map bG).length:Nat)then(1:Int)else((RK.map bG).length:Nat))=m at cm;(have RC:1≤m/\m≤20:=by rw[<-hm];split<;>omega))|(show Gh _ _ _ _ _;(have _:=XA);refine Gh.go ⟨((xe,xs):bH × Src),⟨XA.1,XA.2.mono (by omega)⟩,?_⟩)|(show Gh _ _ _ _ _;(fail_if_success (have _:=XA));(have _:=‹¬kd=1›);refine Gh.go ⟨((⟨kd,_,_,_,[],⟨⟨0,0⟩,[]⟩,[]⟩,s'):bH × Src),?_,aI.mk rfl ⟨rfl,rfl,trivial⟩⟩)
  |refine aI.mk ?_ ?_
  |(apply Fact.mk;intro hL;try simp only[aa,maxLen]at hL)
  |((apply bX;constructor)<;>intro h<;>(try simp only[aa]at h)<;>(try first|omega|contradiction))|(show ay _ 58 _ _ _ _;refine cG [] rfl (ci) ?_)|(show ay _ 77 _ _ _ _;refine cP rfl (cm) ?_)|(show ay _ 73 _ _ _ _;refine Kk (l:=[5,99,999]) jA (by omega) ⟨by decide,by decide⟩ rfl rfl rfl (fun w s' jA hw=>?_);(have Xf:0≤w/\w≤999:=by simp at hw;omega))|(show ay _ 53 _ _ _ _;refine BO jA (by omega) (by unfold lJ;omega) rfl rfl rfl (fun v s' jA wj RB=>?_))|(show ay _ 76 _ _ _ _;refine XD jA (by omega) (by unfold lJ;omega) rfl rfl rfl (fun v s' jA=>?_))|(show ay _ 75 _ _ _ _;refine ay.ex rfl [true,true,false,false,false] _ _ _ _ rfl (Bg hG jA (by omega) dV (wr:=5) (by omega) hf) rfl rfl (fun x hx=>?_);(obtain⟨xe,xs⟩:=x);(have XA:=hx))
  |refine aR ?_|(show Index _ _ _;first|(refine Index.mk _ (si) ?_)|(refine Index.mk _ (aN (l:=ids) (d:=0) (i:=v.toNat) (by omega)) ?_)|fail)|(show bh _ _;refine bh.mk (by first|((simp only[aa];first|omega|(constructor<;>omega)))|fail) ?_)
  |refine nO ?_)
 all_goals first|exact⟨Tj (by omega) (by omega) (by first|omega|exact hq9 _) (by omega) (by omega) (by omega),jA.mono (by omega)⟩|(have _:=XA;first|rfl|exact⟨rfl,rfl,trivial⟩)
end
def Small(a:aB):Prop:=∀x∈fC a,bU x≤5100
section
variable{a:aB}(hG:GB a)(h:Small a)
include hG h
omit hG in
theorem su{i:Int}{s:bj}(hs:∀x∈s.notes,bU x≤5100):Small (jE a i s):=fun x hx=>by
 rcases yT hx with h1|h1
 ·exact h x h1
 ·exact hs x h1
omit hG in
theorem pa{i:Int}(hi:bW a i=true):∀x∈(sA a i).notes,bU x≤5100:=fun x hx=>h x (dd.2 (.inl ⟨_,jD hi,hx⟩))
omit hG in
theorem w1{i:Int}(hi:bW a i=true){n:aT}(hn:bU n≤5100):Small (jE a i (mf (sA a i) n)):=su h fun x hx=>by
 rcases ao.1 hx with h1|h1
 ·exact pa h hi x h1
 ·obtain rfl:=List.mem_singleton.1 h1;exact hn
omit hG in
theorem BL{l:List c8}(hl:∀p∈l,bU p.note≤5100):Small ⟨a.sig,a.az,l⟩:=fun x hx=>by
 rcases dd.1 hx with⟨s,hs,h1⟩|⟨p,hp,rfl⟩
 ·exact h x (dd.2 (.inl ⟨s,hs,h1⟩))
 ·exact hl p hp
omit hG in
theorem sL{p:c8}(hp:p∈a.aL):bU p.note≤5100:=h _ (dd.2 (.inr ⟨p,hp,rfl⟩))
omit hG in
theorem AV(i:Int):Small (fv a i).2:=by
 unfold fv;split
 ·exact h
 ·refine BL h fun p hp=>?_
  rcases ao.1 hp with hp|hp
  ·exact sL h (List.mem_of_mem_take hp)
  ·exact sL h (List.mem_of_mem_drop hp)
theorem As{i:Int}(hi:0≤i):Small (dg a i).2:=by
 unfold dg;split
 ·exact h
 ·rename_i h1;have hp:iJ a i∈a.aL:=by
   show a.aL.getD i.toNat lF∈_;rw[getD_eq (by omega)];exact ag _
  split
  ·exact h
  ·split
   ·exact h
   ·exact w1 h (hG.place hp) (sL h hp)
theorem wN{e:bH}(he:cK a.sig.aK a.sig.aF e=true)(hb:gi e≤5100):Small (lj a e).2:=by
 have hr:(0≤e.a)/\0≤e.c:=by
  simp only[cK,ab]at he;have h1:=bQ he.2.1;have h2:=bQ he.2.2.2.1;omega
 unfold lj;split
 ·unfold fV;split
  ·exact AV (As hG h hr.1) _
  ·exact h
 split
 ·exact As hG h hr.1
 split
 ·exact AV h _
 split
 ·exact h
 rename_i hp;have hp:bW a e.a=true:=by simpa using hp
 split
 ·unfold fq;split
  ·exact h
  split
  ·exact h
  split
  ·exact h
  ·refine w1 h hp ?_;unfold gi at hb;show e.bI.length+cL e.proof≤5100;omega
 split
 ·unfold cT;split
  ·exact h
  split
  ·exact h
  split
  ·exact h
  ·exact w1 h hp (by show(0:Nat)+(0+(0+0))≤5100;omega)
 split
 ·unfold dR;split
  ·exact h
  split
  ·exact h
  split
  ·exact h
  ·rename_i h1 h2 h3;refine BL h fun p hq=>?_
   rcases ao.1 hq with hq|hq
   ·exact sL h hq
   ·obtain rfl:=List.mem_singleton.1 hq;simp only[Bool.or_eq_true,decide_eq_true_eq,not_or]at h1;refine pa h hp _ ?_;show(sA a e.a).notes.getD e.c.toNat n0∈_;rw[getD_eq (by omega)];exact ag _
 ·unfold jf;split
  ·exact h
  split
  ·exact su h (pa h hp)
  split
  ·exact su h fun x hx=>pa h hp x (List.mem_of_mem_take hx)
  ·exact su h (pa h hp)
end
theorem lQ{a:aB}(hG:GB a)(h:Small a):bS a≤600000:=by
 have h5:=bQ hG.n5;have hf:=hG.f12;have h1:dA db a.az≤102100*a.az.length:=rK fun s hs=>by
  have Bd:=(hG.srv s hs).IG;have h2:dA bU s.notes≤5100*s.notes.length:=rK fun x hx=>h x (dd.2 (.inl ⟨s,hs,hx⟩))
  show s.notes.length+dA bU s.notes≤102100;omega
 have h3:dA gG a.aL≤5100*a.aL.length:=rK fun p hp=>h _ (dd.2 (.inr ⟨p,hp,rfl⟩))
 show 0+(a.az.length+dA db a.az)+(a.aL.length+dA gG a.aL)≤600000;omega
theorem Oh(a:aB):pf (cQ a)=aW a:=by
 have h:∀s:bj,pf (cy s)=cZ s:=fun s=>by
  simp only[cZ,pf,mV]
 simp only[aW,pf,mV,cM h]
theorem AB(a:aB)(i:Int):(fv a i).2.sig=a.sig:=by unfold fv;split<;>rfl
theorem AW(a:aB)(i:Int):(dg a i).2.sig=a.sig:=by unfold dg;(repeat' split)<;>rfl
theorem Lj(a:aB)(e:bH):(lj a e).2.sig=a.sig:=by
 unfold lj;split
 ·unfold fV;split
  ·rw[AB,AW]
  ·rfl
 split
 ·exact AW _ _
 split
 ·exact AB _ _
 split
 ·rfl
 split
 ·unfold fq;(repeat' split)<;>rfl
 split
 ·unfold cT;(repeat' split)<;>rfl
 split
 ·unfold dR;(repeat' split)<;>rfl
 ·unfold jf;(repeat' split)<;>rfl
theorem E4(a:aB):dB (cQ a) (aW a):=by
 have h:dB (cQ a) (pf (cQ a)):= .same (.same (.ro (.ro .nil)));rwa[Oh]at h
section
variable{A0:aB}(hG0:GB A0)(N8:Small A0){f:Int}(hf:0≤f/\f≤5)
 (oz:∀(A:aB) (s:Src) (N:Int),GB A->jW s N->N≤200000000->gW prog 36 [.c (.op (dz s)), .c (.op (aW A)),I f]
  (fun x:bH × Src=>yy A.sig.aK A.sig.aF x.1/\jW x.2 (N+401000)) (fun x=>[some [.op (dz x.2)],some [.op (aW A)],none]) (fun x=> .a 9 (AG x.1)))
include hG0 N8 hf oz
theorem J6{s:Src}{N:Int}(jA:jW s N)(hN:N≤100000000){k:Nat}(hk:k≤30):
 gW prog 74 [.c (.op (dz s)), .c (.rp 4 (aW A0)),I (k:Nat),I f]
  (fun x:aB × Src=>(GB x.1/\Small x.1/\x.1.sig=A0.sig)/\jW x.2 (N+401000*k)) (fun x=>[some [.op (dz x.2)],none,none,none]) (fun x=> .a 4 (aW x.1)):=by
 have _:=hf;have ho:aE prog 68 [.c (.rp 4 (aW A0))] [] (.a 4 (aW A0)):=(HU A0 (CA.of (by have:=lQ hG0 N8;omega))).soft (.v (.a (E4 A0)));have uo:∀(A:aB) (e:bH),GB A->Small A->yy A.sig.aK A.sig.aF e->aE prog 41 [.c (.op (aW A)), .c (.rp 9 (cj e))] [some [.op (aW A)],none] (.tup [.a 4 (aW (lq A e).2),I (lq A e).1]):=fun A e h1 h2 h3=>by
  have hb:=lQ h1 h2;have he:=EA.of h3.lH (by have:=h3.Tw;omega);exact(A7 A e (WA.of (QO.2 h1) (by omega)) he.1 he.2).soft (.tup (.cons (.a (E4 _)) (.cons .same .nil)))
 have hnx:∀(A:aB) (e:bH),GB A->Small A->yy A.sig.aK A.sig.aF e->(lq A e).1=0->GB (lq A e).2/\Small (lq A e).2/\(lq A e).2.sig=A.sig:=fun A e h1 h2 h3 h4=>by
  unfold lq at h4⊢;split at h4
  ·rename_i h5;rw[if_pos h5];exact⟨zR h1 h3.lH,wN h1 h2 h3.lH h3.Tw,Lj A e⟩
  ·rename_i h5;exact absurd h4 h5
 refine WH func74 (fun ew=>match ew with|6=>true|_=>false) (h:=?_)
 repeat'((conv=>whnf);first
  |(show Gh _ _ _ _ _;(have _:=hE);(fail_if_success (have _:=hg6));(have hg6:=hE);refine Gh.Eg 7 _ rfl (Gh.Eg 8 _ rfl (Gh.Eg 9 _ rfl (Gh.soft 13 (.cc rfl) (Gh.EO 13 _ rfl (Gh.go ?_))))))|(show Gh _ _ _ _ _;(have _:=hg6);(have h0:=‹(lq A e).1=0›);(have hn:=hnx A e ha.1.2.1 ha.1.2.2.1 hE h0);refine Gh.go ⟨((i+1,(lq A e).2,s2):Nat × aB × Src),(by exact⟨⟨by show i+1≤k;omega,hn.1,hn.2.1,hn.2.2.trans ha.1.2.2.2⟩,jA.mono (by show _≤N+401000*((i+1:Nat):Int);omega)⟩),(by show k-(i+1)<k-i;omega),(by(repeat'((conv=>whnf)<;>(first|exact trivial|refine⟨?_,?_⟩|kernel_rfl)));done),(by(repeat'((conv=>whnf)<;>(first|exact trivial|refine⟨?_,?_⟩|kernel_rfl)));done),(by(repeat'((conv=>whnf)<;>(first|exact trivial|refine⟨?_,?_⟩|exact rfl)));done)⟩)|(show Gh _ _ _ _ _;(have _:=hg6);(have h0:=‹¬(lq A e).1=0›);refine Gh.go ⟨((i+1,A,s2):Nat × aB × Src),(by exact⟨⟨by show i+1≤k;omega,ha.1.2.1,ha.1.2.2.1,ha.1.2.2.2⟩,jA.mono (by show _≤N+401000*((i+1:Nat):Int);omega)⟩),(by show k-(i+1)<k-i;omega),(by(repeat'((conv=>whnf)<;>(first|exact trivial|refine⟨?_,?_⟩|kernel_rfl)));done),(by(repeat'((conv=>whnf)<;>(first|exact trivial|refine⟨?_,?_⟩|kernel_rfl)));done),(by(repeat'((conv=>whnf)<;>(first|exact trivial|refine⟨?_,?_⟩|exact rfl)));done)⟩)|(show Gh _ _ _ _ _;(fail_if_success (have _:=hE));refine Gh.go ⟨((A,s1):aB × Src),(by exact⟨⟨ha.1.2.1,ha.1.2.2.1,ha.1.2.2.2⟩,jA.mono (by omega)⟩),?_⟩)
  |refine aI.mk ?_ ?_|(show aZ 3 _ _ _ _ _ _;refine qJ (Nat × aB × Src) [0,2,3,8,9] (fun⟨i,A,s1⟩=>[(10,I (i:Nat))]) (fun⟨i,A,s1⟩=>[(0, .cc 3 (dz s1)),(6, .cc 4 (aW A))]) (fun⟨i,A,s1⟩=>(i≤k/\GB A/\Small A/\A.sig=A0.sig)/\jW s1 (N+401000*i)) (fun⟨i,A,s1⟩=>k-i) (0,A0,s) (by exact⟨⟨ah _,hG0,N8,rfl⟩,jA.mono (by show N≤N+401000*((0:Nat):Int);omega)⟩) (fun A ha=>?_);obtain⟨i,A,s1⟩:=A;have ha:(i≤k/\GB A/\Small A/\A.sig=A0.sig)/\jW s1 (N+401000*i):=ha;have jA:=ha.2)
  |((apply bX;constructor)<;>intro h<;>(try simp only[aa]at h)<;>(try first|omega|contradiction))|(show ay _ 68 _ _ _ _;refine cG [] rfl (ho) ?_)|(show ay _ 41 _ _ _ _;refine cG [true,false] rfl (uo A e ha.1.2.1 ha.1.2.2.1 hE) ?_)|(show ay _ 36 _ _ _ _;refine ay.ex rfl [true,true,false] _ _ _ _ rfl (oz A s1 _ ha.1.2.1 jA (by omega)) rfl rfl (fun x hx=>?_);(obtain⟨e,s2⟩:=x);(obtain⟨hE,jA⟩:=hx);(try simp only[]at hE jA))
  |refine aR ?_
  |apply jY.go)
 all_goals first|rfl|exact⟨rfl,trivial⟩|exact⟨rfl,rfl,trivial⟩|trivial
end
def Mv(n:Nat):aB:=⟨⟨1,2⟩,List.replicate n ⟨true,[],0⟩,[]⟩
theorem Ju(n:Nat):Small (Mv n):=fun x hx=>by
 rcases dd.1 hx with⟨s,hs,h⟩|⟨p,hp,rfl⟩
 ·obtain rfl:=List.eq_of_mem_replicate hs;cases h
 ·cases hp
theorem M0{n:Nat}(h1:1≤n)(h5:n≤5):GB (Mv n):=by
 have hl:(Mv n).az.length=n:=List.length_replicate;refine⟨by show cE 1 2=true;decide,eL (by omega) (by omega),ah _,fun s hs=>?_,fun p hp=>(by cases hp),fun x hx=>?_⟩
 ·obtain rfl:=List.eq_of_mem_replicate hs;exact⟨ah _,⟨Int.le_refl _,Int.le_refl _⟩, .inl rfl,rfl⟩
 ·rcases dd.1 hx with⟨s,hs,h⟩|⟨p,hp,rfl⟩
  ·obtain rfl:=List.eq_of_mem_replicate hs;cases h
  ·cases hp
theorem Ng:aE prog 72 [] [] (.a 2 [J 1,J 2]):=by
 refine cX func72 (h:=?_)
 repeat'((conv=>whnf);first
  |refine aI.mk ?_ ?_)
 all_goals first|rfl|trivial
def newRow:List CV:=[.val (.bool true), .ows 51 7 [],J 0]
theorem AN{n:Nat}(h1:1≤n)(h5:n≤5):aE prog 71 [.a 2 [J 1,J 2],I (n:Nat)] [] (.tup [.a 4 [J 1,J 2, .own 47 3 (List.replicate n newRow), .ows 89 8 []],I 0]):=by
 have c1:aS prog 85 [.a 2 [J 1,J 2]] (B true):=by
  have h:=mY 1 2;rwa[show cE 1 2=true by decide]at h
 have c2:aS prog 86 [I (n:Nat),I 1,I 5] (B true):=by
  have h:=ed (n:Nat) 1 5;rwa[show ee 1 5 ((n:Nat):Int)=true from eL (by omega) (by omega)]at h
 refine cX func71 (h:=?_)
 repeat'((conv=>whnf);first
  |refine aI.mk ?_ ?_|(show aZ 7 _ _ _ _ _ _;refine n7 (Nat × List (List CV)) [1,4,6] (fun⟨i,rows⟩=>[(7,I (i:Nat))]) (fun⟨i,rows⟩=>[(5, .aU none 47 3 rows),(9, .cells [.c (J 1), .c (J 2), .lw 5, .lw 4])]) (fun⟨i,rows⟩=>i≤n/\rows=List.replicate i newRow) (fun⟨i,rows⟩=>n-i) (0,[]) (by exact⟨ah _,rfl⟩) (fun A ha=>?_);obtain⟨i,rows⟩:=A;have ha:i≤n/\rows=List.replicate i newRow:=ha;(obtain⟨hi,hr⟩:=ha);(have sU:rows.length≤5:=by rw[hr,List.length_replicate];omega))
  |refine tD ((i+1,rows++[newRow]):Nat × List (List CV)) (by exact⟨by show i+1≤n;omega,by show rows++[newRow]=_;rw[hr,List.replicate_succ']⟩)
  |(apply Fact.mk;intro hL;try simp only[maxLen]at hL)
  |((apply bX;constructor)<;>intro h<;>(try simp only[]at h)<;>(try first|omega|contradiction))|(show ay _ 85 _ _ _ _;refine cP rfl (c1) ?_)|(show ay _ 86 _ _ _ _;refine cP rfl (c2) ?_)
  |refine aR ?_|(show bh _ _;refine bh.mk (by first|((simp only[List.length_cons,List.length_nil,maxLen];first|omega|(constructor<;>omega)))|fail) ?_))
 all_goals first|trivial|(have h9:i=n:=(by omega);rw[hr,h9];rfl)
theorem Be{n:Nat}(h1:1≤n)(h5:n≤5):aE prog 71 [.a 2 [J 1,J 2],I (n:Nat)] [] (.tup [.a 4 (aW (Mv n)),I 0]):=by
 have h:dB [J 1,J 2, .own 47 3 (List.replicate n newRow), .ows 89 8 []] [J 1,J 2,mV (.own 47 3 (List.replicate n newRow)),mV (.ows 89 8 [])]:= .same (.same (.ro (.ro .nil)));have e:mV (.own 47 3 (List.replicate n newRow))= .ro 3 ((Mv n).az.map cZ):=by
  show CV.ro 3 (dD (List.replicate n newRow))=_;rw[show List.replicate n newRow=(Mv n).az.map cy by show _=(List.replicate n _).map cy;rw[List.map_replicate];rfl,cM (g:=cZ) (fun s=>by simp only[cZ,pf,mV])]
 rw[e]at h;exact(AN h1 h5).soft (.tup (.cons (.a h) (.cons .same .nil)))
theorem IW{f:Int}(hf:0≤f/\f≤5)
 (oz:∀(A:aB) (s:Src) (N:Int),GB A->jW s N->N≤200000000->gW prog 36 [.c (.op (dz s)), .c (.op (aW A)),I f]
  (fun x:bH × Src=>yy A.sig.aK A.sig.aF x.1/\jW x.2 (N+401000)) (fun x=>[some [.op (dz x.2)],some [.op (aW A)],none]) (fun x=> .a 9 (AG x.1)))
 {s:Src}{N:Int}(jA:jW s N)(hN:N≤50000000):
  gW prog 34 [.c (.op (dz s)),I f] (fun x:aB × Src=>(GB x.1/\Small x.1/\x.1.sig=⟨1,2⟩)/\jW x.2 (N+20000000)) (fun x=>[some [.op (dz x.2)],none]) (fun x=> .a 4 (aW x.1)):=by
 refine WH func34 (fun ew=>match ew with|2=>true|_=>false) (h:=?_)
 repeat'((conv=>whnf);first
  |(show Gh _ _ _ _ _;(fail_if_success (have _:=hA));refine Gh.EO 7 _ rfl (Gh.go ?_))|(show Gh _ _ _ _ _;(have _:=hA);refine Gh.go ⟨((A,s9):aB × Src),(by exact⟨⟨hA.1,hA.2.1,hA.2.2⟩,Xd.mono (by omega)⟩),?_⟩)
  |refine aI.mk ?_ ?_|(show ay _ 72 _ _ _ _;refine cG [] rfl (Ng) ?_)|(show ay _ 71 _ _ _ _;refine cG [] rfl (Be Y5 hn5) ?_)|(show ay _ 73 _ _ _ _;refine Kk (l:=[1,2,3,3,3,4,5]) jA (by omega) ⟨by decide,by decide⟩ rfl rfl rfl (fun nn s' jA hw=>?_);(have Xf:1≤nn/\nn≤5:=by simp at hw;omega);(obtain⟨n,rfl⟩:∃n:Nat,nn=(n:Int):=⟨nn.toNat,by omega⟩);(have Y5:1≤n:=by omega);(have hn5:n≤5:=by omega))|(show ay _ 53 _ _ _ _;refine BO jA (by omega) (by unfold lJ;omega) rfl rfl rfl (fun vv s' jA wj RB=>?_);(have hv2:=RB (by omega));(obtain⟨k,rfl⟩:∃k:Nat,vv=(k:Int):=⟨vv.toNat,by omega⟩))|(show ay _ 74 _ _ _ _;refine ay.ex rfl [true,false,false,false] _ _ _ _ rfl (J6 (M0 Y5 hn5) (Ju n) hf oz jA (by omega) (k:=k) (by omega)) rfl rfl (fun x hx=>?_);(obtain⟨A,s9⟩:=x);(obtain⟨hA,Xd⟩:=hx);(try simp only[]at hA Xd))
  |apply jY.go)
 all_goals first|rfl|exact⟨rfl,trivial⟩|trivial
theorem DS(code:List UInt8){N:Int}(hN:N≤50000000)(h0:jW (RV code) N){f:Int}(hf:0≤f/\f≤5):
 gW prog 8 [.c (.ro 1 (code.map Nj)),I f] (fun x:aB=>GB x/\Small x/\x.sig=⟨1,2⟩) (fun _=>[none,none]) (fun x=> .a 4 (aW x)):=by
 refine WH func8 (h:=?_)
 repeat'((conv=>whnf);first
  |(show Gh _ _ _ _ _;(have _:=hA);refine Gh.go ⟨A,(by exact hA),?_⟩)
  |refine aI.mk ?_ ?_|(show ay _ 35 _ _ _ _;refine cG [] rfl (Am code) ?_)|(show ay _ 34 _ _ _ _;refine ay.ex rfl [true,false] _ _ _ _ rfl (IW hf (fun A s N h1 h2 h3=>qz h1 h2 h3 hf) h0 hN) rfl rfl (fun x hx=>?_);(obtain⟨A,s9⟩:=x);(obtain⟨hA,Xd⟩:=hx);(try simp only[]at hA Xd)))
 all_goals first|rfl|exact⟨rfl,trivial⟩|trivial
theorem JK{A:aB}(hG:GB A)(code:List UInt8){N:Int}(hN:N≤50000000)(h0:jW (RV code) N){f:Int}(hf:0≤f/\f≤5):
 gW prog 9 [.c (.ro 1 (code.map Nj)), .a 4 (aW A),I f] (fun x:bH=>yy A.sig.aK A.sig.aF x) (fun _=>[none,none,none]) (fun x=> .a 9 (AG x)):=by
 refine WH func9 (h:=?_)
 repeat'((conv=>whnf);first
  |(show Gh _ _ _ _ _;(have _:=hE);refine Gh.go ⟨e,(by exact hE),?_⟩)
  |refine aI.mk ?_ ?_|(show ay _ 35 _ _ _ _;refine cG [] rfl (Am code) ?_)|(show ay _ 36 _ _ _ _;refine ay.ex rfl [true,true,false] _ _ _ _ rfl (qz hG h0 (by omega) hf) rfl rfl (fun x hx=>?_);(obtain⟨e,s9⟩:=x);(obtain⟨hE,Xd⟩:=hx);(try simp only[]at hE Xd)))
 all_goals first|rfl|exact⟨rfl,trivial⟩|trivial
theorem _root_.Go.KA.gW.soft{P:Program}{f:Nat}{args:List SV}{α:Type}{φ:α->Prop}{outs:α->List (Option (List CV))}{r r':α->SV}(h:gW P f args φ outs r)(hs:∀x,AR (r x) (r' x)):gW P f args φ outs r':=by
 refine⟨h.1,fun w ok vs fs h1 h2 h3 h4=>(h.2 w ok vs fs h1 h2 h3 h4).mono ?_⟩;rintro e w' ⟨x,hx,v,fr,fo,he,hg,hn,hb,hr,ho⟩;have V3:=hn;rw[List.nodup_append]at hn;obtain⟨Xq,hf,hd⟩:=(hs x).den hr hn.1;have cH:∀b,zc ok fs (fr++fo) w w' b->zc ok fs (Xq++fo) w w' b:=fun b hb=>⟨hb.1,hb.2.1,fun hm=>hb.2.2 (by
  rcases ao.1 hm with hm|hm
  ·simp[hf.subset hm]
  ·simp[hm])⟩
 refine⟨x,hx,v,Xq,fo,he,hg,V3.sublist (hf.append (List.Sublist.refl _)),fun b fX=>hb b ?_,hd _ cH fun b kg nN=>?_,ho.mono cH⟩
 ·rcases ao.1 fX with hm|hm
  ·simp[hf.subset hm]
  ·simp[hm]
 ·have h5:=hb b (by simp[kg]);refine⟨h5.2,?_,fun hm=>?_⟩
  ·rcases h5.1 with h6|h6
   ·exact .inr (.inl h6)
   ·exact .inr (.inr h6)
  ·rcases ao.1 hm with hm|hm
   ·exact nN hm
   ·exact hn.2.2 b kg b hm rfl
theorem Fh(l:List UInt8):aS prog 7 [.c (.ro 1 (l.map Nj))] (B (decide (4096<l.length))):=by
 have e:((((l.map Nj).length:Nat):Int)>4096)=(4096<l.length):=by rw[aa];exact propext (by omega)
 refine cF func7 (h:=?_)
 repeat'((conv=>whnf);first
  |(apply bP.mk;first|((show B (decide ((((l.map Nj).length:Nat):Int)>4096))=_;simp only[e]);done)|skip)
  |(apply Fact.mk;intro hL;try simp only[aa,maxLen]at hL))
theorem LB(code:List UInt8)(h:code.length≤4096):jW (RV code) 0:=⟨⟨Int.le_refl _,Int.le_refl _⟩,by show code.length≤_;omega⟩
theorem Tz(e:bH):dB (AG e) (cj e):=by
 have h:dB (AG e) [J e.kind,J e.a,J e.b,J e.c,mV (.ows 2 1 (e.bI.map eI)),J e.proof.sig.aK,J e.proof.sig.aF,mV (.ows 104 9 (e.proof.aG.map aV)),mV (.ows 4 1 (e.nH.map eB))]:=
  .same (.same (.same (.same (.ro (.same (.same (.ro (.ro .nil))))))))
 exact h
theorem GB.sav{a:aB}(hG:GB a)(i:Nat)(hi:i<a.az.length):0≤(a.az.getD i ck).saved/\(a.az.getD i ck).saved≤((a.az.getD i ck).notes.length:Int):=by
 rw[getD_eq hi];exact(hG.srv _ (ag hi)).sav
theorem DZ{a:aB}(h:GB a):fM a=true:=(mb a).2 (QO.2 h)
theorem PF(a:aB):dB (gu a) (aW a):=by
 rw[<-MU];exact dB.pf _
section
variable{A:aB}{e:bH}(hG:GB A)(hS:Small A)(hE:yy A.sig.aK A.sig.aF e)
include hG hS hE
theorem Kg:∃(B:aB) (c:Int),qx A e=(c,B)/\
 aE prog 10 [.a 4 (aW A), .a 9 (cj e)] [] (.tup [.a 4 (aW B),I c])/\
 aE prog 11 [.a 4 (aW A), .a 9 (cj e)] [] (.tup [.a 4 (aW B),I c])/\
 (c=0->GB B/\Small B/\B.az.length=A.az.length/\ ∀i,i<A.az.length->l7 (A.az.getD i ck) (B.az.getD i ck)):=by
 have hb:=lQ hG hS;have h5:=hE.Tw;have h1:=zL A e (by omega) (by omega);have h2:=tJ A e (by omega) (by omega);refine⟨(qx A e).2,(qx A e).1,rfl,h1.soft (.tup (.cons (.a (PF _)) (.cons .same .nil))),h2.soft (.tup (.cons (.a (E4 _)) (.cons .same .nil))),fun hc=>?_⟩;have hv:m7 A e=true:=by
  unfold m7;rw[DZ hG,hE.lH];rfl
 unfold qx at hc⊢;rw[if_pos hv]at hc⊢;unfold lq at hc⊢;split at hc
 ·rename_i h;rw[if_pos h];have h5':=bQ hG.n5;exact⟨zR hG hE.lH,wN hG hS hE.lH hE.Tw,(CS hG hE.lH (k:=0) (by omega)).1,fun i hi=>(CS hG hE.lH hi).2⟩
 ·rename_i h;exact absurd hc h
end
section
variable{A:aB}(hG:GB A){i:Int}(hi:0≤i/\i<(A.aL.length:Int))
include hG hi
end
theorem PZ{A:aB}(hG:GB A){e:bH}(he:cK A.sig.aK A.sig.aF e=true):qx A e=lq A e:=by
 unfold qx m7;rw[DZ hG,he];exact if_pos rfl
section
variable{A:aB}(hG:GB A)(hS:Small A)
include hG hS
end
theorem Np{α:Type}{p:α->Bool}{l:List α}{k:Nat}(h:0≤j1 p (l.take k)):j1 p l=j1 p (l.take k)/\j1 p l<k:=by
 rcases vF p (l.take k)with⟨h1,_⟩|⟨i,hi,h1,h2,h3⟩
 ·omega
 ·rw[aq]at hi;have h4:j1 p l=i:=by
   refine vt (show i<l.length by omega) ?_ (by rwa[List.getElem_take]at h2);rw[aj];intro x hx;obtain⟨j,hj,rfl⟩:=List.mem_iff_getElem.1 hx;rw[aq]at hj;have:=h3 j (by omega);rw[List.getElem_take]at this⊢;rw[this];rfl
  omega
def er(l:List aT)(x:Int):aT:=l.getD (bf l false x).toNat n0
def fe(l:List aT)(x:Int):List Int:=(er l x).entry.bI
abbrev known(l:List aT)(x:Int):Prop:=0≤bf l false x
structure VN(l:List aT):Prop where
 bI:∀x,known l x-> ∀z∈fe l x,known l z/\bf l false z<bf l false x
 range:∀r x,0≤bf l r x->0≤x/\x≤99
theorem VN.of{t a:Int}{l:List aT}(hg:cS t a l=true):VN l:=by
 refine⟨fun x hx z hz=>?_,fun r x hx=>pB hg r x (lX.2 hx)⟩;obtain⟨hi,hp⟩:=vo (p:=ef false x) (l:=l) hx;have h1:=(xu hg hi).2.2;have RG:z∈(l[(j1 (ef false x) l).toNat]).entry.bI:=by
  have:er l x=l[(j1 (ef false x) l).toNat]:=getD_eq hi;unfold fe at hz;rwa[this]at hz
 have h2:=aj.1 h1 z RG;unfold Mh at h2;have h2:=of_decide_eq_true h2;unfold bf at h2;obtain⟨h3,h4⟩:=Np h2;unfold known bf;unfold known bf at hx;constructor
 ·rw[h3];exact h2
 ·omega
inductive xB(l:List aT):Int->Int->Prop
 |refl (x:Int):xB l x x
 |head {x y z:Int} (h:y∈fe l x) (ht:xB l y z):xB l x z
theorem xB.tail{l:List aT}{x y z:Int}(h:xB l x y)(hz:z∈fe l y):xB l x z:=by
 induction h with
 |refl x=>exact .head hz (.refl _)
 |head h _ ih=>exact .head h (ih hz)
theorem xB.iff{l:List aT}{x z:Int}:xB l x z↔z=x\/ ∃y∈fe l x,xB l y z:=by
 constructor
 ·intro h;cases h with
  |refl=>exact .inl rfl
  |head h ht=>exact .inr ⟨_,h,ht⟩
 ·rintro(rfl|⟨y,h,ht⟩)
  ·exact .refl _
  ·exact .head h ht
theorem xB.known{l:List aT}(hv:VN l){x y:Int}(h:xB l x y):known l x->known l y/\bf l false y≤bf l false x:=by
 induction h with
 |refl x=>exact fun hx=>⟨hx,Int.le_refl _⟩
 |head h _ ih=>
  intro hx;have h1:=hv.bI _ hx _ h;have h2:=ih h1.1;exact⟨h2.1,by omega⟩
noncomputable def gf(l:List aT)(id:Int):List Int:=fF 100 fun i=>JU (xB l id i)
theorem pJ{l:List aT}(hv:VN l){id:Int}(hk:known l id){x:Int}:x∈gf l id↔xB l id x:=by
 unfold gf;rw[px];constructor
 ·rintro⟨i,_,h2,rfl⟩;exact Dl h2
 ·intro h;have h1:=hv.range _ _ (h.known hv hk).1;refine⟨x.toNat,by omega,?_,by omega⟩;rw[show((x.toNat:Nat):Int)=x by omega];exact oZ h
structure Cl(l:List aT)(id:Int)(R:List Int)(i:Nat):Prop where
 nodup:R.Nodup
 mem:∀x∈R,xB l id x
 root:id∈R
 done:∀x∈R.take i,∀z∈fe l x,z∈R
 lt:i≤R.length
structure KD(l:List aT)(id:Int)(R0:List Int)(i:Nat)(R:List Int)(k:Nat):Prop where
 hi:i<R0.length
 nodup:R.Nodup
 mem:∀x∈R,xB l id x
 root:id∈R
 pre:∃T,R=R0++T
 done:∀x∈R0.take i,∀z∈fe l x,z∈R
 part:∀z∈(fe l (R0.getD i 0)).take k,z∈R
 lt:k≤(fe l (R0.getD i 0)).length
theorem C8{R:List Int}(h:R.Nodup)(hr:∀x∈R,0≤x/\x≤99):R.length≤100:=by
 have h2:=HH (p:=fun i=>decide ((i:Int)∈R)) h hr fun i _=>by rw[decide_eq_true_iff]
 have h3:=jI 100 fun i=>decide ((i:Int)∈R)
 rw[<-h2,sj]at h3;exact h3
section
variable{l:List aT}{id:Int}{R R0:List Int}{i k:Nat}
theorem Cl.zero:Cl l id [id] 0:=⟨by simp,by simp;exact .refl _,by simp,by simp,by simp⟩
theorem Cl.len(h:Cl l id R i)(hv:VN l)(hk:known l id):R.length≤100:=C8 h.nodup fun x hx=>hv.range _ _ ((h.mem x hx).known hv hk).1
theorem KD.len(h:KD l id R0 i R k)(hv:VN l)(hk:known l id):R.length≤100:=C8 h.nodup fun x hx=>hv.range _ _ ((h.mem x hx).known hv hk).1
theorem Cl.XF(h:Cl l id R i)(hv:VN l)(hk:known l id)(hi:i<R.length):known l (R.getD i 0):=by
 rw[getD_eq hi];exact((h.mem _ (ag hi)).known hv hk).1
theorem Cl.open(h:Cl l id R i)(hi:i<R.length):KD l id R i R 0:=⟨hi,h.nodup,h.mem,h.root,⟨[],by simp⟩,h.done,by simp,ah _⟩
theorem KD.skip(h:KD l id R0 i R k)(hk:k<(fe l (R0.getD i 0)).length)(hm:(fe l (R0.getD i 0))[k]∈R):KD l id R0 i R (k+1):=by
 refine⟨h.hi,h.nodup,h.mem,h.root,h.pre,h.done,fun z hz=>?_,hk⟩;rcases pC hk hz with hz|rfl
 ·exact h.part z hz
 ·exact hm
theorem KD.add(h:KD l id R0 i R k)(hk:k<(fe l (R0.getD i 0)).length)(hm:¬(fe l (R0.getD i 0))[k]∈R):KD l id R0 i (R++[(fe l (R0.getD i 0))[k]]) (k+1):=by
 have hR:xB l id (R0.getD i 0):=by
  obtain⟨T,hT⟩:=h.pre;refine h.mem _ ?_;have h9:R0[i]'(h.hi)∈R0++T:=ao.2 (.inl (ag _));rw[<-hT]at h9;rw[getD_eq h.hi];exact h9
 refine⟨h.hi,List.nodup_append.2 ⟨h.nodup,by simp,fun x hx y hy=>?_⟩,fun x hx=>?_,ao.2 (.inl h.root),?_,fun x hx z hz=>ao.2 (.inl (h.done x hx z hz)),fun z hz=>?_,hk⟩
 ·have hy:=List.mem_singleton.1 hy;subst hy;rintro rfl;exact hm hx
 ·rcases ao.1 hx with hx|hx
  ·exact h.mem x hx
  ·rw[List.mem_singleton.1 hx];exact hR.tail (ag hk)
 ·obtain⟨T,hT⟩:=h.pre;exact⟨T++[_],by rw[hT,List.append_assoc]⟩
 ·rcases pC hk hz with hz|rfl
  ·exact ao.2 (.inl (h.part z hz))
  ·simp
theorem KD.close(h:KD l id R0 i R k)(hk:¬k<(fe l (R0.getD i 0)).length):Cl l id R (i+1):=by
 obtain⟨T,hT⟩:=h.pre;have h1:i<R.length:=by rw[hT,ai];have:=h.hi;omega
 refine⟨h.nodup,h.mem,h.root,fun x hx z hz=>?_,h1⟩;rcases pC h1 hx with hx|rfl
 ·refine h.done x ?_ z hz;rw[hT,List.take_append_of_le_length (by have:=h.hi;omega)]at hx;exact hx
 ·have e:R[i]=R0.getD i 0:=by
   rw[getD_eq h.hi];simp only[hT];rw[List.getElem_append_left h.hi]
  rw[e]at hz;refine h.part z ?_;rw[ar (by omega)];exact hz
theorem Cl.all(h:Cl l id R i)(hi:¬i<R.length):∀x,x∈R↔xB l id x:=by
 have hd:=h.done;rw[ar (by omega)]at hd;refine fun x=>⟨h.mem x,fun hx=>?_⟩
 have key:∀y z,xB l y z->y∈R->z∈R:=by
  intro y z hyz
  induction hyz with
  |refl _=>exact fun h=>h
  |head h _ ih=>exact fun hy=>ih (hd _ hy _ h)
 exact key _ _ hx h.root
theorem Cl.sorted(h:Cl l id R i)(hi:¬i<R.length)(hv:VN l)(hk:known l id):iz R=gf l id:=
 HS (DT _ _) h.nodup fun x=>by rw[h.all hi,pJ hv hk]
end
def Fz(l:List aT):Nat->Int->List Bool->List Bool
 |0,_,m=>m
 |f+1,id,m=>if m.getD id.toNat false=true then m else(fe l id).foldl (fun m r=>Fz l f r m) (m.set id.toNat true)
theorem HY(l:List aT):∀(f:Nat) (id:Int) (m:List Bool),(Fz l f id m).length=m.length
 |0,_,_=>rfl
 |f+1,id,m=>by
  unfold Fz;split
  ·rfl
  ·have key:∀(rs:List Int) (m:List Bool),(rs.foldl (fun m r=>Fz l f r m) m).length=m.length:=by
    intro rs
    induction rs with
    |nil=>intro m;rfl
    |cons r rs ih=>intro m;rw[List.foldl_cons,ih,HY l f r m]
   rw[key,af]
def Mk(m:List Bool)(x:Int):Prop:=0≤x/\m.getD x.toNat false=true
def ClM(l:List aT)(k:Int)(m:List Bool):Prop:=∀x,Mk m x->bf l false x≤k-> ∀z∈fe l x,Mk m z
theorem VQ{m:List Bool}{id x:Int}(hi:0≤id/\id.toNat<m.length):Mk (m.set id.toNat true) x↔Mk m x\/x=id:=by
 unfold Mk;by_cases e:x=id
 ·subst e;have:(m.set x.toNat true).getD x.toNat false=true:=by
   rw[getD_eq (by rw[af];exact hi.2),List.getElem_set_self]
  constructor
  ·intro _;exact .inr rfl
  ·intro _;exact⟨hi.1,this⟩
 ·constructor
  ·rintro⟨h1,h2⟩;left;refine⟨h1,?_⟩;rw[List.getD_eq_getElem?_getD,List.getElem?_set_ne (by omega)]at h2;rwa[List.getD_eq_getElem?_getD]
  ·rintro(⟨h1,h2⟩|h)
   ·refine⟨h1,?_⟩;rw[List.getD_eq_getElem?_getD,List.getElem?_set_ne (by omega)];rwa[List.getD_eq_getElem?_getD]at h2
   ·exact absurd h e
theorem C0{l:List aT}(hv:VN l):∀(f:Nat) (id:Int) (m:List Bool),m.length=100->known l id->bf l false id<f->ClM l (bf l false id) m-> ∀x,Mk (Fz l f id m) x↔Mk m x\/xB l id x
 |0,id,m,_,hk,hf,_,x=>by
  unfold known at hk;omega
 |f+1,id,m,hm,hk,hf,hc,x=>by
  have hr:=hv.range _ _ hk;unfold Fz;by_cases h0:m.getD id.toNat false=true
  ·rw[if_pos h0];constructor
   ·exact .inl
   ·rintro(h|h)
    ·exact h
    ·have key:∀y z,xB l y z->known l y->bf l false y≤bf l false id->Mk m y->Mk m z:=by
      intro y z hyz
      induction hyz with
      |refl _=>exact fun _ _ h=>h
      |head h _ ih=>
       intro h1 h2 h3;have h4:=hv.bI _ h1 _ h;exact ih h4.1 (by omega) (hc _ h3 h2 _ h)
     exact key _ _ h hk (Int.le_refl _) ⟨hr.1,h0⟩
  ·rw[if_neg h0];have h1:∀x,Mk (m.set id.toNat true) x↔Mk m x\/x=id:=fun x=>VQ (by omega)
   have eu:=hv.bI _ hk;have key:∀(rs:List Int) (m1:List Bool),m1.length=100->(∀r∈rs,known l r/\bf l false r<bf l false id)->ClM l (bf l false id-1) m1->
      ∀x,Mk (rs.foldl (fun m r=>Fz l f r m) m1) x↔Mk m1 x\/ ∃r∈rs,xB l r x:=by
    intro rs
    induction rs with
    |nil=>intro m1 _ _ _ x;simp
    |cons r rs ih=>
     intro m1 RC IC yF x;have yE:=IC r (by simp);have h2:=C0 hv f r m1 RC yE.1 (by omega) (fun y hy ud z hz=>yF y hy (by omega) z hz);rw[List.foldl_cons,ih _ (by rw[HY];exact RC) (fun r' my=>IC r' (by simp[my])) ?_ x,h2 x]
     ·constructor
      ·rintro((h|h)|⟨r',h,h'⟩)
       ·exact .inl h
       ·exact .inr ⟨r,by simp,h⟩
       ·exact .inr ⟨r',by simp[h],h'⟩
      ·rintro(h|⟨r',h,h'⟩)
       ·exact .inl (.inl h)
       ·rcases List.mem_cons.1 h with rfl|h
        ·exact .inl (.inr h')
        ·exact .inr ⟨r',h,h'⟩
     ·intro y hy ud z hz;rw[h2]at hy⊢;rcases hy with hy|hy
      ·exact .inl (yF y hy ud z hz)
      ·exact .inr (hy.tail hz)
   rw[key (fe l id) _ (by rw[af];exact hm) eu ?_ x,h1 x,xB.iff]
   ·constructor
    ·rintro((h|h)|h)
     ·exact .inl h
     ·exact .inr (.inl h)
     ·exact .inr (.inr h)
    ·rintro(h|h|h)
     ·exact .inl (.inl h)
     ·exact .inl (.inr h)
     ·exact .inr h
   ·intro y hy ud z hz;rw[h1]at hy⊢;rcases hy with hy|rfl
    ·exact .inl (hc y hy (by omega) z hz)
    ·omega
noncomputable def z7(l:List aT)(id:Int):List Bool:=Fz l (l.length+1) id (List.replicate 100 false)
theorem Aa{l:List aT}(hv:VN l){id:Int}(hk:known l id)(i:Nat):(z7 l id).getD i false=JU (xB l id i):=by
 have h:=C0 hv (l.length+1) id (List.replicate 100 false) (by simp) hk (by have:=(Ld (ef false id) l).2;unfold bf;omega)
  (fun x hx=>by
   have:(List.replicate 100 false).getD x.toNat false=true:=hx.2;rw[List.getD_eq_getElem?_getD,List.getElem?_replicate]at this;split at this<;>simp at this) i
 have TH:¬Mk (List.replicate 100 false) i:=by
  rintro⟨_,h⟩;rw[List.getD_eq_getElem?_getD,List.getElem?_replicate]at h;split at h<;>simp at h
 have h2:(z7 l id).getD i false=true↔xB l id i:=by
  have h3:Mk (z7 l id) i↔(z7 l id).getD i false=true:=by
   unfold Mk;simp
  rw[<-h3];unfold z7;rw[h];exact⟨fun h=>h.resolve_left TH, .inr⟩
 cases hb:(z7 l id).getD i false with
 |true=>exact(oZ (h2.1 hb)).symm
 |false=>exact(Lt fun hr=>by rw[h2.2 hr]at hb;cases hb).symm
theorem qV{l:List aT}{x:Int}(h:known l x):(bf l false x).toNat<l.length:=by
 have:=(Ld (ef false x) l).2;unfold known bf at h;unfold bf;omega
theorem zu(l:List aT)(id:Int)(hv:VN l)(hk:known l id):aE prog 61 [.c (.ro 7 (l.map bG)),I id] [] (.c (.ows 2 1 ((gf l id).map eI))):=by
 refine cX func61 (h:=?_)
 repeat'((conv=>whnf);first
  |refine aI.mk ?_ ?_|(show aZ 3 _ _ _ _ _ _;refine qJ (List Int × Nat) [0] (fun⟨R,i⟩=>[(5, .lw 1),(6,I (i:Nat))]) (fun⟨R,i⟩=>[(1, .row none 2 1 (R.map eI))]) (fun⟨R,i⟩=>Cl l id R i) (fun⟨R,i⟩=>100-i) ([id],0) (by exact Cl.zero) (fun A ha=>?_);obtain⟨R,i⟩:=A;have ha:Cl l id R i:=ha;have hlen:=ha.len hv hk)|(show aZ 6 _ _ _ _ _ _;refine qJ (List Int × Nat) [0,6,27,28] (fun⟨R',k⟩=>[(5, .lw 1),(29,I (k:Nat))]) (fun⟨R',k⟩=>[(1, .row none 2 1 (R'.map eI))]) (fun⟨R',k⟩=>KD l id R i R' k) (fun⟨R',k⟩=>(l.getD (bf l false (R.getD i 0)).toNat n0).entry.bI.length-k) (R,0) (by exact ha.open (by omega)) (fun A ha=>?_);obtain⟨R',k⟩:=A;have ha:KD l id R i R' k:=ha;have XC:=ha.len hv hk)
  |refine nx ((R'++[(fe l (R.getD i 0)).getD k 0],k+1):List Int × Nat) (by(have sY:k<(fe l (R.getD i 0)).length:=(by show k<(l.getD (bf l false (R.getD i 0)).toNat n0).entry.bI.length;omega);show KD _ _ _ _ _ _;rw[getD_eq sY];refine ha.add sY ?_;rw[<-getD_eq sY];exact h))
  |refine nx ((R',k+1):List Int × Nat) (by(have sY:k<(fe l (R.getD i 0)).length:=(by show k<(l.getD (bf l false (R.getD i 0)).toNat n0).entry.bI.length;omega);refine ha.skip sY ?_;rw[<-getD_eq sY];exact h))
  |refine nx ((R',i+1):List Int × Nat) (by(refine ha.close ?_;show¬k<(l.getD (bf l false (R.getD i 0)).toNat n0).entry.bI.length;omega))
  |(apply Fact.mk;intro hL;try simp only[aa,maxLen]at hL)
  |((apply bX;constructor)<;>intro h<;>(try simp only[aa]at h)<;>(try first|omega|contradiction))|(show ay _ 59 _ _ _ _;refine cP rfl (mF l false (R.getD i 0)) ?_)|(show ay _ 107 _ _ _ _;refine cP rfl (xI R' _) ?_)|(show ay _ 103 _ _ _ _;refine cG [true] rfl (K9 R (by omega)) ?_)
  |refine aR ?_|(show Index _ _ _;first|(refine Index.mk _ (aN (d:=0) (i:=i) (by omega)) ?_)|(refine Index.mk _ (aN (d:=n0) (i:=(bf l false (R.getD i 0)).toNat) (qV (ha.XF hv hk (by omega)))) ?_)|(refine Index.mk _ (aN (l:=fe l (R.getD i 0)) (d:=0) (i:=k) (by show k<(l.getD (bf l false (R.getD i 0)).toNat n0).entry.bI.length;omega)) ?_)|fail)|(show bh _ _;refine bh.mk (by first|(exact ha.XF hv hk (by omega))|((simp only[aa,List.length_cons,List.length_nil,maxLen];constructor<;>omega))|fail) ?_)
  |refine nO ?_)
 all_goals first|rfl|trivial|(rw[ha.sorted (by omega) hv hk];done)
abbrev rP(a:aB)(s:Int):List aT:=(a.az.getD s.toNat ck).notes
theorem QL{a:aB}{s id:Int}(h:sW a s id=0):VN (rP a s)/\s.toNat<a.az.length/\0≤s/\(rP a s).length≤20/\0≤id/\id≤99:=by
 have hg:=tG h;have hs:=kZ hg.2.1;have hn:=jv hg.1 hs.2;exact⟨VN.of hn.1,hs.2,hs.1,hn.2,bQ hg.2.2⟩
section
variable(a:aB)(s id:Int)(hl:bS a≤1048576)
include hl
theorem DI(h:sW a s id=0)(hk:known (rP a s) id):aE prog 27 [qH a,I s,I id] [] (uV (gf (rP a s) id) 0):=by
 have hg:=QL h;have hq:=mQ a s id hl;rw[h]at hq;have hc:=zu (rP a s) id hg.1 hk;unfold known at hk;refine cX func27 (h:=?_)
 repeat'((conv=>whnf);first
  |refine aI.mk ?_ ?_
  |((apply bX;constructor)<;>intro h<;>(try simp only[]at h)<;>(try first|omega|contradiction))|(show ay _ 55 _ _ _ _;refine cP rfl (hq) ?_)|(show ay _ 59 _ _ _ _;refine cP rfl (mF (rP a s) false id) ?_)|(show ay _ 61 _ _ _ _;refine cG [] rfl (hc) ?_)|(show Index _ _ _;first|(refine Index.mk _ (aN (d:=ck) (i:=s.toNat) hg.2.1) ?_)|fail)
  |refine nO ?_)
 all_goals first|rfl|trivial
end
structure VE(l:List aT):Prop where
 vn:VN l
 cl:∀x,known l x->0<(er l x).entry.proof.aG.length/\(er l x).entry.proof.aG.length≤1000000
 rl:∀x,known l x->(fe l x).length≤4
theorem VE.of{t a:Int}{l:List aT}(hg:cS t a l=true):VE l:=by
 have key:∀x,known l x-> ∃n∈l,n.bT=false/\cU t a n=true/\er l x=n:=fun x hx=>by
  obtain⟨hi,hp⟩:=vo (p:=ef false x) (l:=l) hx;have h1:=(xu hg hi).1;refine⟨_,ag hi,?_,h1,getD_eq hi⟩;have:=(ab _ _▸hp:_/\_).1;simpa using this
 have X8:∀x,known l x->dE t a (er l x).entry.bI (er l x).entry.proof=true:=fun x hx=>by
  obtain⟨n,_,hr,hn,e⟩:=key x hx;rw[e];unfold cU at hn;rw[hr]at hn;simp only[Bool.false_eq_true,if_false,ab]at hn;exact hn.2.2
 refine⟨VN.of hg,fun x hx=>?_,fun x hx=>?_⟩
 ·have h:=X8 x hx;simp only[dE,dT,ab,decide_eq_true_eq]at h;have:=h.2.2.2.1.2.1;omega
 ·have h:=X8 x hx;simp only[dE,ab,decide_eq_true_eq]at h;have:=h.1;show(er l x).entry.bI.length≤4;omega
def OV(l:List aT)(z:Int):Bool:=decide (0≤bf l true z)
noncomputable def RQ(l:List aT)(x:Int)(n:aT):Bool:=n.bT&&(z7 l x).getD n.id.toNat false
theorem LN{l:List aT}(hv:VN l){n:aT}(hn:n∈l)(hr:n.bT=true):0≤n.id/\n.id≤99:=
 hv.range true n.id (lZ.2 ⟨n,hn,by simp[ef,hr]⟩)
theorem QW{α:Type}{p:α->Bool}{l:List α}{i:Nat}(hi:i<l.length)(h:p l[i]=true):l.any p=true:=List.any_eq_true.2 ⟨_,ag hi,h⟩
theorem TR{α:Type}{p:α->Bool}{l:List α}{i:Nat}(hi:l.length≤i)(h:(l.take i).all (fun y=> !(p y))=true):l.any p=false:=by
 rw[ar hi]at h;cases hb:l.any p with
 |false=>rfl
 |true=>
  obtain⟨y,hy,hp⟩:=List.any_eq_true.1 hb;have:=aj.1 h y hy;rw[hp]at this;cases this
end Go.Proofs.YtgbggaddpbghfaaGreat
