/- Contract of the reference's draw of an archive that has come about by events: a valid one of small notes. Conditions: bounds of what has been read. -/
import Derived.Test.YtgbggaddpbghfaaGreatKAS
namespace Go.Proofs.YtgbggaddpbghfaaGreat
open Go Go.KA Go.Proofs
set_option maxHeartbeats 16000000
set_option maxRecDepth 100000
theorem x9{n:Nat}(h1:1≤n)(h5:n≤5):ai Tryz.prog 71 [.a 2 [J 1,J 2],I (n:Nat)] [] (.tup [.a 4 (aJ (H9 n)),I 0]):=by
 have h:dc [J 1,J 2, .own 47 3 (List.replicate n newRow), .ows 89 8 []] [J 1,J 2,kM (.own 47 3 (List.replicate n newRow)),kM (.ows 89 8 [])]:= .same (.same (.ro (.ro .nil)))
 have e:kM (.own 47 3 (List.replicate n newRow))= .ro 3 ((H9 n).ab.map dt):=by
  show CV.ro 3 (db (List.replicate n newRow))=_
  rw[show List.replicate n newRow=(H9 n).ab.map bd by show _=(List.replicate n _).map bd;rw[List.map_replicate];rfl,ch (g:=dt) (fun s=>by simp only[bd,dt,mZ,kM,ch (f:=bj) (g:=bj) (fun _=>rfl)])]
 rw[e] at h
 exact(xr h1 h5).soft (.tup (.cons (.a h) (.cons .same .nil)))
theorem EJ{f:Int}(hf:0≤f∧f≤5)
 (hev:∀(A:ag) (s:Src) (N:Int),GB A→iK s N→N≤200000000→fU Tryz.prog 36 [.c (.op (da s)), .c (.op (aJ A)),I f]
  (fun x:bm × Src=>vp A.sig.au A.sig.aq x.1∧iK x.2 (N+401000)) (fun x=>[some [.op (da x.2)],some [.op (aJ A)],none]) (fun x=> .a 9 (v7 x.1)))
 {s:Src}{N:Int}(hS':iK s N)(hN:N≤50000000):
  fU Tryz.prog 34 [.c (.op (da s)),I f] (fun x:ag × Src=>(GB x.1∧Small x.1∧x.1.sig=⟨1,2⟩)∧iK x.2 (N+20000000)) (fun x=>[some [.op (da x.2)],none]) (fun x=> .a 4 (aJ x.1)):=by
 refine Ow Tryz.func34 (fun reg_=>match reg_ with|2=>true|_=>false) (h:= ?_)
 repeat'((conv=>whnf);first
  |(guard_target=Gh _ _ _ _ _;(fail_if_success (have _:=hA));refine Gh.Ax 7 _ rfl (Gh.go ?_))|(guard_target=Gh _ _ _ _ _;(have _:=hA);refine Gh.go ⟨((A,s9):ag × Src),(by exact⟨⟨hA.1,hA.2.1,hA.2.2⟩,hS9.mono (by omega)⟩), ?_⟩)
  |refine ah.mk ?_ ?_|(guard_target=aa _ 72 _ _ _ _;refine cG [] rfl (Hf) ?_)|(guard_target=aa _ 71 _ _ _ _;refine cG [] rfl (x9 hn1 hn5) ?_)|(guard_target=aa _ 73 _ _ _ _;refine Fe (l:=[1,2,3,3,3,4,5]) hS' (by omega) ⟨by decide,by decide⟩ rfl rfl rfl (fun nn s' hS' hw=> ?_);(have hwr:1≤nn∧nn≤5:=by simp at hw;omega);(obtain⟨n,rfl⟩:∃n:Nat,nn=(n:Int):=⟨nn.toNat,by omega⟩);(have hn1:1≤n:=by omega);(have hn5:n≤5:=by omega))|(guard_target=aa _ 53 _ _ _ _;refine yg hS' (by omega) (by unfold jE;omega) rfl rfl rfl (fun vv s' hS' hv0 hv1=> ?_);(have hv2:=hv1 (by omega));(obtain⟨k,rfl⟩:∃k:Nat,vv=(k:Int):=⟨vv.toNat,by omega⟩))|(guard_target=aa _ 74 _ _ _ _;refine aa.ex rfl [true,false,false,false] _ _ _ _ rfl (Ec (HZ hn1 hn5) (EO n) hf hev hS' (by omega) (k:=k) (by omega)) rfl rfl (fun x hx=> ?_);(obtain⟨A,s9⟩:=x);(obtain⟨hA,hS9⟩:=hx);(try simp only[] at hA hS9))
  |refine iX (k:= ?_)
  |refine nB ?_
  |apply cj.go
  |refine nO ?_)
 all_goals first|rfl|exact⟨rfl,trivial⟩|trivial
end Go.Proofs.YtgbggaddpbghfaaGreat
namespace Go.Proofs.YtgbggaddpbghfaaGreat
open Go Go.KA Go.Proofs
set_option maxHeartbeats 16000000
set_option maxRecDepth 100000
theorem A5(code:List UInt8){N:Int}(hN:N≤50000000)(h0:iK (Lz code) N){f:Int}(hf:0≤f∧f≤5):
 fU Tryz.prog 8 [.c (.ro 1 (code.map Hc)),I f] (fun x:ag=>GB x∧Small x∧x.sig=⟨1,2⟩) (fun _=>[none,none]) (fun x=> .a 4 (aJ x)):=by
 refine Ow Tryz.func8 (h:= ?_)
 repeat'((conv=>whnf);first
  |(guard_target=Gh _ _ _ _ _;(have _:=hA);refine Gh.go ⟨A,(by exact hA), ?_⟩)
  |refine ah.mk ?_ ?_|(guard_target=aa _ 35 _ _ _ _;refine cG [] rfl (wb code) ?_)|(guard_target=aa _ 34 _ _ _ _;refine aa.ex rfl [true,false] _ _ _ _ rfl (EJ hf (fun A s N h1 h2 h3=>og h1 h2 h3 hf) h0 hN) rfl rfl (fun x hx=> ?_);(obtain⟨A,s9⟩:=x);(obtain⟨hA,hS9⟩:=hx);(try simp only[] at hA hS9))
  |refine iX (k:= ?_)
  |refine nO ?_)
 all_goals first|rfl|exact⟨rfl,trivial⟩|trivial
theorem En{A:ag}(hG:GB A)(code:List UInt8){N:Int}(hN:N≤50000000)(h0:iK (Lz code) N){f:Int}(hf:0≤f∧f≤5):
 fU Tryz.prog 9 [.c (.ro 1 (code.map Hc)), .a 4 (aJ A),I f] (fun x:bm=>vp A.sig.au A.sig.aq x) (fun _=>[none,none,none]) (fun x=> .a 9 (v7 x)):=by
 refine Ow Tryz.func9 (h:= ?_)
 repeat'((conv=>whnf);first
  |(guard_target=Gh _ _ _ _ _;(have _:=hE);refine Gh.go ⟨e,(by exact hE), ?_⟩)
  |refine ah.mk ?_ ?_|(guard_target=aa _ 35 _ _ _ _;refine cG [] rfl (wb code) ?_)|(guard_target=aa _ 36 _ _ _ _;refine aa.ex rfl [true,true,false] _ _ _ _ rfl (og hG h0 (by omega) hf) rfl rfl (fun x hx=> ?_);(obtain⟨e,s9⟩:=x);(obtain⟨hE,hS9⟩:=hx);(try simp only[] at hE hS9))
  |refine iX (k:= ?_)
  |refine nO ?_)
 all_goals first|rfl|exact⟨rfl,trivial⟩|trivial
end Go.Proofs.YtgbggaddpbghfaaGreat
namespace Go.Proofs.YtgbggaddpbghfaaGreat
open Go Go.KA Go.Proofs
set_option maxHeartbeats 16000000
set_option maxRecDepth 100000
theorem _root_.Go.KA.fU.soft{P:Program}{f:Nat}{args:List SV}{α:Type}{φ:α→Prop}{outs:α→List (Option (List CV))}{r r':α→SV}(h:fU P f args φ outs r)(hs:∀x,xm (r x) (r' x)):fU P f args φ outs r':=by
 refine⟨h.1,fun w ok vs fs h1 h2 h3 h4=>(h.2 w ok vs fs h1 h2 h3 h4).mono ?_⟩
 rintro e w' ⟨x,hx,v,fr,fo,he,hg,hn,hb,hr,ho⟩
 have hn':=hn
 rw[List.nodup_append] at hn
 obtain⟨fr',hf,hd⟩:=(hs x).den hr hn.1
 have hok:∀b,xL ok fs (fr++fo) w w' b→xL ok fs (fr'++fo) w w' b:=fun b hb=>⟨hb.1,hb.2.1,fun hm=>hb.2.2 (by
  rcases List.mem_append.1 hm with hm|hm
  ·simp[hf.subset hm]
  ·simp[hm])⟩
 refine⟨x,hx,v,fr',fo,he,hg,hn'.sublist (hf.append (List.Sublist.refl _)),fun b hb'=>hb b ?_,hd _ hok fun b hb1 hb2=> ?_,ho.mono hok⟩
 ·rcases List.mem_append.1 hb' with hm|hm
  ·simp[hf.subset hm]
  ·simp[hm]
 ·have h5:=hb b (by simp[hb1])
  refine⟨h5.2, ?_,fun hm=> ?_⟩
  ·rcases h5.1 with h6|h6
   ·exact .inr (.inl h6)
   ·exact .inr (.inr h6)
  ·rcases List.mem_append.1 hm with hm|hm
   ·exact hb2 hm
   ·exact hn.2.2 b hb1 b hm rfl
theorem vn(a b:List aS):aE Tryz.prog 42 [.c (.ro 7 (a.map bj)), .c (.ro 7 (b.map bj))] (B (eqv a b)):=by
 refine cF Tryz.func42 (h:= ?_)
 repeat'((conv=>whnf);first
  |(apply bo.mk;first|(exact dU (jW (by omega));done)|(exact dU (mH (i:=i) (by omega) (by omega) (fh h));done)|(exact fE (jS ha.2.1 (by omega) ha.2.2);done)|skip)|(guard_target=~ aP 4 _ _ _ _ _ _;refine lp (Nat) [0,1] (fun i=>[(5,I i)]) (fun i=>i≤a.length∧a.length=b.length∧a.take i=b.take i) (fun i=>a.length-i) 0 (by exact⟨Nat.zero_le _,by omega,rfl⟩) (fun i ha=> ?_))
  |refine nx (i+1:Nat) (by exact⟨by show i+1≤_;omega,ha.2.1,mI (by omega) (by omega) ha.2.2 (kY h)⟩)
  |(apply Fact.mk;intro hL;try simp only[List.length_map,maxLen] at hL)
  |((first|apply bA|apply bB|apply bC|apply bD|apply bE|apply bF)<;>intro h<;>(try simp only[List.length_map] at h)<;>(try omega)<;>(try contradiction))|(guard_target=aa _ 43 _ _ _ _;refine cP rfl (qv _ _) ?_)
  |refine aR ?_|(guard_target=Index _ _ _;first|refine Index.mk _ (bz (i:=i) (by omega)) ?_)
  |refine iX (k:= ?_)
  |refine nB ?_
  |apply ay.no
  |apply cj.go
  |refine nO ?_)
theorem o7(x:ag):aE Tryz.prog 12 [.a 4 (aJ x), .a 4 (aJ x)] (B true):=by
 have h1:∀i,aE Tryz.prog 42 [.c (.ro 7 ((x.ab.getD i cO).notes.map bj)), .c (.ro 7 ((x.ab.getD i cO).notes.map bj))] (B true):=fun i=>by
  have:=vn (x.ab.getD i cO).notes (x.ab.getD i cO).notes
  rwa[eqv_self] at this
 have h2:∀i,aE Tryz.prog 43 [.c (.rp 7 (bj (x.aw.getD i jd).note)), .c (.rp 7 (bj (x.aw.getD i jd).note))] (B true):=fun i=>by
  have:=qv (x.aw.getD i jd).note (x.aw.getD i jd).note
  rwa[eqv_self] at this
 refine cF Tryz.func12 (h:= ?_)
 repeat'((conv=>whnf);first
  |(apply bo.mk;first|(rfl;done)|((exfalso;simp at h;done);done)|skip)|(guard_target=~ aP 4 _ _ _ _ _ _;refine lp (Nat) [2,3] (fun i=>[(5,I i)]) (fun i=>i≤x.ab.length) (fun i=>x.ab.length-i) 0 (by exact Nat.zero_le _) (fun i ha=> ?_))|(guard_target=~ aP 11 _ _ _ _ _ _;refine lp (Nat) [2,3] (fun i=>[(8,I i)]) (fun i=>i≤x.aw.length) (fun i=>x.aw.length-i) 0 (by exact Nat.zero_le _) (fun i ha=> ?_))
  |refine nx (i+1:Nat) (by(show i+1≤_;omega))
  |refine nx (i+1:Nat) (by(show i+1≤_;omega))
  |(apply Fact.mk;intro hL;try simp only[List.length_map,maxLen] at hL)
  |((first|apply bA|apply bB|apply bC|apply bD|apply bE|apply bF)<;>intro h<;>(try simp only[List.length_map] at h)<;>(try omega)<;>(try contradiction))|(guard_target=aa _ 42 _ _ _ _;refine cP rfl (h1 i) ?_)|(guard_target=aa _ 43 _ _ _ _;refine cP rfl (h2 i) ?_)
  |refine aR ?_|(guard_target=Index _ _ _;first|refine Index.mk _ (aF (l:=x.ab) (d:=cO) (i:=i) (by omega)) ?_|refine Index.mk _ (aF (l:=x.aw) (d:=jd) (i:=i) (by omega)) ?_)
  |refine iX (k:= ?_)
  |refine nB ?_
  |apply ay.no
  |apply cj.go
  |refine nO ?_)
theorem qH(x:cE):aE Tryz.prog 16 [.a 3 (cL x), .a 3 (cL x)] (B true):=by
 have:=m6 x x
 rwa[eqv_self] at this
theorem DJ(l:List UInt8):aE Tryz.prog 7 [.c (.ro 1 (l.map Hc))] (B (decide (4096<l.length))):=by
 have e:((((l.map Hc).length:Nat):Int)>4096)=(4096<l.length):=by rw[List.length_map];exact propext (by omega)
 refine cF Tryz.func7 (h:= ?_)
 repeat'((conv=>whnf);first
  |(apply bo.mk;first|((show B (decide ((((l.map Hc).length:Nat):Int)>4096))=_;simp only[e]);done)|skip)
  |(apply Fact.mk;intro hL;try simp only[List.length_map,maxLen] at hL)
  |refine nO ?_)
theorem Fw(x:ag)(n:Nat)(hn:n=x.ab.length)(hsv:∀i,i<x.ab.length→0≤(x.ab.getD i cO).saved∧(x.ab.getD i cO).saved≤((x.ab.getD i cO).notes.length:Int)):
 aE Tryz.prog 15 [.a 4 (aJ x),I n] (B true):=by
 refine cF Tryz.func15 (h:= ?_)
 repeat'((conv=>whnf);first
  |(apply bo.mk;first|(rfl;done)|skip)|(guard_target=~ aP 4 _ _ _ _ _ _;refine lp (Nat) [2] (fun i=>[(5,I i)]) (fun i=>i≤x.ab.length) (fun i=>x.ab.length-i) 0 (by exact Nat.zero_le _) (fun i ha=> ?_);have h9:=hsv i)
  |refine nx (i+1:Nat) (by(show i+1≤_;omega))
  |(apply Fact.mk;intro hL;try simp only[List.length_map,maxLen] at hL)
  |((first|apply bA|apply bB|apply bC|apply bD|apply bE|apply bF)<;>intro h<;>(try simp only[List.length_map] at h)<;>(try omega)<;>(try contradiction))
  |refine aR ?_|(guard_target=Index _ _ _;first|refine Index.mk _ (aF (l:=x.ab) (d:=cO) (i:=i) (by omega)) ?_)
  |refine iX (k:= ?_)
  |refine nB ?_
  |apply ay.no
  |apply cj.go
  |refine nO ?_)
theorem Gc(code:List UInt8)(h:code.length≤4096):iK (Lz code) 0:=⟨⟨Int.le_refl _,Int.le_refl _⟩,by show code.length≤_;omega⟩
theorem Mu(e:bm):dc (v7 e) (bM e):=by
 have h:dc (v7 e) [J e.kind,J e.a,J e.b,J e.c,kM (.ows 2 1 (e.bu.map eI)),J e.proof.sig.au,J e.proof.sig.aq,kM (.ows 104 9 (e.proof.aj.map aH)),kM (.ows 4 1 (e.kW.map eB))]:=
  .same (.same (.same (.same (.ro (.same (.same (.ro (.ro .nil))))))))
 exact h
end Go.Proofs.YtgbggaddpbghfaaGreat
namespace Go.Proofs.YtgbggaddpbghfaaGreat
open Go Go.KA Go.Proofs
set_option maxHeartbeats 16000000
set_option maxRecDepth 100000
theorem K5{s s':aT}(h:lh s s'){k:Nat}(hk:(k:Int)<s.saved)(hs:s.saved≤(s.notes.length:Int)):(s'.notes.map bj)[k]? =some (bj (s.notes.getD k n0)):=by
 have h1:(s.notes.take s.saved.toNat)[k]? =(s'.notes.take s.saved.toNat)[k]? :=by rw[h.pre]
 rw[List.getElem?_take,List.getElem?_take,if_pos (by omega),if_pos (by omega),List.getElem?_eq_getElem (by omega)] at h1
 rw[List.getElem?_map,←h1,List.getD_eq_getElem?_getD,List.getElem?_eq_getElem (by omega)]
 rfl
theorem IT{s s':aT}(h:lh s s')(h0:0≤s.saved)(hs:s.saved≤(s.notes.length:Int)):s.saved≤(s'.notes.length:Int):=by
 have h1:=congrArg List.length h.pre
 rw[List.length_take,List.length_take] at h1
 omega
theorem GB.sav{a:ag}(hG:GB a)(i:Nat)(hi:i<a.ab.length):0≤(a.ab.getD i cO).saved∧(a.ab.getD i cO).saved≤((a.ab.getD i cO).notes.length:Int):=by
 rw[getD_eq hi]
 exact(hG.srv _ (List.getElem_mem hi)).sav
theorem Eg{a:ag}(h:GB a):iA a=true:=(sH a).2 (KM.2 h)
theorem Jy(a:ag):dc (fc a) (aJ a):=by
 rw[←G4]
 exact dc.mZ _
section
variable{A:ag}{e:bm}(hG:GB A)(hS:Small A)(hE:vp A.sig.au A.sig.aq e)
include hG hS hE
theorem FF:∃(B:ag) (c:Int),p8 A e=(c,B)∧
 ai Tryz.prog 10 [.a 4 (aJ A), .a 9 (bM e)] [] (.tup [.a 4 (aJ B),I c])∧
 ai Tryz.prog 11 [.a 4 (aJ A), .a 9 (bM e)] [] (.tup [.a 4 (aJ B),I c])∧
 (c=0→GB B∧Small B∧B.ab.length=A.ab.length∧∀i,i<A.ab.length→lh (A.ab.getD i cO) (B.ab.getD i cO)):=by
 have hb:=mU hG hS
 have h5:=hE.MO
 have h1:=vZ A e (by omega) (by omega)
 have h2:=qN A e (by omega) (by omega)
 refine⟨(p8 A e).2,(p8 A e).1,rfl,h1.soft (.tup (.cons (.a (Jy _)) (.cons .same .nil))),h2.soft (.tup (.cons (.a (A6 _)) (.cons .same .nil))),fun hc=> ?_⟩
 have hv:lg A e=true:=by
  unfold lg
  rw[Eg hG,hE.ny]
  rfl
 unfold p8 at hc⊢
 rw[if_pos hv] at hc⊢
 unfold ku at hc⊢
 split at hc
 ·rename_i h
  rw[if_pos h]
  have h5':=bW hG.n5
  exact⟨BG hG hE.ny,yU hG hS hE.ny hE.MO,(zE hG hE.ny (k:=0) (by omega)).1,fun i hi=>(zE hG hE.ny hi).2⟩
 ·rename_i h
  exact absurd hc h
end
theorem vk(code more:List UInt8):aE Tryz.prog 3 [.c (.ro 1 (code.map Hc)), .c (.ro 1 (more.map Hc))] (B true):=by
 have l1:=DJ code
 have l2:=DJ more
 by_cases hb:4096<code.length
 ·rw[decide_eq_true hb] at l1
  refine cF Tryz.func3 (h:= ?_)
  repeat'((conv=>whnf);first
   |apply bo.mk
   |(apply Fact.mk;intro hL;try simp only[List.length_map,maxLen] at hL)
   |((first|apply bA|apply bB|apply bC|apply bD|apply bE|apply bF)<;>intro h<;>(try simp only[List.length_map] at h)<;>(try omega)<;>(try contradiction))|(guard_target=aa _ 7 _ _ _ _;refine cP rfl (l1) ?_)
   |refine aR ?_
   |refine iX (k:= ?_)
   |refine nB ?_
   |apply ay.no
   |apply cj.go
   |refine nO ?_)
  all_goals first|rfl|trivial
 rw[decide_eq_false hb] at l1
 by_cases hb2:4096<more.length
 ·rw[decide_eq_true hb2] at l2
  refine cF Tryz.func3 (h:= ?_)
  repeat'((conv=>whnf);first
   |apply bo.mk
   |(apply Fact.mk;intro hL;try simp only[List.length_map,maxLen] at hL)
   |((first|apply bA|apply bB|apply bC|apply bD|apply bE|apply bF)<;>intro h<;>(try simp only[List.length_map] at h)<;>(try omega)<;>(try contradiction))|(guard_target=aa _ 7 _ _ _ _;refine cP rfl (l1) ?_)|(guard_target=aa _ 7 _ _ _ _;refine cP rfl (l2) ?_)
   |refine aR ?_
   |refine iX (k:= ?_)
   |refine nB ?_
   |apply ay.no
   |apply cj.go
   |refine nO ?_)
  all_goals first|rfl|trivial
 rw[decide_eq_false hb2] at l2
 have a1:=A5 code (N:=0) (by omega) (Gc code (by omega)) (f:=5) (by omega)
 have a2:∀A:ag,GB A→fU Tryz.prog 9 [.c (.ro 1 (more.map Hc)), .a 4 (aJ A),I 5] (fun x:bm=>vp A.sig.au A.sig.aq x) (fun _=>[none,none,none]) (fun x=> .a 9 (bM x)):=fun A hG=>
  (En hG more (N:=0) (by omega) (Gc more (by omega)) (f:=5) (by omega)).soft fun x=> .v (.a (Mu x))
 have a3:∀A:ag,GB A→Small A→aE Tryz.prog 13 [.a 4 (aJ A)] (B true):=fun A h1 h2=>by
  have h:=ob A (by have:=mU h1 h2;omega)
  rwa[Eg h1] at h
 have a4:∀(A:ag) (e:bm),GB A→Small A→vp A.sig.au A.sig.aq e→aE Tryz.prog 14 [.a 4 (aJ A), .a 9 (bM e)] (B true):=fun A e h1 h2 h3=>by
  have h:=p7 A e (by have:=mU h1 h2;omega) (by have:=h3.MO;omega)
  unfold lg at h
  rwa[Eg h1,h3.ny] at h
 refine cF Tryz.func3 (h:= ?_)
 repeat'((conv=>whnf);first
  |(apply bo.mk;first|(rfl;done)|((exfalso;(have q:=(hX ‹_›).2.2.2 i (by omega));(have q1:=q.sav);(have q3:=hA.1.sav i (by omega));(have q2:=IT q q3.1 q3.2);omega);done)|skip)|(guard_target=~ aP 14 _ _ _ _ _ _;refine lp (Nat) [5,7] (fun i=>[(11,I i)]) (fun i=>i≤A.ab.length) (fun i=>A.ab.length-i) 0 (by exact Nat.zero_le _) (fun i ha=> ?_))|(guard_target=~ aP 20 _ _ _ _ _ _;refine lp (Nat) [5,7,11,12] (fun k=>[(13,I k)]) (fun k=>(k:Int)≤(A.ab.getD i cO).saved) (fun k=>(A.ab.getD i cO).saved.toNat-k) 0 (by exact(hA.1.sav i (by omega)).1) (fun k ha=> ?_);have hkp:=(hX ‹_›).2.2.2 i (by omega);have hsv:=hA.1.sav i (by omega))
  |refine nx (i+1:Nat) (by(show i+1≤_;omega))
  |refine nx (k+1:Nat) (by(show((k+1:Nat):Int)≤_;omega))
  |(apply Fact.mk;intro hL;try simp only[List.length_map,maxLen] at hL)
  |((first|apply bA|apply bB|apply bC|apply bD|apply bE|apply bF)<;>intro h<;>(try simp only[List.length_map] at h)<;>(try omega)<;>(try contradiction))|(guard_target=aa _ 7 _ _ _ _;refine cP rfl (l1) ?_)|(guard_target=aa _ 7 _ _ _ _;refine cP rfl (l2) ?_)|(guard_target=aa _ 10 _ _ _ _;refine cG [] rfl (hs1) ?_)|(guard_target=aa _ 11 _ _ _ _;refine cG [] rfl (hs2) ?_)|(guard_target=aa _ 12 _ _ _ _;refine cP rfl (o7 X) ?_)|(guard_target=aa _ 13 _ _ _ _;refine cP rfl (a3 A hA.1 hA.2.1) ?_)|(guard_target=aa _ 13 _ _ _ _;refine cP rfl (a3 X (hX ‹_›).1 (hX ‹_›).2.1) ?_)|(guard_target=aa _ 14 _ _ _ _;refine cP rfl (a4 A e hA.1 hA.2.1 hE) ?_)|(guard_target=aa _ 16 _ _ _ _;refine cP rfl (qH ((A.ab.getD i cO).notes.getD k n0).entry.proof) ?_)|(guard_target=aa _ 8 _ _ _ _;refine aa.ex rfl [false,false] _ _ _ _ rfl a1 rfl rfl (fun A hA=> ?_))|(guard_target=aa _ 9 _ _ _ _;refine aa.ex rfl [false,false,false] _ _ _ _ rfl (a2 A hA.1) rfl rfl (fun e hE=> ?_);(obtain⟨X,c,_,hs1,hs2,hX⟩:=FF hA.1 hA.2.1 hE))|(guard_target=aa _ 15 _ _ _ _;(have hl:=(hX ‹_›).2.2.1);refine aa.pure _ _ rfl (Fw X (A.ab.map dt).length (by rw[List.length_map,hl]) fun i hi=>(hX ‹_›).1.sav i hi) rfl _ rfl ?_)
  |refine aR ?_|(guard_target=Index _ _ _;first|refine Index.mk _ (aF (l:=A.ab) (d:=cO) (i:=i) (by omega)) ?_|refine Index.mk _ (aF (l:=X.ab) (d:=cO) (i:=i) (by omega)) ?_|refine Index.mk _ (aF (l:=(A.ab.getD i cO).notes) (d:=n0) (i:=k) (by omega)) ?_|refine Index.mk _ (K5 hkp (by omega) hsv.2) ?_)
  |refine iX (k:= ?_)
  |refine nB ?_
  |apply ay.no
  |apply cj.go
  |refine nO ?_)
 all_goals first|rfl|trivial
end Go.Proofs.YtgbggaddpbghfaaGreat
