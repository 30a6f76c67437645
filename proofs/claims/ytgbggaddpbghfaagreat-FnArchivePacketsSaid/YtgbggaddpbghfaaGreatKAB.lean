/- Contracts of the functions that look whether lists of expressions, steps, claims and proofs are valid. No conditions. -/
import Derived.Test.YtgbggaddpbghfaaGreatKAA
namespace Go.Proofs.YtgbggaddpbghfaaGreat
open Go Go.KA Go.Proofs
set_option maxHeartbeats 16000000
set_option maxRecDepth 100000
theorem nV{t a:Int}(h:bO t a=true):(0≤t∧t≤3)∧(0≤a∧a≤4):=by
 simp only[bO,dJ,Bool.and_eq_true,decide_eq_true_eq] at h
 omega
theorem Hu(t a:Int)(ht:0≤t∧t≤3)(ha:0≤a∧a≤4)(e:ae):aD Tryz.prog 176 [.a 2 [J t,J a], .a 3 (ag e)] (B (aY t a e)):=by
 rw[←Kb]
 refine cF Tryz.func176 (h:= ?_)
 repeat'((conv=>whnf);first
  |(apply bh.mk;first|(rfl;done)|skip)|(guard_target=aa _ 205 _ _ _ _;refine cP rfl (zn t a ht ha e 200 40 (by omega) (by omega)) ?_))
theorem lJ(t a:Int)(e:ae)(hl:aj e≤1048576):aD Tryz.prog 174 [.a 2 [J t,J a], .c (.rp 3 (ag e))] (B (bO t a&&aY t a e)):=by
 refine cF Tryz.func174 (h:= ?_)
 repeat'((conv=>whnf);first
  |(apply bh.mk;first|(simp_all[aY,cO,cM];done)|(simp_all[aY,cO,cM];omega;done)|skip)
  |((first|apply bA|apply bB|apply bC|apply bD|apply bE|apply bF)<;>intro h<;>(try simp only[List.length_map] at h)<;>(try omega)<;>(try contradiction))|(guard_target=aa _ 85 _ _ _ _;refine cP rfl (kV t a) ?_)|(guard_target=aa _ 145 _ _ _ _;refine cP rfl (rm e 200 (by omega) (by omega)) ?_)|(guard_target=aa _ 200 _ _ _ _;refine cP rfl (vj e hl) ?_)|(guard_target=aa _ 201 _ _ _ _;refine cP rfl (wy t a (nV ‹_›).1 (nV ‹_›).2 e) ?_))
theorem eo{α:Type}{p:α→Bool}{l:List α}{i:Nat}(h:i<l.length)(hp:p l[i]=false):l.all p=false:=rA h hp
theorem eZ{α:Type}{p:α→Bool}{l:List α}{i:Nat}(h:i<l.length)(ha:i≤l.length∧(l.take i).all p=true)(hp:p l[i]=true):i+1≤l.length∧(l.take (i+1)).all p=true:=⟨h,kj h ha.2 hp⟩
theorem eU{α:Type}{p:α→Bool}{l:List α}{i:Nat}(h:¬(i:Int)<(l.length:Int))(ha:i≤l.length∧(l.take i).all p=true):l.all p=true:=by
 have:=ha.2
 rwa[List.take_of_length_le (by omega)] at this
theorem xa(l:List Int)(n:Int)(hn:0≤n∧n≤1048576):aD Tryz.prog 63 [.c (.ro 1 (l.map eI)),I n] (B (l.all (dJ 0 (n-1)))):=by
 refine cF Tryz.func63 (h:= ?_)
 repeat'((conv=>whnf);first
  |(apply bh.mk;first|(rw[eo (i:=i) (by omega) h];rfl;done)|(rw[eU (by omega) ha];rfl;done)|skip)|(guard_target=~ aK 2 _ _ _ _ _ _;refine lp (Nat) [1,7,8] (fun i=>[(9,I i)]) (fun i=>i≤l.length∧(l.take i).all (dJ 0 (n-1))=true) (fun i=>l.length-i) 0 (by exact⟨Nat.zero_le _,rfl⟩) (fun i ha=> ?_))
  |refine nx (i+1:Nat) (by exact eZ (by omega) ha h)
  |(apply Fact.mk;intro hL;try simp only[List.length_map,maxLen] at hL)
  |((first|apply bA|apply bB|apply bC|apply bD|apply bE|apply bF)<;>intro h<;>(try simp only[List.length_map] at h)<;>(try omega)<;>(try contradiction))|(guard_target=aa _ 45 _ _ _ _;refine cP rfl (fa _ _ _) ?_)
  |refine aR ?_|(guard_target=Index _ _ _;first|(refine Index.mk _ (bw (i:=i) (by omega)) ?_)|fail)
  |refine nO ?_)
theorem aF{α:Type}{f:α→List CV}{l:List α}{i:Nat}{d:α}(h:i<l.length):(l.map f)[i]? =some (f (l.getD i d)):=by
 rw[List.getElem?_map,List.getElem?_eq_getElem h,List.getD_eq_getElem?_getD,List.getElem?_eq_getElem h]
 rfl
theorem getD_eq{α:Type}{l:List α}{i:Nat}{d:α}(h:i<l.length):l.getD i d=l[i]:=by
 rw[List.getD_eq_getElem?_getD,List.getElem?_eq_getElem h]
 rfl
theorem bX{lo hi n:Int}(h:dJ lo hi n=true):lo≤n∧n≤hi:=by
 simpa only[dJ,Bool.and_eq_true,decide_eq_true_eq] using h
theorem dV{b:Bool}(h:b=false):cO (SV.c (.cb false))=B b:=by subst h;rfl
theorem fF{b:Bool}(h:b=true):cO (SV.c (.cb true))=B b:=by subst h;rfl
theorem qy(t a:Int)(hs:bO t a=true)(l:List ae):aD Tryz.prog 148 [.a 2 [J t,J a], .c (.ro 3 (l.map ag))] (B (l.all (aY t a))):=by
 refine cF Tryz.func148 (h:= ?_)
 repeat'((conv=>whnf);first
  |(apply bh.mk;first|(rw[eo (i:=i) (by omega) h];rfl;done)|(rw[eU (by omega) ha,hs];rfl;done)|skip)|(guard_target=~ aK 2 _ _ _ _ _ _;refine lp (Nat) [2,7,8] (fun i=>[(9,I i)]) (fun i=>i≤l.length∧(l.take i).all (aY t a)=true) (fun i=>l.length-i) 0 (by exact⟨Nat.zero_le _,rfl⟩) (fun i ha=> ?_))
  |refine nx (i+1:Nat) (by exact eZ (by omega) ha h)
  |(apply Fact.mk;intro hL;try simp only[List.length_map,maxLen] at hL)
  |((first|apply bA|apply bB|apply bC|apply bD|apply bE|apply bF)<;>intro h<;>(try simp only[List.length_map] at h)<;>(try omega)<;>(try contradiction))|(guard_target=aa _ 176 _ _ _ _;refine cP rfl (Hu t a (nV hs).1 (nV hs).2 _) ?_)|(guard_target=aa _ 44 _ _ _ _;refine cP rfl (pa t a) ?_)
  |refine aR ?_|(guard_target=Index _ _ _;first|(refine Index.mk _ (bw (i:=i) (by omega)) ?_)|fail)
  |refine nO ?_)
theorem tS(l:List ae):aD Tryz.prog 177 [.c (.ro 3 (l.map ag))] (B (l.all cQ)):=by
 refine cF Tryz.func177 (h:= ?_)
 repeat'((conv=>whnf);first
  |(apply bh.mk;first|(rw[eo (i:=i) (by omega) h];rfl;done)|(rw[eU (by omega) ha];rfl;done)|skip)|(guard_target=~ aK 2 _ _ _ _ _ _;refine lp (Nat) [5,6] (fun i=>[(7,I i)]) (fun i=>i≤l.length∧(l.take i).all cQ=true) (fun i=>l.length-i) 0 (by exact⟨Nat.zero_le _,rfl⟩) (fun i ha=> ?_))
  |refine nx (i+1:Nat) (by exact eZ (by omega) ha h)
  |(apply Fact.mk;intro hL;try simp only[List.length_map,maxLen] at hL)
  |((first|apply bA|apply bB|apply bC|apply bD|apply bE|apply bF)<;>intro h<;>(try simp only[List.length_map] at h)<;>(try omega)<;>(try contradiction))|(guard_target=aa _ 206 _ _ _ _;refine cP rfl (kZ _) ?_)
  |refine aR ?_|(guard_target=Index _ _ _;first|(refine Index.mk _ (bw (i:=i) (by omega)) ?_)|fail)
  |refine nO ?_)
theorem Ee(t a:Int)(hs:bO t a=true)(l:List ae)(hl:eK aj l≤1048576):aD Tryz.prog 203 [.a 2 [J t,J a], .c (.ro 3 (l.map ag))] (B (l.all (aY t a))):=by
 have hb:∀i (h:i<l.length),aj l[i]≤1048576:=fun i h=>Nat.le_trans (cS aj (List.getElem_mem h)) hl
 refine cF Tryz.func203 (h:= ?_)
 repeat'((conv=>whnf);first
  |(apply bh.mk;first|(rw[hs,Bool.true_and] at h;rw[eo (i:=i) (by omega) h];rfl;done)|(rw[eU (by omega) ha];rfl;done)|skip)|(guard_target=~ aK 2 _ _ _ _ _ _;refine lp (Nat) [1,2] (fun i=>[(5,I i)]) (fun i=>i≤l.length∧(l.take i).all (aY t a)=true) (fun i=>l.length-i) 0 (by exact⟨Nat.zero_le _,rfl⟩) (fun i ha=> ?_))
  |refine nx (i+1:Nat) (by(rw[hs,Bool.true_and] at h;exact eZ (by omega) ha h))
  |(apply Fact.mk;intro hL;try simp only[List.length_map,maxLen] at hL)
  |((first|apply bA|apply bB|apply bC|apply bD|apply bE|apply bF)<;>intro h<;>(try simp only[List.length_map] at h)<;>(try omega)<;>(try contradiction))|(guard_target=aa _ 174 _ _ _ _;refine cP rfl (lJ t a _ (hb i (by omega))) ?_)
  |refine aR ?_|(guard_target=Index _ _ _;first|(refine Index.mk _ (bw (i:=i) (by omega)) ?_)|fail)
  |refine nB ?_
  |refine nO ?_)
theorem tA(l:List ae):aD Tryz.prog 204 [.c (.ro 3 (l.map ag))] (B (l.all cQ)):=by
 refine cF Tryz.func204 (h:= ?_)
 repeat'((conv=>whnf);first
  |(apply bh.mk;first|(rw[eo (i:=i) (by omega) h];rfl;done)|(rw[eU (by omega) ha];rfl;done)|skip)|(guard_target=~ aK 2 _ _ _ _ _ _;refine lp (Nat) [0] (fun i=>[(3,I i)]) (fun i=>i≤l.length∧(l.take i).all cQ=true) (fun i=>l.length-i) 0 (by exact⟨Nat.zero_le _,rfl⟩) (fun i ha=> ?_))
  |refine nx (i+1:Nat) (by exact eZ (by omega) ha h)
  |(apply Fact.mk;intro hL;try simp only[List.length_map,maxLen] at hL)
  |((first|apply bA|apply bB|apply bC|apply bD|apply bE|apply bF)<;>intro h<;>(try simp only[List.length_map] at h)<;>(try omega)<;>(try contradiction))|(guard_target=aa _ 214 _ _ _ _;refine cP rfl (iN _) ?_)
  |refine aR ?_|(guard_target=Index _ _ _;first|(refine Index.mk _ (bw (i:=i) (by omega)) ?_)|fail)
  |refine nO ?_)
end Go.Proofs.YtgbggaddpbghfaaGreat
namespace Go.Proofs.YtgbggaddpbghfaaGreat
open Go Go.KA Go.Proofs
set_option maxHeartbeats 16000000
set_option maxRecDepth 100000
def cU(t a:Int)(s:aB):Bool:=
 dJ (-40) 23 s.use&&(decide ((s.path.length:Int)≤40)&&(s.path.all (dJ 0 1)&&(decide ((s.au.length:Int)≤3)&&(decide ((s.c9.length:Int)≤4)&&(s.au.all (aY t a)&&(s.au.all cQ&&s.c9.all (aY t a)))))))
theorem IF(t a:Int)(hs:bO t a=true)(s:aB):aD Tryz.prog 149 [.a 2 [J t,J a], .a 5 (bP s)] (B (cU t a s)):=by
 have hr:aD Tryz.prog 63 [.c (.ro 1 (s.path.map eI)),I 2] (B (s.path.all (dJ 0 1))):=xa s.path 2 (by omega)
 refine cF Tryz.func149 (h:= ?_)
 repeat'((conv=>whnf);first
  |(apply bh.mk;first|(simp_all[cU,cO,cM];done)|(simp_all[cU,cO,cM];omega;done)|(simp_all[-List.all_eq_true, -List.all_eq_false,cU,cO,cM];done)|skip)
  |(apply Fact.mk;intro hL;try simp only[List.length_map,maxLen] at hL)
  |((first|apply bA|apply bB|apply bC|apply bD|apply bE|apply bF)<;>intro h<;>(try simp only[List.length_map] at h)<;>(try omega)<;>(try contradiction))|(guard_target=aa _ 45 _ _ _ _;refine cP rfl (fa _ _ _) ?_)|(guard_target=aa _ 63 _ _ _ _;refine cP rfl (hr) ?_)|(guard_target=aa _ 148 _ _ _ _;refine cP rfl (qy t a hs _) ?_)|(guard_target=aa _ 177 _ _ _ _;refine cP rfl (tS _) ?_))
theorem yc:∃rows:List (List CV),rows.length=24∧ah Tryz.prog 202 [] [] (.c (.ows 9 1 rows)):=by
 refine⟨?rows, ?h1, ?h2⟩
 case h2=>
  refine cX Tryz.func202 (h:= ?_)
  repeat'((conv=>whnf);first
   |(refine aq.mk ?_ ?_))
  all_goals trivial
 case h1=>rfl
theorem FJ(t a:Int)(hs:bO t a=true)(s:aB)(hl:bJ s≤1048576):aD Tryz.prog 175 [.a 2 [J t,J a], .c (.rp 5 (bP s))] (B (cU t a s)):=by
 obtain⟨rows,hr,hx⟩:=yc
 simp only[bJ] at hl
 refine cF Tryz.func175 (h:= ?_)
 repeat'((conv=>whnf);first
  |(apply bh.mk;first|(simp_all[cU,cO,cM];done)|(simp_all[cU,cO,cM];omega;done)|(simp_all[-List.all_eq_true, -List.all_eq_false,cU,cO,cM];done)|(have h9:=eo (i:=i) (by omega) h;clear ha;simp_all[-List.all_eq_true, -List.all_eq_false,cU,cO,cM];done)|(have h9:=eU (by omega) ha;clear ha;simp_all[-List.all_eq_true, -List.all_eq_false,cU,cO,cM];done)|skip)|(guard_target=~ aK 4 _ _ _ _ _ _;refine lp (Nat) [1,2] (fun i=>[(5,I i)]) (fun i=>i≤s.path.length∧(s.path.take i).all (dJ 0 1)=true) (fun i=>s.path.length-i) 0 (by exact⟨Nat.zero_le _,rfl⟩) (fun i ha=> ?_))
  |refine nx (i+1:Nat) (by exact eZ (by omega) ha h)
  |(apply Fact.mk;intro hL;try simp only[List.length_map,maxLen] at hL)
  |((first|apply bA|apply bB|apply bC|apply bD|apply bE|apply bF)<;>intro h<;>(try simp only[List.length_map] at h)<;>(try omega)<;>(try contradiction))|(guard_target=aa _ 86 _ _ _ _;refine cP rfl (dH _ _ _) ?_)|(guard_target=aa _ 202 _ _ _ _;refine cG [] rfl (hx) ?_)|(guard_target=aa _ 203 _ _ _ _;refine cP rfl (Ee t a hs _ (by omega)) ?_)|(guard_target=aa _ 204 _ _ _ _;refine cP rfl (tA _) ?_)
  |refine aR ?_|(guard_target=Index _ _ _;first|(refine Index.mk _ (bw (i:=i) (by omega)) ?_)|fail)
  |refine nB ?_
  |refine nO ?_)
end Go.Proofs.YtgbggaddpbghfaaGreat
namespace Go.Proofs.YtgbggaddpbghfaaGreat
open Go Go.KA Go.Proofs
set_option maxHeartbeats 16000000
set_option maxRecDepth 100000
def cq(t a:Int)(c:bm):Bool:=
 aY t a c.left&&(aY t a c.right&&(dJ 1 3 c.kg&&(dJ 0 39 c.ref&&(decide ((c.steps.length:Int)≤60)&&((if c.kg=1 then decide (c.ref=0) else decide ((c.steps.length:Int)=0))&&c.steps.all (cU t a))))))
def dy(p:cx):Bool:=bO p.sig.au p.sig.ai&&(decide ((p.ao.length:Int)≤40)&&p.ao.all (cq p.sig.au p.sig.ai))
theorem Ed{t a:Int}{c:bm}{i:Nat}(hi:i<c.steps.length)(h:cU t a c.steps[i]=false):cq t a c=false:=by
 unfold cq
 rw[rA hi h]
 simp
abbrev CC(t a:Int)(c:bm):Prop:=aY t a c.left=true∧aY t a c.right=true∧dJ 1 3 c.kg=true∧dJ 0 39 c.ref=true∧(c.steps.length:Int)≤60∧(if c.kg=1 then c.ref=0 else(c.steps.length:Int)=0)
theorem zd{t a:Int}{c:bm}(h:CC t a c)(h7:c.steps.all (cU t a)=true):cq t a c=true:=by
 obtain⟨h1,h2,h3,h4,h5,h6⟩:=h
 unfold cq
 rw[h1,h2,h3,h4,h7]
 by_cases hr:c.kg=1<;>simp_all
theorem wg{t a:Int}{c:bm}(h:¬CC t a c):cq t a c=false:=by
 cases hb:cq t a c with
 |false=>rfl
 |true=>
  refine absurd ?_ h
  unfold cq at hb
  simp only[Bool.and_eq_true,decide_eq_true_eq] at hb
  obtain⟨h1,h2,h3,h4,h5,h6,_⟩:=hb
  refine⟨h1,h2,h3,h4,h5, ?_⟩
  by_cases hr:c.kg=1
  ·rw[if_pos hr] at h6⊢;exact of_decide_eq_true h6
  ·rw[if_neg hr] at h6⊢;exact of_decide_eq_true h6
theorem CL(t a:Int)(hs:bO t a=true)(c:bm)(hl:bV c≤1048576):aD Tryz.prog 144 [.a 2 [J t,J a], .c (.rp 9 (aH c))] (B (cq t a c)):=by
 simp only[bV] at hl
 have h1:=lJ t a c.left (by omega)
 have h2:=lJ t a c.right (by omega)
 rw[a9,hs,Bool.true_and] at h1 h2
 have h1':aD Tryz.prog 174 [.a 2 [J t,J a], .c (.rp 9 (aH c))] (B (aY t a c.left)):=h1.cut (.same (.cut (k:=3) (by omega) .nil))
 have h2':aD Tryz.prog 174 [.a 2 [J t,J a], .c (.rp 6 ((aH c).drop 3))] (B (aY t a c.right)):=h2.cut (.same (.cut (k:=3) (by omega) .nil))
 have hst:∀i (h:i<c.steps.length),bJ c.steps[i]≤1048576:=fun i h=>Nat.le_trans (cS bJ (List.getElem_mem h)) (by omega)
 refine cF Tryz.func144 (h:= ?_)
 repeat'((conv=>whnf);first
  |(apply bh.mk;first|(exact dV (Ed (i:=i) (by omega) h);done)|(rw[zd ⟨‹_›,‹_›,‹_›,‹_›,by omega,by split<;>omega⟩ (eU (by omega) ha)];rfl;done)|((refine dV (wg ?_);rintro⟨g1,g2,g3,g4,g5,g6⟩;(try simp only[g1,g2,g3,g4] at h);first|(cases h;done)|omega|(split at g6<;>omega));done)|skip)|(guard_target=~ aK 6 _ _ _ _ _ _;refine lp (Nat) [1,2] (fun i=>[(5,I i)]) (fun i=>i≤c.steps.length∧(c.steps.take i).all (cU t a)=true) (fun i=>c.steps.length-i) 0 (by exact⟨Nat.zero_le _,rfl⟩) (fun i ha=> ?_))
  |refine nx (i+1:Nat) (by exact eZ (by omega) ha h)
  |(apply Fact.mk;intro hL;try simp only[List.length_map,maxLen] at hL)
  |((first|apply bA|apply bB|apply bC|apply bD|apply bE|apply bF)<;>intro h<;>(try simp only[List.length_map] at h)<;>(try omega)<;>(try contradiction))|(guard_target=aa _ 86 _ _ _ _;refine cP rfl (dH _ _ _) ?_)|(guard_target=aa _ 175 _ _ _ _;refine cP rfl (FJ t a hs _ (hst i (by omega))) ?_)|(guard_target=aa _ 174 _ _ _ _;(first|refine aa.pure _ _ rfl h1' rfl _ rfl ?_|refine aa.pure _ _ rfl h2' rfl _ rfl ?_))
  |refine aR ?_|(guard_target=Index _ _ _;first|(refine Index.mk _ (bw (i:=i) (by omega)) ?_)|fail)
  |refine nB ?_
  |refine nO ?_)
theorem J4(p:cx)(hl:b7 p≤1048576):aD Tryz.prog 116 [.c (.rp 3 (cK p))] (B (dy p)):=by
 have hc:∀i (h:i<p.ao.length),bV p.ao[i]≤1048576:=fun i h=>by
  have:=cS bV (List.getElem_mem h)
  simp only[b7] at hl
  omega
 refine cF Tryz.func116 (h:= ?_)
 repeat'((conv=>whnf);first
  |(apply bh.mk;first|(simp_all[dy,cO,cM];done)|(simp_all[dy,cO,cM];omega;done)|(have h9:=eo (i:=i) (by omega) h;clear ha;simp_all[-List.all_eq_true, -List.all_eq_false,dy,cO,cM];done)|(have h9:=eU (by omega) ha;clear ha;simp_all[-List.all_eq_true, -List.all_eq_false,dy,cO,cM];done)|skip)|(guard_target=~ aK 4 _ _ _ _ _ _;refine lp (Nat) [0] (fun i=>[(3,I i)]) (fun i=>i≤p.ao.length∧(p.ao.take i).all (cq p.sig.au p.sig.ai)=true) (fun i=>p.ao.length-i) 0 (by exact⟨Nat.zero_le _,rfl⟩) (fun i ha=> ?_))
  |refine nx (i+1:Nat) (by exact eZ (by omega) ha h)
  |(apply Fact.mk;intro hL;try simp only[List.length_map,maxLen] at hL)
  |((first|apply bA|apply bB|apply bC|apply bD|apply bE|apply bF)<;>intro h<;>(try simp only[List.length_map] at h)<;>(try omega)<;>(try contradiction))|(guard_target=aa _ 85 _ _ _ _;refine cP rfl (kV _ _) ?_)|(guard_target=aa _ 144 _ _ _ _;refine cP rfl (CL _ _ ‹_› _ (hc i (by omega))) ?_)
  |refine aR ?_|(guard_target=Index _ _ _;first|(refine Index.mk _ (bw (i:=i) (by omega)) ?_)|fail)
  |refine nB ?_
  |refine nO ?_)
abbrev c0:bm:=⟨.mk 0 0 [], .mk 0 0 [],0,0,[]⟩
theorem Co{p:cx}{i:Nat}(hi:i<p.ao.length)(h:cq p.sig.au p.sig.ai (p.ao.getD i c0)=false):dy p=false:=by
 rw[show p.ao.getD i c0=p.ao[i] from getD_eq hi] at h
 unfold dy
 rw[rA hi h]
 simp
theorem N3{p:cx}{i:Nat}(hi:i<p.ao.length)(h:CC p.sig.au p.sig.ai (p.ao.getD i c0))(h7:(p.ao.getD i c0).steps.all (cU p.sig.au p.sig.ai)=true):cq p.sig.au p.sig.ai p.ao[i]=true:=by
 have:=zd h h7
 rwa[show p.ao.getD i c0=p.ao[i] from getD_eq hi] at this
theorem yn(p:cx):aD Tryz.prog 125 [.a 3 (cK p)] (B (dy p)):=by
 have hv:∀(hs:bO p.sig.au p.sig.ai=true) (c:bm),aD Tryz.prog 148 [.a 2 [J p.sig.au,J p.sig.ai], .c (.ro 3 [aI c.left,aI c.right])] (B (aY p.sig.au p.sig.ai c.left&&aY p.sig.au p.sig.ai c.right)):=by
  intro hs c
  have:=qy _ _ hs [c.left,c.right]
  simpa only[List.map_cons,List.map_nil,a9,List.all_cons,List.all_nil,Bool.and_true] using this
 refine cF Tryz.func125 (h:= ?_)
 repeat'((conv=>whnf);first
  |(apply bh.mk;first|(simp_all[dy,cO,cM];done)|(simp_all[dy,cO,cM];omega;done)|(exact dV (Co (i:=i) (by omega) (Ed (i:=k) (by omega) h));done)|((refine dV (Co (i:=i) (by omega) (wg ?_));rintro⟨g1,g2,g3,g4,g5,g6⟩;(try simp only[g1,g2,g3,g4,Bool.and_self] at h);first|(cases h;done)|omega|(split at g6<;>omega));done)|((have h9:=eU (by omega) ha;clear ha;unfold dy;rw[h9,‹bO _ _=true›,decide_eq_true (by omega)];rfl);done)|skip)|(guard_target=~ aK 4 _ _ _ _ _ _;refine lp (Nat) [1,18,19] (fun i=>[(20,I i)]) (fun i=>i≤p.ao.length∧(p.ao.take i).all (cq p.sig.au p.sig.ai)=true) (fun i=>p.ao.length-i) 0 (by exact⟨Nat.zero_le _,rfl⟩) (fun i ha=> ?_))|(guard_target=~ aK 11 _ _ _ _ _ _;refine lp (Nat) [1,18,19,20,71,72] (fun k=>[(73,I k)]) (fun k=>k≤(p.ao.getD i c0).steps.length∧((p.ao.getD i c0).steps.take k).all (cU p.sig.au p.sig.ai)=true) (fun k=>(p.ao.getD i c0).steps.length-k) 0 (by exact⟨Nat.zero_le _,rfl⟩) (fun k ha=> ?_))
  |refine nx (k+1:Nat) (by exact eZ (by omega) ha h)
  |refine nx (i+1:Nat) (by(have hcc:CC p.sig.au p.sig.ai (p.ao.getD i c0):=(by(try simp only[Bool.and_eq_true] at*);refine⟨(‹_∧_›:aY _ _ (p.ao.getD i c0).left=true∧aY _ _ (p.ao.getD i c0).right=true).1,(‹_∧_›:aY _ _ (p.ao.getD i c0).left=true∧aY _ _ (p.ao.getD i c0).right=true).2,‹_›,‹_›,by omega,by split<;>omega⟩);exact eZ (by omega) ‹_∧(p.ao.take i).all _=true› (N3 (by omega) hcc (eU (by omega) ha))))
  |(apply Fact.mk;intro hL;try simp only[List.length_map,maxLen] at hL)
  |((first|apply bA|apply bB|apply bC|apply bD|apply bE|apply bF)<;>intro h<;>(try simp only[List.length_map] at h)<;>(try omega)<;>(try contradiction))|(guard_target=aa _ 44 _ _ _ _;refine cP rfl (pa _ _) ?_)|(guard_target=aa _ 148 _ _ _ _;refine cP rfl (hv ‹_› _) ?_)|(guard_target=aa _ 45 _ _ _ _;refine cP rfl (fa _ _ _) ?_)|(guard_target=aa _ 149 _ _ _ _;refine cP rfl (IF _ _ ‹_› _) ?_)
  |refine aR ?_|(guard_target=Index _ _ _;first|(refine Index.mk _ (aF (d:=c0) (i:=i) (by omega)) ?_)|(refine Index.mk _ (bw (i:=k) (by omega)) ?_)|fail)
  |refine nO ?_)
end Go.Proofs.YtgbggaddpbghfaaGreat
namespace Go.Proofs.YtgbggaddpbghfaaGreat
open Go Go.KA Go.Proofs
set_option maxHeartbeats 16000000
set_option maxRecDepth 100000
theorem s6{α:Type}{f:α→Nat}{l:List α}{i:Nat}(h:¬i<l.length):cZ f (l.take i)=cZ f l:=by rw[List.take_of_length_le (by omega)]
theorem ij{α:Type}{f:α→Nat}{l:List α}{i:Nat}(h:i<l.length):cZ f (l.take (i+1))=cZ f (l.take i)+f l[i]:=uc (List.getElem?_eq_getElem h)
def cT(e:ae):Nat:=aj e+1
theorem Aj(e:ae):cT e=1+cZ cT e.kids:=by
 have key:∀l:List ae,aJ l=cZ cT l:=by
  intro l
  induction l with
  |nil=>rfl
  |cons x xs ih=>simp only[aJ,cZ,cT,ih]
 cases e
 simp only[cT,aj,key,ae.kids]
 omega
theorem Bs(e:ae)(hl:cT e≤1048577)(hx:∀x∈e.kids,aD Tryz.prog 150 [.a 3 (ag x)] (I (cT x))):aD Tryz.prog 150 [.a 3 (aI e)] (I (cT e)):=by
 rw[Aj] at hl
 have hb:=qn (f:=cT) e.kids
 refine cF Tryz.func150 (h:= ?_)
 repeat'((conv=>whnf);first
  |(apply bh.mk;first|(rw[Aj,←s6 (l:=e.kids) (i:=i) (by omega)];rfl;done)|skip)|(guard_target=~ aK 3 _ _ _ _ _ _;refine lp (Nat) [7,8] (fun i=>[(3,I (1+cZ cT (e.kids.take i):Nat)),(9,I i)]) (fun i=>i≤e.kids.length) (fun i=>e.kids.length-i) 0 (by exact Nat.zero_le _) (fun i ha=> ?_))
  |(apply Fact.mk;intro hL;try simp only[List.length_map,maxLen] at hL)
  |((first|apply bA|apply bB|apply bC|apply bD|apply bE|apply bF)<;>intro h<;>(try simp only[List.length_map] at h)<;>(try omega)<;>(try contradiction))|(guard_target=aa _ 150 _ _ _ _;refine cP rfl (hx _ (List.getElem_mem (by omega))) ?_)|(guard_target=Arith _ _ _;refine Arith.fit (aP (by have:=hb (i+1);rw[ij (by omega)] at this;omega) (by have:=hb (i+1);rw[ij (by omega)] at this;omega)) ?_)|(guard_target=Gh _ _ _ _ _;refine Gh.go ⟨i+1,(by omega),(by show _<_;(try simp only[]);omega),⟨⟨congrArg I (by rw[ij (by omega)];omega),rfl⟩,⟨rfl,rfl⟩,trivial⟩,(by first|exact⟨⟨rfl,rfl⟩,⟨rfl,rfl⟩,trivial⟩),(by first|exact trivial|exact⟨⟨rfl,rfl⟩,trivial⟩|exact⟨⟨rfl,rfl⟩,⟨rfl,rfl⟩,trivial⟩)⟩)|(guard_target=Index _ _ _;first|(refine Index.mk _ (bw (i:=i) (by omega)) ?_)|fail)
  |refine nO ?_)
theorem mv(e:ae)(hl:cT e≤1048577):aD Tryz.prog 150 [.a 3 (ag e)] (I (cT e)):=by
 rw[a9]
 exact Bs e hl fun x _hx=>mv x (by
  have:=sR cT _hx
  rw[Aj] at hl
  omega)
 termination_by SizeOf.sizeOf e
 decreasing_by
  have:=List.sizeOf_lt_of_mem _hx
  cases e
  simp only[ae.mk.sizeOf_spec]
  show SizeOf.sizeOf x<_
  simp only[ae.kids] at this
  omega
theorem BK:∀l:List ae,cZ cT l=eK aj l
 |[]=>rfl
 |x::xs=>by
  have:=BK xs
  simp only[eK] at this
  simp only[cZ,eK,cT,List.length_cons,this]
  omega
theorem Ll(l:List ae)(hl:cZ cT l≤1048577):aD Tryz.prog 151 [.c (.ro 3 (l.map ag))] (I (cZ cT l)):=by
 have hb:=qn (f:=cT) l
 have hx:∀i (h:i<l.length),cT l[i]≤1048577:=fun i h=>Nat.le_trans (sR cT (List.getElem_mem h)) hl
 refine cF Tryz.func151 (h:= ?_)
 repeat'((conv=>whnf);first
  |(apply bh.mk;first|(rw[←s6 (l:=l) (i:=i) (by omega),←ha.2];rfl;done)|skip)|(guard_target=~ aK 3 _ _ _ _ _ _;refine lp (Nat × Nat) [6,7] (fun⟨i,m⟩=>[(3,I (m:Nat)),(8,I i)]) (fun⟨i,m⟩=>i≤l.length∧m=cZ cT (l.take i)) (fun⟨i,m⟩=>l.length-i) (0,0) (by exact⟨Nat.zero_le _,rfl⟩) (fun A ha=> ?_);obtain⟨i,m⟩:=A;have ha:i≤l.length∧m=cZ cT (l.take i):=ha)
  |refine nx ((i+1,m+cT l[i]):Nat × Nat) (by exact⟨by show i+1≤_;omega,by show m+cT l[i]=_;rw[ij (by omega),ha.2]⟩)
  |(apply Fact.mk;intro hL;try simp only[List.length_map,maxLen] at hL)
  |((first|apply bA|apply bB|apply bC|apply bD|apply bE|apply bF)<;>intro h<;>(try simp only[List.length_map] at h)<;>(try omega)<;>(try contradiction))|(guard_target=aa _ 150 _ _ _ _;refine cP rfl (mv _ (hx i (by omega))) ?_)|(guard_target=Arith _ _ _;refine Arith.fit (aP (by have:=hb (i+1);rw[ij (by omega)] at this;omega) (by have:=hb (i+1);rw[ij (by omega)] at this;omega)) ?_)|(guard_target=Index _ _ _;first|(refine Index.mk _ (bw (i:=i) (by omega)) ?_)|fail)
  |refine nO ?_)
def jD(s:aB):Nat:=cZ cT s.au+cZ cT s.c9
def iL(c:bm):Nat:=cT c.left+cT c.right+cZ jD c.steps
def rU(p:cx):Nat:=cZ iL p.ao
theorem uh{α:Type}{f g:α→Nat}:∀{l:List α},(∀x∈l,f x≤g x)→cZ f l≤cZ g l
 |[],_=>Nat.le_refl _
 |x::xs,h=>by
  have h1:=h x (by simp)
  have h2:=uh (f:=f) (g:=g) (l:=xs) fun y hy=>h y (by simp[hy])
  simp only[cZ]
  omega
theorem CY{α:Type}{f:α→Nat}{c d:Nat}:∀{l:List α},cZ (fun x=>c+d*f x) l=c*l.length+d*cZ f l
 |[]=>by simp[cZ]
 |x::xs=>by
  simp only[cZ,List.length_cons,CY (l:=xs),Nat.mul_add]
  omega
theorem zz(s:aB):jD s≤bJ s:=by
 simp only[jD,BK,bJ]
 omega
theorem Ex(c:bm):iL c≤bV c+2:=by
 have h:=uh (l:=c.steps) fun s _=>zz s
 simp only[iL,bV,eK,cT]
 omega
theorem D5(p:cx):rU p≤2*b7 p:=by
 have h:=uh (l:=p.ao) (f:=iL) (g:=fun c=>2+1*bV c) fun c _=>by have:=Ex c;omega
 rw[CY] at h
 simp only[rU,b7,eK]
 omega
theorem sub_le{α:Type}{f:α→Nat}{l:List α}{i:Nat}(h:i<l.length):cZ f (l.take i)+f l[i]≤cZ f l:=by
 have:=qn (f:=f) l (i+1)
 rwa[ij h] at this
theorem Aa(p:cx)(hl:b7 p≤1048576):aD Tryz.prog 126 [.a 3 (cK p)] (I (rU p)):=by
 have hp:=D5 p
 have hcb:∀i (h:i<p.ao.length),bV (p.ao.getD i c0)≤1048576:=fun i h=>by
  rw[getD_eq h]
  have:=cS bV (List.getElem_mem h)
  simp only[b7] at hl
  omega
 have hLf:∀c:bm,bV c≤1048576→aD Tryz.prog 150 [.a 3 (aI c.left)] (I (cT c.left)):=fun c h=>by
  have:=mv c.left (by simp only[bV] at h;simp only[cT];omega)
  rwa[a9] at this
 have hRt:∀c:bm,bV c≤1048576→aD Tryz.prog 150 [.a 3 (aI c.right)] (I (cT c.right)):=fun c h=>by
  have:=mv c.right (by simp only[bV] at h;simp only[cT];omega)
  rwa[a9] at this
 have hst:∀(c:bm),bV c≤1048576→∀k (h:k<c.steps.length),cZ cT c.steps[k].au≤1048577∧cZ cT c.steps[k].c9≤1048577:=fun c hc k h=>by
  have h1:=cS bJ (List.getElem_mem h)
  have h2:=zz c.steps[k]
  simp only[bV] at hc
  simp only[jD] at h2
  omega
 have hA:∀i,i<p.ao.length→cZ iL (p.ao.take i)+(cT (p.ao.getD i c0).left+cT (p.ao.getD i c0).right+cZ jD (p.ao.getD i c0).steps)≤2097152:=fun i h=>by
  rw[getD_eq h]
  have h1:=sub_le (f:=iL) h
  simp only[rU] at hp
  simp only[iL] at h1
  omega
 have hB:∀(c:bm) k (h:k<c.steps.length),cZ jD (c.steps.take k)+(cZ cT c.steps[k].au+cZ cT c.steps[k].c9)≤cZ jD c.steps:=fun c k h=>sub_le (f:=jD) h
 refine cF Tryz.func126 (h:= ?_)
 repeat'((conv=>whnf);first
  |(apply bh.mk;first|(rw[rU,←s6 (l:=p.ao) (i:=i) (by omega),←ha.2];rfl;done)|skip)|(guard_target=~ aK 3 _ _ _ _ _ _;refine lp (Nat × Nat) [9,10] (fun⟨i,m⟩=>[(3,I (m:Nat)),(11,I i)]) (fun⟨i,m⟩=>i≤p.ao.length∧m=cZ iL (p.ao.take i)) (fun⟨i,m⟩=>p.ao.length-i) (0,0) (by exact⟨Nat.zero_le _,rfl⟩) (fun A ha=> ?_);obtain⟨i,m⟩:=A;have ha:i≤p.ao.length∧m=cZ iL (p.ao.take i):=ha)|(guard_target=~ aK 7 _ _ _ _ _ _;refine lp (Nat × Nat) [9,10,11,25,26] (fun⟨k,n⟩=>[(3,I (n:Nat)),(27,I k)]) (fun⟨k,n⟩=>k≤(p.ao.getD i c0).steps.length∧n=m+(cT (p.ao.getD i c0).left+cT (p.ao.getD i c0).right)+cZ jD ((p.ao.getD i c0).steps.take k)) (fun⟨k,n⟩=>(p.ao.getD i c0).steps.length-k) (0,m+(cT (p.ao.getD i c0).left+cT (p.ao.getD i c0).right)) (by exact⟨Nat.zero_le _,rfl⟩) (fun A ha=> ?_);obtain⟨k,n⟩:=A;have ha:k≤(p.ao.getD i c0).steps.length∧n=m+(cT (p.ao.getD i c0).left+cT (p.ao.getD i c0).right)+cZ jD ((p.ao.getD i c0).steps.take k):=ha)
  |refine nx ((k+1,n+jD (p.ao.getD i c0).steps[k]):Nat × Nat) (by exact⟨by show k+1≤_;omega,by show n+jD _=_;rw[ij (by omega),ha.2];omega⟩)
  |refine nx ((i+1,n):Nat × Nat) (by exact⟨by show i+1≤_;omega,by show n=_;have hi:i<p.ao.length:=(by omega);have h8:=‹i≤p.ao.length∧m=_›;have h9:=ha.2;rw[s6 (by omega),getD_eq hi] at h9;rw[ij hi,←h8.2,h9];unfold iL;omega⟩)
  |(apply Fact.mk;intro hL;try simp only[List.length_map,maxLen] at hL)
  |((first|apply bA|apply bB|apply bC|apply bD|apply bE|apply bF)<;>intro h<;>(try simp only[List.length_map] at h)<;>(try omega)<;>(try contradiction))|(guard_target=aa _ 151 _ _ _ _;refine cP rfl (Ll _ (by have:=hst (p.ao.getD i c0) (hcb i (by omega)) k (by omega);first|exact this.1|exact this.2)) ?_)|(guard_target=aa _ 150 _ _ _ _;(first|refine aa.pure _ _ rfl (hLf (p.ao.getD i c0) (hcb i (by omega))) rfl _ rfl ?_|refine aa.pure _ _ rfl (hRt (p.ao.getD i c0) (hcb i (by omega))) rfl _ rfl ?_))|(guard_target=Arith _ _ _;refine Arith.fit (aP (by(have h1:=hA i (by omega);have h2:=ha.2;first|omega|(have h3:=hB (p.ao.getD i c0) k (by omega);have h8:=(‹i≤p.ao.length∧m=_›).2;omega))) (by(have h1:=hA i (by omega);have h2:=ha.2;first|omega|(have h3:=hB (p.ao.getD i c0) k (by omega);have h8:=(‹i≤p.ao.length∧m=_›).2;omega)))) ?_)|(guard_target=Index _ _ _;first|(refine Index.mk _ (aF (d:=c0) (i:=i) (by omega)) ?_)|(refine Index.mk _ (bw (i:=k) (by omega)) ?_)|fail)
  |refine nB ?_
  |refine nO ?_)
end Go.Proofs.YtgbggaddpbghfaaGreat
namespace Go.Proofs.YtgbggaddpbghfaaGreat
open Go Go.KA Go.Proofs
set_option maxHeartbeats 16000000
set_option maxRecDepth 100000
structure BA(f:Int→Int)(s k:Nat):Prop where
 iff:∀m,0≤f m↔(s:Int)≤m
 eq:∀m,0≤f m→f m=m-s
 lo:∀m,min m 0-k≤f m
 hi:∀m,f m≤m
theorem BA.id:BA (fun m=>m) 0 0:=⟨fun m=>by simp,fun m _=>by simp,fun m=>by omega,fun m=>Int.le_refl _⟩
theorem BA.comp{f g:Int→Int}{s t k j:Nat}(hf:BA f s k)(hg:BA g t j):BA (fun m=>g (f m)) (s+t) (k+j):=by
 refine⟨fun m=> ?_,fun m h=> ?_,fun m=> ?_,fun m=> ?_⟩
 ·have h1:=hf.iff m
  have h2:=hg.iff (f m)
  have h3:=hf.eq m
  constructor
  ·intro h
   have:=h2.1 h
   have h4:=h3 (by omega)
   omega
  ·intro h
   refine h2.2 ?_
   have h4:=h3 (h1.2 (by omega))
   omega
 ·have h2:=(hg.iff (f m)).1 h
  have h3:=hf.eq m (by omega)
  have h4:=hg.eq (f m) h
  show g (f m)=_
  omega
 ·have h1:=hf.lo m
  have h2:=hg.lo (f m)
  omega
 ·have h1:=hf.hi m
  have h2:=hg.hi (f m)
  omega
theorem BA.guard{f:Int→Int}{s k:Nat}(hf:BA f s k):BA (fun m=>if m<0 then m else f m) s k:=by
 refine⟨fun m=> ?_,fun m h=> ?_,fun m=> ?_,fun m=> ?_⟩<;>(try dsimp only at*)
 ·have:=hf.iff m
  by_cases hm:m<0
  ·rw[if_pos hm];omega
  ·rw[if_neg hm];exact this
 ·by_cases hm:m<0
  ·rw[if_pos hm] at h;omega
  ·rw[if_neg hm] at h⊢;exact hf.eq m h
 ·have:=hf.lo m
  by_cases hm:m<0
  ·rw[if_pos hm];omega
  ·rw[if_neg hm];exact this
 ·have:=hf.hi m
  by_cases hm:m<0
  ·rw[if_pos hm];omega
  ·rw[if_neg hm];exact this
mutual
theorem ng:∀e:ae,(∀m,0≤b9 e m↔(cT e:Int)≤m)∧(∀m,0≤b9 e m→b9 e m=m-cT e)
 | .mk k n kids=>by
   have h:=zL kids
   have he:cT (.mk k n kids)=1+cZ cT kids:=Aj _
   refine⟨fun m=> ?_,fun m hm=> ?_⟩
   ·show 0≤dh kids (m-1)↔_
    have:=h.1 (m-1)
    omega
   ·have h2:b9 (.mk k n kids) m=dh kids (m-1):=rfl
    rw[h2] at hm⊢
    have:=h.2 (m-1) hm
    omega
theorem zL:∀l:List ae,(∀m,0≤dh l m↔(cZ cT l:Int)≤m)∧(∀m,0≤dh l m→dh l m=m-cZ cT l)
 |[]=>⟨fun m=>by simp[dh,cZ],fun m _=>by simp[dh,cZ]⟩
 |x::xs=>by
  have h1:=ng x
  have h2:=zL xs
  have he:cZ cT (x::xs)=cT x+cZ cT xs:=rfl
  refine⟨fun m=> ?_,fun m hm=> ?_⟩
  ·have a1:=h1.1 m
   have a2:=h1.2 m
   have a3:=h2.1 (b9 x m)
   have hp:1≤cT x:=Nat.le_add_left _ _
   simp only[dh]
   by_cases hm:m<0
   ·rw[if_pos hm];omega
   ·rw[if_neg hm]
    constructor
    ·intro h
     have:=a3.1 h
     have:=a2 (by omega)
     omega
    ·intro h
     have:=a2 (a1.2 (by omega))
     exact a3.2 (by omega)
  ·have a1:=h1.1 m
   have a2:=h1.2 m
   have a3:=h2.1 (b9 x m)
   have a4:=h2.2 (b9 x m)
   simp only[dh] at hm⊢
   by_cases hm0:m<0
   ·rw[if_pos hm0] at hm;omega
   ·rw[if_neg hm0] at hm⊢
    have:=a3.1 hm
    have:=a2 (by omega)
    have:=a4 hm
    omega
end
theorem ur(e:ae){m:Int}(h:m<0):b9 e m=m-1:=by rw[xg,nh (by omega)]
theorem tW(e:ae):BA (b9 e) (cT e) 1:=by
 refine⟨(ng e).1,(ng e).2,fun m=> ?_,fun m=> ?_⟩
 ·by_cases h:m<0
  ·rw[ur e h];omega
  ·have:=mu e m (by omega);omega
 ·by_cases h:m<0
  ·rw[ur e h];omega
  ·have:=mu e m (by omega);omega
def lE(l:List ae)(m:Int):Int:=l.foldl (fun m e=>b9 e m) m
theorem Gu{l:List ae}{i:Nat}(h:i<l.length)(m:Int):lE (l.take (i+1)) m=b9 l[i] (lE (l.take i) m):=by
 unfold lE
 rw[List.take_add_one,List.getElem?_eq_getElem h,List.foldl_append]
 rfl
theorem OY:∀l:List ae,BA (lE l) (cZ cT l) l.length
 |[]=>BA.id
 |x::xs=>by
  have:=(tW x).comp (OY xs)
  have e:cZ cT (x::xs)=cT x+cZ cT xs:=rfl
  rw[e,List.length_cons,Nat.add_comm xs.length 1]
  exact this
def lS(s:aB)(m:Int):Int:=lE s.c9 (lE s.au m)
def zJ:List aB→Int→Int
 |[],m=>m
 |s::r,m=>if m<0 then m else zJ r (lS s m)
def lC(c:bm)(m:Int):Int:=zJ c.steps (b9 c.right (b9 c.left m))
def AO:List bm→Int→Int
 |[],m=>m
 |c::r,m=>if m<0 then m else AO r (lC c m)
theorem Qn(s:aB):BA (lS s) (jD s) (s.au.length+s.c9.length):=(OY s.au).comp (OY s.c9)
theorem NV:∀l:List aB,∃k,BA (zJ l) (cZ jD l) k
 |[]=>⟨0,BA.id⟩
 |s::r=>by
  obtain⟨k,h⟩:=NV r
  exact⟨_,((Qn s).comp h).guard⟩
theorem Qa(c:bm):∃k,BA (lC c) (iL c) k:=by
 obtain⟨k,h⟩:=NV c.steps
 exact⟨_,((tW c.left).comp (tW c.right)).comp h⟩
theorem NG:∀l:List bm,∃k,BA (AO l) (cZ iL l) k
 |[]=>⟨0,BA.id⟩
 |c::r=>by
  obtain⟨k1,h1⟩:=Qa c
  obtain⟨k2,h2⟩:=NG r
  exact⟨_,(h1.comp h2).guard⟩
theorem rC:∀(l r:List aB) (m:Int),zJ (l++r) m=zJ r (zJ l m)
 |[],r,m=>rfl
 |s::l,r,m=>by
  simp only[List.cons_append,zJ]
  by_cases h:m<0
  ·rw[if_pos h,if_pos h];cases r<;>simp[zJ,h]
  ·rw[if_neg h,if_neg h,rC l r]
theorem qU:∀(l r:List bm) (m:Int),AO (l++r) m=AO r (AO l m)
 |[],r,m=>rfl
 |s::l,r,m=>by
  simp only[List.cons_append,AO]
  by_cases h:m<0
  ·rw[if_pos h,if_pos h];cases r<;>simp[AO,h]
  ·rw[if_neg h,if_neg h,qU l r]
theorem Jn{l:List aB}{i:Nat}(h:i<l.length){m:Int}(hm:0≤zJ (l.take i) m):zJ (l.take (i+1)) m=lS l[i] (zJ (l.take i) m):=by
 rw[List.take_add_one,List.getElem?_eq_getElem h,rC]
 simp only[Option.toList_some,zJ]
 rw[if_neg (by omega)]
theorem KR{l:List bm}{i:Nat}(h:i<l.length){m:Int}(hm:0≤AO (l.take i) m):AO (l.take (i+1)) m=lC l[i] (AO (l.take i) m):=by
 rw[List.take_add_one,List.getElem?_eq_getElem h,qU]
 simp only[Option.toList_some,AO]
 rw[if_neg (by omega)]
theorem KK{l:List aB}{i:Nat}{m:Int}(hm:zJ (l.take i) m<0):zJ l m=zJ (l.take i) m:=by
 conv=>lhs;rw[←List.take_append_drop i l,rC]
 cases l.drop i<;>simp[zJ,hm]
theorem Lz{l:List bm}{i:Nat}{m:Int}(hm:AO (l.take i) m<0):AO l m=AO (l.take i) m:=by
 conv=>lhs;rw[←List.take_append_drop i l,qU]
 cases l.drop i<;>simp[AO,hm]
theorem D7(e:ae)(left:Int)(h0: -1099511627776≤left)(h1:left<0):aD Tryz.prog 145 [.c (.rp 3 (ag e)),I left] (I (b9 e left)):=by
 rw[a9,ur e h1]
 refine cF Tryz.func145 (h:= ?_)
 repeat'((conv=>whnf);first
  |(apply bh.mk;first|(rfl;done)|skip)|(guard_target=~ aK 3 _ _ _ _ _ _;refine lp (Nat) [0] (fun i=>[(1,I (left-1)),(5,I i)]) (fun i=>i=0) (fun i=>0) 0 (by exact rfl) (fun i ha=> ?_))
  |(apply Fact.mk;intro hL;try simp only[List.length_map,maxLen] at hL)
  |((first|apply bA|apply bB|apply bC|apply bD|apply bE|apply bF)<;>intro h<;>(try simp only[List.length_map] at h)<;>(try omega)<;>(try contradiction))
  |refine aR ?_)
theorem mf(e:ae)(left:Int)(h0: -1099511627776≤left)(h1:left≤1048576):aD Tryz.prog 145 [.c (.rp 3 (ag e)),I left] (I (b9 e left)):=by
 by_cases h:left<0
 ·exact D7 e left h0 h
 ·exact rm e left (by omega) h1
abbrev s0:aB:=⟨0,false,[],[],[]⟩
theorem EO(p:cx)(hl:b7 p≤1048576)(left:Int)(h0:0≤left)(h1:left≤1048576):aD Tryz.prog 117 [.c (.rp 3 (cK p)),I left] (I (AO p.ao left)):=by
 have hcb:∀i (h:i<p.ao.length),bV (p.ao.getD i c0)≤1048576:=fun i h=>by
  rw[getD_eq h]
  have:=cS bV (List.getElem_mem h)
  simp only[b7] at hl
  omega
 have hsb:∀i (h:i<p.ao.length) k (h:k<(p.ao.getD i c0).steps.length),((p.ao.getD i c0).steps.getD k s0).au.length≤1048576∧((p.ao.getD i c0).steps.getD k s0).c9.length≤1048576:=fun i h k hk=>by
  have h2:=hcb i h
  rw[getD_eq hk]
  have h3:=cS bJ (List.getElem_mem hk)
  simp only[bV] at h2
  generalize(p.ao.getD i c0).steps[k]=q at*
  have h4:=dB aj q.au
  have h5:=dB aj q.c9
  simp only[bJ] at h3
  omega
 have hlt:∀(c:bm) (m:Int), -1099511627776≤m→m≤1048576→aD Tryz.prog 145 [.c (.rp 9 (aH c)),I m] (I (b9 c.left m)):=fun c m g1 g2=>by
  have:=mf c.left m g1 g2
  rw[a9] at this
  exact this.cut (.cut (k:=3) (by omega) (.same .nil))
 have hrt:∀(c:bm) (m:Int), -1099511627776≤m→m≤1048576→aD Tryz.prog 145 [.c (.rp 6 ((aH c).drop 3)),I m] (I (b9 c.right m)):=fun c m g1 g2=>by
  have:=mf c.right m g1 g2
  rw[a9] at this
  exact this.cut (.cut (k:=3) (by omega) (.same .nil))
 have hfin:∀(c:bm) (k:Nat) (n m:Int),k≤c.steps.length→n=zJ (c.steps.take k) (b9 c.right (b9 c.left m))→(¬(k:Int)<(c.steps.length:Int)∨n<0)→zJ (c.steps.take k) (b9 c.right (b9 c.left m))=lC c m:=by
  intro c k n m g1 g2 g3
  unfold lC
  rcases g3 with g3|g3
  ·rw[List.take_of_length_le (by omega)]
  ·exact(KK (by rw[←g2];exact g3)).symm
 refine cF Tryz.func117 (h:= ?_)
 repeat'((conv=>whnf);first
  |(apply bh.mk;first|((have e:=ha.2.1;first|(rw[Lz (i:=i) (by rw[←e];omega),←e];rfl)|(rw[List.take_of_length_le (by omega)] at e;rw[←e];rfl));done)|skip)|(guard_target=~ aK 2 _ _ _ _ _ _;refine lp (Nat × Int) [0] (fun⟨i,m⟩=>[(1,I m),(5,I i)]) (fun⟨i,m⟩=>i≤p.ao.length∧m=AO (p.ao.take i) left∧ -4000000≤m∧m≤1048576) (fun⟨i,m⟩=>p.ao.length-i) (0,left) (by exact⟨Nat.zero_le _,rfl,by show-4000000≤left;omega,h1⟩) (fun A ha=> ?_);obtain⟨i,m⟩:=A;have ha:i≤p.ao.length∧m=AO (p.ao.take i) left∧ -4000000≤m∧m≤1048576:=ha)|(guard_target=~ aK 7 _ _ _ _ _ _;refine lp (Nat × Int) [0,5,6] (fun⟨k,n⟩=>[(1,I n),(7,I k)]) (fun⟨k,n⟩=>k≤(p.ao.getD i c0).steps.length∧n=zJ ((p.ao.getD i c0).steps.take k) (b9 (p.ao.getD i c0).right (b9 (p.ao.getD i c0).left m))∧ -4000000≤n∧n≤1048576) (fun⟨k,n⟩=>(p.ao.getD i c0).steps.length-k) (0,b9 (p.ao.getD i c0).right (b9 (p.ao.getD i c0).left m)) (by have a1:=(tW (p.ao.getD i c0).left).lo m;have a2:=(tW (p.ao.getD i c0).left).hi m;have a3:=(tW (p.ao.getD i c0).right).lo (b9 (p.ao.getD i c0).left m);have a4:=(tW (p.ao.getD i c0).right).hi (b9 (p.ao.getD i c0).left m);exact⟨Nat.zero_le _,rfl,by show-4000000≤b9 _ _;omega,by show b9 _ _≤1048576;omega⟩) (fun A ha=> ?_);obtain⟨k,n⟩:=A;have ha:k≤(p.ao.getD i c0).steps.length∧n=zJ ((p.ao.getD i c0).steps.take k) (b9 (p.ao.getD i c0).right (b9 (p.ao.getD i c0).left m))∧ -4000000≤n∧n≤1048576:=ha)|(guard_target=~ aK 10 _ _ _ _ _ _;refine lp (Nat × Int) [0,5,6,7] (fun⟨x,o⟩=>[(1,I o),(8,I x)]) (fun⟨x,o⟩=>x≤((p.ao.getD i c0).steps.getD k s0).au.length∧o=lE (((p.ao.getD i c0).steps.getD k s0).au.take x) n∧ -(x:Int)≤o∧o≤1048576) (fun⟨x,o⟩=>((p.ao.getD i c0).steps.getD k s0).au.length-x) (0,n) (by exact⟨Nat.zero_le _,rfl,by show-((0:Nat):Int)≤n;omega,ha.2.2.2⟩) (fun A ha=> ?_);obtain⟨x,o⟩:=A;have ha:x≤((p.ao.getD i c0).steps.getD k s0).au.length∧o=lE (((p.ao.getD i c0).steps.getD k s0).au.take x) n∧ -(x:Int)≤o∧o≤1048576:=ha)|(guard_target=~ aK 14 _ _ _ _ _ _;refine lp (Nat × Int) [0,5,6,7] (fun⟨y,q⟩=>[(1,I q),(9,I y)]) (fun⟨y,q⟩=>y≤((p.ao.getD i c0).steps.getD k s0).c9.length∧q=lE (((p.ao.getD i c0).steps.getD k s0).c9.take y) (lE ((p.ao.getD i c0).steps.getD k s0).au n)∧ -(y:Int)-(((p.ao.getD i c0).steps.getD k s0).au.length:Int)≤q∧q≤1048576) (fun⟨y,q⟩=>((p.ao.getD i c0).steps.getD k s0).c9.length-y) (0,o) (by have e:=ha.2.1;rw[List.take_of_length_le (by omega)] at e;exact⟨Nat.zero_le _,e,by show-((0:Nat):Int)-_≤o;omega,ha.2.2.2⟩) (fun A ha=> ?_);obtain⟨y,q⟩:=A;have ha:y≤((p.ao.getD i c0).steps.getD k s0).c9.length∧q=lE (((p.ao.getD i c0).steps.getD k s0).c9.take y) (lE ((p.ao.getD i c0).steps.getD k s0).au n)∧ -(y:Int)-(((p.ao.getD i c0).steps.getD k s0).au.length:Int)≤q∧q≤1048576:=ha)
  |refine nx ((x+1,b9 ((p.ao.getD i c0).steps.getD k s0).au[x] o):Nat × Int) (by have hx:x<((p.ao.getD i c0).steps.getD k s0).au.length:=(by omega);have a1:=(tW ((p.ao.getD i c0).steps.getD k s0).au[x]).lo o;have a2:=(tW ((p.ao.getD i c0).steps.getD k s0).au[x]).hi o;exact⟨hx,(by show b9 _ o=_;rw[Gu hx,←ha.2.1]),(by show-((x+1:Nat):Int)≤b9 _ o;omega),(by show b9 _ o≤_;omega)⟩)
  |refine nx ((y+1,b9 ((p.ao.getD i c0).steps.getD k s0).c9[y] q):Nat × Int) (by have hx:y<((p.ao.getD i c0).steps.getD k s0).c9.length:=(by omega);have a1:=(tW ((p.ao.getD i c0).steps.getD k s0).c9[y]).lo q;have a2:=(tW ((p.ao.getD i c0).steps.getD k s0).c9[y]).hi q;exact⟨hx,(by show b9 _ q=_;rw[Gu hx,←ha.2.1]),(by show-((y+1:Nat):Int)-_≤b9 _ q;omega),(by show b9 _ q≤_;omega)⟩)
  |refine nx ((k+1,q):Nat × Int) (by have hk:k<(p.ao.getD i c0).steps.length:=(by omega);have h9:=‹k≤_∧n=_∧_›;have e:=ha.2.1;rw[List.take_of_length_le (by omega)] at e;have a1:=hsb i (by omega) k hk;exact⟨hk,(by show q=_;rw[Jn hk (by rw[←h9.2.1];omega),←h9.2.1,e,←getD_eq (d:=s0) hk];rfl),(by show-4000000≤q;omega),ha.2.2.2⟩)
  |refine nx ((i+1,n):Nat × Int) (by have hi:i<p.ao.length:=(by omega);have h9:=‹i≤_∧m=_∧_›;exact⟨hi,(by show n=_;rw[KR hi (by rw[←h9.2.1];omega),←h9.2.1,←getD_eq (d:=c0) hi,ha.2.1];exact hfin _ k n _ ha.1 ha.2.1 (by omega)),ha.2.2.1,ha.2.2.2⟩)
  |(apply Fact.mk;intro hL;try simp only[List.length_map,maxLen] at hL)
  |((first|apply bA|apply bB|apply bC|apply bD|apply bE|apply bF)<;>intro h<;>(try simp only[List.length_map] at h)<;>(try omega)<;>(try contradiction))|(guard_target=aa _ 145 _ _ _ _;(first|refine aa.pure _ _ rfl (hlt (p.ao.getD i c0) m (by omega) (by omega)) rfl _ rfl ?_|refine aa.pure _ _ rfl (hrt (p.ao.getD i c0) (b9 (p.ao.getD i c0).left m) (by have a1:=(tW (p.ao.getD i c0).left).lo m;omega) (by have a1:=(tW (p.ao.getD i c0).left).hi m;omega)) rfl _ rfl ?_|refine aa.pure _ _ rfl (mf _ o (by have a1:=hsb i (by omega) k (by omega);omega) (by omega)) rfl _ rfl ?_|refine aa.pure _ _ rfl (mf _ q (by have a1:=hsb i (by omega) k (by omega);omega) (by omega)) rfl _ rfl ?_))|(guard_target=Arith _ _ _;refine Arith.fit (aP (by(first|omega|(have a1:=hsb i (by omega) k (by omega);omega))) (by(first|omega|(have a1:=hsb i (by omega) k (by omega);omega)))) ?_)|(guard_target=Index _ _ _;first|(refine Index.mk _ (aF (d:=c0) (i:=i) (by omega)) ?_)|(refine Index.mk _ (aF (d:=s0) (i:=k) (by omega)) ?_)|(refine Index.mk _ (bw (i:=x) (by omega)) ?_)|(refine Index.mk _ (bw (i:=y) (by omega)) ?_)|fail)
  |refine nB ?_
  |refine nO ?_)
end Go.Proofs.YtgbggaddpbghfaaGreat
