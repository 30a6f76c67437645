/- Contracts of the functions that look whether entries, notes and servers are valid. No conditions. -/
import Derived.Test.YtgbggaddpbghfaaGreatKAB
namespace Go.Proofs.YtgbggaddpbghfaaGreat
open Go Go.KA Go.Proofs Go.Proofs.Tryz
set_option maxHeartbeats 16000000
set_option maxRecDepth 100000
theorem ry(l:List aT)(a b:Int)(r:Bool)(id:Int):aS prog 59 [.c (.ro 7 (((l.map bG).drop a.toNat).take (b.toNat-a.toNat))),B r,I id] (I (bf ((l.drop a.toNat).take (b.toNat-a.toNat)) r id)):=by
 have:=mF ((l.drop a.toNat).take (b.toNat-a.toNat)) r id;rwa[List.map_take,List.map_drop]at this
theorem xS(l:List aT)(a b:Int)(r:Bool)(id:Int):aS prog 60 [.c (.ro 7 (((l.map bG).drop a.toNat).take (b.toNat-a.toNat))),B r,I id] (I (bf ((l.drop a.toNat).take (b.toNat-a.toNat)) r id)):=by
 have:=jd ((l.drop a.toNat).take (b.toNat-a.toNat)) r id;rwa[List.map_take,List.map_drop]at this
def Mh(l:List aT)(id:Int):Bool:=decide (0≤bf l false id)
def iO(l:List aT)(ids:List Int):Bool:=ids.all (Mh l)
theorem KP{l:List aT}{id:Int}(h:bf l false id<0):Mh l id=false:=decide_eq_false (by omega)
theorem Iy{l:List aT}{id:Int}(h:¬bf l false id<0):Mh l id=true:=decide_eq_true (by omega)
theorem qL(l:List aT)(ids:List Int):aS prog 95 [.c (.ro 7 (l.map bG)), .c (.ro 1 (ids.map eI))] (B (iO l ids)):=by
 refine cF func95 (h:=?_)
 repeat'((conv=>whnf);first
  |(apply bP.mk;first|(exact eM (eQ (i:=i) (by omega) (KP h));done)|(exact gO (fO (by omega) ha);done)|skip)|(show aZ 2 _ _ _ _ _ _;refine lp (Nat) [0,7,8] (fun i=>[(9,I i)]) (fun i=>i≤ids.length/\(ids.take i).all (Mh l)=true) (fun i=>ids.length-i) 0 (by exact⟨ah _,rfl⟩) (fun i ha=>?_))
  |refine nx (i+1:Nat) (by exact eN (by omega) ha (Iy h))
  |(apply Fact.mk;intro hL;try simp only[aa,maxLen]at hL)
  |((apply bX;constructor)<;>intro h<;>(try simp only[aa]at h)<;>(try first|omega|contradiction))|(show ay _ 59 _ _ _ _;refine cP rfl (mF l false _) ?_)
  |refine aR ?_|(show Index _ _ _;first|(refine Index.mk _ (bZ (i:=i) (by omega)) ?_)|fail)
  |refine nO ?_)
theorem xk(l:List aT)(ids:List Int):aS prog 115 [.c (.ro 7 (l.map bG)), .c (.ro 1 (ids.map eI))] (B (iO l ids)):=by
 refine cF func115 (h:=?_)
 repeat'((conv=>whnf);first
  |(apply bP.mk;first|(exact eM (eQ (i:=i) (by omega) (KP h));done)|(exact gO (fO (by omega) ha);done)|skip)|(show aZ 2 _ _ _ _ _ _;refine lp (Nat) [0,1] (fun i=>[(5,I i)]) (fun i=>i≤ids.length/\(ids.take i).all (Mh l)=true) (fun i=>ids.length-i) 0 (by exact⟨ah _,rfl⟩) (fun i ha=>?_))
  |refine nx (i+1:Nat) (by exact eN (by omega) ha (Iy h))
  |(apply Fact.mk;intro hL;try simp only[aa,maxLen]at hL)
  |((apply bX;constructor)<;>intro h<;>(try simp only[aa]at h)<;>(try first|omega|contradiction))|(show ay _ 60 _ _ _ _;refine cP rfl (jd l false _) ?_)
  |refine aR ?_|(show Index _ _ _;first|(refine Index.mk _ (bZ (i:=i) (by omega)) ?_)|fail)
  |refine nO ?_)
theorem EK(l:List aT)(a b:Int)(ids:List Int):aS prog 95 [.c (.ro 7 (((l.map bG).drop a.toNat).take (b.toNat-a.toNat))), .c (.ro 1 (ids.map eI))] (B (iO ((l.drop a.toNat).take (b.toNat-a.toNat)) ids)):=by
 have:=qL ((l.drop a.toNat).take (b.toNat-a.toNat)) ids;rwa[List.map_take,List.map_drop]at this
theorem Ky(l:List aT)(a b:Int)(ids:List Int):aS prog 115 [.c (.ro 7 (((l.map bG).drop a.toNat).take (b.toNat-a.toNat))), .c (.ro 1 (ids.map eI))] (B (iO ((l.drop a.toNat).take (b.toNat-a.toNat)) ids)):=by
 have:=xk ((l.drop a.toNat).take (b.toNat-a.toNat)) ids;rwa[List.map_take,List.map_drop]at this
def Al(p:cY):Bool:=(p.sig.aK==0&&p.sig.aF==0)&&((p.aG.length:Int)==0)
def dE(t a:Int)(bI:List Int)(p:cY):Bool:=
 decide ((bI.length:Int)≤4)&&(decide bI.Nodup&&(bI.all (ee 0 99)&&(dT p&&((p.sig.aK==t&&p.sig.aF==a)&&(decide ((bI.length:Int)<p.aG.length)&&decide ((vQ p:Int)≤20000))))))
theorem vk(p:cY):aS prog 100 [.a 3 (dk p)] (B (Al p)):=by
 refine cF func100 (h:=?_)
 repeat'((conv=>whnf);first
  |(apply bP.mk;first|(simp_all[Al,dj,dh];done)|skip)
  |(apply Fact.mk;intro hL;try simp only[aa,maxLen]at hL)
  |((apply bX;constructor)<;>intro h<;>(try simp only[aa]at h)<;>(try first|omega|contradiction)))
theorem xO(p:cY):aS prog 92 [.c (.rp 3 (dk p))] (B (Al p)):=by
 refine cF func92 (h:=?_)
 repeat'((conv=>whnf);first
  |(apply bP.mk;first|(simp_all[Al,dj,dh];done)|skip)
  |(apply Fact.mk;intro hL;try simp only[aa,maxLen]at hL)
  |((apply bX;constructor)<;>intro h<;>(try simp only[aa]at h)<;>(try first|omega|contradiction)))
theorem zT(t a:Int)(bI:List Int)(p:cY)(hl:cL p≤1048576):aS prog 97 [.a 2 [J t,J a], .c (.ro 1 (bI.map eI)), .a 3 (dk p)] (B (dE t a bI p)):=by
 have hr:aS prog 63 [.c (.ro 1 (bI.map eI)),I 100] (B (bI.all (ee 0 99))):=lD bI 100 (by omega);refine cF func97 (h:=?_)
 repeat'((conv=>whnf);first
  |(apply bP.mk;first|(simp_all[dE,dj,dh];done)|(simp_all[dE,dj,dh];omega;done)|(simp_all[-List.all_eq_true, -List.all_eq_false,dE,dj,dh];done)|skip)
  |(apply Fact.mk;intro hL;try simp only[aa,maxLen]at hL)
  |((apply bX;constructor)<;>intro h<;>(try simp only[aa]at h)<;>(try first|omega|contradiction))|(show ay _ 124 _ _ _ _;refine cP rfl (yu _) ?_)|(show ay _ 63 _ _ _ _;refine cP rfl (hr) ?_)|(show ay _ 125 _ _ _ _;refine cP rfl (BA p) ?_)|(show ay _ 126 _ _ _ _;refine cP rfl (ER p hl) ?_))
theorem PT(p:cY):(Ej p.aG 20000<0↔¬(vQ p:Int)≤20000):=by
 obtain⟨k,h⟩:=Uo p.aG;have:=h.iff 20000;simp only[vQ];omega
theorem xF(t a:Int)(bI:List Int)(p:cY)(hl:cL p≤1048576):aS prog 91 [.a 2 [J t,J a], .c (.ro 1 (bI.map eI)), .c (.rp 3 (dk p))] (B (dE t a bI p)):=by
 have hz:=PT p;refine cF func91 (h:=?_)
 repeat'((conv=>whnf);first
  |(apply bP.mk;first|(simp_all[dE,dj,dh];done)|(simp_all[dE,dj,dh];omega;done)|((refine eM ?_;have h9:=eQ (p:=ee 0 99) (i:=i) (by omega) h;simp_all[-List.all_eq_true, -List.all_eq_false,dE];done);done)|((refine eM ?_;have h9:¬bI.Nodup:=Fp (i:=i) (by omega) (List.mem_iff_getElem.2 ⟨k,by rw[aq];omega,by rw[List.getElem_take];exact h⟩);unfold dE;rw[decide_eq_false h9];simp);done)|((refine gO ?_;have h7:=ha.2.1;have h8:=ha.2.2;rw[ar (by omega)]at h7 h8;unfold dE;rw[h7,decide_eq_true h8,decide_eq_true (show(bI.length:Int)≤4 by omega),‹dT p=true›,decide_eq_true (show(bI.length:Int)<p.aG.length by omega),decide_eq_true (show(vQ p:Int)≤20000 by omega)];simp_all);done)|skip)|(show aZ 4 _ _ _ _ _ _;refine lp (Nat) [1] (fun i=>[(7,I i)]) (fun i=>i≤bI.length/\(bI.take i).all (ee 0 99)=true/\(bI.take i).Nodup) (fun i=>bI.length-i) 0 (by exact⟨ah _,rfl,by simp⟩) (fun i ha=>?_))|(show aZ 9 _ _ _ _ _ _;refine lp (Nat) [1,7] (fun k=>[(8,I k)]) (fun k=>k≤i/\ ∀j (hj:j<bI.length),j<k-> ∀hi:i<bI.length,¬bI[j]=bI[i]) (fun k=>i-k) 0 (by exact⟨ah _,fun j _ hj=>by omega⟩) (fun k ha=>?_))
  |refine nx (k+1:Nat) (by exact⟨by show k+1≤_;omega,fun j hj vx hi=>by rcases Nat.lt_succ_iff_lt_or_eq.1 vx with vx|rfl;exact ha.2 j hj vx hi;exact h⟩)
  |refine nx (i+1:Nat) (by(have h8:=‹i≤bI.length/\(bI.take i).all (ee 0 99)=true/\(bI.take i).Nodup›;have hi:i<bI.length:=(by omega);exact⟨hi,mi hi h8.2.1 ‹ee 0 99 bI[i]=true›,AS hi h8.2.2 (fun hm=>by obtain⟨j,hj,e⟩:=List.mem_iff_getElem.1 hm;rw[aq]at hj;rw[List.getElem_take]at e;exact ha.2 j (by omega) (by omega) hi e)⟩))
  |(apply Fact.mk;intro hL;try simp only[aa,maxLen]at hL)
  |((apply bX;constructor)<;>intro h<;>(try simp only[aa]at h)<;>(try first|omega|contradiction))|(show ay _ 116 _ _ _ _;refine cP rfl (Ro p hl) ?_)|(show ay _ 117 _ _ _ _;refine cP rfl (JS p hl 20000 (by omega) (by omega)) ?_)|(show ay _ 86 _ _ _ _;refine cP rfl (ed _ _ _) ?_)
  |refine aR ?_|(show Index _ _ _;first|(refine Index.mk _ (bZ (i:=i) (by omega)) ?_)|(refine Index.mk _ (bZ (i:=k) (by omega)) ?_)|fail)
  |refine nB ?_
  |refine nO ?_)
def KH(e:dS):Bool:=(e.id==0)&&(((e.bI.length:Int)==0)&&Al e.proof)
theorem yz(e:dS):aS prog 96 [.a 5 (kC e)] (B (KH e)):=by
 refine cF func96 (h:=?_)
 repeat'((conv=>whnf);first
  |(apply bP.mk;first|(simp_all[KH,dj,dh];done)|skip)
  |(apply Fact.mk;intro hL;try simp only[aa,maxLen]at hL)
  |((apply bX;constructor)<;>intro h<;>(try simp only[aa]at h)<;>(try first|omega|contradiction))|(show ay _ 100 _ _ _ _;refine cP rfl (vk e.proof) ?_))
def cU(t a:Int)(n:aT):Bool:=ee 0 99 n.id&&(if n.bT=true then KH n.entry else(n.entry.id==n.id)&&dE t a n.entry.bI n.entry.proof)
theorem BY(t a:Int)(n:aT)(hl:bU n≤1048576):aS prog 47 [.a 2 [J t,J a], .a 7 (bG n)] (B (cU t a n)):=by
 have hp:cL n.entry.proof≤1048576:=by simp only[bU,nE]at hl;omega
 refine cF func47 (h:=?_)
 repeat'((conv=>whnf);first
  |(apply bP.mk;first|(simp_all[cU,dj,dh];done)|skip)
  |((apply bX;constructor)<;>intro h<;>(try simp only[aa]at h)<;>(try first|omega|contradiction))|(show ay _ 45 _ _ _ _;refine cP rfl (eg _ _ _) ?_)|(show ay _ 96 _ _ _ _;refine cP rfl (yz n.entry) ?_)|(show ay _ 97 _ _ _ _;refine cP rfl (zT t a n.entry.bI n.entry.proof hp) ?_))
theorem Ba(t a:Int)(n:aT)(hl:bU n≤1048576):aS prog 88 [.a 2 [J t,J a], .c (.rp 7 (bG n))] (B (cU t a n)):=by
 have hp:cL n.entry.proof≤1048576:=by simp only[bU,nE]at hl;omega
 refine cF func88 (h:=?_)
 repeat'((conv=>whnf);first
  |(apply bP.mk;first|(simp_all[cU,dj,dh];done)|(simp_all[cU,KH,dj,dh];done)|skip)
  |(apply Fact.mk;intro hL;try simp only[aa,maxLen]at hL)
  |((apply bX;constructor)<;>intro h<;>(try simp only[aa]at h)<;>(try first|omega|contradiction))|(show ay _ 86 _ _ _ _;refine cP rfl (ed _ _ _) ?_)|(show ay _ 92 _ _ _ _;refine cP rfl (xO n.entry.proof) ?_)|(show ay _ 91 _ _ _ _;refine cP rfl (xF t a n.entry.bI n.entry.proof hp) ?_)
  |refine nB ?_)
abbrev n0:aT:=⟨false,0,⟨0,[],⟨⟨0,0⟩,[]⟩⟩⟩
def gy(t a:Int)(l:List aT)(i:Nat):Bool:=cU t a (l.getD i n0)&&(decide (bf (l.take i) (l.getD i n0).bT (l.getD i n0).id<0)&&iO (l.take i) (l.getD i n0).entry.bI)
def nS(n:Nat)(p:Nat->Bool):Bool:=(List.range n).all p
theorem sK{n:Nat}{p:Nat->Bool}(h:nS n p=true)(hp:p n=true):nS (n+1) p=true:=by
 unfold nS at h⊢;rw[List.range_succ,List.all_append,h];simp[hp]
theorem E1{n i:Nat}{p:Nat->Bool}(hi:i<n)(hp:p i=false):nS n p=false:=by
 unfold nS;rw[List.all_eq_false];exact⟨i,by simp[hi],by simp[hp]⟩
theorem FP{n i:Nat}{p:Nat->Bool}(h:nS n p=true)(hi:i<n):p i=true:=by
 unfold nS at h;rw[aj]at h;exact h i (by simp[hi])
def cS(t a:Int)(l:List aT):Bool:=nS l.length (gy t a l)
def cO(t a:Int)(s:bj):Bool:=
 decide ((s.notes.length:Int)≤20)&&(ee 0 s.notes.length s.saved&&((s.up||s.saved==s.notes.length)&&cS t a s.notes))
theorem BU{t a:Int}{s:bj}{i:Nat}(hi:i<s.notes.length)(h:gy t a s.notes i=false):cO t a s=false:=by
 unfold cO cS;rw[E1 hi h];simp
theorem BK{t a:Int}{l:List aT}{i:Nat}(h:¬(cU t a (l.getD i n0)=true/\bf (l.take i) (l.getD i n0).bT (l.getD i n0).id<0/\iO (l.take i) (l.getD i n0).entry.bI=true)):gy t a l i=false:=by
 cases hb:gy t a l i with
 |false=>rfl
 |true=>
  unfold gy at hb;simp only[ab,decide_eq_true_eq]at hb;exact absurd hb h
theorem A5{t a:Int}{l:List aT}{i:Nat}(h1:cU t a (l.getD i n0)=true)(h2:¬bf (l.take i) (l.getD i n0).bT (l.getD i n0).id≥0)(h3:iO (l.take i) (l.getD i n0).entry.bI=true):gy t a l i=true:=by
 unfold gy;rw[h1,h3,decide_eq_true (by omega)];rfl
theorem FE(t a:Int)(s:bj)(hl:db s≤1048576):aS prog 46 [.a 2 [J t,J a], .a 3 (cZ s)] (B (cO t a s)):=by
 have hn:∀i,i<s.notes.length->bU (s.notes.getD i n0)≤1048576:=fun i h=>by
  rw[getD_eq h];have:=di bU (ag h);simp only[db]at hl;omega
 refine cF func46 (h:=?_)
 repeat'((conv=>whnf);first
  |(apply bP.mk;first|(simp_all[cO,dj,dh];done)|(simp_all[cO,dj,dh];omega;done)|(((try simp only[sE]at*);refine eM (BU (i:=i) (by omega) (BK ?_));rintro⟨g1,g2,g3⟩;first|omega|(rw[g1]at h;cases h)|(rw[g3]at h;cases h));done)|((refine gO ?_;have e:i=s.notes.length:=(by omega);rw[e]at ha;have h9:cS t a s.notes=true:=ha.2;clear ha;simp_all[cO]);done)|skip)|(show aZ 5 _ _ _ _ _ _;refine lp (Nat) [2,3,32,33] (fun i=>[(34,I i)]) (fun i=>i≤s.notes.length/\nS i (gy t a s.notes)=true) (fun i=>s.notes.length-i) 0 (by exact⟨ah _,rfl⟩) (fun i ha=>?_))
  |refine nx (i+1:Nat) (by((try simp only[sE]at*);exact⟨by show i+1≤_;omega,sK ha.2 (A5 ‹_› ‹_› h)⟩))
  |(apply Fact.mk;intro hL;try simp only[aa,maxLen]at hL)
  |((apply bX;constructor)<;>intro h<;>(try simp only[aa]at h)<;>(try first|omega|contradiction))|(show ay _ 45 _ _ _ _;refine cP rfl (eg _ _ _) ?_)|(show ay _ 47 _ _ _ _;refine cP rfl (BY t a _ (hn i (by omega))) ?_)|(show ay _ 59 _ _ _ _;refine cP rfl (ry s.notes 0 i _ _) ?_)|(show ay _ 95 _ _ _ _;refine cP rfl (EK s.notes 0 i _) ?_)
  |refine aR ?_|(show Index _ _ _;first|(refine Index.mk _ (aN (d:=n0) (i:=i) (by omega)) ?_)|fail)
  |refine nB ?_
  |refine nO ?_)
theorem Dr(t a:Int)(s:bj)(hl:db s≤1048576):aS prog 87 [.a 2 [J t,J a], .c (.rp 3 (cZ s))] (B (cO t a s)):=by
 have hn:∀i,i<s.notes.length->bU (s.notes.getD i n0)≤1048576:=fun i h=>by
  rw[getD_eq h];have:=di bU (ag h);simp only[db]at hl;omega
 refine cF func87 (h:=?_)
 repeat'((conv=>whnf);first
  |(apply bP.mk;first|(simp_all[cO,dj,dh];done)|(simp_all[cO,dj,dh];omega;done)|(((try simp only[sE]at*);refine eM (BU (i:=i) (by omega) (BK ?_));rintro⟨g1,g2,g3⟩;first|omega|(rw[g1]at h;cases h)|(rw[g3]at h;cases h));done)|((refine gO ?_;have e:i=s.notes.length:=(by omega);rw[e]at ha;have h9:cS t a s.notes=true:=ha.2;clear ha;simp_all[cO]);done)|skip)|(show aZ 5 _ _ _ _ _ _;refine lp (Nat) [1,2] (fun i=>[(6,I i)]) (fun i=>i≤s.notes.length/\nS i (gy t a s.notes)=true) (fun i=>s.notes.length-i) 0 (by exact⟨ah _,rfl⟩) (fun i ha=>?_))
  |refine nx (i+1:Nat) (by((try simp only[sE]at*);exact⟨by show i+1≤_;omega,sK ha.2 (A5 ‹_› ‹_› h)⟩))
  |(apply Fact.mk;intro hL;try simp only[aa,maxLen]at hL)
  |((apply bX;constructor)<;>intro h<;>(try simp only[aa]at h)<;>(try first|omega|contradiction))|(show ay _ 86 _ _ _ _;refine cP rfl (ed _ _ _) ?_)|(show ay _ 88 _ _ _ _;refine cP rfl (Ba t a _ (hn i (by omega))) ?_)|(show ay _ 60 _ _ _ _;refine cP rfl (xS s.notes 0 i _ _) ?_)|(show ay _ 115 _ _ _ _;refine cP rfl (Ky s.notes 0 i _) ?_)
  |refine aR ?_|(show Index _ _ _;first|(refine Index.mk _ (aN (d:=n0) (i:=i) (by omega)) ?_)|fail)
  |refine nB ?_
  |refine nO ?_)
section
variable{α:Type}{a b:List α}{i:Nat}
theorem mG(h:¬a.length=b.length):eqv a b=false:=gE fun e=>h (by rw[e])
theorem qp(hi:i<a.length)(hj:i<b.length)(h:eqv a[i] b[i]=false):eqv a b=false:=gE fun e=>by
 subst e;simp at h
theorem p9(hi:i<a.length)(hj:i<b.length)(ht:a.take i=b.take i)(h:eqv a[i] b[i]=true):a.take (i+1)=b.take (i+1):=by
 rw[List.take_add_one,List.take_add_one,ht,List.getElem?_eq_getElem hi,List.getElem?_eq_getElem hj,eqv_true.1 h]
theorem mS(hl:a.length=b.length)(hi:¬i<a.length)(ht:a.take i=b.take i):eqv a b=true:=by
 rw[ar (by omega),ar (by omega)]at ht;exact eqv_true.2 ht
end
theorem zW(a b:List Int):aS prog 94 [.c (.ro 1 (a.map eI)), .c (.ro 1 (b.map eI))] (B (eqv a b)):=by
 refine cF func94 (h:=?_)
 repeat'((conv=>whnf);first
  |(apply bP.mk;first|(exact eM (mG (by omega));done)|(exact eM (qp (i:=i) (by omega) (by omega) (gE h));done)|(exact gO (mS ha.2.1 (by omega) ha.2.2);done)|skip)|(show aZ 4 _ _ _ _ _ _;refine lp (Nat) [0,1] (fun i=>[(5,I i)]) (fun i=>i≤a.length/\a.length=b.length/\a.take i=b.take i) (fun i=>a.length-i) 0 (by exact⟨ah _,by omega,rfl⟩) (fun i ha=>?_))
  |refine nx (i+1:Nat) (by exact⟨by show i+1≤_;omega,ha.2.1,p9 (by omega) (by omega) ha.2.2 (oW h)⟩)
  |(apply Fact.mk;intro hL;try simp only[aa,maxLen]at hL)
  |((apply bX;constructor)<;>intro h<;>(try simp only[aa]at h)<;>(try first|omega|contradiction))
  |refine aR ?_|(show Index _ _ _;first|(refine Index.mk _ (bZ (i:=i) (by omega)) ?_)|fail)
  |refine nB ?_
  |refine nO ?_)
theorem HK(a b:List Int):aS prog 98 [.c (.ro 1 (a.map eI)), .c (.ro 1 (b.map eI))] (B (eqv a b)):=by
 refine cF func98 (h:=?_)
 repeat'((conv=>whnf);first
  |(apply bP.mk;first|(exact eM (mG (by omega));done)|(exact eM (qp (i:=i) (by omega) (by omega) (gE h));done)|(exact gO (mS ha.2.1 (by omega) ha.2.2);done)|skip)|(show aZ 4 _ _ _ _ _ _;refine lp (Nat) [0,1,12] (fun i=>[(13,I i)]) (fun i=>i≤a.length/\a.length=b.length/\a.take i=b.take i) (fun i=>a.length-i) 0 (by exact⟨ah _,by omega,rfl⟩) (fun i ha=>?_))
  |refine nx (i+1:Nat) (by exact⟨by show i+1≤_;omega,ha.2.1,p9 (by omega) (by omega) ha.2.2 (oW h)⟩)
  |(apply Fact.mk;intro hL;try simp only[aa,maxLen]at hL)
  |((apply bX;constructor)<;>intro h<;>(try simp only[aa]at h)<;>(try first|omega|contradiction))
  |refine aR ?_|(show Index _ _ _;first|(refine Index.mk _ (bZ (i:=i) (by omega)) ?_)|fail)
  |refine nB ?_
  |refine nO ?_)
theorem eqE(x y:aA):eqv x y=((x.kind==y.kind)&&((x.num==y.num)&&eqv x.kids y.kids)):=by
 cases x;cases y;refine Bool.eq_iff_iff.2 ?_;simp[aA.kind,aA.num,aA.kids]
theorem G7(x y:aA)(hx:∀u∈x.kids,∀v,aS prog 51 [.c (.rp 3 (aD u)), .c (.rp 3 (aD v))] (B (eqv u v))):aS prog 51 [.c (.rp 3 (aY x)), .c (.rp 3 (aY y))] (B (eqv x y)):=by
 rw[eqE];refine cF func51 (h:=?_)
 repeat'((conv=>whnf);first
  |(apply bP.mk;first|((refine eM ?_;rw[mG (by omega),Bool.and_false,Bool.and_false]);done)|((refine eM ?_;rw[qp (i:=i) (by omega) (by omega) (gE h),Bool.and_false,Bool.and_false]);done)|((refine gO ?_;rw[mS ha.2.1 (by omega) ha.2.2];simp_all;done);done)|((refine eM ?_;simp_all;done);done)|skip)|(show aZ 4 _ _ _ _ _ _;refine lp (Nat) [0,1] (fun i=>[(5,I i)]) (fun i=>i≤x.kids.length/\x.kids.length=y.kids.length/\x.kids.take i=y.kids.take i) (fun i=>x.kids.length-i) 0 (by exact⟨ah _,by omega,rfl⟩) (fun i ha=>?_))
  |refine nx (i+1:Nat) (by exact⟨by show i+1≤_;omega,ha.2.1,p9 (by omega) (by omega) ha.2.2 (oW h)⟩)
  |(apply Fact.mk;intro hL;try simp only[aa,maxLen]at hL)
  |((apply bX;constructor)<;>intro h<;>(try simp only[aa]at h)<;>(try first|omega|contradiction))|(show ay _ 51 _ _ _ _;refine cP rfl (hx _ (ag (by omega)) _) ?_)
  |refine aR ?_|(show Index _ _ _;first|(refine Index.mk _ (bZ (i:=i) (by omega)) ?_)|fail)
  |refine nB ?_
  |refine nO ?_)
theorem qg(x y:aA):aS prog 51 [.c (.rp 3 (aD x)), .c (.rp 3 (aD y))] (B (eqv x y)):=by
 rw[bK,bK];exact G7 x y fun u vu v=>qg u v
 termination_by SizeOf.sizeOf x
 decreasing_by
  have:=List.sizeOf_lt_of_mem vu;cases x;simp only[aA.mk.sizeOf_spec];show SizeOf.sizeOf u<_;simp only[aA.kids]at this;omega
theorem zz(a b:List aA)(hx:∀u∈a,∀v,aS prog 152 [.a 3 (aD u), .a 3 (aD v)] (B (eqv u v))):aS prog 178 [.c (.ro 3 (a.map aD)), .c (.ro 3 (b.map aD)), .clo 152 []] (B (eqv a b)):=by
 refine cF func178 (h:=?_)
 repeat'((conv=>whnf);first
  |(apply bP.mk;first|(exact eM (mG (by omega));done)|(exact eM (qp (i:=i) (by omega) (by omega) (gE h));done)|(exact gO (mS ha.2.1 (by omega) ha.2.2);done)|skip)|(show aZ 4 _ _ _ _ _ _;refine lp (Nat) [1,2,15,16] (fun i=>[(17,I i)]) (fun i=>i≤a.length/\a.length=b.length/\a.take i=b.take i) (fun i=>a.length-i) 0 (by exact⟨ah _,by omega,rfl⟩) (fun i ha=>?_))
  |refine nx (i+1:Nat) (by exact⟨by show i+1≤_;omega,ha.2.1,p9 (by omega) (by omega) ha.2.2 (oW h)⟩)
  |(apply Fact.mk;intro hL;try simp only[aa,maxLen]at hL)
  |((apply bX;constructor)<;>intro h<;>(try simp only[aa]at h)<;>(try first|omega|contradiction))|(show ay _ 152 _ _ _ _;refine cP rfl (hx _ (ag (by omega)) _) ?_)
  |refine aR ?_|(show Index _ _ _;first|(refine Index.mk _ (bZ (i:=i) (by omega)) ?_)|fail)
  |refine nO ?_)
theorem rU(x y:aA):aS prog 152 [.a 3 (aD x), .a 3 (aD y)] (B (eqv x y)):=by
 rw[bK,bK,eqE];have h0:=zz x.kids y.kids fun u vu v=>rU u v
 refine cF func152 (h:=?_)
 repeat'((conv=>whnf);first
  |(apply bP.mk;first|((simp_all[gE,dj,dh];done);done)|skip)
  |((apply bX;constructor)<;>intro h<;>(try simp only[aa]at h)<;>(try first|omega|contradiction))|(show ay _ 178 _ _ _ _;refine cP rfl (h0) ?_))
 termination_by SizeOf.sizeOf x
 decreasing_by
  have:=List.sizeOf_lt_of_mem vu;cases x;simp only[aA.mk.sizeOf_spec];show SizeOf.sizeOf u<_;simp only[aA.kids]at this;omega
theorem D2(a b:List aA):aS prog 179 [.c (.ro 3 (a.map aD)), .c (.ro 3 (b.map aD))] (B (eqv a b)):=by
 have h0:=zz a b fun u _ v=>rU u v
 refine cF func179 (h:=?_)
 repeat'((conv=>whnf);first
  |(apply bP.mk;first|(rfl;done)|skip)|(show ay _ 178 _ _ _ _;refine cP rfl (h0) ?_))
theorem zv(a b:List aA):aS prog 129 [.c (.ro 3 (a.map aD)), .c (.ro 3 (b.map aD))] (B (eqv a b)):=by
 refine cF func129 (h:=?_)
 repeat'((conv=>whnf);first
  |(apply bP.mk;first|(exact eM (mG (by omega));done)|(exact eM (qp (i:=i) (by omega) (by omega) (gE h));done)|(exact gO (mS ha.2.1 (by omega) ha.2.2);done)|skip)|(show aZ 4 _ _ _ _ _ _;refine lp (Nat) [0,1] (fun i=>[(5,I i)]) (fun i=>i≤a.length/\a.length=b.length/\a.take i=b.take i) (fun i=>a.length-i) 0 (by exact⟨ah _,by omega,rfl⟩) (fun i ha=>?_))
  |refine nx (i+1:Nat) (by exact⟨by show i+1≤_;omega,ha.2.1,p9 (by omega) (by omega) ha.2.2 (oW h)⟩)
  |(apply Fact.mk;intro hL;try simp only[aa,maxLen]at hL)
  |((apply bX;constructor)<;>intro h<;>(try simp only[aa]at h)<;>(try first|omega|contradiction))|(show ay _ 51 _ _ _ _;refine cP rfl (qg _ _) ?_)
  |refine aR ?_|(show Index _ _ _;first|(refine Index.mk _ (bZ (i:=i) (by omega)) ?_)|fail)
  |refine nB ?_
  |refine nO ?_)
theorem XR(x y:aP):eqv x y=((x.use==y.use)&&((x.back==y.back)&&(eqv x.path y.path&&(eqv x.aK y.aK&&eqv x.dy y.dy)))):=by
 cases x;cases y;refine Bool.eq_iff_iff.2 ?_;simp
theorem Ht(x y:aP):aS prog 154 [.a 5 (cD x), .a 5 (cD y)] (B (eqv x y)):=by
 rw[XR];refine cF func154 (h:=?_)
 repeat'((conv=>whnf);first
  |(apply bP.mk;first|((simp_all[gE,dj,dh];done);done)|skip)
  |((apply bX;constructor)<;>intro h<;>(try simp only[aa]at h)<;>(try first|omega|contradiction))|(show ay _ 98 _ _ _ _;refine cP rfl (HK _ _) ?_)|(show ay _ 179 _ _ _ _;refine cP rfl (D2 _ _) ?_))
theorem zm(x y:aP):aS prog 101 [.c (.rp 5 (cD x)), .c (.rp 5 (cD y))] (B (eqv x y)):=by
 rw[XR];refine cF func101 (h:=?_)
 repeat'((conv=>whnf);first
  |(apply bP.mk;first|((simp_all[gE,dj,dh];done);done)|skip)
  |((apply bX;constructor)<;>intro h<;>(try simp only[aa]at h)<;>(try first|omega|contradiction))|(show ay _ 94 _ _ _ _;refine cP rfl (zW _ _) ?_)|(show ay _ 129 _ _ _ _;refine cP rfl (zv _ _) ?_)
  |refine nB ?_)
theorem I0(a b:List aP):aS prog 153 [.c (.ro 5 (a.map cD)), .c (.ro 5 (b.map cD)), .clo 154 []] (B (eqv a b)):=by
 refine cF func153 (h:=?_)
 repeat'((conv=>whnf);first
  |(apply bP.mk;first|(exact eM (mG (by omega));done)|(exact eM (qp (i:=i) (by omega) (by omega) (gE h));done)|(exact gO (mS ha.2.1 (by omega) ha.2.2);done)|skip)|(show aZ 4 _ _ _ _ _ _;refine lp (Nat) [1,2,15,16] (fun i=>[(17,I i)]) (fun i=>i≤a.length/\a.length=b.length/\a.take i=b.take i) (fun i=>a.length-i) 0 (by exact⟨ah _,by omega,rfl⟩) (fun i ha=>?_))
  |refine nx (i+1:Nat) (by exact⟨by show i+1≤_;omega,ha.2.1,p9 (by omega) (by omega) ha.2.2 (oW h)⟩)
  |(apply Fact.mk;intro hL;try simp only[aa,maxLen]at hL)
  |((apply bX;constructor)<;>intro h<;>(try simp only[aa]at h)<;>(try first|omega|contradiction))|(show ay _ 154 _ _ _ _;refine cP rfl (Ht _ _) ?_)
  |refine aR ?_|(show Index _ _ _;first|(refine Index.mk _ (bZ (i:=i) (by omega)) ?_)|fail)
  |refine nO ?_)
theorem yA(a b:List aP):aS prog 52 [.c (.ro 5 (a.map cD)), .c (.ro 5 (b.map cD))] (B (eqv a b)):=by
 refine cF func52 (h:=?_)
 repeat'((conv=>whnf);first
  |(apply bP.mk;first|(exact eM (mG (by omega));done)|(exact eM (qp (i:=i) (by omega) (by omega) (gE h));done)|(exact gO (mS ha.2.1 (by omega) ha.2.2);done)|skip)|(show aZ 4 _ _ _ _ _ _;refine lp (Nat) [0,1] (fun i=>[(5,I i)]) (fun i=>i≤a.length/\a.length=b.length/\a.take i=b.take i) (fun i=>a.length-i) 0 (by exact⟨ah _,by omega,rfl⟩) (fun i ha=>?_))
  |refine nx (i+1:Nat) (by exact⟨by show i+1≤_;omega,ha.2.1,p9 (by omega) (by omega) ha.2.2 (oW h)⟩)
  |(apply Fact.mk;intro hL;try simp only[aa,maxLen]at hL)
  |((apply bX;constructor)<;>intro h<;>(try simp only[aa]at h)<;>(try first|omega|contradiction))|(show ay _ 101 _ _ _ _;refine cP rfl (zm _ _) ?_)
  |refine aR ?_|(show Index _ _ _;first|(refine Index.mk _ (bZ (i:=i) (by omega)) ?_)|fail)
  |refine nB ?_
  |refine nO ?_)
theorem eqC(x y:bV):eqv x y=(eqv x.left y.left&&(eqv x.right y.right&&((x.l8==y.l8)&&((x.ref==y.ref)&&eqv x.steps y.steps)))):=by
 cases x;cases y;refine Bool.eq_iff_iff.2 ?_;simp
theorem th(x y:aA):aS prog 152 [.a 3 (aY x), .a 3 (aY y)] (B (eqv x y)):=by
 have:=rU x y;rwa[bK,bK]at this
theorem ET(x y:bV):aS prog 128 [.a 9 (aV x), .a 9 (aV y)] (B (eqv x y)):=by
 rw[eqC];refine cF func128 (h:=?_)
 repeat'((conv=>whnf);first
  |(apply bP.mk;first|((simp_all[gE,dj,dh];done);done)|skip)
  |((apply bX;constructor)<;>intro h<;>(try simp only[aa]at h)<;>(try first|omega|contradiction))|(show ay _ 153 _ _ _ _;refine cP rfl (I0 _ _) ?_)|(show ay _ 152 _ _ _ _;(first|refine ay.pure _ _ rfl (th x.left y.left) rfl _ rfl ?_|refine ay.pure _ _ rfl (th x.right y.right) rfl _ rfl ?_)))
theorem Nq(a b:List bV):aS prog 127 [.c (.ro 9 (a.map aV)), .c (.ro 9 (b.map aV)), .clo 128 []] (B (eqv a b)):=by
 refine cF func127 (h:=?_)
 repeat'((conv=>whnf);first
  |(apply bP.mk;first|(exact eM (mG (by omega));done)|(exact eM (qp (i:=i) (by omega) (by omega) (gE h));done)|(exact gO (mS ha.2.1 (by omega) ha.2.2);done)|skip)|(show aZ 4 _ _ _ _ _ _;refine lp (Nat) [1,2,15,16] (fun i=>[(17,I i)]) (fun i=>i≤a.length/\a.length=b.length/\a.take i=b.take i) (fun i=>a.length-i) 0 (by exact⟨ah _,by omega,rfl⟩) (fun i ha=>?_))
  |refine nx (i+1:Nat) (by exact⟨by show i+1≤_;omega,ha.2.1,p9 (by omega) (by omega) ha.2.2 (oW h)⟩)
  |(apply Fact.mk;intro hL;try simp only[aa,maxLen]at hL)
  |((apply bX;constructor)<;>intro h<;>(try simp only[aa]at h)<;>(try first|omega|contradiction))|(show ay _ 128 _ _ _ _;refine cP rfl (ET _ _) ?_)
  |refine aR ?_|(show Index _ _ _;first|(refine Index.mk _ (bZ (i:=i) (by omega)) ?_)|fail)
  |refine nO ?_)
theorem eqP(x y:cY):eqv x y=((x.sig.aK==y.sig.aK&&x.sig.aF==y.sig.aF)&&eqv x.aG y.aG):=by
 obtain⟨⟨a,b⟩,c⟩:=x;obtain⟨⟨a',b'⟩,c'⟩:=y;refine Bool.eq_iff_iff.2 ?_;simp
theorem DP(x y:cY):aS prog 99 [.a 3 (dk x), .a 3 (dk y)] (B (eqv x y)):=by
 rw[eqP];refine cF func99 (h:=?_)
 repeat'((conv=>whnf);first
  |(apply bP.mk;first|((simp_all[gE,dj,dh];done);done)|skip)
  |((apply bX;constructor)<;>intro h<;>(try simp only[aa]at h)<;>(try first|omega|contradiction))|(show ay _ 127 _ _ _ _;refine cP rfl (Nq _ _) ?_))
theorem YU(x y:dS):eqv x y=((x.id==y.id)&&(eqv x.bI y.bI&&eqv x.proof y.proof)):=by
 cases x;cases y;refine Bool.eq_iff_iff.2 ?_;simp
theorem Ds(x y:dS):aS prog 49 [.a 5 (kC x), .a 5 (kC y)] (B (eqv x y)):=by
 rw[YU];refine cF func49 (h:=?_)
 repeat'((conv=>whnf);first
  |(apply bP.mk;first|((simp_all[gE,dj,dh];done);done)|skip)
  |((apply bX;constructor)<;>intro h<;>(try simp only[aa]at h)<;>(try first|omega|contradiction))|(show ay _ 98 _ _ _ _;refine cP rfl (HK _ _) ?_)|(show ay _ 99 _ _ _ _;refine cP rfl (DP x.proof y.proof) ?_))
theorem oD(x y:aA)(r s:List CV)(n:Nat)(hn:3≤n):aS prog 51 [.c (.rp n (aY x++r)), .c (.rp n (aY y++s))] (B (eqv x y)):=by
 have:=qg x y;rw[bK,bK]at this;have h1:aS prog 51 [.c (.rp 3 (aY x)), .c (.rp n (aY y++s))] (B (eqv x y)):=this.cut (.same (.cut (cs:=aY y++s) (k:=3) hn .nil));exact h1.cut (.cut (cs:=aY x++r) (k:=3) hn (.same .nil))
theorem wy(x y:cY):aS prog 16 [.a 3 (dk x), .a 3 (dk y)] (B (eqv x y)):=by
 rw[eqP];refine cF func16 (h:=?_)
 repeat'((conv=>whnf);first
  |(apply bP.mk;first|((refine eM ?_;rw[mG (by omega),Bool.and_false]);done)|((refine gO ?_;rw[mS ha.2.1 (by omega) ha.2.2];simp_all;done);done)|((refine eM ?_;simp_all;done);done)|((have hi:i<x.aG.length:=(by omega);have hj:i<y.aG.length:=(by omega);refine eM ?_;rw[qp hi hj,Bool.and_false];rw[eqC];simp_all[getD_eq hi,getD_eq hj,gE]);done)|skip)|(show aZ 4 _ _ _ _ _ _;refine lp (Nat) [2,3] (fun i=>[(5,I i)]) (fun i=>i≤x.aG.length/\x.aG.length=y.aG.length/\x.aG.take i=y.aG.take i) (fun i=>x.aG.length-i) 0 (by exact⟨ah _,by omega,rfl⟩) (fun i ha=>?_))
  |refine nx (i+1:Nat) (by(have hi:i<x.aG.length:=(by omega);have hj:i<y.aG.length:=(by omega);refine⟨hi,ha.2.1,p9 hi hj ha.2.2 ?_⟩;rw[eqC];simp_all[getD_eq hi,getD_eq hj]))
  |(apply Fact.mk;intro hL;try simp only[aa,maxLen]at hL)
  |((apply bX;constructor)<;>intro h<;>(try simp only[aa]at h)<;>(try first|omega|contradiction))|(show ay _ 52 _ _ _ _;refine cP rfl (yA _ _) ?_)|(show ay _ 51 _ _ _ _;(first|refine ay.pure _ _ rfl (oD (x.aG.getD i c0).left (y.aG.getD i c0).left _ _ 9 (by omega)) rfl _ rfl ?_|refine ay.pure _ _ rfl (oD (x.aG.getD i c0).right (y.aG.getD i c0).right _ _ 6 (by omega)) rfl _ rfl ?_))
  |refine aR ?_|(show Index _ _ _;first|(refine Index.mk _ (aN (d:=c0) (i:=i) (by omega)) ?_)|fail)
  |refine nB ?_
  |refine nO ?_)
theorem aaf(x y:aT):eqv x y=((x.bT==y.bT)&&((x.id==y.id)&&eqv x.entry y.entry)):=by
 cases x;cases y;refine Bool.eq_iff_iff.2 ?_;simp
theorem Kc(x y:aT):aS prog 43 [.c (.rp 7 (bG x)), .c (.rp 7 (bG y))] (B (eqv x y)):=by
 rw[aaf,YU];refine cF func43 (h:=?_)
 repeat'((conv=>whnf);first
  |(apply bP.mk;first|((simp_all[gE,dj,dh];done);done)|skip)
  |((apply bX;constructor)<;>intro h<;>(try simp only[aa]at h)<;>(try first|omega|contradiction))|(show ay _ 94 _ _ _ _;refine cP rfl (zW _ _) ?_)|(show ay _ 16 _ _ _ _;refine cP rfl (wy x.entry.proof y.entry.proof) ?_)
  |refine nB ?_)
def fC(a:aB):List aT:=a.az.flatMap bj.notes++a.aL.map c8.note
theorem sQ{α β:Type}{f:α->List β}{l:List α}{i:Nat}(h:i<l.length):(l.take (i+1)).flatMap f=(l.take i).flatMap f++f l[i]:=by
 rw[List.take_add_one,List.getElem?_eq_getElem h,List.flatMap_append];simp
theorem jL{α β:Type}{f:α->β}{l:List α}{i:Nat}(h:i<l.length):(l.take (i+1)).map f=(l.take i).map f++[f l[i]]:=by
 rw[List.take_add_one,List.getElem?_eq_getElem h,au];rfl
theorem y4{α:Type}{f:α->List aT}{g:α->Nat}(hg:∀x,(f x).length≤g x):∀(l:List α),(l.flatMap f).length≤dA g l
 |[]=>aw _
 |x::xs=>by
  have h1:=y4 hg xs;have h2:=hg x;simp only[List.flatMap_cons,ai,dA];omega
theorem Ie(a:aB)(hl:bS a≤1048576):aE prog 48 [.a 4 (aW a)] [] (.c (.ows 51 7 ((fC a).map bG))):=by
 have hb:∀i,((a.az.take i).flatMap bj.notes).length≤1048576:=fun i=>by
  have h1:=y4 (f:=bj.notes) (g:=db) (fun s=>eP bU s.notes) (a.az.take i);have h2:=sR (f:=db) a.az i;simp only[bS,fU]at hl;omega
 have hf:a.aL.length≤1048576:=by simp only[bS,fU]at hl;omega
 have hn:∀i,i<a.az.length->(a.az.getD i ⟨false,[],0⟩).notes.length≤1048576:=fun i h=>by
  rw[getD_eq h];have h1:=di db (ag h);have h2:=eP bU (a.az[i]).notes;simp only[bS,db]at hl h1;omega
 refine cX func48 (h:=?_)
 repeat'((conv=>whnf);first
  |refine aI.mk ?_ ?_|(show aZ 3 _ _ _ _ _ _;refine qJ (Nat × List aT) [1,10,11] (fun⟨i,R⟩=>[(3, .lw 2),(12,I i)]) (fun⟨i,R⟩=>[(2, .row none 51 7 (R.map bG))]) (fun⟨i,R⟩=>i≤a.az.length/\R=(a.az.take i).flatMap bj.notes) (fun⟨i,R⟩=>a.az.length-i) (0,[]) (by exact⟨ah _,rfl⟩) (fun A ha=>?_);obtain⟨i,R⟩:=A;have ha:i≤a.az.length/\R=(a.az.take i).flatMap bj.notes:=ha)|(show aZ 8 _ _ _ _ _ _;refine qJ (Nat × List aT) [22,23] (fun⟨k,S⟩=>[(3, .lw 2),(24,I k)]) (fun⟨k,S⟩=>[(2, .row none 51 7 (S.map bG))]) (fun⟨k,S⟩=>k≤a.aL.length/\S=R++(a.aL.take k).map c8.note) (fun⟨k,S⟩=>a.aL.length-k) (0,R) (by exact⟨ah _,by simp⟩) (fun A ha=>?_);obtain⟨k,S⟩:=A;have ha:k≤a.aL.length/\S=R++(a.aL.take k).map c8.note:=ha)
  |refine nx ((i+1,R++(a.az.getD i ⟨false,[],0⟩).notes):Nat × List aT) (by(have hi:i<a.az.length:=(by omega);refine⟨hi,?_⟩;show R++_=_;rw[sQ hi,ha.2,getD_eq hi]))
  |refine nx ((k+1,S++[a.aL[k].note]):Nat × List aT) (by(have hk:k<a.aL.length:=(by omega);refine⟨hk,?_⟩;show S++_=_;rw[jL hk,ha.2,List.append_assoc]))
  |(apply Fact.mk;intro hL;try simp only[aa,maxLen]at hL)
  |((apply bX;constructor)<;>intro h<;>(try simp only[aa]at h)<;>(try first|omega|contradiction))
  |refine aR ?_|(show Index _ _ _;first|(refine Index.mk _ (aN (d:=⟨false,[],0⟩) (i:=i) (by omega)) ?_)|(refine Index.mk _ (bZ (i:=k) (by omega)) ?_)|fail)|(show bh _ _;refine bh.mk (by first|((have h2:=ha.2;have h1:=hb i;simp only[aa,maxLen];first|(have h3:=hn i (by omega);rw[<-h2]at h1;constructor<;>omega)|(have h8:=(‹_/\R=_›:i≤_/\R=_).2;rw[<-h8]at h1;have h4:=congrArg List.length h2;simp only[ai,aa,aq]at h4;simp only[List.length_cons,List.length_nil];constructor<;>omega)))|fail) ?_)
  |refine nO ?_)
 all_goals(try trivial)
 all_goals(have h8:=(‹_/\R=_›:i≤_/\R=_).2;have h9:=ha.2;rw[ar (show a.az.length≤i by omega)]at h8;rw[ar (show a.aL.length≤k by omega)]at h9;rw[h9,h8];rfl)
end Go.Proofs.YtgbggaddpbghfaaGreat
