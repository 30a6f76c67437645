/- Contracts of the copies of claims, proofs, notes and archives: they own their memory. No conditions but the number of the parts. -/
import Derived.Test.YtgbggaddpbghfaaGreatKAD
namespace Go.Proofs.YtgbggaddpbghfaaGreat
open Go Go.KA Go.Proofs Go.Proofs.Tryz
set_option maxHeartbeats 16000000
set_option maxRecDepth 100000
theorem RA{α:Type}{f:α->List CV}{d:α}{l:List α}{i:Nat}{rows:List (List CV)}(hi:i<l.length)(h:rows=(l.take i).map f):rows++[f (l.getD i d)]=(l.take (i+1)).map f:=by
 rw[jL hi,h,getD_eq hi]
theorem jJ{α:Type}{f:α->List CV}{l:List α}{i:Nat}{rows:List (List CV)}(hi:i≤l.length)(h:rows=(l.take i).map f):rows.length=i:=by
 rw[h,aa,aq];omega
theorem jh{α:Type}{f:α->List CV}{l:List α}{i:Nat}{rows:List (List CV)}(hi:¬i<l.length)(h:rows=(l.take i).map f):rows=l.map f:=by
 rw[h,ar (by omega)]
abbrev Us:aP:=⟨0,false,[],[],[]⟩
theorem Ez(c:bV)(hb:cB c≤1048576):aE prog 143 [.a 9 (aV c)] [] (.a 9 (fH c)):=by
 have h0:aH c.left≤1048576/\aH c.right≤1048576/\fU cq c.steps≤1048576:=by simp only[cB]at hb;omega
 have hn:=eP cq c.steps;have hc:∀i,i<c.steps.length->aE prog 173 [.a 5 (cD (c.steps.getD i Us))] [] (.a 5 (bx (c.steps.getD i Us))):=fun i hi=>G4 _ (by rw[getD_eq hi];have:=di cq (ag hi);omega)
 refine cX func143 (h:=?_)
 repeat'((conv=>whnf);first
  |refine aI.mk ?_ ?_|(show aZ 3 _ _ _ _ _ _;refine qJ (Nat × List (List CV)) [2,3,18,19] (fun⟨i,rows⟩=>[(20,I (i:Nat))]) (fun⟨i,rows⟩=>[(13, .cells [.c (J c.left.kind), .c (J c.left.num), .lw 5, .c (J c.right.kind), .c (J c.right.num), .lw 6, .c (J c.l8), .c (J c.ref), .lw 9]),(9, .aU none 156 5 rows)]) (fun⟨i,rows⟩=>i≤c.steps.length/\rows=(c.steps.take i).map bx) (fun⟨i,rows⟩=>c.steps.length-i) (0,[]) (by exact⟨ah _,rfl⟩) (fun A ha=>?_);obtain⟨i,rows⟩:=A;have ha:i≤c.steps.length/\rows=(c.steps.take i).map bx:=ha;have sU:rows.length=i:=jJ ha.1 ha.2)
  |refine nx ((i+1,rows++[bx (c.steps.getD i Us)]):Nat × List (List CV)) (by exact⟨by show i+1≤_;omega,RA (by omega) ha.2⟩)
  |(apply Fact.mk;intro hL;try simp only[aa,maxLen]at hL)
  |((apply bX;constructor)<;>intro h<;>(try simp only[aa]at h)<;>(try first|omega|contradiction))|(show ay _ 65 _ _ _ _;refine cG [] rfl (lW c.left h0.1) ?_)|(show ay _ 65 _ _ _ _;refine cG [] rfl (lW c.right h0.2.1) ?_)|(show ay _ 173 _ _ _ _;refine cG [] rfl (hc i (by omega)) ?_)
  |refine aR ?_|(show Index _ _ _;first|(refine Index.mk _ (aN (d:=Us) (i:=i) (by omega)) ?_)|fail)
  |refine nB ?_|(show bh _ _;refine bh.mk (by first|((simp only[List.length_cons,List.length_nil,maxLen];constructor<;>omega))|fail) ?_)
  |refine nO ?_)
 all_goals first|rfl|trivial|(rw[jh (by omega) ha.2];first|done|rfl)
theorem Dw(p:cY)(hb:cL p≤1048576):aE prog 113 [.a 3 (dk p)] [] (.a 3 (q8 p)):=by
 have h0:fU cB p.aG≤1048576:=by simp only[cL]at hb;omega
 have hn:=eP cB p.aG;have hc:∀i,i<p.aG.length->aE prog 143 [.a 9 (aV (p.aG.getD i c0))] [] (.a 9 (fH (p.aG.getD i c0))):=fun i hi=>Ez _ (by rw[getD_eq hi];have:=di cB (ag hi);omega)
 refine cX func113 (h:=?_)
 repeat'((conv=>whnf);first
  |refine aI.mk ?_ ?_|(show aZ 3 _ _ _ _ _ _;refine qJ (Nat × List (List CV)) [2,3,10,11] (fun⟨i,rows⟩=>[(12,I (i:Nat))]) (fun⟨i,rows⟩=>[(5, .cells [.c (J p.sig.aK), .c (J p.sig.aF), .lw 3]),(3, .aU none 104 9 rows)]) (fun⟨i,rows⟩=>i≤p.aG.length/\rows=(p.aG.take i).map fH) (fun⟨i,rows⟩=>p.aG.length-i) (0,[]) (by exact⟨ah _,rfl⟩) (fun A ha=>?_);obtain⟨i,rows⟩:=A;have ha:i≤p.aG.length/\rows=(p.aG.take i).map fH:=ha;have sU:rows.length=i:=jJ ha.1 ha.2)
  |refine nx ((i+1,rows++[fH (p.aG.getD i c0)]):Nat × List (List CV)) (by exact⟨by show i+1≤_;omega,RA (by omega) ha.2⟩)
  |(apply Fact.mk;intro hL;try simp only[aa,maxLen]at hL)
  |((apply bX;constructor)<;>intro h<;>(try simp only[aa]at h)<;>(try first|omega|contradiction))|(show ay _ 143 _ _ _ _;refine cG [] rfl (hc i (by omega)) ?_)
  |refine aR ?_|(show Index _ _ _;first|(refine Index.mk _ (aN (d:=c0) (i:=i) (by omega)) ?_)|fail)
  |refine nB ?_|(show bh _ _;refine bh.mk (by first|((simp only[List.length_cons,List.length_nil,maxLen];constructor<;>omega))|fail) ?_)
  |refine nO ?_)
 all_goals first|rfl|trivial|(rw[jh (by omega) ha.2];first|done|rfl)
theorem BN(p:cY)(hb:cL p≤1048576):aE prog 134 [.c (.rp 3 (dk p))] [] (.a 3 (q8 p)):=by
 have h0:fU cB p.aG≤1048576:=by simp only[cL]at hb;omega
 have hn:=eP cB p.aG;have K7:∀i,i<p.aG.length->aH (p.aG.getD i c0).left≤1048576/\aH (p.aG.getD i c0).right≤1048576/\fU cq (p.aG.getD i c0).steps≤1048576:=fun i hi=>by
  rw[getD_eq hi];have:=di cB (ag hi);simp only[cB]at this;omega
 have uo:∀i,i<p.aG.length-> ∀k,k<(p.aG.getD i c0).steps.length->aE prog 166 [.c (.rp 5 (cD ((p.aG.getD i c0).steps.getD k Us)))] [] (.a 5 (bx ((p.aG.getD i c0).steps.getD k Us))):=fun i hi k hk=>By _ (by
  rw[getD_eq hk];have:=di cq (ag hk);have:=K7 i hi;omega)
 refine cX func134 (h:=?_)
 repeat'((conv=>whnf);first
  |refine aI.mk ?_ ?_|(show aZ 3 _ _ _ _ _ _;refine qJ (Nat × List (List CV)) [0,2,3] (fun⟨i,rows⟩=>[(4,I (i:Nat))]) (fun⟨i,rows⟩=>[(4, .cells [.c (J p.sig.aK), .c (J p.sig.aF), .lw 2]),(2, .aU none 104 9 rows)]) (fun⟨i,rows⟩=>i≤p.aG.length/\rows=(p.aG.take i).map fH) (fun⟨i,rows⟩=>p.aG.length-i) (0,[]) (by exact⟨ah _,rfl⟩) (fun A ha=>?_);obtain⟨i,rows⟩:=A;have ha:i≤p.aG.length/\rows=(p.aG.take i).map fH:=ha;have sU:rows.length=i:=jJ ha.1 ha.2;have hA:=ha;have WW:=K7 i)|(show aZ 8 _ _ _ _ _ _;refine qJ (Nat × List (List CV)) [0,2,3,4,5,6] (fun⟨k,R⟩=>[(7,I (k:Nat))]) (fun⟨k,R⟩=>[(13, .cells [.c (J (p.aG.getD i c0).left.kind), .c (J (p.aG.getD i c0).left.num), .lw 5, .c (J (p.aG.getD i c0).right.kind), .c (J (p.aG.getD i c0).right.num), .lw 6, .c (J (p.aG.getD i c0).l8), .c (J (p.aG.getD i c0).ref), .lw 9]),(9, .aU none 156 5 R)]) (fun⟨k,R⟩=>k≤(p.aG.getD i c0).steps.length/\R=((p.aG.getD i c0).steps.take k).map bx) (fun⟨k,R⟩=>(p.aG.getD i c0).steps.length-k) (0,[]) (by exact⟨ah _,rfl⟩) (fun A ha=>?_);obtain⟨k,R⟩:=A;have ha:k≤(p.aG.getD i c0).steps.length/\R=((p.aG.getD i c0).steps.take k).map bx:=ha;have YN:R.length=k:=jJ ha.1 ha.2;have hcj:=WW (by omega);have TL:=eP cq (p.aG.getD i c0).steps)
  |refine nx ((k+1,R++[bx ((p.aG.getD i c0).steps.getD k Us)]):Nat × List (List CV)) (by exact⟨by show k+1≤_;omega,RA (by omega) ha.2⟩)
  |(apply Fact.mk;intro hL;try simp only[aa,maxLen]at hL)
  |((apply bX;constructor)<;>intro h<;>(try simp only[aa]at h)<;>(try first|omega|contradiction))|(show ay _ 137 _ _ _ _;refine cG [] rfl (rJ (p.aG.getD i c0).left (WW (by omega)).1 ((aV (p.aG.getD i c0)).drop 3) 9 (by omega)) ?_)|(show ay _ 137 _ _ _ _;refine cG [] rfl (rJ (p.aG.getD i c0).right (WW (by omega)).2.1 ((aV (p.aG.getD i c0)).drop 6) 6 (by omega)) ?_)|(show ay _ 166 _ _ _ _;refine cG [] rfl (uo i (by omega) k (by omega)) ?_)|(show Gh _ _ _ _ _;obtain rfl:R=(p.aG.getD i c0).steps.map bx:=jh (by omega) ha.2;refine Gh.go ⟨((i+1,rows++[fH (p.aG.getD i c0)]):Nat × List (List CV)),⟨by show i+1≤_;omega,RA (by omega) hA.2⟩,(by show p.aG.length-(i+1)<p.aG.length-i;omega),(by repeat' first|exact trivial|exact rfl|constructor),(by repeat' first|exact trivial|exact rfl|constructor),(by(repeat' first|exact trivial|exact rfl|refine⟨?_,?_⟩|(simp only[au,List.map_cons,List.map_nil,List.map_set];first|done|rfl));done)⟩)
  |refine aR ?_|(show Index _ _ _;first|(refine Index.mk _ (aN (d:=c0) (i:=i) (by omega)) ?_)|(refine Index.mk _ (aN (d:=Us) (i:=k) (by omega)) ?_)|fail)
  |refine nB ?_|(show bh _ _;refine bh.mk (by first|((simp only[List.length_cons,List.length_nil,maxLen];constructor<;>omega))|fail) ?_)
  |refine nO ?_)
 all_goals first|rfl|trivial|(rw[jh (by omega) ha.2];first|done|rfl)
theorem rN(n:aT)(hb:bU n≤1048576):aE prog 78 [.a 7 (bG n)] [] (.a 7 (ey n)):=by
 have h0:n.entry.bI.length≤1048576/\cL n.entry.proof≤1048576:=by simp only[bU,nE]at hb;omega
 refine cX func78 (h:=?_)
 repeat'((conv=>whnf);first
  |refine aI.mk ?_ ?_|(show ay _ 112 _ _ _ _;refine cG [] rfl (FW n.entry.bI h0.1) ?_)|(show ay _ 113 _ _ _ _;refine cG [] rfl (Dw n.entry.proof h0.2) ?_)
  |refine nB ?_)
 all_goals first|rfl|trivial
theorem l3(n:aT)(hb:bU n≤1048576):aE prog 108 [.c (.rp 7 (bG n))] [] (.a 7 (ey n)):=by
 have h0:n.entry.bI.length≤1048576/\cL n.entry.proof≤1048576:=by simp only[bU,nE]at hb;omega
 refine cX func108 (h:=?_)
 repeat'((conv=>whnf);first
  |refine aI.mk ?_ ?_|(show ay _ 133 _ _ _ _;refine cG [] rfl (km n.entry.bI h0.1) ?_)|(show ay _ 134 _ _ _ _;refine cG [] rfl (BN n.entry.proof h0.2) ?_)
  |refine nB ?_)
 all_goals first|rfl|trivial
abbrev cy(s:bj):List CV:=[.val (.bool s.up), .ows 51 7 (s.notes.map bG), .val (.int .i64 s.saved)]
abbrev cQ(a:aB):List CV:=[J a.sig.aK,J a.sig.aF, .own 47 3 (a.az.map cy), .ows 89 8 (a.aL.map bN)]
theorem Gn(l:List aT):dD (l.map bG)=l.map bG:=cM (fun _=>rfl) l
theorem IP(l:List bj):dD (l.map cy)=l.map cZ:=cM (fun s=>by simp only[pf,mV];rfl) l
theorem OX(l:List c8):dD (l.map bN)=l.map bN:=cM (fun _=>rfl) l
theorem Jz(n:aT):dB (ey n) (bG n):=by
 rw[<-AT];exact dB.pf _
theorem ML(s:bj):dB (fY s) (cy s):=by
 refine .same ?_;have h:dB [.own 51 7 (s.notes.map ey),J s.saved] [.ows 51 7 (dD (s.notes.map ey)),J s.saved]:= .ows (.same .nil);rw[cM AT]at h;exact h
theorem AU(a:aB):dB (gu a) (cQ a):=by
 refine .same (.same (.rows ML ?_));have h:dB [.own 89 8 (a.aL.map eG)] [.ows 89 8 (dD (a.aL.map eG))]:= .ows .nil;rw[cM ve]at h;exact h
def oX(l:List Bool):Bool:=decide (2<(l.countP (fun b=>b):Nat))
theorem GM{α:Type}{p:α->Bool}{l:List α}{i:Nat}(h:i<l.length):(l.take (i+1)).countP p=(l.take i).countP p+(if p l[i]=true then 1 else 0):=by
 rw[List.take_succ_eq_append_getElem h,List.countP_append];simp[List.countP_cons]
theorem yK{α:Type}{p:α->Bool}{l:List α}{i:Nat}{c:Int}(h:i<l.length)(hp:p l[i]=true)(hc:c=((l.take i).countP p:Nat)):c+1=((l.take (i+1)).countP p:Nat):=by
 rw[GM h,if_pos hp];omega
theorem Dv{α:Type}{p:α->Bool}{l:List α}{i:Nat}{c:Int}(h:i<l.length)(hp:p l[i]=false)(hc:c=((l.take i).countP p:Nat)):c=((l.take (i+1)).countP p:Nat):=by
 rw[GM h,if_neg (by rw[hp];decide)];omega
theorem EG{α:Type}{p:α->Bool}{l:List α}{i:Nat}:(l.take i).countP p≤i:=Nat.le_trans List.countP_le_length (by rw[aq];omega)
theorem J0(l:List Bool)(hl:l.length≤1048576):aS prog 114 [.c (.ro 1 (l.map eB))] (B (oX l)):=by
 refine cF func114 (h:=?_)
 repeat'((conv=>whnf);first
  |(apply bP.mk;first|((have h9:=ha.2;rw[ar (by omega)]at h9;unfold oX;rw[h9];exact congrArg B (decide_eq_decide.2 (by omega)));done)|skip)|(show aZ 3 _ _ _ _ _ _;refine lp (Nat × Int) [6,7] (fun⟨i,c⟩=>[(3,I c),(8,I (i:Nat))]) (fun⟨i,c⟩=>i≤l.length/\c=((l.take i).countP (fun b=>b):Nat)) (fun⟨i,c⟩=>l.length-i) (0,0) (by exact⟨ah _,by simp⟩) (fun A ha=>?_);obtain⟨i,c⟩:=A;have ha:i≤l.length/\c=((l.take i).countP (fun b=>b):Nat):=ha;have WD:=ha.2;have VY:=EG (p:=fun b:Bool=>b) (l:=l) (i:=i))
  |refine nx ((i+1,c+1):Nat × Int) (by exact⟨by show i+1≤_;omega,yK (by omega) h ha.2⟩)
  |refine nx ((i+1,c):Nat × Int) (by exact⟨by show i+1≤_;omega,Dv (by omega) h ha.2⟩)
  |(apply Fact.mk;intro hL;try simp only[aa,maxLen]at hL)
  |((apply bX;constructor)<;>intro h<;>(try simp only[aa]at h)<;>(try first|omega|contradiction))
  |refine aR ?_|(show Index _ _ _;first|(refine Index.mk _ (bZ (i:=i) (by omega)) ?_)|fail)
  |refine nO ?_)
theorem Gg(l:List Bool)(hl:l.length≤1048576):aS prog 146 [.c (.ro 1 (l.map eB))] (B (oX l)):=by
 refine cF func146 (h:=?_)
 repeat'((conv=>whnf);first
  |(apply bP.mk;first|((have h9:=ha.2;rw[ar (by omega)]at h9;unfold oX;rw[h9];exact congrArg B (decide_eq_decide.2 (by omega)));done)|skip)|(show aZ 3 _ _ _ _ _ _;refine lp (Int × Nat) [0] (fun⟨c,i⟩=>[(3,I c),(4,I (i:Nat))]) (fun⟨c,i⟩=>i≤l.length/\c=((l.take i).countP (fun b=>b):Nat)) (fun⟨c,i⟩=>l.length-i) (0,0) (by exact⟨ah _,by simp⟩) (fun A ha=>?_);obtain⟨c,i⟩:=A;have ha:i≤l.length/\c=((l.take i).countP (fun b=>b):Nat):=ha;have WD:=ha.2;have VY:=EG (p:=fun b:Bool=>b) (l:=l) (i:=i))
  |refine nx ((c+1,i+1):Int × Nat) (by exact⟨by show i+1≤_;omega,yK (by omega) h ha.2⟩)
  |refine nx ((c,i+1):Int × Nat) (by exact⟨by show i+1≤_;omega,Dv (by omega) h ha.2⟩)
  |(apply Fact.mk;intro hL;try simp only[aa,maxLen]at hL)
  |((apply bX;constructor)<;>intro h<;>(try simp only[aa]at h)<;>(try first|omega|contradiction))
  |refine aR ?_|(show Index _ _ _;first|(refine Index.mk _ (bZ (i:=i) (by omega)) ?_)|fail)
  |refine nO ?_)
abbrev sA(a:aB)(i:Int):bj:=a.az.getD i.toNat ck
abbrev jE(a:aB)(i:Int)(s:bj):aB:=⟨a.sig,a.az.set i.toNat s,a.aL⟩
abbrev mf(s:bj)(n:aT):bj:=⟨s.up,s.notes++[n],s.saved⟩
def uc(n i:Int)(x:aT):Bool:= !x.bT&&decide (x.id.tmod n=i)
def kY(a:aB)(i:Int):Int:=i+(a.az.length:Int)*((sA a i).notes.countP (uc a.az.length i):Nat)
def oY(a:aB)(id:Int):Bool:=decide (0≤bf (fC a) false id)
def zi(a:aB)(e:bH):aT:=⟨false,kY a e.a,⟨kY a e.a,e.bI,e.proof⟩⟩
def fq(a:aB)(e:bH):Int × aB:=
 if(!(sA a e.a).up|| !(iO (sA a e.a).notes e.bI))=true then(4,a)
 else if oX e.nH=false then(8,a)
 else if(decide ((sA a e.a).notes.length=20)||(decide (100≤kY a e.a)||oY a (kY a e.a)))=true then(3,a)
 else(0,jE a e.a (mf (sA a e.a) (zi a e)))
def Bf(e:bH):aT:=⟨true,e.b,⟨0,[],⟨⟨0,0⟩,[]⟩⟩⟩
def cT(a:aB)(e:bH):Int × aB:=
 if 100≤e.b then(2,a)
 else if(!(sA a e.a).up||decide (0≤bf (sA a e.a).notes true e.b))=true then(4,a)
 else if(sA a e.a).notes.length=20 then(3,a)
 else(0,jE a e.a (mf (sA a e.a) (Bf e)))
def dR(a:aB)(e:bH):Int × aB:=
 if(!(bW a e.b)||(decide (e.a=e.b)||decide (((sA a e.a).notes.length:Int)≤e.c)))=true then(2,a)
 else if(!(sA a e.a).up||decide ((sA a e.a).saved≤e.c))=true then(4,a)
 else if a.aL.length=12 then(3,a)
 else(0,⟨a.sig,a.az,a.aL++[⟨e.b,(sA a e.a).notes.getD e.c.toNat n0⟩]⟩)
abbrev iJ(a:aB)(i:Int):c8:=a.aL.getD i.toNat lF
def nA(a:aB)(p:c8):Bool:=(sA a p.mc).up&&(decide (bf (sA a p.mc).notes p.note.bT p.note.id<0)&&iO (sA a p.mc).notes p.note.entry.bI)
def dg(a:aB)(i:Int):Int × aB:=
 if(a.aL.length:Int)≤i then(2,a)
 else if nA a (iJ a i)=false then(0,a)
 else if(sA a (iJ a i).mc).notes.length=20 then(3,a)
 else(0,jE a (iJ a i).mc (mf (sA a (iJ a i).mc) (iJ a i).note))
def fv(a:aB)(i:Int):Int × aB:=
 if(a.aL.length:Int)≤i then(2,a)else(0,⟨a.sig,a.az,a.aL.take i.toNat++a.aL.drop (i.toNat+1)⟩)
def fV(a:aB)(i:Int):Int × aB:=
 if(dg a i).1=0 then fv (dg a i).2 i else((dg a i).1,a)
def jf(a:aB)(e:bH):Int × aB:=
 if(sA a e.a).up=(decide (e.kind=9))then(4,a)
 else if e.kind=7 then(0,jE a e.a ⟨(sA a e.a).up,(sA a e.a).notes,((sA a e.a).notes.length:Nat)⟩)
 else if e.kind=8 then(0,jE a e.a ⟨false,(sA a e.a).notes.take (sA a e.a).saved.toNat,(sA a e.a).saved⟩)
 else(0,jE a e.a ⟨true,(sA a e.a).notes,(sA a e.a).saved⟩)
def lj(a:aB)(e:bH):Int × aB:=
 if e.kind=4 then fV a e.a
 else if e.kind=5 then dg a e.a
 else if e.kind=6 then fv a e.a
 else if bW a e.a=false then(2,a)
 else if e.kind=1 then fq a e
 else if e.kind=2 then cT a e
 else if e.kind=3 then dR a e
 else jf a e
structure CA(a:aB):Prop where
 ns:a.az.length≤1048576
 nf:a.aL.length≤1048576
 nn:∀i,i<a.az.length->(a.az.getD i ck).notes.length≤1048576
 bn:∀i,i<a.az.length-> ∀k,k<(a.az.getD i ck).notes.length->bU ((a.az.getD i ck).notes.getD k n0)≤1048576
 bp:∀i,i<a.aL.length->bU (a.aL.getD i lF).note≤1048576
theorem CA.of{a:aB}(h:bS a≤1048576):CA a:=by
 have hb:fU db a.az≤1048576/\fU gG a.aL≤1048576:=by simp only[bS]at h;omega
 have h1:=eP db a.az;have h2:=eP gG a.aL;have hs:∀i,i<a.az.length->fU bU (a.az.getD i ck).notes≤1048576:=fun i hi=>by
  rw[getD_eq hi];have:=di db (ag hi);simp only[db]at this;omega
 refine⟨by omega,by omega,fun i hi=>?_,fun i hi k hk=>?_,fun i hi=>?_⟩
 ·have:=eP bU (a.az.getD i ck).notes;have:=hs i hi;omega
 ·rw[getD_eq hk];have:=di bU (ag hk);have:=hs i hi;omega
 ·rw[getD_eq hi];have:=di gG (ag hi);simp only[gG]at this;omega
theorem qS(a:aB)(h:CA a):aE prog 37 [.a 4 (aW a)] [] (.a 4 (gu a)):=by
 obtain⟨hs,hf,Ps,Mb,hbp⟩:=h;refine cX func37 (h:=?_)
 repeat'((conv=>whnf);first
  |refine aI.mk ?_ ?_|(show aZ 3 _ _ _ _ _ _;refine qJ (Nat × List (List CV)) [1,2,3,15,16] (fun⟨i,rows⟩=>[(17,I (i:Nat))]) (fun⟨i,rows⟩=>[(8, .cells [.c (J a.sig.aK), .c (J a.sig.aF), .lw 4, .lw 5]),(4, .aU none 47 3 rows)]) (fun⟨i,rows⟩=>i≤a.az.length/\rows=(a.az.take i).map fY) (fun⟨i,rows⟩=>a.az.length-i) (0,[]) (by exact⟨ah _,rfl⟩) (fun A ha=>?_);obtain⟨i,rows⟩:=A;have ha:i≤a.az.length/\rows=(a.az.take i).map fY:=ha;have sU:rows.length=i:=jJ ha.1 ha.2;have hA:=ha;have hni:=Ps i)|(show aZ 7 _ _ _ _ _ _;refine qJ (Nat × List (List CV)) [1,2,3,6,15,16,17,27,28] (fun⟨k,R⟩=>[(29,I (k:Nat))]) (fun⟨k,R⟩=>[(13, .cells [.c (.val (.bool (a.az.getD i ck).up)), .lw 11, .c (J (a.az.getD i ck).saved)]),(11, .aU none 51 7 R)]) (fun⟨k,R⟩=>k≤(a.az.getD i ck).notes.length/\R=((a.az.getD i ck).notes.take k).map ey) (fun⟨k,R⟩=>(a.az.getD i ck).notes.length-k) (0,[]) (by exact⟨ah _,rfl⟩) (fun A ha=>?_);obtain⟨k,R⟩:=A;have ha:k≤(a.az.getD i ck).notes.length/\R=((a.az.getD i ck).notes.take k).map ey:=ha;have YN:R.length=k:=jJ ha.1 ha.2;have Xa:=hni (by omega))|(show aZ 14 _ _ _ _ _ _;refine qJ (Nat × List (List CV)) [2,3,49,50] (fun⟨j,S⟩=>[(51,I (j:Nat))]) (fun⟨j,S⟩=>[(8, .cells [.c (J a.sig.aK), .c (J a.sig.aF), .lw 4, .lw 5]),(5, .aU none 89 8 S)]) (fun⟨j,S⟩=>j≤a.aL.length/\S=(a.aL.take j).map eG) (fun⟨j,S⟩=>a.aL.length-j) (0,[]) (by exact⟨ah _,rfl⟩) (fun A ha=>?_);obtain⟨j,S⟩:=A;have ha:j≤a.aL.length/\S=(a.aL.take j).map eG:=ha;have hSl:S.length=j:=jJ ha.1 ha.2;have ZY:=jh (by omega) hA.2)
  |refine nx ((k+1,R++[ey ((a.az.getD i ck).notes.getD k n0)]):Nat × List (List CV)) (by exact⟨by show k+1≤_;omega,RA (by omega) ha.2⟩)
  |refine nx ((j+1,S++[eG (a.aL.getD j lF)]):Nat × List (List CV)) (by exact⟨by show j+1≤_;omega,RA (by omega) ha.2⟩)
  |(apply Fact.mk;intro hL;try simp only[aa,maxLen]at hL)
  |((apply bX;constructor)<;>intro h<;>(try simp only[aa]at h)<;>(try first|omega|contradiction))|(show ay _ 78 _ _ _ _;refine cG [] rfl (rN ((a.az.getD i ck).notes.getD k n0) (Mb i (by omega) k (by omega))) ?_)|(show ay _ 78 _ _ _ _;refine cG [] rfl (rN (a.aL.getD j lF).note (hbp j (by omega))) ?_)|(show Gh _ _ _ _ _;obtain rfl:R=(a.az.getD i ck).notes.map ey:=jh (by omega) ha.2;refine Gh.go ⟨((i+1,rows++[fY (a.az.getD i ck)]):Nat × List (List CV)),⟨by show i+1≤_;omega,RA (by omega) hA.2⟩,(by show a.az.length-(i+1)<a.az.length-i;omega),(by repeat' first|exact trivial|exact rfl|constructor),(by repeat' first|exact trivial|exact rfl|constructor),(by(repeat' first|exact trivial|exact rfl|refine⟨?_,?_⟩|(simp only[au,List.map_cons,List.map_nil,List.map_set];first|done|rfl));done)⟩)
  |refine aR ?_|(show Index _ _ _;first|(refine Index.mk _ (aN (d:=ck) (i:=i) (by omega)) ?_)|(refine Index.mk _ (aN (d:=n0) (i:=k) (by omega)) ?_)|(refine Index.mk _ (aN (d:=lF) (i:=j) (by omega)) ?_)|fail)
  |refine nB ?_|(show bh _ _;refine bh.mk (by first|((simp only[List.length_cons,List.length_nil,maxLen];constructor<;>omega))|fail) ?_)
  |refine nO ?_)
 all_goals first|rfl|trivial|(rw[jh (by omega) ha.2,jh (by omega) hA.2];first|done|rfl)
theorem xn(a:aB)(h:CA a):aE prog 68 [.c (.rp 4 (aW a))] [] (.a 4 (gu a)):=by
 obtain⟨hs,hf,Ps,Mb,hbp⟩:=h;have YQ:∀j,j<a.aL.length->aE prog 108 [.c (.rp 7 ((bN (a.aL.getD j lF)).drop 1))] [] (.a 7 (ey (a.aL.getD j lF).note)):=fun j hj=>l3 _ (hbp j hj)
 refine cX func68 (h:=?_)
 repeat'((conv=>whnf);first
  |refine aI.mk ?_ ?_|(show aZ 3 _ _ _ _ _ _;refine qJ (Nat × List (List CV)) [0,2,3] (fun⟨i,rows⟩=>[(4,I (i:Nat))]) (fun⟨i,rows⟩=>[(8, .cells [.c (J a.sig.aK), .c (J a.sig.aF), .lw 4, .lw 3]),(4, .aU none 47 3 rows)]) (fun⟨i,rows⟩=>i≤a.az.length/\rows=(a.az.take i).map fY) (fun⟨i,rows⟩=>a.az.length-i) (0,[]) (by exact⟨ah _,rfl⟩) (fun A ha=>?_);obtain⟨i,rows⟩:=A;have ha:i≤a.az.length/\rows=(a.az.take i).map fY:=ha;have sU:rows.length=i:=jJ ha.1 ha.2;have hA:=ha;have hni:=Ps i)|(show aZ 7 _ _ _ _ _ _;refine qJ (Nat × List (List CV)) [0,2,3,4,5] (fun⟨k,R⟩=>[(6,I (k:Nat))]) (fun⟨k,R⟩=>[(12, .cells [.c (.val (.bool (a.az.getD i ck).up)), .lw 9, .c (J (a.az.getD i ck).saved)]),(9, .aU none 51 7 R)]) (fun⟨k,R⟩=>k≤(a.az.getD i ck).notes.length/\R=((a.az.getD i ck).notes.take k).map ey) (fun⟨k,R⟩=>(a.az.getD i ck).notes.length-k) (0,[]) (by exact⟨ah _,rfl⟩) (fun A ha=>?_);obtain⟨k,R⟩:=A;have ha:k≤(a.az.getD i ck).notes.length/\R=((a.az.getD i ck).notes.take k).map ey:=ha;have YN:R.length=k:=jJ ha.1 ha.2;have Xa:=hni (by omega))|(show aZ 12 _ _ _ _ _ _;refine qJ (Nat × List (List CV)) [0,2,3] (fun⟨j,S⟩=>[(7,I (j:Nat))]) (fun⟨j,S⟩=>[(8, .cells [.c (J a.sig.aK), .c (J a.sig.aF), .lw 4, .lw 3]),(3, .aU none 89 8 S)]) (fun⟨j,S⟩=>j≤a.aL.length/\S=(a.aL.take j).map eG) (fun⟨j,S⟩=>a.aL.length-j) (0,[]) (by exact⟨ah _,rfl⟩) (fun A ha=>?_);obtain⟨j,S⟩:=A;have ha:j≤a.aL.length/\S=(a.aL.take j).map eG:=ha;have hSl:S.length=j:=jJ ha.1 ha.2)
  |refine nx ((k+1,R++[ey ((a.az.getD i ck).notes.getD k n0)]):Nat × List (List CV)) (by exact⟨by show k+1≤_;omega,RA (by omega) ha.2⟩)
  |refine nx ((j+1,S++[eG (a.aL.getD j lF)]):Nat × List (List CV)) (by exact⟨by show j+1≤_;omega,RA (by omega) ha.2⟩)
  |(apply Fact.mk;intro hL;try simp only[aa,maxLen]at hL)
  |((apply bX;constructor)<;>intro h<;>(try simp only[aa]at h)<;>(try first|omega|contradiction))|(show ay _ 108 _ _ _ _;refine cG [] rfl (l3 ((a.az.getD i ck).notes.getD k n0) (Mb i (by omega) k (by omega))) ?_)|(show ay _ 108 _ _ _ _;refine cG [] rfl (YQ j (by omega)) ?_)|(show Gh _ _ _ _ _;obtain rfl:R=(a.az.getD i ck).notes.map ey:=jh (by omega) ha.2;refine Gh.go ⟨((i+1,rows++[fY (a.az.getD i ck)]):Nat × List (List CV)),⟨by show i+1≤_;omega,RA (by omega) hA.2⟩,(by show a.az.length-(i+1)<a.az.length-i;omega),(by repeat' first|exact trivial|exact rfl|constructor),(by repeat' first|exact trivial|exact rfl|constructor),(by(repeat' first|exact trivial|exact rfl|refine⟨?_,?_⟩|(simp only[au,List.map_cons,List.map_nil,List.map_set];first|done|rfl));done)⟩)
  |refine aR ?_|(show Index _ _ _;first|(refine Index.mk _ (aN (d:=ck) (i:=i) (by omega)) ?_)|(refine Index.mk _ (aN (d:=n0) (i:=k) (by omega)) ?_)|(refine Index.mk _ (aN (d:=lF) (i:=j) (by omega)) ?_)|fail)
  |refine nB ?_|(show bh _ _;refine bh.mk (by first|((simp only[List.length_cons,List.length_nil,maxLen];constructor<;>omega))|fail) ?_)
  |refine nO ?_)
 all_goals first|rfl|trivial|(rw[jh (by omega) ha.2,jh (by omega) hA.2];first|done|rfl)
theorem oV(n:aT)(hb:bU n≤1048576):aE prog 78 [.a 7 (bG n)] [] (.a 7 (bG n)):=(rN n hb).soft (.v (.a (Jz n)))
theorem pn(a:aB)(h:CA a):aE prog 37 [.a 4 (aW a)] [] (.a 4 (cQ a)):=(qS a h).soft (.v (.a (AU a)))
theorem HU(a:aB)(h:CA a):aE prog 68 [.c (.rp 4 (aW a))] [] (.a 4 (cQ a)):=(xn a h).soft (.v (.a (AU a)))
structure WA(a:aB):Prop where
 n5:1≤a.az.length/\a.az.length≤5
 f12:a.aL.length≤12
 sv:∀i,i<a.az.length->(a.az.getD i ck).notes.length≤20/\0≤(a.az.getD i ck).saved/\(a.az.getD i ck).saved≤((a.az.getD i ck).notes.length:Int)
 bn:∀i,i<a.az.length-> ∀n∈(a.az.getD i ck).notes,bU n≤1048576
 pk:∀i,i<a.aL.length->0≤(a.aL.getD i lF).mc/\(a.aL.getD i lF).mc<(a.az.length:Int)/\bU (a.aL.getD i lF).note≤1048576
structure EA(e:bH):Prop where
 ra:0≤e.a/\e.a≤999
 rb:0≤e.b/\e.b≤999
 rc:0≤e.c/\e.c≤999
 bl:e.bI.length+cL e.proof+e.nH.length≤1048576
theorem pt{l:List bj}{i:Nat}{x y:List CV}(hi:i<l.length)(hy:y=cy (l.getD i ck)):((l.map cy).set i x).set i y=l.map cy:=by
 rw[List.set_set,hy,getD_eq hi,<-List.map_set,List.set_getElem_self]
theorem pT{l:List bj}{i:Nat}{x y:List CV}{s:bj}(hy:y=cy s):((l.map cy).set i x).set i y=(l.set i s).map cy:=by
 rw[List.set_set,hy,List.map_set]
theorem iD{l:List bj}{i:Nat}{y:List CV}{s:bj}(hy:y=cy s):(l.map cy).set i y=(l.set i s).map cy:=by
 rw[hy,List.map_set]
theorem tM:∀l:List (List CV),jy l l
 |[]=> .nil
 |r::rs=> .cons (gY.refl r) (tM rs)
theorem sH{x y:List CV}(h:gY x y):∀{l:List (List CV)} {i:Nat},jy (l.set i x) (l.set i y)
 |[],_=> .nil
 |_r::rs,0=> .cons h (tM rs)
 |r::_rs,_i+1=> .cons (gY.refl r) (sH h)
theorem lr{l:List bj}{i:Nat}{x y:List CV}(hi:i<l.length)(hy:y=cy (l.getD i ck)):jy (((l.map cy).set i x).set i y) (l.map cy):=by
 rw[pt hi hy];exact tM _
theorem wS{l:List aT}{r:List CV}{n:aT}(h:pf r=bG n):dD (l.map bG++[r])=(l++[n]).map bG:=by
 have h1:=Gn l;rw[ep]at h1⊢;rw[au,h1,au];refine congrArg _ ?_;show[r.map mV]=[bG n];rw[<-h,so]
abbrev FA(a:aB)(R:List (List CV)):Option (List CV):=some [CV.op [J a.sig.aK,J a.sig.aF,CV.own 47 3 R,CV.ows 89 8 (a.aL.map bN)]]
section
variable{a:aB}{e:bH}
theorem UI(h1:e.b≥100):cT a e=(2,a):=if_pos h1
theorem OO(h1:¬e.b≥100)(h2:(sA a e.a).up=false):cT a e=(4,a):=by
 unfold cT;rw[if_neg (by omega),if_pos (by rw[h2];rfl)]
theorem Qb(h1:¬e.b≥100)(h2:(sA a e.a).up=true)(h3:bf (sA a e.a).notes true e.b≥0):cT a e=(4,a):=by
 unfold cT;rw[if_neg (by omega),if_pos (by rw[h2,decide_eq_true h3];rfl)]
theorem TV(h1:¬e.b≥100)(h2:(sA a e.a).up=true)(h3:¬bf (sA a e.a).notes true e.b≥0)(h4:((sA a e.a).notes.length:Int)=20):cT a e=(3,a):=by
 unfold cT;rw[if_neg (by omega),if_neg (by rw[h2,decide_eq_false h3];decide),if_pos (by omega)]
theorem UB(h1:¬e.b≥100)(h2:(sA a e.a).up=true)(h3:¬bf (sA a e.a).notes true e.b≥0)(h4:¬((sA a e.a).notes.length:Int)=20):cT a e=(0,jE a e.a (mf (sA a e.a) (Bf e))):=by
 unfold cT;rw[if_neg (by omega),if_neg (by rw[h2,decide_eq_false h3];decide),if_neg (by omega)]
end
theorem Mu(a:aB)(e:bH)(hw:WA a)(he:EA e)(hp:e.a<(a.az.length:Int)):aE prog 83 [.c (.op (cQ a)), .a 9 (cj e)] [some [.op (cQ (cT a e).2)],none] (I (cT a e).1):=by
 have dV:e.a.toNat<a.az.length:=by have:=he.ra;omega
 have Yn:=he.ra;have Bd:=(hw.sv _ dV).1;refine Oa func83 (fun ew=>match ew with|4=>true|_=>false) (h:=?_)
 repeat'((conv=>whnf);first
  |(show aI (I 2=_) _;have hd:cT a e=(2,a):=UI (by assumption);rw[hd];exact aI.mk rfl ⟨rfl,trivial⟩)
  |((apply bX;constructor)<;>intro h<;>(try simp only[aa]at h)<;>(try first|omega|contradiction))|(show Gh _ _ _ _ _;refine Gh.go ?_)
  |refine nB ?_|(show bh _ _;refine bh.mk (by first|((simp only[aa];omega))|fail) ?_))
 all_goals(conv=>whnf)
 all_goals try refine jY.opens 0 e.a.toNat 1 rfl (aN (d:=ck) dV) rfl fun v=>jY.go ?_
 repeat'((conv=>whnf);first
  |(show aI (I 4=_) _;have hd:cT a e=(4,a):=(by first|exact OO (by assumption) (by assumption)|exact Qb (by assumption) (by assumption) (by assumption));rw[hd];exact aI.mk rfl ⟨congrArg (FA a) (pt dV rfl),trivial⟩)|(show aI (I 3=_) _;have hd:cT a e=(3,a):=TV (by assumption) (by assumption) (by assumption) (by assumption);rw[hd];exact aI.mk rfl ⟨congrArg (FA a) (pt dV rfl),trivial⟩)|(show aI (I 0=_) _;have hd:cT a e=(0,jE a e.a (mf (sA a e.a) (Bf e))):=UB (by assumption) (by assumption) (by assumption) (by assumption);rw[hd];exact aI.mk rfl ⟨congrArg (FA a) (pT (s:=mf (sA a e.a) (Bf e)) (congrArg (fun R=>[CV.val (.bool (sA a e.a).up),CV.ows 51 7 R,J (sA a e.a).saved]) (wS rfl))),trivial⟩)
  |(apply Fact.mk;intro hL;try simp only[aa,maxLen]at hL)
  |((apply bX;constructor)<;>intro h<;>(try simp only[aa]at h)<;>(try first|omega|contradiction))|(show ay _ 59 _ _ _ _;refine cP rfl (mF (a.az.getD e.a.toNat ck).notes true e.b) ?_)|(show Gh _ _ _ _ _;refine Gh.j8 0 e.a.toNat 1 4 rfl (c9 (by rw[aa];exact dV)) rfl rfl rfl (Gh.go ?_))|(show Gh _ _ _ _ _;refine Gh.soft 0 (iP.aU (sH (i:=e.a.toNat) (.same (.ows (.same .nil))))) (Gh.go ?_))|(show Index _ _ _;first|(refine Index.mk _ (c9 (by rw[aa];exact dV)) ?_)|fail)
  |refine nB ?_|(show ch _ _ _;first|refine ch.row 4 rfl ?_|refine ch.aU 4 rfl ?_)|(show bh _ _;refine bh.mk (by first|((simp only[aa];omega))|((simp only[List.length_cons,List.length_nil,aa,maxLen];constructor<;>omega))|fail) ?_))
 all_goals(try(conv=>whnf))
abbrev FG(a:aB):List CV:=[J a.sig.aK,J a.sig.aF, .ro 3 (dD (a.az.map cy)), .ro 8 (a.aL.map bN)]
theorem uN(a:aB):FG a=aW a:=by
 unfold FG;rw[IP];rfl
theorem j6(a:aB)(s:Int):aS prog 104 [.c (.rp 4 (FG a)),I s] (B (bW a s)):=by
 rw[uN];exact GH a s
theorem kN(a:aB)(s:Int):aS prog 81 [.a 4 (FG a),I s] (B (bW a s)):=by
 rw[uN];exact zY a s
theorem OY{a:aB}(hw:WA a):∀i,i≤a.az.length->((a.az.take i).flatMap bj.notes).length≤20*i
 |0,_=>by simp
 |i+1,hi=>by
  have h:=OY hw i (by omega);have h1:=(hw.sv i (by omega)).1;rw[List.take_succ_eq_append_getElem (by omega),List.flatMap_append,ai];rw[getD_eq (by omega)]at h1;simp only[List.flatMap_cons,List.flatMap_nil,List.append_nil];omega
theorem Bs(a:aB)(hw:WA a):aE prog 48 [.m [.c (J a.sig.aK), .c (J a.sig.aF), .c (.own 47 3 (a.az.map cy)), .c (.ows 89 8 (a.aL.map bN))]] [some (cQ a)] (.c (.ows 51 7 ((fC a).map bG))):=by
 have h5:=hw.n5;have hf:=hw.f12;have hfl:=OY hw;have wm:=hw.sv;refine cX func48 (h:=?_)
 repeat'((conv=>whnf);first
  |refine aI.mk ?_ ?_|(show aZ 3 _ _ _ _ _ _;refine qJ (Nat × List aT) [1,10,11] (fun⟨i,R⟩=>[(3, .lw 4),(12,I (i:Nat))]) (fun⟨i,R⟩=>[(4, .row none 51 7 (R.map bG))]) (fun⟨i,R⟩=>i≤a.az.length/\R=(a.az.take i).flatMap bj.notes) (fun⟨i,R⟩=>a.az.length-i) (0,[]) (by exact⟨ah _,rfl⟩) (fun A ha=>?_);obtain⟨i,R⟩:=A;have ha:i≤a.az.length/\R=(a.az.take i).flatMap bj.notes:=ha;have hR2:=ha.2;have YN:=hfl i ha.1;rw[<-ha.2]at YN;have ZJ:=wm i)|(show aZ 8 _ _ _ _ _ _;refine qJ (Nat × List aT) [22,23] (fun⟨k,S⟩=>[(3, .lw 4),(24,I (k:Nat))]) (fun⟨k,S⟩=>[(4, .row none 51 7 (S.map bG))]) (fun⟨k,S⟩=>k≤a.aL.length/\S=R++(a.aL.take k).map c8.note) (fun⟨k,S⟩=>a.aL.length-k) (0,R) (by exact⟨ah _,by simp⟩) (fun A ha=>?_);obtain⟨k,S⟩:=A;have ha:k≤a.aL.length/\S=R++(a.aL.take k).map c8.note:=ha;have hSl:=congrArg List.length ha.2;simp only[ai,aa,aq]at hSl)
  |refine nx ((k+1,S++[(a.aL.getD k lF).note]):Nat × List aT) (by(have hk:k<a.aL.length:=(by omega);refine⟨hk,?_⟩;show S++_=_;rw[jL hk,ha.2,List.append_assoc,getD_eq hk]))
  |(apply Fact.mk;intro hL;try simp only[aa,maxLen]at hL)
  |((apply bX;constructor)<;>intro h<;>(try simp only[aa]at h)<;>(try first|omega|contradiction))|(show∀_:Value,_;intro v)|(show Gh _ _ _ _ _;refine Gh.j8 0 i 1 5 rfl (c9 (by rw[aa];omega)) rfl rfl rfl (Gh.go ⟨((i+1,R++(a.az.getD i ck).notes):Nat × List aT),(by(have hi:i<a.az.length:=(by omega);refine⟨hi,?_⟩;show R++_=_;rw[sQ hi,ha.2,getD_eq hi])),(by show a.az.length-(i+1)<a.az.length-i;omega),(by repeat' first|exact trivial|exact rfl|constructor),(by repeat' first|exact trivial|exact rfl|constructor),(by(repeat' first|exact trivial|exact rfl|exact congrArg (dW.aU none 47 3) (pt (by omega) rfl)|refine⟨?_,?_⟩|(simp only[au];first|done|rfl));done)⟩))
  |refine aR ?_|(show Index _ _ _;first|(refine Index.mk _ (aN (d:=ck) (i:=i) (by omega)) ?_)|(refine Index.mk _ (aN (d:=lF) (i:=k) (by omega)) ?_)|fail)|(show bh _ _;refine bh.mk (by first|((simp only[aa,List.length_cons,List.length_nil,maxLen];first|(constructor<;>omega)|(have X6:=ZJ (by omega);constructor<;>omega)))|fail) ?_))
 all_goals(try(conv=>whnf))
 all_goals first|exact⟨rfl,trivial⟩|(have h9:=ha.2;rw[ar (by omega)]at h9;rw[hR2,ar (by omega)]at h9;rw[h9];rfl)
theorem NO{a:aB}{id:Int}:oY a id=(a.az.any (fun s=>decide (bf s.notes false id≥0))||a.aL.any (fun p=>ef false id p.note)):=by
 refine Bool.eq_iff_iff.2 ?_;unfold oY;rw[decide_eq_true_iff,Bool.or_eq_true,List.any_eq_true,List.any_eq_true];unfold bf;rw[lZ];unfold fC;constructor
 ·rintro⟨y,hy,hp⟩;rcases ao.1 hy with h|h
  ·obtain⟨s,hs,hn⟩:=List.mem_flatMap.1 h;exact .inl ⟨s,hs,decide_eq_true (lZ.2 ⟨y,hn,hp⟩)⟩
  ·obtain⟨p,K3,rfl⟩:=List.mem_map.1 h;exact .inr ⟨p,K3,hp⟩
 ·rintro(⟨s,hs,h⟩|⟨p,hp,h⟩)
  ·obtain⟨y,hy,hq⟩:=lZ.1 (of_decide_eq_true h);exact⟨y,ao.2 (.inl (List.mem_flatMap.2 ⟨s,hs,hy⟩)),hq⟩
  ·exact⟨p.note,ao.2 (.inr (List.mem_map.2 ⟨p,hp,rfl⟩)),h⟩
theorem CU{α:Type}{p:α->Bool}{l:List α}{i:Nat}(hi:i<l.length)(h:p l[i]=true):l.any p=true:=List.any_eq_true.2 ⟨_,ag hi,h⟩
theorem HP{α:Type}{p:α->Bool}{l:List α}{i:Nat}(hi:l.length≤i)(h:(l.take i).all (fun y=> !(p y))=true):l.any p=false:=by
 rw[ar hi]at h;cases hb:l.any p with
 |false=>rfl
 |true=>
  obtain⟨y,hy,hp⟩:=List.any_eq_true.1 hb;have:=aj.1 h y hy;rw[hp]at this;cases this
theorem GD(a:aB)(id:Int)(h5:a.az.length≤1048576)(hf:a.aL.length≤1048576):aS prog 147 [.c (.rp 4 (aW a)),I id] (B (oY a id)):=by
 rw[NO];refine cF func147 (h:=?_)
 repeat'((conv=>whnf);first
  |(apply bP.mk;first|((refine gO ?_;rw[CU (p:=fun s:bj=>decide (bf s.notes false id≥0)) (i:=i) (by omega) (by rw[<-getD_eq (d:=ck) (by omega)];exact decide_eq_true h)];rfl);done)|((refine gO ?_;rw[CU (p:=fun p:c8=>ef false id p.note) (i:=k) (by omega) (by rw[<-getD_eq (d:=lF) (by omega)];simp_all[ef]),Bool.or_true]);done)|((refine eM ?_;rw[HP (by omega) hA.2,HP (by omega) ha.2];rfl);done)|skip)|(show aZ 2 _ _ _ _ _ _;refine lp (Nat) [0,1] (fun i=>[(5,I (i:Nat))]) (fun i=>i≤a.az.length/\(a.az.take i).all (fun s=> !(decide (bf s.notes false id≥0)))=true) (fun i=>a.az.length-i) 0 (by exact⟨ah _,rfl⟩) (fun i ha=>?_);have hA:=ha)|(show aZ 7 _ _ _ _ _ _;refine lp (Nat) [0,1] (fun k=>[(6,I (k:Nat))]) (fun k=>k≤a.aL.length/\(a.aL.take k).all (fun p=> !(ef false id p.note))=true) (fun k=>a.aL.length-k) 0 (by exact⟨ah _,rfl⟩) (fun k ha=>?_))
  |refine nx (i+1:Nat) (by exact eN (by omega) ha (by rw[<-getD_eq (d:=ck) (by omega)];exact zq (decide_eq_false h)))
  |refine nx (k+1:Nat) (by exact eN (by omega) ha (by rw[<-getD_eq (d:=lF) (by omega)];refine zq ?_;simp_all[ef]))
  |(apply Fact.mk;intro hL;try simp only[aa,maxLen]at hL)
  |((apply bX;constructor)<;>intro h<;>(try simp only[aa]at h)<;>(try first|omega|contradiction))|(show ay _ 60 _ _ _ _;refine cP rfl (jd (a.az.getD i ck).notes false id) ?_)
  |refine aR ?_|(show Index _ _ _;first|(refine Index.mk _ (aN (d:=ck) (i:=i) (by omega)) ?_)|(refine Index.mk _ (aN (d:=lF) (i:=k) (by omega)) ?_)|fail)
  |refine nO ?_)
theorem Bz(a:aB)(hw:WA a)(id:Int):aS prog 147 [.c (.rp 4 (FG a)),I id] (B (oY a id)):=by
 rw[uN];exact GD a id (by have:=hw.n5;omega) (by have:=hw.f12;omega)
section
variable{a:aB}{e:bH}
theorem QV(h2:(sA a e.a).up=false):fq a e=(4,a):=by
 unfold fq;rw[if_pos (by rw[h2];rfl)]
theorem Re(h2:(sA a e.a).up=true)(h3:iO (sA a e.a).notes e.bI=false):fq a e=(4,a):=by
 unfold fq;rw[if_pos (by rw[h2,h3];rfl)]
theorem Um(h2:(sA a e.a).up=true)(h3:iO (sA a e.a).notes e.bI=true)(h4:oX e.nH=false):fq a e=(8,a):=by
 unfold fq;rw[if_neg (by rw[h2,h3];decide),if_pos h4]
theorem UE(h2:(sA a e.a).up=true)(h3:iO (sA a e.a).notes e.bI=true)(h4:oX e.nH=true)(h5:((sA a e.a).notes.length:Int)=20\/100≤kY a e.a\/oY a (kY a e.a)=true):fq a e=(3,a):=by
 unfold fq;rw[if_neg (by rw[h2,h3];decide),if_neg (by rw[h4];decide),if_pos];rw[Bool.or_eq_true,Bool.or_eq_true,decide_eq_true_iff,decide_eq_true_iff];rcases h5 with h|h
 ·exact .inl (by omega)
 ·exact .inr h
theorem Up(h2:(sA a e.a).up=true)(h3:iO (sA a e.a).notes e.bI=true)(h4:oX e.nH=true)(h5:¬((sA a e.a).notes.length:Int)=20)(h6:¬100≤kY a e.a)(h7:oY a (kY a e.a)=false):fq a e=(0,jE a e.a (mf (sA a e.a) (zi a e))):=by
 unfold fq;rw[if_neg (by rw[h2,h3];decide),if_neg (by rw[h4];decide),if_neg];rw[decide_eq_false (by omega:¬(sA a e.a).notes.length=20),decide_eq_false h6,h7]
 decide
end
theorem HB{n i:Int}{x:aT}(h:x.bT=false)(h2:x.id.tmod n=i):uc n i x=true:=by
 unfold uc;rw[h,decide_eq_true h2];rfl
theorem Ga{n i:Int}{x:aT}(h:x.bT=true):uc n i x=false:=by
 unfold uc;rw[h];rfl
theorem H6{n i:Int}{x:aT}(h2:¬x.id.tmod n=i):uc n i x=false:=by
 unfold uc;rw[decide_eq_false h2,Bool.and_false]
theorem WO(a:aB)(e:bH)(hw:WA a)(he:EA e)(hp:e.a<(a.az.length:Int)):aE prog 82 [.c (.op (cQ a)), .a 9 (cj e)] [some [.op (cQ (fq a e).2)],none] (I (fq a e).1):=by
 have dV:e.a.toNat<a.az.length:=by have:=he.ra;omega
 have Yn:=he.ra;have h5:=hw.n5;have Bd:=(hw.sv _ dV).1;have hmul:∀c:Int,0≤c->c≤20->0≤(a.az.length:Int)*c/\(a.az.length:Int)*c≤100:=fun c h1 h2=>by
  constructor
  ·exact Int.mul_nonneg (by omega) h1
  ·have:=Int.mul_le_mul (show(a.az.length:Int)≤5 by omega) h2 h1 (by omega);omega
 have Yh:=J0 e.nH (by have:=he.bl;omega);obtain⟨vb,SY⟩:∃vb,vb=oX e.nH:=⟨_,rfl⟩
 rw[<-SY]at Yh;have Mb:∀x y,bU ⟨false,x,⟨y,e.bI,e.proof⟩⟩≤1048576:=fun _ _=>by have:=he.bl;simp only[bU,nE];omega
 refine Oa func82 (fun ew=>match ew with|2=>true|1000015=>true|14015=>true|17=>true|_=>false) (h:=?_)
 repeat'((conv=>whnf);first
  |(show Gh _ _ _ _ _;refine Gh.go ?_)
  |refine nB ?_|(show bh _ _;refine bh.mk (by first|((simp only[aa];omega))|fail) ?_))
 all_goals(conv=>whnf)
 all_goals try refine jY.opens 0 e.a.toNat 1 rfl (aN (d:=ck) dV) rfl fun v=>jY.go ?_
 repeat'((conv=>whnf);first
  |(show aI (I 4=_) _;have hd:fq a e=(4,a):=(by first|exact QV (by assumption)|exact Re (by assumption) (by assumption));rw[hd];exact aI.mk rfl ⟨rfl,trivial⟩)|(show aI (I 8=_) _;have hd:fq a e=(8,a):=Um (by assumption) (by assumption) (by rw[<-SY];assumption);rw[hd];exact aI.mk rfl ⟨rfl,trivial⟩)|(show aZ 9 _ _ _ _ _ _;refine lp (Int × Nat) [0,3,5,6,45,46] (fun⟨c,i⟩=>[(7,I c),(47,I (i:Nat))]) (fun⟨c,i⟩=>i≤(a.az.getD e.a.toNat ck).notes.length/\c=(((a.az.getD e.a.toNat ck).notes.take i).countP (uc a.az.length e.a):Nat)) (fun⟨c,i⟩=>(a.az.getD e.a.toNat ck).notes.length-i) (0,0) (by exact⟨ah _,by simp⟩) (fun A ha=>?_);obtain⟨c,i⟩:=A;have ha:i≤(a.az.getD e.a.toNat ck).notes.length/\c=(((a.az.getD e.a.toNat ck).notes.take i).countP (uc a.az.length e.a):Nat):=ha;have WD:=ha.2;have VY:=EG (p:=uc a.az.length e.a) (l:=(a.az.getD e.a.toNat ck).notes) (i:=i))
  |refine nx ((c+1,i+1):Int × Nat) (by exact⟨by show i+1≤_;omega,yK (by omega) (by rw[<-getD_eq (d:=n0) (by omega)];refine HB (by assumption) ?_;simpa only[af,aa]using h) ha.2⟩)
  |refine nx ((c,i+1):Int × Nat) (by exact⟨by show i+1≤_;omega,Dv (by omega) (by rw[<-getD_eq (d:=n0) (by omega)];first|exact Ga h|(refine H6 ?_;simpa only[af,aa]using h)) ha.2⟩)
  |(apply Fact.mk;intro hL;try simp only[aa,maxLen]at hL)
  |((apply bX;constructor)<;>intro h<;>(try simp only[aa]at h)<;>(try first|omega|contradiction))|(show ay _ 95 _ _ _ _;refine cP rfl (qL (a.az.getD e.a.toNat ck).notes e.bI) ?_)|(show ay _ 114 _ _ _ _;refine cP rfl (Yh) ?_)|(show Gh _ _ _ _ _;refine Gh.j8 0 e.a.toNat 1 4 rfl (c9 (by rw[aa];exact dV)) rfl rfl rfl (Gh.soft 0 (b':= .aU none 47 3 (a.az.map cy)) (.aU (lr dV rfl)) (Gh.go ?_)))|(show Arith _ _ _;refine Arith.fit (bu (by(first|omega|(simp only[af,aa];omega)|(simp only[af,aa];have RT:=hmul c (by omega) (by omega);omega))) (by(first|omega|(simp only[af,aa];omega)|(simp only[af,aa];have RT:=hmul c (by omega) (by omega);omega)))) ?_)|(show Index _ _ _;first|(refine Index.mk _ (c9 (by rw[aa];exact dV)) ?_)|(refine Index.mk _ (aN (d:=n0) (i:=i) (by omega)) ?_)|fail)
  |refine nB ?_|(show ch _ _ _;first|refine ch.row 4 rfl ?_|refine ch.aU 4 rfl ?_)|(show bh _ _;refine bh.mk (by first|((simp only[af,aa];omega))|fail) ?_))
 all_goals(conv=>whnf)
 all_goals(have Ob:e.a+((((a.az.map cy).set e.a.toNat (bo (cy (a.az.getD e.a.toNat ck)) 1 [CV.val v])).length:Nat):Int)*c=kY a e.a:=(by rw[af,aa];have h9:=ha.2;rw[ar (by omega)]at h9;rw[h9];rfl);refine jY.go ?_)
 repeat'((conv=>whnf);first
  |(show aI (I 3=_) _;have hd:fq a e=(3,a):=UE (by assumption) (by assumption) (by rw[<-SY];assumption) (by first|exact .inl (by assumption)|exact .inr (.inl (by rw[<-Ob];assumption))|exact .inr (.inr (by rw[<-Ob];exact decide_eq_true (by assumption))));rw[hd];exact aI.mk rfl ⟨rfl,trivial⟩)
  |((apply bX;constructor)<;>intro h<;>(try simp only[aa]at h)<;>(try first|omega|contradiction))|(show ay _ 48 _ _ _ _;refine cG [true] rfl (Bs a hw) ?_)|(show ay _ 59 _ _ _ _;refine cP rfl (mF (fC a) false _) ?_)|(show Gh _ _ _ _ _;refine Gh.go ?_))
 all_goals(conv=>whnf)
 all_goals refine jY.opens 0 e.a.toNat 1 rfl (aN (d:=ck) dV) rfl fun v=>jY.go ?_
 repeat'((conv=>whnf);first
  |(show aI (I 0=_) _;have hd:fq a e=(0,jE a e.a (mf (sA a e.a) (zi a e))):=Up (by assumption) (by assumption) (by rw[<-SY];assumption) (by assumption) (by rw[<-Ob];assumption) (by rw[<-Ob];exact decide_eq_false (by assumption));rw[hd];exact aI.mk rfl ⟨congrArg (FA a) (pT (s:=mf (sA a e.a) (zi a e)) (by simp only[cy,au];unfold zi;rw[<-Ob];rfl)),trivial⟩)|(show ay _ 78 _ _ _ _;refine cG [] rfl (oV ⟨false,_,⟨_,e.bI,e.proof⟩⟩ (Mb _ _)) ?_)|(show Gh _ _ _ _ _;refine Gh.go ?_)|(show Index _ _ _;first|(refine Index.mk _ (c9 (by rw[aa];exact dV)) ?_)|fail)
  |refine nB ?_|(show ch _ _ _;first|refine ch.row 4 rfl ?_|refine ch.aU 4 rfl ?_|refine ch.row 5 rfl ?_|refine ch.aU 5 rfl ?_|refine ch.row 6 rfl ?_|refine ch.aU 6 rfl ?_|refine ch.row 7 rfl ?_|refine ch.aU 7 rfl ?_|refine ch.row 8 rfl ?_|refine ch.aU 8 rfl ?_|refine ch.row 9 rfl ?_|refine ch.aU 9 rfl ?_|refine ch.row 10 rfl ?_|refine ch.aU 10 rfl ?_)|(show bh _ _;refine bh.mk (by first|((simp only[af,aa];omega))|((simp only[List.length_cons,List.length_nil,aa,maxLen];constructor<;>omega))|fail) ?_))
 all_goals(try(conv=>whnf))
end Go.Proofs.YtgbggaddpbghfaaGreat
