/- Contracts of the copies of claims, proofs, notes and archives: they own their memory. No conditions but the number of the parts. -/
import Derived.Test.YtgbggaddpbghfaaGreatKAD
namespace Go.Proofs.YtgbggaddpbghfaaGreat
open Go Go.KA Go.Proofs
set_option maxHeartbeats 16000000
set_option maxRecDepth 100000
theorem LV{α:Type}{f:α→List CV}{d:α}{l:List α}{i:Nat}{rows:List (List CV)}(hi:i<l.length)(h:rows=(l.take i).map f):rows++[f (l.getD i d)]=(l.take (i+1)).map f:=by
 rw[iG hi,h,getD_eq hi]
theorem iF{α:Type}{f:α→List CV}{l:List α}{i:Nat}{rows:List (List CV)}(hi:i≤l.length)(h:rows=(l.take i).map f):rows.length=i:=by
 rw[h,List.length_map,List.length_take]
 omega
theorem gW{α:Type}{f:α→List CV}{l:List α}{i:Nat}{rows:List (List CV)}(hi:¬i<l.length)(h:rows=(l.take i).map f):rows=l.map f:=by
 rw[h,List.take_of_length_le (by omega)]
abbrev NW:aB:=⟨0,false,[],[],[]⟩
theorem Ak(c:bm)(hb:bV c≤1048576):ah Tryz.prog 143 [.a 9 (aH c)] [] (.a 9 (eO c)):=by
 have h0:aj c.left≤1048576∧aj c.right≤1048576∧eK bJ c.steps≤1048576:=by simp only[bV] at hb;omega
 have hn:=dB bJ c.steps
 have hc:∀i,i<c.steps.length→ah Tryz.prog 173 [.a 5 (bP (c.steps.getD i NW))] [] (.a 5 (aW (c.steps.getD i NW))):=fun i hi=>DE _ (by rw[getD_eq hi];have:=cS bJ (List.getElem_mem hi);omega)
 refine cX Tryz.func143 (h:= ?_)
 repeat'((conv=>whnf);first
  |refine aq.mk ?_ ?_|(guard_target=~ aK 3 _ _ _ _ _ _;refine sM (Nat × List (List CV)) [2,3,18,19] (fun⟨i,rows⟩=>[(20,I (i:Nat))]) (fun⟨i,rows⟩=>[(13, .cells [.c (J c.left.kind), .c (J c.left.num), .lw 5, .c (J c.right.kind), .c (J c.right.num), .lw 6, .c (J c.kg), .c (J c.ref), .lw 9]),(9, .aG none 156 5 rows)]) (fun⟨i,rows⟩=>i≤c.steps.length∧rows=(c.steps.take i).map aW) (fun⟨i,rows⟩=>c.steps.length-i) (0,[]) (by exact⟨Nat.zero_le _,rfl⟩) (fun A ha=> ?_);obtain⟨i,rows⟩:=A;have ha:i≤c.steps.length∧rows=(c.steps.take i).map aW:=ha;have hrl:rows.length=i:=iF ha.1 ha.2)
  |refine nx ((i+1,rows++[aW (c.steps.getD i NW)]):Nat × List (List CV)) (by exact⟨by show i+1≤_;omega,LV (by omega) ha.2⟩)
  |(apply Fact.mk;intro hL;try simp only[List.length_map,maxLen] at hL)
  |((first|apply bA|apply bB|apply bC|apply bD|apply bE|apply bF)<;>intro h<;>(try simp only[List.length_map] at h)<;>(try omega)<;>(try contradiction))|(guard_target=aa _ 65 _ _ _ _;refine cG [] rfl (qM c.left h0.1) ?_)|(guard_target=aa _ 65 _ _ _ _;refine cG [] rfl (qM c.right h0.2.1) ?_)|(guard_target=aa _ 173 _ _ _ _;refine cG [] rfl (hc i (by omega)) ?_)
  |refine aR ?_|(guard_target=Index _ _ _;first|(refine Index.mk _ (aF (d:=NW) (i:=i) (by omega)) ?_)|fail)
  |refine nB ?_|(guard_target=aV _ _;refine aV.mk (by first|((simp only[List.length_cons,List.length_nil,List.length_map,maxLen];constructor<;>omega))|fail) ?_)
  |refine nO ?_)
 all_goals first|rfl|trivial|(rw[gW (by omega) ha.2];first|done|rfl)
theorem AV(p:cx)(hb:b7 p≤1048576):ah Tryz.prog 113 [.a 3 (cK p)] [] (.a 3 (oP p)):=by
 have h0:eK bV p.ao≤1048576:=by simp only[b7] at hb;omega
 have hn:=dB bV p.ao
 have hc:∀i,i<p.ao.length→ah Tryz.prog 143 [.a 9 (aH (p.ao.getD i c0))] [] (.a 9 (eO (p.ao.getD i c0))):=fun i hi=>Ak _ (by rw[getD_eq hi];have:=cS bV (List.getElem_mem hi);omega)
 refine cX Tryz.func113 (h:= ?_)
 repeat'((conv=>whnf);first
  |refine aq.mk ?_ ?_|(guard_target=~ aK 3 _ _ _ _ _ _;refine sM (Nat × List (List CV)) [2,3,10,11] (fun⟨i,rows⟩=>[(12,I (i:Nat))]) (fun⟨i,rows⟩=>[(5, .cells [.c (J p.sig.au), .c (J p.sig.ai), .lw 3]),(3, .aG none 104 9 rows)]) (fun⟨i,rows⟩=>i≤p.ao.length∧rows=(p.ao.take i).map eO) (fun⟨i,rows⟩=>p.ao.length-i) (0,[]) (by exact⟨Nat.zero_le _,rfl⟩) (fun A ha=> ?_);obtain⟨i,rows⟩:=A;have ha:i≤p.ao.length∧rows=(p.ao.take i).map eO:=ha;have hrl:rows.length=i:=iF ha.1 ha.2)
  |refine nx ((i+1,rows++[eO (p.ao.getD i c0)]):Nat × List (List CV)) (by exact⟨by show i+1≤_;omega,LV (by omega) ha.2⟩)
  |(apply Fact.mk;intro hL;try simp only[List.length_map,maxLen] at hL)
  |((first|apply bA|apply bB|apply bC|apply bD|apply bE|apply bF)<;>intro h<;>(try simp only[List.length_map] at h)<;>(try omega)<;>(try contradiction))|(guard_target=aa _ 143 _ _ _ _;refine cG [] rfl (hc i (by omega)) ?_)
  |refine aR ?_|(guard_target=Index _ _ _;first|(refine Index.mk _ (aF (d:=c0) (i:=i) (by omega)) ?_)|fail)
  |refine nB ?_|(guard_target=aV _ _;refine aV.mk (by first|((simp only[List.length_cons,List.length_nil,List.length_map,maxLen];constructor<;>omega))|fail) ?_)
  |refine nO ?_)
 all_goals first|rfl|trivial|(rw[gW (by omega) ha.2];first|done|rfl)
theorem zP(p:cx)(hb:b7 p≤1048576):ah Tryz.prog 134 [.c (.rp 3 (cK p))] [] (.a 3 (oP p)):=by
 have h0:eK bV p.ao≤1048576:=by simp only[b7] at hb;omega
 have hn:=dB bV p.ao
 have hcb:∀i,i<p.ao.length→aj (p.ao.getD i c0).left≤1048576∧aj (p.ao.getD i c0).right≤1048576∧eK bJ (p.ao.getD i c0).steps≤1048576:=fun i hi=>by
  rw[getD_eq hi]
  have:=cS bV (List.getElem_mem hi)
  simp only[bV] at this
  omega
 have hst:∀i,i<p.ao.length→∀k,k<(p.ao.getD i c0).steps.length→ah Tryz.prog 166 [.c (.rp 5 (bP ((p.ao.getD i c0).steps.getD k NW)))] [] (.a 5 (aW ((p.ao.getD i c0).steps.getD k NW))):=fun i hi k hk=>yd _ (by
  rw[getD_eq hk]
  have:=cS bJ (List.getElem_mem hk)
  have:=hcb i hi
  omega)
 refine cX Tryz.func134 (h:= ?_)
 repeat'((conv=>whnf);first
  |refine aq.mk ?_ ?_|(guard_target=~ aK 3 _ _ _ _ _ _;refine sM (Nat × List (List CV)) [0,2,3] (fun⟨i,rows⟩=>[(4,I (i:Nat))]) (fun⟨i,rows⟩=>[(4, .cells [.c (J p.sig.au), .c (J p.sig.ai), .lw 2]),(2, .aG none 104 9 rows)]) (fun⟨i,rows⟩=>i≤p.ao.length∧rows=(p.ao.take i).map eO) (fun⟨i,rows⟩=>p.ao.length-i) (0,[]) (by exact⟨Nat.zero_le _,rfl⟩) (fun A ha=> ?_);obtain⟨i,rows⟩:=A;have ha:i≤p.ao.length∧rows=(p.ao.take i).map eO:=ha;have hrl:rows.length=i:=iF ha.1 ha.2;have hA:=ha;have hcbi:=hcb i)|(guard_target=~ aK 8 _ _ _ _ _ _;refine sM (Nat × List (List CV)) [0,2,3,4,5,6] (fun⟨k,R⟩=>[(7,I (k:Nat))]) (fun⟨k,R⟩=>[(13, .cells [.c (J (p.ao.getD i c0).left.kind), .c (J (p.ao.getD i c0).left.num), .lw 5, .c (J (p.ao.getD i c0).right.kind), .c (J (p.ao.getD i c0).right.num), .lw 6, .c (J (p.ao.getD i c0).kg), .c (J (p.ao.getD i c0).ref), .lw 9]),(9, .aG none 156 5 R)]) (fun⟨k,R⟩=>k≤(p.ao.getD i c0).steps.length∧R=((p.ao.getD i c0).steps.take k).map aW) (fun⟨k,R⟩=>(p.ao.getD i c0).steps.length-k) (0,[]) (by exact⟨Nat.zero_le _,rfl⟩) (fun A ha=> ?_);obtain⟨k,R⟩:=A;have ha:k≤(p.ao.getD i c0).steps.length∧R=((p.ao.getD i c0).steps.take k).map aW:=ha;have hRl:R.length=k:=iF ha.1 ha.2;have hcj:=hcbi (by omega);have hsl:=dB bJ (p.ao.getD i c0).steps)
  |refine nx ((k+1,R++[aW ((p.ao.getD i c0).steps.getD k NW)]):Nat × List (List CV)) (by exact⟨by show k+1≤_;omega,LV (by omega) ha.2⟩)
  |(apply Fact.mk;intro hL;try simp only[List.length_map,maxLen] at hL)
  |((first|apply bA|apply bB|apply bC|apply bD|apply bE|apply bF)<;>intro h<;>(try simp only[List.length_map] at h)<;>(try omega)<;>(try contradiction))|(guard_target=aa _ 137 _ _ _ _;refine cG [] rfl (pU (p.ao.getD i c0).left (hcbi (by omega)).1 ((aH (p.ao.getD i c0)).drop 3) 9 (by omega)) ?_)|(guard_target=aa _ 137 _ _ _ _;refine cG [] rfl (pU (p.ao.getD i c0).right (hcbi (by omega)).2.1 ((aH (p.ao.getD i c0)).drop 6) 6 (by omega)) ?_)|(guard_target=aa _ 166 _ _ _ _;refine cG [] rfl (hst i (by omega) k (by omega)) ?_)|(guard_target=Gh _ _ _ _ _;obtain rfl:R=(p.ao.getD i c0).steps.map aW:=gW (by omega) ha.2;refine Gh.go ⟨((i+1,rows++[eO (p.ao.getD i c0)]):Nat × List (List CV)),⟨by show i+1≤_;omega,LV (by omega) hA.2⟩,(by show p.ao.length-(i+1)<p.ao.length-i;omega),(by repeat' first|exact trivial|exact rfl|constructor),(by repeat' first|exact trivial|exact rfl|constructor),(by(repeat' first|exact trivial|exact rfl|refine⟨?_, ?_⟩|(simp only[List.map_append,List.map_cons,List.map_nil,List.map_set];first|done|rfl));done)⟩)
  |refine aR ?_|(guard_target=Index _ _ _;first|(refine Index.mk _ (aF (d:=c0) (i:=i) (by omega)) ?_)|(refine Index.mk _ (aF (d:=NW) (i:=k) (by omega)) ?_)|fail)
  |refine nB ?_|(guard_target=aV _ _;refine aV.mk (by first|((simp only[List.length_cons,List.length_nil,List.length_map,maxLen];constructor<;>omega))|fail) ?_)
  |refine nO ?_)
 all_goals first|rfl|trivial|(rw[gW (by omega) ha.2];first|done|rfl)
theorem oX(n:aM)(hb:bu n≤1048576):ah Tryz.prog 78 [.a 7 (bg n)] [] (.a 7 (dS n)):=by
 have h0:n.entry.bj.length≤1048576∧b7 n.entry.proof≤1048576:=by simp only[bu,nu] at hb;omega
 refine cX Tryz.func78 (h:= ?_)
 repeat'((conv=>whnf);first
  |refine aq.mk ?_ ?_|(guard_target=aa _ 112 _ _ _ _;refine cG [] rfl (B0 n.entry.bj h0.1) ?_)|(guard_target=aa _ 113 _ _ _ _;refine cG [] rfl (AV n.entry.proof h0.2) ?_)
  |refine nB ?_)
 all_goals first|rfl|trivial
theorem kf(n:aM)(hb:bu n≤1048576):ah Tryz.prog 108 [.c (.rp 7 (bg n))] [] (.a 7 (dS n)):=by
 have h0:n.entry.bj.length≤1048576∧b7 n.entry.proof≤1048576:=by simp only[bu,nu] at hb;omega
 refine cX Tryz.func108 (h:= ?_)
 repeat'((conv=>whnf);first
  |refine aq.mk ?_ ?_|(guard_target=aa _ 133 _ _ _ _;refine cG [] rfl (iS n.entry.bj h0.1) ?_)|(guard_target=aa _ 134 _ _ _ _;refine cG [] rfl (zP n.entry.proof h0.2) ?_)
  |refine nB ?_)
 all_goals first|rfl|trivial
end Go.Proofs.YtgbggaddpbghfaaGreat
namespace Go.Proofs.YtgbggaddpbghfaaGreat
open Go Go.KA Go.Proofs
set_option maxHeartbeats 16000000
set_option maxRecDepth 100000
abbrev bI(s:aO):List CV:=[.val (.bool s.up), .ows 51 7 (s.notes.map bg), .val (.int .i64 s.saved)]
abbrev cj(a:af):List CV:=[J a.sig.au,J a.sig.ai, .own 47 3 (a.ab.map bI), .ows 89 8 (a.aw.map aQ)]
theorem DS(l:List aM):cW (l.map bg)=l.map bg:=bQ (fun _=>rfl) l
theorem wv(l:List aO):cW (l.map bI)=l.map cE:=bQ (fun s=>by simp only[bI,nr,l5,DS];rfl) l
theorem J3(l:List cB):cW (l.map aQ)=l.map aQ:=bQ (fun _=>rfl) l
theorem EP(n:aM):dj (dS n) (bg n):=by
 rw[←wk]
 exact dj.nr _
theorem Im(s:aO):dj (ee s) (bI s):=by
 refine .same ?_
 have h:dj [.own 51 7 (s.notes.map dS),J s.saved] [.ows 51 7 (cW (s.notes.map dS)),J s.saved]:= .ows (.same .nil)
 rw[bQ wk] at h
 exact h
theorem wD(a:af):dj (du a) (cj a):=by
 refine .same (.same (.rows Im ?_))
 have h:dj [.own 89 8 (a.aw.map dG)] [.ows 89 8 (cW (a.aw.map dG))]:= .ows .nil
 rw[bQ oL] at h
 exact h
def mM(l:List Bool):Bool:=decide (2<(l.countP (fun b=>b):Nat))
theorem C5{α:Type}{p:α→Bool}{l:List α}{i:Nat}(h:i<l.length):(l.take (i+1)).countP p=(l.take i).countP p+(if p l[i]=true then 1 else 0):=by
 rw[List.take_succ_eq_append_getElem h,List.countP_append]
 simp[List.countP_cons]
theorem vT{α:Type}{p:α→Bool}{l:List α}{i:Nat}{c:Int}(h:i<l.length)(hp:p l[i]=true)(hc:c=((l.take i).countP p:Nat)):c+1=((l.take (i+1)).countP p:Nat):=by
 rw[C5 h,if_pos hp]
 omega
theorem A7{α:Type}{p:α→Bool}{l:List α}{i:Nat}{c:Int}(h:i<l.length)(hp:p l[i]=false)(hc:c=((l.take i).countP p:Nat)):c=((l.take (i+1)).countP p:Nat):=by
 rw[C5 h,if_neg (by rw[hp];decide)]
 omega
theorem Bw{α:Type}{p:α→Bool}{l:List α}{i:Nat}:(l.take i).countP p≤i:=Nat.le_trans List.countP_le_length (by rw[List.length_take];omega)
theorem EE(l:List Bool)(hl:l.length≤1048576):aD Tryz.prog 114 [.c (.ro 1 (l.map eB))] (B (mM l)):=by
 refine cF Tryz.func114 (h:= ?_)
 repeat'((conv=>whnf);first
  |(apply bh.mk;first|((have h9:=ha.2;rw[List.take_of_length_le (by omega)] at h9;unfold mM;rw[h9];exact congrArg B (decide_eq_decide.2 (by omega)));done)|skip)|(guard_target=~ aK 3 _ _ _ _ _ _;refine lp (Nat × Int) [6,7] (fun⟨i,c⟩=>[(3,I c),(8,I (i:Nat))]) (fun⟨i,c⟩=>i≤l.length∧c=((l.take i).countP (fun b=>b):Nat)) (fun⟨i,c⟩=>l.length-i) (0,0) (by exact⟨Nat.zero_le _,by simp⟩) (fun A ha=> ?_);obtain⟨i,c⟩:=A;have ha:i≤l.length∧c=((l.take i).countP (fun b=>b):Nat):=ha;have hc9:=ha.2;have hle9:=Bw (p:=fun b:Bool=>b) (l:=l) (i:=i))
  |refine nx ((i+1,c+1):Nat × Int) (by exact⟨by show i+1≤_;omega,vT (by omega) h ha.2⟩)
  |refine nx ((i+1,c):Nat × Int) (by exact⟨by show i+1≤_;omega,A7 (by omega) h ha.2⟩)
  |(apply Fact.mk;intro hL;try simp only[List.length_map,maxLen] at hL)
  |((first|apply bA|apply bB|apply bC|apply bD|apply bE|apply bF)<;>intro h<;>(try simp only[List.length_map] at h)<;>(try omega)<;>(try contradiction))
  |refine aR ?_|(guard_target=Index _ _ _;first|(refine Index.mk _ (bw (i:=i) (by omega)) ?_)|fail)
  |refine nO ?_)
theorem C4(l:List Bool)(hl:l.length≤1048576):aD Tryz.prog 146 [.c (.ro 1 (l.map eB))] (B (mM l)):=by
 refine cF Tryz.func146 (h:= ?_)
 repeat'((conv=>whnf);first
  |(apply bh.mk;first|((have h9:=ha.2;rw[List.take_of_length_le (by omega)] at h9;unfold mM;rw[h9];exact congrArg B (decide_eq_decide.2 (by omega)));done)|skip)|(guard_target=~ aK 3 _ _ _ _ _ _;refine lp (Int × Nat) [0] (fun⟨c,i⟩=>[(3,I c),(4,I (i:Nat))]) (fun⟨c,i⟩=>i≤l.length∧c=((l.take i).countP (fun b=>b):Nat)) (fun⟨c,i⟩=>l.length-i) (0,0) (by exact⟨Nat.zero_le _,by simp⟩) (fun A ha=> ?_);obtain⟨c,i⟩:=A;have ha:i≤l.length∧c=((l.take i).countP (fun b=>b):Nat):=ha;have hc9:=ha.2;have hle9:=Bw (p:=fun b:Bool=>b) (l:=l) (i:=i))
  |refine nx ((c+1,i+1):Int × Nat) (by exact⟨by show i+1≤_;omega,vT (by omega) h ha.2⟩)
  |refine nx ((c,i+1):Int × Nat) (by exact⟨by show i+1≤_;omega,A7 (by omega) h ha.2⟩)
  |(apply Fact.mk;intro hL;try simp only[List.length_map,maxLen] at hL)
  |((first|apply bA|apply bB|apply bC|apply bD|apply bE|apply bF)<;>intro h<;>(try simp only[List.length_map] at h)<;>(try omega)<;>(try contradiction))
  |refine aR ?_|(guard_target=Index _ _ _;first|(refine Index.mk _ (bw (i:=i) (by omega)) ?_)|fail)
  |refine nO ?_)
abbrev sA(a:af)(i:Int):aO:=a.ab.getD i.toNat db
abbrev iy(a:af)(i:Int)(s:aO):af:=⟨a.sig,a.ab.set i.toNat s,a.aw⟩
abbrev jB(s:aO)(n:aM):aO:=⟨s.up,s.notes++[n],s.saved⟩
def qT(n i:Int)(x:aM):Bool:= !x.bU&&decide (x.id.tmod n=i)
def jL(a:af)(i:Int):Int:=i+(a.ab.length:Int)*((sA a i).notes.countP (qT a.ab.length i):Nat)
def oe(a:af)(id:Int):Bool:=decide (0≤bz (iz a) false id)
def wY(a:af)(e:aS):aM:=⟨false,jL a e.a,⟨jL a e.a,e.bj,e.proof⟩⟩
def eJ(a:af)(e:aS):Int × af:=
 if(!(sA a e.a).up|| !(gG (sA a e.a).notes e.bj))=true then(4,a)
 else if mM e.mb=false then(8,a)
 else if(decide ((sA a e.a).notes.length=20)||(decide (100≤jL a e.a)||oe a (jL a e.a)))=true then(3,a)
 else(0,iy a e.a (jB (sA a e.a) (wY a e)))
def yr(e:aS):aM:=⟨true,e.b,⟨0,[],⟨⟨0,0⟩,[]⟩⟩⟩
def cD(a:af)(e:aS):Int × af:=
 if 100≤e.b then(2,a)
 else if(!(sA a e.a).up||decide (0≤bz (sA a e.a).notes true e.b))=true then(4,a)
 else if(sA a e.a).notes.length=20 then(3,a)
 else(0,iy a e.a (jB (sA a e.a) (yr e)))
def dv(a:af)(e:aS):Int × af:=
 if(!(bY a e.b)||(decide (e.a=e.b)||decide (((sA a e.a).notes.length:Int)≤e.c)))=true then(2,a)
 else if(!(sA a e.a).up||decide ((sA a e.a).saved≤e.c))=true then(4,a)
 else if a.aw.length=12 then(3,a)
 else(0,⟨a.sig,a.ab,a.aw++[⟨e.b,(sA a e.a).notes.getD e.c.toNat n0⟩]⟩)
abbrev eQ(a:af)(i:Int):cB:=a.aw.getD i.toNat jl
def jK(a:af)(p:cB):Bool:=(sA a p.ju).up&&(decide (bz (sA a p.ju).notes p.note.bU p.note.id<0)&&gG (sA a p.ju).notes p.note.entry.bj)
def bM(a:af)(i:Int):Int × af:=
 if(a.aw.length:Int)≤i then(2,a)
 else if jK a (eQ a i)=false then(0,a)
 else if(sA a (eQ a i).ju).notes.length=20 then(3,a)
 else(0,iy a (eQ a i).ju (jB (sA a (eQ a i).ju) (eQ a i).note))
def dP(a:af)(i:Int):Int × af:=
 if(a.aw.length:Int)≤i then(2,a) else(0,⟨a.sig,a.ab,a.aw.take i.toNat++a.aw.drop (i.toNat+1)⟩)
def dR(a:af)(i:Int):Int × af:=
 if(bM a i).1=0 then dP (bM a i).2 i else((bM a i).1,a)
def iw(a:af)(e:aS):Int × af:=
 if(sA a e.a).up=(decide (e.kind=9)) then(4,a)
 else if e.kind=7 then(0,iy a e.a ⟨(sA a e.a).up,(sA a e.a).notes,((sA a e.a).notes.length:Nat)⟩)
 else if e.kind=8 then(0,iy a e.a ⟨false,(sA a e.a).notes.take (sA a e.a).saved.toNat,(sA a e.a).saved⟩)
 else(0,iy a e.a ⟨true,(sA a e.a).notes,(sA a e.a).saved⟩)
def iB(a:af)(e:aS):Int × af:=
 if e.kind=4 then dR a e.a
 else if e.kind=5 then bM a e.a
 else if e.kind=6 then dP a e.a
 else if bY a e.a=false then(2,a)
 else if e.kind=1 then eJ a e
 else if e.kind=2 then cD a e
 else if e.kind=3 then dv a e
 else iw a e
end Go.Proofs.YtgbggaddpbghfaaGreat
namespace Go.Proofs.YtgbggaddpbghfaaGreat
open Go Go.KA Go.Proofs
set_option maxHeartbeats 16000000
set_option maxRecDepth 100000
structure CA(a:af):Prop where
 ns:a.ab.length≤1048576
 nf:a.aw.length≤1048576
 nn:∀i,i<a.ab.length→(a.ab.getD i db).notes.length≤1048576
 bn:∀i,i<a.ab.length→∀k,k<(a.ab.getD i db).notes.length→bu ((a.ab.getD i db).notes.getD k n0)≤1048576
 bp:∀i,i<a.aw.length→bu (a.aw.getD i jl).note≤1048576
theorem CA.of{a:af}(h:b8 a≤1048576):CA a:=by
 have hb:eK c7 a.ab≤1048576∧eK fO a.aw≤1048576:=by simp only[b8] at h;omega
 have h1:=dB c7 a.ab
 have h2:=dB fO a.aw
 have hs:∀i,i<a.ab.length→eK bu (a.ab.getD i db).notes≤1048576:=fun i hi=>by
  rw[getD_eq hi]
  have:=cS c7 (List.getElem_mem hi)
  simp only[c7] at this
  omega
 refine⟨by omega,by omega,fun i hi=> ?_,fun i hi k hk=> ?_,fun i hi=> ?_⟩
 ·have:=dB bu (a.ab.getD i db).notes
  have:=hs i hi
  omega
 ·rw[getD_eq hk]
  have:=cS bu (List.getElem_mem hk)
  have:=hs i hi
  omega
 ·rw[getD_eq hi]
  have:=cS fO (List.getElem_mem hi)
  simp only[fO] at this
  omega
theorem lF(a:af)(h:CA a):ah Tryz.prog 37 [.a 4 (az a)] [] (.a 4 (du a)):=by
 obtain⟨hs,hf,hnn,hbn,hbp⟩:=h
 refine cX Tryz.func37 (h:= ?_)
 repeat'((conv=>whnf);first
  |refine aq.mk ?_ ?_|(guard_target=~ aK 3 _ _ _ _ _ _;refine sM (Nat × List (List CV)) [1,2,3,15,16] (fun⟨i,rows⟩=>[(17,I (i:Nat))]) (fun⟨i,rows⟩=>[(8, .cells [.c (J a.sig.au), .c (J a.sig.ai), .lw 4, .lw 5]),(4, .aG none 47 3 rows)]) (fun⟨i,rows⟩=>i≤a.ab.length∧rows=(a.ab.take i).map ee) (fun⟨i,rows⟩=>a.ab.length-i) (0,[]) (by exact⟨Nat.zero_le _,rfl⟩) (fun A ha=> ?_);obtain⟨i,rows⟩:=A;have ha:i≤a.ab.length∧rows=(a.ab.take i).map ee:=ha;have hrl:rows.length=i:=iF ha.1 ha.2;have hA:=ha;have hni:=hnn i)|(guard_target=~ aK 7 _ _ _ _ _ _;refine sM (Nat × List (List CV)) [1,2,3,6,15,16,17,27,28] (fun⟨k,R⟩=>[(29,I (k:Nat))]) (fun⟨k,R⟩=>[(13, .cells [.c (.val (.bool (a.ab.getD i db).up)), .lw 11, .c (J (a.ab.getD i db).saved)]),(11, .aG none 51 7 R)]) (fun⟨k,R⟩=>k≤(a.ab.getD i db).notes.length∧R=((a.ab.getD i db).notes.take k).map dS) (fun⟨k,R⟩=>(a.ab.getD i db).notes.length-k) (0,[]) (by exact⟨Nat.zero_le _,rfl⟩) (fun A ha=> ?_);obtain⟨k,R⟩:=A;have ha:k≤(a.ab.getD i db).notes.length∧R=((a.ab.getD i db).notes.take k).map dS:=ha;have hRl:R.length=k:=iF ha.1 ha.2;have hnj:=hni (by omega))|(guard_target=~ aK 14 _ _ _ _ _ _;refine sM (Nat × List (List CV)) [2,3,49,50] (fun⟨j,S⟩=>[(51,I (j:Nat))]) (fun⟨j,S⟩=>[(8, .cells [.c (J a.sig.au), .c (J a.sig.ai), .lw 4, .lw 5]),(5, .aG none 89 8 S)]) (fun⟨j,S⟩=>j≤a.aw.length∧S=(a.aw.take j).map dG) (fun⟨j,S⟩=>a.aw.length-j) (0,[]) (by exact⟨Nat.zero_le _,rfl⟩) (fun A ha=> ?_);obtain⟨j,S⟩:=A;have ha:j≤a.aw.length∧S=(a.aw.take j).map dG:=ha;have hSl:S.length=j:=iF ha.1 ha.2;have hR9:=gW (by omega) hA.2)
  |refine nx ((k+1,R++[dS ((a.ab.getD i db).notes.getD k n0)]):Nat × List (List CV)) (by exact⟨by show k+1≤_;omega,LV (by omega) ha.2⟩)
  |refine nx ((j+1,S++[dG (a.aw.getD j jl)]):Nat × List (List CV)) (by exact⟨by show j+1≤_;omega,LV (by omega) ha.2⟩)
  |(apply Fact.mk;intro hL;try simp only[List.length_map,maxLen] at hL)
  |((first|apply bA|apply bB|apply bC|apply bD|apply bE|apply bF)<;>intro h<;>(try simp only[List.length_map] at h)<;>(try omega)<;>(try contradiction))|(guard_target=aa _ 78 _ _ _ _;refine cG [] rfl (oX ((a.ab.getD i db).notes.getD k n0) (hbn i (by omega) k (by omega))) ?_)|(guard_target=aa _ 78 _ _ _ _;refine cG [] rfl (oX (a.aw.getD j jl).note (hbp j (by omega))) ?_)|(guard_target=Gh _ _ _ _ _;obtain rfl:R=(a.ab.getD i db).notes.map dS:=gW (by omega) ha.2;refine Gh.go ⟨((i+1,rows++[ee (a.ab.getD i db)]):Nat × List (List CV)),⟨by show i+1≤_;omega,LV (by omega) hA.2⟩,(by show a.ab.length-(i+1)<a.ab.length-i;omega),(by repeat' first|exact trivial|exact rfl|constructor),(by repeat' first|exact trivial|exact rfl|constructor),(by(repeat' first|exact trivial|exact rfl|refine⟨?_, ?_⟩|(simp only[List.map_append,List.map_cons,List.map_nil,List.map_set];first|done|rfl));done)⟩)
  |refine aR ?_|(guard_target=Index _ _ _;first|(refine Index.mk _ (aF (d:=db) (i:=i) (by omega)) ?_)|(refine Index.mk _ (aF (d:=n0) (i:=k) (by omega)) ?_)|(refine Index.mk _ (aF (d:=jl) (i:=j) (by omega)) ?_)|fail)
  |refine nB ?_|(guard_target=aV _ _;refine aV.mk (by first|((simp only[List.length_cons,List.length_nil,List.length_map,maxLen];constructor<;>omega))|fail) ?_)
  |refine nO ?_)
 all_goals first|rfl|trivial|(rw[gW (by omega) ha.2,gW (by omega) hA.2];first|done|rfl)
theorem pZ(a:af)(h:CA a):ah Tryz.prog 68 [.c (.rp 4 (az a))] [] (.a 4 (du a)):=by
 obtain⟨hs,hf,hnn,hbn,hbp⟩:=h
 have hpk:∀j,j<a.aw.length→ah Tryz.prog 108 [.c (.rp 7 ((aQ (a.aw.getD j jl)).drop 1))] [] (.a 7 (dS (a.aw.getD j jl).note)):=fun j hj=>kf _ (hbp j hj)
 refine cX Tryz.func68 (h:= ?_)
 repeat'((conv=>whnf);first
  |refine aq.mk ?_ ?_|(guard_target=~ aK 3 _ _ _ _ _ _;refine sM (Nat × List (List CV)) [0,2,3] (fun⟨i,rows⟩=>[(4,I (i:Nat))]) (fun⟨i,rows⟩=>[(8, .cells [.c (J a.sig.au), .c (J a.sig.ai), .lw 4, .lw 3]),(4, .aG none 47 3 rows)]) (fun⟨i,rows⟩=>i≤a.ab.length∧rows=(a.ab.take i).map ee) (fun⟨i,rows⟩=>a.ab.length-i) (0,[]) (by exact⟨Nat.zero_le _,rfl⟩) (fun A ha=> ?_);obtain⟨i,rows⟩:=A;have ha:i≤a.ab.length∧rows=(a.ab.take i).map ee:=ha;have hrl:rows.length=i:=iF ha.1 ha.2;have hA:=ha;have hni:=hnn i)|(guard_target=~ aK 7 _ _ _ _ _ _;refine sM (Nat × List (List CV)) [0,2,3,4,5] (fun⟨k,R⟩=>[(6,I (k:Nat))]) (fun⟨k,R⟩=>[(12, .cells [.c (.val (.bool (a.ab.getD i db).up)), .lw 9, .c (J (a.ab.getD i db).saved)]),(9, .aG none 51 7 R)]) (fun⟨k,R⟩=>k≤(a.ab.getD i db).notes.length∧R=((a.ab.getD i db).notes.take k).map dS) (fun⟨k,R⟩=>(a.ab.getD i db).notes.length-k) (0,[]) (by exact⟨Nat.zero_le _,rfl⟩) (fun A ha=> ?_);obtain⟨k,R⟩:=A;have ha:k≤(a.ab.getD i db).notes.length∧R=((a.ab.getD i db).notes.take k).map dS:=ha;have hRl:R.length=k:=iF ha.1 ha.2;have hnj:=hni (by omega))|(guard_target=~ aK 12 _ _ _ _ _ _;refine sM (Nat × List (List CV)) [0,2,3] (fun⟨j,S⟩=>[(7,I (j:Nat))]) (fun⟨j,S⟩=>[(8, .cells [.c (J a.sig.au), .c (J a.sig.ai), .lw 4, .lw 3]),(3, .aG none 89 8 S)]) (fun⟨j,S⟩=>j≤a.aw.length∧S=(a.aw.take j).map dG) (fun⟨j,S⟩=>a.aw.length-j) (0,[]) (by exact⟨Nat.zero_le _,rfl⟩) (fun A ha=> ?_);obtain⟨j,S⟩:=A;have ha:j≤a.aw.length∧S=(a.aw.take j).map dG:=ha;have hSl:S.length=j:=iF ha.1 ha.2)
  |refine nx ((k+1,R++[dS ((a.ab.getD i db).notes.getD k n0)]):Nat × List (List CV)) (by exact⟨by show k+1≤_;omega,LV (by omega) ha.2⟩)
  |refine nx ((j+1,S++[dG (a.aw.getD j jl)]):Nat × List (List CV)) (by exact⟨by show j+1≤_;omega,LV (by omega) ha.2⟩)
  |(apply Fact.mk;intro hL;try simp only[List.length_map,maxLen] at hL)
  |((first|apply bA|apply bB|apply bC|apply bD|apply bE|apply bF)<;>intro h<;>(try simp only[List.length_map] at h)<;>(try omega)<;>(try contradiction))|(guard_target=aa _ 108 _ _ _ _;refine cG [] rfl (kf ((a.ab.getD i db).notes.getD k n0) (hbn i (by omega) k (by omega))) ?_)|(guard_target=aa _ 108 _ _ _ _;refine cG [] rfl (hpk j (by omega)) ?_)|(guard_target=Gh _ _ _ _ _;obtain rfl:R=(a.ab.getD i db).notes.map dS:=gW (by omega) ha.2;refine Gh.go ⟨((i+1,rows++[ee (a.ab.getD i db)]):Nat × List (List CV)),⟨by show i+1≤_;omega,LV (by omega) hA.2⟩,(by show a.ab.length-(i+1)<a.ab.length-i;omega),(by repeat' first|exact trivial|exact rfl|constructor),(by repeat' first|exact trivial|exact rfl|constructor),(by(repeat' first|exact trivial|exact rfl|refine⟨?_, ?_⟩|(simp only[List.map_append,List.map_cons,List.map_nil,List.map_set];first|done|rfl));done)⟩)
  |refine aR ?_|(guard_target=Index _ _ _;first|(refine Index.mk _ (aF (d:=db) (i:=i) (by omega)) ?_)|(refine Index.mk _ (aF (d:=n0) (i:=k) (by omega)) ?_)|(refine Index.mk _ (aF (d:=jl) (i:=j) (by omega)) ?_)|fail)
  |refine nB ?_|(guard_target=aV _ _;refine aV.mk (by first|((simp only[List.length_cons,List.length_nil,List.length_map,maxLen];constructor<;>omega))|fail) ?_)
  |refine nO ?_)
 all_goals first|rfl|trivial|(rw[gW (by omega) ha.2,gW (by omega) hA.2];first|done|rfl)
theorem mL(n:aM)(hb:bu n≤1048576):ah Tryz.prog 78 [.a 7 (bg n)] [] (.a 7 (bg n)):=(oX n hb).soft (.v (.a (EP n)))
theorem jU(a:af)(h:CA a):ah Tryz.prog 37 [.a 4 (az a)] [] (.a 4 (cj a)):=(lF a h).soft (.v (.a (wD a)))
theorem CN(a:af)(h:CA a):ah Tryz.prog 68 [.c (.rp 4 (az a))] [] (.a 4 (cj a)):=(pZ a h).soft (.v (.a (wD a)))
end Go.Proofs.YtgbggaddpbghfaaGreat
namespace Go.Proofs.YtgbggaddpbghfaaGreat
open Go Go.KA Go.Proofs
set_option maxHeartbeats 16000000
set_option maxRecDepth 100000
structure WA(a:af):Prop where
 n5:1≤a.ab.length∧a.ab.length≤5
 f12:a.aw.length≤12
 sv:∀i,i<a.ab.length→(a.ab.getD i db).notes.length≤20∧0≤(a.ab.getD i db).saved∧(a.ab.getD i db).saved≤((a.ab.getD i db).notes.length:Int)
 bn:∀i,i<a.ab.length→∀n∈(a.ab.getD i db).notes,bu n≤1048576
 pk:∀i,i<a.aw.length→0≤(a.aw.getD i jl).ju∧(a.aw.getD i jl).ju<(a.ab.length:Int)∧bu (a.aw.getD i jl).note≤1048576
structure EA(e:aS):Prop where
 ra:0≤e.a∧e.a≤999
 rb:0≤e.b∧e.b≤999
 rc:0≤e.c∧e.c≤999
 bl:e.bj.length+b7 e.proof+e.mb.length≤1048576
theorem mY{l:List aO}{i:Nat}{x y:List CV}(hi:i<l.length)(hy:y=bI (l.getD i db)):((l.map bI).set i x).set i y=l.map bI:=by
 rw[List.set_set,hy,getD_eq hi,←List.map_set,List.set_getElem_self]
theorem nX{l:List aO}{i:Nat}{x y:List CV}{s:aO}(hy:y=bI s):((l.map bI).set i x).set i y=(l.set i s).map bI:=by
 rw[List.set_set,hy,List.map_set]
theorem gn{l:List aO}{i:Nat}{y:List CV}{s:aO}(hy:y=bI s):(l.map bI).set i y=(l.set i s).map bI:=by
 rw[hy,List.map_set]
theorem q7:∀l:List (List CV),iq l l
 |[]=> .nil
 |r::rs=> .cons (fS.refl r) (q7 rs)
theorem pY{x y:List CV}(h:fS x y):∀{l:List (List CV)} {i:Nat},iq (l.set i x) (l.set i y)
 |[],_=> .nil
 |r::rs,0=> .cons h (q7 rs)
 |r::rs,i+1=> .cons (fS.refl r) (pY h)
theorem jQ{l:List aO}{i:Nat}{x y:List CV}(hi:i<l.length)(hy:y=bI (l.getD i db)):iq (((l.map bI).set i x).set i y) (l.map bI):=by
 rw[mY hi hy]
 exact q7 _
theorem uu{l:List aM}{r:List CV}{n:aM}(h:nr r=bg n):cW (l.map bg++[r])=(l++[n]).map bg:=by
 have h1:=DS l
 rw[dO] at h1⊢
 rw[List.map_append,h1,List.map_append]
 refine congrArg _ ?_
 show[r.map l5]=[bg n]
 rw[←h,qm]
abbrev FA(a:af)(R:List (List CV)):Option (List CV):=some [CV.op [J a.sig.au,J a.sig.ai,CV.own 47 3 R,CV.ows 89 8 (a.aw.map aQ)]]
section
variable{a:af}{e:aS}
theorem NZ(h1:e.b≥100):cD a e=(2,a):=if_pos h1
theorem Jw(h1:¬e.b≥100)(h2:(sA a e.a).up=false):cD a e=(4,a):=by
 unfold cD
 rw[if_neg (by omega),if_pos (by rw[h2];rfl)]
theorem Li(h1:¬e.b≥100)(h2:(sA a e.a).up=true)(h3:bz (sA a e.a).notes true e.b≥0):cD a e=(4,a):=by
 unfold cD
 rw[if_neg (by omega),if_pos (by rw[h2,decide_eq_true h3];rfl)]
theorem NP(h1:¬e.b≥100)(h2:(sA a e.a).up=true)(h3:¬bz (sA a e.a).notes true e.b≥0)(h4:((sA a e.a).notes.length:Int)=20):cD a e=(3,a):=by
 unfold cD
 rw[if_neg (by omega),if_neg (by rw[h2,decide_eq_false h3];decide),if_pos (by omega)]
theorem NJ(h1:¬e.b≥100)(h2:(sA a e.a).up=true)(h3:¬bz (sA a e.a).notes true e.b≥0)(h4:¬((sA a e.a).notes.length:Int)=20):cD a e=(0,iy a e.a (jB (sA a e.a) (yr e))):=by
 unfold cD
 rw[if_neg (by omega),if_neg (by rw[h2,decide_eq_false h3];decide),if_neg (by omega)]
end
theorem Hq(a:af)(e:aS)(hw:WA a)(he:EA e)(hp:e.a<(a.ab.length:Int)):ah Tryz.prog 83 [.c (.op (cj a)), .a 9 (aT e)] [some [.op (cj (cD a e).2)],none] (I (cD a e).1):=by
 have hpl:e.a.toNat<a.ab.length:=by have:=he.ra;omega
 have hra:=he.ra
 have h20:=(hw.sv _ hpl).1
 refine Jb Tryz.func83 (fun reg_=>match reg_ with|4=>true|_=>false) (h:= ?_)
 repeat'((conv=>whnf);first
  |(guard_target=~ aq (I 2=_) _;have hd:cD a e=(2,a):=NZ (by assumption);rw[hd];exact aq.mk rfl ⟨rfl,trivial⟩)
  |((first|apply bA|apply bB|apply bC|apply bD|apply bE|apply bF)<;>intro h<;>(try simp only[List.length_map] at h)<;>(try omega)<;>(try contradiction))|(guard_target=Gh _ _ _ _ _;refine Gh.go ?_)
  |refine nB ?_|(guard_target=aV _ _;refine aV.mk (by first|((simp only[List.length_map];omega))|fail) ?_))
 all_goals(conv=>whnf)
 all_goals try refine iV.opens 0 e.a.toNat 1 rfl (aF (d:=db) hpl) rfl fun v=>iV.go ?_
 repeat'((conv=>whnf);first
  |(guard_target=~ aq (I 4=_) _;have hd:cD a e=(4,a):=(by first|exact Jw (by assumption) (by assumption)|exact Li (by assumption) (by assumption) (by assumption));rw[hd];exact aq.mk rfl ⟨congrArg (FA a) (mY hpl rfl),trivial⟩)|(guard_target=~ aq (I 3=_) _;have hd:cD a e=(3,a):=NP (by assumption) (by assumption) (by assumption) (by assumption);rw[hd];exact aq.mk rfl ⟨congrArg (FA a) (mY hpl rfl),trivial⟩)|(guard_target=~ aq (I 0=_) _;have hd:cD a e=(0,iy a e.a (jB (sA a e.a) (yr e))):=NJ (by assumption) (by assumption) (by assumption) (by assumption);rw[hd];exact aq.mk rfl ⟨congrArg (FA a) (nX (s:=jB (sA a e.a) (yr e)) (congrArg (fun R=>[CV.val (.bool (sA a e.a).up),CV.ows 51 7 R,J (sA a e.a).saved]) (uu rfl))),trivial⟩)
  |(apply Fact.mk;intro hL;try simp only[List.length_map,maxLen] at hL)
  |((first|apply bA|apply bB|apply bC|apply bD|apply bE|apply bF)<;>intro h<;>(try simp only[List.length_map] at h)<;>(try omega)<;>(try contradiction))|(guard_target=aa _ 59 _ _ _ _;refine cP rfl (se (a.ab.getD e.a.toNat db).notes true e.b) ?_)|(guard_target=Gh _ _ _ _ _;refine Gh.iO 0 e.a.toNat 1 4 rfl (cy (by rw[List.length_map];exact hpl)) rfl rfl rfl (Gh.go ?_))|(guard_target=Gh _ _ _ _ _;refine Gh.soft 0 (gH.aG (pY (i:=e.a.toNat) (.same (.ows (.same .nil))))) (Gh.go ?_))|(guard_target=Index _ _ _;first|(refine Index.mk _ (cy (by rw[List.length_map];exact hpl)) ?_)|fail)
  |refine nB ?_|(guard_target=bH _ _ _;first|refine bH.row 4 rfl ?_|refine bH.aG 4 rfl ?_)|(guard_target=aV _ _;refine aV.mk (by first|((simp only[List.length_set,List.length_map];omega))|((simp only[List.length_cons,List.length_nil,List.length_map,maxLen];constructor<;>omega))|fail) ?_))
 all_goals(try(conv=>whnf))
end Go.Proofs.YtgbggaddpbghfaaGreat
namespace Go.Proofs.YtgbggaddpbghfaaGreat
open Go Go.KA Go.Proofs
set_option maxHeartbeats 16000000
set_option maxRecDepth 100000
abbrev y6(a:af):List CV:=[J a.sig.au,J a.sig.ai, .ro 3 (cW (a.ab.map bI)), .ro 8 (a.aw.map aQ)]
theorem pc(a:af):y6 a=az a:=by
 unfold y6
 rw[wv]
 rfl
theorem iR(a:af)(s:Int):aD Tryz.prog 104 [.c (.rp 4 (y6 a)),I s] (B (bY a s)):=by
 rw[pc]
 exact K0 a s
theorem jq(a:af)(s:Int):aD Tryz.prog 81 [.a 4 (y6 a),I s] (B (bY a s)):=by
 rw[pc]
 exact FE a s
theorem Lo{a:af}(hw:WA a):∀i,i≤a.ab.length→((a.ab.take i).flatMap aO.notes).length≤20*i
 |0,_=>by simp
 |i+1,hi=>by
  have h:=Lo hw i (by omega)
  have h1:=(hw.sv i (by omega)).1
  rw[List.take_succ_eq_append_getElem (by omega),List.flatMap_append,List.length_append]
  rw[getD_eq (by omega)] at h1
  simp only[List.flatMap_cons,List.flatMap_nil,List.append_nil]
  omega
theorem yj(a:af)(hw:WA a):ah Tryz.prog 48 [.m [.c (J a.sig.au), .c (J a.sig.ai), .c (.own 47 3 (a.ab.map bI)), .c (.ows 89 8 (a.aw.map aQ))]] [some (cj a)] (.c (.ows 51 7 ((iz a).map bg))):=by
 have h5:=hw.n5
 have hf:=hw.f12
 have hfl:=Lo hw
 have hsv:=hw.sv
 refine cX Tryz.func48 (h:= ?_)
 repeat'((conv=>whnf);first
  |refine aq.mk ?_ ?_|(guard_target=~ aK 3 _ _ _ _ _ _;refine sM (Nat × List aM) [1,10,11] (fun⟨i,R⟩=>[(3, .lw 4),(12,I (i:Nat))]) (fun⟨i,R⟩=>[(4, .row none 51 7 (R.map bg))]) (fun⟨i,R⟩=>i≤a.ab.length∧R=(a.ab.take i).flatMap aO.notes) (fun⟨i,R⟩=>a.ab.length-i) (0,[]) (by exact⟨Nat.zero_le _,rfl⟩) (fun A ha=> ?_);obtain⟨i,R⟩:=A;have ha:i≤a.ab.length∧R=(a.ab.take i).flatMap aO.notes:=ha;have hR2:=ha.2;have hRl:=hfl i ha.1;rw[←ha.2] at hRl;have hsi:=hsv i)|(guard_target=~ aK 8 _ _ _ _ _ _;refine sM (Nat × List aM) [22,23] (fun⟨k,S⟩=>[(3, .lw 4),(24,I (k:Nat))]) (fun⟨k,S⟩=>[(4, .row none 51 7 (S.map bg))]) (fun⟨k,S⟩=>k≤a.aw.length∧S=R++(a.aw.take k).map cB.note) (fun⟨k,S⟩=>a.aw.length-k) (0,R) (by exact⟨Nat.zero_le _,by simp⟩) (fun A ha=> ?_);obtain⟨k,S⟩:=A;have ha:k≤a.aw.length∧S=R++(a.aw.take k).map cB.note:=ha;have hSl:=congrArg List.length ha.2;simp only[List.length_append,List.length_map,List.length_take] at hSl)
  |refine nx ((k+1,S++[(a.aw.getD k jl).note]):Nat × List aM) (by(have hk:k<a.aw.length:=(by omega);refine⟨hk, ?_⟩;show S++_=_;rw[iG hk,ha.2,List.append_assoc,getD_eq hk]))
  |(apply Fact.mk;intro hL;try simp only[List.length_map,maxLen] at hL)
  |((first|apply bA|apply bB|apply bC|apply bD|apply bE|apply bF)<;>intro h<;>(try simp only[List.length_map] at h)<;>(try omega)<;>(try contradiction))|(guard_target= ∀_:Value,_;intro v)|(guard_target=Gh _ _ _ _ _;refine Gh.iO 0 i 1 5 rfl (cy (by rw[List.length_map];omega)) rfl rfl rfl (Gh.go ⟨((i+1,R++(a.ab.getD i db).notes):Nat × List aM),(by(have hi:i<a.ab.length:=(by omega);refine⟨hi, ?_⟩;show R++_=_;rw[tX hi,ha.2,getD_eq hi])),(by show a.ab.length-(i+1)<a.ab.length-i;omega),(by repeat' first|exact trivial|exact rfl|constructor),(by repeat' first|exact trivial|exact rfl|constructor),(by(repeat' first|exact trivial|exact rfl|exact congrArg (dE.aG none 47 3) (mY (by omega) rfl)|refine⟨?_, ?_⟩|(simp only[List.map_append];first|done|rfl));done)⟩))
  |refine aR ?_|(guard_target=Index _ _ _;first|(refine Index.mk _ (aF (d:=db) (i:=i) (by omega)) ?_)|(refine Index.mk _ (aF (d:=jl) (i:=k) (by omega)) ?_)|fail)|(guard_target=aV _ _;refine aV.mk (by first|((simp only[List.length_map,List.length_cons,List.length_nil,maxLen];first|(constructor<;>omega)|(have hsj:=hsi (by omega);constructor<;>omega)))|fail) ?_))
 all_goals(try(conv=>whnf))
 all_goals first|exact⟨rfl,trivial⟩|(have h9:=ha.2;rw[List.take_of_length_le (by omega)] at h9;rw[hR2,List.take_of_length_le (by omega)] at h9;rw[h9];rfl)
theorem IB{a:af}{id:Int}:oe a id=(a.ab.any (fun s=>decide (bz s.notes false id≥0))||a.aw.any (fun p=>gY false id p.note)):=by
 refine Bool.eq_iff_iff.2 ?_
 unfold oe
 rw[decide_eq_true_iff,Bool.or_eq_true,List.any_eq_true,List.any_eq_true]
 unfold bz
 rw[ob]
 unfold iz
 constructor
 ·rintro⟨y,hy,hp⟩
  rcases List.mem_append.1 hy with h|h
  ·obtain⟨s,hs,hn⟩:=List.mem_flatMap.1 h
   exact .inl ⟨s,hs,decide_eq_true (ob.2 ⟨y,hn,hp⟩)⟩
  ·obtain⟨p,hp',rfl⟩:=List.mem_map.1 h
   exact .inr ⟨p,hp',hp⟩
 ·rintro(⟨s,hs,h⟩|⟨p,hp,h⟩)
  ·obtain⟨y,hy,hq⟩:=ob.1 (of_decide_eq_true h)
   exact⟨y,List.mem_append.2 (.inl (List.mem_flatMap.2 ⟨s,hs,hy⟩)),hq⟩
  ·exact⟨p.note,List.mem_append.2 (.inr (List.mem_map.2 ⟨p,hp,rfl⟩)),h⟩
theorem yB{α:Type}{p:α→Bool}{l:List α}{i:Nat}(hi:i<l.length)(h:p l[i]=true):l.any p=true:=List.any_eq_true.2 ⟨_,List.getElem_mem hi,h⟩
theorem Cr{α:Type}{p:α→Bool}{l:List α}{i:Nat}(hi:l.length≤i)(h:(l.take i).all (fun y=> !(p y))=true):l.any p=false:=by
 rw[List.take_of_length_le hi] at h
 cases hb:l.any p with
 |false=>rfl
 |true=>
  obtain⟨y,hy,hp⟩:=List.any_eq_true.1 hb
  have:=List.all_eq_true.1 h y hy
  rw[hp] at this
  cases this
theorem CI(a:af)(id:Int)(h5:a.ab.length≤1048576)(hf:a.aw.length≤1048576):aD Tryz.prog 147 [.c (.rp 4 (az a)),I id] (B (oe a id)):=by
 rw[IB]
 refine cF Tryz.func147 (h:= ?_)
 repeat'((conv=>whnf);first
  |(apply bh.mk;first|((refine fF ?_;rw[yB (p:=fun s:aO=>decide (bz s.notes false id≥0)) (i:=i) (by omega) (by rw[←getD_eq (d:=db) (by omega)];exact decide_eq_true h)];rfl);done)|((refine fF ?_;rw[yB (p:=fun p:cB=>gY false id p.note) (i:=k) (by omega) (by rw[←getD_eq (d:=jl) (by omega)];simp_all[gY]),Bool.or_true]);done)|((refine dV ?_;rw[Cr (by omega) hA.2,Cr (by omega) ha.2];rfl);done)|skip)|(guard_target=~ aK 2 _ _ _ _ _ _;refine lp (Nat) [0,1] (fun i=>[(5,I (i:Nat))]) (fun i=>i≤a.ab.length∧(a.ab.take i).all (fun s=> !(decide (bz s.notes false id≥0)))=true) (fun i=>a.ab.length-i) 0 (by exact⟨Nat.zero_le _,rfl⟩) (fun i ha=> ?_);have hA:=ha)|(guard_target=~ aK 7 _ _ _ _ _ _;refine lp (Nat) [0,1] (fun k=>[(6,I (k:Nat))]) (fun k=>k≤a.aw.length∧(a.aw.take k).all (fun p=> !(gY false id p.note))=true) (fun k=>a.aw.length-k) 0 (by exact⟨Nat.zero_le _,rfl⟩) (fun k ha=> ?_))
  |refine nx (i+1:Nat) (by exact eZ (by omega) ha (by rw[←getD_eq (d:=db) (by omega)];exact F7 (decide_eq_false h)))
  |refine nx (k+1:Nat) (by exact eZ (by omega) ha (by rw[←getD_eq (d:=jl) (by omega)];refine F7 ?_;simp_all[gY]))
  |(apply Fact.mk;intro hL;try simp only[List.length_map,maxLen] at hL)
  |((first|apply bA|apply bB|apply bC|apply bD|apply bE|apply bF)<;>intro h<;>(try simp only[List.length_map] at h)<;>(try omega)<;>(try contradiction))|(guard_target=aa _ 60 _ _ _ _;refine cP rfl (gQ (a.ab.getD i db).notes false id) ?_)
  |refine aR ?_|(guard_target=Index _ _ _;first|(refine Index.mk _ (aF (d:=db) (i:=i) (by omega)) ?_)|(refine Index.mk _ (aF (d:=jl) (i:=k) (by omega)) ?_)|fail)
  |refine nO ?_)
theorem x9(a:af)(hw:WA a)(id:Int):aD Tryz.prog 147 [.c (.rp 4 (y6 a)),I id] (B (oe a id)):=by
 rw[pc]
 exact CI a id (by have:=hw.n5;omega) (by have:=hw.f12;omega)
end Go.Proofs.YtgbggaddpbghfaaGreat
