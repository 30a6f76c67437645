/- Contracts of the copies of claims, proofs, notes and archives: they own their memory. No conditions but the number of the parts. -/
import Derived.Test.YtgbggaddpbghfaaGreatKAD
namespace Go.Proofs.YtgbggaddpbghfaaGreat
open Go Go.KA Go.Proofs
set_option maxHeartbeats 16000000
set_option maxRecDepth 100000
theorem Lg{α:Type}{f:α→List CV}{d:α}{l:List α}{i:Nat}{rows:List (List CV)}(hi:i<l.length)(h:rows=(l.take i).map f):rows++[f (l.getD i d)]=(l.take (i+1)).map f:=by
 rw[iz hi,h,getD_eq hi]
theorem iE{α:Type}{f:α→List CV}{l:List α}{i:Nat}{rows:List (List CV)}(hi:i≤l.length)(h:rows=(l.take i).map f):rows.length=i:=by
 rw[h,List.length_map,List.length_take]
 omega
theorem gP{α:Type}{f:α→List CV}{l:List α}{i:Nat}{rows:List (List CV)}(hi:¬i<l.length)(h:rows=(l.take i).map f):rows=l.map f:=by
 rw[h,List.take_of_length_le (by omega)]
abbrev Nb:aB:=⟨0,false,[],[],[]⟩
theorem z7(c:bw)(hb:bY c≤1048576):ai Tryz.prog 143 [.a 9 (aH c)] [] (.a 9 (eF c)):=by
 have h0:ao c.left≤1048576∧ao c.right≤1048576∧fm bO c.steps≤1048576:=by simp only[bY] at hb;omega
 have hn:=eg bO c.steps
 have hc:∀i,i<c.steps.length→ai Tryz.prog 173 [.a 5 (bU (c.steps.getD i Nb))] [] (.a 5 (aY (c.steps.getD i Nb))):=fun i hi=>CE _ (by rw[getD_eq hi];have:=cY bO (List.getElem_mem hi);omega)
 refine cX Tryz.func143 (h:= ?_)
 repeat'((conv=>whnf);first
  |refine ah.mk ?_ ?_|(guard_target=~ aP 3 _ _ _ _ _ _;refine tJ (Nat × List (List CV)) [2,3,18,19] (fun⟨i,rows⟩=>[(20,I (i:Nat))]) (fun⟨i,rows⟩=>[(13, .cells [.c (J c.left.kind), .c (J c.left.num), .lw 5, .c (J c.right.kind), .c (J c.right.num), .lw 6, .c (J c.j9), .c (J c.ref), .lw 9]),(9, .aG none 156 5 rows)]) (fun⟨i,rows⟩=>i≤c.steps.length∧rows=(c.steps.take i).map aY) (fun⟨i,rows⟩=>c.steps.length-i) (0,[]) (by exact⟨Nat.zero_le _,rfl⟩) (fun A ha=> ?_);obtain⟨i,rows⟩:=A;have ha:i≤c.steps.length∧rows=(c.steps.take i).map aY:=ha;have hrl:rows.length=i:=iE ha.1 ha.2)
  |refine nx ((i+1,rows++[aY (c.steps.getD i Nb)]):Nat × List (List CV)) (by exact⟨by show i+1≤_;omega,Lg (by omega) ha.2⟩)
  |(apply Fact.mk;intro hL;try simp only[List.length_map,maxLen] at hL)
  |((first|apply bA|apply bB|apply bC|apply bD|apply bE|apply bF)<;>intro h<;>(try simp only[List.length_map] at h)<;>(try omega)<;>(try contradiction))|(guard_target=aa _ 65 _ _ _ _;refine cG [] rfl (qf c.left h0.1) ?_)|(guard_target=aa _ 65 _ _ _ _;refine cG [] rfl (qf c.right h0.2.1) ?_)|(guard_target=aa _ 173 _ _ _ _;refine cG [] rfl (hc i (by omega)) ?_)
  |refine aR ?_|(guard_target=Index _ _ _;first|refine Index.mk _ (aF (d:=Nb) (i:=i) (by omega)) ?_)
  |refine iX (k:= ?_)
  |refine nB ?_
  |apply ay.no
  |apply cj.go|(guard_target=aQ _ _;refine aQ.mk (by first|((simp only[List.length_cons,List.length_nil,List.length_map,maxLen];constructor<;>omega))|fail) ?_)
  |refine nO ?_)
 all_goals first|rfl|trivial|(rw[gP (by omega) ha.2];first|done|rfl)
theorem Aw(p:cE)(hb:cC p≤1048576):ai Tryz.prog 113 [.a 3 (cL p)] [] (.a 3 (ph p)):=by
 have h0:fm bY p.aj≤1048576:=by simp only[cC] at hb;omega
 have hn:=eg bY p.aj
 have hc:∀i,i<p.aj.length→ai Tryz.prog 143 [.a 9 (aH (p.aj.getD i c0))] [] (.a 9 (eF (p.aj.getD i c0))):=fun i hi=>z7 _ (by rw[getD_eq hi];have:=cY bY (List.getElem_mem hi);omega)
 refine cX Tryz.func113 (h:= ?_)
 repeat'((conv=>whnf);first
  |refine ah.mk ?_ ?_|(guard_target=~ aP 3 _ _ _ _ _ _;refine tJ (Nat × List (List CV)) [2,3,10,11] (fun⟨i,rows⟩=>[(12,I (i:Nat))]) (fun⟨i,rows⟩=>[(5, .cells [.c (J p.sig.au), .c (J p.sig.aq), .lw 3]),(3, .aG none 104 9 rows)]) (fun⟨i,rows⟩=>i≤p.aj.length∧rows=(p.aj.take i).map eF) (fun⟨i,rows⟩=>p.aj.length-i) (0,[]) (by exact⟨Nat.zero_le _,rfl⟩) (fun A ha=> ?_);obtain⟨i,rows⟩:=A;have ha:i≤p.aj.length∧rows=(p.aj.take i).map eF:=ha;have hrl:rows.length=i:=iE ha.1 ha.2)
  |refine nx ((i+1,rows++[eF (p.aj.getD i c0)]):Nat × List (List CV)) (by exact⟨by show i+1≤_;omega,Lg (by omega) ha.2⟩)
  |(apply Fact.mk;intro hL;try simp only[List.length_map,maxLen] at hL)
  |((first|apply bA|apply bB|apply bC|apply bD|apply bE|apply bF)<;>intro h<;>(try simp only[List.length_map] at h)<;>(try omega)<;>(try contradiction))|(guard_target=aa _ 143 _ _ _ _;refine cG [] rfl (hc i (by omega)) ?_)
  |refine aR ?_|(guard_target=Index _ _ _;first|refine Index.mk _ (aF (d:=c0) (i:=i) (by omega)) ?_)
  |refine iX (k:= ?_)
  |refine nB ?_
  |apply ay.no
  |apply cj.go|(guard_target=aQ _ _;refine aQ.mk (by first|((simp only[List.length_cons,List.length_nil,List.length_map,maxLen];constructor<;>omega))|fail) ?_)
  |refine nO ?_)
 all_goals first|rfl|trivial|(rw[gP (by omega) ha.2];first|done|rfl)
theorem yS(p:cE)(hb:cC p≤1048576):ai Tryz.prog 134 [.c (.rp 3 (cL p))] [] (.a 3 (ph p)):=by
 have h0:fm bY p.aj≤1048576:=by simp only[cC] at hb;omega
 have hn:=eg bY p.aj
 have hcb:∀i,i<p.aj.length→ao (p.aj.getD i c0).left≤1048576∧ao (p.aj.getD i c0).right≤1048576∧fm bO (p.aj.getD i c0).steps≤1048576:=fun i hi=>by
  rw[getD_eq hi]
  have:=cY bY (List.getElem_mem hi)
  simp only[bY] at this
  omega
 have hst:∀i,i<p.aj.length→∀k,k<(p.aj.getD i c0).steps.length→ai Tryz.prog 166 [.c (.rp 5 (bU ((p.aj.getD i c0).steps.getD k Nb)))] [] (.a 5 (aY ((p.aj.getD i c0).steps.getD k Nb))):=fun i hi k hk=>xY _ (by
  rw[getD_eq hk]
  have:=cY bO (List.getElem_mem hk)
  have:=hcb i hi
  omega)
 refine cX Tryz.func134 (h:= ?_)
 repeat'((conv=>whnf);first
  |refine ah.mk ?_ ?_|(guard_target=~ aP 3 _ _ _ _ _ _;refine tJ (Nat × List (List CV)) [0,2,3] (fun⟨i,rows⟩=>[(4,I (i:Nat))]) (fun⟨i,rows⟩=>[(4, .cells [.c (J p.sig.au), .c (J p.sig.aq), .lw 2]),(2, .aG none 104 9 rows)]) (fun⟨i,rows⟩=>i≤p.aj.length∧rows=(p.aj.take i).map eF) (fun⟨i,rows⟩=>p.aj.length-i) (0,[]) (by exact⟨Nat.zero_le _,rfl⟩) (fun A ha=> ?_);obtain⟨i,rows⟩:=A;have ha:i≤p.aj.length∧rows=(p.aj.take i).map eF:=ha;have hrl:rows.length=i:=iE ha.1 ha.2;have hA:=ha;have hcbi:=hcb i)|(guard_target=~ aP 8 _ _ _ _ _ _;refine tJ (Nat × List (List CV)) [0,2,3,4,5,6] (fun⟨k,R⟩=>[(7,I (k:Nat))]) (fun⟨k,R⟩=>[(13, .cells [.c (J (p.aj.getD i c0).left.kind), .c (J (p.aj.getD i c0).left.num), .lw 5, .c (J (p.aj.getD i c0).right.kind), .c (J (p.aj.getD i c0).right.num), .lw 6, .c (J (p.aj.getD i c0).j9), .c (J (p.aj.getD i c0).ref), .lw 9]),(9, .aG none 156 5 R)]) (fun⟨k,R⟩=>k≤(p.aj.getD i c0).steps.length∧R=((p.aj.getD i c0).steps.take k).map aY) (fun⟨k,R⟩=>(p.aj.getD i c0).steps.length-k) (0,[]) (by exact⟨Nat.zero_le _,rfl⟩) (fun A ha=> ?_);obtain⟨k,R⟩:=A;have ha:k≤(p.aj.getD i c0).steps.length∧R=((p.aj.getD i c0).steps.take k).map aY:=ha;have hRl:R.length=k:=iE ha.1 ha.2;have hcj:=hcbi (by omega);have hsl:=eg bO (p.aj.getD i c0).steps)
  |refine nx ((k+1,R++[aY ((p.aj.getD i c0).steps.getD k Nb)]):Nat × List (List CV)) (by exact⟨by show k+1≤_;omega,Lg (by omega) ha.2⟩)
  |(apply Fact.mk;intro hL;try simp only[List.length_map,maxLen] at hL)
  |((first|apply bA|apply bB|apply bC|apply bD|apply bE|apply bF)<;>intro h<;>(try simp only[List.length_map] at h)<;>(try omega)<;>(try contradiction))|(guard_target=aa _ 137 _ _ _ _;refine cG [] rfl (oB (p.aj.getD i c0).left (hcbi (by omega)).1 ((aH (p.aj.getD i c0)).drop 3) 9 (by omega)) ?_)|(guard_target=aa _ 137 _ _ _ _;refine cG [] rfl (oB (p.aj.getD i c0).right (hcbi (by omega)).2.1 ((aH (p.aj.getD i c0)).drop 6) 6 (by omega)) ?_)|(guard_target=aa _ 166 _ _ _ _;refine cG [] rfl (hst i (by omega) k (by omega)) ?_)|(guard_target=Gh _ _ _ _ _;obtain rfl:R=(p.aj.getD i c0).steps.map aY:=gP (by omega) ha.2;refine Gh.go ⟨((i+1,rows++[eF (p.aj.getD i c0)]):Nat × List (List CV)),⟨by show i+1≤_;omega,Lg (by omega) hA.2⟩,(by show p.aj.length-(i+1)<p.aj.length-i;omega),(by repeat' first|exact trivial|exact rfl|constructor),(by repeat' first|exact trivial|exact rfl|constructor),(by(repeat' first|exact trivial|exact rfl|refine⟨?_, ?_⟩|(simp only[List.map_append,List.map_cons,List.map_nil,List.map_set];first|done|rfl));done)⟩)
  |refine aR ?_|(guard_target=Index _ _ _;first|refine Index.mk _ (aF (d:=c0) (i:=i) (by omega)) ?_|refine Index.mk _ (aF (d:=Nb) (i:=k) (by omega)) ?_)
  |refine iX (k:= ?_)
  |refine nB ?_
  |apply ay.no
  |apply cj.go|(guard_target=aQ _ _;refine aQ.mk (by first|((simp only[List.length_cons,List.length_nil,List.length_map,maxLen];constructor<;>omega))|fail) ?_)
  |refine nO ?_)
 all_goals first|rfl|trivial|(rw[gP (by omega) ha.2];first|done|rfl)
theorem o9(n:aS)(hb:bG n≤1048576):ai Tryz.prog 78 [.a 7 (bj n)] [] (.a 7 (dP n)):=by
 have h0:n.entry.bu.length≤1048576∧cC n.entry.proof≤1048576:=by simp only[bG,nq] at hb;omega
 refine cX Tryz.func78 (h:= ?_)
 repeat'((conv=>whnf);first
  |refine ah.mk ?_ ?_|(guard_target=aa _ 112 _ _ _ _;refine cG [] rfl (Cq n.entry.bu h0.1) ?_)|(guard_target=aa _ 113 _ _ _ _;refine cG [] rfl (Aw n.entry.proof h0.2) ?_)
  |refine iX (k:= ?_)
  |refine nB ?_
  |apply cj.go
  |refine nO ?_)
 all_goals first|rfl|trivial
theorem jT(n:aS)(hb:bG n≤1048576):ai Tryz.prog 108 [.c (.rp 7 (bj n))] [] (.a 7 (dP n)):=by
 have h0:n.entry.bu.length≤1048576∧cC n.entry.proof≤1048576:=by simp only[bG,nq] at hb;omega
 refine cX Tryz.func108 (h:= ?_)
 repeat'((conv=>whnf);first
  |refine ah.mk ?_ ?_|(guard_target=aa _ 133 _ _ _ _;refine cG [] rfl (iT n.entry.bu h0.1) ?_)|(guard_target=aa _ 134 _ _ _ _;refine cG [] rfl (yS n.entry.proof h0.2) ?_)
  |refine iX (k:= ?_)
  |refine nB ?_
  |apply cj.go
  |refine nO ?_)
 all_goals first|rfl|trivial
end Go.Proofs.YtgbggaddpbghfaaGreat
namespace Go.Proofs.YtgbggaddpbghfaaGreat
open Go Go.KA Go.Proofs
set_option maxHeartbeats 16000000
set_option maxRecDepth 100000
abbrev bd(s:aT):List CV:=[.val (.bool s.up), .ows 51 7 (s.notes.map bj), .val (.int .i64 s.saved)]
abbrev cy(a:ag):List CV:=[J a.sig.au,J a.sig.aq, .own 47 3 (a.ab.map bd), .ows 89 8 (a.aw.map bh)]
theorem BO(l:List aS):db (l.map bj)=l.map bj:=ch (fun _=>rfl) l
theorem E8(l:List aT):db (l.map bd)=l.map dt:=ch (fun s=>by simp only[bd,mZ,kM,BO];rfl) l
theorem Je(l:List cJ):db (l.map bh)=l.map bh:=ch (fun _=>rfl) l
theorem E0(n:aS):dc (dP n) (bj n):=by
 rw[←wY]
 exact dc.mZ _
theorem Hp(s:aT):dc (eV s) (bd s):=by
 refine .same ?_
 have h:dc [.own 51 7 (s.notes.map dP),J s.saved] [.ows 51 7 (db (s.notes.map dP)),J s.saved]:= .ows (.same .nil)
 rw[ch wY] at h
 exact h
theorem vQ(a:ag):dc (fc a) (cy a):=by
 refine .same (.same (.rows Hp ?_))
 have h:dc [.own 89 8 (a.aw.map ed)] [.ows 89 8 (db (a.aw.map ed))]:= .ows .nil
 rw[ch rR] at h
 exact h
def mD(l:List Bool):Bool:=decide (2<(l.countP (fun b=>b):Nat))
theorem Dy{α:Type}{p:α→Bool}{l:List α}{i:Nat}(h:i<l.length):(l.take (i+1)).countP p=(l.take i).countP p+(if p l[i]=true then 1 else 0):=by
 rw[List.take_succ_eq_append_getElem h,List.countP_append]
 simp[List.countP_cons]
theorem vw{α:Type}{p:α→Bool}{l:List α}{i:Nat}{c:Int}(h:i<l.length)(hp:p l[i]=true)(hc:c=((l.take i).countP p:Nat)):c+1=((l.take (i+1)).countP p:Nat):=by
 rw[Dy h,if_pos hp]
 omega
theorem Av{α:Type}{p:α→Bool}{l:List α}{i:Nat}{c:Int}(h:i<l.length)(hp:p l[i]=false)(hc:c=((l.take i).countP p:Nat)):c=((l.take (i+1)).countP p:Nat):=by
 rw[Dy h,if_neg (by rw[hp];decide)]
 omega
theorem z3{α:Type}{p:α→Bool}{l:List α}{i:Nat}:(l.take i).countP p≤i:=Nat.le_trans List.countP_le_length (by rw[List.length_take];omega)
theorem Fu(l:List Bool)(hl:l.length≤1048576):aE Tryz.prog 114 [.c (.ro 1 (l.map eB))] (B (mD l)):=by
 refine cF Tryz.func114 (h:= ?_)
 repeat'((conv=>whnf);first
  |(apply bo.mk;first|((have h9:=ha.2;rw[List.take_of_length_le (by omega)] at h9;unfold mD;rw[h9];exact congrArg B (decide_eq_decide.2 (by omega)));done)|skip)|(guard_target=~ aP 3 _ _ _ _ _ _;refine lp (Nat × Int) [6,7] (fun⟨i,c⟩=>[(3,I c),(8,I (i:Nat))]) (fun⟨i,c⟩=>i≤l.length∧c=((l.take i).countP (fun b=>b):Nat)) (fun⟨i,c⟩=>l.length-i) (0,0) (by exact⟨Nat.zero_le _,by simp⟩) (fun A ha=> ?_);obtain⟨i,c⟩:=A;have ha:i≤l.length∧c=((l.take i).countP (fun b=>b):Nat):=ha;have hc9:=ha.2;have hle9:=z3 (p:=fun b:Bool=>b) (l:=l) (i:=i))
  |refine nx ((i+1,c+1):Nat × Int) (by exact⟨by show i+1≤_;omega,vw (by omega) h ha.2⟩)
  |refine nx ((i+1,c):Nat × Int) (by exact⟨by show i+1≤_;omega,Av (by omega) h ha.2⟩)
  |(apply Fact.mk;intro hL;try simp only[List.length_map,maxLen] at hL)
  |((first|apply bA|apply bB|apply bC|apply bD|apply bE|apply bF)<;>intro h<;>(try simp only[List.length_map] at h)<;>(try omega)<;>(try contradiction))
  |refine aR ?_|(guard_target=Index _ _ _;first|refine Index.mk _ (bz (i:=i) (by omega)) ?_)
  |refine iX (k:= ?_)
  |apply ay.no
  |refine nO ?_)
theorem Cp(l:List Bool)(hl:l.length≤1048576):aE Tryz.prog 146 [.c (.ro 1 (l.map eB))] (B (mD l)):=by
 refine cF Tryz.func146 (h:= ?_)
 repeat'((conv=>whnf);first
  |(apply bo.mk;first|((have h9:=ha.2;rw[List.take_of_length_le (by omega)] at h9;unfold mD;rw[h9];exact congrArg B (decide_eq_decide.2 (by omega)));done)|skip)|(guard_target=~ aP 3 _ _ _ _ _ _;refine lp (Int × Nat) [0] (fun⟨c,i⟩=>[(3,I c),(4,I (i:Nat))]) (fun⟨c,i⟩=>i≤l.length∧c=((l.take i).countP (fun b=>b):Nat)) (fun⟨c,i⟩=>l.length-i) (0,0) (by exact⟨Nat.zero_le _,by simp⟩) (fun A ha=> ?_);obtain⟨c,i⟩:=A;have ha:i≤l.length∧c=((l.take i).countP (fun b=>b):Nat):=ha;have hc9:=ha.2;have hle9:=z3 (p:=fun b:Bool=>b) (l:=l) (i:=i))
  |refine nx ((c+1,i+1):Int × Nat) (by exact⟨by show i+1≤_;omega,vw (by omega) h ha.2⟩)
  |refine nx ((c,i+1):Int × Nat) (by exact⟨by show i+1≤_;omega,Av (by omega) h ha.2⟩)
  |(apply Fact.mk;intro hL;try simp only[List.length_map,maxLen] at hL)
  |((first|apply bA|apply bB|apply bC|apply bD|apply bE|apply bF)<;>intro h<;>(try simp only[List.length_map] at h)<;>(try omega)<;>(try contradiction))
  |refine aR ?_|(guard_target=Index _ _ _;first|refine Index.mk _ (bz (i:=i) (by omega)) ?_)
  |refine iX (k:= ?_)
  |apply ay.no
  |refine nO ?_)
abbrev sA(a:ag)(i:Int):aT:=a.ab.getD i.toNat cO
abbrev iD(a:ag)(i:Int)(s:aT):ag:=⟨a.sig,a.ab.set i.toNat s,a.aw⟩
abbrev kj(s:aT)(n:aS):aT:=⟨s.up,s.notes++[n],s.saved⟩
def qK(n i:Int)(x:aS):Bool:= !x.bZ&&decide (x.id.tmod n=i)
def jC(a:ag)(i:Int):Int:=i+(a.ab.length:Int)*((sA a i).notes.countP (qK a.ab.length i):Nat)
def nT(a:ag)(id:Int):Bool:=decide (0≤bK (iq a) false id)
def wm(a:ag)(e:bm):aS:=⟨false,jC a e.a,⟨jC a e.a,e.bu,e.proof⟩⟩
def eD(a:ag)(e:bm):Int × ag:=
 if(!(sA a e.a).up|| !(gz (sA a e.a).notes e.bu))=true then(4,a)
 else if mD e.kW=false then(8,a)
 else if(decide ((sA a e.a).notes.length=20)||(decide (100≤jC a e.a)||nT a (jC a e.a)))=true then(3,a)
 else(0,iD a e.a (kj (sA a e.a) (wm a e)))
def ya(e:bm):aS:=⟨true,e.b,⟨0,[],⟨⟨0,0⟩,[]⟩⟩⟩
def cK(a:ag)(e:bm):Int × ag:=
 if 100≤e.b then(2,a)
 else if(!(sA a e.a).up||decide (0≤bK (sA a e.a).notes true e.b))=true then(4,a)
 else if(sA a e.a).notes.length=20 then(3,a)
 else(0,iD a e.a (kj (sA a e.a) (ya e)))
def dy(a:ag)(e:bm):Int × ag:=
 if(!(b8 a e.b)||(decide (e.a=e.b)||decide (((sA a e.a).notes.length:Int)≤e.c)))=true then(2,a)
 else if(!(sA a e.a).up||decide ((sA a e.a).saved≤e.c))=true then(4,a)
 else if a.aw.length=12 then(3,a)
 else(0,⟨a.sig,a.ab,a.aw++[⟨e.b,(sA a e.a).notes.getD e.c.toNat n0⟩]⟩)
abbrev gI(a:ag)(i:Int):cJ:=a.aw.getD i.toNat jd
def ln(a:ag)(p:cJ):Bool:=(sA a p.j1).up&&(decide (bK (sA a p.j1).notes p.note.bZ p.note.id<0)&&gz (sA a p.j1).notes p.note.entry.bu)
def cR(a:ag)(i:Int):Int × ag:=
 if(a.aw.length:Int)≤i then(2,a)
 else if ln a (gI a i)=false then(0,a)
 else if(sA a (gI a i).j1).notes.length=20 then(3,a)
 else(0,iD a (gI a i).j1 (kj (sA a (gI a i).j1) (gI a i).note))
def eP(a:ag)(i:Int):Int × ag:=
 if(a.aw.length:Int)≤i then(2,a) else(0,⟨a.sig,a.ab,a.aw.take i.toNat++a.aw.drop (i.toNat+1)⟩)
def fF(a:ag)(i:Int):Int × ag:=
 if(cR a i).1=0 then eP (cR a i).2 i else((cR a i).1,a)
def iu(a:ag)(e:bm):Int × ag:=
 if(sA a e.a).up=(decide (e.kind=9)) then(4,a)
 else if e.kind=7 then(0,iD a e.a ⟨(sA a e.a).up,(sA a e.a).notes,((sA a e.a).notes.length:Nat)⟩)
 else if e.kind=8 then(0,iD a e.a ⟨false,(sA a e.a).notes.take (sA a e.a).saved.toNat,(sA a e.a).saved⟩)
 else(0,iD a e.a ⟨true,(sA a e.a).notes,(sA a e.a).saved⟩)
def l4(a:ag)(e:bm):Int × ag:=
 if e.kind=4 then fF a e.a
 else if e.kind=5 then cR a e.a
 else if e.kind=6 then eP a e.a
 else if b8 a e.a=false then(2,a)
 else if e.kind=1 then eD a e
 else if e.kind=2 then cK a e
 else if e.kind=3 then dy a e
 else iu a e
end Go.Proofs.YtgbggaddpbghfaaGreat
namespace Go.Proofs.YtgbggaddpbghfaaGreat
open Go Go.KA Go.Proofs
set_option maxHeartbeats 16000000
set_option maxRecDepth 100000
structure CA(a:ag):Prop where
 ns:a.ab.length≤1048576
 nf:a.aw.length≤1048576
 nn:∀i,i<a.ab.length→(a.ab.getD i cO).notes.length≤1048576
 bn:∀i,i<a.ab.length→∀k,k<(a.ab.getD i cO).notes.length→bG ((a.ab.getD i cO).notes.getD k n0)≤1048576
 bp:∀i,i<a.aw.length→bG (a.aw.getD i jd).note≤1048576
theorem CA.of{a:ag}(h:cq a≤1048576):CA a:=by
 have hb:fm cZ a.ab≤1048576∧fm fG a.aw≤1048576:=by simp only[cq] at h;omega
 have h1:=eg cZ a.ab
 have h2:=eg fG a.aw
 have hs:∀i,i<a.ab.length→fm bG (a.ab.getD i cO).notes≤1048576:=fun i hi=>by
  rw[getD_eq hi]
  have:=cY cZ (List.getElem_mem hi)
  simp only[cZ] at this
  omega
 refine⟨by omega,by omega,fun i hi=> ?_,fun i hi k hk=> ?_,fun i hi=> ?_⟩
 ·have:=eg bG (a.ab.getD i cO).notes
  have:=hs i hi
  omega
 ·rw[getD_eq hk]
  have:=cY bG (List.getElem_mem hk)
  have:=hs i hi
  omega
 ·rw[getD_eq hi]
  have:=cY fG (List.getElem_mem hi)
  simp only[fG] at this
  omega
theorem oY(a:ag)(h:CA a):ai Tryz.prog 37 [.a 4 (aJ a)] [] (.a 4 (fc a)):=by
 obtain⟨hs,hf,hnn,hbn,hbp⟩:=h
 refine cX Tryz.func37 (h:= ?_)
 repeat'((conv=>whnf);first
  |refine ah.mk ?_ ?_|(guard_target=~ aP 3 _ _ _ _ _ _;refine tJ (Nat × List (List CV)) [1,2,3,15,16] (fun⟨i,rows⟩=>[(17,I (i:Nat))]) (fun⟨i,rows⟩=>[(8, .cells [.c (J a.sig.au), .c (J a.sig.aq), .lw 4, .lw 5]),(4, .aG none 47 3 rows)]) (fun⟨i,rows⟩=>i≤a.ab.length∧rows=(a.ab.take i).map eV) (fun⟨i,rows⟩=>a.ab.length-i) (0,[]) (by exact⟨Nat.zero_le _,rfl⟩) (fun A ha=> ?_);obtain⟨i,rows⟩:=A;have ha:i≤a.ab.length∧rows=(a.ab.take i).map eV:=ha;have hrl:rows.length=i:=iE ha.1 ha.2;have hA:=ha;have hni:=hnn i)|(guard_target=~ aP 7 _ _ _ _ _ _;refine tJ (Nat × List (List CV)) [1,2,3,6,15,16,17,27,28] (fun⟨k,R⟩=>[(29,I (k:Nat))]) (fun⟨k,R⟩=>[(13, .cells [.c (.val (.bool (a.ab.getD i cO).up)), .lw 11, .c (J (a.ab.getD i cO).saved)]),(11, .aG none 51 7 R)]) (fun⟨k,R⟩=>k≤(a.ab.getD i cO).notes.length∧R=((a.ab.getD i cO).notes.take k).map dP) (fun⟨k,R⟩=>(a.ab.getD i cO).notes.length-k) (0,[]) (by exact⟨Nat.zero_le _,rfl⟩) (fun A ha=> ?_);obtain⟨k,R⟩:=A;have ha:k≤(a.ab.getD i cO).notes.length∧R=((a.ab.getD i cO).notes.take k).map dP:=ha;have hRl:R.length=k:=iE ha.1 ha.2;have hnj:=hni (by omega))|(guard_target=~ aP 14 _ _ _ _ _ _;refine tJ (Nat × List (List CV)) [2,3,49,50] (fun⟨j,S⟩=>[(51,I (j:Nat))]) (fun⟨j,S⟩=>[(8, .cells [.c (J a.sig.au), .c (J a.sig.aq), .lw 4, .lw 5]),(5, .aG none 89 8 S)]) (fun⟨j,S⟩=>j≤a.aw.length∧S=(a.aw.take j).map ed) (fun⟨j,S⟩=>a.aw.length-j) (0,[]) (by exact⟨Nat.zero_le _,rfl⟩) (fun A ha=> ?_);obtain⟨j,S⟩:=A;have ha:j≤a.aw.length∧S=(a.aw.take j).map ed:=ha;have hSl:S.length=j:=iE ha.1 ha.2;have hR9:=gP (by omega) hA.2)
  |refine nx ((k+1,R++[dP ((a.ab.getD i cO).notes.getD k n0)]):Nat × List (List CV)) (by exact⟨by show k+1≤_;omega,Lg (by omega) ha.2⟩)
  |refine nx ((j+1,S++[ed (a.aw.getD j jd)]):Nat × List (List CV)) (by exact⟨by show j+1≤_;omega,Lg (by omega) ha.2⟩)
  |(apply Fact.mk;intro hL;try simp only[List.length_map,maxLen] at hL)
  |((first|apply bA|apply bB|apply bC|apply bD|apply bE|apply bF)<;>intro h<;>(try simp only[List.length_map] at h)<;>(try omega)<;>(try contradiction))|(guard_target=aa _ 78 _ _ _ _;refine cG [] rfl (o9 ((a.ab.getD i cO).notes.getD k n0) (hbn i (by omega) k (by omega))) ?_)|(guard_target=aa _ 78 _ _ _ _;refine cG [] rfl (o9 (a.aw.getD j jd).note (hbp j (by omega))) ?_)|(guard_target=Gh _ _ _ _ _;obtain rfl:R=(a.ab.getD i cO).notes.map dP:=gP (by omega) ha.2;refine Gh.go ⟨((i+1,rows++[eV (a.ab.getD i cO)]):Nat × List (List CV)),⟨by show i+1≤_;omega,Lg (by omega) hA.2⟩,(by show a.ab.length-(i+1)<a.ab.length-i;omega),(by repeat' first|exact trivial|exact rfl|constructor),(by repeat' first|exact trivial|exact rfl|constructor),(by(repeat' first|exact trivial|exact rfl|refine⟨?_, ?_⟩|(simp only[List.map_append,List.map_cons,List.map_nil,List.map_set];first|done|rfl));done)⟩)
  |refine aR ?_|(guard_target=Index _ _ _;first|refine Index.mk _ (aF (d:=cO) (i:=i) (by omega)) ?_|refine Index.mk _ (aF (d:=n0) (i:=k) (by omega)) ?_|refine Index.mk _ (aF (d:=jd) (i:=j) (by omega)) ?_)
  |refine iX (k:= ?_)
  |refine nB ?_
  |apply ay.no
  |apply cj.go|(guard_target=aQ _ _;refine aQ.mk (by first|((simp only[List.length_cons,List.length_nil,List.length_map,maxLen];constructor<;>omega))|fail) ?_)
  |refine nO ?_)
 all_goals first|rfl|trivial|(rw[gP (by omega) ha.2,gP (by omega) hA.2];first|done|rfl)
theorem tu(a:ag)(h:CA a):ai Tryz.prog 68 [.c (.rp 4 (aJ a))] [] (.a 4 (fc a)):=by
 obtain⟨hs,hf,hnn,hbn,hbp⟩:=h
 have hpk:∀j,j<a.aw.length→ai Tryz.prog 108 [.c (.rp 7 ((bh (a.aw.getD j jd)).drop 1))] [] (.a 7 (dP (a.aw.getD j jd).note)):=fun j hj=>jT _ (hbp j hj)
 refine cX Tryz.func68 (h:= ?_)
 repeat'((conv=>whnf);first
  |refine ah.mk ?_ ?_|(guard_target=~ aP 3 _ _ _ _ _ _;refine tJ (Nat × List (List CV)) [0,2,3] (fun⟨i,rows⟩=>[(4,I (i:Nat))]) (fun⟨i,rows⟩=>[(8, .cells [.c (J a.sig.au), .c (J a.sig.aq), .lw 4, .lw 3]),(4, .aG none 47 3 rows)]) (fun⟨i,rows⟩=>i≤a.ab.length∧rows=(a.ab.take i).map eV) (fun⟨i,rows⟩=>a.ab.length-i) (0,[]) (by exact⟨Nat.zero_le _,rfl⟩) (fun A ha=> ?_);obtain⟨i,rows⟩:=A;have ha:i≤a.ab.length∧rows=(a.ab.take i).map eV:=ha;have hrl:rows.length=i:=iE ha.1 ha.2;have hA:=ha;have hni:=hnn i)|(guard_target=~ aP 7 _ _ _ _ _ _;refine tJ (Nat × List (List CV)) [0,2,3,4,5] (fun⟨k,R⟩=>[(6,I (k:Nat))]) (fun⟨k,R⟩=>[(12, .cells [.c (.val (.bool (a.ab.getD i cO).up)), .lw 9, .c (J (a.ab.getD i cO).saved)]),(9, .aG none 51 7 R)]) (fun⟨k,R⟩=>k≤(a.ab.getD i cO).notes.length∧R=((a.ab.getD i cO).notes.take k).map dP) (fun⟨k,R⟩=>(a.ab.getD i cO).notes.length-k) (0,[]) (by exact⟨Nat.zero_le _,rfl⟩) (fun A ha=> ?_);obtain⟨k,R⟩:=A;have ha:k≤(a.ab.getD i cO).notes.length∧R=((a.ab.getD i cO).notes.take k).map dP:=ha;have hRl:R.length=k:=iE ha.1 ha.2;have hnj:=hni (by omega))|(guard_target=~ aP 12 _ _ _ _ _ _;refine tJ (Nat × List (List CV)) [0,2,3] (fun⟨j,S⟩=>[(7,I (j:Nat))]) (fun⟨j,S⟩=>[(8, .cells [.c (J a.sig.au), .c (J a.sig.aq), .lw 4, .lw 3]),(3, .aG none 89 8 S)]) (fun⟨j,S⟩=>j≤a.aw.length∧S=(a.aw.take j).map ed) (fun⟨j,S⟩=>a.aw.length-j) (0,[]) (by exact⟨Nat.zero_le _,rfl⟩) (fun A ha=> ?_);obtain⟨j,S⟩:=A;have ha:j≤a.aw.length∧S=(a.aw.take j).map ed:=ha;have hSl:S.length=j:=iE ha.1 ha.2)
  |refine nx ((k+1,R++[dP ((a.ab.getD i cO).notes.getD k n0)]):Nat × List (List CV)) (by exact⟨by show k+1≤_;omega,Lg (by omega) ha.2⟩)
  |refine nx ((j+1,S++[ed (a.aw.getD j jd)]):Nat × List (List CV)) (by exact⟨by show j+1≤_;omega,Lg (by omega) ha.2⟩)
  |(apply Fact.mk;intro hL;try simp only[List.length_map,maxLen] at hL)
  |((first|apply bA|apply bB|apply bC|apply bD|apply bE|apply bF)<;>intro h<;>(try simp only[List.length_map] at h)<;>(try omega)<;>(try contradiction))|(guard_target=aa _ 108 _ _ _ _;refine cG [] rfl (jT ((a.ab.getD i cO).notes.getD k n0) (hbn i (by omega) k (by omega))) ?_)|(guard_target=aa _ 108 _ _ _ _;refine cG [] rfl (hpk j (by omega)) ?_)|(guard_target=Gh _ _ _ _ _;obtain rfl:R=(a.ab.getD i cO).notes.map dP:=gP (by omega) ha.2;refine Gh.go ⟨((i+1,rows++[eV (a.ab.getD i cO)]):Nat × List (List CV)),⟨by show i+1≤_;omega,Lg (by omega) hA.2⟩,(by show a.ab.length-(i+1)<a.ab.length-i;omega),(by repeat' first|exact trivial|exact rfl|constructor),(by repeat' first|exact trivial|exact rfl|constructor),(by(repeat' first|exact trivial|exact rfl|refine⟨?_, ?_⟩|(simp only[List.map_append,List.map_cons,List.map_nil,List.map_set];first|done|rfl));done)⟩)
  |refine aR ?_|(guard_target=Index _ _ _;first|refine Index.mk _ (aF (d:=cO) (i:=i) (by omega)) ?_|refine Index.mk _ (aF (d:=n0) (i:=k) (by omega)) ?_|refine Index.mk _ (aF (d:=jd) (i:=j) (by omega)) ?_)
  |refine iX (k:= ?_)
  |refine nB ?_
  |apply ay.no
  |apply cj.go|(guard_target=aQ _ _;refine aQ.mk (by first|((simp only[List.length_cons,List.length_nil,List.length_map,maxLen];constructor<;>omega))|fail) ?_)
  |refine nO ?_)
 all_goals first|rfl|trivial|(rw[gP (by omega) ha.2,gP (by omega) hA.2];first|done|rfl)
theorem mJ(n:aS)(hb:bG n≤1048576):ai Tryz.prog 78 [.a 7 (bj n)] [] (.a 7 (bj n)):=(o9 n hb).soft (.v (.a (E0 n)))
theorem nj(a:ag)(h:CA a):ai Tryz.prog 37 [.a 4 (aJ a)] [] (.a 4 (cy a)):=(oY a h).soft (.v (.a (vQ a)))
theorem C8(a:ag)(h:CA a):ai Tryz.prog 68 [.c (.rp 4 (aJ a))] [] (.a 4 (cy a)):=(tu a h).soft (.v (.a (vQ a)))
end Go.Proofs.YtgbggaddpbghfaaGreat
namespace Go.Proofs.YtgbggaddpbghfaaGreat
open Go Go.KA Go.Proofs
set_option maxHeartbeats 16000000
set_option maxRecDepth 100000
structure WA(a:ag):Prop where
 n5:1≤a.ab.length∧a.ab.length≤5
 f12:a.aw.length≤12
 sv:∀i,i<a.ab.length→(a.ab.getD i cO).notes.length≤20∧0≤(a.ab.getD i cO).saved∧(a.ab.getD i cO).saved≤((a.ab.getD i cO).notes.length:Int)
 bn:∀i,i<a.ab.length→∀n∈(a.ab.getD i cO).notes,bG n≤1048576
 pk:∀i,i<a.aw.length→0≤(a.aw.getD i jd).j1∧(a.aw.getD i jd).j1<(a.ab.length:Int)∧bG (a.aw.getD i jd).note≤1048576
structure EA(e:bm):Prop where
 ra:0≤e.a∧e.a≤999
 rb:0≤e.b∧e.b≤999
 rc:0≤e.c∧e.c≤999
 bl:e.bu.length+cC e.proof+e.kW.length≤1048576
theorem mO{l:List aT}{i:Nat}{x y:List CV}(hi:i<l.length)(hy:y=bd (l.getD i cO)):((l.map bd).set i x).set i y=l.map bd:=by
 rw[List.set_set,hy,getD_eq hi,←List.map_set,List.set_getElem_self]
theorem nJ{l:List aT}{i:Nat}{x y:List CV}{s:aT}(hy:y=bd s):((l.map bd).set i x).set i y=(l.set i s).map bd:=by
 rw[List.set_set,hy,List.map_set]
theorem dm{l:List aT}{i:Nat}{y:List CV}{s:aT}(hy:y=bd s):(l.map bd).set i y=(l.set i s).map bd:=by
 rw[hy,List.map_set]
theorem qu:∀l:List (List CV),il l l
 |[]=> .nil
 |r::rs=> .cons (fS.refl r) (qu rs)
theorem pI{x y:List CV}(h:fS x y):∀{l:List (List CV)} {i:Nat},il (l.set i x) (l.set i y)
 |[],_=> .nil
 |r::rs,0=> .cons h (qu rs)
 |r::rs,i+1=> .cons (fS.refl r) (pI h)
theorem jP{l:List aT}{i:Nat}{x y:List CV}(hi:i<l.length)(hy:y=bd (l.getD i cO)):il (((l.map bd).set i x).set i y) (l.map bd):=by
 rw[mO hi hy]
 exact qu _
theorem uu{l:List aS}{r:List CV}{n:aS}(h:mZ r=bj n):db (l.map bj++[r])=(l++[n]).map bj:=by
 have h1:=BO l
 rw[dN] at h1⊢
 rw[List.map_append,h1,List.map_append]
 refine congrArg _ ?_
 show[r.map kM]=[bj n]
 rw[←h,py]
abbrev FA(a:ag)(R:List (List CV)):Option (List CV):=some [CV.op [J a.sig.au,J a.sig.aq,CV.own 47 3 R,CV.ows 89 8 (a.aw.map bh)]]
section
variable{a:ag}{e:bm}
theorem ML(h1:e.b≥100):cK a e=(2,a):=if_pos h1
theorem Kq(h1:¬e.b≥100)(h2:(sA a e.a).up=false):cK a e=(4,a):=by
 unfold cK
 rw[if_neg (by omega),if_pos (by rw[h2];rfl)]
theorem Jg(h1:¬e.b≥100)(h2:(sA a e.a).up=true)(h3:bK (sA a e.a).notes true e.b≥0):cK a e=(4,a):=by
 unfold cK
 rw[if_neg (by omega),if_pos (by rw[h2,decide_eq_true h3];rfl)]
theorem MI(h1:¬e.b≥100)(h2:(sA a e.a).up=true)(h3:¬bK (sA a e.a).notes true e.b≥0)(h4:((sA a e.a).notes.length:Int)=20):cK a e=(3,a):=by
 unfold cK
 rw[if_neg (by omega),if_neg (by rw[h2,decide_eq_false h3];decide),if_pos (by omega)]
theorem M5(h1:¬e.b≥100)(h2:(sA a e.a).up=true)(h3:¬bK (sA a e.a).notes true e.b≥0)(h4:¬((sA a e.a).notes.length:Int)=20):cK a e=(0,iD a e.a (kj (sA a e.a) (ya e))):=by
 unfold cK
 rw[if_neg (by omega),if_neg (by rw[h2,decide_eq_false h3];decide),if_neg (by omega)]
end
theorem Ht(a:ag)(e:bm)(hw:WA a)(he:EA e)(hp:e.a<(a.ab.length:Int)):ai Tryz.prog 83 [.c (.op (cy a)), .a 9 (bM e)] [some [.op (cy (cK a e).2)],none] (I (cK a e).1):=by
 have hpl:e.a.toNat<a.ab.length:=by have:=he.ra;omega
 have hra:=he.ra
 have h20:=(hw.sv _ hpl).1
 refine ID Tryz.func83 (fun reg_=>match reg_ with|4=>true|_=>false) (h:= ?_)
 repeat'((conv=>whnf);first
  |(guard_target=~ ah (I 2=_) _;have hd:cK a e=(2,a):=ML (by assumption);rw[hd];exact ah.mk rfl ⟨rfl,trivial⟩)
  |refine ah.mk ?_ ?_
  |(apply Fact.mk;intro hL;try simp only[List.length_map,maxLen] at hL)
  |((first|apply bA|apply bB|apply bC|apply bD|apply bE|apply bF)<;>intro h<;>(try simp only[List.length_map] at h)<;>(try omega)<;>(try contradiction))|(guard_target=Gh _ _ _ _ _;refine Gh.go ?_)|(guard_target=Index _ _ _;first|refine Index.mk _ (aF (d:=cO) hpl) ?_)
  |refine iX (k:= ?_)
  |refine nB ?_
  |apply ay.no|(guard_target=aQ _ _;refine aQ.mk (by first|((simp only[List.length_map];omega))|fail) ?_)
  |refine nO ?_)
 all_goals(conv=>whnf)
 all_goals try refine cj.opens 0 e.a.toNat 1 rfl (aF (d:=cO) hpl) rfl fun v=>cj.go ?_
 repeat'((conv=>whnf);first
  |(guard_target=~ ah (I 4=_) _;have hd:cK a e=(4,a):=(by first|exact Kq (by assumption) (by assumption)|exact Jg (by assumption) (by assumption) (by assumption));rw[hd];exact ah.mk rfl ⟨congrArg (FA a) (mO hpl rfl),trivial⟩)|(guard_target=~ ah (I 3=_) _;have hd:cK a e=(3,a):=MI (by assumption) (by assumption) (by assumption) (by assumption);rw[hd];exact ah.mk rfl ⟨congrArg (FA a) (mO hpl rfl),trivial⟩)|(guard_target=~ ah (I 0=_) _;have hd:cK a e=(0,iD a e.a (kj (sA a e.a) (ya e))):=M5 (by assumption) (by assumption) (by assumption) (by assumption);rw[hd];exact ah.mk rfl ⟨congrArg (FA a) (nJ (s:=kj (sA a e.a) (ya e)) (congrArg (fun R=>[CV.val (.bool (sA a e.a).up),CV.ows 51 7 R,J (sA a e.a).saved]) (uu rfl))),trivial⟩)
  |refine ah.mk ?_ ?_
  |(apply Fact.mk;intro hL;try simp only[List.length_map,maxLen] at hL)
  |((first|apply bA|apply bB|apply bC|apply bD|apply bE|apply bF)<;>intro h<;>(try simp only[List.length_map] at h)<;>(try omega)<;>(try contradiction))|(guard_target=aa _ 59 _ _ _ _;refine cP rfl (sD (a.ab.getD e.a.toNat cO).notes true e.b) ?_)|(guard_target=Gh _ _ _ _ _;refine Gh.iL 0 e.a.toNat 1 4 rfl (cB (by rw[List.length_map];exact hpl)) rfl rfl rfl (Gh.go ?_))|(guard_target=Gh _ _ _ _ _;refine Gh.soft 0 (gE.aG (pI (i:=e.a.toNat) (.same (.ows (.same .nil))))) (Gh.go ?_))|(guard_target=Index _ _ _;first|refine Index.mk _ (cB (by rw[List.length_map];exact hpl)) ?_)
  |refine iX (k:= ?_)
  |refine nB ?_|(guard_target=ay _ _ _;first|refine ay.row 4 rfl ?_|refine ay.aG 4 rfl ?_)
  |apply ay.no
  |apply cj.go|(guard_target=aQ _ _;refine aQ.mk (by first|((simp only[List.length_set,List.length_map];omega))|((simp only[List.length_cons,List.length_nil,List.length_map,maxLen];constructor<;>omega))|fail) ?_)
  |refine nO ?_)
 all_goals(try(conv=>whnf))
end Go.Proofs.YtgbggaddpbghfaaGreat
namespace Go.Proofs.YtgbggaddpbghfaaGreat
open Go Go.KA Go.Proofs
set_option maxHeartbeats 16000000
set_option maxRecDepth 100000
abbrev Bd(a:ag):List CV:=[J a.sig.au,J a.sig.aq, .ro 3 (db (a.ab.map bd)), .ro 8 (a.aw.map bh)]
theorem rA(a:ag):Bd a=aJ a:=by
 unfold Bd
 rw[E8]
 rfl
theorem iM(a:ag)(s:Int):aE Tryz.prog 104 [.c (.rp 4 (Bd a)),I s] (B (b8 a s)):=by
 rw[rA]
 exact Ke a s
theorem ji(a:ag)(s:Int):aE Tryz.prog 81 [.a 4 (Bd a),I s] (B (b8 a s)):=by
 rw[rA]
 exact DU a s
theorem KP{a:ag}(hw:WA a):∀i,i≤a.ab.length→((a.ab.take i).flatMap aT.notes).length≤20*i
 |0,_=>by simp
 |i+1,hi=>by
  have h:=KP hw i (by omega)
  have h1:=(hw.sv i (by omega)).1
  rw[List.take_succ_eq_append_getElem (by omega),List.flatMap_append,List.length_append]
  rw[getD_eq (by omega)] at h1
  simp only[List.flatMap_cons,List.flatMap_nil,List.append_nil]
  omega
theorem x5(a:ag)(hw:WA a):ai Tryz.prog 48 [.m [.c (J a.sig.au), .c (J a.sig.aq), .c (.own 47 3 (a.ab.map bd)), .c (.ows 89 8 (a.aw.map bh))]] [some (cy a)] (.c (.ows 51 7 ((iq a).map bj))):=by
 have h5:=hw.n5
 have hf:=hw.f12
 have hfl:=KP hw
 have hsv:=hw.sv
 refine cX Tryz.func48 (h:= ?_)
 repeat'((conv=>whnf);first
  |refine ah.mk ?_ ?_|(guard_target=~ aP 3 _ _ _ _ _ _;refine tJ (Nat × List aS) [1,10,11] (fun⟨i,R⟩=>[(3, .lw 4),(12,I (i:Nat))]) (fun⟨i,R⟩=>[(4, .row none 51 7 (R.map bj))]) (fun⟨i,R⟩=>i≤a.ab.length∧R=(a.ab.take i).flatMap aT.notes) (fun⟨i,R⟩=>a.ab.length-i) (0,[]) (by exact⟨Nat.zero_le _,rfl⟩) (fun A ha=> ?_);obtain⟨i,R⟩:=A;have ha:i≤a.ab.length∧R=(a.ab.take i).flatMap aT.notes:=ha;have hR2:=ha.2;have hRl:=hfl i ha.1;rw[←ha.2] at hRl;have hsi:=hsv i)|(guard_target=~ aP 8 _ _ _ _ _ _;refine tJ (Nat × List aS) [22,23] (fun⟨k,S⟩=>[(3, .lw 4),(24,I (k:Nat))]) (fun⟨k,S⟩=>[(4, .row none 51 7 (S.map bj))]) (fun⟨k,S⟩=>k≤a.aw.length∧S=R++(a.aw.take k).map cJ.note) (fun⟨k,S⟩=>a.aw.length-k) (0,R) (by exact⟨Nat.zero_le _,by simp⟩) (fun A ha=> ?_);obtain⟨k,S⟩:=A;have ha:k≤a.aw.length∧S=R++(a.aw.take k).map cJ.note:=ha;have hSl:=congrArg List.length ha.2;simp only[List.length_append,List.length_map,List.length_take] at hSl)
  |refine nx ((k+1,S++[(a.aw.getD k jd).note]):Nat × List aS) (by(have hk:k<a.aw.length:=(by omega);refine⟨hk, ?_⟩;show S++_=_;rw[iz hk,ha.2,List.append_assoc,getD_eq hk]))
  |(apply Fact.mk;intro hL;try simp only[List.length_map,maxLen] at hL)
  |((first|apply bA|apply bB|apply bC|apply bD|apply bE|apply bF)<;>intro h<;>(try simp only[List.length_map] at h)<;>(try omega)<;>(try contradiction))|(guard_target= ∀_:Value,_;intro v)|(guard_target=Gh _ _ _ _ _;refine Gh.iL 0 i 1 5 rfl (cB (by rw[List.length_map];omega)) rfl rfl rfl (Gh.go ⟨((i+1,R++(a.ab.getD i cO).notes):Nat × List aS),(by(have hi:i<a.ab.length:=(by omega);refine⟨hi, ?_⟩;show R++_=_;rw[ur hi,ha.2,getD_eq hi])),(by show a.ab.length-(i+1)<a.ab.length-i;omega),(by repeat' first|exact trivial|exact rfl|constructor),(by repeat' first|exact trivial|exact rfl|constructor),(by(repeat' first|exact trivial|exact rfl|exact congrArg (dD.aG none 47 3) (mO (by omega) rfl)|refine⟨?_, ?_⟩|(simp only[List.map_append];first|done|rfl));done)⟩))
  |refine aR ?_|(guard_target=Index _ _ _;first|refine Index.mk _ (aF (d:=cO) (i:=i) (by omega)) ?_|refine Index.mk _ (aF (d:=jd) (i:=k) (by omega)) ?_)
  |refine iX (k:= ?_)
  |apply ay.no|(guard_target=aQ _ _;refine aQ.mk (by first|((simp only[List.length_map,List.length_cons,List.length_nil,maxLen];first|(constructor<;>omega)|(have hsj:=hsi (by omega);constructor<;>omega)))|fail) ?_)
  |refine nO ?_)
 all_goals(try(conv=>whnf))
 all_goals first|exact⟨rfl,trivial⟩|(have h9:=ha.2;rw[List.take_of_length_le (by omega)] at h9;rw[hR2,List.take_of_length_le (by omega)] at h9;rw[h9];rfl)
theorem Hg{a:ag}{id:Int}:nT a id=(a.ab.any (fun s=>decide (bK s.notes false id≥0))||a.aw.any (fun p=>fe false id p.note)):=by
 refine Bool.eq_iff_iff.2 ?_
 unfold nT
 rw[decide_eq_true_iff,Bool.or_eq_true,List.any_eq_true,List.any_eq_true]
 unfold bK
 rw[nN]
 unfold iq
 constructor
 ·rintro⟨y,hy,hp⟩
  rcases List.mem_append.1 hy with h|h
  ·obtain⟨s,hs,hn⟩:=List.mem_flatMap.1 h
   exact .inl ⟨s,hs,decide_eq_true (nN.2 ⟨y,hn,hp⟩)⟩
  ·obtain⟨p,hp',rfl⟩:=List.mem_map.1 h
   exact .inr ⟨p,hp',hp⟩
 ·rintro(⟨s,hs,h⟩|⟨p,hp,h⟩)
  ·obtain⟨y,hy,hq⟩:=nN.1 (of_decide_eq_true h)
   exact⟨y,List.mem_append.2 (.inl (List.mem_flatMap.2 ⟨s,hs,hy⟩)),hq⟩
  ·exact⟨p.note,List.mem_append.2 (.inr (List.mem_map.2 ⟨p,hp,rfl⟩)),h⟩
theorem zn{α:Type}{p:α→Bool}{l:List α}{i:Nat}(hi:i<l.length)(h:p l[i]=true):l.any p=true:=List.any_eq_true.2 ⟨_,List.getElem_mem hi,h⟩
theorem Bi{α:Type}{p:α→Bool}{l:List α}{i:Nat}(hi:l.length≤i)(h:(l.take i).all (fun y=> !(p y))=true):l.any p=false:=by
 rw[List.take_of_length_le hi] at h
 cases hb:l.any p with
 |false=>rfl
 |true=>
  obtain⟨y,hy,hp⟩:=List.any_eq_true.1 hb
  have:=List.all_eq_true.1 h y hy
  rw[hp] at this
  cases this
theorem Ce(a:ag)(id:Int)(h5:a.ab.length≤1048576)(hf:a.aw.length≤1048576):aE Tryz.prog 147 [.c (.rp 4 (aJ a)),I id] (B (nT a id)):=by
 rw[Hg]
 refine cF Tryz.func147 (h:= ?_)
 repeat'((conv=>whnf);first
  |(apply bo.mk;first|((refine fE ?_;rw[zn (p:=fun s:aT=>decide (bK s.notes false id≥0)) (i:=i) (by omega) (by rw[←getD_eq (d:=cO) (by omega)];exact decide_eq_true h)];rfl);done)|((refine fE ?_;rw[zn (p:=fun p:cJ=>fe false id p.note) (i:=k) (by omega) (by rw[←getD_eq (d:=jd) (by omega)];simp_all[fe]),Bool.or_true]);done)|((refine dU ?_;rw[Bi (by omega) hA.2,Bi (by omega) ha.2];rfl);done)|skip)|(guard_target=~ aP 2 _ _ _ _ _ _;refine lp (Nat) [0,1] (fun i=>[(5,I (i:Nat))]) (fun i=>i≤a.ab.length∧(a.ab.take i).all (fun s=> !(decide (bK s.notes false id≥0)))=true) (fun i=>a.ab.length-i) 0 (by exact⟨Nat.zero_le _,rfl⟩) (fun i ha=> ?_);have hA:=ha)|(guard_target=~ aP 7 _ _ _ _ _ _;refine lp (Nat) [0,1] (fun k=>[(6,I (k:Nat))]) (fun k=>k≤a.aw.length∧(a.aw.take k).all (fun p=> !(fe false id p.note))=true) (fun k=>a.aw.length-k) 0 (by exact⟨Nat.zero_le _,rfl⟩) (fun k ha=> ?_))
  |refine nx (i+1:Nat) (by exact fy (by omega) ha (by rw[←getD_eq (d:=cO) (by omega)];exact EU (decide_eq_false h)))
  |refine nx (k+1:Nat) (by exact fy (by omega) ha (by rw[←getD_eq (d:=jd) (by omega)];refine EU ?_;simp_all[fe]))
  |(apply Fact.mk;intro hL;try simp only[List.length_map,maxLen] at hL)
  |((first|apply bA|apply bB|apply bC|apply bD|apply bE|apply bF)<;>intro h<;>(try simp only[List.length_map] at h)<;>(try omega)<;>(try contradiction))|(guard_target=aa _ 60 _ _ _ _;refine cP rfl (gR (a.ab.getD i cO).notes false id) ?_)
  |refine aR ?_|(guard_target=Index _ _ _;first|refine Index.mk _ (aF (d:=cO) (i:=i) (by omega)) ?_|refine Index.mk _ (aF (d:=jd) (i:=k) (by omega)) ?_)
  |refine iX (k:= ?_)
  |apply ay.no
  |refine nO ?_)
theorem xQ(a:ag)(hw:WA a)(id:Int):aE Tryz.prog 147 [.c (.rp 4 (Bd a)),I id] (B (nT a id)):=by
 rw[rA]
 exact Ce a id (by have:=hw.n5;omega) (by have:=hw.f12;omega)
end Go.Proofs.YtgbggaddpbghfaaGreat
