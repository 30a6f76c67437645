/- Contracts of the functions that look whether steps, claims and proofs are valid. No conditions. -/
import Derived.Test.YtgbggaddpbghfaaGreatKAA
namespace Go.Proofs.YtgbggaddpbghfaaGreat
open Go Go.KA Go.Proofs Go.Proofs.Tryz
set_option maxHeartbeats 16000000
set_option maxRecDepth 100000
def dv(t a:Int)(s:aP):Bool:=
 ee (-40) 23 s.use&&(decide ((s.path.length:Int)≤40)&&(s.path.all (ee 0 1)&&(decide ((s.aK.length:Int)≤3)&&(decide ((s.dy.length:Int)≤4)&&(s.aK.all (bz t a)&&(s.aK.all dq&&s.dy.all (bz t a)))))))
theorem Nu(t a:Int)(hs:cE t a=true)(s:aP):aS prog 149 [.a 2 [J t,J a], .a 5 (cD s)] (B (dv t a s)):=by
 have hr:aS prog 63 [.c (.ro 1 (s.path.map eI)),I 2] (B (s.path.all (ee 0 1))):=lD s.path 2 (by omega);refine cF func149 (h:=?_)
 repeat'((conv=>whnf);first
  |(apply bP.mk;first|(simp_all[dv,dj,dh];done)|(simp_all[dv,dj,dh];omega;done)|(simp_all[-List.all_eq_true, -List.all_eq_false,dv,dj,dh];done)|skip)
  |(apply Fact.mk;intro hL;try simp only[aa,maxLen]at hL)
  |((apply bX;constructor)<;>intro h<;>(try simp only[aa]at h)<;>(try first|omega|contradiction))|(show ay _ 45 _ _ _ _;refine cP rfl (eg _ _ _) ?_)|(show ay _ 63 _ _ _ _;refine cP rfl (hr) ?_)|(show ay _ 148 _ _ _ _;refine cP rfl (tf t a hs _) ?_)|(show ay _ 177 _ _ _ _;refine cP rfl (wv _) ?_))
theorem Bv:∃rows:List (List CV),rows.length=24/\aE prog 202 [] [] (.c (.ows 9 1 rows)):=by
 refine⟨?rows, ?h1, ?h2⟩
 case h2=>
  refine cX func202 (h:=?_)
  repeat'((conv=>whnf);first
   |(refine aI.mk ?_ ?_))
  all_goals trivial
 case h1=>rfl
theorem Km(t a:Int)(hs:cE t a=true)(s:aP)(hl:cq s≤1048576):aS prog 175 [.a 2 [J t,J a], .c (.rp 5 (cD s))] (B (dv t a s)):=by
 obtain⟨rows,hr,hx⟩:=Bv;simp only[cq]at hl;refine cF func175 (h:=?_)
 repeat'((conv=>whnf);first
  |(apply bP.mk;first|(simp_all[dv,dj,dh];done)|(simp_all[dv,dj,dh];omega;done)|(simp_all[-List.all_eq_true, -List.all_eq_false,dv,dj,dh];done)|(have h9:=eQ (i:=i) (by omega) h;clear ha;simp_all[-List.all_eq_true, -List.all_eq_false,dv,dj,dh];done)|(have h9:=fO (by omega) ha;clear ha;simp_all[-List.all_eq_true, -List.all_eq_false,dv,dj,dh];done)|skip)|(show aZ 4 _ _ _ _ _ _;refine lp (Nat) [1,2] (fun i=>[(5,I i)]) (fun i=>i≤s.path.length/\(s.path.take i).all (ee 0 1)=true) (fun i=>s.path.length-i) 0 (by exact⟨ah _,rfl⟩) (fun i ha=>?_))
  |refine nx (i+1:Nat) (by exact eN (by omega) ha h)
  |(apply Fact.mk;intro hL;try simp only[aa,maxLen]at hL)
  |((apply bX;constructor)<;>intro h<;>(try simp only[aa]at h)<;>(try first|omega|contradiction))|(show ay _ 86 _ _ _ _;refine cP rfl (ed _ _ _) ?_)|(show ay _ 202 _ _ _ _;refine cG [] rfl (hx) ?_)|(show ay _ 203 _ _ _ _;refine cP rfl (Hf t a hs _ (by omega)) ?_)|(show ay _ 204 _ _ _ _;refine cP rfl (w8 _) ?_)
  |refine aR ?_|(show Index _ _ _;first|(refine Index.mk _ (bZ (i:=i) (by omega)) ?_)|fail)
  |refine nB ?_
  |refine nO ?_)
def c7(t a:Int)(c:bV):Bool:=
 bz t a c.left&&(bz t a c.right&&(ee 1 3 c.l8&&(ee 0 39 c.ref&&(decide ((c.steps.length:Int)≤60)&&((if c.l8=1 then decide (c.ref=0)else decide ((c.steps.length:Int)=0))&&c.steps.all (dv t a))))))
def dT(p:cY):Bool:=cE p.sig.aK p.sig.aF&&(decide ((p.aG.length:Int)≤40)&&p.aG.all (c7 p.sig.aK p.sig.aF))
theorem H4{t a:Int}{c:bV}{i:Nat}(hi:i<c.steps.length)(h:dv t a c.steps[i]=false):c7 t a c=false:=by
 unfold c7;rw[ui hi h];simp
abbrev CC(t a:Int)(c:bV):Prop:=bz t a c.left=true/\bz t a c.right=true/\ee 1 3 c.l8=true/\ee 0 39 c.ref=true/\(c.steps.length:Int)≤60/\(if c.l8=1 then c.ref=0 else(c.steps.length:Int)=0)
theorem CO{t a:Int}{c:bV}(h:CC t a c)(h7:c.steps.all (dv t a)=true):c7 t a c=true:=by
 obtain⟨h1,h2,h3,h4,h5,h6⟩:=h;unfold c7;rw[h1,h2,h3,h4,h7];by_cases hr:c.l8=1<;>simp_all
theorem Aj{t a:Int}{c:bV}(h:¬CC t a c):c7 t a c=false:=by
 cases hb:c7 t a c with
 |false=>rfl
 |true=>
  refine absurd ?_ h;unfold c7 at hb;simp only[ab,decide_eq_true_eq]at hb;obtain⟨h1,h2,h3,h4,h5,h6,_⟩:=hb;refine⟨h1,h2,h3,h4,h5,?_⟩;by_cases hr:c.l8=1
  ·rw[if_pos hr]at h6⊢;exact of_decide_eq_true h6
  ·rw[if_neg hr]at h6⊢;exact of_decide_eq_true h6
theorem G9(t a:Int)(hs:cE t a=true)(c:bV)(hl:cB c≤1048576):aS prog 144 [.a 2 [J t,J a], .c (.rp 9 (aV c))] (B (c7 t a c)):=by
 simp only[cB]at hl;have h1:=nh t a c.left (by omega);have h2:=nh t a c.right (by omega);rw[bK,hs,Bool.true_and]at h1 h2;have T5:aS prog 174 [.a 2 [J t,J a], .c (.rp 9 (aV c))] (B (bz t a c.left)):=h1.cut (.same (.cut (k:=3) (by omega) .nil));have Xc:aS prog 174 [.a 2 [J t,J a], .c (.rp 6 ((aV c).drop 3))] (B (bz t a c.right)):=h2.cut (.same (.cut (k:=3) (by omega) .nil));have uo:∀i (h:i<c.steps.length),cq c.steps[i]≤1048576:=fun i h=>Nat.le_trans (di cq (ag h)) (by omega)
 refine cF func144 (h:=?_)
 repeat'((conv=>whnf);first
  |(apply bP.mk;first|(exact eM (H4 (i:=i) (by omega) h);done)|(rw[CO ⟨‹_›,‹_›,‹_›,‹_›,by omega,by split<;>omega⟩ (fO (by omega) ha)];rfl;done)|((refine eM (Aj ?_);rintro⟨g1,g2,g3,g4,g5,g6⟩;(try simp only[g1,g2,g3,g4]at h);first|(cases h;done)|omega|(split at g6<;>omega));done)|skip)|(show aZ 6 _ _ _ _ _ _;refine lp (Nat) [1,2] (fun i=>[(5,I i)]) (fun i=>i≤c.steps.length/\(c.steps.take i).all (dv t a)=true) (fun i=>c.steps.length-i) 0 (by exact⟨ah _,rfl⟩) (fun i ha=>?_))
  |refine nx (i+1:Nat) (by exact eN (by omega) ha h)
  |(apply Fact.mk;intro hL;try simp only[aa,maxLen]at hL)
  |((apply bX;constructor)<;>intro h<;>(try simp only[aa]at h)<;>(try first|omega|contradiction))|(show ay _ 86 _ _ _ _;refine cP rfl (ed _ _ _) ?_)|(show ay _ 175 _ _ _ _;refine cP rfl (Km t a hs _ (uo i (by omega))) ?_)|(show ay _ 174 _ _ _ _;(first|refine ay.pure _ _ rfl T5 rfl _ rfl ?_|refine ay.pure _ _ rfl Xc rfl _ rfl ?_))
  |refine aR ?_|(show Index _ _ _;first|(refine Index.mk _ (bZ (i:=i) (by omega)) ?_)|fail)
  |refine nB ?_
  |refine nO ?_)
theorem Ro(p:cY)(hl:cL p≤1048576):aS prog 116 [.c (.rp 3 (dk p))] (B (dT p)):=by
 have hc:∀i (h:i<p.aG.length),cB p.aG[i]≤1048576:=fun i h=>by
  have:=di cB (ag h);simp only[cL]at hl;omega
 refine cF func116 (h:=?_)
 repeat'((conv=>whnf);first
  |(apply bP.mk;first|(simp_all[dT,dj,dh];done)|(simp_all[dT,dj,dh];omega;done)|(have h9:=eQ (i:=i) (by omega) h;clear ha;simp_all[-List.all_eq_true, -List.all_eq_false,dT,dj,dh];done)|(have h9:=fO (by omega) ha;clear ha;simp_all[-List.all_eq_true, -List.all_eq_false,dT,dj,dh];done)|skip)|(show aZ 4 _ _ _ _ _ _;refine lp (Nat) [0] (fun i=>[(3,I i)]) (fun i=>i≤p.aG.length/\(p.aG.take i).all (c7 p.sig.aK p.sig.aF)=true) (fun i=>p.aG.length-i) 0 (by exact⟨ah _,rfl⟩) (fun i ha=>?_))
  |refine nx (i+1:Nat) (by exact eN (by omega) ha h)
  |(apply Fact.mk;intro hL;try simp only[aa,maxLen]at hL)
  |((apply bX;constructor)<;>intro h<;>(try simp only[aa]at h)<;>(try first|omega|contradiction))|(show ay _ 85 _ _ _ _;refine cP rfl (mY _ _) ?_)|(show ay _ 144 _ _ _ _;refine cP rfl (G9 _ _ ‹_› _ (hc i (by omega))) ?_)
  |refine aR ?_|(show Index _ _ _;first|(refine Index.mk _ (bZ (i:=i) (by omega)) ?_)|fail)
  |refine nB ?_
  |refine nO ?_)
abbrev c0:bV:=⟨.mk 0 0 [], .mk 0 0 [],0,0,[]⟩
theorem Gd{p:cY}{i:Nat}(hi:i<p.aG.length)(h:c7 p.sig.aK p.sig.aF (p.aG.getD i c0)=false):dT p=false:=by
 rw[show p.aG.getD i c0=p.aG[i]from getD_eq hi]at h;unfold dT;rw[ui hi h];simp
theorem WN{p:cY}{i:Nat}(hi:i<p.aG.length)(h:CC p.sig.aK p.sig.aF (p.aG.getD i c0))(h7:(p.aG.getD i c0).steps.all (dv p.sig.aK p.sig.aF)=true):c7 p.sig.aK p.sig.aF p.aG[i]=true:=by
 have:=CO h h7;rwa[show p.aG.getD i c0=p.aG[i]from getD_eq hi]at this
theorem BA(p:cY):aS prog 125 [.a 3 (dk p)] (B (dT p)):=by
 have hv:∀(hs:cE p.sig.aK p.sig.aF=true) (c:bV),aS prog 148 [.a 2 [J p.sig.aK,J p.sig.aF], .c (.ro 3 [aY c.left,aY c.right])] (B (bz p.sig.aK p.sig.aF c.left&&bz p.sig.aK p.sig.aF c.right)):=by
  intro hs c;have:=tf _ _ hs [c.left,c.right];simpa only[List.map_cons,List.map_nil,bK,List.all_cons,List.all_nil,Bool.and_true]using this
 refine cF func125 (h:=?_)
 repeat'((conv=>whnf);first
  |(apply bP.mk;first|(simp_all[dT,dj,dh];done)|(simp_all[dT,dj,dh];omega;done)|(exact eM (Gd (i:=i) (by omega) (H4 (i:=k) (by omega) h));done)|((refine eM (Gd (i:=i) (by omega) (Aj ?_));rintro⟨g1,g2,g3,g4,g5,g6⟩;(try simp only[g1,g2,g3,g4,Bool.and_self]at h);first|(cases h;done)|omega|(split at g6<;>omega));done)|((have h9:=fO (by omega) ha;clear ha;unfold dT;rw[h9,‹cE _ _=true›,decide_eq_true (by omega)];rfl);done)|skip)|(show aZ 4 _ _ _ _ _ _;refine lp (Nat) [1,18,19] (fun i=>[(20,I i)]) (fun i=>i≤p.aG.length/\(p.aG.take i).all (c7 p.sig.aK p.sig.aF)=true) (fun i=>p.aG.length-i) 0 (by exact⟨ah _,rfl⟩) (fun i ha=>?_))|(show aZ 11 _ _ _ _ _ _;refine lp (Nat) [1,18,19,20,71,72] (fun k=>[(73,I k)]) (fun k=>k≤(p.aG.getD i c0).steps.length/\((p.aG.getD i c0).steps.take k).all (dv p.sig.aK p.sig.aF)=true) (fun k=>(p.aG.getD i c0).steps.length-k) 0 (by exact⟨ah _,rfl⟩) (fun k ha=>?_))
  |refine nx (k+1:Nat) (by exact eN (by omega) ha h)
  |refine nx (i+1:Nat) (by(have ZH:CC p.sig.aK p.sig.aF (p.aG.getD i c0):=(by(try simp only[ab]at*);refine⟨(‹_/\_›:bz _ _ (p.aG.getD i c0).left=true/\bz _ _ (p.aG.getD i c0).right=true).1,(‹_/\_›:bz _ _ (p.aG.getD i c0).left=true/\bz _ _ (p.aG.getD i c0).right=true).2,‹_›,‹_›,by omega,by split<;>omega⟩);exact eN (by omega) ‹_/\(p.aG.take i).all _=true› (WN (by omega) ZH (fO (by omega) ha))))
  |(apply Fact.mk;intro hL;try simp only[aa,maxLen]at hL)
  |((apply bX;constructor)<;>intro h<;>(try simp only[aa]at h)<;>(try first|omega|contradiction))|(show ay _ 44 _ _ _ _;refine cP rfl (rC _ _) ?_)|(show ay _ 148 _ _ _ _;refine cP rfl (hv ‹_› _) ?_)|(show ay _ 45 _ _ _ _;refine cP rfl (eg _ _ _) ?_)|(show ay _ 149 _ _ _ _;refine cP rfl (Nu _ _ ‹_› _) ?_)
  |refine aR ?_|(show Index _ _ _;first|(refine Index.mk _ (aN (d:=c0) (i:=i) (by omega)) ?_)|(refine Index.mk _ (bZ (i:=k) (by omega)) ?_)|fail)
  |refine nO ?_)
theorem wh{α:Type}{f:α->Nat}{l:List α}{i:Nat}(h:¬i<l.length):dA f (l.take i)=dA f l:=by rw[ar (by omega)]
theorem jq{α:Type}{f:α->Nat}{l:List α}{i:Nat}(h:i<l.length):dA f (l.take (i+1))=dA f (l.take i)+f l[i]:=xw (List.getElem?_eq_getElem h)
def dw(e:aA):Nat:=aH e+1
theorem D6(e:aA):dw e=1+dA dw e.kids:=by
 have key:∀l:List aA,bd l=dA dw l:=by
  intro l
  induction l with
  |nil=>rfl
  |cons x xs ih=>simp only[bd,dA,dw,ih]
 cases e;simp only[dw,aH,key,aA.kids];omega
theorem DG(e:aA)(hl:dw e≤1048577)(hx:∀x∈e.kids,aS prog 150 [.a 3 (aD x)] (I (dw x))):aS prog 150 [.a 3 (aY e)] (I (dw e)):=by
 rw[D6]at hl;have hb:=sR (f:=dw) e.kids;refine cF func150 (h:=?_)
 repeat'((conv=>whnf);first
  |(apply bP.mk;first|(rw[D6,<-wh (l:=e.kids) (i:=i) (by omega)];rfl;done)|skip)|(show aZ 3 _ _ _ _ _ _;refine lp (Nat) [7,8] (fun i=>[(3,I (1+dA dw (e.kids.take i):Nat)),(9,I i)]) (fun i=>i≤e.kids.length) (fun i=>e.kids.length-i) 0 (by exact ah _) (fun i ha=>?_))
  |(apply Fact.mk;intro hL;try simp only[aa,maxLen]at hL)
  |((apply bX;constructor)<;>intro h<;>(try simp only[aa]at h)<;>(try first|omega|contradiction))|(show ay _ 150 _ _ _ _;refine cP rfl (hx _ (ag (by omega))) ?_)|(show Arith _ _ _;refine Arith.fit (bu (by have:=hb (i+1);rw[jq (by omega)]at this;omega) (by have:=hb (i+1);rw[jq (by omega)]at this;omega)) ?_)|(show Gh _ _ _ _ _;refine Gh.go ⟨i+1,(by omega),(by show _<_;(try simp only[]);omega),⟨⟨congrArg I (by rw[jq (by omega)];omega),rfl⟩,⟨rfl,rfl⟩,trivial⟩,(by first|exact⟨⟨rfl,rfl⟩,⟨rfl,rfl⟩,trivial⟩),(by first|exact trivial|exact⟨⟨rfl,rfl⟩,trivial⟩|exact⟨⟨rfl,rfl⟩,⟨rfl,rfl⟩,trivial⟩)⟩)|(show Index _ _ _;first|(refine Index.mk _ (bZ (i:=i) (by omega)) ?_)|fail)
  |refine nO ?_)
theorem oJ(e:aA)(hl:dw e≤1048577):aS prog 150 [.a 3 (aD e)] (I (dw e)):=by
 rw[bK];exact DG e hl fun x vu=>oJ x (by
  have:=vw dw vu;rw[D6]at hl;omega)
 termination_by SizeOf.sizeOf e
 decreasing_by
  have:=List.sizeOf_lt_of_mem vu;cases e;simp only[aA.mk.sizeOf_spec];show SizeOf.sizeOf x<_;simp only[aA.kids]at this;omega
theorem Hb:∀l:List aA,dA dw l=fU aH l
 |[]=>rfl
 |x::xs=>by
  have:=Hb xs;simp only[fU]at this;simp only[dA,fU,dw,List.length_cons,this];omega
theorem Pl(l:List aA)(hl:dA dw l≤1048577):aS prog 151 [.c (.ro 3 (l.map aD))] (I (dA dw l)):=by
 have hb:=sR (f:=dw) l;have hx:∀i (h:i<l.length),dw l[i]≤1048577:=fun i h=>Nat.le_trans (vw dw (ag h)) hl
 refine cF func151 (h:=?_)
 repeat'((conv=>whnf);first
  |(apply bP.mk;first|(rw[<-wh (l:=l) (i:=i) (by omega),<-ha.2];rfl;done)|skip)|(show aZ 3 _ _ _ _ _ _;refine lp (Nat × Nat) [6,7] (fun⟨i,m⟩=>[(3,I (m:Nat)),(8,I i)]) (fun⟨i,m⟩=>i≤l.length/\m=dA dw (l.take i)) (fun⟨i,m⟩=>l.length-i) (0,0) (by exact⟨ah _,rfl⟩) (fun A ha=>?_);obtain⟨i,m⟩:=A;have ha:i≤l.length/\m=dA dw (l.take i):=ha)
  |refine nx ((i+1,m+dw l[i]):Nat × Nat) (by exact⟨by show i+1≤_;omega,by show m+dw l[i]=_;rw[jq (by omega),ha.2]⟩)
  |(apply Fact.mk;intro hL;try simp only[aa,maxLen]at hL)
  |((apply bX;constructor)<;>intro h<;>(try simp only[aa]at h)<;>(try first|omega|contradiction))|(show ay _ 150 _ _ _ _;refine cP rfl (oJ _ (hx i (by omega))) ?_)|(show Arith _ _ _;refine Arith.fit (bu (by have:=hb (i+1);rw[jq (by omega)]at this;omega) (by have:=hb (i+1);rw[jq (by omega)]at this;omega)) ?_)|(show Index _ _ _;first|(refine Index.mk _ (bZ (i:=i) (by omega)) ?_)|fail)
  |refine nO ?_)
def kD(s:aP):Nat:=dA dw s.aK+dA dw s.dy
def jU(c:bV):Nat:=dw c.left+dw c.right+dA kD c.steps
def vQ(p:cY):Nat:=dA jU p.aG
theorem wP{α:Type}{f g:α->Nat}:∀{l:List α},(∀x∈l,f x≤g x)->dA f l≤dA g l
 |[],_=>aw _
 |x::xs,h=>by
  have h1:=h x (by simp);have h2:=wP (f:=f) (g:=g) (l:=xs) fun y hy=>h y (by simp[hy])
  simp only[dA];omega
theorem F9{α:Type}{f:α->Nat}{c d:Nat}:∀{l:List α},dA (fun x=>c+d*f x) l=c*l.length+d*dA f l
 |[]=>by simp[dA]
 |x::xs=>by
  simp only[dA,List.length_cons,F9 (l:=xs),Nat.mul_add];omega
theorem CF(s:aP):kD s≤cq s:=by
 simp only[kD,Hb,cq];omega
theorem IV(c:bV):jU c≤cB c+2:=by
 have h:=wP (l:=c.steps) fun s _=>CF s
 simp only[jU,cB,fU,dw];omega
theorem FH(p:cY):vQ p≤2*cL p:=by
 have h:=wP (l:=p.aG) (f:=jU) (g:=fun c=>2+1*cB c) fun c _=>by have:=IV c;omega
 rw[F9]at h;simp only[vQ,cL,fU];omega
theorem sub_le{α:Type}{f:α->Nat}{l:List α}{i:Nat}(h:i<l.length):dA f (l.take i)+f l[i]≤dA f l:=by
 have:=sR (f:=f) l (i+1);rwa[jq h]at this
theorem ER(p:cY)(hl:cL p≤1048576):aS prog 126 [.a 3 (dk p)] (I (vQ p)):=by
 have hp:=FH p;have K7:∀i (h:i<p.aG.length),cB (p.aG.getD i c0)≤1048576:=fun i h=>by
  rw[getD_eq h];have:=di cB (ag h);simp only[cL]at hl;omega
 have hLf:∀c:bV,cB c≤1048576->aS prog 150 [.a 3 (aY c.left)] (I (dw c.left)):=fun c h=>by
  have:=oJ c.left (by simp only[cB]at h;simp only[dw];omega);rwa[bK]at this
 have hRt:∀c:bV,cB c≤1048576->aS prog 150 [.a 3 (aY c.right)] (I (dw c.right)):=fun c h=>by
  have:=oJ c.right (by simp only[cB]at h;simp only[dw];omega);rwa[bK]at this
 have uo:∀(c:bV),cB c≤1048576-> ∀k (h:k<c.steps.length),dA dw c.steps[k].aK≤1048577/\dA dw c.steps[k].dy≤1048577:=fun c hc k h=>by
  have h1:=di cq (ag h);have h2:=CF c.steps[k];simp only[cB]at hc;simp only[kD]at h2;omega
 have hA:∀i,i<p.aG.length->dA jU (p.aG.take i)+(dw (p.aG.getD i c0).left+dw (p.aG.getD i c0).right+dA kD (p.aG.getD i c0).steps)≤2097152:=fun i h=>by
  rw[getD_eq h];have h1:=sub_le (f:=jU) h;simp only[vQ]at hp;simp only[jU]at h1;omega
 have hB:∀(c:bV) k (h:k<c.steps.length),dA kD (c.steps.take k)+(dA dw c.steps[k].aK+dA dw c.steps[k].dy)≤dA kD c.steps:=fun c k h=>sub_le (f:=kD) h
 refine cF func126 (h:=?_)
 repeat'((conv=>whnf);first
  |(apply bP.mk;first|(rw[vQ,<-wh (l:=p.aG) (i:=i) (by omega),<-ha.2];rfl;done)|skip)|(show aZ 3 _ _ _ _ _ _;refine lp (Nat × Nat) [9,10] (fun⟨i,m⟩=>[(3,I (m:Nat)),(11,I i)]) (fun⟨i,m⟩=>i≤p.aG.length/\m=dA jU (p.aG.take i)) (fun⟨i,m⟩=>p.aG.length-i) (0,0) (by exact⟨ah _,rfl⟩) (fun A ha=>?_);obtain⟨i,m⟩:=A;have ha:i≤p.aG.length/\m=dA jU (p.aG.take i):=ha)|(show aZ 7 _ _ _ _ _ _;refine lp (Nat × Nat) [9,10,11,25,26] (fun⟨k,n⟩=>[(3,I (n:Nat)),(27,I k)]) (fun⟨k,n⟩=>k≤(p.aG.getD i c0).steps.length/\n=m+(dw (p.aG.getD i c0).left+dw (p.aG.getD i c0).right)+dA kD ((p.aG.getD i c0).steps.take k)) (fun⟨k,n⟩=>(p.aG.getD i c0).steps.length-k) (0,m+(dw (p.aG.getD i c0).left+dw (p.aG.getD i c0).right)) (by exact⟨ah _,rfl⟩) (fun A ha=>?_);obtain⟨k,n⟩:=A;have ha:k≤(p.aG.getD i c0).steps.length/\n=m+(dw (p.aG.getD i c0).left+dw (p.aG.getD i c0).right)+dA kD ((p.aG.getD i c0).steps.take k):=ha)
  |refine nx ((k+1,n+kD (p.aG.getD i c0).steps[k]):Nat × Nat) (by exact⟨by show k+1≤_;omega,by show n+kD _=_;rw[jq (by omega),ha.2];omega⟩)
  |refine nx ((i+1,n):Nat × Nat) (by exact⟨by show i+1≤_;omega,by show n=_;have hi:i<p.aG.length:=(by omega);have h8:=‹i≤p.aG.length/\m=_›;have h9:=ha.2;rw[wh (by omega),getD_eq hi]at h9;rw[jq hi,<-h8.2,h9];unfold jU;omega⟩)
  |(apply Fact.mk;intro hL;try simp only[aa,maxLen]at hL)
  |((apply bX;constructor)<;>intro h<;>(try simp only[aa]at h)<;>(try first|omega|contradiction))|(show ay _ 151 _ _ _ _;refine cP rfl (Pl _ (by have:=uo (p.aG.getD i c0) (K7 i (by omega)) k (by omega);first|exact this.1|exact this.2)) ?_)|(show ay _ 150 _ _ _ _;(first|refine ay.pure _ _ rfl (hLf (p.aG.getD i c0) (K7 i (by omega))) rfl _ rfl ?_|refine ay.pure _ _ rfl (hRt (p.aG.getD i c0) (K7 i (by omega))) rfl _ rfl ?_))|(show Arith _ _ _;refine Arith.fit (bu (by(have h1:=hA i (by omega);have h2:=ha.2;first|omega|(have h3:=hB (p.aG.getD i c0) k (by omega);have h8:=(‹i≤p.aG.length/\m=_›).2;omega))) (by(have h1:=hA i (by omega);have h2:=ha.2;first|omega|(have h3:=hB (p.aG.getD i c0) k (by omega);have h8:=(‹i≤p.aG.length/\m=_›).2;omega)))) ?_)|(show Index _ _ _;first|(refine Index.mk _ (aN (d:=c0) (i:=i) (by omega)) ?_)|(refine Index.mk _ (bZ (i:=k) (by omega)) ?_)|fail)
  |refine nB ?_
  |refine nO ?_)
structure E9(f:Int->Int)(s k:Nat):Prop where
 iff:∀m,0≤f m↔(s:Int)≤m
 eq:∀m,0≤f m->f m=m-s
 lo:∀m,min m 0-k≤f m
 hi:∀m,f m≤m
theorem E9.id:E9 (fun m=>m) 0 0:=⟨fun m=>by simp,fun m _=>by simp,fun m=>by omega,fun m=>Int.le_refl _⟩
theorem E9.comp{f g:Int->Int}{s t k j:Nat}(hf:E9 f s k)(hg:E9 g t j):E9 (fun m=>g (f m)) (s+t) (k+j):=by
 refine⟨fun m=>?_,fun m h=>?_,fun m=>?_,fun m=>?_⟩
 ·have h1:=hf.iff m;have h2:=hg.iff (f m);have h3:=hf.eq m;constructor
  ·intro h;have:=h2.1 h;have h4:=h3 (by omega);omega
  ·intro h;refine h2.2 ?_;have h4:=h3 (h1.2 (by omega));omega
 ·have h2:=(hg.iff (f m)).1 h;have h3:=hf.eq m (by omega);have h4:=hg.eq (f m) h;show g (f m)=_;omega
 ·have h1:=hf.lo m;have h2:=hg.lo (f m);omega
 ·have h1:=hf.hi m;have h2:=hg.hi (f m);omega
theorem E9.guard{f:Int->Int}{s k:Nat}(hf:E9 f s k):E9 (fun m=>if m<0 then m else f m) s k:=by
 refine⟨fun m=>?_,fun m h=>?_,fun m=>?_,fun m=>?_⟩<;>(try dsimp only at*)
 ·have:=hf.iff m;by_cases hm:m<0
  ·rw[if_pos hm];omega
  ·rw[if_neg hm];exact this
 ·by_cases hm:m<0
  ·rw[if_pos hm]at h;omega
  ·rw[if_neg hm]at h⊢;exact hf.eq m h
 ·have:=hf.lo m;by_cases hm:m<0
  ·rw[if_pos hm];omega
  ·rw[if_neg hm];exact this
 ·have:=hf.hi m;by_cases hm:m<0
  ·rw[if_pos hm];omega
  ·rw[if_neg hm];exact this
mutual
theorem pg:∀e:aA,(∀m,0≤cR e m↔(dw e:Int)≤m)/\(∀m,0≤cR e m->cR e m=m-dw e)
 | .mk k n kids=>by
   have h:=Cc kids;have he:dw (.mk k n kids)=1+dA dw kids:=D6 _;refine⟨fun m=>?_,fun m hm=>?_⟩
   ·show 0≤dI kids (m-1)↔_;have:=h.1 (m-1);omega
   ·have h2:cR (.mk k n kids) m=dI kids (m-1):=rfl;rw[h2]at hm⊢;have:=h.2 (m-1) hm;omega
theorem Cc:∀l:List aA,(∀m,0≤dI l m↔(dA dw l:Int)≤m)/\(∀m,0≤dI l m->dI l m=m-dA dw l)
 |[]=>⟨fun m=>by simp[dI,dA],fun m _=>by simp[dI,dA]⟩
 |x::xs=>by
  have h1:=pg x;have h2:=Cc xs;have he:dA dw (x::xs)=dw x+dA dw xs:=rfl;refine⟨fun m=>?_,fun m hm=>?_⟩
  ·have a1:=h1.1 m;have a2:=h1.2 m;have a3:=h2.1 (cR x m);have hp:1≤dw x:=Nat.le_add_left _ _;simp only[dI];by_cases hm:m<0
   ·rw[if_pos hm];omega
   ·rw[if_neg hm];constructor
    ·intro h;have:=a3.1 h;have:=a2 (by omega);omega
    ·intro h;have:=a2 (a1.2 (by omega));exact a3.2 (by omega)
  ·have a1:=h1.1 m;have a2:=h1.2 m;have a3:=h2.1 (cR x m);have a4:=h2.2 (cR x m);simp only[dI]at hm⊢;by_cases VX:m<0
   ·rw[if_pos VX]at hm;omega
   ·rw[if_neg VX]at hm⊢;have:=a3.1 hm;have:=a2 (by omega);have:=a4 hm;omega
end
theorem xh(e:aA){m:Int}(h:m<0):cR e m=m-1:=by rw[y6,pA (by omega)]
theorem wI(e:aA):E9 (cR e) (dw e) 1:=by
 refine⟨(pg e).1,(pg e).2,fun m=>?_,fun m=>?_⟩
 ·by_cases h:m<0
  ·rw[xh e h];omega
  ·have:=oC e m (by omega);omega
 ·by_cases h:m<0
  ·rw[xh e h];omega
  ·have:=oC e m (by omega);omega
def lE(l:List aA)(m:Int):Int:=l.foldl (fun m e=>cR e m) m
theorem KY{l:List aA}{i:Nat}(h:i<l.length)(m:Int):lE (l.take (i+1)) m=cR l[i] (lE (l.take i) m):=by
 unfold lE;rw[List.take_add_one,List.getElem?_eq_getElem h,List.foldl_append];rfl
theorem Wo:∀l:List aA,E9 (lE l) (dA dw l) l.length
 |[]=>E9.id
 |x::xs=>by
  have:=(wI x).comp (Wo xs);have e:dA dw (x::xs)=dw x+dA dw xs:=rfl;rw[e,List.length_cons,Nat.add_comm xs.length 1];exact this
def lS(s:aP)(m:Int):Int:=lE s.dy (lE s.aK m)
def Ce:List aP->Int->Int
 |[],m=>m
 |s::r,m=>if m<0 then m else Ce r (lS s m)
def lC(c:bV)(m:Int):Int:=Ce c.steps (cR c.right (cR c.left m))
def Ej:List bV->Int->Int
 |[],m=>m
 |c::r,m=>if m<0 then m else Ej r (lC c m)
theorem acf(s:aP):E9 (lS s) (kD s) (s.aK.length+s.dy.length):=(Wo s.aK).comp (Wo s.dy)
theorem Uy:∀l:List aP,∃k,E9 (Ce l) (dA kD l) k
 |[]=>⟨0,E9.id⟩
 |s::r=>by
  obtain⟨k,h⟩:=Uy r;exact⟨_,((acf s).comp h).guard⟩
theorem aal(c:bV):∃k,E9 (lC c) (jU c) k:=by
 obtain⟨k,h⟩:=Uy c.steps;exact⟨_,((wI c.left).comp (wI c.right)).comp h⟩
theorem Uo:∀l:List bV,∃k,E9 (Ej l) (dA jU l) k
 |[]=>⟨0,E9.id⟩
 |c::r=>by
  obtain⟨k1,h1⟩:=aal c;obtain⟨k2,h2⟩:=Uo r;exact⟨_,(h1.comp h2).guard⟩
theorem uh:∀(l r:List aP) (m:Int),Ce (l++r) m=Ce r (Ce l m)
 |[],r,m=>rfl
 |s::l,r,m=>by
  simp only[List.cons_append,Ce];by_cases h:m<0
  ·rw[if_pos h,if_pos h];cases r<;>simp[Ce,h]
  ·rw[if_neg h,if_neg h,uh l r]
theorem tN:∀(l r:List bV) (m:Int),Ej (l++r) m=Ej r (Ej l m)
 |[],r,m=>rfl
 |s::l,r,m=>by
  simp only[List.cons_append,Ej];by_cases h:m<0
  ·rw[if_pos h,if_pos h];cases r<;>simp[Ej,h]
  ·rw[if_neg h,if_neg h,tN l r]
theorem OH{l:List aP}{i:Nat}(h:i<l.length){m:Int}(hm:0≤Ce (l.take i) m):Ce (l.take (i+1)) m=lS l[i] (Ce (l.take i) m):=by
 rw[List.take_add_one,List.getElem?_eq_getElem h,uh];simp only[Option.toList_some,Ce];rw[if_neg (by omega)]
theorem PR{l:List bV}{i:Nat}(h:i<l.length){m:Int}(hm:0≤Ej (l.take i) m):Ej (l.take (i+1)) m=lC l[i] (Ej (l.take i) m):=by
 rw[List.take_add_one,List.getElem?_eq_getElem h,tN];simp only[Option.toList_some,Ej];rw[if_neg (by omega)]
theorem Px{l:List aP}{i:Nat}{m:Int}(hm:Ce (l.take i) m<0):Ce l m=Ce (l.take i) m:=by
 conv=>lhs;rw[<-List.take_append_drop i l,uh]
 cases l.drop i<;>simp[Ce,hm]
theorem OM{l:List bV}{i:Nat}{m:Int}(hm:Ej (l.take i) m<0):Ej l m=Ej (l.take i) m:=by
 conv=>lhs;rw[<-List.take_append_drop i l,tN]
 cases l.drop i<;>simp[Ej,hm]
theorem F5(e:aA)(left:Int)(h0: -1099511627776≤left)(h1:left<0):aS prog 145 [.c (.rp 3 (aD e)),I left] (I (cR e left)):=by
 rw[bK,xh e h1];refine cF func145 (h:=?_)
 repeat'((conv=>whnf);first
  |(apply bP.mk;first|(rfl;done)|skip)|(show aZ 3 _ _ _ _ _ _;refine lp (Nat) [0] (fun i=>[(1,I (left-1)),(5,I i)]) (fun i=>i=0) (fun i=>0) 0 (by exact rfl) (fun i ha=>?_))
  |(apply Fact.mk;intro hL;try simp only[aa,maxLen]at hL)
  |((apply bX;constructor)<;>intro h<;>(try simp only[aa]at h)<;>(try first|omega|contradiction))
  |refine aR ?_)
theorem oB(e:aA)(left:Int)(h0: -1099511627776≤left)(h1:left≤1048576):aS prog 145 [.c (.rp 3 (aD e)),I left] (I (cR e left)):=by
 by_cases h:left<0
 ·exact F5 e left h0 h
 ·exact tR e left (by omega) h1
abbrev s0:aP:=⟨0,false,[],[],[]⟩
theorem JS(p:cY)(hl:cL p≤1048576)(left:Int)(h0:0≤left)(h1:left≤1048576):aS prog 117 [.c (.rp 3 (dk p)),I left] (I (Ej p.aG left)):=by
 have K7:∀i (h:i<p.aG.length),cB (p.aG.getD i c0)≤1048576:=fun i h=>by
  rw[getD_eq h];have:=di cB (ag h);simp only[cL]at hl;omega
 have Ff:∀i (h:i<p.aG.length) k (h:k<(p.aG.getD i c0).steps.length),((p.aG.getD i c0).steps.getD k s0).aK.length≤1048576/\((p.aG.getD i c0).steps.getD k s0).dy.length≤1048576:=fun i h k hk=>by
  have h2:=K7 i h;rw[getD_eq hk];have h3:=di cq (ag hk);simp only[cB]at h2;generalize(p.aG.getD i c0).steps[k]=q at*;have h4:=eP aH q.aK;have h5:=eP aH q.dy;simp only[cq]at h3;omega
 have eu:∀(c:bV) (m:Int), -1099511627776≤m->m≤1048576->aS prog 145 [.c (.rp 9 (aV c)),I m] (I (cR c.left m)):=fun c m g1 g2=>by
  have:=oB c.left m g1 g2;rw[bK]at this;exact this.cut (.cut (k:=3) (by omega) (.same .nil))
 have Wx:∀(c:bV) (m:Int), -1099511627776≤m->m≤1048576->aS prog 145 [.c (.rp 6 ((aV c).drop 3)),I m] (I (cR c.right m)):=fun c m g1 g2=>by
  have:=oB c.right m g1 g2;rw[bK]at this;exact this.cut (.cut (k:=3) (by omega) (.same .nil))
 have aaz:∀(c:bV) (k:Nat) (n m:Int),k≤c.steps.length->n=Ce (c.steps.take k) (cR c.right (cR c.left m))->(¬(k:Int)<(c.steps.length:Int)\/n<0)->Ce (c.steps.take k) (cR c.right (cR c.left m))=lC c m:=by
  intro c k n m g1 g2 g3;unfold lC;rcases g3 with g3|g3
  ·rw[ar (by omega)]
  ·exact(Px (by rw[<-g2];exact g3)).symm
 refine cF func117 (h:=?_)
 repeat'((conv=>whnf);first
  |(apply bP.mk;first|((have e:=ha.2.1;first|(rw[OM (i:=i) (by rw[<-e];omega),<-e];rfl)|(rw[ar (by omega)]at e;rw[<-e];rfl));done)|skip)|(show aZ 2 _ _ _ _ _ _;refine lp (Nat × Int) [0] (fun⟨i,m⟩=>[(1,I m),(5,I i)]) (fun⟨i,m⟩=>i≤p.aG.length/\m=Ej (p.aG.take i) left/\ -4000000≤m/\m≤1048576) (fun⟨i,m⟩=>p.aG.length-i) (0,left) (by exact⟨ah _,rfl,by show-4000000≤left;omega,h1⟩) (fun A ha=>?_);obtain⟨i,m⟩:=A;have ha:i≤p.aG.length/\m=Ej (p.aG.take i) left/\ -4000000≤m/\m≤1048576:=ha)|(show aZ 7 _ _ _ _ _ _;refine lp (Nat × Int) [0,5,6] (fun⟨k,n⟩=>[(1,I n),(7,I k)]) (fun⟨k,n⟩=>k≤(p.aG.getD i c0).steps.length/\n=Ce ((p.aG.getD i c0).steps.take k) (cR (p.aG.getD i c0).right (cR (p.aG.getD i c0).left m))/\ -4000000≤n/\n≤1048576) (fun⟨k,n⟩=>(p.aG.getD i c0).steps.length-k) (0,cR (p.aG.getD i c0).right (cR (p.aG.getD i c0).left m)) (by have a1:=(wI (p.aG.getD i c0).left).lo m;have a2:=(wI (p.aG.getD i c0).left).hi m;have a3:=(wI (p.aG.getD i c0).right).lo (cR (p.aG.getD i c0).left m);have a4:=(wI (p.aG.getD i c0).right).hi (cR (p.aG.getD i c0).left m);exact⟨ah _,rfl,by show-4000000≤cR _ _;omega,by show cR _ _≤1048576;omega⟩) (fun A ha=>?_);obtain⟨k,n⟩:=A;have ha:k≤(p.aG.getD i c0).steps.length/\n=Ce ((p.aG.getD i c0).steps.take k) (cR (p.aG.getD i c0).right (cR (p.aG.getD i c0).left m))/\ -4000000≤n/\n≤1048576:=ha)|(show aZ 10 _ _ _ _ _ _;refine lp (Nat × Int) [0,5,6,7] (fun⟨x,o⟩=>[(1,I o),(8,I x)]) (fun⟨x,o⟩=>x≤((p.aG.getD i c0).steps.getD k s0).aK.length/\o=lE (((p.aG.getD i c0).steps.getD k s0).aK.take x) n/\ -(x:Int)≤o/\o≤1048576) (fun⟨x,o⟩=>((p.aG.getD i c0).steps.getD k s0).aK.length-x) (0,n) (by exact⟨ah _,rfl,by show-((0:Nat):Int)≤n;omega,ha.2.2.2⟩) (fun A ha=>?_);obtain⟨x,o⟩:=A;have ha:x≤((p.aG.getD i c0).steps.getD k s0).aK.length/\o=lE (((p.aG.getD i c0).steps.getD k s0).aK.take x) n/\ -(x:Int)≤o/\o≤1048576:=ha)|(show aZ 14 _ _ _ _ _ _;refine lp (Nat × Int) [0,5,6,7] (fun⟨y,q⟩=>[(1,I q),(9,I y)]) (fun⟨y,q⟩=>y≤((p.aG.getD i c0).steps.getD k s0).dy.length/\q=lE (((p.aG.getD i c0).steps.getD k s0).dy.take y) (lE ((p.aG.getD i c0).steps.getD k s0).aK n)/\ -(y:Int)-(((p.aG.getD i c0).steps.getD k s0).aK.length:Int)≤q/\q≤1048576) (fun⟨y,q⟩=>((p.aG.getD i c0).steps.getD k s0).dy.length-y) (0,o) (by have e:=ha.2.1;rw[ar (by omega)]at e;exact⟨ah _,e,by show-((0:Nat):Int)-_≤o;omega,ha.2.2.2⟩) (fun A ha=>?_);obtain⟨y,q⟩:=A;have ha:y≤((p.aG.getD i c0).steps.getD k s0).dy.length/\q=lE (((p.aG.getD i c0).steps.getD k s0).dy.take y) (lE ((p.aG.getD i c0).steps.getD k s0).aK n)/\ -(y:Int)-(((p.aG.getD i c0).steps.getD k s0).aK.length:Int)≤q/\q≤1048576:=ha)
  |refine nx ((x+1,cR ((p.aG.getD i c0).steps.getD k s0).aK[x] o):Nat × Int) (by have hx:x<((p.aG.getD i c0).steps.getD k s0).aK.length:=(by omega);have a1:=(wI ((p.aG.getD i c0).steps.getD k s0).aK[x]).lo o;have a2:=(wI ((p.aG.getD i c0).steps.getD k s0).aK[x]).hi o;exact⟨hx,(by show cR _ o=_;rw[KY hx,<-ha.2.1]),(by show-((x+1:Nat):Int)≤cR _ o;omega),(by show cR _ o≤_;omega)⟩)
  |refine nx ((y+1,cR ((p.aG.getD i c0).steps.getD k s0).dy[y] q):Nat × Int) (by have hx:y<((p.aG.getD i c0).steps.getD k s0).dy.length:=(by omega);have a1:=(wI ((p.aG.getD i c0).steps.getD k s0).dy[y]).lo q;have a2:=(wI ((p.aG.getD i c0).steps.getD k s0).dy[y]).hi q;exact⟨hx,(by show cR _ q=_;rw[KY hx,<-ha.2.1]),(by show-((y+1:Nat):Int)-_≤cR _ q;omega),(by show cR _ q≤_;omega)⟩)
  |refine nx ((k+1,q):Nat × Int) (by have hk:k<(p.aG.getD i c0).steps.length:=(by omega);have h9:=‹k≤_/\n=_/\_›;have e:=ha.2.1;rw[ar (by omega)]at e;have a1:=Ff i (by omega) k hk;exact⟨hk,(by show q=_;rw[OH hk (by rw[<-h9.2.1];omega),<-h9.2.1,e,<-getD_eq (d:=s0) hk];rfl),(by show-4000000≤q;omega),ha.2.2.2⟩)
  |refine nx ((i+1,n):Nat × Int) (by have hi:i<p.aG.length:=(by omega);have h9:=‹i≤_/\m=_/\_›;exact⟨hi,(by show n=_;rw[PR hi (by rw[<-h9.2.1];omega),<-h9.2.1,<-getD_eq (d:=c0) hi,ha.2.1];exact aaz _ k n _ ha.1 ha.2.1 (by omega)),ha.2.2.1,ha.2.2.2⟩)
  |(apply Fact.mk;intro hL;try simp only[aa,maxLen]at hL)
  |((apply bX;constructor)<;>intro h<;>(try simp only[aa]at h)<;>(try first|omega|contradiction))|(show ay _ 145 _ _ _ _;(first|refine ay.pure _ _ rfl (eu (p.aG.getD i c0) m (by omega) (by omega)) rfl _ rfl ?_|refine ay.pure _ _ rfl (Wx (p.aG.getD i c0) (cR (p.aG.getD i c0).left m) (by have a1:=(wI (p.aG.getD i c0).left).lo m;omega) (by have a1:=(wI (p.aG.getD i c0).left).hi m;omega)) rfl _ rfl ?_|refine ay.pure _ _ rfl (oB _ o (by have a1:=Ff i (by omega) k (by omega);omega) (by omega)) rfl _ rfl ?_|refine ay.pure _ _ rfl (oB _ q (by have a1:=Ff i (by omega) k (by omega);omega) (by omega)) rfl _ rfl ?_))|(show Arith _ _ _;refine Arith.fit (bu (by(first|omega|(have a1:=Ff i (by omega) k (by omega);omega))) (by(first|omega|(have a1:=Ff i (by omega) k (by omega);omega)))) ?_)|(show Index _ _ _;first|(refine Index.mk _ (aN (d:=c0) (i:=i) (by omega)) ?_)|(refine Index.mk _ (aN (d:=s0) (i:=k) (by omega)) ?_)|(refine Index.mk _ (bZ (i:=x) (by omega)) ?_)|(refine Index.mk _ (bZ (i:=y) (by omega)) ?_)|fail)
  |refine nB ?_
  |refine nO ?_)
def j1{α:Type}(p:α->Bool):List α->Int
 |[]=> -1
 |x::xs=>if p x=true then 0 else if j1 p xs<0 then-1 else j1 p xs+1
theorem vt{α:Type}{p:α->Bool}:∀{l:List α} {i:Nat} (h:i<l.length),(l.take i).all (fun x=> !p x)=true->p l[i]=true->j1 p l=i
 |x::xs,0,_,_,hp=>by
  simp only[List.getElem_cons_zero]at hp;simp[j1,hp]
 |x::xs,i+1,h,hn,hp=>by
  simp only[List.take_succ_cons,List.all_cons,ab]at hn;have hx:p x=false:=by simpa using hn.1
  have ih:=vt (l:=xs) (i:=i) (by simpa using h) hn.2 (by simpa using hp);simp only[j1,hx,ih];rw[if_neg (by simp),if_neg (by omega)];omega
theorem sd{α:Type}{p:α->Bool}:∀{l:List α},l.all (fun x=> !p x)=true->j1 p l= -1
 |[],_=>rfl
 |x::xs,h=>by
  simp only[List.all_cons,ab]at h;have hx:p x=false:=by simpa using h.1
  simp only[j1,hx,sd h.2];rfl
theorem vF{α:Type}(p:α->Bool):∀l:List α,(j1 p l= -1/\ ∀x∈l,p x=false)\/ ∃(i:Nat) (h:i<l.length),j1 p l=i/\p l[i]=true/\ ∀j (hj:j<i),p (l[j]'(Nat.lt_trans hj h))=false
 |[]=> .inl ⟨rfl,by simp⟩
 |x::xs=>by
  cases hx:p x with
  |true=>exact .inr ⟨0,by simp,by simp[j1,hx],by simpa using hx,fun j hj=>by omega⟩
  |false=>
   rcases vF p xs with⟨h1,h2⟩|⟨i,h,h1,h2,h3⟩
   ·left;refine⟨by simp[j1,hx,h1],fun y hy=>?_⟩;rcases List.mem_cons.1 hy with rfl|hy
    ·exact hx
    ·exact h2 y hy
   ·right;refine⟨i+1,by simpa using h,?_,by simpa using h2,fun j hj=>?_⟩
    ·simp only[j1,hx,h1];rw[if_neg (by simp),if_neg (by omega)];omega
    ·cases j with
     |zero=>simpa using hx
     |succ j=>simpa using h3 j (by omega)
theorem lZ{α:Type}{p:α->Bool}{l:List α}:0≤j1 p l↔∃x∈l,p x=true:=by
 rcases vF p l with⟨h1,h2⟩|⟨i,h,h1,h2,h3⟩
 ·rw[h1];constructor
  ·intro h;omega
  ·rintro⟨x,hx,hp⟩;rw[h2 x hx]at hp;cases hp
 ·rw[h1];exact⟨fun _=>⟨_,ag h,h2⟩,fun _=>by omega⟩
theorem Ld{α:Type}(p:α->Bool)(l:List α): -1≤j1 p l/\j1 p l<l.length:=by
 rcases vF p l with⟨h1,h2⟩|⟨i,h,h1,h2,h3⟩
 ·rw[h1];omega
 ·rw[h1];omega
theorem zq{b:Bool}(h:b=false):(!b)=true:=by rw[h];rfl
theorem Qh(l:List Int)(x:Int):aS prog 132 [.c (.ro 1 (l.map eI)),I x] (I (j1 (fun y=>x==y) l)):=by
 refine cF func132 (h:=?_)
 repeat'((conv=>whnf);first
  |(apply bP.mk;first|(exact congrArg I (vt (p:=fun y=>x==y) (i:=i) (by omega) ha.2 (by simpa using h)).symm;done)|(exact congrArg I (sd (p:=fun y=>x==y) (fO (by omega) ha)).symm;done)|skip)|(show aZ 2 _ _ _ _ _ _;refine lp (Nat) [0,1,7] (fun i=>[(8,I i)]) (fun i=>i≤l.length/\(l.take i).all (fun y=> !(x==y))=true) (fun i=>l.length-i) 0 (by exact⟨ah _,rfl⟩) (fun i ha=>?_))
  |refine nx (i+1:Nat) (by exact eN (by omega) ha (by simpa using h))
  |(apply Fact.mk;intro hL;try simp only[aa,maxLen]at hL)
  |((apply bX;constructor)<;>intro h<;>(try simp only[aa]at h)<;>(try first|omega|contradiction))
  |refine aR ?_|(show Index _ _ _;first|(refine Index.mk _ (bZ (i:=i) (by omega)) ?_)|fail)
  |refine nO ?_)
def R8(x:Int)(l:List Int):Bool:=decide (x∈l)
theorem Ss{x:Int}{l:List Int}:decide (j1 (fun y=>x==y) l≥0)=R8 x l:=by
 unfold R8;refine decide_eq_decide.2 (lZ.trans ?_);simp
theorem xI(l:List Int)(x:Int):aS prog 107 [.c (.ro 1 (l.map eI)),I x] (B (R8 x l)):=by
 refine cF func107 (h:=?_)
 repeat'((conv=>whnf);first
  |(apply bP.mk;first|(rw[<-Ss];rfl;done)|skip)|(show ay _ 132 _ _ _ _;refine cP rfl (Qh l x) ?_))
theorem EL(l:List Int)(a b x:Int):aS prog 107 [.c (.ro 1 (((l.map eI).drop a.toNat).take (b.toNat-a.toNat))),I x] (B (R8 x ((l.drop a.toNat).take (b.toNat-a.toNat)))):=by
 have:=xI ((l.drop a.toNat).take (b.toNat-a.toNat)) x;rwa[List.map_take,List.map_drop]at this
theorem sE{α:Type}(l:List α)(i:Nat):(l.drop (0:Int).toNat).take ((i:Int).toNat-(0:Int).toNat)=l.take i:=by simp
theorem AS{l:List Int}{i:Nat}(h:i<l.length)(hn:(l.take i).Nodup)(hm:¬l[i]∈l.take i):(l.take (i+1)).Nodup:=by
 rw[List.take_add_one,List.getElem?_eq_getElem h];refine List.nodup_append.2 ⟨hn,by simp,fun a ha b hb=>?_⟩;simp at hb;subst hb;rintro rfl;exact hm ha
theorem Fp{l:List Int}{i:Nat}(h:i<l.length)(hm:l[i]∈l.take i):¬l.Nodup:=by
 intro hn;have hd:l[i]∈l.drop i:=List.mem_iff_getElem.2 ⟨0,by simp only[List.length_drop];omega,by simp⟩;have e:(l.take i++l.drop i).Nodup:=by rw[List.take_append_drop];exact hn
 exact(List.nodup_append.1 e).2.2 _ hm l[i] hd rfl
theorem yu(l:List Int):aS prog 124 [.c (.ro 1 (l.map eI))] (B (decide l.Nodup)):=by
 refine cF func124 (h:=?_)
 repeat'((conv=>whnf);first
  |(apply bP.mk;first|(exact eM (decide_eq_false (Fp (i:=i) (by omega) (by rw[sE]at h;exact h)));done)|(exact gO (decide_eq_true (by have:=ha.2;rwa[ar (by omega)]at this));done)|skip)|(show aZ 2 _ _ _ _ _ _;refine lp (Nat) [0,5,6] (fun i=>[(7,I i)]) (fun i=>i≤l.length/\(l.take i).Nodup) (fun i=>l.length-i) 0 (by exact⟨ah _,by simp⟩) (fun i ha=>?_))
  |refine nx (i+1:Nat) (by exact⟨by show i+1≤_;omega,AS (by omega) ha.2 (by rw[sE]at h;exact h)⟩)
  |(apply Fact.mk;intro hL;try simp only[aa,maxLen]at hL)
  |((apply bX;constructor)<;>intro h<;>(try simp only[aa]at h)<;>(try first|omega|contradiction))|(show ay _ 107 _ _ _ _;refine cP rfl (EL l 0 i _) ?_)
  |refine aR ?_|(show Index _ _ _;first|(refine Index.mk _ (bZ (i:=i) (by omega)) ?_)|fail)
  |refine nO ?_)
def ef(r:Bool)(id:Int)(x:aT):Bool:=(x.bT==r)&&(x.id==id)
def bf(l:List aT)(r:Bool)(id:Int):Int:=j1 (ef r id) l
theorem PJ(x:aT)(r:Bool)(id:Int):aS prog 106 [.a 7 (bG x), .c (.rp 1 [.val (.bool r)]), .c (.rp 1 [J id])] (B (ef r id x)):=by
 refine cF func106 (h:=?_)
 repeat'((conv=>whnf);first
  |(apply bP.mk;first|(simp_all[ef,dj,dh];done)|skip)
  |((apply bX;constructor)<;>intro h<;>(try simp only[aa]at h)<;>(try first|omega|contradiction)))
theorem Bk(l:List aT)(r:Bool)(id:Int):aS prog 105 [.c (.ro 7 (l.map bG)), .clo 106 [.c (.rp 1 [.val (.bool r)]), .c (.rp 1 [J id])]] (I (bf l r id)):=by
 refine cF func105 (h:=?_)
 repeat'((conv=>whnf);first
  |(apply bP.mk;first|(exact congrArg I (vt (i:=i) (by omega) ha.2 h).symm;done)|(exact congrArg I (sd (fO (by omega) ha)).symm;done)|skip)|(show aZ 2 _ _ _ _ _ _;refine lp (Nat) [0,1,7] (fun i=>[(8,I i)]) (fun i=>i≤l.length/\(l.take i).all (fun y=> !(ef r id y))=true) (fun i=>l.length-i) 0 (by exact⟨ah _,rfl⟩) (fun i ha=>?_))
  |refine nx (i+1:Nat) (by exact eN (by omega) ha (zq h))
  |(apply Fact.mk;intro hL;try simp only[aa,maxLen]at hL)
  |((apply bX;constructor)<;>intro h<;>(try simp only[aa]at h)<;>(try first|omega|contradiction))|(show ay _ 106 _ _ _ _;refine cP rfl (PJ _ r id) ?_)
  |refine aR ?_|(show Index _ _ _;first|(refine Index.mk _ (bZ (i:=i) (by omega)) ?_)|fail)
  |refine nO ?_)
theorem mF(l:List aT)(r:Bool)(id:Int):aS prog 59 [.c (.ro 7 (l.map bG)),B r,I id] (I (bf l r id)):=by
 refine cF func59 (h:=?_)
 repeat'((conv=>whnf);first
  |(apply bP.mk;first|(rfl;done)|skip)|(show ay _ 105 _ _ _ _;refine cP rfl (Bk l r id) ?_))
theorem jd(l:List aT)(r:Bool)(id:Int):aS prog 60 [.c (.ro 7 (l.map bG)),B r,I id] (I (bf l r id)):=by
 refine cF func60 (h:=?_)
 repeat'((conv=>whnf);first
  |(apply bP.mk;first|(exact congrArg I (vt (i:=i) (by omega) ha.2 (by simp_all[ef])).symm;done)|(exact congrArg I (sd (fO (by omega) ha)).symm;done)|skip)|(show aZ 2 _ _ _ _ _ _;refine lp (Nat) [0,1,2] (fun i=>[(7,I i)]) (fun i=>i≤l.length/\(l.take i).all (fun y=> !(ef r id y))=true) (fun i=>l.length-i) 0 (by exact⟨ah _,rfl⟩) (fun i ha=>?_))
  |refine nx (i+1:Nat) (by exact eN (by omega) ha (by simp_all[ef]))
  |(apply Fact.mk;intro hL;try simp only[aa,maxLen]at hL)
  |((apply bX;constructor)<;>intro h<;>(try simp only[aa]at h)<;>(try first|omega|contradiction))
  |refine aR ?_|(show Index _ _ _;first|(refine Index.mk _ (bZ (i:=i) (by omega)) ?_)|fail)
  |refine nO ?_)
end Go.Proofs.YtgbggaddpbghfaaGreat
