/- Part of a proof engine for functions of the given program: what an operation, a loop and a call compute, symbolically. No conditions. -/
import Derived.Test.YtgbggaddpbghfaaGreatEngM
namespace Go.KA
open Go Go.RowKit
def Vc(tbl:TT)(ty:Nat)(s:SV):SV:=
 match s with
 | .c (.val (.slice none 0 0))=>match tbl.find ty with
   |some i=>match i.elem with
    |some (_,dw,_)=> .c (.ro dw [])
    |none=>s
   |none=>s
 | .c (.cb b)=> .c (.val (.bool b))
 |s=>s
def me(tbl:TT)(T:TM):List Operand->List Nat->List SV
 |x::xs,t::ts=>Vc tbl t (ev T x)::me tbl T xs ts
 |x::xs,[]=>ev T x::me tbl T xs []
 |[],_=>[]
def KQ(d:Bool)(P:Program)(tbl:TT)(c:Call)(T:TM)(H:HM)(n:Nat)(K:iT->Prop):Prop:=
 match c.callee with
 | .builtin .len=>match c.args.toList,c.argTypes.toList with
   |[x],[t]=>
    match ev T x with
    | .c (.val (.string s))=>match tbl.find t with|some i=>cond i.Jk (Mg d (.c (.val (.string s))) H fun sv=>K (.q sv)) False|none=>False
    |sv=>match tbl.find t with|some i=>cond i.elem.isSome (Mg d sv H fun sv=>K (.q sv)) False|none=>False
   |_,_=>False
 | .builtin .append=>match c.args.toList,c.argTypes.toList with
   |[s,x],[t,t']=>cond (Nat.beq t t') (vj d tbl t (ev T s) (ev T x) H n K) False
   |_,_=>False
 | .value f=>match ev T f with
   | .clo k ij=>ay (d:=d) P k (me tbl T c.args.toList c.argTypes.toList++ij) H n K
   |_=>False
 |_=>False
def Ou(k:Nat)(ij:List SV)(K:iT->Prop):Prop:=cond (ij.all qy) (K (.q (.clo k ij))) False
def B0(d:Bool)(P:Program)(tbl:TT)(op:Op)(TI:Nat)(T:TM)(H:HM)(n:Nat)(K:iT->Prop):Prop:=
 match op with
 | .move x=>CX tbl TI (ev T x) n K
 | .assign x=>CX tbl TI (ev T x) n K
 | .pick c a b=>GI (ev T c) (ev T a) (ev T b) fun sv=>K (.q sv)
 | .alloc t=>D5 tbl t n K
 | .box _ x=>Sy (ev T x) n K
 | .build t ps=>Er tbl t (ps.toList.map fun p=>(p.1,ev T p.2)) n K
 | .buildSlice t l ps=>ou tbl t l (ps.toList.map fun p=>(p.1,ev T p.2)) H n K
 | .load t x=>Ia d tbl t (ev T x) H n K
 | .store t x y=>Ag tbl t (ev T x) (ev T y) H K
 | .nilCheck x=>Rv (ev T x) fun sv=>K (.q sv)
 | .binOp op t x y _=>It d tbl op t (ev T x) (ev T y) fun sv=>K (.q sv)
 | .unOp op _ x=>Zv op (ev T x) fun sv=>K (.q sv)
 | .convert s t x=>cond ((tbl.find s).any fun i=>i.ik.isSome) (HI tbl t (ev T x) fun sv=>K (.q sv)) (Av tbl s t (ev T x) H fun sv=>K (.q sv))
 | .makeFunc fn first ij=>match fn,first.toList with
   | .func k,[]=>Ou k (ij.toList.map (ev T)) K
   |_,_=>False
 | .makeSlice t l c=>qn tbl t (ev T l) (ev T c) n K
 | .slice t x lo hi mx=>match mx with
   |none=>AO tbl t (ev T x) (lo.map (ev T)) (hi.map (ev T)) H fun sv=>K (.q sv)
   |some _=>False
 | .fieldAddr s x f=>Ak tbl s (ev T x) f fun sv=>K (.q sv)
 | .indexAddr t x i=>ma tbl t (ev T x) (ev T i) H fun sv=>K (.q sv)
 | .index t x i=>match tbl.find t with|some j=>cond j.Jk (Af (ev T x) (ev T i) fun sv=>K (.q sv)) False|none=>False
 | .extract x i=>rM (ev T x) i fun sv=>K (.q sv)
 | .makeMap t r=>match r with|none=>uP tbl t n K|some _=>False
 | .lookup t x k ok=>uU tbl t (ev T x) (ev T k) ok H fun sv=>K (.q sv)
 | .mapUpdate t x k v=>lP tbl t (ev T x) (ev T k) (ev T v) H K
 | .insert t x k v=>lP tbl t (ev T x) (ev T k) (ev T v) H K
 | .call c=>KQ d P tbl c T H n K
 |_=>False
section
variable{P:Program}{tbl:TT}{Γ:Cx}{nt:Nat}{T:TM}{H Hm:HM}{ρ:RM}{F:FM}{a:Act}{w:World}
theorem M8(hm:Mem Γ H ρ F w)(hle:n9 Hm H){n i b k1 c:Nat}{s:dW}{u:Value}{ty sz:Nat}{rows:List (List CV)}{x y:CV}{sv:SV}{e:Ending}{w':World}{K:iT->Prop}
 (h1:Hm k1= .aU (some u) ty sz rows)(h2:Hm b= .cells [.c x, .c y, .lw k1])(hi:Hm i≠ .dead)(hib:i≠b)(N0:i≠k1)(T1:b≠k1)(hn:ρ n=none)(k:K ⟨sv,[(i,s)],c,[]⟩)
 (h:nj Γ H ρ F w n (fun E=>E=⟨sv,[(i,s),(n, .aU (some u) ty sz rows),(k1, .dead),(b, .cells [.c x, .c y, .lw n])],c,[(n,k1)]⟩) e w'):nj Γ H ρ F w n K e w':=by
 obtain⟨E,ρ',F',v,rfl,rfl,hx,hr,hM,cH,ko,hT⟩:=h;simp only[]at hr hM hT;have nk:k1≠n:=kM hm hle hn (by rw[h1];simp);have nb:b≠n:=kM hm hle hn (by rw[h2];simp);have ni:i≠n:=kM hm hle hn hi;have e1:H k1= .aU (some u) ty sz rows:=by
  rcases hle k1 with e|e
  ·rw[h1]at e;cases e
  ·rw[<-e,h1]
 have e2:H b= .cells [.c x, .c y, .lw k1]:=by
  rcases hle b with e|e
  ·rw[h2]at e;cases e
  ·rw[<-e,h2]
 have e3:H n= .dead:=(hm.KF hn).2;have bq:∀{p q:Nat},p≠q->Nat.beq p q=false:=fun{p q} h=>by
  cases hb:Nat.beq p q with
  |true=>exact absurd (ae hb) h
  |false=>rfl
 have hu:∀l:List (Nat × dW),∀j,(∀p∈l,p.1≠j)->du l H j=H j:=by
  intro l;generalize H=H0
  induction l generalizing H0 with
  |nil=>intro j _;rfl
  |cons p l ih=>
   intro j hj;show du l (dY H0 p.1 p.2) j=H0 j;rw[ih _ j fun q hq=>hj q (by simp[hq])];exact fP (hj p (by simp)).symm
 have g0:∀j,j≠i->du [(i,s)] H j=H j:=fun j hj=>hu _ j (by simp[hj.symm])
 have g1:∀j,j≠i->j≠n->j≠k1->j≠b->du [(i,s),(n, .aU (some u) ty sz rows),(k1, .dead),(b, .cells [.c x, .c y, .lw n])] H j=H j:=fun j a1 a2 a3 a4=>hu _ j (by simp[a1.symm,a2.symm,a3.symm,a4.symm])
 have g2:du [(i,s),(n, .aU (some u) ty sz rows),(k1, .dead),(b, .cells [.c x, .c y, .lw n])] H n= .aU (some u) ty sz rows:=by
  show dY (dY (dY (dY H i s) n _) k1 _) b _ n=_;rw[fP nb.symm,fP nk.symm,eF]
 have g3:du [(i,s),(n, .aU (some u) ty sz rows),(k1, .dead),(b, .cells [.c x, .c y, .lw n])] H k1= .dead:=by
  show dY (dY (dY (dY H i s) n _) k1 _) b _ k1=_;rw[fP T1.symm,eF]
 have g4:du [(i,s),(n, .aU (some u) ty sz rows),(k1, .dead),(b, .cells [.c x, .c y, .lw n])] H b= .cells [.c x, .c y, .lw n]:=by
  show dY (dY (dY (dY H i s) n _) k1 _) b _ b=_;rw[eF]
 have g5:du [(i,s),(n, .aU (some u) ty sz rows),(k1, .dead),(b, .cells [.c x, .c y, .lw n])] H i=du [(i,s)] H i:=by
  show dY (dY (dY (dY H i s) n _) k1 _) b _ i=dY H i s i;rw[fP hib,fP N0,fP ni]
 generalize du [(i,s),(n, .aU (some u) ty sz rows),(k1, .dead),(b, .cells [.c x, .c y, .lw n])] H=H1 at hM g1 g2 g3 g4 g5;obtain⟨v1,xs1,f1,r1,ho1,yE,adF,hF1,RC⟩:=et (hM.hb (n9.refl H1)) g2;obtain⟨v0,xs0,f0,r0,ho0,Lp,Tr,hF0,VX⟩:=et (hm.hb (n9.refl H)) e1;obtain rfl:=RC _ rfl;obtain rfl:=VX _ rfl;have rk:=hx _ _ r0;have fk:F' k1=[]:=by
  have:=hM.blocks k1;rw[g3]at this;generalize F' k1=f at this;cases this;rfl
 have hF:∀j,(if j=k1 then F' n else if j=n then[]else F' j)=if j=k1 then F' n else if j=n then[]else F' j:=fun _=>rfl
 obtain⟨F2,Z2⟩:∃F2:FM,∀j,F2 j=if j=k1 then F' n else if j=n then[]else F' j:=⟨_,fun _=>rfl⟩
 have ZG:F2 k1=F' n:=by rw[Z2,if_pos rfl]
 have Yd:F2 n=[]:=by rw[Z2,if_neg nk.symm,if_pos rfl]
 have ZF:∀j,j≠k1->j≠n->F2 j=F' j:=fun j a1 a2=>by rw[Z2,if_neg a1,if_neg a2]
 have Mt:∀bb,(∃j,bb∈F2 j)↔∃j,bb∈F' j:=by
  intro bb;constructor
  ·rintro⟨j,hj⟩;by_cases a1:j=k1
   ·subst a1;rw[ZG]at hj;exact⟨n,hj⟩
   ·by_cases a2:j=n
    ·subst a2;rw[Yd]at hj;cases hj
    ·rw[ZF j a1 a2]at hj;exact⟨j,hj⟩
  ·rintro⟨j,hj⟩;by_cases a1:j=k1
   ·subst a1;rw[fk]at hj;cases hj
   ·by_cases a2:j=n
    ·subst a2;exact⟨k1,by rw[ZG];exact hj⟩
    ·exact⟨j,by rw[ZF j a1 a2];exact hj⟩
 have VH:bg Γ F2 w'=bg Γ F' w':=by
  funext bb
  unfold bg;rw[Mt]
 have pick:∀{j bb},bb∈F2 j-> ∃j',bb∈F' j'/\(j'=if j=k1 then n else j):=by
  intro j bb hj;by_cases a1:j=k1
  ·subst a1;rw[ZG]at hj;exact⟨n,hj,by rw[if_pos rfl]⟩
  ·by_cases a2:j=n
   ·subst a2;rw[Yd]at hj;cases hj
   ·rw[ZF j a1 a2]at hj;exact⟨j,hj,by rw[if_neg a1]⟩
 refine⟨_,ρ',F2,v,rfl,k,hx,hr,⟨fun j=>?_,fun j l bb hj hl=>?_,fun j=>?_,fun j bb hb=>?_,fun j bb hb=>?_,hM.oN,hM.frame,hM.size,hM.os,hM.tape,hM.output,hM.CR⟩,fun bb hb=>by rw[VH];exact cH bb hb,ko,by rw[VH];exact hT⟩
 ·rw[VH];simp only[];by_cases a1:j=k1
  ·subst a1;have e9:=rk.trans r1.symm;rw[g0 _ N0.symm,e1,ZG,e9];have:=hM.blocks n;rwa[g2]at this
  ·by_cases a2:j=n
   ·subst a2;rw[g0 _ ni.symm,e3,Yd];exact .dead
   ·rw[ZF j a1 a2];have hb:=hM.blocks j;by_cases a3:j=b
    ·subst a3;rw[g0 _ hib.symm,e2];rw[g4]at hb;generalize ρ' j=o at hb;generalize F' j=fj at hb;cases hb with
     | @cells ty cs bb arr hb hl hh=>
       refine .cells hb hl fun m p q hp hq=>?_
       match m,hp with
       |0,hp=>exact hh 0 p q hp hq
       |1,hp=>exact hh 1 p q hp hq
       |2,hp=>
        obtain rfl:=Option.some.inj hp;have:=hh 2 (.lw n) q rfl hq;cases this with
        |lw h7=>
         rw[r1]at h7;injection h7 with h7
         subst h7;exact .lw rk
    ·by_cases a4:j=i
     ·subst a4;rw[<-g5];exact hb
     ·rw[g0 _ a4,<-g1 j a4 a2 a1 a3];exact hb
 ·obtain⟨j',p1,q1⟩:=pick hj;obtain⟨l',p2,q2⟩:=pick hl;have:=hM.kO j' l' bb p1 p2;subst q1 q2;by_cases a1:j=k1
  ·subst a1;by_cases a2:l=j
   ·exact a2.symm
   ·rw[if_pos rfl,if_neg a2]at this;subst this;rw[Yd]at hl;cases hl
  ·by_cases a2:l=k1
   ·subst a2;rw[if_pos rfl,if_neg a1]at this;subst this;rw[Yd]at hj;cases hj
   ·rwa[if_neg a1,if_neg a2]at this
 ·rw[Z2];split
  ·exact hM.nodup n
  ·split
   ·exact List.nodup_nil
   ·exact hM.nodup j
 ·obtain⟨j',p1,_⟩:=pick hb;exact hM.lt j' bb p1
 ·obtain⟨j',p1,_⟩:=pick hb;exact hM.src j' bb p1
theorem Ix{d:Bool}(hm:Mem Γ H ρ F w)(hle:n9 Hm H){f n:Nat}{args:List SV}{vs:List Value}{K:iT->Prop}(h:ay (d:=d) P f args Hm n K)(nY:oc ρ n K)(Od:d=false->iI ρ n/\(∀i,i<n->ρ i≠none)/\Hm=H)(hl:args.length=vs.length)
 (hd:∀(j:Nat) s v,args[j]? =some s->vs[j]? =some v->bJ ρ w (bg Γ F w) s v):MK P f/\Calls P f vs.toArray w (nj Γ H ρ F w n K):=by
 have h0:fK Hm [] args=[]:=by cases args<;>rfl
 cases h with
 |pure df r hv h hs E he k=>
  refine ph hm hle hv h (by rw[h0];simp) ?_ he k nY hl hd;cases hc:ez [] args with
  |true=>exact .inl rfl
  |false=>rw[hc]at hs;exact .inr ⟨IX (by simpa using hs),trivial⟩
 |own df r hv h hp E he k=>exact ph hm hle hv h (by rw[h0];simp) (.inr ⟨hp,trivial⟩) he k nY hl hd
 |gen md df outs r hv h hn hc E he k=>exact ph hm hle hv h (gm hn) (.inl hc) he k nY hl hd
 |pug md df outs r hv h hn hp E he k=>exact ph hm hle hv h (gm hn) (.inr hp) he k nY hl hd
 |ex VD md df φ outs r hv h hn hc k=>
  refine zP hm hle hv h (gm hn) (.inl hc) (fun x hx=>?_) nY hl hd;have hk:=k x hx;split at hk
  ·rename_i E he;exact⟨E,he,hk⟩
  ·exact hk.elim
 |raw VD h=>
  obtain⟨h1,h2,h3⟩:=Od VD;subst h3;exact h _ _ _ _ _ hm h1 h2 hl hd
 |iY md df outs r hv h hn hc sv i b k1 s u ty sz rows x y c he h1 h2 h3 Rz ZV k=>
  have hcp:0<c:=by
   cases c with
   |zero=>simp at ZV
   |succ c=>omega
  have hρ:ρ n=none:=nY _ k n (aw _) (by show n<n+c;omega);obtain⟨g1,g2⟩:=ph (K:=fun E=>E=⟨sv,[(i,s),(n, .aU (some u) ty sz rows),(k1, .dead),(b, .cells [.c x, .c y, .lw n])],c,[(n,k1)]⟩) hm hle hv h (gm hn) (.inl hc) he rfl (fun E hE j a1 a2=>by
   subst hE;exact nY _ k j a1 a2) hl hd
  have gB:=gm Rz;simp only[List.nodup_cons,List.mem_cons,List.not_mem_nil,or_false,not_or,not_false_eq_true,List.nodup_nil,and_true]at gB;refine⟨g1,g2.mono fun e w' hp=>M8 hm hle h1 h2 ?_ gB.1.1 gB.1.2 gB.2 hρ k hp⟩;intro e0;rw[e0]at h3;cases h3
theorem JA{ok:Nat->Prop}{t:Nat}{s:SV}{v:Value}(h:bJ ρ w ok s v):bJ ρ w ok (Vc tbl t s) v:=by
 unfold Vc;split
 ·split
  ·split
   ·have:=fD (b9.jM h);subst this;exact eD (.ro rfl (aw _) (by simp[maxLen]) (by simp) .nil (fun j x hx=>by simp at hx) .nil)
   ·exact h
  ·exact h
 ·have:=pQ (b9.jM h);subst this;exact eD (mk_val rfl)
 ·exact h
theorem rh(hS:St Γ nt T H ρ F a w):∀(xs:List Operand) (ts:List Nat),(me tbl T xs ts).length=(xs.map a.eval).length/\ ∀(j:Nat) s v,(me tbl T xs ts)[j]? =some s->(xs.map a.eval)[j]? =some v->bJ ρ w (bg Γ F w) s v
 |[],ts=>by cases ts<;>simp[me]
 |x::xs,[]=>by
  obtain⟨h1,h2⟩:=rh hS xs [];refine⟨by simpa[me]using h1,fun j s v hs hv=>?_⟩;cases j with
  |zero=>simp[me]at hs hv;subst hs hv;exact rq hS x
  |succ j=>exact h2 j s v (by simpa[me]using hs) (by simpa using hv)
 |x::xs,t::ts=>by
  obtain⟨h1,h2⟩:=rh hS xs ts;refine⟨by simpa[me]using h1,fun j s v hs hv=>?_⟩;cases j with
  |zero=>simp[me]at hs hv;subst hs hv;exact JA (rq hS x)
  |succ j=>exact h2 j s v (by simpa[me]using hs) (by simpa using hv)
def Nx(Γ:Cx)(H:HM)(ρ:RM)(F:FM)(w:World)(n:Nat)(a:Act)(d:Option Tmp)(next:Act->World->Prop)(K:iT->Prop):Prop:=
 ∀E ρ' F' v w',K E->Ext ρ ρ'->(∀i,ρ' i≠ρ i->n≤i/\i<n+E.c)->Mem Γ (du E.ws H) ρ' F' w'->(∀b,bg Γ F w b->bg Γ F' w' b)->(∀b,bg Γ F w b->w'.heap[b]? =w.heap[b]?)->bJ ρ' w' (bg Γ F' w') E.sv v->next (a.put d v) w'
theorem dN{o:Oper}{n:Nat}{next:Act->World->Prop}{Q:Exit->Act->World->Prop}{K:iT->Prop}{m:Sem Value}(he:execOp a.eval o=(do pure (Next.value (<-m))))(h:um Γ H ρ F w n K (m.run P w))(hn:Nx Γ H ρ F w n a o.dst next K):o.wp P a w next Q:=by
 obtain⟨E,ρ',F',v,w',hK,hr,h1,h2,h3,h4,h5,h6⟩:=h;unfold Oper.wp;rw[he];simp only[Sem.run_bind,hr,Result.andThen_ok,Sem.run_pure];exact hn _ _ _ _ _ hK h1 h2 h3 h4 h5 h6
theorem zF(hm:Mem Γ H ρ F w){n:Nat}{d:Option Tmp}{next:Act->World->Prop}{K:iT->Prop}(hn:Nx Γ H ρ F w n a d next K){sv:SV}{v:Value}(hK:K (.q sv))(hT:bJ ρ w (bg Γ F w) sv v):next (a.put d v) w:=
 hn (.q sv) ρ F v w hK (Ext.refl _) (fun _ hi=>absurd rfl hi) hm (fun _ h=>h) (fun _ _=>rfl) hT
theorem XJ{ok:Nat->Prop}{s:SV}{v:Value}(h1:qy s=true)(hT:bJ ρ w ok s v):b9 ρ w ok s v:=by
 cases hT with
 |any=>cases h1
 |tup _ _=>cases h1
 |v h=>cases h with
  |c h=>exact h
  |a _ _=>cases h1
  |m _ _=>cases h1
  |clo _ _=>cases h1
theorem Zi{ok:Nat->Prop}{k:Nat}{cs:List SV}{v:Value}(hT:bJ ρ w ok (.clo k cs) v):∃vs:List Value,v= .func (.func k) #[] vs.toArray/\cs.length=vs.length/\ ∀(j:Nat) a v,cs[j]? =some a->vs[j]? =some v->b9 ρ w ok a v:=by
 cases hT with
 |v hT=>cases hT with
  |c hT=>cases hT
  |clo hl h=>exact⟨_,rfl,hl,h⟩
theorem Gq(hS:St Γ nt T H ρ F a w)(ps:Array (Nat × Operand)):mC ρ w (bg Γ F w) (ps.toList.map fun p=>(p.1,ev T p.2)) (ps.map fun(i,x)=>(i,a.eval x)).toList:=by
 refine⟨by simp,fun j p v hp hv=>?_⟩;simp only[Array.toList_map,List.getElem?_map]at hp hv;cases hc:ps.toList[j]? with
 |none=>simp[hc]at hp
 |some q=>
  simp[hc]at hp hv;subst hp hv;exact⟨rfl,rq hS _⟩
theorem wM(dC:en P tbl)(hS:St Γ nt T H ρ F a w)(hle:n9 Hm H){d:Bool}{o:Oper}{n:Nat}{next:Act->World->Prop}{Q:Exit->Act->World->Prop}{K:iT->Prop}
 (h:B0 d P tbl o.op o.type T Hm n K)(nY:oc ρ n K)(Od:d=false->iI ρ n/\(∀i,i<n->ρ i≠none)/\Hm=H)(hn:Nx Γ H ρ F w n a o.dst next K):o.wp P a w next Q:=by
 have hm:=hS.mem;have hB:=hm.hb hle;obtain⟨dst,op,type,pos,after,guard⟩:=o;simp only at h hn;have E:=fun x=>rq hS x
 have iF:∀{r:Result Value},(∃sv v,K (.q sv)/\r= .ok v w/\bJ ρ w (bg Γ F w) sv v)->um Γ H ρ F w n K r:=fun h=>um.quiet hm h
 cases op<;>simp only[B0]at h<;>first|exact h.elim|skip
 case move x=>
  exact dN (m:=pure (a.eval x)) (by simp[execOp]) (by simpa using xJ hm h nY (E x)) hn
 case assign x=>
  exact dN (m:=pure (a.eval x)) (by simp[execOp]) (by simpa using xJ hm h nY (E x)) hn
 case pick c x y=>
  obtain⟨sv,v,hK,hr,hT⟩:=Hg (P:=P) h (E c) (E x) (E y);unfold Oper.wp;simp only[execOp,hr];exact zF hm hn hK hT
 case alloc t=>exact dN rfl (E2 dC hm h nY) hn
 case box t x=>exact dN rfl (Ku hm h nY (E x)) hn
 case build t ps=>exact dN rfl (DF dC hm h nY (Gq hS ps)) hn
 case buildSlice t l ps=>exact dN rfl (vN dC hm hle h nY (Gq hS ps)) hn
 case load t x=>exact dN rfl (HE dC hm hle h nY (E x)) hn
 case store t x y=>
  obtain⟨Ef,F',w',hK,hr,wm,h1,h2,h3⟩:=EY dC hm hle h (E x) (E y);unfold Oper.wp;simp only[execOp,Sem.run_bind,hr,Result.andThen_ok,Sem.run_pure];exact hn Ef ρ F' _ w' hK (Ext.refl _) (fun i hi=>absurd rfl hi) h1 h2 h3 (by rw[wm];exact .any)
 case nilCheck x=>
  obtain⟨sv,hK,OA,hT⟩:=Kh h (E x);have hr:(execOp a.eval {dst:=dst,op:= .nilCheck x,type:=type,pos:=pos,after:=after,guard:=guard}).run P w= .ok (.value (a.eval x)) w:=by
   simp only[execOp];split
   ·rename_i he;rw[he]at OA;exact OA.elim
   ·rename_i he;rw[he]at OA;exact OA.elim
   ·rename_i he;rw[he]at OA;exact OA.elim
   ·rename_i he;rw[he]at OA;exact OA.elim
   ·rfl
  unfold Oper.wp;rw[hr];exact zF hm hn hK hT
 case binOp op t x y yt=>exact dN rfl (iF (Fm dC h (E x) (E y))) hn
 case unOp op t x=>exact dN rfl (iF (MB h (E x))) hn
 case convert s d x=>
  cases hb:(tbl.find s).any fun i=>i.ik.isSome with
  |false=>rw[hb]at h;exact dN rfl (iF (EE hB dC h (E x))) hn
  |true=>rw[hb]at h;exact dN rfl (iF (Hq dC hb h (E x))) hn
 case makeFunc fn first ij=>
  split at h
  ·rename_i k VR;unfold Ou at h;cases hb:(ij.toList.map (ev T)).all qy with
   |false=>rw[hb]at h;exact h.elim
   |true=>
    rw[hb]at h;have hf:first= #[]:=by simpa using VR
    subst hf;refine dN rfl (um.quiet hm ⟨.clo k (ij.toList.map (ev T)),_,h,by simp[Instr.makeFunc];rfl,?_⟩) hn;have:bJ ρ w (bg Γ F w) (.clo k (ij.toList.map (ev T))) (.func (.func k) #[] (ij.toList.map a.eval).toArray):=by
     refine .v (.clo (by simp) fun j s v hs hv=>?_);rw[List.getElem?_map]at hs hv;cases hc:ij.toList[j]? with
     |none=>simp[hc]at hs
     |some x=>
      simp[hc]at hs hv;subst hs hv;have h1:qy (ev T x)=true:=aj.1 hb _ (List.mem_map.2 ⟨x,List.mem_of_getElem? hc,rfl⟩);exact XJ h1 (E x)
    have e:(ij.toList.map a.eval).toArray=ij.map a.eval:=by apply Array.toList_inj.1;simp
    rw[e]at this;exact this
  ·exact h.elim
 case makeSlice t l c=>exact dN rfl (w6 dC hm h nY (E l) (E c)) hn
 case slice t x lo hi mx=>
  split at h
  ·have od:∀o:Option Operand,Ep ρ w (bg Γ F w) (o.map (ev T)) (o.map a.eval):=by
        intro o;cases o with
        |none=>trivial
        |some x=>exact E x
   exact dN rfl (iF (Dp hB dC h (E x) (od lo) (od hi))) hn
  ·exact h.elim
 case fieldAddr s x f=>exact dN rfl (iF (Du dC h (E x))) hn
 case indexAddr t x i=>exact dN rfl (iF (vq hB dC h (E x) (E i))) hn
 case index t x i=>
  split at h
  ·rename_i j hj;cases hb:j.Jk with
   |false=>rw[hb]at h;exact h.elim
   |true=>rw[hb]at h;exact dN rfl (iF (D7 ((dC _ _ hj).Jk hb) h (E x) (E i))) hn
  ·exact h.elim
 case extract x i=>exact dN rfl (iF (zd h (E x))) hn
 case makeMap t r=>
  split at h
  ·exact dN rfl (Ai dC hm h nY) hn
  ·exact h.elim
 case lookup t x k ok=>exact dN rfl (iF (Bm hB dC h (E x) (E k))) hn
 case mapUpdate t x k v=>
  obtain⟨Ef,F',w',hK,hr,wm,h1,h2,h3⟩:=pG dC hm hle h (E x) (E k) (E v);unfold Oper.wp;simp only[execOp,Sem.run_bind,hr,Result.andThen_ok,Sem.run_pure];exact hn Ef ρ F' _ w' hK (Ext.refl _) (fun i hi=>absurd rfl hi) h1 h2 h3 (by rw[wm];exact .any)
 case insert t x k v=>
  obtain⟨Ef,F',w',hK,hr,wm,h1,h2,h3⟩:=pG dC hm hle h (E x) (E k) (E v);unfold Oper.wp;simp only[execOp,Sem.run_bind,hr,Result.andThen_ok,Sem.run_pure];exact hn Ef ρ F' _ w' hK (Ext.refl _) (fun i hi=>absurd rfl hi) h1 h2 h3 (by rw[wm];exact .any)
 case call c=>
  obtain⟨callee,args,argTypes⟩:=c;unfold KQ at h;cases callee with
  |invoke r m=>exact h.elim
  |builtin b=>
   cases b<;>simp only at h<;>first|exact h.elim|skip
   case len=>
        split at h
        ·rename_i x t hx ht;have O4:args= #[x]:=by cases args;simp_all
         have Yc:argTypes= #[t]:=by cases argTypes;simp_all
         subst O4 Yc;have fin:∀{sx:SV},ev T x=sx->(∃sv v,K (.q sv)/\(Builtin.len_ #[t] type #[a.eval x]).run P w= .ok v w/\bJ ρ w (bg Γ F w) sv v)->Oper.wp P {dst:=dst,op:= .call {callee:= .builtin .len,args:= #[x],argTypes:= #[t]},type:=type,pos:=pos,after:=after,guard:=guard} a w next Q:=by
           intro sx _ hq;obtain⟨sv,v,hK,hr,hT⟩:=hq;unfold Oper.wp;simp only[execOp,resolve,invoke,builtin,Sem.run_bind,Sem.run_pure,Result.andThen_ok,List.map_toArray,List.map_cons,List.map_nil,hr];exact zF hm hn hK hT
         split at h
         ·rename_i s hs;split at h
          ·rename_i i hi;cases hb:i.Jk with
           |false=>rw[hb]at h;exact h.elim
           |true=>
            rw[hb]at h;simp only[cond]at h;have hu:=(dC _ _ hi).Jk hb;exact fin rfl (zM hB dC (x:= .c (.val (.string s))) (.inr hu) h (by rw[<-hs];exact E x) ⟨fun _=>rfl,fun _=>hu⟩)
          ·exact h.elim
         ·rename_i hns;split at h
          ·rename_i i hi;cases hb:i.elem with
           |none=>rw[hb]at h;exact h.elim
           |some e=>
            rw[hb]at h;obtain⟨e1,e2,e3⟩:=e;have hu:=((dC _ _ hi).elem _ _ _ hb).1;have TH:(u7 (ev T x)).isSome=true->False:=by
             intro h0;unfold u7 at h0;split at h0
             ·rename_i s hs;exact hns s hs
             ·cases h0
            have abR:P.underlying t≠some .string:=by rw[hu];simp
            exact fin rfl (zM hB dC (.inl ⟨i,_,hi,hb⟩) h (E x) ⟨fun h0=>absurd h0 abR,fun h0=>(TH h0).elim⟩)
          ·exact h.elim
        ·exact h.elim
   case append=>
        split at h
        ·rename_i s x t t' hx ht;have O4:args= #[s,x]:=by cases args;simp_all
         have Yc:argTypes= #[t,t']:=by cases argTypes;simp_all
         subst O4 Yc;cases hb:Nat.beq t t' with
         |false=>rw[hb]at h;exact h.elim
         |true=>
          rw[hb]at h;have:=ae hb;subst this;obtain⟨Ef,ρ',F',v,w',hK,hr,h1,h2,h3,h4,h5,h6⟩:=Bq (ty:=type) dC hm hle h nY (E s) (E x);unfold Oper.wp;simp only[execOp,resolve,invoke,builtin,Sem.run_bind,Sem.run_pure,Result.andThen_ok,List.map_toArray,List.map_cons,List.map_nil,hr];exact hn _ _ _ _ _ hK h1 h2 h3 h4 h5 h6
        ·exact h.elim
  |value f=>
   simp only at h;split at h
   ·rename_i k ij hf;have hT:=E f;rw[hf]at hT;obtain⟨cvs,heq,BC,hc⟩:=Zi hT;obtain⟨h1,h2⟩:=rh (tbl:=tbl) hS args.toList argTypes.toList;obtain⟨X4,YC⟩:=Ix (vs:=args.toList.map a.eval++cvs) hm hle h nY Od (by simp only[ai,h1,BC]) fun j s v hs hv=>by
     by_cases hj:j<(me tbl T args.toList argTypes.toList).length
     ·rw[List.getElem?_append_left hj]at hs;rw[List.getElem?_append_left (by rw[<-h1];exact hj)]at hv;exact h2 j s v hs hv
     ·rw[List.getElem?_append_right (by omega)]at hs;rw[List.getElem?_append_right (by rw[<-h1];omega),<-h1]at hv;exact .v (.c (hc _ s v hs hv))
    obtain⟨fn,aca,ab6,abg⟩:=X4;have o7:args.map a.eval++cvs.toArray=(args.toList.map a.eval++cvs).toArray:=by
     apply Array.toList_inj.1;simp
    unfold Oper.wp;simp only[execOp,resolve,heq,Deferred.ofValue,Sem.run_bind,Sem.run_pure,Result.andThen_ok,invoke,callFunc,run_program,aca,ab6,abg,Bool.false_eq_true,if_false,Oper.upon_enter];simp only[Array.empty_append];rw[o7];refine YC.mono ?_;rintro e w' ⟨Ef,ρ',F',v,rfl,hK,g1,g2,g3,g4,g5,g6⟩;exact hn _ _ _ _ _ hK g1 g2 g3 g4 g5 g6
   ·exact h.elim
end
def E3(m i:Nat):Bool:=Nat.beq (Nat.land (Nat.shiftRight m i) 1) 1
def Wr(np:Nat)(p:Nat × Nat)(H:HM):Bool:= !E3 np p.1&&(!E3 np p.2&&(!Nat.beq p.1 p.2&&match H p.2 with| .dead=>true|_=>false))
def ta(np:Nat):List (Nat × Nat)->TM->HM->(TM->HM->Prop)->Prop
 |[],T,H,K=>K T H
 |p::r,T,H,K=>cond (Wr np p H) (ta np r (DX (Hz p.1 p.2) T) (MZ p.1 p.2 H) K) False
def te(Γ:Cx)(np:Nat):Prop:=∀i v,Γ.pv i=some v->E3 np i=true
theorem l5{Γ:Cx}{nt np:Nat}(s7:te Γ np){n:Nat}:∀{rn:List (Nat × Nat)} {T:TM} {H:HM} {ρ:RM} {F:FM} {a:Act} {w:World} {K:TM->HM->Prop},ta np rn T H K->St Γ nt T H ρ F a w->iI ρ n->(∀p∈rn,p.2<n)->
 ∃T' H' ρ' F',K T' H'/\St Γ nt T' H' ρ' F' a w/\iI ρ' n
 |[],T,H,ρ,F,a,w,K,h,hS,hf,_=>⟨T,H,ρ,F,h,hS,hf⟩
 |p::r,T,H,ρ,F,a,w,K,h,hS,hf,eu=>by
  simp only[ta]at h;obtain⟨hb,h⟩:=ie h;simp only[Wr,ab,Bool.not_eq_true']at hb;obtain⟨b1,b2,b3,b4⟩:=hb;have jr:=Bl b3;have hd:H p.2= .dead:=by
   split at b4
   ·assumption
   ·cases b4
  have hp:∀i,E3 np i=false->Γ.pv i=none:=fun i hi=>by
   cases hv:Γ.pv i with
   |none=>rfl
   |some v=>have:=s7 i v hv;rw[hi]at this;cases this
  have jA:=hS.N2 jr hd (hp _ b1) (hp _ b2);refine l5 s7 h jA (fun i hi=>?_) fun q hq=>eu q (by simp[hq])
  have h2:=eu p (by simp);unfold rR;rw[if_neg (by omega)];split
  ·rfl
  ·exact hf i hi
def l4(ops:List Oper)(j:Nat):Bool:=ops.any fun o=>match o.guard with|some (g,_)=>Nat.beq g j|none=>false
def xX(nt:Nat):Option Nat->Bool
 |some d=>Nat.blt d nt
 |none=>true
def same(a b:Bool):Bool:=match a,b with|true,true=>true|false,false=>true|_,_=>false
theorem yY{a b:Bool}:same a b=true↔a=b:=by cases a<;>cases b<;>simp[same]
def Nb(n:Nat)(rn:List (Nat × Nat)):Bool:=rn.all fun p=>Nat.blt p.2 n
def lit(n:Nat)(K:Nat->Prop):Prop:=match n with|0=>K 0|k+1=>K (k+1)
theorem J9{n:Nat}{K:Nat->Prop}:lit n K=K n:=by cases n<;>rfl
def fcC(x:CV)(K:CV->Prop):Prop:=
 match x with
 | .any=>K .any
 | .val v=>K (.val v)
 | .cb b=>K (.cb b)
 | .ro s r=>K (.ro s r)
 | .rp s c=>K (.rp s c)
 | .own t s r=>K (.own t s r)
 | .fQ v t s r=>K (.fQ v t s r)
 | .ows t s r=>K (.ows t s r)
 | .op c=>K (.op c)
 | .jB t e s=>K (.jB t e s)
def fcS(s:SV)(K:SV->Prop):Prop:=
 match s with
 | .any=>K .any
 | .c x=>fcC x fun y=>K (.c y)
 | .a n cs=>K (.a n cs)
 | .lp i o=>K (.lp i o)
 | .le i s x o=>K (.le i s x o)
 | .lw i=>K (.lw i)
 | .ls i s o l=>K (.ls i s o l)
 | .mp i=>K (.mp i)
 | .m cs=>K (.m cs)
 | .tup vs=>K (.tup vs)
 | .clo k c=>K (.clo k c)
def fcL(l:List (Nat × dW))(K:List (Nat × dW)->Prop):Prop:=
 match l with
 |[]=>K []
 |x::xs=>K (x::xs)
theorem VC{x:CV}{K:CV->Prop}:fcC x K=K x:=by cases x<;>rfl
theorem PH{s:SV}{K:SV->Prop}:fcS s K=K s:=by
 cases s<;>first|rfl|exact VC (K:=fun y=>K (.c y))
theorem Ox{l:List (Nat × dW)}{K:List (Nat × dW)->Prop}:fcL l K=K l:=by cases l<;>rfl
def Lh(np n:Nat)(E:iT)(T:TM)(d:Option Nat)(H:HM)(K:TM->HM->Nat->Prop):Prop:=
 match E with
 |⟨sv,ws,c,rn⟩=>lit (n+c) fun m=>fcS sv fun v=>fcL ws fun w=>cond (Nb m rn) (ta np rn (ff T d v) (du w H) fun T H=>K T H m) False
theorem P6{np n:Nat}{E:iT}{T:TM}{d:Option Nat}{H:HM}{K:TM->HM->Nat->Prop}:Lh np n E T d H K=cond (Nb (n+E.c) E.rn) (ta np E.rn (ff T d E.sv) (du E.ws H) fun T H=>K T H (n+E.c)) False:=by
 cases E;unfold Lh;simp only[J9,PH,Ox]
def kG(P:Program)(tbl:TT)(nt np:Nat)(all:List Oper):List Oper->Nat->TM->HM->Nat->(TM->HM->Nat->Prop)->Prop
 |[],_,T,H,n,K=>K T H n
 |o::rest,i,T,H,n,K=>
  cond (xX nt o.dst)
   (match o.guard with
   |none=>B0 false P tbl o.op o.type T H n fun E=>
    match l4 all i with
    |true=>match E.sv with
     | .c (.val (.bool b))=>bM b (kG P tbl nt np all rest (i+1) (ff T o.dst (.c (.cb true))) (du E.ws H) (n+E.c) K) (kG P tbl nt np all rest (i+1) (ff T o.dst (.c (.cb false))) (du E.ws H) (n+E.c) K)
     |_=>Lh np n E T o.dst H (kG P tbl nt np all rest (i+1) · · · K)
    |false=>Lh np n E T o.dst H (kG P tbl nt np all rest (i+1) · · · K)
   |some (j,want)=>
    match(all[j]?).bind (·.dst)with
    |some t=>match T t with
     | .c (.cb b)=>
       match same b want with
       |true=>B0 false P tbl o.op o.type T H n fun E=>
        match l4 all i with
        |true=>match E.sv with
         | .c (.val (.bool b))=>bM b (kG P tbl nt np all rest (i+1) (ff T o.dst (.c (.cb true))) (du E.ws H) (n+E.c) K) (kG P tbl nt np all rest (i+1) (ff T o.dst (.c (.cb false))) (du E.ws H) (n+E.c) K)
         |_=>Lh np n E T o.dst H (kG P tbl nt np all rest (i+1) · · · K)
        |false=>Lh np n E T o.dst H (kG P tbl nt np all rest (i+1) · · · K)
       |false=>kG P tbl nt np all rest (i+1) (ff T o.dst (.tup [])) H n K
     | .tup []=>kG P tbl nt np all rest (i+1) (ff T o.dst (.tup [])) H n K
     |_=>False
    |none=>False) False
def Uf(P:Program)(tbl:TT)(nt np:Nat)(all:List Oper)(o:Oper)(ih:Nat->TM->HM->Nat->(TM->HM->Nat->Prop)->Prop)(i:Nat)(T:TM)(H:HM)(n:Nat)(K:TM->HM->Nat->Prop):Prop:=
    cond (xX nt o.dst)
     (match o.guard with
     |none=>B0 false P tbl o.op o.type T H n fun E=>
      match l4 all i with
      |true=>match E.sv with
       | .c (.val (.bool b))=>bM b (ih (i+1) (ff T o.dst (.c (.cb true))) (du E.ws H) (n+E.c) K) (ih (i+1) (ff T o.dst (.c (.cb false))) (du E.ws H) (n+E.c) K)
       |_=>Lh np n E T o.dst H (ih (i+1) · · · K)
      |false=>Lh np n E T o.dst H (ih (i+1) · · · K)
     |some (j,want)=>
      match(all[j]?).bind (·.dst)with
      |some t=>match T t with
       | .c (.cb b)=>
         match same b want with
         |true=>B0 false P tbl o.op o.type T H n fun E=>
          match l4 all i with
          |true=>match E.sv with
           | .c (.val (.bool b))=>bM b (ih (i+1) (ff T o.dst (.c (.cb true))) (du E.ws H) (n+E.c) K) (ih (i+1) (ff T o.dst (.c (.cb false))) (du E.ws H) (n+E.c) K)
           |_=>Lh np n E T o.dst H (ih (i+1) · · · K)
          |false=>Lh np n E T o.dst H (ih (i+1) · · · K)
         |false=>ih (i+1) (ff T o.dst (.tup [])) H n K
       | .tup []=>ih (i+1) (ff T o.dst (.tup [])) H n K
       |_=>False
      |none=>False) False
def wX(P:Program)(tbl:TT)(nt np:Nat)(all l:List Oper):Nat->TM->HM->Nat->(TM->HM->Nat->Prop)->Prop:=
 List.rec (fun _ T H n K=>K T H n) (fun o _ ih=>Uf P tbl nt np all o ih) l
theorem xm{P:Program}{tbl:TT}{nt np:Nat}{all:List Oper}:∀l,wX P tbl nt np all l=fun i T H n K=>kG P tbl nt np all l i T H n K
 |[]=>rfl
 |o::rest=>by
  show Uf P tbl nt np all o (wX P tbl nt np all rest)=_;rw[xm rest];rfl
section
variable{P:Program}{tbl:TT}{Γ:Cx}{nt np:Nat}{T:TM}{H:HM}{ρ:RM}{F:FM}{a:Act}{w:World}
theorem St.put(hS:St Γ nt T H ρ F a w){d:Option Nat}{sv:SV}{v:Value}(hd:xX nt d=true)(hT:bJ ρ w (bg Γ F w) sv v):St Γ nt (ff T d sv) H ρ F (a.put d v) w:=by
 cases d with
 |none=>exact hS
 |some d=>
  have eu:d<nt:=by simpa[xX,Nat.blt_eq]using hd
  refine⟨hS.mem,hS.defers,by simpa[Act.put]using hS.nt,fun i=>?_⟩;simp only[ff,Dm,Act.put];cases hb:Nat.beq i d with
  |true=>
   have:=ae hb;subst this;have:(a.tmps.setIfInBounds i v).getD i undef=v:=by
        simp[Array.getD,hS.nt,eu]
   simp only[cond];rw[this];exact hT
  |false=>
   have jr:=Bl hb;have:(a.tmps.setIfInBounds d v).getD i undef=a.tmps.getD i undef:=by
        rw[Array.getD_eq_getD_getElem?,Array.getD_eq_getD_getElem?,Array.getElem?_setIfInBounds_ne (by omega)]
   simp only[cond];rw[this];exact hS.tmps i
theorem GC(hS:St Γ nt T H ρ F a w){t:Nat}{b:Bool}(h:T t= .c (.cb b)):a.tmps[t]? =some (.bool b):=by
 have:=hS.tmps t;rw[h]at this;have hv:=pQ (b9.jM this);rw[Array.getD_eq_getD_getElem?]at hv;cases hc:a.tmps[t]? with
 |none=>rw[hc]at hv;simp[undef]at hv
 |some v=>rw[hc]at hv;simp at hv;rw[hv]
theorem Gt(hS:St Γ nt T H ρ F a w){t:Nat}(h:T t= .tup []):(match(some t).bind (a.tmps[·]?)with|some (.bool b)=>some b|_=>none)=none:=by
 have h1:=hS.tmps t;rw[h]at h1;have hv:a.tmps.getD t undef= .tuple #[]:=by
  generalize a.tmps.getD t undef=u at h1;cases h1 with
  | @tup _ vs hl _=>
    cases vs with
    |nil=>rfl
    |cons _ _=>simp at hl
  |v h=>cases h with|c h=>cases h
 rw[Array.getD_eq_getD_getElem?]at hv;simp only[Option.bind_some];cases hc:a.tmps[t]? with
 |none=>rfl
 |some v=>rw[hc]at hv;simp at hv;rw[hv]
theorem St.move(hS:St Γ nt T H ρ F a w){H':HM}{ρ':RM}{F':FM}{w':World}(h1:Mem Γ H' ρ' F' w')(h2:Ext ρ ρ')(h3:∀b,bg Γ F w b->bg Γ F' w' b)(h4:∀b,bg Γ F w b->w'.heap[b]? =w.heap[b]?):St Γ nt T H' ρ' F' a w':=
 ⟨h1,hS.defers,hS.nt,fun i=>(hS.tmps i).mono h4 h3 h2⟩
theorem AD{ρ ρ':RM}{n c:Nat}(hf:iI ρ n)(h:∀i,ρ' i≠ρ i->n≤i/\i<n+c):iI ρ' (n+c):=by
 intro i hi;by_cases e:ρ' i=ρ i
 ·rw[e];exact hf i (by omega)
 ·have:=h i e;omega
def AY(ρ:RM)(n:Nat):RM:=fun i=>match ρ i with|some v=>some v|none=>if i<n then some undef else none
theorem vE(ρ:RM)(n:Nat):Ext ρ (AY ρ n):=fun i v h=>by
 unfold AY;rw[h]
theorem Dd{ρ:RM}{n:Nat}(h:iI ρ n):iI (AY ρ n) n:=fun i hi=>by
 unfold AY;rw[h i hi];exact if_neg (by omega)
theorem C4{ρ:RM}{n i:Nat}(h:i<n):AY ρ n i≠none:=by
 unfold AY;split
 ·simp
 ·rw[if_pos h];simp
theorem Lo{Γ:Cx}{nt:Nat}{T:TM}{H:HM}{ρ:RM}{F:FM}{a:Act}{w:World}(hS:St Γ nt T H ρ F a w)(n:Nat):St Γ nt T H (AY ρ n) F a w:=by
 obtain⟨m,h1,h2,h3⟩:=hS;refine⟨⟨fun i=>?_,m.kO,m.nodup,m.lt,m.src,m.oN,m.frame,m.size,m.os,m.tape,m.output,fun i v h=>vE ρ n i v (m.CR i v h)⟩,h1,h2,fun i=>(h3 i).mono (fun _ _=>rfl) (fun _ h=>h) (vE ρ n)⟩;have h:=m.blocks i;cases hv:ρ i with
 |some v=>
  rw[vE ρ n i v hv];rw[hv]at h;exact h.mono (fun _ _=>rfl) (fun _ h=>h) (fun _ _=>rfl) (vE ρ n)
 |none=>
  rw[hv]at h;generalize H i=B at h;generalize F i=f at h;cases h;exact .dead
theorem gV(dC:en P tbl)(s7:te Γ np){ops:Array Oper}{Q:Exit->Act->World->Prop}{l2:List Oper}{K:TM->HM->Nat->Prop}(hK:∀T H n ρ F a w,K T H n->St Γ nt T H ρ F a w->iI ρ n->wpList P ops Q l2 a w):
 ∀(rest:List Oper) (i:Nat) {T:TM} {H:HM} {n:Nat} {ρ:RM} {F:FM} {a:Act} {w:World},kG P tbl nt np ops.toList rest i T H n K->St Γ nt T H ρ F a w->iI ρ n->wpList P ops Q (rest++l2) a w
 |[],i,T,H,n,ρ,F,a,w,h,hS,hf=>hK _ _ _ _ _ _ _ h hS hf
 |o::rest,i,T,H,n,ρ,F,a,w,h,hS,hf=>by
  simp only[kG]at h;obtain⟨hd,h⟩:=ie h;have after:∀{T:TM} {H:HM} {n:Nat} {ρ:RM} {F:FM} {a:Act} {w:World} {E:iT} {d:Option Nat},Lh np n E T d H (kG P tbl nt np ops.toList rest (i+1) · · · K)->St Γ nt (ff T d E.sv) (du E.ws H) ρ F a w->iI ρ (n+E.c)->wpList P ops Q (rest++l2) a w:=by
   intro T H n ρ F a w E d h hS hf;rw[P6]at h;obtain⟨hb,h⟩:=ie h;obtain⟨T',H',ρ',F',h1,h2,h3⟩:=l5 s7 h hS hf fun p hp=>by
        have:=aj.1 hb p hp;rwa[Nat.blt_eq]at this
   exact gV dC s7 hK rest (i+1) h1 h2 h3
  have exec:∀{T:TM} {H:HM} {n:Nat} {ρ:RM} {F:FM} {a:Act} {w:World},St Γ nt T H ρ F a w->iI ρ n->(B0 false P tbl o.op o.type T H n fun E=>
        match l4 ops.toList i with
        |true=>match E.sv with
         | .c (.val (.bool b))=>bM b (kG P tbl nt np ops.toList rest (i+1) (ff T o.dst (.c (.cb true))) (du E.ws H) (n+E.c) K) (kG P tbl nt np ops.toList rest (i+1) (ff T o.dst (.c (.cb false))) (du E.ws H) (n+E.c) K)
         |_=>Lh np n E T o.dst H (kG P tbl nt np ops.toList rest (i+1) · · · K)
        |false=>Lh np n E T o.dst H (kG P tbl nt np ops.toList rest (i+1) · · · K))->o.wp P a w (wpList P ops Q (rest++l2)) Q:=by
   intro T H n ρ F a w hS hf h;have hS:=Lo hS n;have hf:=Dd hf;refine wM dC hS (n9.refl H) h (fun E _ i h1 _=>hf i h1) (fun _=>⟨hf,fun i hi=>C4 hi,rfl⟩) ?_;intro E ρ' F' v w' hk g1 g2 g3 g4 g5 g6;have jA:=hS.move g3 g1 g4 g5;have IE:=AD hf g2;split at hk
   ·split at hk
    ·rename_i b wm;rw[wm]at g6;have hv:=fD (b9.jM g6);subst hv;cases b with
     |true=>exact gV dC s7 hK rest (i+1) (hk.t rfl) (jA.put hd (eD (.cb .nil))) IE
     |false=>exact gV dC s7 hK rest (i+1) (hk.f rfl) (jA.put hd (eD (.cb .nil))) IE
    ·exact after hk (jA.put hd g6) IE
   ·exact after hk (jA.put hd g6) IE
  rw[List.cons_append];unfold wpList;split at h
  ·rename_i hg;rw[if_pos (by simp[Region.wanted,hg])];exact .inl (exec hS hf h)
  ·rename_i j want hg;split at h
   ·rename_i t ht;split at h
    ·rename_i b hb;have hy:yielded ops a.tmps j=some b:=by
      unfold yielded;have:(ops[j]?).bind (·.dst)=some t:=by simpa using ht
      rw[this];simp[GC hS hb]
     split at h
     ·rename_i hs;have:=yY.1 hs;subst this;rw[if_pos (by simp[Region.wanted,hg,hy])];exact .inl (exec hS hf h)
     ·rename_i hs;have jr:b≠want:=by intro e;rw[yY.2 e]at hs;cases hs
      rw[if_neg (by simp[Region.wanted,hg,hy,jr])];exact gV dC s7 hK rest (i+1) h (hS.put hd (.tup (vs:=[]) rfl (by simp))) hf
    ·rename_i hb;have hy:yielded ops a.tmps j=none:=by
      unfold yielded;have h0:(ops[j]?).bind (·.dst)=some t:=by simpa using ht
      rw[h0];exact Gt hS hb
     rw[if_neg (by simp[Region.wanted,hg,hy])];exact gV dC s7 hK rest (i+1) h (hS.put hd (.tup (vs:=[]) rfl (by simp))) hf
    ·exact h.elim
   ·exact h.elim
end
end Go.KA
