/- Part of a proof engine for functions of the given program: what an operation, a loop and a call compute, symbolically. No conditions. -/
import Derived.Test.YtgbggaddpbghfaaGreatEngO
namespace Go.KA
open Go Go.RowKit
def rD(ops:List Oper)(o:Oper):List Nat:=
 (o.op.operands.toList.filterMap fun| .tmp t=>some t|_=>none)++
 (match o.guard with
  |some (g,_)=>match ops[g]? with
   |some q=>match q.dst with|some t=>[t]|none=>[]
   |none=>[]
  |none=>[])
def gq(o:Oper):List Nat:=(o.after.toList.filter (Region.binds .any)).map (·.on)
def Of(ops:List Oper)(i:Nat)(oi:Oper)(j:Nat)(oj:Oper):Bool:=
 match Nat.beq i j with
 |true=>true
 |false=>match oj.dst with
  |none=>true
  |some d=>(match oi.dst with|some e=> !Nat.beq d e|none=>true)&&(!jt (rD ops oi) d||(match Nat.blt j i with|true=>jt (gq oi) j|false=>jt (gq oj) i))
def jk{α:Type}:List α->Nat->List (Nat × α)
 |[],_=>[]
 |x::xs,n=>(n,x)::jk xs (n+1)
def ux(ops:List Oper):Bool:=
 (jk ops 0).all fun p=>(gq p.2).all (fun e=>Nat.blt e p.1)&&(jk ops 0).all fun q=>Of ops p.1 p.2 q.1 q.2
theorem kq{α:Type}:∀(l:List α) (n i:Nat) (x:α),l[i]? =some x->(n+i,x)∈jk l n
 |[],n,i,x,h=>by simp at h
 |y::ys,n,i,x,h=>by
  cases i with
  |zero=>simp at h;subst h;simp[jk]
  |succ i=>
   have:=kq ys (n+1) i x (by simpa using h);rw[show n+1+i=n+(i+1) by omega]at this;simp[jk,this]
structure Kq(ops:List Oper):Prop where
 back:∀(i:Nat) o,ops[i]? =some o-> ∀e∈gq o,e<i
 one:∀(i j:Nat) oi oj d,ops[i]? =some oi->ops[j]? =some oj->i≠j->oj.dst=some d->oi.dst≠some d
 rd:∀(i j:Nat) oi oj d,ops[i]? =some oi->ops[j]? =some oj->i≠j->oj.dst=some d->d∈rD ops oi->(j<i/\j∈gq oi)\/(i<j/\i∈gq oj)
theorem tm{ops:List Oper}(h:ux ops=true):Kq ops:=by
 have h0:=aj.1 h;have get:∀(i j:Nat) oi oj d,ops[i]? =some oi->ops[j]? =some oj->i≠j->oj.dst=some d->
  ((match oi.dst with|some e=> !Nat.beq d e|none=>true)=true/\(!jt (rD ops oi) d||(match Nat.blt j i with|true=>jt (gq oi) j|false=>jt (gq oj) i))=true):=by
  intro i j oi oj d hi hj jr hd;have h1:=h0 _ (kq ops 0 i oi hi);simp only[ab]at h1;have h2:=aj.1 h1.2 _ (kq ops 0 j oj hj);simp only[Nat.zero_add]at h2;unfold Of at h2;have hb:Nat.beq i j=false:=by
   cases hb:Nat.beq i j with
   |true=>exact absurd (ae hb) jr
   |false=>rfl
  rw[hb,hd]at h2;simpa only[ab]using h2
 refine⟨fun i o hi e he=>?_,fun i j oi oj d hi hj jr hd heq=>?_,fun i j oi oj d hi hj jr hd hr=>?_⟩
 ·have h1:=h0 _ (kq ops 0 i o hi);simp only[ab,Nat.zero_add]at h1;have:=aj.1 h1.1 e he;rwa[Nat.blt_eq]at this
 ·have:=(get i j oi oj d hi hj jr hd).1;rw[heq]at this;simp at this
 ·have:=(get i j oi oj d hi hj jr hd).2;rw[jg.2 hr]at this;simp only[Bool.not_true,Bool.false_or]at this;split at this
  ·rename_i hb;rw[Nat.blt_eq]at hb;exact .inl ⟨hb,jg.1 this⟩
  ·rename_i hb;have:¬j<i:=by intro hh;rw[<-Nat.blt_eq]at hh;rw[hh]at hb;cases hb
   exact .inr ⟨by omega,jg.1 ‹_›⟩
def tF(ops:List Oper)(R:Nat->SV)(S:Nat->Bool)(T:TM):TM:=fun t=>
 match(List.range ops.length).find? fun i=>S i&&(ops[i]?).any (fun o=>decide (o.dst=some t))with
 |some i=>R i
 |none=>T t
section
variable{ops:List Oper}{R:Nat->SV}{S S':Nat->Bool}{T:TM}
theorem JI(hd:Kq ops){j:Nat}{o:Oper}{t:Nat}(hj:ops[j]? =some o)(ht:o.dst=some t)(hs:S j=true):tF ops R S T t=R j:=by
 unfold tF;have eu:j<ops.length:=(List.getElem?_eq_some_iff.1 hj).1;cases hf:(List.range ops.length).find? fun i=>S i&&(ops[i]?).any (fun o=>decide (o.dst=some t))with
 |none=>
  have:=List.find?_eq_none.1 hf j (by simp[eu]);simp[hs,hj,ht]at this
 |some k=>
  have hk:=List.find?_some hf;simp only[ab]at hk;cases hko:ops[k]? with
  |none=>rw[hko]at hk;simp at hk
  |some ok=>
   rw[hko]at hk;have Ry:ok.dst=some t:=by simpa using hk.2
   by_cases e:j=k
   ·rw[e]
   ·exact absurd Ry (hd.one k j ok o t hko hj (fun h=>e h.symm) ht)
theorem yQ{t:Nat}(h:∀(j:Nat) o,ops[j]? =some o->o.dst=some t->S j=false):tF ops R S T t=T t:=by
 unfold tF;cases hf:(List.range ops.length).find? fun i=>S i&&(ops[i]?).any (fun o=>decide (o.dst=some t))with
 |none=>rfl
 |some k=>
  have hk:=List.find?_some hf;simp only[ab]at hk;cases hko:ops[k]? with
  |none=>rw[hko]at hk;simp at hk
  |some ok=>
   rw[hko]at hk;have Ry:ok.dst=some t:=by simpa using hk.2
   rw[h k ok hko Ry]at hk;simp at hk
theorem rT(hd:Kq ops){t:Nat}(h:∀(j:Nat) o,ops[j]? =some o->o.dst=some t->S' j=S j):tF ops R S' T t=tF ops R S T t:=by
 by_cases hx:∃j o,ops[j]? =some o/\o.dst=some t/\S j=true
 ·obtain⟨j,o,hj,ht,hs⟩:=hx;rw[JI hd hj ht hs,JI hd hj ht ((h j o hj ht).trans hs)]
 ·have hs:∀(j:Nat) o,ops[j]? =some o->o.dst=some t->S j=false:=by
   intro j o hj ht;cases hs:S j with
   |false=>rfl
   |true=>exact(hx ⟨j,o,hj,ht,hs⟩).elim
  rw[yQ hs,yQ fun j o hj ht=>(h j o hj ht).trans (hs j o hj ht)]
theorem Oy(hd:Kq ops){i:Nat}{o:Oper}(hi:ops[i]? =some o)(jA:S' i=true)(h:∀j,j<ops.length->j≠i->S' j=S j):tF ops R S' T=ff (tF ops R S T) o.dst (R i):=by
 funext t
 cases Ho:o.dst with
 |none=>
  simp only[ff];refine rT hd fun j q hj hq=>h j (List.getElem?_eq_some_iff.1 hj).1 ?_
  intro e;subst e;rw[hi]at hj;injection hj with hj
  subst hj;rw[Ho]at hq;cases hq
 |some d=>
  simp only[ff,Dm];cases hb:Nat.beq t d with
  |true=>
   have:=ae hb;subst this;exact JI hd hi Ho jA
  |false=>
   have jr:=Bl hb;refine rT hd fun j q hj hq=>h j (List.getElem?_eq_some_iff.1 hj).1 ?_
   intro e;subst e;rw[hi]at hj;injection hj with hj
   subst hj;rw[Ho]at hq;injection hq with hq
   exact jr hq.symm
end
def Ac(ops:List Oper)(S:Nat->Bool):Prop:=∀(i:Nat) o,ops[i]? =some o->S i=true-> ∀e∈gq o,S e=true
theorem PY{ops:List Oper}{R:Nat->SV}{S:Nat->Bool}{T:TM}(hd:Kq ops)(hc:Ac ops S){i:Nat}{o:Oper}(hi:ops[i]? =some o)(hs:S i=false)(hp:∀e∈gq o,S e=true){t:Nat}(ht:t∈rD ops o):
 tF ops R S T t=tF ops R (fun j=>Nat.blt j i) T t:=by
 refine rT hd fun j q hj hq=>?_
 by_cases e:j=i
 ·subst e;rw[hs];cases hb:Nat.blt j j with
  |false=>rfl
  |true=>rw[Nat.blt_eq]at hb;omega
 ·rcases hd.rd i j o q t hi hj (fun h=>e h.symm) hq ht with⟨h1,h2⟩|⟨h1,h2⟩
  ·rw[hp j h2,eq_comm,Nat.blt_eq];exact h1
  ·cases X6:S j with
   |true=>rw[hc j q hj X6 i h2]at hs;cases hs
   |false=>
    cases hb:Nat.blt j i with
    |false=>rfl
    |true=>rw[Nat.blt_eq]at hb;omega
def wW:SV->List Nat
 | .lp i _=>[i]
 | .le i _ _ _=>[i]
 | .lw i=>[i]
 | .ls i _ _ _=>[i]
 | .mp i=>[i]
 |_=>[]
def Wk:SV->List Nat
 | .m cs=>cs.flatMap wW
 | .clo _ cs=>cs.flatMap wW
 | .tup cs=>cs.flatMap fun s=>match s with| .m cs=>cs.flatMap wW|s=>wW s
 |x=>wW x
def reach(H:HM):Nat->List Nat->List Nat
 |0,l=>l
 |k+1,l=>l++l.flatMap fun i=>match H i with| .cells cs=>reach H k (cs.flatMap wW)|_=>[]
def MV(T:TM)(op:Op):List Nat:=op.operands.toList.flatMap fun x=>Wk (ev T x)
def opened(H:HM):Nat->List Nat
 |0=>[]
 |k+1=>match H k with
  | .row (some _) _ _ _=>k::opened H k
  | .aU (some _) _ _ _=>k::opened H k
  |_=>opened H k
def eO(op:Op)(T:TM)(H:HM):List Nat:=
 match op with
 | .call c=>match c.callee with
   | .value _=>reach H 4 (MV T op)
   |_=>MV T op
 | .move _=>[]
 | .assign _=>[]
 | .pick _ _ _=>[]
 | .extract _ _=>[]
 | .nilCheck _=>[]
 | .fieldAddr _ _ _=>[]
 | .box _ _=>[]
 | .build _ _=>[]
 | .makeFunc _ _ _=>[]
 | .load _ x=>match ev T x with
   | .le j _ _ _=>match H j with
     | .aU _ _ _ _=>j::opened H 24
     |_=>[j]
   | .lp j _=>j::opened H 24
   |_=>MV T op
 | .store _ x _=>match ev T x with
   | .lp j _=>match H j with
     | .cells _=>[j]
     | .cc _ _=>[j]
     |_=>MV T op
   |_=>MV T op
 |_=>MV T op
def oo(l:List Nat)(H:HM):HM:=fun k=>cond (jt l k) (H k) .dead
theorem Pz(l:List Nat)(H:HM):n9 (oo l H) H:=by
 intro i;unfold oo;cases jt l i with
 |true=>exact .inr rfl
 |false=>exact .inl rfl
theorem FF{l:List Nat}{H H':HM}(h:∀k∈l,H k=H' k):oo l H=oo l H':=by
 funext k
 unfold oo;cases hb:jt l k with
 |true=>simp only[cond];exact h k (jg.1 hb)
 |false=>rfl
structure Rc where
 τ:List Nat
 ws:List Nat
def Ib(a b:List Nat):Bool:=a.all fun x=> !jt b x
def mf(l:List Nat)(x:Nat):List Nat:=match jt l x with|true=>l|false=>x::l
def Vh(l:List Nat):List Nat->List Nat
 |[]=>l
 |x::xs=>Vh (mf l x) xs
theorem KZ{x:Nat}:∀{m l:List Nat},x∈Vh l m->x∈l\/x∈m
 |[],l,h=> .inl h
 |y::ys,l,h=>by
  rcases KZ (m:=ys) h with h|h
  ·unfold mf at h;split at h
   ·exact .inl h
   ·rcases List.mem_cons.1 h with h|h
    ·exact .inr (by simp[h])
    ·exact .inl h
  ·exact .inr (by simp[h])
def pE:List Oper->List (List Nat)->List (List Nat)
 |[],acc=>acc
 |o::r,acc=>pE r (acc++[(gq o).foldl (fun l e=>Vh l (e::(acc[e]?).getD [])) []])
def ke(p:List (List Nat))(i:Nat)(ri:Rc)(j:Nat)(rj:Rc):Bool:=
 match Nat.blt i j with
 |false=>true
 |true=>match jt ((p[j]?).getD []) i with
  |true=>true
  |false=>Ib rj.ws (ri.τ++ri.ws)&&Ib ri.ws rj.τ
def P4(ops:List Oper)(rs:List Rc):Bool:=
 (jk rs 0).all fun p=>(jk rs 0).all fun q=>ke (pE ops []) p.1 p.2 q.1 q.2
def SH(n:Nat)(K:Nat->Bool):Bool:=match n with|0=>K 0|k+1=>K (k+1)
theorem LF(n:Nat)(K:Nat->Bool):SH n K=K n:=by cases n<;>rfl
def Hi:List Nat->Nat
 |[]=>0
 |x::xs=>Nat.lor (Nat.pow 2 x) (Hi xs)
def S7:List Rc->(List (Nat × Nat)->Bool)->Bool
 |[],K=>K []
 |r::rs,K=>SH (Hi r.ws) fun w=>SH (Nat.lor (Hi r.τ) w) fun t=>S7 rs fun l=>K ((w,t)::l)
def WE(acc:List Nat)(es:List Nat)(m:Nat):Nat:=es.foldl (fun m e=>Nat.lor m (Nat.lor (Nat.pow 2 e) ((acc[e]?).getD 0))) m
def Sb:List Oper->List Nat->(List Nat->Bool)->Bool
 |[],acc,K=>K acc
 |o::r,acc,K=>SH (WE acc (gq o) 0) fun m=>Sb r (acc++[m]) K
def Ub(pj i:Nat)(ri rj:Nat × Nat):Bool:=match E3 pj i with|true=>true|false=>Nat.beq (Nat.land rj.1 ri.2) 0&&Nat.beq (Nat.land ri.1 rj.2) 0
def qd(ops:List Oper)(rs:List Rc):Bool:=
 Sb ops [] fun ps=>S7 rs fun ms=>(jk ms 0).all fun q=>(jk ms 0).all fun p=>match Nat.blt p.1 q.1 with|false=>true|true=>Ub ((ps[q.1]?).getD 0) p.1 p.2 q.2
def wA:List Oper->List Nat->List Nat
 |[],acc=>acc
 |o::r,acc=>wA r (acc++[WE acc (gq o) 0])
theorem Ly:∀(ops:List Oper) (acc:List Nat) (K:List Nat->Bool),Sb ops acc K=K (wA ops acc)
 |[],_,_=>rfl
 |o::r,acc,K=>by simp only[Sb,LF,wA];exact Ly r _ K
theorem Lg:∀(rs:List Rc) (K:List (Nat × Nat)->Bool),S7 rs K=K (rs.map fun r=>(Hi r.ws,Nat.lor (Hi r.τ) (Hi r.ws)))
 |[],_=>rfl
 |r::rs,K=>by simp only[S7,LF,List.map_cons];exact Lg rs _
theorem sa(a b i:Nat):(Nat.lor a b).testBit i=(a.testBit i||b.testBit i):=Nat.testBit_or a b i
theorem DH(m i:Nat):E3 m i=m.testBit i:=by
 unfold E3 Nat.testBit;show Nat.beq ((m>>>i) &&& 1) 1=(1 &&& (m>>>i) != 0);rw[Nat.and_comm,Nat.one_and_eq_mod_two];rcases Nat.mod_two_eq_zero_or_one (m>>>i)with h|h<;>rw[h]<;>rfl
theorem o0{x:Nat}:∀{l:List Nat},x∈l->(Hi l).testBit x=true
 |y::ys,h=>by
  simp only[Hi,sa];rcases List.mem_cons.1 h with rfl|h
  ·have:(Nat.pow 2 x).testBit x=true:=Nat.testBit_two_pow_self;rw[this];rfl
  ·rw[o0 h,Bool.or_true]
theorem Tc{e i:Nat}(h:(Nat.pow 2 e).testBit i=true):i=e:=by
 have h:(2^e).testBit i=true:=h;rw[Nat.testBit_two_pow]at h;exact(of_decide_eq_true h).symm
theorem Ih{acc:List Nat}{IJ:List (List Nat)}(h:∀e i:Nat,((acc[e]?).getD 0).testBit i=true->i∈(IJ[e]?).getD []):∀(es:List Nat) (m:Nat) (l:List Nat),(∀i,m.testBit i=true->i∈l)->
 ∀i,(WE acc es m).testBit i=true->i∈es.foldl (fun l e=>Vh l (e::(IJ[e]?).getD [])) l
 |[],m,l,hm,i,hi=>hm i hi
 |e::es,m,l,hm,i,hi=>by
  refine Ih h es _ _ (fun i hi=>?_) i hi;simp only[sa,Bool.or_eq_true]at hi;have key:∀(ys l:List Nat),(i∈l\/i∈ys)->i∈Vh l ys:=by
   intro ys
   induction ys with
   |nil=>intro l h;simpa[Vh]using h
   |cons y ys ih=>
    intro l h;refine ih _ ?_;unfold mf;rcases h with h|h
    ·left;split
     ·exact h
     ·exact List.mem_cons_of_mem _ h
    ·rcases List.mem_cons.1 h with rfl|h
     ·left;split
      ·rename_i hb;exact jg.1 hb
      ·exact List.mem_cons_self
     ·exact .inr h
  refine key _ _ ?_;rcases hi with hi|hi|hi
  ·exact .inl (hm i hi)
  ·exact .inr (by rw[Tc hi];simp)
  ·exact .inr (List.mem_cons_of_mem _ (h e i hi))
theorem ze:∀(ops:List Oper) (acc:List Nat) (IJ:List (List Nat)),acc.length=IJ.length->(∀e i:Nat,((acc[e]?).getD 0).testBit i=true->i∈(IJ[e]?).getD [])->
 ∀e i:Nat,(((wA ops acc)[e]?).getD 0).testBit i=true->i∈((pE ops IJ)[e]?).getD []
 |[],_,_,_,h=>h
 |o::r,acc,IJ,hl,h=>by
  refine ze r _ _ (by simp[hl]) fun e i hi=>?_
  by_cases eu:e<acc.length
  ·rw[List.getElem?_append_left eu]at hi;rw[List.getElem?_append_left (by omega)];exact h e i hi
  ·rw[List.getElem?_append_right (by omega)]at hi;rw[List.getElem?_append_right (by omega),<-hl];by_cases he:e-acc.length=0
   ·rw[he]at hi⊢;exact Ih h _ 0 [] (fun i hi=>by simp at hi) i hi
   ·obtain⟨k,hk⟩:∃k,e-acc.length=k+1:=⟨e-acc.length-1,by omega⟩
    rw[hk]at hi;simp at hi
theorem TW{a b i:Nat}(h:Nat.beq (Nat.land a b) 0=true)(ha:a.testBit i=true)(hb:b.testBit i=true):False:=by
 have h:=ae h;have h2:(Nat.land a b).testBit i=(a.testBit i&&b.testBit i):=Nat.testBit_and a b i;rw[h,ha,hb]at h2;simp at h2
theorem Gv{α β:Type}(g:α->β):∀(l:List α) (n:Nat),jk (l.map g) n=(jk l n).map fun p=>(p.1,g p.2)
 |[],_=>rfl
 |x::xs,n=>by simp only[List.map_cons,jk];rw[Gv g xs (n+1)]
theorem MO{ops:List Oper}{rs:List Rc}(h:qd ops rs=true):P4 ops rs=true:=by
 unfold qd at h;rw[Ly,Lg]at h;rw[Gv]at h;refine aj.2 fun p hp=>aj.2 fun q hq=>?_
 have h1:=aj.1 h _ (List.mem_map.2 ⟨q,hq,rfl⟩);have h2:=aj.1 h1 _ (List.mem_map.2 ⟨p,hp,rfl⟩);unfold ke;simp only at h2;cases hb:Nat.blt p.1 q.1 with
 |false=>rfl
 |true=>
  rw[hb]at h2;simp only[Ub]at h2;cases hm:jt (((pE ops [])[q.1]?).getD []) p.1 with
  |true=>rfl
  |false=>
   have aaS:E3 (((wA ops [])[q.1]?).getD 0) p.1=false:=by
        cases hc:E3 (((wA ops [])[q.1]?).getD 0) p.1 with
        |false=>rfl
        |true=>
         rw[DH]at hc;have:=ze ops [] [] rfl (fun e i hi=>by simp at hi) _ _ hc;rw[jg.2 this]at hm;cases hm
   rw[aaS]at h2;simp only[ab]at h2;show(Ib q.2.ws (p.2.τ++p.2.ws)&&Ib p.2.ws q.2.τ)=true;rw[ab];constructor
   ·refine aj.2 fun x hx=>?_
    cases hc:jt (p.2.τ++p.2.ws) x with
    |false=>rfl
    |true=>
     refine(TW h2.1 (o0 hx) ?_).elim;rw[sa];rcases ao.1 (jg.1 hc)with hc|hc
     ·rw[o0 hc];rfl
     ·rw[o0 hc,Bool.or_true]
   ·refine aj.2 fun x hx=>?_
    cases hc:jt q.2.τ x with
    |false=>rfl
    |true=>
     refine(TW h2.2 (o0 hx) ?_).elim;rw[sa,o0 (jg.1 hc)];rfl
def Dt(P:Program)(tbl:TT)(nt np:Nat)(all:List Oper):List Oper->Nat->TM->HM->Nat->List Rc->List (Nat × Nat)->(TM->HM->Nat->Prop)->Prop
 |[],_,T,H,n,rs,rn,K=>bh (qd all rs=true) (cond (Nb n rn) (ta np rn T H fun T H=>K T H n) False)
 |o::rest,i,T,H,n,rs,rn,K=>
  cond (xX nt o.dst)
   (match o.guard with
   |none=>B0 true P tbl o.op o.type T (oo (eO o.op T H) H) n fun E=>
    match l4 all i with
    |true=>match E.sv with
     | .c (.val (.bool b))=>bM b (Dt P tbl nt np all rest (i+1) (ff T o.dst (.c (.cb true))) (du E.ws H) (n+E.c) (rs++[⟨eO o.op T H,E.ws.map (·.1)⟩]) (rn++E.rn) K) (Dt P tbl nt np all rest (i+1) (ff T o.dst (.c (.cb false))) (du E.ws H) (n+E.c) (rs++[⟨eO o.op T H,E.ws.map (·.1)⟩]) (rn++E.rn) K)
     |_=>Dt P tbl nt np all rest (i+1) (ff T o.dst E.sv) (du E.ws H) (n+E.c) (rs++[⟨eO o.op T H,E.ws.map (·.1)⟩]) (rn++E.rn) K
    |false=>Dt P tbl nt np all rest (i+1) (ff T o.dst E.sv) (du E.ws H) (n+E.c) (rs++[⟨eO o.op T H,E.ws.map (·.1)⟩]) (rn++E.rn) K
   |some (j,want)=>
    match(all[j]?).bind (·.dst)with
    |some t=>match T t with
     | .c (.cb b)=>
       match same b want with
       |true=>B0 true P tbl o.op o.type T (oo (eO o.op T H) H) n fun E=>
        match l4 all i with
        |true=>match E.sv with
         | .c (.val (.bool b))=>bM b (Dt P tbl nt np all rest (i+1) (ff T o.dst (.c (.cb true))) (du E.ws H) (n+E.c) (rs++[⟨eO o.op T H,E.ws.map (·.1)⟩]) (rn++E.rn) K) (Dt P tbl nt np all rest (i+1) (ff T o.dst (.c (.cb false))) (du E.ws H) (n+E.c) (rs++[⟨eO o.op T H,E.ws.map (·.1)⟩]) (rn++E.rn) K)
         |_=>Dt P tbl nt np all rest (i+1) (ff T o.dst E.sv) (du E.ws H) (n+E.c) (rs++[⟨eO o.op T H,E.ws.map (·.1)⟩]) (rn++E.rn) K
        |false=>Dt P tbl nt np all rest (i+1) (ff T o.dst E.sv) (du E.ws H) (n+E.c) (rs++[⟨eO o.op T H,E.ws.map (·.1)⟩]) (rn++E.rn) K
       |false=>Dt P tbl nt np all rest (i+1) (ff T o.dst (.tup [])) H n (rs++[⟨[],[]⟩]) rn K
     | .tup []=>Dt P tbl nt np all rest (i+1) (ff T o.dst (.tup [])) H n (rs++[⟨[],[]⟩]) rn K
     |_=>False
    |none=>False) False
def Bj(E:iT)(n:Nat)(K:SV->List (Nat × dW)->Nat->List (Nat × Nat)->Prop):Prop:=
 match E with
 |⟨sv,ws,c,rn⟩=>lit (n+c) fun m=>fcS sv fun v=>fcL ws fun w=>K v w m rn
theorem Tx{E:iT}{n:Nat}{K:SV->List (Nat × dW)->Nat->List (Nat × Nat)->Prop}:Bj E n K=K E.sv E.ws (n+E.c) E.rn:=by
 cases E;unfold Bj;simp only[J9,PH,Ox]
def stE(P:Program)(tbl:TT)(nt:Nat)(all:List Oper)(o:Oper)(ih:Nat->TM->HM->Nat->List Rc->List (Nat × Nat)->(TM->HM->Nat->Prop)->Prop)(i:Nat)(T:TM)(H:HM)(n:Nat)(rs:List Rc)(rn:List (Nat × Nat))(K:TM->HM->Nat->Prop):Prop:=
    cond (xX nt o.dst)
     (match o.guard with
     |none=>B0 true P tbl o.op o.type T (oo (eO o.op T H) H) n fun E=>
      match l4 all i with
      |true=>match E.sv with
       | .c (.val (.bool b))=>bM b (Bj E n fun _ w m r=>ih (i+1) (ff T o.dst (.c (.cb true))) (du w H) m (rs++[⟨eO o.op T H,w.map (·.1)⟩]) (rn++r) K) (Bj E n fun _ w m r=>ih (i+1) (ff T o.dst (.c (.cb false))) (du w H) m (rs++[⟨eO o.op T H,w.map (·.1)⟩]) (rn++r) K)
       |_=>Bj E n fun v w m r=>ih (i+1) (ff T o.dst v) (du w H) m (rs++[⟨eO o.op T H,w.map (·.1)⟩]) (rn++r) K
      |false=>Bj E n fun v w m r=>ih (i+1) (ff T o.dst v) (du w H) m (rs++[⟨eO o.op T H,w.map (·.1)⟩]) (rn++r) K
     |some (j,want)=>
      match(all[j]?).bind (·.dst)with
      |some t=>match T t with
       | .c (.cb b)=>
         match same b want with
         |true=>B0 true P tbl o.op o.type T (oo (eO o.op T H) H) n fun E=>
          match l4 all i with
          |true=>match E.sv with
           | .c (.val (.bool b))=>bM b (Bj E n fun _ w m r=>ih (i+1) (ff T o.dst (.c (.cb true))) (du w H) m (rs++[⟨eO o.op T H,w.map (·.1)⟩]) (rn++r) K) (Bj E n fun _ w m r=>ih (i+1) (ff T o.dst (.c (.cb false))) (du w H) m (rs++[⟨eO o.op T H,w.map (·.1)⟩]) (rn++r) K)
           |_=>Bj E n fun v w m r=>ih (i+1) (ff T o.dst v) (du w H) m (rs++[⟨eO o.op T H,w.map (·.1)⟩]) (rn++r) K
          |false=>Bj E n fun v w m r=>ih (i+1) (ff T o.dst v) (du w H) m (rs++[⟨eO o.op T H,w.map (·.1)⟩]) (rn++r) K
         |false=>ih (i+1) (ff T o.dst (.tup [])) H n (rs++[⟨[],[]⟩]) rn K
       | .tup []=>ih (i+1) (ff T o.dst (.tup [])) H n (rs++[⟨[],[]⟩]) rn K
       |_=>False
      |none=>False) False
def RJ(P:Program)(tbl:TT)(nt np:Nat)(all l:List Oper):Nat->TM->HM->Nat->List Rc->List (Nat × Nat)->(TM->HM->Nat->Prop)->Prop:=
 List.rec (fun _ T H n rs rn K=>bh (qd all rs=true) (cond (Nb n rn) (ta np rn T H fun T H=>K T H n) False)) (fun o _ ih=>stE P tbl nt all o ih) l
theorem K8{P:Program}{tbl:TT}{nt np:Nat}{all:List Oper}:∀l,RJ P tbl nt np all l=fun i T H n rs rn K=>Dt P tbl nt np all l i T H n rs rn K
 |[]=>rfl
 |o::rest=>by
  show stE P tbl nt all o (RJ P tbl nt np all rest)=_;rw[K8 rest]
  funext i T H n rs rn K
  simp only[stE,Dt,Tx]
structure R1 where
 sv:SV
 E:iT
 τ:List Nat
 n:Nat
def x6(n:Nat):R1:=⟨.tup [],⟨.any,[],0,[]⟩,[],n⟩
def LI(P:Program)(tbl:TT)(o:Oper)(T:TM)(H:HM)(r:R1):Prop:=
 (∀ρ w ok v,bJ ρ w ok r.E.sv v->bJ ρ w ok r.sv v)/\ ∀T',(∀x∈o.op.operands,ev T' x=ev T x)->B0 true P tbl o.op o.type T' (oo r.τ H) r.n fun E=>E=r.E
def T9(P:Program)(tbl:TT)(nt:Nat)(all:List Oper)(o:Oper)(T:TM)(H:HM)(r:R1):Prop:=
 xX nt o.dst=true/\match o.guard with
    |none=>LI P tbl o T H r
    |some (j,want)=>∃t,(all[j]?).bind (·.dst)=some t/\((∃b,T t= .c (.cb b)/\((b=want/\LI P tbl o T H r)\/(b≠want/\r=x6 r.n)))\/(T t= .tup []/\r=x6 r.n))
def Good(P:Program)(tbl:TT)(nt:Nat)(all:List Oper)(K:TM->HM->Nat->List Rc->List (Nat × Nat)->Prop):List Oper->TM->HM->Nat->List Rc->List (Nat × Nat)->List R1->Prop
 |[],T,H,n,rs,rn,l=>l=[]/\K T H n rs rn
 |o::rest,T,H,n,rs,rn,l=>∃r l',l=r::l'/\r.n=n/\T9 P tbl nt all o T H r/\Good P tbl nt all K rest (ff T o.dst r.sv) (du r.E.ws H) (n+r.E.c) (rs++[⟨r.τ,r.E.ws.map (·.1)⟩]) (rn++r.E.rn) l'
section
variable{P:Program}{tbl:TT}{nt np:Nat}{all:List Oper}
theorem m5:∀(rest:List Oper) (i:Nat) (T:TM) (H:HM) (n:Nat) (rs:List Rc) (rn:List (Nat × Nat)) {K:TM->HM->Nat->Prop},Dt P tbl nt np all rest i T H n rs rn K->
 ∃l,Good P tbl nt all (fun T H n rs rn=>qd all rs=true/\Nb n rn=true/\ta np rn T H fun T H=>K T H n) rest T H n rs rn l
 |[],i,T,H,n,rs,rn,K,h=>by
  obtain⟨h1,h2⟩:=h;obtain⟨h2,h3⟩:=ie h2;exact⟨[],rfl,h1,h2,h3⟩
 |o::rest,i,T,H,n,rs,rn,K,h=>by
  simp only[Dt]at h;obtain⟨hd,h⟩:=ie h;have run:(B0 true P tbl o.op o.type T (oo (eO o.op T H) H) n fun E=>
        match l4 all i with
        |true=>match E.sv with
         | .c (.val (.bool b))=>bM b (Dt P tbl nt np all rest (i+1) (ff T o.dst (.c (.cb true))) (du E.ws H) (n+E.c) (rs++[⟨eO o.op T H,E.ws.map (·.1)⟩]) (rn++E.rn) K) (Dt P tbl nt np all rest (i+1) (ff T o.dst (.c (.cb false))) (du E.ws H) (n+E.c) (rs++[⟨eO o.op T H,E.ws.map (·.1)⟩]) (rn++E.rn) K)
         |_=>Dt P tbl nt np all rest (i+1) (ff T o.dst E.sv) (du E.ws H) (n+E.c) (rs++[⟨eO o.op T H,E.ws.map (·.1)⟩]) (rn++E.rn) K
        |false=>Dt P tbl nt np all rest (i+1) (ff T o.dst E.sv) (du E.ws H) (n+E.c) (rs++[⟨eO o.op T H,E.ws.map (·.1)⟩]) (rn++E.rn) K)->
        ∃r l',r.n=n/\LI P tbl o T H r/\Good P tbl nt all (fun T H n rs rn=>qd all rs=true/\Nb n rn=true/\ta np rn T H fun T H=>K T H n) rest (ff T o.dst r.sv) (du r.E.ws H) (n+r.E.c) (rs++[⟨r.τ,r.E.ws.map (·.1)⟩]) (rn++r.E.rn) l':=by
   intro h;obtain⟨E,hk,hl⟩:=SW _ h;have uY:∀T',(∀x∈o.op.operands,ev T' x=ev T x)->B0 true P tbl o.op o.type T' (oo (eO o.op T H) H) n fun E'=>E'=E:=fun T' hT=>X9 hT (hl _ rfl)
   split at hk
   ·split at hk
    ·rename_i b wm;cases b with
     |true=>
      obtain⟨l',g⟩:=m5 rest (i+1) _ _ _ _ _ (hk.t rfl);exact⟨⟨.c (.cb true),E,_,n⟩,l',rfl,⟨fun ρ w ok v hv=>by simp only[wm]at hv;rw[fD (b9.jM hv)];exact eD (.cb .nil),uY⟩,g⟩
     |false=>
      obtain⟨l',g⟩:=m5 rest (i+1) _ _ _ _ _ (hk.f rfl);exact⟨⟨.c (.cb false),E,_,n⟩,l',rfl,⟨fun ρ w ok v hv=>by simp only[wm]at hv;rw[fD (b9.jM hv)];exact eD (.cb .nil),uY⟩,g⟩
    ·obtain⟨l',g⟩:=m5 rest (i+1) _ _ _ _ _ hk;exact⟨⟨E.sv,E,_,n⟩,l',rfl,⟨fun ρ w ok v hv=>hv,uY⟩,g⟩
   ·obtain⟨l',g⟩:=m5 rest (i+1) _ _ _ _ _ hk;exact⟨⟨E.sv,E,_,n⟩,l',rfl,⟨fun ρ w ok v hv=>hv,uY⟩,g⟩
  split at h
  ·rename_i hg;obtain⟨r,l',h0,h1,h2⟩:=run h;exact⟨_,r,l',rfl,h0,⟨hd,by rw[hg];exact h1⟩,h2⟩
  ·rename_i j want hg;split at h
   ·rename_i t ht;split at h
    ·rename_i b hb;split at h
     ·rename_i hs;obtain⟨r,l',h0,h1,h2⟩:=run h;exact⟨_,r,l',rfl,h0,⟨hd,by rw[hg];exact⟨t,ht, .inl ⟨b,hb, .inl ⟨yY.1 hs,h1⟩⟩⟩⟩,h2⟩
     ·rename_i hs;obtain⟨l',h2⟩:=m5 rest (i+1) _ _ _ _ _ h;refine⟨_,x6 n,l',rfl,rfl,⟨hd,by rw[hg];exact⟨t,ht, .inl ⟨b,hb, .inr ⟨fun e=>(by rw[yY.2 e]at hs;cases hs),rfl⟩⟩⟩⟩,?_⟩;simpa[x6,du]using h2
    ·rename_i hb;obtain⟨l',h2⟩:=m5 rest (i+1) _ _ _ _ _ h;refine⟨_,x6 n,l',rfl,rfl,⟨hd,by rw[hg];exact⟨t,ht, .inr ⟨hb,rfl⟩⟩⟩,?_⟩;simpa[x6,du]using h2
    ·exact h.elim
   ·exact h.elim
def hF(W:Nat->List (Nat × dW))(S:Nat->Bool)(H0:HM):Nat->HM
 |0=>H0
 |k+1=>cond (S k) (du (W k) (hF W S H0 k)) (hF W S H0 k)
def N4(W:Nat->List (Nat × dW))(i:Nat):List Nat:=(W i).map (·.1)
theorem iq:∀{l:List (Nat × dW)} {H:HM} {k:Nat},k∉l.map (·.1)->du l H k=H k
 |[],_,_,_=>rfl
 |(j,b)::r,H,k,h=>by
  simp only[List.map_cons,List.mem_cons,not_or]at h;simp only[du];rw[iq h.2,fP h.1]
theorem yR:∀{l:List (Nat × dW)} {H H':HM} {k:Nat},k∈l.map (·.1)->du l H k=du l H' k
 |[],_,_,_,h=>by simp at h
 |(j,b)::r,H,H',k,h=>by
  simp only[du];by_cases hr:k∈r.map (·.1)
  ·exact yR hr
  ·have:k=j:=by simpa[hr]using h
   subst this;rw[iq hr,iq hr,eF,eF]
section
variable{W:Nat->List (Nat × dW)}{S S':Nat->Bool}{H0:HM}
theorem zg{k:Nat}:∀(m:Nat),(∀j,j<m->k∈N4 W j->S j=S' j)->hF W S H0 m k=hF W S' H0 m k
 |0,_=>rfl
 |m+1,h=>by
  have ih:=zg m fun j hj=>h j (by omega)
  simp only[hF];by_cases hk:k∈N4 W m
  ·have e:=h m (by omega) hk;rw[<-e];cases S m with
   |true=>exact yR hk
   |false=>exact ih
  ·cases S m<;>cases S' m<;>simp only[cond]
   ·exact ih
   ·rw[iq hk];exact ih
   ·rw[iq hk];exact ih
   ·rw[iq hk,iq hk];exact ih
theorem PD(m:Nat)(h:∀j,j<m->S j=S' j):hF W S H0 m=hF W S' H0 m:=by
 funext k
 exact zg m fun j hj _=>h j hj
theorem Ri{i:Nat}(hS:S i=false)(jA:∀j,S' j=if j=i then true else S j):∀(m:Nat),i<m->(∀j k,i<j->j<m->k∈N4 W i->k∈N4 W j->S j=false)->hF W S' H0 m=du (W i) (hF W S H0 m)
 |0,h,_=>by omega
 |m+1,h,hl=>by
  funext k
  simp only[hF];by_cases him:m=i
  ·subst him;have e:hF W S' H0 m=hF W S H0 m:=PD m fun j hj=>by rw[jA j,if_neg (by omega)]
   rw[jA m,if_pos rfl,hS,e];rfl
  ·have ih:=Ri hS jA m (by omega) fun j k h1 h2=>hl j k h1 (by omega)
   rw[jA m,if_neg him,ih];cases hSm:S m with
   |false=>rfl
   |true=>
    simp only[cond];by_cases hk:k∈N4 W m
    ·have PG:k∉N4 W i:=fun PG=>by rw[hl m k (by omega) (by omega) PG hk]at hSm;cases hSm
     rw[iq (l:=W i) PG];exact yR hk
    ·rw[iq hk];by_cases PG:k∈N4 W i
     ·exact yR PG
     ·rw[iq PG,iq PG,iq hk]
end
theorem Iw(hd:Kq all){K:TM->HM->Nat->List Rc->List (Nat × Nat)->Prop}{T0:TM}{H0:HM}{R:Nat->R1}:∀(rest:List Oper) (pre:List Oper) (T:TM) (H:HM) (n:Nat) (rs:List Rc) (rn:List (Nat × Nat)) (l:List R1),pre++rest=all->
 T=tF all (fun i=>(R i).sv) (fun j=>Nat.blt j pre.length) T0->H=hF (fun i=>(R i).E.ws) (fun _=>true) H0 pre.length->rs=(List.range pre.length).map (fun i=>⟨(R i).τ,(R i).E.ws.map (·.1)⟩)->rn=(List.range pre.length).flatMap (fun i=>(R i).E.rn)->
 (∀(j:Nat) r,l[j]? =some r->R (pre.length+j)=r)->Good P tbl nt all K rest T H n rs rn l->
 (∀(i:Nat) o,pre.length≤i->all[i]? =some o->T9 P tbl nt all o (tF all (fun i=>(R i).sv) (fun j=>Nat.blt j i) T0) (hF (fun i=>(R i).E.ws) (fun _=>true) H0 i) (R i))/\
  (∀i,pre.length≤i->i<all.length->n≤(R i).n/\((i=pre.length->(R i).n=n)/\(i+1<all.length->(R (i+1)).n=(R i).n+(R i).E.c)))/\
  ∃n',(∀i,pre.length≤i->i<all.length->(R i).n+(R i).E.c≤n')/\n≤n'/\K (tF all (fun i=>(R i).sv) (fun j=>Nat.blt j all.length) T0) (hF (fun i=>(R i).E.ws) (fun _=>true) H0 all.length) n' ((List.range all.length).map (fun i=>⟨(R i).τ,(R i).E.ws.map (·.1)⟩)) ((List.range all.length).flatMap (fun i=>(R i).E.rn))
 |[],pre,T,H,n,rs,rn,l,he,hT,hH,IC,Ja,hl,hg=>by
  simp at he;subst he;refine⟨fun i o hi ho=>?_,fun i hi lg=>?_,n,fun i hi lg=>?_,aw _,?_⟩
  ·have:=(List.getElem?_eq_some_iff.1 ho).1;omega
  ·omega
  ·omega
  ·rw[<-hT,<-hH,<-IC,<-Ja];exact hg.2
 |o::rest,pre,T,H,n,rs,rn,l,he,hT,hH,IC,Ja,hl,hg=>by
  obtain⟨r,l',rfl,h0,h1,h2⟩:=hg;have hR:R pre.length=r:=by simpa using hl 0 r rfl
  have kx:all[pre.length]? =some o:=by rw[<-he];simp
  have hlen:pre.length<all.length:=(List.getElem?_eq_some_iff.1 kx).1;have hT':ff T o.dst r.sv=tF all (fun i=>(R i).sv) (fun j=>Nat.blt j (pre++[o]).length) T0:=by
   rw[hT,<-hR,ai];refine(Oy hd kx ?_ ?_).symm
   ·rw[Nat.blt_eq];simp
   ·intro j _ hj;simp only[List.length_cons,List.length_nil];rw[Bool.eq_iff_iff,Nat.blt_eq,Nat.blt_eq];omega
  have G8:(pre++[o]).length=pre.length+1:=by simp
  have hH':du r.E.ws H=hF (fun i=>(R i).E.ws) (fun _=>true) H0 (pre++[o]).length:=by
   rw[G8,hH];simp only[hF,cond];rw[hR]
  have ab4:rs++[⟨r.τ,r.E.ws.map (·.1)⟩]=(List.range (pre++[o]).length).map (fun i=>(⟨(R i).τ,(R i).E.ws.map (·.1)⟩:Rc)):=by
   rw[G8,List.range_succ,au,<-IC];simp[hR]
  have abW:rn++r.E.rn=(List.range (pre++[o]).length).flatMap (fun i=>(R i).E.rn):=by
   rw[G8,List.range_succ,List.flatMap_append,<-Ja];simp[hR]
  obtain⟨g1,g2,n',g3,g4,g5⟩:=Iw hd rest (pre++[o]) _ _ _ _ _ l' (by simpa using he) hT' hH' ab4 abW (fun j s hs=>by
   have:=hl (j+1) s (by simpa using hs);rw[ai];rw[<-this]
   congr 1
   simp;omega) h2
  have hRn:(R pre.length).n=n:=by rw[hR];exact h0
  refine⟨fun i q hi hq=>?_,fun i hi lg=>?_,n',fun i hi lg=>?_,by omega,g5⟩
  ·by_cases e:i=pre.length
   ·subst e;rw[kx]at hq;injection hq with hq
    subst hq;rw[<-hT,<-hH,hR];exact h1
   ·exact g1 i q (by simp;omega) hq
  ·by_cases e:i=pre.length
   ·subst e;refine⟨by omega,fun _=>hRn,fun h=>?_⟩;have:=(g2 (pre.length+1) (by simp) h).2.1 (by simp);rw[this,hRn,hR]
   ·have:=g2 i (by simp;omega) lg;refine⟨by omega,fun h=>absurd h e,this.2.2⟩
  ·by_cases e:i=pre.length
   ·subst e;rw[hRn,hR];exact g4
   ·exact g3 i (by simp;omega) lg
end
theorem uA{ops:List Oper}{S:Nat->Bool}(hc:Ac ops S):∀(rest:List Oper) (pre:List Oper) (acc:List (List Nat)),pre++rest=ops->acc.length=pre.length->(∀(e:Nat) l,acc[e]? =some l-> ∀o,ops[e]? =some o->(∀x∈gq o,S x=true)-> ∀x∈l,S x=true)->
 ∀(e:Nat) l,(pE rest acc)[e]? =some l-> ∀o,ops[e]? =some o->(∀x∈gq o,S x=true)-> ∀x∈l,S x=true
 |[],pre,acc,_,_,h=>h
 |o::r,pre,acc,he,hl,h=>by
  refine uA hc r (pre++[o]) _ (by simpa using he) (by simp[hl]) ?_;intro e l mT q hq hS x hx;by_cases eu:e<acc.length
  ·rw[List.getElem?_append_left eu]at mT;exact h e l mT q hq hS x hx
  ·rw[List.getElem?_append_right (by omega)]at mT;have heq:e=pre.length:=by
        have:=(List.getElem?_eq_some_iff.1 mT).1;simp at this;omega
   subst heq;rw[hl,Nat.sub_self,List.getElem?_cons_zero]at mT;injection mT with mT
   subst mT;have hqo:q=o:=by
        have:ops[pre.length]? =some o:=by rw[<-he];simp
        rw[this]at hq;injection hq with hq
        exact hq.symm
   subst hqo;have key:∀(es:List Nat) (init:List Nat),(∀x∈init,S x=true)->(∀x∈es,S x=true)-> ∀x∈es.foldl (fun l e=>Vh l (e::(acc[e]?).getD [])) init,S x=true:=by
        intro es
        induction es with
        |nil=>intro init h1 _;exact h1
        |cons y ys ih=>
         intro init h1 h2;refine ih _ (fun x hx=>?_) fun x hx=>h2 x (by simp[hx])
         have hx:=KZ hx;simp only[List.mem_cons]at hx;rcases hx with hx|rfl|hx
         ·exact h1 x hx
         ·exact h2 x (by simp)
         ·cases hacc:acc[y]? with
          |none=>rw[hacc]at hx;simp at hx
          |some ly=>
           rw[hacc]at hx;have hy:y<ops.length:=by
            have:=(List.getElem?_eq_some_iff.1 hacc).1;rw[<-he,ai];omega
           have hSy:=h2 y (by simp);exact h y ly hacc ops[y] (List.getElem?_eq_getElem hy) (fun x O4=>hc y _ (List.getElem?_eq_getElem hy) hSy x O4) x (by simpa using hx)
   exact key _ [] (by simp) hS x hx
theorem B5:∀(rest:List Oper) (acc:List (List Nat)),(pE rest acc).length=acc.length+rest.length
 |[],acc=>by simp[pE]
 |o::r,acc=>by simp only[pE];rw[B5 r];simp;omega
theorem AX{ops:List Oper}{S:Nat->Bool}(hc:Ac ops S){j i:Nat}{o:Oper}(hj:ops[j]? =some o)(hS:∀x∈gq o,S x=true)(hi:jt (((pE ops [])[j]?).getD []) i=true):S i=true:=by
 have eu:j<(pE ops []).length:=by rw[B5];simpa using(List.getElem?_eq_some_iff.1 hj).1
 have kx:=List.getElem?_eq_getElem eu;rw[kx]at hi;exact uA hc ops [] [] rfl rfl (by simp) j _ kx o hj hS i (jg.1 (by simpa using hi))
theorem Cu{a b:List Nat}(h:Ib a b=true):∀x∈a,x∉b:=by
 intro x hx hb;have:=aj.1 h x hx;rw[jg.2 hb]at this;cases this
theorem xN{ops:List Oper}{m:Nat}{f:Nat->Rc}(h:qd ops ((List.range m).map f)=true){i j:Nat}(EW:i<j)(hj:j<m)(hp:jt (((pE ops [])[j]?).getD []) i=false):
 (∀k∈(f j).ws,k∉(f i).τ/\k∉(f i).ws)/\ ∀k∈(f i).ws,k∉(f j).τ:=by
 have g:∀i,i<m->((List.range m).map f)[i]? =some (f i):=fun i hi=>by simp[hi]
 have h1:=aj.1 (MO h) _ (kq _ 0 i _ (g i (by omega)));have h2:=aj.1 h1 _ (kq _ 0 j _ (g j hj));simp only[Nat.zero_add]at h2;unfold ke at h2;rw[show Nat.blt i j=true by rw[Nat.blt_eq];exact EW]at h2;simp only[hp,ab]at h2;exact⟨fun k hk=>by have:=Cu h2.1 k hk;simpa using this,fun k hk=>Cu h2.2 k hk⟩
section
variable{P:Program}
theorem KI{ops:Array Oper}{Q:Exit->Act->World->Prop}(hd:Kq ops.toList)(Φ:(Nat->Bool)->Act->World->Prop)(O2:∀S S':Nat->Bool,(∀j,j<ops.toList.length->S j=S' j)-> ∀a w,Φ S a w->Φ S' a w)
 (step:∀(S:Nat->Bool) (i:Nat) (o:Oper) (a:Act) (w:World) (next:Act->World->Prop),ops.toList[i]? =some o->S i=false->Ac ops.toList S->(∀e∈gq o,S e=true)->Φ S a w->(∀a' w',Φ (fun j=>if j=i then true else S j) a' w'->next a' w')->
  (Region.wanted o (yielded ops a.tmps)=true->o.wp P a w next Q)/\(Region.wanted o (yielded ops a.tmps)=false->next (a.put o.dst undef) w))
 (hQ:∀a w,Φ (fun _=>true) a w->Q .normal a w):
 ∀(fuel:Nat) (cW:Array Bool) (a:Act) (w:World),cW.size=ops.size->Ac ops.toList (fun i=>cW.getD i false)->(List.range ops.size).countP (fun i=> !cW.getD i true)=fuel->
  Φ (fun i=>cW.getD i false) a w->wpAny P .any ops Q fuel cW a w:=by
 have Zb:∀(o:Oper) (cW:Array Bool),(o.after.all fun e=> !Region.binds .any e||cW.getD e.on false)=true↔∀e∈gq o,cW.getD e false=true:=by
  intro o cW;rw[Array.all_eq_true'];simp only[gq,List.mem_map,List.mem_filter];constructor
  ·rintro h e ⟨x,⟨hx,hb⟩,rfl⟩;have:=h x (by simpa using hx);rw[hb]at this;simpa using this
  ·intro h x hx;cases hb:Region.binds .any x with
   |false=>rfl
   |true=>simpa using h x.on ⟨x,⟨by simpa using hx,hb⟩,rfl⟩
 have yU:∀(cW:Array Bool) (i:Nat),i∈Region.ready .any ops cW↔∃o,ops[i]? =some o/\cW.getD i true=false/\ ∀e∈gq o,cW.getD e false=true:=by
  intro cW i;simp only[Region.ready,List.mem_filter,List.mem_range,ab,Bool.not_eq_true'];constructor
  ·rintro⟨h1,h2,h3⟩;have ho:ops[i]? =some ops[i]:=Array.getElem?_eq_getElem h1;rw[ho]at h3;simp only[Option.map_some,Option.getD_some]at h3;exact⟨_,ho,h2,(Zb _ _).1 h3⟩
  ·rintro⟨o,ho,h2,h3⟩;refine⟨(Array.getElem?_eq_some_iff.1 ho).1,h2,?_⟩;rw[ho];simp only[Option.map_some,Option.getD_some];exact(Zb _ _).2 h3
 have Iv:∀(cW:Array Bool) (i:Nat),i<cW.size->cW.getD i true=cW.getD i false:=by
  intro cW i hi;simp[Array.getD,hi]
 intro fuel
 induction fuel with
 |zero=>
  intro cW a w gC hc Vq hS;have Xt:∀i,i<ops.size->cW.getD i true=true:=by
   intro i hi;have:=List.countP_eq_zero.1 Vq i (by simp[hi]);simpa using this
  refine⟨?_,hQ a w ?_⟩
  ·cases hr:Region.ready .any ops cW with
   |nil=>rfl
   |cons x xs=>
    obtain⟨o,ho,h2,_⟩:=(yU cW x).1 (by rw[hr];simp);rw[Xt x (Array.getElem?_eq_some_iff.1 ho).1]at h2;cases h2
  ·refine O2 _ _ (fun j hj=>?_) _ _ hS;have eu:j<ops.size:=by simpa using hj
   rw[<-Iv cW j (by omega),Xt j eu]
 |succ fuel ih=>
  intro cW a w gC hc Vq hS;refine⟨fun hr=>?_,fun i hi=>?_⟩
  ·
   exfalso;have hex:∃i,i<ops.size/\cW.getD i true=false:=by
        have qa:0<(List.range ops.size).countP (fun i=> !cW.getD i true):=by omega
        obtain⟨i,h1,h2⟩:=List.countP_pos_iff.1 qa;exact⟨i,by simpa using h1,by simpa using h2⟩
   obtain⟨i,R5,UC⟩:=hex;have:∀n i,i≤n->i<ops.size->cW.getD i true=false->False:=by
        intro n
        induction n with
        |zero=>
         intro i bw h1 h2;have ho:ops[i]? =some ops[i]:=Array.getElem?_eq_getElem h1;have:i∈Region.ready .any ops cW:=(yU cW i).2 ⟨_,ho,h2,fun e he=>by
          have:=hd.back i _ (by simp[ho]) e he;omega⟩
         rw[hr]at this;cases this
        |succ n ihn=>
         intro i bw h1 h2;have ho:ops[i]? =some ops[i]:=Array.getElem?_eq_getElem h1;have:i∈Region.ready .any ops cW:=(yU cW i).2 ⟨_,ho,h2,fun e he=>by
          have eu:=hd.back i _ (by simp[ho]) e he;cases hx:cW.getD e false with
          |true=>rfl
          |false=>exact(ihn e (by omega) (by omega) ((Iv cW e (by omega)).trans hx)).elim⟩
         rw[hr]at this;cases this
   exact this i i (aw _) R5 UC
  ·obtain⟨o,ho,h2,h3⟩:=(yU cW i).1 hi;have eu:i<ops.size:=(Array.getElem?_eq_some_iff.1 ho).1;have Ke:ops.toList[i]? =some o:=by simpa using ho
   have hs:cW.getD i false=false:=by rw[<-Iv cW i (by omega)];exact h2
   have Ek:∀j,j<ops.size->(cW.setIfInBounds i true).getD j false=if j=i then true else cW.getD j false:=by
        intro j hj;simp only[Array.getD_eq_getD_getElem?,Array.getElem?_setIfInBounds];by_cases e:i=j
        ·subst e;simp[gC,eu]
        ·have:¬j=i:=fun h=>e h.symm
         simp[e,this]
   have next:∀a' w',Φ (fun j=>if j=i then true else cW.getD j false) a' w'->wpAny P .any ops Q fuel (cW.setIfInBounds i true) a' w':=by
        intro a' w' jA;refine ih _ a' w' (by simpa using gC) ?_ ?_ ?_
        ·intro k q hq hk e he;have W3:k<ops.size:=by simpa using(List.getElem?_eq_some_iff.1 hq).1
         have mT:e<k:=hd.back k q hq e he;simp only at hk⊢;rw[Ek k W3]at hk;rw[Ek e (by omega)];split
         ·rfl
         ·split at hk
          ·rename_i PG;subst PG;rw[Ke]at hq;injection hq with hq
           subst hq;exact h3 e he
          ·exact hc k q hq hk e he
        ·have QI:∀(l:List Nat),l.Nodup->(∀x∈l,x<ops.size)->l.countP (fun j=> !cW.getD j true)=l.countP (fun j=> !(cW.setIfInBounds i true).getD j true)+(if i∈l then 1 else 0):=by
          intro l
          induction l with
          |nil=>intro _ _;simp
          |cons x xs ihx=>
           intro hn hx;have WZ:=hx x (by simp);rw[List.nodup_cons]at hn;have ih':=ihx hn.2 fun y hy=>hx y (by simp[hy])
           rw[List.countP_cons,List.countP_cons,ih'];have e1:cW.getD x true=cW.getD x false:=Iv cW x (by omega);have e2:(cW.setIfInBounds i true).getD x true=(cW.setIfInBounds i true).getD x false:=Iv _ x (by simp;omega);rw[e1,e2,Ek x WZ];by_cases hxi:x=i
           ·subst hxi;simp[hs,hn.1]
           ·have jr:¬i=x:=fun h=>hxi h.symm
            simp only[hxi,if_false,List.mem_cons,jr,false_or];omega
         have:=QI (List.range ops.size) List.nodup_range (fun x hx=>by simpa using hx);rw[Vq,if_pos (by simp[eu])]at this;omega
        ·refine O2 _ _ (fun j hj=>?_) _ _ jA;rw[Ek j (by simpa using hj)]
   obtain⟨s1,s2⟩:=step _ i o a w _ Ke hs hc h3 hS next;unfold wpOp;rw[ho];simp only;cases hw:Region.wanted o (yielded ops a.tmps)with
   |true=>rw[if_pos rfl];exact .inl (s1 hw)
   |false=>rw[if_neg (by simp)];exact s2 hw
end
end Go.KA
