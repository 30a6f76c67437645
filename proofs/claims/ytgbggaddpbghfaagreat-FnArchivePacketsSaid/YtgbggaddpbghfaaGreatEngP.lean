/- Part of a proof engine for functions of the given program: what an operation, a loop and a call compute, symbolically. No conditions. -/
import Derived.Test.YtgbggaddpbghfaaGreatEngO
namespace Go.KA
open Go Go.RowKit
def o7(ops:List Oper)(o:Oper):List Nat:=
 (o.op.operands.toList.filterMap fun| .tmp t=>some t|_=>none)++
 (match o.guard with
  |some (g,_)=>match ops[g]? with
   |some q=>match q.dst with|some t=>[t]|none=>[]
   |none=>[]
  |none=>[])
def fw(o:Oper):List Nat:=(o.after.toList.filter (Region.binds .any)).map (·.on)
def Je(ops:List Oper)(i:Nat)(oi:Oper)(j:Nat)(oj:Oper):Bool:=
 match Nat.beq i j with
 |true=>true
 |false=>match oj.dst with
  |none=>true
  |some d=>(match oi.dst with|some e=> !Nat.beq d e|none=>true)&&(!g7 (o7 ops oi) d||(match Nat.blt j i with|true=>g7 (fw oi) j|false=>g7 (fw oj) i))
def g8{α:Type}:List α→Nat→List (Nat × α)
 |[],_=>[]
 |x::xs,n=>(n,x)::g8 xs (n+1)
def sJ(ops:List Oper):Bool:=
 (g8 ops 0).all fun p=>(fw p.2).all (fun e=>Nat.blt e p.1)&&(g8 ops 0).all fun q=>Je ops p.1 p.2 q.1 q.2
theorem iY{α:Type}:∀(l:List α) (n i:Nat) (x:α),l[i]? =some x→(n+i,x)∈g8 l n
 |[],n,i,x,h=>by simp at h
 |y::ys,n,i,x,h=>by
  cases i with
  |zero=>simp at h;subst h;simp[g8]
  |succ i=>
   have:=iY ys (n+1) i x (by simpa using h)
   rw[show n+1+i=n+(i+1) by omega] at this
   simp[g8,this]
structure Fu(ops:List Oper):Prop where
 back:∀(i:Nat) o,ops[i]? =some o→∀e∈fw o,e<i
 one:∀(i j:Nat) oi oj d,ops[i]? =some oi→ops[j]? =some oj→i≠j→oj.dst=some d→oi.dst≠some d
 rd:∀(i j:Nat) oi oj d,ops[i]? =some oi→ops[j]? =some oj→i≠j→oj.dst=some d→d∈o7 ops oi→(j<i∧j∈fw oi)∨(i<j∧i∈fw oj)
theorem qH{ops:List Oper}(h:sJ ops=true):Fu ops:=by
 have h0:=List.all_eq_true.1 h
 have get:∀(i j:Nat) oi oj d,ops[i]? =some oi→ops[j]? =some oj→i≠j→oj.dst=some d→
  ((match oi.dst with|some e=> !Nat.beq d e|none=>true)=true∧(!g7 (o7 ops oi) d||(match Nat.blt j i with|true=>g7 (fw oi) j|false=>g7 (fw oj) i))=true):=by
  intro i j oi oj d hi hj hne hd
  have h1:=h0 _ (iY ops 0 i oi hi)
  simp only[Bool.and_eq_true] at h1
  have h2:=List.all_eq_true.1 h1.2 _ (iY ops 0 j oj hj)
  simp only[Nat.zero_add] at h2
  unfold Je at h2
  have hb:Nat.beq i j=false:=by
   cases hb:Nat.beq i j with
   |true=>exact absurd (Nat.eq_of_beq_eq_true hb) hne
   |false=>rfl
  rw[hb,hd] at h2
  simpa only[Bool.and_eq_true] using h2
 refine⟨fun i o hi e he=> ?_,fun i j oi oj d hi hj hne hd heq=> ?_,fun i j oi oj d hi hj hne hd hr=> ?_⟩
 ·have h1:=h0 _ (iY ops 0 i o hi)
  simp only[Bool.and_eq_true,Nat.zero_add] at h1
  have:=List.all_eq_true.1 h1.1 e he
  rwa[Nat.blt_eq] at this
 ·have:=(get i j oi oj d hi hj hne hd).1
  rw[heq] at this
  simp at this
 ·have:=(get i j oi oj d hi hj hne hd).2
  rw[gO.2 hr] at this
  simp only[Bool.not_true,Bool.false_or] at this
  split at this
  ·rename_i hb
   rw[Nat.blt_eq] at hb
   exact .inl ⟨hb,gO.1 this⟩
  ·rename_i hb
   have:¬j<i:=by intro hh;rw[←Nat.blt_eq] at hh;rw[hh] at hb;cases hb
   exact .inr ⟨by omega,gO.1 ‹_›⟩
def tF(ops:List Oper)(R:Nat→SV)(S:Nat→Bool)(T:TM):TM:=fun t=>
 match(List.range ops.length).find? fun i=>S i&&(ops[i]?).any (fun o=>decide (o.dst=some t)) with
 |some i=>R i
 |none=>T t
section
variable{ops:List Oper}{R:Nat→SV}{S S':Nat→Bool}{T:TM}
theorem E9(hd:Fu ops){j:Nat}{o:Oper}{t:Nat}(hj:ops[j]? =some o)(ht:o.dst=some t)(hs:S j=true):tF ops R S T t=R j:=by
 unfold tF
 have hlt:j<ops.length:=(List.getElem?_eq_some_iff.1 hj).1
 cases hf:(List.range ops.length).find? fun i=>S i&&(ops[i]?).any (fun o=>decide (o.dst=some t)) with
 |none=>
  have:=List.find?_eq_none.1 hf j (by simp[hlt])
  simp[hs,hj,ht] at this
 |some k=>
  have hk:=List.find?_some hf
  simp only[Bool.and_eq_true] at hk
  cases hko:ops[k]? with
  |none=>rw[hko] at hk;simp at hk
  |some ok=>
   rw[hko] at hk
   have hkd:ok.dst=some t:=by simpa using hk.2
   by_cases e:j=k
   ·rw[e]
   ·exact absurd hkd (hd.one k j ok o t hko hj (fun h=>e h.symm) ht)
theorem vQ{t:Nat}(h:∀(j:Nat) o,ops[j]? =some o→o.dst=some t→S j=false):tF ops R S T t=T t:=by
 unfold tF
 cases hf:(List.range ops.length).find? fun i=>S i&&(ops[i]?).any (fun o=>decide (o.dst=some t)) with
 |none=>rfl
 |some k=>
  have hk:=List.find?_some hf
  simp only[Bool.and_eq_true] at hk
  cases hko:ops[k]? with
  |none=>rw[hko] at hk;simp at hk
  |some ok=>
   rw[hko] at hk
   have hkd:ok.dst=some t:=by simpa using hk.2
   rw[h k ok hko hkd] at hk
   simp at hk
theorem ph(hd:Fu ops){t:Nat}(h:∀(j:Nat) o,ops[j]? =some o→o.dst=some t→S' j=S j):tF ops R S' T t=tF ops R S T t:=by
 by_cases hx:∃j o,ops[j]? =some o∧o.dst=some t∧S j=true
 ·obtain⟨j,o,hj,ht,hs⟩:=hx
  rw[E9 hd hj ht hs,E9 hd hj ht ((h j o hj ht).trans hs)]
 ·have hs:∀(j:Nat) o,ops[j]? =some o→o.dst=some t→S j=false:=by
   intro j o hj ht
   cases hs:S j with
   |false=>rfl
   |true=>exact(hx ⟨j,o,hj,ht,hs⟩).elim
  rw[vQ hs,vQ fun j o hj ht=>(h j o hj ht).trans (hs j o hj ht)]
theorem KI(hd:Fu ops){i:Nat}{o:Oper}(hi:ops[i]? =some o)(hS':S' i=true)(h:∀j,j<ops.length→j≠i→S' j=S j):tF ops R S' T=ez (tF ops R S T) o.dst (R i):=by
 funext t
 cases hdst:o.dst with
 |none=>
  simp only[ez]
  refine ph hd fun j q hj hq=>h j (List.getElem?_eq_some_iff.1 hj).1 ?_
  intro e
  subst e
  rw[hi] at hj
  injection hj with hj
  subst hj
  rw[hdst] at hq
  cases hq
 |some d=>
  simp only[ez,Ac]
  cases hb:Nat.beq t d with
  |true=>
   have:=Nat.eq_of_beq_eq_true hb
   subst this
   exact E9 hd hi hdst hS'
  |false=>
   have hne:=yx hb
   refine ph hd fun j q hj hq=>h j (List.getElem?_eq_some_iff.1 hj).1 ?_
   intro e
   subst e
   rw[hi] at hj
   injection hj with hj
   subst hj
   rw[hdst] at hq
   injection hq with hq
   exact hne hq.symm
end
def wZ(ops:List Oper)(S:Nat→Bool):Prop:=∀(i:Nat) o,ops[i]? =some o→S i=true→∀e∈fw o,S e=true
theorem KW{ops:List Oper}{R:Nat→SV}{S:Nat→Bool}{T:TM}(hd:Fu ops)(hc:wZ ops S){i:Nat}{o:Oper}(hi:ops[i]? =some o)(hs:S i=false)(hp:∀e∈fw o,S e=true){t:Nat}(ht:t∈o7 ops o):
 tF ops R S T t=tF ops R (fun j=>Nat.blt j i) T t:=by
 refine ph hd fun j q hj hq=> ?_
 by_cases e:j=i
 ·subst e
  rw[hs]
  cases hb:Nat.blt j j with
  |false=>rfl
  |true=>rw[Nat.blt_eq] at hb;omega
 ·rcases hd.rd i j o q t hi hj (fun h=>e h.symm) hq ht with⟨h1,h2⟩|⟨h1,h2⟩
  ·rw[hp j h2,eq_comm,Nat.blt_eq];exact h1
  ·cases hsj:S j with
   |true=>rw[hc j q hj hsj i h2] at hs;cases hs
   |false=>
    cases hb:Nat.blt j i with
    |false=>rfl
    |true=>rw[Nat.blt_eq] at hb;omega
def uB:SV→List Nat
 | .lp i _=>[i]
 | .le i _ _ _=>[i]
 | .lw i=>[i]
 | .ls i _ _ _=>[i]
 | .mp i=>[i]
 |_=>[]
def Pa:SV→List Nat
 | .m cs=>cs.flatMap uB
 | .clo _ cs=>cs.flatMap uB
 | .tup cs=>cs.flatMap fun s=>match s with| .m cs=>cs.flatMap uB|s=>uB s
 |x=>uB x
def reach(H:HM):Nat→List Nat→List Nat
 |0,l=>l
 |k+1,l=>l++l.flatMap fun i=>match H i with| .cells cs=>reach H k (cs.flatMap uB)|_=>[]
def Ic(T:TM)(op:Op):List Nat:=op.operands.toList.flatMap fun x=>Pa (ev T x)
def opened(H:HM):Nat→List Nat
 |0=>[]
 |k+1=>match H k with
  | .row (some _) _ _ _=>k::opened H k
  | .aG (some _) _ _ _=>k::opened H k
  |_=>opened H k
def er(op:Op)(T:TM)(H:HM):List Nat:=
 match op with
 | .call c=>match c.callee with
   | .value _=>reach H 4 (Ic T op)
   |_=>Ic T op
 | .move _=>[]
 | .assign _=>[]
 | .pick _ _ _=>[]
 | .extract _ _=>[]
 | .nilCheck _=>[]
 | .fieldAddr _ _ _=>[]
 | .box _ _=>[]
 | .build _ _=>[]
 | .makeFunc _ _ _=>[]
 | .load _ x=>match ev T x with
   | .le j _ _ _=>match H j with
     | .aG _ _ _ _=>j::opened H 24
     |_=>[j]
   | .lp j _=>j::opened H 24
   |_=>Ic T op
 | .store _ x _=>match ev T x with
   | .lp j _=>match H j with
     | .cells _=>[j]
     | .cc _ _=>[j]
     |_=>Ic T op
   |_=>Ic T op
 |_=>Ic T op
def mq(l:List Nat)(H:HM):HM:=fun k=>cond (g7 l k) (H k) .dead
theorem Jg(l:List Nat)(H:HM):l9 (mq l H) H:=by
 intro i
 unfold mq
 cases g7 l i with
 |true=>exact .inr rfl
 |false=>exact .inl rfl
theorem DM{l:List Nat}{H H':HM}(h:∀k∈l,H k=H' k):mq l H=mq l H':=by
 funext k
 unfold mq
 cases hb:g7 l k with
 |true=>simp only[cond];exact h k (gO.1 hb)
 |false=>rfl
structure Rc where
 τ:List Nat
 ws:List Nat
def Cy(a b:List Nat):Bool:=a.all fun x=> !g7 b x
def jB(l:List Nat)(x:Nat):List Nat:=match g7 l x with|true=>l|false=>x::l
def O6(l:List Nat):List Nat→List Nat
 |[]=>l
 |x::xs=>O6 (jB l x) xs
theorem Gf{x:Nat}:∀{m l:List Nat},x∈O6 l m→x∈l∨x∈m
 |[],l,h=> .inl h
 |y::ys,l,h=>by
  rcases Gf (m:=ys) h with h|h
  ·unfold jB at h
   split at h
   ·exact .inl h
   ·rcases List.mem_cons.1 h with h|h
    ·exact .inr (by simp[h])
    ·exact .inl h
  ·exact .inr (by simp[h])
def mV:List Oper→List (List Nat)→List (List Nat)
 |[],acc=>acc
 |o::r,acc=>mV r (acc++[(fw o).foldl (fun l e=>O6 l (e::(acc[e]?).getD [])) []])
def jc(p:List (List Nat))(i:Nat)(ri:Rc)(j:Nat)(rj:Rc):Bool:=
 match Nat.blt i j with
 |false=>true
 |true=>match g7 ((p[j]?).getD []) i with
  |true=>true
  |false=>Cy rj.ws (ri.τ++ri.ws)&&Cy ri.ws rj.τ
def Ki(ops:List Oper)(rs:List Rc):Bool:=
 (g8 rs 0).all fun p=>(g8 rs 0).all fun q=>jc (mV ops []) p.1 p.2 q.1 q.2
def MU(n:Nat)(K:Nat→Bool):Bool:=match n with|0=>K 0|k+1=>K (k+1)
theorem Gi(n:Nat)(K:Nat→Bool):MU n K=K n:=by cases n<;>rfl
def Dh:List Nat→Nat
 |[]=>0
 |x::xs=>Nat.lor (Nat.pow 2 x) (Dh xs)
def MF:List Rc→(List (Nat × Nat)→Bool)→Bool
 |[],K=>K []
 |r::rs,K=>MU (Dh r.ws) fun w=>MU (Nat.lor (Dh r.τ) w) fun t=>MF rs fun l=>K ((w,t)::l)
def O3(acc:List Nat)(es:List Nat)(m:Nat):Nat:=es.foldl (fun m e=>Nat.lor m (Nat.lor (Nat.pow 2 e) ((acc[e]?).getD 0))) m
def Ml:List Oper→List Nat→(List Nat→Bool)→Bool
 |[],acc,K=>K acc
 |o::r,acc,K=>MU (O3 acc (fw o) 0) fun m=>Ml r (acc++[m]) K
def Nr(pj i:Nat)(ri rj:Nat × Nat):Bool:=match Ao pj i with|true=>true|false=>Nat.beq (Nat.land rj.1 ri.2) 0&&Nat.beq (Nat.land ri.1 rj.2) 0
def nP(ops:List Oper)(rs:List Rc):Bool:=
 Ml ops [] fun ps=>MF rs fun ms=>(g8 ms 0).all fun q=>(g8 ms 0).all fun p=>match Nat.blt p.1 q.1 with|false=>true|true=>Nr ((ps[q.1]?).getD 0) p.1 p.2 q.2
def ua:List Oper→List Nat→List Nat
 |[],acc=>acc
 |o::r,acc=>ua r (acc++[O3 acc (fw o) 0])
theorem GV:∀(ops:List Oper) (acc:List Nat) (K:List Nat→Bool),Ml ops acc K=K (ua ops acc)
 |[],_,_=>rfl
 |o::r,acc,K=>by simp only[Ml,Gi,ua];exact GV r _ K
theorem GH:∀(rs:List Rc) (K:List (Nat × Nat)→Bool),MF rs K=K (rs.map fun r=>(Dh r.ws,Nat.lor (Dh r.τ) (Dh r.ws)))
 |[],_=>rfl
 |r::rs,K=>by simp only[MF,Gi,List.map_cons];exact GH rs _
theorem p7(a b i:Nat):(Nat.lor a b).testBit i=(a.testBit i||b.testBit i):=Nat.testBit_or a b i
theorem Bo(m i:Nat):Ao m i=m.testBit i:=by
 unfold Ao Nat.testBit
 show Nat.beq ((m>>>i) &&& 1) 1=(1 &&& (m>>>i) != 0)
 rw[Nat.and_comm,Nat.one_and_eq_mod_two]
 rcases Nat.mod_two_eq_zero_or_one (m>>>i) with h|h<;>rw[h]<;>rfl
theorem nc{x:Nat}:∀{l:List Nat},x∈l→(Dh l).testBit x=true
 |y::ys,h=>by
  simp only[Dh,p7]
  rcases List.mem_cons.1 h with rfl|h
  ·have:(Nat.pow 2 x).testBit x=true:=Nat.testBit_two_pow_self
   rw[this];rfl
  ·rw[nc h,Bool.or_true]
theorem Mj{e i:Nat}(h:(Nat.pow 2 e).testBit i=true):i=e:=by
 have h:(2^e).testBit i=true:=h
 rw[Nat.testBit_two_pow] at h
 exact(of_decide_eq_true h).symm
theorem D3{acc:List Nat}{accl:List (List Nat)}(h:∀e i:Nat,((acc[e]?).getD 0).testBit i=true→i∈(accl[e]?).getD []):∀(es:List Nat) (m:Nat) (l:List Nat),(∀i,m.testBit i=true→i∈l)→
 ∀i,(O3 acc es m).testBit i=true→i∈es.foldl (fun l e=>O6 l (e::(accl[e]?).getD [])) l
 |[],m,l,hm,i,hi=>hm i hi
 |e::es,m,l,hm,i,hi=>by
  refine D3 h es _ _ (fun i hi=> ?_) i hi
  simp only[p7,Bool.or_eq_true] at hi
  have key:∀(ys l:List Nat),(i∈l∨i∈ys)→i∈O6 l ys:=by
   intro ys
   induction ys with
   |nil=>intro l h;simpa[O6] using h
   |cons y ys ih=>
    intro l h
    refine ih _ ?_
    unfold jB
    rcases h with h|h
    ·left;split
     ·exact h
     ·exact List.mem_cons_of_mem _ h
    ·rcases List.mem_cons.1 h with rfl|h
     ·left;split
      ·rename_i hb;exact gO.1 hb
      ·exact List.mem_cons_self
     ·exact .inr h
  refine key _ _ ?_
  rcases hi with hi|hi|hi
  ·exact .inl (hm i hi)
  ·exact .inr (by rw[Mj hi];simp)
  ·exact .inr (List.mem_cons_of_mem _ (h e i hi))
theorem x5:∀(ops:List Oper) (acc:List Nat) (accl:List (List Nat)),acc.length=accl.length→(∀e i:Nat,((acc[e]?).getD 0).testBit i=true→i∈(accl[e]?).getD [])→
 ∀e i:Nat,(((ua ops acc)[e]?).getD 0).testBit i=true→i∈((mV ops accl)[e]?).getD []
 |[],_,_,_,h=>h
 |o::r,acc,accl,hl,h=>by
  refine x5 r _ _ (by simp[hl]) fun e i hi=> ?_
  by_cases hlt:e<acc.length
  ·rw[List.getElem?_append_left hlt] at hi
   rw[List.getElem?_append_left (by omega)]
   exact h e i hi
  ·rw[List.getElem?_append_right (by omega)] at hi
   rw[List.getElem?_append_right (by omega),←hl]
   by_cases he:e-acc.length=0
   ·rw[he] at hi⊢
    exact D3 h _ 0 [] (fun i hi=>by simp at hi) i hi
   ·obtain⟨k,hk⟩:∃k,e-acc.length=k+1:=⟨e-acc.length-1,by omega⟩
    rw[hk] at hi
    simp at hi
theorem NX{a b i:Nat}(h:Nat.beq (Nat.land a b) 0=true)(ha:a.testBit i=true)(hb:b.testBit i=true):False:=by
 have h:=Nat.eq_of_beq_eq_true h
 have h2:(Nat.land a b).testBit i=(a.testBit i&&b.testBit i):=Nat.testBit_and a b i
 rw[h,ha,hb] at h2
 simp at h2
theorem DH{α β:Type}(g:α→β):∀(l:List α) (n:Nat),g8 (l.map g) n=(g8 l n).map fun p=>(p.1,g p.2)
 |[],_=>rfl
 |x::xs,n=>by simp only[List.map_cons,g8];rw[DH g xs (n+1)]
theorem Iu{ops:List Oper}{rs:List Rc}(h:nP ops rs=true):Ki ops rs=true:=by
 unfold nP at h
 rw[GV,GH] at h
 rw[DH] at h
 refine List.all_eq_true.2 fun p hp=>List.all_eq_true.2 fun q hq=> ?_
 have h1:=List.all_eq_true.1 h _ (List.mem_map.2 ⟨q,hq,rfl⟩)
 have h2:=List.all_eq_true.1 h1 _ (List.mem_map.2 ⟨p,hp,rfl⟩)
 unfold jc
 simp only at h2
 cases hb:Nat.blt p.1 q.1 with
 |false=>rfl
 |true=>
  rw[hb] at h2
  simp only[Nr] at h2
  cases hm:g7 (((mV ops [])[q.1]?).getD []) p.1 with
  |true=>rfl
  |false=>
   have hbit:Ao (((ua ops [])[q.1]?).getD 0) p.1=false:=by
        cases hc:Ao (((ua ops [])[q.1]?).getD 0) p.1 with
        |false=>rfl
        |true=>
         rw[Bo] at hc
         have:=x5 ops [] [] rfl (fun e i hi=>by simp at hi) _ _ hc
         rw[gO.2 this] at hm
         cases hm
   rw[hbit] at h2
   simp only[Bool.and_eq_true] at h2
   show(Cy q.2.ws (p.2.τ++p.2.ws)&&Cy p.2.ws q.2.τ)=true
   rw[Bool.and_eq_true]
   constructor
   ·refine List.all_eq_true.2 fun x hx=> ?_
    cases hc:g7 (p.2.τ++p.2.ws) x with
    |false=>rfl
    |true=>
     refine(NX h2.1 (nc hx) ?_).elim
     rw[p7]
     rcases List.mem_append.1 (gO.1 hc) with hc|hc
     ·rw[nc hc];rfl
     ·rw[nc hc,Bool.or_true]
   ·refine List.all_eq_true.2 fun x hx=> ?_
    cases hc:g7 q.2.τ x with
    |false=>rfl
    |true=>
     refine(NX h2.2 (nc hx) ?_).elim
     rw[p7,nc (gO.1 hc)];rfl
def A2(P:Program)(tbl:TT)(nt np:Nat)(all:List Oper):List Oper→Nat→TM→HM→Nat→List Rc→List (Nat × Nat)→(TM→HM→Nat→Prop)→Prop
 |[],_,T,H,n,rs,rn,K=>aV (nP all rs=true) (cond (I2 n rn) (qA np rn T H fun T H=>K T H n) False)
 |o::rest,i,T,H,n,rs,rn,K=>
  cond (uZ nt o.dst)
   (match o.guard with
   |none=>yO true P tbl o.op o.type T (mq (er o.op T H) H) n fun E=>
    match j7 all i with
    |true=>match E.sv with
     | .c (.val (.bool b))=>bd b (A2 P tbl nt np all rest (i+1) (ez T o.dst (.c (.cb true))) (cY E.ws H) (n+E.c) (rs++[⟨er o.op T H,E.ws.map (·.1)⟩]) (rn++E.rn) K) (A2 P tbl nt np all rest (i+1) (ez T o.dst (.c (.cb false))) (cY E.ws H) (n+E.c) (rs++[⟨er o.op T H,E.ws.map (·.1)⟩]) (rn++E.rn) K)
     |_=>A2 P tbl nt np all rest (i+1) (ez T o.dst E.sv) (cY E.ws H) (n+E.c) (rs++[⟨er o.op T H,E.ws.map (·.1)⟩]) (rn++E.rn) K
    |false=>A2 P tbl nt np all rest (i+1) (ez T o.dst E.sv) (cY E.ws H) (n+E.c) (rs++[⟨er o.op T H,E.ws.map (·.1)⟩]) (rn++E.rn) K
   |some (j,want)=>
    match(all[j]?).bind (·.dst) with
    |some t=>match T t with
     | .c (.cb b)=>
       match same b want with
       |true=>yO true P tbl o.op o.type T (mq (er o.op T H) H) n fun E=>
        match j7 all i with
        |true=>match E.sv with
         | .c (.val (.bool b))=>bd b (A2 P tbl nt np all rest (i+1) (ez T o.dst (.c (.cb true))) (cY E.ws H) (n+E.c) (rs++[⟨er o.op T H,E.ws.map (·.1)⟩]) (rn++E.rn) K) (A2 P tbl nt np all rest (i+1) (ez T o.dst (.c (.cb false))) (cY E.ws H) (n+E.c) (rs++[⟨er o.op T H,E.ws.map (·.1)⟩]) (rn++E.rn) K)
         |_=>A2 P tbl nt np all rest (i+1) (ez T o.dst E.sv) (cY E.ws H) (n+E.c) (rs++[⟨er o.op T H,E.ws.map (·.1)⟩]) (rn++E.rn) K
        |false=>A2 P tbl nt np all rest (i+1) (ez T o.dst E.sv) (cY E.ws H) (n+E.c) (rs++[⟨er o.op T H,E.ws.map (·.1)⟩]) (rn++E.rn) K
       |false=>A2 P tbl nt np all rest (i+1) (ez T o.dst (.tup [])) H n (rs++[⟨[],[]⟩]) rn K
     | .tup []=>A2 P tbl nt np all rest (i+1) (ez T o.dst (.tup [])) H n (rs++[⟨[],[]⟩]) rn K
     |_=>False
    |none=>False) False
def yk(E:gI)(n:Nat)(K:SV→List (Nat × dE)→Nat→List (Nat × Nat)→Prop):Prop:=
 match E with
 |⟨sv,ws,c,rn⟩=>lit (n+c) fun m=>Qc sv fun v=>Qp ws fun w=>K v w m rn
theorem Mw{E:gI}{n:Nat}{K:SV→List (Nat × dE)→Nat→List (Nat × Nat)→Prop}:yk E n K=K E.sv E.ws (n+E.c) E.rn:=by
 cases E
 unfold yk
 simp only[Fh,JG,Lj]
def Qb(P:Program)(tbl:TT)(nt:Nat)(all:List Oper)(o:Oper)(ih:Nat→TM→HM→Nat→List Rc→List (Nat × Nat)→(TM→HM→Nat→Prop)→Prop)(i:Nat)(T:TM)(H:HM)(n:Nat)(rs:List Rc)(rn:List (Nat × Nat))(K:TM→HM→Nat→Prop):Prop:=
    cond (uZ nt o.dst)
     (match o.guard with
     |none=>yO true P tbl o.op o.type T (mq (er o.op T H) H) n fun E=>
      match j7 all i with
      |true=>match E.sv with
       | .c (.val (.bool b))=>bd b (yk E n fun _ w m r=>ih (i+1) (ez T o.dst (.c (.cb true))) (cY w H) m (rs++[⟨er o.op T H,w.map (·.1)⟩]) (rn++r) K) (yk E n fun _ w m r=>ih (i+1) (ez T o.dst (.c (.cb false))) (cY w H) m (rs++[⟨er o.op T H,w.map (·.1)⟩]) (rn++r) K)
       |_=>yk E n fun v w m r=>ih (i+1) (ez T o.dst v) (cY w H) m (rs++[⟨er o.op T H,w.map (·.1)⟩]) (rn++r) K
      |false=>yk E n fun v w m r=>ih (i+1) (ez T o.dst v) (cY w H) m (rs++[⟨er o.op T H,w.map (·.1)⟩]) (rn++r) K
     |some (j,want)=>
      match(all[j]?).bind (·.dst) with
      |some t=>match T t with
       | .c (.cb b)=>
         match same b want with
         |true=>yO true P tbl o.op o.type T (mq (er o.op T H) H) n fun E=>
          match j7 all i with
          |true=>match E.sv with
           | .c (.val (.bool b))=>bd b (yk E n fun _ w m r=>ih (i+1) (ez T o.dst (.c (.cb true))) (cY w H) m (rs++[⟨er o.op T H,w.map (·.1)⟩]) (rn++r) K) (yk E n fun _ w m r=>ih (i+1) (ez T o.dst (.c (.cb false))) (cY w H) m (rs++[⟨er o.op T H,w.map (·.1)⟩]) (rn++r) K)
           |_=>yk E n fun v w m r=>ih (i+1) (ez T o.dst v) (cY w H) m (rs++[⟨er o.op T H,w.map (·.1)⟩]) (rn++r) K
          |false=>yk E n fun v w m r=>ih (i+1) (ez T o.dst v) (cY w H) m (rs++[⟨er o.op T H,w.map (·.1)⟩]) (rn++r) K
         |false=>ih (i+1) (ez T o.dst (.tup [])) H n (rs++[⟨[],[]⟩]) rn K
       | .tup []=>ih (i+1) (ez T o.dst (.tup [])) H n (rs++[⟨[],[]⟩]) rn K
       |_=>False
      |none=>False) False
def MR(P:Program)(tbl:TT)(nt np:Nat)(all l:List Oper):Nat→TM→HM→Nat→List Rc→List (Nat × Nat)→(TM→HM→Nat→Prop)→Prop:=
 List.rec (fun _ T H n rs rn K=>aV (nP all rs=true) (cond (I2 n rn) (qA np rn T H fun T H=>K T H n) False)) (fun o _ ih=>Qb P tbl nt all o ih) l
theorem Ge{P:Program}{tbl:TT}{nt np:Nat}{all:List Oper}:∀l,MR P tbl nt np all l=fun i T H n rs rn K=>A2 P tbl nt np all l i T H n rs rn K
 |[]=>rfl
 |o::rest=>by
  show Qb P tbl nt all o (MR P tbl nt np all rest)=_
  rw[Ge rest]
  funext i T H n rs rn K
  simp only[Qb,A2,Mw]
structure R1 where
 sv:SV
 E:gI
 τ:List Nat
 n:Nat
def uF(n:Nat):R1:=⟨.tup [],⟨.any,[],0,[]⟩,[],n⟩
def GK(P:Program)(tbl:TT)(o:Oper)(T:TM)(H:HM)(r:R1):Prop:=
 (∀ρ w ok v,aZ ρ w ok r.E.sv v→aZ ρ w ok r.sv v)∧∀T',(∀x∈o.op.operands,ev T' x=ev T x)→yO true P tbl o.op o.type T' (mq r.τ H) r.n fun E=>E=r.E
def Nt(P:Program)(tbl:TT)(nt:Nat)(all:List Oper)(o:Oper)(T:TM)(H:HM)(r:R1):Prop:=
 uZ nt o.dst=true∧match o.guard with
    |none=>GK P tbl o T H r
    |some (j,want)=>∃t,(all[j]?).bind (·.dst)=some t∧((∃b,T t= .c (.cb b)∧((b=want∧GK P tbl o T H r)∨(b≠want∧r=uF r.n)))∨(T t= .tup []∧r=uF r.n))
def Good(P:Program)(tbl:TT)(nt:Nat)(all:List Oper)(K:TM→HM→Nat→List Rc→List (Nat × Nat)→Prop):List Oper→TM→HM→Nat→List Rc→List (Nat × Nat)→List R1→Prop
 |[],T,H,n,rs,rn,l=>l=[]∧K T H n rs rn
 |o::rest,T,H,n,rs,rn,l=>∃r l',l=r::l'∧r.n=n∧Nt P tbl nt all o T H r∧Good P tbl nt all K rest (ez T o.dst r.sv) (cY r.E.ws H) (n+r.E.c) (rs++[⟨r.τ,r.E.ws.map (·.1)⟩]) (rn++r.E.rn) l'
section
variable{P:Program}{tbl:TT}{nt np:Nat}{all:List Oper}
theorem lN:∀(rest:List Oper) (i:Nat) (T:TM) (H:HM) (n:Nat) (rs:List Rc) (rn:List (Nat × Nat)) {K:TM→HM→Nat→Prop},A2 P tbl nt np all rest i T H n rs rn K→
 ∃l,Good P tbl nt all (fun T H n rs rn=>nP all rs=true∧I2 n rn=true∧qA np rn T H fun T H=>K T H n) rest T H n rs rn l
 |[],i,T,H,n,rs,rn,K,h=>by
  obtain⟨h1,h2⟩:=h
  obtain⟨h2,h3⟩:=fY h2
  exact⟨[],rfl,h1,h2,h3⟩
 |o::rest,i,T,H,n,rs,rn,K,h=>by
  simp only[A2] at h
  obtain⟨hd,h⟩:=fY h
  have run:(yO true P tbl o.op o.type T (mq (er o.op T H) H) n fun E=>
        match j7 all i with
        |true=>match E.sv with
         | .c (.val (.bool b))=>bd b (A2 P tbl nt np all rest (i+1) (ez T o.dst (.c (.cb true))) (cY E.ws H) (n+E.c) (rs++[⟨er o.op T H,E.ws.map (·.1)⟩]) (rn++E.rn) K) (A2 P tbl nt np all rest (i+1) (ez T o.dst (.c (.cb false))) (cY E.ws H) (n+E.c) (rs++[⟨er o.op T H,E.ws.map (·.1)⟩]) (rn++E.rn) K)
         |_=>A2 P tbl nt np all rest (i+1) (ez T o.dst E.sv) (cY E.ws H) (n+E.c) (rs++[⟨er o.op T H,E.ws.map (·.1)⟩]) (rn++E.rn) K
        |false=>A2 P tbl nt np all rest (i+1) (ez T o.dst E.sv) (cY E.ws H) (n+E.c) (rs++[⟨er o.op T H,E.ws.map (·.1)⟩]) (rn++E.rn) K)→
        ∃r l',r.n=n∧GK P tbl o T H r∧Good P tbl nt all (fun T H n rs rn=>nP all rs=true∧I2 n rn=true∧qA np rn T H fun T H=>K T H n) rest (ez T o.dst r.sv) (cY r.E.ws H) (n+r.E.c) (rs++[⟨r.τ,r.E.ws.map (·.1)⟩]) (rn++r.E.rn) l':=by
   intro h
   obtain⟨E,hk,hl⟩:=Nc _ h
   have hl':∀T',(∀x∈o.op.operands,ev T' x=ev T x)→yO true P tbl o.op o.type T' (mq (er o.op T H) H) n fun E'=>E'=E:=fun T' hT=>Pn hT (hl _ rfl)
   split at hk
   ·split at hk
    ·rename_i b hsv
     cases b with
     |true=>
      obtain⟨l',g⟩:=lN rest (i+1) _ _ _ _ _ (hk.t rfl)
      exact⟨⟨.c (.cb true),E,_,n⟩,l',rfl,⟨fun ρ w ok v hv=>by simp only[hsv] at hv;rw[eE (bG.iJ hv)];exact dU (.cb .nil),hl'⟩,g⟩
     |false=>
      obtain⟨l',g⟩:=lN rest (i+1) _ _ _ _ _ (hk.f rfl)
      exact⟨⟨.c (.cb false),E,_,n⟩,l',rfl,⟨fun ρ w ok v hv=>by simp only[hsv] at hv;rw[eE (bG.iJ hv)];exact dU (.cb .nil),hl'⟩,g⟩
    ·obtain⟨l',g⟩:=lN rest (i+1) _ _ _ _ _ hk
     exact⟨⟨E.sv,E,_,n⟩,l',rfl,⟨fun ρ w ok v hv=>hv,hl'⟩,g⟩
   ·obtain⟨l',g⟩:=lN rest (i+1) _ _ _ _ _ hk
    exact⟨⟨E.sv,E,_,n⟩,l',rfl,⟨fun ρ w ok v hv=>hv,hl'⟩,g⟩
  split at h
  ·rename_i hg
   obtain⟨r,l',h0,h1,h2⟩:=run h
   exact⟨_,r,l',rfl,h0,⟨hd,by rw[hg];exact h1⟩,h2⟩
  ·rename_i j want hg
   split at h
   ·rename_i t ht
    split at h
    ·rename_i b hb
     split at h
     ·rename_i hs
      obtain⟨r,l',h0,h1,h2⟩:=run h
      exact⟨_,r,l',rfl,h0,⟨hd,by rw[hg];exact⟨t,ht, .inl ⟨b,hb, .inl ⟨vN.1 hs,h1⟩⟩⟩⟩,h2⟩
     ·rename_i hs
      obtain⟨l',h2⟩:=lN rest (i+1) _ _ _ _ _ h
      refine⟨_,uF n,l',rfl,rfl,⟨hd,by rw[hg];exact⟨t,ht, .inl ⟨b,hb, .inr ⟨fun e=>(by rw[vN.2 e] at hs;cases hs),rfl⟩⟩⟩⟩, ?_⟩
      simpa[uF,cY] using h2
    ·rename_i hb
     obtain⟨l',h2⟩:=lN rest (i+1) _ _ _ _ _ h
     refine⟨_,uF n,l',rfl,rfl,⟨hd,by rw[hg];exact⟨t,ht, .inr ⟨hb,rfl⟩⟩⟩, ?_⟩
     simpa[uF,cY] using h2
    ·exact h.elim
   ·exact h.elim
def hF(W:Nat→List (Nat × dE))(S:Nat→Bool)(H0:HM):Nat→HM
 |0=>H0
 |k+1=>cond (S k) (cY (W k) (hF W S H0 k)) (hF W S H0 k)
def Jc(W:Nat→List (Nat × dE))(i:Nat):List Nat:=(W i).map (·.1)
theorem gj:∀{l:List (Nat × dE)} {H:HM} {k:Nat},k∉l.map (·.1)→cY l H k=H k
 |[],_,_,_=>rfl
 |(j,b)::r,H,k,h=>by
  simp only[List.map_cons,List.mem_cons,not_or] at h
  simp only[cY]
  rw[gj h.2,eV h.1]
theorem vP:∀{l:List (Nat × dE)} {H H':HM} {k:Nat},k∈l.map (·.1)→cY l H k=cY l H' k
 |[],_,_,_,h=>by simp at h
 |(j,b)::r,H,H',k,h=>by
  simp only[cY]
  by_cases hr:k∈r.map (·.1)
  ·exact vP hr
  ·have:k=j:=by simpa[hr] using h
   subst this
   rw[gj hr,gj hr,ef,ef]
section
variable{W:Nat→List (Nat × dE)}{S S':Nat→Bool}{H0:HM}
theorem xX{k:Nat}:∀(m:Nat),(∀j,j<m→k∈Jc W j→S j=S' j)→hF W S H0 m k=hF W S' H0 m k
 |0,_=>rfl
 |m+1,h=>by
  have ih:=xX m fun j hj=>h j (by omega)
  simp only[hF]
  by_cases hk:k∈Jc W m
  ·have e:=h m (by omega) hk
   rw[←e]
   cases S m with
   |true=>exact vP hk
   |false=>exact ih
  ·cases S m<;>cases S' m<;>simp only[cond]
   ·exact ih
   ·rw[gj hk];exact ih
   ·rw[gj hk];exact ih
   ·rw[gj hk,gj hk];exact ih
theorem JY(m:Nat)(h:∀j,j<m→S j=S' j):hF W S H0 m=hF W S' H0 m:=by
 funext k
 exact xX m fun j hj _=>h j hj
theorem Jk{i:Nat}(hS:S i=false)(hS':∀j,S' j=if j=i then true else S j):∀(m:Nat),i<m→(∀j k,i<j→j<m→k∈Jc W i→k∈Jc W j→S j=false)→hF W S' H0 m=cY (W i) (hF W S H0 m)
 |0,h,_=>by omega
 |m+1,h,hl=>by
  funext k
  simp only[hF]
  by_cases him:m=i
  ·subst him
   have e:hF W S' H0 m=hF W S H0 m:=JY m fun j hj=>by rw[hS' j,if_neg (by omega)]
   rw[hS' m,if_pos rfl,hS,e]
   rfl
  ·have ih:=Jk hS hS' m (by omega) fun j k h1 h2=>hl j k h1 (by omega)
   rw[hS' m,if_neg him,ih]
   cases hSm:S m with
   |false=>rfl
   |true=>
    simp only[cond]
    by_cases hk:k∈Jc W m
    ·have hki:k∉Jc W i:=fun hki=>by rw[hl m k (by omega) (by omega) hki hk] at hSm;cases hSm
     rw[gj (l:=W i) hki]
     exact vP hk
    ·rw[gj hk]
     by_cases hki:k∈Jc W i
     ·exact vP hki
     ·rw[gj hki,gj hki,gj hk]
end
theorem Ei(hd:Fu all){K:TM→HM→Nat→List Rc→List (Nat × Nat)→Prop}{T0:TM}{H0:HM}{R:Nat→R1}:∀(rest:List Oper) (pre:List Oper) (T:TM) (H:HM) (n:Nat) (rs:List Rc) (rn:List (Nat × Nat)) (l:List R1),pre++rest=all→
 T=tF all (fun i=>(R i).sv) (fun j=>Nat.blt j pre.length) T0→H=hF (fun i=>(R i).E.ws) (fun _=>true) H0 pre.length→rs=(List.range pre.length).map (fun i=>⟨(R i).τ,(R i).E.ws.map (·.1)⟩)→rn=(List.range pre.length).flatMap (fun i=>(R i).E.rn)→
 (∀(j:Nat) r,l[j]? =some r→R (pre.length+j)=r)→Good P tbl nt all K rest T H n rs rn l→
 (∀(i:Nat) o,pre.length≤i→all[i]? =some o→Nt P tbl nt all o (tF all (fun i=>(R i).sv) (fun j=>Nat.blt j i) T0) (hF (fun i=>(R i).E.ws) (fun _=>true) H0 i) (R i))∧
  (∀i,pre.length≤i→i<all.length→n≤(R i).n∧((i=pre.length→(R i).n=n)∧(i+1<all.length→(R (i+1)).n=(R i).n+(R i).E.c)))∧
  ∃n',(∀i,pre.length≤i→i<all.length→(R i).n+(R i).E.c≤n')∧n≤n'∧K (tF all (fun i=>(R i).sv) (fun j=>Nat.blt j all.length) T0) (hF (fun i=>(R i).E.ws) (fun _=>true) H0 all.length) n' ((List.range all.length).map (fun i=>⟨(R i).τ,(R i).E.ws.map (·.1)⟩)) ((List.range all.length).flatMap (fun i=>(R i).E.rn))
 |[],pre,T,H,n,rs,rn,l,he,hT,hH,hrs,hrn,hl,hg=>by
  simp at he
  subst he
  refine⟨fun i o hi ho=> ?_,fun i hi hi'=> ?_,n,fun i hi hi'=> ?_,Nat.le_refl _, ?_⟩
  ·have:=(List.getElem?_eq_some_iff.1 ho).1;omega
  ·omega
  ·omega
  ·rw[←hT,←hH,←hrs,←hrn];exact hg.2
 |o::rest,pre,T,H,n,rs,rn,l,he,hT,hH,hrs,hrn,hl,hg=>by
  obtain⟨r,l',rfl,h0,h1,h2⟩:=hg
  have hR:R pre.length=r:=by simpa using hl 0 r rfl
  have hget:all[pre.length]? =some o:=by rw[←he];simp
  have hlen:pre.length<all.length:=(List.getElem?_eq_some_iff.1 hget).1
  have hT':ez T o.dst r.sv=tF all (fun i=>(R i).sv) (fun j=>Nat.blt j (pre++[o]).length) T0:=by
   rw[hT,←hR,List.length_append]
   refine(KI hd hget ?_ ?_).symm
   ·rw[Nat.blt_eq];simp
   ·intro j _ hj
    simp only[List.length_cons,List.length_nil]
    rw[Bool.eq_iff_iff,Nat.blt_eq,Nat.blt_eq]
    omega
  have hlen':(pre++[o]).length=pre.length+1:=by simp
  have hH':cY r.E.ws H=hF (fun i=>(R i).E.ws) (fun _=>true) H0 (pre++[o]).length:=by
   rw[hlen',hH]
   simp only[hF,cond]
   rw[hR]
  have hrs':rs++[⟨r.τ,r.E.ws.map (·.1)⟩]=(List.range (pre++[o]).length).map (fun i=>(⟨(R i).τ,(R i).E.ws.map (·.1)⟩:Rc)):=by
   rw[hlen',List.range_succ,List.map_append,←hrs]
   simp[hR]
  have hrn':rn++r.E.rn=(List.range (pre++[o]).length).flatMap (fun i=>(R i).E.rn):=by
   rw[hlen',List.range_succ,List.flatMap_append,←hrn]
   simp[hR]
  obtain⟨g1,g2,n',g3,g4,g5⟩:=Ei hd rest (pre++[o]) _ _ _ _ _ l' (by simpa using he) hT' hH' hrs' hrn' (fun j s hs=>by
   have:=hl (j+1) s (by simpa using hs)
   rw[List.length_append]
   rw[←this]
   congr 1
   simp
   omega) h2
  have hRn:(R pre.length).n=n:=by rw[hR];exact h0
  refine⟨fun i q hi hq=> ?_,fun i hi hi'=> ?_,n',fun i hi hi'=> ?_,by omega,g5⟩
  ·by_cases e:i=pre.length
   ·subst e
    rw[hget] at hq
    injection hq with hq
    subst hq
    rw[←hT,←hH,hR]
    exact h1
   ·exact g1 i q (by simp;omega) hq
  ·by_cases e:i=pre.length
   ·subst e
    refine⟨by omega,fun _=>hRn,fun h=> ?_⟩
    have:=(g2 (pre.length+1) (by simp) h).2.1 (by simp)
    rw[this,hRn,hR]
   ·have:=g2 i (by simp;omega) hi'
    refine⟨by omega,fun h=>absurd h e,this.2.2⟩
  ·by_cases e:i=pre.length
   ·subst e
    rw[hRn,hR]
    exact g4
   ·exact g3 i (by simp;omega) hi'
end
theorem rT{ops:List Oper}{S:Nat→Bool}(hc:wZ ops S):∀(rest:List Oper) (pre:List Oper) (acc:List (List Nat)),pre++rest=ops→acc.length=pre.length→(∀(e:Nat) l,acc[e]? =some l→∀o,ops[e]? =some o→(∀x∈fw o,S x=true)→∀x∈l,S x=true)→
 ∀(e:Nat) l,(mV rest acc)[e]? =some l→∀o,ops[e]? =some o→(∀x∈fw o,S x=true)→∀x∈l,S x=true
 |[],pre,acc,_,_,h=>h
 |o::r,pre,acc,he,hl,h=>by
  refine rT hc r (pre++[o]) _ (by simpa using he) (by simp[hl]) ?_
  intro e l hel q hq hS x hx
  by_cases hlt:e<acc.length
  ·rw[List.getElem?_append_left hlt] at hel
   exact h e l hel q hq hS x hx
  ·rw[List.getElem?_append_right (by omega)] at hel
   have heq:e=pre.length:=by
        have:=(List.getElem?_eq_some_iff.1 hel).1
        simp at this
        omega
   subst heq
   rw[hl,Nat.sub_self,List.getElem?_cons_zero] at hel
   injection hel with hel
   subst hel
   have hqo:q=o:=by
        have:ops[pre.length]? =some o:=by rw[←he];simp
        rw[this] at hq
        injection hq with hq
        exact hq.symm
   subst hqo
   have key:∀(es:List Nat) (init:List Nat),(∀x∈init,S x=true)→(∀x∈es,S x=true)→∀x∈es.foldl (fun l e=>O6 l (e::(acc[e]?).getD [])) init,S x=true:=by
        intro es
        induction es with
        |nil=>intro init h1 _;exact h1
        |cons y ys ih=>
         intro init h1 h2
         refine ih _ (fun x hx=> ?_) fun x hx=>h2 x (by simp[hx])
         have hx:=Gf hx
         simp only[List.mem_cons] at hx
         rcases hx with hx|rfl|hx
         ·exact h1 x hx
         ·exact h2 x (by simp)
         ·cases hacc:acc[y]? with
          |none=>rw[hacc] at hx;simp at hx
          |some ly=>
           rw[hacc] at hx
           have hy:y<ops.length:=by
            have:=(List.getElem?_eq_some_iff.1 hacc).1
            rw[←he,List.length_append]
            omega
           have hSy:=h2 y (by simp)
           exact h y ly hacc ops[y] (List.getElem?_eq_getElem hy) (fun x hx'=>hc y _ (List.getElem?_eq_getElem hy) hSy x hx') x (by simpa using hx)
   exact key _ [] (by simp) hS x hx
theorem y7:∀(rest:List Oper) (acc:List (List Nat)),(mV rest acc).length=acc.length+rest.length
 |[],acc=>by simp[mV]
 |o::r,acc=>by simp only[mV];rw[y7 r];simp;omega
theorem wo{ops:List Oper}{S:Nat→Bool}(hc:wZ ops S){j i:Nat}{o:Oper}(hj:ops[j]? =some o)(hS:∀x∈fw o,S x=true)(hi:g7 (((mV ops [])[j]?).getD []) i=true):S i=true:=by
 have hlt:j<(mV ops []).length:=by rw[y7];simpa using(List.getElem?_eq_some_iff.1 hj).1
 have hget:=List.getElem?_eq_getElem hlt
 rw[hget] at hi
 exact rT hc ops [] [] rfl rfl (by simp) j _ hget o hj hS i (gO.1 (by simpa using hi))
theorem zK{a b:List Nat}(h:Cy a b=true):∀x∈a,x∉b:=by
 intro x hx hb
 have:=List.all_eq_true.1 h x hx
 rw[gO.2 hb] at this
 cases this
theorem uS{ops:List Oper}{m:Nat}{f:Nat→Rc}(h:nP ops ((List.range m).map f)=true){i j:Nat}(hij:i<j)(hj:j<m)(hp:g7 (((mV ops [])[j]?).getD []) i=false):
 (∀k∈(f j).ws,k∉(f i).τ∧k∉(f i).ws)∧∀k∈(f i).ws,k∉(f j).τ:=by
 have g:∀i,i<m→((List.range m).map f)[i]? =some (f i):=fun i hi=>by simp[hi]
 have h1:=List.all_eq_true.1 (Iu h) _ (iY _ 0 i _ (g i (by omega)))
 have h2:=List.all_eq_true.1 h1 _ (iY _ 0 j _ (g j hj))
 simp only[Nat.zero_add] at h2
 unfold jc at h2
 rw[show Nat.blt i j=true by rw[Nat.blt_eq];exact hij] at h2
 simp only[hp,Bool.and_eq_true] at h2
 exact⟨fun k hk=>by have:=zK h2.1 k hk;simpa using this,fun k hk=>zK h2.2 k hk⟩
section
variable{P:Program}
theorem Gc{ops:Array Oper}{Q:Exit→Act→World→Prop}(hd:Fu ops.toList)(Φ:(Nat→Bool)→Act→World→Prop)(hcongr:∀S S':Nat→Bool,(∀j,j<ops.toList.length→S j=S' j)→∀a w,Φ S a w→Φ S' a w)
 (step:∀(S:Nat→Bool) (i:Nat) (o:Oper) (a:Act) (w:World) (next:Act→World→Prop),ops.toList[i]? =some o→S i=false→wZ ops.toList S→(∀e∈fw o,S e=true)→Φ S a w→(∀a' w',Φ (fun j=>if j=i then true else S j) a' w'→next a' w')→
  (Region.wanted o (yielded ops a.tmps)=true→o.wp P a w next Q)∧(Region.wanted o (yielded ops a.tmps)=false→next (a.put o.dst undef) w))
 (hQ:∀a w,Φ (fun _=>true) a w→Q .normal a w):
 ∀(fuel:Nat) (listed:Array Bool) (a:Act) (w:World),listed.size=ops.size→wZ ops.toList (fun i=>listed.getD i false)→(List.range ops.size).countP (fun i=> !listed.getD i true)=fuel→
  Φ (fun i=>listed.getD i false) a w→wpAny P .any ops Q fuel listed a w:=by
 have edge:∀(o:Oper) (listed:Array Bool),(o.after.all fun e=> !Region.binds .any e||listed.getD e.on false)=true↔∀e∈fw o,listed.getD e false=true:=by
  intro o listed
  rw[Array.all_eq_true']
  simp only[fw,List.mem_map,List.mem_filter]
  constructor
  ·rintro h e ⟨x,⟨hx,hb⟩,rfl⟩
   have:=h x (by simpa using hx)
   rw[hb] at this
   simpa using this
  ·intro h x hx
   cases hb:Region.binds .any x with
   |false=>rfl
   |true=>simpa using h x.on ⟨x,⟨by simpa using hx,hb⟩,rfl⟩
 have inready:∀(listed:Array Bool) (i:Nat),i∈Region.ready .any ops listed↔∃o,ops[i]? =some o∧listed.getD i true=false∧∀e∈fw o,listed.getD e false=true:=by
  intro listed i
  simp only[Region.ready,List.mem_filter,List.mem_range,Bool.and_eq_true,Bool.not_eq_true']
  constructor
  ·rintro⟨h1,h2,h3⟩
   have ho:ops[i]? =some ops[i]:=Array.getElem?_eq_getElem h1
   rw[ho] at h3
   simp only[Option.map_some,Option.getD_some] at h3
   exact⟨_,ho,h2,(edge _ _).1 h3⟩
  ·rintro⟨o,ho,h2,h3⟩
   refine⟨(Array.getElem?_eq_some_iff.1 ho).1,h2, ?_⟩
   rw[ho]
   simp only[Option.map_some,Option.getD_some]
   exact(edge _ _).2 h3
 have getDD:∀(listed:Array Bool) (i:Nat),i<listed.size→listed.getD i true=listed.getD i false:=by
  intro listed i hi
  simp[Array.getD,hi]
 intro fuel
 induction fuel with
 |zero=>
  intro listed a w hsz hc hcnt hS
  have hall:∀i,i<ops.size→listed.getD i true=true:=by
   intro i hi
   have:=List.countP_eq_zero.1 hcnt i (by simp[hi])
   simpa using this
  refine⟨?_,hQ a w ?_⟩
  ·cases hr:Region.ready .any ops listed with
   |nil=>rfl
   |cons x xs=>
    obtain⟨o,ho,h2,_⟩:=(inready listed x).1 (by rw[hr];simp)
    rw[hall x (Array.getElem?_eq_some_iff.1 ho).1] at h2
    cases h2
  ·refine hcongr _ _ (fun j hj=> ?_) _ _ hS
   have hlt:j<ops.size:=by simpa using hj
   rw[←getDD listed j (by omega),hall j hlt]
 |succ fuel ih=>
  intro listed a w hsz hc hcnt hS
  refine⟨fun hr=> ?_,fun i hi=> ?_⟩
  ·
   exfalso
   have hex:∃i,i<ops.size∧listed.getD i true=false:=by
        have hpos:0<(List.range ops.size).countP (fun i=> !listed.getD i true):=by omega
        obtain⟨i,h1,h2⟩:=List.countP_pos_iff.1 hpos
        exact⟨i,by simpa using h1,by simpa using h2⟩
   obtain⟨i,hi1,hi2⟩:=hex
   have:∀n i,i≤n→i<ops.size→listed.getD i true=false→False:=by
        intro n
        induction n with
        |zero=>
         intro i hin h1 h2
         have ho:ops[i]? =some ops[i]:=Array.getElem?_eq_getElem h1
         have:i∈Region.ready .any ops listed:=(inready listed i).2 ⟨_,ho,h2,fun e he=>by
          have:=hd.back i _ (by simp[ho]) e he
          omega⟩
         rw[hr] at this
         cases this
        |succ n ihn=>
         intro i hin h1 h2
         have ho:ops[i]? =some ops[i]:=Array.getElem?_eq_getElem h1
         have:i∈Region.ready .any ops listed:=(inready listed i).2 ⟨_,ho,h2,fun e he=>by
          have hlt:=hd.back i _ (by simp[ho]) e he
          cases hx:listed.getD e false with
          |true=>rfl
          |false=>exact(ihn e (by omega) (by omega) ((getDD listed e (by omega)).trans hx)).elim⟩
         rw[hr] at this
         cases this
   exact this i i (Nat.le_refl _) hi1 hi2
  ·obtain⟨o,ho,h2,h3⟩:=(inready listed i).1 hi
   have hlt:i<ops.size:=(Array.getElem?_eq_some_iff.1 ho).1
   have hoL:ops.toList[i]? =some o:=by simpa using ho
   have hs:listed.getD i false=false:=by rw[←getDD listed i (by omega)];exact h2
   have setget:∀j,j<ops.size→(listed.setIfInBounds i true).getD j false=if j=i then true else listed.getD j false:=by
        intro j hj
        simp only[Array.getD_eq_getD_getElem?,Array.getElem?_setIfInBounds]
        by_cases e:i=j
        ·subst e;simp[hsz,hlt]
        ·have:¬j=i:=fun h=>e h.symm
         simp[e,this]
   have next:∀a' w',Φ (fun j=>if j=i then true else listed.getD j false) a' w'→wpAny P .any ops Q fuel (listed.setIfInBounds i true) a' w':=by
        intro a' w' hS'
        refine ih _ a' w' (by simpa using hsz) ?_ ?_ ?_
        ·intro k q hq hk e he
         have hkl:k<ops.size:=by simpa using(List.getElem?_eq_some_iff.1 hq).1
         have hel:e<k:=hd.back k q hq e he
         simp only at hk⊢
         rw[setget k hkl] at hk
         rw[setget e (by omega)]
         split
         ·rfl
         ·split at hk
          ·rename_i hki
           subst hki
           rw[hoL] at hq
           injection hq with hq
           subst hq
           exact h3 e he
          ·exact hc k q hq hk e he
        ·have hc2:∀(l:List Nat),l.Nodup→(∀x∈l,x<ops.size)→l.countP (fun j=> !listed.getD j true)=l.countP (fun j=> !(listed.setIfInBounds i true).getD j true)+(if i∈l then 1 else 0):=by
          intro l
          induction l with
          |nil=>intro _ _;simp
          |cons x xs ihx=>
           intro hn hx
           have hx1:=hx x (by simp)
           rw[List.nodup_cons] at hn
           have ih':=ihx hn.2 fun y hy=>hx y (by simp[hy])
           rw[List.countP_cons,List.countP_cons,ih']
           have e1:listed.getD x true=listed.getD x false:=getDD listed x (by omega)
           have e2:(listed.setIfInBounds i true).getD x true=(listed.setIfInBounds i true).getD x false:=getDD _ x (by simp;omega)
           rw[e1,e2,setget x hx1]
           by_cases hxi:x=i
           ·subst hxi
            simp[hs,hn.1]
           ·have hne:¬i=x:=fun h=>hxi h.symm
            simp only[hxi,if_false,List.mem_cons,hne,false_or]
            omega
         have:=hc2 (List.range ops.size) List.nodup_range (fun x hx=>by simpa using hx)
         rw[hcnt,if_pos (by simp[hlt])] at this
         omega
        ·refine hcongr _ _ (fun j hj=> ?_) _ _ hS'
         rw[setget j (by simpa using hj)]
   obtain⟨s1,s2⟩:=step _ i o a w _ hoL hs hc h3 hS next
   unfold wpOp
   rw[ho]
   simp only
   cases hw:Region.wanted o (yielded ops a.tmps) with
   |true=>rw[if_pos rfl];exact .inl (s1 hw)
   |false=>rw[if_neg (by simp)];exact s2 hw
end
end Go.KA
