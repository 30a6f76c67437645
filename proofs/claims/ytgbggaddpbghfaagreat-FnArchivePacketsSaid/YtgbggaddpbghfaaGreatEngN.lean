/- Part of a proof engine for functions of the given program: what an operation, a loop and a call compute, symbolically. No conditions. -/
import Derived.Test.YtgbggaddpbghfaaGreatEngM
namespace Go.KA
open Go Go.RowKit
def OZ(tbl:TT)(ty:Nat)(s:SV):SV:=
 match s with
 | .c (.val (.slice none 0 0))=>match tbl.find ty with
   |some i=>match i.elem with
    |some (_,cT,_)=> .c (.ro cT [])
    |none=>s
   |none=>s
 | .c (.cb b)=> .c (.val (.bool b))
 |s=>s
def kx(tbl:TT)(T:TM):List Operand→List Nat→List SV
 |x::xs,t::ts=>OZ tbl t (ev T x)::kx tbl T xs ts
 |x::xs,[]=>ev T x::kx tbl T xs []
 |[],_=>[]
def G8(d:Bool)(P:Program)(tbl:TT)(c:Call)(T:TM)(H:HM)(n:Nat)(K:gI→Prop):Prop:=
 match c.callee with
 | .builtin .len=>match c.args.toList,c.argTypes.toList with
   |[x],[t]=>
    match ev T x with
    | .c (.val (.string s))=>match tbl.find t with|some i=>cond i.FL (HA d (.c (.val (.string s))) H fun sv=>K (.q sv)) False|none=>False
    |sv=>match tbl.find t with|some i=>cond i.elem.isSome (HA d sv H fun sv=>K (.q sv)) False|none=>False
   |_,_=>False
 | .builtin .append=>match c.args.toList,c.argTypes.toList with
   |[s,x],[t,t']=>cond (Nat.beq t t') (sj d tbl t (ev T s) (ev T x) H n K) False
   |_,_=>False
 | .value f=>match ev T f with
   | .clo k caps=>aa (d:=d) P k (kx tbl T c.args.toList c.argTypes.toList++caps) H n K
   |_=>False
 |_=>False
def Kc(k:Nat)(caps:List SV)(K:gI→Prop):Prop:=cond (caps.all oq) (K (.q (.clo k caps))) False
def yO(d:Bool)(P:Program)(tbl:TT)(op:Op)(oty:Nat)(T:TM)(H:HM)(n:Nat)(K:gI→Prop):Prop:=
 match op with
 | .move x=>zv tbl oty (ev T x) n K
 | .assign x=>zv tbl oty (ev T x) n K
 | .pick c a b=>D8 (ev T c) (ev T a) (ev T b) fun sv=>K (.q sv)
 | .alloc t=>AY tbl t n K
 | .box _ x=>Ni (ev T x) n K
 | .build t ps=>AF tbl t (ps.toList.map fun p=>(p.1,ev T p.2)) n K
 | .buildSlice t l ps=>mc tbl t l (ps.toList.map fun p=>(p.1,ev T p.2)) H n K
 | .load t x=>DN d tbl t (ev T x) H n K
 | .store t x y=>xK tbl t (ev T x) (ev T y) H K
 | .nilCheck x=>JI (ev T x) fun sv=>K (.q sv)
 | .binOp op t x y _=>Dz d tbl op t (ev T x) (ev T y) fun sv=>K (.q sv)
 | .unOp op _ x=>Px op (ev T x) fun sv=>K (.q sv)
 | .convert s t x=>cond ((tbl.find s).any fun i=>i.ik.isSome) (Cz tbl t (ev T x) fun sv=>K (.q sv)) (xc tbl s t (ev T x) H fun sv=>K (.q sv))
 | .makeFunc fn first caps=>match fn,first.toList with
   | .func k,[]=>Kc k (caps.toList.map (ev T)) K
   |_,_=>False
 | .makeSlice t l c=>nR tbl t (ev T l) (ev T c) n K
 | .slice t x lo hi mx=>match mx with
   |none=>wH tbl t (ev T x) (lo.map (ev T)) (hi.map (ev T)) H fun sv=>K (.q sv)
   |some _=>False
 | .fieldAddr s x f=>v8 tbl s (ev T x) f fun sv=>K (.q sv)
 | .indexAddr t x i=>kp tbl t (ev T x) (ev T i) H fun sv=>K (.q sv)
 | .index t x i=>match tbl.find t with|some j=>cond j.FL (xP (ev T x) (ev T i) fun sv=>K (.q sv)) False|none=>False
 | .extract x i=>pS (ev T x) i fun sv=>K (.q sv)
 | .makeMap t r=>match r with|none=>sf tbl t n K|some _=>False
 | .lookup t x k ok=>sQ tbl t (ev T x) (ev T k) ok H fun sv=>K (.q sv)
 | .mapUpdate t x k v=>lz tbl t (ev T x) (ev T k) (ev T v) H K
 | .call c=>G8 d P tbl c T H n K
 |_=>False
section
variable{P:Program}{tbl:TT}{Γ:Cx}{nt:Nat}{T:TM}{H Hm:HM}{ρ:RM}{F:FM}{a:Act}{w:World}
theorem HG(hm:Mem Γ H ρ F w)(hle:l9 Hm H){n i b k1 c:Nat}{s:dE}{u:Value}{ty sz:Nat}{rows:List (List CV)}{x y:CV}{sv:SV}{e:Ending}{w':World}{K:gI→Prop}
 (h1:Hm k1= .aG (some u) ty sz rows)(h2:Hm b= .cells [.c x, .c y, .lw k1])(hi:Hm i≠ .dead)(hib:i≠b)(hik:i≠k1)(hbk:b≠k1)(hn:ρ n=none)(k:K ⟨sv,[(i,s)],c,[]⟩)
 (h:lg Γ H ρ F w n (fun E=>E=⟨sv,[(i,s),(n, .aG (some u) ty sz rows),(k1, .dead),(b, .cells [.c x, .c y, .lw n])],c,[(n,k1)]⟩) e w'):lg Γ H ρ F w n K e w':=by
 obtain⟨E,ρ',F',v,rfl,rfl,hx,hr,hM,hok,hsame,hT⟩:=h
 simp only[] at hr hM hT
 have nk:k1≠n:=jF hm hle hn (by rw[h1];simp)
 have nb:b≠n:=jF hm hle hn (by rw[h2];simp)
 have ni:i≠n:=jF hm hle hn hi
 have e1:H k1= .aG (some u) ty sz rows:=by
  rcases hle k1 with e|e
  ·rw[h1] at e;cases e
  ·rw[←e,h1]
 have e2:H b= .cells [.c x, .c y, .lw k1]:=by
  rcases hle b with e|e
  ·rw[h2] at e;cases e
  ·rw[←e,h2]
 have e3:H n= .dead:=(hm.GQ hn).2
 have bq:∀{p q:Nat},p≠q→Nat.beq p q=false:=fun{p q} h=>by
  cases hb:Nat.beq p q with
  |true=>exact absurd (Nat.eq_of_beq_eq_true hb) h
  |false=>rfl
 have hu:∀l:List (Nat × dE),∀j,(∀p∈l,p.1≠j)→cY l H j=H j:=by
  intro l
  generalize H=H0
  induction l generalizing H0 with
  |nil=>intro j _;rfl
  |cons p l ih=>
   intro j hj
   show cY l (dA H0 p.1 p.2) j=H0 j
   rw[ih _ j fun q hq=>hj q (by simp[hq])]
   exact eV (hj p (by simp)).symm
 have g0:∀j,j≠i→cY [(i,s)] H j=H j:=fun j hj=>hu _ j (by simp[hj.symm])
 have g1:∀j,j≠i→j≠n→j≠k1→j≠b→cY [(i,s),(n, .aG (some u) ty sz rows),(k1, .dead),(b, .cells [.c x, .c y, .lw n])] H j=H j:=fun j a1 a2 a3 a4=>hu _ j (by simp[a1.symm,a2.symm,a3.symm,a4.symm])
 have g2:cY [(i,s),(n, .aG (some u) ty sz rows),(k1, .dead),(b, .cells [.c x, .c y, .lw n])] H n= .aG (some u) ty sz rows:=by
  show dA (dA (dA (dA H i s) n _) k1 _) b _ n=_
  rw[eV nb.symm,eV nk.symm,ef]
 have g3:cY [(i,s),(n, .aG (some u) ty sz rows),(k1, .dead),(b, .cells [.c x, .c y, .lw n])] H k1= .dead:=by
  show dA (dA (dA (dA H i s) n _) k1 _) b _ k1=_
  rw[eV hbk.symm,ef]
 have g4:cY [(i,s),(n, .aG (some u) ty sz rows),(k1, .dead),(b, .cells [.c x, .c y, .lw n])] H b= .cells [.c x, .c y, .lw n]:=by
  show dA (dA (dA (dA H i s) n _) k1 _) b _ b=_
  rw[ef]
 have g5:cY [(i,s),(n, .aG (some u) ty sz rows),(k1, .dead),(b, .cells [.c x, .c y, .lw n])] H i=cY [(i,s)] H i:=by
  show dA (dA (dA (dA H i s) n _) k1 _) b _ i=dA H i s i
  rw[eV hib,eV hik,eV ni]
 generalize cY [(i,s),(n, .aG (some u) ty sz rows),(k1, .dead),(b, .cells [.c x, .c y, .lw n])] H=H1 at hM g1 g2 g3 g4 g5
 obtain⟨v1,xs1,f1,r1,ho1,hr1,hin1,hF1,hm1⟩:=dN (hM.hb (l9.refl H1)) g2
 obtain⟨v0,xs0,f0,r0,ho0,hr0,hin0,hF0,hm0⟩:=dN (hm.hb (l9.refl H)) e1
 obtain rfl:=hm1 _ rfl
 obtain rfl:=hm0 _ rfl
 have rk:=hx _ _ r0
 have fk:F' k1=[]:=by
  have:=hM.blocks k1
  rw[g3] at this
  generalize F' k1=f at this
  cases this
  rfl
 have hF:∀j,(if j=k1 then F' n else if j=n then[] else F' j)=if j=k1 then F' n else if j=n then[] else F' j:=fun _=>rfl
 obtain⟨F2,hF2⟩:∃F2:FM,∀j,F2 j=if j=k1 then F' n else if j=n then[] else F' j:=⟨_,fun _=>rfl⟩
 have f2k:F2 k1=F' n:=by rw[hF2,if_pos rfl]
 have f2n:F2 n=[]:=by rw[hF2,if_neg nk.symm,if_pos rfl]
 have f2o:∀j,j≠k1→j≠n→F2 j=F' j:=fun j a1 a2=>by rw[hF2,if_neg a1,if_neg a2]
 have hmem:∀bb,(∃j,bb∈F2 j)↔∃j,bb∈F' j:=by
  intro bb
  constructor
  ·rintro⟨j,hj⟩
   by_cases a1:j=k1
   ·subst a1;rw[f2k] at hj;exact⟨n,hj⟩
   ·by_cases a2:j=n
    ·subst a2;rw[f2n] at hj;cases hj
    ·rw[f2o j a1 a2] at hj;exact⟨j,hj⟩
  ·rintro⟨j,hj⟩
   by_cases a1:j=k1
   ·subst a1;rw[fk] at hj;cases hj
   ·by_cases a2:j=n
    ·subst a2;exact⟨k1,by rw[f2k];exact hj⟩
    ·exact⟨j,by rw[f2o j a1 a2];exact hj⟩
 have hokE:aL Γ F2 w'=aL Γ F' w':=by
  funext bb
  unfold aL
  rw[hmem]
 have pick:∀{j bb},bb∈F2 j→∃j',bb∈F' j'∧(j'=if j=k1 then n else j):=by
  intro j bb hj
  by_cases a1:j=k1
  ·subst a1;rw[f2k] at hj;exact⟨n,hj,by rw[if_pos rfl]⟩
  ·by_cases a2:j=n
   ·subst a2;rw[f2n] at hj;cases hj
   ·rw[f2o j a1 a2] at hj;exact⟨j,hj,by rw[if_neg a1]⟩
 refine⟨_,ρ',F2,v,rfl,k,hx,hr,⟨fun j=> ?_,fun j l bb hj hl=> ?_,fun j=> ?_,fun j bb hb=> ?_,fun j bb hb=> ?_,hM.mU,hM.frame,hM.size,hM.os,hM.tape,hM.output,hM.yG⟩,fun bb hb=>by rw[hokE];exact hok bb hb,hsame,by rw[hokE];exact hT⟩
 ·rw[hokE]
  simp only[]
  by_cases a1:j=k1
  ·subst a1
   have e9:=rk.trans r1.symm
   rw[g0 _ hik.symm,e1,f2k,e9]
   have:=hM.blocks n
   rwa[g2] at this
  ·by_cases a2:j=n
   ·subst a2
    rw[g0 _ ni.symm,e3,f2n]
    exact .dead
   ·rw[f2o j a1 a2]
    have hb:=hM.blocks j
    by_cases a3:j=b
    ·subst a3
     rw[g0 _ hib.symm,e2]
     rw[g4] at hb
     generalize ρ' j=o at hb
     generalize F' j=fj at hb
     cases hb with
     | @cells ty cs bb arr hb hl hh=>
       refine .cells hb hl fun m p q hp hq=> ?_
       match m,hp with
       |0,hp=>exact hh 0 p q hp hq
       |1,hp=>exact hh 1 p q hp hq
       |2,hp=>
        obtain rfl:=Option.some.inj hp
        have:=hh 2 (.lw n) q rfl hq
        cases this with
        |lw h7=>
         rw[r1] at h7
         injection h7 with h7
         subst h7
         exact .lw rk
    ·by_cases a4:j=i
     ·subst a4;rw[←g5];exact hb
     ·rw[g0 _ a4,←g1 j a4 a2 a1 a3];exact hb
 ·obtain⟨j',p1,q1⟩:=pick hj
  obtain⟨l',p2,q2⟩:=pick hl
  have:=hM.jz j' l' bb p1 p2
  subst q1 q2
  by_cases a1:j=k1
  ·subst a1
   by_cases a2:l=j
   ·exact a2.symm
   ·rw[if_pos rfl,if_neg a2] at this
    subst this
    rw[f2n] at hl;cases hl
  ·by_cases a2:l=k1
   ·subst a2
    rw[if_pos rfl,if_neg a1] at this
    subst this
    rw[f2n] at hj;cases hj
   ·rwa[if_neg a1,if_neg a2] at this
 ·rw[hF2]
  split
  ·exact hM.nodup n
  ·split
   ·exact List.nodup_nil
   ·exact hM.nodup j
 ·obtain⟨j',p1,_⟩:=pick hb
  exact hM.lt j' bb p1
 ·obtain⟨j',p1,_⟩:=pick hb
  exact hM.src j' bb p1
theorem DW{d:Bool}(hm:Mem Γ H ρ F w)(hle:l9 Hm H){f n:Nat}{args:List SV}{vs:List Value}{K:gI→Prop}(h:aa (d:=d) P f args Hm n K)(hfr:me ρ n K)(hfd:d=false→gy ρ n∧(∀i,i<n→ρ i≠none)∧Hm=H)(hl:args.length=vs.length)
 (hd:∀(j:Nat) s v,args[j]? =some s→vs[j]? =some v→aZ ρ w (aL Γ F w) s v):HL P f∧Calls P f vs.toArray w (lg Γ H ρ F w n K):=by
 have h0:eT Hm [] args=[]:=by cases args<;>rfl
 cases h with
 |pure args' r hv h hs E he k=>
  refine nv hm hle hv h (by rw[h0];simp) ?_ he k hfr hl hd
  cases hc:dT [] args with
  |true=>exact .inl rfl
  |false=>rw[hc] at hs;exact .inr ⟨F6 (by simpa using hs),trivial⟩
 |own args' r hv h hp E he k=>exact nv hm hle hv h (by rw[h0];simp) (.inr ⟨hp,trivial⟩) he k hfr hl hd
 |gen md args' outs r hv h hn hc E he k=>exact nv hm hle hv h (fm hn) (.inl hc) he k hfr hl hd
 |Ql md args' outs r hv h hn hp E he k=>exact nv hm hle hv h (fm hn) (.inr hp) he k hfr hl hd
 |ex hd' md args' φ outs r hv h hn hc k=>
  refine vW hm hle hv h (fm hn) (.inl hc) (fun x hx=> ?_) hfr hl hd
  have hk:=k x hx
  split at hk
  ·rename_i E he
   exact⟨E,he,hk⟩
  ·exact hk.elim
 |raw hd' h=>
  obtain⟨h1,h2,h3⟩:=hfd hd'
  subst h3
  exact h _ _ _ _ _ hm h1 h2 hl hd
 |gM md args' outs r hv h hn hc sv i b k1 s u ty sz rows x y c he h1 h2 h3 hdd hc0 k=>
  have hcp:0<c:=by
   cases c with
   |zero=>simp at hc0
   |succ c=>omega
  have hρ:ρ n=none:=hfr _ k n (Nat.le_refl _) (by show n<n+c;omega)
  obtain⟨g1,g2⟩:=nv (K:=fun E=>E=⟨sv,[(i,s),(n, .aG (some u) ty sz rows),(k1, .dead),(b, .cells [.c x, .c y, .lw n])],c,[(n,k1)]⟩) hm hle hv h (fm hn) (.inl hc) he rfl (fun E hE j a1 a2=>by
   subst hE
   exact hfr _ k j a1 a2) hl hd
  have hnd:=fm hdd
  simp only[List.nodup_cons,List.mem_cons,List.not_mem_nil,or_false,not_or,not_false_eq_true,List.nodup_nil,and_true] at hnd
  refine⟨g1,g2.mono fun e w' hp=>HG hm hle h1 h2 ?_ hnd.1.1 hnd.1.2 hnd.2 hρ k hp⟩
  intro e0
  rw[e0] at h3
  cases h3
theorem F3{ok:Nat→Prop}{t:Nat}{s:SV}{v:Value}(h:aZ ρ w ok s v):aZ ρ w ok (OZ tbl t s) v:=by
 unfold OZ
 split
 ·split
  ·split
   ·have:=eE (bG.iJ h)
    subst this
    exact dU (.ro rfl (Nat.le_refl _) (by simp[maxLen]) (by simp) .nil (fun j x hx=>by simp at hx) .nil)
   ·exact h
  ·exact h
 ·have:=n8 (bG.iJ h)
  subst this
  exact dU (mk_val rfl)
 ·exact h
theorem po(hS:St Γ nt T H ρ F a w):∀(xs:List Operand) (ts:List Nat),(kx tbl T xs ts).length=(xs.map a.eval).length∧∀(j:Nat) s v,(kx tbl T xs ts)[j]? =some s→(xs.map a.eval)[j]? =some v→aZ ρ w (aL Γ F w) s v
 |[],ts=>by cases ts<;>simp[kx]
 |x::xs,[]=>by
  obtain⟨h1,h2⟩:=po hS xs []
  refine⟨by simpa[kx] using h1,fun j s v hs hv=> ?_⟩
  cases j with
  |zero=>simp[kx] at hs hv;subst hs hv;exact oU hS x
  |succ j=>exact h2 j s v (by simpa[kx] using hs) (by simpa using hv)
 |x::xs,t::ts=>by
  obtain⟨h1,h2⟩:=po hS xs ts
  refine⟨by simpa[kx] using h1,fun j s v hs hv=> ?_⟩
  cases j with
  |zero=>simp[kx] at hs hv;subst hs hv;exact F3 (oU hS x)
  |succ j=>exact h2 j s v (by simpa[kx] using hs) (by simpa using hv)
def Nx(Γ:Cx)(H:HM)(ρ:RM)(F:FM)(w:World)(n:Nat)(a:Act)(d:Option Tmp)(next:Act→World→Prop)(K:gI→Prop):Prop:=
 ∀E ρ' F' v w',K E→Ext ρ ρ'→(∀i,ρ' i≠ρ i→n≤i∧i<n+E.c)→Mem Γ (cY E.ws H) ρ' F' w'→(∀b,aL Γ F w b→aL Γ F' w' b)→(∀b,aL Γ F w b→w'.heap[b]? =w.heap[b]?)→aZ ρ' w' (aL Γ F' w') E.sv v→next (a.put d v) w'
theorem dn{o:Oper}{n:Nat}{next:Act→World→Prop}{Q:Exit→Act→World→Prop}{K:gI→Prop}{m:Sem Value}(he:execOp a.eval o=(do pure (Next.value (←m))))(h:rO Γ H ρ F w n K (m.run P w))(hn:Nx Γ H ρ F w n a o.dst next K):o.wp P a w next Q:=by
 obtain⟨E,ρ',F',v,w',hK,hr,h1,h2,h3,h4,h5,h6⟩:=h
 unfold Oper.wp
 rw[he]
 simp only[Sem.run_bind,hr,Result.andThen_ok,Sem.run_pure]
 exact hn _ _ _ _ _ hK h1 h2 h3 h4 h5 h6
theorem xy(hm:Mem Γ H ρ F w){n:Nat}{d:Option Tmp}{next:Act→World→Prop}{K:gI→Prop}(hn:Nx Γ H ρ F w n a d next K){sv:SV}{v:Value}(hK:K (.q sv))(hT:aZ ρ w (aL Γ F w) sv v):next (a.put d v) w:=
 hn (.q sv) ρ F v w hK (Ext.refl _) (fun _ hi=>absurd rfl hi) hm (fun _ h=>h) (fun _ _=>rfl) hT
theorem PH{ok:Nat→Prop}{s:SV}{v:Value}(h1:oq s=true)(hT:aZ ρ w ok s v):bG ρ w ok s v:=by
 cases hT with
 |any=>cases h1
 |tup _ _=>cases h1
 |v h=>cases h with
  |c h=>exact h
  |a _ _=>cases h1
  |m _ _=>cases h1
  |clo _ _=>cases h1
theorem PM{ok:Nat→Prop}{k:Nat}{cs:List SV}{v:Value}(hT:aZ ρ w ok (.clo k cs) v):∃vs:List Value,v= .func (.func k) #[] vs.toArray∧cs.length=vs.length∧∀(j:Nat) a v,cs[j]? =some a→vs[j]? =some v→bG ρ w ok a v:=by
 cases hT with
 |v hT=>cases hT with
  |c hT=>cases hT
  |clo hl h=>exact⟨_,rfl,hl,h⟩
theorem Cf(hS:St Γ nt T H ρ F a w)(ps:Array (Nat × Operand)):kP ρ w (aL Γ F w) (ps.toList.map fun p=>(p.1,ev T p.2)) (ps.map fun(i,x)=>(i,a.eval x)).toList:=by
 refine⟨by simp,fun j p v hp hv=> ?_⟩
 simp only[Array.toList_map,List.getElem?_map] at hp hv
 cases hc:ps.toList[j]? with
 |none=>simp[hc] at hp
 |some q=>
  simp[hc] at hp hv
  subst hp hv
  exact⟨rfl,oU hS _⟩
theorem um(da:dM P tbl)(hS:St Γ nt T H ρ F a w)(hle:l9 Hm H){d:Bool}{o:Oper}{n:Nat}{next:Act→World→Prop}{Q:Exit→Act→World→Prop}{K:gI→Prop}
 (h:yO d P tbl o.op o.type T Hm n K)(hfr:me ρ n K)(hfd:d=false→gy ρ n∧(∀i,i<n→ρ i≠none)∧Hm=H)(hn:Nx Γ H ρ F w n a o.dst next K):o.wp P a w next Q:=by
 have hm:=hS.mem
 have hB:=hm.hb hle
 obtain⟨dst,op,type,pos,after,guard⟩:=o
 simp only at h hn
 have E:=fun x=>oU hS x
 have quiet_ran:∀{r:Result Value},(∃sv v,K (.q sv)∧r= .ok v w∧aZ ρ w (aL Γ F w) sv v)→rO Γ H ρ F w n K r:=fun h=>rO.quiet hm h
 cases op<;>simp only[yO] at h<;>first|exact h.elim|skip
 case move x=>
  exact dn (m:=pure (a.eval x)) (by simp[execOp]) (by simpa using uV hm h hfr (E x)) hn
 case assign x=>
  exact dn (m:=pure (a.eval x)) (by simp[execOp]) (by simpa using uV hm h hfr (E x)) hn
 case pick c x y=>
  obtain⟨sv,v,hK,hr,hT⟩:=B9 (P:=P) h (E c) (E x) (E y)
  unfold Oper.wp
  simp only[execOp,hr]
  exact xy hm hn hK hT
 case alloc t=>exact dn rfl (Au da hm h hfr) hn
 case box t x=>exact dn rfl (FV hm h hfr (E x)) hn
 case build t ps=>exact dn rfl (Bd da hm h hfr (Cf hS ps)) hn
 case buildSlice t l ps=>exact dn rfl (sd da hm hle h hfr (Cf hS ps)) hn
 case load t x=>exact dn rfl (BN da hm hle h hfr (E x)) hn
 case store t x y=>
  obtain⟨Ef,F',w',hK,hr,hsv,h1,h2,h3⟩:=Bf da hm hle h (E x) (E y)
  unfold Oper.wp
  simp only[execOp,Sem.run_bind,hr,Result.andThen_ok,Sem.run_pure]
  exact hn Ef ρ F' _ w' hK (Ext.refl _) (fun i hi=>absurd rfl hi) h1 h2 h3 (by rw[hsv];exact .any)
 case nilCheck x=>
  obtain⟨sv,hK,hmm,hT⟩:=Et h (E x)
  have hr:(execOp a.eval {dst:=dst,op:= .nilCheck x,type:=type,pos:=pos,after:=after,guard:=guard}).run P w= .ok (.value (a.eval x)) w:=by
   simp only[execOp]
   split
   ·rename_i he;rw[he] at hmm;exact hmm.elim
   ·rename_i he;rw[he] at hmm;exact hmm.elim
   ·rename_i he;rw[he] at hmm;exact hmm.elim
   ·rename_i he;rw[he] at hmm;exact hmm.elim
   ·rfl
  unfold Oper.wp
  rw[hr]
  exact xy hm hn hK hT
 case binOp op t x y yt=>exact dn rfl (quiet_ran (D6 da h (E x) (E y))) hn
 case unOp op t x=>exact dn rfl (quiet_ran (HJ h (E x))) hn
 case convert s d x=>
  cases hb:(tbl.find s).any fun i=>i.ik.isSome with
  |false=>rw[hb] at h;exact dn rfl (quiet_ran (AU hB da h (E x))) hn
  |true=>rw[hb] at h;exact dn rfl (quiet_ran (CQ da hb h (E x))) hn
 case makeFunc fn first caps=>
  split at h
  ·rename_i k hfirst
   unfold Kc at h
   cases hb:(caps.toList.map (ev T)).all oq with
   |false=>rw[hb] at h;exact h.elim
   |true=>
    rw[hb] at h
    have hf:first= #[]:=by simpa using hfirst
    subst hf
    refine dn rfl (rO.quiet hm ⟨.clo k (caps.toList.map (ev T)),_,h,by simp[Instr.makeFunc];rfl, ?_⟩) hn
    have:aZ ρ w (aL Γ F w) (.clo k (caps.toList.map (ev T))) (.func (.func k) #[] (caps.toList.map a.eval).toArray):=by
     refine .v (.clo (by simp) fun j s v hs hv=> ?_)
     rw[List.getElem?_map] at hs hv
     cases hc:caps.toList[j]? with
     |none=>simp[hc] at hs
     |some x=>
      simp[hc] at hs hv
      subst hs hv
      have h1:oq (ev T x)=true:=List.all_eq_true.1 hb _ (List.mem_map.2 ⟨x,List.mem_of_getElem? hc,rfl⟩)
      exact PH h1 (E x)
    have e:(caps.toList.map a.eval).toArray=caps.map a.eval:=by apply Array.toList_inj.1;simp
    rw[e] at this
    exact this
  ·exact h.elim
 case makeSlice t l c=>exact dn rfl (tR da hm h hfr (E l) (E c)) hn
 case slice t x lo hi mx=>
  split at h
  ·have od:∀o:Option Operand,z5 ρ w (aL Γ F w) (o.map (ev T)) (o.map a.eval):=by
        intro o
        cases o with
        |none=>trivial
        |some x=>exact E x
   exact dn rfl (quiet_ran (Bm hB da h (E x) (od lo) (od hi))) hn
  ·exact h.elim
 case fieldAddr s x f=>exact dn rfl (quiet_ran (AK da h (E x))) hn
 case indexAddr t x i=>exact dn rfl (quiet_ran (rX hB da h (E x) (E i))) hn
 case index t x i=>
  split at h
  ·rename_i j hj
   cases hb:j.FL with
   |false=>rw[hb] at h;exact h.elim
   |true=>rw[hb] at h;exact dn rfl (quiet_ran (Ad ((da _ _ hj).FL hb) h (E x) (E i))) hn
  ·exact h.elim
 case extract x i=>exact dn rfl (quiet_ran (wx h (E x))) hn
 case makeMap t r=>
  split at h
  ·exact dn rfl (xC da hm h hfr) hn
  ·exact h.elim
 case lookup t x k ok=>exact dn rfl (quiet_ran (ym hB da h (E x) (E k))) hn
 case mapUpdate t x k v=>
  obtain⟨Ef,F',w',hK,hr,hsv,h1,h2,h3⟩:=uk da hm hle h (E x) (E k) (E v)
  unfold Oper.wp
  simp only[execOp,Sem.run_bind,hr,Result.andThen_ok,Sem.run_pure]
  exact hn Ef ρ F' _ w' hK (Ext.refl _) (fun i hi=>absurd rfl hi) h1 h2 h3 (by rw[hsv];exact .any)
 case call c=>
  obtain⟨callee,args,argTypes⟩:=c
  unfold G8 at h
  cases callee with
  |invoke r m=>exact h.elim
  |builtin b=>
   cases b<;>simp only at h<;>first|exact h.elim|skip
   case len=>
        split at h
        ·rename_i x t hx ht
         have hx':args= #[x]:=by cases args;simp_all
         have ht':argTypes= #[t]:=by cases argTypes;simp_all
         subst hx' ht'
         have fin:∀{sx:SV},ev T x=sx→(∃sv v,K (.q sv)∧(Builtin.len_ #[t] type #[a.eval x]).run P w= .ok v w∧aZ ρ w (aL Γ F w) sv v)→Oper.wp P {dst:=dst,op:= .call {callee:= .builtin .len,args:= #[x],argTypes:= #[t]},type:=type,pos:=pos,after:=after,guard:=guard} a w next Q:=by
           intro sx _ hq
           obtain⟨sv,v,hK,hr,hT⟩:=hq
           unfold Oper.wp
           simp only[execOp,resolve,invoke,builtin,Sem.run_bind,Sem.run_pure,Result.andThen_ok,List.map_toArray,List.map_cons,List.map_nil,hr]
           exact xy hm hn hK hT
         split at h
         ·rename_i s hs
          split at h
          ·rename_i i hi
           cases hb:i.FL with
           |false=>rw[hb] at h;exact h.elim
           |true=>
            rw[hb] at h
            simp only[cond] at h
            have hu:=(da _ _ hi).FL hb
            exact fin rfl (w1 hB da (x:= .c (.val (.string s))) (.inr hu) h (by rw[←hs];exact E x) ⟨fun _=>rfl,fun _=>hu⟩)
          ·exact h.elim
         ·rename_i hns
          split at h
          ·rename_i i hi
           cases hb:i.elem with
           |none=>rw[hb] at h;exact h.elim
           |some e=>
            rw[hb] at h
            obtain⟨e1,e2,e3⟩:=e
            have hu:=((da _ _ hi).elem _ _ _ hb).1
            have hno:(r7 (ev T x)).isSome=true→False:=by
             intro h0
             unfold r7 at h0
             split at h0
             ·rename_i s hs;exact hns s hs
             ·cases h0
            have hns':P.underlying t≠some .string:=by rw[hu];simp
            exact fin rfl (w1 hB da (.inl ⟨i,_,hi,hb⟩) h (E x) ⟨fun h0=>absurd h0 hns',fun h0=>(hno h0).elim⟩)
          ·exact h.elim
        ·exact h.elim
   case append=>
        split at h
        ·rename_i s x t t' hx ht
         have hx':args= #[s,x]:=by cases args;simp_all
         have ht':argTypes= #[t,t']:=by cases argTypes;simp_all
         subst hx' ht'
         cases hb:Nat.beq t t' with
         |false=>rw[hb] at h;exact h.elim
         |true=>
          rw[hb] at h
          have:=Nat.eq_of_beq_eq_true hb
          subst this
          obtain⟨Ef,ρ',F',v,w',hK,hr,h1,h2,h3,h4,h5,h6⟩:=yp (ty:=type) da hm hle h hfr (E s) (E x)
          unfold Oper.wp
          simp only[execOp,resolve,invoke,builtin,Sem.run_bind,Sem.run_pure,Result.andThen_ok,List.map_toArray,List.map_cons,List.map_nil,hr]
          exact hn _ _ _ _ _ hK h1 h2 h3 h4 h5 h6
        ·exact h.elim
  |value f=>
   simp only at h
   split at h
   ·rename_i k caps hf
    have hT:=E f
    rw[hf] at hT
    obtain⟨cvs,heq,hcl,hc⟩:=PM hT
    obtain⟨h1,h2⟩:=po (tbl:=tbl) hS args.toList argTypes.toList
    obtain⟨hfn,hcall⟩:=DW (vs:=args.toList.map a.eval++cvs) hm hle h hfr hfd (by simp only[List.length_append,h1,hcl]) fun j s v hs hv=>by
     by_cases hj:j<(kx tbl T args.toList argTypes.toList).length
     ·rw[List.getElem?_append_left hj] at hs
      rw[List.getElem?_append_left (by rw[←h1];exact hj)] at hv
      exact h2 j s v hs hv
     ·rw[List.getElem?_append_right (by omega)] at hs
      rw[List.getElem?_append_right (by rw[←h1];omega),←h1] at hv
      exact .v (.c (hc _ s v hs hv))
    obtain⟨fn,hfn1,hfn2,hfn3⟩:=hfn
    have hargs:args.map a.eval++cvs.toArray=(args.toList.map a.eval++cvs).toArray:=by
     apply Array.toList_inj.1;simp
    unfold Oper.wp
    simp only[execOp,resolve,heq,Deferred.ofValue,Sem.run_bind,Sem.run_pure,Result.andThen_ok,invoke,callFunc,run_program,hfn1,hfn2,hfn3,Bool.false_eq_true,if_false,Oper.upon_enter]
    simp only[Array.empty_append]
    rw[hargs]
    refine hcall.mono ?_
    rintro e w' ⟨Ef,ρ',F',v,rfl,hK,g1,g2,g3,g4,g5,g6⟩
    exact hn _ _ _ _ _ hK g1 g2 g3 g4 g5 g6
   ·exact h.elim
end
def Ao(m i:Nat):Bool:=Nat.beq (Nat.land (Nat.shiftRight m i) 1) 1
def OV(np:Nat)(p:Nat × Nat)(H:HM):Bool:= !Ao np p.1&&(!Ao np p.2&&(!Nat.beq p.1 p.2&&match H p.2 with| .dead=>true|_=>false))
def qA(np:Nat):List (Nat × Nat)→TM→HM→(TM→HM→Prop)→Prop
 |[],T,H,K=>K T H
 |p::r,T,H,K=>cond (OV np p H) (qA np r (AH (Ci p.1 p.2) T) (I0 p.1 p.2 H) K) False
def qN(Γ:Cx)(np:Nat):Prop:=∀i v,Γ.pv i=some v→Ao np i=true
theorem kr{Γ:Cx}{nt np:Nat}(hnp:qN Γ np){n:Nat}:∀{rn:List (Nat × Nat)} {T:TM} {H:HM} {ρ:RM} {F:FM} {a:Act} {w:World} {K:TM→HM→Prop},qA np rn T H K→St Γ nt T H ρ F a w→gy ρ n→(∀p∈rn,p.2<n)→
 ∃T' H' ρ' F',K T' H'∧St Γ nt T' H' ρ' F' a w∧gy ρ' n
 |[],T,H,ρ,F,a,w,K,h,hS,hf,_=>⟨T,H,ρ,F,h,hS,hf⟩
 |p::r,T,H,ρ,F,a,w,K,h,hS,hf,hlt=>by
  simp only[qA] at h
  obtain⟨hb,h⟩:=fY h
  simp only[OV,Bool.and_eq_true,Bool.not_eq_true'] at hb
  obtain⟨b1,b2,b3,b4⟩:=hb
  have hne:=yx b3
  have hd:H p.2= .dead:=by
   split at b4
   ·assumption
   ·cases b4
  have hp:∀i,Ao np i=false→Γ.pv i=none:=fun i hi=>by
   cases hv:Γ.pv i with
   |none=>rfl
   |some v=>have:=hnp i v hv;rw[hi] at this;cases this
  have hS':=hS.I7 hne hd (hp _ b1) (hp _ b2)
  refine kr hnp h hS' (fun i hi=> ?_) fun q hq=>hlt q (by simp[hq])
  have h2:=hlt p (by simp)
  unfold oG
  rw[if_neg (by omega)]
  split
  ·rfl
  ·exact hf i hi
def j7(ops:List Oper)(j:Nat):Bool:=ops.any fun o=>match o.guard with|some (g,_)=>Nat.beq g j|none=>false
def uZ(nt:Nat):Option Nat→Bool
 |some d=>Nat.blt d nt
 |none=>true
def same(a b:Bool):Bool:=match a,b with|true,true=>true|false,false=>true|_,_=>false
theorem vN{a b:Bool}:same a b=true↔a=b:=by cases a<;>cases b<;>simp[same]
def I2(n:Nat)(rn:List (Nat × Nat)):Bool:=rn.all fun p=>Nat.blt p.2 n
def lit(n:Nat)(K:Nat→Prop):Prop:=match n with|0=>K 0|k+1=>K (k+1)
theorem Fh{n:Nat}{K:Nat→Prop}:lit n K=K n:=by cases n<;>rfl
def QD(x:CV)(K:CV→Prop):Prop:=
 match x with
 | .any=>K .any
 | .val v=>K (.val v)
 | .cb b=>K (.cb b)
 | .ro s r=>K (.ro s r)
 | .rp s c=>K (.rp s c)
 | .own t s r=>K (.own t s r)
 | .eW v t s r=>K (.eW v t s r)
 | .ows t s r=>K (.ows t s r)
 | .op c=>K (.op c)
 | .iu t e s=>K (.iu t e s)
def Qc(s:SV)(K:SV→Prop):Prop:=
 match s with
 | .any=>K .any
 | .c x=>QD x fun y=>K (.c y)
 | .a n cs=>K (.a n cs)
 | .lp i o=>K (.lp i o)
 | .le i s x o=>K (.le i s x o)
 | .lw i=>K (.lw i)
 | .ls i s o l=>K (.ls i s o l)
 | .mp i=>K (.mp i)
 | .m cs=>K (.m cs)
 | .tup vs=>K (.tup vs)
 | .clo k c=>K (.clo k c)
def Qp(l:List (Nat × dE))(K:List (Nat × dE)→Prop):Prop:=
 match l with
 |[]=>K []
 |x::xs=>K (x::xs)
theorem OS{x:CV}{K:CV→Prop}:QD x K=K x:=by cases x<;>rfl
theorem JG{s:SV}{K:SV→Prop}:Qc s K=K s:=by
 cases s<;>first|rfl|exact OS (K:=fun y=>K (.c y))
theorem Lj{l:List (Nat × dE)}{K:List (Nat × dE)→Prop}:Qp l K=K l:=by cases l<;>rfl
def Gr(np n:Nat)(E:gI)(T:TM)(d:Option Nat)(H:HM)(K:TM→HM→Nat→Prop):Prop:=
 match E with
 |⟨sv,ws,c,rn⟩=>lit (n+c) fun m=>Qc sv fun v=>Qp ws fun w=>cond (I2 m rn) (qA np rn (ez T d v) (cY w H) fun T H=>K T H m) False
theorem J8{np n:Nat}{E:gI}{T:TM}{d:Option Nat}{H:HM}{K:TM→HM→Nat→Prop}:Gr np n E T d H K=cond (I2 (n+E.c) E.rn) (qA np E.rn (ez T d E.sv) (cY E.ws H) fun T H=>K T H (n+E.c)) False:=by
 cases E
 unfold Gr
 simp only[Fh,JG,Lj]
def jx(P:Program)(tbl:TT)(nt np:Nat)(all:List Oper):List Oper→Nat→TM→HM→Nat→(TM→HM→Nat→Prop)→Prop
 |[],_,T,H,n,K=>K T H n
 |o::rest,i,T,H,n,K=>
  cond (uZ nt o.dst)
   (match o.guard with
   |none=>yO false P tbl o.op o.type T H n fun E=>
    match j7 all i with
    |true=>match E.sv with
     | .c (.val (.bool b))=>bd b (jx P tbl nt np all rest (i+1) (ez T o.dst (.c (.cb true))) (cY E.ws H) (n+E.c) K) (jx P tbl nt np all rest (i+1) (ez T o.dst (.c (.cb false))) (cY E.ws H) (n+E.c) K)
     |_=>Gr np n E T o.dst H (jx P tbl nt np all rest (i+1) · · · K)
    |false=>Gr np n E T o.dst H (jx P tbl nt np all rest (i+1) · · · K)
   |some (j,want)=>
    match(all[j]?).bind (·.dst) with
    |some t=>match T t with
     | .c (.cb b)=>
       match same b want with
       |true=>yO false P tbl o.op o.type T H n fun E=>
        match j7 all i with
        |true=>match E.sv with
         | .c (.val (.bool b))=>bd b (jx P tbl nt np all rest (i+1) (ez T o.dst (.c (.cb true))) (cY E.ws H) (n+E.c) K) (jx P tbl nt np all rest (i+1) (ez T o.dst (.c (.cb false))) (cY E.ws H) (n+E.c) K)
         |_=>Gr np n E T o.dst H (jx P tbl nt np all rest (i+1) · · · K)
        |false=>Gr np n E T o.dst H (jx P tbl nt np all rest (i+1) · · · K)
       |false=>jx P tbl nt np all rest (i+1) (ez T o.dst (.tup [])) H n K
     | .tup []=>jx P tbl nt np all rest (i+1) (ez T o.dst (.tup [])) H n K
     |_=>False
    |none=>False) False
def NH(P:Program)(tbl:TT)(nt np:Nat)(all:List Oper)(o:Oper)(ih:Nat→TM→HM→Nat→(TM→HM→Nat→Prop)→Prop)(i:Nat)(T:TM)(H:HM)(n:Nat)(K:TM→HM→Nat→Prop):Prop:=
    cond (uZ nt o.dst)
     (match o.guard with
     |none=>yO false P tbl o.op o.type T H n fun E=>
      match j7 all i with
      |true=>match E.sv with
       | .c (.val (.bool b))=>bd b (ih (i+1) (ez T o.dst (.c (.cb true))) (cY E.ws H) (n+E.c) K) (ih (i+1) (ez T o.dst (.c (.cb false))) (cY E.ws H) (n+E.c) K)
       |_=>Gr np n E T o.dst H (ih (i+1) · · · K)
      |false=>Gr np n E T o.dst H (ih (i+1) · · · K)
     |some (j,want)=>
      match(all[j]?).bind (·.dst) with
      |some t=>match T t with
       | .c (.cb b)=>
         match same b want with
         |true=>yO false P tbl o.op o.type T H n fun E=>
          match j7 all i with
          |true=>match E.sv with
           | .c (.val (.bool b))=>bd b (ih (i+1) (ez T o.dst (.c (.cb true))) (cY E.ws H) (n+E.c) K) (ih (i+1) (ez T o.dst (.c (.cb false))) (cY E.ws H) (n+E.c) K)
           |_=>Gr np n E T o.dst H (ih (i+1) · · · K)
          |false=>Gr np n E T o.dst H (ih (i+1) · · · K)
         |false=>ih (i+1) (ez T o.dst (.tup [])) H n K
       | .tup []=>ih (i+1) (ez T o.dst (.tup [])) H n K
       |_=>False
      |none=>False) False
def uf(P:Program)(tbl:TT)(nt np:Nat)(all l:List Oper):Nat→TM→HM→Nat→(TM→HM→Nat→Prop)→Prop:=
 List.rec (fun _ T H n K=>K T H n) (fun o _ ih=>NH P tbl nt np all o ih) l
theorem tr{P:Program}{tbl:TT}{nt np:Nat}{all:List Oper}:∀l,uf P tbl nt np all l=fun i T H n K=>jx P tbl nt np all l i T H n K
 |[]=>rfl
 |o::rest=>by
  show NH P tbl nt np all o (uf P tbl nt np all rest)=_
  rw[tr rest]
  rfl
section
variable{P:Program}{tbl:TT}{Γ:Cx}{nt np:Nat}{T:TM}{H:HM}{ρ:RM}{F:FM}{a:Act}{w:World}
theorem St.put(hS:St Γ nt T H ρ F a w){d:Option Nat}{sv:SV}{v:Value}(hd:uZ nt d=true)(hT:aZ ρ w (aL Γ F w) sv v):St Γ nt (ez T d sv) H ρ F (a.put d v) w:=by
 cases d with
 |none=>exact hS
 |some d=>
  have hlt:d<nt:=by simpa[uZ,Nat.blt_eq] using hd
  refine⟨hS.mem,hS.defers,by simpa[Act.put] using hS.nt,fun i=> ?_⟩
  simp only[ez,Ac,Act.put]
  cases hb:Nat.beq i d with
  |true=>
   have:=Nat.eq_of_beq_eq_true hb
   subst this
   have:(a.tmps.setIfInBounds i v).getD i undef=v:=by
        simp[Array.getD,hS.nt,hlt]
   simp only[cond]
   rw[this]
   exact hT
  |false=>
   have hne:=yx hb
   have:(a.tmps.setIfInBounds d v).getD i undef=a.tmps.getD i undef:=by
        rw[Array.getD_eq_getD_getElem?,Array.getD_eq_getD_getElem?,Array.getElem?_setIfInBounds_ne (by omega)]
   simp only[cond]
   rw[this]
   exact hS.tmps i
theorem CJ(hS:St Γ nt T H ρ F a w){t:Nat}{b:Bool}(h:T t= .c (.cb b)):a.tmps[t]? =some (.bool b):=by
 have:=hS.tmps t
 rw[h] at this
 have hv:=n8 (bG.iJ this)
 rw[Array.getD_eq_getD_getElem?] at hv
 cases hc:a.tmps[t]? with
 |none=>rw[hc] at hv;simp[undef] at hv
 |some v=>rw[hc] at hv;simp at hv;rw[hv]
theorem BG(hS:St Γ nt T H ρ F a w){t:Nat}(h:T t= .tup []):(match(some t).bind (a.tmps[·]?) with|some (.bool b)=>some b|_=>none)=none:=by
 have h1:=hS.tmps t
 rw[h] at h1
 have hv:a.tmps.getD t undef= .tuple #[]:=by
  generalize a.tmps.getD t undef=u at h1
  cases h1 with
  | @tup _ vs hl _=>
    cases vs with
    |nil=>rfl
    |cons _ _=>simp at hl
  |v h=>cases h with|c h=>cases h
 rw[Array.getD_eq_getD_getElem?] at hv
 simp only[Option.bind_some]
 cases hc:a.tmps[t]? with
 |none=>rfl
 |some v=>rw[hc] at hv;simp at hv;rw[hv]
theorem St.move(hS:St Γ nt T H ρ F a w){H':HM}{ρ':RM}{F':FM}{w':World}(h1:Mem Γ H' ρ' F' w')(h2:Ext ρ ρ')(h3:∀b,aL Γ F w b→aL Γ F' w' b)(h4:∀b,aL Γ F w b→w'.heap[b]? =w.heap[b]?):St Γ nt T H' ρ' F' a w':=
 ⟨h1,hS.defers,hS.nt,fun i=>(hS.tmps i).mono h4 h3 h2⟩
theorem wX{ρ ρ':RM}{n c:Nat}(hf:gy ρ n)(h:∀i,ρ' i≠ρ i→n≤i∧i<n+c):gy ρ' (n+c):=by
 intro i hi
 by_cases e:ρ' i=ρ i
 ·rw[e];exact hf i (by omega)
 ·have:=h i e;omega
def xb(ρ:RM)(n:Nat):RM:=fun i=>match ρ i with|some v=>some v|none=>if i<n then some undef else none
theorem sK(ρ:RM)(n:Nat):Ext ρ (xb ρ n):=fun i v h=>by
 unfold xb
 rw[h]
theorem yD{ρ:RM}{n:Nat}(h:gy ρ n):gy (xb ρ n) n:=fun i hi=>by
 unfold xb
 rw[h i hi]
 exact if_neg (by omega)
theorem zX{ρ:RM}{n i:Nat}(h:i<n):xb ρ n i≠none:=by
 unfold xb
 split
 ·simp
 ·rw[if_pos h];simp
theorem Hi{Γ:Cx}{nt:Nat}{T:TM}{H:HM}{ρ:RM}{F:FM}{a:Act}{w:World}(hS:St Γ nt T H ρ F a w)(n:Nat):St Γ nt T H (xb ρ n) F a w:=by
 obtain⟨m,h1,h2,h3⟩:=hS
 refine⟨⟨fun i=> ?_,m.jz,m.nodup,m.lt,m.src,m.mU,m.frame,m.size,m.os,m.tape,m.output,fun i v h=>sK ρ n i v (m.yG i v h)⟩,h1,h2,fun i=>(h3 i).mono (fun _ _=>rfl) (fun _ h=>h) (sK ρ n)⟩
 have h:=m.blocks i
 cases hv:ρ i with
 |some v=>
  rw[sK ρ n i v hv]
  rw[hv] at h
  exact h.mono (fun _ _=>rfl) (fun _ h=>h) (fun _ _=>rfl) (sK ρ n)
 |none=>
  rw[hv] at h
  generalize H i=B at h
  generalize F i=f at h
  cases h
  exact .dead
theorem fR(da:dM P tbl)(hnp:qN Γ np){ops:Array Oper}{Q:Exit→Act→World→Prop}{l2:List Oper}{K:TM→HM→Nat→Prop}(hK:∀T H n ρ F a w,K T H n→St Γ nt T H ρ F a w→gy ρ n→wpList P ops Q l2 a w):
 ∀(rest:List Oper) (i:Nat) {T:TM} {H:HM} {n:Nat} {ρ:RM} {F:FM} {a:Act} {w:World},jx P tbl nt np ops.toList rest i T H n K→St Γ nt T H ρ F a w→gy ρ n→wpList P ops Q (rest++l2) a w
 |[],i,T,H,n,ρ,F,a,w,h,hS,hf=>hK _ _ _ _ _ _ _ h hS hf
 |o::rest,i,T,H,n,ρ,F,a,w,h,hS,hf=>by
  simp only[jx] at h
  obtain⟨hd,h⟩:=fY h
  have after:∀{T:TM} {H:HM} {n:Nat} {ρ:RM} {F:FM} {a:Act} {w:World} {E:gI} {d:Option Nat},Gr np n E T d H (jx P tbl nt np ops.toList rest (i+1) · · · K)→St Γ nt (ez T d E.sv) (cY E.ws H) ρ F a w→gy ρ (n+E.c)→wpList P ops Q (rest++l2) a w:=by
   intro T H n ρ F a w E d h hS hf
   rw[J8] at h
   obtain⟨hb,h⟩:=fY h
   obtain⟨T',H',ρ',F',h1,h2,h3⟩:=kr hnp h hS hf fun p hp=>by
        have:=List.all_eq_true.1 hb p hp
        rwa[Nat.blt_eq] at this
   exact fR da hnp hK rest (i+1) h1 h2 h3
  have exec:∀{T:TM} {H:HM} {n:Nat} {ρ:RM} {F:FM} {a:Act} {w:World},St Γ nt T H ρ F a w→gy ρ n→(yO false P tbl o.op o.type T H n fun E=>
        match j7 ops.toList i with
        |true=>match E.sv with
         | .c (.val (.bool b))=>bd b (jx P tbl nt np ops.toList rest (i+1) (ez T o.dst (.c (.cb true))) (cY E.ws H) (n+E.c) K) (jx P tbl nt np ops.toList rest (i+1) (ez T o.dst (.c (.cb false))) (cY E.ws H) (n+E.c) K)
         |_=>Gr np n E T o.dst H (jx P tbl nt np ops.toList rest (i+1) · · · K)
        |false=>Gr np n E T o.dst H (jx P tbl nt np ops.toList rest (i+1) · · · K))→o.wp P a w (wpList P ops Q (rest++l2)) Q:=by
   intro T H n ρ F a w hS hf h
   have hS:=Hi hS n
   have hf:=yD hf
   refine um da hS (l9.refl H) h (fun E _ i h1 _=>hf i h1) (fun _=>⟨hf,fun i hi=>zX hi,rfl⟩) ?_
   intro E ρ' F' v w' hk g1 g2 g3 g4 g5 g6
   have hS':=hS.move g3 g1 g4 g5
   have hf':=wX hf g2
   split at hk
   ·split at hk
    ·rename_i b hsv
     rw[hsv] at g6
     have hv:=eE (bG.iJ g6)
     subst hv
     cases b with
     |true=>exact fR da hnp hK rest (i+1) (hk.t rfl) (hS'.put hd (dU (.cb .nil))) hf'
     |false=>exact fR da hnp hK rest (i+1) (hk.f rfl) (hS'.put hd (dU (.cb .nil))) hf'
    ·exact after hk (hS'.put hd g6) hf'
   ·exact after hk (hS'.put hd g6) hf'
  rw[List.cons_append]
  unfold wpList
  split at h
  ·rename_i hg
   rw[if_pos (by simp[Region.wanted,hg])]
   exact .inl (exec hS hf h)
  ·rename_i j want hg
   split at h
   ·rename_i t ht
    split at h
    ·rename_i b hb
     have hy:yielded ops a.tmps j=some b:=by
      unfold yielded
      have:(ops[j]?).bind (·.dst)=some t:=by simpa using ht
      rw[this]
      simp[CJ hS hb]
     split at h
     ·rename_i hs
      have:=vN.1 hs
      subst this
      rw[if_pos (by simp[Region.wanted,hg,hy])]
      exact .inl (exec hS hf h)
     ·rename_i hs
      have hne:b≠want:=by intro e;rw[vN.2 e] at hs;cases hs
      rw[if_neg (by simp[Region.wanted,hg,hy,hne])]
      exact fR da hnp hK rest (i+1) h (hS.put hd (.tup (vs:=[]) rfl (by simp))) hf
    ·rename_i hb
     have hy:yielded ops a.tmps j=none:=by
      unfold yielded
      have h0:(ops[j]?).bind (·.dst)=some t:=by simpa using ht
      rw[h0]
      exact BG hS hb
     rw[if_neg (by simp[Region.wanted,hg,hy])]
     exact fR da hnp hK rest (i+1) h (hS.put hd (.tup (vs:=[]) rfl (by simp))) hf
    ·exact h.elim
   ·exact h.elim
end
end Go.KA
