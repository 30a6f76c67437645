/- Part of a proof engine for functions of the given program: what an operation, a loop and a call compute, symbolically. No conditions. -/
import Derived.Test.YtgbggaddpbghfaaGreatEngC
import Derived.Maps.AppendAt
namespace Go.KA
open Go Go.RowKit
theorem Nt{Γ:Cx}{F:FM}{w w':World}(hs:w.heap.size≤w'.heap.size){b:Nat}(h:bg Γ F w b):bg Γ F w' b:=
 ⟨Nat.lt_of_lt_of_le h.1 hs,h.2⟩
def xi(ρ:RM)(n:Nat)(v:Value):RM:=fun i=>if i=n then some v else ρ i
def gR(F:FM)(n:Nat)(f:List Nat):FM:=fun i=>if i=n then f else F i
theorem gP{ρ:RM}{n:Nat}{v:Value}:xi ρ n v n=some v:=by simp[xi]
theorem ox{ρ:RM}{n i:Nat}{v:Value}(h:i≠n):xi ρ n v i=ρ i:=by simp[xi,h]
theorem bO{F:FM}{n:Nat}{f:List Nat}:gR F n f n=f:=by simp[gR]
theorem cJ{F:FM}{n i:Nat}{f:List Nat}(h:i≠n):gR F n f i=F i:=by simp[gR,h]
theorem eF{H:HM}{n:Nat}{k:dW}:dY H n k n=k:=by simp[dY]
theorem fP{H:HM}{n i:Nat}{k:dW}(h:i≠n):dY H n k i=H i:=by
 simp only[dY];cases hb:Nat.beq i n with
 |true=>exact absurd (ae hb) h
 |false=>rfl
theorem ot:∀(a b:List (Nat × dW)) (H:HM),du (a++b) H=du b (du a H)
 |[],_,_=>rfl
 |(_,_)::a,b,H=>by simp only[List.cons_append,du];exact ot a b _
theorem gQ{ρ:RM}{n:Nat}(h:ρ n=none)(v:Value):Ext ρ (xi ρ n v):=by
 intro i u hu;have:i≠n:=by rintro rfl;rw[h]at hu;cases hu
 rw[ox this];exact hu
theorem Bl{i k:Nat}(h:Nat.beq i k=false):i≠k:=by
 intro e;subst e;simp at h
def n9(Hm H:HM):Prop:=∀i,Hm i= .dead\/Hm i=H i
theorem n9.refl(H:HM):n9 H H:=fun _=> .inr rfl
section
variable{Γ:Cx}{H Hm:HM}{ρ:RM}{F:FM}{w:World}
theorem Mem.hb(h:Mem Γ H ρ F w)(hl:n9 Hm H):∀i,Hm i= .dead\/dH ρ w (bg Γ F w) (Hm i) (ρ i) (F i):=by
 intro i;rcases hl i with e|e
 ·exact .inl e
 ·right;rw[e];exact h.blocks i
theorem rZ{F':FM}{w':World}{I:List Nat}(eZ:w.heap.size≤w'.heap.size)(hF:∀i,i∉I->F' i=F i)
 (jn:∀i∈I,∀b∈F' i,(∃j∈I,b∈F j)\/(w.heap.size≤b/\b<w'.heap.size)):∀b,bg Γ F w b->bg Γ F' w' b:=by
 intro b hb;refine⟨Nat.lt_of_lt_of_le hb.1 eZ,hb.2.1,?_⟩;rintro⟨i,hi⟩;by_cases hI:i∈I
 ·rcases jn i hI b hi with⟨j,_,hj⟩|h1
  ·exact hb.2.2 ⟨j,hj⟩
  ·have:=hb.1;omega
 ·rw[hF i hI]at hi;exact hb.2.2 ⟨i,hi⟩
theorem ql{w':World}{I:List Nat}(ko:∀b,b<w.heap.size->(∀i∈I,b∉F i)->w'.heap[b]? =w.heap[b]?):∀b,bg Γ F w b->w'.heap[b]? =w.heap[b]? :=
 fun b hb=>ko b hb.1 fun i _ hi=>hb.2.2 ⟨i,hi⟩
theorem Mem.write(h:Mem Γ H ρ F w){H':HM}{ρ':RM}{F':FM}{w':World}(I:List Nat)(WV:w'.os=w.os)(zb:w'.tape=w.tape)(DE:w'.output=w.output)(eZ:w.heap.size≤w'.heap.size)
 (hρ:Ext ρ ρ')(hH:∀i,i∉I->H' i=H i/\F' i=F i/\ρ' i=ρ i)
 (ko:∀b,b<w.heap.size->(∀i∈I,b∉F i)->w'.heap[b]? =w.heap[b]?)
 (jn:∀i∈I,∀b∈F' i,(∃j∈I,b∈F j)\/(w.heap.size≤b/\b<w'.heap.size))
 (gB:∀i∈I,(F' i).Nodup)(hdj:∀i∈I,∀j∈I,∀b,b∈F' i->b∈F' j->i=j)
 (hB:∀i∈I,dH ρ' w' (bg Γ F' w') (H' i) (ρ' i) (F' i)):Mem Γ H' ρ' F' w':=by
 have cH:=rZ (Γ:=Γ) eZ (fun i hi=>(hH i hi).2.1) jn;have hso:=ql (Γ:=Γ) ko;have eu:∀i,∀b∈F' i,b<w'.heap.size:=by
  intro i b hb;by_cases hI:i∈I
  ·rcases jn i hI b hb with⟨j,_,hj⟩|h1
   ·exact Nat.lt_of_lt_of_le (h.lt j b hj) eZ
   ·exact h1.2
  ·rw[(hH i hI).2.1]at hb;exact Nat.lt_of_lt_of_le (h.lt i b hb) eZ
 refine⟨fun i=>?_,fun i j b hi hj=>?_,fun i=>?_,eu,fun i b hb=>?_,h.oN,fun b hb hf=>?_,Nat.le_trans h.size eZ,WV.trans h.os,zb.trans h.tape,DE.trans h.output,fun i v hv=>hρ i v (h.CR i v hv)⟩
 ·by_cases hI:i∈I
  ·exact hB i hI
  ·obtain⟨e1,e2,e3⟩:=hH i hI;rw[e1,e2,e3];refine(h.blocks i).mono hso cH (fun b hb=>ko b (h.lt i b hb) fun j hj E8=>?_) hρ;exact hI (h.kO i j b hb E8▸hj)
 ·by_cases hI:i∈I<;>by_cases hJ:j∈I
  ·exact hdj i hI j hJ b hi hj
  ·rw[(hH j hJ).2.1]at hj;rcases jn i hI b hi with⟨k,hk,T1⟩|h1
   ·exact absurd (h.kO j k b hj T1▸hk) hJ
   ·have:=h.lt j b hj;omega
  ·rw[(hH i hI).2.1]at hi;rcases jn j hJ b hj with⟨k,hk,T1⟩|h1
   ·exact absurd (h.kO i k b hi T1▸hk) hI
   ·have:=h.lt i b hi;omega
  ·rw[(hH i hI).2.1]at hi;rw[(hH j hJ).2.1]at hj;exact h.kO i j b hi hj
 ·by_cases hI:i∈I
  ·exact gB i hI
  ·rw[(hH i hI).2.1];exact h.nodup i
 ·by_cases hI:i∈I
  ·rcases jn i hI b hb with⟨j,_,hj⟩|h1
   ·exact h.src j b hj
   ·exact .inr (Nat.le_trans h.size h1.1)
  ·rw[(hH i hI).2.1]at hb;exact h.src i b hb
 ·have abc:∀i∈I,b∉F i:=fun i _ Rb=>by
   rcases h.src i b Rb with h1|h1
   ·exact hf h1
   ·omega
  rw[ko b (Nat.lt_of_lt_of_le hb h.size) abc];exact h.frame b hb hf
theorem Mem.grow(h:Mem Γ H ρ F w){w':World}(hb:Below w.heap.size w w'):Mem Γ H ρ F w':=
 h.write (ρ':=ρ) (F':=F) [] hb.os hb.tape hb.output hb.size (Ext.refl _) (fun _ _=>⟨rfl,rfl,rfl⟩) (fun b fX _=>hb.block b fX) (by simp) (by simp) (by simp) (by simp)
theorem Mem.fill(h:Mem Γ H ρ F w){n:Nat}(hn:ρ n=none){w':World}(hb:Below w.heap.size w w'){k:dW}{v:Value}{f:List Nat}(hf:∀b∈f,w.heap.size≤b/\b<w'.heap.size)(gB:f.Nodup)
 (hk:dH (xi ρ n v) w' (bg Γ F w) k (some v) f):Mem Γ (dY H n k) (xi ρ n v) (gR F n f) w'/\ ∀b,bg Γ F w b->bg Γ (gR F n f) w' b:=by
 have hF:∀i,i∉[n]->gR F n f i=F i:=fun i hi=>cJ (by simpa using hi)
 have jn:∀i∈[n],∀b∈gR F n f i,(∃j∈[n],b∈F j)\/(w.heap.size≤b/\b<w'.heap.size):=by
  intro i hi b fX;simp at hi;subst hi;rw[bO]at fX;exact .inr (hf b fX)
 have cH:=rZ (Γ:=Γ) hb.size hF jn;refine⟨h.write [n] hb.os hb.tape hb.output hb.size (gQ hn v) (fun i hi=>?_) (fun b fX _=>hb.block b fX) jn ?_ ?_ ?_,cH⟩
 ·have:i≠n:=by simpa using hi
  exact⟨fP this,cJ this,ox this⟩
 ·intro i hi;simp at hi;subst hi;rw[bO];exact gB
 ·intro i hi j hj b _ _;simp at hi hj;omega
 ·intro i hi;simp at hi;subst hi;rw[eF,gP,bO];exact hk.mono (fun _ _=>rfl) cH (fun _ _=>rfl) (Ext.refl _)
theorem Mem.set(h:Mem Γ H ρ F w){j:Nat}{w':World}(WV:w'.os=w.os)(zb:w'.tape=w.tape)(DE:w'.output=w.output)(eZ:w.heap.size≤w'.heap.size)
 (ko:∀b,b<w.heap.size->b∉F j->w'.heap[b]? =w.heap[b]?){k:dW}{f:List Nat}(hf:∀b∈f,b∈F j\/(w.heap.size≤b/\b<w'.heap.size))(gB:f.Nodup)
 (hk:dH ρ w' (bg Γ F w) k (ρ j) f):Mem Γ (dY H j k) ρ (gR F j f) w'/\(∀b,bg Γ F w b->bg Γ (gR F j f) w' b)/\ ∀b,bg Γ F w b->w'.heap[b]? =w.heap[b]? :=by
 have hF:∀i,i∉[j]->gR F j f i=F i:=fun i hi=>cJ (by simpa using hi)
 have jn:∀i∈[j],∀b∈gR F j f i,(∃j'∈[j],b∈F j')\/(w.heap.size≤b/\b<w'.heap.size):=by
  intro i hi b fX;simp at hi;subst hi;rw[bO]at fX;rcases hf b fX with h1|h1
  ·exact .inl ⟨i,by simp,h1⟩
  ·exact .inr h1
 have cH:=rZ (Γ:=Γ) eZ hF jn;have hs:∀b,b<w.heap.size->(∀i∈[j],b∉F i)->w'.heap[b]? =w.heap[b]? :=fun b fX hn=>ko b fX (hn j (by simp))
 refine⟨h.write [j] WV zb DE eZ (Ext.refl _) (fun i hi=>?_) hs jn ?_ ?_ ?_,cH,ql hs⟩
 ·have:i≠j:=by simpa using hi
  exact⟨fP this,cJ this,rfl⟩
 ·intro i hi;simp at hi;subst hi;rw[bO];exact gB
 ·intro i hi j hj b _ _;simp at hi hj;omega
 ·intro i hi;simp at hi;subst hi;rw[eF,bO];exact hk.mono (fun _ _=>rfl) cH (fun _ _=>rfl) (Ext.refl _)
theorem St.grow{nt:Nat}{T:TM}{a:Act}(hS:St Γ nt T H ρ F a w){w':World}(hb:Below w.heap.size w w'):St Γ nt T H ρ F a w':=
 ⟨hS.mem.grow hb,hS.defers,hS.nt,fun i=>(hS.tmps i).mono (fun b fX=>hb.block b fX.1) (fun _ h=>Nt hb.size h) (Ext.refl _)⟩
end
theorem yX{g:SV->SV}{cs:List SV}{j:Nat}{a:SV}(h:(cs.map g)[j]? =some a):∃a0,cs[j]? =some a0/\a=g a0:=by
 rw[List.getElem?_map]at h;cases hc:cs[j]? with
 |none=>simp[hc]at h
 |some a0=>simp[hc]at h;exact⟨a0,rfl,h.symm⟩
section
variable{ρ ρ':RM}{w:World}{ok ok':Nat->Prop}{g:SV->SV}(hg:∀a v,b9 ρ w ok a v->b9 ρ' w ok' (g a) v)(cH:∀b,ok b->ok' b)
include hg cH
theorem UP{a:SV}{v:Value}(h:eK ρ w ok a v):eK ρ' w ok' (UQ g a) v:=by
 cases h with
 |a hl h=>exact .a hl (h.mono (fun _ _=>rfl) cH (by simp))
 |m hl h=>exact .m (by simp[hl]) fun j a v ha hv=>by obtain⟨a0,h0,rfl⟩:=yX ha;exact hg _ _ (h j a0 v h0 hv)
 |clo hl h=>exact .clo (by simp[hl]) fun j a v ha hv=>by obtain⟨a0,h0,rfl⟩:=yX ha;exact hg _ _ (h j a0 v h0 hv)
 |c h=>
  have:=hg _ _ h;cases h<;>exact .c this
theorem PK{a:SV}{v:Value}(h:bJ ρ w ok a v):bJ ρ' w ok' (XY g a) v:=by
 cases h with
 |any=>exact .any
 |v h=>
  have:=UP hg cH h;cases h<;>first|exact .v this|skip
  rename_i h;cases h<;>exact .v this
 |tup hl h=>exact .tup (by simp[hl]) fun j a v ha hv=>by obtain⟨a0,h0,rfl⟩:=yX ha;exact UP hg cH (h j a0 v h0 hv)
theorem K4{k:dW}{v:Option Value}{f:List Nat}(h:dH ρ w ok k v f):dH ρ' w ok' (P9 g k) v f:=by
 cases h with
 |dead=>exact .dead
 |cc hb hl h=>exact .cc hb hl (h.mono (fun _ _=>rfl) cH (by simp))
 |cells hb hl h=>exact .cells hb (by simp[hl]) fun j a v ha hv=>by obtain⟨a0,h0,rfl⟩:=yX ha;exact hg _ _ (h j a0 v h0 hv)
 |row ho hr bw hv=>exact .row ho hr (bw.mono (fun _ _=>rfl) cH (by simp)) hv
 |aU ho hr bw hv=>exact .aU ho hr (bw.mono (fun _ _=>rfl) cH fun _ _=>rfl) hv
 |pD hb hk hn hl h=>exact .pD hb hk hn hl fun j p e hp he=>⟨(h j p e hp he).1,fun ρ=>((h j p e hp he).2 ρ).mono (fun _ _=>rfl) cH (Ext.refl _)⟩
 |jB hp hb ho=>exact .jB hp hb ho
end
def MZ(n j:Nat)(H:HM):HM:=fun i=>cond (Nat.beq i j) (P9 (Hz n j) (H n)) (cond (Nat.beq i n) .dead (P9 (Hz n j) (H i)))
def rR(n j:Nat)(ρ:RM):RM:=fun i=>if i=j then ρ n else if i=n then none else ρ i
def Dx(n j:Nat)(F:FM):FM:=fun i=>if i=j then F n else if i=n then[]else F i
theorem Un{ρ:RM}{w:World}{ok:Nat->Prop}{n j:Nat}{a:SV}{v:Value}(h:b9 ρ w ok a v):b9 (rR n j ρ) w ok (Hz n j a) v:=by
 have jS:=h.one;have key:∀{i:Nat} {u:Value} {s s':SV},ρ i=some u->(rR n j ρ j=some u->i=n->b9 (rR n j ρ) w ok s v)->(i≠j->rR n j ρ i=some u->b9 (rR n j ρ) w ok s' v)->b9 (rR n j ρ) w ok (cond (Nat.beq i j) (.c .any) (cond (Nat.beq i n) s s')) v:=by
  intro i u s s' hu h1 h2;cases hb:Nat.beq i j with
  |true=>exact .c (.any jS .nil)
  |false=>
   have EW:=Bl hb;cases nN:Nat.beq i n with
   |true=>
    have:=ae nN;subst this;exact h1 (by simp[rR,hu]) rfl
   |false=>
    have bw:=Bl nN;exact h2 EW (by simp[rR,EW,bw,hu])
 cases h with
 |c h=>exact .c h
 |lp h=>exact key h (fun e _=> .lp e) (fun _ e=> .lp e)
 |le h=>exact key h (fun e _=> .le e) (fun _ e=> .le e)
 |lw h=>exact key h (fun e _=> .lw e) (fun _ e=> .lw e)
 |ls h h1 h2 h3 h4=>exact key h (fun e _=> .ls e h1 h2 h3 h4) (fun _ e=> .ls e h1 h2 h3 h4)
 |mp h=>exact key h (fun e _=> .mp e) (fun _ e=> .mp e)
section
variable{Γ:Cx}{H:HM}{ρ:RM}{F:FM}{w:World}
theorem q6(_h:Mem Γ H ρ F w){n j:Nat}{i b:Nat}(hb:b∈Dx n j F i):∃k,b∈F k/\(i=j->k=n)/\(i≠j->k=i/\i≠n):=by
 unfold Dx at hb;split at hb
 ·exact⟨n,hb,fun _=>rfl,fun jr=>absurd (by assumption) jr⟩
 ·split at hb
  ·cases hb
  ·exact⟨i,hb,fun e=>absurd e (by assumption),fun _=>⟨rfl,by assumption⟩⟩
theorem Mem.N2(h:Mem Γ H ρ F w){n j:Nat}(Xa:n≠j)(hj:H j= .dead)(hpn:Γ.pv n=none)(YY:Γ.pv j=none):Mem Γ (MZ n j H) (rR n j ρ) (Dx n j F) w/\ ∀b,bg Γ F w b->bg Γ (Dx n j F) w b:=by
 have cH:∀b,bg Γ F w b->bg Γ (Dx n j F) w b:=by
  intro b hb;refine⟨hb.1,hb.2.1,?_⟩;rintro⟨i,hi⟩;obtain⟨k,hk,_⟩:=q6 h hi;exact hb.2.2 ⟨k,hk⟩
 refine⟨⟨fun i=>?_,fun i k b hi hk=>?_,fun i=>?_,fun i b hb=>?_,fun i b hb=>?_,h.oN,h.frame,h.size,h.os,h.tape,h.output,fun i v hv=>?_⟩,cH⟩
 ·have hg:∀a v,b9 ρ w (bg Γ F w) a v->b9 (rR n j ρ) w (bg Γ (Dx n j F) w) (Hz n j a) v:=fun a v hd=>(Un hd).mono (fun _ _=>rfl) cH (Ext.refl _)
  unfold MZ Dx;by_cases EW:i=j
  ·subst EW;simp only[Nat.beq_refl,cond,if_true];have:=K4 hg cH (h.blocks n);have e:rR n i ρ i=ρ n:=by simp[rR]
   rw[e];exact this
  ·have hb:Nat.beq i j=false:=by
        cases hb:Nat.beq i j with
        |true=>exact absurd (ae hb) EW
        |false=>rfl
   rw[hb];simp only[cond,EW,if_false];by_cases bw:i=n
   ·subst bw;simp only[Nat.beq_refl,if_true];exact .dead
   ·have nN:Nat.beq i n=false:=by
     cases hb:Nat.beq i n with
     |true=>exact absurd (ae hb) bw
     |false=>rfl
    rw[nN];simp only[bw,if_false];have e:rR n j ρ i=ρ i:=by simp[rR,EW,bw]
    rw[e];exact K4 hg cH (h.blocks i)
 ·obtain⟨a,ha,ha1,Ui⟩:=q6 h hi;obtain⟨c,hc,yF,QI⟩:=q6 h hk;have:=h.kO a c b ha hc;by_cases e1:i=j<;>by_cases e2:k=j
  ·omega
  ·have:=ha1 e1;have:=QI e2;omega
  ·have:=yF e2;have:=Ui e1;omega
  ·have:=Ui e1;have:=QI e2;omega
 ·unfold Dx;split
  ·exact h.nodup n
  ·split
   ·simp
   ·exact h.nodup i
 ·obtain⟨a,ha,_⟩:=q6 h hb;exact h.lt a b ha
 ·obtain⟨a,ha,_⟩:=q6 h hb;exact h.src a b ha
 ·have h1:i≠j:=by rintro rfl;rw[YY]at hv;cases hv
  have h2:i≠n:=by rintro rfl;rw[hpn]at hv;cases hv
  simp only[rR,h1,h2,if_false];exact h.CR i v hv
theorem St.N2{nt:Nat}{T:TM}{a:Act}(hS:St Γ nt T H ρ F a w){n j:Nat}(Xa:n≠j)(hj:H j= .dead)(hpn:Γ.pv n=none)(YY:Γ.pv j=none):St Γ nt (DX (Hz n j) T) (MZ n j H) (rR n j ρ) (Dx n j F) a w:=by
 obtain⟨h1,h2⟩:=hS.mem.N2 Xa hj hpn YY;exact⟨h1,hS.defers,hS.nt,fun i=>PK (fun a v hd=>(Un hd).mono (fun _ _=>rfl) h2 (Ext.refl _)) h2 (hS.tmps i)⟩
end
end Go.KA
