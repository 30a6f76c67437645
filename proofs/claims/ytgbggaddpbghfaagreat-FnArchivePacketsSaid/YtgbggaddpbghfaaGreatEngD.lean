/- Part of a proof engine for functions of the given program: what an operation, a loop and a call compute, symbolically. No conditions. -/
import Derived.Test.YtgbggaddpbghfaaGreatEngC
import Derived.Maps.AppendAt
namespace Go.KA
open Go Go.RowKit
theorem IS{Γ:Cx}{F:FM}{w w':World}(hs:w.heap.size≤w'.heap.size){b:Nat}(h:aL Γ F w b):aL Γ F w' b:=
 ⟨Nat.lt_of_lt_of_le h.1 hs,h.2⟩
def tZ(ρ:RM)(n:Nat)(v:Value):RM:=fun i=>if i=n then some v else ρ i
def fP(F:FM)(n:Nat)(f:List Nat):FM:=fun i=>if i=n then f else F i
theorem fD{ρ:RM}{n:Nat}{v:Value}:tZ ρ n v n=some v:=by simp[tZ]
theorem mi{ρ:RM}{n i:Nat}{v:Value}(h:i≠n):tZ ρ n v i=ρ i:=by simp[tZ,h]
theorem bf{F:FM}{n:Nat}{f:List Nat}:fP F n f n=f:=by simp[fP]
theorem bW{F:FM}{n i:Nat}{f:List Nat}(h:i≠n):fP F n f i=F i:=by simp[fP,h]
theorem ef{H:HM}{n:Nat}{k:dE}:dA H n k n=k:=by simp[dA]
theorem eV{H:HM}{n i:Nat}{k:dE}(h:i≠n):dA H n k i=H i:=by
 simp only[dA]
 cases hb:Nat.beq i n with
 |true=>exact absurd (Nat.eq_of_beq_eq_true hb) h
 |false=>rfl
theorem mF:∀(a b:List (Nat × dE)) (H:HM),cY (a++b) H=cY b (cY a H)
 |[],_,_=>rfl
 |(_,_)::a,b,H=>by simp only[List.cons_append,cY];exact mF a b _
theorem fJ{ρ:RM}{n:Nat}(h:ρ n=none)(v:Value):Ext ρ (tZ ρ n v):=by
 intro i u hu
 have:i≠n:=by rintro rfl;rw[h] at hu;cases hu
 rw[mi this]
 exact hu
theorem yx{i k:Nat}(h:Nat.beq i k=false):i≠k:=by
 intro e;subst e;simp at h
def l9(Hm H:HM):Prop:=∀i,Hm i= .dead∨Hm i=H i
theorem l9.refl(H:HM):l9 H H:=fun _=> .inr rfl
section
variable{Γ:Cx}{H Hm:HM}{ρ:RM}{F:FM}{w:World}
theorem Mem.hb(h:Mem Γ H ρ F w)(hl:l9 Hm H):∀i,Hm i= .dead∨dd ρ w (aL Γ F w) (Hm i) (ρ i) (F i):=by
 intro i
 rcases hl i with e|e
 ·exact .inl e
 ·right;rw[e];exact h.blocks i
theorem pG{F':FM}{w':World}{I:List Nat}(hsize:w.heap.size≤w'.heap.size)(hF:∀i,i∉I→F' i=F i)
 (hsub:∀i∈I,∀b∈F' i,(∃j∈I,b∈F j)∨(w.heap.size≤b∧b<w'.heap.size)):∀b,aL Γ F w b→aL Γ F' w' b:=by
 intro b hb
 refine⟨Nat.lt_of_lt_of_le hb.1 hsize,hb.2.1, ?_⟩
 rintro⟨i,hi⟩
 by_cases hI:i∈I
 ·rcases hsub i hI b hi with⟨j,_,hj⟩|h1
  ·exact hb.2.2 ⟨j,hj⟩
  ·have:=hb.1;omega
 ·rw[hF i hI] at hi
  exact hb.2.2 ⟨i,hi⟩
theorem nS{w':World}{I:List Nat}(hsame:∀b,b<w.heap.size→(∀i∈I,b∉F i)→w'.heap[b]? =w.heap[b]?):∀b,aL Γ F w b→w'.heap[b]? =w.heap[b]? :=
 fun b hb=>hsame b hb.1 fun i _ hi=>hb.2.2 ⟨i,hi⟩
theorem Mem.write(h:Mem Γ H ρ F w){H':HM}{ρ':RM}{F':FM}{w':World}(I:List Nat)(hos:w'.os=w.os)(htape:w'.tape=w.tape)(hout:w'.output=w.output)(hsize:w.heap.size≤w'.heap.size)
 (hρ:Ext ρ ρ')(hH:∀i,i∉I→H' i=H i∧F' i=F i∧ρ' i=ρ i)
 (hsame:∀b,b<w.heap.size→(∀i∈I,b∉F i)→w'.heap[b]? =w.heap[b]?)
 (hsub:∀i∈I,∀b∈F' i,(∃j∈I,b∈F j)∨(w.heap.size≤b∧b<w'.heap.size))
 (hnd:∀i∈I,(F' i).Nodup)(hdj:∀i∈I,∀j∈I,∀b,b∈F' i→b∈F' j→i=j)
 (hB:∀i∈I,dd ρ' w' (aL Γ F' w') (H' i) (ρ' i) (F' i)):Mem Γ H' ρ' F' w':=by
 have hok:=pG (Γ:=Γ) hsize (fun i hi=>(hH i hi).2.1) hsub
 have hso:=nS (Γ:=Γ) hsame
 have hlt:∀i,∀b∈F' i,b<w'.heap.size:=by
  intro i b hb
  by_cases hI:i∈I
  ·rcases hsub i hI b hb with⟨j,_,hj⟩|h1
   ·exact Nat.lt_of_lt_of_le (h.lt j b hj) hsize
   ·exact h1.2
  ·rw[(hH i hI).2.1] at hb
   exact Nat.lt_of_lt_of_le (h.lt i b hb) hsize
 refine⟨fun i=> ?_,fun i j b hi hj=> ?_,fun i=> ?_,hlt,fun i b hb=> ?_,h.mU,fun b hb hf=> ?_,Nat.le_trans h.size hsize,hos.trans h.os,htape.trans h.tape,hout.trans h.output,fun i v hv=>hρ i v (h.yG i v hv)⟩
 ·by_cases hI:i∈I
  ·exact hB i hI
  ·obtain⟨e1,e2,e3⟩:=hH i hI
   rw[e1,e2,e3]
   refine(h.blocks i).mono hso hok (fun b hb=>hsame b (h.lt i b hb) fun j hj hbj=> ?_) hρ
   exact hI (h.jz i j b hb hbj▸hj)
 ·by_cases hI:i∈I<;>by_cases hJ:j∈I
  ·exact hdj i hI j hJ b hi hj
  ·rw[(hH j hJ).2.1] at hj
   rcases hsub i hI b hi with⟨k,hk,hbk⟩|h1
   ·exact absurd (h.jz j k b hj hbk▸hk) hJ
   ·have:=h.lt j b hj;omega
  ·rw[(hH i hI).2.1] at hi
   rcases hsub j hJ b hj with⟨k,hk,hbk⟩|h1
   ·exact absurd (h.jz i k b hi hbk▸hk) hI
   ·have:=h.lt i b hi;omega
  ·rw[(hH i hI).2.1] at hi
   rw[(hH j hJ).2.1] at hj
   exact h.jz i j b hi hj
 ·by_cases hI:i∈I
  ·exact hnd i hI
  ·rw[(hH i hI).2.1];exact h.nodup i
 ·by_cases hI:i∈I
  ·rcases hsub i hI b hb with⟨j,_,hj⟩|h1
   ·exact h.src j b hj
   ·exact .inr (Nat.le_trans h.size h1.1)
  ·rw[(hH i hI).2.1] at hb
   exact h.src i b hb
 ·have hnot:∀i∈I,b∉F i:=fun i _ hbi=>by
   rcases h.src i b hbi with h1|h1
   ·exact hf h1
   ·omega
  rw[hsame b (Nat.lt_of_lt_of_le hb h.size) hnot]
  exact h.frame b hb hf
theorem Mem.grow(h:Mem Γ H ρ F w){w':World}(hb:Below w.heap.size w w'):Mem Γ H ρ F w':=
 h.write (ρ':=ρ) (F':=F) [] hb.os hb.tape hb.output hb.size (Ext.refl _) (fun _ _=>⟨rfl,rfl,rfl⟩) (fun b hb' _=>hb.block b hb') (by simp) (by simp) (by simp) (by simp)
theorem Mem.fill(h:Mem Γ H ρ F w){n:Nat}(hn:ρ n=none){w':World}(hb:Below w.heap.size w w'){k:dE}{v:Value}{f:List Nat}(hf:∀b∈f,w.heap.size≤b∧b<w'.heap.size)(hnd:f.Nodup)
 (hk:dd (tZ ρ n v) w' (aL Γ F w) k (some v) f):Mem Γ (dA H n k) (tZ ρ n v) (fP F n f) w'∧∀b,aL Γ F w b→aL Γ (fP F n f) w' b:=by
 have hF:∀i,i∉[n]→fP F n f i=F i:=fun i hi=>bW (by simpa using hi)
 have hsub:∀i∈[n],∀b∈fP F n f i,(∃j∈[n],b∈F j)∨(w.heap.size≤b∧b<w'.heap.size):=by
  intro i hi b hb'
  simp at hi
  subst hi
  rw[bf] at hb'
  exact .inr (hf b hb')
 have hok:=pG (Γ:=Γ) hb.size hF hsub
 refine⟨h.write [n] hb.os hb.tape hb.output hb.size (fJ hn v) (fun i hi=> ?_) (fun b hb' _=>hb.block b hb') hsub ?_ ?_ ?_,hok⟩
 ·have:i≠n:=by simpa using hi
  exact⟨eV this,bW this,mi this⟩
 ·intro i hi;simp at hi;subst hi;rw[bf];exact hnd
 ·intro i hi j hj b _ _;simp at hi hj;omega
 ·intro i hi
  simp at hi
  subst hi
  rw[ef,fD,bf]
  exact hk.mono (fun _ _=>rfl) hok (fun _ _=>rfl) (Ext.refl _)
theorem Mem.set(h:Mem Γ H ρ F w){j:Nat}{w':World}(hos:w'.os=w.os)(htape:w'.tape=w.tape)(hout:w'.output=w.output)(hsize:w.heap.size≤w'.heap.size)
 (hsame:∀b,b<w.heap.size→b∉F j→w'.heap[b]? =w.heap[b]?){k:dE}{f:List Nat}(hf:∀b∈f,b∈F j∨(w.heap.size≤b∧b<w'.heap.size))(hnd:f.Nodup)
 (hk:dd ρ w' (aL Γ F w) k (ρ j) f):Mem Γ (dA H j k) ρ (fP F j f) w'∧(∀b,aL Γ F w b→aL Γ (fP F j f) w' b)∧∀b,aL Γ F w b→w'.heap[b]? =w.heap[b]? :=by
 have hF:∀i,i∉[j]→fP F j f i=F i:=fun i hi=>bW (by simpa using hi)
 have hsub:∀i∈[j],∀b∈fP F j f i,(∃j'∈[j],b∈F j')∨(w.heap.size≤b∧b<w'.heap.size):=by
  intro i hi b hb'
  simp at hi
  subst hi
  rw[bf] at hb'
  rcases hf b hb' with h1|h1
  ·exact .inl ⟨i,by simp,h1⟩
  ·exact .inr h1
 have hok:=pG (Γ:=Γ) hsize hF hsub
 have hs:∀b,b<w.heap.size→(∀i∈[j],b∉F i)→w'.heap[b]? =w.heap[b]? :=fun b hb' hn=>hsame b hb' (hn j (by simp))
 refine⟨h.write [j] hos htape hout hsize (Ext.refl _) (fun i hi=> ?_) hs hsub ?_ ?_ ?_,hok,nS hs⟩
 ·have:i≠j:=by simpa using hi
  exact⟨eV this,bW this,rfl⟩
 ·intro i hi;simp at hi;subst hi;rw[bf];exact hnd
 ·intro i hi j hj b _ _;simp at hi hj;omega
 ·intro i hi
  simp at hi
  subst hi
  rw[ef,bf]
  exact hk.mono (fun _ _=>rfl) hok (fun _ _=>rfl) (Ext.refl _)
theorem St.grow{nt:Nat}{T:TM}{a:Act}(hS:St Γ nt T H ρ F a w){w':World}(hb:Below w.heap.size w w'):St Γ nt T H ρ F a w':=
 ⟨hS.mem.grow hb,hS.defers,hS.nt,fun i=>(hS.tmps i).mono (fun b hb'=>hb.block b hb'.1) (fun _ h=>IS hb.size h) (Ext.refl _)⟩
end
theorem vL{g:SV→SV}{cs:List SV}{j:Nat}{a:SV}(h:(cs.map g)[j]? =some a):∃a0,cs[j]? =some a0∧a=g a0:=by
 rw[List.getElem?_map] at h
 cases hc:cs[j]? with
 |none=>simp[hc] at h
 |some a0=>simp[hc] at h;exact⟨a0,rfl,h.symm⟩
section
variable{ρ ρ':RM}{w:World}{ok ok':Nat→Prop}{g:SV→SV}(hg:∀a v,bG ρ w ok a v→bG ρ' w ok' (g a) v)(hok:∀b,ok b→ok' b)
include hg hok
theorem NS{a:SV}{v:Value}(h:dZ ρ w ok a v):dZ ρ' w ok' (Pb g a) v:=by
 cases h with
 |a hl h=>exact .a hl (h.mono (fun _ _=>rfl) hok (by simp))
 |m hl h=>exact .m (by simp[hl]) fun j a v ha hv=>by obtain⟨a0,h0,rfl⟩:=vL ha;exact hg _ _ (h j a0 v h0 hv)
 |clo hl h=>exact .clo (by simp[hl]) fun j a v ha hv=>by obtain⟨a0,h0,rfl⟩:=vL ha;exact hg _ _ (h j a0 v h0 hv)
 |c h=>
  have:=hg _ _ h
  cases h<;>exact .c this
theorem JU{a:SV}{v:Value}(h:aZ ρ w ok a v):aZ ρ' w ok' (Pl g a) v:=by
 cases h with
 |any=>exact .any
 |v h=>
  have:=NS hg hok h
  cases h<;>first|exact .v this|skip
  rename_i h
  cases h<;>exact .v this
 |tup hl h=>exact .tup (by simp[hl]) fun j a v ha hv=>by obtain⟨a0,h0,rfl⟩:=vL ha;exact NS hg hok (h j a0 v h0 hv)
theorem Hg{k:dE}{v:Option Value}{f:List Nat}(h:dd ρ w ok k v f):dd ρ' w ok' (KC g k) v f:=by
 cases h with
 |dead=>exact .dead
 |cc hb hl h=>exact .cc hb hl (h.mono (fun _ _=>rfl) hok (by simp))
 |cells hb hl h=>exact .cells hb (by simp[hl]) fun j a v ha hv=>by obtain⟨a0,h0,rfl⟩:=vL ha;exact hg _ _ (h j a0 v h0 hv)
 |row ho hr hin hv=>exact .row ho hr (hin.mono (fun _ _=>rfl) hok (by simp)) hv
 |aG ho hr hin hv=>exact .aG ho hr (hin.mono (fun _ _=>rfl) hok fun _ _=>rfl) hv
 |ny hb hk hn hl h=>exact .ny hb hk hn hl fun j p e hp he=>⟨(h j p e hp he).1,fun ρ=>((h j p e hp he).2 ρ).mono (fun _ _=>rfl) hok (Ext.refl _)⟩
 |iu hp hb ho=>exact .iu hp hb ho
end
def I0(n j:Nat)(H:HM):HM:=fun i=>cond (Nat.beq i j) (KC (Ci n j) (H n)) (cond (Nat.beq i n) .dead (KC (Ci n j) (H i)))
def oG(n j:Nat)(ρ:RM):RM:=fun i=>if i=j then ρ n else if i=n then none else ρ i
def A8(n j:Nat)(F:FM):FM:=fun i=>if i=j then F n else if i=n then[] else F i
theorem Nn{ρ:RM}{w:World}{ok:Nat→Prop}{n j:Nat}{a:SV}{v:Value}(h:bG ρ w ok a v):bG (oG n j ρ) w ok (Ci n j a) v:=by
 have hone:=h.one
 have key:∀{i:Nat} {u:Value} {s s':SV},ρ i=some u→(oG n j ρ j=some u→i=n→bG (oG n j ρ) w ok s v)→(i≠j→oG n j ρ i=some u→bG (oG n j ρ) w ok s' v)→bG (oG n j ρ) w ok (cond (Nat.beq i j) (.c .any) (cond (Nat.beq i n) s s')) v:=by
  intro i u s s' hu h1 h2
  cases hb:Nat.beq i j with
  |true=>exact .c (.any hone .nil)
  |false=>
   have hij:=yx hb
   cases hb2:Nat.beq i n with
   |true=>
    have:=Nat.eq_of_beq_eq_true hb2
    subst this
    exact h1 (by simp[oG,hu]) rfl
   |false=>
    have hin:=yx hb2
    exact h2 hij (by simp[oG,hij,hin,hu])
 cases h with
 |c h=>exact .c h
 |lp h=>exact key h (fun e _=> .lp e) (fun _ e=> .lp e)
 |le h=>exact key h (fun e _=> .le e) (fun _ e=> .le e)
 |lw h=>exact key h (fun e _=> .lw e) (fun _ e=> .lw e)
 |ls h h1 h2 h3 h4=>exact key h (fun e _=> .ls e h1 h2 h3 h4) (fun _ e=> .ls e h1 h2 h3 h4)
 |mp h=>exact key h (fun e _=> .mp e) (fun _ e=> .mp e)
section
variable{Γ:Cx}{H:HM}{ρ:RM}{F:FM}{w:World}
theorem pI(_h:Mem Γ H ρ F w){n j:Nat}{i b:Nat}(hb:b∈A8 n j F i):∃k,b∈F k∧(i=j→k=n)∧(i≠j→k=i∧i≠n):=by
 unfold A8 at hb
 split at hb
 ·exact⟨n,hb,fun _=>rfl,fun hne=>absurd (by assumption) hne⟩
 ·split at hb
  ·cases hb
  ·exact⟨i,hb,fun e=>absurd e (by assumption),fun _=>⟨rfl,by assumption⟩⟩
theorem Mem.I7(h:Mem Γ H ρ F w){n j:Nat}(hnj:n≠j)(hj:H j= .dead)(hpn:Γ.pv n=none)(hpj:Γ.pv j=none):Mem Γ (I0 n j H) (oG n j ρ) (A8 n j F) w∧∀b,aL Γ F w b→aL Γ (A8 n j F) w b:=by
 have hok:∀b,aL Γ F w b→aL Γ (A8 n j F) w b:=by
  intro b hb
  refine⟨hb.1,hb.2.1, ?_⟩
  rintro⟨i,hi⟩
  obtain⟨k,hk,_⟩:=pI h hi
  exact hb.2.2 ⟨k,hk⟩
 refine⟨⟨fun i=> ?_,fun i k b hi hk=> ?_,fun i=> ?_,fun i b hb=> ?_,fun i b hb=> ?_,h.mU,h.frame,h.size,h.os,h.tape,h.output,fun i v hv=> ?_⟩,hok⟩
 ·have hg:∀a v,bG ρ w (aL Γ F w) a v→bG (oG n j ρ) w (aL Γ (A8 n j F) w) (Ci n j a) v:=fun a v hd=>(Nn hd).mono (fun _ _=>rfl) hok (Ext.refl _)
  unfold I0 A8
  by_cases hij:i=j
  ·subst hij
   simp only[Nat.beq_refl,cond,if_true]
   have:=Hg hg hok (h.blocks n)
   have e:oG n i ρ i=ρ n:=by simp[oG]
   rw[e]
   exact this
  ·have hb:Nat.beq i j=false:=by
        cases hb:Nat.beq i j with
        |true=>exact absurd (Nat.eq_of_beq_eq_true hb) hij
        |false=>rfl
   rw[hb]
   simp only[cond,hij,if_false]
   by_cases hin:i=n
   ·subst hin
    simp only[Nat.beq_refl,if_true]
    exact .dead
   ·have hb2:Nat.beq i n=false:=by
     cases hb:Nat.beq i n with
     |true=>exact absurd (Nat.eq_of_beq_eq_true hb) hin
     |false=>rfl
    rw[hb2]
    simp only[hin,if_false]
    have e:oG n j ρ i=ρ i:=by simp[oG,hij,hin]
    rw[e]
    exact Hg hg hok (h.blocks i)
 ·obtain⟨a,ha,ha1,ha2⟩:=pI h hi
  obtain⟨c,hc,hc1,hc2⟩:=pI h hk
  have:=h.jz a c b ha hc
  by_cases e1:i=j<;>by_cases e2:k=j
  ·omega
  ·have:=ha1 e1;have:=hc2 e2;omega
  ·have:=hc1 e2;have:=ha2 e1;omega
  ·have:=ha2 e1;have:=hc2 e2;omega
 ·unfold A8
  split
  ·exact h.nodup n
  ·split
   ·simp
   ·exact h.nodup i
 ·obtain⟨a,ha,_⟩:=pI h hb
  exact h.lt a b ha
 ·obtain⟨a,ha,_⟩:=pI h hb
  exact h.src a b ha
 ·have h1:i≠j:=by rintro rfl;rw[hpj] at hv;cases hv
  have h2:i≠n:=by rintro rfl;rw[hpn] at hv;cases hv
  simp only[oG,h1,h2,if_false]
  exact h.yG i v hv
theorem St.I7{nt:Nat}{T:TM}{a:Act}(hS:St Γ nt T H ρ F a w){n j:Nat}(hnj:n≠j)(hj:H j= .dead)(hpn:Γ.pv n=none)(hpj:Γ.pv j=none):St Γ nt (AH (Ci n j) T) (I0 n j H) (oG n j ρ) (A8 n j F) a w:=by
 obtain⟨h1,h2⟩:=hS.mem.I7 hnj hj hpn hpj
 exact⟨h1,hS.defers,hS.nt,fun i=>JU (fun a v hd=>(Nn hd).mono (fun _ _=>rfl) h2 (Ext.refl _)) h2 (hS.tmps i)⟩
end
end Go.KA
