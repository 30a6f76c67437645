/- Part of a proof engine for functions of the given program: what an operation, a loop and a call compute, symbolically. No conditions. -/
import Derived.Test.YtgbggaddpbghfaaGreatEngB
namespace Go.KA
open Go
section
variable{P:Program}{tbl:TT}{ρ:RM}{w:World}{ok:Nat->Prop}{H:HM}{F:FM}
theorem b9.jM{x:CV}{v:Value}(h:bJ ρ w ok (.c x) v):Den w ok [x] [v] []:=by
 cases h with
 |v h=>cases h with|c h=>cases h with|c h=>exact h
theorem eD{x:CV}{v:Value}(h:Den w ok [x] [v] []):bJ ρ w ok (.c x) v:= .v (.c (.c h))
theorem fD{x v:Value}(h:Den w ok [.val x] [v] []):v=x:=by
 cases h with|val _ _=>rfl
theorem pQ{b:Bool}{v:Value}(h:Den w ok [.cb b] [v] []):v= .bool b:=by
 cases h with|cb _=>rfl
theorem mk_val{x:Value}(h:x.oneCell'=true):Den w ok [.val x] [x] []:= .val h .nil
theorem KO{x:Value}(h:x.oneCell'=true):bJ ρ w ok (.c (.val x)) x:=eD (mk_val h)
theorem Ec{k:IntKind}{n:Int}:bJ ρ w ok (Fg k n) (.int k n):=KO rfl
theorem IF{b:Bool}:bJ ρ w ok (Bc b) (.bool b):=KO rfl
theorem qv{s:SV}{v:Value}{k:IntKind}{n:Int}(hs:JE s=some (k,n))(h:bJ ρ w ok s v):v= .int k n:=by
 unfold JE at hs;split at hs
 ·injection hs with hs
  injection hs with h1 h2
  subst h1 h2;exact fD (b9.jM h)
 ·cases hs
theorem vf{s:SV}{v:Value}{b:Bool}(hs:Wj s=some b)(h:bJ ρ w ok s v):v= .bool b:=by
 unfold Wj at hs;split at hs
 ·injection hs with hs
  subst hs;exact pQ (b9.jM h)
 ·injection hs with hs
  subst hs;exact fD (b9.jM h)
 ·cases hs
theorem yZ{s:SV}{v:Value}{b:ByteArray}(hs:u7 s=some b)(h:bJ ρ w ok s v):v= .string b:=by
 unfold u7 at hs;split at hs
 ·injection hs with hs
  subst hs;exact fD (b9.jM h)
 ·cases hs
theorem Cg{t:Nat}{i:iZ}(hk:vM P t i):(isAgg t).run P w= .ok i.agg w:=by
 obtain⟨d,hu,hd⟩:=hk.agg;unfold isAgg;rw[Sem.run_bind,run_underlying hu w];cases d<;>simp_all[TypeDesc.isRow]
theorem xY{t:Nat}{i:iZ}(hk:vM P t i):(sizeOf t).run P w= .ok i.size w:=by
 have:=hk.size;cases hq:P.info? t with
 |none=>simp[hq]at this
 |some j=>simp[hq]at this;simp[sizeOf,typeInfo,hq,this]
def At(w:World)(a:Addr)(xs:List Value):Prop:=∀(j:Nat) x,xs[j]? =some x->w.cell? (a.add j)=some x
theorem kT{t:Nat}{i:iZ}(hk:vM P t i){a:Addr}{xs:List Value}(hl:xs.length=i.size)(h:At w a xs)(qo:i.agg=true):
 (loadVar t a).run P w= .ok (.agg xs.toArray) w:=by
 unfold loadVar;rw[Sem.run_bind,Cg hk];simp only[Result.andThen_ok,qo,if_true];simp[Sem.run_bind,xY hk,<-hl,run_loadCells_list (P:=P) w a xs h]
theorem mr{t:Nat}{i:iZ}(hk:vM P t i){a:Addr}{x:Value}(h:w.cell? a=some x)(qo:i.agg=false):
 (loadVar t a).run P w= .ok x w:=by
 unfold loadVar;rw[Sem.run_bind,Cg hk];simp[qo,h]
theorem lY{a:Addr}{xs:List Value}(h:At w a xs)(n:Nat):At w a (xs.take n):=by
 intro j x hx;apply h;rw[List.getElem?_take]at hx;split at hx
 ·exact hx
 ·cases hx
theorem ig{a:Addr}{xs:List Value}(h:At w a xs)(n:Nat):At w (a.add n) (xs.drop n):=by
 intro j x hx;rw[add_add];apply h;rwa[List.getElem?_drop]at hx
theorem kH{cs:List CV}{xs:List Value}(h:Den w ok cs xs [])(n:Nat):Den w ok (cs.take n) (xs.take n) []:=by
 refine Den.JV (by simp[h.length]) fun j a v ha hv=>?_
 rw[List.getElem?_take]at ha hv;split at ha
 ·rename_i eu;rw[if_pos eu]at hv;exact h.get ha hv
 ·cases ha
theorem gI{cs:List CV}{xs:List Value}(h:Den w ok cs xs [])(n:Nat):Den w ok (cs.drop n) (xs.drop n) []:=by
 refine Den.JV (by simp[h.length]) fun j a v ha hv=>?_
 rw[List.getElem?_drop]at ha hv;exact h.get ha hv
theorem nr{t:Nat}{i:iZ}(hk:vM P t i){a:Addr}{cs:List CV}{xs:List Value}(hd:Den w ok cs xs [])(jC:At w a xs){K:SV->Prop}(h:EU i.agg i.size cs K):
 ∃sv v,K sv/\(loadVar t a).run P w= .ok v w/\bJ ρ w ok sv v:=by
 unfold EU at h;split at h
 ·rename_i qo;cases hb:Nat.beq (cs.take i.size).length i.size with
  |false=>rw[hb]at h;exact h.elim
  |true=>
   rw[hb]at h;have hlen:(xs.take i.size).length=i.size:=by
        rw[<-(kH hd i.size).length];exact ae hb
   exact⟨_,_,h,kT hk hlen (lY jC _) qo, .v (.a (by simpa using ae hb) (kH hd _))⟩
 ·rename_i qo;cases cs with
  |nil=>exact h.elim
  |cons c cs=>
   cases xs with
   |nil=>exact absurd hd.length (by simp)
   |cons x xs=>
    have h0:=jC 0 x rfl;rw[Addr.add_zero']at h0;exact⟨_,_,h,mr hk h0 qo,eD (hd.get (j:=0) rfl rfl)⟩
theorem qc{t:Nat}{i:iZ}(hk:vM P t i)(qo:i.agg=true){a:Addr}{n:Nat}{cs:List CV}{xs:List Value}(hn:cs.length=n)(hd:Den w ok cs xs [])(hl:xs.length=i.size)(jC:At w a xs):
 ∃v,(loadVar t a).run P w= .ok v w/\bJ ρ w ok (.a n cs) v:=
 ⟨_,kT hk hl jC qo, .v (.a hn hd)⟩
theorem fZ{α:Type}{sz:Nat}:∀{rows:List (List α)} {idx:Nat} {r:List α},(∀r∈rows,r.length=sz)->rows[idx]? =some r->(rows.flatten.drop (idx*sz)).take sz=r
 |[],_,_,_,h=>by simp at h
 |r0::rows,0,r,hr,h=>by
  simp at h;subst h;have:=hr r0 (by simp);simp[this]
 |r0::rows,idx+1,r,hr,h=>by
  have h0:=hr r0 (by simp);have ih:=fZ (rows:=rows) (idx:=idx) (r:=r) (fun x hx=>hr x (by simp[hx])) (by simpa using h);rw[List.flatten_cons,Nat.succ_mul,Nat.add_comm,List.drop_append,h0];rw[List.drop_of_length_le (by omega)];simpa using ih
theorem fE{α:Type}{sz:Nat}:∀{rows:List (List α)},(∀r∈rows,r.length=sz)->rows.flatten.length=rows.length*sz
 |[],_=>by simp
 |r::rows,h=>by
  have h0:=h r (by simp);have ih:=fE (rows:=rows) fun x hx=>h x (by simp[hx])
  simp only[List.flatten_cons,ai,List.length_cons,ih,h0,Nat.succ_mul];omega
theorem KM{sz idx:Nat}{rows:List (List CV)}{r:List CV}{xs:List Value}(h:Den w ok rows.flatten xs [])(hr:∀r∈rows,r.length=sz)(hi:rows[idx]? =some r):
 Den w ok r ((xs.drop (idx*sz)).take sz) []:=by
 have:=kH (gI h (idx*sz)) sz;rwa[fZ hr hi]at this
theorem YP{a:Addr}{xs:List Value}(h:Rd w ok (some a) xs):At w a xs:=by
 intro j x hx;obtain⟨ad,e,_,_,hc⟩:=h j x hx;injection e with e
 subst e;exact hc
theorem EI{a:Addr}{xs:List Value}(h:Rd w ok (some a) xs)(n:Nat):Rd w ok (some (a.add n)) (xs.drop n):=by
 intro j x hx;rw[List.getElem?_drop]at hx;obtain⟨ad,e,hs,hb,hc⟩:=h _ x hx;injection e with e
 subst e;exact⟨_,rfl,rm _ _ hs,by rw[xg];exact hb,by rw[add_add];exact hc⟩
theorem RN{a:Option Addr}{xs:List Value}(h:Rd w ok a xs)(n:Nat):Rd w ok a (xs.take n):=by
 intro j x hx;rw[List.getElem?_take]at hx;split at hx
 ·exact h j x hx
 ·cases hx
theorem bJ.vc{a:SV}{v:Value}(h:bJ ρ w ok a v)(h1:a≠ .any)(h2:∀vs,a≠ .tup vs):eK ρ w ok a v:=by
 cases h with
 |any=>exact absurd rfl h1
 |v h=>exact h
 |tup _ _=>exact absurd rfl (h2 _)
theorem uD{i off:Nat}{v:Value}(h:bJ ρ w ok (.lp i off) v):∃b,ρ i=some (.pointer (some ⟨b,0,none⟩))/\v= .pointer (some ⟨b,off,none⟩):=by
 cases h with
 |v h=>cases h with|c h=>cases h with|lp h=>exact⟨_,h,rfl⟩
theorem Nh{i sz idx off:Nat}{v:Value}(h:bJ ρ w ok (.le i sz idx off) v):∃b n c,ρ i=some (.slice (some ⟨b,0,none⟩) n c)/\v= .pointer (some ⟨b,idx*sz+off,none⟩):=by
 cases h with
 |v h=>cases h with|c h=>cases h with|le h=>exact⟨_,_,_,h,rfl⟩
theorem wg{i:Nat}{v:Value}(h:bJ ρ w ok (.lw i) v):ρ i=some v/\ ∃a n c,v= .slice a n c:=by
 cases h with
 |v h=>cases h with|c h=>cases h with|lw h=>exact⟨h,_,_,_,rfl⟩
theorem Wv{i sz off len:Nat}{v:Value}(h:bJ ρ w ok (.ls i sz off len) v):∃b n c c',ρ i=some (.slice (some ⟨b,0,none⟩) n c)/\v= .slice (some ⟨b,off*sz,none⟩) len c'/\off+len≤n/\len≤c'/\c'≤maxLen:=by
 cases h with
 |v h=>cases h with|c h=>cases h with|ls h h1 h2 h3 _=>exact⟨_,_,_,_,h,rfl,h1,h2,h3⟩
theorem kA{ty sz n:Nat}{v:Value}{xs:List Value}(ho:w.ownsRow 0 ty sz v n xs){b m c:Nat}(hv:v= .slice (some ⟨b,0,none⟩) m c):At w ⟨b,0,none⟩ xs/\m=n/\n≤c/\c≤maxLen:=by
 obtain⟨hl,h|⟨g,cap,cur,gZ,_,hh,hc,hm,gC,wi⟩⟩:=ho
 ·rw[hv]at h;exact absurd h.1 (by simp)
 ·rw[hv]at gZ;injection gZ with h1 h2 h3
  injection h1 with h1
  injection h1 with h1 _
  subst h1 h2 h3;refine⟨fun j x hx=>?_,rfl,hc,hm⟩;rw[eW];have hj:j<xs.length:=(List.getElem?_eq_some_iff.1 hx).1;rw[<-wi,List.getElem?_take]at hx;split at hx
  ·simp only[World.cell?,hh,Nat.zero_add];simpa using hx
  ·cases hx
theorem dJ{ty sz n:Nat}{v:Value}{xs:List Value}(ho:w.ownsRow 0 ty sz v n xs):(v= .slice none 0 0/\n=0/\xs=[])\/ ∃b c,v= .slice (some ⟨b,0,none⟩) n c/\n≤c/\c≤maxLen:=by
 obtain⟨hl,h|⟨g,cap,cur,gZ,_,hh,hc,hm,gC,wi⟩⟩:=ho
 ·left;obtain⟨h1,h2⟩:=h;subst h2;exact⟨h1,rfl,List.eq_nil_of_length_eq_zero (by simpa using hl)⟩
 ·right;exact⟨g,cap,gZ,hc,hm⟩
variable(hB:∀i,H i= .dead\/dH ρ w ok (H i) (ρ i) (F i))
include hB
theorem Sh{j:Nat}(h:H j≠ .dead):dH ρ w ok (H j) (ρ j) (F j):=(hB j).resolve_left h
theorem HC{j sz:Nat}{cs:List CV}(h:H j= .cc sz cs):∃(b:Nat) (ty:Nat) (arr:Array Value),ρ j=some (.pointer (some ⟨b,0,none⟩))/\w.heap[b]? =some (.cells arr ty (0,0))/\cs.length=sz/\Den w ok cs arr.toList []/\F j=[b]:=by
 have:=Sh hB (j:=j) (by rw[h];simp);rw[h]at this;generalize F j=f,ρ j=r at this;cases this with
 |cc hb hl h=>exact⟨_,_,_,rfl,hb,hl,h,rfl⟩
theorem mO{j:Nat}{cs:List SV}(h:H j= .cells cs):∃(b:Nat) (ty:Nat) (arr:Array Value),ρ j=some (.pointer (some ⟨b,0,none⟩))/\w.heap[b]? =some (.cells arr ty (0,0))/\cs.length=arr.toList.length/\(∀(j:Nat) a v,cs[j]? =some a->arr.toList[j]? =some v->b9 ρ w ok a v)/\F j=[b]:=by
 have:=Sh hB (j:=j) (by rw[h];simp);rw[h]at this;generalize F j=f,hr:ρ j=r at this;cases this with
 |cells hb hl h=>exact⟨_,_,_,rfl,hb,hl,h,rfl⟩
theorem jx{j ty sz:Nat}{o:Option Value}{rows:List (List CV)}(h:H j= .row o ty sz rows):∃v xs,ρ j=some v/\w.ownsRow 0 ty sz v rows.length xs/\(∀r∈rows,r.length=sz)/\Den w ok rows.flatten xs []/\F j=v.ownBlock.toList/\ ∀u,o=some u->v=u:=by
 have:=Sh hB (j:=j) (by rw[h];simp);rw[h]at this;generalize F j=f,ρ j=r at this;cases this with
 |row ho hr bw hv=>exact⟨_,_,rfl,ho,hr,bw,rfl,hv⟩
theorem et{j ty sz:Nat}{o:Option Value}{rows:List (List CV)}(h:H j= .aU o ty sz rows):∃v xs f,ρ j=some v/\w.ownsRow 0 ty sz v rows.length xs/\(∀r∈rows,r.length=sz)/\Den w ok rows.flatten xs f/\F j=v.ownBlock.toList++f/\ ∀u,o=some u->v=u:=by
 have:=Sh hB (j:=j) (by rw[h];simp);rw[h]at this;generalize F j=f,ρ j=r at this;cases this with
 |aU ho hr bw hv=>exact⟨_,_,_,rfl,ho,hr,bw,rfl,hv⟩
omit hB in
theorem xc{b ty:Nat}{arr:Array Value}(hb:w.heap[b]? =some (.cells arr ty (0,0))):At w ⟨b,0,none⟩ arr.toList:=by
 intro j x hx;rw[eW];simp only[World.cell?,hb];simpa using hx
omit hB in
theorem JT{t:Nat}{i:iZ}(hk:vM P t i){a:Addr}{cs:List SV}{xs:List Value}(hl:cs.length=xs.length)(hd:∀(j:Nat) a v,cs[j]? =some a->xs[j]? =some v->b9 ρ w ok a v)(jC:At w a xs){K:SV->Prop}(h:PN i.agg i.size cs K):
 ∃sv v,K sv/\(loadVar t a).run P w= .ok v w/\bJ ρ w ok sv v:=by
 unfold PN at h;split at h
 ·rename_i qo;cases hb:Nat.beq (cs.take i.size).length i.size with
  |false=>rw[hb]at h;exact h.elim
  |true=>
   rw[hb]at h;have hlen:(xs.take i.size).length=i.size:=by
        have:=ae hb;simp only[aq]at this⊢;omega
   refine⟨_,_,h,kT hk hlen (lY jC _) qo, .v (.m (by simp[hl]) fun j a v ha hv=>?_)⟩;rw[List.getElem?_take]at ha hv;split at ha
   ·rename_i eu;rw[if_pos eu]at hv;exact hd j a v ha hv
   ·cases ha
 ·rename_i qo;cases cs with
  |nil=>exact h.elim
  |cons c cs=>
   cases xs with
   |nil=>simp at hl
   |cons x xs=>
    have h0:=jC 0 x rfl;rw[Addr.add_zero']at h0;exact⟨_,_,h,mr hk h0 qo, .v (.c (hd 0 _ _ rfl rfl))⟩
omit hB in
theorem zn{w:World}{ok:Nat->Prop}{cs:List CV}{vs:List Value}{f:List Nat}(h:Den w ok cs vs f)(hp:cs.all ji=true):Den w ok cs vs []:=by
 induction h with
 |nil=>exact .nil
 |any h1 _ ih=>exact .any h1 (ih (by simpa[ji]using hp))
 |val h1 _ ih=>exact .val h1 (ih (by simpa[ji]using hp))
 |cb _ ih=>exact .cb (ih (by simpa[ji]using hp))
 |ro hn hc hm hr bw jH _ _ ih=>exact .ro hn hc hm hr bw jH (ih (by simpa[ji]using hp))
 |rp hl bw hs jH _ _ ih=>exact .rp hl bw hs jH (ih (by simpa[ji]using hp))
 |own _ _ _ _ _ _=>simp[ji]at hp
 |ows _ _ _ _ _ _=>simp[ji]at hp
 |fQ _ _ _ _ _ _=>simp[ji]at hp
 |op _ _ _ _ _=>simp[ji]at hp
 |jB _ _ _ _ _=>simp[ji]at hp
omit hB in
theorem CQ{w:World}{ok:Nat->Prop}{cs:List CV}{vs:List Value}{f:List Nat}(h:Den w ok cs vs f):∀n,∃f',Den w ok (cs.take n) (vs.take n) f':=by
 induction h with
 |nil=>intro n;exact⟨[],by simpa using Den.nil⟩
 |any h1 _ ih=>
  intro n;cases n with
  |zero=>exact⟨[],by simpa using Den.nil⟩
  |succ n=>obtain⟨f',h⟩:=ih n;exact⟨f', .any h1 h⟩
 |val h1 _ ih=>
  intro n;cases n with
  |zero=>exact⟨[],by simpa using Den.nil⟩
  |succ n=>obtain⟨f',h⟩:=ih n;exact⟨f', .val h1 h⟩
 |cb _ ih=>
  intro n;cases n with
  |zero=>exact⟨[],by simpa using Den.nil⟩
  |succ n=>obtain⟨f',h⟩:=ih n;exact⟨f', .cb h⟩
 |ro hn hc hm hr bw jH _ _ ih=>
  intro n;cases n with
  |zero=>exact⟨[],by simpa using Den.nil⟩
  |succ n=>obtain⟨f',h⟩:=ih n;exact⟨f', .ro hn hc hm hr bw jH h⟩
 |rp hl bw hs jH _ _ ih=>
  intro n;cases n with
  |zero=>exact⟨[],by simpa using Den.nil⟩
  |succ n=>obtain⟨f',h⟩:=ih n;exact⟨f', .rp hl bw hs jH h⟩
 |own bw hr ho _ _ ih=>
  intro n;cases n with
  |zero=>exact⟨[],by simpa using Den.nil⟩
  |succ n=>obtain⟨f',h⟩:=ih n;exact⟨_, .own bw hr ho h⟩
 |ows bw hr ho _ _ ih=>
  intro n;cases n with
  |zero=>exact⟨[],by simpa using Den.nil⟩
  |succ n=>obtain⟨f',h⟩:=ih n;exact⟨_, .ows bw hr ho h⟩
 |fQ bw hr ho _ _ ih=>
  intro n;cases n with
  |zero=>exact⟨[],by simpa using Den.nil⟩
  |succ n=>obtain⟨f',h⟩:=ih n;exact⟨_, .fQ bw hr ho h⟩
 |op hb bw _ _ ih=>
  intro n;cases n with
  |zero=>exact⟨[],by simpa using Den.nil⟩
  |succ n=>obtain⟨f',h⟩:=ih n;exact⟨_, .op hb bw h⟩
 |jB hp hb ho _ ih=>
  intro n;cases n with
  |zero=>exact⟨[],by simpa using Den.nil⟩
  |succ n=>obtain⟨f',h⟩:=ih n;exact⟨_, .jB hp hb ho h⟩
omit hB in
theorem Cm{w:World}{ok:Nat->Prop}{cs:List CV}{vs:List Value}{f:List Nat}(h:Den w ok cs vs f):∀n,∃f',Den w ok (cs.drop n) (vs.drop n) f':=by
 induction h with
 |nil=>intro n;exact⟨[],by simpa using Den.nil⟩
 |any h1 ht ih=>
  intro n;cases n with
  |zero=>exact⟨_, .any h1 ht⟩
  |succ n=>exact ih n
 |val h1 ht ih=>
  intro n;cases n with
  |zero=>exact⟨_, .val h1 ht⟩
  |succ n=>exact ih n
 |cb ht ih=>
  intro n;cases n with
  |zero=>exact⟨_, .cb ht⟩
  |succ n=>exact ih n
 |ro hn hc hm hr bw jH ht _ ih=>
  intro n;cases n with
  |zero=>exact⟨_, .ro hn hc hm hr bw jH ht⟩
  |succ n=>exact ih n
 |rp hl bw hs jH ht _ ih=>
  intro n;cases n with
  |zero=>exact⟨_, .rp hl bw hs jH ht⟩
  |succ n=>exact ih n
 |own bw hr ho ht _ ih=>
  intro n;cases n with
  |zero=>exact⟨_, .own bw hr ho ht⟩
  |succ n=>exact ih n
 |ows bw hr ho ht _ ih=>
  intro n;cases n with
  |zero=>exact⟨_, .ows bw hr ho ht⟩
  |succ n=>exact ih n
 |fQ bw hr ho ht _ ih=>
  intro n;cases n with
  |zero=>exact⟨_, .fQ bw hr ho ht⟩
  |succ n=>exact ih n
 |op hb bw ht _ ih=>
  intro n;cases n with
  |zero=>exact⟨_, .op hb bw ht⟩
  |succ n=>exact ih n
 |jB hp hb ho ht ih=>
  intro n;cases n with
  |zero=>exact⟨_, .jB hp hb ho ht⟩
  |succ n=>exact ih n
theorem oG(dC:en P tbl){t:Nat}{p:SV}{pv:Value}{K:SV->Prop}(h:xL tbl t p H K)(hp:bJ ρ w ok p pv):
 ∃sv v,K sv/\(Instr.loadAt t pv).run P w= .ok v w/\bJ ρ w ok sv v:=by
 unfold xL at h;split at h
 ·exact h.elim
 rename_i i hi;have hk:=dC _ _ hi;have key:∀{a:Addr} {sv:SV} {v:Value},K sv->(loadVar t a).run P w= .ok v w->bJ ρ w ok sv v-> ∃sv v,K sv/\(Instr.loadAt t (.pointer (some a))).run P w= .ok v w/\bJ ρ w ok sv v:=fun hK hr hT=>
  ⟨_,_,hK,by simp[Instr.loadAt,Instr.sureAddr,hr],hT⟩
 split at h
 ·
  rename_i sz cs;have hd:=b9.jM hp;cases hd with
  |rp hl bw hs jH ht=>
   cases ht;have jC:=YP jH;cases hb:(i.agg&&Nat.beq sz i.size)with
   |true=>
    rw[hb]at h;simp only[ab]at hb;have gC:=ae hb.2;obtain⟨v,hr,hT⟩:=qc (ρ:=ρ) hk hb.1 hl bw (by rw[<-bw.length];omega) jC;exact key h hr hT
   |false=>
    rw[hb]at h;obtain⟨sv,v,hK,hr,hT⟩:=nr (ρ:=ρ) hk bw jC h;exact key hK hr hT
 ·
  rename_i j off;obtain⟨b,hρ,rfl⟩:=uD hp;split at h
  ·rename_i sz cs hj;obtain⟨b',ty,arr,im,hh,hl,bw,_⟩:=HC hB hj;rw[hρ]at im;simp only[Option.some.injEq,Value.pointer.injEq,Addr.mk.injEq,and_true]at im;subst im;have jC:=xc hh;cases hb:(i.agg&&(Nat.beq sz i.size&&Nat.beq off 0))with
   |true=>
    rw[hb]at h;simp only[ab]at hb;have gC:=ae hb.2.1;have ho:=ae hb.2.2;subst ho;obtain⟨v,hr,hT⟩:=qc (ρ:=ρ) hk hb.1 hl bw (by rw[<-bw.length];omega) jC;exact key h hr hT
   |false=>
    rw[hb]at h;have mm:=ig jC off;rw[eW,Nat.zero_add]at mm;obtain⟨sv,v,hK,hr,hT⟩:=nr (ρ:=ρ) hk (gI bw off) mm h;exact key hK hr hT
  ·rename_i cs hj;obtain⟨b',ty,arr,im,hh,hl,bw,_⟩:=mO hB hj;rw[hρ]at im;simp only[Option.some.injEq,Value.pointer.injEq,Addr.mk.injEq,and_true]at im;subst im;have mm:=ig (xc hh) off;rw[eW,Nat.zero_add]at mm;obtain⟨sv,v,hK,hr,hT⟩:=JT hk (by simp[hl]) (fun j a v ha hv=>by
        rw[List.getElem?_drop]at ha hv;exact bw _ a v ha hv) mm h
   exact key hK hr hT
  ·exact h.elim
 ·
  rename_i j sz idx off;obtain⟨b,n,c,hρ,rfl⟩:=Nh hp;split at h
  ·rename_i o mq fN rows hj;obtain⟨rv,xs,jX,ho,hr,bw,_,_⟩:=jx hB hj;rw[hρ]at jX;simp only[Option.some.injEq]at jX;subst jX;cases hb:Nat.beq sz fN with
   |false=>rw[hb]at h;exact h.elim
   |true=>
    rw[hb]at h;have:=ae hb;subst this;obtain⟨r,hx,h⟩:=h;have hd:=KM bw hr hx;have hlen:=hr r (List.mem_of_getElem? hx);have jC:=lY (ig (kA ho rfl).1 (idx*sz)) sz;rw[eW,Nat.zero_add]at jC;cases hb:(i.agg&&(Nat.beq sz i.size&&Nat.beq off 0))with
    |true=>
     rw[hb]at h;simp only[ab]at hb;have gC:=ae hb.2.1;have ho:=ae hb.2.2;subst ho;obtain⟨v,Ja,hT⟩:=qc (ρ:=ρ) hk hb.1 hlen hd (by rw[<-hd.length];omega) jC;exact key h Ja hT
    |false=>
     rw[hb]at h;have mm:=ig jC off;rw[eW]at mm;obtain⟨sv,v,hK,Ja,hT⟩:=nr (ρ:=ρ) hk (gI hd off) mm h;exact key hK Ja hT
  ·rename_i o mq fN rows hj;obtain⟨rv,xs,f,jX,ho,hr,bw,_,_⟩:=et hB hj;rw[hρ]at jX;simp only[Option.some.injEq]at jX;subst jX;cases hb:Nat.beq sz fN with
   |false=>rw[hb]at h;exact h.elim
   |true=>
    rw[hb]at h;have:=ae hb;subst this;obtain⟨r,hx,h⟩:=h;obtain⟨f1,d1⟩:=Cm bw (idx*sz);obtain⟨f2,d2⟩:=CQ d1 sz;rw[fZ hr hx]at d2;obtain⟨f3,d3⟩:=Cm d2 off;obtain⟨f4,d4⟩:=CQ d3 (cond i.agg i.size 1);have jC:=lY (ig (lY (ig (kA ho rfl).1 (idx*sz)) sz) off) (cond i.agg i.size 1);rw[eW,eW,Nat.zero_add]at jC;unfold Zs at h;cases dV:((r.drop off).take (cond i.agg i.size 1)).all ji with
    |false=>rw[dV]at h;exact h.elim
    |true=>
     rw[dV]at h;obtain⟨sv,v,hK,Ja,hT⟩:=nr (ρ:=ρ) hk (zn d4 dV) jC h;exact key hK Ja hT
  ·exact h.elim
 ·exact h.elim
omit hB in
theorem Du(dC:en P tbl){s:Nat}{p:SV}{pv:Value}{f:Nat}{K:SV->Prop}(h:Ak tbl s p f K)(hp:bJ ρ w ok p pv):
 ∃sv v,K sv/\(Instr.fieldAt s pv f).run P w= .ok v w/\bJ ρ w ok sv v:=by
 unfold Ak at h;split at h
 ·exact h.elim
 rename_i i hi;have hk:=dC _ _ hi;split at h
 ·exact h.elim
 rename_i off ft W0 hf;obtain⟨qa,fs,fd,hu,Od,rfl,rfl,gC⟩:=hk.field _ _ _ _ hf;have fu:∀a:Addr,(Instr.fieldAt s (.pointer (some a)) f).run P w= .ok (.pointer (some (a.add fd.offset))) w:=by
  intro a;cases hq:P.info? fd.type with
  |none=>simp[hq]at gC
  |some inf=>
   have:inf.size≠0:=by simp[hq]at gC;omega
   simp[Instr.fieldAt,run_underlying hu,Od,Instr.sureAddr,fieldPlace,sizeOf,typeInfo,hq,this]
 split at h
 ·rename_i sz cs;have hd:=b9.jM hp;cases hd with
  |rp hl bw hs jH ht=>
   cases ht;exact⟨_,_,h,fu _,eD (.rp (by simp[hl]) (gI bw _) (rm _ _ hs) (EI jH _) .nil)⟩
 ·rename_i j o;obtain⟨b,hρ,rfl⟩:=uD hp;exact⟨_,_,h,by rw[fu,eW], .v (.c (.lp hρ))⟩
 ·rename_i j sz idx o;obtain⟨b,n,c,hρ,rfl⟩:=Nh hp;refine⟨_,_,h,by rw[fu,eW],?_⟩;rw[Nat.add_assoc];exact .v (.c (.le hρ))
 ·exact h.elim
omit hB in
theorem run_indexAt_slice{t e sz:Nat}(hu:P.underlying t=some (.slice e))(gC:(sizeOf e).run P w= .ok sz w){a:Addr}{len cap:Nat}{k:IntKind}{n:Int}(h0:0≤n)(h1:n.toNat<len):
 (Instr.indexAt t (.slice (some a) len cap) (.int k n)).run P w= .ok (.pointer (some (a.add (n.toNat*sz)))) w:=by
 have:n<len:=by omega
 simp[Instr.indexAt,asIntOf,run_underlying hu,h0,this,gC]
theorem wC(dC:en P tbl){t:Nat}{x ix:SV}{xv iv:Value}{K:SV->Prop}(h:nz tbl t x ix H K)(hx:bJ ρ w ok x xv)(hi:bJ ρ w ok ix iv):
 ∃sv v,K sv/\(Instr.indexAt t xv iv).run P w= .ok v w/\bJ ρ w ok sv v:=by
 unfold nz at h;split at h
 case h_2=>exact h.elim
 rename_i i k n Vg si;have hk:=dC _ _ Vg;have:=qv si hi;subst this;split at h
 case h_2=>exact h.elim
 rename_i ll dw yg mT;obtain⟨hu,qa,inf,z,kX,gC,_⟩:=hk.elem _ _ _ mT;have eZ:(sizeOf ll).run P w= .ok dw w:=by simp[sizeOf,typeInfo,kX,gC]
 split at h
 ·rename_i sz rows;cases hb:Nat.beq sz dw with
  |false=>rw[hb]at h;exact h.elim
  |true=>
   rw[hb]at h;have:=ae hb;subst this;obtain⟨h0,r,hr,hK⟩:=h;have hd:=b9.jM hx;cases hd with
   |ro hn hc hm oT bw jH ht=>
    cases ht;rename_i xs a n' c;have hdr:=KM bw oT hr;have hlen:=oT r (List.mem_of_getElem? hr);have eu:n.toNat<rows.length:=(List.getElem?_eq_some_iff.1 hr).1;have WM:((xs.drop (n.toNat*sz)).take sz).length=sz:=by rw[<-hdr.length];exact hlen
    have N5:∃x0,xs[n.toNat*sz]? =some x0:=by
     rw[aq,List.length_drop]at WM;exact⟨_,List.getElem?_eq_getElem (by omega)⟩
    obtain⟨x0,N5⟩:=N5;obtain⟨ad,rfl,hs,cH,_⟩:=jH _ _ N5;exact⟨_,_,hK,run_indexAt_slice hu eZ h0 (by omega),eD (.rp hlen hdr (rm _ _ hs) (RN (EI jH _) _) .nil)⟩
 ·rename_i j;split at h
  ·rename_i o ty sz rows hj;cases hb:Nat.beq sz dw with
   |false=>rw[hb]at h;exact h.elim
   |true=>
    rw[hb]at h;have:=ae hb;subst this;obtain⟨⟨h0,eu⟩,hK⟩:=h;obtain⟨rv,xs,jX,ho,hr,bw,_,_⟩:=jx hB hj;obtain⟨tK,_⟩:=wg hx;rw[jX]at tK;simp only[Option.some.injEq]at tK;subst tK;rcases dJ ho with⟨_,hz,_⟩|⟨b,c,hv,_,_⟩
    ·omega
    ·subst hv;refine⟨_, .pointer (some ⟨b,n.toNat*sz+0,none⟩),hK,?_, .v (.c (.le jX))⟩;rw[run_indexAt_slice hu eZ h0 eu,eW,Nat.zero_add,Nat.add_zero]
  ·rename_i o ty sz rows hj;cases hb:Nat.beq sz dw with
   |false=>rw[hb]at h;exact h.elim
   |true=>
    rw[hb]at h;have:=ae hb;subst this;obtain⟨⟨h0,eu⟩,hK⟩:=h;obtain⟨rv,xs,_,jX,ho,hr,bw,_,_⟩:=et hB hj;obtain⟨tK,_⟩:=wg hx;rw[jX]at tK;simp only[Option.some.injEq]at tK;subst tK;rcases dJ ho with⟨_,hz,_⟩|⟨b,c,hv,_,_⟩
    ·omega
    ·subst hv;refine⟨_, .pointer (some ⟨b,n.toNat*sz+0,none⟩),hK,?_, .v (.c (.le jX))⟩;rw[run_indexAt_slice hu eZ h0 eu,eW,Nat.zero_add,Nat.add_zero]
  ·exact h.elim
 ·rename_i j sz off len;cases hb:Nat.beq sz dw with
  |false=>rw[hb]at h;exact h.elim
  |true=>
   rw[hb]at h;have:=ae hb;subst this;obtain⟨⟨h0,eu⟩,hK⟩:=h;obtain⟨b,m,c,c',hρ,rfl,h1,h2,h3⟩:=Wv hx;refine⟨_, .pointer (some ⟨b,(off+n.toNat)*sz+0,none⟩),hK,?_, .v (.c (.le hρ))⟩;rw[run_indexAt_slice hu eZ h0 eu,eW,Nat.add_zero,Nat.add_mul]
 ·exact h.elim
omit hB in
theorem run_indexAt_array{t e sz len:Nat}(hu:P.underlying t=some (.array len e))(gC:(sizeOf e).run P w= .ok sz w){a:Addr}{k:IntKind}{n:Int}(h0:0≤n)(h1:n.toNat<len):
 (Instr.indexAt t (.pointer (some a)) (.int k n)).run P w= .ok (.pointer (some (a.add (n.toNat*sz)))) w:=by
 have:n<len:=by omega
 simp[Instr.indexAt,asIntOf,run_underlying hu,h0,this,gC,Instr.sureAddr]
theorem vq(dC:en P tbl){t:Nat}{x ix:SV}{xv iv:Value}{K:SV->Prop}(h:ma tbl t x ix H K)(hx:bJ ρ w ok x xv)(hi:bJ ρ w ok ix iv):
 ∃sv v,K sv/\(Instr.indexAt t xv iv).run P w= .ok v w/\bJ ρ w ok sv v:=by
 unfold ma at h;split at h
 ·rename_i j off;split at h
  case h_2=>exact h.elim
  rename_i i k n Vg si;have hk:=dC _ _ Vg;have:=qv si hi;subst this;split at h
  case h_2=>exact h.elim
  rename_i ll dw len mT;obtain⟨hu,inf,kX,gC⟩:=hk.arr _ _ _ mT;have eZ:(sizeOf ll).run P w= .ok dw w:=by simp[sizeOf,typeInfo,kX,gC]
  obtain⟨⟨h0,h1⟩,hK⟩:=h;obtain⟨b,hρ,rfl⟩:=uD hx;exact⟨_,_,hK,by rw[run_indexAt_array hu eZ h0 h1,eW], .v (.c (.lp hρ))⟩
 ·rename_i j sz idx off;split at h
  case h_2=>exact h.elim
  rename_i i k n Vg si;have hk:=dC _ _ Vg;have:=qv si hi;subst this;split at h
  case h_2=>exact h.elim
  rename_i ll dw len mT;obtain⟨hu,inf,kX,gC⟩:=hk.arr _ _ _ mT;have eZ:(sizeOf ll).run P w= .ok dw w:=by simp[sizeOf,typeInfo,kX,gC]
  obtain⟨⟨h0,h1⟩,hK⟩:=h;obtain⟨b,m,c,hρ,rfl⟩:=Nh hx;refine⟨_,_,hK,by rw[run_indexAt_array hu eZ h0 h1,eW],?_⟩;rw[Nat.add_assoc];exact .v (.c (.le hρ))
 ·rename_i sz cs;split at h
  case h_2=>exact h.elim
  rename_i i k n Vg si;have hk:=dC _ _ Vg;have:=qv si hi;subst this;split at h
  case h_2=>exact h.elim
  rename_i ll dw len mT;obtain⟨hu,inf,kX,gC⟩:=hk.arr _ _ _ mT;have eZ:(sizeOf ll).run P w= .ok dw w:=by simp[sizeOf,typeInfo,kX,gC]
  obtain⟨⟨h0,h1⟩,hK⟩:=h;have hd:=b9.jM hx;cases hd with
  |rp hl bw hs jH ht=>
   cases ht;exact⟨_,_,hK,run_indexAt_array hu eZ h0 h1,eD (.rp (by simp[hl]) (gI bw _) (rm _ _ hs) (EI jH _) .nil)⟩
 ·exact wC hB dC h hx hi
omit hB in
theorem rI{a b:IntKind}(h:Ma a b=true):a=b:=by cases a<;>cases b<;>first|rfl|cases h
omit hB in
theorem Arith.use{k:IntKind}{z:Int}{K:Int->Prop}(h:Arith k z K):K (k.wrap z):=by
 cases h with
 |fit h hk=>rw[h];exact hk
 |wrap hk=>exact hk
omit hB in
theorem tX{op:BinOp}{k k':IntKind}{a b:Int}{t:Nat}{K:SV->Prop}(h:NI op k a b K)(N6:k=k'\/op= .shl\/op= .shr):
 ∃sv v,K sv/\(binOp op t (.int k a) (.int k' b)).run P w= .ok v w/\bJ ρ w ok sv v:=by
 unfold NI at h;cases op<;>simp only at h
 case add=>obtain rfl:=N6.resolve_right (by simp);exact⟨_,_,h.use,by simp[binOp,Op.intArith],Ec⟩
 case sub=>obtain rfl:=N6.resolve_right (by simp);exact⟨_,_,h.use,by simp[binOp,Op.intArith],Ec⟩
 case mul=>obtain rfl:=N6.resolve_right (by simp);exact⟨_,_,h.use,by simp[binOp,Op.intArith],Ec⟩
 case quo=>obtain rfl:=N6.resolve_right (by simp);obtain⟨h0,h⟩:=h;exact⟨_,_,h.use,by simp[binOp,Op.intDiv,h0],Ec⟩
 case rem=>obtain rfl:=N6.resolve_right (by simp);obtain⟨h0,h⟩:=h;exact⟨_,_,h,by simp[binOp,Op.intDiv,h0],Ec⟩
 case eql=>obtain rfl:=N6.resolve_right (by simp);exact⟨_,_,h,by simp[binOp,Op.intCmp],IF⟩
 case neq=>obtain rfl:=N6.resolve_right (by simp);exact⟨_,_,h,by simp[binOp,Op.intCmp],IF⟩
 case lss=>obtain rfl:=N6.resolve_right (by simp);exact⟨_,_,h,by simp[binOp,Op.intCmp],IF⟩
 case leq=>obtain rfl:=N6.resolve_right (by simp);exact⟨_,_,h,by simp[binOp,Op.intCmp],IF⟩
 case gtr=>obtain rfl:=N6.resolve_right (by simp);exact⟨_,_,h,by simp[binOp,Op.intCmp],IF⟩
 case geq=>obtain rfl:=N6.resolve_right (by simp);exact⟨_,_,h,by simp[binOp,Op.intCmp],IF⟩
 case shl=>obtain⟨h0,h⟩:=h;exact⟨_,_,h.use,by simp[binOp,Op.shift,show¬b<0 by omega],Ec⟩
 case shr=>obtain⟨h0,h⟩:=h;exact⟨_,_,h,by simp[binOp,Op.shift,show¬b<0 by omega],Ec⟩
 case and=>obtain rfl:=N6.resolve_right (by simp);exact⟨_,_,h,by simp[binOp,Op.intBits],Ec⟩
 all_goals exact h.elim
omit hB in
theorem J5{op:BinOp}{a b:ByteArray}{t:Nat}{K:SV->Prop}(h:Qk op a b K):
 ∃sv v,K sv/\(binOp op t (.string a) (.string b)).run P w= .ok v w/\bJ ρ w ok sv v:=by
 unfold Qk at h;cases op<;>simp only at h
 case add=>
  obtain⟨h0,h⟩:=h;refine⟨_,_,h,?_,KO rfl⟩;simp only[binOp,Op.stringOp];rw[if_neg (by rw[IntKind.max_i64];omega)];rfl
 case eql=>exact⟨_,_,h,by simp[binOp,Op.stringOp],IF⟩
 case neq=>exact⟨_,_,h,by simp[binOp,Op.stringOp],IF⟩
 case lss=>exact⟨_,_,h,by simp[binOp,Op.stringOp],IF⟩
 case geq=>exact⟨_,_,h,by simp[binOp,Op.stringOp],IF⟩
 all_goals exact h.elim
omit hB in
theorem Ji{op:BinOp}{x y:SV}{xv yv:Value}{t:Nat}{xo yo:Operand}{K:SV->Prop}(h:Rg op x y K)(hx:bJ ρ w ok x xv)(hy:bJ ρ w ok y yv):
 ∃sv v,K sv/\(do eqGuard op t xo yo xv yv;binOp op t xv yv).run P w= .ok v w/\bJ ρ w ok sv v:=by
 unfold Rg at h;split at h
 ·rename_i k a k' b ha hb;have e1:=qv ha hx;have e2:=qv hb hy;subst e1 e2;rw[show(eqGuard op t xo yo (.int k a) (.int k' b))=pure () by cases op<;>rfl];simp only[pure_bind];cases op<;>simp only at h
  case shl=>exact tX h (.inr (.inl rfl))
  case shr=>exact tX h (.inr (.inr rfl))
  all_goals
   cases hb:Ma k k' with
   |false=>rw[hb]at h;exact h.elim
   |true=>rw[hb]at h;exact tX h (.inl (rI hb))
 ·split at h
  ·rename_i a b ha hb;have e1:=yZ ha hx;have e2:=yZ hb hy;subst e1 e2;rw[show(eqGuard op t xo yo (.string a) (.string b))=pure () by cases op<;>rfl];simp only[pure_bind];exact J5 h
  ·exact h.elim
omit hB in
theorem Fv{op:BinOp}{x y:SV}{xv yv:Value}{t:Nat}{xo yo:Operand}{K:SV->Prop}(hu:P.underlying t=some .bool)(h:G1 op x y K)(hx:bJ ρ w ok x xv)(hy:bJ ρ w ok y yv):
 ∃sv v,K sv/\(do eqGuard op t xo yo xv yv;binOp op t xv yv).run P w= .ok v w/\bJ ρ w ok sv v:=by
 unfold G1 at h;split at h
 ·rename_i a b ha hb;have e1:=vf ha hx;have e2:=vf hb hy;subst e1 e2;rw[show(eqGuard op t xo yo (.bool a) (.bool b))=pure () by cases op<;>rfl];simp only[pure_bind];cases op<;>simp only at h
  case eql=>exact⟨_,_,h,by simp only[binOp];simp[Op.equal,Op.maxDepth,run_equalIn_bool' w 9999 t a b hu],IF⟩
  case neq=>exact⟨_,_,h,by simp only[binOp];simp[Op.equal,Op.maxDepth,run_equalIn_bool' w 9999 t a b hu],IF⟩
  all_goals exact h.elim
 ·exact h.elim
omit hB in
theorem MB{op:UnOp}{x:SV}{xv:Value}{K:SV->Prop}(h:Zv op x K)(hx:bJ ρ w ok x xv):
 ∃sv v,K sv/\(Op.unary op xv).run P w= .ok v w/\bJ ρ w ok sv v:=by
 unfold Zv at h;split at h
 ·split at h
  ·have:=vf (s:= .c (.cb _)) rfl hx;subst this;exact⟨_,_,h,rfl,eD (.cb .nil)⟩
  ·have:=vf (s:= .c (.val (.bool _))) rfl hx;subst this;exact⟨_,_,h,rfl,IF⟩
  ·exact h.elim
 ·split at h
  ·rename_i k n hn;have:=qv hn hx;subst this;exact⟨_,_,h.use,by simp[Op.unary,Op.intArith],Ec⟩
  ·exact h.elim
 ·exact h.elim
omit hB in
theorem Hg{c a b:SV}{cv av bv:Value}{K:SV->Prop}(h:GI c a b K)(hc:bJ ρ w ok c cv)(ha:bJ ρ w ok a av)(hb:bJ ρ w ok b bv):
 ∃sv v,K sv/\((do pure (Next.value (if<-asBool cv then av else bv))):Sem Next).run P w= .ok (.value v) w/\bJ ρ w ok sv v:=by
 unfold GI at h;split at h
 ·have:=vf (s:= .c (.cb _)) rfl hc;subst this;exact⟨_,_,h,by simp[asBool],ha⟩
 ·have:=vf (s:= .c (.cb _)) rfl hc;subst this;exact⟨_,_,h,by simp[asBool],hb⟩
 ·have:=vf (s:= .c (.val (.bool _))) rfl hc;subst this;split at h
  ·rename_i x y hx hy;have e1:=vf hx ha;have e2:=vf hy hb;subst e1 e2;exact⟨_,_,h,by simp[asBool],IF⟩
  ·exact h.elim
 ·exact h.elim
omit hB in
theorem zd{x:SV}{xv:Value}{i:Nat}{K:SV->Prop}(h:rM x i K)(hx:bJ ρ w ok x xv):
 ∃sv v,K sv/\(Instr.extract xv i).run P w= .ok v w/\bJ ρ w ok sv v:=by
 unfold rM at h;split at h
 ·rename_i vs;split at h
  ·rename_i v hv;cases hx with
   |v h=>cases h with|c h=>cases h
   |tup hl hh=>
    rename_i us;have eu:i<us.length:=by rw[<-hl];exact(List.getElem?_eq_some_iff.1 hv).1
    have hu:us[i]? =some us[i]:=List.getElem?_eq_getElem eu;exact⟨_,_,h,by simp[Instr.extract,hu], .v (hh _ _ _ hv hu)⟩
  ·exact h.elim
 ·exact h.elim
omit hB in
theorem HD{op:BinOp}{x y:SV}{xv yv:Value}{t:Nat}{i:iZ}{xo yo:Operand}{K:SV->Prop}(hk:vM P t i)(he:i.T4=true)(h:Fk op x y K)(hx:bJ ρ w ok x xv)(hy:bJ ρ w ok y yv):
 ∃sv v,K sv/\(do eqGuard op t xo yo xv yv;binOp op t xv yv).run P w= .ok v w/\bJ ρ w ok sv v:=by
 unfold Fk at h;split at h
 ·rename_i n k a k' b n' k1 c k1' d;have form:∀{n:Nat} {k k':IntKind} {a b:Int} {v:Value},bJ ρ w ok (.a n [.val (.int k a), .val (.int k' b)]) v->v= .agg #[.int k a, .int k' b]:=by
   intro n k k' a b v hv;cases hv with
   |v h=>cases h with
    |c h=>cases h
    |a hl h=>cases h with|val _ h=>cases h with|val _ h=>cases h with|nil=>rfl
  rw[form hx,form hy];cases hb:(Ma k k1&&Ma k' k1')with
  |false=>rw[hb]at h;exact h.elim
  |true=>
   rw[hb]at h;simp only[ab]at hb;have e1:=rI hb.1;have e2:=rI hb.2;subst e1 e2;obtain⟨h1,h2⟩:=hk.T4 he xo yo a b c d k k' w;simp only[cond]at h;cases op<;>simp only at h
   case eql=>exact⟨_,_,h,h1,IF⟩
   case neq=>exact⟨_,_,h,h2,IF⟩
   all_goals exact h.elim
 ·exact h.elim
omit hB in
theorem Bi(dC:en P tbl){op:BinOp}{x y:SV}{xv yv:Value}{t:Nat}{xo yo:Operand}{K:SV->Prop}(h:uR tbl op t x y K)(hx:bJ ρ w ok x xv)(hy:bJ ρ w ok y yv):
 ∃sv v,K sv/\(do eqGuard op t xo yo xv yv;binOp op t xv yv).run P w= .ok v w/\bJ ρ w ok sv v:=by
 unfold uR at h;split at h
 ·split at h
  ·rename_i i hi;cases hb:i.Ws with
   |false=>rw[hb]at h;exact h.elim
   |true=>rw[hb]at h;exact Fv ((dC _ _ hi).Ws hb) h hx hy
  ·exact h.elim
 ·split at h
  ·rename_i i hi;cases hb:i.T4 with
   |false=>rw[hb]at h;exact h.elim
   |true=>rw[hb]at h;exact HD (dC _ _ hi) hb h hx hy
  ·exact h.elim
 ·exact Ji h hx hy
omit hB in
theorem Hq(dC:en P tbl){src dst:Nat}{x:SV}{xv:Value}{K:SV->Prop}(qE:(tbl.find src).any (fun i=>i.ik.isSome)=true)(h:HI tbl dst x K)(hx:bJ ρ w ok x xv):
 ∃sv v,K sv/\(convert src dst xv).run P w= .ok v w/\bJ ρ w ok sv v:=by
 unfold HI at h;split at h
 ·rename_i i k n hi hn;have:=qv hn hx;subst this;split at h
  ·rename_i k' sY;have hu:=(dC _ _ hi).ik _ sY;cases hs:tbl.find src with
   |none=>simp[hs]at qE
   |some j=>
    simp[hs]at qE;obtain⟨q,hq⟩:=Option.isSome_iff_exists.1 qE;have hus:=(dC _ _ hs).ik _ hq;exact⟨_,_,h.use,by simp[convert,run_underlying hu,run_underlying hus,Conv.intToInt],Ec⟩
  ·exact h.elim
 ·exact h.elim
omit hB in
theorem TE{sz:Nat}{rows:List (List CV)}{v:Value}(h:bJ ρ w ok (.c (.ro sz rows)) v):∃a n c xs,v= .slice a n c/\rows.length=n/\n≤c/\c≤maxLen/\(∀r∈rows,r.length=sz)/\Den w ok rows.flatten xs []/\Rd w ok a xs:=by
 have hd:=b9.jM h;cases hd with
 |ro hn hc hm hr bw jH ht=>cases ht;exact⟨_,_,_,_,rfl,hn,hc,hm,hr,bw,jH⟩
omit hB in
theorem nw{d:Bool}{p k:Prop}(h:fact d p k)(hp:p):k:=by
 cases d with
 |true=>exact h
 |false=>exact h.k hp
theorem zM(dC:en P tbl){d:Bool}{t TI:Nat}{x:SV}{xv:Value}{K:SV->Prop}(ht:(∃i e,tbl.find t=some i/\i.elem=some e)\/(P.underlying t=some .string))(h:Mg d x H K)(hx:bJ ρ w ok x xv)
 (Yp:P.underlying t=some .string↔(u7 x).isSome=true):
 ∃sv v,K sv/\(Builtin.len_ #[t] TI #[xv]).run P w= .ok v w/\bJ ρ w ok sv v:=by
 have TL:P.underlying t≠some .string-> ∃e,P.underlying t=some (.slice e):=by
  intro jr;rcases ht with⟨i,e,hi,he⟩|hs
  ·obtain⟨e1,e2,e3⟩:=e;exact⟨_,((dC _ _ hi).elem _ _ _ he).1⟩
  ·exact absurd hs jr
 have run:∀{a:Option Addr} {n c:Nat},(u7 x).isSome=false->(Builtin.len_ #[t] TI #[.slice a n c]).run P w= .ok (.int .i64 n) w:=by
  intro a n c hs;obtain⟨e,he⟩:=TL fun hh=>by rw[Yp.1 hh]at hs;cases hs
  simp[Builtin.len_,run_underlying he,goInt]
 unfold Mg at h;split at h
 ·obtain⟨a,n,c,xs,rfl,rfl,hc,hm,_⟩:=TE hx;exact⟨_,_,nw h (by omega),run rfl,Ec⟩
 ·rename_i j;split at h
  ·rename_i o ty sz rows hj;obtain⟨rv,xs,jX,ho,hr,bw,_,_⟩:=jx hB hj;obtain⟨tK,_⟩:=wg hx;rw[jX]at tK;simp only[Option.some.injEq]at tK;subst tK;rcases dJ ho with⟨rfl,hz,_⟩|⟨b,c,rfl,hc,hm⟩
   ·refine⟨_,_,nw h (by rw[hz];simp[maxLen]),?_,Ec⟩;rw[run rfl,hz]
   ·exact⟨_,_,nw h (by omega),run rfl,Ec⟩
  ·rename_i o ty sz rows hj;obtain⟨rv,xs,_,jX,ho,hr,bw,_,_⟩:=et hB hj;obtain⟨tK,_⟩:=wg hx;rw[jX]at tK;simp only[Option.some.injEq]at tK;subst tK;rcases dJ ho with⟨rfl,hz,_⟩|⟨b,c,rfl,hc,hm⟩
   ·refine⟨_,_,nw h (by rw[hz];simp[maxLen]),?_,Ec⟩;rw[run rfl,hz]
   ·exact⟨_,_,nw h (by omega),run rfl,Ec⟩
  ·exact h.elim
 ·obtain⟨b,n,c,c',_,rfl,h1,h2,h3⟩:=Wv hx;exact⟨_,_,nw h (by omega),run rfl,Ec⟩
 ·have:=yZ (s:= .c (.val (.string _))) rfl hx;subst this;have hu:=Yp.2 rfl;exact⟨_,_,h,by simp[Builtin.len_,run_underlying hu,goInt],Ec⟩
 ·have:=fD (b9.jM hx);subst this;exact⟨_,_,h,run rfl,Ec⟩
 ·exact h.elim
def notNil:Value->Prop
 | .pointer none| .nilIface| .nilFunc=>False
 | .func (.method _) _ _=>False
 |_=>True
omit hB in
theorem Kh{x:SV}{xv:Value}{K:SV->Prop}(h:Rv x K)(hx:bJ ρ w ok x xv):
 ∃sv,K sv/\notNil xv/\bJ ρ w ok sv xv:=by
 unfold Rv at h;split at h
 ·have hd:=b9.jM hx;cases hd with|rp hl bw hs jH ht=>exact⟨_,h,trivial,hx⟩
 ·obtain⟨b,_,rfl⟩:=uD hx;exact⟨_,h,trivial,hx⟩
 ·obtain⟨b,_,_,_,rfl⟩:=Nh hx;exact⟨_,h,trivial,hx⟩
 ·cases hx with
  |v hh=>cases hh with
   |c h'=>cases h'
   |clo hl h'=>exact⟨_,h,trivial, .v (.clo hl h')⟩
 ·exact h.elim
omit hB in
theorem D7{t:Nat}{x ix:SV}{xv iv:Value}{K:SV->Prop}(hu:P.underlying t=some .string)(h:Af x ix K)(hx:bJ ρ w ok x xv)(hi:bJ ρ w ok ix iv):
 ∃sv v,K sv/\(Instr.index t xv iv).run P w= .ok v w/\bJ ρ w ok sv v:=by
 unfold Af at h;split at h
 ·rename_i s k n hn;obtain⟨⟨h0,h1⟩,h⟩:=h;have e1:=qv hn hi;have e2:=yZ (s:= .c (.val (.string _))) rfl hx;subst e1 e2;refine⟨_,_,h,?_,Ec⟩;have hs:s[n.toNat]? =some (s.data.toList.getD n.toNat 0):=by
   obtain⟨⟨l⟩⟩:=s;have T5:n.toNat<l.length:=h1;show(if hh:n.toNat<l.length then some _ else none)=_;rw[dif_pos T5];simp[List.getD,List.getElem?_eq_getElem T5];rfl
  simp[Instr.index,asIntOf,run_underlying hu,h0,hs]
 ·exact h.elim
end
end Go.KA
