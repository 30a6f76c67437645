/- Part of a proof engine for functions of the given program: what an operation, a loop and a call compute, symbolically. No conditions. -/
import Derived.Test.YtgbggaddpbghfaaGreatEngB
namespace Go.KA
open Go
section
variable{P:Program}{tbl:TT}{ρ:RM}{w:World}{ok:Nat→Prop}{H:HM}{F:FM}
theorem bG.iJ{x:CV}{v:Value}(h:aZ ρ w ok (.c x) v):Den w ok [x] [v] []:=by
 cases h with
 |v h=>cases h with|c h=>cases h with|c h=>exact h
theorem dU{x:CV}{v:Value}(h:Den w ok [x] [v] []):aZ ρ w ok (.c x) v:= .v (.c (.c h))
theorem eE{x v:Value}(h:Den w ok [.val x] [v] []):v=x:=by
 cases h with|val _ _=>rfl
theorem n8{b:Bool}{v:Value}(h:Den w ok [.cb b] [v] []):v= .bool b:=by
 cases h with|cb _=>rfl
theorem mk_val{x:Value}(h:x.oneCell'=true):Den w ok [.val x] [x] []:= .val h .nil
theorem Gt{x:Value}(h:x.oneCell'=true):aZ ρ w ok (.c (.val x)) x:=dU (mk_val h)
theorem Az{k:IntKind}{n:Int}:aZ ρ w ok (BC k n) (.int k n):=Gt rfl
theorem Em{b:Bool}:aZ ρ w ok (x7 b) (.bool b):=Gt rfl
theorem ou{s:SV}{v:Value}{k:IntKind}{n:Int}(hs:EY s=some (k,n))(h:aZ ρ w ok s v):v= .int k n:=by
 unfold EY at hs
 split at hs
 ·injection hs with hs
  injection hs with h1 h2
  subst h1 h2
  exact eE (bG.iJ h)
 ·cases hs
theorem th{s:SV}{v:Value}{b:Bool}(hs:OJ s=some b)(h:aZ ρ w ok s v):v= .bool b:=by
 unfold OJ at hs
 split at hs
 ·injection hs with hs
  subst hs
  exact n8 (bG.iJ h)
 ·injection hs with hs
  subst hs
  exact eE (bG.iJ h)
 ·cases hs
theorem vI{s:SV}{v:Value}{b:ByteArray}(hs:r7 s=some b)(h:aZ ρ w ok s v):v= .string b:=by
 unfold r7 at hs
 split at hs
 ·injection hs with hs
  subst hs
  exact eE (bG.iJ h)
 ·cases hs
theorem yE{t:Nat}{i:gN}(hk:r6 P t i):(isAgg t).run P w= .ok i.agg w:=by
 obtain⟨d,hu,hd⟩:=hk.agg
 unfold isAgg
 rw[Sem.run_bind,run_underlying hu w]
 cases d<;>simp_all[TypeDesc.isRow]
theorem vi{t:Nat}{i:gN}(hk:r6 P t i):(sizeOf t).run P w= .ok i.size w:=by
 have:=hk.size
 cases hq:P.info? t with
 |none=>simp[hq] at this
 |some j=>simp[hq] at this;simp[sizeOf,typeInfo,hq,this]
def At(w:World)(a:Addr)(xs:List Value):Prop:=∀(j:Nat) x,xs[j]? =some x→w.cell? (a.add j)=some x
theorem jw{t:Nat}{i:gN}(hk:r6 P t i){a:Addr}{xs:List Value}(hl:xs.length=i.size)(h:At w a xs)(hagg:i.agg=true):
 (loadVar t a).run P w= .ok (.agg xs.toArray) w:=by
 unfold loadVar
 rw[Sem.run_bind,yE hk]
 simp only[Result.andThen_ok,hagg,if_true]
 simp[Sem.run_bind,vi hk,←hl,run_loadCells_list (P:=P) w a xs h]
theorem kE{t:Nat}{i:gN}(hk:r6 P t i){a:Addr}{x:Value}(h:w.cell? a=some x)(hagg:i.agg=false):
 (loadVar t a).run P w= .ok x w:=by
 unfold loadVar
 rw[Sem.run_bind,yE hk]
 simp[hagg,h]
theorem j8{a:Addr}{xs:List Value}(h:At w a xs)(n:Nat):At w a (xs.take n):=by
 intro j x hx
 apply h
 rw[List.getElem?_take] at hx
 split at hx
 ·exact hx
 ·cases hx
theorem fV{a:Addr}{xs:List Value}(h:At w a xs)(n:Nat):At w (a.add n) (xs.drop n):=by
 intro j x hx
 rw[add_add]
 apply h
 rwa[List.getElem?_drop] at hx
theorem jm{cs:List CV}{xs:List Value}(h:Den w ok cs xs [])(n:Nat):Den w ok (cs.take n) (xs.take n) []:=by
 refine Den.E3 (by simp[h.length]) fun j a v ha hv=> ?_
 rw[List.getElem?_take] at ha hv
 split at ha
 ·rename_i hlt
  rw[if_pos hlt] at hv
  exact h.get ha hv
 ·cases ha
theorem fG{cs:List CV}{xs:List Value}(h:Den w ok cs xs [])(n:Nat):Den w ok (cs.drop n) (xs.drop n) []:=by
 refine Den.E3 (by simp[h.length]) fun j a v ha hv=> ?_
 rw[List.getElem?_drop] at ha hv
 exact h.get ha hv
theorem lZ{t:Nat}{i:gN}(hk:r6 P t i){a:Addr}{cs:List CV}{xs:List Value}(hd:Den w ok cs xs [])(hat:At w a xs){K:SV→Prop}(h:AR i.agg i.size cs K):
 ∃sv v,K sv∧(loadVar t a).run P w= .ok v w∧aZ ρ w ok sv v:=by
 unfold AR at h
 split at h
 ·rename_i hagg
  cases hb:Nat.beq (cs.take i.size).length i.size with
  |false=>rw[hb] at h;exact h.elim
  |true=>
   rw[hb] at h
   have hlen:(xs.take i.size).length=i.size:=by
        rw[←(jm hd i.size).length]
        exact Nat.eq_of_beq_eq_true hb
   exact⟨_,_,h,jw hk hlen (j8 hat _) hagg, .v (.a (by simpa using Nat.eq_of_beq_eq_true hb) (jm hd _))⟩
 ·rename_i hagg
  cases cs with
  |nil=>exact h.elim
  |cons c cs=>
   cases xs with
   |nil=>exact absurd hd.length (by simp)
   |cons x xs=>
    have h0:=hat 0 x rfl
    rw[Addr.add_zero'] at h0
    exact⟨_,_,h,kE hk h0 hagg,dU (hd.get (j:=0) rfl rfl)⟩
theorem nW{t:Nat}{i:gN}(hk:r6 P t i)(hagg:i.agg=true){a:Addr}{n:Nat}{cs:List CV}{xs:List Value}(hn:cs.length=n)(hd:Den w ok cs xs [])(hl:xs.length=i.size)(hat:At w a xs):
 ∃v,(loadVar t a).run P w= .ok v w∧aZ ρ w ok (.a n cs) v:=
 ⟨_,jw hk hl hat hagg, .v (.a hn hd)⟩
theorem fc{α:Type}{sz:Nat}:∀{rows:List (List α)} {idx:Nat} {r:List α},(∀r∈rows,r.length=sz)→rows[idx]? =some r→(rows.flatten.drop (idx*sz)).take sz=r
 |[],_,_,_,h=>by simp at h
 |r0::rows,0,r,hr,h=>by
  simp at h
  subst h
  have:=hr r0 (by simp)
  simp[this]
 |r0::rows,idx+1,r,hr,h=>by
  have h0:=hr r0 (by simp)
  have ih:=fc (rows:=rows) (idx:=idx) (r:=r) (fun x hx=>hr x (by simp[hx])) (by simpa using h)
  rw[List.flatten_cons,Nat.succ_mul,Nat.add_comm,List.drop_append,h0]
  rw[List.drop_of_length_le (by omega)]
  simpa using ih
theorem eG{α:Type}{sz:Nat}:∀{rows:List (List α)},(∀r∈rows,r.length=sz)→rows.flatten.length=rows.length*sz
 |[],_=>by simp
 |r::rows,h=>by
  have h0:=h r (by simp)
  have ih:=eG (rows:=rows) fun x hx=>h x (by simp[hx])
  simp only[List.flatten_cons,List.length_append,List.length_cons,ih,h0,Nat.succ_mul]
  omega
theorem Gn{sz idx:Nat}{rows:List (List CV)}{r:List CV}{xs:List Value}(h:Den w ok rows.flatten xs [])(hr:∀r∈rows,r.length=sz)(hi:rows[idx]? =some r):
 Den w ok r ((xs.drop (idx*sz)).take sz) []:=by
 have:=jm (fG h (idx*sz)) sz
 rwa[fc hr hi] at this
theorem Pk{a:Addr}{xs:List Value}(h:Rd w ok (some a) xs):At w a xs:=by
 intro j x hx
 obtain⟨ad,e,_,_,hc⟩:=h j x hx
 injection e with e
 subst e
 exact hc
theorem A3{a:Addr}{xs:List Value}(h:Rd w ok (some a) xs)(n:Nat):Rd w ok (some (a.add n)) (xs.drop n):=by
 intro j x hx
 rw[List.getElem?_drop] at hx
 obtain⟨ad,e,hs,hb,hc⟩:=h _ x hx
 injection e with e
 subst e
 exact⟨_,rfl,pQ _ _ hs,by rw[uj];exact hb,by rw[add_add];exact hc⟩
theorem Nk{a:Option Addr}{xs:List Value}(h:Rd w ok a xs)(n:Nat):Rd w ok a (xs.take n):=by
 intro j x hx
 rw[List.getElem?_take] at hx
 split at hx
 ·exact h j x hx
 ·cases hx
theorem aZ.vc{a:SV}{v:Value}(h:aZ ρ w ok a v)(h1:a≠ .any)(h2:∀vs,a≠ .tup vs):dZ ρ w ok a v:=by
 cases h with
 |any=>exact absurd rfl h1
 |v h=>exact h
 |tup _ _=>exact absurd rfl (h2 _)
theorem sW{i off:Nat}{v:Value}(h:aZ ρ w ok (.lp i off) v):∃b,ρ i=some (.pointer (some ⟨b,0,none⟩))∧v= .pointer (some ⟨b,off,none⟩):=by
 cases h with
 |v h=>cases h with|c h=>cases h with|lp h=>exact⟨_,h,rfl⟩
theorem Ho{i sz idx off:Nat}{v:Value}(h:aZ ρ w ok (.le i sz idx off) v):∃b n c,ρ i=some (.slice (some ⟨b,0,none⟩) n c)∧v= .pointer (some ⟨b,idx*sz+off,none⟩):=by
 cases h with
 |v h=>cases h with|c h=>cases h with|le h=>exact⟨_,_,_,h,rfl⟩
theorem tq{i:Nat}{v:Value}(h:aZ ρ w ok (.lw i) v):ρ i=some v∧∃a n c,v= .slice a n c:=by
 cases h with
 |v h=>cases h with|c h=>cases h with|lw h=>exact⟨h,_,_,_,rfl⟩
theorem Ol{i sz off len:Nat}{v:Value}(h:aZ ρ w ok (.ls i sz off len) v):∃b n c c',ρ i=some (.slice (some ⟨b,0,none⟩) n c)∧v= .slice (some ⟨b,off*sz,none⟩) len c'∧off+len≤n∧len≤c'∧c'≤maxLen:=by
 cases h with
 |v h=>cases h with|c h=>cases h with|ls h h1 h2 h3 _=>exact⟨_,_,_,_,h,rfl,h1,h2,h3⟩
theorem jv{ty sz n:Nat}{v:Value}{xs:List Value}(ho:w.ownsRow 0 ty sz v n xs){b m c:Nat}(hv:v= .slice (some ⟨b,0,none⟩) m c):At w ⟨b,0,none⟩ xs∧m=n∧n≤c∧c≤maxLen:=by
 obtain⟨hl,h|⟨g,cap,cur,hv',_,hh,hc,hm,hsz,htk⟩⟩:=ho
 ·rw[hv] at h
  exact absurd h.1 (by simp)
 ·rw[hv] at hv'
  injection hv' with h1 h2 h3
  injection h1 with h1
  injection h1 with h1 _
  subst h1 h2 h3
  refine⟨fun j x hx=> ?_,rfl,hc,hm⟩
  rw[eh]
  have hj:j<xs.length:=(List.getElem?_eq_some_iff.1 hx).1
  rw[←htk,List.getElem?_take] at hx
  split at hx
  ·simp only[World.cell?,hh,Nat.zero_add]
   simpa using hx
  ·cases hx
theorem di{ty sz n:Nat}{v:Value}{xs:List Value}(ho:w.ownsRow 0 ty sz v n xs):(v= .slice none 0 0∧n=0∧xs=[])∨∃b c,v= .slice (some ⟨b,0,none⟩) n c∧n≤c∧c≤maxLen:=by
 obtain⟨hl,h|⟨g,cap,cur,hv',_,hh,hc,hm,hsz,htk⟩⟩:=ho
 ·left
  obtain⟨h1,h2⟩:=h
  subst h2
  exact⟨h1,rfl,List.eq_nil_of_length_eq_zero (by simpa using hl)⟩
 ·right
  exact⟨g,cap,hv',hc,hm⟩
variable(hB:∀i,H i= .dead∨dd ρ w ok (H i) (ρ i) (F i))
include hB
theorem MT{j:Nat}(h:H j≠ .dead):dd ρ w ok (H j) (ρ j) (F j):=(hB j).resolve_left h
theorem DT{j sz:Nat}{cs:List CV}(h:H j= .cc sz cs):∃(b:Nat) (ty:Nat) (arr:Array Value),ρ j=some (.pointer (some ⟨b,0,none⟩))∧w.heap[b]? =some (.cells arr ty (0,0))∧cs.length=sz∧Den w ok cs arr.toList []∧F j=[b]:=by
 have:=MT hB (j:=j) (by rw[h];simp)
 rw[h] at this
 generalize F j=f,ρ j=r at this
 cases this with
 |cc hb hl h=>exact⟨_,_,_,rfl,hb,hl,h,rfl⟩
theorem kI{j:Nat}{cs:List SV}(h:H j= .cells cs):∃(b:Nat) (ty:Nat) (arr:Array Value),ρ j=some (.pointer (some ⟨b,0,none⟩))∧w.heap[b]? =some (.cells arr ty (0,0))∧cs.length=arr.toList.length∧(∀(j:Nat) a v,cs[j]? =some a→arr.toList[j]? =some v→bG ρ w ok a v)∧F j=[b]:=by
 have:=MT hB (j:=j) (by rw[h];simp)
 rw[h] at this
 generalize F j=f,hr:ρ j=r at this
 cases this with
 |cells hb hl h=>exact⟨_,_,_,rfl,hb,hl,h,rfl⟩
theorem ir{j ty sz:Nat}{o:Option Value}{rows:List (List CV)}(h:H j= .row o ty sz rows):∃v xs,ρ j=some v∧w.ownsRow 0 ty sz v rows.length xs∧(∀r∈rows,r.length=sz)∧Den w ok rows.flatten xs []∧F j=v.ownBlock.toList∧∀u,o=some u→v=u:=by
 have:=MT hB (j:=j) (by rw[h];simp)
 rw[h] at this
 generalize F j=f,ρ j=r at this
 cases this with
 |row ho hr hin hv=>exact⟨_,_,rfl,ho,hr,hin,rfl,hv⟩
theorem dN{j ty sz:Nat}{o:Option Value}{rows:List (List CV)}(h:H j= .aG o ty sz rows):∃v xs f,ρ j=some v∧w.ownsRow 0 ty sz v rows.length xs∧(∀r∈rows,r.length=sz)∧Den w ok rows.flatten xs f∧F j=v.ownBlock.toList++f∧∀u,o=some u→v=u:=by
 have:=MT hB (j:=j) (by rw[h];simp)
 rw[h] at this
 generalize F j=f,ρ j=r at this
 cases this with
 |aG ho hr hin hv=>exact⟨_,_,_,rfl,ho,hr,hin,rfl,hv⟩
omit hB in
theorem tD{b ty:Nat}{arr:Array Value}(hb:w.heap[b]? =some (.cells arr ty (0,0))):At w ⟨b,0,none⟩ arr.toList:=by
 intro j x hx
 rw[eh]
 simp only[World.cell?,hb]
 simpa using hx
omit hB in
theorem EX{t:Nat}{i:gN}(hk:r6 P t i){a:Addr}{cs:List SV}{xs:List Value}(hl:cs.length=xs.length)(hd:∀(j:Nat) a v,cs[j]? =some a→xs[j]? =some v→bG ρ w ok a v)(hat:At w a xs){K:SV→Prop}(h:Lg i.agg i.size cs K):
 ∃sv v,K sv∧(loadVar t a).run P w= .ok v w∧aZ ρ w ok sv v:=by
 unfold Lg at h
 split at h
 ·rename_i hagg
  cases hb:Nat.beq (cs.take i.size).length i.size with
  |false=>rw[hb] at h;exact h.elim
  |true=>
   rw[hb] at h
   have hlen:(xs.take i.size).length=i.size:=by
        have:=Nat.eq_of_beq_eq_true hb
        simp only[List.length_take] at this⊢
        omega
   refine⟨_,_,h,jw hk hlen (j8 hat _) hagg, .v (.m (by simp[hl]) fun j a v ha hv=> ?_)⟩
   rw[List.getElem?_take] at ha hv
   split at ha
   ·rename_i hlt
    rw[if_pos hlt] at hv
    exact hd j a v ha hv
   ·cases ha
 ·rename_i hagg
  cases cs with
  |nil=>exact h.elim
  |cons c cs=>
   cases xs with
   |nil=>simp at hl
   |cons x xs=>
    have h0:=hat 0 x rfl
    rw[Addr.add_zero'] at h0
    exact⟨_,_,h,kE hk h0 hagg, .v (.c (hd 0 _ _ rfl rfl))⟩
omit hB in
theorem xU{w:World}{ok:Nat→Prop}{cs:List CV}{vs:List Value}{f:List Nat}(h:Den w ok cs vs f)(hp:cs.all gU=true):Den w ok cs vs []:=by
 induction h with
 |nil=>exact .nil
 |any h1 _ ih=>exact .any h1 (ih (by simpa[gU] using hp))
 |val h1 _ ih=>exact .val h1 (ih (by simpa[gU] using hp))
 |cb _ ih=>exact .cb (ih (by simpa[gU] using hp))
 |ro hn hc hm hr hin hrd _ _ ih=>exact .ro hn hc hm hr hin hrd (ih (by simpa[gU] using hp))
 |rp hl hin hs hrd _ _ ih=>exact .rp hl hin hs hrd (ih (by simpa[gU] using hp))
 |own _ _ _ _ _ _=>simp[gU] at hp
 |ows _ _ _ _ _ _=>simp[gU] at hp
 |eW _ _ _ _ _ _=>simp[gU] at hp
 |op _ _ _ _ _=>simp[gU] at hp
 |iu _ _ _ _ _=>simp[gU] at hp
omit hB in
theorem zW{w:World}{ok:Nat→Prop}{cs:List CV}{vs:List Value}{f:List Nat}(h:Den w ok cs vs f):∀n,∃f',Den w ok (cs.take n) (vs.take n) f':=by
 induction h with
 |nil=>intro n;exact⟨[],by simpa using Den.nil⟩
 |any h1 _ ih=>
  intro n
  cases n with
  |zero=>exact⟨[],by simpa using Den.nil⟩
  |succ n=>obtain⟨f',h⟩:=ih n;exact⟨f', .any h1 h⟩
 |val h1 _ ih=>
  intro n
  cases n with
  |zero=>exact⟨[],by simpa using Den.nil⟩
  |succ n=>obtain⟨f',h⟩:=ih n;exact⟨f', .val h1 h⟩
 |cb _ ih=>
  intro n
  cases n with
  |zero=>exact⟨[],by simpa using Den.nil⟩
  |succ n=>obtain⟨f',h⟩:=ih n;exact⟨f', .cb h⟩
 |ro hn hc hm hr hin hrd _ _ ih=>
  intro n
  cases n with
  |zero=>exact⟨[],by simpa using Den.nil⟩
  |succ n=>obtain⟨f',h⟩:=ih n;exact⟨f', .ro hn hc hm hr hin hrd h⟩
 |rp hl hin hs hrd _ _ ih=>
  intro n
  cases n with
  |zero=>exact⟨[],by simpa using Den.nil⟩
  |succ n=>obtain⟨f',h⟩:=ih n;exact⟨f', .rp hl hin hs hrd h⟩
 |own hin hr ho _ _ ih=>
  intro n
  cases n with
  |zero=>exact⟨[],by simpa using Den.nil⟩
  |succ n=>obtain⟨f',h⟩:=ih n;exact⟨_, .own hin hr ho h⟩
 |ows hin hr ho _ _ ih=>
  intro n
  cases n with
  |zero=>exact⟨[],by simpa using Den.nil⟩
  |succ n=>obtain⟨f',h⟩:=ih n;exact⟨_, .ows hin hr ho h⟩
 |eW hin hr ho _ _ ih=>
  intro n
  cases n with
  |zero=>exact⟨[],by simpa using Den.nil⟩
  |succ n=>obtain⟨f',h⟩:=ih n;exact⟨_, .eW hin hr ho h⟩
 |op hb hin _ _ ih=>
  intro n
  cases n with
  |zero=>exact⟨[],by simpa using Den.nil⟩
  |succ n=>obtain⟨f',h⟩:=ih n;exact⟨_, .op hb hin h⟩
 |iu hp hb ho _ ih=>
  intro n
  cases n with
  |zero=>exact⟨[],by simpa using Den.nil⟩
  |succ n=>obtain⟨f',h⟩:=ih n;exact⟨_, .iu hp hb ho h⟩
omit hB in
theorem zp{w:World}{ok:Nat→Prop}{cs:List CV}{vs:List Value}{f:List Nat}(h:Den w ok cs vs f):∀n,∃f',Den w ok (cs.drop n) (vs.drop n) f':=by
 induction h with
 |nil=>intro n;exact⟨[],by simpa using Den.nil⟩
 |any h1 ht ih=>
  intro n
  cases n with
  |zero=>exact⟨_, .any h1 ht⟩
  |succ n=>exact ih n
 |val h1 ht ih=>
  intro n
  cases n with
  |zero=>exact⟨_, .val h1 ht⟩
  |succ n=>exact ih n
 |cb ht ih=>
  intro n
  cases n with
  |zero=>exact⟨_, .cb ht⟩
  |succ n=>exact ih n
 |ro hn hc hm hr hin hrd ht _ ih=>
  intro n
  cases n with
  |zero=>exact⟨_, .ro hn hc hm hr hin hrd ht⟩
  |succ n=>exact ih n
 |rp hl hin hs hrd ht _ ih=>
  intro n
  cases n with
  |zero=>exact⟨_, .rp hl hin hs hrd ht⟩
  |succ n=>exact ih n
 |own hin hr ho ht _ ih=>
  intro n
  cases n with
  |zero=>exact⟨_, .own hin hr ho ht⟩
  |succ n=>exact ih n
 |ows hin hr ho ht _ ih=>
  intro n
  cases n with
  |zero=>exact⟨_, .ows hin hr ho ht⟩
  |succ n=>exact ih n
 |eW hin hr ho ht _ ih=>
  intro n
  cases n with
  |zero=>exact⟨_, .eW hin hr ho ht⟩
  |succ n=>exact ih n
 |op hb hin ht _ ih=>
  intro n
  cases n with
  |zero=>exact⟨_, .op hb hin ht⟩
  |succ n=>exact ih n
 |iu hp hb ho ht ih=>
  intro n
  cases n with
  |zero=>exact⟨_, .iu hp hb ho ht⟩
  |succ n=>exact ih n
theorem mj(da:dM P tbl){t:Nat}{p:SV}{pv:Value}{K:SV→Prop}(h:vl tbl t p H K)(hp:aZ ρ w ok p pv):
 ∃sv v,K sv∧(Instr.loadAt t pv).run P w= .ok v w∧aZ ρ w ok sv v:=by
 unfold vl at h
 split at h
 ·exact h.elim
 rename_i i hi
 have hk:=da _ _ hi
 have key:∀{a:Addr} {sv:SV} {v:Value},K sv→(loadVar t a).run P w= .ok v w→aZ ρ w ok sv v→∃sv v,K sv∧(Instr.loadAt t (.pointer (some a))).run P w= .ok v w∧aZ ρ w ok sv v:=fun hK hr hT=>
  ⟨_,_,hK,by simp[Instr.loadAt,Instr.sureAddr,hr],hT⟩
 split at h
 ·
  rename_i sz cs
  have hd:=bG.iJ hp
  cases hd with
  |rp hl hin hs hrd ht=>
   cases ht
   have hat:=Pk hrd
   cases hb:(i.agg&&Nat.beq sz i.size) with
   |true=>
    rw[hb] at h
    simp only[Bool.and_eq_true] at hb
    have hsz:=Nat.eq_of_beq_eq_true hb.2
    obtain⟨v,hr,hT⟩:=nW (ρ:=ρ) hk hb.1 hl hin (by rw[←hin.length];omega) hat
    exact key h hr hT
   |false=>
    rw[hb] at h
    obtain⟨sv,v,hK,hr,hT⟩:=lZ (ρ:=ρ) hk hin hat h
    exact key hK hr hT
 ·
  rename_i j off
  obtain⟨b,hρ,rfl⟩:=sW hp
  split at h
  ·rename_i sz cs hj
   obtain⟨b',ty,arr,hρ',hh,hl,hin,_⟩:=DT hB hj
   rw[hρ] at hρ'
   simp only[Option.some.injEq,Value.pointer.injEq,Addr.mk.injEq,and_true] at hρ'
   subst hρ'
   have hat:=tD hh
   cases hb:(i.agg&&(Nat.beq sz i.size&&Nat.beq off 0)) with
   |true=>
    rw[hb] at h
    simp only[Bool.and_eq_true] at hb
    have hsz:=Nat.eq_of_beq_eq_true hb.2.1
    have ho:=Nat.eq_of_beq_eq_true hb.2.2
    subst ho
    obtain⟨v,hr,hT⟩:=nW (ρ:=ρ) hk hb.1 hl hin (by rw[←hin.length];omega) hat
    exact key h hr hT
   |false=>
    rw[hb] at h
    have hat':=fV hat off
    rw[eh,Nat.zero_add] at hat'
    obtain⟨sv,v,hK,hr,hT⟩:=lZ (ρ:=ρ) hk (fG hin off) hat' h
    exact key hK hr hT
  ·rename_i cs hj
   obtain⟨b',ty,arr,hρ',hh,hl,hin,_⟩:=kI hB hj
   rw[hρ] at hρ'
   simp only[Option.some.injEq,Value.pointer.injEq,Addr.mk.injEq,and_true] at hρ'
   subst hρ'
   have hat':=fV (tD hh) off
   rw[eh,Nat.zero_add] at hat'
   obtain⟨sv,v,hK,hr,hT⟩:=EX hk (by simp[hl]) (fun j a v ha hv=>by
        rw[List.getElem?_drop] at ha hv
        exact hin _ a v ha hv) hat' h
   exact key hK hr hT
  ·exact h.elim
 ·
  rename_i j sz idx off
  obtain⟨b,n,c,hρ,rfl⟩:=Ho hp
  split at h
  ·rename_i o ty' sz' rows hj
   obtain⟨rv,xs,hrv,ho,hr,hin,_,_⟩:=ir hB hj
   rw[hρ] at hrv
   simp only[Option.some.injEq] at hrv
   subst hrv
   cases hb:Nat.beq sz sz' with
   |false=>rw[hb] at h;exact h.elim
   |true=>
    rw[hb] at h
    have:=Nat.eq_of_beq_eq_true hb
    subst this
    obtain⟨r,hx,h⟩:=h
    have hd:=Gn hin hr hx
    have hlen:=hr r (List.mem_of_getElem? hx)
    have hat:=j8 (fV (jv ho rfl).1 (idx*sz)) sz
    rw[eh,Nat.zero_add] at hat
    cases hb:(i.agg&&(Nat.beq sz i.size&&Nat.beq off 0)) with
    |true=>
     rw[hb] at h
     simp only[Bool.and_eq_true] at hb
     have hsz:=Nat.eq_of_beq_eq_true hb.2.1
     have ho:=Nat.eq_of_beq_eq_true hb.2.2
     subst ho
     obtain⟨v,hrn,hT⟩:=nW (ρ:=ρ) hk hb.1 hlen hd (by rw[←hd.length];omega) hat
     exact key h hrn hT
    |false=>
     rw[hb] at h
     have hat':=fV hat off
     rw[eh] at hat'
     obtain⟨sv,v,hK,hrn,hT⟩:=lZ (ρ:=ρ) hk (fG hd off) hat' h
     exact key hK hrn hT
  ·rename_i o ty' sz' rows hj
   obtain⟨rv,xs,f,hrv,ho,hr,hin,_,_⟩:=dN hB hj
   rw[hρ] at hrv
   simp only[Option.some.injEq] at hrv
   subst hrv
   cases hb:Nat.beq sz sz' with
   |false=>rw[hb] at h;exact h.elim
   |true=>
    rw[hb] at h
    have:=Nat.eq_of_beq_eq_true hb
    subst this
    obtain⟨r,hx,h⟩:=h
    obtain⟨f1,d1⟩:=zp hin (idx*sz)
    obtain⟨f2,d2⟩:=zW d1 sz
    rw[fc hr hx] at d2
    obtain⟨f3,d3⟩:=zp d2 off
    obtain⟨f4,d4⟩:=zW d3 (cond i.agg i.size 1)
    have hat:=j8 (fV (j8 (fV (jv ho rfl).1 (idx*sz)) sz) off) (cond i.agg i.size 1)
    rw[eh,eh,Nat.zero_add] at hat
    unfold Po at h
    cases hpl:((r.drop off).take (cond i.agg i.size 1)).all gU with
    |false=>rw[hpl] at h;exact h.elim
    |true=>
     rw[hpl] at h
     obtain⟨sv,v,hK,hrn,hT⟩:=lZ (ρ:=ρ) hk (xU d4 hpl) hat h
     exact key hK hrn hT
  ·exact h.elim
 ·exact h.elim
omit hB in
theorem AK(da:dM P tbl){s:Nat}{p:SV}{pv:Value}{f:Nat}{K:SV→Prop}(h:v8 tbl s p f K)(hp:aZ ρ w ok p pv):
 ∃sv v,K sv∧(Instr.fieldAt s pv f).run P w= .ok v w∧aZ ρ w ok sv v:=by
 unfold v8 at h
 split at h
 ·exact h.elim
 rename_i i hi
 have hk:=da _ _ hi
 split at h
 ·exact h.elim
 rename_i off ft fsz hf
 obtain⟨hpos,fs,fd,hu,hfd,rfl,rfl,hsz⟩:=hk.field _ _ _ _ hf
 have hrun:∀a:Addr,(Instr.fieldAt s (.pointer (some a)) f).run P w= .ok (.pointer (some (a.add fd.offset))) w:=by
  intro a
  cases hq:P.info? fd.type with
  |none=>simp[hq] at hsz
  |some inf=>
   have:inf.size≠0:=by simp[hq] at hsz;omega
   simp[Instr.fieldAt,run_underlying hu,hfd,Instr.sureAddr,fieldPlace,sizeOf,typeInfo,hq,this]
 split at h
 ·rename_i sz cs
  have hd:=bG.iJ hp
  cases hd with
  |rp hl hin hs hrd ht=>
   cases ht
   exact⟨_,_,h,hrun _,dU (.rp (by simp[hl]) (fG hin _) (pQ _ _ hs) (A3 hrd _) .nil)⟩
 ·rename_i j o
  obtain⟨b,hρ,rfl⟩:=sW hp
  exact⟨_,_,h,by rw[hrun,eh], .v (.c (.lp hρ))⟩
 ·rename_i j sz idx o
  obtain⟨b,n,c,hρ,rfl⟩:=Ho hp
  refine⟨_,_,h,by rw[hrun,eh], ?_⟩
  rw[Nat.add_assoc]
  exact .v (.c (.le hρ))
 ·exact h.elim
omit hB in
theorem run_indexAt_slice{t e sz:Nat}(hu:P.underlying t=some (.slice e))(hsz:(sizeOf e).run P w= .ok sz w){a:Addr}{len cap:Nat}{k:IntKind}{n:Int}(h0:0≤n)(h1:n.toNat<len):
 (Instr.indexAt t (.slice (some a) len cap) (.int k n)).run P w= .ok (.pointer (some (a.add (n.toNat*sz)))) w:=by
 have:n<len:=by omega
 simp[Instr.indexAt,asIntOf,run_underlying hu,h0,this,hsz]
theorem tE(da:dM P tbl){t:Nat}{x ix:SV}{xv iv:Value}{K:SV→Prop}(h:lj tbl t x ix H K)(hx:aZ ρ w ok x xv)(hi:aZ ρ w ok ix iv):
 ∃sv v,K sv∧(Instr.indexAt t xv iv).run P w= .ok v w∧aZ ρ w ok sv v:=by
 unfold lj at h
 split at h
 case h_2=>exact h.elim
 rename_i i k n hti hix
 have hk:=da _ _ hti
 have:=ou hix hi
 subst this
 split at h
 case h_2=>exact h.elim
 rename_i ety cT eby hel
 obtain⟨hu,hpos,inf,z,hinf,hsz,_⟩:=hk.elem _ _ _ hel
 have hsize:(sizeOf ety).run P w= .ok cT w:=by simp[sizeOf,typeInfo,hinf,hsz]
 split at h
 ·rename_i sz rows
  cases hb:Nat.beq sz cT with
  |false=>rw[hb] at h;exact h.elim
  |true=>
   rw[hb] at h
   have:=Nat.eq_of_beq_eq_true hb
   subst this
   obtain⟨h0,r,hr,hK⟩:=h
   have hd:=bG.iJ hx
   cases hd with
   |ro hn hc hm hrow hin hrd ht=>
    cases ht
    rename_i xs a n' c
    have hdr:=Gn hin hrow hr
    have hlen:=hrow r (List.mem_of_getElem? hr)
    have hlt:n.toNat<rows.length:=(List.getElem?_eq_some_iff.1 hr).1
    have hxl:((xs.drop (n.toNat*sz)).take sz).length=sz:=by rw[←hdr.length];exact hlen
    have hx0:∃x0,xs[n.toNat*sz]? =some x0:=by
     rw[List.length_take,List.length_drop] at hxl
     exact⟨_,List.getElem?_eq_getElem (by omega)⟩
    obtain⟨x0,hx0⟩:=hx0
    obtain⟨ad,rfl,hs,hok,_⟩:=hrd _ _ hx0
    exact⟨_,_,hK,run_indexAt_slice hu hsize h0 (by omega),dU (.rp hlen hdr (pQ _ _ hs) (Nk (A3 hrd _) _) .nil)⟩
 ·rename_i j
  split at h
  ·rename_i o ty sz rows hj
   cases hb:Nat.beq sz cT with
   |false=>rw[hb] at h;exact h.elim
   |true=>
    rw[hb] at h
    have:=Nat.eq_of_beq_eq_true hb
    subst this
    obtain⟨⟨h0,hlt⟩,hK⟩:=h
    obtain⟨rv,xs,hrv,ho,hr,hin,_,_⟩:=ir hB hj
    obtain⟨hxv,_⟩:=tq hx
    rw[hrv] at hxv
    simp only[Option.some.injEq] at hxv
    subst hxv
    rcases di ho with⟨_,hz,_⟩|⟨b,c,hv,_,_⟩
    ·omega
    ·subst hv
     refine⟨_, .pointer (some ⟨b,n.toNat*sz+0,none⟩),hK, ?_, .v (.c (.le hrv))⟩
     rw[run_indexAt_slice hu hsize h0 hlt,eh,Nat.zero_add,Nat.add_zero]
  ·rename_i o ty sz rows hj
   cases hb:Nat.beq sz cT with
   |false=>rw[hb] at h;exact h.elim
   |true=>
    rw[hb] at h
    have:=Nat.eq_of_beq_eq_true hb
    subst this
    obtain⟨⟨h0,hlt⟩,hK⟩:=h
    obtain⟨rv,xs,_,hrv,ho,hr,hin,_,_⟩:=dN hB hj
    obtain⟨hxv,_⟩:=tq hx
    rw[hrv] at hxv
    simp only[Option.some.injEq] at hxv
    subst hxv
    rcases di ho with⟨_,hz,_⟩|⟨b,c,hv,_,_⟩
    ·omega
    ·subst hv
     refine⟨_, .pointer (some ⟨b,n.toNat*sz+0,none⟩),hK, ?_, .v (.c (.le hrv))⟩
     rw[run_indexAt_slice hu hsize h0 hlt,eh,Nat.zero_add,Nat.add_zero]
  ·exact h.elim
 ·rename_i j sz off len
  cases hb:Nat.beq sz cT with
  |false=>rw[hb] at h;exact h.elim
  |true=>
   rw[hb] at h
   have:=Nat.eq_of_beq_eq_true hb
   subst this
   obtain⟨⟨h0,hlt⟩,hK⟩:=h
   obtain⟨b,m,c,c',hρ,rfl,h1,h2,h3⟩:=Ol hx
   refine⟨_, .pointer (some ⟨b,(off+n.toNat)*sz+0,none⟩),hK, ?_, .v (.c (.le hρ))⟩
   rw[run_indexAt_slice hu hsize h0 hlt,eh,Nat.add_zero,Nat.add_mul]
 ·exact h.elim
omit hB in
theorem run_indexAt_array{t e sz len:Nat}(hu:P.underlying t=some (.array len e))(hsz:(sizeOf e).run P w= .ok sz w){a:Addr}{k:IntKind}{n:Int}(h0:0≤n)(h1:n.toNat<len):
 (Instr.indexAt t (.pointer (some a)) (.int k n)).run P w= .ok (.pointer (some (a.add (n.toNat*sz)))) w:=by
 have:n<len:=by omega
 simp[Instr.indexAt,asIntOf,run_underlying hu,h0,this,hsz,Instr.sureAddr]
theorem rX(da:dM P tbl){t:Nat}{x ix:SV}{xv iv:Value}{K:SV→Prop}(h:kp tbl t x ix H K)(hx:aZ ρ w ok x xv)(hi:aZ ρ w ok ix iv):
 ∃sv v,K sv∧(Instr.indexAt t xv iv).run P w= .ok v w∧aZ ρ w ok sv v:=by
 unfold kp at h
 split at h
 ·rename_i j off
  split at h
  case h_2=>exact h.elim
  rename_i i k n hti hix
  have hk:=da _ _ hti
  have:=ou hix hi
  subst this
  split at h
  case h_2=>exact h.elim
  rename_i ety cT len hel
  obtain⟨hu,inf,hinf,hsz⟩:=hk.arr _ _ _ hel
  have hsize:(sizeOf ety).run P w= .ok cT w:=by simp[sizeOf,typeInfo,hinf,hsz]
  obtain⟨⟨h0,h1⟩,hK⟩:=h
  obtain⟨b,hρ,rfl⟩:=sW hx
  exact⟨_,_,hK,by rw[run_indexAt_array hu hsize h0 h1,eh], .v (.c (.lp hρ))⟩
 ·rename_i j sz idx off
  split at h
  case h_2=>exact h.elim
  rename_i i k n hti hix
  have hk:=da _ _ hti
  have:=ou hix hi
  subst this
  split at h
  case h_2=>exact h.elim
  rename_i ety cT len hel
  obtain⟨hu,inf,hinf,hsz⟩:=hk.arr _ _ _ hel
  have hsize:(sizeOf ety).run P w= .ok cT w:=by simp[sizeOf,typeInfo,hinf,hsz]
  obtain⟨⟨h0,h1⟩,hK⟩:=h
  obtain⟨b,m,c,hρ,rfl⟩:=Ho hx
  refine⟨_,_,hK,by rw[run_indexAt_array hu hsize h0 h1,eh], ?_⟩
  rw[Nat.add_assoc]
  exact .v (.c (.le hρ))
 ·rename_i sz cs
  split at h
  case h_2=>exact h.elim
  rename_i i k n hti hix
  have hk:=da _ _ hti
  have:=ou hix hi
  subst this
  split at h
  case h_2=>exact h.elim
  rename_i ety cT len hel
  obtain⟨hu,inf,hinf,hsz⟩:=hk.arr _ _ _ hel
  have hsize:(sizeOf ety).run P w= .ok cT w:=by simp[sizeOf,typeInfo,hinf,hsz]
  obtain⟨⟨h0,h1⟩,hK⟩:=h
  have hd:=bG.iJ hx
  cases hd with
  |rp hl hin hs hrd ht=>
   cases ht
   exact⟨_,_,hK,run_indexAt_array hu hsize h0 h1,dU (.rp (by simp[hl]) (fG hin _) (pQ _ _ hs) (A3 hrd _) .nil)⟩
 ·exact tE hB da h hx hi
omit hB in
theorem pL{a b:IntKind}(h:HF a b=true):a=b:=by cases a<;>cases b<;>first|rfl|cases h
omit hB in
theorem Arith.use{k:IntKind}{z:Int}{K:Int→Prop}(h:Arith k z K):K (k.wrap z):=by
 cases h with
 |fit h hk=>rw[h];exact hk
 |wrap hk=>exact hk
omit hB in
theorem rq{op:BinOp}{k k':IntKind}{a b:Int}{t:Nat}{K:SV→Prop}(h:IT op k a b K)(hkk:k=k'∨op= .shl∨op= .shr):
 ∃sv v,K sv∧(binOp op t (.int k a) (.int k' b)).run P w= .ok v w∧aZ ρ w ok sv v:=by
 unfold IT at h
 cases op<;>simp only at h
 case add=>obtain rfl:=hkk.resolve_right (by simp);exact⟨_,_,h.use,by simp[binOp,Op.intArith],Az⟩
 case sub=>obtain rfl:=hkk.resolve_right (by simp);exact⟨_,_,h.use,by simp[binOp,Op.intArith],Az⟩
 case mul=>obtain rfl:=hkk.resolve_right (by simp);exact⟨_,_,h.use,by simp[binOp,Op.intArith],Az⟩
 case quo=>obtain rfl:=hkk.resolve_right (by simp);obtain⟨h0,h⟩:=h;exact⟨_,_,h.use,by simp[binOp,Op.intDiv,h0],Az⟩
 case rem=>obtain rfl:=hkk.resolve_right (by simp);obtain⟨h0,h⟩:=h;exact⟨_,_,h,by simp[binOp,Op.intDiv,h0],Az⟩
 case eql=>obtain rfl:=hkk.resolve_right (by simp);exact⟨_,_,h,by simp[binOp,Op.intCmp],Em⟩
 case neq=>obtain rfl:=hkk.resolve_right (by simp);exact⟨_,_,h,by simp[binOp,Op.intCmp],Em⟩
 case lss=>obtain rfl:=hkk.resolve_right (by simp);exact⟨_,_,h,by simp[binOp,Op.intCmp],Em⟩
 case leq=>obtain rfl:=hkk.resolve_right (by simp);exact⟨_,_,h,by simp[binOp,Op.intCmp],Em⟩
 case gtr=>obtain rfl:=hkk.resolve_right (by simp);exact⟨_,_,h,by simp[binOp,Op.intCmp],Em⟩
 case geq=>obtain rfl:=hkk.resolve_right (by simp);exact⟨_,_,h,by simp[binOp,Op.intCmp],Em⟩
 case shl=>obtain⟨h0,h⟩:=h;exact⟨_,_,h.use,by simp[binOp,Op.shift,show¬b<0 by omega],Az⟩
 case shr=>obtain⟨h0,h⟩:=h;exact⟨_,_,h,by simp[binOp,Op.shift,show¬b<0 by omega],Az⟩
 case and=>obtain rfl:=hkk.resolve_right (by simp);exact⟨_,_,h,by simp[binOp,Op.intBits],Az⟩
 all_goals exact h.elim
omit hB in
theorem FI{op:BinOp}{a b:ByteArray}{t:Nat}{K:SV→Prop}(h:Jr op a b K):
 ∃sv v,K sv∧(binOp op t (.string a) (.string b)).run P w= .ok v w∧aZ ρ w ok sv v:=by
 unfold Jr at h
 cases op<;>simp only at h
 case add=>
  obtain⟨h0,h⟩:=h
  refine⟨_,_,h, ?_,Gt rfl⟩
  simp only[binOp,Op.stringOp]
  rw[if_neg (by rw[IntKind.max_i64];omega)]
  rfl
 case eql=>exact⟨_,_,h,by simp[binOp,Op.stringOp],Em⟩
 case neq=>exact⟨_,_,h,by simp[binOp,Op.stringOp],Em⟩
 case lss=>exact⟨_,_,h,by simp[binOp,Op.stringOp],Em⟩
 case geq=>exact⟨_,_,h,by simp[binOp,Op.stringOp],Em⟩
 all_goals exact h.elim
omit hB in
theorem FO{op:BinOp}{x y:SV}{xv yv:Value}{t:Nat}{xo yo:Operand}{K:SV→Prop}(h:JZ op x y K)(hx:aZ ρ w ok x xv)(hy:aZ ρ w ok y yv):
 ∃sv v,K sv∧(do eqGuard op t xo yo xv yv;binOp op t xv yv).run P w= .ok v w∧aZ ρ w ok sv v:=by
 unfold JZ at h
 split at h
 ·rename_i k a k' b ha hb
  have e1:=ou ha hx
  have e2:=ou hb hy
  subst e1 e2
  rw[show(eqGuard op t xo yo (.int k a) (.int k' b))=pure () by cases op<;>rfl]
  simp only[pure_bind]
  cases op<;>simp only at h
  case shl=>exact rq h (.inr (.inl rfl))
  case shr=>exact rq h (.inr (.inr rfl))
  all_goals
   cases hb:HF k k' with
   |false=>rw[hb] at h;exact h.elim
   |true=>rw[hb] at h;exact rq h (.inl (pL hb))
 ·split at h
  ·rename_i a b ha hb
   have e1:=vI ha hx
   have e2:=vI hb hy
   subst e1 e2
   rw[show(eqGuard op t xo yo (.string a) (.string b))=pure () by cases op<;>rfl]
   simp only[pure_bind]
   exact FI h
  ·exact h.elim
omit hB in
theorem BQ{op:BinOp}{x y:SV}{xv yv:Value}{t:Nat}{xo yo:Operand}{K:SV→Prop}(hu:P.underlying t=some .bool)(h:Cp op x y K)(hx:aZ ρ w ok x xv)(hy:aZ ρ w ok y yv):
 ∃sv v,K sv∧(do eqGuard op t xo yo xv yv;binOp op t xv yv).run P w= .ok v w∧aZ ρ w ok sv v:=by
 unfold Cp at h
 split at h
 ·rename_i a b ha hb
  have e1:=th ha hx
  have e2:=th hb hy
  subst e1 e2
  rw[show(eqGuard op t xo yo (.bool a) (.bool b))=pure () by cases op<;>rfl]
  simp only[pure_bind]
  cases op<;>simp only at h
  case eql=>exact⟨_,_,h,by simp only[binOp];simp[Op.equal,Op.maxDepth,run_equalIn_bool' w 9999 t a b hu],Em⟩
  case neq=>exact⟨_,_,h,by simp only[binOp];simp[Op.equal,Op.maxDepth,run_equalIn_bool' w 9999 t a b hu],Em⟩
  all_goals exact h.elim
 ·exact h.elim
omit hB in
theorem HJ{op:UnOp}{x:SV}{xv:Value}{K:SV→Prop}(h:Px op x K)(hx:aZ ρ w ok x xv):
 ∃sv v,K sv∧(Op.unary op xv).run P w= .ok v w∧aZ ρ w ok sv v:=by
 unfold Px at h
 split at h
 ·split at h
  ·have:=th (s:= .c (.cb _)) rfl hx
   subst this
   exact⟨_,_,h,rfl,dU (.cb .nil)⟩
  ·have:=th (s:= .c (.val (.bool _))) rfl hx
   subst this
   exact⟨_,_,h,rfl,Em⟩
  ·exact h.elim
 ·split at h
  ·rename_i k n hn
   have:=ou hn hx
   subst this
   exact⟨_,_,h.use,by simp[Op.unary,Op.intArith],Az⟩
  ·exact h.elim
 ·exact h.elim
omit hB in
theorem B9{c a b:SV}{cv av bv:Value}{K:SV→Prop}(h:D8 c a b K)(hc:aZ ρ w ok c cv)(ha:aZ ρ w ok a av)(hb:aZ ρ w ok b bv):
 ∃sv v,K sv∧((do pure (Next.value (if←asBool cv then av else bv))):Sem Next).run P w= .ok (.value v) w∧aZ ρ w ok sv v:=by
 unfold D8 at h
 split at h
 ·have:=th (s:= .c (.cb _)) rfl hc
  subst this
  exact⟨_,_,h,by simp[asBool],ha⟩
 ·have:=th (s:= .c (.cb _)) rfl hc
  subst this
  exact⟨_,_,h,by simp[asBool],hb⟩
 ·have:=th (s:= .c (.val (.bool _))) rfl hc
  subst this
  split at h
  ·rename_i x y hx hy
   have e1:=th hx ha
   have e2:=th hy hb
   subst e1 e2
   exact⟨_,_,h,by simp[asBool],Em⟩
  ·exact h.elim
 ·exact h.elim
omit hB in
theorem wx{x:SV}{xv:Value}{i:Nat}{K:SV→Prop}(h:pS x i K)(hx:aZ ρ w ok x xv):
 ∃sv v,K sv∧(Instr.extract xv i).run P w= .ok v w∧aZ ρ w ok sv v:=by
 unfold pS at h
 split at h
 ·rename_i vs
  split at h
  ·rename_i v hv
   cases hx with
   |v h=>cases h with|c h=>cases h
   |tup hl hh=>
    rename_i us
    have hlt:i<us.length:=by rw[←hl];exact(List.getElem?_eq_some_iff.1 hv).1
    have hu:us[i]? =some us[i]:=List.getElem?_eq_getElem hlt
    exact⟨_,_,h,by simp[Instr.extract,hu], .v (hh _ _ _ hv hu)⟩
  ·exact h.elim
 ·exact h.elim
omit hB in
theorem B3{op:BinOp}{x y:SV}{xv yv:Value}{t:Nat}{i:gN}{xo yo:Operand}{K:SV→Prop}(hk:r6 P t i)(he:i.ND=true)(h:Du op x y K)(hx:aZ ρ w ok x xv)(hy:aZ ρ w ok y yv):
 ∃sv v,K sv∧(do eqGuard op t xo yo xv yv;binOp op t xv yv).run P w= .ok v w∧aZ ρ w ok sv v:=by
 unfold Du at h
 split at h
 ·rename_i n k a k' b n' k1 c k1' d
  have form:∀{n:Nat} {k k':IntKind} {a b:Int} {v:Value},aZ ρ w ok (.a n [.val (.int k a), .val (.int k' b)]) v→v= .agg #[.int k a, .int k' b]:=by
   intro n k k' a b v hv
   cases hv with
   |v h=>cases h with
    |c h=>cases h
    |a hl h=>cases h with|val _ h=>cases h with|val _ h=>cases h with|nil=>rfl
  rw[form hx,form hy]
  cases hb:(HF k k1&&HF k' k1') with
  |false=>rw[hb] at h;exact h.elim
  |true=>
   rw[hb] at h
   simp only[Bool.and_eq_true] at hb
   have e1:=pL hb.1
   have e2:=pL hb.2
   subst e1 e2
   obtain⟨h1,h2⟩:=hk.ND he xo yo a b c d k k' w
   simp only[cond] at h
   cases op<;>simp only at h
   case eql=>exact⟨_,_,h,h1,Em⟩
   case neq=>exact⟨_,_,h,h2,Em⟩
   all_goals exact h.elim
 ·exact h.elim
omit hB in
theorem yz(da:dM P tbl){op:BinOp}{x y:SV}{xv yv:Value}{t:Nat}{xo yo:Operand}{K:SV→Prop}(h:rR tbl op t x y K)(hx:aZ ρ w ok x xv)(hy:aZ ρ w ok y yv):
 ∃sv v,K sv∧(do eqGuard op t xo yo xv yv;binOp op t xv yv).run P w= .ok v w∧aZ ρ w ok sv v:=by
 unfold rR at h
 split at h
 ·split at h
  ·rename_i i hi
   cases hb:i.N4 with
   |false=>rw[hb] at h;exact h.elim
   |true=>rw[hb] at h;exact BQ ((da _ _ hi).N4 hb) h hx hy
  ·exact h.elim
 ·split at h
  ·rename_i i hi
   cases hb:i.ND with
   |false=>rw[hb] at h;exact h.elim
   |true=>rw[hb] at h;exact B3 (da _ _ hi) hb h hx hy
  ·exact h.elim
 ·exact FO h hx hy
omit hB in
theorem CQ(da:dM P tbl){src dst:Nat}{x:SV}{xv:Value}{K:SV→Prop}(hsrc:(tbl.find src).any (fun i=>i.ik.isSome)=true)(h:Cz tbl dst x K)(hx:aZ ρ w ok x xv):
 ∃sv v,K sv∧(convert src dst xv).run P w= .ok v w∧aZ ρ w ok sv v:=by
 unfold Cz at h
 split at h
 ·rename_i i k n hi hn
  have:=ou hn hx
  subst this
  split at h
  ·rename_i k' hk'
   have hu:=(da _ _ hi).ik _ hk'
   cases hs:tbl.find src with
   |none=>simp[hs] at hsrc
   |some j=>
    simp[hs] at hsrc
    obtain⟨q,hq⟩:=Option.isSome_iff_exists.1 hsrc
    have hus:=(da _ _ hs).ik _ hq
    exact⟨_,_,h.use,by simp[convert,run_underlying hu,run_underlying hus,Conv.intToInt],Az⟩
  ·exact h.elim
 ·exact h.elim
omit hB in
theorem Nj{sz:Nat}{rows:List (List CV)}{v:Value}(h:aZ ρ w ok (.c (.ro sz rows)) v):∃a n c xs,v= .slice a n c∧rows.length=n∧n≤c∧c≤maxLen∧(∀r∈rows,r.length=sz)∧Den w ok rows.flatten xs []∧Rd w ok a xs:=by
 have hd:=bG.iJ h
 cases hd with
 |ro hn hc hm hr hin hrd ht=>cases ht;exact⟨_,_,_,_,rfl,hn,hc,hm,hr,hin,hrd⟩
omit hB in
theorem l3{d:Bool}{p k:Prop}(h:fact d p k)(hp:p):k:=by
 cases d with
 |true=>exact h
 |false=>exact h.k hp
theorem w1(da:dM P tbl){d:Bool}{t oty:Nat}{x:SV}{xv:Value}{K:SV→Prop}(ht:(∃i e,tbl.find t=some i∧i.elem=some e)∨(P.underlying t=some .string))(h:HA d x H K)(hx:aZ ρ w ok x xv)
 (hstr:P.underlying t=some .string↔(r7 x).isSome=true):
 ∃sv v,K sv∧(Builtin.len_ #[t] oty #[xv]).run P w= .ok v w∧aZ ρ w ok sv v:=by
 have hsl:P.underlying t≠some .string→∃e,P.underlying t=some (.slice e):=by
  intro hne
  rcases ht with⟨i,e,hi,he⟩|hs
  ·obtain⟨e1,e2,e3⟩:=e
   exact⟨_,((da _ _ hi).elem _ _ _ he).1⟩
  ·exact absurd hs hne
 have run:∀{a:Option Addr} {n c:Nat},(r7 x).isSome=false→(Builtin.len_ #[t] oty #[.slice a n c]).run P w= .ok (.int .i64 n) w:=by
  intro a n c hs
  obtain⟨e,he⟩:=hsl fun hh=>by rw[hstr.1 hh] at hs;cases hs
  simp[Builtin.len_,run_underlying he,goInt]
 unfold HA at h
 split at h
 ·obtain⟨a,n,c,xs,rfl,rfl,hc,hm,_⟩:=Nj hx
  exact⟨_,_,l3 h (by omega),run rfl,Az⟩
 ·rename_i j
  split at h
  ·rename_i o ty sz rows hj
   obtain⟨rv,xs,hrv,ho,hr,hin,_,_⟩:=ir hB hj
   obtain⟨hxv,_⟩:=tq hx
   rw[hrv] at hxv
   simp only[Option.some.injEq] at hxv
   subst hxv
   rcases di ho with⟨rfl,hz,_⟩|⟨b,c,rfl,hc,hm⟩
   ·refine⟨_,_,l3 h (by rw[hz];simp[maxLen]), ?_,Az⟩
    rw[run rfl,hz]
   ·exact⟨_,_,l3 h (by omega),run rfl,Az⟩
  ·rename_i o ty sz rows hj
   obtain⟨rv,xs,_,hrv,ho,hr,hin,_,_⟩:=dN hB hj
   obtain⟨hxv,_⟩:=tq hx
   rw[hrv] at hxv
   simp only[Option.some.injEq] at hxv
   subst hxv
   rcases di ho with⟨rfl,hz,_⟩|⟨b,c,rfl,hc,hm⟩
   ·refine⟨_,_,l3 h (by rw[hz];simp[maxLen]), ?_,Az⟩
    rw[run rfl,hz]
   ·exact⟨_,_,l3 h (by omega),run rfl,Az⟩
  ·exact h.elim
 ·obtain⟨b,n,c,c',_,rfl,h1,h2,h3⟩:=Ol hx
  exact⟨_,_,l3 h (by omega),run rfl,Az⟩
 ·have:=vI (s:= .c (.val (.string _))) rfl hx
  subst this
  have hu:=hstr.2 rfl
  exact⟨_,_,h,by simp[Builtin.len_,run_underlying hu,goInt],Az⟩
 ·have:=eE (bG.iJ hx)
  subst this
  exact⟨_,_,h,run rfl,Az⟩
 ·exact h.elim
def notNil:Value→Prop
 | .pointer none| .nilIface| .nilFunc=>False
 | .func (.method _) _ _=>False
 |_=>True
omit hB in
theorem Et{x:SV}{xv:Value}{K:SV→Prop}(h:JI x K)(hx:aZ ρ w ok x xv):
 ∃sv,K sv∧notNil xv∧aZ ρ w ok sv xv:=by
 unfold JI at h
 split at h
 ·have hd:=bG.iJ hx
  cases hd with|rp hl hin hs hrd ht=>exact⟨_,h,trivial,hx⟩
 ·obtain⟨b,_,rfl⟩:=sW hx
  exact⟨_,h,trivial,hx⟩
 ·obtain⟨b,_,_,_,rfl⟩:=Ho hx
  exact⟨_,h,trivial,hx⟩
 ·cases hx with
  |v hh=>cases hh with
   |c h'=>cases h'
   |clo hl h'=>exact⟨_,h,trivial, .v (.clo hl h')⟩
 ·exact h.elim
omit hB in
theorem Ad{t:Nat}{x ix:SV}{xv iv:Value}{K:SV→Prop}(hu:P.underlying t=some .string)(h:xP x ix K)(hx:aZ ρ w ok x xv)(hi:aZ ρ w ok ix iv):
 ∃sv v,K sv∧(Instr.index t xv iv).run P w= .ok v w∧aZ ρ w ok sv v:=by
 unfold xP at h
 split at h
 ·rename_i s k n hn
  obtain⟨⟨h0,h1⟩,h⟩:=h
  have e1:=ou hn hi
  have e2:=vI (s:= .c (.val (.string _))) rfl hx
  subst e1 e2
  refine⟨_,_,h, ?_,Az⟩
  have hs:s[n.toNat]? =some (s.data.toList.getD n.toNat 0):=by
   obtain⟨⟨l⟩⟩:=s
   have h1':n.toNat<l.length:=h1
   show(if hh:n.toNat<l.length then some _ else none)=_
   rw[dif_pos h1']
   simp[List.getD,List.getElem?_eq_getElem h1']
   rfl
  simp[Instr.index,asIntOf,run_underlying hu,h0,hs]
 ·exact h.elim
end
end Go.KA
