/- Part of a proof engine for functions of the given program: what an operation, a loop and a call compute, symbolically. No conditions. -/
import Derived.Test.YtgbggaddpbghfaaGreatEngS
import Derived.Laws.StructEq
import Derived.ChangeKeysEq
import Derived.KernelRfl
namespace Go.KA
open Go Go.RowKit
def Qr:ZC→Value→Bool
 | .v (.bool false), .bool false=>true
 | .v (.int k 0), .int k' 0=>HF k k'
 | .v (.string x), .string y=>Nat.beq x.data.toList.length 0&&Nat.beq y.data.toList.length 0
 | .v .nilFunc, .nilFunc=>true
 | .v (.map none), .map none=>true
 | .v (.pointer none), .pointer none=>true
 | .v .nilIface, .nilIface=>true
 | .s _ _, .slice none 0 0=>true
 |_,_=>false
def Iy:List ZC→List Value→Bool
 |[],[]=>true
 |z::zs,v::vs=>Qr z v&&Iy zs vs
 |_,_=>false
def QF:Bool→Bool→Bool
 |true,true=>true
 |false,false=>true
 |_,_=>false
def E0:Value→Bool
 | .agg _=>true
 |_=>false
def Nv(P:Program)(d:TypeDesc):Option (Nat × Nat × Nat)→Bool
 |none=>true
 |some (e,sz,by_)=>(match d with| .slice e'=>Nat.beq e e'|_=>false)&&Nat.blt 0 sz&&
  match P.info? e with
  |some inf=>Nat.beq inf.size sz&&(Nat.beq inf.bytes by_&&match inf.zero with|some z=>Nat.beq z.cells.toList.length sz|none=>false)
  |none=>false
def ye(P:Program):List Field→List (Nat × Nat × Nat)→Bool
 |[],[]=>true
 |f::fs,(off,ft,sz)::is=>Nat.beq f.offset off&&(Nat.beq f.type ft&&(Nat.blt 0 sz&&((match P.info? ft with|some inf=>Nat.beq inf.size sz|none=>false)&&ye P fs is)))
 |_,_=>false
def AG(P:Program)(d:TypeDesc)(l:List (Nat × Nat × Nat)):Bool:=
 match l with
 |[]=>true
 |l=>match d with| .struct fs=>ye P fs.toList l|_=>false
def QB(d:TypeDesc):Option IntKind→Bool
 |none=>true
 |some k=>match d with| .int k'=>HF k k'|_=>false
def G7:TypeDesc→Bool
 | .bool=>true
 |_=>false
def JM:TypeDesc→Bool
 | .string=>true
 |_=>false
def NQ(i:gN):Option Value→Bool
 |none=>true
 |some z=>match i.agg with|true=>true|false=>z.oneCell'
def NR(P:Program)(d:TypeDesc):Option (Option IntKind × Nat)→Bool
 |none=>true
 |some (k,e)=>match d with
  | .map kt e'=>Nat.beq e e'&&(match P.underlying kt,k with|some (.int k'),some k=>HF k k'|some .string,none=>true|_,_=>false)
  |_=>false
def PS(P:Program)(d:TypeDesc):Option (Nat × Nat × Nat)→Bool
 |none=>true
 |some (e,sz,n)=>match d with
  | .array n' e'=>Nat.beq n' n&&(Nat.beq e' e&&match P.info? e with|some inf=>Nat.beq inf.size sz|none=>false)
  |_=>false
def Bq(P:Program)(t:Nat):Bool:=match P.underlying t with|some (.int _)=>true|_=>false
def PY(P:Program)(t:Nat):TypeDesc→Bool
 | .struct fs=>match fs.toList with
   |[f,g]=>Bq P f.type&&(Bq P g.type&&(Nat.beq f.offset 0&&(Nat.beq g.offset 1&&(f.name != "_" &&(g.name != "_" &&(!P.eqGuardType P.depth t&& !P.stoodInHeld t))))))
   |_=>false
 |_=>false
def PF(a b:Bool):Bool:=match a with|true=>b|false=>true
def Nz(i:gN):Option Value→Bool
 |none=>false
 |some z=>Iy i.zero z.cells.toList&&(Nat.beq z.cells.toList.length i.size&&PF i.agg (E0 z))
def Kq(P:Program)(t:Nat)(i:gN):Bool:=
 match P.info? t,P.underlying t with
 |some inf,some d=>Nat.beq inf.size i.size&&(QF d.isRow i.agg&&(Nz i inf.zero&&(Nv P d i.elem&&(AG P d i.fields&&(QB d i.ik&&(PF i.N4 (G7 d)&&(PF i.FL (JM d)&&(NQ i inf.zero&&NR P d i.AN&&(PS P d i.arr&&PF i.ND (PY P t d))))))))))
 |_,_=>false
def MB(P:Program):List (Nat × gN)→Bool
 |[]=>true
 |(t,i)::r=>Kq P t i&&MB P r
theorem O2{a b:Bool}(h:QF a b=true):a=b:=by
 cases a<;>cases b<;>first|rfl|exact absurd h (by decide)
theorem AI{a b:Bool}(h:PF a b=true)(ha:a=true):b=true:=by subst ha;exact h
theorem KS{s:ByteArray}(h:s.data.toList.length=0):s=ByteArray.empty:=by
 obtain⟨⟨l⟩⟩:=s
 have:l=[]:=List.length_eq_zero_iff.1 h
 subst this
 rfl
theorem N6{z:ZC}{v:Value}(h:Qr z v=true):z.val=v∧z.val.oneCell'=true:=by
 unfold Qr at h
 split at h
 ·exact⟨rfl,rfl⟩
 ·exact⟨by rw[pL h];rfl,rfl⟩
 ·rename_i x y
  simp only[Bool.and_eq_true] at h
  have h1:=KS (Nat.eq_of_beq_eq_true h.1)
  have h2:=KS (Nat.eq_of_beq_eq_true h.2)
  subst h1 h2
  exact⟨rfl,rfl⟩
 ·exact⟨rfl,rfl⟩
 ·exact⟨rfl,rfl⟩
 ·exact⟨rfl,rfl⟩
 ·exact⟨rfl,rfl⟩
 ·exact⟨rfl,rfl⟩
 ·exact absurd h (by decide)
theorem GL:∀{zs:List ZC} {vs:List Value},Iy zs vs=true→vs=zs.map ZC.val∧∀z∈zs,z.val.oneCell'=true
 |[],[],_=>⟨rfl,by simp⟩
 |[],_::_,h=>absurd h (by simp[Iy])
 |_::_,[],h=>absurd h (by simp[Iy])
 |z::zs,v::vs,h=>by
  simp only[Iy,Bool.and_eq_true] at h
  obtain⟨h1,h2⟩:=N6 h.1
  obtain⟨h3,h4⟩:=GL h.2
  refine⟨by rw[h3,←h1];rfl,fun x hx=> ?_⟩
  rcases List.mem_cons.1 hx with rfl|hx
  ·exact h2
  ·exact h4 x hx
theorem Oi{P:Program}{t:TypeId}{f g:Field}{k1 k2:IntKind}(hu:P.underlying t=some (.struct #[f,g]))(h1:P.underlying f.type=some (.int k1))(h2:P.underlying g.type=some (.int k2))(o1:f.offset=0)(o2:g.offset=1)
 (n1:(f.name != "_")=true)(n2:(g.name != "_")=true)(hm:P.eqGuardType P.depth t=false)(hp:P.stoodInHeld t=false)(xo yo:Operand)(a b c d:Int)(k k':IntKind)(w:World):
 (do eqGuard .eql t xo yo (.agg #[.int k a, .int k' b]) (.agg #[.int k c, .int k' d]);binOp .eql t (.agg #[.int k a, .int k' b]) (.agg #[.int k c, .int k' d])).run P w= .ok (.bool (a==c&&b==d)) w∧
 (do eqGuard .neq t xo yo (.agg #[.int k a, .int k' b]) (.agg #[.int k c, .int k' d]);binOp .neq t (.agg #[.int k a, .int k' b]) (.agg #[.int k c, .int k' d])).run P w= .ok (.bool (!(a==c&&b==d))) w:=by
 have hf:P.fieldsOf t= #[f,g]:=by simp[Program.fieldsOf,hu]
 have hu':P.underlying t=some (.struct (P.fieldsOf t)):=by rw[hf];exact hu
 have n1':f.name≠ "_" :=by simpa using n1
 have n2':g.name≠ "_" :=by simpa using n2
 have e:(Op.equalIn 10000 t (.agg #[.int k a, .int k' b]) (.agg #[.int k c, .int k' d])).run P w= .ok (a==c&&b==d) w:=by
  rw[show(10000:Nat)=9998+1+1 from rfl,run_equalIn_struct w _ t _ _ hu' hp,hf]
  simp only[Op.eqFields,o1,o2,n1',n2',Sem.run_bind,Sem.run_ite,ne_eq,not_false_eq_true,if_true]
  have p1:∀(x y:Value),(part f.type #[x,y] 0).run P w= .ok (if E0 x then x else x) w∨True:=fun _ _=> .inr trivial
  have q1:∀(x y:Value),(part f.type #[x,y] 0).run P w= .ok x w:=by
   intro x y;simp[part,isAgg,run_underlying h1]
  have q2:∀(x y:Value),(part g.type #[x,y] 1).run P w= .ok y w:=by
   intro x y;simp[part,isAgg,run_underlying h2]
  simp only[q1,q2,Result.andThen_ok,run_equalIn_int w _ _ k k1 a c h1,run_equalIn_int w _ _ k' k2 b d h2]
  cases a==c<;>cases b==d<;>simp
 constructor
 ·rw[Sem.run_bind,run_eqGuard_agg w _ t xo yo _ _ hm,Result.andThen_ok,run_eql_struct,e];rfl
 ·rw[Sem.run_bind,run_eqGuard_agg w _ t xo yo _ _ hm,Result.andThen_ok,run_neq_struct,e];rfl
theorem y4{P:Program}{t:Nat}(h:Bq P t=true):∃k,P.underlying t=some (.int k):=by
 unfold Bq at h
 split at h
 ·exact⟨_,by assumption⟩
 ·exact absurd h (by decide)
theorem Ea{P:Program}:∀{fs:List Field} {is:List (Nat × Nat × Nat)},ye P fs is=true→∀(n off ft sz:Nat),is[n]? =some (off,ft,sz)→0<sz∧∃f:Field,fs[n]? =some f∧f.offset=off∧f.type=ft∧(P.info? ft).map (·.size)=some sz
 |[],[],_,n,off,ft,sz,h=>by simp at h
 |[],_::_,h,_,_,_,_,_=>absurd h (by simp[ye])
 |_::_,[],h,_,_,_,_,_=>absurd h (by simp[ye])
 |f::fs,(o,t,s)::is,h,n,off,ft,sz,hn=>by
  simp only[ye,Bool.and_eq_true] at h
  obtain⟨h1,h2,h3,h4,h5⟩:=h
  cases n with
  |zero=>
   simp only[List.getElem?_cons_zero,Option.some.injEq,Prod.mk.injEq] at hn
   obtain⟨rfl,rfl,rfl⟩:=hn
   refine⟨by rw[Nat.blt_eq] at h3;exact h3,f,rfl,Nat.eq_of_beq_eq_true h1,Nat.eq_of_beq_eq_true h2, ?_⟩
   split at h4
   ·rename_i inf hi;rw[hi];simp[Nat.eq_of_beq_eq_true h4]
   ·exact absurd h4 (by decide)
  |succ n=>exact Ea h5 n off ft sz (by simpa using hn)
theorem vo{P:Program}:∀{fs:List Field} {is:List (Nat × Nat × Nat)},ye P fs is=true→fs.mapM (fun(f:Field)=>(P.info? f.type).map fun i=>(f.offset,i.size))=some (is.map fun x=>(x.1,x.2.2))
 |[],[],_=>rfl
 |[],_::_,h=>absurd h (by simp[ye])
 |_::_,[],h=>absurd h (by simp[ye])
 |f::fs,(o,t,s)::is,h=>by
  simp only[ye,Bool.and_eq_true] at h
  obtain⟨h1,h2,h3,h4,h5⟩:=h
  have ih:=vo h5
  have e1:=Nat.eq_of_beq_eq_true h1
  have e2:=Nat.eq_of_beq_eq_true h2
  subst e1 e2
  split at h4
  ·rename_i inf hi
   have e3:=Nat.eq_of_beq_eq_true h4
   subst e3
   rw[List.mapM_cons,hi,ih]
   rfl
  ·exact absurd h4 (by decide)
theorem CW{P:Program}{t:Nat}{i:gN}(h:Kq P t i=true):r6 P t i:=by
 unfold Kq at h
 split at h
 case h_2=>exact absurd h (by decide)
 rename_i inf d hi hu
 simp only[Bool.and_eq_true] at h
 obtain⟨h1,h2,h3,h4,h5,h6,h7,h8,⟨h11,h10⟩,h12,h9⟩:=h
 have e1:=Nat.eq_of_beq_eq_true h1
 refine⟨by rw[hi];simp[e1],⟨d,hu,O2 h2⟩, ?_, ?_, ?_, ?_, ?_, ?_, ?_, ?_, ?_, ?_, ?_⟩
 ·unfold Nz at h3
  split at h3
  ·exact absurd h3 (by decide)
  ·rename_i z hz
   simp only[Bool.and_eq_true] at h3
   obtain⟨g1,g2,g3⟩:=h3
   obtain⟨z1,z2⟩:=GL g1
   refine⟨inf,z,hi,hz,z1,by simpa using Nat.eq_of_beq_eq_true g2,fun ha=> ?_,z2⟩
   have:=AI g3 ha
   cases z<;>simp[E0] at this
   rfl
 ·intro e sz by_ he
  rw[he] at h4
  simp only[Nv,Bool.and_eq_true] at h4
  obtain⟨⟨g1,g2⟩,g3⟩:=h4
  split at g1
  case h_2=>exact absurd g1 (by decide)
  have:=Nat.eq_of_beq_eq_true g1
  subst this
  split at g3
  case h_2=>exact absurd g3 (by decide)
  rename_i inf2 hi2
  simp only[Bool.and_eq_true] at g3
  obtain⟨g3,g4,g5⟩:=g3
  split at g5
  case h_2=>exact absurd g5 (by decide)
  rename_i z hz
  exact⟨hu,by rw[Nat.blt_eq] at g2;exact g2,inf2,z,hi2,Nat.eq_of_beq_eq_true g3,Nat.eq_of_beq_eq_true g4,hz,by simpa using Nat.eq_of_beq_eq_true g5⟩
 ·intro n off ft fsz hn
  unfold AG at h5
  split at h5
  ·rename_i hl;rw[hl] at hn;simp at hn
  ·split at h5
   ·rename_i fs
    obtain⟨g1,f,g2,g3⟩:=Ea h5 n off ft fsz hn
    exact⟨g1,fs,f,hu,by simpa using g2,g3⟩
   ·exact absurd h5 (by decide)
 ·intro hne
  unfold AG at h5
  split at h5
  ·rename_i hl;exact absurd hl hne
  ·split at h5
   ·rename_i fs
    exact⟨fs,hu,vo h5⟩
   ·exact absurd h5 (by decide)
 ·intro k hk
  rw[hk] at h6
  unfold QB at h6
  simp only at h6
  split at h6
  ·rw[pL h6];exact hu
  ·exact absurd h6 (by decide)
 ·intro hb
  have:=AI h7 hb
  cases d<;>simp[G7] at this
  exact hu
 ·intro hb
  have:=AI h8 hb
  cases d<;>simp[JM] at this
  exact hu
 ·intro hag inf' z hi' hz
  rw[hi] at hi'
  injection hi' with hi'
  subst hi'
  rw[hz] at h11
  unfold NQ at h11
  rw[hag] at h11
  exact h11
 ·intro k e hk
  rw[hk] at h10
  unfold NR at h10
  simp only at h10
  split at h10
  case h_2=>exact absurd h10 (by decide)
  rename_i kt e'
  simp only[Bool.and_eq_true] at h10
  obtain⟨g1,g2⟩:=h10
  have:=Nat.eq_of_beq_eq_true g1
  subst this
  refine⟨kt,hu, ?_⟩
  split at g2
  ·rename_i k' k0 hk'
   rw[hk',pL g2];rfl
  ·rename_i hk'
   rw[hk'];rfl
  ·exact absurd g2 (by decide)
 ·intro e sz n he
  rw[he] at h12
  unfold PS at h12
  simp only at h12
  split at h12
  case h_2=>exact absurd h12 (by decide)
  simp only[Bool.and_eq_true] at h12
  obtain⟨g1,g2,g3⟩:=h12
  have:=Nat.eq_of_beq_eq_true g1
  subst this
  have:=Nat.eq_of_beq_eq_true g2
  subst this
  split at g3
  ·rename_i inf2 hi2
   exact⟨hu,inf2,hi2,Nat.eq_of_beq_eq_true g3⟩
  ·exact absurd g3 (by decide)
 ·intro hb
  have:=AI h9 hb
  unfold PY at this
  split at this
  case h_2=>exact absurd this (by decide)
  rename_i fs
  split at this
  case h_2=>exact absurd this (by decide)
  rename_i f g hfg
  simp only[Bool.and_eq_true,Bool.not_eq_true'] at this
  obtain⟨a1,a2,a3,a4,a5,a6,a7,a8⟩:=this
  obtain⟨k1,b1⟩:=y4 a1
  obtain⟨k2,b2⟩:=y4 a2
  have hfs:fs= #[f,g]:=by
   have:=congrArg List.toArray hfg
   simpa using this
  exact Oi (hfs▸hu) b1 b2 (Nat.eq_of_beq_eq_true a3) (Nat.eq_of_beq_eq_true a4) a5 a6 a7 a8
theorem Dv{P:Program}:∀{l:List (Nat × gN)},MB P l=true→∀t i,(t,i)∈l→r6 P t i
 |[],_,t,i,h=>by simp at h
 |(u,j)::r,h,t,i,hm=>by
  simp only[MB,Bool.and_eq_true] at h
  rcases List.mem_cons.1 hm with e|hm
  ·injection e with e1 e2;subst e1 e2;exact CW h.1
  ·exact Dv h.2 t i hm
theorem Lt{P:Program}{tbl:TT}(h:MB P tbl.toList=true):dM P tbl:=fun t i hf=>Dv h t i (tbl.mem t i hf)
end Go.KA
