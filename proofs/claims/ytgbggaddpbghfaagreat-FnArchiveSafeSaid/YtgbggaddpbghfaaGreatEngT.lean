/- Part of a proof engine for functions of the given program: what an operation, a loop and a call compute, symbolically. No conditions. -/
import Derived.Test.YtgbggaddpbghfaaGreatEngS
import Derived.Laws.StructEq
import Derived.ChangeKeysEq
import Derived.KernelRfl
namespace Go.KA
open Go Go.RowKit
def zcB:ZC->Value->Bool
 | .v (.bool false), .bool false=>true
 | .v (.int k 0), .int k' 0=>Ma k k'
 | .v (.string x), .string y=>Nat.beq x.data.toList.length 0&&Nat.beq y.data.toList.length 0
 | .v .nilFunc, .nilFunc=>true
 | .v (.map none), .map none=>true
 | .v (.pointer none), .pointer none=>true
 | .v .nilIface, .nilIface=>true
 | .s _ _, .slice none 0 0=>true
 |_,_=>false
def Mq:List ZC->List Value->Bool
 |[],[]=>true
 |z::zs,v::vs=>zcB z v&&Mq zs vs
 |_,_=>false
def bEq:Bool->Bool->Bool
 |true,true=>true
 |false,false=>true
 |_,_=>false
def JX:Value->Bool
 | .agg _=>true
 |_=>false
def UH(P:Program)(d:TypeDesc):Option (Nat × Nat × Nat)->Bool
 |none=>true
 |some (e,sz,ZB)=>(match d with| .slice e'=>Nat.beq e e'|_=>false)&&Nat.blt 0 sz&&
  match P.info? e with
  |some inf=>Nat.beq inf.size sz&&(Nat.beq inf.bytes ZB&&match inf.zero with|some z=>Nat.beq z.cells.toList.length sz|none=>false)
  |none=>false
def Bp(P:Program):List Field->List (Nat × Nat × Nat)->Bool
 |[],[]=>true
 |f::fs,(off,ft,sz)::is=>Nat.beq f.offset off&&(Nat.beq f.type ft&&(Nat.blt 0 sz&&((match P.info? ft with|some inf=>Nat.beq inf.size sz|none=>false)&&Bp P fs is)))
 |_,_=>false
def ES(P:Program)(d:TypeDesc)(l:List (Nat × Nat × Nat)):Bool:=
 match l with
 |[]=>true
 |l=>match d with| .struct fs=>Bp P fs.toList l|_=>false
def ikB(d:TypeDesc):Option IntKind->Bool
 |none=>true
 |some k=>match d with| .int k'=>Ma k k'|_=>false
def KG:TypeDesc->Bool
 | .bool=>true
 |_=>false
def On:TypeDesc->Bool
 | .string=>true
 |_=>false
def Ue(i:iZ):Option Value->Bool
 |none=>true
 |some z=>match i.agg with|true=>true|false=>z.oneCell'
def T8(P:Program)(d:TypeDesc):Option (Option IntKind × Nat)->Bool
 |none=>true
 |some (k,e)=>match d with
  | .map kt e'=>Nat.beq e e'&&(match P.underlying kt,k with|some (.int k'),some k=>Ma k k'|some .string,none=>true|_,_=>false)
  |_=>false
def Ze(P:Program)(d:TypeDesc):Option (Nat × Nat × Nat)->Bool
 |none=>true
 |some (e,sz,n)=>match d with
  | .array n' e'=>Nat.beq n' n&&(Nat.beq e' e&&match P.info? e with|some inf=>Nat.beq inf.size sz|none=>false)
  |_=>false
def Eb(P:Program)(t:Nat):Bool:=match P.underlying t with|some (.int _)=>true|_=>false
def Zu(P:Program)(t:Nat):TypeDesc->Bool
 | .struct fs=>match fs.toList with
   |[f,g]=>Eb P f.type&&(Eb P g.type&&(Nat.beq f.offset 0&&(Nat.beq g.offset 1&&(f.name != "_" &&(g.name != "_" &&(!P.eqGuardType P.depth t&& !P.stoodInHeld t))))))
   |_=>false
 |_=>false
def Yr(a b:Bool):Bool:=match a with|true=>b|false=>true
def Uc(i:iZ):Option Value->Bool
 |none=>false
 |some z=>Mq i.zero z.cells.toList&&(Nat.beq z.cells.toList.length i.size&&Yr i.agg (JX z))
def O6(P:Program)(t:Nat)(i:iZ):Bool:=
 match P.info? t,P.underlying t with
 |some inf,some d=>Nat.beq inf.size i.size&&(bEq d.isRow i.agg&&(Uc i inf.zero&&(UH P d i.elem&&(ES P d i.fields&&(ikB d i.ik&&(Yr i.Ws (KG d)&&(Yr i.Jk (On d)&&(Ue i inf.zero&&T8 P d i.DK&&(Ze P d i.arr&&Yr i.T4 (Zu P t d))))))))))
 |_,_=>false
def R2(P:Program):List (Nat × iZ)->Bool
 |[]=>true
 |(t,i)::r=>O6 P t i&&R2 P r
theorem WI{a b:Bool}(h:bEq a b=true):a=b:=by
 cases a<;>cases b<;>first|rfl|exact absurd h (by decide)
theorem DQ{a b:Bool}(h:Yr a b=true)(ha:a=true):b=true:=by subst ha;exact h
theorem PL{s:ByteArray}(h:s.data.toList.length=0):s=ByteArray.empty:=by
 obtain⟨⟨l⟩⟩:=s;have:l=[]:=List.length_eq_zero_iff.1 h;subst this;rfl
theorem Vv{z:ZC}{v:Value}(h:zcB z v=true):z.val=v/\z.val.oneCell'=true:=by
 unfold zcB at h;split at h
 ·exact⟨rfl,rfl⟩
 ·exact⟨by rw[rI h];rfl,rfl⟩
 ·rename_i x y;simp only[ab]at h;have h1:=PL (ae h.1);have h2:=PL (ae h.2);subst h1 h2;exact⟨rfl,rfl⟩
 ·exact⟨rfl,rfl⟩
 ·exact⟨rfl,rfl⟩
 ·exact⟨rfl,rfl⟩
 ·exact⟨rfl,rfl⟩
 ·exact⟨rfl,rfl⟩
 ·exact absurd h (by decide)
theorem LC:∀{zs:List ZC} {vs:List Value},Mq zs vs=true->vs=zs.map ZC.val/\ ∀z∈zs,z.val.oneCell'=true
 |[],[],_=>⟨rfl,by simp⟩
 |[],_::_,h=>absurd h (by simp[Mq])
 |_::_,[],h=>absurd h (by simp[Mq])
 |z::zs,v::vs,h=>by
  simp only[Mq,ab]at h;obtain⟨h1,h2⟩:=Vv h.1;obtain⟨h3,h4⟩:=LC h.2;refine⟨by rw[h3,<-h1];rfl,fun x hx=>?_⟩;rcases List.mem_cons.1 hx with rfl|hx
  ·exact h2
  ·exact h4 x hx
theorem U5{P:Program}{t:TypeId}{f g:Field}{k1 k2:IntKind}(hu:P.underlying t=some (.struct #[f,g]))(h1:P.underlying f.type=some (.int k1))(h2:P.underlying g.type=some (.int k2))(o1:f.offset=0)(o2:g.offset=1)
 (n1:(f.name != "_")=true)(n2:(g.name != "_")=true)(hm:P.eqGuardType P.depth t=false)(hp:P.stoodInHeld t=false)(xo yo:Operand)(a b c d:Int)(k k':IntKind)(w:World):
 (do eqGuard .eql t xo yo (.agg #[.int k a, .int k' b]) (.agg #[.int k c, .int k' d]);binOp .eql t (.agg #[.int k a, .int k' b]) (.agg #[.int k c, .int k' d])).run P w= .ok (.bool (a==c&&b==d)) w/\
 (do eqGuard .neq t xo yo (.agg #[.int k a, .int k' b]) (.agg #[.int k c, .int k' d]);binOp .neq t (.agg #[.int k a, .int k' b]) (.agg #[.int k c, .int k' d])).run P w= .ok (.bool (!(a==c&&b==d))) w:=by
 have hf:P.fieldsOf t= #[f,g]:=by simp[Program.fieldsOf,hu]
 have hu':P.underlying t=some (.struct (P.fieldsOf t)):=by rw[hf];exact hu
 have n1':f.name≠ "_" :=by simpa using n1
 have n2':g.name≠ "_" :=by simpa using n2
 have e:(Op.equalIn 10000 t (.agg #[.int k a, .int k' b]) (.agg #[.int k c, .int k' d])).run P w= .ok (a==c&&b==d) w:=by
  rw[show(10000:Nat)=9998+1+1 from rfl,run_equalIn_struct w _ t _ _ hu' hp,hf];simp only[Op.eqFields,o1,o2,n1',n2',Sem.run_bind,Sem.run_ite,ne_eq,not_false_eq_true,if_true];have p1:∀(x y:Value),(part f.type #[x,y] 0).run P w= .ok (if JX x then x else x) w\/True:=fun _ _=> .inr trivial
  have q1:∀(x y:Value),(part f.type #[x,y] 0).run P w= .ok x w:=by
   intro x y;simp[part,isAgg,run_underlying h1]
  have q2:∀(x y:Value),(part g.type #[x,y] 1).run P w= .ok y w:=by
   intro x y;simp[part,isAgg,run_underlying h2]
  simp only[q1,q2,Result.andThen_ok,run_equalIn_int w _ _ k k1 a c h1,run_equalIn_int w _ _ k' k2 b d h2];cases a==c<;>cases b==d<;>simp
 constructor
 ·rw[Sem.run_bind,run_eqGuard_agg w _ t xo yo _ _ hm,Result.andThen_ok,run_eql_struct,e];rfl
 ·rw[Sem.run_bind,run_eqGuard_agg w _ t xo yo _ _ hm,Result.andThen_ok,run_neq_struct,e];rfl
theorem C5{P:Program}{t:Nat}(h:Eb P t=true):∃k,P.underlying t=some (.int k):=by
 unfold Eb at h;split at h
 ·exact⟨_,by assumption⟩
 ·exact absurd h (by decide)
theorem HF{P:Program}:∀{fs:List Field} {is:List (Nat × Nat × Nat)},Bp P fs is=true-> ∀(n off ft sz:Nat),is[n]? =some (off,ft,sz)->0<sz/\ ∃f:Field,fs[n]? =some f/\f.offset=off/\f.type=ft/\(P.info? ft).map (·.size)=some sz
 |[],[],_,n,off,ft,sz,h=>by simp at h
 |[],_::_,h,_,_,_,_,_=>absurd h (by simp[Bp])
 |_::_,[],h,_,_,_,_,_=>absurd h (by simp[Bp])
 |f::fs,(o,t,s)::is,h,n,off,ft,sz,hn=>by
  simp only[Bp,ab]at h;obtain⟨h1,h2,h3,h4,h5⟩:=h;cases n with
  |zero=>
   simp only[List.getElem?_cons_zero,Option.some.injEq,Prod.mk.injEq]at hn;obtain⟨rfl,rfl,rfl⟩:=hn;refine⟨by rw[Nat.blt_eq]at h3;exact h3,f,rfl,ae h1,ae h2,?_⟩;split at h4
   ·rename_i inf hi;rw[hi];simp[ae h4]
   ·exact absurd h4 (by decide)
  |succ n=>exact HF h5 n off ft sz (by simpa using hn)
theorem yi{P:Program}:∀{fs:List Field} {is:List (Nat × Nat × Nat)},Bp P fs is=true->fs.mapM (fun(f:Field)=>(P.info? f.type).map fun i=>(f.offset,i.size))=some (is.map fun x=>(x.1,x.2.2))
 |[],[],_=>rfl
 |[],_::_,h=>absurd h (by simp[Bp])
 |_::_,[],h=>absurd h (by simp[Bp])
 |f::fs,(o,t,s)::is,h=>by
  simp only[Bp,ab]at h;obtain⟨h1,h2,h3,h4,h5⟩:=h;have ih:=yi h5;have e1:=ae h1;have e2:=ae h2;subst e1 e2;split at h4
  ·rename_i inf hi;have e3:=ae h4;subst e3;rw[List.mapM_cons,hi,ih];rfl
  ·exact absurd h4 (by decide)
theorem Fi{P:Program}{t:Nat}{i:iZ}(h:O6 P t i=true):vM P t i:=by
 unfold O6 at h;split at h
 case h_2=>exact absurd h (by decide)
 rename_i inf d hi hu;simp only[ab]at h;obtain⟨h1,h2,h3,h4,h5,h6,h7,h8,⟨Z7,Cz⟩,Ci,h9⟩:=h;have e1:=ae h1;refine⟨by rw[hi];simp[e1],⟨d,hu,WI h2⟩,?_,?_,?_,?_,?_,?_,?_,?_,?_,?_,?_⟩
 ·unfold Uc at h3;split at h3
  ·exact absurd h3 (by decide)
  ·rename_i z hz;simp only[ab]at h3;obtain⟨g1,g2,g3⟩:=h3;obtain⟨z1,z2⟩:=LC g1;refine⟨inf,z,hi,hz,z1,by simpa using ae g2,fun ha=>?_,z2⟩;have:=DQ g3 ha;cases z<;>simp[JX]at this;rfl
 ·intro e sz ZB he;rw[he]at h4;simp only[UH,ab]at h4;obtain⟨⟨g1,g2⟩,g3⟩:=h4;split at g1
  case h_2=>exact absurd g1 (by decide)
  have:=ae g1;subst this;split at g3
  case h_2=>exact absurd g3 (by decide)
  rename_i VW UC;simp only[ab]at g3;obtain⟨g3,g4,g5⟩:=g3;split at g5
  case h_2=>exact absurd g5 (by decide)
  rename_i z hz;exact⟨hu,by rw[Nat.blt_eq]at g2;exact g2,VW,z,UC,ae g3,ae g4,hz,by simpa using ae g5⟩
 ·intro n off ft W0 hn;unfold ES at h5;split at h5
  ·rename_i hl;rw[hl]at hn;simp at hn
  ·split at h5
   ·rename_i fs;obtain⟨g1,f,g2,g3⟩:=HF h5 n off ft W0 hn;exact⟨g1,fs,f,hu,by simpa using g2,g3⟩
   ·exact absurd h5 (by decide)
 ·intro jr;unfold ES at h5;split at h5
  ·rename_i hl;exact absurd hl jr
  ·split at h5
   ·rename_i fs;exact⟨fs,hu,yi h5⟩
   ·exact absurd h5 (by decide)
 ·intro k hk;rw[hk]at h6;unfold ikB at h6;simp only at h6;split at h6
  ·rw[rI h6];exact hu
  ·exact absurd h6 (by decide)
 ·intro hb;have:=DQ h7 hb;cases d<;>simp[KG]at this;exact hu
 ·intro hb;have:=DQ h8 hb;cases d<;>simp[On]at this;exact hu
 ·intro Zw aa4 z lg hz;rw[hi]at lg;injection lg with lg
  subst lg;rw[hz]at Z7;unfold Ue at Z7;rw[Zw]at Z7;exact Z7
 ·intro k e hk;rw[hk]at Cz;unfold T8 at Cz;simp only at Cz;split at Cz
  case h_2=>exact absurd Cz (by decide)
  rename_i kt e';simp only[ab]at Cz;obtain⟨g1,g2⟩:=Cz;have:=ae g1;subst this;refine⟨kt,hu,?_⟩;split at g2
  ·rename_i k' k0 sY;rw[sY,rI g2];rfl
  ·rename_i sY;rw[sY];rfl
  ·exact absurd g2 (by decide)
 ·intro e sz n he;rw[he]at Ci;unfold Ze at Ci;simp only at Ci;split at Ci
  case h_2=>exact absurd Ci (by decide)
  simp only[ab]at Ci;obtain⟨g1,g2,g3⟩:=Ci;have:=ae g1;subst this;have:=ae g2;subst this;split at g3
  ·rename_i VW UC;exact⟨hu,VW,UC,ae g3⟩
  ·exact absurd g3 (by decide)
 ·intro hb;have:=DQ h9 hb;unfold Zu at this;split at this
  case h_2=>exact absurd this (by decide)
  rename_i fs;split at this
  case h_2=>exact absurd this (by decide)
  rename_i f g hfg;simp only[ab,Bool.not_eq_true']at this;obtain⟨a1,a2,a3,a4,a5,a6,a7,a8⟩:=this;obtain⟨k1,b1⟩:=C5 a1;obtain⟨k2,b2⟩:=C5 a2;have yN:fs= #[f,g]:=by
   have:=congrArg List.toArray hfg;simpa using this
  exact U5 (yN▸hu) b1 b2 (ae a3) (ae a4) a5 a6 a7 a8
theorem FL{P:Program}:∀{l:List (Nat × iZ)},R2 P l=true-> ∀t i,(t,i)∈l->vM P t i
 |[],_,t,i,h=>by simp at h
 |(u,j)::r,h,t,i,hm=>by
  simp only[R2,ab]at h;rcases List.mem_cons.1 hm with e|hm
  ·injection e with e1 e2;subst e1 e2;exact Fi h.1
  ·exact FL h.2 t i hm
theorem Pg{P:Program}{tbl:TT}(h:R2 P tbl.toList=true):en P tbl:=fun t i hf=>FL h t i (tbl.mem t i hf)
end Go.KA
