/- Where more than half of all servers have saved a revocation, what rests on the revoked lemma is not told: the law's check, from the arguments' cells to its answer. No conditions. -/
import Derived.Test.YtgbggaddpbghfaaGreatKAT
import Derived.Test.YtgbggaddpbghfaaGreatZrb
import Derived.Test.YtgbggaddpbghfaaGreatRows
namespace Go.Proofs.YtgbggaddpbghfaaGreat
open Go Go.KA Go.Proofs
theorem own:ownKnob Tryz.prog.godebug=none:=by kernel_rfl
theorem laidOut:laidOutB Tryz.prog=true:=by kernel_rfl
set_option maxRecDepth 100000 in
theorem fnArchiveSafe_lifted(os:Os)(started:os.Started)(H:Type)(enc:TypeId × Value->H):
 ReturnsInHanded {} Tryz.checked os 5 .any (Rows.fnArchiveSafeSpec.pre6 enc Tryz.prog Tryz.f5 Rows.fnArchiveSafeRow.domain false) (Rows.fnArchiveSafeSpec.post enc Tryz.prog Tryz.f5 false true false false):=by
 refine returnsInHanded_of_change (C:=Tryz.checked) own started (by kernel_rfl) Tryz.func5
  (ChangeSpec.witness6 (enc:=enc) (C:=Tryz.checked) false ⟨#[],#[.slice none 0 0, .slice none 0 0],[]⟩ 8 (by kernel_rfl) (by kernel_rfl) (by kernel_rfl) (by kernel_rfl)) ?_
 intro W base args ds gs before ZD hW _ _;have VB:∀(j:Nat) t v,Tryz.f5.params[j]? =some t->args[j]? =some v->Value.okWide Tryz.prog W .any base t v:=ZD
 have hW':DataW.Whole enc Tryz.prog Tryz.f5.params.toList Rows.fnArchiveSafeSpec.vars false W args.toList ds gs before:=hW;obtain⟨p,q,hA,hV,Xm,_,_⟩:=id hW';rw[Tryz.params5]at hA VB;obtain⟨v0,N7,d0,ds0,p0,q0,o7,rfl,rfl,h0,r0⟩:=ChangeShapes.trodAll_cons hA;obtain⟨v1,vs1,d1,ds1,p1,q1,rfl,rfl,rfl,h1,r1⟩:=ChangeShapes.trodAll_cons r0;obtain⟨rfl,rfl,rfl⟩:=ChangeShapes.trodAll_nil r1;obtain⟨rfl,rfl⟩:=ChangeShapes.trodVars_none hV;obtain rfl:args= #[v0,v1]:=by cases args;simp_all
 have wj:=xV Tryz.underlying22 (VB 0 22 v0 rfl rfl);obtain⟨x0,l0,D0,_,g0⟩:=Reads.arg CT h0;have V0:=Yl wj D0;have RB:=xV Tryz.underlying22 (VB 1 22 v1 rfl rfl);obtain⟨x1,l1,D1,_,g1⟩:=Reads.arg CT h1;have V1:=Yl RB D1;refine(NF (vs:=[v0,v1]) (yw x0 x1) rfl fun j s v hs gZ=>?_).mono ?_
 ·cases j with
  |zero=>simp at hs gZ;subst hs gZ;exact V0
  |succ j=>
   cases j with
   |zero=>simp at hs gZ;subst hs gZ;exact V1
   |succ j=>
    simp at hs
 ·rintro e W' ⟨rfl,hb⟩;refine⟨_,rfl,Q0 laidOut rfl rfl Tryz.underlying4 ?_ hW' rfl hb⟩;intro t ht;rw[Tryz.params5]at ht;simp at ht;subst ht;exact⟨by kernel_rfl,of_decide_eq_true (by kernel_rfl)⟩
theorem ME{P:Program}{f:FuncId}{fn:Func}{s:ChangeSpec}{c:OpenClaim}
 (k1:c.wf (OpenSpec.ofChange s)=true)
 (k2:laidOutB P=true)
 (k3:mapsRowed P=true)
 (k4:fn.params.all (P.readableRec ·)=true)
 (k5:namedTie P c.named s.vars=true)
 (k6:(c.stops==[])=true)
 (k7:(P.stops==[])=true)
 (k8:(c.knobs==[])=true)
 (k9:(P.stopKnobs==[])=true)
 (k10:(c.inPlace==P.inPlace f)=true)
 (k11:(c.unfollowed==P.unfollowed f)=true)
 (k12:(c.recurses==P.recurses f)=true)
 (k13:(c.named==P.varsNamed f)=true)
 (k14:(c.maps==(fn.params.toList++s.plain.varTypes P).any (P.mapsRec ·))=true)
 (k15:(c.ifaces==(fn.params.toList++s.plain.varTypes P).any (P.ifacesRec ·))=true)
 (k16:(c.mapsOut==P.mapsAmong fn.resultTypes.toList)=true)
 (k17:(c.loops==(fn.params.toList++s.plain.varTypes P).any (P.loopsFrom ·))=true)
 (k18:(c.wideKeys==(fn.params.toList++s.plain.varTypes P++fn.resultTypes.toList).any (P.wideKeysFrom ·))=true)
 (k19:s.vars.all (P.varReadable ·)=true)
 (k20:fn.resultTypes.all (fun t=>P.readableRec t&&decide (t<P.types.size))=true)
 (k21:(c.ifacesOut==fn.resultTypes.toList.any (P.ifacesRec ·))=true)
 (k22:(c.loopsOut==fn.resultTypes.toList.any (P.loopsFrom ·))=true)
 (k23:(c.plainKeys==P.plainKeys)=true)
 (k24:c.shortTexts.isNone=true)
 (k25:P.stopsHeard=true)
 (k26:P.mayEnter=true)
 (k27:(c.lifted==P.liftsFinal)=true)
 (k28:(P.make==some c.make)=true)
 (k29:(c.kinds==(if c.domain.isEmpty then[]else fn.params.toList.map fun t=>match P.underlying t with|some (.int k)=>some k|_=>none))=true)
 (k30:(c.pinned==c.pinnedBy)=true)
 (k31:(c.veiled==(fn.params.toList++s.plain.varTypes P++fn.resultTypes.toList).any (P.veiledRec ·))=true)
 (k32:c.veiledFits P fn.params.toList (fn.params.toList++s.plain.varTypes P++fn.resultTypes.toList)=true):joinedFacts P f fn s c=true:=by
 unfold joinedFacts;simp only[ab]
 and_intros<;>assumption
theorem xy:Rows.fnArchiveSafeRow.wf (OpenSpec.ofChange Rows.fnArchiveSafeSpec)=true:=by kernel_rfl
theorem w9:laidOutB Tryz.prog=true:=by kernel_rfl
theorem xr:mapsRowed Tryz.prog=true:=by kernel_rfl
theorem wH:Tryz.f5.params.all (Tryz.prog.readableRec ·)=true:=by kernel_rfl
theorem vm:(Rows.fnArchiveSafeRow.inPlace==Tryz.prog.inPlace 5)=true:=by kernel_rfl
theorem uT:(Rows.fnArchiveSafeRow.unfollowed==Tryz.prog.unfollowed 5)=true:=by kernel_rfl
theorem we:(Rows.fnArchiveSafeRow.recurses==Tryz.prog.recurses 5)=true:=by kernel_rfl
theorem u9:(Rows.fnArchiveSafeRow.named==Tryz.prog.varsNamed 5)=true:=by kernel_rfl
theorem vX:(Rows.fnArchiveSafeRow.maps==(Tryz.f5.params.toList++Rows.fnArchiveSafeSpec.plain.varTypes Tryz.prog).any (Tryz.prog.mapsRec ·))=true:=by kernel_rfl
theorem vP:(Rows.fnArchiveSafeRow.ifaces==(Tryz.f5.params.toList++Rows.fnArchiveSafeSpec.plain.varTypes Tryz.prog).any (Tryz.prog.ifacesRec ·))=true:=by kernel_rfl
theorem wc:(Rows.fnArchiveSafeRow.mapsOut==Tryz.prog.mapsAmong Tryz.f5.resultTypes.toList)=true:=by kernel_rfl
theorem uQ:(Rows.fnArchiveSafeRow.loops==(Tryz.f5.params.toList++Rows.fnArchiveSafeSpec.plain.varTypes Tryz.prog).any (Tryz.prog.loopsFrom ·))=true:=by kernel_rfl
theorem vZ:(Rows.fnArchiveSafeRow.wideKeys==(Tryz.f5.params.toList++Rows.fnArchiveSafeSpec.plain.varTypes Tryz.prog++Tryz.f5.resultTypes.toList).any (Tryz.prog.wideKeysFrom ·))=true:=by kernel_rfl
theorem vp:Tryz.f5.resultTypes.all (fun t=>Tryz.prog.readableRec t&&decide (t<Tryz.prog.types.size))=true:=by kernel_rfl
theorem uy:(Rows.fnArchiveSafeRow.ifacesOut==Tryz.f5.resultTypes.toList.any (Tryz.prog.ifacesRec ·))=true:=by kernel_rfl
theorem uv:(Rows.fnArchiveSafeRow.loopsOut==Tryz.f5.resultTypes.toList.any (Tryz.prog.loopsFrom ·))=true:=by kernel_rfl
theorem vA:(Rows.fnArchiveSafeRow.plainKeys==Tryz.prog.plainKeys)=true:=by kernel_rfl
theorem uC:Tryz.prog.stopsHeard=true:=by kernel_rfl
theorem vV:Tryz.prog.mayEnter=true:=by kernel_rfl
theorem uw:(Rows.fnArchiveSafeRow.lifted==Tryz.prog.liftsFinal)=true:=by kernel_rfl
theorem vW:(Rows.fnArchiveSafeRow.veiled==(Tryz.f5.params.toList++Rows.fnArchiveSafeSpec.plain.varTypes Tryz.prog++Tryz.f5.resultTypes.toList).any (Tryz.prog.veiledRec ·))=true:=by kernel_rfl
theorem vd:Rows.fnArchiveSafeRow.veiledFits Tryz.prog Tryz.f5.params.toList (Tryz.f5.params.toList++Rows.fnArchiveSafeSpec.plain.varTypes Tryz.prog++Tryz.f5.resultTypes.toList)=true:=by kernel_rfl
theorem rS:joinedFacts Tryz.prog 5 Tryz.f5 Rows.fnArchiveSafeSpec Rows.fnArchiveSafeRow=true:=
 ME xy w9 xr wH (by kernel_rfl) (by kernel_rfl) (by kernel_rfl) (by kernel_rfl) (by kernel_rfl) vm uT we u9 vX vP wc uQ vZ (by kernel_rfl) vp uy uv vA (by kernel_rfl) uC vV uw (by kernel_rfl) (by kernel_rfl) (by kernel_rfl) vW vd
theorem fnArchiveSafe_holds:Rows.FnArchiveSafeSaid:=
 OpenClaim.holds_of_wide 5 Tryz.f5 rfl rfl rfl rfl rfl rfl rfl ⟨rfl,rfl,rfl,rfl,rfl⟩ rfl rfl rfl rfl rfl (by kernel_rfl) Tryz.func5 rS
  (of_decide_eq_true (by kernel_rfl)) (by unfold Func.isWrapper;first|(rw[if_pos (by decide+kernel)];kernel_rfl)|(rw[if_neg (by decide+kernel)];exact⟨rfl,rfl⟩))
  (fun os started H enc _=>fnArchiveSafe_lifted os started H enc)
end Go.Proofs.YtgbggaddpbghfaaGreat
