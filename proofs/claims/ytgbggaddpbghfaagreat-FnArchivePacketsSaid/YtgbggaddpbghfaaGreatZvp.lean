/- A packet that is taken in twice does what it does once, and one that is lost changes no server: the law's check, from the arguments' cells to its answer. No conditions. -/
import Derived.Test.YtgbggaddpbghfaaGreatKAT
import Derived.Test.YtgbggaddpbghfaaGreatZrb
import Derived.Test.YtgbggaddpbghfaaGreatRows
namespace Go.Proofs.YtgbggaddpbghfaaGreat
open Go Go.KA Go.Proofs
theorem own:ownKnob Tryz.prog.godebug=none:=by kernel_rfl
theorem laidOut:laidOutB Tryz.prog=true:=by kernel_rfl
set_option maxRecDepth 100000 in
theorem fnArchivePackets_lifted(os:Os)(started:os.Started)(H:Type)(enc:TypeId × Value→H):
 ReturnsInHanded {} Tryz.checked os 4 .any (Rows.fnArchivePacketsSpec.pre6 enc Tryz.prog Tryz.f4 Rows.fnArchivePacketsRow.domain false) (Rows.fnArchivePacketsSpec.post enc Tryz.prog Tryz.f4 false true false false):=by
 refine returnsInHanded_of_change (C:=Tryz.checked) own started (by kernel_rfl) Tryz.func4
  (ChangeSpec.witness6 (enc:=enc) (C:=Tryz.checked) false ⟨#[],#[.slice none 0 0, .slice none 0 0],[]⟩ 8 (by kernel_rfl) (by kernel_rfl) (by kernel_rfl) (by kernel_rfl)) ?_
 intro W base args ds gs before hval0 hW _ _
 have hval:∀(j:Nat) t v,Tryz.f4.params[j]? =some t→args[j]? =some v→Value.okWide Tryz.prog W .any base t v:=hval0
 have hW':DataW.Whole enc Tryz.prog Tryz.f4.params.toList Rows.fnArchivePacketsSpec.vars false W args.toList ds gs before:=hW
 obtain⟨p,q,hA,hV,hpq,_,_⟩:=id hW'
 rw[Tryz.params4] at hA hval
 obtain⟨v0,vs0,d0,ds0,p0,q0,hargs,rfl,rfl,h0,r0⟩:=ChangeShapes.trodAll_cons hA
 obtain⟨v1,vs1,d1,ds1,p1,q1,rfl,rfl,rfl,h1,r1⟩:=ChangeShapes.trodAll_cons r0
 obtain⟨rfl,rfl,rfl⟩:=ChangeShapes.trodAll_nil r1
 obtain⟨rfl,rfl⟩:=ChangeShapes.trodVars_none hV
 obtain rfl:args= #[v0,v1]:=by cases args;simp_all
 have hv0:=uL Tryz.underlying22 (hval 0 22 v0 rfl rfl)
 obtain⟨x0,l0,D0,_,g0⟩:=Reads.arg ze h0
 have V0:=Pz hv0 D0
 have hv1:=uL Tryz.underlying22 (hval 1 22 v1 rfl rfl)
 obtain⟨x1,l1,D1,_,g1⟩:=Reads.arg ze h1
 have V1:=Pz hv1 D1
 refine(Is (vs:=[v0,v1]) (qV x0 x1) rfl fun j s v hs hv'=> ?_).mono ?_
 ·cases j with
  |zero=>simp at hs hv';subst hs hv';exact V0
  |succ j=>
   cases j with
   |zero=>simp at hs hv';subst hs hv';exact V1
   |succ j=>
    simp at hs
 ·rintro e W' ⟨rfl,hb⟩
  refine⟨_,rfl,Lm laidOut rfl rfl Tryz.underlying4 ?_ hW' rfl hb⟩
  intro t ht
  rw[Tryz.params4] at ht
  simp at ht
  subst ht
  exact⟨by kernel_rfl,of_decide_eq_true (by kernel_rfl)⟩
theorem HR{P:Program}{f:FuncId}{fn:Func}{s:ChangeSpec}{c:OpenClaim}
 (k1:c.wf (OpenSpec.ofChange s)=true)
 (k2:laidOutB P=true)
 (k3:mapsRowed P=true)
 (k4:fn.params.all (P.readableRec ·)=true)
 (k5:namedTie P c.named s.vars=true)
 (k6:(c.stops==[])=true)
 (k7:(P.stops==[])=true)
 (k8:(c.knobs==[])=true)
 (k9:(P.stopKnobs==[])=true)
 (k10:(c.inPlace==P.inPlace f)=true)
 (k11:(c.unfollowed==P.unfollowed f)=true)
 (k12:(c.recurses==P.recurses f)=true)
 (k13:(c.named==P.varsNamed f)=true)
 (k14:(c.maps==(fn.params.toList++s.plain.varTypes P).any (P.mapsRec ·))=true)
 (k15:(c.ifaces==(fn.params.toList++s.plain.varTypes P).any (P.ifacesRec ·))=true)
 (k16:(c.mapsOut==P.mapsAmong fn.resultTypes.toList)=true)
 (k17:(c.loops==(fn.params.toList++s.plain.varTypes P).any (P.loopsFrom ·))=true)
 (k18:(c.wideKeys==(fn.params.toList++s.plain.varTypes P++fn.resultTypes.toList).any (P.wideKeysFrom ·))=true)
 (k19:s.vars.all (P.varReadable ·)=true)
 (k20:fn.resultTypes.all (fun t=>P.readableRec t&&decide (t<P.types.size))=true)
 (k21:(c.ifacesOut==fn.resultTypes.toList.any (P.ifacesRec ·))=true)
 (k22:(c.loopsOut==fn.resultTypes.toList.any (P.loopsFrom ·))=true)
 (k23:(c.plainKeys==P.plainKeys)=true)
 (k24:c.shortTexts.isNone=true)
 (k25:P.stopsHeard=true)
 (k26:P.mayEnter=true)
 (k27:(c.lifted==P.liftsFinal)=true)
 (k28:(P.make==some c.make)=true)
 (k29:(c.kinds==(if c.domain.isEmpty then[] else fn.params.toList.map fun t=>match P.underlying t with|some (.int k)=>some k|_=>none))=true)
 (k30:(c.pinned==c.pinnedBy)=true)
 (k31:(c.veiled==(fn.params.toList++s.plain.varTypes P++fn.resultTypes.toList).any (P.veiledRec ·))=true)
 (k32:c.veiledFits P fn.params.toList (fn.params.toList++s.plain.varTypes P++fn.resultTypes.toList)=true):joinedFacts P f fn s c=true:=by
 unfold joinedFacts
 simp only[Bool.and_eq_true]
 and_intros<;>assumption
theorem qv:Rows.fnArchivePacketsRow.wf (OpenSpec.ofChange Rows.fnArchivePacketsSpec)=true:=by kernel_rfl
theorem qx:laidOutB Tryz.prog=true:=by kernel_rfl
theorem qs:mapsRowed Tryz.prog=true:=by kernel_rfl
theorem qq:Tryz.f4.params.all (Tryz.prog.readableRec ·)=true:=by kernel_rfl
theorem oC:(Rows.fnArchivePacketsRow.inPlace==Tryz.prog.inPlace 4)=true:=by kernel_rfl
theorem pN:(Rows.fnArchivePacketsRow.unfollowed==Tryz.prog.unfollowed 4)=true:=by kernel_rfl
theorem pR:(Rows.fnArchivePacketsRow.recurses==Tryz.prog.recurses 4)=true:=by kernel_rfl
theorem pE:(Rows.fnArchivePacketsRow.named==Tryz.prog.varsNamed 4)=true:=by kernel_rfl
theorem oJ:(Rows.fnArchivePacketsRow.maps==(Tryz.f4.params.toList++Rows.fnArchivePacketsSpec.plain.varTypes Tryz.prog).any (Tryz.prog.mapsRec ·))=true:=by kernel_rfl
theorem pB:(Rows.fnArchivePacketsRow.ifaces==(Tryz.f4.params.toList++Rows.fnArchivePacketsSpec.plain.varTypes Tryz.prog).any (Tryz.prog.ifacesRec ·))=true:=by kernel_rfl
theorem oK:(Rows.fnArchivePacketsRow.mapsOut==Tryz.prog.mapsAmong Tryz.f4.resultTypes.toList)=true:=by kernel_rfl
theorem pK:(Rows.fnArchivePacketsRow.loops==(Tryz.f4.params.toList++Rows.fnArchivePacketsSpec.plain.varTypes Tryz.prog).any (Tryz.prog.loopsFrom ·))=true:=by kernel_rfl
theorem oT:(Rows.fnArchivePacketsRow.wideKeys==(Tryz.f4.params.toList++Rows.fnArchivePacketsSpec.plain.varTypes Tryz.prog++Tryz.f4.resultTypes.toList).any (Tryz.prog.wideKeysFrom ·))=true:=by kernel_rfl
theorem oV:Tryz.f4.resultTypes.all (fun t=>Tryz.prog.readableRec t&&decide (t<Tryz.prog.types.size))=true:=by kernel_rfl
theorem o9:(Rows.fnArchivePacketsRow.ifacesOut==Tryz.f4.resultTypes.toList.any (Tryz.prog.ifacesRec ·))=true:=by kernel_rfl
theorem pC:(Rows.fnArchivePacketsRow.loopsOut==Tryz.f4.resultTypes.toList.any (Tryz.prog.loopsFrom ·))=true:=by kernel_rfl
theorem pH:(Rows.fnArchivePacketsRow.plainKeys==Tryz.prog.plainKeys)=true:=by kernel_rfl
theorem oM:Tryz.prog.stopsHeard=true:=by kernel_rfl
theorem pe:Tryz.prog.mayEnter=true:=by kernel_rfl
theorem o8:(Rows.fnArchivePacketsRow.lifted==Tryz.prog.liftsFinal)=true:=by kernel_rfl
theorem o0:(Rows.fnArchivePacketsRow.veiled==(Tryz.f4.params.toList++Rows.fnArchivePacketsSpec.plain.varTypes Tryz.prog++Tryz.f4.resultTypes.toList).any (Tryz.prog.veiledRec ·))=true:=by kernel_rfl
theorem oO:Rows.fnArchivePacketsRow.veiledFits Tryz.prog Tryz.f4.params.toList (Tryz.f4.params.toList++Rows.fnArchivePacketsSpec.plain.varTypes Tryz.prog++Tryz.f4.resultTypes.toList)=true:=by kernel_rfl
theorem m6:joinedFacts Tryz.prog 4 Tryz.f4 Rows.fnArchivePacketsSpec Rows.fnArchivePacketsRow=true:=
 HR qv qx qs qq (by kernel_rfl) (by kernel_rfl) (by kernel_rfl) (by kernel_rfl) (by kernel_rfl) oC pN pR pE oJ pB oK pK oT (by kernel_rfl) oV o9 pC pH (by kernel_rfl) oM pe o8 (by kernel_rfl) (by kernel_rfl) (by kernel_rfl) o0 oO
theorem fnArchivePackets_holds:Rows.FnArchivePacketsSaid:=
 OpenClaim.holds_of_wide 4 Tryz.f4 rfl rfl rfl rfl rfl rfl rfl ⟨rfl,rfl,rfl,rfl,rfl⟩ rfl rfl rfl rfl rfl (by kernel_rfl) Tryz.func4 m6
  (of_decide_eq_true (by kernel_rfl)) (by unfold Func.isWrapper;first|(rw[if_pos (by decide+kernel)];kernel_rfl)|(rw[if_neg (by decide+kernel)];exact⟨rfl,rfl⟩))
  (fun os started H enc _=>fnArchivePackets_lifted os started H enc)
end Go.Proofs.YtgbggaddpbghfaaGreat
