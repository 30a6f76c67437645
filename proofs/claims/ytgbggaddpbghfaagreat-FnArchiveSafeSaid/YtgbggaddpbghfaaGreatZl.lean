/- The library's function laid at this program, in plain words. No conditions. -/
import Derived.Shelf.SlGeneric
import Derived.Ground.SlgnProg
import Derived.Shelf.SortG.Plain
import Derived.Shelf.SortG.SortNone
import Derived.Test.YtgbggaddpbghfaaGreatProg
namespace Go.Proofs.YtgbggaddpbghfaaGreat
open Go.Shelf
def Il:Go.Shelf.Ren:=⟨fun|53=>103|64=>131|63=>130|78=>164|79=>165|70=>155|71=>156|72=>157|73=>158|74=>159|75=>160|59=>161|76=>162|77=>163|88=>180|89=>181|90=>182|91=>183|92=>184|68=>185|96=>207|n=>n,fun|22=>31|23=>2|3=>3|51=>119|0=>0|67=>210|69=>132|4=>4|61=>202|60=>201|44=>207|5=>5|9=>9|75=>232|79=>236|83=>262|84=>263|n=>n,fun|n=>n⟩
theorem LX:Go.Proofs.SlLaysN.n53 Tryz.prog Il:={
 mixed:=by kernel_rfl
 f53:=⟨Tryz.f103.name,by decide,Tryz.func103.trans (congrArg some (by kernel_rfl))⟩
 f59:=⟨Tryz.f161.name,by decide,Tryz.func161.trans (congrArg some (by kernel_rfl))⟩
 f63:=⟨Tryz.f130.name,by decide,Tryz.func130.trans (congrArg some (by kernel_rfl))⟩
 f64:=Tryz.func131.trans (congrArg some (by kernel_rfl))
 f68:=⟨Tryz.f185.name,by decide,Tryz.func185.trans (congrArg some (by kernel_rfl))⟩
 f70:=⟨Tryz.f155.name,by decide,Tryz.func155.trans (congrArg some (by kernel_rfl))⟩
 f71:=⟨Tryz.f156.name,by decide,Tryz.func156.trans (congrArg some (by kernel_rfl))⟩
 f72:=⟨Tryz.f157.name,by decide,Tryz.func157.trans (congrArg some (by kernel_rfl))⟩
 f73:=⟨Tryz.f158.name,by decide,Tryz.func158.trans (congrArg some (by kernel_rfl))⟩
 f74:=⟨Tryz.f159.name,by decide,Tryz.func159.trans (congrArg some (by kernel_rfl))⟩
 f75:=⟨Tryz.f160.name,by decide,Tryz.func160.trans (congrArg some (by kernel_rfl))⟩
 f76:=⟨Tryz.f162.name,by decide,Tryz.func162.trans (congrArg some (by kernel_rfl))⟩
 f77:=⟨Tryz.f163.name,by decide,Tryz.func163.trans (congrArg some (by kernel_rfl))⟩
 f78:=Tryz.func164.trans (congrArg some (by kernel_rfl))
 f79:=Tryz.func165.trans (congrArg some (by kernel_rfl))
 f88:=⟨Tryz.f180.name,by decide,Tryz.func180.trans (congrArg some (by kernel_rfl))⟩
 f89:=Tryz.func181.trans (congrArg some (by kernel_rfl))
 f90:=Tryz.func182.trans (congrArg some (by kernel_rfl))
 f91:=⟨Tryz.f183.name,by decide,Tryz.func183.trans (congrArg some (by kernel_rfl))⟩
 f92:=⟨Tryz.f184.name,by decide,Tryz.func184.trans (congrArg some (by kernel_rfl))⟩
 f96:=⟨Tryz.f207.name,by decide,Tryz.func207.trans (congrArg some (by kernel_rfl))⟩
 t0:=Tryz.underlying0
 a0:=Tryz.isAgg0
 z0:=Tryz.sizeOf0
 v0:=Tryz.zeroValue0
 t3:=Tryz.underlying3
 a3:=Tryz.isAgg3
 z3:=Tryz.sizeOf3
 v3:=Tryz.zeroValue3
 t4:=Tryz.underlying4
 a4:=Tryz.isAgg4
 z4:=Tryz.sizeOf4
 v4:=Tryz.zeroValue4
 t5:=Tryz.underlying5
 a5:=Tryz.isAgg5
 z5:=Tryz.sizeOf5
 v5:=Tryz.zeroValue5
 t9:=Tryz.underlying9
 a9:=Tryz.isAgg9
 z9:=Tryz.sizeOf9
 v9:=Tryz.zeroValue9
 t22:=Tryz.underlying31
 a22:=Tryz.isAgg31
 z22:=Tryz.sizeOf31
 v22:=Tryz.zeroValue31
 t23:=Tryz.underlying2
 a23:=Tryz.isAgg2
 z23:=Tryz.sizeOf2
 v23:=Tryz.zeroValue2
 t44:=Tryz.underlying207
 a44:=Tryz.isAgg207
 z44:=Tryz.sizeOf207
 v44:=Tryz.zeroValue207
 t51:=Tryz.underlying119
 a51:=Tryz.isAgg119
 z51:=Tryz.sizeOf119
 v51:=Tryz.zeroValue119
 t60:=Tryz.underlying201
 a60:=Tryz.isAgg201
 z60:=Tryz.sizeOf201
 v60:=Tryz.zeroValue201
 t61:=Tryz.underlying202
 a61:=Tryz.isAgg202
 z61:=Tryz.sizeOf202
 v61:=Tryz.zeroValue202
 t67:=Tryz.underlying210
 a67:=Tryz.isAgg210
 z67:=Tryz.sizeOf210
 v67:=Tryz.zeroValue210
 t69:=Tryz.underlying132
 a69:=Tryz.isAgg132
 z69:=Tryz.sizeOf132
 v69:=Tryz.zeroValue132
 t75:=Tryz.underlying232
 a75:=Tryz.isAgg232
 z75:=Tryz.sizeOf232
 v75:=Tryz.zeroValue232
 t79:=Tryz.underlying236
 a79:=Tryz.isAgg236
 z79:=Tryz.sizeOf236
 v79:=Tryz.zeroValue236
 t83:=Tryz.underlying262
 a83:=Tryz.isAgg262
 z83:=Tryz.sizeOf262
 v83:=Tryz.zeroValue262
 t84:=Tryz.underlying263
 a84:=Tryz.isAgg263
 z84:=Tryz.sizeOf263
 v84:=Tryz.zeroValue263}
end Go.Proofs.YtgbggaddpbghfaaGreat
