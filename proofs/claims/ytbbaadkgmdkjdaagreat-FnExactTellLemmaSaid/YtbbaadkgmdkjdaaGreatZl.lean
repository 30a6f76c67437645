/- The library's function laid at this program, in plain words. No conditions. -/
import Derived.Shelf.SlGeneric
import Derived.Ground.SlgnProg
import Derived.Shelf.SortG.Plain
import Derived.Shelf.SortG.SortNone
import Derived.Test.YtbbaadkgmdkjdaaGreatProg
namespace Go.Proofs.YtbbaadkgmdkjdaaGreat
open Go.Shelf
def sortLay_ren : Go.Shelf.Ren := ⟨fun | 53 => 126 | 64 => 156 | 63 => 155 | 78 => 186 | 79 => 187 | 70 => 177 | 71 => 178 | 72 => 179 | 73 => 180 | 74 => 181 | 75 => 182 | 59 => 183 | 76 => 184 | 77 => 185 | 88 => 199 | 89 => 200 | 90 => 201 | 91 => 202 | 92 => 203 | 68 => 204 | 96 => 213 | n => n, fun | 22 => 38 | 23 => 2 | 3 => 3 | 51 => 208 | 0 => 0 | 67 => 238 | 69 => 240 | 4 => 4 | 61 => 230 | 60 => 229 | 44 => 235 | 5 => 5 | 9 => 9 | 75 => 252 | 79 => 256 | 83 => 266 | 84 => 267 | n => n, fun | n => n⟩
theorem sortLay : Go.Proofs.SlLaysN.n53 Tryz.prog sortLay_ren := {
  mixed := by kernel_rfl
  f53 := ⟨Tryz.f126.name, by decide, Tryz.func126.trans (congrArg some (by kernel_rfl))⟩
  f59 := ⟨Tryz.f183.name, by decide, Tryz.func183.trans (congrArg some (by kernel_rfl))⟩
  f63 := ⟨Tryz.f155.name, by decide, Tryz.func155.trans (congrArg some (by kernel_rfl))⟩
  f64 := Tryz.func156.trans (congrArg some (by kernel_rfl))
  f68 := ⟨Tryz.f204.name, by decide, Tryz.func204.trans (congrArg some (by kernel_rfl))⟩
  f70 := ⟨Tryz.f177.name, by decide, Tryz.func177.trans (congrArg some (by kernel_rfl))⟩
  f71 := ⟨Tryz.f178.name, by decide, Tryz.func178.trans (congrArg some (by kernel_rfl))⟩
  f72 := ⟨Tryz.f179.name, by decide, Tryz.func179.trans (congrArg some (by kernel_rfl))⟩
  f73 := ⟨Tryz.f180.name, by decide, Tryz.func180.trans (congrArg some (by kernel_rfl))⟩
  f74 := ⟨Tryz.f181.name, by decide, Tryz.func181.trans (congrArg some (by kernel_rfl))⟩
  f75 := ⟨Tryz.f182.name, by decide, Tryz.func182.trans (congrArg some (by kernel_rfl))⟩
  f76 := ⟨Tryz.f184.name, by decide, Tryz.func184.trans (congrArg some (by kernel_rfl))⟩
  f77 := ⟨Tryz.f185.name, by decide, Tryz.func185.trans (congrArg some (by kernel_rfl))⟩
  f78 := Tryz.func186.trans (congrArg some (by kernel_rfl))
  f79 := Tryz.func187.trans (congrArg some (by kernel_rfl))
  f88 := ⟨Tryz.f199.name, by decide, Tryz.func199.trans (congrArg some (by kernel_rfl))⟩
  f89 := Tryz.func200.trans (congrArg some (by kernel_rfl))
  f90 := Tryz.func201.trans (congrArg some (by kernel_rfl))
  f91 := ⟨Tryz.f202.name, by decide, Tryz.func202.trans (congrArg some (by kernel_rfl))⟩
  f92 := ⟨Tryz.f203.name, by decide, Tryz.func203.trans (congrArg some (by kernel_rfl))⟩
  f96 := ⟨Tryz.f213.name, by decide, Tryz.func213.trans (congrArg some (by kernel_rfl))⟩
  t0 := Tryz.underlying0
  a0 := Tryz.isAgg0
  z0 := Tryz.sizeOf0
  v0 := Tryz.zeroValue0
  t3 := Tryz.underlying3
  a3 := Tryz.isAgg3
  z3 := Tryz.sizeOf3
  v3 := Tryz.zeroValue3
  t4 := Tryz.underlying4
  a4 := Tryz.isAgg4
  z4 := Tryz.sizeOf4
  v4 := Tryz.zeroValue4
  t5 := Tryz.underlying5
  a5 := Tryz.isAgg5
  z5 := Tryz.sizeOf5
  v5 := Tryz.zeroValue5
  t9 := Tryz.underlying9
  a9 := Tryz.isAgg9
  z9 := Tryz.sizeOf9
  v9 := Tryz.zeroValue9
  t22 := Tryz.underlying38
  a22 := Tryz.isAgg38
  z22 := Tryz.sizeOf38
  v22 := Tryz.zeroValue38
  t23 := Tryz.underlying2
  a23 := Tryz.isAgg2
  z23 := Tryz.sizeOf2
  v23 := Tryz.zeroValue2
  t44 := Tryz.underlying235
  a44 := Tryz.isAgg235
  z44 := Tryz.sizeOf235
  v44 := Tryz.zeroValue235
  t51 := Tryz.underlying208
  a51 := Tryz.isAgg208
  z51 := Tryz.sizeOf208
  v51 := Tryz.zeroValue208
  t60 := Tryz.underlying229
  a60 := Tryz.isAgg229
  z60 := Tryz.sizeOf229
  v60 := Tryz.zeroValue229
  t61 := Tryz.underlying230
  a61 := Tryz.isAgg230
  z61 := Tryz.sizeOf230
  v61 := Tryz.zeroValue230
  t67 := Tryz.underlying238
  a67 := Tryz.isAgg238
  z67 := Tryz.sizeOf238
  v67 := Tryz.zeroValue238
  t69 := Tryz.underlying240
  a69 := Tryz.isAgg240
  z69 := Tryz.sizeOf240
  v69 := Tryz.zeroValue240
  t75 := Tryz.underlying252
  a75 := Tryz.isAgg252
  z75 := Tryz.sizeOf252
  v75 := Tryz.zeroValue252
  t79 := Tryz.underlying256
  a79 := Tryz.isAgg256
  z79 := Tryz.sizeOf256
  v79 := Tryz.zeroValue256
  t83 := Tryz.underlying266
  a83 := Tryz.isAgg266
  z83 := Tryz.sizeOf266
  v83 := Tryz.zeroValue266
  t84 := Tryz.underlying267
  a84 := Tryz.isAgg267
  z84 := Tryz.sizeOf267
  v84 := Tryz.zeroValue267 }
end Go.Proofs.YtbbaadkgmdkjdaaGreat
