/- Part of a proof engine for functions of the given program: what an operation, a loop and a call compute, symbolically. No conditions. -/
import Derived.Test.YtbbaadkgmdkjdaaEngW
import Derived.Test.YtbbaadkgmdkjdaaProg
namespace Go.Proofs.Ytbbaadkgmdkjdaa
open Go Go.KA Go.Proofs
set_option maxRecDepth 100000
def i1 : TyI := { agg := false, size := 1, zero := [.v .nilFunc] }
def i2 : TyI := { agg := false, size := 1, zero := [.v (.int .i64 0)], ik := some .i64 }
def i3 : TyI := { agg := false, size := 1, zero := [.v (.int .i64 0)], ik := some .i64 }
def i4 : TyI := { agg := false, size := 1, zero := [.v (.bool false)], isB := true }
def i5 : TyI := { agg := false, size := 1, zero := [.v (.int .u8 0)], ik := some .u8 }
def i6 : TyI := { agg := false, size := 1, zero := [.v (.int .u8 0)], ik := some .u8 }
def i7 : TyI := { agg := true, size := 4, zero := [.v (.int .i64 0), .v (.int .i64 0), .v (.bool false), .v (.int .u8 0)], fields := [(0, 2, 1), (1, 3, 1), (2, 4, 1), (3, 6, 1)] }
def i8 : TyI := { agg := true, size := 4, zero := [.v (.int .i64 0), .v (.int .i64 0), .v (.bool false), .v (.int .u8 0)], fields := [(0, 2, 1), (1, 3, 1), (2, 4, 1), (3, 6, 1)] }
def i9 : TyI := { agg := false, size := 1, zero := [.v (.string .empty)], isS := true }
def i10 : TyI := { agg := false, size := 1, zero := [.v (.string .empty)], isS := true }
def i11 : TyI := { agg := false, size := 1, zero := [.v (.string .empty)], isS := true }
def i12 : TyI := { agg := false, size := 1, zero := [.v (.int .u64 0)], ik := some .u64 }
def i13 : TyI := { agg := true, size := 2, zero := [.v (.string .empty), .v (.int .u64 0)], fields := [(0, 9, 1), (1, 12, 1)] }
def i14 : TyI := { agg := true, size := 2, zero := [.v (.string .empty), .v (.int .u64 0)], fields := [(0, 9, 1), (1, 12, 1)] }
def i15 : TyI := { agg := false, size := 1, zero := [.v (.pointer none)] }
def i16 : TyI := { agg := false, size := 1, zero := [.v (.pointer none)] }
def i17 : TyI := { agg := false, size := 1, zero := [.v (.pointer none)] }
def i18 : TyI := { agg := true, size := 1, zero := [.v (.pointer none)], fields := [(0, 17, 1)] }
def i19 : TyI := { agg := true, size := 1, zero := [.v (.pointer none)], fields := [(0, 17, 1)] }
def i21 : TyI := { agg := false, size := 1, zero := [.v (.int .i32 0)], ik := some .i32 }
def i22 : TyI := { agg := true, size := 2, zero := [.v (.int .i64 0), .v (.int .i64 0)], fields := [(0, 2, 1), (1, 2, 1)], eq2 := true }
def i23 : TyI := { agg := true, size := 2, zero := [.v (.int .i64 0), .v (.int .i64 0)], fields := [(0, 2, 1), (1, 2, 1)], eq2 := true }
def i24 : TyI := { agg := true, size := 2, zero := [.v (.int .i64 0), .v (.int .i64 0)], fields := [(0, 2, 1), (1, 2, 1)], eq2 := true }
def i25 : TyI := { agg := false, size := 1, zero := [.s 83 3], elem := some (83, 3, 40) }
def i26 : TyI := { agg := false, size := 1, zero := [.s 138 8], elem := some (138, 8, 96) }
def i27 : TyI := { agg := true, size := 4, zero := [.v (.int .i64 0), .v (.int .i64 0), .s 83 3, .s 138 8], fields := [(0, 24, 2), (2, 25, 1), (3, 26, 1)] }
def i28 : TyI := { agg := true, size := 4, zero := [.v (.int .i64 0), .v (.int .i64 0), .s 83 3, .s 138 8], fields := [(0, 24, 2), (2, 25, 1), (3, 26, 1)] }
def i30 : TyI := { agg := false, size := 1, zero := [.v .nilFunc] }
def i31 : TyI := { agg := false, size := 1, zero := [.v .nilFunc] }
def i32 : TyI := { agg := false, size := 1, zero := [.v .nilFunc] }
def i33 : TyI := { agg := false, size := 1, zero := [.v .nilFunc] }
def i34 : TyI := { agg := false, size := 1, zero := [.v .nilFunc] }
def i35 : TyI := { agg := false, size := 1, zero := [.s 2 1], elem := some (2, 1, 8) }
def i36 : TyI := { agg := false, size := 1, zero := [.s 35 1], elem := some (35, 1, 24) }
def i37 : TyI := { agg := true, size := 2, zero := [.s 2 1, .s 35 1], fields := [(0, 35, 1), (1, 36, 1)] }
def i38 : TyI := { agg := true, size := 2, zero := [.s 2 1, .s 35 1], fields := [(0, 35, 1), (1, 36, 1)] }
def i39 : TyI := { agg := false, size := 1, zero := [.s 143 7], elem := some (143, 7, 72) }
def i40 : TyI := { agg := true, size := 2, zero := [.v (.int .i64 0), .s 143 7], fields := [(0, 2, 1), (1, 39, 1)] }
def i41 : TyI := { agg := true, size := 2, zero := [.v (.int .i64 0), .s 143 7], fields := [(0, 2, 1), (1, 39, 1)] }
def i42 : TyI := { agg := false, size := 1, zero := [.v .nilFunc] }
def i43 : TyI := { agg := false, size := 1, zero := [.v .nilFunc] }
def i44 : TyI := { agg := true, size := 2, zero := [.s 2 1, .s 2 1], fields := [(0, 35, 1), (1, 35, 1)] }
def i45 : TyI := { agg := true, size := 2, zero := [.s 2 1, .s 2 1], fields := [(0, 35, 1), (1, 35, 1)] }
def i47 : TyI := { agg := false, size := 1, zero := [.v .nilFunc] }
def i48 : TyI := { agg := true, size := 2, zero := [.s 2 1, .s 35 1], fields := [(0, 35, 1), (1, 36, 1)] }
def i49 : TyI := { agg := false, size := 1, zero := [.v .nilFunc] }
def i50 : TyI := { agg := false, size := 1, zero := [.s 148 7], elem := some (148, 7, 72) }
def i51 : TyI := { agg := true, size := 2, zero := [.v (.int .i64 0), .s 148 7], fields := [(0, 2, 1), (1, 50, 1)] }
def i52 : TyI := { agg := true, size := 2, zero := [.v (.int .i64 0), .s 148 7], fields := [(0, 2, 1), (1, 50, 1)] }
def i53 : TyI := { agg := false, size := 1, zero := [.v .nilFunc] }
def i54 : TyI := { agg := false, size := 1, zero := [.v .nilFunc] }
def i55 : TyI := { agg := false, size := 1, zero := [.v .nilFunc] }
def i56 : TyI := { agg := false, size := 1, zero := [.v .nilFunc] }
def i57 : TyI := { agg := false, size := 1, zero := [.v .nilFunc] }
def i58 : TyI := { agg := false, size := 1, zero := [.v .nilFunc] }
def i59 : TyI := { agg := false, size := 1, zero := [.v .nilFunc] }
def i60 : TyI := { agg := false, size := 1, zero := [.v .nilFunc] }
def i61 : TyI := { agg := false, size := 1, zero := [.s 63 3], elem := some (63, 3, 40) }
def i62 : TyI := { agg := true, size := 3, zero := [.v (.int .i64 0), .v (.int .i64 0), .s 63 3], fields := [(0, 2, 1), (1, 2, 1), (2, 61, 1)] }
def i63 : TyI := { agg := true, size := 3, zero := [.v (.int .i64 0), .v (.int .i64 0), .s 63 3], fields := [(0, 2, 1), (1, 2, 1), (2, 61, 1)] }
def i64 : TyI := { agg := false, size := 1, zero := [.s 66 6], elem := some (66, 6, 80) }
def i65 : TyI := { agg := true, size := 6, zero := [.v (.int .i64 0), .v (.int .i64 0), .v (.int .i64 0), .v (.int .i64 0), .s 63 3, .s 66 6], fields := [(0, 2, 1), (1, 2, 1), (2, 63, 3), (5, 64, 1)] }
def i66 : TyI := { agg := true, size := 6, zero := [.v (.int .i64 0), .v (.int .i64 0), .v (.int .i64 0), .v (.int .i64 0), .s 63 3, .s 66 6], fields := [(0, 2, 1), (1, 2, 1), (2, 63, 3), (5, 64, 1)] }
def i67 : TyI := { agg := false, size := 1, zero := [.v .nilFunc] }
def i68 : TyI := { agg := false, size := 1, zero := [.v .nilFunc] }
def i69 : TyI := { agg := false, size := 1, zero := [.s 71 3], elem := some (71, 3, 40) }
def i70 : TyI := { agg := true, size := 3, zero := [.v (.int .i64 0), .v (.int .i64 0), .s 71 3], fields := [(0, 2, 1), (1, 2, 1), (2, 69, 1)] }
def i71 : TyI := { agg := true, size := 3, zero := [.v (.int .i64 0), .v (.int .i64 0), .s 71 3], fields := [(0, 2, 1), (1, 2, 1), (2, 69, 1)] }
def i72 : TyI := { agg := false, size := 1, zero := [.s 74 6], elem := some (74, 6, 80) }
def i73 : TyI := { agg := true, size := 6, zero := [.v (.int .i64 0), .v (.int .i64 0), .v (.int .i64 0), .v (.int .i64 0), .s 71 3, .s 74 6], fields := [(0, 2, 1), (1, 2, 1), (2, 71, 3), (5, 72, 1)] }
def i74 : TyI := { agg := true, size := 6, zero := [.v (.int .i64 0), .v (.int .i64 0), .v (.int .i64 0), .v (.int .i64 0), .s 71 3, .s 74 6], fields := [(0, 2, 1), (1, 2, 1), (2, 71, 3), (5, 72, 1)] }
def i75 : TyI := { agg := false, size := 1, zero := [.v .nilFunc] }
def i76 : TyI := { agg := false, size := 1, zero := [.v .nilFunc] }
def i77 : TyI := { agg := false, size := 1, zero := [.v .nilFunc] }
def i78 : TyI := { agg := false, size := 1, zero := [.v .nilFunc] }
def i79 : TyI := { agg := false, size := 1, zero := [.v .nilFunc] }
def i80 : TyI := { agg := false, size := 1, zero := [.v .nilFunc] }
def i81 : TyI := { agg := false, size := 1, zero := [.s 136 7], elem := some (136, 7, 88) }
def i82 : TyI := { agg := true, size := 3, zero := [.v (.bool false), .s 136 7, .v (.int .i64 0)], fields := [(0, 4, 1), (1, 81, 1), (2, 2, 1)] }
def i83 : TyI := { agg := true, size := 3, zero := [.v (.bool false), .s 136 7, .v (.int .i64 0)], fields := [(0, 4, 1), (1, 81, 1), (2, 2, 1)] }
def i84 : TyI := { agg := false, size := 1, zero := [.v .nilFunc] }
def i85 : TyI := { agg := false, size := 1, zero := [.v .nilFunc] }
def i86 : TyI := { agg := false, size := 1, zero := [.v .nilFunc] }
def i87 : TyI := { agg := false, size := 1, zero := [.v .nilFunc] }
def i88 : TyI := { agg := false, size := 1, zero := [.v .nilFunc] }
def i89 : TyI := { agg := false, size := 1, zero := [.v .nilFunc] }
def i90 : TyI := { agg := false, size := 1, zero := [.v .nilFunc] }
def i91 : TyI := { agg := false, size := 1, zero := [.v .nilFunc] }
def i92 : TyI := { agg := false, size := 1, zero := [.v .nilFunc] }
def i93 : TyI := { agg := false, size := 1, zero := [.v (.pointer none)] }
def i94 : TyI := { agg := false, size := 1, zero := [.v .nilFunc] }
def i95 : TyI := { agg := false, size := 1, zero := [.v (.pointer none)] }
def i96 : TyI := { agg := false, size := 1, zero := [.v .nilFunc] }
def i97 : TyI := { agg := false, size := 1, zero := [.v (.pointer none)] }
def i98 : TyI := { agg := false, size := 1, zero := [.v .nilFunc] }
def i99 : TyI := { agg := false, size := 1, zero := [.v .nilFunc] }
def i100 : TyI := { agg := false, size := 1, zero := [.v .nilFunc] }
def i101 : TyI := { agg := false, size := 1, zero := [.v .nilFunc] }
def i102 : TyI := { agg := false, size := 1, zero := [.v .nilFunc] }
def i103 : TyI := { agg := false, size := 1, zero := [.v .nilFunc] }
def i104 : TyI := { agg := false, size := 1, zero := [.v .nilFunc] }
def i105 : TyI := { agg := false, size := 1, zero := [.v .nilFunc] }
def i106 : TyI := { agg := false, size := 1, zero := [.v .nilFunc] }
def i107 : TyI := { agg := false, size := 1, zero := [.v (.pointer none)] }
def i108 : TyI := { agg := false, size := 1, zero := [.v .nilFunc] }
def i109 : TyI := { agg := false, size := 1, zero := [.v .nilFunc] }
def i110 : TyI := { agg := false, size := 1, zero := [.v .nilFunc] }
def i111 : TyI := { agg := false, size := 1, zero := [.v .nilFunc] }
def i112 : TyI := { agg := false, size := 1, zero := [.v .nilFunc] }
def i113 : TyI := { agg := false, size := 1, zero := [.v .nilFunc] }
def i114 : TyI := { agg := false, size := 1, zero := [.v .nilFunc] }
def i115 : TyI := { agg := false, size := 1, zero := [.v .nilFunc] }
def i116 : TyI := { agg := false, size := 1, zero := [.v .nilFunc] }
def i117 : TyI := { agg := false, size := 1, zero := [.v .nilFunc] }
def i118 : TyI := { agg := false, size := 1, zero := [.v (.pointer none)] }
def i119 : TyI := { agg := false, size := 1, zero := [.v .nilFunc] }
def i120 : TyI := { agg := false, size := 1, zero := [.v .nilFunc] }
def i121 : TyI := { agg := false, size := 1, zero := [.v .nilFunc] }
def i122 : TyI := { agg := false, size := 1, zero := [.v .nilFunc] }
def i123 : TyI := { agg := false, size := 1, zero := [.v .nilFunc] }
def i124 : TyI := { agg := false, size := 1, zero := [.v .nilFunc] }
def i125 : TyI := { agg := false, size := 1, zero := [.v .nilFunc] }
def i126 : TyI := { agg := false, size := 1, zero := [.v .nilFunc] }
def i127 : TyI := { agg := false, size := 1, zero := [.v .nilFunc] }
def i128 : TyI := { agg := false, size := 1, zero := [.v .nilFunc] }
def i129 : TyI := { agg := false, size := 1, zero := [.v .nilFunc] }
def i130 : TyI := { agg := false, size := 1, zero := [.s 175 9], elem := some (175, 9, 120) }
def i131 : TyI := { agg := true, size := 3, zero := [.v (.int .i64 0), .v (.int .i64 0), .s 175 9], fields := [(0, 24, 2), (2, 130, 1)] }
def i132 : TyI := { agg := true, size := 3, zero := [.v (.int .i64 0), .v (.int .i64 0), .s 175 9], fields := [(0, 24, 2), (2, 130, 1)] }
def i133 : TyI := { agg := true, size := 5, zero := [.v (.int .i64 0), .s 2 1, .v (.int .i64 0), .v (.int .i64 0), .s 175 9], fields := [(0, 2, 1), (1, 35, 1), (2, 132, 3)] }
def i134 : TyI := { agg := true, size := 5, zero := [.v (.int .i64 0), .s 2 1, .v (.int .i64 0), .v (.int .i64 0), .s 175 9], fields := [(0, 2, 1), (1, 35, 1), (2, 132, 3)] }
def i135 : TyI := { agg := true, size := 7, zero := [.v (.bool false), .v (.int .i64 0), .v (.int .i64 0), .s 2 1, .v (.int .i64 0), .v (.int .i64 0), .s 175 9], fields := [(0, 4, 1), (1, 2, 1), (2, 134, 5)] }
def i136 : TyI := { agg := true, size := 7, zero := [.v (.bool false), .v (.int .i64 0), .v (.int .i64 0), .s 2 1, .v (.int .i64 0), .v (.int .i64 0), .s 175 9], fields := [(0, 4, 1), (1, 2, 1), (2, 134, 5)] }
def i137 : TyI := { agg := true, size := 8, zero := [.v (.int .i64 0), .v (.bool false), .v (.int .i64 0), .v (.int .i64 0), .s 2 1, .v (.int .i64 0), .v (.int .i64 0), .s 175 9], fields := [(0, 2, 1), (1, 136, 7)] }
def i138 : TyI := { agg := true, size := 8, zero := [.v (.int .i64 0), .v (.bool false), .v (.int .i64 0), .v (.int .i64 0), .s 2 1, .v (.int .i64 0), .v (.int .i64 0), .s 175 9], fields := [(0, 2, 1), (1, 136, 7)] }
def i139 : TyI := { agg := false, size := 1, zero := [.v .nilFunc] }
def i140 : TyI := { agg := false, size := 1, zero := [.v .nilFunc] }
def i141 : TyI := { agg := false, size := 1, zero := [.v .nilFunc] }
def i142 : TyI := { agg := true, size := 7, zero := [.v (.int .i64 0), .v (.int .i64 0), .v (.int .i64 0), .v (.int .i64 0), .s 63 3, .v (.int .i64 0), .v (.int .i64 0)], fields := [(0, 2, 1), (1, 2, 1), (2, 63, 3), (5, 2, 1), (6, 2, 1)] }
def i143 : TyI := { agg := true, size := 7, zero := [.v (.int .i64 0), .v (.int .i64 0), .v (.int .i64 0), .v (.int .i64 0), .s 63 3, .v (.int .i64 0), .v (.int .i64 0)], fields := [(0, 2, 1), (1, 2, 1), (2, 63, 3), (5, 2, 1), (6, 2, 1)] }
def i144 : TyI := { agg := false, size := 1, zero := [.v .nilFunc] }
def i145 : TyI := { agg := false, size := 1, zero := [.v .nilFunc] }
def i146 : TyI := { agg := false, size := 1, zero := [.v (.pointer none)] }
def i147 : TyI := { agg := true, size := 7, zero := [.v (.int .i64 0), .v (.int .i64 0), .v (.int .i64 0), .v (.int .i64 0), .s 71 3, .v (.int .i64 0), .v (.int .i64 0)], fields := [(0, 2, 1), (1, 2, 1), (2, 71, 3), (5, 2, 1), (6, 2, 1)] }
def i148 : TyI := { agg := true, size := 7, zero := [.v (.int .i64 0), .v (.int .i64 0), .v (.int .i64 0), .v (.int .i64 0), .s 71 3, .v (.int .i64 0), .v (.int .i64 0)], fields := [(0, 2, 1), (1, 2, 1), (2, 71, 3), (5, 2, 1), (6, 2, 1)] }
def i149 : TyI := { agg := true, size := 7, zero := [.v (.pointer none), .v (.int .i64 0), .s 2 1, .s 2 1, .v (.int .i64 0), .v (.int .i64 0), .v (.int .i64 0)], fields := [(0, 93, 1), (1, 2, 1), (2, 45, 2), (4, 2, 1), (5, 2, 1), (6, 2, 1)] }
def i150 : TyI := { agg := true, size := 7, zero := [.v (.pointer none), .v (.int .i64 0), .s 2 1, .s 2 1, .v (.int .i64 0), .v (.int .i64 0), .v (.int .i64 0)], fields := [(0, 93, 1), (1, 2, 1), (2, 45, 2), (4, 2, 1), (5, 2, 1), (6, 2, 1)] }
def i151 : TyI := { agg := false, size := 1, zero := [.v .nilFunc] }
def i152 : TyI := { agg := false, size := 1, zero := [.v .nilFunc] }
def i153 : TyI := { agg := false, size := 1, zero := [.v .nilFunc] }
def i154 : TyI := { agg := false, size := 1, zero := [.v (.pointer none)] }
def i155 : TyI := { agg := false, size := 1, zero := [.v .nilFunc] }
def i156 : TyI := { agg := false, size := 1, zero := [.v .nilFunc] }
def i157 : TyI := { agg := true, size := 7, zero := [.s 2 1, .s 35 1, .v (.int .i64 0), .s 2 1, .s 2 1, .v (.int .i64 0), .v (.int .i64 0)], fields := [(0, 48, 2), (2, 2, 1), (3, 45, 2), (5, 2, 1), (6, 2, 1)] }
def i158 : TyI := { agg := true, size := 7, zero := [.s 2 1, .s 35 1, .v (.int .i64 0), .s 2 1, .s 2 1, .v (.int .i64 0), .v (.int .i64 0)], fields := [(0, 48, 2), (2, 2, 1), (3, 45, 2), (5, 2, 1), (6, 2, 1)] }
def i159 : TyI := { agg := false, size := 1, zero := [.v .nilFunc] }
def i160 : TyI := { agg := false, size := 1, zero := [.v .nilFunc] }
def i161 : TyI := { agg := false, size := 1, zero := [.v .nilFunc] }
def i162 : TyI := { agg := false, size := 1, zero := [.v .nilFunc] }
def i163 : TyI := { agg := false, size := 1, zero := [.v .nilFunc] }
def i164 : TyI := { agg := false, size := 1, zero := [.v .nilFunc] }
def i165 : TyI := { agg := false, size := 1, zero := [.v .nilFunc] }
def i166 : TyI := { agg := false, size := 1, zero := [.v .nilFunc] }
def i167 : TyI := { agg := false, size := 1, zero := [.v .nilFunc] }
def i169 : TyI := { agg := false, size := 1, zero := [.v .nilFunc] }
def i170 : TyI := { agg := false, size := 1, zero := [.v .nilFunc] }
def i171 : TyI := { agg := false, size := 1, zero := [.v .nilFunc] }
def i172 : TyI := { agg := false, size := 1, zero := [.v .nilFunc] }
def i173 : TyI := { agg := false, size := 1, zero := [.s 189 5], elem := some (189, 5, 88) }
def i174 : TyI := { agg := true, size := 9, zero := [.v (.int .i64 0), .v (.int .i64 0), .s 71 3, .v (.int .i64 0), .v (.int .i64 0), .s 71 3, .v (.int .i64 0), .v (.int .i64 0), .s 189 5], fields := [(0, 71, 3), (3, 71, 3), (6, 2, 1), (7, 2, 1), (8, 173, 1)] }
def i175 : TyI := { agg := true, size := 9, zero := [.v (.int .i64 0), .v (.int .i64 0), .s 71 3, .v (.int .i64 0), .v (.int .i64 0), .s 71 3, .v (.int .i64 0), .v (.int .i64 0), .s 189 5], fields := [(0, 71, 3), (3, 71, 3), (6, 2, 1), (7, 2, 1), (8, 173, 1)] }
def i176 : TyI := { agg := false, size := 1, zero := [.v .nilFunc] }
def i177 : TyI := { agg := false, size := 1, zero := [.v .nilFunc] }
def i178 : TyI := { agg := false, size := 1, zero := [.v .nilFunc] }
def i179 : TyI := { agg := false, size := 1, zero := [.v .nilFunc] }
def i180 : TyI := { agg := false, size := 1, zero := [.v .nilFunc] }
def i181 : TyI := { agg := false, size := 1, zero := [.v .nilFunc] }
def i182 : TyI := { agg := false, size := 1, zero := [.v .nilFunc] }
def i183 : TyI := { agg := false, size := 1, zero := [.v .nilFunc] }
def i184 : TyI := { agg := false, size := 1, zero := [.v .nilFunc] }
def i185 : TyI := { agg := false, size := 1, zero := [.v .nilFunc] }
def i186 : TyI := { agg := false, size := 1, zero := [.v .nilFunc] }
def i187 : TyI := { agg := false, size := 1, zero := [.v .nilFunc] }
def i188 : TyI := { agg := true, size := 5, zero := [.v (.int .i64 0), .v (.bool false), .s 2 1, .s 71 3, .s 71 3], fields := [(0, 2, 1), (1, 4, 1), (2, 35, 1), (3, 69, 1), (4, 69, 1)] }
def i189 : TyI := { agg := true, size := 5, zero := [.v (.int .i64 0), .v (.bool false), .s 2 1, .s 71 3, .s 71 3], fields := [(0, 2, 1), (1, 4, 1), (2, 35, 1), (3, 69, 1), (4, 69, 1)] }
def i190 : TyI := { agg := false, size := 1, zero := [.v (.int .u64 0)], ik := some .u64 }
def i191 : TyI := { agg := false, size := 1, zero := [.v .nilFunc] }
def i192 : TyI := { agg := false, size := 1, zero := [.v .nilFunc] }
def i193 : TyI := { agg := false, size := 1, zero := [.v .nilFunc] }
def i195 : TyI := { agg := false, size := 1, zero := [.v .nilFunc] }
def i196 : TyI := { agg := false, size := 1, zero := [.v .nilFunc] }
def i197 : TyI := { agg := false, size := 1, zero := [.v .nilFunc] }
def i198 : TyI := { agg := false, size := 1, zero := [.v .nilFunc] }
def i199 : TyI := { agg := false, size := 1, zero := [.v .nilFunc] }
def i200 : TyI := { agg := false, size := 1, zero := [.v .nilFunc] }
def i201 : TyI := { agg := true, size := 4, zero := [.v (.pointer none), .v (.pointer none), .v (.pointer none), .v (.string .empty)], fields := [(0, 17, 1), (1, 17, 1), (2, 17, 1), (3, 9, 1)] }
def i202 : TyI := { agg := true, size := 4, zero := [.v (.pointer none), .v (.pointer none), .v (.pointer none), .v (.string .empty)], fields := [(0, 17, 1), (1, 17, 1), (2, 17, 1), (3, 9, 1)] }
def i203 : TyI := { agg := true, size := 0, zero := [] }
def i204 : TyI := { agg := true, size := 0, zero := [] }
def i205 : TyI := { agg := true, size := 0, zero := [] }
def i206 : TyI := { agg := false, size := 1, zero := [.v .nilFunc] }
def i207 : TyI := { agg := false, size := 1, zero := [.v (.int .u32 0)], ik := some .u32 }
def i208 : TyI := { agg := false, size := 1, zero := [.v (.int .u8 0)], ik := some .u8 }
def i209 : TyI := { agg := false, size := 1, zero := [.v (.int .u8 0)], ik := some .u8 }
def i210 : TyI := { agg := false, size := 1, zero := [.v .nilFunc] }
def i211 : TyI := { agg := false, size := 1, zero := [.v (.pointer none)] }
def i212 : TyI := { agg := false, size := 1, zero := [.v (.int .i32 0)], ik := some .i32 }
def i213 : TyI := { agg := false, size := 1, zero := [.v (.int .i32 0)], ik := some .i32 }
def i214 : TyI := { agg := true, size := 11, zero := [.v (.int .u64 0), .v (.int .u64 0), .v (.int .u32 0), .v (.int .u8 0), .v (.int .u8 0), .v (.int .u8 0), .v (.int .u8 0), .v .nilFunc, .v (.pointer none), .v (.int .i32 0), .v (.int .i32 0)], fields := [(0, 12, 1), (1, 12, 1), (2, 207, 1), (3, 208, 1), (4, 5, 1), (5, 5, 1), (6, 209, 1), (7, 210, 1), (8, 211, 1), (9, 212, 1), (10, 213, 1)] }
def i215 : TyI := { agg := true, size := 11, zero := [.v (.int .u64 0), .v (.int .u64 0), .v (.int .u32 0), .v (.int .u8 0), .v (.int .u8 0), .v (.int .u8 0), .v (.int .u8 0), .v .nilFunc, .v (.pointer none), .v (.int .i32 0), .v (.int .i32 0)], fields := [(0, 12, 1), (1, 12, 1), (2, 207, 1), (3, 208, 1), (4, 5, 1), (5, 5, 1), (6, 209, 1), (7, 210, 1), (8, 211, 1), (9, 212, 1), (10, 213, 1)] }
def i216 : TyI := { agg := false, size := 1, zero := [.v .nilFunc] }
def i217 : TyI := { agg := false, size := 1, zero := [.v .nilFunc] }
def tbl : TT := (.node (.node (.node (.node (.node (.node (.node (.node .leaf 1 i1 .leaf) 2 i2 (.node .leaf 3 i3 .leaf)) 4 i4 (.node (.node .leaf 5 i5 .leaf) 6 i6 .leaf)) 7 i7 (.node (.node (.node .leaf 8 i8 .leaf) 9 i9 (.node .leaf 10 i10 .leaf)) 11 i11 (.node (.node .leaf 12 i12 .leaf) 13 i13 .leaf))) 14 i14 (.node (.node (.node (.node .leaf 15 i15 .leaf) 16 i16 (.node .leaf 17 i17 .leaf)) 18 i18 (.node (.node .leaf 19 i19 .leaf) 21 i21 .leaf)) 22 i22 (.node (.node (.node .leaf 23 i23 .leaf) 24 i24 .leaf) 25 i25 (.node (.node .leaf 26 i26 .leaf) 27 i27 .leaf)))) 28 i28 (.node (.node (.node (.node (.node .leaf 30 i30 .leaf) 31 i31 (.node .leaf 32 i32 .leaf)) 33 i33 (.node (.node .leaf 34 i34 .leaf) 35 i35 .leaf)) 36 i36 (.node (.node (.node .leaf 37 i37 .leaf) 38 i38 (.node .leaf 39 i39 .leaf)) 40 i40 (.node (.node .leaf 41 i41 .leaf) 42 i42 .leaf))) 43 i43 (.node (.node (.node (.node .leaf 44 i44 .leaf) 45 i45 (.node .leaf 47 i47 .leaf)) 48 i48 (.node (.node .leaf 49 i49 .leaf) 50 i50 .leaf)) 51 i51 (.node (.node (.node .leaf 52 i52 .leaf) 53 i53 .leaf) 54 i54 (.node (.node .leaf 55 i55 .leaf) 56 i56 .leaf))))) 57 i57 (.node (.node (.node (.node (.node (.node .leaf 58 i58 .leaf) 59 i59 (.node .leaf 60 i60 .leaf)) 61 i61 (.node (.node .leaf 62 i62 .leaf) 63 i63 .leaf)) 64 i64 (.node (.node (.node .leaf 65 i65 .leaf) 66 i66 (.node .leaf 67 i67 .leaf)) 68 i68 (.node (.node .leaf 69 i69 .leaf) 70 i70 .leaf))) 71 i71 (.node (.node (.node (.node .leaf 72 i72 .leaf) 73 i73 (.node .leaf 74 i74 .leaf)) 75 i75 (.node (.node .leaf 76 i76 .leaf) 77 i77 .leaf)) 78 i78 (.node (.node (.node .leaf 79 i79 .leaf) 80 i80 .leaf) 81 i81 (.node (.node .leaf 82 i82 .leaf) 83 i83 .leaf)))) 84 i84 (.node (.node (.node (.node (.node .leaf 85 i85 .leaf) 86 i86 (.node .leaf 87 i87 .leaf)) 88 i88 (.node (.node .leaf 89 i89 .leaf) 90 i90 .leaf)) 91 i91 (.node (.node (.node .leaf 92 i92 .leaf) 93 i93 .leaf) 94 i94 (.node (.node .leaf 95 i95 .leaf) 96 i96 .leaf))) 97 i97 (.node (.node (.node (.node .leaf 98 i98 .leaf) 99 i99 (.node .leaf 100 i100 .leaf)) 101 i101 (.node (.node .leaf 102 i102 .leaf) 103 i103 .leaf)) 104 i104 (.node (.node (.node .leaf 105 i105 .leaf) 106 i106 .leaf) 107 i107 (.node (.node .leaf 108 i108 .leaf) 109 i109 .leaf)))))) 110 i110 (.node (.node (.node (.node (.node (.node (.node .leaf 111 i111 .leaf) 112 i112 (.node .leaf 113 i113 .leaf)) 114 i114 (.node (.node .leaf 115 i115 .leaf) 116 i116 .leaf)) 117 i117 (.node (.node (.node .leaf 118 i118 .leaf) 119 i119 (.node .leaf 120 i120 .leaf)) 121 i121 (.node (.node .leaf 122 i122 .leaf) 123 i123 .leaf))) 124 i124 (.node (.node (.node (.node .leaf 125 i125 .leaf) 126 i126 (.node .leaf 127 i127 .leaf)) 128 i128 (.node (.node .leaf 129 i129 .leaf) 130 i130 .leaf)) 131 i131 (.node (.node (.node .leaf 132 i132 .leaf) 133 i133 .leaf) 134 i134 (.node (.node .leaf 135 i135 .leaf) 136 i136 .leaf)))) 137 i137 (.node (.node (.node (.node (.node .leaf 138 i138 .leaf) 139 i139 (.node .leaf 140 i140 .leaf)) 141 i141 (.node (.node .leaf 142 i142 .leaf) 143 i143 .leaf)) 144 i144 (.node (.node (.node .leaf 145 i145 .leaf) 146 i146 .leaf) 147 i147 (.node (.node .leaf 148 i148 .leaf) 149 i149 .leaf))) 150 i150 (.node (.node (.node (.node .leaf 151 i151 .leaf) 152 i152 (.node .leaf 153 i153 .leaf)) 154 i154 (.node (.node .leaf 155 i155 .leaf) 156 i156 .leaf)) 157 i157 (.node (.node (.node .leaf 158 i158 .leaf) 159 i159 .leaf) 160 i160 (.node (.node .leaf 161 i161 .leaf) 162 i162 .leaf))))) 163 i163 (.node (.node (.node (.node (.node (.node .leaf 164 i164 .leaf) 165 i165 (.node .leaf 166 i166 .leaf)) 167 i167 (.node (.node .leaf 169 i169 .leaf) 170 i170 .leaf)) 171 i171 (.node (.node (.node .leaf 172 i172 .leaf) 173 i173 (.node .leaf 174 i174 .leaf)) 175 i175 (.node (.node .leaf 176 i176 .leaf) 177 i177 .leaf))) 178 i178 (.node (.node (.node (.node .leaf 179 i179 .leaf) 180 i180 (.node .leaf 181 i181 .leaf)) 182 i182 (.node (.node .leaf 183 i183 .leaf) 184 i184 .leaf)) 185 i185 (.node (.node (.node .leaf 186 i186 .leaf) 187 i187 .leaf) 188 i188 (.node (.node .leaf 189 i189 .leaf) 190 i190 .leaf)))) 191 i191 (.node (.node (.node (.node (.node .leaf 192 i192 .leaf) 193 i193 (.node .leaf 195 i195 .leaf)) 196 i196 (.node (.node .leaf 197 i197 .leaf) 198 i198 .leaf)) 199 i199 (.node (.node (.node .leaf 200 i200 .leaf) 201 i201 .leaf) 202 i202 (.node (.node .leaf 203 i203 .leaf) 204 i204 .leaf))) 205 i205 (.node (.node (.node (.node .leaf 206 i206 .leaf) 207 i207 (.node .leaf 208 i208 .leaf)) 209 i209 (.node (.node .leaf 210 i210 .leaf) 211 i211 .leaf)) 212 i212 (.node (.node (.node .leaf 213 i213 .leaf) 214 i214 .leaf) 215 i215 (.node (.node .leaf 216 i216 .leaf) 217 i217 .leaf)))))))
theorem htb : TblOk Try.prog tbl := tblOk_of (by kernel_rfl)
end Go.Proofs.Ytbbaadkgmdkjdaa
