/- Part of a proof engine for functions of the given program: what an operation, a loop and a call compute, symbolically. No conditions. -/
import Derived.Test.YtbbaadkgmdkjdaaGreatEngW
import Derived.Test.YtbbaadkgmdkjdaaGreatProg
namespace Go.Proofs.YtbbaadkgmdkjdaaGreat
open Go Go.KA Go.Proofs
set_option maxRecDepth 100000
def i1 : TyI := { agg := false, size := 1, zero := [.v .nilFunc] }
def i2 : TyI := { agg := false, size := 1, zero := [.v (.int .i64 0)], ik := some .i64 }
def i3 : TyI := { agg := false, size := 1, zero := [.v (.int .i64 0)], ik := some .i64 }
def i4 : TyI := { agg := false, size := 1, zero := [.v (.bool false)], isB := true }
def i5 : TyI := { agg := false, size := 1, zero := [.v (.int .u8 0)], ik := some .u8 }
def i6 : TyI := { agg := false, size := 1, zero := [.v (.int .u8 0)], ik := some .u8 }
def i7 : TyI := { agg := true, size := 4, zero := [.v (.int .i64 0), .v (.int .i64 0), .v (.bool false), .v (.int .u8 0)], fields := [(0, 2, 1), (1, 3, 1), (2, 4, 1), (3, 6, 1)] }
def i8 : TyI := { agg := true, size := 4, zero := [.v (.int .i64 0), .v (.int .i64 0), .v (.bool false), .v (.int .u8 0)], fields := [(0, 2, 1), (1, 3, 1), (2, 4, 1), (3, 6, 1)] }
def i9 : TyI := { agg := false, size := 1, zero := [.v (.string .empty)], isS := true }
def i10 : TyI := { agg := false, size := 1, zero := [.v (.string .empty)], isS := true }
def i11 : TyI := { agg := false, size := 1, zero := [.v (.string .empty)], isS := true }
def i12 : TyI := { agg := false, size := 1, zero := [.v (.int .u64 0)], ik := some .u64 }
def i13 : TyI := { agg := true, size := 2, zero := [.v (.string .empty), .v (.int .u64 0)], fields := [(0, 9, 1), (1, 12, 1)] }
def i14 : TyI := { agg := true, size := 2, zero := [.v (.string .empty), .v (.int .u64 0)], fields := [(0, 9, 1), (1, 12, 1)] }
def i15 : TyI := { agg := false, size := 1, zero := [.v (.pointer none)] }
def i16 : TyI := { agg := false, size := 1, zero := [.v (.pointer none)] }
def i17 : TyI := { agg := false, size := 1, zero := [.v (.pointer none)] }
def i18 : TyI := { agg := true, size := 1, zero := [.v (.pointer none)], fields := [(0, 17, 1)] }
def i19 : TyI := { agg := true, size := 1, zero := [.v (.pointer none)], fields := [(0, 17, 1)] }
def i21 : TyI := { agg := false, size := 1, zero := [.v (.int .i32 0)], ik := some .i32 }
def i22 : TyI := { agg := true, size := 2, zero := [.v (.int .i64 0), .v (.int .i64 0)], fields := [(0, 2, 1), (1, 2, 1)], eq2 := true }
def i23 : TyI := { agg := true, size := 2, zero := [.v (.int .i64 0), .v (.int .i64 0)], fields := [(0, 2, 1), (1, 2, 1)], eq2 := true }
def i24 : TyI := { agg := false, size := 1, zero := [.s 141 3], elem := some (141, 3, 40) }
def i25 : TyI := { agg := false, size := 1, zero := [.s 148 8], elem := some (148, 8, 96) }
def i26 : TyI := { agg := true, size := 4, zero := [.v (.int .i64 0), .v (.int .i64 0), .s 141 3, .s 148 8], fields := [(0, 23, 2), (2, 24, 1), (3, 25, 1)] }
def i27 : TyI := { agg := true, size := 4, zero := [.v (.int .i64 0), .v (.int .i64 0), .s 141 3, .s 148 8], fields := [(0, 23, 2), (2, 24, 1), (3, 25, 1)] }
def i28 : TyI := { agg := false, size := 1, zero := [.v .nilFunc] }
def i29 : TyI := { agg := false, size := 1, zero := [.v .nilFunc] }
def i30 : TyI := { agg := true, size := 2, zero := [.v (.int .i64 0), .v (.int .i64 0)], fields := [(0, 2, 1), (1, 2, 1)], eq2 := true }
def i31 : TyI := { agg := false, size := 1, zero := [.s 87 3], elem := some (87, 3, 40) }
def i32 : TyI := { agg := false, size := 1, zero := [.s 94 8], elem := some (94, 8, 96) }
def i33 : TyI := { agg := true, size := 4, zero := [.v (.int .i64 0), .v (.int .i64 0), .s 87 3, .s 94 8], fields := [(0, 30, 2), (2, 31, 1), (3, 32, 1)] }
def i34 : TyI := { agg := true, size := 4, zero := [.v (.int .i64 0), .v (.int .i64 0), .s 87 3, .s 94 8], fields := [(0, 30, 2), (2, 31, 1), (3, 32, 1)] }
def i35 : TyI := { agg := false, size := 1, zero := [.v .nilFunc] }
def i36 : TyI := { agg := false, size := 1, zero := [.v .nilFunc] }
def i37 : TyI := { agg := false, size := 1, zero := [.v .nilFunc] }
def i38 : TyI := { agg := false, size := 1, zero := [.s 2 1], elem := some (2, 1, 8) }
def i39 : TyI := { agg := false, size := 1, zero := [.s 202 9], elem := some (202, 9, 120) }
def i40 : TyI := { agg := true, size := 3, zero := [.v (.int .i64 0), .v (.int .i64 0), .s 202 9], fields := [(0, 23, 2), (2, 39, 1)] }
def i41 : TyI := { agg := true, size := 3, zero := [.v (.int .i64 0), .v (.int .i64 0), .s 202 9], fields := [(0, 23, 2), (2, 39, 1)] }
def i42 : TyI := { agg := false, size := 1, zero := [.s 4 1], elem := some (4, 1, 1) }
def i43 : TyI := { agg := true, size := 9, zero := [.v (.int .i64 0), .v (.int .i64 0), .v (.int .i64 0), .v (.int .i64 0), .s 2 1, .v (.int .i64 0), .v (.int .i64 0), .s 202 9, .s 4 1], fields := [(0, 2, 1), (1, 2, 1), (2, 2, 1), (3, 2, 1), (4, 38, 1), (5, 41, 3), (8, 42, 1)] }
def i44 : TyI := { agg := true, size := 9, zero := [.v (.int .i64 0), .v (.int .i64 0), .v (.int .i64 0), .v (.int .i64 0), .s 2 1, .v (.int .i64 0), .v (.int .i64 0), .s 202 9, .s 4 1], fields := [(0, 2, 1), (1, 2, 1), (2, 2, 1), (3, 2, 1), (4, 38, 1), (5, 41, 3), (8, 42, 1)] }
def i45 : TyI := { agg := false, size := 1, zero := [.v .nilFunc] }
def i46 : TyI := { agg := false, size := 1, zero := [.v .nilFunc] }
def i47 : TyI := { agg := false, size := 1, zero := [.s 181 9], elem := some (181, 9, 120) }
def i48 : TyI := { agg := true, size := 3, zero := [.v (.int .i64 0), .v (.int .i64 0), .s 181 9], fields := [(0, 30, 2), (2, 47, 1)] }
def i49 : TyI := { agg := true, size := 3, zero := [.v (.int .i64 0), .v (.int .i64 0), .s 181 9], fields := [(0, 30, 2), (2, 47, 1)] }
def i50 : TyI := { agg := true, size := 9, zero := [.v (.int .i64 0), .v (.int .i64 0), .v (.int .i64 0), .v (.int .i64 0), .s 2 1, .v (.int .i64 0), .v (.int .i64 0), .s 181 9, .s 4 1], fields := [(0, 2, 1), (1, 2, 1), (2, 2, 1), (3, 2, 1), (4, 38, 1), (5, 49, 3), (8, 42, 1)] }
def i51 : TyI := { agg := true, size := 9, zero := [.v (.int .i64 0), .v (.int .i64 0), .v (.int .i64 0), .v (.int .i64 0), .s 2 1, .v (.int .i64 0), .v (.int .i64 0), .s 181 9, .s 4 1], fields := [(0, 2, 1), (1, 2, 1), (2, 2, 1), (3, 2, 1), (4, 38, 1), (5, 49, 3), (8, 42, 1)] }
def i52 : TyI := { agg := false, size := 1, zero := [.v .nilFunc] }
def i53 : TyI := { agg := false, size := 1, zero := [.v .nilFunc] }
def i54 : TyI := { agg := false, size := 1, zero := [.v .nilFunc] }
def i56 : TyI := { agg := false, size := 1, zero := [.v .nilFunc] }
def i57 : TyI := { agg := false, size := 1, zero := [.v .nilFunc] }
def i58 : TyI := { agg := false, size := 1, zero := [.v .nilFunc] }
def i59 : TyI := { agg := false, size := 1, zero := [.v .nilFunc] }
def i60 : TyI := { agg := false, size := 1, zero := [.v .nilFunc] }
def i61 : TyI := { agg := false, size := 1, zero := [.v .nilFunc] }
def i62 : TyI := { agg := false, size := 1, zero := [.v .nilFunc] }
def i63 : TyI := { agg := false, size := 1, zero := [.v .nilFunc] }
def i64 : TyI := { agg := false, size := 1, zero := [.v .nilFunc] }
def i65 : TyI := { agg := false, size := 1, zero := [.s 67 3], elem := some (67, 3, 40) }
def i66 : TyI := { agg := true, size := 3, zero := [.v (.int .i64 0), .v (.int .i64 0), .s 67 3], fields := [(0, 2, 1), (1, 2, 1), (2, 65, 1)] }
def i67 : TyI := { agg := true, size := 3, zero := [.v (.int .i64 0), .v (.int .i64 0), .s 67 3], fields := [(0, 2, 1), (1, 2, 1), (2, 65, 1)] }
def i68 : TyI := { agg := true, size := 6, zero := [.v (.int .i64 0), .v (.int .i64 0), .s 67 3, .v (.int .i64 0), .v (.int .i64 0), .s 67 3], fields := [(0, 67, 3), (3, 67, 3)] }
def i69 : TyI := { agg := true, size := 6, zero := [.v (.int .i64 0), .v (.int .i64 0), .s 67 3, .v (.int .i64 0), .v (.int .i64 0), .s 67 3], fields := [(0, 67, 3), (3, 67, 3)] }
def i71 : TyI := { agg := false, size := 1, zero := [.v .nilFunc] }
def i72 : TyI := { agg := false, size := 1, zero := [.v .nilFunc] }
def i73 : TyI := { agg := false, size := 1, zero := [.v .nilFunc] }
def i74 : TyI := { agg := false, size := 1, zero := [.v .nilFunc] }
def i75 : TyI := { agg := false, size := 1, zero := [.v .nilFunc] }
def i76 : TyI := { agg := false, size := 1, zero := [.v .nilFunc] }
def i77 : TyI := { agg := false, size := 1, zero := [.v .nilFunc] }
def i78 : TyI := { agg := false, size := 1, zero := [.v .nilFunc] }
def i79 : TyI := { agg := false, size := 1, zero := [.v (.pointer none)] }
def i80 : TyI := { agg := false, size := 1, zero := [.v .nilFunc] }
def i81 : TyI := { agg := false, size := 1, zero := [.v .nilFunc] }
def i82 : TyI := { agg := false, size := 1, zero := [.v .nilFunc] }
def i83 : TyI := { agg := false, size := 1, zero := [.v .nilFunc] }
def i84 : TyI := { agg := false, size := 1, zero := [.v .nilFunc] }
def i85 : TyI := { agg := false, size := 1, zero := [.s 92 7], elem := some (92, 7, 88) }
def i86 : TyI := { agg := true, size := 3, zero := [.v (.bool false), .s 92 7, .v (.int .i64 0)], fields := [(0, 4, 1), (1, 85, 1), (2, 2, 1)] }
def i87 : TyI := { agg := true, size := 3, zero := [.v (.bool false), .s 92 7, .v (.int .i64 0)], fields := [(0, 4, 1), (1, 85, 1), (2, 2, 1)] }
def i88 : TyI := { agg := false, size := 1, zero := [.v .nilFunc] }
def i89 : TyI := { agg := true, size := 5, zero := [.v (.int .i64 0), .s 2 1, .v (.int .i64 0), .v (.int .i64 0), .s 181 9], fields := [(0, 2, 1), (1, 38, 1), (2, 49, 3)] }
def i90 : TyI := { agg := true, size := 5, zero := [.v (.int .i64 0), .s 2 1, .v (.int .i64 0), .v (.int .i64 0), .s 181 9], fields := [(0, 2, 1), (1, 38, 1), (2, 49, 3)] }
def i91 : TyI := { agg := true, size := 7, zero := [.v (.bool false), .v (.int .i64 0), .v (.int .i64 0), .s 2 1, .v (.int .i64 0), .v (.int .i64 0), .s 181 9], fields := [(0, 4, 1), (1, 2, 1), (2, 90, 5)] }
def i92 : TyI := { agg := true, size := 7, zero := [.v (.bool false), .v (.int .i64 0), .v (.int .i64 0), .s 2 1, .v (.int .i64 0), .v (.int .i64 0), .s 181 9], fields := [(0, 4, 1), (1, 2, 1), (2, 90, 5)] }
def i93 : TyI := { agg := true, size := 8, zero := [.v (.int .i64 0), .v (.bool false), .v (.int .i64 0), .v (.int .i64 0), .s 2 1, .v (.int .i64 0), .v (.int .i64 0), .s 181 9], fields := [(0, 2, 1), (1, 92, 7)] }
def i94 : TyI := { agg := true, size := 8, zero := [.v (.int .i64 0), .v (.bool false), .v (.int .i64 0), .v (.int .i64 0), .s 2 1, .v (.int .i64 0), .v (.int .i64 0), .s 181 9], fields := [(0, 2, 1), (1, 92, 7)] }
def i95 : TyI := { agg := false, size := 1, zero := [.v .nilFunc] }
def i96 : TyI := { agg := false, size := 1, zero := [.v (.map none)], mapK := some (some .i64, 90) }
def i97 : TyI := { agg := false, size := 1, zero := [.v .nilFunc] }
def i99 : TyI := { agg := false, size := 1, zero := [.v .nilFunc] }
def i100 : TyI := { agg := false, size := 1, zero := [.v .nilFunc] }
def i101 : TyI := { agg := false, size := 1, zero := [.v .nilFunc] }
def i102 : TyI := { agg := false, size := 1, zero := [.v .nilFunc] }
def i103 : TyI := { agg := false, size := 1, zero := [.v .nilFunc] }
def i104 : TyI := { agg := false, size := 1, zero := [.v .nilFunc] }
def i105 : TyI := { agg := false, size := 1, zero := [.v .nilFunc] }
def i106 : TyI := { agg := false, size := 1, zero := [.v (.pointer none)] }
def i107 : TyI := { agg := false, size := 1, zero := [.v .nilFunc] }
def i108 : TyI := { agg := false, size := 1, zero := [.v .nilFunc] }
def i109 : TyI := { agg := false, size := 1, zero := [.v .nilFunc] }
def i110 : TyI := { agg := false, size := 1, zero := [.v .nilFunc] }
def i111 : TyI := { agg := false, size := 1, zero := [.v .nilFunc] }
def i112 : TyI := { agg := false, size := 1, zero := [.v .nilFunc] }
def i113 : TyI := { agg := false, size := 1, zero := [.v .nilFunc] }
def i114 : TyI := { agg := false, size := 1, zero := [.v .nilFunc] }
def i115 : TyI := { agg := false, size := 1, zero := [.v .nilFunc] }
def i116 : TyI := { agg := false, size := 1, zero := [.v .nilFunc] }
def i117 : TyI := { agg := false, size := 1, zero := [.v .nilFunc] }
def i118 : TyI := { agg := false, size := 1, zero := [.v .nilFunc] }
def i119 : TyI := { agg := false, size := 1, zero := [.v .nilFunc] }
def i120 : TyI := { agg := false, size := 1, zero := [.v .nilFunc] }
def i121 : TyI := { agg := false, size := 1, zero := [.v .nilFunc] }
def i122 : TyI := { agg := false, size := 1, zero := [.v .nilFunc] }
def i123 : TyI := { agg := false, size := 1, zero := [.v .nilFunc] }
def i124 : TyI := { agg := false, size := 1, zero := [.v .nilFunc] }
def i125 : TyI := { agg := false, size := 1, zero := [.v .nilFunc] }
def i126 : TyI := { agg := false, size := 1, zero := [.v .nilFunc] }
def i127 : TyI := { agg := false, size := 1, zero := [.v .nilFunc] }
def i128 : TyI := { agg := false, size := 1, zero := [.v .nilFunc] }
def i129 : TyI := { agg := false, size := 1, zero := [.v .nilFunc] }
def i130 : TyI := { agg := false, size := 1, zero := [.v (.pointer none)] }
def i131 : TyI := { agg := false, size := 1, zero := [.v .nilFunc] }
def i132 : TyI := { agg := false, size := 1, zero := [.v (.pointer none)] }
def i133 : TyI := { agg := false, size := 1, zero := [.v .nilFunc] }
def i134 : TyI := { agg := false, size := 1, zero := [.v (.pointer none)] }
def i135 : TyI := { agg := false, size := 1, zero := [.v .nilFunc] }
def i136 : TyI := { agg := false, size := 1, zero := [.v .nilFunc] }
def i137 : TyI := { agg := false, size := 1, zero := [.v .nilFunc] }
def i138 : TyI := { agg := false, size := 1, zero := [.v .nilFunc] }
def i139 : TyI := { agg := false, size := 1, zero := [.s 146 7], elem := some (146, 7, 88) }
def i140 : TyI := { agg := true, size := 3, zero := [.v (.bool false), .s 146 7, .v (.int .i64 0)], fields := [(0, 4, 1), (1, 139, 1), (2, 2, 1)] }
def i141 : TyI := { agg := true, size := 3, zero := [.v (.bool false), .s 146 7, .v (.int .i64 0)], fields := [(0, 4, 1), (1, 139, 1), (2, 2, 1)] }
def i142 : TyI := { agg := false, size := 1, zero := [.v .nilFunc] }
def i143 : TyI := { agg := true, size := 5, zero := [.v (.int .i64 0), .s 2 1, .v (.int .i64 0), .v (.int .i64 0), .s 202 9], fields := [(0, 2, 1), (1, 38, 1), (2, 41, 3)] }
def i144 : TyI := { agg := true, size := 5, zero := [.v (.int .i64 0), .s 2 1, .v (.int .i64 0), .v (.int .i64 0), .s 202 9], fields := [(0, 2, 1), (1, 38, 1), (2, 41, 3)] }
def i145 : TyI := { agg := true, size := 7, zero := [.v (.bool false), .v (.int .i64 0), .v (.int .i64 0), .s 2 1, .v (.int .i64 0), .v (.int .i64 0), .s 202 9], fields := [(0, 4, 1), (1, 2, 1), (2, 144, 5)] }
def i146 : TyI := { agg := true, size := 7, zero := [.v (.bool false), .v (.int .i64 0), .v (.int .i64 0), .s 2 1, .v (.int .i64 0), .v (.int .i64 0), .s 202 9], fields := [(0, 4, 1), (1, 2, 1), (2, 144, 5)] }
def i147 : TyI := { agg := true, size := 8, zero := [.v (.int .i64 0), .v (.bool false), .v (.int .i64 0), .v (.int .i64 0), .s 2 1, .v (.int .i64 0), .v (.int .i64 0), .s 202 9], fields := [(0, 2, 1), (1, 146, 7)] }
def i148 : TyI := { agg := true, size := 8, zero := [.v (.int .i64 0), .v (.bool false), .v (.int .i64 0), .v (.int .i64 0), .s 2 1, .v (.int .i64 0), .v (.int .i64 0), .s 202 9], fields := [(0, 2, 1), (1, 146, 7)] }
def i149 : TyI := { agg := false, size := 1, zero := [.v .nilFunc] }
def i150 : TyI := { agg := false, size := 1, zero := [.v .nilFunc] }
def i151 : TyI := { agg := false, size := 1, zero := [.v (.pointer none)] }
def i152 : TyI := { agg := false, size := 1, zero := [.v .nilFunc] }
def i153 : TyI := { agg := false, size := 1, zero := [.v .nilFunc] }
def i154 : TyI := { agg := false, size := 1, zero := [.v .nilFunc] }
def i155 : TyI := { agg := false, size := 1, zero := [.v .nilFunc] }
def i156 : TyI := { agg := false, size := 1, zero := [.v .nilFunc] }
def i157 : TyI := { agg := false, size := 1, zero := [.v .nilFunc] }
def i158 : TyI := { agg := false, size := 1, zero := [.v .nilFunc] }
def i159 : TyI := { agg := false, size := 1, zero := [.v .nilFunc] }
def i160 : TyI := { agg := false, size := 1, zero := [.v .nilFunc] }
def i161 : TyI := { agg := false, size := 1, zero := [.v .nilFunc] }
def i162 : TyI := { agg := false, size := 1, zero := [.v .nilFunc] }
def i163 : TyI := { agg := false, size := 1, zero := [.v (.pointer none)] }
def i164 : TyI := { agg := false, size := 1, zero := [.v .nilFunc] }
def i165 : TyI := { agg := false, size := 1, zero := [.v .nilFunc] }
def i166 : TyI := { agg := false, size := 1, zero := [.v .nilFunc] }
def i167 : TyI := { agg := false, size := 1, zero := [.v .nilFunc] }
def i168 : TyI := { agg := false, size := 1, zero := [.v .nilFunc] }
def i169 : TyI := { agg := false, size := 1, zero := [.v .nilFunc] }
def i170 : TyI := { agg := false, size := 1, zero := [.v .nilFunc] }
def i171 : TyI := { agg := false, size := 1, zero := [.v .nilFunc] }
def i172 : TyI := { agg := false, size := 1, zero := [.v .nilFunc] }
def i173 : TyI := { agg := false, size := 1, zero := [.v .nilFunc] }
def i174 : TyI := { agg := false, size := 1, zero := [.v .nilFunc] }
def i175 : TyI := { agg := false, size := 1, zero := [.v .nilFunc] }
def i176 : TyI := { agg := false, size := 1, zero := [.v .nilFunc] }
def i177 : TyI := { agg := false, size := 1, zero := [.v (.pointer none)] }
def i178 : TyI := { agg := false, size := 1, zero := [.v .nilFunc] }
def i179 : TyI := { agg := false, size := 1, zero := [.s 215 5], elem := some (215, 5, 88) }
def i180 : TyI := { agg := true, size := 9, zero := [.v (.int .i64 0), .v (.int .i64 0), .s 67 3, .v (.int .i64 0), .v (.int .i64 0), .s 67 3, .v (.int .i64 0), .v (.int .i64 0), .s 215 5], fields := [(0, 67, 3), (3, 67, 3), (6, 2, 1), (7, 2, 1), (8, 179, 1)] }
def i181 : TyI := { agg := true, size := 9, zero := [.v (.int .i64 0), .v (.int .i64 0), .s 67 3, .v (.int .i64 0), .v (.int .i64 0), .s 67 3, .v (.int .i64 0), .v (.int .i64 0), .s 215 5], fields := [(0, 67, 3), (3, 67, 3), (6, 2, 1), (7, 2, 1), (8, 179, 1)] }
def i182 : TyI := { agg := false, size := 1, zero := [.v .nilFunc] }
def i183 : TyI := { agg := false, size := 1, zero := [.v (.pointer none)] }
def i184 : TyI := { agg := false, size := 1, zero := [.v .nilFunc] }
def i185 : TyI := { agg := false, size := 1, zero := [.v .nilFunc] }
def i186 : TyI := { agg := false, size := 1, zero := [.v .nilFunc] }
def i187 : TyI := { agg := false, size := 1, zero := [.v .nilFunc] }
def i188 : TyI := { agg := false, size := 1, zero := [.v .nilFunc] }
def i189 : TyI := { agg := false, size := 1, zero := [.v .nilFunc] }
def i190 : TyI := { agg := false, size := 1, zero := [.v .nilFunc] }
def i191 : TyI := { agg := false, size := 1, zero := [.v .nilFunc] }
def i192 : TyI := { agg := false, size := 1, zero := [.v .nilFunc] }
def i193 : TyI := { agg := false, size := 1, zero := [.v .nilFunc] }
def i194 : TyI := { agg := false, size := 1, zero := [.v .nilFunc] }
def i195 : TyI := { agg := false, size := 1, zero := [.v .nilFunc] }
def i196 : TyI := { agg := false, size := 1, zero := [.v .nilFunc] }
def i197 : TyI := { agg := false, size := 1, zero := [.s 199 3], elem := some (199, 3, 40) }
def i198 : TyI := { agg := true, size := 3, zero := [.v (.int .i64 0), .v (.int .i64 0), .s 199 3], fields := [(0, 2, 1), (1, 2, 1), (2, 197, 1)] }
def i199 : TyI := { agg := true, size := 3, zero := [.v (.int .i64 0), .v (.int .i64 0), .s 199 3], fields := [(0, 2, 1), (1, 2, 1), (2, 197, 1)] }
def i200 : TyI := { agg := false, size := 1, zero := [.s 246 5], elem := some (246, 5, 88) }
def i201 : TyI := { agg := true, size := 9, zero := [.v (.int .i64 0), .v (.int .i64 0), .s 199 3, .v (.int .i64 0), .v (.int .i64 0), .s 199 3, .v (.int .i64 0), .v (.int .i64 0), .s 246 5], fields := [(0, 199, 3), (3, 199, 3), (6, 2, 1), (7, 2, 1), (8, 200, 1)] }
def i202 : TyI := { agg := true, size := 9, zero := [.v (.int .i64 0), .v (.int .i64 0), .s 199 3, .v (.int .i64 0), .v (.int .i64 0), .s 199 3, .v (.int .i64 0), .v (.int .i64 0), .s 246 5], fields := [(0, 199, 3), (3, 199, 3), (6, 2, 1), (7, 2, 1), (8, 200, 1)] }
def i203 : TyI := { agg := false, size := 1, zero := [.v .nilFunc] }
def i204 : TyI := { agg := false, size := 1, zero := [.v .nilFunc] }
def i205 : TyI := { agg := false, size := 1, zero := [.v .nilFunc] }
def i206 : TyI := { agg := false, size := 1, zero := [.v .nilFunc] }
def i207 : TyI := { agg := false, size := 1, zero := [.v .nilFunc] }
def i208 : TyI := { agg := false, size := 1, zero := [.v (.int .u64 0)], ik := some .u64 }
def i209 : TyI := { agg := false, size := 1, zero := [.v .nilFunc] }
def i210 : TyI := { agg := false, size := 1, zero := [.v .nilFunc] }
def i211 : TyI := { agg := false, size := 1, zero := [.v .nilFunc] }
def i212 : TyI := { agg := false, size := 1, zero := [.v .nilFunc] }
def i213 : TyI := { agg := false, size := 1, zero := [.v .nilFunc] }
def i214 : TyI := { agg := true, size := 5, zero := [.v (.int .i64 0), .v (.bool false), .s 2 1, .s 67 3, .s 67 3], fields := [(0, 2, 1), (1, 4, 1), (2, 38, 1), (3, 65, 1), (4, 65, 1)] }
def i215 : TyI := { agg := true, size := 5, zero := [.v (.int .i64 0), .v (.bool false), .s 2 1, .s 67 3, .s 67 3], fields := [(0, 2, 1), (1, 4, 1), (2, 38, 1), (3, 65, 1), (4, 65, 1)] }
def i216 : TyI := { agg := false, size := 1, zero := [.v .nilFunc] }
def i217 : TyI := { agg := false, size := 1, zero := [.v .nilFunc] }
def i218 : TyI := { agg := false, size := 1, zero := [.v .nilFunc] }
def i219 : TyI := { agg := false, size := 1, zero := [.v .nilFunc] }
def i220 : TyI := { agg := false, size := 1, zero := [.v .nilFunc] }
def i221 : TyI := { agg := false, size := 1, zero := [.v .nilFunc] }
def i222 : TyI := { agg := false, size := 1, zero := [.v .nilFunc] }
def i223 : TyI := { agg := false, size := 1, zero := [.v .nilFunc] }
def i224 : TyI := { agg := false, size := 1, zero := [.v .nilFunc] }
def i225 : TyI := { agg := false, size := 1, zero := [.v .nilFunc] }
def i226 : TyI := { agg := false, size := 1, zero := [.v .nilFunc] }
def i227 : TyI := { agg := false, size := 1, zero := [.v .nilFunc] }
def i228 : TyI := { agg := false, size := 1, zero := [.v .nilFunc] }
def i229 : TyI := { agg := false, size := 1, zero := [.v (.int .i64 0)], ik := some .i64 }
def i231 : TyI := { agg := false, size := 1, zero := [.v .nilFunc] }
def i232 : TyI := { agg := false, size := 1, zero := [.v .nilFunc] }
def i233 : TyI := { agg := false, size := 1, zero := [.v .nilFunc] }
def i234 : TyI := { agg := false, size := 1, zero := [.v .nilFunc] }
def i236 : TyI := { agg := false, size := 1, zero := [.v .nilFunc] }
def i237 : TyI := { agg := false, size := 1, zero := [.v .nilFunc] }
def i238 : TyI := { agg := false, size := 1, zero := [.v (.int .u32 0)], ik := some .u32 }
def i239 : TyI := { agg := false, size := 1, zero := [.v .nilFunc] }
def i240 : TyI := { agg := false, size := 1, zero := [.v (.int .u64 0)], ik := some .u64 }
def i241 : TyI := { agg := false, size := 1, zero := [.v .nilFunc] }
def i242 : TyI := { agg := false, size := 1, zero := [.v .nilFunc] }
def i243 : TyI := { agg := false, size := 1, zero := [.v .nilFunc] }
def i244 : TyI := { agg := false, size := 1, zero := [.v .nilFunc] }
def i245 : TyI := { agg := true, size := 5, zero := [.v (.int .i64 0), .v (.bool false), .s 2 1, .s 199 3, .s 199 3], fields := [(0, 2, 1), (1, 4, 1), (2, 38, 1), (3, 197, 1), (4, 197, 1)] }
def i246 : TyI := { agg := true, size := 5, zero := [.v (.int .i64 0), .v (.bool false), .s 2 1, .s 199 3, .s 199 3], fields := [(0, 2, 1), (1, 4, 1), (2, 38, 1), (3, 197, 1), (4, 197, 1)] }
def i247 : TyI := { agg := false, size := 1, zero := [.v .nilFunc] }
def i248 : TyI := { agg := false, size := 1, zero := [.v .nilFunc] }
def i249 : TyI := { agg := false, size := 1, zero := [.v (.pointer none)] }
def i250 : TyI := { agg := false, size := 1, zero := [.v .nilFunc] }
def i251 : TyI := { agg := false, size := 1, zero := [.v .nilFunc] }
def i252 : TyI := { agg := false, size := 1, zero := [.v (.int .u64 0)], ik := some .u64 }
def i253 : TyI := { agg := false, size := 1, zero := [.v .nilFunc] }
def i254 : TyI := { agg := false, size := 1, zero := [.v .nilFunc] }
def i255 : TyI := { agg := false, size := 1, zero := [.v .nilFunc] }
def i256 : TyI := { agg := false, size := 1, zero := [.v (.pointer none)] }
def i257 : TyI := { agg := false, size := 1, zero := [.v .nilFunc] }
def i258 : TyI := { agg := false, size := 1, zero := [.v .nilFunc] }
def i260 : TyI := { agg := false, size := 1, zero := [.v .nilFunc] }
def i261 : TyI := { agg := false, size := 1, zero := [.v .nilFunc] }
def i262 : TyI := { agg := false, size := 1, zero := [.v .nilFunc] }
def i263 : TyI := { agg := false, size := 1, zero := [.s 9 1], elem := some (9, 1, 16) }
def i264 : TyI := { agg := false, size := 1, zero := [.v .nilFunc] }
def i265 : TyI := { agg := false, size := 1, zero := [.v .nilFunc] }
def i266 : TyI := { agg := false, size := 1, zero := [.v (.pointer none)] }
def i268 : TyI := { agg := false, size := 1, zero := [.v .nilFunc] }
def i269 : TyI := { agg := false, size := 1, zero := [.v .nilFunc] }
def i270 : TyI := { agg := false, size := 1, zero := [.v .nilFunc] }
def i271 : TyI := { agg := false, size := 1, zero := [.v .nilFunc] }
def i272 : TyI := { agg := true, size := 4, zero := [.v (.pointer none), .v (.pointer none), .v (.pointer none), .v (.string .empty)], fields := [(0, 17, 1), (1, 17, 1), (2, 17, 1), (3, 9, 1)] }
def i273 : TyI := { agg := true, size := 4, zero := [.v (.pointer none), .v (.pointer none), .v (.pointer none), .v (.string .empty)], fields := [(0, 17, 1), (1, 17, 1), (2, 17, 1), (3, 9, 1)] }
def i274 : TyI := { agg := true, size := 0, zero := [] }
def i275 : TyI := { agg := true, size := 0, zero := [] }
def i276 : TyI := { agg := true, size := 0, zero := [] }
def i277 : TyI := { agg := false, size := 1, zero := [.v .nilFunc] }
def i278 : TyI := { agg := false, size := 1, zero := [.v (.int .u8 0)], ik := some .u8 }
def i279 : TyI := { agg := false, size := 1, zero := [.v (.int .u8 0)], ik := some .u8 }
def i280 : TyI := { agg := false, size := 1, zero := [.v .nilFunc] }
def i281 : TyI := { agg := false, size := 1, zero := [.v (.pointer none)] }
def i282 : TyI := { agg := false, size := 1, zero := [.v (.int .i32 0)], ik := some .i32 }
def i283 : TyI := { agg := false, size := 1, zero := [.v (.int .i32 0)], ik := some .i32 }
def i284 : TyI := { agg := true, size := 11, zero := [.v (.int .u64 0), .v (.int .u64 0), .v (.int .u32 0), .v (.int .u8 0), .v (.int .u8 0), .v (.int .u8 0), .v (.int .u8 0), .v .nilFunc, .v (.pointer none), .v (.int .i32 0), .v (.int .i32 0)], fields := [(0, 12, 1), (1, 12, 1), (2, 238, 1), (3, 278, 1), (4, 5, 1), (5, 5, 1), (6, 279, 1), (7, 280, 1), (8, 281, 1), (9, 282, 1), (10, 283, 1)] }
def i285 : TyI := { agg := true, size := 11, zero := [.v (.int .u64 0), .v (.int .u64 0), .v (.int .u32 0), .v (.int .u8 0), .v (.int .u8 0), .v (.int .u8 0), .v (.int .u8 0), .v .nilFunc, .v (.pointer none), .v (.int .i32 0), .v (.int .i32 0)], fields := [(0, 12, 1), (1, 12, 1), (2, 238, 1), (3, 278, 1), (4, 5, 1), (5, 5, 1), (6, 279, 1), (7, 280, 1), (8, 281, 1), (9, 282, 1), (10, 283, 1)] }
def tbl : TT := (.node (.node (.node (.node (.node (.node (.node (.node (.node .leaf 1 i1 .leaf) 2 i2 .leaf) 3 i3 (.node .leaf 4 i4 .leaf)) 5 i5 (.node (.node .leaf 6 i6 .leaf) 7 i7 (.node .leaf 8 i8 .leaf))) 9 i9 (.node (.node (.node (.node .leaf 10 i10 .leaf) 11 i11 .leaf) 12 i12 (.node .leaf 13 i13 .leaf)) 14 i14 (.node (.node .leaf 15 i15 .leaf) 16 i16 (.node .leaf 17 i17 .leaf)))) 18 i18 (.node (.node (.node (.node (.node .leaf 19 i19 .leaf) 21 i21 .leaf) 22 i22 (.node .leaf 23 i23 .leaf)) 24 i24 (.node (.node .leaf 25 i25 .leaf) 26 i26 (.node .leaf 27 i27 .leaf))) 28 i28 (.node (.node (.node .leaf 29 i29 .leaf) 30 i30 (.node .leaf 31 i31 .leaf)) 32 i32 (.node (.node .leaf 33 i33 .leaf) 34 i34 (.node .leaf 35 i35 .leaf))))) 36 i36 (.node (.node (.node (.node (.node (.node .leaf 37 i37 .leaf) 38 i38 .leaf) 39 i39 (.node .leaf 40 i40 .leaf)) 41 i41 (.node (.node .leaf 42 i42 .leaf) 43 i43 (.node .leaf 44 i44 .leaf))) 45 i45 (.node (.node (.node (.node .leaf 46 i46 .leaf) 47 i47 .leaf) 48 i48 (.node .leaf 49 i49 .leaf)) 50 i50 (.node (.node .leaf 51 i51 .leaf) 52 i52 (.node .leaf 53 i53 .leaf)))) 54 i54 (.node (.node (.node (.node (.node .leaf 56 i56 .leaf) 57 i57 .leaf) 58 i58 (.node .leaf 59 i59 .leaf)) 60 i60 (.node (.node .leaf 61 i61 .leaf) 62 i62 (.node .leaf 63 i63 .leaf))) 64 i64 (.node (.node (.node .leaf 65 i65 .leaf) 66 i66 (.node .leaf 67 i67 .leaf)) 68 i68 (.node (.node .leaf 69 i69 .leaf) 71 i71 (.node .leaf 72 i72 .leaf)))))) 73 i73 (.node (.node (.node (.node (.node (.node (.node .leaf 74 i74 .leaf) 75 i75 .leaf) 76 i76 (.node .leaf 77 i77 .leaf)) 78 i78 (.node (.node .leaf 79 i79 .leaf) 80 i80 (.node .leaf 81 i81 .leaf))) 82 i82 (.node (.node (.node (.node .leaf 83 i83 .leaf) 84 i84 .leaf) 85 i85 (.node .leaf 86 i86 .leaf)) 87 i87 (.node (.node .leaf 88 i88 .leaf) 89 i89 (.node .leaf 90 i90 .leaf)))) 91 i91 (.node (.node (.node (.node (.node .leaf 92 i92 .leaf) 93 i93 .leaf) 94 i94 (.node .leaf 95 i95 .leaf)) 96 i96 (.node (.node .leaf 97 i97 .leaf) 99 i99 (.node .leaf 100 i100 .leaf))) 101 i101 (.node (.node (.node .leaf 102 i102 .leaf) 103 i103 (.node .leaf 104 i104 .leaf)) 105 i105 (.node (.node .leaf 106 i106 .leaf) 107 i107 (.node .leaf 108 i108 .leaf))))) 109 i109 (.node (.node (.node (.node (.node (.node .leaf 110 i110 .leaf) 111 i111 .leaf) 112 i112 (.node .leaf 113 i113 .leaf)) 114 i114 (.node (.node .leaf 115 i115 .leaf) 116 i116 (.node .leaf 117 i117 .leaf))) 118 i118 (.node (.node (.node .leaf 119 i119 .leaf) 120 i120 (.node .leaf 121 i121 .leaf)) 122 i122 (.node (.node .leaf 123 i123 .leaf) 124 i124 (.node .leaf 125 i125 .leaf)))) 126 i126 (.node (.node (.node (.node (.node .leaf 127 i127 .leaf) 128 i128 .leaf) 129 i129 (.node .leaf 130 i130 .leaf)) 131 i131 (.node (.node .leaf 132 i132 .leaf) 133 i133 (.node .leaf 134 i134 .leaf))) 135 i135 (.node (.node (.node .leaf 136 i136 .leaf) 137 i137 (.node .leaf 138 i138 .leaf)) 139 i139 (.node (.node .leaf 140 i140 .leaf) 141 i141 (.node .leaf 142 i142 .leaf))))))) 143 i143 (.node (.node (.node (.node (.node (.node (.node (.node .leaf 144 i144 .leaf) 145 i145 .leaf) 146 i146 (.node .leaf 147 i147 .leaf)) 148 i148 (.node (.node .leaf 149 i149 .leaf) 150 i150 (.node .leaf 151 i151 .leaf))) 152 i152 (.node (.node (.node (.node .leaf 153 i153 .leaf) 154 i154 .leaf) 155 i155 (.node .leaf 156 i156 .leaf)) 157 i157 (.node (.node .leaf 158 i158 .leaf) 159 i159 (.node .leaf 160 i160 .leaf)))) 161 i161 (.node (.node (.node (.node (.node .leaf 162 i162 .leaf) 163 i163 .leaf) 164 i164 (.node .leaf 165 i165 .leaf)) 166 i166 (.node (.node .leaf 167 i167 .leaf) 168 i168 (.node .leaf 169 i169 .leaf))) 170 i170 (.node (.node (.node .leaf 171 i171 .leaf) 172 i172 (.node .leaf 173 i173 .leaf)) 174 i174 (.node (.node .leaf 175 i175 .leaf) 176 i176 (.node .leaf 177 i177 .leaf))))) 178 i178 (.node (.node (.node (.node (.node (.node .leaf 179 i179 .leaf) 180 i180 .leaf) 181 i181 (.node .leaf 182 i182 .leaf)) 183 i183 (.node (.node .leaf 184 i184 .leaf) 185 i185 (.node .leaf 186 i186 .leaf))) 187 i187 (.node (.node (.node (.node .leaf 188 i188 .leaf) 189 i189 .leaf) 190 i190 (.node .leaf 191 i191 .leaf)) 192 i192 (.node (.node .leaf 193 i193 .leaf) 194 i194 (.node .leaf 195 i195 .leaf)))) 196 i196 (.node (.node (.node (.node (.node .leaf 197 i197 .leaf) 198 i198 .leaf) 199 i199 (.node .leaf 200 i200 .leaf)) 201 i201 (.node (.node .leaf 202 i202 .leaf) 203 i203 (.node .leaf 204 i204 .leaf))) 205 i205 (.node (.node (.node .leaf 206 i206 .leaf) 207 i207 (.node .leaf 208 i208 .leaf)) 209 i209 (.node (.node .leaf 210 i210 .leaf) 211 i211 (.node .leaf 212 i212 .leaf)))))) 213 i213 (.node (.node (.node (.node (.node (.node (.node .leaf 214 i214 .leaf) 215 i215 .leaf) 216 i216 (.node .leaf 217 i217 .leaf)) 218 i218 (.node (.node .leaf 219 i219 .leaf) 220 i220 (.node .leaf 221 i221 .leaf))) 222 i222 (.node (.node (.node (.node .leaf 223 i223 .leaf) 224 i224 .leaf) 225 i225 (.node .leaf 226 i226 .leaf)) 227 i227 (.node (.node .leaf 228 i228 .leaf) 229 i229 (.node .leaf 231 i231 .leaf)))) 232 i232 (.node (.node (.node (.node (.node .leaf 233 i233 .leaf) 234 i234 .leaf) 236 i236 (.node .leaf 237 i237 .leaf)) 238 i238 (.node (.node .leaf 239 i239 .leaf) 240 i240 (.node .leaf 241 i241 .leaf))) 242 i242 (.node (.node (.node .leaf 243 i243 .leaf) 244 i244 (.node .leaf 245 i245 .leaf)) 246 i246 (.node (.node .leaf 247 i247 .leaf) 248 i248 (.node .leaf 249 i249 .leaf))))) 250 i250 (.node (.node (.node (.node (.node (.node .leaf 251 i251 .leaf) 252 i252 .leaf) 253 i253 (.node .leaf 254 i254 .leaf)) 255 i255 (.node (.node .leaf 256 i256 .leaf) 257 i257 (.node .leaf 258 i258 .leaf))) 260 i260 (.node (.node (.node .leaf 261 i261 .leaf) 262 i262 (.node .leaf 263 i263 .leaf)) 264 i264 (.node (.node .leaf 265 i265 .leaf) 266 i266 (.node .leaf 268 i268 .leaf)))) 269 i269 (.node (.node (.node (.node (.node .leaf 270 i270 .leaf) 271 i271 .leaf) 272 i272 (.node .leaf 273 i273 .leaf)) 274 i274 (.node (.node .leaf 275 i275 .leaf) 276 i276 (.node .leaf 277 i277 .leaf))) 278 i278 (.node (.node (.node .leaf 279 i279 .leaf) 280 i280 (.node .leaf 281 i281 .leaf)) 282 i282 (.node (.node .leaf 283 i283 .leaf) 284 i284 (.node .leaf 285 i285 .leaf))))))))
theorem htb : TblOk Tryz.prog tbl := tblOk_of (by kernel_rfl)
end Go.Proofs.YtbbaadkgmdkjdaaGreat
