/- Part of a proof engine for functions of the given program: what an operation, a loop and a call compute, symbolically. No conditions. -/
import Derived.Test.YthgajpkahkhlpaaGreatEngW
import Derived.Test.YthgajpkahkhlpaaGreatProg
namespace Go.Proofs.YthgajpkahkhlpaaGreat
open Go Go.KA Go.Proofs
set_option maxRecDepth 100000
def i1 : TyI := { agg := false, size := 1, zero := [.v .nilFunc] }
def i2 : TyI := { agg := false, size := 1, zero := [.v (.int .i64 0)], ik := some .i64 }
def i3 : TyI := { agg := false, size := 1, zero := [.v (.int .i64 0)], ik := some .i64 }
def i4 : TyI := { agg := false, size := 1, zero := [.v (.bool false)], isB := true }
def i5 : TyI := { agg := false, size := 1, zero := [.v (.int .u8 0)], ik := some .u8 }
def i6 : TyI := { agg := false, size := 1, zero := [.v (.int .u8 0)], ik := some .u8 }
def i7 : TyI := { agg := true, size := 4, zero := [.v (.int .i64 0), .v (.int .i64 0), .v (.bool false), .v (.int .u8 0)], fields := [(0, 2, 1), (1, 3, 1), (2, 4, 1), (3, 6, 1)] }
def i8 : TyI := { agg := true, size := 4, zero := [.v (.int .i64 0), .v (.int .i64 0), .v (.bool false), .v (.int .u8 0)], fields := [(0, 2, 1), (1, 3, 1), (2, 4, 1), (3, 6, 1)] }
def i9 : TyI := { agg := false, size := 1, zero := [.v (.string .empty)], isS := true }
def i10 : TyI := { agg := false, size := 1, zero := [.v (.string .empty)], isS := true }
def i11 : TyI := { agg := false, size := 1, zero := [.v (.string .empty)], isS := true }
def i12 : TyI := { agg := false, size := 1, zero := [.v (.int .u64 0)], ik := some .u64 }
def i13 : TyI := { agg := true, size := 2, zero := [.v (.string .empty), .v (.int .u64 0)], fields := [(0, 9, 1), (1, 12, 1)] }
def i14 : TyI := { agg := true, size := 2, zero := [.v (.string .empty), .v (.int .u64 0)], fields := [(0, 9, 1), (1, 12, 1)] }
def i15 : TyI := { agg := false, size := 1, zero := [.v (.pointer none)] }
def i16 : TyI := { agg := false, size := 1, zero := [.v (.pointer none)] }
def i17 : TyI := { agg := false, size := 1, zero := [.v (.pointer none)] }
def i18 : TyI := { agg := true, size := 1, zero := [.v (.pointer none)], fields := [(0, 17, 1)] }
def i19 : TyI := { agg := true, size := 1, zero := [.v (.pointer none)], fields := [(0, 17, 1)] }
def i21 : TyI := { agg := false, size := 1, zero := [.v (.int .i32 0)], ik := some .i32 }
def i22 : TyI := { agg := true, size := 2, zero := [.v (.int .i64 0), .v (.int .i64 0)], fields := [(0, 2, 1), (1, 2, 1)], eq2 := true }
def i23 : TyI := { agg := true, size := 2, zero := [.v (.int .i64 0), .v (.int .i64 0)], fields := [(0, 2, 1), (1, 2, 1)], eq2 := true }
def i24 : TyI := { agg := false, size := 1, zero := [.s 105 7], elem := some (105, 7, 88) }
def i25 : TyI := { agg := false, size := 1, zero := [.s 27 3], elem := some (27, 3, 40) }
def i26 : TyI := { agg := true, size := 3, zero := [.v (.int .i64 0), .v (.int .i64 0), .s 27 3], fields := [(0, 2, 1), (1, 2, 1), (2, 25, 1)] }
def i27 : TyI := { agg := true, size := 3, zero := [.v (.int .i64 0), .v (.int .i64 0), .s 27 3], fields := [(0, 2, 1), (1, 2, 1), (2, 25, 1)] }
def i28 : TyI := { agg := false, size := 1, zero := [.s 30 6], elem := some (30, 6, 80) }
def i29 : TyI := { agg := true, size := 6, zero := [.v (.int .i64 0), .v (.int .i64 0), .v (.int .i64 0), .v (.int .i64 0), .s 27 3, .s 30 6], fields := [(0, 2, 1), (1, 2, 1), (2, 27, 3), (5, 28, 1)] }
def i30 : TyI := { agg := true, size := 6, zero := [.v (.int .i64 0), .v (.int .i64 0), .v (.int .i64 0), .v (.int .i64 0), .s 27 3, .s 30 6], fields := [(0, 2, 1), (1, 2, 1), (2, 27, 3), (5, 28, 1)] }
def i31 : TyI := { agg := true, size := 12, zero := [.v (.int .i64 0), .v (.int .i64 0), .s 27 3, .v (.int .i64 0), .v (.int .i64 0), .v (.int .i64 0), .v (.int .i64 0), .s 27 3, .s 30 6, .v (.int .i64 0), .v (.int .i64 0), .s 27 3], fields := [(0, 27, 3), (3, 30, 6), (9, 27, 3)] }
def i32 : TyI := { agg := true, size := 12, zero := [.v (.int .i64 0), .v (.int .i64 0), .s 27 3, .v (.int .i64 0), .v (.int .i64 0), .v (.int .i64 0), .v (.int .i64 0), .s 27 3, .s 30 6, .v (.int .i64 0), .v (.int .i64 0), .s 27 3], fields := [(0, 27, 3), (3, 30, 6), (9, 27, 3)] }
def i33 : TyI := { agg := false, size := 1, zero := [.v .nilFunc] }
def i34 : TyI := { agg := false, size := 1, zero := [.v .nilFunc] }
def i35 : TyI := { agg := false, size := 1, zero := [.s 37 3], elem := some (37, 3, 40) }
def i36 : TyI := { agg := true, size := 3, zero := [.v (.int .i64 0), .v (.int .i64 0), .s 37 3], fields := [(0, 2, 1), (1, 2, 1), (2, 35, 1)] }
def i37 : TyI := { agg := true, size := 3, zero := [.v (.int .i64 0), .v (.int .i64 0), .s 37 3], fields := [(0, 2, 1), (1, 2, 1), (2, 35, 1)] }
def i38 : TyI := { agg := false, size := 1, zero := [.s 40 6], elem := some (40, 6, 80) }
def i39 : TyI := { agg := true, size := 6, zero := [.v (.int .i64 0), .v (.int .i64 0), .v (.int .i64 0), .v (.int .i64 0), .s 37 3, .s 40 6], fields := [(0, 2, 1), (1, 2, 1), (2, 37, 3), (5, 38, 1)] }
def i40 : TyI := { agg := true, size := 6, zero := [.v (.int .i64 0), .v (.int .i64 0), .v (.int .i64 0), .v (.int .i64 0), .s 37 3, .s 40 6], fields := [(0, 2, 1), (1, 2, 1), (2, 37, 3), (5, 38, 1)] }
def i41 : TyI := { agg := true, size := 12, zero := [.v (.int .i64 0), .v (.int .i64 0), .s 37 3, .v (.int .i64 0), .v (.int .i64 0), .v (.int .i64 0), .v (.int .i64 0), .s 37 3, .s 40 6, .v (.int .i64 0), .v (.int .i64 0), .s 37 3], fields := [(0, 37, 3), (3, 40, 6), (9, 37, 3)] }
def i42 : TyI := { agg := true, size := 12, zero := [.v (.int .i64 0), .v (.int .i64 0), .s 37 3, .v (.int .i64 0), .v (.int .i64 0), .v (.int .i64 0), .v (.int .i64 0), .s 37 3, .s 40 6, .v (.int .i64 0), .v (.int .i64 0), .s 37 3], fields := [(0, 37, 3), (3, 40, 6), (9, 37, 3)] }
def i43 : TyI := { agg := false, size := 1, zero := [.s 45 14], elem := some (45, 14, 192) }
def i44 : TyI := { agg := true, size := 14, zero := [.v (.int .i64 0), .v (.int .i64 0), .v (.int .i64 0), .s 37 3, .v (.int .i64 0), .v (.int .i64 0), .v (.int .i64 0), .v (.int .i64 0), .s 37 3, .s 40 6, .v (.int .i64 0), .v (.int .i64 0), .s 37 3, .s 45 14], fields := [(0, 2, 1), (1, 42, 12), (13, 43, 1)] }
def i45 : TyI := { agg := true, size := 14, zero := [.v (.int .i64 0), .v (.int .i64 0), .v (.int .i64 0), .s 37 3, .v (.int .i64 0), .v (.int .i64 0), .v (.int .i64 0), .v (.int .i64 0), .s 37 3, .s 40 6, .v (.int .i64 0), .v (.int .i64 0), .s 37 3, .s 45 14], fields := [(0, 2, 1), (1, 42, 12), (13, 43, 1)] }
def i47 : TyI := { agg := false, size := 1, zero := [.v .nilFunc] }
def i48 : TyI := { agg := true, size := 2, zero := [.v (.int .i64 0), .v (.int .i64 0)], fields := [(0, 2, 1), (1, 2, 1)], eq2 := true }
def i49 : TyI := { agg := false, size := 1, zero := [.v .nilFunc] }
def i50 : TyI := { agg := false, size := 1, zero := [.s 120 7], elem := some (120, 7, 88) }
def i51 : TyI := { agg := false, size := 1, zero := [.v .nilFunc] }
def i52 : TyI := { agg := false, size := 1, zero := [.v .nilFunc] }
def i53 : TyI := { agg := false, size := 1, zero := [.v .nilFunc] }
def i54 : TyI := { agg := false, size := 1, zero := [.v .nilFunc] }
def i55 : TyI := { agg := false, size := 1, zero := [.v .nilFunc] }
def i56 : TyI := { agg := false, size := 1, zero := [.v .nilFunc] }
def i57 : TyI := { agg := false, size := 1, zero := [.v .nilFunc] }
def i58 : TyI := { agg := false, size := 1, zero := [.v .nilFunc] }
def i59 : TyI := { agg := false, size := 1, zero := [.v .nilFunc] }
def i60 : TyI := { agg := false, size := 1, zero := [.s 226 3], elem := some (226, 3, 40) }
def i61 : TyI := { agg := false, size := 1, zero := [.s 233 8], elem := some (233, 8, 96) }
def i62 : TyI := { agg := true, size := 4, zero := [.v (.int .i64 0), .v (.int .i64 0), .s 226 3, .s 233 8], fields := [(0, 23, 2), (2, 60, 1), (3, 61, 1)] }
def i63 : TyI := { agg := true, size := 4, zero := [.v (.int .i64 0), .v (.int .i64 0), .s 226 3, .s 233 8], fields := [(0, 23, 2), (2, 60, 1), (3, 61, 1)] }
def i64 : TyI := { agg := false, size := 1, zero := [.v .nilFunc] }
def i65 : TyI := { agg := false, size := 1, zero := [.s 92 9], elem := some (92, 9, 120) }
def i67 : TyI := { agg := false, size := 1, zero := [.v .nilFunc] }
def i68 : TyI := { agg := false, size := 1, zero := [.s 152 3], elem := some (152, 3, 40) }
def i69 : TyI := { agg := false, size := 1, zero := [.s 239 8], elem := some (239, 8, 96) }
def i70 : TyI := { agg := true, size := 4, zero := [.v (.int .i64 0), .v (.int .i64 0), .s 152 3, .s 239 8], fields := [(0, 48, 2), (2, 68, 1), (3, 69, 1)] }
def i71 : TyI := { agg := true, size := 4, zero := [.v (.int .i64 0), .v (.int .i64 0), .s 152 3, .s 239 8], fields := [(0, 48, 2), (2, 68, 1), (3, 69, 1)] }
def i72 : TyI := { agg := false, size := 1, zero := [.v .nilFunc] }
def i73 : TyI := { agg := false, size := 1, zero := [.v .nilFunc] }
def i74 : TyI := { agg := false, size := 1, zero := [.v .nilFunc] }
def i75 : TyI := { agg := false, size := 1, zero := [.v .nilFunc] }
def i76 : TyI := { agg := false, size := 1, zero := [.v .nilFunc] }
def i77 : TyI := { agg := false, size := 1, zero := [.v .nilFunc] }
def i78 : TyI := { agg := false, size := 1, zero := [.s 2 1], elem := some (2, 1, 8) }
def i79 : TyI := { agg := false, size := 1, zero := [.s 307 9], elem := some (307, 9, 120) }
def i80 : TyI := { agg := true, size := 3, zero := [.v (.int .i64 0), .v (.int .i64 0), .s 307 9], fields := [(0, 23, 2), (2, 79, 1)] }
def i81 : TyI := { agg := true, size := 3, zero := [.v (.int .i64 0), .v (.int .i64 0), .s 307 9], fields := [(0, 23, 2), (2, 79, 1)] }
def i82 : TyI := { agg := false, size := 1, zero := [.s 4 1], elem := some (4, 1, 1) }
def i83 : TyI := { agg := true, size := 9, zero := [.v (.int .i64 0), .v (.int .i64 0), .v (.int .i64 0), .v (.int .i64 0), .s 2 1, .v (.int .i64 0), .v (.int .i64 0), .s 307 9, .s 4 1], fields := [(0, 2, 1), (1, 2, 1), (2, 2, 1), (3, 2, 1), (4, 78, 1), (5, 81, 3), (8, 82, 1)] }
def i84 : TyI := { agg := true, size := 9, zero := [.v (.int .i64 0), .v (.int .i64 0), .v (.int .i64 0), .v (.int .i64 0), .s 2 1, .v (.int .i64 0), .v (.int .i64 0), .s 307 9, .s 4 1], fields := [(0, 2, 1), (1, 2, 1), (2, 2, 1), (3, 2, 1), (4, 78, 1), (5, 81, 3), (8, 82, 1)] }
def i85 : TyI := { agg := false, size := 1, zero := [.v .nilFunc] }
def i87 : TyI := { agg := false, size := 1, zero := [.v .nilFunc] }
def i88 : TyI := { agg := false, size := 1, zero := [.s 260 9], elem := some (260, 9, 120) }
def i89 : TyI := { agg := true, size := 3, zero := [.v (.int .i64 0), .v (.int .i64 0), .s 260 9], fields := [(0, 48, 2), (2, 88, 1)] }
def i90 : TyI := { agg := true, size := 3, zero := [.v (.int .i64 0), .v (.int .i64 0), .s 260 9], fields := [(0, 48, 2), (2, 88, 1)] }
def i91 : TyI := { agg := true, size := 9, zero := [.v (.int .i64 0), .v (.int .i64 0), .v (.int .i64 0), .v (.int .i64 0), .s 2 1, .v (.int .i64 0), .v (.int .i64 0), .s 260 9, .s 4 1], fields := [(0, 2, 1), (1, 2, 1), (2, 2, 1), (3, 2, 1), (4, 78, 1), (5, 90, 3), (8, 82, 1)] }
def i92 : TyI := { agg := true, size := 9, zero := [.v (.int .i64 0), .v (.int .i64 0), .v (.int .i64 0), .v (.int .i64 0), .s 2 1, .v (.int .i64 0), .v (.int .i64 0), .s 260 9, .s 4 1], fields := [(0, 2, 1), (1, 2, 1), (2, 2, 1), (3, 2, 1), (4, 78, 1), (5, 90, 3), (8, 82, 1)] }
def i93 : TyI := { agg := false, size := 1, zero := [.v .nilFunc] }
def i94 : TyI := { agg := false, size := 1, zero := [.v .nilFunc] }
def i95 : TyI := { agg := false, size := 1, zero := [.v .nilFunc] }
def i96 : TyI := { agg := false, size := 1, zero := [.v .nilFunc] }
def i97 : TyI := { agg := false, size := 1, zero := [.s 84 9], elem := some (84, 9, 120) }
def i98 : TyI := { agg := false, size := 1, zero := [.v .nilFunc] }
def i100 : TyI := { agg := false, size := 1, zero := [.v .nilFunc] }
def i101 : TyI := { agg := false, size := 1, zero := [.v .nilFunc] }
def i102 : TyI := { agg := false, size := 1, zero := [.v .nilFunc] }
def i103 : TyI := { agg := false, size := 1, zero := [.v .nilFunc] }
def i104 : TyI := { agg := true, size := 7, zero := [.v (.int .i64 0), .v (.int .i64 0), .s 27 3, .v (.int .i64 0), .v (.int .i64 0), .v (.int .i64 0), .s 27 3], fields := [(0, 27, 3), (3, 2, 1), (4, 27, 3)] }
def i105 : TyI := { agg := true, size := 7, zero := [.v (.int .i64 0), .v (.int .i64 0), .s 27 3, .v (.int .i64 0), .v (.int .i64 0), .v (.int .i64 0), .s 27 3], fields := [(0, 27, 3), (3, 2, 1), (4, 27, 3)] }
def i106 : TyI := { agg := false, size := 1, zero := [.v .nilFunc] }
def i107 : TyI := { agg := false, size := 1, zero := [.v .nilFunc] }
def i108 : TyI := { agg := false, size := 1, zero := [.v .nilFunc] }
def i109 : TyI := { agg := false, size := 1, zero := [.v .nilFunc] }
def i110 : TyI := { agg := false, size := 1, zero := [.v (.pointer none)] }
def i111 : TyI := { agg := false, size := 1, zero := [.v .nilFunc] }
def i112 : TyI := { agg := false, size := 1, zero := [.v (.pointer none)] }
def i113 : TyI := { agg := true, size := 5, zero := [.v (.int .i64 0), .v (.int .i64 0), .s 120 7, .v (.int .i64 0), .v (.bool false)], fields := [(0, 48, 2), (2, 50, 1), (3, 2, 1), (4, 4, 1)] }
def i114 : TyI := { agg := true, size := 5, zero := [.v (.int .i64 0), .v (.int .i64 0), .s 120 7, .v (.int .i64 0), .v (.bool false)], fields := [(0, 48, 2), (2, 50, 1), (3, 2, 1), (4, 4, 1)] }
def i115 : TyI := { agg := false, size := 1, zero := [.v .nilFunc] }
def i116 : TyI := { agg := false, size := 1, zero := [.v (.pointer none)] }
def i117 : TyI := { agg := false, size := 1, zero := [.v (.pointer none)] }
def i118 : TyI := { agg := false, size := 1, zero := [.v .nilFunc] }
def i119 : TyI := { agg := true, size := 7, zero := [.v (.int .i64 0), .v (.int .i64 0), .s 37 3, .v (.int .i64 0), .v (.int .i64 0), .v (.int .i64 0), .s 37 3], fields := [(0, 37, 3), (3, 2, 1), (4, 37, 3)] }
def i120 : TyI := { agg := true, size := 7, zero := [.v (.int .i64 0), .v (.int .i64 0), .s 37 3, .v (.int .i64 0), .v (.int .i64 0), .v (.int .i64 0), .s 37 3], fields := [(0, 37, 3), (3, 2, 1), (4, 37, 3)] }
def i121 : TyI := { agg := false, size := 1, zero := [.v .nilFunc] }
def i122 : TyI := { agg := false, size := 1, zero := [.v .nilFunc] }
def i123 : TyI := { agg := false, size := 1, zero := [.v .nilFunc] }
def i124 : TyI := { agg := false, size := 1, zero := [.v .nilFunc] }
def i125 : TyI := { agg := false, size := 1, zero := [.v .nilFunc] }
def i126 : TyI := { agg := false, size := 1, zero := [.v .nilFunc] }
def i127 : TyI := { agg := true, size := 3, zero := [.v (.int .i64 0), .v (.int .i64 0), .s 120 7], fields := [(0, 48, 2), (2, 50, 1)] }
def i128 : TyI := { agg := true, size := 3, zero := [.v (.int .i64 0), .v (.int .i64 0), .s 120 7], fields := [(0, 48, 2), (2, 50, 1)] }
def i129 : TyI := { agg := false, size := 1, zero := [.v .nilFunc] }
def i130 : TyI := { agg := false, size := 1, zero := [.v .nilFunc] }
def i131 : TyI := { agg := false, size := 1, zero := [.v .nilFunc] }
def i132 : TyI := { agg := false, size := 1, zero := [.v .nilFunc] }
def i133 : TyI := { agg := false, size := 1, zero := [.v .nilFunc] }
def i134 : TyI := { agg := false, size := 1, zero := [.v .nilFunc] }
def i135 : TyI := { agg := false, size := 1, zero := [.v .nilFunc] }
def i136 : TyI := { agg := false, size := 1, zero := [.v .nilFunc] }
def i137 : TyI := { agg := false, size := 1, zero := [.v .nilFunc] }
def i138 : TyI := { agg := false, size := 1, zero := [.v .nilFunc] }
def i139 : TyI := { agg := false, size := 1, zero := [.v .nilFunc] }
def i140 : TyI := { agg := false, size := 1, zero := [.v .nilFunc] }
def i141 : TyI := { agg := false, size := 1, zero := [.v .nilFunc] }
def i142 : TyI := { agg := false, size := 1, zero := [.v .nilFunc] }
def i143 : TyI := { agg := false, size := 1, zero := [.v .nilFunc] }
def i144 : TyI := { agg := false, size := 1, zero := [.v (.pointer none)] }
def i145 : TyI := { agg := false, size := 1, zero := [.v (.pointer none)] }
def i146 : TyI := { agg := false, size := 1, zero := [.v .nilFunc] }
def i147 : TyI := { agg := true, size := 6, zero := [.v (.int .i64 0), .v (.int .i64 0), .s 152 3, .s 239 8, .s 92 9, .v (.bool false)], fields := [(0, 71, 4), (4, 65, 1), (5, 4, 1)] }
def i148 : TyI := { agg := true, size := 6, zero := [.v (.int .i64 0), .v (.int .i64 0), .s 152 3, .s 239 8, .s 92 9, .v (.bool false)], fields := [(0, 71, 4), (4, 65, 1), (5, 4, 1)] }
def i149 : TyI := { agg := false, size := 1, zero := [.v .nilFunc] }
def i150 : TyI := { agg := false, size := 1, zero := [.s 157 7], elem := some (157, 7, 88) }
def i151 : TyI := { agg := true, size := 3, zero := [.v (.bool false), .s 157 7, .v (.int .i64 0)], fields := [(0, 4, 1), (1, 150, 1), (2, 2, 1)] }
def i152 : TyI := { agg := true, size := 3, zero := [.v (.bool false), .s 157 7, .v (.int .i64 0)], fields := [(0, 4, 1), (1, 150, 1), (2, 2, 1)] }
def i153 : TyI := { agg := false, size := 1, zero := [.v (.pointer none)] }
def i154 : TyI := { agg := true, size := 5, zero := [.v (.int .i64 0), .s 2 1, .v (.int .i64 0), .v (.int .i64 0), .s 260 9], fields := [(0, 2, 1), (1, 78, 1), (2, 90, 3)] }
def i155 : TyI := { agg := true, size := 5, zero := [.v (.int .i64 0), .s 2 1, .v (.int .i64 0), .v (.int .i64 0), .s 260 9], fields := [(0, 2, 1), (1, 78, 1), (2, 90, 3)] }
def i156 : TyI := { agg := true, size := 7, zero := [.v (.bool false), .v (.int .i64 0), .v (.int .i64 0), .s 2 1, .v (.int .i64 0), .v (.int .i64 0), .s 260 9], fields := [(0, 4, 1), (1, 2, 1), (2, 155, 5)] }
def i157 : TyI := { agg := true, size := 7, zero := [.v (.bool false), .v (.int .i64 0), .v (.int .i64 0), .s 2 1, .v (.int .i64 0), .v (.int .i64 0), .s 260 9], fields := [(0, 4, 1), (1, 2, 1), (2, 155, 5)] }
def i158 : TyI := { agg := false, size := 1, zero := [.v .nilFunc] }
def i159 : TyI := { agg := false, size := 1, zero := [.v .nilFunc] }
def i160 : TyI := { agg := false, size := 1, zero := [.v .nilFunc] }
def i161 : TyI := { agg := false, size := 1, zero := [.v .nilFunc] }
def i162 : TyI := { agg := false, size := 1, zero := [.v .nilFunc] }
def i163 : TyI := { agg := true, size := 6, zero := [.v (.int .i64 0), .v (.int .i64 0), .s 152 3, .s 239 8, .s 92 9, .v (.bool false)], fields := [(0, 71, 4), (4, 65, 1), (5, 4, 1)] }
def i164 : TyI := { agg := true, size := 6, zero := [.v (.int .i64 0), .v (.int .i64 0), .s 152 3, .s 239 8, .s 92 9, .v (.bool false)], fields := [(0, 71, 4), (4, 65, 1), (5, 4, 1)] }
def i165 : TyI := { agg := false, size := 1, zero := [.v .nilFunc] }
def i166 : TyI := { agg := false, size := 1, zero := [.v .nilFunc] }
def i167 : TyI := { agg := false, size := 1, zero := [.v .nilFunc] }
def i168 : TyI := { agg := false, size := 1, zero := [.v .nilFunc] }
def i169 : TyI := { agg := false, size := 1, zero := [.v .nilFunc] }
def i170 : TyI := { agg := false, size := 1, zero := [.v .nilFunc] }
def i171 : TyI := { agg := false, size := 1, zero := [.v .nilFunc] }
def i172 : TyI := { agg := false, size := 1, zero := [.v .nilFunc] }
def i173 : TyI := { agg := false, size := 1, zero := [.v .nilFunc] }
def i174 : TyI := { agg := false, size := 1, zero := [.v .nilFunc] }
def i175 : TyI := { agg := false, size := 1, zero := [.v .nilFunc] }
def i176 : TyI := { agg := false, size := 1, zero := [.v .nilFunc] }
def i177 : TyI := { agg := false, size := 1, zero := [.v (.pointer none)] }
def i178 : TyI := { agg := false, size := 1, zero := [.v .nilFunc] }
def i179 : TyI := { agg := false, size := 1, zero := [.v .nilFunc] }
def i180 : TyI := { agg := false, size := 1, zero := [.v .nilFunc] }
def i181 : TyI := { agg := false, size := 1, zero := [.v .nilFunc] }
def i182 : TyI := { agg := false, size := 1, zero := [.v .nilFunc] }
def i183 : TyI := { agg := false, size := 1, zero := [.v .nilFunc] }
def i184 : TyI := { agg := false, size := 1, zero := [.v .nilFunc] }
def i185 : TyI := { agg := false, size := 1, zero := [.v .nilFunc] }
def i186 : TyI := { agg := false, size := 1, zero := [.v .nilFunc] }
def i187 : TyI := { agg := false, size := 1, zero := [.v .nilFunc] }
def i188 : TyI := { agg := false, size := 1, zero := [.v .nilFunc] }
def i189 : TyI := { agg := false, size := 1, zero := [.v .nilFunc] }
def i190 : TyI := { agg := false, size := 1, zero := [.v .nilFunc] }
def i191 : TyI := { agg := false, size := 1, zero := [.v .nilFunc] }
def i192 : TyI := { agg := false, size := 1, zero := [.v .nilFunc] }
def i193 : TyI := { agg := false, size := 1, zero := [.v (.pointer none)] }
def i194 : TyI := { agg := false, size := 1, zero := [.v .nilFunc] }
def i195 : TyI := { agg := false, size := 1, zero := [.v .nilFunc] }
def i196 : TyI := { agg := false, size := 1, zero := [.v .nilFunc] }
def i198 : TyI := { agg := false, size := 1, zero := [.v .nilFunc] }
def i199 : TyI := { agg := false, size := 1, zero := [.v .nilFunc] }
def i200 : TyI := { agg := false, size := 1, zero := [.v .nilFunc] }
def i201 : TyI := { agg := false, size := 1, zero := [.v .nilFunc] }
def i202 : TyI := { agg := false, size := 1, zero := [.v .nilFunc] }
def i203 : TyI := { agg := false, size := 1, zero := [.v .nilFunc] }
def i204 : TyI := { agg := false, size := 1, zero := [.v .nilFunc] }
def i205 : TyI := { agg := false, size := 1, zero := [.v .nilFunc] }
def i206 : TyI := { agg := false, size := 1, zero := [.v .nilFunc] }
def i207 : TyI := { agg := false, size := 1, zero := [.v .nilFunc] }
def i208 : TyI := { agg := false, size := 1, zero := [.v .nilFunc] }
def i209 : TyI := { agg := false, size := 1, zero := [.v .nilFunc] }
def i210 : TyI := { agg := false, size := 1, zero := [.v .nilFunc] }
def i211 : TyI := { agg := false, size := 1, zero := [.v .nilFunc] }
def i212 : TyI := { agg := false, size := 1, zero := [.v .nilFunc] }
def i213 : TyI := { agg := false, size := 1, zero := [.v .nilFunc] }
def i214 : TyI := { agg := false, size := 1, zero := [.v .nilFunc] }
def i215 : TyI := { agg := false, size := 1, zero := [.v .nilFunc] }
def i216 : TyI := { agg := false, size := 1, zero := [.v .nilFunc] }
def i217 : TyI := { agg := false, size := 1, zero := [.v .nilFunc] }
def i218 : TyI := { agg := false, size := 1, zero := [.v .nilFunc] }
def i219 : TyI := { agg := false, size := 1, zero := [.v .nilFunc] }
def i220 : TyI := { agg := false, size := 1, zero := [.v .nilFunc] }
def i221 : TyI := { agg := false, size := 1, zero := [.v .nilFunc] }
def i222 : TyI := { agg := false, size := 1, zero := [.v .nilFunc] }
def i223 : TyI := { agg := false, size := 1, zero := [.v .nilFunc] }
def i224 : TyI := { agg := false, size := 1, zero := [.s 231 7], elem := some (231, 7, 88) }
def i225 : TyI := { agg := true, size := 3, zero := [.v (.bool false), .s 231 7, .v (.int .i64 0)], fields := [(0, 4, 1), (1, 224, 1), (2, 2, 1)] }
def i226 : TyI := { agg := true, size := 3, zero := [.v (.bool false), .s 231 7, .v (.int .i64 0)], fields := [(0, 4, 1), (1, 224, 1), (2, 2, 1)] }
def i227 : TyI := { agg := false, size := 1, zero := [.v .nilFunc] }
def i228 : TyI := { agg := true, size := 5, zero := [.v (.int .i64 0), .s 2 1, .v (.int .i64 0), .v (.int .i64 0), .s 307 9], fields := [(0, 2, 1), (1, 78, 1), (2, 81, 3)] }
def i229 : TyI := { agg := true, size := 5, zero := [.v (.int .i64 0), .s 2 1, .v (.int .i64 0), .v (.int .i64 0), .s 307 9], fields := [(0, 2, 1), (1, 78, 1), (2, 81, 3)] }
def i230 : TyI := { agg := true, size := 7, zero := [.v (.bool false), .v (.int .i64 0), .v (.int .i64 0), .s 2 1, .v (.int .i64 0), .v (.int .i64 0), .s 307 9], fields := [(0, 4, 1), (1, 2, 1), (2, 229, 5)] }
def i231 : TyI := { agg := true, size := 7, zero := [.v (.bool false), .v (.int .i64 0), .v (.int .i64 0), .s 2 1, .v (.int .i64 0), .v (.int .i64 0), .s 307 9], fields := [(0, 4, 1), (1, 2, 1), (2, 229, 5)] }
def i232 : TyI := { agg := true, size := 8, zero := [.v (.int .i64 0), .v (.bool false), .v (.int .i64 0), .v (.int .i64 0), .s 2 1, .v (.int .i64 0), .v (.int .i64 0), .s 307 9], fields := [(0, 2, 1), (1, 231, 7)] }
def i233 : TyI := { agg := true, size := 8, zero := [.v (.int .i64 0), .v (.bool false), .v (.int .i64 0), .v (.int .i64 0), .s 2 1, .v (.int .i64 0), .v (.int .i64 0), .s 307 9], fields := [(0, 2, 1), (1, 231, 7)] }
def i234 : TyI := { agg := false, size := 1, zero := [.v .nilFunc] }
def i235 : TyI := { agg := false, size := 1, zero := [.v .nilFunc] }
def i236 : TyI := { agg := false, size := 1, zero := [.v (.pointer none)] }
def i237 : TyI := { agg := false, size := 1, zero := [.v .nilFunc] }
def i238 : TyI := { agg := true, size := 8, zero := [.v (.int .i64 0), .v (.bool false), .v (.int .i64 0), .v (.int .i64 0), .s 2 1, .v (.int .i64 0), .v (.int .i64 0), .s 260 9], fields := [(0, 2, 1), (1, 157, 7)] }
def i239 : TyI := { agg := true, size := 8, zero := [.v (.int .i64 0), .v (.bool false), .v (.int .i64 0), .v (.int .i64 0), .s 2 1, .v (.int .i64 0), .v (.int .i64 0), .s 260 9], fields := [(0, 2, 1), (1, 157, 7)] }
def i240 : TyI := { agg := false, size := 1, zero := [.v .nilFunc] }
def i241 : TyI := { agg := false, size := 1, zero := [.v .nilFunc] }
def i242 : TyI := { agg := false, size := 1, zero := [.v .nilFunc] }
def i243 : TyI := { agg := false, size := 1, zero := [.v .nilFunc] }
def i244 : TyI := { agg := false, size := 1, zero := [.v .nilFunc] }
def i245 : TyI := { agg := false, size := 1, zero := [.v .nilFunc] }
def i246 : TyI := { agg := false, size := 1, zero := [.v .nilFunc] }
def i247 : TyI := { agg := false, size := 1, zero := [.v (.map none)], mapK := some (some .i64, 155) }
def i248 : TyI := { agg := false, size := 1, zero := [.v .nilFunc] }
def i250 : TyI := { agg := false, size := 1, zero := [.v .nilFunc] }
def i251 : TyI := { agg := false, size := 1, zero := [.v .nilFunc] }
def i252 : TyI := { agg := false, size := 1, zero := [.v (.pointer none)] }
def i253 : TyI := { agg := false, size := 1, zero := [.v .nilFunc] }
def i254 : TyI := { agg := false, size := 1, zero := [.v .nilFunc] }
def i255 : TyI := { agg := false, size := 1, zero := [.v .nilFunc] }
def i256 : TyI := { agg := false, size := 1, zero := [.v .nilFunc] }
def i257 : TyI := { agg := false, size := 1, zero := [.v .nilFunc] }
def i258 : TyI := { agg := false, size := 1, zero := [.s 303 5], elem := some (303, 5, 88) }
def i259 : TyI := { agg := true, size := 9, zero := [.v (.int .i64 0), .v (.int .i64 0), .s 37 3, .v (.int .i64 0), .v (.int .i64 0), .s 37 3, .v (.int .i64 0), .v (.int .i64 0), .s 303 5], fields := [(0, 37, 3), (3, 37, 3), (6, 2, 1), (7, 2, 1), (8, 258, 1)] }
def i260 : TyI := { agg := true, size := 9, zero := [.v (.int .i64 0), .v (.int .i64 0), .s 37 3, .v (.int .i64 0), .v (.int .i64 0), .s 37 3, .v (.int .i64 0), .v (.int .i64 0), .s 303 5], fields := [(0, 37, 3), (3, 37, 3), (6, 2, 1), (7, 2, 1), (8, 258, 1)] }
def i261 : TyI := { agg := false, size := 1, zero := [.v .nilFunc] }
def i262 : TyI := { agg := false, size := 1, zero := [.v .nilFunc] }
def i263 : TyI := { agg := false, size := 1, zero := [.v .nilFunc] }
def i264 : TyI := { agg := false, size := 1, zero := [.v .nilFunc] }
def i265 : TyI := { agg := false, size := 1, zero := [.v (.pointer none)] }
def i266 : TyI := { agg := false, size := 1, zero := [.v .nilFunc] }
def i267 : TyI := { agg := false, size := 1, zero := [.v .nilFunc] }
def i268 : TyI := { agg := false, size := 1, zero := [.v .nilFunc] }
def i269 : TyI := { agg := false, size := 1, zero := [.v .nilFunc] }
def i270 : TyI := { agg := false, size := 1, zero := [.v .nilFunc] }
def i271 : TyI := { agg := false, size := 1, zero := [.v .nilFunc] }
def i272 : TyI := { agg := false, size := 1, zero := [.v .nilFunc] }
def i273 : TyI := { agg := false, size := 1, zero := [.v .nilFunc] }
def i274 : TyI := { agg := false, size := 1, zero := [.v .nilFunc] }
def i275 : TyI := { agg := false, size := 1, zero := [.v .nilFunc] }
def i276 : TyI := { agg := false, size := 1, zero := [.v .nilFunc] }
def i277 : TyI := { agg := false, size := 1, zero := [.v .nilFunc] }
def i278 : TyI := { agg := false, size := 1, zero := [.v .nilFunc] }
def i279 : TyI := { agg := false, size := 1, zero := [.v .nilFunc] }
def i280 : TyI := { agg := false, size := 1, zero := [.v .nilFunc] }
def i281 : TyI := { agg := false, size := 1, zero := [.v .nilFunc] }
def i282 : TyI := { agg := false, size := 1, zero := [.v .nilFunc] }
def i283 : TyI := { agg := false, size := 1, zero := [.v .nilFunc] }
def i284 : TyI := { agg := false, size := 1, zero := [.v .nilFunc] }
def i285 : TyI := { agg := false, size := 1, zero := [.v .nilFunc] }
def i286 : TyI := { agg := false, size := 1, zero := [.s 82 1], elem := some (82, 1, 24) }
def i287 : TyI := { agg := false, size := 1, zero := [.v .nilFunc] }
def i288 : TyI := { agg := false, size := 1, zero := [.v .nilFunc] }
def i289 : TyI := { agg := false, size := 1, zero := [.v .nilFunc] }
def i290 : TyI := { agg := false, size := 1, zero := [.v .nilFunc] }
def i291 : TyI := { agg := false, size := 1, zero := [.v .nilFunc] }
def i292 : TyI := { agg := false, size := 1, zero := [.v .nilFunc] }
def i293 : TyI := { agg := false, size := 1, zero := [.v .nilFunc] }
def i294 : TyI := { agg := false, size := 1, zero := [.v .nilFunc] }
def i295 : TyI := { agg := false, size := 1, zero := [.v .nilFunc] }
def i296 : TyI := { agg := false, size := 1, zero := [.v .nilFunc] }
def i297 : TyI := { agg := false, size := 1, zero := [.v .nilFunc] }
def i298 : TyI := { agg := false, size := 1, zero := [.v .nilFunc] }
def i299 : TyI := { agg := false, size := 1, zero := [.v .nilFunc] }
def i300 : TyI := { agg := false, size := 1, zero := [.v .nilFunc] }
def i301 : TyI := { agg := false, size := 1, zero := [.v .nilFunc] }
def i302 : TyI := { agg := true, size := 5, zero := [.v (.int .i64 0), .v (.bool false), .s 2 1, .s 37 3, .s 37 3], fields := [(0, 2, 1), (1, 4, 1), (2, 78, 1), (3, 35, 1), (4, 35, 1)] }
def i303 : TyI := { agg := true, size := 5, zero := [.v (.int .i64 0), .v (.bool false), .s 2 1, .s 37 3, .s 37 3], fields := [(0, 2, 1), (1, 4, 1), (2, 78, 1), (3, 35, 1), (4, 35, 1)] }
def i304 : TyI := { agg := false, size := 1, zero := [.v .nilFunc] }
def i305 : TyI := { agg := false, size := 1, zero := [.s 357 5], elem := some (357, 5, 88) }
def i306 : TyI := { agg := true, size := 9, zero := [.v (.int .i64 0), .v (.int .i64 0), .s 27 3, .v (.int .i64 0), .v (.int .i64 0), .s 27 3, .v (.int .i64 0), .v (.int .i64 0), .s 357 5], fields := [(0, 27, 3), (3, 27, 3), (6, 2, 1), (7, 2, 1), (8, 305, 1)] }
def i307 : TyI := { agg := true, size := 9, zero := [.v (.int .i64 0), .v (.int .i64 0), .s 27 3, .v (.int .i64 0), .v (.int .i64 0), .s 27 3, .v (.int .i64 0), .v (.int .i64 0), .s 357 5], fields := [(0, 27, 3), (3, 27, 3), (6, 2, 1), (7, 2, 1), (8, 305, 1)] }
def i308 : TyI := { agg := false, size := 1, zero := [.v .nilFunc] }
def i309 : TyI := { agg := false, size := 1, zero := [.v .nilFunc] }
def i310 : TyI := { agg := false, size := 1, zero := [.v .nilFunc] }
def i311 : TyI := { agg := false, size := 1, zero := [.v .nilFunc] }
def i312 : TyI := { agg := false, size := 1, zero := [.v .nilFunc] }
def i313 : TyI := { agg := false, size := 1, zero := [.v .nilFunc] }
def i314 : TyI := { agg := false, size := 1, zero := [.v .nilFunc] }
def i315 : TyI := { agg := false, size := 1, zero := [.v .nilFunc] }
def i316 : TyI := { agg := false, size := 1, zero := [.v .nilFunc] }
def i317 : TyI := { agg := false, size := 1, zero := [.v .nilFunc] }
def i318 : TyI := { agg := false, size := 1, zero := [.v (.int .u64 0)], ik := some .u64 }
def i319 : TyI := { agg := false, size := 1, zero := [.v .nilFunc] }
def i320 : TyI := { agg := false, size := 1, zero := [.v .nilFunc] }
def i321 : TyI := { agg := false, size := 1, zero := [.v .nilFunc] }
def i323 : TyI := { agg := false, size := 1, zero := [.v .nilFunc] }
def i325 : TyI := { agg := false, size := 1, zero := [.v .nilFunc] }
def i326 : TyI := { agg := false, size := 1, zero := [.s 286 1], elem := some (286, 1, 24) }
def i327 : TyI := { agg := false, size := 1, zero := [.v .nilFunc] }
def i328 : TyI := { agg := false, size := 1, zero := [.v .nilFunc] }
def i329 : TyI := { agg := false, size := 1, zero := [.v .nilFunc] }
def i330 : TyI := { agg := false, size := 1, zero := [.v .nilFunc] }
def i331 : TyI := { agg := false, size := 1, zero := [.v .nilFunc] }
def i332 : TyI := { agg := false, size := 1, zero := [.v (.pointer none)] }
def i333 : TyI := { agg := false, size := 1, zero := [.v .nilFunc] }
def i334 : TyI := { agg := false, size := 1, zero := [.v (.pointer none)] }
def i335 : TyI := { agg := false, size := 1, zero := [.v .nilFunc] }
def i336 : TyI := { agg := false, size := 1, zero := [.v (.pointer none)] }
def i337 : TyI := { agg := false, size := 1, zero := [.v .nilFunc] }
def i338 : TyI := { agg := false, size := 1, zero := [.v .nilFunc] }
def i339 : TyI := { agg := false, size := 1, zero := [.v .nilFunc] }
def i340 : TyI := { agg := false, size := 1, zero := [.v .nilFunc] }
def i341 : TyI := { agg := false, size := 1, zero := [.v .nilFunc] }
def i342 : TyI := { agg := false, size := 1, zero := [.v .nilFunc] }
def i343 : TyI := { agg := false, size := 1, zero := [.v .nilFunc] }
def i344 : TyI := { agg := false, size := 1, zero := [.v .nilFunc] }
def i345 : TyI := { agg := false, size := 1, zero := [.v .nilFunc] }
def i346 : TyI := { agg := false, size := 1, zero := [.v .nilFunc] }
def i347 : TyI := { agg := false, size := 1, zero := [.v .nilFunc] }
def i348 : TyI := { agg := false, size := 1, zero := [.v .nilFunc] }
def i349 : TyI := { agg := false, size := 1, zero := [.v .nilFunc] }
def i350 : TyI := { agg := false, size := 1, zero := [.v .nilFunc] }
def i351 : TyI := { agg := false, size := 1, zero := [.v .nilFunc] }
def i352 : TyI := { agg := false, size := 1, zero := [.v .nilFunc] }
def i353 : TyI := { agg := false, size := 1, zero := [.v .nilFunc] }
def i354 : TyI := { agg := false, size := 1, zero := [.v .nilFunc] }
def i355 : TyI := { agg := false, size := 1, zero := [.v .nilFunc] }
def i356 : TyI := { agg := true, size := 5, zero := [.v (.int .i64 0), .v (.bool false), .s 2 1, .s 27 3, .s 27 3], fields := [(0, 2, 1), (1, 4, 1), (2, 78, 1), (3, 25, 1), (4, 25, 1)] }
def i357 : TyI := { agg := true, size := 5, zero := [.v (.int .i64 0), .v (.bool false), .s 2 1, .s 27 3, .s 27 3], fields := [(0, 2, 1), (1, 4, 1), (2, 78, 1), (3, 25, 1), (4, 25, 1)] }
def i358 : TyI := { agg := false, size := 1, zero := [.v .nilFunc] }
def i359 : TyI := { agg := false, size := 1, zero := [.v .nilFunc] }
def i360 : TyI := { agg := false, size := 1, zero := [.v .nilFunc] }
def i361 : TyI := { agg := false, size := 1, zero := [.v .nilFunc] }
def i362 : TyI := { agg := false, size := 1, zero := [.v .nilFunc] }
def i363 : TyI := { agg := false, size := 1, zero := [.s 9 1], elem := some (9, 1, 16) }
def i364 : TyI := { agg := false, size := 1, zero := [.v .nilFunc] }
def i365 : TyI := { agg := false, size := 1, zero := [.v .nilFunc] }
def i366 : TyI := { agg := false, size := 1, zero := [.v .nilFunc] }
def i367 : TyI := { agg := true, size := 4, zero := [.v (.pointer none), .v (.pointer none), .v (.pointer none), .v (.string .empty)], fields := [(0, 17, 1), (1, 17, 1), (2, 17, 1), (3, 9, 1)] }
def i368 : TyI := { agg := true, size := 4, zero := [.v (.pointer none), .v (.pointer none), .v (.pointer none), .v (.string .empty)], fields := [(0, 17, 1), (1, 17, 1), (2, 17, 1), (3, 9, 1)] }
def i369 : TyI := { agg := true, size := 0, zero := [] }
def i370 : TyI := { agg := true, size := 0, zero := [] }
def i371 : TyI := { agg := true, size := 0, zero := [] }
def i372 : TyI := { agg := false, size := 1, zero := [.v .nilFunc] }
def i373 : TyI := { agg := false, size := 1, zero := [.v (.int .u32 0)], ik := some .u32 }
def i374 : TyI := { agg := false, size := 1, zero := [.v (.int .u8 0)], ik := some .u8 }
def i375 : TyI := { agg := false, size := 1, zero := [.v (.int .u8 0)], ik := some .u8 }
def i376 : TyI := { agg := false, size := 1, zero := [.v .nilFunc] }
def i377 : TyI := { agg := false, size := 1, zero := [.v (.pointer none)] }
def i378 : TyI := { agg := false, size := 1, zero := [.v (.int .i32 0)], ik := some .i32 }
def i379 : TyI := { agg := false, size := 1, zero := [.v (.int .i32 0)], ik := some .i32 }
def i380 : TyI := { agg := true, size := 11, zero := [.v (.int .u64 0), .v (.int .u64 0), .v (.int .u32 0), .v (.int .u8 0), .v (.int .u8 0), .v (.int .u8 0), .v (.int .u8 0), .v .nilFunc, .v (.pointer none), .v (.int .i32 0), .v (.int .i32 0)], fields := [(0, 12, 1), (1, 12, 1), (2, 373, 1), (3, 374, 1), (4, 5, 1), (5, 5, 1), (6, 375, 1), (7, 376, 1), (8, 377, 1), (9, 378, 1), (10, 379, 1)] }
def i381 : TyI := { agg := true, size := 11, zero := [.v (.int .u64 0), .v (.int .u64 0), .v (.int .u32 0), .v (.int .u8 0), .v (.int .u8 0), .v (.int .u8 0), .v (.int .u8 0), .v .nilFunc, .v (.pointer none), .v (.int .i32 0), .v (.int .i32 0)], fields := [(0, 12, 1), (1, 12, 1), (2, 373, 1), (3, 374, 1), (4, 5, 1), (5, 5, 1), (6, 375, 1), (7, 376, 1), (8, 377, 1), (9, 378, 1), (10, 379, 1)] }
def i382 : TyI := { agg := false, size := 1, zero := [.v .nilFunc] }
def tbl : TT := (.node (.node (.node (.node (.node (.node (.node (.node (.node .leaf 1 i1 .leaf) 2 i2 .leaf) 3 i3 (.node (.node .leaf 4 i4 .leaf) 5 i5 .leaf)) 6 i6 (.node (.node (.node .leaf 7 i7 .leaf) 8 i8 .leaf) 9 i9 (.node (.node .leaf 10 i10 .leaf) 11 i11 .leaf))) 12 i12 (.node (.node (.node (.node .leaf 13 i13 .leaf) 14 i14 .leaf) 15 i15 (.node (.node .leaf 16 i16 .leaf) 17 i17 .leaf)) 18 i18 (.node (.node (.node .leaf 19 i19 .leaf) 21 i21 .leaf) 22 i22 (.node (.node .leaf 23 i23 .leaf) 24 i24 .leaf)))) 25 i25 (.node (.node (.node (.node (.node .leaf 26 i26 .leaf) 27 i27 .leaf) 28 i28 (.node (.node .leaf 29 i29 .leaf) 30 i30 .leaf)) 31 i31 (.node (.node (.node .leaf 32 i32 .leaf) 33 i33 .leaf) 34 i34 (.node (.node .leaf 35 i35 .leaf) 36 i36 .leaf))) 37 i37 (.node (.node (.node (.node .leaf 38 i38 .leaf) 39 i39 .leaf) 40 i40 (.node (.node .leaf 41 i41 .leaf) 42 i42 .leaf)) 43 i43 (.node (.node (.node .leaf 44 i44 .leaf) 45 i45 .leaf) 47 i47 (.node .leaf 48 i48 .leaf))))) 49 i49 (.node (.node (.node (.node (.node (.node .leaf 50 i50 .leaf) 51 i51 .leaf) 52 i52 (.node (.node .leaf 53 i53 .leaf) 54 i54 .leaf)) 55 i55 (.node (.node (.node .leaf 56 i56 .leaf) 57 i57 .leaf) 58 i58 (.node (.node .leaf 59 i59 .leaf) 60 i60 .leaf))) 61 i61 (.node (.node (.node (.node .leaf 62 i62 .leaf) 63 i63 .leaf) 64 i64 (.node (.node .leaf 65 i65 .leaf) 67 i67 .leaf)) 68 i68 (.node (.node (.node .leaf 69 i69 .leaf) 70 i70 .leaf) 71 i71 (.node (.node .leaf 72 i72 .leaf) 73 i73 .leaf)))) 74 i74 (.node (.node (.node (.node (.node .leaf 75 i75 .leaf) 76 i76 .leaf) 77 i77 (.node (.node .leaf 78 i78 .leaf) 79 i79 .leaf)) 80 i80 (.node (.node (.node .leaf 81 i81 .leaf) 82 i82 .leaf) 83 i83 (.node (.node .leaf 84 i84 .leaf) 85 i85 .leaf))) 87 i87 (.node (.node (.node (.node .leaf 88 i88 .leaf) 89 i89 .leaf) 90 i90 (.node (.node .leaf 91 i91 .leaf) 92 i92 .leaf)) 93 i93 (.node (.node (.node .leaf 94 i94 .leaf) 95 i95 .leaf) 96 i96 (.node .leaf 97 i97 .leaf)))))) 98 i98 (.node (.node (.node (.node (.node (.node (.node .leaf 100 i100 .leaf) 101 i101 .leaf) 102 i102 (.node (.node .leaf 103 i103 .leaf) 104 i104 .leaf)) 105 i105 (.node (.node (.node .leaf 106 i106 .leaf) 107 i107 .leaf) 108 i108 (.node (.node .leaf 109 i109 .leaf) 110 i110 .leaf))) 111 i111 (.node (.node (.node (.node .leaf 112 i112 .leaf) 113 i113 .leaf) 114 i114 (.node (.node .leaf 115 i115 .leaf) 116 i116 .leaf)) 117 i117 (.node (.node (.node .leaf 118 i118 .leaf) 119 i119 .leaf) 120 i120 (.node (.node .leaf 121 i121 .leaf) 122 i122 .leaf)))) 123 i123 (.node (.node (.node (.node (.node .leaf 124 i124 .leaf) 125 i125 .leaf) 126 i126 (.node (.node .leaf 127 i127 .leaf) 128 i128 .leaf)) 129 i129 (.node (.node (.node .leaf 130 i130 .leaf) 131 i131 .leaf) 132 i132 (.node (.node .leaf 133 i133 .leaf) 134 i134 .leaf))) 135 i135 (.node (.node (.node (.node .leaf 136 i136 .leaf) 137 i137 .leaf) 138 i138 (.node (.node .leaf 139 i139 .leaf) 140 i140 .leaf)) 141 i141 (.node (.node (.node .leaf 142 i142 .leaf) 143 i143 .leaf) 144 i144 (.node .leaf 145 i145 .leaf))))) 146 i146 (.node (.node (.node (.node (.node (.node .leaf 147 i147 .leaf) 148 i148 .leaf) 149 i149 (.node (.node .leaf 150 i150 .leaf) 151 i151 .leaf)) 152 i152 (.node (.node (.node .leaf 153 i153 .leaf) 154 i154 .leaf) 155 i155 (.node (.node .leaf 156 i156 .leaf) 157 i157 .leaf))) 158 i158 (.node (.node (.node (.node .leaf 159 i159 .leaf) 160 i160 .leaf) 161 i161 (.node (.node .leaf 162 i162 .leaf) 163 i163 .leaf)) 164 i164 (.node (.node (.node .leaf 165 i165 .leaf) 166 i166 .leaf) 167 i167 (.node .leaf 168 i168 .leaf)))) 169 i169 (.node (.node (.node (.node (.node .leaf 170 i170 .leaf) 171 i171 .leaf) 172 i172 (.node (.node .leaf 173 i173 .leaf) 174 i174 .leaf)) 175 i175 (.node (.node (.node .leaf 176 i176 .leaf) 177 i177 .leaf) 178 i178 (.node (.node .leaf 179 i179 .leaf) 180 i180 .leaf))) 181 i181 (.node (.node (.node (.node .leaf 182 i182 .leaf) 183 i183 .leaf) 184 i184 (.node (.node .leaf 185 i185 .leaf) 186 i186 .leaf)) 187 i187 (.node (.node (.node .leaf 188 i188 .leaf) 189 i189 .leaf) 190 i190 (.node .leaf 191 i191 .leaf))))))) 192 i192 (.node (.node (.node (.node (.node (.node (.node (.node .leaf 193 i193 .leaf) 194 i194 .leaf) 195 i195 (.node (.node .leaf 196 i196 .leaf) 198 i198 .leaf)) 199 i199 (.node (.node (.node .leaf 200 i200 .leaf) 201 i201 .leaf) 202 i202 (.node (.node .leaf 203 i203 .leaf) 204 i204 .leaf))) 205 i205 (.node (.node (.node (.node .leaf 206 i206 .leaf) 207 i207 .leaf) 208 i208 (.node (.node .leaf 209 i209 .leaf) 210 i210 .leaf)) 211 i211 (.node (.node (.node .leaf 212 i212 .leaf) 213 i213 .leaf) 214 i214 (.node (.node .leaf 215 i215 .leaf) 216 i216 .leaf)))) 217 i217 (.node (.node (.node (.node (.node .leaf 218 i218 .leaf) 219 i219 .leaf) 220 i220 (.node (.node .leaf 221 i221 .leaf) 222 i222 .leaf)) 223 i223 (.node (.node (.node .leaf 224 i224 .leaf) 225 i225 .leaf) 226 i226 (.node (.node .leaf 227 i227 .leaf) 228 i228 .leaf))) 229 i229 (.node (.node (.node (.node .leaf 230 i230 .leaf) 231 i231 .leaf) 232 i232 (.node (.node .leaf 233 i233 .leaf) 234 i234 .leaf)) 235 i235 (.node (.node (.node .leaf 236 i236 .leaf) 237 i237 .leaf) 238 i238 (.node .leaf 239 i239 .leaf))))) 240 i240 (.node (.node (.node (.node (.node (.node .leaf 241 i241 .leaf) 242 i242 .leaf) 243 i243 (.node (.node .leaf 244 i244 .leaf) 245 i245 .leaf)) 246 i246 (.node (.node (.node .leaf 247 i247 .leaf) 248 i248 .leaf) 250 i250 (.node (.node .leaf 251 i251 .leaf) 252 i252 .leaf))) 253 i253 (.node (.node (.node (.node .leaf 254 i254 .leaf) 255 i255 .leaf) 256 i256 (.node (.node .leaf 257 i257 .leaf) 258 i258 .leaf)) 259 i259 (.node (.node (.node .leaf 260 i260 .leaf) 261 i261 .leaf) 262 i262 (.node (.node .leaf 263 i263 .leaf) 264 i264 .leaf)))) 265 i265 (.node (.node (.node (.node (.node .leaf 266 i266 .leaf) 267 i267 .leaf) 268 i268 (.node (.node .leaf 269 i269 .leaf) 270 i270 .leaf)) 271 i271 (.node (.node (.node .leaf 272 i272 .leaf) 273 i273 .leaf) 274 i274 (.node (.node .leaf 275 i275 .leaf) 276 i276 .leaf))) 277 i277 (.node (.node (.node (.node .leaf 278 i278 .leaf) 279 i279 .leaf) 280 i280 (.node (.node .leaf 281 i281 .leaf) 282 i282 .leaf)) 283 i283 (.node (.node (.node .leaf 284 i284 .leaf) 285 i285 .leaf) 286 i286 (.node .leaf 287 i287 .leaf)))))) 288 i288 (.node (.node (.node (.node (.node (.node (.node .leaf 289 i289 .leaf) 290 i290 .leaf) 291 i291 (.node (.node .leaf 292 i292 .leaf) 293 i293 .leaf)) 294 i294 (.node (.node (.node .leaf 295 i295 .leaf) 296 i296 .leaf) 297 i297 (.node (.node .leaf 298 i298 .leaf) 299 i299 .leaf))) 300 i300 (.node (.node (.node (.node .leaf 301 i301 .leaf) 302 i302 .leaf) 303 i303 (.node (.node .leaf 304 i304 .leaf) 305 i305 .leaf)) 306 i306 (.node (.node (.node .leaf 307 i307 .leaf) 308 i308 .leaf) 309 i309 (.node (.node .leaf 310 i310 .leaf) 311 i311 .leaf)))) 312 i312 (.node (.node (.node (.node (.node .leaf 313 i313 .leaf) 314 i314 .leaf) 315 i315 (.node (.node .leaf 316 i316 .leaf) 317 i317 .leaf)) 318 i318 (.node (.node (.node .leaf 319 i319 .leaf) 320 i320 .leaf) 321 i321 (.node (.node .leaf 323 i323 .leaf) 325 i325 .leaf))) 326 i326 (.node (.node (.node (.node .leaf 327 i327 .leaf) 328 i328 .leaf) 329 i329 (.node (.node .leaf 330 i330 .leaf) 331 i331 .leaf)) 332 i332 (.node (.node (.node .leaf 333 i333 .leaf) 334 i334 .leaf) 335 i335 (.node .leaf 336 i336 .leaf))))) 337 i337 (.node (.node (.node (.node (.node (.node .leaf 338 i338 .leaf) 339 i339 .leaf) 340 i340 (.node (.node .leaf 341 i341 .leaf) 342 i342 .leaf)) 343 i343 (.node (.node (.node .leaf 344 i344 .leaf) 345 i345 .leaf) 346 i346 (.node (.node .leaf 347 i347 .leaf) 348 i348 .leaf))) 349 i349 (.node (.node (.node (.node .leaf 350 i350 .leaf) 351 i351 .leaf) 352 i352 (.node (.node .leaf 353 i353 .leaf) 354 i354 .leaf)) 355 i355 (.node (.node (.node .leaf 356 i356 .leaf) 357 i357 .leaf) 358 i358 (.node .leaf 359 i359 .leaf)))) 360 i360 (.node (.node (.node (.node (.node .leaf 361 i361 .leaf) 362 i362 .leaf) 363 i363 (.node (.node .leaf 364 i364 .leaf) 365 i365 .leaf)) 366 i366 (.node (.node (.node .leaf 367 i367 .leaf) 368 i368 .leaf) 369 i369 (.node (.node .leaf 370 i370 .leaf) 371 i371 .leaf))) 372 i372 (.node (.node (.node (.node .leaf 373 i373 .leaf) 374 i374 .leaf) 375 i375 (.node (.node .leaf 376 i376 .leaf) 377 i377 .leaf)) 378 i378 (.node (.node (.node .leaf 379 i379 .leaf) 380 i380 .leaf) 381 i381 (.node .leaf 382 i382 .leaf))))))))
theorem htb : TblOk Tryz.prog tbl := tblOk_of (by kernel_rfl)
end Go.Proofs.YthgajpkahkhlpaaGreat
