/- Part of a proof engine for functions of the given program: what an operation, a loop and a call compute, symbolically. No conditions. -/
import Derived.Test.YtmpcfplelpdbhaaGreatEngW
import Derived.Test.YtmpcfplelpdbhaaGreatProg
namespace Go.Proofs.YtmpcfplelpdbhaaGreat
open Go Go.KA Go.Proofs
set_option maxRecDepth 100000
def i1 : TyI := { agg := false, size := 1, zero := [.v .nilFunc] }
def i2 : TyI := { agg := false, size := 1, zero := [.v (.int .i64 0)], ik := some .i64 }
def i3 : TyI := { agg := false, size := 1, zero := [.v (.int .i64 0)], ik := some .i64 }
def i4 : TyI := { agg := false, size := 1, zero := [.v (.bool false)], isB := true }
def i5 : TyI := { agg := false, size := 1, zero := [.v (.int .u8 0)], ik := some .u8 }
def i6 : TyI := { agg := false, size := 1, zero := [.v (.int .u8 0)], ik := some .u8 }
def i7 : TyI := { agg := true, size := 4, zero := [.v (.int .i64 0), .v (.int .i64 0), .v (.bool false), .v (.int .u8 0)], fields := [(0, 2, 1), (1, 3, 1), (2, 4, 1), (3, 6, 1)] }
def i8 : TyI := { agg := true, size := 4, zero := [.v (.int .i64 0), .v (.int .i64 0), .v (.bool false), .v (.int .u8 0)], fields := [(0, 2, 1), (1, 3, 1), (2, 4, 1), (3, 6, 1)] }
def i9 : TyI := { agg := false, size := 1, zero := [.v (.string .empty)], isS := true }
def i10 : TyI := { agg := false, size := 1, zero := [.v (.string .empty)], isS := true }
def i11 : TyI := { agg := false, size := 1, zero := [.v (.string .empty)], isS := true }
def i12 : TyI := { agg := false, size := 1, zero := [.v (.int .u64 0)], ik := some .u64 }
def i13 : TyI := { agg := true, size := 2, zero := [.v (.string .empty), .v (.int .u64 0)], fields := [(0, 9, 1), (1, 12, 1)] }
def i14 : TyI := { agg := true, size := 2, zero := [.v (.string .empty), .v (.int .u64 0)], fields := [(0, 9, 1), (1, 12, 1)] }
def i15 : TyI := { agg := false, size := 1, zero := [.v (.pointer none)] }
def i16 : TyI := { agg := false, size := 1, zero := [.v (.pointer none)] }
def i17 : TyI := { agg := false, size := 1, zero := [.v (.pointer none)] }
def i18 : TyI := { agg := true, size := 1, zero := [.v (.pointer none)], fields := [(0, 17, 1)] }
def i19 : TyI := { agg := true, size := 1, zero := [.v (.pointer none)], fields := [(0, 17, 1)] }
def i21 : TyI := { agg := false, size := 1, zero := [.v (.int .i32 0)], ik := some .i32 }
def i22 : TyI := { agg := true, size := 2, zero := [.v (.int .i64 0), .v (.int .i64 0)], fields := [(0, 2, 1), (1, 2, 1)], eq2 := true }
def i23 : TyI := { agg := true, size := 2, zero := [.v (.int .i64 0), .v (.int .i64 0)], fields := [(0, 2, 1), (1, 2, 1)], eq2 := true }
def i24 : TyI := { agg := false, size := 1, zero := [.s 80 7], elem := some (80, 7, 88) }
def i25 : TyI := { agg := false, size := 1, zero := [.s 27 3], elem := some (27, 3, 40) }
def i26 : TyI := { agg := true, size := 3, zero := [.v (.int .i64 0), .v (.int .i64 0), .s 27 3], fields := [(0, 2, 1), (1, 2, 1), (2, 25, 1)] }
def i27 : TyI := { agg := true, size := 3, zero := [.v (.int .i64 0), .v (.int .i64 0), .s 27 3], fields := [(0, 2, 1), (1, 2, 1), (2, 25, 1)] }
def i28 : TyI := { agg := false, size := 1, zero := [.s 30 6], elem := some (30, 6, 80) }
def i29 : TyI := { agg := true, size := 6, zero := [.v (.int .i64 0), .v (.int .i64 0), .v (.int .i64 0), .v (.int .i64 0), .s 27 3, .s 30 6], fields := [(0, 2, 1), (1, 2, 1), (2, 27, 3), (5, 28, 1)] }
def i30 : TyI := { agg := true, size := 6, zero := [.v (.int .i64 0), .v (.int .i64 0), .v (.int .i64 0), .v (.int .i64 0), .s 27 3, .s 30 6], fields := [(0, 2, 1), (1, 2, 1), (2, 27, 3), (5, 28, 1)] }
def i31 : TyI := { agg := true, size := 12, zero := [.v (.int .i64 0), .v (.int .i64 0), .s 27 3, .v (.int .i64 0), .v (.int .i64 0), .v (.int .i64 0), .v (.int .i64 0), .s 27 3, .s 30 6, .v (.int .i64 0), .v (.int .i64 0), .s 27 3], fields := [(0, 27, 3), (3, 30, 6), (9, 27, 3)] }
def i32 : TyI := { agg := true, size := 12, zero := [.v (.int .i64 0), .v (.int .i64 0), .s 27 3, .v (.int .i64 0), .v (.int .i64 0), .v (.int .i64 0), .v (.int .i64 0), .s 27 3, .s 30 6, .v (.int .i64 0), .v (.int .i64 0), .s 27 3], fields := [(0, 27, 3), (3, 30, 6), (9, 27, 3)] }
def i33 : TyI := { agg := false, size := 1, zero := [.v .nilFunc] }
def i34 : TyI := { agg := false, size := 1, zero := [.v .nilFunc] }
def i35 : TyI := { agg := false, size := 1, zero := [.s 37 3], elem := some (37, 3, 40) }
def i36 : TyI := { agg := true, size := 3, zero := [.v (.int .i64 0), .v (.int .i64 0), .s 37 3], fields := [(0, 2, 1), (1, 2, 1), (2, 35, 1)] }
def i37 : TyI := { agg := true, size := 3, zero := [.v (.int .i64 0), .v (.int .i64 0), .s 37 3], fields := [(0, 2, 1), (1, 2, 1), (2, 35, 1)] }
def i38 : TyI := { agg := false, size := 1, zero := [.s 40 6], elem := some (40, 6, 80) }
def i39 : TyI := { agg := true, size := 6, zero := [.v (.int .i64 0), .v (.int .i64 0), .v (.int .i64 0), .v (.int .i64 0), .s 37 3, .s 40 6], fields := [(0, 2, 1), (1, 2, 1), (2, 37, 3), (5, 38, 1)] }
def i40 : TyI := { agg := true, size := 6, zero := [.v (.int .i64 0), .v (.int .i64 0), .v (.int .i64 0), .v (.int .i64 0), .s 37 3, .s 40 6], fields := [(0, 2, 1), (1, 2, 1), (2, 37, 3), (5, 38, 1)] }
def i41 : TyI := { agg := true, size := 12, zero := [.v (.int .i64 0), .v (.int .i64 0), .s 37 3, .v (.int .i64 0), .v (.int .i64 0), .v (.int .i64 0), .v (.int .i64 0), .s 37 3, .s 40 6, .v (.int .i64 0), .v (.int .i64 0), .s 37 3], fields := [(0, 37, 3), (3, 40, 6), (9, 37, 3)] }
def i42 : TyI := { agg := true, size := 12, zero := [.v (.int .i64 0), .v (.int .i64 0), .s 37 3, .v (.int .i64 0), .v (.int .i64 0), .v (.int .i64 0), .v (.int .i64 0), .s 37 3, .s 40 6, .v (.int .i64 0), .v (.int .i64 0), .s 37 3], fields := [(0, 37, 3), (3, 40, 6), (9, 37, 3)] }
def i43 : TyI := { agg := false, size := 1, zero := [.s 45 14], elem := some (45, 14, 192) }
def i44 : TyI := { agg := true, size := 14, zero := [.v (.int .i64 0), .v (.int .i64 0), .v (.int .i64 0), .s 37 3, .v (.int .i64 0), .v (.int .i64 0), .v (.int .i64 0), .v (.int .i64 0), .s 37 3, .s 40 6, .v (.int .i64 0), .v (.int .i64 0), .s 37 3, .s 45 14], fields := [(0, 2, 1), (1, 42, 12), (13, 43, 1)] }
def i45 : TyI := { agg := true, size := 14, zero := [.v (.int .i64 0), .v (.int .i64 0), .v (.int .i64 0), .s 37 3, .v (.int .i64 0), .v (.int .i64 0), .v (.int .i64 0), .v (.int .i64 0), .s 37 3, .s 40 6, .v (.int .i64 0), .v (.int .i64 0), .s 37 3, .s 45 14], fields := [(0, 2, 1), (1, 42, 12), (13, 43, 1)] }
def i47 : TyI := { agg := false, size := 1, zero := [.v .nilFunc] }
def i48 : TyI := { agg := true, size := 2, zero := [.v (.int .i64 0), .v (.int .i64 0)], fields := [(0, 2, 1), (1, 2, 1)], eq2 := true }
def i49 : TyI := { agg := false, size := 1, zero := [.v .nilFunc] }
def i50 : TyI := { agg := false, size := 1, zero := [.s 95 7], elem := some (95, 7, 88) }
def i51 : TyI := { agg := false, size := 1, zero := [.v .nilFunc] }
def i52 : TyI := { agg := false, size := 1, zero := [.v .nilFunc] }
def i53 : TyI := { agg := false, size := 1, zero := [.v .nilFunc] }
def i54 : TyI := { agg := false, size := 1, zero := [.v .nilFunc] }
def i55 : TyI := { agg := false, size := 1, zero := [.v .nilFunc] }
def i56 : TyI := { agg := false, size := 1, zero := [.v .nilFunc] }
def i57 : TyI := { agg := false, size := 1, zero := [.v .nilFunc] }
def i58 : TyI := { agg := false, size := 1, zero := [.v .nilFunc] }
def i59 : TyI := { agg := false, size := 1, zero := [.v .nilFunc] }
def i60 : TyI := { agg := false, size := 1, zero := [.s 194 3], elem := some (194, 3, 40) }
def i61 : TyI := { agg := false, size := 1, zero := [.s 204 8], elem := some (204, 8, 96) }
def i62 : TyI := { agg := true, size := 4, zero := [.v (.int .i64 0), .v (.int .i64 0), .s 194 3, .s 204 8], fields := [(0, 23, 2), (2, 60, 1), (3, 61, 1)] }
def i63 : TyI := { agg := true, size := 4, zero := [.v (.int .i64 0), .v (.int .i64 0), .s 194 3, .s 204 8], fields := [(0, 23, 2), (2, 60, 1), (3, 61, 1)] }
def i64 : TyI := { agg := false, size := 1, zero := [.v .nilFunc] }
def i65 : TyI := { agg := false, size := 1, zero := [.s 147 9], elem := some (147, 9, 120) }
def i67 : TyI := { agg := false, size := 1, zero := [.v .nilFunc] }
def i68 : TyI := { agg := false, size := 1, zero := [.s 127 3], elem := some (127, 3, 40) }
def i69 : TyI := { agg := false, size := 1, zero := [.s 210 8], elem := some (210, 8, 96) }
def i70 : TyI := { agg := true, size := 4, zero := [.v (.int .i64 0), .v (.int .i64 0), .s 127 3, .s 210 8], fields := [(0, 48, 2), (2, 68, 1), (3, 69, 1)] }
def i71 : TyI := { agg := true, size := 4, zero := [.v (.int .i64 0), .v (.int .i64 0), .s 127 3, .s 210 8], fields := [(0, 48, 2), (2, 68, 1), (3, 69, 1)] }
def i72 : TyI := { agg := false, size := 1, zero := [.v .nilFunc] }
def i73 : TyI := { agg := false, size := 1, zero := [.v .nilFunc] }
def i74 : TyI := { agg := false, size := 1, zero := [.v .nilFunc] }
def i75 : TyI := { agg := false, size := 1, zero := [.v .nilFunc] }
def i76 : TyI := { agg := false, size := 1, zero := [.v .nilFunc] }
def i77 : TyI := { agg := false, size := 1, zero := [.v .nilFunc] }
def i78 : TyI := { agg := false, size := 1, zero := [.v .nilFunc] }
def i79 : TyI := { agg := true, size := 7, zero := [.v (.int .i64 0), .v (.int .i64 0), .s 27 3, .v (.int .i64 0), .v (.int .i64 0), .v (.int .i64 0), .s 27 3], fields := [(0, 27, 3), (3, 2, 1), (4, 27, 3)] }
def i80 : TyI := { agg := true, size := 7, zero := [.v (.int .i64 0), .v (.int .i64 0), .s 27 3, .v (.int .i64 0), .v (.int .i64 0), .v (.int .i64 0), .s 27 3], fields := [(0, 27, 3), (3, 2, 1), (4, 27, 3)] }
def i81 : TyI := { agg := false, size := 1, zero := [.v .nilFunc] }
def i82 : TyI := { agg := false, size := 1, zero := [.v .nilFunc] }
def i83 : TyI := { agg := false, size := 1, zero := [.v .nilFunc] }
def i84 : TyI := { agg := false, size := 1, zero := [.v .nilFunc] }
def i85 : TyI := { agg := false, size := 1, zero := [.v (.pointer none)] }
def i86 : TyI := { agg := false, size := 1, zero := [.v .nilFunc] }
def i87 : TyI := { agg := false, size := 1, zero := [.v (.pointer none)] }
def i88 : TyI := { agg := true, size := 5, zero := [.v (.int .i64 0), .v (.int .i64 0), .s 95 7, .v (.int .i64 0), .v (.bool false)], fields := [(0, 48, 2), (2, 50, 1), (3, 2, 1), (4, 4, 1)] }
def i89 : TyI := { agg := true, size := 5, zero := [.v (.int .i64 0), .v (.int .i64 0), .s 95 7, .v (.int .i64 0), .v (.bool false)], fields := [(0, 48, 2), (2, 50, 1), (3, 2, 1), (4, 4, 1)] }
def i90 : TyI := { agg := false, size := 1, zero := [.v .nilFunc] }
def i91 : TyI := { agg := false, size := 1, zero := [.v (.pointer none)] }
def i92 : TyI := { agg := false, size := 1, zero := [.v (.pointer none)] }
def i93 : TyI := { agg := false, size := 1, zero := [.v .nilFunc] }
def i94 : TyI := { agg := true, size := 7, zero := [.v (.int .i64 0), .v (.int .i64 0), .s 37 3, .v (.int .i64 0), .v (.int .i64 0), .v (.int .i64 0), .s 37 3], fields := [(0, 37, 3), (3, 2, 1), (4, 37, 3)] }
def i95 : TyI := { agg := true, size := 7, zero := [.v (.int .i64 0), .v (.int .i64 0), .s 37 3, .v (.int .i64 0), .v (.int .i64 0), .v (.int .i64 0), .s 37 3], fields := [(0, 37, 3), (3, 2, 1), (4, 37, 3)] }
def i96 : TyI := { agg := false, size := 1, zero := [.v .nilFunc] }
def i97 : TyI := { agg := false, size := 1, zero := [.v .nilFunc] }
def i98 : TyI := { agg := false, size := 1, zero := [.v .nilFunc] }
def i99 : TyI := { agg := false, size := 1, zero := [.v .nilFunc] }
def i100 : TyI := { agg := false, size := 1, zero := [.v .nilFunc] }
def i101 : TyI := { agg := false, size := 1, zero := [.v .nilFunc] }
def i102 : TyI := { agg := true, size := 3, zero := [.v (.int .i64 0), .v (.int .i64 0), .s 95 7], fields := [(0, 48, 2), (2, 50, 1)] }
def i103 : TyI := { agg := true, size := 3, zero := [.v (.int .i64 0), .v (.int .i64 0), .s 95 7], fields := [(0, 48, 2), (2, 50, 1)] }
def i104 : TyI := { agg := false, size := 1, zero := [.v .nilFunc] }
def i105 : TyI := { agg := false, size := 1, zero := [.v .nilFunc] }
def i106 : TyI := { agg := false, size := 1, zero := [.v .nilFunc] }
def i107 : TyI := { agg := false, size := 1, zero := [.v .nilFunc] }
def i108 : TyI := { agg := false, size := 1, zero := [.v .nilFunc] }
def i109 : TyI := { agg := false, size := 1, zero := [.v .nilFunc] }
def i110 : TyI := { agg := false, size := 1, zero := [.v .nilFunc] }
def i111 : TyI := { agg := false, size := 1, zero := [.v .nilFunc] }
def i112 : TyI := { agg := false, size := 1, zero := [.v .nilFunc] }
def i113 : TyI := { agg := false, size := 1, zero := [.v .nilFunc] }
def i114 : TyI := { agg := false, size := 1, zero := [.v .nilFunc] }
def i115 : TyI := { agg := false, size := 1, zero := [.v .nilFunc] }
def i116 : TyI := { agg := false, size := 1, zero := [.v .nilFunc] }
def i117 : TyI := { agg := false, size := 1, zero := [.v .nilFunc] }
def i118 : TyI := { agg := false, size := 1, zero := [.v .nilFunc] }
def i119 : TyI := { agg := false, size := 1, zero := [.v (.pointer none)] }
def i120 : TyI := { agg := false, size := 1, zero := [.v (.pointer none)] }
def i121 : TyI := { agg := false, size := 1, zero := [.v .nilFunc] }
def i122 : TyI := { agg := true, size := 6, zero := [.v (.int .i64 0), .v (.int .i64 0), .s 127 3, .s 210 8, .s 147 9, .v (.bool false)], fields := [(0, 71, 4), (4, 65, 1), (5, 4, 1)] }
def i123 : TyI := { agg := true, size := 6, zero := [.v (.int .i64 0), .v (.int .i64 0), .s 127 3, .s 210 8, .s 147 9, .v (.bool false)], fields := [(0, 71, 4), (4, 65, 1), (5, 4, 1)] }
def i124 : TyI := { agg := false, size := 1, zero := [.v .nilFunc] }
def i125 : TyI := { agg := false, size := 1, zero := [.s 136 7], elem := some (136, 7, 88) }
def i126 : TyI := { agg := true, size := 3, zero := [.v (.bool false), .s 136 7, .v (.int .i64 0)], fields := [(0, 4, 1), (1, 125, 1), (2, 2, 1)] }
def i127 : TyI := { agg := true, size := 3, zero := [.v (.bool false), .s 136 7, .v (.int .i64 0)], fields := [(0, 4, 1), (1, 125, 1), (2, 2, 1)] }
def i128 : TyI := { agg := false, size := 1, zero := [.v (.pointer none)] }
def i129 : TyI := { agg := false, size := 1, zero := [.s 2 1], elem := some (2, 1, 8) }
def i130 : TyI := { agg := false, size := 1, zero := [.s 236 9], elem := some (236, 9, 120) }
def i131 : TyI := { agg := true, size := 3, zero := [.v (.int .i64 0), .v (.int .i64 0), .s 236 9], fields := [(0, 48, 2), (2, 130, 1)] }
def i132 : TyI := { agg := true, size := 3, zero := [.v (.int .i64 0), .v (.int .i64 0), .s 236 9], fields := [(0, 48, 2), (2, 130, 1)] }
def i133 : TyI := { agg := true, size := 5, zero := [.v (.int .i64 0), .s 2 1, .v (.int .i64 0), .v (.int .i64 0), .s 236 9], fields := [(0, 2, 1), (1, 129, 1), (2, 132, 3)] }
def i134 : TyI := { agg := true, size := 5, zero := [.v (.int .i64 0), .s 2 1, .v (.int .i64 0), .v (.int .i64 0), .s 236 9], fields := [(0, 2, 1), (1, 129, 1), (2, 132, 3)] }
def i135 : TyI := { agg := true, size := 7, zero := [.v (.bool false), .v (.int .i64 0), .v (.int .i64 0), .s 2 1, .v (.int .i64 0), .v (.int .i64 0), .s 236 9], fields := [(0, 4, 1), (1, 2, 1), (2, 134, 5)] }
def i136 : TyI := { agg := true, size := 7, zero := [.v (.bool false), .v (.int .i64 0), .v (.int .i64 0), .s 2 1, .v (.int .i64 0), .v (.int .i64 0), .s 236 9], fields := [(0, 4, 1), (1, 2, 1), (2, 134, 5)] }
def i137 : TyI := { agg := false, size := 1, zero := [.v .nilFunc] }
def i138 : TyI := { agg := false, size := 1, zero := [.v .nilFunc] }
def i139 : TyI := { agg := false, size := 1, zero := [.v .nilFunc] }
def i140 : TyI := { agg := false, size := 1, zero := [.v .nilFunc] }
def i141 : TyI := { agg := false, size := 1, zero := [.v .nilFunc] }
def i142 : TyI := { agg := true, size := 6, zero := [.v (.int .i64 0), .v (.int .i64 0), .s 127 3, .s 210 8, .s 147 9, .v (.bool false)], fields := [(0, 71, 4), (4, 65, 1), (5, 4, 1)] }
def i143 : TyI := { agg := true, size := 6, zero := [.v (.int .i64 0), .v (.int .i64 0), .s 127 3, .s 210 8, .s 147 9, .v (.bool false)], fields := [(0, 71, 4), (4, 65, 1), (5, 4, 1)] }
def i144 : TyI := { agg := false, size := 1, zero := [.v .nilFunc] }
def i145 : TyI := { agg := false, size := 1, zero := [.s 4 1], elem := some (4, 1, 1) }
def i146 : TyI := { agg := true, size := 9, zero := [.v (.int .i64 0), .v (.int .i64 0), .v (.int .i64 0), .v (.int .i64 0), .s 2 1, .v (.int .i64 0), .v (.int .i64 0), .s 236 9, .s 4 1], fields := [(0, 2, 1), (1, 2, 1), (2, 2, 1), (3, 2, 1), (4, 129, 1), (5, 132, 3), (8, 145, 1)] }
def i147 : TyI := { agg := true, size := 9, zero := [.v (.int .i64 0), .v (.int .i64 0), .v (.int .i64 0), .v (.int .i64 0), .s 2 1, .v (.int .i64 0), .v (.int .i64 0), .s 236 9, .s 4 1], fields := [(0, 2, 1), (1, 2, 1), (2, 2, 1), (3, 2, 1), (4, 129, 1), (5, 132, 3), (8, 145, 1)] }
def i148 : TyI := { agg := false, size := 1, zero := [.v .nilFunc] }
def i149 : TyI := { agg := false, size := 1, zero := [.v .nilFunc] }
def i150 : TyI := { agg := false, size := 1, zero := [.v .nilFunc] }
def i151 : TyI := { agg := false, size := 1, zero := [.v .nilFunc] }
def i152 : TyI := { agg := false, size := 1, zero := [.v .nilFunc] }
def i153 : TyI := { agg := false, size := 1, zero := [.v .nilFunc] }
def i154 : TyI := { agg := false, size := 1, zero := [.v .nilFunc] }
def i155 : TyI := { agg := false, size := 1, zero := [.v .nilFunc] }
def i156 : TyI := { agg := false, size := 1, zero := [.v .nilFunc] }
def i157 : TyI := { agg := false, size := 1, zero := [.v .nilFunc] }
def i158 : TyI := { agg := false, size := 1, zero := [.v .nilFunc] }
def i159 : TyI := { agg := false, size := 1, zero := [.v .nilFunc] }
def i160 : TyI := { agg := false, size := 1, zero := [.v .nilFunc] }
def i161 : TyI := { agg := false, size := 1, zero := [.v (.pointer none)] }
def i162 : TyI := { agg := false, size := 1, zero := [.v .nilFunc] }
def i163 : TyI := { agg := false, size := 1, zero := [.v .nilFunc] }
def i164 : TyI := { agg := false, size := 1, zero := [.v .nilFunc] }
def i166 : TyI := { agg := false, size := 1, zero := [.v .nilFunc] }
def i167 : TyI := { agg := false, size := 1, zero := [.v .nilFunc] }
def i168 : TyI := { agg := false, size := 1, zero := [.v .nilFunc] }
def i169 : TyI := { agg := false, size := 1, zero := [.v .nilFunc] }
def i170 : TyI := { agg := false, size := 1, zero := [.v .nilFunc] }
def i171 : TyI := { agg := false, size := 1, zero := [.v .nilFunc] }
def i172 : TyI := { agg := false, size := 1, zero := [.v .nilFunc] }
def i173 : TyI := { agg := false, size := 1, zero := [.v .nilFunc] }
def i174 : TyI := { agg := false, size := 1, zero := [.v .nilFunc] }
def i175 : TyI := { agg := false, size := 1, zero := [.v .nilFunc] }
def i176 : TyI := { agg := false, size := 1, zero := [.v .nilFunc] }
def i177 : TyI := { agg := false, size := 1, zero := [.v .nilFunc] }
def i178 : TyI := { agg := false, size := 1, zero := [.v .nilFunc] }
def i179 : TyI := { agg := false, size := 1, zero := [.v .nilFunc] }
def i180 : TyI := { agg := false, size := 1, zero := [.v .nilFunc] }
def i181 : TyI := { agg := false, size := 1, zero := [.v .nilFunc] }
def i182 : TyI := { agg := false, size := 1, zero := [.v .nilFunc] }
def i183 : TyI := { agg := false, size := 1, zero := [.v .nilFunc] }
def i184 : TyI := { agg := false, size := 1, zero := [.v .nilFunc] }
def i185 : TyI := { agg := false, size := 1, zero := [.v .nilFunc] }
def i186 : TyI := { agg := false, size := 1, zero := [.v .nilFunc] }
def i187 : TyI := { agg := false, size := 1, zero := [.v .nilFunc] }
def i188 : TyI := { agg := false, size := 1, zero := [.v .nilFunc] }
def i189 : TyI := { agg := false, size := 1, zero := [.v .nilFunc] }
def i190 : TyI := { agg := false, size := 1, zero := [.v .nilFunc] }
def i191 : TyI := { agg := false, size := 1, zero := [.v .nilFunc] }
def i192 : TyI := { agg := false, size := 1, zero := [.s 202 7], elem := some (202, 7, 88) }
def i193 : TyI := { agg := true, size := 3, zero := [.v (.bool false), .s 202 7, .v (.int .i64 0)], fields := [(0, 4, 1), (1, 192, 1), (2, 2, 1)] }
def i194 : TyI := { agg := true, size := 3, zero := [.v (.bool false), .s 202 7, .v (.int .i64 0)], fields := [(0, 4, 1), (1, 192, 1), (2, 2, 1)] }
def i195 : TyI := { agg := false, size := 1, zero := [.v .nilFunc] }
def i196 : TyI := { agg := false, size := 1, zero := [.s 334 9], elem := some (334, 9, 120) }
def i197 : TyI := { agg := true, size := 3, zero := [.v (.int .i64 0), .v (.int .i64 0), .s 334 9], fields := [(0, 23, 2), (2, 196, 1)] }
def i198 : TyI := { agg := true, size := 3, zero := [.v (.int .i64 0), .v (.int .i64 0), .s 334 9], fields := [(0, 23, 2), (2, 196, 1)] }
def i199 : TyI := { agg := true, size := 5, zero := [.v (.int .i64 0), .s 2 1, .v (.int .i64 0), .v (.int .i64 0), .s 334 9], fields := [(0, 2, 1), (1, 129, 1), (2, 198, 3)] }
def i200 : TyI := { agg := true, size := 5, zero := [.v (.int .i64 0), .s 2 1, .v (.int .i64 0), .v (.int .i64 0), .s 334 9], fields := [(0, 2, 1), (1, 129, 1), (2, 198, 3)] }
def i201 : TyI := { agg := true, size := 7, zero := [.v (.bool false), .v (.int .i64 0), .v (.int .i64 0), .s 2 1, .v (.int .i64 0), .v (.int .i64 0), .s 334 9], fields := [(0, 4, 1), (1, 2, 1), (2, 200, 5)] }
def i202 : TyI := { agg := true, size := 7, zero := [.v (.bool false), .v (.int .i64 0), .v (.int .i64 0), .s 2 1, .v (.int .i64 0), .v (.int .i64 0), .s 334 9], fields := [(0, 4, 1), (1, 2, 1), (2, 200, 5)] }
def i203 : TyI := { agg := true, size := 8, zero := [.v (.int .i64 0), .v (.bool false), .v (.int .i64 0), .v (.int .i64 0), .s 2 1, .v (.int .i64 0), .v (.int .i64 0), .s 334 9], fields := [(0, 2, 1), (1, 202, 7)] }
def i204 : TyI := { agg := true, size := 8, zero := [.v (.int .i64 0), .v (.bool false), .v (.int .i64 0), .v (.int .i64 0), .s 2 1, .v (.int .i64 0), .v (.int .i64 0), .s 334 9], fields := [(0, 2, 1), (1, 202, 7)] }
def i205 : TyI := { agg := false, size := 1, zero := [.v .nilFunc] }
def i206 : TyI := { agg := false, size := 1, zero := [.v .nilFunc] }
def i207 : TyI := { agg := false, size := 1, zero := [.v (.pointer none)] }
def i208 : TyI := { agg := false, size := 1, zero := [.v .nilFunc] }
def i209 : TyI := { agg := true, size := 8, zero := [.v (.int .i64 0), .v (.bool false), .v (.int .i64 0), .v (.int .i64 0), .s 2 1, .v (.int .i64 0), .v (.int .i64 0), .s 236 9], fields := [(0, 2, 1), (1, 136, 7)] }
def i210 : TyI := { agg := true, size := 8, zero := [.v (.int .i64 0), .v (.bool false), .v (.int .i64 0), .v (.int .i64 0), .s 2 1, .v (.int .i64 0), .v (.int .i64 0), .s 236 9], fields := [(0, 2, 1), (1, 136, 7)] }
def i211 : TyI := { agg := false, size := 1, zero := [.v .nilFunc] }
def i212 : TyI := { agg := false, size := 1, zero := [.v .nilFunc] }
def i213 : TyI := { agg := false, size := 1, zero := [.v .nilFunc] }
def i214 : TyI := { agg := false, size := 1, zero := [.v (.pointer none)] }
def i215 : TyI := { agg := false, size := 1, zero := [.v .nilFunc] }
def i216 : TyI := { agg := false, size := 1, zero := [.v .nilFunc] }
def i217 : TyI := { agg := false, size := 1, zero := [.v .nilFunc] }
def i218 : TyI := { agg := false, size := 1, zero := [.v .nilFunc] }
def i219 : TyI := { agg := false, size := 1, zero := [.v (.map none)], mapK := some (some .i64, 134) }
def i220 : TyI := { agg := false, size := 1, zero := [.v .nilFunc] }
def i222 : TyI := { agg := false, size := 1, zero := [.v .nilFunc] }
def i223 : TyI := { agg := false, size := 1, zero := [.v .nilFunc] }
def i224 : TyI := { agg := false, size := 1, zero := [.v (.pointer none)] }
def i225 : TyI := { agg := false, size := 1, zero := [.v .nilFunc] }
def i226 : TyI := { agg := false, size := 1, zero := [.v .nilFunc] }
def i227 : TyI := { agg := false, size := 1, zero := [.v .nilFunc] }
def i228 : TyI := { agg := false, size := 1, zero := [.v .nilFunc] }
def i229 : TyI := { agg := false, size := 1, zero := [.v .nilFunc] }
def i230 : TyI := { agg := false, size := 1, zero := [.v .nilFunc] }
def i231 : TyI := { agg := false, size := 1, zero := [.v .nilFunc] }
def i232 : TyI := { agg := false, size := 1, zero := [.v .nilFunc] }
def i233 : TyI := { agg := false, size := 1, zero := [.v .nilFunc] }
def i234 : TyI := { agg := false, size := 1, zero := [.s 276 5], elem := some (276, 5, 88) }
def i235 : TyI := { agg := true, size := 9, zero := [.v (.int .i64 0), .v (.int .i64 0), .s 37 3, .v (.int .i64 0), .v (.int .i64 0), .s 37 3, .v (.int .i64 0), .v (.int .i64 0), .s 276 5], fields := [(0, 37, 3), (3, 37, 3), (6, 2, 1), (7, 2, 1), (8, 234, 1)] }
def i236 : TyI := { agg := true, size := 9, zero := [.v (.int .i64 0), .v (.int .i64 0), .s 37 3, .v (.int .i64 0), .v (.int .i64 0), .s 37 3, .v (.int .i64 0), .v (.int .i64 0), .s 276 5], fields := [(0, 37, 3), (3, 37, 3), (6, 2, 1), (7, 2, 1), (8, 234, 1)] }
def i237 : TyI := { agg := false, size := 1, zero := [.v .nilFunc] }
def i238 : TyI := { agg := false, size := 1, zero := [.v .nilFunc] }
def i239 : TyI := { agg := false, size := 1, zero := [.v .nilFunc] }
def i240 : TyI := { agg := false, size := 1, zero := [.v .nilFunc] }
def i241 : TyI := { agg := false, size := 1, zero := [.v .nilFunc] }
def i242 : TyI := { agg := false, size := 1, zero := [.v .nilFunc] }
def i243 : TyI := { agg := false, size := 1, zero := [.v .nilFunc] }
def i244 : TyI := { agg := false, size := 1, zero := [.v .nilFunc] }
def i245 : TyI := { agg := false, size := 1, zero := [.v .nilFunc] }
def i246 : TyI := { agg := false, size := 1, zero := [.v .nilFunc] }
def i247 : TyI := { agg := false, size := 1, zero := [.v .nilFunc] }
def i248 : TyI := { agg := false, size := 1, zero := [.v .nilFunc] }
def i249 : TyI := { agg := false, size := 1, zero := [.v .nilFunc] }
def i250 : TyI := { agg := false, size := 1, zero := [.v .nilFunc] }
def i251 : TyI := { agg := false, size := 1, zero := [.v .nilFunc] }
def i252 : TyI := { agg := false, size := 1, zero := [.s 145 1], elem := some (145, 1, 24) }
def i253 : TyI := { agg := false, size := 1, zero := [.v .nilFunc] }
def i254 : TyI := { agg := false, size := 1, zero := [.v .nilFunc] }
def i255 : TyI := { agg := false, size := 1, zero := [.v .nilFunc] }
def i256 : TyI := { agg := false, size := 1, zero := [.v .nilFunc] }
def i257 : TyI := { agg := false, size := 1, zero := [.v .nilFunc] }
def i258 : TyI := { agg := false, size := 1, zero := [.v .nilFunc] }
def i259 : TyI := { agg := false, size := 1, zero := [.v .nilFunc] }
def i260 : TyI := { agg := false, size := 1, zero := [.v (.pointer none)] }
def i261 : TyI := { agg := false, size := 1, zero := [.v .nilFunc] }
def i262 : TyI := { agg := false, size := 1, zero := [.v .nilFunc] }
def i263 : TyI := { agg := false, size := 1, zero := [.v .nilFunc] }
def i264 : TyI := { agg := false, size := 1, zero := [.v .nilFunc] }
def i265 : TyI := { agg := false, size := 1, zero := [.v .nilFunc] }
def i266 : TyI := { agg := false, size := 1, zero := [.v .nilFunc] }
def i267 : TyI := { agg := false, size := 1, zero := [.v .nilFunc] }
def i268 : TyI := { agg := false, size := 1, zero := [.v .nilFunc] }
def i269 : TyI := { agg := false, size := 1, zero := [.v .nilFunc] }
def i270 : TyI := { agg := false, size := 1, zero := [.v .nilFunc] }
def i271 : TyI := { agg := false, size := 1, zero := [.v .nilFunc] }
def i272 : TyI := { agg := false, size := 1, zero := [.v .nilFunc] }
def i273 : TyI := { agg := false, size := 1, zero := [.v .nilFunc] }
def i274 : TyI := { agg := false, size := 1, zero := [.v .nilFunc] }
def i275 : TyI := { agg := true, size := 5, zero := [.v (.int .i64 0), .v (.bool false), .s 2 1, .s 37 3, .s 37 3], fields := [(0, 2, 1), (1, 4, 1), (2, 129, 1), (3, 35, 1), (4, 35, 1)] }
def i276 : TyI := { agg := true, size := 5, zero := [.v (.int .i64 0), .v (.bool false), .s 2 1, .s 37 3, .s 37 3], fields := [(0, 2, 1), (1, 4, 1), (2, 129, 1), (3, 35, 1), (4, 35, 1)] }
def i277 : TyI := { agg := false, size := 1, zero := [.v .nilFunc] }
def i278 : TyI := { agg := false, size := 1, zero := [.v .nilFunc] }
def i279 : TyI := { agg := false, size := 1, zero := [.v .nilFunc] }
def i280 : TyI := { agg := false, size := 1, zero := [.v .nilFunc] }
def i281 : TyI := { agg := false, size := 1, zero := [.v .nilFunc] }
def i282 : TyI := { agg := false, size := 1, zero := [.v (.int .u64 0)], ik := some .u64 }
def i283 : TyI := { agg := false, size := 1, zero := [.v .nilFunc] }
def i284 : TyI := { agg := false, size := 1, zero := [.v .nilFunc] }
def i285 : TyI := { agg := false, size := 1, zero := [.v .nilFunc] }
def i287 : TyI := { agg := false, size := 1, zero := [.v .nilFunc] }
def i289 : TyI := { agg := false, size := 1, zero := [.v .nilFunc] }
def i290 : TyI := { agg := false, size := 1, zero := [.s 252 1], elem := some (252, 1, 24) }
def i291 : TyI := { agg := false, size := 1, zero := [.v .nilFunc] }
def i292 : TyI := { agg := false, size := 1, zero := [.v .nilFunc] }
def i293 : TyI := { agg := false, size := 1, zero := [.v .nilFunc] }
def i294 : TyI := { agg := false, size := 1, zero := [.v .nilFunc] }
def i295 : TyI := { agg := false, size := 1, zero := [.v .nilFunc] }
def i296 : TyI := { agg := false, size := 1, zero := [.v .nilFunc] }
def i297 : TyI := { agg := false, size := 1, zero := [.v (.pointer none)] }
def i298 : TyI := { agg := false, size := 1, zero := [.v .nilFunc] }
def i299 : TyI := { agg := false, size := 1, zero := [.v (.pointer none)] }
def i300 : TyI := { agg := false, size := 1, zero := [.v .nilFunc] }
def i301 : TyI := { agg := false, size := 1, zero := [.v .nilFunc] }
def i302 : TyI := { agg := false, size := 1, zero := [.v (.pointer none)] }
def i303 : TyI := { agg := false, size := 1, zero := [.v .nilFunc] }
def i304 : TyI := { agg := false, size := 1, zero := [.v .nilFunc] }
def i305 : TyI := { agg := false, size := 1, zero := [.v .nilFunc] }
def i306 : TyI := { agg := false, size := 1, zero := [.v .nilFunc] }
def i307 : TyI := { agg := false, size := 1, zero := [.v .nilFunc] }
def i308 : TyI := { agg := false, size := 1, zero := [.v .nilFunc] }
def i309 : TyI := { agg := false, size := 1, zero := [.v .nilFunc] }
def i310 : TyI := { agg := false, size := 1, zero := [.v .nilFunc] }
def i311 : TyI := { agg := false, size := 1, zero := [.v .nilFunc] }
def i312 : TyI := { agg := false, size := 1, zero := [.v .nilFunc] }
def i313 : TyI := { agg := false, size := 1, zero := [.v .nilFunc] }
def i314 : TyI := { agg := false, size := 1, zero := [.v .nilFunc] }
def i315 : TyI := { agg := false, size := 1, zero := [.v .nilFunc] }
def i316 : TyI := { agg := false, size := 1, zero := [.v .nilFunc] }
def i317 : TyI := { agg := false, size := 1, zero := [.v .nilFunc] }
def i318 : TyI := { agg := false, size := 1, zero := [.v .nilFunc] }
def i319 : TyI := { agg := false, size := 1, zero := [.v .nilFunc] }
def i320 : TyI := { agg := false, size := 1, zero := [.v .nilFunc] }
def i321 : TyI := { agg := false, size := 1, zero := [.v .nilFunc] }
def i322 : TyI := { agg := false, size := 1, zero := [.v .nilFunc] }
def i323 : TyI := { agg := false, size := 1, zero := [.v .nilFunc] }
def i324 : TyI := { agg := false, size := 1, zero := [.v .nilFunc] }
def i325 : TyI := { agg := false, size := 1, zero := [.v .nilFunc] }
def i326 : TyI := { agg := false, size := 1, zero := [.v .nilFunc] }
def i327 : TyI := { agg := false, size := 1, zero := [.v .nilFunc] }
def i328 : TyI := { agg := false, size := 1, zero := [.v .nilFunc] }
def i329 : TyI := { agg := false, size := 1, zero := [.v .nilFunc] }
def i330 : TyI := { agg := false, size := 1, zero := [.v .nilFunc] }
def i331 : TyI := { agg := false, size := 1, zero := [.v .nilFunc] }
def i332 : TyI := { agg := false, size := 1, zero := [.s 343 5], elem := some (343, 5, 88) }
def i333 : TyI := { agg := true, size := 9, zero := [.v (.int .i64 0), .v (.int .i64 0), .s 27 3, .v (.int .i64 0), .v (.int .i64 0), .s 27 3, .v (.int .i64 0), .v (.int .i64 0), .s 343 5], fields := [(0, 27, 3), (3, 27, 3), (6, 2, 1), (7, 2, 1), (8, 332, 1)] }
def i334 : TyI := { agg := true, size := 9, zero := [.v (.int .i64 0), .v (.int .i64 0), .s 27 3, .v (.int .i64 0), .v (.int .i64 0), .s 27 3, .v (.int .i64 0), .v (.int .i64 0), .s 343 5], fields := [(0, 27, 3), (3, 27, 3), (6, 2, 1), (7, 2, 1), (8, 332, 1)] }
def i335 : TyI := { agg := false, size := 1, zero := [.s 9 1], elem := some (9, 1, 16) }
def i336 : TyI := { agg := false, size := 1, zero := [.v .nilFunc] }
def i337 : TyI := { agg := false, size := 1, zero := [.v .nilFunc] }
def i338 : TyI := { agg := false, size := 1, zero := [.v .nilFunc] }
def i339 : TyI := { agg := false, size := 1, zero := [.v .nilFunc] }
def i340 : TyI := { agg := false, size := 1, zero := [.v .nilFunc] }
def i341 : TyI := { agg := false, size := 1, zero := [.v .nilFunc] }
def i342 : TyI := { agg := true, size := 5, zero := [.v (.int .i64 0), .v (.bool false), .s 2 1, .s 27 3, .s 27 3], fields := [(0, 2, 1), (1, 4, 1), (2, 129, 1), (3, 25, 1), (4, 25, 1)] }
def i343 : TyI := { agg := true, size := 5, zero := [.v (.int .i64 0), .v (.bool false), .s 2 1, .s 27 3, .s 27 3], fields := [(0, 2, 1), (1, 4, 1), (2, 129, 1), (3, 25, 1), (4, 25, 1)] }
def i344 : TyI := { agg := false, size := 1, zero := [.v .nilFunc] }
def i345 : TyI := { agg := false, size := 1, zero := [.v .nilFunc] }
def i346 : TyI := { agg := true, size := 4, zero := [.v (.pointer none), .v (.pointer none), .v (.pointer none), .v (.string .empty)], fields := [(0, 17, 1), (1, 17, 1), (2, 17, 1), (3, 9, 1)] }
def i347 : TyI := { agg := true, size := 4, zero := [.v (.pointer none), .v (.pointer none), .v (.pointer none), .v (.string .empty)], fields := [(0, 17, 1), (1, 17, 1), (2, 17, 1), (3, 9, 1)] }
def i348 : TyI := { agg := true, size := 0, zero := [] }
def i349 : TyI := { agg := true, size := 0, zero := [] }
def i350 : TyI := { agg := true, size := 0, zero := [] }
def i351 : TyI := { agg := false, size := 1, zero := [.v .nilFunc] }
def i352 : TyI := { agg := false, size := 1, zero := [.v (.int .u32 0)], ik := some .u32 }
def i353 : TyI := { agg := false, size := 1, zero := [.v (.int .u8 0)], ik := some .u8 }
def i354 : TyI := { agg := false, size := 1, zero := [.v (.int .u8 0)], ik := some .u8 }
def i355 : TyI := { agg := false, size := 1, zero := [.v .nilFunc] }
def i356 : TyI := { agg := false, size := 1, zero := [.v (.pointer none)] }
def i357 : TyI := { agg := false, size := 1, zero := [.v (.int .i32 0)], ik := some .i32 }
def i358 : TyI := { agg := false, size := 1, zero := [.v (.int .i32 0)], ik := some .i32 }
def i359 : TyI := { agg := true, size := 11, zero := [.v (.int .u64 0), .v (.int .u64 0), .v (.int .u32 0), .v (.int .u8 0), .v (.int .u8 0), .v (.int .u8 0), .v (.int .u8 0), .v .nilFunc, .v (.pointer none), .v (.int .i32 0), .v (.int .i32 0)], fields := [(0, 12, 1), (1, 12, 1), (2, 352, 1), (3, 353, 1), (4, 5, 1), (5, 5, 1), (6, 354, 1), (7, 355, 1), (8, 356, 1), (9, 357, 1), (10, 358, 1)] }
def i360 : TyI := { agg := true, size := 11, zero := [.v (.int .u64 0), .v (.int .u64 0), .v (.int .u32 0), .v (.int .u8 0), .v (.int .u8 0), .v (.int .u8 0), .v (.int .u8 0), .v .nilFunc, .v (.pointer none), .v (.int .i32 0), .v (.int .i32 0)], fields := [(0, 12, 1), (1, 12, 1), (2, 352, 1), (3, 353, 1), (4, 5, 1), (5, 5, 1), (6, 354, 1), (7, 355, 1), (8, 356, 1), (9, 357, 1), (10, 358, 1)] }
def i361 : TyI := { agg := false, size := 1, zero := [.v .nilFunc] }
def tbl : TT := (.node (.node (.node (.node (.node (.node (.node (.node (.node .leaf 1 i1 .leaf) 2 i2 .leaf) 3 i3 (.node (.node .leaf 4 i4 .leaf) 5 i5 .leaf)) 6 i6 (.node (.node (.node .leaf 7 i7 .leaf) 8 i8 .leaf) 9 i9 (.node (.node .leaf 10 i10 .leaf) 11 i11 .leaf))) 12 i12 (.node (.node (.node (.node .leaf 13 i13 .leaf) 14 i14 .leaf) 15 i15 (.node (.node .leaf 16 i16 .leaf) 17 i17 .leaf)) 18 i18 (.node (.node (.node .leaf 19 i19 .leaf) 21 i21 .leaf) 22 i22 (.node .leaf 23 i23 .leaf)))) 24 i24 (.node (.node (.node (.node (.node .leaf 25 i25 .leaf) 26 i26 .leaf) 27 i27 (.node (.node .leaf 28 i28 .leaf) 29 i29 .leaf)) 30 i30 (.node (.node (.node .leaf 31 i31 .leaf) 32 i32 .leaf) 33 i33 (.node .leaf 34 i34 .leaf))) 35 i35 (.node (.node (.node (.node .leaf 36 i36 .leaf) 37 i37 .leaf) 38 i38 (.node (.node .leaf 39 i39 .leaf) 40 i40 .leaf)) 41 i41 (.node (.node (.node .leaf 42 i42 .leaf) 43 i43 .leaf) 44 i44 (.node .leaf 45 i45 .leaf))))) 47 i47 (.node (.node (.node (.node (.node (.node .leaf 48 i48 .leaf) 49 i49 .leaf) 50 i50 (.node (.node .leaf 51 i51 .leaf) 52 i52 .leaf)) 53 i53 (.node (.node (.node .leaf 54 i54 .leaf) 55 i55 .leaf) 56 i56 (.node .leaf 57 i57 .leaf))) 58 i58 (.node (.node (.node (.node .leaf 59 i59 .leaf) 60 i60 .leaf) 61 i61 (.node (.node .leaf 62 i62 .leaf) 63 i63 .leaf)) 64 i64 (.node (.node (.node .leaf 65 i65 .leaf) 67 i67 .leaf) 68 i68 (.node .leaf 69 i69 .leaf)))) 70 i70 (.node (.node (.node (.node (.node .leaf 71 i71 .leaf) 72 i72 .leaf) 73 i73 (.node (.node .leaf 74 i74 .leaf) 75 i75 .leaf)) 76 i76 (.node (.node (.node .leaf 77 i77 .leaf) 78 i78 .leaf) 79 i79 (.node .leaf 80 i80 .leaf))) 81 i81 (.node (.node (.node (.node .leaf 82 i82 .leaf) 83 i83 .leaf) 84 i84 (.node (.node .leaf 85 i85 .leaf) 86 i86 .leaf)) 87 i87 (.node (.node (.node .leaf 88 i88 .leaf) 89 i89 .leaf) 90 i90 (.node .leaf 91 i91 .leaf)))))) 92 i92 (.node (.node (.node (.node (.node (.node (.node .leaf 93 i93 .leaf) 94 i94 .leaf) 95 i95 (.node (.node .leaf 96 i96 .leaf) 97 i97 .leaf)) 98 i98 (.node (.node (.node .leaf 99 i99 .leaf) 100 i100 .leaf) 101 i101 (.node (.node .leaf 102 i102 .leaf) 103 i103 .leaf))) 104 i104 (.node (.node (.node (.node .leaf 105 i105 .leaf) 106 i106 .leaf) 107 i107 (.node (.node .leaf 108 i108 .leaf) 109 i109 .leaf)) 110 i110 (.node (.node (.node .leaf 111 i111 .leaf) 112 i112 .leaf) 113 i113 (.node .leaf 114 i114 .leaf)))) 115 i115 (.node (.node (.node (.node (.node .leaf 116 i116 .leaf) 117 i117 .leaf) 118 i118 (.node (.node .leaf 119 i119 .leaf) 120 i120 .leaf)) 121 i121 (.node (.node (.node .leaf 122 i122 .leaf) 123 i123 .leaf) 124 i124 (.node .leaf 125 i125 .leaf))) 126 i126 (.node (.node (.node (.node .leaf 127 i127 .leaf) 128 i128 .leaf) 129 i129 (.node (.node .leaf 130 i130 .leaf) 131 i131 .leaf)) 132 i132 (.node (.node (.node .leaf 133 i133 .leaf) 134 i134 .leaf) 135 i135 (.node .leaf 136 i136 .leaf))))) 137 i137 (.node (.node (.node (.node (.node (.node .leaf 138 i138 .leaf) 139 i139 .leaf) 140 i140 (.node (.node .leaf 141 i141 .leaf) 142 i142 .leaf)) 143 i143 (.node (.node (.node .leaf 144 i144 .leaf) 145 i145 .leaf) 146 i146 (.node .leaf 147 i147 .leaf))) 148 i148 (.node (.node (.node (.node .leaf 149 i149 .leaf) 150 i150 .leaf) 151 i151 (.node (.node .leaf 152 i152 .leaf) 153 i153 .leaf)) 154 i154 (.node (.node (.node .leaf 155 i155 .leaf) 156 i156 .leaf) 157 i157 (.node .leaf 158 i158 .leaf)))) 159 i159 (.node (.node (.node (.node (.node .leaf 160 i160 .leaf) 161 i161 .leaf) 162 i162 (.node (.node .leaf 163 i163 .leaf) 164 i164 .leaf)) 166 i166 (.node (.node (.node .leaf 167 i167 .leaf) 168 i168 .leaf) 169 i169 (.node .leaf 170 i170 .leaf))) 171 i171 (.node (.node (.node (.node .leaf 172 i172 .leaf) 173 i173 .leaf) 174 i174 (.node (.node .leaf 175 i175 .leaf) 176 i176 .leaf)) 177 i177 (.node (.node (.node .leaf 178 i178 .leaf) 179 i179 .leaf) 180 i180 (.node .leaf 181 i181 .leaf))))))) 182 i182 (.node (.node (.node (.node (.node (.node (.node (.node .leaf 183 i183 .leaf) 184 i184 .leaf) 185 i185 (.node (.node .leaf 186 i186 .leaf) 187 i187 .leaf)) 188 i188 (.node (.node (.node .leaf 189 i189 .leaf) 190 i190 .leaf) 191 i191 (.node (.node .leaf 192 i192 .leaf) 193 i193 .leaf))) 194 i194 (.node (.node (.node (.node .leaf 195 i195 .leaf) 196 i196 .leaf) 197 i197 (.node (.node .leaf 198 i198 .leaf) 199 i199 .leaf)) 200 i200 (.node (.node (.node .leaf 201 i201 .leaf) 202 i202 .leaf) 203 i203 (.node .leaf 204 i204 .leaf)))) 205 i205 (.node (.node (.node (.node (.node .leaf 206 i206 .leaf) 207 i207 .leaf) 208 i208 (.node (.node .leaf 209 i209 .leaf) 210 i210 .leaf)) 211 i211 (.node (.node (.node .leaf 212 i212 .leaf) 213 i213 .leaf) 214 i214 (.node .leaf 215 i215 .leaf))) 216 i216 (.node (.node (.node (.node .leaf 217 i217 .leaf) 218 i218 .leaf) 219 i219 (.node (.node .leaf 220 i220 .leaf) 222 i222 .leaf)) 223 i223 (.node (.node (.node .leaf 224 i224 .leaf) 225 i225 .leaf) 226 i226 (.node .leaf 227 i227 .leaf))))) 228 i228 (.node (.node (.node (.node (.node (.node .leaf 229 i229 .leaf) 230 i230 .leaf) 231 i231 (.node (.node .leaf 232 i232 .leaf) 233 i233 .leaf)) 234 i234 (.node (.node (.node .leaf 235 i235 .leaf) 236 i236 .leaf) 237 i237 (.node .leaf 238 i238 .leaf))) 239 i239 (.node (.node (.node (.node .leaf 240 i240 .leaf) 241 i241 .leaf) 242 i242 (.node (.node .leaf 243 i243 .leaf) 244 i244 .leaf)) 245 i245 (.node (.node (.node .leaf 246 i246 .leaf) 247 i247 .leaf) 248 i248 (.node .leaf 249 i249 .leaf)))) 250 i250 (.node (.node (.node (.node (.node .leaf 251 i251 .leaf) 252 i252 .leaf) 253 i253 (.node (.node .leaf 254 i254 .leaf) 255 i255 .leaf)) 256 i256 (.node (.node (.node .leaf 257 i257 .leaf) 258 i258 .leaf) 259 i259 (.node .leaf 260 i260 .leaf))) 261 i261 (.node (.node (.node (.node .leaf 262 i262 .leaf) 263 i263 .leaf) 264 i264 (.node (.node .leaf 265 i265 .leaf) 266 i266 .leaf)) 267 i267 (.node (.node (.node .leaf 268 i268 .leaf) 269 i269 .leaf) 270 i270 (.node .leaf 271 i271 .leaf)))))) 272 i272 (.node (.node (.node (.node (.node (.node (.node .leaf 273 i273 .leaf) 274 i274 .leaf) 275 i275 (.node (.node .leaf 276 i276 .leaf) 277 i277 .leaf)) 278 i278 (.node (.node (.node .leaf 279 i279 .leaf) 280 i280 .leaf) 281 i281 (.node .leaf 282 i282 .leaf))) 283 i283 (.node (.node (.node (.node .leaf 284 i284 .leaf) 285 i285 .leaf) 287 i287 (.node (.node .leaf 289 i289 .leaf) 290 i290 .leaf)) 291 i291 (.node (.node (.node .leaf 292 i292 .leaf) 293 i293 .leaf) 294 i294 (.node .leaf 295 i295 .leaf)))) 296 i296 (.node (.node (.node (.node (.node .leaf 297 i297 .leaf) 298 i298 .leaf) 299 i299 (.node (.node .leaf 300 i300 .leaf) 301 i301 .leaf)) 302 i302 (.node (.node (.node .leaf 303 i303 .leaf) 304 i304 .leaf) 305 i305 (.node .leaf 306 i306 .leaf))) 307 i307 (.node (.node (.node (.node .leaf 308 i308 .leaf) 309 i309 .leaf) 310 i310 (.node (.node .leaf 311 i311 .leaf) 312 i312 .leaf)) 313 i313 (.node (.node (.node .leaf 314 i314 .leaf) 315 i315 .leaf) 316 i316 (.node .leaf 317 i317 .leaf))))) 318 i318 (.node (.node (.node (.node (.node (.node .leaf 319 i319 .leaf) 320 i320 .leaf) 321 i321 (.node (.node .leaf 322 i322 .leaf) 323 i323 .leaf)) 324 i324 (.node (.node (.node .leaf 325 i325 .leaf) 326 i326 .leaf) 327 i327 (.node .leaf 328 i328 .leaf))) 329 i329 (.node (.node (.node (.node .leaf 330 i330 .leaf) 331 i331 .leaf) 332 i332 (.node (.node .leaf 333 i333 .leaf) 334 i334 .leaf)) 335 i335 (.node (.node (.node .leaf 336 i336 .leaf) 337 i337 .leaf) 338 i338 (.node .leaf 339 i339 .leaf)))) 340 i340 (.node (.node (.node (.node (.node .leaf 341 i341 .leaf) 342 i342 .leaf) 343 i343 (.node (.node .leaf 344 i344 .leaf) 345 i345 .leaf)) 346 i346 (.node (.node (.node .leaf 347 i347 .leaf) 348 i348 .leaf) 349 i349 (.node .leaf 350 i350 .leaf))) 351 i351 (.node (.node (.node (.node .leaf 352 i352 .leaf) 353 i353 .leaf) 354 i354 (.node (.node .leaf 355 i355 .leaf) 356 i356 .leaf)) 357 i357 (.node (.node (.node .leaf 358 i358 .leaf) 359 i359 .leaf) 360 i360 (.node .leaf 361 i361 .leaf))))))))
theorem htb : TblOk Tryz.prog tbl := tblOk_of (by kernel_rfl)
end Go.Proofs.YtmpcfplelpdbhaaGreat
