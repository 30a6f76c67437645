/- Part of a proof engine for functions of the given program: what an operation, a loop and a call compute, symbolically. No conditions. -/
import Derived.Test.YtkkenofdfpgplaaGreatDoorEngW
import Derived.Test.YtkkenofdfpgplaaGreatDoorProg
namespace Go.Proofs.YtkkenofdfpgplaaGreatDoor
open Go Go.KA Go.Proofs
set_option maxRecDepth 100000
def i1 : TyI := { agg := false, size := 1, zero := [.v .nilFunc] }
def i2 : TyI := { agg := false, size := 1, zero := [.v (.int .i64 0)], ik := some .i64 }
def i3 : TyI := { agg := false, size := 1, zero := [.v (.int .i64 0)], ik := some .i64 }
def i4 : TyI := { agg := false, size := 1, zero := [.v (.bool false)], isB := true }
def i5 : TyI := { agg := false, size := 1, zero := [.v (.int .u8 0)], ik := some .u8 }
def i6 : TyI := { agg := false, size := 1, zero := [.v (.int .u8 0)], ik := some .u8 }
def i7 : TyI := { agg := true, size := 4, zero := [.v (.int .i64 0), .v (.int .i64 0), .v (.bool false), .v (.int .u8 0)], fields := [(0, 2, 1), (1, 3, 1), (2, 4, 1), (3, 6, 1)] }
def i8 : TyI := { agg := true, size := 4, zero := [.v (.int .i64 0), .v (.int .i64 0), .v (.bool false), .v (.int .u8 0)], fields := [(0, 2, 1), (1, 3, 1), (2, 4, 1), (3, 6, 1)] }
def i9 : TyI := { agg := false, size := 1, zero := [.v (.string .empty)], isS := true }
def i10 : TyI := { agg := false, size := 1, zero := [.v (.string .empty)], isS := true }
def i11 : TyI := { agg := false, size := 1, zero := [.v (.string .empty)], isS := true }
def i12 : TyI := { agg := false, size := 1, zero := [.v (.int .u64 0)], ik := some .u64 }
def i13 : TyI := { agg := true, size := 2, zero := [.v (.string .empty), .v (.int .u64 0)], fields := [(0, 9, 1), (1, 12, 1)] }
def i14 : TyI := { agg := true, size := 2, zero := [.v (.string .empty), .v (.int .u64 0)], fields := [(0, 9, 1), (1, 12, 1)] }
def i15 : TyI := { agg := false, size := 1, zero := [.v (.pointer none)] }
def i16 : TyI := { agg := false, size := 1, zero := [.v (.pointer none)] }
def i17 : TyI := { agg := false, size := 1, zero := [.v (.pointer none)] }
def i18 : TyI := { agg := true, size := 1, zero := [.v (.pointer none)], fields := [(0, 17, 1)] }
def i19 : TyI := { agg := true, size := 1, zero := [.v (.pointer none)], fields := [(0, 17, 1)] }
def i21 : TyI := { agg := false, size := 1, zero := [.v (.int .i32 0)], ik := some .i32 }
def i22 : TyI := { agg := true, size := 2, zero := [.v (.int .i64 0), .v (.int .i64 0)], fields := [(0, 2, 1), (1, 2, 1)], eq2 := true }
def i23 : TyI := { agg := true, size := 2, zero := [.v (.int .i64 0), .v (.int .i64 0)], fields := [(0, 2, 1), (1, 2, 1)], eq2 := true }
def i24 : TyI := { agg := false, size := 1, zero := [.s 86 3], elem := some (86, 3, 40) }
def i25 : TyI := { agg := false, size := 1, zero := [.s 96 8], elem := some (96, 8, 96) }
def i26 : TyI := { agg := true, size := 4, zero := [.v (.int .i64 0), .v (.int .i64 0), .s 86 3, .s 96 8], fields := [(0, 23, 2), (2, 24, 1), (3, 25, 1)] }
def i27 : TyI := { agg := true, size := 4, zero := [.v (.int .i64 0), .v (.int .i64 0), .s 86 3, .s 96 8], fields := [(0, 23, 2), (2, 24, 1), (3, 25, 1)] }
def i28 : TyI := { agg := false, size := 1, zero := [.v .nilFunc] }
def i30 : TyI := { agg := false, size := 1, zero := [.v .nilFunc] }
def i31 : TyI := { agg := true, size := 2, zero := [.v (.int .i64 0), .v (.int .i64 0)], fields := [(0, 2, 1), (1, 2, 1)], eq2 := true }
def i32 : TyI := { agg := false, size := 1, zero := [.s 45 3], elem := some (45, 3, 40) }
def i33 : TyI := { agg := false, size := 1, zero := [.s 109 8], elem := some (109, 8, 96) }
def i34 : TyI := { agg := true, size := 4, zero := [.v (.int .i64 0), .v (.int .i64 0), .s 45 3, .s 109 8], fields := [(0, 31, 2), (2, 32, 1), (3, 33, 1)] }
def i35 : TyI := { agg := true, size := 4, zero := [.v (.int .i64 0), .v (.int .i64 0), .s 45 3, .s 109 8], fields := [(0, 31, 2), (2, 32, 1), (3, 33, 1)] }
def i36 : TyI := { agg := false, size := 1, zero := [.v .nilFunc] }
def i37 : TyI := { agg := false, size := 1, zero := [.v .nilFunc] }
def i38 : TyI := { agg := false, size := 1, zero := [.v .nilFunc] }
def i39 : TyI := { agg := false, size := 1, zero := [.v .nilFunc] }
def i40 : TyI := { agg := false, size := 1, zero := [.v .nilFunc] }
def i41 : TyI := { agg := false, size := 1, zero := [.v .nilFunc] }
def i42 : TyI := { agg := false, size := 1, zero := [.v (.pointer none)] }
def i43 : TyI := { agg := false, size := 1, zero := [.s 54 7], elem := some (54, 7, 88) }
def i44 : TyI := { agg := true, size := 3, zero := [.v (.bool false), .s 54 7, .v (.int .i64 0)], fields := [(0, 4, 1), (1, 43, 1), (2, 2, 1)] }
def i45 : TyI := { agg := true, size := 3, zero := [.v (.bool false), .s 54 7, .v (.int .i64 0)], fields := [(0, 4, 1), (1, 43, 1), (2, 2, 1)] }
def i46 : TyI := { agg := false, size := 1, zero := [.v (.pointer none)] }
def i47 : TyI := { agg := false, size := 1, zero := [.s 2 1], elem := some (2, 1, 8) }
def i48 : TyI := { agg := false, size := 1, zero := [.s 104 9], elem := some (104, 9, 120) }
def i49 : TyI := { agg := true, size := 3, zero := [.v (.int .i64 0), .v (.int .i64 0), .s 104 9], fields := [(0, 31, 2), (2, 48, 1)] }
def i50 : TyI := { agg := true, size := 3, zero := [.v (.int .i64 0), .v (.int .i64 0), .s 104 9], fields := [(0, 31, 2), (2, 48, 1)] }
def i51 : TyI := { agg := true, size := 5, zero := [.v (.int .i64 0), .s 2 1, .v (.int .i64 0), .v (.int .i64 0), .s 104 9], fields := [(0, 2, 1), (1, 47, 1), (2, 50, 3)] }
def i52 : TyI := { agg := true, size := 5, zero := [.v (.int .i64 0), .s 2 1, .v (.int .i64 0), .v (.int .i64 0), .s 104 9], fields := [(0, 2, 1), (1, 47, 1), (2, 50, 3)] }
def i53 : TyI := { agg := true, size := 7, zero := [.v (.bool false), .v (.int .i64 0), .v (.int .i64 0), .s 2 1, .v (.int .i64 0), .v (.int .i64 0), .s 104 9], fields := [(0, 4, 1), (1, 2, 1), (2, 52, 5)] }
def i54 : TyI := { agg := true, size := 7, zero := [.v (.bool false), .v (.int .i64 0), .v (.int .i64 0), .s 2 1, .v (.int .i64 0), .v (.int .i64 0), .s 104 9], fields := [(0, 4, 1), (1, 2, 1), (2, 52, 5)] }
def i55 : TyI := { agg := false, size := 1, zero := [.v .nilFunc] }
def i56 : TyI := { agg := false, size := 1, zero := [.s 58 3], elem := some (58, 3, 40) }
def i57 : TyI := { agg := true, size := 3, zero := [.v (.int .i64 0), .v (.int .i64 0), .s 58 3], fields := [(0, 2, 1), (1, 2, 1), (2, 56, 1)] }
def i58 : TyI := { agg := true, size := 3, zero := [.v (.int .i64 0), .v (.int .i64 0), .s 58 3], fields := [(0, 2, 1), (1, 2, 1), (2, 56, 1)] }
def i59 : TyI := { agg := true, size := 6, zero := [.v (.int .i64 0), .v (.int .i64 0), .s 58 3, .v (.int .i64 0), .v (.int .i64 0), .s 58 3], fields := [(0, 58, 3), (3, 58, 3)] }
def i60 : TyI := { agg := true, size := 6, zero := [.v (.int .i64 0), .v (.int .i64 0), .s 58 3, .v (.int .i64 0), .v (.int .i64 0), .s 58 3], fields := [(0, 58, 3), (3, 58, 3)] }
def i61 : TyI := { agg := false, size := 1, zero := [.v .nilFunc] }
def i62 : TyI := { agg := false, size := 1, zero := [.v (.pointer none)] }
def i63 : TyI := { agg := false, size := 1, zero := [.v .nilFunc] }
def i64 : TyI := { agg := false, size := 1, zero := [.v (.pointer none)] }
def i65 : TyI := { agg := false, size := 1, zero := [.v .nilFunc] }
def i66 : TyI := { agg := false, size := 1, zero := [.v .nilFunc] }
def i67 : TyI := { agg := false, size := 1, zero := [.v .nilFunc] }
def i68 : TyI := { agg := false, size := 1, zero := [.v .nilFunc] }
def i69 : TyI := { agg := false, size := 1, zero := [.v (.pointer none)] }
def i70 : TyI := { agg := false, size := 1, zero := [.s 5 1], elem := some (5, 1, 1) }
def i71 : TyI := { agg := true, size := 2, zero := [.v (.pointer none), .s 5 1], fields := [(0, 69, 1), (1, 70, 1)] }
def i72 : TyI := { agg := true, size := 2, zero := [.v (.pointer none), .s 5 1], fields := [(0, 69, 1), (1, 70, 1)] }
def i76 : TyI := { agg := false, size := 1, zero := [.v .nilFunc] }
def i77 : TyI := { agg := false, size := 1, zero := [.v .nilFunc] }
def i78 : TyI := { agg := false, size := 1, zero := [.v .nilFunc] }
def i79 : TyI := { agg := false, size := 1, zero := [.v .nilFunc] }
def i80 : TyI := { agg := false, size := 1, zero := [.v .nilFunc] }
def i81 : TyI := { agg := false, size := 1, zero := [.v .nilFunc] }
def i82 : TyI := { agg := false, size := 1, zero := [.v .nilFunc] }
def i83 : TyI := { agg := false, size := 1, zero := [.v .nilFunc] }
def i84 : TyI := { agg := false, size := 1, zero := [.s 94 7], elem := some (94, 7, 88) }
def i85 : TyI := { agg := true, size := 3, zero := [.v (.bool false), .s 94 7, .v (.int .i64 0)], fields := [(0, 4, 1), (1, 84, 1), (2, 2, 1)] }
def i86 : TyI := { agg := true, size := 3, zero := [.v (.bool false), .s 94 7, .v (.int .i64 0)], fields := [(0, 4, 1), (1, 84, 1), (2, 2, 1)] }
def i87 : TyI := { agg := false, size := 1, zero := [.v .nilFunc] }
def i88 : TyI := { agg := false, size := 1, zero := [.s 202 9], elem := some (202, 9, 120) }
def i89 : TyI := { agg := true, size := 3, zero := [.v (.int .i64 0), .v (.int .i64 0), .s 202 9], fields := [(0, 23, 2), (2, 88, 1)] }
def i90 : TyI := { agg := true, size := 3, zero := [.v (.int .i64 0), .v (.int .i64 0), .s 202 9], fields := [(0, 23, 2), (2, 88, 1)] }
def i91 : TyI := { agg := true, size := 5, zero := [.v (.int .i64 0), .s 2 1, .v (.int .i64 0), .v (.int .i64 0), .s 202 9], fields := [(0, 2, 1), (1, 47, 1), (2, 90, 3)] }
def i92 : TyI := { agg := true, size := 5, zero := [.v (.int .i64 0), .s 2 1, .v (.int .i64 0), .v (.int .i64 0), .s 202 9], fields := [(0, 2, 1), (1, 47, 1), (2, 90, 3)] }
def i93 : TyI := { agg := true, size := 7, zero := [.v (.bool false), .v (.int .i64 0), .v (.int .i64 0), .s 2 1, .v (.int .i64 0), .v (.int .i64 0), .s 202 9], fields := [(0, 4, 1), (1, 2, 1), (2, 92, 5)] }
def i94 : TyI := { agg := true, size := 7, zero := [.v (.bool false), .v (.int .i64 0), .v (.int .i64 0), .s 2 1, .v (.int .i64 0), .v (.int .i64 0), .s 202 9], fields := [(0, 4, 1), (1, 2, 1), (2, 92, 5)] }
def i95 : TyI := { agg := true, size := 8, zero := [.v (.int .i64 0), .v (.bool false), .v (.int .i64 0), .v (.int .i64 0), .s 2 1, .v (.int .i64 0), .v (.int .i64 0), .s 202 9], fields := [(0, 2, 1), (1, 94, 7)] }
def i96 : TyI := { agg := true, size := 8, zero := [.v (.int .i64 0), .v (.bool false), .v (.int .i64 0), .v (.int .i64 0), .s 2 1, .v (.int .i64 0), .v (.int .i64 0), .s 202 9], fields := [(0, 2, 1), (1, 94, 7)] }
def i97 : TyI := { agg := false, size := 1, zero := [.v .nilFunc] }
def i98 : TyI := { agg := false, size := 1, zero := [.v .nilFunc] }
def i99 : TyI := { agg := false, size := 1, zero := [.v .nilFunc] }
def i100 : TyI := { agg := false, size := 1, zero := [.v .nilFunc] }
def i101 : TyI := { agg := false, size := 1, zero := [.v (.pointer none)] }
def i102 : TyI := { agg := false, size := 1, zero := [.s 183 5], elem := some (183, 5, 88) }
def i103 : TyI := { agg := true, size := 9, zero := [.v (.int .i64 0), .v (.int .i64 0), .s 58 3, .v (.int .i64 0), .v (.int .i64 0), .s 58 3, .v (.int .i64 0), .v (.int .i64 0), .s 183 5], fields := [(0, 58, 3), (3, 58, 3), (6, 2, 1), (7, 2, 1), (8, 102, 1)] }
def i104 : TyI := { agg := true, size := 9, zero := [.v (.int .i64 0), .v (.int .i64 0), .s 58 3, .v (.int .i64 0), .v (.int .i64 0), .s 58 3, .v (.int .i64 0), .v (.int .i64 0), .s 183 5], fields := [(0, 58, 3), (3, 58, 3), (6, 2, 1), (7, 2, 1), (8, 102, 1)] }
def i105 : TyI := { agg := false, size := 1, zero := [.v .nilFunc] }
def i106 : TyI := { agg := false, size := 1, zero := [.v (.pointer none)] }
def i107 : TyI := { agg := false, size := 1, zero := [.v .nilFunc] }
def i108 : TyI := { agg := true, size := 8, zero := [.v (.int .i64 0), .v (.bool false), .v (.int .i64 0), .v (.int .i64 0), .s 2 1, .v (.int .i64 0), .v (.int .i64 0), .s 104 9], fields := [(0, 2, 1), (1, 54, 7)] }
def i109 : TyI := { agg := true, size := 8, zero := [.v (.int .i64 0), .v (.bool false), .v (.int .i64 0), .v (.int .i64 0), .s 2 1, .v (.int .i64 0), .v (.int .i64 0), .s 104 9], fields := [(0, 2, 1), (1, 54, 7)] }
def i110 : TyI := { agg := false, size := 1, zero := [.v .nilFunc] }
def i111 : TyI := { agg := false, size := 1, zero := [.v .nilFunc] }
def i112 : TyI := { agg := false, size := 1, zero := [.v .nilFunc] }
def i113 : TyI := { agg := false, size := 1, zero := [.v .nilFunc] }
def i114 : TyI := { agg := false, size := 1, zero := [.v .nilFunc] }
def i115 : TyI := { agg := false, size := 1, zero := [.v (.pointer none)] }
def i116 : TyI := { agg := false, size := 1, zero := [.v .nilFunc] }
def i117 : TyI := { agg := false, size := 1, zero := [.v .nilFunc] }
def i118 : TyI := { agg := false, size := 1, zero := [.v .nilFunc] }
def i119 : TyI := { agg := false, size := 1, zero := [.v .nilFunc] }
def i120 : TyI := { agg := false, size := 1, zero := [.v .nilFunc] }
def i121 : TyI := { agg := false, size := 1, zero := [.v .nilFunc] }
def i122 : TyI := { agg := false, size := 1, zero := [.v (.pointer none)] }
def i123 : TyI := { agg := false, size := 1, zero := [.v .nilFunc] }
def i124 : TyI := { agg := false, size := 1, zero := [.v .nilFunc] }
def i125 : TyI := { agg := false, size := 1, zero := [.v .nilFunc] }
def i126 : TyI := { agg := false, size := 1, zero := [.v .nilFunc] }
def i127 : TyI := { agg := false, size := 1, zero := [.v .nilFunc] }
def i128 : TyI := { agg := false, size := 1, zero := [.v .nilFunc] }
def i129 : TyI := { agg := false, size := 1, zero := [.v (.map none)], mapK := some (some .i64, 52) }
def i130 : TyI := { agg := false, size := 1, zero := [.v .nilFunc] }
def i132 : TyI := { agg := false, size := 1, zero := [.v .nilFunc] }
def i134 : TyI := { agg := false, size := 1, zero := [.v .nilFunc] }
def i135 : TyI := { agg := false, size := 1, zero := [.v .nilFunc] }
def i136 : TyI := { agg := false, size := 1, zero := [.v .nilFunc] }
def i137 : TyI := { agg := false, size := 1, zero := [.v .nilFunc] }
def i138 : TyI := { agg := false, size := 1, zero := [.v .nilFunc] }
def i139 : TyI := { agg := false, size := 1, zero := [.v .nilFunc] }
def i140 : TyI := { agg := false, size := 1, zero := [.v .nilFunc] }
def i141 : TyI := { agg := false, size := 1, zero := [.v .nilFunc] }
def i142 : TyI := { agg := false, size := 1, zero := [.v (.pointer none)] }
def i143 : TyI := { agg := false, size := 1, zero := [.v .nilFunc] }
def i144 : TyI := { agg := false, size := 1, zero := [.v .nilFunc] }
def i145 : TyI := { agg := false, size := 1, zero := [.v .nilFunc] }
def i146 : TyI := { agg := false, size := 1, zero := [.v .nilFunc] }
def i147 : TyI := { agg := false, size := 1, zero := [.v .nilFunc] }
def i148 : TyI := { agg := false, size := 1, zero := [.v .nilFunc] }
def i149 : TyI := { agg := false, size := 1, zero := [.v .nilFunc] }
def i150 : TyI := { agg := false, size := 1, zero := [.v .nilFunc] }
def i151 : TyI := { agg := false, size := 1, zero := [.v .nilFunc] }
def i152 : TyI := { agg := true, size := 24, zero := [.v (.int .u8 0), .v (.int .u8 0), .v (.int .u8 0), .v (.int .u8 0), .v (.int .u8 0), .v (.int .u8 0), .v (.int .u8 0), .v (.int .u8 0), .v (.int .u8 0), .v (.int .u8 0), .v (.int .u8 0), .v (.int .u8 0), .v (.int .u8 0), .v (.int .u8 0), .v (.int .u8 0), .v (.int .u8 0), .v (.int .u8 0), .v (.int .u8 0), .v (.int .u8 0), .v (.int .u8 0), .v (.int .u8 0), .v (.int .u8 0), .v (.int .u8 0), .v (.int .u8 0)] }
def i153 : TyI := { agg := false, size := 1, zero := [.v (.int .u64 0)], ik := some .u64 }
def i154 : TyI := { agg := false, size := 1, zero := [.v .nilFunc] }
def i155 : TyI := { agg := false, size := 1, zero := [.v .nilFunc] }
def i157 : TyI := { agg := false, size := 1, zero := [.v .nilFunc] }
def i158 : TyI := { agg := false, size := 1, zero := [.v .nilFunc] }
def i159 : TyI := { agg := false, size := 1, zero := [.v .nilFunc] }
def i160 : TyI := { agg := false, size := 1, zero := [.v .nilFunc] }
def i161 : TyI := { agg := false, size := 1, zero := [.v .nilFunc] }
def i162 : TyI := { agg := false, size := 1, zero := [.v .nilFunc] }
def i163 : TyI := { agg := false, size := 1, zero := [.v .nilFunc] }
def i164 : TyI := { agg := false, size := 1, zero := [.v .nilFunc] }
def i165 : TyI := { agg := false, size := 1, zero := [.v .nilFunc] }
def i166 : TyI := { agg := false, size := 1, zero := [.v .nilFunc] }
def i167 : TyI := { agg := false, size := 1, zero := [.v .nilFunc] }
def i168 : TyI := { agg := false, size := 1, zero := [.v .nilFunc] }
def i169 : TyI := { agg := false, size := 1, zero := [.v .nilFunc] }
def i170 : TyI := { agg := false, size := 1, zero := [.v .nilFunc] }
def i171 : TyI := { agg := false, size := 1, zero := [.v .nilFunc] }
def i172 : TyI := { agg := false, size := 1, zero := [.v .nilFunc] }
def i173 : TyI := { agg := true, size := 20, zero := [.v (.int .u64 0), .v (.int .u64 0), .v (.int .u64 0), .v (.int .u64 0), .v (.int .u64 0), .v (.int .u64 0), .v (.int .u64 0), .v (.int .u64 0), .v (.int .u64 0), .v (.int .u64 0), .v (.int .u64 0), .v (.int .u64 0), .v (.int .u64 0), .v (.int .u64 0), .v (.int .u64 0), .v (.int .u64 0), .v (.int .u64 0), .v (.int .u64 0), .v (.int .u64 0), .v (.int .u64 0)] }
def i174 : TyI := { agg := false, size := 1, zero := [.v (.int .u32 0)], ik := some .u32 }
def i176 : TyI := { agg := false, size := 1, zero := [.v .nilFunc] }
def i177 : TyI := { agg := false, size := 1, zero := [.v (.int .u64 0)], ik := some .u64 }
def i178 : TyI := { agg := false, size := 1, zero := [.v .nilFunc] }
def i179 : TyI := { agg := false, size := 1, zero := [.v .nilFunc] }
def i180 : TyI := { agg := false, size := 1, zero := [.v .nilFunc] }
def i181 : TyI := { agg := false, size := 1, zero := [.v .nilFunc] }
def i182 : TyI := { agg := true, size := 5, zero := [.v (.int .i64 0), .v (.bool false), .s 2 1, .s 58 3, .s 58 3], fields := [(0, 2, 1), (1, 4, 1), (2, 47, 1), (3, 56, 1), (4, 56, 1)] }
def i183 : TyI := { agg := true, size := 5, zero := [.v (.int .i64 0), .v (.bool false), .s 2 1, .s 58 3, .s 58 3], fields := [(0, 2, 1), (1, 4, 1), (2, 47, 1), (3, 56, 1), (4, 56, 1)] }
def i184 : TyI := { agg := false, size := 1, zero := [.v .nilFunc] }
def i185 : TyI := { agg := false, size := 1, zero := [.v .nilFunc] }
def i186 : TyI := { agg := false, size := 1, zero := [.v .nilFunc] }
def i187 : TyI := { agg := false, size := 1, zero := [.v .nilFunc] }
def i188 : TyI := { agg := false, size := 1, zero := [.v .nilFunc] }
def i189 : TyI := { agg := false, size := 1, zero := [.v .nilFunc] }
def i190 : TyI := { agg := false, size := 1, zero := [.v .nilFunc] }
def i191 : TyI := { agg := false, size := 1, zero := [.v .nilFunc] }
def i192 : TyI := { agg := false, size := 1, zero := [.v .nilFunc] }
def i193 : TyI := { agg := false, size := 1, zero := [.v .nilFunc] }
def i194 : TyI := { agg := false, size := 1, zero := [.v .nilFunc] }
def i195 : TyI := { agg := false, size := 1, zero := [.v .nilFunc] }
def i196 : TyI := { agg := false, size := 1, zero := [.v .nilFunc] }
def i197 : TyI := { agg := false, size := 1, zero := [.s 199 3], elem := some (199, 3, 40) }
def i198 : TyI := { agg := true, size := 3, zero := [.v (.int .i64 0), .v (.int .i64 0), .s 199 3], fields := [(0, 2, 1), (1, 2, 1), (2, 197, 1)] }
def i199 : TyI := { agg := true, size := 3, zero := [.v (.int .i64 0), .v (.int .i64 0), .s 199 3], fields := [(0, 2, 1), (1, 2, 1), (2, 197, 1)] }
def i200 : TyI := { agg := false, size := 1, zero := [.s 229 5], elem := some (229, 5, 88) }
def i201 : TyI := { agg := true, size := 9, zero := [.v (.int .i64 0), .v (.int .i64 0), .s 199 3, .v (.int .i64 0), .v (.int .i64 0), .s 199 3, .v (.int .i64 0), .v (.int .i64 0), .s 229 5], fields := [(0, 199, 3), (3, 199, 3), (6, 2, 1), (7, 2, 1), (8, 200, 1)] }
def i202 : TyI := { agg := true, size := 9, zero := [.v (.int .i64 0), .v (.int .i64 0), .s 199 3, .v (.int .i64 0), .v (.int .i64 0), .s 199 3, .v (.int .i64 0), .v (.int .i64 0), .s 229 5], fields := [(0, 199, 3), (3, 199, 3), (6, 2, 1), (7, 2, 1), (8, 200, 1)] }
def i203 : TyI := { agg := false, size := 1, zero := [.v .nilFunc] }
def i204 : TyI := { agg := false, size := 1, zero := [.v .nilFunc] }
def i205 : TyI := { agg := false, size := 1, zero := [.v (.pointer none)] }
def i206 : TyI := { agg := false, size := 1, zero := [.v .nilFunc] }
def i207 : TyI := { agg := false, size := 1, zero := [.v .nilFunc] }
def i208 : TyI := { agg := false, size := 1, zero := [.v .nilFunc] }
def i209 : TyI := { agg := false, size := 1, zero := [.v .nilFunc] }
def i210 : TyI := { agg := false, size := 1, zero := [.v .nilFunc] }
def i211 : TyI := { agg := false, size := 1, zero := [.v .nilFunc] }
def i212 : TyI := { agg := false, size := 1, zero := [.v .nilFunc] }
def i213 : TyI := { agg := true, size := 32, zero := [.v (.int .u8 0), .v (.int .u8 0), .v (.int .u8 0), .v (.int .u8 0), .v (.int .u8 0), .v (.int .u8 0), .v (.int .u8 0), .v (.int .u8 0), .v (.int .u8 0), .v (.int .u8 0), .v (.int .u8 0), .v (.int .u8 0), .v (.int .u8 0), .v (.int .u8 0), .v (.int .u8 0), .v (.int .u8 0), .v (.int .u8 0), .v (.int .u8 0), .v (.int .u8 0), .v (.int .u8 0), .v (.int .u8 0), .v (.int .u8 0), .v (.int .u8 0), .v (.int .u8 0), .v (.int .u8 0), .v (.int .u8 0), .v (.int .u8 0), .v (.int .u8 0), .v (.int .u8 0), .v (.int .u8 0), .v (.int .u8 0), .v (.int .u8 0)] }
def i214 : TyI := { agg := true, size := 64, zero := [.v (.int .u8 0), .v (.int .u8 0), .v (.int .u8 0), .v (.int .u8 0), .v (.int .u8 0), .v (.int .u8 0), .v (.int .u8 0), .v (.int .u8 0), .v (.int .u8 0), .v (.int .u8 0), .v (.int .u8 0), .v (.int .u8 0), .v (.int .u8 0), .v (.int .u8 0), .v (.int .u8 0), .v (.int .u8 0), .v (.int .u8 0), .v (.int .u8 0), .v (.int .u8 0), .v (.int .u8 0), .v (.int .u8 0), .v (.int .u8 0), .v (.int .u8 0), .v (.int .u8 0), .v (.int .u8 0), .v (.int .u8 0), .v (.int .u8 0), .v (.int .u8 0), .v (.int .u8 0), .v (.int .u8 0), .v (.int .u8 0), .v (.int .u8 0), .v (.int .u8 0), .v (.int .u8 0), .v (.int .u8 0), .v (.int .u8 0), .v (.int .u8 0), .v (.int .u8 0), .v (.int .u8 0), .v (.int .u8 0), .v (.int .u8 0), .v (.int .u8 0), .v (.int .u8 0), .v (.int .u8 0), .v (.int .u8 0), .v (.int .u8 0), .v (.int .u8 0), .v (.int .u8 0), .v (.int .u8 0), .v (.int .u8 0), .v (.int .u8 0), .v (.int .u8 0), .v (.int .u8 0), .v (.int .u8 0), .v (.int .u8 0), .v (.int .u8 0), .v (.int .u8 0), .v (.int .u8 0), .v (.int .u8 0), .v (.int .u8 0), .v (.int .u8 0), .v (.int .u8 0), .v (.int .u8 0), .v (.int .u8 0)] }
def i215 : TyI := { agg := false, size := 1, zero := [.v .nilFunc] }
def i216 : TyI := { agg := false, size := 1, zero := [.v .nilFunc] }
def i217 : TyI := { agg := false, size := 1, zero := [.v .nilFunc] }
def i218 : TyI := { agg := false, size := 1, zero := [.s 9 1], elem := some (9, 1, 16) }
def i219 : TyI := { agg := false, size := 1, zero := [.v .nilFunc] }
def i220 : TyI := { agg := false, size := 1, zero := [.v .nilFunc] }
def i221 : TyI := { agg := false, size := 1, zero := [.v .nilFunc] }
def i222 : TyI := { agg := false, size := 1, zero := [.v .nilFunc] }
def i224 : TyI := { agg := false, size := 1, zero := [.v .nilFunc] }
def i225 : TyI := { agg := false, size := 1, zero := [.v .nilFunc] }
def i226 : TyI := { agg := false, size := 1, zero := [.v .nilFunc] }
def i227 : TyI := { agg := false, size := 1, zero := [.v .nilFunc] }
def i228 : TyI := { agg := true, size := 5, zero := [.v (.int .i64 0), .v (.bool false), .s 2 1, .s 199 3, .s 199 3], fields := [(0, 2, 1), (1, 4, 1), (2, 47, 1), (3, 197, 1), (4, 197, 1)] }
def i229 : TyI := { agg := true, size := 5, zero := [.v (.int .i64 0), .v (.bool false), .s 2 1, .s 199 3, .s 199 3], fields := [(0, 2, 1), (1, 4, 1), (2, 47, 1), (3, 197, 1), (4, 197, 1)] }
def i230 : TyI := { agg := false, size := 1, zero := [.v .nilFunc] }
def i231 : TyI := { agg := false, size := 1, zero := [.v .nilFunc] }
def i232 : TyI := { agg := false, size := 1, zero := [.v .nilFunc] }
def i233 : TyI := { agg := false, size := 1, zero := [.v .nilFunc] }
def i234 : TyI := { agg := false, size := 1, zero := [.v .nilFunc] }
def i235 : TyI := { agg := true, size := 4, zero := [.v (.pointer none), .v (.pointer none), .v (.pointer none), .v (.string .empty)], fields := [(0, 17, 1), (1, 17, 1), (2, 17, 1), (3, 9, 1)] }
def i236 : TyI := { agg := true, size := 4, zero := [.v (.pointer none), .v (.pointer none), .v (.pointer none), .v (.string .empty)], fields := [(0, 17, 1), (1, 17, 1), (2, 17, 1), (3, 9, 1)] }
def i237 : TyI := { agg := true, size := 0, zero := [] }
def i238 : TyI := { agg := true, size := 0, zero := [] }
def i239 : TyI := { agg := true, size := 0, zero := [] }
def i240 : TyI := { agg := false, size := 1, zero := [.v .nilFunc] }
def i241 : TyI := { agg := false, size := 1, zero := [.v (.int .u8 0)], ik := some .u8 }
def i242 : TyI := { agg := false, size := 1, zero := [.v (.int .u8 0)], ik := some .u8 }
def i243 : TyI := { agg := false, size := 1, zero := [.v .nilFunc] }
def i244 : TyI := { agg := false, size := 1, zero := [.v (.int .i32 0)], ik := some .i32 }
def i245 : TyI := { agg := false, size := 1, zero := [.v (.int .i32 0)], ik := some .i32 }
def i246 : TyI := { agg := true, size := 11, zero := [.v (.int .u64 0), .v (.int .u64 0), .v (.int .u32 0), .v (.int .u8 0), .v (.int .u8 0), .v (.int .u8 0), .v (.int .u8 0), .v .nilFunc, .v (.pointer none), .v (.int .i32 0), .v (.int .i32 0)], fields := [(0, 12, 1), (1, 12, 1), (2, 174, 1), (3, 241, 1), (4, 5, 1), (5, 5, 1), (6, 242, 1), (7, 243, 1), (8, 115, 1), (9, 244, 1), (10, 245, 1)] }
def i247 : TyI := { agg := true, size := 11, zero := [.v (.int .u64 0), .v (.int .u64 0), .v (.int .u32 0), .v (.int .u8 0), .v (.int .u8 0), .v (.int .u8 0), .v (.int .u8 0), .v .nilFunc, .v (.pointer none), .v (.int .i32 0), .v (.int .i32 0)], fields := [(0, 12, 1), (1, 12, 1), (2, 174, 1), (3, 241, 1), (4, 5, 1), (5, 5, 1), (6, 242, 1), (7, 243, 1), (8, 115, 1), (9, 244, 1), (10, 245, 1)] }
def tbl : TT := (.node (.node (.node (.node (.node (.node (.node (.node .leaf 1 i1 .leaf) 2 i2 (.node .leaf 3 i3 .leaf)) 4 i4 (.node (.node .leaf 5 i5 .leaf) 6 i6 (.node .leaf 7 i7 .leaf))) 8 i8 (.node (.node (.node .leaf 9 i9 .leaf) 10 i10 (.node .leaf 11 i11 .leaf)) 12 i12 (.node (.node .leaf 13 i13 .leaf) 14 i14 .leaf))) 15 i15 (.node (.node (.node (.node .leaf 16 i16 .leaf) 17 i17 (.node .leaf 18 i18 .leaf)) 19 i19 (.node (.node .leaf 21 i21 .leaf) 22 i22 (.node .leaf 23 i23 .leaf))) 24 i24 (.node (.node (.node .leaf 25 i25 .leaf) 26 i26 (.node .leaf 27 i27 .leaf)) 28 i28 (.node (.node .leaf 30 i30 .leaf) 31 i31 .leaf)))) 32 i32 (.node (.node (.node (.node (.node .leaf 33 i33 .leaf) 34 i34 (.node .leaf 35 i35 .leaf)) 36 i36 (.node (.node .leaf 37 i37 .leaf) 38 i38 (.node .leaf 39 i39 .leaf))) 40 i40 (.node (.node (.node .leaf 41 i41 .leaf) 42 i42 (.node .leaf 43 i43 .leaf)) 44 i44 (.node (.node .leaf 45 i45 .leaf) 46 i46 .leaf))) 47 i47 (.node (.node (.node (.node .leaf 48 i48 .leaf) 49 i49 (.node .leaf 50 i50 .leaf)) 51 i51 (.node (.node .leaf 52 i52 .leaf) 53 i53 (.node .leaf 54 i54 .leaf))) 55 i55 (.node (.node (.node .leaf 56 i56 .leaf) 57 i57 (.node .leaf 58 i58 .leaf)) 59 i59 (.node (.node .leaf 60 i60 .leaf) 61 i61 .leaf))))) 62 i62 (.node (.node (.node (.node (.node (.node .leaf 63 i63 .leaf) 64 i64 (.node .leaf 65 i65 .leaf)) 66 i66 (.node (.node .leaf 67 i67 .leaf) 68 i68 (.node .leaf 69 i69 .leaf))) 70 i70 (.node (.node (.node .leaf 71 i71 .leaf) 72 i72 (.node .leaf 76 i76 .leaf)) 77 i77 (.node (.node .leaf 78 i78 .leaf) 79 i79 .leaf))) 80 i80 (.node (.node (.node (.node .leaf 81 i81 .leaf) 82 i82 (.node .leaf 83 i83 .leaf)) 84 i84 (.node (.node .leaf 85 i85 .leaf) 86 i86 (.node .leaf 87 i87 .leaf))) 88 i88 (.node (.node (.node .leaf 89 i89 .leaf) 90 i90 (.node .leaf 91 i91 .leaf)) 92 i92 (.node (.node .leaf 93 i93 .leaf) 94 i94 .leaf)))) 95 i95 (.node (.node (.node (.node (.node .leaf 96 i96 .leaf) 97 i97 (.node .leaf 98 i98 .leaf)) 99 i99 (.node (.node .leaf 100 i100 .leaf) 101 i101 (.node .leaf 102 i102 .leaf))) 103 i103 (.node (.node (.node .leaf 104 i104 .leaf) 105 i105 (.node .leaf 106 i106 .leaf)) 107 i107 (.node (.node .leaf 108 i108 .leaf) 109 i109 .leaf))) 110 i110 (.node (.node (.node (.node .leaf 111 i111 .leaf) 112 i112 (.node .leaf 113 i113 .leaf)) 114 i114 (.node (.node .leaf 115 i115 .leaf) 116 i116 .leaf)) 117 i117 (.node (.node (.node .leaf 118 i118 .leaf) 119 i119 (.node .leaf 120 i120 .leaf)) 121 i121 (.node (.node .leaf 122 i122 .leaf) 123 i123 .leaf)))))) 124 i124 (.node (.node (.node (.node (.node (.node (.node .leaf 125 i125 .leaf) 126 i126 (.node .leaf 127 i127 .leaf)) 128 i128 (.node (.node .leaf 129 i129 .leaf) 130 i130 (.node .leaf 132 i132 .leaf))) 134 i134 (.node (.node (.node .leaf 135 i135 .leaf) 136 i136 (.node .leaf 137 i137 .leaf)) 138 i138 (.node (.node .leaf 139 i139 .leaf) 140 i140 .leaf))) 141 i141 (.node (.node (.node (.node .leaf 142 i142 .leaf) 143 i143 (.node .leaf 144 i144 .leaf)) 145 i145 (.node (.node .leaf 146 i146 .leaf) 147 i147 (.node .leaf 148 i148 .leaf))) 149 i149 (.node (.node (.node .leaf 150 i150 .leaf) 151 i151 (.node .leaf 152 i152 .leaf)) 153 i153 (.node (.node .leaf 154 i154 .leaf) 155 i155 .leaf)))) 157 i157 (.node (.node (.node (.node (.node .leaf 158 i158 .leaf) 159 i159 (.node .leaf 160 i160 .leaf)) 161 i161 (.node (.node .leaf 162 i162 .leaf) 163 i163 (.node .leaf 164 i164 .leaf))) 165 i165 (.node (.node (.node .leaf 166 i166 .leaf) 167 i167 (.node .leaf 168 i168 .leaf)) 169 i169 (.node (.node .leaf 170 i170 .leaf) 171 i171 .leaf))) 172 i172 (.node (.node (.node (.node .leaf 173 i173 .leaf) 174 i174 (.node .leaf 176 i176 .leaf)) 177 i177 (.node (.node .leaf 178 i178 .leaf) 179 i179 (.node .leaf 180 i180 .leaf))) 181 i181 (.node (.node (.node .leaf 182 i182 .leaf) 183 i183 (.node .leaf 184 i184 .leaf)) 185 i185 (.node (.node .leaf 186 i186 .leaf) 187 i187 .leaf))))) 188 i188 (.node (.node (.node (.node (.node (.node .leaf 189 i189 .leaf) 190 i190 (.node .leaf 191 i191 .leaf)) 192 i192 (.node (.node .leaf 193 i193 .leaf) 194 i194 (.node .leaf 195 i195 .leaf))) 196 i196 (.node (.node (.node .leaf 197 i197 .leaf) 198 i198 (.node .leaf 199 i199 .leaf)) 200 i200 (.node (.node .leaf 201 i201 .leaf) 202 i202 .leaf))) 203 i203 (.node (.node (.node (.node .leaf 204 i204 .leaf) 205 i205 (.node .leaf 206 i206 .leaf)) 207 i207 (.node (.node .leaf 208 i208 .leaf) 209 i209 (.node .leaf 210 i210 .leaf))) 211 i211 (.node (.node (.node .leaf 212 i212 .leaf) 213 i213 (.node .leaf 214 i214 .leaf)) 215 i215 (.node (.node .leaf 216 i216 .leaf) 217 i217 .leaf)))) 218 i218 (.node (.node (.node (.node (.node .leaf 219 i219 .leaf) 220 i220 (.node .leaf 221 i221 .leaf)) 222 i222 (.node (.node .leaf 224 i224 .leaf) 225 i225 (.node .leaf 226 i226 .leaf))) 227 i227 (.node (.node (.node .leaf 228 i228 .leaf) 229 i229 (.node .leaf 230 i230 .leaf)) 231 i231 (.node (.node .leaf 232 i232 .leaf) 233 i233 .leaf))) 234 i234 (.node (.node (.node (.node .leaf 235 i235 .leaf) 236 i236 (.node .leaf 237 i237 .leaf)) 238 i238 (.node (.node .leaf 239 i239 .leaf) 240 i240 .leaf)) 241 i241 (.node (.node (.node .leaf 242 i242 .leaf) 243 i243 (.node .leaf 244 i244 .leaf)) 245 i245 (.node (.node .leaf 246 i246 .leaf) 247 i247 .leaf)))))))
theorem htb : TblOk Tryz.prog tbl := tblOk_of (by kernel_rfl)
end Go.Proofs.YtkkenofdfpgplaaGreatDoor
