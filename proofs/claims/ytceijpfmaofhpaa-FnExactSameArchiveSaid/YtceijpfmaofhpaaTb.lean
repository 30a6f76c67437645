/- Part of a proof engine for functions of the given program: what an operation, a loop and a call compute, symbolically. No conditions. -/
import Derived.Test.YtceijpfmaofhpaaEngM
import Derived.Test.YtceijpfmaofhpaaProg
namespace Go.Proofs.Ytceijpfmaofhpaa
open Go Go.KA Go.Proofs
def i1 : TyI := { agg := false, size := 1, zero := [.v .nilFunc] }
def i2 : TyI := { agg := false, size := 1, zero := [.v (.int .i64 0)], ik := some .i64 }
def i3 : TyI := { agg := false, size := 1, zero := [.v (.int .i64 0)], ik := some .i64 }
def i4 : TyI := { agg := false, size := 1, zero := [.v (.bool false)], isB := true }
def i5 : TyI := { agg := false, size := 1, zero := [.v (.int .u8 0)], ik := some .u8 }
def i6 : TyI := { agg := false, size := 1, zero := [.v (.int .u8 0)], ik := some .u8 }
def i7 : TyI := { agg := true, size := 4, zero := [.v (.int .i64 0), .v (.int .i64 0), .v (.bool false), .v (.int .u8 0)], fields := [(0, 2, 1), (1, 3, 1), (2, 4, 1), (3, 6, 1)] }
def i8 : TyI := { agg := true, size := 4, zero := [.v (.int .i64 0), .v (.int .i64 0), .v (.bool false), .v (.int .u8 0)], fields := [(0, 2, 1), (1, 3, 1), (2, 4, 1), (3, 6, 1)] }
def i9 : TyI := { agg := false, size := 1, zero := [.v (.string .empty)], isS := true }
def i10 : TyI := { agg := false, size := 1, zero := [.v (.string .empty)], isS := true }
def i11 : TyI := { agg := false, size := 1, zero := [.v (.string .empty)], isS := true }
def i12 : TyI := { agg := false, size := 1, zero := [.v (.int .u64 0)], ik := some .u64 }
def i13 : TyI := { agg := true, size := 2, zero := [.v (.string .empty), .v (.int .u64 0)], fields := [(0, 9, 1), (1, 12, 1)] }
def i14 : TyI := { agg := true, size := 2, zero := [.v (.string .empty), .v (.int .u64 0)], fields := [(0, 9, 1), (1, 12, 1)] }
def i18 : TyI := { agg := true, size := 1, zero := [.v (.pointer none)], fields := [(0, 17, 1)] }
def i19 : TyI := { agg := true, size := 1, zero := [.v (.pointer none)], fields := [(0, 17, 1)] }
def i21 : TyI := { agg := false, size := 1, zero := [.v (.int .i32 0)], ik := some .i32 }
def i22 : TyI := { agg := false, size := 1, zero := [.s 4 1], elem := some (4, 1, 1) }
def i24 : TyI := { agg := false, size := 1, zero := [.v .nilFunc] }
def i25 : TyI := { agg := false, size := 1, zero := [.v .nilFunc] }
def i26 : TyI := { agg := false, size := 1, zero := [.v .nilFunc] }
def i27 : TyI := { agg := false, size := 1, zero := [.v .nilFunc] }
def i28 : TyI := { agg := true, size := 2, zero := [.v (.int .i64 0), .v (.int .i64 0)], fields := [(0, 2, 1), (1, 2, 1)], eq2 := true }
def i29 : TyI := { agg := true, size := 2, zero := [.v (.int .i64 0), .v (.int .i64 0)], fields := [(0, 2, 1), (1, 2, 1)], eq2 := true }
def i30 : TyI := { agg := true, size := 2, zero := [.v (.int .i64 0), .v (.int .i64 0)], fields := [(0, 2, 1), (1, 2, 1)], eq2 := true }
def i31 : TyI := { agg := false, size := 1, zero := [.s 114 3], elem := some (114, 3, 40) }
def i32 : TyI := { agg := false, size := 1, zero := [.s 132 8], elem := some (132, 8, 96) }
def i33 : TyI := { agg := true, size := 4, zero := [.v (.int .i64 0), .v (.int .i64 0), .s 114 3, .s 132 8], fields := [(0, 30, 2), (2, 31, 1), (3, 32, 1)] }
def i34 : TyI := { agg := true, size := 4, zero := [.v (.int .i64 0), .v (.int .i64 0), .s 114 3, .s 132 8], fields := [(0, 30, 2), (2, 31, 1), (3, 32, 1)] }
def i36 : TyI := { agg := false, size := 1, zero := [.v .nilFunc] }
def i37 : TyI := { agg := false, size := 1, zero := [.v .nilFunc] }
def i38 : TyI := { agg := false, size := 1, zero := [.v .nilFunc] }
def i39 : TyI := { agg := false, size := 1, zero := [.v .nilFunc] }
def i40 : TyI := { agg := false, size := 1, zero := [.v .nilFunc] }
def i41 : TyI := { agg := false, size := 1, zero := [.s 204 3], elem := some (204, 3, 40) }
def i42 : TyI := { agg := false, size := 1, zero := [.s 214 8], elem := some (214, 8, 96) }
def i43 : TyI := { agg := true, size := 4, zero := [.v (.int .i64 0), .v (.int .i64 0), .s 204 3, .s 214 8], fields := [(0, 29, 2), (2, 41, 1), (3, 42, 1)] }
def i44 : TyI := { agg := true, size := 4, zero := [.v (.int .i64 0), .v (.int .i64 0), .s 204 3, .s 214 8], fields := [(0, 29, 2), (2, 41, 1), (3, 42, 1)] }
def i45 : TyI := { agg := false, size := 1, zero := [.v .nilFunc] }
def i46 : TyI := { agg := false, size := 1, zero := [.v .nilFunc] }
def i47 : TyI := { agg := false, size := 1, zero := [.v .nilFunc] }
def i48 : TyI := { agg := false, size := 1, zero := [.s 2 1], elem := some (2, 1, 8) }
def i49 : TyI := { agg := false, size := 1, zero := [.s 48 1], elem := some (48, 1, 24) }
def i50 : TyI := { agg := true, size := 2, zero := [.s 2 1, .s 48 1], fields := [(0, 48, 1), (1, 49, 1)] }
def i51 : TyI := { agg := true, size := 2, zero := [.s 2 1, .s 48 1], fields := [(0, 48, 1), (1, 49, 1)] }
def i52 : TyI := { agg := false, size := 1, zero := [.s 221 7], elem := some (221, 7, 72) }
def i53 : TyI := { agg := true, size := 2, zero := [.v (.int .i64 0), .s 221 7], fields := [(0, 2, 1), (1, 52, 1)] }
def i54 : TyI := { agg := true, size := 2, zero := [.v (.int .i64 0), .s 221 7], fields := [(0, 2, 1), (1, 52, 1)] }
def i55 : TyI := { agg := false, size := 1, zero := [.v .nilFunc] }
def i56 : TyI := { agg := false, size := 1, zero := [.v .nilFunc] }
def i57 : TyI := { agg := true, size := 2, zero := [.s 2 1, .s 2 1], fields := [(0, 48, 1), (1, 48, 1)] }
def i58 : TyI := { agg := true, size := 2, zero := [.s 2 1, .s 2 1], fields := [(0, 48, 1), (1, 48, 1)] }
def i60 : TyI := { agg := false, size := 1, zero := [.v .nilFunc] }
def i61 : TyI := { agg := true, size := 2, zero := [.s 2 1, .s 48 1], fields := [(0, 48, 1), (1, 49, 1)] }
def i62 : TyI := { agg := false, size := 1, zero := [.v .nilFunc] }
def i63 : TyI := { agg := false, size := 1, zero := [.s 226 7], elem := some (226, 7, 72) }
def i64 : TyI := { agg := true, size := 2, zero := [.v (.int .i64 0), .s 226 7], fields := [(0, 2, 1), (1, 63, 1)] }
def i65 : TyI := { agg := true, size := 2, zero := [.v (.int .i64 0), .s 226 7], fields := [(0, 2, 1), (1, 63, 1)] }
def i66 : TyI := { agg := false, size := 1, zero := [.v .nilFunc] }
def i67 : TyI := { agg := false, size := 1, zero := [.v .nilFunc] }
def i68 : TyI := { agg := false, size := 1, zero := [.v .nilFunc] }
def i69 : TyI := { agg := false, size := 1, zero := [.v .nilFunc] }
def i70 : TyI := { agg := false, size := 1, zero := [.v .nilFunc] }
def i71 : TyI := { agg := false, size := 1, zero := [.v .nilFunc] }
def i72 : TyI := { agg := false, size := 1, zero := [.v .nilFunc] }
def i73 : TyI := { agg := false, size := 1, zero := [.v .nilFunc] }
def i74 : TyI := { agg := false, size := 1, zero := [.s 76 3], elem := some (76, 3, 40) }
def i75 : TyI := { agg := true, size := 3, zero := [.v (.int .i64 0), .v (.int .i64 0), .s 76 3], fields := [(0, 2, 1), (1, 2, 1), (2, 74, 1)] }
def i76 : TyI := { agg := true, size := 3, zero := [.v (.int .i64 0), .v (.int .i64 0), .s 76 3], fields := [(0, 2, 1), (1, 2, 1), (2, 74, 1)] }
def i77 : TyI := { agg := false, size := 1, zero := [.s 79 6], elem := some (79, 6, 80) }
def i78 : TyI := { agg := true, size := 6, zero := [.v (.int .i64 0), .v (.int .i64 0), .v (.int .i64 0), .v (.int .i64 0), .s 76 3, .s 79 6], fields := [(0, 2, 1), (1, 2, 1), (2, 76, 3), (5, 77, 1)] }
def i79 : TyI := { agg := true, size := 6, zero := [.v (.int .i64 0), .v (.int .i64 0), .v (.int .i64 0), .v (.int .i64 0), .s 76 3, .s 79 6], fields := [(0, 2, 1), (1, 2, 1), (2, 76, 3), (5, 77, 1)] }
def i80 : TyI := { agg := false, size := 1, zero := [.v .nilFunc] }
def i81 : TyI := { agg := false, size := 1, zero := [.v .nilFunc] }
def i82 : TyI := { agg := false, size := 1, zero := [.s 84 3], elem := some (84, 3, 40) }
def i83 : TyI := { agg := true, size := 3, zero := [.v (.int .i64 0), .v (.int .i64 0), .s 84 3], fields := [(0, 2, 1), (1, 2, 1), (2, 82, 1)] }
def i84 : TyI := { agg := true, size := 3, zero := [.v (.int .i64 0), .v (.int .i64 0), .s 84 3], fields := [(0, 2, 1), (1, 2, 1), (2, 82, 1)] }
def i85 : TyI := { agg := false, size := 1, zero := [.s 87 6], elem := some (87, 6, 80) }
def i86 : TyI := { agg := true, size := 6, zero := [.v (.int .i64 0), .v (.int .i64 0), .v (.int .i64 0), .v (.int .i64 0), .s 84 3, .s 87 6], fields := [(0, 2, 1), (1, 2, 1), (2, 84, 3), (5, 85, 1)] }
def i87 : TyI := { agg := true, size := 6, zero := [.v (.int .i64 0), .v (.int .i64 0), .v (.int .i64 0), .v (.int .i64 0), .s 84 3, .s 87 6], fields := [(0, 2, 1), (1, 2, 1), (2, 84, 3), (5, 85, 1)] }
def i88 : TyI := { agg := false, size := 1, zero := [.v .nilFunc] }
def i89 : TyI := { agg := false, size := 1, zero := [.v .nilFunc] }
def i90 : TyI := { agg := false, size := 1, zero := [.v .nilFunc] }
def i91 : TyI := { agg := false, size := 1, zero := [.v .nilFunc] }
def i92 : TyI := { agg := false, size := 1, zero := [.s 5 1], elem := some (5, 1, 1) }
def i93 : TyI := { agg := false, size := 1, zero := [.v .nilFunc] }
def i95 : TyI := { agg := false, size := 1, zero := [.v .nilFunc] }
def i96 : TyI := { agg := false, size := 1, zero := [.v .nilFunc] }
def i97 : TyI := { agg := false, size := 1, zero := [.s 22 1], elem := some (22, 1, 24) }
def i98 : TyI := { agg := false, size := 1, zero := [.s 97 1], elem := some (97, 1, 24) }
def i99 : TyI := { agg := true, size := 5, zero := [.v (.int .i64 0), .v (.int .i64 0), .v (.int .i64 0), .s 22 1, .s 97 1], fields := [(0, 30, 2), (2, 2, 1), (3, 97, 1), (4, 98, 1)] }
def i100 : TyI := { agg := true, size := 5, zero := [.v (.int .i64 0), .v (.int .i64 0), .v (.int .i64 0), .s 22 1, .s 97 1], fields := [(0, 30, 2), (2, 2, 1), (3, 97, 1), (4, 98, 1)] }
def i101 : TyI := { agg := false, size := 1, zero := [.v .nilFunc] }
def i103 : TyI := { agg := false, size := 1, zero := [.v .nilFunc] }
def i105 : TyI := { agg := false, size := 1, zero := [.v .nilFunc] }
def i106 : TyI := { agg := false, size := 1, zero := [.v .nilFunc] }
def i107 : TyI := { agg := false, size := 1, zero := [.v .nilFunc] }
def i109 : TyI := { agg := false, size := 1, zero := [.v .nilFunc] }
def i110 : TyI := { agg := false, size := 1, zero := [.v .nilFunc] }
def i111 : TyI := { agg := false, size := 1, zero := [.v .nilFunc] }
def i112 : TyI := { agg := false, size := 1, zero := [.s 130 7], elem := some (130, 7, 88) }
def i113 : TyI := { agg := true, size := 3, zero := [.v (.bool false), .s 130 7, .v (.int .i64 0)], fields := [(0, 4, 1), (1, 112, 1), (2, 2, 1)] }
def i114 : TyI := { agg := true, size := 3, zero := [.v (.bool false), .s 130 7, .v (.int .i64 0)], fields := [(0, 4, 1), (1, 112, 1), (2, 2, 1)] }
def i115 : TyI := { agg := false, size := 1, zero := [.v .nilFunc] }
def i116 : TyI := { agg := false, size := 1, zero := [.v .nilFunc] }
def i117 : TyI := { agg := false, size := 1, zero := [.v .nilFunc] }
def i118 : TyI := { agg := false, size := 1, zero := [.v .nilFunc] }
def i119 : TyI := { agg := false, size := 1, zero := [.v .nilFunc] }
def i120 : TyI := { agg := false, size := 1, zero := [.v .nilFunc] }
def i121 : TyI := { agg := false, size := 1, zero := [.v .nilFunc] }
def i123 : TyI := { agg := false, size := 1, zero := [.v .nilFunc] }
def i124 : TyI := { agg := false, size := 1, zero := [.s 277 9], elem := some (277, 9, 120) }
def i125 : TyI := { agg := true, size := 3, zero := [.v (.int .i64 0), .v (.int .i64 0), .s 277 9], fields := [(0, 30, 2), (2, 124, 1)] }
def i126 : TyI := { agg := true, size := 3, zero := [.v (.int .i64 0), .v (.int .i64 0), .s 277 9], fields := [(0, 30, 2), (2, 124, 1)] }
def i127 : TyI := { agg := true, size := 5, zero := [.v (.int .i64 0), .s 2 1, .v (.int .i64 0), .v (.int .i64 0), .s 277 9], fields := [(0, 2, 1), (1, 48, 1), (2, 126, 3)] }
def i128 : TyI := { agg := true, size := 5, zero := [.v (.int .i64 0), .s 2 1, .v (.int .i64 0), .v (.int .i64 0), .s 277 9], fields := [(0, 2, 1), (1, 48, 1), (2, 126, 3)] }
def i129 : TyI := { agg := true, size := 7, zero := [.v (.bool false), .v (.int .i64 0), .v (.int .i64 0), .s 2 1, .v (.int .i64 0), .v (.int .i64 0), .s 277 9], fields := [(0, 4, 1), (1, 2, 1), (2, 128, 5)] }
def i130 : TyI := { agg := true, size := 7, zero := [.v (.bool false), .v (.int .i64 0), .v (.int .i64 0), .s 2 1, .v (.int .i64 0), .v (.int .i64 0), .s 277 9], fields := [(0, 4, 1), (1, 2, 1), (2, 128, 5)] }
def i131 : TyI := { agg := true, size := 8, zero := [.v (.int .i64 0), .v (.bool false), .v (.int .i64 0), .v (.int .i64 0), .s 2 1, .v (.int .i64 0), .v (.int .i64 0), .s 277 9], fields := [(0, 2, 1), (1, 130, 7)] }
def i132 : TyI := { agg := true, size := 8, zero := [.v (.int .i64 0), .v (.bool false), .v (.int .i64 0), .v (.int .i64 0), .s 2 1, .v (.int .i64 0), .v (.int .i64 0), .s 277 9], fields := [(0, 2, 1), (1, 130, 7)] }
def i133 : TyI := { agg := false, size := 1, zero := [.v .nilFunc] }
def i135 : TyI := { agg := false, size := 1, zero := [.v .nilFunc] }
def i136 : TyI := { agg := false, size := 1, zero := [.v .nilFunc] }
def i137 : TyI := { agg := false, size := 1, zero := [.v .nilFunc] }
def i138 : TyI := { agg := false, size := 1, zero := [.v .nilFunc] }
def i139 : TyI := { agg := false, size := 1, zero := [.v .nilFunc] }
def i140 : TyI := { agg := false, size := 1, zero := [.v .nilFunc] }
def i141 : TyI := { agg := false, size := 1, zero := [.v .nilFunc] }
def i142 : TyI := { agg := false, size := 1, zero := [.v .nilFunc] }
def i143 : TyI := { agg := false, size := 1, zero := [.v .nilFunc] }
def i144 : TyI := { agg := false, size := 1, zero := [.v .nilFunc] }
def i145 : TyI := { agg := false, size := 1, zero := [.v .nilFunc] }
def i146 : TyI := { agg := false, size := 1, zero := [.v .nilFunc] }
def i148 : TyI := { agg := false, size := 1, zero := [.v .nilFunc] }
def i150 : TyI := { agg := false, size := 1, zero := [.v .nilFunc] }
def i152 : TyI := { agg := false, size := 1, zero := [.v .nilFunc] }
def i153 : TyI := { agg := false, size := 1, zero := [.v .nilFunc] }
def i154 : TyI := { agg := false, size := 1, zero := [.v .nilFunc] }
def i155 : TyI := { agg := false, size := 1, zero := [.v .nilFunc] }
def i156 : TyI := { agg := false, size := 1, zero := [.v .nilFunc] }
def i157 : TyI := { agg := false, size := 1, zero := [.v .nilFunc] }
def i158 : TyI := { agg := false, size := 1, zero := [.v .nilFunc] }
def i159 : TyI := { agg := false, size := 1, zero := [.v .nilFunc] }
def i160 : TyI := { agg := false, size := 1, zero := [.v .nilFunc] }
def i162 : TyI := { agg := false, size := 1, zero := [.v .nilFunc] }
def i163 : TyI := { agg := false, size := 1, zero := [.v .nilFunc] }
def i164 : TyI := { agg := false, size := 1, zero := [.v .nilFunc] }
def i165 : TyI := { agg := false, size := 1, zero := [.v .nilFunc] }
def i166 : TyI := { agg := false, size := 1, zero := [.v .nilFunc] }
def i167 : TyI := { agg := false, size := 1, zero := [.v .nilFunc] }
def i168 : TyI := { agg := false, size := 1, zero := [.v .nilFunc] }
def i169 : TyI := { agg := false, size := 1, zero := [.v .nilFunc] }
def i170 : TyI := { agg := false, size := 1, zero := [.v .nilFunc] }
def i171 : TyI := { agg := false, size := 1, zero := [.v .nilFunc] }
def i173 : TyI := { agg := false, size := 1, zero := [.v .nilFunc] }
def i174 : TyI := { agg := false, size := 1, zero := [.v .nilFunc] }
def i175 : TyI := { agg := false, size := 1, zero := [.v .nilFunc] }
def i176 : TyI := { agg := false, size := 1, zero := [.v .nilFunc] }
def i177 : TyI := { agg := false, size := 1, zero := [.v .nilFunc] }
def i178 : TyI := { agg := false, size := 1, zero := [.v .nilFunc] }
def i179 : TyI := { agg := false, size := 1, zero := [.v .nilFunc] }
def i180 : TyI := { agg := false, size := 1, zero := [.v .nilFunc] }
def i181 : TyI := { agg := false, size := 1, zero := [.v .nilFunc] }
def i183 : TyI := { agg := false, size := 1, zero := [.v .nilFunc] }
def i184 : TyI := { agg := false, size := 1, zero := [.v .nilFunc] }
def i185 : TyI := { agg := false, size := 1, zero := [.v .nilFunc] }
def i186 : TyI := { agg := false, size := 1, zero := [.v .nilFunc] }
def i187 : TyI := { agg := false, size := 1, zero := [.v .nilFunc] }
def i189 : TyI := { agg := false, size := 1, zero := [.v .nilFunc] }
def i190 : TyI := { agg := false, size := 1, zero := [.v .nilFunc] }
def i191 : TyI := { agg := false, size := 1, zero := [.v (.int .u64 0)], ik := some .u64 }
def i192 : TyI := { agg := false, size := 1, zero := [.v .nilFunc] }
def i193 : TyI := { agg := false, size := 1, zero := [.v .nilFunc] }
def i194 : TyI := { agg := false, size := 1, zero := [.v .nilFunc] }
def i195 : TyI := { agg := false, size := 1, zero := [.v .nilFunc] }
def i196 : TyI := { agg := false, size := 1, zero := [.v .nilFunc] }
def i197 : TyI := { agg := false, size := 1, zero := [.v .nilFunc] }
def i198 : TyI := { agg := false, size := 1, zero := [.v .nilFunc] }
def i199 : TyI := { agg := false, size := 1, zero := [.v .nilFunc] }
def i200 : TyI := { agg := false, size := 1, zero := [.v .nilFunc] }
def i201 : TyI := { agg := false, size := 1, zero := [.v .nilFunc] }
def i202 : TyI := { agg := false, size := 1, zero := [.s 212 7], elem := some (212, 7, 88) }
def i203 : TyI := { agg := true, size := 3, zero := [.v (.bool false), .s 212 7, .v (.int .i64 0)], fields := [(0, 4, 1), (1, 202, 1), (2, 2, 1)] }
def i204 : TyI := { agg := true, size := 3, zero := [.v (.bool false), .s 212 7, .v (.int .i64 0)], fields := [(0, 4, 1), (1, 202, 1), (2, 2, 1)] }
def i205 : TyI := { agg := false, size := 1, zero := [.v .nilFunc] }
def i206 : TyI := { agg := false, size := 1, zero := [.s 318 9], elem := some (318, 9, 120) }
def i207 : TyI := { agg := true, size := 3, zero := [.v (.int .i64 0), .v (.int .i64 0), .s 318 9], fields := [(0, 29, 2), (2, 206, 1)] }
def i208 : TyI := { agg := true, size := 3, zero := [.v (.int .i64 0), .v (.int .i64 0), .s 318 9], fields := [(0, 29, 2), (2, 206, 1)] }
def i209 : TyI := { agg := true, size := 5, zero := [.v (.int .i64 0), .s 2 1, .v (.int .i64 0), .v (.int .i64 0), .s 318 9], fields := [(0, 2, 1), (1, 48, 1), (2, 208, 3)] }
def i210 : TyI := { agg := true, size := 5, zero := [.v (.int .i64 0), .s 2 1, .v (.int .i64 0), .v (.int .i64 0), .s 318 9], fields := [(0, 2, 1), (1, 48, 1), (2, 208, 3)] }
def i211 : TyI := { agg := true, size := 7, zero := [.v (.bool false), .v (.int .i64 0), .v (.int .i64 0), .s 2 1, .v (.int .i64 0), .v (.int .i64 0), .s 318 9], fields := [(0, 4, 1), (1, 2, 1), (2, 210, 5)] }
def i212 : TyI := { agg := true, size := 7, zero := [.v (.bool false), .v (.int .i64 0), .v (.int .i64 0), .s 2 1, .v (.int .i64 0), .v (.int .i64 0), .s 318 9], fields := [(0, 4, 1), (1, 2, 1), (2, 210, 5)] }
def i213 : TyI := { agg := true, size := 8, zero := [.v (.int .i64 0), .v (.bool false), .v (.int .i64 0), .v (.int .i64 0), .s 2 1, .v (.int .i64 0), .v (.int .i64 0), .s 318 9], fields := [(0, 2, 1), (1, 212, 7)] }
def i214 : TyI := { agg := true, size := 8, zero := [.v (.int .i64 0), .v (.bool false), .v (.int .i64 0), .v (.int .i64 0), .s 2 1, .v (.int .i64 0), .v (.int .i64 0), .s 318 9], fields := [(0, 2, 1), (1, 212, 7)] }
def i215 : TyI := { agg := false, size := 1, zero := [.v .nilFunc] }
def i216 : TyI := { agg := false, size := 1, zero := [.v .nilFunc] }
def i217 : TyI := { agg := false, size := 1, zero := [.v .nilFunc] }
def i218 : TyI := { agg := false, size := 1, zero := [.v .nilFunc] }
def i219 : TyI := { agg := false, size := 1, zero := [.v .nilFunc] }
def i220 : TyI := { agg := true, size := 7, zero := [.v (.int .i64 0), .v (.int .i64 0), .v (.int .i64 0), .v (.int .i64 0), .s 76 3, .v (.int .i64 0), .v (.int .i64 0)], fields := [(0, 2, 1), (1, 2, 1), (2, 76, 3), (5, 2, 1), (6, 2, 1)] }
def i221 : TyI := { agg := true, size := 7, zero := [.v (.int .i64 0), .v (.int .i64 0), .v (.int .i64 0), .v (.int .i64 0), .s 76 3, .v (.int .i64 0), .v (.int .i64 0)], fields := [(0, 2, 1), (1, 2, 1), (2, 76, 3), (5, 2, 1), (6, 2, 1)] }
def i222 : TyI := { agg := false, size := 1, zero := [.v .nilFunc] }
def i223 : TyI := { agg := false, size := 1, zero := [.v .nilFunc] }
def i225 : TyI := { agg := true, size := 7, zero := [.v (.int .i64 0), .v (.int .i64 0), .v (.int .i64 0), .v (.int .i64 0), .s 84 3, .v (.int .i64 0), .v (.int .i64 0)], fields := [(0, 2, 1), (1, 2, 1), (2, 84, 3), (5, 2, 1), (6, 2, 1)] }
def i226 : TyI := { agg := true, size := 7, zero := [.v (.int .i64 0), .v (.int .i64 0), .v (.int .i64 0), .v (.int .i64 0), .s 84 3, .v (.int .i64 0), .v (.int .i64 0)], fields := [(0, 2, 1), (1, 2, 1), (2, 84, 3), (5, 2, 1), (6, 2, 1)] }
def i227 : TyI := { agg := true, size := 7, zero := [.v (.pointer none), .v (.int .i64 0), .s 2 1, .s 2 1, .v (.int .i64 0), .v (.int .i64 0), .v (.int .i64 0)], fields := [(0, 147, 1), (1, 2, 1), (2, 58, 2), (4, 2, 1), (5, 2, 1), (6, 2, 1)] }
def i228 : TyI := { agg := true, size := 7, zero := [.v (.pointer none), .v (.int .i64 0), .s 2 1, .s 2 1, .v (.int .i64 0), .v (.int .i64 0), .v (.int .i64 0)], fields := [(0, 147, 1), (1, 2, 1), (2, 58, 2), (4, 2, 1), (5, 2, 1), (6, 2, 1)] }
def i229 : TyI := { agg := false, size := 1, zero := [.v .nilFunc] }
def i230 : TyI := { agg := false, size := 1, zero := [.v .nilFunc] }
def i231 : TyI := { agg := false, size := 1, zero := [.v .nilFunc] }
def i232 : TyI := { agg := false, size := 1, zero := [.v .nilFunc] }
def i233 : TyI := { agg := false, size := 1, zero := [.v .nilFunc] }
def i234 : TyI := { agg := true, size := 7, zero := [.s 2 1, .s 48 1, .v (.int .i64 0), .s 2 1, .s 2 1, .v (.int .i64 0), .v (.int .i64 0)], fields := [(0, 61, 2), (2, 2, 1), (3, 58, 2), (5, 2, 1), (6, 2, 1)] }
def i235 : TyI := { agg := true, size := 7, zero := [.s 2 1, .s 48 1, .v (.int .i64 0), .s 2 1, .s 2 1, .v (.int .i64 0), .v (.int .i64 0)], fields := [(0, 61, 2), (2, 2, 1), (3, 58, 2), (5, 2, 1), (6, 2, 1)] }
def i236 : TyI := { agg := false, size := 1, zero := [.v .nilFunc] }
def i237 : TyI := { agg := false, size := 1, zero := [.v .nilFunc] }
def i238 : TyI := { agg := false, size := 1, zero := [.v .nilFunc] }
def i239 : TyI := { agg := false, size := 1, zero := [.v .nilFunc] }
def i240 : TyI := { agg := false, size := 1, zero := [.v .nilFunc] }
def i241 : TyI := { agg := false, size := 1, zero := [.v .nilFunc] }
def i242 : TyI := { agg := false, size := 1, zero := [.v .nilFunc] }
def i243 : TyI := { agg := false, size := 1, zero := [.v .nilFunc] }
def i244 : TyI := { agg := false, size := 1, zero := [.v .nilFunc] }
def i246 : TyI := { agg := false, size := 1, zero := [.v .nilFunc] }
def i247 : TyI := { agg := false, size := 1, zero := [.v .nilFunc] }
def i248 : TyI := { agg := false, size := 1, zero := [.v (.int .u64 0)], ik := some .u64 }
def i249 : TyI := { agg := true, size := 3, zero := [.s 5 1, .v (.int .i64 0), .v (.int .u64 0)], fields := [(0, 92, 1), (1, 3, 1), (2, 248, 1)] }
def i250 : TyI := { agg := true, size := 3, zero := [.s 5 1, .v (.int .i64 0), .v (.int .u64 0)], fields := [(0, 92, 1), (1, 3, 1), (2, 248, 1)] }
def i252 : TyI := { agg := true, size := 4, zero := [.v (.pointer none), .v (.int .i64 0), .v (.int .i64 0), .v (.int .i64 0)], fields := [(0, 182, 1), (1, 30, 2), (3, 2, 1)] }
def i253 : TyI := { agg := true, size := 4, zero := [.v (.pointer none), .v (.int .i64 0), .v (.int .i64 0), .v (.int .i64 0)], fields := [(0, 182, 1), (1, 30, 2), (3, 2, 1)] }
def i254 : TyI := { agg := false, size := 1, zero := [.v .nilFunc] }
def i255 : TyI := { agg := false, size := 1, zero := [.v .nilFunc] }
def i256 : TyI := { agg := false, size := 1, zero := [.v .nilFunc] }
def i257 : TyI := { agg := false, size := 1, zero := [.v .nilFunc] }
def i258 : TyI := { agg := false, size := 1, zero := [.v .nilFunc] }
def i259 : TyI := { agg := false, size := 1, zero := [.v .nilFunc] }
def i260 : TyI := { agg := false, size := 1, zero := [.v .nilFunc] }
def i261 : TyI := { agg := false, size := 1, zero := [.v .nilFunc] }
def i262 : TyI := { agg := false, size := 1, zero := [.v .nilFunc] }
def i263 : TyI := { agg := false, size := 1, zero := [.v .nilFunc] }
def i264 : TyI := { agg := false, size := 1, zero := [.v .nilFunc] }
def i265 : TyI := { agg := false, size := 1, zero := [.v .nilFunc] }
def i267 : TyI := { agg := false, size := 1, zero := [.v .nilFunc] }
def i268 : TyI := { agg := false, size := 1, zero := [.v .nilFunc] }
def i269 : TyI := { agg := false, size := 1, zero := [.v .nilFunc] }
def i270 : TyI := { agg := false, size := 1, zero := [.v .nilFunc] }
def i271 : TyI := { agg := false, size := 1, zero := [.v .nilFunc] }
def i272 : TyI := { agg := false, size := 1, zero := [.v .nilFunc] }
def i273 : TyI := { agg := false, size := 1, zero := [.v .nilFunc] }
def i274 : TyI := { agg := false, size := 1, zero := [.v .nilFunc] }
def i275 : TyI := { agg := false, size := 1, zero := [.s 295 5], elem := some (295, 5, 88) }
def i276 : TyI := { agg := true, size := 9, zero := [.v (.int .i64 0), .v (.int .i64 0), .s 84 3, .v (.int .i64 0), .v (.int .i64 0), .s 84 3, .v (.int .i64 0), .v (.int .i64 0), .s 295 5], fields := [(0, 84, 3), (3, 84, 3), (6, 2, 1), (7, 2, 1), (8, 275, 1)] }
def i277 : TyI := { agg := true, size := 9, zero := [.v (.int .i64 0), .v (.int .i64 0), .s 84 3, .v (.int .i64 0), .v (.int .i64 0), .s 84 3, .v (.int .i64 0), .v (.int .i64 0), .s 295 5], fields := [(0, 84, 3), (3, 84, 3), (6, 2, 1), (7, 2, 1), (8, 275, 1)] }
def i278 : TyI := { agg := false, size := 1, zero := [.v .nilFunc] }
def i279 : TyI := { agg := false, size := 1, zero := [.v .nilFunc] }
def i280 : TyI := { agg := false, size := 1, zero := [.v .nilFunc] }
def i282 : TyI := { agg := false, size := 1, zero := [.v .nilFunc] }
def i283 : TyI := { agg := false, size := 1, zero := [.v .nilFunc] }
def i284 : TyI := { agg := false, size := 1, zero := [.v .nilFunc] }
def i285 : TyI := { agg := false, size := 1, zero := [.v .nilFunc] }
def i286 : TyI := { agg := false, size := 1, zero := [.v .nilFunc] }
def i287 : TyI := { agg := false, size := 1, zero := [.v .nilFunc] }
def i288 : TyI := { agg := false, size := 1, zero := [.v .nilFunc] }
def i289 : TyI := { agg := false, size := 1, zero := [.v .nilFunc] }
def i290 : TyI := { agg := false, size := 1, zero := [.v .nilFunc] }
def i291 : TyI := { agg := false, size := 1, zero := [.v .nilFunc] }
def i292 : TyI := { agg := false, size := 1, zero := [.v .nilFunc] }
def i293 : TyI := { agg := false, size := 1, zero := [.v .nilFunc] }
def i294 : TyI := { agg := true, size := 5, zero := [.v (.int .i64 0), .v (.bool false), .s 2 1, .s 84 3, .s 84 3], fields := [(0, 2, 1), (1, 4, 1), (2, 48, 1), (3, 82, 1), (4, 82, 1)] }
def i295 : TyI := { agg := true, size := 5, zero := [.v (.int .i64 0), .v (.bool false), .s 2 1, .s 84 3, .s 84 3], fields := [(0, 2, 1), (1, 4, 1), (2, 48, 1), (3, 82, 1), (4, 82, 1)] }
def i296 : TyI := { agg := false, size := 1, zero := [.v .nilFunc] }
def i297 : TyI := { agg := false, size := 1, zero := [.v .nilFunc] }
def i299 : TyI := { agg := false, size := 1, zero := [.v .nilFunc] }
def i300 : TyI := { agg := false, size := 1, zero := [.v .nilFunc] }
def i301 : TyI := { agg := false, size := 1, zero := [.v .nilFunc] }
def i303 : TyI := { agg := true, size := 4, zero := [.v (.pointer none), .v (.int .i64 0), .v (.int .i64 0), .v (.int .i64 0)], fields := [(0, 182, 1), (1, 30, 2), (3, 2, 1)] }
def i304 : TyI := { agg := false, size := 1, zero := [.v .nilFunc] }
def i305 : TyI := { agg := false, size := 1, zero := [.v .nilFunc] }
def i306 : TyI := { agg := false, size := 1, zero := [.v .nilFunc] }
def i307 : TyI := { agg := false, size := 1, zero := [.v .nilFunc] }
def i308 : TyI := { agg := false, size := 1, zero := [.v .nilFunc] }
def i309 : TyI := { agg := false, size := 1, zero := [.v .nilFunc] }
def i310 : TyI := { agg := false, size := 1, zero := [.v .nilFunc] }
def i311 : TyI := { agg := false, size := 1, zero := [.v .nilFunc] }
def i312 : TyI := { agg := false, size := 1, zero := [.v .nilFunc] }
def i313 : TyI := { agg := false, size := 1, zero := [.v .nilFunc] }
def i314 : TyI := { agg := false, size := 1, zero := [.v .nilFunc] }
def i315 : TyI := { agg := false, size := 1, zero := [.v .nilFunc] }
def i316 : TyI := { agg := false, size := 1, zero := [.s 324 5], elem := some (324, 5, 88) }
def i317 : TyI := { agg := true, size := 9, zero := [.v (.int .i64 0), .v (.int .i64 0), .s 76 3, .v (.int .i64 0), .v (.int .i64 0), .s 76 3, .v (.int .i64 0), .v (.int .i64 0), .s 324 5], fields := [(0, 76, 3), (3, 76, 3), (6, 2, 1), (7, 2, 1), (8, 316, 1)] }
def i318 : TyI := { agg := true, size := 9, zero := [.v (.int .i64 0), .v (.int .i64 0), .s 76 3, .v (.int .i64 0), .v (.int .i64 0), .s 76 3, .v (.int .i64 0), .v (.int .i64 0), .s 324 5], fields := [(0, 76, 3), (3, 76, 3), (6, 2, 1), (7, 2, 1), (8, 316, 1)] }
def i319 : TyI := { agg := false, size := 1, zero := [.v .nilFunc] }
def i320 : TyI := { agg := false, size := 1, zero := [.v .nilFunc] }
def i321 : TyI := { agg := false, size := 1, zero := [.v .nilFunc] }
def i322 : TyI := { agg := false, size := 1, zero := [.v .nilFunc] }
def i323 : TyI := { agg := true, size := 5, zero := [.v (.int .i64 0), .v (.bool false), .s 2 1, .s 76 3, .s 76 3], fields := [(0, 2, 1), (1, 4, 1), (2, 48, 1), (3, 74, 1), (4, 74, 1)] }
def i324 : TyI := { agg := true, size := 5, zero := [.v (.int .i64 0), .v (.bool false), .s 2 1, .s 76 3, .s 76 3], fields := [(0, 2, 1), (1, 4, 1), (2, 48, 1), (3, 74, 1), (4, 74, 1)] }
def i325 : TyI := { agg := false, size := 1, zero := [.v .nilFunc] }
def i326 : TyI := { agg := false, size := 1, zero := [.v .nilFunc] }
def i327 : TyI := { agg := true, size := 4, zero := [.v (.pointer none), .v (.pointer none), .v (.pointer none), .v (.string .empty)], fields := [(0, 17, 1), (1, 17, 1), (2, 17, 1), (3, 9, 1)] }
def i328 : TyI := { agg := true, size := 4, zero := [.v (.pointer none), .v (.pointer none), .v (.pointer none), .v (.string .empty)], fields := [(0, 17, 1), (1, 17, 1), (2, 17, 1), (3, 9, 1)] }
def i329 : TyI := { agg := true, size := 0, zero := [] }
def i330 : TyI := { agg := true, size := 0, zero := [] }
def i331 : TyI := { agg := true, size := 0, zero := [] }
def i332 : TyI := { agg := false, size := 1, zero := [.v .nilFunc] }
def i333 : TyI := { agg := false, size := 1, zero := [.v (.int .u32 0)], ik := some .u32 }
def i334 : TyI := { agg := false, size := 1, zero := [.v (.int .u8 0)], ik := some .u8 }
def i335 : TyI := { agg := false, size := 1, zero := [.v (.int .u8 0)], ik := some .u8 }
def i336 : TyI := { agg := false, size := 1, zero := [.v .nilFunc] }
def i338 : TyI := { agg := false, size := 1, zero := [.v (.int .i32 0)], ik := some .i32 }
def i339 : TyI := { agg := false, size := 1, zero := [.v (.int .i32 0)], ik := some .i32 }
def i340 : TyI := { agg := true, size := 11, zero := [.v (.int .u64 0), .v (.int .u64 0), .v (.int .u32 0), .v (.int .u8 0), .v (.int .u8 0), .v (.int .u8 0), .v (.int .u8 0), .v .nilFunc, .v (.pointer none), .v (.int .i32 0), .v (.int .i32 0)], fields := [(0, 12, 1), (1, 12, 1), (2, 333, 1), (3, 334, 1), (4, 5, 1), (5, 5, 1), (6, 335, 1), (7, 336, 1), (8, 337, 1), (9, 338, 1), (10, 339, 1)] }
def i341 : TyI := { agg := true, size := 11, zero := [.v (.int .u64 0), .v (.int .u64 0), .v (.int .u32 0), .v (.int .u8 0), .v (.int .u8 0), .v (.int .u8 0), .v (.int .u8 0), .v .nilFunc, .v (.pointer none), .v (.int .i32 0), .v (.int .i32 0)], fields := [(0, 12, 1), (1, 12, 1), (2, 333, 1), (3, 334, 1), (4, 5, 1), (5, 5, 1), (6, 335, 1), (7, 336, 1), (8, 337, 1), (9, 338, 1), (10, 339, 1)] }
def i342 : TyI := { agg := false, size := 1, zero := [.v .nilFunc] }
def i343 : TyI := { agg := false, size := 1, zero := [.v .nilFunc] }
def tbl : TT := (.node (.node (.node (.node (.node (.node (.node (.node (.node .leaf 1 i1 .leaf) 2 i2 .leaf) 3 i3 (.node .leaf 4 i4 .leaf)) 5 i5 (.node (.node (.node .leaf 6 i6 .leaf) 7 i7 .leaf) 8 i8 (.node .leaf 9 i9 .leaf))) 10 i10 (.node (.node (.node (.node .leaf 11 i11 .leaf) 12 i12 .leaf) 13 i13 (.node .leaf 14 i14 .leaf)) 18 i18 (.node (.node (.node .leaf 19 i19 .leaf) 21 i21 .leaf) 22 i22 (.node .leaf 24 i24 .leaf)))) 25 i25 (.node (.node (.node (.node (.node .leaf 26 i26 .leaf) 27 i27 .leaf) 28 i28 (.node .leaf 29 i29 .leaf)) 30 i30 (.node (.node (.node .leaf 31 i31 .leaf) 32 i32 .leaf) 33 i33 (.node .leaf 34 i34 .leaf))) 36 i36 (.node (.node (.node (.node .leaf 37 i37 .leaf) 38 i38 .leaf) 39 i39 (.node .leaf 40 i40 .leaf)) 41 i41 (.node (.node (.node .leaf 42 i42 .leaf) 43 i43 .leaf) 44 i44 (.node .leaf 45 i45 .leaf))))) 46 i46 (.node (.node (.node (.node (.node (.node .leaf 47 i47 .leaf) 48 i48 .leaf) 49 i49 (.node .leaf 50 i50 .leaf)) 51 i51 (.node (.node (.node .leaf 52 i52 .leaf) 53 i53 .leaf) 54 i54 (.node .leaf 55 i55 .leaf))) 56 i56 (.node (.node (.node (.node .leaf 57 i57 .leaf) 58 i58 .leaf) 60 i60 (.node .leaf 61 i61 .leaf)) 62 i62 (.node (.node (.node .leaf 63 i63 .leaf) 64 i64 .leaf) 65 i65 (.node .leaf 66 i66 .leaf)))) 67 i67 (.node (.node (.node (.node (.node .leaf 68 i68 .leaf) 69 i69 .leaf) 70 i70 (.node .leaf 71 i71 .leaf)) 72 i72 (.node (.node (.node .leaf 73 i73 .leaf) 74 i74 .leaf) 75 i75 (.node .leaf 76 i76 .leaf))) 77 i77 (.node (.node (.node (.node .leaf 78 i78 .leaf) 79 i79 .leaf) 80 i80 (.node .leaf 81 i81 .leaf)) 82 i82 (.node (.node .leaf 83 i83 .leaf) 84 i84 (.node .leaf 85 i85 .leaf)))))) 86 i86 (.node (.node (.node (.node (.node (.node (.node .leaf 87 i87 .leaf) 88 i88 .leaf) 89 i89 (.node .leaf 90 i90 .leaf)) 91 i91 (.node (.node (.node .leaf 92 i92 .leaf) 93 i93 .leaf) 95 i95 (.node .leaf 96 i96 .leaf))) 97 i97 (.node (.node (.node (.node .leaf 98 i98 .leaf) 99 i99 .leaf) 100 i100 (.node .leaf 101 i101 .leaf)) 103 i103 (.node (.node (.node .leaf 105 i105 .leaf) 106 i106 .leaf) 107 i107 (.node .leaf 109 i109 .leaf)))) 110 i110 (.node (.node (.node (.node (.node .leaf 111 i111 .leaf) 112 i112 .leaf) 113 i113 (.node .leaf 114 i114 .leaf)) 115 i115 (.node (.node (.node .leaf 116 i116 .leaf) 117 i117 .leaf) 118 i118 (.node .leaf 119 i119 .leaf))) 120 i120 (.node (.node (.node (.node .leaf 121 i121 .leaf) 123 i123 .leaf) 124 i124 (.node .leaf 125 i125 .leaf)) 126 i126 (.node (.node (.node .leaf 127 i127 .leaf) 128 i128 .leaf) 129 i129 (.node .leaf 130 i130 .leaf))))) 131 i131 (.node (.node (.node (.node (.node (.node .leaf 132 i132 .leaf) 133 i133 .leaf) 135 i135 (.node .leaf 136 i136 .leaf)) 137 i137 (.node (.node (.node .leaf 138 i138 .leaf) 139 i139 .leaf) 140 i140 (.node .leaf 141 i141 .leaf))) 142 i142 (.node (.node (.node (.node .leaf 143 i143 .leaf) 144 i144 .leaf) 145 i145 (.node .leaf 146 i146 .leaf)) 148 i148 (.node (.node (.node .leaf 150 i150 .leaf) 152 i152 .leaf) 153 i153 (.node .leaf 154 i154 .leaf)))) 155 i155 (.node (.node (.node (.node (.node .leaf 156 i156 .leaf) 157 i157 .leaf) 158 i158 (.node .leaf 159 i159 .leaf)) 160 i160 (.node (.node (.node .leaf 162 i162 .leaf) 163 i163 .leaf) 164 i164 (.node .leaf 165 i165 .leaf))) 166 i166 (.node (.node (.node (.node .leaf 167 i167 .leaf) 168 i168 .leaf) 169 i169 (.node .leaf 170 i170 .leaf)) 171 i171 (.node (.node .leaf 173 i173 .leaf) 174 i174 (.node .leaf 175 i175 .leaf))))))) 176 i176 (.node (.node (.node (.node (.node (.node (.node (.node .leaf 177 i177 .leaf) 178 i178 .leaf) 179 i179 (.node .leaf 180 i180 .leaf)) 181 i181 (.node (.node (.node .leaf 183 i183 .leaf) 184 i184 .leaf) 185 i185 (.node .leaf 186 i186 .leaf))) 187 i187 (.node (.node (.node (.node .leaf 189 i189 .leaf) 190 i190 .leaf) 191 i191 (.node .leaf 192 i192 .leaf)) 193 i193 (.node (.node (.node .leaf 194 i194 .leaf) 195 i195 .leaf) 196 i196 (.node .leaf 197 i197 .leaf)))) 198 i198 (.node (.node (.node (.node (.node .leaf 199 i199 .leaf) 200 i200 .leaf) 201 i201 (.node .leaf 202 i202 .leaf)) 203 i203 (.node (.node (.node .leaf 204 i204 .leaf) 205 i205 .leaf) 206 i206 (.node .leaf 207 i207 .leaf))) 208 i208 (.node (.node (.node (.node .leaf 209 i209 .leaf) 210 i210 .leaf) 211 i211 (.node .leaf 212 i212 .leaf)) 213 i213 (.node (.node (.node .leaf 214 i214 .leaf) 215 i215 .leaf) 216 i216 (.node .leaf 217 i217 .leaf))))) 218 i218 (.node (.node (.node (.node (.node (.node .leaf 219 i219 .leaf) 220 i220 .leaf) 221 i221 (.node .leaf 222 i222 .leaf)) 223 i223 (.node (.node (.node .leaf 225 i225 .leaf) 226 i226 .leaf) 227 i227 (.node .leaf 228 i228 .leaf))) 229 i229 (.node (.node (.node (.node .leaf 230 i230 .leaf) 231 i231 .leaf) 232 i232 (.node .leaf 233 i233 .leaf)) 234 i234 (.node (.node (.node .leaf 235 i235 .leaf) 236 i236 .leaf) 237 i237 (.node .leaf 238 i238 .leaf)))) 239 i239 (.node (.node (.node (.node (.node .leaf 240 i240 .leaf) 241 i241 .leaf) 242 i242 (.node .leaf 243 i243 .leaf)) 244 i244 (.node (.node (.node .leaf 246 i246 .leaf) 247 i247 .leaf) 248 i248 (.node .leaf 249 i249 .leaf))) 250 i250 (.node (.node (.node (.node .leaf 252 i252 .leaf) 253 i253 .leaf) 254 i254 (.node .leaf 255 i255 .leaf)) 256 i256 (.node (.node .leaf 257 i257 .leaf) 258 i258 (.node .leaf 259 i259 .leaf)))))) 260 i260 (.node (.node (.node (.node (.node (.node (.node .leaf 261 i261 .leaf) 262 i262 .leaf) 263 i263 (.node .leaf 264 i264 .leaf)) 265 i265 (.node (.node (.node .leaf 267 i267 .leaf) 268 i268 .leaf) 269 i269 (.node .leaf 270 i270 .leaf))) 271 i271 (.node (.node (.node (.node .leaf 272 i272 .leaf) 273 i273 .leaf) 274 i274 (.node .leaf 275 i275 .leaf)) 276 i276 (.node (.node (.node .leaf 277 i277 .leaf) 278 i278 .leaf) 279 i279 (.node .leaf 280 i280 .leaf)))) 282 i282 (.node (.node (.node (.node (.node .leaf 283 i283 .leaf) 284 i284 .leaf) 285 i285 (.node .leaf 286 i286 .leaf)) 287 i287 (.node (.node (.node .leaf 288 i288 .leaf) 289 i289 .leaf) 290 i290 (.node .leaf 291 i291 .leaf))) 292 i292 (.node (.node (.node (.node .leaf 293 i293 .leaf) 294 i294 .leaf) 295 i295 (.node .leaf 296 i296 .leaf)) 297 i297 (.node (.node (.node .leaf 299 i299 .leaf) 300 i300 .leaf) 301 i301 (.node .leaf 303 i303 .leaf))))) 304 i304 (.node (.node (.node (.node (.node (.node .leaf 305 i305 .leaf) 306 i306 .leaf) 307 i307 (.node .leaf 308 i308 .leaf)) 309 i309 (.node (.node (.node .leaf 310 i310 .leaf) 311 i311 .leaf) 312 i312 (.node .leaf 313 i313 .leaf))) 314 i314 (.node (.node (.node (.node .leaf 315 i315 .leaf) 316 i316 .leaf) 317 i317 (.node .leaf 318 i318 .leaf)) 319 i319 (.node (.node (.node .leaf 320 i320 .leaf) 321 i321 .leaf) 322 i322 (.node .leaf 323 i323 .leaf)))) 324 i324 (.node (.node (.node (.node (.node .leaf 325 i325 .leaf) 326 i326 .leaf) 327 i327 (.node .leaf 328 i328 .leaf)) 329 i329 (.node (.node (.node .leaf 330 i330 .leaf) 331 i331 .leaf) 332 i332 (.node .leaf 333 i333 .leaf))) 334 i334 (.node (.node (.node (.node .leaf 335 i335 .leaf) 336 i336 .leaf) 338 i338 (.node .leaf 339 i339 .leaf)) 340 i340 (.node (.node .leaf 341 i341 .leaf) 342 i342 (.node .leaf 343 i343 .leaf))))))))
theorem htb : TblOk Try.prog tbl := tblOk_of (by kernel_rfl)
end Go.Proofs.Ytceijpfmaofhpaa
