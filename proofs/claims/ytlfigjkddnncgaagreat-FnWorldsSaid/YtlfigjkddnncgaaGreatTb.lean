/- Part of a proof engine for functions of the given program: what an operation, a loop and a call compute, symbolically. No conditions. -/
import Derived.Test.YtlfigjkddnncgaaGreatEngW
import Derived.Test.YtlfigjkddnncgaaGreatProg
namespace Go.Proofs.YtlfigjkddnncgaaGreat
open Go Go.KA Go.Proofs
set_option maxRecDepth 100000
def i1 : TyI := { agg := false, size := 1, zero := [.v .nilFunc] }
def i2 : TyI := { agg := false, size := 1, zero := [.v (.int .i64 0)], ik := some .i64 }
def i3 : TyI := { agg := false, size := 1, zero := [.v (.int .i64 0)], ik := some .i64 }
def i4 : TyI := { agg := false, size := 1, zero := [.v (.bool false)], isB := true }
def i5 : TyI := { agg := false, size := 1, zero := [.v (.int .u8 0)], ik := some .u8 }
def i6 : TyI := { agg := false, size := 1, zero := [.v (.int .u8 0)], ik := some .u8 }
def i7 : TyI := { agg := true, size := 4, zero := [.v (.int .i64 0), .v (.int .i64 0), .v (.bool false), .v (.int .u8 0)], fields := [(0, 2, 1), (1, 3, 1), (2, 4, 1), (3, 6, 1)] }
def i8 : TyI := { agg := true, size := 4, zero := [.v (.int .i64 0), .v (.int .i64 0), .v (.bool false), .v (.int .u8 0)], fields := [(0, 2, 1), (1, 3, 1), (2, 4, 1), (3, 6, 1)] }
def i9 : TyI := { agg := false, size := 1, zero := [.v (.string .empty)], isS := true }
def i10 : TyI := { agg := false, size := 1, zero := [.v (.string .empty)], isS := true }
def i11 : TyI := { agg := false, size := 1, zero := [.v (.string .empty)], isS := true }
def i12 : TyI := { agg := false, size := 1, zero := [.v (.int .u64 0)], ik := some .u64 }
def i13 : TyI := { agg := true, size := 2, zero := [.v (.string .empty), .v (.int .u64 0)], fields := [(0, 9, 1), (1, 12, 1)] }
def i14 : TyI := { agg := true, size := 2, zero := [.v (.string .empty), .v (.int .u64 0)], fields := [(0, 9, 1), (1, 12, 1)] }
def i15 : TyI := { agg := false, size := 1, zero := [.v (.pointer none)] }
def i16 : TyI := { agg := false, size := 1, zero := [.v (.pointer none)] }
def i17 : TyI := { agg := false, size := 1, zero := [.v (.pointer none)] }
def i18 : TyI := { agg := true, size := 1, zero := [.v (.pointer none)], fields := [(0, 17, 1)] }
def i19 : TyI := { agg := true, size := 1, zero := [.v (.pointer none)], fields := [(0, 17, 1)] }
def i21 : TyI := { agg := false, size := 1, zero := [.v (.int .i32 0)], ik := some .i32 }
def i22 : TyI := { agg := false, size := 1, zero := [.s 5 1], elem := some (5, 1, 1) }
def i23 : TyI := { agg := false, size := 1, zero := [.v .nilFunc] }
def i24 : TyI := { agg := true, size := 2, zero := [.v (.int .i64 0), .v (.int .i64 0)], fields := [(0, 2, 1), (1, 2, 1)], eq2 := true }
def i25 : TyI := { agg := true, size := 2, zero := [.v (.int .i64 0), .v (.int .i64 0)], fields := [(0, 2, 1), (1, 2, 1)], eq2 := true }
def i26 : TyI := { agg := false, size := 1, zero := [.s 45 7], elem := some (45, 7, 88) }
def i27 : TyI := { agg := false, size := 1, zero := [.s 29 3], elem := some (29, 3, 40) }
def i28 : TyI := { agg := true, size := 3, zero := [.v (.int .i64 0), .v (.int .i64 0), .s 29 3], fields := [(0, 2, 1), (1, 2, 1), (2, 27, 1)] }
def i29 : TyI := { agg := true, size := 3, zero := [.v (.int .i64 0), .v (.int .i64 0), .s 29 3], fields := [(0, 2, 1), (1, 2, 1), (2, 27, 1)] }
def i30 : TyI := { agg := false, size := 1, zero := [.s 32 6], elem := some (32, 6, 80) }
def i31 : TyI := { agg := true, size := 6, zero := [.v (.int .i64 0), .v (.int .i64 0), .v (.int .i64 0), .v (.int .i64 0), .s 29 3, .s 32 6], fields := [(0, 2, 1), (1, 2, 1), (2, 29, 3), (5, 30, 1)] }
def i32 : TyI := { agg := true, size := 6, zero := [.v (.int .i64 0), .v (.int .i64 0), .v (.int .i64 0), .v (.int .i64 0), .s 29 3, .s 32 6], fields := [(0, 2, 1), (1, 2, 1), (2, 29, 3), (5, 30, 1)] }
def i33 : TyI := { agg := true, size := 12, zero := [.v (.int .i64 0), .v (.int .i64 0), .s 29 3, .v (.int .i64 0), .v (.int .i64 0), .v (.int .i64 0), .v (.int .i64 0), .s 29 3, .s 32 6, .v (.int .i64 0), .v (.int .i64 0), .s 29 3], fields := [(0, 29, 3), (3, 32, 6), (9, 29, 3)] }
def i34 : TyI := { agg := true, size := 12, zero := [.v (.int .i64 0), .v (.int .i64 0), .s 29 3, .v (.int .i64 0), .v (.int .i64 0), .v (.int .i64 0), .v (.int .i64 0), .s 29 3, .s 32 6, .v (.int .i64 0), .v (.int .i64 0), .s 29 3], fields := [(0, 29, 3), (3, 32, 6), (9, 29, 3)] }
def i36 : TyI := { agg := false, size := 1, zero := [.v .nilFunc] }
def i37 : TyI := { agg := false, size := 1, zero := [.s 2 1], elem := some (2, 1, 8) }
def i38 : TyI := { agg := false, size := 1, zero := [.s 37 1], elem := some (37, 1, 24) }
def i39 : TyI := { agg := true, size := 2, zero := [.s 2 1, .s 37 1], fields := [(0, 37, 1), (1, 38, 1)] }
def i40 : TyI := { agg := true, size := 2, zero := [.s 2 1, .s 37 1], fields := [(0, 37, 1), (1, 38, 1)] }
def i41 : TyI := { agg := false, size := 1, zero := [.v .nilFunc] }
def i43 : TyI := { agg := false, size := 1, zero := [.v .nilFunc] }
def i44 : TyI := { agg := true, size := 7, zero := [.v (.int .i64 0), .v (.int .i64 0), .s 29 3, .v (.int .i64 0), .v (.int .i64 0), .v (.int .i64 0), .s 29 3], fields := [(0, 29, 3), (3, 2, 1), (4, 29, 3)] }
def i45 : TyI := { agg := true, size := 7, zero := [.v (.int .i64 0), .v (.int .i64 0), .s 29 3, .v (.int .i64 0), .v (.int .i64 0), .v (.int .i64 0), .s 29 3], fields := [(0, 29, 3), (3, 2, 1), (4, 29, 3)] }
def i46 : TyI := { agg := false, size := 1, zero := [.v .nilFunc] }
def i47 : TyI := { agg := false, size := 1, zero := [.v .nilFunc] }
def i48 : TyI := { agg := true, size := 2, zero := [.s 2 1, .s 2 1], fields := [(0, 37, 1), (1, 37, 1)] }
def i49 : TyI := { agg := true, size := 2, zero := [.s 2 1, .s 2 1], fields := [(0, 37, 1), (1, 37, 1)] }
def i51 : TyI := { agg := false, size := 1, zero := [.v .nilFunc] }
def i53 : TyI := { agg := false, size := 1, zero := [.v .nilFunc] }
def i54 : TyI := { agg := false, size := 1, zero := [.v .nilFunc] }
def i56 : TyI := { agg := false, size := 1, zero := [.v .nilFunc] }
def i57 : TyI := { agg := false, size := 1, zero := [.v .nilFunc] }
def i59 : TyI := { agg := false, size := 1, zero := [.v .nilFunc] }
def i60 : TyI := { agg := false, size := 1, zero := [.v .nilFunc] }
def i61 : TyI := { agg := false, size := 1, zero := [.v .nilFunc] }
def i62 : TyI := { agg := false, size := 1, zero := [.s 64 14], elem := some (64, 14, 192) }
def i63 : TyI := { agg := true, size := 14, zero := [.v (.int .i64 0), .v (.int .i64 0), .v (.int .i64 0), .s 29 3, .v (.int .i64 0), .v (.int .i64 0), .v (.int .i64 0), .v (.int .i64 0), .s 29 3, .s 32 6, .v (.int .i64 0), .v (.int .i64 0), .s 29 3, .s 64 14], fields := [(0, 2, 1), (1, 34, 12), (13, 62, 1)] }
def i64 : TyI := { agg := true, size := 14, zero := [.v (.int .i64 0), .v (.int .i64 0), .v (.int .i64 0), .s 29 3, .v (.int .i64 0), .v (.int .i64 0), .v (.int .i64 0), .v (.int .i64 0), .s 29 3, .s 32 6, .v (.int .i64 0), .v (.int .i64 0), .s 29 3, .s 64 14], fields := [(0, 2, 1), (1, 34, 12), (13, 62, 1)] }
def i66 : TyI := { agg := false, size := 1, zero := [.v .nilFunc] }
def i67 : TyI := { agg := false, size := 1, zero := [.v .nilFunc] }
def i68 : TyI := { agg := false, size := 1, zero := [.v .nilFunc] }
def i69 : TyI := { agg := false, size := 1, zero := [.v .nilFunc] }
def i70 : TyI := { agg := false, size := 1, zero := [.v .nilFunc] }
def i72 : TyI := { agg := false, size := 1, zero := [.v .nilFunc] }
def i73 : TyI := { agg := false, size := 1, zero := [.v (.pointer none)] }
def i74 : TyI := { agg := false, size := 1, zero := [.v .nilFunc] }
def i75 : TyI := { agg := false, size := 1, zero := [.v .nilFunc] }
def i76 : TyI := { agg := false, size := 1, zero := [.v .nilFunc] }
def i77 : TyI := { agg := false, size := 1, zero := [.v .nilFunc] }
def i78 : TyI := { agg := false, size := 1, zero := [.v .nilFunc] }
def i79 : TyI := { agg := false, size := 1, zero := [.v .nilFunc] }
def i80 : TyI := { agg := false, size := 1, zero := [.v .nilFunc] }
def i81 : TyI := { agg := false, size := 1, zero := [.v .nilFunc] }
def i82 : TyI := { agg := false, size := 1, zero := [.v (.pointer none)] }
def i83 : TyI := { agg := false, size := 1, zero := [.v (.pointer none)] }
def i84 : TyI := { agg := false, size := 1, zero := [.v .nilFunc] }
def i85 : TyI := { agg := false, size := 1, zero := [.v .nilFunc] }
def i86 : TyI := { agg := false, size := 1, zero := [.v .nilFunc] }
def i87 : TyI := { agg := false, size := 1, zero := [.v .nilFunc] }
def i88 : TyI := { agg := false, size := 1, zero := [.v (.pointer none)] }
def i89 : TyI := { agg := false, size := 1, zero := [.v .nilFunc] }
def i90 : TyI := { agg := false, size := 1, zero := [.v .nilFunc] }
def i91 : TyI := { agg := false, size := 1, zero := [.v .nilFunc] }
def i92 : TyI := { agg := false, size := 1, zero := [.v .nilFunc] }
def i93 : TyI := { agg := false, size := 1, zero := [.v .nilFunc] }
def i94 : TyI := { agg := false, size := 1, zero := [.v (.pointer none)] }
def i95 : TyI := { agg := false, size := 1, zero := [.v .nilFunc] }
def i96 : TyI := { agg := false, size := 1, zero := [.v .nilFunc] }
def i97 : TyI := { agg := false, size := 1, zero := [.v .nilFunc] }
def i98 : TyI := { agg := false, size := 1, zero := [.v .nilFunc] }
def i99 : TyI := { agg := false, size := 1, zero := [.v .nilFunc] }
def i100 : TyI := { agg := false, size := 1, zero := [.v .nilFunc] }
def i101 : TyI := { agg := false, size := 1, zero := [.v .nilFunc] }
def i102 : TyI := { agg := false, size := 1, zero := [.v .nilFunc] }
def i103 : TyI := { agg := false, size := 1, zero := [.v .nilFunc] }
def i104 : TyI := { agg := false, size := 1, zero := [.v .nilFunc] }
def i105 : TyI := { agg := false, size := 1, zero := [.v .nilFunc] }
def i106 : TyI := { agg := false, size := 1, zero := [.v (.pointer none)] }
def i107 : TyI := { agg := false, size := 1, zero := [.v .nilFunc] }
def i108 : TyI := { agg := false, size := 1, zero := [.v .nilFunc] }
def i109 : TyI := { agg := false, size := 1, zero := [.v .nilFunc] }
def i110 : TyI := { agg := false, size := 1, zero := [.v .nilFunc] }
def i111 : TyI := { agg := false, size := 1, zero := [.v .nilFunc] }
def i112 : TyI := { agg := false, size := 1, zero := [.v (.pointer none)] }
def i113 : TyI := { agg := false, size := 1, zero := [.v .nilFunc] }
def i114 : TyI := { agg := false, size := 1, zero := [.v .nilFunc] }
def i115 : TyI := { agg := false, size := 1, zero := [.v .nilFunc] }
def i116 : TyI := { agg := false, size := 1, zero := [.v .nilFunc] }
def i117 : TyI := { agg := false, size := 1, zero := [.v .nilFunc] }
def i118 : TyI := { agg := false, size := 1, zero := [.v .nilFunc] }
def i119 : TyI := { agg := false, size := 1, zero := [.v .nilFunc] }
def i120 : TyI := { agg := false, size := 1, zero := [.v .nilFunc] }
def i121 : TyI := { agg := false, size := 1, zero := [.v .nilFunc] }
def i122 : TyI := { agg := false, size := 1, zero := [.v (.pointer none)] }
def i123 : TyI := { agg := false, size := 1, zero := [.v .nilFunc] }
def i124 : TyI := { agg := false, size := 1, zero := [.v (.pointer none)] }
def i125 : TyI := { agg := true, size := 5, zero := [.v (.int .i64 0), .v (.int .i64 0), .s 45 7, .v (.int .i64 0), .v (.bool false)], fields := [(0, 25, 2), (2, 26, 1), (3, 2, 1), (4, 4, 1)] }
def i126 : TyI := { agg := true, size := 5, zero := [.v (.int .i64 0), .v (.int .i64 0), .s 45 7, .v (.int .i64 0), .v (.bool false)], fields := [(0, 25, 2), (2, 26, 1), (3, 2, 1), (4, 4, 1)] }
def i127 : TyI := { agg := false, size := 1, zero := [.v .nilFunc] }
def i128 : TyI := { agg := false, size := 1, zero := [.v .nilFunc] }
def i129 : TyI := { agg := false, size := 1, zero := [.v .nilFunc] }
def i130 : TyI := { agg := true, size := 3, zero := [.v (.int .i64 0), .v (.int .i64 0), .s 45 7], fields := [(0, 25, 2), (2, 26, 1)] }
def i131 : TyI := { agg := true, size := 3, zero := [.v (.int .i64 0), .v (.int .i64 0), .s 45 7], fields := [(0, 25, 2), (2, 26, 1)] }
def i132 : TyI := { agg := false, size := 1, zero := [.v .nilFunc] }
def i133 : TyI := { agg := false, size := 1, zero := [.v .nilFunc] }
def i134 : TyI := { agg := false, size := 1, zero := [.v .nilFunc] }
def i136 : TyI := { agg := false, size := 1, zero := [.v .nilFunc] }
def i137 : TyI := { agg := false, size := 1, zero := [.v .nilFunc] }
def i138 : TyI := { agg := false, size := 1, zero := [.v .nilFunc] }
def i139 : TyI := { agg := false, size := 1, zero := [.v .nilFunc] }
def i140 : TyI := { agg := false, size := 1, zero := [.v .nilFunc] }
def i141 : TyI := { agg := false, size := 1, zero := [.v (.pointer none)] }
def i142 : TyI := { agg := false, size := 1, zero := [.v .nilFunc] }
def i143 : TyI := { agg := false, size := 1, zero := [.v .nilFunc] }
def i144 : TyI := { agg := false, size := 1, zero := [.v (.pointer none)] }
def i145 : TyI := { agg := false, size := 1, zero := [.v (.int .u64 0)], ik := some .u64 }
def i146 : TyI := { agg := true, size := 3, zero := [.s 5 1, .v (.int .i64 0), .v (.int .u64 0)], fields := [(0, 22, 1), (1, 3, 1), (2, 145, 1)] }
def i147 : TyI := { agg := true, size := 3, zero := [.s 5 1, .v (.int .i64 0), .v (.int .u64 0)], fields := [(0, 22, 1), (1, 3, 1), (2, 145, 1)] }
def i148 : TyI := { agg := false, size := 1, zero := [.v (.pointer none)] }
def i149 : TyI := { agg := true, size := 4, zero := [.v (.pointer none), .v (.int .i64 0), .v (.int .i64 0), .v (.int .i64 0)], fields := [(0, 73, 1), (1, 25, 2), (3, 2, 1)] }
def i150 : TyI := { agg := true, size := 4, zero := [.v (.pointer none), .v (.int .i64 0), .v (.int .i64 0), .v (.int .i64 0)], fields := [(0, 73, 1), (1, 25, 2), (3, 2, 1)] }
def i151 : TyI := { agg := false, size := 1, zero := [.v .nilFunc] }
def i152 : TyI := { agg := false, size := 1, zero := [.v .nilFunc] }
def i153 : TyI := { agg := false, size := 1, zero := [.v .nilFunc] }
def i154 : TyI := { agg := false, size := 1, zero := [.v .nilFunc] }
def i155 : TyI := { agg := false, size := 1, zero := [.v .nilFunc] }
def i157 : TyI := { agg := false, size := 1, zero := [.v .nilFunc] }
def i158 : TyI := { agg := false, size := 1, zero := [.v .nilFunc] }
def i159 : TyI := { agg := false, size := 1, zero := [.v .nilFunc] }
def i160 : TyI := { agg := false, size := 1, zero := [.v .nilFunc] }
def i161 : TyI := { agg := false, size := 1, zero := [.v .nilFunc] }
def i162 : TyI := { agg := false, size := 1, zero := [.v .nilFunc] }
def i163 : TyI := { agg := false, size := 1, zero := [.v .nilFunc] }
def i164 : TyI := { agg := false, size := 1, zero := [.v .nilFunc] }
def i165 : TyI := { agg := false, size := 1, zero := [.v .nilFunc] }
def i166 : TyI := { agg := false, size := 1, zero := [.v .nilFunc] }
def i167 : TyI := { agg := false, size := 1, zero := [.v .nilFunc] }
def i168 : TyI := { agg := false, size := 1, zero := [.v .nilFunc] }
def i169 : TyI := { agg := false, size := 1, zero := [.v .nilFunc] }
def i170 : TyI := { agg := false, size := 1, zero := [.v .nilFunc] }
def i171 : TyI := { agg := false, size := 1, zero := [.v .nilFunc] }
def i172 : TyI := { agg := false, size := 1, zero := [.v .nilFunc] }
def i173 : TyI := { agg := false, size := 1, zero := [.v .nilFunc] }
def i174 : TyI := { agg := false, size := 1, zero := [.v .nilFunc] }
def i175 : TyI := { agg := false, size := 1, zero := [.v (.pointer none)] }
def i177 : TyI := { agg := false, size := 1, zero := [.v .nilFunc] }
def i178 : TyI := { agg := true, size := 7, zero := [.s 2 1, .s 37 1, .v (.int .i64 0), .s 2 1, .s 2 1, .v (.int .i64 0), .v (.int .i64 0)], fields := [(0, 40, 2), (2, 2, 1), (3, 49, 2), (5, 2, 1), (6, 2, 1)] }
def i179 : TyI := { agg := true, size := 7, zero := [.s 2 1, .s 37 1, .v (.int .i64 0), .s 2 1, .s 2 1, .v (.int .i64 0), .v (.int .i64 0)], fields := [(0, 40, 2), (2, 2, 1), (3, 49, 2), (5, 2, 1), (6, 2, 1)] }
def i180 : TyI := { agg := false, size := 1, zero := [.v .nilFunc] }
def i181 : TyI := { agg := false, size := 1, zero := [.v .nilFunc] }
def i182 : TyI := { agg := true, size := 7, zero := [.v (.pointer none), .v (.int .i64 0), .s 2 1, .s 2 1, .v (.int .i64 0), .v (.int .i64 0), .v (.int .i64 0)], fields := [(0, 94, 1), (1, 2, 1), (2, 49, 2), (4, 2, 1), (5, 2, 1), (6, 2, 1)] }
def i183 : TyI := { agg := true, size := 7, zero := [.v (.pointer none), .v (.int .i64 0), .s 2 1, .s 2 1, .v (.int .i64 0), .v (.int .i64 0), .v (.int .i64 0)], fields := [(0, 94, 1), (1, 2, 1), (2, 49, 2), (4, 2, 1), (5, 2, 1), (6, 2, 1)] }
def i184 : TyI := { agg := false, size := 1, zero := [.v .nilFunc] }
def i185 : TyI := { agg := false, size := 1, zero := [.v .nilFunc] }
def i186 : TyI := { agg := false, size := 1, zero := [.v .nilFunc] }
def i187 : TyI := { agg := false, size := 1, zero := [.v .nilFunc] }
def i188 : TyI := { agg := false, size := 1, zero := [.v .nilFunc] }
def i189 : TyI := { agg := false, size := 1, zero := [.v .nilFunc] }
def i190 : TyI := { agg := false, size := 1, zero := [.s 4 1], elem := some (4, 1, 1) }
def i191 : TyI := { agg := false, size := 1, zero := [.s 190 1], elem := some (190, 1, 24) }
def i192 : TyI := { agg := false, size := 1, zero := [.s 190 1], elem := some (190, 1, 24) }
def i193 : TyI := { agg := false, size := 1, zero := [.v .nilFunc] }
def i194 : TyI := { agg := false, size := 1, zero := [.v .nilFunc] }
def i196 : TyI := { agg := false, size := 1, zero := [.v .nilFunc] }
def i197 : TyI := { agg := false, size := 1, zero := [.v .nilFunc] }
def i198 : TyI := { agg := false, size := 1, zero := [.v .nilFunc] }
def i199 : TyI := { agg := false, size := 1, zero := [.v .nilFunc] }
def i200 : TyI := { agg := false, size := 1, zero := [.v .nilFunc] }
def i201 : TyI := { agg := false, size := 1, zero := [.v .nilFunc] }
def i202 : TyI := { agg := false, size := 1, zero := [.v .nilFunc] }
def i203 : TyI := { agg := false, size := 1, zero := [.v .nilFunc] }
def i204 : TyI := { agg := false, size := 1, zero := [.v .nilFunc] }
def i205 : TyI := { agg := false, size := 1, zero := [.v .nilFunc] }
def i206 : TyI := { agg := false, size := 1, zero := [.v .nilFunc] }
def i207 : TyI := { agg := false, size := 1, zero := [.v .nilFunc] }
def i208 : TyI := { agg := false, size := 1, zero := [.v .nilFunc] }
def i209 : TyI := { agg := false, size := 1, zero := [.v .nilFunc] }
def i210 : TyI := { agg := false, size := 1, zero := [.v .nilFunc] }
def i211 : TyI := { agg := false, size := 1, zero := [.v (.pointer none)] }
def i212 : TyI := { agg := true, size := 4, zero := [.v (.pointer none), .v (.int .i64 0), .v (.int .i64 0), .v (.int .i64 0)], fields := [(0, 73, 1), (1, 25, 2), (3, 2, 1)] }
def i213 : TyI := { agg := false, size := 1, zero := [.v .nilFunc] }
def i214 : TyI := { agg := false, size := 1, zero := [.v (.int .u64 0)], ik := some .u64 }
def i215 : TyI := { agg := false, size := 1, zero := [.v .nilFunc] }
def i216 : TyI := { agg := false, size := 1, zero := [.v .nilFunc] }
def i217 : TyI := { agg := false, size := 1, zero := [.v .nilFunc] }
def i218 : TyI := { agg := false, size := 1, zero := [.v .nilFunc] }
def i219 : TyI := { agg := false, size := 1, zero := [.v .nilFunc] }
def i220 : TyI := { agg := false, size := 1, zero := [.v .nilFunc] }
def i221 : TyI := { agg := false, size := 1, zero := [.s 192 1], elem := some (192, 1, 24) }
def i222 : TyI := { agg := false, size := 1, zero := [.v (.map none)], mapK := some (some .i64, 2) }
def i223 : TyI := { agg := false, size := 1, zero := [.v (.map none)], mapK := some (some .i64, 3) }
def i224 : TyI := { agg := false, size := 1, zero := [.v .nilFunc] }
def i225 : TyI := { agg := false, size := 1, zero := [.v .nilFunc] }
def i226 : TyI := { agg := false, size := 1, zero := [.v .nilFunc] }
def i227 : TyI := { agg := false, size := 1, zero := [.v .nilFunc] }
def i228 : TyI := { agg := false, size := 1, zero := [.v .nilFunc] }
def i229 : TyI := { agg := false, size := 1, zero := [.v .nilFunc] }
def i230 : TyI := { agg := false, size := 1, zero := [.v .nilFunc] }
def i231 : TyI := { agg := false, size := 1, zero := [.v .nilFunc] }
def i232 : TyI := { agg := false, size := 1, zero := [.s 191 1], elem := some (191, 1, 24) }
def i233 : TyI := { agg := false, size := 1, zero := [.v .nilFunc] }
def i234 : TyI := { agg := false, size := 1, zero := [.v .nilFunc] }
def i235 : TyI := { agg := false, size := 1, zero := [.v .nilFunc] }
def i236 : TyI := { agg := false, size := 1, zero := [.v .nilFunc] }
def i237 : TyI := { agg := false, size := 1, zero := [.v .nilFunc] }
def i238 : TyI := { agg := false, size := 1, zero := [.v .nilFunc] }
def i239 : TyI := { agg := false, size := 1, zero := [.v .nilFunc] }
def i240 : TyI := { agg := false, size := 1, zero := [.v .nilFunc] }
def i241 : TyI := { agg := false, size := 1, zero := [.v .nilFunc] }
def i242 : TyI := { agg := false, size := 1, zero := [.v (.pointer none)] }
def i243 : TyI := { agg := false, size := 1, zero := [.v .nilFunc] }
def i244 : TyI := { agg := false, size := 1, zero := [.v .nilFunc] }
def i245 : TyI := { agg := false, size := 1, zero := [.v .nilFunc] }
def i246 : TyI := { agg := false, size := 1, zero := [.s 9 1], elem := some (9, 1, 16) }
def i247 : TyI := { agg := false, size := 1, zero := [.v .nilFunc] }
def i248 : TyI := { agg := false, size := 1, zero := [.v .nilFunc] }
def i249 : TyI := { agg := false, size := 1, zero := [.v .nilFunc] }
def i250 : TyI := { agg := true, size := 4, zero := [.v (.pointer none), .v (.pointer none), .v (.pointer none), .v (.string .empty)], fields := [(0, 17, 1), (1, 17, 1), (2, 17, 1), (3, 9, 1)] }
def i251 : TyI := { agg := true, size := 4, zero := [.v (.pointer none), .v (.pointer none), .v (.pointer none), .v (.string .empty)], fields := [(0, 17, 1), (1, 17, 1), (2, 17, 1), (3, 9, 1)] }
def i252 : TyI := { agg := true, size := 0, zero := [] }
def i253 : TyI := { agg := true, size := 0, zero := [] }
def i254 : TyI := { agg := true, size := 0, zero := [] }
def i255 : TyI := { agg := false, size := 1, zero := [.v .nilFunc] }
def i256 : TyI := { agg := false, size := 1, zero := [.v (.int .u32 0)], ik := some .u32 }
def i257 : TyI := { agg := false, size := 1, zero := [.v (.int .u8 0)], ik := some .u8 }
def i258 : TyI := { agg := false, size := 1, zero := [.v (.int .u8 0)], ik := some .u8 }
def i259 : TyI := { agg := false, size := 1, zero := [.v .nilFunc] }
def i260 : TyI := { agg := false, size := 1, zero := [.v (.pointer none)] }
def i261 : TyI := { agg := false, size := 1, zero := [.v (.int .i32 0)], ik := some .i32 }
def i262 : TyI := { agg := false, size := 1, zero := [.v (.int .i32 0)], ik := some .i32 }
def i263 : TyI := { agg := true, size := 11, zero := [.v (.int .u64 0), .v (.int .u64 0), .v (.int .u32 0), .v (.int .u8 0), .v (.int .u8 0), .v (.int .u8 0), .v (.int .u8 0), .v .nilFunc, .v (.pointer none), .v (.int .i32 0), .v (.int .i32 0)], fields := [(0, 12, 1), (1, 12, 1), (2, 256, 1), (3, 257, 1), (4, 5, 1), (5, 5, 1), (6, 258, 1), (7, 259, 1), (8, 260, 1), (9, 261, 1), (10, 262, 1)] }
def i264 : TyI := { agg := true, size := 11, zero := [.v (.int .u64 0), .v (.int .u64 0), .v (.int .u32 0), .v (.int .u8 0), .v (.int .u8 0), .v (.int .u8 0), .v (.int .u8 0), .v .nilFunc, .v (.pointer none), .v (.int .i32 0), .v (.int .i32 0)], fields := [(0, 12, 1), (1, 12, 1), (2, 256, 1), (3, 257, 1), (4, 5, 1), (5, 5, 1), (6, 258, 1), (7, 259, 1), (8, 260, 1), (9, 261, 1), (10, 262, 1)] }
def tbl : TT := (.node (.node (.node (.node (.node (.node (.node (.node .leaf 1 i1 .leaf) 2 i2 (.node .leaf 3 i3 .leaf)) 4 i4 (.node (.node .leaf 5 i5 .leaf) 6 i6 (.node .leaf 7 i7 .leaf))) 8 i8 (.node (.node (.node .leaf 9 i9 .leaf) 10 i10 (.node .leaf 11 i11 .leaf)) 12 i12 (.node (.node .leaf 13 i13 .leaf) 14 i14 (.node .leaf 15 i15 .leaf)))) 16 i16 (.node (.node (.node (.node .leaf 17 i17 .leaf) 18 i18 (.node .leaf 19 i19 .leaf)) 21 i21 (.node (.node .leaf 22 i22 .leaf) 23 i23 (.node .leaf 24 i24 .leaf))) 25 i25 (.node (.node (.node .leaf 26 i26 .leaf) 27 i27 (.node .leaf 28 i28 .leaf)) 29 i29 (.node (.node .leaf 30 i30 .leaf) 31 i31 (.node .leaf 32 i32 .leaf))))) 33 i33 (.node (.node (.node (.node (.node .leaf 34 i34 .leaf) 36 i36 (.node .leaf 37 i37 .leaf)) 38 i38 (.node (.node .leaf 39 i39 .leaf) 40 i40 (.node .leaf 41 i41 .leaf))) 43 i43 (.node (.node (.node .leaf 44 i44 .leaf) 45 i45 (.node .leaf 46 i46 .leaf)) 47 i47 (.node (.node .leaf 48 i48 .leaf) 49 i49 (.node .leaf 51 i51 .leaf)))) 53 i53 (.node (.node (.node (.node .leaf 54 i54 .leaf) 56 i56 (.node .leaf 57 i57 .leaf)) 59 i59 (.node (.node .leaf 60 i60 .leaf) 61 i61 (.node .leaf 62 i62 .leaf))) 63 i63 (.node (.node (.node .leaf 64 i64 .leaf) 66 i66 (.node .leaf 67 i67 .leaf)) 68 i68 (.node (.node .leaf 69 i69 .leaf) 70 i70 .leaf))))) 72 i72 (.node (.node (.node (.node (.node (.node .leaf 73 i73 .leaf) 74 i74 (.node .leaf 75 i75 .leaf)) 76 i76 (.node (.node .leaf 77 i77 .leaf) 78 i78 (.node .leaf 79 i79 .leaf))) 80 i80 (.node (.node (.node .leaf 81 i81 .leaf) 82 i82 (.node .leaf 83 i83 .leaf)) 84 i84 (.node (.node .leaf 85 i85 .leaf) 86 i86 (.node .leaf 87 i87 .leaf)))) 88 i88 (.node (.node (.node (.node .leaf 89 i89 .leaf) 90 i90 (.node .leaf 91 i91 .leaf)) 92 i92 (.node (.node .leaf 93 i93 .leaf) 94 i94 (.node .leaf 95 i95 .leaf))) 96 i96 (.node (.node (.node .leaf 97 i97 .leaf) 98 i98 (.node .leaf 99 i99 .leaf)) 100 i100 (.node (.node .leaf 101 i101 .leaf) 102 i102 (.node .leaf 103 i103 .leaf))))) 104 i104 (.node (.node (.node (.node (.node .leaf 105 i105 .leaf) 106 i106 (.node .leaf 107 i107 .leaf)) 108 i108 (.node (.node .leaf 109 i109 .leaf) 110 i110 (.node .leaf 111 i111 .leaf))) 112 i112 (.node (.node (.node .leaf 113 i113 .leaf) 114 i114 (.node .leaf 115 i115 .leaf)) 116 i116 (.node (.node .leaf 117 i117 .leaf) 118 i118 (.node .leaf 119 i119 .leaf)))) 120 i120 (.node (.node (.node (.node .leaf 121 i121 .leaf) 122 i122 (.node .leaf 123 i123 .leaf)) 124 i124 (.node (.node .leaf 125 i125 .leaf) 126 i126 (.node .leaf 127 i127 .leaf))) 128 i128 (.node (.node (.node .leaf 129 i129 .leaf) 130 i130 (.node .leaf 131 i131 .leaf)) 132 i132 (.node (.node .leaf 133 i133 .leaf) 134 i134 .leaf)))))) 136 i136 (.node (.node (.node (.node (.node (.node (.node .leaf 137 i137 .leaf) 138 i138 (.node .leaf 139 i139 .leaf)) 140 i140 (.node (.node .leaf 141 i141 .leaf) 142 i142 (.node .leaf 143 i143 .leaf))) 144 i144 (.node (.node (.node .leaf 145 i145 .leaf) 146 i146 (.node .leaf 147 i147 .leaf)) 148 i148 (.node (.node .leaf 149 i149 .leaf) 150 i150 (.node .leaf 151 i151 .leaf)))) 152 i152 (.node (.node (.node (.node .leaf 153 i153 .leaf) 154 i154 (.node .leaf 155 i155 .leaf)) 157 i157 (.node (.node .leaf 158 i158 .leaf) 159 i159 (.node .leaf 160 i160 .leaf))) 161 i161 (.node (.node (.node .leaf 162 i162 .leaf) 163 i163 (.node .leaf 164 i164 .leaf)) 165 i165 (.node (.node .leaf 166 i166 .leaf) 167 i167 (.node .leaf 168 i168 .leaf))))) 169 i169 (.node (.node (.node (.node (.node .leaf 170 i170 .leaf) 171 i171 (.node .leaf 172 i172 .leaf)) 173 i173 (.node (.node .leaf 174 i174 .leaf) 175 i175 (.node .leaf 177 i177 .leaf))) 178 i178 (.node (.node (.node .leaf 179 i179 .leaf) 180 i180 (.node .leaf 181 i181 .leaf)) 182 i182 (.node (.node .leaf 183 i183 .leaf) 184 i184 (.node .leaf 185 i185 .leaf)))) 186 i186 (.node (.node (.node (.node .leaf 187 i187 .leaf) 188 i188 (.node .leaf 189 i189 .leaf)) 190 i190 (.node (.node .leaf 191 i191 .leaf) 192 i192 (.node .leaf 193 i193 .leaf))) 194 i194 (.node (.node (.node .leaf 196 i196 .leaf) 197 i197 (.node .leaf 198 i198 .leaf)) 199 i199 (.node (.node .leaf 200 i200 .leaf) 201 i201 .leaf))))) 202 i202 (.node (.node (.node (.node (.node (.node .leaf 203 i203 .leaf) 204 i204 (.node .leaf 205 i205 .leaf)) 206 i206 (.node (.node .leaf 207 i207 .leaf) 208 i208 (.node .leaf 209 i209 .leaf))) 210 i210 (.node (.node (.node .leaf 211 i211 .leaf) 212 i212 (.node .leaf 213 i213 .leaf)) 214 i214 (.node (.node .leaf 215 i215 .leaf) 216 i216 (.node .leaf 217 i217 .leaf)))) 218 i218 (.node (.node (.node (.node .leaf 219 i219 .leaf) 220 i220 (.node .leaf 221 i221 .leaf)) 222 i222 (.node (.node .leaf 223 i223 .leaf) 224 i224 (.node .leaf 225 i225 .leaf))) 226 i226 (.node (.node (.node .leaf 227 i227 .leaf) 228 i228 (.node .leaf 229 i229 .leaf)) 230 i230 (.node (.node .leaf 231 i231 .leaf) 232 i232 (.node .leaf 233 i233 .leaf))))) 234 i234 (.node (.node (.node (.node (.node .leaf 235 i235 .leaf) 236 i236 (.node .leaf 237 i237 .leaf)) 238 i238 (.node (.node .leaf 239 i239 .leaf) 240 i240 (.node .leaf 241 i241 .leaf))) 242 i242 (.node (.node (.node .leaf 243 i243 .leaf) 244 i244 (.node .leaf 245 i245 .leaf)) 246 i246 (.node (.node .leaf 247 i247 .leaf) 248 i248 (.node .leaf 249 i249 .leaf)))) 250 i250 (.node (.node (.node (.node .leaf 251 i251 .leaf) 252 i252 (.node .leaf 253 i253 .leaf)) 254 i254 (.node (.node .leaf 255 i255 .leaf) 256 i256 (.node .leaf 257 i257 .leaf))) 258 i258 (.node (.node (.node .leaf 259 i259 .leaf) 260 i260 (.node .leaf 261 i261 .leaf)) 262 i262 (.node (.node .leaf 263 i263 .leaf) 264 i264 .leaf)))))))
theorem htb : TblOk Tryz.prog tbl := tblOk_of (by kernel_rfl)
end Go.Proofs.YtlfigjkddnncgaaGreat
