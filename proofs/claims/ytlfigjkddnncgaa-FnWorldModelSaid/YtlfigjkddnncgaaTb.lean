/- Part of a proof engine for functions of the given program: what an operation, a loop and a call compute, symbolically. No conditions. -/
import Derived.Test.YtlfigjkddnncgaaEngW
import Derived.Test.YtlfigjkddnncgaaProg
namespace Go.Proofs.Ytlfigjkddnncgaa
open Go Go.KA Go.Proofs
set_option maxRecDepth 100000
def i1 : TyI := { agg := false, size := 1, zero := [.v .nilFunc] }
def i2 : TyI := { agg := false, size := 1, zero := [.v (.int .i64 0)], ik := some .i64 }
def i3 : TyI := { agg := false, size := 1, zero := [.v (.int .i64 0)], ik := some .i64 }
def i4 : TyI := { agg := false, size := 1, zero := [.v (.bool false)], isB := true }
def i5 : TyI := { agg := false, size := 1, zero := [.v (.int .u8 0)], ik := some .u8 }
def i6 : TyI := { agg := false, size := 1, zero := [.v (.int .u8 0)], ik := some .u8 }
def i7 : TyI := { agg := true, size := 4, zero := [.v (.int .i64 0), .v (.int .i64 0), .v (.bool false), .v (.int .u8 0)], fields := [(0, 2, 1), (1, 3, 1), (2, 4, 1), (3, 6, 1)] }
def i8 : TyI := { agg := true, size := 4, zero := [.v (.int .i64 0), .v (.int .i64 0), .v (.bool false), .v (.int .u8 0)], fields := [(0, 2, 1), (1, 3, 1), (2, 4, 1), (3, 6, 1)] }
def i9 : TyI := { agg := false, size := 1, zero := [.v (.string .empty)], isS := true }
def i10 : TyI := { agg := false, size := 1, zero := [.v (.string .empty)], isS := true }
def i11 : TyI := { agg := false, size := 1, zero := [.v (.string .empty)], isS := true }
def i12 : TyI := { agg := false, size := 1, zero := [.v (.int .u64 0)], ik := some .u64 }
def i13 : TyI := { agg := true, size := 2, zero := [.v (.string .empty), .v (.int .u64 0)], fields := [(0, 9, 1), (1, 12, 1)] }
def i14 : TyI := { agg := true, size := 2, zero := [.v (.string .empty), .v (.int .u64 0)], fields := [(0, 9, 1), (1, 12, 1)] }
def i15 : TyI := { agg := false, size := 1, zero := [.v (.pointer none)] }
def i16 : TyI := { agg := false, size := 1, zero := [.v (.pointer none)] }
def i17 : TyI := { agg := false, size := 1, zero := [.v (.pointer none)] }
def i18 : TyI := { agg := true, size := 1, zero := [.v (.pointer none)], fields := [(0, 17, 1)] }
def i19 : TyI := { agg := true, size := 1, zero := [.v (.pointer none)], fields := [(0, 17, 1)] }
def i21 : TyI := { agg := false, size := 1, zero := [.v (.int .i32 0)], ik := some .i32 }
def i22 : TyI := { agg := false, size := 1, zero := [.s 5 1], elem := some (5, 1, 1) }
def i23 : TyI := { agg := false, size := 1, zero := [.v .nilFunc] }
def i24 : TyI := { agg := true, size := 2, zero := [.v (.int .i64 0), .v (.int .i64 0)], fields := [(0, 2, 1), (1, 2, 1)], eq2 := true }
def i25 : TyI := { agg := true, size := 2, zero := [.v (.int .i64 0), .v (.int .i64 0)], fields := [(0, 2, 1), (1, 2, 1)], eq2 := true }
def i26 : TyI := { agg := false, size := 1, zero := [.s 28 3], elem := some (28, 3, 40) }
def i27 : TyI := { agg := true, size := 3, zero := [.v (.int .i64 0), .v (.int .i64 0), .s 28 3], fields := [(0, 2, 1), (1, 2, 1), (2, 26, 1)] }
def i28 : TyI := { agg := true, size := 3, zero := [.v (.int .i64 0), .v (.int .i64 0), .s 28 3], fields := [(0, 2, 1), (1, 2, 1), (2, 26, 1)] }
def i29 : TyI := { agg := false, size := 1, zero := [.s 31 6], elem := some (31, 6, 80) }
def i30 : TyI := { agg := true, size := 6, zero := [.v (.int .i64 0), .v (.int .i64 0), .v (.int .i64 0), .v (.int .i64 0), .s 28 3, .s 31 6], fields := [(0, 2, 1), (1, 2, 1), (2, 28, 3), (5, 29, 1)] }
def i31 : TyI := { agg := true, size := 6, zero := [.v (.int .i64 0), .v (.int .i64 0), .v (.int .i64 0), .v (.int .i64 0), .s 28 3, .s 31 6], fields := [(0, 2, 1), (1, 2, 1), (2, 28, 3), (5, 29, 1)] }
def i33 : TyI := { agg := false, size := 1, zero := [.v .nilFunc] }
def i34 : TyI := { agg := false, size := 1, zero := [.s 2 1], elem := some (2, 1, 8) }
def i35 : TyI := { agg := false, size := 1, zero := [.s 34 1], elem := some (34, 1, 24) }
def i36 : TyI := { agg := true, size := 2, zero := [.s 2 1, .s 34 1], fields := [(0, 34, 1), (1, 35, 1)] }
def i37 : TyI := { agg := true, size := 2, zero := [.s 2 1, .s 34 1], fields := [(0, 34, 1), (1, 35, 1)] }
def i38 : TyI := { agg := false, size := 1, zero := [.v .nilFunc] }
def i39 : TyI := { agg := false, size := 1, zero := [.s 69 1], elem := some (69, 1, 24) }
def i40 : TyI := { agg := false, size := 1, zero := [.s 39 1], elem := some (39, 1, 24) }
def i41 : TyI := { agg := true, size := 5, zero := [.v (.int .i64 0), .v (.int .i64 0), .v (.int .i64 0), .s 69 1, .s 39 1], fields := [(0, 25, 2), (2, 2, 1), (3, 39, 1), (4, 40, 1)] }
def i42 : TyI := { agg := true, size := 5, zero := [.v (.int .i64 0), .v (.int .i64 0), .v (.int .i64 0), .s 69 1, .s 39 1], fields := [(0, 25, 2), (2, 2, 1), (3, 39, 1), (4, 40, 1)] }
def i43 : TyI := { agg := false, size := 1, zero := [.v .nilFunc] }
def i45 : TyI := { agg := false, size := 1, zero := [.v .nilFunc] }
def i47 : TyI := { agg := false, size := 1, zero := [.v .nilFunc] }
def i48 : TyI := { agg := false, size := 1, zero := [.v .nilFunc] }
def i49 : TyI := { agg := false, size := 1, zero := [.v .nilFunc] }
def i51 : TyI := { agg := false, size := 1, zero := [.v .nilFunc] }
def i52 : TyI := { agg := true, size := 2, zero := [.s 2 1, .s 2 1], fields := [(0, 34, 1), (1, 34, 1)] }
def i53 : TyI := { agg := true, size := 2, zero := [.s 2 1, .s 2 1], fields := [(0, 34, 1), (1, 34, 1)] }
def i55 : TyI := { agg := false, size := 1, zero := [.v .nilFunc] }
def i56 : TyI := { agg := false, size := 1, zero := [.v (.pointer none)] }
def i57 : TyI := { agg := false, size := 1, zero := [.v .nilFunc] }
def i58 : TyI := { agg := false, size := 1, zero := [.v .nilFunc] }
def i59 : TyI := { agg := false, size := 1, zero := [.v .nilFunc] }
def i60 : TyI := { agg := false, size := 1, zero := [.v .nilFunc] }
def i61 : TyI := { agg := false, size := 1, zero := [.v (.pointer none)] }
def i62 : TyI := { agg := false, size := 1, zero := [.v .nilFunc] }
def i63 : TyI := { agg := false, size := 1, zero := [.v .nilFunc] }
def i64 : TyI := { agg := false, size := 1, zero := [.v (.pointer none)] }
def i65 : TyI := { agg := false, size := 1, zero := [.v .nilFunc] }
def i66 : TyI := { agg := false, size := 1, zero := [.v .nilFunc] }
def i67 : TyI := { agg := false, size := 1, zero := [.v .nilFunc] }
def i68 : TyI := { agg := false, size := 1, zero := [.v (.pointer none)] }
def i69 : TyI := { agg := false, size := 1, zero := [.s 4 1], elem := some (4, 1, 1) }
def i70 : TyI := { agg := false, size := 1, zero := [.v (.int .u64 0)], ik := some .u64 }
def i71 : TyI := { agg := false, size := 1, zero := [.v .nilFunc] }
def i72 : TyI := { agg := false, size := 1, zero := [.v .nilFunc] }
def i73 : TyI := { agg := false, size := 1, zero := [.v .nilFunc] }
def i74 : TyI := { agg := false, size := 1, zero := [.v .nilFunc] }
def i75 : TyI := { agg := false, size := 1, zero := [.v .nilFunc] }
def i76 : TyI := { agg := false, size := 1, zero := [.v .nilFunc] }
def i77 : TyI := { agg := false, size := 1, zero := [.v .nilFunc] }
def i78 : TyI := { agg := false, size := 1, zero := [.v .nilFunc] }
def i79 : TyI := { agg := false, size := 1, zero := [.v .nilFunc] }
def i80 : TyI := { agg := false, size := 1, zero := [.v .nilFunc] }
def i81 : TyI := { agg := false, size := 1, zero := [.v (.pointer none)] }
def i82 : TyI := { agg := false, size := 1, zero := [.v .nilFunc] }
def i83 : TyI := { agg := false, size := 1, zero := [.v .nilFunc] }
def i84 : TyI := { agg := false, size := 1, zero := [.v .nilFunc] }
def i85 : TyI := { agg := false, size := 1, zero := [.v (.int .u64 0)], ik := some .u64 }
def i86 : TyI := { agg := true, size := 3, zero := [.s 5 1, .v (.int .i64 0), .v (.int .u64 0)], fields := [(0, 22, 1), (1, 3, 1), (2, 85, 1)] }
def i87 : TyI := { agg := true, size := 3, zero := [.s 5 1, .v (.int .i64 0), .v (.int .u64 0)], fields := [(0, 22, 1), (1, 3, 1), (2, 85, 1)] }
def i88 : TyI := { agg := false, size := 1, zero := [.v .nilFunc] }
def i89 : TyI := { agg := false, size := 1, zero := [.v (.pointer none)] }
def i90 : TyI := { agg := true, size := 4, zero := [.v (.pointer none), .v (.int .i64 0), .v (.int .i64 0), .v (.int .i64 0)], fields := [(0, 56, 1), (1, 25, 2), (3, 2, 1)] }
def i91 : TyI := { agg := true, size := 4, zero := [.v (.pointer none), .v (.int .i64 0), .v (.int .i64 0), .v (.int .i64 0)], fields := [(0, 56, 1), (1, 25, 2), (3, 2, 1)] }
def i92 : TyI := { agg := false, size := 1, zero := [.v .nilFunc] }
def i93 : TyI := { agg := false, size := 1, zero := [.v .nilFunc] }
def i94 : TyI := { agg := false, size := 1, zero := [.v .nilFunc] }
def i95 : TyI := { agg := false, size := 1, zero := [.v .nilFunc] }
def i96 : TyI := { agg := false, size := 1, zero := [.v .nilFunc] }
def i97 : TyI := { agg := false, size := 1, zero := [.v .nilFunc] }
def i98 : TyI := { agg := false, size := 1, zero := [.v .nilFunc] }
def i99 : TyI := { agg := false, size := 1, zero := [.v .nilFunc] }
def i100 : TyI := { agg := false, size := 1, zero := [.v .nilFunc] }
def i101 : TyI := { agg := false, size := 1, zero := [.v .nilFunc] }
def i102 : TyI := { agg := false, size := 1, zero := [.v .nilFunc] }
def i103 : TyI := { agg := false, size := 1, zero := [.v .nilFunc] }
def i104 : TyI := { agg := false, size := 1, zero := [.v .nilFunc] }
def i105 : TyI := { agg := false, size := 1, zero := [.v .nilFunc] }
def i106 : TyI := { agg := false, size := 1, zero := [.v .nilFunc] }
def i107 : TyI := { agg := false, size := 1, zero := [.v .nilFunc] }
def i108 : TyI := { agg := false, size := 1, zero := [.v .nilFunc] }
def i110 : TyI := { agg := false, size := 1, zero := [.v .nilFunc] }
def i111 : TyI := { agg := false, size := 1, zero := [.v .nilFunc] }
def i112 : TyI := { agg := false, size := 1, zero := [.v .nilFunc] }
def i113 : TyI := { agg := false, size := 1, zero := [.v .nilFunc] }
def i114 : TyI := { agg := false, size := 1, zero := [.v .nilFunc] }
def i115 : TyI := { agg := false, size := 1, zero := [.v .nilFunc] }
def i116 : TyI := { agg := false, size := 1, zero := [.v .nilFunc] }
def i117 : TyI := { agg := false, size := 1, zero := [.v .nilFunc] }
def i119 : TyI := { agg := false, size := 1, zero := [.v .nilFunc] }
def i120 : TyI := { agg := true, size := 7, zero := [.s 2 1, .s 34 1, .v (.int .i64 0), .s 2 1, .s 2 1, .v (.int .i64 0), .v (.int .i64 0)], fields := [(0, 37, 2), (2, 2, 1), (3, 53, 2), (5, 2, 1), (6, 2, 1)] }
def i121 : TyI := { agg := true, size := 7, zero := [.s 2 1, .s 34 1, .v (.int .i64 0), .s 2 1, .s 2 1, .v (.int .i64 0), .v (.int .i64 0)], fields := [(0, 37, 2), (2, 2, 1), (3, 53, 2), (5, 2, 1), (6, 2, 1)] }
def i122 : TyI := { agg := false, size := 1, zero := [.v .nilFunc] }
def i123 : TyI := { agg := false, size := 1, zero := [.v .nilFunc] }
def i124 : TyI := { agg := false, size := 1, zero := [.v .nilFunc] }
def i125 : TyI := { agg := false, size := 1, zero := [.v .nilFunc] }
def i126 : TyI := { agg := false, size := 1, zero := [.v .nilFunc] }
def i127 : TyI := { agg := false, size := 1, zero := [.v .nilFunc] }
def i128 : TyI := { agg := false, size := 1, zero := [.v .nilFunc] }
def i129 : TyI := { agg := false, size := 1, zero := [.v .nilFunc] }
def i130 : TyI := { agg := false, size := 1, zero := [.v .nilFunc] }
def i131 : TyI := { agg := false, size := 1, zero := [.v .nilFunc] }
def i132 : TyI := { agg := false, size := 1, zero := [.v (.pointer none)] }
def i133 : TyI := { agg := true, size := 4, zero := [.v (.pointer none), .v (.int .i64 0), .v (.int .i64 0), .v (.int .i64 0)], fields := [(0, 56, 1), (1, 25, 2), (3, 2, 1)] }
def i134 : TyI := { agg := false, size := 1, zero := [.v .nilFunc] }
def i135 : TyI := { agg := false, size := 1, zero := [.v .nilFunc] }
def i136 : TyI := { agg := false, size := 1, zero := [.v .nilFunc] }
def i137 : TyI := { agg := false, size := 1, zero := [.v .nilFunc] }
def i138 : TyI := { agg := true, size := 4, zero := [.v (.pointer none), .v (.pointer none), .v (.pointer none), .v (.string .empty)], fields := [(0, 17, 1), (1, 17, 1), (2, 17, 1), (3, 9, 1)] }
def i139 : TyI := { agg := true, size := 4, zero := [.v (.pointer none), .v (.pointer none), .v (.pointer none), .v (.string .empty)], fields := [(0, 17, 1), (1, 17, 1), (2, 17, 1), (3, 9, 1)] }
def i140 : TyI := { agg := true, size := 0, zero := [] }
def i141 : TyI := { agg := true, size := 0, zero := [] }
def i142 : TyI := { agg := true, size := 0, zero := [] }
def i143 : TyI := { agg := false, size := 1, zero := [.v .nilFunc] }
def i144 : TyI := { agg := false, size := 1, zero := [.v (.int .u32 0)], ik := some .u32 }
def i145 : TyI := { agg := false, size := 1, zero := [.v (.int .u8 0)], ik := some .u8 }
def i146 : TyI := { agg := false, size := 1, zero := [.v (.int .u8 0)], ik := some .u8 }
def i147 : TyI := { agg := false, size := 1, zero := [.v .nilFunc] }
def i148 : TyI := { agg := false, size := 1, zero := [.v (.pointer none)] }
def i149 : TyI := { agg := false, size := 1, zero := [.v (.int .i32 0)], ik := some .i32 }
def i150 : TyI := { agg := false, size := 1, zero := [.v (.int .i32 0)], ik := some .i32 }
def i151 : TyI := { agg := true, size := 11, zero := [.v (.int .u64 0), .v (.int .u64 0), .v (.int .u32 0), .v (.int .u8 0), .v (.int .u8 0), .v (.int .u8 0), .v (.int .u8 0), .v .nilFunc, .v (.pointer none), .v (.int .i32 0), .v (.int .i32 0)], fields := [(0, 12, 1), (1, 12, 1), (2, 144, 1), (3, 145, 1), (4, 5, 1), (5, 5, 1), (6, 146, 1), (7, 147, 1), (8, 148, 1), (9, 149, 1), (10, 150, 1)] }
def i152 : TyI := { agg := true, size := 11, zero := [.v (.int .u64 0), .v (.int .u64 0), .v (.int .u32 0), .v (.int .u8 0), .v (.int .u8 0), .v (.int .u8 0), .v (.int .u8 0), .v .nilFunc, .v (.pointer none), .v (.int .i32 0), .v (.int .i32 0)], fields := [(0, 12, 1), (1, 12, 1), (2, 144, 1), (3, 145, 1), (4, 5, 1), (5, 5, 1), (6, 146, 1), (7, 147, 1), (8, 148, 1), (9, 149, 1), (10, 150, 1)] }
def tbl : TT := (.node (.node (.node (.node (.node (.node (.node (.node .leaf 1 i1 .leaf) 2 i2 .leaf) 3 i3 (.node .leaf 4 i4 .leaf)) 5 i5 (.node (.node (.node .leaf 6 i6 .leaf) 7 i7 .leaf) 8 i8 (.node .leaf 9 i9 .leaf))) 10 i10 (.node (.node (.node (.node .leaf 11 i11 .leaf) 12 i12 .leaf) 13 i13 (.node .leaf 14 i14 .leaf)) 15 i15 (.node (.node .leaf 16 i16 .leaf) 17 i17 (.node .leaf 18 i18 .leaf)))) 19 i19 (.node (.node (.node (.node (.node .leaf 21 i21 .leaf) 22 i22 .leaf) 23 i23 (.node .leaf 24 i24 .leaf)) 25 i25 (.node (.node .leaf 26 i26 .leaf) 27 i27 (.node .leaf 28 i28 .leaf))) 29 i29 (.node (.node (.node (.node .leaf 30 i30 .leaf) 31 i31 .leaf) 33 i33 (.node .leaf 34 i34 .leaf)) 35 i35 (.node (.node .leaf 36 i36 .leaf) 37 i37 (.node .leaf 38 i38 .leaf))))) 39 i39 (.node (.node (.node (.node (.node (.node .leaf 40 i40 .leaf) 41 i41 .leaf) 42 i42 (.node .leaf 43 i43 .leaf)) 45 i45 (.node (.node .leaf 47 i47 .leaf) 48 i48 (.node .leaf 49 i49 .leaf))) 51 i51 (.node (.node (.node (.node .leaf 52 i52 .leaf) 53 i53 .leaf) 55 i55 (.node .leaf 56 i56 .leaf)) 57 i57 (.node (.node .leaf 58 i58 .leaf) 59 i59 (.node .leaf 60 i60 .leaf)))) 61 i61 (.node (.node (.node (.node (.node .leaf 62 i62 .leaf) 63 i63 .leaf) 64 i64 (.node .leaf 65 i65 .leaf)) 66 i66 (.node (.node .leaf 67 i67 .leaf) 68 i68 (.node .leaf 69 i69 .leaf))) 70 i70 (.node (.node (.node (.node .leaf 71 i71 .leaf) 72 i72 .leaf) 73 i73 (.node .leaf 74 i74 .leaf)) 75 i75 (.node (.node .leaf 76 i76 .leaf) 77 i77 (.node .leaf 78 i78 .leaf)))))) 79 i79 (.node (.node (.node (.node (.node (.node (.node .leaf 80 i80 .leaf) 81 i81 .leaf) 82 i82 (.node .leaf 83 i83 .leaf)) 84 i84 (.node (.node .leaf 85 i85 .leaf) 86 i86 (.node .leaf 87 i87 .leaf))) 88 i88 (.node (.node (.node (.node .leaf 89 i89 .leaf) 90 i90 .leaf) 91 i91 (.node .leaf 92 i92 .leaf)) 93 i93 (.node (.node .leaf 94 i94 .leaf) 95 i95 (.node .leaf 96 i96 .leaf)))) 97 i97 (.node (.node (.node (.node (.node .leaf 98 i98 .leaf) 99 i99 .leaf) 100 i100 (.node .leaf 101 i101 .leaf)) 102 i102 (.node (.node .leaf 103 i103 .leaf) 104 i104 (.node .leaf 105 i105 .leaf))) 106 i106 (.node (.node (.node (.node .leaf 107 i107 .leaf) 108 i108 .leaf) 110 i110 (.node .leaf 111 i111 .leaf)) 112 i112 (.node (.node .leaf 113 i113 .leaf) 114 i114 (.node .leaf 115 i115 .leaf))))) 116 i116 (.node (.node (.node (.node (.node (.node .leaf 117 i117 .leaf) 119 i119 .leaf) 120 i120 (.node .leaf 121 i121 .leaf)) 122 i122 (.node (.node .leaf 123 i123 .leaf) 124 i124 (.node .leaf 125 i125 .leaf))) 126 i126 (.node (.node (.node (.node .leaf 127 i127 .leaf) 128 i128 .leaf) 129 i129 (.node .leaf 130 i130 .leaf)) 131 i131 (.node (.node .leaf 132 i132 .leaf) 133 i133 (.node .leaf 134 i134 .leaf)))) 135 i135 (.node (.node (.node (.node (.node .leaf 136 i136 .leaf) 137 i137 .leaf) 138 i138 (.node .leaf 139 i139 .leaf)) 140 i140 (.node (.node .leaf 141 i141 .leaf) 142 i142 (.node .leaf 143 i143 .leaf))) 144 i144 (.node (.node (.node (.node .leaf 145 i145 .leaf) 146 i146 .leaf) 147 i147 (.node .leaf 148 i148 .leaf)) 149 i149 (.node (.node .leaf 150 i150 .leaf) 151 i151 (.node .leaf 152 i152 .leaf)))))))
theorem htb : TblOk Try.prog tbl := tblOk_of (by kernel_rfl)
end Go.Proofs.Ytlfigjkddnncgaa
