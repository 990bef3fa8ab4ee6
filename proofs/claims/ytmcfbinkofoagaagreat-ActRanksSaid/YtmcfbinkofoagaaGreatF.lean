/- Closed facts on the program's tables, each asked of the kernel once. -/
import Derived.Test.YtmcfbinkofoagaaGreatSx
import Derived.Test.YtmcfbinkofoagaaGreatProg
namespace Go.Proofs.YtmcfbinkofoagaaGreat
open Go Sx Go.Proofs
theorem mixed : Tryz.prog.follows .mixedOrders = true := by kernel_rfl
theorem fn2 : isFn Tryz.prog 2 = true := by kernel_rfl
theorem fn3 : isFn Tryz.prog 3 = true := by kernel_rfl
theorem u22 : Tryz.prog.underlying 22 = some (.pointer 38) := by kernel_rfl
theorem z26 : zeroC Tryz.prog 26 = some [.int .i64 0, .int .i64 0, .int .i64 0, .slice none 0 0] := by kernel_rfl
theorem bf26 : fieldsOf Tryz.prog 26 = some #[(0, 1), (1, 1), (2, 1), (3, 1)] := by kernel_rfl
theorem sz26 : szOf Tryz.prog 26 = some 4 := by kernel_rfl
theorem f26_0 : fldO Tryz.prog 26 0 = some 0 := by kernel_rfl
theorem sz3 : szOf Tryz.prog 3 = some 1 := by kernel_rfl
theorem f38_0 : fldO Tryz.prog 38 0 = some 0 := by kernel_rfl
theorem s31 : scal Tryz.prog 31 = true := by kernel_rfl
theorem f38_1 : fldO Tryz.prog 38 1 = some 1 := by kernel_rfl
theorem s32 : scal Tryz.prog 32 = true := by kernel_rfl
theorem f38_2 : fldO Tryz.prog 38 2 = some 2 := by kernel_rfl
theorem s33 : scal Tryz.prog 33 = true := by kernel_rfl
theorem a26 : aggN Tryz.prog 26 = some 4 := by kernel_rfl
theorem z44 : zeroC Tryz.prog 44 = some [.int .i64 0, .int .i64 0, .int .u8 0, .int .u8 0, .int .u8 0, .int .u8 0, .int .u8 0, .int .u8 0, .int .u8 0, .int .u8 0, .int .u8 0, .int .u8 0, .int .u8 0, .int .u8 0, .int .u8 0, .int .u8 0, .int .u8 0, .int .u8 0, .int .u8 0, .int .u8 0, .int .u8 0, .int .u8 0, .int .u8 0, .int .u8 0, .int .u8 0, .int .u8 0, .int .u8 0, .int .u8 0, .int .u8 0, .int .u8 0, .int .u8 0, .int .u8 0, .int .u8 0, .int .u8 0, .int .i64 0, .int .i64 0, .int .i64 0, .bool false, .int .i64 0, .int .i64 0, .int .i64 0, .int .i64 0, .int .i64 0, .int .i64 0, .int .i64 0] := by kernel_rfl
theorem sz44 : szOf Tryz.prog 44 = some 45 := by kernel_rfl
theorem u28 : Tryz.prog.underlying 28 = some (.int .i64) := by kernel_rfl
theorem u27 : Tryz.prog.underlying 27 = some (.slice 52) := by kernel_rfl
theorem e27 : slE Tryz.prog 27 = some (52, 3) := by kernel_rfl
theorem z52 : zeroC Tryz.prog 52 = some [.int .i64 0, .int .i64 0, .int .i64 0] := by kernel_rfl
theorem sz52 : szOf Tryz.prog 52 = some 3 := by kernel_rfl
theorem by52 : Tryz.prog.bytesOf 52 = 24 := by kernel_rfl
theorem u3 : Tryz.prog.underlying 3 = some (.int .i64) := by kernel_rfl
theorem f44_0 : fldO Tryz.prog 44 0 = some 0 := by kernel_rfl
theorem s3 : scal Tryz.prog 3 = true := by kernel_rfl
theorem f44_10 : fldO Tryz.prog 44 10 = some 41 := by kernel_rfl
theorem fn4 : isFn Tryz.prog 4 = true := by kernel_rfl
theorem e49 : slE Tryz.prog 49 = some (3, 1) := by kernel_rfl
theorem z3 : zeroC Tryz.prog 3 = some [.int .i64 0] := by kernel_rfl
theorem u49 : Tryz.prog.underlying 49 = some (.slice 3) := by kernel_rfl
theorem a52 : aggN Tryz.prog 52 = some 3 := by kernel_rfl
theorem bf52 : fieldsOf Tryz.prog 52 = some #[(0, 1), (1, 1), (2, 1)] := by kernel_rfl
theorem q52 : eqT Tryz.prog 52 = true := by kernel_rfl
theorem fn5 : isFn Tryz.prog 5 = true := by kernel_rfl
theorem by3 : Tryz.prog.bytesOf 3 = 8 := by kernel_rfl
theorem f26_3 : fldO Tryz.prog 26 3 = some 3 := by kernel_rfl
theorem s24 : scal Tryz.prog 24 = true := by kernel_rfl
theorem e24 : slE Tryz.prog 24 = some (26, 4) := by kernel_rfl
theorem u24 : Tryz.prog.underlying 24 = some (.slice 26) := by kernel_rfl
theorem by26 : Tryz.prog.bytesOf 26 = 48 := by kernel_rfl
theorem sz24 : szOf Tryz.prog 24 = some 1 := by kernel_rfl
theorem fn6 : isFn Tryz.prog 6 = true := by kernel_rfl
theorem fn7 : isFn Tryz.prog 7 = true := by kernel_rfl
theorem f38_3 : fldO Tryz.prog 38 3 = some 3 := by kernel_rfl
theorem s34 : scal Tryz.prog 34 = true := by kernel_rfl
theorem f38_4 : fldO Tryz.prog 38 4 = some 4 := by kernel_rfl
theorem s35 : scal Tryz.prog 35 = true := by kernel_rfl
theorem f38_5 : fldO Tryz.prog 38 5 = some 5 := by kernel_rfl
theorem s36 : scal Tryz.prog 36 = true := by kernel_rfl
theorem fn8 : isFn Tryz.prog 8 = true := by kernel_rfl
theorem fn9 : isFn Tryz.prog 9 = true := by kernel_rfl
theorem z38 : zeroC Tryz.prog 38 = some [.pointer none, .pointer none, .pointer none, .pointer none, .pointer none, .pointer none] := by kernel_rfl
theorem bf38 : fieldsOf Tryz.prog 38 = some #[(0, 1), (1, 1), (2, 1), (3, 1), (4, 1), (5, 1)] := by kernel_rfl
theorem sz38 : szOf Tryz.prog 38 = some 6 := by kernel_rfl
theorem u31 : Tryz.prog.underlying 31 = some (.pointer 106) := by kernel_rfl
theorem u33 : Tryz.prog.underlying 33 = some (.pointer 90) := by kernel_rfl
theorem u32 : Tryz.prog.underlying 32 = some (.pointer 130) := by kernel_rfl
theorem z40 : zeroC Tryz.prog 40 = some [.int .u8 0, .int .u8 0, .int .u8 0, .int .u8 0, .int .u8 0, .int .u8 0, .int .u8 0, .int .u8 0, .int .u8 0, .int .u8 0, .int .u8 0, .int .u8 0, .int .u8 0, .int .u8 0, .int .u8 0, .int .u8 0, .int .u8 0, .int .u8 0, .int .u8 0, .int .u8 0, .int .u8 0, .int .u8 0, .int .u8 0, .int .u8 0, .int .u8 0, .int .u8 0, .int .u8 0, .int .u8 0, .int .u8 0, .int .u8 0, .int .u8 0, .int .u8 0] := by kernel_rfl
theorem u40 : Tryz.prog.underlying 40 = some (.array 32 5) := by kernel_rfl
theorem ar40 : arE Tryz.prog 40 = some (32, 5, 1) := by kernel_rfl
theorem fn10 : isFn Tryz.prog 10 = true := by kernel_rfl
theorem z80 : zeroC Tryz.prog 80 = some [.int .i64 0, .int .i64 0, .int .i64 0, .int .i64 0, .int .i64 0, .int .i64 0, .int .i64 0, .int .i64 0, .int .i64 0, .int .i64 0, .int .i64 0, .int .i64 0, .int .i64 0, .int .i64 0, .int .i64 0, .int .i64 0, .int .i64 0, .int .i64 0] := by kernel_rfl
theorem sz80 : szOf Tryz.prog 80 = some 18 := by kernel_rfl
theorem z86 : zeroC Tryz.prog 86 = some [.pointer none, .pointer none, .pointer none, .int .i64 0, .int .i64 0] := by kernel_rfl
theorem bf86 : fieldsOf Tryz.prog 86 = some #[(0, 1), (1, 1), (2, 1), (3, 1), (4, 1)] := by kernel_rfl
theorem sz86 : szOf Tryz.prog 86 = some 5 := by kernel_rfl
theorem fn11 : isFn Tryz.prog 11 = true := by kernel_rfl
theorem a44 : aggN Tryz.prog 44 = some 45 := by kernel_rfl
theorem bf44 : fieldsOf Tryz.prog 44 = some #[(0, 1), (1, 1), (2, 32), (34, 1), (35, 1), (36, 1), (37, 1), (38, 1), (39, 1), (40, 1), (41, 1), (42, 3)] := by kernel_rfl
theorem f90_1 : fldO Tryz.prog 90 1 = some 1 := by kernel_rfl
theorem s88 : scal Tryz.prog 88 = true := by kernel_rfl
theorem fn12 : isFn Tryz.prog 12 = true := by kernel_rfl
theorem fn13 : isFn Tryz.prog 13 = true := by kernel_rfl
theorem z93 : zeroC Tryz.prog 93 = some [.int .i64 0, .int .i64 0] := by kernel_rfl
theorem sz93 : szOf Tryz.prog 93 = some 2 := by kernel_rfl
theorem f93_0 : fldO Tryz.prog 93 0 = some 0 := by kernel_rfl
theorem fn14 : isFn Tryz.prog 14 = true := by kernel_rfl
theorem fn15 : isFn Tryz.prog 15 = true := by kernel_rfl
theorem f98_0 : fldO Tryz.prog 98 0 = some 0 := by kernel_rfl
theorem s67 : scal Tryz.prog 67 = true := by kernel_rfl
theorem u67 : Tryz.prog.underlying 67 = some (.slice 80) := by kernel_rfl
theorem e67 : slE Tryz.prog 67 = some (80, 18) := by kernel_rfl
theorem by80 : Tryz.prog.bytesOf 80 = 144 := by kernel_rfl
theorem a80 : aggN Tryz.prog 80 = some 18 := by kernel_rfl
theorem f26_2 : fldO Tryz.prog 26 2 = some 2 := by kernel_rfl
theorem f80_8 : fldO Tryz.prog 80 8 = some 16 := by kernel_rfl
theorem f26_1 : fldO Tryz.prog 26 1 = some 1 := by kernel_rfl
theorem f80_9 : fldO Tryz.prog 80 9 = some 17 := by kernel_rfl
theorem fn16 : isFn Tryz.prog 16 = true := by kernel_rfl
theorem f98_1 : fldO Tryz.prog 98 1 = some 1 := by kernel_rfl
theorem s96 : scal Tryz.prog 96 = true := by kernel_rfl
theorem u96 : Tryz.prog.underlying 96 = some (.slice 44) := by kernel_rfl
theorem e96 : slE Tryz.prog 96 = some (44, 45) := by kernel_rfl
theorem by44 : Tryz.prog.bytesOf 44 = 136 := by kernel_rfl
theorem q44 : eqT Tryz.prog 44 = true := by kernel_rfl
theorem fn17 : isFn Tryz.prog 17 = true := by kernel_rfl
theorem z106 : zeroC Tryz.prog 106 = some [.slice none 0 0, .pointer none] := by kernel_rfl
theorem bf106 : fieldsOf Tryz.prog 106 = some #[(0, 1), (1, 1)] := by kernel_rfl
theorem sz106 : szOf Tryz.prog 106 = some 2 := by kernel_rfl
theorem bf93 : fieldsOf Tryz.prog 93 = some #[(0, 1), (1, 1)] := by kernel_rfl
theorem f106_0 : fldO Tryz.prog 106 0 = some 0 := by kernel_rfl
theorem s104 : scal Tryz.prog 104 = true := by kernel_rfl
theorem a93 : aggN Tryz.prog 93 = some 2 := by kernel_rfl
theorem e104 : slE Tryz.prog 104 = some (93, 2) := by kernel_rfl
theorem u104 : Tryz.prog.underlying 104 = some (.slice 93) := by kernel_rfl
theorem by93 : Tryz.prog.bytesOf 93 = 16 := by kernel_rfl
theorem sz104 : szOf Tryz.prog 104 = some 1 := by kernel_rfl
theorem fn18 : isFn Tryz.prog 18 = true := by kernel_rfl
theorem e109 : slE Tryz.prog 109 = some (114, 3) := by kernel_rfl
theorem z114 : zeroC Tryz.prog 114 = some [.int .i64 0, .int .i64 0, .slice none 0 0] := by kernel_rfl
theorem by114 : Tryz.prog.bytesOf 114 = 40 := by kernel_rfl
theorem u109 : Tryz.prog.underlying 109 = some (.slice 114) := by kernel_rfl
theorem z111 : zeroC Tryz.prog 111 = some [.slice none 0 0] := by kernel_rfl
theorem bf111 : fieldsOf Tryz.prog 111 = some #[(0, 1)] := by kernel_rfl
theorem sz111 : szOf Tryz.prog 111 = some 1 := by kernel_rfl
theorem f111_0 : fldO Tryz.prog 111 0 = some 0 := by kernel_rfl
theorem s109 : scal Tryz.prog 109 = true := by kernel_rfl
theorem f114_0 : fldO Tryz.prog 114 0 = some 0 := by kernel_rfl
theorem fn19 : isFn Tryz.prog 19 = true := by kernel_rfl
theorem z90 : zeroC Tryz.prog 90 = some [.slice none 0 0, .pointer none] := by kernel_rfl
theorem bf90 : fieldsOf Tryz.prog 90 = some #[(0, 1), (1, 1)] := by kernel_rfl
theorem sz90 : szOf Tryz.prog 90 = some 2 := by kernel_rfl
theorem fn20 : isFn Tryz.prog 20 = true := by kernel_rfl
theorem bf80 : fieldsOf Tryz.prog 80 = some #[(0, 1), (1, 1), (2, 1), (3, 1), (4, 1), (5, 1), (6, 5), (11, 5), (16, 1), (17, 1)] := by kernel_rfl
theorem fn21 : isFn Tryz.prog 21 = true := by kernel_rfl
theorem z98 : zeroC Tryz.prog 98 = some [.slice none 0 0, .slice none 0 0] := by kernel_rfl
theorem bf98 : fieldsOf Tryz.prog 98 = some #[(0, 1), (1, 1)] := by kernel_rfl
theorem sz98 : szOf Tryz.prog 98 = some 2 := by kernel_rfl
theorem fn22 : isFn Tryz.prog 22 = true := by kernel_rfl
theorem z130 : zeroC Tryz.prog 130 = some [.pointer none, .pointer none, .pointer none, .pointer none, .pointer none, .pointer none, .pointer none, .pointer none, .pointer none, .pointer none, .pointer none, .pointer none, .pointer none, .pointer none] := by kernel_rfl
theorem bf130 : fieldsOf Tryz.prog 130 = some #[(0, 12), (12, 1), (13, 1)] := by kernel_rfl
theorem sz130 : szOf Tryz.prog 130 = some 14 := by kernel_rfl
theorem fn23 : isFn Tryz.prog 23 = true := by kernel_rfl
theorem e131 : slE Tryz.prog 131 = some (171, 7) := by kernel_rfl
theorem z171 : zeroC Tryz.prog 171 = some [.bool false, .int .i64 0, .int .i64 0, .int .i64 0, .int .i64 0, .int .i64 0, .int .i64 0] := by kernel_rfl
theorem by171 : Tryz.prog.bytesOf 171 = 56 := by kernel_rfl
theorem u131 : Tryz.prog.underlying 131 = some (.slice 171) := by kernel_rfl
theorem e132 : slE Tryz.prog 132 = some (235, 9) := by kernel_rfl
theorem z235 : zeroC Tryz.prog 235 = some [.slice none 0 0, .bool false, .int .i64 0, .int .i64 0, .int .i64 0, .int .i64 0, .int .i64 0, .int .i64 0, .int .i64 0] := by kernel_rfl
theorem by235 : Tryz.prog.bytesOf 235 = 88 := by kernel_rfl
theorem u132 : Tryz.prog.underlying 132 = some (.slice 235) := by kernel_rfl
theorem z134 : zeroC Tryz.prog 134 = some [.slice none 0 0, .slice none 0 0] := by kernel_rfl
theorem bf134 : fieldsOf Tryz.prog 134 = some #[(0, 1), (1, 1)] := by kernel_rfl
theorem sz134 : szOf Tryz.prog 134 = some 2 := by kernel_rfl
theorem fn24 : isFn Tryz.prog 24 = true := by kernel_rfl
theorem sz40 : szOf Tryz.prog 40 = some 32 := by kernel_rfl
theorem a40 : aggN Tryz.prog 40 = some 32 := by kernel_rfl
theorem fn25 : isFn Tryz.prog 25 = true := by kernel_rfl
theorem sz96 : szOf Tryz.prog 96 = some 1 := by kernel_rfl
theorem fn26 : isFn Tryz.prog 26 = true := by kernel_rfl
theorem f90_0 : fldO Tryz.prog 90 0 = some 0 := by kernel_rfl
theorem fn27 : isFn Tryz.prog 27 = true := by kernel_rfl
theorem fn28 : isFn Tryz.prog 28 = true := by kernel_rfl
theorem f86_2 : fldO Tryz.prog 86 2 = some 2 := by kernel_rfl
theorem f86_3 : fldO Tryz.prog 86 3 = some 3 := by kernel_rfl
theorem f86_1 : fldO Tryz.prog 86 1 = some 1 := by kernel_rfl
theorem f86_4 : fldO Tryz.prog 86 4 = some 4 := by kernel_rfl
theorem f86_0 : fldO Tryz.prog 86 0 = some 0 := by kernel_rfl
theorem fn29 : isFn Tryz.prog 29 = true := by kernel_rfl
theorem u88 : Tryz.prog.underlying 88 = some (.pointer 150) := by kernel_rfl
theorem f150_0 : fldO Tryz.prog 150 0 = some 0 := by kernel_rfl
theorem s148 : scal Tryz.prog 148 = true := by kernel_rfl
theorem e148 : slE Tryz.prog 148 = some (147, 47) := by kernel_rfl
theorem f147_1 : fldO Tryz.prog 147 1 = some 2 := by kernel_rfl
theorem fn30 : isFn Tryz.prog 30 = true := by kernel_rfl
theorem fn31 : isFn Tryz.prog 31 = true := by kernel_rfl
theorem fn32 : isFn Tryz.prog 32 = true := by kernel_rfl
theorem fn33 : isFn Tryz.prog 33 = true := by kernel_rfl
theorem fn34 : isFn Tryz.prog 34 = true := by kernel_rfl
theorem f44_6 : fldO Tryz.prog 44 6 = some 37 := by kernel_rfl
theorem s4 : scal Tryz.prog 4 = true := by kernel_rfl
theorem f44_5 : fldO Tryz.prog 44 5 = some 36 := by kernel_rfl
theorem sz4 : szOf Tryz.prog 4 = some 1 := by kernel_rfl
theorem f44_7 : fldO Tryz.prog 44 7 = some 38 := by kernel_rfl
theorem f44_1 : fldO Tryz.prog 44 1 = some 1 := by kernel_rfl
theorem f80_1 : fldO Tryz.prog 80 1 = some 1 := by kernel_rfl
theorem fn35 : isFn Tryz.prog 35 = true := by kernel_rfl
theorem fn36 : isFn Tryz.prog 36 = true := by kernel_rfl
theorem f93_1 : fldO Tryz.prog 93 1 = some 1 := by kernel_rfl
theorem fn37 : isFn Tryz.prog 37 = true := by kernel_rfl
theorem f114_1 : fldO Tryz.prog 114 1 = some 1 := by kernel_rfl
theorem fn38 : isFn Tryz.prog 38 = true := by kernel_rfl
theorem z155 : zeroC Tryz.prog 155 = some [.slice none 0 0] := by kernel_rfl
theorem bf155 : fieldsOf Tryz.prog 155 = some #[(0, 1)] := by kernel_rfl
theorem sz155 : szOf Tryz.prog 155 = some 1 := by kernel_rfl
theorem fn39 : isFn Tryz.prog 39 = true := by kernel_rfl
theorem fn40 : isFn Tryz.prog 40 = true := by kernel_rfl
theorem fn41 : isFn Tryz.prog 41 = true := by kernel_rfl
theorem fn42 : isFn Tryz.prog 42 = true := by kernel_rfl
theorem f80_0 : fldO Tryz.prog 80 0 = some 0 := by kernel_rfl
theorem f80_2 : fldO Tryz.prog 80 2 = some 2 := by kernel_rfl
theorem f80_4 : fldO Tryz.prog 80 4 = some 4 := by kernel_rfl
theorem f80_5 : fldO Tryz.prog 80 5 = some 5 := by kernel_rfl
theorem f80_3 : fldO Tryz.prog 80 3 = some 3 := by kernel_rfl
theorem f80_6 : fldO Tryz.prog 80 6 = some 6 := by kernel_rfl
theorem a78 : aggN Tryz.prog 78 = some 5 := by kernel_rfl
theorem f80_7 : fldO Tryz.prog 80 7 = some 11 := by kernel_rfl
theorem fn43 : isFn Tryz.prog 43 = true := by kernel_rfl
theorem fn44 : isFn Tryz.prog 44 = true := by kernel_rfl
theorem fn45 : isFn Tryz.prog 45 = true := by kernel_rfl
theorem z150 : zeroC Tryz.prog 150 = some [.slice none 0 0] := by kernel_rfl
theorem bf150 : fieldsOf Tryz.prog 150 = some #[(0, 1)] := by kernel_rfl
theorem sz150 : szOf Tryz.prog 150 = some 1 := by kernel_rfl
theorem fn46 : isFn Tryz.prog 46 = true := by kernel_rfl
theorem z78 : zeroC Tryz.prog 78 = some [.int .i64 0, .int .i64 0, .int .i64 0, .int .i64 0, .int .i64 0] := by kernel_rfl
theorem bf78 : fieldsOf Tryz.prog 78 = some #[(0, 1), (1, 1), (2, 1), (3, 1), (4, 1)] := by kernel_rfl
theorem sz78 : szOf Tryz.prog 78 = some 5 := by kernel_rfl
theorem fn47 : isFn Tryz.prog 47 = true := by kernel_rfl
theorem fn48 : isFn Tryz.prog 48 = true := by kernel_rfl
theorem z161 : zeroC Tryz.prog 161 = some [.slice none 0 0] := by kernel_rfl
theorem bf161 : fieldsOf Tryz.prog 161 = some #[(0, 1)] := by kernel_rfl
theorem sz161 : szOf Tryz.prog 161 = some 1 := by kernel_rfl
theorem fn49 : isFn Tryz.prog 49 = true := by kernel_rfl
theorem z164 : zeroC Tryz.prog 164 = some [.slice none 0 0] := by kernel_rfl
theorem bf164 : fieldsOf Tryz.prog 164 = some #[(0, 1)] := by kernel_rfl
theorem sz164 : szOf Tryz.prog 164 = some 1 := by kernel_rfl
theorem fn50 : isFn Tryz.prog 50 = true := by kernel_rfl
theorem u148 : Tryz.prog.underlying 148 = some (.slice 147) := by kernel_rfl
theorem z147 : zeroC Tryz.prog 147 = some [.int .i64 0, .int .i64 0, .int .i64 0, .int .i64 0, .int .u8 0, .int .u8 0, .int .u8 0, .int .u8 0, .int .u8 0, .int .u8 0, .int .u8 0, .int .u8 0, .int .u8 0, .int .u8 0, .int .u8 0, .int .u8 0, .int .u8 0, .int .u8 0, .int .u8 0, .int .u8 0, .int .u8 0, .int .u8 0, .int .u8 0, .int .u8 0, .int .u8 0, .int .u8 0, .int .u8 0, .int .u8 0, .int .u8 0, .int .u8 0, .int .u8 0, .int .u8 0, .int .u8 0, .int .u8 0, .int .u8 0, .int .u8 0, .int .i64 0, .int .i64 0, .int .i64 0, .bool false, .int .i64 0, .int .i64 0, .int .i64 0, .int .i64 0, .int .i64 0, .int .i64 0, .int .i64 0] := by kernel_rfl
theorem sz147 : szOf Tryz.prog 147 = some 47 := by kernel_rfl
theorem by147 : Tryz.prog.bytesOf 147 = 152 := by kernel_rfl
theorem fn51 : isFn Tryz.prog 51 = true := by kernel_rfl
theorem u127 : Tryz.prog.underlying 127 = some (.pointer 167) := by kernel_rfl
theorem f167_2 : fldO Tryz.prog 167 2 = some 4 := by kernel_rfl
theorem f167_3 : fldO Tryz.prog 167 3 = some 5 := by kernel_rfl
theorem fn52 : isFn Tryz.prog 52 = true := by kernel_rfl
theorem fn53 : isFn Tryz.prog 53 = true := by kernel_rfl
theorem z167 : zeroC Tryz.prog 167 = some [.int .i64 0, .int .i64 0, .int .i64 0, .int .i64 0, .int .i64 0, .int .i64 0] := by kernel_rfl
theorem bf167 : fieldsOf Tryz.prog 167 = some #[(0, 1), (1, 3), (4, 1), (5, 1)] := by kernel_rfl
theorem sz167 : szOf Tryz.prog 167 = some 6 := by kernel_rfl
theorem f130_0 : fldO Tryz.prog 130 0 = some 0 := by kernel_rfl
theorem ar128 : arE Tryz.prog 128 = some (12, 127, 1) := by kernel_rfl
theorem sz127 : szOf Tryz.prog 127 = some 1 := by kernel_rfl
theorem fn54 : isFn Tryz.prog 54 = true := by kernel_rfl
theorem z145 : zeroC Tryz.prog 145 = some [.int .i64 0, .int .i64 0] := by kernel_rfl
theorem u145 : Tryz.prog.underlying 145 = some (.array 2 3) := by kernel_rfl
theorem ar145 : arE Tryz.prog 145 = some (2, 3, 1) := by kernel_rfl
theorem bf147 : fieldsOf Tryz.prog 147 = some #[(0, 2), (2, 45)] := by kernel_rfl
theorem sz148 : szOf Tryz.prog 148 = some 1 := by kernel_rfl
theorem fn55 : isFn Tryz.prog 55 = true := by kernel_rfl
theorem fn56 : isFn Tryz.prog 56 = true := by kernel_rfl
theorem f134_0 : fldO Tryz.prog 134 0 = some 0 := by kernel_rfl
theorem s131 : scal Tryz.prog 131 = true := by kernel_rfl
theorem f171_0 : fldO Tryz.prog 171 0 = some 0 := by kernel_rfl
theorem fn57 : isFn Tryz.prog 57 = true := by kernel_rfl
theorem fn58 : isFn Tryz.prog 58 = true := by kernel_rfl
theorem bf171 : fieldsOf Tryz.prog 171 = some #[(0, 1), (1, 1), (2, 1), (3, 1), (4, 3)] := by kernel_rfl
theorem sz171 : szOf Tryz.prog 171 = some 7 := by kernel_rfl
theorem fn59 : isFn Tryz.prog 59 = true := by kernel_rfl
theorem fn60 : isFn Tryz.prog 60 = true := by kernel_rfl
theorem fn61 : isFn Tryz.prog 61 = true := by kernel_rfl
theorem fn62 : isFn Tryz.prog 62 = true := by kernel_rfl
theorem fn63 : isFn Tryz.prog 63 = true := by kernel_rfl
theorem sz31 : szOf Tryz.prog 31 = some 1 := by kernel_rfl
theorem z27 : zeroC Tryz.prog 27 = some [.slice none 0 0] := by kernel_rfl
theorem sz27 : szOf Tryz.prog 27 = some 1 := by kernel_rfl
theorem s27 : scal Tryz.prog 27 = true := by kernel_rfl
theorem fn64 : isFn Tryz.prog 64 = true := by kernel_rfl
theorem fn65 : isFn Tryz.prog 65 = true := by kernel_rfl
theorem fn66 : isFn Tryz.prog 66 = true := by kernel_rfl
theorem fn67 : isFn Tryz.prog 67 = true := by kernel_rfl
theorem fn68 : isFn Tryz.prog 68 = true := by kernel_rfl
theorem f44_11 : fldO Tryz.prog 44 11 = some 42 := by kernel_rfl
theorem sz42 : szOf Tryz.prog 42 = some 3 := by kernel_rfl
theorem fn69 : isFn Tryz.prog 69 = true := by kernel_rfl
theorem fn70 : isFn Tryz.prog 70 = true := by kernel_rfl
theorem fn71 : isFn Tryz.prog 71 = true := by kernel_rfl
theorem f78_1 : fldO Tryz.prog 78 1 = some 1 := by kernel_rfl
theorem f78_2 : fldO Tryz.prog 78 2 = some 2 := by kernel_rfl
theorem f78_3 : fldO Tryz.prog 78 3 = some 3 := by kernel_rfl
theorem f78_0 : fldO Tryz.prog 78 0 = some 0 := by kernel_rfl
theorem f78_4 : fldO Tryz.prog 78 4 = some 4 := by kernel_rfl
theorem fn72 : isFn Tryz.prog 72 = true := by kernel_rfl
theorem fn73 : isFn Tryz.prog 73 = true := by kernel_rfl
theorem fn74 : isFn Tryz.prog 74 = true := by kernel_rfl
theorem fn75 : isFn Tryz.prog 75 = true := by kernel_rfl
theorem s127 : scal Tryz.prog 127 = true := by kernel_rfl
theorem fn76 : isFn Tryz.prog 76 = true := by kernel_rfl
theorem fn77 : isFn Tryz.prog 77 = true := by kernel_rfl
theorem fn78 : isFn Tryz.prog 78 = true := by kernel_rfl
theorem fn79 : isFn Tryz.prog 79 = true := by kernel_rfl
theorem fn80 : isFn Tryz.prog 80 = true := by kernel_rfl
theorem fn81 : isFn Tryz.prog 81 = true := by kernel_rfl
theorem fn82 : isFn Tryz.prog 82 = true := by kernel_rfl
theorem fn83 : isFn Tryz.prog 83 = true := by kernel_rfl
theorem fn84 : isFn Tryz.prog 84 = true := by kernel_rfl
theorem fn85 : isFn Tryz.prog 85 = true := by kernel_rfl
theorem fn86 : isFn Tryz.prog 86 = true := by kernel_rfl
theorem fn87 : isFn Tryz.prog 87 = true := by kernel_rfl
theorem fn88 : isFn Tryz.prog 88 = true := by kernel_rfl
theorem fn89 : isFn Tryz.prog 89 = true := by kernel_rfl
theorem fn90 : isFn Tryz.prog 90 = true := by kernel_rfl
theorem fn91 : isFn Tryz.prog 91 = true := by kernel_rfl
theorem sz145 : szOf Tryz.prog 145 = some 2 := by kernel_rfl
theorem u183 : Tryz.prog.underlying 183 = some (.int .u64) := by kernel_rfl
theorem a147 : aggN Tryz.prog 147 = some 47 := by kernel_rfl
theorem a145 : aggN Tryz.prog 145 = some 2 := by kernel_rfl
theorem fn92 : isFn Tryz.prog 92 = true := by kernel_rfl
theorem f147_0 : fldO Tryz.prog 147 0 = some 0 := by kernel_rfl
theorem fn93 : isFn Tryz.prog 93 = true := by kernel_rfl
theorem fn94 : isFn Tryz.prog 94 = true := by kernel_rfl
theorem fn95 : isFn Tryz.prog 95 = true := by kernel_rfl
theorem fn96 : isFn Tryz.prog 96 = true := by kernel_rfl
theorem f114_2 : fldO Tryz.prog 114 2 = some 2 := by kernel_rfl
theorem s112 : scal Tryz.prog 112 = true := by kernel_rfl
theorem u112 : Tryz.prog.underlying 112 = some (.slice 185) := by kernel_rfl
theorem e112 : slE Tryz.prog 112 = some (185, 2) := by kernel_rfl
theorem z185 : zeroC Tryz.prog 185 = some [.int .i64 0, .int .i64 0] := by kernel_rfl
theorem sz185 : szOf Tryz.prog 185 = some 2 := by kernel_rfl
theorem by185 : Tryz.prog.bytesOf 185 = 16 := by kernel_rfl
theorem f185_1 : fldO Tryz.prog 185 1 = some 1 := by kernel_rfl
theorem fn97 : isFn Tryz.prog 97 = true := by kernel_rfl
theorem fn98 : isFn Tryz.prog 98 = true := by kernel_rfl
theorem a42 : aggN Tryz.prog 42 = some 3 := by kernel_rfl
theorem z42 : zeroC Tryz.prog 42 = some [.int .i64 0, .int .i64 0, .int .i64 0] := by kernel_rfl
theorem bf42 : fieldsOf Tryz.prog 42 = some #[(0, 1), (1, 1), (2, 1)] := by kernel_rfl
theorem f171_4 : fldO Tryz.prog 171 4 = some 4 := by kernel_rfl
theorem fn99 : isFn Tryz.prog 99 = true := by kernel_rfl
theorem f171_2 : fldO Tryz.prog 171 2 = some 2 := by kernel_rfl
theorem f171_3 : fldO Tryz.prog 171 3 = some 3 := by kernel_rfl
theorem fn100 : isFn Tryz.prog 100 = true := by kernel_rfl
theorem fn101 : isFn Tryz.prog 101 = true := by kernel_rfl
theorem fn102 : isFn Tryz.prog 102 = true := by kernel_rfl
theorem fn103 : isFn Tryz.prog 103 = true := by kernel_rfl
theorem fn105 : isFn Tryz.prog 105 = true := by kernel_rfl
theorem fn106 : isFn Tryz.prog 106 = true := by kernel_rfl
theorem fn107 : isFn Tryz.prog 107 = true := by kernel_rfl
theorem f167_1 : fldO Tryz.prog 167 1 = some 1 := by kernel_rfl
theorem fn108 : isFn Tryz.prog 108 = true := by kernel_rfl
theorem fn109 : isFn Tryz.prog 109 = true := by kernel_rfl
theorem fn110 : isFn Tryz.prog 110 = true := by kernel_rfl
theorem fn111 : isFn Tryz.prog 111 = true := by kernel_rfl
theorem f106_1 : fldO Tryz.prog 106 1 = some 1 := by kernel_rfl
theorem s102 : scal Tryz.prog 102 = true := by kernel_rfl
theorem fn112 : isFn Tryz.prog 112 = true := by kernel_rfl
theorem fn113 : isFn Tryz.prog 113 = true := by kernel_rfl
theorem fn114 : isFn Tryz.prog 114 = true := by kernel_rfl
theorem fn115 : isFn Tryz.prog 115 = true := by kernel_rfl
theorem sz102 : szOf Tryz.prog 102 = some 1 := by kernel_rfl
theorem fn116 : isFn Tryz.prog 116 = true := by kernel_rfl
theorem sz191 : szOf Tryz.prog 191 = some 1 := by kernel_rfl
theorem s191 : scal Tryz.prog 191 = true := by kernel_rfl
theorem fn117 : isFn Tryz.prog 117 = true := by kernel_rfl
theorem fn118 : isFn Tryz.prog 118 = true := by kernel_rfl
theorem u102 : Tryz.prog.underlying 102 = some (.pointer 155) := by kernel_rfl
theorem f155_0 : fldO Tryz.prog 155 0 = some 0 := by kernel_rfl
theorem s153 : scal Tryz.prog 153 = true := by kernel_rfl
theorem u153 : Tryz.prog.underlying 153 = some (.slice 197) := by kernel_rfl
theorem e153 : slE Tryz.prog 153 = some (197, 3) := by kernel_rfl
theorem z197 : zeroC Tryz.prog 197 = some [.int .i64 0, .int .i64 0, .int .i64 0] := by kernel_rfl
theorem sz197 : szOf Tryz.prog 197 = some 3 := by kernel_rfl
theorem by197 : Tryz.prog.bytesOf 197 = 24 := by kernel_rfl
theorem a197 : aggN Tryz.prog 197 = some 3 := by kernel_rfl
theorem f197_0 : fldO Tryz.prog 197 0 = some 0 := by kernel_rfl
theorem f197_1 : fldO Tryz.prog 197 1 = some 2 := by kernel_rfl
end Go.Proofs.YtmcfbinkofoagaaGreat
