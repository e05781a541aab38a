/- The tables: made by my program. -/
import Derived.Test.YtcipiajnabgkgaaGreatVeM
import Derived.Test.YtcipiajnabgkgaaGreatVeN
import Derived.KernelRfl
set_option linter.all false
set_option linter.unusedSectionVars false
namespace Ve
open Go Ve.Ab
abbrev iZ : V := .lit (.int .i64 0)
def y1 : TI := ⟨1, 8, .lit .nilFunc, .scalar, false, none, false, []⟩
def y2 : TI := ⟨1, 8, iZ, .scalar, false, some .i64, false, []⟩
def y3 : TI := ⟨1, 8, iZ, .scalar, false, some .i64, false, []⟩
def y4 : TI := ⟨1, 1, .lit (.bool false), .scalar, false, none, true, []⟩
def y5 : TI := ⟨1, 1, .lit (.int .u8 0), .scalar, false, some .u8, false, []⟩
def y6 : TI := ⟨1, 1, .lit (.int .u8 0), .scalar, false, some .u8, false, []⟩
def y7 : TI := ⟨4, 24, .agg [iZ, iZ, .lit (.bool false), .lit (.int .u8 0)], .struct [(0, 1), (1, 1), (2, 1), (3, 1)], false, none, false, [2, 3, 4, 6]⟩
def y8 : TI := ⟨4, 24, .agg [iZ, iZ, .lit (.bool false), .lit (.int .u8 0)], .struct [(0, 1), (1, 1), (2, 1), (3, 1)], false, none, false, [2, 3, 4, 6]⟩
def y9 : TI := ⟨1, 16, .lit (.string ⟨#[]⟩), .scalar, false, none, false, []⟩
def y10 : TI := ⟨1, 16, .lit (.string ⟨#[]⟩), .scalar, false, none, false, []⟩
def y11 : TI := ⟨1, 16, .lit (.string ⟨#[]⟩), .scalar, false, none, false, []⟩
def y12 : TI := ⟨1, 8, .lit (.int .u64 0), .scalar, false, some .u64, false, []⟩
def y13 : TI := ⟨2, 24, .agg [.lit (.string ⟨#[]⟩), .lit (.int .u64 0)], .struct [(0, 1), (1, 1)], false, none, false, [9, 12]⟩
def y23 : TI := ⟨1, 24, .own 3 [], .sl 45, false, none, false, []⟩
def y24 : TI := ⟨4, 96, .agg [.own 3 [], .own 3 [], .own 3 [], .own 3 []], .arr 4 23, false, none, false, []⟩
def y25 : TI := ⟨4, 32, .agg [iZ, iZ, iZ, iZ], .arr 4 3, true, none, false, []⟩
def y26 : TI := ⟨1, 24, .own 17 [], .sl 37, false, none, false, []⟩
def y27 : TI := ⟨1, 24, .own 4 [], .sl 92, false, none, false, []⟩
def y29 : TI := ⟨11, 184, .agg [.own 3 [], .own 3 [], .own 3 [], .own 3 [], iZ, iZ, iZ, iZ, iZ, .own 17 [], .own 4 []], .struct [(0, 4), (4, 4), (8, 1), (9, 1), (10, 1)], false, none, false, [24, 25, 3, 26, 27]⟩
def y32 : TI := ⟨4, 32, .agg [iZ, iZ, iZ, iZ], .struct [(0, 1), (1, 1), (2, 1), (3, 1)], true, none, false, [3, 3, 3, 3]⟩
def y33 : TI := ⟨1, 24, .own 4 [], .sl 32, false, none, false, []⟩
def y34 : TI := ⟨1, 24, .own 3 [], .sl 105, false, none, false, []⟩
def y35 : TI := ⟨1, 24, .own 3 [], .sl 60, false, none, false, []⟩
def y37 : TI := ⟨17, 184, .agg [iZ, iZ, iZ, .own 4 [], iZ, iZ, iZ, iZ, iZ, iZ, .own 3 [], .own 3 [], iZ, iZ, iZ, iZ, iZ], .struct [(0, 1), (1, 1), (2, 1), (3, 1), (4, 1), (5, 1), (6, 4), (10, 1), (11, 1), (12, 1), (13, 1), (14, 1), (15, 1), (16, 1)], false, none, false, [3, 3, 3, 33, 3, 3, 25, 34, 35, 3, 3, 3, 3, 3]⟩
def y40 : TI := ⟨1, 8, iZ, .scalar, false, some .i64, false, []⟩
def y45 : TI := ⟨3, 24, .agg [iZ, iZ, iZ], .struct [(0, 1), (1, 1), (2, 1)], true, none, false, [3, 3, 3]⟩
def y52 : TI := ⟨1, 8, .lit (.int .u64 0), .scalar, false, some .u64, false, []⟩
def y53 : TI := ⟨1, 24, .own 1 [], .sl 3, false, none, false, []⟩
def y60 : TI := ⟨3, 24, .agg [iZ, iZ, iZ], .struct [(0, 1), (1, 1), (2, 1)], true, none, false, [3, 3, 3]⟩
def y64 : TI := ⟨4, 96, .agg [.own 1 [], .own 1 [], .own 1 [], .own 1 []], .arr 4 53, false, none, false, []⟩
def y66 : TI := ⟨4, 48, .agg [iZ, iZ, iZ, .own 4 []], .struct [(0, 1), (1, 1), (2, 1), (3, 1)], false, none, false, [3, 3, 3, 33]⟩
def y67 : TI := ⟨1, 24, .own 4 [], .sl 66, false, none, false, []⟩
def y68 : TI := ⟨1, 24, .own 2 [], .sl 196, false, none, false, []⟩
def y70 : TI := ⟨7, 152, .agg [.own 1 [], .own 1 [], .own 1 [], .own 1 [], iZ, .own 4 [], .own 2 []], .struct [(0, 4), (4, 1), (5, 1), (6, 1)], false, none, false, [64, 3, 67, 68]⟩
def y73 : TI := ⟨1, 8, .lit (.pointer none), .scalar, false, none, false, []⟩
def y74 : TI := ⟨1, 8, .lit (.pointer none), .scalar, false, none, false, []⟩
def y92 : TI := ⟨4, 32, .agg [iZ, iZ, iZ, iZ], .struct [(0, 1), (1, 1), (2, 1), (3, 1)], true, none, false, [3, 3, 3, 3]⟩
def y105 : TI := ⟨3, 24, .agg [iZ, iZ, iZ], .struct [(0, 1), (1, 1), (2, 1)], true, none, false, [3, 3, 3]⟩
def y119 : TI := ⟨1, 8, .lit .nilFunc, .scalar, false, none, false, []⟩
def y123 : TI := ⟨1, 8, .lit (.pointer none), .scalar, false, none, false, []⟩
def y153 : TI := ⟨1, 8, .lit .nilFunc, .scalar, false, none, false, []⟩
def y155 : TI := ⟨1, 8, .lit .nilFunc, .scalar, false, none, false, []⟩
def y156 : TI := ⟨1, 8, .lit (.pointer none), .scalar, false, none, false, []⟩
def y158 : TI := ⟨1, 8, .agg [.lit (.pointer none)], .struct [(0, 1)], false, none, false, [156]⟩
def y160 : TI := ⟨1, 8, .lit .nilFunc, .scalar, false, none, false, []⟩
def y163 : TI := ⟨1, 8, .lit .nilFunc, .scalar, false, none, false, []⟩
def y165 : TI := ⟨1, 8, .lit .nilFunc, .scalar, false, none, false, []⟩
def y196 : TI := ⟨2, 16, .agg [iZ, iZ], .struct [(0, 1), (1, 1)], true, none, false, [3, 3]⟩
def layL : List (Nat × TI) := [(1, y1), (2, y2), (3, y3), (4, y4), (5, y5), (6, y6), (7, y7), (8, y8), (9, y9), (10, y10), (11, y11), (12, y12), (13, y13), (23, y23), (24, y24), (25, y25), (26, y26), (27, y27), (29, y29), (32, y32), (33, y33), (34, y34), (35, y35), (37, y37), (40, y40), (45, y45), (52, y52), (53, y53), (60, y60), (64, y64), (66, y66), (67, y67), (68, y68), (70, y70), (73, y73), (74, y74), (92, y92), (105, y105), (119, y119), (123, y123), (153, y153), (155, y155), (156, y156), (158, y158), (160, y160), (163, y163), (165, y165), (196, y196)]
def lay : Lay := lk layL
/- 3 veil/veillaw21.BackHidden -/
def c3_1 : IR := (S (S (R [z 26 (mv 4),
 z 27 (bo .lss (t 26) (n 8))])
(.cond (t 27)
.skip
(.exit 0 [0, 3])))
(S (.block 1 (R [z 31 (ld 29 3),
 o 32 (cl 15 #[(t 31), (n 0)] #[29, 3]),
 z 30 (mv 32),
 z 33 (xt 30 0),
 z 34 (xt 30 1),
 ⟨none, st 29 3 33, none, true⟩]))
(R [z 28 (mv 4),
 z 29 (bo .add (t 28) (n 1)),
 z 4 (av 29)])))
def c3 : IR := (S (R [z 2 (ab false)])
(S (S (R [z 13 (cl 13 #[] #[]),
 z 14 (.unOp .not 4 (.tmp 13))])
(.cond (t 14)
(S (R [z 2 (ab false)])
(.ret [2]))
.skip))
(S (R [o 15 (cl 14 #[] #[]),
 z 3 (al 29),
 ⟨none, st 29 3 15, none, true⟩])
(S (R [z 16 (fa 29 3 3),
 z 17 (ld 26 16),
 z 18 (mv 0),
 z 19 (bo .and (t 18) (n 255)),
 z 20 (.build 32 #[(0, (.const (.int .i64 0))), (2, (.tmp 19))]),
 z 21 (.build 32 #[(0, (.const (.int .i64 3)))]),
 z 22 (.build 32 #[(0, (.const (.int .i64 3))), (3, (.const (.int .i64 1)))]),
 z 23 (.buildSlice 33 3 #[(0, (.tmp 20)), (1, (.tmp 21)), (2, (.tmp 22))]),
 o 24 (.indexAddr 26 (.tmp 17) (.const (.int .i64 0))),
 z 25 (fa 37 24 3),
 ⟨none, st 33 25 23, none, true⟩])
(S (S (R [z 4 (an 0)])
(.block 0 (.loop [0, 3, 4] c3_1)))
(S (R [z 36 (ld 29 3),
 z 37 (cl 16 #[(t 36), (n 0)] #[29, 3]),
 z 35 (mv 37),
 z 38 (xt 35 0),
 z 39 (xt 35 1),
 z 5 (al 29),
 ⟨none, st 29 5 38, none, true⟩,
 z 6 (av 39)])
(S (R [z 41 (ld 29 5),
 z 42 (cl 15 #[(t 41), (n 1)] #[29, 3]),
 z 40 (mv 42),
 z 43 (xt 40 0),
 z 44 (xt 40 1),
 z 7 (al 29),
 ⟨none, st 29 7 43, none, true⟩,
 z 8 (av 44)])
(S (R [z 46 (ld 29 5),
 z 47 (cl 16 #[(t 46), (n 0)] #[29, 3]),
 z 45 (mv 47),
 z 48 (xt 45 0),
 z 49 (xt 45 1),
 z 9 (al 29),
 ⟨none, st 29 9 48, none, true⟩,
 z 10 (av 49)])
(S (R [z 51 (ld 29 9),
 z 52 (cl 15 #[(t 51), (n 1)] #[29, 3]),
 z 50 (mv 52),
 z 53 (xt 50 0),
 z 54 (xt 50 1),
 z 11 (al 29),
 ⟨none, st 29 11 53, none, true⟩,
 z 12 (av 54)])
(S (S (R [z 55 (fa 29 3 3),
 z 56 (ld 26 55),
 z 57 (len 56 26),
 z 58 (bo .neq (t 57) (n 2)),
 z 59 (mv 58),
 zF 60 (fa 29 5 0) 59,
 oF 61 (.indexAddr 24 (.tmp 60) (.const (.int .i64 0))) 59,
 zF 62 (ld 23 61) 59,
 zF 63 (len 62 23) 59,
 zF 64 (bo .neq (t 63) (n 2)) 59,
 z 65 (.pick (.tmp 59) (.const (.bool true)) (.tmp 64)),
 z 66 (mv 65),
 zF 67 (fa 29 7 3) 66,
 zF 68 (ld 26 67) 66,
 zF 69 (len 68 26) 66,
 zF 70 (bo .neq (t 69) (n 2)) 66,
 z 71 (.pick (.tmp 66) (.const (.bool true)) (.tmp 70)),
 z 72 (mv 71),
 zF 73 (fa 29 11 3) 72,
 zF 74 (ld 26 73) 72,
 zF 75 (len 74 26) 72,
 zF 76 (bo .neq (t 75) (n 2)) 72,
 z 77 (.pick (.tmp 72) (.const (.bool true)) (.tmp 76))])
(.cond (t 77)
(S (R [z 2 (ab false)])
(.ret [2]))
.skip))
(S (R [z 78 (mv 6),
 z 79 (cl 17 #[(t 78)] #[40]),
 z 80 (bo .eql (t 79) (n 0)),
 z 81 (mv 80),
 zT 82 (fa 29 5 0) 81,
 oT 83 (.indexAddr 24 (.tmp 82) (.const (.int .i64 0))) 81,
 zT 84 (ld 23 83) 81,
 oT 85 (.indexAddr 23 (.tmp 84) (.const (.int .i64 0))) 81,
 zT 86 (ld 45 85) 81,
 zT 87 (mv 0) 81,
 zT 88 (bo .and (t 87) (n 255)) 81,
 zT 89 (.build 45 #[(0, (.tmp 88)), (1, (.const (.int .i64 1)))]) 81,
 zT 90 (.binOp .eql 45 (.tmp 86) (.tmp 89) 45) 81,
 z 91 (.pick (.tmp 81) (.tmp 90) (.const (.bool false))),
 z 92 (mv 91),
 zT 93 (fa 29 5 0) 92,
 oT 94 (.indexAddr 24 (.tmp 93) (.const (.int .i64 0))) 92,
 zT 95 (ld 23 94) 92,
 oT 96 (.indexAddr 23 (.tmp 95) (.const (.int .i64 1))) 92,
 zT 97 (fa 45 96 2) 92,
 zT 98 (ld 3 97) 92,
 zT 99 (bo .eql (t 98) (n 4)) 92,
 z 100 (.pick (.tmp 92) (.tmp 99) (.const (.bool false))),
 z 101 (mv 100),
 zT 102 (mv 8) 101,
 zT 103 (bo .eql (t 102) (n 0)) 101,
 z 104 (.pick (.tmp 101) (.tmp 103) (.const (.bool false))),
 z 105 (mv 104),
 zT 106 (fa 29 7 3) 105,
 zT 107 (ld 26 106) 105,
 oT 108 (.indexAddr 26 (.tmp 107) (.const (.int .i64 1))) 105,
 zT 109 (fa 37 108 11) 105,
 zT 110 (ld 3 109) 105,
 zT 111 (bo .eql (t 110) (n 1)) 105,
 z 112 (.pick (.tmp 105) (.tmp 111) (.const (.bool false))),
 z 113 (mv 112),
 zT 114 (mv 10) 113,
 zT 115 (cl 17 #[(t 114)] #[40]) 113,
 zT 116 (bo .eql (t 115) (n 0)) 113,
 z 117 (.pick (.tmp 113) (.tmp 116) (.const (.bool false))),
 z 118 (mv 117),
 zT 119 (mv 12) 118,
 zT 120 (bo .eql (t 119) (n 0)) 118,
 z 121 (.pick (.tmp 118) (.tmp 120) (.const (.bool false))),
 z 122 (mv 121),
 zT 123 (fa 29 11 3) 122,
 zT 124 (ld 26 123) 122,
 oT 125 (.indexAddr 26 (.tmp 124) (.const (.int .i64 1))) 122,
 zT 126 (fa 37 125 6) 122,
 oT 127 (.indexAddr 25 (.tmp 126) (.const (.int .i64 0))) 122,
 zT 128 (ld 3 127) 122,
 zT 129 (mv 0) 122,
 zT 130 (bo .and (t 129) (n 255)) 122,
 zT 131 (bo .eql (t 128) (t 130)) 122,
 z 132 (.pick (.tmp 122) (.tmp 131) (.const (.bool false))),
 z 133 (mv 132),
 zT 134 (fa 29 11 3) 133,
 zT 135 (ld 26 134) 133,
 oT 136 (.indexAddr 26 (.tmp 135) (.const (.int .i64 1))) 133,
 zT 137 (fa 37 136 11) 133,
 zT 138 (ld 3 137) 133,
 zT 139 (bo .eql (t 138) (n 0)) 133,
 z 140 (.pick (.tmp 133) (.tmp 139) (.const (.bool false))),
 z 141 (mv 140),
 zT 142 (cl 18 #[(n 0), (n 0)] #[3, 3]) 141,
 zT 143 (.field 29 (.tmp 142) 3) 141,
 zT 144 (len 143 26) 141,
 zT 145 (bo .eql (t 144) (n 2)) 141,
 z 146 (.pick (.tmp 141) (.tmp 145) (.const (.bool false))),
 z 2 (av 146)])
(.ret [2]))))))))))))
def g3 : IFn := ⟨147, [.tmp 2], [4], c3, [], false, none⟩
/- 4 veil/veillaw19.Stamps -/
def c4 : IR := (S (R [z 2 (bx 29 0),
 z 4 (ab false)])
(S (R [z 10 (ld 29 2),
 z 11 (cl 19 #[(t 10)] #[29]),
 z 5 (al 29),
 ⟨none, st 29 5 11, none, true⟩])
(S (R [z 13 (ld 29 5),
 z 14 (mv 1),
 o 15 (cl 20 #[(t 13), (t 14)] #[29, 3]),
 z 12 (mv 15),
 z 16 (xt 12 0),
 z 17 (xt 12 1),
 z 6 (al 29),
 ⟨none, st 29 6 16, none, true⟩,
 z 7 (av 17)])
(S (R [z 19 (ld 29 2),
 z 20 (mv 1),
 z 21 (cl 21 #[(t 19), (t 20)] #[29, 3]),
 z 18 (mv 21),
 z 22 (xt 18 0),
 z 23 (xt 18 1),
 z 8 (al 29),
 ⟨none, st 29 8 22, none, true⟩,
 z 9 (av 23)])
(S (S (R [z 24 (ld 29 6),
 z 25 (ld 29 8),
 z 26 (cl 22 #[(t 24), (t 25)] #[29, 29]),
 z 27 (.unOp .not 4 (.tmp 26)),
 z 28 (mv 27),
 zF 29 (mv 7) 28,
 zF 30 (cl 17 #[(t 29)] #[40]) 28,
 zF 31 (mv 9) 28,
 zF 32 (bo .neq (t 30) (t 31)) 28,
 z 33 (.pick (.tmp 28) (.const (.bool true)) (.tmp 32))])
(.cond (t 33)
(S (R [z 4 (ab false)])
(.ret [4]))
.skip))
(S (R [z 34 (ld 29 6),
 z 35 (cl 23 #[(t 34)] #[29])])
(S (R [z 36 (ld 29 5),
 z 37 (ld 29 2),
 z 38 (cl 22 #[(t 36), (t 37)] #[29, 29]),
 z 39 (mv 38),
 zT 40 (cl 24 #[] #[]) 39,
 z 41 (.pick (.tmp 39) (.tmp 40) (.const (.bool false))),
 z 4 (av 41)])
(.ret [4]))))))))
def g4 : IFn := ⟨42, [.tmp 4], [4], c4, [], false, none⟩
/- 5 veil/veillaw19.StampForms -/
def c5 : IR := (S (R [z 4 (ab false)])
(S (S (R [z 10 (cl 24 #[] #[]),
 z 11 (.unOp .not 4 (.tmp 10))])
(.cond (t 11)
(S (R [z 4 (ab false)])
(.ret [4]))
.skip))
(S (R [z 12 (mv 1),
 z 13 (bo .and (t 12) (n 1023)),
 z 14 (bo .add (n 1) (t 13)),
 z 5 (av 14)])
(S (R [o 15 (cl 25 #[(n 0), (n 5)] #[3, 3]),
 z 6 (al 29),
 ⟨none, st 29 6 15, none, true⟩,
 z 7 (an 0)])
(S (S (R [z 16 (mv 0),
 z 17 (.convert 3 52 (.tmp 16)),
 z 18 (.binOp .rem 52 (.tmp 17) (.const (.int .u64 5)) 52)])
(.block 0 (S (R [z 29 (.binOp .eql 52 (.tmp 18) (.const (.int .u64 0)) 52),
 z 28 (av 29)])
(.cond (t 28)
(R [z 30 (mv 5),
 z 31 (.unOp .neg 3 (.tmp 30)),
 z 32 (mv 5),
 z 33 (bo .add (n 1) (t 32)),
 z 34 (.buildSlice 53 2 #[(0, (.tmp 31)), (1, (.tmp 33))]),
 z 35 (mv 0),
 z 36 (.binOp .shr 3 (.tmp 35) (.const (.int .u64 3)) 52),
 z 37 (bo .and (t 36) (n 1)),
 o 38 (ia 53 34 37),
 z 39 (ld 3 38),
 z 7 (av 39)])
(S (R [z 41 (.binOp .eql 52 (.tmp 18) (.const (.int .u64 1)) 52),
 z 40 (av 41)])
(.cond (t 40)
(R [z 42 (mv 5),
 z 43 (.unOp .neg 3 (.tmp 42)),
 z 44 (fa 29 6 2),
 ⟨none, st 3 44 43, none, true⟩])
(S (R [z 46 (.binOp .eql 52 (.tmp 18) (.const (.int .u64 2)) 52),
 z 45 (av 46)])
(.cond (t 45)
(R [z 47 (fa 29 6 3),
 z 48 (ld 26 47),
 z 49 (mv 0),
 z 50 (.convert 3 52 (.tmp 49)),
 z 51 (.binOp .shr 52 (.tmp 50) (.const (.int .u64 3)) 52),
 z 52 (.binOp .rem 52 (.tmp 51) (.const (.int .u64 6)) 52),
 z 53 (.convert 52 3 (.tmp 52)),
 z 54 (bo .add (n 3) (t 53)),
 z 55 (bo .rem (t 54) (n 7)),
 o 56 (.indexAddr 26 (.tmp 48) (.const (.int .i64 0))),
 z 57 (fa 37 56 4),
 ⟨none, st 3 57 55, none, true⟩])
(S (R [z 59 (.binOp .eql 52 (.tmp 18) (.const (.int .u64 3)) 52),
 z 58 (av 59)])
(.cond (t 58)
(R [z 7 (an 1)])
(R [z 19 (fa 29 6 3),
 z 20 (ld 26 19),
 z 21 (mv 1),
 z 22 (bo .and (t 21) (n 3)),
 z 23 (mv 5),
 z 24 (.unOp .neg 3 (.tmp 23)),
 o 25 (.indexAddr 26 (.tmp 20) (.const (.int .i64 0))),
 z 26 (fa 37 25 6),
 o 27 (ia 25 26 22),
 ⟨none, st 3 27 24, none, true⟩])))))))))))
(S (R [z 61 (ld 29 6),
 z 62 (mv 7),
 z 63 (cl 20 #[(t 61), (t 62)] #[29, 3]),
 z 60 (mv 63),
 z 64 (xt 60 0),
 z 65 (xt 60 1),
 z 8 (al 29),
 ⟨none, st 29 8 64, none, true⟩,
 z 9 (av 65)])
(S (R [z 66 (ld 29 8),
 z 67 (.build 29 #[]),
 z 68 (cl 22 #[(t 66), (t 67)] #[29, 29]),
 z 69 (mv 68),
 zT 70 (mv 9) 69,
 zT 71 (cl 17 #[(t 70)] #[40]) 69,
 zT 72 (bo .eql (t 71) (n 1900)) 69,
 z 73 (.pick (.tmp 69) (.tmp 72) (.const (.bool false))),
 z 4 (av 73)])
(.ret [4]))))))))
def g5 : IFn := ⟨74, [.tmp 4], [4], c5, [], false, none⟩
/- 6 veil/veillaw19.StampOwn -/
def d6_1 : IR := D [z 66 (mv 7),
 z 67 (fa 29 2 1),
 o 68 (ia 25 67 66),
 z 69 (ld 3 68),
 z 70 (fa 29 2 2),
 z 71 (ld 3 70),
 z 72 (bo .geq (t 69) (t 71))] [[], [], [1, 0], [2], [], [4], [3, 5]]
def d6_2 : IR := D [z 95 (fa 29 5 1),
 z 96 (ld 25 95),
 z 97 (ld 25 9),
 z 98 (.binOp .eql 25 (.tmp 96) (.tmp 97) 25),
 z 99 (mv 98),
 zT 100 (fa 37 8 10) 99,
 zT 101 (ld 3 100) 99,
 zT 102 (mv 7) 99,
 oT 103 (ia 25 9 102) 99,
 zT 104 (ld 3 103) 99,
 zT 105 (bo .eql (t 101) (t 104)) 99,
 z 106 (.pick (.tmp 99) (.tmp 105) (.const (.bool false))),
 z 107 (mv 106),
 zT 108 (fa 37 8 4) 107,
 zT 109 (ld 3 108) 107,
 zT 110 (bo .eql (t 109) (n 3)) 107,
 z 111 (.pick (.tmp 107) (.tmp 110) (.const (.bool false))),
 z 112 (mv 111),
 zT 113 (fa 29 5 0) 112,
 zT 114 (ld 24 113) 112,
 zT 115 (fa 29 2 0) 112,
 zT 116 (ld 24 115) 112,
 zT 117 (cl 26 #[(t 114), (t 116)] #[24, 24]) 112,
 z 118 (.pick (.tmp 112) (.tmp 117) (.const (.bool false))),
 z 119 (mv 118),
 zT 120 (fa 29 5 4) 119,
 zT 121 (ld 27 120) 119,
 zT 122 (fa 29 2 4) 119,
 zT 123 (ld 27 122) 119,
 zT 124 (cl 27 #[(t 121), (t 123)] #[27, 27]) 119,
 z 125 (.pick (.tmp 119) (.tmp 124) (.const (.bool false))),
 z 4 (av 125)] [[], [0], [], [1, 2], [3], [4], [5, 4], [4], [7, 4], [8, 4], [6, 9, 4], [4, 10], [11, 4], [12], [13, 12], [14, 12], [12, 15], [16, 12], [17], [18, 17], [17], [20, 17], [19, 21, 17, 17], [17, 22], [23, 22], [24], [25, 24], [24], [27, 24], [26, 28, 24, 24], [24, 29], [30, 29, 0, 1, 2, 3, 4, 5, 6, 7, 8, 9, 10, 11, 12, 13, 14, 15, 16, 17, 18, 19, 20, 21, 22, 23, 24, 25, 26, 27, 28, 29, 30]]
def c6 : IR := (S (R [z 2 (bx 29 0),
 z 4 (ab false)])
(S (S (R [z 10 (cl 24 #[] #[]),
 z 11 (.unOp .not 4 (.tmp 10))])
(.cond (t 11)
(S (R [z 4 (ab false)])
(.ret [4]))
.skip))
(S (R [z 13 (ld 29 2),
 z 14 (mv 1),
 z 15 (cl 20 #[(t 13), (t 14)] #[29, 3]),
 z 12 (mv 15),
 z 16 (xt 12 0),
 z 17 (xt 12 1),
 z 5 (al 29),
 ⟨none, st 29 5 16, none, true⟩,
 z 6 (av 17)])
(S (S (R [z 18 (mv 6),
 z 19 (cl 17 #[(t 18)] #[40]),
 z 20 (bo .neq (t 19) (n 0))])
(.cond (t 20)
(S (R [z 21 (ld 29 5),
 z 22 (.build 29 #[]),
 z 23 (cl 22 #[(t 21), (t 22)] #[29, 29]),
 z 4 (av 23)])
(.ret [4]))
.skip))
(S (S (R [z 24 (mv 1),
 z 25 (bo .lss (t 24) (n 0)),
 z 26 (mv 25),
 zF 27 (mv 1) 26,
 zF 28 (fa 29 2 3) 26,
 zF 29 (ld 26 28) 26,
 zF 30 (len 29 26) 26,
 zF 31 (bo .geq (t 27) (t 30)) 26,
 z 32 (.pick (.tmp 26) (.const (.bool true)) (.tmp 31)),
 z 33 (mv 32),
 zF 34 (mv 1) 33,
 zF 35 (fa 29 5 3) 33,
 zF 36 (ld 26 35) 33,
 zF 37 (len 36 26) 33,
 zF 38 (bo .geq (t 34) (t 37)) 33,
 z 39 (.pick (.tmp 33) (.const (.bool true)) (.tmp 38)),
 z 40 (mv 39),
 zF 41 (fa 29 5 3) 40,
 zF 42 (ld 26 41) 40,
 zF 43 (len 42 26) 40,
 zF 44 (fa 29 2 3) 40,
 zF 45 (ld 26 44) 40,
 zF 46 (len 45 26) 40,
 zF 47 (bo .neq (t 43) (t 46)) 40,
 z 48 (.pick (.tmp 40) (.const (.bool true)) (.tmp 47))])
(.cond (t 48)
(S (R [z 4 (ab false)])
(.ret [4]))
.skip))
(S (R [z 49 (fa 29 2 3),
 z 50 (ld 26 49),
 z 51 (mv 1),
 o 52 (ia 26 50 51),
 z 53 (fa 37 52 1),
 z 54 (ld 3 53),
 z 7 (av 54)])
(S (R [z 55 (fa 29 5 3),
 z 56 (ld 26 55),
 z 57 (mv 1),
 o 58 (ia 26 56 57),
 z 59 (ld 37 58),
 z 8 (al 37),
 ⟨none, st 37 8 59, none, true⟩])
(S (S (R [z 60 (mv 7),
 z 61 (bo .lss (t 60) (n 0)),
 z 62 (mv 61),
 zF 63 (mv 7) 62,
 zF 64 (bo .geq (t 63) (n 4)) 62,
 z 65 (.pick (.tmp 62) (.const (.bool true)) (.tmp 64))])
(.cond (t 65)
(S (R [z 4 (ab false)])
(.ret [4]))
.skip))
(S (S d6_1
(.cond (t 72)
(S (R [z 73 (fa 29 5 1),
 z 74 (ld 25 73),
 z 75 (fa 29 2 1),
 z 76 (ld 25 75),
 z 77 (.binOp .eql 25 (.tmp 74) (.tmp 76) 25),
 z 78 (mv 77),
 zT 79 (fa 37 8 4) 78,
 zT 80 (ld 3 79) 78,
 zT 81 (bo .eql (t 80) (n 6)) 78,
 z 82 (.pick (.tmp 78) (.tmp 81) (.const (.bool false))),
 z 83 (mv 82),
 zT 84 (fa 37 8 12) 83,
 zT 85 (ld 3 84) 83,
 zT 86 (bo .eql (t 85) (n 5)) 83,
 z 87 (.pick (.tmp 83) (.tmp 86) (.const (.bool false))),
 z 4 (av 87)])
(.ret [4]))
.skip))
(S (R [z 88 (fa 29 2 1),
 z 89 (ld 25 88),
 z 9 (al 25),
 ⟨none, st 25 9 89, none, true⟩])
(S (R [z 90 (mv 7),
 o 91 (ia 25 9 90),
 z 92 (ld 3 91),
 z 93 (bo .add (t 92) (n 1)),
 o 94 (ia 25 9 90),
 ⟨none, st 3 94 93, none, true⟩])
(S d6_2
(.ret [4])))))))))))))
def g6 : IFn := ⟨126, [.tmp 4], [4], c6, [], false, none⟩
/- 7 veil/veillaw19.StampTwo -/
def c7 : IR := (S (R [z 2 (ab false)])
(S (S (R [z 10 (cl 24 #[] #[]),
 z 11 (.unOp .not 4 (.tmp 10))])
(.cond (t 11)
(S (R [z 2 (ab false)])
(.ret [2]))
.skip))
(S (R [o 12 (cl 25 #[(n 0), (n 5)] #[3, 3]),
 z 3 (al 29),
 ⟨none, st 29 3 12, none, true⟩])
(S (S (R [z 13 (fa 29 3 3),
 z 14 (ld 26 13),
 z 15 (len 14 26),
 z 16 (bo .neq (t 15) (n 2))])
(.cond (t 16)
(S (R [z 2 (ab false)])
(.ret [2]))
.skip))
(S (R [z 17 (fa 29 3 3),
 z 18 (ld 26 17),
 o 19 (.indexAddr 26 (.tmp 18) (.const (.int .i64 1))),
 z 20 (fa 37 19 4),
 ⟨none, .store 3 (.tmp 20) (.const (.int .i64 2)), none, true⟩])
(S (S (R [z 21 (mv 0),
 z 22 (.unOp .not 4 (.tmp 21))])
(.cond (t 22)
(R [z 23 (fa 29 3 3),
 z 24 (ld 26 23),
 o 25 (.indexAddr 26 (.tmp 24) (.const (.int .i64 1))),
 z 26 (fa 37 25 1),
 ⟨none, .store 3 (.tmp 26) (.const (.int .i64 0)), none, true⟩])
.skip))
(S (R [z 28 (ld 29 3),
 z 29 (cl 20 #[(t 28), (n 0)] #[29, 3]),
 z 27 (mv 29),
 z 30 (xt 27 0),
 z 31 (xt 27 1),
 z 4 (al 29),
 ⟨none, st 29 4 30, none, true⟩,
 z 5 (av 31)])
(S (R [z 33 (ld 29 4),
 z 34 (cl 20 #[(t 33), (n 1)] #[29, 3]),
 z 32 (mv 34),
 z 35 (xt 32 0),
 z 36 (xt 32 1),
 z 6 (al 29),
 ⟨none, st 29 6 35, none, true⟩,
 z 7 (av 36)])
(S (S (R [z 37 (mv 5),
 z 38 (cl 17 #[(t 37)] #[40]),
 z 39 (bo .neq (t 38) (n 0)),
 z 40 (mv 39),
 zF 41 (mv 7) 40,
 zF 42 (cl 17 #[(t 41)] #[40]) 40,
 zF 43 (bo .neq (t 42) (n 0)) 40,
 z 44 (.pick (.tmp 40) (.const (.bool true)) (.tmp 43)),
 z 45 (mv 44),
 zF 46 (fa 29 6 3) 45,
 zF 47 (ld 26 46) 45,
 zF 48 (len 47 26) 45,
 zF 49 (bo .neq (t 48) (n 2)) 45,
 z 50 (.pick (.tmp 45) (.const (.bool true)) (.tmp 49))])
(.cond (t 50)
(S (R [z 2 (ab false)])
(.ret [2]))
.skip))
(S (R [z 51 (.build 25 #[(0, (.const (.int .i64 2)))]),
 z 8 (al 25),
 ⟨none, st 25 8 51, none, true⟩])
(S (S (R [z 52 (mv 0)])
(.cond (t 52)
(R [z 53 (.build 25 #[(0, (.const (.int .i64 1))), (1, (.const (.int .i64 1)))]),
 ⟨none, st 25 8 53, none, true⟩])
.skip))
(S (R [z 9 (an 2)])
(S (S (R [z 54 (mv 0)])
(.cond (t 54)
(R [z 9 (an 1)])
.skip))
(S (R [z 55 (fa 29 6 3),
 z 56 (ld 26 55),
 o 57 (.indexAddr 26 (.tmp 56) (.const (.int .i64 0))),
 z 58 (fa 37 57 10),
 z 59 (ld 3 58),
 z 60 (bo .eql (t 59) (n 1)),
 z 61 (mv 60),
 zT 62 (fa 29 6 3) 61,
 zT 63 (ld 26 62) 61,
 oT 64 (.indexAddr 26 (.tmp 63) (.const (.int .i64 1))) 61,
 zT 65 (fa 37 64 10) 61,
 zT 66 (ld 3 65) 61,
 zT 67 (mv 9) 61,
 zT 68 (bo .eql (t 66) (t 67)) 61,
 z 69 (.pick (.tmp 61) (.tmp 68) (.const (.bool false))),
 z 70 (mv 69),
 zT 71 (fa 29 6 1) 70,
 zT 72 (ld 25 71) 70,
 zT 73 (ld 25 8) 70,
 zT 74 (.binOp .eql 25 (.tmp 72) (.tmp 73) 25) 70,
 z 75 (.pick (.tmp 70) (.tmp 74) (.const (.bool false))),
 z 76 (mv 75),
 zT 77 (ld 29 6) 76,
 zT 78 (cl 28 #[(t 77)] #[29]) 76,
 z 79 (.pick (.tmp 76) (.tmp 78) (.const (.bool false))),
 z 2 (av 79)])
(.ret [2])))))))))))))))
def g7 : IFn := ⟨80, [.tmp 2], [4], c7, [], false, none⟩
/- 8 veil/veillaw18.Grabs -/
def c8 : IR := (S (R [z 2 (bx 29 0),
 z 4 (ab false)])
(S (R [z 10 (ld 29 2),
 z 11 (cl 19 #[(t 10)] #[29]),
 z 5 (al 29),
 ⟨none, st 29 5 11, none, true⟩])
(S (R [z 13 (ld 29 5),
 z 14 (mv 1),
 o 15 (cl 29 #[(t 13), (t 14)] #[29, 3]),
 z 12 (mv 15),
 z 16 (xt 12 0),
 z 17 (xt 12 1),
 z 6 (al 29),
 ⟨none, st 29 6 16, none, true⟩,
 z 7 (av 17)])
(S (R [z 19 (ld 29 2),
 z 20 (mv 1),
 z 21 (cl 30 #[(t 19), (t 20)] #[29, 3]),
 z 18 (mv 21),
 z 22 (xt 18 0),
 z 23 (xt 18 1),
 z 8 (al 29),
 ⟨none, st 29 8 22, none, true⟩,
 z 9 (av 23)])
(S (S (R [z 24 (ld 29 6),
 z 25 (ld 29 8),
 z 26 (cl 22 #[(t 24), (t 25)] #[29, 29]),
 z 27 (.unOp .not 4 (.tmp 26)),
 z 28 (mv 27),
 zF 29 (mv 7) 28,
 zF 30 (cl 17 #[(t 29)] #[40]) 28,
 zF 31 (mv 9) 28,
 zF 32 (bo .neq (t 30) (t 31)) 28,
 z 33 (.pick (.tmp 28) (.const (.bool true)) (.tmp 32))])
(.cond (t 33)
(S (R [z 4 (ab false)])
(.ret [4]))
.skip))
(S (R [z 34 (ld 29 6),
 z 35 (cl 23 #[(t 34)] #[29])])
(S (R [z 36 (ld 29 5),
 z 37 (ld 29 2),
 z 38 (cl 22 #[(t 36), (t 37)] #[29, 29]),
 z 39 (mv 38),
 zT 40 (cl 31 #[] #[]) 39,
 z 41 (.pick (.tmp 39) (.tmp 40) (.const (.bool false))),
 z 4 (av 41)])
(.ret [4]))))))))
def g8 : IFn := ⟨42, [.tmp 4], [4], c8, [], false, none⟩
/- 9 veil/veillaw18.GrabForms -/
def c9 : IR := (S (R [z 4 (ab false)])
(S (S (R [z 10 (cl 31 #[] #[]),
 z 11 (.unOp .not 4 (.tmp 10))])
(.cond (t 11)
(S (R [z 4 (ab false)])
(.ret [4]))
.skip))
(S (R [z 12 (mv 1),
 z 13 (bo .and (t 12) (n 1023)),
 z 14 (bo .add (n 1) (t 13)),
 z 5 (av 14)])
(S (R [o 15 (cl 32 #[(n 0), (n 4)] #[3, 3]),
 z 6 (al 29),
 ⟨none, st 29 6 15, none, true⟩,
 z 7 (an 0)])
(S (S (R [z 16 (mv 0),
 z 17 (.convert 3 52 (.tmp 16)),
 z 18 (.binOp .rem 52 (.tmp 17) (.const (.int .u64 5)) 52)])
(.block 0 (S (R [z 29 (.binOp .eql 52 (.tmp 18) (.const (.int .u64 0)) 52),
 z 28 (av 29)])
(.cond (t 28)
(R [z 30 (mv 5),
 z 31 (.unOp .neg 3 (.tmp 30)),
 z 32 (mv 5),
 z 33 (bo .add (n 1) (t 32)),
 z 34 (.buildSlice 53 2 #[(0, (.tmp 31)), (1, (.tmp 33))]),
 z 35 (mv 0),
 z 36 (.binOp .shr 3 (.tmp 35) (.const (.int .u64 3)) 52),
 z 37 (bo .and (t 36) (n 1)),
 o 38 (ia 53 34 37),
 z 39 (ld 3 38),
 z 7 (av 39)])
(S (R [z 41 (.binOp .eql 52 (.tmp 18) (.const (.int .u64 1)) 52),
 z 40 (av 41)])
(.cond (t 40)
(R [z 42 (mv 5),
 z 43 (.unOp .neg 3 (.tmp 42)),
 z 44 (fa 29 6 2),
 ⟨none, st 3 44 43, none, true⟩])
(S (R [z 46 (.binOp .eql 52 (.tmp 18) (.const (.int .u64 2)) 52),
 z 45 (av 46)])
(.cond (t 45)
(R [z 47 (fa 29 6 3),
 z 48 (ld 26 47),
 z 49 (mv 0),
 z 50 (.convert 3 52 (.tmp 49)),
 z 51 (.binOp .shr 52 (.tmp 50) (.const (.int .u64 3)) 52),
 z 52 (.binOp .rem 52 (.tmp 51) (.const (.int .u64 6)) 52),
 z 53 (.convert 52 3 (.tmp 52)),
 z 54 (bo .add (n 2) (t 53)),
 z 55 (bo .rem (t 54) (n 7)),
 o 56 (.indexAddr 26 (.tmp 48) (.const (.int .i64 0))),
 z 57 (fa 37 56 4),
 ⟨none, st 3 57 55, none, true⟩])
(S (R [z 59 (.binOp .eql 52 (.tmp 18) (.const (.int .u64 3)) 52),
 z 58 (av 59)])
(.cond (t 58)
(R [z 7 (an 1)])
(R [z 19 (fa 29 6 3),
 z 20 (ld 26 19),
 z 21 (mv 1),
 z 22 (bo .and (t 21) (n 3)),
 z 23 (mv 5),
 z 24 (.unOp .neg 3 (.tmp 23)),
 o 25 (.indexAddr 26 (.tmp 20) (.const (.int .i64 0))),
 z 26 (fa 37 25 6),
 o 27 (ia 25 26 22),
 ⟨none, st 3 27 24, none, true⟩])))))))))))
(S (R [z 61 (ld 29 6),
 z 62 (mv 7),
 z 63 (cl 29 #[(t 61), (t 62)] #[29, 3]),
 z 60 (mv 63),
 z 64 (xt 60 0),
 z 65 (xt 60 1),
 z 8 (al 29),
 ⟨none, st 29 8 64, none, true⟩,
 z 9 (av 65)])
(S (R [z 66 (ld 29 8),
 z 67 (.build 29 #[]),
 z 68 (cl 22 #[(t 66), (t 67)] #[29, 29]),
 z 69 (mv 68),
 zT 70 (mv 9) 69,
 zT 71 (cl 17 #[(t 70)] #[40]) 69,
 zT 72 (bo .eql (t 71) (n 1800)) 69,
 z 73 (.pick (.tmp 69) (.tmp 72) (.const (.bool false))),
 z 4 (av 73)])
(.ret [4]))))))))
def g9 : IFn := ⟨74, [.tmp 4], [4], c9, [], false, none⟩
/- 10 veil/veillaw18.GrabRow -/
def c10_1 : IR := (S (S (R [z 23 (mv 7),
 z 24 (bo .lss (t 23) (n 4))])
(.cond (t 24)
.skip
(.exit 0 [1, 5, 6])))
(S (.block 1 (S (R [z 27 (mv 0),
 z 28 (mv 7),
 z 29 (bo .shr (t 27) (t 28)),
 z 30 (bo .and (t 29) (n 1)),
 z 31 (bo .eql (t 30) (n 1))])
(.cond (t 31)
(R [z 32 (mv 6),
 z 33 (mv 7),
 z 34 (.build 60 #[(1, (.tmp 33)), (2, (.const (.int .i64 9)))]),
 z 35 (.buildSlice 35 1 #[(0, (.tmp 34))]),
 z 36 (.call { callee := (.builtin .append), args := #[(.tmp 32), (.tmp 35)], argTypes := #[35, 35] }),
 z 6 (av 36)])
.skip)))
(R [z 25 (mv 7),
 z 26 (bo .add (t 25) (n 1)),
 z 7 (av 26)])))
def c10_2 : IR := (S (S (R [z 95 (mv 12),
 z 96 (bo .lss (t 95) (n 4))])
(.cond (t 96)
.skip
(.exit 4 [10])))
(S (.block 5 (S (R [z 99 (fa 29 10 0),
 o 100 (.indexAddr 24 (.tmp 99) (.const (.int .i64 0))),
 z 101 (ld 23 100),
 z 102 (mv 12),
 o 103 (ia 23 101 102),
 z 104 (fa 45 103 2),
 z 105 (ld 3 104),
 z 106 (bo .neq (t 105) (n 0)),
 z 107 (mv 12),
 z 108 (mv 8),
 z 109 (bo .eql (t 107) (t 108)),
 z 110 (.binOp .neq 4 (.tmp 106) (.tmp 109) 4)])
(.cond (t 110)
(S (R [z 4 (ab false)])
(.ret [4]))
.skip)))
(R [z 97 (mv 12),
 z 98 (bo .add (t 97) (n 1)),
 z 12 (av 98)])))
def d10_1 : IR := D [z 134 (fa 29 10 0),
 o 135 (.indexAddr 24 (.tmp 134) (.const (.int .i64 0))),
 z 136 (ld 23 135),
 z 137 (mv 6),
 z 138 (mv 9),
 o 139 (ia 35 137 138),
 z 140 (fa 60 139 1),
 z 141 (ld 3 140),
 o 142 (ia 23 136 141),
 z 143 (fa 45 142 2),
 z 144 (ld 3 143),
 z 145 (bo .neq (t 144) (n 4)),
 z 146 (mv 145),
 zF 147 (fa 29 10 3) 146,
 zF 148 (ld 26 147) 146,
 oF 149 (.indexAddr 26 (.tmp 148) (.const (.int .i64 0))) 146,
 zF 150 (fa 37 149 9) 146,
 zF 151 (ld 3 150) 146,
 zF 152 (mv 9) 146,
 zF 153 (bo .add (t 152) (n 1)) 146,
 zF 154 (bo .neq (t 151) (t 153)) 146,
 z 155 (.pick (.tmp 146) (.const (.bool true)) (.tmp 154))] [[], [0], [1], [], [], [3, 4], [5], [6], [2, 7], [8], [9], [10], [11], [12], [13, 12], [14, 12], [15, 12], [16, 12], [12], [18, 12], [17, 19, 12], [12, 20]]
def c10_3 : IR := (S (S (R [z 61 (mv 9),
 z 62 (mv 6),
 z 63 (len 62 35),
 z 64 (bo .lss (t 61) (t 63))])
(.cond (t 64)
.skip
(.exit 2 [5])))
(S (.block 3 (S (R [z 68 (ld 29 5),
 z 69 (cl 29 #[(t 68), (n 0)] #[29, 3]),
 z 67 (mv 69),
 z 70 (xt 67 0),
 z 71 (xt 67 1),
 z 10 (al 29),
 ⟨none, st 29 10 70, none, true⟩,
 z 11 (av 71)])
(S (S (R [z 72 (mv 11),
 z 73 (cl 17 #[(t 72)] #[40]),
 z 74 (bo .neq (t 73) (n 0)),
 z 75 (mv 74),
 zF 76 (fa 29 10 3) 75,
 zF 77 (ld 26 76) 75,
 zF 78 (len 77 26) 75,
 zF 79 (bo .neq (t 78) (n 2)) 75,
 z 80 (.pick (.tmp 75) (.const (.bool true)) (.tmp 79)),
 z 81 (mv 80),
 zF 82 (fa 29 10 0) 81,
 oF 83 (.indexAddr 24 (.tmp 82) (.const (.int .i64 0))) 81,
 zF 84 (ld 23 83) 81,
 zF 85 (len 84 23) 81,
 zF 86 (bo .neq (t 85) (n 4)) 81,
 z 87 (.pick (.tmp 81) (.const (.bool true)) (.tmp 86))])
(.cond (t 87)
(S (R [z 4 (ab false)])
(.ret [4]))
.skip))
(S (S (R [z 88 (mv 6),
 z 89 (mv 9),
 o 90 (ia 35 88 89),
 z 91 (fa 60 90 1),
 z 92 (ld 3 91),
 z 93 (mv 8),
 z 94 (bo .eql (t 92) (t 93))])
(.cond (t 94)
(S (S (R [z 12 (an 0)])
(.block 4 (.loop [8, 10, 12] c10_2)))
(S (R [z 111 (fa 29 10 3),
 z 112 (ld 26 111),
 o 113 (.indexAddr 26 (.tmp 112) (.const (.int .i64 0))),
 z 114 (fa 37 113 11),
 z 115 (ld 3 114),
 z 116 (bo .eql (t 115) (n 1)),
 z 117 (mv 116),
 zT 118 (fa 29 10 3) 117,
 zT 119 (ld 26 118) 117,
 oT 120 (.indexAddr 26 (.tmp 119) (.const (.int .i64 0))) 117,
 zT 121 (fa 37 120 4) 117,
 zT 122 (ld 3 121) 117,
 zT 123 (bo .eql (t 122) (n 0)) 117,
 z 124 (.pick (.tmp 117) (.tmp 123) (.const (.bool false))),
 z 125 (mv 124),
 zT 126 (fa 29 10 3) 125,
 zT 127 (ld 26 126) 125,
 oT 128 (.indexAddr 26 (.tmp 127) (.const (.int .i64 0))) 125,
 zT 129 (fa 37 128 8) 125,
 zT 130 (ld 35 129) 125,
 zT 131 (len 130 35) 125,
 zT 132 (bo .eql (t 131) (n 0)) 125,
 z 133 (.pick (.tmp 125) (.tmp 132) (.const (.bool false))),
 z 4 (av 133)])
(.ret [4])))
.skip))
(S (S d10_1
(.cond (t 155)
(S (R [z 4 (ab false)])
(.ret [4]))
.skip))
(R [z 156 (ld 29 10),
 ⟨none, st 29 5 156, none, true⟩]))))))
(R [z 65 (mv 9),
 z 66 (bo .add (t 65) (n 1)),
 z 9 (av 66)])))
def c10 : IR := (S (R [z 4 (ab false)])
(S (S (R [z 13 (cl 31 #[] #[]),
 z 14 (.unOp .not 4 (.tmp 13))])
(.cond (t 14)
(S (R [z 4 (ab false)])
(.ret [4]))
.skip))
(S (R [o 15 (cl 33 #[] #[]),
 z 5 (al 29),
 ⟨none, st 29 5 15, none, true⟩])
(S (R [z 16 (.build 45 #[(0, (.const (.int .i64 1)))]),
 z 17 (.build 45 #[(0, (.const (.int .i64 2)))]),
 z 18 (.build 45 #[(0, (.const (.int .i64 3)))]),
 z 19 (.build 45 #[(0, (.const (.int .i64 4)))]),
 z 20 (.buildSlice 23 4 #[(0, (.tmp 16)), (1, (.tmp 17)), (2, (.tmp 18)), (3, (.tmp 19))]),
 z 21 (fa 29 5 0),
 o 22 (.indexAddr 24 (.tmp 21) (.const (.int .i64 0))),
 ⟨none, st 23 22 20, none, true⟩])
(S (R [z 6 (.assign (.const (.slice none 0 0)))])
(S (S (R [z 7 (an 0)])
(.block 0 (.loop [0, 1, 5, 6, 7] c10_1)))
(S (S (R [z 37 (mv 6),
 z 38 (len 37 35),
 z 39 (bo .eql (t 38) (n 0))])
(.cond (t 39)
(S (R [z 4 (ab true)])
(.ret [4]))
.skip))
(S (R [z 40 (fa 29 5 3),
 z 41 (ld 26 40),
 z 42 (mv 6),
 o 43 (.indexAddr 26 (.tmp 41) (.const (.int .i64 0))),
 z 44 (fa 37 43 8),
 ⟨none, st 35 44 42, none, true⟩])
(S (R [z 45 (fa 29 5 3),
 z 46 (ld 26 45),
 o 47 (.indexAddr 26 (.tmp 46) (.const (.int .i64 0))),
 z 48 (fa 37 47 4),
 ⟨none, .store 3 (.tmp 48) (.const (.int .i64 1)), none, true⟩])
(S (R [z 49 (fa 29 5 3),
 z 50 (ld 26 49),
 o 51 (.indexAddr 26 (.tmp 50) (.const (.int .i64 0))),
 z 52 (fa 37 51 5),
 ⟨none, .store 3 (.tmp 52) (.const (.int .i64 3)), none, true⟩])
(S (R [z 53 (mv 1),
 z 54 (bo .and (t 53) (n 3)),
 z 8 (av 54)])
(S (R [z 55 (fa 29 5 0),
 o 56 (.indexAddr 24 (.tmp 55) (.const (.int .i64 0))),
 z 57 (ld 23 56),
 z 58 (mv 8),
 o 59 (ia 23 57 58),
 z 60 (fa 45 59 2),
 ⟨none, .store 3 (.tmp 60) (.const (.int .i64 6)), none, true⟩])
(S (S (R [z 9 (an 0)])
(.block 2 (.loop [5, 6, 8, 9] c10_3)))
(S (R [z 157 (fa 29 5 3),
 z 158 (ld 26 157),
 o 159 (.indexAddr 26 (.tmp 158) (.const (.int .i64 0))),
 z 160 (fa 37 159 4),
 z 161 (ld 3 160),
 z 162 (bo .eql (t 161) (n 2)),
 z 4 (av 162)])
(.ret [4])))))))))))))))
def g10 : IFn := ⟨163, [.tmp 4], [4], c10, [], false, none⟩
/- 11 veil/veillaw18.GrabOnly -/
def d11_1 : IR := D [z 55 (mv 8),
 z 56 (fa 29 5 0),
 o 57 (ia 24 56 55),
 z 58 (ld 23 57),
 z 59 (len 58 23),
 z 60 (mv 8),
 z 61 (fa 29 2 0),
 o 62 (ia 24 61 60),
 z 63 (ld 23 62),
 z 64 (len 63 23),
 z 65 (bo .neq (t 59) (t 64))] [[], [], [1, 0], [2], [3], [], [], [6, 5], [7], [8], [4, 9]]
def d11_2 : IR := D [z 75 (mv 8),
 z 76 (fa 29 2 0),
 o 77 (ia 24 76 75),
 z 78 (ld 23 77),
 z 79 (mv 9),
 o 80 (ia 23 78 79),
 z 81 (ld 45 80),
 z 82 (mv 8),
 z 83 (fa 29 5 0),
 o 84 (ia 24 83 82),
 z 85 (ld 23 84),
 z 86 (mv 9),
 o 87 (ia 23 85 86),
 z 88 (ld 45 87),
 z 10 (al 45),
 z 11 (al 45),
 ⟨none, st 45 10 81, none, true⟩,
 ⟨none, st 45 11 88, none, true⟩] [[], [], [1, 0], [2], [], [3, 4], [5], [], [], [8, 7], [9], [], [10, 11], [12], [], [], [14, 6, 0, 1, 2, 3, 4, 5, 6, 14, 15], [15, 13, 16, 0, 1, 2, 3, 4, 5, 6, 7, 8, 9, 10, 11, 12, 13, 14, 15, 16]]
def d11_3 : IR := D [z 108 (fa 45 11 2),
 z 109 (ld 3 108),
 z 110 (bo .neq (t 109) (n 0)),
 z 111 (mv 110),
 zT 112 (fa 45 10 2) 111,
 zT 113 (ld 3 112) 111,
 zT 114 (bo .neq (t 113) (n 0)) 111,
 zT 115 (mv 114) 111,
 zF 116 (fa 45 11 2) 115,
 zF 117 (ld 3 116) 115,
 zF 118 (fa 29 2 3) 115,
 zF 119 (ld 26 118) 115,
 zF 120 (mv 1) 115,
 oF 121 (ia 26 119 120) 115,
 zF 122 (fa 37 121 0) 115,
 zF 123 (ld 3 122) 115,
 zF 124 (bo .add (t 123) (n 1)) 115,
 zF 125 (bo .neq (t 117) (t 124)) 115,
 zT 126 (.pick (.tmp 115) (.const (.bool true)) (.tmp 125)) 111,
 z 127 (.pick (.tmp 111) (.tmp 126) (.const (.bool false))),
 z 128 (mv 127),
 zF 129 (fa 45 11 2) 128,
 zF 130 (ld 3 129) 128,
 zF 131 (bo .eql (t 130) (n 0)) 128,
 zF 132 (mv 131) 128,
 zT 133 (fa 45 10 2) 132,
 zT 134 (ld 3 133) 132,
 zT 135 (fa 29 2 3) 132,
 zT 136 (ld 26 135) 132,
 zT 137 (mv 1) 132,
 oT 138 (ia 26 136 137) 132,
 zT 139 (fa 37 138 0) 132,
 zT 140 (ld 3 139) 132,
 zT 141 (bo .add (t 140) (n 1)) 132,
 zT 142 (bo .neq (t 134) (t 141)) 132,
 zF 143 (.pick (.tmp 132) (.tmp 142) (.const (.bool false))) 128,
 z 144 (.pick (.tmp 128) (.const (.bool true)) (.tmp 143))] [[], [0], [1], [2], [3], [4, 3], [5, 3], [6, 3, 3], [7], [8, 7], [7], [10, 7], [7], [11, 12, 7], [13, 7], [14, 7], [15, 7], [9, 16, 7], [7, 17, 3], [3, 18], [19, 7], [20], [21, 20], [22, 20], [23, 20, 20], [24], [25, 24], [24], [27, 24], [24], [28, 29, 24], [30, 24], [31, 24], [32, 24], [26, 33, 24], [24, 34, 20], [20, 35]]
def c11_1 : IR := (S (S (R [z 66 (mv 9),
 z 67 (mv 8),
 z 68 (fa 29 5 0),
 o 69 (ia 24 68 67),
 z 70 (ld 23 69),
 z 71 (len 70 23),
 z 72 (bo .lss (t 66) (t 71))])
(.cond (t 72)
.skip
(.exit 2 [1, 2, 5, 7, 8])))
(S (.block 3 (S d11_2
(S (S (R [z 89 (fa 45 10 0),
 z 90 (ld 3 89),
 z 91 (fa 45 11 0),
 z 92 (ld 3 91),
 z 93 (bo .neq (t 90) (t 92)),
 z 94 (mv 93),
 zF 95 (fa 45 10 1) 94,
 zF 96 (ld 3 95) 94,
 zF 97 (fa 45 11 1) 94,
 zF 98 (ld 3 97) 94,
 zF 99 (bo .neq (t 96) (t 98)) 94,
 z 100 (.pick (.tmp 94) (.const (.bool true)) (.tmp 99))])
(.cond (t 100)
(S (R [z 4 (ab false)])
(.ret [4]))
.skip))
(S (R [z 101 (fa 45 10 2),
 z 102 (ld 3 101),
 z 103 (fa 45 11 2),
 z 104 (ld 3 103),
 z 105 (bo .neq (t 102) (t 104))])
(.cond (t 105)
(S (R [z 106 (mv 7),
 z 107 (bo .add (t 106) (n 1)),
 z 7 (av 107)])
(S d11_3
(.cond (t 144)
(S (R [z 4 (ab false)])
(.ret [4]))
.skip)))
.skip)))))
(R [z 73 (mv 9),
 z 74 (bo .add (t 73) (n 1)),
 z 9 (av 74)])))
def c11_2 : IR := (S (S (R [z 51 (mv 8),
 z 52 (bo .lss (t 51) (n 4))])
(.cond (t 52)
.skip
(.exit 0 [1, 2, 5, 7])))
(S (.block 1 (S (S d11_1
(.cond (t 65)
(S (R [z 4 (ab false)])
(.ret [4]))
.skip))
(S (R [z 9 (an 0)])
(.block 2 (.loop [1, 2, 5, 7, 8, 9] c11_1)))))
(R [z 53 (mv 8),
 z 54 (bo .add (t 53) (n 1)),
 z 8 (av 54)])))
def d11_4 : IR := D [z 151 (mv 12),
 z 152 (mv 151),
 zT 153 (mv 13) 152,
 zT 154 (bo .eql (t 153) (n 0)) 152,
 z 155 (.pick (.tmp 152) (.tmp 154) (.const (.bool false))),
 z 156 (mv 155),
 zT 157 (mv 7) 156,
 zT 158 (bo .eql (t 157) (n 1)) 156,
 zT 159 (mv 158) 156,
 zT 160 (fa 29 5 3) 159,
 zT 161 (ld 26 160) 159,
 zT 162 (mv 1) 159,
 oT 163 (ia 26 161 162) 159,
 zT 164 (fa 37 163 9) 159,
 zT 165 (ld 3 164) 159,
 zT 166 (fa 29 2 3) 159,
 zT 167 (ld 26 166) 159,
 zT 168 (mv 1) 159,
 oT 169 (ia 26 167 168) 159,
 zT 170 (fa 37 169 9) 159,
 zT 171 (ld 3 170) 159,
 zT 172 (bo .add (t 171) (n 1)) 159,
 zT 173 (bo .eql (t 165) (t 172)) 159,
 zT 174 (.pick (.tmp 159) (.tmp 173) (.const (.bool false))) 156,
 zT 175 (mv 174) 156,
 zF 176 (fa 29 5 3) 175,
 zF 177 (ld 26 176) 175,
 zF 178 (mv 1) 175,
 oF 179 (ia 26 177 178) 175,
 zF 180 (fa 37 179 4) 175,
 zF 181 (ld 3 180) 175,
 zF 182 (bo .eql (t 181) (n 0)) 175,
 zT 183 (.pick (.tmp 175) (.const (.bool true)) (.tmp 182)) 156,
 z 184 (.pick (.tmp 156) (.tmp 183) (.const (.bool false))),
 z 4 (av 184)] [[], [0], [1], [2, 1], [1, 3], [4, 1], [5], [6, 5], [7, 5, 5], [8], [9, 8], [8], [10, 11, 8], [12, 8], [13, 8], [8], [15, 8], [8], [16, 17, 8], [18, 8], [19, 8], [20, 8], [14, 21, 8], [8, 22, 5], [23, 8, 5], [24], [25, 24], [24], [26, 27, 24], [28, 24], [29, 24], [30, 24], [24, 31, 5], [5, 32], [33, 24, 0, 1, 2, 3, 4, 5, 6, 7, 8, 9, 10, 11, 12, 13, 14, 15, 16, 17, 18, 19, 20, 21, 22, 23, 24, 25, 26, 27, 28, 29, 30, 31, 32, 33]]
def c11 : IR := (S (R [z 2 (bx 29 0),
 z 4 (ab false)])
(S (S (R [z 14 (cl 31 #[] #[]),
 z 15 (.unOp .not 4 (.tmp 14))])
(.cond (t 15)
(S (R [z 4 (ab false)])
(.ret [4]))
.skip))
(S (R [z 17 (ld 29 2),
 z 18 (mv 1),
 z 19 (cl 29 #[(t 17), (t 18)] #[29, 3]),
 z 16 (mv 19),
 z 20 (xt 16 0),
 z 21 (xt 16 1),
 z 5 (al 29),
 ⟨none, st 29 5 20, none, true⟩,
 z 6 (av 21)])
(S (S (R [z 22 (mv 6),
 z 23 (cl 17 #[(t 22)] #[40]),
 z 24 (bo .neq (t 23) (n 0))])
(.cond (t 24)
(S (R [z 25 (ld 29 5),
 z 26 (.build 29 #[]),
 z 27 (cl 22 #[(t 25), (t 26)] #[29, 29]),
 z 4 (av 27)])
(.ret [4]))
.skip))
(S (S (R [z 28 (fa 29 5 1),
 z 29 (ld 25 28),
 z 30 (fa 29 2 1),
 z 31 (ld 25 30),
 z 32 (.binOp .neq 25 (.tmp 29) (.tmp 31) 25),
 z 33 (mv 32),
 zF 34 (mv 1) 33,
 zF 35 (bo .lss (t 34) (n 0)) 33,
 z 36 (.pick (.tmp 33) (.const (.bool true)) (.tmp 35)),
 z 37 (mv 36),
 zF 38 (mv 1) 37,
 zF 39 (fa 29 2 3) 37,
 zF 40 (ld 26 39) 37,
 zF 41 (len 40 26) 37,
 zF 42 (bo .geq (t 38) (t 41)) 37,
 z 43 (.pick (.tmp 37) (.const (.bool true)) (.tmp 42)),
 z 44 (mv 43),
 zF 45 (mv 1) 44,
 zF 46 (fa 29 5 3) 44,
 zF 47 (ld 26 46) 44,
 zF 48 (len 47 26) 44,
 zF 49 (bo .geq (t 45) (t 48)) 44,
 z 50 (.pick (.tmp 44) (.const (.bool true)) (.tmp 49))])
(.cond (t 50)
(S (R [z 4 (ab false)])
(.ret [4]))
.skip))
(S (R [z 7 (an 0)])
(S (S (R [z 8 (an 0)])
(.block 0 (.loop [1, 2, 5, 7, 8] c11_2)))
(S (R [z 146 (fa 29 2 0),
 z 147 (ld 24 146),
 z 148 (cl 34 #[(t 147), (.const (.slice none 0 0)), (n 0)] #[24, 34, 3]),
 z 145 (mv 148),
 z 149 (xt 145 0),
 z 150 (xt 145 1),
 z 12 (av 149),
 z 13 (av 150)])
(S d11_4
(.ret [4]))))))))))
def g11 : IFn := ⟨185, [.tmp 4], [4], c11, [], false, none⟩
/- 12 veil/veillaw18.GrabTwo -/
def c12_1 : IR := (S (S (R [z 34 (mv 7),
 z 35 (bo .lss (t 34) (n 3))])
(.cond (t 35)
.skip
(.exit 0 [0, 5, 6])))
(S (.block 1 (R [z 39 (ld 29 5),
 z 40 (cl 15 #[(t 39), (n 0)] #[29, 3]),
 z 38 (mv 40),
 z 41 (xt 38 0),
 z 42 (xt 38 1),
 ⟨none, st 29 5 41, none, true⟩]))
(R [z 36 (mv 7),
 z 37 (bo .add (t 36) (n 1)),
 z 7 (av 37)])))
def c12_2 : IR := (S (S (R [z 43 (mv 8),
 z 44 (bo .lss (t 43) (n 2))])
(.cond (t 44)
.skip
(.exit 2 [0, 5, 6])))
(S (.block 3 (R [z 48 (ld 29 5),
 z 49 (cl 15 #[(t 48), (n 1)] #[29, 3]),
 z 47 (mv 49),
 z 50 (xt 47 0),
 z 51 (xt 47 1),
 ⟨none, st 29 5 50, none, true⟩]))
(R [z 45 (mv 8),
 z 46 (bo .add (t 45) (n 1)),
 z 8 (av 46)])))
def d12_1 : IR := D [z 80 (mv 12),
 z 81 (cl 17 #[(t 80)] #[40]),
 z 82 (bo .eql (t 81) (n 0)),
 z 83 (mv 82),
 zT 84 (mv 14) 83,
 zT 85 (cl 17 #[(t 84)] #[40]) 83,
 zT 86 (bo .eql (t 85) (n 0)) 83,
 z 87 (.pick (.tmp 83) (.tmp 86) (.const (.bool false))),
 z 88 (mv 87),
 zT 89 (fa 29 13 3) 88,
 zT 90 (ld 26 89) 88,
 zT 91 (mv 9) 88,
 oT 92 (ia 26 90 91) 88,
 zT 93 (fa 37 92 4) 88,
 zT 94 (ld 3 93) 88,
 zT 95 (bo .eql (t 94) (n 2)) 88,
 z 96 (.pick (.tmp 88) (.tmp 95) (.const (.bool false))),
 z 97 (mv 96),
 zT 98 (fa 29 13 3) 97,
 zT 99 (ld 26 98) 97,
 zT 100 (mv 10) 97,
 oT 101 (ia 26 99 100) 97,
 zT 102 (fa 37 101 4) 97,
 zT 103 (ld 3 102) 97,
 zT 104 (bo .eql (t 103) (n 0)) 97,
 z 105 (.pick (.tmp 97) (.tmp 104) (.const (.bool false))),
 z 106 (mv 105),
 zT 107 (fa 29 13 3) 106,
 zT 108 (ld 26 107) 106,
 zT 109 (mv 10) 106,
 oT 110 (ia 26 108 109) 106,
 zT 111 (fa 37 110 11) 106,
 zT 112 (ld 3 111) 106,
 zT 113 (bo .eql (t 112) (n 1)) 106,
 z 114 (.pick (.tmp 106) (.tmp 113) (.const (.bool false))),
 z 115 (mv 114),
 zT 116 (fa 29 13 0) 115,
 oT 117 (.indexAddr 24 (.tmp 116) (.const (.int .i64 0))) 115,
 zT 118 (ld 23 117) 115,
 oT 119 (.indexAddr 23 (.tmp 118) (.const (.int .i64 0))) 115,
 zT 120 (fa 45 119 2) 115,
 zT 121 (ld 3 120) 115,
 zT 122 (fa 29 13 3) 115,
 zT 123 (ld 26 122) 115,
 zT 124 (mv 9) 115,
 oT 125 (ia 26 123 124) 115,
 zT 126 (fa 37 125 0) 115,
 zT 127 (ld 3 126) 115,
 zT 128 (bo .add (t 127) (n 1)) 115,
 zT 129 (bo .eql (t 121) (t 128)) 115,
 z 130 (.pick (.tmp 115) (.tmp 129) (.const (.bool false))),
 z 131 (mv 130),
 zT 132 (cl 33 #[] #[]) 131,
 zT 133 (.field 29 (.tmp 132) 3) 131,
 zT 134 (len 133 26) 131,
 zT 135 (cl 32 #[(n 0), (n 0)] #[3, 3]) 131,
 zT 136 (.field 29 (.tmp 135) 3) 131,
 zT 137 (len 136 26) 131,
 zT 138 (bo .add (t 134) (t 137)) 131,
 zT 139 (bo .eql (t 138) (n 4)) 131,
 z 140 (.pick (.tmp 131) (.tmp 139) (.const (.bool false))),
 z 4 (av 140)] [[], [0], [1], [2, 1], [3], [4, 3, 3], [5, 3], [3, 6], [7, 5], [8], [9, 8], [8], [10, 11, 8], [12, 8], [13, 8], [14, 8], [8, 15], [16, 8], [17], [18, 17], [17], [19, 20, 17], [21, 17], [22, 17], [23, 17], [17, 24], [25, 17], [26], [27, 26], [26], [28, 29, 26], [30, 26], [31, 26], [32, 26], [26, 33], [34, 26], [35], [36, 35], [37, 35], [38, 35], [39, 35], [40, 35], [35], [42, 35], [35], [43, 44, 35], [45, 35], [46, 35], [47, 35], [41, 48, 35], [35, 49], [50, 35], [51, 51], [52, 51], [53, 51], [52, 51], [55, 51], [56, 51], [54, 57, 51], [58, 51], [51, 59], [60, 55, 0, 1, 2, 3, 4, 5, 6, 7, 8, 9, 10, 11, 12, 13, 14, 15, 16, 17, 18, 19, 20, 21, 22, 23, 24, 25, 26, 27, 28, 29, 30, 31, 32, 33, 34, 35, 36, 37, 38, 39, 40, 41, 42, 43, 44, 45, 46, 47, 48, 49, 50, 51, 52, 53, 54, 55, 56, 57, 58, 59, 60]]
def c12 : IR := (S (R [z 4 (ab false)])
(S (S (R [z 15 (cl 31 #[] #[]),
 z 16 (.unOp .not 4 (.tmp 15))])
(.cond (t 16)
(S (R [z 4 (ab false)])
(.ret [4]))
.skip))
(S (R [z 18 (.buildSlice 53 1 #[(0, (.const (.int .i64 1)))]),
 z 19 (.build 64 #[(0, (.tmp 18))]),
 z 20 (mv 1),
 z 21 (bo .and (t 20) (n 255)),
 z 22 (.build 32 #[(0, (.const (.int .i64 0))), (2, (.tmp 21))]),
 z 23 (.build 32 #[(0, (.const (.int .i64 3)))]),
 z 24 (.buildSlice 33 2 #[(0, (.tmp 22)), (1, (.tmp 23))]),
 z 25 (.build 66 #[(0, (.const (.int .i64 3))), (3, (.tmp 24))]),
 z 26 (.build 32 #[(0, (.const (.int .i64 3)))]),
 z 27 (.buildSlice 33 1 #[(0, (.tmp 26))]),
 z 28 (.build 66 #[(0, (.const (.int .i64 5))), (3, (.tmp 27))]),
 z 29 (.buildSlice 67 2 #[(0, (.tmp 25)), (1, (.tmp 28))]),
 z 30 (.build 70 #[(0, (.tmp 19)), (1, (.const (.int .i64 9))), (2, (.tmp 29))]),
 z 31 (cl 35 #[(t 30)] #[70]),
 z 17 (mv 31),
 z 32 (xt 17 0),
 z 33 (xt 17 1),
 z 5 (al 29),
 ⟨none, st 29 5 32, none, true⟩,
 z 6 (av 33)])
(S (S (R [z 7 (an 0)])
(.block 0 (.loop [0, 5, 6, 7] c12_1)))
(S (S (R [z 8 (an 0)])
(.block 2 (.loop [0, 5, 6, 8] c12_2)))
(S (R [z 9 (an 0),
 z 10 (an 1)])
(S (S (R [z 52 (mv 0)])
(.cond (t 52)
(S (R [z 9 (an 1)])
(R [z 10 (an 0)]))
.skip))
(S (R [z 54 (ld 29 5),
 z 55 (mv 9),
 z 56 (cl 29 #[(t 54), (t 55)] #[29, 3]),
 z 53 (mv 56),
 z 57 (xt 53 0),
 z 58 (xt 53 1),
 z 11 (al 29),
 ⟨none, st 29 11 57, none, true⟩,
 z 12 (av 58)])
(S (R [z 60 (ld 29 11),
 z 61 (mv 10),
 z 62 (cl 29 #[(t 60), (t 61)] #[29, 3]),
 z 59 (mv 62),
 z 63 (xt 59 0),
 z 64 (xt 59 1),
 z 13 (al 29),
 ⟨none, st 29 13 63, none, true⟩,
 z 14 (av 64)])
(S (S (R [z 65 (mv 6),
 z 66 (bo .neq (t 65) (n 0)),
 z 67 (mv 66),
 zF 68 (fa 29 13 3) 67,
 zF 69 (ld 26 68) 67,
 zF 70 (len 69 26) 67,
 zF 71 (bo .neq (t 70) (n 2)) 67,
 z 72 (.pick (.tmp 67) (.const (.bool true)) (.tmp 71)),
 z 73 (mv 72),
 zF 74 (fa 29 13 0) 73,
 oF 75 (.indexAddr 24 (.tmp 74) (.const (.int .i64 0))) 73,
 zF 76 (ld 23 75) 73,
 zF 77 (len 76 23) 73,
 zF 78 (bo .neq (t 77) (n 1)) 73,
 z 79 (.pick (.tmp 73) (.const (.bool true)) (.tmp 78))])
(.cond (t 79)
(S (R [z 4 (ab false)])
(.ret [4]))
.skip))
(S d12_1
(.ret [4]))))))))))))
def g12 : IFn := ⟨141, [.tmp 4], [4], c12, [], false, none⟩
/- 13 veil/veillaw21.awake -/
def c13 : IR := (S (R [z 0 (ab false)])
(S (R [z 6 (cl 18 #[(n 0), (n 7)] #[3, 3]),
 z 7 (cl 16 #[(t 6), (n 0)] #[29, 3]),
 z 5 (mv 7),
 z 8 (xt 5 0),
 z 9 (xt 5 1),
 z 1 (al 29),
 ⟨none, st 29 1 8, none, true⟩,
 z 2 (av 9)])
(S (R [z 11 (cl 14 #[] #[]),
 z 12 (cl 16 #[(t 11), (n 0)] #[29, 3]),
 z 10 (mv 12),
 z 13 (xt 10 0),
 z 14 (xt 10 1),
 z 3 (al 29),
 ⟨none, st 29 3 13, none, true⟩,
 z 4 (av 14)])
(S (S (R [z 15 (fa 29 1 3),
 z 16 (ld 26 15),
 z 17 (len 16 26),
 z 18 (bo .neq (t 17) (n 2)),
 z 19 (mv 18),
 zF 20 (fa 29 1 0) 19,
 oF 21 (.indexAddr 24 (.tmp 20) (.const (.int .i64 0))) 19,
 zF 22 (ld 23 21) 19,
 zF 23 (len 22 23) 19,
 zF 24 (bo .neq (t 23) (n 2)) 19,
 z 25 (.pick (.tmp 19) (.const (.bool true)) (.tmp 24))])
(.cond (t 25)
(S (R [z 0 (ab false)])
(.ret [0]))
.skip))
(S (R [z 26 (fa 29 1 0),
 o 27 (.indexAddr 24 (.tmp 26) (.const (.int .i64 0))),
 z 28 (ld 23 27),
 o 29 (.indexAddr 23 (.tmp 28) (.const (.int .i64 0))),
 z 30 (ld 45 29),
 z 31 (.build 45 #[(0, (.const (.int .i64 10))), (1, (.const (.int .i64 1)))]),
 z 32 (.binOp .eql 45 (.tmp 30) (.tmp 31) 45),
 z 33 (mv 32),
 zT 34 (fa 29 1 3) 33,
 zT 35 (ld 26 34) 33,
 oT 36 (.indexAddr 26 (.tmp 35) (.const (.int .i64 0))) 33,
 zT 37 (fa 37 36 12) 33,
 zT 38 (ld 3 37) 33,
 zT 39 (bo .eql (t 38) (n 1)) 33,
 z 40 (.pick (.tmp 33) (.tmp 39) (.const (.bool false))),
 z 41 (mv 40),
 zT 42 (fa 29 1 3) 41,
 zT 43 (ld 26 42) 41,
 oT 44 (.indexAddr 26 (.tmp 43) (.const (.int .i64 0))) 41,
 zT 45 (fa 37 44 4) 41,
 zT 46 (ld 3 45) 41,
 zT 47 (bo .eql (t 46) (n 6)) 41,
 z 48 (.pick (.tmp 41) (.tmp 47) (.const (.bool false))),
 z 49 (mv 48),
 zT 50 (mv 2) 49,
 zT 51 (cl 17 #[(t 50)] #[40]) 49,
 zT 52 (bo .eql (t 51) (n 0)) 49,
 z 53 (.pick (.tmp 49) (.tmp 52) (.const (.bool false))),
 z 54 (mv 53),
 zT 55 (mv 4) 54,
 zT 56 (cl 17 #[(t 55)] #[40]) 54,
 zT 57 (bo .eql (t 56) (n 2100)) 54,
 z 58 (.pick (.tmp 54) (.tmp 57) (.const (.bool false))),
 z 0 (av 58)])
(.ret [0]))))))
def g13 : IFn := ⟨59, [.tmp 0], [4], c13, [], false, none⟩
/- 14 veil/veillaw21.begun -/
def c14 : IR := (S (R [o 0 (al 29)])
(S (R [o 4 (.buildSlice 53 2 #[(0, (.const (.int .i64 5))), (1, (.const (.int .i64 6)))]),
 o 5 (.buildSlice 53 1 #[(0, (.const (.int .i64 7)))]),
 o 6 (.buildSlice 53 1 #[(0, (.const (.int .i64 9)))]),
 o 7 (.build 64 #[(0, (.tmp 4)), (1, (.tmp 5)), (2, (.const (.slice none 0 0))), (3, (.tmp 6))]),
 o 8 (.build 32 #[(0, (.const (.int .i64 2)))]),
 o 9 (.build 32 #[(0, (.const (.int .i64 1)))]),
 o 10 (.build 32 #[(0, (.const (.int .i64 3)))]),
 o 11 (.buildSlice 33 3 #[(0, (.tmp 8)), (1, (.tmp 9)), (2, (.tmp 10))]),
 o 12 (.build 66 #[(0, (.const (.int .i64 3))), (2, (.const (.int .i64 3))), (3, (.tmp 11))]),
 o 13 (.build 32 #[(0, (.const (.int .i64 2))), (3, (.const (.int .i64 1)))]),
 o 14 (.build 32 #[(0, (.const (.int .i64 3))), (2, (.const (.int .i64 1)))]),
 o 15 (.buildSlice 33 2 #[(0, (.tmp 13)), (1, (.tmp 14))]),
 o 16 (.build 66 #[(0, (.const (.int .i64 5))), (1, (.const (.int .i64 1))), (2, (.const (.int .i64 1))), (3, (.tmp 15))]),
 o 17 (.buildSlice 67 2 #[(0, (.tmp 12)), (1, (.tmp 16))]),
 o 18 (.build 70 #[(0, (.tmp 7)), (1, (.const (.int .i64 9))), (2, (.tmp 17))]),
 o 19 (cl 35 #[(t 18)] #[70]),
 o 3 (mv 19),
 o 20 (xt 3 0),
 o 21 (xt 3 1),
 o 1 (al 29),
 w (st 29 1 20),
 o 2 (av 21)])
(S (R [o 22 (ld 29 1),
 w (st 29 0 22)])
(.ret [0]))))
def g14 : IFn := ⟨23, [.cell 0 29], [29], c14, [], false, none⟩
/- 15 veil/veilref11.Step -/
def c15 : IR := (S (R [z 2 (bx 29 0),
 o 4 (al 29),
 o 5 (an 0)])
(S (S (R [o 8 (ld 29 2),
 o 9 (mv 1),
 o 10 (cl 36 #[(t 8), (t 9)] #[29, 3]),
 o 11 (.unOp .not 4 (.tmp 10))])
(.cond (t 11)
(S (R [o 12 (.build 29 #[]),
 w (st 29 4 12),
 o 5 (an 2300)])
(.ret [4, 5]))
.skip))
(S (R [o 13 (ld 29 2),
 o 14 (cl 37 #[(t 13)] #[29]),
 o 6 (al 29),
 w (st 29 6 14),
 o 7 (an 0)])
(S (S (R [o 15 (fa 29 2 3),
 o 16 (ld 26 15),
 o 17 (mv 1),
 o 18 (ia 26 16 17),
 o 19 (fa 37 18 4),
 o 20 (ld 3 19)])
(.block 0 (S (R [o 22 (bo .eql (t 20) (n 0)),
 o 21 (av 22)])
(.cond (t 21)
(R [o 24 (ld 29 2),
 o 25 (mv 1),
 o 26 (cl 38 #[(t 24), (t 25)] #[29, 3]),
 o 23 (mv 26),
 o 27 (xt 23 0),
 o 28 (xt 23 1),
 w (st 29 6 27),
 o 7 (av 28)])
(S (R [o 30 (bo .eql (t 20) (n 1)),
 o 29 (av 30)])
(.cond (t 29)
(R [o 32 (ld 29 2),
 o 33 (mv 1),
 o 34 (cl 30 #[(t 32), (t 33)] #[29, 3]),
 o 31 (mv 34),
 o 35 (xt 31 0),
 o 36 (xt 31 1),
 w (st 29 6 35),
 o 7 (av 36)])
(S (R [o 38 (bo .eql (t 20) (n 2)),
 o 37 (av 38)])
(.cond (t 37)
(R [o 40 (ld 29 2),
 o 41 (mv 1),
 o 42 (cl 21 #[(t 40), (t 41)] #[29, 3]),
 o 39 (mv 42),
 o 43 (xt 39 0),
 o 44 (xt 39 1),
 w (st 29 6 43),
 o 7 (av 44)])
(S (R [o 46 (bo .eql (t 20) (n 3)),
 o 45 (av 46)])
(.cond (t 45)
(R [o 48 (ld 29 2),
 o 49 (mv 1),
 o 50 (cl 39 #[(t 48), (t 49)] #[29, 3]),
 o 47 (mv 50),
 o 51 (xt 47 0),
 o 52 (xt 47 1),
 w (st 29 6 51),
 o 7 (av 52)])
(S (R [o 54 (bo .eql (t 20) (n 4)),
 o 53 (av 54)])
(.cond (t 53)
(R [o 56 (ld 29 2),
 o 57 (mv 1),
 o 58 (cl 40 #[(t 56), (t 57)] #[29, 3]),
 o 55 (mv 58),
 o 59 (xt 55 0),
 o 60 (xt 55 1),
 w (st 29 6 59),
 o 7 (av 60)])
(S (R [o 62 (bo .eql (t 20) (n 5)),
 o 61 (av 62)])
(.cond (t 61)
(R [o 64 (ld 29 2),
 o 65 (mv 1),
 o 66 (cl 41 #[(t 64), (t 65)] #[29, 3]),
 o 63 (mv 66),
 o 67 (xt 63 0),
 o 68 (xt 63 1),
 w (st 29 6 67),
 o 7 (av 68)])
.skip))))))))))))))
(S (S (R [o 69 (mv 7),
 o 70 (bo .neq (t 69) (n 0))])
(.cond (t 70)
(S (R [o 71 (.build 29 #[]),
 w (st 29 4 71),
 o 5 (an 2300)])
(.ret [4, 5]))
.skip))
(S (R [o 72 (ld 29 6),
 w (st 29 4 72),
 o 5 (an 0)])
(.ret [4, 5])))))))
def g15 : IFn := ⟨73, [.cell 4 29, .tmp 5], [29, 3], c15, [], false, none⟩
/- 16 veil/back.Step -/
def d16_1 : IR := D [o 10 (mv 1),
 o 11 (cl 42 #[(t 2), (t 10), (n 4)] #[73, 3, 3]),
 o 12 (.unOp .not 4 (.tmp 11)),
 o 13 (mv 12),
 oF 14 (fa 29 2 3) 13,
 oF 15 (ld 26 14) 13,
 oF 16 (mv 1) 13,
 oF 17 (ia 26 15 16) 13,
 oF 18 (fa 37 17 9) 13,
 oF 19 (ld 3 18) 13,
 oF 20 (fa 29 2 3) 13,
 oF 21 (ld 26 20) 13,
 oF 22 (mv 1) 13,
 oF 23 (ia 26 21 22) 13,
 oF 24 (fa 37 23 8) 13,
 oF 25 (ld 35 24) 13,
 oF 26 (len 25 35) 13,
 oF 27 (bo .eql (t 19) (t 26)) 13,
 o 28 (.pick (.tmp 13) (.const (.bool true)) (.tmp 27))] [[], [0], [1], [2, 1], [3], [4, 3], [3], [5, 6, 3], [7, 3], [8, 3], [3], [10, 3], [3], [11, 12, 3], [13, 3], [14, 3], [15, 3], [9, 16, 3], [3, 17]]
def d16_2 : IR := D [o 36 (mv 7),
 o 37 (nc 36),
 o 38 (fa 37 37 8),
 o 39 (ld 35 38),
 o 40 (mv 7),
 o 41 (nc 40),
 o 42 (fa 37 41 9),
 o 43 (ld 3 42),
 o 44 (ia 35 39 43),
 o 45 (ld 60 44),
 o 8 (al 60),
 w (st 60 8 45)] [[], [0], [1], [2], [], [4], [5], [6], [3, 7], [8], [], [10, 9, 0, 1, 2, 3, 4, 5, 6, 7, 8, 9, 10]]
def d16_3 : IR := D [o 46 (fa 60 8 0),
 o 47 (ld 3 46),
 o 48 (fa 29 6 0),
 o 49 (ia 24 48 47),
 o 50 (ld 23 49),
 o 51 (fa 60 8 1),
 o 52 (ld 3 51),
 o 53 (ia 23 50 52),
 o 9 (av 53)] [[], [0], [], [2, 1], [3], [], [5], [4, 6], [7, 0, 1, 2, 3, 4, 5, 6, 7]]
def d16_4 : IR := D [o 55 (mv 9),
 o 56 (mv 9),
 o 57 (nc 56),
 o 58 (ld 45 57),
 o 59 (fa 60 8 2),
 o 60 (ld 3 59),
 o 61 (mv 7),
 o 62 (nc 61),
 o 63 (fa 37 62 10),
 o 64 (ld 3 63),
 o 65 (cl 44 #[(t 58), (t 60), (t 64)] #[45, 3, 3]),
 o 54 (mv 65),
 o 66 (xt 54 0),
 o 67 (xt 54 1),
 o 68 (nc 55),
 w (st 45 68 66)] [[], [], [1], [2], [], [4], [], [6], [7], [8], [3, 5, 9], [10], [11], [11], [0, 0, 1, 2, 3, 4, 5, 6, 7, 8, 9, 10, 11, 12], [14, 12, 10, 0, 1, 2, 3, 4, 5, 6, 7, 8, 9, 10, 11, 12]]
def d16_5 : IR := D [o 76 (mv 7),
 o 77 (nc 76),
 o 78 (fa 37 77 9),
 o 79 (ld 3 78),
 o 80 (mv 7),
 o 81 (nc 80),
 o 82 (fa 37 81 8),
 o 83 (ld 35 82),
 o 84 (len 83 35),
 o 85 (bo .lss (t 79) (t 84))] [[], [0], [1], [2], [], [4], [5], [6], [7], [3, 8]]
def c16 : IR := (S (R [z 2 (bx 29 0),
 o 4 (al 29),
 o 5 (an 0)])
(S (S d16_1
(.cond (t 28)
(S (R [o 29 (.build 29 #[]),
 w (st 29 4 29),
 o 5 (an 2100)])
(.ret [4, 5]))
.skip))
(S (R [o 30 (ld 29 2),
 o 31 (cl 43 #[(t 30)] #[29]),
 o 6 (al 29),
 w (st 29 6 31)])
(S (R [o 32 (fa 29 6 3),
 o 33 (ld 26 32),
 o 34 (mv 1),
 z 35 (ia 26 33 34),
 o 7 (av 35)])
(S d16_2
(S d16_3
(S d16_4
(S (S (R [o 69 (mv 7),
 o 70 (nc 69),
 o 71 (fa 37 70 9),
 o 72 (ld 3 71),
 o 73 (bo .add (t 72) (n 1)),
 o 74 (nc 69),
 o 75 (fa 37 74 9),
 w (st 3 75 73)])
(S d16_5
(.cond (t 85)
(S (R [o 86 (ld 29 6),
 w (st 29 4 86),
 o 5 (an 0)])
(.ret [4, 5]))
.skip)))
(S (R [o 87 (ld 29 6),
 o 88 (mv 1),
 o 89 (cl 45 #[(t 87), (t 88), (n 1), (n 0)] #[29, 3, 3, 3]),
 o 90 (xt 89 0),
 o 91 (xt 89 1),
 w (st 29 4 90),
 o 5 (av 91)])
(.ret [4, 5]))))))))))
def g16 : IFn := ⟨92, [.cell 4 29, .tmp 5], [29, 40], c16, [], false, none⟩
/- 17 veil/veillaw0.Num -/
def c17 : IR := (S (R [o 2 (an 0)])
(S (R [o 3 (mv 0),
 o 2 (av 3)])
(.ret [2])))
def g17 : IFn := ⟨4, [.tmp 2], [3], c17, [], false, none⟩
/- 18 veil/veillaw21.stepped -/
def c18_1 : IR := (S (S (R [o 8 (mv 6),
 o 9 (mv 1),
 o 10 (bo .lss (t 8) (t 9))])
(.cond (t 10)
.skip
(.exit 0 [4, 5])))
(S (.block 1 (R [o 14 (ld 29 5),
 o 15 (mv 0),
 o 16 (cl 15 #[(t 14), (t 15)] #[29, 3]),
 o 13 (mv 16),
 o 17 (xt 13 0),
 o 18 (xt 13 1),
 w (st 29 5 17)]))
(R [o 11 (mv 6),
 o 12 (bo .add (t 11) (n 1)),
 o 6 (av 12)])))
def c18 : IR := (S (R [o 4 (al 29)])
(S (R [o 7 (cl 14 #[] #[]),
 o 5 (al 29),
 w (st 29 5 7)])
(S (S (R [o 6 (an 0)])
(.block 0 (.loop [0, 1, 4, 5, 6] c18_1)))
(S (R [o 19 (ld 29 5),
 w (st 29 4 19)])
(.ret [4])))))
def g18 : IFn := ⟨20, [.cell 4 29], [29], c18, [], false, none⟩
/- 19 veil/veillaw0.CopyMachine -/
def d19_1 : IR := D [o 18 (fa 29 3 3),
 o 19 (ld 26 18),
 o 20 (fa 29 1 3),
 o 21 (ld 26 20),
 o 22 (mv 4),
 o 23 (ia 26 21 22),
 o 24 (ld 37 23),
 o 25 (cl 47 #[(t 24)] #[37]),
 o 26 (.buildSlice 26 1 #[(0, (.tmp 25))]),
 o 27 (.call { callee := (.builtin .append), args := #[(.tmp 19), (.tmp 26)], argTypes := #[26, 26] }),
 o 28 (fa 29 3 3),
 w (st 26 28 27)] [[], [0], [], [2], [], [3, 4], [5], [6], [7], [1, 8, 7], [0, 1, 2, 3, 4, 5, 6, 7, 8, 9], [10, 9, 9, 0, 1, 2, 3, 4, 5, 6, 7, 8, 9]]
def c19_1 : IR := (S (S (R [o 11 (mv 4),
 o 12 (fa 29 1 3),
 o 13 (ld 26 12),
 o 14 (len 13 26),
 o 15 (bo .lss (t 11) (t 14))])
(.cond (t 15)
.skip
(.exit 0 [1, 2, 3])))
(S (.block 1 d19_1)
(R [o 16 (mv 4),
 o 17 (bo .add (t 16) (n 1)),
 o 4 (av 17)])))
def c19 : IR := (S (R [z 1 (bx 29 0),
 o 2 (al 29)])
(S (R [o 5 (ld 29 1),
 o 3 (al 29),
 w (st 29 3 5)])
(S (R [o 6 (fa 29 1 0),
 o 7 (ld 24 6),
 o 8 (cl 46 #[(t 7)] #[24]),
 o 9 (fa 29 3 0),
 w (st 24 9 8)])
(S (R [o 10 (fa 29 3 3),
 w (.store 26 (.tmp 10) (.const (.slice none 0 0)))])
(S (S (R [o 4 (an 0)])
(.block 0 (.loop [1, 2, 3, 4] c19_1)))
(S (R [o 29 (.buildSlice 27 0 #[]),
 o 30 (fa 29 1 4),
 o 31 (ld 27 30),
 o 32 (.call { callee := (.builtin .append), args := #[(.tmp 29), (.tmp 31)], argTypes := #[27, 27] }),
 o 33 (fa 29 3 4),
 w (st 27 33 32)])
(S (R [o 34 (ld 29 3),
 w (st 29 2 34)])
(.ret [2]))))))))
def g19 : IFn := ⟨35, [.cell 2 29], [29], c19, [], false, none⟩
/- 20 veil/stamp.Step -/
def d20_1 : IR := D [o 16 (fa 29 2 1),
 o 17 (ld 25 16),
 o 18 (fa 29 2 3),
 o 19 (ld 26 18),
 o 20 (mv 1),
 o 21 (ia 26 19 20),
 o 22 (fa 37 21 1),
 o 23 (ld 3 22),
 o 24 (fa 29 2 2),
 o 25 (ld 3 24),
 o 26 (cl 48 #[(t 17), (t 23), (t 25)] #[25, 3, 3]),
 o 15 (mv 26),
 o 27 (xt 15 0),
 o 28 (xt 15 1),
 o 29 (xt 15 2),
 o 6 (al 25),
 w (st 25 6 27),
 o 7 (av 28),
 o 8 (av 29)] [[], [0], [], [2], [], [3, 4], [5], [6], [], [8], [1, 7, 9], [10], [11], [11], [11], [], [15, 12, 10, 0, 1, 2, 3, 4, 5, 6, 7, 8, 9, 10, 11, 12, 15], [13, 16, 0, 1, 2, 3, 4, 5, 6, 7, 8, 9, 10, 11, 12, 13, 15, 16], [14, 17, 0, 1, 2, 3, 4, 5, 6, 7, 8, 9, 10, 11, 12, 13, 14, 15, 16, 17]]
def c20 : IR := (S (R [z 2 (bx 29 0),
 o 4 (al 29),
 o 5 (an 0)])
(S (S (R [o 11 (mv 1),
 o 12 (cl 42 #[(t 2), (t 11), (n 2)] #[73, 3, 3]),
 o 13 (.unOp .not 4 (.tmp 12))])
(.cond (t 13)
(S (R [o 14 (.build 29 #[]),
 w (st 29 4 14),
 o 5 (an 1900)])
(.ret [4, 5]))
.skip))
(S d20_1
(S (S (R [o 30 (mv 8),
 o 31 (.binOp .neq 40 (.tmp 30) (.const (.int .i64 0)) 40)])
(.cond (t 31)
(S (R [o 32 (ld 29 2),
 o 33 (mv 1),
 o 34 (cl 45 #[(t 32), (t 33), (n 5), (n 0)] #[29, 3, 3, 3]),
 o 35 (xt 34 0),
 o 36 (xt 34 1),
 w (st 29 4 35),
 o 5 (av 36)])
(.ret [4, 5]))
.skip))
(S (R [o 37 (ld 29 2),
 o 38 (cl 43 #[(t 37)] #[29]),
 o 9 (al 29),
 w (st 29 9 38)])
(S (R [o 39 (fa 29 9 3),
 o 40 (ld 26 39),
 o 41 (mv 1),
 o 42 (ia 26 40 41),
 o 10 (av 42)])
(S (R [o 43 (mv 10),
 o 44 (mv 10),
 o 45 (ld 25 6),
 o 46 (mv 7),
 o 47 (fa 29 9 1),
 w (st 25 47 45),
 o 48 (nc 43),
 o 49 (fa 37 48 10),
 w (st 3 49 46),
 o 50 (nc 44),
 o 51 (fa 37 50 4),
 w (.store 3 (.tmp 51) (.const (.int .i64 3)))])
(S (R [o 52 (ld 29 9),
 w (st 29 4 52),
 o 5 (an 0)])
(.ret [4, 5])))))))))
def g20 : IFn := ⟨53, [.cell 4 29, .tmp 5], [29, 40], c20, [], false, none⟩
/- 21 veil/veilref11.Stamp -/
def d21_1 : IR := D [o 25 (fa 29 2 1),
 o 26 (ld 25 25),
 o 27 (fa 29 2 3),
 o 28 (ld 26 27),
 o 29 (mv 1),
 o 30 (ia 26 28 29),
 o 31 (fa 37 30 1),
 o 32 (ld 3 31),
 o 33 (fa 29 2 2),
 o 34 (ld 3 33),
 o 35 (cl 49 #[(t 26), (t 32), (t 34)] #[25, 3, 3]),
 o 24 (mv 35),
 o 36 (xt 24 0),
 o 37 (xt 24 1),
 o 38 (xt 24 2),
 o 6 (al 25),
 w (st 25 6 36),
 o 7 (av 37),
 o 8 (av 38)] [[], [0], [], [2], [], [3, 4], [5], [6], [], [8], [1, 7, 9], [10], [11], [11], [11], [], [15, 12, 10, 0, 1, 2, 3, 4, 5, 6, 7, 8, 9, 10, 11, 12, 15], [13, 16, 0, 1, 2, 3, 4, 5, 6, 7, 8, 9, 10, 11, 12, 13, 15, 16], [14, 17, 0, 1, 2, 3, 4, 5, 6, 7, 8, 9, 10, 11, 12, 13, 14, 15, 16, 17]]
def c21 : IR := (S (R [z 2 (bx 29 0),
 o 4 (al 29),
 o 5 (an 0)])
(S (S (R [o 10 (ld 29 2),
 o 11 (mv 1),
 o 12 (cl 36 #[(t 10), (t 11)] #[29, 3]),
 o 13 (.unOp .not 4 (.tmp 12)),
 o 14 (mv 13),
 oF 15 (fa 29 2 3) 14,
 oF 16 (ld 26 15) 14,
 oF 17 (mv 1) 14,
 oF 18 (ia 26 16 17) 14,
 oF 19 (fa 37 18 4) 14,
 oF 20 (ld 3 19) 14,
 oF 21 (bo .neq (t 20) (n 2)) 14,
 o 22 (.pick (.tmp 14) (.const (.bool true)) (.tmp 21))])
(.cond (t 22)
(S (R [o 23 (.build 29 #[]),
 w (st 29 4 23),
 o 5 (an 1900)])
(.ret [4, 5]))
.skip))
(S d21_1
(S (S (R [o 39 (mv 8),
 o 40 (bo .neq (t 39) (n 0))])
(.cond (t 40)
(S (R [o 41 (ld 29 2),
 o 42 (mv 1),
 o 43 (cl 50 #[(t 41), (t 42), (n 5), (n 0)] #[29, 3, 3, 3]),
 o 44 (xt 43 0),
 o 45 (xt 43 1),
 w (st 29 4 44),
 o 5 (av 45)])
(.ret [4, 5]))
.skip))
(S (R [o 46 (ld 29 2),
 o 47 (cl 37 #[(t 46)] #[29]),
 o 9 (al 29),
 w (st 29 9 47)])
(S (R [o 48 (ld 25 6),
 o 49 (fa 29 9 1),
 w (st 25 49 48)])
(S (R [o 50 (fa 29 9 3),
 o 51 (ld 26 50),
 o 52 (mv 1),
 o 53 (mv 7),
 o 54 (ia 26 51 52),
 o 55 (fa 37 54 10),
 w (st 3 55 53)])
(S (R [o 56 (fa 29 9 3),
 o 57 (ld 26 56),
 o 58 (mv 1),
 o 59 (ia 26 57 58),
 o 60 (fa 37 59 4),
 w (.store 3 (.tmp 60) (.const (.int .i64 3)))])
(S (R [o 61 (ld 29 9),
 w (st 29 4 61),
 o 5 (an 0)])
(.ret [4, 5]))))))))))
def g21 : IFn := ⟨62, [.cell 4 29, .tmp 5], [29, 3], c21, [], false, none⟩
/- 22 veil/veillaw0.SameMachine -/
def d22_1 : IR := D [o 50 (fa 29 2 3),
 o 51 (ld 26 50),
 o 52 (mv 5),
 o 53 (ia 26 51 52),
 o 54 (ld 37 53),
 o 55 (fa 29 3 3),
 o 56 (ld 26 55),
 o 57 (mv 5),
 o 58 (ia 26 56 57),
 o 59 (ld 37 58),
 o 60 (cl 51 #[(t 54), (t 59)] #[37, 37]),
 o 61 (.unOp .not 4 (.tmp 60))] [[], [0], [], [1, 2], [3], [], [5], [], [6, 7], [8], [4, 9], [10]]
def c22_1 : IR := (S (S (R [o 43 (mv 5),
 o 44 (fa 29 2 3),
 o 45 (ld 26 44),
 o 46 (len 45 26),
 o 47 (bo .lss (t 43) (t 46))])
(.cond (t 47)
.skip
(.exit 0 [])))
(S (.block 1 (S d22_1
(.cond (t 61)
(S (R [o 4 (ab false)])
(.ret [4]))
.skip)))
(R [o 48 (mv 5),
 o 49 (bo .add (t 48) (n 1)),
 o 5 (av 49)])))
def c22 : IR := (S (R [z 2 (bx 29 0),
 z 3 (bx 29 1),
 o 4 (ab false)])
(S (S (R [o 6 (fa 29 2 0),
 o 7 (ld 24 6),
 o 8 (fa 29 3 0),
 o 9 (ld 24 8),
 o 10 (cl 26 #[(t 7), (t 9)] #[24, 24]),
 o 11 (.unOp .not 4 (.tmp 10)),
 o 12 (mv 11),
 oF 13 (fa 29 2 1) 12,
 oF 14 (ld 25 13) 12,
 oF 15 (fa 29 3 1) 12,
 oF 16 (ld 25 15) 12,
 oF 17 (.binOp .neq 25 (.tmp 14) (.tmp 16) 25) 12,
 o 18 (.pick (.tmp 12) (.const (.bool true)) (.tmp 17)),
 o 19 (mv 18),
 oF 20 (fa 29 2 2) 19,
 oF 21 (ld 3 20) 19,
 oF 22 (fa 29 3 2) 19,
 oF 23 (ld 3 22) 19,
 oF 24 (bo .neq (t 21) (t 23)) 19,
 o 25 (.pick (.tmp 19) (.const (.bool true)) (.tmp 24)),
 o 26 (mv 25),
 oF 27 (fa 29 2 3) 26,
 oF 28 (ld 26 27) 26,
 oF 29 (len 28 26) 26,
 oF 30 (fa 29 3 3) 26,
 oF 31 (ld 26 30) 26,
 oF 32 (len 31 26) 26,
 oF 33 (bo .neq (t 29) (t 32)) 26,
 o 34 (.pick (.tmp 26) (.const (.bool true)) (.tmp 33)),
 o 35 (mv 34),
 oF 36 (fa 29 2 4) 35,
 oF 37 (ld 27 36) 35,
 oF 38 (fa 29 3 4) 35,
 oF 39 (ld 27 38) 35,
 oF 40 (cl 27 #[(t 37), (t 39)] #[27, 27]) 35,
 oF 41 (.unOp .not 4 (.tmp 40)) 35,
 o 42 (.pick (.tmp 35) (.const (.bool true)) (.tmp 41))])
(.cond (t 42)
(S (R [o 4 (ab false)])
(.ret [4]))
.skip))
(S (S (R [o 5 (an 0)])
(.block 0 (.loop [2, 3, 5] c22_1)))
(S (R [o 4 (ab true)])
(.ret [4])))))
def g22 : IFn := ⟨62, [.tmp 4], [4], c22, [], false, none⟩
/- 23 veil/veillaw0.SpoilMachine -/
def d23_1 : IR := D [o 19 (fa 29 1 3),
 o 20 (ld 26 19),
 o 21 (mv 2),
 o 22 (fa 29 1 3),
 o 23 (ld 26 22),
 o 24 (mv 2),
 o 25 (ia 26 23 24),
 o 26 (fa 37 25 0),
 o 27 (ld 3 26),
 o 28 (bo .xor (t 27) (n 90)),
 o 29 (ia 26 20 21),
 o 30 (fa 37 29 0),
 w (st 3 30 28)] [[], [0], [], [], [3], [], [4, 5], [6], [7], [8], [1, 2, 0, 1, 2, 3, 4, 5, 6, 7, 8, 9], [10, 0, 1, 2, 3, 4, 5, 6, 7, 8, 9], [11, 9, 0, 1, 2, 3, 4, 5, 6, 7, 8, 9]]
def c23_1 : IR := (S (S (R [o 6 (mv 2),
 o 7 (fa 29 1 3),
 o 8 (ld 26 7),
 o 9 (len 8 26),
 o 10 (bo .lss (t 6) (t 9))])
(.cond (t 10)
.skip
(.exit 0 [1])))
(S (.block 1 (S (R [o 13 (fa 29 1 3),
 o 14 (ld 26 13),
 o 15 (mv 2),
 o 16 (ia 26 14 15),
 o 17 (ld 37 16),
 o 18 (cl 53 #[(t 17)] #[37])])
d23_1))
(R [o 11 (mv 2),
 o 12 (bo .add (t 11) (n 1)),
 o 2 (av 12)])))
def c23 : IR := (S (R [o 1 (bx 29 0)])
(S (R [o 3 (fa 29 1 0),
 o 4 (ld 24 3),
 o 5 (cl 52 #[(t 4)] #[24])])
(S (S (R [o 2 (an 0)])
(.block 0 (.loop [1, 2] c23_1)))
(R [o 31 (fa 29 1 4),
 o 32 (ld 27 31),
 o 33 (cl 54 #[(t 32)] #[27])]))))
def g23 : IFn := ⟨34, [], [], c23, [true], false, none⟩
/- 24 veil/veillaw19.awake -/
def c24 : IR := (S (R [z 0 (ab false)])
(S (R [z 8 (cl 25 #[(n 0), (n 5)] #[3, 3]),
 z 1 (al 29),
 ⟨none, st 29 1 8, none, true⟩])
(S (R [z 10 (ld 29 1),
 z 11 (cl 20 #[(t 10), (n 0)] #[29, 3]),
 z 9 (mv 11),
 z 12 (xt 9 0),
 z 13 (xt 9 1),
 z 2 (al 29),
 ⟨none, st 29 2 12, none, true⟩,
 z 3 (av 13)])
(S (R [z 14 (fa 29 1 2),
 ⟨none, .store 3 (.tmp 14) (.const (.int .i64 0)), none, true⟩])
(S (R [z 16 (ld 29 1),
 z 17 (cl 20 #[(t 16), (n 0)] #[29, 3]),
 z 15 (mv 17),
 z 18 (xt 15 0),
 z 19 (xt 15 1),
 z 4 (al 29),
 ⟨none, st 29 4 18, none, true⟩,
 z 5 (av 19)])
(S (R [z 21 (cl 55 #[] #[]),
 z 22 (cl 20 #[(t 21), (n 0)] #[29, 3]),
 z 20 (mv 22),
 z 23 (xt 20 0),
 z 24 (xt 20 1),
 z 6 (al 29),
 ⟨none, st 29 6 23, none, true⟩,
 z 7 (av 24)])
(S (S (R [z 25 (fa 29 2 3),
 z 26 (ld 26 25),
 z 27 (len 26 26),
 z 28 (bo .neq (t 27) (n 2)),
 z 29 (mv 28),
 zF 30 (fa 29 4 3) 29,
 zF 31 (ld 26 30) 29,
 zF 32 (len 31 26) 29,
 zF 33 (bo .neq (t 32) (n 2)) 29,
 z 34 (.pick (.tmp 29) (.const (.bool true)) (.tmp 33)),
 z 35 (mv 34),
 zF 36 (fa 29 4 0) 35,
 oF 37 (.indexAddr 24 (.tmp 36) (.const (.int .i64 0))) 35,
 zF 38 (ld 23 37) 35,
 zF 39 (len 38 23) 35,
 zF 40 (bo .neq (t 39) (n 2)) 35,
 z 41 (.pick (.tmp 35) (.const (.bool true)) (.tmp 40))])
(.cond (t 41)
(S (R [z 0 (ab false)])
(.ret [0]))
.skip))
(S (R [z 42 (fa 29 2 1),
 o 43 (.indexAddr 25 (.tmp 42) (.const (.int .i64 0))),
 z 44 (ld 3 43),
 z 45 (bo .eql (t 44) (n 1)),
 z 46 (mv 45),
 zT 47 (fa 29 2 3) 46,
 zT 48 (ld 26 47) 46,
 oT 49 (.indexAddr 26 (.tmp 48) (.const (.int .i64 0))) 46,
 zT 50 (fa 37 49 10) 46,
 zT 51 (ld 3 50) 46,
 zT 52 (bo .eql (t 51) (n 1)) 46,
 z 53 (.pick (.tmp 46) (.tmp 52) (.const (.bool false))),
 z 54 (mv 53),
 zT 55 (fa 29 2 3) 54,
 zT 56 (ld 26 55) 54,
 oT 57 (.indexAddr 26 (.tmp 56) (.const (.int .i64 0))) 54,
 zT 58 (fa 37 57 4) 54,
 zT 59 (ld 3 58) 54,
 zT 60 (bo .eql (t 59) (n 3)) 54,
 z 61 (.pick (.tmp 54) (.tmp 60) (.const (.bool false))),
 z 62 (mv 61),
 zT 63 (mv 3) 62,
 zT 64 (cl 17 #[(t 63)] #[40]) 62,
 zT 65 (bo .eql (t 64) (n 0)) 62,
 z 66 (.pick (.tmp 62) (.tmp 65) (.const (.bool false))),
 z 67 (mv 66),
 zT 68 (fa 29 4 3) 67,
 zT 69 (ld 26 68) 67,
 oT 70 (.indexAddr 26 (.tmp 69) (.const (.int .i64 0))) 67,
 zT 71 (fa 37 70 12) 67,
 zT 72 (ld 3 71) 67,
 zT 73 (bo .eql (t 72) (n 5)) 67,
 z 74 (.pick (.tmp 67) (.tmp 73) (.const (.bool false))),
 z 75 (mv 74),
 zT 76 (fa 29 4 0) 75,
 oT 77 (.indexAddr 24 (.tmp 76) (.const (.int .i64 0))) 75,
 zT 78 (ld 23 77) 75,
 oT 79 (.indexAddr 23 (.tmp 78) (.const (.int .i64 0))) 75,
 zT 80 (fa 45 79 2) 75,
 zT 81 (ld 3 80) 75,
 zT 82 (bo .eql (t 81) (n 0)) 75,
 z 83 (.pick (.tmp 75) (.tmp 82) (.const (.bool false))),
 z 84 (mv 83),
 zT 85 (mv 5) 84,
 zT 86 (cl 17 #[(t 85)] #[40]) 84,
 zT 87 (bo .eql (t 86) (n 0)) 84,
 z 88 (.pick (.tmp 84) (.tmp 87) (.const (.bool false))),
 z 89 (mv 88),
 zT 90 (mv 7) 89,
 zT 91 (cl 17 #[(t 90)] #[40]) 89,
 zT 92 (bo .eql (t 91) (n 1900)) 89,
 z 93 (.pick (.tmp 89) (.tmp 92) (.const (.bool false))),
 z 0 (av 93)])
(.ret [0])))))))))
def g24 : IFn := ⟨94, [.tmp 0], [4], c24, [], false, none⟩
/- 25 veil/veillaw19.stepped -/
def c25_1 : IR := (S (S (R [o 8 (mv 6),
 o 9 (mv 1),
 o 10 (bo .lss (t 8) (t 9))])
(.cond (t 10)
.skip
(.exit 0 [4, 5])))
(S (.block 1 (R [o 14 (ld 29 5),
 o 15 (mv 0),
 o 16 (cl 15 #[(t 14), (t 15)] #[29, 3]),
 o 13 (mv 16),
 o 17 (xt 13 0),
 o 18 (xt 13 1),
 w (st 29 5 17)]))
(R [o 11 (mv 6),
 o 12 (bo .add (t 11) (n 1)),
 o 6 (av 12)])))
def c25 : IR := (S (R [o 4 (al 29)])
(S (R [o 7 (cl 55 #[] #[]),
 o 5 (al 29),
 w (st 29 5 7)])
(S (S (R [o 6 (an 0)])
(.block 0 (.loop [0, 1, 4, 5, 6] c25_1)))
(S (R [o 19 (ld 29 5),
 w (st 29 4 19)])
(.ret [4])))))
def g25 : IFn := ⟨20, [.cell 4 29], [29], c25, [], false, none⟩
/- 26 veil/veillaw0.SameArena -/
def d26_1 : IR := D [o 10 (mv 5),
 o 11 (ia 24 2 10),
 o 12 (ld 23 11),
 o 13 (mv 5),
 o 14 (ia 24 3 13),
 o 15 (ld 23 14),
 o 16 (cl 56 #[(t 12), (t 15)] #[23, 23]),
 o 17 (.unOp .not 4 (.tmp 16))] [[], [0], [1], [], [3], [4], [2, 5], [6]]
def c26_1 : IR := (S (S (R [o 6 (mv 5),
 o 7 (bo .lss (t 6) (n 4))])
(.cond (t 7)
.skip
(.exit 0 [])))
(S (.block 1 (S d26_1
(.cond (t 17)
(S (R [o 4 (ab false)])
(.ret [4]))
.skip)))
(R [o 8 (mv 5),
 o 9 (bo .add (t 8) (n 1)),
 o 5 (av 9)])))
def c26 : IR := (S (R [z 2 (bx 24 0),
 z 3 (bx 24 1),
 o 4 (ab false)])
(S (S (R [o 5 (an 0)])
(.block 0 (.loop [2, 3, 5] c26_1)))
(S (R [o 4 (ab true)])
(.ret [4]))))
def g26 : IFn := ⟨18, [.tmp 4], [4], c26, [], false, none⟩
/- 27 veil/veillaw0.SameEvents -/
def d27_1 : IR := D [o 17 (mv 0),
 o 18 (mv 5),
 o 19 (ia 27 17 18),
 o 20 (ld 92 19),
 o 21 (mv 1),
 o 22 (mv 5),
 o 23 (ia 27 21 22),
 o 24 (ld 92 23),
 o 25 (.binOp .neq 92 (.tmp 20) (.tmp 24) 92)] [[], [], [0, 1], [2], [], [], [4, 5], [6], [3, 7]]
def c27_1 : IR := (S (S (R [o 11 (mv 5),
 o 12 (mv 0),
 o 13 (len 12 27),
 o 14 (bo .lss (t 11) (t 13))])
(.cond (t 14)
.skip
(.exit 0 [])))
(S (.block 1 (S d27_1
(.cond (t 25)
(S (R [o 4 (ab false)])
(.ret [4]))
.skip)))
(R [o 15 (mv 5),
 o 16 (bo .add (t 15) (n 1)),
 o 5 (av 16)])))
def c27 : IR := (S (R [o 4 (ab false)])
(S (S (R [o 6 (mv 0),
 o 7 (len 6 27),
 o 8 (mv 1),
 o 9 (len 8 27),
 o 10 (bo .neq (t 7) (t 9))])
(.cond (t 10)
(S (R [o 4 (ab false)])
(.ret [4]))
.skip))
(S (S (R [o 5 (an 0)])
(.block 0 (.loop [0, 1, 5] c27_1)))
(S (R [o 4 (ab true)])
(.ret [4])))))
def g27 : IFn := ⟨26, [.tmp 4], [4], c27, [], false, none⟩
/- 28 veil/veilref11.May -/
def d28_1 : IR := D [o 32 (mv 3),
 o 33 (fa 29 1 1),
 o 34 (ia 25 33 32),
 o 35 (ld 3 34),
 o 36 (fa 29 1 2),
 o 37 (ld 3 36),
 o 38 (cl 59 #[(t 35), (n 0), (t 37)] #[3, 3, 3]),
 o 39 (.unOp .not 4 (.tmp 38))] [[], [], [1, 0], [2], [], [4], [3, 5], [6]]
def c28_1 : IR := (S (S (R [o 28 (mv 3),
 o 29 (bo .lss (t 28) (n 4))])
(.cond (t 29)
.skip
(.exit 0 [1])))
(S (.block 1 (S d28_1
(.cond (t 39)
(S (R [o 2 (ab false)])
(.ret [2]))
.skip)))
(R [o 30 (mv 3),
 o 31 (bo .add (t 30) (n 1)),
 o 3 (av 31)])))
def d28_2 : IR := D [o 47 (ld 29 1),
 o 48 (fa 29 1 3),
 o 49 (ld 26 48),
 o 50 (mv 4),
 o 51 (ia 26 49 50),
 o 52 (ld 37 51),
 o 53 (cl 60 #[(t 47), (t 52)] #[29, 37]),
 o 54 (.unOp .not 4 (.tmp 53)),
 o 55 (mv 54),
 oF 56 (mv 4) 55,
 oF 57 (bo .gtr (t 56) (n 0)) 55,
 oF 58 (mv 57) 55,
 oT 59 (fa 29 1 3) 58,
 oT 60 (ld 26 59) 58,
 oT 61 (mv 4) 58,
 oT 62 (ia 26 60 61) 58,
 oT 63 (fa 37 62 0) 58,
 oT 64 (ld 3 63) 58,
 oT 65 (fa 29 1 3) 58,
 oT 66 (ld 26 65) 58,
 oT 67 (mv 4) 58,
 oT 68 (bo .sub (t 67) (n 1)) 58,
 oT 69 (ia 26 66 68) 58,
 oT 70 (fa 37 69 0) 58,
 oT 71 (ld 3 70) 58,
 oT 72 (bo .leq (t 64) (t 71)) 58,
 oF 73 (.pick (.tmp 58) (.tmp 72) (.const (.bool false))) 55,
 o 74 (.pick (.tmp 55) (.const (.bool true)) (.tmp 73))] [[], [], [1], [], [2, 3], [4], [0, 5], [6], [7, 6], [8], [9, 8], [10, 8, 8], [11], [12, 11], [11], [13, 14, 11], [15, 11], [16, 11], [11], [18, 11], [11], [20, 11], [19, 21, 11], [22, 11], [23, 11], [17, 24, 11], [11, 25, 8], [8, 26]]
def c28_2 : IR := (S (S (R [o 40 (mv 4),
 o 41 (fa 29 1 3),
 o 42 (ld 26 41),
 o 43 (len 42 26),
 o 44 (bo .lss (t 40) (t 43))])
(.cond (t 44)
.skip
(.exit 2 [1])))
(S (.block 3 (S d28_2
(.cond (t 74)
(S (R [o 2 (ab false)])
(.ret [2]))
.skip)))
(R [o 45 (mv 4),
 o 46 (bo .add (t 45) (n 1)),
 o 4 (av 46)])))
def c28_3 : IR := (S (S (R [o 75 (mv 5),
 o 76 (fa 29 1 4),
 o 77 (ld 27 76),
 o 78 (len 77 27),
 o 79 (bo .lss (t 75) (t 78))])
(.cond (t 79)
.skip
(.exit 4 [])))
(S (.block 5 (S (R [o 82 (fa 29 1 4),
 o 83 (ld 27 82),
 o 84 (mv 5),
 o 85 (ia 27 83 84),
 o 86 (fa 92 85 1),
 o 87 (ld 3 86),
 o 88 (cl 61 #[(t 87)] #[3]),
 o 89 (.unOp .not 4 (.tmp 88))])
(.cond (t 89)
(S (R [o 2 (ab false)])
(.ret [2]))
.skip)))
(R [o 80 (mv 5),
 o 81 (bo .add (t 80) (n 1)),
 o 5 (av 81)])))
def c28 : IR := (S (R [z 1 (bx 29 0),
 o 2 (ab false)])
(S (S (R [o 6 (fa 29 1 0),
 o 7 (ld 24 6),
 o 8 (cl 57 #[(t 7)] #[24]),
 o 9 (.unOp .not 4 (.tmp 8)),
 o 10 (mv 9),
 oF 11 (fa 29 1 2) 10,
 oF 12 (ld 3 11) 10,
 oF 13 (cl 58 #[(t 12)] #[3]) 10,
 oF 14 (.unOp .not 4 (.tmp 13)) 10,
 o 15 (.pick (.tmp 10) (.const (.bool true)) (.tmp 14)),
 o 16 (mv 15),
 oF 17 (fa 29 1 3) 16,
 oF 18 (ld 26 17) 16,
 oF 19 (len 18 26) 16,
 oF 20 (bo .gtr (t 19) (n 4)) 16,
 o 21 (.pick (.tmp 16) (.const (.bool true)) (.tmp 20)),
 o 22 (mv 21),
 oF 23 (fa 29 1 4) 22,
 oF 24 (ld 27 23) 22,
 oF 25 (len 24 27) 22,
 oF 26 (bo .gtr (t 25) (n 512)) 22,
 o 27 (.pick (.tmp 22) (.const (.bool true)) (.tmp 26))])
(.cond (t 27)
(S (R [o 2 (ab false)])
(.ret [2]))
.skip))
(S (S (R [o 3 (an 0)])
(.block 0 (.loop [1, 3] c28_1)))
(S (S (R [o 4 (an 0)])
(.block 2 (.loop [1, 4] c28_2)))
(S (S (R [o 5 (an 0)])
(.block 4 (.loop [1, 5] c28_3)))
(S (R [o 2 (ab true)])
(.ret [2])))))))
def g28 : IFn := ⟨90, [.tmp 2], [4], c28, [], false, none⟩
/- 29 veil/grab.Step -/
def d29_1 : IR := D [o 11 (mv 1),
 o 12 (cl 42 #[(t 2), (t 11), (n 1)] #[73, 3, 3]),
 o 13 (.unOp .not 4 (.tmp 12)),
 o 14 (mv 13),
 oF 15 (fa 29 2 3) 14,
 oF 16 (ld 26 15) 14,
 oF 17 (mv 1) 14,
 oF 18 (ia 26 16 17) 14,
 oF 19 (fa 37 18 9) 14,
 oF 20 (ld 3 19) 14,
 oF 21 (fa 29 2 3) 14,
 oF 22 (ld 26 21) 14,
 oF 23 (mv 1) 14,
 oF 24 (ia 26 22 23) 14,
 oF 25 (fa 37 24 8) 14,
 oF 26 (ld 35 25) 14,
 oF 27 (len 26 35) 14,
 oF 28 (bo .eql (t 20) (t 27)) 14,
 o 29 (.pick (.tmp 14) (.const (.bool true)) (.tmp 28))] [[], [0], [1], [2, 1], [3], [4, 3], [3], [5, 6, 3], [7, 3], [8, 3], [3], [10, 3], [3], [11, 12, 3], [13, 3], [14, 3], [15, 3], [9, 16, 3], [3, 17]]
def d29_2 : IR := D [o 37 (mv 7),
 o 38 (nc 37),
 o 39 (fa 37 38 8),
 o 40 (ld 35 39),
 o 41 (mv 7),
 o 42 (nc 41),
 o 43 (fa 37 42 9),
 o 44 (ld 3 43),
 o 45 (ia 35 40 44),
 o 46 (ld 60 45),
 o 8 (al 60),
 w (st 60 8 46)] [[], [0], [1], [2], [], [4], [5], [6], [3, 7], [8], [], [10, 9, 0, 1, 2, 3, 4, 5, 6, 7, 8, 9, 10]]
def d29_3 : IR := D [o 48 (fa 60 8 0),
 o 49 (ld 3 48),
 o 50 (fa 29 6 0),
 o 51 (ia 24 50 49),
 o 52 (ld 23 51),
 o 53 (fa 60 8 1),
 o 54 (ld 3 53),
 o 55 (ia 23 52 54),
 o 56 (ld 45 55),
 o 57 (mv 7),
 o 58 (nc 57),
 o 59 (fa 37 58 0),
 o 60 (ld 3 59),
 o 61 (cl 62 #[(t 56), (t 60)] #[45, 3]),
 o 47 (mv 61),
 o 62 (xt 47 0),
 o 63 (xt 47 1),
 o 9 (al 45),
 w (st 45 9 62),
 o 10 (av 63)] [[], [0], [], [2, 1], [3], [], [5], [4, 6], [7], [], [9], [10], [11], [8, 12], [13], [14], [14], [], [17, 15, 13, 0, 1, 2, 3, 4, 5, 6, 7, 8, 9, 10, 11, 12, 13, 14, 15, 17], [16, 18, 0, 1, 2, 3, 4, 5, 6, 7, 8, 9, 10, 11, 12, 13, 14, 15, 16, 17, 18]]
def d29_4 : IR := D [o 71 (fa 60 8 0),
 o 72 (ld 3 71),
 o 73 (fa 29 6 0),
 o 74 (ia 24 73 72),
 o 75 (ld 23 74),
 o 76 (fa 60 8 1),
 o 77 (ld 3 76),
 o 78 (ld 45 9),
 o 79 (ia 23 75 77),
 w (st 45 79 78)] [[], [0], [], [2, 1], [3], [], [5], [], [4, 6, 0, 1, 2, 3, 4, 5, 6, 7], [8, 7, 0, 1, 2, 3, 4, 5, 6, 7]]
def d29_5 : IR := D [o 87 (mv 7),
 o 88 (nc 87),
 o 89 (fa 37 88 9),
 o 90 (ld 3 89),
 o 91 (mv 7),
 o 92 (nc 91),
 o 93 (fa 37 92 8),
 o 94 (ld 35 93),
 o 95 (len 94 35),
 o 96 (bo .eql (t 90) (t 95))] [[], [0], [1], [2], [], [4], [5], [6], [7], [3, 8]]
def c29 : IR := (S (R [z 2 (bx 29 0),
 o 4 (al 29),
 o 5 (an 0)])
(S (S d29_1
(.cond (t 29)
(S (R [o 30 (.build 29 #[]),
 w (st 29 4 30),
 o 5 (an 1800)])
(.ret [4, 5]))
.skip))
(S (R [o 31 (ld 29 2),
 o 32 (cl 43 #[(t 31)] #[29]),
 o 6 (al 29),
 w (st 29 6 32)])
(S (R [o 33 (fa 29 6 3),
 o 34 (ld 26 33),
 o 35 (mv 1),
 z 36 (ia 26 34 35),
 o 7 (av 36)])
(S d29_2
(S d29_3
(S (S (R [o 64 (mv 10),
 o 65 (.binOp .neq 40 (.tmp 64) (.const (.int .i64 0)) 40)])
(.cond (t 65)
(S (R [o 66 (ld 29 2),
 o 67 (mv 1),
 o 68 (cl 63 #[(t 66), (t 67), (n 3)] #[29, 3, 3]),
 o 69 (xt 68 0),
 o 70 (xt 68 1),
 w (st 29 4 69),
 o 5 (av 70)])
(.ret [4, 5]))
.skip))
(S d29_4
(S (S (R [o 80 (mv 7),
 o 81 (nc 80),
 o 82 (fa 37 81 9),
 o 83 (ld 3 82),
 o 84 (bo .add (t 83) (n 1)),
 o 85 (nc 80),
 o 86 (fa 37 85 9),
 w (st 3 86 84)])
(S d29_5
(.cond (t 96)
(R [o 97 (mv 7),
 o 98 (nc 97),
 o 99 (fa 37 98 4),
 w (.store 3 (.tmp 99) (.const (.int .i64 2)))])
.skip)))
(S (R [o 100 (ld 29 6),
 w (st 29 4 100),
 o 5 (an 0)])
(.ret [4, 5])))))))))))
def g29 : IFn := ⟨101, [.cell 4 29, .tmp 5], [29, 40], c29, [], false, none⟩
/- 30 veil/veilref11.Grab -/
def d30_1 : IR := D [o 28 (fa 60 7 0),
 o 29 (ld 3 28),
 o 30 (fa 29 2 0),
 o 31 (ia 24 30 29),
 o 32 (ld 23 31),
 o 33 (fa 60 7 1),
 o 34 (ld 3 33),
 o 35 (ia 23 32 34),
 o 36 (ld 45 35),
 o 37 (fa 37 6 0),
 o 38 (ld 3 37),
 o 39 (cl 65 #[(t 36), (t 38)] #[45, 3]),
 o 27 (mv 39),
 o 40 (xt 27 0),
 o 41 (xt 27 1),
 o 8 (al 45),
 w (st 45 8 40),
 o 9 (av 41)] [[], [0], [], [2, 1], [3], [], [5], [4, 6], [7], [], [9], [8, 10], [11], [12], [12], [], [15, 13, 11, 0, 1, 2, 3, 4, 5, 6, 7, 8, 9, 10, 11, 12, 13, 15], [14, 16, 0, 1, 2, 3, 4, 5, 6, 7, 8, 9, 10, 11, 12, 13, 14, 15, 16]]
def d30_2 : IR := D [o 51 (fa 60 7 0),
 o 52 (ld 3 51),
 o 53 (fa 29 10 0),
 o 54 (ia 24 53 52),
 o 55 (ld 23 54),
 o 56 (fa 60 7 1),
 o 57 (ld 3 56),
 o 58 (ld 45 8),
 o 59 (ia 23 55 57),
 w (st 45 59 58)] [[], [0], [], [2, 1], [3], [], [5], [], [4, 6, 0, 1, 2, 3, 4, 5, 6, 7], [8, 7, 0, 1, 2, 3, 4, 5, 6, 7]]
def c30 : IR := (S (R [z 2 (bx 29 0),
 o 4 (al 29),
 o 5 (an 0)])
(S (S (R [o 11 (ld 29 2),
 o 12 (mv 1),
 o 13 (cl 64 #[(t 11), (t 12), (n 1)] #[29, 3, 3]),
 o 14 (.unOp .not 4 (.tmp 13))])
(.cond (t 14)
(S (R [o 15 (.build 29 #[]),
 w (st 29 4 15),
 o 5 (an 1800)])
(.ret [4, 5]))
.skip))
(S (R [o 16 (fa 29 2 3),
 o 17 (ld 26 16),
 o 18 (mv 1),
 o 19 (ia 26 17 18),
 o 20 (ld 37 19),
 o 6 (al 37),
 w (st 37 6 20)])
(S (R [o 21 (fa 37 6 8),
 o 22 (ld 35 21),
 o 23 (fa 37 6 9),
 o 24 (ld 3 23),
 o 25 (ia 35 22 24),
 o 26 (ld 60 25),
 o 7 (al 60),
 w (st 60 7 26)])
(S d30_1
(S (S (R [o 42 (mv 9),
 o 43 (bo .neq (t 42) (n 0))])
(.cond (t 43)
(S (R [o 44 (ld 29 2),
 o 45 (mv 1),
 o 46 (cl 66 #[(t 44), (t 45), (n 3)] #[29, 3, 3]),
 o 47 (xt 46 0),
 o 48 (xt 46 1),
 w (st 29 4 47),
 o 5 (av 48)])
(.ret [4, 5]))
.skip))
(S (R [o 49 (ld 29 2),
 o 50 (cl 37 #[(t 49)] #[29]),
 o 10 (al 29),
 w (st 29 10 50)])
(S d30_2
(S (R [o 60 (fa 29 10 3),
 o 61 (ld 26 60),
 o 62 (mv 1),
 o 63 (ia 26 61 62),
 o 64 (fa 37 63 9),
 o 65 (ld 3 64),
 o 66 (bo .add (t 65) (n 1)),
 o 67 (ia 26 61 62),
 o 68 (fa 37 67 9),
 w (st 3 68 66)])
(S (S (R [o 69 (fa 37 6 9),
 o 70 (ld 3 69),
 o 71 (bo .add (t 70) (n 1)),
 o 72 (fa 37 6 8),
 o 73 (ld 35 72),
 o 74 (len 73 35),
 o 75 (bo .eql (t 71) (t 74))])
(.cond (t 75)
(R [o 76 (fa 29 10 3),
 o 77 (ld 26 76),
 o 78 (mv 1),
 o 79 (ia 26 77 78),
 o 80 (fa 37 79 4),
 w (.store 3 (.tmp 80) (.const (.int .i64 2)))])
.skip))
(S (R [o 81 (ld 29 10),
 w (st 29 4 81),
 o 5 (an 0)])
(.ret [4, 5]))))))))))))
def g30 : IFn := ⟨82, [.cell 4 29, .tmp 5], [29, 3], c30, [], false, none⟩
/- 31 veil/veillaw18.awake -/
def c31 : IR := (S (R [z 0 (ab false)])
(S (R [o 8 (cl 32 #[(n 0), (n 4)] #[3, 3]),
 z 1 (al 29),
 ⟨none, st 29 1 8, none, true⟩])
(S (R [z 10 (ld 29 1),
 z 11 (cl 29 #[(t 10), (n 0)] #[29, 3]),
 z 9 (mv 11),
 z 12 (xt 9 0),
 z 13 (xt 9 1),
 z 2 (al 29),
 ⟨none, st 29 2 12, none, true⟩,
 z 3 (av 13)])
(S (R [z 14 (fa 29 1 0),
 o 15 (.indexAddr 24 (.tmp 14) (.const (.int .i64 0))),
 z 16 (ld 23 15),
 o 17 (.indexAddr 23 (.tmp 16) (.const (.int .i64 0))),
 z 18 (fa 45 17 2),
 ⟨none, .store 3 (.tmp 18) (.const (.int .i64 6)), none, true⟩])
(S (R [z 20 (ld 29 1),
 z 21 (cl 29 #[(t 20), (n 0)] #[29, 3]),
 z 19 (mv 21),
 z 22 (xt 19 0),
 z 23 (xt 19 1),
 z 4 (al 29),
 ⟨none, st 29 4 22, none, true⟩,
 z 5 (av 23)])
(S (R [z 25 (cl 33 #[] #[]),
 z 26 (cl 29 #[(t 25), (n 0)] #[29, 3]),
 z 24 (mv 26),
 z 27 (xt 24 0),
 z 28 (xt 24 1),
 z 6 (al 29),
 ⟨none, st 29 6 27, none, true⟩,
 z 7 (av 28)])
(S (S (R [z 29 (fa 29 2 3),
 z 30 (ld 26 29),
 z 31 (len 30 26),
 z 32 (bo .neq (t 31) (n 2)),
 z 33 (mv 32),
 zF 34 (fa 29 2 0) 33,
 oF 35 (.indexAddr 24 (.tmp 34) (.const (.int .i64 0))) 33,
 zF 36 (ld 23 35) 33,
 zF 37 (len 36 23) 33,
 zF 38 (bo .neq (t 37) (n 2)) 33,
 z 39 (.pick (.tmp 33) (.const (.bool true)) (.tmp 38)),
 z 40 (mv 39),
 zF 41 (fa 29 4 3) 40,
 zF 42 (ld 26 41) 40,
 zF 43 (len 42 26) 40,
 zF 44 (bo .neq (t 43) (n 2)) 40,
 z 45 (.pick (.tmp 40) (.const (.bool true)) (.tmp 44))])
(.cond (t 45)
(S (R [z 0 (ab false)])
(.ret [0]))
.skip))
(S (R [z 46 (fa 29 2 0),
 o 47 (.indexAddr 24 (.tmp 46) (.const (.int .i64 0))),
 z 48 (ld 23 47),
 o 49 (.indexAddr 23 (.tmp 48) (.const (.int .i64 0))),
 z 50 (fa 45 49 2),
 z 51 (ld 3 50),
 z 52 (bo .eql (t 51) (n 4)),
 z 53 (mv 52),
 zT 54 (fa 29 2 3) 53,
 zT 55 (ld 26 54) 53,
 oT 56 (.indexAddr 26 (.tmp 55) (.const (.int .i64 0))) 53,
 zT 57 (fa 37 56 4) 53,
 zT 58 (ld 3 57) 53,
 zT 59 (bo .eql (t 58) (n 2)) 53,
 z 60 (.pick (.tmp 53) (.tmp 59) (.const (.bool false))),
 z 61 (mv 60),
 zT 62 (mv 3) 61,
 zT 63 (cl 17 #[(t 62)] #[40]) 61,
 zT 64 (bo .eql (t 63) (n 0)) 61,
 z 65 (.pick (.tmp 61) (.tmp 64) (.const (.bool false))),
 z 66 (mv 65),
 zT 67 (fa 29 4 3) 66,
 zT 68 (ld 26 67) 66,
 oT 69 (.indexAddr 26 (.tmp 68) (.const (.int .i64 0))) 66,
 zT 70 (fa 37 69 11) 66,
 zT 71 (ld 3 70) 66,
 zT 72 (bo .eql (t 71) (n 1)) 66,
 z 73 (.pick (.tmp 66) (.tmp 72) (.const (.bool false))),
 z 74 (mv 73),
 zT 75 (mv 5) 74,
 zT 76 (cl 17 #[(t 75)] #[40]) 74,
 zT 77 (bo .eql (t 76) (n 0)) 74,
 z 78 (.pick (.tmp 74) (.tmp 77) (.const (.bool false))),
 z 79 (mv 78),
 zT 80 (mv 7) 79,
 zT 81 (cl 17 #[(t 80)] #[40]) 79,
 zT 82 (bo .eql (t 81) (n 1800)) 79,
 z 83 (.pick (.tmp 79) (.tmp 82) (.const (.bool false))),
 z 0 (av 83)])
(.ret [0])))))))))
def g31 : IFn := ⟨84, [.tmp 0], [4], c31, [], false, none⟩
/- 32 veil/veillaw18.stepped -/
def c32_1 : IR := (S (S (R [o 8 (mv 6),
 o 9 (mv 1),
 o 10 (bo .lss (t 8) (t 9))])
(.cond (t 10)
.skip
(.exit 0 [4, 5])))
(S (.block 1 (R [o 14 (ld 29 5),
 o 15 (mv 0),
 o 16 (cl 15 #[(t 14), (t 15)] #[29, 3]),
 o 13 (mv 16),
 o 17 (xt 13 0),
 o 18 (xt 13 1),
 w (st 29 5 17)]))
(R [o 11 (mv 6),
 o 12 (bo .add (t 11) (n 1)),
 o 6 (av 12)])))
def c32 : IR := (S (R [o 4 (al 29)])
(S (R [o 7 (cl 33 #[] #[]),
 o 5 (al 29),
 w (st 29 5 7)])
(S (S (R [o 6 (an 0)])
(.block 0 (.loop [0, 1, 4, 5, 6] c32_1)))
(S (R [o 19 (ld 29 5),
 w (st 29 4 19)])
(.ret [4])))))
def g32 : IFn := ⟨20, [.cell 4 29], [29], c32, [], false, none⟩
/- 33 veil/veillaw18.begun -/
def c33 : IR := (S (R [o 0 (al 29)])
(S (R [o 4 (.buildSlice 53 2 #[(0, (.const (.int .i64 5))), (1, (.const (.int .i64 6)))]),
 o 5 (.buildSlice 53 1 #[(0, (.const (.int .i64 7)))]),
 o 6 (.buildSlice 53 1 #[(0, (.const (.int .i64 9)))]),
 o 7 (.build 64 #[(0, (.tmp 4)), (1, (.tmp 5)), (2, (.const (.slice none 0 0))), (3, (.tmp 6))]),
 o 8 (.build 32 #[(0, (.const (.int .i64 2)))]),
 o 9 (.build 32 #[(0, (.const (.int .i64 1)))]),
 o 10 (.build 32 #[(0, (.const (.int .i64 3)))]),
 o 11 (.buildSlice 33 3 #[(0, (.tmp 8)), (1, (.tmp 9)), (2, (.tmp 10))]),
 o 12 (.build 66 #[(0, (.const (.int .i64 3))), (2, (.const (.int .i64 3))), (3, (.tmp 11))]),
 o 13 (.build 32 #[(0, (.const (.int .i64 2))), (3, (.const (.int .i64 1)))]),
 o 14 (.build 32 #[(0, (.const (.int .i64 3))), (2, (.const (.int .i64 1)))]),
 o 15 (.buildSlice 33 2 #[(0, (.tmp 13)), (1, (.tmp 14))]),
 o 16 (.build 66 #[(0, (.const (.int .i64 5))), (1, (.const (.int .i64 1))), (2, (.const (.int .i64 1))), (3, (.tmp 15))]),
 o 17 (.buildSlice 67 2 #[(0, (.tmp 12)), (1, (.tmp 16))]),
 o 18 (.build 70 #[(0, (.tmp 7)), (1, (.const (.int .i64 9))), (2, (.tmp 17))]),
 o 19 (cl 35 #[(t 18)] #[70]),
 o 3 (mv 19),
 o 20 (xt 3 0),
 o 21 (xt 3 1),
 o 1 (al 29),
 w (st 29 1 20),
 o 2 (av 21)])
(S (R [o 22 (ld 29 1),
 w (st 29 0 22)])
(.ret [0]))))
def g33 : IFn := ⟨23, [.cell 0 29], [29], c33, [], false, none⟩
/- 34 veil/veilref1.Good -/
def d34_1 : IR := D [o 35 (mv 1),
 o 36 (mv 8),
 o 37 (ia 34 35 36),
 o 38 (fa 105 37 0),
 o 39 (ld 3 38),
 o 40 (ia 24 3 39),
 o 41 (ld 23 40),
 o 42 (mv 1),
 o 43 (mv 8),
 o 44 (ia 34 42 43),
 o 45 (fa 105 44 1),
 o 46 (ld 3 45),
 o 47 (ia 23 41 46),
 o 48 (ld 45 47),
 o 9 (al 45),
 w (st 45 9 48)] [[], [], [0, 1], [2], [3], [4], [5], [], [], [7, 8], [9], [10], [6, 11], [12], [], [14, 13, 0, 1, 2, 3, 4, 5, 6, 7, 8, 9, 10, 11, 12, 13, 14]]
def d34_2 : IR := D [o 49 (fa 45 9 1),
 o 50 (ld 3 49),
 o 51 (mv 1),
 o 52 (mv 8),
 o 53 (ia 34 51 52),
 o 54 (fa 105 53 2),
 o 55 (ld 3 54),
 o 56 (bo .neq (t 50) (t 55)),
 o 57 (mv 56),
 oF 58 (fa 45 9 2) 57,
 oF 59 (ld 3 58) 57,
 oF 60 (bo .neq (t 59) (n 0)) 57,
 oF 61 (mv 60) 57,
 oT 62 (fa 45 9 2) 61,
 oT 63 (ld 3 62) 61,
 oT 64 (mv 2) 61,
 oT 65 (bo .add (t 64) (n 1)) 61,
 oT 66 (bo .neq (t 63) (t 65)) 61,
 oF 67 (.pick (.tmp 61) (.tmp 66) (.const (.bool false))) 57,
 o 68 (.pick (.tmp 57) (.const (.bool true)) (.tmp 67))] [[], [0], [], [], [2, 3], [4], [5], [1, 6], [7], [8], [9, 8], [10, 8], [11, 8, 8], [12], [13, 12], [12], [15, 12], [14, 16, 12], [12, 17, 8], [8, 18]]
def c34_1 : IR := (S (S (R [o 29 (mv 8),
 o 30 (mv 1),
 o 31 (len 30 34),
 o 32 (bo .lss (t 29) (t 31))])
(.cond (t 32)
.skip
(.exit 0 [])))
(S (.block 1 (S d34_1
(S d34_2
(.cond (t 68)
(S (R [o 6 (ab false),
 o 7 (an 0)])
(.ret [6, 7]))
.skip))))
(R [o 33 (mv 8),
 o 34 (bo .add (t 33) (n 1)),
 o 8 (av 34)])))
def c34 : IR := (S (R [z 3 (bx 24 0),
 o 6 (ab false),
 o 7 (an 0)])
(S (S (R [o 10 (ld 24 3),
 o 11 (cl 57 #[(t 10)] #[24]),
 o 12 (.unOp .not 4 (.tmp 11)),
 o 13 (mv 12),
 oF 14 (mv 1) 13,
 oF 15 (cl 67 #[(t 14)] #[34]) 13,
 oF 16 (.unOp .not 4 (.tmp 15)) 13,
 o 17 (.pick (.tmp 13) (.const (.bool true)) (.tmp 16)),
 o 18 (mv 17),
 oF 19 (mv 2) 18,
 oF 20 (cl 68 #[(t 19)] #[3]) 18,
 oF 21 (.unOp .not 4 (.tmp 20)) 18,
 o 22 (.pick (.tmp 18) (.const (.bool true)) (.tmp 21)),
 o 23 (mv 22),
 oF 24 (ld 24 3) 23,
 oF 25 (mv 1) 23,
 oF 26 (cl 69 #[(t 24), (t 25)] #[24, 34]) 23,
 oF 27 (.unOp .not 4 (.tmp 26)) 23,
 o 28 (.pick (.tmp 23) (.const (.bool true)) (.tmp 27))])
(.cond (t 28)
(S (R [o 6 (ab false),
 o 7 (an 900)])
(.ret [6, 7]))
.skip))
(S (S (R [o 8 (an 0)])
(.block 0 (.loop [1, 2, 3, 8] c34_1)))
(S (R [o 6 (ab true),
 o 7 (an 0)])
(.ret [6, 7])))))
def g34 : IFn := ⟨69, [.tmp 6, .tmp 7], [4, 3], c34, [], false, none⟩
/- 35 veil/veilref11.New -/
def c35_1 : IR := (S (S (R [o 20 (mv 7),
 o 21 (fa 70 1 2),
 o 22 (ld 67 21),
 o 23 (len 22 67),
 o 24 (bo .lss (t 20) (t 23))])
(.cond (t 24)
.skip
(.exit 0 [2, 5, 6])))
(S (.block 1 (S (R [o 28 (fa 70 1 2),
 o 29 (ld 67 28),
 o 30 (mv 7),
 o 31 (ia 67 29 30),
 o 32 (ld 66 31),
 o 33 (cl 71 #[(t 32)] #[66]),
 o 27 (mv 33),
 o 34 (xt 27 0),
 o 35 (xt 27 1),
 o 8 (al 37),
 w (st 37 8 34),
 o 9 (av 35)])
(S (S (R [o 36 (mv 9),
 o 37 (bo .neq (t 36) (n 0))])
(.cond (t 37)
(S (R [o 38 (.build 29 #[]),
 w (st 29 2 38),
 o 3 (an 1200)])
(.ret [2, 3]))
.skip))
(R [o 39 (fa 29 6 3),
 o 40 (ld 26 39),
 o 41 (ld 37 8),
 o 42 (.buildSlice 26 1 #[(0, (.tmp 41))]),
 o 43 (.call { callee := (.builtin .append), args := #[(.tmp 40), (.tmp 42)], argTypes := #[26, 26] }),
 o 44 (fa 29 6 3),
 w (st 26 44 43)]))))
(R [o 25 (mv 7),
 o 26 (bo .add (t 25) (n 1)),
 o 7 (av 26)])))
def c35 : IR := (S (R [z 1 (bx 70 0),
 o 2 (al 29),
 o 3 (an 0)])
(S (R [o 11 (fa 70 1 0),
 o 12 (ld 64 11),
 o 13 (cl 70 #[(t 12)] #[64]),
 o 10 (mv 13),
 o 14 (xt 10 0),
 o 15 (xt 10 1),
 o 4 (al 24),
 w (st 24 4 14),
 o 5 (av 15)])
(S (R [o 16 (ld 24 4),
 o 17 (fa 70 1 1),
 o 18 (ld 3 17),
 o 19 (.build 29 #[(0, (.tmp 16)), (2, (.tmp 18))]),
 o 6 (al 29),
 w (st 29 6 19)])
(S (S (R [o 7 (an 0)])
(.block 0 (.loop [1, 2, 5, 6, 7] c35_1)))
(S (S (R [o 45 (mv 5),
 o 46 (bo .neq (t 45) (n 0)),
 o 47 (mv 46),
 oF 48 (ld 29 6) 47,
 oF 49 (cl 28 #[(t 48)] #[29]) 47,
 oF 50 (.unOp .not 4 (.tmp 49)) 47,
 o 51 (.pick (.tmp 47) (.const (.bool true)) (.tmp 50))])
(.cond (t 51)
(S (R [o 52 (.build 29 #[]),
 w (st 29 2 52),
 o 3 (an 1200)])
(.ret [2, 3]))
.skip))
(S (R [o 53 (ld 29 6),
 w (st 29 2 53),
 o 3 (an 0)])
(.ret [2, 3])))))))
def g35 : IFn := ⟨54, [.cell 2 29, .tmp 3], [29, 3], c35, [], false, none⟩
/- 36 veil/veilref11.Here -/
def c36 : IR := (S (R [z 2 (bx 29 0),
 o 4 (ab false)])
(S (R [o 5 (ld 29 2),
 o 6 (cl 28 #[(t 5)] #[29]),
 o 7 (mv 6),
 oT 8 (mv 1) 7,
 oT 9 (bo .geq (t 8) (n 0)) 7,
 o 10 (.pick (.tmp 7) (.tmp 9) (.const (.bool false))),
 o 11 (mv 10),
 oT 12 (mv 1) 11,
 oT 13 (fa 29 2 3) 11,
 oT 14 (ld 26 13) 11,
 oT 15 (len 14 26) 11,
 oT 16 (bo .lss (t 12) (t 15)) 11,
 o 17 (.pick (.tmp 11) (.tmp 16) (.const (.bool false))),
 o 4 (av 17)])
(.ret [4])))
def g36 : IFn := ⟨18, [.tmp 4], [4], c36, [], false, none⟩
/- 37 veil/veilref11.Copy -/
def d37_1 : IR := D [o 18 (fa 29 3 3),
 o 19 (ld 26 18),
 o 20 (fa 29 1 3),
 o 21 (ld 26 20),
 o 22 (mv 4),
 o 23 (ia 26 21 22),
 o 24 (ld 37 23),
 o 25 (cl 73 #[(t 24)] #[37]),
 o 26 (.buildSlice 26 1 #[(0, (.tmp 25))]),
 o 27 (.call { callee := (.builtin .append), args := #[(.tmp 19), (.tmp 26)], argTypes := #[26, 26] }),
 o 28 (fa 29 3 3),
 w (st 26 28 27)] [[], [0], [], [2], [], [3, 4], [5], [6], [7], [1, 8, 7], [0, 1, 2, 3, 4, 5, 6, 7, 8, 9], [10, 9, 9, 0, 1, 2, 3, 4, 5, 6, 7, 8, 9]]
def c37_1 : IR := (S (S (R [o 11 (mv 4),
 o 12 (fa 29 1 3),
 o 13 (ld 26 12),
 o 14 (len 13 26),
 o 15 (bo .lss (t 11) (t 14))])
(.cond (t 15)
.skip
(.exit 0 [1, 2, 3])))
(S (.block 1 d37_1)
(R [o 16 (mv 4),
 o 17 (bo .add (t 16) (n 1)),
 o 4 (av 17)])))
def c37 : IR := (S (R [z 1 (bx 29 0),
 o 2 (al 29)])
(S (R [o 5 (ld 29 1),
 o 3 (al 29),
 w (st 29 3 5)])
(S (R [o 6 (fa 29 1 0),
 o 7 (ld 24 6),
 o 8 (cl 72 #[(t 7)] #[24]),
 o 9 (fa 29 3 0),
 w (st 24 9 8)])
(S (R [o 10 (fa 29 3 3),
 w (.store 26 (.tmp 10) (.const (.slice none 0 0)))])
(S (S (R [o 4 (an 0)])
(.block 0 (.loop [1, 2, 3, 4] c37_1)))
(S (R [o 29 (.buildSlice 27 0 #[]),
 o 30 (fa 29 1 4),
 o 31 (ld 27 30),
 o 32 (.call { callee := (.builtin .append), args := #[(.tmp 29), (.tmp 31)], argTypes := #[27, 27] }),
 o 33 (fa 29 3 4),
 w (st 27 33 32)])
(S (R [o 34 (ld 29 3),
 w (st 29 2 34)])
(.ret [2]))))))))
def g37 : IFn := ⟨35, [.cell 2 29], [29], c37, [], false, none⟩
/- 38 veil/veilref11.run -/
def d38_1 : IR := D [o 62 (ld 29 2),
 o 63 (mv 1),
 o 64 (fa 37 6 3),
 o 65 (ld 33 64),
 o 66 (fa 37 6 5),
 o 67 (ld 3 66),
 o 68 (ia 33 65 67),
 o 69 (fa 32 68 1),
 o 70 (ld 3 69),
 o 71 (cl 50 #[(t 62), (t 63), (n 2), (t 70)] #[29, 3, 3, 3]),
 o 72 (xt 71 0),
 o 73 (xt 71 1),
 w (st 29 4 72),
 o 5 (av 73)] [[], [], [], [2], [], [4], [3, 5], [6], [7], [0, 1, 8], [9], [9], [10, 9, 0, 1, 2, 3, 4, 5, 6, 7, 8, 9, 10, 11], [11, 12, 0, 1, 2, 3, 4, 5, 6, 7, 8, 9, 10, 11, 12]]
def c38 : IR := (S (R [z 2 (bx 29 0),
 o 4 (al 29),
 o 5 (an 0)])
(S (R [o 10 (fa 29 2 3),
 o 11 (ld 26 10),
 o 12 (mv 1),
 o 13 (ia 26 11 12),
 o 14 (ld 37 13),
 o 6 (al 37),
 w (st 37 6 14)])
(S (S (R [o 15 (ld 29 2),
 o 16 (mv 1),
 o 17 (cl 74 #[(t 15), (t 16)] #[29, 3])])
(.block 0 (S (R [o 19 (bo .eql (t 17) (n 2)),
 o 18 (av 19)])
(.cond (t 18)
(S (R [o 21 (ld 29 2),
 o 22 (mv 1),
 o 23 (cl 75 #[(t 21), (t 22)] #[29, 3]),
 o 20 (mv 23),
 o 24 (xt 20 0),
 o 25 (xt 20 1),
 o 7 (av 24),
 o 8 (av 25)])
(S (S (R [o 26 (mv 7)])
(.cond (t 26)
(S (R [o 27 (ld 29 2),
 o 28 (mv 1),
 o 29 (cl 76 #[(t 27), (t 28)] #[29, 3]),
 o 30 (xt 29 0),
 o 31 (xt 29 1),
 w (st 29 4 30),
 o 5 (av 31)])
(.ret [4, 5]))
.skip))
(S (R [o 32 (ld 29 2),
 o 33 (mv 1),
 o 34 (cl 77 #[(t 32), (t 33)] #[29, 3]),
 o 35 (xt 34 0),
 o 36 (xt 34 1),
 w (st 29 4 35),
 o 5 (av 36)])
(.ret [4, 5]))))
(S (R [o 38 (bo .eql (t 17) (n 3)),
 o 37 (av 38)])
(.cond (t 37)
(S (R [o 39 (ld 29 2),
 o 40 (mv 1),
 o 41 (cl 78 #[(t 39), (t 40)] #[29, 3]),
 o 42 (xt 41 0),
 o 43 (xt 41 1),
 w (st 29 4 42),
 o 5 (av 43)])
(.ret [4, 5]))
(S (S (R [o 45 (bo .eql (t 17) (n 0)),
 o 44 (av 45)])
(.cond (t 44)
.skip
(S (R [o 46 (bo .eql (t 17) (n 1)),
 o 44 (av 46)])
(.cond (t 44)
.skip
(R [o 47 (bo .eql (t 17) (n 4)),
 o 44 (av 47)])))))
(.cond (t 44)
(S (R [o 48 (ld 29 2),
 o 49 (mv 1),
 o 50 (cl 79 #[(t 48), (t 49)] #[29, 3]),
 o 51 (xt 50 0),
 o 52 (xt 50 1),
 w (st 29 4 51),
 o 5 (av 52)])
(.ret [4, 5]))
(S (R [o 54 (bo .eql (t 17) (n 5)),
 o 53 (av 54)])
(.cond (t 53)
(S (R [o 55 (ld 29 2),
 o 56 (mv 1),
 o 57 (cl 41 #[(t 55), (t 56)] #[29, 3]),
 o 58 (xt 57 0),
 o 59 (xt 57 1),
 w (st 29 4 58),
 o 5 (av 59)])
(.ret [4, 5]))
(S (R [o 61 (bo .eql (t 17) (n 6)),
 o 60 (av 61)])
(.cond (t 60)
(S d38_1
(.ret [4, 5]))
.skip))))))))))))
(S (S (R [o 74 (fa 37 6 8),
 o 75 (ld 35 74),
 o 76 (fa 37 6 1),
 o 77 (ld 3 76),
 o 78 (cl 80 #[(t 75), (t 77)] #[35, 3]),
 o 79 (.unOp .not 4 (.tmp 78))])
(.cond (t 79)
(S (R [o 80 (ld 29 2),
 o 81 (mv 1),
 o 82 (cl 50 #[(t 80), (t 81), (n 3), (n 0)] #[29, 3, 3, 3]),
 o 83 (xt 82 0),
 o 84 (xt 82 1),
 w (st 29 4 83),
 o 5 (av 84)])
(.ret [4, 5]))
.skip))
(S (R [o 85 (ld 29 2),
 o 86 (cl 37 #[(t 85)] #[29]),
 o 9 (al 29),
 w (st 29 9 86)])
(S (R [o 87 (fa 29 9 3),
 o 88 (ld 26 87),
 o 89 (mv 1),
 o 90 (ia 26 88 89),
 o 91 (fa 37 90 9),
 w (.store 3 (.tmp 91) (.const (.int .i64 0)))])
(S (R [o 92 (fa 29 9 3),
 o 93 (ld 26 92),
 o 94 (mv 1),
 o 95 (ia 26 93 94),
 o 96 (fa 37 95 4),
 w (.store 3 (.tmp 96) (.const (.int .i64 1)))])
(S (S (R [o 97 (fa 37 6 8),
 o 98 (ld 35 97),
 o 99 (len 98 35),
 o 100 (bo .eql (t 99) (n 0))])
(.cond (t 100)
(R [o 101 (fa 29 9 3),
 o 102 (ld 26 101),
 o 103 (mv 1),
 o 104 (ia 26 102 103),
 o 105 (fa 37 104 4),
 w (.store 3 (.tmp 105) (.const (.int .i64 3)))])
.skip))
(S (R [o 106 (ld 29 9),
 w (st 29 4 106),
 o 5 (an 0)])
(.ret [4, 5]))))))))))
def g38 : IFn := ⟨107, [.cell 4 29, .tmp 5], [29, 3], c38, [], false, none⟩
/- 39 veil/veilref11.Check -/
def c39 : IR := (S (R [z 2 (bx 29 0),
 o 4 (al 29),
 o 5 (an 0)])
(S (S (R [o 10 (ld 29 2),
 o 11 (mv 1),
 o 12 (cl 36 #[(t 10), (t 11)] #[29, 3]),
 o 13 (.unOp .not 4 (.tmp 12)),
 o 14 (mv 13),
 oF 15 (fa 29 2 3) 14,
 oF 16 (ld 26 15) 14,
 oF 17 (mv 1) 14,
 oF 18 (ia 26 16 17) 14,
 oF 19 (fa 37 18 4) 14,
 oF 20 (ld 3 19) 14,
 oF 21 (bo .neq (t 20) (n 3)) 14,
 o 22 (.pick (.tmp 14) (.const (.bool true)) (.tmp 21))])
(.cond (t 22)
(S (R [o 23 (.build 29 #[]),
 w (st 29 4 23),
 o 5 (an 2000)])
(.ret [4, 5]))
.skip))
(S (R [o 24 (fa 29 2 3),
 o 25 (ld 26 24),
 o 26 (mv 1),
 o 27 (ia 26 25 26),
 o 28 (ld 37 27),
 o 6 (al 37),
 w (st 37 6 28)])
(S (R [o 30 (fa 29 2 0),
 o 31 (ld 24 30),
 o 32 (fa 37 6 7),
 o 33 (ld 34 32),
 o 34 (fa 37 6 0),
 o 35 (ld 3 34),
 o 36 (cl 34 #[(t 31), (t 33), (t 35)] #[24, 34, 3]),
 o 29 (mv 36),
 o 37 (xt 29 0),
 o 38 (xt 29 1),
 o 7 (av 37),
 o 8 (av 38)])
(S (S (R [o 39 (mv 7),
 o 40 (.unOp .not 4 (.tmp 39))])
(.cond (t 40)
(S (R [o 41 (ld 29 2),
 o 42 (mv 1),
 o 43 (cl 66 #[(t 41), (t 42), (n 3)] #[29, 3, 3]),
 o 44 (xt 43 0),
 o 45 (xt 43 1),
 w (st 29 4 44),
 o 5 (av 45)])
(.ret [4, 5]))
.skip))
(S (S (R [o 46 (fa 37 6 8),
 o 47 (ld 35 46),
 o 48 (len 47 35),
 o 49 (bo .eql (t 48) (n 0))])
(.cond (t 49)
(S (R [o 50 (ld 29 2),
 o 51 (mv 1),
 o 52 (cl 50 #[(t 50), (t 51), (n 1), (n 0)] #[29, 3, 3, 3]),
 o 53 (xt 52 0),
 o 54 (xt 52 1),
 w (st 29 4 53),
 o 5 (av 54)])
(.ret [4, 5]))
.skip))
(S (R [o 55 (ld 29 2),
 o 56 (cl 37 #[(t 55)] #[29]),
 o 9 (al 29),
 w (st 29 9 56)])
(S (R [o 57 (fa 29 9 3),
 o 58 (ld 26 57),
 o 59 (mv 1),
 o 60 (ia 26 58 59),
 o 61 (fa 37 60 9),
 w (.store 3 (.tmp 61) (.const (.int .i64 0)))])
(S (R [o 62 (fa 29 9 3),
 o 63 (ld 26 62),
 o 64 (mv 1),
 o 65 (ia 26 63 64),
 o 66 (fa 37 65 4),
 w (.store 3 (.tmp 66) (.const (.int .i64 4)))])
(S (R [o 67 (ld 29 9),
 w (st 29 4 67),
 o 5 (an 0)])
(.ret [4, 5])))))))))))
def g39 : IFn := ⟨68, [.cell 4 29, .tmp 5], [29, 3], c39, [], false, none⟩
/- 40 veil/veilref11.Back -/
def d40_1 : IR := D [o 28 (fa 60 7 0),
 o 29 (ld 3 28),
 o 30 (fa 29 2 0),
 o 31 (ia 24 30 29),
 o 32 (ld 23 31),
 o 33 (fa 60 7 1),
 o 34 (ld 3 33),
 o 35 (ia 23 32 34),
 o 36 (ld 45 35),
 o 37 (fa 60 7 2),
 o 38 (ld 3 37),
 o 39 (fa 37 6 10),
 o 40 (ld 3 39),
 o 41 (cl 81 #[(t 36), (t 38), (t 40)] #[45, 3, 3]),
 o 27 (mv 41),
 o 42 (xt 27 0),
 o 43 (xt 27 1),
 o 8 (al 45),
 w (st 45 8 42),
 o 9 (av 43)] [[], [0], [], [2, 1], [3], [], [5], [4, 6], [7], [], [9], [], [11], [8, 10, 12], [13], [14], [14], [], [17, 15, 13, 0, 1, 2, 3, 4, 5, 6, 7, 8, 9, 10, 11, 12, 13, 14, 15, 17], [16, 18, 0, 1, 2, 3, 4, 5, 6, 7, 8, 9, 10, 11, 12, 13, 14, 15, 16, 17, 18]]
def d40_2 : IR := D [o 46 (fa 60 7 0),
 o 47 (ld 3 46),
 o 48 (fa 29 10 0),
 o 49 (ia 24 48 47),
 o 50 (ld 23 49),
 o 51 (fa 60 7 1),
 o 52 (ld 3 51),
 o 53 (ld 45 8),
 o 54 (ia 23 50 52),
 w (st 45 54 53)] [[], [0], [], [2, 1], [3], [], [5], [], [4, 6, 0, 1, 2, 3, 4, 5, 6, 7], [8, 7, 0, 1, 2, 3, 4, 5, 6, 7]]
def c40 : IR := (S (R [z 2 (bx 29 0),
 o 4 (al 29),
 o 5 (an 0)])
(S (S (R [o 11 (ld 29 2),
 o 12 (mv 1),
 o 13 (cl 64 #[(t 11), (t 12), (n 4)] #[29, 3, 3]),
 o 14 (.unOp .not 4 (.tmp 13))])
(.cond (t 14)
(S (R [o 15 (.build 29 #[]),
 w (st 29 4 15),
 o 5 (an 2100)])
(.ret [4, 5]))
.skip))
(S (R [o 16 (fa 29 2 3),
 o 17 (ld 26 16),
 o 18 (mv 1),
 o 19 (ia 26 17 18),
 o 20 (ld 37 19),
 o 6 (al 37),
 w (st 37 6 20)])
(S (R [o 21 (fa 37 6 8),
 o 22 (ld 35 21),
 o 23 (fa 37 6 9),
 o 24 (ld 3 23),
 o 25 (ia 35 22 24),
 o 26 (ld 60 25),
 o 7 (al 60),
 w (st 60 7 26)])
(S d40_1
(S (R [o 44 (ld 29 2),
 o 45 (cl 37 #[(t 44)] #[29]),
 o 10 (al 29),
 w (st 29 10 45)])
(S d40_2
(S (R [o 55 (fa 29 10 3),
 o 56 (ld 26 55),
 o 57 (mv 1),
 o 58 (ia 26 56 57),
 o 59 (fa 37 58 9),
 o 60 (ld 3 59),
 o 61 (bo .add (t 60) (n 1)),
 o 62 (ia 26 56 57),
 o 63 (fa 37 62 9),
 w (st 3 63 61)])
(S (S (R [o 64 (fa 37 6 9),
 o 65 (ld 3 64),
 o 66 (bo .add (t 65) (n 1)),
 o 67 (fa 37 6 8),
 o 68 (ld 35 67),
 o 69 (len 68 35),
 o 70 (bo .eql (t 66) (t 69))])
(.cond (t 70)
(S (R [o 71 (ld 29 10),
 o 72 (mv 1),
 o 73 (cl 50 #[(t 71), (t 72), (n 1), (n 0)] #[29, 3, 3, 3]),
 o 74 (xt 73 0),
 o 75 (xt 73 1),
 w (st 29 4 74),
 o 5 (av 75)])
(.ret [4, 5]))
.skip))
(S (R [o 76 (ld 29 10),
 w (st 29 4 76),
 o 5 (an 0)])
(.ret [4, 5])))))))))))
def g40 : IFn := ⟨77, [.cell 4 29, .tmp 5], [29, 3], c40, [], false, none⟩
/- 41 veil/veilref11.Park -/
def d41_1 : IR := D [o 53 (ld 29 6),
 o 54 (mv 1),
 o 55 (fa 29 2 3),
 o 56 (ld 26 55),
 o 57 (mv 1),
 o 58 (ia 26 56 57),
 o 59 (fa 37 58 7),
 o 60 (ld 34 59),
 o 61 (len 60 34),
 o 62 (cl 82 #[(t 53), (t 54), (n 4), (t 61)] #[29, 3, 3, 3]),
 w (st 29 4 62),
 o 5 (an 0)] [[], [], [], [2], [], [3, 4], [5], [6], [7], [0, 1, 8], [9, 9, 0, 1, 2, 3, 4, 5, 6, 7, 8, 9], [10, 0, 1, 2, 3, 4, 5, 6, 7, 8, 9, 10]]
def d41_2 : IR := D [o 64 (fa 29 2 0),
 o 65 (ld 24 64),
 o 66 (fa 29 2 3),
 o 67 (ld 26 66),
 o 68 (mv 1),
 o 69 (ia 26 67 68),
 o 70 (fa 37 69 7),
 o 71 (ld 34 70),
 o 72 (cl 83 #[(t 65), (t 71)] #[24, 34]),
 o 63 (mv 72),
 o 73 (xt 63 0),
 o 74 (xt 63 1),
 o 7 (av 73),
 o 8 (av 74)] [[], [0], [], [2], [], [3, 4], [5], [6], [1, 7], [8], [9], [9], [10, 8, 0, 1, 2, 3, 4, 5, 6, 7, 8, 9, 10], [11, 12, 0, 1, 2, 3, 4, 5, 6, 7, 8, 9, 10, 11, 12]]
def c41 : IR := (S (R [z 2 (bx 29 0),
 o 4 (al 29),
 o 5 (an 0)])
(S (S (R [o 9 (ld 29 2),
 o 10 (mv 1),
 o 11 (cl 36 #[(t 9), (t 10)] #[29, 3]),
 o 12 (.unOp .not 4 (.tmp 11)),
 o 13 (mv 12),
 oF 14 (fa 29 2 3) 13,
 oF 15 (ld 26 14) 13,
 oF 16 (mv 1) 13,
 oF 17 (ia 26 15 16) 13,
 oF 18 (fa 37 17 4) 13,
 oF 19 (ld 3 18) 13,
 oF 20 (bo .neq (t 19) (n 5)) 13,
 oF 21 (mv 20) 13,
 oT 22 (ld 29 2) 21,
 oT 23 (mv 1) 21,
 oT 24 (cl 74 #[(t 22), (t 23)] #[29, 3]) 21,
 oT 25 (bo .neq (t 24) (n 5)) 21,
 oF 26 (.pick (.tmp 21) (.tmp 25) (.const (.bool false))) 13,
 o 27 (.pick (.tmp 13) (.const (.bool true)) (.tmp 26))])
(.cond (t 27)
(S (R [o 28 (.build 29 #[]),
 w (st 29 4 28),
 o 5 (an 2200)])
(.ret [4, 5]))
.skip))
(S (R [o 29 (ld 29 2),
 o 30 (cl 37 #[(t 29)] #[29]),
 o 6 (al 29),
 w (st 29 6 30)])
(S (S (R [o 31 (fa 29 2 3),
 o 32 (ld 26 31),
 o 33 (mv 1),
 o 34 (ia 26 32 33),
 o 35 (fa 37 34 4),
 o 36 (ld 3 35),
 o 37 (bo .eql (t 36) (n 0))])
(.cond (t 37)
(S (R [o 38 (fa 29 6 3),
 o 39 (ld 26 38),
 o 40 (mv 1),
 o 41 (ia 26 39 40),
 o 42 (fa 37 41 8),
 w (.store 35 (.tmp 42) (.const (.slice none 0 0)))])
(S (R [o 43 (fa 29 6 3),
 o 44 (ld 26 43),
 o 45 (mv 1),
 o 46 (ia 26 44 45),
 o 47 (fa 37 46 9),
 w (.store 3 (.tmp 47) (.const (.int .i64 0)))])
(S (R [o 48 (fa 29 6 3),
 o 49 (ld 26 48),
 o 50 (mv 1),
 o 51 (ia 26 49 50),
 o 52 (fa 37 51 4),
 w (.store 3 (.tmp 52) (.const (.int .i64 5)))])
(S d41_1
(.ret [4, 5])))))
.skip))
(S d41_2
(S (S (R [o 75 (mv 7)])
(.cond (t 75)
(S (R [o 76 (ld 29 2),
 o 77 (mv 1),
 o 78 (cl 66 #[(t 76), (t 77), (n 5)] #[29, 3, 3]),
 o 79 (xt 78 0),
 o 80 (xt 78 1),
 w (st 29 4 79),
 o 5 (av 80)])
(.ret [4, 5]))
.skip))
(S (R [o 81 (ld 29 6),
 w (st 29 4 81),
 o 5 (an 0)])
(.ret [4, 5]))))))))
def g41 : IFn := ⟨82, [.cell 4 29, .tmp 5], [29, 3], c41, [], false, none⟩
/- 42 veil/mach.Is -/
def c42 : IR := (S (R [o 6 (ab false)])
(S (R [o 7 (mv 0),
 o 8 (mv 1),
 o 9 (cl 84 #[(t 7), (t 8)] #[73, 3]),
 o 10 (mv 9),
 oT 11 (mv 0) 10,
 oT 12 (nc 11) 10,
 oT 13 (fa 29 12 3) 10,
 oT 14 (ld 26 13) 10,
 oT 15 (mv 1) 10,
 oT 16 (ia 26 14 15) 10,
 oT 17 (fa 37 16 4) 10,
 oT 18 (ld 3 17) 10,
 oT 19 (mv 2) 10,
 oT 20 (bo .eql (t 18) (t 19)) 10,
 o 21 (.pick (.tmp 10) (.tmp 20) (.const (.bool false))),
 o 6 (av 21)])
(.ret [6])))
def g42 : IFn := ⟨22, [.tmp 6], [4], c42, [], false, none⟩
/- 43 veil/mach.Copy -/
def d43_1 : IR := D [o 5 (fa 29 1 0),
 o 6 (ld 24 5),
 o 7 (cl 85 #[(t 6)] #[24]),
 o 8 (fa 29 1 3),
 o 9 (ld 26 8),
 o 10 (cl 86 #[(t 9)] #[26]),
 o 11 (fa 29 1 4),
 o 12 (ld 27 11),
 o 13 (cl 87 #[(t 12)] #[27]),
 o 14 (fa 29 1 0),
 w (st 24 14 7),
 o 15 (fa 29 1 3),
 w (st 26 15 10),
 o 16 (fa 29 1 4),
 w (st 27 16 13)] [[], [0], [1], [], [3], [4, 2], [], [6], [7, 5], [0, 1, 2, 3, 4, 6, 7], [9, 2, 8, 0, 1, 2, 3, 4, 6, 7], [0, 1, 2, 3, 4, 5, 6, 7, 9, 10], [11, 5, 10, 0, 1, 2, 3, 4, 5, 6, 7, 9, 10], [0, 1, 2, 3, 4, 5, 6, 7, 8, 9, 10, 11, 12], [13, 8, 12, 0, 1, 2, 3, 4, 5, 6, 7, 8, 9, 10, 11, 12]]
def d43_2 : IR := D [o 25 (fa 29 1 3),
 o 26 (ld 26 25),
 o 27 (mv 3),
 o 28 (ld 37 4),
 o 29 (cl 88 #[(t 28)] #[37]),
 o 30 (ia 26 26 27),
 w (st 37 30 29)] [[], [0], [], [], [3], [1, 2, 0, 1, 2, 3, 4], [5, 4, 4, 0, 1, 2, 3, 4]]
def c43_1 : IR := (S (R [o 21 (bo .lss (t 20) (t 19))])
(S (.cond (t 21)
.skip
(.exit 0 [1, 2]))
(S (.block 1 (S (R [o 22 (mv 20),
 o 23 (ia 26 18 20),
 o 24 (ld 37 23),
 o 4 (al 37),
 o 3 (av 22),
 w (st 37 4 24)])
d43_2))
(R [o 31 (bo .add (t 20) (n 1)),
 o 20 (mv 31)]))))
def c43 : IR := (S (R [o 1 (bx 29 0),
 o 2 (al 29)])
(S d43_1
(S (S (R [o 17 (fa 29 1 3),
 o 18 (ld 26 17),
 o 19 (len 18 26),
 o 20 (.move (.const (.int .i64 0)))])
(.block 0 (.loop [1, 2, 18, 19, 20] c43_1)))
(S (R [o 32 (ld 29 1),
 w (st 29 2 32)])
(.ret [2])))))
def g43 : IFn := ⟨33, [.cell 2 29], [29], c43, [], false, none⟩
/- 44 veil/word.Write -/
def c44 : IR := (S (R [z 3 (bx 45 0),
 o 6 (al 45),
 o 7 (an 0)])
(S (R [o 9 (mv 1),
 o 10 (mv 2),
 o 11 (.build 45 #[(0, (.tmp 9)), (1, (.tmp 10))]),
 o 8 (al 45),
 w (st 45 8 11)])
(S (S (R [o 12 (ld 45 3),
 o 13 (cl 89 #[(t 12)] #[45]),
 o 14 (.unOp .not 4 (.tmp 13)),
 o 15 (mv 14),
 oF 16 (ld 45 8) 15,
 oF 17 (cl 89 #[(t 16)] #[45]) 15,
 oF 18 (.unOp .not 4 (.tmp 17)) 15,
 o 19 (.pick (.tmp 15) (.const (.bool true)) (.tmp 18))])
(.cond (t 19)
(S (R [o 20 (.build 45 #[]),
 w (st 45 6 20),
 o 7 (an 300)])
(.ret [6, 7]))
.skip))
(S (R [o 21 (ld 45 8),
 w (st 45 6 21),
 o 7 (an 0)])
(.ret [6, 7])))))
def g44 : IFn := ⟨22, [.cell 6 45, .tmp 7], [45, 40], c44, [], false, none⟩
/- 45 veil/undo.End -/
def c45 : IR := (S (R [z 4 (bx 29 0),
 o 8 (al 29),
 o 9 (an 0)])
(S (S (R [o 12 (mv 1),
 o 13 (cl 84 #[(t 4), (t 12)] #[73, 3]),
 o 14 (.unOp .not 4 (.tmp 13)),
 o 15 (mv 14),
 oF 16 (mv 2) 15,
 oF 17 (bo .lss (t 16) (n 0)) 15,
 o 18 (.pick (.tmp 15) (.const (.bool true)) (.tmp 17)),
 o 19 (mv 18),
 oF 20 (mv 2) 19,
 oF 21 (bo .gtr (t 20) (n 5)) 19,
 o 22 (.pick (.tmp 19) (.const (.bool true)) (.tmp 21)),
 o 23 (mv 22),
 oF 24 (mv 3) 23,
 oF 25 (cl 90 #[(t 24)] #[3]) 23,
 oF 26 (.unOp .not 4 (.tmp 25)) 23,
 o 27 (.pick (.tmp 23) (.const (.bool true)) (.tmp 26))])
(.cond (t 27)
(S (R [o 28 (.build 29 #[]),
 w (st 29 8 28),
 o 9 (an 1300)])
(.ret [8, 9]))
.skip))
(S (R [o 29 (ld 29 4),
 o 30 (cl 43 #[(t 29)] #[29]),
 o 10 (al 29),
 w (st 29 10 30)])
(S (R [o 31 (mv 1),
 o 32 (cl 91 #[(t 10), (t 31)] #[73, 3]),
 o 11 (av 32)])
(S (R [o 33 (mv 11),
 o 34 (mv 11),
 o 35 (mv 11),
 o 36 (mv 2),
 o 37 (mv 3),
 o 38 (nc 33),
 o 39 (fa 37 38 4),
 w (.store 3 (.tmp 39) (.const (.int .i64 6))),
 o 40 (nc 34),
 o 41 (fa 37 40 12),
 w (st 3 41 36),
 o 42 (nc 35),
 o 43 (fa 37 42 13),
 w (st 3 43 37)])
(S (R [o 44 (mv 1),
 o 45 (mv 2),
 o 46 (cl 92 #[(t 10), (t 44), (n 6), (t 45)] #[73, 3, 3, 3])])
(S (R [o 47 (ld 29 10),
 w (st 29 8 47),
 o 9 (an 0)])
(.ret [8, 9]))))))))
def g45 : IFn := ⟨48, [.cell 8 29, .tmp 9], [29, 40], c45, [], false, none⟩
/- 46 veil/veillaw0.CopyArena -/
def c46_1 : IR := (S (S (R [o 5 (mv 4),
 o 6 (bo .lss (t 5) (n 4))])
(.cond (t 6)
.skip
(.exit 0 [2, 3])))
(S (.block 1 (R [o 9 (mv 4),
 o 10 (.buildSlice 23 0 #[]),
 o 11 (mv 4),
 o 12 (ia 24 1 11),
 o 13 (ld 23 12),
 o 14 (.call { callee := (.builtin .append), args := #[(.tmp 10), (.tmp 13)], argTypes := #[23, 23] }),
 o 15 (ia 24 3 9),
 w (st 23 15 14)]))
(R [o 7 (mv 4),
 o 8 (bo .add (t 7) (n 1)),
 o 4 (av 8)])))
def c46 : IR := (S (R [z 1 (bx 24 0),
 o 2 (al 24)])
(S (R [o 3 (al 24)])
(S (S (R [o 4 (an 0)])
(.block 0 (.loop [1, 2, 3, 4] c46_1)))
(S (R [o 16 (ld 24 3),
 w (st 24 2 16)])
(.ret [2])))))
def g46 : IFn := ⟨17, [.cell 2 24], [24], c46, [], false, none⟩
/- 47 veil/veillaw0.CopySession -/
def c47 : IR := (S (R [o 1 (bx 37 0),
 o 2 (al 37)])
(S (R [o 3 (.buildSlice 33 0 #[]),
 o 4 (fa 37 1 3),
 o 5 (ld 33 4),
 o 6 (.call { callee := (.builtin .append), args := #[(.tmp 3), (.tmp 5)], argTypes := #[33, 33] }),
 o 7 (fa 37 1 3),
 w (st 33 7 6)])
(S (R [o 8 (.buildSlice 34 0 #[]),
 o 9 (fa 37 1 7),
 o 10 (ld 34 9),
 o 11 (.call { callee := (.builtin .append), args := #[(.tmp 8), (.tmp 10)], argTypes := #[34, 34] }),
 o 12 (fa 37 1 7),
 w (st 34 12 11)])
(S (R [o 13 (.buildSlice 35 0 #[]),
 o 14 (fa 37 1 8),
 o 15 (ld 35 14),
 o 16 (.call { callee := (.builtin .append), args := #[(.tmp 13), (.tmp 15)], argTypes := #[35, 35] }),
 o 17 (fa 37 1 8),
 w (st 35 17 16)])
(S (R [o 18 (ld 37 1),
 w (st 37 2 18)])
(.ret [2]))))))
def g47 : IFn := ⟨19, [.cell 2 37], [37], c47, [], false, none⟩
/- 48 veil/clock.Next -/
def d48_1 : IR := D [o 29 (ld 25 3),
 o 30 (mv 1),
 o 31 (ia 25 3 30),
 o 32 (ld 3 31),
 w (st 25 6 29),
 o 7 (av 32),
 o 8 (an 0)] [[], [], [1], [2], [0, 0], [3, 4, 0, 1, 2, 3, 4], [5, 0, 1, 2, 3, 4, 5]]
def c48 : IR := (S (R [o 3 (bx 25 0),
 o 6 (al 25),
 o 7 (an 0),
 o 8 (an 0)])
(S (S (R [o 9 (mv 2),
 o 10 (cl 93 #[(t 3), (t 9)] #[123, 3]),
 o 11 (.unOp .not 4 (.tmp 10)),
 o 12 (mv 11),
 oF 13 (mv 1) 12,
 oF 14 (cl 94 #[(t 13)] #[3]) 12,
 oF 15 (.unOp .not 4 (.tmp 14)) 12,
 o 16 (.pick (.tmp 12) (.const (.bool true)) (.tmp 15))])
(.cond (t 16)
(S (R [o 17 (.build 25 #[]),
 w (st 25 6 17),
 o 7 (an 0),
 o 8 (an 500)])
(.ret [6, 7, 8]))
.skip))
(S (S (R [o 18 (mv 1),
 o 19 (ia 25 3 18),
 o 20 (ld 3 19),
 o 21 (mv 2),
 o 22 (bo .geq (t 20) (t 21))])
(.cond (t 22)
(S (R [o 23 (.build 25 #[]),
 w (st 25 6 23),
 o 7 (an 0),
 o 8 (an 501)])
(.ret [6, 7, 8]))
.skip))
(S (R [o 24 (mv 1),
 o 25 (ia 25 3 24),
 o 26 (ld 3 25),
 o 27 (bo .add (t 26) (n 1)),
 o 28 (ia 25 3 24),
 w (st 3 28 27)])
(S d48_1
(.ret [6, 7, 8]))))))
def g48 : IFn := ⟨33, [.cell 6 25, .tmp 7, .tmp 8], [25, 3, 40], c48, [], false, none⟩
/- 49 veil/veilref1.Next -/
def c49_1 : IR := (S (S (R [o 17 (mv 10),
 o 18 (bo .lss (t 17) (n 4))])
(.cond (t 18)
.skip
(.exit 0 [1, 2, 3, 6, 9])))
(S (.block 1 (R [o 21 (mv 9),
 o 22 (mv 21),
 oT 23 (mv 10) 22,
 oT 24 (ia 25 3 23) 22,
 oT 25 (ld 3 24) 22,
 oT 26 (cl 58 #[(t 25)] #[3]) 22,
 o 27 (.pick (.tmp 22) (.tmp 26) (.const (.bool false))),
 o 9 (av 27)]))
(R [o 19 (mv 10),
 o 20 (bo .add (t 19) (n 1)),
 o 10 (av 20)])))
def d49_1 : IR := D [o 42 (ld 25 3),
 o 43 (mv 1),
 o 44 (ia 25 3 43),
 o 45 (ld 3 44),
 w (st 25 6 42),
 o 7 (av 45),
 o 8 (an 0)] [[], [], [1], [2], [0, 0], [3, 4, 0, 1, 2, 3, 4], [5, 0, 1, 2, 3, 4, 5]]
def c49 : IR := (S (R [o 3 (bx 25 0),
 o 6 (al 25),
 o 7 (an 0),
 o 8 (an 0)])
(S (R [o 11 (mv 1),
 o 12 (cl 61 #[(t 11)] #[3]),
 o 13 (mv 12),
 oT 14 (mv 2) 13,
 oT 15 (cl 58 #[(t 14)] #[3]) 13,
 o 16 (.pick (.tmp 13) (.tmp 15) (.const (.bool false))),
 o 9 (av 16)])
(S (S (R [o 10 (an 0)])
(.block 0 (.loop [1, 2, 3, 6, 9, 10] c49_1)))
(S (S (R [o 28 (mv 9),
 o 29 (.unOp .not 4 (.tmp 28))])
(.cond (t 29)
(S (R [o 30 (.build 25 #[]),
 w (st 25 6 30),
 o 7 (an 0),
 o 8 (an 500)])
(.ret [6, 7, 8]))
.skip))
(S (S (R [o 31 (mv 1),
 o 32 (ia 25 3 31),
 o 33 (ld 3 32),
 o 34 (mv 2),
 o 35 (bo .geq (t 33) (t 34))])
(.cond (t 35)
(S (R [o 36 (.build 25 #[]),
 w (st 25 6 36),
 o 7 (an 0),
 o 8 (an 501)])
(.ret [6, 7, 8]))
.skip))
(S (R [o 37 (mv 1),
 o 38 (ia 25 3 37),
 o 39 (ld 3 38),
 o 40 (bo .add (t 39) (n 1)),
 o 41 (ia 25 3 37),
 w (st 3 41 40)])
(S d49_1
(.ret [6, 7, 8]))))))))
def g49 : IFn := ⟨46, [.cell 6 25, .tmp 7, .tmp 8], [25, 3, 3], c49, [], false, none⟩
/- 50 veil/veilref11.End -/
def c50 : IR := (S (R [z 4 (bx 29 0),
 o 8 (al 29),
 o 9 (an 0)])
(S (S (R [o 11 (ld 29 4),
 o 12 (mv 1),
 o 13 (cl 36 #[(t 11), (t 12)] #[29, 3]),
 o 14 (.unOp .not 4 (.tmp 13)),
 o 15 (mv 14),
 oF 16 (mv 2) 15,
 oF 17 (cl 59 #[(t 16), (n 0), (n 5)] #[3, 3, 3]) 15,
 oF 18 (.unOp .not 4 (.tmp 17)) 15,
 o 19 (.pick (.tmp 15) (.const (.bool true)) (.tmp 18)),
 o 20 (mv 19),
 oF 21 (mv 3) 20,
 oF 22 (cl 95 #[(t 21)] #[3]) 20,
 oF 23 (.unOp .not 4 (.tmp 22)) 20,
 o 24 (.pick (.tmp 20) (.const (.bool true)) (.tmp 23))])
(.cond (t 24)
(S (R [o 25 (.build 29 #[]),
 w (st 29 8 25),
 o 9 (an 1300)])
(.ret [8, 9]))
.skip))
(S (R [o 26 (ld 29 4),
 o 27 (mv 1),
 o 28 (cl 96 #[(t 26), (t 27)] #[29, 3]),
 o 10 (al 29),
 w (st 29 10 28)])
(S (R [o 29 (fa 29 10 3),
 o 30 (ld 26 29),
 o 31 (mv 1),
 o 32 (ia 26 30 31),
 o 33 (fa 37 32 4),
 w (.store 3 (.tmp 33) (.const (.int .i64 6)))])
(S (R [o 34 (fa 29 10 3),
 o 35 (ld 26 34),
 o 36 (mv 1),
 o 37 (mv 2),
 o 38 (ia 26 35 36),
 o 39 (fa 37 38 12),
 w (st 3 39 37)])
(S (R [o 40 (fa 29 10 3),
 o 41 (ld 26 40),
 o 42 (mv 1),
 o 43 (mv 3),
 o 44 (ia 26 41 42),
 o 45 (fa 37 44 13),
 w (st 3 45 43)])
(S (R [o 46 (ld 29 10),
 o 47 (mv 1),
 o 48 (mv 2),
 o 49 (cl 82 #[(t 46), (t 47), (n 6), (t 48)] #[29, 3, 3, 3]),
 w (st 29 8 49),
 o 9 (an 0)])
(.ret [8, 9]))))))))
def g50 : IFn := ⟨50, [.cell 8 29, .tmp 9], [29, 3], c50, [], false, none⟩
/- 51 veil/veillaw0.SameSession -/
def c51 : IR := (S (R [z 2 (bx 37 0),
 z 3 (bx 37 1),
 o 4 (ab false)])
(S (R [o 5 (fa 37 2 0),
 o 6 (ld 3 5),
 o 7 (fa 37 3 0),
 o 8 (ld 3 7),
 o 9 (bo .eql (t 6) (t 8)),
 o 10 (mv 9),
 oT 11 (fa 37 2 1) 10,
 oT 12 (ld 3 11) 10,
 oT 13 (fa 37 3 1) 10,
 oT 14 (ld 3 13) 10,
 oT 15 (bo .eql (t 12) (t 14)) 10,
 o 16 (.pick (.tmp 10) (.tmp 15) (.const (.bool false))),
 o 17 (mv 16),
 oT 18 (fa 37 2 2) 17,
 oT 19 (ld 3 18) 17,
 oT 20 (fa 37 3 2) 17,
 oT 21 (ld 3 20) 17,
 oT 22 (bo .eql (t 19) (t 21)) 17,
 o 23 (.pick (.tmp 17) (.tmp 22) (.const (.bool false))),
 o 24 (mv 23),
 oT 25 (fa 37 2 3) 24,
 oT 26 (ld 33 25) 24,
 oT 27 (fa 37 3 3) 24,
 oT 28 (ld 33 27) 24,
 oT 29 (cl 97 #[(t 26), (t 28)] #[33, 33]) 24,
 o 30 (.pick (.tmp 24) (.tmp 29) (.const (.bool false))),
 o 31 (mv 30),
 oT 32 (fa 37 2 4) 31,
 oT 33 (ld 3 32) 31,
 oT 34 (fa 37 3 4) 31,
 oT 35 (ld 3 34) 31,
 oT 36 (bo .eql (t 33) (t 35)) 31,
 o 37 (.pick (.tmp 31) (.tmp 36) (.const (.bool false))),
 o 38 (mv 37),
 oT 39 (fa 37 2 5) 38,
 oT 40 (ld 3 39) 38,
 oT 41 (fa 37 3 5) 38,
 oT 42 (ld 3 41) 38,
 oT 43 (bo .eql (t 40) (t 42)) 38,
 o 44 (.pick (.tmp 38) (.tmp 43) (.const (.bool false))),
 o 45 (mv 44),
 oT 46 (fa 37 2 6) 45,
 oT 47 (ld 25 46) 45,
 oT 48 (fa 37 3 6) 45,
 oT 49 (ld 25 48) 45,
 oT 50 (.binOp .eql 25 (.tmp 47) (.tmp 49) 25) 45,
 o 51 (.pick (.tmp 45) (.tmp 50) (.const (.bool false))),
 o 52 (mv 51),
 oT 53 (fa 37 2 7) 52,
 oT 54 (ld 34 53) 52,
 oT 55 (fa 37 3 7) 52,
 oT 56 (ld 34 55) 52,
 oT 57 (cl 98 #[(t 54), (t 56)] #[34, 34]) 52,
 o 58 (.pick (.tmp 52) (.tmp 57) (.const (.bool false))),
 o 59 (mv 58),
 oT 60 (fa 37 2 8) 59,
 oT 61 (ld 35 60) 59,
 oT 62 (fa 37 3 8) 59,
 oT 63 (ld 35 62) 59,
 oT 64 (cl 99 #[(t 61), (t 63)] #[35, 35]) 59,
 o 65 (.pick (.tmp 59) (.tmp 64) (.const (.bool false))),
 o 66 (mv 65),
 oT 67 (fa 37 2 9) 66,
 oT 68 (ld 3 67) 66,
 oT 69 (fa 37 3 9) 66,
 oT 70 (ld 3 69) 66,
 oT 71 (bo .eql (t 68) (t 70)) 66,
 o 72 (.pick (.tmp 66) (.tmp 71) (.const (.bool false))),
 o 73 (mv 72),
 oT 74 (fa 37 2 10) 73,
 oT 75 (ld 3 74) 73,
 oT 76 (fa 37 3 10) 73,
 oT 77 (ld 3 76) 73,
 oT 78 (bo .eql (t 75) (t 77)) 73,
 o 79 (.pick (.tmp 73) (.tmp 78) (.const (.bool false))),
 o 80 (mv 79),
 oT 81 (fa 37 2 11) 80,
 oT 82 (ld 3 81) 80,
 oT 83 (fa 37 3 11) 80,
 oT 84 (ld 3 83) 80,
 oT 85 (bo .eql (t 82) (t 84)) 80,
 o 86 (.pick (.tmp 80) (.tmp 85) (.const (.bool false))),
 o 87 (mv 86),
 oT 88 (fa 37 2 12) 87,
 oT 89 (ld 3 88) 87,
 oT 90 (fa 37 3 12) 87,
 oT 91 (ld 3 90) 87,
 oT 92 (bo .eql (t 89) (t 91)) 87,
 o 93 (.pick (.tmp 87) (.tmp 92) (.const (.bool false))),
 o 94 (mv 93),
 oT 95 (fa 37 2 13) 94,
 oT 96 (ld 3 95) 94,
 oT 97 (fa 37 3 13) 94,
 oT 98 (ld 3 97) 94,
 oT 99 (bo .eql (t 96) (t 98)) 94,
 o 100 (.pick (.tmp 94) (.tmp 99) (.const (.bool false))),
 o 4 (av 100)])
(.ret [4])))
def g51 : IFn := ⟨101, [.tmp 4], [4], c51, [], false, none⟩
/- 52 veil/veillaw0.SpoilArena -/
def c52_1 : IR := (S (S (R [o 3 (mv 2),
 o 4 (bo .lss (t 3) (n 4))])
(.cond (t 4)
.skip
(.exit 0 [])))
(S (.block 1 (R [o 7 (mv 2),
 o 8 (ia 24 1 7),
 o 9 (ld 23 8),
 o 10 (cl 100 #[(t 9)] #[23])]))
(R [o 5 (mv 2),
 o 6 (bo .add (t 5) (n 1)),
 o 2 (av 6)])))
def c52 : IR := (S (R [o 1 (bx 24 0)])
(S (R [o 2 (an 0)])
(.block 0 (.loop [1, 2] c52_1))))
def g52 : IFn := ⟨11, [], [], c52, [true], false, none⟩
/- 53 veil/veillaw0.SpoilSession -/
def c53 : IR := (S (R [o 1 (bx 37 0)])
(S (R [o 2 (fa 37 1 3),
 o 3 (ld 33 2),
 o 4 (cl 101 #[(t 3)] #[33])])
(S (R [o 5 (fa 37 1 7),
 o 6 (ld 34 5),
 o 7 (cl 102 #[(t 6)] #[34])])
(R [o 8 (fa 37 1 8),
 o 9 (ld 35 8),
 o 10 (cl 103 #[(t 9)] #[35])]))))
def g53 : IFn := ⟨11, [], [], c53, [true], false, none⟩
/- 54 veil/veillaw0.SpoilEvents -/
def c54_1 : IR := (S (S (R [o 3 (mv 2),
 o 4 (mv 0),
 o 5 (len 4 27),
 o 6 (bo .lss (t 3) (t 5))])
(.cond (t 6)
.skip
(.exit 0 [])))
(S (.block 1 (R [o 9 (mv 0),
 o 10 (mv 2),
 o 11 (mv 0),
 o 12 (mv 2),
 o 13 (ia 27 11 12),
 o 14 (fa 92 13 0),
 o 15 (ld 3 14),
 o 16 (bo .xor (t 15) (n 90)),
 o 17 (ia 27 9 10),
 o 18 (fa 92 17 0),
 w (st 3 18 16)]))
(R [o 7 (mv 2),
 o 8 (bo .add (t 7) (n 1)),
 o 2 (av 8)])))
def c54 : IR := (S (R [o 2 (an 0)])
(.block 0 (.loop [0, 2] c54_1)))
def g54 : IFn := ⟨19, [], [], c54, [true], false, none⟩
/- 55 veil/veillaw19.begun -/
def c55 : IR := (S (R [o 0 (al 29)])
(S (R [o 4 (.buildSlice 53 2 #[(0, (.const (.int .i64 5))), (1, (.const (.int .i64 6)))]),
 o 5 (.buildSlice 53 1 #[(0, (.const (.int .i64 7)))]),
 o 6 (.buildSlice 53 1 #[(0, (.const (.int .i64 9)))]),
 o 7 (.build 64 #[(0, (.tmp 4)), (1, (.tmp 5)), (2, (.const (.slice none 0 0))), (3, (.tmp 6))]),
 o 8 (.build 32 #[(0, (.const (.int .i64 2)))]),
 o 9 (.build 32 #[(0, (.const (.int .i64 1)))]),
 o 10 (.build 32 #[(0, (.const (.int .i64 3)))]),
 o 11 (.buildSlice 33 3 #[(0, (.tmp 8)), (1, (.tmp 9)), (2, (.tmp 10))]),
 o 12 (.build 66 #[(0, (.const (.int .i64 3))), (2, (.const (.int .i64 3))), (3, (.tmp 11))]),
 o 13 (.build 32 #[(0, (.const (.int .i64 2))), (3, (.const (.int .i64 1)))]),
 o 14 (.build 32 #[(0, (.const (.int .i64 3))), (2, (.const (.int .i64 1)))]),
 o 15 (.buildSlice 33 2 #[(0, (.tmp 13)), (1, (.tmp 14))]),
 o 16 (.build 66 #[(0, (.const (.int .i64 5))), (1, (.const (.int .i64 1))), (2, (.const (.int .i64 1))), (3, (.tmp 15))]),
 o 17 (.buildSlice 67 2 #[(0, (.tmp 12)), (1, (.tmp 16))]),
 o 18 (.build 70 #[(0, (.tmp 7)), (1, (.const (.int .i64 9))), (2, (.tmp 17))]),
 o 19 (cl 35 #[(t 18)] #[70]),
 o 3 (mv 19),
 o 20 (xt 3 0),
 o 21 (xt 3 1),
 o 1 (al 29),
 w (st 29 1 20),
 o 2 (av 21)])
(S (R [o 22 (ld 29 1),
 w (st 29 0 22)])
(.ret [0]))))
def g55 : IFn := ⟨23, [.cell 0 29], [29], c55, [], false, none⟩
/- 56 veil/veillaw0.SameWords -/
def d56_1 : IR := D [o 17 (mv 0),
 o 18 (mv 5),
 o 19 (ia 23 17 18),
 o 20 (ld 45 19),
 o 21 (mv 1),
 o 22 (mv 5),
 o 23 (ia 23 21 22),
 o 24 (ld 45 23),
 o 25 (.binOp .neq 45 (.tmp 20) (.tmp 24) 45)] [[], [], [0, 1], [2], [], [], [4, 5], [6], [3, 7]]
def c56_1 : IR := (S (S (R [o 11 (mv 5),
 o 12 (mv 0),
 o 13 (len 12 23),
 o 14 (bo .lss (t 11) (t 13))])
(.cond (t 14)
.skip
(.exit 0 [])))
(S (.block 1 (S d56_1
(.cond (t 25)
(S (R [o 4 (ab false)])
(.ret [4]))
.skip)))
(R [o 15 (mv 5),
 o 16 (bo .add (t 15) (n 1)),
 o 5 (av 16)])))
def c56 : IR := (S (R [o 4 (ab false)])
(S (S (R [o 6 (mv 0),
 o 7 (len 6 23),
 o 8 (mv 1),
 o 9 (len 8 23),
 o 10 (bo .neq (t 7) (t 9))])
(.cond (t 10)
(S (R [o 4 (ab false)])
(.ret [4]))
.skip))
(S (S (R [o 5 (an 0)])
(.block 0 (.loop [0, 1, 5] c56_1)))
(S (R [o 4 (ab true)])
(.ret [4])))))
def g56 : IFn := ⟨26, [.tmp 4], [4], c56, [], false, none⟩
/- 57 veil/veilref1.ArenaMay -/
def c57_1 : IR := (S (S (R [o 9 (mv 4),
 o 10 (mv 3),
 o 11 (ia 24 1 10),
 o 12 (ld 23 11),
 o 13 (len 12 23),
 o 14 (bo .lss (t 9) (t 13))])
(.cond (t 14)
.skip
(.exit 2 [1, 3])))
(S (.block 3 (S (R [o 17 (mv 4),
 o 18 (bo .geq (t 17) (n 4)),
 o 19 (mv 18),
 oF 20 (mv 3) 19,
 oF 21 (ia 24 1 20) 19,
 oF 22 (ld 23 21) 19,
 oF 23 (mv 4) 19,
 oF 24 (ia 23 22 23) 19,
 oF 25 (ld 45 24) 19,
 oF 26 (cl 104 #[(t 25)] #[45]) 19,
 oF 27 (.unOp .not 4 (.tmp 26)) 19,
 o 28 (.pick (.tmp 19) (.const (.bool true)) (.tmp 27))])
(.cond (t 28)
(S (R [o 2 (ab false)])
(.ret [2]))
.skip)))
(R [o 15 (mv 4),
 o 16 (bo .add (t 15) (n 1)),
 o 4 (av 16)])))
def c57_2 : IR := (S (S (R [o 5 (mv 3),
 o 6 (bo .lss (t 5) (n 4))])
(.cond (t 6)
.skip
(.exit 0 [])))
(S (.block 1 (S (R [o 4 (an 0)])
(.block 2 (.loop [1, 3, 4] c57_1))))
(R [o 7 (mv 3),
 o 8 (bo .add (t 7) (n 1)),
 o 3 (av 8)])))
def c57 : IR := (S (R [z 1 (bx 24 0),
 o 2 (ab false)])
(S (S (R [o 3 (an 0)])
(.block 0 (.loop [1, 3] c57_2)))
(S (R [o 2 (ab true)])
(.ret [2]))))
def g57 : IFn := ⟨29, [.tmp 2], [4], c57, [], false, none⟩
/- 58 veil/veilref1.ClockMay -/
def c58 : IR := (S (R [o 2 (ab false)])
(S (R [o 3 (mv 0),
 o 4 (cl 105 #[(t 3), (n 0), (n 65535)] #[3, 3, 3]),
 o 2 (av 4)])
(.ret [2])))
def g58 : IFn := ⟨5, [.tmp 2], [4], c58, [], false, none⟩
/- 59 veil/veilref11.upTo -/
def c59 : IR := (S (R [o 6 (ab false)])
(S (R [o 7 (mv 0),
 o 8 (mv 1),
 o 9 (bo .geq (t 7) (t 8)),
 o 10 (mv 9),
 oT 11 (mv 0) 10,
 oT 12 (mv 2) 10,
 oT 13 (bo .leq (t 11) (t 12)) 10,
 o 14 (.pick (.tmp 10) (.tmp 13) (.const (.bool false))),
 o 6 (av 14)])
(.ret [6])))
def g59 : IFn := ⟨15, [.tmp 6], [4], c59, [], false, none⟩
/- 60 veil/veilref11.sessionMay -/
def c60 : IR := (S (R [z 2 (bx 29 0),
 z 3 (bx 37 1),
 o 4 (ab false)])
(S (S (R [o 5 (fa 37 3 0),
 o 6 (ld 3 5),
 o 7 (fa 37 3 1),
 o 8 (ld 3 7),
 o 9 (fa 37 3 2),
 o 10 (ld 3 9),
 o 11 (fa 37 3 3),
 o 12 (ld 33 11),
 o 13 (.build 66 #[(0, (.tmp 6)), (1, (.tmp 8)), (2, (.tmp 10)), (3, (.tmp 12))]),
 o 14 (cl 106 #[(t 13)] #[66]),
 o 15 (.unOp .not 4 (.tmp 14)),
 o 16 (mv 15),
 oF 17 (fa 29 2 0) 16,
 oF 18 (ld 24 17) 16,
 oF 19 (ld 37 3) 16,
 oF 20 (cl 107 #[(t 18), (t 19)] #[24, 37]) 16,
 oF 21 (.unOp .not 4 (.tmp 20)) 16,
 o 22 (.pick (.tmp 16) (.const (.bool true)) (.tmp 21))])
(.cond (t 22)
(S (R [o 4 (ab false)])
(.ret [4]))
.skip))
(S (S (R [o 23 (fa 37 3 4),
 o 24 (ld 3 23),
 o 25 (cl 59 #[(t 24), (n 0), (n 6)] #[3, 3, 3]),
 o 26 (.unOp .not 4 (.tmp 25)),
 o 27 (mv 26),
 oF 28 (fa 37 3 5) 27,
 oF 29 (ld 3 28) 27,
 oF 30 (fa 37 3 3) 27,
 oF 31 (ld 33 30) 27,
 oF 32 (len 31 33) 27,
 oF 33 (cl 59 #[(t 29), (n 0), (t 32)] #[3, 3, 3]) 27,
 oF 34 (.unOp .not 4 (.tmp 33)) 27,
 o 35 (.pick (.tmp 27) (.const (.bool true)) (.tmp 34)),
 o 36 (mv 35),
 oF 37 (fa 37 3 6) 36,
 oF 38 (ld 25 37) 36,
 oF 39 (cl 108 #[(t 38)] #[25]) 36,
 oF 40 (.unOp .not 4 (.tmp 39)) 36,
 o 41 (.pick (.tmp 36) (.const (.bool true)) (.tmp 40)),
 o 42 (mv 41),
 oF 43 (fa 37 3 7) 42,
 oF 44 (ld 34 43) 42,
 oF 45 (cl 67 #[(t 44)] #[34]) 42,
 oF 46 (.unOp .not 4 (.tmp 45)) 42,
 o 47 (.pick (.tmp 42) (.const (.bool true)) (.tmp 46)),
 o 48 (mv 47),
 oF 49 (fa 37 3 8) 48,
 oF 50 (ld 35 49) 48,
 oF 51 (cl 109 #[(t 50)] #[35]) 48,
 oF 52 (.unOp .not 4 (.tmp 51)) 48,
 o 53 (.pick (.tmp 48) (.const (.bool true)) (.tmp 52))])
(.cond (t 53)
(S (R [o 4 (ab false)])
(.ret [4]))
.skip))
(S (R [o 54 (fa 37 3 9),
 o 55 (ld 3 54),
 o 56 (fa 37 3 8),
 o 57 (ld 35 56),
 o 58 (len 57 35),
 o 59 (cl 59 #[(t 55), (n 0), (t 58)] #[3, 3, 3]),
 o 60 (mv 59),
 oT 61 (fa 37 3 10) 60,
 oT 62 (ld 3 61) 60,
 oT 63 (cl 58 #[(t 62)] #[3]) 60,
 o 64 (.pick (.tmp 60) (.tmp 63) (.const (.bool false))),
 o 65 (mv 64),
 oT 66 (fa 37 3 11) 65,
 oT 67 (ld 3 66) 65,
 oT 68 (cl 58 #[(t 67)] #[3]) 65,
 o 69 (.pick (.tmp 65) (.tmp 68) (.const (.bool false))),
 o 70 (mv 69),
 oT 71 (fa 37 3 12) 70,
 oT 72 (ld 3 71) 70,
 oT 73 (cl 59 #[(t 72), (n 0), (n 5)] #[3, 3, 3]) 70,
 o 74 (.pick (.tmp 70) (.tmp 73) (.const (.bool false))),
 o 75 (mv 74),
 oT 76 (fa 37 3 13) 75,
 oT 77 (ld 3 76) 75,
 oT 78 (cl 95 #[(t 77)] #[3]) 75,
 o 79 (.pick (.tmp 75) (.tmp 78) (.const (.bool false))),
 o 4 (av 79)])
(.ret [4])))))
def g60 : IFn := ⟨80, [.tmp 4], [4], c60, [], false, none⟩
/- 61 veil/veilref1.LabelMay -/
def c61 : IR := (S (R [o 2 (ab false)])
(S (R [o 3 (mv 0),
 o 4 (cl 105 #[(t 3), (n 0), (n 3)] #[3, 3, 3]),
 o 2 (av 4)])
(.ret [2])))
def g61 : IFn := ⟨5, [.tmp 2], [4], c61, [], false, none⟩
/- 62 veil/word.Lock -/
def c62 : IR := (S (R [o 2 (bx 45 0),
 o 4 (al 45),
 o 5 (an 0)])
(S (.block 0 (S (R [o 7 (ld 45 2),
 o 8 (cl 89 #[(t 7)] #[45]),
 o 9 (.unOp .not 4 (.tmp 8)),
 o 10 (mv 9),
 oF 11 (mv 1) 10,
 oF 12 (cl 110 #[(t 11)] #[3]) 10,
 oF 13 (.unOp .not 4 (.tmp 12)) 10,
 o 14 (.pick (.tmp 10) (.const (.bool true)) (.tmp 13)),
 o 6 (av 14)])
(.cond (t 6)
(S (R [o 15 (.build 45 #[]),
 w (st 45 4 15),
 o 5 (an 300)])
(.ret [4, 5]))
(S (R [o 17 (fa 45 2 2),
 o 18 (ld 3 17),
 o 19 (bo .neq (t 18) (n 0)),
 o 16 (av 19)])
(.cond (t 16)
(S (R [o 20 (.build 45 #[]),
 w (st 45 4 20),
 o 5 (an 301)])
(.ret [4, 5]))
.skip)))))
(S (R [o 21 (mv 1),
 o 22 (bo .add (t 21) (n 1)),
 o 23 (fa 45 2 2),
 w (st 3 23 22)])
(S (R [o 24 (ld 45 2),
 w (st 45 4 24),
 o 5 (an 0)])
(.ret [4, 5])))))
def g62 : IFn := ⟨25, [.cell 4 45, .tmp 5], [45, 40], c62, [], false, none⟩
/- 63 veil/undo.Again -/
def c63 : IR := (S (R [z 3 (bx 29 0),
 o 6 (al 29),
 o 7 (an 0)])
(S (S (R [o 10 (mv 1),
 o 11 (cl 84 #[(t 3), (t 10)] #[73, 3]),
 o 12 (.unOp .not 4 (.tmp 11)),
 o 13 (mv 12),
 oF 14 (mv 2) 13,
 oF 15 (bo .neq (t 14) (n 3)) 13,
 oF 16 (mv 15) 13,
 oT 17 (mv 2) 16,
 oT 18 (bo .neq (t 17) (n 5)) 16,
 oF 19 (.pick (.tmp 16) (.tmp 18) (.const (.bool false))) 13,
 o 20 (.pick (.tmp 13) (.const (.bool true)) (.tmp 19))])
(.cond (t 20)
(S (R [o 21 (.build 29 #[]),
 w (st 29 6 21),
 o 7 (an 1300)])
(.ret [6, 7]))
.skip))
(S (R [o 22 (ld 29 3),
 o 23 (cl 43 #[(t 22)] #[29]),
 o 8 (al 29),
 w (st 29 8 23)])
(S (R [o 24 (mv 1),
 o 25 (cl 91 #[(t 8), (t 24)] #[73, 3]),
 o 9 (av 25)])
(S (R [o 26 (mv 9),
 o 27 (mv 9),
 o 28 (mv 9),
 o 29 (.build 25 #[]),
 o 30 (nc 26),
 o 31 (fa 37 30 5),
 w (.store 3 (.tmp 31) (.const (.int .i64 0))),
 o 32 (nc 27),
 o 33 (fa 37 32 6),
 w (st 25 33 29),
 o 34 (nc 28),
 o 35 (fa 37 34 4),
 w (.store 3 (.tmp 35) (.const (.int .i64 0)))])
(S (R [o 36 (mv 9),
 o 37 (mv 9),
 o 38 (nc 37),
 o 39 (fa 37 38 11),
 o 40 (ld 3 39),
 o 41 (bo .add (t 40) (n 1)),
 o 42 (.call { callee := (.builtin .min), args := #[(.tmp 41), (.const (.int .i64 65535))], argTypes := #[3, 3] }),
 o 43 (nc 36),
 o 44 (fa 37 43 11),
 w (st 3 44 42)])
(S (R [o 45 (mv 1),
 o 46 (mv 2),
 o 47 (mv 9),
 o 48 (nc 47),
 o 49 (fa 37 48 11),
 o 50 (ld 3 49),
 o 51 (cl 92 #[(t 8), (t 45), (t 46), (t 50)] #[73, 3, 3, 3])])
(S (R [o 52 (ld 29 8),
 w (st 29 6 52),
 o 7 (an 0)])
(.ret [6, 7])))))))))
def g63 : IFn := ⟨53, [.cell 6 29, .tmp 7], [29, 40], c63, [], false, none⟩
/- 64 veil/veilref11.left -/
def d64_1 : IR := D [o 7 (ld 29 3),
 o 8 (mv 1),
 o 9 (cl 36 #[(t 7), (t 8)] #[29, 3]),
 o 10 (mv 9),
 oT 11 (fa 29 3 3) 10,
 oT 12 (ld 26 11) 10,
 oT 13 (mv 1) 10,
 oT 14 (ia 26 12 13) 10,
 oT 15 (fa 37 14 4) 10,
 oT 16 (ld 3 15) 10,
 oT 17 (mv 2) 10,
 oT 18 (bo .eql (t 16) (t 17)) 10,
 o 19 (.pick (.tmp 10) (.tmp 18) (.const (.bool false))),
 o 20 (mv 19),
 oT 21 (fa 29 3 3) 20,
 oT 22 (ld 26 21) 20,
 oT 23 (mv 1) 20,
 oT 24 (ia 26 22 23) 20,
 oT 25 (fa 37 24 9) 20,
 oT 26 (ld 3 25) 20,
 oT 27 (fa 29 3 3) 20,
 oT 28 (ld 26 27) 20,
 oT 29 (mv 1) 20,
 oT 30 (ia 26 28 29) 20,
 oT 31 (fa 37 30 8) 20,
 oT 32 (ld 35 31) 20,
 oT 33 (len 32 35) 20,
 oT 34 (bo .lss (t 26) (t 33)) 20,
 o 35 (.pick (.tmp 20) (.tmp 34) (.const (.bool false))),
 o 6 (av 35)] [[], [], [0, 1], [2, 2], [3], [4, 3], [3], [5, 6, 3], [7, 3], [8, 3], [3], [9, 10, 3], [3, 11], [12, 3], [13], [14, 13], [13], [15, 16, 13], [17, 13], [18, 13], [13], [20, 13], [13], [21, 22, 13], [23, 13], [24, 13], [25, 13], [19, 26, 13], [13, 27], [28, 13, 0, 1, 2, 3, 4, 5, 6, 7, 8, 9, 10, 11, 12, 13, 14, 15, 16, 17, 18, 19, 20, 21, 22, 23, 24, 25, 26, 27, 28]]
def c64 : IR := (S (R [z 3 (bx 29 0),
 o 6 (ab false)])
(S d64_1
(.ret [6])))
def g64 : IFn := ⟨36, [.tmp 6], [4], c64, [], false, none⟩
/- 65 veil/veilref1.Lock -/
def c65 : IR := (S (R [o 2 (bx 45 0),
 o 4 (al 45),
 o 5 (an 0)])
(S (S (R [o 6 (ld 45 2),
 o 7 (cl 104 #[(t 6)] #[45]),
 o 8 (.unOp .not 4 (.tmp 7)),
 o 9 (mv 8),
 oF 10 (mv 1) 9,
 oF 11 (cl 68 #[(t 10)] #[3]) 9,
 oF 12 (.unOp .not 4 (.tmp 11)) 9,
 o 13 (.pick (.tmp 9) (.const (.bool true)) (.tmp 12))])
(.cond (t 13)
(S (R [o 14 (.build 45 #[]),
 w (st 45 4 14),
 o 5 (an 300)])
(.ret [4, 5]))
.skip))
(S (S (R [o 15 (fa 45 2 2),
 o 16 (ld 3 15),
 o 17 (bo .neq (t 16) (n 0))])
(.cond (t 17)
(S (R [o 18 (.build 45 #[]),
 w (st 45 4 18),
 o 5 (an 301)])
(.ret [4, 5]))
.skip))
(S (R [o 19 (mv 1),
 o 20 (bo .add (t 19) (n 1)),
 o 21 (fa 45 2 2),
 w (st 3 21 20)])
(S (R [o 22 (ld 45 2),
 w (st 45 4 22),
 o 5 (an 0)])
(.ret [4, 5]))))))
def g65 : IFn := ⟨23, [.cell 4 45, .tmp 5], [45, 3], c65, [], false, none⟩
/- 66 veil/veilref11.Again -/
def d66_1 : IR := D [o 41 (fa 29 8 3),
 o 42 (ld 26 41),
 o 43 (mv 1),
 o 44 (fa 29 3 3),
 o 45 (ld 26 44),
 o 46 (mv 1),
 o 47 (ia 26 45 46),
 o 48 (fa 37 47 11),
 o 49 (ld 3 48),
 o 50 (bo .add (t 49) (n 1)),
 o 51 (.call { callee := (.builtin .min), args := #[(.tmp 50), (.const (.int .i64 65535))], argTypes := #[3, 3] }),
 o 52 (ia 26 42 43),
 o 53 (fa 37 52 11),
 w (st 3 53 51)] [[], [0], [], [], [3], [], [4, 5], [6], [7], [8], [9], [1, 2, 0, 1, 2, 3, 4, 5, 6, 7, 8, 9, 10], [11, 0, 1, 2, 3, 4, 5, 6, 7, 8, 9, 10], [12, 10, 0, 1, 2, 3, 4, 5, 6, 7, 8, 9, 10]]
def d66_2 : IR := D [o 54 (ld 29 8),
 o 55 (mv 1),
 o 56 (mv 2),
 o 57 (fa 29 8 3),
 o 58 (ld 26 57),
 o 59 (mv 1),
 o 60 (ia 26 58 59),
 o 61 (fa 37 60 11),
 o 62 (ld 3 61),
 o 63 (cl 82 #[(t 54), (t 55), (t 56), (t 62)] #[29, 3, 3, 3]),
 w (st 29 6 63),
 o 7 (an 0)] [[], [], [], [], [3], [], [4, 5], [6], [7], [0, 1, 2, 8], [9, 9, 0, 1, 2, 3, 4, 5, 6, 7, 8, 9], [10, 0, 1, 2, 3, 4, 5, 6, 7, 8, 9, 10]]
def c66 : IR := (S (R [z 3 (bx 29 0),
 o 6 (al 29),
 o 7 (an 0)])
(S (S (R [o 9 (ld 29 3),
 o 10 (mv 1),
 o 11 (cl 36 #[(t 9), (t 10)] #[29, 3]),
 o 12 (.unOp .not 4 (.tmp 11)),
 o 13 (mv 12),
 oF 14 (mv 2) 13,
 oF 15 (bo .neq (t 14) (n 3)) 13,
 oF 16 (mv 15) 13,
 oT 17 (mv 2) 16,
 oT 18 (bo .neq (t 17) (n 5)) 16,
 oF 19 (.pick (.tmp 16) (.tmp 18) (.const (.bool false))) 13,
 o 20 (.pick (.tmp 13) (.const (.bool true)) (.tmp 19))])
(.cond (t 20)
(S (R [o 21 (.build 29 #[]),
 w (st 29 6 21),
 o 7 (an 1300)])
(.ret [6, 7]))
.skip))
(S (R [o 22 (ld 29 3),
 o 23 (mv 1),
 o 24 (cl 96 #[(t 22), (t 23)] #[29, 3]),
 o 8 (al 29),
 w (st 29 8 24)])
(S (R [o 25 (fa 29 8 3),
 o 26 (ld 26 25),
 o 27 (mv 1),
 o 28 (ia 26 26 27),
 o 29 (fa 37 28 5),
 w (.store 3 (.tmp 29) (.const (.int .i64 0)))])
(S (R [o 30 (fa 29 8 3),
 o 31 (ld 26 30),
 o 32 (mv 1),
 o 33 (.build 25 #[]),
 o 34 (ia 26 31 32),
 o 35 (fa 37 34 6),
 w (st 25 35 33)])
(S (R [o 36 (fa 29 8 3),
 o 37 (ld 26 36),
 o 38 (mv 1),
 o 39 (ia 26 37 38),
 o 40 (fa 37 39 4),
 w (.store 3 (.tmp 40) (.const (.int .i64 0)))])
(S d66_1
(S d66_2
(.ret [6, 7])))))))))
def g66 : IFn := ⟨64, [.cell 6 29, .tmp 7], [29, 3], c66, [], false, none⟩
/- 67 veil/veilref1.ReadsMay -/
def d67_1 : IR := D [o 11 (mv 0),
 o 12 (mv 3),
 o 13 (ia 34 11 12),
 o 14 (fa 105 13 0),
 o 15 (ld 3 14),
 o 16 (mv 0),
 o 17 (mv 3),
 o 18 (ia 34 16 17),
 o 19 (fa 105 18 1),
 o 20 (ld 3 19),
 o 21 (cl 111 #[(t 15), (t 20)] #[3, 3]),
 o 22 (.unOp .not 4 (.tmp 21)),
 o 23 (mv 22),
 oF 24 (mv 0) 23,
 oF 25 (mv 3) 23,
 oF 26 (ia 34 24 25) 23,
 oF 27 (fa 105 26 2) 23,
 oF 28 (ld 3 27) 23,
 oF 29 (cl 58 #[(t 28)] #[3]) 23,
 oF 30 (.unOp .not 4 (.tmp 29)) 23,
 o 31 (.pick (.tmp 23) (.const (.bool true)) (.tmp 30))] [[], [], [0, 1], [2], [3], [], [], [5, 6], [7], [8], [4, 9], [10], [11, 10], [12], [12], [13, 14, 12], [15, 12], [16, 12], [17, 12, 12], [18, 12], [12, 19]]
def d67_2 : IR := D [o 37 (mv 0),
 o 38 (mv 4),
 o 39 (ia 34 37 38),
 o 40 (fa 105 39 0),
 o 41 (ld 3 40),
 o 42 (mv 0),
 o 43 (mv 3),
 o 44 (ia 34 42 43),
 o 45 (fa 105 44 0),
 o 46 (ld 3 45),
 o 47 (bo .eql (t 41) (t 46)),
 o 48 (mv 47),
 oT 49 (mv 0) 48,
 oT 50 (mv 4) 48,
 oT 51 (ia 34 49 50) 48,
 oT 52 (fa 105 51 1) 48,
 oT 53 (ld 3 52) 48,
 oT 54 (mv 0) 48,
 oT 55 (mv 3) 48,
 oT 56 (ia 34 54 55) 48,
 oT 57 (fa 105 56 1) 48,
 oT 58 (ld 3 57) 48,
 oT 59 (bo .eql (t 53) (t 58)) 48,
 o 60 (.pick (.tmp 48) (.tmp 59) (.const (.bool false)))] [[], [], [0, 1], [2], [3], [], [], [5, 6], [7], [8], [4, 9], [10], [11], [11], [12, 13, 11], [14, 11], [15, 11], [11], [11], [17, 18, 11], [19, 11], [20, 11], [16, 21, 11], [11, 22]]
def c67_1 : IR := (S (S (R [o 32 (mv 4),
 o 33 (mv 3),
 o 34 (bo .lss (t 32) (t 33))])
(.cond (t 34)
.skip
(.exit 2 [0, 3])))
(S (.block 3 (S d67_2
(.cond (t 60)
(S (R [o 2 (ab false)])
(.ret [2]))
.skip)))
(R [o 35 (mv 4),
 o 36 (bo .add (t 35) (n 1)),
 o 4 (av 36)])))
def c67_2 : IR := (S (S (R [o 5 (mv 3),
 o 6 (mv 0),
 o 7 (len 6 34),
 o 8 (bo .lss (t 5) (t 7))])
(.cond (t 8)
.skip
(.exit 0 [0])))
(S (.block 1 (S (S d67_1
(.cond (t 31)
(S (R [o 2 (ab false)])
(.ret [2]))
.skip))
(S (R [o 4 (an 0)])
(.block 2 (.loop [0, 3, 4] c67_1)))))
(R [o 9 (mv 3),
 o 10 (bo .add (t 9) (n 1)),
 o 3 (av 10)])))
def c67 : IR := (S (R [o 2 (ab false)])
(S (S (R [o 3 (an 0)])
(.block 0 (.loop [0, 3] c67_2)))
(S (R [o 61 (mv 0),
 o 62 (len 61 34),
 o 63 (bo .leq (t 62) (n 16)),
 o 2 (av 63)])
(.ret [2]))))
def g67 : IFn := ⟨64, [.tmp 2], [4], c67, [], false, none⟩
/- 68 veil/veilref1.IdMay -/
def c68 : IR := (S (R [o 2 (ab false)])
(S (R [o 3 (mv 0),
 o 4 (cl 105 #[(t 3), (n 0), (n 254)] #[3, 3, 3]),
 o 2 (av 4)])
(.ret [2])))
def g68 : IFn := ⟨5, [.tmp 2], [4], c68, [], false, none⟩
/- 69 veil/veilref1.ReadsThere -/
def d69_1 : IR := D [o 12 (ld 24 2),
 o 13 (mv 1),
 o 14 (mv 5),
 o 15 (ia 34 13 14),
 o 16 (fa 105 15 0),
 o 17 (ld 3 16),
 o 18 (mv 1),
 o 19 (mv 5),
 o 20 (ia 34 18 19),
 o 21 (fa 105 20 1),
 o 22 (ld 3 21),
 o 23 (cl 112 #[(t 12), (t 17), (t 22)] #[24, 3, 3]),
 o 24 (.unOp .not 4 (.tmp 23))] [[], [], [], [1, 2], [3], [4], [], [], [6, 7], [8], [9], [0, 5, 10], [11]]
def c69_1 : IR := (S (S (R [o 6 (mv 5),
 o 7 (mv 1),
 o 8 (len 7 34),
 o 9 (bo .lss (t 6) (t 8))])
(.cond (t 9)
.skip
(.exit 0 [])))
(S (.block 1 (S d69_1
(.cond (t 24)
(S (R [o 4 (ab false)])
(.ret [4]))
.skip)))
(R [o 10 (mv 5),
 o 11 (bo .add (t 10) (n 1)),
 o 5 (av 11)])))
def c69 : IR := (S (R [z 2 (bx 24 0),
 o 4 (ab false)])
(S (S (R [o 5 (an 0)])
(.block 0 (.loop [1, 2, 5] c69_1)))
(S (R [o 4 (ab true)])
(.ret [4]))))
def g69 : IFn := ⟨25, [.tmp 4], [4], c69, [], false, none⟩
/- 70 veil/veilref1.NewArena -/
def d70_1 : IR := D [o 32 (mv 5),
 o 33 (mv 5),
 o 34 (ia 24 4 33),
 o 35 (ld 23 34),
 o 36 (mv 5),
 o 37 (ia 64 1 36),
 o 38 (ld 53 37),
 o 39 (mv 6),
 o 40 (ia 53 38 39),
 o 41 (ld 3 40),
 o 42 (.build 45 #[(0, (.tmp 41))]),
 o 43 (.buildSlice 23 1 #[(0, (.tmp 42))]),
 o 44 (.call { callee := (.builtin .append), args := #[(.tmp 35), (.tmp 43)], argTypes := #[23, 23] }),
 o 45 (ia 24 4 32),
 w (st 23 45 44)] [[], [], [1], [2], [], [4], [5], [], [6, 7], [8], [9], [10], [3, 11], [0, 0, 1, 2, 3, 4, 5, 6, 7, 8, 9, 10, 11, 12], [13, 12, 12, 0, 1, 2, 3, 4, 5, 6, 7, 8, 9, 10, 11, 12]]
def c70_1 : IR := (S (S (R [o 11 (mv 6),
 o 12 (mv 5),
 o 13 (ia 64 1 12),
 o 14 (ld 53 13),
 o 15 (len 14 53),
 o 16 (bo .lss (t 11) (t 15))])
(.cond (t 16)
.skip
(.exit 2 [1, 2, 4, 5])))
(S (.block 3 (S (S (R [o 19 (mv 6),
 o 20 (bo .geq (t 19) (n 4)),
 o 21 (mv 20),
 oF 22 (mv 5) 21,
 oF 23 (ia 64 1 22) 21,
 oF 24 (ld 53 23) 21,
 oF 25 (mv 6) 21,
 oF 26 (ia 53 24 25) 21,
 oF 27 (ld 3 26) 21,
 oF 28 (cl 95 #[(t 27)] #[3]) 21,
 oF 29 (.unOp .not 4 (.tmp 28)) 21,
 o 30 (.pick (.tmp 21) (.const (.bool true)) (.tmp 29))])
(.cond (t 30)
(S (R [o 31 (.build 24 #[]),
 w (st 24 2 31),
 o 3 (an 400)])
(.ret [2, 3]))
.skip))
d70_1))
(R [o 17 (mv 6),
 o 18 (bo .add (t 17) (n 1)),
 o 6 (av 18)])))
def c70_2 : IR := (S (S (R [o 7 (mv 5),
 o 8 (bo .lss (t 7) (n 4))])
(.cond (t 8)
.skip
(.exit 0 [2, 4])))
(S (.block 1 (S (R [o 6 (an 0)])
(.block 2 (.loop [1, 2, 4, 5, 6] c70_1))))
(R [o 9 (mv 5),
 o 10 (bo .add (t 9) (n 1)),
 o 5 (av 10)])))
def c70 : IR := (S (R [z 1 (bx 64 0),
 o 2 (al 24),
 o 3 (an 0)])
(S (R [o 4 (al 24)])
(S (S (R [o 5 (an 0)])
(.block 0 (.loop [1, 2, 4, 5] c70_2)))
(S (R [o 46 (ld 24 4),
 w (st 24 2 46),
 o 3 (an 0)])
(.ret [2, 3])))))
def g70 : IFn := ⟨47, [.cell 2 24, .tmp 3], [24, 3], c70, [], false, none⟩
/- 71 veil/veilref11.NewSession -/
def d71_1 : IR := D [o 8 (fa 66 1 0),
 o 9 (ld 3 8),
 o 10 (fa 66 1 1),
 o 11 (ld 3 10),
 o 12 (fa 66 1 2),
 o 13 (ld 3 12),
 o 14 (.buildSlice 33 0 #[]),
 o 15 (fa 66 1 3),
 o 16 (ld 33 15),
 o 17 (.call { callee := (.builtin .append), args := #[(.tmp 14), (.tmp 16)], argTypes := #[33, 33] }),
 o 18 (.build 37 #[(0, (.tmp 9)), (1, (.tmp 11)), (2, (.tmp 13)), (3, (.tmp 17))]),
 w (st 37 2 18),
 o 3 (an 0)] [[], [0], [], [2], [], [4], [], [], [7], [6, 8], [1, 3, 5, 9], [10, 9, 0, 1, 2, 3, 4, 5, 6, 7, 8, 9, 10], [11, 0, 1, 2, 3, 4, 5, 6, 7, 8, 9, 10, 11]]
def c71 : IR := (S (R [z 1 (bx 66 0),
 o 2 (al 37),
 o 3 (an 0)])
(S (S (R [o 4 (ld 66 1),
 o 5 (cl 106 #[(t 4)] #[66]),
 o 6 (.unOp .not 4 (.tmp 5))])
(.cond (t 6)
(S (R [o 7 (.build 37 #[]),
 w (st 37 2 7),
 o 3 (an 1100)])
(.ret [2, 3]))
.skip))
(S d71_1
(.ret [2, 3]))))
def g71 : IFn := ⟨19, [.cell 2 37, .tmp 3], [37, 3], c71, [], false, none⟩
/- 72 veil/veilref1.CopyArena -/
def c72_1 : IR := (S (S (R [o 5 (mv 4),
 o 6 (bo .lss (t 5) (n 4))])
(.cond (t 6)
.skip
(.exit 0 [2, 3])))
(S (.block 1 (R [o 9 (mv 4),
 o 10 (.buildSlice 23 0 #[]),
 o 11 (mv 4),
 o 12 (ia 24 1 11),
 o 13 (ld 23 12),
 o 14 (.call { callee := (.builtin .append), args := #[(.tmp 10), (.tmp 13)], argTypes := #[23, 23] }),
 o 15 (ia 24 3 9),
 w (st 23 15 14)]))
(R [o 7 (mv 4),
 o 8 (bo .add (t 7) (n 1)),
 o 4 (av 8)])))
def c72 : IR := (S (R [z 1 (bx 24 0),
 o 2 (al 24)])
(S (R [o 3 (al 24)])
(S (S (R [o 4 (an 0)])
(.block 0 (.loop [1, 2, 3, 4] c72_1)))
(S (R [o 16 (ld 24 3),
 w (st 24 2 16)])
(.ret [2])))))
def g72 : IFn := ⟨17, [.cell 2 24], [24], c72, [], false, none⟩
/- 73 veil/veilref11.copySession -/
def c73 : IR := (S (R [o 1 (bx 37 0),
 o 2 (al 37)])
(S (R [o 3 (.buildSlice 33 0 #[]),
 o 4 (fa 37 1 3),
 o 5 (ld 33 4),
 o 6 (.call { callee := (.builtin .append), args := #[(.tmp 3), (.tmp 5)], argTypes := #[33, 33] }),
 o 7 (fa 37 1 3),
 w (st 33 7 6)])
(S (R [o 8 (.buildSlice 34 0 #[]),
 o 9 (fa 37 1 7),
 o 10 (ld 34 9),
 o 11 (.call { callee := (.builtin .append), args := #[(.tmp 8), (.tmp 10)], argTypes := #[34, 34] }),
 o 12 (fa 37 1 7),
 w (st 34 12 11)])
(S (R [o 13 (.buildSlice 35 0 #[]),
 o 14 (fa 37 1 8),
 o 15 (ld 35 14),
 o 16 (.call { callee := (.builtin .append), args := #[(.tmp 13), (.tmp 15)], argTypes := #[35, 35] }),
 o 17 (fa 37 1 8),
 w (st 35 17 16)])
(S (R [o 18 (ld 37 1),
 w (st 37 2 18)])
(.ret [2]))))))
def g73 : IFn := ⟨19, [.cell 2 37], [37], c73, [], false, none⟩
/- 74 veil/veilref11.running -/
def c74 : IR := (S (R [z 2 (bx 29 0),
 o 4 (an 0)])
(S (R [o 6 (fa 29 2 3),
 o 7 (ld 26 6),
 o 8 (mv 1),
 o 9 (ia 26 7 8),
 o 10 (ld 37 9),
 o 5 (al 37),
 w (st 37 5 10)])
(S (S (R [o 11 (fa 37 5 4),
 o 12 (ld 3 11),
 o 13 (bo .neq (t 12) (n 0)),
 o 14 (mv 13),
 oF 15 (fa 37 5 5) 14,
 oF 16 (ld 3 15) 14,
 oF 17 (fa 37 5 3) 14,
 oF 18 (ld 33 17) 14,
 oF 19 (len 18 33) 14,
 oF 20 (bo .geq (t 16) (t 19)) 14,
 o 21 (.pick (.tmp 14) (.const (.bool true)) (.tmp 20))])
(.cond (t 21)
(S (R [o 4 (an (-1))])
(.ret [4]))
.skip))
(S (R [o 22 (fa 37 5 3),
 o 23 (ld 33 22),
 o 24 (fa 37 5 5),
 o 25 (ld 3 24),
 o 26 (ia 33 23 25),
 o 27 (fa 32 26 0),
 o 28 (ld 3 27),
 o 4 (av 28)])
(.ret [4])))))
def g74 : IFn := ⟨29, [.tmp 4], [3], c74, [], false, none⟩
/- 75 veil/veilref11.Needs -/
def d75_1 : IR := D [o 22 (fa 37 6 3),
 o 23 (ld 33 22),
 o 24 (fa 37 6 5),
 o 25 (ld 3 24),
 o 26 (ia 33 23 25),
 o 27 (fa 32 26 2),
 o 28 (ld 3 27),
 o 29 (fa 37 6 1),
 o 30 (ld 3 29),
 o 31 (cl 113 #[(t 28), (t 30)] #[3, 3]),
 o 32 (.unOp .not 4 (.tmp 31)),
 o 4 (av 32),
 o 5 (an 0)] [[], [0], [], [2], [1, 3], [4], [5], [], [7], [6, 8], [9], [10, 9, 0, 1, 2, 3, 4, 5, 6, 7, 8, 9, 10], [11, 0, 1, 2, 3, 4, 5, 6, 7, 8, 9, 10, 11]]
def c75 : IR := (S (R [z 2 (bx 29 0),
 o 4 (ab false),
 o 5 (an 0)])
(S (S (R [o 7 (ld 29 2),
 o 8 (mv 1),
 o 9 (cl 36 #[(t 7), (t 8)] #[29, 3]),
 o 10 (.unOp .not 4 (.tmp 9)),
 o 11 (mv 10),
 oF 12 (ld 29 2) 11,
 oF 13 (mv 1) 11,
 oF 14 (cl 74 #[(t 12), (t 13)] #[29, 3]) 11,
 oF 15 (bo .neq (t 14) (n 2)) 11,
 o 16 (.pick (.tmp 11) (.const (.bool true)) (.tmp 15))])
(.cond (t 16)
(S (R [o 4 (ab false),
 o 5 (an 1400)])
(.ret [4, 5]))
.skip))
(S (R [o 17 (fa 29 2 3),
 o 18 (ld 26 17),
 o 19 (mv 1),
 o 20 (ia 26 18 19),
 o 21 (ld 37 20),
 o 6 (al 37),
 w (st 37 6 21)])
(S d75_1
(.ret [4, 5])))))
def g75 : IFn := ⟨33, [.tmp 4, .tmp 5], [4, 3], c75, [], false, none⟩
/- 76 veil/veilref11.Drift -/
def d76_1 : IR := D [o 29 (fa 37 8 1),
 o 30 (ld 3 29),
 o 31 (fa 37 8 3),
 o 32 (ld 33 31),
 o 33 (fa 37 8 5),
 o 34 (ld 3 33),
 o 35 (ia 33 32 34),
 o 36 (fa 32 35 2),
 o 37 (ld 3 36),
 o 38 (bo .or (t 30) (t 37)),
 o 9 (av 38)] [[], [0], [], [2], [], [4], [3, 5], [6], [7], [1, 8], [9, 0, 1, 2, 3, 4, 5, 6, 7, 8, 9]]
def c76 : IR := (S (R [z 2 (bx 29 0),
 o 4 (al 29),
 o 5 (an 0)])
(S (R [o 12 (ld 29 2),
 o 13 (mv 1),
 o 14 (cl 75 #[(t 12), (t 13)] #[29, 3]),
 o 11 (mv 14),
 o 15 (xt 11 0),
 o 16 (xt 11 1),
 o 6 (av 15),
 o 7 (av 16)])
(S (S (R [o 17 (mv 7),
 o 18 (bo .neq (t 17) (n 0)),
 o 19 (mv 18),
 oF 20 (mv 6) 19,
 oF 21 (.unOp .not 4 (.tmp 20)) 19,
 o 22 (.pick (.tmp 19) (.const (.bool true)) (.tmp 21))])
(.cond (t 22)
(S (R [o 23 (.build 29 #[]),
 w (st 29 4 23),
 o 5 (an 1400)])
(.ret [4, 5]))
.skip))
(S (R [o 24 (fa 29 2 3),
 o 25 (ld 26 24),
 o 26 (mv 1),
 o 27 (ia 26 25 26),
 o 28 (ld 37 27),
 o 8 (al 37),
 w (st 37 8 28)])
(S d76_1
(S (S (R [o 39 (mv 9),
 o 40 (fa 37 8 2),
 o 41 (ld 3 40),
 o 42 (cl 113 #[(t 39), (t 41)] #[3, 3]),
 o 43 (.unOp .not 4 (.tmp 42))])
(.cond (t 43)
(S (R [o 44 (ld 29 2),
 o 45 (mv 1),
 o 46 (cl 50 #[(t 44), (t 45), (n 4), (n 0)] #[29, 3, 3, 3]),
 o 47 (xt 46 0),
 o 48 (xt 46 1),
 w (st 29 4 47),
 o 5 (av 48)])
(.ret [4, 5]))
.skip))
(S (R [o 49 (ld 29 2),
 o 50 (cl 37 #[(t 49)] #[29]),
 o 51 (mv 1),
 o 52 (mv 9),
 o 53 (cl 82 #[(t 50), (t 51), (n 2), (t 52)] #[29, 3, 3, 3]),
 o 10 (al 29),
 w (st 29 10 53)])
(S (R [o 54 (fa 29 10 3),
 o 55 (ld 26 54),
 o 56 (mv 1),
 o 57 (mv 9),
 o 58 (ia 26 55 56),
 o 59 (fa 37 58 1),
 w (st 3 59 57)])
(S (R [o 60 (ld 29 10),
 w (st 29 4 60),
 o 5 (an 0)])
(.ret [4, 5]))))))))))
def g76 : IFn := ⟨61, [.cell 4 29, .tmp 5], [29, 3], c76, [], false, none⟩
/- 77 veil/veilref11.Fetch -/
def d77_1 : IR := D [o 55 (fa 32 9 2),
 o 56 (ld 3 55),
 o 57 (fa 29 2 0),
 o 58 (ia 24 57 56),
 o 59 (ld 23 58),
 o 60 (fa 32 9 3),
 o 61 (ld 3 60),
 o 62 (ia 23 59 61),
 o 63 (ld 45 62),
 o 13 (al 45),
 w (st 45 13 63)] [[], [0], [], [2, 1], [3], [], [5], [4, 6], [7], [], [9, 8, 0, 1, 2, 3, 4, 5, 6, 7, 8, 9]]
def d77_2 : IR := D [o 110 (fa 29 12 3),
 o 111 (ld 26 110),
 o 112 (mv 1),
 o 113 (fa 32 9 1),
 o 114 (ld 3 113),
 o 115 (mv 10),
 o 116 (ia 26 111 112),
 o 117 (fa 37 116 6),
 o 118 (ia 25 117 114),
 w (st 3 118 115)] [[], [0], [], [], [3], [], [1, 2], [6], [7, 4, 0, 1, 2, 3, 4, 5], [8, 5, 0, 1, 2, 3, 4, 5]]
def c77 : IR := (S (R [z 2 (bx 29 0),
 o 4 (al 29),
 o 5 (an 0)])
(S (R [o 19 (ld 29 2),
 o 20 (mv 1),
 o 21 (cl 75 #[(t 19), (t 20)] #[29, 3]),
 o 18 (mv 21),
 o 22 (xt 18 0),
 o 23 (xt 18 1),
 o 6 (av 22),
 o 7 (av 23)])
(S (S (R [o 24 (mv 7),
 o 25 (bo .neq (t 24) (n 0)),
 o 26 (mv 25),
 oF 27 (mv 6) 26,
 o 28 (.pick (.tmp 26) (.const (.bool true)) (.tmp 27))])
(.cond (t 28)
(S (R [o 29 (.build 29 #[]),
 w (st 29 4 29),
 o 5 (an 1500)])
(.ret [4, 5]))
.skip))
(S (R [o 30 (fa 29 2 3),
 o 31 (ld 26 30),
 o 32 (mv 1),
 o 33 (ia 26 31 32),
 o 34 (ld 37 33),
 o 8 (al 37),
 w (st 37 8 34)])
(S (R [o 35 (fa 37 8 3),
 o 36 (ld 33 35),
 o 37 (fa 37 8 5),
 o 38 (ld 3 37),
 o 39 (ia 33 36 38),
 o 40 (ld 32 39),
 o 9 (al 32),
 w (st 32 9 40)])
(S (R [o 42 (fa 37 8 8),
 o 43 (ld 35 42),
 o 44 (fa 32 9 2),
 o 45 (ld 3 44),
 o 46 (fa 32 9 3),
 o 47 (ld 3 46),
 o 48 (cl 114 #[(t 43), (t 45), (t 47)] #[35, 3, 3]),
 o 41 (mv 48),
 o 49 (xt 41 0),
 o 50 (xt 41 1),
 o 10 (av 49),
 o 11 (av 50)])
(S (R [o 51 (ld 29 2),
 o 52 (cl 37 #[(t 51)] #[29]),
 o 12 (al 29),
 w (st 29 12 52)])
(S (S (R [o 53 (mv 11),
 o 54 (.unOp .not 4 (.tmp 53))])
(.cond (t 54)
(S d77_1
(S (R [o 65 (fa 29 2 0),
 o 66 (ld 24 65),
 o 67 (fa 37 8 7),
 o 68 (ld 34 67),
 o 69 (fa 37 8 0),
 o 70 (ld 3 69),
 o 71 (cl 34 #[(t 66), (t 68), (t 70)] #[24, 34, 3]),
 o 64 (mv 71),
 o 72 (xt 64 0),
 o 73 (xt 64 1),
 o 14 (av 72),
 o 15 (av 73)])
(S (S (R [o 74 (fa 45 13 2),
 o 75 (ld 3 74),
 o 76 (bo .neq (t 75) (n 0)),
 o 77 (mv 76),
 oF 78 (mv 14) 77,
 oF 79 (.unOp .not 4 (.tmp 78)) 77,
 o 80 (.pick (.tmp 77) (.const (.bool true)) (.tmp 79))])
(.cond (t 80)
(S (R [o 81 (ld 29 2),
 o 82 (mv 1),
 o 83 (cl 66 #[(t 81), (t 82), (n 3)] #[29, 3, 3]),
 o 84 (xt 83 0),
 o 85 (xt 83 1),
 w (st 29 4 84),
 o 5 (av 85)])
(.ret [4, 5]))
.skip))
(S (R [o 87 (fa 37 8 7),
 o 88 (ld 34 87),
 o 89 (fa 32 9 2),
 o 90 (ld 3 89),
 o 91 (fa 32 9 3),
 o 92 (ld 3 91),
 o 93 (fa 45 13 1),
 o 94 (ld 3 93),
 o 95 (.build 105 #[(0, (.tmp 90)), (1, (.tmp 92)), (2, (.tmp 94))]),
 o 96 (cl 115 #[(t 88), (t 95)] #[34, 105]),
 o 86 (mv 96),
 o 97 (xt 86 0),
 o 98 (xt 86 1),
 o 16 (av 97),
 o 17 (av 98)])
(S (S (R [o 99 (mv 17),
 o 100 (bo .neq (t 99) (n 0))])
(.cond (t 100)
(S (R [o 101 (.build 29 #[]),
 w (st 29 4 101),
 o 5 (an 1500)])
(.ret [4, 5]))
.skip))
(S (R [o 102 (fa 29 12 3),
 o 103 (ld 26 102),
 o 104 (mv 1),
 o 105 (mv 16),
 o 106 (ia 26 103 104),
 o 107 (fa 37 106 7),
 w (st 34 107 105)])
(R [o 108 (fa 45 13 0),
 o 109 (ld 3 108),
 o 10 (av 109)])))))))
.skip))
(S d77_2
(S (R [o 119 (fa 29 12 3),
 o 120 (ld 26 119),
 o 121 (mv 1),
 o 122 (ia 26 120 121),
 o 123 (fa 37 122 5),
 o 124 (ld 3 123),
 o 125 (bo .add (t 124) (n 1)),
 o 126 (ia 26 120 121),
 o 127 (fa 37 126 5),
 w (st 3 127 125)])
(S (R [o 128 (ld 29 12),
 o 129 (mv 1),
 o 130 (mv 10),
 o 131 (cl 82 #[(t 128), (t 129), (n 0), (t 130)] #[29, 3, 3, 3]),
 w (st 29 4 131),
 o 5 (an 0)])
(.ret [4, 5]))))))))))))
def g77 : IFn := ⟨132, [.cell 4 29, .tmp 5], [29, 3], c77, [], false, none⟩
/- 78 veil/veilref11.Store -/
def d78_1 : IR := D [o 34 (fa 37 6 8),
 o 35 (ld 35 34),
 o 36 (fa 32 7 2),
 o 37 (ld 3 36),
 o 38 (fa 32 7 3),
 o 39 (ld 3 38),
 o 40 (fa 32 7 1),
 o 41 (ld 3 40),
 o 42 (fa 37 6 6),
 o 43 (ia 25 42 41),
 o 44 (ld 3 43),
 o 45 (.build 60 #[(0, (.tmp 37)), (1, (.tmp 39)), (2, (.tmp 44))]),
 o 46 (cl 116 #[(t 35), (t 45)] #[35, 60]),
 o 33 (mv 46),
 o 47 (xt 33 0),
 o 48 (xt 33 1),
 o 8 (av 47),
 o 9 (av 48)] [[], [0], [], [2], [], [4], [], [6], [], [8, 7], [9], [3, 5, 10], [1, 11], [12], [13], [13], [14, 12, 0, 1, 2, 3, 4, 5, 6, 7, 8, 9, 10, 11, 12, 13, 14], [15, 16, 0, 1, 2, 3, 4, 5, 6, 7, 8, 9, 10, 11, 12, 13, 14, 15, 16]]
def d78_2 : IR := D [o 69 (ld 29 10),
 o 70 (mv 1),
 o 71 (fa 32 7 1),
 o 72 (ld 3 71),
 o 73 (fa 37 6 6),
 o 74 (ia 25 73 72),
 o 75 (ld 3 74),
 o 76 (cl 82 #[(t 69), (t 70), (n 1), (t 75)] #[29, 3, 3, 3]),
 w (st 29 4 76),
 o 5 (an 0)] [[], [], [], [2], [], [4, 3], [5], [0, 1, 6], [7, 7, 0, 1, 2, 3, 4, 5, 6, 7], [8, 0, 1, 2, 3, 4, 5, 6, 7, 8]]
def c78 : IR := (S (R [z 2 (bx 29 0),
 o 4 (al 29),
 o 5 (an 0)])
(S (S (R [o 11 (ld 29 2),
 o 12 (mv 1),
 o 13 (cl 36 #[(t 11), (t 12)] #[29, 3]),
 o 14 (.unOp .not 4 (.tmp 13)),
 o 15 (mv 14),
 oF 16 (ld 29 2) 15,
 oF 17 (mv 1) 15,
 oF 18 (cl 74 #[(t 16), (t 17)] #[29, 3]) 15,
 oF 19 (bo .neq (t 18) (n 3)) 15,
 o 20 (.pick (.tmp 15) (.const (.bool true)) (.tmp 19))])
(.cond (t 20)
(S (R [o 21 (.build 29 #[]),
 w (st 29 4 21),
 o 5 (an 1600)])
(.ret [4, 5]))
.skip))
(S (R [o 22 (fa 29 2 3),
 o 23 (ld 26 22),
 o 24 (mv 1),
 o 25 (ia 26 23 24),
 o 26 (ld 37 25),
 o 6 (al 37),
 w (st 37 6 26)])
(S (R [o 27 (fa 37 6 3),
 o 28 (ld 33 27),
 o 29 (fa 37 6 5),
 o 30 (ld 3 29),
 o 31 (ia 33 28 30),
 o 32 (ld 32 31),
 o 7 (al 32),
 w (st 32 7 32)])
(S d78_1
(S (S (R [o 49 (mv 9),
 o 50 (bo .neq (t 49) (n 0))])
(.cond (t 50)
(S (R [o 51 (.build 29 #[]),
 w (st 29 4 51),
 o 5 (an 1600)])
(.ret [4, 5]))
.skip))
(S (R [o 52 (ld 29 2),
 o 53 (cl 37 #[(t 52)] #[29]),
 o 10 (al 29),
 w (st 29 10 53)])
(S (R [o 54 (fa 29 10 3),
 o 55 (ld 26 54),
 o 56 (mv 1),
 o 57 (mv 8),
 o 58 (ia 26 55 56),
 o 59 (fa 37 58 8),
 w (st 35 59 57)])
(S (R [o 60 (fa 29 10 3),
 o 61 (ld 26 60),
 o 62 (mv 1),
 o 63 (ia 26 61 62),
 o 64 (fa 37 63 5),
 o 65 (ld 3 64),
 o 66 (bo .add (t 65) (n 1)),
 o 67 (ia 26 61 62),
 o 68 (fa 37 67 5),
 w (st 3 68 66)])
(S d78_2
(.ret [4, 5])))))))))))
def g78 : IFn := ⟨77, [.cell 4 29, .tmp 5], [29, 3], c78, [], false, none⟩
/- 79 veil/veilref11.Calc -/
def d79_1 : IR := D [o 22 (fa 37 7 6),
 o 23 (ld 25 22),
 o 24 (fa 37 7 5),
 o 25 (ld 3 24),
 o 26 (bo .add (t 25) (n 1)),
 o 8 (al 25),
 w (st 25 8 23),
 o 9 (av 26)] [[], [0], [], [2], [3], [], [5, 1, 0, 1, 5], [4, 6, 0, 1, 2, 3, 4, 5, 6]]
def d79_2 : IR := D [o 34 (fa 37 7 6),
 o 35 (ld 25 34),
 o 36 (fa 37 7 3),
 o 37 (ld 33 36),
 o 38 (fa 37 7 5),
 o 39 (ld 3 38),
 o 40 (ia 33 37 39),
 o 41 (fa 32 40 1),
 o 42 (ld 3 41),
 o 43 (fa 37 7 3),
 o 44 (ld 33 43),
 o 45 (fa 37 7 5),
 o 46 (ld 3 45),
 o 47 (ia 33 44 46),
 o 48 (fa 32 47 2),
 o 49 (ld 3 48),
 o 50 (cl 117 #[(t 35), (t 42), (t 49)] #[25, 3, 3]),
 o 33 (mv 50),
 o 51 (xt 33 0),
 o 52 (xt 33 1),
 w (st 25 8 51)] [[], [0], [], [2], [], [4], [3, 5], [6], [7], [], [9], [], [11], [10, 12], [13], [14], [1, 8, 15], [16], [17], [17], [18, 16, 0, 1, 2, 3, 4, 5, 6, 7, 8, 9, 10, 11, 12, 13, 14, 15, 16, 17, 18]]
def d79_3 : IR := D [o 56 (fa 37 7 6),
 o 57 (ld 25 56),
 o 58 (fa 37 7 3),
 o 59 (ld 33 58),
 o 60 (fa 37 7 5),
 o 61 (ld 3 60),
 o 62 (ia 33 59 61),
 o 63 (fa 32 62 1),
 o 64 (ld 3 63),
 o 65 (fa 37 7 3),
 o 66 (ld 33 65),
 o 67 (fa 37 7 5),
 o 68 (ld 3 67),
 o 69 (ia 33 66 68),
 o 70 (fa 32 69 2),
 o 71 (ld 3 70),
 o 72 (cl 118 #[(t 57), (t 64), (t 71)] #[25, 3, 3]),
 o 55 (mv 72),
 o 73 (xt 55 0),
 o 74 (xt 55 1),
 w (st 25 8 73)] [[], [0], [], [2], [], [4], [3, 5], [6], [7], [], [9], [], [11], [10, 12], [13], [14], [1, 8, 15], [16], [17], [17], [18, 16, 0, 1, 2, 3, 4, 5, 6, 7, 8, 9, 10, 11, 12, 13, 14, 15, 16, 17, 18]]
def c79 : IR := (S (R [z 2 (bx 29 0),
 o 4 (al 29),
 o 5 (an 0)])
(S (S (R [o 10 (ld 29 2),
 o 11 (mv 1),
 o 12 (cl 36 #[(t 10), (t 11)] #[29, 3]),
 o 13 (.unOp .not 4 (.tmp 12))])
(.cond (t 13)
(S (R [o 14 (.build 29 #[]),
 w (st 29 4 14),
 o 5 (an 1700)])
(.ret [4, 5]))
.skip))
(S (R [o 15 (ld 29 2),
 o 16 (cl 37 #[(t 15)] #[29]),
 o 6 (al 29),
 w (st 29 6 16)])
(S (R [o 17 (fa 29 2 3),
 o 18 (ld 26 17),
 o 19 (mv 1),
 o 20 (ia 26 18 19),
 o 21 (ld 37 20),
 o 7 (al 37),
 w (st 37 7 21)])
(S d79_1
(S (S (R [o 27 (ld 29 2),
 o 28 (mv 1),
 o 29 (cl 74 #[(t 27), (t 28)] #[29, 3])])
(.block 0 (S (R [o 32 (bo .eql (t 29) (n 0)),
 o 31 (av 32)])
(.cond (t 31)
d79_2
(S (R [o 54 (bo .eql (t 29) (n 1)),
 o 53 (av 54)])
(.cond (t 53)
d79_3
(S (R [o 76 (bo .eql (t 29) (n 4)),
 o 75 (av 76)])
(.cond (t 75)
(S (R [o 77 (fa 37 7 3),
 o 78 (ld 33 77),
 o 79 (fa 37 7 5),
 o 80 (ld 3 79),
 o 81 (ia 33 78 80),
 o 82 (fa 32 81 1),
 o 83 (ld 3 82),
 o 84 (fa 37 7 6),
 o 85 (ia 25 84 83),
 o 86 (ld 3 85),
 o 87 (bo .eql (t 86) (n 0))])
(.cond (t 87)
(R [o 88 (fa 37 7 3),
 o 89 (ld 33 88),
 o 90 (fa 37 7 5),
 o 91 (ld 3 90),
 o 92 (ia 33 89 91),
 o 93 (fa 32 92 2),
 o 94 (ld 3 93),
 o 9 (av 94)])
.skip))
(S (R [o 30 (.build 29 #[]),
 w (st 29 4 30),
 o 5 (an 1700)])
(.ret [4, 5]))))))))))
(S (R [o 95 (fa 29 6 3),
 o 96 (ld 26 95),
 o 97 (mv 1),
 o 98 (ld 25 8),
 o 99 (ia 26 96 97),
 o 100 (fa 37 99 6),
 w (st 25 100 98)])
(S (R [o 101 (fa 29 6 3),
 o 102 (ld 26 101),
 o 103 (mv 1),
 o 104 (mv 9),
 o 105 (ia 26 102 103),
 o 106 (fa 37 105 5),
 w (st 3 106 104)])
(S (R [o 107 (ld 29 6),
 w (st 29 4 107),
 o 5 (an 0)])
(.ret [4, 5]))))))))))
def g79 : IFn := ⟨108, [.cell 4 29, .tmp 5], [29, 3], c79, [], false, none⟩
/- 80 veil/veilref1.WritesAt -/
def c80_1 : IR := (S (S (R [o 6 (mv 5),
 o 7 (mv 0),
 o 8 (len 7 35),
 o 9 (bo .lss (t 6) (t 8))])
(.cond (t 9)
.skip
(.exit 0 [0])))
(S (.block 1 (S (R [o 12 (mv 0),
 o 13 (mv 5),
 o 14 (ia 35 12 13),
 o 15 (fa 60 14 0),
 o 16 (ld 3 15),
 o 17 (mv 1),
 o 18 (bo .neq (t 16) (t 17))])
(.cond (t 18)
(S (R [o 4 (ab false)])
(.ret [4]))
.skip)))
(R [o 10 (mv 5),
 o 11 (bo .add (t 10) (n 1)),
 o 5 (av 11)])))
def c80 : IR := (S (R [o 4 (ab false)])
(S (S (R [o 5 (an 0)])
(.block 0 (.loop [0, 1, 5] c80_1)))
(S (R [o 19 (mv 0),
 o 20 (cl 109 #[(t 19)] #[35]),
 o 4 (av 20)])
(.ret [4]))))
def g80 : IFn := ⟨21, [.tmp 4], [4], c80, [], false, none⟩
/- 81 veil/veilref1.Write -/
def c81 : IR := (S (R [z 3 (bx 45 0),
 o 6 (al 45),
 o 7 (an 0)])
(S (R [o 9 (mv 1),
 o 10 (mv 2),
 o 11 (.build 45 #[(0, (.tmp 9)), (1, (.tmp 10))]),
 o 8 (al 45),
 w (st 45 8 11)])
(S (S (R [o 12 (ld 45 3),
 o 13 (cl 104 #[(t 12)] #[45]),
 o 14 (.unOp .not 4 (.tmp 13)),
 o 15 (mv 14),
 oF 16 (ld 45 8) 15,
 oF 17 (cl 104 #[(t 16)] #[45]) 15,
 oF 18 (.unOp .not 4 (.tmp 17)) 15,
 o 19 (.pick (.tmp 15) (.const (.bool true)) (.tmp 18))])
(.cond (t 19)
(S (R [o 20 (.build 45 #[]),
 w (st 45 6 20),
 o 7 (an 300)])
(.ret [6, 7]))
.skip))
(S (R [o 21 (ld 45 8),
 w (st 45 6 21),
 o 7 (an 0)])
(.ret [6, 7])))))
def g81 : IFn := ⟨22, [.cell 6 45, .tmp 7], [45, 3], c81, [], false, none⟩
/- 82 veil/veilref11.tell -/
def d82_1 : IR := D [o 13 (fa 29 4 4),
 o 14 (ld 27 13),
 o 15 (fa 29 4 3),
 o 16 (ld 26 15),
 o 17 (mv 1),
 o 18 (ia 26 16 17),
 o 19 (fa 37 18 0),
 o 20 (ld 3 19),
 o 21 (fa 29 4 3),
 o 22 (ld 26 21),
 o 23 (mv 1),
 o 24 (ia 26 22 23),
 o 25 (fa 37 24 1),
 o 26 (ld 3 25),
 o 27 (mv 2),
 o 28 (mv 3),
 o 29 (.build 92 #[(0, (.tmp 20)), (1, (.tmp 26)), (2, (.tmp 27)), (3, (.tmp 28))]),
 o 30 (.buildSlice 27 1 #[(0, (.tmp 29))]),
 o 31 (.call { callee := (.builtin .append), args := #[(.tmp 14), (.tmp 30)], argTypes := #[27, 27] }),
 o 32 (fa 29 4 4),
 w (st 27 32 31)] [[], [0], [], [2], [], [3, 4], [5], [6], [], [8], [], [9, 10], [11], [12], [], [], [7, 13, 14, 15], [16], [1, 17], [0, 1, 2, 3, 4, 5, 6, 7, 8, 9, 10, 11, 12, 13, 14, 15, 16, 17, 18], [19, 18, 18, 0, 1, 2, 3, 4, 5, 6, 7, 8, 9, 10, 11, 12, 13, 14, 15, 16, 17, 18]]
def c82 : IR := (S (R [o 4 (bx 29 0),
 o 8 (al 29)])
(S (S (R [o 9 (fa 29 4 4),
 o 10 (ld 27 9),
 o 11 (len 10 27),
 o 12 (bo .lss (t 11) (n 512))])
(.cond (t 12)
d82_1
.skip))
(S (R [o 33 (ld 29 4),
 w (st 29 8 33)])
(.ret [8]))))
def g82 : IFn := ⟨34, [.cell 8 29], [29], c82, [true], false, none⟩
/- 83 veil/veilref1.Changed -/
def d83_1 : IR := D [o 27 (mv 1),
 o 28 (mv 6),
 o 29 (ia 34 27 28),
 o 30 (fa 105 29 0),
 o 31 (ld 3 30),
 o 32 (ia 24 2 31),
 o 33 (ld 23 32),
 o 34 (mv 1),
 o 35 (mv 6),
 o 36 (ia 34 34 35),
 o 37 (fa 105 36 1),
 o 38 (ld 3 37),
 o 39 (ia 23 33 38),
 o 40 (fa 45 39 1),
 o 41 (ld 3 40),
 o 42 (mv 1),
 o 43 (mv 6),
 o 44 (ia 34 42 43),
 o 45 (fa 105 44 2),
 o 46 (ld 3 45),
 o 47 (bo .neq (t 41) (t 46))] [[], [], [0, 1], [2], [3], [4], [5], [], [], [7, 8], [9], [10], [6, 11], [12], [13], [], [], [15, 16], [17], [18], [14, 19]]
def c83_1 : IR := (S (S (R [o 21 (mv 6),
 o 22 (mv 1),
 o 23 (len 22 34),
 o 24 (bo .lss (t 21) (t 23))])
(.cond (t 24)
.skip
(.exit 0 [])))
(S (.block 1 (S d83_1
(.cond (t 47)
(S (R [o 4 (ab true),
 o 5 (an 0)])
(.ret [4, 5]))
.skip)))
(R [o 25 (mv 6),
 o 26 (bo .add (t 25) (n 1)),
 o 6 (av 26)])))
def c83 : IR := (S (R [z 2 (bx 24 0),
 o 4 (ab false),
 o 5 (an 0)])
(S (S (R [o 7 (ld 24 2),
 o 8 (cl 57 #[(t 7)] #[24]),
 o 9 (.unOp .not 4 (.tmp 8)),
 o 10 (mv 9),
 oF 11 (mv 1) 10,
 oF 12 (cl 67 #[(t 11)] #[34]) 10,
 oF 13 (.unOp .not 4 (.tmp 12)) 10,
 o 14 (.pick (.tmp 10) (.const (.bool true)) (.tmp 13)),
 o 15 (mv 14),
 oF 16 (ld 24 2) 15,
 oF 17 (mv 1) 15,
 oF 18 (cl 69 #[(t 16), (t 17)] #[24, 34]) 15,
 oF 19 (.unOp .not 4 (.tmp 18)) 15,
 o 20 (.pick (.tmp 15) (.const (.bool true)) (.tmp 19))])
(.cond (t 20)
(S (R [o 4 (ab false),
 o 5 (an 900)])
(.ret [4, 5]))
.skip))
(S (S (R [o 6 (an 0)])
(.block 0 (.loop [1, 2, 6] c83_1)))
(S (R [o 4 (ab false),
 o 5 (an 0)])
(.ret [4, 5])))))
def g83 : IFn := ⟨48, [.tmp 4, .tmp 5], [4, 3], c83, [], false, none⟩
/- 84 veil/mach.There -/
def c84 : IR := (S (R [o 4 (ab false)])
(S (R [o 5 (mv 0),
 o 6 (nc 5),
 o 7 (ld 29 6),
 o 8 (cl 119 #[(t 7)] #[29]),
 o 9 (mv 8),
 oT 10 (mv 1) 9,
 oT 11 (bo .geq (t 10) (n 0)) 9,
 o 12 (.pick (.tmp 9) (.tmp 11) (.const (.bool false))),
 o 13 (mv 12),
 oT 14 (mv 1) 13,
 oT 15 (mv 0) 13,
 oT 16 (nc 15) 13,
 oT 17 (fa 29 16 3) 13,
 oT 18 (ld 26 17) 13,
 oT 19 (len 18 26) 13,
 oT 20 (bo .lss (t 14) (t 19)) 13,
 o 21 (.pick (.tmp 13) (.tmp 20) (.const (.bool false))),
 o 4 (av 21)])
(.ret [4])))
def g84 : IFn := ⟨22, [.tmp 4], [4], c84, [], false, none⟩
/- 85 veil/arena.Copy -/
def c85_1 : IR := (S (R [o 5 (bo .lss (t 4) (n 4))])
(S (.cond (t 5)
.skip
(.exit 0 [1, 2]))
(S (.block 1 (S (R [o 6 (mv 4),
 o 3 (av 6)])
(R [o 7 (mv 3),
 o 8 (mv 3),
 o 9 (ia 24 1 8),
 o 10 (ld 23 9),
 o 11 (cl 120 #[(t 10)] #[23]),
 o 12 (ia 24 1 7),
 w (st 23 12 11)])))
(R [o 13 (bo .add (t 4) (n 1)),
 o 4 (mv 13)]))))
def c85 : IR := (S (R [o 1 (bx 24 0),
 o 2 (al 24)])
(S (S (R [o 4 (.move (.const (.int .i64 0)))])
(.block 0 (.loop [1, 2, 4] c85_1)))
(S (R [o 14 (ld 24 1),
 w (st 24 2 14)])
(.ret [2]))))
def g85 : IFn := ⟨15, [.cell 2 24], [24], c85, [], false, none⟩
/- 86 slices.Clone[[]veil/api.Session,veil/api.Session] -/
def c86 : IR := (S (R [o 2 (.assign (.const (.slice none 0 0)))])
(S (S (R [o 3 (mv 0),
 o 4 (.binOp .eql 26 (.tmp 3) (.const (.slice none 0 0)) 26)])
(.cond (t 4)
(S (R [o 2 (.assign (.const (.slice none 0 0)))])
(.ret [2]))
.skip))
(S (R [o 5 (.buildSlice 26 0 #[]),
 o 6 (mv 0),
 o 7 (.call { callee := (.builtin .append), args := #[(.tmp 5), (.tmp 6)], argTypes := #[26, 26] }),
 o 2 (av 7)])
(.ret [2]))))
def g86 : IFn := ⟨8, [.tmp 2], [26], c86, [], false, some (17, 184)⟩
/- 87 slices.Clone[[]veil/api.Event,veil/api.Event] -/
def c87 : IR := (S (R [o 2 (.assign (.const (.slice none 0 0)))])
(S (S (R [o 3 (mv 0),
 o 4 (.binOp .eql 27 (.tmp 3) (.const (.slice none 0 0)) 27)])
(.cond (t 4)
(S (R [o 2 (.assign (.const (.slice none 0 0)))])
(.ret [2]))
.skip))
(S (R [o 5 (.buildSlice 27 0 #[]),
 o 6 (mv 0),
 o 7 (.call { callee := (.builtin .append), args := #[(.tmp 5), (.tmp 6)], argTypes := #[27, 27] }),
 o 2 (av 7)])
(.ret [2]))))
def g87 : IFn := ⟨8, [.tmp 2], [27], c87, [], false, some (4, 32)⟩
/- 88 veil/mach.session -/
def d88_1 : IR := D [o 3 (fa 37 1 3),
 o 4 (ld 33 3),
 o 5 (cl 121 #[(t 4)] #[33]),
 o 6 (fa 37 1 7),
 o 7 (ld 34 6),
 o 8 (cl 122 #[(t 7)] #[34]),
 o 9 (fa 37 1 8),
 o 10 (ld 35 9),
 o 11 (cl 123 #[(t 10)] #[35]),
 o 12 (fa 37 1 3),
 w (st 33 12 5),
 o 13 (fa 37 1 7),
 w (st 34 13 8),
 o 14 (fa 37 1 8),
 w (st 35 14 11)] [[], [0], [1], [], [3], [4, 2], [], [6], [7, 5], [0, 1, 2, 3, 4, 6, 7], [9, 2, 8, 0, 1, 2, 3, 4, 6, 7], [0, 1, 2, 3, 4, 5, 6, 7, 9, 10], [11, 5, 10, 0, 1, 2, 3, 4, 5, 6, 7, 9, 10], [0, 1, 2, 3, 4, 5, 6, 7, 8, 9, 10, 11, 12], [13, 8, 12, 0, 1, 2, 3, 4, 5, 6, 7, 8, 9, 10, 11, 12]]
def c88 : IR := (S (R [o 1 (bx 37 0),
 o 2 (al 37)])
(S d88_1
(S (R [o 15 (ld 37 1),
 w (st 37 2 15)])
(.ret [2]))))
def g88 : IFn := ⟨16, [.cell 2 37], [37], c88, [], false, none⟩
/- 89 veil/word.May -/
def c89 : IR := (S (R [z 1 (bx 45 0),
 o 2 (ab false)])
(S (R [o 3 (fa 45 1 0),
 o 4 (ld 3 3),
 o 5 (cl 90 #[(t 4)] #[3]),
 o 6 (mv 5),
 oT 7 (fa 45 1 1) 6,
 oT 8 (ld 3 7) 6,
 oT 9 (cl 124 #[(t 8)] #[3]) 6,
 o 10 (.pick (.tmp 6) (.tmp 9) (.const (.bool false))),
 o 11 (mv 10),
 oT 12 (fa 45 1 2) 11,
 oT 13 (ld 3 12) 11,
 oT 14 (cl 125 #[(t 13), (n 255)] #[3, 3]) 11,
 o 15 (.pick (.tmp 11) (.tmp 14) (.const (.bool false))),
 o 2 (av 15)])
(.ret [2])))
def g89 : IFn := ⟨16, [.tmp 2], [4], c89, [], false, none⟩
/- 90 veil/word.Value -/
def c90 : IR := (S (R [o 2 (ab false)])
(S (R [o 3 (mv 0),
 o 4 (cl 125 #[(t 3), (n 255)] #[3, 3]),
 o 2 (av 4)])
(.ret [2])))
def g90 : IFn := ⟨5, [.tmp 2], [4], c90, [], false, none⟩
/- 91 veil/undo.drop -/
def c91 : IR := (S (R [o 4 (.assign (.const (.pointer none)))])
(S (R [o 6 (mv 0),
 o 7 (nc 6),
 o 8 (fa 29 7 3),
 o 9 (ld 26 8),
 o 10 (mv 1),
 o 11 (ia 26 9 10),
 o 5 (av 11)])
(S (R [o 12 (mv 0),
 o 13 (mv 5),
 o 14 (nc 13),
 o 15 (fa 37 14 0),
 o 16 (ld 3 15),
 o 17 (cl 126 #[(t 12), (t 16)] #[73, 3])])
(S (R [o 18 (mv 5),
 o 19 (mv 5),
 o 20 (mv 5),
 o 21 (mv 5),
 o 22 (nc 18),
 o 23 (fa 37 22 7),
 w (.store 34 (.tmp 23) (.const (.slice none 0 0))),
 o 24 (nc 19),
 o 25 (fa 37 24 8),
 w (.store 35 (.tmp 25) (.const (.slice none 0 0))),
 o 26 (nc 20),
 o 27 (fa 37 26 9),
 w (.store 3 (.tmp 27) (.const (.int .i64 0))),
 o 28 (nc 21),
 o 29 (fa 37 28 10),
 w (.store 3 (.tmp 29) (.const (.int .i64 0)))])
(S (R [o 30 (mv 5),
 o 4 (av 30)])
(.ret [4]))))))
def g91 : IFn := ⟨31, [.tmp 4], [74], c91, [], true, none⟩
/- 92 veil/mach.Note -/
def d92_1 : IR := D [o 21 (mv 0),
 o 22 (mv 0),
 o 23 (nc 22),
 o 24 (fa 29 23 4),
 o 25 (ld 27 24),
 o 26 (mv 8),
 o 27 (nc 26),
 o 28 (fa 37 27 0),
 o 29 (ld 3 28),
 o 30 (mv 8),
 o 31 (nc 30),
 o 32 (fa 37 31 1),
 o 33 (ld 3 32),
 o 34 (mv 2),
 o 35 (mv 3),
 o 36 (.build 92 #[(0, (.tmp 29)), (1, (.tmp 33)), (2, (.tmp 34)), (3, (.tmp 35))]),
 o 37 (.buildSlice 27 1 #[(0, (.tmp 36))]),
 o 38 (.call { callee := (.builtin .append), args := #[(.tmp 25), (.tmp 37)], argTypes := #[27, 27] }),
 o 39 (nc 21),
 o 40 (fa 29 39 4),
 w (st 27 40 38)] [[], [], [1], [2], [3], [], [5], [6], [7], [], [9], [10], [11], [], [], [8, 12, 13, 14], [15], [4, 16], [0, 0, 1, 2, 3, 4, 5, 6, 7, 8, 9, 10, 11, 12, 13, 14, 15, 16, 17], [18, 0, 1, 2, 3, 4, 5, 6, 7, 8, 9, 10, 11, 12, 13, 14, 15, 16, 17], [19, 17, 17, 0, 1, 2, 3, 4, 5, 6, 7, 8, 9, 10, 11, 12, 13, 14, 15, 16, 17]]
def c92 : IR := (S (R [o 9 (mv 0),
 o 10 (nc 9),
 o 11 (fa 29 10 4),
 o 12 (ld 27 11),
 o 13 (len 12 27),
 o 14 (bo .lss (t 13) (n 512))])
(.cond (t 14)
(S (R [o 15 (mv 0),
 o 16 (nc 15),
 o 17 (fa 29 16 3),
 o 18 (ld 26 17),
 o 19 (mv 1),
 o 20 (ia 26 18 19),
 o 8 (av 20)])
d92_1)
.skip))
def g92 : IFn := ⟨41, [], [], c92, [], true, none⟩
/- 93 veil/clock.May -/
def c93_1 : IR := (S (R [o 9 (bo .lss (t 8) (n 4))])
(S (.cond (t 9)
.skip
(.exit 0 [1]))
(S (.block 1 (S (R [o 10 (nc 7),
 o 11 (ia 25 10 8),
 o 12 (ld 3 11),
 o 6 (av 12)])
(S (R [o 13 (mv 6),
 o 14 (cl 124 #[(t 13)] #[3]),
 o 15 (.unOp .not 4 (.tmp 14))])
(.cond (t 15)
(S (R [o 4 (ab false)])
(.ret [4]))
.skip))))
(R [o 16 (bo .add (t 8) (n 1)),
 o 8 (mv 16)]))))
def c93 : IR := (S (R [o 4 (ab false)])
(S (S (R [o 7 (mv 0),
 o 8 (.move (.const (.int .i64 0)))])
(.block 0 (.loop [1, 7, 8] c93_1)))
(S (R [o 17 (mv 1),
 o 18 (cl 124 #[(t 17)] #[3]),
 o 4 (av 18)])
(.ret [4]))))
def g93 : IFn := ⟨19, [.tmp 4], [4], c93, [], false, none⟩
/- 94 veil/label.May -/
def c94 : IR := (S (R [o 2 (ab false)])
(S (R [o 3 (mv 0),
 o 4 (bo .geq (t 3) (n 0)),
 o 5 (mv 4),
 oT 6 (mv 0) 5,
 oT 7 (bo .lss (t 6) (n 4)) 5,
 o 8 (.pick (.tmp 5) (.tmp 7) (.const (.bool false))),
 o 2 (av 8)])
(.ret [2])))
def g94 : IFn := ⟨9, [.tmp 2], [4], c94, [], false, none⟩
/- 95 veil/veilref1.ValueMay -/
def c95 : IR := (S (R [o 2 (ab false)])
(S (R [o 3 (mv 0),
 o 4 (cl 105 #[(t 3), (n 0), (n 255)] #[3, 3, 3]),
 o 2 (av 4)])
(.ret [2])))
def g95 : IFn := ⟨5, [.tmp 2], [4], c95, [], false, none⟩
/- 96 veil/veilref11.loose -/
def c96_1 : IR := (S (S (R [o 21 (mv 8),
 o 22 (mv 7),
 o 23 (fa 29 5 0),
 o 24 (ia 24 23 22),
 o 25 (ld 23 24),
 o 26 (len 25 23),
 o 27 (bo .lss (t 21) (t 26))])
(.cond (t 27)
.skip
(.exit 2 [1, 4, 5, 6, 7])))
(S (.block 3 (S (R [o 30 (mv 7),
 o 31 (fa 29 5 0),
 o 32 (ia 24 31 30),
 o 33 (ld 23 32),
 o 34 (mv 8),
 o 35 (ia 23 33 34),
 o 36 (fa 45 35 2),
 o 37 (ld 3 36),
 o 38 (mv 6),
 o 39 (bo .add (t 38) (n 1)),
 o 40 (bo .eql (t 37) (t 39))])
(.cond (t 40)
(R [o 41 (mv 7),
 o 42 (fa 29 5 0),
 o 43 (ia 24 42 41),
 o 44 (ld 23 43),
 o 45 (mv 8),
 o 46 (ia 23 44 45),
 o 47 (fa 45 46 2),
 w (.store 3 (.tmp 47) (.const (.int .i64 0)))])
.skip)))
(R [o 28 (mv 8),
 o 29 (bo .add (t 28) (n 1)),
 o 8 (av 29)])))
def c96_2 : IR := (S (S (R [o 17 (mv 7),
 o 18 (bo .lss (t 17) (n 4))])
(.cond (t 18)
.skip
(.exit 0 [1, 4, 5])))
(S (.block 1 (S (R [o 8 (an 0)])
(.block 2 (.loop [1, 4, 5, 6, 7, 8] c96_1))))
(R [o 19 (mv 7),
 o 20 (bo .add (t 19) (n 1)),
 o 7 (av 20)])))
def c96 : IR := (S (R [z 2 (bx 29 0),
 o 4 (al 29)])
(S (R [o 9 (ld 29 2),
 o 10 (cl 37 #[(t 9)] #[29]),
 o 5 (al 29),
 w (st 29 5 10)])
(S (R [o 11 (fa 29 2 3),
 o 12 (ld 26 11),
 o 13 (mv 1),
 o 14 (ia 26 12 13),
 o 15 (fa 37 14 0),
 o 16 (ld 3 15),
 o 6 (av 16)])
(S (S (R [o 7 (an 0)])
(.block 0 (.loop [1, 4, 5, 6, 7] c96_2)))
(S (R [o 48 (fa 29 5 3),
 o 49 (ld 26 48),
 o 50 (mv 1),
 o 51 (ia 26 49 50),
 o 52 (fa 37 51 7),
 w (.store 34 (.tmp 52) (.const (.slice none 0 0)))])
(S (R [o 53 (fa 29 5 3),
 o 54 (ld 26 53),
 o 55 (mv 1),
 o 56 (ia 26 54 55),
 o 57 (fa 37 56 8),
 w (.store 35 (.tmp 57) (.const (.slice none 0 0)))])
(S (R [o 58 (fa 29 5 3),
 o 59 (ld 26 58),
 o 60 (mv 1),
 o 61 (ia 26 59 60),
 o 62 (fa 37 61 9),
 w (.store 3 (.tmp 62) (.const (.int .i64 0)))])
(S (R [o 63 (fa 29 5 3),
 o 64 (ld 26 63),
 o 65 (mv 1),
 o 66 (ia 26 64 65),
 o 67 (fa 37 66 10),
 w (.store 3 (.tmp 67) (.const (.int .i64 0)))])
(S (R [o 68 (ld 29 5),
 w (st 29 4 68)])
(.ret [4]))))))))))
def g96 : IFn := ⟨69, [.cell 4 29], [29], c96, [], false, none⟩
/- 97 veil/veillaw0.SameInsts -/
def d97_1 : IR := D [o 17 (mv 0),
 o 18 (mv 5),
 o 19 (ia 33 17 18),
 o 20 (ld 32 19),
 o 21 (mv 1),
 o 22 (mv 5),
 o 23 (ia 33 21 22),
 o 24 (ld 32 23),
 o 25 (.binOp .neq 32 (.tmp 20) (.tmp 24) 32)] [[], [], [0, 1], [2], [], [], [4, 5], [6], [3, 7]]
def c97_1 : IR := (S (S (R [o 11 (mv 5),
 o 12 (mv 0),
 o 13 (len 12 33),
 o 14 (bo .lss (t 11) (t 13))])
(.cond (t 14)
.skip
(.exit 0 [])))
(S (.block 1 (S d97_1
(.cond (t 25)
(S (R [o 4 (ab false)])
(.ret [4]))
.skip)))
(R [o 15 (mv 5),
 o 16 (bo .add (t 15) (n 1)),
 o 5 (av 16)])))
def c97 : IR := (S (R [o 4 (ab false)])
(S (S (R [o 6 (mv 0),
 o 7 (len 6 33),
 o 8 (mv 1),
 o 9 (len 8 33),
 o 10 (bo .neq (t 7) (t 9))])
(.cond (t 10)
(S (R [o 4 (ab false)])
(.ret [4]))
.skip))
(S (S (R [o 5 (an 0)])
(.block 0 (.loop [0, 1, 5] c97_1)))
(S (R [o 4 (ab true)])
(.ret [4])))))
def g97 : IFn := ⟨26, [.tmp 4], [4], c97, [], false, none⟩
/- 98 veil/veillaw0.SameReads -/
def d98_1 : IR := D [o 17 (mv 0),
 o 18 (mv 5),
 o 19 (ia 34 17 18),
 o 20 (ld 105 19),
 o 21 (mv 1),
 o 22 (mv 5),
 o 23 (ia 34 21 22),
 o 24 (ld 105 23),
 o 25 (.binOp .neq 105 (.tmp 20) (.tmp 24) 105)] [[], [], [0, 1], [2], [], [], [4, 5], [6], [3, 7]]
def c98_1 : IR := (S (S (R [o 11 (mv 5),
 o 12 (mv 0),
 o 13 (len 12 34),
 o 14 (bo .lss (t 11) (t 13))])
(.cond (t 14)
.skip
(.exit 0 [])))
(S (.block 1 (S d98_1
(.cond (t 25)
(S (R [o 4 (ab false)])
(.ret [4]))
.skip)))
(R [o 15 (mv 5),
 o 16 (bo .add (t 15) (n 1)),
 o 5 (av 16)])))
def c98 : IR := (S (R [o 4 (ab false)])
(S (S (R [o 6 (mv 0),
 o 7 (len 6 34),
 o 8 (mv 1),
 o 9 (len 8 34),
 o 10 (bo .neq (t 7) (t 9))])
(.cond (t 10)
(S (R [o 4 (ab false)])
(.ret [4]))
.skip))
(S (S (R [o 5 (an 0)])
(.block 0 (.loop [0, 1, 5] c98_1)))
(S (R [o 4 (ab true)])
(.ret [4])))))
def g98 : IFn := ⟨26, [.tmp 4], [4], c98, [], false, none⟩
/- 99 veil/veillaw0.SameWrites -/
def d99_1 : IR := D [o 17 (mv 0),
 o 18 (mv 5),
 o 19 (ia 35 17 18),
 o 20 (ld 60 19),
 o 21 (mv 1),
 o 22 (mv 5),
 o 23 (ia 35 21 22),
 o 24 (ld 60 23),
 o 25 (.binOp .neq 60 (.tmp 20) (.tmp 24) 60)] [[], [], [0, 1], [2], [], [], [4, 5], [6], [3, 7]]
def c99_1 : IR := (S (S (R [o 11 (mv 5),
 o 12 (mv 0),
 o 13 (len 12 35),
 o 14 (bo .lss (t 11) (t 13))])
(.cond (t 14)
.skip
(.exit 0 [])))
(S (.block 1 (S d99_1
(.cond (t 25)
(S (R [o 4 (ab false)])
(.ret [4]))
.skip)))
(R [o 15 (mv 5),
 o 16 (bo .add (t 15) (n 1)),
 o 5 (av 16)])))
def c99 : IR := (S (R [o 4 (ab false)])
(S (S (R [o 6 (mv 0),
 o 7 (len 6 35),
 o 8 (mv 1),
 o 9 (len 8 35),
 o 10 (bo .neq (t 7) (t 9))])
(.cond (t 10)
(S (R [o 4 (ab false)])
(.ret [4]))
.skip))
(S (S (R [o 5 (an 0)])
(.block 0 (.loop [0, 1, 5] c99_1)))
(S (R [o 4 (ab true)])
(.ret [4])))))
def g99 : IFn := ⟨26, [.tmp 4], [4], c99, [], false, none⟩
/- 100 veil/veillaw0.SpoilWords -/
def c100_1 : IR := (S (S (R [o 3 (mv 2),
 o 4 (mv 0),
 o 5 (len 4 23),
 o 6 (bo .lss (t 3) (t 5))])
(.cond (t 6)
.skip
(.exit 0 [])))
(S (.block 1 (R [o 9 (mv 0),
 o 10 (mv 2),
 o 11 (mv 0),
 o 12 (mv 2),
 o 13 (ia 23 11 12),
 o 14 (fa 45 13 0),
 o 15 (ld 3 14),
 o 16 (bo .xor (t 15) (n 90)),
 o 17 (ia 23 9 10),
 o 18 (fa 45 17 0),
 w (st 3 18 16)]))
(R [o 7 (mv 2),
 o 8 (bo .add (t 7) (n 1)),
 o 2 (av 8)])))
def c100 : IR := (S (R [o 2 (an 0)])
(.block 0 (.loop [0, 2] c100_1)))
def g100 : IFn := ⟨19, [], [], c100, [true], false, none⟩
/- 101 veil/veillaw0.SpoilInsts -/
def c101_1 : IR := (S (S (R [o 3 (mv 2),
 o 4 (mv 0),
 o 5 (len 4 33),
 o 6 (bo .lss (t 3) (t 5))])
(.cond (t 6)
.skip
(.exit 0 [])))
(S (.block 1 (R [o 9 (mv 0),
 o 10 (mv 2),
 o 11 (mv 0),
 o 12 (mv 2),
 o 13 (ia 33 11 12),
 o 14 (fa 32 13 1),
 o 15 (ld 3 14),
 o 16 (bo .xor (t 15) (n 90)),
 o 17 (ia 33 9 10),
 o 18 (fa 32 17 1),
 w (st 3 18 16)]))
(R [o 7 (mv 2),
 o 8 (bo .add (t 7) (n 1)),
 o 2 (av 8)])))
def c101 : IR := (S (R [o 2 (an 0)])
(.block 0 (.loop [0, 2] c101_1)))
def g101 : IFn := ⟨19, [], [], c101, [true], false, none⟩
/- 102 veil/veillaw0.SpoilReads -/
def c102_1 : IR := (S (S (R [o 3 (mv 2),
 o 4 (mv 0),
 o 5 (len 4 34),
 o 6 (bo .lss (t 3) (t 5))])
(.cond (t 6)
.skip
(.exit 0 [])))
(S (.block 1 (R [o 9 (mv 0),
 o 10 (mv 2),
 o 11 (mv 0),
 o 12 (mv 2),
 o 13 (ia 34 11 12),
 o 14 (fa 105 13 1),
 o 15 (ld 3 14),
 o 16 (bo .xor (t 15) (n 90)),
 o 17 (ia 34 9 10),
 o 18 (fa 105 17 1),
 w (st 3 18 16)]))
(R [o 7 (mv 2),
 o 8 (bo .add (t 7) (n 1)),
 o 2 (av 8)])))
def c102 : IR := (S (R [o 2 (an 0)])
(.block 0 (.loop [0, 2] c102_1)))
def g102 : IFn := ⟨19, [], [], c102, [true], false, none⟩
/- 103 veil/veillaw0.SpoilWrites -/
def c103_1 : IR := (S (S (R [o 3 (mv 2),
 o 4 (mv 0),
 o 5 (len 4 35),
 o 6 (bo .lss (t 3) (t 5))])
(.cond (t 6)
.skip
(.exit 0 [])))
(S (.block 1 (R [o 9 (mv 0),
 o 10 (mv 2),
 o 11 (mv 0),
 o 12 (mv 2),
 o 13 (ia 35 11 12),
 o 14 (fa 60 13 1),
 o 15 (ld 3 14),
 o 16 (bo .xor (t 15) (n 90)),
 o 17 (ia 35 9 10),
 o 18 (fa 60 17 1),
 w (st 3 18 16)]))
(R [o 7 (mv 2),
 o 8 (bo .add (t 7) (n 1)),
 o 2 (av 8)])))
def c103 : IR := (S (R [o 2 (an 0)])
(.block 0 (.loop [0, 2] c103_1)))
def g103 : IFn := ⟨19, [], [], c103, [true], false, none⟩
/- 104 veil/veilref1.WordMay -/
def c104 : IR := (S (R [z 1 (bx 45 0),
 o 2 (ab false)])
(S (R [o 3 (fa 45 1 0),
 o 4 (ld 3 3),
 o 5 (cl 95 #[(t 4)] #[3]),
 o 6 (mv 5),
 oT 7 (fa 45 1 1) 6,
 oT 8 (ld 3 7) 6,
 oT 9 (cl 58 #[(t 8)] #[3]) 6,
 o 10 (.pick (.tmp 6) (.tmp 9) (.const (.bool false))),
 o 11 (mv 10),
 oT 12 (fa 45 1 2) 11,
 oT 13 (ld 3 12) 11,
 oT 14 (cl 105 #[(t 13), (n 0), (n 255)] #[3, 3, 3]) 11,
 o 15 (.pick (.tmp 11) (.tmp 14) (.const (.bool false))),
 o 2 (av 15)])
(.ret [2])))
def g104 : IFn := ⟨16, [.tmp 2], [4], c104, [], false, none⟩
/- 105 veil/veilref1.upTo -/
def c105 : IR := (S (R [o 6 (ab false)])
(S (R [o 7 (mv 0),
 o 8 (mv 1),
 o 9 (bo .geq (t 7) (t 8)),
 o 10 (mv 9),
 oT 11 (mv 0) 10,
 oT 12 (mv 2) 10,
 oT 13 (bo .leq (t 11) (t 12)) 10,
 o 14 (.pick (.tmp 10) (.tmp 13) (.const (.bool false))),
 o 6 (av 14)])
(.ret [6])))
def g105 : IFn := ⟨15, [.tmp 6], [4], c105, [], false, none⟩
/- 106 veil/veilref11.StartMay -/
def c106 : IR := (S (R [z 1 (bx 66 0),
 o 2 (ab false)])
(S (R [o 3 (fa 66 1 0),
 o 4 (ld 3 3),
 o 5 (cl 68 #[(t 4)] #[3]),
 o 6 (mv 5),
 oT 7 (fa 66 1 1) 6,
 oT 8 (ld 3 7) 6,
 oT 9 (cl 61 #[(t 8)] #[3]) 6,
 o 10 (.pick (.tmp 6) (.tmp 9) (.const (.bool false))),
 o 11 (mv 10),
 oT 12 (fa 66 1 2) 11,
 oT 13 (ld 3 12) 11,
 oT 14 (cl 61 #[(t 13)] #[3]) 11,
 o 15 (.pick (.tmp 11) (.tmp 14) (.const (.bool false))),
 o 16 (mv 15),
 oT 17 (fa 66 1 1) 16,
 oT 18 (ld 3 17) 16,
 oT 19 (fa 66 1 2) 16,
 oT 20 (ld 3 19) 16,
 oT 21 (cl 113 #[(t 18), (t 20)] #[3, 3]) 16,
 o 22 (.pick (.tmp 16) (.tmp 21) (.const (.bool false))),
 o 23 (mv 22),
 oT 24 (fa 66 1 3) 23,
 oT 25 (ld 33 24) 23,
 oT 26 (cl 127 #[(t 25)] #[33]) 23,
 o 27 (.pick (.tmp 23) (.tmp 26) (.const (.bool false))),
 o 2 (av 27)])
(.ret [2])))
def g106 : IFn := ⟨28, [.tmp 2], [4], c106, [], false, none⟩
/- 107 veil/veilref11.words -/
def d107_1 : IR := D [o 21 (mv 6),
 o 22 (bo .eql (t 21) (n 2)),
 o 23 (mv 22),
 oF 24 (mv 6) 23,
 oF 25 (bo .eql (t 24) (n 3)) 23,
 o 26 (.pick (.tmp 23) (.const (.bool true)) (.tmp 25)),
 o 27 (mv 26),
 oT 28 (ld 24 2) 27,
 oT 29 (fa 37 3 3) 27,
 oT 30 (ld 33 29) 27,
 oT 31 (mv 5) 27,
 oT 32 (ia 33 30 31) 27,
 oT 33 (fa 32 32 2) 27,
 oT 34 (ld 3 33) 27,
 oT 35 (fa 37 3 3) 27,
 oT 36 (ld 33 35) 27,
 oT 37 (mv 5) 27,
 oT 38 (ia 33 36 37) 27,
 oT 39 (fa 32 38 3) 27,
 oT 40 (ld 3 39) 27,
 oT 41 (cl 112 #[(t 28), (t 34), (t 40)] #[24, 3, 3]) 27,
 oT 42 (.unOp .not 4 (.tmp 41)) 27,
 o 43 (.pick (.tmp 27) (.tmp 42) (.const (.bool false)))] [[], [0], [1], [2], [3, 2], [2, 4], [5, 2], [6], [6], [8, 6], [6], [9, 10, 6], [11, 6], [12, 6], [6], [14, 6], [6], [15, 16, 6], [17, 6], [18, 6], [7, 13, 19, 6, 6], [20, 6], [6, 21]]
def c107_1 : IR := (S (S (R [o 8 (mv 5),
 o 9 (fa 37 3 3),
 o 10 (ld 33 9),
 o 11 (len 10 33),
 o 12 (bo .lss (t 8) (t 11))])
(.cond (t 12)
.skip
(.exit 0 [2, 3])))
(S (.block 1 (S (R [o 15 (fa 37 3 3),
 o 16 (ld 33 15),
 o 17 (mv 5),
 o 18 (ia 33 16 17),
 o 19 (fa 32 18 0),
 o 20 (ld 3 19),
 o 6 (av 20)])
(S d107_1
(.cond (t 43)
(S (R [o 4 (ab false)])
(.ret [4]))
.skip))))
(R [o 13 (mv 5),
 o 14 (bo .add (t 13) (n 1)),
 o 5 (av 14)])))
def d107_2 : IR := D [o 51 (ld 24 2),
 o 52 (fa 37 3 8),
 o 53 (ld 35 52),
 o 54 (mv 7),
 o 55 (ia 35 53 54),
 o 56 (fa 60 55 0),
 o 57 (ld 3 56),
 o 58 (fa 37 3 8),
 o 59 (ld 35 58),
 o 60 (mv 7),
 o 61 (ia 35 59 60),
 o 62 (fa 60 61 1),
 o 63 (ld 3 62),
 o 64 (cl 112 #[(t 51), (t 57), (t 63)] #[24, 3, 3]),
 o 65 (.unOp .not 4 (.tmp 64))] [[], [], [1], [], [2, 3], [4], [5], [], [7], [], [8, 9], [10], [11], [0, 6, 12], [13]]
def c107_2 : IR := (S (S (R [o 44 (mv 7),
 o 45 (fa 37 3 8),
 o 46 (ld 35 45),
 o 47 (len 46 35),
 o 48 (bo .lss (t 44) (t 47))])
(.cond (t 48)
.skip
(.exit 2 [2, 3])))
(S (.block 3 (S d107_2
(.cond (t 65)
(S (R [o 4 (ab false)])
(.ret [4]))
.skip)))
(R [o 49 (mv 7),
 o 50 (bo .add (t 49) (n 1)),
 o 7 (av 50)])))
def c107 : IR := (S (R [z 2 (bx 24 0),
 z 3 (bx 37 1),
 o 4 (ab false)])
(S (S (R [o 5 (an 0)])
(.block 0 (.loop [2, 3, 5] c107_1)))
(S (S (R [o 7 (an 0)])
(.block 2 (.loop [2, 3, 7] c107_2)))
(S (R [o 66 (ld 24 2),
 o 67 (fa 37 3 7),
 o 68 (ld 34 67),
 o 69 (cl 69 #[(t 66), (t 68)] #[24, 34]),
 o 4 (av 69)])
(.ret [4])))))
def g107 : IFn := ⟨70, [.tmp 4], [4], c107, [], false, none⟩
/- 108 veil/veilref1.RegsMay -/
def c108_1 : IR := (S (S (R [o 4 (mv 3),
 o 5 (bo .lss (t 4) (n 4))])
(.cond (t 5)
.skip
(.exit 0 [])))
(S (.block 1 (S (R [o 8 (mv 3),
 o 9 (ia 25 1 8),
 o 10 (ld 3 9),
 o 11 (cl 95 #[(t 10)] #[3]),
 o 12 (.unOp .not 4 (.tmp 11))])
(.cond (t 12)
(S (R [o 2 (ab false)])
(.ret [2]))
.skip)))
(R [o 6 (mv 3),
 o 7 (bo .add (t 6) (n 1)),
 o 3 (av 7)])))
def c108 : IR := (S (R [z 1 (bx 25 0),
 o 2 (ab false)])
(S (S (R [o 3 (an 0)])
(.block 0 (.loop [1, 3] c108_1)))
(S (R [o 2 (ab true)])
(.ret [2]))))
def g108 : IFn := ⟨13, [.tmp 2], [4], c108, [], false, none⟩
/- 109 veil/veilref1.WritesMay -/
def d109_1 : IR := D [o 10 (mv 0),
 o 11 (mv 3),
 o 12 (ia 35 10 11),
 o 13 (fa 60 12 0),
 o 14 (ld 3 13),
 o 15 (mv 0),
 o 16 (mv 3),
 o 17 (ia 35 15 16),
 o 18 (fa 60 17 1),
 o 19 (ld 3 18),
 o 20 (cl 111 #[(t 14), (t 19)] #[3, 3]),
 o 21 (.unOp .not 4 (.tmp 20)),
 o 22 (mv 21),
 oF 23 (mv 0) 22,
 oF 24 (mv 3) 22,
 oF 25 (ia 35 23 24) 22,
 oF 26 (fa 60 25 2) 22,
 oF 27 (ld 3 26) 22,
 oF 28 (cl 95 #[(t 27)] #[3]) 22,
 oF 29 (.unOp .not 4 (.tmp 28)) 22,
 o 30 (.pick (.tmp 22) (.const (.bool true)) (.tmp 29)),
 o 31 (mv 30),
 oF 32 (mv 3) 31,
 oF 33 (bo .gtr (t 32) (n 0)) 31,
 oF 34 (mv 33) 31,
 oT 35 (mv 0) 34,
 oT 36 (mv 3) 34,
 oT 37 (ia 35 35 36) 34,
 oT 38 (fa 60 37 0) 34,
 oT 39 (ld 3 38) 34,
 oT 40 (mv 0) 34,
 oT 41 (mv 3) 34,
 oT 42 (ia 35 40 41) 34,
 oT 43 (fa 60 42 1) 34,
 oT 44 (ld 3 43) 34,
 oT 45 (cl 128 #[(t 39), (t 44)] #[3, 3]) 34,
 oT 46 (mv 0) 34,
 oT 47 (mv 3) 34,
 oT 48 (bo .sub (t 47) (n 1)) 34,
 oT 49 (ia 35 46 48) 34,
 oT 50 (fa 60 49 0) 34,
 oT 51 (ld 3 50) 34,
 oT 52 (mv 0) 34,
 oT 53 (mv 3) 34,
 oT 54 (bo .sub (t 53) (n 1)) 34,
 oT 55 (ia 35 52 54) 34,
 oT 56 (fa 60 55 1) 34,
 oT 57 (ld 3 56) 34,
 oT 58 (cl 128 #[(t 51), (t 57)] #[3, 3]) 34,
 oT 59 (bo .leq (t 45) (t 58)) 34,
 oF 60 (.pick (.tmp 34) (.tmp 59) (.const (.bool false))) 31,
 o 61 (.pick (.tmp 31) (.const (.bool true)) (.tmp 60))] [[], [], [0, 1], [2], [3], [], [], [5, 6], [7], [8], [4, 9], [10], [11, 10], [12], [12], [13, 14, 12], [15, 12], [16, 12], [17, 12, 12], [18, 12], [12, 19], [20, 18], [21], [22, 21], [23, 21, 21], [24], [24], [25, 26, 24], [27, 24], [28, 24], [24], [24], [30, 31, 24], [32, 24], [33, 24], [29, 34, 24, 24], [24], [24], [37, 24], [36, 38, 24], [39, 24], [40, 24], [24], [24], [43, 24], [42, 44, 24], [45, 24], [46, 24], [41, 47, 35, 24], [35, 48, 24], [24, 49, 21], [21, 50]]
def c109_1 : IR := (S (S (R [o 4 (mv 3),
 o 5 (mv 0),
 o 6 (len 5 35),
 o 7 (bo .lss (t 4) (t 6))])
(.cond (t 7)
.skip
(.exit 0 [0])))
(S (.block 1 (S d109_1
(.cond (t 61)
(S (R [o 2 (ab false)])
(.ret [2]))
.skip)))
(R [o 8 (mv 3),
 o 9 (bo .add (t 8) (n 1)),
 o 3 (av 9)])))
def c109 : IR := (S (R [o 2 (ab false)])
(S (S (R [o 3 (an 0)])
(.block 0 (.loop [0, 3] c109_1)))
(S (R [o 62 (mv 0),
 o 63 (len 62 35),
 o 64 (bo .leq (t 63) (n 16)),
 o 2 (av 64)])
(.ret [2]))))
def g109 : IFn := ⟨65, [.tmp 2], [4], c109, [], false, none⟩
/- 110 veil/word.Id -/
def c110 : IR := (S (R [o 2 (ab false)])
(S (R [o 3 (mv 0),
 o 4 (cl 125 #[(t 3), (n 254)] #[3, 3]),
 o 2 (av 4)])
(.ret [2])))
def g110 : IFn := ⟨5, [.tmp 2], [4], c110, [], false, none⟩
/- 111 veil/veilref1.wordName -/
def c111 : IR := (S (R [o 4 (ab false)])
(S (R [o 5 (mv 0),
 o 6 (cl 61 #[(t 5)] #[3]),
 o 7 (mv 6),
 oT 8 (mv 1) 7,
 oT 9 (cl 105 #[(t 8), (n 0), (n 3)] #[3, 3, 3]) 7,
 o 10 (.pick (.tmp 7) (.tmp 9) (.const (.bool false))),
 o 4 (av 10)])
(.ret [4])))
def g111 : IFn := ⟨11, [.tmp 4], [4], c111, [], false, none⟩
/- 112 veil/veilref1.There -/
def c112 : IR := (S (R [z 3 (bx 24 0),
 o 6 (ab false)])
(S (R [o 7 (mv 1),
 o 8 (cl 61 #[(t 7)] #[3]),
 o 9 (mv 8),
 oT 10 (mv 2) 9,
 oT 11 (bo .geq (t 10) (n 0)) 9,
 o 12 (.pick (.tmp 9) (.tmp 11) (.const (.bool false))),
 o 13 (mv 12),
 oT 14 (mv 2) 13,
 oT 15 (mv 1) 13,
 oT 16 (ia 24 3 15) 13,
 oT 17 (ld 23 16) 13,
 oT 18 (len 17 23) 13,
 oT 19 (bo .lss (t 14) (t 18)) 13,
 o 20 (.pick (.tmp 13) (.tmp 19) (.const (.bool false))),
 o 6 (av 20)])
(.ret [6])))
def g112 : IFn := ⟨21, [.tmp 6], [4], c112, [], false, none⟩
/- 113 veil/veilref1.Under -/
def c113 : IR := (S (R [o 4 (ab false)])
(S (R [o 5 (mv 0),
 o 6 (mv 1),
 o 7 (bo .or (t 5) (t 6)),
 o 8 (mv 1),
 o 9 (bo .eql (t 7) (t 8)),
 o 4 (av 9)])
(.ret [4])))
def g113 : IFn := ⟨10, [.tmp 4], [4], c113, [], false, none⟩
/- 114 veil/veilref1.FindWrite -/
def c114_1 : IR := (S (S (R [o 9 (mv 8),
 o 10 (mv 0),
 o 11 (len 10 35),
 o 12 (bo .lss (t 9) (t 11)),
 o 13 (mv 12),
 oT 14 (mv 0) 13,
 oT 15 (cl 109 #[(t 14)] #[35]) 13,
 o 16 (.pick (.tmp 13) (.tmp 15) (.const (.bool false)))])
(.cond (t 16)
.skip
(.exit 0 [])))
(S (.block 1 (S (R [o 19 (mv 0),
 o 20 (mv 8),
 o 21 (ia 35 19 20),
 o 22 (fa 60 21 0),
 o 23 (ld 3 22),
 o 24 (mv 1),
 o 25 (bo .eql (t 23) (t 24)),
 o 26 (mv 25),
 oT 27 (mv 0) 26,
 oT 28 (mv 8) 26,
 oT 29 (ia 35 27 28) 26,
 oT 30 (fa 60 29 1) 26,
 oT 31 (ld 3 30) 26,
 oT 32 (mv 2) 26,
 oT 33 (bo .eql (t 31) (t 32)) 26,
 o 34 (.pick (.tmp 26) (.tmp 33) (.const (.bool false)))])
(.cond (t 34)
(S (R [o 35 (mv 0),
 o 36 (mv 8),
 o 37 (ia 35 35 36),
 o 38 (fa 60 37 2),
 o 39 (ld 3 38),
 o 6 (av 39),
 o 7 (ab true)])
(.ret [6, 7]))
.skip)))
(R [o 17 (mv 8),
 o 18 (bo .add (t 17) (n 1)),
 o 8 (av 18)])))
def c114 : IR := (S (R [o 6 (an 0),
 o 7 (ab false)])
(S (S (R [o 8 (an 0)])
(.block 0 (.loop [0, 1, 2, 8] c114_1)))
(S (R [o 6 (an 0),
 o 7 (ab false)])
(.ret [6, 7]))))
def g114 : IFn := ⟨40, [.tmp 6, .tmp 7], [3, 4], c114, [], false, none⟩
/- 115 veil/veilref1.WithRead -/
def d115_1 : IR := D [o 26 (mv 0),
 o 27 (mv 7),
 o 28 (ia 34 26 27),
 o 29 (fa 105 28 0),
 o 30 (ld 3 29),
 o 31 (fa 105 3 0),
 o 32 (ld 3 31),
 o 33 (bo .eql (t 30) (t 32)),
 o 34 (mv 33),
 oT 35 (mv 0) 34,
 oT 36 (mv 7) 34,
 oT 37 (ia 34 35 36) 34,
 oT 38 (fa 105 37 1) 34,
 oT 39 (ld 3 38) 34,
 oT 40 (fa 105 3 1) 34,
 oT 41 (ld 3 40) 34,
 oT 42 (bo .eql (t 39) (t 41)) 34,
 o 43 (.pick (.tmp 34) (.tmp 42) (.const (.bool false)))] [[], [], [0, 1], [2], [3], [], [5], [4, 6], [7], [8], [8], [9, 10, 8], [11, 8], [12, 8], [8], [14, 8], [13, 15, 8], [8, 16]]
def c115_1 : IR := (S (S (R [o 20 (mv 7),
 o 21 (mv 0),
 o 22 (len 21 34),
 o 23 (bo .lss (t 20) (t 22))])
(.cond (t 23)
.skip
(.exit 0 [3, 6])))
(S (.block 1 (S d115_1
(.cond (t 43)
(S (R [o 44 (mv 6),
 o 4 (av 44),
 o 5 (an 0)])
(.ret [4, 5]))
.skip)))
(R [o 24 (mv 7),
 o 25 (bo .add (t 24) (n 1)),
 o 7 (av 25)])))
def c115 : IR := (S (R [z 3 (bx 105 1),
 o 4 (.assign (.const (.slice none 0 0))),
 o 5 (an 0)])
(S (S (R [o 8 (mv 0),
 o 9 (cl 67 #[(t 8)] #[34]),
 o 10 (.unOp .not 4 (.tmp 9)),
 o 11 (mv 10),
 oF 12 (ld 105 3) 11,
 oF 13 (.buildSlice 34 1 #[(0, (.tmp 12))]) 11,
 oF 14 (cl 67 #[(t 13)] #[34]) 11,
 oF 15 (.unOp .not 4 (.tmp 14)) 11,
 o 16 (.pick (.tmp 11) (.const (.bool true)) (.tmp 15))])
(.cond (t 16)
(S (R [o 4 (.assign (.const (.slice none 0 0))),
 o 5 (an 900)])
(.ret [4, 5]))
.skip))
(S (R [o 17 (.buildSlice 34 0 #[]),
 o 18 (mv 0),
 o 19 (.call { callee := (.builtin .append), args := #[(.tmp 17), (.tmp 18)], argTypes := #[34, 34] }),
 o 6 (av 19)])
(S (S (R [o 7 (an 0)])
(.block 0 (.loop [0, 3, 6, 7] c115_1)))
(S (R [o 45 (mv 6),
 o 46 (ld 105 3),
 o 47 (.buildSlice 34 1 #[(0, (.tmp 46))]),
 o 48 (.call { callee := (.builtin .append), args := #[(.tmp 45), (.tmp 47)], argTypes := #[34, 34] }),
 o 6 (av 48)])
(S (S (R [o 49 (mv 6),
 o 50 (len 49 34),
 o 51 (bo .gtr (t 50) (n 16))])
(.cond (t 51)
(S (R [o 4 (.assign (.const (.slice none 0 0))),
 o 5 (an 900)])
(.ret [4, 5]))
.skip))
(S (R [o 52 (mv 6),
 o 4 (av 52),
 o 5 (an 0)])
(.ret [4, 5]))))))))
def g115 : IFn := ⟨53, [.tmp 4, .tmp 5], [34, 3], c115, [], false, none⟩
/- 116 veil/veilref1.WithWrite -/
def d116_1 : IR := D [o 26 (mv 0),
 o 27 (mv 8),
 o 28 (ia 35 26 27),
 o 29 (fa 60 28 0),
 o 30 (ld 3 29),
 o 31 (mv 0),
 o 32 (mv 8),
 o 33 (ia 35 31 32),
 o 34 (fa 60 33 1),
 o 35 (ld 3 34),
 o 36 (cl 128 #[(t 30), (t 35)] #[3, 3]),
 o 37 (fa 60 3 0),
 o 38 (ld 3 37),
 o 39 (fa 60 3 1),
 o 40 (ld 3 39),
 o 41 (cl 128 #[(t 38), (t 40)] #[3, 3]),
 o 9 (av 36),
 o 10 (av 41)] [[], [], [0, 1], [2], [3], [], [], [5, 6], [7], [8], [4, 9], [], [11], [], [13], [12, 14, 10], [10, 15, 0, 1, 2, 3, 4, 5, 6, 7, 8, 9, 10], [15, 16, 0, 1, 2, 3, 4, 5, 6, 7, 8, 9, 10, 11, 12, 13, 14, 15, 16]]
def c116_1 : IR := (S (S (R [o 20 (mv 8),
 o 21 (mv 0),
 o 22 (len 21 35),
 o 23 (bo .lss (t 20) (t 22))])
(.cond (t 23)
.skip
(.exit 0 [3, 6, 7])))
(S (.block 1 (S d116_1
(S (S (R [o 42 (mv 7),
 o 43 (.unOp .not 4 (.tmp 42)),
 o 44 (mv 43),
 oT 45 (mv 9) 44,
 oT 46 (mv 10) 44,
 oT 47 (bo .geq (t 45) (t 46)) 44,
 o 48 (.pick (.tmp 44) (.tmp 47) (.const (.bool false)))])
(.cond (t 48)
(S (R [o 49 (mv 6),
 o 50 (ld 60 3),
 o 51 (.buildSlice 35 1 #[(0, (.tmp 50))]),
 o 52 (.call { callee := (.builtin .append), args := #[(.tmp 49), (.tmp 51)], argTypes := #[35, 35] }),
 o 6 (av 52)])
(R [o 7 (ab true)]))
.skip))
(S (R [o 53 (mv 9),
 o 54 (mv 10),
 o 55 (bo .neq (t 53) (t 54))])
(.cond (t 55)
(R [o 56 (mv 6),
 o 57 (mv 0),
 o 58 (mv 8),
 o 59 (ia 35 57 58),
 o 60 (ld 60 59),
 o 61 (.buildSlice 35 1 #[(0, (.tmp 60))]),
 o 62 (.call { callee := (.builtin .append), args := #[(.tmp 56), (.tmp 61)], argTypes := #[35, 35] }),
 o 6 (av 62)])
.skip)))))
(R [o 24 (mv 8),
 o 25 (bo .add (t 24) (n 1)),
 o 8 (av 25)])))
def c116 : IR := (S (R [z 3 (bx 60 1),
 o 4 (.assign (.const (.slice none 0 0))),
 o 5 (an 0)])
(S (S (R [o 11 (mv 0),
 o 12 (cl 109 #[(t 11)] #[35]),
 o 13 (.unOp .not 4 (.tmp 12)),
 o 14 (mv 13),
 oF 15 (ld 60 3) 14,
 oF 16 (.buildSlice 35 1 #[(0, (.tmp 15))]) 14,
 oF 17 (cl 109 #[(t 16)] #[35]) 14,
 oF 18 (.unOp .not 4 (.tmp 17)) 14,
 o 19 (.pick (.tmp 14) (.const (.bool true)) (.tmp 18))])
(.cond (t 19)
(S (R [o 4 (.assign (.const (.slice none 0 0))),
 o 5 (an 1000)])
(.ret [4, 5]))
.skip))
(S (R [o 6 (.assign (.const (.slice none 0 0)))])
(S (R [o 7 (ab false)])
(S (S (R [o 8 (an 0)])
(.block 0 (.loop [0, 3, 6, 7, 8] c116_1)))
(S (S (R [o 63 (mv 7),
 o 64 (.unOp .not 4 (.tmp 63))])
(.cond (t 64)
(R [o 65 (mv 6),
 o 66 (ld 60 3),
 o 67 (.buildSlice 35 1 #[(0, (.tmp 66))]),
 o 68 (.call { callee := (.builtin .append), args := #[(.tmp 65), (.tmp 67)], argTypes := #[35, 35] }),
 o 6 (av 68)])
.skip))
(S (R [o 69 (mv 6),
 o 4 (av 69),
 o 5 (an 0)])
(.ret [4, 5]))))))))
def g116 : IFn := ⟨70, [.tmp 4, .tmp 5], [35, 3], c116, [], false, none⟩
/- 117 veil/veilref1.Set -/
def c117 : IR := (S (R [o 3 (bx 25 0),
 o 6 (al 25),
 o 7 (an 0)])
(S (S (R [o 8 (ld 25 3),
 o 9 (cl 108 #[(t 8)] #[25]),
 o 10 (.unOp .not 4 (.tmp 9)),
 o 11 (mv 10),
 oF 12 (mv 1) 11,
 oF 13 (cl 129 #[(t 12)] #[3]) 11,
 oF 14 (.unOp .not 4 (.tmp 13)) 11,
 o 15 (.pick (.tmp 11) (.const (.bool true)) (.tmp 14)),
 o 16 (mv 15),
 oF 17 (mv 2) 16,
 oF 18 (cl 95 #[(t 17)] #[3]) 16,
 oF 19 (.unOp .not 4 (.tmp 18)) 16,
 o 20 (.pick (.tmp 16) (.const (.bool true)) (.tmp 19))])
(.cond (t 20)
(S (R [o 21 (.build 25 #[]),
 w (st 25 6 21),
 o 7 (an 600)])
(.ret [6, 7]))
.skip))
(S (R [o 22 (mv 1),
 o 23 (mv 2),
 o 24 (ia 25 3 22),
 w (st 3 24 23)])
(S (R [o 25 (ld 25 3),
 w (st 25 6 25),
 o 7 (an 0)])
(.ret [6, 7])))))
def g117 : IFn := ⟨26, [.cell 6 25, .tmp 7], [25, 3], c117, [], false, none⟩
/- 118 veil/veilref1.Add -/
def d118_1 : IR := D [o 22 (mv 1),
 o 23 (mv 1),
 o 24 (ia 25 3 23),
 o 25 (ld 3 24),
 o 26 (mv 2),
 o 27 (ia 25 3 26),
 o 28 (ld 3 27),
 o 29 (bo .add (t 25) (t 28)),
 o 30 (bo .rem (t 29) (n 256)),
 o 31 (ia 25 3 22),
 w (st 3 31 30)] [[], [], [1], [2], [], [4], [5], [3, 6], [7], [0, 0, 1, 2, 3, 4, 5, 6, 7, 8], [9, 8, 0, 1, 2, 3, 4, 5, 6, 7, 8]]
def c118 : IR := (S (R [o 3 (bx 25 0),
 o 6 (al 25),
 o 7 (an 0)])
(S (S (R [o 8 (ld 25 3),
 o 9 (cl 108 #[(t 8)] #[25]),
 o 10 (.unOp .not 4 (.tmp 9)),
 o 11 (mv 10),
 oF 12 (mv 1) 11,
 oF 13 (cl 129 #[(t 12)] #[3]) 11,
 oF 14 (.unOp .not 4 (.tmp 13)) 11,
 o 15 (.pick (.tmp 11) (.const (.bool true)) (.tmp 14)),
 o 16 (mv 15),
 oF 17 (mv 2) 16,
 oF 18 (cl 129 #[(t 17)] #[3]) 16,
 oF 19 (.unOp .not 4 (.tmp 18)) 16,
 o 20 (.pick (.tmp 16) (.const (.bool true)) (.tmp 19))])
(.cond (t 20)
(S (R [o 21 (.build 25 #[]),
 w (st 25 6 21),
 o 7 (an 600)])
(.ret [6, 7]))
.skip))
(S d118_1
(S (R [o 32 (ld 25 3),
 w (st 25 6 32),
 o 7 (an 0)])
(.ret [6, 7])))))
def g118 : IFn := ⟨33, [.cell 6 25, .tmp 7], [25, 3], c118, [], false, none⟩
/- 119 veil/mach.May -/
def d119_1 : IR := D [o 5 (fa 29 1 0),
 o 6 (ld 24 5),
 o 7 (cl 130 #[(t 6)] #[24]),
 o 8 (.unOp .not 4 (.tmp 7)),
 o 9 (mv 8),
 oF 10 (fa 29 1 1) 9,
 oF 11 (fa 29 1 2) 9,
 oF 12 (ld 3 11) 9,
 oF 13 (cl 93 #[(t 10), (t 12)] #[123, 3]) 9,
 oF 14 (.unOp .not 4 (.tmp 13)) 9,
 o 15 (.pick (.tmp 9) (.const (.bool true)) (.tmp 14)),
 o 16 (mv 15),
 oF 17 (fa 29 1 1) 16,
 oF 18 (.slice 25 (.tmp 17) none none none) 16,
 oF 19 (cl 131 #[(t 18)] #[53]) 16,
 oF 20 (fa 29 1 2) 16,
 oF 21 (ld 3 20) 16,
 oF 22 (bo .gtr (t 19) (t 21)) 16,
 o 23 (.pick (.tmp 16) (.const (.bool true)) (.tmp 22)),
 o 24 (mv 23),
 oF 25 (fa 29 1 3) 24,
 oF 26 (ld 26 25) 24,
 oF 27 (len 26 26) 24,
 oF 28 (bo .gtr (t 27) (n 4)) 24,
 o 29 (.pick (.tmp 24) (.const (.bool true)) (.tmp 28)),
 o 30 (mv 29),
 oF 31 (fa 29 1 4) 30,
 oF 32 (ld 27 31) 30,
 oF 33 (len 32 27) 30,
 oF 34 (bo .gtr (t 33) (n 512)) 30,
 o 35 (.pick (.tmp 30) (.const (.bool true)) (.tmp 34))] [[], [0], [1], [2], [3, 2], [4], [4], [6, 4], [5, 7, 4, 4], [8, 4], [4, 9], [10, 8], [11], [12, 11], [13, 11, 11], [11], [15, 11], [14, 16, 11], [11, 17], [18, 14], [19], [20, 19], [21, 19], [22, 19], [19, 23], [24, 19], [25], [26, 25], [27, 25], [28, 25], [25, 29]]
def d119_2 : IR := D [o 42 (mv 3),
 o 43 (bo .gtr (t 42) (n 0)),
 o 44 (mv 43),
 oT 45 (fa 29 1 3) 44,
 oT 46 (ld 26 45) 44,
 oT 47 (mv 3) 44,
 oT 48 (bo .sub (t 47) (n 1)) 44,
 oT 49 (ia 26 46 48) 44,
 oT 50 (fa 37 49 0) 44,
 oT 51 (ld 3 50) 44,
 oT 52 (fa 29 1 3) 44,
 oT 53 (ld 26 52) 44,
 oT 54 (mv 3) 44,
 oT 55 (ia 26 53 54) 44,
 oT 56 (fa 37 55 0) 44,
 oT 57 (ld 3 56) 44,
 oT 58 (bo .geq (t 51) (t 57)) 44,
 o 59 (.pick (.tmp 44) (.tmp 58) (.const (.bool false)))] [[], [0], [1], [2], [3, 2], [2], [5, 2], [4, 6, 2], [7, 2], [8, 2], [2], [10, 2], [2], [11, 12, 2], [13, 2], [14, 2], [9, 15, 2], [2, 16]]
def c119_1 : IR := (S (R [o 40 (bo .lss (t 39) (t 38))])
(S (.cond (t 40)
.skip
(.exit 0 [1]))
(S (.block 1 (S (R [o 41 (mv 39),
 o 3 (av 41)])
(S d119_2
(.cond (t 59)
(S (R [o 2 (ab false)])
(.ret [2]))
.skip))))
(R [o 60 (bo .add (t 39) (n 1)),
 o 39 (mv 60)]))))
def c119 : IR := (S (R [z 1 (bx 29 0),
 o 2 (ab false)])
(S (S d119_1
(.cond (t 35)
(S (R [o 2 (ab false)])
(.ret [2]))
.skip))
(S (S (R [o 36 (fa 29 1 3),
 o 37 (ld 26 36),
 o 38 (len 37 26),
 o 39 (.move (.const (.int .i64 0)))])
(.block 0 (.loop [1, 38, 39] c119_1)))
(S (R [o 4 (.assign (.func 132))])
(S (R [o 61 (fa 29 1 3),
 o 62 (ld 26 61),
 o 63 (fa 29 1 0),
 o 64 (.build 158 #[(0, (.tmp 63))]),
 o 65 (.makeFunc (Go.Fn.func 134) #[(.tmp 64)] #[]),
 o 66 (cl 133 #[(t 62), (t 65)] #[26, 155]),
 o 67 (mv 66),
 oT 68 (fa 29 1 4) 67,
 oT 69 (ld 27 68) 67,
 oT 70 (mv 4) 67,
 oT 71 (cl 135 #[(t 69), (t 70)] #[27, 153]) 67,
 o 72 (.pick (.tmp 67) (.tmp 71) (.const (.bool false))),
 o 2 (av 72)])
(.ret [2]))))))
def g119 : IFn := ⟨73, [.tmp 2], [4], c119, [], false, none⟩
/- 120 slices.Clone[[]veil/api.Word,veil/api.Word] -/
def c120 : IR := (S (R [o 2 (.assign (.const (.slice none 0 0)))])
(S (S (R [o 3 (mv 0),
 o 4 (.binOp .eql 23 (.tmp 3) (.const (.slice none 0 0)) 23)])
(.cond (t 4)
(S (R [o 2 (.assign (.const (.slice none 0 0)))])
(.ret [2]))
.skip))
(S (R [o 5 (.buildSlice 23 0 #[]),
 o 6 (mv 0),
 o 7 (.call { callee := (.builtin .append), args := #[(.tmp 5), (.tmp 6)], argTypes := #[23, 23] }),
 o 2 (av 7)])
(.ret [2]))))
def g120 : IFn := ⟨8, [.tmp 2], [23], c120, [], false, some (3, 24)⟩
/- 121 slices.Clone[[]veil/api.Inst,veil/api.Inst] -/
def c121 : IR := (S (R [o 2 (.assign (.const (.slice none 0 0)))])
(S (S (R [o 3 (mv 0),
 o 4 (.binOp .eql 33 (.tmp 3) (.const (.slice none 0 0)) 33)])
(.cond (t 4)
(S (R [o 2 (.assign (.const (.slice none 0 0)))])
(.ret [2]))
.skip))
(S (R [o 5 (.buildSlice 33 0 #[]),
 o 6 (mv 0),
 o 7 (.call { callee := (.builtin .append), args := #[(.tmp 5), (.tmp 6)], argTypes := #[33, 33] }),
 o 2 (av 7)])
(.ret [2]))))
def g121 : IFn := ⟨8, [.tmp 2], [33], c121, [], false, some (4, 32)⟩
/- 122 slices.Clone[[]veil/api.Read,veil/api.Read] -/
def c122 : IR := (S (R [o 2 (.assign (.const (.slice none 0 0)))])
(S (S (R [o 3 (mv 0),
 o 4 (.binOp .eql 34 (.tmp 3) (.const (.slice none 0 0)) 34)])
(.cond (t 4)
(S (R [o 2 (.assign (.const (.slice none 0 0)))])
(.ret [2]))
.skip))
(S (R [o 5 (.buildSlice 34 0 #[]),
 o 6 (mv 0),
 o 7 (.call { callee := (.builtin .append), args := #[(.tmp 5), (.tmp 6)], argTypes := #[34, 34] }),
 o 2 (av 7)])
(.ret [2]))))
def g122 : IFn := ⟨8, [.tmp 2], [34], c122, [], false, some (3, 24)⟩
/- 123 slices.Clone[[]veil/api.Write,veil/api.Write] -/
def c123 : IR := (S (R [o 2 (.assign (.const (.slice none 0 0)))])
(S (S (R [o 3 (mv 0),
 o 4 (.binOp .eql 35 (.tmp 3) (.const (.slice none 0 0)) 35)])
(.cond (t 4)
(S (R [o 2 (.assign (.const (.slice none 0 0)))])
(.ret [2]))
.skip))
(S (R [o 5 (.buildSlice 35 0 #[]),
 o 6 (mv 0),
 o 7 (.call { callee := (.builtin .append), args := #[(.tmp 5), (.tmp 6)], argTypes := #[35, 35] }),
 o 2 (av 7)])
(.ret [2]))))
def g123 : IFn := ⟨8, [.tmp 2], [35], c123, [], false, some (3, 24)⟩
/- 124 veil/word.Clock -/
def c124 : IR := (S (R [o 2 (ab false)])
(S (R [o 3 (mv 0),
 o 4 (cl 125 #[(t 3), (n 65535)] #[3, 3]),
 o 2 (av 4)])
(.ret [2])))
def g124 : IFn := ⟨5, [.tmp 2], [4], c124, [], false, none⟩
/- 125 veil/word.in -/
def c125 : IR := (S (R [o 4 (ab false)])
(S (R [o 5 (mv 0),
 o 6 (bo .geq (t 5) (n 0)),
 o 7 (mv 6),
 oT 8 (mv 0) 7,
 oT 9 (mv 1) 7,
 oT 10 (bo .leq (t 8) (t 9)) 7,
 o 11 (.pick (.tmp 7) (.tmp 10) (.const (.bool false))),
 o 4 (av 11)])
(.ret [4])))
def g125 : IFn := ⟨12, [.tmp 4], [4], c125, [], false, none⟩
/- 126 veil/undo.free -/
def c126_1 : IR := (S (S (R [o 7 (mv 5),
 o 8 (mv 0),
 o 9 (mv 4),
 o 10 (nc 8),
 o 11 (fa 29 10 0),
 o 12 (ia 24 11 9),
 o 13 (ld 23 12),
 o 14 (len 13 23),
 o 15 (bo .lss (t 7) (t 14))])
(.cond (t 15)
.skip
(.exit 0 [0, 1, 4])))
(.block 1 (S (S (R [o 16 (mv 0),
 o 17 (mv 4),
 o 18 (nc 16),
 o 19 (fa 29 18 0),
 o 20 (ia 24 19 17),
 o 21 (ld 23 20),
 o 22 (mv 5),
 o 23 (ia 23 21 22),
 o 6 (av 23)])
(S (R [o 24 (mv 6),
 o 25 (nc 24),
 o 26 (fa 45 25 2),
 o 27 (ld 3 26),
 o 28 (mv 1),
 o 29 (bo .add (t 28) (n 1)),
 o 30 (bo .eql (t 27) (t 29))])
(.cond (t 30)
(R [o 31 (mv 6),
 o 32 (nc 31),
 o 33 (fa 45 32 2),
 w (.store 3 (.tmp 33) (.const (.int .i64 0)))])
.skip)))
(R [o 34 (mv 5),
 o 35 (bo .add (t 34) (n 1)),
 o 5 (av 35)]))))
def c126_2 : IR := (S (R [o 4 (an 0),
 o 5 (an 0)])
(S (.label 0)
(S (.block 0 (.loop [0, 1, 4, 5] c126_1))
(S (R [o 36 (mv 4),
 o 37 (bo .add (t 36) (n 1)),
 o 4 (av 37)])
(S (R [o 38 (mv 4),
 o 39 (bo .lss (t 38) (n 4))])
(.cond (t 39)
(S (R [o 5 (an 0)])
(.goto 0))
.skip))))))
def c126 : IR := (.scope [0, 1, 4, 5] c126_2)
def g126 : IFn := ⟨40, [], [], c126, [], true, none⟩
/- 127 veil/veilref1.ProgMay -/
def c127_1 : IR := (S (S (R [o 4 (mv 3),
 o 5 (mv 0),
 o 6 (len 5 33),
 o 7 (bo .lss (t 4) (t 6))])
(.cond (t 7)
.skip
(.exit 0 [0])))
(S (.block 1 (S (R [o 10 (mv 0),
 o 11 (mv 3),
 o 12 (ia 33 10 11),
 o 13 (ld 32 12),
 o 14 (cl 136 #[(t 13)] #[32]),
 o 15 (.unOp .not 4 (.tmp 14)),
 o 16 (mv 15),
 oF 17 (mv 0) 16,
 oF 18 (mv 3) 16,
 oF 19 (ia 33 17 18) 16,
 oF 20 (fa 32 19 0) 16,
 oF 21 (ld 3 20) 16,
 oF 22 (bo .eql (t 21) (n 4)) 16,
 oF 23 (mv 22) 16,
 oT 24 (mv 0) 23,
 oT 25 (mv 3) 23,
 oT 26 (ia 33 24 25) 23,
 oT 27 (fa 32 26 2) 23,
 oT 28 (ld 3 27) 23,
 oT 29 (mv 3) 23,
 oT 30 (bo .leq (t 28) (t 29)) 23,
 oT 31 (mv 30) 23,
 oF 32 (mv 0) 31,
 oF 33 (mv 3) 31,
 oF 34 (ia 33 32 33) 31,
 oF 35 (fa 32 34 2) 31,
 oF 36 (ld 3 35) 31,
 oF 37 (mv 0) 31,
 oF 38 (len 37 33) 31,
 oF 39 (bo .gtr (t 36) (t 38)) 31,
 oT 40 (.pick (.tmp 31) (.const (.bool true)) (.tmp 39)) 23,
 oF 41 (.pick (.tmp 23) (.tmp 40) (.const (.bool false))) 16,
 o 42 (.pick (.tmp 16) (.const (.bool true)) (.tmp 41))])
(.cond (t 42)
(S (R [o 2 (ab false)])
(.ret [2]))
.skip)))
(R [o 8 (mv 3),
 o 9 (bo .add (t 8) (n 1)),
 o 3 (av 9)])))
def c127 : IR := (S (R [o 2 (ab false)])
(S (S (R [o 3 (an 0)])
(.block 0 (.loop [0, 3] c127_1)))
(S (R [o 43 (mv 0),
 o 44 (len 43 33),
 o 45 (bo .leq (t 44) (n 16)),
 o 2 (av 45)])
(.ret [2]))))
def g127 : IFn := ⟨46, [.tmp 2], [4], c127, [], false, none⟩
/- 128 veil/veilref1.place -/
def c128 : IR := (S (R [o 4 (an 0)])
(S (R [o 5 (mv 0),
 o 6 (bo .mul (n 4) (t 5)),
 o 7 (mv 1),
 o 8 (bo .add (t 6) (t 7)),
 o 4 (av 8)])
(.ret [4])))
def g128 : IFn := ⟨9, [.tmp 4], [3], c128, [], false, none⟩
/- 129 veil/veilref1.regMay -/
def c129 : IR := (S (R [o 2 (ab false)])
(S (R [o 3 (mv 0),
 o 4 (cl 105 #[(t 3), (n 0), (n 3)] #[3, 3, 3]),
 o 2 (av 4)])
(.ret [2])))
def g129 : IFn := ⟨5, [.tmp 2], [4], c129, [], false, none⟩
/- 130 veil/arena.May -/
def c130_1 : IR := (S (R [o 8 (bo .lss (t 7) (n 4))])
(S (.cond (t 8)
.skip
(.exit 0 []))
(S (.block 1 (S (R [o 9 (.index 24 (.tmp 6) (.tmp 7)),
 o 5 (av 9)])
(S (R [o 10 (mv 5),
 o 11 (len 10 23),
 o 12 (bo .gtr (t 11) (n 4)),
 o 13 (mv 12),
 oF 14 (mv 5) 13,
 oF 15 (mv 3) 13,
 oF 16 (cl 138 #[(t 14), (t 15)] #[23, 119]) 13,
 o 17 (.pick (.tmp 13) (.const (.bool true)) (.tmp 16))])
(.cond (t 17)
(S (R [o 2 (ab false)])
(.ret [2]))
.skip))))
(R [o 18 (bo .add (t 7) (n 1)),
 o 7 (mv 18)]))))
def c130 : IR := (S (R [z 1 (bx 24 0),
 o 2 (ab false)])
(S (R [o 3 (.assign (.func 137))])
(S (S (R [o 6 (ld 24 1),
 o 7 (.move (.const (.int .i64 0)))])
(.block 0 (.loop [3, 6, 7] c130_1)))
(S (R [o 2 (ab true)])
(.ret [2])))))
def g130 : IFn := ⟨19, [.tmp 2], [4], c130, [], false, none⟩
/- 131 slices.Max[[]int,int] -/
def c131_1 : IR := (S (S (R [o 12 (mv 4),
 o 13 (mv 0),
 o 14 (len 13 53),
 o 15 (bo .lss (t 12) (t 14))])
(.cond (t 15)
.skip
(.exit 0 [3])))
(S (.block 1 (R [o 18 (mv 3),
 o 19 (mv 0),
 o 20 (mv 4),
 o 21 (ia 53 19 20),
 o 22 (ld 3 21),
 o 23 (.call { callee := (.builtin .max), args := #[(.tmp 18), (.tmp 22)], argTypes := #[3, 3] }),
 o 3 (av 23)]))
(R [o 16 (mv 4),
 o 17 (bo .add (t 16) (n 1)),
 o 4 (av 17)])))
def c131 : IR := (S (R [o 2 (an 0)])
(S (S (R [o 5 (mv 0),
 o 6 (len 5 53),
 o 7 (bo .lss (t 6) (n 1))])
(.cond (t 7)
(R [o 8 (.makeInterface 9 (.const (.string { data := #[115, 108, 105, 99, 101, 115, 46, 77, 97, 120, 58, 32, 101, 109, 112, 116, 121, 32, 108, 105, 115, 116] }))),
 w (.panic (.tmp 8))])
.skip))
(S (R [o 9 (mv 0),
 o 10 (.indexAddr 53 (.tmp 9) (.const (.int .i64 0))),
 o 11 (ld 3 10),
 o 3 (av 11)])
(S (S (R [o 4 (an 1)])
(.block 0 (.loop [0, 3, 4] c131_1)))
(S (R [o 24 (mv 3),
 o 2 (av 24)])
(.ret [2]))))))
def g131 : IFn := ⟨25, [.tmp 2], [3], c131, [], false, none⟩
/- 132 veil/mach.May$1 -/
def c132 : IR := (S (R [z 1 (bx 92 0),
 o 2 (ab false)])
(S (R [o 3 (fa 92 1 1),
 o 4 (ld 3 3),
 o 5 (cl 94 #[(t 4)] #[3]),
 o 2 (av 5)])
(.ret [2])))
def g132 : IFn := ⟨6, [.tmp 2], [4], c132, [], false, none⟩
/- 133 veil/mach.all[veil/api.Session] -/
def c133 : IR := (S (R [z 3 (bx 155 1),
 o 4 (ab false)])
(S (R [o 5 (mv 0),
 o 6 (.makeFunc (Go.Fn.func 140) #[] #[(.tmp 3)]),
 o 7 (cl 139 #[(t 5), (t 6)] #[26, 155]),
 o 8 (.unOp .not 4 (.tmp 7)),
 o 4 (av 8)])
(.ret [4])))
def g133 : IFn := ⟨9, [.tmp 4], [4], c133, [], false, none⟩
/- 134 (veil/mach.looker).session -/
def c134 : IR := (S (R [z 2 (bx 158 0),
 z 3 (bx 37 1),
 o 4 (ab false)])
(S (R [o 8 (fa 37 3 0),
 o 9 (ld 3 8),
 o 10 (fa 37 3 1),
 o 11 (ld 3 10),
 o 12 (fa 37 3 2),
 o 13 (ld 3 12),
 o 14 (fa 37 3 3),
 o 15 (ld 33 14),
 o 16 (.build 66 #[(0, (.tmp 9)), (1, (.tmp 11)), (2, (.tmp 13)), (3, (.tmp 15))]),
 o 17 (cl 141 #[(t 16)] #[66]),
 o 5 (av 17)])
(S (R [o 18 (fa 37 3 7),
 o 19 (ld 34 18),
 o 20 (cl 142 #[(t 19)] #[34]),
 o 21 (mv 20),
 oT 22 (fa 37 3 8) 21,
 oT 23 (ld 35 22) 21,
 oT 24 (cl 143 #[(t 23)] #[35]) 21,
 o 25 (.pick (.tmp 21) (.tmp 24) (.const (.bool false))),
 o 26 (mv 25),
 oT 27 (fa 37 3 7) 26,
 oT 28 (ld 34 27) 26,
 oT 29 (ld 158 2) 26,
 oT 30 (.makeFunc (Go.Fn.func 145) #[(.tmp 29)] #[]) 26,
 oT 31 (cl 144 #[(t 28), (t 30)] #[34, 163]) 26,
 o 32 (.pick (.tmp 26) (.tmp 31) (.const (.bool false))),
 o 33 (mv 32),
 oT 34 (fa 37 3 8) 33,
 oT 35 (ld 35 34) 33,
 oT 36 (ld 158 2) 33,
 oT 37 (.makeFunc (Go.Fn.func 147) #[(.tmp 36)] #[]) 33,
 oT 38 (cl 146 #[(t 35), (t 37)] #[35, 165]) 33,
 o 39 (.pick (.tmp 33) (.tmp 38) (.const (.bool false))),
 o 40 (mv 39),
 oT 41 (fa 37 3 3) 40,
 oT 42 (ld 33 41) 40,
 oT 43 (ld 158 2) 40,
 oT 44 (.makeFunc (Go.Fn.func 149) #[(.tmp 43)] #[]) 40,
 oT 45 (cl 148 #[(t 42), (t 44)] #[33, 160]) 40,
 o 46 (.pick (.tmp 40) (.tmp 45) (.const (.bool false))),
 o 6 (av 46)])
(S (R [o 47 (fa 37 3 5),
 o 48 (ld 3 47),
 o 49 (fa 37 3 3),
 o 50 (ld 33 49),
 o 51 (len 50 33),
 o 52 (cl 150 #[(t 48), (t 51)] #[3, 3]),
 o 53 (mv 52),
 oT 54 (fa 37 3 9) 53,
 oT 55 (ld 3 54) 53,
 oT 56 (fa 37 3 8) 53,
 oT 57 (ld 35 56) 53,
 oT 58 (len 57 35) 53,
 oT 59 (cl 150 #[(t 55), (t 58)] #[3, 3]) 53,
 o 60 (.pick (.tmp 53) (.tmp 59) (.const (.bool false))),
 o 61 (mv 60),
 oT 62 (fa 37 3 4) 61,
 oT 63 (ld 3 62) 61,
 oT 64 (cl 150 #[(t 63), (n 6)] #[3, 3]) 61,
 o 65 (.pick (.tmp 61) (.tmp 64) (.const (.bool false))),
 o 66 (mv 65),
 oT 67 (fa 37 3 12) 66,
 oT 68 (ld 3 67) 66,
 oT 69 (cl 150 #[(t 68), (n 5)] #[3, 3]) 66,
 o 70 (.pick (.tmp 66) (.tmp 69) (.const (.bool false))),
 o 7 (av 70)])
(S (R [o 71 (mv 5),
 o 72 (mv 71),
 oT 73 (mv 6) 72,
 o 74 (.pick (.tmp 72) (.tmp 73) (.const (.bool false))),
 o 75 (mv 74),
 oT 76 (mv 7) 75,
 o 77 (.pick (.tmp 75) (.tmp 76) (.const (.bool false))),
 o 78 (mv 77),
 oT 79 (fa 37 3 6) 78,
 oT 80 (cl 151 #[(t 79)] #[123]) 78,
 o 81 (.pick (.tmp 78) (.tmp 80) (.const (.bool false))),
 o 82 (mv 81),
 oT 83 (fa 37 3 10) 82,
 oT 84 (ld 3 83) 82,
 oT 85 (cl 124 #[(t 84)] #[3]) 82,
 o 86 (.pick (.tmp 82) (.tmp 85) (.const (.bool false))),
 o 87 (mv 86),
 oT 88 (fa 37 3 11) 87,
 oT 89 (ld 3 88) 87,
 oT 90 (cl 124 #[(t 89)] #[3]) 87,
 o 91 (.pick (.tmp 87) (.tmp 90) (.const (.bool false))),
 o 92 (mv 91),
 oT 93 (fa 37 3 13) 92,
 oT 94 (ld 3 93) 92,
 oT 95 (cl 90 #[(t 94)] #[3]) 92,
 o 96 (.pick (.tmp 92) (.tmp 95) (.const (.bool false))),
 o 4 (av 96)])
(.ret [4]))))))
def g134 : IFn := ⟨97, [.tmp 4], [4], c134, [], false, none⟩
/- 135 veil/mach.all[veil/api.Event] -/
def c135 : IR := (S (R [z 3 (bx 153 1),
 o 4 (ab false)])
(S (R [o 5 (mv 0),
 o 6 (.makeFunc (Go.Fn.func 153) #[] #[(.tmp 3)]),
 o 7 (cl 152 #[(t 5), (t 6)] #[27, 153]),
 o 8 (.unOp .not 4 (.tmp 7)),
 o 4 (av 8)])
(.ret [4])))
def g135 : IFn := ⟨9, [.tmp 4], [4], c135, [], false, none⟩
/- 136 veil/veilref1.InstMay -/
def c136 : IR := (S (R [z 1 (bx 32 0),
 o 2 (ab false)])
(S (S (R [o 3 (fa 32 1 0),
 o 4 (ld 3 3)])
(.block 0 (S (R [o 6 (bo .eql (t 4) (n 0)),
 o 5 (av 6)])
(.cond (t 5)
(S (R [o 7 (fa 32 1 1),
 o 8 (ld 3 7),
 o 9 (cl 129 #[(t 8)] #[3]),
 o 10 (mv 9),
 oT 11 (fa 32 1 2) 10,
 oT 12 (ld 3 11) 10,
 oT 13 (cl 95 #[(t 12)] #[3]) 10,
 o 14 (.pick (.tmp 10) (.tmp 13) (.const (.bool false))),
 o 15 (mv 14),
 oT 16 (fa 32 1 3) 15,
 oT 17 (ld 3 16) 15,
 oT 18 (bo .eql (t 17) (n 0)) 15,
 o 19 (.pick (.tmp 15) (.tmp 18) (.const (.bool false))),
 o 2 (av 19)])
(.ret [2]))
(S (R [o 21 (bo .eql (t 4) (n 1)),
 o 20 (av 21)])
(.cond (t 20)
(S (R [o 22 (fa 32 1 1),
 o 23 (ld 3 22),
 o 24 (cl 129 #[(t 23)] #[3]),
 o 25 (mv 24),
 oT 26 (fa 32 1 2) 25,
 oT 27 (ld 3 26) 25,
 oT 28 (cl 129 #[(t 27)] #[3]) 25,
 o 29 (.pick (.tmp 25) (.tmp 28) (.const (.bool false))),
 o 30 (mv 29),
 oT 31 (fa 32 1 3) 30,
 oT 32 (ld 3 31) 30,
 oT 33 (bo .eql (t 32) (n 0)) 30,
 o 34 (.pick (.tmp 30) (.tmp 33) (.const (.bool false))),
 o 2 (av 34)])
(.ret [2]))
(S (S (R [o 36 (bo .eql (t 4) (n 2)),
 o 35 (av 36)])
(.cond (t 35)
.skip
(R [o 37 (bo .eql (t 4) (n 3)),
 o 35 (av 37)])))
(.cond (t 35)
(S (R [o 38 (fa 32 1 1),
 o 39 (ld 3 38),
 o 40 (cl 129 #[(t 39)] #[3]),
 o 41 (mv 40),
 oT 42 (fa 32 1 2) 41,
 oT 43 (ld 3 42) 41,
 oT 44 (cl 61 #[(t 43)] #[3]) 41,
 o 45 (.pick (.tmp 41) (.tmp 44) (.const (.bool false))),
 o 46 (mv 45),
 oT 47 (fa 32 1 3) 46,
 oT 48 (ld 3 47) 46,
 oT 49 (cl 105 #[(t 48), (n 0), (n 3)] #[3, 3, 3]) 46,
 o 50 (.pick (.tmp 46) (.tmp 49) (.const (.bool false))),
 o 2 (av 50)])
(.ret [2]))
(S (R [o 52 (bo .eql (t 4) (n 4)),
 o 51 (av 52)])
(.cond (t 51)
(S (R [o 53 (fa 32 1 1),
 o 54 (ld 3 53),
 o 55 (cl 129 #[(t 54)] #[3]),
 o 56 (mv 55),
 oT 57 (fa 32 1 2) 56,
 oT 58 (ld 3 57) 56,
 oT 59 (cl 105 #[(t 58), (n 0), (n 16)] #[3, 3, 3]) 56,
 o 60 (.pick (.tmp 56) (.tmp 59) (.const (.bool false))),
 o 61 (mv 60),
 oT 62 (fa 32 1 3) 61,
 oT 63 (ld 3 62) 61,
 oT 64 (bo .eql (t 63) (n 0)) 61,
 o 65 (.pick (.tmp 61) (.tmp 64) (.const (.bool false))),
 o 2 (av 65)])
(.ret [2]))
(S (R [o 67 (bo .eql (t 4) (n 5)),
 o 66 (av 67)])
(.cond (t 66)
(S (R [o 68 (ld 32 1),
 o 69 (.build 32 #[(0, (.const (.int .i64 5)))]),
 o 70 (.binOp .eql 32 (.tmp 68) (.tmp 69) 32),
 o 2 (av 70)])
(.ret [2]))
(S (R [o 72 (bo .eql (t 4) (n 6)),
 o 71 (av 72)])
(.cond (t 71)
(S (R [o 73 (fa 32 1 1),
 o 74 (ld 3 73),
 o 75 (cl 95 #[(t 74)] #[3]),
 o 76 (mv 75),
 oT 77 (fa 32 1 2) 76,
 oT 78 (ld 3 77) 76,
 oT 79 (bo .eql (t 78) (n 0)) 76,
 o 80 (.pick (.tmp 76) (.tmp 79) (.const (.bool false))),
 o 81 (mv 80),
 oT 82 (fa 32 1 3) 81,
 oT 83 (ld 3 82) 81,
 oT 84 (bo .eql (t 83) (n 0)) 81,
 o 85 (.pick (.tmp 81) (.tmp 84) (.const (.bool false))),
 o 2 (av 85)])
(.ret [2]))
.skip))))))))))))))
(S (R [o 2 (ab false)])
(.ret [2]))))
def g136 : IFn := ⟨86, [.tmp 2], [4], c136, [], false, none⟩
/- 137 veil/arena.May$1 -/
def c137 : IR := (S (R [z 1 (bx 45 0),
 o 2 (ab false)])
(S (R [o 3 (ld 45 1),
 o 4 (cl 89 #[(t 3)] #[45]),
 o 5 (.unOp .not 4 (.tmp 4)),
 o 2 (av 5)])
(.ret [2])))
def g137 : IFn := ⟨6, [.tmp 2], [4], c137, [], false, none⟩
/- 138 slices.ContainsFunc[[]veil/api.Word,veil/api.Word] -/
def c138 : IR := (S (R [o 4 (ab false)])
(S (R [o 5 (mv 0),
 o 6 (mv 1),
 o 7 (cl 154 #[(t 5), (t 6)] #[23, 119]),
 o 8 (bo .geq (t 7) (n 0)),
 o 4 (av 8)])
(.ret [4])))
def g138 : IFn := ⟨9, [.tmp 4], [4], c138, [], false, none⟩
/- 139 slices.ContainsFunc[[]veil/api.Session,veil/api.Session] -/
def c139 : IR := (S (R [o 4 (ab false)])
(S (R [o 5 (mv 0),
 o 6 (mv 1),
 o 7 (cl 155 #[(t 5), (t 6)] #[26, 155]),
 o 8 (bo .geq (t 7) (n 0)),
 o 4 (av 8)])
(.ret [4])))
def g139 : IFn := ⟨9, [.tmp 4], [4], c139, [], false, none⟩
/- 140 veil/mach.all[veil/api.Session]$1 -/
def c140 : IR := (S (R [z 2 (bx 37 0),
 o 3 (ab false)])
(S (R [o 4 (ld 155 1),
 o 5 (ld 37 2),
 o 6 (.call { callee := (.value (.tmp 4)), args := #[(.tmp 5)], argTypes := #[37] }),
 o 7 (.unOp .not 4 (.tmp 6)),
 o 3 (av 7)])
(.ret [3])))
def g140 : IFn := ⟨8, [.tmp 3], [4], c140, [], false, none⟩
/- 141 veil/start.May -/
def c141 : IR := (S (R [z 1 (bx 66 0),
 o 2 (ab false)])
(S (R [o 3 (fa 66 1 0),
 o 4 (ld 3 3),
 o 5 (cl 110 #[(t 4)] #[3]),
 o 6 (mv 5),
 oT 7 (fa 66 1 1) 6,
 oT 8 (ld 3 7) 6,
 oT 9 (cl 94 #[(t 8)] #[3]) 6,
 o 10 (.pick (.tmp 6) (.tmp 9) (.const (.bool false))),
 o 11 (mv 10),
 oT 12 (fa 66 1 2) 11,
 oT 13 (ld 3 12) 11,
 oT 14 (cl 94 #[(t 13)] #[3]) 11,
 o 15 (.pick (.tmp 11) (.tmp 14) (.const (.bool false))),
 o 16 (mv 15),
 oT 17 (fa 66 1 1) 16,
 oT 18 (ld 3 17) 16,
 oT 19 (fa 66 1 2) 16,
 oT 20 (ld 3 19) 16,
 oT 21 (cl 156 #[(t 18), (t 20)] #[3, 3]) 16,
 o 22 (.pick (.tmp 16) (.tmp 21) (.const (.bool false))),
 o 23 (mv 22),
 oT 24 (fa 66 1 3) 23,
 oT 25 (ld 33 24) 23,
 oT 26 (cl 157 #[(t 25)] #[33]) 23,
 o 27 (.pick (.tmp 23) (.tmp 26) (.const (.bool false))),
 o 2 (av 27)])
(.ret [2])))
def g141 : IFn := ⟨28, [.tmp 2], [4], c141, [], false, none⟩
/- 142 veil/readset.May -/
def d142_1 : IR := D [o 15 (fa 105 4 0),
 o 16 (ld 3 15),
 o 17 (cl 94 #[(t 16)] #[3]),
 o 18 (.unOp .not 4 (.tmp 17)),
 o 19 (mv 18),
 oF 20 (fa 105 4 1) 19,
 oF 21 (ld 3 20) 19,
 oF 22 (cl 158 #[(t 21)] #[3]) 19,
 oF 23 (.unOp .not 4 (.tmp 22)) 19,
 o 24 (.pick (.tmp 19) (.const (.bool true)) (.tmp 23)),
 o 25 (mv 24),
 oF 26 (fa 105 4 2) 25,
 oF 27 (ld 3 26) 25,
 oF 28 (cl 124 #[(t 27)] #[3]) 25,
 oF 29 (.unOp .not 4 (.tmp 28)) 25,
 o 30 (.pick (.tmp 25) (.const (.bool true)) (.tmp 29)),
 o 31 (mv 30),
 oF 32 (mv 0) 31,
 oF 33 (mv 3) 31,
 oF 34 (.slice 34 (.tmp 32) none (some (.tmp 33)) none) 31,
 oF 35 (ld 105 4) 31,
 oF 36 (cl 160 #[(t 35)] #[105]) 31,
 oF 37 (cl 159 #[(t 34), (t 36)] #[34, 163]) 31,
 o 38 (.pick (.tmp 31) (.const (.bool true)) (.tmp 37))] [[], [0], [1], [2], [3, 2], [4], [5, 4], [6, 4, 4], [7, 4], [4, 8], [9, 7], [10], [11, 10], [12, 10, 10], [13, 10], [10, 14], [15, 13], [16], [16], [17, 18, 16], [16], [20, 16, 16], [19, 21, 21, 16], [16, 22]]
def c142_1 : IR := (S (R [o 11 (bo .lss (t 10) (t 9))])
(S (.cond (t 11)
.skip
(.exit 0 []))
(S (.block 1 (S (R [o 12 (mv 10),
 o 13 (ia 34 8 10),
 o 14 (ld 105 13),
 o 4 (al 105),
 o 3 (av 12),
 w (st 105 4 14)])
(S d142_1
(.cond (t 38)
(S (R [o 2 (ab false)])
(.ret [2]))
.skip))))
(R [o 39 (bo .add (t 10) (n 1)),
 o 10 (mv 39)]))))
def c142 : IR := (S (R [o 2 (ab false)])
(S (S (R [o 5 (mv 0),
 o 6 (len 5 34),
 o 7 (bo .gtr (t 6) (n 16))])
(.cond (t 7)
(S (R [o 2 (ab false)])
(.ret [2]))
.skip))
(S (S (R [o 8 (mv 0),
 o 9 (len 8 34),
 o 10 (.move (.const (.int .i64 0)))])
(.block 0 (.loop [0, 8, 9, 10] c142_1)))
(S (R [o 2 (ab true)])
(.ret [2])))))
def g142 : IFn := ⟨40, [.tmp 2], [4], c142, [], false, none⟩
/- 143 veil/writeset.May -/
def d143_1 : IR := D [o 12 (fa 60 4 0),
 o 13 (ld 3 12),
 o 14 (cl 94 #[(t 13)] #[3]),
 o 15 (.unOp .not 4 (.tmp 14)),
 o 16 (mv 15),
 oF 17 (fa 60 4 1) 16,
 oF 18 (ld 3 17) 16,
 oF 19 (cl 158 #[(t 18)] #[3]) 16,
 oF 20 (.unOp .not 4 (.tmp 19)) 16,
 o 21 (.pick (.tmp 16) (.const (.bool true)) (.tmp 20)),
 o 22 (mv 21),
 oF 23 (fa 60 4 2) 22,
 oF 24 (ld 3 23) 22,
 oF 25 (cl 90 #[(t 24)] #[3]) 22,
 oF 26 (.unOp .not 4 (.tmp 25)) 22,
 o 27 (.pick (.tmp 22) (.const (.bool true)) (.tmp 26)),
 o 28 (mv 27),
 oF 29 (mv 3) 28,
 oF 30 (bo .gtr (t 29) (n 0)) 28,
 oF 31 (mv 30) 28,
 oT 32 (mv 0) 31,
 oT 33 (mv 3) 31,
 oT 34 (bo .sub (t 33) (n 1)) 31,
 oT 35 (ia 35 32 34) 31,
 oT 36 (ld 60 35) 31,
 oT 37 (ld 60 4) 31,
 oT 38 (cl 161 #[(t 36), (t 37)] #[60, 60]) 31,
 oT 39 (bo .geq (t 38) (n 0)) 31,
 oF 40 (.pick (.tmp 31) (.tmp 39) (.const (.bool false))) 28,
 o 41 (.pick (.tmp 28) (.const (.bool true)) (.tmp 40))] [[], [0], [1], [2], [3, 2], [4], [5, 4], [6, 4, 4], [7, 4], [4, 8], [9, 7], [10], [11, 10], [12, 10, 10], [13, 10], [10, 14], [15, 13], [16], [17, 16], [18, 16, 16], [19], [19], [21, 19], [20, 22, 19], [23, 19], [19], [24, 25, 19, 19], [26, 19], [19, 27, 16], [16, 28]]
def c143_1 : IR := (S (R [o 8 (bo .lss (t 7) (t 6))])
(S (.cond (t 8)
.skip
(.exit 0 [0]))
(S (.block 1 (S (R [o 9 (mv 7),
 o 10 (ia 35 5 7),
 o 11 (ld 60 10),
 o 4 (al 60),
 o 3 (av 9),
 w (st 60 4 11)])
(S d143_1
(.cond (t 41)
(S (R [o 2 (ab false)])
(.ret [2]))
.skip))))
(R [o 42 (bo .add (t 7) (n 1)),
 o 7 (mv 42)]))))
def c143 : IR := (S (R [o 2 (ab false)])
(S (S (R [o 5 (mv 0),
 o 6 (len 5 35),
 o 7 (.move (.const (.int .i64 0)))])
(.block 0 (.loop [0, 5, 6, 7] c143_1)))
(S (R [o 43 (mv 0),
 o 44 (len 43 35),
 o 45 (bo .leq (t 44) (n 16)),
 o 2 (av 45)])
(.ret [2]))))
def g143 : IFn := ⟨46, [.tmp 2], [4], c143, [], false, none⟩
/- 144 veil/mach.all[veil/api.Read] -/
def c144 : IR := (S (R [z 3 (bx 163 1),
 o 4 (ab false)])
(S (R [o 5 (mv 0),
 o 6 (.makeFunc (Go.Fn.func 162) #[] #[(.tmp 3)]),
 o 7 (cl 159 #[(t 5), (t 6)] #[34, 163]),
 o 8 (.unOp .not 4 (.tmp 7)),
 o 4 (av 8)])
(.ret [4])))
def g144 : IFn := ⟨9, [.tmp 4], [4], c144, [], false, none⟩
/- 145 (veil/mach.looker).read -/
def c145 : IR := (S (R [z 2 (bx 158 0),
 z 3 (bx 105 1),
 o 4 (ab false)])
(S (R [o 5 (fa 158 2 0),
 o 6 (ld 156 5),
 o 7 (fa 105 3 0),
 o 8 (ld 3 7),
 o 9 (fa 105 3 1),
 o 10 (ld 3 9),
 o 11 (cl 163 #[(t 6), (t 8), (t 10)] #[156, 3, 3]),
 o 4 (av 11)])
(.ret [4])))
def g145 : IFn := ⟨12, [.tmp 4], [4], c145, [], false, none⟩
/- 146 veil/mach.all[veil/api.Write] -/
def c146 : IR := (S (R [z 3 (bx 165 1),
 o 4 (ab false)])
(S (R [o 5 (mv 0),
 o 6 (.makeFunc (Go.Fn.func 165) #[] #[(.tmp 3)]),
 o 7 (cl 164 #[(t 5), (t 6)] #[35, 165]),
 o 8 (.unOp .not 4 (.tmp 7)),
 o 4 (av 8)])
(.ret [4])))
def g146 : IFn := ⟨9, [.tmp 4], [4], c146, [], false, none⟩
/- 147 (veil/mach.looker).write -/
def c147 : IR := (S (R [z 2 (bx 158 0),
 z 3 (bx 60 1),
 o 4 (ab false)])
(S (R [o 5 (fa 158 2 0),
 o 6 (ld 156 5),
 o 7 (fa 60 3 0),
 o 8 (ld 3 7),
 o 9 (fa 60 3 1),
 o 10 (ld 3 9),
 o 11 (cl 163 #[(t 6), (t 8), (t 10)] #[156, 3, 3]),
 o 4 (av 11)])
(.ret [4])))
def g147 : IFn := ⟨12, [.tmp 4], [4], c147, [], false, none⟩
/- 148 veil/mach.all[veil/api.Inst] -/
def c148 : IR := (S (R [z 3 (bx 160 1),
 o 4 (ab false)])
(S (R [o 5 (mv 0),
 o 6 (.makeFunc (Go.Fn.func 167) #[] #[(.tmp 3)]),
 o 7 (cl 166 #[(t 5), (t 6)] #[33, 160]),
 o 8 (.unOp .not 4 (.tmp 7)),
 o 4 (av 8)])
(.ret [4])))
def g148 : IFn := ⟨9, [.tmp 4], [4], c148, [], false, none⟩
/- 149 (veil/mach.looker).inst -/
def c149 : IR := (S (R [z 2 (bx 158 0),
 z 3 (bx 32 1),
 o 4 (ab false)])
(S (R [o 5 (ld 32 3),
 o 6 (cl 168 #[(t 5)] #[32]),
 o 7 (.unOp .not 4 (.tmp 6)),
 o 8 (mv 7),
 oF 9 (fa 158 2 0) 8,
 oF 10 (ld 156 9) 8,
 oF 11 (fa 32 3 2) 8,
 oF 12 (ld 3 11) 8,
 oF 13 (fa 32 3 3) 8,
 oF 14 (ld 3 13) 8,
 oF 15 (cl 163 #[(t 10), (t 12), (t 14)] #[156, 3, 3]) 8,
 o 16 (.pick (.tmp 8) (.const (.bool true)) (.tmp 15)),
 o 4 (av 16)])
(.ret [4])))
def g149 : IFn := ⟨17, [.tmp 4], [4], c149, [], false, none⟩
/- 150 veil/mach.in -/
def c150 : IR := (S (R [o 4 (ab false)])
(S (R [o 5 (mv 0),
 o 6 (bo .geq (t 5) (n 0)),
 o 7 (mv 6),
 oT 8 (mv 0) 7,
 oT 9 (mv 1) 7,
 oT 10 (bo .leq (t 8) (t 9)) 7,
 o 11 (.pick (.tmp 7) (.tmp 10) (.const (.bool false))),
 o 4 (av 11)])
(.ret [4])))
def g150 : IFn := ⟨12, [.tmp 4], [4], c150, [], false, none⟩
/- 151 veil/regs.May -/
def c151_1 : IR := (S (R [o 7 (bo .lss (t 6) (n 4))])
(S (.cond (t 7)
.skip
(.exit 0 []))
(S (.block 1 (S (R [o 8 (nc 5),
 o 9 (ia 25 8 6),
 o 10 (ld 3 9),
 o 4 (av 10)])
(S (R [o 11 (mv 4),
 o 12 (cl 90 #[(t 11)] #[3]),
 o 13 (.unOp .not 4 (.tmp 12))])
(.cond (t 13)
(S (R [o 2 (ab false)])
(.ret [2]))
.skip))))
(R [o 14 (bo .add (t 6) (n 1)),
 o 6 (mv 14)]))))
def c151 : IR := (S (R [o 2 (ab false)])
(S (S (R [o 5 (mv 0),
 o 6 (.move (.const (.int .i64 0)))])
(.block 0 (.loop [5, 6] c151_1)))
(S (R [o 2 (ab true)])
(.ret [2]))))
def g151 : IFn := ⟨15, [.tmp 2], [4], c151, [], false, none⟩
/- 152 slices.ContainsFunc[[]veil/api.Event,veil/api.Event] -/
def c152 : IR := (S (R [o 4 (ab false)])
(S (R [o 5 (mv 0),
 o 6 (mv 1),
 o 7 (cl 169 #[(t 5), (t 6)] #[27, 153]),
 o 8 (bo .geq (t 7) (n 0)),
 o 4 (av 8)])
(.ret [4])))
def g152 : IFn := ⟨9, [.tmp 4], [4], c152, [], false, none⟩
/- 153 veil/mach.all[veil/api.Event]$1 -/
def c153 : IR := (S (R [z 2 (bx 92 0),
 o 3 (ab false)])
(S (R [o 4 (ld 153 1),
 o 5 (ld 92 2),
 o 6 (.call { callee := (.value (.tmp 4)), args := #[(.tmp 5)], argTypes := #[92] }),
 o 7 (.unOp .not 4 (.tmp 6)),
 o 3 (av 7)])
(.ret [3])))
def g153 : IFn := ⟨8, [.tmp 3], [4], c153, [], false, none⟩
/- 154 slices.IndexFunc[[]veil/api.Word,veil/api.Word] -/
def c154_1 : IR := (S (R [o 9 (bo .lss (t 8) (t 7))])
(S (.cond (t 9)
.skip
(.exit 0 []))
(S (.block 1 (S (R [o 10 (mv 8),
 o 5 (av 10)])
(S (R [o 11 (mv 1),
 o 12 (mv 0),
 o 13 (mv 5),
 o 14 (ia 23 12 13),
 o 15 (ld 45 14),
 o 16 (.call { callee := (.value (.tmp 11)), args := #[(.tmp 15)], argTypes := #[45] })])
(.cond (t 16)
(S (R [o 17 (mv 5),
 o 4 (av 17)])
(.ret [4]))
.skip))))
(R [o 18 (bo .add (t 8) (n 1)),
 o 8 (mv 18)]))))
def c154 : IR := (S (R [o 4 (an 0)])
(S (S (R [o 6 (mv 0),
 o 7 (len 6 23),
 o 8 (.move (.const (.int .i64 0)))])
(.block 0 (.loop [0, 1, 7, 8] c154_1)))
(S (R [o 4 (an (-1))])
(.ret [4]))))
def g154 : IFn := ⟨19, [.tmp 4], [3], c154, [], false, none⟩
/- 155 slices.IndexFunc[[]veil/api.Session,veil/api.Session] -/
def c155_1 : IR := (S (R [o 9 (bo .lss (t 8) (t 7))])
(S (.cond (t 9)
.skip
(.exit 0 []))
(S (.block 1 (S (R [o 10 (mv 8),
 o 5 (av 10)])
(S (R [o 11 (mv 1),
 o 12 (mv 0),
 o 13 (mv 5),
 o 14 (ia 26 12 13),
 o 15 (ld 37 14),
 o 16 (.call { callee := (.value (.tmp 11)), args := #[(.tmp 15)], argTypes := #[37] })])
(.cond (t 16)
(S (R [o 17 (mv 5),
 o 4 (av 17)])
(.ret [4]))
.skip))))
(R [o 18 (bo .add (t 8) (n 1)),
 o 8 (mv 18)]))))
def c155 : IR := (S (R [o 4 (an 0)])
(S (S (R [o 6 (mv 0),
 o 7 (len 6 26),
 o 8 (.move (.const (.int .i64 0)))])
(.block 0 (.loop [0, 1, 7, 8] c155_1)))
(S (R [o 4 (an (-1))])
(.ret [4]))))
def g155 : IFn := ⟨19, [.tmp 4], [3], c155, [], false, none⟩
/- 156 veil/label.Under -/
def c156 : IR := (S (R [o 4 (ab false)])
(S (R [o 5 (mv 0),
 o 6 (mv 1),
 o 7 (bo .or (t 5) (t 6)),
 o 8 (mv 1),
 o 9 (bo .eql (t 7) (t 8)),
 o 4 (av 9)])
(.ret [4])))
def g156 : IFn := ⟨10, [.tmp 4], [4], c156, [], false, none⟩
/- 157 veil/prog.May -/
def c157_1 : IR := (S (R [o 8 (bo .lss (t 7) (t 6))])
(S (.cond (t 8)
.skip
(.exit 0 [0]))
(S (.block 1 (S (R [o 9 (mv 7),
 o 10 (ia 33 5 7),
 o 11 (ld 32 10),
 o 4 (al 32),
 o 3 (av 9),
 w (st 32 4 11)])
(S (R [o 12 (ld 32 4),
 o 13 (cl 170 #[(t 12)] #[32]),
 o 14 (.unOp .not 4 (.tmp 13)),
 o 15 (mv 14),
 oF 16 (fa 32 4 0) 15,
 oF 17 (ld 3 16) 15,
 oF 18 (bo .eql (t 17) (n 4)) 15,
 oF 19 (mv 18) 15,
 oT 20 (fa 32 4 2) 19,
 oT 21 (ld 3 20) 19,
 oT 22 (mv 3) 19,
 oT 23 (bo .leq (t 21) (t 22)) 19,
 oT 24 (mv 23) 19,
 oF 25 (fa 32 4 2) 24,
 oF 26 (ld 3 25) 24,
 oF 27 (mv 0) 24,
 oF 28 (len 27 33) 24,
 oF 29 (bo .gtr (t 26) (t 28)) 24,
 oT 30 (.pick (.tmp 24) (.const (.bool true)) (.tmp 29)) 19,
 oF 31 (.pick (.tmp 19) (.tmp 30) (.const (.bool false))) 15,
 o 32 (.pick (.tmp 15) (.const (.bool true)) (.tmp 31))])
(.cond (t 32)
(S (R [o 2 (ab false)])
(.ret [2]))
.skip))))
(R [o 33 (bo .add (t 7) (n 1)),
 o 7 (mv 33)]))))
def c157 : IR := (S (R [o 2 (ab false)])
(S (S (R [o 5 (mv 0),
 o 6 (len 5 33),
 o 7 (.move (.const (.int .i64 0)))])
(.block 0 (.loop [0, 5, 6, 7] c157_1)))
(S (R [o 34 (mv 0),
 o 35 (len 34 33),
 o 36 (bo .leq (t 35) (n 16)),
 o 2 (av 36)])
(.ret [2]))))
def g157 : IFn := ⟨37, [.tmp 2], [4], c157, [], false, none⟩
/- 158 veil/readset.Index -/
def c158 : IR := (S (R [o 2 (ab false)])
(S (R [o 3 (mv 0),
 o 4 (bo .geq (t 3) (n 0)),
 o 5 (mv 4),
 oT 6 (mv 0) 5,
 oT 7 (bo .lss (t 6) (n 4)) 5,
 o 8 (.pick (.tmp 5) (.tmp 7) (.const (.bool false))),
 o 2 (av 8)])
(.ret [2])))
def g158 : IFn := ⟨9, [.tmp 2], [4], c158, [], false, none⟩
/- 159 slices.ContainsFunc[[]veil/api.Read,veil/api.Read] -/
def c159 : IR := (S (R [o 4 (ab false)])
(S (R [o 5 (mv 0),
 o 6 (mv 1),
 o 7 (cl 171 #[(t 5), (t 6)] #[34, 163]),
 o 8 (bo .geq (t 7) (n 0)),
 o 4 (av 8)])
(.ret [4])))
def g159 : IFn := ⟨9, [.tmp 4], [4], c159, [], false, none⟩
/- 160 veil/readset.of -/
def c160 : IR := (S (R [z 1 (bx 105 0),
 o 2 (.assign (.const .nilFunc))])
(S (R [o 3 (.makeFunc (Go.Fn.func 172) #[] #[(.tmp 1)]),
 o 2 (av 3)])
(.ret [2])))
def g160 : IFn := ⟨4, [.tmp 2], [163], c160, [], false, none⟩
/- 161 veil/writeset.row -/
def c161 : IR := (S (R [z 2 (bx 60 0),
 z 3 (bx 60 1),
 o 4 (an 0)])
(S (R [o 5 (fa 60 2 0),
 o 6 (ld 3 5),
 o 7 (fa 60 3 0),
 o 8 (ld 3 7),
 o 9 (bo .sub (t 6) (t 8)),
 o 10 (fa 60 2 1),
 o 11 (ld 3 10),
 o 12 (fa 60 3 1),
 o 13 (ld 3 12),
 o 14 (bo .sub (t 11) (t 13)),
 o 15 (.buildSlice 53 2 #[(0, (.tmp 9)), (1, (.tmp 14))]),
 o 16 (cl 173 #[(t 15)] #[53]),
 o 4 (av 16)])
(.ret [4])))
def g161 : IFn := ⟨17, [.tmp 4], [3], c161, [], false, none⟩
/- 162 veil/mach.all[veil/api.Read]$1 -/
def c162 : IR := (S (R [z 2 (bx 105 0),
 o 3 (ab false)])
(S (R [o 4 (ld 163 1),
 o 5 (ld 105 2),
 o 6 (.call { callee := (.value (.tmp 4)), args := #[(.tmp 5)], argTypes := #[105] }),
 o 7 (.unOp .not 4 (.tmp 6)),
 o 3 (av 7)])
(.ret [3])))
def g162 : IFn := ⟨8, [.tmp 3], [4], c162, [], false, none⟩
/- 163 veil/arena.There -/
def c163 : IR := (S (R [o 6 (ab false)])
(S (R [o 7 (mv 1),
 o 8 (cl 94 #[(t 7)] #[3]),
 o 9 (mv 8),
 oT 10 (mv 2) 9,
 oT 11 (bo .geq (t 10) (n 0)) 9,
 o 12 (.pick (.tmp 9) (.tmp 11) (.const (.bool false))),
 o 13 (mv 12),
 oT 14 (mv 2) 13,
 oT 15 (mv 0) 13,
 oT 16 (mv 1) 13,
 oT 17 (nc 15) 13,
 oT 18 (ia 24 17 16) 13,
 oT 19 (ld 23 18) 13,
 oT 20 (len 19 23) 13,
 oT 21 (bo .lss (t 14) (t 20)) 13,
 o 22 (.pick (.tmp 13) (.tmp 21) (.const (.bool false))),
 o 6 (av 22)])
(.ret [6])))
def g163 : IFn := ⟨23, [.tmp 6], [4], c163, [], false, none⟩
/- 164 slices.ContainsFunc[[]veil/api.Write,veil/api.Write] -/
def c164 : IR := (S (R [o 4 (ab false)])
(S (R [o 5 (mv 0),
 o 6 (mv 1),
 o 7 (cl 174 #[(t 5), (t 6)] #[35, 165]),
 o 8 (bo .geq (t 7) (n 0)),
 o 4 (av 8)])
(.ret [4])))
def g164 : IFn := ⟨9, [.tmp 4], [4], c164, [], false, none⟩
/- 165 veil/mach.all[veil/api.Write]$1 -/
def c165 : IR := (S (R [z 2 (bx 60 0),
 o 3 (ab false)])
(S (R [o 4 (ld 165 1),
 o 5 (ld 60 2),
 o 6 (.call { callee := (.value (.tmp 4)), args := #[(.tmp 5)], argTypes := #[60] }),
 o 7 (.unOp .not 4 (.tmp 6)),
 o 3 (av 7)])
(.ret [3])))
def g165 : IFn := ⟨8, [.tmp 3], [4], c165, [], false, none⟩
/- 166 slices.ContainsFunc[[]veil/api.Inst,veil/api.Inst] -/
def c166 : IR := (S (R [o 4 (ab false)])
(S (R [o 5 (mv 0),
 o 6 (mv 1),
 o 7 (cl 175 #[(t 5), (t 6)] #[33, 160]),
 o 8 (bo .geq (t 7) (n 0)),
 o 4 (av 8)])
(.ret [4])))
def g166 : IFn := ⟨9, [.tmp 4], [4], c166, [], false, none⟩
/- 167 veil/mach.all[veil/api.Inst]$1 -/
def c167 : IR := (S (R [z 2 (bx 32 0),
 o 3 (ab false)])
(S (R [o 4 (ld 160 1),
 o 5 (ld 32 2),
 o 6 (.call { callee := (.value (.tmp 4)), args := #[(.tmp 5)], argTypes := #[32] }),
 o 7 (.unOp .not 4 (.tmp 6)),
 o 3 (av 7)])
(.ret [3])))
def g167 : IFn := ⟨8, [.tmp 3], [4], c167, [], false, none⟩
/- 168 veil/inst.Word -/
def c168 : IR := (S (R [z 1 (bx 32 0),
 o 2 (ab false)])
(S (R [o 3 (fa 32 1 0),
 o 4 (ld 3 3),
 o 5 (bo .eql (t 4) (n 2)),
 o 6 (mv 5),
 oF 7 (fa 32 1 0) 6,
 oF 8 (ld 3 7) 6,
 oF 9 (bo .eql (t 8) (n 3)) 6,
 o 10 (.pick (.tmp 6) (.const (.bool true)) (.tmp 9)),
 o 2 (av 10)])
(.ret [2])))
def g168 : IFn := ⟨11, [.tmp 2], [4], c168, [], false, none⟩
/- 169 slices.IndexFunc[[]veil/api.Event,veil/api.Event] -/
def c169_1 : IR := (S (R [o 9 (bo .lss (t 8) (t 7))])
(S (.cond (t 9)
.skip
(.exit 0 []))
(S (.block 1 (S (R [o 10 (mv 8),
 o 5 (av 10)])
(S (R [o 11 (mv 1),
 o 12 (mv 0),
 o 13 (mv 5),
 o 14 (ia 27 12 13),
 o 15 (ld 92 14),
 o 16 (.call { callee := (.value (.tmp 11)), args := #[(.tmp 15)], argTypes := #[92] })])
(.cond (t 16)
(S (R [o 17 (mv 5),
 o 4 (av 17)])
(.ret [4]))
.skip))))
(R [o 18 (bo .add (t 8) (n 1)),
 o 8 (mv 18)]))))
def c169 : IR := (S (R [o 4 (an 0)])
(S (S (R [o 6 (mv 0),
 o 7 (len 6 27),
 o 8 (.move (.const (.int .i64 0)))])
(.block 0 (.loop [0, 1, 7, 8] c169_1)))
(S (R [o 4 (an (-1))])
(.ret [4]))))
def g169 : IFn := ⟨19, [.tmp 4], [3], c169, [], false, none⟩
/- 170 veil/inst.May -/
def d170_1 : IR := D [o 3 (ld 32 1),
 o 4 (cl 176 #[(t 3)] #[32]),
 o 5 (ld 32 1),
 o 6 (.binOp .neq 32 (.tmp 4) (.tmp 5) 32)] [[], [0], [], [1, 2]]
def c170 : IR := (S (R [z 1 (bx 32 0),
 o 2 (ab false)])
(S (S d170_1
(.cond (t 6)
(S (R [o 2 (ab false)])
(.ret [2]))
.skip))
(S (S (R [o 7 (fa 32 1 0),
 o 8 (ld 3 7)])
(.block 0 (S (R [o 10 (bo .eql (t 8) (n 0)),
 o 9 (av 10)])
(.cond (t 9)
(S (R [o 11 (fa 32 1 1),
 o 12 (ld 3 11),
 o 13 (cl 177 #[(t 12)] #[3]),
 o 14 (mv 13),
 oT 15 (fa 32 1 2) 14,
 oT 16 (ld 3 15) 14,
 oT 17 (cl 90 #[(t 16)] #[3]) 14,
 o 18 (.pick (.tmp 14) (.tmp 17) (.const (.bool false))),
 o 2 (av 18)])
(.ret [2]))
(S (R [o 20 (bo .eql (t 8) (n 1)),
 o 19 (av 20)])
(.cond (t 19)
(S (R [o 21 (fa 32 1 1),
 o 22 (ld 3 21),
 o 23 (cl 177 #[(t 22)] #[3]),
 o 24 (mv 23),
 oT 25 (fa 32 1 2) 24,
 oT 26 (ld 3 25) 24,
 oT 27 (cl 177 #[(t 26)] #[3]) 24,
 o 28 (.pick (.tmp 24) (.tmp 27) (.const (.bool false))),
 o 2 (av 28)])
(.ret [2]))
(S (S (R [o 30 (bo .eql (t 8) (n 2)),
 o 29 (av 30)])
(.cond (t 29)
.skip
(R [o 31 (bo .eql (t 8) (n 3)),
 o 29 (av 31)])))
(.cond (t 29)
(S (R [o 32 (fa 32 1 1),
 o 33 (ld 3 32),
 o 34 (cl 177 #[(t 33)] #[3]),
 o 35 (mv 34),
 oT 36 (fa 32 1 2) 35,
 oT 37 (ld 3 36) 35,
 oT 38 (cl 94 #[(t 37)] #[3]) 35,
 o 39 (.pick (.tmp 35) (.tmp 38) (.const (.bool false))),
 o 40 (mv 39),
 oT 41 (fa 32 1 3) 40,
 oT 42 (ld 3 41) 40,
 oT 43 (bo .geq (t 42) (n 0)) 40,
 o 44 (.pick (.tmp 40) (.tmp 43) (.const (.bool false))),
 o 45 (mv 44),
 oT 46 (fa 32 1 3) 45,
 oT 47 (ld 3 46) 45,
 oT 48 (bo .lss (t 47) (n 4)) 45,
 o 49 (.pick (.tmp 45) (.tmp 48) (.const (.bool false))),
 o 2 (av 49)])
(.ret [2]))
(S (R [o 51 (bo .eql (t 8) (n 4)),
 o 50 (av 51)])
(.cond (t 50)
(S (R [o 52 (fa 32 1 1),
 o 53 (ld 3 52),
 o 54 (cl 177 #[(t 53)] #[3]),
 o 55 (mv 54),
 oT 56 (fa 32 1 2) 55,
 oT 57 (ld 3 56) 55,
 oT 58 (bo .geq (t 57) (n 0)) 55,
 o 59 (.pick (.tmp 55) (.tmp 58) (.const (.bool false))),
 o 60 (mv 59),
 oT 61 (fa 32 1 2) 60,
 oT 62 (ld 3 61) 60,
 oT 63 (bo .leq (t 62) (n 16)) 60,
 o 64 (.pick (.tmp 60) (.tmp 63) (.const (.bool false))),
 o 2 (av 64)])
(.ret [2]))
(S (R [o 66 (bo .eql (t 8) (n 5)),
 o 65 (av 66)])
(.cond (t 65)
(S (R [o 2 (ab true)])
(.ret [2]))
.skip))))))))))))
(S (R [o 67 (fa 32 1 0),
 o 68 (ld 3 67),
 o 69 (bo .eql (t 68) (n 6)),
 o 70 (mv 69),
 oT 71 (fa 32 1 1) 70,
 oT 72 (ld 3 71) 70,
 oT 73 (cl 90 #[(t 72)] #[3]) 70,
 o 74 (.pick (.tmp 70) (.tmp 73) (.const (.bool false))),
 o 2 (av 74)])
(.ret [2])))))
def g170 : IFn := ⟨75, [.tmp 2], [4], c170, [], false, none⟩
/- 171 slices.IndexFunc[[]veil/api.Read,veil/api.Read] -/
def c171_1 : IR := (S (R [o 9 (bo .lss (t 8) (t 7))])
(S (.cond (t 9)
.skip
(.exit 0 []))
(S (.block 1 (S (R [o 10 (mv 8),
 o 5 (av 10)])
(S (R [o 11 (mv 1),
 o 12 (mv 0),
 o 13 (mv 5),
 o 14 (ia 34 12 13),
 o 15 (ld 105 14),
 o 16 (.call { callee := (.value (.tmp 11)), args := #[(.tmp 15)], argTypes := #[105] })])
(.cond (t 16)
(S (R [o 17 (mv 5),
 o 4 (av 17)])
(.ret [4]))
.skip))))
(R [o 18 (bo .add (t 8) (n 1)),
 o 8 (mv 18)]))))
def c171 : IR := (S (R [o 4 (an 0)])
(S (S (R [o 6 (mv 0),
 o 7 (len 6 34),
 o 8 (.move (.const (.int .i64 0)))])
(.block 0 (.loop [0, 1, 7, 8] c171_1)))
(S (R [o 4 (an (-1))])
(.ret [4]))))
def g171 : IFn := ⟨19, [.tmp 4], [3], c171, [], false, none⟩
/- 172 veil/readset.of$1 -/
def c172 : IR := (S (R [z 2 (bx 105 0),
 o 3 (ab false)])
(S (R [o 4 (fa 105 2 0),
 o 5 (ld 3 4),
 o 6 (fa 105 1 0),
 o 7 (ld 3 6),
 o 8 (bo .eql (t 5) (t 7)),
 o 9 (mv 8),
 oT 10 (fa 105 2 1) 9,
 oT 11 (ld 3 10) 9,
 oT 12 (fa 105 1 1) 9,
 oT 13 (ld 3 12) 9,
 oT 14 (bo .eql (t 11) (t 13)) 9,
 o 15 (.pick (.tmp 9) (.tmp 14) (.const (.bool false))),
 o 3 (av 15)])
(.ret [3])))
def g172 : IFn := ⟨16, [.tmp 3], [4], c172, [], false, none⟩
/- 173 cmp.Or[int] -/
def c173_1 : IR := (S (R [o 9 (bo .lss (t 8) (t 7))])
(S (.cond (t 9)
.skip
(.exit 0 [3]))
(S (.block 1 (S (R [o 10 (ia 53 6 8),
 o 11 (ld 3 10),
 o 5 (av 11)])
(S (R [o 12 (mv 5),
 o 13 (mv 3),
 o 14 (bo .neq (t 12) (t 13))])
(.cond (t 14)
(S (R [o 15 (mv 5),
 o 2 (av 15)])
(.ret [2]))
.skip))))
(R [o 16 (bo .add (t 8) (n 1)),
 o 8 (mv 16)]))))
def c173 : IR := (S (R [o 2 (an 0)])
(S (R [o 3 (an 0)])
(S (S (R [o 6 (mv 0),
 o 7 (len 6 53),
 o 8 (.move (.const (.int .i64 0)))])
(.block 0 (.loop [3, 6, 7, 8] c173_1)))
(S (R [o 17 (mv 3),
 o 2 (av 17)])
(.ret [2])))))
def g173 : IFn := ⟨18, [.tmp 2], [3], c173, [], false, none⟩
/- 174 slices.IndexFunc[[]veil/api.Write,veil/api.Write] -/
def c174_1 : IR := (S (R [o 9 (bo .lss (t 8) (t 7))])
(S (.cond (t 9)
.skip
(.exit 0 []))
(S (.block 1 (S (R [o 10 (mv 8),
 o 5 (av 10)])
(S (R [o 11 (mv 1),
 o 12 (mv 0),
 o 13 (mv 5),
 o 14 (ia 35 12 13),
 o 15 (ld 60 14),
 o 16 (.call { callee := (.value (.tmp 11)), args := #[(.tmp 15)], argTypes := #[60] })])
(.cond (t 16)
(S (R [o 17 (mv 5),
 o 4 (av 17)])
(.ret [4]))
.skip))))
(R [o 18 (bo .add (t 8) (n 1)),
 o 8 (mv 18)]))))
def c174 : IR := (S (R [o 4 (an 0)])
(S (S (R [o 6 (mv 0),
 o 7 (len 6 35),
 o 8 (.move (.const (.int .i64 0)))])
(.block 0 (.loop [0, 1, 7, 8] c174_1)))
(S (R [o 4 (an (-1))])
(.ret [4]))))
def g174 : IFn := ⟨19, [.tmp 4], [3], c174, [], false, none⟩
/- 175 slices.IndexFunc[[]veil/api.Inst,veil/api.Inst] -/
def c175_1 : IR := (S (R [o 9 (bo .lss (t 8) (t 7))])
(S (.cond (t 9)
.skip
(.exit 0 []))
(S (.block 1 (S (R [o 10 (mv 8),
 o 5 (av 10)])
(S (R [o 11 (mv 1),
 o 12 (mv 0),
 o 13 (mv 5),
 o 14 (ia 33 12 13),
 o 15 (ld 32 14),
 o 16 (.call { callee := (.value (.tmp 11)), args := #[(.tmp 15)], argTypes := #[32] })])
(.cond (t 16)
(S (R [o 17 (mv 5),
 o 4 (av 17)])
(.ret [4]))
.skip))))
(R [o 18 (bo .add (t 8) (n 1)),
 o 8 (mv 18)]))))
def c175 : IR := (S (R [o 4 (an 0)])
(S (S (R [o 6 (mv 0),
 o 7 (len 6 33),
 o 8 (.move (.const (.int .i64 0)))])
(.block 0 (.loop [0, 1, 7, 8] c175_1)))
(S (R [o 4 (an (-1))])
(.ret [4]))))
def g175 : IFn := ⟨19, [.tmp 4], [3], c175, [], false, none⟩
/- 176 veil/inst.names -/
def d176_1 : IR := D [o 13 (fa 32 1 1),
 o 14 (ld 3 13),
 o 15 (fa 32 1 2),
 o 16 (ld 3 15),
 o 17 (fa 32 3 1),
 w (st 3 17 14),
 o 18 (fa 32 3 2),
 w (st 3 18 16)] [[], [0], [], [2], [0, 1], [4, 1, 0, 1], [0, 1, 2, 3, 4, 5], [6, 3, 5, 0, 1, 2, 3, 4, 5]]
def c176 : IR := (S (R [z 1 (bx 32 0),
 o 2 (al 32)])
(S (R [o 4 (fa 32 1 0),
 o 5 (ld 3 4),
 o 6 (.build 32 #[(0, (.tmp 5))]),
 o 3 (al 32),
 w (st 32 3 6)])
(S (S (R [o 7 (fa 32 1 0),
 o 8 (ld 3 7)])
(.block 0 (S (S (R [o 10 (bo .eql (t 8) (n 0)),
 o 9 (av 10)])
(.cond (t 9)
.skip
(S (R [o 11 (bo .eql (t 8) (n 1)),
 o 9 (av 11)])
(.cond (t 9)
.skip
(R [o 12 (bo .eql (t 8) (n 4)),
 o 9 (av 12)])))))
(.cond (t 9)
d176_1
(S (S (R [o 20 (bo .eql (t 8) (n 2)),
 o 19 (av 20)])
(.cond (t 19)
.skip
(R [o 21 (bo .eql (t 8) (n 3)),
 o 19 (av 21)])))
(.cond (t 19)
(R [o 22 (ld 32 1),
 w (st 32 3 22)])
(S (R [o 24 (bo .eql (t 8) (n 6)),
 o 23 (av 24)])
(.cond (t 23)
(R [o 25 (fa 32 1 1),
 o 26 (ld 3 25),
 o 27 (fa 32 3 1),
 w (st 3 27 26)])
.skip))))))))
(S (R [o 28 (ld 32 3),
 w (st 32 2 28)])
(.ret [2])))))
def g176 : IFn := ⟨29, [.cell 2 32], [32], c176, [], false, none⟩
/- 177 veil/regs.Reg -/
def c177 : IR := (S (R [o 2 (ab false)])
(S (R [o 3 (mv 0),
 o 4 (bo .geq (t 3) (n 0)),
 o 5 (mv 4),
 oT 6 (mv 0) 5,
 oT 7 (bo .lss (t 6) (n 4)) 5,
 o 8 (.pick (.tmp 5) (.tmp 7) (.const (.bool false))),
 o 2 (av 8)])
(.ret [2])))
def g177 : IFn := ⟨9, [.tmp 2], [4], c177, [], false, none⟩
def tblL : List (Nat × IFn) := [(3, g3), (4, g4), (5, g5), (6, g6), (7, g7), (8, g8), (9, g9), (10, g10), (11, g11), (12, g12), (13, g13), (14, g14), (15, g15), (16, g16), (17, g17), (18, g18), (19, g19), (20, g20), (21, g21), (22, g22), (23, g23), (24, g24), (25, g25), (26, g26), (27, g27), (28, g28), (29, g29), (30, g30), (31, g31), (32, g32), (33, g33), (34, g34), (35, g35), (36, g36), (37, g37), (38, g38), (39, g39), (40, g40), (41, g41), (42, g42), (43, g43), (44, g44), (45, g45), (46, g46), (47, g47), (48, g48), (49, g49), (50, g50), (51, g51), (52, g52), (53, g53), (54, g54), (55, g55), (56, g56), (57, g57), (58, g58), (59, g59), (60, g60), (61, g61), (62, g62), (63, g63), (64, g64), (65, g65), (66, g66), (67, g67), (68, g68), (69, g69), (70, g70), (71, g71), (72, g72), (73, g73), (74, g74), (75, g75), (76, g76), (77, g77), (78, g78), (79, g79), (80, g80), (81, g81), (82, g82), (83, g83), (84, g84), (85, g85), (86, g86), (87, g87), (88, g88), (89, g89), (90, g90), (91, g91), (92, g92), (93, g93), (94, g94), (95, g95), (96, g96), (97, g97), (98, g98), (99, g99), (100, g100), (101, g101), (102, g102), (103, g103), (104, g104), (105, g105), (106, g106), (107, g107), (108, g108), (109, g109), (110, g110), (111, g111), (112, g112), (113, g113), (114, g114), (115, g115), (116, g116), (117, g117), (118, g118), (119, g119), (120, g120), (121, g121), (122, g122), (123, g123), (124, g124), (125, g125), (126, g126), (127, g127), (128, g128), (129, g129), (130, g130), (131, g131), (132, g132), (133, g133), (134, g134), (135, g135), (136, g136), (137, g137), (138, g138), (139, g139), (140, g140), (141, g141), (142, g142), (143, g143), (144, g144), (145, g145), (146, g146), (147, g147), (148, g148), (149, g149), (150, g150), (151, g151), (152, g152), (153, g153), (154, g154), (155, g155), (156, g156), (157, g157), (158, g158), (159, g159), (160, g160), (161, g161), (162, g162), (163, g163), (164, g164), (165, g165), (166, g166), (167, g167), (168, g168), (169, g169), (170, g170), (171, g171), (172, g172), (173, g173), (174, g174), (175, g175), (176, g176), (177, g177)]
def tbl : Tbl := lk tblL
def ctx : Ctx := ⟨lay, tbl⟩
@[go_sem] theorem ctx_L : ctx.L = lay := rfl
@[go_sem] theorem ctx_T : ctx.T = tbl := rfl
attribute [go_sem] y1 y2 y3 y4 y5 y6 y7 y8 y9 y10 y11 y12 y13 y23 y24 y25 y26 y27 y29 y32 y33 y34 y35 y37 y40 y45 y52 y53 y60 y64 y66 y67 y68 y70 y73 y74 y92 y105 y119 y123 y153 y155 y156 y158 y160 y163 y165 y196
@[go_sem] theorem lay_1 : lay 1 = some y1 := rfl
@[go_sem] theorem lay_2 : lay 2 = some y2 := rfl
@[go_sem] theorem lay_3 : lay 3 = some y3 := rfl
@[go_sem] theorem lay_4 : lay 4 = some y4 := rfl
@[go_sem] theorem lay_5 : lay 5 = some y5 := rfl
@[go_sem] theorem lay_6 : lay 6 = some y6 := rfl
@[go_sem] theorem lay_7 : lay 7 = some y7 := rfl
@[go_sem] theorem lay_8 : lay 8 = some y8 := rfl
@[go_sem] theorem lay_9 : lay 9 = some y9 := rfl
@[go_sem] theorem lay_10 : lay 10 = some y10 := rfl
@[go_sem] theorem lay_11 : lay 11 = some y11 := rfl
@[go_sem] theorem lay_12 : lay 12 = some y12 := rfl
@[go_sem] theorem lay_13 : lay 13 = some y13 := rfl
@[go_sem] theorem lay_23 : lay 23 = some y23 := rfl
@[go_sem] theorem lay_24 : lay 24 = some y24 := rfl
@[go_sem] theorem lay_25 : lay 25 = some y25 := rfl
@[go_sem] theorem lay_26 : lay 26 = some y26 := rfl
@[go_sem] theorem lay_27 : lay 27 = some y27 := rfl
@[go_sem] theorem lay_29 : lay 29 = some y29 := rfl
@[go_sem] theorem lay_32 : lay 32 = some y32 := rfl
@[go_sem] theorem lay_33 : lay 33 = some y33 := rfl
@[go_sem] theorem lay_34 : lay 34 = some y34 := rfl
@[go_sem] theorem lay_35 : lay 35 = some y35 := rfl
@[go_sem] theorem lay_37 : lay 37 = some y37 := rfl
@[go_sem] theorem lay_40 : lay 40 = some y40 := rfl
@[go_sem] theorem lay_45 : lay 45 = some y45 := rfl
@[go_sem] theorem lay_52 : lay 52 = some y52 := rfl
@[go_sem] theorem lay_53 : lay 53 = some y53 := rfl
@[go_sem] theorem lay_60 : lay 60 = some y60 := rfl
@[go_sem] theorem lay_64 : lay 64 = some y64 := rfl
@[go_sem] theorem lay_66 : lay 66 = some y66 := rfl
@[go_sem] theorem lay_67 : lay 67 = some y67 := rfl
@[go_sem] theorem lay_68 : lay 68 = some y68 := rfl
@[go_sem] theorem lay_70 : lay 70 = some y70 := rfl
@[go_sem] theorem lay_73 : lay 73 = some y73 := rfl
@[go_sem] theorem lay_74 : lay 74 = some y74 := rfl
@[go_sem] theorem lay_92 : lay 92 = some y92 := rfl
@[go_sem] theorem lay_105 : lay 105 = some y105 := rfl
@[go_sem] theorem lay_119 : lay 119 = some y119 := rfl
@[go_sem] theorem lay_123 : lay 123 = some y123 := rfl
@[go_sem] theorem lay_153 : lay 153 = some y153 := rfl
@[go_sem] theorem lay_155 : lay 155 = some y155 := rfl
@[go_sem] theorem lay_156 : lay 156 = some y156 := rfl
@[go_sem] theorem lay_158 : lay 158 = some y158 := rfl
@[go_sem] theorem lay_160 : lay 160 = some y160 := rfl
@[go_sem] theorem lay_163 : lay 163 = some y163 := rfl
@[go_sem] theorem lay_165 : lay 165 = some y165 := rfl
@[go_sem] theorem lay_196 : lay 196 = some y196 := rfl
@[go_sem] theorem k3 : CallP tbl 3 [] := fun _ _ _ _ _ _ => rfl
@[go_sem] theorem k4 : CallP tbl 4 [] := fun _ _ _ _ _ _ => rfl
@[go_sem] theorem k5 : CallP tbl 5 [] := fun _ _ _ _ _ _ => rfl
@[go_sem] theorem k6 : CallP tbl 6 [] := fun _ _ _ _ _ _ => rfl
@[go_sem] theorem k7 : CallP tbl 7 [] := fun _ _ _ _ _ _ => rfl
@[go_sem] theorem k8 : CallP tbl 8 [] := fun _ _ _ _ _ _ => rfl
@[go_sem] theorem k9 : CallP tbl 9 [] := fun _ _ _ _ _ _ => rfl
@[go_sem] theorem k10 : CallP tbl 10 [] := fun _ _ _ _ _ _ => rfl
@[go_sem] theorem k11 : CallP tbl 11 [] := fun _ _ _ _ _ _ => rfl
@[go_sem] theorem k12 : CallP tbl 12 [] := fun _ _ _ _ _ _ => rfl
@[go_sem] theorem k13 : CallP tbl 13 [] := fun _ _ _ _ _ _ => rfl
@[go_sem] theorem k14 : CallP tbl 14 [] := fun _ _ _ _ _ _ => rfl
@[go_sem] theorem k15 : CallP tbl 15 [] := fun _ _ _ _ _ _ => rfl
@[go_sem] theorem k16 : CallP tbl 16 [] := fun _ _ _ _ _ _ => rfl
@[go_sem] theorem k17 : CallP tbl 17 [] := fun _ _ _ _ _ _ => rfl
@[go_sem] theorem k18 : CallP tbl 18 [] := fun _ _ _ _ _ _ => rfl
@[go_sem] theorem k19 : CallP tbl 19 [] := fun _ _ _ _ _ _ => rfl
@[go_sem] theorem k20 : CallP tbl 20 [] := fun _ _ _ _ _ _ => rfl
@[go_sem] theorem k21 : CallP tbl 21 [] := fun _ _ _ _ _ _ => rfl
@[go_sem] theorem k22 : CallP tbl 22 [] := fun _ _ _ _ _ _ => rfl
@[go_sem] theorem k23 : CallP tbl 23 [true] := fun _ _ _ _ _ _ => rfl
@[go_sem] theorem k24 : CallP tbl 24 [] := fun _ _ _ _ _ _ => rfl
@[go_sem] theorem k25 : CallP tbl 25 [] := fun _ _ _ _ _ _ => rfl
@[go_sem] theorem k26 : CallP tbl 26 [] := fun _ _ _ _ _ _ => rfl
@[go_sem] theorem k27 : CallP tbl 27 [] := fun _ _ _ _ _ _ => rfl
@[go_sem] theorem k28 : CallP tbl 28 [] := fun _ _ _ _ _ _ => rfl
@[go_sem] theorem k29 : CallP tbl 29 [] := fun _ _ _ _ _ _ => rfl
@[go_sem] theorem k30 : CallP tbl 30 [] := fun _ _ _ _ _ _ => rfl
@[go_sem] theorem k31 : CallP tbl 31 [] := fun _ _ _ _ _ _ => rfl
@[go_sem] theorem k32 : CallP tbl 32 [] := fun _ _ _ _ _ _ => rfl
@[go_sem] theorem k33 : CallP tbl 33 [] := fun _ _ _ _ _ _ => rfl
@[go_sem] theorem k34 : CallP tbl 34 [] := fun _ _ _ _ _ _ => rfl
@[go_sem] theorem k35 : CallP tbl 35 [] := fun _ _ _ _ _ _ => rfl
@[go_sem] theorem k36 : CallP tbl 36 [] := fun _ _ _ _ _ _ => rfl
@[go_sem] theorem k37 : CallP tbl 37 [] := fun _ _ _ _ _ _ => rfl
@[go_sem] theorem k38 : CallP tbl 38 [] := fun _ _ _ _ _ _ => rfl
@[go_sem] theorem k39 : CallP tbl 39 [] := fun _ _ _ _ _ _ => rfl
@[go_sem] theorem k40 : CallP tbl 40 [] := fun _ _ _ _ _ _ => rfl
@[go_sem] theorem k41 : CallP tbl 41 [] := fun _ _ _ _ _ _ => rfl
@[go_sem] theorem k42 : CallP tbl 42 [] := fun _ _ _ _ _ _ => rfl
@[go_sem] theorem k43 : CallP tbl 43 [] := fun _ _ _ _ _ _ => rfl
@[go_sem] theorem k44 : CallP tbl 44 [] := fun _ _ _ _ _ _ => rfl
@[go_sem] theorem k45 : CallP tbl 45 [] := fun _ _ _ _ _ _ => rfl
@[go_sem] theorem k46 : CallP tbl 46 [] := fun _ _ _ _ _ _ => rfl
@[go_sem] theorem k47 : CallP tbl 47 [] := fun _ _ _ _ _ _ => rfl
@[go_sem] theorem k48 : CallP tbl 48 [] := fun _ _ _ _ _ _ => rfl
@[go_sem] theorem k49 : CallP tbl 49 [] := fun _ _ _ _ _ _ => rfl
@[go_sem] theorem k50 : CallP tbl 50 [] := fun _ _ _ _ _ _ => rfl
@[go_sem] theorem k51 : CallP tbl 51 [] := fun _ _ _ _ _ _ => rfl
@[go_sem] theorem k52 : CallP tbl 52 [true] := fun _ _ _ _ _ _ => rfl
@[go_sem] theorem k53 : CallP tbl 53 [true] := fun _ _ _ _ _ _ => rfl
@[go_sem] theorem k54 : CallP tbl 54 [true] := fun _ _ _ _ _ _ => rfl
@[go_sem] theorem k55 : CallP tbl 55 [] := fun _ _ _ _ _ _ => rfl
@[go_sem] theorem k56 : CallP tbl 56 [] := fun _ _ _ _ _ _ => rfl
@[go_sem] theorem k57 : CallP tbl 57 [] := fun _ _ _ _ _ _ => rfl
@[go_sem] theorem k58 : CallP tbl 58 [] := fun _ _ _ _ _ _ => rfl
@[go_sem] theorem k59 : CallP tbl 59 [] := fun _ _ _ _ _ _ => rfl
@[go_sem] theorem k60 : CallP tbl 60 [] := fun _ _ _ _ _ _ => rfl
@[go_sem] theorem k61 : CallP tbl 61 [] := fun _ _ _ _ _ _ => rfl
@[go_sem] theorem k62 : CallP tbl 62 [] := fun _ _ _ _ _ _ => rfl
@[go_sem] theorem k63 : CallP tbl 63 [] := fun _ _ _ _ _ _ => rfl
@[go_sem] theorem k64 : CallP tbl 64 [] := fun _ _ _ _ _ _ => rfl
@[go_sem] theorem k65 : CallP tbl 65 [] := fun _ _ _ _ _ _ => rfl
@[go_sem] theorem k66 : CallP tbl 66 [] := fun _ _ _ _ _ _ => rfl
@[go_sem] theorem k67 : CallP tbl 67 [] := fun _ _ _ _ _ _ => rfl
@[go_sem] theorem k68 : CallP tbl 68 [] := fun _ _ _ _ _ _ => rfl
@[go_sem] theorem k69 : CallP tbl 69 [] := fun _ _ _ _ _ _ => rfl
@[go_sem] theorem k70 : CallP tbl 70 [] := fun _ _ _ _ _ _ => rfl
@[go_sem] theorem k71 : CallP tbl 71 [] := fun _ _ _ _ _ _ => rfl
@[go_sem] theorem k72 : CallP tbl 72 [] := fun _ _ _ _ _ _ => rfl
@[go_sem] theorem k73 : CallP tbl 73 [] := fun _ _ _ _ _ _ => rfl
@[go_sem] theorem k74 : CallP tbl 74 [] := fun _ _ _ _ _ _ => rfl
@[go_sem] theorem k75 : CallP tbl 75 [] := fun _ _ _ _ _ _ => rfl
@[go_sem] theorem k76 : CallP tbl 76 [] := fun _ _ _ _ _ _ => rfl
@[go_sem] theorem k77 : CallP tbl 77 [] := fun _ _ _ _ _ _ => rfl
@[go_sem] theorem k78 : CallP tbl 78 [] := fun _ _ _ _ _ _ => rfl
@[go_sem] theorem k79 : CallP tbl 79 [] := fun _ _ _ _ _ _ => rfl
@[go_sem] theorem k80 : CallP tbl 80 [] := fun _ _ _ _ _ _ => rfl
@[go_sem] theorem k81 : CallP tbl 81 [] := fun _ _ _ _ _ _ => rfl
@[go_sem] theorem k82 : CallP tbl 82 [true] := fun _ _ _ _ _ _ => rfl
@[go_sem] theorem k83 : CallP tbl 83 [] := fun _ _ _ _ _ _ => rfl
@[go_sem] theorem k84 : CallP tbl 84 [] := fun _ _ _ _ _ _ => rfl
@[go_sem] theorem k85 : CallP tbl 85 [] := fun _ _ _ _ _ _ => rfl
@[go_sem] theorem k86 : CallC tbl 86 17 184 := fun _ _ _ _ => rfl
@[go_sem] theorem k87 : CallC tbl 87 4 32 := fun _ _ _ _ => rfl
@[go_sem] theorem k88 : CallP tbl 88 [] := fun _ _ _ _ _ _ => rfl
@[go_sem] theorem k89 : CallP tbl 89 [] := fun _ _ _ _ _ _ => rfl
@[go_sem] theorem k90 : CallP tbl 90 [] := fun _ _ _ _ _ _ => rfl
@[go_sem] theorem k91 : CallI tbl 91 := fun _ _ _ _ _ _ => rfl
@[go_sem] theorem k92 : CallI tbl 92 := fun _ _ _ _ _ _ => rfl
@[go_sem] theorem k93 : CallP tbl 93 [] := fun _ _ _ _ _ _ => rfl
@[go_sem] theorem k94 : CallP tbl 94 [] := fun _ _ _ _ _ _ => rfl
@[go_sem] theorem k95 : CallP tbl 95 [] := fun _ _ _ _ _ _ => rfl
@[go_sem] theorem k96 : CallP tbl 96 [] := fun _ _ _ _ _ _ => rfl
@[go_sem] theorem k97 : CallP tbl 97 [] := fun _ _ _ _ _ _ => rfl
@[go_sem] theorem k98 : CallP tbl 98 [] := fun _ _ _ _ _ _ => rfl
@[go_sem] theorem k99 : CallP tbl 99 [] := fun _ _ _ _ _ _ => rfl
@[go_sem] theorem k100 : CallP tbl 100 [true] := fun _ _ _ _ _ _ => rfl
@[go_sem] theorem k101 : CallP tbl 101 [true] := fun _ _ _ _ _ _ => rfl
@[go_sem] theorem k102 : CallP tbl 102 [true] := fun _ _ _ _ _ _ => rfl
@[go_sem] theorem k103 : CallP tbl 103 [true] := fun _ _ _ _ _ _ => rfl
@[go_sem] theorem k104 : CallP tbl 104 [] := fun _ _ _ _ _ _ => rfl
@[go_sem] theorem k105 : CallP tbl 105 [] := fun _ _ _ _ _ _ => rfl
@[go_sem] theorem k106 : CallP tbl 106 [] := fun _ _ _ _ _ _ => rfl
@[go_sem] theorem k107 : CallP tbl 107 [] := fun _ _ _ _ _ _ => rfl
@[go_sem] theorem k108 : CallP tbl 108 [] := fun _ _ _ _ _ _ => rfl
@[go_sem] theorem k109 : CallP tbl 109 [] := fun _ _ _ _ _ _ => rfl
@[go_sem] theorem k110 : CallP tbl 110 [] := fun _ _ _ _ _ _ => rfl
@[go_sem] theorem k111 : CallP tbl 111 [] := fun _ _ _ _ _ _ => rfl
@[go_sem] theorem k112 : CallP tbl 112 [] := fun _ _ _ _ _ _ => rfl
@[go_sem] theorem k113 : CallP tbl 113 [] := fun _ _ _ _ _ _ => rfl
@[go_sem] theorem k114 : CallP tbl 114 [] := fun _ _ _ _ _ _ => rfl
@[go_sem] theorem k115 : CallP tbl 115 [] := fun _ _ _ _ _ _ => rfl
@[go_sem] theorem k116 : CallP tbl 116 [] := fun _ _ _ _ _ _ => rfl
@[go_sem] theorem k117 : CallP tbl 117 [] := fun _ _ _ _ _ _ => rfl
@[go_sem] theorem k118 : CallP tbl 118 [] := fun _ _ _ _ _ _ => rfl
@[go_sem] theorem k119 : CallP tbl 119 [] := fun _ _ _ _ _ _ => rfl
@[go_sem] theorem k120 : CallC tbl 120 3 24 := fun _ _ _ _ => rfl
@[go_sem] theorem k121 : CallC tbl 121 4 32 := fun _ _ _ _ => rfl
@[go_sem] theorem k122 : CallC tbl 122 3 24 := fun _ _ _ _ => rfl
@[go_sem] theorem k123 : CallC tbl 123 3 24 := fun _ _ _ _ => rfl
@[go_sem] theorem k124 : CallP tbl 124 [] := fun _ _ _ _ _ _ => rfl
@[go_sem] theorem k125 : CallP tbl 125 [] := fun _ _ _ _ _ _ => rfl
@[go_sem] theorem k126 : CallI tbl 126 := fun _ _ _ _ _ _ => rfl
@[go_sem] theorem k127 : CallP tbl 127 [] := fun _ _ _ _ _ _ => rfl
@[go_sem] theorem k128 : CallP tbl 128 [] := fun _ _ _ _ _ _ => rfl
@[go_sem] theorem k129 : CallP tbl 129 [] := fun _ _ _ _ _ _ => rfl
@[go_sem] theorem k130 : CallP tbl 130 [] := fun _ _ _ _ _ _ => rfl
@[go_sem] theorem k131 : CallP tbl 131 [] := fun _ _ _ _ _ _ => rfl
@[go_sem] theorem k132 : CallP tbl 132 [] := fun _ _ _ _ _ _ => rfl
@[go_sem] theorem k133 : CallP tbl 133 [] := fun _ _ _ _ _ _ => rfl
@[go_sem] theorem k134 : CallP tbl 134 [] := fun _ _ _ _ _ _ => rfl
@[go_sem] theorem k135 : CallP tbl 135 [] := fun _ _ _ _ _ _ => rfl
@[go_sem] theorem k136 : CallP tbl 136 [] := fun _ _ _ _ _ _ => rfl
@[go_sem] theorem k137 : CallP tbl 137 [] := fun _ _ _ _ _ _ => rfl
@[go_sem] theorem k138 : CallP tbl 138 [] := fun _ _ _ _ _ _ => rfl
@[go_sem] theorem k139 : CallP tbl 139 [] := fun _ _ _ _ _ _ => rfl
@[go_sem] theorem k140 : CallP tbl 140 [] := fun _ _ _ _ _ _ => rfl
@[go_sem] theorem k141 : CallP tbl 141 [] := fun _ _ _ _ _ _ => rfl
@[go_sem] theorem k142 : CallP tbl 142 [] := fun _ _ _ _ _ _ => rfl
@[go_sem] theorem k143 : CallP tbl 143 [] := fun _ _ _ _ _ _ => rfl
@[go_sem] theorem k144 : CallP tbl 144 [] := fun _ _ _ _ _ _ => rfl
@[go_sem] theorem k145 : CallP tbl 145 [] := fun _ _ _ _ _ _ => rfl
@[go_sem] theorem k146 : CallP tbl 146 [] := fun _ _ _ _ _ _ => rfl
@[go_sem] theorem k147 : CallP tbl 147 [] := fun _ _ _ _ _ _ => rfl
@[go_sem] theorem k148 : CallP tbl 148 [] := fun _ _ _ _ _ _ => rfl
@[go_sem] theorem k149 : CallP tbl 149 [] := fun _ _ _ _ _ _ => rfl
@[go_sem] theorem k150 : CallP tbl 150 [] := fun _ _ _ _ _ _ => rfl
@[go_sem] theorem k151 : CallP tbl 151 [] := fun _ _ _ _ _ _ => rfl
@[go_sem] theorem k152 : CallP tbl 152 [] := fun _ _ _ _ _ _ => rfl
@[go_sem] theorem k153 : CallP tbl 153 [] := fun _ _ _ _ _ _ => rfl
@[go_sem] theorem k154 : CallP tbl 154 [] := fun _ _ _ _ _ _ => rfl
@[go_sem] theorem k155 : CallP tbl 155 [] := fun _ _ _ _ _ _ => rfl
@[go_sem] theorem k156 : CallP tbl 156 [] := fun _ _ _ _ _ _ => rfl
@[go_sem] theorem k157 : CallP tbl 157 [] := fun _ _ _ _ _ _ => rfl
@[go_sem] theorem k158 : CallP tbl 158 [] := fun _ _ _ _ _ _ => rfl
@[go_sem] theorem k159 : CallP tbl 159 [] := fun _ _ _ _ _ _ => rfl
@[go_sem] theorem k160 : CallP tbl 160 [] := fun _ _ _ _ _ _ => rfl
@[go_sem] theorem k161 : CallP tbl 161 [] := fun _ _ _ _ _ _ => rfl
@[go_sem] theorem k162 : CallP tbl 162 [] := fun _ _ _ _ _ _ => rfl
@[go_sem] theorem k163 : CallP tbl 163 [] := fun _ _ _ _ _ _ => rfl
@[go_sem] theorem k164 : CallP tbl 164 [] := fun _ _ _ _ _ _ => rfl
@[go_sem] theorem k165 : CallP tbl 165 [] := fun _ _ _ _ _ _ => rfl
@[go_sem] theorem k166 : CallP tbl 166 [] := fun _ _ _ _ _ _ => rfl
@[go_sem] theorem k167 : CallP tbl 167 [] := fun _ _ _ _ _ _ => rfl
@[go_sem] theorem k168 : CallP tbl 168 [] := fun _ _ _ _ _ _ => rfl
@[go_sem] theorem k169 : CallP tbl 169 [] := fun _ _ _ _ _ _ => rfl
@[go_sem] theorem k170 : CallP tbl 170 [] := fun _ _ _ _ _ _ => rfl
@[go_sem] theorem k171 : CallP tbl 171 [] := fun _ _ _ _ _ _ => rfl
@[go_sem] theorem k172 : CallP tbl 172 [] := fun _ _ _ _ _ _ => rfl
@[go_sem] theorem k173 : CallP tbl 173 [] := fun _ _ _ _ _ _ => rfl
@[go_sem] theorem k174 : CallP tbl 174 [] := fun _ _ _ _ _ _ => rfl
@[go_sem] theorem k175 : CallP tbl 175 [] := fun _ _ _ _ _ _ => rfl
@[go_sem] theorem k176 : CallP tbl 176 [] := fun _ _ _ _ _ _ => rfl
@[go_sem] theorem k177 : CallP tbl 177 [] := fun _ _ _ _ _ _ => rfl
section
variable (O : Orc) (P : FuncId → List V → Option V) (k : Nat) (s : St) (q : Out → St → Option Ans) (Q : V → Hp → Nat → Prop)
@[go_sem ↓] theorem v6_1 : Fin (evC ctx O P k d6_1 s q) Q = GU d6_1 ctx P s q Q ⟨⟩ ⟨⟩ := gE_U _ _ _ _ _ _ _ (by kernel_rfl)
@[go_sem ↓] theorem v6_2 : Fin (evC ctx O P k d6_2 s q) Q = GU d6_2 ctx P s q Q ⟨⟩ ⟨⟩ := gE_U _ _ _ _ _ _ _ (by kernel_rfl)
@[go_sem ↓] theorem v10_1 : Fin (evC ctx O P k d10_1 s q) Q = GU d10_1 ctx P s q Q ⟨⟩ ⟨⟩ := gE_U _ _ _ _ _ _ _ (by kernel_rfl)
@[go_sem ↓] theorem v11_1 : Fin (evC ctx O P k d11_1 s q) Q = GU d11_1 ctx P s q Q ⟨⟩ ⟨⟩ := gE_U _ _ _ _ _ _ _ (by kernel_rfl)
@[go_sem ↓] theorem v11_2 : Fin (evC ctx O P k d11_2 s q) Q = GU d11_2 ctx P s q Q ⟨⟩ ⟨⟩ := gE_U _ _ _ _ _ _ _ (by kernel_rfl)
@[go_sem ↓] theorem v11_3 : Fin (evC ctx O P k d11_3 s q) Q = GU d11_3 ctx P s q Q ⟨⟩ ⟨⟩ := gE_U _ _ _ _ _ _ _ (by kernel_rfl)
@[go_sem ↓] theorem v11_4 : Fin (evC ctx O P k d11_4 s q) Q = GU d11_4 ctx P s q Q ⟨⟩ ⟨⟩ := gE_U _ _ _ _ _ _ _ (by kernel_rfl)
@[go_sem ↓] theorem v12_1 : Fin (evC ctx O P k d12_1 s q) Q = GU d12_1 ctx P s q Q ⟨⟩ ⟨⟩ := gE_U _ _ _ _ _ _ _ (by kernel_rfl)
@[go_sem ↓] theorem v16_1 : Fin (evC ctx O P k d16_1 s q) Q = GU d16_1 ctx P s q Q ⟨⟩ ⟨⟩ := gE_U _ _ _ _ _ _ _ (by kernel_rfl)
@[go_sem ↓] theorem v16_2 : Fin (evC ctx O P k d16_2 s q) Q = GU d16_2 ctx P s q Q ⟨⟩ ⟨⟩ := gE_U _ _ _ _ _ _ _ (by kernel_rfl)
@[go_sem ↓] theorem v16_3 : Fin (evC ctx O P k d16_3 s q) Q = GU d16_3 ctx P s q Q ⟨⟩ ⟨⟩ := gE_U _ _ _ _ _ _ _ (by kernel_rfl)
@[go_sem ↓] theorem v16_4 : Fin (evC ctx O P k d16_4 s q) Q = GU d16_4 ctx P s q Q ⟨⟩ ⟨⟩ := gE_U _ _ _ _ _ _ _ (by kernel_rfl)
@[go_sem ↓] theorem v16_5 : Fin (evC ctx O P k d16_5 s q) Q = GU d16_5 ctx P s q Q ⟨⟩ ⟨⟩ := gE_U _ _ _ _ _ _ _ (by kernel_rfl)
@[go_sem ↓] theorem v19_1 : Fin (evC ctx O P k d19_1 s q) Q = GU d19_1 ctx P s q Q ⟨⟩ ⟨⟩ := gE_U _ _ _ _ _ _ _ (by kernel_rfl)
@[go_sem ↓] theorem v20_1 : Fin (evC ctx O P k d20_1 s q) Q = GU d20_1 ctx P s q Q ⟨⟩ ⟨⟩ := gE_U _ _ _ _ _ _ _ (by kernel_rfl)
@[go_sem ↓] theorem v21_1 : Fin (evC ctx O P k d21_1 s q) Q = GU d21_1 ctx P s q Q ⟨⟩ ⟨⟩ := gE_U _ _ _ _ _ _ _ (by kernel_rfl)
@[go_sem ↓] theorem v22_1 : Fin (evC ctx O P k d22_1 s q) Q = GU d22_1 ctx P s q Q ⟨⟩ ⟨⟩ := gE_U _ _ _ _ _ _ _ (by kernel_rfl)
@[go_sem ↓] theorem v23_1 : Fin (evC ctx O P k d23_1 s q) Q = GU d23_1 ctx P s q Q ⟨⟩ ⟨⟩ := gE_U _ _ _ _ _ _ _ (by kernel_rfl)
@[go_sem ↓] theorem v26_1 : Fin (evC ctx O P k d26_1 s q) Q = GU d26_1 ctx P s q Q ⟨⟩ ⟨⟩ := gE_U _ _ _ _ _ _ _ (by kernel_rfl)
@[go_sem ↓] theorem v27_1 : Fin (evC ctx O P k d27_1 s q) Q = GU d27_1 ctx P s q Q ⟨⟩ ⟨⟩ := gE_U _ _ _ _ _ _ _ (by kernel_rfl)
@[go_sem ↓] theorem v28_1 : Fin (evC ctx O P k d28_1 s q) Q = GU d28_1 ctx P s q Q ⟨⟩ ⟨⟩ := gE_U _ _ _ _ _ _ _ (by kernel_rfl)
@[go_sem ↓] theorem v28_2 : Fin (evC ctx O P k d28_2 s q) Q = GU d28_2 ctx P s q Q ⟨⟩ ⟨⟩ := gE_U _ _ _ _ _ _ _ (by kernel_rfl)
@[go_sem ↓] theorem v29_1 : Fin (evC ctx O P k d29_1 s q) Q = GU d29_1 ctx P s q Q ⟨⟩ ⟨⟩ := gE_U _ _ _ _ _ _ _ (by kernel_rfl)
@[go_sem ↓] theorem v29_2 : Fin (evC ctx O P k d29_2 s q) Q = GU d29_2 ctx P s q Q ⟨⟩ ⟨⟩ := gE_U _ _ _ _ _ _ _ (by kernel_rfl)
@[go_sem ↓] theorem v29_3 : Fin (evC ctx O P k d29_3 s q) Q = GU d29_3 ctx P s q Q ⟨⟩ ⟨⟩ := gE_U _ _ _ _ _ _ _ (by kernel_rfl)
@[go_sem ↓] theorem v29_4 : Fin (evC ctx O P k d29_4 s q) Q = GU d29_4 ctx P s q Q ⟨⟩ ⟨⟩ := gE_U _ _ _ _ _ _ _ (by kernel_rfl)
@[go_sem ↓] theorem v29_5 : Fin (evC ctx O P k d29_5 s q) Q = GU d29_5 ctx P s q Q ⟨⟩ ⟨⟩ := gE_U _ _ _ _ _ _ _ (by kernel_rfl)
@[go_sem ↓] theorem v30_1 : Fin (evC ctx O P k d30_1 s q) Q = GU d30_1 ctx P s q Q ⟨⟩ ⟨⟩ := gE_U _ _ _ _ _ _ _ (by kernel_rfl)
@[go_sem ↓] theorem v30_2 : Fin (evC ctx O P k d30_2 s q) Q = GU d30_2 ctx P s q Q ⟨⟩ ⟨⟩ := gE_U _ _ _ _ _ _ _ (by kernel_rfl)
@[go_sem ↓] theorem v34_1 : Fin (evC ctx O P k d34_1 s q) Q = GU d34_1 ctx P s q Q ⟨⟩ ⟨⟩ := gE_U _ _ _ _ _ _ _ (by kernel_rfl)
@[go_sem ↓] theorem v34_2 : Fin (evC ctx O P k d34_2 s q) Q = GU d34_2 ctx P s q Q ⟨⟩ ⟨⟩ := gE_U _ _ _ _ _ _ _ (by kernel_rfl)
@[go_sem ↓] theorem v37_1 : Fin (evC ctx O P k d37_1 s q) Q = GU d37_1 ctx P s q Q ⟨⟩ ⟨⟩ := gE_U _ _ _ _ _ _ _ (by kernel_rfl)
@[go_sem ↓] theorem v38_1 : Fin (evC ctx O P k d38_1 s q) Q = GU d38_1 ctx P s q Q ⟨⟩ ⟨⟩ := gE_U _ _ _ _ _ _ _ (by kernel_rfl)
@[go_sem ↓] theorem v40_1 : Fin (evC ctx O P k d40_1 s q) Q = GU d40_1 ctx P s q Q ⟨⟩ ⟨⟩ := gE_U _ _ _ _ _ _ _ (by kernel_rfl)
@[go_sem ↓] theorem v40_2 : Fin (evC ctx O P k d40_2 s q) Q = GU d40_2 ctx P s q Q ⟨⟩ ⟨⟩ := gE_U _ _ _ _ _ _ _ (by kernel_rfl)
@[go_sem ↓] theorem v41_1 : Fin (evC ctx O P k d41_1 s q) Q = GU d41_1 ctx P s q Q ⟨⟩ ⟨⟩ := gE_U _ _ _ _ _ _ _ (by kernel_rfl)
@[go_sem ↓] theorem v41_2 : Fin (evC ctx O P k d41_2 s q) Q = GU d41_2 ctx P s q Q ⟨⟩ ⟨⟩ := gE_U _ _ _ _ _ _ _ (by kernel_rfl)
@[go_sem ↓] theorem v43_1 : Fin (evC ctx O P k d43_1 s q) Q = GU d43_1 ctx P s q Q ⟨⟩ ⟨⟩ := gE_U _ _ _ _ _ _ _ (by kernel_rfl)
@[go_sem ↓] theorem v43_2 : Fin (evC ctx O P k d43_2 s q) Q = GU d43_2 ctx P s q Q ⟨⟩ ⟨⟩ := gE_U _ _ _ _ _ _ _ (by kernel_rfl)
@[go_sem ↓] theorem v48_1 : Fin (evC ctx O P k d48_1 s q) Q = GU d48_1 ctx P s q Q ⟨⟩ ⟨⟩ := gE_U _ _ _ _ _ _ _ (by kernel_rfl)
@[go_sem ↓] theorem v49_1 : Fin (evC ctx O P k d49_1 s q) Q = GU d49_1 ctx P s q Q ⟨⟩ ⟨⟩ := gE_U _ _ _ _ _ _ _ (by kernel_rfl)
@[go_sem ↓] theorem v56_1 : Fin (evC ctx O P k d56_1 s q) Q = GU d56_1 ctx P s q Q ⟨⟩ ⟨⟩ := gE_U _ _ _ _ _ _ _ (by kernel_rfl)
@[go_sem ↓] theorem v64_1 : Fin (evC ctx O P k d64_1 s q) Q = GU d64_1 ctx P s q Q ⟨⟩ ⟨⟩ := gE_U _ _ _ _ _ _ _ (by kernel_rfl)
@[go_sem ↓] theorem v66_1 : Fin (evC ctx O P k d66_1 s q) Q = GU d66_1 ctx P s q Q ⟨⟩ ⟨⟩ := gE_U _ _ _ _ _ _ _ (by kernel_rfl)
@[go_sem ↓] theorem v66_2 : Fin (evC ctx O P k d66_2 s q) Q = GU d66_2 ctx P s q Q ⟨⟩ ⟨⟩ := gE_U _ _ _ _ _ _ _ (by kernel_rfl)
@[go_sem ↓] theorem v67_1 : Fin (evC ctx O P k d67_1 s q) Q = GU d67_1 ctx P s q Q ⟨⟩ ⟨⟩ := gE_U _ _ _ _ _ _ _ (by kernel_rfl)
@[go_sem ↓] theorem v67_2 : Fin (evC ctx O P k d67_2 s q) Q = GU d67_2 ctx P s q Q ⟨⟩ ⟨⟩ := gE_U _ _ _ _ _ _ _ (by kernel_rfl)
@[go_sem ↓] theorem v69_1 : Fin (evC ctx O P k d69_1 s q) Q = GU d69_1 ctx P s q Q ⟨⟩ ⟨⟩ := gE_U _ _ _ _ _ _ _ (by kernel_rfl)
@[go_sem ↓] theorem v70_1 : Fin (evC ctx O P k d70_1 s q) Q = GU d70_1 ctx P s q Q ⟨⟩ ⟨⟩ := gE_U _ _ _ _ _ _ _ (by kernel_rfl)
@[go_sem ↓] theorem v71_1 : Fin (evC ctx O P k d71_1 s q) Q = GU d71_1 ctx P s q Q ⟨⟩ ⟨⟩ := gE_U _ _ _ _ _ _ _ (by kernel_rfl)
@[go_sem ↓] theorem v75_1 : Fin (evC ctx O P k d75_1 s q) Q = GU d75_1 ctx P s q Q ⟨⟩ ⟨⟩ := gE_U _ _ _ _ _ _ _ (by kernel_rfl)
@[go_sem ↓] theorem v76_1 : Fin (evC ctx O P k d76_1 s q) Q = GU d76_1 ctx P s q Q ⟨⟩ ⟨⟩ := gE_U _ _ _ _ _ _ _ (by kernel_rfl)
@[go_sem ↓] theorem v77_1 : Fin (evC ctx O P k d77_1 s q) Q = GU d77_1 ctx P s q Q ⟨⟩ ⟨⟩ := gE_U _ _ _ _ _ _ _ (by kernel_rfl)
@[go_sem ↓] theorem v77_2 : Fin (evC ctx O P k d77_2 s q) Q = GU d77_2 ctx P s q Q ⟨⟩ ⟨⟩ := gE_U _ _ _ _ _ _ _ (by kernel_rfl)
@[go_sem ↓] theorem v78_1 : Fin (evC ctx O P k d78_1 s q) Q = GU d78_1 ctx P s q Q ⟨⟩ ⟨⟩ := gE_U _ _ _ _ _ _ _ (by kernel_rfl)
@[go_sem ↓] theorem v78_2 : Fin (evC ctx O P k d78_2 s q) Q = GU d78_2 ctx P s q Q ⟨⟩ ⟨⟩ := gE_U _ _ _ _ _ _ _ (by kernel_rfl)
@[go_sem ↓] theorem v79_1 : Fin (evC ctx O P k d79_1 s q) Q = GU d79_1 ctx P s q Q ⟨⟩ ⟨⟩ := gE_U _ _ _ _ _ _ _ (by kernel_rfl)
@[go_sem ↓] theorem v79_2 : Fin (evC ctx O P k d79_2 s q) Q = GU d79_2 ctx P s q Q ⟨⟩ ⟨⟩ := gE_U _ _ _ _ _ _ _ (by kernel_rfl)
@[go_sem ↓] theorem v79_3 : Fin (evC ctx O P k d79_3 s q) Q = GU d79_3 ctx P s q Q ⟨⟩ ⟨⟩ := gE_U _ _ _ _ _ _ _ (by kernel_rfl)
@[go_sem ↓] theorem v82_1 : Fin (evC ctx O P k d82_1 s q) Q = GU d82_1 ctx P s q Q ⟨⟩ ⟨⟩ := gE_U _ _ _ _ _ _ _ (by kernel_rfl)
@[go_sem ↓] theorem v83_1 : Fin (evC ctx O P k d83_1 s q) Q = GU d83_1 ctx P s q Q ⟨⟩ ⟨⟩ := gE_U _ _ _ _ _ _ _ (by kernel_rfl)
@[go_sem ↓] theorem v88_1 : Fin (evC ctx O P k d88_1 s q) Q = GU d88_1 ctx P s q Q ⟨⟩ ⟨⟩ := gE_U _ _ _ _ _ _ _ (by kernel_rfl)
@[go_sem ↓] theorem v92_1 : Fin (evC ctx O P k d92_1 s q) Q = GU d92_1 ctx P s q Q ⟨⟩ ⟨⟩ := gE_U _ _ _ _ _ _ _ (by kernel_rfl)
@[go_sem ↓] theorem v97_1 : Fin (evC ctx O P k d97_1 s q) Q = GU d97_1 ctx P s q Q ⟨⟩ ⟨⟩ := gE_U _ _ _ _ _ _ _ (by kernel_rfl)
@[go_sem ↓] theorem v98_1 : Fin (evC ctx O P k d98_1 s q) Q = GU d98_1 ctx P s q Q ⟨⟩ ⟨⟩ := gE_U _ _ _ _ _ _ _ (by kernel_rfl)
@[go_sem ↓] theorem v99_1 : Fin (evC ctx O P k d99_1 s q) Q = GU d99_1 ctx P s q Q ⟨⟩ ⟨⟩ := gE_U _ _ _ _ _ _ _ (by kernel_rfl)
@[go_sem ↓] theorem v107_1 : Fin (evC ctx O P k d107_1 s q) Q = GU d107_1 ctx P s q Q ⟨⟩ ⟨⟩ := gE_U _ _ _ _ _ _ _ (by kernel_rfl)
@[go_sem ↓] theorem v107_2 : Fin (evC ctx O P k d107_2 s q) Q = GU d107_2 ctx P s q Q ⟨⟩ ⟨⟩ := gE_U _ _ _ _ _ _ _ (by kernel_rfl)
@[go_sem ↓] theorem v109_1 : Fin (evC ctx O P k d109_1 s q) Q = GU d109_1 ctx P s q Q ⟨⟩ ⟨⟩ := gE_U _ _ _ _ _ _ _ (by kernel_rfl)
@[go_sem ↓] theorem v115_1 : Fin (evC ctx O P k d115_1 s q) Q = GU d115_1 ctx P s q Q ⟨⟩ ⟨⟩ := gE_U _ _ _ _ _ _ _ (by kernel_rfl)
@[go_sem ↓] theorem v116_1 : Fin (evC ctx O P k d116_1 s q) Q = GU d116_1 ctx P s q Q ⟨⟩ ⟨⟩ := gE_U _ _ _ _ _ _ _ (by kernel_rfl)
@[go_sem ↓] theorem v118_1 : Fin (evC ctx O P k d118_1 s q) Q = GU d118_1 ctx P s q Q ⟨⟩ ⟨⟩ := gE_U _ _ _ _ _ _ _ (by kernel_rfl)
@[go_sem ↓] theorem v119_1 : Fin (evC ctx O P k d119_1 s q) Q = GU d119_1 ctx P s q Q ⟨⟩ ⟨⟩ := gE_U _ _ _ _ _ _ _ (by kernel_rfl)
@[go_sem ↓] theorem v119_2 : Fin (evC ctx O P k d119_2 s q) Q = GU d119_2 ctx P s q Q ⟨⟩ ⟨⟩ := gE_U _ _ _ _ _ _ _ (by kernel_rfl)
@[go_sem ↓] theorem v142_1 : Fin (evC ctx O P k d142_1 s q) Q = GU d142_1 ctx P s q Q ⟨⟩ ⟨⟩ := gE_U _ _ _ _ _ _ _ (by kernel_rfl)
@[go_sem ↓] theorem v143_1 : Fin (evC ctx O P k d143_1 s q) Q = GU d143_1 ctx P s q Q ⟨⟩ ⟨⟩ := gE_U _ _ _ _ _ _ _ (by kernel_rfl)
@[go_sem ↓] theorem v170_1 : Fin (evC ctx O P k d170_1 s q) Q = GU d170_1 ctx P s q Q ⟨⟩ ⟨⟩ := gE_U _ _ _ _ _ _ _ (by kernel_rfl)
@[go_sem ↓] theorem v176_1 : Fin (evC ctx O P k d176_1 s q) Q = GU d176_1 ctx P s q Q ⟨⟩ ⟨⟩ := gE_U _ _ _ _ _ _ _ (by kernel_rfl)
end
attribute [go_sem] d6_1 d6_2 d10_1 d11_1 d11_2 d11_3 d11_4 d12_1 d16_1 d16_2 d16_3 d16_4 d16_5 d19_1 d20_1 d21_1 d22_1 d23_1 d26_1 d27_1 d28_1 d28_2 d29_1 d29_2 d29_3 d29_4 d29_5 d30_1 d30_2 d34_1 d34_2 d37_1 d38_1 d40_1 d40_2 d41_1 d41_2 d43_1 d43_2 d48_1 d49_1 d56_1 d64_1 d66_1 d66_2 d67_1 d67_2 d69_1 d70_1 d71_1 d75_1 d76_1 d77_1 d77_2 d78_1 d78_2 d79_1 d79_2 d79_3 d82_1 d83_1 d88_1 d92_1 d97_1 d98_1 d99_1 d107_1 d107_2 d109_1 d115_1 d116_1 d118_1 d119_1 d119_2 d142_1 d143_1 d170_1 d176_1
end Ve
