/- The tables: made by my program. -/
import Derived.Test.YtapgmjgledahiaaGreatVeM
import Derived.Test.YtapgmjgledahiaaGreatVeN
import Derived.KernelRfl
set_option linter.all false
set_option linter.unusedSectionVars false
namespace Ve
open Go Ve.Ab
abbrev iZ : V := .lit (.int .i64 0)
def y1 : TI := ⟨1, 8, .lit .nilFunc, .scalar, false, none, false, []⟩
def y2 : TI := ⟨1, 8, iZ, .scalar, false, some .i64, false, []⟩
def y3 : TI := ⟨1, 8, iZ, .scalar, false, some .i64, false, []⟩
def y4 : TI := ⟨1, 1, .lit (.bool false), .scalar, false, none, true, []⟩
def y5 : TI := ⟨1, 1, .lit (.int .u8 0), .scalar, false, some .u8, false, []⟩
def y6 : TI := ⟨1, 1, .lit (.int .u8 0), .scalar, false, some .u8, false, []⟩
def y7 : TI := ⟨4, 24, .agg [iZ, iZ, .lit (.bool false), .lit (.int .u8 0)], .struct [(0, 1), (1, 1), (2, 1), (3, 1)], false, none, false, [2, 3, 4, 6]⟩
def y8 : TI := ⟨4, 24, .agg [iZ, iZ, .lit (.bool false), .lit (.int .u8 0)], .struct [(0, 1), (1, 1), (2, 1), (3, 1)], false, none, false, [2, 3, 4, 6]⟩
def y9 : TI := ⟨1, 16, .lit (.string ⟨#[]⟩), .scalar, false, none, false, []⟩
def y10 : TI := ⟨1, 16, .lit (.string ⟨#[]⟩), .scalar, false, none, false, []⟩
def y11 : TI := ⟨1, 16, .lit (.string ⟨#[]⟩), .scalar, false, none, false, []⟩
def y12 : TI := ⟨1, 8, .lit (.int .u64 0), .scalar, false, some .u64, false, []⟩
def y13 : TI := ⟨2, 24, .agg [.lit (.string ⟨#[]⟩), .lit (.int .u64 0)], .struct [(0, 1), (1, 1)], false, none, false, [9, 12]⟩
def y22 : TI := ⟨1, 24, .own 3 [], .sl 54, false, none, false, []⟩
def y23 : TI := ⟨4, 96, .agg [.own 3 [], .own 3 [], .own 3 [], .own 3 []], .arr 4 22, false, none, false, []⟩
def y24 : TI := ⟨4, 32, .agg [iZ, iZ, iZ, iZ], .arr 4 3, true, none, false, []⟩
def y25 : TI := ⟨1, 24, .own 17 [], .sl 44, false, none, false, []⟩
def y26 : TI := ⟨1, 24, .own 4 [], .sl 68, false, none, false, []⟩
def y28 : TI := ⟨11, 184, .agg [.own 3 [], .own 3 [], .own 3 [], .own 3 [], iZ, iZ, iZ, iZ, iZ, .own 17 [], .own 4 []], .struct [(0, 4), (4, 4), (8, 1), (9, 1), (10, 1)], false, none, false, [23, 24, 3, 25, 26]⟩
def y30 : TI := ⟨1, 8, iZ, .scalar, false, some .i64, false, []⟩
def y40 : TI := ⟨1, 24, .own 4 [], .sl 57, false, none, false, []⟩
def y41 : TI := ⟨1, 24, .own 3 [], .sl 59, false, none, false, []⟩
def y42 : TI := ⟨1, 24, .own 3 [], .sl 65, false, none, false, []⟩
def y44 : TI := ⟨17, 184, .agg [iZ, iZ, iZ, .own 4 [], iZ, iZ, iZ, iZ, iZ, iZ, .own 3 [], .own 3 [], iZ, iZ, iZ, iZ, iZ], .struct [(0, 1), (1, 1), (2, 1), (3, 1), (4, 1), (5, 1), (6, 4), (10, 1), (11, 1), (12, 1), (13, 1), (14, 1), (15, 1), (16, 1)], false, none, false, [3, 3, 3, 40, 3, 3, 24, 41, 42, 3, 3, 3, 3, 3]⟩
def y50 : TI := ⟨1, 8, .lit (.int .u64 0), .scalar, false, some .u64, false, []⟩
def y51 : TI := ⟨1, 24, .own 1 [], .sl 3, false, none, false, []⟩
def y54 : TI := ⟨3, 24, .agg [iZ, iZ, iZ], .struct [(0, 1), (1, 1), (2, 1)], true, none, false, [3, 3, 3]⟩
def y57 : TI := ⟨4, 32, .agg [iZ, iZ, iZ, iZ], .struct [(0, 1), (1, 1), (2, 1), (3, 1)], true, none, false, [3, 3, 3, 3]⟩
def y59 : TI := ⟨3, 24, .agg [iZ, iZ, iZ], .struct [(0, 1), (1, 1), (2, 1)], true, none, false, [3, 3, 3]⟩
def y65 : TI := ⟨3, 24, .agg [iZ, iZ, iZ], .struct [(0, 1), (1, 1), (2, 1)], true, none, false, [3, 3, 3]⟩
def y68 : TI := ⟨4, 32, .agg [iZ, iZ, iZ, iZ], .struct [(0, 1), (1, 1), (2, 1), (3, 1)], true, none, false, [3, 3, 3, 3]⟩
def y73 : TI := ⟨1, 8, .lit (.pointer none), .scalar, false, none, false, []⟩
def y74 : TI := ⟨1, 8, .lit (.pointer none), .scalar, false, none, false, []⟩
def y92 : TI := ⟨4, 96, .agg [.own 1 [], .own 1 [], .own 1 [], .own 1 []], .arr 4 51, false, none, false, []⟩
def y94 : TI := ⟨4, 48, .agg [iZ, iZ, iZ, .own 4 []], .struct [(0, 1), (1, 1), (2, 1), (3, 1)], false, none, false, [3, 3, 3, 40]⟩
def y95 : TI := ⟨1, 24, .own 4 [], .sl 94, false, none, false, []⟩
def y96 : TI := ⟨1, 24, .own 2 [], .sl 203, false, none, false, []⟩
def y98 : TI := ⟨7, 152, .agg [.own 1 [], .own 1 [], .own 1 [], .own 1 [], iZ, .own 4 [], .own 2 []], .struct [(0, 4), (4, 1), (5, 1), (6, 1)], false, none, false, [92, 3, 95, 96]⟩
def y114 : TI := ⟨1, 8, .lit (.pointer none), .scalar, false, none, false, []⟩
def y124 : TI := ⟨1, 8, .lit .nilFunc, .scalar, false, none, false, []⟩
def y139 : TI := ⟨1, 8, .lit .nilFunc, .scalar, false, none, false, []⟩
def y143 : TI := ⟨1, 8, .lit .nilFunc, .scalar, false, none, false, []⟩
def y162 : TI := ⟨1, 8, .lit (.pointer none), .scalar, false, none, false, []⟩
def y164 : TI := ⟨1, 8, .lit .nilFunc, .scalar, false, none, false, []⟩
def y166 : TI := ⟨1, 8, .lit .nilFunc, .scalar, false, none, false, []⟩
def y168 : TI := ⟨1, 8, .agg [.lit (.pointer none)], .struct [(0, 1)], false, none, false, [114]⟩
def y176 : TI := ⟨1, 8, .lit .nilFunc, .scalar, false, none, false, []⟩
def y178 : TI := ⟨1, 8, .lit .nilFunc, .scalar, false, none, false, []⟩
def y203 : TI := ⟨2, 16, .agg [iZ, iZ], .struct [(0, 1), (1, 1)], true, none, false, [3, 3]⟩
def layL : List (Nat × TI) := [(1, y1), (2, y2), (3, y3), (4, y4), (5, y5), (6, y6), (7, y7), (8, y8), (9, y9), (10, y10), (11, y11), (12, y12), (13, y13), (22, y22), (23, y23), (24, y24), (25, y25), (26, y26), (28, y28), (30, y30), (40, y40), (41, y41), (42, y42), (44, y44), (50, y50), (51, y51), (54, y54), (57, y57), (59, y59), (65, y65), (68, y68), (73, y73), (74, y74), (92, y92), (94, y94), (95, y95), (96, y96), (98, y98), (114, y114), (124, y124), (139, y139), (143, y143), (162, y162), (164, y164), (166, y166), (168, y168), (176, y176), (178, y178), (203, y203)]
def lay : Lay := lk layL
/- 3 veil/veillaw22.Parks -/
def c3 : IR := (S (R [z 2 (bx 28 0),
 z 4 (ab false)])
(S (R [z 10 (ld 28 2),
 z 11 (cl 15 #[(t 10)] #[28]),
 z 5 (al 28),
 ⟨none, st 28 5 11, none, true⟩])
(S (R [z 13 (ld 28 5),
 z 14 (mv 1),
 o 15 (cl 16 #[(t 13), (t 14)] #[28, 3]),
 z 12 (mv 15),
 z 16 (xt 12 0),
 z 17 (xt 12 1),
 z 6 (al 28),
 ⟨none, st 28 6 16, none, true⟩,
 z 7 (av 17)])
(S (R [z 19 (ld 28 2),
 z 20 (mv 1),
 z 21 (cl 17 #[(t 19), (t 20)] #[28, 3]),
 z 18 (mv 21),
 z 22 (xt 18 0),
 z 23 (xt 18 1),
 z 8 (al 28),
 ⟨none, st 28 8 22, none, true⟩,
 z 9 (av 23)])
(S (S (R [z 24 (ld 28 6),
 z 25 (ld 28 8),
 z 26 (cl 18 #[(t 24), (t 25)] #[28, 28]),
 z 27 (.unOp .not 4 (.tmp 26)),
 z 28 (mv 27),
 zF 29 (mv 7) 28,
 zF 30 (cl 19 #[(t 29)] #[30]) 28,
 zF 31 (mv 9) 28,
 zF 32 (bo .neq (t 30) (t 31)) 28,
 z 33 (.pick (.tmp 28) (.const (.bool true)) (.tmp 32))])
(.cond (t 33)
(S (R [z 4 (ab false)])
(.ret [4]))
.skip))
(S (R [z 34 (ld 28 6),
 z 35 (cl 20 #[(t 34)] #[28])])
(S (R [z 36 (ld 28 5),
 z 37 (ld 28 2),
 z 38 (cl 18 #[(t 36), (t 37)] #[28, 28]),
 z 39 (mv 38),
 zT 40 (cl 21 #[] #[]) 39,
 z 41 (.pick (.tmp 39) (.tmp 40) (.const (.bool false))),
 z 4 (av 41)])
(.ret [4]))))))))
def g3 : IFn := ⟨42, [.tmp 4], [4], c3, [], false, none⟩
/- 4 veil/veillaw22.ParkWakes -/
def d4_1 : IR := D [z 41 (fa 28 2 3),
 z 42 (ld 25 41),
 z 43 (mv 1),
 o 44 (ia 25 42 43),
 z 45 (ld 44 44),
 z 46 (fa 28 5 3),
 z 47 (ld 25 46),
 z 48 (mv 1),
 o 49 (ia 25 47 48),
 z 50 (ld 44 49),
 z 7 (al 44),
 z 8 (al 44),
 ⟨none, st 44 7 45, none, true⟩,
 ⟨none, st 44 8 50, none, true⟩] [[], [0], [], [1, 2], [3], [], [5], [], [6, 7], [8], [], [], [10, 4, 0, 1, 2, 3, 4, 10, 11], [11, 9, 12, 0, 1, 2, 3, 4, 5, 6, 7, 8, 9, 10, 11, 12]]
def c4 : IR := (S (R [z 2 (bx 28 0),
 z 4 (ab false)])
(S (S (R [z 11 (cl 21 #[] #[]),
 z 12 (.unOp .not 4 (.tmp 11))])
(.cond (t 12)
(S (R [z 4 (ab false)])
(.ret [4]))
.skip))
(S (R [z 14 (ld 28 2),
 z 15 (mv 1),
 z 16 (cl 16 #[(t 14), (t 15)] #[28, 3]),
 z 13 (mv 16),
 z 17 (xt 13 0),
 z 18 (xt 13 1),
 z 5 (al 28),
 ⟨none, st 28 5 17, none, true⟩,
 z 6 (av 18)])
(S (S (R [z 19 (mv 6),
 z 20 (cl 19 #[(t 19)] #[30]),
 z 21 (bo .neq (t 20) (n 0))])
(.cond (t 21)
(S (R [z 22 (ld 28 5),
 z 23 (.build 28 #[]),
 z 24 (cl 18 #[(t 22), (t 23)] #[28, 28]),
 z 4 (av 24)])
(.ret [4]))
.skip))
(S (S (R [z 25 (mv 1),
 z 26 (bo .lss (t 25) (n 0)),
 z 27 (mv 26),
 zF 28 (mv 1) 27,
 zF 29 (fa 28 5 3) 27,
 zF 30 (ld 25 29) 27,
 zF 31 (len 30 25) 27,
 zF 32 (bo .geq (t 28) (t 31)) 27,
 z 33 (.pick (.tmp 27) (.const (.bool true)) (.tmp 32)),
 z 34 (mv 33),
 zF 35 (mv 1) 34,
 zF 36 (fa 28 2 3) 34,
 zF 37 (ld 25 36) 34,
 zF 38 (len 37 25) 34,
 zF 39 (bo .geq (t 35) (t 38)) 34,
 z 40 (.pick (.tmp 34) (.const (.bool true)) (.tmp 39))])
(.cond (t 40)
(S (R [z 4 (ab false)])
(.ret [4]))
.skip))
(S d4_1
(S (S (R [z 51 (fa 44 7 4),
 z 52 (ld 3 51),
 z 53 (bo .eql (t 52) (n 0))])
(.cond (t 53)
(S (R [z 54 (fa 44 8 4),
 z 55 (ld 3 54),
 z 56 (bo .eql (t 55) (n 5)),
 z 57 (mv 56),
 zT 58 (fa 44 7 7) 57,
 zT 59 (ld 41 58) 57,
 zT 60 (fa 44 8 7) 57,
 zT 61 (ld 41 60) 57,
 zT 62 (cl 22 #[(t 59), (t 61)] #[41, 41]) 57,
 z 63 (.pick (.tmp 57) (.tmp 62) (.const (.bool false))),
 z 64 (mv 63),
 zT 65 (fa 44 8 8) 64,
 zT 66 (ld 42 65) 64,
 zT 67 (len 66 42) 64,
 zT 68 (bo .eql (t 67) (n 0)) 64,
 z 69 (.pick (.tmp 64) (.tmp 68) (.const (.bool false))),
 z 70 (mv 69),
 zT 71 (fa 28 5 0) 70,
 zT 72 (ld 23 71) 70,
 zT 73 (fa 28 2 0) 70,
 zT 74 (ld 23 73) 70,
 zT 75 (cl 23 #[(t 72), (t 74)] #[23, 23]) 70,
 z 76 (.pick (.tmp 70) (.tmp 75) (.const (.bool false))),
 z 4 (av 76)])
(.ret [4]))
.skip))
(S (R [z 78 (fa 28 2 0),
 z 79 (ld 23 78),
 z 80 (fa 44 7 7),
 z 81 (ld 41 80),
 z 82 (cl 24 #[(t 79), (t 81)] #[23, 41]),
 z 77 (mv 82),
 z 83 (xt 77 0),
 z 84 (xt 77 1),
 z 9 (av 83),
 z 10 (av 84)])
(S (S (R [z 85 (mv 9)])
(.cond (t 85)
(S (R [z 86 (mv 10),
 z 87 (bo .eql (t 86) (n 0)),
 z 88 (mv 87),
 zT 89 (fa 44 8 4) 88,
 zT 90 (ld 3 89) 88,
 zT 91 (bo .eql (t 90) (n 0)) 88,
 z 92 (.pick (.tmp 88) (.tmp 91) (.const (.bool false))),
 z 93 (mv 92),
 zT 94 (fa 44 8 5) 93,
 zT 95 (ld 3 94) 93,
 zT 96 (bo .eql (t 95) (n 0)) 93,
 z 97 (.pick (.tmp 93) (.tmp 96) (.const (.bool false))),
 z 98 (mv 97),
 zT 99 (fa 44 8 7) 98,
 zT 100 (ld 41 99) 98,
 zT 101 (len 100 41) 98,
 zT 102 (bo .eql (t 101) (n 0)) 98,
 z 103 (.pick (.tmp 98) (.tmp 102) (.const (.bool false))),
 z 4 (av 103)])
(.ret [4]))
.skip))
(S (R [z 104 (mv 10),
 z 105 (bo .eql (t 104) (n 0)),
 z 106 (mv 105),
 zT 107 (ld 28 5) 106,
 zT 108 (ld 28 2) 106,
 zT 109 (cl 18 #[(t 107), (t 108)] #[28, 28]) 106,
 z 110 (.pick (.tmp 106) (.tmp 109) (.const (.bool false))),
 z 4 (av 110)])
(.ret [4])))))))))))
def g4 : IFn := ⟨111, [.tmp 4], [4], c4, [], false, none⟩
/- 5 veil/veillaw22.ParkForms -/
def d5_1 : IR := D [z 38 (fa 28 6 3),
 z 39 (ld 25 38),
 z 40 (.buildSlice 51 5 #[(0, (.const (.int .i64 1))), (1, (.const (.int .i64 2))), (2, (.const (.int .i64 3))), (3, (.const (.int .i64 4))), (4, (.const (.int .i64 6)))]),
 z 41 (mv 0),
 z 42 (.convert 3 50 (.tmp 41)),
 z 43 (.binOp .shr 50 (.tmp 42) (.const (.int .u64 3)) 50),
 z 44 (.binOp .rem 50 (.tmp 43) (.const (.int .u64 5)) 50),
 z 45 (.convert 50 3 (.tmp 44)),
 o 46 (ia 51 40 45),
 z 47 (ld 3 46),
 o 48 (.indexAddr 25 (.tmp 39) (.const (.int .i64 0))),
 z 49 (fa 44 48 4),
 ⟨none, st 3 49 47, none, true⟩] [[], [0], [], [], [3], [4], [5], [6], [2, 7], [8], [1, 0, 1, 2, 3, 4, 5, 6, 7, 8, 9], [10, 0, 1, 2, 3, 4, 5, 6, 7, 8, 9], [11, 9, 0, 1, 2, 3, 4, 5, 6, 7, 8, 9]]
def c5 : IR := (S (R [z 4 (ab false)])
(S (S (R [z 10 (cl 21 #[] #[]),
 z 11 (.unOp .not 4 (.tmp 10))])
(.cond (t 11)
(S (R [z 4 (ab false)])
(.ret [4]))
.skip))
(S (R [z 12 (mv 1),
 z 13 (bo .and (t 12) (n 1023)),
 z 14 (bo .add (n 1) (t 13)),
 z 5 (av 14)])
(S (R [o 15 (cl 25 #[] #[]),
 z 6 (al 28),
 ⟨none, st 28 6 15, none, true⟩,
 z 7 (an 0)])
(S (S (R [z 16 (mv 0),
 z 17 (.convert 3 50 (.tmp 16)),
 z 18 (.binOp .rem 50 (.tmp 17) (.const (.int .u64 6)) 50)])
(.block 0 (S (R [z 20 (.binOp .eql 50 (.tmp 18) (.const (.int .u64 0)) 50),
 z 19 (av 20)])
(.cond (t 19)
(R [z 21 (mv 5),
 z 22 (.unOp .neg 3 (.tmp 21)),
 z 23 (mv 5),
 z 24 (bo .add (n 1) (t 23)),
 z 25 (.buildSlice 51 2 #[(0, (.tmp 22)), (1, (.tmp 24))]),
 z 26 (mv 0),
 z 27 (.binOp .shr 3 (.tmp 26) (.const (.int .u64 3)) 50),
 z 28 (bo .and (t 27) (n 1)),
 o 29 (ia 51 25 28),
 z 30 (ld 3 29),
 z 7 (av 30)])
(S (R [z 32 (.binOp .eql 50 (.tmp 18) (.const (.int .u64 1)) 50),
 z 31 (av 32)])
(.cond (t 31)
(R [z 33 (mv 5),
 z 34 (.unOp .neg 3 (.tmp 33)),
 z 35 (fa 28 6 2),
 ⟨none, st 3 35 34, none, true⟩])
(S (R [z 37 (.binOp .eql 50 (.tmp 18) (.const (.int .u64 2)) 50),
 z 36 (av 37)])
(.cond (t 36)
d5_1
(S (R [z 51 (.binOp .eql 50 (.tmp 18) (.const (.int .u64 3)) 50),
 z 50 (av 51)])
(.cond (t 50)
(S (R [z 52 (fa 28 6 3),
 z 53 (ld 25 52),
 o 54 (.indexAddr 25 (.tmp 53) (.const (.int .i64 0))),
 z 55 (fa 44 54 4),
 ⟨none, .store 3 (.tmp 55) (.const (.int .i64 0)), none, true⟩])
(R [z 56 (fa 28 6 3),
 z 57 (ld 25 56),
 o 58 (.indexAddr 25 (.tmp 57) (.const (.int .i64 0))),
 z 59 (fa 44 58 5),
 ⟨none, .store 3 (.tmp 59) (.const (.int .i64 0)), none, true⟩]))
(S (R [z 61 (.binOp .eql 50 (.tmp 18) (.const (.int .u64 4)) 50),
 z 60 (av 61)])
(.cond (t 60)
(S (R [z 62 (fa 28 6 3),
 z 63 (ld 25 62),
 o 64 (.indexAddr 25 (.tmp 63) (.const (.int .i64 0))),
 z 65 (fa 44 64 4),
 ⟨none, .store 3 (.tmp 65) (.const (.int .i64 0)), none, true⟩])
(R [z 66 (fa 28 6 3),
 z 67 (ld 25 66),
 o 68 (.indexAddr 25 (.tmp 67) (.const (.int .i64 0))),
 z 69 (fa 44 68 5),
 ⟨none, .store 3 (.tmp 69) (.const (.int .i64 2)), none, true⟩]))
(R [z 7 (an 1)])))))))))))))
(S (R [z 71 (ld 28 6),
 z 72 (mv 7),
 z 73 (cl 16 #[(t 71), (t 72)] #[28, 3]),
 z 70 (mv 73),
 z 74 (xt 70 0),
 z 75 (xt 70 1),
 z 8 (al 28),
 ⟨none, st 28 8 74, none, true⟩,
 z 9 (av 75)])
(S (R [z 76 (ld 28 8),
 z 77 (.build 28 #[]),
 z 78 (cl 18 #[(t 76), (t 77)] #[28, 28]),
 z 79 (mv 78),
 zT 80 (mv 9) 79,
 zT 81 (cl 19 #[(t 80)] #[30]) 79,
 zT 82 (bo .eql (t 81) (n 2200)) 79,
 z 83 (.pick (.tmp 79) (.tmp 82) (.const (.bool false))),
 z 4 (av 83)])
(.ret [4]))))))))
def g5 : IFn := ⟨84, [.tmp 4], [4], c5, [], false, none⟩
/- 6 veil/veillaw22.ParkWaits -/
def c6 : IR := (S (R [z 8 (ab false)])
(S (S (R [z 16 (cl 21 #[] #[]),
 z 17 (.unOp .not 4 (.tmp 16))])
(.cond (t 17)
(S (R [z 8 (ab false)])
(.ret [8]))
.skip))
(S (R [o 18 (cl 25 #[] #[]),
 z 9 (al 28),
 ⟨none, st 28 9 18, none, true⟩])
(S (R [z 19 (mv 0),
 z 20 (bo .and (t 19) (n 3)),
 z 21 (mv 2),
 z 22 (bo .and (t 21) (n 3)),
 z 10 (av 20),
 z 11 (av 22)])
(S (S (R [z 23 (mv 10),
 z 24 (fa 28 9 0),
 o 25 (ia 23 24 23),
 z 26 (ld 22 25),
 z 27 (len 26 22),
 z 28 (bo .eql (t 27) (n 0))])
(.cond (t 28)
(S (R [z 8 (ab true)])
(.ret [8]))
.skip))
(S (R [z 29 (mv 1),
 z 30 (.convert 3 50 (.tmp 29)),
 z 31 (mv 10),
 z 32 (fa 28 9 0),
 o 33 (ia 23 32 31),
 z 34 (ld 22 33),
 z 35 (len 34 22),
 z 36 (.convert 3 50 (.tmp 35)),
 z 37 (.binOp .rem 50 (.tmp 30) (.tmp 36) 50),
 z 38 (.convert 50 3 (.tmp 37)),
 z 12 (av 38)])
(S (R [z 39 (mv 10),
 z 40 (fa 28 9 0),
 o 41 (ia 23 40 39),
 z 42 (ld 22 41),
 z 43 (mv 12),
 z 44 (mv 11),
 o 45 (ia 22 42 43),
 z 46 (fa 54 45 1),
 ⟨none, st 3 46 44, none, true⟩])
(S (R [z 47 (mv 10),
 z 48 (fa 28 9 0),
 o 49 (ia 23 48 47),
 z 50 (ld 22 49),
 z 51 (mv 12),
 z 52 (mv 3),
 z 53 (bo .and (t 52) (n 7)),
 o 54 (ia 22 50 51),
 z 55 (fa 54 54 2),
 ⟨none, st 3 55 53, none, true⟩])
(S (R [z 57 (ld 28 9),
 z 58 (cl 16 #[(t 57), (n 0)] #[28, 3]),
 z 56 (mv 58),
 z 59 (xt 56 0),
 z 60 (xt 56 1),
 z 13 (al 28),
 ⟨none, st 28 13 59, none, true⟩,
 z 14 (av 60)])
(S (S (R [z 61 (mv 14),
 z 62 (cl 19 #[(t 61)] #[30]),
 z 63 (bo .neq (t 62) (n 0)),
 z 64 (mv 63),
 zF 65 (fa 28 13 3) 64,
 zF 66 (ld 25 65) 64,
 zF 67 (len 66 25) 64,
 zF 68 (bo .neq (t 67) (n 2)) 64,
 z 69 (.pick (.tmp 64) (.const (.bool true)) (.tmp 68))])
(.cond (t 69)
(S (R [z 8 (ab false)])
(.ret [8]))
.skip))
(S (R [z 70 (mv 10),
 z 71 (bo .eql (t 70) (n 0)),
 z 72 (mv 71),
 zT 73 (mv 12) 72,
 zT 74 (bo .eql (t 73) (n 1)) 72,
 z 75 (.pick (.tmp 72) (.tmp 74) (.const (.bool false))),
 z 76 (mv 75),
 zT 77 (mv 11) 76,
 zT 78 (bo .neq (t 77) (n 0)) 76,
 z 79 (.pick (.tmp 76) (.tmp 78) (.const (.bool false))),
 z 15 (av 79)])
(S (S (R [z 80 (mv 15),
 z 81 (.unOp .not 4 (.tmp 80))])
(.cond (t 81)
(S (R [z 82 (ld 28 13),
 z 83 (ld 28 9),
 z 84 (cl 18 #[(t 82), (t 83)] #[28, 28]),
 z 8 (av 84)])
(.ret [8]))
.skip))
(S (R [z 85 (fa 28 13 3),
 z 86 (ld 25 85),
 o 87 (.indexAddr 25 (.tmp 86) (.const (.int .i64 0))),
 z 88 (fa 44 87 4),
 z 89 (ld 3 88),
 z 90 (bo .eql (t 89) (n 0)),
 z 91 (mv 90),
 zT 92 (fa 28 13 3) 91,
 zT 93 (ld 25 92) 91,
 oT 94 (.indexAddr 25 (.tmp 93) (.const (.int .i64 0))) 91,
 zT 95 (fa 44 94 11) 91,
 zT 96 (ld 3 95) 91,
 zT 97 (bo .eql (t 96) (n 1)) 91,
 z 98 (.pick (.tmp 91) (.tmp 97) (.const (.bool false))),
 z 99 (mv 98),
 zT 100 (fa 28 13 3) 99,
 zT 101 (ld 25 100) 99,
 oT 102 (.indexAddr 25 (.tmp 101) (.const (.int .i64 0))) 99,
 zT 103 (fa 44 102 7) 99,
 zT 104 (ld 41 103) 99,
 zT 105 (len 104 41) 99,
 zT 106 (bo .eql (t 105) (n 0)) 99,
 z 107 (.pick (.tmp 99) (.tmp 106) (.const (.bool false))),
 z 8 (av 107)])
(.ret [8]))))))))))))))
def g6 : IFn := ⟨108, [.tmp 8], [4], c6, [], false, none⟩
/- 7 veil/veillaw22.ParkKeeps -/
def c7_1 : IR := (S (S (R [z 24 (mv 4),
 z 25 (bo .lss (t 24) (n 3))])
(.cond (t 25)
.skip
(.exit 0 [3])))
(S (.block 1 (R [z 29 (ld 28 3),
 o 30 (cl 27 #[(t 29), (n 0)] #[28, 3]),
 z 28 (mv 30),
 z 31 (xt 28 0),
 z 32 (xt 28 1),
 ⟨none, st 28 3 31, none, true⟩]))
(R [z 26 (mv 4),
 z 27 (bo .add (t 26) (n 1)),
 z 4 (av 27)])))
def c7 : IR := (S (R [z 2 (ab false)])
(S (S (R [z 10 (cl 21 #[] #[]),
 z 11 (.unOp .not 4 (.tmp 10))])
(.cond (t 11)
(S (R [z 2 (ab false)])
(.ret [2]))
.skip))
(S (R [o 12 (cl 26 #[] #[]),
 z 3 (al 28),
 ⟨none, st 28 3 12, none, true⟩])
(S (R [z 13 (fa 28 3 3),
 z 14 (ld 25 13),
 z 15 (.build 57 #[(0, (.const (.int .i64 2))), (3, (.const (.int .i64 1)))]),
 z 16 (mv 0),
 z 17 (bo .and (t 16) (n 255)),
 z 18 (.build 57 #[(0, (.const (.int .i64 0))), (1, (.const (.int .i64 1))), (2, (.tmp 17))]),
 z 19 (.build 57 #[(0, (.const (.int .i64 3))), (1, (.const (.int .i64 1)))]),
 z 20 (.build 57 #[(0, (.const (.int .i64 5)))]),
 z 21 (.buildSlice 40 4 #[(0, (.tmp 15)), (1, (.tmp 18)), (2, (.tmp 19)), (3, (.tmp 20))]),
 o 22 (.indexAddr 25 (.tmp 14) (.const (.int .i64 0))),
 z 23 (fa 44 22 3),
 ⟨none, st 40 23 21, none, true⟩])
(S (S (R [z 4 (an 0)])
(.block 0 (.loop [3, 4] c7_1)))
(S (R [z 34 (ld 28 3),
 z 35 (cl 16 #[(t 34), (n 0)] #[28, 3]),
 z 33 (mv 35),
 z 36 (xt 33 0),
 z 37 (xt 33 1),
 z 5 (al 28),
 ⟨none, st 28 5 36, none, true⟩,
 z 6 (av 37)])
(S (R [z 39 (ld 28 5),
 z 40 (cl 16 #[(t 39), (n 0)] #[28, 3]),
 z 38 (mv 40),
 z 41 (xt 38 0),
 z 42 (xt 38 1),
 z 7 (al 28),
 ⟨none, st 28 7 41, none, true⟩,
 z 8 (av 42)])
(S (S (R [z 43 (fa 28 5 3),
 z 44 (ld 25 43),
 z 45 (len 44 25),
 z 46 (bo .neq (t 45) (n 2)),
 z 47 (mv 46),
 zF 48 (fa 28 3 3) 47,
 zF 49 (ld 25 48) 47,
 zF 50 (len 49 25) 47,
 zF 51 (bo .neq (t 50) (n 2)) 47,
 z 52 (.pick (.tmp 47) (.const (.bool true)) (.tmp 51)),
 z 53 (mv 52),
 zF 54 (fa 28 3 3) 53,
 zF 55 (ld 25 54) 53,
 oF 56 (.indexAddr 25 (.tmp 55) (.const (.int .i64 0))) 53,
 zF 57 (fa 44 56 8) 53,
 zF 58 (ld 42 57) 53,
 zF 59 (len 58 42) 53,
 zF 60 (bo .neq (t 59) (n 1)) 53,
 z 61 (.pick (.tmp 53) (.const (.bool true)) (.tmp 60))])
(.cond (t 61)
(S (R [z 2 (ab false)])
(.ret [2]))
.skip))
(S (R [z 62 (fa 28 5 3),
 z 63 (ld 25 62),
 o 64 (.indexAddr 25 (.tmp 63) (.const (.int .i64 0))),
 z 65 (ld 44 64),
 z 9 (al 44),
 ⟨none, st 44 9 65, none, true⟩])
(S (R [z 66 (mv 6),
 z 67 (cl 19 #[(t 66)] #[30]),
 z 68 (bo .eql (t 67) (n 0)),
 z 69 (mv 68),
 zT 70 (fa 44 9 4) 69,
 zT 71 (ld 3 70) 69,
 zT 72 (bo .eql (t 71) (n 5)) 69,
 z 73 (.pick (.tmp 69) (.tmp 72) (.const (.bool false))),
 z 74 (mv 73),
 zT 75 (fa 44 9 8) 74,
 zT 76 (ld 42 75) 74,
 zT 77 (len 76 42) 74,
 zT 78 (bo .eql (t 77) (n 0)) 74,
 z 79 (.pick (.tmp 74) (.tmp 78) (.const (.bool false))),
 z 80 (mv 79),
 zT 81 (fa 44 9 7) 80,
 zT 82 (ld 41 81) 80,
 zT 83 (.build 59 #[(1, (.const (.int .i64 1)))]) 80,
 zT 84 (.buildSlice 41 1 #[(0, (.tmp 83))]) 80,
 zT 85 (cl 22 #[(t 82), (t 84)] #[41, 41]) 80,
 z 86 (.pick (.tmp 80) (.tmp 85) (.const (.bool false))),
 z 87 (mv 86),
 zT 88 (fa 28 5 0) 87,
 zT 89 (ld 23 88) 87,
 zT 90 (fa 28 3 0) 87,
 zT 91 (ld 23 90) 87,
 zT 92 (cl 23 #[(t 89), (t 91)] #[23, 23]) 87,
 z 93 (.pick (.tmp 87) (.tmp 92) (.const (.bool false))),
 z 94 (mv 93),
 zT 95 (mv 8) 94,
 zT 96 (cl 19 #[(t 95)] #[30]) 94,
 zT 97 (bo .eql (t 96) (n 0)) 94,
 z 98 (.pick (.tmp 94) (.tmp 97) (.const (.bool false))),
 z 99 (mv 98),
 zT 100 (ld 28 5) 99,
 zT 101 (ld 28 7) 99,
 zT 102 (cl 18 #[(t 100), (t 101)] #[28, 28]) 99,
 z 103 (.pick (.tmp 99) (.tmp 102) (.const (.bool false))),
 z 104 (mv 103),
 zT 105 (cl 28 #[(n 0), (n 0)] #[3, 3]) 104,
 zT 106 (.field 28 (.tmp 105) 3) 104,
 zT 107 (len 106 25) 104,
 zT 108 (bo .eql (t 107) (n 2)) 104,
 z 109 (.pick (.tmp 104) (.tmp 108) (.const (.bool false))),
 z 2 (av 109)])
(.ret [2])))))))))))
def g7 : IFn := ⟨110, [.tmp 2], [4], c7, [], false, none⟩
/- 8 veil/veillaw22.ParkAlone -/
def d8_1 : IR := D [z 60 (fa 28 7 0),
 o 61 (.indexAddr 23 (.tmp 60) (.const (.int .i64 0))),
 z 62 (ld 22 61),
 z 63 (mv 6),
 z 64 (bo .and (t 63) (n 1)),
 z 65 (mv 0),
 z 66 (mv 6),
 o 67 (ia 51 65 66),
 z 68 (ld 3 67),
 z 69 (bo .and (t 68) (n 255)),
 o 70 (ia 22 62 64),
 z 71 (fa 54 70 1),
 ⟨none, st 3 71 69, none, true⟩] [[], [0], [1], [], [3], [], [], [5, 6], [7], [8], [2, 4, 0, 1, 2, 3, 4, 5, 6, 7, 8, 9], [10, 0, 1, 2, 3, 4, 5, 6, 7, 8, 9], [11, 9, 0, 1, 2, 3, 4, 5, 6, 7, 8, 9]]
def c8_1 : IR := (S (S (R [z 43 (mv 6),
 z 44 (mv 0),
 z 45 (len 44 51),
 z 46 (bo .lss (t 43) (t 45)),
 z 47 (mv 46),
 zT 48 (mv 6) 47,
 zT 49 (bo .lss (t 48) (n 20)) 47,
 z 50 (.pick (.tmp 47) (.tmp 49) (.const (.bool false)))])
(.cond (t 50)
.skip
(.exit 0 [4])))
(S (.block 1 (S (R [z 53 (ld 28 4),
 o 54 (cl 15 #[(t 53)] #[28]),
 z 7 (al 28),
 ⟨none, st 28 7 54, none, true⟩])
(S (S (R [z 55 (fa 28 7 0),
 o 56 (.indexAddr 23 (.tmp 55) (.const (.int .i64 0))),
 z 57 (ld 22 56),
 z 58 (len 57 22),
 z 59 (bo .neq (t 58) (n 2))])
(.cond (t 59)
(S (R [z 2 (ab false)])
(.ret [2]))
.skip))
(S d8_1
(S (R [z 73 (ld 28 7),
 z 74 (cl 16 #[(t 73), (n 0)] #[28, 3]),
 z 72 (mv 74),
 z 75 (xt 72 0),
 z 76 (xt 72 1),
 z 8 (al 28),
 ⟨none, st 28 8 75, none, true⟩,
 z 9 (av 76)])
(S (R [z 77 (mv 9),
 z 78 (cl 19 #[(t 77)] #[30]),
 z 79 (bo .neq (t 78) (n 0)),
 z 80 (mv 79),
 zF 81 (ld 28 8) 80,
 zF 82 (ld 28 7) 80,
 zF 83 (cl 18 #[(t 81), (t 82)] #[28, 28]) 80,
 zF 84 (.unOp .not 4 (.tmp 83)) 80,
 z 85 (.pick (.tmp 80) (.const (.bool true)) (.tmp 84))])
(.cond (t 85)
(S (R [z 2 (ab false)])
(.ret [2]))
.skip)))))))
(R [z 51 (mv 6),
 z 52 (bo .add (t 51) (n 1)),
 z 6 (av 52)])))
def c8 : IR := (S (R [z 2 (ab false)])
(S (S (R [z 12 (cl 21 #[] #[]),
 z 13 (.unOp .not 4 (.tmp 12))])
(.cond (t 13)
(S (R [z 2 (ab false)])
(.ret [2]))
.skip))
(S (R [o 14 (cl 26 #[] #[]),
 z 3 (al 28),
 ⟨none, st 28 3 14, none, true⟩])
(S (R [z 15 (fa 28 3 3),
 z 16 (ld 25 15),
 z 17 (.build 57 #[(0, (.const (.int .i64 5)))]),
 z 18 (.buildSlice 40 1 #[(0, (.tmp 17))]),
 o 19 (.indexAddr 25 (.tmp 16) (.const (.int .i64 0))),
 z 20 (fa 44 19 3),
 ⟨none, st 40 20 18, none, true⟩])
(S (R [z 22 (ld 28 3),
 z 23 (cl 16 #[(t 22), (n 0)] #[28, 3]),
 z 21 (mv 23),
 z 24 (xt 21 0),
 z 25 (xt 21 1),
 z 4 (al 28),
 ⟨none, st 28 4 24, none, true⟩,
 z 5 (av 25)])
(S (S (R [z 26 (mv 5),
 z 27 (cl 19 #[(t 26)] #[30]),
 z 28 (bo .neq (t 27) (n 0)),
 z 29 (mv 28),
 zF 30 (fa 28 4 3) 29,
 zF 31 (ld 25 30) 29,
 zF 32 (len 31 25) 29,
 zF 33 (bo .neq (t 32) (n 2)) 29,
 z 34 (.pick (.tmp 29) (.const (.bool true)) (.tmp 33)),
 z 35 (mv 34),
 zF 36 (fa 28 4 3) 35,
 zF 37 (ld 25 36) 35,
 oF 38 (.indexAddr 25 (.tmp 37) (.const (.int .i64 0))) 35,
 zF 39 (fa 44 38 4) 35,
 zF 40 (ld 3 39) 35,
 zF 41 (bo .neq (t 40) (n 5)) 35,
 z 42 (.pick (.tmp 35) (.const (.bool true)) (.tmp 41))])
(.cond (t 42)
(S (R [z 2 (ab false)])
(.ret [2]))
.skip))
(S (S (R [z 6 (an 0)])
(.block 0 (.loop [0, 4, 6] c8_1)))
(S (R [z 87 (ld 28 4),
 z 88 (cl 27 #[(t 87), (n 0)] #[28, 3]),
 z 86 (mv 88),
 z 89 (xt 86 0),
 z 90 (xt 86 1),
 z 10 (al 28),
 ⟨none, st 28 10 89, none, true⟩,
 z 11 (av 90)])
(S (R [z 91 (mv 11),
 z 92 (bo .eql (t 91) (n 0)),
 z 93 (mv 92),
 zT 94 (ld 28 10) 93,
 zT 95 (ld 28 4) 93,
 zT 96 (cl 18 #[(t 94), (t 95)] #[28, 28]) 93,
 z 97 (.pick (.tmp 93) (.tmp 96) (.const (.bool false))),
 z 98 (mv 97),
 zT 99 (cl 28 #[(n 0), (n 0)] #[3, 3]) 98,
 zT 100 (.field 28 (.tmp 99) 3) 98,
 zT 101 (len 100 25) 98,
 zT 102 (bo .eql (t 101) (n 2)) 98,
 z 103 (.pick (.tmp 98) (.tmp 102) (.const (.bool false))),
 z 104 (mv 103),
 zT 105 (cl 25 #[] #[]) 104,
 zT 106 (.field 28 (.tmp 105) 3) 104,
 zT 107 (len 106 25) 104,
 zT 108 (bo .eql (t 107) (n 2)) 104,
 z 109 (.pick (.tmp 104) (.tmp 108) (.const (.bool false))),
 z 2 (av 109)])
(.ret [2]))))))))))
def g8 : IFn := ⟨110, [.tmp 2], [4], c8, [], false, none⟩
/- 9 veil/veillaw15.Fetches -/
def c9 : IR := (S (R [z 2 (bx 28 0),
 z 4 (ab false)])
(S (R [z 10 (ld 28 2),
 z 11 (cl 15 #[(t 10)] #[28]),
 z 5 (al 28),
 ⟨none, st 28 5 11, none, true⟩])
(S (R [z 13 (ld 28 5),
 z 14 (mv 1),
 o 15 (cl 29 #[(t 13), (t 14)] #[28, 3]),
 z 12 (mv 15),
 z 16 (xt 12 0),
 z 17 (xt 12 1),
 z 6 (al 28),
 ⟨none, st 28 6 16, none, true⟩,
 z 7 (av 17)])
(S (R [z 19 (ld 28 2),
 z 20 (mv 1),
 z 21 (cl 30 #[(t 19), (t 20)] #[28, 3]),
 z 18 (mv 21),
 z 22 (xt 18 0),
 z 23 (xt 18 1),
 z 8 (al 28),
 ⟨none, st 28 8 22, none, true⟩,
 z 9 (av 23)])
(S (S (R [z 24 (ld 28 6),
 z 25 (ld 28 8),
 z 26 (cl 18 #[(t 24), (t 25)] #[28, 28]),
 z 27 (.unOp .not 4 (.tmp 26)),
 z 28 (mv 27),
 zF 29 (mv 7) 28,
 zF 30 (cl 19 #[(t 29)] #[30]) 28,
 zF 31 (mv 9) 28,
 zF 32 (bo .neq (t 30) (t 31)) 28,
 z 33 (.pick (.tmp 28) (.const (.bool true)) (.tmp 32))])
(.cond (t 33)
(S (R [z 4 (ab false)])
(.ret [4]))
.skip))
(S (R [z 34 (ld 28 6),
 z 35 (cl 20 #[(t 34)] #[28])])
(S (R [z 36 (ld 28 5),
 z 37 (ld 28 2),
 z 38 (cl 18 #[(t 36), (t 37)] #[28, 28]),
 z 39 (mv 38),
 zT 40 (cl 31 #[] #[]) 39,
 z 41 (.pick (.tmp 39) (.tmp 40) (.const (.bool false))),
 z 4 (av 41)])
(.ret [4]))))))))
def g9 : IFn := ⟨42, [.tmp 4], [4], c9, [], false, none⟩
/- 10 veil/veillaw15.FetchOne -/
def d10_1 : IR := D [z 41 (fa 28 2 3),
 z 42 (ld 25 41),
 z 43 (mv 1),
 o 44 (ia 25 42 43),
 z 45 (ld 44 44),
 z 46 (fa 28 5 3),
 z 47 (ld 25 46),
 z 48 (mv 1),
 o 49 (ia 25 47 48),
 z 50 (ld 44 49),
 z 7 (al 44),
 z 8 (al 44),
 ⟨none, st 44 7 45, none, true⟩,
 ⟨none, st 44 8 50, none, true⟩] [[], [0], [], [1, 2], [3], [], [5], [], [6, 7], [8], [], [], [10, 4, 0, 1, 2, 3, 4, 10, 11], [11, 9, 12, 0, 1, 2, 3, 4, 5, 6, 7, 8, 9, 10, 11, 12]]
def c10 : IR := (S (R [z 2 (bx 28 0),
 z 4 (ab false)])
(S (S (R [z 11 (cl 31 #[] #[]),
 z 12 (.unOp .not 4 (.tmp 11))])
(.cond (t 12)
(S (R [z 4 (ab false)])
(.ret [4]))
.skip))
(S (R [z 14 (ld 28 2),
 z 15 (mv 1),
 z 16 (cl 29 #[(t 14), (t 15)] #[28, 3]),
 z 13 (mv 16),
 z 17 (xt 13 0),
 z 18 (xt 13 1),
 z 5 (al 28),
 ⟨none, st 28 5 17, none, true⟩,
 z 6 (av 18)])
(S (S (R [z 19 (mv 6),
 z 20 (cl 19 #[(t 19)] #[30]),
 z 21 (bo .neq (t 20) (n 0))])
(.cond (t 21)
(S (R [z 22 (ld 28 5),
 z 23 (.build 28 #[]),
 z 24 (cl 18 #[(t 22), (t 23)] #[28, 28]),
 z 4 (av 24)])
(.ret [4]))
.skip))
(S (S (R [z 25 (mv 1),
 z 26 (bo .lss (t 25) (n 0)),
 z 27 (mv 26),
 zF 28 (mv 1) 27,
 zF 29 (fa 28 5 3) 27,
 zF 30 (ld 25 29) 27,
 zF 31 (len 30 25) 27,
 zF 32 (bo .geq (t 28) (t 31)) 27,
 z 33 (.pick (.tmp 27) (.const (.bool true)) (.tmp 32)),
 z 34 (mv 33),
 zF 35 (mv 1) 34,
 zF 36 (fa 28 2 3) 34,
 zF 37 (ld 25 36) 34,
 zF 38 (len 37 25) 34,
 zF 39 (bo .geq (t 35) (t 38)) 34,
 z 40 (.pick (.tmp 34) (.const (.bool true)) (.tmp 39))])
(.cond (t 40)
(S (R [z 4 (ab false)])
(.ret [4]))
.skip))
(S d10_1
(S (S (R [z 51 (fa 44 8 11),
 z 52 (ld 3 51),
 z 53 (fa 44 7 11),
 z 54 (ld 3 53),
 z 55 (bo .neq (t 52) (t 54)),
 z 56 (mv 55),
 zF 57 (fa 44 8 5) 56,
 zF 58 (ld 3 57) 56,
 zF 59 (bo .eql (t 58) (n 0)) 56,
 z 60 (.pick (.tmp 56) (.const (.bool true)) (.tmp 59))])
(.cond (t 60)
(S (R [z 61 (fa 44 8 5),
 z 62 (ld 3 61),
 z 63 (bo .eql (t 62) (n 0)),
 z 64 (mv 63),
 zT 65 (fa 44 8 7) 64,
 zT 66 (ld 41 65) 64,
 zT 67 (len 66 41) 64,
 zT 68 (bo .eql (t 67) (n 0)) 64,
 z 69 (.pick (.tmp 64) (.tmp 68) (.const (.bool false))),
 z 4 (av 69)])
(.ret [4]))
.skip))
(S (S (R [z 70 (fa 44 8 7),
 z 71 (ld 41 70),
 z 72 (len 71 41),
 z 73 (fa 44 7 7),
 z 74 (ld 41 73),
 z 75 (len 74 41),
 z 76 (bo .eql (t 72) (t 75))])
(.cond (t 76)
(S (R [z 77 (fa 44 8 5),
 z 78 (ld 3 77),
 z 79 (fa 44 7 5),
 z 80 (ld 3 79),
 z 81 (bo .add (t 80) (n 1)),
 z 82 (bo .eql (t 78) (t 81)),
 z 4 (av 82)])
(.ret [4]))
.skip))
(S (R [z 84 (fa 28 2 0),
 z 85 (ld 23 84),
 z 86 (fa 44 8 7),
 z 87 (ld 41 86),
 z 88 (fa 44 7 0),
 z 89 (ld 3 88),
 z 90 (cl 32 #[(t 85), (t 87), (t 89)] #[23, 41, 3]),
 z 83 (mv 90),
 z 91 (xt 83 0),
 z 92 (xt 83 1),
 z 9 (av 91),
 z 10 (av 92)])
(S (R [z 93 (mv 9),
 z 94 (mv 93),
 zT 95 (mv 10) 94,
 zT 96 (bo .eql (t 95) (n 0)) 94,
 z 97 (.pick (.tmp 94) (.tmp 96) (.const (.bool false))),
 z 98 (mv 97),
 zT 99 (fa 44 8 7) 98,
 zT 100 (ld 41 99) 98,
 zT 101 (len 100 41) 98,
 zT 102 (fa 44 7 7) 98,
 zT 103 (ld 41 102) 98,
 zT 104 (len 103 41) 98,
 zT 105 (bo .add (t 104) (n 1)) 98,
 zT 106 (bo .eql (t 101) (t 105)) 98,
 z 107 (.pick (.tmp 98) (.tmp 106) (.const (.bool false))),
 z 108 (mv 107),
 zT 109 (fa 28 5 0) 108,
 zT 110 (ld 23 109) 108,
 zT 111 (fa 28 2 0) 108,
 zT 112 (ld 23 111) 108,
 zT 113 (cl 23 #[(t 110), (t 112)] #[23, 23]) 108,
 z 114 (.pick (.tmp 108) (.tmp 113) (.const (.bool false))),
 z 4 (av 114)])
(.ret [4])))))))))))
def g10 : IFn := ⟨115, [.tmp 4], [4], c10, [], false, none⟩
/- 11 veil/veillaw15.FetchOwn -/
def c11 : IR := (S (R [z 4 (ab false)])
(S (S (R [z 10 (cl 31 #[] #[]),
 z 11 (.unOp .not 4 (.tmp 10))])
(.cond (t 11)
(S (R [z 4 (ab false)])
(.ret [4]))
.skip))
(S (R [o 12 (cl 33 #[] #[]),
 z 5 (al 28),
 ⟨none, st 28 5 12, none, true⟩])
(S (R [z 13 (mv 0),
 z 14 (bo .and (t 13) (n 255)),
 z 6 (av 14)])
(S (R [z 15 (fa 28 5 3),
 z 16 (ld 25 15),
 z 17 (mv 6),
 z 18 (.build 65 #[(2, (.tmp 17))]),
 z 19 (.buildSlice 42 1 #[(0, (.tmp 18))]),
 o 20 (.indexAddr 25 (.tmp 16) (.const (.int .i64 0))),
 z 21 (fa 44 20 8),
 ⟨none, st 42 21 19, none, true⟩])
(S (S (R [z 22 (mv 1)])
(.cond (t 22)
(R [z 23 (fa 28 5 0),
 o 24 (.indexAddr 23 (.tmp 23) (.const (.int .i64 0))),
 z 25 (ld 22 24),
 o 26 (.indexAddr 22 (.tmp 25) (.const (.int .i64 0))),
 z 27 (fa 54 26 2),
 ⟨none, .store 3 (.tmp 27) (.const (.int .i64 6)), none, true⟩])
.skip))
(S (R [z 29 (ld 28 5),
 z 30 (cl 29 #[(t 29), (n 0)] #[28, 3]),
 z 28 (mv 30),
 z 31 (xt 28 0),
 z 32 (xt 28 1),
 z 7 (al 28),
 ⟨none, st 28 7 31, none, true⟩,
 z 8 (av 32)])
(S (S (R [z 33 (fa 28 7 3),
 z 34 (ld 25 33),
 z 35 (len 34 25),
 z 36 (bo .neq (t 35) (n 2))])
(.cond (t 36)
(S (R [z 4 (ab false)])
(.ret [4]))
.skip))
(S (R [z 37 (fa 28 7 3),
 z 38 (ld 25 37),
 o 39 (.indexAddr 25 (.tmp 38) (.const (.int .i64 0))),
 z 40 (ld 44 39),
 z 9 (al 44),
 ⟨none, st 44 9 40, none, true⟩])
(S (R [z 41 (mv 8),
 z 42 (cl 19 #[(t 41)] #[30]),
 z 43 (bo .eql (t 42) (n 0)),
 z 44 (mv 43),
 zT 45 (fa 44 9 6) 44,
 oT 46 (.indexAddr 24 (.tmp 45) (.const (.int .i64 0))) 44,
 zT 47 (ld 3 46) 44,
 zT 48 (mv 6) 44,
 zT 49 (bo .eql (t 47) (t 48)) 44,
 z 50 (.pick (.tmp 44) (.tmp 49) (.const (.bool false))),
 z 51 (mv 50),
 zT 52 (fa 44 9 7) 51,
 zT 53 (ld 41 52) 51,
 zT 54 (len 53 41) 51,
 zT 55 (bo .eql (t 54) (n 0)) 51,
 z 56 (.pick (.tmp 51) (.tmp 55) (.const (.bool false))),
 z 57 (mv 56),
 zT 58 (fa 44 9 5) 57,
 zT 59 (ld 3 58) 57,
 zT 60 (bo .eql (t 59) (n 1)) 57,
 z 61 (.pick (.tmp 57) (.tmp 60) (.const (.bool false))),
 z 62 (mv 61),
 zT 63 (fa 44 9 11) 62,
 zT 64 (ld 3 63) 62,
 zT 65 (bo .eql (t 64) (n 0)) 62,
 z 66 (.pick (.tmp 62) (.tmp 65) (.const (.bool false))),
 z 67 (mv 66),
 zT 68 (fa 28 7 0) 67,
 zT 69 (ld 23 68) 67,
 zT 70 (fa 28 5 0) 67,
 zT 71 (ld 23 70) 67,
 zT 72 (cl 23 #[(t 69), (t 71)] #[23, 23]) 67,
 z 73 (.pick (.tmp 67) (.tmp 72) (.const (.bool false))),
 z 74 (mv 73),
 zT 75 (fa 28 7 4) 74,
 zT 76 (ld 26 75) 74,
 zT 77 (mv 6) 74,
 zT 78 (.build 68 #[(0, (.const (.int .i64 3))), (2, (.const (.int .i64 0))), (3, (.tmp 77))]) 74,
 zT 79 (.buildSlice 26 1 #[(0, (.tmp 78))]) 74,
 zT 80 (cl 34 #[(t 76), (t 79)] #[26, 26]) 74,
 z 81 (.pick (.tmp 74) (.tmp 80) (.const (.bool false))),
 z 4 (av 81)])
(.ret [4])))))))))))
def g11 : IFn := ⟨82, [.tmp 4], [4], c11, [], false, none⟩
/- 12 veil/veillaw15.FetchStale -/
def d12_1 : IR := D [z 43 (fa 28 5 0),
 z 44 (ld 23 43),
 z 45 (fa 28 5 3),
 z 46 (ld 25 45),
 o 47 (.indexAddr 25 (.tmp 46) (.const (.int .i64 0))),
 z 48 (fa 44 47 7),
 z 49 (ld 41 48),
 z 50 (cl 32 #[(t 44), (t 49), (n 3)] #[23, 41, 3]),
 z 42 (mv 50),
 z 51 (xt 42 0),
 z 52 (xt 42 1),
 z 9 (av 51),
 z 10 (av 52)] [[], [0], [], [2], [3], [4], [5], [1, 6], [7], [8], [8], [9, 7, 0, 1, 2, 3, 4, 5, 6, 7, 8, 9], [10, 11, 0, 1, 2, 3, 4, 5, 6, 7, 8, 9, 10, 11]]
def c12 : IR := (S (R [z 4 (ab false)])
(S (S (R [z 12 (cl 31 #[] #[]),
 z 13 (.unOp .not 4 (.tmp 12))])
(.cond (t 13)
(S (R [z 4 (ab false)])
(.ret [4]))
.skip))
(S (R [o 14 (cl 33 #[] #[]),
 z 5 (al 28),
 ⟨none, st 28 5 14, none, true⟩])
(S (R [z 15 (mv 0),
 z 16 (bo .and (t 15) (n 1)),
 z 6 (av 16)])
(S (R [z 17 (fa 28 5 3),
 z 18 (ld 25 17),
 z 19 (mv 1),
 z 20 (bo .and (t 19) (n 3)),
 z 21 (.build 59 #[(1, (.const (.int .i64 1))), (2, (.tmp 20))]),
 z 22 (.buildSlice 41 1 #[(0, (.tmp 21))]),
 o 23 (.indexAddr 25 (.tmp 18) (.const (.int .i64 0))),
 z 24 (fa 44 23 7),
 ⟨none, st 41 24 22, none, true⟩])
(S (R [z 25 (fa 28 5 0),
 o 26 (.indexAddr 23 (.tmp 25) (.const (.int .i64 0))),
 z 27 (ld 22 26),
 o 28 (.indexAddr 22 (.tmp 27) (.const (.int .i64 1))),
 z 29 (fa 54 28 1),
 ⟨none, .store 3 (.tmp 29) (.const (.int .i64 2)), none, true⟩])
(S (S (R [z 30 (mv 6),
 z 31 (bo .eql (t 30) (n 1))])
(.cond (t 31)
(R [z 32 (fa 28 5 0),
 o 33 (.indexAddr 23 (.tmp 32) (.const (.int .i64 0))),
 z 34 (ld 22 33),
 o 35 (.indexAddr 22 (.tmp 34) (.const (.int .i64 1))),
 z 36 (fa 54 35 2),
 ⟨none, .store 3 (.tmp 36) (.const (.int .i64 6)), none, true⟩])
.skip))
(S (R [z 38 (ld 28 5),
 z 39 (cl 29 #[(t 38), (n 0)] #[28, 3]),
 z 37 (mv 39),
 z 40 (xt 37 0),
 z 41 (xt 37 1),
 z 7 (al 28),
 ⟨none, st 28 7 40, none, true⟩,
 z 8 (av 41)])
(S d12_1
(S (S (R [z 53 (mv 8),
 z 54 (cl 19 #[(t 53)] #[30]),
 z 55 (bo .neq (t 54) (n 0)),
 z 56 (mv 55),
 zF 57 (mv 10) 56,
 zF 58 (bo .neq (t 57) (n 0)) 56,
 z 59 (.pick (.tmp 56) (.const (.bool true)) (.tmp 58)),
 z 60 (mv 59),
 zF 61 (fa 28 7 3) 60,
 zF 62 (ld 25 61) 60,
 zF 63 (len 62 25) 60,
 zF 64 (bo .neq (t 63) (n 2)) 60,
 z 65 (.pick (.tmp 60) (.const (.bool true)) (.tmp 64)),
 z 66 (mv 65),
 zF 67 (mv 9) 66,
 zF 68 (mv 1) 66,
 zF 69 (bo .and (t 68) (n 3)) 66,
 zF 70 (bo .eql (t 69) (n 2)) 66,
 zF 71 (mv 70) 66,
 zT 72 (mv 6) 71,
 zT 73 (bo .eql (t 72) (n 0)) 71,
 zF 74 (.pick (.tmp 71) (.tmp 73) (.const (.bool false))) 66,
 zF 75 (.binOp .neq 4 (.tmp 67) (.tmp 74) 4) 66,
 z 76 (.pick (.tmp 66) (.const (.bool true)) (.tmp 75))])
(.cond (t 76)
(S (R [z 4 (ab false)])
(.ret [4]))
.skip))
(S (R [z 77 (fa 28 7 3),
 z 78 (ld 25 77),
 o 79 (.indexAddr 25 (.tmp 78) (.const (.int .i64 0))),
 z 80 (ld 44 79),
 z 11 (al 44),
 ⟨none, st 44 11 80, none, true⟩])
(S (S (R [z 81 (mv 9)])
(.cond (t 81)
(S (R [z 82 (fa 44 11 11),
 z 83 (ld 3 82),
 z 84 (bo .eql (t 83) (n 0)),
 z 85 (mv 84),
 zT 86 (fa 44 11 5) 85,
 zT 87 (ld 3 86) 85,
 zT 88 (bo .eql (t 87) (n 1)) 85,
 z 89 (.pick (.tmp 85) (.tmp 88) (.const (.bool false))),
 z 90 (mv 89),
 zT 91 (fa 44 11 7) 90,
 zT 92 (ld 41 91) 90,
 zT 93 (len 92 41) 90,
 zT 94 (bo .eql (t 93) (n 2)) 90,
 z 95 (.pick (.tmp 90) (.tmp 94) (.const (.bool false))),
 z 96 (mv 95),
 zT 97 (fa 44 11 6) 96,
 oT 98 (.indexAddr 24 (.tmp 97) (.const (.int .i64 0))) 96,
 zT 99 (ld 3 98) 96,
 zT 100 (bo .eql (t 99) (n 5)) 96,
 z 101 (.pick (.tmp 96) (.tmp 100) (.const (.bool false))),
 z 4 (av 101)])
(.ret [4]))
.skip))
(S (R [z 102 (fa 44 11 11),
 z 103 (ld 3 102),
 z 104 (bo .eql (t 103) (n 1)),
 z 105 (mv 104),
 zT 106 (fa 44 11 5) 105,
 zT 107 (ld 3 106) 105,
 zT 108 (bo .eql (t 107) (n 0)) 105,
 z 109 (.pick (.tmp 105) (.tmp 108) (.const (.bool false))),
 z 110 (mv 109),
 zT 111 (fa 44 11 7) 110,
 zT 112 (ld 41 111) 110,
 zT 113 (len 112 41) 110,
 zT 114 (bo .eql (t 113) (n 0)) 110,
 z 115 (.pick (.tmp 110) (.tmp 114) (.const (.bool false))),
 z 116 (mv 115),
 zT 117 (fa 44 11 6) 116,
 zT 118 (ld 24 117) 116,
 zT 119 (.build 24 #[]) 116,
 zT 120 (.binOp .eql 24 (.tmp 118) (.tmp 119) 24) 116,
 z 121 (.pick (.tmp 116) (.tmp 120) (.const (.bool false))),
 z 4 (av 121)])
(.ret [4]))))))))))))))
def g12 : IFn := ⟨122, [.tmp 4], [4], c12, [], false, none⟩
/- 13 veil/veillaw15.FetchForms -/
def c13 : IR := (S (R [z 4 (ab false)])
(S (S (R [z 10 (cl 31 #[] #[]),
 z 11 (.unOp .not 4 (.tmp 10))])
(.cond (t 11)
(S (R [z 4 (ab false)])
(.ret [4]))
.skip))
(S (R [z 12 (mv 1),
 z 13 (bo .and (t 12) (n 1023)),
 z 14 (bo .add (n 1) (t 13)),
 z 5 (av 14)])
(S (R [o 15 (cl 33 #[] #[]),
 z 6 (al 28),
 ⟨none, st 28 6 15, none, true⟩,
 z 7 (an 0)])
(S (S (R [z 16 (mv 0),
 z 17 (.convert 3 50 (.tmp 16)),
 z 18 (.binOp .rem 50 (.tmp 17) (.const (.int .u64 7)) 50)])
(.block 0 (S (R [z 24 (.binOp .eql 50 (.tmp 18) (.const (.int .u64 0)) 50),
 z 23 (av 24)])
(.cond (t 23)
(R [z 25 (mv 5),
 z 26 (.unOp .neg 3 (.tmp 25)),
 z 27 (mv 5),
 z 28 (bo .add (n 1) (t 27)),
 z 29 (.buildSlice 51 2 #[(0, (.tmp 26)), (1, (.tmp 28))]),
 z 30 (mv 0),
 z 31 (.binOp .shr 3 (.tmp 30) (.const (.int .u64 3)) 50),
 z 32 (bo .and (t 31) (n 1)),
 o 33 (ia 51 29 32),
 z 34 (ld 3 33),
 z 7 (av 34)])
(S (R [z 36 (.binOp .eql 50 (.tmp 18) (.const (.int .u64 1)) 50),
 z 35 (av 36)])
(.cond (t 35)
(R [z 37 (mv 5),
 z 38 (bo .add (n 65535) (t 37)),
 z 39 (fa 28 6 2),
 ⟨none, st 3 39 38, none, true⟩])
(S (R [z 41 (.binOp .eql 50 (.tmp 18) (.const (.int .u64 2)) 50),
 z 40 (av 41)])
(.cond (t 40)
(R [z 42 (fa 28 6 3),
 z 43 (ld 25 42),
 o 44 (.indexAddr 25 (.tmp 43) (.const (.int .i64 0))),
 z 45 (fa 44 44 4),
 ⟨none, .store 3 (.tmp 45) (.const (.int .i64 1)), none, true⟩])
(S (R [z 47 (.binOp .eql 50 (.tmp 18) (.const (.int .u64 3)) 50),
 z 46 (av 47)])
(.cond (t 46)
(R [z 48 (fa 28 6 3),
 z 49 (ld 25 48),
 o 50 (.indexAddr 25 (.tmp 49) (.const (.int .i64 0))),
 z 51 (fa 44 50 5),
 ⟨none, .store 3 (.tmp 51) (.const (.int .i64 3)), none, true⟩])
(S (R [z 53 (.binOp .eql 50 (.tmp 18) (.const (.int .u64 4)) 50),
 z 52 (av 53)])
(.cond (t 52)
(R [z 54 (fa 28 6 3),
 z 55 (ld 25 54),
 o 56 (.indexAddr 25 (.tmp 55) (.const (.int .i64 0))),
 z 57 (fa 44 56 5),
 ⟨none, .store 3 (.tmp 57) (.const (.int .i64 1)), none, true⟩])
(S (R [z 59 (.binOp .eql 50 (.tmp 18) (.const (.int .u64 5)) 50),
 z 58 (av 59)])
(.cond (t 58)
(R [z 60 (fa 28 6 3),
 z 61 (ld 25 60),
 z 62 (.build 57 #[(0, (.const (.int .i64 2))), (2, (.const (.int .i64 1)))]),
 z 63 (.buildSlice 40 1 #[(0, (.tmp 62))]),
 o 64 (.indexAddr 25 (.tmp 61) (.const (.int .i64 0))),
 z 65 (fa 44 64 3),
 ⟨none, st 40 65 63, none, true⟩])
(R [z 19 (fa 28 6 3),
 z 20 (ld 25 19),
 o 21 (.indexAddr 25 (.tmp 20) (.const (.int .i64 0))),
 z 22 (fa 44 21 4),
 ⟨none, .store 3 (.tmp 22) (.const (.int .i64 6)), none, true⟩])))))))))))))))
(S (R [z 67 (ld 28 6),
 z 68 (mv 7),
 z 69 (cl 29 #[(t 67), (t 68)] #[28, 3]),
 z 66 (mv 69),
 z 70 (xt 66 0),
 z 71 (xt 66 1),
 z 8 (al 28),
 ⟨none, st 28 8 70, none, true⟩,
 z 9 (av 71)])
(S (R [z 72 (ld 28 8),
 z 73 (.build 28 #[]),
 z 74 (cl 18 #[(t 72), (t 73)] #[28, 28]),
 z 75 (mv 74),
 zT 76 (mv 9) 75,
 zT 77 (cl 19 #[(t 76)] #[30]) 75,
 zT 78 (bo .eql (t 77) (n 1500)) 75,
 z 79 (.pick (.tmp 75) (.tmp 78) (.const (.bool false))),
 z 4 (av 79)])
(.ret [4]))))))))
def g13 : IFn := ⟨80, [.tmp 4], [4], c13, [], false, none⟩
/- 14 veil/veillaw15.FetchTwice -/
def c14_1 : IR := (S (S (R [z 30 (mv 5),
 z 31 (bo .lss (t 30) (n 4))])
(.cond (t 31)
.skip
(.exit 0 [3, 4])))
(S (.block 1 (S (R [z 35 (ld 28 3),
 z 36 (cl 29 #[(t 35), (n 0)] #[28, 3]),
 z 34 (mv 36),
 z 37 (xt 34 0),
 z 38 (xt 34 1),
 z 6 (al 28),
 ⟨none, st 28 6 37, none, true⟩,
 z 7 (av 38)])
(S (S (R [z 39 (mv 7),
 z 40 (cl 19 #[(t 39)] #[30]),
 z 41 (bo .neq (t 40) (n 0)),
 z 42 (mv 41),
 zF 43 (fa 28 6 3) 42,
 zF 44 (ld 25 43) 42,
 zF 45 (len 44 25) 42,
 zF 46 (bo .neq (t 45) (n 2)) 42,
 z 47 (.pick (.tmp 42) (.const (.bool true)) (.tmp 46)),
 z 48 (mv 47),
 zF 49 (fa 28 6 3) 48,
 zF 50 (ld 25 49) 48,
 oF 51 (.indexAddr 25 (.tmp 50) (.const (.int .i64 0))) 48,
 zF 52 (fa 44 51 5) 48,
 zF 53 (ld 3 52) 48,
 zF 54 (mv 5) 48,
 zF 55 (bo .add (t 54) (n 1)) 48,
 zF 56 (bo .neq (t 53) (t 55)) 48,
 z 57 (.pick (.tmp 48) (.const (.bool true)) (.tmp 56))])
(.cond (t 57)
(S (R [z 2 (ab false)])
(.ret [2]))
.skip))
(R [z 58 (ld 28 6),
 ⟨none, st 28 3 58, none, true⟩]))))
(R [z 32 (mv 5),
 z 33 (bo .add (t 32) (n 1)),
 z 5 (av 33)])))
def c14 : IR := (S (R [z 2 (ab false)])
(S (S (R [z 11 (cl 31 #[] #[]),
 z 12 (.unOp .not 4 (.tmp 11))])
(.cond (t 12)
(S (R [z 2 (ab false)])
(.ret [2]))
.skip))
(S (R [o 13 (cl 33 #[] #[]),
 z 3 (al 28),
 ⟨none, st 28 3 13, none, true⟩])
(S (R [z 14 (mv 0),
 z 15 (bo .and (t 14) (n 1)),
 z 4 (av 15)])
(S (R [z 16 (fa 28 3 3),
 z 17 (ld 25 16),
 z 18 (mv 4),
 z 19 (.build 57 #[(0, (.const (.int .i64 2))), (3, (.tmp 18))]),
 z 20 (mv 4),
 z 21 (.build 57 #[(0, (.const (.int .i64 2))), (1, (.const (.int .i64 1))), (3, (.tmp 20))]),
 z 22 (mv 4),
 z 23 (bo .sub (n 1) (t 22)),
 z 24 (.build 57 #[(0, (.const (.int .i64 2))), (1, (.const (.int .i64 2))), (3, (.tmp 23))]),
 z 25 (mv 4),
 z 26 (.build 57 #[(0, (.const (.int .i64 2))), (1, (.const (.int .i64 3))), (3, (.tmp 25))]),
 z 27 (.buildSlice 40 4 #[(0, (.tmp 19)), (1, (.tmp 21)), (2, (.tmp 24)), (3, (.tmp 26))]),
 o 28 (.indexAddr 25 (.tmp 17) (.const (.int .i64 0))),
 z 29 (fa 44 28 3),
 ⟨none, st 40 29 27, none, true⟩])
(S (S (R [z 5 (an 0)])
(.block 0 (.loop [3, 4, 5] c14_1)))
(S (R [z 59 (fa 28 3 3),
 z 60 (ld 25 59),
 o 61 (.indexAddr 25 (.tmp 60) (.const (.int .i64 0))),
 z 62 (ld 44 61),
 z 8 (al 44),
 ⟨none, st 44 8 62, none, true⟩])
(S (R [z 64 (ld 28 3),
 z 65 (cl 27 #[(t 64), (n 0)] #[28, 3]),
 z 63 (mv 65),
 z 66 (xt 63 0),
 z 67 (xt 63 1),
 z 9 (al 28),
 ⟨none, st 28 9 66, none, true⟩,
 z 10 (av 67)])
(S (R [z 68 (fa 44 8 6),
 z 69 (ld 24 68),
 z 70 (mv 4),
 z 71 (bo .add (n 5) (t 70)),
 z 72 (mv 4),
 z 73 (bo .add (n 5) (t 72)),
 z 74 (mv 4),
 z 75 (bo .sub (n 6) (t 74)),
 z 76 (mv 4),
 z 77 (bo .add (n 5) (t 76)),
 z 78 (.build 24 #[(0, (.tmp 71)), (1, (.tmp 73)), (2, (.tmp 75)), (3, (.tmp 77))]),
 z 79 (.binOp .eql 24 (.tmp 69) (.tmp 78) 24),
 z 80 (mv 79),
 zT 81 (fa 44 8 7) 80,
 zT 82 (ld 41 81) 80,
 zT 83 (mv 4) 80,
 zT 84 (.build 59 #[(1, (.tmp 83))]) 80,
 zT 85 (mv 4) 80,
 zT 86 (bo .sub (n 1) (t 85)) 80,
 zT 87 (.build 59 #[(1, (.tmp 86))]) 80,
 zT 88 (.buildSlice 41 2 #[(0, (.tmp 84)), (1, (.tmp 87))]) 80,
 zT 89 (cl 22 #[(t 82), (t 88)] #[41, 41]) 80,
 z 90 (.pick (.tmp 80) (.tmp 89) (.const (.bool false))),
 z 91 (mv 90),
 zT 92 (fa 28 3 4) 91,
 zT 93 (ld 26 92) 91,
 zT 94 (len 93 26) 91,
 zT 95 (bo .eql (t 94) (n 4)) 91,
 z 96 (.pick (.tmp 91) (.tmp 95) (.const (.bool false))),
 z 97 (mv 96),
 zT 98 (mv 10) 97,
 zT 99 (bo .eql (t 98) (n 0)) 97,
 z 100 (.pick (.tmp 97) (.tmp 99) (.const (.bool false))),
 z 101 (mv 100),
 zT 102 (fa 28 9 3) 101,
 zT 103 (ld 25 102) 101,
 zT 104 (len 103 25) 101,
 zT 105 (bo .eql (t 104) (n 2)) 101,
 z 106 (.pick (.tmp 101) (.tmp 105) (.const (.bool false))),
 z 2 (av 106)])
(.ret [2]))))))))))
def g14 : IFn := ⟨107, [.tmp 2], [4], c14, [], false, none⟩
/- 15 veil/veillaw0.CopyMachine -/
def d15_1 : IR := D [o 18 (fa 28 3 3),
 o 19 (ld 25 18),
 o 20 (fa 28 1 3),
 o 21 (ld 25 20),
 o 22 (mv 4),
 o 23 (ia 25 21 22),
 o 24 (ld 44 23),
 o 25 (cl 36 #[(t 24)] #[44]),
 o 26 (.buildSlice 25 1 #[(0, (.tmp 25))]),
 o 27 (.call { callee := (.builtin .append), args := #[(.tmp 19), (.tmp 26)], argTypes := #[25, 25] }),
 o 28 (fa 28 3 3),
 w (st 25 28 27)] [[], [0], [], [2], [], [3, 4], [5], [6], [7], [1, 8, 7], [0, 1, 2, 3, 4, 5, 6, 7, 8, 9], [10, 9, 9, 0, 1, 2, 3, 4, 5, 6, 7, 8, 9]]
def c15_1 : IR := (S (S (R [o 11 (mv 4),
 o 12 (fa 28 1 3),
 o 13 (ld 25 12),
 o 14 (len 13 25),
 o 15 (bo .lss (t 11) (t 14))])
(.cond (t 15)
.skip
(.exit 0 [1, 2, 3])))
(S (.block 1 d15_1)
(R [o 16 (mv 4),
 o 17 (bo .add (t 16) (n 1)),
 o 4 (av 17)])))
def c15 : IR := (S (R [z 1 (bx 28 0),
 o 2 (al 28)])
(S (R [o 5 (ld 28 1),
 o 3 (al 28),
 w (st 28 3 5)])
(S (R [o 6 (fa 28 1 0),
 o 7 (ld 23 6),
 o 8 (cl 35 #[(t 7)] #[23]),
 o 9 (fa 28 3 0),
 w (st 23 9 8)])
(S (R [o 10 (fa 28 3 3),
 w (.store 25 (.tmp 10) (.const (.slice none 0 0)))])
(S (S (R [o 4 (an 0)])
(.block 0 (.loop [1, 2, 3, 4] c15_1)))
(S (R [o 29 (.buildSlice 26 0 #[]),
 o 30 (fa 28 1 4),
 o 31 (ld 26 30),
 o 32 (.call { callee := (.builtin .append), args := #[(.tmp 29), (.tmp 31)], argTypes := #[26, 26] }),
 o 33 (fa 28 3 4),
 w (st 26 33 32)])
(S (R [o 34 (ld 28 3),
 w (st 28 2 34)])
(.ret [2]))))))))
def g15 : IFn := ⟨35, [.cell 2 28], [28], c15, [], false, none⟩
/- 16 veil/park.Step -/
def d16_1 : IR := D [o 41 (fa 28 2 0),
 o 42 (ld 23 41),
 o 43 (fa 28 2 3),
 o 44 (ld 25 43),
 o 45 (mv 1),
 o 46 (ia 25 44 45),
 o 47 (fa 44 46 7),
 o 48 (ld 41 47),
 o 49 (cl 41 #[(t 42), (t 48)] #[23, 41]),
 o 40 (mv 49),
 o 50 (xt 40 0),
 o 51 (xt 40 1),
 o 8 (av 50),
 o 9 (av 51)] [[], [0], [], [2], [], [3, 4], [5], [6], [1, 7], [8], [9], [9], [10, 8, 0, 1, 2, 3, 4, 5, 6, 7, 8, 9, 10], [11, 12, 0, 1, 2, 3, 4, 5, 6, 7, 8, 9, 10, 11, 12]]
def c16 : IR := (S (R [z 2 (bx 28 0),
 o 4 (al 28),
 o 5 (an 0)])
(S (S (R [o 10 (mv 1),
 o 11 (.buildSlice 51 1 #[(0, (.const (.int .i64 5)))]),
 o 12 (cl 37 #[(t 2), (t 10), (t 11)] #[73, 3, 51])])
(.cond (t 12)
(S (R [o 13 (ld 28 2),
 o 14 (cl 38 #[(t 13)] #[28]),
 o 6 (al 28),
 w (st 28 6 14)])
(S (R [o 15 (fa 28 6 3),
 o 16 (ld 25 15),
 o 17 (mv 1),
 o 18 (ia 25 16 17),
 o 7 (av 18)])
(S (R [o 19 (mv 7),
 o 20 (mv 7),
 o 21 (mv 7),
 o 22 (nc 19),
 o 23 (fa 44 22 8),
 w (.store 42 (.tmp 23) (.const (.slice none 0 0))),
 o 24 (nc 20),
 o 25 (fa 44 24 9),
 w (.store 3 (.tmp 25) (.const (.int .i64 0))),
 o 26 (nc 21),
 o 27 (fa 44 26 4),
 w (.store 3 (.tmp 27) (.const (.int .i64 5)))])
(S (R [o 28 (mv 1),
 o 29 (mv 7),
 o 30 (nc 29),
 o 31 (fa 44 30 7),
 o 32 (ld 41 31),
 o 33 (len 32 41),
 o 34 (cl 39 #[(t 6), (t 28), (n 4), (t 33)] #[73, 3, 3, 3])])
(S (R [o 35 (ld 28 6),
 w (st 28 4 35),
 o 5 (an 0)])
(.ret [4, 5]))))))
.skip))
(S (S (R [o 36 (mv 1),
 o 37 (cl 40 #[(t 2), (t 36), (n 5)] #[73, 3, 3]),
 o 38 (.unOp .not 4 (.tmp 37))])
(.cond (t 38)
(S (R [o 39 (.build 28 #[]),
 w (st 28 4 39),
 o 5 (an 2200)])
(.ret [4, 5]))
.skip))
(S (S d16_1
(S (R [o 52 (mv 8)])
(.cond (t 52)
(S (R [o 53 (ld 28 2),
 o 54 (mv 1),
 o 55 (cl 42 #[(t 53), (t 54), (n 5)] #[28, 3, 3]),
 o 56 (xt 55 0),
 o 57 (xt 55 1),
 w (st 28 4 56),
 o 5 (av 57)])
(.ret [4, 5]))
.skip)))
(S (R [o 58 (ld 28 2),
 o 59 (cl 38 #[(t 58)] #[28]),
 w (st 28 4 59),
 o 5 (an 0)])
(.ret [4, 5]))))))
def g16 : IFn := ⟨60, [.cell 4 28, .tmp 5], [28, 30], c16, [], false, none⟩
/- 17 veil/veilref11.Park -/
def d17_1 : IR := D [o 53 (ld 28 6),
 o 54 (mv 1),
 o 55 (fa 28 2 3),
 o 56 (ld 25 55),
 o 57 (mv 1),
 o 58 (ia 25 56 57),
 o 59 (fa 44 58 7),
 o 60 (ld 41 59),
 o 61 (len 60 41),
 o 62 (cl 46 #[(t 53), (t 54), (n 4), (t 61)] #[28, 3, 3, 3]),
 w (st 28 4 62),
 o 5 (an 0)] [[], [], [], [2], [], [3, 4], [5], [6], [7], [0, 1, 8], [9, 9, 0, 1, 2, 3, 4, 5, 6, 7, 8, 9], [10, 0, 1, 2, 3, 4, 5, 6, 7, 8, 9, 10]]
def d17_2 : IR := D [o 64 (fa 28 2 0),
 o 65 (ld 23 64),
 o 66 (fa 28 2 3),
 o 67 (ld 25 66),
 o 68 (mv 1),
 o 69 (ia 25 67 68),
 o 70 (fa 44 69 7),
 o 71 (ld 41 70),
 o 72 (cl 24 #[(t 65), (t 71)] #[23, 41]),
 o 63 (mv 72),
 o 73 (xt 63 0),
 o 74 (xt 63 1),
 o 7 (av 73),
 o 8 (av 74)] [[], [0], [], [2], [], [3, 4], [5], [6], [1, 7], [8], [9], [9], [10, 8, 0, 1, 2, 3, 4, 5, 6, 7, 8, 9, 10], [11, 12, 0, 1, 2, 3, 4, 5, 6, 7, 8, 9, 10, 11, 12]]
def c17 : IR := (S (R [z 2 (bx 28 0),
 o 4 (al 28),
 o 5 (an 0)])
(S (S (R [o 9 (ld 28 2),
 o 10 (mv 1),
 o 11 (cl 43 #[(t 9), (t 10)] #[28, 3]),
 o 12 (.unOp .not 4 (.tmp 11)),
 o 13 (mv 12),
 oF 14 (fa 28 2 3) 13,
 oF 15 (ld 25 14) 13,
 oF 16 (mv 1) 13,
 oF 17 (ia 25 15 16) 13,
 oF 18 (fa 44 17 4) 13,
 oF 19 (ld 3 18) 13,
 oF 20 (bo .neq (t 19) (n 5)) 13,
 oF 21 (mv 20) 13,
 oT 22 (ld 28 2) 21,
 oT 23 (mv 1) 21,
 oT 24 (cl 44 #[(t 22), (t 23)] #[28, 3]) 21,
 oT 25 (bo .neq (t 24) (n 5)) 21,
 oF 26 (.pick (.tmp 21) (.tmp 25) (.const (.bool false))) 13,
 o 27 (.pick (.tmp 13) (.const (.bool true)) (.tmp 26))])
(.cond (t 27)
(S (R [o 28 (.build 28 #[]),
 w (st 28 4 28),
 o 5 (an 2200)])
(.ret [4, 5]))
.skip))
(S (R [o 29 (ld 28 2),
 o 30 (cl 45 #[(t 29)] #[28]),
 o 6 (al 28),
 w (st 28 6 30)])
(S (S (R [o 31 (fa 28 2 3),
 o 32 (ld 25 31),
 o 33 (mv 1),
 o 34 (ia 25 32 33),
 o 35 (fa 44 34 4),
 o 36 (ld 3 35),
 o 37 (bo .eql (t 36) (n 0))])
(.cond (t 37)
(S (R [o 38 (fa 28 6 3),
 o 39 (ld 25 38),
 o 40 (mv 1),
 o 41 (ia 25 39 40),
 o 42 (fa 44 41 8),
 w (.store 42 (.tmp 42) (.const (.slice none 0 0)))])
(S (R [o 43 (fa 28 6 3),
 o 44 (ld 25 43),
 o 45 (mv 1),
 o 46 (ia 25 44 45),
 o 47 (fa 44 46 9),
 w (.store 3 (.tmp 47) (.const (.int .i64 0)))])
(S (R [o 48 (fa 28 6 3),
 o 49 (ld 25 48),
 o 50 (mv 1),
 o 51 (ia 25 49 50),
 o 52 (fa 44 51 4),
 w (.store 3 (.tmp 52) (.const (.int .i64 5)))])
(S d17_1
(.ret [4, 5])))))
.skip))
(S d17_2
(S (S (R [o 75 (mv 7)])
(.cond (t 75)
(S (R [o 76 (ld 28 2),
 o 77 (mv 1),
 o 78 (cl 47 #[(t 76), (t 77), (n 5)] #[28, 3, 3]),
 o 79 (xt 78 0),
 o 80 (xt 78 1),
 w (st 28 4 79),
 o 5 (av 80)])
(.ret [4, 5]))
.skip))
(S (R [o 81 (ld 28 6),
 w (st 28 4 81),
 o 5 (an 0)])
(.ret [4, 5]))))))))
def g17 : IFn := ⟨82, [.cell 4 28, .tmp 5], [28, 3], c17, [], false, none⟩
/- 18 veil/veillaw0.SameMachine -/
def d18_1 : IR := D [o 50 (fa 28 2 3),
 o 51 (ld 25 50),
 o 52 (mv 5),
 o 53 (ia 25 51 52),
 o 54 (ld 44 53),
 o 55 (fa 28 3 3),
 o 56 (ld 25 55),
 o 57 (mv 5),
 o 58 (ia 25 56 57),
 o 59 (ld 44 58),
 o 60 (cl 48 #[(t 54), (t 59)] #[44, 44]),
 o 61 (.unOp .not 4 (.tmp 60))] [[], [0], [], [1, 2], [3], [], [5], [], [6, 7], [8], [4, 9], [10]]
def c18_1 : IR := (S (S (R [o 43 (mv 5),
 o 44 (fa 28 2 3),
 o 45 (ld 25 44),
 o 46 (len 45 25),
 o 47 (bo .lss (t 43) (t 46))])
(.cond (t 47)
.skip
(.exit 0 [])))
(S (.block 1 (S d18_1
(.cond (t 61)
(S (R [o 4 (ab false)])
(.ret [4]))
.skip)))
(R [o 48 (mv 5),
 o 49 (bo .add (t 48) (n 1)),
 o 5 (av 49)])))
def c18 : IR := (S (R [z 2 (bx 28 0),
 z 3 (bx 28 1),
 o 4 (ab false)])
(S (S (R [o 6 (fa 28 2 0),
 o 7 (ld 23 6),
 o 8 (fa 28 3 0),
 o 9 (ld 23 8),
 o 10 (cl 23 #[(t 7), (t 9)] #[23, 23]),
 o 11 (.unOp .not 4 (.tmp 10)),
 o 12 (mv 11),
 oF 13 (fa 28 2 1) 12,
 oF 14 (ld 24 13) 12,
 oF 15 (fa 28 3 1) 12,
 oF 16 (ld 24 15) 12,
 oF 17 (.binOp .neq 24 (.tmp 14) (.tmp 16) 24) 12,
 o 18 (.pick (.tmp 12) (.const (.bool true)) (.tmp 17)),
 o 19 (mv 18),
 oF 20 (fa 28 2 2) 19,
 oF 21 (ld 3 20) 19,
 oF 22 (fa 28 3 2) 19,
 oF 23 (ld 3 22) 19,
 oF 24 (bo .neq (t 21) (t 23)) 19,
 o 25 (.pick (.tmp 19) (.const (.bool true)) (.tmp 24)),
 o 26 (mv 25),
 oF 27 (fa 28 2 3) 26,
 oF 28 (ld 25 27) 26,
 oF 29 (len 28 25) 26,
 oF 30 (fa 28 3 3) 26,
 oF 31 (ld 25 30) 26,
 oF 32 (len 31 25) 26,
 oF 33 (bo .neq (t 29) (t 32)) 26,
 o 34 (.pick (.tmp 26) (.const (.bool true)) (.tmp 33)),
 o 35 (mv 34),
 oF 36 (fa 28 2 4) 35,
 oF 37 (ld 26 36) 35,
 oF 38 (fa 28 3 4) 35,
 oF 39 (ld 26 38) 35,
 oF 40 (cl 34 #[(t 37), (t 39)] #[26, 26]) 35,
 oF 41 (.unOp .not 4 (.tmp 40)) 35,
 o 42 (.pick (.tmp 35) (.const (.bool true)) (.tmp 41))])
(.cond (t 42)
(S (R [o 4 (ab false)])
(.ret [4]))
.skip))
(S (S (R [o 5 (an 0)])
(.block 0 (.loop [2, 3, 5] c18_1)))
(S (R [o 4 (ab true)])
(.ret [4])))))
def g18 : IFn := ⟨62, [.tmp 4], [4], c18, [], false, none⟩
/- 19 veil/veillaw0.Num -/
def c19 : IR := (S (R [o 2 (an 0)])
(S (R [o 3 (mv 0),
 o 2 (av 3)])
(.ret [2])))
def g19 : IFn := ⟨4, [.tmp 2], [3], c19, [], false, none⟩
/- 20 veil/veillaw0.SpoilMachine -/
def d20_1 : IR := D [o 19 (fa 28 1 3),
 o 20 (ld 25 19),
 o 21 (mv 2),
 o 22 (fa 28 1 3),
 o 23 (ld 25 22),
 o 24 (mv 2),
 o 25 (ia 25 23 24),
 o 26 (fa 44 25 0),
 o 27 (ld 3 26),
 o 28 (bo .xor (t 27) (n 90)),
 o 29 (ia 25 20 21),
 o 30 (fa 44 29 0),
 w (st 3 30 28)] [[], [0], [], [], [3], [], [4, 5], [6], [7], [8], [1, 2, 0, 1, 2, 3, 4, 5, 6, 7, 8, 9], [10, 0, 1, 2, 3, 4, 5, 6, 7, 8, 9], [11, 9, 0, 1, 2, 3, 4, 5, 6, 7, 8, 9]]
def c20_1 : IR := (S (S (R [o 6 (mv 2),
 o 7 (fa 28 1 3),
 o 8 (ld 25 7),
 o 9 (len 8 25),
 o 10 (bo .lss (t 6) (t 9))])
(.cond (t 10)
.skip
(.exit 0 [1])))
(S (.block 1 (S (R [o 13 (fa 28 1 3),
 o 14 (ld 25 13),
 o 15 (mv 2),
 o 16 (ia 25 14 15),
 o 17 (ld 44 16),
 o 18 (cl 50 #[(t 17)] #[44])])
d20_1))
(R [o 11 (mv 2),
 o 12 (bo .add (t 11) (n 1)),
 o 2 (av 12)])))
def c20 : IR := (S (R [o 1 (bx 28 0)])
(S (R [o 3 (fa 28 1 0),
 o 4 (ld 23 3),
 o 5 (cl 49 #[(t 4)] #[23])])
(S (S (R [o 2 (an 0)])
(.block 0 (.loop [1, 2] c20_1)))
(R [o 31 (fa 28 1 4),
 o 32 (ld 26 31),
 o 33 (cl 51 #[(t 32)] #[26])]))))
def g20 : IFn := ⟨34, [], [], c20, [true], false, none⟩
/- 21 veil/veillaw22.awake -/
def c21 : IR := (S (R [z 0 (ab false)])
(S (R [o 8 (cl 25 #[] #[]),
 z 1 (al 28),
 ⟨none, st 28 1 8, none, true⟩])
(S (R [z 10 (ld 28 1),
 z 11 (cl 16 #[(t 10), (n 0)] #[28, 3]),
 z 9 (mv 11),
 z 12 (xt 9 0),
 z 13 (xt 9 1),
 z 2 (al 28),
 ⟨none, st 28 2 12, none, true⟩,
 z 3 (av 13)])
(S (R [z 14 (fa 28 1 0),
 o 15 (.indexAddr 23 (.tmp 14) (.const (.int .i64 0))),
 z 16 (ld 22 15),
 o 17 (.indexAddr 22 (.tmp 16) (.const (.int .i64 1))),
 z 18 (fa 54 17 1),
 ⟨none, .store 3 (.tmp 18) (.const (.int .i64 4)), none, true⟩])
(S (R [z 20 (ld 28 1),
 z 21 (cl 16 #[(t 20), (n 0)] #[28, 3]),
 z 19 (mv 21),
 z 22 (xt 19 0),
 z 23 (xt 19 1),
 z 4 (al 28),
 ⟨none, st 28 4 22, none, true⟩,
 z 5 (av 23)])
(S (R [z 25 (cl 28 #[(n 0), (n 1)] #[3, 3]),
 z 26 (cl 16 #[(t 25), (n 0)] #[28, 3]),
 z 24 (mv 26),
 z 27 (xt 24 0),
 z 28 (xt 24 1),
 z 6 (al 28),
 ⟨none, st 28 6 27, none, true⟩,
 z 7 (av 28)])
(S (S (R [z 29 (fa 28 2 3),
 z 30 (ld 25 29),
 z 31 (len 30 25),
 z 32 (bo .neq (t 31) (n 2)),
 z 33 (mv 32),
 zF 34 (fa 28 4 3) 33,
 zF 35 (ld 25 34) 33,
 zF 36 (len 35 25) 33,
 zF 37 (bo .neq (t 36) (n 2)) 33,
 z 38 (.pick (.tmp 33) (.const (.bool true)) (.tmp 37))])
(.cond (t 38)
(S (R [z 0 (ab false)])
(.ret [0]))
.skip))
(S (R [z 39 (fa 28 2 3),
 z 40 (ld 25 39),
 o 41 (.indexAddr 25 (.tmp 40) (.const (.int .i64 0))),
 z 42 (fa 44 41 4),
 z 43 (ld 3 42),
 z 44 (bo .eql (t 43) (n 5)),
 z 45 (mv 44),
 zT 46 (mv 3) 45,
 zT 47 (cl 19 #[(t 46)] #[30]) 45,
 zT 48 (bo .eql (t 47) (n 0)) 45,
 z 49 (.pick (.tmp 45) (.tmp 48) (.const (.bool false))),
 z 50 (mv 49),
 zT 51 (fa 28 4 3) 50,
 zT 52 (ld 25 51) 50,
 oT 53 (.indexAddr 25 (.tmp 52) (.const (.int .i64 0))) 50,
 zT 54 (fa 44 53 4) 50,
 zT 55 (ld 3 54) 50,
 zT 56 (bo .eql (t 55) (n 0)) 50,
 z 57 (.pick (.tmp 50) (.tmp 56) (.const (.bool false))),
 z 58 (mv 57),
 zT 59 (fa 28 4 3) 58,
 zT 60 (ld 25 59) 58,
 oT 61 (.indexAddr 25 (.tmp 60) (.const (.int .i64 0))) 58,
 zT 62 (fa 44 61 11) 58,
 zT 63 (ld 3 62) 58,
 zT 64 (bo .eql (t 63) (n 1)) 58,
 z 65 (.pick (.tmp 58) (.tmp 64) (.const (.bool false))),
 z 66 (mv 65),
 zT 67 (mv 5) 66,
 zT 68 (cl 19 #[(t 67)] #[30]) 66,
 zT 69 (bo .eql (t 68) (n 0)) 66,
 z 70 (.pick (.tmp 66) (.tmp 69) (.const (.bool false))),
 z 71 (mv 70),
 zT 72 (mv 7) 71,
 zT 73 (cl 19 #[(t 72)] #[30]) 71,
 zT 74 (bo .eql (t 73) (n 2200)) 71,
 z 75 (.pick (.tmp 71) (.tmp 74) (.const (.bool false))),
 z 0 (av 75)])
(.ret [0])))))))))
def g21 : IFn := ⟨76, [.tmp 0], [4], c21, [], false, none⟩
/- 22 veil/veillaw0.SameReads -/
def d22_1 : IR := D [o 17 (mv 0),
 o 18 (mv 5),
 o 19 (ia 41 17 18),
 o 20 (ld 59 19),
 o 21 (mv 1),
 o 22 (mv 5),
 o 23 (ia 41 21 22),
 o 24 (ld 59 23),
 o 25 (.binOp .neq 59 (.tmp 20) (.tmp 24) 59)] [[], [], [0, 1], [2], [], [], [4, 5], [6], [3, 7]]
def c22_1 : IR := (S (S (R [o 11 (mv 5),
 o 12 (mv 0),
 o 13 (len 12 41),
 o 14 (bo .lss (t 11) (t 13))])
(.cond (t 14)
.skip
(.exit 0 [])))
(S (.block 1 (S d22_1
(.cond (t 25)
(S (R [o 4 (ab false)])
(.ret [4]))
.skip)))
(R [o 15 (mv 5),
 o 16 (bo .add (t 15) (n 1)),
 o 5 (av 16)])))
def c22 : IR := (S (R [o 4 (ab false)])
(S (S (R [o 6 (mv 0),
 o 7 (len 6 41),
 o 8 (mv 1),
 o 9 (len 8 41),
 o 10 (bo .neq (t 7) (t 9))])
(.cond (t 10)
(S (R [o 4 (ab false)])
(.ret [4]))
.skip))
(S (S (R [o 5 (an 0)])
(.block 0 (.loop [0, 1, 5] c22_1)))
(S (R [o 4 (ab true)])
(.ret [4])))))
def g22 : IFn := ⟨26, [.tmp 4], [4], c22, [], false, none⟩
/- 23 veil/veillaw0.SameArena -/
def d23_1 : IR := D [o 10 (mv 5),
 o 11 (ia 23 2 10),
 o 12 (ld 22 11),
 o 13 (mv 5),
 o 14 (ia 23 3 13),
 o 15 (ld 22 14),
 o 16 (cl 52 #[(t 12), (t 15)] #[22, 22]),
 o 17 (.unOp .not 4 (.tmp 16))] [[], [0], [1], [], [3], [4], [2, 5], [6]]
def c23_1 : IR := (S (S (R [o 6 (mv 5),
 o 7 (bo .lss (t 6) (n 4))])
(.cond (t 7)
.skip
(.exit 0 [])))
(S (.block 1 (S d23_1
(.cond (t 17)
(S (R [o 4 (ab false)])
(.ret [4]))
.skip)))
(R [o 8 (mv 5),
 o 9 (bo .add (t 8) (n 1)),
 o 5 (av 9)])))
def c23 : IR := (S (R [z 2 (bx 23 0),
 z 3 (bx 23 1),
 o 4 (ab false)])
(S (S (R [o 5 (an 0)])
(.block 0 (.loop [2, 3, 5] c23_1)))
(S (R [o 4 (ab true)])
(.ret [4]))))
def g23 : IFn := ⟨18, [.tmp 4], [4], c23, [], false, none⟩
/- 24 veil/veilref1.Changed -/
def d24_1 : IR := D [o 27 (mv 1),
 o 28 (mv 6),
 o 29 (ia 41 27 28),
 o 30 (fa 59 29 0),
 o 31 (ld 3 30),
 o 32 (ia 23 2 31),
 o 33 (ld 22 32),
 o 34 (mv 1),
 o 35 (mv 6),
 o 36 (ia 41 34 35),
 o 37 (fa 59 36 1),
 o 38 (ld 3 37),
 o 39 (ia 22 33 38),
 o 40 (fa 54 39 1),
 o 41 (ld 3 40),
 o 42 (mv 1),
 o 43 (mv 6),
 o 44 (ia 41 42 43),
 o 45 (fa 59 44 2),
 o 46 (ld 3 45),
 o 47 (bo .neq (t 41) (t 46))] [[], [], [0, 1], [2], [3], [4], [5], [], [], [7, 8], [9], [10], [6, 11], [12], [13], [], [], [15, 16], [17], [18], [14, 19]]
def c24_1 : IR := (S (S (R [o 21 (mv 6),
 o 22 (mv 1),
 o 23 (len 22 41),
 o 24 (bo .lss (t 21) (t 23))])
(.cond (t 24)
.skip
(.exit 0 [])))
(S (.block 1 (S d24_1
(.cond (t 47)
(S (R [o 4 (ab true),
 o 5 (an 0)])
(.ret [4, 5]))
.skip)))
(R [o 25 (mv 6),
 o 26 (bo .add (t 25) (n 1)),
 o 6 (av 26)])))
def c24 : IR := (S (R [z 2 (bx 23 0),
 o 4 (ab false),
 o 5 (an 0)])
(S (S (R [o 7 (ld 23 2),
 o 8 (cl 53 #[(t 7)] #[23]),
 o 9 (.unOp .not 4 (.tmp 8)),
 o 10 (mv 9),
 oF 11 (mv 1) 10,
 oF 12 (cl 54 #[(t 11)] #[41]) 10,
 oF 13 (.unOp .not 4 (.tmp 12)) 10,
 o 14 (.pick (.tmp 10) (.const (.bool true)) (.tmp 13)),
 o 15 (mv 14),
 oF 16 (ld 23 2) 15,
 oF 17 (mv 1) 15,
 oF 18 (cl 55 #[(t 16), (t 17)] #[23, 41]) 15,
 oF 19 (.unOp .not 4 (.tmp 18)) 15,
 o 20 (.pick (.tmp 15) (.const (.bool true)) (.tmp 19))])
(.cond (t 20)
(S (R [o 4 (ab false),
 o 5 (an 900)])
(.ret [4, 5]))
.skip))
(S (S (R [o 6 (an 0)])
(.block 0 (.loop [1, 2, 6] c24_1)))
(S (R [o 4 (ab false),
 o 5 (an 0)])
(.ret [4, 5])))))
def g24 : IFn := ⟨48, [.tmp 4, .tmp 5], [4, 3], c24, [], false, none⟩
/- 25 veil/veillaw22.parked -/
def c25 : IR := (S (R [o 0 (al 28)])
(S (R [o 2 (cl 26 #[] #[]),
 o 1 (al 28),
 w (st 28 1 2)])
(S (R [o 3 (fa 28 1 3),
 o 4 (ld 25 3),
 o 5 (.build 57 #[(0, (.const (.int .i64 2))), (3, (.const (.int .i64 1)))]),
 o 6 (.build 57 #[(0, (.const (.int .i64 5)))]),
 o 7 (.buildSlice 40 2 #[(0, (.tmp 5)), (1, (.tmp 6))]),
 o 8 (.indexAddr 25 (.tmp 4) (.const (.int .i64 0))),
 o 9 (fa 44 8 3),
 w (st 40 9 7)])
(S (R [o 11 (ld 28 1),
 o 12 (cl 27 #[(t 11), (n 0)] #[28, 3]),
 o 10 (mv 12),
 o 13 (xt 10 0),
 o 14 (xt 10 1),
 w (st 28 1 13)])
(S (R [o 16 (ld 28 1),
 o 17 (cl 27 #[(t 16), (n 0)] #[28, 3]),
 o 15 (mv 17),
 o 18 (xt 15 0),
 o 19 (xt 15 1),
 w (st 28 1 18)])
(S (R [o 20 (ld 28 1),
 w (st 28 0 20)])
(.ret [0])))))))
def g25 : IFn := ⟨21, [.cell 0 28], [28], c25, [], false, none⟩
/- 26 veil/veillaw22.begun -/
def c26 : IR := (S (R [o 0 (al 28)])
(S (R [o 4 (.buildSlice 51 2 #[(0, (.const (.int .i64 5))), (1, (.const (.int .i64 6)))]),
 o 5 (.buildSlice 51 1 #[(0, (.const (.int .i64 7)))]),
 o 6 (.buildSlice 51 1 #[(0, (.const (.int .i64 9)))]),
 o 7 (.build 92 #[(0, (.tmp 4)), (1, (.tmp 5)), (2, (.const (.slice none 0 0))), (3, (.tmp 6))]),
 o 8 (.build 57 #[(0, (.const (.int .i64 2)))]),
 o 9 (.build 57 #[(0, (.const (.int .i64 1)))]),
 o 10 (.build 57 #[(0, (.const (.int .i64 3)))]),
 o 11 (.buildSlice 40 3 #[(0, (.tmp 8)), (1, (.tmp 9)), (2, (.tmp 10))]),
 o 12 (.build 94 #[(0, (.const (.int .i64 3))), (2, (.const (.int .i64 3))), (3, (.tmp 11))]),
 o 13 (.build 57 #[(0, (.const (.int .i64 2))), (3, (.const (.int .i64 1)))]),
 o 14 (.build 57 #[(0, (.const (.int .i64 3))), (2, (.const (.int .i64 1)))]),
 o 15 (.buildSlice 40 2 #[(0, (.tmp 13)), (1, (.tmp 14))]),
 o 16 (.build 94 #[(0, (.const (.int .i64 5))), (1, (.const (.int .i64 1))), (2, (.const (.int .i64 1))), (3, (.tmp 15))]),
 o 17 (.buildSlice 95 2 #[(0, (.tmp 12)), (1, (.tmp 16))]),
 o 18 (.build 98 #[(0, (.tmp 7)), (1, (.const (.int .i64 9))), (2, (.tmp 17))]),
 o 19 (cl 56 #[(t 18)] #[98]),
 o 3 (mv 19),
 o 20 (xt 3 0),
 o 21 (xt 3 1),
 o 1 (al 28),
 w (st 28 1 20),
 o 2 (av 21)])
(S (R [o 22 (ld 28 1),
 w (st 28 0 22)])
(.ret [0]))))
def g26 : IFn := ⟨23, [.cell 0 28], [28], c26, [], false, none⟩
/- 27 veil/veilref11.Step -/
def c27 : IR := (S (R [z 2 (bx 28 0),
 o 4 (al 28),
 o 5 (an 0)])
(S (S (R [o 8 (ld 28 2),
 o 9 (mv 1),
 o 10 (cl 43 #[(t 8), (t 9)] #[28, 3]),
 o 11 (.unOp .not 4 (.tmp 10))])
(.cond (t 11)
(S (R [o 12 (.build 28 #[]),
 w (st 28 4 12),
 o 5 (an 2300)])
(.ret [4, 5]))
.skip))
(S (R [o 13 (ld 28 2),
 o 14 (cl 45 #[(t 13)] #[28]),
 o 6 (al 28),
 w (st 28 6 14),
 o 7 (an 0)])
(S (S (R [o 15 (fa 28 2 3),
 o 16 (ld 25 15),
 o 17 (mv 1),
 o 18 (ia 25 16 17),
 o 19 (fa 44 18 4),
 o 20 (ld 3 19)])
(.block 0 (S (R [o 22 (bo .eql (t 20) (n 0)),
 o 21 (av 22)])
(.cond (t 21)
(R [o 24 (ld 28 2),
 o 25 (mv 1),
 o 26 (cl 57 #[(t 24), (t 25)] #[28, 3]),
 o 23 (mv 26),
 o 27 (xt 23 0),
 o 28 (xt 23 1),
 w (st 28 6 27),
 o 7 (av 28)])
(S (R [o 30 (bo .eql (t 20) (n 1)),
 o 29 (av 30)])
(.cond (t 29)
(R [o 32 (ld 28 2),
 o 33 (mv 1),
 o 34 (cl 58 #[(t 32), (t 33)] #[28, 3]),
 o 31 (mv 34),
 o 35 (xt 31 0),
 o 36 (xt 31 1),
 w (st 28 6 35),
 o 7 (av 36)])
(S (R [o 38 (bo .eql (t 20) (n 2)),
 o 37 (av 38)])
(.cond (t 37)
(R [o 40 (ld 28 2),
 o 41 (mv 1),
 o 42 (cl 59 #[(t 40), (t 41)] #[28, 3]),
 o 39 (mv 42),
 o 43 (xt 39 0),
 o 44 (xt 39 1),
 w (st 28 6 43),
 o 7 (av 44)])
(S (R [o 46 (bo .eql (t 20) (n 3)),
 o 45 (av 46)])
(.cond (t 45)
(R [o 48 (ld 28 2),
 o 49 (mv 1),
 o 50 (cl 60 #[(t 48), (t 49)] #[28, 3]),
 o 47 (mv 50),
 o 51 (xt 47 0),
 o 52 (xt 47 1),
 w (st 28 6 51),
 o 7 (av 52)])
(S (R [o 54 (bo .eql (t 20) (n 4)),
 o 53 (av 54)])
(.cond (t 53)
(R [o 56 (ld 28 2),
 o 57 (mv 1),
 o 58 (cl 61 #[(t 56), (t 57)] #[28, 3]),
 o 55 (mv 58),
 o 59 (xt 55 0),
 o 60 (xt 55 1),
 w (st 28 6 59),
 o 7 (av 60)])
(S (R [o 62 (bo .eql (t 20) (n 5)),
 o 61 (av 62)])
(.cond (t 61)
(R [o 64 (ld 28 2),
 o 65 (mv 1),
 o 66 (cl 17 #[(t 64), (t 65)] #[28, 3]),
 o 63 (mv 66),
 o 67 (xt 63 0),
 o 68 (xt 63 1),
 w (st 28 6 67),
 o 7 (av 68)])
.skip))))))))))))))
(S (S (R [o 69 (mv 7),
 o 70 (bo .neq (t 69) (n 0))])
(.cond (t 70)
(S (R [o 71 (.build 28 #[]),
 w (st 28 4 71),
 o 5 (an 2300)])
(.ret [4, 5]))
.skip))
(S (R [o 72 (ld 28 6),
 w (st 28 4 72),
 o 5 (an 0)])
(.ret [4, 5])))))))
def g27 : IFn := ⟨73, [.cell 4 28, .tmp 5], [28, 3], c27, [], false, none⟩
/- 28 veil/veillaw22.stepped -/
def c28_1 : IR := (S (S (R [o 8 (mv 6),
 o 9 (mv 1),
 o 10 (bo .lss (t 8) (t 9))])
(.cond (t 10)
.skip
(.exit 0 [4, 5])))
(S (.block 1 (R [o 14 (ld 28 5),
 o 15 (mv 0),
 o 16 (cl 27 #[(t 14), (t 15)] #[28, 3]),
 o 13 (mv 16),
 o 17 (xt 13 0),
 o 18 (xt 13 1),
 w (st 28 5 17)]))
(R [o 11 (mv 6),
 o 12 (bo .add (t 11) (n 1)),
 o 6 (av 12)])))
def c28 : IR := (S (R [o 4 (al 28)])
(S (R [o 7 (cl 26 #[] #[]),
 o 5 (al 28),
 w (st 28 5 7)])
(S (S (R [o 6 (an 0)])
(.block 0 (.loop [0, 1, 4, 5, 6] c28_1)))
(S (R [o 19 (ld 28 5),
 w (st 28 4 19)])
(.ret [4])))))
def g28 : IFn := ⟨20, [.cell 4 28], [28], c28, [], false, none⟩
/- 29 veil/fetch.Step -/
def d29_1 : IR := D [o 34 (mv 9),
 o 35 (nc 34),
 o 36 (fa 44 35 3),
 o 37 (ld 40 36),
 o 38 (mv 9),
 o 39 (nc 38),
 o 40 (fa 44 39 5),
 o 41 (ld 3 40),
 o 42 (ia 40 37 41),
 o 43 (ld 57 42),
 o 10 (al 57),
 w (st 57 10 43)] [[], [0], [1], [2], [], [4], [5], [6], [3, 7], [8], [], [10, 9, 0, 1, 2, 3, 4, 5, 6, 7, 8, 9, 10]]
def d29_2 : IR := D [o 45 (mv 9),
 o 46 (nc 45),
 o 47 (fa 44 46 8),
 o 48 (ld 42 47),
 o 49 (fa 57 10 2),
 o 50 (ld 3 49),
 o 51 (fa 57 10 3),
 o 52 (ld 3 51),
 o 53 (cl 63 #[(t 48), (t 50), (t 52)] #[42, 3, 3]),
 o 44 (mv 53),
 o 54 (xt 44 0),
 o 55 (xt 44 1),
 o 11 (av 54),
 o 12 (av 55)] [[], [0], [1], [2], [], [4], [], [6], [3, 5, 7], [8], [9], [9], [10, 8, 0, 1, 2, 3, 4, 5, 6, 7, 8, 9, 10], [11, 12, 0, 1, 2, 3, 4, 5, 6, 7, 8, 9, 10, 11, 12]]
def d29_3 : IR := D [o 58 (fa 57 10 2),
 o 59 (ld 3 58),
 o 60 (fa 28 8 0),
 o 61 (ia 23 60 59),
 o 62 (ld 22 61),
 o 63 (fa 57 10 3),
 o 64 (ld 3 63),
 o 65 (ia 22 62 64),
 o 66 (ld 54 65),
 o 13 (al 54),
 w (st 54 13 66)] [[], [0], [], [2, 1], [3], [], [5], [4, 6], [7], [], [9, 8, 0, 1, 2, 3, 4, 5, 6, 7, 8, 9]]
def d29_4 : IR := D [o 68 (fa 28 8 0),
 o 69 (ld 23 68),
 o 70 (mv 9),
 o 71 (nc 70),
 o 72 (fa 44 71 7),
 o 73 (ld 41 72),
 o 74 (mv 9),
 o 75 (nc 74),
 o 76 (fa 44 75 0),
 o 77 (ld 3 76),
 o 78 (cl 64 #[(t 69), (t 73), (t 77)] #[23, 41, 3]),
 o 67 (mv 78),
 o 79 (xt 67 0),
 o 80 (xt 67 1),
 o 14 (av 79),
 o 15 (av 80)] [[], [0], [], [2], [3], [4], [], [6], [7], [8], [1, 5, 9], [10], [11], [11], [12, 10, 0, 1, 2, 3, 4, 5, 6, 7, 8, 9, 10, 11, 12], [13, 14, 0, 1, 2, 3, 4, 5, 6, 7, 8, 9, 10, 11, 12, 13, 14]]
def d29_5 : IR := D [o 96 (mv 9),
 o 97 (mv 9),
 o 98 (nc 97),
 o 99 (fa 44 98 7),
 o 100 (ld 41 99),
 o 101 (fa 57 10 2),
 o 102 (ld 3 101),
 o 103 (fa 57 10 3),
 o 104 (ld 3 103),
 o 105 (fa 54 13 1),
 o 106 (ld 3 105),
 o 107 (.build 59 #[(0, (.tmp 102)), (1, (.tmp 104)), (2, (.tmp 106))]),
 o 108 (cl 65 #[(t 100), (t 107)] #[41, 59]),
 o 95 (mv 108),
 o 109 (xt 95 0),
 o 110 (xt 95 1),
 o 111 (nc 96),
 o 112 (fa 44 111 7),
 w (st 41 112 109)] [[], [], [1], [2], [3], [], [5], [], [7], [], [9], [6, 8, 10], [4, 11], [12], [13], [13], [0, 0, 1, 2, 3, 4, 5, 6, 7, 8, 9, 10, 11, 12, 13, 14], [16, 0, 1, 2, 3, 4, 5, 6, 7, 8, 9, 10, 11, 12, 13, 14], [17, 14, 12, 0, 1, 2, 3, 4, 5, 6, 7, 8, 9, 10, 11, 12, 13, 14]]
def d29_6 : IR := D [o 113 (mv 9),
 o 114 (fa 57 10 1),
 o 115 (ld 3 114),
 o 116 (mv 11),
 o 117 (nc 113),
 o 118 (fa 44 117 6),
 o 119 (ia 24 118 115),
 w (st 3 119 116)] [[], [], [1], [], [0], [4], [5, 2, 0, 1, 2, 3], [6, 3, 0, 1, 2, 3]]
def c29 : IR := (S (R [z 2 (bx 28 0),
 o 4 (al 28),
 o 5 (an 0)])
(S (S (R [o 17 (ld 28 2),
 o 18 (mv 1),
 o 19 (cl 62 #[(t 17), (t 18)] #[28, 3]),
 o 16 (mv 19),
 o 20 (xt 16 0),
 o 21 (xt 16 1),
 o 6 (av 20),
 o 7 (av 21)])
(S (R [o 22 (mv 7),
 o 23 (.binOp .neq 30 (.tmp 22) (.const (.int .i64 0)) 30),
 o 24 (mv 23),
 oF 25 (mv 6) 24,
 o 26 (.pick (.tmp 24) (.const (.bool true)) (.tmp 25))])
(.cond (t 26)
(S (R [o 27 (.build 28 #[]),
 w (st 28 4 27),
 o 5 (an 1500)])
(.ret [4, 5]))
.skip)))
(S (R [o 28 (ld 28 2),
 o 29 (cl 38 #[(t 28)] #[28]),
 o 8 (al 28),
 w (st 28 8 29)])
(S (R [o 30 (fa 28 8 3),
 o 31 (ld 25 30),
 o 32 (mv 1),
 z 33 (ia 25 31 32),
 o 9 (av 33)])
(S d29_1
(S d29_2
(S (S (R [o 56 (mv 12),
 o 57 (.unOp .not 4 (.tmp 56))])
(.cond (t 57)
(S d29_3
(S (S d29_4
(S (R [o 81 (mv 14),
 o 82 (.unOp .not 4 (.tmp 81)),
 o 83 (mv 82),
 oF 84 (fa 54 13 2) 83,
 oF 85 (ld 3 84) 83,
 oF 86 (bo .neq (t 85) (n 0)) 83,
 o 87 (.pick (.tmp 83) (.const (.bool true)) (.tmp 86))])
(.cond (t 87)
(S (R [o 88 (ld 28 2),
 o 89 (mv 1),
 o 90 (cl 42 #[(t 88), (t 89), (n 3)] #[28, 3, 3]),
 o 91 (xt 90 0),
 o 92 (xt 90 1),
 w (st 28 4 91),
 o 5 (av 92)])
(.ret [4, 5]))
.skip)))
(S (R [o 93 (fa 54 13 0),
 o 94 (ld 3 93),
 o 11 (av 94)])
d29_5)))
.skip))
(S d29_6
(S (R [o 120 (mv 9),
 o 121 (nc 120),
 o 122 (fa 44 121 5),
 o 123 (ld 3 122),
 o 124 (bo .add (t 123) (n 1)),
 o 125 (nc 120),
 o 126 (fa 44 125 5),
 w (st 3 126 124)])
(S (R [o 127 (mv 1),
 o 128 (mv 11),
 o 129 (cl 39 #[(t 8), (t 127), (n 0), (t 128)] #[73, 3, 3, 3])])
(S (R [o 130 (ld 28 8),
 w (st 28 4 130),
 o 5 (an 0)])
(.ret [4, 5]))))))))))))
def g29 : IFn := ⟨131, [.cell 4 28, .tmp 5], [28, 30], c29, [], false, none⟩
/- 30 veil/veilref11.Fetch -/
def d30_1 : IR := D [o 55 (fa 57 9 2),
 o 56 (ld 3 55),
 o 57 (fa 28 2 0),
 o 58 (ia 23 57 56),
 o 59 (ld 22 58),
 o 60 (fa 57 9 3),
 o 61 (ld 3 60),
 o 62 (ia 22 59 61),
 o 63 (ld 54 62),
 o 13 (al 54),
 w (st 54 13 63)] [[], [0], [], [2, 1], [3], [], [5], [4, 6], [7], [], [9, 8, 0, 1, 2, 3, 4, 5, 6, 7, 8, 9]]
def d30_2 : IR := D [o 110 (fa 28 12 3),
 o 111 (ld 25 110),
 o 112 (mv 1),
 o 113 (fa 57 9 1),
 o 114 (ld 3 113),
 o 115 (mv 10),
 o 116 (ia 25 111 112),
 o 117 (fa 44 116 6),
 o 118 (ia 24 117 114),
 w (st 3 118 115)] [[], [0], [], [], [3], [], [1, 2], [6], [7, 4, 0, 1, 2, 3, 4, 5], [8, 5, 0, 1, 2, 3, 4, 5]]
def c30 : IR := (S (R [z 2 (bx 28 0),
 o 4 (al 28),
 o 5 (an 0)])
(S (R [o 19 (ld 28 2),
 o 20 (mv 1),
 o 21 (cl 66 #[(t 19), (t 20)] #[28, 3]),
 o 18 (mv 21),
 o 22 (xt 18 0),
 o 23 (xt 18 1),
 o 6 (av 22),
 o 7 (av 23)])
(S (S (R [o 24 (mv 7),
 o 25 (bo .neq (t 24) (n 0)),
 o 26 (mv 25),
 oF 27 (mv 6) 26,
 o 28 (.pick (.tmp 26) (.const (.bool true)) (.tmp 27))])
(.cond (t 28)
(S (R [o 29 (.build 28 #[]),
 w (st 28 4 29),
 o 5 (an 1500)])
(.ret [4, 5]))
.skip))
(S (R [o 30 (fa 28 2 3),
 o 31 (ld 25 30),
 o 32 (mv 1),
 o 33 (ia 25 31 32),
 o 34 (ld 44 33),
 o 8 (al 44),
 w (st 44 8 34)])
(S (R [o 35 (fa 44 8 3),
 o 36 (ld 40 35),
 o 37 (fa 44 8 5),
 o 38 (ld 3 37),
 o 39 (ia 40 36 38),
 o 40 (ld 57 39),
 o 9 (al 57),
 w (st 57 9 40)])
(S (R [o 42 (fa 44 8 8),
 o 43 (ld 42 42),
 o 44 (fa 57 9 2),
 o 45 (ld 3 44),
 o 46 (fa 57 9 3),
 o 47 (ld 3 46),
 o 48 (cl 67 #[(t 43), (t 45), (t 47)] #[42, 3, 3]),
 o 41 (mv 48),
 o 49 (xt 41 0),
 o 50 (xt 41 1),
 o 10 (av 49),
 o 11 (av 50)])
(S (R [o 51 (ld 28 2),
 o 52 (cl 45 #[(t 51)] #[28]),
 o 12 (al 28),
 w (st 28 12 52)])
(S (S (R [o 53 (mv 11),
 o 54 (.unOp .not 4 (.tmp 53))])
(.cond (t 54)
(S d30_1
(S (R [o 65 (fa 28 2 0),
 o 66 (ld 23 65),
 o 67 (fa 44 8 7),
 o 68 (ld 41 67),
 o 69 (fa 44 8 0),
 o 70 (ld 3 69),
 o 71 (cl 32 #[(t 66), (t 68), (t 70)] #[23, 41, 3]),
 o 64 (mv 71),
 o 72 (xt 64 0),
 o 73 (xt 64 1),
 o 14 (av 72),
 o 15 (av 73)])
(S (S (R [o 74 (fa 54 13 2),
 o 75 (ld 3 74),
 o 76 (bo .neq (t 75) (n 0)),
 o 77 (mv 76),
 oF 78 (mv 14) 77,
 oF 79 (.unOp .not 4 (.tmp 78)) 77,
 o 80 (.pick (.tmp 77) (.const (.bool true)) (.tmp 79))])
(.cond (t 80)
(S (R [o 81 (ld 28 2),
 o 82 (mv 1),
 o 83 (cl 47 #[(t 81), (t 82), (n 3)] #[28, 3, 3]),
 o 84 (xt 83 0),
 o 85 (xt 83 1),
 w (st 28 4 84),
 o 5 (av 85)])
(.ret [4, 5]))
.skip))
(S (R [o 87 (fa 44 8 7),
 o 88 (ld 41 87),
 o 89 (fa 57 9 2),
 o 90 (ld 3 89),
 o 91 (fa 57 9 3),
 o 92 (ld 3 91),
 o 93 (fa 54 13 1),
 o 94 (ld 3 93),
 o 95 (.build 59 #[(0, (.tmp 90)), (1, (.tmp 92)), (2, (.tmp 94))]),
 o 96 (cl 68 #[(t 88), (t 95)] #[41, 59]),
 o 86 (mv 96),
 o 97 (xt 86 0),
 o 98 (xt 86 1),
 o 16 (av 97),
 o 17 (av 98)])
(S (S (R [o 99 (mv 17),
 o 100 (bo .neq (t 99) (n 0))])
(.cond (t 100)
(S (R [o 101 (.build 28 #[]),
 w (st 28 4 101),
 o 5 (an 1500)])
(.ret [4, 5]))
.skip))
(S (R [o 102 (fa 28 12 3),
 o 103 (ld 25 102),
 o 104 (mv 1),
 o 105 (mv 16),
 o 106 (ia 25 103 104),
 o 107 (fa 44 106 7),
 w (st 41 107 105)])
(R [o 108 (fa 54 13 0),
 o 109 (ld 3 108),
 o 10 (av 109)])))))))
.skip))
(S d30_2
(S (R [o 119 (fa 28 12 3),
 o 120 (ld 25 119),
 o 121 (mv 1),
 o 122 (ia 25 120 121),
 o 123 (fa 44 122 5),
 o 124 (ld 3 123),
 o 125 (bo .add (t 124) (n 1)),
 o 126 (ia 25 120 121),
 o 127 (fa 44 126 5),
 w (st 3 127 125)])
(S (R [o 128 (ld 28 12),
 o 129 (mv 1),
 o 130 (mv 10),
 o 131 (cl 46 #[(t 128), (t 129), (n 0), (t 130)] #[28, 3, 3, 3]),
 w (st 28 4 131),
 o 5 (an 0)])
(.ret [4, 5]))))))))))))
def g30 : IFn := ⟨132, [.cell 4 28, .tmp 5], [28, 3], c30, [], false, none⟩
/- 31 veil/veillaw15.awake -/
def c31 : IR := (S (R [z 0 (ab false)])
(S (R [z 9 (cl 33 #[] #[]),
 z 10 (cl 29 #[(t 9), (n 0)] #[28, 3]),
 z 8 (mv 10),
 z 11 (xt 8 0),
 z 12 (xt 8 1),
 z 1 (al 28),
 ⟨none, st 28 1 11, none, true⟩,
 z 2 (av 12)])
(S (R [o 13 (cl 33 #[] #[]),
 z 3 (al 28),
 ⟨none, st 28 3 13, none, true⟩])
(S (R [z 14 (fa 28 3 0),
 o 15 (.indexAddr 23 (.tmp 14) (.const (.int .i64 0))),
 z 16 (ld 22 15),
 o 17 (.indexAddr 22 (.tmp 16) (.const (.int .i64 0))),
 z 18 (fa 54 17 2),
 ⟨none, .store 3 (.tmp 18) (.const (.int .i64 6)), none, true⟩])
(S (R [z 20 (ld 28 3),
 z 21 (cl 29 #[(t 20), (n 0)] #[28, 3]),
 z 19 (mv 21),
 z 22 (xt 19 0),
 z 23 (xt 19 1),
 z 4 (al 28),
 ⟨none, st 28 4 22, none, true⟩,
 z 5 (av 23)])
(S (R [z 25 (cl 69 #[(n 0), (n 1)] #[3, 3]),
 z 26 (cl 29 #[(t 25), (n 0)] #[28, 3]),
 z 24 (mv 26),
 z 27 (xt 24 0),
 z 28 (xt 24 1),
 z 6 (al 28),
 ⟨none, st 28 6 27, none, true⟩,
 z 7 (av 28)])
(S (S (R [z 29 (fa 28 1 3),
 z 30 (ld 25 29),
 z 31 (len 30 25),
 z 32 (bo .neq (t 31) (n 2)),
 z 33 (mv 32),
 zF 34 (fa 28 4 3) 33,
 zF 35 (ld 25 34) 33,
 zF 36 (len 35 25) 33,
 zF 37 (bo .neq (t 36) (n 2)) 33,
 z 38 (.pick (.tmp 33) (.const (.bool true)) (.tmp 37))])
(.cond (t 38)
(S (R [z 0 (ab false)])
(.ret [0]))
.skip))
(S (R [z 39 (fa 28 1 3),
 z 40 (ld 25 39),
 o 41 (.indexAddr 25 (.tmp 40) (.const (.int .i64 0))),
 z 42 (fa 44 41 6),
 o 43 (.indexAddr 24 (.tmp 42) (.const (.int .i64 0))),
 z 44 (ld 3 43),
 z 45 (bo .eql (t 44) (n 5)),
 z 46 (mv 45),
 zT 47 (fa 28 1 3) 46,
 zT 48 (ld 25 47) 46,
 oT 49 (.indexAddr 25 (.tmp 48) (.const (.int .i64 0))) 46,
 zT 50 (fa 44 49 5) 46,
 zT 51 (ld 3 50) 46,
 zT 52 (bo .eql (t 51) (n 1)) 46,
 z 53 (.pick (.tmp 46) (.tmp 52) (.const (.bool false))),
 z 54 (mv 53),
 zT 55 (fa 28 1 3) 54,
 zT 56 (ld 25 55) 54,
 oT 57 (.indexAddr 25 (.tmp 56) (.const (.int .i64 0))) 54,
 zT 58 (fa 44 57 7) 54,
 zT 59 (ld 41 58) 54,
 zT 60 (len 59 41) 54,
 zT 61 (bo .eql (t 60) (n 1)) 54,
 z 62 (.pick (.tmp 54) (.tmp 61) (.const (.bool false))),
 z 63 (mv 62),
 zT 64 (mv 2) 63,
 zT 65 (cl 19 #[(t 64)] #[30]) 63,
 zT 66 (bo .eql (t 65) (n 0)) 63,
 z 67 (.pick (.tmp 63) (.tmp 66) (.const (.bool false))),
 z 68 (mv 67),
 zT 69 (fa 28 4 3) 68,
 zT 70 (ld 25 69) 68,
 oT 71 (.indexAddr 25 (.tmp 70) (.const (.int .i64 0))) 68,
 zT 72 (fa 44 71 11) 68,
 zT 73 (ld 3 72) 68,
 zT 74 (bo .eql (t 73) (n 1)) 68,
 z 75 (.pick (.tmp 68) (.tmp 74) (.const (.bool false))),
 z 76 (mv 75),
 zT 77 (fa 28 4 3) 76,
 zT 78 (ld 25 77) 76,
 oT 79 (.indexAddr 25 (.tmp 78) (.const (.int .i64 0))) 76,
 zT 80 (fa 44 79 7) 76,
 zT 81 (ld 41 80) 76,
 zT 82 (len 81 41) 76,
 zT 83 (bo .eql (t 82) (n 0)) 76,
 z 84 (.pick (.tmp 76) (.tmp 83) (.const (.bool false))),
 z 85 (mv 84),
 zT 86 (mv 5) 85,
 zT 87 (cl 19 #[(t 86)] #[30]) 85,
 zT 88 (bo .eql (t 87) (n 0)) 85,
 z 89 (.pick (.tmp 85) (.tmp 88) (.const (.bool false))),
 z 90 (mv 89),
 zT 91 (mv 7) 90,
 zT 92 (cl 19 #[(t 91)] #[30]) 90,
 zT 93 (bo .eql (t 92) (n 1500)) 90,
 z 94 (.pick (.tmp 90) (.tmp 93) (.const (.bool false))),
 z 0 (av 94)])
(.ret [0])))))))))
def g31 : IFn := ⟨95, [.tmp 0], [4], c31, [], false, none⟩
/- 32 veil/veilref1.Good -/
def d32_1 : IR := D [o 35 (mv 1),
 o 36 (mv 8),
 o 37 (ia 41 35 36),
 o 38 (fa 59 37 0),
 o 39 (ld 3 38),
 o 40 (ia 23 3 39),
 o 41 (ld 22 40),
 o 42 (mv 1),
 o 43 (mv 8),
 o 44 (ia 41 42 43),
 o 45 (fa 59 44 1),
 o 46 (ld 3 45),
 o 47 (ia 22 41 46),
 o 48 (ld 54 47),
 o 9 (al 54),
 w (st 54 9 48)] [[], [], [0, 1], [2], [3], [4], [5], [], [], [7, 8], [9], [10], [6, 11], [12], [], [14, 13, 0, 1, 2, 3, 4, 5, 6, 7, 8, 9, 10, 11, 12, 13, 14]]
def d32_2 : IR := D [o 49 (fa 54 9 1),
 o 50 (ld 3 49),
 o 51 (mv 1),
 o 52 (mv 8),
 o 53 (ia 41 51 52),
 o 54 (fa 59 53 2),
 o 55 (ld 3 54),
 o 56 (bo .neq (t 50) (t 55)),
 o 57 (mv 56),
 oF 58 (fa 54 9 2) 57,
 oF 59 (ld 3 58) 57,
 oF 60 (bo .neq (t 59) (n 0)) 57,
 oF 61 (mv 60) 57,
 oT 62 (fa 54 9 2) 61,
 oT 63 (ld 3 62) 61,
 oT 64 (mv 2) 61,
 oT 65 (bo .add (t 64) (n 1)) 61,
 oT 66 (bo .neq (t 63) (t 65)) 61,
 oF 67 (.pick (.tmp 61) (.tmp 66) (.const (.bool false))) 57,
 o 68 (.pick (.tmp 57) (.const (.bool true)) (.tmp 67))] [[], [0], [], [], [2, 3], [4], [5], [1, 6], [7], [8], [9, 8], [10, 8], [11, 8, 8], [12], [13, 12], [12], [15, 12], [14, 16, 12], [12, 17, 8], [8, 18]]
def c32_1 : IR := (S (S (R [o 29 (mv 8),
 o 30 (mv 1),
 o 31 (len 30 41),
 o 32 (bo .lss (t 29) (t 31))])
(.cond (t 32)
.skip
(.exit 0 [])))
(S (.block 1 (S d32_1
(S d32_2
(.cond (t 68)
(S (R [o 6 (ab false),
 o 7 (an 0)])
(.ret [6, 7]))
.skip))))
(R [o 33 (mv 8),
 o 34 (bo .add (t 33) (n 1)),
 o 8 (av 34)])))
def c32 : IR := (S (R [z 3 (bx 23 0),
 o 6 (ab false),
 o 7 (an 0)])
(S (S (R [o 10 (ld 23 3),
 o 11 (cl 53 #[(t 10)] #[23]),
 o 12 (.unOp .not 4 (.tmp 11)),
 o 13 (mv 12),
 oF 14 (mv 1) 13,
 oF 15 (cl 54 #[(t 14)] #[41]) 13,
 oF 16 (.unOp .not 4 (.tmp 15)) 13,
 o 17 (.pick (.tmp 13) (.const (.bool true)) (.tmp 16)),
 o 18 (mv 17),
 oF 19 (mv 2) 18,
 oF 20 (cl 70 #[(t 19)] #[3]) 18,
 oF 21 (.unOp .not 4 (.tmp 20)) 18,
 o 22 (.pick (.tmp 18) (.const (.bool true)) (.tmp 21)),
 o 23 (mv 22),
 oF 24 (ld 23 3) 23,
 oF 25 (mv 1) 23,
 oF 26 (cl 55 #[(t 24), (t 25)] #[23, 41]) 23,
 oF 27 (.unOp .not 4 (.tmp 26)) 23,
 o 28 (.pick (.tmp 23) (.const (.bool true)) (.tmp 27))])
(.cond (t 28)
(S (R [o 6 (ab false),
 o 7 (an 900)])
(.ret [6, 7]))
.skip))
(S (S (R [o 8 (an 0)])
(.block 0 (.loop [1, 2, 3, 8] c32_1)))
(S (R [o 6 (ab true),
 o 7 (an 0)])
(.ret [6, 7])))))
def g32 : IFn := ⟨69, [.tmp 6, .tmp 7], [4, 3], c32, [], false, none⟩
/- 33 veil/veillaw15.begun -/
def c33 : IR := (S (R [o 0 (al 28)])
(S (R [o 4 (.buildSlice 51 2 #[(0, (.const (.int .i64 5))), (1, (.const (.int .i64 6)))]),
 o 5 (.buildSlice 51 1 #[(0, (.const (.int .i64 7)))]),
 o 6 (.buildSlice 51 1 #[(0, (.const (.int .i64 9)))]),
 o 7 (.build 92 #[(0, (.tmp 4)), (1, (.tmp 5)), (2, (.const (.slice none 0 0))), (3, (.tmp 6))]),
 o 8 (.build 57 #[(0, (.const (.int .i64 2)))]),
 o 9 (.build 57 #[(0, (.const (.int .i64 1)))]),
 o 10 (.build 57 #[(0, (.const (.int .i64 3)))]),
 o 11 (.buildSlice 40 3 #[(0, (.tmp 8)), (1, (.tmp 9)), (2, (.tmp 10))]),
 o 12 (.build 94 #[(0, (.const (.int .i64 3))), (2, (.const (.int .i64 3))), (3, (.tmp 11))]),
 o 13 (.build 57 #[(0, (.const (.int .i64 2))), (3, (.const (.int .i64 1)))]),
 o 14 (.build 57 #[(0, (.const (.int .i64 3))), (2, (.const (.int .i64 1)))]),
 o 15 (.buildSlice 40 2 #[(0, (.tmp 13)), (1, (.tmp 14))]),
 o 16 (.build 94 #[(0, (.const (.int .i64 5))), (1, (.const (.int .i64 1))), (2, (.const (.int .i64 1))), (3, (.tmp 15))]),
 o 17 (.buildSlice 95 2 #[(0, (.tmp 12)), (1, (.tmp 16))]),
 o 18 (.build 98 #[(0, (.tmp 7)), (1, (.const (.int .i64 9))), (2, (.tmp 17))]),
 o 19 (cl 56 #[(t 18)] #[98]),
 o 3 (mv 19),
 o 20 (xt 3 0),
 o 21 (xt 3 1),
 o 1 (al 28),
 w (st 28 1 20),
 o 2 (av 21)])
(S (R [o 22 (ld 28 1),
 w (st 28 0 22)])
(.ret [0]))))
def g33 : IFn := ⟨23, [.cell 0 28], [28], c33, [], false, none⟩
/- 34 veil/veillaw0.SameEvents -/
def d34_1 : IR := D [o 17 (mv 0),
 o 18 (mv 5),
 o 19 (ia 26 17 18),
 o 20 (ld 68 19),
 o 21 (mv 1),
 o 22 (mv 5),
 o 23 (ia 26 21 22),
 o 24 (ld 68 23),
 o 25 (.binOp .neq 68 (.tmp 20) (.tmp 24) 68)] [[], [], [0, 1], [2], [], [], [4, 5], [6], [3, 7]]
def c34_1 : IR := (S (S (R [o 11 (mv 5),
 o 12 (mv 0),
 o 13 (len 12 26),
 o 14 (bo .lss (t 11) (t 13))])
(.cond (t 14)
.skip
(.exit 0 [])))
(S (.block 1 (S d34_1
(.cond (t 25)
(S (R [o 4 (ab false)])
(.ret [4]))
.skip)))
(R [o 15 (mv 5),
 o 16 (bo .add (t 15) (n 1)),
 o 5 (av 16)])))
def c34 : IR := (S (R [o 4 (ab false)])
(S (S (R [o 6 (mv 0),
 o 7 (len 6 26),
 o 8 (mv 1),
 o 9 (len 8 26),
 o 10 (bo .neq (t 7) (t 9))])
(.cond (t 10)
(S (R [o 4 (ab false)])
(.ret [4]))
.skip))
(S (S (R [o 5 (an 0)])
(.block 0 (.loop [0, 1, 5] c34_1)))
(S (R [o 4 (ab true)])
(.ret [4])))))
def g34 : IFn := ⟨26, [.tmp 4], [4], c34, [], false, none⟩
/- 35 veil/veillaw0.CopyArena -/
def c35_1 : IR := (S (S (R [o 5 (mv 4),
 o 6 (bo .lss (t 5) (n 4))])
(.cond (t 6)
.skip
(.exit 0 [2, 3])))
(S (.block 1 (R [o 9 (mv 4),
 o 10 (.buildSlice 22 0 #[]),
 o 11 (mv 4),
 o 12 (ia 23 1 11),
 o 13 (ld 22 12),
 o 14 (.call { callee := (.builtin .append), args := #[(.tmp 10), (.tmp 13)], argTypes := #[22, 22] }),
 o 15 (ia 23 3 9),
 w (st 22 15 14)]))
(R [o 7 (mv 4),
 o 8 (bo .add (t 7) (n 1)),
 o 4 (av 8)])))
def c35 : IR := (S (R [z 1 (bx 23 0),
 o 2 (al 23)])
(S (R [o 3 (al 23)])
(S (S (R [o 4 (an 0)])
(.block 0 (.loop [1, 2, 3, 4] c35_1)))
(S (R [o 16 (ld 23 3),
 w (st 23 2 16)])
(.ret [2])))))
def g35 : IFn := ⟨17, [.cell 2 23], [23], c35, [], false, none⟩
/- 36 veil/veillaw0.CopySession -/
def c36 : IR := (S (R [o 1 (bx 44 0),
 o 2 (al 44)])
(S (R [o 3 (.buildSlice 40 0 #[]),
 o 4 (fa 44 1 3),
 o 5 (ld 40 4),
 o 6 (.call { callee := (.builtin .append), args := #[(.tmp 3), (.tmp 5)], argTypes := #[40, 40] }),
 o 7 (fa 44 1 3),
 w (st 40 7 6)])
(S (R [o 8 (.buildSlice 41 0 #[]),
 o 9 (fa 44 1 7),
 o 10 (ld 41 9),
 o 11 (.call { callee := (.builtin .append), args := #[(.tmp 8), (.tmp 10)], argTypes := #[41, 41] }),
 o 12 (fa 44 1 7),
 w (st 41 12 11)])
(S (R [o 13 (.buildSlice 42 0 #[]),
 o 14 (fa 44 1 8),
 o 15 (ld 42 14),
 o 16 (.call { callee := (.builtin .append), args := #[(.tmp 13), (.tmp 15)], argTypes := #[42, 42] }),
 o 17 (fa 44 1 8),
 w (st 42 17 16)])
(S (R [o 18 (ld 44 1),
 w (st 44 2 18)])
(.ret [2]))))))
def g36 : IFn := ⟨19, [.cell 2 44], [44], c36, [], false, none⟩
/- 37 veil/mach.At -/
def d37_1 : IR := D [o 18 (mv 7),
 o 19 (nc 18),
 o 20 (fa 44 19 4),
 o 21 (ld 3 20),
 o 22 (bo .eql (t 21) (n 0)),
 o 23 (mv 22),
 oT 24 (mv 7) 23,
 oT 25 (nc 24) 23,
 oT 26 (fa 44 25 5) 23,
 oT 27 (ld 3 26) 23,
 oT 28 (mv 7) 23,
 oT 29 (nc 28) 23,
 oT 30 (fa 44 29 3) 23,
 oT 31 (ld 40 30) 23,
 oT 32 (len 31 40) 23,
 oT 33 (bo .lss (t 27) (t 32)) 23,
 o 34 (.pick (.tmp 23) (.tmp 33) (.const (.bool false))),
 o 35 (mv 34),
 oT 36 (mv 2) 35,
 oT 37 (mv 7) 35,
 oT 38 (nc 37) 35,
 oT 39 (fa 44 38 3) 35,
 oT 40 (ld 40 39) 35,
 oT 41 (mv 7) 35,
 oT 42 (nc 41) 35,
 oT 43 (fa 44 42 5) 35,
 oT 44 (ld 3 43) 35,
 oT 45 (ia 40 40 44) 35,
 oT 46 (fa 57 45 0) 35,
 oT 47 (ld 3 46) 35,
 oT 48 (cl 72 #[(t 36), (t 47)] #[51, 3]) 35,
 o 49 (.pick (.tmp 35) (.tmp 48) (.const (.bool false))),
 o 6 (av 49)] [[], [0], [1], [2], [3], [4], [5], [6, 5], [7, 5], [8, 5], [5], [10, 5], [11, 5], [12, 5], [13, 5], [9, 14, 5], [5, 15], [16, 5], [17], [17], [19, 17], [20, 17], [21, 17], [17], [23, 17], [24, 17], [25, 17], [22, 26, 17], [27, 17], [28, 17], [18, 29, 17, 17], [17, 30], [31, 30, 0, 1, 2, 3, 4, 5, 6, 7, 8, 9, 10, 11, 12, 13, 14, 15, 16, 17, 18, 19, 20, 21, 22, 23, 24, 25, 26, 27, 28, 29, 30, 31]]
def c37 : IR := (S (R [o 6 (ab false)])
(S (S (R [o 8 (mv 0),
 o 9 (mv 1),
 o 10 (cl 71 #[(t 8), (t 9)] #[73, 3]),
 o 11 (.unOp .not 4 (.tmp 10))])
(.cond (t 11)
(S (R [o 6 (ab false)])
(.ret [6]))
.skip))
(S (R [o 12 (mv 0),
 o 13 (nc 12),
 o 14 (fa 28 13 3),
 o 15 (ld 25 14),
 o 16 (mv 1),
 o 17 (ia 25 15 16),
 o 7 (av 17)])
(S d37_1
(.ret [6])))))
def g37 : IFn := ⟨50, [.tmp 6], [4], c37, [], false, none⟩
/- 38 veil/mach.Copy -/
def d38_1 : IR := D [o 5 (fa 28 1 0),
 o 6 (ld 23 5),
 o 7 (cl 73 #[(t 6)] #[23]),
 o 8 (fa 28 1 3),
 o 9 (ld 25 8),
 o 10 (cl 74 #[(t 9)] #[25]),
 o 11 (fa 28 1 4),
 o 12 (ld 26 11),
 o 13 (cl 75 #[(t 12)] #[26]),
 o 14 (fa 28 1 0),
 w (st 23 14 7),
 o 15 (fa 28 1 3),
 w (st 25 15 10),
 o 16 (fa 28 1 4),
 w (st 26 16 13)] [[], [0], [1], [], [3], [4, 2], [], [6], [7, 5], [0, 1, 2, 3, 4, 6, 7], [9, 2, 8, 0, 1, 2, 3, 4, 6, 7], [0, 1, 2, 3, 4, 5, 6, 7, 9, 10], [11, 5, 10, 0, 1, 2, 3, 4, 5, 6, 7, 9, 10], [0, 1, 2, 3, 4, 5, 6, 7, 8, 9, 10, 11, 12], [13, 8, 12, 0, 1, 2, 3, 4, 5, 6, 7, 8, 9, 10, 11, 12]]
def d38_2 : IR := D [o 25 (fa 28 1 3),
 o 26 (ld 25 25),
 o 27 (mv 3),
 o 28 (ld 44 4),
 o 29 (cl 76 #[(t 28)] #[44]),
 o 30 (ia 25 26 27),
 w (st 44 30 29)] [[], [0], [], [], [3], [1, 2, 0, 1, 2, 3, 4], [5, 4, 4, 0, 1, 2, 3, 4]]
def c38_1 : IR := (S (R [o 21 (bo .lss (t 20) (t 19))])
(S (.cond (t 21)
.skip
(.exit 0 [1, 2]))
(S (.block 1 (S (R [o 22 (mv 20),
 o 23 (ia 25 18 20),
 o 24 (ld 44 23),
 o 4 (al 44),
 o 3 (av 22),
 w (st 44 4 24)])
d38_2))
(R [o 31 (bo .add (t 20) (n 1)),
 o 20 (mv 31)]))))
def c38 : IR := (S (R [o 1 (bx 28 0),
 o 2 (al 28)])
(S d38_1
(S (S (R [o 17 (fa 28 1 3),
 o 18 (ld 25 17),
 o 19 (len 18 25),
 o 20 (.move (.const (.int .i64 0)))])
(.block 0 (.loop [1, 2, 18, 19, 20] c38_1)))
(S (R [o 32 (ld 28 1),
 w (st 28 2 32)])
(.ret [2])))))
def g38 : IFn := ⟨33, [.cell 2 28], [28], c38, [], false, none⟩
/- 39 veil/mach.Note -/
def d39_1 : IR := D [o 21 (mv 0),
 o 22 (mv 0),
 o 23 (nc 22),
 o 24 (fa 28 23 4),
 o 25 (ld 26 24),
 o 26 (mv 8),
 o 27 (nc 26),
 o 28 (fa 44 27 0),
 o 29 (ld 3 28),
 o 30 (mv 8),
 o 31 (nc 30),
 o 32 (fa 44 31 1),
 o 33 (ld 3 32),
 o 34 (mv 2),
 o 35 (mv 3),
 o 36 (.build 68 #[(0, (.tmp 29)), (1, (.tmp 33)), (2, (.tmp 34)), (3, (.tmp 35))]),
 o 37 (.buildSlice 26 1 #[(0, (.tmp 36))]),
 o 38 (.call { callee := (.builtin .append), args := #[(.tmp 25), (.tmp 37)], argTypes := #[26, 26] }),
 o 39 (nc 21),
 o 40 (fa 28 39 4),
 w (st 26 40 38)] [[], [], [1], [2], [3], [], [5], [6], [7], [], [9], [10], [11], [], [], [8, 12, 13, 14], [15], [4, 16], [0, 0, 1, 2, 3, 4, 5, 6, 7, 8, 9, 10, 11, 12, 13, 14, 15, 16, 17], [18, 0, 1, 2, 3, 4, 5, 6, 7, 8, 9, 10, 11, 12, 13, 14, 15, 16, 17], [19, 17, 17, 0, 1, 2, 3, 4, 5, 6, 7, 8, 9, 10, 11, 12, 13, 14, 15, 16, 17]]
def c39 : IR := (S (R [o 9 (mv 0),
 o 10 (nc 9),
 o 11 (fa 28 10 4),
 o 12 (ld 26 11),
 o 13 (len 12 26),
 o 14 (bo .lss (t 13) (n 512))])
(.cond (t 14)
(S (R [o 15 (mv 0),
 o 16 (nc 15),
 o 17 (fa 28 16 3),
 o 18 (ld 25 17),
 o 19 (mv 1),
 o 20 (ia 25 18 19),
 o 8 (av 20)])
d39_1)
.skip))
def g39 : IFn := ⟨41, [], [], c39, [], true, none⟩
/- 40 veil/mach.Is -/
def c40 : IR := (S (R [o 6 (ab false)])
(S (R [o 7 (mv 0),
 o 8 (mv 1),
 o 9 (cl 71 #[(t 7), (t 8)] #[73, 3]),
 o 10 (mv 9),
 oT 11 (mv 0) 10,
 oT 12 (nc 11) 10,
 oT 13 (fa 28 12 3) 10,
 oT 14 (ld 25 13) 10,
 oT 15 (mv 1) 10,
 oT 16 (ia 25 14 15) 10,
 oT 17 (fa 44 16 4) 10,
 oT 18 (ld 3 17) 10,
 oT 19 (mv 2) 10,
 oT 20 (bo .eql (t 18) (t 19)) 10,
 o 21 (.pick (.tmp 10) (.tmp 20) (.const (.bool false))),
 o 6 (av 21)])
(.ret [6])))
def g40 : IFn := ⟨22, [.tmp 6], [4], c40, [], false, none⟩
/- 41 veil/readset.Changed -/
def d41_1 : IR := D [o 24 (fa 54 9 1),
 o 25 (ld 3 24),
 o 26 (mv 1),
 o 27 (mv 8),
 o 28 (ia 41 26 27),
 o 29 (fa 59 28 2),
 o 30 (ld 3 29),
 o 31 (bo .neq (t 25) (t 30))] [[], [0], [], [], [2, 3], [4], [5], [1, 6]]
def c41_1 : IR := (S (R [o 20 (bo .lss (t 19) (t 18))])
(S (.cond (t 20)
.skip
(.exit 0 []))
(S (.block 1 (S (R [o 21 (mv 19),
 o 22 (ia 22 17 19),
 o 23 (ld 54 22),
 o 9 (al 54),
 o 8 (av 21),
 w (st 54 9 23)])
(S d41_1
(.cond (t 31)
(S (R [o 4 (ab true),
 o 5 (an 0)])
(.ret [4, 5]))
.skip))))
(R [o 32 (bo .add (t 19) (n 1)),
 o 19 (mv 32)]))))
def c41 : IR := (S (R [z 2 (bx 23 0),
 o 4 (ab false),
 o 5 (an 0)])
(S (R [o 11 (mv 1),
 o 12 (cl 77 #[(t 2), (t 11)] #[114, 41]),
 o 10 (mv 12),
 o 13 (xt 10 0),
 o 14 (xt 10 1),
 o 6 (av 13),
 o 7 (av 14)])
(S (S (R [o 15 (mv 7),
 o 16 (.unOp .not 4 (.tmp 15))])
(.cond (t 16)
(S (R [o 4 (ab false),
 o 5 (an 900)])
(.ret [4, 5]))
.skip))
(S (S (R [o 17 (mv 6),
 o 18 (len 17 22),
 o 19 (.move (.const (.int .i64 0)))])
(.block 0 (.loop [1, 17, 18, 19] c41_1)))
(S (R [o 4 (ab false),
 o 5 (an 0)])
(.ret [4, 5]))))))
def g41 : IFn := ⟨33, [.tmp 4, .tmp 5], [4, 30], c41, [], false, none⟩
/- 42 veil/undo.Again -/
def c42 : IR := (S (R [z 3 (bx 28 0),
 o 6 (al 28),
 o 7 (an 0)])
(S (S (R [o 10 (mv 1),
 o 11 (cl 71 #[(t 3), (t 10)] #[73, 3]),
 o 12 (.unOp .not 4 (.tmp 11)),
 o 13 (mv 12),
 oF 14 (mv 2) 13,
 oF 15 (bo .neq (t 14) (n 3)) 13,
 oF 16 (mv 15) 13,
 oT 17 (mv 2) 16,
 oT 18 (bo .neq (t 17) (n 5)) 16,
 oF 19 (.pick (.tmp 16) (.tmp 18) (.const (.bool false))) 13,
 o 20 (.pick (.tmp 13) (.const (.bool true)) (.tmp 19))])
(.cond (t 20)
(S (R [o 21 (.build 28 #[]),
 w (st 28 6 21),
 o 7 (an 1300)])
(.ret [6, 7]))
.skip))
(S (R [o 22 (ld 28 3),
 o 23 (cl 38 #[(t 22)] #[28]),
 o 8 (al 28),
 w (st 28 8 23)])
(S (R [o 24 (mv 1),
 o 25 (cl 78 #[(t 8), (t 24)] #[73, 3]),
 o 9 (av 25)])
(S (R [o 26 (mv 9),
 o 27 (mv 9),
 o 28 (mv 9),
 o 29 (.build 24 #[]),
 o 30 (nc 26),
 o 31 (fa 44 30 5),
 w (.store 3 (.tmp 31) (.const (.int .i64 0))),
 o 32 (nc 27),
 o 33 (fa 44 32 6),
 w (st 24 33 29),
 o 34 (nc 28),
 o 35 (fa 44 34 4),
 w (.store 3 (.tmp 35) (.const (.int .i64 0)))])
(S (R [o 36 (mv 9),
 o 37 (mv 9),
 o 38 (nc 37),
 o 39 (fa 44 38 11),
 o 40 (ld 3 39),
 o 41 (bo .add (t 40) (n 1)),
 o 42 (.call { callee := (.builtin .min), args := #[(.tmp 41), (.const (.int .i64 65535))], argTypes := #[3, 3] }),
 o 43 (nc 36),
 o 44 (fa 44 43 11),
 w (st 3 44 42)])
(S (R [o 45 (mv 1),
 o 46 (mv 2),
 o 47 (mv 9),
 o 48 (nc 47),
 o 49 (fa 44 48 11),
 o 50 (ld 3 49),
 o 51 (cl 39 #[(t 8), (t 45), (t 46), (t 50)] #[73, 3, 3, 3])])
(S (R [o 52 (ld 28 8),
 w (st 28 6 52),
 o 7 (an 0)])
(.ret [6, 7])))))))))
def g42 : IFn := ⟨53, [.cell 6 28, .tmp 7], [28, 30], c42, [], false, none⟩
/- 43 veil/veilref11.Here -/
def c43 : IR := (S (R [z 2 (bx 28 0),
 o 4 (ab false)])
(S (R [o 5 (ld 28 2),
 o 6 (cl 79 #[(t 5)] #[28]),
 o 7 (mv 6),
 oT 8 (mv 1) 7,
 oT 9 (bo .geq (t 8) (n 0)) 7,
 o 10 (.pick (.tmp 7) (.tmp 9) (.const (.bool false))),
 o 11 (mv 10),
 oT 12 (mv 1) 11,
 oT 13 (fa 28 2 3) 11,
 oT 14 (ld 25 13) 11,
 oT 15 (len 14 25) 11,
 oT 16 (bo .lss (t 12) (t 15)) 11,
 o 17 (.pick (.tmp 11) (.tmp 16) (.const (.bool false))),
 o 4 (av 17)])
(.ret [4])))
def g43 : IFn := ⟨18, [.tmp 4], [4], c43, [], false, none⟩
/- 44 veil/veilref11.running -/
def c44 : IR := (S (R [z 2 (bx 28 0),
 o 4 (an 0)])
(S (R [o 6 (fa 28 2 3),
 o 7 (ld 25 6),
 o 8 (mv 1),
 o 9 (ia 25 7 8),
 o 10 (ld 44 9),
 o 5 (al 44),
 w (st 44 5 10)])
(S (S (R [o 11 (fa 44 5 4),
 o 12 (ld 3 11),
 o 13 (bo .neq (t 12) (n 0)),
 o 14 (mv 13),
 oF 15 (fa 44 5 5) 14,
 oF 16 (ld 3 15) 14,
 oF 17 (fa 44 5 3) 14,
 oF 18 (ld 40 17) 14,
 oF 19 (len 18 40) 14,
 oF 20 (bo .geq (t 16) (t 19)) 14,
 o 21 (.pick (.tmp 14) (.const (.bool true)) (.tmp 20))])
(.cond (t 21)
(S (R [o 4 (an (-1))])
(.ret [4]))
.skip))
(S (R [o 22 (fa 44 5 3),
 o 23 (ld 40 22),
 o 24 (fa 44 5 5),
 o 25 (ld 3 24),
 o 26 (ia 40 23 25),
 o 27 (fa 57 26 0),
 o 28 (ld 3 27),
 o 4 (av 28)])
(.ret [4])))))
def g44 : IFn := ⟨29, [.tmp 4], [3], c44, [], false, none⟩
/- 45 veil/veilref11.Copy -/
def d45_1 : IR := D [o 18 (fa 28 3 3),
 o 19 (ld 25 18),
 o 20 (fa 28 1 3),
 o 21 (ld 25 20),
 o 22 (mv 4),
 o 23 (ia 25 21 22),
 o 24 (ld 44 23),
 o 25 (cl 81 #[(t 24)] #[44]),
 o 26 (.buildSlice 25 1 #[(0, (.tmp 25))]),
 o 27 (.call { callee := (.builtin .append), args := #[(.tmp 19), (.tmp 26)], argTypes := #[25, 25] }),
 o 28 (fa 28 3 3),
 w (st 25 28 27)] [[], [0], [], [2], [], [3, 4], [5], [6], [7], [1, 8, 7], [0, 1, 2, 3, 4, 5, 6, 7, 8, 9], [10, 9, 9, 0, 1, 2, 3, 4, 5, 6, 7, 8, 9]]
def c45_1 : IR := (S (S (R [o 11 (mv 4),
 o 12 (fa 28 1 3),
 o 13 (ld 25 12),
 o 14 (len 13 25),
 o 15 (bo .lss (t 11) (t 14))])
(.cond (t 15)
.skip
(.exit 0 [1, 2, 3])))
(S (.block 1 d45_1)
(R [o 16 (mv 4),
 o 17 (bo .add (t 16) (n 1)),
 o 4 (av 17)])))
def c45 : IR := (S (R [z 1 (bx 28 0),
 o 2 (al 28)])
(S (R [o 5 (ld 28 1),
 o 3 (al 28),
 w (st 28 3 5)])
(S (R [o 6 (fa 28 1 0),
 o 7 (ld 23 6),
 o 8 (cl 80 #[(t 7)] #[23]),
 o 9 (fa 28 3 0),
 w (st 23 9 8)])
(S (R [o 10 (fa 28 3 3),
 w (.store 25 (.tmp 10) (.const (.slice none 0 0)))])
(S (S (R [o 4 (an 0)])
(.block 0 (.loop [1, 2, 3, 4] c45_1)))
(S (R [o 29 (.buildSlice 26 0 #[]),
 o 30 (fa 28 1 4),
 o 31 (ld 26 30),
 o 32 (.call { callee := (.builtin .append), args := #[(.tmp 29), (.tmp 31)], argTypes := #[26, 26] }),
 o 33 (fa 28 3 4),
 w (st 26 33 32)])
(S (R [o 34 (ld 28 3),
 w (st 28 2 34)])
(.ret [2]))))))))
def g45 : IFn := ⟨35, [.cell 2 28], [28], c45, [], false, none⟩
/- 46 veil/veilref11.tell -/
def d46_1 : IR := D [o 13 (fa 28 4 4),
 o 14 (ld 26 13),
 o 15 (fa 28 4 3),
 o 16 (ld 25 15),
 o 17 (mv 1),
 o 18 (ia 25 16 17),
 o 19 (fa 44 18 0),
 o 20 (ld 3 19),
 o 21 (fa 28 4 3),
 o 22 (ld 25 21),
 o 23 (mv 1),
 o 24 (ia 25 22 23),
 o 25 (fa 44 24 1),
 o 26 (ld 3 25),
 o 27 (mv 2),
 o 28 (mv 3),
 o 29 (.build 68 #[(0, (.tmp 20)), (1, (.tmp 26)), (2, (.tmp 27)), (3, (.tmp 28))]),
 o 30 (.buildSlice 26 1 #[(0, (.tmp 29))]),
 o 31 (.call { callee := (.builtin .append), args := #[(.tmp 14), (.tmp 30)], argTypes := #[26, 26] }),
 o 32 (fa 28 4 4),
 w (st 26 32 31)] [[], [0], [], [2], [], [3, 4], [5], [6], [], [8], [], [9, 10], [11], [12], [], [], [7, 13, 14, 15], [16], [1, 17], [0, 1, 2, 3, 4, 5, 6, 7, 8, 9, 10, 11, 12, 13, 14, 15, 16, 17, 18], [19, 18, 18, 0, 1, 2, 3, 4, 5, 6, 7, 8, 9, 10, 11, 12, 13, 14, 15, 16, 17, 18]]
def c46 : IR := (S (R [o 4 (bx 28 0),
 o 8 (al 28)])
(S (S (R [o 9 (fa 28 4 4),
 o 10 (ld 26 9),
 o 11 (len 10 26),
 o 12 (bo .lss (t 11) (n 512))])
(.cond (t 12)
d46_1
.skip))
(S (R [o 33 (ld 28 4),
 w (st 28 8 33)])
(.ret [8]))))
def g46 : IFn := ⟨34, [.cell 8 28], [28], c46, [true], false, none⟩
/- 47 veil/veilref11.Again -/
def d47_1 : IR := D [o 41 (fa 28 8 3),
 o 42 (ld 25 41),
 o 43 (mv 1),
 o 44 (fa 28 3 3),
 o 45 (ld 25 44),
 o 46 (mv 1),
 o 47 (ia 25 45 46),
 o 48 (fa 44 47 11),
 o 49 (ld 3 48),
 o 50 (bo .add (t 49) (n 1)),
 o 51 (.call { callee := (.builtin .min), args := #[(.tmp 50), (.const (.int .i64 65535))], argTypes := #[3, 3] }),
 o 52 (ia 25 42 43),
 o 53 (fa 44 52 11),
 w (st 3 53 51)] [[], [0], [], [], [3], [], [4, 5], [6], [7], [8], [9], [1, 2, 0, 1, 2, 3, 4, 5, 6, 7, 8, 9, 10], [11, 0, 1, 2, 3, 4, 5, 6, 7, 8, 9, 10], [12, 10, 0, 1, 2, 3, 4, 5, 6, 7, 8, 9, 10]]
def d47_2 : IR := D [o 54 (ld 28 8),
 o 55 (mv 1),
 o 56 (mv 2),
 o 57 (fa 28 8 3),
 o 58 (ld 25 57),
 o 59 (mv 1),
 o 60 (ia 25 58 59),
 o 61 (fa 44 60 11),
 o 62 (ld 3 61),
 o 63 (cl 46 #[(t 54), (t 55), (t 56), (t 62)] #[28, 3, 3, 3]),
 w (st 28 6 63),
 o 7 (an 0)] [[], [], [], [], [3], [], [4, 5], [6], [7], [0, 1, 2, 8], [9, 9, 0, 1, 2, 3, 4, 5, 6, 7, 8, 9], [10, 0, 1, 2, 3, 4, 5, 6, 7, 8, 9, 10]]
def c47 : IR := (S (R [z 3 (bx 28 0),
 o 6 (al 28),
 o 7 (an 0)])
(S (S (R [o 9 (ld 28 3),
 o 10 (mv 1),
 o 11 (cl 43 #[(t 9), (t 10)] #[28, 3]),
 o 12 (.unOp .not 4 (.tmp 11)),
 o 13 (mv 12),
 oF 14 (mv 2) 13,
 oF 15 (bo .neq (t 14) (n 3)) 13,
 oF 16 (mv 15) 13,
 oT 17 (mv 2) 16,
 oT 18 (bo .neq (t 17) (n 5)) 16,
 oF 19 (.pick (.tmp 16) (.tmp 18) (.const (.bool false))) 13,
 o 20 (.pick (.tmp 13) (.const (.bool true)) (.tmp 19))])
(.cond (t 20)
(S (R [o 21 (.build 28 #[]),
 w (st 28 6 21),
 o 7 (an 1300)])
(.ret [6, 7]))
.skip))
(S (R [o 22 (ld 28 3),
 o 23 (mv 1),
 o 24 (cl 82 #[(t 22), (t 23)] #[28, 3]),
 o 8 (al 28),
 w (st 28 8 24)])
(S (R [o 25 (fa 28 8 3),
 o 26 (ld 25 25),
 o 27 (mv 1),
 o 28 (ia 25 26 27),
 o 29 (fa 44 28 5),
 w (.store 3 (.tmp 29) (.const (.int .i64 0)))])
(S (R [o 30 (fa 28 8 3),
 o 31 (ld 25 30),
 o 32 (mv 1),
 o 33 (.build 24 #[]),
 o 34 (ia 25 31 32),
 o 35 (fa 44 34 6),
 w (st 24 35 33)])
(S (R [o 36 (fa 28 8 3),
 o 37 (ld 25 36),
 o 38 (mv 1),
 o 39 (ia 25 37 38),
 o 40 (fa 44 39 4),
 w (.store 3 (.tmp 40) (.const (.int .i64 0)))])
(S d47_1
(S d47_2
(.ret [6, 7])))))))))
def g47 : IFn := ⟨64, [.cell 6 28, .tmp 7], [28, 3], c47, [], false, none⟩
/- 48 veil/veillaw0.SameSession -/
def c48 : IR := (S (R [z 2 (bx 44 0),
 z 3 (bx 44 1),
 o 4 (ab false)])
(S (R [o 5 (fa 44 2 0),
 o 6 (ld 3 5),
 o 7 (fa 44 3 0),
 o 8 (ld 3 7),
 o 9 (bo .eql (t 6) (t 8)),
 o 10 (mv 9),
 oT 11 (fa 44 2 1) 10,
 oT 12 (ld 3 11) 10,
 oT 13 (fa 44 3 1) 10,
 oT 14 (ld 3 13) 10,
 oT 15 (bo .eql (t 12) (t 14)) 10,
 o 16 (.pick (.tmp 10) (.tmp 15) (.const (.bool false))),
 o 17 (mv 16),
 oT 18 (fa 44 2 2) 17,
 oT 19 (ld 3 18) 17,
 oT 20 (fa 44 3 2) 17,
 oT 21 (ld 3 20) 17,
 oT 22 (bo .eql (t 19) (t 21)) 17,
 o 23 (.pick (.tmp 17) (.tmp 22) (.const (.bool false))),
 o 24 (mv 23),
 oT 25 (fa 44 2 3) 24,
 oT 26 (ld 40 25) 24,
 oT 27 (fa 44 3 3) 24,
 oT 28 (ld 40 27) 24,
 oT 29 (cl 83 #[(t 26), (t 28)] #[40, 40]) 24,
 o 30 (.pick (.tmp 24) (.tmp 29) (.const (.bool false))),
 o 31 (mv 30),
 oT 32 (fa 44 2 4) 31,
 oT 33 (ld 3 32) 31,
 oT 34 (fa 44 3 4) 31,
 oT 35 (ld 3 34) 31,
 oT 36 (bo .eql (t 33) (t 35)) 31,
 o 37 (.pick (.tmp 31) (.tmp 36) (.const (.bool false))),
 o 38 (mv 37),
 oT 39 (fa 44 2 5) 38,
 oT 40 (ld 3 39) 38,
 oT 41 (fa 44 3 5) 38,
 oT 42 (ld 3 41) 38,
 oT 43 (bo .eql (t 40) (t 42)) 38,
 o 44 (.pick (.tmp 38) (.tmp 43) (.const (.bool false))),
 o 45 (mv 44),
 oT 46 (fa 44 2 6) 45,
 oT 47 (ld 24 46) 45,
 oT 48 (fa 44 3 6) 45,
 oT 49 (ld 24 48) 45,
 oT 50 (.binOp .eql 24 (.tmp 47) (.tmp 49) 24) 45,
 o 51 (.pick (.tmp 45) (.tmp 50) (.const (.bool false))),
 o 52 (mv 51),
 oT 53 (fa 44 2 7) 52,
 oT 54 (ld 41 53) 52,
 oT 55 (fa 44 3 7) 52,
 oT 56 (ld 41 55) 52,
 oT 57 (cl 22 #[(t 54), (t 56)] #[41, 41]) 52,
 o 58 (.pick (.tmp 52) (.tmp 57) (.const (.bool false))),
 o 59 (mv 58),
 oT 60 (fa 44 2 8) 59,
 oT 61 (ld 42 60) 59,
 oT 62 (fa 44 3 8) 59,
 oT 63 (ld 42 62) 59,
 oT 64 (cl 84 #[(t 61), (t 63)] #[42, 42]) 59,
 o 65 (.pick (.tmp 59) (.tmp 64) (.const (.bool false))),
 o 66 (mv 65),
 oT 67 (fa 44 2 9) 66,
 oT 68 (ld 3 67) 66,
 oT 69 (fa 44 3 9) 66,
 oT 70 (ld 3 69) 66,
 oT 71 (bo .eql (t 68) (t 70)) 66,
 o 72 (.pick (.tmp 66) (.tmp 71) (.const (.bool false))),
 o 73 (mv 72),
 oT 74 (fa 44 2 10) 73,
 oT 75 (ld 3 74) 73,
 oT 76 (fa 44 3 10) 73,
 oT 77 (ld 3 76) 73,
 oT 78 (bo .eql (t 75) (t 77)) 73,
 o 79 (.pick (.tmp 73) (.tmp 78) (.const (.bool false))),
 o 80 (mv 79),
 oT 81 (fa 44 2 11) 80,
 oT 82 (ld 3 81) 80,
 oT 83 (fa 44 3 11) 80,
 oT 84 (ld 3 83) 80,
 oT 85 (bo .eql (t 82) (t 84)) 80,
 o 86 (.pick (.tmp 80) (.tmp 85) (.const (.bool false))),
 o 87 (mv 86),
 oT 88 (fa 44 2 12) 87,
 oT 89 (ld 3 88) 87,
 oT 90 (fa 44 3 12) 87,
 oT 91 (ld 3 90) 87,
 oT 92 (bo .eql (t 89) (t 91)) 87,
 o 93 (.pick (.tmp 87) (.tmp 92) (.const (.bool false))),
 o 94 (mv 93),
 oT 95 (fa 44 2 13) 94,
 oT 96 (ld 3 95) 94,
 oT 97 (fa 44 3 13) 94,
 oT 98 (ld 3 97) 94,
 oT 99 (bo .eql (t 96) (t 98)) 94,
 o 100 (.pick (.tmp 94) (.tmp 99) (.const (.bool false))),
 o 4 (av 100)])
(.ret [4])))
def g48 : IFn := ⟨101, [.tmp 4], [4], c48, [], false, none⟩
/- 49 veil/veillaw0.SpoilArena -/
def c49_1 : IR := (S (S (R [o 3 (mv 2),
 o 4 (bo .lss (t 3) (n 4))])
(.cond (t 4)
.skip
(.exit 0 [])))
(S (.block 1 (R [o 7 (mv 2),
 o 8 (ia 23 1 7),
 o 9 (ld 22 8),
 o 10 (cl 85 #[(t 9)] #[22])]))
(R [o 5 (mv 2),
 o 6 (bo .add (t 5) (n 1)),
 o 2 (av 6)])))
def c49 : IR := (S (R [o 1 (bx 23 0)])
(S (R [o 2 (an 0)])
(.block 0 (.loop [1, 2] c49_1))))
def g49 : IFn := ⟨11, [], [], c49, [true], false, none⟩
/- 50 veil/veillaw0.SpoilSession -/
def c50 : IR := (S (R [o 1 (bx 44 0)])
(S (R [o 2 (fa 44 1 3),
 o 3 (ld 40 2),
 o 4 (cl 86 #[(t 3)] #[40])])
(S (R [o 5 (fa 44 1 7),
 o 6 (ld 41 5),
 o 7 (cl 87 #[(t 6)] #[41])])
(R [o 8 (fa 44 1 8),
 o 9 (ld 42 8),
 o 10 (cl 88 #[(t 9)] #[42])]))))
def g50 : IFn := ⟨11, [], [], c50, [true], false, none⟩
/- 51 veil/veillaw0.SpoilEvents -/
def c51_1 : IR := (S (S (R [o 3 (mv 2),
 o 4 (mv 0),
 o 5 (len 4 26),
 o 6 (bo .lss (t 3) (t 5))])
(.cond (t 6)
.skip
(.exit 0 [])))
(S (.block 1 (R [o 9 (mv 0),
 o 10 (mv 2),
 o 11 (mv 0),
 o 12 (mv 2),
 o 13 (ia 26 11 12),
 o 14 (fa 68 13 0),
 o 15 (ld 3 14),
 o 16 (bo .xor (t 15) (n 90)),
 o 17 (ia 26 9 10),
 o 18 (fa 68 17 0),
 w (st 3 18 16)]))
(R [o 7 (mv 2),
 o 8 (bo .add (t 7) (n 1)),
 o 2 (av 8)])))
def c51 : IR := (S (R [o 2 (an 0)])
(.block 0 (.loop [0, 2] c51_1)))
def g51 : IFn := ⟨19, [], [], c51, [true], false, none⟩
/- 52 veil/veillaw0.SameWords -/
def d52_1 : IR := D [o 17 (mv 0),
 o 18 (mv 5),
 o 19 (ia 22 17 18),
 o 20 (ld 54 19),
 o 21 (mv 1),
 o 22 (mv 5),
 o 23 (ia 22 21 22),
 o 24 (ld 54 23),
 o 25 (.binOp .neq 54 (.tmp 20) (.tmp 24) 54)] [[], [], [0, 1], [2], [], [], [4, 5], [6], [3, 7]]
def c52_1 : IR := (S (S (R [o 11 (mv 5),
 o 12 (mv 0),
 o 13 (len 12 22),
 o 14 (bo .lss (t 11) (t 13))])
(.cond (t 14)
.skip
(.exit 0 [])))
(S (.block 1 (S d52_1
(.cond (t 25)
(S (R [o 4 (ab false)])
(.ret [4]))
.skip)))
(R [o 15 (mv 5),
 o 16 (bo .add (t 15) (n 1)),
 o 5 (av 16)])))
def c52 : IR := (S (R [o 4 (ab false)])
(S (S (R [o 6 (mv 0),
 o 7 (len 6 22),
 o 8 (mv 1),
 o 9 (len 8 22),
 o 10 (bo .neq (t 7) (t 9))])
(.cond (t 10)
(S (R [o 4 (ab false)])
(.ret [4]))
.skip))
(S (S (R [o 5 (an 0)])
(.block 0 (.loop [0, 1, 5] c52_1)))
(S (R [o 4 (ab true)])
(.ret [4])))))
def g52 : IFn := ⟨26, [.tmp 4], [4], c52, [], false, none⟩
/- 53 veil/veilref1.ArenaMay -/
def c53_1 : IR := (S (S (R [o 9 (mv 4),
 o 10 (mv 3),
 o 11 (ia 23 1 10),
 o 12 (ld 22 11),
 o 13 (len 12 22),
 o 14 (bo .lss (t 9) (t 13))])
(.cond (t 14)
.skip
(.exit 2 [1, 3])))
(S (.block 3 (S (R [o 17 (mv 4),
 o 18 (bo .geq (t 17) (n 4)),
 o 19 (mv 18),
 oF 20 (mv 3) 19,
 oF 21 (ia 23 1 20) 19,
 oF 22 (ld 22 21) 19,
 oF 23 (mv 4) 19,
 oF 24 (ia 22 22 23) 19,
 oF 25 (ld 54 24) 19,
 oF 26 (cl 89 #[(t 25)] #[54]) 19,
 oF 27 (.unOp .not 4 (.tmp 26)) 19,
 o 28 (.pick (.tmp 19) (.const (.bool true)) (.tmp 27))])
(.cond (t 28)
(S (R [o 2 (ab false)])
(.ret [2]))
.skip)))
(R [o 15 (mv 4),
 o 16 (bo .add (t 15) (n 1)),
 o 4 (av 16)])))
def c53_2 : IR := (S (S (R [o 5 (mv 3),
 o 6 (bo .lss (t 5) (n 4))])
(.cond (t 6)
.skip
(.exit 0 [])))
(S (.block 1 (S (R [o 4 (an 0)])
(.block 2 (.loop [1, 3, 4] c53_1))))
(R [o 7 (mv 3),
 o 8 (bo .add (t 7) (n 1)),
 o 3 (av 8)])))
def c53 : IR := (S (R [z 1 (bx 23 0),
 o 2 (ab false)])
(S (S (R [o 3 (an 0)])
(.block 0 (.loop [1, 3] c53_2)))
(S (R [o 2 (ab true)])
(.ret [2]))))
def g53 : IFn := ⟨29, [.tmp 2], [4], c53, [], false, none⟩
/- 54 veil/veilref1.ReadsMay -/
def d54_1 : IR := D [o 11 (mv 0),
 o 12 (mv 3),
 o 13 (ia 41 11 12),
 o 14 (fa 59 13 0),
 o 15 (ld 3 14),
 o 16 (mv 0),
 o 17 (mv 3),
 o 18 (ia 41 16 17),
 o 19 (fa 59 18 1),
 o 20 (ld 3 19),
 o 21 (cl 90 #[(t 15), (t 20)] #[3, 3]),
 o 22 (.unOp .not 4 (.tmp 21)),
 o 23 (mv 22),
 oF 24 (mv 0) 23,
 oF 25 (mv 3) 23,
 oF 26 (ia 41 24 25) 23,
 oF 27 (fa 59 26 2) 23,
 oF 28 (ld 3 27) 23,
 oF 29 (cl 91 #[(t 28)] #[3]) 23,
 oF 30 (.unOp .not 4 (.tmp 29)) 23,
 o 31 (.pick (.tmp 23) (.const (.bool true)) (.tmp 30))] [[], [], [0, 1], [2], [3], [], [], [5, 6], [7], [8], [4, 9], [10], [11, 10], [12], [12], [13, 14, 12], [15, 12], [16, 12], [17, 12, 12], [18, 12], [12, 19]]
def d54_2 : IR := D [o 37 (mv 0),
 o 38 (mv 4),
 o 39 (ia 41 37 38),
 o 40 (fa 59 39 0),
 o 41 (ld 3 40),
 o 42 (mv 0),
 o 43 (mv 3),
 o 44 (ia 41 42 43),
 o 45 (fa 59 44 0),
 o 46 (ld 3 45),
 o 47 (bo .eql (t 41) (t 46)),
 o 48 (mv 47),
 oT 49 (mv 0) 48,
 oT 50 (mv 4) 48,
 oT 51 (ia 41 49 50) 48,
 oT 52 (fa 59 51 1) 48,
 oT 53 (ld 3 52) 48,
 oT 54 (mv 0) 48,
 oT 55 (mv 3) 48,
 oT 56 (ia 41 54 55) 48,
 oT 57 (fa 59 56 1) 48,
 oT 58 (ld 3 57) 48,
 oT 59 (bo .eql (t 53) (t 58)) 48,
 o 60 (.pick (.tmp 48) (.tmp 59) (.const (.bool false)))] [[], [], [0, 1], [2], [3], [], [], [5, 6], [7], [8], [4, 9], [10], [11], [11], [12, 13, 11], [14, 11], [15, 11], [11], [11], [17, 18, 11], [19, 11], [20, 11], [16, 21, 11], [11, 22]]
def c54_1 : IR := (S (S (R [o 32 (mv 4),
 o 33 (mv 3),
 o 34 (bo .lss (t 32) (t 33))])
(.cond (t 34)
.skip
(.exit 2 [0, 3])))
(S (.block 3 (S d54_2
(.cond (t 60)
(S (R [o 2 (ab false)])
(.ret [2]))
.skip)))
(R [o 35 (mv 4),
 o 36 (bo .add (t 35) (n 1)),
 o 4 (av 36)])))
def c54_2 : IR := (S (S (R [o 5 (mv 3),
 o 6 (mv 0),
 o 7 (len 6 41),
 o 8 (bo .lss (t 5) (t 7))])
(.cond (t 8)
.skip
(.exit 0 [0])))
(S (.block 1 (S (S d54_1
(.cond (t 31)
(S (R [o 2 (ab false)])
(.ret [2]))
.skip))
(S (R [o 4 (an 0)])
(.block 2 (.loop [0, 3, 4] c54_1)))))
(R [o 9 (mv 3),
 o 10 (bo .add (t 9) (n 1)),
 o 3 (av 10)])))
def c54 : IR := (S (R [o 2 (ab false)])
(S (S (R [o 3 (an 0)])
(.block 0 (.loop [0, 3] c54_2)))
(S (R [o 61 (mv 0),
 o 62 (len 61 41),
 o 63 (bo .leq (t 62) (n 16)),
 o 2 (av 63)])
(.ret [2]))))
def g54 : IFn := ⟨64, [.tmp 2], [4], c54, [], false, none⟩
/- 55 veil/veilref1.ReadsThere -/
def d55_1 : IR := D [o 12 (ld 23 2),
 o 13 (mv 1),
 o 14 (mv 5),
 o 15 (ia 41 13 14),
 o 16 (fa 59 15 0),
 o 17 (ld 3 16),
 o 18 (mv 1),
 o 19 (mv 5),
 o 20 (ia 41 18 19),
 o 21 (fa 59 20 1),
 o 22 (ld 3 21),
 o 23 (cl 92 #[(t 12), (t 17), (t 22)] #[23, 3, 3]),
 o 24 (.unOp .not 4 (.tmp 23))] [[], [], [], [1, 2], [3], [4], [], [], [6, 7], [8], [9], [0, 5, 10], [11]]
def c55_1 : IR := (S (S (R [o 6 (mv 5),
 o 7 (mv 1),
 o 8 (len 7 41),
 o 9 (bo .lss (t 6) (t 8))])
(.cond (t 9)
.skip
(.exit 0 [])))
(S (.block 1 (S d55_1
(.cond (t 24)
(S (R [o 4 (ab false)])
(.ret [4]))
.skip)))
(R [o 10 (mv 5),
 o 11 (bo .add (t 10) (n 1)),
 o 5 (av 11)])))
def c55 : IR := (S (R [z 2 (bx 23 0),
 o 4 (ab false)])
(S (S (R [o 5 (an 0)])
(.block 0 (.loop [1, 2, 5] c55_1)))
(S (R [o 4 (ab true)])
(.ret [4]))))
def g55 : IFn := ⟨25, [.tmp 4], [4], c55, [], false, none⟩
/- 56 veil/veilref11.New -/
def c56_1 : IR := (S (S (R [o 20 (mv 7),
 o 21 (fa 98 1 2),
 o 22 (ld 95 21),
 o 23 (len 22 95),
 o 24 (bo .lss (t 20) (t 23))])
(.cond (t 24)
.skip
(.exit 0 [2, 5, 6])))
(S (.block 1 (S (R [o 28 (fa 98 1 2),
 o 29 (ld 95 28),
 o 30 (mv 7),
 o 31 (ia 95 29 30),
 o 32 (ld 94 31),
 o 33 (cl 94 #[(t 32)] #[94]),
 o 27 (mv 33),
 o 34 (xt 27 0),
 o 35 (xt 27 1),
 o 8 (al 44),
 w (st 44 8 34),
 o 9 (av 35)])
(S (S (R [o 36 (mv 9),
 o 37 (bo .neq (t 36) (n 0))])
(.cond (t 37)
(S (R [o 38 (.build 28 #[]),
 w (st 28 2 38),
 o 3 (an 1200)])
(.ret [2, 3]))
.skip))
(R [o 39 (fa 28 6 3),
 o 40 (ld 25 39),
 o 41 (ld 44 8),
 o 42 (.buildSlice 25 1 #[(0, (.tmp 41))]),
 o 43 (.call { callee := (.builtin .append), args := #[(.tmp 40), (.tmp 42)], argTypes := #[25, 25] }),
 o 44 (fa 28 6 3),
 w (st 25 44 43)]))))
(R [o 25 (mv 7),
 o 26 (bo .add (t 25) (n 1)),
 o 7 (av 26)])))
def c56 : IR := (S (R [z 1 (bx 98 0),
 o 2 (al 28),
 o 3 (an 0)])
(S (R [o 11 (fa 98 1 0),
 o 12 (ld 92 11),
 o 13 (cl 93 #[(t 12)] #[92]),
 o 10 (mv 13),
 o 14 (xt 10 0),
 o 15 (xt 10 1),
 o 4 (al 23),
 w (st 23 4 14),
 o 5 (av 15)])
(S (R [o 16 (ld 23 4),
 o 17 (fa 98 1 1),
 o 18 (ld 3 17),
 o 19 (.build 28 #[(0, (.tmp 16)), (2, (.tmp 18))]),
 o 6 (al 28),
 w (st 28 6 19)])
(S (S (R [o 7 (an 0)])
(.block 0 (.loop [1, 2, 5, 6, 7] c56_1)))
(S (S (R [o 45 (mv 5),
 o 46 (bo .neq (t 45) (n 0)),
 o 47 (mv 46),
 oF 48 (ld 28 6) 47,
 oF 49 (cl 79 #[(t 48)] #[28]) 47,
 oF 50 (.unOp .not 4 (.tmp 49)) 47,
 o 51 (.pick (.tmp 47) (.const (.bool true)) (.tmp 50))])
(.cond (t 51)
(S (R [o 52 (.build 28 #[]),
 w (st 28 2 52),
 o 3 (an 1200)])
(.ret [2, 3]))
.skip))
(S (R [o 53 (ld 28 6),
 w (st 28 2 53),
 o 3 (an 0)])
(.ret [2, 3])))))))
def g56 : IFn := ⟨54, [.cell 2 28, .tmp 3], [28, 3], c56, [], false, none⟩
/- 57 veil/veilref11.run -/
def d57_1 : IR := D [o 62 (ld 28 2),
 o 63 (mv 1),
 o 64 (fa 44 6 3),
 o 65 (ld 40 64),
 o 66 (fa 44 6 5),
 o 67 (ld 3 66),
 o 68 (ia 40 65 67),
 o 69 (fa 57 68 1),
 o 70 (ld 3 69),
 o 71 (cl 98 #[(t 62), (t 63), (n 2), (t 70)] #[28, 3, 3, 3]),
 o 72 (xt 71 0),
 o 73 (xt 71 1),
 w (st 28 4 72),
 o 5 (av 73)] [[], [], [], [2], [], [4], [3, 5], [6], [7], [0, 1, 8], [9], [9], [10, 9, 0, 1, 2, 3, 4, 5, 6, 7, 8, 9, 10, 11], [11, 12, 0, 1, 2, 3, 4, 5, 6, 7, 8, 9, 10, 11, 12]]
def c57 : IR := (S (R [z 2 (bx 28 0),
 o 4 (al 28),
 o 5 (an 0)])
(S (R [o 10 (fa 28 2 3),
 o 11 (ld 25 10),
 o 12 (mv 1),
 o 13 (ia 25 11 12),
 o 14 (ld 44 13),
 o 6 (al 44),
 w (st 44 6 14)])
(S (S (R [o 15 (ld 28 2),
 o 16 (mv 1),
 o 17 (cl 44 #[(t 15), (t 16)] #[28, 3])])
(.block 0 (S (R [o 19 (bo .eql (t 17) (n 2)),
 o 18 (av 19)])
(.cond (t 18)
(S (R [o 21 (ld 28 2),
 o 22 (mv 1),
 o 23 (cl 66 #[(t 21), (t 22)] #[28, 3]),
 o 20 (mv 23),
 o 24 (xt 20 0),
 o 25 (xt 20 1),
 o 7 (av 24),
 o 8 (av 25)])
(S (S (R [o 26 (mv 7)])
(.cond (t 26)
(S (R [o 27 (ld 28 2),
 o 28 (mv 1),
 o 29 (cl 95 #[(t 27), (t 28)] #[28, 3]),
 o 30 (xt 29 0),
 o 31 (xt 29 1),
 w (st 28 4 30),
 o 5 (av 31)])
(.ret [4, 5]))
.skip))
(S (R [o 32 (ld 28 2),
 o 33 (mv 1),
 o 34 (cl 30 #[(t 32), (t 33)] #[28, 3]),
 o 35 (xt 34 0),
 o 36 (xt 34 1),
 w (st 28 4 35),
 o 5 (av 36)])
(.ret [4, 5]))))
(S (R [o 38 (bo .eql (t 17) (n 3)),
 o 37 (av 38)])
(.cond (t 37)
(S (R [o 39 (ld 28 2),
 o 40 (mv 1),
 o 41 (cl 96 #[(t 39), (t 40)] #[28, 3]),
 o 42 (xt 41 0),
 o 43 (xt 41 1),
 w (st 28 4 42),
 o 5 (av 43)])
(.ret [4, 5]))
(S (S (R [o 45 (bo .eql (t 17) (n 0)),
 o 44 (av 45)])
(.cond (t 44)
.skip
(S (R [o 46 (bo .eql (t 17) (n 1)),
 o 44 (av 46)])
(.cond (t 44)
.skip
(R [o 47 (bo .eql (t 17) (n 4)),
 o 44 (av 47)])))))
(.cond (t 44)
(S (R [o 48 (ld 28 2),
 o 49 (mv 1),
 o 50 (cl 97 #[(t 48), (t 49)] #[28, 3]),
 o 51 (xt 50 0),
 o 52 (xt 50 1),
 w (st 28 4 51),
 o 5 (av 52)])
(.ret [4, 5]))
(S (R [o 54 (bo .eql (t 17) (n 5)),
 o 53 (av 54)])
(.cond (t 53)
(S (R [o 55 (ld 28 2),
 o 56 (mv 1),
 o 57 (cl 17 #[(t 55), (t 56)] #[28, 3]),
 o 58 (xt 57 0),
 o 59 (xt 57 1),
 w (st 28 4 58),
 o 5 (av 59)])
(.ret [4, 5]))
(S (R [o 61 (bo .eql (t 17) (n 6)),
 o 60 (av 61)])
(.cond (t 60)
(S d57_1
(.ret [4, 5]))
.skip))))))))))))
(S (S (R [o 74 (fa 44 6 8),
 o 75 (ld 42 74),
 o 76 (fa 44 6 1),
 o 77 (ld 3 76),
 o 78 (cl 99 #[(t 75), (t 77)] #[42, 3]),
 o 79 (.unOp .not 4 (.tmp 78))])
(.cond (t 79)
(S (R [o 80 (ld 28 2),
 o 81 (mv 1),
 o 82 (cl 98 #[(t 80), (t 81), (n 3), (n 0)] #[28, 3, 3, 3]),
 o 83 (xt 82 0),
 o 84 (xt 82 1),
 w (st 28 4 83),
 o 5 (av 84)])
(.ret [4, 5]))
.skip))
(S (R [o 85 (ld 28 2),
 o 86 (cl 45 #[(t 85)] #[28]),
 o 9 (al 28),
 w (st 28 9 86)])
(S (R [o 87 (fa 28 9 3),
 o 88 (ld 25 87),
 o 89 (mv 1),
 o 90 (ia 25 88 89),
 o 91 (fa 44 90 9),
 w (.store 3 (.tmp 91) (.const (.int .i64 0)))])
(S (R [o 92 (fa 28 9 3),
 o 93 (ld 25 92),
 o 94 (mv 1),
 o 95 (ia 25 93 94),
 o 96 (fa 44 95 4),
 w (.store 3 (.tmp 96) (.const (.int .i64 1)))])
(S (S (R [o 97 (fa 44 6 8),
 o 98 (ld 42 97),
 o 99 (len 98 42),
 o 100 (bo .eql (t 99) (n 0))])
(.cond (t 100)
(R [o 101 (fa 28 9 3),
 o 102 (ld 25 101),
 o 103 (mv 1),
 o 104 (ia 25 102 103),
 o 105 (fa 44 104 4),
 w (.store 3 (.tmp 105) (.const (.int .i64 3)))])
.skip))
(S (R [o 106 (ld 28 9),
 w (st 28 4 106),
 o 5 (an 0)])
(.ret [4, 5]))))))))))
def g57 : IFn := ⟨107, [.cell 4 28, .tmp 5], [28, 3], c57, [], false, none⟩
/- 58 veil/veilref11.Grab -/
def d58_1 : IR := D [o 28 (fa 65 7 0),
 o 29 (ld 3 28),
 o 30 (fa 28 2 0),
 o 31 (ia 23 30 29),
 o 32 (ld 22 31),
 o 33 (fa 65 7 1),
 o 34 (ld 3 33),
 o 35 (ia 22 32 34),
 o 36 (ld 54 35),
 o 37 (fa 44 6 0),
 o 38 (ld 3 37),
 o 39 (cl 101 #[(t 36), (t 38)] #[54, 3]),
 o 27 (mv 39),
 o 40 (xt 27 0),
 o 41 (xt 27 1),
 o 8 (al 54),
 w (st 54 8 40),
 o 9 (av 41)] [[], [0], [], [2, 1], [3], [], [5], [4, 6], [7], [], [9], [8, 10], [11], [12], [12], [], [15, 13, 11, 0, 1, 2, 3, 4, 5, 6, 7, 8, 9, 10, 11, 12, 13, 15], [14, 16, 0, 1, 2, 3, 4, 5, 6, 7, 8, 9, 10, 11, 12, 13, 14, 15, 16]]
def d58_2 : IR := D [o 51 (fa 65 7 0),
 o 52 (ld 3 51),
 o 53 (fa 28 10 0),
 o 54 (ia 23 53 52),
 o 55 (ld 22 54),
 o 56 (fa 65 7 1),
 o 57 (ld 3 56),
 o 58 (ld 54 8),
 o 59 (ia 22 55 57),
 w (st 54 59 58)] [[], [0], [], [2, 1], [3], [], [5], [], [4, 6, 0, 1, 2, 3, 4, 5, 6, 7], [8, 7, 0, 1, 2, 3, 4, 5, 6, 7]]
def c58 : IR := (S (R [z 2 (bx 28 0),
 o 4 (al 28),
 o 5 (an 0)])
(S (S (R [o 11 (ld 28 2),
 o 12 (mv 1),
 o 13 (cl 100 #[(t 11), (t 12), (n 1)] #[28, 3, 3]),
 o 14 (.unOp .not 4 (.tmp 13))])
(.cond (t 14)
(S (R [o 15 (.build 28 #[]),
 w (st 28 4 15),
 o 5 (an 1800)])
(.ret [4, 5]))
.skip))
(S (R [o 16 (fa 28 2 3),
 o 17 (ld 25 16),
 o 18 (mv 1),
 o 19 (ia 25 17 18),
 o 20 (ld 44 19),
 o 6 (al 44),
 w (st 44 6 20)])
(S (R [o 21 (fa 44 6 8),
 o 22 (ld 42 21),
 o 23 (fa 44 6 9),
 o 24 (ld 3 23),
 o 25 (ia 42 22 24),
 o 26 (ld 65 25),
 o 7 (al 65),
 w (st 65 7 26)])
(S d58_1
(S (S (R [o 42 (mv 9),
 o 43 (bo .neq (t 42) (n 0))])
(.cond (t 43)
(S (R [o 44 (ld 28 2),
 o 45 (mv 1),
 o 46 (cl 47 #[(t 44), (t 45), (n 3)] #[28, 3, 3]),
 o 47 (xt 46 0),
 o 48 (xt 46 1),
 w (st 28 4 47),
 o 5 (av 48)])
(.ret [4, 5]))
.skip))
(S (R [o 49 (ld 28 2),
 o 50 (cl 45 #[(t 49)] #[28]),
 o 10 (al 28),
 w (st 28 10 50)])
(S d58_2
(S (R [o 60 (fa 28 10 3),
 o 61 (ld 25 60),
 o 62 (mv 1),
 o 63 (ia 25 61 62),
 o 64 (fa 44 63 9),
 o 65 (ld 3 64),
 o 66 (bo .add (t 65) (n 1)),
 o 67 (ia 25 61 62),
 o 68 (fa 44 67 9),
 w (st 3 68 66)])
(S (S (R [o 69 (fa 44 6 9),
 o 70 (ld 3 69),
 o 71 (bo .add (t 70) (n 1)),
 o 72 (fa 44 6 8),
 o 73 (ld 42 72),
 o 74 (len 73 42),
 o 75 (bo .eql (t 71) (t 74))])
(.cond (t 75)
(R [o 76 (fa 28 10 3),
 o 77 (ld 25 76),
 o 78 (mv 1),
 o 79 (ia 25 77 78),
 o 80 (fa 44 79 4),
 w (.store 3 (.tmp 80) (.const (.int .i64 2)))])
.skip))
(S (R [o 81 (ld 28 10),
 w (st 28 4 81),
 o 5 (an 0)])
(.ret [4, 5]))))))))))))
def g58 : IFn := ⟨82, [.cell 4 28, .tmp 5], [28, 3], c58, [], false, none⟩
/- 59 veil/veilref11.Stamp -/
def d59_1 : IR := D [o 25 (fa 28 2 1),
 o 26 (ld 24 25),
 o 27 (fa 28 2 3),
 o 28 (ld 25 27),
 o 29 (mv 1),
 o 30 (ia 25 28 29),
 o 31 (fa 44 30 1),
 o 32 (ld 3 31),
 o 33 (fa 28 2 2),
 o 34 (ld 3 33),
 o 35 (cl 102 #[(t 26), (t 32), (t 34)] #[24, 3, 3]),
 o 24 (mv 35),
 o 36 (xt 24 0),
 o 37 (xt 24 1),
 o 38 (xt 24 2),
 o 6 (al 24),
 w (st 24 6 36),
 o 7 (av 37),
 o 8 (av 38)] [[], [0], [], [2], [], [3, 4], [5], [6], [], [8], [1, 7, 9], [10], [11], [11], [11], [], [15, 12, 10, 0, 1, 2, 3, 4, 5, 6, 7, 8, 9, 10, 11, 12, 15], [13, 16, 0, 1, 2, 3, 4, 5, 6, 7, 8, 9, 10, 11, 12, 13, 15, 16], [14, 17, 0, 1, 2, 3, 4, 5, 6, 7, 8, 9, 10, 11, 12, 13, 14, 15, 16, 17]]
def c59 : IR := (S (R [z 2 (bx 28 0),
 o 4 (al 28),
 o 5 (an 0)])
(S (S (R [o 10 (ld 28 2),
 o 11 (mv 1),
 o 12 (cl 43 #[(t 10), (t 11)] #[28, 3]),
 o 13 (.unOp .not 4 (.tmp 12)),
 o 14 (mv 13),
 oF 15 (fa 28 2 3) 14,
 oF 16 (ld 25 15) 14,
 oF 17 (mv 1) 14,
 oF 18 (ia 25 16 17) 14,
 oF 19 (fa 44 18 4) 14,
 oF 20 (ld 3 19) 14,
 oF 21 (bo .neq (t 20) (n 2)) 14,
 o 22 (.pick (.tmp 14) (.const (.bool true)) (.tmp 21))])
(.cond (t 22)
(S (R [o 23 (.build 28 #[]),
 w (st 28 4 23),
 o 5 (an 1900)])
(.ret [4, 5]))
.skip))
(S d59_1
(S (S (R [o 39 (mv 8),
 o 40 (bo .neq (t 39) (n 0))])
(.cond (t 40)
(S (R [o 41 (ld 28 2),
 o 42 (mv 1),
 o 43 (cl 98 #[(t 41), (t 42), (n 5), (n 0)] #[28, 3, 3, 3]),
 o 44 (xt 43 0),
 o 45 (xt 43 1),
 w (st 28 4 44),
 o 5 (av 45)])
(.ret [4, 5]))
.skip))
(S (R [o 46 (ld 28 2),
 o 47 (cl 45 #[(t 46)] #[28]),
 o 9 (al 28),
 w (st 28 9 47)])
(S (R [o 48 (ld 24 6),
 o 49 (fa 28 9 1),
 w (st 24 49 48)])
(S (R [o 50 (fa 28 9 3),
 o 51 (ld 25 50),
 o 52 (mv 1),
 o 53 (mv 7),
 o 54 (ia 25 51 52),
 o 55 (fa 44 54 10),
 w (st 3 55 53)])
(S (R [o 56 (fa 28 9 3),
 o 57 (ld 25 56),
 o 58 (mv 1),
 o 59 (ia 25 57 58),
 o 60 (fa 44 59 4),
 w (.store 3 (.tmp 60) (.const (.int .i64 3)))])
(S (R [o 61 (ld 28 9),
 w (st 28 4 61),
 o 5 (an 0)])
(.ret [4, 5]))))))))))
def g59 : IFn := ⟨62, [.cell 4 28, .tmp 5], [28, 3], c59, [], false, none⟩
/- 60 veil/veilref11.Check -/
def c60 : IR := (S (R [z 2 (bx 28 0),
 o 4 (al 28),
 o 5 (an 0)])
(S (S (R [o 10 (ld 28 2),
 o 11 (mv 1),
 o 12 (cl 43 #[(t 10), (t 11)] #[28, 3]),
 o 13 (.unOp .not 4 (.tmp 12)),
 o 14 (mv 13),
 oF 15 (fa 28 2 3) 14,
 oF 16 (ld 25 15) 14,
 oF 17 (mv 1) 14,
 oF 18 (ia 25 16 17) 14,
 oF 19 (fa 44 18 4) 14,
 oF 20 (ld 3 19) 14,
 oF 21 (bo .neq (t 20) (n 3)) 14,
 o 22 (.pick (.tmp 14) (.const (.bool true)) (.tmp 21))])
(.cond (t 22)
(S (R [o 23 (.build 28 #[]),
 w (st 28 4 23),
 o 5 (an 2000)])
(.ret [4, 5]))
.skip))
(S (R [o 24 (fa 28 2 3),
 o 25 (ld 25 24),
 o 26 (mv 1),
 o 27 (ia 25 25 26),
 o 28 (ld 44 27),
 o 6 (al 44),
 w (st 44 6 28)])
(S (R [o 30 (fa 28 2 0),
 o 31 (ld 23 30),
 o 32 (fa 44 6 7),
 o 33 (ld 41 32),
 o 34 (fa 44 6 0),
 o 35 (ld 3 34),
 o 36 (cl 32 #[(t 31), (t 33), (t 35)] #[23, 41, 3]),
 o 29 (mv 36),
 o 37 (xt 29 0),
 o 38 (xt 29 1),
 o 7 (av 37),
 o 8 (av 38)])
(S (S (R [o 39 (mv 7),
 o 40 (.unOp .not 4 (.tmp 39))])
(.cond (t 40)
(S (R [o 41 (ld 28 2),
 o 42 (mv 1),
 o 43 (cl 47 #[(t 41), (t 42), (n 3)] #[28, 3, 3]),
 o 44 (xt 43 0),
 o 45 (xt 43 1),
 w (st 28 4 44),
 o 5 (av 45)])
(.ret [4, 5]))
.skip))
(S (S (R [o 46 (fa 44 6 8),
 o 47 (ld 42 46),
 o 48 (len 47 42),
 o 49 (bo .eql (t 48) (n 0))])
(.cond (t 49)
(S (R [o 50 (ld 28 2),
 o 51 (mv 1),
 o 52 (cl 98 #[(t 50), (t 51), (n 1), (n 0)] #[28, 3, 3, 3]),
 o 53 (xt 52 0),
 o 54 (xt 52 1),
 w (st 28 4 53),
 o 5 (av 54)])
(.ret [4, 5]))
.skip))
(S (R [o 55 (ld 28 2),
 o 56 (cl 45 #[(t 55)] #[28]),
 o 9 (al 28),
 w (st 28 9 56)])
(S (R [o 57 (fa 28 9 3),
 o 58 (ld 25 57),
 o 59 (mv 1),
 o 60 (ia 25 58 59),
 o 61 (fa 44 60 9),
 w (.store 3 (.tmp 61) (.const (.int .i64 0)))])
(S (R [o 62 (fa 28 9 3),
 o 63 (ld 25 62),
 o 64 (mv 1),
 o 65 (ia 25 63 64),
 o 66 (fa 44 65 4),
 w (.store 3 (.tmp 66) (.const (.int .i64 4)))])
(S (R [o 67 (ld 28 9),
 w (st 28 4 67),
 o 5 (an 0)])
(.ret [4, 5])))))))))))
def g60 : IFn := ⟨68, [.cell 4 28, .tmp 5], [28, 3], c60, [], false, none⟩
/- 61 veil/veilref11.Back -/
def d61_1 : IR := D [o 28 (fa 65 7 0),
 o 29 (ld 3 28),
 o 30 (fa 28 2 0),
 o 31 (ia 23 30 29),
 o 32 (ld 22 31),
 o 33 (fa 65 7 1),
 o 34 (ld 3 33),
 o 35 (ia 22 32 34),
 o 36 (ld 54 35),
 o 37 (fa 65 7 2),
 o 38 (ld 3 37),
 o 39 (fa 44 6 10),
 o 40 (ld 3 39),
 o 41 (cl 103 #[(t 36), (t 38), (t 40)] #[54, 3, 3]),
 o 27 (mv 41),
 o 42 (xt 27 0),
 o 43 (xt 27 1),
 o 8 (al 54),
 w (st 54 8 42),
 o 9 (av 43)] [[], [0], [], [2, 1], [3], [], [5], [4, 6], [7], [], [9], [], [11], [8, 10, 12], [13], [14], [14], [], [17, 15, 13, 0, 1, 2, 3, 4, 5, 6, 7, 8, 9, 10, 11, 12, 13, 14, 15, 17], [16, 18, 0, 1, 2, 3, 4, 5, 6, 7, 8, 9, 10, 11, 12, 13, 14, 15, 16, 17, 18]]
def d61_2 : IR := D [o 46 (fa 65 7 0),
 o 47 (ld 3 46),
 o 48 (fa 28 10 0),
 o 49 (ia 23 48 47),
 o 50 (ld 22 49),
 o 51 (fa 65 7 1),
 o 52 (ld 3 51),
 o 53 (ld 54 8),
 o 54 (ia 22 50 52),
 w (st 54 54 53)] [[], [0], [], [2, 1], [3], [], [5], [], [4, 6, 0, 1, 2, 3, 4, 5, 6, 7], [8, 7, 0, 1, 2, 3, 4, 5, 6, 7]]
def c61 : IR := (S (R [z 2 (bx 28 0),
 o 4 (al 28),
 o 5 (an 0)])
(S (S (R [o 11 (ld 28 2),
 o 12 (mv 1),
 o 13 (cl 100 #[(t 11), (t 12), (n 4)] #[28, 3, 3]),
 o 14 (.unOp .not 4 (.tmp 13))])
(.cond (t 14)
(S (R [o 15 (.build 28 #[]),
 w (st 28 4 15),
 o 5 (an 2100)])
(.ret [4, 5]))
.skip))
(S (R [o 16 (fa 28 2 3),
 o 17 (ld 25 16),
 o 18 (mv 1),
 o 19 (ia 25 17 18),
 o 20 (ld 44 19),
 o 6 (al 44),
 w (st 44 6 20)])
(S (R [o 21 (fa 44 6 8),
 o 22 (ld 42 21),
 o 23 (fa 44 6 9),
 o 24 (ld 3 23),
 o 25 (ia 42 22 24),
 o 26 (ld 65 25),
 o 7 (al 65),
 w (st 65 7 26)])
(S d61_1
(S (R [o 44 (ld 28 2),
 o 45 (cl 45 #[(t 44)] #[28]),
 o 10 (al 28),
 w (st 28 10 45)])
(S d61_2
(S (R [o 55 (fa 28 10 3),
 o 56 (ld 25 55),
 o 57 (mv 1),
 o 58 (ia 25 56 57),
 o 59 (fa 44 58 9),
 o 60 (ld 3 59),
 o 61 (bo .add (t 60) (n 1)),
 o 62 (ia 25 56 57),
 o 63 (fa 44 62 9),
 w (st 3 63 61)])
(S (S (R [o 64 (fa 44 6 9),
 o 65 (ld 3 64),
 o 66 (bo .add (t 65) (n 1)),
 o 67 (fa 44 6 8),
 o 68 (ld 42 67),
 o 69 (len 68 42),
 o 70 (bo .eql (t 66) (t 69))])
(.cond (t 70)
(S (R [o 71 (ld 28 10),
 o 72 (mv 1),
 o 73 (cl 98 #[(t 71), (t 72), (n 1), (n 0)] #[28, 3, 3, 3]),
 o 74 (xt 73 0),
 o 75 (xt 73 1),
 w (st 28 4 74),
 o 5 (av 75)])
(.ret [4, 5]))
.skip))
(S (R [o 76 (ld 28 10),
 w (st 28 4 76),
 o 5 (an 0)])
(.ret [4, 5])))))))))))
def g61 : IFn := ⟨77, [.cell 4 28, .tmp 5], [28, 3], c61, [], false, none⟩
/- 62 veil/drift.Needs -/
def d62_1 : IR := D [o 15 (mv 6),
 o 16 (nc 15),
 o 17 (fa 44 16 3),
 o 18 (ld 40 17),
 o 19 (mv 6),
 o 20 (nc 19),
 o 21 (fa 44 20 5),
 o 22 (ld 3 21),
 o 23 (ia 40 18 22),
 o 24 (fa 57 23 2),
 o 25 (ld 3 24),
 o 26 (mv 6),
 o 27 (nc 26),
 o 28 (fa 44 27 1),
 o 29 (ld 3 28),
 o 30 (cl 104 #[(t 25), (t 29)] #[3, 3]),
 o 31 (.unOp .not 4 (.tmp 30)),
 o 4 (av 31),
 o 5 (an 0)] [[], [0], [1], [2], [], [4], [5], [6], [3, 7], [8], [9], [], [11], [12], [13], [10, 14], [15], [16, 15, 0, 1, 2, 3, 4, 5, 6, 7, 8, 9, 10, 11, 12, 13, 14, 15, 16], [17, 0, 1, 2, 3, 4, 5, 6, 7, 8, 9, 10, 11, 12, 13, 14, 15, 16, 17]]
def c62 : IR := (S (R [z 2 (bx 28 0),
 o 4 (ab false),
 o 5 (an 0)])
(S (S (R [o 7 (mv 1),
 o 8 (.buildSlice 51 1 #[(0, (.const (.int .i64 2)))]),
 o 9 (cl 37 #[(t 2), (t 7), (t 8)] #[73, 3, 51]),
 o 10 (.unOp .not 4 (.tmp 9))])
(.cond (t 10)
(S (R [o 4 (ab false),
 o 5 (an 1400)])
(.ret [4, 5]))
.skip))
(S (R [o 11 (fa 28 2 3),
 o 12 (ld 25 11),
 o 13 (mv 1),
 o 14 (ia 25 12 13),
 o 6 (av 14)])
(S d62_1
(.ret [4, 5])))))
def g62 : IFn := ⟨32, [.tmp 4, .tmp 5], [4, 30], c62, [], false, none⟩
/- 63 veil/writeset.Find -/
def c63 : IR := (S (R [o 6 (an 0),
 o 7 (ab false)])
(S (R [o 11 (mv 0),
 o 12 (mv 1),
 o 13 (mv 2),
 o 14 (.build 65 #[(0, (.tmp 12)), (1, (.tmp 13))]),
 o 15 (cl 105 #[(t 11), (t 14), (f 106)] #[42, 65, 139]),
 o 10 (mv 15),
 o 16 (xt 10 0),
 o 17 (xt 10 1),
 o 8 (av 16),
 o 9 (av 17)])
(S (S (R [o 18 (mv 0),
 o 19 (cl 107 #[(t 18)] #[42]),
 o 20 (.unOp .not 4 (.tmp 19)),
 o 21 (mv 20),
 oF 22 (mv 9) 21,
 oF 23 (.unOp .not 4 (.tmp 22)) 21,
 o 24 (.pick (.tmp 21) (.const (.bool true)) (.tmp 23))])
(.cond (t 24)
(S (R [o 6 (an 0),
 o 7 (ab false)])
(.ret [6, 7]))
.skip))
(S (R [o 25 (mv 0),
 o 26 (mv 8),
 o 27 (ia 42 25 26),
 o 28 (fa 65 27 2),
 o 29 (ld 3 28),
 o 6 (av 29),
 o 7 (ab true)])
(.ret [6, 7])))))
def g63 : IFn := ⟨30, [.tmp 6, .tmp 7], [3, 4], c63, [], false, none⟩
/- 64 veil/readset.Good -/
def d64_1 : IR := D [o 31 (fa 54 11 1),
 o 32 (ld 3 31),
 o 33 (mv 1),
 o 34 (mv 10),
 o 35 (ia 41 33 34),
 o 36 (fa 59 35 2),
 o 37 (ld 3 36),
 o 38 (bo .neq (t 32) (t 37)),
 o 39 (mv 38),
 oF 40 (fa 54 11 2) 39,
 oF 41 (ld 3 40) 39,
 oF 42 (bo .neq (t 41) (n 0)) 39,
 oF 43 (mv 42) 39,
 oT 44 (fa 54 11 2) 43,
 oT 45 (ld 3 44) 43,
 oT 46 (mv 2) 43,
 oT 47 (bo .add (t 46) (n 1)) 43,
 oT 48 (bo .neq (t 45) (t 47)) 43,
 oF 49 (.pick (.tmp 43) (.tmp 48) (.const (.bool false))) 39,
 o 50 (.pick (.tmp 39) (.const (.bool true)) (.tmp 49))] [[], [0], [], [], [2, 3], [4], [5], [1, 6], [7], [8], [9, 8], [10, 8], [11, 8, 8], [12], [13, 12], [12], [15, 12], [14, 16, 12], [12, 17, 8], [8, 18]]
def c64_1 : IR := (S (R [o 27 (bo .lss (t 26) (t 25))])
(S (.cond (t 27)
.skip
(.exit 0 []))
(S (.block 1 (S (R [o 28 (mv 26),
 o 29 (ia 22 24 26),
 o 30 (ld 54 29),
 o 11 (al 54),
 o 10 (av 28),
 w (st 54 11 30)])
(S d64_1
(.cond (t 50)
(S (R [o 6 (ab false),
 o 7 (an 0)])
(.ret [6, 7]))
.skip))))
(R [o 51 (bo .add (t 26) (n 1)),
 o 26 (mv 51)]))))
def c64 : IR := (S (R [z 3 (bx 23 0),
 o 6 (ab false),
 o 7 (an 0)])
(S (R [o 13 (mv 1),
 o 14 (cl 77 #[(t 3), (t 13)] #[114, 41]),
 o 12 (mv 14),
 o 15 (xt 12 0),
 o 16 (xt 12 1),
 o 8 (av 15),
 o 9 (av 16)])
(S (S (R [o 17 (mv 9),
 o 18 (.unOp .not 4 (.tmp 17)),
 o 19 (mv 18),
 oF 20 (mv 2) 19,
 oF 21 (cl 108 #[(t 20)] #[3]) 19,
 oF 22 (.unOp .not 4 (.tmp 21)) 19,
 o 23 (.pick (.tmp 19) (.const (.bool true)) (.tmp 22))])
(.cond (t 23)
(S (R [o 6 (ab false),
 o 7 (an 900)])
(.ret [6, 7]))
.skip))
(S (S (R [o 24 (mv 8),
 o 25 (len 24 22),
 o 26 (.move (.const (.int .i64 0)))])
(.block 0 (.loop [1, 2, 24, 25, 26] c64_1)))
(S (R [o 6 (ab true),
 o 7 (an 0)])
(.ret [6, 7]))))))
def g64 : IFn := ⟨52, [.tmp 6, .tmp 7], [4, 30], c64, [], false, none⟩
/- 65 veil/readset.With -/
def c65 : IR := (S (R [z 3 (bx 59 1),
 o 4 (.assign (.const (.slice none 0 0))),
 o 5 (an 0)])
(S (S (R [o 7 (mv 0),
 o 8 (cl 109 #[(t 7)] #[41]),
 o 9 (.unOp .not 4 (.tmp 8)),
 o 10 (mv 9),
 oF 11 (ld 59 3) 10,
 oF 12 (.buildSlice 41 1 #[(0, (.tmp 11))]) 10,
 oF 13 (cl 109 #[(t 12)] #[41]) 10,
 oF 14 (.unOp .not 4 (.tmp 13)) 10,
 o 15 (.pick (.tmp 10) (.const (.bool true)) (.tmp 14))])
(.cond (t 15)
(S (R [o 4 (.assign (.const (.slice none 0 0))),
 o 5 (an 900)])
(.ret [4, 5]))
.skip))
(S (R [o 16 (mv 0),
 o 17 (cl 110 #[(t 16)] #[41]),
 o 6 (av 17)])
(S (S (R [o 18 (mv 0),
 o 19 (ld 59 3),
 o 20 (cl 112 #[(t 19)] #[59]),
 o 21 (cl 111 #[(t 18), (t 20)] #[41, 143])])
(.cond (t 21)
(S (R [o 22 (mv 6),
 o 4 (av 22),
 o 5 (an 0)])
(.ret [4, 5]))
.skip))
(S (S (R [o 23 (mv 0),
 o 24 (len 23 41),
 o 25 (bo .eql (t 24) (n 16))])
(.cond (t 25)
(S (R [o 4 (.assign (.const (.slice none 0 0))),
 o 5 (an 900)])
(.ret [4, 5]))
.skip))
(S (R [o 26 (mv 6),
 o 27 (ld 59 3),
 o 28 (.buildSlice 41 1 #[(0, (.tmp 27))]),
 o 29 (.call { callee := (.builtin .append), args := #[(.tmp 26), (.tmp 28)], argTypes := #[41, 41] }),
 o 4 (av 29),
 o 5 (an 0)])
(.ret [4, 5])))))))
def g65 : IFn := ⟨30, [.tmp 4, .tmp 5], [41, 30], c65, [], false, none⟩
/- 66 veil/veilref11.Needs -/
def d66_1 : IR := D [o 22 (fa 44 6 3),
 o 23 (ld 40 22),
 o 24 (fa 44 6 5),
 o 25 (ld 3 24),
 o 26 (ia 40 23 25),
 o 27 (fa 57 26 2),
 o 28 (ld 3 27),
 o 29 (fa 44 6 1),
 o 30 (ld 3 29),
 o 31 (cl 113 #[(t 28), (t 30)] #[3, 3]),
 o 32 (.unOp .not 4 (.tmp 31)),
 o 4 (av 32),
 o 5 (an 0)] [[], [0], [], [2], [1, 3], [4], [5], [], [7], [6, 8], [9], [10, 9, 0, 1, 2, 3, 4, 5, 6, 7, 8, 9, 10], [11, 0, 1, 2, 3, 4, 5, 6, 7, 8, 9, 10, 11]]
def c66 : IR := (S (R [z 2 (bx 28 0),
 o 4 (ab false),
 o 5 (an 0)])
(S (S (R [o 7 (ld 28 2),
 o 8 (mv 1),
 o 9 (cl 43 #[(t 7), (t 8)] #[28, 3]),
 o 10 (.unOp .not 4 (.tmp 9)),
 o 11 (mv 10),
 oF 12 (ld 28 2) 11,
 oF 13 (mv 1) 11,
 oF 14 (cl 44 #[(t 12), (t 13)] #[28, 3]) 11,
 oF 15 (bo .neq (t 14) (n 2)) 11,
 o 16 (.pick (.tmp 11) (.const (.bool true)) (.tmp 15))])
(.cond (t 16)
(S (R [o 4 (ab false),
 o 5 (an 1400)])
(.ret [4, 5]))
.skip))
(S (R [o 17 (fa 28 2 3),
 o 18 (ld 25 17),
 o 19 (mv 1),
 o 20 (ia 25 18 19),
 o 21 (ld 44 20),
 o 6 (al 44),
 w (st 44 6 21)])
(S d66_1
(.ret [4, 5])))))
def g66 : IFn := ⟨33, [.tmp 4, .tmp 5], [4, 3], c66, [], false, none⟩
/- 67 veil/veilref1.FindWrite -/
def c67_1 : IR := (S (S (R [o 9 (mv 8),
 o 10 (mv 0),
 o 11 (len 10 42),
 o 12 (bo .lss (t 9) (t 11)),
 o 13 (mv 12),
 oT 14 (mv 0) 13,
 oT 15 (cl 114 #[(t 14)] #[42]) 13,
 o 16 (.pick (.tmp 13) (.tmp 15) (.const (.bool false)))])
(.cond (t 16)
.skip
(.exit 0 [])))
(S (.block 1 (S (R [o 19 (mv 0),
 o 20 (mv 8),
 o 21 (ia 42 19 20),
 o 22 (fa 65 21 0),
 o 23 (ld 3 22),
 o 24 (mv 1),
 o 25 (bo .eql (t 23) (t 24)),
 o 26 (mv 25),
 oT 27 (mv 0) 26,
 oT 28 (mv 8) 26,
 oT 29 (ia 42 27 28) 26,
 oT 30 (fa 65 29 1) 26,
 oT 31 (ld 3 30) 26,
 oT 32 (mv 2) 26,
 oT 33 (bo .eql (t 31) (t 32)) 26,
 o 34 (.pick (.tmp 26) (.tmp 33) (.const (.bool false)))])
(.cond (t 34)
(S (R [o 35 (mv 0),
 o 36 (mv 8),
 o 37 (ia 42 35 36),
 o 38 (fa 65 37 2),
 o 39 (ld 3 38),
 o 6 (av 39),
 o 7 (ab true)])
(.ret [6, 7]))
.skip)))
(R [o 17 (mv 8),
 o 18 (bo .add (t 17) (n 1)),
 o 8 (av 18)])))
def c67 : IR := (S (R [o 6 (an 0),
 o 7 (ab false)])
(S (S (R [o 8 (an 0)])
(.block 0 (.loop [0, 1, 2, 8] c67_1)))
(S (R [o 6 (an 0),
 o 7 (ab false)])
(.ret [6, 7]))))
def g67 : IFn := ⟨40, [.tmp 6, .tmp 7], [3, 4], c67, [], false, none⟩
/- 68 veil/veilref1.WithRead -/
def d68_1 : IR := D [o 26 (mv 0),
 o 27 (mv 7),
 o 28 (ia 41 26 27),
 o 29 (fa 59 28 0),
 o 30 (ld 3 29),
 o 31 (fa 59 3 0),
 o 32 (ld 3 31),
 o 33 (bo .eql (t 30) (t 32)),
 o 34 (mv 33),
 oT 35 (mv 0) 34,
 oT 36 (mv 7) 34,
 oT 37 (ia 41 35 36) 34,
 oT 38 (fa 59 37 1) 34,
 oT 39 (ld 3 38) 34,
 oT 40 (fa 59 3 1) 34,
 oT 41 (ld 3 40) 34,
 oT 42 (bo .eql (t 39) (t 41)) 34,
 o 43 (.pick (.tmp 34) (.tmp 42) (.const (.bool false)))] [[], [], [0, 1], [2], [3], [], [5], [4, 6], [7], [8], [8], [9, 10, 8], [11, 8], [12, 8], [8], [14, 8], [13, 15, 8], [8, 16]]
def c68_1 : IR := (S (S (R [o 20 (mv 7),
 o 21 (mv 0),
 o 22 (len 21 41),
 o 23 (bo .lss (t 20) (t 22))])
(.cond (t 23)
.skip
(.exit 0 [3, 6])))
(S (.block 1 (S d68_1
(.cond (t 43)
(S (R [o 44 (mv 6),
 o 4 (av 44),
 o 5 (an 0)])
(.ret [4, 5]))
.skip)))
(R [o 24 (mv 7),
 o 25 (bo .add (t 24) (n 1)),
 o 7 (av 25)])))
def c68 : IR := (S (R [z 3 (bx 59 1),
 o 4 (.assign (.const (.slice none 0 0))),
 o 5 (an 0)])
(S (S (R [o 8 (mv 0),
 o 9 (cl 54 #[(t 8)] #[41]),
 o 10 (.unOp .not 4 (.tmp 9)),
 o 11 (mv 10),
 oF 12 (ld 59 3) 11,
 oF 13 (.buildSlice 41 1 #[(0, (.tmp 12))]) 11,
 oF 14 (cl 54 #[(t 13)] #[41]) 11,
 oF 15 (.unOp .not 4 (.tmp 14)) 11,
 o 16 (.pick (.tmp 11) (.const (.bool true)) (.tmp 15))])
(.cond (t 16)
(S (R [o 4 (.assign (.const (.slice none 0 0))),
 o 5 (an 900)])
(.ret [4, 5]))
.skip))
(S (R [o 17 (.buildSlice 41 0 #[]),
 o 18 (mv 0),
 o 19 (.call { callee := (.builtin .append), args := #[(.tmp 17), (.tmp 18)], argTypes := #[41, 41] }),
 o 6 (av 19)])
(S (S (R [o 7 (an 0)])
(.block 0 (.loop [0, 3, 6, 7] c68_1)))
(S (R [o 45 (mv 6),
 o 46 (ld 59 3),
 o 47 (.buildSlice 41 1 #[(0, (.tmp 46))]),
 o 48 (.call { callee := (.builtin .append), args := #[(.tmp 45), (.tmp 47)], argTypes := #[41, 41] }),
 o 6 (av 48)])
(S (S (R [o 49 (mv 6),
 o 50 (len 49 41),
 o 51 (bo .gtr (t 50) (n 16))])
(.cond (t 51)
(S (R [o 4 (.assign (.const (.slice none 0 0))),
 o 5 (an 900)])
(.ret [4, 5]))
.skip))
(S (R [o 52 (mv 6),
 o 4 (av 52),
 o 5 (an 0)])
(.ret [4, 5]))))))))
def g68 : IFn := ⟨53, [.tmp 4, .tmp 5], [41, 3], c68, [], false, none⟩
/- 69 veil/veillaw15.stepped -/
def c69_1 : IR := (S (S (R [o 8 (mv 6),
 o 9 (mv 1),
 o 10 (bo .lss (t 8) (t 9))])
(.cond (t 10)
.skip
(.exit 0 [4, 5])))
(S (.block 1 (R [o 14 (ld 28 5),
 o 15 (mv 0),
 o 16 (cl 27 #[(t 14), (t 15)] #[28, 3]),
 o 13 (mv 16),
 o 17 (xt 13 0),
 o 18 (xt 13 1),
 w (st 28 5 17)]))
(R [o 11 (mv 6),
 o 12 (bo .add (t 11) (n 1)),
 o 6 (av 12)])))
def c69 : IR := (S (R [o 4 (al 28)])
(S (R [o 7 (cl 33 #[] #[]),
 o 5 (al 28),
 w (st 28 5 7)])
(S (S (R [o 6 (an 0)])
(.block 0 (.loop [0, 1, 4, 5, 6] c69_1)))
(S (R [o 19 (ld 28 5),
 w (st 28 4 19)])
(.ret [4])))))
def g69 : IFn := ⟨20, [.cell 4 28], [28], c69, [], false, none⟩
/- 70 veil/veilref1.IdMay -/
def c70 : IR := (S (R [o 2 (ab false)])
(S (R [o 3 (mv 0),
 o 4 (cl 115 #[(t 3), (n 0), (n 254)] #[3, 3, 3]),
 o 2 (av 4)])
(.ret [2])))
def g70 : IFn := ⟨5, [.tmp 2], [4], c70, [], false, none⟩
/- 71 veil/mach.There -/
def c71 : IR := (S (R [o 4 (ab false)])
(S (R [o 5 (mv 0),
 o 6 (nc 5),
 o 7 (ld 28 6),
 o 8 (cl 116 #[(t 7)] #[28]),
 o 9 (mv 8),
 oT 10 (mv 1) 9,
 oT 11 (bo .geq (t 10) (n 0)) 9,
 o 12 (.pick (.tmp 9) (.tmp 11) (.const (.bool false))),
 o 13 (mv 12),
 oT 14 (mv 1) 13,
 oT 15 (mv 0) 13,
 oT 16 (nc 15) 13,
 oT 17 (fa 28 16 3) 13,
 oT 18 (ld 25 17) 13,
 oT 19 (len 18 25) 13,
 oT 20 (bo .lss (t 14) (t 19)) 13,
 o 21 (.pick (.tmp 13) (.tmp 20) (.const (.bool false))),
 o 4 (av 21)])
(.ret [4])))
def g71 : IFn := ⟨22, [.tmp 4], [4], c71, [], false, none⟩
/- 72 slices.Contains[[]int,int] -/
def c72 : IR := (S (R [o 4 (ab false)])
(S (R [o 5 (mv 0),
 o 6 (mv 1),
 o 7 (cl 117 #[(t 5), (t 6)] #[51, 3]),
 o 8 (bo .geq (t 7) (n 0)),
 o 4 (av 8)])
(.ret [4])))
def g72 : IFn := ⟨9, [.tmp 4], [4], c72, [], false, none⟩
/- 73 veil/arena.Copy -/
def c73_1 : IR := (S (R [o 5 (bo .lss (t 4) (n 4))])
(S (.cond (t 5)
.skip
(.exit 0 [1, 2]))
(S (.block 1 (S (R [o 6 (mv 4),
 o 3 (av 6)])
(R [o 7 (mv 3),
 o 8 (mv 3),
 o 9 (ia 23 1 8),
 o 10 (ld 22 9),
 o 11 (cl 118 #[(t 10)] #[22]),
 o 12 (ia 23 1 7),
 w (st 22 12 11)])))
(R [o 13 (bo .add (t 4) (n 1)),
 o 4 (mv 13)]))))
def c73 : IR := (S (R [o 1 (bx 23 0),
 o 2 (al 23)])
(S (S (R [o 4 (.move (.const (.int .i64 0)))])
(.block 0 (.loop [1, 2, 4] c73_1)))
(S (R [o 14 (ld 23 1),
 w (st 23 2 14)])
(.ret [2]))))
def g73 : IFn := ⟨15, [.cell 2 23], [23], c73, [], false, none⟩
/- 74 slices.Clone[[]veil/api.Session,veil/api.Session] -/
def c74 : IR := (S (R [o 2 (.assign (.const (.slice none 0 0)))])
(S (S (R [o 3 (mv 0),
 o 4 (.binOp .eql 25 (.tmp 3) (.const (.slice none 0 0)) 25)])
(.cond (t 4)
(S (R [o 2 (.assign (.const (.slice none 0 0)))])
(.ret [2]))
.skip))
(S (R [o 5 (.buildSlice 25 0 #[]),
 o 6 (mv 0),
 o 7 (.call { callee := (.builtin .append), args := #[(.tmp 5), (.tmp 6)], argTypes := #[25, 25] }),
 o 2 (av 7)])
(.ret [2]))))
def g74 : IFn := ⟨8, [.tmp 2], [25], c74, [], false, some (17, 184)⟩
/- 75 slices.Clone[[]veil/api.Event,veil/api.Event] -/
def c75 : IR := (S (R [o 2 (.assign (.const (.slice none 0 0)))])
(S (S (R [o 3 (mv 0),
 o 4 (.binOp .eql 26 (.tmp 3) (.const (.slice none 0 0)) 26)])
(.cond (t 4)
(S (R [o 2 (.assign (.const (.slice none 0 0)))])
(.ret [2]))
.skip))
(S (R [o 5 (.buildSlice 26 0 #[]),
 o 6 (mv 0),
 o 7 (.call { callee := (.builtin .append), args := #[(.tmp 5), (.tmp 6)], argTypes := #[26, 26] }),
 o 2 (av 7)])
(.ret [2]))))
def g75 : IFn := ⟨8, [.tmp 2], [26], c75, [], false, some (4, 32)⟩
/- 76 veil/mach.session -/
def d76_1 : IR := D [o 3 (fa 44 1 3),
 o 4 (ld 40 3),
 o 5 (cl 119 #[(t 4)] #[40]),
 o 6 (fa 44 1 7),
 o 7 (ld 41 6),
 o 8 (cl 110 #[(t 7)] #[41]),
 o 9 (fa 44 1 8),
 o 10 (ld 42 9),
 o 11 (cl 120 #[(t 10)] #[42]),
 o 12 (fa 44 1 3),
 w (st 40 12 5),
 o 13 (fa 44 1 7),
 w (st 41 13 8),
 o 14 (fa 44 1 8),
 w (st 42 14 11)] [[], [0], [1], [], [3], [4, 2], [], [6], [7, 5], [0, 1, 2, 3, 4, 6, 7], [9, 2, 8, 0, 1, 2, 3, 4, 6, 7], [0, 1, 2, 3, 4, 5, 6, 7, 9, 10], [11, 5, 10, 0, 1, 2, 3, 4, 5, 6, 7, 9, 10], [0, 1, 2, 3, 4, 5, 6, 7, 8, 9, 10, 11, 12], [13, 8, 12, 0, 1, 2, 3, 4, 5, 6, 7, 8, 9, 10, 11, 12]]
def c76 : IR := (S (R [o 1 (bx 44 0),
 o 2 (al 44)])
(S d76_1
(S (R [o 15 (ld 44 1),
 w (st 44 2 15)])
(.ret [2]))))
def g76 : IFn := ⟨16, [.cell 2 44], [44], c76, [], false, none⟩
/- 77 veil/readset.words -/
def d77_1 : IR := D [o 32 (mv 6),
 o 33 (mv 0),
 o 34 (fa 59 8 0),
 o 35 (ld 3 34),
 o 36 (nc 33),
 o 37 (ia 23 36 35),
 o 38 (ld 22 37),
 o 39 (fa 59 8 1),
 o 40 (ld 3 39),
 o 41 (ia 22 38 40),
 o 42 (ld 54 41),
 o 43 (.buildSlice 22 1 #[(0, (.tmp 42))]),
 o 44 (.call { callee := (.builtin .append), args := #[(.tmp 32), (.tmp 43)], argTypes := #[22, 22] }),
 o 6 (av 44)] [[], [], [], [2], [1], [4, 3], [5], [], [7], [6, 8], [9], [10], [0, 11], [12, 12, 0, 1, 2, 3, 4, 5, 6, 7, 8, 9, 10, 11, 12]]
def c77_1 : IR := (S (R [o 22 (bo .lss (t 21) (t 20))])
(S (.cond (t 22)
.skip
(.exit 0 [6]))
(S (.block 1 (S (R [o 23 (ia 41 19 21),
 o 24 (ld 59 23),
 o 8 (al 59),
 w (st 59 8 24)])
(S (S (R [o 25 (mv 0),
 o 26 (fa 59 8 0),
 o 27 (ld 3 26),
 o 28 (fa 59 8 1),
 o 29 (ld 3 28),
 o 30 (cl 122 #[(t 25), (t 27), (t 29)] #[114, 3, 3]),
 o 31 (.unOp .not 4 (.tmp 30))])
(.cond (t 31)
(S (R [o 4 (.assign (.const (.slice none 0 0))),
 o 5 (ab false)])
(.ret [4, 5]))
.skip))
d77_1)))
(R [o 45 (bo .add (t 21) (n 1)),
 o 21 (mv 45)]))))
def c77 : IR := (S (R [o 4 (.assign (.const (.slice none 0 0))),
 o 5 (ab false)])
(S (S (R [o 9 (mv 0),
 o 10 (nc 9),
 o 11 (ld 23 10),
 o 12 (cl 121 #[(t 11)] #[23]),
 o 13 (.unOp .not 4 (.tmp 12)),
 o 14 (mv 13),
 oF 15 (mv 1) 14,
 oF 16 (cl 109 #[(t 15)] #[41]) 14,
 oF 17 (.unOp .not 4 (.tmp 16)) 14,
 o 18 (.pick (.tmp 14) (.const (.bool true)) (.tmp 17))])
(.cond (t 18)
(S (R [o 4 (.assign (.const (.slice none 0 0))),
 o 5 (ab false)])
(.ret [4, 5]))
.skip))
(S (R [o 6 (.assign (.const (.slice none 0 0)))])
(S (S (R [o 19 (mv 1),
 o 20 (len 19 41),
 o 21 (.move (.const (.int .i64 0)))])
(.block 0 (.loop [0, 6, 19, 20, 21] c77_1)))
(S (R [o 46 (mv 6),
 o 4 (av 46),
 o 5 (ab true)])
(.ret [4, 5]))))))
def g77 : IFn := ⟨47, [.tmp 4, .tmp 5], [22, 4], c77, [], false, none⟩
/- 78 veil/undo.drop -/
def c78 : IR := (S (R [o 4 (.assign (.const (.pointer none)))])
(S (R [o 6 (mv 0),
 o 7 (nc 6),
 o 8 (fa 28 7 3),
 o 9 (ld 25 8),
 o 10 (mv 1),
 o 11 (ia 25 9 10),
 o 5 (av 11)])
(S (R [o 12 (mv 0),
 o 13 (mv 5),
 o 14 (nc 13),
 o 15 (fa 44 14 0),
 o 16 (ld 3 15),
 o 17 (cl 123 #[(t 12), (t 16)] #[73, 3])])
(S (R [o 18 (mv 5),
 o 19 (mv 5),
 o 20 (mv 5),
 o 21 (mv 5),
 o 22 (nc 18),
 o 23 (fa 44 22 7),
 w (.store 41 (.tmp 23) (.const (.slice none 0 0))),
 o 24 (nc 19),
 o 25 (fa 44 24 8),
 w (.store 42 (.tmp 25) (.const (.slice none 0 0))),
 o 26 (nc 20),
 o 27 (fa 44 26 9),
 w (.store 3 (.tmp 27) (.const (.int .i64 0))),
 o 28 (nc 21),
 o 29 (fa 44 28 10),
 w (.store 3 (.tmp 29) (.const (.int .i64 0)))])
(S (R [o 30 (mv 5),
 o 4 (av 30)])
(.ret [4]))))))
def g78 : IFn := ⟨31, [.tmp 4], [74], c78, [], true, none⟩
/- 79 veil/veilref11.May -/
def d79_1 : IR := D [o 32 (mv 3),
 o 33 (fa 28 1 1),
 o 34 (ia 24 33 32),
 o 35 (ld 3 34),
 o 36 (fa 28 1 2),
 o 37 (ld 3 36),
 o 38 (cl 124 #[(t 35), (n 0), (t 37)] #[3, 3, 3]),
 o 39 (.unOp .not 4 (.tmp 38))] [[], [], [1, 0], [2], [], [4], [3, 5], [6]]
def c79_1 : IR := (S (S (R [o 28 (mv 3),
 o 29 (bo .lss (t 28) (n 4))])
(.cond (t 29)
.skip
(.exit 0 [1])))
(S (.block 1 (S d79_1
(.cond (t 39)
(S (R [o 2 (ab false)])
(.ret [2]))
.skip)))
(R [o 30 (mv 3),
 o 31 (bo .add (t 30) (n 1)),
 o 3 (av 31)])))
def d79_2 : IR := D [o 47 (ld 28 1),
 o 48 (fa 28 1 3),
 o 49 (ld 25 48),
 o 50 (mv 4),
 o 51 (ia 25 49 50),
 o 52 (ld 44 51),
 o 53 (cl 125 #[(t 47), (t 52)] #[28, 44]),
 o 54 (.unOp .not 4 (.tmp 53)),
 o 55 (mv 54),
 oF 56 (mv 4) 55,
 oF 57 (bo .gtr (t 56) (n 0)) 55,
 oF 58 (mv 57) 55,
 oT 59 (fa 28 1 3) 58,
 oT 60 (ld 25 59) 58,
 oT 61 (mv 4) 58,
 oT 62 (ia 25 60 61) 58,
 oT 63 (fa 44 62 0) 58,
 oT 64 (ld 3 63) 58,
 oT 65 (fa 28 1 3) 58,
 oT 66 (ld 25 65) 58,
 oT 67 (mv 4) 58,
 oT 68 (bo .sub (t 67) (n 1)) 58,
 oT 69 (ia 25 66 68) 58,
 oT 70 (fa 44 69 0) 58,
 oT 71 (ld 3 70) 58,
 oT 72 (bo .leq (t 64) (t 71)) 58,
 oF 73 (.pick (.tmp 58) (.tmp 72) (.const (.bool false))) 55,
 o 74 (.pick (.tmp 55) (.const (.bool true)) (.tmp 73))] [[], [], [1], [], [2, 3], [4], [0, 5], [6], [7, 6], [8], [9, 8], [10, 8, 8], [11], [12, 11], [11], [13, 14, 11], [15, 11], [16, 11], [11], [18, 11], [11], [20, 11], [19, 21, 11], [22, 11], [23, 11], [17, 24, 11], [11, 25, 8], [8, 26]]
def c79_2 : IR := (S (S (R [o 40 (mv 4),
 o 41 (fa 28 1 3),
 o 42 (ld 25 41),
 o 43 (len 42 25),
 o 44 (bo .lss (t 40) (t 43))])
(.cond (t 44)
.skip
(.exit 2 [1])))
(S (.block 3 (S d79_2
(.cond (t 74)
(S (R [o 2 (ab false)])
(.ret [2]))
.skip)))
(R [o 45 (mv 4),
 o 46 (bo .add (t 45) (n 1)),
 o 4 (av 46)])))
def c79_3 : IR := (S (S (R [o 75 (mv 5),
 o 76 (fa 28 1 4),
 o 77 (ld 26 76),
 o 78 (len 77 26),
 o 79 (bo .lss (t 75) (t 78))])
(.cond (t 79)
.skip
(.exit 4 [])))
(S (.block 5 (S (R [o 82 (fa 28 1 4),
 o 83 (ld 26 82),
 o 84 (mv 5),
 o 85 (ia 26 83 84),
 o 86 (fa 68 85 1),
 o 87 (ld 3 86),
 o 88 (cl 126 #[(t 87)] #[3]),
 o 89 (.unOp .not 4 (.tmp 88))])
(.cond (t 89)
(S (R [o 2 (ab false)])
(.ret [2]))
.skip)))
(R [o 80 (mv 5),
 o 81 (bo .add (t 80) (n 1)),
 o 5 (av 81)])))
def c79 : IR := (S (R [z 1 (bx 28 0),
 o 2 (ab false)])
(S (S (R [o 6 (fa 28 1 0),
 o 7 (ld 23 6),
 o 8 (cl 53 #[(t 7)] #[23]),
 o 9 (.unOp .not 4 (.tmp 8)),
 o 10 (mv 9),
 oF 11 (fa 28 1 2) 10,
 oF 12 (ld 3 11) 10,
 oF 13 (cl 91 #[(t 12)] #[3]) 10,
 oF 14 (.unOp .not 4 (.tmp 13)) 10,
 o 15 (.pick (.tmp 10) (.const (.bool true)) (.tmp 14)),
 o 16 (mv 15),
 oF 17 (fa 28 1 3) 16,
 oF 18 (ld 25 17) 16,
 oF 19 (len 18 25) 16,
 oF 20 (bo .gtr (t 19) (n 4)) 16,
 o 21 (.pick (.tmp 16) (.const (.bool true)) (.tmp 20)),
 o 22 (mv 21),
 oF 23 (fa 28 1 4) 22,
 oF 24 (ld 26 23) 22,
 oF 25 (len 24 26) 22,
 oF 26 (bo .gtr (t 25) (n 512)) 22,
 o 27 (.pick (.tmp 22) (.const (.bool true)) (.tmp 26))])
(.cond (t 27)
(S (R [o 2 (ab false)])
(.ret [2]))
.skip))
(S (S (R [o 3 (an 0)])
(.block 0 (.loop [1, 3] c79_1)))
(S (S (R [o 4 (an 0)])
(.block 2 (.loop [1, 4] c79_2)))
(S (S (R [o 5 (an 0)])
(.block 4 (.loop [1, 5] c79_3)))
(S (R [o 2 (ab true)])
(.ret [2])))))))
def g79 : IFn := ⟨90, [.tmp 2], [4], c79, [], false, none⟩
/- 80 veil/veilref1.CopyArena -/
def c80_1 : IR := (S (S (R [o 5 (mv 4),
 o 6 (bo .lss (t 5) (n 4))])
(.cond (t 6)
.skip
(.exit 0 [2, 3])))
(S (.block 1 (R [o 9 (mv 4),
 o 10 (.buildSlice 22 0 #[]),
 o 11 (mv 4),
 o 12 (ia 23 1 11),
 o 13 (ld 22 12),
 o 14 (.call { callee := (.builtin .append), args := #[(.tmp 10), (.tmp 13)], argTypes := #[22, 22] }),
 o 15 (ia 23 3 9),
 w (st 22 15 14)]))
(R [o 7 (mv 4),
 o 8 (bo .add (t 7) (n 1)),
 o 4 (av 8)])))
def c80 : IR := (S (R [z 1 (bx 23 0),
 o 2 (al 23)])
(S (R [o 3 (al 23)])
(S (S (R [o 4 (an 0)])
(.block 0 (.loop [1, 2, 3, 4] c80_1)))
(S (R [o 16 (ld 23 3),
 w (st 23 2 16)])
(.ret [2])))))
def g80 : IFn := ⟨17, [.cell 2 23], [23], c80, [], false, none⟩
/- 81 veil/veilref11.copySession -/
def c81 : IR := (S (R [o 1 (bx 44 0),
 o 2 (al 44)])
(S (R [o 3 (.buildSlice 40 0 #[]),
 o 4 (fa 44 1 3),
 o 5 (ld 40 4),
 o 6 (.call { callee := (.builtin .append), args := #[(.tmp 3), (.tmp 5)], argTypes := #[40, 40] }),
 o 7 (fa 44 1 3),
 w (st 40 7 6)])
(S (R [o 8 (.buildSlice 41 0 #[]),
 o 9 (fa 44 1 7),
 o 10 (ld 41 9),
 o 11 (.call { callee := (.builtin .append), args := #[(.tmp 8), (.tmp 10)], argTypes := #[41, 41] }),
 o 12 (fa 44 1 7),
 w (st 41 12 11)])
(S (R [o 13 (.buildSlice 42 0 #[]),
 o 14 (fa 44 1 8),
 o 15 (ld 42 14),
 o 16 (.call { callee := (.builtin .append), args := #[(.tmp 13), (.tmp 15)], argTypes := #[42, 42] }),
 o 17 (fa 44 1 8),
 w (st 42 17 16)])
(S (R [o 18 (ld 44 1),
 w (st 44 2 18)])
(.ret [2]))))))
def g81 : IFn := ⟨19, [.cell 2 44], [44], c81, [], false, none⟩
/- 82 veil/veilref11.loose -/
def c82_1 : IR := (S (S (R [o 21 (mv 8),
 o 22 (mv 7),
 o 23 (fa 28 5 0),
 o 24 (ia 23 23 22),
 o 25 (ld 22 24),
 o 26 (len 25 22),
 o 27 (bo .lss (t 21) (t 26))])
(.cond (t 27)
.skip
(.exit 2 [1, 4, 5, 6, 7])))
(S (.block 3 (S (R [o 30 (mv 7),
 o 31 (fa 28 5 0),
 o 32 (ia 23 31 30),
 o 33 (ld 22 32),
 o 34 (mv 8),
 o 35 (ia 22 33 34),
 o 36 (fa 54 35 2),
 o 37 (ld 3 36),
 o 38 (mv 6),
 o 39 (bo .add (t 38) (n 1)),
 o 40 (bo .eql (t 37) (t 39))])
(.cond (t 40)
(R [o 41 (mv 7),
 o 42 (fa 28 5 0),
 o 43 (ia 23 42 41),
 o 44 (ld 22 43),
 o 45 (mv 8),
 o 46 (ia 22 44 45),
 o 47 (fa 54 46 2),
 w (.store 3 (.tmp 47) (.const (.int .i64 0)))])
.skip)))
(R [o 28 (mv 8),
 o 29 (bo .add (t 28) (n 1)),
 o 8 (av 29)])))
def c82_2 : IR := (S (S (R [o 17 (mv 7),
 o 18 (bo .lss (t 17) (n 4))])
(.cond (t 18)
.skip
(.exit 0 [1, 4, 5])))
(S (.block 1 (S (R [o 8 (an 0)])
(.block 2 (.loop [1, 4, 5, 6, 7, 8] c82_1))))
(R [o 19 (mv 7),
 o 20 (bo .add (t 19) (n 1)),
 o 7 (av 20)])))
def c82 : IR := (S (R [z 2 (bx 28 0),
 o 4 (al 28)])
(S (R [o 9 (ld 28 2),
 o 10 (cl 45 #[(t 9)] #[28]),
 o 5 (al 28),
 w (st 28 5 10)])
(S (R [o 11 (fa 28 2 3),
 o 12 (ld 25 11),
 o 13 (mv 1),
 o 14 (ia 25 12 13),
 o 15 (fa 44 14 0),
 o 16 (ld 3 15),
 o 6 (av 16)])
(S (S (R [o 7 (an 0)])
(.block 0 (.loop [1, 4, 5, 6, 7] c82_2)))
(S (R [o 48 (fa 28 5 3),
 o 49 (ld 25 48),
 o 50 (mv 1),
 o 51 (ia 25 49 50),
 o 52 (fa 44 51 7),
 w (.store 41 (.tmp 52) (.const (.slice none 0 0)))])
(S (R [o 53 (fa 28 5 3),
 o 54 (ld 25 53),
 o 55 (mv 1),
 o 56 (ia 25 54 55),
 o 57 (fa 44 56 8),
 w (.store 42 (.tmp 57) (.const (.slice none 0 0)))])
(S (R [o 58 (fa 28 5 3),
 o 59 (ld 25 58),
 o 60 (mv 1),
 o 61 (ia 25 59 60),
 o 62 (fa 44 61 9),
 w (.store 3 (.tmp 62) (.const (.int .i64 0)))])
(S (R [o 63 (fa 28 5 3),
 o 64 (ld 25 63),
 o 65 (mv 1),
 o 66 (ia 25 64 65),
 o 67 (fa 44 66 10),
 w (.store 3 (.tmp 67) (.const (.int .i64 0)))])
(S (R [o 68 (ld 28 5),
 w (st 28 4 68)])
(.ret [4]))))))))))
def g82 : IFn := ⟨69, [.cell 4 28], [28], c82, [], false, none⟩
/- 83 veil/veillaw0.SameInsts -/
def d83_1 : IR := D [o 17 (mv 0),
 o 18 (mv 5),
 o 19 (ia 40 17 18),
 o 20 (ld 57 19),
 o 21 (mv 1),
 o 22 (mv 5),
 o 23 (ia 40 21 22),
 o 24 (ld 57 23),
 o 25 (.binOp .neq 57 (.tmp 20) (.tmp 24) 57)] [[], [], [0, 1], [2], [], [], [4, 5], [6], [3, 7]]
def c83_1 : IR := (S (S (R [o 11 (mv 5),
 o 12 (mv 0),
 o 13 (len 12 40),
 o 14 (bo .lss (t 11) (t 13))])
(.cond (t 14)
.skip
(.exit 0 [])))
(S (.block 1 (S d83_1
(.cond (t 25)
(S (R [o 4 (ab false)])
(.ret [4]))
.skip)))
(R [o 15 (mv 5),
 o 16 (bo .add (t 15) (n 1)),
 o 5 (av 16)])))
def c83 : IR := (S (R [o 4 (ab false)])
(S (S (R [o 6 (mv 0),
 o 7 (len 6 40),
 o 8 (mv 1),
 o 9 (len 8 40),
 o 10 (bo .neq (t 7) (t 9))])
(.cond (t 10)
(S (R [o 4 (ab false)])
(.ret [4]))
.skip))
(S (S (R [o 5 (an 0)])
(.block 0 (.loop [0, 1, 5] c83_1)))
(S (R [o 4 (ab true)])
(.ret [4])))))
def g83 : IFn := ⟨26, [.tmp 4], [4], c83, [], false, none⟩
/- 84 veil/veillaw0.SameWrites -/
def d84_1 : IR := D [o 17 (mv 0),
 o 18 (mv 5),
 o 19 (ia 42 17 18),
 o 20 (ld 65 19),
 o 21 (mv 1),
 o 22 (mv 5),
 o 23 (ia 42 21 22),
 o 24 (ld 65 23),
 o 25 (.binOp .neq 65 (.tmp 20) (.tmp 24) 65)] [[], [], [0, 1], [2], [], [], [4, 5], [6], [3, 7]]
def c84_1 : IR := (S (S (R [o 11 (mv 5),
 o 12 (mv 0),
 o 13 (len 12 42),
 o 14 (bo .lss (t 11) (t 13))])
(.cond (t 14)
.skip
(.exit 0 [])))
(S (.block 1 (S d84_1
(.cond (t 25)
(S (R [o 4 (ab false)])
(.ret [4]))
.skip)))
(R [o 15 (mv 5),
 o 16 (bo .add (t 15) (n 1)),
 o 5 (av 16)])))
def c84 : IR := (S (R [o 4 (ab false)])
(S (S (R [o 6 (mv 0),
 o 7 (len 6 42),
 o 8 (mv 1),
 o 9 (len 8 42),
 o 10 (bo .neq (t 7) (t 9))])
(.cond (t 10)
(S (R [o 4 (ab false)])
(.ret [4]))
.skip))
(S (S (R [o 5 (an 0)])
(.block 0 (.loop [0, 1, 5] c84_1)))
(S (R [o 4 (ab true)])
(.ret [4])))))
def g84 : IFn := ⟨26, [.tmp 4], [4], c84, [], false, none⟩
/- 85 veil/veillaw0.SpoilWords -/
def c85_1 : IR := (S (S (R [o 3 (mv 2),
 o 4 (mv 0),
 o 5 (len 4 22),
 o 6 (bo .lss (t 3) (t 5))])
(.cond (t 6)
.skip
(.exit 0 [])))
(S (.block 1 (R [o 9 (mv 0),
 o 10 (mv 2),
 o 11 (mv 0),
 o 12 (mv 2),
 o 13 (ia 22 11 12),
 o 14 (fa 54 13 0),
 o 15 (ld 3 14),
 o 16 (bo .xor (t 15) (n 90)),
 o 17 (ia 22 9 10),
 o 18 (fa 54 17 0),
 w (st 3 18 16)]))
(R [o 7 (mv 2),
 o 8 (bo .add (t 7) (n 1)),
 o 2 (av 8)])))
def c85 : IR := (S (R [o 2 (an 0)])
(.block 0 (.loop [0, 2] c85_1)))
def g85 : IFn := ⟨19, [], [], c85, [true], false, none⟩
/- 86 veil/veillaw0.SpoilInsts -/
def c86_1 : IR := (S (S (R [o 3 (mv 2),
 o 4 (mv 0),
 o 5 (len 4 40),
 o 6 (bo .lss (t 3) (t 5))])
(.cond (t 6)
.skip
(.exit 0 [])))
(S (.block 1 (R [o 9 (mv 0),
 o 10 (mv 2),
 o 11 (mv 0),
 o 12 (mv 2),
 o 13 (ia 40 11 12),
 o 14 (fa 57 13 1),
 o 15 (ld 3 14),
 o 16 (bo .xor (t 15) (n 90)),
 o 17 (ia 40 9 10),
 o 18 (fa 57 17 1),
 w (st 3 18 16)]))
(R [o 7 (mv 2),
 o 8 (bo .add (t 7) (n 1)),
 o 2 (av 8)])))
def c86 : IR := (S (R [o 2 (an 0)])
(.block 0 (.loop [0, 2] c86_1)))
def g86 : IFn := ⟨19, [], [], c86, [true], false, none⟩
/- 87 veil/veillaw0.SpoilReads -/
def c87_1 : IR := (S (S (R [o 3 (mv 2),
 o 4 (mv 0),
 o 5 (len 4 41),
 o 6 (bo .lss (t 3) (t 5))])
(.cond (t 6)
.skip
(.exit 0 [])))
(S (.block 1 (R [o 9 (mv 0),
 o 10 (mv 2),
 o 11 (mv 0),
 o 12 (mv 2),
 o 13 (ia 41 11 12),
 o 14 (fa 59 13 1),
 o 15 (ld 3 14),
 o 16 (bo .xor (t 15) (n 90)),
 o 17 (ia 41 9 10),
 o 18 (fa 59 17 1),
 w (st 3 18 16)]))
(R [o 7 (mv 2),
 o 8 (bo .add (t 7) (n 1)),
 o 2 (av 8)])))
def c87 : IR := (S (R [o 2 (an 0)])
(.block 0 (.loop [0, 2] c87_1)))
def g87 : IFn := ⟨19, [], [], c87, [true], false, none⟩
/- 88 veil/veillaw0.SpoilWrites -/
def c88_1 : IR := (S (S (R [o 3 (mv 2),
 o 4 (mv 0),
 o 5 (len 4 42),
 o 6 (bo .lss (t 3) (t 5))])
(.cond (t 6)
.skip
(.exit 0 [])))
(S (.block 1 (R [o 9 (mv 0),
 o 10 (mv 2),
 o 11 (mv 0),
 o 12 (mv 2),
 o 13 (ia 42 11 12),
 o 14 (fa 65 13 1),
 o 15 (ld 3 14),
 o 16 (bo .xor (t 15) (n 90)),
 o 17 (ia 42 9 10),
 o 18 (fa 65 17 1),
 w (st 3 18 16)]))
(R [o 7 (mv 2),
 o 8 (bo .add (t 7) (n 1)),
 o 2 (av 8)])))
def c88 : IR := (S (R [o 2 (an 0)])
(.block 0 (.loop [0, 2] c88_1)))
def g88 : IFn := ⟨19, [], [], c88, [true], false, none⟩
/- 89 veil/veilref1.WordMay -/
def c89 : IR := (S (R [z 1 (bx 54 0),
 o 2 (ab false)])
(S (R [o 3 (fa 54 1 0),
 o 4 (ld 3 3),
 o 5 (cl 127 #[(t 4)] #[3]),
 o 6 (mv 5),
 oT 7 (fa 54 1 1) 6,
 oT 8 (ld 3 7) 6,
 oT 9 (cl 91 #[(t 8)] #[3]) 6,
 o 10 (.pick (.tmp 6) (.tmp 9) (.const (.bool false))),
 o 11 (mv 10),
 oT 12 (fa 54 1 2) 11,
 oT 13 (ld 3 12) 11,
 oT 14 (cl 115 #[(t 13), (n 0), (n 255)] #[3, 3, 3]) 11,
 o 15 (.pick (.tmp 11) (.tmp 14) (.const (.bool false))),
 o 2 (av 15)])
(.ret [2])))
def g89 : IFn := ⟨16, [.tmp 2], [4], c89, [], false, none⟩
/- 90 veil/veilref1.wordName -/
def c90 : IR := (S (R [o 4 (ab false)])
(S (R [o 5 (mv 0),
 o 6 (cl 126 #[(t 5)] #[3]),
 o 7 (mv 6),
 oT 8 (mv 1) 7,
 oT 9 (cl 115 #[(t 8), (n 0), (n 3)] #[3, 3, 3]) 7,
 o 10 (.pick (.tmp 7) (.tmp 9) (.const (.bool false))),
 o 4 (av 10)])
(.ret [4])))
def g90 : IFn := ⟨11, [.tmp 4], [4], c90, [], false, none⟩
/- 91 veil/veilref1.ClockMay -/
def c91 : IR := (S (R [o 2 (ab false)])
(S (R [o 3 (mv 0),
 o 4 (cl 115 #[(t 3), (n 0), (n 65535)] #[3, 3, 3]),
 o 2 (av 4)])
(.ret [2])))
def g91 : IFn := ⟨5, [.tmp 2], [4], c91, [], false, none⟩
/- 92 veil/veilref1.There -/
def c92 : IR := (S (R [z 3 (bx 23 0),
 o 6 (ab false)])
(S (R [o 7 (mv 1),
 o 8 (cl 126 #[(t 7)] #[3]),
 o 9 (mv 8),
 oT 10 (mv 2) 9,
 oT 11 (bo .geq (t 10) (n 0)) 9,
 o 12 (.pick (.tmp 9) (.tmp 11) (.const (.bool false))),
 o 13 (mv 12),
 oT 14 (mv 2) 13,
 oT 15 (mv 1) 13,
 oT 16 (ia 23 3 15) 13,
 oT 17 (ld 22 16) 13,
 oT 18 (len 17 22) 13,
 oT 19 (bo .lss (t 14) (t 18)) 13,
 o 20 (.pick (.tmp 13) (.tmp 19) (.const (.bool false))),
 o 6 (av 20)])
(.ret [6])))
def g92 : IFn := ⟨21, [.tmp 6], [4], c92, [], false, none⟩
/- 93 veil/veilref1.NewArena -/
def d93_1 : IR := D [o 32 (mv 5),
 o 33 (mv 5),
 o 34 (ia 23 4 33),
 o 35 (ld 22 34),
 o 36 (mv 5),
 o 37 (ia 92 1 36),
 o 38 (ld 51 37),
 o 39 (mv 6),
 o 40 (ia 51 38 39),
 o 41 (ld 3 40),
 o 42 (.build 54 #[(0, (.tmp 41))]),
 o 43 (.buildSlice 22 1 #[(0, (.tmp 42))]),
 o 44 (.call { callee := (.builtin .append), args := #[(.tmp 35), (.tmp 43)], argTypes := #[22, 22] }),
 o 45 (ia 23 4 32),
 w (st 22 45 44)] [[], [], [1], [2], [], [4], [5], [], [6, 7], [8], [9], [10], [3, 11], [0, 0, 1, 2, 3, 4, 5, 6, 7, 8, 9, 10, 11, 12], [13, 12, 12, 0, 1, 2, 3, 4, 5, 6, 7, 8, 9, 10, 11, 12]]
def c93_1 : IR := (S (S (R [o 11 (mv 6),
 o 12 (mv 5),
 o 13 (ia 92 1 12),
 o 14 (ld 51 13),
 o 15 (len 14 51),
 o 16 (bo .lss (t 11) (t 15))])
(.cond (t 16)
.skip
(.exit 2 [1, 2, 4, 5])))
(S (.block 3 (S (S (R [o 19 (mv 6),
 o 20 (bo .geq (t 19) (n 4)),
 o 21 (mv 20),
 oF 22 (mv 5) 21,
 oF 23 (ia 92 1 22) 21,
 oF 24 (ld 51 23) 21,
 oF 25 (mv 6) 21,
 oF 26 (ia 51 24 25) 21,
 oF 27 (ld 3 26) 21,
 oF 28 (cl 127 #[(t 27)] #[3]) 21,
 oF 29 (.unOp .not 4 (.tmp 28)) 21,
 o 30 (.pick (.tmp 21) (.const (.bool true)) (.tmp 29))])
(.cond (t 30)
(S (R [o 31 (.build 23 #[]),
 w (st 23 2 31),
 o 3 (an 400)])
(.ret [2, 3]))
.skip))
d93_1))
(R [o 17 (mv 6),
 o 18 (bo .add (t 17) (n 1)),
 o 6 (av 18)])))
def c93_2 : IR := (S (S (R [o 7 (mv 5),
 o 8 (bo .lss (t 7) (n 4))])
(.cond (t 8)
.skip
(.exit 0 [2, 4])))
(S (.block 1 (S (R [o 6 (an 0)])
(.block 2 (.loop [1, 2, 4, 5, 6] c93_1))))
(R [o 9 (mv 5),
 o 10 (bo .add (t 9) (n 1)),
 o 5 (av 10)])))
def c93 : IR := (S (R [z 1 (bx 92 0),
 o 2 (al 23),
 o 3 (an 0)])
(S (R [o 4 (al 23)])
(S (S (R [o 5 (an 0)])
(.block 0 (.loop [1, 2, 4, 5] c93_2)))
(S (R [o 46 (ld 23 4),
 w (st 23 2 46),
 o 3 (an 0)])
(.ret [2, 3])))))
def g93 : IFn := ⟨47, [.cell 2 23, .tmp 3], [23, 3], c93, [], false, none⟩
/- 94 veil/veilref11.NewSession -/
def d94_1 : IR := D [o 8 (fa 94 1 0),
 o 9 (ld 3 8),
 o 10 (fa 94 1 1),
 o 11 (ld 3 10),
 o 12 (fa 94 1 2),
 o 13 (ld 3 12),
 o 14 (.buildSlice 40 0 #[]),
 o 15 (fa 94 1 3),
 o 16 (ld 40 15),
 o 17 (.call { callee := (.builtin .append), args := #[(.tmp 14), (.tmp 16)], argTypes := #[40, 40] }),
 o 18 (.build 44 #[(0, (.tmp 9)), (1, (.tmp 11)), (2, (.tmp 13)), (3, (.tmp 17))]),
 w (st 44 2 18),
 o 3 (an 0)] [[], [0], [], [2], [], [4], [], [], [7], [6, 8], [1, 3, 5, 9], [10, 9, 0, 1, 2, 3, 4, 5, 6, 7, 8, 9, 10], [11, 0, 1, 2, 3, 4, 5, 6, 7, 8, 9, 10, 11]]
def c94 : IR := (S (R [z 1 (bx 94 0),
 o 2 (al 44),
 o 3 (an 0)])
(S (S (R [o 4 (ld 94 1),
 o 5 (cl 128 #[(t 4)] #[94]),
 o 6 (.unOp .not 4 (.tmp 5))])
(.cond (t 6)
(S (R [o 7 (.build 44 #[]),
 w (st 44 2 7),
 o 3 (an 1100)])
(.ret [2, 3]))
.skip))
(S d94_1
(.ret [2, 3]))))
def g94 : IFn := ⟨19, [.cell 2 44, .tmp 3], [44, 3], c94, [], false, none⟩
/- 95 veil/veilref11.Drift -/
def d95_1 : IR := D [o 29 (fa 44 8 1),
 o 30 (ld 3 29),
 o 31 (fa 44 8 3),
 o 32 (ld 40 31),
 o 33 (fa 44 8 5),
 o 34 (ld 3 33),
 o 35 (ia 40 32 34),
 o 36 (fa 57 35 2),
 o 37 (ld 3 36),
 o 38 (bo .or (t 30) (t 37)),
 o 9 (av 38)] [[], [0], [], [2], [], [4], [3, 5], [6], [7], [1, 8], [9, 0, 1, 2, 3, 4, 5, 6, 7, 8, 9]]
def c95 : IR := (S (R [z 2 (bx 28 0),
 o 4 (al 28),
 o 5 (an 0)])
(S (R [o 12 (ld 28 2),
 o 13 (mv 1),
 o 14 (cl 66 #[(t 12), (t 13)] #[28, 3]),
 o 11 (mv 14),
 o 15 (xt 11 0),
 o 16 (xt 11 1),
 o 6 (av 15),
 o 7 (av 16)])
(S (S (R [o 17 (mv 7),
 o 18 (bo .neq (t 17) (n 0)),
 o 19 (mv 18),
 oF 20 (mv 6) 19,
 oF 21 (.unOp .not 4 (.tmp 20)) 19,
 o 22 (.pick (.tmp 19) (.const (.bool true)) (.tmp 21))])
(.cond (t 22)
(S (R [o 23 (.build 28 #[]),
 w (st 28 4 23),
 o 5 (an 1400)])
(.ret [4, 5]))
.skip))
(S (R [o 24 (fa 28 2 3),
 o 25 (ld 25 24),
 o 26 (mv 1),
 o 27 (ia 25 25 26),
 o 28 (ld 44 27),
 o 8 (al 44),
 w (st 44 8 28)])
(S d95_1
(S (S (R [o 39 (mv 9),
 o 40 (fa 44 8 2),
 o 41 (ld 3 40),
 o 42 (cl 113 #[(t 39), (t 41)] #[3, 3]),
 o 43 (.unOp .not 4 (.tmp 42))])
(.cond (t 43)
(S (R [o 44 (ld 28 2),
 o 45 (mv 1),
 o 46 (cl 98 #[(t 44), (t 45), (n 4), (n 0)] #[28, 3, 3, 3]),
 o 47 (xt 46 0),
 o 48 (xt 46 1),
 w (st 28 4 47),
 o 5 (av 48)])
(.ret [4, 5]))
.skip))
(S (R [o 49 (ld 28 2),
 o 50 (cl 45 #[(t 49)] #[28]),
 o 51 (mv 1),
 o 52 (mv 9),
 o 53 (cl 46 #[(t 50), (t 51), (n 2), (t 52)] #[28, 3, 3, 3]),
 o 10 (al 28),
 w (st 28 10 53)])
(S (R [o 54 (fa 28 10 3),
 o 55 (ld 25 54),
 o 56 (mv 1),
 o 57 (mv 9),
 o 58 (ia 25 55 56),
 o 59 (fa 44 58 1),
 w (st 3 59 57)])
(S (R [o 60 (ld 28 10),
 w (st 28 4 60),
 o 5 (an 0)])
(.ret [4, 5]))))))))))
def g95 : IFn := ⟨61, [.cell 4 28, .tmp 5], [28, 3], c95, [], false, none⟩
/- 96 veil/veilref11.Store -/
def d96_1 : IR := D [o 34 (fa 44 6 8),
 o 35 (ld 42 34),
 o 36 (fa 57 7 2),
 o 37 (ld 3 36),
 o 38 (fa 57 7 3),
 o 39 (ld 3 38),
 o 40 (fa 57 7 1),
 o 41 (ld 3 40),
 o 42 (fa 44 6 6),
 o 43 (ia 24 42 41),
 o 44 (ld 3 43),
 o 45 (.build 65 #[(0, (.tmp 37)), (1, (.tmp 39)), (2, (.tmp 44))]),
 o 46 (cl 129 #[(t 35), (t 45)] #[42, 65]),
 o 33 (mv 46),
 o 47 (xt 33 0),
 o 48 (xt 33 1),
 o 8 (av 47),
 o 9 (av 48)] [[], [0], [], [2], [], [4], [], [6], [], [8, 7], [9], [3, 5, 10], [1, 11], [12], [13], [13], [14, 12, 0, 1, 2, 3, 4, 5, 6, 7, 8, 9, 10, 11, 12, 13, 14], [15, 16, 0, 1, 2, 3, 4, 5, 6, 7, 8, 9, 10, 11, 12, 13, 14, 15, 16]]
def d96_2 : IR := D [o 69 (ld 28 10),
 o 70 (mv 1),
 o 71 (fa 57 7 1),
 o 72 (ld 3 71),
 o 73 (fa 44 6 6),
 o 74 (ia 24 73 72),
 o 75 (ld 3 74),
 o 76 (cl 46 #[(t 69), (t 70), (n 1), (t 75)] #[28, 3, 3, 3]),
 w (st 28 4 76),
 o 5 (an 0)] [[], [], [], [2], [], [4, 3], [5], [0, 1, 6], [7, 7, 0, 1, 2, 3, 4, 5, 6, 7], [8, 0, 1, 2, 3, 4, 5, 6, 7, 8]]
def c96 : IR := (S (R [z 2 (bx 28 0),
 o 4 (al 28),
 o 5 (an 0)])
(S (S (R [o 11 (ld 28 2),
 o 12 (mv 1),
 o 13 (cl 43 #[(t 11), (t 12)] #[28, 3]),
 o 14 (.unOp .not 4 (.tmp 13)),
 o 15 (mv 14),
 oF 16 (ld 28 2) 15,
 oF 17 (mv 1) 15,
 oF 18 (cl 44 #[(t 16), (t 17)] #[28, 3]) 15,
 oF 19 (bo .neq (t 18) (n 3)) 15,
 o 20 (.pick (.tmp 15) (.const (.bool true)) (.tmp 19))])
(.cond (t 20)
(S (R [o 21 (.build 28 #[]),
 w (st 28 4 21),
 o 5 (an 1600)])
(.ret [4, 5]))
.skip))
(S (R [o 22 (fa 28 2 3),
 o 23 (ld 25 22),
 o 24 (mv 1),
 o 25 (ia 25 23 24),
 o 26 (ld 44 25),
 o 6 (al 44),
 w (st 44 6 26)])
(S (R [o 27 (fa 44 6 3),
 o 28 (ld 40 27),
 o 29 (fa 44 6 5),
 o 30 (ld 3 29),
 o 31 (ia 40 28 30),
 o 32 (ld 57 31),
 o 7 (al 57),
 w (st 57 7 32)])
(S d96_1
(S (S (R [o 49 (mv 9),
 o 50 (bo .neq (t 49) (n 0))])
(.cond (t 50)
(S (R [o 51 (.build 28 #[]),
 w (st 28 4 51),
 o 5 (an 1600)])
(.ret [4, 5]))
.skip))
(S (R [o 52 (ld 28 2),
 o 53 (cl 45 #[(t 52)] #[28]),
 o 10 (al 28),
 w (st 28 10 53)])
(S (R [o 54 (fa 28 10 3),
 o 55 (ld 25 54),
 o 56 (mv 1),
 o 57 (mv 8),
 o 58 (ia 25 55 56),
 o 59 (fa 44 58 8),
 w (st 42 59 57)])
(S (R [o 60 (fa 28 10 3),
 o 61 (ld 25 60),
 o 62 (mv 1),
 o 63 (ia 25 61 62),
 o 64 (fa 44 63 5),
 o 65 (ld 3 64),
 o 66 (bo .add (t 65) (n 1)),
 o 67 (ia 25 61 62),
 o 68 (fa 44 67 5),
 w (st 3 68 66)])
(S d96_2
(.ret [4, 5])))))))))))
def g96 : IFn := ⟨77, [.cell 4 28, .tmp 5], [28, 3], c96, [], false, none⟩
/- 97 veil/veilref11.Calc -/
def d97_1 : IR := D [o 22 (fa 44 7 6),
 o 23 (ld 24 22),
 o 24 (fa 44 7 5),
 o 25 (ld 3 24),
 o 26 (bo .add (t 25) (n 1)),
 o 8 (al 24),
 w (st 24 8 23),
 o 9 (av 26)] [[], [0], [], [2], [3], [], [5, 1, 0, 1, 5], [4, 6, 0, 1, 2, 3, 4, 5, 6]]
def d97_2 : IR := D [o 34 (fa 44 7 6),
 o 35 (ld 24 34),
 o 36 (fa 44 7 3),
 o 37 (ld 40 36),
 o 38 (fa 44 7 5),
 o 39 (ld 3 38),
 o 40 (ia 40 37 39),
 o 41 (fa 57 40 1),
 o 42 (ld 3 41),
 o 43 (fa 44 7 3),
 o 44 (ld 40 43),
 o 45 (fa 44 7 5),
 o 46 (ld 3 45),
 o 47 (ia 40 44 46),
 o 48 (fa 57 47 2),
 o 49 (ld 3 48),
 o 50 (cl 130 #[(t 35), (t 42), (t 49)] #[24, 3, 3]),
 o 33 (mv 50),
 o 51 (xt 33 0),
 o 52 (xt 33 1),
 w (st 24 8 51)] [[], [0], [], [2], [], [4], [3, 5], [6], [7], [], [9], [], [11], [10, 12], [13], [14], [1, 8, 15], [16], [17], [17], [18, 16, 0, 1, 2, 3, 4, 5, 6, 7, 8, 9, 10, 11, 12, 13, 14, 15, 16, 17, 18]]
def d97_3 : IR := D [o 56 (fa 44 7 6),
 o 57 (ld 24 56),
 o 58 (fa 44 7 3),
 o 59 (ld 40 58),
 o 60 (fa 44 7 5),
 o 61 (ld 3 60),
 o 62 (ia 40 59 61),
 o 63 (fa 57 62 1),
 o 64 (ld 3 63),
 o 65 (fa 44 7 3),
 o 66 (ld 40 65),
 o 67 (fa 44 7 5),
 o 68 (ld 3 67),
 o 69 (ia 40 66 68),
 o 70 (fa 57 69 2),
 o 71 (ld 3 70),
 o 72 (cl 131 #[(t 57), (t 64), (t 71)] #[24, 3, 3]),
 o 55 (mv 72),
 o 73 (xt 55 0),
 o 74 (xt 55 1),
 w (st 24 8 73)] [[], [0], [], [2], [], [4], [3, 5], [6], [7], [], [9], [], [11], [10, 12], [13], [14], [1, 8, 15], [16], [17], [17], [18, 16, 0, 1, 2, 3, 4, 5, 6, 7, 8, 9, 10, 11, 12, 13, 14, 15, 16, 17, 18]]
def c97 : IR := (S (R [z 2 (bx 28 0),
 o 4 (al 28),
 o 5 (an 0)])
(S (S (R [o 10 (ld 28 2),
 o 11 (mv 1),
 o 12 (cl 43 #[(t 10), (t 11)] #[28, 3]),
 o 13 (.unOp .not 4 (.tmp 12))])
(.cond (t 13)
(S (R [o 14 (.build 28 #[]),
 w (st 28 4 14),
 o 5 (an 1700)])
(.ret [4, 5]))
.skip))
(S (R [o 15 (ld 28 2),
 o 16 (cl 45 #[(t 15)] #[28]),
 o 6 (al 28),
 w (st 28 6 16)])
(S (R [o 17 (fa 28 2 3),
 o 18 (ld 25 17),
 o 19 (mv 1),
 o 20 (ia 25 18 19),
 o 21 (ld 44 20),
 o 7 (al 44),
 w (st 44 7 21)])
(S d97_1
(S (S (R [o 27 (ld 28 2),
 o 28 (mv 1),
 o 29 (cl 44 #[(t 27), (t 28)] #[28, 3])])
(.block 0 (S (R [o 32 (bo .eql (t 29) (n 0)),
 o 31 (av 32)])
(.cond (t 31)
d97_2
(S (R [o 54 (bo .eql (t 29) (n 1)),
 o 53 (av 54)])
(.cond (t 53)
d97_3
(S (R [o 76 (bo .eql (t 29) (n 4)),
 o 75 (av 76)])
(.cond (t 75)
(S (R [o 77 (fa 44 7 3),
 o 78 (ld 40 77),
 o 79 (fa 44 7 5),
 o 80 (ld 3 79),
 o 81 (ia 40 78 80),
 o 82 (fa 57 81 1),
 o 83 (ld 3 82),
 o 84 (fa 44 7 6),
 o 85 (ia 24 84 83),
 o 86 (ld 3 85),
 o 87 (bo .eql (t 86) (n 0))])
(.cond (t 87)
(R [o 88 (fa 44 7 3),
 o 89 (ld 40 88),
 o 90 (fa 44 7 5),
 o 91 (ld 3 90),
 o 92 (ia 40 89 91),
 o 93 (fa 57 92 2),
 o 94 (ld 3 93),
 o 9 (av 94)])
.skip))
(S (R [o 30 (.build 28 #[]),
 w (st 28 4 30),
 o 5 (an 1700)])
(.ret [4, 5]))))))))))
(S (R [o 95 (fa 28 6 3),
 o 96 (ld 25 95),
 o 97 (mv 1),
 o 98 (ld 24 8),
 o 99 (ia 25 96 97),
 o 100 (fa 44 99 6),
 w (st 24 100 98)])
(S (R [o 101 (fa 28 6 3),
 o 102 (ld 25 101),
 o 103 (mv 1),
 o 104 (mv 9),
 o 105 (ia 25 102 103),
 o 106 (fa 44 105 5),
 w (st 3 106 104)])
(S (R [o 107 (ld 28 6),
 w (st 28 4 107),
 o 5 (an 0)])
(.ret [4, 5]))))))))))
def g97 : IFn := ⟨108, [.cell 4 28, .tmp 5], [28, 3], c97, [], false, none⟩
/- 98 veil/veilref11.End -/
def c98 : IR := (S (R [z 4 (bx 28 0),
 o 8 (al 28),
 o 9 (an 0)])
(S (S (R [o 11 (ld 28 4),
 o 12 (mv 1),
 o 13 (cl 43 #[(t 11), (t 12)] #[28, 3]),
 o 14 (.unOp .not 4 (.tmp 13)),
 o 15 (mv 14),
 oF 16 (mv 2) 15,
 oF 17 (cl 124 #[(t 16), (n 0), (n 5)] #[3, 3, 3]) 15,
 oF 18 (.unOp .not 4 (.tmp 17)) 15,
 o 19 (.pick (.tmp 15) (.const (.bool true)) (.tmp 18)),
 o 20 (mv 19),
 oF 21 (mv 3) 20,
 oF 22 (cl 127 #[(t 21)] #[3]) 20,
 oF 23 (.unOp .not 4 (.tmp 22)) 20,
 o 24 (.pick (.tmp 20) (.const (.bool true)) (.tmp 23))])
(.cond (t 24)
(S (R [o 25 (.build 28 #[]),
 w (st 28 8 25),
 o 9 (an 1300)])
(.ret [8, 9]))
.skip))
(S (R [o 26 (ld 28 4),
 o 27 (mv 1),
 o 28 (cl 82 #[(t 26), (t 27)] #[28, 3]),
 o 10 (al 28),
 w (st 28 10 28)])
(S (R [o 29 (fa 28 10 3),
 o 30 (ld 25 29),
 o 31 (mv 1),
 o 32 (ia 25 30 31),
 o 33 (fa 44 32 4),
 w (.store 3 (.tmp 33) (.const (.int .i64 6)))])
(S (R [o 34 (fa 28 10 3),
 o 35 (ld 25 34),
 o 36 (mv 1),
 o 37 (mv 2),
 o 38 (ia 25 35 36),
 o 39 (fa 44 38 12),
 w (st 3 39 37)])
(S (R [o 40 (fa 28 10 3),
 o 41 (ld 25 40),
 o 42 (mv 1),
 o 43 (mv 3),
 o 44 (ia 25 41 42),
 o 45 (fa 44 44 13),
 w (st 3 45 43)])
(S (R [o 46 (ld 28 10),
 o 47 (mv 1),
 o 48 (mv 2),
 o 49 (cl 46 #[(t 46), (t 47), (n 6), (t 48)] #[28, 3, 3, 3]),
 w (st 28 8 49),
 o 9 (an 0)])
(.ret [8, 9]))))))))
def g98 : IFn := ⟨50, [.cell 8 28, .tmp 9], [28, 3], c98, [], false, none⟩
/- 99 veil/veilref1.WritesAt -/
def c99_1 : IR := (S (S (R [o 6 (mv 5),
 o 7 (mv 0),
 o 8 (len 7 42),
 o 9 (bo .lss (t 6) (t 8))])
(.cond (t 9)
.skip
(.exit 0 [0])))
(S (.block 1 (S (R [o 12 (mv 0),
 o 13 (mv 5),
 o 14 (ia 42 12 13),
 o 15 (fa 65 14 0),
 o 16 (ld 3 15),
 o 17 (mv 1),
 o 18 (bo .neq (t 16) (t 17))])
(.cond (t 18)
(S (R [o 4 (ab false)])
(.ret [4]))
.skip)))
(R [o 10 (mv 5),
 o 11 (bo .add (t 10) (n 1)),
 o 5 (av 11)])))
def c99 : IR := (S (R [o 4 (ab false)])
(S (S (R [o 5 (an 0)])
(.block 0 (.loop [0, 1, 5] c99_1)))
(S (R [o 19 (mv 0),
 o 20 (cl 114 #[(t 19)] #[42]),
 o 4 (av 20)])
(.ret [4]))))
def g99 : IFn := ⟨21, [.tmp 4], [4], c99, [], false, none⟩
/- 100 veil/veilref11.left -/
def d100_1 : IR := D [o 7 (ld 28 3),
 o 8 (mv 1),
 o 9 (cl 43 #[(t 7), (t 8)] #[28, 3]),
 o 10 (mv 9),
 oT 11 (fa 28 3 3) 10,
 oT 12 (ld 25 11) 10,
 oT 13 (mv 1) 10,
 oT 14 (ia 25 12 13) 10,
 oT 15 (fa 44 14 4) 10,
 oT 16 (ld 3 15) 10,
 oT 17 (mv 2) 10,
 oT 18 (bo .eql (t 16) (t 17)) 10,
 o 19 (.pick (.tmp 10) (.tmp 18) (.const (.bool false))),
 o 20 (mv 19),
 oT 21 (fa 28 3 3) 20,
 oT 22 (ld 25 21) 20,
 oT 23 (mv 1) 20,
 oT 24 (ia 25 22 23) 20,
 oT 25 (fa 44 24 9) 20,
 oT 26 (ld 3 25) 20,
 oT 27 (fa 28 3 3) 20,
 oT 28 (ld 25 27) 20,
 oT 29 (mv 1) 20,
 oT 30 (ia 25 28 29) 20,
 oT 31 (fa 44 30 8) 20,
 oT 32 (ld 42 31) 20,
 oT 33 (len 32 42) 20,
 oT 34 (bo .lss (t 26) (t 33)) 20,
 o 35 (.pick (.tmp 20) (.tmp 34) (.const (.bool false))),
 o 6 (av 35)] [[], [], [0, 1], [2, 2], [3], [4, 3], [3], [5, 6, 3], [7, 3], [8, 3], [3], [9, 10, 3], [3, 11], [12, 3], [13], [14, 13], [13], [15, 16, 13], [17, 13], [18, 13], [13], [20, 13], [13], [21, 22, 13], [23, 13], [24, 13], [25, 13], [19, 26, 13], [13, 27], [28, 13, 0, 1, 2, 3, 4, 5, 6, 7, 8, 9, 10, 11, 12, 13, 14, 15, 16, 17, 18, 19, 20, 21, 22, 23, 24, 25, 26, 27, 28]]
def c100 : IR := (S (R [z 3 (bx 28 0),
 o 6 (ab false)])
(S d100_1
(.ret [6])))
def g100 : IFn := ⟨36, [.tmp 6], [4], c100, [], false, none⟩
/- 101 veil/veilref1.Lock -/
def c101 : IR := (S (R [o 2 (bx 54 0),
 o 4 (al 54),
 o 5 (an 0)])
(S (S (R [o 6 (ld 54 2),
 o 7 (cl 89 #[(t 6)] #[54]),
 o 8 (.unOp .not 4 (.tmp 7)),
 o 9 (mv 8),
 oF 10 (mv 1) 9,
 oF 11 (cl 70 #[(t 10)] #[3]) 9,
 oF 12 (.unOp .not 4 (.tmp 11)) 9,
 o 13 (.pick (.tmp 9) (.const (.bool true)) (.tmp 12))])
(.cond (t 13)
(S (R [o 14 (.build 54 #[]),
 w (st 54 4 14),
 o 5 (an 300)])
(.ret [4, 5]))
.skip))
(S (S (R [o 15 (fa 54 2 2),
 o 16 (ld 3 15),
 o 17 (bo .neq (t 16) (n 0))])
(.cond (t 17)
(S (R [o 18 (.build 54 #[]),
 w (st 54 4 18),
 o 5 (an 301)])
(.ret [4, 5]))
.skip))
(S (R [o 19 (mv 1),
 o 20 (bo .add (t 19) (n 1)),
 o 21 (fa 54 2 2),
 w (st 3 21 20)])
(S (R [o 22 (ld 54 2),
 w (st 54 4 22),
 o 5 (an 0)])
(.ret [4, 5]))))))
def g101 : IFn := ⟨23, [.cell 4 54, .tmp 5], [54, 3], c101, [], false, none⟩
/- 102 veil/veilref1.Next -/
def c102_1 : IR := (S (S (R [o 17 (mv 10),
 o 18 (bo .lss (t 17) (n 4))])
(.cond (t 18)
.skip
(.exit 0 [1, 2, 3, 6, 9])))
(S (.block 1 (R [o 21 (mv 9),
 o 22 (mv 21),
 oT 23 (mv 10) 22,
 oT 24 (ia 24 3 23) 22,
 oT 25 (ld 3 24) 22,
 oT 26 (cl 91 #[(t 25)] #[3]) 22,
 o 27 (.pick (.tmp 22) (.tmp 26) (.const (.bool false))),
 o 9 (av 27)]))
(R [o 19 (mv 10),
 o 20 (bo .add (t 19) (n 1)),
 o 10 (av 20)])))
def d102_1 : IR := D [o 42 (ld 24 3),
 o 43 (mv 1),
 o 44 (ia 24 3 43),
 o 45 (ld 3 44),
 w (st 24 6 42),
 o 7 (av 45),
 o 8 (an 0)] [[], [], [1], [2], [0, 0], [3, 4, 0, 1, 2, 3, 4], [5, 0, 1, 2, 3, 4, 5]]
def c102 : IR := (S (R [o 3 (bx 24 0),
 o 6 (al 24),
 o 7 (an 0),
 o 8 (an 0)])
(S (R [o 11 (mv 1),
 o 12 (cl 126 #[(t 11)] #[3]),
 o 13 (mv 12),
 oT 14 (mv 2) 13,
 oT 15 (cl 91 #[(t 14)] #[3]) 13,
 o 16 (.pick (.tmp 13) (.tmp 15) (.const (.bool false))),
 o 9 (av 16)])
(S (S (R [o 10 (an 0)])
(.block 0 (.loop [1, 2, 3, 6, 9, 10] c102_1)))
(S (S (R [o 28 (mv 9),
 o 29 (.unOp .not 4 (.tmp 28))])
(.cond (t 29)
(S (R [o 30 (.build 24 #[]),
 w (st 24 6 30),
 o 7 (an 0),
 o 8 (an 500)])
(.ret [6, 7, 8]))
.skip))
(S (S (R [o 31 (mv 1),
 o 32 (ia 24 3 31),
 o 33 (ld 3 32),
 o 34 (mv 2),
 o 35 (bo .geq (t 33) (t 34))])
(.cond (t 35)
(S (R [o 36 (.build 24 #[]),
 w (st 24 6 36),
 o 7 (an 0),
 o 8 (an 501)])
(.ret [6, 7, 8]))
.skip))
(S (R [o 37 (mv 1),
 o 38 (ia 24 3 37),
 o 39 (ld 3 38),
 o 40 (bo .add (t 39) (n 1)),
 o 41 (ia 24 3 37),
 w (st 3 41 40)])
(S d102_1
(.ret [6, 7, 8]))))))))
def g102 : IFn := ⟨46, [.cell 6 24, .tmp 7, .tmp 8], [24, 3, 3], c102, [], false, none⟩
/- 103 veil/veilref1.Write -/
def c103 : IR := (S (R [z 3 (bx 54 0),
 o 6 (al 54),
 o 7 (an 0)])
(S (R [o 9 (mv 1),
 o 10 (mv 2),
 o 11 (.build 54 #[(0, (.tmp 9)), (1, (.tmp 10))]),
 o 8 (al 54),
 w (st 54 8 11)])
(S (S (R [o 12 (ld 54 3),
 o 13 (cl 89 #[(t 12)] #[54]),
 o 14 (.unOp .not 4 (.tmp 13)),
 o 15 (mv 14),
 oF 16 (ld 54 8) 15,
 oF 17 (cl 89 #[(t 16)] #[54]) 15,
 oF 18 (.unOp .not 4 (.tmp 17)) 15,
 o 19 (.pick (.tmp 15) (.const (.bool true)) (.tmp 18))])
(.cond (t 19)
(S (R [o 20 (.build 54 #[]),
 w (st 54 6 20),
 o 7 (an 300)])
(.ret [6, 7]))
.skip))
(S (R [o 21 (ld 54 8),
 w (st 54 6 21),
 o 7 (an 0)])
(.ret [6, 7])))))
def g103 : IFn := ⟨22, [.cell 6 54, .tmp 7], [54, 3], c103, [], false, none⟩
/- 104 veil/label.Under -/
def c104 : IR := (S (R [o 4 (ab false)])
(S (R [o 5 (mv 0),
 o 6 (mv 1),
 o 7 (bo .or (t 5) (t 6)),
 o 8 (mv 1),
 o 9 (bo .eql (t 7) (t 8)),
 o 4 (av 9)])
(.ret [4])))
def g104 : IFn := ⟨10, [.tmp 4], [4], c104, [], false, none⟩
/- 105 slices.BinarySearchFunc[[]veil/api.Write,veil/api.Write,veil/api.Write] -/
def d105_1 : IR := D [o 24 (mv 2),
 o 25 (mv 0),
 o 26 (mv 11),
 o 27 (ia 42 25 26),
 o 28 (ld 65 27),
 o 29 (ld 65 4),
 o 30 (.call { callee := (.value (.tmp 24)), args := #[(.tmp 28), (.tmp 29)], argTypes := #[65, 65] }),
 o 31 (bo .lss (t 30) (n 0))] [[], [], [], [1, 2], [3], [], [0, 4, 5], [6]]
def c105_1 : IR := (S (S (R [o 15 (mv 9),
 o 16 (mv 10),
 o 17 (bo .lss (t 15) (t 16))])
(.cond (t 17)
.skip
(.exit 0 [0, 2, 4, 8, 9])))
(.block 1 (S (R [o 18 (mv 9),
 o 19 (mv 10),
 o 20 (bo .add (t 18) (t 19)),
 o 21 (.convert 3 50 (.tmp 20)),
 o 22 (.binOp .shr 50 (.tmp 21) (.const (.int .u64 1)) 50),
 o 23 (.convert 50 3 (.tmp 22)),
 o 11 (av 23)])
(S d105_1
(.cond (t 31)
(R [o 32 (mv 11),
 o 33 (bo .add (t 32) (n 1)),
 o 9 (av 33)])
(R [o 34 (mv 11),
 o 10 (av 34)]))))))
def d105_2 : IR := D [o 35 (mv 9),
 o 36 (mv 9),
 o 37 (mv 8),
 o 38 (bo .lss (t 36) (t 37)),
 o 39 (mv 38),
 oT 40 (mv 2) 39,
 oT 41 (mv 0) 39,
 oT 42 (mv 9) 39,
 oT 43 (ia 42 41 42) 39,
 oT 44 (ld 65 43) 39,
 oT 45 (ld 65 4) 39,
 oT 46 (.call { callee := (.value (.tmp 40)), args := #[(.tmp 44), (.tmp 45)], argTypes := #[65, 65] }) 39,
 oT 47 (bo .eql (t 46) (n 0)) 39,
 o 48 (.pick (.tmp 39) (.tmp 47) (.const (.bool false))),
 o 6 (av 35),
 o 7 (av 48)] [[], [], [], [1, 2], [3], [4], [4], [4], [6, 7, 4], [8, 4], [4], [5, 9, 10, 4, 4], [11, 4], [4, 12], [0, 11, 0], [13, 14, 0, 1, 2, 3, 4, 5, 6, 7, 8, 9, 10, 11, 12, 13, 14]]
def c105 : IR := (S (R [z 4 (bx 65 1),
 o 6 (an 0),
 o 7 (ab false)])
(S (R [o 12 (mv 0),
 o 13 (len 12 42),
 o 8 (av 13)])
(S (R [o 14 (mv 8),
 o 9 (an 0),
 o 10 (av 14)])
(S (.block 0 (.loop [0, 2, 4, 8, 9, 10] c105_1))
(S d105_2
(.ret [6, 7]))))))
def g105 : IFn := ⟨49, [.tmp 6, .tmp 7], [3, 4], c105, [], false, none⟩
/- 106 veil/writeset.row -/
def c106 : IR := (S (R [z 2 (bx 65 0),
 z 3 (bx 65 1),
 o 4 (an 0)])
(S (R [o 5 (fa 65 2 0),
 o 6 (ld 3 5),
 o 7 (fa 65 3 0),
 o 8 (ld 3 7),
 o 9 (bo .sub (t 6) (t 8)),
 o 10 (fa 65 2 1),
 o 11 (ld 3 10),
 o 12 (fa 65 3 1),
 o 13 (ld 3 12),
 o 14 (bo .sub (t 11) (t 13)),
 o 15 (.buildSlice 51 2 #[(0, (.tmp 9)), (1, (.tmp 14))]),
 o 16 (cl 132 #[(t 15)] #[51]),
 o 4 (av 16)])
(.ret [4])))
def g106 : IFn := ⟨17, [.tmp 4], [3], c106, [], false, none⟩
/- 107 veil/writeset.May -/
def d107_1 : IR := D [o 12 (fa 65 4 0),
 o 13 (ld 3 12),
 o 14 (cl 133 #[(t 13)] #[3]),
 o 15 (.unOp .not 4 (.tmp 14)),
 o 16 (mv 15),
 oF 17 (fa 65 4 1) 16,
 oF 18 (ld 3 17) 16,
 oF 19 (cl 134 #[(t 18)] #[3]) 16,
 oF 20 (.unOp .not 4 (.tmp 19)) 16,
 o 21 (.pick (.tmp 16) (.const (.bool true)) (.tmp 20)),
 o 22 (mv 21),
 oF 23 (fa 65 4 2) 22,
 oF 24 (ld 3 23) 22,
 oF 25 (cl 135 #[(t 24)] #[3]) 22,
 oF 26 (.unOp .not 4 (.tmp 25)) 22,
 o 27 (.pick (.tmp 22) (.const (.bool true)) (.tmp 26)),
 o 28 (mv 27),
 oF 29 (mv 3) 28,
 oF 30 (bo .gtr (t 29) (n 0)) 28,
 oF 31 (mv 30) 28,
 oT 32 (mv 0) 31,
 oT 33 (mv 3) 31,
 oT 34 (bo .sub (t 33) (n 1)) 31,
 oT 35 (ia 42 32 34) 31,
 oT 36 (ld 65 35) 31,
 oT 37 (ld 65 4) 31,
 oT 38 (cl 106 #[(t 36), (t 37)] #[65, 65]) 31,
 oT 39 (bo .geq (t 38) (n 0)) 31,
 oF 40 (.pick (.tmp 31) (.tmp 39) (.const (.bool false))) 28,
 o 41 (.pick (.tmp 28) (.const (.bool true)) (.tmp 40))] [[], [0], [1], [2], [3, 2], [4], [5, 4], [6, 4, 4], [7, 4], [4, 8], [9, 7], [10], [11, 10], [12, 10, 10], [13, 10], [10, 14], [15, 13], [16], [17, 16], [18, 16, 16], [19], [19], [21, 19], [20, 22, 19], [23, 19], [19], [24, 25, 19, 19], [26, 19], [19, 27, 16], [16, 28]]
def c107_1 : IR := (S (R [o 8 (bo .lss (t 7) (t 6))])
(S (.cond (t 8)
.skip
(.exit 0 [0]))
(S (.block 1 (S (R [o 9 (mv 7),
 o 10 (ia 42 5 7),
 o 11 (ld 65 10),
 o 4 (al 65),
 o 3 (av 9),
 w (st 65 4 11)])
(S d107_1
(.cond (t 41)
(S (R [o 2 (ab false)])
(.ret [2]))
.skip))))
(R [o 42 (bo .add (t 7) (n 1)),
 o 7 (mv 42)]))))
def c107 : IR := (S (R [o 2 (ab false)])
(S (S (R [o 5 (mv 0),
 o 6 (len 5 42),
 o 7 (.move (.const (.int .i64 0)))])
(.block 0 (.loop [0, 5, 6, 7] c107_1)))
(S (R [o 43 (mv 0),
 o 44 (len 43 42),
 o 45 (bo .leq (t 44) (n 16)),
 o 2 (av 45)])
(.ret [2]))))
def g107 : IFn := ⟨46, [.tmp 2], [4], c107, [], false, none⟩
/- 108 veil/word.Id -/
def c108 : IR := (S (R [o 2 (ab false)])
(S (R [o 3 (mv 0),
 o 4 (cl 136 #[(t 3), (n 254)] #[3, 3]),
 o 2 (av 4)])
(.ret [2])))
def g108 : IFn := ⟨5, [.tmp 2], [4], c108, [], false, none⟩
/- 109 veil/readset.May -/
def d109_1 : IR := D [o 15 (fa 59 4 0),
 o 16 (ld 3 15),
 o 17 (cl 133 #[(t 16)] #[3]),
 o 18 (.unOp .not 4 (.tmp 17)),
 o 19 (mv 18),
 oF 20 (fa 59 4 1) 19,
 oF 21 (ld 3 20) 19,
 oF 22 (cl 134 #[(t 21)] #[3]) 19,
 oF 23 (.unOp .not 4 (.tmp 22)) 19,
 o 24 (.pick (.tmp 19) (.const (.bool true)) (.tmp 23)),
 o 25 (mv 24),
 oF 26 (fa 59 4 2) 25,
 oF 27 (ld 3 26) 25,
 oF 28 (cl 137 #[(t 27)] #[3]) 25,
 oF 29 (.unOp .not 4 (.tmp 28)) 25,
 o 30 (.pick (.tmp 25) (.const (.bool true)) (.tmp 29)),
 o 31 (mv 30),
 oF 32 (mv 0) 31,
 oF 33 (mv 3) 31,
 oF 34 (.slice 41 (.tmp 32) none (some (.tmp 33)) none) 31,
 oF 35 (ld 59 4) 31,
 oF 36 (cl 112 #[(t 35)] #[59]) 31,
 oF 37 (cl 111 #[(t 34), (t 36)] #[41, 143]) 31,
 o 38 (.pick (.tmp 31) (.const (.bool true)) (.tmp 37))] [[], [0], [1], [2], [3, 2], [4], [5, 4], [6, 4, 4], [7, 4], [4, 8], [9, 7], [10], [11, 10], [12, 10, 10], [13, 10], [10, 14], [15, 13], [16], [16], [17, 18, 16], [16], [20, 16, 16], [19, 21, 21, 16], [16, 22]]
def c109_1 : IR := (S (R [o 11 (bo .lss (t 10) (t 9))])
(S (.cond (t 11)
.skip
(.exit 0 []))
(S (.block 1 (S (R [o 12 (mv 10),
 o 13 (ia 41 8 10),
 o 14 (ld 59 13),
 o 4 (al 59),
 o 3 (av 12),
 w (st 59 4 14)])
(S d109_1
(.cond (t 38)
(S (R [o 2 (ab false)])
(.ret [2]))
.skip))))
(R [o 39 (bo .add (t 10) (n 1)),
 o 10 (mv 39)]))))
def c109 : IR := (S (R [o 2 (ab false)])
(S (S (R [o 5 (mv 0),
 o 6 (len 5 41),
 o 7 (bo .gtr (t 6) (n 16))])
(.cond (t 7)
(S (R [o 2 (ab false)])
(.ret [2]))
.skip))
(S (S (R [o 8 (mv 0),
 o 9 (len 8 41),
 o 10 (.move (.const (.int .i64 0)))])
(.block 0 (.loop [0, 8, 9, 10] c109_1)))
(S (R [o 2 (ab true)])
(.ret [2])))))
def g109 : IFn := ⟨40, [.tmp 2], [4], c109, [], false, none⟩
/- 110 slices.Clone[[]veil/api.Read,veil/api.Read] -/
def c110 : IR := (S (R [o 2 (.assign (.const (.slice none 0 0)))])
(S (S (R [o 3 (mv 0),
 o 4 (.binOp .eql 41 (.tmp 3) (.const (.slice none 0 0)) 41)])
(.cond (t 4)
(S (R [o 2 (.assign (.const (.slice none 0 0)))])
(.ret [2]))
.skip))
(S (R [o 5 (.buildSlice 41 0 #[]),
 o 6 (mv 0),
 o 7 (.call { callee := (.builtin .append), args := #[(.tmp 5), (.tmp 6)], argTypes := #[41, 41] }),
 o 2 (av 7)])
(.ret [2]))))
def g110 : IFn := ⟨8, [.tmp 2], [41], c110, [], false, some (3, 24)⟩
/- 111 slices.ContainsFunc[[]veil/api.Read,veil/api.Read] -/
def c111 : IR := (S (R [o 4 (ab false)])
(S (R [o 5 (mv 0),
 o 6 (mv 1),
 o 7 (cl 138 #[(t 5), (t 6)] #[41, 143]),
 o 8 (bo .geq (t 7) (n 0)),
 o 4 (av 8)])
(.ret [4])))
def g111 : IFn := ⟨9, [.tmp 4], [4], c111, [], false, none⟩
/- 112 veil/readset.of -/
def c112 : IR := (S (R [z 1 (bx 59 0),
 o 2 (.assign (.const .nilFunc))])
(S (R [o 3 (.makeFunc (Go.Fn.func 139) #[] #[(.tmp 1)]),
 o 2 (av 3)])
(.ret [2])))
def g112 : IFn := ⟨4, [.tmp 2], [143], c112, [], false, none⟩
/- 113 veil/veilref1.Under -/
def c113 : IR := (S (R [o 4 (ab false)])
(S (R [o 5 (mv 0),
 o 6 (mv 1),
 o 7 (bo .or (t 5) (t 6)),
 o 8 (mv 1),
 o 9 (bo .eql (t 7) (t 8)),
 o 4 (av 9)])
(.ret [4])))
def g113 : IFn := ⟨10, [.tmp 4], [4], c113, [], false, none⟩
/- 114 veil/veilref1.WritesMay -/
def d114_1 : IR := D [o 10 (mv 0),
 o 11 (mv 3),
 o 12 (ia 42 10 11),
 o 13 (fa 65 12 0),
 o 14 (ld 3 13),
 o 15 (mv 0),
 o 16 (mv 3),
 o 17 (ia 42 15 16),
 o 18 (fa 65 17 1),
 o 19 (ld 3 18),
 o 20 (cl 90 #[(t 14), (t 19)] #[3, 3]),
 o 21 (.unOp .not 4 (.tmp 20)),
 o 22 (mv 21),
 oF 23 (mv 0) 22,
 oF 24 (mv 3) 22,
 oF 25 (ia 42 23 24) 22,
 oF 26 (fa 65 25 2) 22,
 oF 27 (ld 3 26) 22,
 oF 28 (cl 127 #[(t 27)] #[3]) 22,
 oF 29 (.unOp .not 4 (.tmp 28)) 22,
 o 30 (.pick (.tmp 22) (.const (.bool true)) (.tmp 29)),
 o 31 (mv 30),
 oF 32 (mv 3) 31,
 oF 33 (bo .gtr (t 32) (n 0)) 31,
 oF 34 (mv 33) 31,
 oT 35 (mv 0) 34,
 oT 36 (mv 3) 34,
 oT 37 (ia 42 35 36) 34,
 oT 38 (fa 65 37 0) 34,
 oT 39 (ld 3 38) 34,
 oT 40 (mv 0) 34,
 oT 41 (mv 3) 34,
 oT 42 (ia 42 40 41) 34,
 oT 43 (fa 65 42 1) 34,
 oT 44 (ld 3 43) 34,
 oT 45 (cl 140 #[(t 39), (t 44)] #[3, 3]) 34,
 oT 46 (mv 0) 34,
 oT 47 (mv 3) 34,
 oT 48 (bo .sub (t 47) (n 1)) 34,
 oT 49 (ia 42 46 48) 34,
 oT 50 (fa 65 49 0) 34,
 oT 51 (ld 3 50) 34,
 oT 52 (mv 0) 34,
 oT 53 (mv 3) 34,
 oT 54 (bo .sub (t 53) (n 1)) 34,
 oT 55 (ia 42 52 54) 34,
 oT 56 (fa 65 55 1) 34,
 oT 57 (ld 3 56) 34,
 oT 58 (cl 140 #[(t 51), (t 57)] #[3, 3]) 34,
 oT 59 (bo .leq (t 45) (t 58)) 34,
 oF 60 (.pick (.tmp 34) (.tmp 59) (.const (.bool false))) 31,
 o 61 (.pick (.tmp 31) (.const (.bool true)) (.tmp 60))] [[], [], [0, 1], [2], [3], [], [], [5, 6], [7], [8], [4, 9], [10], [11, 10], [12], [12], [13, 14, 12], [15, 12], [16, 12], [17, 12, 12], [18, 12], [12, 19], [20, 18], [21], [22, 21], [23, 21, 21], [24], [24], [25, 26, 24], [27, 24], [28, 24], [24], [24], [30, 31, 24], [32, 24], [33, 24], [29, 34, 24, 24], [24], [24], [37, 24], [36, 38, 24], [39, 24], [40, 24], [24], [24], [43, 24], [42, 44, 24], [45, 24], [46, 24], [41, 47, 35, 24], [35, 48, 24], [24, 49, 21], [21, 50]]
def c114_1 : IR := (S (S (R [o 4 (mv 3),
 o 5 (mv 0),
 o 6 (len 5 42),
 o 7 (bo .lss (t 4) (t 6))])
(.cond (t 7)
.skip
(.exit 0 [0])))
(S (.block 1 (S d114_1
(.cond (t 61)
(S (R [o 2 (ab false)])
(.ret [2]))
.skip)))
(R [o 8 (mv 3),
 o 9 (bo .add (t 8) (n 1)),
 o 3 (av 9)])))
def c114 : IR := (S (R [o 2 (ab false)])
(S (S (R [o 3 (an 0)])
(.block 0 (.loop [0, 3] c114_1)))
(S (R [o 62 (mv 0),
 o 63 (len 62 42),
 o 64 (bo .leq (t 63) (n 16)),
 o 2 (av 64)])
(.ret [2]))))
def g114 : IFn := ⟨65, [.tmp 2], [4], c114, [], false, none⟩
/- 115 veil/veilref1.upTo -/
def c115 : IR := (S (R [o 6 (ab false)])
(S (R [o 7 (mv 0),
 o 8 (mv 1),
 o 9 (bo .geq (t 7) (t 8)),
 o 10 (mv 9),
 oT 11 (mv 0) 10,
 oT 12 (mv 2) 10,
 oT 13 (bo .leq (t 11) (t 12)) 10,
 o 14 (.pick (.tmp 10) (.tmp 13) (.const (.bool false))),
 o 6 (av 14)])
(.ret [6])))
def g115 : IFn := ⟨15, [.tmp 6], [4], c115, [], false, none⟩
/- 116 veil/mach.May -/
def d116_1 : IR := D [o 5 (fa 28 1 0),
 o 6 (ld 23 5),
 o 7 (cl 121 #[(t 6)] #[23]),
 o 8 (.unOp .not 4 (.tmp 7)),
 o 9 (mv 8),
 oF 10 (fa 28 1 1) 9,
 oF 11 (fa 28 1 2) 9,
 oF 12 (ld 3 11) 9,
 oF 13 (cl 141 #[(t 10), (t 12)] #[162, 3]) 9,
 oF 14 (.unOp .not 4 (.tmp 13)) 9,
 o 15 (.pick (.tmp 9) (.const (.bool true)) (.tmp 14)),
 o 16 (mv 15),
 oF 17 (fa 28 1 1) 16,
 oF 18 (.slice 24 (.tmp 17) none none none) 16,
 oF 19 (cl 142 #[(t 18)] #[51]) 16,
 oF 20 (fa 28 1 2) 16,
 oF 21 (ld 3 20) 16,
 oF 22 (bo .gtr (t 19) (t 21)) 16,
 o 23 (.pick (.tmp 16) (.const (.bool true)) (.tmp 22)),
 o 24 (mv 23),
 oF 25 (fa 28 1 3) 24,
 oF 26 (ld 25 25) 24,
 oF 27 (len 26 25) 24,
 oF 28 (bo .gtr (t 27) (n 4)) 24,
 o 29 (.pick (.tmp 24) (.const (.bool true)) (.tmp 28)),
 o 30 (mv 29),
 oF 31 (fa 28 1 4) 30,
 oF 32 (ld 26 31) 30,
 oF 33 (len 32 26) 30,
 oF 34 (bo .gtr (t 33) (n 512)) 30,
 o 35 (.pick (.tmp 30) (.const (.bool true)) (.tmp 34))] [[], [0], [1], [2], [3, 2], [4], [4], [6, 4], [5, 7, 4, 4], [8, 4], [4, 9], [10, 8], [11], [12, 11], [13, 11, 11], [11], [15, 11], [14, 16, 11], [11, 17], [18, 14], [19], [20, 19], [21, 19], [22, 19], [19, 23], [24, 19], [25], [26, 25], [27, 25], [28, 25], [25, 29]]
def d116_2 : IR := D [o 42 (mv 3),
 o 43 (bo .gtr (t 42) (n 0)),
 o 44 (mv 43),
 oT 45 (fa 28 1 3) 44,
 oT 46 (ld 25 45) 44,
 oT 47 (mv 3) 44,
 oT 48 (bo .sub (t 47) (n 1)) 44,
 oT 49 (ia 25 46 48) 44,
 oT 50 (fa 44 49 0) 44,
 oT 51 (ld 3 50) 44,
 oT 52 (fa 28 1 3) 44,
 oT 53 (ld 25 52) 44,
 oT 54 (mv 3) 44,
 oT 55 (ia 25 53 54) 44,
 oT 56 (fa 44 55 0) 44,
 oT 57 (ld 3 56) 44,
 oT 58 (bo .geq (t 51) (t 57)) 44,
 o 59 (.pick (.tmp 44) (.tmp 58) (.const (.bool false)))] [[], [0], [1], [2], [3, 2], [2], [5, 2], [4, 6, 2], [7, 2], [8, 2], [2], [10, 2], [2], [11, 12, 2], [13, 2], [14, 2], [9, 15, 2], [2, 16]]
def c116_1 : IR := (S (R [o 40 (bo .lss (t 39) (t 38))])
(S (.cond (t 40)
.skip
(.exit 0 [1]))
(S (.block 1 (S (R [o 41 (mv 39),
 o 3 (av 41)])
(S d116_2
(.cond (t 59)
(S (R [o 2 (ab false)])
(.ret [2]))
.skip))))
(R [o 60 (bo .add (t 39) (n 1)),
 o 39 (mv 60)]))))
def c116 : IR := (S (R [z 1 (bx 28 0),
 o 2 (ab false)])
(S (S d116_1
(.cond (t 35)
(S (R [o 2 (ab false)])
(.ret [2]))
.skip))
(S (S (R [o 36 (fa 28 1 3),
 o 37 (ld 25 36),
 o 38 (len 37 25),
 o 39 (.move (.const (.int .i64 0)))])
(.block 0 (.loop [1, 38, 39] c116_1)))
(S (R [o 4 (.assign (.func 143))])
(S (R [o 61 (fa 28 1 3),
 o 62 (ld 25 61),
 o 63 (fa 28 1 0),
 o 64 (.build 168 #[(0, (.tmp 63))]),
 o 65 (.makeFunc (Go.Fn.func 145) #[(.tmp 64)] #[]),
 o 66 (cl 144 #[(t 62), (t 65)] #[25, 166]),
 o 67 (mv 66),
 oT 68 (fa 28 1 4) 67,
 oT 69 (ld 26 68) 67,
 oT 70 (mv 4) 67,
 oT 71 (cl 146 #[(t 69), (t 70)] #[26, 164]) 67,
 o 72 (.pick (.tmp 67) (.tmp 71) (.const (.bool false))),
 o 2 (av 72)])
(.ret [2]))))))
def g116 : IFn := ⟨73, [.tmp 2], [4], c116, [], false, none⟩
/- 117 slices.Index[[]int,int] -/
def c117_1 : IR := (S (R [o 9 (bo .lss (t 8) (t 7))])
(S (.cond (t 9)
.skip
(.exit 0 []))
(S (.block 1 (S (R [o 10 (mv 8),
 o 5 (av 10)])
(S (R [o 11 (mv 1),
 o 12 (mv 0),
 o 13 (mv 5),
 o 14 (ia 51 12 13),
 o 15 (ld 3 14),
 o 16 (bo .eql (t 11) (t 15))])
(.cond (t 16)
(S (R [o 17 (mv 5),
 o 4 (av 17)])
(.ret [4]))
.skip))))
(R [o 18 (bo .add (t 8) (n 1)),
 o 8 (mv 18)]))))
def c117 : IR := (S (R [o 4 (an 0)])
(S (S (R [o 6 (mv 0),
 o 7 (len 6 51),
 o 8 (.move (.const (.int .i64 0)))])
(.block 0 (.loop [0, 1, 7, 8] c117_1)))
(S (R [o 4 (an (-1))])
(.ret [4]))))
def g117 : IFn := ⟨19, [.tmp 4], [3], c117, [], false, none⟩
/- 118 slices.Clone[[]veil/api.Word,veil/api.Word] -/
def c118 : IR := (S (R [o 2 (.assign (.const (.slice none 0 0)))])
(S (S (R [o 3 (mv 0),
 o 4 (.binOp .eql 22 (.tmp 3) (.const (.slice none 0 0)) 22)])
(.cond (t 4)
(S (R [o 2 (.assign (.const (.slice none 0 0)))])
(.ret [2]))
.skip))
(S (R [o 5 (.buildSlice 22 0 #[]),
 o 6 (mv 0),
 o 7 (.call { callee := (.builtin .append), args := #[(.tmp 5), (.tmp 6)], argTypes := #[22, 22] }),
 o 2 (av 7)])
(.ret [2]))))
def g118 : IFn := ⟨8, [.tmp 2], [22], c118, [], false, some (3, 24)⟩
/- 119 slices.Clone[[]veil/api.Inst,veil/api.Inst] -/
def c119 : IR := (S (R [o 2 (.assign (.const (.slice none 0 0)))])
(S (S (R [o 3 (mv 0),
 o 4 (.binOp .eql 40 (.tmp 3) (.const (.slice none 0 0)) 40)])
(.cond (t 4)
(S (R [o 2 (.assign (.const (.slice none 0 0)))])
(.ret [2]))
.skip))
(S (R [o 5 (.buildSlice 40 0 #[]),
 o 6 (mv 0),
 o 7 (.call { callee := (.builtin .append), args := #[(.tmp 5), (.tmp 6)], argTypes := #[40, 40] }),
 o 2 (av 7)])
(.ret [2]))))
def g119 : IFn := ⟨8, [.tmp 2], [40], c119, [], false, some (4, 32)⟩
/- 120 slices.Clone[[]veil/api.Write,veil/api.Write] -/
def c120 : IR := (S (R [o 2 (.assign (.const (.slice none 0 0)))])
(S (S (R [o 3 (mv 0),
 o 4 (.binOp .eql 42 (.tmp 3) (.const (.slice none 0 0)) 42)])
(.cond (t 4)
(S (R [o 2 (.assign (.const (.slice none 0 0)))])
(.ret [2]))
.skip))
(S (R [o 5 (.buildSlice 42 0 #[]),
 o 6 (mv 0),
 o 7 (.call { callee := (.builtin .append), args := #[(.tmp 5), (.tmp 6)], argTypes := #[42, 42] }),
 o 2 (av 7)])
(.ret [2]))))
def g120 : IFn := ⟨8, [.tmp 2], [42], c120, [], false, some (3, 24)⟩
/- 121 veil/arena.May -/
def c121_1 : IR := (S (R [o 8 (bo .lss (t 7) (n 4))])
(S (.cond (t 8)
.skip
(.exit 0 []))
(S (.block 1 (S (R [o 9 (.index 23 (.tmp 6) (.tmp 7)),
 o 5 (av 9)])
(S (R [o 10 (mv 5),
 o 11 (len 10 22),
 o 12 (bo .gtr (t 11) (n 4)),
 o 13 (mv 12),
 oF 14 (mv 5) 13,
 oF 15 (mv 3) 13,
 oF 16 (cl 149 #[(t 14), (t 15)] #[22, 124]) 13,
 o 17 (.pick (.tmp 13) (.const (.bool true)) (.tmp 16))])
(.cond (t 17)
(S (R [o 2 (ab false)])
(.ret [2]))
.skip))))
(R [o 18 (bo .add (t 7) (n 1)),
 o 7 (mv 18)]))))
def c121 : IR := (S (R [z 1 (bx 23 0),
 o 2 (ab false)])
(S (R [o 3 (.assign (.func 147))])
(S (S (R [o 6 (ld 23 1),
 o 7 (.move (.const (.int .i64 0)))])
(.block 0 (.loop [3, 6, 7] c121_1)))
(S (R [o 2 (ab true)])
(.ret [2])))))
def g121 : IFn := ⟨19, [.tmp 2], [4], c121, [], false, none⟩
/- 122 veil/arena.There -/
def c122 : IR := (S (R [o 6 (ab false)])
(S (R [o 7 (mv 1),
 o 8 (cl 133 #[(t 7)] #[3]),
 o 9 (mv 8),
 oT 10 (mv 2) 9,
 oT 11 (bo .geq (t 10) (n 0)) 9,
 o 12 (.pick (.tmp 9) (.tmp 11) (.const (.bool false))),
 o 13 (mv 12),
 oT 14 (mv 2) 13,
 oT 15 (mv 0) 13,
 oT 16 (mv 1) 13,
 oT 17 (nc 15) 13,
 oT 18 (ia 23 17 16) 13,
 oT 19 (ld 22 18) 13,
 oT 20 (len 19 22) 13,
 oT 21 (bo .lss (t 14) (t 20)) 13,
 o 22 (.pick (.tmp 13) (.tmp 21) (.const (.bool false))),
 o 6 (av 22)])
(.ret [6])))
def g122 : IFn := ⟨23, [.tmp 6], [4], c122, [], false, none⟩
/- 123 veil/undo.free -/
def c123_1 : IR := (S (S (R [o 7 (mv 5),
 o 8 (mv 0),
 o 9 (mv 4),
 o 10 (nc 8),
 o 11 (fa 28 10 0),
 o 12 (ia 23 11 9),
 o 13 (ld 22 12),
 o 14 (len 13 22),
 o 15 (bo .lss (t 7) (t 14))])
(.cond (t 15)
.skip
(.exit 0 [0, 1, 4])))
(.block 1 (S (S (R [o 16 (mv 0),
 o 17 (mv 4),
 o 18 (nc 16),
 o 19 (fa 28 18 0),
 o 20 (ia 23 19 17),
 o 21 (ld 22 20),
 o 22 (mv 5),
 o 23 (ia 22 21 22),
 o 6 (av 23)])
(S (R [o 24 (mv 6),
 o 25 (nc 24),
 o 26 (fa 54 25 2),
 o 27 (ld 3 26),
 o 28 (mv 1),
 o 29 (bo .add (t 28) (n 1)),
 o 30 (bo .eql (t 27) (t 29))])
(.cond (t 30)
(R [o 31 (mv 6),
 o 32 (nc 31),
 o 33 (fa 54 32 2),
 w (.store 3 (.tmp 33) (.const (.int .i64 0)))])
.skip)))
(R [o 34 (mv 5),
 o 35 (bo .add (t 34) (n 1)),
 o 5 (av 35)]))))
def c123_2 : IR := (S (R [o 4 (an 0),
 o 5 (an 0)])
(S (.label 0)
(S (.block 0 (.loop [0, 1, 4, 5] c123_1))
(S (R [o 36 (mv 4),
 o 37 (bo .add (t 36) (n 1)),
 o 4 (av 37)])
(S (R [o 38 (mv 4),
 o 39 (bo .lss (t 38) (n 4))])
(.cond (t 39)
(S (R [o 5 (an 0)])
(.goto 0))
.skip))))))
def c123 : IR := (.scope [0, 1, 4, 5] c123_2)
def g123 : IFn := ⟨40, [], [], c123, [], true, none⟩
/- 124 veil/veilref11.upTo -/
def c124 : IR := (S (R [o 6 (ab false)])
(S (R [o 7 (mv 0),
 o 8 (mv 1),
 o 9 (bo .geq (t 7) (t 8)),
 o 10 (mv 9),
 oT 11 (mv 0) 10,
 oT 12 (mv 2) 10,
 oT 13 (bo .leq (t 11) (t 12)) 10,
 o 14 (.pick (.tmp 10) (.tmp 13) (.const (.bool false))),
 o 6 (av 14)])
(.ret [6])))
def g124 : IFn := ⟨15, [.tmp 6], [4], c124, [], false, none⟩
/- 125 veil/veilref11.sessionMay -/
def c125 : IR := (S (R [z 2 (bx 28 0),
 z 3 (bx 44 1),
 o 4 (ab false)])
(S (S (R [o 5 (fa 44 3 0),
 o 6 (ld 3 5),
 o 7 (fa 44 3 1),
 o 8 (ld 3 7),
 o 9 (fa 44 3 2),
 o 10 (ld 3 9),
 o 11 (fa 44 3 3),
 o 12 (ld 40 11),
 o 13 (.build 94 #[(0, (.tmp 6)), (1, (.tmp 8)), (2, (.tmp 10)), (3, (.tmp 12))]),
 o 14 (cl 128 #[(t 13)] #[94]),
 o 15 (.unOp .not 4 (.tmp 14)),
 o 16 (mv 15),
 oF 17 (fa 28 2 0) 16,
 oF 18 (ld 23 17) 16,
 oF 19 (ld 44 3) 16,
 oF 20 (cl 150 #[(t 18), (t 19)] #[23, 44]) 16,
 oF 21 (.unOp .not 4 (.tmp 20)) 16,
 o 22 (.pick (.tmp 16) (.const (.bool true)) (.tmp 21))])
(.cond (t 22)
(S (R [o 4 (ab false)])
(.ret [4]))
.skip))
(S (S (R [o 23 (fa 44 3 4),
 o 24 (ld 3 23),
 o 25 (cl 124 #[(t 24), (n 0), (n 6)] #[3, 3, 3]),
 o 26 (.unOp .not 4 (.tmp 25)),
 o 27 (mv 26),
 oF 28 (fa 44 3 5) 27,
 oF 29 (ld 3 28) 27,
 oF 30 (fa 44 3 3) 27,
 oF 31 (ld 40 30) 27,
 oF 32 (len 31 40) 27,
 oF 33 (cl 124 #[(t 29), (n 0), (t 32)] #[3, 3, 3]) 27,
 oF 34 (.unOp .not 4 (.tmp 33)) 27,
 o 35 (.pick (.tmp 27) (.const (.bool true)) (.tmp 34)),
 o 36 (mv 35),
 oF 37 (fa 44 3 6) 36,
 oF 38 (ld 24 37) 36,
 oF 39 (cl 151 #[(t 38)] #[24]) 36,
 oF 40 (.unOp .not 4 (.tmp 39)) 36,
 o 41 (.pick (.tmp 36) (.const (.bool true)) (.tmp 40)),
 o 42 (mv 41),
 oF 43 (fa 44 3 7) 42,
 oF 44 (ld 41 43) 42,
 oF 45 (cl 54 #[(t 44)] #[41]) 42,
 oF 46 (.unOp .not 4 (.tmp 45)) 42,
 o 47 (.pick (.tmp 42) (.const (.bool true)) (.tmp 46)),
 o 48 (mv 47),
 oF 49 (fa 44 3 8) 48,
 oF 50 (ld 42 49) 48,
 oF 51 (cl 114 #[(t 50)] #[42]) 48,
 oF 52 (.unOp .not 4 (.tmp 51)) 48,
 o 53 (.pick (.tmp 48) (.const (.bool true)) (.tmp 52))])
(.cond (t 53)
(S (R [o 4 (ab false)])
(.ret [4]))
.skip))
(S (R [o 54 (fa 44 3 9),
 o 55 (ld 3 54),
 o 56 (fa 44 3 8),
 o 57 (ld 42 56),
 o 58 (len 57 42),
 o 59 (cl 124 #[(t 55), (n 0), (t 58)] #[3, 3, 3]),
 o 60 (mv 59),
 oT 61 (fa 44 3 10) 60,
 oT 62 (ld 3 61) 60,
 oT 63 (cl 91 #[(t 62)] #[3]) 60,
 o 64 (.pick (.tmp 60) (.tmp 63) (.const (.bool false))),
 o 65 (mv 64),
 oT 66 (fa 44 3 11) 65,
 oT 67 (ld 3 66) 65,
 oT 68 (cl 91 #[(t 67)] #[3]) 65,
 o 69 (.pick (.tmp 65) (.tmp 68) (.const (.bool false))),
 o 70 (mv 69),
 oT 71 (fa 44 3 12) 70,
 oT 72 (ld 3 71) 70,
 oT 73 (cl 124 #[(t 72), (n 0), (n 5)] #[3, 3, 3]) 70,
 o 74 (.pick (.tmp 70) (.tmp 73) (.const (.bool false))),
 o 75 (mv 74),
 oT 76 (fa 44 3 13) 75,
 oT 77 (ld 3 76) 75,
 oT 78 (cl 127 #[(t 77)] #[3]) 75,
 o 79 (.pick (.tmp 75) (.tmp 78) (.const (.bool false))),
 o 4 (av 79)])
(.ret [4])))))
def g125 : IFn := ⟨80, [.tmp 4], [4], c125, [], false, none⟩
/- 126 veil/veilref1.LabelMay -/
def c126 : IR := (S (R [o 2 (ab false)])
(S (R [o 3 (mv 0),
 o 4 (cl 115 #[(t 3), (n 0), (n 3)] #[3, 3, 3]),
 o 2 (av 4)])
(.ret [2])))
def g126 : IFn := ⟨5, [.tmp 2], [4], c126, [], false, none⟩
/- 127 veil/veilref1.ValueMay -/
def c127 : IR := (S (R [o 2 (ab false)])
(S (R [o 3 (mv 0),
 o 4 (cl 115 #[(t 3), (n 0), (n 255)] #[3, 3, 3]),
 o 2 (av 4)])
(.ret [2])))
def g127 : IFn := ⟨5, [.tmp 2], [4], c127, [], false, none⟩
/- 128 veil/veilref11.StartMay -/
def c128 : IR := (S (R [z 1 (bx 94 0),
 o 2 (ab false)])
(S (R [o 3 (fa 94 1 0),
 o 4 (ld 3 3),
 o 5 (cl 70 #[(t 4)] #[3]),
 o 6 (mv 5),
 oT 7 (fa 94 1 1) 6,
 oT 8 (ld 3 7) 6,
 oT 9 (cl 126 #[(t 8)] #[3]) 6,
 o 10 (.pick (.tmp 6) (.tmp 9) (.const (.bool false))),
 o 11 (mv 10),
 oT 12 (fa 94 1 2) 11,
 oT 13 (ld 3 12) 11,
 oT 14 (cl 126 #[(t 13)] #[3]) 11,
 o 15 (.pick (.tmp 11) (.tmp 14) (.const (.bool false))),
 o 16 (mv 15),
 oT 17 (fa 94 1 1) 16,
 oT 18 (ld 3 17) 16,
 oT 19 (fa 94 1 2) 16,
 oT 20 (ld 3 19) 16,
 oT 21 (cl 113 #[(t 18), (t 20)] #[3, 3]) 16,
 o 22 (.pick (.tmp 16) (.tmp 21) (.const (.bool false))),
 o 23 (mv 22),
 oT 24 (fa 94 1 3) 23,
 oT 25 (ld 40 24) 23,
 oT 26 (cl 152 #[(t 25)] #[40]) 23,
 o 27 (.pick (.tmp 23) (.tmp 26) (.const (.bool false))),
 o 2 (av 27)])
(.ret [2])))
def g128 : IFn := ⟨28, [.tmp 2], [4], c128, [], false, none⟩
/- 129 veil/veilref1.WithWrite -/
def d129_1 : IR := D [o 26 (mv 0),
 o 27 (mv 8),
 o 28 (ia 42 26 27),
 o 29 (fa 65 28 0),
 o 30 (ld 3 29),
 o 31 (mv 0),
 o 32 (mv 8),
 o 33 (ia 42 31 32),
 o 34 (fa 65 33 1),
 o 35 (ld 3 34),
 o 36 (cl 140 #[(t 30), (t 35)] #[3, 3]),
 o 37 (fa 65 3 0),
 o 38 (ld 3 37),
 o 39 (fa 65 3 1),
 o 40 (ld 3 39),
 o 41 (cl 140 #[(t 38), (t 40)] #[3, 3]),
 o 9 (av 36),
 o 10 (av 41)] [[], [], [0, 1], [2], [3], [], [], [5, 6], [7], [8], [4, 9], [], [11], [], [13], [12, 14, 10], [10, 15, 0, 1, 2, 3, 4, 5, 6, 7, 8, 9, 10], [15, 16, 0, 1, 2, 3, 4, 5, 6, 7, 8, 9, 10, 11, 12, 13, 14, 15, 16]]
def c129_1 : IR := (S (S (R [o 20 (mv 8),
 o 21 (mv 0),
 o 22 (len 21 42),
 o 23 (bo .lss (t 20) (t 22))])
(.cond (t 23)
.skip
(.exit 0 [3, 6, 7])))
(S (.block 1 (S d129_1
(S (S (R [o 42 (mv 7),
 o 43 (.unOp .not 4 (.tmp 42)),
 o 44 (mv 43),
 oT 45 (mv 9) 44,
 oT 46 (mv 10) 44,
 oT 47 (bo .geq (t 45) (t 46)) 44,
 o 48 (.pick (.tmp 44) (.tmp 47) (.const (.bool false)))])
(.cond (t 48)
(S (R [o 49 (mv 6),
 o 50 (ld 65 3),
 o 51 (.buildSlice 42 1 #[(0, (.tmp 50))]),
 o 52 (.call { callee := (.builtin .append), args := #[(.tmp 49), (.tmp 51)], argTypes := #[42, 42] }),
 o 6 (av 52)])
(R [o 7 (ab true)]))
.skip))
(S (R [o 53 (mv 9),
 o 54 (mv 10),
 o 55 (bo .neq (t 53) (t 54))])
(.cond (t 55)
(R [o 56 (mv 6),
 o 57 (mv 0),
 o 58 (mv 8),
 o 59 (ia 42 57 58),
 o 60 (ld 65 59),
 o 61 (.buildSlice 42 1 #[(0, (.tmp 60))]),
 o 62 (.call { callee := (.builtin .append), args := #[(.tmp 56), (.tmp 61)], argTypes := #[42, 42] }),
 o 6 (av 62)])
.skip)))))
(R [o 24 (mv 8),
 o 25 (bo .add (t 24) (n 1)),
 o 8 (av 25)])))
def c129 : IR := (S (R [z 3 (bx 65 1),
 o 4 (.assign (.const (.slice none 0 0))),
 o 5 (an 0)])
(S (S (R [o 11 (mv 0),
 o 12 (cl 114 #[(t 11)] #[42]),
 o 13 (.unOp .not 4 (.tmp 12)),
 o 14 (mv 13),
 oF 15 (ld 65 3) 14,
 oF 16 (.buildSlice 42 1 #[(0, (.tmp 15))]) 14,
 oF 17 (cl 114 #[(t 16)] #[42]) 14,
 oF 18 (.unOp .not 4 (.tmp 17)) 14,
 o 19 (.pick (.tmp 14) (.const (.bool true)) (.tmp 18))])
(.cond (t 19)
(S (R [o 4 (.assign (.const (.slice none 0 0))),
 o 5 (an 1000)])
(.ret [4, 5]))
.skip))
(S (R [o 6 (.assign (.const (.slice none 0 0)))])
(S (R [o 7 (ab false)])
(S (S (R [o 8 (an 0)])
(.block 0 (.loop [0, 3, 6, 7, 8] c129_1)))
(S (S (R [o 63 (mv 7),
 o 64 (.unOp .not 4 (.tmp 63))])
(.cond (t 64)
(R [o 65 (mv 6),
 o 66 (ld 65 3),
 o 67 (.buildSlice 42 1 #[(0, (.tmp 66))]),
 o 68 (.call { callee := (.builtin .append), args := #[(.tmp 65), (.tmp 67)], argTypes := #[42, 42] }),
 o 6 (av 68)])
.skip))
(S (R [o 69 (mv 6),
 o 4 (av 69),
 o 5 (an 0)])
(.ret [4, 5]))))))))
def g129 : IFn := ⟨70, [.tmp 4, .tmp 5], [42, 3], c129, [], false, none⟩
/- 130 veil/veilref1.Set -/
def c130 : IR := (S (R [o 3 (bx 24 0),
 o 6 (al 24),
 o 7 (an 0)])
(S (S (R [o 8 (ld 24 3),
 o 9 (cl 151 #[(t 8)] #[24]),
 o 10 (.unOp .not 4 (.tmp 9)),
 o 11 (mv 10),
 oF 12 (mv 1) 11,
 oF 13 (cl 153 #[(t 12)] #[3]) 11,
 oF 14 (.unOp .not 4 (.tmp 13)) 11,
 o 15 (.pick (.tmp 11) (.const (.bool true)) (.tmp 14)),
 o 16 (mv 15),
 oF 17 (mv 2) 16,
 oF 18 (cl 127 #[(t 17)] #[3]) 16,
 oF 19 (.unOp .not 4 (.tmp 18)) 16,
 o 20 (.pick (.tmp 16) (.const (.bool true)) (.tmp 19))])
(.cond (t 20)
(S (R [o 21 (.build 24 #[]),
 w (st 24 6 21),
 o 7 (an 600)])
(.ret [6, 7]))
.skip))
(S (R [o 22 (mv 1),
 o 23 (mv 2),
 o 24 (ia 24 3 22),
 w (st 3 24 23)])
(S (R [o 25 (ld 24 3),
 w (st 24 6 25),
 o 7 (an 0)])
(.ret [6, 7])))))
def g130 : IFn := ⟨26, [.cell 6 24, .tmp 7], [24, 3], c130, [], false, none⟩
/- 131 veil/veilref1.Add -/
def d131_1 : IR := D [o 22 (mv 1),
 o 23 (mv 1),
 o 24 (ia 24 3 23),
 o 25 (ld 3 24),
 o 26 (mv 2),
 o 27 (ia 24 3 26),
 o 28 (ld 3 27),
 o 29 (bo .add (t 25) (t 28)),
 o 30 (bo .rem (t 29) (n 256)),
 o 31 (ia 24 3 22),
 w (st 3 31 30)] [[], [], [1], [2], [], [4], [5], [3, 6], [7], [0, 0, 1, 2, 3, 4, 5, 6, 7, 8], [9, 8, 0, 1, 2, 3, 4, 5, 6, 7, 8]]
def c131 : IR := (S (R [o 3 (bx 24 0),
 o 6 (al 24),
 o 7 (an 0)])
(S (S (R [o 8 (ld 24 3),
 o 9 (cl 151 #[(t 8)] #[24]),
 o 10 (.unOp .not 4 (.tmp 9)),
 o 11 (mv 10),
 oF 12 (mv 1) 11,
 oF 13 (cl 153 #[(t 12)] #[3]) 11,
 oF 14 (.unOp .not 4 (.tmp 13)) 11,
 o 15 (.pick (.tmp 11) (.const (.bool true)) (.tmp 14)),
 o 16 (mv 15),
 oF 17 (mv 2) 16,
 oF 18 (cl 153 #[(t 17)] #[3]) 16,
 oF 19 (.unOp .not 4 (.tmp 18)) 16,
 o 20 (.pick (.tmp 16) (.const (.bool true)) (.tmp 19))])
(.cond (t 20)
(S (R [o 21 (.build 24 #[]),
 w (st 24 6 21),
 o 7 (an 600)])
(.ret [6, 7]))
.skip))
(S d131_1
(S (R [o 32 (ld 24 3),
 w (st 24 6 32),
 o 7 (an 0)])
(.ret [6, 7])))))
def g131 : IFn := ⟨33, [.cell 6 24, .tmp 7], [24, 3], c131, [], false, none⟩
/- 132 cmp.Or[int] -/
def c132_1 : IR := (S (R [o 9 (bo .lss (t 8) (t 7))])
(S (.cond (t 9)
.skip
(.exit 0 [3]))
(S (.block 1 (S (R [o 10 (ia 51 6 8),
 o 11 (ld 3 10),
 o 5 (av 11)])
(S (R [o 12 (mv 5),
 o 13 (mv 3),
 o 14 (bo .neq (t 12) (t 13))])
(.cond (t 14)
(S (R [o 15 (mv 5),
 o 2 (av 15)])
(.ret [2]))
.skip))))
(R [o 16 (bo .add (t 8) (n 1)),
 o 8 (mv 16)]))))
def c132 : IR := (S (R [o 2 (an 0)])
(S (R [o 3 (an 0)])
(S (S (R [o 6 (mv 0),
 o 7 (len 6 51),
 o 8 (.move (.const (.int .i64 0)))])
(.block 0 (.loop [3, 6, 7, 8] c132_1)))
(S (R [o 17 (mv 3),
 o 2 (av 17)])
(.ret [2])))))
def g132 : IFn := ⟨18, [.tmp 2], [3], c132, [], false, none⟩
/- 133 veil/label.May -/
def c133 : IR := (S (R [o 2 (ab false)])
(S (R [o 3 (mv 0),
 o 4 (bo .geq (t 3) (n 0)),
 o 5 (mv 4),
 oT 6 (mv 0) 5,
 oT 7 (bo .lss (t 6) (n 4)) 5,
 o 8 (.pick (.tmp 5) (.tmp 7) (.const (.bool false))),
 o 2 (av 8)])
(.ret [2])))
def g133 : IFn := ⟨9, [.tmp 2], [4], c133, [], false, none⟩
/- 134 veil/readset.Index -/
def c134 : IR := (S (R [o 2 (ab false)])
(S (R [o 3 (mv 0),
 o 4 (bo .geq (t 3) (n 0)),
 o 5 (mv 4),
 oT 6 (mv 0) 5,
 oT 7 (bo .lss (t 6) (n 4)) 5,
 o 8 (.pick (.tmp 5) (.tmp 7) (.const (.bool false))),
 o 2 (av 8)])
(.ret [2])))
def g134 : IFn := ⟨9, [.tmp 2], [4], c134, [], false, none⟩
/- 135 veil/word.Value -/
def c135 : IR := (S (R [o 2 (ab false)])
(S (R [o 3 (mv 0),
 o 4 (cl 136 #[(t 3), (n 255)] #[3, 3]),
 o 2 (av 4)])
(.ret [2])))
def g135 : IFn := ⟨5, [.tmp 2], [4], c135, [], false, none⟩
/- 136 veil/word.in -/
def c136 : IR := (S (R [o 4 (ab false)])
(S (R [o 5 (mv 0),
 o 6 (bo .geq (t 5) (n 0)),
 o 7 (mv 6),
 oT 8 (mv 0) 7,
 oT 9 (mv 1) 7,
 oT 10 (bo .leq (t 8) (t 9)) 7,
 o 11 (.pick (.tmp 7) (.tmp 10) (.const (.bool false))),
 o 4 (av 11)])
(.ret [4])))
def g136 : IFn := ⟨12, [.tmp 4], [4], c136, [], false, none⟩
/- 137 veil/word.Clock -/
def c137 : IR := (S (R [o 2 (ab false)])
(S (R [o 3 (mv 0),
 o 4 (cl 136 #[(t 3), (n 65535)] #[3, 3]),
 o 2 (av 4)])
(.ret [2])))
def g137 : IFn := ⟨5, [.tmp 2], [4], c137, [], false, none⟩
/- 138 slices.IndexFunc[[]veil/api.Read,veil/api.Read] -/
def c138_1 : IR := (S (R [o 9 (bo .lss (t 8) (t 7))])
(S (.cond (t 9)
.skip
(.exit 0 []))
(S (.block 1 (S (R [o 10 (mv 8),
 o 5 (av 10)])
(S (R [o 11 (mv 1),
 o 12 (mv 0),
 o 13 (mv 5),
 o 14 (ia 41 12 13),
 o 15 (ld 59 14),
 o 16 (.call { callee := (.value (.tmp 11)), args := #[(.tmp 15)], argTypes := #[59] })])
(.cond (t 16)
(S (R [o 17 (mv 5),
 o 4 (av 17)])
(.ret [4]))
.skip))))
(R [o 18 (bo .add (t 8) (n 1)),
 o 8 (mv 18)]))))
def c138 : IR := (S (R [o 4 (an 0)])
(S (S (R [o 6 (mv 0),
 o 7 (len 6 41),
 o 8 (.move (.const (.int .i64 0)))])
(.block 0 (.loop [0, 1, 7, 8] c138_1)))
(S (R [o 4 (an (-1))])
(.ret [4]))))
def g138 : IFn := ⟨19, [.tmp 4], [3], c138, [], false, none⟩
/- 139 veil/readset.of$1 -/
def c139 : IR := (S (R [z 2 (bx 59 0),
 o 3 (ab false)])
(S (R [o 4 (fa 59 2 0),
 o 5 (ld 3 4),
 o 6 (fa 59 1 0),
 o 7 (ld 3 6),
 o 8 (bo .eql (t 5) (t 7)),
 o 9 (mv 8),
 oT 10 (fa 59 2 1) 9,
 oT 11 (ld 3 10) 9,
 oT 12 (fa 59 1 1) 9,
 oT 13 (ld 3 12) 9,
 oT 14 (bo .eql (t 11) (t 13)) 9,
 o 15 (.pick (.tmp 9) (.tmp 14) (.const (.bool false))),
 o 3 (av 15)])
(.ret [3])))
def g139 : IFn := ⟨16, [.tmp 3], [4], c139, [], false, none⟩
/- 140 veil/veilref1.place -/
def c140 : IR := (S (R [o 4 (an 0)])
(S (R [o 5 (mv 0),
 o 6 (bo .mul (n 4) (t 5)),
 o 7 (mv 1),
 o 8 (bo .add (t 6) (t 7)),
 o 4 (av 8)])
(.ret [4])))
def g140 : IFn := ⟨9, [.tmp 4], [3], c140, [], false, none⟩
/- 141 veil/clock.May -/
def c141_1 : IR := (S (R [o 9 (bo .lss (t 8) (n 4))])
(S (.cond (t 9)
.skip
(.exit 0 [1]))
(S (.block 1 (S (R [o 10 (nc 7),
 o 11 (ia 24 10 8),
 o 12 (ld 3 11),
 o 6 (av 12)])
(S (R [o 13 (mv 6),
 o 14 (cl 137 #[(t 13)] #[3]),
 o 15 (.unOp .not 4 (.tmp 14))])
(.cond (t 15)
(S (R [o 4 (ab false)])
(.ret [4]))
.skip))))
(R [o 16 (bo .add (t 8) (n 1)),
 o 8 (mv 16)]))))
def c141 : IR := (S (R [o 4 (ab false)])
(S (S (R [o 7 (mv 0),
 o 8 (.move (.const (.int .i64 0)))])
(.block 0 (.loop [1, 7, 8] c141_1)))
(S (R [o 17 (mv 1),
 o 18 (cl 137 #[(t 17)] #[3]),
 o 4 (av 18)])
(.ret [4]))))
def g141 : IFn := ⟨19, [.tmp 4], [4], c141, [], false, none⟩
/- 142 slices.Max[[]int,int] -/
def c142_1 : IR := (S (S (R [o 12 (mv 4),
 o 13 (mv 0),
 o 14 (len 13 51),
 o 15 (bo .lss (t 12) (t 14))])
(.cond (t 15)
.skip
(.exit 0 [3])))
(S (.block 1 (R [o 18 (mv 3),
 o 19 (mv 0),
 o 20 (mv 4),
 o 21 (ia 51 19 20),
 o 22 (ld 3 21),
 o 23 (.call { callee := (.builtin .max), args := #[(.tmp 18), (.tmp 22)], argTypes := #[3, 3] }),
 o 3 (av 23)]))
(R [o 16 (mv 4),
 o 17 (bo .add (t 16) (n 1)),
 o 4 (av 17)])))
def c142 : IR := (S (R [o 2 (an 0)])
(S (S (R [o 5 (mv 0),
 o 6 (len 5 51),
 o 7 (bo .lss (t 6) (n 1))])
(.cond (t 7)
(R [o 8 (.makeInterface 9 (.const (.string { data := #[115, 108, 105, 99, 101, 115, 46, 77, 97, 120, 58, 32, 101, 109, 112, 116, 121, 32, 108, 105, 115, 116] }))),
 w (.panic (.tmp 8))])
.skip))
(S (R [o 9 (mv 0),
 o 10 (.indexAddr 51 (.tmp 9) (.const (.int .i64 0))),
 o 11 (ld 3 10),
 o 3 (av 11)])
(S (S (R [o 4 (an 1)])
(.block 0 (.loop [0, 3, 4] c142_1)))
(S (R [o 24 (mv 3),
 o 2 (av 24)])
(.ret [2]))))))
def g142 : IFn := ⟨25, [.tmp 2], [3], c142, [], false, none⟩
/- 143 veil/mach.May$1 -/
def c143 : IR := (S (R [z 1 (bx 68 0),
 o 2 (ab false)])
(S (R [o 3 (fa 68 1 1),
 o 4 (ld 3 3),
 o 5 (cl 133 #[(t 4)] #[3]),
 o 2 (av 5)])
(.ret [2])))
def g143 : IFn := ⟨6, [.tmp 2], [4], c143, [], false, none⟩
/- 144 veil/mach.all[veil/api.Session] -/
def c144 : IR := (S (R [z 3 (bx 166 1),
 o 4 (ab false)])
(S (R [o 5 (mv 0),
 o 6 (.makeFunc (Go.Fn.func 155) #[] #[(.tmp 3)]),
 o 7 (cl 154 #[(t 5), (t 6)] #[25, 166]),
 o 8 (.unOp .not 4 (.tmp 7)),
 o 4 (av 8)])
(.ret [4])))
def g144 : IFn := ⟨9, [.tmp 4], [4], c144, [], false, none⟩
/- 145 (veil/mach.looker).session -/
def c145 : IR := (S (R [z 2 (bx 168 0),
 z 3 (bx 44 1),
 o 4 (ab false)])
(S (R [o 8 (fa 44 3 0),
 o 9 (ld 3 8),
 o 10 (fa 44 3 1),
 o 11 (ld 3 10),
 o 12 (fa 44 3 2),
 o 13 (ld 3 12),
 o 14 (fa 44 3 3),
 o 15 (ld 40 14),
 o 16 (.build 94 #[(0, (.tmp 9)), (1, (.tmp 11)), (2, (.tmp 13)), (3, (.tmp 15))]),
 o 17 (cl 156 #[(t 16)] #[94]),
 o 5 (av 17)])
(S (R [o 18 (fa 44 3 7),
 o 19 (ld 41 18),
 o 20 (cl 109 #[(t 19)] #[41]),
 o 21 (mv 20),
 oT 22 (fa 44 3 8) 21,
 oT 23 (ld 42 22) 21,
 oT 24 (cl 107 #[(t 23)] #[42]) 21,
 o 25 (.pick (.tmp 21) (.tmp 24) (.const (.bool false))),
 o 26 (mv 25),
 oT 27 (fa 44 3 7) 26,
 oT 28 (ld 41 27) 26,
 oT 29 (ld 168 2) 26,
 oT 30 (.makeFunc (Go.Fn.func 158) #[(.tmp 29)] #[]) 26,
 oT 31 (cl 157 #[(t 28), (t 30)] #[41, 143]) 26,
 o 32 (.pick (.tmp 26) (.tmp 31) (.const (.bool false))),
 o 33 (mv 32),
 oT 34 (fa 44 3 8) 33,
 oT 35 (ld 42 34) 33,
 oT 36 (ld 168 2) 33,
 oT 37 (.makeFunc (Go.Fn.func 160) #[(.tmp 36)] #[]) 33,
 oT 38 (cl 159 #[(t 35), (t 37)] #[42, 176]) 33,
 o 39 (.pick (.tmp 33) (.tmp 38) (.const (.bool false))),
 o 40 (mv 39),
 oT 41 (fa 44 3 3) 40,
 oT 42 (ld 40 41) 40,
 oT 43 (ld 168 2) 40,
 oT 44 (.makeFunc (Go.Fn.func 162) #[(.tmp 43)] #[]) 40,
 oT 45 (cl 161 #[(t 42), (t 44)] #[40, 178]) 40,
 o 46 (.pick (.tmp 40) (.tmp 45) (.const (.bool false))),
 o 6 (av 46)])
(S (R [o 47 (fa 44 3 5),
 o 48 (ld 3 47),
 o 49 (fa 44 3 3),
 o 50 (ld 40 49),
 o 51 (len 50 40),
 o 52 (cl 163 #[(t 48), (t 51)] #[3, 3]),
 o 53 (mv 52),
 oT 54 (fa 44 3 9) 53,
 oT 55 (ld 3 54) 53,
 oT 56 (fa 44 3 8) 53,
 oT 57 (ld 42 56) 53,
 oT 58 (len 57 42) 53,
 oT 59 (cl 163 #[(t 55), (t 58)] #[3, 3]) 53,
 o 60 (.pick (.tmp 53) (.tmp 59) (.const (.bool false))),
 o 61 (mv 60),
 oT 62 (fa 44 3 4) 61,
 oT 63 (ld 3 62) 61,
 oT 64 (cl 163 #[(t 63), (n 6)] #[3, 3]) 61,
 o 65 (.pick (.tmp 61) (.tmp 64) (.const (.bool false))),
 o 66 (mv 65),
 oT 67 (fa 44 3 12) 66,
 oT 68 (ld 3 67) 66,
 oT 69 (cl 163 #[(t 68), (n 5)] #[3, 3]) 66,
 o 70 (.pick (.tmp 66) (.tmp 69) (.const (.bool false))),
 o 7 (av 70)])
(S (R [o 71 (mv 5),
 o 72 (mv 71),
 oT 73 (mv 6) 72,
 o 74 (.pick (.tmp 72) (.tmp 73) (.const (.bool false))),
 o 75 (mv 74),
 oT 76 (mv 7) 75,
 o 77 (.pick (.tmp 75) (.tmp 76) (.const (.bool false))),
 o 78 (mv 77),
 oT 79 (fa 44 3 6) 78,
 oT 80 (cl 164 #[(t 79)] #[162]) 78,
 o 81 (.pick (.tmp 78) (.tmp 80) (.const (.bool false))),
 o 82 (mv 81),
 oT 83 (fa 44 3 10) 82,
 oT 84 (ld 3 83) 82,
 oT 85 (cl 137 #[(t 84)] #[3]) 82,
 o 86 (.pick (.tmp 82) (.tmp 85) (.const (.bool false))),
 o 87 (mv 86),
 oT 88 (fa 44 3 11) 87,
 oT 89 (ld 3 88) 87,
 oT 90 (cl 137 #[(t 89)] #[3]) 87,
 o 91 (.pick (.tmp 87) (.tmp 90) (.const (.bool false))),
 o 92 (mv 91),
 oT 93 (fa 44 3 13) 92,
 oT 94 (ld 3 93) 92,
 oT 95 (cl 135 #[(t 94)] #[3]) 92,
 o 96 (.pick (.tmp 92) (.tmp 95) (.const (.bool false))),
 o 4 (av 96)])
(.ret [4]))))))
def g145 : IFn := ⟨97, [.tmp 4], [4], c145, [], false, none⟩
/- 146 veil/mach.all[veil/api.Event] -/
def c146 : IR := (S (R [z 3 (bx 164 1),
 o 4 (ab false)])
(S (R [o 5 (mv 0),
 o 6 (.makeFunc (Go.Fn.func 166) #[] #[(.tmp 3)]),
 o 7 (cl 165 #[(t 5), (t 6)] #[26, 164]),
 o 8 (.unOp .not 4 (.tmp 7)),
 o 4 (av 8)])
(.ret [4])))
def g146 : IFn := ⟨9, [.tmp 4], [4], c146, [], false, none⟩
/- 147 veil/arena.May$1 -/
def c147 : IR := (S (R [z 1 (bx 54 0),
 o 2 (ab false)])
(S (R [o 3 (ld 54 1),
 o 4 (cl 148 #[(t 3)] #[54]),
 o 5 (.unOp .not 4 (.tmp 4)),
 o 2 (av 5)])
(.ret [2])))
def g147 : IFn := ⟨6, [.tmp 2], [4], c147, [], false, none⟩
/- 148 veil/word.May -/
def c148 : IR := (S (R [z 1 (bx 54 0),
 o 2 (ab false)])
(S (R [o 3 (fa 54 1 0),
 o 4 (ld 3 3),
 o 5 (cl 135 #[(t 4)] #[3]),
 o 6 (mv 5),
 oT 7 (fa 54 1 1) 6,
 oT 8 (ld 3 7) 6,
 oT 9 (cl 137 #[(t 8)] #[3]) 6,
 o 10 (.pick (.tmp 6) (.tmp 9) (.const (.bool false))),
 o 11 (mv 10),
 oT 12 (fa 54 1 2) 11,
 oT 13 (ld 3 12) 11,
 oT 14 (cl 136 #[(t 13), (n 255)] #[3, 3]) 11,
 o 15 (.pick (.tmp 11) (.tmp 14) (.const (.bool false))),
 o 2 (av 15)])
(.ret [2])))
def g148 : IFn := ⟨16, [.tmp 2], [4], c148, [], false, none⟩
/- 149 slices.ContainsFunc[[]veil/api.Word,veil/api.Word] -/
def c149 : IR := (S (R [o 4 (ab false)])
(S (R [o 5 (mv 0),
 o 6 (mv 1),
 o 7 (cl 167 #[(t 5), (t 6)] #[22, 124]),
 o 8 (bo .geq (t 7) (n 0)),
 o 4 (av 8)])
(.ret [4])))
def g149 : IFn := ⟨9, [.tmp 4], [4], c149, [], false, none⟩
/- 150 veil/veilref11.words -/
def d150_1 : IR := D [o 21 (mv 6),
 o 22 (bo .eql (t 21) (n 2)),
 o 23 (mv 22),
 oF 24 (mv 6) 23,
 oF 25 (bo .eql (t 24) (n 3)) 23,
 o 26 (.pick (.tmp 23) (.const (.bool true)) (.tmp 25)),
 o 27 (mv 26),
 oT 28 (ld 23 2) 27,
 oT 29 (fa 44 3 3) 27,
 oT 30 (ld 40 29) 27,
 oT 31 (mv 5) 27,
 oT 32 (ia 40 30 31) 27,
 oT 33 (fa 57 32 2) 27,
 oT 34 (ld 3 33) 27,
 oT 35 (fa 44 3 3) 27,
 oT 36 (ld 40 35) 27,
 oT 37 (mv 5) 27,
 oT 38 (ia 40 36 37) 27,
 oT 39 (fa 57 38 3) 27,
 oT 40 (ld 3 39) 27,
 oT 41 (cl 92 #[(t 28), (t 34), (t 40)] #[23, 3, 3]) 27,
 oT 42 (.unOp .not 4 (.tmp 41)) 27,
 o 43 (.pick (.tmp 27) (.tmp 42) (.const (.bool false)))] [[], [0], [1], [2], [3, 2], [2, 4], [5, 2], [6], [6], [8, 6], [6], [9, 10, 6], [11, 6], [12, 6], [6], [14, 6], [6], [15, 16, 6], [17, 6], [18, 6], [7, 13, 19, 6, 6], [20, 6], [6, 21]]
def c150_1 : IR := (S (S (R [o 8 (mv 5),
 o 9 (fa 44 3 3),
 o 10 (ld 40 9),
 o 11 (len 10 40),
 o 12 (bo .lss (t 8) (t 11))])
(.cond (t 12)
.skip
(.exit 0 [2, 3])))
(S (.block 1 (S (R [o 15 (fa 44 3 3),
 o 16 (ld 40 15),
 o 17 (mv 5),
 o 18 (ia 40 16 17),
 o 19 (fa 57 18 0),
 o 20 (ld 3 19),
 o 6 (av 20)])
(S d150_1
(.cond (t 43)
(S (R [o 4 (ab false)])
(.ret [4]))
.skip))))
(R [o 13 (mv 5),
 o 14 (bo .add (t 13) (n 1)),
 o 5 (av 14)])))
def d150_2 : IR := D [o 51 (ld 23 2),
 o 52 (fa 44 3 8),
 o 53 (ld 42 52),
 o 54 (mv 7),
 o 55 (ia 42 53 54),
 o 56 (fa 65 55 0),
 o 57 (ld 3 56),
 o 58 (fa 44 3 8),
 o 59 (ld 42 58),
 o 60 (mv 7),
 o 61 (ia 42 59 60),
 o 62 (fa 65 61 1),
 o 63 (ld 3 62),
 o 64 (cl 92 #[(t 51), (t 57), (t 63)] #[23, 3, 3]),
 o 65 (.unOp .not 4 (.tmp 64))] [[], [], [1], [], [2, 3], [4], [5], [], [7], [], [8, 9], [10], [11], [0, 6, 12], [13]]
def c150_2 : IR := (S (S (R [o 44 (mv 7),
 o 45 (fa 44 3 8),
 o 46 (ld 42 45),
 o 47 (len 46 42),
 o 48 (bo .lss (t 44) (t 47))])
(.cond (t 48)
.skip
(.exit 2 [2, 3])))
(S (.block 3 (S d150_2
(.cond (t 65)
(S (R [o 4 (ab false)])
(.ret [4]))
.skip)))
(R [o 49 (mv 7),
 o 50 (bo .add (t 49) (n 1)),
 o 7 (av 50)])))
def c150 : IR := (S (R [z 2 (bx 23 0),
 z 3 (bx 44 1),
 o 4 (ab false)])
(S (S (R [o 5 (an 0)])
(.block 0 (.loop [2, 3, 5] c150_1)))
(S (S (R [o 7 (an 0)])
(.block 2 (.loop [2, 3, 7] c150_2)))
(S (R [o 66 (ld 23 2),
 o 67 (fa 44 3 7),
 o 68 (ld 41 67),
 o 69 (cl 55 #[(t 66), (t 68)] #[23, 41]),
 o 4 (av 69)])
(.ret [4])))))
def g150 : IFn := ⟨70, [.tmp 4], [4], c150, [], false, none⟩
/- 151 veil/veilref1.RegsMay -/
def c151_1 : IR := (S (S (R [o 4 (mv 3),
 o 5 (bo .lss (t 4) (n 4))])
(.cond (t 5)
.skip
(.exit 0 [])))
(S (.block 1 (S (R [o 8 (mv 3),
 o 9 (ia 24 1 8),
 o 10 (ld 3 9),
 o 11 (cl 127 #[(t 10)] #[3]),
 o 12 (.unOp .not 4 (.tmp 11))])
(.cond (t 12)
(S (R [o 2 (ab false)])
(.ret [2]))
.skip)))
(R [o 6 (mv 3),
 o 7 (bo .add (t 6) (n 1)),
 o 3 (av 7)])))
def c151 : IR := (S (R [z 1 (bx 24 0),
 o 2 (ab false)])
(S (S (R [o 3 (an 0)])
(.block 0 (.loop [1, 3] c151_1)))
(S (R [o 2 (ab true)])
(.ret [2]))))
def g151 : IFn := ⟨13, [.tmp 2], [4], c151, [], false, none⟩
/- 152 veil/veilref1.ProgMay -/
def c152_1 : IR := (S (S (R [o 4 (mv 3),
 o 5 (mv 0),
 o 6 (len 5 40),
 o 7 (bo .lss (t 4) (t 6))])
(.cond (t 7)
.skip
(.exit 0 [0])))
(S (.block 1 (S (R [o 10 (mv 0),
 o 11 (mv 3),
 o 12 (ia 40 10 11),
 o 13 (ld 57 12),
 o 14 (cl 168 #[(t 13)] #[57]),
 o 15 (.unOp .not 4 (.tmp 14)),
 o 16 (mv 15),
 oF 17 (mv 0) 16,
 oF 18 (mv 3) 16,
 oF 19 (ia 40 17 18) 16,
 oF 20 (fa 57 19 0) 16,
 oF 21 (ld 3 20) 16,
 oF 22 (bo .eql (t 21) (n 4)) 16,
 oF 23 (mv 22) 16,
 oT 24 (mv 0) 23,
 oT 25 (mv 3) 23,
 oT 26 (ia 40 24 25) 23,
 oT 27 (fa 57 26 2) 23,
 oT 28 (ld 3 27) 23,
 oT 29 (mv 3) 23,
 oT 30 (bo .leq (t 28) (t 29)) 23,
 oT 31 (mv 30) 23,
 oF 32 (mv 0) 31,
 oF 33 (mv 3) 31,
 oF 34 (ia 40 32 33) 31,
 oF 35 (fa 57 34 2) 31,
 oF 36 (ld 3 35) 31,
 oF 37 (mv 0) 31,
 oF 38 (len 37 40) 31,
 oF 39 (bo .gtr (t 36) (t 38)) 31,
 oT 40 (.pick (.tmp 31) (.const (.bool true)) (.tmp 39)) 23,
 oF 41 (.pick (.tmp 23) (.tmp 40) (.const (.bool false))) 16,
 o 42 (.pick (.tmp 16) (.const (.bool true)) (.tmp 41))])
(.cond (t 42)
(S (R [o 2 (ab false)])
(.ret [2]))
.skip)))
(R [o 8 (mv 3),
 o 9 (bo .add (t 8) (n 1)),
 o 3 (av 9)])))
def c152 : IR := (S (R [o 2 (ab false)])
(S (S (R [o 3 (an 0)])
(.block 0 (.loop [0, 3] c152_1)))
(S (R [o 43 (mv 0),
 o 44 (len 43 40),
 o 45 (bo .leq (t 44) (n 16)),
 o 2 (av 45)])
(.ret [2]))))
def g152 : IFn := ⟨46, [.tmp 2], [4], c152, [], false, none⟩
/- 153 veil/veilref1.regMay -/
def c153 : IR := (S (R [o 2 (ab false)])
(S (R [o 3 (mv 0),
 o 4 (cl 115 #[(t 3), (n 0), (n 3)] #[3, 3, 3]),
 o 2 (av 4)])
(.ret [2])))
def g153 : IFn := ⟨5, [.tmp 2], [4], c153, [], false, none⟩
/- 154 slices.ContainsFunc[[]veil/api.Session,veil/api.Session] -/
def c154 : IR := (S (R [o 4 (ab false)])
(S (R [o 5 (mv 0),
 o 6 (mv 1),
 o 7 (cl 169 #[(t 5), (t 6)] #[25, 166]),
 o 8 (bo .geq (t 7) (n 0)),
 o 4 (av 8)])
(.ret [4])))
def g154 : IFn := ⟨9, [.tmp 4], [4], c154, [], false, none⟩
/- 155 veil/mach.all[veil/api.Session]$1 -/
def c155 : IR := (S (R [z 2 (bx 44 0),
 o 3 (ab false)])
(S (R [o 4 (ld 166 1),
 o 5 (ld 44 2),
 o 6 (.call { callee := (.value (.tmp 4)), args := #[(.tmp 5)], argTypes := #[44] }),
 o 7 (.unOp .not 4 (.tmp 6)),
 o 3 (av 7)])
(.ret [3])))
def g155 : IFn := ⟨8, [.tmp 3], [4], c155, [], false, none⟩
/- 156 veil/start.May -/
def c156 : IR := (S (R [z 1 (bx 94 0),
 o 2 (ab false)])
(S (R [o 3 (fa 94 1 0),
 o 4 (ld 3 3),
 o 5 (cl 108 #[(t 4)] #[3]),
 o 6 (mv 5),
 oT 7 (fa 94 1 1) 6,
 oT 8 (ld 3 7) 6,
 oT 9 (cl 133 #[(t 8)] #[3]) 6,
 o 10 (.pick (.tmp 6) (.tmp 9) (.const (.bool false))),
 o 11 (mv 10),
 oT 12 (fa 94 1 2) 11,
 oT 13 (ld 3 12) 11,
 oT 14 (cl 133 #[(t 13)] #[3]) 11,
 o 15 (.pick (.tmp 11) (.tmp 14) (.const (.bool false))),
 o 16 (mv 15),
 oT 17 (fa 94 1 1) 16,
 oT 18 (ld 3 17) 16,
 oT 19 (fa 94 1 2) 16,
 oT 20 (ld 3 19) 16,
 oT 21 (cl 104 #[(t 18), (t 20)] #[3, 3]) 16,
 o 22 (.pick (.tmp 16) (.tmp 21) (.const (.bool false))),
 o 23 (mv 22),
 oT 24 (fa 94 1 3) 23,
 oT 25 (ld 40 24) 23,
 oT 26 (cl 170 #[(t 25)] #[40]) 23,
 o 27 (.pick (.tmp 23) (.tmp 26) (.const (.bool false))),
 o 2 (av 27)])
(.ret [2])))
def g156 : IFn := ⟨28, [.tmp 2], [4], c156, [], false, none⟩
/- 157 veil/mach.all[veil/api.Read] -/
def c157 : IR := (S (R [z 3 (bx 143 1),
 o 4 (ab false)])
(S (R [o 5 (mv 0),
 o 6 (.makeFunc (Go.Fn.func 171) #[] #[(.tmp 3)]),
 o 7 (cl 111 #[(t 5), (t 6)] #[41, 143]),
 o 8 (.unOp .not 4 (.tmp 7)),
 o 4 (av 8)])
(.ret [4])))
def g157 : IFn := ⟨9, [.tmp 4], [4], c157, [], false, none⟩
/- 158 (veil/mach.looker).read -/
def c158 : IR := (S (R [z 2 (bx 168 0),
 z 3 (bx 59 1),
 o 4 (ab false)])
(S (R [o 5 (fa 168 2 0),
 o 6 (ld 114 5),
 o 7 (fa 59 3 0),
 o 8 (ld 3 7),
 o 9 (fa 59 3 1),
 o 10 (ld 3 9),
 o 11 (cl 122 #[(t 6), (t 8), (t 10)] #[114, 3, 3]),
 o 4 (av 11)])
(.ret [4])))
def g158 : IFn := ⟨12, [.tmp 4], [4], c158, [], false, none⟩
/- 159 veil/mach.all[veil/api.Write] -/
def c159 : IR := (S (R [z 3 (bx 176 1),
 o 4 (ab false)])
(S (R [o 5 (mv 0),
 o 6 (.makeFunc (Go.Fn.func 173) #[] #[(.tmp 3)]),
 o 7 (cl 172 #[(t 5), (t 6)] #[42, 176]),
 o 8 (.unOp .not 4 (.tmp 7)),
 o 4 (av 8)])
(.ret [4])))
def g159 : IFn := ⟨9, [.tmp 4], [4], c159, [], false, none⟩
/- 160 (veil/mach.looker).write -/
def c160 : IR := (S (R [z 2 (bx 168 0),
 z 3 (bx 65 1),
 o 4 (ab false)])
(S (R [o 5 (fa 168 2 0),
 o 6 (ld 114 5),
 o 7 (fa 65 3 0),
 o 8 (ld 3 7),
 o 9 (fa 65 3 1),
 o 10 (ld 3 9),
 o 11 (cl 122 #[(t 6), (t 8), (t 10)] #[114, 3, 3]),
 o 4 (av 11)])
(.ret [4])))
def g160 : IFn := ⟨12, [.tmp 4], [4], c160, [], false, none⟩
/- 161 veil/mach.all[veil/api.Inst] -/
def c161 : IR := (S (R [z 3 (bx 178 1),
 o 4 (ab false)])
(S (R [o 5 (mv 0),
 o 6 (.makeFunc (Go.Fn.func 175) #[] #[(.tmp 3)]),
 o 7 (cl 174 #[(t 5), (t 6)] #[40, 178]),
 o 8 (.unOp .not 4 (.tmp 7)),
 o 4 (av 8)])
(.ret [4])))
def g161 : IFn := ⟨9, [.tmp 4], [4], c161, [], false, none⟩
/- 162 (veil/mach.looker).inst -/
def c162 : IR := (S (R [z 2 (bx 168 0),
 z 3 (bx 57 1),
 o 4 (ab false)])
(S (R [o 5 (ld 57 3),
 o 6 (cl 176 #[(t 5)] #[57]),
 o 7 (.unOp .not 4 (.tmp 6)),
 o 8 (mv 7),
 oF 9 (fa 168 2 0) 8,
 oF 10 (ld 114 9) 8,
 oF 11 (fa 57 3 2) 8,
 oF 12 (ld 3 11) 8,
 oF 13 (fa 57 3 3) 8,
 oF 14 (ld 3 13) 8,
 oF 15 (cl 122 #[(t 10), (t 12), (t 14)] #[114, 3, 3]) 8,
 o 16 (.pick (.tmp 8) (.const (.bool true)) (.tmp 15)),
 o 4 (av 16)])
(.ret [4])))
def g162 : IFn := ⟨17, [.tmp 4], [4], c162, [], false, none⟩
/- 163 veil/mach.in -/
def c163 : IR := (S (R [o 4 (ab false)])
(S (R [o 5 (mv 0),
 o 6 (bo .geq (t 5) (n 0)),
 o 7 (mv 6),
 oT 8 (mv 0) 7,
 oT 9 (mv 1) 7,
 oT 10 (bo .leq (t 8) (t 9)) 7,
 o 11 (.pick (.tmp 7) (.tmp 10) (.const (.bool false))),
 o 4 (av 11)])
(.ret [4])))
def g163 : IFn := ⟨12, [.tmp 4], [4], c163, [], false, none⟩
/- 164 veil/regs.May -/
def c164_1 : IR := (S (R [o 7 (bo .lss (t 6) (n 4))])
(S (.cond (t 7)
.skip
(.exit 0 []))
(S (.block 1 (S (R [o 8 (nc 5),
 o 9 (ia 24 8 6),
 o 10 (ld 3 9),
 o 4 (av 10)])
(S (R [o 11 (mv 4),
 o 12 (cl 135 #[(t 11)] #[3]),
 o 13 (.unOp .not 4 (.tmp 12))])
(.cond (t 13)
(S (R [o 2 (ab false)])
(.ret [2]))
.skip))))
(R [o 14 (bo .add (t 6) (n 1)),
 o 6 (mv 14)]))))
def c164 : IR := (S (R [o 2 (ab false)])
(S (S (R [o 5 (mv 0),
 o 6 (.move (.const (.int .i64 0)))])
(.block 0 (.loop [5, 6] c164_1)))
(S (R [o 2 (ab true)])
(.ret [2]))))
def g164 : IFn := ⟨15, [.tmp 2], [4], c164, [], false, none⟩
/- 165 slices.ContainsFunc[[]veil/api.Event,veil/api.Event] -/
def c165 : IR := (S (R [o 4 (ab false)])
(S (R [o 5 (mv 0),
 o 6 (mv 1),
 o 7 (cl 177 #[(t 5), (t 6)] #[26, 164]),
 o 8 (bo .geq (t 7) (n 0)),
 o 4 (av 8)])
(.ret [4])))
def g165 : IFn := ⟨9, [.tmp 4], [4], c165, [], false, none⟩
/- 166 veil/mach.all[veil/api.Event]$1 -/
def c166 : IR := (S (R [z 2 (bx 68 0),
 o 3 (ab false)])
(S (R [o 4 (ld 164 1),
 o 5 (ld 68 2),
 o 6 (.call { callee := (.value (.tmp 4)), args := #[(.tmp 5)], argTypes := #[68] }),
 o 7 (.unOp .not 4 (.tmp 6)),
 o 3 (av 7)])
(.ret [3])))
def g166 : IFn := ⟨8, [.tmp 3], [4], c166, [], false, none⟩
/- 167 slices.IndexFunc[[]veil/api.Word,veil/api.Word] -/
def c167_1 : IR := (S (R [o 9 (bo .lss (t 8) (t 7))])
(S (.cond (t 9)
.skip
(.exit 0 []))
(S (.block 1 (S (R [o 10 (mv 8),
 o 5 (av 10)])
(S (R [o 11 (mv 1),
 o 12 (mv 0),
 o 13 (mv 5),
 o 14 (ia 22 12 13),
 o 15 (ld 54 14),
 o 16 (.call { callee := (.value (.tmp 11)), args := #[(.tmp 15)], argTypes := #[54] })])
(.cond (t 16)
(S (R [o 17 (mv 5),
 o 4 (av 17)])
(.ret [4]))
.skip))))
(R [o 18 (bo .add (t 8) (n 1)),
 o 8 (mv 18)]))))
def c167 : IR := (S (R [o 4 (an 0)])
(S (S (R [o 6 (mv 0),
 o 7 (len 6 22),
 o 8 (.move (.const (.int .i64 0)))])
(.block 0 (.loop [0, 1, 7, 8] c167_1)))
(S (R [o 4 (an (-1))])
(.ret [4]))))
def g167 : IFn := ⟨19, [.tmp 4], [3], c167, [], false, none⟩
/- 168 veil/veilref1.InstMay -/
def c168 : IR := (S (R [z 1 (bx 57 0),
 o 2 (ab false)])
(S (S (R [o 3 (fa 57 1 0),
 o 4 (ld 3 3)])
(.block 0 (S (R [o 6 (bo .eql (t 4) (n 0)),
 o 5 (av 6)])
(.cond (t 5)
(S (R [o 7 (fa 57 1 1),
 o 8 (ld 3 7),
 o 9 (cl 153 #[(t 8)] #[3]),
 o 10 (mv 9),
 oT 11 (fa 57 1 2) 10,
 oT 12 (ld 3 11) 10,
 oT 13 (cl 127 #[(t 12)] #[3]) 10,
 o 14 (.pick (.tmp 10) (.tmp 13) (.const (.bool false))),
 o 15 (mv 14),
 oT 16 (fa 57 1 3) 15,
 oT 17 (ld 3 16) 15,
 oT 18 (bo .eql (t 17) (n 0)) 15,
 o 19 (.pick (.tmp 15) (.tmp 18) (.const (.bool false))),
 o 2 (av 19)])
(.ret [2]))
(S (R [o 21 (bo .eql (t 4) (n 1)),
 o 20 (av 21)])
(.cond (t 20)
(S (R [o 22 (fa 57 1 1),
 o 23 (ld 3 22),
 o 24 (cl 153 #[(t 23)] #[3]),
 o 25 (mv 24),
 oT 26 (fa 57 1 2) 25,
 oT 27 (ld 3 26) 25,
 oT 28 (cl 153 #[(t 27)] #[3]) 25,
 o 29 (.pick (.tmp 25) (.tmp 28) (.const (.bool false))),
 o 30 (mv 29),
 oT 31 (fa 57 1 3) 30,
 oT 32 (ld 3 31) 30,
 oT 33 (bo .eql (t 32) (n 0)) 30,
 o 34 (.pick (.tmp 30) (.tmp 33) (.const (.bool false))),
 o 2 (av 34)])
(.ret [2]))
(S (S (R [o 36 (bo .eql (t 4) (n 2)),
 o 35 (av 36)])
(.cond (t 35)
.skip
(R [o 37 (bo .eql (t 4) (n 3)),
 o 35 (av 37)])))
(.cond (t 35)
(S (R [o 38 (fa 57 1 1),
 o 39 (ld 3 38),
 o 40 (cl 153 #[(t 39)] #[3]),
 o 41 (mv 40),
 oT 42 (fa 57 1 2) 41,
 oT 43 (ld 3 42) 41,
 oT 44 (cl 126 #[(t 43)] #[3]) 41,
 o 45 (.pick (.tmp 41) (.tmp 44) (.const (.bool false))),
 o 46 (mv 45),
 oT 47 (fa 57 1 3) 46,
 oT 48 (ld 3 47) 46,
 oT 49 (cl 115 #[(t 48), (n 0), (n 3)] #[3, 3, 3]) 46,
 o 50 (.pick (.tmp 46) (.tmp 49) (.const (.bool false))),
 o 2 (av 50)])
(.ret [2]))
(S (R [o 52 (bo .eql (t 4) (n 4)),
 o 51 (av 52)])
(.cond (t 51)
(S (R [o 53 (fa 57 1 1),
 o 54 (ld 3 53),
 o 55 (cl 153 #[(t 54)] #[3]),
 o 56 (mv 55),
 oT 57 (fa 57 1 2) 56,
 oT 58 (ld 3 57) 56,
 oT 59 (cl 115 #[(t 58), (n 0), (n 16)] #[3, 3, 3]) 56,
 o 60 (.pick (.tmp 56) (.tmp 59) (.const (.bool false))),
 o 61 (mv 60),
 oT 62 (fa 57 1 3) 61,
 oT 63 (ld 3 62) 61,
 oT 64 (bo .eql (t 63) (n 0)) 61,
 o 65 (.pick (.tmp 61) (.tmp 64) (.const (.bool false))),
 o 2 (av 65)])
(.ret [2]))
(S (R [o 67 (bo .eql (t 4) (n 5)),
 o 66 (av 67)])
(.cond (t 66)
(S (R [o 68 (ld 57 1),
 o 69 (.build 57 #[(0, (.const (.int .i64 5)))]),
 o 70 (.binOp .eql 57 (.tmp 68) (.tmp 69) 57),
 o 2 (av 70)])
(.ret [2]))
(S (R [o 72 (bo .eql (t 4) (n 6)),
 o 71 (av 72)])
(.cond (t 71)
(S (R [o 73 (fa 57 1 1),
 o 74 (ld 3 73),
 o 75 (cl 127 #[(t 74)] #[3]),
 o 76 (mv 75),
 oT 77 (fa 57 1 2) 76,
 oT 78 (ld 3 77) 76,
 oT 79 (bo .eql (t 78) (n 0)) 76,
 o 80 (.pick (.tmp 76) (.tmp 79) (.const (.bool false))),
 o 81 (mv 80),
 oT 82 (fa 57 1 3) 81,
 oT 83 (ld 3 82) 81,
 oT 84 (bo .eql (t 83) (n 0)) 81,
 o 85 (.pick (.tmp 81) (.tmp 84) (.const (.bool false))),
 o 2 (av 85)])
(.ret [2]))
.skip))))))))))))))
(S (R [o 2 (ab false)])
(.ret [2]))))
def g168 : IFn := ⟨86, [.tmp 2], [4], c168, [], false, none⟩
/- 169 slices.IndexFunc[[]veil/api.Session,veil/api.Session] -/
def c169_1 : IR := (S (R [o 9 (bo .lss (t 8) (t 7))])
(S (.cond (t 9)
.skip
(.exit 0 []))
(S (.block 1 (S (R [o 10 (mv 8),
 o 5 (av 10)])
(S (R [o 11 (mv 1),
 o 12 (mv 0),
 o 13 (mv 5),
 o 14 (ia 25 12 13),
 o 15 (ld 44 14),
 o 16 (.call { callee := (.value (.tmp 11)), args := #[(.tmp 15)], argTypes := #[44] })])
(.cond (t 16)
(S (R [o 17 (mv 5),
 o 4 (av 17)])
(.ret [4]))
.skip))))
(R [o 18 (bo .add (t 8) (n 1)),
 o 8 (mv 18)]))))
def c169 : IR := (S (R [o 4 (an 0)])
(S (S (R [o 6 (mv 0),
 o 7 (len 6 25),
 o 8 (.move (.const (.int .i64 0)))])
(.block 0 (.loop [0, 1, 7, 8] c169_1)))
(S (R [o 4 (an (-1))])
(.ret [4]))))
def g169 : IFn := ⟨19, [.tmp 4], [3], c169, [], false, none⟩
/- 170 veil/prog.May -/
def c170_1 : IR := (S (R [o 8 (bo .lss (t 7) (t 6))])
(S (.cond (t 8)
.skip
(.exit 0 [0]))
(S (.block 1 (S (R [o 9 (mv 7),
 o 10 (ia 40 5 7),
 o 11 (ld 57 10),
 o 4 (al 57),
 o 3 (av 9),
 w (st 57 4 11)])
(S (R [o 12 (ld 57 4),
 o 13 (cl 178 #[(t 12)] #[57]),
 o 14 (.unOp .not 4 (.tmp 13)),
 o 15 (mv 14),
 oF 16 (fa 57 4 0) 15,
 oF 17 (ld 3 16) 15,
 oF 18 (bo .eql (t 17) (n 4)) 15,
 oF 19 (mv 18) 15,
 oT 20 (fa 57 4 2) 19,
 oT 21 (ld 3 20) 19,
 oT 22 (mv 3) 19,
 oT 23 (bo .leq (t 21) (t 22)) 19,
 oT 24 (mv 23) 19,
 oF 25 (fa 57 4 2) 24,
 oF 26 (ld 3 25) 24,
 oF 27 (mv 0) 24,
 oF 28 (len 27 40) 24,
 oF 29 (bo .gtr (t 26) (t 28)) 24,
 oT 30 (.pick (.tmp 24) (.const (.bool true)) (.tmp 29)) 19,
 oF 31 (.pick (.tmp 19) (.tmp 30) (.const (.bool false))) 15,
 o 32 (.pick (.tmp 15) (.const (.bool true)) (.tmp 31))])
(.cond (t 32)
(S (R [o 2 (ab false)])
(.ret [2]))
.skip))))
(R [o 33 (bo .add (t 7) (n 1)),
 o 7 (mv 33)]))))
def c170 : IR := (S (R [o 2 (ab false)])
(S (S (R [o 5 (mv 0),
 o 6 (len 5 40),
 o 7 (.move (.const (.int .i64 0)))])
(.block 0 (.loop [0, 5, 6, 7] c170_1)))
(S (R [o 34 (mv 0),
 o 35 (len 34 40),
 o 36 (bo .leq (t 35) (n 16)),
 o 2 (av 36)])
(.ret [2]))))
def g170 : IFn := ⟨37, [.tmp 2], [4], c170, [], false, none⟩
/- 171 veil/mach.all[veil/api.Read]$1 -/
def c171 : IR := (S (R [z 2 (bx 59 0),
 o 3 (ab false)])
(S (R [o 4 (ld 143 1),
 o 5 (ld 59 2),
 o 6 (.call { callee := (.value (.tmp 4)), args := #[(.tmp 5)], argTypes := #[59] }),
 o 7 (.unOp .not 4 (.tmp 6)),
 o 3 (av 7)])
(.ret [3])))
def g171 : IFn := ⟨8, [.tmp 3], [4], c171, [], false, none⟩
/- 172 slices.ContainsFunc[[]veil/api.Write,veil/api.Write] -/
def c172 : IR := (S (R [o 4 (ab false)])
(S (R [o 5 (mv 0),
 o 6 (mv 1),
 o 7 (cl 179 #[(t 5), (t 6)] #[42, 176]),
 o 8 (bo .geq (t 7) (n 0)),
 o 4 (av 8)])
(.ret [4])))
def g172 : IFn := ⟨9, [.tmp 4], [4], c172, [], false, none⟩
/- 173 veil/mach.all[veil/api.Write]$1 -/
def c173 : IR := (S (R [z 2 (bx 65 0),
 o 3 (ab false)])
(S (R [o 4 (ld 176 1),
 o 5 (ld 65 2),
 o 6 (.call { callee := (.value (.tmp 4)), args := #[(.tmp 5)], argTypes := #[65] }),
 o 7 (.unOp .not 4 (.tmp 6)),
 o 3 (av 7)])
(.ret [3])))
def g173 : IFn := ⟨8, [.tmp 3], [4], c173, [], false, none⟩
/- 174 slices.ContainsFunc[[]veil/api.Inst,veil/api.Inst] -/
def c174 : IR := (S (R [o 4 (ab false)])
(S (R [o 5 (mv 0),
 o 6 (mv 1),
 o 7 (cl 180 #[(t 5), (t 6)] #[40, 178]),
 o 8 (bo .geq (t 7) (n 0)),
 o 4 (av 8)])
(.ret [4])))
def g174 : IFn := ⟨9, [.tmp 4], [4], c174, [], false, none⟩
/- 175 veil/mach.all[veil/api.Inst]$1 -/
def c175 : IR := (S (R [z 2 (bx 57 0),
 o 3 (ab false)])
(S (R [o 4 (ld 178 1),
 o 5 (ld 57 2),
 o 6 (.call { callee := (.value (.tmp 4)), args := #[(.tmp 5)], argTypes := #[57] }),
 o 7 (.unOp .not 4 (.tmp 6)),
 o 3 (av 7)])
(.ret [3])))
def g175 : IFn := ⟨8, [.tmp 3], [4], c175, [], false, none⟩
/- 176 veil/inst.Word -/
def c176 : IR := (S (R [z 1 (bx 57 0),
 o 2 (ab false)])
(S (R [o 3 (fa 57 1 0),
 o 4 (ld 3 3),
 o 5 (bo .eql (t 4) (n 2)),
 o 6 (mv 5),
 oF 7 (fa 57 1 0) 6,
 oF 8 (ld 3 7) 6,
 oF 9 (bo .eql (t 8) (n 3)) 6,
 o 10 (.pick (.tmp 6) (.const (.bool true)) (.tmp 9)),
 o 2 (av 10)])
(.ret [2])))
def g176 : IFn := ⟨11, [.tmp 2], [4], c176, [], false, none⟩
/- 177 slices.IndexFunc[[]veil/api.Event,veil/api.Event] -/
def c177_1 : IR := (S (R [o 9 (bo .lss (t 8) (t 7))])
(S (.cond (t 9)
.skip
(.exit 0 []))
(S (.block 1 (S (R [o 10 (mv 8),
 o 5 (av 10)])
(S (R [o 11 (mv 1),
 o 12 (mv 0),
 o 13 (mv 5),
 o 14 (ia 26 12 13),
 o 15 (ld 68 14),
 o 16 (.call { callee := (.value (.tmp 11)), args := #[(.tmp 15)], argTypes := #[68] })])
(.cond (t 16)
(S (R [o 17 (mv 5),
 o 4 (av 17)])
(.ret [4]))
.skip))))
(R [o 18 (bo .add (t 8) (n 1)),
 o 8 (mv 18)]))))
def c177 : IR := (S (R [o 4 (an 0)])
(S (S (R [o 6 (mv 0),
 o 7 (len 6 26),
 o 8 (.move (.const (.int .i64 0)))])
(.block 0 (.loop [0, 1, 7, 8] c177_1)))
(S (R [o 4 (an (-1))])
(.ret [4]))))
def g177 : IFn := ⟨19, [.tmp 4], [3], c177, [], false, none⟩
/- 178 veil/inst.May -/
def d178_1 : IR := D [o 3 (ld 57 1),
 o 4 (cl 181 #[(t 3)] #[57]),
 o 5 (ld 57 1),
 o 6 (.binOp .neq 57 (.tmp 4) (.tmp 5) 57)] [[], [0], [], [1, 2]]
def c178 : IR := (S (R [z 1 (bx 57 0),
 o 2 (ab false)])
(S (S d178_1
(.cond (t 6)
(S (R [o 2 (ab false)])
(.ret [2]))
.skip))
(S (S (R [o 7 (fa 57 1 0),
 o 8 (ld 3 7)])
(.block 0 (S (R [o 10 (bo .eql (t 8) (n 0)),
 o 9 (av 10)])
(.cond (t 9)
(S (R [o 11 (fa 57 1 1),
 o 12 (ld 3 11),
 o 13 (cl 182 #[(t 12)] #[3]),
 o 14 (mv 13),
 oT 15 (fa 57 1 2) 14,
 oT 16 (ld 3 15) 14,
 oT 17 (cl 135 #[(t 16)] #[3]) 14,
 o 18 (.pick (.tmp 14) (.tmp 17) (.const (.bool false))),
 o 2 (av 18)])
(.ret [2]))
(S (R [o 20 (bo .eql (t 8) (n 1)),
 o 19 (av 20)])
(.cond (t 19)
(S (R [o 21 (fa 57 1 1),
 o 22 (ld 3 21),
 o 23 (cl 182 #[(t 22)] #[3]),
 o 24 (mv 23),
 oT 25 (fa 57 1 2) 24,
 oT 26 (ld 3 25) 24,
 oT 27 (cl 182 #[(t 26)] #[3]) 24,
 o 28 (.pick (.tmp 24) (.tmp 27) (.const (.bool false))),
 o 2 (av 28)])
(.ret [2]))
(S (S (R [o 30 (bo .eql (t 8) (n 2)),
 o 29 (av 30)])
(.cond (t 29)
.skip
(R [o 31 (bo .eql (t 8) (n 3)),
 o 29 (av 31)])))
(.cond (t 29)
(S (R [o 32 (fa 57 1 1),
 o 33 (ld 3 32),
 o 34 (cl 182 #[(t 33)] #[3]),
 o 35 (mv 34),
 oT 36 (fa 57 1 2) 35,
 oT 37 (ld 3 36) 35,
 oT 38 (cl 133 #[(t 37)] #[3]) 35,
 o 39 (.pick (.tmp 35) (.tmp 38) (.const (.bool false))),
 o 40 (mv 39),
 oT 41 (fa 57 1 3) 40,
 oT 42 (ld 3 41) 40,
 oT 43 (bo .geq (t 42) (n 0)) 40,
 o 44 (.pick (.tmp 40) (.tmp 43) (.const (.bool false))),
 o 45 (mv 44),
 oT 46 (fa 57 1 3) 45,
 oT 47 (ld 3 46) 45,
 oT 48 (bo .lss (t 47) (n 4)) 45,
 o 49 (.pick (.tmp 45) (.tmp 48) (.const (.bool false))),
 o 2 (av 49)])
(.ret [2]))
(S (R [o 51 (bo .eql (t 8) (n 4)),
 o 50 (av 51)])
(.cond (t 50)
(S (R [o 52 (fa 57 1 1),
 o 53 (ld 3 52),
 o 54 (cl 182 #[(t 53)] #[3]),
 o 55 (mv 54),
 oT 56 (fa 57 1 2) 55,
 oT 57 (ld 3 56) 55,
 oT 58 (bo .geq (t 57) (n 0)) 55,
 o 59 (.pick (.tmp 55) (.tmp 58) (.const (.bool false))),
 o 60 (mv 59),
 oT 61 (fa 57 1 2) 60,
 oT 62 (ld 3 61) 60,
 oT 63 (bo .leq (t 62) (n 16)) 60,
 o 64 (.pick (.tmp 60) (.tmp 63) (.const (.bool false))),
 o 2 (av 64)])
(.ret [2]))
(S (R [o 66 (bo .eql (t 8) (n 5)),
 o 65 (av 66)])
(.cond (t 65)
(S (R [o 2 (ab true)])
(.ret [2]))
.skip))))))))))))
(S (R [o 67 (fa 57 1 0),
 o 68 (ld 3 67),
 o 69 (bo .eql (t 68) (n 6)),
 o 70 (mv 69),
 oT 71 (fa 57 1 1) 70,
 oT 72 (ld 3 71) 70,
 oT 73 (cl 135 #[(t 72)] #[3]) 70,
 o 74 (.pick (.tmp 70) (.tmp 73) (.const (.bool false))),
 o 2 (av 74)])
(.ret [2])))))
def g178 : IFn := ⟨75, [.tmp 2], [4], c178, [], false, none⟩
/- 179 slices.IndexFunc[[]veil/api.Write,veil/api.Write] -/
def c179_1 : IR := (S (R [o 9 (bo .lss (t 8) (t 7))])
(S (.cond (t 9)
.skip
(.exit 0 []))
(S (.block 1 (S (R [o 10 (mv 8),
 o 5 (av 10)])
(S (R [o 11 (mv 1),
 o 12 (mv 0),
 o 13 (mv 5),
 o 14 (ia 42 12 13),
 o 15 (ld 65 14),
 o 16 (.call { callee := (.value (.tmp 11)), args := #[(.tmp 15)], argTypes := #[65] })])
(.cond (t 16)
(S (R [o 17 (mv 5),
 o 4 (av 17)])
(.ret [4]))
.skip))))
(R [o 18 (bo .add (t 8) (n 1)),
 o 8 (mv 18)]))))
def c179 : IR := (S (R [o 4 (an 0)])
(S (S (R [o 6 (mv 0),
 o 7 (len 6 42),
 o 8 (.move (.const (.int .i64 0)))])
(.block 0 (.loop [0, 1, 7, 8] c179_1)))
(S (R [o 4 (an (-1))])
(.ret [4]))))
def g179 : IFn := ⟨19, [.tmp 4], [3], c179, [], false, none⟩
/- 180 slices.IndexFunc[[]veil/api.Inst,veil/api.Inst] -/
def c180_1 : IR := (S (R [o 9 (bo .lss (t 8) (t 7))])
(S (.cond (t 9)
.skip
(.exit 0 []))
(S (.block 1 (S (R [o 10 (mv 8),
 o 5 (av 10)])
(S (R [o 11 (mv 1),
 o 12 (mv 0),
 o 13 (mv 5),
 o 14 (ia 40 12 13),
 o 15 (ld 57 14),
 o 16 (.call { callee := (.value (.tmp 11)), args := #[(.tmp 15)], argTypes := #[57] })])
(.cond (t 16)
(S (R [o 17 (mv 5),
 o 4 (av 17)])
(.ret [4]))
.skip))))
(R [o 18 (bo .add (t 8) (n 1)),
 o 8 (mv 18)]))))
def c180 : IR := (S (R [o 4 (an 0)])
(S (S (R [o 6 (mv 0),
 o 7 (len 6 40),
 o 8 (.move (.const (.int .i64 0)))])
(.block 0 (.loop [0, 1, 7, 8] c180_1)))
(S (R [o 4 (an (-1))])
(.ret [4]))))
def g180 : IFn := ⟨19, [.tmp 4], [3], c180, [], false, none⟩
/- 181 veil/inst.names -/
def d181_1 : IR := D [o 13 (fa 57 1 1),
 o 14 (ld 3 13),
 o 15 (fa 57 1 2),
 o 16 (ld 3 15),
 o 17 (fa 57 3 1),
 w (st 3 17 14),
 o 18 (fa 57 3 2),
 w (st 3 18 16)] [[], [0], [], [2], [0, 1], [4, 1, 0, 1], [0, 1, 2, 3, 4, 5], [6, 3, 5, 0, 1, 2, 3, 4, 5]]
def c181 : IR := (S (R [z 1 (bx 57 0),
 o 2 (al 57)])
(S (R [o 4 (fa 57 1 0),
 o 5 (ld 3 4),
 o 6 (.build 57 #[(0, (.tmp 5))]),
 o 3 (al 57),
 w (st 57 3 6)])
(S (S (R [o 7 (fa 57 1 0),
 o 8 (ld 3 7)])
(.block 0 (S (S (R [o 10 (bo .eql (t 8) (n 0)),
 o 9 (av 10)])
(.cond (t 9)
.skip
(S (R [o 11 (bo .eql (t 8) (n 1)),
 o 9 (av 11)])
(.cond (t 9)
.skip
(R [o 12 (bo .eql (t 8) (n 4)),
 o 9 (av 12)])))))
(.cond (t 9)
d181_1
(S (S (R [o 20 (bo .eql (t 8) (n 2)),
 o 19 (av 20)])
(.cond (t 19)
.skip
(R [o 21 (bo .eql (t 8) (n 3)),
 o 19 (av 21)])))
(.cond (t 19)
(R [o 22 (ld 57 1),
 w (st 57 3 22)])
(S (R [o 24 (bo .eql (t 8) (n 6)),
 o 23 (av 24)])
(.cond (t 23)
(R [o 25 (fa 57 1 1),
 o 26 (ld 3 25),
 o 27 (fa 57 3 1),
 w (st 3 27 26)])
.skip))))))))
(S (R [o 28 (ld 57 3),
 w (st 57 2 28)])
(.ret [2])))))
def g181 : IFn := ⟨29, [.cell 2 57], [57], c181, [], false, none⟩
/- 182 veil/regs.Reg -/
def c182 : IR := (S (R [o 2 (ab false)])
(S (R [o 3 (mv 0),
 o 4 (bo .geq (t 3) (n 0)),
 o 5 (mv 4),
 oT 6 (mv 0) 5,
 oT 7 (bo .lss (t 6) (n 4)) 5,
 o 8 (.pick (.tmp 5) (.tmp 7) (.const (.bool false))),
 o 2 (av 8)])
(.ret [2])))
def g182 : IFn := ⟨9, [.tmp 2], [4], c182, [], false, none⟩
def tblL : List (Nat × IFn) := [(3, g3), (4, g4), (5, g5), (6, g6), (7, g7), (8, g8), (9, g9), (10, g10), (11, g11), (12, g12), (13, g13), (14, g14), (15, g15), (16, g16), (17, g17), (18, g18), (19, g19), (20, g20), (21, g21), (22, g22), (23, g23), (24, g24), (25, g25), (26, g26), (27, g27), (28, g28), (29, g29), (30, g30), (31, g31), (32, g32), (33, g33), (34, g34), (35, g35), (36, g36), (37, g37), (38, g38), (39, g39), (40, g40), (41, g41), (42, g42), (43, g43), (44, g44), (45, g45), (46, g46), (47, g47), (48, g48), (49, g49), (50, g50), (51, g51), (52, g52), (53, g53), (54, g54), (55, g55), (56, g56), (57, g57), (58, g58), (59, g59), (60, g60), (61, g61), (62, g62), (63, g63), (64, g64), (65, g65), (66, g66), (67, g67), (68, g68), (69, g69), (70, g70), (71, g71), (72, g72), (73, g73), (74, g74), (75, g75), (76, g76), (77, g77), (78, g78), (79, g79), (80, g80), (81, g81), (82, g82), (83, g83), (84, g84), (85, g85), (86, g86), (87, g87), (88, g88), (89, g89), (90, g90), (91, g91), (92, g92), (93, g93), (94, g94), (95, g95), (96, g96), (97, g97), (98, g98), (99, g99), (100, g100), (101, g101), (102, g102), (103, g103), (104, g104), (105, g105), (106, g106), (107, g107), (108, g108), (109, g109), (110, g110), (111, g111), (112, g112), (113, g113), (114, g114), (115, g115), (116, g116), (117, g117), (118, g118), (119, g119), (120, g120), (121, g121), (122, g122), (123, g123), (124, g124), (125, g125), (126, g126), (127, g127), (128, g128), (129, g129), (130, g130), (131, g131), (132, g132), (133, g133), (134, g134), (135, g135), (136, g136), (137, g137), (138, g138), (139, g139), (140, g140), (141, g141), (142, g142), (143, g143), (144, g144), (145, g145), (146, g146), (147, g147), (148, g148), (149, g149), (150, g150), (151, g151), (152, g152), (153, g153), (154, g154), (155, g155), (156, g156), (157, g157), (158, g158), (159, g159), (160, g160), (161, g161), (162, g162), (163, g163), (164, g164), (165, g165), (166, g166), (167, g167), (168, g168), (169, g169), (170, g170), (171, g171), (172, g172), (173, g173), (174, g174), (175, g175), (176, g176), (177, g177), (178, g178), (179, g179), (180, g180), (181, g181), (182, g182)]
def tbl : Tbl := lk tblL
def ctx : Ctx := ⟨lay, tbl⟩
@[go_sem] theorem ctx_L : ctx.L = lay := rfl
@[go_sem] theorem ctx_T : ctx.T = tbl := rfl
attribute [go_sem] y1 y2 y3 y4 y5 y6 y7 y8 y9 y10 y11 y12 y13 y22 y23 y24 y25 y26 y28 y30 y40 y41 y42 y44 y50 y51 y54 y57 y59 y65 y68 y73 y74 y92 y94 y95 y96 y98 y114 y124 y139 y143 y162 y164 y166 y168 y176 y178 y203
@[go_sem] theorem lay_1 : lay 1 = some y1 := rfl
@[go_sem] theorem lay_2 : lay 2 = some y2 := rfl
@[go_sem] theorem lay_3 : lay 3 = some y3 := rfl
@[go_sem] theorem lay_4 : lay 4 = some y4 := rfl
@[go_sem] theorem lay_5 : lay 5 = some y5 := rfl
@[go_sem] theorem lay_6 : lay 6 = some y6 := rfl
@[go_sem] theorem lay_7 : lay 7 = some y7 := rfl
@[go_sem] theorem lay_8 : lay 8 = some y8 := rfl
@[go_sem] theorem lay_9 : lay 9 = some y9 := rfl
@[go_sem] theorem lay_10 : lay 10 = some y10 := rfl
@[go_sem] theorem lay_11 : lay 11 = some y11 := rfl
@[go_sem] theorem lay_12 : lay 12 = some y12 := rfl
@[go_sem] theorem lay_13 : lay 13 = some y13 := rfl
@[go_sem] theorem lay_22 : lay 22 = some y22 := rfl
@[go_sem] theorem lay_23 : lay 23 = some y23 := rfl
@[go_sem] theorem lay_24 : lay 24 = some y24 := rfl
@[go_sem] theorem lay_25 : lay 25 = some y25 := rfl
@[go_sem] theorem lay_26 : lay 26 = some y26 := rfl
@[go_sem] theorem lay_28 : lay 28 = some y28 := rfl
@[go_sem] theorem lay_30 : lay 30 = some y30 := rfl
@[go_sem] theorem lay_40 : lay 40 = some y40 := rfl
@[go_sem] theorem lay_41 : lay 41 = some y41 := rfl
@[go_sem] theorem lay_42 : lay 42 = some y42 := rfl
@[go_sem] theorem lay_44 : lay 44 = some y44 := rfl
@[go_sem] theorem lay_50 : lay 50 = some y50 := rfl
@[go_sem] theorem lay_51 : lay 51 = some y51 := rfl
@[go_sem] theorem lay_54 : lay 54 = some y54 := rfl
@[go_sem] theorem lay_57 : lay 57 = some y57 := rfl
@[go_sem] theorem lay_59 : lay 59 = some y59 := rfl
@[go_sem] theorem lay_65 : lay 65 = some y65 := rfl
@[go_sem] theorem lay_68 : lay 68 = some y68 := rfl
@[go_sem] theorem lay_73 : lay 73 = some y73 := rfl
@[go_sem] theorem lay_74 : lay 74 = some y74 := rfl
@[go_sem] theorem lay_92 : lay 92 = some y92 := rfl
@[go_sem] theorem lay_94 : lay 94 = some y94 := rfl
@[go_sem] theorem lay_95 : lay 95 = some y95 := rfl
@[go_sem] theorem lay_96 : lay 96 = some y96 := rfl
@[go_sem] theorem lay_98 : lay 98 = some y98 := rfl
@[go_sem] theorem lay_114 : lay 114 = some y114 := rfl
@[go_sem] theorem lay_124 : lay 124 = some y124 := rfl
@[go_sem] theorem lay_139 : lay 139 = some y139 := rfl
@[go_sem] theorem lay_143 : lay 143 = some y143 := rfl
@[go_sem] theorem lay_162 : lay 162 = some y162 := rfl
@[go_sem] theorem lay_164 : lay 164 = some y164 := rfl
@[go_sem] theorem lay_166 : lay 166 = some y166 := rfl
@[go_sem] theorem lay_168 : lay 168 = some y168 := rfl
@[go_sem] theorem lay_176 : lay 176 = some y176 := rfl
@[go_sem] theorem lay_178 : lay 178 = some y178 := rfl
@[go_sem] theorem lay_203 : lay 203 = some y203 := rfl
@[go_sem] theorem k3 : CallP tbl 3 [] := fun _ _ _ _ _ _ => rfl
@[go_sem] theorem k4 : CallP tbl 4 [] := fun _ _ _ _ _ _ => rfl
@[go_sem] theorem k5 : CallP tbl 5 [] := fun _ _ _ _ _ _ => rfl
@[go_sem] theorem k6 : CallP tbl 6 [] := fun _ _ _ _ _ _ => rfl
@[go_sem] theorem k7 : CallP tbl 7 [] := fun _ _ _ _ _ _ => rfl
@[go_sem] theorem k8 : CallP tbl 8 [] := fun _ _ _ _ _ _ => rfl
@[go_sem] theorem k9 : CallP tbl 9 [] := fun _ _ _ _ _ _ => rfl
@[go_sem] theorem k10 : CallP tbl 10 [] := fun _ _ _ _ _ _ => rfl
@[go_sem] theorem k11 : CallP tbl 11 [] := fun _ _ _ _ _ _ => rfl
@[go_sem] theorem k12 : CallP tbl 12 [] := fun _ _ _ _ _ _ => rfl
@[go_sem] theorem k13 : CallP tbl 13 [] := fun _ _ _ _ _ _ => rfl
@[go_sem] theorem k14 : CallP tbl 14 [] := fun _ _ _ _ _ _ => rfl
@[go_sem] theorem k15 : CallP tbl 15 [] := fun _ _ _ _ _ _ => rfl
@[go_sem] theorem k16 : CallP tbl 16 [] := fun _ _ _ _ _ _ => rfl
@[go_sem] theorem k17 : CallP tbl 17 [] := fun _ _ _ _ _ _ => rfl
@[go_sem] theorem k18 : CallP tbl 18 [] := fun _ _ _ _ _ _ => rfl
@[go_sem] theorem k19 : CallP tbl 19 [] := fun _ _ _ _ _ _ => rfl
@[go_sem] theorem k20 : CallP tbl 20 [true] := fun _ _ _ _ _ _ => rfl
@[go_sem] theorem k21 : CallP tbl 21 [] := fun _ _ _ _ _ _ => rfl
@[go_sem] theorem k22 : CallP tbl 22 [] := fun _ _ _ _ _ _ => rfl
@[go_sem] theorem k23 : CallP tbl 23 [] := fun _ _ _ _ _ _ => rfl
@[go_sem] theorem k24 : CallP tbl 24 [] := fun _ _ _ _ _ _ => rfl
@[go_sem] theorem k25 : CallP tbl 25 [] := fun _ _ _ _ _ _ => rfl
@[go_sem] theorem k26 : CallP tbl 26 [] := fun _ _ _ _ _ _ => rfl
@[go_sem] theorem k27 : CallP tbl 27 [] := fun _ _ _ _ _ _ => rfl
@[go_sem] theorem k28 : CallP tbl 28 [] := fun _ _ _ _ _ _ => rfl
@[go_sem] theorem k29 : CallP tbl 29 [] := fun _ _ _ _ _ _ => rfl
@[go_sem] theorem k30 : CallP tbl 30 [] := fun _ _ _ _ _ _ => rfl
@[go_sem] theorem k31 : CallP tbl 31 [] := fun _ _ _ _ _ _ => rfl
@[go_sem] theorem k32 : CallP tbl 32 [] := fun _ _ _ _ _ _ => rfl
@[go_sem] theorem k33 : CallP tbl 33 [] := fun _ _ _ _ _ _ => rfl
@[go_sem] theorem k34 : CallP tbl 34 [] := fun _ _ _ _ _ _ => rfl
@[go_sem] theorem k35 : CallP tbl 35 [] := fun _ _ _ _ _ _ => rfl
@[go_sem] theorem k36 : CallP tbl 36 [] := fun _ _ _ _ _ _ => rfl
@[go_sem] theorem k37 : CallP tbl 37 [] := fun _ _ _ _ _ _ => rfl
@[go_sem] theorem k38 : CallP tbl 38 [] := fun _ _ _ _ _ _ => rfl
@[go_sem] theorem k39 : CallI tbl 39 := fun _ _ _ _ _ _ => rfl
@[go_sem] theorem k40 : CallP tbl 40 [] := fun _ _ _ _ _ _ => rfl
@[go_sem] theorem k41 : CallP tbl 41 [] := fun _ _ _ _ _ _ => rfl
@[go_sem] theorem k42 : CallP tbl 42 [] := fun _ _ _ _ _ _ => rfl
@[go_sem] theorem k43 : CallP tbl 43 [] := fun _ _ _ _ _ _ => rfl
@[go_sem] theorem k44 : CallP tbl 44 [] := fun _ _ _ _ _ _ => rfl
@[go_sem] theorem k45 : CallP tbl 45 [] := fun _ _ _ _ _ _ => rfl
@[go_sem] theorem k46 : CallP tbl 46 [true] := fun _ _ _ _ _ _ => rfl
@[go_sem] theorem k47 : CallP tbl 47 [] := fun _ _ _ _ _ _ => rfl
@[go_sem] theorem k48 : CallP tbl 48 [] := fun _ _ _ _ _ _ => rfl
@[go_sem] theorem k49 : CallP tbl 49 [true] := fun _ _ _ _ _ _ => rfl
@[go_sem] theorem k50 : CallP tbl 50 [true] := fun _ _ _ _ _ _ => rfl
@[go_sem] theorem k51 : CallP tbl 51 [true] := fun _ _ _ _ _ _ => rfl
@[go_sem] theorem k52 : CallP tbl 52 [] := fun _ _ _ _ _ _ => rfl
@[go_sem] theorem k53 : CallP tbl 53 [] := fun _ _ _ _ _ _ => rfl
@[go_sem] theorem k54 : CallP tbl 54 [] := fun _ _ _ _ _ _ => rfl
@[go_sem] theorem k55 : CallP tbl 55 [] := fun _ _ _ _ _ _ => rfl
@[go_sem] theorem k56 : CallP tbl 56 [] := fun _ _ _ _ _ _ => rfl
@[go_sem] theorem k57 : CallP tbl 57 [] := fun _ _ _ _ _ _ => rfl
@[go_sem] theorem k58 : CallP tbl 58 [] := fun _ _ _ _ _ _ => rfl
@[go_sem] theorem k59 : CallP tbl 59 [] := fun _ _ _ _ _ _ => rfl
@[go_sem] theorem k60 : CallP tbl 60 [] := fun _ _ _ _ _ _ => rfl
@[go_sem] theorem k61 : CallP tbl 61 [] := fun _ _ _ _ _ _ => rfl
@[go_sem] theorem k62 : CallP tbl 62 [] := fun _ _ _ _ _ _ => rfl
@[go_sem] theorem k63 : CallP tbl 63 [] := fun _ _ _ _ _ _ => rfl
@[go_sem] theorem k64 : CallP tbl 64 [] := fun _ _ _ _ _ _ => rfl
@[go_sem] theorem k65 : CallP tbl 65 [] := fun _ _ _ _ _ _ => rfl
@[go_sem] theorem k66 : CallP tbl 66 [] := fun _ _ _ _ _ _ => rfl
@[go_sem] theorem k67 : CallP tbl 67 [] := fun _ _ _ _ _ _ => rfl
@[go_sem] theorem k68 : CallP tbl 68 [] := fun _ _ _ _ _ _ => rfl
@[go_sem] theorem k69 : CallP tbl 69 [] := fun _ _ _ _ _ _ => rfl
@[go_sem] theorem k70 : CallP tbl 70 [] := fun _ _ _ _ _ _ => rfl
@[go_sem] theorem k71 : CallP tbl 71 [] := fun _ _ _ _ _ _ => rfl
@[go_sem] theorem k72 : CallP tbl 72 [] := fun _ _ _ _ _ _ => rfl
@[go_sem] theorem k73 : CallP tbl 73 [] := fun _ _ _ _ _ _ => rfl
@[go_sem] theorem k74 : CallC tbl 74 17 184 := fun _ _ _ _ => rfl
@[go_sem] theorem k75 : CallC tbl 75 4 32 := fun _ _ _ _ => rfl
@[go_sem] theorem k76 : CallP tbl 76 [] := fun _ _ _ _ _ _ => rfl
@[go_sem] theorem k77 : CallP tbl 77 [] := fun _ _ _ _ _ _ => rfl
@[go_sem] theorem k78 : CallI tbl 78 := fun _ _ _ _ _ _ => rfl
@[go_sem] theorem k79 : CallP tbl 79 [] := fun _ _ _ _ _ _ => rfl
@[go_sem] theorem k80 : CallP tbl 80 [] := fun _ _ _ _ _ _ => rfl
@[go_sem] theorem k81 : CallP tbl 81 [] := fun _ _ _ _ _ _ => rfl
@[go_sem] theorem k82 : CallP tbl 82 [] := fun _ _ _ _ _ _ => rfl
@[go_sem] theorem k83 : CallP tbl 83 [] := fun _ _ _ _ _ _ => rfl
@[go_sem] theorem k84 : CallP tbl 84 [] := fun _ _ _ _ _ _ => rfl
@[go_sem] theorem k85 : CallP tbl 85 [true] := fun _ _ _ _ _ _ => rfl
@[go_sem] theorem k86 : CallP tbl 86 [true] := fun _ _ _ _ _ _ => rfl
@[go_sem] theorem k87 : CallP tbl 87 [true] := fun _ _ _ _ _ _ => rfl
@[go_sem] theorem k88 : CallP tbl 88 [true] := fun _ _ _ _ _ _ => rfl
@[go_sem] theorem k89 : CallP tbl 89 [] := fun _ _ _ _ _ _ => rfl
@[go_sem] theorem k90 : CallP tbl 90 [] := fun _ _ _ _ _ _ => rfl
@[go_sem] theorem k91 : CallP tbl 91 [] := fun _ _ _ _ _ _ => rfl
@[go_sem] theorem k92 : CallP tbl 92 [] := fun _ _ _ _ _ _ => rfl
@[go_sem] theorem k93 : CallP tbl 93 [] := fun _ _ _ _ _ _ => rfl
@[go_sem] theorem k94 : CallP tbl 94 [] := fun _ _ _ _ _ _ => rfl
@[go_sem] theorem k95 : CallP tbl 95 [] := fun _ _ _ _ _ _ => rfl
@[go_sem] theorem k96 : CallP tbl 96 [] := fun _ _ _ _ _ _ => rfl
@[go_sem] theorem k97 : CallP tbl 97 [] := fun _ _ _ _ _ _ => rfl
@[go_sem] theorem k98 : CallP tbl 98 [] := fun _ _ _ _ _ _ => rfl
@[go_sem] theorem k99 : CallP tbl 99 [] := fun _ _ _ _ _ _ => rfl
@[go_sem] theorem k100 : CallP tbl 100 [] := fun _ _ _ _ _ _ => rfl
@[go_sem] theorem k101 : CallP tbl 101 [] := fun _ _ _ _ _ _ => rfl
@[go_sem] theorem k102 : CallP tbl 102 [] := fun _ _ _ _ _ _ => rfl
@[go_sem] theorem k103 : CallP tbl 103 [] := fun _ _ _ _ _ _ => rfl
@[go_sem] theorem k104 : CallP tbl 104 [] := fun _ _ _ _ _ _ => rfl
@[go_sem] theorem k105 : CallP tbl 105 [] := fun _ _ _ _ _ _ => rfl
@[go_sem] theorem k106 : CallP tbl 106 [] := fun _ _ _ _ _ _ => rfl
@[go_sem] theorem k107 : CallP tbl 107 [] := fun _ _ _ _ _ _ => rfl
@[go_sem] theorem k108 : CallP tbl 108 [] := fun _ _ _ _ _ _ => rfl
@[go_sem] theorem k109 : CallP tbl 109 [] := fun _ _ _ _ _ _ => rfl
@[go_sem] theorem k110 : CallC tbl 110 3 24 := fun _ _ _ _ => rfl
@[go_sem] theorem k111 : CallP tbl 111 [] := fun _ _ _ _ _ _ => rfl
@[go_sem] theorem k112 : CallP tbl 112 [] := fun _ _ _ _ _ _ => rfl
@[go_sem] theorem k113 : CallP tbl 113 [] := fun _ _ _ _ _ _ => rfl
@[go_sem] theorem k114 : CallP tbl 114 [] := fun _ _ _ _ _ _ => rfl
@[go_sem] theorem k115 : CallP tbl 115 [] := fun _ _ _ _ _ _ => rfl
@[go_sem] theorem k116 : CallP tbl 116 [] := fun _ _ _ _ _ _ => rfl
@[go_sem] theorem k117 : CallP tbl 117 [] := fun _ _ _ _ _ _ => rfl
@[go_sem] theorem k118 : CallC tbl 118 3 24 := fun _ _ _ _ => rfl
@[go_sem] theorem k119 : CallC tbl 119 4 32 := fun _ _ _ _ => rfl
@[go_sem] theorem k120 : CallC tbl 120 3 24 := fun _ _ _ _ => rfl
@[go_sem] theorem k121 : CallP tbl 121 [] := fun _ _ _ _ _ _ => rfl
@[go_sem] theorem k122 : CallP tbl 122 [] := fun _ _ _ _ _ _ => rfl
@[go_sem] theorem k123 : CallI tbl 123 := fun _ _ _ _ _ _ => rfl
@[go_sem] theorem k124 : CallP tbl 124 [] := fun _ _ _ _ _ _ => rfl
@[go_sem] theorem k125 : CallP tbl 125 [] := fun _ _ _ _ _ _ => rfl
@[go_sem] theorem k126 : CallP tbl 126 [] := fun _ _ _ _ _ _ => rfl
@[go_sem] theorem k127 : CallP tbl 127 [] := fun _ _ _ _ _ _ => rfl
@[go_sem] theorem k128 : CallP tbl 128 [] := fun _ _ _ _ _ _ => rfl
@[go_sem] theorem k129 : CallP tbl 129 [] := fun _ _ _ _ _ _ => rfl
@[go_sem] theorem k130 : CallP tbl 130 [] := fun _ _ _ _ _ _ => rfl
@[go_sem] theorem k131 : CallP tbl 131 [] := fun _ _ _ _ _ _ => rfl
@[go_sem] theorem k132 : CallP tbl 132 [] := fun _ _ _ _ _ _ => rfl
@[go_sem] theorem k133 : CallP tbl 133 [] := fun _ _ _ _ _ _ => rfl
@[go_sem] theorem k134 : CallP tbl 134 [] := fun _ _ _ _ _ _ => rfl
@[go_sem] theorem k135 : CallP tbl 135 [] := fun _ _ _ _ _ _ => rfl
@[go_sem] theorem k136 : CallP tbl 136 [] := fun _ _ _ _ _ _ => rfl
@[go_sem] theorem k137 : CallP tbl 137 [] := fun _ _ _ _ _ _ => rfl
@[go_sem] theorem k138 : CallP tbl 138 [] := fun _ _ _ _ _ _ => rfl
@[go_sem] theorem k139 : CallP tbl 139 [] := fun _ _ _ _ _ _ => rfl
@[go_sem] theorem k140 : CallP tbl 140 [] := fun _ _ _ _ _ _ => rfl
@[go_sem] theorem k141 : CallP tbl 141 [] := fun _ _ _ _ _ _ => rfl
@[go_sem] theorem k142 : CallP tbl 142 [] := fun _ _ _ _ _ _ => rfl
@[go_sem] theorem k143 : CallP tbl 143 [] := fun _ _ _ _ _ _ => rfl
@[go_sem] theorem k144 : CallP tbl 144 [] := fun _ _ _ _ _ _ => rfl
@[go_sem] theorem k145 : CallP tbl 145 [] := fun _ _ _ _ _ _ => rfl
@[go_sem] theorem k146 : CallP tbl 146 [] := fun _ _ _ _ _ _ => rfl
@[go_sem] theorem k147 : CallP tbl 147 [] := fun _ _ _ _ _ _ => rfl
@[go_sem] theorem k148 : CallP tbl 148 [] := fun _ _ _ _ _ _ => rfl
@[go_sem] theorem k149 : CallP tbl 149 [] := fun _ _ _ _ _ _ => rfl
@[go_sem] theorem k150 : CallP tbl 150 [] := fun _ _ _ _ _ _ => rfl
@[go_sem] theorem k151 : CallP tbl 151 [] := fun _ _ _ _ _ _ => rfl
@[go_sem] theorem k152 : CallP tbl 152 [] := fun _ _ _ _ _ _ => rfl
@[go_sem] theorem k153 : CallP tbl 153 [] := fun _ _ _ _ _ _ => rfl
@[go_sem] theorem k154 : CallP tbl 154 [] := fun _ _ _ _ _ _ => rfl
@[go_sem] theorem k155 : CallP tbl 155 [] := fun _ _ _ _ _ _ => rfl
@[go_sem] theorem k156 : CallP tbl 156 [] := fun _ _ _ _ _ _ => rfl
@[go_sem] theorem k157 : CallP tbl 157 [] := fun _ _ _ _ _ _ => rfl
@[go_sem] theorem k158 : CallP tbl 158 [] := fun _ _ _ _ _ _ => rfl
@[go_sem] theorem k159 : CallP tbl 159 [] := fun _ _ _ _ _ _ => rfl
@[go_sem] theorem k160 : CallP tbl 160 [] := fun _ _ _ _ _ _ => rfl
@[go_sem] theorem k161 : CallP tbl 161 [] := fun _ _ _ _ _ _ => rfl
@[go_sem] theorem k162 : CallP tbl 162 [] := fun _ _ _ _ _ _ => rfl
@[go_sem] theorem k163 : CallP tbl 163 [] := fun _ _ _ _ _ _ => rfl
@[go_sem] theorem k164 : CallP tbl 164 [] := fun _ _ _ _ _ _ => rfl
@[go_sem] theorem k165 : CallP tbl 165 [] := fun _ _ _ _ _ _ => rfl
@[go_sem] theorem k166 : CallP tbl 166 [] := fun _ _ _ _ _ _ => rfl
@[go_sem] theorem k167 : CallP tbl 167 [] := fun _ _ _ _ _ _ => rfl
@[go_sem] theorem k168 : CallP tbl 168 [] := fun _ _ _ _ _ _ => rfl
@[go_sem] theorem k169 : CallP tbl 169 [] := fun _ _ _ _ _ _ => rfl
@[go_sem] theorem k170 : CallP tbl 170 [] := fun _ _ _ _ _ _ => rfl
@[go_sem] theorem k171 : CallP tbl 171 [] := fun _ _ _ _ _ _ => rfl
@[go_sem] theorem k172 : CallP tbl 172 [] := fun _ _ _ _ _ _ => rfl
@[go_sem] theorem k173 : CallP tbl 173 [] := fun _ _ _ _ _ _ => rfl
@[go_sem] theorem k174 : CallP tbl 174 [] := fun _ _ _ _ _ _ => rfl
@[go_sem] theorem k175 : CallP tbl 175 [] := fun _ _ _ _ _ _ => rfl
@[go_sem] theorem k176 : CallP tbl 176 [] := fun _ _ _ _ _ _ => rfl
@[go_sem] theorem k177 : CallP tbl 177 [] := fun _ _ _ _ _ _ => rfl
@[go_sem] theorem k178 : CallP tbl 178 [] := fun _ _ _ _ _ _ => rfl
@[go_sem] theorem k179 : CallP tbl 179 [] := fun _ _ _ _ _ _ => rfl
@[go_sem] theorem k180 : CallP tbl 180 [] := fun _ _ _ _ _ _ => rfl
@[go_sem] theorem k181 : CallP tbl 181 [] := fun _ _ _ _ _ _ => rfl
@[go_sem] theorem k182 : CallP tbl 182 [] := fun _ _ _ _ _ _ => rfl
section
variable (O : Orc) (P : FuncId → List V → Option V) (k : Nat) (s : St) (q : Out → St → Option Ans) (Q : V → Hp → Nat → Prop)
@[go_sem ↓] theorem v4_1 : Fin (evC ctx O P k d4_1 s q) Q = GU d4_1 ctx P s q Q ⟨⟩ ⟨⟩ := gE_U _ _ _ _ _ _ _ (by kernel_rfl)
@[go_sem ↓] theorem v5_1 : Fin (evC ctx O P k d5_1 s q) Q = GU d5_1 ctx P s q Q ⟨⟩ ⟨⟩ := gE_U _ _ _ _ _ _ _ (by kernel_rfl)
@[go_sem ↓] theorem v8_1 : Fin (evC ctx O P k d8_1 s q) Q = GU d8_1 ctx P s q Q ⟨⟩ ⟨⟩ := gE_U _ _ _ _ _ _ _ (by kernel_rfl)
@[go_sem ↓] theorem v10_1 : Fin (evC ctx O P k d10_1 s q) Q = GU d10_1 ctx P s q Q ⟨⟩ ⟨⟩ := gE_U _ _ _ _ _ _ _ (by kernel_rfl)
@[go_sem ↓] theorem v12_1 : Fin (evC ctx O P k d12_1 s q) Q = GU d12_1 ctx P s q Q ⟨⟩ ⟨⟩ := gE_U _ _ _ _ _ _ _ (by kernel_rfl)
@[go_sem ↓] theorem v15_1 : Fin (evC ctx O P k d15_1 s q) Q = GU d15_1 ctx P s q Q ⟨⟩ ⟨⟩ := gE_U _ _ _ _ _ _ _ (by kernel_rfl)
@[go_sem ↓] theorem v16_1 : Fin (evC ctx O P k d16_1 s q) Q = GU d16_1 ctx P s q Q ⟨⟩ ⟨⟩ := gE_U _ _ _ _ _ _ _ (by kernel_rfl)
@[go_sem ↓] theorem v17_1 : Fin (evC ctx O P k d17_1 s q) Q = GU d17_1 ctx P s q Q ⟨⟩ ⟨⟩ := gE_U _ _ _ _ _ _ _ (by kernel_rfl)
@[go_sem ↓] theorem v17_2 : Fin (evC ctx O P k d17_2 s q) Q = GU d17_2 ctx P s q Q ⟨⟩ ⟨⟩ := gE_U _ _ _ _ _ _ _ (by kernel_rfl)
@[go_sem ↓] theorem v18_1 : Fin (evC ctx O P k d18_1 s q) Q = GU d18_1 ctx P s q Q ⟨⟩ ⟨⟩ := gE_U _ _ _ _ _ _ _ (by kernel_rfl)
@[go_sem ↓] theorem v20_1 : Fin (evC ctx O P k d20_1 s q) Q = GU d20_1 ctx P s q Q ⟨⟩ ⟨⟩ := gE_U _ _ _ _ _ _ _ (by kernel_rfl)
@[go_sem ↓] theorem v22_1 : Fin (evC ctx O P k d22_1 s q) Q = GU d22_1 ctx P s q Q ⟨⟩ ⟨⟩ := gE_U _ _ _ _ _ _ _ (by kernel_rfl)
@[go_sem ↓] theorem v23_1 : Fin (evC ctx O P k d23_1 s q) Q = GU d23_1 ctx P s q Q ⟨⟩ ⟨⟩ := gE_U _ _ _ _ _ _ _ (by kernel_rfl)
@[go_sem ↓] theorem v24_1 : Fin (evC ctx O P k d24_1 s q) Q = GU d24_1 ctx P s q Q ⟨⟩ ⟨⟩ := gE_U _ _ _ _ _ _ _ (by kernel_rfl)
@[go_sem ↓] theorem v29_1 : Fin (evC ctx O P k d29_1 s q) Q = GU d29_1 ctx P s q Q ⟨⟩ ⟨⟩ := gE_U _ _ _ _ _ _ _ (by kernel_rfl)
@[go_sem ↓] theorem v29_2 : Fin (evC ctx O P k d29_2 s q) Q = GU d29_2 ctx P s q Q ⟨⟩ ⟨⟩ := gE_U _ _ _ _ _ _ _ (by kernel_rfl)
@[go_sem ↓] theorem v29_3 : Fin (evC ctx O P k d29_3 s q) Q = GU d29_3 ctx P s q Q ⟨⟩ ⟨⟩ := gE_U _ _ _ _ _ _ _ (by kernel_rfl)
@[go_sem ↓] theorem v29_4 : Fin (evC ctx O P k d29_4 s q) Q = GU d29_4 ctx P s q Q ⟨⟩ ⟨⟩ := gE_U _ _ _ _ _ _ _ (by kernel_rfl)
@[go_sem ↓] theorem v29_5 : Fin (evC ctx O P k d29_5 s q) Q = GU d29_5 ctx P s q Q ⟨⟩ ⟨⟩ := gE_U _ _ _ _ _ _ _ (by kernel_rfl)
@[go_sem ↓] theorem v29_6 : Fin (evC ctx O P k d29_6 s q) Q = GU d29_6 ctx P s q Q ⟨⟩ ⟨⟩ := gE_U _ _ _ _ _ _ _ (by kernel_rfl)
@[go_sem ↓] theorem v30_1 : Fin (evC ctx O P k d30_1 s q) Q = GU d30_1 ctx P s q Q ⟨⟩ ⟨⟩ := gE_U _ _ _ _ _ _ _ (by kernel_rfl)
@[go_sem ↓] theorem v30_2 : Fin (evC ctx O P k d30_2 s q) Q = GU d30_2 ctx P s q Q ⟨⟩ ⟨⟩ := gE_U _ _ _ _ _ _ _ (by kernel_rfl)
@[go_sem ↓] theorem v32_1 : Fin (evC ctx O P k d32_1 s q) Q = GU d32_1 ctx P s q Q ⟨⟩ ⟨⟩ := gE_U _ _ _ _ _ _ _ (by kernel_rfl)
@[go_sem ↓] theorem v32_2 : Fin (evC ctx O P k d32_2 s q) Q = GU d32_2 ctx P s q Q ⟨⟩ ⟨⟩ := gE_U _ _ _ _ _ _ _ (by kernel_rfl)
@[go_sem ↓] theorem v34_1 : Fin (evC ctx O P k d34_1 s q) Q = GU d34_1 ctx P s q Q ⟨⟩ ⟨⟩ := gE_U _ _ _ _ _ _ _ (by kernel_rfl)
@[go_sem ↓] theorem v37_1 : Fin (evC ctx O P k d37_1 s q) Q = GU d37_1 ctx P s q Q ⟨⟩ ⟨⟩ := gE_U _ _ _ _ _ _ _ (by kernel_rfl)
@[go_sem ↓] theorem v38_1 : Fin (evC ctx O P k d38_1 s q) Q = GU d38_1 ctx P s q Q ⟨⟩ ⟨⟩ := gE_U _ _ _ _ _ _ _ (by kernel_rfl)
@[go_sem ↓] theorem v38_2 : Fin (evC ctx O P k d38_2 s q) Q = GU d38_2 ctx P s q Q ⟨⟩ ⟨⟩ := gE_U _ _ _ _ _ _ _ (by kernel_rfl)
@[go_sem ↓] theorem v39_1 : Fin (evC ctx O P k d39_1 s q) Q = GU d39_1 ctx P s q Q ⟨⟩ ⟨⟩ := gE_U _ _ _ _ _ _ _ (by kernel_rfl)
@[go_sem ↓] theorem v41_1 : Fin (evC ctx O P k d41_1 s q) Q = GU d41_1 ctx P s q Q ⟨⟩ ⟨⟩ := gE_U _ _ _ _ _ _ _ (by kernel_rfl)
@[go_sem ↓] theorem v45_1 : Fin (evC ctx O P k d45_1 s q) Q = GU d45_1 ctx P s q Q ⟨⟩ ⟨⟩ := gE_U _ _ _ _ _ _ _ (by kernel_rfl)
@[go_sem ↓] theorem v46_1 : Fin (evC ctx O P k d46_1 s q) Q = GU d46_1 ctx P s q Q ⟨⟩ ⟨⟩ := gE_U _ _ _ _ _ _ _ (by kernel_rfl)
@[go_sem ↓] theorem v47_1 : Fin (evC ctx O P k d47_1 s q) Q = GU d47_1 ctx P s q Q ⟨⟩ ⟨⟩ := gE_U _ _ _ _ _ _ _ (by kernel_rfl)
@[go_sem ↓] theorem v47_2 : Fin (evC ctx O P k d47_2 s q) Q = GU d47_2 ctx P s q Q ⟨⟩ ⟨⟩ := gE_U _ _ _ _ _ _ _ (by kernel_rfl)
@[go_sem ↓] theorem v52_1 : Fin (evC ctx O P k d52_1 s q) Q = GU d52_1 ctx P s q Q ⟨⟩ ⟨⟩ := gE_U _ _ _ _ _ _ _ (by kernel_rfl)
@[go_sem ↓] theorem v54_1 : Fin (evC ctx O P k d54_1 s q) Q = GU d54_1 ctx P s q Q ⟨⟩ ⟨⟩ := gE_U _ _ _ _ _ _ _ (by kernel_rfl)
@[go_sem ↓] theorem v54_2 : Fin (evC ctx O P k d54_2 s q) Q = GU d54_2 ctx P s q Q ⟨⟩ ⟨⟩ := gE_U _ _ _ _ _ _ _ (by kernel_rfl)
@[go_sem ↓] theorem v55_1 : Fin (evC ctx O P k d55_1 s q) Q = GU d55_1 ctx P s q Q ⟨⟩ ⟨⟩ := gE_U _ _ _ _ _ _ _ (by kernel_rfl)
@[go_sem ↓] theorem v57_1 : Fin (evC ctx O P k d57_1 s q) Q = GU d57_1 ctx P s q Q ⟨⟩ ⟨⟩ := gE_U _ _ _ _ _ _ _ (by kernel_rfl)
@[go_sem ↓] theorem v58_1 : Fin (evC ctx O P k d58_1 s q) Q = GU d58_1 ctx P s q Q ⟨⟩ ⟨⟩ := gE_U _ _ _ _ _ _ _ (by kernel_rfl)
@[go_sem ↓] theorem v58_2 : Fin (evC ctx O P k d58_2 s q) Q = GU d58_2 ctx P s q Q ⟨⟩ ⟨⟩ := gE_U _ _ _ _ _ _ _ (by kernel_rfl)
@[go_sem ↓] theorem v59_1 : Fin (evC ctx O P k d59_1 s q) Q = GU d59_1 ctx P s q Q ⟨⟩ ⟨⟩ := gE_U _ _ _ _ _ _ _ (by kernel_rfl)
@[go_sem ↓] theorem v61_1 : Fin (evC ctx O P k d61_1 s q) Q = GU d61_1 ctx P s q Q ⟨⟩ ⟨⟩ := gE_U _ _ _ _ _ _ _ (by kernel_rfl)
@[go_sem ↓] theorem v61_2 : Fin (evC ctx O P k d61_2 s q) Q = GU d61_2 ctx P s q Q ⟨⟩ ⟨⟩ := gE_U _ _ _ _ _ _ _ (by kernel_rfl)
@[go_sem ↓] theorem v62_1 : Fin (evC ctx O P k d62_1 s q) Q = GU d62_1 ctx P s q Q ⟨⟩ ⟨⟩ := gE_U _ _ _ _ _ _ _ (by kernel_rfl)
@[go_sem ↓] theorem v64_1 : Fin (evC ctx O P k d64_1 s q) Q = GU d64_1 ctx P s q Q ⟨⟩ ⟨⟩ := gE_U _ _ _ _ _ _ _ (by kernel_rfl)
@[go_sem ↓] theorem v66_1 : Fin (evC ctx O P k d66_1 s q) Q = GU d66_1 ctx P s q Q ⟨⟩ ⟨⟩ := gE_U _ _ _ _ _ _ _ (by kernel_rfl)
@[go_sem ↓] theorem v68_1 : Fin (evC ctx O P k d68_1 s q) Q = GU d68_1 ctx P s q Q ⟨⟩ ⟨⟩ := gE_U _ _ _ _ _ _ _ (by kernel_rfl)
@[go_sem ↓] theorem v76_1 : Fin (evC ctx O P k d76_1 s q) Q = GU d76_1 ctx P s q Q ⟨⟩ ⟨⟩ := gE_U _ _ _ _ _ _ _ (by kernel_rfl)
@[go_sem ↓] theorem v77_1 : Fin (evC ctx O P k d77_1 s q) Q = GU d77_1 ctx P s q Q ⟨⟩ ⟨⟩ := gE_U _ _ _ _ _ _ _ (by kernel_rfl)
@[go_sem ↓] theorem v79_1 : Fin (evC ctx O P k d79_1 s q) Q = GU d79_1 ctx P s q Q ⟨⟩ ⟨⟩ := gE_U _ _ _ _ _ _ _ (by kernel_rfl)
@[go_sem ↓] theorem v79_2 : Fin (evC ctx O P k d79_2 s q) Q = GU d79_2 ctx P s q Q ⟨⟩ ⟨⟩ := gE_U _ _ _ _ _ _ _ (by kernel_rfl)
@[go_sem ↓] theorem v83_1 : Fin (evC ctx O P k d83_1 s q) Q = GU d83_1 ctx P s q Q ⟨⟩ ⟨⟩ := gE_U _ _ _ _ _ _ _ (by kernel_rfl)
@[go_sem ↓] theorem v84_1 : Fin (evC ctx O P k d84_1 s q) Q = GU d84_1 ctx P s q Q ⟨⟩ ⟨⟩ := gE_U _ _ _ _ _ _ _ (by kernel_rfl)
@[go_sem ↓] theorem v93_1 : Fin (evC ctx O P k d93_1 s q) Q = GU d93_1 ctx P s q Q ⟨⟩ ⟨⟩ := gE_U _ _ _ _ _ _ _ (by kernel_rfl)
@[go_sem ↓] theorem v94_1 : Fin (evC ctx O P k d94_1 s q) Q = GU d94_1 ctx P s q Q ⟨⟩ ⟨⟩ := gE_U _ _ _ _ _ _ _ (by kernel_rfl)
@[go_sem ↓] theorem v95_1 : Fin (evC ctx O P k d95_1 s q) Q = GU d95_1 ctx P s q Q ⟨⟩ ⟨⟩ := gE_U _ _ _ _ _ _ _ (by kernel_rfl)
@[go_sem ↓] theorem v96_1 : Fin (evC ctx O P k d96_1 s q) Q = GU d96_1 ctx P s q Q ⟨⟩ ⟨⟩ := gE_U _ _ _ _ _ _ _ (by kernel_rfl)
@[go_sem ↓] theorem v96_2 : Fin (evC ctx O P k d96_2 s q) Q = GU d96_2 ctx P s q Q ⟨⟩ ⟨⟩ := gE_U _ _ _ _ _ _ _ (by kernel_rfl)
@[go_sem ↓] theorem v97_1 : Fin (evC ctx O P k d97_1 s q) Q = GU d97_1 ctx P s q Q ⟨⟩ ⟨⟩ := gE_U _ _ _ _ _ _ _ (by kernel_rfl)
@[go_sem ↓] theorem v97_2 : Fin (evC ctx O P k d97_2 s q) Q = GU d97_2 ctx P s q Q ⟨⟩ ⟨⟩ := gE_U _ _ _ _ _ _ _ (by kernel_rfl)
@[go_sem ↓] theorem v97_3 : Fin (evC ctx O P k d97_3 s q) Q = GU d97_3 ctx P s q Q ⟨⟩ ⟨⟩ := gE_U _ _ _ _ _ _ _ (by kernel_rfl)
@[go_sem ↓] theorem v100_1 : Fin (evC ctx O P k d100_1 s q) Q = GU d100_1 ctx P s q Q ⟨⟩ ⟨⟩ := gE_U _ _ _ _ _ _ _ (by kernel_rfl)
@[go_sem ↓] theorem v102_1 : Fin (evC ctx O P k d102_1 s q) Q = GU d102_1 ctx P s q Q ⟨⟩ ⟨⟩ := gE_U _ _ _ _ _ _ _ (by kernel_rfl)
@[go_sem ↓] theorem v105_1 : Fin (evC ctx O P k d105_1 s q) Q = GU d105_1 ctx P s q Q ⟨⟩ ⟨⟩ := gE_U _ _ _ _ _ _ _ (by kernel_rfl)
@[go_sem ↓] theorem v105_2 : Fin (evC ctx O P k d105_2 s q) Q = GU d105_2 ctx P s q Q ⟨⟩ ⟨⟩ := gE_U _ _ _ _ _ _ _ (by kernel_rfl)
@[go_sem ↓] theorem v107_1 : Fin (evC ctx O P k d107_1 s q) Q = GU d107_1 ctx P s q Q ⟨⟩ ⟨⟩ := gE_U _ _ _ _ _ _ _ (by kernel_rfl)
@[go_sem ↓] theorem v109_1 : Fin (evC ctx O P k d109_1 s q) Q = GU d109_1 ctx P s q Q ⟨⟩ ⟨⟩ := gE_U _ _ _ _ _ _ _ (by kernel_rfl)
@[go_sem ↓] theorem v114_1 : Fin (evC ctx O P k d114_1 s q) Q = GU d114_1 ctx P s q Q ⟨⟩ ⟨⟩ := gE_U _ _ _ _ _ _ _ (by kernel_rfl)
@[go_sem ↓] theorem v116_1 : Fin (evC ctx O P k d116_1 s q) Q = GU d116_1 ctx P s q Q ⟨⟩ ⟨⟩ := gE_U _ _ _ _ _ _ _ (by kernel_rfl)
@[go_sem ↓] theorem v116_2 : Fin (evC ctx O P k d116_2 s q) Q = GU d116_2 ctx P s q Q ⟨⟩ ⟨⟩ := gE_U _ _ _ _ _ _ _ (by kernel_rfl)
@[go_sem ↓] theorem v129_1 : Fin (evC ctx O P k d129_1 s q) Q = GU d129_1 ctx P s q Q ⟨⟩ ⟨⟩ := gE_U _ _ _ _ _ _ _ (by kernel_rfl)
@[go_sem ↓] theorem v131_1 : Fin (evC ctx O P k d131_1 s q) Q = GU d131_1 ctx P s q Q ⟨⟩ ⟨⟩ := gE_U _ _ _ _ _ _ _ (by kernel_rfl)
@[go_sem ↓] theorem v150_1 : Fin (evC ctx O P k d150_1 s q) Q = GU d150_1 ctx P s q Q ⟨⟩ ⟨⟩ := gE_U _ _ _ _ _ _ _ (by kernel_rfl)
@[go_sem ↓] theorem v150_2 : Fin (evC ctx O P k d150_2 s q) Q = GU d150_2 ctx P s q Q ⟨⟩ ⟨⟩ := gE_U _ _ _ _ _ _ _ (by kernel_rfl)
@[go_sem ↓] theorem v178_1 : Fin (evC ctx O P k d178_1 s q) Q = GU d178_1 ctx P s q Q ⟨⟩ ⟨⟩ := gE_U _ _ _ _ _ _ _ (by kernel_rfl)
@[go_sem ↓] theorem v181_1 : Fin (evC ctx O P k d181_1 s q) Q = GU d181_1 ctx P s q Q ⟨⟩ ⟨⟩ := gE_U _ _ _ _ _ _ _ (by kernel_rfl)
end
attribute [go_sem] d4_1 d5_1 d8_1 d10_1 d12_1 d15_1 d16_1 d17_1 d17_2 d18_1 d20_1 d22_1 d23_1 d24_1 d29_1 d29_2 d29_3 d29_4 d29_5 d29_6 d30_1 d30_2 d32_1 d32_2 d34_1 d37_1 d38_1 d38_2 d39_1 d41_1 d45_1 d46_1 d47_1 d47_2 d52_1 d54_1 d54_2 d55_1 d57_1 d58_1 d58_2 d59_1 d61_1 d61_2 d62_1 d64_1 d66_1 d68_1 d76_1 d77_1 d79_1 d79_2 d83_1 d84_1 d93_1 d94_1 d95_1 d96_1 d96_2 d97_1 d97_2 d97_3 d100_1 d102_1 d105_1 d105_2 d107_1 d109_1 d114_1 d116_1 d116_2 d129_1 d131_1 d150_1 d150_2 d178_1 d181_1
end Ve
