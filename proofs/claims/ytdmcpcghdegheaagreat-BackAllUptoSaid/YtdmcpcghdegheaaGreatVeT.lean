/- The tables: made by my program. -/
import Derived.Test.YtdmcpcghdegheaaGreatVeM
import Derived.Test.YtdmcpcghdegheaaGreatVeN
import Derived.KernelRfl
set_option linter.all false
set_option linter.unusedSectionVars false
namespace Ve
open Go Ve.Ab
abbrev iZ : V := .lit (.int .i64 0)
def y1 : TI := ⟨1, 8, .lit .nilFunc, .scalar, false, none, false⟩
def y2 : TI := ⟨1, 8, iZ, .scalar, false, some .i64, false⟩
def y3 : TI := ⟨1, 8, iZ, .scalar, false, some .i64, false⟩
def y4 : TI := ⟨1, 1, .lit (.bool false), .scalar, false, none, true⟩
def y5 : TI := ⟨1, 1, .lit (.int .u8 0), .scalar, false, some .u8, false⟩
def y6 : TI := ⟨1, 1, .lit (.int .u8 0), .scalar, false, some .u8, false⟩
def y7 : TI := ⟨4, 24, .agg [iZ, iZ, .lit (.bool false), .lit (.int .u8 0)], .struct [(0, 1), (1, 1), (2, 1), (3, 1)], false, none, false⟩
def y8 : TI := ⟨4, 24, .agg [iZ, iZ, .lit (.bool false), .lit (.int .u8 0)], .struct [(0, 1), (1, 1), (2, 1), (3, 1)], false, none, false⟩
def y9 : TI := ⟨1, 16, .lit (.string ⟨#[]⟩), .scalar, false, none, false⟩
def y10 : TI := ⟨1, 16, .lit (.string ⟨#[]⟩), .scalar, false, none, false⟩
def y11 : TI := ⟨1, 16, .lit (.string ⟨#[]⟩), .scalar, false, none, false⟩
def y12 : TI := ⟨1, 8, .lit (.int .u64 0), .scalar, false, some .u64, false⟩
def y13 : TI := ⟨2, 24, .agg [.lit (.string ⟨#[]⟩), .lit (.int .u64 0)], .struct [(0, 1), (1, 1)], false, none, false⟩
def y22 : TI := ⟨1, 24, .own 3 [], .sl 65, false, none, false⟩
def y23 : TI := ⟨4, 96, .agg [.own 3 [], .own 3 [], .own 3 [], .own 3 []], .arr 4 22, false, none, false⟩
def y24 : TI := ⟨4, 32, .agg [iZ, iZ, iZ, iZ], .arr 4 3, true, none, false⟩
def y25 : TI := ⟨1, 24, .own 17 [], .sl 52, false, none, false⟩
def y26 : TI := ⟨1, 24, .own 4 [], .sl 55, false, none, false⟩
def y28 : TI := ⟨11, 184, .agg [.own 3 [], .own 3 [], .own 3 [], .own 3 [], iZ, iZ, iZ, iZ, iZ, .own 17 [], .own 4 []], .struct [(0, 4), (4, 4), (8, 1), (9, 1), (10, 1)], false, none, false⟩
def y30 : TI := ⟨1, 8, iZ, .scalar, false, some .i64, false⟩
def y45 : TI := ⟨1, 8, .lit (.int .u64 0), .scalar, false, some .u64, false⟩
def y46 : TI := ⟨1, 24, .own 1 [], .sl 3, false, none, false⟩
def y48 : TI := ⟨1, 24, .own 4 [], .sl 69, false, none, false⟩
def y49 : TI := ⟨1, 24, .own 3 [], .sl 113, false, none, false⟩
def y50 : TI := ⟨1, 24, .own 3 [], .sl 63, false, none, false⟩
def y52 : TI := ⟨17, 184, .agg [iZ, iZ, iZ, .own 4 [], iZ, iZ, iZ, iZ, iZ, iZ, .own 3 [], .own 3 [], iZ, iZ, iZ, iZ, iZ], .struct [(0, 1), (1, 1), (2, 1), (3, 1), (4, 1), (5, 1), (6, 4), (10, 1), (11, 1), (12, 1), (13, 1), (14, 1), (15, 1), (16, 1)], false, none, false⟩
def y55 : TI := ⟨4, 32, .agg [iZ, iZ, iZ, iZ], .struct [(0, 1), (1, 1), (2, 1), (3, 1)], true, none, false⟩
def y63 : TI := ⟨3, 24, .agg [iZ, iZ, iZ], .struct [(0, 1), (1, 1), (2, 1)], true, none, false⟩
def y65 : TI := ⟨3, 24, .agg [iZ, iZ, iZ], .struct [(0, 1), (1, 1), (2, 1)], true, none, false⟩
def y69 : TI := ⟨4, 32, .agg [iZ, iZ, iZ, iZ], .struct [(0, 1), (1, 1), (2, 1), (3, 1)], true, none, false⟩
def y74 : TI := ⟨1, 8, .lit (.pointer none), .scalar, false, none, false⟩
def y75 : TI := ⟨1, 8, .lit (.pointer none), .scalar, false, none, false⟩
def y98 : TI := ⟨4, 96, .agg [.own 1 [], .own 1 [], .own 1 [], .own 1 []], .arr 4 46, false, none, false⟩
def y100 : TI := ⟨4, 48, .agg [iZ, iZ, iZ, .own 4 []], .struct [(0, 1), (1, 1), (2, 1), (3, 1)], false, none, false⟩
def y101 : TI := ⟨1, 24, .own 4 [], .sl 100, false, none, false⟩
def y102 : TI := ⟨1, 24, .own 2 [], .sl 195, false, none, false⟩
def y104 : TI := ⟨7, 152, .agg [.own 1 [], .own 1 [], .own 1 [], .own 1 [], iZ, .own 4 [], .own 2 []], .struct [(0, 4), (4, 1), (5, 1), (6, 1)], false, none, false⟩
def y113 : TI := ⟨3, 24, .agg [iZ, iZ, iZ], .struct [(0, 1), (1, 1), (2, 1)], true, none, false⟩
def y114 : TI := ⟨1, 8, .lit .nilFunc, .scalar, false, none, false⟩
def y134 : TI := ⟨1, 8, .lit (.pointer none), .scalar, false, none, false⟩
def y136 : TI := ⟨1, 8, .lit .nilFunc, .scalar, false, none, false⟩
def y138 : TI := ⟨1, 8, .lit .nilFunc, .scalar, false, none, false⟩
def y139 : TI := ⟨1, 8, .lit (.pointer none), .scalar, false, none, false⟩
def y141 : TI := ⟨1, 8, .agg [.lit (.pointer none)], .struct [(0, 1)], false, none, false⟩
def y161 : TI := ⟨1, 8, .lit .nilFunc, .scalar, false, none, false⟩
def y163 : TI := ⟨1, 8, .lit .nilFunc, .scalar, false, none, false⟩
def y165 : TI := ⟨1, 8, .lit .nilFunc, .scalar, false, none, false⟩
def y195 : TI := ⟨2, 16, .agg [iZ, iZ], .struct [(0, 1), (1, 1)], true, none, false⟩
def layL : List (Nat × TI) := [(1, y1), (2, y2), (3, y3), (4, y4), (5, y5), (6, y6), (7, y7), (8, y8), (9, y9), (10, y10), (11, y11), (12, y12), (13, y13), (22, y22), (23, y23), (24, y24), (25, y25), (26, y26), (28, y28), (30, y30), (45, y45), (46, y46), (48, y48), (49, y49), (50, y50), (52, y52), (55, y55), (63, y63), (65, y65), (69, y69), (74, y74), (75, y75), (98, y98), (100, y100), (101, y101), (102, y102), (104, y104), (113, y113), (114, y114), (134, y134), (136, y136), (138, y138), (139, y139), (141, y141), (161, y161), (163, y163), (165, y165), (195, y195)]
def lay : Lay := lk layL
/- 3 veil/veillaw13.Undos -/
def c3 : IR := (S (R [z 5 (bx 28 0),
 z 10 (ab false)])
(S (R [z 20 (ld 28 5),
 z 21 (cl 14 #[(t 20)] #[28]),
 z 11 (al 28),
 ⟨none, st 28 11 21, none, true⟩])
(S (R [z 23 (ld 28 11),
 z 24 (mv 1),
 z 25 (mv 2),
 o 26 (cl 15 #[(t 23), (t 24), (t 25)] #[28, 3, 3]),
 z 22 (mv 26),
 z 27 (xt 22 0),
 z 28 (xt 22 1),
 z 12 (al 28),
 ⟨none, st 28 12 27, none, true⟩,
 z 13 (av 28)])
(S (R [z 30 (ld 28 5),
 z 31 (mv 1),
 z 32 (mv 2),
 z 33 (cl 16 #[(t 30), (t 31), (t 32)] #[28, 3, 3]),
 z 29 (mv 33),
 z 34 (xt 29 0),
 z 35 (xt 29 1),
 z 14 (al 28),
 ⟨none, st 28 14 34, none, true⟩,
 z 15 (av 35)])
(S (R [z 37 (ld 28 11),
 z 38 (mv 1),
 z 39 (mv 3),
 z 40 (mv 4),
 o 41 (cl 17 #[(t 37), (t 38), (t 39), (t 40)] #[28, 3, 3, 3]),
 z 36 (mv 41),
 z 42 (xt 36 0),
 z 43 (xt 36 1),
 z 16 (al 28),
 ⟨none, st 28 16 42, none, true⟩,
 z 17 (av 43)])
(S (R [z 45 (ld 28 5),
 z 46 (mv 1),
 z 47 (mv 3),
 z 48 (mv 4),
 z 49 (cl 18 #[(t 45), (t 46), (t 47), (t 48)] #[28, 3, 3, 3]),
 z 44 (mv 49),
 z 50 (xt 44 0),
 z 51 (xt 44 1),
 z 18 (al 28),
 ⟨none, st 28 18 50, none, true⟩,
 z 19 (av 51)])
(S (S (R [z 52 (ld 28 12),
 z 53 (ld 28 14),
 z 54 (cl 19 #[(t 52), (t 53)] #[28, 28]),
 z 55 (.unOp .not 4 (.tmp 54)),
 z 56 (mv 55),
 zF 57 (mv 13) 56,
 zF 58 (cl 20 #[(t 57)] #[30]) 56,
 zF 59 (mv 15) 56,
 zF 60 (bo .neq (t 58) (t 59)) 56,
 z 61 (.pick (.tmp 56) (.const (.bool true)) (.tmp 60)),
 z 62 (mv 61),
 zF 63 (ld 28 16) 62,
 zF 64 (ld 28 18) 62,
 zF 65 (cl 19 #[(t 63), (t 64)] #[28, 28]) 62,
 zF 66 (.unOp .not 4 (.tmp 65)) 62,
 z 67 (.pick (.tmp 62) (.const (.bool true)) (.tmp 66)),
 z 68 (mv 67),
 zF 69 (mv 17) 68,
 zF 70 (cl 20 #[(t 69)] #[30]) 68,
 zF 71 (mv 19) 68,
 zF 72 (bo .neq (t 70) (t 71)) 68,
 z 73 (.pick (.tmp 68) (.const (.bool true)) (.tmp 72))])
(.cond (t 73)
(S (R [z 10 (ab false)])
(.ret [10]))
.skip))
(S (R [z 74 (ld 28 12),
 z 75 (cl 21 #[(t 74)] #[28])])
(S (R [z 76 (ld 28 16),
 z 77 (cl 21 #[(t 76)] #[28])])
(S (R [z 78 (ld 28 11),
 z 79 (ld 28 5),
 z 80 (cl 19 #[(t 78), (t 79)] #[28, 28]),
 z 81 (mv 80),
 zT 82 (cl 22 #[] #[]) 81,
 z 83 (.pick (.tmp 81) (.tmp 82) (.const (.bool false))),
 z 10 (av 83)])
(.ret [10])))))))))))
def g3 : IFn := ⟨84, [.tmp 10], [4], c3, [], false, none⟩
/- 4 veil/veillaw13.UndoTurns -/
def c4 : IR := (S (R [z 3 (bx 28 0),
 z 6 (ab false)])
(S (S (R [z 12 (cl 22 #[] #[]),
 z 13 (.unOp .not 4 (.tmp 12))])
(.cond (t 13)
(S (R [z 6 (ab false)])
(.ret [6]))
.skip))
(S (R [z 7 (an 3)])
(S (S (R [z 14 (mv 2)])
(.cond (t 14)
(R [z 7 (an 5)])
.skip))
(S (R [z 16 (ld 28 3),
 z 17 (mv 1),
 z 18 (mv 7),
 z 19 (cl 15 #[(t 16), (t 17), (t 18)] #[28, 3, 3]),
 z 15 (mv 19),
 z 20 (xt 15 0),
 z 21 (xt 15 1),
 z 8 (al 28),
 ⟨none, st 28 8 20, none, true⟩,
 z 9 (av 21)])
(S (R [z 23 (ld 28 3),
 z 24 (mv 1),
 z 25 (cl 17 #[(t 23), (t 24), (n 1), (n 0)] #[28, 3, 3, 3]),
 z 22 (mv 25),
 z 26 (xt 22 0),
 z 27 (xt 22 1),
 z 10 (al 28),
 ⟨none, st 28 10 26, none, true⟩,
 z 11 (av 27)])
(S (S (R [z 28 (mv 9),
 z 29 (cl 20 #[(t 28)] #[30]),
 z 30 (bo .neq (t 29) (n 0)),
 z 31 (mv 30),
 zF 32 (mv 11) 31,
 zF 33 (cl 20 #[(t 32)] #[30]) 31,
 zF 34 (bo .neq (t 33) (n 0)) 31,
 z 35 (.pick (.tmp 31) (.const (.bool true)) (.tmp 34))])
(.cond (t 35)
(S (R [z 36 (ld 28 8),
 z 37 (.build 28 #[]),
 z 38 (cl 19 #[(t 36), (t 37)] #[28, 28]),
 z 39 (mv 38),
 zT 40 (ld 28 10) 39,
 zT 41 (.build 28 #[]) 39,
 zT 42 (cl 19 #[(t 40), (t 41)] #[28, 28]) 39,
 z 43 (.pick (.tmp 39) (.tmp 42) (.const (.bool false))),
 z 6 (av 43)])
(.ret [6]))
.skip))
(S (R [z 44 (ld 28 3),
 z 45 (ld 28 8),
 z 46 (mv 1),
 z 47 (cl 23 #[(t 44), (t 45), (t 46)] #[28, 28, 3]),
 z 48 (mv 47),
 zT 49 (ld 28 3) 48,
 zT 50 (ld 28 10) 48,
 zT 51 (mv 1) 48,
 zT 52 (cl 23 #[(t 49), (t 50), (t 51)] #[28, 28, 3]) 48,
 z 53 (.pick (.tmp 48) (.tmp 52) (.const (.bool false))),
 z 6 (av 53)])
(.ret [6])))))))))
def g4 : IFn := ⟨54, [.tmp 6], [4], c4, [], false, none⟩
/- 5 veil/veillaw13.UndoForms -/
def c5 : IR := (S (R [z 4 (ab false)])
(S (S (R [z 15 (cl 22 #[] #[]),
 z 16 (.unOp .not 4 (.tmp 15))])
(.cond (t 16)
(S (R [z 4 (ab false)])
(.ret [4]))
.skip))
(S (R [z 17 (mv 1),
 z 18 (bo .and (t 17) (n 1023)),
 z 19 (bo .add (n 1) (t 18)),
 z 5 (av 19)])
(S (R [z 20 (cl 24 #[(n 0), (n 5)] #[3, 3]),
 z 6 (al 28),
 ⟨none, st 28 6 20, none, true⟩,
 z 7 (an 0),
 z 8 (an 3),
 z 9 (an 1),
 z 10 (an 0)])
(S (S (R [z 21 (mv 0),
 z 22 (.convert 3 45 (.tmp 21)),
 z 23 (.binOp .rem 45 (.tmp 22) (.const (.int .u64 4)) 45)])
(.block 0 (S (R [z 35 (.binOp .eql 45 (.tmp 23) (.const (.int .u64 0)) 45),
 z 34 (av 35)])
(.cond (t 34)
(R [z 36 (mv 5),
 z 37 (.unOp .neg 3 (.tmp 36)),
 z 38 (fa 28 6 2),
 ⟨none, st 3 38 37, none, true⟩])
(S (R [z 40 (.binOp .eql 45 (.tmp 23) (.const (.int .u64 1)) 45),
 z 39 (av 40)])
(.cond (t 39)
(R [z 41 (mv 5),
 z 42 (.unOp .neg 3 (.tmp 41)),
 z 43 (mv 5),
 z 44 (bo .add (n 1) (t 43)),
 z 45 (.buildSlice 46 2 #[(0, (.tmp 42)), (1, (.tmp 44))]),
 z 46 (mv 0),
 z 47 (.binOp .shr 3 (.tmp 46) (.const (.int .u64 2)) 45),
 z 48 (bo .and (t 47) (n 1)),
 o 49 (ia 46 45 48),
 z 50 (ld 3 49),
 z 7 (av 50)])
(S (R [z 52 (.binOp .eql 45 (.tmp 23) (.const (.int .u64 2)) 45),
 z 51 (av 52)])
(.cond (t 51)
(S (R [z 53 (mv 5),
 z 54 (.unOp .neg 3 (.tmp 53)),
 z 55 (mv 5),
 z 56 (bo .add (n 6) (t 55)),
 z 57 (.buildSlice 46 8 #[(0, (.tmp 54)), (1, (.const (.int .i64 0))), (2, (.const (.int .i64 1))), (3, (.const (.int .i64 2))), (4, (.const (.int .i64 4))), (5, (.const (.int .i64 6))), (6, (.tmp 56)), (7, (.const (.int .i64 6)))]),
 z 58 (mv 0),
 z 59 (.binOp .shr 3 (.tmp 58) (.const (.int .u64 2)) 45),
 z 60 (bo .and (t 59) (n 7)),
 o 61 (ia 46 57 60),
 z 62 (ld 3 61),
 z 8 (av 62)])
(R [z 63 (mv 5),
 z 64 (.unOp .neg 3 (.tmp 63)),
 z 65 (mv 5),
 z 66 (bo .add (n 255) (t 65)),
 z 67 (.buildSlice 46 2 #[(0, (.tmp 64)), (1, (.tmp 66))]),
 z 68 (mv 0),
 z 69 (.binOp .shr 3 (.tmp 68) (.const (.int .u64 2)) 45),
 z 70 (bo .and (t 69) (n 1)),
 o 71 (ia 46 67 70),
 z 72 (ld 3 71),
 z 10 (av 72)]))
(S (R [z 8 (an 6)])
(R [z 24 (mv 5),
 z 25 (.unOp .neg 3 (.tmp 24)),
 z 26 (mv 5),
 z 27 (bo .add (n 5) (t 26)),
 z 28 (.buildSlice 46 2 #[(0, (.tmp 25)), (1, (.tmp 27))]),
 z 29 (mv 0),
 z 30 (.binOp .shr 3 (.tmp 29) (.const (.int .u64 2)) 45),
 z 31 (bo .and (t 30) (n 1)),
 o 32 (ia 46 28 31),
 z 33 (ld 3 32),
 z 9 (av 33)]))))))))))
(S (R [z 74 (ld 28 6),
 z 75 (mv 7),
 z 76 (mv 8),
 z 77 (cl 15 #[(t 74), (t 75), (t 76)] #[28, 3, 3]),
 z 73 (mv 77),
 z 78 (xt 73 0),
 z 79 (xt 73 1),
 z 11 (al 28),
 ⟨none, st 28 11 78, none, true⟩,
 z 12 (av 79)])
(S (R [z 81 (ld 28 6),
 z 82 (mv 7),
 z 83 (mv 9),
 z 84 (mv 10),
 z 85 (cl 17 #[(t 81), (t 82), (t 83), (t 84)] #[28, 3, 3, 3]),
 z 80 (mv 85),
 z 86 (xt 80 0),
 z 87 (xt 80 1),
 z 13 (al 28),
 ⟨none, st 28 13 86, none, true⟩,
 z 14 (av 87)])
(S (R [z 88 (ld 28 11),
 z 89 (.build 28 #[]),
 z 90 (cl 19 #[(t 88), (t 89)] #[28, 28]),
 z 91 (mv 90),
 zT 92 (mv 12) 91,
 zT 93 (cl 20 #[(t 92)] #[30]) 91,
 zT 94 (bo .eql (t 93) (n 1300)) 91,
 z 95 (.pick (.tmp 91) (.tmp 94) (.const (.bool false))),
 z 96 (mv 95),
 zT 97 (ld 28 13) 96,
 zT 98 (.build 28 #[]) 96,
 zT 99 (cl 19 #[(t 97), (t 98)] #[28, 28]) 96,
 z 100 (.pick (.tmp 96) (.tmp 99) (.const (.bool false))),
 z 101 (mv 100),
 zT 102 (mv 14) 101,
 zT 103 (cl 20 #[(t 102)] #[30]) 101,
 zT 104 (bo .eql (t 103) (n 1300)) 101,
 z 105 (.pick (.tmp 101) (.tmp 104) (.const (.bool false))),
 z 4 (av 105)])
(.ret [4])))))))))
def g5 : IFn := ⟨106, [.tmp 4], [4], c5, [], false, none⟩
/- 6 veil/veillaw13.UndoAgain -/
def d6_1 : IR := D [z 67 (fa 28 5 3),
 z 68 (ld 25 67),
 z 69 (mv 1),
 o 70 (ia 25 68 69),
 z 71 (ld 52 70),
 z 72 (ld 52 8),
 z 73 (cl 25 #[(t 71), (t 72)] #[52, 52]),
 z 74 (mv 73),
 zT 75 (fa 28 2 4) 74,
 zT 76 (ld 26 75) 74,
 zT 77 (len 76 26) 74,
 zT 78 (bo .geq (t 77) (n 512)) 74,
 zT 79 (mv 78) 74,
 zF 80 (fa 28 5 4) 79,
 zF 81 (ld 26 80) 79,
 zF 82 (fa 28 5 4) 79,
 zF 83 (ld 26 82) 79,
 zF 84 (len 83 26) 79,
 zF 85 (bo .sub (t 84) (n 1)) 79,
 oF 86 (ia 26 81 85) 79,
 zF 87 (ld 55 86) 79,
 zF 88 (fa 52 7 0) 79,
 zF 89 (ld 3 88) 79,
 zF 90 (fa 52 7 1) 79,
 zF 91 (ld 3 90) 79,
 zF 92 (fa 52 8 11) 79,
 zF 93 (ld 3 92) 79,
 zF 94 (.build 55 #[(0, (.tmp 89)), (1, (.tmp 91)), (2, (.const (.int .i64 3))), (3, (.tmp 93))]) 79,
 zF 95 (.binOp .eql 55 (.tmp 87) (.tmp 94) 55) 79,
 zT 96 (.pick (.tmp 79) (.const (.bool true)) (.tmp 95)) 74,
 z 97 (.pick (.tmp 74) (.tmp 96) (.const (.bool false))),
 z 4 (av 97)] [[], [0], [], [1, 2], [3], [], [4, 5], [6, 6], [7], [8, 7], [9, 7], [10, 7], [11, 7, 7], [12], [13, 12], [12], [15, 12], [16, 12], [17, 12], [14, 18, 12], [19, 12], [12], [21, 12], [12], [23, 12], [12], [25, 12], [22, 24, 26, 12], [20, 27, 12], [12, 28, 7], [7, 29], [30, 12, 0, 1, 2, 3, 4, 5, 6, 7, 8, 9, 10, 11, 12, 13, 14, 15, 16, 17, 18, 19, 20, 21, 22, 23, 24, 25, 26, 27, 28, 29, 30]]
def c6 : IR := (S (R [z 2 (bx 28 0),
 z 4 (ab false)])
(S (S (R [z 9 (cl 22 #[] #[]),
 z 10 (.unOp .not 4 (.tmp 9))])
(.cond (t 10)
(S (R [z 4 (ab false)])
(.ret [4]))
.skip))
(S (R [z 12 (ld 28 2),
 z 13 (mv 1),
 z 14 (cl 15 #[(t 12), (t 13), (n 3)] #[28, 3, 3]),
 z 11 (mv 14),
 z 15 (xt 11 0),
 z 16 (xt 11 1),
 z 5 (al 28),
 ⟨none, st 28 5 15, none, true⟩,
 z 6 (av 16)])
(S (S (R [z 17 (mv 6),
 z 18 (cl 20 #[(t 17)] #[30]),
 z 19 (bo .neq (t 18) (n 0))])
(.cond (t 19)
(S (R [z 20 (ld 28 5),
 z 21 (.build 28 #[]),
 z 22 (cl 19 #[(t 20), (t 21)] #[28, 28]),
 z 4 (av 22)])
(.ret [4]))
.skip))
(S (S (R [z 23 (mv 1),
 z 24 (bo .lss (t 23) (n 0)),
 z 25 (mv 24),
 zF 26 (mv 1) 25,
 zF 27 (fa 28 5 3) 25,
 zF 28 (ld 25 27) 25,
 zF 29 (len 28 25) 25,
 zF 30 (bo .geq (t 26) (t 29)) 25,
 z 31 (.pick (.tmp 25) (.const (.bool true)) (.tmp 30)),
 z 32 (mv 31),
 zF 33 (mv 1) 32,
 zF 34 (fa 28 2 3) 32,
 zF 35 (ld 25 34) 32,
 zF 36 (len 35 25) 32,
 zF 37 (bo .geq (t 33) (t 36)) 32,
 z 38 (.pick (.tmp 32) (.const (.bool true)) (.tmp 37)),
 z 39 (mv 38),
 zF 40 (fa 28 5 4) 39,
 zF 41 (ld 26 40) 39,
 zF 42 (len 41 26) 39,
 zF 43 (bo .lss (t 42) (n 1)) 39,
 z 44 (.pick (.tmp 39) (.const (.bool true)) (.tmp 43))])
(.cond (t 44)
(S (R [z 4 (ab false)])
(.ret [4]))
.skip))
(S (R [z 45 (fa 28 2 3),
 z 46 (ld 25 45),
 z 47 (mv 1),
 o 48 (ia 25 46 47),
 z 49 (ld 52 48),
 z 7 (al 52),
 ⟨none, st 52 7 49, none, true⟩])
(S (R [z 50 (fa 52 7 0),
 z 51 (ld 3 50),
 z 52 (fa 52 7 1),
 z 53 (ld 3 52),
 z 54 (fa 52 7 2),
 z 55 (ld 3 54),
 z 56 (fa 52 7 3),
 z 57 (ld 48 56),
 z 58 (fa 52 7 11),
 z 59 (ld 3 58),
 z 60 (bo .add (t 59) (n 1)),
 z 61 (.call { callee := (.builtin .min), args := #[(.tmp 60), (.const (.int .i64 65535))], argTypes := #[3, 3] }),
 z 62 (fa 52 7 12),
 z 63 (ld 3 62),
 z 64 (fa 52 7 13),
 z 65 (ld 3 64),
 z 66 (.build 52 #[(0, (.tmp 51)), (1, (.tmp 53)), (2, (.tmp 55)), (3, (.tmp 57)), (11, (.tmp 61)), (12, (.tmp 63)), (13, (.tmp 65))]),
 z 8 (al 52),
 ⟨none, st 52 8 66, none, true⟩])
(S d6_1
(.ret [4])))))))))
def g6 : IFn := ⟨98, [.tmp 4], [4], c6, [], false, none⟩
/- 7 veil/veillaw13.UndoEnds -/
def c7 : IR := (S (R [z 4 (bx 28 0),
 z 8 (ab false)])
(S (S (R [z 16 (cl 22 #[] #[]),
 z 17 (.unOp .not 4 (.tmp 16))])
(.cond (t 17)
(S (R [z 8 (ab false)])
(.ret [8]))
.skip))
(S (R [z 18 (mv 2),
 z 19 (.convert 3 45 (.tmp 18)),
 z 20 (.binOp .rem 45 (.tmp 19) (.const (.int .u64 6)) 45),
 z 21 (.convert 45 3 (.tmp 20)),
 z 22 (mv 3),
 z 23 (bo .and (t 22) (n 255)),
 z 9 (av 21),
 z 10 (av 23)])
(S (R [z 25 (ld 28 4),
 z 26 (mv 1),
 z 27 (mv 9),
 z 28 (mv 10),
 z 29 (cl 17 #[(t 25), (t 26), (t 27), (t 28)] #[28, 3, 3, 3]),
 z 24 (mv 29),
 z 30 (xt 24 0),
 z 31 (xt 24 1),
 z 11 (al 28),
 ⟨none, st 28 11 30, none, true⟩,
 z 12 (av 31)])
(S (S (R [z 32 (mv 12),
 z 33 (cl 20 #[(t 32)] #[30]),
 z 34 (bo .neq (t 33) (n 0))])
(.cond (t 34)
(S (R [z 35 (ld 28 11),
 z 36 (.build 28 #[]),
 z 37 (cl 19 #[(t 35), (t 36)] #[28, 28]),
 z 38 (mv 37),
 zT 39 (ld 28 4) 38,
 zT 40 (cl 26 #[(t 39)] #[28]) 38,
 zT 41 (.unOp .not 4 (.tmp 40)) 38,
 zT 42 (mv 41) 38,
 zF 43 (mv 1) 42,
 zF 44 (bo .lss (t 43) (n 0)) 42,
 zT 45 (.pick (.tmp 42) (.const (.bool true)) (.tmp 44)) 38,
 zT 46 (mv 45) 38,
 zF 47 (mv 1) 46,
 zF 48 (fa 28 4 3) 46,
 zF 49 (ld 25 48) 46,
 zF 50 (len 49 25) 46,
 zF 51 (bo .geq (t 47) (t 50)) 46,
 zT 52 (.pick (.tmp 46) (.const (.bool true)) (.tmp 51)) 38,
 z 53 (.pick (.tmp 38) (.tmp 52) (.const (.bool false))),
 z 8 (av 53)])
(.ret [8]))
.skip))
(S (S (R [z 54 (mv 1),
 z 55 (bo .lss (t 54) (n 0)),
 z 56 (mv 55),
 zF 57 (mv 1) 56,
 zF 58 (fa 28 11 3) 56,
 zF 59 (ld 25 58) 56,
 zF 60 (len 59 25) 56,
 zF 61 (bo .geq (t 57) (t 60)) 56,
 z 62 (.pick (.tmp 56) (.const (.bool true)) (.tmp 61))])
(.cond (t 62)
(S (R [z 8 (ab false)])
(.ret [8]))
.skip))
(S (R [z 64 (ld 28 11),
 z 65 (mv 1),
 z 66 (cl 27 #[(t 64), (t 65)] #[28, 3]),
 z 63 (mv 66),
 z 67 (xt 63 0),
 z 68 (xt 63 1),
 z 13 (al 28),
 ⟨none, st 28 13 67, none, true⟩,
 z 14 (av 68)])
(S (R [z 69 (fa 28 11 3),
 z 70 (ld 25 69),
 z 71 (mv 1),
 o 72 (ia 25 70 71),
 z 73 (ld 52 72),
 z 15 (al 52),
 ⟨none, st 52 15 73, none, true⟩])
(S (R [z 74 (mv 14),
 z 75 (bo .eql (t 74) (n 0)),
 z 76 (mv 75),
 zT 77 (ld 28 11) 76,
 zT 78 (ld 28 13) 76,
 zT 79 (cl 19 #[(t 77), (t 78)] #[28, 28]) 76,
 z 80 (.pick (.tmp 76) (.tmp 79) (.const (.bool false))),
 z 81 (mv 80),
 zT 82 (fa 52 15 4) 81,
 zT 83 (ld 3 82) 81,
 zT 84 (bo .eql (t 83) (n 6)) 81,
 z 85 (.pick (.tmp 81) (.tmp 84) (.const (.bool false))),
 z 86 (mv 85),
 zT 87 (fa 52 15 12) 86,
 zT 88 (ld 3 87) 86,
 zT 89 (mv 9) 86,
 zT 90 (bo .eql (t 88) (t 89)) 86,
 z 91 (.pick (.tmp 86) (.tmp 90) (.const (.bool false))),
 z 92 (mv 91),
 zT 93 (fa 52 15 13) 92,
 zT 94 (ld 3 93) 92,
 zT 95 (mv 10) 92,
 zT 96 (bo .eql (t 94) (t 95)) 92,
 z 97 (.pick (.tmp 92) (.tmp 96) (.const (.bool false))),
 z 98 (mv 97),
 zT 99 (fa 52 15 7) 98,
 zT 100 (ld 49 99) 98,
 zT 101 (len 100 49) 98,
 zT 102 (fa 52 15 8) 98,
 zT 103 (ld 50 102) 98,
 zT 104 (len 103 50) 98,
 zT 105 (bo .add (t 101) (t 104)) 98,
 zT 106 (fa 52 15 9) 98,
 zT 107 (ld 3 106) 98,
 zT 108 (bo .add (t 105) (t 107)) 98,
 zT 109 (fa 52 15 10) 98,
 zT 110 (ld 3 109) 98,
 zT 111 (bo .add (t 108) (t 110)) 98,
 zT 112 (bo .eql (t 111) (n 0)) 98,
 z 113 (.pick (.tmp 98) (.tmp 112) (.const (.bool false))),
 z 8 (av 113)])
(.ret [8]))))))))))
def g7 : IFn := ⟨114, [.tmp 8], [4], c7, [], false, none⟩
/- 8 veil/veillaw13.UndoTwice -/
def d8_1 : IR := D [z 105 (fa 28 17 3),
 z 106 (ld 25 105),
 z 107 (mv 1),
 z 108 (fa 28 9 3),
 z 109 (ld 25 108),
 z 110 (mv 1),
 o 111 (ia 25 109 110),
 z 112 (fa 52 111 11),
 z 113 (ld 3 112),
 o 114 (ia 25 106 107),
 z 115 (fa 52 114 11),
 ⟨none, st 3 115 113, none, true⟩] [[], [0], [], [], [3], [], [4, 5], [6], [7], [1, 2, 0, 1, 2, 3, 4, 5, 6, 7, 8], [9, 0, 1, 2, 3, 4, 5, 6, 7, 8], [10, 8, 0, 1, 2, 3, 4, 5, 6, 7, 8]]
def c8 : IR := (S (R [z 4 (bx 28 0),
 z 8 (ab false)])
(S (S (R [z 18 (cl 22 #[] #[]),
 z 19 (.unOp .not 4 (.tmp 18))])
(.cond (t 19)
(S (R [z 8 (ab false)])
(.ret [8]))
.skip))
(S (R [z 21 (ld 28 4),
 z 22 (mv 1),
 z 23 (cl 15 #[(t 21), (t 22), (n 5)] #[28, 3, 3]),
 z 20 (mv 23),
 z 24 (xt 20 0),
 z 25 (xt 20 1),
 z 9 (al 28),
 ⟨none, st 28 9 24, none, true⟩,
 z 10 (av 25)])
(S (R [z 27 (ld 28 9),
 z 28 (mv 1),
 z 29 (cl 15 #[(t 27), (t 28), (n 5)] #[28, 3, 3]),
 z 26 (mv 29),
 z 30 (xt 26 0),
 z 31 (xt 26 1),
 z 11 (al 28),
 ⟨none, st 28 11 30, none, true⟩,
 z 12 (av 31)])
(S (R [z 33 (ld 28 4),
 z 34 (mv 1),
 z 35 (mv 2),
 z 36 (bo .and (t 35) (n 255)),
 z 37 (cl 17 #[(t 33), (t 34), (n 2), (t 36)] #[28, 3, 3, 3]),
 z 32 (mv 37),
 z 38 (xt 32 0),
 z 39 (xt 32 1),
 z 13 (al 28),
 ⟨none, st 28 13 38, none, true⟩,
 z 14 (av 39)])
(S (R [z 41 (ld 28 13),
 z 42 (mv 1),
 z 43 (mv 3),
 z 44 (bo .and (t 43) (n 255)),
 z 45 (cl 17 #[(t 41), (t 42), (n 2), (t 44)] #[28, 3, 3, 3]),
 z 40 (mv 45),
 z 46 (xt 40 0),
 z 47 (xt 40 1),
 z 15 (al 28),
 ⟨none, st 28 15 46, none, true⟩,
 z 16 (av 47)])
(S (S (R [z 48 (mv 10),
 z 49 (cl 20 #[(t 48)] #[30]),
 z 50 (bo .neq (t 49) (n 0)),
 z 51 (mv 50),
 zF 52 (mv 14) 51,
 zF 53 (cl 20 #[(t 52)] #[30]) 51,
 zF 54 (bo .neq (t 53) (n 0)) 51,
 z 55 (.pick (.tmp 51) (.const (.bool true)) (.tmp 54))])
(.cond (t 55)
(S (R [z 56 (ld 28 4),
 z 57 (cl 26 #[(t 56)] #[28]),
 z 58 (.unOp .not 4 (.tmp 57)),
 z 59 (mv 58),
 zF 60 (mv 1) 59,
 zF 61 (bo .lss (t 60) (n 0)) 59,
 z 62 (.pick (.tmp 59) (.const (.bool true)) (.tmp 61)),
 z 63 (mv 62),
 zF 64 (mv 1) 63,
 zF 65 (fa 28 4 3) 63,
 zF 66 (ld 25 65) 63,
 zF 67 (len 66 25) 63,
 zF 68 (bo .geq (t 64) (t 67)) 63,
 z 69 (.pick (.tmp 63) (.const (.bool true)) (.tmp 68)),
 z 8 (av 69)])
(.ret [8]))
.skip))
(S (S (R [z 70 (mv 12),
 z 71 (cl 20 #[(t 70)] #[30]),
 z 72 (bo .neq (t 71) (n 0)),
 z 73 (mv 72),
 zF 74 (mv 16) 73,
 zF 75 (cl 20 #[(t 74)] #[30]) 73,
 zF 76 (bo .neq (t 75) (n 0)) 73,
 z 77 (.pick (.tmp 73) (.const (.bool true)) (.tmp 76)),
 z 78 (mv 77),
 zF 79 (mv 1) 78,
 zF 80 (bo .lss (t 79) (n 0)) 78,
 z 81 (.pick (.tmp 78) (.const (.bool true)) (.tmp 80)),
 z 82 (mv 81),
 zF 83 (mv 1) 82,
 zF 84 (fa 28 9 3) 82,
 zF 85 (ld 25 84) 82,
 zF 86 (len 85 25) 82,
 zF 87 (bo .geq (t 83) (t 86)) 82,
 z 88 (.pick (.tmp 82) (.const (.bool true)) (.tmp 87)),
 z 89 (mv 88),
 zF 90 (mv 1) 89,
 zF 91 (fa 28 11 3) 89,
 zF 92 (ld 25 91) 89,
 zF 93 (len 92 25) 89,
 zF 94 (bo .geq (t 90) (t 93)) 89,
 z 95 (.pick (.tmp 89) (.const (.bool true)) (.tmp 94)),
 z 96 (mv 95),
 zF 97 (mv 1) 96,
 zF 98 (fa 28 15 3) 96,
 zF 99 (ld 25 98) 96,
 zF 100 (len 99 25) 96,
 zF 101 (bo .geq (t 97) (t 100)) 96,
 z 102 (.pick (.tmp 96) (.const (.bool true)) (.tmp 101))])
(.cond (t 102)
(S (R [z 8 (ab false)])
(.ret [8]))
.skip))
(S (R [z 103 (ld 28 11),
 o 104 (cl 14 #[(t 103)] #[28]),
 z 17 (al 28),
 ⟨none, st 28 17 104, none, true⟩])
(S d8_1
(S (R [z 116 (.buildSlice 26 0 #[]),
 z 117 (fa 28 9 4),
 z 118 (ld 26 117),
 z 119 (.call { callee := (.builtin .append), args := #[(.tmp 116), (.tmp 118)], argTypes := #[26, 26] }),
 z 120 (fa 28 17 4),
 ⟨none, st 26 120 119, none, true⟩])
(S (R [z 121 (ld 28 17),
 z 122 (ld 28 9),
 z 123 (cl 19 #[(t 121), (t 122)] #[28, 28]),
 z 124 (mv 123),
 zT 125 (fa 28 13 0) 124,
 zT 126 (ld 23 125) 124,
 zT 127 (fa 28 15 0) 124,
 zT 128 (ld 23 127) 124,
 zT 129 (cl 28 #[(t 126), (t 128)] #[23, 23]) 124,
 z 130 (.pick (.tmp 124) (.tmp 129) (.const (.bool false))),
 z 131 (mv 130),
 zT 132 (fa 28 15 3) 131,
 zT 133 (ld 25 132) 131,
 zT 134 (mv 1) 131,
 oT 135 (ia 25 133 134) 131,
 zT 136 (fa 52 135 13) 131,
 zT 137 (ld 3 136) 131,
 zT 138 (mv 3) 131,
 zT 139 (bo .and (t 138) (n 255)) 131,
 zT 140 (bo .eql (t 137) (t 139)) 131,
 z 141 (.pick (.tmp 131) (.tmp 140) (.const (.bool false))),
 z 8 (av 141)])
(.ret [8])))))))))))))
def g8 : IFn := ⟨142, [.tmp 8], [4], c8, [], false, none⟩
/- 9 veil/veillaw21.Backs -/
def c9 : IR := (S (R [z 2 (bx 28 0),
 z 4 (ab false)])
(S (R [z 10 (ld 28 2),
 z 11 (cl 14 #[(t 10)] #[28]),
 z 5 (al 28),
 ⟨none, st 28 5 11, none, true⟩])
(S (R [z 13 (ld 28 5),
 z 14 (mv 1),
 o 15 (cl 29 #[(t 13), (t 14)] #[28, 3]),
 z 12 (mv 15),
 z 16 (xt 12 0),
 z 17 (xt 12 1),
 z 6 (al 28),
 ⟨none, st 28 6 16, none, true⟩,
 z 7 (av 17)])
(S (R [z 19 (ld 28 2),
 z 20 (mv 1),
 z 21 (cl 30 #[(t 19), (t 20)] #[28, 3]),
 z 18 (mv 21),
 z 22 (xt 18 0),
 z 23 (xt 18 1),
 z 8 (al 28),
 ⟨none, st 28 8 22, none, true⟩,
 z 9 (av 23)])
(S (S (R [z 24 (ld 28 6),
 z 25 (ld 28 8),
 z 26 (cl 19 #[(t 24), (t 25)] #[28, 28]),
 z 27 (.unOp .not 4 (.tmp 26)),
 z 28 (mv 27),
 zF 29 (mv 7) 28,
 zF 30 (cl 20 #[(t 29)] #[30]) 28,
 zF 31 (mv 9) 28,
 zF 32 (bo .neq (t 30) (t 31)) 28,
 z 33 (.pick (.tmp 28) (.const (.bool true)) (.tmp 32))])
(.cond (t 33)
(S (R [z 4 (ab false)])
(.ret [4]))
.skip))
(S (R [z 34 (ld 28 6),
 z 35 (cl 21 #[(t 34)] #[28])])
(S (R [z 36 (ld 28 5),
 z 37 (ld 28 2),
 z 38 (cl 19 #[(t 36), (t 37)] #[28, 28]),
 z 39 (mv 38),
 zT 40 (cl 31 #[] #[]) 39,
 z 41 (.pick (.tmp 39) (.tmp 40) (.const (.bool false))),
 z 4 (av 41)])
(.ret [4]))))))))
def g9 : IFn := ⟨42, [.tmp 4], [4], c9, [], false, none⟩
/- 10 veil/veillaw21.BackForms -/
def c10 : IR := (S (R [z 4 (ab false)])
(S (S (R [z 10 (cl 31 #[] #[]),
 z 11 (.unOp .not 4 (.tmp 10))])
(.cond (t 11)
(S (R [z 4 (ab false)])
(.ret [4]))
.skip))
(S (R [z 12 (mv 1),
 z 13 (bo .and (t 12) (n 1023)),
 z 14 (bo .add (n 1) (t 13)),
 z 5 (av 14)])
(S (R [o 15 (cl 32 #[(n 0), (n 7)] #[3, 3]),
 z 6 (al 28),
 ⟨none, st 28 6 15, none, true⟩,
 z 7 (an 0)])
(S (S (R [z 16 (mv 0),
 z 17 (.convert 3 45 (.tmp 16)),
 z 18 (.binOp .rem 45 (.tmp 17) (.const (.int .u64 5)) 45)])
(.block 0 (S (R [z 29 (.binOp .eql 45 (.tmp 18) (.const (.int .u64 0)) 45),
 z 28 (av 29)])
(.cond (t 28)
(R [z 30 (mv 5),
 z 31 (.unOp .neg 3 (.tmp 30)),
 z 32 (mv 5),
 z 33 (bo .add (n 1) (t 32)),
 z 34 (.buildSlice 46 2 #[(0, (.tmp 31)), (1, (.tmp 33))]),
 z 35 (mv 0),
 z 36 (.binOp .shr 3 (.tmp 35) (.const (.int .u64 3)) 45),
 z 37 (bo .and (t 36) (n 1)),
 o 38 (ia 46 34 37),
 z 39 (ld 3 38),
 z 7 (av 39)])
(S (R [z 41 (.binOp .eql 45 (.tmp 18) (.const (.int .u64 1)) 45),
 z 40 (av 41)])
(.cond (t 40)
(R [z 42 (mv 5),
 z 43 (.unOp .neg 3 (.tmp 42)),
 z 44 (fa 28 6 2),
 ⟨none, st 3 44 43, none, true⟩])
(S (R [z 46 (.binOp .eql 45 (.tmp 18) (.const (.int .u64 2)) 45),
 z 45 (av 46)])
(.cond (t 45)
(R [z 47 (fa 28 6 3),
 z 48 (ld 25 47),
 z 49 (mv 0),
 z 50 (.convert 3 45 (.tmp 49)),
 z 51 (.binOp .shr 45 (.tmp 50) (.const (.int .u64 3)) 45),
 z 52 (.binOp .rem 45 (.tmp 51) (.const (.int .u64 6)) 45),
 z 53 (.convert 45 3 (.tmp 52)),
 z 54 (bo .add (n 5) (t 53)),
 z 55 (bo .rem (t 54) (n 7)),
 o 56 (.indexAddr 25 (.tmp 48) (.const (.int .i64 0))),
 z 57 (fa 52 56 4),
 ⟨none, st 3 57 55, none, true⟩])
(S (R [z 59 (.binOp .eql 45 (.tmp 18) (.const (.int .u64 3)) 45),
 z 58 (av 59)])
(.cond (t 58)
(R [z 7 (an 1)])
(R [z 19 (fa 28 6 3),
 z 20 (ld 25 19),
 z 21 (mv 1),
 z 22 (bo .and (t 21) (n 3)),
 z 23 (mv 5),
 z 24 (.unOp .neg 3 (.tmp 23)),
 o 25 (.indexAddr 25 (.tmp 20) (.const (.int .i64 0))),
 z 26 (fa 52 25 6),
 o 27 (ia 24 26 22),
 ⟨none, st 3 27 24, none, true⟩])))))))))))
(S (R [z 61 (ld 28 6),
 z 62 (mv 7),
 z 63 (cl 29 #[(t 61), (t 62)] #[28, 3]),
 z 60 (mv 63),
 z 64 (xt 60 0),
 z 65 (xt 60 1),
 z 8 (al 28),
 ⟨none, st 28 8 64, none, true⟩,
 z 9 (av 65)])
(S (R [z 66 (ld 28 8),
 z 67 (.build 28 #[]),
 z 68 (cl 19 #[(t 66), (t 67)] #[28, 28]),
 z 69 (mv 68),
 zT 70 (mv 9) 69,
 zT 71 (cl 20 #[(t 70)] #[30]) 69,
 zT 72 (bo .eql (t 71) (n 2100)) 69,
 z 73 (.pick (.tmp 69) (.tmp 72) (.const (.bool false))),
 z 4 (av 73)])
(.ret [4]))))))))
def g10 : IFn := ⟨74, [.tmp 4], [4], c10, [], false, none⟩
/- 11 veil/veillaw21.BackOne -/
def d11_1 : IR := D [z 28 (mv 1),
 z 29 (bo .lss (t 28) (n 0)),
 z 30 (mv 29),
 zF 31 (mv 1) 30,
 zF 32 (fa 28 2 3) 30,
 zF 33 (ld 25 32) 30,
 zF 34 (len 33 25) 30,
 zF 35 (bo .geq (t 31) (t 34)) 30,
 z 36 (.pick (.tmp 30) (.const (.bool true)) (.tmp 35)),
 z 37 (mv 36),
 zF 38 (mv 1) 37,
 zF 39 (fa 28 5 3) 37,
 zF 40 (ld 25 39) 37,
 zF 41 (len 40 25) 37,
 zF 42 (bo .geq (t 38) (t 41)) 37,
 z 43 (.pick (.tmp 37) (.const (.bool true)) (.tmp 42)),
 z 44 (mv 43),
 zF 45 (fa 28 2 3) 44,
 zF 46 (ld 25 45) 44,
 zF 47 (mv 1) 44,
 oF 48 (ia 25 46 47) 44,
 zF 49 (fa 52 48 9) 44,
 zF 50 (ld 3 49) 44,
 zF 51 (bo .lss (t 50) (n 0)) 44,
 z 52 (.pick (.tmp 44) (.const (.bool true)) (.tmp 51)),
 z 53 (mv 52),
 zF 54 (fa 28 2 3) 53,
 zF 55 (ld 25 54) 53,
 zF 56 (mv 1) 53,
 oF 57 (ia 25 55 56) 53,
 zF 58 (fa 52 57 9) 53,
 zF 59 (ld 3 58) 53,
 zF 60 (fa 28 2 3) 53,
 zF 61 (ld 25 60) 53,
 zF 62 (mv 1) 53,
 oF 63 (ia 25 61 62) 53,
 zF 64 (fa 52 63 8) 53,
 zF 65 (ld 50 64) 53,
 zF 66 (len 65 50) 53,
 zF 67 (bo .geq (t 59) (t 66)) 53,
 z 68 (.pick (.tmp 53) (.const (.bool true)) (.tmp 67))] [[], [0], [1], [2], [2], [4, 2], [5, 2], [3, 6, 2], [2, 7], [8, 2], [9], [9], [11, 9], [12, 9], [10, 13, 9], [9, 14], [15, 9], [16], [17, 16], [16], [18, 19, 16], [20, 16], [21, 16], [22, 16], [16, 23], [24, 16], [25], [26, 25], [25], [27, 28, 25], [29, 25], [30, 25], [25], [32, 25], [25], [33, 34, 25], [35, 25], [36, 25], [37, 25], [31, 38, 25], [25, 39]]
def d11_2 : IR := D [z 69 (fa 28 2 3),
 z 70 (ld 25 69),
 z 71 (mv 1),
 o 72 (ia 25 70 71),
 z 73 (ld 52 72),
 z 74 (fa 28 5 3),
 z 75 (ld 25 74),
 z 76 (mv 1),
 o 77 (ia 25 75 76),
 z 78 (ld 52 77),
 z 7 (al 52),
 z 8 (al 52),
 ⟨none, st 52 7 73, none, true⟩,
 ⟨none, st 52 8 78, none, true⟩] [[], [0], [], [1, 2], [3], [], [5], [], [6, 7], [8], [], [], [10, 4, 0, 1, 2, 3, 4, 10, 11], [11, 9, 12, 0, 1, 2, 3, 4, 5, 6, 7, 8, 9, 10, 11, 12]]
def d11_3 : IR := D [z 96 (mv 11),
 z 97 (fa 28 5 0),
 o 98 (ia 23 97 96),
 z 99 (ld 22 98),
 z 100 (len 99 22),
 z 101 (mv 11),
 z 102 (fa 28 2 0),
 o 103 (ia 23 102 101),
 z 104 (ld 22 103),
 z 105 (len 104 22),
 z 106 (bo .neq (t 100) (t 105))] [[], [], [1, 0], [2], [3], [], [], [6, 5], [7], [8], [4, 9]]
def d11_4 : IR := D [z 148 (mv 11),
 z 149 (fa 28 5 0),
 o 150 (ia 23 149 148),
 z 151 (ld 22 150),
 z 152 (mv 12),
 o 153 (ia 22 151 152),
 z 154 (ld 65 153),
 z 155 (ld 65 13),
 z 156 (.binOp .neq 65 (.tmp 154) (.tmp 155) 65)] [[], [], [1, 0], [2], [], [3, 4], [5], [], [6, 7]]
def c11_1 : IR := (S (S (R [z 107 (mv 12),
 z 108 (mv 11),
 z 109 (fa 28 5 0),
 o 110 (ia 23 109 108),
 z 111 (ld 22 110),
 z 112 (len 111 22),
 z 113 (bo .lss (t 107) (t 112))])
(.cond (t 113)
.skip
(.exit 2 [2, 5, 7, 8, 9, 10, 11])))
(S (.block 3 (S (R [z 116 (mv 11),
 z 117 (fa 28 2 0),
 o 118 (ia 23 117 116),
 z 119 (ld 22 118),
 z 120 (mv 12),
 o 121 (ia 22 119 120),
 z 122 (ld 65 121),
 z 13 (al 65),
 ⟨none, st 65 13 122, none, true⟩])
(S (S (R [z 123 (mv 10),
 z 124 (mv 123),
 zT 125 (fa 65 13 2) 124,
 zT 126 (ld 3 125) 124,
 zT 127 (fa 52 7 0) 124,
 zT 128 (ld 3 127) 124,
 zT 129 (bo .add (t 128) (n 1)) 124,
 zT 130 (bo .eql (t 126) (t 129)) 124,
 z 131 (.pick (.tmp 124) (.tmp 130) (.const (.bool false)))])
(.cond (t 131)
(R [z 132 (fa 65 13 2),
 ⟨none, .store 3 (.tmp 132) (.const (.int .i64 0)), none, true⟩])
.skip))
(S (S (R [z 133 (mv 11),
 z 134 (fa 63 9 0),
 z 135 (ld 3 134),
 z 136 (bo .eql (t 133) (t 135)),
 z 137 (mv 136),
 zT 138 (mv 12) 137,
 zT 139 (fa 63 9 1) 137,
 zT 140 (ld 3 139) 137,
 zT 141 (bo .eql (t 138) (t 140)) 137,
 z 142 (.pick (.tmp 137) (.tmp 141) (.const (.bool false)))])
(.cond (t 142)
(R [z 143 (fa 63 9 2),
 z 144 (ld 3 143),
 z 145 (fa 52 7 10),
 z 146 (ld 3 145),
 z 147 (.build 65 #[(0, (.tmp 144)), (1, (.tmp 146))]),
 ⟨none, st 65 13 147, none, true⟩])
.skip))
(S d11_4
(.cond (t 156)
(S (R [z 4 (ab false)])
(.ret [4]))
.skip))))))
(R [z 114 (mv 12),
 z 115 (bo .add (t 114) (n 1)),
 z 12 (av 115)])))
def c11_2 : IR := (S (S (R [z 92 (mv 11),
 z 93 (bo .lss (t 92) (n 4))])
(.cond (t 93)
.skip
(.exit 0 [2, 5, 7, 8, 10])))
(S (.block 1 (S (S d11_3
(.cond (t 106)
(S (R [z 4 (ab false)])
(.ret [4]))
.skip))
(S (R [z 12 (an 0)])
(.block 2 (.loop [2, 5, 7, 8, 9, 10, 11, 12] c11_1)))))
(R [z 94 (mv 11),
 z 95 (bo .add (t 94) (n 1)),
 z 11 (av 95)])))
def c11 : IR := (S (R [z 2 (bx 28 0),
 z 4 (ab false)])
(S (S (R [z 14 (cl 31 #[] #[]),
 z 15 (.unOp .not 4 (.tmp 14))])
(.cond (t 15)
(S (R [z 4 (ab false)])
(.ret [4]))
.skip))
(S (R [z 17 (ld 28 2),
 z 18 (mv 1),
 z 19 (cl 29 #[(t 17), (t 18)] #[28, 3]),
 z 16 (mv 19),
 z 20 (xt 16 0),
 z 21 (xt 16 1),
 z 5 (al 28),
 ⟨none, st 28 5 20, none, true⟩,
 z 6 (av 21)])
(S (S (R [z 22 (mv 6),
 z 23 (cl 20 #[(t 22)] #[30]),
 z 24 (bo .neq (t 23) (n 0))])
(.cond (t 24)
(S (R [z 25 (ld 28 5),
 z 26 (.build 28 #[]),
 z 27 (cl 19 #[(t 25), (t 26)] #[28, 28]),
 z 4 (av 27)])
(.ret [4]))
.skip))
(S (S d11_1
(.cond (t 68)
(S (R [z 4 (ab false)])
(.ret [4]))
.skip))
(S d11_2
(S (R [z 79 (fa 52 7 8),
 z 80 (ld 50 79),
 z 81 (fa 52 7 9),
 z 82 (ld 3 81),
 o 83 (ia 50 80 82),
 z 84 (ld 63 83),
 z 9 (al 63),
 ⟨none, st 63 9 84, none, true⟩])
(S (R [z 85 (fa 52 7 9),
 z 86 (ld 3 85),
 z 87 (bo .add (t 86) (n 1)),
 z 88 (fa 52 7 8),
 z 89 (ld 50 88),
 z 90 (len 89 50),
 z 91 (bo .eql (t 87) (t 90)),
 z 10 (av 91)])
(S (S (R [z 11 (an 0)])
(.block 0 (.loop [2, 5, 7, 8, 9, 10, 11] c11_2)))
(S (R [z 157 (fa 28 5 1),
 z 158 (ld 24 157),
 z 159 (fa 28 2 1),
 z 160 (ld 24 159),
 z 161 (.binOp .eql 24 (.tmp 158) (.tmp 160) 24),
 z 162 (mv 161),
 zT 163 (mv 10) 162,
 zT 164 (mv 163) 162,
 zT 165 (fa 52 8 4) 164,
 zT 166 (ld 3 165) 164,
 zT 167 (bo .eql (t 166) (n 6)) 164,
 zT 168 (.pick (.tmp 164) (.tmp 167) (.const (.bool false))) 162,
 zT 169 (mv 168) 162,
 zT 170 (fa 52 8 12) 169,
 zT 171 (ld 3 170) 169,
 zT 172 (bo .eql (t 171) (n 1)) 169,
 zT 173 (.pick (.tmp 169) (.tmp 172) (.const (.bool false))) 162,
 zT 174 (mv 173) 162,
 zF 175 (mv 10) 174,
 zF 176 (.unOp .not 4 (.tmp 175)) 174,
 zF 177 (mv 176) 174,
 zT 178 (fa 52 8 9) 177,
 zT 179 (ld 3 178) 177,
 zT 180 (fa 52 7 9) 177,
 zT 181 (ld 3 180) 177,
 zT 182 (bo .add (t 181) (n 1)) 177,
 zT 183 (bo .eql (t 179) (t 182)) 177,
 zF 184 (.pick (.tmp 177) (.tmp 183) (.const (.bool false))) 174,
 zF 185 (mv 184) 174,
 zT 186 (fa 52 8 4) 185,
 zT 187 (ld 3 186) 185,
 zT 188 (bo .eql (t 187) (n 4)) 185,
 zF 189 (.pick (.tmp 185) (.tmp 188) (.const (.bool false))) 174,
 zT 190 (.pick (.tmp 174) (.const (.bool true)) (.tmp 189)) 162,
 z 191 (.pick (.tmp 162) (.tmp 190) (.const (.bool false))),
 z 4 (av 191)])
(.ret [4])))))))))))
def g11 : IFn := ⟨192, [.tmp 4], [4], c11, [], false, none⟩
/- 12 veil/veillaw21.BackAll -/
def c12_1 : IR := (S (S (R [z 31 (mv 11),
 z 32 (bo .lss (t 31) (n 4))])
(.cond (t 32)
.skip
(.exit 0 [0, 7, 8, 9, 10])))
(S (.block 1 (S (R [z 35 (mv 0),
 z 36 (mv 11),
 z 37 (bo .shr (t 35) (t 36)),
 z 38 (bo .and (t 37) (n 1)),
 z 39 (bo .eql (t 38) (n 1))])
(.cond (t 39)
(R [z 40 (mv 10),
 z 41 (mv 11),
 z 42 (mv 8),
 z 43 (mv 11),
 z 44 (bo .add (t 42) (t 43)),
 z 45 (.build 63 #[(1, (.tmp 41)), (2, (.tmp 44))]),
 z 46 (.buildSlice 50 1 #[(0, (.tmp 45))]),
 z 47 (.call { callee := (.builtin .append), args := #[(.tmp 40), (.tmp 46)], argTypes := #[50, 50] }),
 z 10 (av 47)])
.skip)))
(R [z 33 (mv 11),
 z 34 (bo .add (t 33) (n 1)),
 z 11 (av 34)])))
def c12_2 : IR := (S (S (R [z 62 (mv 12),
 z 63 (mv 10),
 z 64 (len 63 50),
 z 65 (bo .lss (t 62) (t 64))])
(.cond (t 65)
.skip
(.exit 2 [0, 7, 8, 9, 10])))
(S (.block 3 (S (R [z 69 (ld 28 7),
 z 70 (cl 29 #[(t 69), (n 0)] #[28, 3]),
 z 68 (mv 70),
 z 71 (xt 68 0),
 z 72 (xt 68 1),
 z 13 (al 28),
 ⟨none, st 28 13 71, none, true⟩,
 z 14 (av 72)])
(S (S (R [z 73 (mv 14),
 z 74 (cl 20 #[(t 73)] #[30]),
 z 75 (bo .neq (t 74) (n 0)),
 z 76 (mv 75),
 zF 77 (fa 28 13 3) 76,
 zF 78 (ld 25 77) 76,
 zF 79 (len 78 25) 76,
 zF 80 (bo .neq (t 79) (n 2)) 76,
 z 81 (.pick (.tmp 76) (.const (.bool true)) (.tmp 80)),
 z 82 (mv 81),
 zF 83 (fa 28 13 0) 82,
 oF 84 (.indexAddr 23 (.tmp 83) (.const (.int .i64 0))) 82,
 zF 85 (ld 22 84) 82,
 zF 86 (len 85 22) 82,
 zF 87 (bo .neq (t 86) (n 4)) 82,
 z 88 (.pick (.tmp 82) (.const (.bool true)) (.tmp 87))])
(.cond (t 88)
(S (R [z 6 (ab false)])
(.ret [6]))
.skip))
(R [z 89 (ld 28 13),
 ⟨none, st 28 7 89, none, true⟩]))))
(R [z 66 (mv 12),
 z 67 (bo .add (t 66) (n 1)),
 z 12 (av 67)])))
def d12_1 : IR := D [z 110 (fa 28 7 0),
 o 111 (.indexAddr 23 (.tmp 110) (.const (.int .i64 0))),
 z 112 (ld 22 111),
 z 113 (mv 15),
 o 114 (ia 22 112 113),
 z 115 (ld 65 114),
 z 116 (ld 65 16),
 z 117 (.binOp .neq 65 (.tmp 115) (.tmp 116) 65)] [[], [0], [1], [], [2, 3], [4], [], [5, 6]]
def c12_3 : IR := (S (S (R [z 90 (mv 15),
 z 91 (bo .lss (t 90) (n 4)),
 z 92 (mv 91),
 zT 93 (mv 10) 92,
 zT 94 (len 93 50) 92,
 zT 95 (bo .gtr (t 94) (n 0)) 92,
 z 96 (.pick (.tmp 92) (.tmp 95) (.const (.bool false)))])
(.cond (t 96)
.skip
(.exit 4 [7, 10])))
(S (.block 5 (S (R [z 99 (.build 65 #[]),
 z 16 (al 65),
 ⟨none, st 65 16 99, none, true⟩])
(S (S (R [z 100 (mv 0),
 z 101 (mv 15),
 z 102 (bo .shr (t 100) (t 101)),
 z 103 (bo .and (t 102) (n 1)),
 z 104 (bo .eql (t 103) (n 1))])
(.cond (t 104)
(R [z 105 (mv 8),
 z 106 (mv 15),
 z 107 (bo .add (t 105) (t 106)),
 z 108 (mv 9),
 z 109 (.build 65 #[(0, (.tmp 107)), (1, (.tmp 108))]),
 ⟨none, st 65 16 109, none, true⟩])
.skip))
(S d12_1
(.cond (t 117)
(S (R [z 6 (ab false)])
(.ret [6]))
.skip)))))
(R [z 97 (mv 15),
 z 98 (bo .add (t 97) (n 1)),
 z 15 (av 98)])))
def c12 : IR := (S (R [z 6 (ab false)])
(S (S (R [z 17 (cl 31 #[] #[]),
 z 18 (.unOp .not 4 (.tmp 17))])
(.cond (t 18)
(S (R [z 6 (ab false)])
(.ret [6]))
.skip))
(S (R [o 19 (cl 33 #[] #[]),
 z 7 (al 28),
 ⟨none, st 28 7 19, none, true⟩])
(S (R [z 20 (.build 65 #[(2, (.const (.int .i64 4)))]),
 z 21 (.build 65 #[(2, (.const (.int .i64 4)))]),
 z 22 (.build 65 #[(2, (.const (.int .i64 4)))]),
 z 23 (.build 65 #[(2, (.const (.int .i64 4)))]),
 z 24 (.buildSlice 22 4 #[(0, (.tmp 20)), (1, (.tmp 21)), (2, (.tmp 22)), (3, (.tmp 23))]),
 z 25 (fa 28 7 0),
 o 26 (.indexAddr 23 (.tmp 25) (.const (.int .i64 0))),
 ⟨none, st 22 26 24, none, true⟩])
(S (R [z 27 (mv 1),
 z 28 (bo .and (t 27) (n 127)),
 z 29 (mv 2),
 z 30 (bo .and (t 29) (n 65535)),
 z 8 (av 28),
 z 9 (av 30)])
(S (R [z 10 (.assign (.const (.slice none 0 0)))])
(S (S (R [z 11 (an 0)])
(.block 0 (.loop [0, 7, 8, 9, 10, 11] c12_1)))
(S (R [z 48 (fa 28 7 3),
 z 49 (ld 25 48),
 z 50 (mv 10),
 o 51 (.indexAddr 25 (.tmp 49) (.const (.int .i64 0))),
 z 52 (fa 52 51 8),
 ⟨none, st 50 52 50, none, true⟩])
(S (R [z 53 (fa 28 7 3),
 z 54 (ld 25 53),
 o 55 (.indexAddr 25 (.tmp 54) (.const (.int .i64 0))),
 z 56 (fa 52 55 4),
 ⟨none, .store 3 (.tmp 56) (.const (.int .i64 4)), none, true⟩])
(S (R [z 57 (fa 28 7 3),
 z 58 (ld 25 57),
 z 59 (mv 9),
 o 60 (.indexAddr 25 (.tmp 58) (.const (.int .i64 0))),
 z 61 (fa 52 60 10),
 ⟨none, st 3 61 59, none, true⟩])
(S (S (R [z 12 (an 0)])
(.block 2 (.loop [0, 7, 8, 9, 10, 12] c12_2)))
(S (S (R [z 15 (an 0)])
(.block 4 (.loop [0, 7, 8, 9, 10, 15] c12_3)))
(S (R [z 118 (mv 10),
 z 119 (len 118 50),
 z 120 (bo .eql (t 119) (n 0)),
 z 121 (mv 120),
 zF 122 (fa 28 7 3) 121,
 zF 123 (ld 25 122) 121,
 oF 124 (.indexAddr 25 (.tmp 123) (.const (.int .i64 0))) 121,
 zF 125 (fa 52 124 4) 121,
 zF 126 (ld 3 125) 121,
 zF 127 (bo .eql (t 126) (n 6)) 121,
 z 128 (.pick (.tmp 121) (.const (.bool true)) (.tmp 127)),
 z 6 (av 128)])
(.ret [6]))))))))))))))
def g12 : IFn := ⟨129, [.tmp 6], [4], c12, [], false, none⟩
/- 13 veil/veillaw21.BackHidden -/
def c13_1 : IR := (S (S (R [z 26 (mv 4),
 z 27 (bo .lss (t 26) (n 8))])
(.cond (t 27)
.skip
(.exit 0 [0, 3])))
(S (.block 1 (R [z 31 (ld 28 3),
 o 32 (cl 27 #[(t 31), (n 0)] #[28, 3]),
 z 30 (mv 32),
 z 33 (xt 30 0),
 z 34 (xt 30 1),
 ⟨none, st 28 3 33, none, true⟩]))
(R [z 28 (mv 4),
 z 29 (bo .add (t 28) (n 1)),
 z 4 (av 29)])))
def c13 : IR := (S (R [z 2 (ab false)])
(S (S (R [z 13 (cl 31 #[] #[]),
 z 14 (.unOp .not 4 (.tmp 13))])
(.cond (t 14)
(S (R [z 2 (ab false)])
(.ret [2]))
.skip))
(S (R [o 15 (cl 33 #[] #[]),
 z 3 (al 28),
 ⟨none, st 28 3 15, none, true⟩])
(S (R [z 16 (fa 28 3 3),
 z 17 (ld 25 16),
 z 18 (mv 0),
 z 19 (bo .and (t 18) (n 255)),
 z 20 (.build 69 #[(0, (.const (.int .i64 0))), (2, (.tmp 19))]),
 z 21 (.build 69 #[(0, (.const (.int .i64 3)))]),
 z 22 (.build 69 #[(0, (.const (.int .i64 3))), (3, (.const (.int .i64 1)))]),
 z 23 (.buildSlice 48 3 #[(0, (.tmp 20)), (1, (.tmp 21)), (2, (.tmp 22))]),
 o 24 (.indexAddr 25 (.tmp 17) (.const (.int .i64 0))),
 z 25 (fa 52 24 3),
 ⟨none, st 48 25 23, none, true⟩])
(S (S (R [z 4 (an 0)])
(.block 0 (.loop [0, 3, 4] c13_1)))
(S (R [z 36 (ld 28 3),
 z 37 (cl 29 #[(t 36), (n 0)] #[28, 3]),
 z 35 (mv 37),
 z 38 (xt 35 0),
 z 39 (xt 35 1),
 z 5 (al 28),
 ⟨none, st 28 5 38, none, true⟩,
 z 6 (av 39)])
(S (R [z 41 (ld 28 5),
 z 42 (cl 27 #[(t 41), (n 1)] #[28, 3]),
 z 40 (mv 42),
 z 43 (xt 40 0),
 z 44 (xt 40 1),
 z 7 (al 28),
 ⟨none, st 28 7 43, none, true⟩,
 z 8 (av 44)])
(S (R [z 46 (ld 28 5),
 z 47 (cl 29 #[(t 46), (n 0)] #[28, 3]),
 z 45 (mv 47),
 z 48 (xt 45 0),
 z 49 (xt 45 1),
 z 9 (al 28),
 ⟨none, st 28 9 48, none, true⟩,
 z 10 (av 49)])
(S (R [z 51 (ld 28 9),
 z 52 (cl 27 #[(t 51), (n 1)] #[28, 3]),
 z 50 (mv 52),
 z 53 (xt 50 0),
 z 54 (xt 50 1),
 z 11 (al 28),
 ⟨none, st 28 11 53, none, true⟩,
 z 12 (av 54)])
(S (S (R [z 55 (fa 28 3 3),
 z 56 (ld 25 55),
 z 57 (len 56 25),
 z 58 (bo .neq (t 57) (n 2)),
 z 59 (mv 58),
 zF 60 (fa 28 5 0) 59,
 oF 61 (.indexAddr 23 (.tmp 60) (.const (.int .i64 0))) 59,
 zF 62 (ld 22 61) 59,
 zF 63 (len 62 22) 59,
 zF 64 (bo .neq (t 63) (n 2)) 59,
 z 65 (.pick (.tmp 59) (.const (.bool true)) (.tmp 64)),
 z 66 (mv 65),
 zF 67 (fa 28 7 3) 66,
 zF 68 (ld 25 67) 66,
 zF 69 (len 68 25) 66,
 zF 70 (bo .neq (t 69) (n 2)) 66,
 z 71 (.pick (.tmp 66) (.const (.bool true)) (.tmp 70)),
 z 72 (mv 71),
 zF 73 (fa 28 11 3) 72,
 zF 74 (ld 25 73) 72,
 zF 75 (len 74 25) 72,
 zF 76 (bo .neq (t 75) (n 2)) 72,
 z 77 (.pick (.tmp 72) (.const (.bool true)) (.tmp 76))])
(.cond (t 77)
(S (R [z 2 (ab false)])
(.ret [2]))
.skip))
(S (R [z 78 (mv 6),
 z 79 (cl 20 #[(t 78)] #[30]),
 z 80 (bo .eql (t 79) (n 0)),
 z 81 (mv 80),
 zT 82 (fa 28 5 0) 81,
 oT 83 (.indexAddr 23 (.tmp 82) (.const (.int .i64 0))) 81,
 zT 84 (ld 22 83) 81,
 oT 85 (.indexAddr 22 (.tmp 84) (.const (.int .i64 0))) 81,
 zT 86 (ld 65 85) 81,
 zT 87 (mv 0) 81,
 zT 88 (bo .and (t 87) (n 255)) 81,
 zT 89 (.build 65 #[(0, (.tmp 88)), (1, (.const (.int .i64 1)))]) 81,
 zT 90 (.binOp .eql 65 (.tmp 86) (.tmp 89) 65) 81,
 z 91 (.pick (.tmp 81) (.tmp 90) (.const (.bool false))),
 z 92 (mv 91),
 zT 93 (fa 28 5 0) 92,
 oT 94 (.indexAddr 23 (.tmp 93) (.const (.int .i64 0))) 92,
 zT 95 (ld 22 94) 92,
 oT 96 (.indexAddr 22 (.tmp 95) (.const (.int .i64 1))) 92,
 zT 97 (fa 65 96 2) 92,
 zT 98 (ld 3 97) 92,
 zT 99 (bo .eql (t 98) (n 4)) 92,
 z 100 (.pick (.tmp 92) (.tmp 99) (.const (.bool false))),
 z 101 (mv 100),
 zT 102 (mv 8) 101,
 zT 103 (bo .eql (t 102) (n 0)) 101,
 z 104 (.pick (.tmp 101) (.tmp 103) (.const (.bool false))),
 z 105 (mv 104),
 zT 106 (fa 28 7 3) 105,
 zT 107 (ld 25 106) 105,
 oT 108 (.indexAddr 25 (.tmp 107) (.const (.int .i64 1))) 105,
 zT 109 (fa 52 108 11) 105,
 zT 110 (ld 3 109) 105,
 zT 111 (bo .eql (t 110) (n 1)) 105,
 z 112 (.pick (.tmp 105) (.tmp 111) (.const (.bool false))),
 z 113 (mv 112),
 zT 114 (mv 10) 113,
 zT 115 (cl 20 #[(t 114)] #[30]) 113,
 zT 116 (bo .eql (t 115) (n 0)) 113,
 z 117 (.pick (.tmp 113) (.tmp 116) (.const (.bool false))),
 z 118 (mv 117),
 zT 119 (mv 12) 118,
 zT 120 (bo .eql (t 119) (n 0)) 118,
 z 121 (.pick (.tmp 118) (.tmp 120) (.const (.bool false))),
 z 122 (mv 121),
 zT 123 (fa 28 11 3) 122,
 zT 124 (ld 25 123) 122,
 oT 125 (.indexAddr 25 (.tmp 124) (.const (.int .i64 1))) 122,
 zT 126 (fa 52 125 6) 122,
 oT 127 (.indexAddr 24 (.tmp 126) (.const (.int .i64 0))) 122,
 zT 128 (ld 3 127) 122,
 zT 129 (mv 0) 122,
 zT 130 (bo .and (t 129) (n 255)) 122,
 zT 131 (bo .eql (t 128) (t 130)) 122,
 z 132 (.pick (.tmp 122) (.tmp 131) (.const (.bool false))),
 z 133 (mv 132),
 zT 134 (fa 28 11 3) 133,
 zT 135 (ld 25 134) 133,
 oT 136 (.indexAddr 25 (.tmp 135) (.const (.int .i64 1))) 133,
 zT 137 (fa 52 136 11) 133,
 zT 138 (ld 3 137) 133,
 zT 139 (bo .eql (t 138) (n 0)) 133,
 z 140 (.pick (.tmp 133) (.tmp 139) (.const (.bool false))),
 z 141 (mv 140),
 zT 142 (cl 32 #[(n 0), (n 0)] #[3, 3]) 141,
 zT 143 (.field 28 (.tmp 142) 3) 141,
 zT 144 (len 143 25) 141,
 zT 145 (bo .eql (t 144) (n 2)) 141,
 z 146 (.pick (.tmp 141) (.tmp 145) (.const (.bool false))),
 z 2 (av 146)])
(.ret [2]))))))))))))
def g13 : IFn := ⟨147, [.tmp 2], [4], c13, [], false, none⟩
/- 14 veil/veillaw0.CopyMachine -/
def d14_1 : IR := D [o 18 (fa 28 3 3),
 o 19 (ld 25 18),
 o 20 (fa 28 1 3),
 o 21 (ld 25 20),
 o 22 (mv 4),
 o 23 (ia 25 21 22),
 o 24 (ld 52 23),
 o 25 (cl 35 #[(t 24)] #[52]),
 o 26 (.buildSlice 25 1 #[(0, (.tmp 25))]),
 o 27 (.call { callee := (.builtin .append), args := #[(.tmp 19), (.tmp 26)], argTypes := #[25, 25] }),
 o 28 (fa 28 3 3),
 w (st 25 28 27)] [[], [0], [], [2], [], [3, 4], [5], [6], [7], [1, 8, 7], [0, 1, 2, 3, 4, 5, 6, 7, 8, 9], [10, 9, 9, 0, 1, 2, 3, 4, 5, 6, 7, 8, 9]]
def c14_1 : IR := (S (S (R [o 11 (mv 4),
 o 12 (fa 28 1 3),
 o 13 (ld 25 12),
 o 14 (len 13 25),
 o 15 (bo .lss (t 11) (t 14))])
(.cond (t 15)
.skip
(.exit 0 [1, 2, 3])))
(S (.block 1 d14_1)
(R [o 16 (mv 4),
 o 17 (bo .add (t 16) (n 1)),
 o 4 (av 17)])))
def c14 : IR := (S (R [z 1 (bx 28 0),
 o 2 (al 28)])
(S (R [o 5 (ld 28 1),
 o 3 (al 28),
 w (st 28 3 5)])
(S (R [o 6 (fa 28 1 0),
 o 7 (ld 23 6),
 o 8 (cl 34 #[(t 7)] #[23]),
 o 9 (fa 28 3 0),
 w (st 23 9 8)])
(S (R [o 10 (fa 28 3 3),
 w (.store 25 (.tmp 10) (.const (.slice none 0 0)))])
(S (S (R [o 4 (an 0)])
(.block 0 (.loop [1, 2, 3, 4] c14_1)))
(S (R [o 29 (.buildSlice 26 0 #[]),
 o 30 (fa 28 1 4),
 o 31 (ld 26 30),
 o 32 (.call { callee := (.builtin .append), args := #[(.tmp 29), (.tmp 31)], argTypes := #[26, 26] }),
 o 33 (fa 28 3 4),
 w (st 26 33 32)])
(S (R [o 34 (ld 28 3),
 w (st 28 2 34)])
(.ret [2]))))))))
def g14 : IFn := ⟨35, [.cell 2 28], [28], c14, [], false, none⟩
/- 15 veil/undo.Again -/
def c15 : IR := (S (R [z 3 (bx 28 0),
 o 6 (al 28),
 o 7 (an 0)])
(S (S (R [o 10 (mv 1),
 o 11 (cl 36 #[(t 3), (t 10)] #[74, 3]),
 o 12 (.unOp .not 4 (.tmp 11)),
 o 13 (mv 12),
 oF 14 (mv 2) 13,
 oF 15 (bo .neq (t 14) (n 3)) 13,
 oF 16 (mv 15) 13,
 oT 17 (mv 2) 16,
 oT 18 (bo .neq (t 17) (n 5)) 16,
 oF 19 (.pick (.tmp 16) (.tmp 18) (.const (.bool false))) 13,
 o 20 (.pick (.tmp 13) (.const (.bool true)) (.tmp 19))])
(.cond (t 20)
(S (R [o 21 (.build 28 #[]),
 w (st 28 6 21),
 o 7 (an 1300)])
(.ret [6, 7]))
.skip))
(S (R [o 22 (ld 28 3),
 o 23 (cl 37 #[(t 22)] #[28]),
 o 8 (al 28),
 w (st 28 8 23)])
(S (R [o 24 (mv 1),
 o 25 (cl 38 #[(t 8), (t 24)] #[74, 3]),
 o 9 (av 25)])
(S (R [o 26 (mv 9),
 o 27 (mv 9),
 o 28 (mv 9),
 o 29 (.build 24 #[]),
 o 30 (nc 26),
 o 31 (fa 52 30 5),
 w (.store 3 (.tmp 31) (.const (.int .i64 0))),
 o 32 (nc 27),
 o 33 (fa 52 32 6),
 w (st 24 33 29),
 o 34 (nc 28),
 o 35 (fa 52 34 4),
 w (.store 3 (.tmp 35) (.const (.int .i64 0)))])
(S (R [o 36 (mv 9),
 o 37 (mv 9),
 o 38 (nc 37),
 o 39 (fa 52 38 11),
 o 40 (ld 3 39),
 o 41 (bo .add (t 40) (n 1)),
 o 42 (.call { callee := (.builtin .min), args := #[(.tmp 41), (.const (.int .i64 65535))], argTypes := #[3, 3] }),
 o 43 (nc 36),
 o 44 (fa 52 43 11),
 w (st 3 44 42)])
(S (R [o 45 (mv 1),
 o 46 (mv 2),
 o 47 (mv 9),
 o 48 (nc 47),
 o 49 (fa 52 48 11),
 o 50 (ld 3 49),
 o 51 (cl 39 #[(t 8), (t 45), (t 46), (t 50)] #[74, 3, 3, 3])])
(S (R [o 52 (ld 28 8),
 w (st 28 6 52),
 o 7 (an 0)])
(.ret [6, 7])))))))))
def g15 : IFn := ⟨53, [.cell 6 28, .tmp 7], [28, 30], c15, [], false, none⟩
/- 16 veil/veilref11.Again -/
def d16_1 : IR := D [o 41 (fa 28 8 3),
 o 42 (ld 25 41),
 o 43 (mv 1),
 o 44 (fa 28 3 3),
 o 45 (ld 25 44),
 o 46 (mv 1),
 o 47 (ia 25 45 46),
 o 48 (fa 52 47 11),
 o 49 (ld 3 48),
 o 50 (bo .add (t 49) (n 1)),
 o 51 (.call { callee := (.builtin .min), args := #[(.tmp 50), (.const (.int .i64 65535))], argTypes := #[3, 3] }),
 o 52 (ia 25 42 43),
 o 53 (fa 52 52 11),
 w (st 3 53 51)] [[], [0], [], [], [3], [], [4, 5], [6], [7], [8], [9], [1, 2, 0, 1, 2, 3, 4, 5, 6, 7, 8, 9, 10], [11, 0, 1, 2, 3, 4, 5, 6, 7, 8, 9, 10], [12, 10, 0, 1, 2, 3, 4, 5, 6, 7, 8, 9, 10]]
def d16_2 : IR := D [o 54 (ld 28 8),
 o 55 (mv 1),
 o 56 (mv 2),
 o 57 (fa 28 8 3),
 o 58 (ld 25 57),
 o 59 (mv 1),
 o 60 (ia 25 58 59),
 o 61 (fa 52 60 11),
 o 62 (ld 3 61),
 o 63 (cl 42 #[(t 54), (t 55), (t 56), (t 62)] #[28, 3, 3, 3]),
 w (st 28 6 63),
 o 7 (an 0)] [[], [], [], [], [3], [], [4, 5], [6], [7], [0, 1, 2, 8], [9, 9, 0, 1, 2, 3, 4, 5, 6, 7, 8, 9], [10, 0, 1, 2, 3, 4, 5, 6, 7, 8, 9, 10]]
def c16 : IR := (S (R [z 3 (bx 28 0),
 o 6 (al 28),
 o 7 (an 0)])
(S (S (R [o 9 (ld 28 3),
 o 10 (mv 1),
 o 11 (cl 40 #[(t 9), (t 10)] #[28, 3]),
 o 12 (.unOp .not 4 (.tmp 11)),
 o 13 (mv 12),
 oF 14 (mv 2) 13,
 oF 15 (bo .neq (t 14) (n 3)) 13,
 oF 16 (mv 15) 13,
 oT 17 (mv 2) 16,
 oT 18 (bo .neq (t 17) (n 5)) 16,
 oF 19 (.pick (.tmp 16) (.tmp 18) (.const (.bool false))) 13,
 o 20 (.pick (.tmp 13) (.const (.bool true)) (.tmp 19))])
(.cond (t 20)
(S (R [o 21 (.build 28 #[]),
 w (st 28 6 21),
 o 7 (an 1300)])
(.ret [6, 7]))
.skip))
(S (R [o 22 (ld 28 3),
 o 23 (mv 1),
 o 24 (cl 41 #[(t 22), (t 23)] #[28, 3]),
 o 8 (al 28),
 w (st 28 8 24)])
(S (R [o 25 (fa 28 8 3),
 o 26 (ld 25 25),
 o 27 (mv 1),
 o 28 (ia 25 26 27),
 o 29 (fa 52 28 5),
 w (.store 3 (.tmp 29) (.const (.int .i64 0)))])
(S (R [o 30 (fa 28 8 3),
 o 31 (ld 25 30),
 o 32 (mv 1),
 o 33 (.build 24 #[]),
 o 34 (ia 25 31 32),
 o 35 (fa 52 34 6),
 w (st 24 35 33)])
(S (R [o 36 (fa 28 8 3),
 o 37 (ld 25 36),
 o 38 (mv 1),
 o 39 (ia 25 37 38),
 o 40 (fa 52 39 4),
 w (.store 3 (.tmp 40) (.const (.int .i64 0)))])
(S d16_1
(S d16_2
(.ret [6, 7])))))))))
def g16 : IFn := ⟨64, [.cell 6 28, .tmp 7], [28, 3], c16, [], false, none⟩
/- 17 veil/undo.End -/
def c17 : IR := (S (R [z 4 (bx 28 0),
 o 8 (al 28),
 o 9 (an 0)])
(S (S (R [o 12 (mv 1),
 o 13 (cl 36 #[(t 4), (t 12)] #[74, 3]),
 o 14 (.unOp .not 4 (.tmp 13)),
 o 15 (mv 14),
 oF 16 (mv 2) 15,
 oF 17 (bo .lss (t 16) (n 0)) 15,
 o 18 (.pick (.tmp 15) (.const (.bool true)) (.tmp 17)),
 o 19 (mv 18),
 oF 20 (mv 2) 19,
 oF 21 (bo .gtr (t 20) (n 5)) 19,
 o 22 (.pick (.tmp 19) (.const (.bool true)) (.tmp 21)),
 o 23 (mv 22),
 oF 24 (mv 3) 23,
 oF 25 (cl 43 #[(t 24)] #[3]) 23,
 oF 26 (.unOp .not 4 (.tmp 25)) 23,
 o 27 (.pick (.tmp 23) (.const (.bool true)) (.tmp 26))])
(.cond (t 27)
(S (R [o 28 (.build 28 #[]),
 w (st 28 8 28),
 o 9 (an 1300)])
(.ret [8, 9]))
.skip))
(S (R [o 29 (ld 28 4),
 o 30 (cl 37 #[(t 29)] #[28]),
 o 10 (al 28),
 w (st 28 10 30)])
(S (R [o 31 (mv 1),
 o 32 (cl 38 #[(t 10), (t 31)] #[74, 3]),
 o 11 (av 32)])
(S (R [o 33 (mv 11),
 o 34 (mv 11),
 o 35 (mv 11),
 o 36 (mv 2),
 o 37 (mv 3),
 o 38 (nc 33),
 o 39 (fa 52 38 4),
 w (.store 3 (.tmp 39) (.const (.int .i64 6))),
 o 40 (nc 34),
 o 41 (fa 52 40 12),
 w (st 3 41 36),
 o 42 (nc 35),
 o 43 (fa 52 42 13),
 w (st 3 43 37)])
(S (R [o 44 (mv 1),
 o 45 (mv 2),
 o 46 (cl 39 #[(t 10), (t 44), (n 6), (t 45)] #[74, 3, 3, 3])])
(S (R [o 47 (ld 28 10),
 w (st 28 8 47),
 o 9 (an 0)])
(.ret [8, 9]))))))))
def g17 : IFn := ⟨48, [.cell 8 28, .tmp 9], [28, 30], c17, [], false, none⟩
/- 18 veil/veilref11.End -/
def c18 : IR := (S (R [z 4 (bx 28 0),
 o 8 (al 28),
 o 9 (an 0)])
(S (S (R [o 11 (ld 28 4),
 o 12 (mv 1),
 o 13 (cl 40 #[(t 11), (t 12)] #[28, 3]),
 o 14 (.unOp .not 4 (.tmp 13)),
 o 15 (mv 14),
 oF 16 (mv 2) 15,
 oF 17 (cl 44 #[(t 16), (n 0), (n 5)] #[3, 3, 3]) 15,
 oF 18 (.unOp .not 4 (.tmp 17)) 15,
 o 19 (.pick (.tmp 15) (.const (.bool true)) (.tmp 18)),
 o 20 (mv 19),
 oF 21 (mv 3) 20,
 oF 22 (cl 45 #[(t 21)] #[3]) 20,
 oF 23 (.unOp .not 4 (.tmp 22)) 20,
 o 24 (.pick (.tmp 20) (.const (.bool true)) (.tmp 23))])
(.cond (t 24)
(S (R [o 25 (.build 28 #[]),
 w (st 28 8 25),
 o 9 (an 1300)])
(.ret [8, 9]))
.skip))
(S (R [o 26 (ld 28 4),
 o 27 (mv 1),
 o 28 (cl 41 #[(t 26), (t 27)] #[28, 3]),
 o 10 (al 28),
 w (st 28 10 28)])
(S (R [o 29 (fa 28 10 3),
 o 30 (ld 25 29),
 o 31 (mv 1),
 o 32 (ia 25 30 31),
 o 33 (fa 52 32 4),
 w (.store 3 (.tmp 33) (.const (.int .i64 6)))])
(S (R [o 34 (fa 28 10 3),
 o 35 (ld 25 34),
 o 36 (mv 1),
 o 37 (mv 2),
 o 38 (ia 25 35 36),
 o 39 (fa 52 38 12),
 w (st 3 39 37)])
(S (R [o 40 (fa 28 10 3),
 o 41 (ld 25 40),
 o 42 (mv 1),
 o 43 (mv 3),
 o 44 (ia 25 41 42),
 o 45 (fa 52 44 13),
 w (st 3 45 43)])
(S (R [o 46 (ld 28 10),
 o 47 (mv 1),
 o 48 (mv 2),
 o 49 (cl 42 #[(t 46), (t 47), (n 6), (t 48)] #[28, 3, 3, 3]),
 w (st 28 8 49),
 o 9 (an 0)])
(.ret [8, 9]))))))))
def g18 : IFn := ⟨50, [.cell 8 28, .tmp 9], [28, 3], c18, [], false, none⟩
/- 19 veil/veillaw0.SameMachine -/
def d19_1 : IR := D [o 50 (fa 28 2 3),
 o 51 (ld 25 50),
 o 52 (mv 5),
 o 53 (ia 25 51 52),
 o 54 (ld 52 53),
 o 55 (fa 28 3 3),
 o 56 (ld 25 55),
 o 57 (mv 5),
 o 58 (ia 25 56 57),
 o 59 (ld 52 58),
 o 60 (cl 25 #[(t 54), (t 59)] #[52, 52]),
 o 61 (.unOp .not 4 (.tmp 60))] [[], [0], [], [1, 2], [3], [], [5], [], [6, 7], [8], [4, 9], [10]]
def c19_1 : IR := (S (S (R [o 43 (mv 5),
 o 44 (fa 28 2 3),
 o 45 (ld 25 44),
 o 46 (len 45 25),
 o 47 (bo .lss (t 43) (t 46))])
(.cond (t 47)
.skip
(.exit 0 [])))
(S (.block 1 (S d19_1
(.cond (t 61)
(S (R [o 4 (ab false)])
(.ret [4]))
.skip)))
(R [o 48 (mv 5),
 o 49 (bo .add (t 48) (n 1)),
 o 5 (av 49)])))
def c19 : IR := (S (R [z 2 (bx 28 0),
 z 3 (bx 28 1),
 o 4 (ab false)])
(S (S (R [o 6 (fa 28 2 0),
 o 7 (ld 23 6),
 o 8 (fa 28 3 0),
 o 9 (ld 23 8),
 o 10 (cl 28 #[(t 7), (t 9)] #[23, 23]),
 o 11 (.unOp .not 4 (.tmp 10)),
 o 12 (mv 11),
 oF 13 (fa 28 2 1) 12,
 oF 14 (ld 24 13) 12,
 oF 15 (fa 28 3 1) 12,
 oF 16 (ld 24 15) 12,
 oF 17 (.binOp .neq 24 (.tmp 14) (.tmp 16) 24) 12,
 o 18 (.pick (.tmp 12) (.const (.bool true)) (.tmp 17)),
 o 19 (mv 18),
 oF 20 (fa 28 2 2) 19,
 oF 21 (ld 3 20) 19,
 oF 22 (fa 28 3 2) 19,
 oF 23 (ld 3 22) 19,
 oF 24 (bo .neq (t 21) (t 23)) 19,
 o 25 (.pick (.tmp 19) (.const (.bool true)) (.tmp 24)),
 o 26 (mv 25),
 oF 27 (fa 28 2 3) 26,
 oF 28 (ld 25 27) 26,
 oF 29 (len 28 25) 26,
 oF 30 (fa 28 3 3) 26,
 oF 31 (ld 25 30) 26,
 oF 32 (len 31 25) 26,
 oF 33 (bo .neq (t 29) (t 32)) 26,
 o 34 (.pick (.tmp 26) (.const (.bool true)) (.tmp 33)),
 o 35 (mv 34),
 oF 36 (fa 28 2 4) 35,
 oF 37 (ld 26 36) 35,
 oF 38 (fa 28 3 4) 35,
 oF 39 (ld 26 38) 35,
 oF 40 (cl 46 #[(t 37), (t 39)] #[26, 26]) 35,
 oF 41 (.unOp .not 4 (.tmp 40)) 35,
 o 42 (.pick (.tmp 35) (.const (.bool true)) (.tmp 41))])
(.cond (t 42)
(S (R [o 4 (ab false)])
(.ret [4]))
.skip))
(S (S (R [o 5 (an 0)])
(.block 0 (.loop [2, 3, 5] c19_1)))
(S (R [o 4 (ab true)])
(.ret [4])))))
def g19 : IFn := ⟨62, [.tmp 4], [4], c19, [], false, none⟩
/- 20 veil/veillaw0.Num -/
def c20 : IR := (S (R [o 2 (an 0)])
(S (R [o 3 (mv 0),
 o 2 (av 3)])
(.ret [2])))
def g20 : IFn := ⟨4, [.tmp 2], [3], c20, [], false, none⟩
/- 21 veil/veillaw0.SpoilMachine -/
def d21_1 : IR := D [o 19 (fa 28 1 3),
 o 20 (ld 25 19),
 o 21 (mv 2),
 o 22 (fa 28 1 3),
 o 23 (ld 25 22),
 o 24 (mv 2),
 o 25 (ia 25 23 24),
 o 26 (fa 52 25 0),
 o 27 (ld 3 26),
 o 28 (bo .xor (t 27) (n 90)),
 o 29 (ia 25 20 21),
 o 30 (fa 52 29 0),
 w (st 3 30 28)] [[], [0], [], [], [3], [], [4, 5], [6], [7], [8], [1, 2, 0, 1, 2, 3, 4, 5, 6, 7, 8, 9], [10, 0, 1, 2, 3, 4, 5, 6, 7, 8, 9], [11, 9, 0, 1, 2, 3, 4, 5, 6, 7, 8, 9]]
def c21_1 : IR := (S (S (R [o 6 (mv 2),
 o 7 (fa 28 1 3),
 o 8 (ld 25 7),
 o 9 (len 8 25),
 o 10 (bo .lss (t 6) (t 9))])
(.cond (t 10)
.skip
(.exit 0 [1])))
(S (.block 1 (S (R [o 13 (fa 28 1 3),
 o 14 (ld 25 13),
 o 15 (mv 2),
 o 16 (ia 25 14 15),
 o 17 (ld 52 16),
 o 18 (cl 48 #[(t 17)] #[52])])
d21_1))
(R [o 11 (mv 2),
 o 12 (bo .add (t 11) (n 1)),
 o 2 (av 12)])))
def c21 : IR := (S (R [o 1 (bx 28 0)])
(S (R [o 3 (fa 28 1 0),
 o 4 (ld 23 3),
 o 5 (cl 47 #[(t 4)] #[23])])
(S (S (R [o 2 (an 0)])
(.block 0 (.loop [1, 2] c21_1)))
(R [o 31 (fa 28 1 4),
 o 32 (ld 26 31),
 o 33 (cl 49 #[(t 32)] #[26])]))))
def g21 : IFn := ⟨34, [], [], c21, [true], false, none⟩
/- 22 veil/veillaw13.awake -/
def d22_1 : IR := D [z 73 (fa 28 2 3),
 z 74 (ld 25 73),
 o 75 (.indexAddr 25 (.tmp 74) (.const (.int .i64 0))),
 z 76 (ld 52 75),
 z 77 (fa 28 4 3),
 z 78 (ld 25 77),
 o 79 (.indexAddr 25 (.tmp 78) (.const (.int .i64 0))),
 z 80 (ld 52 79),
 z 10 (al 52),
 z 11 (al 52),
 ⟨none, st 52 10 76, none, true⟩,
 ⟨none, st 52 11 80, none, true⟩] [[], [0], [1], [2], [], [4], [5], [6], [], [], [8, 3, 0, 1, 2, 3, 8, 9], [9, 7, 10, 0, 1, 2, 3, 4, 5, 6, 7, 8, 9, 10]]
def c22 : IR := (S (R [z 0 (ab false)])
(S (R [z 12 (cl 24 #[(n 0), (n 5)] #[3, 3]),
 z 1 (al 28),
 ⟨none, st 28 1 12, none, true⟩])
(S (R [z 14 (ld 28 1),
 z 15 (cl 15 #[(t 14), (n 0), (n 3)] #[28, 3, 3]),
 z 13 (mv 15),
 z 16 (xt 13 0),
 z 17 (xt 13 1),
 z 2 (al 28),
 ⟨none, st 28 2 16, none, true⟩,
 z 3 (av 17)])
(S (R [z 19 (ld 28 1),
 z 20 (cl 17 #[(t 19), (n 0), (n 2), (n 7)] #[28, 3, 3, 3]),
 z 18 (mv 20),
 z 21 (xt 18 0),
 z 22 (xt 18 1),
 z 4 (al 28),
 ⟨none, st 28 4 21, none, true⟩,
 z 5 (av 22)])
(S (R [z 24 (ld 28 1),
 z 25 (cl 15 #[(t 24), (n 0), (n 0)] #[28, 3, 3]),
 z 23 (mv 25),
 z 26 (xt 23 0),
 z 27 (xt 23 1),
 z 6 (al 28),
 ⟨none, st 28 6 26, none, true⟩,
 z 7 (av 27)])
(S (R [z 29 (ld 28 1),
 z 30 (cl 17 #[(t 29), (n 2), (n 1), (n 0)] #[28, 3, 3, 3]),
 z 28 (mv 30),
 z 31 (xt 28 0),
 z 32 (xt 28 1),
 z 8 (al 28),
 ⟨none, st 28 8 31, none, true⟩,
 z 9 (av 32)])
(S (S (R [z 33 (fa 28 1 0),
 o 34 (.indexAddr 23 (.tmp 33) (.const (.int .i64 0))),
 z 35 (ld 22 34),
 z 36 (len 35 22),
 z 37 (bo .neq (t 36) (n 2)),
 z 38 (mv 37),
 zF 39 (fa 28 1 0) 38,
 oF 40 (.indexAddr 23 (.tmp 39) (.const (.int .i64 0))) 38,
 zF 41 (ld 22 40) 38,
 oF 42 (.indexAddr 22 (.tmp 41) (.const (.int .i64 0))) 38,
 zF 43 (fa 65 42 2) 38,
 zF 44 (ld 3 43) 38,
 zF 45 (bo .neq (t 44) (n 4)) 38,
 z 46 (.pick (.tmp 38) (.const (.bool true)) (.tmp 45)),
 z 47 (mv 46),
 zF 48 (fa 28 2 0) 47,
 oF 49 (.indexAddr 23 (.tmp 48) (.const (.int .i64 0))) 47,
 zF 50 (ld 22 49) 47,
 zF 51 (len 50 22) 47,
 zF 52 (bo .neq (t 51) (n 2)) 47,
 z 53 (.pick (.tmp 47) (.const (.bool true)) (.tmp 52)),
 z 54 (mv 53),
 zF 55 (fa 28 2 3) 54,
 zF 56 (ld 25 55) 54,
 zF 57 (len 56 25) 54,
 zF 58 (bo .neq (t 57) (n 2)) 54,
 z 59 (.pick (.tmp 54) (.const (.bool true)) (.tmp 58)),
 z 60 (mv 59),
 zF 61 (fa 28 4 0) 60,
 oF 62 (.indexAddr 23 (.tmp 61) (.const (.int .i64 0))) 60,
 zF 63 (ld 22 62) 60,
 zF 64 (len 63 22) 60,
 zF 65 (bo .neq (t 64) (n 2)) 60,
 z 66 (.pick (.tmp 60) (.const (.bool true)) (.tmp 65)),
 z 67 (mv 66),
 zF 68 (fa 28 4 3) 67,
 zF 69 (ld 25 68) 67,
 zF 70 (len 69 25) 67,
 zF 71 (bo .neq (t 70) (n 2)) 67,
 z 72 (.pick (.tmp 67) (.const (.bool true)) (.tmp 71))])
(.cond (t 72)
(S (R [z 0 (ab false)])
(.ret [0]))
.skip))
(S d22_1
(S (R [z 81 (fa 28 2 0),
 o 82 (.indexAddr 23 (.tmp 81) (.const (.int .i64 0))),
 z 83 (ld 22 82),
 o 84 (.indexAddr 22 (.tmp 83) (.const (.int .i64 0))),
 z 85 (fa 65 84 2),
 z 86 (ld 3 85),
 z 87 (bo .eql (t 86) (n 0)),
 z 88 (mv 87),
 zT 89 (fa 52 10 5) 88,
 zT 90 (ld 3 89) 88,
 zT 91 (bo .eql (t 90) (n 0)) 88,
 z 92 (.pick (.tmp 88) (.tmp 91) (.const (.bool false))),
 z 93 (mv 92),
 zT 94 (fa 52 10 11) 93,
 zT 95 (ld 3 94) 93,
 zT 96 (bo .eql (t 95) (n 1)) 93,
 z 97 (.pick (.tmp 93) (.tmp 96) (.const (.bool false))),
 z 98 (mv 97),
 zT 99 (fa 52 10 4) 98,
 zT 100 (ld 3 99) 98,
 zT 101 (bo .eql (t 100) (n 0)) 98,
 z 102 (.pick (.tmp 98) (.tmp 101) (.const (.bool false))),
 z 103 (mv 102),
 zT 104 (fa 52 10 7) 103,
 zT 105 (ld 49 104) 103,
 zT 106 (len 105 49) 103,
 zT 107 (fa 52 10 8) 103,
 zT 108 (ld 50 107) 103,
 zT 109 (len 108 50) 103,
 zT 110 (bo .add (t 106) (t 109)) 103,
 zT 111 (bo .eql (t 110) (n 0)) 103,
 z 112 (.pick (.tmp 103) (.tmp 111) (.const (.bool false))),
 z 113 (mv 112),
 zT 114 (mv 3) 113,
 zT 115 (cl 20 #[(t 114)] #[30]) 113,
 zT 116 (bo .eql (t 115) (n 0)) 113,
 z 117 (.pick (.tmp 113) (.tmp 116) (.const (.bool false))),
 z 118 (mv 117),
 zT 119 (fa 28 4 0) 118,
 oT 120 (.indexAddr 23 (.tmp 119) (.const (.int .i64 0))) 118,
 zT 121 (ld 22 120) 118,
 oT 122 (.indexAddr 22 (.tmp 121) (.const (.int .i64 0))) 118,
 zT 123 (fa 65 122 2) 118,
 zT 124 (ld 3 123) 118,
 zT 125 (bo .eql (t 124) (n 0)) 118,
 z 126 (.pick (.tmp 118) (.tmp 125) (.const (.bool false))),
 z 127 (mv 126),
 zT 128 (fa 52 11 4) 127,
 zT 129 (ld 3 128) 127,
 zT 130 (bo .eql (t 129) (n 6)) 127,
 z 131 (.pick (.tmp 127) (.tmp 130) (.const (.bool false))),
 z 132 (mv 131),
 zT 133 (fa 52 11 12) 132,
 zT 134 (ld 3 133) 132,
 zT 135 (bo .eql (t 134) (n 2)) 132,
 z 136 (.pick (.tmp 132) (.tmp 135) (.const (.bool false))),
 z 137 (mv 136),
 zT 138 (fa 52 11 13) 137,
 zT 139 (ld 3 138) 137,
 zT 140 (bo .eql (t 139) (n 7)) 137,
 z 141 (.pick (.tmp 137) (.tmp 140) (.const (.bool false))),
 z 142 (mv 141),
 zT 143 (mv 5) 142,
 zT 144 (cl 20 #[(t 143)] #[30]) 142,
 zT 145 (bo .eql (t 144) (n 0)) 142,
 z 146 (.pick (.tmp 142) (.tmp 145) (.const (.bool false))),
 z 147 (mv 146),
 zT 148 (mv 7) 147,
 zT 149 (cl 20 #[(t 148)] #[30]) 147,
 zT 150 (bo .eql (t 149) (n 1300)) 147,
 z 151 (.pick (.tmp 147) (.tmp 150) (.const (.bool false))),
 z 152 (mv 151),
 zT 153 (mv 9) 152,
 zT 154 (cl 20 #[(t 153)] #[30]) 152,
 zT 155 (bo .eql (t 154) (n 1300)) 152,
 z 156 (.pick (.tmp 152) (.tmp 155) (.const (.bool false))),
 z 0 (av 156)])
(.ret [0]))))))))))
def g22 : IFn := ⟨157, [.tmp 0], [4], c22, [], false, none⟩
/- 23 veil/veillaw13.turns -/
def d23_1 : IR := D [z 49 (mv 7),
 z 50 (fa 28 4 0),
 o 51 (ia 23 50 49),
 z 52 (ld 22 51),
 z 53 (len 52 22),
 z 54 (mv 7),
 z 55 (fa 28 3 0),
 o 56 (ia 23 55 54),
 z 57 (ld 22 56),
 z 58 (len 57 22),
 z 59 (bo .neq (t 53) (t 58))] [[], [], [1, 0], [2], [3], [], [], [6, 5], [7], [8], [4, 9]]
def d23_2 : IR := D [z 69 (mv 7),
 z 70 (fa 28 3 0),
 o 71 (ia 23 70 69),
 z 72 (ld 22 71),
 z 73 (mv 8),
 o 74 (ia 22 72 73),
 z 75 (ld 65 74),
 z 76 (mv 7),
 z 77 (fa 28 4 0),
 o 78 (ia 23 77 76),
 z 79 (ld 22 78),
 z 80 (mv 8),
 o 81 (ia 22 79 80),
 z 82 (ld 65 81),
 z 9 (al 65),
 z 10 (al 65),
 ⟨none, st 65 9 75, none, true⟩,
 ⟨none, st 65 10 82, none, true⟩] [[], [], [1, 0], [2], [], [3, 4], [5], [], [], [8, 7], [9], [], [10, 11], [12], [], [], [14, 6, 0, 1, 2, 3, 4, 5, 6, 14, 15], [15, 13, 16, 0, 1, 2, 3, 4, 5, 6, 7, 8, 9, 10, 11, 12, 13, 14, 15, 16]]
def c23_1 : IR := (S (S (R [z 60 (mv 8),
 z 61 (mv 7),
 z 62 (fa 28 3 0),
 o 63 (ia 23 62 61),
 z 64 (ld 22 63),
 z 65 (len 64 22),
 z 66 (bo .lss (t 60) (t 65))])
(.cond (t 66)
.skip
(.exit 2 [2, 3, 4, 7])))
(S (.block 3 (S d23_2
(S (R [z 83 (fa 65 9 2),
 z 84 (ld 3 83),
 z 11 (av 84)])
(S (S (R [z 85 (mv 11),
 z 86 (fa 28 3 3),
 z 87 (ld 25 86),
 z 88 (mv 2),
 o 89 (ia 25 87 88),
 z 90 (fa 52 89 0),
 z 91 (ld 3 90),
 z 92 (bo .add (t 91) (n 1)),
 z 93 (bo .eql (t 85) (t 92))])
(.cond (t 93)
(R [z 11 (an 0)])
.skip))
(S (R [z 94 (ld 65 10),
 z 95 (fa 65 9 0),
 z 96 (ld 3 95),
 z 97 (fa 65 9 1),
 z 98 (ld 3 97),
 z 99 (mv 11),
 z 100 (.build 65 #[(0, (.tmp 96)), (1, (.tmp 98)), (2, (.tmp 99))]),
 z 101 (.binOp .neq 65 (.tmp 94) (.tmp 100) 65)])
(.cond (t 101)
(S (R [z 6 (ab false)])
(.ret [6]))
.skip))))))
(R [z 67 (mv 8),
 z 68 (bo .add (t 67) (n 1)),
 z 8 (av 68)])))
def c23_2 : IR := (S (S (R [z 45 (mv 7),
 z 46 (bo .lss (t 45) (n 4))])
(.cond (t 46)
.skip
(.exit 0 [2, 3, 4])))
(S (.block 1 (S (S d23_1
(.cond (t 59)
(S (R [z 6 (ab false)])
(.ret [6]))
.skip))
(S (R [z 8 (an 0)])
(.block 2 (.loop [2, 3, 4, 7, 8] c23_1)))))
(R [z 47 (mv 7),
 z 48 (bo .add (t 47) (n 1)),
 z 7 (av 48)])))
def d23_3 : IR := D [z 109 (mv 12),
 z 110 (mv 2),
 z 111 (bo .neq (t 109) (t 110)),
 z 112 (mv 111),
 zT 113 (fa 28 4 3) 112,
 zT 114 (ld 25 113) 112,
 zT 115 (mv 12) 112,
 oT 116 (ia 25 114 115) 112,
 zT 117 (ld 52 116) 112,
 zT 118 (fa 28 3 3) 112,
 zT 119 (ld 25 118) 112,
 zT 120 (mv 12) 112,
 oT 121 (ia 25 119 120) 112,
 zT 122 (ld 52 121) 112,
 zT 123 (cl 25 #[(t 117), (t 122)] #[52, 52]) 112,
 zT 124 (.unOp .not 4 (.tmp 123)) 112,
 z 125 (.pick (.tmp 112) (.tmp 124) (.const (.bool false)))] [[], [], [0, 1], [2], [3], [4, 3], [3], [5, 6, 3], [7, 3], [3], [9, 3], [3], [10, 11, 3], [12, 3], [8, 13, 3, 3], [14, 3], [3, 15]]
def c23_3 : IR := (S (S (R [z 102 (mv 12),
 z 103 (fa 28 3 3),
 z 104 (ld 25 103),
 z 105 (len 104 25),
 z 106 (bo .lss (t 102) (t 105))])
(.cond (t 106)
.skip
(.exit 4 [2, 3, 4])))
(S (.block 5 (S d23_3
(.cond (t 125)
(S (R [z 6 (ab false)])
(.ret [6]))
.skip)))
(R [z 107 (mv 12),
 z 108 (bo .add (t 107) (n 1)),
 z 12 (av 108)])))
def d23_4 : IR := D [z 126 (fa 28 4 3),
 z 127 (ld 25 126),
 z 128 (mv 2),
 o 129 (ia 25 127 128),
 z 130 (fa 52 129 1),
 z 131 (ld 3 130),
 z 132 (fa 28 3 3),
 z 133 (ld 25 132),
 z 134 (mv 2),
 o 135 (ia 25 133 134),
 z 136 (fa 52 135 1),
 z 137 (ld 3 136),
 z 138 (bo .eql (t 131) (t 137)),
 z 139 (mv 138),
 zT 140 (fa 28 4 3) 139,
 zT 141 (ld 25 140) 139,
 zT 142 (mv 2) 139,
 oT 143 (ia 25 141 142) 139,
 zT 144 (fa 52 143 7) 139,
 zT 145 (ld 49 144) 139,
 zT 146 (len 145 49) 139,
 zT 147 (fa 28 4 3) 139,
 zT 148 (ld 25 147) 139,
 zT 149 (mv 2) 139,
 oT 150 (ia 25 148 149) 139,
 zT 151 (fa 52 150 8) 139,
 zT 152 (ld 50 151) 139,
 zT 153 (len 152 50) 139,
 zT 154 (bo .add (t 146) (t 153)) 139,
 zT 155 (bo .eql (t 154) (n 0)) 139,
 z 156 (.pick (.tmp 139) (.tmp 155) (.const (.bool false))),
 z 6 (av 156)] [[], [0], [], [1, 2], [3], [4], [], [6], [], [7, 8], [9], [10], [5, 11], [12], [13], [14, 13], [13], [15, 16, 13], [17, 13], [18, 13], [19, 13], [13], [21, 13], [13], [22, 23, 13], [24, 13], [25, 13], [26, 13], [20, 27, 13], [28, 13], [13, 29], [30, 13, 0, 1, 2, 3, 4, 5, 6, 7, 8, 9, 10, 11, 12, 13, 14, 15, 16, 17, 18, 19, 20, 21, 22, 23, 24, 25, 26, 27, 28, 29, 30]]
def c23 : IR := (S (R [z 3 (bx 28 0),
 z 4 (bx 28 1),
 z 6 (ab false)])
(S (S (R [z 13 (fa 28 4 1),
 z 14 (ld 24 13),
 z 15 (fa 28 3 1),
 z 16 (ld 24 15),
 z 17 (.binOp .neq 24 (.tmp 14) (.tmp 16) 24),
 z 18 (mv 17),
 zF 19 (fa 28 4 2) 18,
 zF 20 (ld 3 19) 18,
 zF 21 (fa 28 3 2) 18,
 zF 22 (ld 3 21) 18,
 zF 23 (bo .neq (t 20) (t 22)) 18,
 z 24 (.pick (.tmp 18) (.const (.bool true)) (.tmp 23)),
 z 25 (mv 24),
 zF 26 (fa 28 4 3) 25,
 zF 27 (ld 25 26) 25,
 zF 28 (len 27 25) 25,
 zF 29 (fa 28 3 3) 25,
 zF 30 (ld 25 29) 25,
 zF 31 (len 30 25) 25,
 zF 32 (bo .neq (t 28) (t 31)) 25,
 z 33 (.pick (.tmp 25) (.const (.bool true)) (.tmp 32)),
 z 34 (mv 33),
 zF 35 (mv 2) 34,
 zF 36 (bo .lss (t 35) (n 0)) 34,
 z 37 (.pick (.tmp 34) (.const (.bool true)) (.tmp 36)),
 z 38 (mv 37),
 zF 39 (mv 2) 38,
 zF 40 (fa 28 3 3) 38,
 zF 41 (ld 25 40) 38,
 zF 42 (len 41 25) 38,
 zF 43 (bo .geq (t 39) (t 42)) 38,
 z 44 (.pick (.tmp 38) (.const (.bool true)) (.tmp 43))])
(.cond (t 44)
(S (R [z 6 (ab false)])
(.ret [6]))
.skip))
(S (S (R [z 7 (an 0)])
(.block 0 (.loop [2, 3, 4, 7] c23_2)))
(S (S (R [z 12 (an 0)])
(.block 4 (.loop [2, 3, 4, 12] c23_3)))
(S d23_4
(.ret [6]))))))
def g23 : IFn := ⟨157, [.tmp 6], [4], c23, [], false, none⟩
/- 24 veil/veillaw13.stepped -/
def c24_1 : IR := (S (S (R [o 8 (mv 6),
 o 9 (mv 1),
 o 10 (bo .lss (t 8) (t 9))])
(.cond (t 10)
.skip
(.exit 0 [4, 5])))
(S (.block 1 (R [o 14 (ld 28 5),
 o 15 (mv 0),
 o 16 (cl 27 #[(t 14), (t 15)] #[28, 3]),
 o 13 (mv 16),
 o 17 (xt 13 0),
 o 18 (xt 13 1),
 w (st 28 5 17)]))
(R [o 11 (mv 6),
 o 12 (bo .add (t 11) (n 1)),
 o 6 (av 12)])))
def c24 : IR := (S (R [o 4 (al 28)])
(S (R [o 7 (cl 50 #[] #[]),
 o 5 (al 28),
 w (st 28 5 7)])
(S (S (R [o 6 (an 0)])
(.block 0 (.loop [0, 1, 4, 5, 6] c24_1)))
(S (R [o 19 (ld 28 5),
 w (st 28 4 19)])
(.ret [4])))))
def g24 : IFn := ⟨20, [.cell 4 28], [28], c24, [], false, none⟩
/- 25 veil/veillaw0.SameSession -/
def c25 : IR := (S (R [z 2 (bx 52 0),
 z 3 (bx 52 1),
 o 4 (ab false)])
(S (R [o 5 (fa 52 2 0),
 o 6 (ld 3 5),
 o 7 (fa 52 3 0),
 o 8 (ld 3 7),
 o 9 (bo .eql (t 6) (t 8)),
 o 10 (mv 9),
 oT 11 (fa 52 2 1) 10,
 oT 12 (ld 3 11) 10,
 oT 13 (fa 52 3 1) 10,
 oT 14 (ld 3 13) 10,
 oT 15 (bo .eql (t 12) (t 14)) 10,
 o 16 (.pick (.tmp 10) (.tmp 15) (.const (.bool false))),
 o 17 (mv 16),
 oT 18 (fa 52 2 2) 17,
 oT 19 (ld 3 18) 17,
 oT 20 (fa 52 3 2) 17,
 oT 21 (ld 3 20) 17,
 oT 22 (bo .eql (t 19) (t 21)) 17,
 o 23 (.pick (.tmp 17) (.tmp 22) (.const (.bool false))),
 o 24 (mv 23),
 oT 25 (fa 52 2 3) 24,
 oT 26 (ld 48 25) 24,
 oT 27 (fa 52 3 3) 24,
 oT 28 (ld 48 27) 24,
 oT 29 (cl 51 #[(t 26), (t 28)] #[48, 48]) 24,
 o 30 (.pick (.tmp 24) (.tmp 29) (.const (.bool false))),
 o 31 (mv 30),
 oT 32 (fa 52 2 4) 31,
 oT 33 (ld 3 32) 31,
 oT 34 (fa 52 3 4) 31,
 oT 35 (ld 3 34) 31,
 oT 36 (bo .eql (t 33) (t 35)) 31,
 o 37 (.pick (.tmp 31) (.tmp 36) (.const (.bool false))),
 o 38 (mv 37),
 oT 39 (fa 52 2 5) 38,
 oT 40 (ld 3 39) 38,
 oT 41 (fa 52 3 5) 38,
 oT 42 (ld 3 41) 38,
 oT 43 (bo .eql (t 40) (t 42)) 38,
 o 44 (.pick (.tmp 38) (.tmp 43) (.const (.bool false))),
 o 45 (mv 44),
 oT 46 (fa 52 2 6) 45,
 oT 47 (ld 24 46) 45,
 oT 48 (fa 52 3 6) 45,
 oT 49 (ld 24 48) 45,
 oT 50 (.binOp .eql 24 (.tmp 47) (.tmp 49) 24) 45,
 o 51 (.pick (.tmp 45) (.tmp 50) (.const (.bool false))),
 o 52 (mv 51),
 oT 53 (fa 52 2 7) 52,
 oT 54 (ld 49 53) 52,
 oT 55 (fa 52 3 7) 52,
 oT 56 (ld 49 55) 52,
 oT 57 (cl 52 #[(t 54), (t 56)] #[49, 49]) 52,
 o 58 (.pick (.tmp 52) (.tmp 57) (.const (.bool false))),
 o 59 (mv 58),
 oT 60 (fa 52 2 8) 59,
 oT 61 (ld 50 60) 59,
 oT 62 (fa 52 3 8) 59,
 oT 63 (ld 50 62) 59,
 oT 64 (cl 53 #[(t 61), (t 63)] #[50, 50]) 59,
 o 65 (.pick (.tmp 59) (.tmp 64) (.const (.bool false))),
 o 66 (mv 65),
 oT 67 (fa 52 2 9) 66,
 oT 68 (ld 3 67) 66,
 oT 69 (fa 52 3 9) 66,
 oT 70 (ld 3 69) 66,
 oT 71 (bo .eql (t 68) (t 70)) 66,
 o 72 (.pick (.tmp 66) (.tmp 71) (.const (.bool false))),
 o 73 (mv 72),
 oT 74 (fa 52 2 10) 73,
 oT 75 (ld 3 74) 73,
 oT 76 (fa 52 3 10) 73,
 oT 77 (ld 3 76) 73,
 oT 78 (bo .eql (t 75) (t 77)) 73,
 o 79 (.pick (.tmp 73) (.tmp 78) (.const (.bool false))),
 o 80 (mv 79),
 oT 81 (fa 52 2 11) 80,
 oT 82 (ld 3 81) 80,
 oT 83 (fa 52 3 11) 80,
 oT 84 (ld 3 83) 80,
 oT 85 (bo .eql (t 82) (t 84)) 80,
 o 86 (.pick (.tmp 80) (.tmp 85) (.const (.bool false))),
 o 87 (mv 86),
 oT 88 (fa 52 2 12) 87,
 oT 89 (ld 3 88) 87,
 oT 90 (fa 52 3 12) 87,
 oT 91 (ld 3 90) 87,
 oT 92 (bo .eql (t 89) (t 91)) 87,
 o 93 (.pick (.tmp 87) (.tmp 92) (.const (.bool false))),
 o 94 (mv 93),
 oT 95 (fa 52 2 13) 94,
 oT 96 (ld 3 95) 94,
 oT 97 (fa 52 3 13) 94,
 oT 98 (ld 3 97) 94,
 oT 99 (bo .eql (t 96) (t 98)) 94,
 o 100 (.pick (.tmp 94) (.tmp 99) (.const (.bool false))),
 o 4 (av 100)])
(.ret [4])))
def g25 : IFn := ⟨101, [.tmp 4], [4], c25, [], false, none⟩
/- 26 veil/veilref11.May -/
def d26_1 : IR := D [o 32 (mv 3),
 o 33 (fa 28 1 1),
 o 34 (ia 24 33 32),
 o 35 (ld 3 34),
 o 36 (fa 28 1 2),
 o 37 (ld 3 36),
 o 38 (cl 44 #[(t 35), (n 0), (t 37)] #[3, 3, 3]),
 o 39 (.unOp .not 4 (.tmp 38))] [[], [], [1, 0], [2], [], [4], [3, 5], [6]]
def c26_1 : IR := (S (S (R [o 28 (mv 3),
 o 29 (bo .lss (t 28) (n 4))])
(.cond (t 29)
.skip
(.exit 0 [1])))
(S (.block 1 (S d26_1
(.cond (t 39)
(S (R [o 2 (ab false)])
(.ret [2]))
.skip)))
(R [o 30 (mv 3),
 o 31 (bo .add (t 30) (n 1)),
 o 3 (av 31)])))
def d26_2 : IR := D [o 47 (ld 28 1),
 o 48 (fa 28 1 3),
 o 49 (ld 25 48),
 o 50 (mv 4),
 o 51 (ia 25 49 50),
 o 52 (ld 52 51),
 o 53 (cl 56 #[(t 47), (t 52)] #[28, 52]),
 o 54 (.unOp .not 4 (.tmp 53)),
 o 55 (mv 54),
 oF 56 (mv 4) 55,
 oF 57 (bo .gtr (t 56) (n 0)) 55,
 oF 58 (mv 57) 55,
 oT 59 (fa 28 1 3) 58,
 oT 60 (ld 25 59) 58,
 oT 61 (mv 4) 58,
 oT 62 (ia 25 60 61) 58,
 oT 63 (fa 52 62 0) 58,
 oT 64 (ld 3 63) 58,
 oT 65 (fa 28 1 3) 58,
 oT 66 (ld 25 65) 58,
 oT 67 (mv 4) 58,
 oT 68 (bo .sub (t 67) (n 1)) 58,
 oT 69 (ia 25 66 68) 58,
 oT 70 (fa 52 69 0) 58,
 oT 71 (ld 3 70) 58,
 oT 72 (bo .leq (t 64) (t 71)) 58,
 oF 73 (.pick (.tmp 58) (.tmp 72) (.const (.bool false))) 55,
 o 74 (.pick (.tmp 55) (.const (.bool true)) (.tmp 73))] [[], [], [1], [], [2, 3], [4], [0, 5], [6], [7, 6], [8], [9, 8], [10, 8, 8], [11], [12, 11], [11], [13, 14, 11], [15, 11], [16, 11], [11], [18, 11], [11], [20, 11], [19, 21, 11], [22, 11], [23, 11], [17, 24, 11], [11, 25, 8], [8, 26]]
def c26_2 : IR := (S (S (R [o 40 (mv 4),
 o 41 (fa 28 1 3),
 o 42 (ld 25 41),
 o 43 (len 42 25),
 o 44 (bo .lss (t 40) (t 43))])
(.cond (t 44)
.skip
(.exit 2 [1])))
(S (.block 3 (S d26_2
(.cond (t 74)
(S (R [o 2 (ab false)])
(.ret [2]))
.skip)))
(R [o 45 (mv 4),
 o 46 (bo .add (t 45) (n 1)),
 o 4 (av 46)])))
def c26_3 : IR := (S (S (R [o 75 (mv 5),
 o 76 (fa 28 1 4),
 o 77 (ld 26 76),
 o 78 (len 77 26),
 o 79 (bo .lss (t 75) (t 78))])
(.cond (t 79)
.skip
(.exit 4 [])))
(S (.block 5 (S (R [o 82 (fa 28 1 4),
 o 83 (ld 26 82),
 o 84 (mv 5),
 o 85 (ia 26 83 84),
 o 86 (fa 55 85 1),
 o 87 (ld 3 86),
 o 88 (cl 57 #[(t 87)] #[3]),
 o 89 (.unOp .not 4 (.tmp 88))])
(.cond (t 89)
(S (R [o 2 (ab false)])
(.ret [2]))
.skip)))
(R [o 80 (mv 5),
 o 81 (bo .add (t 80) (n 1)),
 o 5 (av 81)])))
def c26 : IR := (S (R [z 1 (bx 28 0),
 o 2 (ab false)])
(S (S (R [o 6 (fa 28 1 0),
 o 7 (ld 23 6),
 o 8 (cl 54 #[(t 7)] #[23]),
 o 9 (.unOp .not 4 (.tmp 8)),
 o 10 (mv 9),
 oF 11 (fa 28 1 2) 10,
 oF 12 (ld 3 11) 10,
 oF 13 (cl 55 #[(t 12)] #[3]) 10,
 oF 14 (.unOp .not 4 (.tmp 13)) 10,
 o 15 (.pick (.tmp 10) (.const (.bool true)) (.tmp 14)),
 o 16 (mv 15),
 oF 17 (fa 28 1 3) 16,
 oF 18 (ld 25 17) 16,
 oF 19 (len 18 25) 16,
 oF 20 (bo .gtr (t 19) (n 4)) 16,
 o 21 (.pick (.tmp 16) (.const (.bool true)) (.tmp 20)),
 o 22 (mv 21),
 oF 23 (fa 28 1 4) 22,
 oF 24 (ld 26 23) 22,
 oF 25 (len 24 26) 22,
 oF 26 (bo .gtr (t 25) (n 512)) 22,
 o 27 (.pick (.tmp 22) (.const (.bool true)) (.tmp 26))])
(.cond (t 27)
(S (R [o 2 (ab false)])
(.ret [2]))
.skip))
(S (S (R [o 3 (an 0)])
(.block 0 (.loop [1, 3] c26_1)))
(S (S (R [o 4 (an 0)])
(.block 2 (.loop [1, 4] c26_2)))
(S (S (R [o 5 (an 0)])
(.block 4 (.loop [1, 5] c26_3)))
(S (R [o 2 (ab true)])
(.ret [2])))))))
def g26 : IFn := ⟨90, [.tmp 2], [4], c26, [], false, none⟩
/- 27 veil/veilref11.Step -/
def c27 : IR := (S (R [z 2 (bx 28 0),
 o 4 (al 28),
 o 5 (an 0)])
(S (S (R [o 8 (ld 28 2),
 o 9 (mv 1),
 o 10 (cl 40 #[(t 8), (t 9)] #[28, 3]),
 o 11 (.unOp .not 4 (.tmp 10))])
(.cond (t 11)
(S (R [o 12 (.build 28 #[]),
 w (st 28 4 12),
 o 5 (an 2300)])
(.ret [4, 5]))
.skip))
(S (R [o 13 (ld 28 2),
 o 14 (cl 58 #[(t 13)] #[28]),
 o 6 (al 28),
 w (st 28 6 14),
 o 7 (an 0)])
(S (S (R [o 15 (fa 28 2 3),
 o 16 (ld 25 15),
 o 17 (mv 1),
 o 18 (ia 25 16 17),
 o 19 (fa 52 18 4),
 o 20 (ld 3 19)])
(.block 0 (S (R [o 22 (bo .eql (t 20) (n 0)),
 o 21 (av 22)])
(.cond (t 21)
(R [o 24 (ld 28 2),
 o 25 (mv 1),
 o 26 (cl 59 #[(t 24), (t 25)] #[28, 3]),
 o 23 (mv 26),
 o 27 (xt 23 0),
 o 28 (xt 23 1),
 w (st 28 6 27),
 o 7 (av 28)])
(S (R [o 30 (bo .eql (t 20) (n 1)),
 o 29 (av 30)])
(.cond (t 29)
(R [o 32 (ld 28 2),
 o 33 (mv 1),
 o 34 (cl 60 #[(t 32), (t 33)] #[28, 3]),
 o 31 (mv 34),
 o 35 (xt 31 0),
 o 36 (xt 31 1),
 w (st 28 6 35),
 o 7 (av 36)])
(S (R [o 38 (bo .eql (t 20) (n 2)),
 o 37 (av 38)])
(.cond (t 37)
(R [o 40 (ld 28 2),
 o 41 (mv 1),
 o 42 (cl 61 #[(t 40), (t 41)] #[28, 3]),
 o 39 (mv 42),
 o 43 (xt 39 0),
 o 44 (xt 39 1),
 w (st 28 6 43),
 o 7 (av 44)])
(S (R [o 46 (bo .eql (t 20) (n 3)),
 o 45 (av 46)])
(.cond (t 45)
(R [o 48 (ld 28 2),
 o 49 (mv 1),
 o 50 (cl 62 #[(t 48), (t 49)] #[28, 3]),
 o 47 (mv 50),
 o 51 (xt 47 0),
 o 52 (xt 47 1),
 w (st 28 6 51),
 o 7 (av 52)])
(S (R [o 54 (bo .eql (t 20) (n 4)),
 o 53 (av 54)])
(.cond (t 53)
(R [o 56 (ld 28 2),
 o 57 (mv 1),
 o 58 (cl 30 #[(t 56), (t 57)] #[28, 3]),
 o 55 (mv 58),
 o 59 (xt 55 0),
 o 60 (xt 55 1),
 w (st 28 6 59),
 o 7 (av 60)])
(S (R [o 62 (bo .eql (t 20) (n 5)),
 o 61 (av 62)])
(.cond (t 61)
(R [o 64 (ld 28 2),
 o 65 (mv 1),
 o 66 (cl 63 #[(t 64), (t 65)] #[28, 3]),
 o 63 (mv 66),
 o 67 (xt 63 0),
 o 68 (xt 63 1),
 w (st 28 6 67),
 o 7 (av 68)])
.skip))))))))))))))
(S (S (R [o 69 (mv 7),
 o 70 (bo .neq (t 69) (n 0))])
(.cond (t 70)
(S (R [o 71 (.build 28 #[]),
 w (st 28 4 71),
 o 5 (an 2300)])
(.ret [4, 5]))
.skip))
(S (R [o 72 (ld 28 6),
 w (st 28 4 72),
 o 5 (an 0)])
(.ret [4, 5])))))))
def g27 : IFn := ⟨73, [.cell 4 28, .tmp 5], [28, 3], c27, [], false, none⟩
/- 28 veil/veillaw0.SameArena -/
def d28_1 : IR := D [o 10 (mv 5),
 o 11 (ia 23 2 10),
 o 12 (ld 22 11),
 o 13 (mv 5),
 o 14 (ia 23 3 13),
 o 15 (ld 22 14),
 o 16 (cl 64 #[(t 12), (t 15)] #[22, 22]),
 o 17 (.unOp .not 4 (.tmp 16))] [[], [0], [1], [], [3], [4], [2, 5], [6]]
def c28_1 : IR := (S (S (R [o 6 (mv 5),
 o 7 (bo .lss (t 6) (n 4))])
(.cond (t 7)
.skip
(.exit 0 [])))
(S (.block 1 (S d28_1
(.cond (t 17)
(S (R [o 4 (ab false)])
(.ret [4]))
.skip)))
(R [o 8 (mv 5),
 o 9 (bo .add (t 8) (n 1)),
 o 5 (av 9)])))
def c28 : IR := (S (R [z 2 (bx 23 0),
 z 3 (bx 23 1),
 o 4 (ab false)])
(S (S (R [o 5 (an 0)])
(.block 0 (.loop [2, 3, 5] c28_1)))
(S (R [o 4 (ab true)])
(.ret [4]))))
def g28 : IFn := ⟨18, [.tmp 4], [4], c28, [], false, none⟩
/- 29 veil/back.Step -/
def d29_1 : IR := D [o 10 (mv 1),
 o 11 (cl 65 #[(t 2), (t 10), (n 4)] #[74, 3, 3]),
 o 12 (.unOp .not 4 (.tmp 11)),
 o 13 (mv 12),
 oF 14 (fa 28 2 3) 13,
 oF 15 (ld 25 14) 13,
 oF 16 (mv 1) 13,
 oF 17 (ia 25 15 16) 13,
 oF 18 (fa 52 17 9) 13,
 oF 19 (ld 3 18) 13,
 oF 20 (fa 28 2 3) 13,
 oF 21 (ld 25 20) 13,
 oF 22 (mv 1) 13,
 oF 23 (ia 25 21 22) 13,
 oF 24 (fa 52 23 8) 13,
 oF 25 (ld 50 24) 13,
 oF 26 (len 25 50) 13,
 oF 27 (bo .eql (t 19) (t 26)) 13,
 o 28 (.pick (.tmp 13) (.const (.bool true)) (.tmp 27))] [[], [0], [1], [2, 1], [3], [4, 3], [3], [5, 6, 3], [7, 3], [8, 3], [3], [10, 3], [3], [11, 12, 3], [13, 3], [14, 3], [15, 3], [9, 16, 3], [3, 17]]
def d29_2 : IR := D [o 36 (mv 7),
 o 37 (nc 36),
 o 38 (fa 52 37 8),
 o 39 (ld 50 38),
 o 40 (mv 7),
 o 41 (nc 40),
 o 42 (fa 52 41 9),
 o 43 (ld 3 42),
 o 44 (ia 50 39 43),
 o 45 (ld 63 44),
 o 8 (al 63),
 w (st 63 8 45)] [[], [0], [1], [2], [], [4], [5], [6], [3, 7], [8], [], [10, 9, 0, 1, 2, 3, 4, 5, 6, 7, 8, 9, 10]]
def d29_3 : IR := D [o 46 (fa 63 8 0),
 o 47 (ld 3 46),
 o 48 (fa 28 6 0),
 o 49 (ia 23 48 47),
 o 50 (ld 22 49),
 o 51 (fa 63 8 1),
 o 52 (ld 3 51),
 o 53 (ia 22 50 52),
 o 9 (av 53)] [[], [0], [], [2, 1], [3], [], [5], [4, 6], [7, 0, 1, 2, 3, 4, 5, 6, 7]]
def d29_4 : IR := D [o 55 (mv 9),
 o 56 (mv 9),
 o 57 (nc 56),
 o 58 (ld 65 57),
 o 59 (fa 63 8 2),
 o 60 (ld 3 59),
 o 61 (mv 7),
 o 62 (nc 61),
 o 63 (fa 52 62 10),
 o 64 (ld 3 63),
 o 65 (cl 66 #[(t 58), (t 60), (t 64)] #[65, 3, 3]),
 o 54 (mv 65),
 o 66 (xt 54 0),
 o 67 (xt 54 1),
 o 68 (nc 55),
 w (st 65 68 66)] [[], [], [1], [2], [], [4], [], [6], [7], [8], [3, 5, 9], [10], [11], [11], [0, 0, 1, 2, 3, 4, 5, 6, 7, 8, 9, 10, 11, 12], [14, 12, 10, 0, 1, 2, 3, 4, 5, 6, 7, 8, 9, 10, 11, 12]]
def d29_5 : IR := D [o 76 (mv 7),
 o 77 (nc 76),
 o 78 (fa 52 77 9),
 o 79 (ld 3 78),
 o 80 (mv 7),
 o 81 (nc 80),
 o 82 (fa 52 81 8),
 o 83 (ld 50 82),
 o 84 (len 83 50),
 o 85 (bo .lss (t 79) (t 84))] [[], [0], [1], [2], [], [4], [5], [6], [7], [3, 8]]
def c29 : IR := (S (R [z 2 (bx 28 0),
 o 4 (al 28),
 o 5 (an 0)])
(S (S d29_1
(.cond (t 28)
(S (R [o 29 (.build 28 #[]),
 w (st 28 4 29),
 o 5 (an 2100)])
(.ret [4, 5]))
.skip))
(S (R [o 30 (ld 28 2),
 o 31 (cl 37 #[(t 30)] #[28]),
 o 6 (al 28),
 w (st 28 6 31)])
(S (R [o 32 (fa 28 6 3),
 o 33 (ld 25 32),
 o 34 (mv 1),
 z 35 (ia 25 33 34),
 o 7 (av 35)])
(S d29_2
(S d29_3
(S d29_4
(S (S (R [o 69 (mv 7),
 o 70 (nc 69),
 o 71 (fa 52 70 9),
 o 72 (ld 3 71),
 o 73 (bo .add (t 72) (n 1)),
 o 74 (nc 69),
 o 75 (fa 52 74 9),
 w (st 3 75 73)])
(S d29_5
(.cond (t 85)
(S (R [o 86 (ld 28 6),
 w (st 28 4 86),
 o 5 (an 0)])
(.ret [4, 5]))
.skip)))
(S (R [o 87 (ld 28 6),
 o 88 (mv 1),
 o 89 (cl 17 #[(t 87), (t 88), (n 1), (n 0)] #[28, 3, 3, 3]),
 o 90 (xt 89 0),
 o 91 (xt 89 1),
 w (st 28 4 90),
 o 5 (av 91)])
(.ret [4, 5]))))))))))
def g29 : IFn := ⟨92, [.cell 4 28, .tmp 5], [28, 30], c29, [], false, none⟩
/- 30 veil/veilref11.Back -/
def d30_1 : IR := D [o 28 (fa 63 7 0),
 o 29 (ld 3 28),
 o 30 (fa 28 2 0),
 o 31 (ia 23 30 29),
 o 32 (ld 22 31),
 o 33 (fa 63 7 1),
 o 34 (ld 3 33),
 o 35 (ia 22 32 34),
 o 36 (ld 65 35),
 o 37 (fa 63 7 2),
 o 38 (ld 3 37),
 o 39 (fa 52 6 10),
 o 40 (ld 3 39),
 o 41 (cl 68 #[(t 36), (t 38), (t 40)] #[65, 3, 3]),
 o 27 (mv 41),
 o 42 (xt 27 0),
 o 43 (xt 27 1),
 o 8 (al 65),
 w (st 65 8 42),
 o 9 (av 43)] [[], [0], [], [2, 1], [3], [], [5], [4, 6], [7], [], [9], [], [11], [8, 10, 12], [13], [14], [14], [], [17, 15, 13, 0, 1, 2, 3, 4, 5, 6, 7, 8, 9, 10, 11, 12, 13, 14, 15, 17], [16, 18, 0, 1, 2, 3, 4, 5, 6, 7, 8, 9, 10, 11, 12, 13, 14, 15, 16, 17, 18]]
def d30_2 : IR := D [o 46 (fa 63 7 0),
 o 47 (ld 3 46),
 o 48 (fa 28 10 0),
 o 49 (ia 23 48 47),
 o 50 (ld 22 49),
 o 51 (fa 63 7 1),
 o 52 (ld 3 51),
 o 53 (ld 65 8),
 o 54 (ia 22 50 52),
 w (st 65 54 53)] [[], [0], [], [2, 1], [3], [], [5], [], [4, 6, 0, 1, 2, 3, 4, 5, 6, 7], [8, 7, 0, 1, 2, 3, 4, 5, 6, 7]]
def c30 : IR := (S (R [z 2 (bx 28 0),
 o 4 (al 28),
 o 5 (an 0)])
(S (S (R [o 11 (ld 28 2),
 o 12 (mv 1),
 o 13 (cl 67 #[(t 11), (t 12), (n 4)] #[28, 3, 3]),
 o 14 (.unOp .not 4 (.tmp 13))])
(.cond (t 14)
(S (R [o 15 (.build 28 #[]),
 w (st 28 4 15),
 o 5 (an 2100)])
(.ret [4, 5]))
.skip))
(S (R [o 16 (fa 28 2 3),
 o 17 (ld 25 16),
 o 18 (mv 1),
 o 19 (ia 25 17 18),
 o 20 (ld 52 19),
 o 6 (al 52),
 w (st 52 6 20)])
(S (R [o 21 (fa 52 6 8),
 o 22 (ld 50 21),
 o 23 (fa 52 6 9),
 o 24 (ld 3 23),
 o 25 (ia 50 22 24),
 o 26 (ld 63 25),
 o 7 (al 63),
 w (st 63 7 26)])
(S d30_1
(S (R [o 44 (ld 28 2),
 o 45 (cl 58 #[(t 44)] #[28]),
 o 10 (al 28),
 w (st 28 10 45)])
(S d30_2
(S (R [o 55 (fa 28 10 3),
 o 56 (ld 25 55),
 o 57 (mv 1),
 o 58 (ia 25 56 57),
 o 59 (fa 52 58 9),
 o 60 (ld 3 59),
 o 61 (bo .add (t 60) (n 1)),
 o 62 (ia 25 56 57),
 o 63 (fa 52 62 9),
 w (st 3 63 61)])
(S (S (R [o 64 (fa 52 6 9),
 o 65 (ld 3 64),
 o 66 (bo .add (t 65) (n 1)),
 o 67 (fa 52 6 8),
 o 68 (ld 50 67),
 o 69 (len 68 50),
 o 70 (bo .eql (t 66) (t 69))])
(.cond (t 70)
(S (R [o 71 (ld 28 10),
 o 72 (mv 1),
 o 73 (cl 18 #[(t 71), (t 72), (n 1), (n 0)] #[28, 3, 3, 3]),
 o 74 (xt 73 0),
 o 75 (xt 73 1),
 w (st 28 4 74),
 o 5 (av 75)])
(.ret [4, 5]))
.skip))
(S (R [o 76 (ld 28 10),
 w (st 28 4 76),
 o 5 (an 0)])
(.ret [4, 5])))))))))))
def g30 : IFn := ⟨77, [.cell 4 28, .tmp 5], [28, 3], c30, [], false, none⟩
/- 31 veil/veillaw21.awake -/
def c31 : IR := (S (R [z 0 (ab false)])
(S (R [z 6 (cl 32 #[(n 0), (n 7)] #[3, 3]),
 z 7 (cl 29 #[(t 6), (n 0)] #[28, 3]),
 z 5 (mv 7),
 z 8 (xt 5 0),
 z 9 (xt 5 1),
 z 1 (al 28),
 ⟨none, st 28 1 8, none, true⟩,
 z 2 (av 9)])
(S (R [z 11 (cl 33 #[] #[]),
 z 12 (cl 29 #[(t 11), (n 0)] #[28, 3]),
 z 10 (mv 12),
 z 13 (xt 10 0),
 z 14 (xt 10 1),
 z 3 (al 28),
 ⟨none, st 28 3 13, none, true⟩,
 z 4 (av 14)])
(S (S (R [z 15 (fa 28 1 3),
 z 16 (ld 25 15),
 z 17 (len 16 25),
 z 18 (bo .neq (t 17) (n 2)),
 z 19 (mv 18),
 zF 20 (fa 28 1 0) 19,
 oF 21 (.indexAddr 23 (.tmp 20) (.const (.int .i64 0))) 19,
 zF 22 (ld 22 21) 19,
 zF 23 (len 22 22) 19,
 zF 24 (bo .neq (t 23) (n 2)) 19,
 z 25 (.pick (.tmp 19) (.const (.bool true)) (.tmp 24))])
(.cond (t 25)
(S (R [z 0 (ab false)])
(.ret [0]))
.skip))
(S (R [z 26 (fa 28 1 0),
 o 27 (.indexAddr 23 (.tmp 26) (.const (.int .i64 0))),
 z 28 (ld 22 27),
 o 29 (.indexAddr 22 (.tmp 28) (.const (.int .i64 0))),
 z 30 (ld 65 29),
 z 31 (.build 65 #[(0, (.const (.int .i64 10))), (1, (.const (.int .i64 1)))]),
 z 32 (.binOp .eql 65 (.tmp 30) (.tmp 31) 65),
 z 33 (mv 32),
 zT 34 (fa 28 1 3) 33,
 zT 35 (ld 25 34) 33,
 oT 36 (.indexAddr 25 (.tmp 35) (.const (.int .i64 0))) 33,
 zT 37 (fa 52 36 12) 33,
 zT 38 (ld 3 37) 33,
 zT 39 (bo .eql (t 38) (n 1)) 33,
 z 40 (.pick (.tmp 33) (.tmp 39) (.const (.bool false))),
 z 41 (mv 40),
 zT 42 (fa 28 1 3) 41,
 zT 43 (ld 25 42) 41,
 oT 44 (.indexAddr 25 (.tmp 43) (.const (.int .i64 0))) 41,
 zT 45 (fa 52 44 4) 41,
 zT 46 (ld 3 45) 41,
 zT 47 (bo .eql (t 46) (n 6)) 41,
 z 48 (.pick (.tmp 41) (.tmp 47) (.const (.bool false))),
 z 49 (mv 48),
 zT 50 (mv 2) 49,
 zT 51 (cl 20 #[(t 50)] #[30]) 49,
 zT 52 (bo .eql (t 51) (n 0)) 49,
 z 53 (.pick (.tmp 49) (.tmp 52) (.const (.bool false))),
 z 54 (mv 53),
 zT 55 (mv 4) 54,
 zT 56 (cl 20 #[(t 55)] #[30]) 54,
 zT 57 (bo .eql (t 56) (n 2100)) 54,
 z 58 (.pick (.tmp 54) (.tmp 57) (.const (.bool false))),
 z 0 (av 58)])
(.ret [0]))))))
def g31 : IFn := ⟨59, [.tmp 0], [4], c31, [], false, none⟩
/- 32 veil/veillaw21.stepped -/
def c32_1 : IR := (S (S (R [o 8 (mv 6),
 o 9 (mv 1),
 o 10 (bo .lss (t 8) (t 9))])
(.cond (t 10)
.skip
(.exit 0 [4, 5])))
(S (.block 1 (R [o 14 (ld 28 5),
 o 15 (mv 0),
 o 16 (cl 27 #[(t 14), (t 15)] #[28, 3]),
 o 13 (mv 16),
 o 17 (xt 13 0),
 o 18 (xt 13 1),
 w (st 28 5 17)]))
(R [o 11 (mv 6),
 o 12 (bo .add (t 11) (n 1)),
 o 6 (av 12)])))
def c32 : IR := (S (R [o 4 (al 28)])
(S (R [o 7 (cl 33 #[] #[]),
 o 5 (al 28),
 w (st 28 5 7)])
(S (S (R [o 6 (an 0)])
(.block 0 (.loop [0, 1, 4, 5, 6] c32_1)))
(S (R [o 19 (ld 28 5),
 w (st 28 4 19)])
(.ret [4])))))
def g32 : IFn := ⟨20, [.cell 4 28], [28], c32, [], false, none⟩
/- 33 veil/veillaw21.begun -/
def c33 : IR := (S (R [o 0 (al 28)])
(S (R [o 4 (.buildSlice 46 2 #[(0, (.const (.int .i64 5))), (1, (.const (.int .i64 6)))]),
 o 5 (.buildSlice 46 1 #[(0, (.const (.int .i64 7)))]),
 o 6 (.buildSlice 46 1 #[(0, (.const (.int .i64 9)))]),
 o 7 (.build 98 #[(0, (.tmp 4)), (1, (.tmp 5)), (2, (.const (.slice none 0 0))), (3, (.tmp 6))]),
 o 8 (.build 69 #[(0, (.const (.int .i64 2)))]),
 o 9 (.build 69 #[(0, (.const (.int .i64 1)))]),
 o 10 (.build 69 #[(0, (.const (.int .i64 3)))]),
 o 11 (.buildSlice 48 3 #[(0, (.tmp 8)), (1, (.tmp 9)), (2, (.tmp 10))]),
 o 12 (.build 100 #[(0, (.const (.int .i64 3))), (2, (.const (.int .i64 3))), (3, (.tmp 11))]),
 o 13 (.build 69 #[(0, (.const (.int .i64 2))), (3, (.const (.int .i64 1)))]),
 o 14 (.build 69 #[(0, (.const (.int .i64 3))), (2, (.const (.int .i64 1)))]),
 o 15 (.buildSlice 48 2 #[(0, (.tmp 13)), (1, (.tmp 14))]),
 o 16 (.build 100 #[(0, (.const (.int .i64 5))), (1, (.const (.int .i64 1))), (2, (.const (.int .i64 1))), (3, (.tmp 15))]),
 o 17 (.buildSlice 101 2 #[(0, (.tmp 12)), (1, (.tmp 16))]),
 o 18 (.build 104 #[(0, (.tmp 7)), (1, (.const (.int .i64 9))), (2, (.tmp 17))]),
 o 19 (cl 69 #[(t 18)] #[104]),
 o 3 (mv 19),
 o 20 (xt 3 0),
 o 21 (xt 3 1),
 o 1 (al 28),
 w (st 28 1 20),
 o 2 (av 21)])
(S (R [o 22 (ld 28 1),
 w (st 28 0 22)])
(.ret [0]))))
def g33 : IFn := ⟨23, [.cell 0 28], [28], c33, [], false, none⟩
/- 34 veil/veillaw0.CopyArena -/
def c34_1 : IR := (S (S (R [o 5 (mv 4),
 o 6 (bo .lss (t 5) (n 4))])
(.cond (t 6)
.skip
(.exit 0 [2, 3])))
(S (.block 1 (R [o 9 (mv 4),
 o 10 (.buildSlice 22 0 #[]),
 o 11 (mv 4),
 o 12 (ia 23 1 11),
 o 13 (ld 22 12),
 o 14 (.call { callee := (.builtin .append), args := #[(.tmp 10), (.tmp 13)], argTypes := #[22, 22] }),
 o 15 (ia 23 3 9),
 w (st 22 15 14)]))
(R [o 7 (mv 4),
 o 8 (bo .add (t 7) (n 1)),
 o 4 (av 8)])))
def c34 : IR := (S (R [z 1 (bx 23 0),
 o 2 (al 23)])
(S (R [o 3 (al 23)])
(S (S (R [o 4 (an 0)])
(.block 0 (.loop [1, 2, 3, 4] c34_1)))
(S (R [o 16 (ld 23 3),
 w (st 23 2 16)])
(.ret [2])))))
def g34 : IFn := ⟨17, [.cell 2 23], [23], c34, [], false, none⟩
/- 35 veil/veillaw0.CopySession -/
def c35 : IR := (S (R [o 1 (bx 52 0),
 o 2 (al 52)])
(S (R [o 3 (.buildSlice 48 0 #[]),
 o 4 (fa 52 1 3),
 o 5 (ld 48 4),
 o 6 (.call { callee := (.builtin .append), args := #[(.tmp 3), (.tmp 5)], argTypes := #[48, 48] }),
 o 7 (fa 52 1 3),
 w (st 48 7 6)])
(S (R [o 8 (.buildSlice 49 0 #[]),
 o 9 (fa 52 1 7),
 o 10 (ld 49 9),
 o 11 (.call { callee := (.builtin .append), args := #[(.tmp 8), (.tmp 10)], argTypes := #[49, 49] }),
 o 12 (fa 52 1 7),
 w (st 49 12 11)])
(S (R [o 13 (.buildSlice 50 0 #[]),
 o 14 (fa 52 1 8),
 o 15 (ld 50 14),
 o 16 (.call { callee := (.builtin .append), args := #[(.tmp 13), (.tmp 15)], argTypes := #[50, 50] }),
 o 17 (fa 52 1 8),
 w (st 50 17 16)])
(S (R [o 18 (ld 52 1),
 w (st 52 2 18)])
(.ret [2]))))))
def g35 : IFn := ⟨19, [.cell 2 52], [52], c35, [], false, none⟩
/- 36 veil/mach.There -/
def c36 : IR := (S (R [o 4 (ab false)])
(S (R [o 5 (mv 0),
 o 6 (nc 5),
 o 7 (ld 28 6),
 o 8 (cl 70 #[(t 7)] #[28]),
 o 9 (mv 8),
 oT 10 (mv 1) 9,
 oT 11 (bo .geq (t 10) (n 0)) 9,
 o 12 (.pick (.tmp 9) (.tmp 11) (.const (.bool false))),
 o 13 (mv 12),
 oT 14 (mv 1) 13,
 oT 15 (mv 0) 13,
 oT 16 (nc 15) 13,
 oT 17 (fa 28 16 3) 13,
 oT 18 (ld 25 17) 13,
 oT 19 (len 18 25) 13,
 oT 20 (bo .lss (t 14) (t 19)) 13,
 o 21 (.pick (.tmp 13) (.tmp 20) (.const (.bool false))),
 o 4 (av 21)])
(.ret [4])))
def g36 : IFn := ⟨22, [.tmp 4], [4], c36, [], false, none⟩
/- 37 veil/mach.Copy -/
def d37_1 : IR := D [o 5 (fa 28 1 0),
 o 6 (ld 23 5),
 o 7 (cl 71 #[(t 6)] #[23]),
 o 8 (fa 28 1 3),
 o 9 (ld 25 8),
 o 10 (cl 72 #[(t 9)] #[25]),
 o 11 (fa 28 1 4),
 o 12 (ld 26 11),
 o 13 (cl 73 #[(t 12)] #[26]),
 o 14 (fa 28 1 0),
 w (st 23 14 7),
 o 15 (fa 28 1 3),
 w (st 25 15 10),
 o 16 (fa 28 1 4),
 w (st 26 16 13)] [[], [0], [1], [], [3], [4, 2], [], [6], [7, 5], [0, 1, 2, 3, 4, 6, 7], [9, 2, 8, 0, 1, 2, 3, 4, 6, 7], [0, 1, 2, 3, 4, 5, 6, 7, 9, 10], [11, 5, 10, 0, 1, 2, 3, 4, 5, 6, 7, 9, 10], [0, 1, 2, 3, 4, 5, 6, 7, 8, 9, 10, 11, 12], [13, 8, 12, 0, 1, 2, 3, 4, 5, 6, 7, 8, 9, 10, 11, 12]]
def d37_2 : IR := D [o 25 (fa 28 1 3),
 o 26 (ld 25 25),
 o 27 (mv 3),
 o 28 (ld 52 4),
 o 29 (cl 74 #[(t 28)] #[52]),
 o 30 (ia 25 26 27),
 w (st 52 30 29)] [[], [0], [], [], [3], [1, 2, 0, 1, 2, 3, 4], [5, 4, 4, 0, 1, 2, 3, 4]]
def c37_1 : IR := (S (R [o 21 (bo .lss (t 20) (t 19))])
(S (.cond (t 21)
.skip
(.exit 0 [1, 2]))
(S (.block 1 (S (R [o 22 (mv 20),
 o 23 (ia 25 18 20),
 o 24 (ld 52 23),
 o 4 (al 52),
 o 3 (av 22),
 w (st 52 4 24)])
d37_2))
(R [o 31 (bo .add (t 20) (n 1)),
 o 20 (mv 31)]))))
def c37 : IR := (S (R [o 1 (bx 28 0),
 o 2 (al 28)])
(S d37_1
(S (S (R [o 17 (fa 28 1 3),
 o 18 (ld 25 17),
 o 19 (len 18 25),
 o 20 (.move (.const (.int .i64 0)))])
(.block 0 (.loop [1, 2, 18, 19, 20] c37_1)))
(S (R [o 32 (ld 28 1),
 w (st 28 2 32)])
(.ret [2])))))
def g37 : IFn := ⟨33, [.cell 2 28], [28], c37, [], false, none⟩
/- 38 veil/undo.drop -/
def c38 : IR := (S (R [o 4 (.assign (.const (.pointer none)))])
(S (R [o 6 (mv 0),
 o 7 (nc 6),
 o 8 (fa 28 7 3),
 o 9 (ld 25 8),
 o 10 (mv 1),
 o 11 (ia 25 9 10),
 o 5 (av 11)])
(S (R [o 12 (mv 0),
 o 13 (mv 5),
 o 14 (nc 13),
 o 15 (fa 52 14 0),
 o 16 (ld 3 15),
 o 17 (cl 75 #[(t 12), (t 16)] #[74, 3])])
(S (R [o 18 (mv 5),
 o 19 (mv 5),
 o 20 (mv 5),
 o 21 (mv 5),
 o 22 (nc 18),
 o 23 (fa 52 22 7),
 w (.store 49 (.tmp 23) (.const (.slice none 0 0))),
 o 24 (nc 19),
 o 25 (fa 52 24 8),
 w (.store 50 (.tmp 25) (.const (.slice none 0 0))),
 o 26 (nc 20),
 o 27 (fa 52 26 9),
 w (.store 3 (.tmp 27) (.const (.int .i64 0))),
 o 28 (nc 21),
 o 29 (fa 52 28 10),
 w (.store 3 (.tmp 29) (.const (.int .i64 0)))])
(S (R [o 30 (mv 5),
 o 4 (av 30)])
(.ret [4]))))))
def g38 : IFn := ⟨31, [.tmp 4], [75], c38, [], true, none⟩
/- 39 veil/mach.Note -/
def d39_1 : IR := D [o 21 (mv 0),
 o 22 (mv 0),
 o 23 (nc 22),
 o 24 (fa 28 23 4),
 o 25 (ld 26 24),
 o 26 (mv 8),
 o 27 (nc 26),
 o 28 (fa 52 27 0),
 o 29 (ld 3 28),
 o 30 (mv 8),
 o 31 (nc 30),
 o 32 (fa 52 31 1),
 o 33 (ld 3 32),
 o 34 (mv 2),
 o 35 (mv 3),
 o 36 (.build 55 #[(0, (.tmp 29)), (1, (.tmp 33)), (2, (.tmp 34)), (3, (.tmp 35))]),
 o 37 (.buildSlice 26 1 #[(0, (.tmp 36))]),
 o 38 (.call { callee := (.builtin .append), args := #[(.tmp 25), (.tmp 37)], argTypes := #[26, 26] }),
 o 39 (nc 21),
 o 40 (fa 28 39 4),
 w (st 26 40 38)] [[], [], [1], [2], [3], [], [5], [6], [7], [], [9], [10], [11], [], [], [8, 12, 13, 14], [15], [4, 16], [0, 0, 1, 2, 3, 4, 5, 6, 7, 8, 9, 10, 11, 12, 13, 14, 15, 16, 17], [18, 0, 1, 2, 3, 4, 5, 6, 7, 8, 9, 10, 11, 12, 13, 14, 15, 16, 17], [19, 17, 17, 0, 1, 2, 3, 4, 5, 6, 7, 8, 9, 10, 11, 12, 13, 14, 15, 16, 17]]
def c39 : IR := (S (R [o 9 (mv 0),
 o 10 (nc 9),
 o 11 (fa 28 10 4),
 o 12 (ld 26 11),
 o 13 (len 12 26),
 o 14 (bo .lss (t 13) (n 512))])
(.cond (t 14)
(S (R [o 15 (mv 0),
 o 16 (nc 15),
 o 17 (fa 28 16 3),
 o 18 (ld 25 17),
 o 19 (mv 1),
 o 20 (ia 25 18 19),
 o 8 (av 20)])
d39_1)
.skip))
def g39 : IFn := ⟨41, [], [], c39, [], true, none⟩
/- 40 veil/veilref11.Here -/
def c40 : IR := (S (R [z 2 (bx 28 0),
 o 4 (ab false)])
(S (R [o 5 (ld 28 2),
 o 6 (cl 26 #[(t 5)] #[28]),
 o 7 (mv 6),
 oT 8 (mv 1) 7,
 oT 9 (bo .geq (t 8) (n 0)) 7,
 o 10 (.pick (.tmp 7) (.tmp 9) (.const (.bool false))),
 o 11 (mv 10),
 oT 12 (mv 1) 11,
 oT 13 (fa 28 2 3) 11,
 oT 14 (ld 25 13) 11,
 oT 15 (len 14 25) 11,
 oT 16 (bo .lss (t 12) (t 15)) 11,
 o 17 (.pick (.tmp 11) (.tmp 16) (.const (.bool false))),
 o 4 (av 17)])
(.ret [4])))
def g40 : IFn := ⟨18, [.tmp 4], [4], c40, [], false, none⟩
/- 41 veil/veilref11.loose -/
def c41_1 : IR := (S (S (R [o 21 (mv 8),
 o 22 (mv 7),
 o 23 (fa 28 5 0),
 o 24 (ia 23 23 22),
 o 25 (ld 22 24),
 o 26 (len 25 22),
 o 27 (bo .lss (t 21) (t 26))])
(.cond (t 27)
.skip
(.exit 2 [1, 4, 5, 6, 7])))
(S (.block 3 (S (R [o 30 (mv 7),
 o 31 (fa 28 5 0),
 o 32 (ia 23 31 30),
 o 33 (ld 22 32),
 o 34 (mv 8),
 o 35 (ia 22 33 34),
 o 36 (fa 65 35 2),
 o 37 (ld 3 36),
 o 38 (mv 6),
 o 39 (bo .add (t 38) (n 1)),
 o 40 (bo .eql (t 37) (t 39))])
(.cond (t 40)
(R [o 41 (mv 7),
 o 42 (fa 28 5 0),
 o 43 (ia 23 42 41),
 o 44 (ld 22 43),
 o 45 (mv 8),
 o 46 (ia 22 44 45),
 o 47 (fa 65 46 2),
 w (.store 3 (.tmp 47) (.const (.int .i64 0)))])
.skip)))
(R [o 28 (mv 8),
 o 29 (bo .add (t 28) (n 1)),
 o 8 (av 29)])))
def c41_2 : IR := (S (S (R [o 17 (mv 7),
 o 18 (bo .lss (t 17) (n 4))])
(.cond (t 18)
.skip
(.exit 0 [1, 4, 5])))
(S (.block 1 (S (R [o 8 (an 0)])
(.block 2 (.loop [1, 4, 5, 6, 7, 8] c41_1))))
(R [o 19 (mv 7),
 o 20 (bo .add (t 19) (n 1)),
 o 7 (av 20)])))
def c41 : IR := (S (R [z 2 (bx 28 0),
 o 4 (al 28)])
(S (R [o 9 (ld 28 2),
 o 10 (cl 58 #[(t 9)] #[28]),
 o 5 (al 28),
 w (st 28 5 10)])
(S (R [o 11 (fa 28 2 3),
 o 12 (ld 25 11),
 o 13 (mv 1),
 o 14 (ia 25 12 13),
 o 15 (fa 52 14 0),
 o 16 (ld 3 15),
 o 6 (av 16)])
(S (S (R [o 7 (an 0)])
(.block 0 (.loop [1, 4, 5, 6, 7] c41_2)))
(S (R [o 48 (fa 28 5 3),
 o 49 (ld 25 48),
 o 50 (mv 1),
 o 51 (ia 25 49 50),
 o 52 (fa 52 51 7),
 w (.store 49 (.tmp 52) (.const (.slice none 0 0)))])
(S (R [o 53 (fa 28 5 3),
 o 54 (ld 25 53),
 o 55 (mv 1),
 o 56 (ia 25 54 55),
 o 57 (fa 52 56 8),
 w (.store 50 (.tmp 57) (.const (.slice none 0 0)))])
(S (R [o 58 (fa 28 5 3),
 o 59 (ld 25 58),
 o 60 (mv 1),
 o 61 (ia 25 59 60),
 o 62 (fa 52 61 9),
 w (.store 3 (.tmp 62) (.const (.int .i64 0)))])
(S (R [o 63 (fa 28 5 3),
 o 64 (ld 25 63),
 o 65 (mv 1),
 o 66 (ia 25 64 65),
 o 67 (fa 52 66 10),
 w (.store 3 (.tmp 67) (.const (.int .i64 0)))])
(S (R [o 68 (ld 28 5),
 w (st 28 4 68)])
(.ret [4]))))))))))
def g41 : IFn := ⟨69, [.cell 4 28], [28], c41, [], false, none⟩
/- 42 veil/veilref11.tell -/
def d42_1 : IR := D [o 13 (fa 28 4 4),
 o 14 (ld 26 13),
 o 15 (fa 28 4 3),
 o 16 (ld 25 15),
 o 17 (mv 1),
 o 18 (ia 25 16 17),
 o 19 (fa 52 18 0),
 o 20 (ld 3 19),
 o 21 (fa 28 4 3),
 o 22 (ld 25 21),
 o 23 (mv 1),
 o 24 (ia 25 22 23),
 o 25 (fa 52 24 1),
 o 26 (ld 3 25),
 o 27 (mv 2),
 o 28 (mv 3),
 o 29 (.build 55 #[(0, (.tmp 20)), (1, (.tmp 26)), (2, (.tmp 27)), (3, (.tmp 28))]),
 o 30 (.buildSlice 26 1 #[(0, (.tmp 29))]),
 o 31 (.call { callee := (.builtin .append), args := #[(.tmp 14), (.tmp 30)], argTypes := #[26, 26] }),
 o 32 (fa 28 4 4),
 w (st 26 32 31)] [[], [0], [], [2], [], [3, 4], [5], [6], [], [8], [], [9, 10], [11], [12], [], [], [7, 13, 14, 15], [16], [1, 17], [0, 1, 2, 3, 4, 5, 6, 7, 8, 9, 10, 11, 12, 13, 14, 15, 16, 17, 18], [19, 18, 18, 0, 1, 2, 3, 4, 5, 6, 7, 8, 9, 10, 11, 12, 13, 14, 15, 16, 17, 18]]
def c42 : IR := (S (R [o 4 (bx 28 0),
 o 8 (al 28)])
(S (S (R [o 9 (fa 28 4 4),
 o 10 (ld 26 9),
 o 11 (len 10 26),
 o 12 (bo .lss (t 11) (n 512))])
(.cond (t 12)
d42_1
.skip))
(S (R [o 33 (ld 28 4),
 w (st 28 8 33)])
(.ret [8]))))
def g42 : IFn := ⟨34, [.cell 8 28], [28], c42, [true], false, none⟩
/- 43 veil/word.Value -/
def c43 : IR := (S (R [o 2 (ab false)])
(S (R [o 3 (mv 0),
 o 4 (cl 76 #[(t 3), (n 255)] #[3, 3]),
 o 2 (av 4)])
(.ret [2])))
def g43 : IFn := ⟨5, [.tmp 2], [4], c43, [], false, none⟩
/- 44 veil/veilref11.upTo -/
def c44 : IR := (S (R [o 6 (ab false)])
(S (R [o 7 (mv 0),
 o 8 (mv 1),
 o 9 (bo .geq (t 7) (t 8)),
 o 10 (mv 9),
 oT 11 (mv 0) 10,
 oT 12 (mv 2) 10,
 oT 13 (bo .leq (t 11) (t 12)) 10,
 o 14 (.pick (.tmp 10) (.tmp 13) (.const (.bool false))),
 o 6 (av 14)])
(.ret [6])))
def g44 : IFn := ⟨15, [.tmp 6], [4], c44, [], false, none⟩
/- 45 veil/veilref1.ValueMay -/
def c45 : IR := (S (R [o 2 (ab false)])
(S (R [o 3 (mv 0),
 o 4 (cl 77 #[(t 3), (n 0), (n 255)] #[3, 3, 3]),
 o 2 (av 4)])
(.ret [2])))
def g45 : IFn := ⟨5, [.tmp 2], [4], c45, [], false, none⟩
/- 46 veil/veillaw0.SameEvents -/
def d46_1 : IR := D [o 17 (mv 0),
 o 18 (mv 5),
 o 19 (ia 26 17 18),
 o 20 (ld 55 19),
 o 21 (mv 1),
 o 22 (mv 5),
 o 23 (ia 26 21 22),
 o 24 (ld 55 23),
 o 25 (.binOp .neq 55 (.tmp 20) (.tmp 24) 55)] [[], [], [0, 1], [2], [], [], [4, 5], [6], [3, 7]]
def c46_1 : IR := (S (S (R [o 11 (mv 5),
 o 12 (mv 0),
 o 13 (len 12 26),
 o 14 (bo .lss (t 11) (t 13))])
(.cond (t 14)
.skip
(.exit 0 [])))
(S (.block 1 (S d46_1
(.cond (t 25)
(S (R [o 4 (ab false)])
(.ret [4]))
.skip)))
(R [o 15 (mv 5),
 o 16 (bo .add (t 15) (n 1)),
 o 5 (av 16)])))
def c46 : IR := (S (R [o 4 (ab false)])
(S (S (R [o 6 (mv 0),
 o 7 (len 6 26),
 o 8 (mv 1),
 o 9 (len 8 26),
 o 10 (bo .neq (t 7) (t 9))])
(.cond (t 10)
(S (R [o 4 (ab false)])
(.ret [4]))
.skip))
(S (S (R [o 5 (an 0)])
(.block 0 (.loop [0, 1, 5] c46_1)))
(S (R [o 4 (ab true)])
(.ret [4])))))
def g46 : IFn := ⟨26, [.tmp 4], [4], c46, [], false, none⟩
/- 47 veil/veillaw0.SpoilArena -/
def c47_1 : IR := (S (S (R [o 3 (mv 2),
 o 4 (bo .lss (t 3) (n 4))])
(.cond (t 4)
.skip
(.exit 0 [])))
(S (.block 1 (R [o 7 (mv 2),
 o 8 (ia 23 1 7),
 o 9 (ld 22 8),
 o 10 (cl 78 #[(t 9)] #[22])]))
(R [o 5 (mv 2),
 o 6 (bo .add (t 5) (n 1)),
 o 2 (av 6)])))
def c47 : IR := (S (R [o 1 (bx 23 0)])
(S (R [o 2 (an 0)])
(.block 0 (.loop [1, 2] c47_1))))
def g47 : IFn := ⟨11, [], [], c47, [true], false, none⟩
/- 48 veil/veillaw0.SpoilSession -/
def c48 : IR := (S (R [o 1 (bx 52 0)])
(S (R [o 2 (fa 52 1 3),
 o 3 (ld 48 2),
 o 4 (cl 79 #[(t 3)] #[48])])
(S (R [o 5 (fa 52 1 7),
 o 6 (ld 49 5),
 o 7 (cl 80 #[(t 6)] #[49])])
(R [o 8 (fa 52 1 8),
 o 9 (ld 50 8),
 o 10 (cl 81 #[(t 9)] #[50])]))))
def g48 : IFn := ⟨11, [], [], c48, [true], false, none⟩
/- 49 veil/veillaw0.SpoilEvents -/
def c49_1 : IR := (S (S (R [o 3 (mv 2),
 o 4 (mv 0),
 o 5 (len 4 26),
 o 6 (bo .lss (t 3) (t 5))])
(.cond (t 6)
.skip
(.exit 0 [])))
(S (.block 1 (R [o 9 (mv 0),
 o 10 (mv 2),
 o 11 (mv 0),
 o 12 (mv 2),
 o 13 (ia 26 11 12),
 o 14 (fa 55 13 0),
 o 15 (ld 3 14),
 o 16 (bo .xor (t 15) (n 90)),
 o 17 (ia 26 9 10),
 o 18 (fa 55 17 0),
 w (st 3 18 16)]))
(R [o 7 (mv 2),
 o 8 (bo .add (t 7) (n 1)),
 o 2 (av 8)])))
def c49 : IR := (S (R [o 2 (an 0)])
(.block 0 (.loop [0, 2] c49_1)))
def g49 : IFn := ⟨19, [], [], c49, [true], false, none⟩
/- 50 veil/veillaw13.begun -/
def c50 : IR := (S (R [o 0 (al 28)])
(S (R [o 4 (.buildSlice 46 2 #[(0, (.const (.int .i64 5))), (1, (.const (.int .i64 6)))]),
 o 5 (.buildSlice 46 1 #[(0, (.const (.int .i64 7)))]),
 o 6 (.buildSlice 46 1 #[(0, (.const (.int .i64 9)))]),
 o 7 (.build 98 #[(0, (.tmp 4)), (1, (.tmp 5)), (2, (.const (.slice none 0 0))), (3, (.tmp 6))]),
 o 8 (.build 69 #[(0, (.const (.int .i64 2)))]),
 o 9 (.build 69 #[(0, (.const (.int .i64 1)))]),
 o 10 (.build 69 #[(0, (.const (.int .i64 3)))]),
 o 11 (.buildSlice 48 3 #[(0, (.tmp 8)), (1, (.tmp 9)), (2, (.tmp 10))]),
 o 12 (.build 100 #[(0, (.const (.int .i64 3))), (2, (.const (.int .i64 3))), (3, (.tmp 11))]),
 o 13 (.build 69 #[(0, (.const (.int .i64 2))), (3, (.const (.int .i64 1)))]),
 o 14 (.build 69 #[(0, (.const (.int .i64 3))), (2, (.const (.int .i64 1)))]),
 o 15 (.buildSlice 48 2 #[(0, (.tmp 13)), (1, (.tmp 14))]),
 o 16 (.build 100 #[(0, (.const (.int .i64 5))), (1, (.const (.int .i64 1))), (2, (.const (.int .i64 1))), (3, (.tmp 15))]),
 o 17 (.buildSlice 101 2 #[(0, (.tmp 12)), (1, (.tmp 16))]),
 o 18 (.build 104 #[(0, (.tmp 7)), (1, (.const (.int .i64 9))), (2, (.tmp 17))]),
 o 19 (cl 69 #[(t 18)] #[104]),
 o 3 (mv 19),
 o 20 (xt 3 0),
 o 21 (xt 3 1),
 o 1 (al 28),
 w (st 28 1 20),
 o 2 (av 21)])
(S (R [o 22 (ld 28 1),
 w (st 28 0 22)])
(.ret [0]))))
def g50 : IFn := ⟨23, [.cell 0 28], [28], c50, [], false, none⟩
/- 51 veil/veillaw0.SameInsts -/
def d51_1 : IR := D [o 17 (mv 0),
 o 18 (mv 5),
 o 19 (ia 48 17 18),
 o 20 (ld 69 19),
 o 21 (mv 1),
 o 22 (mv 5),
 o 23 (ia 48 21 22),
 o 24 (ld 69 23),
 o 25 (.binOp .neq 69 (.tmp 20) (.tmp 24) 69)] [[], [], [0, 1], [2], [], [], [4, 5], [6], [3, 7]]
def c51_1 : IR := (S (S (R [o 11 (mv 5),
 o 12 (mv 0),
 o 13 (len 12 48),
 o 14 (bo .lss (t 11) (t 13))])
(.cond (t 14)
.skip
(.exit 0 [])))
(S (.block 1 (S d51_1
(.cond (t 25)
(S (R [o 4 (ab false)])
(.ret [4]))
.skip)))
(R [o 15 (mv 5),
 o 16 (bo .add (t 15) (n 1)),
 o 5 (av 16)])))
def c51 : IR := (S (R [o 4 (ab false)])
(S (S (R [o 6 (mv 0),
 o 7 (len 6 48),
 o 8 (mv 1),
 o 9 (len 8 48),
 o 10 (bo .neq (t 7) (t 9))])
(.cond (t 10)
(S (R [o 4 (ab false)])
(.ret [4]))
.skip))
(S (S (R [o 5 (an 0)])
(.block 0 (.loop [0, 1, 5] c51_1)))
(S (R [o 4 (ab true)])
(.ret [4])))))
def g51 : IFn := ⟨26, [.tmp 4], [4], c51, [], false, none⟩
/- 52 veil/veillaw0.SameReads -/
def d52_1 : IR := D [o 17 (mv 0),
 o 18 (mv 5),
 o 19 (ia 49 17 18),
 o 20 (ld 113 19),
 o 21 (mv 1),
 o 22 (mv 5),
 o 23 (ia 49 21 22),
 o 24 (ld 113 23),
 o 25 (.binOp .neq 113 (.tmp 20) (.tmp 24) 113)] [[], [], [0, 1], [2], [], [], [4, 5], [6], [3, 7]]
def c52_1 : IR := (S (S (R [o 11 (mv 5),
 o 12 (mv 0),
 o 13 (len 12 49),
 o 14 (bo .lss (t 11) (t 13))])
(.cond (t 14)
.skip
(.exit 0 [])))
(S (.block 1 (S d52_1
(.cond (t 25)
(S (R [o 4 (ab false)])
(.ret [4]))
.skip)))
(R [o 15 (mv 5),
 o 16 (bo .add (t 15) (n 1)),
 o 5 (av 16)])))
def c52 : IR := (S (R [o 4 (ab false)])
(S (S (R [o 6 (mv 0),
 o 7 (len 6 49),
 o 8 (mv 1),
 o 9 (len 8 49),
 o 10 (bo .neq (t 7) (t 9))])
(.cond (t 10)
(S (R [o 4 (ab false)])
(.ret [4]))
.skip))
(S (S (R [o 5 (an 0)])
(.block 0 (.loop [0, 1, 5] c52_1)))
(S (R [o 4 (ab true)])
(.ret [4])))))
def g52 : IFn := ⟨26, [.tmp 4], [4], c52, [], false, none⟩
/- 53 veil/veillaw0.SameWrites -/
def d53_1 : IR := D [o 17 (mv 0),
 o 18 (mv 5),
 o 19 (ia 50 17 18),
 o 20 (ld 63 19),
 o 21 (mv 1),
 o 22 (mv 5),
 o 23 (ia 50 21 22),
 o 24 (ld 63 23),
 o 25 (.binOp .neq 63 (.tmp 20) (.tmp 24) 63)] [[], [], [0, 1], [2], [], [], [4, 5], [6], [3, 7]]
def c53_1 : IR := (S (S (R [o 11 (mv 5),
 o 12 (mv 0),
 o 13 (len 12 50),
 o 14 (bo .lss (t 11) (t 13))])
(.cond (t 14)
.skip
(.exit 0 [])))
(S (.block 1 (S d53_1
(.cond (t 25)
(S (R [o 4 (ab false)])
(.ret [4]))
.skip)))
(R [o 15 (mv 5),
 o 16 (bo .add (t 15) (n 1)),
 o 5 (av 16)])))
def c53 : IR := (S (R [o 4 (ab false)])
(S (S (R [o 6 (mv 0),
 o 7 (len 6 50),
 o 8 (mv 1),
 o 9 (len 8 50),
 o 10 (bo .neq (t 7) (t 9))])
(.cond (t 10)
(S (R [o 4 (ab false)])
(.ret [4]))
.skip))
(S (S (R [o 5 (an 0)])
(.block 0 (.loop [0, 1, 5] c53_1)))
(S (R [o 4 (ab true)])
(.ret [4])))))
def g53 : IFn := ⟨26, [.tmp 4], [4], c53, [], false, none⟩
/- 54 veil/veilref1.ArenaMay -/
def c54_1 : IR := (S (S (R [o 9 (mv 4),
 o 10 (mv 3),
 o 11 (ia 23 1 10),
 o 12 (ld 22 11),
 o 13 (len 12 22),
 o 14 (bo .lss (t 9) (t 13))])
(.cond (t 14)
.skip
(.exit 2 [1, 3])))
(S (.block 3 (S (R [o 17 (mv 4),
 o 18 (bo .geq (t 17) (n 4)),
 o 19 (mv 18),
 oF 20 (mv 3) 19,
 oF 21 (ia 23 1 20) 19,
 oF 22 (ld 22 21) 19,
 oF 23 (mv 4) 19,
 oF 24 (ia 22 22 23) 19,
 oF 25 (ld 65 24) 19,
 oF 26 (cl 82 #[(t 25)] #[65]) 19,
 oF 27 (.unOp .not 4 (.tmp 26)) 19,
 o 28 (.pick (.tmp 19) (.const (.bool true)) (.tmp 27))])
(.cond (t 28)
(S (R [o 2 (ab false)])
(.ret [2]))
.skip)))
(R [o 15 (mv 4),
 o 16 (bo .add (t 15) (n 1)),
 o 4 (av 16)])))
def c54_2 : IR := (S (S (R [o 5 (mv 3),
 o 6 (bo .lss (t 5) (n 4))])
(.cond (t 6)
.skip
(.exit 0 [])))
(S (.block 1 (S (R [o 4 (an 0)])
(.block 2 (.loop [1, 3, 4] c54_1))))
(R [o 7 (mv 3),
 o 8 (bo .add (t 7) (n 1)),
 o 3 (av 8)])))
def c54 : IR := (S (R [z 1 (bx 23 0),
 o 2 (ab false)])
(S (S (R [o 3 (an 0)])
(.block 0 (.loop [1, 3] c54_2)))
(S (R [o 2 (ab true)])
(.ret [2]))))
def g54 : IFn := ⟨29, [.tmp 2], [4], c54, [], false, none⟩
/- 55 veil/veilref1.ClockMay -/
def c55 : IR := (S (R [o 2 (ab false)])
(S (R [o 3 (mv 0),
 o 4 (cl 77 #[(t 3), (n 0), (n 65535)] #[3, 3, 3]),
 o 2 (av 4)])
(.ret [2])))
def g55 : IFn := ⟨5, [.tmp 2], [4], c55, [], false, none⟩
/- 56 veil/veilref11.sessionMay -/
def c56 : IR := (S (R [z 2 (bx 28 0),
 z 3 (bx 52 1),
 o 4 (ab false)])
(S (S (R [o 5 (fa 52 3 0),
 o 6 (ld 3 5),
 o 7 (fa 52 3 1),
 o 8 (ld 3 7),
 o 9 (fa 52 3 2),
 o 10 (ld 3 9),
 o 11 (fa 52 3 3),
 o 12 (ld 48 11),
 o 13 (.build 100 #[(0, (.tmp 6)), (1, (.tmp 8)), (2, (.tmp 10)), (3, (.tmp 12))]),
 o 14 (cl 83 #[(t 13)] #[100]),
 o 15 (.unOp .not 4 (.tmp 14)),
 o 16 (mv 15),
 oF 17 (fa 28 2 0) 16,
 oF 18 (ld 23 17) 16,
 oF 19 (ld 52 3) 16,
 oF 20 (cl 84 #[(t 18), (t 19)] #[23, 52]) 16,
 oF 21 (.unOp .not 4 (.tmp 20)) 16,
 o 22 (.pick (.tmp 16) (.const (.bool true)) (.tmp 21))])
(.cond (t 22)
(S (R [o 4 (ab false)])
(.ret [4]))
.skip))
(S (S (R [o 23 (fa 52 3 4),
 o 24 (ld 3 23),
 o 25 (cl 44 #[(t 24), (n 0), (n 6)] #[3, 3, 3]),
 o 26 (.unOp .not 4 (.tmp 25)),
 o 27 (mv 26),
 oF 28 (fa 52 3 5) 27,
 oF 29 (ld 3 28) 27,
 oF 30 (fa 52 3 3) 27,
 oF 31 (ld 48 30) 27,
 oF 32 (len 31 48) 27,
 oF 33 (cl 44 #[(t 29), (n 0), (t 32)] #[3, 3, 3]) 27,
 oF 34 (.unOp .not 4 (.tmp 33)) 27,
 o 35 (.pick (.tmp 27) (.const (.bool true)) (.tmp 34)),
 o 36 (mv 35),
 oF 37 (fa 52 3 6) 36,
 oF 38 (ld 24 37) 36,
 oF 39 (cl 85 #[(t 38)] #[24]) 36,
 oF 40 (.unOp .not 4 (.tmp 39)) 36,
 o 41 (.pick (.tmp 36) (.const (.bool true)) (.tmp 40)),
 o 42 (mv 41),
 oF 43 (fa 52 3 7) 42,
 oF 44 (ld 49 43) 42,
 oF 45 (cl 86 #[(t 44)] #[49]) 42,
 oF 46 (.unOp .not 4 (.tmp 45)) 42,
 o 47 (.pick (.tmp 42) (.const (.bool true)) (.tmp 46)),
 o 48 (mv 47),
 oF 49 (fa 52 3 8) 48,
 oF 50 (ld 50 49) 48,
 oF 51 (cl 87 #[(t 50)] #[50]) 48,
 oF 52 (.unOp .not 4 (.tmp 51)) 48,
 o 53 (.pick (.tmp 48) (.const (.bool true)) (.tmp 52))])
(.cond (t 53)
(S (R [o 4 (ab false)])
(.ret [4]))
.skip))
(S (R [o 54 (fa 52 3 9),
 o 55 (ld 3 54),
 o 56 (fa 52 3 8),
 o 57 (ld 50 56),
 o 58 (len 57 50),
 o 59 (cl 44 #[(t 55), (n 0), (t 58)] #[3, 3, 3]),
 o 60 (mv 59),
 oT 61 (fa 52 3 10) 60,
 oT 62 (ld 3 61) 60,
 oT 63 (cl 55 #[(t 62)] #[3]) 60,
 o 64 (.pick (.tmp 60) (.tmp 63) (.const (.bool false))),
 o 65 (mv 64),
 oT 66 (fa 52 3 11) 65,
 oT 67 (ld 3 66) 65,
 oT 68 (cl 55 #[(t 67)] #[3]) 65,
 o 69 (.pick (.tmp 65) (.tmp 68) (.const (.bool false))),
 o 70 (mv 69),
 oT 71 (fa 52 3 12) 70,
 oT 72 (ld 3 71) 70,
 oT 73 (cl 44 #[(t 72), (n 0), (n 5)] #[3, 3, 3]) 70,
 o 74 (.pick (.tmp 70) (.tmp 73) (.const (.bool false))),
 o 75 (mv 74),
 oT 76 (fa 52 3 13) 75,
 oT 77 (ld 3 76) 75,
 oT 78 (cl 45 #[(t 77)] #[3]) 75,
 o 79 (.pick (.tmp 75) (.tmp 78) (.const (.bool false))),
 o 4 (av 79)])
(.ret [4])))))
def g56 : IFn := ⟨80, [.tmp 4], [4], c56, [], false, none⟩
/- 57 veil/veilref1.LabelMay -/
def c57 : IR := (S (R [o 2 (ab false)])
(S (R [o 3 (mv 0),
 o 4 (cl 77 #[(t 3), (n 0), (n 3)] #[3, 3, 3]),
 o 2 (av 4)])
(.ret [2])))
def g57 : IFn := ⟨5, [.tmp 2], [4], c57, [], false, none⟩
/- 58 veil/veilref11.Copy -/
def d58_1 : IR := D [o 18 (fa 28 3 3),
 o 19 (ld 25 18),
 o 20 (fa 28 1 3),
 o 21 (ld 25 20),
 o 22 (mv 4),
 o 23 (ia 25 21 22),
 o 24 (ld 52 23),
 o 25 (cl 89 #[(t 24)] #[52]),
 o 26 (.buildSlice 25 1 #[(0, (.tmp 25))]),
 o 27 (.call { callee := (.builtin .append), args := #[(.tmp 19), (.tmp 26)], argTypes := #[25, 25] }),
 o 28 (fa 28 3 3),
 w (st 25 28 27)] [[], [0], [], [2], [], [3, 4], [5], [6], [7], [1, 8, 7], [0, 1, 2, 3, 4, 5, 6, 7, 8, 9], [10, 9, 9, 0, 1, 2, 3, 4, 5, 6, 7, 8, 9]]
def c58_1 : IR := (S (S (R [o 11 (mv 4),
 o 12 (fa 28 1 3),
 o 13 (ld 25 12),
 o 14 (len 13 25),
 o 15 (bo .lss (t 11) (t 14))])
(.cond (t 15)
.skip
(.exit 0 [1, 2, 3])))
(S (.block 1 d58_1)
(R [o 16 (mv 4),
 o 17 (bo .add (t 16) (n 1)),
 o 4 (av 17)])))
def c58 : IR := (S (R [z 1 (bx 28 0),
 o 2 (al 28)])
(S (R [o 5 (ld 28 1),
 o 3 (al 28),
 w (st 28 3 5)])
(S (R [o 6 (fa 28 1 0),
 o 7 (ld 23 6),
 o 8 (cl 88 #[(t 7)] #[23]),
 o 9 (fa 28 3 0),
 w (st 23 9 8)])
(S (R [o 10 (fa 28 3 3),
 w (.store 25 (.tmp 10) (.const (.slice none 0 0)))])
(S (S (R [o 4 (an 0)])
(.block 0 (.loop [1, 2, 3, 4] c58_1)))
(S (R [o 29 (.buildSlice 26 0 #[]),
 o 30 (fa 28 1 4),
 o 31 (ld 26 30),
 o 32 (.call { callee := (.builtin .append), args := #[(.tmp 29), (.tmp 31)], argTypes := #[26, 26] }),
 o 33 (fa 28 3 4),
 w (st 26 33 32)])
(S (R [o 34 (ld 28 3),
 w (st 28 2 34)])
(.ret [2]))))))))
def g58 : IFn := ⟨35, [.cell 2 28], [28], c58, [], false, none⟩
/- 59 veil/veilref11.run -/
def d59_1 : IR := D [o 62 (ld 28 2),
 o 63 (mv 1),
 o 64 (fa 52 6 3),
 o 65 (ld 48 64),
 o 66 (fa 52 6 5),
 o 67 (ld 3 66),
 o 68 (ia 48 65 67),
 o 69 (fa 69 68 1),
 o 70 (ld 3 69),
 o 71 (cl 18 #[(t 62), (t 63), (n 2), (t 70)] #[28, 3, 3, 3]),
 o 72 (xt 71 0),
 o 73 (xt 71 1),
 w (st 28 4 72),
 o 5 (av 73)] [[], [], [], [2], [], [4], [3, 5], [6], [7], [0, 1, 8], [9], [9], [10, 9, 0, 1, 2, 3, 4, 5, 6, 7, 8, 9, 10, 11], [11, 12, 0, 1, 2, 3, 4, 5, 6, 7, 8, 9, 10, 11, 12]]
def c59 : IR := (S (R [z 2 (bx 28 0),
 o 4 (al 28),
 o 5 (an 0)])
(S (R [o 10 (fa 28 2 3),
 o 11 (ld 25 10),
 o 12 (mv 1),
 o 13 (ia 25 11 12),
 o 14 (ld 52 13),
 o 6 (al 52),
 w (st 52 6 14)])
(S (S (R [o 15 (ld 28 2),
 o 16 (mv 1),
 o 17 (cl 90 #[(t 15), (t 16)] #[28, 3])])
(.block 0 (S (R [o 19 (bo .eql (t 17) (n 2)),
 o 18 (av 19)])
(.cond (t 18)
(S (R [o 21 (ld 28 2),
 o 22 (mv 1),
 o 23 (cl 91 #[(t 21), (t 22)] #[28, 3]),
 o 20 (mv 23),
 o 24 (xt 20 0),
 o 25 (xt 20 1),
 o 7 (av 24),
 o 8 (av 25)])
(S (S (R [o 26 (mv 7)])
(.cond (t 26)
(S (R [o 27 (ld 28 2),
 o 28 (mv 1),
 o 29 (cl 92 #[(t 27), (t 28)] #[28, 3]),
 o 30 (xt 29 0),
 o 31 (xt 29 1),
 w (st 28 4 30),
 o 5 (av 31)])
(.ret [4, 5]))
.skip))
(S (R [o 32 (ld 28 2),
 o 33 (mv 1),
 o 34 (cl 93 #[(t 32), (t 33)] #[28, 3]),
 o 35 (xt 34 0),
 o 36 (xt 34 1),
 w (st 28 4 35),
 o 5 (av 36)])
(.ret [4, 5]))))
(S (R [o 38 (bo .eql (t 17) (n 3)),
 o 37 (av 38)])
(.cond (t 37)
(S (R [o 39 (ld 28 2),
 o 40 (mv 1),
 o 41 (cl 94 #[(t 39), (t 40)] #[28, 3]),
 o 42 (xt 41 0),
 o 43 (xt 41 1),
 w (st 28 4 42),
 o 5 (av 43)])
(.ret [4, 5]))
(S (S (R [o 45 (bo .eql (t 17) (n 0)),
 o 44 (av 45)])
(.cond (t 44)
.skip
(S (R [o 46 (bo .eql (t 17) (n 1)),
 o 44 (av 46)])
(.cond (t 44)
.skip
(R [o 47 (bo .eql (t 17) (n 4)),
 o 44 (av 47)])))))
(.cond (t 44)
(S (R [o 48 (ld 28 2),
 o 49 (mv 1),
 o 50 (cl 95 #[(t 48), (t 49)] #[28, 3]),
 o 51 (xt 50 0),
 o 52 (xt 50 1),
 w (st 28 4 51),
 o 5 (av 52)])
(.ret [4, 5]))
(S (R [o 54 (bo .eql (t 17) (n 5)),
 o 53 (av 54)])
(.cond (t 53)
(S (R [o 55 (ld 28 2),
 o 56 (mv 1),
 o 57 (cl 63 #[(t 55), (t 56)] #[28, 3]),
 o 58 (xt 57 0),
 o 59 (xt 57 1),
 w (st 28 4 58),
 o 5 (av 59)])
(.ret [4, 5]))
(S (R [o 61 (bo .eql (t 17) (n 6)),
 o 60 (av 61)])
(.cond (t 60)
(S d59_1
(.ret [4, 5]))
.skip))))))))))))
(S (S (R [o 74 (fa 52 6 8),
 o 75 (ld 50 74),
 o 76 (fa 52 6 1),
 o 77 (ld 3 76),
 o 78 (cl 96 #[(t 75), (t 77)] #[50, 3]),
 o 79 (.unOp .not 4 (.tmp 78))])
(.cond (t 79)
(S (R [o 80 (ld 28 2),
 o 81 (mv 1),
 o 82 (cl 18 #[(t 80), (t 81), (n 3), (n 0)] #[28, 3, 3, 3]),
 o 83 (xt 82 0),
 o 84 (xt 82 1),
 w (st 28 4 83),
 o 5 (av 84)])
(.ret [4, 5]))
.skip))
(S (R [o 85 (ld 28 2),
 o 86 (cl 58 #[(t 85)] #[28]),
 o 9 (al 28),
 w (st 28 9 86)])
(S (R [o 87 (fa 28 9 3),
 o 88 (ld 25 87),
 o 89 (mv 1),
 o 90 (ia 25 88 89),
 o 91 (fa 52 90 9),
 w (.store 3 (.tmp 91) (.const (.int .i64 0)))])
(S (R [o 92 (fa 28 9 3),
 o 93 (ld 25 92),
 o 94 (mv 1),
 o 95 (ia 25 93 94),
 o 96 (fa 52 95 4),
 w (.store 3 (.tmp 96) (.const (.int .i64 1)))])
(S (S (R [o 97 (fa 52 6 8),
 o 98 (ld 50 97),
 o 99 (len 98 50),
 o 100 (bo .eql (t 99) (n 0))])
(.cond (t 100)
(R [o 101 (fa 28 9 3),
 o 102 (ld 25 101),
 o 103 (mv 1),
 o 104 (ia 25 102 103),
 o 105 (fa 52 104 4),
 w (.store 3 (.tmp 105) (.const (.int .i64 3)))])
.skip))
(S (R [o 106 (ld 28 9),
 w (st 28 4 106),
 o 5 (an 0)])
(.ret [4, 5]))))))))))
def g59 : IFn := ⟨107, [.cell 4 28, .tmp 5], [28, 3], c59, [], false, none⟩
/- 60 veil/veilref11.Grab -/
def d60_1 : IR := D [o 28 (fa 63 7 0),
 o 29 (ld 3 28),
 o 30 (fa 28 2 0),
 o 31 (ia 23 30 29),
 o 32 (ld 22 31),
 o 33 (fa 63 7 1),
 o 34 (ld 3 33),
 o 35 (ia 22 32 34),
 o 36 (ld 65 35),
 o 37 (fa 52 6 0),
 o 38 (ld 3 37),
 o 39 (cl 97 #[(t 36), (t 38)] #[65, 3]),
 o 27 (mv 39),
 o 40 (xt 27 0),
 o 41 (xt 27 1),
 o 8 (al 65),
 w (st 65 8 40),
 o 9 (av 41)] [[], [0], [], [2, 1], [3], [], [5], [4, 6], [7], [], [9], [8, 10], [11], [12], [12], [], [15, 13, 11, 0, 1, 2, 3, 4, 5, 6, 7, 8, 9, 10, 11, 12, 13, 15], [14, 16, 0, 1, 2, 3, 4, 5, 6, 7, 8, 9, 10, 11, 12, 13, 14, 15, 16]]
def d60_2 : IR := D [o 51 (fa 63 7 0),
 o 52 (ld 3 51),
 o 53 (fa 28 10 0),
 o 54 (ia 23 53 52),
 o 55 (ld 22 54),
 o 56 (fa 63 7 1),
 o 57 (ld 3 56),
 o 58 (ld 65 8),
 o 59 (ia 22 55 57),
 w (st 65 59 58)] [[], [0], [], [2, 1], [3], [], [5], [], [4, 6, 0, 1, 2, 3, 4, 5, 6, 7], [8, 7, 0, 1, 2, 3, 4, 5, 6, 7]]
def c60 : IR := (S (R [z 2 (bx 28 0),
 o 4 (al 28),
 o 5 (an 0)])
(S (S (R [o 11 (ld 28 2),
 o 12 (mv 1),
 o 13 (cl 67 #[(t 11), (t 12), (n 1)] #[28, 3, 3]),
 o 14 (.unOp .not 4 (.tmp 13))])
(.cond (t 14)
(S (R [o 15 (.build 28 #[]),
 w (st 28 4 15),
 o 5 (an 1800)])
(.ret [4, 5]))
.skip))
(S (R [o 16 (fa 28 2 3),
 o 17 (ld 25 16),
 o 18 (mv 1),
 o 19 (ia 25 17 18),
 o 20 (ld 52 19),
 o 6 (al 52),
 w (st 52 6 20)])
(S (R [o 21 (fa 52 6 8),
 o 22 (ld 50 21),
 o 23 (fa 52 6 9),
 o 24 (ld 3 23),
 o 25 (ia 50 22 24),
 o 26 (ld 63 25),
 o 7 (al 63),
 w (st 63 7 26)])
(S d60_1
(S (S (R [o 42 (mv 9),
 o 43 (bo .neq (t 42) (n 0))])
(.cond (t 43)
(S (R [o 44 (ld 28 2),
 o 45 (mv 1),
 o 46 (cl 16 #[(t 44), (t 45), (n 3)] #[28, 3, 3]),
 o 47 (xt 46 0),
 o 48 (xt 46 1),
 w (st 28 4 47),
 o 5 (av 48)])
(.ret [4, 5]))
.skip))
(S (R [o 49 (ld 28 2),
 o 50 (cl 58 #[(t 49)] #[28]),
 o 10 (al 28),
 w (st 28 10 50)])
(S d60_2
(S (R [o 60 (fa 28 10 3),
 o 61 (ld 25 60),
 o 62 (mv 1),
 o 63 (ia 25 61 62),
 o 64 (fa 52 63 9),
 o 65 (ld 3 64),
 o 66 (bo .add (t 65) (n 1)),
 o 67 (ia 25 61 62),
 o 68 (fa 52 67 9),
 w (st 3 68 66)])
(S (S (R [o 69 (fa 52 6 9),
 o 70 (ld 3 69),
 o 71 (bo .add (t 70) (n 1)),
 o 72 (fa 52 6 8),
 o 73 (ld 50 72),
 o 74 (len 73 50),
 o 75 (bo .eql (t 71) (t 74))])
(.cond (t 75)
(R [o 76 (fa 28 10 3),
 o 77 (ld 25 76),
 o 78 (mv 1),
 o 79 (ia 25 77 78),
 o 80 (fa 52 79 4),
 w (.store 3 (.tmp 80) (.const (.int .i64 2)))])
.skip))
(S (R [o 81 (ld 28 10),
 w (st 28 4 81),
 o 5 (an 0)])
(.ret [4, 5]))))))))))))
def g60 : IFn := ⟨82, [.cell 4 28, .tmp 5], [28, 3], c60, [], false, none⟩
/- 61 veil/veilref11.Stamp -/
def d61_1 : IR := D [o 25 (fa 28 2 1),
 o 26 (ld 24 25),
 o 27 (fa 28 2 3),
 o 28 (ld 25 27),
 o 29 (mv 1),
 o 30 (ia 25 28 29),
 o 31 (fa 52 30 1),
 o 32 (ld 3 31),
 o 33 (fa 28 2 2),
 o 34 (ld 3 33),
 o 35 (cl 98 #[(t 26), (t 32), (t 34)] #[24, 3, 3]),
 o 24 (mv 35),
 o 36 (xt 24 0),
 o 37 (xt 24 1),
 o 38 (xt 24 2),
 o 6 (al 24),
 w (st 24 6 36),
 o 7 (av 37),
 o 8 (av 38)] [[], [0], [], [2], [], [3, 4], [5], [6], [], [8], [1, 7, 9], [10], [11], [11], [11], [], [15, 12, 10, 0, 1, 2, 3, 4, 5, 6, 7, 8, 9, 10, 11, 12, 15], [13, 16, 0, 1, 2, 3, 4, 5, 6, 7, 8, 9, 10, 11, 12, 13, 15, 16], [14, 17, 0, 1, 2, 3, 4, 5, 6, 7, 8, 9, 10, 11, 12, 13, 14, 15, 16, 17]]
def c61 : IR := (S (R [z 2 (bx 28 0),
 o 4 (al 28),
 o 5 (an 0)])
(S (S (R [o 10 (ld 28 2),
 o 11 (mv 1),
 o 12 (cl 40 #[(t 10), (t 11)] #[28, 3]),
 o 13 (.unOp .not 4 (.tmp 12)),
 o 14 (mv 13),
 oF 15 (fa 28 2 3) 14,
 oF 16 (ld 25 15) 14,
 oF 17 (mv 1) 14,
 oF 18 (ia 25 16 17) 14,
 oF 19 (fa 52 18 4) 14,
 oF 20 (ld 3 19) 14,
 oF 21 (bo .neq (t 20) (n 2)) 14,
 o 22 (.pick (.tmp 14) (.const (.bool true)) (.tmp 21))])
(.cond (t 22)
(S (R [o 23 (.build 28 #[]),
 w (st 28 4 23),
 o 5 (an 1900)])
(.ret [4, 5]))
.skip))
(S d61_1
(S (S (R [o 39 (mv 8),
 o 40 (bo .neq (t 39) (n 0))])
(.cond (t 40)
(S (R [o 41 (ld 28 2),
 o 42 (mv 1),
 o 43 (cl 18 #[(t 41), (t 42), (n 5), (n 0)] #[28, 3, 3, 3]),
 o 44 (xt 43 0),
 o 45 (xt 43 1),
 w (st 28 4 44),
 o 5 (av 45)])
(.ret [4, 5]))
.skip))
(S (R [o 46 (ld 28 2),
 o 47 (cl 58 #[(t 46)] #[28]),
 o 9 (al 28),
 w (st 28 9 47)])
(S (R [o 48 (ld 24 6),
 o 49 (fa 28 9 1),
 w (st 24 49 48)])
(S (R [o 50 (fa 28 9 3),
 o 51 (ld 25 50),
 o 52 (mv 1),
 o 53 (mv 7),
 o 54 (ia 25 51 52),
 o 55 (fa 52 54 10),
 w (st 3 55 53)])
(S (R [o 56 (fa 28 9 3),
 o 57 (ld 25 56),
 o 58 (mv 1),
 o 59 (ia 25 57 58),
 o 60 (fa 52 59 4),
 w (.store 3 (.tmp 60) (.const (.int .i64 3)))])
(S (R [o 61 (ld 28 9),
 w (st 28 4 61),
 o 5 (an 0)])
(.ret [4, 5]))))))))))
def g61 : IFn := ⟨62, [.cell 4 28, .tmp 5], [28, 3], c61, [], false, none⟩
/- 62 veil/veilref11.Check -/
def c62 : IR := (S (R [z 2 (bx 28 0),
 o 4 (al 28),
 o 5 (an 0)])
(S (S (R [o 10 (ld 28 2),
 o 11 (mv 1),
 o 12 (cl 40 #[(t 10), (t 11)] #[28, 3]),
 o 13 (.unOp .not 4 (.tmp 12)),
 o 14 (mv 13),
 oF 15 (fa 28 2 3) 14,
 oF 16 (ld 25 15) 14,
 oF 17 (mv 1) 14,
 oF 18 (ia 25 16 17) 14,
 oF 19 (fa 52 18 4) 14,
 oF 20 (ld 3 19) 14,
 oF 21 (bo .neq (t 20) (n 3)) 14,
 o 22 (.pick (.tmp 14) (.const (.bool true)) (.tmp 21))])
(.cond (t 22)
(S (R [o 23 (.build 28 #[]),
 w (st 28 4 23),
 o 5 (an 2000)])
(.ret [4, 5]))
.skip))
(S (R [o 24 (fa 28 2 3),
 o 25 (ld 25 24),
 o 26 (mv 1),
 o 27 (ia 25 25 26),
 o 28 (ld 52 27),
 o 6 (al 52),
 w (st 52 6 28)])
(S (R [o 30 (fa 28 2 0),
 o 31 (ld 23 30),
 o 32 (fa 52 6 7),
 o 33 (ld 49 32),
 o 34 (fa 52 6 0),
 o 35 (ld 3 34),
 o 36 (cl 99 #[(t 31), (t 33), (t 35)] #[23, 49, 3]),
 o 29 (mv 36),
 o 37 (xt 29 0),
 o 38 (xt 29 1),
 o 7 (av 37),
 o 8 (av 38)])
(S (S (R [o 39 (mv 7),
 o 40 (.unOp .not 4 (.tmp 39))])
(.cond (t 40)
(S (R [o 41 (ld 28 2),
 o 42 (mv 1),
 o 43 (cl 16 #[(t 41), (t 42), (n 3)] #[28, 3, 3]),
 o 44 (xt 43 0),
 o 45 (xt 43 1),
 w (st 28 4 44),
 o 5 (av 45)])
(.ret [4, 5]))
.skip))
(S (S (R [o 46 (fa 52 6 8),
 o 47 (ld 50 46),
 o 48 (len 47 50),
 o 49 (bo .eql (t 48) (n 0))])
(.cond (t 49)
(S (R [o 50 (ld 28 2),
 o 51 (mv 1),
 o 52 (cl 18 #[(t 50), (t 51), (n 1), (n 0)] #[28, 3, 3, 3]),
 o 53 (xt 52 0),
 o 54 (xt 52 1),
 w (st 28 4 53),
 o 5 (av 54)])
(.ret [4, 5]))
.skip))
(S (R [o 55 (ld 28 2),
 o 56 (cl 58 #[(t 55)] #[28]),
 o 9 (al 28),
 w (st 28 9 56)])
(S (R [o 57 (fa 28 9 3),
 o 58 (ld 25 57),
 o 59 (mv 1),
 o 60 (ia 25 58 59),
 o 61 (fa 52 60 9),
 w (.store 3 (.tmp 61) (.const (.int .i64 0)))])
(S (R [o 62 (fa 28 9 3),
 o 63 (ld 25 62),
 o 64 (mv 1),
 o 65 (ia 25 63 64),
 o 66 (fa 52 65 4),
 w (.store 3 (.tmp 66) (.const (.int .i64 4)))])
(S (R [o 67 (ld 28 9),
 w (st 28 4 67),
 o 5 (an 0)])
(.ret [4, 5])))))))))))
def g62 : IFn := ⟨68, [.cell 4 28, .tmp 5], [28, 3], c62, [], false, none⟩
/- 63 veil/veilref11.Park -/
def d63_1 : IR := D [o 53 (ld 28 6),
 o 54 (mv 1),
 o 55 (fa 28 2 3),
 o 56 (ld 25 55),
 o 57 (mv 1),
 o 58 (ia 25 56 57),
 o 59 (fa 52 58 7),
 o 60 (ld 49 59),
 o 61 (len 60 49),
 o 62 (cl 42 #[(t 53), (t 54), (n 4), (t 61)] #[28, 3, 3, 3]),
 w (st 28 4 62),
 o 5 (an 0)] [[], [], [], [2], [], [3, 4], [5], [6], [7], [0, 1, 8], [9, 9, 0, 1, 2, 3, 4, 5, 6, 7, 8, 9], [10, 0, 1, 2, 3, 4, 5, 6, 7, 8, 9, 10]]
def d63_2 : IR := D [o 64 (fa 28 2 0),
 o 65 (ld 23 64),
 o 66 (fa 28 2 3),
 o 67 (ld 25 66),
 o 68 (mv 1),
 o 69 (ia 25 67 68),
 o 70 (fa 52 69 7),
 o 71 (ld 49 70),
 o 72 (cl 100 #[(t 65), (t 71)] #[23, 49]),
 o 63 (mv 72),
 o 73 (xt 63 0),
 o 74 (xt 63 1),
 o 7 (av 73),
 o 8 (av 74)] [[], [0], [], [2], [], [3, 4], [5], [6], [1, 7], [8], [9], [9], [10, 8, 0, 1, 2, 3, 4, 5, 6, 7, 8, 9, 10], [11, 12, 0, 1, 2, 3, 4, 5, 6, 7, 8, 9, 10, 11, 12]]
def c63 : IR := (S (R [z 2 (bx 28 0),
 o 4 (al 28),
 o 5 (an 0)])
(S (S (R [o 9 (ld 28 2),
 o 10 (mv 1),
 o 11 (cl 40 #[(t 9), (t 10)] #[28, 3]),
 o 12 (.unOp .not 4 (.tmp 11)),
 o 13 (mv 12),
 oF 14 (fa 28 2 3) 13,
 oF 15 (ld 25 14) 13,
 oF 16 (mv 1) 13,
 oF 17 (ia 25 15 16) 13,
 oF 18 (fa 52 17 4) 13,
 oF 19 (ld 3 18) 13,
 oF 20 (bo .neq (t 19) (n 5)) 13,
 oF 21 (mv 20) 13,
 oT 22 (ld 28 2) 21,
 oT 23 (mv 1) 21,
 oT 24 (cl 90 #[(t 22), (t 23)] #[28, 3]) 21,
 oT 25 (bo .neq (t 24) (n 5)) 21,
 oF 26 (.pick (.tmp 21) (.tmp 25) (.const (.bool false))) 13,
 o 27 (.pick (.tmp 13) (.const (.bool true)) (.tmp 26))])
(.cond (t 27)
(S (R [o 28 (.build 28 #[]),
 w (st 28 4 28),
 o 5 (an 2200)])
(.ret [4, 5]))
.skip))
(S (R [o 29 (ld 28 2),
 o 30 (cl 58 #[(t 29)] #[28]),
 o 6 (al 28),
 w (st 28 6 30)])
(S (S (R [o 31 (fa 28 2 3),
 o 32 (ld 25 31),
 o 33 (mv 1),
 o 34 (ia 25 32 33),
 o 35 (fa 52 34 4),
 o 36 (ld 3 35),
 o 37 (bo .eql (t 36) (n 0))])
(.cond (t 37)
(S (R [o 38 (fa 28 6 3),
 o 39 (ld 25 38),
 o 40 (mv 1),
 o 41 (ia 25 39 40),
 o 42 (fa 52 41 8),
 w (.store 50 (.tmp 42) (.const (.slice none 0 0)))])
(S (R [o 43 (fa 28 6 3),
 o 44 (ld 25 43),
 o 45 (mv 1),
 o 46 (ia 25 44 45),
 o 47 (fa 52 46 9),
 w (.store 3 (.tmp 47) (.const (.int .i64 0)))])
(S (R [o 48 (fa 28 6 3),
 o 49 (ld 25 48),
 o 50 (mv 1),
 o 51 (ia 25 49 50),
 o 52 (fa 52 51 4),
 w (.store 3 (.tmp 52) (.const (.int .i64 5)))])
(S d63_1
(.ret [4, 5])))))
.skip))
(S d63_2
(S (S (R [o 75 (mv 7)])
(.cond (t 75)
(S (R [o 76 (ld 28 2),
 o 77 (mv 1),
 o 78 (cl 16 #[(t 76), (t 77), (n 5)] #[28, 3, 3]),
 o 79 (xt 78 0),
 o 80 (xt 78 1),
 w (st 28 4 79),
 o 5 (av 80)])
(.ret [4, 5]))
.skip))
(S (R [o 81 (ld 28 6),
 w (st 28 4 81),
 o 5 (an 0)])
(.ret [4, 5]))))))))
def g63 : IFn := ⟨82, [.cell 4 28, .tmp 5], [28, 3], c63, [], false, none⟩
/- 64 veil/veillaw0.SameWords -/
def d64_1 : IR := D [o 17 (mv 0),
 o 18 (mv 5),
 o 19 (ia 22 17 18),
 o 20 (ld 65 19),
 o 21 (mv 1),
 o 22 (mv 5),
 o 23 (ia 22 21 22),
 o 24 (ld 65 23),
 o 25 (.binOp .neq 65 (.tmp 20) (.tmp 24) 65)] [[], [], [0, 1], [2], [], [], [4, 5], [6], [3, 7]]
def c64_1 : IR := (S (S (R [o 11 (mv 5),
 o 12 (mv 0),
 o 13 (len 12 22),
 o 14 (bo .lss (t 11) (t 13))])
(.cond (t 14)
.skip
(.exit 0 [])))
(S (.block 1 (S d64_1
(.cond (t 25)
(S (R [o 4 (ab false)])
(.ret [4]))
.skip)))
(R [o 15 (mv 5),
 o 16 (bo .add (t 15) (n 1)),
 o 5 (av 16)])))
def c64 : IR := (S (R [o 4 (ab false)])
(S (S (R [o 6 (mv 0),
 o 7 (len 6 22),
 o 8 (mv 1),
 o 9 (len 8 22),
 o 10 (bo .neq (t 7) (t 9))])
(.cond (t 10)
(S (R [o 4 (ab false)])
(.ret [4]))
.skip))
(S (S (R [o 5 (an 0)])
(.block 0 (.loop [0, 1, 5] c64_1)))
(S (R [o 4 (ab true)])
(.ret [4])))))
def g64 : IFn := ⟨26, [.tmp 4], [4], c64, [], false, none⟩
/- 65 veil/mach.Is -/
def c65 : IR := (S (R [o 6 (ab false)])
(S (R [o 7 (mv 0),
 o 8 (mv 1),
 o 9 (cl 36 #[(t 7), (t 8)] #[74, 3]),
 o 10 (mv 9),
 oT 11 (mv 0) 10,
 oT 12 (nc 11) 10,
 oT 13 (fa 28 12 3) 10,
 oT 14 (ld 25 13) 10,
 oT 15 (mv 1) 10,
 oT 16 (ia 25 14 15) 10,
 oT 17 (fa 52 16 4) 10,
 oT 18 (ld 3 17) 10,
 oT 19 (mv 2) 10,
 oT 20 (bo .eql (t 18) (t 19)) 10,
 o 21 (.pick (.tmp 10) (.tmp 20) (.const (.bool false))),
 o 6 (av 21)])
(.ret [6])))
def g65 : IFn := ⟨22, [.tmp 6], [4], c65, [], false, none⟩
/- 66 veil/word.Write -/
def c66 : IR := (S (R [z 3 (bx 65 0),
 o 6 (al 65),
 o 7 (an 0)])
(S (R [o 9 (mv 1),
 o 10 (mv 2),
 o 11 (.build 65 #[(0, (.tmp 9)), (1, (.tmp 10))]),
 o 8 (al 65),
 w (st 65 8 11)])
(S (S (R [o 12 (ld 65 3),
 o 13 (cl 101 #[(t 12)] #[65]),
 o 14 (.unOp .not 4 (.tmp 13)),
 o 15 (mv 14),
 oF 16 (ld 65 8) 15,
 oF 17 (cl 101 #[(t 16)] #[65]) 15,
 oF 18 (.unOp .not 4 (.tmp 17)) 15,
 o 19 (.pick (.tmp 15) (.const (.bool true)) (.tmp 18))])
(.cond (t 19)
(S (R [o 20 (.build 65 #[]),
 w (st 65 6 20),
 o 7 (an 300)])
(.ret [6, 7]))
.skip))
(S (R [o 21 (ld 65 8),
 w (st 65 6 21),
 o 7 (an 0)])
(.ret [6, 7])))))
def g66 : IFn := ⟨22, [.cell 6 65, .tmp 7], [65, 30], c66, [], false, none⟩
/- 67 veil/veilref11.left -/
def d67_1 : IR := D [o 7 (ld 28 3),
 o 8 (mv 1),
 o 9 (cl 40 #[(t 7), (t 8)] #[28, 3]),
 o 10 (mv 9),
 oT 11 (fa 28 3 3) 10,
 oT 12 (ld 25 11) 10,
 oT 13 (mv 1) 10,
 oT 14 (ia 25 12 13) 10,
 oT 15 (fa 52 14 4) 10,
 oT 16 (ld 3 15) 10,
 oT 17 (mv 2) 10,
 oT 18 (bo .eql (t 16) (t 17)) 10,
 o 19 (.pick (.tmp 10) (.tmp 18) (.const (.bool false))),
 o 20 (mv 19),
 oT 21 (fa 28 3 3) 20,
 oT 22 (ld 25 21) 20,
 oT 23 (mv 1) 20,
 oT 24 (ia 25 22 23) 20,
 oT 25 (fa 52 24 9) 20,
 oT 26 (ld 3 25) 20,
 oT 27 (fa 28 3 3) 20,
 oT 28 (ld 25 27) 20,
 oT 29 (mv 1) 20,
 oT 30 (ia 25 28 29) 20,
 oT 31 (fa 52 30 8) 20,
 oT 32 (ld 50 31) 20,
 oT 33 (len 32 50) 20,
 oT 34 (bo .lss (t 26) (t 33)) 20,
 o 35 (.pick (.tmp 20) (.tmp 34) (.const (.bool false))),
 o 6 (av 35)] [[], [], [0, 1], [2, 2], [3], [4, 3], [3], [5, 6, 3], [7, 3], [8, 3], [3], [9, 10, 3], [3, 11], [12, 3], [13], [14, 13], [13], [15, 16, 13], [17, 13], [18, 13], [13], [20, 13], [13], [21, 22, 13], [23, 13], [24, 13], [25, 13], [19, 26, 13], [13, 27], [28, 13, 0, 1, 2, 3, 4, 5, 6, 7, 8, 9, 10, 11, 12, 13, 14, 15, 16, 17, 18, 19, 20, 21, 22, 23, 24, 25, 26, 27, 28]]
def c67 : IR := (S (R [z 3 (bx 28 0),
 o 6 (ab false)])
(S d67_1
(.ret [6])))
def g67 : IFn := ⟨36, [.tmp 6], [4], c67, [], false, none⟩
/- 68 veil/veilref1.Write -/
def c68 : IR := (S (R [z 3 (bx 65 0),
 o 6 (al 65),
 o 7 (an 0)])
(S (R [o 9 (mv 1),
 o 10 (mv 2),
 o 11 (.build 65 #[(0, (.tmp 9)), (1, (.tmp 10))]),
 o 8 (al 65),
 w (st 65 8 11)])
(S (S (R [o 12 (ld 65 3),
 o 13 (cl 82 #[(t 12)] #[65]),
 o 14 (.unOp .not 4 (.tmp 13)),
 o 15 (mv 14),
 oF 16 (ld 65 8) 15,
 oF 17 (cl 82 #[(t 16)] #[65]) 15,
 oF 18 (.unOp .not 4 (.tmp 17)) 15,
 o 19 (.pick (.tmp 15) (.const (.bool true)) (.tmp 18))])
(.cond (t 19)
(S (R [o 20 (.build 65 #[]),
 w (st 65 6 20),
 o 7 (an 300)])
(.ret [6, 7]))
.skip))
(S (R [o 21 (ld 65 8),
 w (st 65 6 21),
 o 7 (an 0)])
(.ret [6, 7])))))
def g68 : IFn := ⟨22, [.cell 6 65, .tmp 7], [65, 3], c68, [], false, none⟩
/- 69 veil/veilref11.New -/
def c69_1 : IR := (S (S (R [o 20 (mv 7),
 o 21 (fa 104 1 2),
 o 22 (ld 101 21),
 o 23 (len 22 101),
 o 24 (bo .lss (t 20) (t 23))])
(.cond (t 24)
.skip
(.exit 0 [2, 5, 6])))
(S (.block 1 (S (R [o 28 (fa 104 1 2),
 o 29 (ld 101 28),
 o 30 (mv 7),
 o 31 (ia 101 29 30),
 o 32 (ld 100 31),
 o 33 (cl 103 #[(t 32)] #[100]),
 o 27 (mv 33),
 o 34 (xt 27 0),
 o 35 (xt 27 1),
 o 8 (al 52),
 w (st 52 8 34),
 o 9 (av 35)])
(S (S (R [o 36 (mv 9),
 o 37 (bo .neq (t 36) (n 0))])
(.cond (t 37)
(S (R [o 38 (.build 28 #[]),
 w (st 28 2 38),
 o 3 (an 1200)])
(.ret [2, 3]))
.skip))
(R [o 39 (fa 28 6 3),
 o 40 (ld 25 39),
 o 41 (ld 52 8),
 o 42 (.buildSlice 25 1 #[(0, (.tmp 41))]),
 o 43 (.call { callee := (.builtin .append), args := #[(.tmp 40), (.tmp 42)], argTypes := #[25, 25] }),
 o 44 (fa 28 6 3),
 w (st 25 44 43)]))))
(R [o 25 (mv 7),
 o 26 (bo .add (t 25) (n 1)),
 o 7 (av 26)])))
def c69 : IR := (S (R [z 1 (bx 104 0),
 o 2 (al 28),
 o 3 (an 0)])
(S (R [o 11 (fa 104 1 0),
 o 12 (ld 98 11),
 o 13 (cl 102 #[(t 12)] #[98]),
 o 10 (mv 13),
 o 14 (xt 10 0),
 o 15 (xt 10 1),
 o 4 (al 23),
 w (st 23 4 14),
 o 5 (av 15)])
(S (R [o 16 (ld 23 4),
 o 17 (fa 104 1 1),
 o 18 (ld 3 17),
 o 19 (.build 28 #[(0, (.tmp 16)), (2, (.tmp 18))]),
 o 6 (al 28),
 w (st 28 6 19)])
(S (S (R [o 7 (an 0)])
(.block 0 (.loop [1, 2, 5, 6, 7] c69_1)))
(S (S (R [o 45 (mv 5),
 o 46 (bo .neq (t 45) (n 0)),
 o 47 (mv 46),
 oF 48 (ld 28 6) 47,
 oF 49 (cl 26 #[(t 48)] #[28]) 47,
 oF 50 (.unOp .not 4 (.tmp 49)) 47,
 o 51 (.pick (.tmp 47) (.const (.bool true)) (.tmp 50))])
(.cond (t 51)
(S (R [o 52 (.build 28 #[]),
 w (st 28 2 52),
 o 3 (an 1200)])
(.ret [2, 3]))
.skip))
(S (R [o 53 (ld 28 6),
 w (st 28 2 53),
 o 3 (an 0)])
(.ret [2, 3])))))))
def g69 : IFn := ⟨54, [.cell 2 28, .tmp 3], [28, 3], c69, [], false, none⟩
/- 70 veil/mach.May -/
def d70_1 : IR := D [o 5 (fa 28 1 0),
 o 6 (ld 23 5),
 o 7 (cl 104 #[(t 6)] #[23]),
 o 8 (.unOp .not 4 (.tmp 7)),
 o 9 (mv 8),
 oF 10 (fa 28 1 1) 9,
 oF 11 (fa 28 1 2) 9,
 oF 12 (ld 3 11) 9,
 oF 13 (cl 105 #[(t 10), (t 12)] #[134, 3]) 9,
 oF 14 (.unOp .not 4 (.tmp 13)) 9,
 o 15 (.pick (.tmp 9) (.const (.bool true)) (.tmp 14)),
 o 16 (mv 15),
 oF 17 (fa 28 1 1) 16,
 oF 18 (.slice 24 (.tmp 17) none none none) 16,
 oF 19 (cl 106 #[(t 18)] #[46]) 16,
 oF 20 (fa 28 1 2) 16,
 oF 21 (ld 3 20) 16,
 oF 22 (bo .gtr (t 19) (t 21)) 16,
 o 23 (.pick (.tmp 16) (.const (.bool true)) (.tmp 22)),
 o 24 (mv 23),
 oF 25 (fa 28 1 3) 24,
 oF 26 (ld 25 25) 24,
 oF 27 (len 26 25) 24,
 oF 28 (bo .gtr (t 27) (n 4)) 24,
 o 29 (.pick (.tmp 24) (.const (.bool true)) (.tmp 28)),
 o 30 (mv 29),
 oF 31 (fa 28 1 4) 30,
 oF 32 (ld 26 31) 30,
 oF 33 (len 32 26) 30,
 oF 34 (bo .gtr (t 33) (n 512)) 30,
 o 35 (.pick (.tmp 30) (.const (.bool true)) (.tmp 34))] [[], [0], [1], [2], [3, 2], [4], [4], [6, 4], [5, 7, 4, 4], [8, 4], [4, 9], [10, 8], [11], [12, 11], [13, 11, 11], [11], [15, 11], [14, 16, 11], [11, 17], [18, 14], [19], [20, 19], [21, 19], [22, 19], [19, 23], [24, 19], [25], [26, 25], [27, 25], [28, 25], [25, 29]]
def d70_2 : IR := D [o 42 (mv 3),
 o 43 (bo .gtr (t 42) (n 0)),
 o 44 (mv 43),
 oT 45 (fa 28 1 3) 44,
 oT 46 (ld 25 45) 44,
 oT 47 (mv 3) 44,
 oT 48 (bo .sub (t 47) (n 1)) 44,
 oT 49 (ia 25 46 48) 44,
 oT 50 (fa 52 49 0) 44,
 oT 51 (ld 3 50) 44,
 oT 52 (fa 28 1 3) 44,
 oT 53 (ld 25 52) 44,
 oT 54 (mv 3) 44,
 oT 55 (ia 25 53 54) 44,
 oT 56 (fa 52 55 0) 44,
 oT 57 (ld 3 56) 44,
 oT 58 (bo .geq (t 51) (t 57)) 44,
 o 59 (.pick (.tmp 44) (.tmp 58) (.const (.bool false)))] [[], [0], [1], [2], [3, 2], [2], [5, 2], [4, 6, 2], [7, 2], [8, 2], [2], [10, 2], [2], [11, 12, 2], [13, 2], [14, 2], [9, 15, 2], [2, 16]]
def c70_1 : IR := (S (R [o 40 (bo .lss (t 39) (t 38))])
(S (.cond (t 40)
.skip
(.exit 0 [1]))
(S (.block 1 (S (R [o 41 (mv 39),
 o 3 (av 41)])
(S d70_2
(.cond (t 59)
(S (R [o 2 (ab false)])
(.ret [2]))
.skip))))
(R [o 60 (bo .add (t 39) (n 1)),
 o 39 (mv 60)]))))
def c70 : IR := (S (R [z 1 (bx 28 0),
 o 2 (ab false)])
(S (S d70_1
(.cond (t 35)
(S (R [o 2 (ab false)])
(.ret [2]))
.skip))
(S (S (R [o 36 (fa 28 1 3),
 o 37 (ld 25 36),
 o 38 (len 37 25),
 o 39 (.move (.const (.int .i64 0)))])
(.block 0 (.loop [1, 38, 39] c70_1)))
(S (R [o 4 (.assign (.func 107))])
(S (R [o 61 (fa 28 1 3),
 o 62 (ld 25 61),
 o 63 (fa 28 1 0),
 o 64 (.build 141 #[(0, (.tmp 63))]),
 o 65 (.makeFunc (Go.Fn.func 110) #[(.tmp 64)] #[]),
 o 66 (cl 109 #[(t 62), (t 65)] #[25, 138]),
 o 67 (mv 66),
 oT 68 (fa 28 1 4) 67,
 oT 69 (ld 26 68) 67,
 oT 70 (mv 4) 67,
 oT 71 (cl 111 #[(t 69), (t 70)] #[26, 136]) 67,
 o 72 (.pick (.tmp 67) (.tmp 71) (.const (.bool false))),
 o 2 (av 72)])
(.ret [2]))))))
def g70 : IFn := ⟨73, [.tmp 2], [4], c70, [], false, none⟩
/- 71 veil/arena.Copy -/
def c71_1 : IR := (S (R [o 5 (bo .lss (t 4) (n 4))])
(S (.cond (t 5)
.skip
(.exit 0 [1, 2]))
(S (.block 1 (S (R [o 6 (mv 4),
 o 3 (av 6)])
(R [o 7 (mv 3),
 o 8 (mv 3),
 o 9 (ia 23 1 8),
 o 10 (ld 22 9),
 o 11 (cl 112 #[(t 10)] #[22]),
 o 12 (ia 23 1 7),
 w (st 22 12 11)])))
(R [o 13 (bo .add (t 4) (n 1)),
 o 4 (mv 13)]))))
def c71 : IR := (S (R [o 1 (bx 23 0),
 o 2 (al 23)])
(S (S (R [o 4 (.move (.const (.int .i64 0)))])
(.block 0 (.loop [1, 2, 4] c71_1)))
(S (R [o 14 (ld 23 1),
 w (st 23 2 14)])
(.ret [2]))))
def g71 : IFn := ⟨15, [.cell 2 23], [23], c71, [], false, none⟩
/- 72 slices.Clone[[]veil/api.Session,veil/api.Session] -/
def c72 : IR := (S (R [o 2 (.assign (.const (.slice none 0 0)))])
(S (S (R [o 3 (mv 0),
 o 4 (.binOp .eql 25 (.tmp 3) (.const (.slice none 0 0)) 25)])
(.cond (t 4)
(S (R [o 2 (.assign (.const (.slice none 0 0)))])
(.ret [2]))
.skip))
(S (R [o 5 (.buildSlice 25 0 #[]),
 o 6 (mv 0),
 o 7 (.call { callee := (.builtin .append), args := #[(.tmp 5), (.tmp 6)], argTypes := #[25, 25] }),
 o 2 (av 7)])
(.ret [2]))))
def g72 : IFn := ⟨8, [.tmp 2], [25], c72, [], false, some (17, 184)⟩
/- 73 slices.Clone[[]veil/api.Event,veil/api.Event] -/
def c73 : IR := (S (R [o 2 (.assign (.const (.slice none 0 0)))])
(S (S (R [o 3 (mv 0),
 o 4 (.binOp .eql 26 (.tmp 3) (.const (.slice none 0 0)) 26)])
(.cond (t 4)
(S (R [o 2 (.assign (.const (.slice none 0 0)))])
(.ret [2]))
.skip))
(S (R [o 5 (.buildSlice 26 0 #[]),
 o 6 (mv 0),
 o 7 (.call { callee := (.builtin .append), args := #[(.tmp 5), (.tmp 6)], argTypes := #[26, 26] }),
 o 2 (av 7)])
(.ret [2]))))
def g73 : IFn := ⟨8, [.tmp 2], [26], c73, [], false, some (4, 32)⟩
/- 74 veil/mach.session -/
def d74_1 : IR := D [o 3 (fa 52 1 3),
 o 4 (ld 48 3),
 o 5 (cl 113 #[(t 4)] #[48]),
 o 6 (fa 52 1 7),
 o 7 (ld 49 6),
 o 8 (cl 114 #[(t 7)] #[49]),
 o 9 (fa 52 1 8),
 o 10 (ld 50 9),
 o 11 (cl 115 #[(t 10)] #[50]),
 o 12 (fa 52 1 3),
 w (st 48 12 5),
 o 13 (fa 52 1 7),
 w (st 49 13 8),
 o 14 (fa 52 1 8),
 w (st 50 14 11)] [[], [0], [1], [], [3], [4, 2], [], [6], [7, 5], [0, 1, 2, 3, 4, 6, 7], [9, 2, 8, 0, 1, 2, 3, 4, 6, 7], [0, 1, 2, 3, 4, 5, 6, 7, 9, 10], [11, 5, 10, 0, 1, 2, 3, 4, 5, 6, 7, 9, 10], [0, 1, 2, 3, 4, 5, 6, 7, 8, 9, 10, 11, 12], [13, 8, 12, 0, 1, 2, 3, 4, 5, 6, 7, 8, 9, 10, 11, 12]]
def c74 : IR := (S (R [o 1 (bx 52 0),
 o 2 (al 52)])
(S d74_1
(S (R [o 15 (ld 52 1),
 w (st 52 2 15)])
(.ret [2]))))
def g74 : IFn := ⟨16, [.cell 2 52], [52], c74, [], false, none⟩
/- 75 veil/undo.free -/
def c75_1 : IR := (S (S (R [o 7 (mv 5),
 o 8 (mv 0),
 o 9 (mv 4),
 o 10 (nc 8),
 o 11 (fa 28 10 0),
 o 12 (ia 23 11 9),
 o 13 (ld 22 12),
 o 14 (len 13 22),
 o 15 (bo .lss (t 7) (t 14))])
(.cond (t 15)
.skip
(.exit 0 [0, 1, 4])))
(.block 1 (S (S (R [o 16 (mv 0),
 o 17 (mv 4),
 o 18 (nc 16),
 o 19 (fa 28 18 0),
 o 20 (ia 23 19 17),
 o 21 (ld 22 20),
 o 22 (mv 5),
 o 23 (ia 22 21 22),
 o 6 (av 23)])
(S (R [o 24 (mv 6),
 o 25 (nc 24),
 o 26 (fa 65 25 2),
 o 27 (ld 3 26),
 o 28 (mv 1),
 o 29 (bo .add (t 28) (n 1)),
 o 30 (bo .eql (t 27) (t 29))])
(.cond (t 30)
(R [o 31 (mv 6),
 o 32 (nc 31),
 o 33 (fa 65 32 2),
 w (.store 3 (.tmp 33) (.const (.int .i64 0)))])
.skip)))
(R [o 34 (mv 5),
 o 35 (bo .add (t 34) (n 1)),
 o 5 (av 35)]))))
def c75_2 : IR := (S (R [o 4 (an 0),
 o 5 (an 0)])
(S (.label 0)
(S (.block 0 (.loop [0, 1, 4, 5] c75_1))
(S (R [o 36 (mv 4),
 o 37 (bo .add (t 36) (n 1)),
 o 4 (av 37)])
(S (R [o 38 (mv 4),
 o 39 (bo .lss (t 38) (n 4))])
(.cond (t 39)
(S (R [o 5 (an 0)])
(.goto 0))
.skip))))))
def c75 : IR := (.scope [0, 1, 4, 5] c75_2)
def g75 : IFn := ⟨40, [], [], c75, [], true, none⟩
/- 76 veil/word.in -/
def c76 : IR := (S (R [o 4 (ab false)])
(S (R [o 5 (mv 0),
 o 6 (bo .geq (t 5) (n 0)),
 o 7 (mv 6),
 oT 8 (mv 0) 7,
 oT 9 (mv 1) 7,
 oT 10 (bo .leq (t 8) (t 9)) 7,
 o 11 (.pick (.tmp 7) (.tmp 10) (.const (.bool false))),
 o 4 (av 11)])
(.ret [4])))
def g76 : IFn := ⟨12, [.tmp 4], [4], c76, [], false, none⟩
/- 77 veil/veilref1.upTo -/
def c77 : IR := (S (R [o 6 (ab false)])
(S (R [o 7 (mv 0),
 o 8 (mv 1),
 o 9 (bo .geq (t 7) (t 8)),
 o 10 (mv 9),
 oT 11 (mv 0) 10,
 oT 12 (mv 2) 10,
 oT 13 (bo .leq (t 11) (t 12)) 10,
 o 14 (.pick (.tmp 10) (.tmp 13) (.const (.bool false))),
 o 6 (av 14)])
(.ret [6])))
def g77 : IFn := ⟨15, [.tmp 6], [4], c77, [], false, none⟩
/- 78 veil/veillaw0.SpoilWords -/
def c78_1 : IR := (S (S (R [o 3 (mv 2),
 o 4 (mv 0),
 o 5 (len 4 22),
 o 6 (bo .lss (t 3) (t 5))])
(.cond (t 6)
.skip
(.exit 0 [])))
(S (.block 1 (R [o 9 (mv 0),
 o 10 (mv 2),
 o 11 (mv 0),
 o 12 (mv 2),
 o 13 (ia 22 11 12),
 o 14 (fa 65 13 0),
 o 15 (ld 3 14),
 o 16 (bo .xor (t 15) (n 90)),
 o 17 (ia 22 9 10),
 o 18 (fa 65 17 0),
 w (st 3 18 16)]))
(R [o 7 (mv 2),
 o 8 (bo .add (t 7) (n 1)),
 o 2 (av 8)])))
def c78 : IR := (S (R [o 2 (an 0)])
(.block 0 (.loop [0, 2] c78_1)))
def g78 : IFn := ⟨19, [], [], c78, [true], false, none⟩
/- 79 veil/veillaw0.SpoilInsts -/
def c79_1 : IR := (S (S (R [o 3 (mv 2),
 o 4 (mv 0),
 o 5 (len 4 48),
 o 6 (bo .lss (t 3) (t 5))])
(.cond (t 6)
.skip
(.exit 0 [])))
(S (.block 1 (R [o 9 (mv 0),
 o 10 (mv 2),
 o 11 (mv 0),
 o 12 (mv 2),
 o 13 (ia 48 11 12),
 o 14 (fa 69 13 1),
 o 15 (ld 3 14),
 o 16 (bo .xor (t 15) (n 90)),
 o 17 (ia 48 9 10),
 o 18 (fa 69 17 1),
 w (st 3 18 16)]))
(R [o 7 (mv 2),
 o 8 (bo .add (t 7) (n 1)),
 o 2 (av 8)])))
def c79 : IR := (S (R [o 2 (an 0)])
(.block 0 (.loop [0, 2] c79_1)))
def g79 : IFn := ⟨19, [], [], c79, [true], false, none⟩
/- 80 veil/veillaw0.SpoilReads -/
def c80_1 : IR := (S (S (R [o 3 (mv 2),
 o 4 (mv 0),
 o 5 (len 4 49),
 o 6 (bo .lss (t 3) (t 5))])
(.cond (t 6)
.skip
(.exit 0 [])))
(S (.block 1 (R [o 9 (mv 0),
 o 10 (mv 2),
 o 11 (mv 0),
 o 12 (mv 2),
 o 13 (ia 49 11 12),
 o 14 (fa 113 13 1),
 o 15 (ld 3 14),
 o 16 (bo .xor (t 15) (n 90)),
 o 17 (ia 49 9 10),
 o 18 (fa 113 17 1),
 w (st 3 18 16)]))
(R [o 7 (mv 2),
 o 8 (bo .add (t 7) (n 1)),
 o 2 (av 8)])))
def c80 : IR := (S (R [o 2 (an 0)])
(.block 0 (.loop [0, 2] c80_1)))
def g80 : IFn := ⟨19, [], [], c80, [true], false, none⟩
/- 81 veil/veillaw0.SpoilWrites -/
def c81_1 : IR := (S (S (R [o 3 (mv 2),
 o 4 (mv 0),
 o 5 (len 4 50),
 o 6 (bo .lss (t 3) (t 5))])
(.cond (t 6)
.skip
(.exit 0 [])))
(S (.block 1 (R [o 9 (mv 0),
 o 10 (mv 2),
 o 11 (mv 0),
 o 12 (mv 2),
 o 13 (ia 50 11 12),
 o 14 (fa 63 13 1),
 o 15 (ld 3 14),
 o 16 (bo .xor (t 15) (n 90)),
 o 17 (ia 50 9 10),
 o 18 (fa 63 17 1),
 w (st 3 18 16)]))
(R [o 7 (mv 2),
 o 8 (bo .add (t 7) (n 1)),
 o 2 (av 8)])))
def c81 : IR := (S (R [o 2 (an 0)])
(.block 0 (.loop [0, 2] c81_1)))
def g81 : IFn := ⟨19, [], [], c81, [true], false, none⟩
/- 82 veil/veilref1.WordMay -/
def c82 : IR := (S (R [z 1 (bx 65 0),
 o 2 (ab false)])
(S (R [o 3 (fa 65 1 0),
 o 4 (ld 3 3),
 o 5 (cl 45 #[(t 4)] #[3]),
 o 6 (mv 5),
 oT 7 (fa 65 1 1) 6,
 oT 8 (ld 3 7) 6,
 oT 9 (cl 55 #[(t 8)] #[3]) 6,
 o 10 (.pick (.tmp 6) (.tmp 9) (.const (.bool false))),
 o 11 (mv 10),
 oT 12 (fa 65 1 2) 11,
 oT 13 (ld 3 12) 11,
 oT 14 (cl 77 #[(t 13), (n 0), (n 255)] #[3, 3, 3]) 11,
 o 15 (.pick (.tmp 11) (.tmp 14) (.const (.bool false))),
 o 2 (av 15)])
(.ret [2])))
def g82 : IFn := ⟨16, [.tmp 2], [4], c82, [], false, none⟩
/- 83 veil/veilref11.StartMay -/
def c83 : IR := (S (R [z 1 (bx 100 0),
 o 2 (ab false)])
(S (R [o 3 (fa 100 1 0),
 o 4 (ld 3 3),
 o 5 (cl 116 #[(t 4)] #[3]),
 o 6 (mv 5),
 oT 7 (fa 100 1 1) 6,
 oT 8 (ld 3 7) 6,
 oT 9 (cl 57 #[(t 8)] #[3]) 6,
 o 10 (.pick (.tmp 6) (.tmp 9) (.const (.bool false))),
 o 11 (mv 10),
 oT 12 (fa 100 1 2) 11,
 oT 13 (ld 3 12) 11,
 oT 14 (cl 57 #[(t 13)] #[3]) 11,
 o 15 (.pick (.tmp 11) (.tmp 14) (.const (.bool false))),
 o 16 (mv 15),
 oT 17 (fa 100 1 1) 16,
 oT 18 (ld 3 17) 16,
 oT 19 (fa 100 1 2) 16,
 oT 20 (ld 3 19) 16,
 oT 21 (cl 117 #[(t 18), (t 20)] #[3, 3]) 16,
 o 22 (.pick (.tmp 16) (.tmp 21) (.const (.bool false))),
 o 23 (mv 22),
 oT 24 (fa 100 1 3) 23,
 oT 25 (ld 48 24) 23,
 oT 26 (cl 118 #[(t 25)] #[48]) 23,
 o 27 (.pick (.tmp 23) (.tmp 26) (.const (.bool false))),
 o 2 (av 27)])
(.ret [2])))
def g83 : IFn := ⟨28, [.tmp 2], [4], c83, [], false, none⟩
/- 84 veil/veilref11.words -/
def d84_1 : IR := D [o 21 (mv 6),
 o 22 (bo .eql (t 21) (n 2)),
 o 23 (mv 22),
 oF 24 (mv 6) 23,
 oF 25 (bo .eql (t 24) (n 3)) 23,
 o 26 (.pick (.tmp 23) (.const (.bool true)) (.tmp 25)),
 o 27 (mv 26),
 oT 28 (ld 23 2) 27,
 oT 29 (fa 52 3 3) 27,
 oT 30 (ld 48 29) 27,
 oT 31 (mv 5) 27,
 oT 32 (ia 48 30 31) 27,
 oT 33 (fa 69 32 2) 27,
 oT 34 (ld 3 33) 27,
 oT 35 (fa 52 3 3) 27,
 oT 36 (ld 48 35) 27,
 oT 37 (mv 5) 27,
 oT 38 (ia 48 36 37) 27,
 oT 39 (fa 69 38 3) 27,
 oT 40 (ld 3 39) 27,
 oT 41 (cl 119 #[(t 28), (t 34), (t 40)] #[23, 3, 3]) 27,
 oT 42 (.unOp .not 4 (.tmp 41)) 27,
 o 43 (.pick (.tmp 27) (.tmp 42) (.const (.bool false)))] [[], [0], [1], [2], [3, 2], [2, 4], [5, 2], [6], [6], [8, 6], [6], [9, 10, 6], [11, 6], [12, 6], [6], [14, 6], [6], [15, 16, 6], [17, 6], [18, 6], [7, 13, 19, 6, 6], [20, 6], [6, 21]]
def c84_1 : IR := (S (S (R [o 8 (mv 5),
 o 9 (fa 52 3 3),
 o 10 (ld 48 9),
 o 11 (len 10 48),
 o 12 (bo .lss (t 8) (t 11))])
(.cond (t 12)
.skip
(.exit 0 [2, 3])))
(S (.block 1 (S (R [o 15 (fa 52 3 3),
 o 16 (ld 48 15),
 o 17 (mv 5),
 o 18 (ia 48 16 17),
 o 19 (fa 69 18 0),
 o 20 (ld 3 19),
 o 6 (av 20)])
(S d84_1
(.cond (t 43)
(S (R [o 4 (ab false)])
(.ret [4]))
.skip))))
(R [o 13 (mv 5),
 o 14 (bo .add (t 13) (n 1)),
 o 5 (av 14)])))
def d84_2 : IR := D [o 51 (ld 23 2),
 o 52 (fa 52 3 8),
 o 53 (ld 50 52),
 o 54 (mv 7),
 o 55 (ia 50 53 54),
 o 56 (fa 63 55 0),
 o 57 (ld 3 56),
 o 58 (fa 52 3 8),
 o 59 (ld 50 58),
 o 60 (mv 7),
 o 61 (ia 50 59 60),
 o 62 (fa 63 61 1),
 o 63 (ld 3 62),
 o 64 (cl 119 #[(t 51), (t 57), (t 63)] #[23, 3, 3]),
 o 65 (.unOp .not 4 (.tmp 64))] [[], [], [1], [], [2, 3], [4], [5], [], [7], [], [8, 9], [10], [11], [0, 6, 12], [13]]
def c84_2 : IR := (S (S (R [o 44 (mv 7),
 o 45 (fa 52 3 8),
 o 46 (ld 50 45),
 o 47 (len 46 50),
 o 48 (bo .lss (t 44) (t 47))])
(.cond (t 48)
.skip
(.exit 2 [2, 3])))
(S (.block 3 (S d84_2
(.cond (t 65)
(S (R [o 4 (ab false)])
(.ret [4]))
.skip)))
(R [o 49 (mv 7),
 o 50 (bo .add (t 49) (n 1)),
 o 7 (av 50)])))
def c84 : IR := (S (R [z 2 (bx 23 0),
 z 3 (bx 52 1),
 o 4 (ab false)])
(S (S (R [o 5 (an 0)])
(.block 0 (.loop [2, 3, 5] c84_1)))
(S (S (R [o 7 (an 0)])
(.block 2 (.loop [2, 3, 7] c84_2)))
(S (R [o 66 (ld 23 2),
 o 67 (fa 52 3 7),
 o 68 (ld 49 67),
 o 69 (cl 120 #[(t 66), (t 68)] #[23, 49]),
 o 4 (av 69)])
(.ret [4])))))
def g84 : IFn := ⟨70, [.tmp 4], [4], c84, [], false, none⟩
/- 85 veil/veilref1.RegsMay -/
def c85_1 : IR := (S (S (R [o 4 (mv 3),
 o 5 (bo .lss (t 4) (n 4))])
(.cond (t 5)
.skip
(.exit 0 [])))
(S (.block 1 (S (R [o 8 (mv 3),
 o 9 (ia 24 1 8),
 o 10 (ld 3 9),
 o 11 (cl 45 #[(t 10)] #[3]),
 o 12 (.unOp .not 4 (.tmp 11))])
(.cond (t 12)
(S (R [o 2 (ab false)])
(.ret [2]))
.skip)))
(R [o 6 (mv 3),
 o 7 (bo .add (t 6) (n 1)),
 o 3 (av 7)])))
def c85 : IR := (S (R [z 1 (bx 24 0),
 o 2 (ab false)])
(S (S (R [o 3 (an 0)])
(.block 0 (.loop [1, 3] c85_1)))
(S (R [o 2 (ab true)])
(.ret [2]))))
def g85 : IFn := ⟨13, [.tmp 2], [4], c85, [], false, none⟩
/- 86 veil/veilref1.ReadsMay -/
def d86_1 : IR := D [o 11 (mv 0),
 o 12 (mv 3),
 o 13 (ia 49 11 12),
 o 14 (fa 113 13 0),
 o 15 (ld 3 14),
 o 16 (mv 0),
 o 17 (mv 3),
 o 18 (ia 49 16 17),
 o 19 (fa 113 18 1),
 o 20 (ld 3 19),
 o 21 (cl 121 #[(t 15), (t 20)] #[3, 3]),
 o 22 (.unOp .not 4 (.tmp 21)),
 o 23 (mv 22),
 oF 24 (mv 0) 23,
 oF 25 (mv 3) 23,
 oF 26 (ia 49 24 25) 23,
 oF 27 (fa 113 26 2) 23,
 oF 28 (ld 3 27) 23,
 oF 29 (cl 55 #[(t 28)] #[3]) 23,
 oF 30 (.unOp .not 4 (.tmp 29)) 23,
 o 31 (.pick (.tmp 23) (.const (.bool true)) (.tmp 30))] [[], [], [0, 1], [2], [3], [], [], [5, 6], [7], [8], [4, 9], [10], [11, 10], [12], [12], [13, 14, 12], [15, 12], [16, 12], [17, 12, 12], [18, 12], [12, 19]]
def d86_2 : IR := D [o 37 (mv 0),
 o 38 (mv 4),
 o 39 (ia 49 37 38),
 o 40 (fa 113 39 0),
 o 41 (ld 3 40),
 o 42 (mv 0),
 o 43 (mv 3),
 o 44 (ia 49 42 43),
 o 45 (fa 113 44 0),
 o 46 (ld 3 45),
 o 47 (bo .eql (t 41) (t 46)),
 o 48 (mv 47),
 oT 49 (mv 0) 48,
 oT 50 (mv 4) 48,
 oT 51 (ia 49 49 50) 48,
 oT 52 (fa 113 51 1) 48,
 oT 53 (ld 3 52) 48,
 oT 54 (mv 0) 48,
 oT 55 (mv 3) 48,
 oT 56 (ia 49 54 55) 48,
 oT 57 (fa 113 56 1) 48,
 oT 58 (ld 3 57) 48,
 oT 59 (bo .eql (t 53) (t 58)) 48,
 o 60 (.pick (.tmp 48) (.tmp 59) (.const (.bool false)))] [[], [], [0, 1], [2], [3], [], [], [5, 6], [7], [8], [4, 9], [10], [11], [11], [12, 13, 11], [14, 11], [15, 11], [11], [11], [17, 18, 11], [19, 11], [20, 11], [16, 21, 11], [11, 22]]
def c86_1 : IR := (S (S (R [o 32 (mv 4),
 o 33 (mv 3),
 o 34 (bo .lss (t 32) (t 33))])
(.cond (t 34)
.skip
(.exit 2 [0, 3])))
(S (.block 3 (S d86_2
(.cond (t 60)
(S (R [o 2 (ab false)])
(.ret [2]))
.skip)))
(R [o 35 (mv 4),
 o 36 (bo .add (t 35) (n 1)),
 o 4 (av 36)])))
def c86_2 : IR := (S (S (R [o 5 (mv 3),
 o 6 (mv 0),
 o 7 (len 6 49),
 o 8 (bo .lss (t 5) (t 7))])
(.cond (t 8)
.skip
(.exit 0 [0])))
(S (.block 1 (S (S d86_1
(.cond (t 31)
(S (R [o 2 (ab false)])
(.ret [2]))
.skip))
(S (R [o 4 (an 0)])
(.block 2 (.loop [0, 3, 4] c86_1)))))
(R [o 9 (mv 3),
 o 10 (bo .add (t 9) (n 1)),
 o 3 (av 10)])))
def c86 : IR := (S (R [o 2 (ab false)])
(S (S (R [o 3 (an 0)])
(.block 0 (.loop [0, 3] c86_2)))
(S (R [o 61 (mv 0),
 o 62 (len 61 49),
 o 63 (bo .leq (t 62) (n 16)),
 o 2 (av 63)])
(.ret [2]))))
def g86 : IFn := ⟨64, [.tmp 2], [4], c86, [], false, none⟩
/- 87 veil/veilref1.WritesMay -/
def d87_1 : IR := D [o 10 (mv 0),
 o 11 (mv 3),
 o 12 (ia 50 10 11),
 o 13 (fa 63 12 0),
 o 14 (ld 3 13),
 o 15 (mv 0),
 o 16 (mv 3),
 o 17 (ia 50 15 16),
 o 18 (fa 63 17 1),
 o 19 (ld 3 18),
 o 20 (cl 121 #[(t 14), (t 19)] #[3, 3]),
 o 21 (.unOp .not 4 (.tmp 20)),
 o 22 (mv 21),
 oF 23 (mv 0) 22,
 oF 24 (mv 3) 22,
 oF 25 (ia 50 23 24) 22,
 oF 26 (fa 63 25 2) 22,
 oF 27 (ld 3 26) 22,
 oF 28 (cl 45 #[(t 27)] #[3]) 22,
 oF 29 (.unOp .not 4 (.tmp 28)) 22,
 o 30 (.pick (.tmp 22) (.const (.bool true)) (.tmp 29)),
 o 31 (mv 30),
 oF 32 (mv 3) 31,
 oF 33 (bo .gtr (t 32) (n 0)) 31,
 oF 34 (mv 33) 31,
 oT 35 (mv 0) 34,
 oT 36 (mv 3) 34,
 oT 37 (ia 50 35 36) 34,
 oT 38 (fa 63 37 0) 34,
 oT 39 (ld 3 38) 34,
 oT 40 (mv 0) 34,
 oT 41 (mv 3) 34,
 oT 42 (ia 50 40 41) 34,
 oT 43 (fa 63 42 1) 34,
 oT 44 (ld 3 43) 34,
 oT 45 (cl 122 #[(t 39), (t 44)] #[3, 3]) 34,
 oT 46 (mv 0) 34,
 oT 47 (mv 3) 34,
 oT 48 (bo .sub (t 47) (n 1)) 34,
 oT 49 (ia 50 46 48) 34,
 oT 50 (fa 63 49 0) 34,
 oT 51 (ld 3 50) 34,
 oT 52 (mv 0) 34,
 oT 53 (mv 3) 34,
 oT 54 (bo .sub (t 53) (n 1)) 34,
 oT 55 (ia 50 52 54) 34,
 oT 56 (fa 63 55 1) 34,
 oT 57 (ld 3 56) 34,
 oT 58 (cl 122 #[(t 51), (t 57)] #[3, 3]) 34,
 oT 59 (bo .leq (t 45) (t 58)) 34,
 oF 60 (.pick (.tmp 34) (.tmp 59) (.const (.bool false))) 31,
 o 61 (.pick (.tmp 31) (.const (.bool true)) (.tmp 60))] [[], [], [0, 1], [2], [3], [], [], [5, 6], [7], [8], [4, 9], [10], [11, 10], [12], [12], [13, 14, 12], [15, 12], [16, 12], [17, 12, 12], [18, 12], [12, 19], [20, 18], [21], [22, 21], [23, 21, 21], [24], [24], [25, 26, 24], [27, 24], [28, 24], [24], [24], [30, 31, 24], [32, 24], [33, 24], [29, 34, 24, 24], [24], [24], [37, 24], [36, 38, 24], [39, 24], [40, 24], [24], [24], [43, 24], [42, 44, 24], [45, 24], [46, 24], [41, 47, 35, 24], [35, 48, 24], [24, 49, 21], [21, 50]]
def c87_1 : IR := (S (S (R [o 4 (mv 3),
 o 5 (mv 0),
 o 6 (len 5 50),
 o 7 (bo .lss (t 4) (t 6))])
(.cond (t 7)
.skip
(.exit 0 [0])))
(S (.block 1 (S d87_1
(.cond (t 61)
(S (R [o 2 (ab false)])
(.ret [2]))
.skip)))
(R [o 8 (mv 3),
 o 9 (bo .add (t 8) (n 1)),
 o 3 (av 9)])))
def c87 : IR := (S (R [o 2 (ab false)])
(S (S (R [o 3 (an 0)])
(.block 0 (.loop [0, 3] c87_1)))
(S (R [o 62 (mv 0),
 o 63 (len 62 50),
 o 64 (bo .leq (t 63) (n 16)),
 o 2 (av 64)])
(.ret [2]))))
def g87 : IFn := ⟨65, [.tmp 2], [4], c87, [], false, none⟩
/- 88 veil/veilref1.CopyArena -/
def c88_1 : IR := (S (S (R [o 5 (mv 4),
 o 6 (bo .lss (t 5) (n 4))])
(.cond (t 6)
.skip
(.exit 0 [2, 3])))
(S (.block 1 (R [o 9 (mv 4),
 o 10 (.buildSlice 22 0 #[]),
 o 11 (mv 4),
 o 12 (ia 23 1 11),
 o 13 (ld 22 12),
 o 14 (.call { callee := (.builtin .append), args := #[(.tmp 10), (.tmp 13)], argTypes := #[22, 22] }),
 o 15 (ia 23 3 9),
 w (st 22 15 14)]))
(R [o 7 (mv 4),
 o 8 (bo .add (t 7) (n 1)),
 o 4 (av 8)])))
def c88 : IR := (S (R [z 1 (bx 23 0),
 o 2 (al 23)])
(S (R [o 3 (al 23)])
(S (S (R [o 4 (an 0)])
(.block 0 (.loop [1, 2, 3, 4] c88_1)))
(S (R [o 16 (ld 23 3),
 w (st 23 2 16)])
(.ret [2])))))
def g88 : IFn := ⟨17, [.cell 2 23], [23], c88, [], false, none⟩
/- 89 veil/veilref11.copySession -/
def c89 : IR := (S (R [o 1 (bx 52 0),
 o 2 (al 52)])
(S (R [o 3 (.buildSlice 48 0 #[]),
 o 4 (fa 52 1 3),
 o 5 (ld 48 4),
 o 6 (.call { callee := (.builtin .append), args := #[(.tmp 3), (.tmp 5)], argTypes := #[48, 48] }),
 o 7 (fa 52 1 3),
 w (st 48 7 6)])
(S (R [o 8 (.buildSlice 49 0 #[]),
 o 9 (fa 52 1 7),
 o 10 (ld 49 9),
 o 11 (.call { callee := (.builtin .append), args := #[(.tmp 8), (.tmp 10)], argTypes := #[49, 49] }),
 o 12 (fa 52 1 7),
 w (st 49 12 11)])
(S (R [o 13 (.buildSlice 50 0 #[]),
 o 14 (fa 52 1 8),
 o 15 (ld 50 14),
 o 16 (.call { callee := (.builtin .append), args := #[(.tmp 13), (.tmp 15)], argTypes := #[50, 50] }),
 o 17 (fa 52 1 8),
 w (st 50 17 16)])
(S (R [o 18 (ld 52 1),
 w (st 52 2 18)])
(.ret [2]))))))
def g89 : IFn := ⟨19, [.cell 2 52], [52], c89, [], false, none⟩
/- 90 veil/veilref11.running -/
def c90 : IR := (S (R [z 2 (bx 28 0),
 o 4 (an 0)])
(S (R [o 6 (fa 28 2 3),
 o 7 (ld 25 6),
 o 8 (mv 1),
 o 9 (ia 25 7 8),
 o 10 (ld 52 9),
 o 5 (al 52),
 w (st 52 5 10)])
(S (S (R [o 11 (fa 52 5 4),
 o 12 (ld 3 11),
 o 13 (bo .neq (t 12) (n 0)),
 o 14 (mv 13),
 oF 15 (fa 52 5 5) 14,
 oF 16 (ld 3 15) 14,
 oF 17 (fa 52 5 3) 14,
 oF 18 (ld 48 17) 14,
 oF 19 (len 18 48) 14,
 oF 20 (bo .geq (t 16) (t 19)) 14,
 o 21 (.pick (.tmp 14) (.const (.bool true)) (.tmp 20))])
(.cond (t 21)
(S (R [o 4 (an (-1))])
(.ret [4]))
.skip))
(S (R [o 22 (fa 52 5 3),
 o 23 (ld 48 22),
 o 24 (fa 52 5 5),
 o 25 (ld 3 24),
 o 26 (ia 48 23 25),
 o 27 (fa 69 26 0),
 o 28 (ld 3 27),
 o 4 (av 28)])
(.ret [4])))))
def g90 : IFn := ⟨29, [.tmp 4], [3], c90, [], false, none⟩
/- 91 veil/veilref11.Needs -/
def d91_1 : IR := D [o 22 (fa 52 6 3),
 o 23 (ld 48 22),
 o 24 (fa 52 6 5),
 o 25 (ld 3 24),
 o 26 (ia 48 23 25),
 o 27 (fa 69 26 2),
 o 28 (ld 3 27),
 o 29 (fa 52 6 1),
 o 30 (ld 3 29),
 o 31 (cl 117 #[(t 28), (t 30)] #[3, 3]),
 o 32 (.unOp .not 4 (.tmp 31)),
 o 4 (av 32),
 o 5 (an 0)] [[], [0], [], [2], [1, 3], [4], [5], [], [7], [6, 8], [9], [10, 9, 0, 1, 2, 3, 4, 5, 6, 7, 8, 9, 10], [11, 0, 1, 2, 3, 4, 5, 6, 7, 8, 9, 10, 11]]
def c91 : IR := (S (R [z 2 (bx 28 0),
 o 4 (ab false),
 o 5 (an 0)])
(S (S (R [o 7 (ld 28 2),
 o 8 (mv 1),
 o 9 (cl 40 #[(t 7), (t 8)] #[28, 3]),
 o 10 (.unOp .not 4 (.tmp 9)),
 o 11 (mv 10),
 oF 12 (ld 28 2) 11,
 oF 13 (mv 1) 11,
 oF 14 (cl 90 #[(t 12), (t 13)] #[28, 3]) 11,
 oF 15 (bo .neq (t 14) (n 2)) 11,
 o 16 (.pick (.tmp 11) (.const (.bool true)) (.tmp 15))])
(.cond (t 16)
(S (R [o 4 (ab false),
 o 5 (an 1400)])
(.ret [4, 5]))
.skip))
(S (R [o 17 (fa 28 2 3),
 o 18 (ld 25 17),
 o 19 (mv 1),
 o 20 (ia 25 18 19),
 o 21 (ld 52 20),
 o 6 (al 52),
 w (st 52 6 21)])
(S d91_1
(.ret [4, 5])))))
def g91 : IFn := ⟨33, [.tmp 4, .tmp 5], [4, 3], c91, [], false, none⟩
/- 92 veil/veilref11.Drift -/
def d92_1 : IR := D [o 29 (fa 52 8 1),
 o 30 (ld 3 29),
 o 31 (fa 52 8 3),
 o 32 (ld 48 31),
 o 33 (fa 52 8 5),
 o 34 (ld 3 33),
 o 35 (ia 48 32 34),
 o 36 (fa 69 35 2),
 o 37 (ld 3 36),
 o 38 (bo .or (t 30) (t 37)),
 o 9 (av 38)] [[], [0], [], [2], [], [4], [3, 5], [6], [7], [1, 8], [9, 0, 1, 2, 3, 4, 5, 6, 7, 8, 9]]
def c92 : IR := (S (R [z 2 (bx 28 0),
 o 4 (al 28),
 o 5 (an 0)])
(S (R [o 12 (ld 28 2),
 o 13 (mv 1),
 o 14 (cl 91 #[(t 12), (t 13)] #[28, 3]),
 o 11 (mv 14),
 o 15 (xt 11 0),
 o 16 (xt 11 1),
 o 6 (av 15),
 o 7 (av 16)])
(S (S (R [o 17 (mv 7),
 o 18 (bo .neq (t 17) (n 0)),
 o 19 (mv 18),
 oF 20 (mv 6) 19,
 oF 21 (.unOp .not 4 (.tmp 20)) 19,
 o 22 (.pick (.tmp 19) (.const (.bool true)) (.tmp 21))])
(.cond (t 22)
(S (R [o 23 (.build 28 #[]),
 w (st 28 4 23),
 o 5 (an 1400)])
(.ret [4, 5]))
.skip))
(S (R [o 24 (fa 28 2 3),
 o 25 (ld 25 24),
 o 26 (mv 1),
 o 27 (ia 25 25 26),
 o 28 (ld 52 27),
 o 8 (al 52),
 w (st 52 8 28)])
(S d92_1
(S (S (R [o 39 (mv 9),
 o 40 (fa 52 8 2),
 o 41 (ld 3 40),
 o 42 (cl 117 #[(t 39), (t 41)] #[3, 3]),
 o 43 (.unOp .not 4 (.tmp 42))])
(.cond (t 43)
(S (R [o 44 (ld 28 2),
 o 45 (mv 1),
 o 46 (cl 18 #[(t 44), (t 45), (n 4), (n 0)] #[28, 3, 3, 3]),
 o 47 (xt 46 0),
 o 48 (xt 46 1),
 w (st 28 4 47),
 o 5 (av 48)])
(.ret [4, 5]))
.skip))
(S (R [o 49 (ld 28 2),
 o 50 (cl 58 #[(t 49)] #[28]),
 o 51 (mv 1),
 o 52 (mv 9),
 o 53 (cl 42 #[(t 50), (t 51), (n 2), (t 52)] #[28, 3, 3, 3]),
 o 10 (al 28),
 w (st 28 10 53)])
(S (R [o 54 (fa 28 10 3),
 o 55 (ld 25 54),
 o 56 (mv 1),
 o 57 (mv 9),
 o 58 (ia 25 55 56),
 o 59 (fa 52 58 1),
 w (st 3 59 57)])
(S (R [o 60 (ld 28 10),
 w (st 28 4 60),
 o 5 (an 0)])
(.ret [4, 5]))))))))))
def g92 : IFn := ⟨61, [.cell 4 28, .tmp 5], [28, 3], c92, [], false, none⟩
/- 93 veil/veilref11.Fetch -/
def d93_1 : IR := D [o 55 (fa 69 9 2),
 o 56 (ld 3 55),
 o 57 (fa 28 2 0),
 o 58 (ia 23 57 56),
 o 59 (ld 22 58),
 o 60 (fa 69 9 3),
 o 61 (ld 3 60),
 o 62 (ia 22 59 61),
 o 63 (ld 65 62),
 o 13 (al 65),
 w (st 65 13 63)] [[], [0], [], [2, 1], [3], [], [5], [4, 6], [7], [], [9, 8, 0, 1, 2, 3, 4, 5, 6, 7, 8, 9]]
def d93_2 : IR := D [o 110 (fa 28 12 3),
 o 111 (ld 25 110),
 o 112 (mv 1),
 o 113 (fa 69 9 1),
 o 114 (ld 3 113),
 o 115 (mv 10),
 o 116 (ia 25 111 112),
 o 117 (fa 52 116 6),
 o 118 (ia 24 117 114),
 w (st 3 118 115)] [[], [0], [], [], [3], [], [1, 2], [6], [7, 4, 0, 1, 2, 3, 4, 5], [8, 5, 0, 1, 2, 3, 4, 5]]
def c93 : IR := (S (R [z 2 (bx 28 0),
 o 4 (al 28),
 o 5 (an 0)])
(S (R [o 19 (ld 28 2),
 o 20 (mv 1),
 o 21 (cl 91 #[(t 19), (t 20)] #[28, 3]),
 o 18 (mv 21),
 o 22 (xt 18 0),
 o 23 (xt 18 1),
 o 6 (av 22),
 o 7 (av 23)])
(S (S (R [o 24 (mv 7),
 o 25 (bo .neq (t 24) (n 0)),
 o 26 (mv 25),
 oF 27 (mv 6) 26,
 o 28 (.pick (.tmp 26) (.const (.bool true)) (.tmp 27))])
(.cond (t 28)
(S (R [o 29 (.build 28 #[]),
 w (st 28 4 29),
 o 5 (an 1500)])
(.ret [4, 5]))
.skip))
(S (R [o 30 (fa 28 2 3),
 o 31 (ld 25 30),
 o 32 (mv 1),
 o 33 (ia 25 31 32),
 o 34 (ld 52 33),
 o 8 (al 52),
 w (st 52 8 34)])
(S (R [o 35 (fa 52 8 3),
 o 36 (ld 48 35),
 o 37 (fa 52 8 5),
 o 38 (ld 3 37),
 o 39 (ia 48 36 38),
 o 40 (ld 69 39),
 o 9 (al 69),
 w (st 69 9 40)])
(S (R [o 42 (fa 52 8 8),
 o 43 (ld 50 42),
 o 44 (fa 69 9 2),
 o 45 (ld 3 44),
 o 46 (fa 69 9 3),
 o 47 (ld 3 46),
 o 48 (cl 123 #[(t 43), (t 45), (t 47)] #[50, 3, 3]),
 o 41 (mv 48),
 o 49 (xt 41 0),
 o 50 (xt 41 1),
 o 10 (av 49),
 o 11 (av 50)])
(S (R [o 51 (ld 28 2),
 o 52 (cl 58 #[(t 51)] #[28]),
 o 12 (al 28),
 w (st 28 12 52)])
(S (S (R [o 53 (mv 11),
 o 54 (.unOp .not 4 (.tmp 53))])
(.cond (t 54)
(S d93_1
(S (R [o 65 (fa 28 2 0),
 o 66 (ld 23 65),
 o 67 (fa 52 8 7),
 o 68 (ld 49 67),
 o 69 (fa 52 8 0),
 o 70 (ld 3 69),
 o 71 (cl 99 #[(t 66), (t 68), (t 70)] #[23, 49, 3]),
 o 64 (mv 71),
 o 72 (xt 64 0),
 o 73 (xt 64 1),
 o 14 (av 72),
 o 15 (av 73)])
(S (S (R [o 74 (fa 65 13 2),
 o 75 (ld 3 74),
 o 76 (bo .neq (t 75) (n 0)),
 o 77 (mv 76),
 oF 78 (mv 14) 77,
 oF 79 (.unOp .not 4 (.tmp 78)) 77,
 o 80 (.pick (.tmp 77) (.const (.bool true)) (.tmp 79))])
(.cond (t 80)
(S (R [o 81 (ld 28 2),
 o 82 (mv 1),
 o 83 (cl 16 #[(t 81), (t 82), (n 3)] #[28, 3, 3]),
 o 84 (xt 83 0),
 o 85 (xt 83 1),
 w (st 28 4 84),
 o 5 (av 85)])
(.ret [4, 5]))
.skip))
(S (R [o 87 (fa 52 8 7),
 o 88 (ld 49 87),
 o 89 (fa 69 9 2),
 o 90 (ld 3 89),
 o 91 (fa 69 9 3),
 o 92 (ld 3 91),
 o 93 (fa 65 13 1),
 o 94 (ld 3 93),
 o 95 (.build 113 #[(0, (.tmp 90)), (1, (.tmp 92)), (2, (.tmp 94))]),
 o 96 (cl 124 #[(t 88), (t 95)] #[49, 113]),
 o 86 (mv 96),
 o 97 (xt 86 0),
 o 98 (xt 86 1),
 o 16 (av 97),
 o 17 (av 98)])
(S (S (R [o 99 (mv 17),
 o 100 (bo .neq (t 99) (n 0))])
(.cond (t 100)
(S (R [o 101 (.build 28 #[]),
 w (st 28 4 101),
 o 5 (an 1500)])
(.ret [4, 5]))
.skip))
(S (R [o 102 (fa 28 12 3),
 o 103 (ld 25 102),
 o 104 (mv 1),
 o 105 (mv 16),
 o 106 (ia 25 103 104),
 o 107 (fa 52 106 7),
 w (st 49 107 105)])
(R [o 108 (fa 65 13 0),
 o 109 (ld 3 108),
 o 10 (av 109)])))))))
.skip))
(S d93_2
(S (R [o 119 (fa 28 12 3),
 o 120 (ld 25 119),
 o 121 (mv 1),
 o 122 (ia 25 120 121),
 o 123 (fa 52 122 5),
 o 124 (ld 3 123),
 o 125 (bo .add (t 124) (n 1)),
 o 126 (ia 25 120 121),
 o 127 (fa 52 126 5),
 w (st 3 127 125)])
(S (R [o 128 (ld 28 12),
 o 129 (mv 1),
 o 130 (mv 10),
 o 131 (cl 42 #[(t 128), (t 129), (n 0), (t 130)] #[28, 3, 3, 3]),
 w (st 28 4 131),
 o 5 (an 0)])
(.ret [4, 5]))))))))))))
def g93 : IFn := ⟨132, [.cell 4 28, .tmp 5], [28, 3], c93, [], false, none⟩
/- 94 veil/veilref11.Store -/
def d94_1 : IR := D [o 34 (fa 52 6 8),
 o 35 (ld 50 34),
 o 36 (fa 69 7 2),
 o 37 (ld 3 36),
 o 38 (fa 69 7 3),
 o 39 (ld 3 38),
 o 40 (fa 69 7 1),
 o 41 (ld 3 40),
 o 42 (fa 52 6 6),
 o 43 (ia 24 42 41),
 o 44 (ld 3 43),
 o 45 (.build 63 #[(0, (.tmp 37)), (1, (.tmp 39)), (2, (.tmp 44))]),
 o 46 (cl 125 #[(t 35), (t 45)] #[50, 63]),
 o 33 (mv 46),
 o 47 (xt 33 0),
 o 48 (xt 33 1),
 o 8 (av 47),
 o 9 (av 48)] [[], [0], [], [2], [], [4], [], [6], [], [8, 7], [9], [3, 5, 10], [1, 11], [12], [13], [13], [14, 12, 0, 1, 2, 3, 4, 5, 6, 7, 8, 9, 10, 11, 12, 13, 14], [15, 16, 0, 1, 2, 3, 4, 5, 6, 7, 8, 9, 10, 11, 12, 13, 14, 15, 16]]
def d94_2 : IR := D [o 69 (ld 28 10),
 o 70 (mv 1),
 o 71 (fa 69 7 1),
 o 72 (ld 3 71),
 o 73 (fa 52 6 6),
 o 74 (ia 24 73 72),
 o 75 (ld 3 74),
 o 76 (cl 42 #[(t 69), (t 70), (n 1), (t 75)] #[28, 3, 3, 3]),
 w (st 28 4 76),
 o 5 (an 0)] [[], [], [], [2], [], [4, 3], [5], [0, 1, 6], [7, 7, 0, 1, 2, 3, 4, 5, 6, 7], [8, 0, 1, 2, 3, 4, 5, 6, 7, 8]]
def c94 : IR := (S (R [z 2 (bx 28 0),
 o 4 (al 28),
 o 5 (an 0)])
(S (S (R [o 11 (ld 28 2),
 o 12 (mv 1),
 o 13 (cl 40 #[(t 11), (t 12)] #[28, 3]),
 o 14 (.unOp .not 4 (.tmp 13)),
 o 15 (mv 14),
 oF 16 (ld 28 2) 15,
 oF 17 (mv 1) 15,
 oF 18 (cl 90 #[(t 16), (t 17)] #[28, 3]) 15,
 oF 19 (bo .neq (t 18) (n 3)) 15,
 o 20 (.pick (.tmp 15) (.const (.bool true)) (.tmp 19))])
(.cond (t 20)
(S (R [o 21 (.build 28 #[]),
 w (st 28 4 21),
 o 5 (an 1600)])
(.ret [4, 5]))
.skip))
(S (R [o 22 (fa 28 2 3),
 o 23 (ld 25 22),
 o 24 (mv 1),
 o 25 (ia 25 23 24),
 o 26 (ld 52 25),
 o 6 (al 52),
 w (st 52 6 26)])
(S (R [o 27 (fa 52 6 3),
 o 28 (ld 48 27),
 o 29 (fa 52 6 5),
 o 30 (ld 3 29),
 o 31 (ia 48 28 30),
 o 32 (ld 69 31),
 o 7 (al 69),
 w (st 69 7 32)])
(S d94_1
(S (S (R [o 49 (mv 9),
 o 50 (bo .neq (t 49) (n 0))])
(.cond (t 50)
(S (R [o 51 (.build 28 #[]),
 w (st 28 4 51),
 o 5 (an 1600)])
(.ret [4, 5]))
.skip))
(S (R [o 52 (ld 28 2),
 o 53 (cl 58 #[(t 52)] #[28]),
 o 10 (al 28),
 w (st 28 10 53)])
(S (R [o 54 (fa 28 10 3),
 o 55 (ld 25 54),
 o 56 (mv 1),
 o 57 (mv 8),
 o 58 (ia 25 55 56),
 o 59 (fa 52 58 8),
 w (st 50 59 57)])
(S (R [o 60 (fa 28 10 3),
 o 61 (ld 25 60),
 o 62 (mv 1),
 o 63 (ia 25 61 62),
 o 64 (fa 52 63 5),
 o 65 (ld 3 64),
 o 66 (bo .add (t 65) (n 1)),
 o 67 (ia 25 61 62),
 o 68 (fa 52 67 5),
 w (st 3 68 66)])
(S d94_2
(.ret [4, 5])))))))))))
def g94 : IFn := ⟨77, [.cell 4 28, .tmp 5], [28, 3], c94, [], false, none⟩
/- 95 veil/veilref11.Calc -/
def d95_1 : IR := D [o 22 (fa 52 7 6),
 o 23 (ld 24 22),
 o 24 (fa 52 7 5),
 o 25 (ld 3 24),
 o 26 (bo .add (t 25) (n 1)),
 o 8 (al 24),
 w (st 24 8 23),
 o 9 (av 26)] [[], [0], [], [2], [3], [], [5, 1, 0, 1, 5], [4, 6, 0, 1, 2, 3, 4, 5, 6]]
def d95_2 : IR := D [o 34 (fa 52 7 6),
 o 35 (ld 24 34),
 o 36 (fa 52 7 3),
 o 37 (ld 48 36),
 o 38 (fa 52 7 5),
 o 39 (ld 3 38),
 o 40 (ia 48 37 39),
 o 41 (fa 69 40 1),
 o 42 (ld 3 41),
 o 43 (fa 52 7 3),
 o 44 (ld 48 43),
 o 45 (fa 52 7 5),
 o 46 (ld 3 45),
 o 47 (ia 48 44 46),
 o 48 (fa 69 47 2),
 o 49 (ld 3 48),
 o 50 (cl 126 #[(t 35), (t 42), (t 49)] #[24, 3, 3]),
 o 33 (mv 50),
 o 51 (xt 33 0),
 o 52 (xt 33 1),
 w (st 24 8 51)] [[], [0], [], [2], [], [4], [3, 5], [6], [7], [], [9], [], [11], [10, 12], [13], [14], [1, 8, 15], [16], [17], [17], [18, 16, 0, 1, 2, 3, 4, 5, 6, 7, 8, 9, 10, 11, 12, 13, 14, 15, 16, 17, 18]]
def d95_3 : IR := D [o 56 (fa 52 7 6),
 o 57 (ld 24 56),
 o 58 (fa 52 7 3),
 o 59 (ld 48 58),
 o 60 (fa 52 7 5),
 o 61 (ld 3 60),
 o 62 (ia 48 59 61),
 o 63 (fa 69 62 1),
 o 64 (ld 3 63),
 o 65 (fa 52 7 3),
 o 66 (ld 48 65),
 o 67 (fa 52 7 5),
 o 68 (ld 3 67),
 o 69 (ia 48 66 68),
 o 70 (fa 69 69 2),
 o 71 (ld 3 70),
 o 72 (cl 127 #[(t 57), (t 64), (t 71)] #[24, 3, 3]),
 o 55 (mv 72),
 o 73 (xt 55 0),
 o 74 (xt 55 1),
 w (st 24 8 73)] [[], [0], [], [2], [], [4], [3, 5], [6], [7], [], [9], [], [11], [10, 12], [13], [14], [1, 8, 15], [16], [17], [17], [18, 16, 0, 1, 2, 3, 4, 5, 6, 7, 8, 9, 10, 11, 12, 13, 14, 15, 16, 17, 18]]
def c95 : IR := (S (R [z 2 (bx 28 0),
 o 4 (al 28),
 o 5 (an 0)])
(S (S (R [o 10 (ld 28 2),
 o 11 (mv 1),
 o 12 (cl 40 #[(t 10), (t 11)] #[28, 3]),
 o 13 (.unOp .not 4 (.tmp 12))])
(.cond (t 13)
(S (R [o 14 (.build 28 #[]),
 w (st 28 4 14),
 o 5 (an 1700)])
(.ret [4, 5]))
.skip))
(S (R [o 15 (ld 28 2),
 o 16 (cl 58 #[(t 15)] #[28]),
 o 6 (al 28),
 w (st 28 6 16)])
(S (R [o 17 (fa 28 2 3),
 o 18 (ld 25 17),
 o 19 (mv 1),
 o 20 (ia 25 18 19),
 o 21 (ld 52 20),
 o 7 (al 52),
 w (st 52 7 21)])
(S d95_1
(S (S (R [o 27 (ld 28 2),
 o 28 (mv 1),
 o 29 (cl 90 #[(t 27), (t 28)] #[28, 3])])
(.block 0 (S (R [o 32 (bo .eql (t 29) (n 0)),
 o 31 (av 32)])
(.cond (t 31)
d95_2
(S (R [o 54 (bo .eql (t 29) (n 1)),
 o 53 (av 54)])
(.cond (t 53)
d95_3
(S (R [o 76 (bo .eql (t 29) (n 4)),
 o 75 (av 76)])
(.cond (t 75)
(S (R [o 77 (fa 52 7 3),
 o 78 (ld 48 77),
 o 79 (fa 52 7 5),
 o 80 (ld 3 79),
 o 81 (ia 48 78 80),
 o 82 (fa 69 81 1),
 o 83 (ld 3 82),
 o 84 (fa 52 7 6),
 o 85 (ia 24 84 83),
 o 86 (ld 3 85),
 o 87 (bo .eql (t 86) (n 0))])
(.cond (t 87)
(R [o 88 (fa 52 7 3),
 o 89 (ld 48 88),
 o 90 (fa 52 7 5),
 o 91 (ld 3 90),
 o 92 (ia 48 89 91),
 o 93 (fa 69 92 2),
 o 94 (ld 3 93),
 o 9 (av 94)])
.skip))
(S (R [o 30 (.build 28 #[]),
 w (st 28 4 30),
 o 5 (an 1700)])
(.ret [4, 5]))))))))))
(S (R [o 95 (fa 28 6 3),
 o 96 (ld 25 95),
 o 97 (mv 1),
 o 98 (ld 24 8),
 o 99 (ia 25 96 97),
 o 100 (fa 52 99 6),
 w (st 24 100 98)])
(S (R [o 101 (fa 28 6 3),
 o 102 (ld 25 101),
 o 103 (mv 1),
 o 104 (mv 9),
 o 105 (ia 25 102 103),
 o 106 (fa 52 105 5),
 w (st 3 106 104)])
(S (R [o 107 (ld 28 6),
 w (st 28 4 107),
 o 5 (an 0)])
(.ret [4, 5]))))))))))
def g95 : IFn := ⟨108, [.cell 4 28, .tmp 5], [28, 3], c95, [], false, none⟩
/- 96 veil/veilref1.WritesAt -/
def c96_1 : IR := (S (S (R [o 6 (mv 5),
 o 7 (mv 0),
 o 8 (len 7 50),
 o 9 (bo .lss (t 6) (t 8))])
(.cond (t 9)
.skip
(.exit 0 [0])))
(S (.block 1 (S (R [o 12 (mv 0),
 o 13 (mv 5),
 o 14 (ia 50 12 13),
 o 15 (fa 63 14 0),
 o 16 (ld 3 15),
 o 17 (mv 1),
 o 18 (bo .neq (t 16) (t 17))])
(.cond (t 18)
(S (R [o 4 (ab false)])
(.ret [4]))
.skip)))
(R [o 10 (mv 5),
 o 11 (bo .add (t 10) (n 1)),
 o 5 (av 11)])))
def c96 : IR := (S (R [o 4 (ab false)])
(S (S (R [o 5 (an 0)])
(.block 0 (.loop [0, 1, 5] c96_1)))
(S (R [o 19 (mv 0),
 o 20 (cl 87 #[(t 19)] #[50]),
 o 4 (av 20)])
(.ret [4]))))
def g96 : IFn := ⟨21, [.tmp 4], [4], c96, [], false, none⟩
/- 97 veil/veilref1.Lock -/
def c97 : IR := (S (R [o 2 (bx 65 0),
 o 4 (al 65),
 o 5 (an 0)])
(S (S (R [o 6 (ld 65 2),
 o 7 (cl 82 #[(t 6)] #[65]),
 o 8 (.unOp .not 4 (.tmp 7)),
 o 9 (mv 8),
 oF 10 (mv 1) 9,
 oF 11 (cl 116 #[(t 10)] #[3]) 9,
 oF 12 (.unOp .not 4 (.tmp 11)) 9,
 o 13 (.pick (.tmp 9) (.const (.bool true)) (.tmp 12))])
(.cond (t 13)
(S (R [o 14 (.build 65 #[]),
 w (st 65 4 14),
 o 5 (an 300)])
(.ret [4, 5]))
.skip))
(S (S (R [o 15 (fa 65 2 2),
 o 16 (ld 3 15),
 o 17 (bo .neq (t 16) (n 0))])
(.cond (t 17)
(S (R [o 18 (.build 65 #[]),
 w (st 65 4 18),
 o 5 (an 301)])
(.ret [4, 5]))
.skip))
(S (R [o 19 (mv 1),
 o 20 (bo .add (t 19) (n 1)),
 o 21 (fa 65 2 2),
 w (st 3 21 20)])
(S (R [o 22 (ld 65 2),
 w (st 65 4 22),
 o 5 (an 0)])
(.ret [4, 5]))))))
def g97 : IFn := ⟨23, [.cell 4 65, .tmp 5], [65, 3], c97, [], false, none⟩
/- 98 veil/veilref1.Next -/
def c98_1 : IR := (S (S (R [o 17 (mv 10),
 o 18 (bo .lss (t 17) (n 4))])
(.cond (t 18)
.skip
(.exit 0 [1, 2, 3, 6, 9])))
(S (.block 1 (R [o 21 (mv 9),
 o 22 (mv 21),
 oT 23 (mv 10) 22,
 oT 24 (ia 24 3 23) 22,
 oT 25 (ld 3 24) 22,
 oT 26 (cl 55 #[(t 25)] #[3]) 22,
 o 27 (.pick (.tmp 22) (.tmp 26) (.const (.bool false))),
 o 9 (av 27)]))
(R [o 19 (mv 10),
 o 20 (bo .add (t 19) (n 1)),
 o 10 (av 20)])))
def d98_1 : IR := D [o 42 (ld 24 3),
 o 43 (mv 1),
 o 44 (ia 24 3 43),
 o 45 (ld 3 44),
 w (st 24 6 42),
 o 7 (av 45),
 o 8 (an 0)] [[], [], [1], [2], [0, 0], [3, 4, 0, 1, 2, 3, 4], [5, 0, 1, 2, 3, 4, 5]]
def c98 : IR := (S (R [o 3 (bx 24 0),
 o 6 (al 24),
 o 7 (an 0),
 o 8 (an 0)])
(S (R [o 11 (mv 1),
 o 12 (cl 57 #[(t 11)] #[3]),
 o 13 (mv 12),
 oT 14 (mv 2) 13,
 oT 15 (cl 55 #[(t 14)] #[3]) 13,
 o 16 (.pick (.tmp 13) (.tmp 15) (.const (.bool false))),
 o 9 (av 16)])
(S (S (R [o 10 (an 0)])
(.block 0 (.loop [1, 2, 3, 6, 9, 10] c98_1)))
(S (S (R [o 28 (mv 9),
 o 29 (.unOp .not 4 (.tmp 28))])
(.cond (t 29)
(S (R [o 30 (.build 24 #[]),
 w (st 24 6 30),
 o 7 (an 0),
 o 8 (an 500)])
(.ret [6, 7, 8]))
.skip))
(S (S (R [o 31 (mv 1),
 o 32 (ia 24 3 31),
 o 33 (ld 3 32),
 o 34 (mv 2),
 o 35 (bo .geq (t 33) (t 34))])
(.cond (t 35)
(S (R [o 36 (.build 24 #[]),
 w (st 24 6 36),
 o 7 (an 0),
 o 8 (an 501)])
(.ret [6, 7, 8]))
.skip))
(S (R [o 37 (mv 1),
 o 38 (ia 24 3 37),
 o 39 (ld 3 38),
 o 40 (bo .add (t 39) (n 1)),
 o 41 (ia 24 3 37),
 w (st 3 41 40)])
(S d98_1
(.ret [6, 7, 8]))))))))
def g98 : IFn := ⟨46, [.cell 6 24, .tmp 7, .tmp 8], [24, 3, 3], c98, [], false, none⟩
/- 99 veil/veilref1.Good -/
def d99_1 : IR := D [o 35 (mv 1),
 o 36 (mv 8),
 o 37 (ia 49 35 36),
 o 38 (fa 113 37 0),
 o 39 (ld 3 38),
 o 40 (ia 23 3 39),
 o 41 (ld 22 40),
 o 42 (mv 1),
 o 43 (mv 8),
 o 44 (ia 49 42 43),
 o 45 (fa 113 44 1),
 o 46 (ld 3 45),
 o 47 (ia 22 41 46),
 o 48 (ld 65 47),
 o 9 (al 65),
 w (st 65 9 48)] [[], [], [0, 1], [2], [3], [4], [5], [], [], [7, 8], [9], [10], [6, 11], [12], [], [14, 13, 0, 1, 2, 3, 4, 5, 6, 7, 8, 9, 10, 11, 12, 13, 14]]
def d99_2 : IR := D [o 49 (fa 65 9 1),
 o 50 (ld 3 49),
 o 51 (mv 1),
 o 52 (mv 8),
 o 53 (ia 49 51 52),
 o 54 (fa 113 53 2),
 o 55 (ld 3 54),
 o 56 (bo .neq (t 50) (t 55)),
 o 57 (mv 56),
 oF 58 (fa 65 9 2) 57,
 oF 59 (ld 3 58) 57,
 oF 60 (bo .neq (t 59) (n 0)) 57,
 oF 61 (mv 60) 57,
 oT 62 (fa 65 9 2) 61,
 oT 63 (ld 3 62) 61,
 oT 64 (mv 2) 61,
 oT 65 (bo .add (t 64) (n 1)) 61,
 oT 66 (bo .neq (t 63) (t 65)) 61,
 oF 67 (.pick (.tmp 61) (.tmp 66) (.const (.bool false))) 57,
 o 68 (.pick (.tmp 57) (.const (.bool true)) (.tmp 67))] [[], [0], [], [], [2, 3], [4], [5], [1, 6], [7], [8], [9, 8], [10, 8], [11, 8, 8], [12], [13, 12], [12], [15, 12], [14, 16, 12], [12, 17, 8], [8, 18]]
def c99_1 : IR := (S (S (R [o 29 (mv 8),
 o 30 (mv 1),
 o 31 (len 30 49),
 o 32 (bo .lss (t 29) (t 31))])
(.cond (t 32)
.skip
(.exit 0 [])))
(S (.block 1 (S d99_1
(S d99_2
(.cond (t 68)
(S (R [o 6 (ab false),
 o 7 (an 0)])
(.ret [6, 7]))
.skip))))
(R [o 33 (mv 8),
 o 34 (bo .add (t 33) (n 1)),
 o 8 (av 34)])))
def c99 : IR := (S (R [z 3 (bx 23 0),
 o 6 (ab false),
 o 7 (an 0)])
(S (S (R [o 10 (ld 23 3),
 o 11 (cl 54 #[(t 10)] #[23]),
 o 12 (.unOp .not 4 (.tmp 11)),
 o 13 (mv 12),
 oF 14 (mv 1) 13,
 oF 15 (cl 86 #[(t 14)] #[49]) 13,
 oF 16 (.unOp .not 4 (.tmp 15)) 13,
 o 17 (.pick (.tmp 13) (.const (.bool true)) (.tmp 16)),
 o 18 (mv 17),
 oF 19 (mv 2) 18,
 oF 20 (cl 116 #[(t 19)] #[3]) 18,
 oF 21 (.unOp .not 4 (.tmp 20)) 18,
 o 22 (.pick (.tmp 18) (.const (.bool true)) (.tmp 21)),
 o 23 (mv 22),
 oF 24 (ld 23 3) 23,
 oF 25 (mv 1) 23,
 oF 26 (cl 120 #[(t 24), (t 25)] #[23, 49]) 23,
 oF 27 (.unOp .not 4 (.tmp 26)) 23,
 o 28 (.pick (.tmp 23) (.const (.bool true)) (.tmp 27))])
(.cond (t 28)
(S (R [o 6 (ab false),
 o 7 (an 900)])
(.ret [6, 7]))
.skip))
(S (S (R [o 8 (an 0)])
(.block 0 (.loop [1, 2, 3, 8] c99_1)))
(S (R [o 6 (ab true),
 o 7 (an 0)])
(.ret [6, 7])))))
def g99 : IFn := ⟨69, [.tmp 6, .tmp 7], [4, 3], c99, [], false, none⟩
/- 100 veil/veilref1.Changed -/
def d100_1 : IR := D [o 27 (mv 1),
 o 28 (mv 6),
 o 29 (ia 49 27 28),
 o 30 (fa 113 29 0),
 o 31 (ld 3 30),
 o 32 (ia 23 2 31),
 o 33 (ld 22 32),
 o 34 (mv 1),
 o 35 (mv 6),
 o 36 (ia 49 34 35),
 o 37 (fa 113 36 1),
 o 38 (ld 3 37),
 o 39 (ia 22 33 38),
 o 40 (fa 65 39 1),
 o 41 (ld 3 40),
 o 42 (mv 1),
 o 43 (mv 6),
 o 44 (ia 49 42 43),
 o 45 (fa 113 44 2),
 o 46 (ld 3 45),
 o 47 (bo .neq (t 41) (t 46))] [[], [], [0, 1], [2], [3], [4], [5], [], [], [7, 8], [9], [10], [6, 11], [12], [13], [], [], [15, 16], [17], [18], [14, 19]]
def c100_1 : IR := (S (S (R [o 21 (mv 6),
 o 22 (mv 1),
 o 23 (len 22 49),
 o 24 (bo .lss (t 21) (t 23))])
(.cond (t 24)
.skip
(.exit 0 [])))
(S (.block 1 (S d100_1
(.cond (t 47)
(S (R [o 4 (ab true),
 o 5 (an 0)])
(.ret [4, 5]))
.skip)))
(R [o 25 (mv 6),
 o 26 (bo .add (t 25) (n 1)),
 o 6 (av 26)])))
def c100 : IR := (S (R [z 2 (bx 23 0),
 o 4 (ab false),
 o 5 (an 0)])
(S (S (R [o 7 (ld 23 2),
 o 8 (cl 54 #[(t 7)] #[23]),
 o 9 (.unOp .not 4 (.tmp 8)),
 o 10 (mv 9),
 oF 11 (mv 1) 10,
 oF 12 (cl 86 #[(t 11)] #[49]) 10,
 oF 13 (.unOp .not 4 (.tmp 12)) 10,
 o 14 (.pick (.tmp 10) (.const (.bool true)) (.tmp 13)),
 o 15 (mv 14),
 oF 16 (ld 23 2) 15,
 oF 17 (mv 1) 15,
 oF 18 (cl 120 #[(t 16), (t 17)] #[23, 49]) 15,
 oF 19 (.unOp .not 4 (.tmp 18)) 15,
 o 20 (.pick (.tmp 15) (.const (.bool true)) (.tmp 19))])
(.cond (t 20)
(S (R [o 4 (ab false),
 o 5 (an 900)])
(.ret [4, 5]))
.skip))
(S (S (R [o 6 (an 0)])
(.block 0 (.loop [1, 2, 6] c100_1)))
(S (R [o 4 (ab false),
 o 5 (an 0)])
(.ret [4, 5])))))
def g100 : IFn := ⟨48, [.tmp 4, .tmp 5], [4, 3], c100, [], false, none⟩
/- 101 veil/word.May -/
def c101 : IR := (S (R [z 1 (bx 65 0),
 o 2 (ab false)])
(S (R [o 3 (fa 65 1 0),
 o 4 (ld 3 3),
 o 5 (cl 43 #[(t 4)] #[3]),
 o 6 (mv 5),
 oT 7 (fa 65 1 1) 6,
 oT 8 (ld 3 7) 6,
 oT 9 (cl 128 #[(t 8)] #[3]) 6,
 o 10 (.pick (.tmp 6) (.tmp 9) (.const (.bool false))),
 o 11 (mv 10),
 oT 12 (fa 65 1 2) 11,
 oT 13 (ld 3 12) 11,
 oT 14 (cl 76 #[(t 13), (n 255)] #[3, 3]) 11,
 o 15 (.pick (.tmp 11) (.tmp 14) (.const (.bool false))),
 o 2 (av 15)])
(.ret [2])))
def g101 : IFn := ⟨16, [.tmp 2], [4], c101, [], false, none⟩
/- 102 veil/veilref1.NewArena -/
def d102_1 : IR := D [o 32 (mv 5),
 o 33 (mv 5),
 o 34 (ia 23 4 33),
 o 35 (ld 22 34),
 o 36 (mv 5),
 o 37 (ia 98 1 36),
 o 38 (ld 46 37),
 o 39 (mv 6),
 o 40 (ia 46 38 39),
 o 41 (ld 3 40),
 o 42 (.build 65 #[(0, (.tmp 41))]),
 o 43 (.buildSlice 22 1 #[(0, (.tmp 42))]),
 o 44 (.call { callee := (.builtin .append), args := #[(.tmp 35), (.tmp 43)], argTypes := #[22, 22] }),
 o 45 (ia 23 4 32),
 w (st 22 45 44)] [[], [], [1], [2], [], [4], [5], [], [6, 7], [8], [9], [10], [3, 11], [0, 0, 1, 2, 3, 4, 5, 6, 7, 8, 9, 10, 11, 12], [13, 12, 12, 0, 1, 2, 3, 4, 5, 6, 7, 8, 9, 10, 11, 12]]
def c102_1 : IR := (S (S (R [o 11 (mv 6),
 o 12 (mv 5),
 o 13 (ia 98 1 12),
 o 14 (ld 46 13),
 o 15 (len 14 46),
 o 16 (bo .lss (t 11) (t 15))])
(.cond (t 16)
.skip
(.exit 2 [1, 2, 4, 5])))
(S (.block 3 (S (S (R [o 19 (mv 6),
 o 20 (bo .geq (t 19) (n 4)),
 o 21 (mv 20),
 oF 22 (mv 5) 21,
 oF 23 (ia 98 1 22) 21,
 oF 24 (ld 46 23) 21,
 oF 25 (mv 6) 21,
 oF 26 (ia 46 24 25) 21,
 oF 27 (ld 3 26) 21,
 oF 28 (cl 45 #[(t 27)] #[3]) 21,
 oF 29 (.unOp .not 4 (.tmp 28)) 21,
 o 30 (.pick (.tmp 21) (.const (.bool true)) (.tmp 29))])
(.cond (t 30)
(S (R [o 31 (.build 23 #[]),
 w (st 23 2 31),
 o 3 (an 400)])
(.ret [2, 3]))
.skip))
d102_1))
(R [o 17 (mv 6),
 o 18 (bo .add (t 17) (n 1)),
 o 6 (av 18)])))
def c102_2 : IR := (S (S (R [o 7 (mv 5),
 o 8 (bo .lss (t 7) (n 4))])
(.cond (t 8)
.skip
(.exit 0 [2, 4])))
(S (.block 1 (S (R [o 6 (an 0)])
(.block 2 (.loop [1, 2, 4, 5, 6] c102_1))))
(R [o 9 (mv 5),
 o 10 (bo .add (t 9) (n 1)),
 o 5 (av 10)])))
def c102 : IR := (S (R [z 1 (bx 98 0),
 o 2 (al 23),
 o 3 (an 0)])
(S (R [o 4 (al 23)])
(S (S (R [o 5 (an 0)])
(.block 0 (.loop [1, 2, 4, 5] c102_2)))
(S (R [o 46 (ld 23 4),
 w (st 23 2 46),
 o 3 (an 0)])
(.ret [2, 3])))))
def g102 : IFn := ⟨47, [.cell 2 23, .tmp 3], [23, 3], c102, [], false, none⟩
/- 103 veil/veilref11.NewSession -/
def d103_1 : IR := D [o 8 (fa 100 1 0),
 o 9 (ld 3 8),
 o 10 (fa 100 1 1),
 o 11 (ld 3 10),
 o 12 (fa 100 1 2),
 o 13 (ld 3 12),
 o 14 (.buildSlice 48 0 #[]),
 o 15 (fa 100 1 3),
 o 16 (ld 48 15),
 o 17 (.call { callee := (.builtin .append), args := #[(.tmp 14), (.tmp 16)], argTypes := #[48, 48] }),
 o 18 (.build 52 #[(0, (.tmp 9)), (1, (.tmp 11)), (2, (.tmp 13)), (3, (.tmp 17))]),
 w (st 52 2 18),
 o 3 (an 0)] [[], [0], [], [2], [], [4], [], [], [7], [6, 8], [1, 3, 5, 9], [10, 9, 0, 1, 2, 3, 4, 5, 6, 7, 8, 9, 10], [11, 0, 1, 2, 3, 4, 5, 6, 7, 8, 9, 10, 11]]
def c103 : IR := (S (R [z 1 (bx 100 0),
 o 2 (al 52),
 o 3 (an 0)])
(S (S (R [o 4 (ld 100 1),
 o 5 (cl 83 #[(t 4)] #[100]),
 o 6 (.unOp .not 4 (.tmp 5))])
(.cond (t 6)
(S (R [o 7 (.build 52 #[]),
 w (st 52 2 7),
 o 3 (an 1100)])
(.ret [2, 3]))
.skip))
(S d103_1
(.ret [2, 3]))))
def g103 : IFn := ⟨19, [.cell 2 52, .tmp 3], [52, 3], c103, [], false, none⟩
/- 104 veil/arena.May -/
def c104_1 : IR := (S (R [o 8 (bo .lss (t 7) (n 4))])
(S (.cond (t 8)
.skip
(.exit 0 []))
(S (.block 1 (S (R [o 9 (.index 23 (.tmp 6) (.tmp 7)),
 o 5 (av 9)])
(S (R [o 10 (mv 5),
 o 11 (len 10 22),
 o 12 (bo .gtr (t 11) (n 4)),
 o 13 (mv 12),
 oF 14 (mv 5) 13,
 oF 15 (mv 3) 13,
 oF 16 (cl 130 #[(t 14), (t 15)] #[22, 114]) 13,
 o 17 (.pick (.tmp 13) (.const (.bool true)) (.tmp 16))])
(.cond (t 17)
(S (R [o 2 (ab false)])
(.ret [2]))
.skip))))
(R [o 18 (bo .add (t 7) (n 1)),
 o 7 (mv 18)]))))
def c104 : IR := (S (R [z 1 (bx 23 0),
 o 2 (ab false)])
(S (R [o 3 (.assign (.func 129))])
(S (S (R [o 6 (ld 23 1),
 o 7 (.move (.const (.int .i64 0)))])
(.block 0 (.loop [3, 6, 7] c104_1)))
(S (R [o 2 (ab true)])
(.ret [2])))))
def g104 : IFn := ⟨19, [.tmp 2], [4], c104, [], false, none⟩
/- 105 veil/clock.May -/
def c105_1 : IR := (S (R [o 9 (bo .lss (t 8) (n 4))])
(S (.cond (t 9)
.skip
(.exit 0 [1]))
(S (.block 1 (S (R [o 10 (nc 7),
 o 11 (ia 24 10 8),
 o 12 (ld 3 11),
 o 6 (av 12)])
(S (R [o 13 (mv 6),
 o 14 (cl 128 #[(t 13)] #[3]),
 o 15 (.unOp .not 4 (.tmp 14))])
(.cond (t 15)
(S (R [o 4 (ab false)])
(.ret [4]))
.skip))))
(R [o 16 (bo .add (t 8) (n 1)),
 o 8 (mv 16)]))))
def c105 : IR := (S (R [o 4 (ab false)])
(S (S (R [o 7 (mv 0),
 o 8 (.move (.const (.int .i64 0)))])
(.block 0 (.loop [1, 7, 8] c105_1)))
(S (R [o 17 (mv 1),
 o 18 (cl 128 #[(t 17)] #[3]),
 o 4 (av 18)])
(.ret [4]))))
def g105 : IFn := ⟨19, [.tmp 4], [4], c105, [], false, none⟩
/- 106 slices.Max[[]int,int] -/
def c106_1 : IR := (S (S (R [o 12 (mv 4),
 o 13 (mv 0),
 o 14 (len 13 46),
 o 15 (bo .lss (t 12) (t 14))])
(.cond (t 15)
.skip
(.exit 0 [3])))
(S (.block 1 (R [o 18 (mv 3),
 o 19 (mv 0),
 o 20 (mv 4),
 o 21 (ia 46 19 20),
 o 22 (ld 3 21),
 o 23 (.call { callee := (.builtin .max), args := #[(.tmp 18), (.tmp 22)], argTypes := #[3, 3] }),
 o 3 (av 23)]))
(R [o 16 (mv 4),
 o 17 (bo .add (t 16) (n 1)),
 o 4 (av 17)])))
def c106 : IR := (S (R [o 2 (an 0)])
(S (S (R [o 5 (mv 0),
 o 6 (len 5 46),
 o 7 (bo .lss (t 6) (n 1))])
(.cond (t 7)
(R [o 8 (.makeInterface 9 (.const (.string { data := #[115, 108, 105, 99, 101, 115, 46, 77, 97, 120, 58, 32, 101, 109, 112, 116, 121, 32, 108, 105, 115, 116] }))),
 w (.panic (.tmp 8))])
.skip))
(S (R [o 9 (mv 0),
 o 10 (.indexAddr 46 (.tmp 9) (.const (.int .i64 0))),
 o 11 (ld 3 10),
 o 3 (av 11)])
(S (S (R [o 4 (an 1)])
(.block 0 (.loop [0, 3, 4] c106_1)))
(S (R [o 24 (mv 3),
 o 2 (av 24)])
(.ret [2]))))))
def g106 : IFn := ⟨25, [.tmp 2], [3], c106, [], false, none⟩
/- 107 veil/mach.May$1 -/
def c107 : IR := (S (R [z 1 (bx 55 0),
 o 2 (ab false)])
(S (R [o 3 (fa 55 1 1),
 o 4 (ld 3 3),
 o 5 (cl 108 #[(t 4)] #[3]),
 o 2 (av 5)])
(.ret [2])))
def g107 : IFn := ⟨6, [.tmp 2], [4], c107, [], false, none⟩
/- 108 veil/label.May -/
def c108 : IR := (S (R [o 2 (ab false)])
(S (R [o 3 (mv 0),
 o 4 (bo .geq (t 3) (n 0)),
 o 5 (mv 4),
 oT 6 (mv 0) 5,
 oT 7 (bo .lss (t 6) (n 4)) 5,
 o 8 (.pick (.tmp 5) (.tmp 7) (.const (.bool false))),
 o 2 (av 8)])
(.ret [2])))
def g108 : IFn := ⟨9, [.tmp 2], [4], c108, [], false, none⟩
/- 109 veil/mach.all[veil/api.Session] -/
def c109 : IR := (S (R [z 3 (bx 138 1),
 o 4 (ab false)])
(S (R [o 5 (mv 0),
 o 6 (.makeFunc (Go.Fn.func 132) #[] #[(.tmp 3)]),
 o 7 (cl 131 #[(t 5), (t 6)] #[25, 138]),
 o 8 (.unOp .not 4 (.tmp 7)),
 o 4 (av 8)])
(.ret [4])))
def g109 : IFn := ⟨9, [.tmp 4], [4], c109, [], false, none⟩
/- 110 (veil/mach.looker).session -/
def c110 : IR := (S (R [z 2 (bx 141 0),
 z 3 (bx 52 1),
 o 4 (ab false)])
(S (R [o 8 (fa 52 3 0),
 o 9 (ld 3 8),
 o 10 (fa 52 3 1),
 o 11 (ld 3 10),
 o 12 (fa 52 3 2),
 o 13 (ld 3 12),
 o 14 (fa 52 3 3),
 o 15 (ld 48 14),
 o 16 (.build 100 #[(0, (.tmp 9)), (1, (.tmp 11)), (2, (.tmp 13)), (3, (.tmp 15))]),
 o 17 (cl 133 #[(t 16)] #[100]),
 o 5 (av 17)])
(S (R [o 18 (fa 52 3 7),
 o 19 (ld 49 18),
 o 20 (cl 134 #[(t 19)] #[49]),
 o 21 (mv 20),
 oT 22 (fa 52 3 8) 21,
 oT 23 (ld 50 22) 21,
 oT 24 (cl 135 #[(t 23)] #[50]) 21,
 o 25 (.pick (.tmp 21) (.tmp 24) (.const (.bool false))),
 o 26 (mv 25),
 oT 27 (fa 52 3 7) 26,
 oT 28 (ld 49 27) 26,
 oT 29 (ld 141 2) 26,
 oT 30 (.makeFunc (Go.Fn.func 137) #[(.tmp 29)] #[]) 26,
 oT 31 (cl 136 #[(t 28), (t 30)] #[49, 161]) 26,
 o 32 (.pick (.tmp 26) (.tmp 31) (.const (.bool false))),
 o 33 (mv 32),
 oT 34 (fa 52 3 8) 33,
 oT 35 (ld 50 34) 33,
 oT 36 (ld 141 2) 33,
 oT 37 (.makeFunc (Go.Fn.func 139) #[(.tmp 36)] #[]) 33,
 oT 38 (cl 138 #[(t 35), (t 37)] #[50, 163]) 33,
 o 39 (.pick (.tmp 33) (.tmp 38) (.const (.bool false))),
 o 40 (mv 39),
 oT 41 (fa 52 3 3) 40,
 oT 42 (ld 48 41) 40,
 oT 43 (ld 141 2) 40,
 oT 44 (.makeFunc (Go.Fn.func 141) #[(.tmp 43)] #[]) 40,
 oT 45 (cl 140 #[(t 42), (t 44)] #[48, 165]) 40,
 o 46 (.pick (.tmp 40) (.tmp 45) (.const (.bool false))),
 o 6 (av 46)])
(S (R [o 47 (fa 52 3 5),
 o 48 (ld 3 47),
 o 49 (fa 52 3 3),
 o 50 (ld 48 49),
 o 51 (len 50 48),
 o 52 (cl 142 #[(t 48), (t 51)] #[3, 3]),
 o 53 (mv 52),
 oT 54 (fa 52 3 9) 53,
 oT 55 (ld 3 54) 53,
 oT 56 (fa 52 3 8) 53,
 oT 57 (ld 50 56) 53,
 oT 58 (len 57 50) 53,
 oT 59 (cl 142 #[(t 55), (t 58)] #[3, 3]) 53,
 o 60 (.pick (.tmp 53) (.tmp 59) (.const (.bool false))),
 o 61 (mv 60),
 oT 62 (fa 52 3 4) 61,
 oT 63 (ld 3 62) 61,
 oT 64 (cl 142 #[(t 63), (n 6)] #[3, 3]) 61,
 o 65 (.pick (.tmp 61) (.tmp 64) (.const (.bool false))),
 o 66 (mv 65),
 oT 67 (fa 52 3 12) 66,
 oT 68 (ld 3 67) 66,
 oT 69 (cl 142 #[(t 68), (n 5)] #[3, 3]) 66,
 o 70 (.pick (.tmp 66) (.tmp 69) (.const (.bool false))),
 o 7 (av 70)])
(S (R [o 71 (mv 5),
 o 72 (mv 71),
 oT 73 (mv 6) 72,
 o 74 (.pick (.tmp 72) (.tmp 73) (.const (.bool false))),
 o 75 (mv 74),
 oT 76 (mv 7) 75,
 o 77 (.pick (.tmp 75) (.tmp 76) (.const (.bool false))),
 o 78 (mv 77),
 oT 79 (fa 52 3 6) 78,
 oT 80 (cl 143 #[(t 79)] #[134]) 78,
 o 81 (.pick (.tmp 78) (.tmp 80) (.const (.bool false))),
 o 82 (mv 81),
 oT 83 (fa 52 3 10) 82,
 oT 84 (ld 3 83) 82,
 oT 85 (cl 128 #[(t 84)] #[3]) 82,
 o 86 (.pick (.tmp 82) (.tmp 85) (.const (.bool false))),
 o 87 (mv 86),
 oT 88 (fa 52 3 11) 87,
 oT 89 (ld 3 88) 87,
 oT 90 (cl 128 #[(t 89)] #[3]) 87,
 o 91 (.pick (.tmp 87) (.tmp 90) (.const (.bool false))),
 o 92 (mv 91),
 oT 93 (fa 52 3 13) 92,
 oT 94 (ld 3 93) 92,
 oT 95 (cl 43 #[(t 94)] #[3]) 92,
 o 96 (.pick (.tmp 92) (.tmp 95) (.const (.bool false))),
 o 4 (av 96)])
(.ret [4]))))))
def g110 : IFn := ⟨97, [.tmp 4], [4], c110, [], false, none⟩
/- 111 veil/mach.all[veil/api.Event] -/
def c111 : IR := (S (R [z 3 (bx 136 1),
 o 4 (ab false)])
(S (R [o 5 (mv 0),
 o 6 (.makeFunc (Go.Fn.func 145) #[] #[(.tmp 3)]),
 o 7 (cl 144 #[(t 5), (t 6)] #[26, 136]),
 o 8 (.unOp .not 4 (.tmp 7)),
 o 4 (av 8)])
(.ret [4])))
def g111 : IFn := ⟨9, [.tmp 4], [4], c111, [], false, none⟩
/- 112 slices.Clone[[]veil/api.Word,veil/api.Word] -/
def c112 : IR := (S (R [o 2 (.assign (.const (.slice none 0 0)))])
(S (S (R [o 3 (mv 0),
 o 4 (.binOp .eql 22 (.tmp 3) (.const (.slice none 0 0)) 22)])
(.cond (t 4)
(S (R [o 2 (.assign (.const (.slice none 0 0)))])
(.ret [2]))
.skip))
(S (R [o 5 (.buildSlice 22 0 #[]),
 o 6 (mv 0),
 o 7 (.call { callee := (.builtin .append), args := #[(.tmp 5), (.tmp 6)], argTypes := #[22, 22] }),
 o 2 (av 7)])
(.ret [2]))))
def g112 : IFn := ⟨8, [.tmp 2], [22], c112, [], false, some (3, 24)⟩
/- 113 slices.Clone[[]veil/api.Inst,veil/api.Inst] -/
def c113 : IR := (S (R [o 2 (.assign (.const (.slice none 0 0)))])
(S (S (R [o 3 (mv 0),
 o 4 (.binOp .eql 48 (.tmp 3) (.const (.slice none 0 0)) 48)])
(.cond (t 4)
(S (R [o 2 (.assign (.const (.slice none 0 0)))])
(.ret [2]))
.skip))
(S (R [o 5 (.buildSlice 48 0 #[]),
 o 6 (mv 0),
 o 7 (.call { callee := (.builtin .append), args := #[(.tmp 5), (.tmp 6)], argTypes := #[48, 48] }),
 o 2 (av 7)])
(.ret [2]))))
def g113 : IFn := ⟨8, [.tmp 2], [48], c113, [], false, some (4, 32)⟩
/- 114 slices.Clone[[]veil/api.Read,veil/api.Read] -/
def c114 : IR := (S (R [o 2 (.assign (.const (.slice none 0 0)))])
(S (S (R [o 3 (mv 0),
 o 4 (.binOp .eql 49 (.tmp 3) (.const (.slice none 0 0)) 49)])
(.cond (t 4)
(S (R [o 2 (.assign (.const (.slice none 0 0)))])
(.ret [2]))
.skip))
(S (R [o 5 (.buildSlice 49 0 #[]),
 o 6 (mv 0),
 o 7 (.call { callee := (.builtin .append), args := #[(.tmp 5), (.tmp 6)], argTypes := #[49, 49] }),
 o 2 (av 7)])
(.ret [2]))))
def g114 : IFn := ⟨8, [.tmp 2], [49], c114, [], false, some (3, 24)⟩
/- 115 slices.Clone[[]veil/api.Write,veil/api.Write] -/
def c115 : IR := (S (R [o 2 (.assign (.const (.slice none 0 0)))])
(S (S (R [o 3 (mv 0),
 o 4 (.binOp .eql 50 (.tmp 3) (.const (.slice none 0 0)) 50)])
(.cond (t 4)
(S (R [o 2 (.assign (.const (.slice none 0 0)))])
(.ret [2]))
.skip))
(S (R [o 5 (.buildSlice 50 0 #[]),
 o 6 (mv 0),
 o 7 (.call { callee := (.builtin .append), args := #[(.tmp 5), (.tmp 6)], argTypes := #[50, 50] }),
 o 2 (av 7)])
(.ret [2]))))
def g115 : IFn := ⟨8, [.tmp 2], [50], c115, [], false, some (3, 24)⟩
/- 116 veil/veilref1.IdMay -/
def c116 : IR := (S (R [o 2 (ab false)])
(S (R [o 3 (mv 0),
 o 4 (cl 77 #[(t 3), (n 0), (n 254)] #[3, 3, 3]),
 o 2 (av 4)])
(.ret [2])))
def g116 : IFn := ⟨5, [.tmp 2], [4], c116, [], false, none⟩
/- 117 veil/veilref1.Under -/
def c117 : IR := (S (R [o 4 (ab false)])
(S (R [o 5 (mv 0),
 o 6 (mv 1),
 o 7 (bo .or (t 5) (t 6)),
 o 8 (mv 1),
 o 9 (bo .eql (t 7) (t 8)),
 o 4 (av 9)])
(.ret [4])))
def g117 : IFn := ⟨10, [.tmp 4], [4], c117, [], false, none⟩
/- 118 veil/veilref1.ProgMay -/
def c118_1 : IR := (S (S (R [o 4 (mv 3),
 o 5 (mv 0),
 o 6 (len 5 48),
 o 7 (bo .lss (t 4) (t 6))])
(.cond (t 7)
.skip
(.exit 0 [0])))
(S (.block 1 (S (R [o 10 (mv 0),
 o 11 (mv 3),
 o 12 (ia 48 10 11),
 o 13 (ld 69 12),
 o 14 (cl 146 #[(t 13)] #[69]),
 o 15 (.unOp .not 4 (.tmp 14)),
 o 16 (mv 15),
 oF 17 (mv 0) 16,
 oF 18 (mv 3) 16,
 oF 19 (ia 48 17 18) 16,
 oF 20 (fa 69 19 0) 16,
 oF 21 (ld 3 20) 16,
 oF 22 (bo .eql (t 21) (n 4)) 16,
 oF 23 (mv 22) 16,
 oT 24 (mv 0) 23,
 oT 25 (mv 3) 23,
 oT 26 (ia 48 24 25) 23,
 oT 27 (fa 69 26 2) 23,
 oT 28 (ld 3 27) 23,
 oT 29 (mv 3) 23,
 oT 30 (bo .leq (t 28) (t 29)) 23,
 oT 31 (mv 30) 23,
 oF 32 (mv 0) 31,
 oF 33 (mv 3) 31,
 oF 34 (ia 48 32 33) 31,
 oF 35 (fa 69 34 2) 31,
 oF 36 (ld 3 35) 31,
 oF 37 (mv 0) 31,
 oF 38 (len 37 48) 31,
 oF 39 (bo .gtr (t 36) (t 38)) 31,
 oT 40 (.pick (.tmp 31) (.const (.bool true)) (.tmp 39)) 23,
 oF 41 (.pick (.tmp 23) (.tmp 40) (.const (.bool false))) 16,
 o 42 (.pick (.tmp 16) (.const (.bool true)) (.tmp 41))])
(.cond (t 42)
(S (R [o 2 (ab false)])
(.ret [2]))
.skip)))
(R [o 8 (mv 3),
 o 9 (bo .add (t 8) (n 1)),
 o 3 (av 9)])))
def c118 : IR := (S (R [o 2 (ab false)])
(S (S (R [o 3 (an 0)])
(.block 0 (.loop [0, 3] c118_1)))
(S (R [o 43 (mv 0),
 o 44 (len 43 48),
 o 45 (bo .leq (t 44) (n 16)),
 o 2 (av 45)])
(.ret [2]))))
def g118 : IFn := ⟨46, [.tmp 2], [4], c118, [], false, none⟩
/- 119 veil/veilref1.There -/
def c119 : IR := (S (R [z 3 (bx 23 0),
 o 6 (ab false)])
(S (R [o 7 (mv 1),
 o 8 (cl 57 #[(t 7)] #[3]),
 o 9 (mv 8),
 oT 10 (mv 2) 9,
 oT 11 (bo .geq (t 10) (n 0)) 9,
 o 12 (.pick (.tmp 9) (.tmp 11) (.const (.bool false))),
 o 13 (mv 12),
 oT 14 (mv 2) 13,
 oT 15 (mv 1) 13,
 oT 16 (ia 23 3 15) 13,
 oT 17 (ld 22 16) 13,
 oT 18 (len 17 22) 13,
 oT 19 (bo .lss (t 14) (t 18)) 13,
 o 20 (.pick (.tmp 13) (.tmp 19) (.const (.bool false))),
 o 6 (av 20)])
(.ret [6])))
def g119 : IFn := ⟨21, [.tmp 6], [4], c119, [], false, none⟩
/- 120 veil/veilref1.ReadsThere -/
def d120_1 : IR := D [o 12 (ld 23 2),
 o 13 (mv 1),
 o 14 (mv 5),
 o 15 (ia 49 13 14),
 o 16 (fa 113 15 0),
 o 17 (ld 3 16),
 o 18 (mv 1),
 o 19 (mv 5),
 o 20 (ia 49 18 19),
 o 21 (fa 113 20 1),
 o 22 (ld 3 21),
 o 23 (cl 119 #[(t 12), (t 17), (t 22)] #[23, 3, 3]),
 o 24 (.unOp .not 4 (.tmp 23))] [[], [], [], [1, 2], [3], [4], [], [], [6, 7], [8], [9], [0, 5, 10], [11]]
def c120_1 : IR := (S (S (R [o 6 (mv 5),
 o 7 (mv 1),
 o 8 (len 7 49),
 o 9 (bo .lss (t 6) (t 8))])
(.cond (t 9)
.skip
(.exit 0 [])))
(S (.block 1 (S d120_1
(.cond (t 24)
(S (R [o 4 (ab false)])
(.ret [4]))
.skip)))
(R [o 10 (mv 5),
 o 11 (bo .add (t 10) (n 1)),
 o 5 (av 11)])))
def c120 : IR := (S (R [z 2 (bx 23 0),
 o 4 (ab false)])
(S (S (R [o 5 (an 0)])
(.block 0 (.loop [1, 2, 5] c120_1)))
(S (R [o 4 (ab true)])
(.ret [4]))))
def g120 : IFn := ⟨25, [.tmp 4], [4], c120, [], false, none⟩
/- 121 veil/veilref1.wordName -/
def c121 : IR := (S (R [o 4 (ab false)])
(S (R [o 5 (mv 0),
 o 6 (cl 57 #[(t 5)] #[3]),
 o 7 (mv 6),
 oT 8 (mv 1) 7,
 oT 9 (cl 77 #[(t 8), (n 0), (n 3)] #[3, 3, 3]) 7,
 o 10 (.pick (.tmp 7) (.tmp 9) (.const (.bool false))),
 o 4 (av 10)])
(.ret [4])))
def g121 : IFn := ⟨11, [.tmp 4], [4], c121, [], false, none⟩
/- 122 veil/veilref1.place -/
def c122 : IR := (S (R [o 4 (an 0)])
(S (R [o 5 (mv 0),
 o 6 (bo .mul (n 4) (t 5)),
 o 7 (mv 1),
 o 8 (bo .add (t 6) (t 7)),
 o 4 (av 8)])
(.ret [4])))
def g122 : IFn := ⟨9, [.tmp 4], [3], c122, [], false, none⟩
/- 123 veil/veilref1.FindWrite -/
def c123_1 : IR := (S (S (R [o 9 (mv 8),
 o 10 (mv 0),
 o 11 (len 10 50),
 o 12 (bo .lss (t 9) (t 11)),
 o 13 (mv 12),
 oT 14 (mv 0) 13,
 oT 15 (cl 87 #[(t 14)] #[50]) 13,
 o 16 (.pick (.tmp 13) (.tmp 15) (.const (.bool false)))])
(.cond (t 16)
.skip
(.exit 0 [])))
(S (.block 1 (S (R [o 19 (mv 0),
 o 20 (mv 8),
 o 21 (ia 50 19 20),
 o 22 (fa 63 21 0),
 o 23 (ld 3 22),
 o 24 (mv 1),
 o 25 (bo .eql (t 23) (t 24)),
 o 26 (mv 25),
 oT 27 (mv 0) 26,
 oT 28 (mv 8) 26,
 oT 29 (ia 50 27 28) 26,
 oT 30 (fa 63 29 1) 26,
 oT 31 (ld 3 30) 26,
 oT 32 (mv 2) 26,
 oT 33 (bo .eql (t 31) (t 32)) 26,
 o 34 (.pick (.tmp 26) (.tmp 33) (.const (.bool false)))])
(.cond (t 34)
(S (R [o 35 (mv 0),
 o 36 (mv 8),
 o 37 (ia 50 35 36),
 o 38 (fa 63 37 2),
 o 39 (ld 3 38),
 o 6 (av 39),
 o 7 (ab true)])
(.ret [6, 7]))
.skip)))
(R [o 17 (mv 8),
 o 18 (bo .add (t 17) (n 1)),
 o 8 (av 18)])))
def c123 : IR := (S (R [o 6 (an 0),
 o 7 (ab false)])
(S (S (R [o 8 (an 0)])
(.block 0 (.loop [0, 1, 2, 8] c123_1)))
(S (R [o 6 (an 0),
 o 7 (ab false)])
(.ret [6, 7]))))
def g123 : IFn := ⟨40, [.tmp 6, .tmp 7], [3, 4], c123, [], false, none⟩
/- 124 veil/veilref1.WithRead -/
def d124_1 : IR := D [o 26 (mv 0),
 o 27 (mv 7),
 o 28 (ia 49 26 27),
 o 29 (fa 113 28 0),
 o 30 (ld 3 29),
 o 31 (fa 113 3 0),
 o 32 (ld 3 31),
 o 33 (bo .eql (t 30) (t 32)),
 o 34 (mv 33),
 oT 35 (mv 0) 34,
 oT 36 (mv 7) 34,
 oT 37 (ia 49 35 36) 34,
 oT 38 (fa 113 37 1) 34,
 oT 39 (ld 3 38) 34,
 oT 40 (fa 113 3 1) 34,
 oT 41 (ld 3 40) 34,
 oT 42 (bo .eql (t 39) (t 41)) 34,
 o 43 (.pick (.tmp 34) (.tmp 42) (.const (.bool false)))] [[], [], [0, 1], [2], [3], [], [5], [4, 6], [7], [8], [8], [9, 10, 8], [11, 8], [12, 8], [8], [14, 8], [13, 15, 8], [8, 16]]
def c124_1 : IR := (S (S (R [o 20 (mv 7),
 o 21 (mv 0),
 o 22 (len 21 49),
 o 23 (bo .lss (t 20) (t 22))])
(.cond (t 23)
.skip
(.exit 0 [3, 6])))
(S (.block 1 (S d124_1
(.cond (t 43)
(S (R [o 44 (mv 6),
 o 4 (av 44),
 o 5 (an 0)])
(.ret [4, 5]))
.skip)))
(R [o 24 (mv 7),
 o 25 (bo .add (t 24) (n 1)),
 o 7 (av 25)])))
def c124 : IR := (S (R [z 3 (bx 113 1),
 o 4 (.assign (.const (.slice none 0 0))),
 o 5 (an 0)])
(S (S (R [o 8 (mv 0),
 o 9 (cl 86 #[(t 8)] #[49]),
 o 10 (.unOp .not 4 (.tmp 9)),
 o 11 (mv 10),
 oF 12 (ld 113 3) 11,
 oF 13 (.buildSlice 49 1 #[(0, (.tmp 12))]) 11,
 oF 14 (cl 86 #[(t 13)] #[49]) 11,
 oF 15 (.unOp .not 4 (.tmp 14)) 11,
 o 16 (.pick (.tmp 11) (.const (.bool true)) (.tmp 15))])
(.cond (t 16)
(S (R [o 4 (.assign (.const (.slice none 0 0))),
 o 5 (an 900)])
(.ret [4, 5]))
.skip))
(S (R [o 17 (.buildSlice 49 0 #[]),
 o 18 (mv 0),
 o 19 (.call { callee := (.builtin .append), args := #[(.tmp 17), (.tmp 18)], argTypes := #[49, 49] }),
 o 6 (av 19)])
(S (S (R [o 7 (an 0)])
(.block 0 (.loop [0, 3, 6, 7] c124_1)))
(S (R [o 45 (mv 6),
 o 46 (ld 113 3),
 o 47 (.buildSlice 49 1 #[(0, (.tmp 46))]),
 o 48 (.call { callee := (.builtin .append), args := #[(.tmp 45), (.tmp 47)], argTypes := #[49, 49] }),
 o 6 (av 48)])
(S (S (R [o 49 (mv 6),
 o 50 (len 49 49),
 o 51 (bo .gtr (t 50) (n 16))])
(.cond (t 51)
(S (R [o 4 (.assign (.const (.slice none 0 0))),
 o 5 (an 900)])
(.ret [4, 5]))
.skip))
(S (R [o 52 (mv 6),
 o 4 (av 52),
 o 5 (an 0)])
(.ret [4, 5]))))))))
def g124 : IFn := ⟨53, [.tmp 4, .tmp 5], [49, 3], c124, [], false, none⟩
/- 125 veil/veilref1.WithWrite -/
def d125_1 : IR := D [o 26 (mv 0),
 o 27 (mv 8),
 o 28 (ia 50 26 27),
 o 29 (fa 63 28 0),
 o 30 (ld 3 29),
 o 31 (mv 0),
 o 32 (mv 8),
 o 33 (ia 50 31 32),
 o 34 (fa 63 33 1),
 o 35 (ld 3 34),
 o 36 (cl 122 #[(t 30), (t 35)] #[3, 3]),
 o 37 (fa 63 3 0),
 o 38 (ld 3 37),
 o 39 (fa 63 3 1),
 o 40 (ld 3 39),
 o 41 (cl 122 #[(t 38), (t 40)] #[3, 3]),
 o 9 (av 36),
 o 10 (av 41)] [[], [], [0, 1], [2], [3], [], [], [5, 6], [7], [8], [4, 9], [], [11], [], [13], [12, 14, 10], [10, 15, 0, 1, 2, 3, 4, 5, 6, 7, 8, 9, 10], [15, 16, 0, 1, 2, 3, 4, 5, 6, 7, 8, 9, 10, 11, 12, 13, 14, 15, 16]]
def c125_1 : IR := (S (S (R [o 20 (mv 8),
 o 21 (mv 0),
 o 22 (len 21 50),
 o 23 (bo .lss (t 20) (t 22))])
(.cond (t 23)
.skip
(.exit 0 [3, 6, 7])))
(S (.block 1 (S d125_1
(S (S (R [o 42 (mv 7),
 o 43 (.unOp .not 4 (.tmp 42)),
 o 44 (mv 43),
 oT 45 (mv 9) 44,
 oT 46 (mv 10) 44,
 oT 47 (bo .geq (t 45) (t 46)) 44,
 o 48 (.pick (.tmp 44) (.tmp 47) (.const (.bool false)))])
(.cond (t 48)
(S (R [o 49 (mv 6),
 o 50 (ld 63 3),
 o 51 (.buildSlice 50 1 #[(0, (.tmp 50))]),
 o 52 (.call { callee := (.builtin .append), args := #[(.tmp 49), (.tmp 51)], argTypes := #[50, 50] }),
 o 6 (av 52)])
(R [o 7 (ab true)]))
.skip))
(S (R [o 53 (mv 9),
 o 54 (mv 10),
 o 55 (bo .neq (t 53) (t 54))])
(.cond (t 55)
(R [o 56 (mv 6),
 o 57 (mv 0),
 o 58 (mv 8),
 o 59 (ia 50 57 58),
 o 60 (ld 63 59),
 o 61 (.buildSlice 50 1 #[(0, (.tmp 60))]),
 o 62 (.call { callee := (.builtin .append), args := #[(.tmp 56), (.tmp 61)], argTypes := #[50, 50] }),
 o 6 (av 62)])
.skip)))))
(R [o 24 (mv 8),
 o 25 (bo .add (t 24) (n 1)),
 o 8 (av 25)])))
def c125 : IR := (S (R [z 3 (bx 63 1),
 o 4 (.assign (.const (.slice none 0 0))),
 o 5 (an 0)])
(S (S (R [o 11 (mv 0),
 o 12 (cl 87 #[(t 11)] #[50]),
 o 13 (.unOp .not 4 (.tmp 12)),
 o 14 (mv 13),
 oF 15 (ld 63 3) 14,
 oF 16 (.buildSlice 50 1 #[(0, (.tmp 15))]) 14,
 oF 17 (cl 87 #[(t 16)] #[50]) 14,
 oF 18 (.unOp .not 4 (.tmp 17)) 14,
 o 19 (.pick (.tmp 14) (.const (.bool true)) (.tmp 18))])
(.cond (t 19)
(S (R [o 4 (.assign (.const (.slice none 0 0))),
 o 5 (an 1000)])
(.ret [4, 5]))
.skip))
(S (R [o 6 (.assign (.const (.slice none 0 0)))])
(S (R [o 7 (ab false)])
(S (S (R [o 8 (an 0)])
(.block 0 (.loop [0, 3, 6, 7, 8] c125_1)))
(S (S (R [o 63 (mv 7),
 o 64 (.unOp .not 4 (.tmp 63))])
(.cond (t 64)
(R [o 65 (mv 6),
 o 66 (ld 63 3),
 o 67 (.buildSlice 50 1 #[(0, (.tmp 66))]),
 o 68 (.call { callee := (.builtin .append), args := #[(.tmp 65), (.tmp 67)], argTypes := #[50, 50] }),
 o 6 (av 68)])
.skip))
(S (R [o 69 (mv 6),
 o 4 (av 69),
 o 5 (an 0)])
(.ret [4, 5]))))))))
def g125 : IFn := ⟨70, [.tmp 4, .tmp 5], [50, 3], c125, [], false, none⟩
/- 126 veil/veilref1.Set -/
def c126 : IR := (S (R [o 3 (bx 24 0),
 o 6 (al 24),
 o 7 (an 0)])
(S (S (R [o 8 (ld 24 3),
 o 9 (cl 85 #[(t 8)] #[24]),
 o 10 (.unOp .not 4 (.tmp 9)),
 o 11 (mv 10),
 oF 12 (mv 1) 11,
 oF 13 (cl 147 #[(t 12)] #[3]) 11,
 oF 14 (.unOp .not 4 (.tmp 13)) 11,
 o 15 (.pick (.tmp 11) (.const (.bool true)) (.tmp 14)),
 o 16 (mv 15),
 oF 17 (mv 2) 16,
 oF 18 (cl 45 #[(t 17)] #[3]) 16,
 oF 19 (.unOp .not 4 (.tmp 18)) 16,
 o 20 (.pick (.tmp 16) (.const (.bool true)) (.tmp 19))])
(.cond (t 20)
(S (R [o 21 (.build 24 #[]),
 w (st 24 6 21),
 o 7 (an 600)])
(.ret [6, 7]))
.skip))
(S (R [o 22 (mv 1),
 o 23 (mv 2),
 o 24 (ia 24 3 22),
 w (st 3 24 23)])
(S (R [o 25 (ld 24 3),
 w (st 24 6 25),
 o 7 (an 0)])
(.ret [6, 7])))))
def g126 : IFn := ⟨26, [.cell 6 24, .tmp 7], [24, 3], c126, [], false, none⟩
/- 127 veil/veilref1.Add -/
def d127_1 : IR := D [o 22 (mv 1),
 o 23 (mv 1),
 o 24 (ia 24 3 23),
 o 25 (ld 3 24),
 o 26 (mv 2),
 o 27 (ia 24 3 26),
 o 28 (ld 3 27),
 o 29 (bo .add (t 25) (t 28)),
 o 30 (bo .rem (t 29) (n 256)),
 o 31 (ia 24 3 22),
 w (st 3 31 30)] [[], [], [1], [2], [], [4], [5], [3, 6], [7], [0, 0, 1, 2, 3, 4, 5, 6, 7, 8], [9, 8, 0, 1, 2, 3, 4, 5, 6, 7, 8]]
def c127 : IR := (S (R [o 3 (bx 24 0),
 o 6 (al 24),
 o 7 (an 0)])
(S (S (R [o 8 (ld 24 3),
 o 9 (cl 85 #[(t 8)] #[24]),
 o 10 (.unOp .not 4 (.tmp 9)),
 o 11 (mv 10),
 oF 12 (mv 1) 11,
 oF 13 (cl 147 #[(t 12)] #[3]) 11,
 oF 14 (.unOp .not 4 (.tmp 13)) 11,
 o 15 (.pick (.tmp 11) (.const (.bool true)) (.tmp 14)),
 o 16 (mv 15),
 oF 17 (mv 2) 16,
 oF 18 (cl 147 #[(t 17)] #[3]) 16,
 oF 19 (.unOp .not 4 (.tmp 18)) 16,
 o 20 (.pick (.tmp 16) (.const (.bool true)) (.tmp 19))])
(.cond (t 20)
(S (R [o 21 (.build 24 #[]),
 w (st 24 6 21),
 o 7 (an 600)])
(.ret [6, 7]))
.skip))
(S d127_1
(S (R [o 32 (ld 24 3),
 w (st 24 6 32),
 o 7 (an 0)])
(.ret [6, 7])))))
def g127 : IFn := ⟨33, [.cell 6 24, .tmp 7], [24, 3], c127, [], false, none⟩
/- 128 veil/word.Clock -/
def c128 : IR := (S (R [o 2 (ab false)])
(S (R [o 3 (mv 0),
 o 4 (cl 76 #[(t 3), (n 65535)] #[3, 3]),
 o 2 (av 4)])
(.ret [2])))
def g128 : IFn := ⟨5, [.tmp 2], [4], c128, [], false, none⟩
/- 129 veil/arena.May$1 -/
def c129 : IR := (S (R [z 1 (bx 65 0),
 o 2 (ab false)])
(S (R [o 3 (ld 65 1),
 o 4 (cl 101 #[(t 3)] #[65]),
 o 5 (.unOp .not 4 (.tmp 4)),
 o 2 (av 5)])
(.ret [2])))
def g129 : IFn := ⟨6, [.tmp 2], [4], c129, [], false, none⟩
/- 130 slices.ContainsFunc[[]veil/api.Word,veil/api.Word] -/
def c130 : IR := (S (R [o 4 (ab false)])
(S (R [o 5 (mv 0),
 o 6 (mv 1),
 o 7 (cl 148 #[(t 5), (t 6)] #[22, 114]),
 o 8 (bo .geq (t 7) (n 0)),
 o 4 (av 8)])
(.ret [4])))
def g130 : IFn := ⟨9, [.tmp 4], [4], c130, [], false, none⟩
/- 131 slices.ContainsFunc[[]veil/api.Session,veil/api.Session] -/
def c131 : IR := (S (R [o 4 (ab false)])
(S (R [o 5 (mv 0),
 o 6 (mv 1),
 o 7 (cl 149 #[(t 5), (t 6)] #[25, 138]),
 o 8 (bo .geq (t 7) (n 0)),
 o 4 (av 8)])
(.ret [4])))
def g131 : IFn := ⟨9, [.tmp 4], [4], c131, [], false, none⟩
/- 132 veil/mach.all[veil/api.Session]$1 -/
def c132 : IR := (S (R [z 2 (bx 52 0),
 o 3 (ab false)])
(S (R [o 4 (ld 138 1),
 o 5 (ld 52 2),
 o 6 (.call { callee := (.value (.tmp 4)), args := #[(.tmp 5)], argTypes := #[52] }),
 o 7 (.unOp .not 4 (.tmp 6)),
 o 3 (av 7)])
(.ret [3])))
def g132 : IFn := ⟨8, [.tmp 3], [4], c132, [], false, none⟩
/- 133 veil/start.May -/
def c133 : IR := (S (R [z 1 (bx 100 0),
 o 2 (ab false)])
(S (R [o 3 (fa 100 1 0),
 o 4 (ld 3 3),
 o 5 (cl 150 #[(t 4)] #[3]),
 o 6 (mv 5),
 oT 7 (fa 100 1 1) 6,
 oT 8 (ld 3 7) 6,
 oT 9 (cl 108 #[(t 8)] #[3]) 6,
 o 10 (.pick (.tmp 6) (.tmp 9) (.const (.bool false))),
 o 11 (mv 10),
 oT 12 (fa 100 1 2) 11,
 oT 13 (ld 3 12) 11,
 oT 14 (cl 108 #[(t 13)] #[3]) 11,
 o 15 (.pick (.tmp 11) (.tmp 14) (.const (.bool false))),
 o 16 (mv 15),
 oT 17 (fa 100 1 1) 16,
 oT 18 (ld 3 17) 16,
 oT 19 (fa 100 1 2) 16,
 oT 20 (ld 3 19) 16,
 oT 21 (cl 151 #[(t 18), (t 20)] #[3, 3]) 16,
 o 22 (.pick (.tmp 16) (.tmp 21) (.const (.bool false))),
 o 23 (mv 22),
 oT 24 (fa 100 1 3) 23,
 oT 25 (ld 48 24) 23,
 oT 26 (cl 152 #[(t 25)] #[48]) 23,
 o 27 (.pick (.tmp 23) (.tmp 26) (.const (.bool false))),
 o 2 (av 27)])
(.ret [2])))
def g133 : IFn := ⟨28, [.tmp 2], [4], c133, [], false, none⟩
/- 134 veil/readset.May -/
def d134_1 : IR := D [o 15 (fa 113 4 0),
 o 16 (ld 3 15),
 o 17 (cl 108 #[(t 16)] #[3]),
 o 18 (.unOp .not 4 (.tmp 17)),
 o 19 (mv 18),
 oF 20 (fa 113 4 1) 19,
 oF 21 (ld 3 20) 19,
 oF 22 (cl 153 #[(t 21)] #[3]) 19,
 oF 23 (.unOp .not 4 (.tmp 22)) 19,
 o 24 (.pick (.tmp 19) (.const (.bool true)) (.tmp 23)),
 o 25 (mv 24),
 oF 26 (fa 113 4 2) 25,
 oF 27 (ld 3 26) 25,
 oF 28 (cl 128 #[(t 27)] #[3]) 25,
 oF 29 (.unOp .not 4 (.tmp 28)) 25,
 o 30 (.pick (.tmp 25) (.const (.bool true)) (.tmp 29)),
 o 31 (mv 30),
 oF 32 (mv 0) 31,
 oF 33 (mv 3) 31,
 oF 34 (.slice 49 (.tmp 32) none (some (.tmp 33)) none) 31,
 oF 35 (ld 113 4) 31,
 oF 36 (cl 155 #[(t 35)] #[113]) 31,
 oF 37 (cl 154 #[(t 34), (t 36)] #[49, 161]) 31,
 o 38 (.pick (.tmp 31) (.const (.bool true)) (.tmp 37))] [[], [0], [1], [2], [3, 2], [4], [5, 4], [6, 4, 4], [7, 4], [4, 8], [9, 7], [10], [11, 10], [12, 10, 10], [13, 10], [10, 14], [15, 13], [16], [16], [17, 18, 16], [16], [20, 16, 16], [19, 21, 21, 16], [16, 22]]
def c134_1 : IR := (S (R [o 11 (bo .lss (t 10) (t 9))])
(S (.cond (t 11)
.skip
(.exit 0 []))
(S (.block 1 (S (R [o 12 (mv 10),
 o 13 (ia 49 8 10),
 o 14 (ld 113 13),
 o 4 (al 113),
 o 3 (av 12),
 w (st 113 4 14)])
(S d134_1
(.cond (t 38)
(S (R [o 2 (ab false)])
(.ret [2]))
.skip))))
(R [o 39 (bo .add (t 10) (n 1)),
 o 10 (mv 39)]))))
def c134 : IR := (S (R [o 2 (ab false)])
(S (S (R [o 5 (mv 0),
 o 6 (len 5 49),
 o 7 (bo .gtr (t 6) (n 16))])
(.cond (t 7)
(S (R [o 2 (ab false)])
(.ret [2]))
.skip))
(S (S (R [o 8 (mv 0),
 o 9 (len 8 49),
 o 10 (.move (.const (.int .i64 0)))])
(.block 0 (.loop [0, 8, 9, 10] c134_1)))
(S (R [o 2 (ab true)])
(.ret [2])))))
def g134 : IFn := ⟨40, [.tmp 2], [4], c134, [], false, none⟩
/- 135 veil/writeset.May -/
def d135_1 : IR := D [o 12 (fa 63 4 0),
 o 13 (ld 3 12),
 o 14 (cl 108 #[(t 13)] #[3]),
 o 15 (.unOp .not 4 (.tmp 14)),
 o 16 (mv 15),
 oF 17 (fa 63 4 1) 16,
 oF 18 (ld 3 17) 16,
 oF 19 (cl 153 #[(t 18)] #[3]) 16,
 oF 20 (.unOp .not 4 (.tmp 19)) 16,
 o 21 (.pick (.tmp 16) (.const (.bool true)) (.tmp 20)),
 o 22 (mv 21),
 oF 23 (fa 63 4 2) 22,
 oF 24 (ld 3 23) 22,
 oF 25 (cl 43 #[(t 24)] #[3]) 22,
 oF 26 (.unOp .not 4 (.tmp 25)) 22,
 o 27 (.pick (.tmp 22) (.const (.bool true)) (.tmp 26)),
 o 28 (mv 27),
 oF 29 (mv 3) 28,
 oF 30 (bo .gtr (t 29) (n 0)) 28,
 oF 31 (mv 30) 28,
 oT 32 (mv 0) 31,
 oT 33 (mv 3) 31,
 oT 34 (bo .sub (t 33) (n 1)) 31,
 oT 35 (ia 50 32 34) 31,
 oT 36 (ld 63 35) 31,
 oT 37 (ld 63 4) 31,
 oT 38 (cl 156 #[(t 36), (t 37)] #[63, 63]) 31,
 oT 39 (bo .geq (t 38) (n 0)) 31,
 oF 40 (.pick (.tmp 31) (.tmp 39) (.const (.bool false))) 28,
 o 41 (.pick (.tmp 28) (.const (.bool true)) (.tmp 40))] [[], [0], [1], [2], [3, 2], [4], [5, 4], [6, 4, 4], [7, 4], [4, 8], [9, 7], [10], [11, 10], [12, 10, 10], [13, 10], [10, 14], [15, 13], [16], [17, 16], [18, 16, 16], [19], [19], [21, 19], [20, 22, 19], [23, 19], [19], [24, 25, 19, 19], [26, 19], [19, 27, 16], [16, 28]]
def c135_1 : IR := (S (R [o 8 (bo .lss (t 7) (t 6))])
(S (.cond (t 8)
.skip
(.exit 0 [0]))
(S (.block 1 (S (R [o 9 (mv 7),
 o 10 (ia 50 5 7),
 o 11 (ld 63 10),
 o 4 (al 63),
 o 3 (av 9),
 w (st 63 4 11)])
(S d135_1
(.cond (t 41)
(S (R [o 2 (ab false)])
(.ret [2]))
.skip))))
(R [o 42 (bo .add (t 7) (n 1)),
 o 7 (mv 42)]))))
def c135 : IR := (S (R [o 2 (ab false)])
(S (S (R [o 5 (mv 0),
 o 6 (len 5 50),
 o 7 (.move (.const (.int .i64 0)))])
(.block 0 (.loop [0, 5, 6, 7] c135_1)))
(S (R [o 43 (mv 0),
 o 44 (len 43 50),
 o 45 (bo .leq (t 44) (n 16)),
 o 2 (av 45)])
(.ret [2]))))
def g135 : IFn := ⟨46, [.tmp 2], [4], c135, [], false, none⟩
/- 136 veil/mach.all[veil/api.Read] -/
def c136 : IR := (S (R [z 3 (bx 161 1),
 o 4 (ab false)])
(S (R [o 5 (mv 0),
 o 6 (.makeFunc (Go.Fn.func 157) #[] #[(.tmp 3)]),
 o 7 (cl 154 #[(t 5), (t 6)] #[49, 161]),
 o 8 (.unOp .not 4 (.tmp 7)),
 o 4 (av 8)])
(.ret [4])))
def g136 : IFn := ⟨9, [.tmp 4], [4], c136, [], false, none⟩
/- 137 (veil/mach.looker).read -/
def c137 : IR := (S (R [z 2 (bx 141 0),
 z 3 (bx 113 1),
 o 4 (ab false)])
(S (R [o 5 (fa 141 2 0),
 o 6 (ld 139 5),
 o 7 (fa 113 3 0),
 o 8 (ld 3 7),
 o 9 (fa 113 3 1),
 o 10 (ld 3 9),
 o 11 (cl 158 #[(t 6), (t 8), (t 10)] #[139, 3, 3]),
 o 4 (av 11)])
(.ret [4])))
def g137 : IFn := ⟨12, [.tmp 4], [4], c137, [], false, none⟩
/- 138 veil/mach.all[veil/api.Write] -/
def c138 : IR := (S (R [z 3 (bx 163 1),
 o 4 (ab false)])
(S (R [o 5 (mv 0),
 o 6 (.makeFunc (Go.Fn.func 160) #[] #[(.tmp 3)]),
 o 7 (cl 159 #[(t 5), (t 6)] #[50, 163]),
 o 8 (.unOp .not 4 (.tmp 7)),
 o 4 (av 8)])
(.ret [4])))
def g138 : IFn := ⟨9, [.tmp 4], [4], c138, [], false, none⟩
/- 139 (veil/mach.looker).write -/
def c139 : IR := (S (R [z 2 (bx 141 0),
 z 3 (bx 63 1),
 o 4 (ab false)])
(S (R [o 5 (fa 141 2 0),
 o 6 (ld 139 5),
 o 7 (fa 63 3 0),
 o 8 (ld 3 7),
 o 9 (fa 63 3 1),
 o 10 (ld 3 9),
 o 11 (cl 158 #[(t 6), (t 8), (t 10)] #[139, 3, 3]),
 o 4 (av 11)])
(.ret [4])))
def g139 : IFn := ⟨12, [.tmp 4], [4], c139, [], false, none⟩
/- 140 veil/mach.all[veil/api.Inst] -/
def c140 : IR := (S (R [z 3 (bx 165 1),
 o 4 (ab false)])
(S (R [o 5 (mv 0),
 o 6 (.makeFunc (Go.Fn.func 162) #[] #[(.tmp 3)]),
 o 7 (cl 161 #[(t 5), (t 6)] #[48, 165]),
 o 8 (.unOp .not 4 (.tmp 7)),
 o 4 (av 8)])
(.ret [4])))
def g140 : IFn := ⟨9, [.tmp 4], [4], c140, [], false, none⟩
/- 141 (veil/mach.looker).inst -/
def c141 : IR := (S (R [z 2 (bx 141 0),
 z 3 (bx 69 1),
 o 4 (ab false)])
(S (R [o 5 (ld 69 3),
 o 6 (cl 163 #[(t 5)] #[69]),
 o 7 (.unOp .not 4 (.tmp 6)),
 o 8 (mv 7),
 oF 9 (fa 141 2 0) 8,
 oF 10 (ld 139 9) 8,
 oF 11 (fa 69 3 2) 8,
 oF 12 (ld 3 11) 8,
 oF 13 (fa 69 3 3) 8,
 oF 14 (ld 3 13) 8,
 oF 15 (cl 158 #[(t 10), (t 12), (t 14)] #[139, 3, 3]) 8,
 o 16 (.pick (.tmp 8) (.const (.bool true)) (.tmp 15)),
 o 4 (av 16)])
(.ret [4])))
def g141 : IFn := ⟨17, [.tmp 4], [4], c141, [], false, none⟩
/- 142 veil/mach.in -/
def c142 : IR := (S (R [o 4 (ab false)])
(S (R [o 5 (mv 0),
 o 6 (bo .geq (t 5) (n 0)),
 o 7 (mv 6),
 oT 8 (mv 0) 7,
 oT 9 (mv 1) 7,
 oT 10 (bo .leq (t 8) (t 9)) 7,
 o 11 (.pick (.tmp 7) (.tmp 10) (.const (.bool false))),
 o 4 (av 11)])
(.ret [4])))
def g142 : IFn := ⟨12, [.tmp 4], [4], c142, [], false, none⟩
/- 143 veil/regs.May -/
def c143_1 : IR := (S (R [o 7 (bo .lss (t 6) (n 4))])
(S (.cond (t 7)
.skip
(.exit 0 []))
(S (.block 1 (S (R [o 8 (nc 5),
 o 9 (ia 24 8 6),
 o 10 (ld 3 9),
 o 4 (av 10)])
(S (R [o 11 (mv 4),
 o 12 (cl 43 #[(t 11)] #[3]),
 o 13 (.unOp .not 4 (.tmp 12))])
(.cond (t 13)
(S (R [o 2 (ab false)])
(.ret [2]))
.skip))))
(R [o 14 (bo .add (t 6) (n 1)),
 o 6 (mv 14)]))))
def c143 : IR := (S (R [o 2 (ab false)])
(S (S (R [o 5 (mv 0),
 o 6 (.move (.const (.int .i64 0)))])
(.block 0 (.loop [5, 6] c143_1)))
(S (R [o 2 (ab true)])
(.ret [2]))))
def g143 : IFn := ⟨15, [.tmp 2], [4], c143, [], false, none⟩
/- 144 slices.ContainsFunc[[]veil/api.Event,veil/api.Event] -/
def c144 : IR := (S (R [o 4 (ab false)])
(S (R [o 5 (mv 0),
 o 6 (mv 1),
 o 7 (cl 164 #[(t 5), (t 6)] #[26, 136]),
 o 8 (bo .geq (t 7) (n 0)),
 o 4 (av 8)])
(.ret [4])))
def g144 : IFn := ⟨9, [.tmp 4], [4], c144, [], false, none⟩
/- 145 veil/mach.all[veil/api.Event]$1 -/
def c145 : IR := (S (R [z 2 (bx 55 0),
 o 3 (ab false)])
(S (R [o 4 (ld 136 1),
 o 5 (ld 55 2),
 o 6 (.call { callee := (.value (.tmp 4)), args := #[(.tmp 5)], argTypes := #[55] }),
 o 7 (.unOp .not 4 (.tmp 6)),
 o 3 (av 7)])
(.ret [3])))
def g145 : IFn := ⟨8, [.tmp 3], [4], c145, [], false, none⟩
/- 146 veil/veilref1.InstMay -/
def c146 : IR := (S (R [z 1 (bx 69 0),
 o 2 (ab false)])
(S (S (R [o 3 (fa 69 1 0),
 o 4 (ld 3 3)])
(.block 0 (S (R [o 6 (bo .eql (t 4) (n 0)),
 o 5 (av 6)])
(.cond (t 5)
(S (R [o 7 (fa 69 1 1),
 o 8 (ld 3 7),
 o 9 (cl 147 #[(t 8)] #[3]),
 o 10 (mv 9),
 oT 11 (fa 69 1 2) 10,
 oT 12 (ld 3 11) 10,
 oT 13 (cl 45 #[(t 12)] #[3]) 10,
 o 14 (.pick (.tmp 10) (.tmp 13) (.const (.bool false))),
 o 15 (mv 14),
 oT 16 (fa 69 1 3) 15,
 oT 17 (ld 3 16) 15,
 oT 18 (bo .eql (t 17) (n 0)) 15,
 o 19 (.pick (.tmp 15) (.tmp 18) (.const (.bool false))),
 o 2 (av 19)])
(.ret [2]))
(S (R [o 21 (bo .eql (t 4) (n 1)),
 o 20 (av 21)])
(.cond (t 20)
(S (R [o 22 (fa 69 1 1),
 o 23 (ld 3 22),
 o 24 (cl 147 #[(t 23)] #[3]),
 o 25 (mv 24),
 oT 26 (fa 69 1 2) 25,
 oT 27 (ld 3 26) 25,
 oT 28 (cl 147 #[(t 27)] #[3]) 25,
 o 29 (.pick (.tmp 25) (.tmp 28) (.const (.bool false))),
 o 30 (mv 29),
 oT 31 (fa 69 1 3) 30,
 oT 32 (ld 3 31) 30,
 oT 33 (bo .eql (t 32) (n 0)) 30,
 o 34 (.pick (.tmp 30) (.tmp 33) (.const (.bool false))),
 o 2 (av 34)])
(.ret [2]))
(S (S (R [o 36 (bo .eql (t 4) (n 2)),
 o 35 (av 36)])
(.cond (t 35)
.skip
(R [o 37 (bo .eql (t 4) (n 3)),
 o 35 (av 37)])))
(.cond (t 35)
(S (R [o 38 (fa 69 1 1),
 o 39 (ld 3 38),
 o 40 (cl 147 #[(t 39)] #[3]),
 o 41 (mv 40),
 oT 42 (fa 69 1 2) 41,
 oT 43 (ld 3 42) 41,
 oT 44 (cl 57 #[(t 43)] #[3]) 41,
 o 45 (.pick (.tmp 41) (.tmp 44) (.const (.bool false))),
 o 46 (mv 45),
 oT 47 (fa 69 1 3) 46,
 oT 48 (ld 3 47) 46,
 oT 49 (cl 77 #[(t 48), (n 0), (n 3)] #[3, 3, 3]) 46,
 o 50 (.pick (.tmp 46) (.tmp 49) (.const (.bool false))),
 o 2 (av 50)])
(.ret [2]))
(S (R [o 52 (bo .eql (t 4) (n 4)),
 o 51 (av 52)])
(.cond (t 51)
(S (R [o 53 (fa 69 1 1),
 o 54 (ld 3 53),
 o 55 (cl 147 #[(t 54)] #[3]),
 o 56 (mv 55),
 oT 57 (fa 69 1 2) 56,
 oT 58 (ld 3 57) 56,
 oT 59 (cl 77 #[(t 58), (n 0), (n 16)] #[3, 3, 3]) 56,
 o 60 (.pick (.tmp 56) (.tmp 59) (.const (.bool false))),
 o 61 (mv 60),
 oT 62 (fa 69 1 3) 61,
 oT 63 (ld 3 62) 61,
 oT 64 (bo .eql (t 63) (n 0)) 61,
 o 65 (.pick (.tmp 61) (.tmp 64) (.const (.bool false))),
 o 2 (av 65)])
(.ret [2]))
(S (R [o 67 (bo .eql (t 4) (n 5)),
 o 66 (av 67)])
(.cond (t 66)
(S (R [o 68 (ld 69 1),
 o 69 (.build 69 #[(0, (.const (.int .i64 5)))]),
 o 70 (.binOp .eql 69 (.tmp 68) (.tmp 69) 69),
 o 2 (av 70)])
(.ret [2]))
(S (R [o 72 (bo .eql (t 4) (n 6)),
 o 71 (av 72)])
(.cond (t 71)
(S (R [o 73 (fa 69 1 1),
 o 74 (ld 3 73),
 o 75 (cl 45 #[(t 74)] #[3]),
 o 76 (mv 75),
 oT 77 (fa 69 1 2) 76,
 oT 78 (ld 3 77) 76,
 oT 79 (bo .eql (t 78) (n 0)) 76,
 o 80 (.pick (.tmp 76) (.tmp 79) (.const (.bool false))),
 o 81 (mv 80),
 oT 82 (fa 69 1 3) 81,
 oT 83 (ld 3 82) 81,
 oT 84 (bo .eql (t 83) (n 0)) 81,
 o 85 (.pick (.tmp 81) (.tmp 84) (.const (.bool false))),
 o 2 (av 85)])
(.ret [2]))
.skip))))))))))))))
(S (R [o 2 (ab false)])
(.ret [2]))))
def g146 : IFn := ⟨86, [.tmp 2], [4], c146, [], false, none⟩
/- 147 veil/veilref1.regMay -/
def c147 : IR := (S (R [o 2 (ab false)])
(S (R [o 3 (mv 0),
 o 4 (cl 77 #[(t 3), (n 0), (n 3)] #[3, 3, 3]),
 o 2 (av 4)])
(.ret [2])))
def g147 : IFn := ⟨5, [.tmp 2], [4], c147, [], false, none⟩
/- 148 slices.IndexFunc[[]veil/api.Word,veil/api.Word] -/
def c148_1 : IR := (S (R [o 9 (bo .lss (t 8) (t 7))])
(S (.cond (t 9)
.skip
(.exit 0 []))
(S (.block 1 (S (R [o 10 (mv 8),
 o 5 (av 10)])
(S (R [o 11 (mv 1),
 o 12 (mv 0),
 o 13 (mv 5),
 o 14 (ia 22 12 13),
 o 15 (ld 65 14),
 o 16 (.call { callee := (.value (.tmp 11)), args := #[(.tmp 15)], argTypes := #[65] })])
(.cond (t 16)
(S (R [o 17 (mv 5),
 o 4 (av 17)])
(.ret [4]))
.skip))))
(R [o 18 (bo .add (t 8) (n 1)),
 o 8 (mv 18)]))))
def c148 : IR := (S (R [o 4 (an 0)])
(S (S (R [o 6 (mv 0),
 o 7 (len 6 22),
 o 8 (.move (.const (.int .i64 0)))])
(.block 0 (.loop [0, 1, 7, 8] c148_1)))
(S (R [o 4 (an (-1))])
(.ret [4]))))
def g148 : IFn := ⟨19, [.tmp 4], [3], c148, [], false, none⟩
/- 149 slices.IndexFunc[[]veil/api.Session,veil/api.Session] -/
def c149_1 : IR := (S (R [o 9 (bo .lss (t 8) (t 7))])
(S (.cond (t 9)
.skip
(.exit 0 []))
(S (.block 1 (S (R [o 10 (mv 8),
 o 5 (av 10)])
(S (R [o 11 (mv 1),
 o 12 (mv 0),
 o 13 (mv 5),
 o 14 (ia 25 12 13),
 o 15 (ld 52 14),
 o 16 (.call { callee := (.value (.tmp 11)), args := #[(.tmp 15)], argTypes := #[52] })])
(.cond (t 16)
(S (R [o 17 (mv 5),
 o 4 (av 17)])
(.ret [4]))
.skip))))
(R [o 18 (bo .add (t 8) (n 1)),
 o 8 (mv 18)]))))
def c149 : IR := (S (R [o 4 (an 0)])
(S (S (R [o 6 (mv 0),
 o 7 (len 6 25),
 o 8 (.move (.const (.int .i64 0)))])
(.block 0 (.loop [0, 1, 7, 8] c149_1)))
(S (R [o 4 (an (-1))])
(.ret [4]))))
def g149 : IFn := ⟨19, [.tmp 4], [3], c149, [], false, none⟩
/- 150 veil/word.Id -/
def c150 : IR := (S (R [o 2 (ab false)])
(S (R [o 3 (mv 0),
 o 4 (cl 76 #[(t 3), (n 254)] #[3, 3]),
 o 2 (av 4)])
(.ret [2])))
def g150 : IFn := ⟨5, [.tmp 2], [4], c150, [], false, none⟩
/- 151 veil/label.Under -/
def c151 : IR := (S (R [o 4 (ab false)])
(S (R [o 5 (mv 0),
 o 6 (mv 1),
 o 7 (bo .or (t 5) (t 6)),
 o 8 (mv 1),
 o 9 (bo .eql (t 7) (t 8)),
 o 4 (av 9)])
(.ret [4])))
def g151 : IFn := ⟨10, [.tmp 4], [4], c151, [], false, none⟩
/- 152 veil/prog.May -/
def c152_1 : IR := (S (R [o 8 (bo .lss (t 7) (t 6))])
(S (.cond (t 8)
.skip
(.exit 0 [0]))
(S (.block 1 (S (R [o 9 (mv 7),
 o 10 (ia 48 5 7),
 o 11 (ld 69 10),
 o 4 (al 69),
 o 3 (av 9),
 w (st 69 4 11)])
(S (R [o 12 (ld 69 4),
 o 13 (cl 165 #[(t 12)] #[69]),
 o 14 (.unOp .not 4 (.tmp 13)),
 o 15 (mv 14),
 oF 16 (fa 69 4 0) 15,
 oF 17 (ld 3 16) 15,
 oF 18 (bo .eql (t 17) (n 4)) 15,
 oF 19 (mv 18) 15,
 oT 20 (fa 69 4 2) 19,
 oT 21 (ld 3 20) 19,
 oT 22 (mv 3) 19,
 oT 23 (bo .leq (t 21) (t 22)) 19,
 oT 24 (mv 23) 19,
 oF 25 (fa 69 4 2) 24,
 oF 26 (ld 3 25) 24,
 oF 27 (mv 0) 24,
 oF 28 (len 27 48) 24,
 oF 29 (bo .gtr (t 26) (t 28)) 24,
 oT 30 (.pick (.tmp 24) (.const (.bool true)) (.tmp 29)) 19,
 oF 31 (.pick (.tmp 19) (.tmp 30) (.const (.bool false))) 15,
 o 32 (.pick (.tmp 15) (.const (.bool true)) (.tmp 31))])
(.cond (t 32)
(S (R [o 2 (ab false)])
(.ret [2]))
.skip))))
(R [o 33 (bo .add (t 7) (n 1)),
 o 7 (mv 33)]))))
def c152 : IR := (S (R [o 2 (ab false)])
(S (S (R [o 5 (mv 0),
 o 6 (len 5 48),
 o 7 (.move (.const (.int .i64 0)))])
(.block 0 (.loop [0, 5, 6, 7] c152_1)))
(S (R [o 34 (mv 0),
 o 35 (len 34 48),
 o 36 (bo .leq (t 35) (n 16)),
 o 2 (av 36)])
(.ret [2]))))
def g152 : IFn := ⟨37, [.tmp 2], [4], c152, [], false, none⟩
/- 153 veil/readset.Index -/
def c153 : IR := (S (R [o 2 (ab false)])
(S (R [o 3 (mv 0),
 o 4 (bo .geq (t 3) (n 0)),
 o 5 (mv 4),
 oT 6 (mv 0) 5,
 oT 7 (bo .lss (t 6) (n 4)) 5,
 o 8 (.pick (.tmp 5) (.tmp 7) (.const (.bool false))),
 o 2 (av 8)])
(.ret [2])))
def g153 : IFn := ⟨9, [.tmp 2], [4], c153, [], false, none⟩
/- 154 slices.ContainsFunc[[]veil/api.Read,veil/api.Read] -/
def c154 : IR := (S (R [o 4 (ab false)])
(S (R [o 5 (mv 0),
 o 6 (mv 1),
 o 7 (cl 166 #[(t 5), (t 6)] #[49, 161]),
 o 8 (bo .geq (t 7) (n 0)),
 o 4 (av 8)])
(.ret [4])))
def g154 : IFn := ⟨9, [.tmp 4], [4], c154, [], false, none⟩
/- 155 veil/readset.of -/
def c155 : IR := (S (R [z 1 (bx 113 0),
 o 2 (.assign (.const .nilFunc))])
(S (R [o 3 (.makeFunc (Go.Fn.func 167) #[] #[(.tmp 1)]),
 o 2 (av 3)])
(.ret [2])))
def g155 : IFn := ⟨4, [.tmp 2], [161], c155, [], false, none⟩
/- 156 veil/writeset.row -/
def c156 : IR := (S (R [z 2 (bx 63 0),
 z 3 (bx 63 1),
 o 4 (an 0)])
(S (R [o 5 (fa 63 2 0),
 o 6 (ld 3 5),
 o 7 (fa 63 3 0),
 o 8 (ld 3 7),
 o 9 (bo .sub (t 6) (t 8)),
 o 10 (fa 63 2 1),
 o 11 (ld 3 10),
 o 12 (fa 63 3 1),
 o 13 (ld 3 12),
 o 14 (bo .sub (t 11) (t 13)),
 o 15 (.buildSlice 46 2 #[(0, (.tmp 9)), (1, (.tmp 14))]),
 o 16 (cl 168 #[(t 15)] #[46]),
 o 4 (av 16)])
(.ret [4])))
def g156 : IFn := ⟨17, [.tmp 4], [3], c156, [], false, none⟩
/- 157 veil/mach.all[veil/api.Read]$1 -/
def c157 : IR := (S (R [z 2 (bx 113 0),
 o 3 (ab false)])
(S (R [o 4 (ld 161 1),
 o 5 (ld 113 2),
 o 6 (.call { callee := (.value (.tmp 4)), args := #[(.tmp 5)], argTypes := #[113] }),
 o 7 (.unOp .not 4 (.tmp 6)),
 o 3 (av 7)])
(.ret [3])))
def g157 : IFn := ⟨8, [.tmp 3], [4], c157, [], false, none⟩
/- 158 veil/arena.There -/
def c158 : IR := (S (R [o 6 (ab false)])
(S (R [o 7 (mv 1),
 o 8 (cl 108 #[(t 7)] #[3]),
 o 9 (mv 8),
 oT 10 (mv 2) 9,
 oT 11 (bo .geq (t 10) (n 0)) 9,
 o 12 (.pick (.tmp 9) (.tmp 11) (.const (.bool false))),
 o 13 (mv 12),
 oT 14 (mv 2) 13,
 oT 15 (mv 0) 13,
 oT 16 (mv 1) 13,
 oT 17 (nc 15) 13,
 oT 18 (ia 23 17 16) 13,
 oT 19 (ld 22 18) 13,
 oT 20 (len 19 22) 13,
 oT 21 (bo .lss (t 14) (t 20)) 13,
 o 22 (.pick (.tmp 13) (.tmp 21) (.const (.bool false))),
 o 6 (av 22)])
(.ret [6])))
def g158 : IFn := ⟨23, [.tmp 6], [4], c158, [], false, none⟩
/- 159 slices.ContainsFunc[[]veil/api.Write,veil/api.Write] -/
def c159 : IR := (S (R [o 4 (ab false)])
(S (R [o 5 (mv 0),
 o 6 (mv 1),
 o 7 (cl 169 #[(t 5), (t 6)] #[50, 163]),
 o 8 (bo .geq (t 7) (n 0)),
 o 4 (av 8)])
(.ret [4])))
def g159 : IFn := ⟨9, [.tmp 4], [4], c159, [], false, none⟩
/- 160 veil/mach.all[veil/api.Write]$1 -/
def c160 : IR := (S (R [z 2 (bx 63 0),
 o 3 (ab false)])
(S (R [o 4 (ld 163 1),
 o 5 (ld 63 2),
 o 6 (.call { callee := (.value (.tmp 4)), args := #[(.tmp 5)], argTypes := #[63] }),
 o 7 (.unOp .not 4 (.tmp 6)),
 o 3 (av 7)])
(.ret [3])))
def g160 : IFn := ⟨8, [.tmp 3], [4], c160, [], false, none⟩
/- 161 slices.ContainsFunc[[]veil/api.Inst,veil/api.Inst] -/
def c161 : IR := (S (R [o 4 (ab false)])
(S (R [o 5 (mv 0),
 o 6 (mv 1),
 o 7 (cl 170 #[(t 5), (t 6)] #[48, 165]),
 o 8 (bo .geq (t 7) (n 0)),
 o 4 (av 8)])
(.ret [4])))
def g161 : IFn := ⟨9, [.tmp 4], [4], c161, [], false, none⟩
/- 162 veil/mach.all[veil/api.Inst]$1 -/
def c162 : IR := (S (R [z 2 (bx 69 0),
 o 3 (ab false)])
(S (R [o 4 (ld 165 1),
 o 5 (ld 69 2),
 o 6 (.call { callee := (.value (.tmp 4)), args := #[(.tmp 5)], argTypes := #[69] }),
 o 7 (.unOp .not 4 (.tmp 6)),
 o 3 (av 7)])
(.ret [3])))
def g162 : IFn := ⟨8, [.tmp 3], [4], c162, [], false, none⟩
/- 163 veil/inst.Word -/
def c163 : IR := (S (R [z 1 (bx 69 0),
 o 2 (ab false)])
(S (R [o 3 (fa 69 1 0),
 o 4 (ld 3 3),
 o 5 (bo .eql (t 4) (n 2)),
 o 6 (mv 5),
 oF 7 (fa 69 1 0) 6,
 oF 8 (ld 3 7) 6,
 oF 9 (bo .eql (t 8) (n 3)) 6,
 o 10 (.pick (.tmp 6) (.const (.bool true)) (.tmp 9)),
 o 2 (av 10)])
(.ret [2])))
def g163 : IFn := ⟨11, [.tmp 2], [4], c163, [], false, none⟩
/- 164 slices.IndexFunc[[]veil/api.Event,veil/api.Event] -/
def c164_1 : IR := (S (R [o 9 (bo .lss (t 8) (t 7))])
(S (.cond (t 9)
.skip
(.exit 0 []))
(S (.block 1 (S (R [o 10 (mv 8),
 o 5 (av 10)])
(S (R [o 11 (mv 1),
 o 12 (mv 0),
 o 13 (mv 5),
 o 14 (ia 26 12 13),
 o 15 (ld 55 14),
 o 16 (.call { callee := (.value (.tmp 11)), args := #[(.tmp 15)], argTypes := #[55] })])
(.cond (t 16)
(S (R [o 17 (mv 5),
 o 4 (av 17)])
(.ret [4]))
.skip))))
(R [o 18 (bo .add (t 8) (n 1)),
 o 8 (mv 18)]))))
def c164 : IR := (S (R [o 4 (an 0)])
(S (S (R [o 6 (mv 0),
 o 7 (len 6 26),
 o 8 (.move (.const (.int .i64 0)))])
(.block 0 (.loop [0, 1, 7, 8] c164_1)))
(S (R [o 4 (an (-1))])
(.ret [4]))))
def g164 : IFn := ⟨19, [.tmp 4], [3], c164, [], false, none⟩
/- 165 veil/inst.May -/
def d165_1 : IR := D [o 3 (ld 69 1),
 o 4 (cl 171 #[(t 3)] #[69]),
 o 5 (ld 69 1),
 o 6 (.binOp .neq 69 (.tmp 4) (.tmp 5) 69)] [[], [0], [], [1, 2]]
def c165 : IR := (S (R [z 1 (bx 69 0),
 o 2 (ab false)])
(S (S d165_1
(.cond (t 6)
(S (R [o 2 (ab false)])
(.ret [2]))
.skip))
(S (S (R [o 7 (fa 69 1 0),
 o 8 (ld 3 7)])
(.block 0 (S (R [o 10 (bo .eql (t 8) (n 0)),
 o 9 (av 10)])
(.cond (t 9)
(S (R [o 11 (fa 69 1 1),
 o 12 (ld 3 11),
 o 13 (cl 172 #[(t 12)] #[3]),
 o 14 (mv 13),
 oT 15 (fa 69 1 2) 14,
 oT 16 (ld 3 15) 14,
 oT 17 (cl 43 #[(t 16)] #[3]) 14,
 o 18 (.pick (.tmp 14) (.tmp 17) (.const (.bool false))),
 o 2 (av 18)])
(.ret [2]))
(S (R [o 20 (bo .eql (t 8) (n 1)),
 o 19 (av 20)])
(.cond (t 19)
(S (R [o 21 (fa 69 1 1),
 o 22 (ld 3 21),
 o 23 (cl 172 #[(t 22)] #[3]),
 o 24 (mv 23),
 oT 25 (fa 69 1 2) 24,
 oT 26 (ld 3 25) 24,
 oT 27 (cl 172 #[(t 26)] #[3]) 24,
 o 28 (.pick (.tmp 24) (.tmp 27) (.const (.bool false))),
 o 2 (av 28)])
(.ret [2]))
(S (S (R [o 30 (bo .eql (t 8) (n 2)),
 o 29 (av 30)])
(.cond (t 29)
.skip
(R [o 31 (bo .eql (t 8) (n 3)),
 o 29 (av 31)])))
(.cond (t 29)
(S (R [o 32 (fa 69 1 1),
 o 33 (ld 3 32),
 o 34 (cl 172 #[(t 33)] #[3]),
 o 35 (mv 34),
 oT 36 (fa 69 1 2) 35,
 oT 37 (ld 3 36) 35,
 oT 38 (cl 108 #[(t 37)] #[3]) 35,
 o 39 (.pick (.tmp 35) (.tmp 38) (.const (.bool false))),
 o 40 (mv 39),
 oT 41 (fa 69 1 3) 40,
 oT 42 (ld 3 41) 40,
 oT 43 (bo .geq (t 42) (n 0)) 40,
 o 44 (.pick (.tmp 40) (.tmp 43) (.const (.bool false))),
 o 45 (mv 44),
 oT 46 (fa 69 1 3) 45,
 oT 47 (ld 3 46) 45,
 oT 48 (bo .lss (t 47) (n 4)) 45,
 o 49 (.pick (.tmp 45) (.tmp 48) (.const (.bool false))),
 o 2 (av 49)])
(.ret [2]))
(S (R [o 51 (bo .eql (t 8) (n 4)),
 o 50 (av 51)])
(.cond (t 50)
(S (R [o 52 (fa 69 1 1),
 o 53 (ld 3 52),
 o 54 (cl 172 #[(t 53)] #[3]),
 o 55 (mv 54),
 oT 56 (fa 69 1 2) 55,
 oT 57 (ld 3 56) 55,
 oT 58 (bo .geq (t 57) (n 0)) 55,
 o 59 (.pick (.tmp 55) (.tmp 58) (.const (.bool false))),
 o 60 (mv 59),
 oT 61 (fa 69 1 2) 60,
 oT 62 (ld 3 61) 60,
 oT 63 (bo .leq (t 62) (n 16)) 60,
 o 64 (.pick (.tmp 60) (.tmp 63) (.const (.bool false))),
 o 2 (av 64)])
(.ret [2]))
(S (R [o 66 (bo .eql (t 8) (n 5)),
 o 65 (av 66)])
(.cond (t 65)
(S (R [o 2 (ab true)])
(.ret [2]))
.skip))))))))))))
(S (R [o 67 (fa 69 1 0),
 o 68 (ld 3 67),
 o 69 (bo .eql (t 68) (n 6)),
 o 70 (mv 69),
 oT 71 (fa 69 1 1) 70,
 oT 72 (ld 3 71) 70,
 oT 73 (cl 43 #[(t 72)] #[3]) 70,
 o 74 (.pick (.tmp 70) (.tmp 73) (.const (.bool false))),
 o 2 (av 74)])
(.ret [2])))))
def g165 : IFn := ⟨75, [.tmp 2], [4], c165, [], false, none⟩
/- 166 slices.IndexFunc[[]veil/api.Read,veil/api.Read] -/
def c166_1 : IR := (S (R [o 9 (bo .lss (t 8) (t 7))])
(S (.cond (t 9)
.skip
(.exit 0 []))
(S (.block 1 (S (R [o 10 (mv 8),
 o 5 (av 10)])
(S (R [o 11 (mv 1),
 o 12 (mv 0),
 o 13 (mv 5),
 o 14 (ia 49 12 13),
 o 15 (ld 113 14),
 o 16 (.call { callee := (.value (.tmp 11)), args := #[(.tmp 15)], argTypes := #[113] })])
(.cond (t 16)
(S (R [o 17 (mv 5),
 o 4 (av 17)])
(.ret [4]))
.skip))))
(R [o 18 (bo .add (t 8) (n 1)),
 o 8 (mv 18)]))))
def c166 : IR := (S (R [o 4 (an 0)])
(S (S (R [o 6 (mv 0),
 o 7 (len 6 49),
 o 8 (.move (.const (.int .i64 0)))])
(.block 0 (.loop [0, 1, 7, 8] c166_1)))
(S (R [o 4 (an (-1))])
(.ret [4]))))
def g166 : IFn := ⟨19, [.tmp 4], [3], c166, [], false, none⟩
/- 167 veil/readset.of$1 -/
def c167 : IR := (S (R [z 2 (bx 113 0),
 o 3 (ab false)])
(S (R [o 4 (fa 113 2 0),
 o 5 (ld 3 4),
 o 6 (fa 113 1 0),
 o 7 (ld 3 6),
 o 8 (bo .eql (t 5) (t 7)),
 o 9 (mv 8),
 oT 10 (fa 113 2 1) 9,
 oT 11 (ld 3 10) 9,
 oT 12 (fa 113 1 1) 9,
 oT 13 (ld 3 12) 9,
 oT 14 (bo .eql (t 11) (t 13)) 9,
 o 15 (.pick (.tmp 9) (.tmp 14) (.const (.bool false))),
 o 3 (av 15)])
(.ret [3])))
def g167 : IFn := ⟨16, [.tmp 3], [4], c167, [], false, none⟩
/- 168 cmp.Or[int] -/
def c168_1 : IR := (S (R [o 9 (bo .lss (t 8) (t 7))])
(S (.cond (t 9)
.skip
(.exit 0 [3]))
(S (.block 1 (S (R [o 10 (ia 46 6 8),
 o 11 (ld 3 10),
 o 5 (av 11)])
(S (R [o 12 (mv 5),
 o 13 (mv 3),
 o 14 (bo .neq (t 12) (t 13))])
(.cond (t 14)
(S (R [o 15 (mv 5),
 o 2 (av 15)])
(.ret [2]))
.skip))))
(R [o 16 (bo .add (t 8) (n 1)),
 o 8 (mv 16)]))))
def c168 : IR := (S (R [o 2 (an 0)])
(S (R [o 3 (an 0)])
(S (S (R [o 6 (mv 0),
 o 7 (len 6 46),
 o 8 (.move (.const (.int .i64 0)))])
(.block 0 (.loop [3, 6, 7, 8] c168_1)))
(S (R [o 17 (mv 3),
 o 2 (av 17)])
(.ret [2])))))
def g168 : IFn := ⟨18, [.tmp 2], [3], c168, [], false, none⟩
/- 169 slices.IndexFunc[[]veil/api.Write,veil/api.Write] -/
def c169_1 : IR := (S (R [o 9 (bo .lss (t 8) (t 7))])
(S (.cond (t 9)
.skip
(.exit 0 []))
(S (.block 1 (S (R [o 10 (mv 8),
 o 5 (av 10)])
(S (R [o 11 (mv 1),
 o 12 (mv 0),
 o 13 (mv 5),
 o 14 (ia 50 12 13),
 o 15 (ld 63 14),
 o 16 (.call { callee := (.value (.tmp 11)), args := #[(.tmp 15)], argTypes := #[63] })])
(.cond (t 16)
(S (R [o 17 (mv 5),
 o 4 (av 17)])
(.ret [4]))
.skip))))
(R [o 18 (bo .add (t 8) (n 1)),
 o 8 (mv 18)]))))
def c169 : IR := (S (R [o 4 (an 0)])
(S (S (R [o 6 (mv 0),
 o 7 (len 6 50),
 o 8 (.move (.const (.int .i64 0)))])
(.block 0 (.loop [0, 1, 7, 8] c169_1)))
(S (R [o 4 (an (-1))])
(.ret [4]))))
def g169 : IFn := ⟨19, [.tmp 4], [3], c169, [], false, none⟩
/- 170 slices.IndexFunc[[]veil/api.Inst,veil/api.Inst] -/
def c170_1 : IR := (S (R [o 9 (bo .lss (t 8) (t 7))])
(S (.cond (t 9)
.skip
(.exit 0 []))
(S (.block 1 (S (R [o 10 (mv 8),
 o 5 (av 10)])
(S (R [o 11 (mv 1),
 o 12 (mv 0),
 o 13 (mv 5),
 o 14 (ia 48 12 13),
 o 15 (ld 69 14),
 o 16 (.call { callee := (.value (.tmp 11)), args := #[(.tmp 15)], argTypes := #[69] })])
(.cond (t 16)
(S (R [o 17 (mv 5),
 o 4 (av 17)])
(.ret [4]))
.skip))))
(R [o 18 (bo .add (t 8) (n 1)),
 o 8 (mv 18)]))))
def c170 : IR := (S (R [o 4 (an 0)])
(S (S (R [o 6 (mv 0),
 o 7 (len 6 48),
 o 8 (.move (.const (.int .i64 0)))])
(.block 0 (.loop [0, 1, 7, 8] c170_1)))
(S (R [o 4 (an (-1))])
(.ret [4]))))
def g170 : IFn := ⟨19, [.tmp 4], [3], c170, [], false, none⟩
/- 171 veil/inst.names -/
def d171_1 : IR := D [o 13 (fa 69 1 1),
 o 14 (ld 3 13),
 o 15 (fa 69 1 2),
 o 16 (ld 3 15),
 o 17 (fa 69 3 1),
 w (st 3 17 14),
 o 18 (fa 69 3 2),
 w (st 3 18 16)] [[], [0], [], [2], [0, 1], [4, 1, 0, 1], [0, 1, 2, 3, 4, 5], [6, 3, 5, 0, 1, 2, 3, 4, 5]]
def c171 : IR := (S (R [z 1 (bx 69 0),
 o 2 (al 69)])
(S (R [o 4 (fa 69 1 0),
 o 5 (ld 3 4),
 o 6 (.build 69 #[(0, (.tmp 5))]),
 o 3 (al 69),
 w (st 69 3 6)])
(S (S (R [o 7 (fa 69 1 0),
 o 8 (ld 3 7)])
(.block 0 (S (S (R [o 10 (bo .eql (t 8) (n 0)),
 o 9 (av 10)])
(.cond (t 9)
.skip
(S (R [o 11 (bo .eql (t 8) (n 1)),
 o 9 (av 11)])
(.cond (t 9)
.skip
(R [o 12 (bo .eql (t 8) (n 4)),
 o 9 (av 12)])))))
(.cond (t 9)
d171_1
(S (S (R [o 20 (bo .eql (t 8) (n 2)),
 o 19 (av 20)])
(.cond (t 19)
.skip
(R [o 21 (bo .eql (t 8) (n 3)),
 o 19 (av 21)])))
(.cond (t 19)
(R [o 22 (ld 69 1),
 w (st 69 3 22)])
(S (R [o 24 (bo .eql (t 8) (n 6)),
 o 23 (av 24)])
(.cond (t 23)
(R [o 25 (fa 69 1 1),
 o 26 (ld 3 25),
 o 27 (fa 69 3 1),
 w (st 3 27 26)])
.skip))))))))
(S (R [o 28 (ld 69 3),
 w (st 69 2 28)])
(.ret [2])))))
def g171 : IFn := ⟨29, [.cell 2 69], [69], c171, [], false, none⟩
/- 172 veil/regs.Reg -/
def c172 : IR := (S (R [o 2 (ab false)])
(S (R [o 3 (mv 0),
 o 4 (bo .geq (t 3) (n 0)),
 o 5 (mv 4),
 oT 6 (mv 0) 5,
 oT 7 (bo .lss (t 6) (n 4)) 5,
 o 8 (.pick (.tmp 5) (.tmp 7) (.const (.bool false))),
 o 2 (av 8)])
(.ret [2])))
def g172 : IFn := ⟨9, [.tmp 2], [4], c172, [], false, none⟩
def tblL : List (Nat × IFn) := [(3, g3), (4, g4), (5, g5), (6, g6), (7, g7), (8, g8), (9, g9), (10, g10), (11, g11), (12, g12), (13, g13), (14, g14), (15, g15), (16, g16), (17, g17), (18, g18), (19, g19), (20, g20), (21, g21), (22, g22), (23, g23), (24, g24), (25, g25), (26, g26), (27, g27), (28, g28), (29, g29), (30, g30), (31, g31), (32, g32), (33, g33), (34, g34), (35, g35), (36, g36), (37, g37), (38, g38), (39, g39), (40, g40), (41, g41), (42, g42), (43, g43), (44, g44), (45, g45), (46, g46), (47, g47), (48, g48), (49, g49), (50, g50), (51, g51), (52, g52), (53, g53), (54, g54), (55, g55), (56, g56), (57, g57), (58, g58), (59, g59), (60, g60), (61, g61), (62, g62), (63, g63), (64, g64), (65, g65), (66, g66), (67, g67), (68, g68), (69, g69), (70, g70), (71, g71), (72, g72), (73, g73), (74, g74), (75, g75), (76, g76), (77, g77), (78, g78), (79, g79), (80, g80), (81, g81), (82, g82), (83, g83), (84, g84), (85, g85), (86, g86), (87, g87), (88, g88), (89, g89), (90, g90), (91, g91), (92, g92), (93, g93), (94, g94), (95, g95), (96, g96), (97, g97), (98, g98), (99, g99), (100, g100), (101, g101), (102, g102), (103, g103), (104, g104), (105, g105), (106, g106), (107, g107), (108, g108), (109, g109), (110, g110), (111, g111), (112, g112), (113, g113), (114, g114), (115, g115), (116, g116), (117, g117), (118, g118), (119, g119), (120, g120), (121, g121), (122, g122), (123, g123), (124, g124), (125, g125), (126, g126), (127, g127), (128, g128), (129, g129), (130, g130), (131, g131), (132, g132), (133, g133), (134, g134), (135, g135), (136, g136), (137, g137), (138, g138), (139, g139), (140, g140), (141, g141), (142, g142), (143, g143), (144, g144), (145, g145), (146, g146), (147, g147), (148, g148), (149, g149), (150, g150), (151, g151), (152, g152), (153, g153), (154, g154), (155, g155), (156, g156), (157, g157), (158, g158), (159, g159), (160, g160), (161, g161), (162, g162), (163, g163), (164, g164), (165, g165), (166, g166), (167, g167), (168, g168), (169, g169), (170, g170), (171, g171), (172, g172)]
def tbl : Tbl := lk tblL
def ctx : Ctx := ⟨lay, tbl⟩
@[go_sem] theorem ctx_L : ctx.L = lay := rfl
@[go_sem] theorem ctx_T : ctx.T = tbl := rfl
attribute [go_sem] y1 y2 y3 y4 y5 y6 y7 y8 y9 y10 y11 y12 y13 y22 y23 y24 y25 y26 y28 y30 y45 y46 y48 y49 y50 y52 y55 y63 y65 y69 y74 y75 y98 y100 y101 y102 y104 y113 y114 y134 y136 y138 y139 y141 y161 y163 y165 y195
@[go_sem] theorem lay_1 : lay 1 = some y1 := rfl
@[go_sem] theorem lay_2 : lay 2 = some y2 := rfl
@[go_sem] theorem lay_3 : lay 3 = some y3 := rfl
@[go_sem] theorem lay_4 : lay 4 = some y4 := rfl
@[go_sem] theorem lay_5 : lay 5 = some y5 := rfl
@[go_sem] theorem lay_6 : lay 6 = some y6 := rfl
@[go_sem] theorem lay_7 : lay 7 = some y7 := rfl
@[go_sem] theorem lay_8 : lay 8 = some y8 := rfl
@[go_sem] theorem lay_9 : lay 9 = some y9 := rfl
@[go_sem] theorem lay_10 : lay 10 = some y10 := rfl
@[go_sem] theorem lay_11 : lay 11 = some y11 := rfl
@[go_sem] theorem lay_12 : lay 12 = some y12 := rfl
@[go_sem] theorem lay_13 : lay 13 = some y13 := rfl
@[go_sem] theorem lay_22 : lay 22 = some y22 := rfl
@[go_sem] theorem lay_23 : lay 23 = some y23 := rfl
@[go_sem] theorem lay_24 : lay 24 = some y24 := rfl
@[go_sem] theorem lay_25 : lay 25 = some y25 := rfl
@[go_sem] theorem lay_26 : lay 26 = some y26 := rfl
@[go_sem] theorem lay_28 : lay 28 = some y28 := rfl
@[go_sem] theorem lay_30 : lay 30 = some y30 := rfl
@[go_sem] theorem lay_45 : lay 45 = some y45 := rfl
@[go_sem] theorem lay_46 : lay 46 = some y46 := rfl
@[go_sem] theorem lay_48 : lay 48 = some y48 := rfl
@[go_sem] theorem lay_49 : lay 49 = some y49 := rfl
@[go_sem] theorem lay_50 : lay 50 = some y50 := rfl
@[go_sem] theorem lay_52 : lay 52 = some y52 := rfl
@[go_sem] theorem lay_55 : lay 55 = some y55 := rfl
@[go_sem] theorem lay_63 : lay 63 = some y63 := rfl
@[go_sem] theorem lay_65 : lay 65 = some y65 := rfl
@[go_sem] theorem lay_69 : lay 69 = some y69 := rfl
@[go_sem] theorem lay_74 : lay 74 = some y74 := rfl
@[go_sem] theorem lay_75 : lay 75 = some y75 := rfl
@[go_sem] theorem lay_98 : lay 98 = some y98 := rfl
@[go_sem] theorem lay_100 : lay 100 = some y100 := rfl
@[go_sem] theorem lay_101 : lay 101 = some y101 := rfl
@[go_sem] theorem lay_102 : lay 102 = some y102 := rfl
@[go_sem] theorem lay_104 : lay 104 = some y104 := rfl
@[go_sem] theorem lay_113 : lay 113 = some y113 := rfl
@[go_sem] theorem lay_114 : lay 114 = some y114 := rfl
@[go_sem] theorem lay_134 : lay 134 = some y134 := rfl
@[go_sem] theorem lay_136 : lay 136 = some y136 := rfl
@[go_sem] theorem lay_138 : lay 138 = some y138 := rfl
@[go_sem] theorem lay_139 : lay 139 = some y139 := rfl
@[go_sem] theorem lay_141 : lay 141 = some y141 := rfl
@[go_sem] theorem lay_161 : lay 161 = some y161 := rfl
@[go_sem] theorem lay_163 : lay 163 = some y163 := rfl
@[go_sem] theorem lay_165 : lay 165 = some y165 := rfl
@[go_sem] theorem lay_195 : lay 195 = some y195 := rfl
@[go_sem] theorem k3 : CallP tbl 3 [] := fun _ _ _ _ _ _ => rfl
@[go_sem] theorem k4 : CallP tbl 4 [] := fun _ _ _ _ _ _ => rfl
@[go_sem] theorem k5 : CallP tbl 5 [] := fun _ _ _ _ _ _ => rfl
@[go_sem] theorem k6 : CallP tbl 6 [] := fun _ _ _ _ _ _ => rfl
@[go_sem] theorem k7 : CallP tbl 7 [] := fun _ _ _ _ _ _ => rfl
@[go_sem] theorem k8 : CallP tbl 8 [] := fun _ _ _ _ _ _ => rfl
@[go_sem] theorem k9 : CallP tbl 9 [] := fun _ _ _ _ _ _ => rfl
@[go_sem] theorem k10 : CallP tbl 10 [] := fun _ _ _ _ _ _ => rfl
@[go_sem] theorem k11 : CallP tbl 11 [] := fun _ _ _ _ _ _ => rfl
@[go_sem] theorem k12 : CallP tbl 12 [] := fun _ _ _ _ _ _ => rfl
@[go_sem] theorem k13 : CallP tbl 13 [] := fun _ _ _ _ _ _ => rfl
@[go_sem] theorem k14 : CallP tbl 14 [] := fun _ _ _ _ _ _ => rfl
@[go_sem] theorem k15 : CallP tbl 15 [] := fun _ _ _ _ _ _ => rfl
@[go_sem] theorem k16 : CallP tbl 16 [] := fun _ _ _ _ _ _ => rfl
@[go_sem] theorem k17 : CallP tbl 17 [] := fun _ _ _ _ _ _ => rfl
@[go_sem] theorem k18 : CallP tbl 18 [] := fun _ _ _ _ _ _ => rfl
@[go_sem] theorem k19 : CallP tbl 19 [] := fun _ _ _ _ _ _ => rfl
@[go_sem] theorem k20 : CallP tbl 20 [] := fun _ _ _ _ _ _ => rfl
@[go_sem] theorem k21 : CallP tbl 21 [true] := fun _ _ _ _ _ _ => rfl
@[go_sem] theorem k22 : CallP tbl 22 [] := fun _ _ _ _ _ _ => rfl
@[go_sem] theorem k23 : CallP tbl 23 [] := fun _ _ _ _ _ _ => rfl
@[go_sem] theorem k24 : CallP tbl 24 [] := fun _ _ _ _ _ _ => rfl
@[go_sem] theorem k25 : CallP tbl 25 [] := fun _ _ _ _ _ _ => rfl
@[go_sem] theorem k26 : CallP tbl 26 [] := fun _ _ _ _ _ _ => rfl
@[go_sem] theorem k27 : CallP tbl 27 [] := fun _ _ _ _ _ _ => rfl
@[go_sem] theorem k28 : CallP tbl 28 [] := fun _ _ _ _ _ _ => rfl
@[go_sem] theorem k29 : CallP tbl 29 [] := fun _ _ _ _ _ _ => rfl
@[go_sem] theorem k30 : CallP tbl 30 [] := fun _ _ _ _ _ _ => rfl
@[go_sem] theorem k31 : CallP tbl 31 [] := fun _ _ _ _ _ _ => rfl
@[go_sem] theorem k32 : CallP tbl 32 [] := fun _ _ _ _ _ _ => rfl
@[go_sem] theorem k33 : CallP tbl 33 [] := fun _ _ _ _ _ _ => rfl
@[go_sem] theorem k34 : CallP tbl 34 [] := fun _ _ _ _ _ _ => rfl
@[go_sem] theorem k35 : CallP tbl 35 [] := fun _ _ _ _ _ _ => rfl
@[go_sem] theorem k36 : CallP tbl 36 [] := fun _ _ _ _ _ _ => rfl
@[go_sem] theorem k37 : CallP tbl 37 [] := fun _ _ _ _ _ _ => rfl
@[go_sem] theorem k38 : CallI tbl 38 := fun _ _ _ _ _ _ => rfl
@[go_sem] theorem k39 : CallI tbl 39 := fun _ _ _ _ _ _ => rfl
@[go_sem] theorem k40 : CallP tbl 40 [] := fun _ _ _ _ _ _ => rfl
@[go_sem] theorem k41 : CallP tbl 41 [] := fun _ _ _ _ _ _ => rfl
@[go_sem] theorem k42 : CallP tbl 42 [true] := fun _ _ _ _ _ _ => rfl
@[go_sem] theorem k43 : CallP tbl 43 [] := fun _ _ _ _ _ _ => rfl
@[go_sem] theorem k44 : CallP tbl 44 [] := fun _ _ _ _ _ _ => rfl
@[go_sem] theorem k45 : CallP tbl 45 [] := fun _ _ _ _ _ _ => rfl
@[go_sem] theorem k46 : CallP tbl 46 [] := fun _ _ _ _ _ _ => rfl
@[go_sem] theorem k47 : CallP tbl 47 [true] := fun _ _ _ _ _ _ => rfl
@[go_sem] theorem k48 : CallP tbl 48 [true] := fun _ _ _ _ _ _ => rfl
@[go_sem] theorem k49 : CallP tbl 49 [true] := fun _ _ _ _ _ _ => rfl
@[go_sem] theorem k50 : CallP tbl 50 [] := fun _ _ _ _ _ _ => rfl
@[go_sem] theorem k51 : CallP tbl 51 [] := fun _ _ _ _ _ _ => rfl
@[go_sem] theorem k52 : CallP tbl 52 [] := fun _ _ _ _ _ _ => rfl
@[go_sem] theorem k53 : CallP tbl 53 [] := fun _ _ _ _ _ _ => rfl
@[go_sem] theorem k54 : CallP tbl 54 [] := fun _ _ _ _ _ _ => rfl
@[go_sem] theorem k55 : CallP tbl 55 [] := fun _ _ _ _ _ _ => rfl
@[go_sem] theorem k56 : CallP tbl 56 [] := fun _ _ _ _ _ _ => rfl
@[go_sem] theorem k57 : CallP tbl 57 [] := fun _ _ _ _ _ _ => rfl
@[go_sem] theorem k58 : CallP tbl 58 [] := fun _ _ _ _ _ _ => rfl
@[go_sem] theorem k59 : CallP tbl 59 [] := fun _ _ _ _ _ _ => rfl
@[go_sem] theorem k60 : CallP tbl 60 [] := fun _ _ _ _ _ _ => rfl
@[go_sem] theorem k61 : CallP tbl 61 [] := fun _ _ _ _ _ _ => rfl
@[go_sem] theorem k62 : CallP tbl 62 [] := fun _ _ _ _ _ _ => rfl
@[go_sem] theorem k63 : CallP tbl 63 [] := fun _ _ _ _ _ _ => rfl
@[go_sem] theorem k64 : CallP tbl 64 [] := fun _ _ _ _ _ _ => rfl
@[go_sem] theorem k65 : CallP tbl 65 [] := fun _ _ _ _ _ _ => rfl
@[go_sem] theorem k66 : CallP tbl 66 [] := fun _ _ _ _ _ _ => rfl
@[go_sem] theorem k67 : CallP tbl 67 [] := fun _ _ _ _ _ _ => rfl
@[go_sem] theorem k68 : CallP tbl 68 [] := fun _ _ _ _ _ _ => rfl
@[go_sem] theorem k69 : CallP tbl 69 [] := fun _ _ _ _ _ _ => rfl
@[go_sem] theorem k70 : CallP tbl 70 [] := fun _ _ _ _ _ _ => rfl
@[go_sem] theorem k71 : CallP tbl 71 [] := fun _ _ _ _ _ _ => rfl
@[go_sem] theorem k72 : CallC tbl 72 17 184 := fun _ _ _ _ => rfl
@[go_sem] theorem k73 : CallC tbl 73 4 32 := fun _ _ _ _ => rfl
@[go_sem] theorem k74 : CallP tbl 74 [] := fun _ _ _ _ _ _ => rfl
@[go_sem] theorem k75 : CallI tbl 75 := fun _ _ _ _ _ _ => rfl
@[go_sem] theorem k76 : CallP tbl 76 [] := fun _ _ _ _ _ _ => rfl
@[go_sem] theorem k77 : CallP tbl 77 [] := fun _ _ _ _ _ _ => rfl
@[go_sem] theorem k78 : CallP tbl 78 [true] := fun _ _ _ _ _ _ => rfl
@[go_sem] theorem k79 : CallP tbl 79 [true] := fun _ _ _ _ _ _ => rfl
@[go_sem] theorem k80 : CallP tbl 80 [true] := fun _ _ _ _ _ _ => rfl
@[go_sem] theorem k81 : CallP tbl 81 [true] := fun _ _ _ _ _ _ => rfl
@[go_sem] theorem k82 : CallP tbl 82 [] := fun _ _ _ _ _ _ => rfl
@[go_sem] theorem k83 : CallP tbl 83 [] := fun _ _ _ _ _ _ => rfl
@[go_sem] theorem k84 : CallP tbl 84 [] := fun _ _ _ _ _ _ => rfl
@[go_sem] theorem k85 : CallP tbl 85 [] := fun _ _ _ _ _ _ => rfl
@[go_sem] theorem k86 : CallP tbl 86 [] := fun _ _ _ _ _ _ => rfl
@[go_sem] theorem k87 : CallP tbl 87 [] := fun _ _ _ _ _ _ => rfl
@[go_sem] theorem k88 : CallP tbl 88 [] := fun _ _ _ _ _ _ => rfl
@[go_sem] theorem k89 : CallP tbl 89 [] := fun _ _ _ _ _ _ => rfl
@[go_sem] theorem k90 : CallP tbl 90 [] := fun _ _ _ _ _ _ => rfl
@[go_sem] theorem k91 : CallP tbl 91 [] := fun _ _ _ _ _ _ => rfl
@[go_sem] theorem k92 : CallP tbl 92 [] := fun _ _ _ _ _ _ => rfl
@[go_sem] theorem k93 : CallP tbl 93 [] := fun _ _ _ _ _ _ => rfl
@[go_sem] theorem k94 : CallP tbl 94 [] := fun _ _ _ _ _ _ => rfl
@[go_sem] theorem k95 : CallP tbl 95 [] := fun _ _ _ _ _ _ => rfl
@[go_sem] theorem k96 : CallP tbl 96 [] := fun _ _ _ _ _ _ => rfl
@[go_sem] theorem k97 : CallP tbl 97 [] := fun _ _ _ _ _ _ => rfl
@[go_sem] theorem k98 : CallP tbl 98 [] := fun _ _ _ _ _ _ => rfl
@[go_sem] theorem k99 : CallP tbl 99 [] := fun _ _ _ _ _ _ => rfl
@[go_sem] theorem k100 : CallP tbl 100 [] := fun _ _ _ _ _ _ => rfl
@[go_sem] theorem k101 : CallP tbl 101 [] := fun _ _ _ _ _ _ => rfl
@[go_sem] theorem k102 : CallP tbl 102 [] := fun _ _ _ _ _ _ => rfl
@[go_sem] theorem k103 : CallP tbl 103 [] := fun _ _ _ _ _ _ => rfl
@[go_sem] theorem k104 : CallP tbl 104 [] := fun _ _ _ _ _ _ => rfl
@[go_sem] theorem k105 : CallP tbl 105 [] := fun _ _ _ _ _ _ => rfl
@[go_sem] theorem k106 : CallP tbl 106 [] := fun _ _ _ _ _ _ => rfl
@[go_sem] theorem k107 : CallP tbl 107 [] := fun _ _ _ _ _ _ => rfl
@[go_sem] theorem k108 : CallP tbl 108 [] := fun _ _ _ _ _ _ => rfl
@[go_sem] theorem k109 : CallP tbl 109 [] := fun _ _ _ _ _ _ => rfl
@[go_sem] theorem k110 : CallP tbl 110 [] := fun _ _ _ _ _ _ => rfl
@[go_sem] theorem k111 : CallP tbl 111 [] := fun _ _ _ _ _ _ => rfl
@[go_sem] theorem k112 : CallC tbl 112 3 24 := fun _ _ _ _ => rfl
@[go_sem] theorem k113 : CallC tbl 113 4 32 := fun _ _ _ _ => rfl
@[go_sem] theorem k114 : CallC tbl 114 3 24 := fun _ _ _ _ => rfl
@[go_sem] theorem k115 : CallC tbl 115 3 24 := fun _ _ _ _ => rfl
@[go_sem] theorem k116 : CallP tbl 116 [] := fun _ _ _ _ _ _ => rfl
@[go_sem] theorem k117 : CallP tbl 117 [] := fun _ _ _ _ _ _ => rfl
@[go_sem] theorem k118 : CallP tbl 118 [] := fun _ _ _ _ _ _ => rfl
@[go_sem] theorem k119 : CallP tbl 119 [] := fun _ _ _ _ _ _ => rfl
@[go_sem] theorem k120 : CallP tbl 120 [] := fun _ _ _ _ _ _ => rfl
@[go_sem] theorem k121 : CallP tbl 121 [] := fun _ _ _ _ _ _ => rfl
@[go_sem] theorem k122 : CallP tbl 122 [] := fun _ _ _ _ _ _ => rfl
@[go_sem] theorem k123 : CallP tbl 123 [] := fun _ _ _ _ _ _ => rfl
@[go_sem] theorem k124 : CallP tbl 124 [] := fun _ _ _ _ _ _ => rfl
@[go_sem] theorem k125 : CallP tbl 125 [] := fun _ _ _ _ _ _ => rfl
@[go_sem] theorem k126 : CallP tbl 126 [] := fun _ _ _ _ _ _ => rfl
@[go_sem] theorem k127 : CallP tbl 127 [] := fun _ _ _ _ _ _ => rfl
@[go_sem] theorem k128 : CallP tbl 128 [] := fun _ _ _ _ _ _ => rfl
@[go_sem] theorem k129 : CallP tbl 129 [] := fun _ _ _ _ _ _ => rfl
@[go_sem] theorem k130 : CallP tbl 130 [] := fun _ _ _ _ _ _ => rfl
@[go_sem] theorem k131 : CallP tbl 131 [] := fun _ _ _ _ _ _ => rfl
@[go_sem] theorem k132 : CallP tbl 132 [] := fun _ _ _ _ _ _ => rfl
@[go_sem] theorem k133 : CallP tbl 133 [] := fun _ _ _ _ _ _ => rfl
@[go_sem] theorem k134 : CallP tbl 134 [] := fun _ _ _ _ _ _ => rfl
@[go_sem] theorem k135 : CallP tbl 135 [] := fun _ _ _ _ _ _ => rfl
@[go_sem] theorem k136 : CallP tbl 136 [] := fun _ _ _ _ _ _ => rfl
@[go_sem] theorem k137 : CallP tbl 137 [] := fun _ _ _ _ _ _ => rfl
@[go_sem] theorem k138 : CallP tbl 138 [] := fun _ _ _ _ _ _ => rfl
@[go_sem] theorem k139 : CallP tbl 139 [] := fun _ _ _ _ _ _ => rfl
@[go_sem] theorem k140 : CallP tbl 140 [] := fun _ _ _ _ _ _ => rfl
@[go_sem] theorem k141 : CallP tbl 141 [] := fun _ _ _ _ _ _ => rfl
@[go_sem] theorem k142 : CallP tbl 142 [] := fun _ _ _ _ _ _ => rfl
@[go_sem] theorem k143 : CallP tbl 143 [] := fun _ _ _ _ _ _ => rfl
@[go_sem] theorem k144 : CallP tbl 144 [] := fun _ _ _ _ _ _ => rfl
@[go_sem] theorem k145 : CallP tbl 145 [] := fun _ _ _ _ _ _ => rfl
@[go_sem] theorem k146 : CallP tbl 146 [] := fun _ _ _ _ _ _ => rfl
@[go_sem] theorem k147 : CallP tbl 147 [] := fun _ _ _ _ _ _ => rfl
@[go_sem] theorem k148 : CallP tbl 148 [] := fun _ _ _ _ _ _ => rfl
@[go_sem] theorem k149 : CallP tbl 149 [] := fun _ _ _ _ _ _ => rfl
@[go_sem] theorem k150 : CallP tbl 150 [] := fun _ _ _ _ _ _ => rfl
@[go_sem] theorem k151 : CallP tbl 151 [] := fun _ _ _ _ _ _ => rfl
@[go_sem] theorem k152 : CallP tbl 152 [] := fun _ _ _ _ _ _ => rfl
@[go_sem] theorem k153 : CallP tbl 153 [] := fun _ _ _ _ _ _ => rfl
@[go_sem] theorem k154 : CallP tbl 154 [] := fun _ _ _ _ _ _ => rfl
@[go_sem] theorem k155 : CallP tbl 155 [] := fun _ _ _ _ _ _ => rfl
@[go_sem] theorem k156 : CallP tbl 156 [] := fun _ _ _ _ _ _ => rfl
@[go_sem] theorem k157 : CallP tbl 157 [] := fun _ _ _ _ _ _ => rfl
@[go_sem] theorem k158 : CallP tbl 158 [] := fun _ _ _ _ _ _ => rfl
@[go_sem] theorem k159 : CallP tbl 159 [] := fun _ _ _ _ _ _ => rfl
@[go_sem] theorem k160 : CallP tbl 160 [] := fun _ _ _ _ _ _ => rfl
@[go_sem] theorem k161 : CallP tbl 161 [] := fun _ _ _ _ _ _ => rfl
@[go_sem] theorem k162 : CallP tbl 162 [] := fun _ _ _ _ _ _ => rfl
@[go_sem] theorem k163 : CallP tbl 163 [] := fun _ _ _ _ _ _ => rfl
@[go_sem] theorem k164 : CallP tbl 164 [] := fun _ _ _ _ _ _ => rfl
@[go_sem] theorem k165 : CallP tbl 165 [] := fun _ _ _ _ _ _ => rfl
@[go_sem] theorem k166 : CallP tbl 166 [] := fun _ _ _ _ _ _ => rfl
@[go_sem] theorem k167 : CallP tbl 167 [] := fun _ _ _ _ _ _ => rfl
@[go_sem] theorem k168 : CallP tbl 168 [] := fun _ _ _ _ _ _ => rfl
@[go_sem] theorem k169 : CallP tbl 169 [] := fun _ _ _ _ _ _ => rfl
@[go_sem] theorem k170 : CallP tbl 170 [] := fun _ _ _ _ _ _ => rfl
@[go_sem] theorem k171 : CallP tbl 171 [] := fun _ _ _ _ _ _ => rfl
@[go_sem] theorem k172 : CallP tbl 172 [] := fun _ _ _ _ _ _ => rfl
section
variable (O : Orc) (P : FuncId → List V → Option V) (k : Nat) (s : St) (q : Out → St → Option Ans) (Q : V → Hp → Nat → Prop)
@[go_sem ↓] theorem v6_1 : Fin (evC ctx O P k d6_1 s q) Q = GU d6_1 ctx P s q Q ⟨⟩ ⟨⟩ := gE_U _ _ _ _ _ _ _ (by kernel_rfl)
@[go_sem ↓] theorem v8_1 : Fin (evC ctx O P k d8_1 s q) Q = GU d8_1 ctx P s q Q ⟨⟩ ⟨⟩ := gE_U _ _ _ _ _ _ _ (by kernel_rfl)
@[go_sem ↓] theorem v11_1 : Fin (evC ctx O P k d11_1 s q) Q = GU d11_1 ctx P s q Q ⟨⟩ ⟨⟩ := gE_U _ _ _ _ _ _ _ (by kernel_rfl)
@[go_sem ↓] theorem v11_2 : Fin (evC ctx O P k d11_2 s q) Q = GU d11_2 ctx P s q Q ⟨⟩ ⟨⟩ := gE_U _ _ _ _ _ _ _ (by kernel_rfl)
@[go_sem ↓] theorem v11_3 : Fin (evC ctx O P k d11_3 s q) Q = GU d11_3 ctx P s q Q ⟨⟩ ⟨⟩ := gE_U _ _ _ _ _ _ _ (by kernel_rfl)
@[go_sem ↓] theorem v11_4 : Fin (evC ctx O P k d11_4 s q) Q = GU d11_4 ctx P s q Q ⟨⟩ ⟨⟩ := gE_U _ _ _ _ _ _ _ (by kernel_rfl)
@[go_sem ↓] theorem v12_1 : Fin (evC ctx O P k d12_1 s q) Q = GU d12_1 ctx P s q Q ⟨⟩ ⟨⟩ := gE_U _ _ _ _ _ _ _ (by kernel_rfl)
@[go_sem ↓] theorem v14_1 : Fin (evC ctx O P k d14_1 s q) Q = GU d14_1 ctx P s q Q ⟨⟩ ⟨⟩ := gE_U _ _ _ _ _ _ _ (by kernel_rfl)
@[go_sem ↓] theorem v16_1 : Fin (evC ctx O P k d16_1 s q) Q = GU d16_1 ctx P s q Q ⟨⟩ ⟨⟩ := gE_U _ _ _ _ _ _ _ (by kernel_rfl)
@[go_sem ↓] theorem v16_2 : Fin (evC ctx O P k d16_2 s q) Q = GU d16_2 ctx P s q Q ⟨⟩ ⟨⟩ := gE_U _ _ _ _ _ _ _ (by kernel_rfl)
@[go_sem ↓] theorem v19_1 : Fin (evC ctx O P k d19_1 s q) Q = GU d19_1 ctx P s q Q ⟨⟩ ⟨⟩ := gE_U _ _ _ _ _ _ _ (by kernel_rfl)
@[go_sem ↓] theorem v21_1 : Fin (evC ctx O P k d21_1 s q) Q = GU d21_1 ctx P s q Q ⟨⟩ ⟨⟩ := gE_U _ _ _ _ _ _ _ (by kernel_rfl)
@[go_sem ↓] theorem v22_1 : Fin (evC ctx O P k d22_1 s q) Q = GU d22_1 ctx P s q Q ⟨⟩ ⟨⟩ := gE_U _ _ _ _ _ _ _ (by kernel_rfl)
@[go_sem ↓] theorem v23_1 : Fin (evC ctx O P k d23_1 s q) Q = GU d23_1 ctx P s q Q ⟨⟩ ⟨⟩ := gE_U _ _ _ _ _ _ _ (by kernel_rfl)
@[go_sem ↓] theorem v23_2 : Fin (evC ctx O P k d23_2 s q) Q = GU d23_2 ctx P s q Q ⟨⟩ ⟨⟩ := gE_U _ _ _ _ _ _ _ (by kernel_rfl)
@[go_sem ↓] theorem v23_3 : Fin (evC ctx O P k d23_3 s q) Q = GU d23_3 ctx P s q Q ⟨⟩ ⟨⟩ := gE_U _ _ _ _ _ _ _ (by kernel_rfl)
@[go_sem ↓] theorem v23_4 : Fin (evC ctx O P k d23_4 s q) Q = GU d23_4 ctx P s q Q ⟨⟩ ⟨⟩ := gE_U _ _ _ _ _ _ _ (by kernel_rfl)
@[go_sem ↓] theorem v26_1 : Fin (evC ctx O P k d26_1 s q) Q = GU d26_1 ctx P s q Q ⟨⟩ ⟨⟩ := gE_U _ _ _ _ _ _ _ (by kernel_rfl)
@[go_sem ↓] theorem v26_2 : Fin (evC ctx O P k d26_2 s q) Q = GU d26_2 ctx P s q Q ⟨⟩ ⟨⟩ := gE_U _ _ _ _ _ _ _ (by kernel_rfl)
@[go_sem ↓] theorem v28_1 : Fin (evC ctx O P k d28_1 s q) Q = GU d28_1 ctx P s q Q ⟨⟩ ⟨⟩ := gE_U _ _ _ _ _ _ _ (by kernel_rfl)
@[go_sem ↓] theorem v29_1 : Fin (evC ctx O P k d29_1 s q) Q = GU d29_1 ctx P s q Q ⟨⟩ ⟨⟩ := gE_U _ _ _ _ _ _ _ (by kernel_rfl)
@[go_sem ↓] theorem v29_2 : Fin (evC ctx O P k d29_2 s q) Q = GU d29_2 ctx P s q Q ⟨⟩ ⟨⟩ := gE_U _ _ _ _ _ _ _ (by kernel_rfl)
@[go_sem ↓] theorem v29_3 : Fin (evC ctx O P k d29_3 s q) Q = GU d29_3 ctx P s q Q ⟨⟩ ⟨⟩ := gE_U _ _ _ _ _ _ _ (by kernel_rfl)
@[go_sem ↓] theorem v29_4 : Fin (evC ctx O P k d29_4 s q) Q = GU d29_4 ctx P s q Q ⟨⟩ ⟨⟩ := gE_U _ _ _ _ _ _ _ (by kernel_rfl)
@[go_sem ↓] theorem v29_5 : Fin (evC ctx O P k d29_5 s q) Q = GU d29_5 ctx P s q Q ⟨⟩ ⟨⟩ := gE_U _ _ _ _ _ _ _ (by kernel_rfl)
@[go_sem ↓] theorem v30_1 : Fin (evC ctx O P k d30_1 s q) Q = GU d30_1 ctx P s q Q ⟨⟩ ⟨⟩ := gE_U _ _ _ _ _ _ _ (by kernel_rfl)
@[go_sem ↓] theorem v30_2 : Fin (evC ctx O P k d30_2 s q) Q = GU d30_2 ctx P s q Q ⟨⟩ ⟨⟩ := gE_U _ _ _ _ _ _ _ (by kernel_rfl)
@[go_sem ↓] theorem v37_1 : Fin (evC ctx O P k d37_1 s q) Q = GU d37_1 ctx P s q Q ⟨⟩ ⟨⟩ := gE_U _ _ _ _ _ _ _ (by kernel_rfl)
@[go_sem ↓] theorem v37_2 : Fin (evC ctx O P k d37_2 s q) Q = GU d37_2 ctx P s q Q ⟨⟩ ⟨⟩ := gE_U _ _ _ _ _ _ _ (by kernel_rfl)
@[go_sem ↓] theorem v39_1 : Fin (evC ctx O P k d39_1 s q) Q = GU d39_1 ctx P s q Q ⟨⟩ ⟨⟩ := gE_U _ _ _ _ _ _ _ (by kernel_rfl)
@[go_sem ↓] theorem v42_1 : Fin (evC ctx O P k d42_1 s q) Q = GU d42_1 ctx P s q Q ⟨⟩ ⟨⟩ := gE_U _ _ _ _ _ _ _ (by kernel_rfl)
@[go_sem ↓] theorem v46_1 : Fin (evC ctx O P k d46_1 s q) Q = GU d46_1 ctx P s q Q ⟨⟩ ⟨⟩ := gE_U _ _ _ _ _ _ _ (by kernel_rfl)
@[go_sem ↓] theorem v51_1 : Fin (evC ctx O P k d51_1 s q) Q = GU d51_1 ctx P s q Q ⟨⟩ ⟨⟩ := gE_U _ _ _ _ _ _ _ (by kernel_rfl)
@[go_sem ↓] theorem v52_1 : Fin (evC ctx O P k d52_1 s q) Q = GU d52_1 ctx P s q Q ⟨⟩ ⟨⟩ := gE_U _ _ _ _ _ _ _ (by kernel_rfl)
@[go_sem ↓] theorem v53_1 : Fin (evC ctx O P k d53_1 s q) Q = GU d53_1 ctx P s q Q ⟨⟩ ⟨⟩ := gE_U _ _ _ _ _ _ _ (by kernel_rfl)
@[go_sem ↓] theorem v58_1 : Fin (evC ctx O P k d58_1 s q) Q = GU d58_1 ctx P s q Q ⟨⟩ ⟨⟩ := gE_U _ _ _ _ _ _ _ (by kernel_rfl)
@[go_sem ↓] theorem v59_1 : Fin (evC ctx O P k d59_1 s q) Q = GU d59_1 ctx P s q Q ⟨⟩ ⟨⟩ := gE_U _ _ _ _ _ _ _ (by kernel_rfl)
@[go_sem ↓] theorem v60_1 : Fin (evC ctx O P k d60_1 s q) Q = GU d60_1 ctx P s q Q ⟨⟩ ⟨⟩ := gE_U _ _ _ _ _ _ _ (by kernel_rfl)
@[go_sem ↓] theorem v60_2 : Fin (evC ctx O P k d60_2 s q) Q = GU d60_2 ctx P s q Q ⟨⟩ ⟨⟩ := gE_U _ _ _ _ _ _ _ (by kernel_rfl)
@[go_sem ↓] theorem v61_1 : Fin (evC ctx O P k d61_1 s q) Q = GU d61_1 ctx P s q Q ⟨⟩ ⟨⟩ := gE_U _ _ _ _ _ _ _ (by kernel_rfl)
@[go_sem ↓] theorem v63_1 : Fin (evC ctx O P k d63_1 s q) Q = GU d63_1 ctx P s q Q ⟨⟩ ⟨⟩ := gE_U _ _ _ _ _ _ _ (by kernel_rfl)
@[go_sem ↓] theorem v63_2 : Fin (evC ctx O P k d63_2 s q) Q = GU d63_2 ctx P s q Q ⟨⟩ ⟨⟩ := gE_U _ _ _ _ _ _ _ (by kernel_rfl)
@[go_sem ↓] theorem v64_1 : Fin (evC ctx O P k d64_1 s q) Q = GU d64_1 ctx P s q Q ⟨⟩ ⟨⟩ := gE_U _ _ _ _ _ _ _ (by kernel_rfl)
@[go_sem ↓] theorem v67_1 : Fin (evC ctx O P k d67_1 s q) Q = GU d67_1 ctx P s q Q ⟨⟩ ⟨⟩ := gE_U _ _ _ _ _ _ _ (by kernel_rfl)
@[go_sem ↓] theorem v70_1 : Fin (evC ctx O P k d70_1 s q) Q = GU d70_1 ctx P s q Q ⟨⟩ ⟨⟩ := gE_U _ _ _ _ _ _ _ (by kernel_rfl)
@[go_sem ↓] theorem v70_2 : Fin (evC ctx O P k d70_2 s q) Q = GU d70_2 ctx P s q Q ⟨⟩ ⟨⟩ := gE_U _ _ _ _ _ _ _ (by kernel_rfl)
@[go_sem ↓] theorem v74_1 : Fin (evC ctx O P k d74_1 s q) Q = GU d74_1 ctx P s q Q ⟨⟩ ⟨⟩ := gE_U _ _ _ _ _ _ _ (by kernel_rfl)
@[go_sem ↓] theorem v84_1 : Fin (evC ctx O P k d84_1 s q) Q = GU d84_1 ctx P s q Q ⟨⟩ ⟨⟩ := gE_U _ _ _ _ _ _ _ (by kernel_rfl)
@[go_sem ↓] theorem v84_2 : Fin (evC ctx O P k d84_2 s q) Q = GU d84_2 ctx P s q Q ⟨⟩ ⟨⟩ := gE_U _ _ _ _ _ _ _ (by kernel_rfl)
@[go_sem ↓] theorem v86_1 : Fin (evC ctx O P k d86_1 s q) Q = GU d86_1 ctx P s q Q ⟨⟩ ⟨⟩ := gE_U _ _ _ _ _ _ _ (by kernel_rfl)
@[go_sem ↓] theorem v86_2 : Fin (evC ctx O P k d86_2 s q) Q = GU d86_2 ctx P s q Q ⟨⟩ ⟨⟩ := gE_U _ _ _ _ _ _ _ (by kernel_rfl)
@[go_sem ↓] theorem v87_1 : Fin (evC ctx O P k d87_1 s q) Q = GU d87_1 ctx P s q Q ⟨⟩ ⟨⟩ := gE_U _ _ _ _ _ _ _ (by kernel_rfl)
@[go_sem ↓] theorem v91_1 : Fin (evC ctx O P k d91_1 s q) Q = GU d91_1 ctx P s q Q ⟨⟩ ⟨⟩ := gE_U _ _ _ _ _ _ _ (by kernel_rfl)
@[go_sem ↓] theorem v92_1 : Fin (evC ctx O P k d92_1 s q) Q = GU d92_1 ctx P s q Q ⟨⟩ ⟨⟩ := gE_U _ _ _ _ _ _ _ (by kernel_rfl)
@[go_sem ↓] theorem v93_1 : Fin (evC ctx O P k d93_1 s q) Q = GU d93_1 ctx P s q Q ⟨⟩ ⟨⟩ := gE_U _ _ _ _ _ _ _ (by kernel_rfl)
@[go_sem ↓] theorem v93_2 : Fin (evC ctx O P k d93_2 s q) Q = GU d93_2 ctx P s q Q ⟨⟩ ⟨⟩ := gE_U _ _ _ _ _ _ _ (by kernel_rfl)
@[go_sem ↓] theorem v94_1 : Fin (evC ctx O P k d94_1 s q) Q = GU d94_1 ctx P s q Q ⟨⟩ ⟨⟩ := gE_U _ _ _ _ _ _ _ (by kernel_rfl)
@[go_sem ↓] theorem v94_2 : Fin (evC ctx O P k d94_2 s q) Q = GU d94_2 ctx P s q Q ⟨⟩ ⟨⟩ := gE_U _ _ _ _ _ _ _ (by kernel_rfl)
@[go_sem ↓] theorem v95_1 : Fin (evC ctx O P k d95_1 s q) Q = GU d95_1 ctx P s q Q ⟨⟩ ⟨⟩ := gE_U _ _ _ _ _ _ _ (by kernel_rfl)
@[go_sem ↓] theorem v95_2 : Fin (evC ctx O P k d95_2 s q) Q = GU d95_2 ctx P s q Q ⟨⟩ ⟨⟩ := gE_U _ _ _ _ _ _ _ (by kernel_rfl)
@[go_sem ↓] theorem v95_3 : Fin (evC ctx O P k d95_3 s q) Q = GU d95_3 ctx P s q Q ⟨⟩ ⟨⟩ := gE_U _ _ _ _ _ _ _ (by kernel_rfl)
@[go_sem ↓] theorem v98_1 : Fin (evC ctx O P k d98_1 s q) Q = GU d98_1 ctx P s q Q ⟨⟩ ⟨⟩ := gE_U _ _ _ _ _ _ _ (by kernel_rfl)
@[go_sem ↓] theorem v99_1 : Fin (evC ctx O P k d99_1 s q) Q = GU d99_1 ctx P s q Q ⟨⟩ ⟨⟩ := gE_U _ _ _ _ _ _ _ (by kernel_rfl)
@[go_sem ↓] theorem v99_2 : Fin (evC ctx O P k d99_2 s q) Q = GU d99_2 ctx P s q Q ⟨⟩ ⟨⟩ := gE_U _ _ _ _ _ _ _ (by kernel_rfl)
@[go_sem ↓] theorem v100_1 : Fin (evC ctx O P k d100_1 s q) Q = GU d100_1 ctx P s q Q ⟨⟩ ⟨⟩ := gE_U _ _ _ _ _ _ _ (by kernel_rfl)
@[go_sem ↓] theorem v102_1 : Fin (evC ctx O P k d102_1 s q) Q = GU d102_1 ctx P s q Q ⟨⟩ ⟨⟩ := gE_U _ _ _ _ _ _ _ (by kernel_rfl)
@[go_sem ↓] theorem v103_1 : Fin (evC ctx O P k d103_1 s q) Q = GU d103_1 ctx P s q Q ⟨⟩ ⟨⟩ := gE_U _ _ _ _ _ _ _ (by kernel_rfl)
@[go_sem ↓] theorem v120_1 : Fin (evC ctx O P k d120_1 s q) Q = GU d120_1 ctx P s q Q ⟨⟩ ⟨⟩ := gE_U _ _ _ _ _ _ _ (by kernel_rfl)
@[go_sem ↓] theorem v124_1 : Fin (evC ctx O P k d124_1 s q) Q = GU d124_1 ctx P s q Q ⟨⟩ ⟨⟩ := gE_U _ _ _ _ _ _ _ (by kernel_rfl)
@[go_sem ↓] theorem v125_1 : Fin (evC ctx O P k d125_1 s q) Q = GU d125_1 ctx P s q Q ⟨⟩ ⟨⟩ := gE_U _ _ _ _ _ _ _ (by kernel_rfl)
@[go_sem ↓] theorem v127_1 : Fin (evC ctx O P k d127_1 s q) Q = GU d127_1 ctx P s q Q ⟨⟩ ⟨⟩ := gE_U _ _ _ _ _ _ _ (by kernel_rfl)
@[go_sem ↓] theorem v134_1 : Fin (evC ctx O P k d134_1 s q) Q = GU d134_1 ctx P s q Q ⟨⟩ ⟨⟩ := gE_U _ _ _ _ _ _ _ (by kernel_rfl)
@[go_sem ↓] theorem v135_1 : Fin (evC ctx O P k d135_1 s q) Q = GU d135_1 ctx P s q Q ⟨⟩ ⟨⟩ := gE_U _ _ _ _ _ _ _ (by kernel_rfl)
@[go_sem ↓] theorem v165_1 : Fin (evC ctx O P k d165_1 s q) Q = GU d165_1 ctx P s q Q ⟨⟩ ⟨⟩ := gE_U _ _ _ _ _ _ _ (by kernel_rfl)
@[go_sem ↓] theorem v171_1 : Fin (evC ctx O P k d171_1 s q) Q = GU d171_1 ctx P s q Q ⟨⟩ ⟨⟩ := gE_U _ _ _ _ _ _ _ (by kernel_rfl)
end
attribute [go_sem] d6_1 d8_1 d11_1 d11_2 d11_3 d11_4 d12_1 d14_1 d16_1 d16_2 d19_1 d21_1 d22_1 d23_1 d23_2 d23_3 d23_4 d26_1 d26_2 d28_1 d29_1 d29_2 d29_3 d29_4 d29_5 d30_1 d30_2 d37_1 d37_2 d39_1 d42_1 d46_1 d51_1 d52_1 d53_1 d58_1 d59_1 d60_1 d60_2 d61_1 d63_1 d63_2 d64_1 d67_1 d70_1 d70_2 d74_1 d84_1 d84_2 d86_1 d86_2 d87_1 d91_1 d92_1 d93_1 d93_2 d94_1 d94_2 d95_1 d95_2 d95_3 d98_1 d99_1 d99_2 d100_1 d102_1 d103_1 d120_1 d124_1 d125_1 d127_1 d134_1 d135_1 d165_1 d171_1
end Ve
