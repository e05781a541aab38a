/- The law DriftTable, cut. -/
import Derived.Test.YtjllmdplakoanaaGreatVeT
set_option linter.all false
set_option linter.unusedSectionVars false
namespace Ve
open Go Ve.Ab
def e5 : IR := (S (R [z 28 (.build 54 #[(0, (.const (.int .i64 1)))]),
 z 29 (.buildSlice 22 1 #[(0, (.tmp 28))]),
 z 30 (fa 28 6 0),
 o 31 (.indexAddr 23 (.tmp 30) (.const (.int .i64 2))),
 ⟨none, st 22 31 29, none, true⟩])
(S (R [z 32 (fa 28 6 3),
 z 33 (ld 25 32),
 z 34 (mv 3),
 o 35 (.indexAddr 25 (.tmp 33) (.const (.int .i64 1))),
 z 36 (fa 49 35 1),
 ⟨none, st 3 36 34, none, true⟩])
(S (R [z 37 (fa 28 6 3),
 z 38 (ld 25 37),
 z 39 (mv 5),
 o 40 (.indexAddr 25 (.tmp 38) (.const (.int .i64 1))),
 z 41 (fa 49 40 2),
 ⟨none, st 3 41 39, none, true⟩])
(S (R [z 42 (fa 28 6 3),
 z 43 (ld 25 42),
 z 44 (mv 4),
 z 45 (.build 56 #[(0, (.const (.int .i64 2))), (2, (.tmp 44))]),
 z 46 (.buildSlice 45 1 #[(0, (.tmp 45))]),
 o 47 (.indexAddr 25 (.tmp 43) (.const (.int .i64 1))),
 z 48 (fa 49 47 3),
 ⟨none, st 45 48 46, none, true⟩])
(S (R [z 50 (ld 28 6),
 z 51 (cl 13 #[(t 50), (n 1)] #[28, 3]),
 z 49 (mv 51),
 z 52 (xt 49 0),
 z 53 (xt 49 1),
 z 7 (av 52),
 z 8 (av 53)])
(S (R [z 55 (ld 28 6),
 z 56 (cl 15 #[(t 55), (n 1)] #[28, 3]),
 z 54 (mv 56),
 z 57 (xt 54 0),
 z 58 (xt 54 1),
 z 9 (al 28),
 ⟨none, st 28 9 57, none, true⟩,
 z 10 (av 58)])
(S (S (R [z 59 (mv 8),
 z 60 (cl 17 #[(t 59)] #[30]),
 z 61 (bo .neq (t 60) (n 0)),
 z 62 (mv 61),
 zF 63 (mv 7) 62,
 zF 64 (mv 4) 62,
 zF 65 (mv 3) 62,
 zF 66 (bo .or (t 64) (t 65)) 62,
 zF 67 (mv 3) 62,
 zF 68 (bo .neq (t 66) (t 67)) 62,
 zF 69 (.binOp .neq 4 (.tmp 63) (.tmp 68) 4) 62,
 z 70 (.pick (.tmp 62) (.const (.bool true)) (.tmp 69))])
(.cond (t 70)
(S (R [z 2 (ab false)])
(.ret [2]))
.skip))
(S (S (R [z 71 (mv 7),
 z 72 (.unOp .not 4 (.tmp 71))])
(.cond (t 72)
(S (R [z 73 (mv 10),
 z 74 (cl 17 #[(t 73)] #[30]),
 z 75 (bo .eql (t 74) (n 1400)),
 z 2 (av 75)])
(.ret [2]))
.skip))
(S (S (R [z 76 (mv 10),
 z 77 (cl 17 #[(t 76)] #[30]),
 z 78 (bo .neq (t 77) (n 0)),
 z 79 (mv 78),
 zF 80 (fa 28 9 3) 79,
 zF 81 (ld 25 80) 79,
 zF 82 (len 81 25) 79,
 zF 83 (bo .neq (t 82) (n 2)) 79,
 z 84 (.pick (.tmp 79) (.const (.bool true)) (.tmp 83))])
(.cond (t 84)
(S (R [z 2 (ab false)])
(.ret [2]))
.skip))
(S (R [z 85 (fa 28 9 3),
 z 86 (ld 25 85),
 o 87 (.indexAddr 25 (.tmp 86) (.const (.int .i64 1))),
 z 88 (ld 49 87),
 z 11 (al 49),
 ⟨none, st 49 11 88, none, true⟩])
(S (S (R [z 89 (mv 4),
 z 90 (mv 3),
 z 91 (bo .or (t 89) (t 90)),
 z 92 (mv 5),
 z 93 (bo .or (t 91) (t 92)),
 z 94 (mv 5),
 z 95 (bo .neq (t 93) (t 94))])
(.cond (t 95)
(S (R [z 96 (fa 49 11 4),
 z 97 (ld 3 96),
 z 98 (bo .eql (t 97) (n 6)),
 z 99 (mv 98),
 zT 100 (fa 49 11 12) 99,
 zT 101 (ld 3 100) 99,
 zT 102 (bo .eql (t 101) (n 4)) 99,
 z 103 (.pick (.tmp 99) (.tmp 102) (.const (.bool false))),
 z 104 (mv 103),
 zT 105 (fa 49 11 1) 104,
 zT 106 (ld 3 105) 104,
 zT 107 (mv 3) 104,
 zT 108 (bo .eql (t 106) (t 107)) 104,
 z 109 (.pick (.tmp 104) (.tmp 108) (.const (.bool false))),
 z 2 (av 109)])
(.ret [2]))
.skip))
(S (R [z 110 (fa 49 11 4),
 z 111 (ld 3 110),
 z 112 (bo .eql (t 111) (n 0)),
 z 113 (mv 112),
 zT 114 (fa 49 11 1) 113,
 zT 115 (ld 3 114) 113,
 zT 116 (mv 4) 113,
 zT 117 (mv 3) 113,
 zT 118 (bo .or (t 116) (t 117)) 113,
 zT 119 (bo .eql (t 115) (t 118)) 113,
 z 120 (.pick (.tmp 113) (.tmp 119) (.const (.bool false))),
 z 121 (mv 120),
 zT 122 (fa 49 11 5) 121,
 zT 123 (ld 3 122) 121,
 zT 124 (bo .eql (t 123) (n 0)) 121,
 z 125 (.pick (.tmp 121) (.tmp 124) (.const (.bool false))),
 z 2 (av 125)])
(.ret [2])))))))))))))
def k5_ : IR := (S (R [z 2 (ab false)])
(S (S (R [z 12 (cl 20 #[] #[]),
 z 13 (.unOp .not 4 (.tmp 12))])
(.cond (t 13)
(S (R [z 2 (ab false)])
(.ret [2]))
.skip))
(S (R [z 14 (mv 0),
 z 15 (bo .and (t 14) (n 3)),
 z 16 (mv 0),
 z 17 (.binOp .shr 3 (.tmp 16) (.const (.int .u64 2)) 51),
 z 18 (bo .and (t 17) (n 3)),
 z 19 (mv 0),
 z 20 (.binOp .shr 3 (.tmp 19) (.const (.int .u64 4)) 51),
 z 21 (bo .and (t 20) (n 3)),
 z 3 (av 15),
 z 4 (av 18),
 z 5 (av 21)])
(S (S (R [z 22 (mv 3),
 z 23 (mv 5),
 z 24 (bo .or (t 22) (t 23)),
 z 25 (mv 5),
 z 26 (bo .neq (t 24) (t 25))])
(.cond (t 26)
(S (R [z 2 (ab true)])
(.ret [2]))
.skip))
(S (R [o 27 (cl 23 #[] #[]),
 z 6 (al 28),
 ⟨none, st 28 6 27, none, true⟩])
e5)))))
theorem cut5 : c5 = k5_ := rfl
end Ve
