/- The law CheckRace, cut. -/
import Derived.Test.YtjllmdplakoanaaGreatVeT
set_option linter.all false
set_option linter.unusedSectionVars false
namespace Ve
open Go Ve.Ab
def e11 : IR := (S (R [z 18 (.buildSlice 59 2 #[(0, (.const (.int .i64 1))), (1, (.const (.int .i64 2)))]),
 z 19 (.build 66 #[(0, (.tmp 18))]),
 z 20 (.build 56 #[(0, (.const (.int .i64 2))), (3, (.const (.int .i64 1)))]),
 z 21 (.build 56 #[(0, (.const (.int .i64 3)))]),
 z 22 (.buildSlice 45 2 #[(0, (.tmp 20)), (1, (.tmp 21))]),
 z 23 (.build 68 #[(0, (.const (.int .i64 3))), (3, (.tmp 22))]),
 z 24 (.build 56 #[(0, (.const (.int .i64 2)))]),
 z 25 (.build 56 #[(0, (.const (.int .i64 3))), (3, (.const (.int .i64 1)))]),
 z 26 (.buildSlice 45 2 #[(0, (.tmp 24)), (1, (.tmp 25))]),
 z 27 (.build 68 #[(0, (.const (.int .i64 5))), (3, (.tmp 26))]),
 z 28 (.buildSlice 69 2 #[(0, (.tmp 23)), (1, (.tmp 27))]),
 z 29 (.build 72 #[(0, (.tmp 19)), (1, (.const (.int .i64 9))), (2, (.tmp 28))]),
 z 30 (cl 33 #[(t 29)] #[72]),
 z 17 (mv 30),
 z 31 (xt 17 0),
 z 32 (xt 17 1),
 z 3 (al 28),
 ⟨none, st 28 3 31, none, true⟩,
 z 4 (av 32)])
(S (S (R [z 5 (an 0)])
(.block 0 (.loop [0, 3, 4, 5] c11_2)))
(S (S (R [z 7 (an 0)])
(.block 4 (.loop [0, 3, 4, 7] c11_4)))
(S (R [z 9 (an 0),
 z 10 (an 1)])
(S (S (R [z 61 (mv 0)])
(.cond (t 61)
(S (R [z 9 (an 1)])
(R [z 10 (an 0)]))
.skip))
(S (R [z 63 (ld 28 3),
 z 64 (mv 9),
 z 65 (cl 27 #[(t 63), (t 64)] #[28, 3]),
 z 62 (mv 65),
 z 66 (xt 62 0),
 z 67 (xt 62 1),
 z 11 (al 28),
 ⟨none, st 28 11 66, none, true⟩,
 z 12 (av 67)])
(S (R [z 69 (ld 28 11),
 z 70 (mv 10),
 z 71 (cl 27 #[(t 69), (t 70)] #[28, 3]),
 z 68 (mv 71),
 z 72 (xt 68 0),
 z 73 (xt 68 1),
 z 13 (al 28),
 ⟨none, st 28 13 72, none, true⟩,
 z 14 (av 73)])
(S (S (R [z 74 (mv 4),
 z 75 (bo .neq (t 74) (n 0)),
 z 76 (mv 75),
 zF 77 (fa 28 11 3) 76,
 zF 78 (ld 25 77) 76,
 zF 79 (len 78 25) 76,
 zF 80 (bo .neq (t 79) (n 2)) 76,
 z 81 (.pick (.tmp 76) (.const (.bool true)) (.tmp 80)),
 z 82 (mv 81),
 zF 83 (fa 28 13 3) 82,
 zF 84 (ld 25 83) 82,
 zF 85 (len 84 25) 82,
 zF 86 (bo .neq (t 85) (n 2)) 82,
 z 87 (.pick (.tmp 82) (.const (.bool true)) (.tmp 86))])
(.cond (t 87)
(S (R [z 2 (ab false)])
(.ret [2]))
.skip))
(S (R [z 88 (mv 12),
 z 89 (cl 17 #[(t 88)] #[30]),
 z 90 (bo .eql (t 89) (n 0)),
 z 91 (mv 90),
 zT 92 (fa 28 11 3) 91,
 zT 93 (ld 25 92) 91,
 zT 94 (mv 9) 91,
 oT 95 (ia 25 93 94) 91,
 zT 96 (fa 49 95 4) 91,
 zT 97 (ld 3 96) 91,
 zT 98 (bo .eql (t 97) (n 0)) 91,
 z 99 (.pick (.tmp 91) (.tmp 98) (.const (.bool false))),
 z 100 (mv 99),
 zT 101 (mv 14) 100,
 zT 102 (cl 17 #[(t 101)] #[30]) 100,
 zT 103 (bo .eql (t 102) (n 0)) 100,
 z 104 (.pick (.tmp 100) (.tmp 103) (.const (.bool false))),
 z 105 (mv 104),
 zT 106 (fa 28 13 3) 105,
 zT 107 (ld 25 106) 105,
 zT 108 (mv 10) 105,
 oT 109 (ia 25 107 108) 105,
 zT 110 (fa 49 109 4) 105,
 zT 111 (ld 3 110) 105,
 zT 112 (bo .eql (t 111) (n 4)) 105,
 z 113 (.pick (.tmp 105) (.tmp 112) (.const (.bool false))),
 z 114 (mv 113),
 zT 115 (cl 34 #[] #[]) 114,
 zT 116 (.field 28 (.tmp 115) 3) 114,
 zT 117 (len 116 25) 114,
 zT 118 (cl 30 #[(n 0), (n 0)] #[3, 3]) 114,
 zT 119 (.field 28 (.tmp 118) 3) 114,
 zT 120 (len 119 25) 114,
 zT 121 (bo .add (t 117) (t 120)) 114,
 zT 122 (bo .eql (t 121) (n 4)) 114,
 z 123 (.pick (.tmp 114) (.tmp 122) (.const (.bool false))),
 z 2 (av 123)])
(.ret [2]))))))))))
def k11_ : IR := (S (R [z 2 (ab false)])
(S (S (R [z 15 (cl 29 #[] #[]),
 z 16 (.unOp .not 4 (.tmp 15))])
(.cond (t 16)
(S (R [z 2 (ab false)])
(.ret [2]))
.skip))
e11))
theorem cut11 : c11 = k11_ := rfl
end Ve
