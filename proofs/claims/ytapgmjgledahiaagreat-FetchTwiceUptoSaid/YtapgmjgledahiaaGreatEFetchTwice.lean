/- The law FetchTwice, cut. -/
import Derived.Test.YtapgmjgledahiaaGreatVeT
set_option linter.all false
set_option linter.unusedSectionVars false
namespace Ve
open Go Ve.Ab
def e14 : IR := (S (S (R [z 5 (an 0)])
(.block 0 (.loop [3, 4, 5] c14_1)))
(S (R [z 59 (fa 28 3 3),
 z 60 (ld 25 59),
 o 61 (.indexAddr 25 (.tmp 60) (.const (.int .i64 0))),
 z 62 (ld 44 61),
 z 8 (al 44),
 ⟨none, st 44 8 62, none, true⟩])
(S (R [z 64 (ld 28 3),
 z 65 (cl 27 #[(t 64), (n 0)] #[28, 3]),
 z 63 (mv 65),
 z 66 (xt 63 0),
 z 67 (xt 63 1),
 z 9 (al 28),
 ⟨none, st 28 9 66, none, true⟩,
 z 10 (av 67)])
(S (R [z 68 (fa 44 8 6),
 z 69 (ld 24 68),
 z 70 (mv 4),
 z 71 (bo .add (n 5) (t 70)),
 z 72 (mv 4),
 z 73 (bo .add (n 5) (t 72)),
 z 74 (mv 4),
 z 75 (bo .sub (n 6) (t 74)),
 z 76 (mv 4),
 z 77 (bo .add (n 5) (t 76)),
 z 78 (.build 24 #[(0, (.tmp 71)), (1, (.tmp 73)), (2, (.tmp 75)), (3, (.tmp 77))]),
 z 79 (.binOp .eql 24 (.tmp 69) (.tmp 78) 24),
 z 80 (mv 79),
 zT 81 (fa 44 8 7) 80,
 zT 82 (ld 41 81) 80,
 zT 83 (mv 4) 80,
 zT 84 (.build 59 #[(1, (.tmp 83))]) 80,
 zT 85 (mv 4) 80,
 zT 86 (bo .sub (n 1) (t 85)) 80,
 zT 87 (.build 59 #[(1, (.tmp 86))]) 80,
 zT 88 (.buildSlice 41 2 #[(0, (.tmp 84)), (1, (.tmp 87))]) 80,
 zT 89 (cl 22 #[(t 82), (t 88)] #[41, 41]) 80,
 z 90 (.pick (.tmp 80) (.tmp 89) (.const (.bool false))),
 z 91 (mv 90),
 zT 92 (fa 28 3 4) 91,
 zT 93 (ld 26 92) 91,
 zT 94 (len 93 26) 91,
 zT 95 (bo .eql (t 94) (n 4)) 91,
 z 96 (.pick (.tmp 91) (.tmp 95) (.const (.bool false))),
 z 97 (mv 96),
 zT 98 (mv 10) 97,
 zT 99 (bo .eql (t 98) (n 0)) 97,
 z 100 (.pick (.tmp 97) (.tmp 99) (.const (.bool false))),
 z 101 (mv 100),
 zT 102 (fa 28 9 3) 101,
 zT 103 (ld 25 102) 101,
 zT 104 (len 103 25) 101,
 zT 105 (bo .eql (t 104) (n 2)) 101,
 z 106 (.pick (.tmp 101) (.tmp 105) (.const (.bool false))),
 z 2 (av 106)])
(.ret [2])))))
def k14_ : IR := (S (R [z 2 (ab false)])
(S (S (R [z 11 (cl 31 #[] #[]),
 z 12 (.unOp .not 4 (.tmp 11))])
(.cond (t 12)
(S (R [z 2 (ab false)])
(.ret [2]))
.skip))
(S (R [o 13 (cl 33 #[] #[]),
 z 3 (al 28),
 ⟨none, st 28 3 13, none, true⟩])
(S (R [z 14 (mv 0),
 z 15 (bo .and (t 14) (n 1)),
 z 4 (av 15)])
(S (R [z 16 (fa 28 3 3),
 z 17 (ld 25 16),
 z 18 (mv 4),
 z 19 (.build 57 #[(0, (.const (.int .i64 2))), (3, (.tmp 18))]),
 z 20 (mv 4),
 z 21 (.build 57 #[(0, (.const (.int .i64 2))), (1, (.const (.int .i64 1))), (3, (.tmp 20))]),
 z 22 (mv 4),
 z 23 (bo .sub (n 1) (t 22)),
 z 24 (.build 57 #[(0, (.const (.int .i64 2))), (1, (.const (.int .i64 2))), (3, (.tmp 23))]),
 z 25 (mv 4),
 z 26 (.build 57 #[(0, (.const (.int .i64 2))), (1, (.const (.int .i64 3))), (3, (.tmp 25))]),
 z 27 (.buildSlice 40 4 #[(0, (.tmp 19)), (1, (.tmp 21)), (2, (.tmp 24)), (3, (.tmp 26))]),
 o 28 (.indexAddr 25 (.tmp 17) (.const (.int .i64 0))),
 z 29 (fa 44 28 3),
 ⟨none, st 40 29 27, none, true⟩])
e14)))))
theorem cut14 : c14 = k14_ := rfl
end Ve
