/- The law GrabRow, cut. -/
import Derived.Test.YtcipiajnabgkgaaGreatVeT
set_option linter.all false
set_option linter.unusedSectionVars false
namespace Ve
open Go Ve.Ab
def e10 : IR := (S (R [z 55 (fa 29 5 0),
 o 56 (.indexAddr 24 (.tmp 55) (.const (.int .i64 0))),
 z 57 (ld 23 56),
 z 58 (mv 8),
 o 59 (ia 23 57 58),
 z 60 (fa 45 59 2),
 ⟨none, .store 3 (.tmp 60) (.const (.int .i64 6)), none, true⟩])
(S (S (R [z 9 (an 0)])
(.block 2 (.loop [5, 6, 8, 9] c10_3)))
(S (R [z 157 (fa 29 5 3),
 z 158 (ld 26 157),
 o 159 (.indexAddr 26 (.tmp 158) (.const (.int .i64 0))),
 z 160 (fa 37 159 4),
 z 161 (ld 3 160),
 z 162 (bo .eql (t 161) (n 2)),
 z 4 (av 162)])
(.ret [4]))))
def k10_ : IR := (S (R [z 4 (ab false)])
(S (S (R [z 13 (cl 31 #[] #[]),
 z 14 (.unOp .not 4 (.tmp 13))])
(.cond (t 14)
(S (R [z 4 (ab false)])
(.ret [4]))
.skip))
(S (R [o 15 (cl 33 #[] #[]),
 z 5 (al 29),
 ⟨none, st 29 5 15, none, true⟩])
(S (R [z 16 (.build 45 #[(0, (.const (.int .i64 1)))]),
 z 17 (.build 45 #[(0, (.const (.int .i64 2)))]),
 z 18 (.build 45 #[(0, (.const (.int .i64 3)))]),
 z 19 (.build 45 #[(0, (.const (.int .i64 4)))]),
 z 20 (.buildSlice 23 4 #[(0, (.tmp 16)), (1, (.tmp 17)), (2, (.tmp 18)), (3, (.tmp 19))]),
 z 21 (fa 29 5 0),
 o 22 (.indexAddr 24 (.tmp 21) (.const (.int .i64 0))),
 ⟨none, st 23 22 20, none, true⟩])
(S (R [z 6 (.assign (.const (.slice none 0 0)))])
(S (S (R [z 7 (an 0)])
(.block 0 (.loop [0, 1, 5, 6, 7] c10_1)))
(S (S (R [z 37 (mv 6),
 z 38 (len 37 35),
 z 39 (bo .eql (t 38) (n 0))])
(.cond (t 39)
(S (R [z 4 (ab true)])
(.ret [4]))
.skip))
(S (R [z 40 (fa 29 5 3),
 z 41 (ld 26 40),
 z 42 (mv 6),
 o 43 (.indexAddr 26 (.tmp 41) (.const (.int .i64 0))),
 z 44 (fa 37 43 8),
 ⟨none, st 35 44 42, none, true⟩])
(S (R [z 45 (fa 29 5 3),
 z 46 (ld 26 45),
 o 47 (.indexAddr 26 (.tmp 46) (.const (.int .i64 0))),
 z 48 (fa 37 47 4),
 ⟨none, .store 3 (.tmp 48) (.const (.int .i64 1)), none, true⟩])
(S (R [z 49 (fa 29 5 3),
 z 50 (ld 26 49),
 o 51 (.indexAddr 26 (.tmp 50) (.const (.int .i64 0))),
 z 52 (fa 37 51 5),
 ⟨none, .store 3 (.tmp 52) (.const (.int .i64 3)), none, true⟩])
(S (R [z 53 (mv 1),
 z 54 (bo .and (t 53) (n 3)),
 z 8 (av 54)])
e10)))))))))))
theorem cut10 : c10 = k10_ := rfl
end Ve
