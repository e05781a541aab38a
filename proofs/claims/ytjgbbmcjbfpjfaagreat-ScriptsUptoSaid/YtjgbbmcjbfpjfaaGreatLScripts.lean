/- The statement Scripts. -/
import Derived.Test.YtjgbbmcjbfpjfaaGreatS68
import Derived.Test.YtjgbbmcjbfpjfaaGreatS69
import Derived.Test.YtjgbbmcjbfpjfaaGreatS70
import Derived.Test.YtjgbbmcjbfpjfaaGreatVeSE
import Derived.Test.YtjgbbmcjbfpjfaaGreatVeSH
import Derived.Test.YtjgbbmcjbfpjfaaGreatVeSD
import Derived.Test.YtjgbbmcjbfpjfaaGreatVeP
set_option linter.all false
set_option linter.unusedSectionVars false
namespace Ve
open Go Ve.Ab
set_option maxHeartbeats 16000000
set_option maxRecDepth 20000
theorem Qe {s:Aq} (hs:CK s) (l:Int):CK (Cr s l).1:=by
 unfold Cr;split
 ·exact JY hs l
 ·exact Qd
theorem Tm {m:Ad} (hm:SmM m) (l:Int):SmM (Dh m l).1:=by
 unfold Dh;split
 ·exact KZ hm l
 ·exact Dx
theorem u_Scripts (i:Nat) (s:Aq) (hs:CK s) (l:Int) (m:Ad) (hm:SmM m) (haw:Aa (Lv ctx (i+30)) 25 []=some (bV true)):Aa (Lv ctx (i+31)) 3 [eSc true s,iV l,eM true m]=some (bV true):=by
 have c1:=NZ (i+29) true s hs
 have c2:=yK (i+28) true m hm
 have a1:=Kq (i+1) true s hs
 have a2:=gY (i+16) true s hs
 have a3:=GF (i+7) s hs l
 have a4:=rW (i+20) s hs l
 have a5:=Hi (i+9) true m hm l
 have a6:=a3i (i+22) m hm l
 have a7:=GB (i+9) true s hs
 have a8:=RV (i+21) true s hs
 have e1:=fun p q=>BF (i+(30 - 3)) p q (Bq s).1 (Bq s).1 (FE hs)
 have e2:=fun p q=>Je (i+28) p q (Cr s l).1 (Cr s l).1 (Qe hs l)
 have e3:=fun p q=>BF (i+(30 - 3)) p q (Dh m l).1 (Dh m l).1 (Tm hm l)
 have e4:=fun p q=>Je (i+28) p q s s hs
 have e5:=fun p q=>BF (i+(30 - 3)) p q m m hm
 have d1:=Ts (i+27) (Bq s).1 (FE hs)
 have d2:=bC (i+28) (Cr s l).1 (Qe hs l)
 have d3:=Ts (i+27) (Dh m l).1 (Tm hm l)
 have hb:∀ b:Bool,BO lay .neq 4 (bV b) (bV b)=some (bV false):=by intro b;cases b<;>rfl
 have dd:∀ n:Int,decide (n=n)=true:=fun n=>by simp
 simp only [Nat.add_assoc,Nat.reduceAdd,Nat.reduceSub,decide_true] at c1 c2 a1 a2 a3 a4 a5 a6 a7 a8 e1 e2 e3 e4 e5 d1 d2 d3
 generalize Bq s=A at a1 a2 e1 d1
 generalize Cr s l=B at a3 a4 e2 d2
 generalize Dh m l=C at a5 a6 e3 d3
 generalize Au s=D at a7 a8
 refine Ac rfl 0 (by rfl) ?_
 delta c3
 simp +contextual -dsimp -implicitDefEqProofs (maxSteps:=5000000) only [c1,c2,a1,a2,a3,a4,a5,a6,a7,a8,e1,e2,e3,e4,e5,d1,d2,d3,hb,dd,haw,go_sem,simprocAttr]
end Ve
