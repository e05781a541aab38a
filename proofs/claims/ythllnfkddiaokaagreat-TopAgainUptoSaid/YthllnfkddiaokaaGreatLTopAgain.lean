/- The statement TopAgain. -/
import Derived.Test.YthllnfkddiaokaaGreatS63
import Derived.Test.YthllnfkddiaokaaGreatS64
import Derived.Test.YthllnfkddiaokaaGreatVeP
set_option linter.all false
set_option linter.unusedSectionVars false
namespace Ve
open Go Ve.Ab
set_option maxHeartbeats 16000000
set_option maxRecDepth 20000
theorem u_TopAgain (i:Nat) (s:Ap) (hs:Cj s) (g:Int) (haw:Aa (Lv ctx (i+30)) 15 []=some (bV true)):Aa (Lv ctx (i+31)) 13 [eSc true s,iV g]=some (bV true):=by
 obtain ⟨k,eg,hg⟩:∃ k:Int,Df g 3=k∧inR k 3=true:=⟨_,rfl,GY g 3 (by omega)⟩
 have q0:=Lx (i+29) true s hs
 have q1:=KL (i+1) true s hs
 have q2:=Oc (i+7) s hs k
 have q3:=fun p=>ID (i+9) p (BN s).1 (DU hs) k
 have q4:=bL (i+28) (HA s k).1 (iB hs k)
 have q5:=iI (i+(30 - 3)) (LF (BN s).1 k).1 (qN (DU hs) k)
 have q6:=fun p q=>Bq (i+(30 - 3)) p q (BN s).1 (BN s).1 (DU hs)
 have q7:=fun p q=>UG (i+28) p q s s hs
 have dd:∀ n:Int,decide (n=n)=true:=fun n=>by simp
 simp only [Nat.add_assoc,Nat.reduceAdd,Nat.reduceSub,decide_true] at q0 q1 q2 q3 q4 q5 q6 q7
 rcases My (s:=s) hg with ⟨e1,h1⟩ | ⟨e1,h1⟩
 ·rw [e1] at q2 q4
  rw [IC hg h1] at q3 q5
  rw [(GK h1).1] at q1
  generalize Bj s k=B at q2 q4
  generalize Dr (BN s).1 k=X at q3 q5
  generalize (BN s).1=M at q1 q3 q6
  clear e1 h1
  refine Af rfl 0 (by rfl) ?_
  delta c13
  simp +contextual -dsimp -implicitDefEqProofs (maxSteps:=5000000) only [haw,eg,q0,q1,q2,q3,q4,q5,q6,q7,dd,go_sem,simprocAttr]
 ·have hr:BN s=(AA,2500):=by unfold BN;rw [h1];rfl
  rw [e1] at q2 q4
  rw [hr] at q1 q3 q5
  generalize LF (AA,(2500:Int)).1 k=X at q3 q5
  refine Af rfl 0 (by rfl) ?_
  delta c13
  simp +contextual -dsimp -implicitDefEqProofs (maxSteps:=5000000) only [haw,eg,q0,q1,q2,q3,q4,q5,q7,dd,go_sem,simprocAttr]
end Ve
