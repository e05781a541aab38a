/- The statement TopVeiled. -/
import Derived.Test.YthllnfkddiaokaaGreatS63
import Derived.Test.YthllnfkddiaokaaGreatS64
import Derived.Test.YthllnfkddiaokaaGreatVeP
set_option linter.all false
set_option linter.unusedSectionVars false
namespace Ve
open Go Ve.Ab
set_option maxHeartbeats 16000000
set_option maxRecDepth 20000
theorem u_TopVeiled (i:Nat) (s:Ap) (hs:Cj s) (t:Ap) (ht:Cj t) (g:Int) (haw:Aa (Lv ctx (i+30)) 15 []=some (bV true)):Aa (Lv ctx (i+31)) 11 [eSc true s,eSc true t,iV g]=some (bV true):=by
 obtain ⟨k,eg,hg⟩:∃ k:Int,Df g 3=k∧inR k 3=true:=⟨_,rfl,GY g 3 (by omega)⟩
 have q1:=Oc (i+7) s hs k
 have q2:=Oc (i+7) t ht k
 have q3:=fun p q=>UG (i+28) p q (Bj s k) (Bj t k) (MJ hs k)
 have q4:=KL (i+1) true s hs
 have q5:=KL (i+1) true t ht
 have q6:=fun p=>ID (i+9) p (BN s).1 (DU hs) k
 have q7:=fun p=>ID (i+9) p (BN t).1 (DU ht) k
 simp only [Nat.add_assoc,Nat.reduceAdd] at q1 q2 q3 q4 q5 q6 q7
 rcases My (s:=s) hg with ⟨e1,h1⟩ | ⟨e1,h1⟩
 ·rcases My (s:=t) hg with ⟨e2,h2⟩ | ⟨e2,h2⟩
  ·rw [e1] at q1
   rw [e2] at q2
   by_cases hb:Bj s k=Bj t k
   ·have hc:decide (Bj s k=Bj t k)=true:=decide_eq_true hb
    have hv:=OJ hg h1 h2 (iH hb)
    rw [IC hg h1] at q6
    rw [IC hg h2,← hv] at q7
    have q8:=fun p q=>Bq (i+(30 - 3)) p q (Dr (BN s).1 k) (Dr (BN s).1 k) (LA (DU hs) k)
    rw [hc] at q3
    rw [(GK h1).1] at q4
    rw [(GK h2).1] at q5
    simp only [Nat.add_assoc,Nat.reduceAdd,Nat.reduceSub,decide_true] at q8
    generalize Bj s k=B1 at q1 q3
    generalize Bj t k=B2 at q2 q3
    generalize Dr (BN s).1 k=X at q6 q7 q8
    generalize (BN s).1=M1 at q4 q6
    generalize (BN t).1=M2 at q5 q7
    clear e1 e2 hv hb hc h1 h2
    refine Af rfl 0 (by rfl) ?_
    delta c11
    simp +contextual -dsimp -implicitDefEqProofs (maxSteps:=5000000) only [haw,eg,q1,q2,q3,q4,q5,q6,q7,q8,go_sem,simprocAttr]
   ·have hc:decide (Bj s k=Bj t k)=false:=decide_eq_false hb
    rw [hc] at q3
    generalize Bj s k=B1 at q1 q3
    generalize Bj t k=B2 at q2 q3
    refine Af rfl 0 (by rfl) ?_
    delta c11
    simp +contextual -dsimp -implicitDefEqProofs (maxSteps:=5000000) only [haw,eg,q1,q2,q3,go_sem,simprocAttr]
  ·rw [e1] at q1
   rw [e2] at q2
   refine Af rfl 0 (by rfl) ?_
   delta c11
   simp +contextual -dsimp -implicitDefEqProofs (maxSteps:=5000000) only [haw,eg,q1,q2,go_sem,simprocAttr]
 ·rw [e1] at q1
  generalize HA t k=B2 at q2
  refine Af rfl 0 (by rfl) ?_
  delta c11
  simp +contextual -dsimp -implicitDefEqProofs (maxSteps:=5000000) only [haw,eg,q1,q2,go_sem,simprocAttr]
end Ve
