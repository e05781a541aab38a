/- The statement ScriptBelow. -/
import Derived.Test.YtjgbbmcjbfpjfaaGreatVeSE
import Derived.Test.YtjgbbmcjbfpjfaaGreatVeSH
import Derived.Test.YtjgbbmcjbfpjfaaGreatPL54
set_option linter.all false
set_option linter.unusedSectionVars false
namespace Ve
open Go Ve.Ab
set_option maxHeartbeats 16000000
set_option maxRecDepth 20000
theorem u_ScriptBelow (i:Nat) (s:Aq) (hs:CK s) (a b:Int) (haw:Aa (Lv ctx (i+30)) 25 []=some (bV true)):Aa (Lv ctx (i+31)) 6 [eSc true s,iV a,iV b]=some (bV true):=by
 obtain ⟨p,ep,hp⟩:∃ k:Int,DS a 3=k∧inR k 3=true:=⟨_,rfl,GO a 3 (by omega)⟩
 obtain ⟨q,eq,hq⟩:∃ k:Int,DS b 3=k∧inR k 3=true:=⟨_,rfl,GO b 3 (by omega)⟩
 have q1:=GF (i+7) s hs 3
 rcases Vr (s:=s) (g:=3) (by decide) with ⟨e1,h1⟩ | ⟨e1,h1⟩
 ·obtain ⟨l1,l2⟩:=MQ h1
  have hpq:inR (DS p q) 3=true:=by
   rcases Fm hp with rfl | rfl | rfl | rfl<;>rcases Fm hq with rfl | rfl | rfl | rfl<;>decide
  have hB:=MI h1 p
  have hsB:=JY hs p
  have q2:=GF (i+7) s hs p
  have q3:=GF (i+7) (Bc s p) hsB q
  have q4:=GF (i+7) s hs (DS p q)
  have q5:=fun x y=>Je (i+28) x y s s hs
  have q6:=fun x y=>Je (i+28) x y (Bc s (DS p q)) (Bc s (DS p q)) (JY hs _)
  have q7:=GB (i+9) true (Bc s p) hsB
  have e3:Bc (Bc s p) q=Bc s (DS p q):=Ns hp hq l1 l2
  rw [LZ (by decide) h1,eG l1 l2] at q1
  rw [LZ hp h1] at q2
  rw [LZ hq hB,e3] at q3
  rw [LZ hpq h1] at q4
  rw [hB] at q7
  simp only [Nat.add_assoc,Nat.reduceAdd,Nat.reduceSub,decide_true] at q1 q2 q3 q4 q5 q6 q7
  generalize Bc s (DS p q)=Y at q3 q4 q6
  generalize Bc s p=X at q2 q3 q7
  clear e3 hB hsB e1 h1 l1 l2
  refine Ac rfl 0 (by rfl) ?_
  delta c6
  simp +contextual -dsimp -implicitDefEqProofs (maxSteps:=5000000) only [haw,ep,eq,q1,q2,q3,q4,q5,q6,q7,go_sem,simprocAttr]
 ·rw [e1] at q1
  have qm:=GB (i+9) true s hs
  rw [h1] at qm
  simp only [Nat.add_assoc,Nat.reduceAdd] at q1 qm
  refine Ac rfl 0 (by rfl) ?_
  delta c6
  simp +contextual -dsimp -implicitDefEqProofs (maxSteps:=5000000) only [haw,ep,eq,q1,qm,go_sem,simprocAttr]
end Ve
