/- The statement ScriptVeiled. -/
import Derived.Test.YtjgbbmcjbfpjfaaGreatVeSE
import Derived.Test.YtjgbbmcjbfpjfaaGreatVeSH
import Derived.Test.YtjgbbmcjbfpjfaaGreatVeP
import Derived.Test.YtjgbbmcjbfpjfaaGreatPL56
set_option linter.all false
set_option linter.unusedSectionVars false
namespace Ve
open Go Ve.Ab
set_option maxHeartbeats 16000000
set_option maxRecDepth 20000
theorem u_ScriptVeiled (i:Nat) (s:Aq) (hs:CK s) (g:Int) (haw:Aa (Lv ctx (i+30)) 25 []=some (bV true)):Aa (Lv ctx (i+31)) 4 [eSc true s,iV g]=some (bV true):=by
 obtain ⟨k,eg,hg⟩:∃ k:Int,DS g 3=k∧inR k 3=true:=⟨_,rfl,GO g 3 (by omega)⟩
 have q1:=Kq (i+1) true s hs
 have qm:=GB (i+9) true s hs
 simp only [Nat.add_assoc,Nat.reduceAdd] at q1 qm
 rcases Wa (s:=s) with ⟨h0,hsm⟩ | ⟨h0,hsm⟩
 ·have hB:=MI hsm k
  have hsB:=JY hs k
  have q2:=GF (i+7) s hs k
  have q3:=Kq (i+1) true (Bc s k) hsB
  have q4:=fun p=>Hi (i+9) p (Bq s).1 (FE hs) k
  have q5:=fun p=>Hi (i+9) p (Bq (Bc s k)).1 (FE hsB) k
  have hv:Bf (Bq s).1 k=Bf (Bq (Bc s k)).1 k:=yL hg hsm
  have q6:=fun p q=>BF (i+(30 - 3)) p q (Bf (Bq s).1 k) (Bf (Bq s).1 k) (KZ (FE hs) k)
  rcases Vr (s:=s) hg with ⟨e1,h1⟩ | ⟨e1,h1⟩
  ·rw [e1] at q2
   rw [h0] at q1
   rw [NC hg hsm] at q4
   rw [NC hg hB,← hv] at q5
   rw [(Iq hB).1] at q3
   simp only [Nat.add_assoc,Nat.reduceAdd,Nat.reduceSub,decide_true] at q2 q3 q4 q5 q6
   generalize Bf (Bq s).1 k=X at q4 q5 q6
   generalize (Bq s).1=M1 at q1 q4
   generalize (Bq (Bc s k)).1=M2 at q3 q5
   generalize Bc s k=B at q2 q3
   clear hv e1 hB hsB h0 hsm h1
   refine Ac rfl 0 (by rfl) ?_
   delta c4
   simp +contextual -dsimp -implicitDefEqProofs (maxSteps:=5000000) only [haw,eg,q1,q2,q3,q4,q5,q6,go_sem,simprocAttr]
  ·rw [hsm] at h1;cases h1
 ·rw [h0] at q1
  rw [hsm] at qm
  have qz:=fun p q=>BF (i+(30 - 3)) p q Az Az Dx
  simp only [Az,eM,cM,eWs,eSs,eEs,List.map_nil,decide_true,Nat.add_assoc,Nat.reduceAdd,Nat.reduceSub] at qz
  simp only [Ay] at q1
  refine Ac rfl 0 (by rfl) ?_
  delta c4
  simp +contextual -dsimp -implicitDefEqProofs (maxSteps:=5000000) only [haw,eg,q1,qm,qz,go_sem,simprocAttr]
end Ve
