/- The statement SlotOne. -/
import Derived.Test.YtokhplohcachjaaGreatVeSF
import Derived.Test.YtokhplohcachjaaGreatVeSD
import Derived.Test.YtokhplohcachjaaGreatVeP
set_option linter.all false
set_option linter.unusedSectionVars false
namespace Ve
open Go Ve.Ab
set_option maxHeartbeats 16000000
set_option maxRecDepth 20000
theorem u_SlotOne (i:Nat) (m:Ad) (hm:SmM m) (lv pk:Int) (haw:Aa (Lv ctx (i+29)) 32 []=some (bV true)) (hst:Aa (Lv ctx (i+29)) 34 [iV 0,iV 0]=some (oM MB)):Aa (Lv ctx (i+30)) 13 [eM true m,.agg [iV lv,iV pk]]=some (bV true):=by
 have hz:=Ft (i+26) true false
 have hz':=Ft (i+26) false false
 have h2:=fun p=>UI (i+9) p m hm lv pk
 have h4:=fun p=>Pj (i+1) p m hm lv pk
 have h5:=fun p a=>Ps (i+17) p m hm a
 have h8:=fun p q=>Ci (i+26) p q m m hm
 simp only [Nat.add_assoc,Nat.reduceAdd,decide_true] at hz hz' h2 h4 h5 h8
 simp only [MB,oM,cO,oWs,oSs,oEs,oIs,oRs,Fy,List.map_cons,List.map_nil,oS,eI,eR,eWr,eW,eE] at hst
 have e:Bt m ⟨lv,pk⟩=if (Cc m ⟨lv,pk⟩).2.2=0 then (if (Cc m ⟨lv,pk⟩).2.1=true then (if (Be m (Cc m ⟨lv,pk⟩).1).2=0 then ((Be m (Cc m ⟨lv,pk⟩).1).1,0) else (AK,2400)) else (m,0)) else (AK,2400):=rfl
 rw [e] at h4
 generalize Cc m ⟨lv,pk⟩=W at h2 h4
 obtain ⟨a,is,er⟩:=W
 simp only at h2 h4
 by_cases h0:er=0
 ·have z0:decide (er=0)=true:=by simpa using h0
  rw [if_pos h0] at h4
  cases is
  ·simp only [Bool.false_eq_true,if_false] at h4
   refine Ac rfl 0 (by rfl) ?_
   delta c13
   simp +contextual -dsimp -implicitDefEqProofs (maxSteps:=5000000) only [haw,h2,h4,h8,z0,go_sem,simprocAttr]
  ·simp only [if_true] at h4
   have h5:=fun p=>h5 p a
   have hmA:=IM hm a
   generalize Be m a=A at h4 h5 hmA
   have h7:=fun p q=>Ci (i+26) p q A.1 A.1 hmA
   simp only [Nat.add_assoc,Nat.reduceAdd,decide_true] at h7
   by_cases h1:A.2=0
   ·have z1:decide (A.2=0)=true:=by simpa using h1
    rw [if_pos h1] at h4
    refine Ac rfl 0 (by rfl) ?_
    delta c13
    simp +contextual -dsimp -implicitDefEqProofs (maxSteps:=5000000) only [haw,hst,h2,h4,h5,h7,z0,z1,go_sem,simprocAttr]
   ·have z1:decide (A.2=0)=false:=by simpa using h1
    rw [if_neg h1,Aw] at h4
    refine Ac rfl 0 (by rfl) ?_
    delta c13
    simp +contextual -dsimp -implicitDefEqProofs (maxSteps:=5000000) only [haw,h2,h4,h5,hz,hz',z0,z1,go_sem,simprocAttr]
 ·have z0:decide (er=0)=false:=by simpa using h0
  rw [if_neg h0,Aw] at h4
  refine Ac rfl 0 (by rfl) ?_
  delta c13
  simp +contextual -dsimp -implicitDefEqProofs (maxSteps:=5000000) only [haw,h2,h4,hz,hz',z0,go_sem,simprocAttr]
end Ve
