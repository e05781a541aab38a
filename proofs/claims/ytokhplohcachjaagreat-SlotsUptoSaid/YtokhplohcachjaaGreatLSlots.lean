/- The statement Slots, but for awake. -/
import Derived.Test.YtokhplohcachjaaGreatVeSF
import Derived.Test.YtokhplohcachjaaGreatVeSD
import Derived.Test.YtokhplohcachjaaGreatVeP
set_option linter.all false
set_option linter.unusedSectionVars false
namespace Ve
open Go Ve.Ab
set_option maxHeartbeats 16000000
set_option maxRecDepth 20000
theorem u_Slots (i:Nat) (m:Ad) (hm:SmM m) (lv pk:Int) (haw:Aa (Lv ctx (i+29)) 32 []=some (bV true)):Aa (Lv ctx (i+30)) 10 [eM true m,.agg [iV lv,iV pk]]=some (bV true):=by
 have h1:=YP (i+27) true m hm
 have h2:=fun p=>UI (i+9) p m hm lv pk
 have h3:=fun p=>mD (i+21) p m hm lv pk
 have h4:=fun p=>Pj (i+1) p m hm lv pk
 have h5:=fun p=>oK (i+16) p m hm lv pk
 have h6:=fun p q=>Ci (i+26) p q (Bt m ⟨lv,pk⟩).1 (Bt m ⟨lv,pk⟩).1 (Pf hm _)
 have h8:=fun p q=>Ci (i+26) p q m m hm
 have h9:=Rq (i+26) (Bt m ⟨lv,pk⟩).1 (Pf hm _)
 have hb:∀ b:Bool,Bu lay .neq 4 (bV b) (bV b)=some (bV false):=by intro b;cases b<;>rfl
 simp only [Nat.add_assoc,Nat.reduceAdd,decide_true] at h1 h2 h3 h4 h5 h6 h8 h9
 have dd:∀ n:Int,decide (n=n)=true:=fun n=>by simp
 generalize Cc m ⟨lv,pk⟩=W at h2 h3
 generalize Bt m ⟨lv,pk⟩=A at h4 h5 h6 h9
 refine Ac rfl 0 (by rfl) ?_
 delta c10
 simp +contextual -dsimp -implicitDefEqProofs (maxSteps:=5000000) only [h1,h2,h3,h4,h5,h6,h8,h9,hb,dd,haw,go_sem,simprocAttr]
end Ve
