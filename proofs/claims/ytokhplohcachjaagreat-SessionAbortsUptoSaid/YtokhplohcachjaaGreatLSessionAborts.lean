/- The statement SessionAborts. -/
import Derived.Test.YtokhplohcachjaaGreatVeSF
import Derived.Test.YtokhplohcachjaaGreatVeSD
import Derived.Test.YtokhplohcachjaaGreatPL48
import Derived.Test.YtokhplohcachjaaGreatVeP
set_option linter.all false
set_option linter.unusedSectionVars false
namespace Ve
open Go Ve.Ab
set_option maxHeartbeats 16000000
set_option maxRecDepth 20000
theorem u_SessionAborts (i:Nat) (to va:Int) (haw:Aa (Lv ctx (i+28)) 21 []=some (bV true)) (hbe:Aa (Lv ctx (i+28)) 23 []=some (oM MB)):Aa (Lv ctx (i+29)) 6 [iV to,iV va]=some (bV true):=by
 obtain ⟨t,et,ht⟩:∃ t:Int,EJ to 255=t∧inR t 255=true:=⟨_,rfl,Kg to 255 (by omega)⟩
 obtain ⟨v,ev,hv⟩:∃ v:Int,EJ va 255=v∧inR v 255=true:=⟨_,rfl,Kg va 255 (by omega)⟩
 obtain ⟨M,R,hs,hw,hcl⟩:∃ M,RunN 0 (MachA v t) M∧(M 4).sess[0]?=some ⟨3,0,3,[⟨0,0,v,0⟩,⟨3,0,0,0⟩,⟨6,t,0,0⟩],6,2,⟨v,0,0,0⟩,[],[],0,0,0,2,t⟩∧(M 4).words=(MachA v t).words∧(M 4).clocks=⟨0,0,0,0⟩:=by
  have R:=runN (k:=0) (inv_ma (ma_may hv ht)) (by show 0<2;decide)
  refine ⟨_,R,?_⟩
  rw [R.eq 4]
  exact ma_end v t
 have hsm0:SmM (MachA v t):=by have:=R.sm 0;rwa [R.z] at this
 have hl:∀ j,(M j).sess.length=2:=R.len
 have f:∀ p j,Aa (Lv ctx (i+28)) 16 [eM p (M j),iV 0]=some (.tup [oM (M (j+1)),iV 0]):=by
  intro p j
  have:=Ei (i+1) p (M j) (R.sm j) ((0:Nat):Int)
  rw [R.st j] at this
  exact this
 have f0:=fun p=>f p 0
 have q0:=fun p=>YP (i+26) p (MachA v t) hsm0
 have qa:=fun p q=>Rr (i+26) p q (MachA v t).words (MachA v t).words hsm0.w0 hsm0.w1 hsm0.w2 hsm0.w3
 rw [R.z] at f0
 clear R
 have dd:∀ n:Int,decide (n=n)=true:=fun n=>by simp
 simp only [decide_true,Nat.add_assoc,Nat.reduceAdd,MachA,S3p,S5p,MB,oM,cO,oWs,oSs,oEs,oIs,oRs,Fy,oS,eM,cM,eWs,eSs,eEs,eIs,eRs,HK,List.map_cons,List.map_nil,eS,eI,eR,eWr,eW,eE] at hbe f0 q0 qa
 have p1:((0:Int)<((M 4).sess.length:Int))=True:=by rw [hl];simp
 simp only [MachA] at hw
 refine Ac rfl 14 (by rfl) ?_
 delta c6
 simp +contextual -dsimp -implicitDefEqProofs (maxSteps:=5000000) only [haw,hbe,et,ev,dd,List.replicate,f0,f,q0,hl,gLs,↓Aj (c6_1.eq_1),p1,hs,hw,hcl,qa,go_sem,simprocAttr]
end Ve
