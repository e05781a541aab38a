/- The statement SessionLabels. -/
import Derived.Test.YtokhplohcachjaaGreatVeSF
import Derived.Test.YtokhplohcachjaaGreatVeSD
import Derived.Test.YtokhplohcachjaaGreatVeP
set_option linter.all false
set_option linter.unusedSectionVars false
namespace Ve
open Go Ve.Ab
set_option maxHeartbeats 16000000
set_option maxRecDepth 20000
theorem LL (i k:Nat) (q:Out→St→Option Ans) (Q:V→Hp→Nat→Prop) (at_ many:Int) (N:Nat) (hN:EJ many 31=(N:Int)) (hN1:N≤31)
  (u:Dum (fun s q=>evC ctx (Lv ctx (i+28)) (Aa (Lv ctx (i+28))) k Uj s (Aq [1,2,3,7] q))) (w:Dum q)
  (hend:∀ h n,Fin (q (.exit 0) ⟨Ae [] [],h,n⟩) Q) (hret:∀ h n,Fin (q .ret ⟨Ae [6] [bV true],h,n⟩) Q) :
  ∀ (d j kk:Nat) (M:Ad),SmM M→j+d=N→d<kk →
  GL 1 [1,2,3,7] (fun s q=>evC ctx (Lv ctx (i+28)) (Aa (Lv ctx (i+28))) k Uj s (Aq [1,2,3,7] q)) q kk ⟨Ae [1,2,3,7] [iV at_,iV many,.ptr 0 0 0,iV j],pO Af 0 (some ⟨11,[eM true M],false⟩),1⟩ Q u w:=by
 intro d
 induction d with
 | zero =>
  intro j kk M hm hj hk
  obtain ⟨kk,rfl⟩:∃ n,kk=n+1:=⟨kk - 1,by omega⟩
  have l0:decide ((j:Int)<(N:Int))=false:=by simp;omega
  simp +contextual -dsimp -implicitDefEqProofs (maxSteps:=5000000) only [gLs,↓Aj (Uj.eq_1),hN,l0,go_sem,simprocAttr]
  exact hend _ _
 | succ d ih =>
  intro j kk M hm hj hk
  obtain ⟨kk,rfl⟩:∃ n,kk=n+1:=⟨kk - 1,by omega⟩
  have hz:=Ft (i+25) true false
  have hz':=Ft (i+25) false false
  have h2:=Ei (i+1) true M hm at_
  simp only [Nat.add_assoc,Nat.reduceAdd] at hz hz' h2
  have l0:decide ((j:Int)<(N:Int))=true:=by simp;omega
  have l3:=wrN j (by simp only [BB];omega)
  rcases DA M at_ with h | ⟨k',s,rfl,hs,hM,hS⟩
  ·rw [Hd h,Aw] at h2
   simp +contextual -dsimp -implicitDefEqProofs (maxSteps:=5000000) only [gLs,↓Aj (Uj.eq_1),hN,l0,h2,hz,hz',go_sem,simprocAttr]
   exact hret _ _
  ·by_cases hr:(Bb M k' s).2=0
   ·have h0:(Be M k').2=0:=by rw [JP hs hM hr]
    obtain ⟨t,W⟩:=Fc hs hM hS h0
    have hmA:SmM (Be M k').1:=IM hm _
    have ih:=ih (j+1) kk (Be M k').1 hmA (by omega) (by omega)
    rw [h0] at h2
    generalize (Be M k').1=A at h2 W hmA ih
    have hk:=Au hs
    have hA:A.sess[k']?=some t:=by rw [W.sess];exact List.getElem?_set_self hk
    have hAl:A.sess.length=M.sess.length:=by rw [W.sess];exact List.length_set ..
    have e1:(0≤(k':Int))=True:=by simp
    have e2:((k':Int)<(M.sess.length:Int))=True:=by simpa using hk
    have e3:((k':Int)<(A.sess.length:Int))=True:=by rw [hAl];exact e2
    have d1:decide ((k':Int)<0)=false:=by simp
    have d2:decide ((M.sess.length:Int)≤(k':Int))=false:=by simp;try omega
    have d3:decide ((A.sess.length:Int)≤(k':Int))=false:=by rw [hAl];exact d2
    have hT:=(sp _ _).1 (W.may.sess t (List.mem_of_getElem? hA))
    have o1:decide (orI s.label t.label=t.label)=true:=W.lab
    have o2:decide (orI t.label t.clear=t.clear)=true:=hT.under
    have o3:decide (s.clear=t.clear)=true:=by rw [W.clear];simp
    simp +contextual -dsimp -implicitDefEqProofs (maxSteps:=5000000) only [gLs,↓Aj (Uj.eq_1),hN,l0,l3,h2,hs,hA,e1,e2,e3,d1,d2,d3,o1,o2,o3,go_sem,simprocAttr]
    exact (BF (by rfl)).mpr ih
   ·rw [JQ hs hM hr,Aw] at h2
    simp +contextual -dsimp -implicitDefEqProofs (maxSteps:=5000000) only [gLs,↓Aj (Uj.eq_1),hN,l0,h2,hz,hz',go_sem,simprocAttr]
    exact hret _ _
theorem u_SessionLabels (i:Nat) (m:Ad) (hm:SmM m) (at_ many:Int) (haw:Aa (Lv ctx (i+28)) 21 []=some (bV true)):Aa (Lv ctx (i+29)) 8 [eM true m,iV at_,iV many]=some (bV true):=by
 have hv:0≤EJ many 31∧EJ many 31≤31:=AG.1 (Kg many 31 (by omega))
 obtain ⟨N,hN,hN1⟩:∃ N:Nat,EJ many 31=(N:Int)∧N≤31:=⟨(EJ many 31).toNat,by omega,by omega⟩
 refine Ac rfl 33 (by rfl) ?_
 delta c8
 simp +contextual -dsimp -implicitDefEqProofs (maxSteps:=5000000) only [haw,go_sem,simprocAttr]
 refine LL i _ _ _ at_ many N hN hN1 _ _ ?_ ?_ N 0 _ m hm (by omega) (by omega)
 ·intro h n
  simp +contextual -dsimp -implicitDefEqProofs (maxSteps:=5000000) only [go_sem,simprocAttr]
 ·intro h n
  simp +contextual -dsimp -implicitDefEqProofs (maxSteps:=5000000) only [go_sem,simprocAttr]
end Ve
