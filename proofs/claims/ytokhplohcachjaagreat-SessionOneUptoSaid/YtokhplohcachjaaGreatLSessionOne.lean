/- The statement SessionOne. -/
import Derived.Test.YtokhplohcachjaaGreatVeSF
import Derived.Test.YtokhplohcachjaaGreatVeSD
import Derived.Test.YtokhplohcachjaaGreatVeP
set_option linter.all false
set_option linter.unusedSectionVars false
namespace Ve
open Go Ve.Ab
set_option maxHeartbeats 16000000
set_option maxRecDepth 20000
theorem PI (i k:Nat) (q:Out→St→Option Ans) (Q:V→Hp→Nat→Prop) (m A:Ad) (hm:SmM m) (at_:Nat) (hAl:A.sess.length=m.sess.length)
  (hw:∀ (j:Nat) (x:Ag),j≠at_→m.sess[j]?=some x→A.sess[j]?=some x)
  (u:Dum (fun s q=>evC ctx (Lv ctx (i+28)) (Aa (Lv ctx (i+28))) k Uk s (Aq [1,2,5,7] q))) (w:Dum q) (kk:Nat) (hk:m.sess.length<kk) :
  GL 1 [1,2,5,7] (fun s q=>evC ctx (Lv ctx (i+28)) (Aa (Lv ctx (i+28))) k Uk s (Aq [1,2,5,7] q)) q kk ⟨Ae [1,2,5,7] [iV at_,.ip true (cM true m) 0,.ptr 0 0 0,iV 0],pO Af 0 (some ⟨11,[eM true A],false⟩),1⟩ Q u w
  = Fin (q (.exit 0) ⟨Ae [2,5] [.ip true (cM true m) 0,.ptr 0 0 0],pO Af 0 (some ⟨11,[eM true A],false⟩),1⟩) Q:=by
 have hx:m.sess.length≤BB:=by have:=hm.bs;simp only [BB];omega
 have key:∀ (d j kk:Nat),j+d=m.sess.length→d<kk →
  GL 1 [1,2,5,7] (fun s q=>evC ctx (Lv ctx (i+28)) (Aa (Lv ctx (i+28))) k Uk s (Aq [1,2,5,7] q)) q kk ⟨Ae [1,2,5,7] [iV at_,.ip true (cM true m) 0,.ptr 0 0 0,iV j],pO Af 0 (some ⟨11,[eM true A],false⟩),1⟩ Q u w
  = Fin (q (.exit 0) ⟨Ae [2,5] [.ip true (cM true m) 0,.ptr 0 0 0],pO Af 0 (some ⟨11,[eM true A],false⟩),1⟩) Q:=by
  intro d
  induction d with
  | zero =>
   intro j kk hj hk
   obtain ⟨kk,rfl⟩:∃ n,kk=n+1:=⟨kk - 1,by omega⟩
   have l0:decide ((j:Int)<(m.sess.length:Int))=false:=by simp;omega
   simp +contextual -dsimp -implicitDefEqProofs (maxSteps:=5000000) only [gLs,↓Aj (Uk.eq_1),l0,go_sem,simprocAttr]
  | succ d ih =>
   intro j kk hj hk
   obtain ⟨kk,rfl⟩:∃ n,kk=n+1:=⟨kk - 1,by omega⟩
   have hjl:j<m.sess.length:=by omega
   obtain ⟨x,hx0⟩:∃ x,m.sess[j]?=some x:=⟨_,List.getElem?_eq_getElem hjl⟩
   have ih:=ih (j+1) kk (by omega) (by omega)
   have l1:((j:Int)<(m.sess.length:Int))=True:=by simpa using hjl
   have l1':((j:Int)<(A.sess.length:Int))=True:=by rw [hAl];exact l1
   have l2:(0≤(j:Int))=True:=by simp
   have l3:=wrN j (by omega)
   by_cases hja:j=at_
   ·have v1:decide ((j:Int)=(at_:Int))=true:=by simp [hja]
    simp +contextual -dsimp -implicitDefEqProofs (maxSteps:=5000000) only [gLs,↓Aj (Uk.eq_1),l1,l1',l2,l3,v1,go_sem,simprocAttr]
    exact (BF (by rfl)).trans ih
   ·have v1:decide ((j:Int)=(at_:Int))=false:=by simp;omega
    have hy:=hw j x hja hx0
    have hsx:=hm.s x (List.mem_of_getElem? hx0)
    have qs:=fun p1 p2 p3 q1 q2 q3=>Ig (i+26) p1 p2 p3 q1 q2 q3 x x hsx.p hsx.r hsx.w
    simp only [Nat.add_assoc,Nat.reduceAdd,decide_true] at qs
    simp +contextual -dsimp -implicitDefEqProofs (maxSteps:=5000000) only [gLs,↓Aj (Uk.eq_1),l1,l1',l2,l3,v1,hx0,hy,eS,qs,go_sem,simprocAttr]
    exact (BF (by rfl)).trans ih
 have:=key m.sess.length 0 kk (by omega) hk
 simpa only [Int.natCast_zero] using this
theorem u_SessionOne (i:Nat) (m:Ad) (hm:SmM m) (at_:Int) (haw:Aa (Lv ctx (i+28)) 21 []=some (bV true)):Aa (Lv ctx (i+29)) 7 [eM true m,iV at_]=some (bV true):=by
 have hz:=Ft (i+25) true false
 have hz':=Ft (i+25) false false
 have h2:=Ei (i+1) true m hm at_
 simp only [Nat.add_assoc,Nat.reduceAdd] at hz hz' h2
 rcases DA m at_ with h | ⟨k,s,rfl,hs,hM,hS⟩
 ·rw [Hd h,Aw] at h2
  refine Ac rfl 0 (by rfl) ?_
  delta c7
  simp +contextual -dsimp -implicitDefEqProofs (maxSteps:=5000000) only [haw,h2,hz,hz',go_sem,simprocAttr]
 ·by_cases hr:(Bb m k s).2=0
  ·have h0:(Be m k).2=0:=by rw [JP hs hM hr]
   obtain ⟨t,W⟩:=Fc hs hM hS h0
   have hmA:SmM (Be m k).1:=IM hm _
   rw [h0] at h2
   generalize (Be m k).1=A at h2 W hmA
   have hAl:A.sess.length=m.sess.length:=by rw [W.sess];exact List.length_set ..
   have f0:=fun kf q Q u w kk hk=>PI i kf q Q m A hm k hAl (fun j x hj hx=>by rw [W.sess,List.getElem?_set_ne (Ne.symm hj)];exact hx) u w kk hk
   have hk:=Au hs
   have z1:decide ((A.sess.length:Int)=(m.sess.length:Int))=true:=by rw [hAl];simp
   have z5:decide (A.ceil=m.ceil)=true:=by rw [W.ceil];simp
   have qm:=fun p=>UL (i+21) p A hmA
   rw [(RO A).2 W.may] at qm
   have ht3:IntKind.wrap .i64 ((m.trace.length:Int)+1)=(m.trace.length:Int)+1:=AU (by omega) (by have:=hm.bt;omega)
   have l1:(0≤(m.trace.length:Int))=True:=by simp
   have hev:∃ l:List Ba,A.trace=m.trace++l∧l.length≤1:=by
    rcases W.trace with h | ⟨e,h,_⟩
    ·exact ⟨[],by rw [h];simp,by simp⟩
    ·exact ⟨[e],h,by simp⟩
   obtain ⟨l,hl,hl1⟩:=hev
   have qe:=fun pa na pb nb=>JU (i+27) pa na pb nb m.trace m.trace (by have:=hm.bt;simp only [BB];omega)
   have z2:decide ((A.trace.length:Int)<(m.trace.length:Int))=false:=by rw [hl];simp;omega
   have z3:decide ((m.trace.length:Int)+1<(A.trace.length:Int))=false:=by rw [hl];simp;omega
   have l2:((m.trace.length:Int)≤(A.trace.length:Int))=True:=by rw [hl];simp;omega
   have l3:∀ f:Ba→V,(A.trace.map f).take m.trace.length=m.trace.map f:=by intro f;rw [hl];simp
   have dd:∀ n:Int,decide (n=n)=true:=fun n=>by simp
   simp only [Nat.add_assoc,Nat.reduceAdd,decide_true] at qm qe
   refine Ac rfl (m.sess.length+1) (by rfl) ?_
   delta c7
   simp +contextual -dsimp -implicitDefEqProofs (maxSteps:=5000000) only [haw,h2,hz,hz',z1,z2,z3,z5,ht3,l1,l2,l3,qe,qm,dd,go_sem,simprocAttr]
   refine (f0 _ _ _ _ _ _ (by omega)).mpr ?_
   simp +contextual -dsimp -implicitDefEqProofs (maxSteps:=5000000) only [z5,qm,dd,go_sem,simprocAttr]
  ·rw [JQ hs hM hr,Aw] at h2
   refine Ac rfl 0 (by rfl) ?_
   delta c7
   simp +contextual -dsimp -implicitDefEqProofs (maxSteps:=5000000) only [haw,h2,hz,hz',go_sem,simprocAttr]
end Ve
