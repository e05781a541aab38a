/- The statement ScriptSeen. -/
import Derived.Test.YtjgbbmcjbfpjfaaGreatVeSE
import Derived.Test.YtjgbbmcjbfpjfaaGreatVeSH
import Derived.Test.YtjgbbmcjbfpjfaaGreatVeSD
import Derived.Test.YtjgbbmcjbfpjfaaGreatPL54
set_option linter.all false
set_option linter.unusedSectionVars false
namespace Ve
open Go Ve.Ab
set_option maxHeartbeats 16000000
set_option maxRecDepth 20000
theorem fX {m:Ad} (h:CN m=true):Bf m 3=m:=by
 have hM:=(Nv m).1 h
 unfold Bf
 have h1:m.sess.filter (fun x=>Aj x.label 3)=m.sess:=List.filter_eq_self.2 fun x hx=>JT ((sp _ _).1 (hM.sess x hx)).label
 have h2:m.trace.filter (fun x=>Aj x.label 3)=m.trace:=List.filter_eq_self.2 fun x hx=>JT (hM.trace x hx)
 rw [h1,h2]
 rfl
abbrev If (A X:Ad):Hp:=pO (pO Af 0 (some ⟨11,[.agg (cM true A)],false⟩)) 1 (some ⟨11,[.agg (cM true X)],false⟩)
theorem a9y (i k:Nat) (m A X:Ad) (p:Int) (hb:(X.sess.length:Int)*184≤140737488355328) (hu:∀ x∈X.sess,Aj x.label p=true) (q:Out→St→Option Ans) (Q:V→Hp→Nat→Prop)
  (u:Dum (fun s q=>evC ctx (Lv ctx (i+30)) (Aa (Lv ctx (i+30))) k oG s (Al [2,5,6,8,10] q))) (w:Dum q) (kk:Nat) (hk:X.sess.length<kk)
  (hend:Fin (q (.exit 0) ⟨Ae [2,5,6,8] [.ip true (cM true m) 0,iV p,.ptr 0 0 0,.ptr 1 0 0],If A X,2⟩) Q) :
  GL 2 [2,5,6,8,10] (fun s q=>evC ctx (Lv ctx (i+30)) (Aa (Lv ctx (i+30))) k oG s (Al [2,5,6,8,10] q)) q kk ⟨Ae [2,5,6,8,10] [.ip true (cM true m) 0,iV p,.ptr 0 0 0,.ptr 1 0 0,iV 0],If A X,2⟩ Q u w:=by
 refine ZV (S:=fun j=>⟨Ae [2,5,6,8,10] [.ip true (cM true m) 0,iV p,.ptr 0 0 0,.ptr 1 0 0,iV j],If A X,2⟩) X.sess.length rfl hk ?_ ?_
 ·intro j kk hj hgl
  obtain ⟨x,hx⟩:∃ x,X.sess[j]?=some x:=⟨_,List.getElem?_eq_getElem hj⟩
  have c0:=hu x (List.mem_of_getElem? hx)
  have l1:((j:Int)<(X.sess.length:Int))=True:=by simpa using hj
  have l2:(0≤(j:Int))=True:=by simp
  have l3:=wrN j (by simp only [BB];omega)
  simp +contextual -dsimp -implicitDefEqProofs (maxSteps:=5000000) only [l1,l2,l3,hx,c0,↓Ah (oG.eq_1),eS,go_sem,simprocAttr]
  exact DW hgl (by rfl)
 ·intro kk
  have l0:decide ((X.sess.length:Int)<(X.sess.length:Int))=false:=by simp
  simp +contextual -dsimp -implicitDefEqProofs (maxSteps:=5000000) only [l0,↓Ah (oG.eq_1),go_sem,simprocAttr]
  exact hend
theorem a9w (i k:Nat) (m A X:Ad) (p:Int) (hb:(X.trace.length:Int)*32≤140737488355328) (hu:∀ x∈X.trace,Aj x.label p=true) (q:Out→St→Option Ans) (Q:V→Hp→Nat→Prop)
  (u:Dum (fun s q=>evC ctx (Lv ctx (i+30)) (Aa (Lv ctx (i+30))) k oE s (Al [2,5,6,8,11] q))) (w:Dum q) (kk:Nat) (hk:X.trace.length<kk)
  (hend:Fin (q (.exit 2) ⟨Ae [2,5,6,8] [.ip true (cM true m) 0,iV p,.ptr 0 0 0,.ptr 1 0 0],If A X,2⟩) Q) :
  GL 2 [2,5,6,8,11] (fun s q=>evC ctx (Lv ctx (i+30)) (Aa (Lv ctx (i+30))) k oE s (Al [2,5,6,8,11] q)) q kk ⟨Ae [2,5,6,8,11] [.ip true (cM true m) 0,iV p,.ptr 0 0 0,.ptr 1 0 0,iV 0],If A X,2⟩ Q u w:=by
 refine ZV (S:=fun j=>⟨Ae [2,5,6,8,11] [.ip true (cM true m) 0,iV p,.ptr 0 0 0,.ptr 1 0 0,iV j],If A X,2⟩) X.trace.length rfl hk ?_ ?_
 ·intro j kk hj hgl
  obtain ⟨x,hx⟩:∃ x,X.trace[j]?=some x:=⟨_,List.getElem?_eq_getElem hj⟩
  have c0:=hu x (List.mem_of_getElem? hx)
  have l1:((j:Int)<(X.trace.length:Int))=True:=by simpa using hj
  have l2:(0≤(j:Int))=True:=by simp
  have l3:=wrN j (by simp only [BB];omega)
  simp +contextual -dsimp -implicitDefEqProofs (maxSteps:=5000000) only [l1,l2,l3,hx,c0,↓Ah (oE.eq_1),eE,go_sem,simprocAttr]
  exact DW hgl (by rfl)
 ·intro kk
  have l0:decide ((X.trace.length:Int)<(X.trace.length:Int))=false:=by simp
  simp +contextual -dsimp -implicitDefEqProofs (maxSteps:=5000000) only [l0,↓Ah (oE.eq_1),go_sem,simprocAttr]
  exact hend
theorem a9v (i k:Nat) (m A X:Ad) (p:Int) (t0:Aj 0 p=true→Aa (Lv ctx (i+30)) 29 [.isl true false 3 (X.words.a0.map eW),.isl true false 3 (m.words.a0.map eW)]=some (bV true)) (f0:Aj 0 p=false→decide ((X.words.a0.length:Int)=0)=true∧decide (X.clocks.a0=0)=true) (t1:Aj 1 p=true→Aa (Lv ctx (i+30)) 29 [.isl true false 3 (X.words.a1.map eW),.isl true false 3 (m.words.a1.map eW)]=some (bV true)) (f1:Aj 1 p=false→decide ((X.words.a1.length:Int)=0)=true∧decide (X.clocks.a1=0)=true) (t2:Aj 2 p=true→Aa (Lv ctx (i+30)) 29 [.isl true false 3 (X.words.a2.map eW),.isl true false 3 (m.words.a2.map eW)]=some (bV true)) (f2:Aj 2 p=false→decide ((X.words.a2.length:Int)=0)=true∧decide (X.clocks.a2=0)=true) (t3:Aj 3 p=true→Aa (Lv ctx (i+30)) 29 [.isl true false 3 (X.words.a3.map eW),.isl true false 3 (m.words.a3.map eW)]=some (bV true)) (f3:Aj 3 p=false→decide ((X.words.a3.length:Int)=0)=true∧decide (X.clocks.a3=0)=true) (q:Out→St→Option Ans) (Q:V→Hp→Nat→Prop)
  (u:Dum (fun s q=>evC ctx (Lv ctx (i+30)) (Aa (Lv ctx (i+30))) k JG s (Al [2,5,6,8,12] q))) (w:Dum q) (kk:Nat) (hk:5<kk)
  (hend:Fin (q (.exit 4) ⟨Ae [2,6] [.ip true (cM true m) 0,.ptr 0 0 0],If A X,2⟩) Q) :
  GL 2 [2,5,6,8,12] (fun s q=>evC ctx (Lv ctx (i+30)) (Aa (Lv ctx (i+30))) k JG s (Al [2,5,6,8,12] q)) q kk ⟨Ae [2,5,6,8,12] [.ip true (cM true m) 0,iV p,.ptr 0 0 0,.ptr 1 0 0,iV 0],If A X,2⟩ Q u w:=by
 obtain ⟨kk,rfl⟩:∃ n,kk=n+6:=⟨kk - 6,by omega⟩
 have k4:GL 2 [2,5,6,8,12] (fun s q=>evC ctx (Lv ctx (i+30)) (Aa (Lv ctx (i+30))) k JG s (Al [2,5,6,8,12] q)) q (kk+2) ⟨Ae [2,5,6,8,12] [.ip true (cM true m) 0,iV p,.ptr 0 0 0,.ptr 1 0 0,iV 4],If A X,2⟩ Q u w:=by
  simp +contextual -dsimp -implicitDefEqProofs (maxSteps:=5000000) only [gLs,↓Ah (JG.eq_1),go_sem,simprocAttr]
  exact hend
 have k3:GL 2 [2,5,6,8,12] (fun s q=>evC ctx (Lv ctx (i+30)) (Aa (Lv ctx (i+30))) k JG s (Al [2,5,6,8,12] q)) q (kk+3) ⟨Ae [2,5,6,8,12] [.ip true (cM true m) 0,iV p,.ptr 0 0 0,.ptr 1 0 0,iV 3],If A X,2⟩ Q u w:=by
  rw [gLs]
  cases c0:Aj 3 p
  ·obtain ⟨n0,n1⟩:=f3 c0
   simp +contextual -dsimp -implicitDefEqProofs (maxSteps:=5000000) only [↓Ah (JG.eq_1),c0,n0,n1,go_sem,simprocAttr]
   exact (AA (by rfl)).mpr k4
  ·have t:=t3 c0
   simp +contextual -dsimp -implicitDefEqProofs (maxSteps:=5000000) only [↓Ah (JG.eq_1),c0,t,go_sem,simprocAttr]
   exact (AA (by rfl)).mpr k4
 have k2:GL 2 [2,5,6,8,12] (fun s q=>evC ctx (Lv ctx (i+30)) (Aa (Lv ctx (i+30))) k JG s (Al [2,5,6,8,12] q)) q (kk+4) ⟨Ae [2,5,6,8,12] [.ip true (cM true m) 0,iV p,.ptr 0 0 0,.ptr 1 0 0,iV 2],If A X,2⟩ Q u w:=by
  rw [gLs]
  cases c0:Aj 2 p
  ·obtain ⟨n0,n1⟩:=f2 c0
   simp +contextual -dsimp -implicitDefEqProofs (maxSteps:=5000000) only [↓Ah (JG.eq_1),c0,n0,n1,go_sem,simprocAttr]
   exact (AA (by rfl)).mpr k3
  ·have t:=t2 c0
   simp +contextual -dsimp -implicitDefEqProofs (maxSteps:=5000000) only [↓Ah (JG.eq_1),c0,t,go_sem,simprocAttr]
   exact (AA (by rfl)).mpr k3
 have k1:GL 2 [2,5,6,8,12] (fun s q=>evC ctx (Lv ctx (i+30)) (Aa (Lv ctx (i+30))) k JG s (Al [2,5,6,8,12] q)) q (kk+5) ⟨Ae [2,5,6,8,12] [.ip true (cM true m) 0,iV p,.ptr 0 0 0,.ptr 1 0 0,iV 1],If A X,2⟩ Q u w:=by
  rw [gLs]
  cases c0:Aj 1 p
  ·obtain ⟨n0,n1⟩:=f1 c0
   simp +contextual -dsimp -implicitDefEqProofs (maxSteps:=5000000) only [↓Ah (JG.eq_1),c0,n0,n1,go_sem,simprocAttr]
   exact (AA (by rfl)).mpr k2
  ·have t:=t1 c0
   simp +contextual -dsimp -implicitDefEqProofs (maxSteps:=5000000) only [↓Ah (JG.eq_1),c0,t,go_sem,simprocAttr]
   exact (AA (by rfl)).mpr k2
 have k0:GL 2 [2,5,6,8,12] (fun s q=>evC ctx (Lv ctx (i+30)) (Aa (Lv ctx (i+30))) k JG s (Al [2,5,6,8,12] q)) q (kk+6) ⟨Ae [2,5,6,8,12] [.ip true (cM true m) 0,iV p,.ptr 0 0 0,.ptr 1 0 0,iV 0],If A X,2⟩ Q u w:=by
  rw [gLs]
  cases c0:Aj 0 p
  ·obtain ⟨n0,n1⟩:=f0 c0
   simp +contextual -dsimp -implicitDefEqProofs (maxSteps:=5000000) only [↓Ah (JG.eq_1),c0,n0,n1,go_sem,simprocAttr]
   exact (AA (by rfl)).mpr k1
  ·have t:=t0 c0
   simp +contextual -dsimp -implicitDefEqProofs (maxSteps:=5000000) only [↓Ah (JG.eq_1),c0,t,go_sem,simprocAttr]
   exact (AA (by rfl)).mpr k1
 exact k0
theorem u_ScriptSeen (i:Nat) (m:Ad) (hm:SmM m) (a:Int) (haw:Aa (Lv ctx (i+30)) 25 []=some (bV true)):Aa (Lv ctx (i+31)) 7 [eM true m,iV a]=some (bV true):=by
 obtain ⟨p,ep,hp⟩:∃ k:Int,DS a 3=k∧inR k 3=true:=⟨_,rfl,GO a 3 (by omega)⟩
 have q1:=Hi (i+9) true m hm 3
 have q2:=Hi (i+9) true m hm p
 cases hM:CN m
 ·have e1:∀ l,Dh m l=(Az,2500):=fun l=>by unfold Dh;rw [hM];rfl
  rw [e1] at q1 q2
  have q3:=TH (i+23) true m hm
  rw [hM] at q3
  have qz:=fun p q=>BF (i+(30 - 3)) p q Az Az Dx
  simp only [Az,eM,cM,eWs,eSs,eEs,List.map_nil,decide_true,Nat.add_assoc,Nat.reduceAdd,Nat.reduceSub] at qz
  simp only [Ay,Nat.add_assoc,Nat.reduceAdd] at q1 q2 q3
  refine Ac rfl 0 (by rfl) ?_
  delta c7
  simp +contextual -dsimp -implicitDefEqProofs (maxSteps:=5000000) only [haw,ep,q1,q2,q3,qz,go_sem,simprocAttr]
 ·have e1:∀ l,inR l 3=true→Dh m l=(Bf m l,0):=fun l h=>by unfold Dh;rw [hM,h];rfl
  rw [e1 3 (by decide),fX hM] at q1
  rw [e1 p hp] at q2
  have hX:=KZ hm p
  have hu1:∀ x∈(Bf m p).sess,Aj x.label p=true:=fun x hx=>by simpa using (List.mem_filter.1 hx).2
  have hu2:∀ x∈(Bf m p).trace,Aj x.label p=true:=fun x hx=>by simpa using (List.mem_filter.1 hx).2
  have t0:Aj 0 p=true→Aa (Lv ctx (i+30)) 29 [.isl true false 3 ((Bf m p).words.a0.map eW),.isl true false 3 (m.words.a0.map eW)]=some (bV true):=fun h=>by
   have e:(Bf m p).words.a0=m.words.a0:=if_pos h
   have:=Ds (i+(30 - 1)) true false true false (Bf m p).words.a0 m.words.a0 (by have:=hX.b0;simp only [BB];omega)
   rw [e] at this ⊢
   simpa only [Nat.add_assoc,Nat.reduceAdd,Nat.reduceSub,decide_true] using this
  have f0:Aj 0 p=false→decide (((Bf m p).words.a0.length:Int)=0)=true∧decide ((Bf m p).clocks.a0=0)=true:=fun h=>by
   have e:(Bf m p).words.a0=[]:=if_neg (by rw [h];decide)
   have e2:(Bf m p).clocks.a0=0:=if_neg (by rw [h];decide)
   rw [e,e2];decide
  have t1:Aj 1 p=true→Aa (Lv ctx (i+30)) 29 [.isl true false 3 ((Bf m p).words.a1.map eW),.isl true false 3 (m.words.a1.map eW)]=some (bV true):=fun h=>by
   have e:(Bf m p).words.a1=m.words.a1:=if_pos h
   have:=Ds (i+(30 - 1)) true false true false (Bf m p).words.a1 m.words.a1 (by have:=hX.b1;simp only [BB];omega)
   rw [e] at this ⊢
   simpa only [Nat.add_assoc,Nat.reduceAdd,Nat.reduceSub,decide_true] using this
  have f1:Aj 1 p=false→decide (((Bf m p).words.a1.length:Int)=0)=true∧decide ((Bf m p).clocks.a1=0)=true:=fun h=>by
   have e:(Bf m p).words.a1=[]:=if_neg (by rw [h];decide)
   have e2:(Bf m p).clocks.a1=0:=if_neg (by rw [h];decide)
   rw [e,e2];decide
  have t2:Aj 2 p=true→Aa (Lv ctx (i+30)) 29 [.isl true false 3 ((Bf m p).words.a2.map eW),.isl true false 3 (m.words.a2.map eW)]=some (bV true):=fun h=>by
   have e:(Bf m p).words.a2=m.words.a2:=if_pos h
   have:=Ds (i+(30 - 1)) true false true false (Bf m p).words.a2 m.words.a2 (by have:=hX.b2;simp only [BB];omega)
   rw [e] at this ⊢
   simpa only [Nat.add_assoc,Nat.reduceAdd,Nat.reduceSub,decide_true] using this
  have f2:Aj 2 p=false→decide (((Bf m p).words.a2.length:Int)=0)=true∧decide ((Bf m p).clocks.a2=0)=true:=fun h=>by
   have e:(Bf m p).words.a2=[]:=if_neg (by rw [h];decide)
   have e2:(Bf m p).clocks.a2=0:=if_neg (by rw [h];decide)
   rw [e,e2];decide
  have t3:Aj 3 p=true→Aa (Lv ctx (i+30)) 29 [.isl true false 3 ((Bf m p).words.a3.map eW),.isl true false 3 (m.words.a3.map eW)]=some (bV true):=fun h=>by
   have e:(Bf m p).words.a3=m.words.a3:=if_pos h
   have:=Ds (i+(30 - 1)) true false true false (Bf m p).words.a3 m.words.a3 (by have:=hX.b3;simp only [BB];omega)
   rw [e] at this ⊢
   simpa only [Nat.add_assoc,Nat.reduceAdd,Nat.reduceSub,decide_true] using this
  have f3:Aj 3 p=false→decide (((Bf m p).words.a3.length:Int)=0)=true∧decide ((Bf m p).clocks.a3=0)=true:=fun h=>by
   have e:(Bf m p).words.a3=[]:=if_neg (by rw [h];decide)
   have e2:(Bf m p).clocks.a3=0:=if_neg (by rw [h];decide)
   rw [e,e2];decide
  have q6:=fun p1 p2=>BF (i+(30 - 3)) p1 p2 m m hm
  have b1:=hX.bs
  have b2:=hX.bt
  simp only [Nat.add_assoc,Nat.reduceAdd,Nat.reduceSub,decide_true] at q1 q2 q6
  generalize Bf m p=X at *
  refine Ac rfl (X.sess.length+X.trace.length+7) (by rfl) ?_
  delta c7
  simp +contextual -dsimp -implicitDefEqProofs (maxSteps:=5000000) only [haw,ep,q1,q2,go_sem,simprocAttr]
  refine a9y i _ m m X p b1 hu1 _ _ _ _ _ (by omega) ?_
  simp +contextual -dsimp -implicitDefEqProofs (maxSteps:=5000000) only [go_sem,simprocAttr]
  refine a9w i _ m m X p b2 hu2 _ _ _ _ _ (by omega) ?_
  simp +contextual -dsimp -implicitDefEqProofs (maxSteps:=5000000) only [go_sem,simprocAttr]
  refine a9v i _ m m X p t0 f0 t1 f1 t2 f2 t3 f3 _ _ _ _ _ (by omega) ?_
  simp +contextual -dsimp -implicitDefEqProofs (maxSteps:=5000000) only [q6,go_sem,simprocAttr]
end Ve
