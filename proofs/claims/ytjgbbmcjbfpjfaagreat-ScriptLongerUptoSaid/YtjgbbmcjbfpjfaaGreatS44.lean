/- The program's parking. -/
import Derived.Test.YtjgbbmcjbfpjfaaGreatVeSF
import Derived.Test.YtjgbbmcjbfpjfaaGreatS40
import Derived.Test.YtjgbbmcjbfpjfaaGreatS32
import Derived.Test.YtjgbbmcjbfpjfaaGreatVeP
set_option linter.all false
set_option linter.unusedSectionVars false
namespace Ve
open Go Ve.Ab
set_option maxHeartbeats 16000000
set_option maxRecDepth 10000
theorem gD (i:Nat) (pf:Bool) (m:Ad) (hm:SmM m) (at_:Int):Aa (Lv ctx (i+22)) 168 [eM pf m,iV at_]=some (.tup [oM (Cx m at_).1,iV (Cx m at_).2]):=by
 have q1:=gW (i+0) pf pf false false m hm at_ 5
 have q2:=gO (i+0) pf pf m at_ 5 hm
 have qc:=Dz (i+18) pf m hm
 have qa:=NE (i+0) pf m hm at_ 5
 cases Ej m at_ with
 | no h =>
  rw [Hd (Gs h) (EQ h),Ay]
  rw [Ma (.inl (Gs h))] at q1
  rw [EQ h] at q2
  simp only [Nat.add_assoc,Nat.reduceAdd,Option.isSome_none] at q1 q2
  refine Ac rfl 0 (by rfl) ?_
  delta SQ
  cases pf<;>simp +contextual -dsimp -implicitDefEqProofs (maxSteps:=5000000) only [q1,q2,go_sem,simprocAttr]
 | off k s e0 hs hM hS hst =>
  subst e0
  rw [Ma (.inl (CL hs hM hst))] at q1
  by_cases h5:s.step=5
  ·rw [Ct hs hM h5] at q2
   have hk:=Ax hs
   have e1:(0≤(k:Int))=True:=by simp
   have e2:((k:Int)<(m.sess.length:Int))=True:=by simpa using hk
   have hsm:=hm.s s (List.mem_of_getElem? hs)
   have qg:=bH (i+(14 - 2)) pf pf m.words s.reads (by have:=hsm.br;simp only [BB];omega)
   cases hg:(BP m.words s.reads).1
   ·rw [Qq (CL hs hM hst) (Ct hs hM h5) hg]
    rw [hg] at qg
    simp only [Nat.add_assoc,Nat.reduceAdd,Nat.reduceSub,Option.isSome_some] at q1 q2 qc qg
    refine Ac rfl 0 (by rfl) ?_
    delta SQ
    cases pf<;>simp +contextual -dsimp -implicitDefEqProofs (maxSteps:=5000000) only [q1,q2,qg,qc,hs,e1,e2,go_sem,simprocAttr]
   ·rw [Qp (CL hs hM hst) (Ct hs hM h5) hg]
    rw [hg] at qg
    simp only [Nat.add_assoc,Nat.reduceAdd,Nat.reduceSub,Option.isSome_some] at q1 q2 qa qg
    generalize BK m k 5=r at qa ⊢
    refine Ac rfl 0 (by rfl) ?_
    delta SQ
    cases pf<;>simp +contextual -dsimp -implicitDefEqProofs (maxSteps:=5000000) only [q1,q2,qg,qa,hs,e1,e2,go_sem,simprocAttr]
  ·rw [Hd (CL hs hM hst) (CY hs hM h5),Ay]
   rw [CY hs hM h5] at q2
   simp only [Nat.add_assoc,Nat.reduceAdd,Option.isSome_none] at q1 q2
   refine Ac rfl 0 (by rfl) ?_
   delta SQ
   cases pf<;>simp +contextual -dsimp -implicitDefEqProofs (maxSteps:=5000000) only [q1,q2,go_sem,simprocAttr]
 | fin k s e0 hs hM hS hst hp =>
  subst e0
  have h5:¬ s.step=5:=by omega
  rw [Hd (EP hs hM hst hp) (CY hs hM h5),Ay]
  rw [Ma (.inl (EP hs hM hst hp))] at q1
  rw [CY hs hM h5] at q2
  simp only [Nat.add_assoc,Nat.reduceAdd,Option.isSome_none] at q1 q2
  refine Ac rfl 0 (by rfl) ?_
  delta SQ
  cases pf<;>simp +contextual -dsimp -implicitDefEqProofs (maxSteps:=5000000) only [q1,q2,go_sem,simprocAttr]
 | on k n s x e0 hs hM hS hst hp hn hi =>
  subst e0
  have hcur:=DP hs hM hst hp hi
  by_cases hc:x.code=5
  ·rw [pI hcur hc] at q1
   rw [Zm hcur hc]
   simp only [Nat.add_assoc,Nat.reduceAdd] at q1 qc
   have hk:=Ax hs
   have e1:(0≤(k:Int))=True:=by simp
   have e2:((k:Int)<(m.sess.length:Int))=True:=by simpa using hk
   have e3:(m.sess.map oS)[k]?=some (oS s):=by simp [hs]
   have e4:∀ x y,((m.sess.map oS).set k x).set k y=(m.sess.map oS).set k y:=fun x y=>List.set_set ..
   have e5:∀ x,((m.sess.map oS).set k x)[k]?=some x:=fun x=>List.getElem?_set_self (by simpa using hk)
   simp only [oS] at e3
   simp only [oM,cO,oWs,oSs,oEs,Ba,AE]
   by_cases htr:m.trace.length<512
   ·have h6:decide ((m.trace.length:Int)<512)=true:=by simp;omega
    have h7:(((m.trace.length+1:Nat):Int)*32≤140737488355328)=True:=by simp;omega
    simp only [htr,if_true,List.map_set,List.map_append,List.map_cons,List.map_nil,oS,PQ]
    refine Ac rfl 0 (by rfl) ?_
    delta SQ
    cases pf
    all_goals
     simp +contextual -dsimp -implicitDefEqProofs (maxSteps:=5000000) only [q1,qc,hs,e1,e2,e3,e4,e5,List.length_set,hk,go_sem,simprocAttr]
     refine Db rfl 0 ?_
     delta SN
     simp +contextual -dsimp -implicitDefEqProofs (maxSteps:=5000000) only [e1,e2,e3,e4,e5,h6,h7,List.length_set,List.replicate,hk,go_sem,simprocAttr]
   ·have h6:decide ((m.trace.length:Int)<512)=false:=by simp;omega
    simp only [htr,if_false,List.map_set,oS,PQ,List.map_nil]
    refine Ac rfl 0 (by rfl) ?_
    delta SQ
    cases pf
    all_goals
     simp +contextual -dsimp -implicitDefEqProofs (maxSteps:=5000000) only [q1,qc,hs,e1,e2,e3,e4,e5,List.length_set,hk,go_sem,simprocAttr]
     refine Db rfl 0 ?_
     delta SN
     simp +contextual -dsimp -implicitDefEqProofs (maxSteps:=5000000) only [e1,e2,e3,e4,e5,h6,List.length_set,hk,go_sem,simprocAttr]
  ·rw [Zn hcur hc,Ay]
   have h5:¬ s.step=5:=by omega
   rw [Ma (.inr ⟨s,x,hcur,hc⟩)] at q1
   rw [CY hs hM h5] at q2
   simp only [Nat.add_assoc,Nat.reduceAdd,Option.isSome_none] at q1 q2
   refine Ac rfl 0 (by rfl) ?_
   delta SQ
   cases pf<;>simp +contextual -dsimp -implicitDefEqProofs (maxSteps:=5000000) only [q1,q2,go_sem,simprocAttr]
end Ve
