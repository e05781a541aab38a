/- The program's storing. -/
import Derived.Test.YtjgbbmcjbfpjfaaGreatVeSD
import Derived.Test.YtjgbbmcjbfpjfaaGreatS40
import Derived.Test.YtjgbbmcjbfpjfaaGreatS32
import Derived.Test.YtjgbbmcjbfpjfaaGreatVeP
set_option linter.all false
set_option linter.unusedSectionVars false
namespace Ve
open Go Ve.Ab
set_option maxHeartbeats 16000000
set_option maxRecDepth 10000
theorem qL (i:Nat) (pf:Bool) (m:Ad) (hm:SmM m) (at_:Int):Aa (Lv ctx (i+22)) 194 [eM pf m,iV at_]=some (.tup [oM (CH m at_).1,iV (CH m at_).2]):=by
 have q1:=gW (i+0) pf pf false false m hm at_ 3
 have qc:=Dz (i+18) pf m hm
 have bad:CH m at_=(Az,1600)→atC m at_ 3=false→Aa (Lv ctx (i+22)) 194 [eM pf m,iV at_]=some (.tup [oM (CH m at_).1,iV (CH m at_).2]):=by
  intro h h'
  rw [h,Ay]
  rw [h'] at q1
  simp only [Nat.add_assoc,Nat.reduceAdd] at q1
  refine Ac rfl 0 (by rfl) ?_
  delta c194
  simp +contextual -dsimp -implicitDefEqProofs (maxSteps:=5000000) only [q1,Bool.and_self_left,Bool.and_self,go_sem,simprocAttr]
 cases Ej m at_ with
 | no h=>exact bad (FD (Gs h)) (Ma (.inl (Gs h)))
 | off k s e0 hs hM hS hst=>subst e0;exact bad (FD (CL hs hM hst)) (Ma (.inl (CL hs hM hst)))
 | fin k s e0 hs hM hS hst hp=>subst e0;exact bad (FD (EP hs hM hst hp)) (Ma (.inl (EP hs hM hst hp)))
 | on k n s x e0 hs hM hS hst hp hn hi =>
  subst e0
  have hcur:=DP hs hM hst hp hi
  by_cases hc:x.code=3
  ·have hsm:=hm.s s (List.mem_of_getElem? hs)
   obtain ⟨hin,_,_⟩:=Dk hS hi
   have hra:=Fo hin (by omega)
   have hlb:=(CW hin (.inr hc)).1
   have hlc:=(CW hin (.inr hc)).2
   have hw1:AF ⟨x.b,x.c,s.regs.get x.a⟩=true:=by simp only [AF,hlb,hlc,hQ hS.regs hra,Bool.and_self]
   have qw:=qJ (i+14) false false s.writes hS.writes x.b x.c (s.regs.get x.a) hw1
   have e:(BS s.writes ⟨x.b,x.c,s.regs.get x.a⟩).1=Dj ⟨x.b,x.c,s.regs.get x.a⟩ s.writes:=by unfold BS;rw [hS.writes,hw1];rfl
   rw [Th hcur hc,e]
   rw [pI hcur hc] at q1
   simp only [Nat.add_assoc,Nat.reduceAdd] at q1 qc qw
   have hpc:IntKind.wrap .i64 ((n:Int)+1)=(n:Int)+1:=Be (by omega) (by have:=hsm.bp;omega)
   have hk:=Ax hs
   have e1:(0≤(k:Int))=True:=by simp
   have e2:((k:Int)<(m.sess.length:Int))=True:=by simpa using hk
   have e3:(m.sess.map oS)[k]?=some (oS s):=by simp [hs]
   have e4:∀ x y,((m.sess.map oS).set k x).set k y=(m.sess.map oS).set k y:=fun x y=>List.set_set ..
   have e5:∀ x,((m.sess.map oS).set k x)[k]?=some x:=fun x=>List.getElem?_set_self (by simpa using hk)
   simp only [oS] at e3
   have p1:(0≤(n:Int))=True:=by simp
   have p2:((n:Int)<(s.prog.length:Int))=True:=by simpa using hn
   refine Ac rfl 0 (by rfl) ?_
   delta c194
   simp +contextual -dsimp -implicitDefEqProofs (maxSteps:=5000000) only [q1,qc,hs,e1,e2,e3,e4,e5,List.length_set,p1,p2,hp,hi,hk,Bool.and_self_left,Bool.and_self,go_sem,simprocAttr]
   rcases Fm hra with ha | ha | ha | ha
   all_goals
    simp only [ha,A4.get,simprocAttr] at qw ⊢
    generalize Dj ⟨x.b,x.c,_⟩ s.writes=R at qw ⊢
    simp +contextual -dsimp -implicitDefEqProofs (maxSteps:=5000000) only [ha,qw,hpc,e1,e2,e4,e5,hp,hk,List.length_set,go_sem,simprocAttr]
    refine Db rfl 0 ?_
    delta SN
    by_cases htr:m.trace.length<512
    ·have h6:decide ((m.trace.length:Int)<512)=true:=by simp;omega
     have h7:(((m.trace.length+1:Nat):Int)*32≤140737488355328)=True:=by simp;omega
     simp only [oM,cO,oWs,oSs,oEs,Ba,AE,htr,if_true,List.map_set,List.map_append,List.map_cons,List.map_nil,oS,hp]
     simp +contextual -dsimp -implicitDefEqProofs (maxSteps:=5000000) only [e1,e2,e4,e5,h6,h7,List.length_set,List.replicate,hk,go_sem,simprocAttr]
    ·have h6:decide ((m.trace.length:Int)<512)=false:=by simp;omega
     simp only [oM,cO,oWs,oSs,oEs,Ba,AE,htr,if_false,List.map_set,oS,hp]
     simp +contextual -dsimp -implicitDefEqProofs (maxSteps:=5000000) only [e1,e2,e4,e5,h6,List.length_set,hk,go_sem,simprocAttr]
  ·exact bad (Ti hcur hc) (Ma (.inr ⟨s,x,hcur,hc⟩))
end Ve
