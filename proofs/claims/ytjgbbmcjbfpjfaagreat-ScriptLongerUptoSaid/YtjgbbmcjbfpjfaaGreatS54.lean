/- The program's calculating. -/
import Derived.Test.YtjgbbmcjbfpjfaaGreatVeSD
import Derived.Test.YtjgbbmcjbfpjfaaGreatS40
import Derived.Test.YtjgbbmcjbfpjfaaGreatS31
import Derived.Test.YtjgbbmcjbfpjfaaGreatVeP
set_option linter.all false
set_option linter.unusedSectionVars false
namespace Ve
open Go Ve.Ab
set_option maxHeartbeats 16000000
set_option maxRecDepth 10000
theorem a2r (i:Nat) (p nn:Bool) (v:Int):Aa (Lv ctx (i+2)) 224 [.isl p nn 1 [iV 0,iV 1,iV 4],iV v]=some (bV (decide (v=0)||decide (v=1)||decide (v=4))):=by
 have key:∀ (b0 b1 b4:Bool),decide (v=0)=b0→decide (v=1)=b1→decide (v=4)=b4→Aa (Lv ctx (i+1)) 232 [.isl p nn 1 [iV 0,iV 1,iV 4],iV v]=some (iV (if b0=true then 0 else if b1=true then 1 else if b4=true then 2 else -1)):=by
  intro b0 b1 b4 h0 h1 h4
  cases b0
  ·cases b1
   ·cases b4
    all_goals
     refine Ac rfl 5 (by rfl) ?_
     delta dX
     simp +contextual -dsimp -implicitDefEqProofs (maxSteps:=5000000) only [h0,h1,h4,gLs,↓Ah (MA.eq_1),go_sem,simprocAttr]
   ·refine Ac rfl 5 (by rfl) ?_
    delta dX
    simp +contextual -dsimp -implicitDefEqProofs (maxSteps:=5000000) only [h0,h1,h4,gLs,↓Ah (MA.eq_1),go_sem,simprocAttr]
  ·refine Ac rfl 5 (by rfl) ?_
   delta dX
   simp +contextual -dsimp -implicitDefEqProofs (maxSteps:=5000000) only [h0,h1,h4,gLs,↓Ah (MA.eq_1),go_sem,simprocAttr]
 have h:=key _ _ _ rfl rfl rfl
 cases h0:decide (v=0)<;>cases h1:decide (v=1)<;>cases h4:decide (v=4)
 all_goals
  rw [h0,h1,h4] at h
  refine Ac rfl 0 (by rfl) ?_
  delta c224
  simp +contextual -dsimp -implicitDefEqProofs (maxSteps:=5000000) only [h,go_sem,simprocAttr]
def at3 (m:Ad) (at_:Int):Bool:=match CO m at_ with
 | some (_,x)=>decide (x.code=0)||decide (x.code=1)||decide (x.code=4)
 | none=>false
theorem a8p (i:Nat) (p pf q nn:Bool) (m:Ad) (hm:SmM m) (at_:Int):Aa (Lv ctx (i+21)) 204 [.ip p (cM pf m) 0,iV at_,.isl q nn 1 [iV 0,iV 1,iV 4]]=some (bV (at3 m at_)):=by
 have h1:=HT (i+0) p pf m at_ hm
 have hc:=fun v=>a2r (i+18) q nn v
 simp only [Nat.add_assoc,Nat.reduceAdd] at h1 hc
 cases Ej m at_ with
 | no h =>
  have e:at3 m at_=false:=by unfold at3;rw [Gs h]
  rw [e]
  refine Ac rfl 0 (by rfl) ?_
  delta SO
  simp +contextual -dsimp -implicitDefEqProofs (maxSteps:=5000000) only [h1,h,go_sem,simprocAttr]
 | off k s e0 hs hM hS hst =>
  subst e0
  have e:at3 m k=false:=by unfold at3;rw [CL hs hM hst]
  rw [e]
  have hh:=Bs hs hM
  have hk:=Ax hs
  have e1:(0≤(k:Int))=True:=by simp
  have e2:((k:Int)<(m.sess.length:Int))=True:=by simpa using hk
  have z0:decide (s.step=0)=false:=by simpa using hst
  refine Ac rfl 0 (by rfl) ?_
  delta SO
  simp +contextual -dsimp -implicitDefEqProofs (maxSteps:=5000000) only [h1,hh,hs,e1,e2,z0,go_sem,simprocAttr]
 | fin k s e0 hs hM hS hst hp =>
  subst e0
  have e:at3 m k=false:=by unfold at3;rw [EP hs hM hst hp]
  rw [e]
  have hh:=Bs hs hM
  have hk:=Ax hs
  have e1:(0≤(k:Int))=True:=by simp
  have e2:((k:Int)<(m.sess.length:Int))=True:=by simpa using hk
  have z0:decide (s.step=0)=true:=by simpa using hst
  have z1:decide ((s.prog.length:Int)<(s.prog.length:Int))=false:=by simp
  refine Ac rfl 0 (by rfl) ?_
  delta SO
  simp +contextual -dsimp -implicitDefEqProofs (maxSteps:=5000000) only [h1,hh,hs,e1,e2,z0,hp,z1,go_sem,simprocAttr]
 | on k n s x e0 hs hM hS hst hp hn hi =>
  subst e0
  have e:at3 m k=(decide (x.code=0)||decide (x.code=1)||decide (x.code=4)):=by unfold at3;rw [DP hs hM hst hp hi]
  rw [e]
  have hh:=Bs hs hM
  have hk:=Ax hs
  have e1:(0≤(k:Int))=True:=by simp
  have e2:((k:Int)<(m.sess.length:Int))=True:=by simpa using hk
  have z0:decide (s.step=0)=true:=by simpa using hst
  have p1:(0≤(n:Int))=True:=by simp
  have p2:((n:Int)<(s.prog.length:Int))=True:=by simpa using hn
  have z1:decide ((n:Int)<(s.prog.length:Int))=true:=by simpa using hn
  refine Ac rfl 0 (by rfl) ?_
  delta SO
  simp +contextual -dsimp -implicitDefEqProofs (maxSteps:=5000000) only [h1,hh,hs,e1,e2,z0,hp,z1,p1,p2,hi,hc,go_sem,simprocAttr]
theorem a2w (i:Nat) (pf:Bool) (m:Ad) (hm:SmM m) (at_:Int):Aa (Lv ctx (i+22)) 196 [eM pf m,iV at_]=some (.tup [oM (CA m at_).1,iV (CA m at_).2]):=by
 have q1:=a8p (i+0) pf pf false false m hm at_
 have qc:=Dz (i+18) pf m hm
 have bad:CA m at_=(Az,1700)→at3 m at_=false→Aa (Lv ctx (i+22)) 196 [eM pf m,iV at_]=some (.tup [oM (CA m at_).1,iV (CA m at_).2]):=by
  intro h h'
  rw [h,Ay]
  rw [h'] at q1
  simp only [Nat.add_assoc,Nat.reduceAdd] at q1
  refine Ac rfl 0 (by rfl) ?_
  delta oJ
  simp +contextual -dsimp -implicitDefEqProofs (maxSteps:=5000000) only [q1,List.replicate,Bool.and_self_left,Bool.and_self,go_sem,simprocAttr]
 have non:CO m at_=none→Aa (Lv ctx (i+22)) 196 [eM pf m,iV at_]=some (.tup [oM (CA m at_).1,iV (CA m at_).2]):=fun h=>bad (Kj h) (by unfold at3;rw [h])
 cases Ej m at_ with
 | no h=>exact non (Gs h)
 | off k s e0 hs hM hS hst=>subst e0;exact non (CL hs hM hst)
 | fin k s e0 hs hM hS hst hp=>subst e0;exact non (EP hs hM hst hp)
 | on k n s x e0 hs hM hS hst hp hn hi =>
  subst e0
  have hcur:=DP hs hM hst hp hi
  have e3c:at3 m k=(decide (x.code=0)||decide (x.code=1)||decide (x.code=4)):=by unfold at3;rw [hcur]
  by_cases hcc:x.code=0∨x.code=1∨x.code=4
  ·have hsm:=hm.s s (List.mem_of_getElem? hs)
   obtain ⟨hin,_,_⟩:=Dk hS hi
   have hra:=Fo hin (by omega)
   have e3t:at3 m k=true:=by rw [e3c];rcases hcc with h | h | h<;>simp [h]
   rw [e3t] at q1
   simp only [Nat.add_assoc,Nat.reduceAdd] at q1 qc
   have hpc:IntKind.wrap .i64 ((n:Int)+1)=(n:Int)+1:=Be (by omega) (by have:=hsm.bp;omega)
   have hk:=Ax hs
   have e1:(0≤(k:Int))=True:=by simp
   have e2:((k:Int)<(m.sess.length:Int))=True:=by simpa using hk
   have e3:(m.sess.map oS)[k]?=some (oS s):=by simp [hs]
   have e4:∀ x y,((m.sess.map oS).set k x).set k y=(m.sess.map oS).set k y:=fun x y=>List.set_set ..
   have e5:∀ x,((m.sess.map oS).set k x)[k]?=some x:=fun x=>List.getElem?_set_self (by simpa using hk)
   simp only [oS] at e3
   have p1:(0≤(n:Int))=True:=by simp
   have p2:((n:Int)<(s.prog.length:Int))=True:=by simpa using hn
   rcases hcc with hc | hc | hc
   ·have q:=gB (i+17) s.regs hS.regs x.a x.b hra (LG hin hc)
    have e:(Mj s.regs x.a x.b).1=s.regs.set x.a x.b:=by unfold Mj;rw [hS.regs,hra,LG hin hc];rfl
    rw [UT hcur hc,e]
    simp only [Nat.add_assoc,Nat.reduceAdd] at q
    generalize s.regs.set x.a x.b=R at q ⊢
    have c0:decide (x.code=0)=true:=by simpa using hc
    simp only [AE,oM,cO,oWs,oSs,oEs,Int.toNat_natCast,List.map_set,oS,hp]
    refine Ac rfl 0 (by rfl) ?_
    delta oJ
    simp +contextual -dsimp -implicitDefEqProofs (maxSteps:=5000000) only [q1,qc,q,hs,e1,e2,e3,e4,e5,List.length_set,p1,p2,hp,hi,hk,hpc,c0,List.replicate,Bool.and_self_left,Bool.and_self,go_sem,simprocAttr]
   ·have q:=a3a (i+16) s.regs hS.regs x.a x.b hra (LH hin hc)
    have e:(MM s.regs x.a x.b).1=s.regs.set x.a ((s.regs.get x.a+s.regs.get x.b) % 256):=by unfold MM;rw [hS.regs,hra,LH hin hc];rfl
    rw [UU hcur hc,e]
    simp only [Nat.add_assoc,Nat.reduceAdd] at q
    generalize s.regs.set x.a ((s.regs.get x.a+s.regs.get x.b) % 256)=R at q ⊢
    have c0:decide (x.code=0)=false:=by simp [hc]
    have c1:decide (x.code=1)=true:=by simpa using hc
    simp only [AE,oM,cO,oWs,oSs,oEs,Int.toNat_natCast,List.map_set,oS,hp]
    refine Ac rfl 0 (by rfl) ?_
    delta oJ
    simp +contextual -dsimp -implicitDefEqProofs (maxSteps:=5000000) only [q1,qc,q,hs,e1,e2,e3,e4,e5,List.length_set,p1,p2,hp,hi,hk,hpc,c0,c1,List.replicate,Bool.and_self_left,Bool.and_self,go_sem,simprocAttr]
   ·rw [Rc hcur hc]
    have c0:decide (x.code=0)=false:=by simp [hc]
    have c1:decide (x.code=1)=false:=by simp [hc]
    simp only [AE,oM,cO,oWs,oSs,oEs,Int.toNat_natCast,List.map_set,oS,hp]
    refine Ac rfl 0 (by rfl) ?_
    delta oJ
    simp +contextual -dsimp -implicitDefEqProofs (maxSteps:=5000000) only [q1,qc,hs,e1,e2,e3,e4,e5,List.length_set,p1,p2,hp,hi,hk,hpc,c0,c1,List.replicate,Bool.and_self_left,Bool.and_self,go_sem,simprocAttr]
    rcases Fm hra with ha | ha | ha | ha
    all_goals
     simp only [ha,A4.get,simprocAttr]
     by_cases hz:s.regs.get x.a=0
     all_goals
      simp only [ha,A4.get,simprocAttr] at hz
      simp only [hz,if_true,if_false]
      simp +contextual -dsimp -implicitDefEqProofs (maxSteps:=5000000) only [ha,hz,decide_true,decide_false,hpc,e1,e2,e4,e5,hp,hk,List.length_set,go_sem,simprocAttr]
  ·have h0:¬ x.code=0:=fun h=>hcc (.inl h)
   have h1:¬ x.code=1:=fun h=>hcc (.inr (.inl h))
   have h4:¬ x.code=4:=fun h=>hcc (.inr (.inr h))
   exact bad (LT hcur h0 h1 h4) (by rw [e3c];simp [h0,h1,h4])
end Ve
