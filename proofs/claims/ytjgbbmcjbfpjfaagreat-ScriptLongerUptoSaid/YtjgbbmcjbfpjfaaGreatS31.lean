/- The reference's reckoning, storing, parking. -/
import Derived.Test.YtjgbbmcjbfpjfaaGreatVeSD
import Derived.Test.YtjgbbmcjbfpjfaaGreatVeSC
import Derived.Test.YtjgbbmcjbfpjfaaGreatVeN
set_option linter.all false
set_option linter.unusedSectionVars false
namespace Ve
open Go Ve.Ab
set_option maxHeartbeats 16000000
set_option maxRecDepth 10000
theorem Kj {m:Ad} {at_:Int} (h:CO m at_=none):CA m at_=(Az,1700):=by unfold CA;rw [h]
theorem UT {m:Ad} {at_:Int} {s:Ai} {x:AI} (h:CO m at_=some (s,x)) (hc:x.code=0):CA m at_=(AE m at_.toNat { s with regs:=(Mj s.regs x.a x.b).1,pc:=s.pc+1 },0):=by unfold CA;rw [h];simp only [hc,if_true]
theorem UU {m:Ad} {at_:Int} {s:Ai} {x:AI} (h:CO m at_=some (s,x)) (hc:x.code=1):CA m at_=(AE m at_.toNat { s with regs:=(MM s.regs x.a x.b).1,pc:=s.pc+1 },0):=by unfold CA;rw [h];simp only [hc,show ((1:Int)=0)=False by decide,if_true,if_false]
theorem Rc {m:Ad} {at_:Int} {s:Ai} {x:AI} (h:CO m at_=some (s,x)) (hc:x.code=4):CA m at_=(AE m at_.toNat { s with pc:=if s.regs.get x.a=0 then x.b else s.pc+1 },0):=by unfold CA;rw [h];simp only [hc,show ((4:Int)=0)=False by decide,show ((4:Int)=1)=False by decide,if_true,if_false]
theorem LT {m:Ad} {at_:Int} {s:Ai} {x:AI} (h:CO m at_=some (s,x)) (h0:¬ x.code=0) (h1:¬ x.code=1) (h4:¬ x.code=4):CA m at_=(Az,1700):=by unfold CA;rw [h];simp only [h0,h1,h4,if_false]
theorem a3p (i:Nat) (pf:Bool) (m:Ad) (hm:SmM m) (at_:Int):Aa (Lv ctx (i+9)) 149 [eM pf m,iV at_]=some (.tup [oM (CA m at_).1,iV (CA m at_).2]):=by
 have qh:=HM (i+0) pf m at_ hm
 have qc:=FH (i+6) pf m hm
 have qr:=fun v h=>HV (i+7) pf m at_ v h
 simp only [Nat.add_assoc,Nat.reduceAdd] at qh qc qr
 cases Ej m at_ with
 | no h =>
  rw [Kj (Gs h),Ay]
  rw [h] at qh
  refine Ac rfl 0 (by rfl) ?_
  delta IP
  cases pf<;>simp +contextual -dsimp -implicitDefEqProofs (maxSteps:=5000000) only [qh,go_sem,simprocAttr]
 | off k s e0 hs hM hS hst =>
  subst e0
  have hk:=Ax hs
  have e1:(0≤(k:Int))=True:=by simp
  have e2:((k:Int)<(m.sess.length:Int))=True:=by simpa using hk
  have e3:∀ x,((m.sess.map oS).set k x)[k]?=some x:=fun x=>List.getElem?_set_self (by simpa using hk)
  have e4:∀ x y,((m.sess.map oS).set k x).set k y=(m.sess.map oS).set k y:=fun x y=>List.set_set ..
  have hh:=Bs hs hM
  rw [hh] at qh
  rw [Kj (CL hs hM hst),Ay]
  have q:=qr (-1) ⟨k,s,rfl,hs,hS,.inl ⟨hst,rfl⟩⟩
  refine Ac rfl 0 (by rfl) ?_
  delta IP
  cases pf<;>simp +contextual -dsimp -implicitDefEqProofs (maxSteps:=5000000) only [qh,qc,q,hs,e1,e2,go_sem,simprocAttr]
 | fin k s e0 hs hM hS hst hp =>
  subst e0
  have hk:=Ax hs
  have e1:(0≤(k:Int))=True:=by simp
  have e2:((k:Int)<(m.sess.length:Int))=True:=by simpa using hk
  have e3:∀ x,((m.sess.map oS).set k x)[k]?=some x:=fun x=>List.getElem?_set_self (by simpa using hk)
  have e4:∀ x y,((m.sess.map oS).set k x).set k y=(m.sess.map oS).set k y:=fun x y=>List.set_set ..
  have hh:=Bs hs hM
  rw [hh] at qh
  rw [Kj (EP hs hM hst hp),Ay]
  have q:=qr (-1) ⟨k,s,rfl,hs,hS,.inr (.inl ⟨hst,hp,rfl⟩)⟩
  refine Ac rfl 0 (by rfl) ?_
  delta IP
  cases pf<;>simp +contextual -dsimp -implicitDefEqProofs (maxSteps:=5000000) only [qh,qc,q,hs,e1,e2,go_sem,simprocAttr]
 | on k n s x e0 hs hM hS hst hp hn hi =>
  subst e0
  have hk:=Ax hs
  have e1:(0≤(k:Int))=True:=by simp
  have e2:((k:Int)<(m.sess.length:Int))=True:=by simpa using hk
  have e3:∀ x,((m.sess.map oS).set k x)[k]?=some x:=fun x=>List.getElem?_set_self (by simpa using hk)
  have e4:∀ x y,((m.sess.map oS).set k x).set k y=(m.sess.map oS).set k y:=fun x y=>List.set_set ..
  have hh:=Bs hs hM
  rw [hh] at qh
  have hn':=Ax hi
  have p1:(0≤(n:Int))=True:=by simp
  have p2:((n:Int)<(s.prog.length:Int))=True:=by simpa using hn'
  have p3:decide ((s.prog.length:Int)≤(n:Int))=false:=by simp;omega
  have z0:decide (s.step=0)=true:=by simpa using hst
  have hw1:IntKind.wrap .i64 ((n:Int)+1)=(n:Int)+1:=by
   have:=(hm.s s (List.mem_of_getElem? hs)).bp
   exact Be (by omega) (by omega)
  have hcur:=DP hs hM hst hp hi
  have q:=qr x.code ⟨k,s,rfl,hs,hS,.inr (.inr ⟨hst,n,x,hp,hi,rfl⟩)⟩
  obtain ⟨hx1,hx2,hx3⟩:=Dk hS hi
  rcases Kg hx1 with hc | hc | hc | hc | hc | hc | hc
  ·rw [UT hcur hc]
   have qs:=a9a (i+4) s.regs.a0 s.regs.a1 s.regs.a2 s.regs.a3 x.a x.b
   rw [show (⟨s.regs.a0,s.regs.a1,s.regs.a2,s.regs.a3⟩:A4 Int)=s.regs from rfl] at qs
   generalize (Mj s.regs x.a x.b)=R at qs ⊢
   simp only [Nat.add_assoc,Nat.reduceAdd] at qs
   simp only [AE,Int.toNat_natCast,oM,cO,oWs,oSs,oEs,List.map_set,oS,hp]
   refine Ac rfl 0 (by rfl) ?_
   delta IP
   cases pf<;>simp +contextual -dsimp -implicitDefEqProofs (maxSteps:=5000000) only [qh,qc,q,qs,hs,e1,e2,e3,e4,p1,p2,p3,z0,hp,hi,hc,hw1,List.length_set,hk,go_sem,simprocAttr]
  ·rw [UU hcur hc]
   have qs:=a9c (i+4) s.regs.a0 s.regs.a1 s.regs.a2 s.regs.a3 x.a x.b
   rw [show (⟨s.regs.a0,s.regs.a1,s.regs.a2,s.regs.a3⟩:A4 Int)=s.regs from rfl] at qs
   generalize (MM s.regs x.a x.b)=R at qs ⊢
   simp only [Nat.add_assoc,Nat.reduceAdd] at qs
   simp only [AE,Int.toNat_natCast,oM,cO,oWs,oSs,oEs,List.map_set,oS,hp]
   refine Ac rfl 0 (by rfl) ?_
   delta IP
   cases pf<;>simp +contextual -dsimp -implicitDefEqProofs (maxSteps:=5000000) only [qh,qc,q,qs,hs,e1,e2,e3,e4,p1,p2,p3,z0,hp,hi,hc,hw1,List.length_set,hk,go_sem,simprocAttr]
  ·rw [LT hcur (by omega) (by omega) (by omega),Ay]
   refine Ac rfl 0 (by rfl) ?_
   delta IP
   cases pf<;>simp +contextual -dsimp -implicitDefEqProofs (maxSteps:=5000000) only [qh,qc,q,hs,e1,e2,hp,hc,hw1,go_sem,simprocAttr]
  ·rw [LT hcur (by omega) (by omega) (by omega),Ay]
   refine Ac rfl 0 (by rfl) ?_
   delta IP
   cases pf<;>simp +contextual -dsimp -implicitDefEqProofs (maxSteps:=5000000) only [qh,qc,q,hs,e1,e2,hp,hc,hw1,go_sem,simprocAttr]
  ·rw [Rc hcur hc]
   have ha:=Fo hx1 ⟨by omega,by omega⟩
   simp only [AE,Int.toNat_natCast,oM,cO,oWs,oSs,oEs,List.map_set,oS,hp]
   rcases Bm x.a with h0 | h0 | h0 | h0 | h0
   case inr.inr.inr.inr=>rw [ha] at h0;cases h0
   all_goals
    simp only [h0,A4.get,show ((1:Int)=0)=False by decide,show ((2:Int)=0)=False by decide,show ((2:Int)=1)=False by decide,show ((3:Int)=0)=False by decide,show ((3:Int)=1)=False by decide,show ((3:Int)=2)=False by decide,if_true,if_false]
   ·by_cases hz:s.regs.a0=0
    ·have z1:decide (s.regs.a0=0)=true:=by simpa using hz
     rw [if_pos hz]
     refine Ac rfl 0 (by rfl) ?_
     delta IP
     cases pf<;>simp +contextual -dsimp -implicitDefEqProofs (maxSteps:=5000000) only [qh,qc,q,hs,e1,e2,e3,e4,p1,p2,p3,z0,z1,h0,hp,hi,hc,hw1,List.length_set,hk,go_sem,simprocAttr]
    ·have z1:decide (s.regs.a0=0)=false:=by simpa using hz
     rw [if_neg hz]
     refine Ac rfl 0 (by rfl) ?_
     delta IP
     cases pf<;>simp +contextual -dsimp -implicitDefEqProofs (maxSteps:=5000000) only [qh,qc,q,hs,e1,e2,e3,e4,p1,p2,p3,z0,z1,h0,hp,hi,hc,hw1,List.length_set,hk,go_sem,simprocAttr]
   ·by_cases hz:s.regs.a1=0
    ·have z1:decide (s.regs.a1=0)=true:=by simpa using hz
     rw [if_pos hz]
     refine Ac rfl 0 (by rfl) ?_
     delta IP
     cases pf<;>simp +contextual -dsimp -implicitDefEqProofs (maxSteps:=5000000) only [qh,qc,q,hs,e1,e2,e3,e4,p1,p2,p3,z0,z1,h0,hp,hi,hc,hw1,List.length_set,hk,go_sem,simprocAttr]
    ·have z1:decide (s.regs.a1=0)=false:=by simpa using hz
     rw [if_neg hz]
     refine Ac rfl 0 (by rfl) ?_
     delta IP
     cases pf<;>simp +contextual -dsimp -implicitDefEqProofs (maxSteps:=5000000) only [qh,qc,q,hs,e1,e2,e3,e4,p1,p2,p3,z0,z1,h0,hp,hi,hc,hw1,List.length_set,hk,go_sem,simprocAttr]
   ·by_cases hz:s.regs.a2=0
    ·have z1:decide (s.regs.a2=0)=true:=by simpa using hz
     rw [if_pos hz]
     refine Ac rfl 0 (by rfl) ?_
     delta IP
     cases pf<;>simp +contextual -dsimp -implicitDefEqProofs (maxSteps:=5000000) only [qh,qc,q,hs,e1,e2,e3,e4,p1,p2,p3,z0,z1,h0,hp,hi,hc,hw1,List.length_set,hk,go_sem,simprocAttr]
    ·have z1:decide (s.regs.a2=0)=false:=by simpa using hz
     rw [if_neg hz]
     refine Ac rfl 0 (by rfl) ?_
     delta IP
     cases pf<;>simp +contextual -dsimp -implicitDefEqProofs (maxSteps:=5000000) only [qh,qc,q,hs,e1,e2,e3,e4,p1,p2,p3,z0,z1,h0,hp,hi,hc,hw1,List.length_set,hk,go_sem,simprocAttr]
   ·by_cases hz:s.regs.a3=0
    ·have z1:decide (s.regs.a3=0)=true:=by simpa using hz
     rw [if_pos hz]
     refine Ac rfl 0 (by rfl) ?_
     delta IP
     cases pf<;>simp +contextual -dsimp -implicitDefEqProofs (maxSteps:=5000000) only [qh,qc,q,hs,e1,e2,e3,e4,p1,p2,p3,z0,z1,h0,hp,hi,hc,hw1,List.length_set,hk,go_sem,simprocAttr]
    ·have z1:decide (s.regs.a3=0)=false:=by simpa using hz
     rw [if_neg hz]
     refine Ac rfl 0 (by rfl) ?_
     delta IP
     cases pf<;>simp +contextual -dsimp -implicitDefEqProofs (maxSteps:=5000000) only [qh,qc,q,hs,e1,e2,e3,e4,p1,p2,p3,z0,z1,h0,hp,hi,hc,hw1,List.length_set,hk,go_sem,simprocAttr]
  ·rw [LT hcur (by omega) (by omega) (by omega),Ay]
   refine Ac rfl 0 (by rfl) ?_
   delta IP
   cases pf<;>simp +contextual -dsimp -implicitDefEqProofs (maxSteps:=5000000) only [qh,qc,q,hs,e1,e2,hp,hc,hw1,go_sem,simprocAttr]
  ·rw [LT hcur (by omega) (by omega) (by omega),Ay]
   refine Ac rfl 0 (by rfl) ?_
   delta IP
   cases pf<;>simp +contextual -dsimp -implicitDefEqProofs (maxSteps:=5000000) only [qh,qc,q,hs,e1,e2,hp,hc,hw1,go_sem,simprocAttr]
end Ve
