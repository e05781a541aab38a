/- The program's steps of a session. -/
import Derived.Test.YthllnfkddiaokaaGreatS53
import Derived.Test.YthllnfkddiaokaaGreatS54
import Derived.Test.YthllnfkddiaokaaGreatS47
import Derived.Test.YthllnfkddiaokaaGreatVeSE
import Derived.Test.YthllnfkddiaokaaGreatS28
import Derived.Test.YthllnfkddiaokaaGreatS36
import Derived.Test.YthllnfkddiaokaaGreatS44
import Derived.Test.YthllnfkddiaokaaGreatS34
import Derived.Test.YthllnfkddiaokaaGreatVeP
import Derived.Test.YthllnfkddiaokaaGreatVeSC
import Derived.Test.YthllnfkddiaokaaGreatVeSD
import Derived.Test.YthllnfkddiaokaaGreatVeN
set_option linter.all false
set_option linter.unusedSectionVars false
namespace Ve
open Go Ve.Ab
set_option maxHeartbeats 16000000
set_option maxRecDepth 10000
theorem a0l (i:Nat) (a l:Aq) (v:Int):Aa (Lv ctx (i+1)) 202 [eWr a,.ip true [iV v] 0]=some (bV (!decide (a.level=v))):=by
 simp only [eWr]
 refine Af rfl 0 (by rfl) ?_
 delta c202
 simp +contextual -dsimp -implicitDefEqProofs (maxSteps:=5000000) only [go_sem,simprocAttr]
theorem WS (i:Nat) (pf nn:Bool) (xs:List Aq) (hx:xs.length≤BB) (l:Int):Aa (Lv ctx (i+5)) 186 [.isl pf nn 3 (xs.map eWr),iV l]=some (bV (Jj xs l)):=by
 have q1:=Jq (i+1) pf nn xs hx
 have hcf:Aa (Lv ctx (i+4)) 173 [.isl pf nn 3 (xs.map eWr),.fn (.func 202) [] [.ip true [iV l] 0]]=some (bV (xs.any fun w=>!decide (w.level=l))) :=
  QH (i+2) pf nn xs (fun w=>!decide (w.level=l)) 202 [.ip true [iV l] 0] (fun _ _ _ _ _ _=>rfl) (fun _=>rfl) (by simp [AU,V.scrub]) rfl (fun x _=>a0l (i+1) x x l) hx
 rw [FU] at hcf
 simp only [Nat.add_assoc,Nat.reduceAdd] at q1
 unfold Jj
 cases hm:Bg xs
 all_goals
  rw [hm] at q1
  refine Af rfl 0 (by rfl) ?_
  delta c186
  simp +contextual -dsimp -implicitDefEqProofs (maxSteps:=5000000) only [q1,hcf,Bool.not_not,go_sem,simprocAttr]
abbrev aT (pf:Bool) (m:Ac) (k:Int):V:=.agg [eWs pf m.words.a0,eWs pf m.words.a1,eWs pf m.words.a2,eWs pf m.words.a3,iV m.clocks.a0,iV m.clocks.a1,iV m.clocks.a2,iV m.clocks.a3,iV m.ceil,eSs pf m.sess,eEs pf m.trace,iV k]
theorem jD (i:Nat) (pf:Bool) (m:Ac) (hm:SmM m) (k r t:Int):Aa (Lv ctx (i+22)) 153 [aT pf m k,iV r,iV t]=some (.tup [oM (ET m k r t).1,iV (ET m k r t).2]):=by
 have q:=UJ (i+0) pf m hm k r t
 simp only [Nat.add_assoc,Nat.reduceAdd] at q
 generalize ET m k r t=A at q ⊢
 refine Af rfl 0 (by rfl) ?_
 delta c153
 simp +contextual -dsimp -implicitDefEqProofs (maxSteps:=5000000) only [q,Bool.and_self_left,Bool.and_self,go_sem,simprocAttr]
theorem rM (i:Nat) (pf:Bool) (m:Ac) (hm:SmM m) (k:Int):Aa (Lv ctx (i+24)) 151 [aT pf m k]=some (.tup [oM (if (Dz m k).1=true then Cu m k else Ct m k).1,iV (if (Dz m k).1=true then Cu m k else Ct m k).2]):=by
 have q0:=Su (i+1) pf m hm k
 have q1:=rH (i+0) pf m hm k
 have q2:=rF (i+0) pf m hm k
 simp only [Nat.add_assoc,Nat.reduceAdd] at q0 q1 q2
 cases h:(Dz m k).1
 ·rw [h] at q0
  simp only [Bool.false_eq_true,if_false]
  generalize Ct m k=A at q2 ⊢
  refine Af rfl 0 (by rfl) ?_
  delta c151
  simp +contextual -dsimp -implicitDefEqProofs (maxSteps:=5000000) only [q0,q2,Bool.and_self_left,Bool.and_self,go_sem,simprocAttr]
 ·rw [h] at q0
  simp only [if_true]
  generalize Cu m k=A at q1 ⊢
  refine Af rfl 0 (by rfl) ?_
  delta c151
  simp +contextual -dsimp -implicitDefEqProofs (maxSteps:=5000000) only [q0,q1,Bool.and_self_left,Bool.and_self,go_sem,simprocAttr]
theorem rN (i:Nat) (pf:Bool) (m:Ac) (hm:SmM m) (k:Nat) (s:Ae) (hs:m.sess[k]?=some s):Aa (Lv ctx (i+23)) 150 [aT pf m k]=some (.tup [oM (Hs m k s).1,iV (Hs m k s).2]):=by
 have qc:=Dw (i+19) pf m hm
 have hsm:=hm.s s (List.mem_of_getElem? hs)
 have qw:=fun p=>WS (i+17) p false s.writes hsm.w s.label
 have qe:=jD (i+0) pf m hm k 3 0
 simp only [Nat.add_assoc,Nat.reduceAdd] at qc qw qe
 have hk:=Ax hs
 have e1:(0≤(k:Int))=True:=by simp
 have e2:((k:Int)<(m.sess.length:Int))=True:=by simpa using hk
 have e3:(m.sess.map oS)[k]?=some (oS s):=by simp [hs]
 have e4:∀ x y,((m.sess.map oS).set k x).set k y=(m.sess.map oS).set k y:=fun x y=>List.set_set ..
 have e5:∀ x,((m.sess.map oS).set k x)[k]?=some x:=fun x=>List.getElem?_set_self (by simpa using hk)
 simp only [oS] at e3
 cases hw:Jj s.writes s.label
 ·have e:Hs m k s=ET m k 3 0:=by unfold Hs;rw [hw];simp only [Bool.false_eq_true,if_false]
  rw [e]
  rw [hw] at qw
  generalize ET m k 3 0=r at qe ⊢
  refine Af rfl 0 (by rfl) ?_
  delta xA
  simp +contextual -dsimp -implicitDefEqProofs (maxSteps:=5000000) only [Bool.and_self_left,Bool.and_self,go_sem,simprocAttr]
  refine CY rfl 0 ?_
  delta Ke
  simp +contextual -dsimp -implicitDefEqProofs (maxSteps:=5000000) only [qw,qe,hs,e1,e2,Bool.and_self_left,Bool.and_self,go_sem,simprocAttr]
 ·rw [hw] at qw
  by_cases hn:s.writes=[]
  ·have e:Hs m k s=(Bd m k { s with at_:=0,step:=3 },0):=by unfold Hs;rw [hw];simp only [hn,if_true,Int.toNat_natCast]
   rw [e]
   have z1:decide ((s.writes.length:Int)=0)=true:=by rw [hn];rfl
   simp only [Bd,oM,cO,oWs,oSs,oEs,List.map_set,oS]
   refine Af rfl 0 (by rfl) ?_
   delta xA
   simp +contextual -dsimp -implicitDefEqProofs (maxSteps:=5000000) only [Bool.and_self_left,Bool.and_self,go_sem,simprocAttr]
   refine CY rfl 0 ?_
   delta Ke
   simp +contextual -dsimp -implicitDefEqProofs (maxSteps:=5000000) only [qw,qc,hs,e1,e2,e3,e4,e5,z1,List.length_set,hk,Bool.and_self_left,Bool.and_self,go_sem,simprocAttr]
  ·have e:Hs m k s=(Bd m k { s with at_:=0,step:=1 },0):=by unfold Hs;rw [hw];simp only [hn,if_true,if_false,Int.toNat_natCast]
   rw [e]
   have z1:decide ((s.writes.length:Int)=0)=false:=by
    have:=List.length_pos_iff.2 hn
    simp;omega
   simp only [Bd,oM,cO,oWs,oSs,oEs,List.map_set,oS]
   refine Af rfl 0 (by rfl) ?_
   delta xA
   simp +contextual -dsimp -implicitDefEqProofs (maxSteps:=5000000) only [Bool.and_self_left,Bool.and_self,go_sem,simprocAttr]
   refine CY rfl 0 ?_
   delta Ke
   simp +contextual -dsimp -implicitDefEqProofs (maxSteps:=5000000) only [qw,qc,hs,e1,e2,e3,e4,e5,z1,List.length_set,hk,Bool.and_self_left,Bool.and_self,go_sem,simprocAttr]
theorem a0m (i:Nat) (pf:Bool) (m:Ac) (hm:SmM m) (k:Nat) (s:Ae) (hs:m.sess[k]?=some s) (hM:Br m) (hS:SP m.words s) (hst:s.step=0):Aa (Lv ctx (i+25)) 109 [aT pf m k]=some (.tup [oM (Jt m k s).1,iV (Jt m k s).2]):=by
 have hk:=Ax hs
 have e1:(0≤(k:Int))=True:=by simp
 have e2:((k:Int)<(m.sess.length:Int))=True:=by simpa using hk
 have hp0:=AE.1 hS.pc
 by_cases hfin:s.pc=(s.prog.length:Int)
 ·have hlen:s.prog[s.pc.toNat]?=none:=by rw [hfin];simp
  have e:Jt m k s=Hs m k s:=by unfold Jt;rw [hlen]
  have q:=rN (i+1) pf m hm k s hs
  rw [e]
  simp only [Nat.add_assoc,Nat.reduceAdd] at q
  generalize Hs m k s=r at q ⊢
  have z1:decide ((s.prog.length:Int)=(s.prog.length:Int))=true:=by simp
  refine Af rfl 0 (by rfl) ?_
  delta Yd
  simp +contextual -dsimp -implicitDefEqProofs (maxSteps:=5000000) only [Bool.and_self_left,Bool.and_self,go_sem,simprocAttr]
  refine CY rfl 0 ?_
  delta Ke
  simp +contextual -dsimp -implicitDefEqProofs (maxSteps:=5000000) only [q,hs,e1,e2,hfin,z1,Bool.and_self_left,Bool.and_self,go_sem,simprocAttr]
 ·obtain ⟨n,hp⟩:∃ n:Nat,s.pc=(n:Int):=⟨s.pc.toNat,by omega⟩
  have hn:n<s.prog.length:=by omega
  obtain ⟨x,hi⟩:∃ x,s.prog[n]?=some x:=⟨_,List.getElem?_eq_getElem hn⟩
  obtain ⟨hin,_,_⟩:=EH hS hi
  have p1:(0≤(n:Int))=True:=by simp
  have p2:((n:Int)<(s.prog.length:Int))=True:=by simpa using hn
  have z1:decide ((n:Int)=(s.prog.length:Int))=false:=by simp;omega
  have e:Jt m k s=if x.code=2 then (if (Dz m k).1=true then Cu m k else Ct m k) else if x.code=3 then Du m k else if x.code=5 then Dc m k else if x.code=6 then ET m k 2 x.a else CT m k:=by
   unfold Jt;rw [hp,Int.toNat_natCast,hi]
  have q2:=rM (i+0) pf m hm k
  have q3:=qY (i+2) pf m hm k
  have q5:=iM (i+2) pf m hm k
  have q6:=jD (i+2) pf m hm k 2 x.a
  have q0:=a0j (i+2) pf m hm k
  rw [e]
  simp only [Nat.add_assoc,Nat.reduceAdd] at q0 q2 q3 q5 q6
  by_cases c2:x.code=2
  ·simp only [c2,if_true]
   generalize (if (Dz m k).1=true then Cu m k else Ct m k)=r at q2 ⊢
   refine Af rfl 0 (by rfl) ?_
   delta Yd
   simp +contextual -dsimp -implicitDefEqProofs (maxSteps:=5000000) only [Bool.and_self_left,Bool.and_self,go_sem,simprocAttr]
   refine CY rfl 0 ?_
   delta Ke
   simp +contextual -dsimp -implicitDefEqProofs (maxSteps:=5000000) only [q2,hs,e1,e2,hp,p1,p2,hi,z1,c2,Bool.and_self_left,Bool.and_self,go_sem,simprocAttr]
  ·have d2:decide (x.code=2)=false:=by simpa using c2
   by_cases c3:x.code=3
   ·simp only [c3,if_true,show ((3:Int)=2)=False by decide,if_false]
    generalize Du m k=r at q3 ⊢
    refine Af rfl 0 (by rfl) ?_
    delta Yd
    simp +contextual -dsimp -implicitDefEqProofs (maxSteps:=5000000) only [Bool.and_self_left,Bool.and_self,go_sem,simprocAttr]
    refine CY rfl 0 ?_
    delta Ke
    simp +contextual -dsimp -implicitDefEqProofs (maxSteps:=5000000) only [q3,hs,e1,e2,hp,p1,p2,hi,z1,c3,Bool.and_self_left,Bool.and_self,go_sem,simprocAttr]
   ·have d3:decide (x.code=3)=false:=by simpa using c3
    by_cases c5:x.code=5
    ·simp only [c5,if_true,show ((5:Int)=2)=False by decide,show ((5:Int)=3)=False by decide,if_false]
     generalize Dc m k=r at q5 ⊢
     refine Af rfl 0 (by rfl) ?_
     delta Yd
     simp +contextual -dsimp -implicitDefEqProofs (maxSteps:=5000000) only [Bool.and_self_left,Bool.and_self,go_sem,simprocAttr]
     refine CY rfl 0 ?_
     delta Ke
     simp +contextual -dsimp -implicitDefEqProofs (maxSteps:=5000000) only [q5,hs,e1,e2,hp,p1,p2,hi,z1,c5,Bool.and_self_left,Bool.and_self,go_sem,simprocAttr]
    ·have d5:decide (x.code=5)=false:=by simpa using c5
     by_cases c6:x.code=6
     ·simp only [c6,if_true,show ((6:Int)=2)=False by decide,show ((6:Int)=3)=False by decide,show ((6:Int)=5)=False by decide,if_false]
      generalize ET m k 2 x.a=r at q6 ⊢
      refine Af rfl 0 (by rfl) ?_
      delta Yd
      simp +contextual -dsimp -implicitDefEqProofs (maxSteps:=5000000) only [Bool.and_self_left,Bool.and_self,go_sem,simprocAttr]
      refine CY rfl 0 ?_
      delta Ke
      simp +contextual -dsimp -implicitDefEqProofs (maxSteps:=5000000) only [q6,hs,e1,e2,hp,p1,p2,hi,z1,c6,Bool.and_self_left,Bool.and_self,go_sem,simprocAttr]
     ·have d6:decide (x.code=6)=false:=by simpa using c6
      simp only [c2,c3,c5,c6,if_false]
      generalize CT m k=r at q0 ⊢
      refine Af rfl 0 (by rfl) ?_
      delta Yd
      simp +contextual -dsimp -implicitDefEqProofs (maxSteps:=5000000) only [Bool.and_self_left,Bool.and_self,go_sem,simprocAttr]
      refine CY rfl 0 ?_
      delta Ke
      simp +contextual -dsimp -implicitDefEqProofs (maxSteps:=5000000) only [q0,hs,e1,e2,hp,p1,p2,hi,z1,d2,d3,d5,d6,Bool.and_self_left,Bool.and_self,go_sem,simprocAttr]
theorem rL (i:Nat) (pf:Bool) (m:Ac) (hm:SmM m) (k:Nat) (s:Ae) (hs:m.sess[k]?=some s) (hM:Br m) (hS:SP m.words s):Aa (Lv ctx (i+26)) 59 [aT pf m k]=some (.tup [oM (CP m k s).1,iV (CP m k s).2]):=by
 have hk:=Ax hs
 have e1:(0≤(k:Int))=True:=by simp
 have e2:((k:Int)<(m.sess.length:Int))=True:=by simpa using hk
 have hst:=AE.1 hS.step
 have q1:=a0g (i+3) pf m hm k
 have q2:=qZ (i+3) pf m hm k
 have q3:=rI (i+3) pf m hm k
 have q4:=a0k (i+3) pf m hm k
 have q5:=iM (i+3) pf m hm k
 have qc:=Dw (i+22) pf m hm
 simp only [Nat.add_assoc,Nat.reduceAdd] at q1 q2 q3 q4 q5 qc
 unfold CP
 obtain h0 | h0 | h0 | h0 | h0 | h0 | h0:s.step=0∨s.step=1∨s.step=2∨s.step=3∨s.step=4∨s.step=5∨s.step=6:=by omega
 all_goals simp only [h0,if_true,if_false,show ((1:Int)=0)=False by decide,show ((2:Int)=0)=False by decide,show ((2:Int)=1)=False by decide,show ((3:Int)=0)=False by decide,show ((3:Int)=1)=False by decide,show ((3:Int)=2)=False by decide,show ((4:Int)=0)=False by decide,show ((4:Int)=1)=False by decide,show ((4:Int)=2)=False by decide,show ((4:Int)=3)=False by decide,show ((5:Int)=0)=False by decide,show ((5:Int)=1)=False by decide,show ((5:Int)=2)=False by decide,show ((5:Int)=3)=False by decide,show ((5:Int)=4)=False by decide,show ((6:Int)=0)=False by decide,show ((6:Int)=1)=False by decide,show ((6:Int)=2)=False by decide,show ((6:Int)=3)=False by decide,show ((6:Int)=4)=False by decide,show ((6:Int)=5)=False by decide]
 ·have q0:=a0m (i+0) pf m hm k s hs hM hS h0
  simp only [Nat.add_assoc,Nat.reduceAdd] at q0
  generalize Jt m k s=r at q0 ⊢
  refine Af rfl 0 (by rfl) ?_
  delta c59
  simp +contextual -dsimp -implicitDefEqProofs (maxSteps:=5000000) only [Bool.and_self_left,Bool.and_self,go_sem,simprocAttr]
  refine CY rfl 0 ?_
  delta Ke
  simp +contextual -dsimp -implicitDefEqProofs (maxSteps:=5000000) only [q0,hs,e1,e2,h0,Bool.and_self_left,Bool.and_self,go_sem,simprocAttr]
 ·generalize Fh m k=r at q1 ⊢
  refine Af rfl 0 (by rfl) ?_
  delta c59
  simp +contextual -dsimp -implicitDefEqProofs (maxSteps:=5000000) only [Bool.and_self_left,Bool.and_self,go_sem,simprocAttr]
  refine CY rfl 0 ?_
  delta Ke
  simp +contextual -dsimp -implicitDefEqProofs (maxSteps:=5000000) only [q1,hs,e1,e2,h0,Bool.and_self_left,Bool.and_self,go_sem,simprocAttr]
 ·generalize Em m k=r at q2 ⊢
  refine Af rfl 0 (by rfl) ?_
  delta c59
  simp +contextual -dsimp -implicitDefEqProofs (maxSteps:=5000000) only [Bool.and_self_left,Bool.and_self,go_sem,simprocAttr]
  refine CY rfl 0 ?_
  delta Ke
  simp +contextual -dsimp -implicitDefEqProofs (maxSteps:=5000000) only [q2,hs,e1,e2,h0,Bool.and_self_left,Bool.and_self,go_sem,simprocAttr]
 ·generalize Er m k=r at q3 ⊢
  refine Af rfl 0 (by rfl) ?_
  delta c59
  simp +contextual -dsimp -implicitDefEqProofs (maxSteps:=5000000) only [Bool.and_self_left,Bool.and_self,go_sem,simprocAttr]
  refine CY rfl 0 ?_
  delta Ke
  simp +contextual -dsimp -implicitDefEqProofs (maxSteps:=5000000) only [q3,hs,e1,e2,h0,Bool.and_self_left,Bool.and_self,go_sem,simprocAttr]
 ·generalize Fs m k=r at q4 ⊢
  refine Af rfl 0 (by rfl) ?_
  delta c59
  simp +contextual -dsimp -implicitDefEqProofs (maxSteps:=5000000) only [Bool.and_self_left,Bool.and_self,go_sem,simprocAttr]
  refine CY rfl 0 ?_
  delta Ke
  simp +contextual -dsimp -implicitDefEqProofs (maxSteps:=5000000) only [q4,hs,e1,e2,h0,Bool.and_self_left,Bool.and_self,go_sem,simprocAttr]
 ·generalize Dc m k=r at q5 ⊢
  refine Af rfl 0 (by rfl) ?_
  delta c59
  simp +contextual -dsimp -implicitDefEqProofs (maxSteps:=5000000) only [Bool.and_self_left,Bool.and_self,go_sem,simprocAttr]
  refine CY rfl 0 ?_
  delta Ke
  simp +contextual -dsimp -implicitDefEqProofs (maxSteps:=5000000) only [q5,hs,e1,e2,h0,Bool.and_self_left,Bool.and_self,go_sem,simprocAttr]
 ·refine Af rfl 0 (by rfl) ?_
  delta c59
  simp +contextual -dsimp -implicitDefEqProofs (maxSteps:=5000000) only [Bool.and_self_left,Bool.and_self,go_sem,simprocAttr]
  refine CY rfl 0 ?_
  delta Ke
  simp +contextual -dsimp -implicitDefEqProofs (maxSteps:=5000000) only [qc,hs,e1,e2,h0,Bool.and_self_left,Bool.and_self,go_sem,simprocAttr]
theorem Lc (i:Nat) (pf:Bool) (m:Ac) (hm:SmM m) (at_:Int):Aa (Lv ctx (i+27)) 26 [eM pf m,iV at_]=some (.tup [oM (BV m at_).1,iV (BV m at_).2]):=by
 have qh:=Ii (i+6) pf pf m at_ hm
 simp only [Nat.add_assoc,Nat.reduceAdd] at qh
 rcases Hw m at_ with h | ⟨k,s,rfl,hs,hM,hS⟩
 ·rw [bA h,Bh]
  rw [h] at qh
  refine Af rfl 0 (by rfl) ?_
  delta c26
  simp +contextual -dsimp -implicitDefEqProofs (maxSteps:=5000000) only [qh,Bool.and_self_left,Bool.and_self,go_sem,simprocAttr]
 ·have hh:=CW hs hM
  have q:=rL (i+0) pf m hm k s hs hM hS
  rw [hh] at qh
  simp only [Nat.add_assoc,Nat.reduceAdd] at q
  by_cases h0:(CP m k s).2=0
  ·rw [qH hs hM h0]
   generalize CP m k s=A at q h0 ⊢
   have z1:decide (A.2=0)=true:=by simpa using h0
   refine Af rfl 0 (by rfl) ?_
   delta c26
   simp +contextual -dsimp -implicitDefEqProofs (maxSteps:=5000000) only [qh,q,z1,Bool.and_self_left,Bool.and_self,go_sem,simprocAttr]
  ·rw [gW hs hM h0,Bh]
   generalize CP m k s=A at q h0 ⊢
   have z1:decide (A.2=0)=false:=by simpa using h0
   refine Af rfl 0 (by rfl) ?_
   delta c26
   simp +contextual -dsimp -implicitDefEqProofs (maxSteps:=5000000) only [qh,q,z1,Bool.and_self_left,Bool.and_self,go_sem,simprocAttr]
end Ve
namespace Ve
open Go Ve.Ab
set_option maxHeartbeats 16000000
set_option maxRecDepth 10000
abbrev nV (n:Nat):V:=iV (n:Int)
theorem QF (i:Nat) (a b:Int):Aa (Lv ctx (i+2)) 50 [.agg [iV a,iV b]]=some (bV (AF ⟨a,b⟩)):=by
 have e:AF ⟨a,b⟩=(inR a 3&&(decide (0≤b)&&decide (b≤255))):=rfl
 rw [e]
 cases h:inR a 3<;>cases h2:decide (0≤b)
 all_goals
  refine Af rfl 0 (by rfl) ?_
  delta c50
  simp +contextual -dsimp -implicitDefEqProofs (maxSteps:=5000000) only [h,h2,go_sem,simprocAttr]
theorem Xx (i k:Nat) (pf:Bool) (m:Ac) (lv pk:Int) (hx:(m.sess.length:Int)*8≤140737488355328) (q:Out→St→Option Ans) (Q:V→Hp→Nat→Prop) (u:Dum (fun s q=>evC ctx (Lv ctx (i+19)) (Aa (Lv ctx (i+19))) k Iv s (As [3,7,19,20,21] q))) (w:Dum q)
  (hend:∀ acc,acc=Dq lv 0 m.sess→Fin (q (.exit 0) ⟨Ad [3,7] [.ip true [iV lv,iV pk] 0,.sl 0],pO Ag 0 (some ⟨1,acc.map nV,false⟩),1⟩) Q) :
  ∀ (suf pre:List Ae) (kk:Nat) (acc:List Nat),m.sess=pre++suf→suf.length<kk→acc≠[]→acc.length≤pre.length→acc++Dq lv pre.length suf=Dq lv 0 m.sess →
  GL 0 [3,7,19,20,21] (fun s q=>evC ctx (Lv ctx (i+19)) (Aa (Lv ctx (i+19))) k Iv s (As [3,7,19,20,21] q)) q kk ⟨Ad [3,7,19,20,21] [.ip true [iV lv,iV pk] 0,.sl 0,.isl pf false 17 (m.sess.map (eS pf)),iV m.sess.length,iV pre.length],pO Ag 0 (some ⟨1,acc.map nV,false⟩),1⟩ Q u w
 | [],pre,kk,acc,hxs,hk,hne,hal,hacc=>by
  obtain ⟨kk,rfl⟩:∃ m,kk=m+1:=⟨kk - 1,by simp at hk;omega⟩
  have h1:decide ((pre.length:Int)<m.sess.length)=false:=by simp [hxs]
  have he:=hend acc (by simpa [Dq] using hacc)
  simp +contextual -dsimp -implicitDefEqProofs (maxSteps:=5000000) only [gLs,↓Ai (Iv.eq_1),h1,go_sem,simprocAttr]
  exact he
 | a::suf,pre,kk,acc,hxs,hk,hne,hal,hacc=>by
  obtain ⟨kk,rfl⟩:∃ m,kk=m+1:=⟨kk - 1,by simp at hk;omega⟩
  have hl:pre.length<m.sess.length:=by simp [hxs]
  have h2:((pre.length:Int)<m.sess.length)=True:=by simpa using hl
  have h3:(0≤(pre.length:Int))=True:=by simp
  have h4:=wrN pre.length (by simp only [BB];omega)
  have hg:m.sess[pre.length]?=some a:=by simp [hxs]
  have h5:(((acc.length+1:Nat):Int)*8≤140737488355328)=True:=by rw [eq_iff_iff,iff_true];omega
  have htu:Gl lv a=(decide (a.label=lv)&&!decide (a.step=6)):=rfl
  cases ht:Gl lv a
  ·have ih:=Xx i k pf m lv pk hx q Q u w hend suf (pre++[a]) kk acc (by simp [hxs]) (by simpa using hk) hne (by simp;omega) (by rw [← hacc];simp [Dq,ht])
   simp only [Ah] at ih
   rw [ht] at htu
   cases c1:decide (a.label=lv)
   ·cases pf
    all_goals
     simp +contextual -dsimp -implicitDefEqProofs (maxSteps:=5000000) only [gLs,↓Ai (Iv.eq_1),h2,h3,h4,hg,c1,eS,go_sem,simprocAttr]
     exact (Av (by rfl)).mpr ih
   ·have c2:decide (a.step=6)=true:=by rw [c1] at htu;simpa using htu.symm
    cases pf
    all_goals
     simp +contextual -dsimp -implicitDefEqProofs (maxSteps:=5000000) only [gLs,↓Ai (Iv.eq_1),h2,h3,h4,hg,c1,c2,eS,go_sem,simprocAttr]
     exact (Av (by rfl)).mpr ih
  ·have ih:=Xx i k pf m lv pk hx q Q u w hend suf (pre++[a]) kk (acc++[pre.length]) (by simp [hxs]) (by simpa using hk) (by simp) (by simp;omega) (by rw [← hacc];simp [Dq,ht])
   simp only [Ah,List.map_append,List.map_cons,List.map_nil] at ih
   rw [ht] at htu
   have c12:=htu.symm
   simp only [Bool.and_eq_true,Bool.not_eq_true'] at c12
   obtain ⟨c1,c2⟩:=c12
   cases pf
   all_goals
    simp +contextual -dsimp -implicitDefEqProofs (maxSteps:=5000000) only [gLs,↓Ai (Iv.eq_1),h2,h3,h4,h5,hg,c1,c2,eS,go_sem,simprocAttr]
    exact (Av (by rfl)).mpr ih
theorem mF (i k:Nat) (pf:Bool) (m:Ac) (lv pk:Int) (hx:(m.sess.length:Int)*8≤140737488355328) (q:Out→St→Option Ans) (Q:V→Hp→Nat→Prop) (u:Dum (fun s q=>evC ctx (Lv ctx (i+19)) (Aa (Lv ctx (i+19))) k Iv s (As [3,7,19,20,21] q))) (w:Dum q)
  (hend:∀ acc,acc=Dq lv 0 m.sess→acc≠[]→Fin (q (.exit 0) ⟨Ad [3,7] [.ip true [iV lv,iV pk] 0,.sl 0],pO Ag 0 (some ⟨1,acc.map nV,false⟩),1⟩) Q) (hnil:Dq lv 0 m.sess=[]→Fin (q (.exit 0) ⟨Ad [3,7] [.ip true [iV lv,iV pk] 0,.lit (.slice none 0 0)],Ag,0⟩) Q) :
  ∀ (suf pre:List Ae) (kk:Nat),m.sess=pre++suf→suf.length<kk→Dq lv pre.length suf=Dq lv 0 m.sess →
  GL 0 [3,7,19,20,21] (fun s q=>evC ctx (Lv ctx (i+19)) (Aa (Lv ctx (i+19))) k Iv s (As [3,7,19,20,21] q)) q kk ⟨Ad [3,7,19,20,21] [.ip true [iV lv,iV pk] 0,.lit (.slice none 0 0),.isl pf false 17 (m.sess.map (eS pf)),iV m.sess.length,iV pre.length],Ag,0⟩ Q u w
 | [],pre,kk,hxs,hk,hacc=>by
  obtain ⟨kk,rfl⟩:∃ m,kk=m+1:=⟨kk - 1,by simp at hk;omega⟩
  have h1:decide ((pre.length:Int)<m.sess.length)=false:=by simp [hxs]
  have he:=hnil (by rw [← hacc];rfl)
  simp +contextual -dsimp -implicitDefEqProofs (maxSteps:=5000000) only [gLs,↓Ai (Iv.eq_1),h1,go_sem,simprocAttr]
  exact he
 | a::suf,pre,kk,hxs,hk,hacc=>by
  obtain ⟨kk,rfl⟩:∃ m,kk=m+1:=⟨kk - 1,by simp at hk;omega⟩
  have hl:pre.length<m.sess.length:=by simp [hxs]
  have h2:((pre.length:Int)<m.sess.length)=True:=by simpa using hl
  have h3:(0≤(pre.length:Int))=True:=by simp
  have h4:=wrN pre.length (by simp only [BB];omega)
  have hg:m.sess[pre.length]?=some a:=by simp [hxs]
  have htu:Gl lv a=(decide (a.label=lv)&&!decide (a.step=6)):=rfl
  cases ht:Gl lv a
  ·have ih:=mF i k pf m lv pk hx q Q u w hend hnil suf (pre++[a]) kk (by simp [hxs]) (by simpa using hk) (by rw [← hacc];simp [Dq,ht])
   simp only [Ah] at ih
   rw [ht] at htu
   cases c1:decide (a.label=lv)
   ·cases pf
    all_goals
     simp +contextual -dsimp -implicitDefEqProofs (maxSteps:=5000000) only [gLs,↓Ai (Iv.eq_1),h2,h3,h4,hg,c1,eS,go_sem,simprocAttr]
     exact (Av (by rfl)).mpr ih
   ·have c2:decide (a.step=6)=true:=by rw [c1] at htu;simpa using htu.symm
    cases pf
    all_goals
     simp +contextual -dsimp -implicitDefEqProofs (maxSteps:=5000000) only [gLs,↓Ai (Iv.eq_1),h2,h3,h4,hg,c1,c2,eS,go_sem,simprocAttr]
     exact (Av (by rfl)).mpr ih
  ·have hac:[pre.length]++Dq lv (pre++[a]).length suf=Dq lv 0 m.sess:=by rw [← hacc];simp [Dq,ht]
   have ih:=Xx i k pf m lv pk hx q Q u w (fun acc h=>hend acc h (by rw [h,← hac];simp)) suf (pre++[a]) kk [pre.length] (by simp [hxs]) (by simpa using hk) (by simp) (by simp) hac
   simp only [Ah,List.map_cons,List.map_nil] at ih
   rw [ht] at htu
   have c12:=htu.symm
   simp only [Bool.and_eq_true,Bool.not_eq_true'] at c12
   obtain ⟨c1,c2⟩:=c12
   cases pf
   all_goals
    simp +contextual -dsimp -implicitDefEqProofs (maxSteps:=5000000) only [gLs,↓Ai (Iv.eq_1),h2,h3,h4,hg,c1,c2,eS,List.replicate,go_sem,simprocAttr]
    exact (Av (by rfl)).mpr ih
theorem YD (i:Nat) (pf:Bool) (m:Ac) (hm:SmM m) (lv pk:Int):Aa (Lv ctx (i+20)) 22 [eM pf m,.agg [iV lv,iV pk]]=some (.tup [iV (CU m ⟨lv,pk⟩).1,bV (CU m ⟨lv,pk⟩).2.1,iV (CU m ⟨lv,pk⟩).2.2]):=by
 have q1:=QG (i+0) pf m hm
 have q2:=QF (i+17) lv pk
 simp only [Nat.add_assoc,Nat.reduceAdd] at q1 q2
 cases h1:De m
 ·have e:CU m ⟨lv,pk⟩=(0,false,2400):=by unfold CU;rw [h1];rfl
  rw [e]
  rw [h1] at q1
  refine Af rfl 0 (by rfl) ?_
  delta c22
  cases pf<;>simp +contextual -dsimp -implicitDefEqProofs (maxSteps:=5000000) only [q1,go_sem,simprocAttr]
 ·rw [h1] at q1
  cases h2:AF ⟨lv,pk⟩
  ·have e:CU m ⟨lv,pk⟩=(0,false,2400):=by unfold CU;rw [h1,h2];rfl
   rw [e]
   rw [h2] at q2
   refine Af rfl 0 (by rfl) ?_
   delta c22
   cases pf<;>simp +contextual -dsimp -implicitDefEqProofs (maxSteps:=5000000) only [q1,q2,go_sem,simprocAttr]
  ·rw [h2] at q2
   have hpk:inR pk 255=true:=by simp only [AF,Bool.and_eq_true] at h2;exact h2.2
   rw [AE] at hpk
   obtain ⟨p,rfl⟩:∃ p:Nat,pk=(p:Int):=⟨pk.toNat,by omega⟩
   have e:CU m ⟨lv,p⟩=match (Dq lv 0 m.sess)[p % (Dq lv 0 m.sess).length]? with
    | some k=>((k:Nat),true,0)
    | none=>(0,false,0):=by unfold CU Jl;rw [h1,h2];simp only [Bool.and_self,if_true,Int.toNat_natCast];rfl
   rw [e]
   have hx:(m.sess.length:Int)*8≤140737488355328:=by have:=hm.bs;omega
   refine Af rfl (m.sess.length+1) (by rfl) ?_
   delta c22
   cases pf
   all_goals
    simp +contextual -dsimp -implicitDefEqProofs (maxSteps:=5000000) only [q1,q2,go_sem,simprocAttr]
    refine mF i _ _ m lv p hx _ _ _ _ ?ha ?hb m.sess [] _ (by simp) (by omega) rfl
    case hb =>
     intro hn
     rw [hn]
     simp +contextual -dsimp -implicitDefEqProofs (maxSteps:=5000000) only [List.getElem?_nil,go_sem,simprocAttr]
    case ha =>
     intro acc hacc hne
     rw [← hacc]
     have hpos:0<acc.length:=List.length_pos_iff.2 hne
     have hmod:p % acc.length<acc.length:=Nat.mod_lt _ hpos
     obtain ⟨r,hr⟩:∃ r,acc[p % acc.length]?=some r:=⟨_,List.getElem?_eq_getElem hmod⟩
     have hrem:BJ lay .rem 3 (iV (p:Int)) (iV (acc.length:Int))=some (iV ((p % acc.length:Nat):Int)):=by
      rw [Oq (by omega),Int.tmod_eq_emod_of_nonneg (by omega)];rfl
     rw [hr]
     generalize p % acc.length=j at hmod hr hrem
     have z1:decide ((acc.length:Int)=0)=false:=by simp;omega
     have l1:(0≤(j:Int))=True:=by simp
     have l2:((j:Int)<(acc.length:Int))=True:=by simpa using hmod
     simp +contextual -dsimp -implicitDefEqProofs (maxSteps:=5000000) only [z1,hrem,l1,l2,hr,List.length_map,go_sem,simprocAttr]
theorem OM (i:Nat) (pf:Bool) (m:Ac) (hm:SmM m) (lv pk:Int):Aa (Lv ctx (i+28)) 20 [eM pf m,.agg [iV lv,iV pk]]=some (.tup [oM (AQ m ⟨lv,pk⟩).1,iV (AQ m ⟨lv,pk⟩).2]):=by
 have q1:=YD (i+7) pf m hm lv pk
 have qc:=Dw (i+24) pf m hm
 have qs:=fun a=>Lc (i+0) pf m hm a
 simp only [Nat.add_assoc,Nat.reduceAdd] at q1 qc qs
 have e:AQ m ⟨lv,pk⟩=if (CU m ⟨lv,pk⟩).2.2=0 then (if (CU m ⟨lv,pk⟩).2.1=true then (if (BV m (CU m ⟨lv,pk⟩).1).2=0 then ((BV m (CU m ⟨lv,pk⟩).1).1,0) else (AA,2400)) else (m,0)) else (AA,2400):=rfl
 rw [e]
 generalize CU m ⟨lv,pk⟩=W at q1 ⊢
 obtain ⟨a,is,er⟩:=W
 simp only at q1 ⊢
 by_cases h0:er=0
 ·have z0:decide (er=0)=true:=by simpa using h0
  rw [if_pos h0]
  cases is
  ·simp only [Bool.false_eq_true,if_false]
   refine Af rfl 0 (by rfl) ?_
   delta c20
   cases pf<;>simp +contextual -dsimp -implicitDefEqProofs (maxSteps:=5000000) only [q1,qc,z0,go_sem,simprocAttr]
  ·simp only [if_true]
   have q2:=qs a
   generalize BV m a=A at q2 ⊢
   by_cases h1:A.2=0
   ·have z1:decide (A.2=0)=true:=by simpa using h1
    rw [if_pos h1]
    refine Af rfl 0 (by rfl) ?_
    delta c20
    cases pf<;>simp +contextual -dsimp -implicitDefEqProofs (maxSteps:=5000000) only [q1,q2,z0,z1,go_sem,simprocAttr]
   ·have z1:decide (A.2=0)=false:=by simpa using h1
    rw [if_neg h1,Bh]
    refine Af rfl 0 (by rfl) ?_
    delta c20
    cases pf<;>simp +contextual -dsimp -implicitDefEqProofs (maxSteps:=5000000) only [q1,q2,z0,z1,go_sem,simprocAttr]
 ·have z0:decide (er=0)=false:=by simpa using h0
  rw [if_neg h0,Bh]
  refine Af rfl 0 (by rfl) ?_
  delta c20
  cases pf<;>simp +contextual -dsimp -implicitDefEqProofs (maxSteps:=5000000) only [q1,z0,go_sem,simprocAttr]
end Ve
namespace Ve
open Go Ve.Ab
set_option maxHeartbeats 16000000
set_option maxRecDepth 10000
theorem YF (i:Nat) (x:AO):Aa (Lv ctx (i+3)) 81 [eSl x]=some (bV (!AF x)):=by
 have h:=QF (i+0) x.level x.pick
 simp only [eSl,Nat.add_assoc,Nat.reduceAdd] at h ⊢
 refine Af rfl 0 (by rfl) ?_
 delta c81
 simp +contextual -dsimp -implicitDefEqProofs (maxSteps:=5000000) only [h,go_sem,simprocAttr]
theorem So (i:Nat) (p:Bool) (s:Ap) (hs:Cj s):Aa (Lv ctx (i+21)) 35 [eSc p s]=some (bV (Az s)):=by
 have q:=MM (i+0) p s hs
 have hb:s.slots.length≤BB:=by have:=hs.bsl;simp only [BB];omega
 have hcf:=fun pf=>UK (i+(20 - 2)) pf false s.slots (fun x=>!AF x) 81 [] (fun _ _ _ _ _ _=>rfl) (fun _=>rfl) (by simp [AU]) rfl (fun a _=>YF (i+(20 - 2 - 3)) a) hb
 have e:Az s=(decide ((Ci s).2=0)&&decide (s.slots.length≤256)&&s.slots.all AF):=rfl
 have hL:decide ((s.slots.length:Int)≤256)=decide (s.slots.length≤256):=by apply decide_eq_decide.mpr;omega
 rw [FU] at hcf
 simp only [Nat.add_assoc,Nat.reduceAdd,Nat.reduceSub] at q hcf
 rw [e]
 generalize Ci s=N at q ⊢
 cases h1:decide (N.2=0)
 ·refine Af rfl 0 (by rfl) ?_
  delta c35
  cases p<;>simp +contextual -dsimp -implicitDefEqProofs (maxSteps:=5000000) only [q,h1,go_sem,simprocAttr]
 ·cases h2:decide (s.slots.length≤256)
  ·refine Af rfl 0 (by rfl) ?_
   delta c35
   cases p<;>simp +contextual -dsimp -implicitDefEqProofs (maxSteps:=5000000) only [q,h1,hL,h2,go_sem,simprocAttr]
  ·refine Af rfl 0 (by rfl) ?_
   delta c35
   cases p<;>simp +contextual -dsimp -implicitDefEqProofs (maxSteps:=5000000) only [q,h1,hL,h2,hcf,Bool.not_not,go_sem,simprocAttr]
abbrev hRn (m:Ac) (C:List V):Hp:=pO (pO (pO (pO (pO (pO (pO (pO Ag 0 (some ⟨11,[zM],false⟩)) 1 (some ⟨3,m.words.a0.map eW,false⟩)) 2 (some ⟨3,m.words.a1.map eW,false⟩)) 3 (some ⟨3,m.words.a2.map eW,false⟩)) 4 (some ⟨3,m.words.a3.map eW,false⟩)) 5 (some ⟨17,m.sess.map oS,false⟩)) 6 (some ⟨4,m.trace.map eE,false⟩)) 7 (some ⟨11,[.agg C],true⟩)
abbrev cA (m:Ac):List V:=[.sl 1,.sl 2,.sl 3,.sl 4,iV m.clocks.a0,iV m.clocks.a1,iV m.clocks.a2,iV m.clocks.a3,iV m.ceil,.sl 5,.sl 6]
theorem s_rb (i k:Nat) (p:Bool) (s:Ap) (hs:Cj s) (m0:Ac) (hm0:SmM m0) (q:Out→St→Option Ans) (Q:V→Hp→Nat→Prop) (u:Dum (fun s q=>evC ctx (Lv ctx (i+28)) (Aa (Lv ctx (i+28))) k Ka s (As [2,4,20,21,22] q))) (w:Dum q)
  (hend:∀ m',BH m0 s.slots=(m',0)→SmM m'→Fin (q (.exit 0) ⟨Ad [2,4] [.ptr 0 0 0,.ptr 7 0 0],hRn m0 (cO m'),8⟩) Q)
  (hbad:∀ h n,(n=16∨n=22)→h 0=some ⟨11,[zM],false⟩→BH m0 s.slots=(AA,2500)→Fin (q .ret ⟨Ad [2,3] [.ptr 0 0 0,iV 2500],h,n⟩) Q) :
  ∀ (suf pre:List AO) (kk:Nat) (m:Ac),s.slots=pre++suf→suf.length<kk→SmM m→BH m suf=BH m0 s.slots →
  GL 8 [2,4,20,21,22] (fun s q=>evC ctx (Lv ctx (i+28)) (Aa (Lv ctx (i+28))) k Ka s (As [2,4,20,21,22] q)) q kk ⟨Ad [2,4,20,21,22] [.ptr 0 0 0,.ptr 7 0 0,XT p s.slots,iV s.slots.length,iV pre.length],hRn m0 (cO m),8⟩ Q u w
 | [],pre,kk,m,hxs,hk,hm,hr=>by
  obtain ⟨kk,rfl⟩:∃ m,kk=m+1:=⟨kk - 1,by simp at hk;omega⟩
  have h1:decide ((pre.length:Int)<s.slots.length)=false:=by simp [hxs]
  have he:=hend m (by rw [← hr];rfl) hm
  simp +contextual -dsimp -implicitDefEqProofs (maxSteps:=5000000) only [gLs,↓Ai (Ka.eq_1),h1,go_sem,simprocAttr]
  exact he
 | a::suf,pre,kk,m,hxs,hk,hm,hr=>by
  obtain ⟨kk,rfl⟩:∃ m,kk=m+1:=⟨kk - 1,by simp at hk;omega⟩
  have hl:pre.length<s.slots.length:=by simp [hxs]
  have h2:((pre.length:Int)<s.slots.length)=True:=by simpa using hl
  have h3:(0≤(pre.length:Int))=True:=by simp
  have h4:=wrN pre.length (by have:=hs.bsl;simp only [BB];omega)
  have hg:s.slots[pre.length]?=some a:=by simp [hxs]
  have q1:=OM (i+0) false m hm a.level a.pick
  have hA:=Km hm a
  have e:BH m (a::suf)=if (AQ m a).2=0 then BH (AQ m a).1 suf else (AA,2500):=rfl
  rw [e] at hr
  simp only [Nat.add_assoc,Nat.reduceAdd] at q1
  generalize AQ m a=A at q1 hA hr
  by_cases h0:A.2=0
  ·rw [if_pos h0] at hr
   have z0:decide (A.2=0)=true:=by simpa using h0
   have ih:=s_rb i k p s hs m0 hm0 q Q u w hend hbad suf (pre++[a]) kk A.1 (by simp [hxs]) (by simpa using hk) hA hr
   simp only [Ah] at ih
   cases p
   all_goals
    simp +contextual -dsimp -implicitDefEqProofs (maxSteps:=5000000) only [gLs,↓Ai (Ka.eq_1),h2,h3,h4,hg,q1,z0,go_sem,simprocAttr]
    exact (Av (by rfl)).mpr ih
  ·rw [if_neg h0] at hr
   have z0:decide (A.2=0)=false:=by simpa using h0
   cases p
   all_goals
    simp +contextual -dsimp -implicitDefEqProofs (maxSteps:=5000000) only [gLs,↓Ai (Ka.eq_1),h2,h3,h4,hg,q1,z0,go_sem,simprocAttr]
    exact hbad _ _ (by first | exact .inl rfl | exact .inr rfl) (by rfl) hr.symm
theorem s_ra (i k:Nat) (p:Bool) (s:Ap) (hs:Cj s) (m0:Ac) (hm0:SmM m0) (q:Out→St→Option Ans) (Q:V→Hp→Nat→Prop) (u:Dum (fun s q=>evC ctx (Lv ctx (i+28)) (Aa (Lv ctx (i+28))) k Ka s (As [2,4,20,21,22] q))) (w:Dum q)
  (hend:∀ m',BH m0 s.slots=(m',0)→SmM m'→Fin (q (.exit 0) ⟨Ad [2,4] [.ptr 0 0 0,.ptr 7 0 0],hRn m0 (cO m'),8⟩) Q) (hend0:BH m0 s.slots=(m0,0)→Fin (q (.exit 0) ⟨Ad [2,4] [.ptr 0 0 0,.ptr 7 0 0],hRn m0 (cA m0),8⟩) Q)
  (hbad:∀ h n,(n=16∨n=22)→h 0=some ⟨11,[zM],false⟩→BH m0 s.slots=(AA,2500)→Fin (q .ret ⟨Ad [2,3] [.ptr 0 0 0,iV 2500],h,n⟩) Q) :
  ∀ (suf pre:List AO) (kk:Nat) (m:Ac),s.slots=pre++suf→suf.length<kk→SmM m→BH m suf=BH m0 s.slots→m=m0 →
  GL 8 [2,4,20,21,22] (fun s q=>evC ctx (Lv ctx (i+28)) (Aa (Lv ctx (i+28))) k Ka s (As [2,4,20,21,22] q)) q kk ⟨Ad [2,4,20,21,22] [.ptr 0 0 0,.ptr 7 0 0,XT p s.slots,iV s.slots.length,iV pre.length],hRn m0 (cA m),8⟩ Q u w
 | [],pre,kk,m,hxs,hk,hm,hr,hmm=>by
  obtain ⟨kk,rfl⟩:∃ m,kk=m+1:=⟨kk - 1,by simp at hk;omega⟩
  have h1:decide ((pre.length:Int)<s.slots.length)=false:=by simp [hxs]
  subst hmm
  have he:=hend0 (by rw [← hr];rfl)
  simp +contextual -dsimp -implicitDefEqProofs (maxSteps:=5000000) only [gLs,↓Ai (Ka.eq_1),h1,go_sem,simprocAttr]
  exact he
 | a::suf,pre,kk,m,hxs,hk,hm,hr,hmm=>by
  obtain ⟨kk,rfl⟩:∃ m,kk=m+1:=⟨kk - 1,by simp at hk;omega⟩
  have hl:pre.length<s.slots.length:=by simp [hxs]
  have h2:((pre.length:Int)<s.slots.length)=True:=by simpa using hl
  have h3:(0≤(pre.length:Int))=True:=by simp
  have h4:=wrN pre.length (by have:=hs.bsl;simp only [BB];omega)
  have hg:s.slots[pre.length]?=some a:=by simp [hxs]
  have q1:=OM (i+0) false m hm a.level a.pick
  have hA:=Km hm a
  have e:BH m (a::suf)=if (AQ m a).2=0 then BH (AQ m a).1 suf else (AA,2500):=rfl
  rw [e] at hr
  subst hmm
  simp only [Nat.add_assoc,Nat.reduceAdd] at q1
  generalize AQ m a=A at q1 hA hr
  by_cases h0:A.2=0
  ·rw [if_pos h0] at hr
   have z0:decide (A.2=0)=true:=by simpa using h0
   have ih:=s_rb i k p s hs m hm0 q Q u w hend hbad suf (pre++[a]) kk A.1 (by simp [hxs]) (by simpa using hk) hA hr
   simp only [Ah] at ih
   cases p
   all_goals
    simp +contextual -dsimp -implicitDefEqProofs (maxSteps:=5000000) only [gLs,↓Ai (Ka.eq_1),h2,h3,h4,hg,q1,z0,go_sem,simprocAttr]
    exact (Av (by rfl)).mpr ih
  ·rw [if_neg h0] at hr
   have z0:decide (A.2=0)=false:=by simpa using h0
   cases p
   all_goals
    simp +contextual -dsimp -implicitDefEqProofs (maxSteps:=5000000) only [gLs,↓Ai (Ka.eq_1),h2,h3,h4,hg,q1,z0,go_sem,simprocAttr]
    exact hbad _ _ (by first | exact .inl rfl | exact .inr rfl) (by rfl) hr.symm
theorem KL (i:Nat) (p:Bool) (s:Ap) (hs:Cj s):Aa (Lv ctx (i+29)) 27 [eSc p s]=some (.tup [oM (BN s).1,iV (BN s).2]):=by
 have q0:=So (i+7) p s hs
 have qn:=MM (i+8) p s hs
 have hm:SmM (Ci s).1:=by
  unfold Ci;split
  ·exact Et hs
  ·exact CQ
 have e:BN s=if Az s=true then BH (Ci s).1 s.slots else (AA,2500):=rfl
 rw [e]
 simp only [Nat.add_assoc,Nat.reduceAdd] at q0 qn
 cases h0:Az s
 ·rw [h0] at q0
  simp only [Bool.false_eq_true,if_false]
  rw [Bh]
  refine Af rfl 0 (by rfl) ?_
  delta c27
  cases p<;>simp +contextual -dsimp -implicitDefEqProofs (maxSteps:=5000000) only [q0,go_sem,simprocAttr]
 ·rw [h0] at q0
  simp only [if_true]
  generalize Ci s=N at qn hm ⊢
  refine Af rfl (s.slots.length+1) (by rfl) ?_
  delta c27
  cases p
  all_goals
   simp +contextual -dsimp -implicitDefEqProofs (maxSteps:=5000000) only [q0,qn,go_sem,simprocAttr]
   refine s_ra i _ _ s hs N.1 hm _ _ _ _ ?ha ?hz ?hb s.slots [] _ N.1 (by simp) (by omega) hm rfl rfl
   case ha =>
    intro m' hr hm'
    rw [hr]
    simp +contextual -dsimp -implicitDefEqProofs (maxSteps:=5000000) only [go_sem,simprocAttr]
   case hz =>
    intro hr
    rw [hr]
    simp +contextual -dsimp -implicitDefEqProofs (maxSteps:=5000000) only [go_sem,simprocAttr]
   case hb =>
    intro h n hn hh hr
    rw [hr,Bh]
    rcases hn with rfl | rfl<;>simp +contextual -dsimp -implicitDefEqProofs (maxSteps:=5000000) only [hh,go_sem,simprocAttr]
end Ve
namespace Ve
open Go Ve.Ab
set_option maxHeartbeats 16000000
set_option maxRecDepth 10000
def CX:Ap:=⟨⟨[5],[7],[],[9]⟩,9,[⟨3,0,3,[⟨2,0,0,0⟩,⟨1,0,0,0⟩,⟨3,0,0,0⟩]⟩,⟨5,1,1,[⟨2,0,0,0⟩,⟨3,0,1,0⟩]⟩],[⟨0,0⟩,⟨1,0⟩,⟨0,0⟩,⟨0,0⟩,⟨3,0⟩,⟨0,0⟩,⟨0,0⟩,⟨0,0⟩,⟨0,0⟩,⟨0,0⟩]⟩
theorem OC:Cj CX:=⟨by decide,by decide,by decide,by decide,by decide,by decide,by decide⟩
theorem a2u:(BN CX).2=0∧(BN CX).1.words.a0=[⟨10,1,0⟩]:=⟨by decide +kernel,by decide +kernel⟩
theorem a2v:(Ci CX).2=0:=by decide +kernel
theorem uU:(AQ (Ci CX).1 ⟨0,0⟩).2=0∧(AQ (Ci CX).1 ⟨0,0⟩).1.sess.length=2∧((AQ (Ci CX).1 ⟨0,0⟩).1.sess[0]?).map (·.pc)=some 1∧BV (Ci CX).1 0=AQ (Ci CX).1 ⟨0,0⟩:=⟨by decide +kernel,by decide +kernel,by decide +kernel,by decide +kernel⟩
theorem a2t:CU (Ci CX).1 ⟨1,0⟩=(1,true,0):=by decide +kernel
theorem WW (i:Nat):Aa (Lv ctx (i+2)) 42 [iV 1,iV 3]=some (.tup [bV true,iV 0]):=by
 have h1:inR 1 3=true:=by decide
 have h3:inR 3 3=true:=by decide
 have hu:Ao 1 3=true:=by decide
 refine Af rfl 0 (by rfl) ?_
 delta c42
 simp +contextual -dsimp -implicitDefEqProofs (maxSteps:=5000000) only [h1,h3,hu,go_sem,simprocAttr]
theorem iX (i:Nat):Aa (Lv ctx (i+1)) 41 []=some (oSc CX):=by
 refine Af rfl 0 (by rfl) ?_
 delta c41
 simp +contextual -dsimp -implicitDefEqProofs (maxSteps:=5000000) only [List.replicate,List.replicate_succ,List.flatten_cons,List.flatten_nil,List.cons_append,List.nil_append,go_sem,simprocAttr]
 first | rfl | done
theorem awT (i:Nat):Aa (Lv ctx (i+30)) 15 []=some (bV true):=by
 have q0:=iX (i+(29 - 1))
 have q1:=KL (i+0) true CX OC
 have q2:=WW (i+27)
 have q3:=MM (i+9) true CX OC
 have hmN:=iA OC
 have q4:=OM (i+1) true (Ci CX).1 hmN 0 0
 have q5:=Lc (i+2) true (Ci CX).1 hmN 0
 have q6:=YD (i+9) true (Ci CX).1 hmN 1 0
 obtain ⟨r0,r1⟩:=a2u
 obtain ⟨w0,w1,w2,w3⟩:=uU
 have q7:=fun p q=>Bq (i+(29 - 3)) p q (AQ (Ci CX).1 ⟨0,0⟩).1 (AQ (Ci CX).1 ⟨0,0⟩).1 (Km hmN _)
 rw [w3] at q5
 rw [r0] at q1
 rw [a2v] at q3
 rw [w0] at q4 q5
 rw [a2t] at q6
 simp only [Nat.add_assoc,Nat.reduceAdd,Nat.reduceSub,decide_true] at q0 q1 q2 q3 q4 q5 q6 q7
 generalize (AQ (Ci CX).1 ⟨0,0⟩).1=B at q4 q5 q7 w1 w2
 generalize (Ci CX).1=N at q3 q4 q5 q6
 generalize (BN CX).1=M at q1 r1
 obtain ⟨s0,hs0,hpc⟩:∃ s0,B.sess[0]?=some s0∧s0.pc=1:=by
  cases h:B.sess[0]? with
  | none=>rw [h] at w2;cases w2
  | some s0=>rw [h] at w2;exact ⟨s0,rfl,by simpa using w2⟩
 obtain ⟨⟨w0',w1',w2',w3'⟩,ck,ce,ss,tr⟩:=M
 simp only at r1
 subst r1
 have hl:(B.sess.length:Int)=2:=by rw [w1];rfl
 have l0:((0:Int)<(B.sess.length:Int))=True:=by rw [hl];simp
 have z1:decide (s0.pc=1)=true:=by simpa using hpc
 have z2:decide ((B.sess.length:Int)=2)=true:=by simpa using hl
 refine Af rfl 0 (by rfl) ?_
 delta c15
 simp +contextual -dsimp -implicitDefEqProofs (maxSteps:=5000000) only [q0,q1,q2,q3,q4,q5,q6,q7,l0,z1,z2,hs0,eS,go_sem,simprocAttr]
end Ve
