/- The program's steps of a session. -/
import Derived.Test.YtjgbbmcjbfpjfaaGreatS53
import Derived.Test.YtjgbbmcjbfpjfaaGreatS54
import Derived.Test.YtjgbbmcjbfpjfaaGreatS47
import Derived.Test.YtjgbbmcjbfpjfaaGreatVeSF
import Derived.Test.YtjgbbmcjbfpjfaaGreatS28
import Derived.Test.YtjgbbmcjbfpjfaaGreatS36
import Derived.Test.YtjgbbmcjbfpjfaaGreatS44
import Derived.Test.YtjgbbmcjbfpjfaaGreatS34
import Derived.Test.YtjgbbmcjbfpjfaaGreatVeP
set_option linter.all false
set_option linter.unusedSectionVars false
namespace Ve
open Go Ve.Ab
set_option maxHeartbeats 16000000
set_option maxRecDepth 10000
theorem a2y (i:Nat) (a l:Ao) (v:Int):Aa (Lv ctx (i+1)) 225 [eWr a,.ip true [iV v] 0]=some (bV (!decide (a.level=v))):=by
 simp only [eWr]
 refine Ac rfl 0 (by rfl) ?_
 delta c225
 simp +contextual -dsimp -implicitDefEqProofs (maxSteps:=5000000) only [go_sem,simprocAttr]
theorem VQ (i:Nat) (pf nn:Bool) (xs:List Ao) (hx:xs.length≤BB) (l:Int):Aa (Lv ctx (i+5)) 215 [.isl pf nn 3 (xs.map eWr),iV l]=some (bV (DY xs l)):=by
 have q1:=Jd (i+1) pf nn xs hx
 have hcf:Aa (Lv ctx (i+4)) 178 [.isl pf nn 3 (xs.map eWr),.fn (.func 225) [] [.ip true [iV l] 0]]=some (bV (xs.any fun w=>!decide (w.level=l))) :=
  Qg (i+2) pf nn xs (fun w=>!decide (w.level=l)) 225 [.ip true [iV l] 0] (fun _ _ _ _ _ _=>rfl) (fun _=>rfl) (by simp [AU,V.scrub]) rfl (fun x _=>a2y (i+1) x x l) hx
 rw [GT] at hcf
 simp only [Nat.add_assoc,Nat.reduceAdd] at q1
 unfold DY
 cases hm:AX xs
 all_goals
  rw [hm] at q1
  refine Ac rfl 0 (by rfl) ?_
  delta c215
  simp +contextual -dsimp -implicitDefEqProofs (maxSteps:=5000000) only [q1,hcf,Bool.not_not,go_sem,simprocAttr]
abbrev aT (pf:Bool) (m:Ad) (k:Int):V:=.agg [eWs pf m.words.a0,eWs pf m.words.a1,eWs pf m.words.a2,eWs pf m.words.a3,iV m.clocks.a0,iV m.clocks.a1,iV m.clocks.a2,iV m.clocks.a3,iV m.ceil,eSs pf m.sess,eEs pf m.trace,iV k]
theorem gX (i:Nat) (pf:Bool) (m:Ad) (hm:SmM m) (k r t:Int):Aa (Lv ctx (i+22)) 195 [aT pf m k,iV r,iV t]=some (.tup [oM (CX m k r t).1,iV (CX m k r t).2]):=by
 have q:=Tx (i+0) pf m hm k r t
 simp only [Nat.add_assoc,Nat.reduceAdd] at q
 generalize CX m k r t=A at q ⊢
 refine Ac rfl 0 (by rfl) ?_
 delta c195
 simp +contextual -dsimp -implicitDefEqProofs (maxSteps:=5000000) only [q,Bool.and_self_left,Bool.and_self,go_sem,simprocAttr]
theorem qX (i:Nat) (pf:Bool) (m:Ad) (hm:SmM m) (k:Int):Aa (Lv ctx (i+24)) 193 [aT pf m k]=some (.tup [oM (if (Co m k).1=true then BI m k else Cp m k).1,iV (if (Co m k).1=true then BI m k else Cp m k).2]):=by
 have q0:=RQ (i+1) pf m hm k
 have q1:=qU (i+0) pf m hm k
 have q2:=qS (i+0) pf m hm k
 simp only [Nat.add_assoc,Nat.reduceAdd] at q0 q1 q2
 cases h:(Co m k).1
 ·rw [h] at q0
  simp only [Bool.false_eq_true,if_false]
  generalize Cp m k=A at q2 ⊢
  refine Ac rfl 0 (by rfl) ?_
  delta c193
  simp +contextual -dsimp -implicitDefEqProofs (maxSteps:=5000000) only [q0,q2,Bool.and_self_left,Bool.and_self,go_sem,simprocAttr]
 ·rw [h] at q0
  simp only [if_true]
  generalize BI m k=A at q1 ⊢
  refine Ac rfl 0 (by rfl) ?_
  delta c193
  simp +contextual -dsimp -implicitDefEqProofs (maxSteps:=5000000) only [q0,q1,Bool.and_self_left,Bool.and_self,go_sem,simprocAttr]
theorem qY (i:Nat) (pf:Bool) (m:Ad) (hm:SmM m) (k:Nat) (s:Ai) (hs:m.sess[k]?=some s):Aa (Lv ctx (i+23)) 192 [aT pf m k]=some (.tup [oM (Ex m k s).1,iV (Ex m k s).2]):=by
 have qc:=Dz (i+19) pf m hm
 have hsm:=hm.s s (List.mem_of_getElem? hs)
 have qw:=fun p=>VQ (i+17) p false s.writes hsm.w s.label
 have qe:=gX (i+0) pf m hm k 3 0
 simp only [Nat.add_assoc,Nat.reduceAdd] at qc qw qe
 have hk:=Ax hs
 have e1:(0≤(k:Int))=True:=by simp
 have e2:((k:Int)<(m.sess.length:Int))=True:=by simpa using hk
 have e3:(m.sess.map oS)[k]?=some (oS s):=by simp [hs]
 have e4:∀ x y,((m.sess.map oS).set k x).set k y=(m.sess.map oS).set k y:=fun x y=>List.set_set ..
 have e5:∀ x,((m.sess.map oS).set k x)[k]?=some x:=fun x=>List.getElem?_set_self (by simpa using hk)
 simp only [oS] at e3
 cases hw:DY s.writes s.label
 ·have e:Ex m k s=CX m k 3 0:=by unfold Ex;rw [hw];simp only [Bool.false_eq_true,if_false]
  rw [e]
  rw [hw] at qw
  generalize CX m k 3 0=r at qe ⊢
  refine Ac rfl 0 (by rfl) ?_
  delta vS
  simp +contextual -dsimp -implicitDefEqProofs (maxSteps:=5000000) only [Bool.and_self_left,Bool.and_self,go_sem,simprocAttr]
  refine Db rfl 0 ?_
  delta JM
  simp +contextual -dsimp -implicitDefEqProofs (maxSteps:=5000000) only [qw,qe,hs,e1,e2,Bool.and_self_left,Bool.and_self,go_sem,simprocAttr]
 ·rw [hw] at qw
  by_cases hn:s.writes=[]
  ·have e:Ex m k s=(AE m k { s with at_:=0,step:=3 },0):=by unfold Ex;rw [hw];simp only [hn,if_true,Int.toNat_natCast]
   rw [e]
   have z1:decide ((s.writes.length:Int)=0)=true:=by rw [hn];rfl
   simp only [AE,oM,cO,oWs,oSs,oEs,List.map_set,oS]
   refine Ac rfl 0 (by rfl) ?_
   delta vS
   simp +contextual -dsimp -implicitDefEqProofs (maxSteps:=5000000) only [Bool.and_self_left,Bool.and_self,go_sem,simprocAttr]
   refine Db rfl 0 ?_
   delta JM
   simp +contextual -dsimp -implicitDefEqProofs (maxSteps:=5000000) only [qw,qc,hs,e1,e2,e3,e4,e5,z1,List.length_set,hk,Bool.and_self_left,Bool.and_self,go_sem,simprocAttr]
  ·have e:Ex m k s=(AE m k { s with at_:=0,step:=1 },0):=by unfold Ex;rw [hw];simp only [hn,if_true,if_false,Int.toNat_natCast]
   rw [e]
   have z1:decide ((s.writes.length:Int)=0)=false:=by
    have:=List.length_pos_iff.2 hn
    simp;omega
   simp only [AE,oM,cO,oWs,oSs,oEs,List.map_set,oS]
   refine Ac rfl 0 (by rfl) ?_
   delta vS
   simp +contextual -dsimp -implicitDefEqProofs (maxSteps:=5000000) only [Bool.and_self_left,Bool.and_self,go_sem,simprocAttr]
   refine Db rfl 0 ?_
   delta JM
   simp +contextual -dsimp -implicitDefEqProofs (maxSteps:=5000000) only [qw,qc,hs,e1,e2,e3,e4,e5,z1,List.length_set,hk,Bool.and_self_left,Bool.and_self,go_sem,simprocAttr]
theorem a2z (i:Nat) (pf:Bool) (m:Ad) (hm:SmM m) (k:Nat) (s:Ai) (hs:m.sess[k]?=some s) (hM:Bt m) (hS:SP m.words s) (hst:s.step=0):Aa (Lv ctx (i+25)) 163 [aT pf m k]=some (.tup [oM (Fi m k s).1,iV (Fi m k s).2]):=by
 have hk:=Ax hs
 have e1:(0≤(k:Int))=True:=by simp
 have e2:((k:Int)<(m.sess.length:Int))=True:=by simpa using hk
 have hp0:=AL.1 hS.pc
 by_cases hfin:s.pc=(s.prog.length:Int)
 ·have hlen:s.prog[s.pc.toNat]?=none:=by rw [hfin];simp
  have e:Fi m k s=Ex m k s:=by unfold Fi;rw [hlen]
  have q:=qY (i+1) pf m hm k s hs
  rw [e]
  simp only [Nat.add_assoc,Nat.reduceAdd] at q
  generalize Ex m k s=r at q ⊢
  have z1:decide ((s.prog.length:Int)=(s.prog.length:Int))=true:=by simp
  refine Ac rfl 0 (by rfl) ?_
  delta YE
  simp +contextual -dsimp -implicitDefEqProofs (maxSteps:=5000000) only [Bool.and_self_left,Bool.and_self,go_sem,simprocAttr]
  refine Db rfl 0 ?_
  delta JM
  simp +contextual -dsimp -implicitDefEqProofs (maxSteps:=5000000) only [q,hs,e1,e2,hfin,z1,Bool.and_self_left,Bool.and_self,go_sem,simprocAttr]
 ·obtain ⟨n,hp⟩:∃ n:Nat,s.pc=(n:Int):=⟨s.pc.toNat,by omega⟩
  have hn:n<s.prog.length:=by omega
  obtain ⟨x,hi⟩:∃ x,s.prog[n]?=some x:=⟨_,List.getElem?_eq_getElem hn⟩
  obtain ⟨hin,_,_⟩:=Dk hS hi
  have p1:(0≤(n:Int))=True:=by simp
  have p2:((n:Int)<(s.prog.length:Int))=True:=by simpa using hn
  have z1:decide ((n:Int)=(s.prog.length:Int))=false:=by simp;omega
  have e:Fi m k s=if x.code=2 then (if (Co m k).1=true then BI m k else Cp m k) else if x.code=3 then CH m k else if x.code=5 then Cx m k else if x.code=6 then CX m k 2 x.a else CA m k:=by
   unfold Fi;rw [hp,Int.toNat_natCast,hi]
  have q2:=qX (i+0) pf m hm k
  have q3:=qL (i+2) pf m hm k
  have q5:=gD (i+2) pf m hm k
  have q6:=gX (i+2) pf m hm k 2 x.a
  have q0:=a2w (i+2) pf m hm k
  rw [e]
  simp only [Nat.add_assoc,Nat.reduceAdd] at q0 q2 q3 q5 q6
  by_cases c2:x.code=2
  ·simp only [c2,if_true]
   generalize (if (Co m k).1=true then BI m k else Cp m k)=r at q2 ⊢
   refine Ac rfl 0 (by rfl) ?_
   delta YE
   simp +contextual -dsimp -implicitDefEqProofs (maxSteps:=5000000) only [Bool.and_self_left,Bool.and_self,go_sem,simprocAttr]
   refine Db rfl 0 ?_
   delta JM
   simp +contextual -dsimp -implicitDefEqProofs (maxSteps:=5000000) only [q2,hs,e1,e2,hp,p1,p2,hi,z1,c2,Bool.and_self_left,Bool.and_self,go_sem,simprocAttr]
  ·have d2:decide (x.code=2)=false:=by simpa using c2
   by_cases c3:x.code=3
   ·simp only [c3,if_true,show ((3:Int)=2)=False by decide,if_false]
    generalize CH m k=r at q3 ⊢
    refine Ac rfl 0 (by rfl) ?_
    delta YE
    simp +contextual -dsimp -implicitDefEqProofs (maxSteps:=5000000) only [Bool.and_self_left,Bool.and_self,go_sem,simprocAttr]
    refine Db rfl 0 ?_
    delta JM
    simp +contextual -dsimp -implicitDefEqProofs (maxSteps:=5000000) only [q3,hs,e1,e2,hp,p1,p2,hi,z1,c3,Bool.and_self_left,Bool.and_self,go_sem,simprocAttr]
   ·have d3:decide (x.code=3)=false:=by simpa using c3
    by_cases c5:x.code=5
    ·simp only [c5,if_true,show ((5:Int)=2)=False by decide,show ((5:Int)=3)=False by decide,if_false]
     generalize Cx m k=r at q5 ⊢
     refine Ac rfl 0 (by rfl) ?_
     delta YE
     simp +contextual -dsimp -implicitDefEqProofs (maxSteps:=5000000) only [Bool.and_self_left,Bool.and_self,go_sem,simprocAttr]
     refine Db rfl 0 ?_
     delta JM
     simp +contextual -dsimp -implicitDefEqProofs (maxSteps:=5000000) only [q5,hs,e1,e2,hp,p1,p2,hi,z1,c5,Bool.and_self_left,Bool.and_self,go_sem,simprocAttr]
    ·have d5:decide (x.code=5)=false:=by simpa using c5
     by_cases c6:x.code=6
     ·simp only [c6,if_true,show ((6:Int)=2)=False by decide,show ((6:Int)=3)=False by decide,show ((6:Int)=5)=False by decide,if_false]
      generalize CX m k 2 x.a=r at q6 ⊢
      refine Ac rfl 0 (by rfl) ?_
      delta YE
      simp +contextual -dsimp -implicitDefEqProofs (maxSteps:=5000000) only [Bool.and_self_left,Bool.and_self,go_sem,simprocAttr]
      refine Db rfl 0 ?_
      delta JM
      simp +contextual -dsimp -implicitDefEqProofs (maxSteps:=5000000) only [q6,hs,e1,e2,hp,p1,p2,hi,z1,c6,Bool.and_self_left,Bool.and_self,go_sem,simprocAttr]
     ·have d6:decide (x.code=6)=false:=by simpa using c6
      simp only [c2,c3,c5,c6,if_false]
      generalize CA m k=r at q0 ⊢
      refine Ac rfl 0 (by rfl) ?_
      delta YE
      simp +contextual -dsimp -implicitDefEqProofs (maxSteps:=5000000) only [Bool.and_self_left,Bool.and_self,go_sem,simprocAttr]
      refine Db rfl 0 ?_
      delta JM
      simp +contextual -dsimp -implicitDefEqProofs (maxSteps:=5000000) only [q0,hs,e1,e2,hp,p1,p2,hi,z1,d2,d3,d5,d6,Bool.and_self_left,Bool.and_self,go_sem,simprocAttr]
theorem qW (i:Nat) (pf:Bool) (m:Ad) (hm:SmM m) (k:Nat) (s:Ai) (hs:m.sess[k]?=some s) (hM:Bt m) (hS:SP m.words s):Aa (Lv ctx (i+26)) 115 [aT pf m k]=some (.tup [oM (Br m k s).1,iV (Br m k s).2]):=by
 have hk:=Ax hs
 have e1:(0≤(k:Int))=True:=by simp
 have e2:((k:Int)<(m.sess.length:Int))=True:=by simpa using hk
 have hst:=AL.1 hS.step
 have q1:=a2t (i+3) pf m hm k
 have q2:=qM (i+3) pf m hm k
 have q3:=qV (i+3) pf m hm k
 have q4:=a2x (i+3) pf m hm k
 have q5:=gD (i+3) pf m hm k
 have qc:=Dz (i+22) pf m hm
 simp only [Nat.add_assoc,Nat.reduceAdd] at q1 q2 q3 q4 q5 qc
 unfold Br
 obtain h0 | h0 | h0 | h0 | h0 | h0 | h0:s.step=0∨s.step=1∨s.step=2∨s.step=3∨s.step=4∨s.step=5∨s.step=6:=by omega
 all_goals simp only [h0,if_true,if_false,show ((1:Int)=0)=False by decide,show ((2:Int)=0)=False by decide,show ((2:Int)=1)=False by decide,show ((3:Int)=0)=False by decide,show ((3:Int)=1)=False by decide,show ((3:Int)=2)=False by decide,show ((4:Int)=0)=False by decide,show ((4:Int)=1)=False by decide,show ((4:Int)=2)=False by decide,show ((4:Int)=3)=False by decide,show ((5:Int)=0)=False by decide,show ((5:Int)=1)=False by decide,show ((5:Int)=2)=False by decide,show ((5:Int)=3)=False by decide,show ((5:Int)=4)=False by decide,show ((6:Int)=0)=False by decide,show ((6:Int)=1)=False by decide,show ((6:Int)=2)=False by decide,show ((6:Int)=3)=False by decide,show ((6:Int)=4)=False by decide,show ((6:Int)=5)=False by decide]
 ·have q0:=a2z (i+0) pf m hm k s hs hM hS h0
  simp only [Nat.add_assoc,Nat.reduceAdd] at q0
  generalize Fi m k s=r at q0 ⊢
  refine Ac rfl 0 (by rfl) ?_
  delta Vm
  simp +contextual -dsimp -implicitDefEqProofs (maxSteps:=5000000) only [Bool.and_self_left,Bool.and_self,go_sem,simprocAttr]
  refine Db rfl 0 ?_
  delta JM
  simp +contextual -dsimp -implicitDefEqProofs (maxSteps:=5000000) only [q0,hs,e1,e2,h0,Bool.and_self_left,Bool.and_self,go_sem,simprocAttr]
 ·generalize Ed m k=r at q1 ⊢
  refine Ac rfl 0 (by rfl) ?_
  delta Vm
  simp +contextual -dsimp -implicitDefEqProofs (maxSteps:=5000000) only [Bool.and_self_left,Bool.and_self,go_sem,simprocAttr]
  refine Db rfl 0 ?_
  delta JM
  simp +contextual -dsimp -implicitDefEqProofs (maxSteps:=5000000) only [q1,hs,e1,e2,h0,Bool.and_self_left,Bool.and_self,go_sem,simprocAttr]
 ·generalize Do m k=r at q2 ⊢
  refine Ac rfl 0 (by rfl) ?_
  delta Vm
  simp +contextual -dsimp -implicitDefEqProofs (maxSteps:=5000000) only [Bool.and_self_left,Bool.and_self,go_sem,simprocAttr]
  refine Db rfl 0 ?_
  delta JM
  simp +contextual -dsimp -implicitDefEqProofs (maxSteps:=5000000) only [q2,hs,e1,e2,h0,Bool.and_self_left,Bool.and_self,go_sem,simprocAttr]
 ·generalize Dr m k=r at q3 ⊢
  refine Ac rfl 0 (by rfl) ?_
  delta Vm
  simp +contextual -dsimp -implicitDefEqProofs (maxSteps:=5000000) only [Bool.and_self_left,Bool.and_self,go_sem,simprocAttr]
  refine Db rfl 0 ?_
  delta JM
  simp +contextual -dsimp -implicitDefEqProofs (maxSteps:=5000000) only [q3,hs,e1,e2,h0,Bool.and_self_left,Bool.and_self,go_sem,simprocAttr]
 ·generalize Ei m k=r at q4 ⊢
  refine Ac rfl 0 (by rfl) ?_
  delta Vm
  simp +contextual -dsimp -implicitDefEqProofs (maxSteps:=5000000) only [Bool.and_self_left,Bool.and_self,go_sem,simprocAttr]
  refine Db rfl 0 ?_
  delta JM
  simp +contextual -dsimp -implicitDefEqProofs (maxSteps:=5000000) only [q4,hs,e1,e2,h0,Bool.and_self_left,Bool.and_self,go_sem,simprocAttr]
 ·generalize Cx m k=r at q5 ⊢
  refine Ac rfl 0 (by rfl) ?_
  delta Vm
  simp +contextual -dsimp -implicitDefEqProofs (maxSteps:=5000000) only [Bool.and_self_left,Bool.and_self,go_sem,simprocAttr]
  refine Db rfl 0 ?_
  delta JM
  simp +contextual -dsimp -implicitDefEqProofs (maxSteps:=5000000) only [q5,hs,e1,e2,h0,Bool.and_self_left,Bool.and_self,go_sem,simprocAttr]
 ·refine Ac rfl 0 (by rfl) ?_
  delta Vm
  simp +contextual -dsimp -implicitDefEqProofs (maxSteps:=5000000) only [Bool.and_self_left,Bool.and_self,go_sem,simprocAttr]
  refine Db rfl 0 ?_
  delta JM
  simp +contextual -dsimp -implicitDefEqProofs (maxSteps:=5000000) only [qc,hs,e1,e2,h0,Bool.and_self_left,Bool.and_self,go_sem,simprocAttr]
theorem VR (i:Nat) (pf:Bool) (m:Ad) (hm:SmM m) (at_:Int):Aa (Lv ctx (i+27)) 77 [eM pf m,iV at_]=some (.tup [oM (Cm m at_).1,iV (Cm m at_).2]):=by
 have qh:=HT (i+6) pf pf m at_ hm
 simp only [Nat.add_assoc,Nat.reduceAdd] at qh
 rcases FK m at_ with h | ⟨k,s,rfl,hs,hM,hS⟩
 ·rw [Qb h,Ay]
  rw [h] at qh
  refine Ac rfl 0 (by rfl) ?_
  delta c77
  simp +contextual -dsimp -implicitDefEqProofs (maxSteps:=5000000) only [qh,Bool.and_self_left,Bool.and_self,go_sem,simprocAttr]
 ·have hh:=Bs hs hM
  have q:=qW (i+0) pf m hm k s hs hM hS
  rw [hh] at qh
  simp only [Nat.add_assoc,Nat.reduceAdd] at q
  by_cases h0:(Br m k s).2=0
  ·rw [RF hs hM h0]
   generalize Br m k s=A at q h0 ⊢
   have z1:decide (A.2=0)=true:=by simpa using h0
   refine Ac rfl 0 (by rfl) ?_
   delta c77
   simp +contextual -dsimp -implicitDefEqProofs (maxSteps:=5000000) only [qh,q,z1,Bool.and_self_left,Bool.and_self,go_sem,simprocAttr]
  ·rw [Tj hs hM h0,Ay]
   generalize Br m k s=A at q h0 ⊢
   have z1:decide (A.2=0)=false:=by simpa using h0
   refine Ac rfl 0 (by rfl) ?_
   delta c77
   simp +contextual -dsimp -implicitDefEqProofs (maxSteps:=5000000) only [qh,q,z1,Bool.and_self_left,Bool.and_self,go_sem,simprocAttr]
end Ve
namespace Ve
open Go Ve.Ab
set_option maxHeartbeats 16000000
set_option maxRecDepth 10000
abbrev nV (n:Nat):V:=iV (n:Int)
theorem Qf (i:Nat) (a b:Int):Aa (Lv ctx (i+2)) 58 [.agg [iV a,iV b]]=some (bV (AP ⟨a,b⟩)):=by
 have e:AP ⟨a,b⟩=(inR a 3&&(decide (0≤b)&&decide (b≤255))):=rfl
 rw [e]
 cases h:inR a 3<;>cases h2:decide (0≤b)
 all_goals
  refine Ac rfl 0 (by rfl) ?_
  delta c58
  simp +contextual -dsimp -implicitDefEqProofs (maxSteps:=5000000) only [h,h2,go_sem,simprocAttr]
theorem Wx (i k:Nat) (pf:Bool) (m:Ad) (lv pk:Int) (hx:(m.sess.length:Int)*8≤140737488355328) (q:Out→St→Option Ans) (Q:V→Hp→Nat→Prop) (u:Dum (fun s q=>evC ctx (Lv ctx (i+19)) (Aa (Lv ctx (i+19))) k Ij s (Al [3,7,19,20,21] q))) (w:Dum q)
  (hend:∀ acc,acc=BR lv 0 m.sess→Fin (q (.exit 0) ⟨Ae [3,7] [.ip true [iV lv,iV pk] 0,.sl 0],pO Af 0 (some ⟨1,acc.map nV,false⟩),1⟩) Q) :
  ∀ (suf pre:List Ai) (kk:Nat) (acc:List Nat),m.sess=pre++suf→suf.length<kk→acc≠[]→acc.length≤pre.length→acc++BR lv pre.length suf=BR lv 0 m.sess →
  GL 0 [3,7,19,20,21] (fun s q=>evC ctx (Lv ctx (i+19)) (Aa (Lv ctx (i+19))) k Ij s (Al [3,7,19,20,21] q)) q kk ⟨Ae [3,7,19,20,21] [.ip true [iV lv,iV pk] 0,.sl 0,.isl pf false 17 (m.sess.map (eS pf)),iV m.sess.length,iV pre.length],pO Af 0 (some ⟨1,acc.map nV,false⟩),1⟩ Q u w
 | [],pre,kk,acc,hxs,hk,hne,hal,hacc=>by
  obtain ⟨kk,rfl⟩:∃ m,kk=m+1:=⟨kk - 1,by simp at hk;omega⟩
  have h1:decide ((pre.length:Int)<m.sess.length)=false:=by simp [hxs]
  have he:=hend acc (by simpa [BR] using hacc)
  simp +contextual -dsimp -implicitDefEqProofs (maxSteps:=5000000) only [gLs,↓Ah (Ij.eq_1),h1,go_sem,simprocAttr]
  exact he
 | a::suf,pre,kk,acc,hxs,hk,hne,hal,hacc=>by
  obtain ⟨kk,rfl⟩:∃ m,kk=m+1:=⟨kk - 1,by simp at hk;omega⟩
  have hl:pre.length<m.sess.length:=by simp [hxs]
  have h2:((pre.length:Int)<m.sess.length)=True:=by simpa using hl
  have h3:(0≤(pre.length:Int))=True:=by simp
  have h4:=wrN pre.length (by simp only [BB];omega)
  have hg:m.sess[pre.length]?=some a:=by simp [hxs]
  have h5:(((acc.length+1:Nat):Int)*8≤140737488355328)=True:=by rw [eq_iff_iff,iff_true];omega
  have htu:EZ lv a=(decide (a.label=lv)&&!decide (a.step=6)):=rfl
  cases ht:EZ lv a
  ·have ih:=Wx i k pf m lv pk hx q Q u w hend suf (pre++[a]) kk acc (by simp [hxs]) (by simpa using hk) hne (by simp;omega) (by rw [← hacc];simp [BR,ht])
   simp only [Ag] at ih
   rw [ht] at htu
   cases c1:decide (a.label=lv)
   ·cases pf
    all_goals
     simp +contextual -dsimp -implicitDefEqProofs (maxSteps:=5000000) only [gLs,↓Ah (Ij.eq_1),h2,h3,h4,hg,c1,eS,go_sem,simprocAttr]
     exact (AA (by rfl)).mpr ih
   ·have c2:decide (a.step=6)=true:=by rw [c1] at htu;simpa using htu.symm
    cases pf
    all_goals
     simp +contextual -dsimp -implicitDefEqProofs (maxSteps:=5000000) only [gLs,↓Ah (Ij.eq_1),h2,h3,h4,hg,c1,c2,eS,go_sem,simprocAttr]
     exact (AA (by rfl)).mpr ih
  ·have ih:=Wx i k pf m lv pk hx q Q u w hend suf (pre++[a]) kk (acc++[pre.length]) (by simp [hxs]) (by simpa using hk) (by simp) (by simp;omega) (by rw [← hacc];simp [BR,ht])
   simp only [Ag,List.map_append,List.map_cons,List.map_nil] at ih
   rw [ht] at htu
   have c12:=htu.symm
   simp only [Bool.and_eq_true,Bool.not_eq_true'] at c12
   obtain ⟨c1,c2⟩:=c12
   cases pf
   all_goals
    simp +contextual -dsimp -implicitDefEqProofs (maxSteps:=5000000) only [gLs,↓Ah (Ij.eq_1),h2,h3,h4,h5,hg,c1,c2,eS,go_sem,simprocAttr]
    exact (AA (by rfl)).mpr ih
theorem kW (i k:Nat) (pf:Bool) (m:Ad) (lv pk:Int) (hx:(m.sess.length:Int)*8≤140737488355328) (q:Out→St→Option Ans) (Q:V→Hp→Nat→Prop) (u:Dum (fun s q=>evC ctx (Lv ctx (i+19)) (Aa (Lv ctx (i+19))) k Ij s (Al [3,7,19,20,21] q))) (w:Dum q)
  (hend:∀ acc,acc=BR lv 0 m.sess→acc≠[]→Fin (q (.exit 0) ⟨Ae [3,7] [.ip true [iV lv,iV pk] 0,.sl 0],pO Af 0 (some ⟨1,acc.map nV,false⟩),1⟩) Q) (hnil:BR lv 0 m.sess=[]→Fin (q (.exit 0) ⟨Ae [3,7] [.ip true [iV lv,iV pk] 0,.lit (.slice none 0 0)],Af,0⟩) Q) :
  ∀ (suf pre:List Ai) (kk:Nat),m.sess=pre++suf→suf.length<kk→BR lv pre.length suf=BR lv 0 m.sess →
  GL 0 [3,7,19,20,21] (fun s q=>evC ctx (Lv ctx (i+19)) (Aa (Lv ctx (i+19))) k Ij s (Al [3,7,19,20,21] q)) q kk ⟨Ae [3,7,19,20,21] [.ip true [iV lv,iV pk] 0,.lit (.slice none 0 0),.isl pf false 17 (m.sess.map (eS pf)),iV m.sess.length,iV pre.length],Af,0⟩ Q u w
 | [],pre,kk,hxs,hk,hacc=>by
  obtain ⟨kk,rfl⟩:∃ m,kk=m+1:=⟨kk - 1,by simp at hk;omega⟩
  have h1:decide ((pre.length:Int)<m.sess.length)=false:=by simp [hxs]
  have he:=hnil (by rw [← hacc];rfl)
  simp +contextual -dsimp -implicitDefEqProofs (maxSteps:=5000000) only [gLs,↓Ah (Ij.eq_1),h1,go_sem,simprocAttr]
  exact he
 | a::suf,pre,kk,hxs,hk,hacc=>by
  obtain ⟨kk,rfl⟩:∃ m,kk=m+1:=⟨kk - 1,by simp at hk;omega⟩
  have hl:pre.length<m.sess.length:=by simp [hxs]
  have h2:((pre.length:Int)<m.sess.length)=True:=by simpa using hl
  have h3:(0≤(pre.length:Int))=True:=by simp
  have h4:=wrN pre.length (by simp only [BB];omega)
  have hg:m.sess[pre.length]?=some a:=by simp [hxs]
  have htu:EZ lv a=(decide (a.label=lv)&&!decide (a.step=6)):=rfl
  cases ht:EZ lv a
  ·have ih:=kW i k pf m lv pk hx q Q u w hend hnil suf (pre++[a]) kk (by simp [hxs]) (by simpa using hk) (by rw [← hacc];simp [BR,ht])
   simp only [Ag] at ih
   rw [ht] at htu
   cases c1:decide (a.label=lv)
   ·cases pf
    all_goals
     simp +contextual -dsimp -implicitDefEqProofs (maxSteps:=5000000) only [gLs,↓Ah (Ij.eq_1),h2,h3,h4,hg,c1,eS,go_sem,simprocAttr]
     exact (AA (by rfl)).mpr ih
   ·have c2:decide (a.step=6)=true:=by rw [c1] at htu;simpa using htu.symm
    cases pf
    all_goals
     simp +contextual -dsimp -implicitDefEqProofs (maxSteps:=5000000) only [gLs,↓Ah (Ij.eq_1),h2,h3,h4,hg,c1,c2,eS,go_sem,simprocAttr]
     exact (AA (by rfl)).mpr ih
  ·have hac:[pre.length]++BR lv (pre++[a]).length suf=BR lv 0 m.sess:=by rw [← hacc];simp [BR,ht]
   have ih:=Wx i k pf m lv pk hx q Q u w (fun acc h=>hend acc h (by rw [h,← hac];simp)) suf (pre++[a]) kk [pre.length] (by simp [hxs]) (by simpa using hk) (by simp) (by simp) hac
   simp only [Ag,List.map_cons,List.map_nil] at ih
   rw [ht] at htu
   have c12:=htu.symm
   simp only [Bool.and_eq_true,Bool.not_eq_true'] at c12
   obtain ⟨c1,c2⟩:=c12
   cases pf
   all_goals
    simp +contextual -dsimp -implicitDefEqProofs (maxSteps:=5000000) only [gLs,↓Ah (Ij.eq_1),h2,h3,h4,hg,c1,c2,eS,List.replicate,go_sem,simprocAttr]
    exact (AA (by rfl)).mpr ih
theorem a8l (i:Nat) (pf:Bool) (m:Ad) (hm:SmM m) (lv pk:Int):Aa (Lv ctx (i+20)) 76 [eM pf m,.agg [iV lv,iV pk]]=some (.tup [iV (CM m ⟨lv,pk⟩).1,bV (CM m ⟨lv,pk⟩).2.1,iV (CM m ⟨lv,pk⟩).2.2]):=by
 have q1:=Zc (i+0) pf m hm
 have q2:=Qf (i+17) lv pk
 simp only [Nat.add_assoc,Nat.reduceAdd] at q1 q2
 cases h1:CN m
 ·have e:CM m ⟨lv,pk⟩=(0,false,2400):=by unfold CM;rw [h1];rfl
  rw [e]
  rw [h1] at q1
  refine Ac rfl 0 (by rfl) ?_
  delta c76
  cases pf<;>simp +contextual -dsimp -implicitDefEqProofs (maxSteps:=5000000) only [q1,go_sem,simprocAttr]
 ·rw [h1] at q1
  cases h2:AP ⟨lv,pk⟩
  ·have e:CM m ⟨lv,pk⟩=(0,false,2400):=by unfold CM;rw [h1,h2];rfl
   rw [e]
   rw [h2] at q2
   refine Ac rfl 0 (by rfl) ?_
   delta c76
   cases pf<;>simp +contextual -dsimp -implicitDefEqProofs (maxSteps:=5000000) only [q1,q2,go_sem,simprocAttr]
  ·rw [h2] at q2
   have hpk:inR pk 255=true:=by simp only [AP,Bool.and_eq_true] at h2;exact h2.2
   rw [AL] at hpk
   obtain ⟨p,rfl⟩:∃ p:Nat,pk=(p:Int):=⟨pk.toNat,by omega⟩
   have e:CM m ⟨lv,p⟩=match (BR lv 0 m.sess)[p % (BR lv 0 m.sess).length]? with
    | some k=>((k:Nat),true,0)
    | none=>(0,false,0):=by unfold CM IM;rw [h1,h2];simp only [Bool.and_self,if_true,Int.toNat_natCast];rfl
   rw [e]
   have hx:(m.sess.length:Int)*8≤140737488355328:=by have:=hm.bs;omega
   refine Ac rfl (m.sess.length+1) (by rfl) ?_
   delta c76
   cases pf
   all_goals
    simp +contextual -dsimp -implicitDefEqProofs (maxSteps:=5000000) only [q1,q2,go_sem,simprocAttr]
    refine kW i _ _ m lv p hx _ _ _ _ ?ha ?hb m.sess [] _ (by simp) (by omega) rfl
    case hb =>
     intro hn
     rw [hn]
     simp +contextual -dsimp -implicitDefEqProofs (maxSteps:=5000000) only [List.getElem?_nil,go_sem,simprocAttr]
    case ha =>
     intro acc hacc hne
     rw [← hacc]
     have hpos:0<acc.length:=List.length_pos_iff.2 hne
     have hmod:p % acc.length<acc.length:=Nat.mod_lt _ hpos
     obtain ⟨r,hr⟩:∃ r,acc[p % acc.length]?=some r:=⟨_,List.getElem?_eq_getElem hmod⟩
     have hrem:BO lay .rem 3 (iV (p:Int)) (iV (acc.length:Int))=some (iV ((p % acc.length:Nat):Int)):=by
      rw [Kk (by omega),Int.tmod_eq_emod_of_nonneg (by omega)];rfl
     rw [hr]
     generalize p % acc.length=j at hmod hr hrem
     have z1:decide ((acc.length:Int)=0)=false:=by simp;omega
     have l1:(0≤(j:Int))=True:=by simp
     have l2:((j:Int)<(acc.length:Int))=True:=by simpa using hmod
     simp +contextual -dsimp -implicitDefEqProofs (maxSteps:=5000000) only [z1,hrem,l1,l2,hr,List.length_map,go_sem,simprocAttr]
theorem gA (i:Nat) (pf:Bool) (m:Ad) (hm:SmM m) (lv pk:Int):Aa (Lv ctx (i+28)) 34 [eM pf m,.agg [iV lv,iV pk]]=some (.tup [oM (Bl m ⟨lv,pk⟩).1,iV (Bl m ⟨lv,pk⟩).2]):=by
 have q1:=a8l (i+7) pf m hm lv pk
 have qc:=Dz (i+24) pf m hm
 have qs:=fun a=>VR (i+0) pf m hm a
 simp only [Nat.add_assoc,Nat.reduceAdd] at q1 qc qs
 have e:Bl m ⟨lv,pk⟩=if (CM m ⟨lv,pk⟩).2.2=0 then (if (CM m ⟨lv,pk⟩).2.1=true then (if (Cm m (CM m ⟨lv,pk⟩).1).2=0 then ((Cm m (CM m ⟨lv,pk⟩).1).1,0) else (Az,2400)) else (m,0)) else (Az,2400):=rfl
 rw [e]
 generalize CM m ⟨lv,pk⟩=W at q1 ⊢
 obtain ⟨a,is,er⟩:=W
 simp only at q1 ⊢
 by_cases h0:er=0
 ·have z0:decide (er=0)=true:=by simpa using h0
  rw [if_pos h0]
  cases is
  ·simp only [Bool.false_eq_true,if_false]
   refine Ac rfl 0 (by rfl) ?_
   delta c34
   cases pf<;>simp +contextual -dsimp -implicitDefEqProofs (maxSteps:=5000000) only [q1,qc,z0,go_sem,simprocAttr]
  ·simp only [if_true]
   have q2:=qs a
   generalize Cm m a=A at q2 ⊢
   by_cases h1:A.2=0
   ·have z1:decide (A.2=0)=true:=by simpa using h1
    rw [if_pos h1]
    refine Ac rfl 0 (by rfl) ?_
    delta c34
    cases pf<;>simp +contextual -dsimp -implicitDefEqProofs (maxSteps:=5000000) only [q1,q2,z0,z1,go_sem,simprocAttr]
   ·have z1:decide (A.2=0)=false:=by simpa using h1
    rw [if_neg h1,Ay]
    refine Ac rfl 0 (by rfl) ?_
    delta c34
    cases pf<;>simp +contextual -dsimp -implicitDefEqProofs (maxSteps:=5000000) only [q1,q2,z0,z1,go_sem,simprocAttr]
 ·have z0:decide (er=0)=false:=by simpa using h0
  rw [if_neg h0,Ay]
  refine Ac rfl 0 (by rfl) ?_
  delta c34
  cases pf<;>simp +contextual -dsimp -implicitDefEqProofs (maxSteps:=5000000) only [q1,z0,go_sem,simprocAttr]
theorem bR (i:Nat) (a b:Int):Aa (Lv ctx (i+3)) 60 [.agg [iV a,iV b]]=some (bV (AP ⟨a,b⟩)):=by
 have e:AP ⟨a,b⟩=(inR a 3&&(decide (0≤b)&&decide (b≤255))):=rfl
 rw [e]
 cases h:inR a 3<;>cases h2:decide (0≤b)
 all_goals
  refine Ac rfl 0 (by rfl) ?_
  delta c60
  simp +contextual -dsimp -implicitDefEqProofs (maxSteps:=5000000) only [h,h2,go_sem,simprocAttr]
theorem Sm (i k:Nat) (pf:Bool) (m:Ad) (lv pk:Int) (hx:(m.sess.length:Int)*8≤140737488355328) (q:Out→St→Option Ans) (Q:V→Hp→Nat→Prop) (u:Dum (fun s q=>evC ctx (Lv ctx (i+7)) (Aa (Lv ctx (i+7))) k Ik s (Al [2,3,7,8] q))) (w:Dum q)
  (hend:∀ acc,acc=BR lv 0 m.sess→Fin (q (.exit 0) ⟨Ae [3,7] [.ip true [iV lv,iV pk] 0,.sl 0],pO Af 0 (some ⟨1,acc.map nV,false⟩),1⟩) Q) :
  ∀ (suf pre:List Ai) (kk:Nat) (acc:List Nat),m.sess=pre++suf→suf.length<kk→acc≠[]→acc.length≤pre.length→acc++BR lv pre.length suf=BR lv 0 m.sess →
  GL 0 [2,3,7,8] (fun s q=>evC ctx (Lv ctx (i+7)) (Aa (Lv ctx (i+7))) k Ik s (Al [2,3,7,8] q)) q kk ⟨Ae [2,3,7,8] [.ip pf (cM pf m) 0,.ip true [iV lv,iV pk] 0,.sl 0,iV pre.length],pO Af 0 (some ⟨1,acc.map nV,false⟩),1⟩ Q u w
 | [],pre,kk,acc,hxs,hk,hne,hal,hacc=>by
  obtain ⟨kk,rfl⟩:∃ m,kk=m+1:=⟨kk - 1,by simp at hk;omega⟩
  have h1:decide ((pre.length:Int)<m.sess.length)=false:=by simp [hxs]
  have he:=hend acc (by simpa [BR] using hacc)
  simp +contextual -dsimp -implicitDefEqProofs (maxSteps:=5000000) only [gLs,↓Ah (Ik.eq_1),h1,go_sem,simprocAttr]
  exact he
 | a::suf,pre,kk,acc,hxs,hk,hne,hal,hacc=>by
  obtain ⟨kk,rfl⟩:∃ m,kk=m+1:=⟨kk - 1,by simp at hk;omega⟩
  have hl:pre.length<m.sess.length:=by simp [hxs]
  have h2:((pre.length:Int)<m.sess.length)=True:=by simpa using hl
  have h3:(0≤(pre.length:Int))=True:=by simp
  have h4:=wrN pre.length (by simp only [BB];omega)
  have hg:m.sess[pre.length]?=some a:=by simp [hxs]
  have h5:(((acc.length+1:Nat):Int)*8≤140737488355328)=True:=by rw [eq_iff_iff,iff_true];omega
  have htu:EZ lv a=(decide (a.label=lv)&&!decide (a.step=6)):=rfl
  cases ht:EZ lv a
  ·have ih:=Sm i k pf m lv pk hx q Q u w hend suf (pre++[a]) kk acc (by simp [hxs]) (by simpa using hk) hne (by simp;omega) (by rw [← hacc];simp [BR,ht])
   simp only [Ag] at ih
   rw [ht] at htu
   cases c1:decide (a.label=lv)
   ·cases pf
    all_goals
     simp +contextual -dsimp -implicitDefEqProofs (maxSteps:=5000000) only [gLs,↓Ah (Ik.eq_1),h2,h3,h4,hg,c1,eS,go_sem,simprocAttr]
     exact (AA (by rfl)).mpr ih
   ·have c2:decide (a.step=6)=true:=by rw [c1] at htu;simpa using htu.symm
    cases pf
    all_goals
     simp +contextual -dsimp -implicitDefEqProofs (maxSteps:=5000000) only [gLs,↓Ah (Ik.eq_1),h2,h3,h4,hg,c1,c2,eS,go_sem,simprocAttr]
     exact (AA (by rfl)).mpr ih
  ·have ih:=Sm i k pf m lv pk hx q Q u w hend suf (pre++[a]) kk (acc++[pre.length]) (by simp [hxs]) (by simpa using hk) (by simp) (by simp;omega) (by rw [← hacc];simp [BR,ht])
   simp only [Ag,List.map_append,List.map_cons,List.map_nil] at ih
   rw [ht] at htu
   have c12:=htu.symm
   simp only [Bool.and_eq_true,Bool.not_eq_true'] at c12
   obtain ⟨c1,c2⟩:=c12
   cases pf
   all_goals
    simp +contextual -dsimp -implicitDefEqProofs (maxSteps:=5000000) only [gLs,↓Ah (Ik.eq_1),h2,h3,h4,h5,hg,c1,c2,eS,go_sem,simprocAttr]
    exact (AA (by rfl)).mpr ih
theorem ZK (i k:Nat) (pf:Bool) (m:Ad) (lv pk:Int) (hx:(m.sess.length:Int)*8≤140737488355328) (q:Out→St→Option Ans) (Q:V→Hp→Nat→Prop) (u:Dum (fun s q=>evC ctx (Lv ctx (i+7)) (Aa (Lv ctx (i+7))) k Ik s (Al [2,3,7,8] q))) (w:Dum q)
  (hend:∀ acc,acc=BR lv 0 m.sess→acc≠[]→Fin (q (.exit 0) ⟨Ae [3,7] [.ip true [iV lv,iV pk] 0,.sl 0],pO Af 0 (some ⟨1,acc.map nV,false⟩),1⟩) Q) (hnil:BR lv 0 m.sess=[]→Fin (q (.exit 0) ⟨Ae [3,7] [.ip true [iV lv,iV pk] 0,.lit (.slice none 0 0)],Af,0⟩) Q) :
  ∀ (suf pre:List Ai) (kk:Nat),m.sess=pre++suf→suf.length<kk→BR lv pre.length suf=BR lv 0 m.sess →
  GL 0 [2,3,7,8] (fun s q=>evC ctx (Lv ctx (i+7)) (Aa (Lv ctx (i+7))) k Ik s (Al [2,3,7,8] q)) q kk ⟨Ae [2,3,7,8] [.ip pf (cM pf m) 0,.ip true [iV lv,iV pk] 0,.lit (.slice none 0 0),iV pre.length],Af,0⟩ Q u w
 | [],pre,kk,hxs,hk,hacc=>by
  obtain ⟨kk,rfl⟩:∃ m,kk=m+1:=⟨kk - 1,by simp at hk;omega⟩
  have h1:decide ((pre.length:Int)<m.sess.length)=false:=by simp [hxs]
  have he:=hnil (by rw [← hacc];rfl)
  simp +contextual -dsimp -implicitDefEqProofs (maxSteps:=5000000) only [gLs,↓Ah (Ik.eq_1),h1,go_sem,simprocAttr]
  exact he
 | a::suf,pre,kk,hxs,hk,hacc=>by
  obtain ⟨kk,rfl⟩:∃ m,kk=m+1:=⟨kk - 1,by simp at hk;omega⟩
  have hl:pre.length<m.sess.length:=by simp [hxs]
  have h2:((pre.length:Int)<m.sess.length)=True:=by simpa using hl
  have h3:(0≤(pre.length:Int))=True:=by simp
  have h4:=wrN pre.length (by simp only [BB];omega)
  have hg:m.sess[pre.length]?=some a:=by simp [hxs]
  have htu:EZ lv a=(decide (a.label=lv)&&!decide (a.step=6)):=rfl
  cases ht:EZ lv a
  ·have ih:=ZK i k pf m lv pk hx q Q u w hend hnil suf (pre++[a]) kk (by simp [hxs]) (by simpa using hk) (by rw [← hacc];simp [BR,ht])
   simp only [Ag] at ih
   rw [ht] at htu
   cases c1:decide (a.label=lv)
   ·cases pf
    all_goals
     simp +contextual -dsimp -implicitDefEqProofs (maxSteps:=5000000) only [gLs,↓Ah (Ik.eq_1),h2,h3,h4,hg,c1,eS,go_sem,simprocAttr]
     exact (AA (by rfl)).mpr ih
   ·have c2:decide (a.step=6)=true:=by rw [c1] at htu;simpa using htu.symm
    cases pf
    all_goals
     simp +contextual -dsimp -implicitDefEqProofs (maxSteps:=5000000) only [gLs,↓Ah (Ik.eq_1),h2,h3,h4,hg,c1,c2,eS,go_sem,simprocAttr]
     exact (AA (by rfl)).mpr ih
  ·have hac:[pre.length]++BR lv (pre++[a]).length suf=BR lv 0 m.sess:=by rw [← hacc];simp [BR,ht]
   have ih:=Sm i k pf m lv pk hx q Q u w (fun acc h=>hend acc h (by rw [h,← hac];simp)) suf (pre++[a]) kk [pre.length] (by simp [hxs]) (by simpa using hk) (by simp) (by simp) hac
   simp only [Ag,List.map_cons,List.map_nil] at ih
   rw [ht] at htu
   have c12:=htu.symm
   simp only [Bool.and_eq_true,Bool.not_eq_true'] at c12
   obtain ⟨c1,c2⟩:=c12
   cases pf
   all_goals
    simp +contextual -dsimp -implicitDefEqProofs (maxSteps:=5000000) only [gLs,↓Ah (Ik.eq_1),h2,h3,h4,hg,c1,c2,eS,List.replicate,go_sem,simprocAttr]
    exact (AA (by rfl)).mpr ih
theorem a8z (i:Nat) (pf:Bool) (m:Ad) (hm:SmM m) (lv pk:Int):Aa (Lv ctx (i+8)) 71 [eM pf m,.agg [iV lv,iV pk]]=some (.tup [iV (CM m ⟨lv,pk⟩).1,bV (CM m ⟨lv,pk⟩).2.1,iV (CM m ⟨lv,pk⟩).2.2]):=by
 have q1:=TH (i+0) pf m hm
 have q2:=bR (i+4) lv pk
 simp only [Nat.add_assoc,Nat.reduceAdd] at q1 q2
 cases h1:CN m
 ·have e:CM m ⟨lv,pk⟩=(0,false,2400):=by unfold CM;rw [h1];rfl
  rw [e]
  rw [h1] at q1
  refine Ac rfl 0 (by rfl) ?_
  delta c71
  cases pf<;>simp +contextual -dsimp -implicitDefEqProofs (maxSteps:=5000000) only [q1,go_sem,simprocAttr]
 ·rw [h1] at q1
  cases h2:AP ⟨lv,pk⟩
  ·have e:CM m ⟨lv,pk⟩=(0,false,2400):=by unfold CM;rw [h1,h2];rfl
   rw [e]
   rw [h2] at q2
   refine Ac rfl 0 (by rfl) ?_
   delta c71
   cases pf<;>simp +contextual -dsimp -implicitDefEqProofs (maxSteps:=5000000) only [q1,q2,go_sem,simprocAttr]
  ·rw [h2] at q2
   have hpk:inR pk 255=true:=by simp only [AP,Bool.and_eq_true] at h2;exact h2.2
   rw [AL] at hpk
   obtain ⟨p,rfl⟩:∃ p:Nat,pk=(p:Int):=⟨pk.toNat,by omega⟩
   have e:CM m ⟨lv,p⟩=match (BR lv 0 m.sess)[p % (BR lv 0 m.sess).length]? with
    | some k=>((k:Nat),true,0)
    | none=>(0,false,0):=by unfold CM IM;rw [h1,h2];simp only [Bool.and_self,if_true,Int.toNat_natCast];rfl
   rw [e]
   have hx:(m.sess.length:Int)*8≤140737488355328:=by have:=hm.bs;omega
   refine Ac rfl (m.sess.length+1) (by rfl) ?_
   delta c71
   cases pf
   all_goals
    simp +contextual -dsimp -implicitDefEqProofs (maxSteps:=5000000) only [q1,q2,go_sem,simprocAttr]
    refine ZK i _ _ m lv p hx _ _ _ _ ?ha ?hb m.sess [] _ (by simp) (by omega) rfl
    case hb =>
     intro hn
     rw [hn]
     simp +contextual -dsimp -implicitDefEqProofs (maxSteps:=5000000) only [List.getElem?_nil,go_sem,simprocAttr]
    case ha =>
     intro acc hacc hne
     rw [← hacc]
     have hpos:0<acc.length:=List.length_pos_iff.2 hne
     have hmod:p % acc.length<acc.length:=Nat.mod_lt _ hpos
     obtain ⟨r,hr⟩:∃ r,acc[p % acc.length]?=some r:=⟨_,List.getElem?_eq_getElem hmod⟩
     have hrem:BO lay .rem 3 (iV (p:Int)) (iV (acc.length:Int))=some (iV ((p % acc.length:Nat):Int)):=by
      rw [Kk (by omega),Int.tmod_eq_emod_of_nonneg (by omega)];rfl
     rw [hr]
     generalize p % acc.length=j at hmod hr hrem
     have z1:decide ((acc.length:Int)=0)=false:=by simp;omega
     have l1:(0≤(j:Int))=True:=by simp
     have l2:((j:Int)<(acc.length:Int))=True:=by simpa using hmod
     simp +contextual -dsimp -implicitDefEqProofs (maxSteps:=5000000) only [z1,hrem,l1,l2,hr,List.length_map,go_sem,simprocAttr]
theorem Wj (i:Nat) (pf:Bool) (m:Ad) (hm:SmM m) (lv pk:Int):Aa (Lv ctx (i+13)) 30 [eM pf m,.agg [iV lv,iV pk]]=some (.tup [oM (Bl m ⟨lv,pk⟩).1,iV (Bl m ⟨lv,pk⟩).2]):=by
 have q1:=a8z (i+4) pf m hm lv pk
 have qc:=FH (i+10) pf m hm
 have qs:=fun a=>a3h (i+0) pf m hm a
 simp only [Nat.add_assoc,Nat.reduceAdd] at q1 qc qs
 have e:Bl m ⟨lv,pk⟩=if (CM m ⟨lv,pk⟩).2.2=0 then (if (CM m ⟨lv,pk⟩).2.1=true then (if (Cm m (CM m ⟨lv,pk⟩).1).2=0 then ((Cm m (CM m ⟨lv,pk⟩).1).1,0) else (Az,2400)) else (m,0)) else (Az,2400):=rfl
 rw [e]
 generalize CM m ⟨lv,pk⟩=W at q1 ⊢
 obtain ⟨a,is,er⟩:=W
 simp only at q1 ⊢
 by_cases h0:er=0
 ·have z0:decide (er=0)=true:=by simpa using h0
  rw [if_pos h0]
  cases is
  ·simp only [Bool.false_eq_true,if_false]
   refine Ac rfl 0 (by rfl) ?_
   delta c30
   cases pf<;>simp +contextual -dsimp -implicitDefEqProofs (maxSteps:=5000000) only [q1,qc,z0,go_sem,simprocAttr]
  ·simp only [if_true]
   have q2:=qs a
   generalize Cm m a=A at q2 ⊢
   by_cases h1:A.2=0
   ·have z1:decide (A.2=0)=true:=by simpa using h1
    rw [if_pos h1]
    refine Ac rfl 0 (by rfl) ?_
    delta c30
    cases pf<;>simp +contextual -dsimp -implicitDefEqProofs (maxSteps:=5000000) only [q1,q2,z0,z1,go_sem,simprocAttr]
   ·have z1:decide (A.2=0)=false:=by simpa using h1
    rw [if_neg h1,Ay]
    refine Ac rfl 0 (by rfl) ?_
    delta c30
    cases pf<;>simp +contextual -dsimp -implicitDefEqProofs (maxSteps:=5000000) only [q1,q2,z0,z1,go_sem,simprocAttr]
 ·have z0:decide (er=0)=false:=by simpa using h0
  rw [if_neg h0,Ay]
  refine Ac rfl 0 (by rfl) ?_
  delta c30
  cases pf<;>simp +contextual -dsimp -implicitDefEqProofs (maxSteps:=5000000) only [q1,z0,go_sem,simprocAttr]
end Ve
