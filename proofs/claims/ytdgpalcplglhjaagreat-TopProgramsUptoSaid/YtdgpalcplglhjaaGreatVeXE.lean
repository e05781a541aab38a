/- The program's steps of a session. -/
import Derived.Test.YtdgpalcplglhjaaGreatS53
import Derived.Test.YtdgpalcplglhjaaGreatS54
import Derived.Test.YtdgpalcplglhjaaGreatS47
import Derived.Test.YtdgpalcplglhjaaGreatVeXC
import Derived.Test.YtdgpalcplglhjaaGreatS28
import Derived.Test.YtdgpalcplglhjaaGreatS36
import Derived.Test.YtdgpalcplglhjaaGreatS44
import Derived.Test.YtdgpalcplglhjaaGreatS34
import Derived.Test.YtdgpalcplglhjaaGreatVeP
set_option linter.all false
set_option linter.unusedSectionVars false
namespace Ve
open Go Ve.Ab
set_option maxHeartbeats 16000000
set_option maxRecDepth 10000
theorem qX (i:Nat) (a l:Ak) (v:Int):Aa (Lv ctx (i+1)) 198 [eWr a,.ip true [iV v] 0]=some (bV (!decide (a.level=v))):=by
 simp only [eWr]
 refine Ac rfl 0 (by rfl) ?_
 delta c198
 simp +contextual -dsimp -implicitDefEqProofs (maxSteps:=5000000) only [go_sem,simprocAttr]
theorem Ud (i:Nat) (pf nn:Bool) (xs:List Ak) (hx:xs.length≤BB) (l:Int):Aa (Lv ctx (i+5)) 186 [.isl pf nn 3 (xs.map eWr),iV l]=some (bV (DI xs l)):=by
 have q1:=Ip (i+1) pf nn xs hx
 have hcf:Aa (Lv ctx (i+4)) 180 [.isl pf nn 3 (xs.map eWr),.fn (.func 198) [] [.ip true [iV l] 0]]=some (bV (xs.any fun w=>!decide (w.level=l))) :=
  Ol (i+2) pf nn xs (fun w=>!decide (w.level=l)) 198 [.ip true [iV l] 0] (fun _ _ _ _ _ _=>rfl) (fun _=>rfl) (by simp [AL,V.scrub]) rfl (fun x _=>qX (i+1) x x l) hx
 rw [Gn] at hcf
 simp only [Nat.add_assoc,Nat.reduceAdd] at q1
 unfold DI
 cases hm:AS xs
 all_goals
  rw [hm] at q1
  refine Ac rfl 0 (by rfl) ?_
  delta c186
  simp +contextual -dsimp -implicitDefEqProofs (maxSteps:=5000000) only [q1,hcf,Bool.not_not,go_sem,simprocAttr]
abbrev aT (pf:Bool) (m:Ad) (k:Int):V:=.agg [eWs pf m.words.a0,eWs pf m.words.a1,eWs pf m.words.a2,eWs pf m.words.a3,iV m.clocks.a0,iV m.clocks.a1,iV m.clocks.a2,iV m.clocks.a3,iV m.ceil,eSs pf m.sess,eEs pf m.trace,iV k]
theorem aA (i:Nat) (pf:Bool) (m:Ad) (hm:SmM m) (k r t:Int):Aa (Lv ctx (i+22)) 162 [aT pf m k,iV r,iV t]=some (.tup [oM (CL m k r t).1,iV (CL m k r t).2]):=by
 have q:=Sh (i+0) pf m hm k r t
 simp only [Nat.add_assoc,Nat.reduceAdd] at q
 generalize CL m k r t=A at q ⊢
 refine Ac rfl 0 (by rfl) ?_
 delta c162
 simp +contextual -dsimp -implicitDefEqProofs (maxSteps:=5000000) only [q,Bool.and_self_left,Bool.and_self,go_sem,simprocAttr]
theorem iS (i:Nat) (pf:Bool) (m:Ad) (hm:SmM m) (k:Int):Aa (Lv ctx (i+24)) 160 [aT pf m k]=some (.tup [oM (if (BF m k).1=true then Bn m k else BX m k).1,iV (if (BF m k).1=true then Bn m k else BX m k).2]):=by
 have q0:=Kb (i+1) pf m hm k
 have q1:=PO (i+0) pf m hm k
 have q2:=iO (i+0) pf m hm k
 simp only [Nat.add_assoc,Nat.reduceAdd] at q0 q1 q2
 cases h:(BF m k).1
 ·rw [h] at q0
  simp only [Bool.false_eq_true,if_false]
  generalize BX m k=A at q2 ⊢
  refine Ac rfl 0 (by rfl) ?_
  delta vG
  simp +contextual -dsimp -implicitDefEqProofs (maxSteps:=5000000) only [q0,q2,Bool.and_self_left,Bool.and_self,go_sem,simprocAttr]
 ·rw [h] at q0
  simp only [if_true]
  generalize Bn m k=A at q1 ⊢
  refine Ac rfl 0 (by rfl) ?_
  delta vG
  simp +contextual -dsimp -implicitDefEqProofs (maxSteps:=5000000) only [q0,q1,Bool.and_self_left,Bool.and_self,go_sem,simprocAttr]
theorem iT (i:Nat) (pf:Bool) (m:Ad) (hm:SmM m) (k:Nat) (s:Af) (hs:m.sess[k]?=some s):Aa (Lv ctx (i+23)) 159 [aT pf m k]=some (.tup [oM (Ee m k s).1,iV (Ee m k s).2]):=by
 have qc:=DE (i+19) pf m hm
 have hsm:=hm.s s (List.mem_of_getElem? hs)
 have qw:=fun p=>Ud (i+17) p false s.writes hsm.w s.label
 have qe:=aA (i+0) pf m hm k 3 0
 simp only [Nat.add_assoc,Nat.reduceAdd] at qc qw qe
 have hk:=Au hs
 have e1:(0≤(k:Int))=True:=by simp
 have e2:((k:Int)<(m.sess.length:Int))=True:=by simpa using hk
 have e3:(m.sess.map oS)[k]?=some (oS s):=by simp [hs]
 have e4:∀ x y,((m.sess.map oS).set k x).set k y=(m.sess.map oS).set k y:=fun x y=>List.set_set ..
 have e5:∀ x,((m.sess.map oS).set k x)[k]?=some x:=fun x=>List.getElem?_set_self (by simpa using hk)
 simp only [oS] at e3
 cases hw:DI s.writes s.label
 ·have e:Ee m k s=CL m k 3 0:=by unfold Ee;rw [hw];simp only [Bool.false_eq_true,if_false]
  rw [e]
  rw [hw] at qw
  generalize CL m k 3 0=r at qe ⊢
  refine Ac rfl 0 (by rfl) ?_
  delta nP
  simp +contextual -dsimp -implicitDefEqProofs (maxSteps:=5000000) only [Bool.and_self_left,Bool.and_self,go_sem,simprocAttr]
  refine CP rfl 0 ?_
  delta IT
  simp +contextual -dsimp -implicitDefEqProofs (maxSteps:=5000000) only [qw,qe,hs,e1,e2,Bool.and_self_left,Bool.and_self,go_sem,simprocAttr]
 ·rw [hw] at qw
  by_cases hn:s.writes=[]
  ·have e:Ee m k s=(AA m k { s with at_:=0,step:=3 },0):=by unfold Ee;rw [hw];simp only [hn,if_true,Int.toNat_natCast]
   rw [e]
   have z1:decide ((s.writes.length:Int)=0)=true:=by rw [hn];rfl
   simp only [AA,oM,cO,oWs,oSs,oEs,List.map_set,oS]
   refine Ac rfl 0 (by rfl) ?_
   delta nP
   simp +contextual -dsimp -implicitDefEqProofs (maxSteps:=5000000) only [Bool.and_self_left,Bool.and_self,go_sem,simprocAttr]
   refine CP rfl 0 ?_
   delta IT
   simp +contextual -dsimp -implicitDefEqProofs (maxSteps:=5000000) only [qw,qc,hs,e1,e2,e3,e4,e5,z1,List.length_set,hk,Bool.and_self_left,Bool.and_self,go_sem,simprocAttr]
  ·have e:Ee m k s=(AA m k { s with at_:=0,step:=1 },0):=by unfold Ee;rw [hw];simp only [hn,if_true,if_false,Int.toNat_natCast]
   rw [e]
   have z1:decide ((s.writes.length:Int)=0)=false:=by
    have:=List.length_pos_iff.2 hn
    simp;omega
   simp only [AA,oM,cO,oWs,oSs,oEs,List.map_set,oS]
   refine Ac rfl 0 (by rfl) ?_
   delta nP
   simp +contextual -dsimp -implicitDefEqProofs (maxSteps:=5000000) only [Bool.and_self_left,Bool.and_self,go_sem,simprocAttr]
   refine CP rfl 0 ?_
   delta IT
   simp +contextual -dsimp -implicitDefEqProofs (maxSteps:=5000000) only [qw,qc,hs,e1,e2,e3,e4,e5,z1,List.length_set,hk,Bool.and_self_left,Bool.and_self,go_sem,simprocAttr]
theorem qY (i:Nat) (pf:Bool) (m:Ad) (hm:SmM m) (k:Nat) (s:Af) (hs:m.sess[k]?=some s) (hM:Bo m) (hS:SP m.words s) (hst:s.step=0):Aa (Lv ctx (i+25)) 124 [aT pf m k]=some (.tup [oM (ER m k s).1,iV (ER m k s).2]):=by
 have hk:=Au hs
 have e1:(0≤(k:Int))=True:=by simp
 have e2:((k:Int)<(m.sess.length:Int))=True:=by simpa using hk
 have hp0:=AR.1 hS.pc
 by_cases hfin:s.pc=(s.prog.length:Int)
 ·have hlen:s.prog[s.pc.toNat]?=none:=by rw [hfin];simp
  have e:ER m k s=Ee m k s:=by unfold ER;rw [hlen]
  have q:=iT (i+1) pf m hm k s hs
  rw [e]
  simp only [Nat.add_assoc,Nat.reduceAdd] at q
  generalize Ee m k s=r at q ⊢
  have z1:decide ((s.prog.length:Int)=(s.prog.length:Int))=true:=by simp
  refine Ac rfl 0 (by rfl) ?_
  delta Vl
  simp +contextual -dsimp -implicitDefEqProofs (maxSteps:=5000000) only [Bool.and_self_left,Bool.and_self,go_sem,simprocAttr]
  refine CP rfl 0 ?_
  delta IT
  simp +contextual -dsimp -implicitDefEqProofs (maxSteps:=5000000) only [q,hs,e1,e2,hfin,z1,Bool.and_self_left,Bool.and_self,go_sem,simprocAttr]
 ·obtain ⟨n,hp⟩:∃ n:Nat,s.pc=(n:Int):=⟨s.pc.toNat,by omega⟩
  have hn:n<s.prog.length:=by omega
  obtain ⟨x,hi⟩:∃ x,s.prog[n]?=some x:=⟨_,List.getElem?_eq_getElem hn⟩
  obtain ⟨hin,_,_⟩:=Dk hS hi
  have p1:(0≤(n:Int))=True:=by simp
  have p2:((n:Int)<(s.prog.length:Int))=True:=by simpa using hn
  have z1:decide ((n:Int)=(s.prog.length:Int))=false:=by simp;omega
  have e:ER m k s=if x.code=2 then (if (BF m k).1=true then Bn m k else BX m k) else if x.code=3 then Cu m k else if x.code=5 then Cg m k else if x.code=6 then CL m k 2 x.a else Cn m k:=by
   unfold ER;rw [hp,Int.toNat_natCast,hi]
  have q2:=iS (i+0) pf m hm k
  have q3:=iF (i+2) pf m hm k
  have q5:=ZO (i+2) pf m hm k
  have q6:=aA (i+2) pf m hm k 2 x.a
  have q0:=qV (i+2) pf m hm k
  rw [e]
  simp only [Nat.add_assoc,Nat.reduceAdd] at q0 q2 q3 q5 q6
  by_cases c2:x.code=2
  ·simp only [c2,if_true]
   generalize (if (BF m k).1=true then Bn m k else BX m k)=r at q2 ⊢
   refine Ac rfl 0 (by rfl) ?_
   delta Vl
   simp +contextual -dsimp -implicitDefEqProofs (maxSteps:=5000000) only [Bool.and_self_left,Bool.and_self,go_sem,simprocAttr]
   refine CP rfl 0 ?_
   delta IT
   simp +contextual -dsimp -implicitDefEqProofs (maxSteps:=5000000) only [q2,hs,e1,e2,hp,p1,p2,hi,z1,c2,Bool.and_self_left,Bool.and_self,go_sem,simprocAttr]
  ·have d2:decide (x.code=2)=false:=by simpa using c2
   by_cases c3:x.code=3
   ·simp only [c3,if_true,show ((3:Int)=2)=False by decide,if_false]
    generalize Cu m k=r at q3 ⊢
    refine Ac rfl 0 (by rfl) ?_
    delta Vl
    simp +contextual -dsimp -implicitDefEqProofs (maxSteps:=5000000) only [Bool.and_self_left,Bool.and_self,go_sem,simprocAttr]
    refine CP rfl 0 ?_
    delta IT
    simp +contextual -dsimp -implicitDefEqProofs (maxSteps:=5000000) only [q3,hs,e1,e2,hp,p1,p2,hi,z1,c3,Bool.and_self_left,Bool.and_self,go_sem,simprocAttr]
   ·have d3:decide (x.code=3)=false:=by simpa using c3
    by_cases c5:x.code=5
    ·simp only [c5,if_true,show ((5:Int)=2)=False by decide,show ((5:Int)=3)=False by decide,if_false]
     generalize Cg m k=r at q5 ⊢
     refine Ac rfl 0 (by rfl) ?_
     delta Vl
     simp +contextual -dsimp -implicitDefEqProofs (maxSteps:=5000000) only [Bool.and_self_left,Bool.and_self,go_sem,simprocAttr]
     refine CP rfl 0 ?_
     delta IT
     simp +contextual -dsimp -implicitDefEqProofs (maxSteps:=5000000) only [q5,hs,e1,e2,hp,p1,p2,hi,z1,c5,Bool.and_self_left,Bool.and_self,go_sem,simprocAttr]
    ·have d5:decide (x.code=5)=false:=by simpa using c5
     by_cases c6:x.code=6
     ·simp only [c6,if_true,show ((6:Int)=2)=False by decide,show ((6:Int)=3)=False by decide,show ((6:Int)=5)=False by decide,if_false]
      generalize CL m k 2 x.a=r at q6 ⊢
      refine Ac rfl 0 (by rfl) ?_
      delta Vl
      simp +contextual -dsimp -implicitDefEqProofs (maxSteps:=5000000) only [Bool.and_self_left,Bool.and_self,go_sem,simprocAttr]
      refine CP rfl 0 ?_
      delta IT
      simp +contextual -dsimp -implicitDefEqProofs (maxSteps:=5000000) only [q6,hs,e1,e2,hp,p1,p2,hi,z1,c6,Bool.and_self_left,Bool.and_self,go_sem,simprocAttr]
     ·have d6:decide (x.code=6)=false:=by simpa using c6
      simp only [c2,c3,c5,c6,if_false]
      generalize Cn m k=r at q0 ⊢
      refine Ac rfl 0 (by rfl) ?_
      delta Vl
      simp +contextual -dsimp -implicitDefEqProofs (maxSteps:=5000000) only [Bool.and_self_left,Bool.and_self,go_sem,simprocAttr]
      refine CP rfl 0 ?_
      delta IT
      simp +contextual -dsimp -implicitDefEqProofs (maxSteps:=5000000) only [q0,hs,e1,e2,hp,p1,p2,hi,z1,d2,d3,d5,d6,Bool.and_self_left,Bool.and_self,go_sem,simprocAttr]
theorem iR (i:Nat) (pf:Bool) (m:Ad) (hm:SmM m) (k:Nat) (s:Af) (hs:m.sess[k]?=some s) (hM:Bo m) (hS:SP m.words s):Aa (Lv ctx (i+26)) 80 [aT pf m k]=some (.tup [oM (Be m k s).1,iV (Be m k s).2]):=by
 have hk:=Au hs
 have e1:(0≤(k:Int))=True:=by simp
 have e2:((k:Int)<(m.sess.length:Int))=True:=by simpa using hk
 have hst:=AR.1 hS.step
 have q1:=qS (i+3) pf m hm k
 have q2:=iG (i+3) pf m hm k
 have q3:=iQ (i+3) pf m hm k
 have q4:=qW (i+3) pf m hm k
 have q5:=ZO (i+3) pf m hm k
 have qc:=DE (i+22) pf m hm
 simp only [Nat.add_assoc,Nat.reduceAdd] at q1 q2 q3 q4 q5 qc
 unfold Be
 obtain h0 | h0 | h0 | h0 | h0 | h0 | h0:s.step=0∨s.step=1∨s.step=2∨s.step=3∨s.step=4∨s.step=5∨s.step=6:=by omega
 all_goals simp only [h0,if_true,if_false,show ((1:Int)=0)=False by decide,show ((2:Int)=0)=False by decide,show ((2:Int)=1)=False by decide,show ((3:Int)=0)=False by decide,show ((3:Int)=1)=False by decide,show ((3:Int)=2)=False by decide,show ((4:Int)=0)=False by decide,show ((4:Int)=1)=False by decide,show ((4:Int)=2)=False by decide,show ((4:Int)=3)=False by decide,show ((5:Int)=0)=False by decide,show ((5:Int)=1)=False by decide,show ((5:Int)=2)=False by decide,show ((5:Int)=3)=False by decide,show ((5:Int)=4)=False by decide,show ((6:Int)=0)=False by decide,show ((6:Int)=1)=False by decide,show ((6:Int)=2)=False by decide,show ((6:Int)=3)=False by decide,show ((6:Int)=4)=False by decide,show ((6:Int)=5)=False by decide]
 ·have q0:=qY (i+0) pf m hm k s hs hM hS h0
  simp only [Nat.add_assoc,Nat.reduceAdd] at q0
  generalize ER m k s=r at q0 ⊢
  refine Ac rfl 0 (by rfl) ?_
  delta c80
  simp +contextual -dsimp -implicitDefEqProofs (maxSteps:=5000000) only [Bool.and_self_left,Bool.and_self,go_sem,simprocAttr]
  refine CP rfl 0 ?_
  delta IT
  simp +contextual -dsimp -implicitDefEqProofs (maxSteps:=5000000) only [q0,hs,e1,e2,h0,Bool.and_self_left,Bool.and_self,go_sem,simprocAttr]
 ·generalize DO m k=r at q1 ⊢
  refine Ac rfl 0 (by rfl) ?_
  delta c80
  simp +contextual -dsimp -implicitDefEqProofs (maxSteps:=5000000) only [Bool.and_self_left,Bool.and_self,go_sem,simprocAttr]
  refine CP rfl 0 ?_
  delta IT
  simp +contextual -dsimp -implicitDefEqProofs (maxSteps:=5000000) only [q1,hs,e1,e2,h0,Bool.and_self_left,Bool.and_self,go_sem,simprocAttr]
 ·generalize Da m k=r at q2 ⊢
  refine Ac rfl 0 (by rfl) ?_
  delta c80
  simp +contextual -dsimp -implicitDefEqProofs (maxSteps:=5000000) only [Bool.and_self_left,Bool.and_self,go_sem,simprocAttr]
  refine CP rfl 0 ?_
  delta IT
  simp +contextual -dsimp -implicitDefEqProofs (maxSteps:=5000000) only [q2,hs,e1,e2,h0,Bool.and_self_left,Bool.and_self,go_sem,simprocAttr]
 ·generalize Df m k=r at q3 ⊢
  refine Ac rfl 0 (by rfl) ?_
  delta c80
  simp +contextual -dsimp -implicitDefEqProofs (maxSteps:=5000000) only [Bool.and_self_left,Bool.and_self,go_sem,simprocAttr]
  refine CP rfl 0 ?_
  delta IT
  simp +contextual -dsimp -implicitDefEqProofs (maxSteps:=5000000) only [q3,hs,e1,e2,h0,Bool.and_self_left,Bool.and_self,go_sem,simprocAttr]
 ·generalize DR m k=r at q4 ⊢
  refine Ac rfl 0 (by rfl) ?_
  delta c80
  simp +contextual -dsimp -implicitDefEqProofs (maxSteps:=5000000) only [Bool.and_self_left,Bool.and_self,go_sem,simprocAttr]
  refine CP rfl 0 ?_
  delta IT
  simp +contextual -dsimp -implicitDefEqProofs (maxSteps:=5000000) only [q4,hs,e1,e2,h0,Bool.and_self_left,Bool.and_self,go_sem,simprocAttr]
 ·generalize Cg m k=r at q5 ⊢
  refine Ac rfl 0 (by rfl) ?_
  delta c80
  simp +contextual -dsimp -implicitDefEqProofs (maxSteps:=5000000) only [Bool.and_self_left,Bool.and_self,go_sem,simprocAttr]
  refine CP rfl 0 ?_
  delta IT
  simp +contextual -dsimp -implicitDefEqProofs (maxSteps:=5000000) only [q5,hs,e1,e2,h0,Bool.and_self_left,Bool.and_self,go_sem,simprocAttr]
 ·refine Ac rfl 0 (by rfl) ?_
  delta c80
  simp +contextual -dsimp -implicitDefEqProofs (maxSteps:=5000000) only [Bool.and_self_left,Bool.and_self,go_sem,simprocAttr]
  refine CP rfl 0 ?_
  delta IT
  simp +contextual -dsimp -implicitDefEqProofs (maxSteps:=5000000) only [qc,hs,e1,e2,h0,Bool.and_self_left,Bool.and_self,go_sem,simprocAttr]
theorem Mz (i:Nat) (pf:Bool) (m:Ad) (hm:SmM m) (at_:Int):Aa (Lv ctx (i+27)) 39 [eM pf m,iV at_]=some (.tup [oM (BL m at_).1,iV (BL m at_).2]):=by
 have qh:=Hm (i+6) pf pf m at_ hm
 simp only [Nat.add_assoc,Nat.reduceAdd] at qh
 rcases Ft m at_ with h | ⟨k,s,rfl,hs,hM,hS⟩
 ·rw [Og h,AH]
  rw [h] at qh
  refine Ac rfl 0 (by rfl) ?_
  delta c39
  simp +contextual -dsimp -implicitDefEqProofs (maxSteps:=5000000) only [qh,Bool.and_self_left,Bool.and_self,go_sem,simprocAttr]
 ·have hh:=Bf hs hM
  have q:=iR (i+0) pf m hm k s hs hM hS
  rw [hh] at qh
  simp only [Nat.add_assoc,Nat.reduceAdd] at q
  by_cases h0:(Be m k s).2=0
  ·rw [PG hs hM h0]
   generalize Be m k s=A at q h0 ⊢
   have z1:decide (A.2=0)=true:=by simpa using h0
   refine Ac rfl 0 (by rfl) ?_
   delta c39
   simp +contextual -dsimp -implicitDefEqProofs (maxSteps:=5000000) only [qh,q,z1,Bool.and_self_left,Bool.and_self,go_sem,simprocAttr]
  ·rw [RU hs hM h0,AH]
   generalize Be m k s=A at q h0 ⊢
   have z1:decide (A.2=0)=false:=by simpa using h0
   refine Ac rfl 0 (by rfl) ?_
   delta c39
   simp +contextual -dsimp -implicitDefEqProofs (maxSteps:=5000000) only [qh,q,z1,Bool.and_self_left,Bool.and_self,go_sem,simprocAttr]
end Ve
namespace Ve
open Go Ve.Ab
set_option maxHeartbeats 16000000
set_option maxRecDepth 10000
abbrev nV (n:Nat):V:=iV (n:Int)
theorem Oi (i:Nat) (a b:Int):Aa (Lv ctx (i+2)) 81 [.agg [iV a,iV b]]=some (bV (DD ⟨a,b⟩)):=by
 have e:DD ⟨a,b⟩=(inR a 3&&(decide (0≤b)&&decide (b≤255))):=rfl
 rw [e]
 cases h:inR a 3<;>cases h2:decide (0≤b)
 all_goals
  refine Ac rfl 0 (by rfl) ?_
  delta c81
  simp +contextual -dsimp -implicitDefEqProofs (maxSteps:=5000000) only [h,h2,go_sem,simprocAttr]
theorem UM (i k:Nat) (pf:Bool) (m:Ad) (lv pk:Int) (hx:(m.sess.length:Int)*8≤140737488355328) (q:Out→St→Option Ans) (Q:V→Hp→Nat→Prop) (u:Dum (fun s q=>evC ctx (Lv ctx (i+19)) (Aa (Lv ctx (i+19))) k HE s (As [3,7,19,20,21] q))) (w:Dum q)
  (hend:∀ acc,acc=Ed lv 0 m.sess→Fin (q (.exit 0) ⟨Ae [3,7] [.ip true [iV lv,iV pk] 0,.sl 0],pO Ag 0 (some ⟨1,acc.map nV,false⟩),1⟩) Q) :
  ∀ (suf pre:List Af) (kk:Nat) (acc:List Nat),m.sess=pre++suf→suf.length<kk→acc≠[]→acc.length≤pre.length→acc++Ed lv pre.length suf=Ed lv 0 m.sess →
  GL 0 [3,7,19,20,21] (fun s q=>evC ctx (Lv ctx (i+19)) (Aa (Lv ctx (i+19))) k HE s (As [3,7,19,20,21] q)) q kk ⟨Ae [3,7,19,20,21] [.ip true [iV lv,iV pk] 0,.sl 0,.isl pf false 17 (m.sess.map (eS pf)),iV m.sess.length,iV pre.length],pO Ag 0 (some ⟨1,acc.map nV,false⟩),1⟩ Q u w
 | [],pre,kk,acc,hxs,hk,hne,hal,hacc=>by
  obtain ⟨kk,rfl⟩:∃ m,kk=m+1:=⟨kk - 1,by simp at hk;omega⟩
  have h1:decide ((pre.length:Int)<m.sess.length)=false:=by simp [hxs]
  have he:=hend acc (by simpa [Ed] using hacc)
  simp +contextual -dsimp -implicitDefEqProofs (maxSteps:=5000000) only [gLs,↓Aj (HE.eq_1),h1,go_sem,simprocAttr]
  exact he
 | a::suf,pre,kk,acc,hxs,hk,hne,hal,hacc=>by
  obtain ⟨kk,rfl⟩:∃ m,kk=m+1:=⟨kk - 1,by simp at hk;omega⟩
  have hl:pre.length<m.sess.length:=by simp [hxs]
  have h2:((pre.length:Int)<m.sess.length)=True:=by simpa using hl
  have h3:(0≤(pre.length:Int))=True:=by simp
  have h4:=wrN pre.length (by simp only [BB];omega)
  have hg:m.sess[pre.length]?=some a:=by simp [hxs]
  have h5:(((acc.length+1:Nat):Int)*8≤140737488355328)=True:=by rw [eq_iff_iff,iff_true];omega
  have htu:NS lv a=(decide (a.label=lv)&&!decide (a.step=6)):=rfl
  cases ht:NS lv a
  ·have ih:=UM i k pf m lv pk hx q Q u w hend suf (pre++[a]) kk acc (by simp [hxs]) (by simpa using hk) hne (by simp;omega) (by rw [← hacc];simp [Ed,ht])
   simp only [Ao] at ih
   rw [ht] at htu
   cases c1:decide (a.label=lv)
   ·cases pf
    all_goals
     simp +contextual -dsimp -implicitDefEqProofs (maxSteps:=5000000) only [gLs,↓Aj (HE.eq_1),h2,h3,h4,hg,c1,eS,go_sem,simprocAttr]
     exact (BN (by rfl)).mpr ih
   ·have c2:decide (a.step=6)=true:=by rw [c1] at htu;simpa using htu.symm
    cases pf
    all_goals
     simp +contextual -dsimp -implicitDefEqProofs (maxSteps:=5000000) only [gLs,↓Aj (HE.eq_1),h2,h3,h4,hg,c1,c2,eS,go_sem,simprocAttr]
     exact (BN (by rfl)).mpr ih
  ·have ih:=UM i k pf m lv pk hx q Q u w hend suf (pre++[a]) kk (acc++[pre.length]) (by simp [hxs]) (by simpa using hk) (by simp) (by simp;omega) (by rw [← hacc];simp [Ed,ht])
   simp only [Ao,List.map_append,List.map_cons,List.map_nil] at ih
   rw [ht] at htu
   have c12:=htu.symm
   simp only [Bool.and_eq_true,Bool.not_eq_true'] at c12
   obtain ⟨c1,c2⟩:=c12
   cases pf
   all_goals
    simp +contextual -dsimp -implicitDefEqProofs (maxSteps:=5000000) only [gLs,↓Aj (HE.eq_1),h2,h3,h4,h5,hg,c1,c2,eS,go_sem,simprocAttr]
    exact (BN (by rfl)).mpr ih
theorem dE (i k:Nat) (pf:Bool) (m:Ad) (lv pk:Int) (hx:(m.sess.length:Int)*8≤140737488355328) (q:Out→St→Option Ans) (Q:V→Hp→Nat→Prop) (u:Dum (fun s q=>evC ctx (Lv ctx (i+19)) (Aa (Lv ctx (i+19))) k HE s (As [3,7,19,20,21] q))) (w:Dum q)
  (hend:∀ acc,acc=Ed lv 0 m.sess→acc≠[]→Fin (q (.exit 0) ⟨Ae [3,7] [.ip true [iV lv,iV pk] 0,.sl 0],pO Ag 0 (some ⟨1,acc.map nV,false⟩),1⟩) Q) (hnil:Ed lv 0 m.sess=[]→Fin (q (.exit 0) ⟨Ae [3,7] [.ip true [iV lv,iV pk] 0,.lit (.slice none 0 0)],Ag,0⟩) Q) :
  ∀ (suf pre:List Af) (kk:Nat),m.sess=pre++suf→suf.length<kk→Ed lv pre.length suf=Ed lv 0 m.sess →
  GL 0 [3,7,19,20,21] (fun s q=>evC ctx (Lv ctx (i+19)) (Aa (Lv ctx (i+19))) k HE s (As [3,7,19,20,21] q)) q kk ⟨Ae [3,7,19,20,21] [.ip true [iV lv,iV pk] 0,.lit (.slice none 0 0),.isl pf false 17 (m.sess.map (eS pf)),iV m.sess.length,iV pre.length],Ag,0⟩ Q u w
 | [],pre,kk,hxs,hk,hacc=>by
  obtain ⟨kk,rfl⟩:∃ m,kk=m+1:=⟨kk - 1,by simp at hk;omega⟩
  have h1:decide ((pre.length:Int)<m.sess.length)=false:=by simp [hxs]
  have he:=hnil (by rw [← hacc];rfl)
  simp +contextual -dsimp -implicitDefEqProofs (maxSteps:=5000000) only [gLs,↓Aj (HE.eq_1),h1,go_sem,simprocAttr]
  exact he
 | a::suf,pre,kk,hxs,hk,hacc=>by
  obtain ⟨kk,rfl⟩:∃ m,kk=m+1:=⟨kk - 1,by simp at hk;omega⟩
  have hl:pre.length<m.sess.length:=by simp [hxs]
  have h2:((pre.length:Int)<m.sess.length)=True:=by simpa using hl
  have h3:(0≤(pre.length:Int))=True:=by simp
  have h4:=wrN pre.length (by simp only [BB];omega)
  have hg:m.sess[pre.length]?=some a:=by simp [hxs]
  have htu:NS lv a=(decide (a.label=lv)&&!decide (a.step=6)):=rfl
  cases ht:NS lv a
  ·have ih:=dE i k pf m lv pk hx q Q u w hend hnil suf (pre++[a]) kk (by simp [hxs]) (by simpa using hk) (by rw [← hacc];simp [Ed,ht])
   simp only [Ao] at ih
   rw [ht] at htu
   cases c1:decide (a.label=lv)
   ·cases pf
    all_goals
     simp +contextual -dsimp -implicitDefEqProofs (maxSteps:=5000000) only [gLs,↓Aj (HE.eq_1),h2,h3,h4,hg,c1,eS,go_sem,simprocAttr]
     exact (BN (by rfl)).mpr ih
   ·have c2:decide (a.step=6)=true:=by rw [c1] at htu;simpa using htu.symm
    cases pf
    all_goals
     simp +contextual -dsimp -implicitDefEqProofs (maxSteps:=5000000) only [gLs,↓Aj (HE.eq_1),h2,h3,h4,hg,c1,c2,eS,go_sem,simprocAttr]
     exact (BN (by rfl)).mpr ih
  ·have hac:[pre.length]++Ed lv (pre++[a]).length suf=Ed lv 0 m.sess:=by rw [← hacc];simp [Ed,ht]
   have ih:=UM i k pf m lv pk hx q Q u w (fun acc h=>hend acc h (by rw [h,← hac];simp)) suf (pre++[a]) kk [pre.length] (by simp [hxs]) (by simpa using hk) (by simp) (by simp) hac
   simp only [Ao,List.map_cons,List.map_nil] at ih
   rw [ht] at htu
   have c12:=htu.symm
   simp only [Bool.and_eq_true,Bool.not_eq_true'] at c12
   obtain ⟨c1,c2⟩:=c12
   cases pf
   all_goals
    simp +contextual -dsimp -implicitDefEqProofs (maxSteps:=5000000) only [gLs,↓Aj (HE.eq_1),h2,h3,h4,hg,c1,c2,eS,List.replicate,go_sem,simprocAttr]
    exact (BN (by rfl)).mpr ih
theorem oV (i:Nat) (pf:Bool) (m:Ad) (hm:SmM m) (lv pk:Int):Aa (Lv ctx (i+20)) 40 [eM pf m,.agg [iV lv,iV pk]]=some (.tup [iV (Fj m ⟨lv,pk⟩).1,bV (Fj m ⟨lv,pk⟩).2.1,iV (Fj m ⟨lv,pk⟩).2.2]):=by
 have q1:=ZQ (i+0) pf m hm
 have q2:=Oi (i+17) lv pk
 simp only [Nat.add_assoc,Nat.reduceAdd] at q1 q2
 cases h1:Ei m
 ·have e:Fj m ⟨lv,pk⟩=(0,false,2400):=by unfold Fj;rw [h1];rfl
  rw [e]
  rw [h1] at q1
  refine Ac rfl 0 (by rfl) ?_
  delta c40
  cases pf<;>simp +contextual -dsimp -implicitDefEqProofs (maxSteps:=5000000) only [q1,go_sem,simprocAttr]
 ·rw [h1] at q1
  cases h2:DD ⟨lv,pk⟩
  ·have e:Fj m ⟨lv,pk⟩=(0,false,2400):=by unfold Fj;rw [h1,h2];rfl
   rw [e]
   rw [h2] at q2
   refine Ac rfl 0 (by rfl) ?_
   delta c40
   cases pf<;>simp +contextual -dsimp -implicitDefEqProofs (maxSteps:=5000000) only [q1,q2,go_sem,simprocAttr]
  ·rw [h2] at q2
   have hpk:inR pk 255=true:=by simp only [DD,Bool.and_eq_true] at h2;exact h2.2
   rw [AR] at hpk
   obtain ⟨p,rfl⟩:∃ p:Nat,pk=(p:Int):=⟨pk.toNat,by omega⟩
   have e:Fj m ⟨lv,p⟩=match (Ed lv 0 m.sess)[p % (Ed lv 0 m.sess).length]? with
    | some k=>((k:Nat),true,0)
    | none=>(0,false,0):=by unfold Fj NR;rw [h1,h2];simp only [Bool.and_self,if_true,Int.toNat_natCast];rfl
   rw [e]
   have hx:(m.sess.length:Int)*8≤140737488355328:=by have:=hm.bs;omega
   refine Ac rfl (m.sess.length+1) (by rfl) ?_
   delta c40
   cases pf
   all_goals
    simp +contextual -dsimp -implicitDefEqProofs (maxSteps:=5000000) only [q1,q2,go_sem,simprocAttr]
    refine dE i _ _ m lv p hx _ _ _ _ ?ha ?hb m.sess [] _ (by simp) (by omega) rfl
    case hb =>
     intro hn
     rw [hn]
     simp +contextual -dsimp -implicitDefEqProofs (maxSteps:=5000000) only [List.getElem?_nil,go_sem,simprocAttr]
    case ha =>
     intro acc hacc hne
     rw [← hacc]
     have hpos:0<acc.length:=List.length_pos_iff.2 hne
     have hmod:p % acc.length<acc.length:=Nat.mod_lt _ hpos
     obtain ⟨r,hr⟩:∃ r,acc[p % acc.length]?=some r:=⟨_,List.getElem?_eq_getElem hmod⟩
     have hrem:BJ lay .rem 3 (iV (p:Int)) (iV (acc.length:Int))=some (iV ((p % acc.length:Nat):Int)):=by
      rw [Mi (by omega),Int.tmod_eq_emod_of_nonneg (by omega)];rfl
     rw [hr]
     generalize p % acc.length=j at hmod hr hrem
     have z1:decide ((acc.length:Int)=0)=false:=by simp;omega
     have l1:(0≤(j:Int))=True:=by simp
     have l2:((j:Int)<(acc.length:Int))=True:=by simpa using hmod
     simp +contextual -dsimp -implicitDefEqProofs (maxSteps:=5000000) only [z1,hrem,l1,l2,hr,List.length_map,go_sem,simprocAttr]
theorem Ue (i:Nat) (pf:Bool) (m:Ad) (hm:SmM m) (lv pk:Int):Aa (Lv ctx (i+28)) 38 [eM pf m,.agg [iV lv,iV pk]]=some (.tup [oM (BM m ⟨lv,pk⟩).1,iV (BM m ⟨lv,pk⟩).2]):=by
 have q1:=oV (i+7) pf m hm lv pk
 have qc:=DE (i+24) pf m hm
 have qs:=fun a=>Mz (i+0) pf m hm a
 simp only [Nat.add_assoc,Nat.reduceAdd] at q1 qc qs
 have e:BM m ⟨lv,pk⟩=if (Fj m ⟨lv,pk⟩).2.2=0 then (if (Fj m ⟨lv,pk⟩).2.1=true then (if (BL m (Fj m ⟨lv,pk⟩).1).2=0 then ((BL m (Fj m ⟨lv,pk⟩).1).1,0) else (AN,2400)) else (m,0)) else (AN,2400):=rfl
 rw [e]
 generalize Fj m ⟨lv,pk⟩=W at q1 ⊢
 obtain ⟨a,is,er⟩:=W
 simp only at q1 ⊢
 by_cases h0:er=0
 ·have z0:decide (er=0)=true:=by simpa using h0
  rw [if_pos h0]
  cases is
  ·simp only [Bool.false_eq_true,if_false]
   refine Ac rfl 0 (by rfl) ?_
   delta c38
   cases pf<;>simp +contextual -dsimp -implicitDefEqProofs (maxSteps:=5000000) only [q1,qc,z0,go_sem,simprocAttr]
  ·simp only [if_true]
   have q2:=qs a
   generalize BL m a=A at q2 ⊢
   by_cases h1:A.2=0
   ·have z1:decide (A.2=0)=true:=by simpa using h1
    rw [if_pos h1]
    refine Ac rfl 0 (by rfl) ?_
    delta c38
    cases pf<;>simp +contextual -dsimp -implicitDefEqProofs (maxSteps:=5000000) only [q1,q2,z0,z1,go_sem,simprocAttr]
   ·have z1:decide (A.2=0)=false:=by simpa using h1
    rw [if_neg h1,AH]
    refine Ac rfl 0 (by rfl) ?_
    delta c38
    cases pf<;>simp +contextual -dsimp -implicitDefEqProofs (maxSteps:=5000000) only [q1,q2,z0,z1,go_sem,simprocAttr]
 ·have z0:decide (er=0)=false:=by simpa using h0
  rw [if_neg h0,AH]
  refine Ac rfl 0 (by rfl) ?_
  delta c38
  cases pf<;>simp +contextual -dsimp -implicitDefEqProofs (maxSteps:=5000000) only [q1,z0,go_sem,simprocAttr]
end Ve
