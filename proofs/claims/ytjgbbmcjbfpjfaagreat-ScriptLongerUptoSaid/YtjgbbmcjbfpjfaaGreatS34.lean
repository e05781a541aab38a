/- The reference's steps, all. -/
import Derived.Test.YtjgbbmcjbfpjfaaGreatS29
import Derived.Test.YtjgbbmcjbfpjfaaGreatVeSF
import Derived.Test.YtjgbbmcjbfpjfaaGreatS31
import Derived.Test.YtjgbbmcjbfpjfaaGreatS32
import Derived.Test.YtjgbbmcjbfpjfaaGreatS33
set_option linter.all false
set_option linter.unusedSectionVars false
namespace Ve
open Go Ve.Ab
set_option maxHeartbeats 16000000
set_option maxRecDepth 10000
theorem a9b (i:Nat) (pf:Bool) (m:Ad) (hm:SmM m) (k:Nat) (s:Ai) (hs:m.sess[k]?=some s) (hM:Bt m) (hS:SP m.words s) (hst:s.step=0):Aa (Lv ctx (i+11)) 107 [eM pf m,iV k]=some (.tup [oM (Fi m k s).1,iV (Fi m k s).2]):=by
 have qc:=FH (i+8) pf m hm
 have qr:=fun v h=>HV (i+9) pf m k v h
 simp only [Nat.add_assoc,Nat.reduceAdd] at qc qr
 have hk:=Ax hs
 have e1:(0≤(k:Int))=True:=by simp
 have e2:((k:Int)<(m.sess.length:Int))=True:=by simpa using hk
 have e3:∀ x,((m.sess.map oS).set k x)[k]?=some x:=fun x=>List.getElem?_set_self (by simpa using hk)
 have e4:∀ x y,((m.sess.map oS).set k x).set k y=(m.sess.map oS).set k y:=fun x y=>List.set_set ..
 have hh:=Bs hs hM
 have hAt:=Ej m k
 have hp0:=AL.1 hS.pc
 by_cases hfin:s.pc=(s.prog.length:Int)
 ·have hlen:s.prog[s.pc.toNat]?=none:=by rw [hfin];simp
  have e:Fi m k s=Ex m k s:=by unfold Fi;rw [hlen]
  rw [e]
  have q:=qr (-1) ⟨k,s,rfl,hs,hS,.inr (.inl ⟨hst,hfin,rfl⟩)⟩
  have hsm:=hm.s s (List.mem_of_getElem? hs)
  have qw:=Wh (i+5) pf false s.writes (by have:=hsm.bw;simp only [BB];omega) s.label
  have qe:=Qm (i+1) pf m hm k 3 0
  simp only [Nat.add_assoc,Nat.reduceAdd] at qw qe
  cases hw:DY s.writes s.label
  ·have e2':Ex m k s=CX m k 3 0:=by unfold Ex;rw [hw];simp only [Bool.false_eq_true,if_false]
   rw [e2']
   rw [hw] at qw
   generalize CX m k 3 0=r at qe ⊢
   refine Ac rfl 0 (by rfl) ?_
   delta Nw
   cases pf<;>simp +contextual -dsimp -implicitDefEqProofs (maxSteps:=5000000) only [q,qw,qe,hs,e1,e2,go_sem,simprocAttr]
  ·rw [hw] at qw
   by_cases hn:s.writes=[]
   ·have e2':Ex m k s=(AE m k { s with at_:=0,step:=3 },0):=by unfold Ex;rw [hw];simp only [hn,if_true,Int.toNat_natCast]
    rw [e2']
    have z1:decide ((s.writes.length:Int)=0)=true:=by rw [hn];rfl
    simp only [AE,Int.toNat_natCast,oM,cO,oWs,oSs,oEs,List.map_set,oS]
    refine Ac rfl 0 (by rfl) ?_
    delta Nw
    cases pf<;>simp +contextual -dsimp -implicitDefEqProofs (maxSteps:=5000000) only [q,qc,qw,hs,e1,e2,e3,e4,z1,List.length_set,hk,go_sem,simprocAttr]
   ·have e2':Ex m k s=(AE m k { s with at_:=0,step:=1 },0):=by unfold Ex;rw [hw];simp only [hn,if_true,if_false,Int.toNat_natCast]
    rw [e2']
    have z1:decide ((s.writes.length:Int)=0)=false:=by
     have:=List.length_pos_iff.2 hn
     simp;omega
    simp only [AE,Int.toNat_natCast,oM,cO,oWs,oSs,oEs,List.map_set,oS]
    refine Ac rfl 0 (by rfl) ?_
    delta Nw
    cases pf<;>simp +contextual -dsimp -implicitDefEqProofs (maxSteps:=5000000) only [q,qc,qw,hs,e1,e2,e3,e4,z1,List.length_set,hk,go_sem,simprocAttr]
 ·have hn:s.pc.toNat<s.prog.length:=by omega
  obtain ⟨n,hp⟩:∃ n:Nat,s.pc=(n:Int):=⟨s.pc.toNat,by omega⟩
  have hn1:n<s.prog.length:=by omega
  obtain ⟨x,hi⟩:∃ x,s.prog[n]?=some x:=⟨s.prog[n],by simp [hn1]⟩
  have hi2:s.prog[s.pc.toNat]?=some x:=by rw [hp];simpa using hi
  have p1:(0≤(n:Int))=True:=by simp
  have p2:((n:Int)<(s.prog.length:Int))=True:=by simpa using hn1
  have q:=qr x.code ⟨k,s,rfl,hs,hS,.inr (.inr ⟨hst,n,x,hp,hi,rfl⟩)⟩
  obtain ⟨hx1,hx2,hx3⟩:=Dk hS hi
  have er:Fi m k s=(if x.code=2 then (if (Co m k).1=true then BI m k else Cp m k) else if x.code=3 then CH m k else if x.code=5 then Cx m k else if x.code=6 then CX m k 2 x.a else CA m k):=by unfold Fi;rw [hi2]
  rw [er]
  have qn:=RW (i+1) pf m hm k
  have qd:=rU (i+0) pf m hm k
  have qf:=rT (i+0) pf m hm k
  have qs:=rR (i+1) pf m hm k
  have qk:=a3p (i+1) pf m hm k
  have qp:=iA (i+0) pf m hm k
  have qe:=Qm (i+1) pf m hm k 2 x.a
  simp only [Nat.add_assoc,Nat.reduceAdd] at qn qd qf qs qk qp qe
  generalize BI m k=D at qd ⊢
  generalize Cp m k=Fe at qf ⊢
  generalize CH m k=St at qs ⊢
  generalize CA m k=Ca at qk ⊢
  generalize Cx m k=Pa at qp ⊢
  generalize CX m k 2 x.a=En at qe ⊢
  generalize Co m k=Ne at qn ⊢
  rcases Kg hx1 with hc | hc | hc | hc | hc | hc | hc
  ·rw [if_neg (by omega),if_neg (by omega),if_neg (by omega),if_neg (by omega)]
   refine Ac rfl 0 (by rfl) ?_
   delta Nw
   cases pf<;>simp +contextual -dsimp -implicitDefEqProofs (maxSteps:=5000000) only [q,qk,hs,e1,e2,hc,go_sem,simprocAttr]
  ·rw [if_neg (by omega),if_neg (by omega),if_neg (by omega),if_neg (by omega)]
   refine Ac rfl 0 (by rfl) ?_
   delta Nw
   cases pf<;>simp +contextual -dsimp -implicitDefEqProofs (maxSteps:=5000000) only [q,qk,hs,e1,e2,hc,go_sem,simprocAttr]
  ·rw [if_pos hc]
   obtain ⟨Ne1,Ne2⟩:=Ne
   cases Ne1
   ·rw [if_neg (by simp)]
    refine Ac rfl 0 (by rfl) ?_
    delta Nw
    cases pf<;>simp +contextual -dsimp -implicitDefEqProofs (maxSteps:=5000000) only [q,qn,qf,hs,e1,e2,hc,go_sem,simprocAttr]
   ·rw [if_pos rfl]
    refine Ac rfl 0 (by rfl) ?_
    delta Nw
    cases pf<;>simp +contextual -dsimp -implicitDefEqProofs (maxSteps:=5000000) only [q,qn,qd,hs,e1,e2,hc,go_sem,simprocAttr]
  ·rw [if_neg (by omega),if_pos hc]
   refine Ac rfl 0 (by rfl) ?_
   delta Nw
   cases pf<;>simp +contextual -dsimp -implicitDefEqProofs (maxSteps:=5000000) only [q,qs,hs,e1,e2,hc,go_sem,simprocAttr]
  ·rw [if_neg (by omega),if_neg (by omega),if_neg (by omega),if_neg (by omega)]
   refine Ac rfl 0 (by rfl) ?_
   delta Nw
   cases pf<;>simp +contextual -dsimp -implicitDefEqProofs (maxSteps:=5000000) only [q,qk,hs,e1,e2,hc,go_sem,simprocAttr]
  ·rw [if_neg (by omega),if_neg (by omega),if_pos hc]
   refine Ac rfl 0 (by rfl) ?_
   delta Nw
   cases pf<;>simp +contextual -dsimp -implicitDefEqProofs (maxSteps:=5000000) only [q,qp,hs,e1,e2,hc,go_sem,simprocAttr]
  ·rw [if_neg (by omega),if_neg (by omega),if_neg (by omega),if_pos hc]
   refine Ac rfl 0 (by rfl) ?_
   delta Nw
   cases pf<;>simp +contextual -dsimp -implicitDefEqProofs (maxSteps:=5000000) only [q,qe,hs,e1,e2,hc,hp,p1,p2,hi,go_sem,simprocAttr]
theorem Qb {m:Ad} {at_:Int} (h:BT m at_=false):Cm m at_=(Az,2300):=by unfold Cm;rw [h];rfl
theorem RF {m:Ad} {k:Nat} {s:Ai} (hs:m.sess[k]?=some s) (hM:Bt m) (h:(Br m k s).2=0):Cm m k=((Br m k s).1,0):=by
 unfold Cm;rw [Bs hs hM];simp only [if_true,Int.toNat_natCast,hs,h]
theorem Tj {m:Ad} {k:Nat} {s:Ai} (hs:m.sess[k]?=some s) (hM:Bt m) (h:¬ (Br m k s).2=0):Cm m k=(Az,2300):=by
 unfold Cm;rw [Bs hs hM];simp only [if_true,Int.toNat_natCast,hs,h,if_false]
theorem a3h (i:Nat) (pf:Bool) (m:Ad) (hm:SmM m) (at_:Int):Aa (Lv ctx (i+12)) 73 [eM pf m,iV at_]=some (.tup [oM (Cm m at_).1,iV (Cm m at_).2]):=by
 have qh:=HM (i+3) pf m at_ hm
 have qc:=FH (i+9) pf m hm
 simp only [Nat.add_assoc,Nat.reduceAdd] at qh qc
 rcases FK m at_ with h | ⟨k,s,rfl,hs,hM,hS⟩
 ·rw [Qb h,Ay]
  rw [h] at qh
  refine Ac rfl 0 (by rfl) ?_
  delta c73
  cases pf<;>simp +contextual -dsimp -implicitDefEqProofs (maxSteps:=5000000) only [qh,go_sem,simprocAttr]
 ·have hh:=Bs hs hM
  rw [hh] at qh
  have hk:=Ax hs
  have e1:(0≤(k:Int))=True:=by simp
  have e2:((k:Int)<(m.sess.length:Int))=True:=by simpa using hk
  have e3:∀ x,((m.sess.map oS).set k x)[k]?=some x:=fun x=>List.getElem?_set_self (by simpa using hk)
  have e4:∀ x y,((m.sess.map oS).set k x).set k y=(m.sess.map oS).set k y:=fun x y=>List.set_set ..
  have q1:=a3n (i+1) pf m hm k
  have q2:=rS (i+1) pf m hm k
  have q3:=rV (i+1) pf m hm k
  have q4:=a3q (i+1) pf m hm k
  have q5:=iA (i+1) pf m hm k
  have hst:=AL.1 hS.step
  simp only [Nat.add_assoc,Nat.reduceAdd] at q1 q2 q3 q4 q5
  have fin:∀ (A:Ad × Int),Br m k s=A→∃ T:Ad × Int,Cm m k=T∧(A.2=0∧T=(A.1,0)∨¬ A.2=0∧T=(Az,2300)):=by
   intro A hA
   by_cases h0:A.2=0
   ·exact ⟨_,RF hs hM (by rw [hA];exact h0),.inl ⟨h0,by rw [hA]⟩⟩
   ·exact ⟨_,Tj hs hM (by rw [hA];exact h0),.inr ⟨h0,rfl⟩⟩
  obtain h0 | h0 | h0 | h0 | h0 | h0 | h0:s.step=0∨s.step=1∨s.step=2∨s.step=3∨s.step=4∨s.step=5∨s.step=6:=by omega
  ·have q0:=a9b (i+0) pf m hm k s hs hM hS h0
   simp only [Nat.add_assoc,Nat.reduceAdd] at q0
   have hA:Br m k s=Fi m k s:=by unfold Br;simp only [h0,show ((1:Int)=0)=False by decide,show ((2:Int)=0)=False by decide,show ((2:Int)=1)=False by decide,show ((3:Int)=0)=False by decide,show ((3:Int)=1)=False by decide,show ((3:Int)=2)=False by decide,show ((4:Int)=0)=False by decide,show ((4:Int)=1)=False by decide,show ((4:Int)=2)=False by decide,show ((4:Int)=3)=False by decide,show ((5:Int)=0)=False by decide,show ((5:Int)=1)=False by decide,show ((5:Int)=2)=False by decide,show ((5:Int)=3)=False by decide,show ((5:Int)=4)=False by decide,show ((6:Int)=0)=False by decide,show ((6:Int)=1)=False by decide,show ((6:Int)=2)=False by decide,show ((6:Int)=3)=False by decide,show ((6:Int)=4)=False by decide,show ((6:Int)=5)=False by decide,if_true,if_false]
   obtain ⟨T,hT,hT2⟩:=fin _ hA
   rw [hT]
   clear hT hA fin
   generalize Fi m k s=A at q0 hT2
   rcases hT2 with ⟨ha,rfl⟩ | ⟨ha,rfl⟩
   ·have z1:decide (A.2=0)=true:=by simpa using ha
    refine Ac rfl 0 (by rfl) ?_
    delta c73
    cases pf<;>simp +contextual -dsimp -implicitDefEqProofs (maxSteps:=5000000) only [qh,qc,q0,hs,e1,e2,h0,z1,ha,go_sem,simprocAttr]
   ·have z1:decide (A.2=0)=false:=by simpa using ha
    rw [Ay]
    refine Ac rfl 0 (by rfl) ?_
    delta c73
    cases pf<;>simp +contextual -dsimp -implicitDefEqProofs (maxSteps:=5000000) only [qh,qc,q0,hs,e1,e2,h0,z1,go_sem,simprocAttr]
  ·have hA:Br m k s=Ed m k:=by unfold Br;simp only [h0,show ((1:Int)=0)=False by decide,show ((2:Int)=0)=False by decide,show ((2:Int)=1)=False by decide,show ((3:Int)=0)=False by decide,show ((3:Int)=1)=False by decide,show ((3:Int)=2)=False by decide,show ((4:Int)=0)=False by decide,show ((4:Int)=1)=False by decide,show ((4:Int)=2)=False by decide,show ((4:Int)=3)=False by decide,show ((5:Int)=0)=False by decide,show ((5:Int)=1)=False by decide,show ((5:Int)=2)=False by decide,show ((5:Int)=3)=False by decide,show ((5:Int)=4)=False by decide,show ((6:Int)=0)=False by decide,show ((6:Int)=1)=False by decide,show ((6:Int)=2)=False by decide,show ((6:Int)=3)=False by decide,show ((6:Int)=4)=False by decide,show ((6:Int)=5)=False by decide,if_true,if_false]
   obtain ⟨T,hT,hT2⟩:=fin _ hA
   rw [hT]
   clear hT hA fin
   generalize Ed m k=A at q1 hT2
   rcases hT2 with ⟨ha,rfl⟩ | ⟨ha,rfl⟩
   ·have z1:decide (A.2=0)=true:=by simpa using ha
    refine Ac rfl 0 (by rfl) ?_
    delta c73
    cases pf<;>simp +contextual -dsimp -implicitDefEqProofs (maxSteps:=5000000) only [qh,qc,q1,hs,e1,e2,h0,z1,ha,go_sem,simprocAttr]
   ·have z1:decide (A.2=0)=false:=by simpa using ha
    rw [Ay]
    refine Ac rfl 0 (by rfl) ?_
    delta c73
    cases pf<;>simp +contextual -dsimp -implicitDefEqProofs (maxSteps:=5000000) only [qh,qc,q1,hs,e1,e2,h0,z1,go_sem,simprocAttr]
  ·have hA:Br m k s=Do m k:=by unfold Br;simp only [h0,show ((1:Int)=0)=False by decide,show ((2:Int)=0)=False by decide,show ((2:Int)=1)=False by decide,show ((3:Int)=0)=False by decide,show ((3:Int)=1)=False by decide,show ((3:Int)=2)=False by decide,show ((4:Int)=0)=False by decide,show ((4:Int)=1)=False by decide,show ((4:Int)=2)=False by decide,show ((4:Int)=3)=False by decide,show ((5:Int)=0)=False by decide,show ((5:Int)=1)=False by decide,show ((5:Int)=2)=False by decide,show ((5:Int)=3)=False by decide,show ((5:Int)=4)=False by decide,show ((6:Int)=0)=False by decide,show ((6:Int)=1)=False by decide,show ((6:Int)=2)=False by decide,show ((6:Int)=3)=False by decide,show ((6:Int)=4)=False by decide,show ((6:Int)=5)=False by decide,if_true,if_false]
   obtain ⟨T,hT,hT2⟩:=fin _ hA
   rw [hT]
   clear hT hA fin
   generalize Do m k=A at q2 hT2
   rcases hT2 with ⟨ha,rfl⟩ | ⟨ha,rfl⟩
   ·have z1:decide (A.2=0)=true:=by simpa using ha
    refine Ac rfl 0 (by rfl) ?_
    delta c73
    cases pf<;>simp +contextual -dsimp -implicitDefEqProofs (maxSteps:=5000000) only [qh,qc,q2,hs,e1,e2,h0,z1,ha,go_sem,simprocAttr]
   ·have z1:decide (A.2=0)=false:=by simpa using ha
    rw [Ay]
    refine Ac rfl 0 (by rfl) ?_
    delta c73
    cases pf<;>simp +contextual -dsimp -implicitDefEqProofs (maxSteps:=5000000) only [qh,qc,q2,hs,e1,e2,h0,z1,go_sem,simprocAttr]
  ·have hA:Br m k s=Dr m k:=by unfold Br;simp only [h0,show ((1:Int)=0)=False by decide,show ((2:Int)=0)=False by decide,show ((2:Int)=1)=False by decide,show ((3:Int)=0)=False by decide,show ((3:Int)=1)=False by decide,show ((3:Int)=2)=False by decide,show ((4:Int)=0)=False by decide,show ((4:Int)=1)=False by decide,show ((4:Int)=2)=False by decide,show ((4:Int)=3)=False by decide,show ((5:Int)=0)=False by decide,show ((5:Int)=1)=False by decide,show ((5:Int)=2)=False by decide,show ((5:Int)=3)=False by decide,show ((5:Int)=4)=False by decide,show ((6:Int)=0)=False by decide,show ((6:Int)=1)=False by decide,show ((6:Int)=2)=False by decide,show ((6:Int)=3)=False by decide,show ((6:Int)=4)=False by decide,show ((6:Int)=5)=False by decide,if_true,if_false]
   obtain ⟨T,hT,hT2⟩:=fin _ hA
   rw [hT]
   clear hT hA fin
   generalize Dr m k=A at q3 hT2
   rcases hT2 with ⟨ha,rfl⟩ | ⟨ha,rfl⟩
   ·have z1:decide (A.2=0)=true:=by simpa using ha
    refine Ac rfl 0 (by rfl) ?_
    delta c73
    cases pf<;>simp +contextual -dsimp -implicitDefEqProofs (maxSteps:=5000000) only [qh,qc,q3,hs,e1,e2,h0,z1,ha,go_sem,simprocAttr]
   ·have z1:decide (A.2=0)=false:=by simpa using ha
    rw [Ay]
    refine Ac rfl 0 (by rfl) ?_
    delta c73
    cases pf<;>simp +contextual -dsimp -implicitDefEqProofs (maxSteps:=5000000) only [qh,qc,q3,hs,e1,e2,h0,z1,go_sem,simprocAttr]
  ·have hA:Br m k s=Ei m k:=by unfold Br;simp only [h0,show ((1:Int)=0)=False by decide,show ((2:Int)=0)=False by decide,show ((2:Int)=1)=False by decide,show ((3:Int)=0)=False by decide,show ((3:Int)=1)=False by decide,show ((3:Int)=2)=False by decide,show ((4:Int)=0)=False by decide,show ((4:Int)=1)=False by decide,show ((4:Int)=2)=False by decide,show ((4:Int)=3)=False by decide,show ((5:Int)=0)=False by decide,show ((5:Int)=1)=False by decide,show ((5:Int)=2)=False by decide,show ((5:Int)=3)=False by decide,show ((5:Int)=4)=False by decide,show ((6:Int)=0)=False by decide,show ((6:Int)=1)=False by decide,show ((6:Int)=2)=False by decide,show ((6:Int)=3)=False by decide,show ((6:Int)=4)=False by decide,show ((6:Int)=5)=False by decide,if_true,if_false]
   obtain ⟨T,hT,hT2⟩:=fin _ hA
   rw [hT]
   clear hT hA fin
   generalize Ei m k=A at q4 hT2
   rcases hT2 with ⟨ha,rfl⟩ | ⟨ha,rfl⟩
   ·have z1:decide (A.2=0)=true:=by simpa using ha
    refine Ac rfl 0 (by rfl) ?_
    delta c73
    cases pf<;>simp +contextual -dsimp -implicitDefEqProofs (maxSteps:=5000000) only [qh,qc,q4,hs,e1,e2,h0,z1,ha,go_sem,simprocAttr]
   ·have z1:decide (A.2=0)=false:=by simpa using ha
    rw [Ay]
    refine Ac rfl 0 (by rfl) ?_
    delta c73
    cases pf<;>simp +contextual -dsimp -implicitDefEqProofs (maxSteps:=5000000) only [qh,qc,q4,hs,e1,e2,h0,z1,go_sem,simprocAttr]
  ·have hA:Br m k s=Cx m k:=by unfold Br;simp only [h0,show ((1:Int)=0)=False by decide,show ((2:Int)=0)=False by decide,show ((2:Int)=1)=False by decide,show ((3:Int)=0)=False by decide,show ((3:Int)=1)=False by decide,show ((3:Int)=2)=False by decide,show ((4:Int)=0)=False by decide,show ((4:Int)=1)=False by decide,show ((4:Int)=2)=False by decide,show ((4:Int)=3)=False by decide,show ((5:Int)=0)=False by decide,show ((5:Int)=1)=False by decide,show ((5:Int)=2)=False by decide,show ((5:Int)=3)=False by decide,show ((5:Int)=4)=False by decide,show ((6:Int)=0)=False by decide,show ((6:Int)=1)=False by decide,show ((6:Int)=2)=False by decide,show ((6:Int)=3)=False by decide,show ((6:Int)=4)=False by decide,show ((6:Int)=5)=False by decide,if_true,if_false]
   obtain ⟨T,hT,hT2⟩:=fin _ hA
   rw [hT]
   clear hT hA fin
   generalize Cx m k=A at q5 hT2
   rcases hT2 with ⟨ha,rfl⟩ | ⟨ha,rfl⟩
   ·have z1:decide (A.2=0)=true:=by simpa using ha
    refine Ac rfl 0 (by rfl) ?_
    delta c73
    cases pf<;>simp +contextual -dsimp -implicitDefEqProofs (maxSteps:=5000000) only [qh,qc,q5,hs,e1,e2,h0,z1,ha,go_sem,simprocAttr]
   ·have z1:decide (A.2=0)=false:=by simpa using ha
    rw [Ay]
    refine Ac rfl 0 (by rfl) ?_
    delta c73
    cases pf<;>simp +contextual -dsimp -implicitDefEqProofs (maxSteps:=5000000) only [qh,qc,q5,hs,e1,e2,h0,z1,go_sem,simprocAttr]
  ·have hA:Br m k s=(m,0):=by unfold Br;simp only [h0,show ((6:Int)=0)=False by decide,show ((6:Int)=1)=False by decide,show ((6:Int)=2)=False by decide,show ((6:Int)=3)=False by decide,show ((6:Int)=4)=False by decide,show ((6:Int)=5)=False by decide,if_true,if_false]
   rw [RF hs hM (by rw [hA]),hA]
   refine Ac rfl 0 (by rfl) ?_
   delta c73
   cases pf<;>simp +contextual -dsimp -implicitDefEqProofs (maxSteps:=5000000) only [qh,qc,hs,e1,e2,h0,go_sem,simprocAttr]
end Ve
