/- The reference's steps, all. -/
import Derived.Test.YtokhplohcachjaaGreatS29
import Derived.Test.YtokhplohcachjaaGreatVeSE
import Derived.Test.YtokhplohcachjaaGreatS31
import Derived.Test.YtokhplohcachjaaGreatS32
import Derived.Test.YtokhplohcachjaaGreatS33
set_option linter.all false
set_option linter.unusedSectionVars false
namespace Ve
open Go Ve.Ab
set_option maxHeartbeats 16000000
set_option maxRecDepth 10000
theorem tQ (i:Nat) (pf:Bool) (m:Ad) (hm:SmM m) (k:Nat) (s:Ag) (hs:m.sess[k]?=some s) (hM:Bk m) (hS:SP m.words s) (hst:s.step=0):Aa (Lv ctx (i+11)) 41 [eM pf m,iV k]=some (.tup [oM (EB m k s).1,iV (EB m k s).2]):=by
 have qc:=EV (i+8) pf m hm
 have qr:=fun v h=>Hj (i+9) pf m k v h
 simp only [Nat.add_assoc,Nat.reduceAdd] at qc qr
 have hk:=Au hs
 have e1:(0≤(k:Int))=True:=by simp
 have e2:((k:Int)<(m.sess.length:Int))=True:=by simpa using hk
 have e3:∀ x,((m.sess.map oS).set k x)[k]?=some x:=fun x=>List.getElem?_set_self (by simpa using hk)
 have e4:∀ x y,((m.sess.map oS).set k x).set k y=(m.sess.map oS).set k y:=fun x y=>List.set_set ..
 have hh:=Bf hs hM
 have hAt:=DG m k
 have hp0:=AG.1 hS.pc
 by_cases hfin:s.pc=(s.prog.length:Int)
 ·have hlen:s.prog[s.pc.toNat]?=none:=by rw [hfin];simp
  have e:EB m k s=DQ m k s:=by unfold EB;rw [hlen]
  rw [e]
  have q:=qr (-1) ⟨k,s,rfl,hs,hS,.inr (.inl ⟨hst,hfin,rfl⟩)⟩
  have hsm:=hm.s s (List.mem_of_getElem? hs)
  have qw:=TC (i+5) pf false s.writes (by have:=hsm.bw;simp only [BB];omega) s.label
  have qe:=NV (i+1) pf m hm k 3 0
  simp only [Nat.add_assoc,Nat.reduceAdd] at qw qe
  cases hw:Dt s.writes s.label
  ·have e2':DQ m k s=Cy m k 3 0:=by unfold DQ;rw [hw];simp only [Bool.false_eq_true,if_false]
   rw [e2']
   rw [hw] at qw
   generalize Cy m k 3 0=r at qe ⊢
   refine Ac rfl 0 (by rfl) ?_
   delta c41
   cases pf<;>simp +contextual -dsimp -implicitDefEqProofs (maxSteps:=5000000) only [q,qw,qe,hs,e1,e2,go_sem,simprocAttr]
  ·rw [hw] at qw
   by_cases hn:s.writes=[]
   ·have e2':DQ m k s=(Az m k { s with at_:=0,step:=3 },0):=by unfold DQ;rw [hw];simp only [hn,if_true,Int.toNat_natCast]
    rw [e2']
    have z1:decide ((s.writes.length:Int)=0)=true:=by rw [hn];rfl
    simp only [Az,Int.toNat_natCast,oM,cO,oWs,oSs,oEs,List.map_set,oS]
    refine Ac rfl 0 (by rfl) ?_
    delta c41
    cases pf<;>simp +contextual -dsimp -implicitDefEqProofs (maxSteps:=5000000) only [q,qc,qw,hs,e1,e2,e3,e4,z1,List.length_set,hk,go_sem,simprocAttr]
   ·have e2':DQ m k s=(Az m k { s with at_:=0,step:=1 },0):=by unfold DQ;rw [hw];simp only [hn,if_true,if_false,Int.toNat_natCast]
    rw [e2']
    have z1:decide ((s.writes.length:Int)=0)=false:=by
     have:=List.length_pos_iff.2 hn
     simp;omega
    simp only [Az,Int.toNat_natCast,oM,cO,oWs,oSs,oEs,List.map_set,oS]
    refine Ac rfl 0 (by rfl) ?_
    delta c41
    cases pf<;>simp +contextual -dsimp -implicitDefEqProofs (maxSteps:=5000000) only [q,qc,qw,hs,e1,e2,e3,e4,z1,List.length_set,hk,go_sem,simprocAttr]
 ·have hn:s.pc.toNat<s.prog.length:=by omega
  obtain ⟨n,hp⟩:∃ n:Nat,s.pc=(n:Int):=⟨s.pc.toNat,by omega⟩
  have hn1:n<s.prog.length:=by omega
  obtain ⟨x,hi⟩:∃ x,s.prog[n]?=some x:=⟨s.prog[n],by simp [hn1]⟩
  have hi2:s.prog[s.pc.toNat]?=some x:=by rw [hp];simpa using hi
  have p1:(0≤(n:Int))=True:=by simp
  have p2:((n:Int)<(s.prog.length:Int))=True:=by simpa using hn1
  have q:=qr x.code ⟨k,s,rfl,hs,hS,.inr (.inr ⟨hst,n,x,hp,hi,rfl⟩)⟩
  obtain ⟨hx1,hx2,hx3⟩:=CV hS hi
  have er:EB m k s=(if x.code=2 then (if (BS m k).1=true then Bs m k else BT m k) else if x.code=3 then Cl m k else if x.code=5 then Cd m k else if x.code=6 then Cy m k 2 x.a else Cg m k):=by unfold EB;rw [hi2]
  rw [er]
  have qn:=Pt (i+1) pf m hm k
  have qd:=gS (i+0) pf m hm k
  have qf:=gR (i+0) pf m hm k
  have qs:=gK (i+1) pf m hm k
  have qk:=oR (i+1) pf m hm k
  have qp:=Zw (i+0) pf m hm k
  have qe:=NV (i+1) pf m hm k 2 x.a
  simp only [Nat.add_assoc,Nat.reduceAdd] at qn qd qf qs qk qp qe
  generalize Bs m k=D at qd ⊢
  generalize BT m k=Fe at qf ⊢
  generalize Cl m k=St at qs ⊢
  generalize Cg m k=Ca at qk ⊢
  generalize Cd m k=Pa at qp ⊢
  generalize Cy m k 2 x.a=En at qe ⊢
  generalize BS m k=Ne at qn ⊢
  rcases IW hx1 with hc | hc | hc | hc | hc | hc | hc
  ·rw [if_neg (by omega),if_neg (by omega),if_neg (by omega),if_neg (by omega)]
   refine Ac rfl 0 (by rfl) ?_
   delta c41
   cases pf<;>simp +contextual -dsimp -implicitDefEqProofs (maxSteps:=5000000) only [q,qk,hs,e1,e2,hc,go_sem,simprocAttr]
  ·rw [if_neg (by omega),if_neg (by omega),if_neg (by omega),if_neg (by omega)]
   refine Ac rfl 0 (by rfl) ?_
   delta c41
   cases pf<;>simp +contextual -dsimp -implicitDefEqProofs (maxSteps:=5000000) only [q,qk,hs,e1,e2,hc,go_sem,simprocAttr]
  ·rw [if_pos hc]
   obtain ⟨Ne1,Ne2⟩:=Ne
   cases Ne1
   ·rw [if_neg (by simp)]
    refine Ac rfl 0 (by rfl) ?_
    delta c41
    cases pf<;>simp +contextual -dsimp -implicitDefEqProofs (maxSteps:=5000000) only [q,qn,qf,hs,e1,e2,hc,go_sem,simprocAttr]
   ·rw [if_pos rfl]
    refine Ac rfl 0 (by rfl) ?_
    delta c41
    cases pf<;>simp +contextual -dsimp -implicitDefEqProofs (maxSteps:=5000000) only [q,qn,qd,hs,e1,e2,hc,go_sem,simprocAttr]
  ·rw [if_neg (by omega),if_pos hc]
   refine Ac rfl 0 (by rfl) ?_
   delta c41
   cases pf<;>simp +contextual -dsimp -implicitDefEqProofs (maxSteps:=5000000) only [q,qs,hs,e1,e2,hc,go_sem,simprocAttr]
  ·rw [if_neg (by omega),if_neg (by omega),if_neg (by omega),if_neg (by omega)]
   refine Ac rfl 0 (by rfl) ?_
   delta c41
   cases pf<;>simp +contextual -dsimp -implicitDefEqProofs (maxSteps:=5000000) only [q,qk,hs,e1,e2,hc,go_sem,simprocAttr]
  ·rw [if_neg (by omega),if_neg (by omega),if_pos hc]
   refine Ac rfl 0 (by rfl) ?_
   delta c41
   cases pf<;>simp +contextual -dsimp -implicitDefEqProofs (maxSteps:=5000000) only [q,qp,hs,e1,e2,hc,go_sem,simprocAttr]
  ·rw [if_neg (by omega),if_neg (by omega),if_neg (by omega),if_pos hc]
   refine Ac rfl 0 (by rfl) ?_
   delta c41
   cases pf<;>simp +contextual -dsimp -implicitDefEqProofs (maxSteps:=5000000) only [q,qe,hs,e1,e2,hc,hp,p1,p2,hi,go_sem,simprocAttr]
theorem Hd {m:Ad} {at_:Int} (h:Bj m at_=false):Be m at_=(AK,2300):=by unfold Be;rw [h];rfl
theorem JP {m:Ad} {k:Nat} {s:Ag} (hs:m.sess[k]?=some s) (hM:Bk m) (h:(Bb m k s).2=0):Be m k=((Bb m k s).1,0):=by
 unfold Be;rw [Bf hs hM];simp only [if_true,Int.toNat_natCast,hs,h]
theorem JQ {m:Ad} {k:Nat} {s:Ag} (hs:m.sess[k]?=some s) (hM:Bk m) (h:¬ (Bb m k s).2=0):Be m k=(AK,2300):=by
 unfold Be;rw [Bf hs hM];simp only [if_true,Int.toNat_natCast,hs,h,if_false]
theorem Ps (i:Nat) (pf:Bool) (m:Ad) (hm:SmM m) (at_:Int):Aa (Lv ctx (i+12)) 17 [eM pf m,iV at_]=some (.tup [oM (Be m at_).1,iV (Be m at_).2]):=by
 have qh:=GY (i+3) pf m at_ hm
 have qc:=EV (i+9) pf m hm
 simp only [Nat.add_assoc,Nat.reduceAdd] at qh qc
 rcases DA m at_ with h | ⟨k,s,rfl,hs,hM,hS⟩
 ·rw [Hd h,Aw]
  rw [h] at qh
  refine Ac rfl 0 (by rfl) ?_
  delta c17
  cases pf<;>simp +contextual -dsimp -implicitDefEqProofs (maxSteps:=5000000) only [qh,go_sem,simprocAttr]
 ·have hh:=Bf hs hM
  rw [hh] at qh
  have hk:=Au hs
  have e1:(0≤(k:Int))=True:=by simp
  have e2:((k:Int)<(m.sess.length:Int))=True:=by simpa using hk
  have e3:∀ x,((m.sess.map oS).set k x)[k]?=some x:=fun x=>List.getElem?_set_self (by simpa using hk)
  have e4:∀ x y,((m.sess.map oS).set k x).set k y=(m.sess.map oS).set k y:=fun x y=>List.set_set ..
  have q1:=oP (i+1) pf m hm k
  have q2:=gQ (i+1) pf m hm k
  have q3:=gT (i+1) pf m hm k
  have q4:=oU (i+1) pf m hm k
  have q5:=Zw (i+1) pf m hm k
  have hst:=AG.1 hS.step
  simp only [Nat.add_assoc,Nat.reduceAdd] at q1 q2 q3 q4 q5
  have fin:∀ (A:Ad × Int),Bb m k s=A→∃ T:Ad × Int,Be m k=T∧(A.2=0∧T=(A.1,0)∨¬ A.2=0∧T=(AK,2300)):=by
   intro A hA
   by_cases h0:A.2=0
   ·exact ⟨_,JP hs hM (by rw [hA];exact h0),.inl ⟨h0,by rw [hA]⟩⟩
   ·exact ⟨_,JQ hs hM (by rw [hA];exact h0),.inr ⟨h0,rfl⟩⟩
  obtain h0 | h0 | h0 | h0 | h0 | h0 | h0:s.step=0∨s.step=1∨s.step=2∨s.step=3∨s.step=4∨s.step=5∨s.step=6:=by omega
  ·have q0:=tQ (i+0) pf m hm k s hs hM hS h0
   simp only [Nat.add_assoc,Nat.reduceAdd] at q0
   have hA:Bb m k s=EB m k s:=by unfold Bb;simp only [h0,show ((1:Int)=0)=False by decide,show ((2:Int)=0)=False by decide,show ((2:Int)=1)=False by decide,show ((3:Int)=0)=False by decide,show ((3:Int)=1)=False by decide,show ((3:Int)=2)=False by decide,show ((4:Int)=0)=False by decide,show ((4:Int)=1)=False by decide,show ((4:Int)=2)=False by decide,show ((4:Int)=3)=False by decide,show ((5:Int)=0)=False by decide,show ((5:Int)=1)=False by decide,show ((5:Int)=2)=False by decide,show ((5:Int)=3)=False by decide,show ((5:Int)=4)=False by decide,show ((6:Int)=0)=False by decide,show ((6:Int)=1)=False by decide,show ((6:Int)=2)=False by decide,show ((6:Int)=3)=False by decide,show ((6:Int)=4)=False by decide,show ((6:Int)=5)=False by decide,if_true,if_false]
   obtain ⟨T,hT,hT2⟩:=fin _ hA
   rw [hT]
   clear hT hA fin
   generalize EB m k s=A at q0 hT2
   rcases hT2 with ⟨ha,rfl⟩ | ⟨ha,rfl⟩
   ·have z1:decide (A.2=0)=true:=by simpa using ha
    refine Ac rfl 0 (by rfl) ?_
    delta c17
    cases pf<;>simp +contextual -dsimp -implicitDefEqProofs (maxSteps:=5000000) only [qh,qc,q0,hs,e1,e2,h0,z1,ha,go_sem,simprocAttr]
   ·have z1:decide (A.2=0)=false:=by simpa using ha
    rw [Aw]
    refine Ac rfl 0 (by rfl) ?_
    delta c17
    cases pf<;>simp +contextual -dsimp -implicitDefEqProofs (maxSteps:=5000000) only [qh,qc,q0,hs,e1,e2,h0,z1,go_sem,simprocAttr]
  ·have hA:Bb m k s=DB m k:=by unfold Bb;simp only [h0,show ((1:Int)=0)=False by decide,show ((2:Int)=0)=False by decide,show ((2:Int)=1)=False by decide,show ((3:Int)=0)=False by decide,show ((3:Int)=1)=False by decide,show ((3:Int)=2)=False by decide,show ((4:Int)=0)=False by decide,show ((4:Int)=1)=False by decide,show ((4:Int)=2)=False by decide,show ((4:Int)=3)=False by decide,show ((5:Int)=0)=False by decide,show ((5:Int)=1)=False by decide,show ((5:Int)=2)=False by decide,show ((5:Int)=3)=False by decide,show ((5:Int)=4)=False by decide,show ((6:Int)=0)=False by decide,show ((6:Int)=1)=False by decide,show ((6:Int)=2)=False by decide,show ((6:Int)=3)=False by decide,show ((6:Int)=4)=False by decide,show ((6:Int)=5)=False by decide,if_true,if_false]
   obtain ⟨T,hT,hT2⟩:=fin _ hA
   rw [hT]
   clear hT hA fin
   generalize DB m k=A at q1 hT2
   rcases hT2 with ⟨ha,rfl⟩ | ⟨ha,rfl⟩
   ·have z1:decide (A.2=0)=true:=by simpa using ha
    refine Ac rfl 0 (by rfl) ?_
    delta c17
    cases pf<;>simp +contextual -dsimp -implicitDefEqProofs (maxSteps:=5000000) only [qh,qc,q1,hs,e1,e2,h0,z1,ha,go_sem,simprocAttr]
   ·have z1:decide (A.2=0)=false:=by simpa using ha
    rw [Aw]
    refine Ac rfl 0 (by rfl) ?_
    delta c17
    cases pf<;>simp +contextual -dsimp -implicitDefEqProofs (maxSteps:=5000000) only [qh,qc,q1,hs,e1,e2,h0,z1,go_sem,simprocAttr]
  ·have hA:Bb m k s=CL m k:=by unfold Bb;simp only [h0,show ((1:Int)=0)=False by decide,show ((2:Int)=0)=False by decide,show ((2:Int)=1)=False by decide,show ((3:Int)=0)=False by decide,show ((3:Int)=1)=False by decide,show ((3:Int)=2)=False by decide,show ((4:Int)=0)=False by decide,show ((4:Int)=1)=False by decide,show ((4:Int)=2)=False by decide,show ((4:Int)=3)=False by decide,show ((5:Int)=0)=False by decide,show ((5:Int)=1)=False by decide,show ((5:Int)=2)=False by decide,show ((5:Int)=3)=False by decide,show ((5:Int)=4)=False by decide,show ((6:Int)=0)=False by decide,show ((6:Int)=1)=False by decide,show ((6:Int)=2)=False by decide,show ((6:Int)=3)=False by decide,show ((6:Int)=4)=False by decide,show ((6:Int)=5)=False by decide,if_true,if_false]
   obtain ⟨T,hT,hT2⟩:=fin _ hA
   rw [hT]
   clear hT hA fin
   generalize CL m k=A at q2 hT2
   rcases hT2 with ⟨ha,rfl⟩ | ⟨ha,rfl⟩
   ·have z1:decide (A.2=0)=true:=by simpa using ha
    refine Ac rfl 0 (by rfl) ?_
    delta c17
    cases pf<;>simp +contextual -dsimp -implicitDefEqProofs (maxSteps:=5000000) only [qh,qc,q2,hs,e1,e2,h0,z1,ha,go_sem,simprocAttr]
   ·have z1:decide (A.2=0)=false:=by simpa using ha
    rw [Aw]
    refine Ac rfl 0 (by rfl) ?_
    delta c17
    cases pf<;>simp +contextual -dsimp -implicitDefEqProofs (maxSteps:=5000000) only [qh,qc,q2,hs,e1,e2,h0,z1,go_sem,simprocAttr]
  ·have hA:Bb m k s=CT m k:=by unfold Bb;simp only [h0,show ((1:Int)=0)=False by decide,show ((2:Int)=0)=False by decide,show ((2:Int)=1)=False by decide,show ((3:Int)=0)=False by decide,show ((3:Int)=1)=False by decide,show ((3:Int)=2)=False by decide,show ((4:Int)=0)=False by decide,show ((4:Int)=1)=False by decide,show ((4:Int)=2)=False by decide,show ((4:Int)=3)=False by decide,show ((5:Int)=0)=False by decide,show ((5:Int)=1)=False by decide,show ((5:Int)=2)=False by decide,show ((5:Int)=3)=False by decide,show ((5:Int)=4)=False by decide,show ((6:Int)=0)=False by decide,show ((6:Int)=1)=False by decide,show ((6:Int)=2)=False by decide,show ((6:Int)=3)=False by decide,show ((6:Int)=4)=False by decide,show ((6:Int)=5)=False by decide,if_true,if_false]
   obtain ⟨T,hT,hT2⟩:=fin _ hA
   rw [hT]
   clear hT hA fin
   generalize CT m k=A at q3 hT2
   rcases hT2 with ⟨ha,rfl⟩ | ⟨ha,rfl⟩
   ·have z1:decide (A.2=0)=true:=by simpa using ha
    refine Ac rfl 0 (by rfl) ?_
    delta c17
    cases pf<;>simp +contextual -dsimp -implicitDefEqProofs (maxSteps:=5000000) only [qh,qc,q3,hs,e1,e2,h0,z1,ha,go_sem,simprocAttr]
   ·have z1:decide (A.2=0)=false:=by simpa using ha
    rw [Aw]
    refine Ac rfl 0 (by rfl) ?_
    delta c17
    cases pf<;>simp +contextual -dsimp -implicitDefEqProofs (maxSteps:=5000000) only [qh,qc,q3,hs,e1,e2,h0,z1,go_sem,simprocAttr]
  ·have hA:Bb m k s=DF m k:=by unfold Bb;simp only [h0,show ((1:Int)=0)=False by decide,show ((2:Int)=0)=False by decide,show ((2:Int)=1)=False by decide,show ((3:Int)=0)=False by decide,show ((3:Int)=1)=False by decide,show ((3:Int)=2)=False by decide,show ((4:Int)=0)=False by decide,show ((4:Int)=1)=False by decide,show ((4:Int)=2)=False by decide,show ((4:Int)=3)=False by decide,show ((5:Int)=0)=False by decide,show ((5:Int)=1)=False by decide,show ((5:Int)=2)=False by decide,show ((5:Int)=3)=False by decide,show ((5:Int)=4)=False by decide,show ((6:Int)=0)=False by decide,show ((6:Int)=1)=False by decide,show ((6:Int)=2)=False by decide,show ((6:Int)=3)=False by decide,show ((6:Int)=4)=False by decide,show ((6:Int)=5)=False by decide,if_true,if_false]
   obtain ⟨T,hT,hT2⟩:=fin _ hA
   rw [hT]
   clear hT hA fin
   generalize DF m k=A at q4 hT2
   rcases hT2 with ⟨ha,rfl⟩ | ⟨ha,rfl⟩
   ·have z1:decide (A.2=0)=true:=by simpa using ha
    refine Ac rfl 0 (by rfl) ?_
    delta c17
    cases pf<;>simp +contextual -dsimp -implicitDefEqProofs (maxSteps:=5000000) only [qh,qc,q4,hs,e1,e2,h0,z1,ha,go_sem,simprocAttr]
   ·have z1:decide (A.2=0)=false:=by simpa using ha
    rw [Aw]
    refine Ac rfl 0 (by rfl) ?_
    delta c17
    cases pf<;>simp +contextual -dsimp -implicitDefEqProofs (maxSteps:=5000000) only [qh,qc,q4,hs,e1,e2,h0,z1,go_sem,simprocAttr]
  ·have hA:Bb m k s=Cd m k:=by unfold Bb;simp only [h0,show ((1:Int)=0)=False by decide,show ((2:Int)=0)=False by decide,show ((2:Int)=1)=False by decide,show ((3:Int)=0)=False by decide,show ((3:Int)=1)=False by decide,show ((3:Int)=2)=False by decide,show ((4:Int)=0)=False by decide,show ((4:Int)=1)=False by decide,show ((4:Int)=2)=False by decide,show ((4:Int)=3)=False by decide,show ((5:Int)=0)=False by decide,show ((5:Int)=1)=False by decide,show ((5:Int)=2)=False by decide,show ((5:Int)=3)=False by decide,show ((5:Int)=4)=False by decide,show ((6:Int)=0)=False by decide,show ((6:Int)=1)=False by decide,show ((6:Int)=2)=False by decide,show ((6:Int)=3)=False by decide,show ((6:Int)=4)=False by decide,show ((6:Int)=5)=False by decide,if_true,if_false]
   obtain ⟨T,hT,hT2⟩:=fin _ hA
   rw [hT]
   clear hT hA fin
   generalize Cd m k=A at q5 hT2
   rcases hT2 with ⟨ha,rfl⟩ | ⟨ha,rfl⟩
   ·have z1:decide (A.2=0)=true:=by simpa using ha
    refine Ac rfl 0 (by rfl) ?_
    delta c17
    cases pf<;>simp +contextual -dsimp -implicitDefEqProofs (maxSteps:=5000000) only [qh,qc,q5,hs,e1,e2,h0,z1,ha,go_sem,simprocAttr]
   ·have z1:decide (A.2=0)=false:=by simpa using ha
    rw [Aw]
    refine Ac rfl 0 (by rfl) ?_
    delta c17
    cases pf<;>simp +contextual -dsimp -implicitDefEqProofs (maxSteps:=5000000) only [qh,qc,q5,hs,e1,e2,h0,z1,go_sem,simprocAttr]
  ·have hA:Bb m k s=(m,0):=by unfold Bb;simp only [h0,show ((6:Int)=0)=False by decide,show ((6:Int)=1)=False by decide,show ((6:Int)=2)=False by decide,show ((6:Int)=3)=False by decide,show ((6:Int)=4)=False by decide,show ((6:Int)=5)=False by decide,if_true,if_false]
   rw [JP hs hM (by rw [hA]),hA]
   refine Ac rfl 0 (by rfl) ?_
   delta c17
   cases pf<;>simp +contextual -dsimp -implicitDefEqProofs (maxSteps:=5000000) only [qh,qc,hs,e1,e2,h0,go_sem,simprocAttr]
end Ve
