/- The reference's stamping, checking. -/
import Derived.Test.YtdgpalcplglhjaaGreatS27
import Derived.Test.YtdgpalcplglhjaaGreatVeSC
set_option linter.all false
set_option linter.unusedSectionVars false
namespace Ve
open Go Ve.Ab
set_option maxHeartbeats 16000000
set_option maxRecDepth 10000
theorem HW (m:Ad) (at_ st:Int):(Bq m at_=false∧Gb m at_ st=none)∨(∃ (k:Nat) (s:Af),at_=(k:Nat)∧m.sess[k]?=some s∧Bo m∧SP m.words s∧s.step≠st∧Bq m at_=true∧Gb m at_ st=none)∨∃ (k:Nat) (s:Af),at_=(k:Nat)∧m.sess[k]?=some s∧Bo m∧SP m.words s∧s.step=st∧Bq m at_=true∧Gb m at_ st=some s:=by
 rcases Ft m at_ with h | ⟨k,s,e,hs,hM,hS⟩
 ·exact .inl ⟨h,EC h⟩
 ·subst e
  by_cases hst:s.step=st
  ·exact .inr (.inr ⟨k,s,rfl,hs,hM,hS,hst,Bf hs hM,Cb hs hM hst⟩)
  ·exact .inr (.inl ⟨k,s,rfl,hs,hM,hS,hst,Bf hs hM,CM hs hM hst⟩)
theorem JE {m:Ad} {at_:Int} (h:Gb m at_ 2=none):Da m at_=(AN,1900):=by unfold Da;rw [h]
theorem Oh {m:Ad} {at_:Int} {s:Af} (h:Gb m at_ 2=some s) (hc:m.ceil≤m.clocks.get s.label):Da m at_=CL m at_ 5 0:=by unfold Da;rw [h];simp only [hc,if_true]
theorem RV {m:Ad} {at_:Int} {s:Af} (h:Gb m at_ 2=some s) (hc:¬ m.ceil≤m.clocks.get s.label):Da m at_=(AA { m with clocks:=m.clocks.set s.label (m.clocks.get s.label+1) } at_.toNat { s with stamp:=m.clocks.get s.label+1,step:=3 },0):=by unfold Da;rw [h];simp only [hc,if_false]
theorem Nq {m:Ad} (hM:Bo m):m.clocks.all (fun x=>inR x 65535)=true:=by
 have h1:=hM.clocks
 have h2:=AR.1 hM.ceil
 simp only [A4.all,Bool.and_eq_true,AR] at h1 ⊢
 omega
theorem SG {m:Ad} (hM:Bo m) {l:Int} (hl:inR l 3=true) (hc:m.ceil≤m.clocks.get l):Cq m.clocks l m.ceil=(Dr,0,501):=by
 unfold Cq;rw [Nq hM,hM.ceil,hl];simp only [Bool.and_self,if_true,hc]
theorem next_ok {m:Ad} (hM:Bo m) {l:Int} (hl:inR l 3=true) (hc:¬ m.ceil≤m.clocks.get l):Cq m.clocks l m.ceil=(m.clocks.set l (m.clocks.get l+1),m.clocks.get l+1,0):=by
 unfold Cq;rw [Nq hM,hM.ceil,hl];simp only [Bool.and_self,if_true,hc,if_false]
theorem jP (i:Nat) (pf:Bool) (m:Ad) (hm:SmM m) (at_:Int):Aa (Lv ctx (i+10)) 31 [eM pf m,iV at_]=some (.tup [oM (Da m at_).1,iV (Da m at_).2]):=by
 have qh:=Hk (i+1) pf m at_ hm
 have qc:=FV (i+7) pf m hm
 have qe:=Ot (i+0) pf m hm at_ 5 0
 rcases HW m at_ 2 with ⟨h,h'⟩ | ⟨k,s,rfl,hs,hM,hS,hst,h,h'⟩ | ⟨k,s,rfl,hs,hM,hS,hst,h,h'⟩
 ·rw [JE h',AH]
  rw [h] at qh
  simp only [Nat.add_assoc,Nat.reduceAdd] at qh
  refine Ac rfl 0 (by rfl) ?_
  delta c31
  cases pf<;>simp +contextual -dsimp -implicitDefEqProofs (maxSteps:=5000000) only [qh,go_sem,simprocAttr]
 all_goals
  rw [h] at qh
  have hk:=Au hs
  have e1:(0≤(k:Int))=True:=by simp
  have e2:((k:Int)<(m.sess.length:Int))=True:=by simpa using hk
  have e3:∀ x,((m.sess.map oS).set k x)[k]?=some x:=fun x=>List.getElem?_set_self (by simpa using hk)
  have e4:∀ x y,((m.sess.map oS).set k x).set k y=(m.sess.map oS).set k y:=fun x y=>List.set_set ..
 ·rw [JE h',AH]
  have z0:decide (s.step=2)=false:=by simpa using hst
  simp only [Nat.add_assoc,Nat.reduceAdd] at qh
  refine Ac rfl 0 (by rfl) ?_
  delta c31
  cases pf<;>simp +contextual -dsimp -implicitDefEqProofs (maxSteps:=5000000) only [qh,hs,e1,e2,z0,go_sem,simprocAttr]
 ·have z0:decide (s.step=2)=true:=by simpa using hst
  have qn:=rK (i+6) m.clocks.a0 m.clocks.a1 m.clocks.a2 m.clocks.a3 s.label m.ceil
  rw [show (⟨m.clocks.a0,m.clocks.a1,m.clocks.a2,m.clocks.a3⟩:A4 Int)=m.clocks from rfl] at qn
  by_cases hc:m.ceil≤m.clocks.get s.label
  ·rw [Oh h' hc]
   rw [SG hM hS.label hc] at qn
   simp only [Nat.add_assoc,Nat.reduceAdd,e4,Dr] at qh qe qn
   generalize CL m k 5 0=r at qe ⊢
   refine Ac rfl 0 (by rfl) ?_
   delta c31
   cases pf<;>simp +contextual -dsimp -implicitDefEqProofs (maxSteps:=5000000) only [qh,qn,qe,hs,e1,e2,z0,go_sem,simprocAttr]
  ·rw [RV h' hc]
   rw [next_ok hM hS.label hc] at qn
   generalize m.clocks.set s.label (m.clocks.get s.label+1)=cs at qn ⊢
   generalize m.clocks.get s.label+1=sp at qn ⊢
   simp only [Nat.add_assoc,Nat.reduceAdd,e4] at qh qc qn
   simp only [AA,Int.toNat_natCast,oM,cO,oWs,oSs,oEs,List.map_set,oS]
   refine Ac rfl 0 (by rfl) ?_
   delta c31
   cases pf<;>simp +contextual -dsimp -implicitDefEqProofs (maxSteps:=5000000) only [qh,qn,qc,hs,e1,e2,e3,e4,z0,List.length_set,hk,go_sem,simprocAttr]
theorem JP {m:Ad} {at_:Int} (h:Gb m at_ 3=none):Df m at_=(AN,2000):=by unfold Df;rw [h]
theorem Tx {m:Ad} {at_:Int} {s:Af} (h:Gb m at_ 3=some s) (hg:(BU m.words s.reads s.id).1=false):Df m at_=By m at_ 3:=by unfold Df;rw [h];simp only [hg,Bool.false_eq_true,if_false]
theorem Pk {m:Ad} {at_:Int} {s:Af} (h:Gb m at_ 3=some s) (hg:(BU m.words s.reads s.id).1=true) (hw:s.writes=[]):Df m at_=CL m at_ 1 0:=by unfold Df;rw [h];simp only [hg,if_true,hw]
theorem Tw {m:Ad} {at_:Int} {s:Af} (h:Gb m at_ 3=some s) (hg:(BU m.words s.reads s.id).1=true) (hw:¬ s.writes=[]):Df m at_=(AA m at_.toNat { s with at_:=0,step:=4 },0):=by unfold Df;rw [h];simp only [hg,if_true,hw,if_false]
theorem jS (i:Nat) (pf:Bool) (m:Ad) (hm:SmM m) (at_:Int):Aa (Lv ctx (i+10)) 32 [eM pf m,iV at_]=some (.tup [oM (Df m at_).1,iV (Df m at_).2]):=by
 have qh:=Hk (i+1) pf m at_ hm
 have qc:=FV (i+7) pf m hm
 have qe:=Ot (i+0) pf m hm at_ 1 0
 have qa:=LZ (i+0) pf m hm at_ 3
 rcases HW m at_ 3 with ⟨h,h'⟩ | ⟨k,s,rfl,hs,hM,hS,hst,h,h'⟩ | ⟨k,s,rfl,hs,hM,hS,hst,h,h'⟩
 ·rw [JP h',AH]
  rw [h] at qh
  simp only [Nat.add_assoc,Nat.reduceAdd] at qh
  refine Ac rfl 0 (by rfl) ?_
  delta c32
  cases pf<;>simp +contextual -dsimp -implicitDefEqProofs (maxSteps:=5000000) only [qh,go_sem,simprocAttr]
 all_goals
  rw [h] at qh
  have hk:=Au hs
  have e1:(0≤(k:Int))=True:=by simp
  have e2:((k:Int)<(m.sess.length:Int))=True:=by simpa using hk
  have e3:∀ x,((m.sess.map oS).set k x)[k]?=some x:=fun x=>List.getElem?_set_self (by simpa using hk)
  have e4:∀ x y,((m.sess.map oS).set k x).set k y=(m.sess.map oS).set k y:=fun x y=>List.set_set ..
 ·rw [JP h',AH]
  have z0:decide (s.step=3)=false:=by simpa using hst
  simp only [Nat.add_assoc,Nat.reduceAdd] at qh
  refine Ac rfl 0 (by rfl) ?_
  delta c32
  cases pf<;>simp +contextual -dsimp -implicitDefEqProofs (maxSteps:=5000000) only [qh,hs,e1,e2,z0,go_sem,simprocAttr]
 ·have z0:decide (s.step=3)=true:=by simpa using hst
  have hsm:=hm.s s (List.mem_of_getElem? hs)
  have qg:=aJ (i+4) pf pf pf pf false false false false m.words.a0 m.words.a1 m.words.a2 m.words.a3 hm.w0 hm.w1 hm.w2 hm.w3 pf false s.reads (by have:=hsm.br;simp only [BB];omega) s.id
  rw [show (⟨m.words.a0,m.words.a1,m.words.a2,m.words.a3⟩:A4 (List Al))=m.words from rfl] at qg
  cases hg:(BU m.words s.reads s.id).1
  ·rw [Tx h' hg]
   rw [hg] at qg
   simp only [Nat.add_assoc,Nat.reduceAdd] at qh qa qg
   generalize By m k 3=r at qa ⊢
   refine Ac rfl 0 (by rfl) ?_
   delta c32
   cases pf<;>simp +contextual -dsimp -implicitDefEqProofs (maxSteps:=5000000) only [qh,qg,qa,hs,e1,e2,z0,go_sem,simprocAttr]
  ·rw [hg] at qg
   by_cases hw:s.writes=[]
   ·rw [Pk h' hg hw]
    have z1:decide ((s.writes.length:Int)=0)=true:=by rw [hw];rfl
    simp only [Nat.add_assoc,Nat.reduceAdd] at qh qe qg
    generalize CL m k 1 0=r at qe ⊢
    refine Ac rfl 0 (by rfl) ?_
    delta c32
    cases pf<;>simp +contextual -dsimp -implicitDefEqProofs (maxSteps:=5000000) only [qh,qg,qe,hs,e1,e2,z0,z1,go_sem,simprocAttr]
   ·rw [Tw h' hg hw]
    have z1:decide ((s.writes.length:Int)=0)=false:=by
     have:=List.length_pos_iff.2 hw
     simp;omega
    simp only [Nat.add_assoc,Nat.reduceAdd] at qh qc qg
    simp only [AA,Int.toNat_natCast,oM,cO,oWs,oSs,oEs,List.map_set,oS]
    refine Ac rfl 0 (by rfl) ?_
    delta c32
    cases pf<;>simp +contextual -dsimp -implicitDefEqProofs (maxSteps:=5000000) only [qh,qg,qc,hs,e1,e2,e3,e4,z0,z1,List.length_set,hk,go_sem,simprocAttr]
end Ve
