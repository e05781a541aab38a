/- The program's drifting. -/
import Derived.Test.YtokhplohcachjaaGreatVeSC
import Derived.Test.YtokhplohcachjaaGreatVeSB
set_option linter.all false
set_option linter.unusedSectionVars false
namespace Ve
open Go Ve.Ab
set_option maxHeartbeats 16000000
set_option maxRecDepth 10000
theorem nR (i:Nat) (p nn:Bool) (a v:Int):Aa (Lv ctx (i+2)) 177 [.isl p nn 1 [iV a],iV v]=some (bV (decide (v=a))):=by
 have h:Aa (Lv ctx (i+1)) 205 [.isl p nn 1 [iV a],iV v]=some (iV (if v=a then 0 else -1)):=by
  by_cases h1:v=a
  ·have d1:decide (v=a)=true:=by simpa using h1
   rw [if_pos h1]
   refine Ac rfl 3 (by rfl) ?_
   delta Yy
   simp +contextual -dsimp -implicitDefEqProofs (maxSteps:=5000000) only [d1,gLs,↓Aj (KX.eq_1),go_sem,simprocAttr]
  ·have d1:decide (v=a)=false:=by simpa using h1
   rw [if_neg h1]
   refine Ac rfl 3 (by rfl) ?_
   delta Yy
   simp +contextual -dsimp -implicitDefEqProofs (maxSteps:=5000000) only [d1,gLs,↓Aj (KX.eq_1),go_sem,simprocAttr]
 refine Ac rfl 0 (by rfl) ?_
 delta rT
 by_cases h1:v=a
 ·rw [if_pos h1] at h;have d1:decide (v=a)=true:=by simpa using h1
  simp +contextual -dsimp -implicitDefEqProofs (maxSteps:=5000000) only [h,d1,go_sem,simprocAttr]
 ·rw [if_neg h1] at h;have d1:decide (v=a)=false:=by simpa using h1
  simp +contextual -dsimp -implicitDefEqProofs (maxSteps:=5000000) only [h,d1,go_sem,simprocAttr]
def atC (m:Ad) (at_ c:Int):Bool:=match Cr m at_ with
 | some (_,x)=>decide (x.code=c)
 | none=>false
theorem Zn (i:Nat) (p pf q nn:Bool) (m:Ad) (hm:SmM m) (at_ c:Int):Aa (Lv ctx (i+21)) 127 [.ip p (cM pf m) 0,iV at_,.isl q nn 1 [iV c]]=some (bV (atC m at_ c)):=by
 have h1:=Hg (i+0) p pf m at_ hm
 have hc:=fun v=>nR (i+18) q nn c v
 simp only [Nat.add_assoc,Nat.reduceAdd] at h1 hc
 cases DG m at_ with
 | no h =>
  have e:atC m at_ c=false:=by unfold atC;rw [FB h]
  rw [e]
  refine Ac rfl 0 (by rfl) ?_
  delta QO
  simp +contextual -dsimp -implicitDefEqProofs (maxSteps:=5000000) only [h1,h,go_sem,simprocAttr]
 | off k s e0 hs hM hS hst =>
  subst e0
  have e:atC m k c=false:=by unfold atC;rw [Cq hs hM hst]
  rw [e]
  have hh:=Bf hs hM
  have hk:=Au hs
  have e1:(0≤(k:Int))=True:=by simp
  have e2:((k:Int)<(m.sess.length:Int))=True:=by simpa using hk
  have z0:decide (s.step=0)=false:=by simpa using hst
  refine Ac rfl 0 (by rfl) ?_
  delta QO
  simp +contextual -dsimp -implicitDefEqProofs (maxSteps:=5000000) only [h1,hh,hs,e1,e2,z0,go_sem,simprocAttr]
 | fin k s e0 hs hM hS hst hp =>
  subst e0
  have e:atC m k c=false:=by unfold atC;rw [Eg hs hM hst hp]
  rw [e]
  have hh:=Bf hs hM
  have hk:=Au hs
  have e1:(0≤(k:Int))=True:=by simp
  have e2:((k:Int)<(m.sess.length:Int))=True:=by simpa using hk
  have z0:decide (s.step=0)=true:=by simpa using hst
  have z1:decide ((s.prog.length:Int)<(s.prog.length:Int))=false:=by simp
  refine Ac rfl 0 (by rfl) ?_
  delta QO
  simp +contextual -dsimp -implicitDefEqProofs (maxSteps:=5000000) only [h1,hh,hs,e1,e2,z0,hp,z1,go_sem,simprocAttr]
 | on k n s x e0 hs hM hS hst hp hn hi =>
  subst e0
  have e:atC m k c=decide (x.code=c):=by unfold atC;rw [Dn hs hM hst hp hi]
  rw [e]
  have hh:=Bf hs hM
  have hk:=Au hs
  have e1:(0≤(k:Int))=True:=by simp
  have e2:((k:Int)<(m.sess.length:Int))=True:=by simpa using hk
  have z0:decide (s.step=0)=true:=by simpa using hst
  have p1:(0≤(n:Int))=True:=by simp
  have p2:((n:Int)<(s.prog.length:Int))=True:=by simpa using hn
  have z1:decide ((n:Int)<(s.prog.length:Int))=true:=by simpa using hn
  refine Ac rfl 0 (by rfl) ?_
  delta QO
  simp +contextual -dsimp -implicitDefEqProofs (maxSteps:=5000000) only [h1,hh,hs,e1,e2,z0,hp,z1,p1,p2,hi,hc,go_sem,simprocAttr]
theorem KF {m:Ad} {at_ c:Int} (h:Cr m at_=none∨∃ s x,Cr m at_=some (s,x)∧¬ x.code=c):atC m at_ c=false:=by
 unfold atC
 rcases h with h | ⟨s,x,h,hc⟩
 ·rw [h]
 ·rw [h];simpa using hc
theorem dR {m:Ad} {at_ c:Int} {s:Ag} {x:AF} (h:Cr m at_=some (s,x)) (hc:x.code=c):atC m at_ c=true:=by
 unfold atC;rw [h];simpa using hc
theorem Pm (i:Nat) (pf:Bool) (m:Ad) (hm:SmM m) (at_:Int):Aa (Lv ctx (i+22)) 168 [eM pf m,iV at_]=some (.tup [bV (BS m at_).1,iV (BS m at_).2]):=by
 have q:=Zn (i+0) pf pf false false m hm at_ 2
 rcases FY m at_ with h | ⟨k,n,s,x,rfl,hs,hM,hS,hst,hp,hn,hi,hc,hcur⟩
 ·obtain ⟨g1,_,_⟩:=Ke h
  rw [g1]
  rw [KF h] at q
  simp only [Nat.add_assoc,Nat.reduceAdd] at q
  refine Ac rfl 0 (by rfl) ?_
  delta rV
  cases pf<;>simp +contextual -dsimp -implicitDefEqProofs (maxSteps:=5000000) only [q,go_sem,simprocAttr]
 ·rw [Hm hcur hc]
  rw [dR hcur hc] at q
  simp only [Nat.add_assoc,Nat.reduceAdd] at q
  have hk:=Au hs
  have e1:(0≤(k:Int))=True:=by simp
  have e2:((k:Int)<(m.sess.length:Int))=True:=by simpa using hk
  have p1:(0≤(n:Int))=True:=by simp
  have p2:((n:Int)<(s.prog.length:Int))=True:=by simpa using hn
  refine Ac rfl 0 (by rfl) ?_
  delta rV
  cases pf<;>simp +contextual -dsimp -implicitDefEqProofs (maxSteps:=5000000) only [q,hs,e1,e2,hp,p1,p2,hi,go_sem,simprocAttr]
theorem nP (i:Nat) (a b:Int) (ha:inR a 3=true) (hb:inR b 3=true):Aa (Lv ctx (i+2)) 198 [iV a,iV b]=some (.tup [iV (orI a b),iV 0]):=by
 refine Ac rfl 0 (by rfl) ?_
 delta wY
 simp +contextual -dsimp -implicitDefEqProofs (maxSteps:=5000000) only [ha,hb,go_sem,simprocAttr]
theorem fJ (i:Nat) (m:Ad) (a1 a2 a3 a4 l:List V) (k:Nat) (id lb:Int) (rest:List V) (hk:l[k]?=some (.agg (iV id::iV lb::rest))) (kd vl:Int) (htr:m.trace.length<512) :
  Lv ctx (i+1) 128 [.ptr 7 0 0,iV k,iV kd,iV vl] (hN m a1 a2 a3 a4 l) 8=some (.tup [],hT m a1 a2 a3 a4 l ⟨id,lb,kd,vl⟩,10):=by
 have h1:(0≤(k:Int))=True:=by simp
 have h2:((k:Int)<(l.length:Int))=True:=by simpa using Au hk
 have h6:decide ((m.trace.length:Int)<512)=true:=by simp;omega
 have h7:(((m.trace.length+1:Nat):Int)*32≤140737488355328)=True:=by simp;omega
 refine MP rfl 0 ?_
 delta QN
 simp +contextual -dsimp -implicitDefEqProofs (maxSteps:=5000000) only [h1,h2,hk,h6,h7,List.replicate,go_sem,simprocAttr]
 rfl
theorem fP (i:Nat) (pf:Bool) (m:Ad) (hm:SmM m) (at_:Int):Aa (Lv ctx (i+23)) 169 [eM pf m,iV at_]=some (.tup [oM (Bs m at_).1,iV (Bs m at_).2]):=by
 have qn:=Pm (i+0) pf m hm at_
 have qc:=Dp (i+19) pf m hm
 have qe:=Rt (i+1) pf m hm at_ 4 0
 rcases FY m at_ with h | ⟨k,n,s,x,rfl,hs,hM,hS,hst,hp,hn,hi,hc,hcur⟩
 ·obtain ⟨g1,g2,_⟩:=Ke h
  rw [g2,Aw]
  rw [g1] at qn
  simp only [Nat.add_assoc,Nat.reduceAdd] at qn
  refine Ac rfl 0 (by rfl) ?_
  delta YA
  cases pf<;>simp +contextual -dsimp -implicitDefEqProofs (maxSteps:=5000000) only [qn,go_sem,simprocAttr]
 ·rw [Hm hcur hc] at qn
  have hlx:=(CP (CV hS hi).1 (.inl hc)).1
  have qj:=nP (i+20) s.label x.b hS.label hlx
  simp only [Nat.add_assoc,Nat.reduceAdd] at qn qc qe qj
  have hk:=Au hs
  have e1:(0≤(k:Int))=True:=by simp
  have e2:((k:Int)<(m.sess.length:Int))=True:=by simpa using hk
  have e3:(m.sess.map oS)[k]?=some (oS s):=by simp [hs]
  have p1:(0≤(n:Int))=True:=by simp
  have p2:((n:Int)<(s.prog.length:Int))=True:=by simpa using hn
  cases hu:under x.b s.label
  ·rw [hu] at qn
   cases hcl:under (orI s.label x.b) s.clear
   ·have e:Bs m k=Cy m k 4 0:=by unfold Bs;rw [hcur];simp only [hc,hu,hcl];rfl
    rw [e]
    refine Ac rfl 0 (by rfl) ?_
    delta YA
    cases pf<;>simp +contextual -dsimp -implicitDefEqProofs (maxSteps:=5000000) only [qn,qe,qj,hcl,hs,e1,e2,p1,p2,hp,hi,go_sem,simprocAttr]
   ·have e:Bs m k=(Az (AS m ⟨s.id,s.label,2,orI s.label x.b⟩) k { s with label:=orI s.label x.b },0):=by unfold Bs;rw [hcur];simp only [hc,hu,hcl];rfl
    rw [e]
    by_cases htr:m.trace.length<512
    ·have hn:=fJ (i+(22 - 1)) m (m.words.a0.map eW) (m.words.a1.map eW) (m.words.a2.map eW) (m.words.a3.map eW) (m.sess.map oS) k s.id s.label _ e3 2 (orI s.label x.b) htr
     simp only [Nat.add_assoc,Nat.reduceAdd,Nat.reduceSub] at hn
     refine Ac rfl 0 (by rfl) ?_
     delta YA
     cases pf
     all_goals
      simp +contextual -dsimp -implicitDefEqProofs (maxSteps:=5000000) only [qn,qc,qj,hcl,hs,e1,e2,p1,p2,hp,hi,go_sem,simprocAttr]
      refine IY hn ?_
      simp +contextual -dsimp -implicitDefEqProofs (maxSteps:=5000000) only [e1,e2,e3,hs,go_sem,simprocAttr]
      simp only [oM,cO,oWs,oSs,oEs,AS,Az,htr,if_true,List.map_set,List.map_append,← hp]
      rfl
    ·have hn:=Pk (i+(22 - 1)) m (m.words.a0.map eW) (m.words.a1.map eW) (m.words.a2.map eW) (m.words.a3.map eW) (m.sess.map oS) k 2 (orI s.label x.b) htr
     simp only [Nat.add_assoc,Nat.reduceAdd,Nat.reduceSub] at hn
     refine Ac rfl 0 (by rfl) ?_
     delta YA
     cases pf
     all_goals
      simp +contextual -dsimp -implicitDefEqProofs (maxSteps:=5000000) only [qn,qc,qj,hcl,hs,e1,e2,p1,p2,hp,hi,go_sem,simprocAttr]
      refine IY hn ?_
      simp +contextual -dsimp -implicitDefEqProofs (maxSteps:=5000000) only [e1,e2,e3,hs,go_sem,simprocAttr]
      simp only [oM,cO,oWs,oSs,oEs,AS,Az,htr,if_false,List.map_set,← hp]
      rfl
  ·have e:Bs m k=(AK,1400):=by unfold Bs;rw [hcur];simp only [hc,hu];rfl
   rw [e,Aw]
   rw [hu] at qn
   refine Ac rfl 0 (by rfl) ?_
   delta YA
   cases pf<;>simp +contextual -dsimp -implicitDefEqProofs (maxSteps:=5000000) only [qn,go_sem,simprocAttr]
end Ve
