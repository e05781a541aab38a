/- The program's drifting. -/
import Derived.Test.YtjgbbmcjbfpjfaaGreatVeSD
import Derived.Test.YtjgbbmcjbfpjfaaGreatVeSB
set_option linter.all false
set_option linter.unusedSectionVars false
namespace Ve
open Go Ve.Ab
set_option maxHeartbeats 16000000
set_option maxRecDepth 10000
theorem a2s (i:Nat) (p nn:Bool) (a v:Int):Aa (Lv ctx (i+2)) 224 [.isl p nn 1 [iV a],iV v]=some (bV (decide (v=a))):=by
 have h:Aa (Lv ctx (i+1)) 232 [.isl p nn 1 [iV a],iV v]=some (iV (if v=a then 0 else -1)):=by
  by_cases h1:v=a
  ·have d1:decide (v=a)=true:=by simpa using h1
   rw [if_pos h1]
   refine Ac rfl 3 (by rfl) ?_
   delta dX
   simp +contextual -dsimp -implicitDefEqProofs (maxSteps:=5000000) only [d1,gLs,↓Ah (MA.eq_1),go_sem,simprocAttr]
  ·have d1:decide (v=a)=false:=by simpa using h1
   rw [if_neg h1]
   refine Ac rfl 3 (by rfl) ?_
   delta dX
   simp +contextual -dsimp -implicitDefEqProofs (maxSteps:=5000000) only [d1,gLs,↓Ah (MA.eq_1),go_sem,simprocAttr]
 refine Ac rfl 0 (by rfl) ?_
 delta c224
 by_cases h1:v=a
 ·rw [if_pos h1] at h;have d1:decide (v=a)=true:=by simpa using h1
  simp +contextual -dsimp -implicitDefEqProofs (maxSteps:=5000000) only [h,d1,go_sem,simprocAttr]
 ·rw [if_neg h1] at h;have d1:decide (v=a)=false:=by simpa using h1
  simp +contextual -dsimp -implicitDefEqProofs (maxSteps:=5000000) only [h,d1,go_sem,simprocAttr]
def atC (m:Ad) (at_ c:Int):Bool:=match CO m at_ with
 | some (_,x)=>decide (x.code=c)
 | none=>false
theorem gW (i:Nat) (p pf q nn:Bool) (m:Ad) (hm:SmM m) (at_ c:Int):Aa (Lv ctx (i+21)) 204 [.ip p (cM pf m) 0,iV at_,.isl q nn 1 [iV c]]=some (bV (atC m at_ c)):=by
 have h1:=HT (i+0) p pf m at_ hm
 have hc:=fun v=>a2s (i+18) q nn c v
 simp only [Nat.add_assoc,Nat.reduceAdd] at h1 hc
 cases Ej m at_ with
 | no h =>
  have e:atC m at_ c=false:=by unfold atC;rw [Gs h]
  rw [e]
  refine Ac rfl 0 (by rfl) ?_
  delta SO
  simp +contextual -dsimp -implicitDefEqProofs (maxSteps:=5000000) only [h1,h,go_sem,simprocAttr]
 | off k s e0 hs hM hS hst =>
  subst e0
  have e:atC m k c=false:=by unfold atC;rw [CL hs hM hst]
  rw [e]
  have hh:=Bs hs hM
  have hk:=Ax hs
  have e1:(0≤(k:Int))=True:=by simp
  have e2:((k:Int)<(m.sess.length:Int))=True:=by simpa using hk
  have z0:decide (s.step=0)=false:=by simpa using hst
  refine Ac rfl 0 (by rfl) ?_
  delta SO
  simp +contextual -dsimp -implicitDefEqProofs (maxSteps:=5000000) only [h1,hh,hs,e1,e2,z0,go_sem,simprocAttr]
 | fin k s e0 hs hM hS hst hp =>
  subst e0
  have e:atC m k c=false:=by unfold atC;rw [EP hs hM hst hp]
  rw [e]
  have hh:=Bs hs hM
  have hk:=Ax hs
  have e1:(0≤(k:Int))=True:=by simp
  have e2:((k:Int)<(m.sess.length:Int))=True:=by simpa using hk
  have z0:decide (s.step=0)=true:=by simpa using hst
  have z1:decide ((s.prog.length:Int)<(s.prog.length:Int))=false:=by simp
  refine Ac rfl 0 (by rfl) ?_
  delta SO
  simp +contextual -dsimp -implicitDefEqProofs (maxSteps:=5000000) only [h1,hh,hs,e1,e2,z0,hp,z1,go_sem,simprocAttr]
 | on k n s x e0 hs hM hS hst hp hn hi =>
  subst e0
  have e:atC m k c=decide (x.code=c):=by unfold atC;rw [DP hs hM hst hp hi]
  rw [e]
  have hh:=Bs hs hM
  have hk:=Ax hs
  have e1:(0≤(k:Int))=True:=by simp
  have e2:((k:Int)<(m.sess.length:Int))=True:=by simpa using hk
  have z0:decide (s.step=0)=true:=by simpa using hst
  have p1:(0≤(n:Int))=True:=by simp
  have p2:((n:Int)<(s.prog.length:Int))=True:=by simpa using hn
  have z1:decide ((n:Int)<(s.prog.length:Int))=true:=by simpa using hn
  refine Ac rfl 0 (by rfl) ?_
  delta SO
  simp +contextual -dsimp -implicitDefEqProofs (maxSteps:=5000000) only [h1,hh,hs,e1,e2,z0,hp,z1,p1,p2,hi,hc,go_sem,simprocAttr]
theorem Ma {m:Ad} {at_ c:Int} (h:CO m at_=none∨∃ s x,CO m at_=some (s,x)∧¬ x.code=c):atC m at_ c=false:=by
 unfold atC
 rcases h with h | ⟨s,x,h,hc⟩
 ·rw [h]
 ·rw [h];simpa using hc
theorem pI {m:Ad} {at_ c:Int} {s:Ai} {x:AI} (h:CO m at_=some (s,x)) (hc:x.code=c):atC m at_ c=true:=by
 unfold atC;rw [h];simpa using hc
theorem RQ (i:Nat) (pf:Bool) (m:Ad) (hm:SmM m) (at_:Int):Aa (Lv ctx (i+22)) 216 [eM pf m,iV at_]=some (.tup [bV (Co m at_).1,iV (Co m at_).2]):=by
 have q:=gW (i+0) pf pf false false m hm at_ 2
 rcases Hj m at_ with h | ⟨k,n,s,x,rfl,hs,hM,hS,hst,hp,hn,hi,hc,hcur⟩
 ·obtain ⟨g1,_,_⟩:=Lq h
  rw [g1]
  rw [Ma h] at q
  simp only [Nat.add_assoc,Nat.reduceAdd] at q
  refine Ac rfl 0 (by rfl) ?_
  delta c216
  cases pf<;>simp +contextual -dsimp -implicitDefEqProofs (maxSteps:=5000000) only [q,go_sem,simprocAttr]
 ·rw [HY hcur hc]
  rw [pI hcur hc] at q
  simp only [Nat.add_assoc,Nat.reduceAdd] at q
  have hk:=Ax hs
  have e1:(0≤(k:Int))=True:=by simp
  have e2:((k:Int)<(m.sess.length:Int))=True:=by simpa using hk
  have p1:(0≤(n:Int))=True:=by simp
  have p2:((n:Int)<(s.prog.length:Int))=True:=by simpa using hn
  refine Ac rfl 0 (by rfl) ?_
  delta c216
  cases pf<;>simp +contextual -dsimp -implicitDefEqProofs (maxSteps:=5000000) only [q,hs,e1,e2,hp,p1,p2,hi,go_sem,simprocAttr]
theorem a2q (i:Nat) (a b:Int) (ha:inR a 3=true) (hb:inR b 3=true):Aa (Lv ctx (i+2)) 226 [iV a,iV b]=some (.tup [iV (orI a b),iV 0]):=by
 refine Ac rfl 0 (by rfl) ?_
 delta c226
 simp +contextual -dsimp -implicitDefEqProofs (maxSteps:=5000000) only [ha,hb,go_sem,simprocAttr]
theorem qO (i:Nat) (m:Ad) (a1 a2 a3 a4 l:List V) (k:Nat) (id lb:Int) (rest:List V) (hk:l[k]?=some (.agg (iV id::iV lb::rest))) (kd vl:Int) (htr:m.trace.length<512) :
  Lv ctx (i+1) 205 [.ptr 7 0 0,iV k,iV kd,iV vl] (hN m a1 a2 a3 a4 l) 8=some (.tup [],hT m a1 a2 a3 a4 l ⟨id,lb,kd,vl⟩,10):=by
 have h1:(0≤(k:Int))=True:=by simp
 have h2:((k:Int)<(l.length:Int))=True:=by simpa using Ax hk
 have h6:decide ((m.trace.length:Int)<512)=true:=by simp;omega
 have h7:(((m.trace.length+1:Nat):Int)*32≤140737488355328)=True:=by simp;omega
 refine ON rfl 0 ?_
 delta SN
 simp +contextual -dsimp -implicitDefEqProofs (maxSteps:=5000000) only [h1,h2,hk,h6,h7,List.replicate,go_sem,simprocAttr]
 rfl
theorem qU (i:Nat) (pf:Bool) (m:Ad) (hm:SmM m) (at_:Int):Aa (Lv ctx (i+23)) 217 [eM pf m,iV at_]=some (.tup [oM (BI m at_).1,iV (BI m at_).2]):=by
 have qn:=RQ (i+0) pf m hm at_
 have qc:=Dz (i+19) pf m hm
 have qe:=Tx (i+1) pf m hm at_ 4 0
 rcases Hj m at_ with h | ⟨k,n,s,x,rfl,hs,hM,hS,hst,hp,hn,hi,hc,hcur⟩
 ·obtain ⟨g1,g2,_⟩:=Lq h
  rw [g2,Ay]
  rw [g1] at qn
  simp only [Nat.add_assoc,Nat.reduceAdd] at qn
  refine Ac rfl 0 (by rfl) ?_
  delta dZ
  cases pf<;>simp +contextual -dsimp -implicitDefEqProofs (maxSteps:=5000000) only [qn,go_sem,simprocAttr]
 ·rw [HY hcur hc] at qn
  have hlx:=(CW (Dk hS hi).1 (.inl hc)).1
  have qj:=a2q (i+20) s.label x.b hS.label hlx
  simp only [Nat.add_assoc,Nat.reduceAdd] at qn qc qe qj
  have hk:=Ax hs
  have e1:(0≤(k:Int))=True:=by simp
  have e2:((k:Int)<(m.sess.length:Int))=True:=by simpa using hk
  have e3:(m.sess.map oS)[k]?=some (oS s):=by simp [hs]
  have p1:(0≤(n:Int))=True:=by simp
  have p2:((n:Int)<(s.prog.length:Int))=True:=by simpa using hn
  cases hu:Aj x.b s.label
  ·rw [hu] at qn
   cases hcl:Aj (orI s.label x.b) s.clear
   ·have e:BI m k=CX m k 4 0:=by unfold BI;rw [hcur];simp only [hc,hu,hcl];rfl
    rw [e]
    refine Ac rfl 0 (by rfl) ?_
    delta dZ
    cases pf<;>simp +contextual -dsimp -implicitDefEqProofs (maxSteps:=5000000) only [qn,qe,qj,hcl,hs,e1,e2,p1,p2,hp,hi,go_sem,simprocAttr]
   ·have e:BI m k=(AE (Ba m ⟨s.id,s.label,2,orI s.label x.b⟩) k { s with label:=orI s.label x.b },0):=by unfold BI;rw [hcur];simp only [hc,hu,hcl];rfl
    rw [e]
    by_cases htr:m.trace.length<512
    ·have hn:=qO (i+(22 - 1)) m (m.words.a0.map eW) (m.words.a1.map eW) (m.words.a2.map eW) (m.words.a3.map eW) (m.sess.map oS) k s.id s.label _ e3 2 (orI s.label x.b) htr
     simp only [Nat.add_assoc,Nat.reduceAdd,Nat.reduceSub] at hn
     refine Ac rfl 0 (by rfl) ?_
     delta dZ
     cases pf
     all_goals
      simp +contextual -dsimp -implicitDefEqProofs (maxSteps:=5000000) only [qn,qc,qj,hcl,hs,e1,e2,p1,p2,hp,hi,go_sem,simprocAttr]
      refine Ki hn ?_
      simp +contextual -dsimp -implicitDefEqProofs (maxSteps:=5000000) only [e1,e2,e3,hs,go_sem,simprocAttr]
      simp only [oM,cO,oWs,oSs,oEs,Ba,AE,htr,if_true,List.map_set,List.map_append,← hp]
      rfl
    ·have hn:=RO (i+(22 - 1)) m (m.words.a0.map eW) (m.words.a1.map eW) (m.words.a2.map eW) (m.words.a3.map eW) (m.sess.map oS) k 2 (orI s.label x.b) htr
     simp only [Nat.add_assoc,Nat.reduceAdd,Nat.reduceSub] at hn
     refine Ac rfl 0 (by rfl) ?_
     delta dZ
     cases pf
     all_goals
      simp +contextual -dsimp -implicitDefEqProofs (maxSteps:=5000000) only [qn,qc,qj,hcl,hs,e1,e2,p1,p2,hp,hi,go_sem,simprocAttr]
      refine Ki hn ?_
      simp +contextual -dsimp -implicitDefEqProofs (maxSteps:=5000000) only [e1,e2,e3,hs,go_sem,simprocAttr]
      simp only [oM,cO,oWs,oSs,oEs,Ba,AE,htr,if_false,List.map_set,← hp]
      rfl
  ·have e:BI m k=(Az,1400):=by unfold BI;rw [hcur];simp only [hc,hu];rfl
   rw [e,Ay]
   rw [hu] at qn
   refine Ac rfl 0 (by rfl) ?_
   delta dZ
   cases pf<;>simp +contextual -dsimp -implicitDefEqProofs (maxSteps:=5000000) only [qn,go_sem,simprocAttr]
end Ve
