/- The program's reading. -/
import Derived.Test.YtjgbbmcjbfpjfaaGreatVeSC
import Derived.Test.YtjgbbmcjbfpjfaaGreatVeSD
import Derived.Test.YtjgbbmcjbfpjfaaGreatS33
import Derived.Test.YtjgbbmcjbfpjfaaGreatS40
import Derived.Test.YtjgbbmcjbfpjfaaGreatVeSF
set_option linter.all false
set_option linter.unusedSectionVars false
namespace Ve
open Go Ve.Ab
set_option maxHeartbeats 16000000
set_option maxRecDepth 10000
theorem qS (i:Nat) (pf:Bool) (m:Ad) (hm:SmM m) (at_:Int):Aa (Lv ctx (i+23)) 218 [eM pf m,iV at_]=some (.tup [oM (Cp m at_).1,iV (Cp m at_).2]):=by
 have qn:=RQ (i+0) pf m hm at_
 have qc:=Dz (i+19) pf m hm
 have qa:=NE (i+1) pf m hm at_ 3
 rcases Hj m at_ with h | ⟨k,n,s,x,rfl,hs,hM,hS,hst,hp,hn,hi,hc,hcur⟩
 ·obtain ⟨g1,_,g2⟩:=Lq h
  rw [g2,Ay]
  rw [g1] at qn
  simp only [Nat.add_assoc,Nat.reduceAdd] at qn
  refine Ac rfl 0 (by rfl) ?_
  delta YC
  simp +contextual -dsimp -implicitDefEqProofs (maxSteps:=5000000) only [qn,Bool.and_self_left,Bool.and_self,go_sem,simprocAttr]
 ·rw [HY hcur hc] at qn
  have hsm:=hm.s s (List.mem_of_getElem? hs)
  obtain ⟨hin,_,hth⟩:=Dk hS hi
  have ht:=hth (.inl hc)
  have hra:=Fo hin (by omega)
  have hlb:=(CW hin (.inl hc)).1
  have hlc:=(CW hin (.inl hc)).2
  have qf:=a2v (i+16) false false s.writes hS.writes x.b x.c hlb hlc
  have qg:=gQ (i+(15 - 2)) false false m.words s.reads hsm.r s.id
  have qw:=fun v=>qK (i+17) false false s.reads hsm.br x.b x.c v
  simp only [Nat.add_assoc,Nat.reduceAdd,Nat.reduceSub] at qn qc qa qf qg qw
  have hpc:IntKind.wrap .i64 ((n:Int)+1)=(n:Int)+1:=Be (by omega) (by have:=hsm.bp;omega)
  have hk:=Ax hs
  have e1:(0≤(k:Int))=True:=by simp
  have e2:((k:Int)<(m.sess.length:Int))=True:=by simpa using hk
  have e3:(m.sess.map oS)[k]?=some (oS s):=by simp [hs]
  have e4:∀ x y,((m.sess.map oS).set k x).set k y=(m.sess.map oS).set k y:=fun x y=>List.set_set ..
  have e5:∀ x,((m.sess.map oS).set k x)[k]?=some x:=fun x=>List.getElem?_set_self (by simpa using hk)
  simp only [oS] at e3
  have p1:(0≤(n:Int))=True:=by simp
  have p2:((n:Int)<(s.prog.length:Int))=True:=by simpa using hn
  cases hu:Aj x.b s.label
  ·rw [hu] at qn
   rw [UI hcur hc hu,Ay]
   refine Ac rfl 0 (by rfl) ?_
   delta YC
   simp +contextual -dsimp -implicitDefEqProofs (maxSteps:=5000000) only [qn,Bool.and_self_left,Bool.and_self,go_sem,simprocAttr]
  ·rw [hu] at qn
   obtain ⟨nx,wd,hcx,hgw,hge,hln⟩:=EU (w0:=m.words.a0) (w1:=m.words.a1) (w2:=m.words.a2) (w3:=m.words.a3) ht
   obtain ⟨hwm,hr1⟩:=Ze hM.arena ht hgw
   have l4:(0≤(nx:Int))=True:=by simp
   cases hfw:Bj s.writes x.b x.c with
   | mk v own =>
   rw [hfw] at qf
   cases own
   ·have hgw2:BN m.words x.b x.c=wd:=hge
    by_cases hgl:(Cn m.words s.reads s.id).1=true∧wd.lock=0
    ·obtain ⟨hg1,hl0⟩:=hgl
     rw [OY hcur hc hu hfw hgw2 hg1 hl0]
     have hroom:(Bg s.reads ⟨x.b,x.c,wd.ver⟩).2=0:=by rcases Ka hS.reads hr1 with h | h<;>rw [h.1]
     have qw1:=qw wd.ver
     rw [hroom] at qw1
     generalize (Bg s.reads ⟨x.b,x.c,wd.ver⟩).1=R at qw1 ⊢
     have f2:decide (wd.lock=0)=true:=by simpa using hl0
     rw [hg1] at qg
     refine Ac rfl 0 (by rfl) ?_
     delta YC
     simp +contextual -dsimp -implicitDefEqProofs (maxSteps:=5000000) only [qn,qc,qf,hs,e1,e2,e3,e4,e5,List.length_set,p1,p2,hp,hi,hk,Bool.and_self_left,Bool.and_self,go_sem,simprocAttr]
     rcases Fm hlb with hb | hb | hb | hb
     all_goals
      rw [hcx,hb] at qw1
      rw [hb] at hgw hln
      simp only [A4.get,simprocAttr] at hgw hln
      have hln':=eq_true hln
      simp +contextual -dsimp -implicitDefEqProofs (maxSteps:=5000000) only [qg,qw1,hgw,hln',hb,hcx,l4,f2,hpc,e1,e2,e3,e4,e5,List.length_set,p1,p2,hp,hi,hk,Bool.and_self_left,Bool.and_self,go_sem,simprocAttr]
      rcases Fm hra with ha | ha | ha | ha
      all_goals
       simp +contextual -dsimp -implicitDefEqProofs (maxSteps:=5000000) only [ha,hpc,e1,e2,e4,e5,hp,hk,List.length_set,go_sem,simprocAttr]
       refine Db rfl 0 ?_
       delta SN
       by_cases htr:m.trace.length<512
       ·have h6:decide ((m.trace.length:Int)<512)=true:=by simp;omega
        have h7:(((m.trace.length+1:Nat):Int)*32≤140737488355328)=True:=by simp;omega
        simp only [oM,cO,oWs,oSs,oEs,Ba,AE,Di,htr,if_true,List.map_set,List.map_append,List.map_cons,List.map_nil,oS,ha,hp,A4.set,simprocAttr]
        simp +contextual -dsimp -implicitDefEqProofs (maxSteps:=5000000) only [e1,e2,e4,e5,h6,h7,List.length_set,List.replicate,hk,go_sem,simprocAttr]
       ·have h6:decide ((m.trace.length:Int)<512)=false:=by simp;omega
        simp only [oM,cO,oWs,oSs,oEs,Ba,AE,Di,htr,if_false,List.map_set,oS,ha,hp,A4.set,simprocAttr]
        simp +contextual -dsimp -implicitDefEqProofs (maxSteps:=5000000) only [e1,e2,e4,e5,h6,List.length_set,hk,go_sem,simprocAttr]
    ·rw [QV hcur hc hu hfw hgw2 hgl]
     generalize BK m k 3=T at qa ⊢
     by_cases hl0:wd.lock=0
     ·have f2:decide (wd.lock=0)=true:=by simpa using hl0
      have hg1:(Cn m.words s.reads s.id).1=false:=by
       cases h:(Cn m.words s.reads s.id).1
       ·rfl
       ·exact absurd ⟨h,hl0⟩ hgl
      rw [hg1] at qg
      rcases Fm hlb with hb | hb | hb | hb
      all_goals
       rw [hcx,hb] at qf
       rw [hb] at hgw hln
       simp only [A4.get,simprocAttr] at hgw hln
       have hln':=eq_true hln
       refine Ac rfl 0 (by rfl) ?_
       delta YC
       simp +contextual -dsimp -implicitDefEqProofs (maxSteps:=5000000) only [qn,qc,qa,qf,qg,hgw,hln',hb,hcx,l4,f2,hs,e1,e2,e3,e4,e5,List.length_set,p1,p2,hp,hi,hk,Bool.and_self_left,Bool.and_self,go_sem,simprocAttr]
     ·have f2:decide (wd.lock=0)=false:=by simpa using hl0
      rcases Fm hlb with hb | hb | hb | hb
      all_goals
       rw [hcx,hb] at qf
       rw [hb] at hgw hln
       simp only [A4.get,simprocAttr] at hgw hln
       have hln':=eq_true hln
       refine Ac rfl 0 (by rfl) ?_
       delta YC
       cases hg1:(Cn m.words s.reads s.id).1
       all_goals
        rw [hg1] at qg
        simp +contextual -dsimp -implicitDefEqProofs (maxSteps:=5000000) only [qn,qc,qa,qf,qg,hgw,hln',hb,hcx,l4,f2,hs,e1,e2,e3,e4,e5,List.length_set,p1,p2,hp,hi,hk,Bool.and_self_left,Bool.and_self,go_sem,simprocAttr]
   ·rw [QU hcur hc hu hfw]
    refine Ac rfl 0 (by rfl) ?_
    delta YC
    simp +contextual -dsimp -implicitDefEqProofs (maxSteps:=5000000) only [qn,qc,qf,hpc,hs,e1,e2,e3,e4,e5,List.length_set,p1,p2,hp,hi,hk,Bool.and_self_left,Bool.and_self,go_sem,simprocAttr]
    rcases Fm hra with ha | ha | ha | ha
    all_goals
     simp +contextual -dsimp -implicitDefEqProofs (maxSteps:=5000000) only [ha,hpc,e1,e2,e4,e5,hp,hk,List.length_set,go_sem,simprocAttr]
     refine Db rfl 0 ?_
     delta SN
     by_cases htr:m.trace.length<512
     ·have h6:decide ((m.trace.length:Int)<512)=true:=by simp;omega
      have h7:(((m.trace.length+1:Nat):Int)*32≤140737488355328)=True:=by simp;omega
      simp only [oM,cO,oWs,oSs,oEs,Ba,AE,Di,htr,if_true,List.map_set,List.map_append,List.map_cons,List.map_nil,oS,ha,hp,A4.set,simprocAttr]
      simp +contextual -dsimp -implicitDefEqProofs (maxSteps:=5000000) only [e1,e2,e4,e5,h6,h7,List.length_set,List.replicate,hk,go_sem,simprocAttr]
     ·have h6:decide ((m.trace.length:Int)<512)=false:=by simp;omega
      simp only [oM,cO,oWs,oSs,oEs,Ba,AE,Di,htr,if_false,List.map_set,oS,ha,hp,A4.set,simprocAttr]
      simp +contextual -dsimp -implicitDefEqProofs (maxSteps:=5000000) only [e1,e2,e4,e5,h6,List.length_set,hk,go_sem,simprocAttr]
end Ve
