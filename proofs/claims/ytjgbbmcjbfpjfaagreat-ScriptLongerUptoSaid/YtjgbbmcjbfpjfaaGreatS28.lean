/- The program's writing back. -/
import Derived.Test.YtjgbbmcjbfpjfaaGreatS27
import Derived.Test.YtjgbbmcjbfpjfaaGreatVeSF
set_option linter.all false
set_option linter.unusedSectionVars false
namespace Ve
open Go Ve.Ab
set_option maxHeartbeats 16000000
set_option maxRecDepth 10000
theorem qI (i:Nat) (a b c v k:Int):Aa (Lv ctx (i+4)) 203 [.agg [iV a,iV b,iV c],iV v,iV k]=some (.tup [eW (Fd ⟨a,b,c⟩ v k).1,iV (Fd ⟨a,b,c⟩ v k).2]):=by
 cases h1:(AO ⟨a,b,c⟩&&AO ⟨v,k,0⟩)
 ·have e:Fd ⟨a,b,c⟩ v k=(Fc,300):=by simp only [Fd,h1];rfl
  rw [e]
  refine Ac rfl 0 (by rfl) ?_
  delta c203
  simp +contextual -dsimp -implicitDefEqProofs (maxSteps:=5000000) only [nn2,h1,Fc,go_sem,simprocAttr]
 ·have e:Fd ⟨a,b,c⟩ v k=(⟨v,k,0⟩,0):=by simp only [Fd,h1,if_true]
  rw [e]
  refine Ac rfl 0 (by rfl) ?_
  delta c203
  simp +contextual -dsimp -implicitDefEqProofs (maxSteps:=5000000) only [nn2,h1,go_sem,simprocAttr]
theorem a2x (i:Nat) (pf:Bool) (m:Ad) (hm:SmM m) (at_:Int):Aa (Lv ctx (i+22)) 167 [eM pf m,iV at_]=some (.tup [oM (Ei m at_).1,iV (Ei m at_).2]):=by
 have ql:=gO (i+0) pf pf m at_ 4 hm
 have qc:=Dz (i+18) pf m hm
 cases Ia m at_ 4 with
 | no h =>
  rw [Kl (DM (EQ h)),Ay]
  rw [EQ h] at ql
  simp only [Nat.add_assoc,Nat.reduceAdd,Option.isSome_none] at ql
  refine Ac rfl 0 (by rfl) ?_
  delta eB
  cases pf<;>simp +contextual -dsimp -implicitDefEqProofs (maxSteps:=5000000) only [ql,go_sem,simprocAttr]
 | off k s e0 hs hM hS hst =>
  subst e0
  have h:=CY hs hM hst
  rw [Kl (DM h),Ay]
  rw [h] at ql
  simp only [Nat.add_assoc,Nat.reduceAdd,Option.isSome_none] at ql
  refine Ac rfl 0 (by rfl) ?_
  delta eB
  cases pf<;>simp +contextual -dsimp -implicitDefEqProofs (maxSteps:=5000000) only [ql,go_sem,simprocAttr]
 | fin k s e0 hs hM hS hst hp =>
  subst e0
  rw [Kl (Js hs hM hst hp),Ay]
  rw [Ct hs hM hst] at ql
  simp only [Nat.add_assoc,Nat.reduceAdd,Option.isSome_some] at ql
  have hk:=Ax hs
  have e1:(0≤(k:Int))=True:=by simp
  have e2:((k:Int)<(m.sess.length:Int))=True:=by simpa using hk
  have z1:decide ((s.writes.length:Int)=(s.writes.length:Int))=true:=by simp
  refine Ac rfl 0 (by rfl) ?_
  delta eB
  cases pf<;>simp +contextual -dsimp -implicitDefEqProofs (maxSteps:=5000000) only [ql,hs,e1,e2,hp,z1,go_sem,simprocAttr]
 | on k n s w e0 hs hM hS hst hp hn hi =>
  subst e0
  have hl:=Lu hs hM hst hp hi
  obtain ⟨j,g,hj,hg,hgm,hlev,hv⟩:=Ny hM hS hi
  have qw:=qI (i+17) g.val g.ver g.lock w.val s.stamp
  rw [show (⟨g.val,g.ver,g.lock⟩:Ap)=g from rfl,Td hgm hv hS.stamp] at qw
  have qe:=Tx (i+0) false (BY m k s w) (Tl hm hs w) k 1 0
  rw [Ct hs hM hst] at ql
  simp only [Nat.add_assoc,Nat.reduceAdd,Option.isSome_some,eW] at ql qc qe qw
  have hk:=Ax hs
  have e1:(0≤(k:Int))=True:=by simp
  have e2:((k:Int)<(m.sess.length:Int))=True:=by simpa using hk
  have e3:∀ x,((m.sess.map oS).set k x)[k]?=some x:=fun x=>List.getElem?_set_self (by simpa using hk)
  have e4:∀ x y,((m.sess.map oS).set k x).set k y=(m.sess.map oS).set k y:=fun x y=>List.set_set ..
  have p1:(0≤(n:Int))=True:=by simp
  have p2:((n:Int)<(s.writes.length:Int))=True:=by simpa using hn
  have p3:decide ((n:Int)=(s.writes.length:Int))=false:=by simp;omega
  have jn:w.index.toNat=j:=by rw [hj];rfl
  have j1:(0≤(j:Int))=True:=by simp
  have hn1:IntKind.wrap .i64 ((n:Int)+1)=(n:Int)+1:=by
   have:=(hm.s s (List.mem_of_getElem? hs)).bw
   exact Be (by omega) (by omega)
  rcases hlev with h0 | h0 | h0 | h0
  all_goals
   rw [h0] at hg
   simp only [A4.get] at hg
   simp only [show ((1:Int)=0)=False by decide,show ((2:Int)=0)=False by decide,show ((2:Int)=1)=False by decide,show ((3:Int)=0)=False by decide,show ((3:Int)=1)=False by decide,show ((3:Int)=2)=False by decide,if_true,if_false] at hg
   have hjl:=Ax hg
   have j2:=eq_true (Int.ofNat_lt.2 hjl)
   by_cases hlast:s.at_+1=s.writes.length
   ·rw [Rx hl hlast]
    have l1:decide ((n:Int)+1<(s.writes.length:Int))=false:=by rw [hp] at hlast;simp;omega
    generalize CX (BY m k s w) k 1 0=r at qe ⊢
    simp only [BY,AE,FF,h0,Jb,Ja,IZ,IY,jn,hp,eM,cM,eWs,eSs,eEs,List.map_set,eW,eS,Int.toNat_natCast] at qe
    refine Ac rfl 0 (by rfl) ?_
    delta eB
    cases pf<;>simp +contextual -dsimp -implicitDefEqProofs (maxSteps:=5000000) only [ql,qc,qw,qe,hs,e1,e2,e3,e4,p1,p2,p3,hp,hi,h0,hj,hg,j1,j2,hn1,l1,List.length_set,hk,go_sem,simprocAttr]
   ·rw [Rw hl hlast]
    have l1:decide ((n:Int)+1<(s.writes.length:Int))=true:=by rw [hp] at hlast;simp;omega
    simp only [BY,AE,FF,h0,Jb,Ja,IZ,IY,jn,hp,Int.toNat_natCast,oM,cO,oWs,oSs,oEs,List.map_set,eW,oS]
    refine Ac rfl 0 (by rfl) ?_
    delta eB
    cases pf<;>simp +contextual -dsimp -implicitDefEqProofs (maxSteps:=5000000) only [ql,qc,qw,hs,e1,e2,e3,e4,p1,p2,p3,hp,hi,h0,hj,hg,j1,j2,hn1,l1,List.length_set,hk,go_sem,simprocAttr]
end Ve
