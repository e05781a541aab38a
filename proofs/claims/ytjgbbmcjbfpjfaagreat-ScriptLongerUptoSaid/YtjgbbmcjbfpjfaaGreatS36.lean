/- The program's grabbing. -/
import Derived.Test.YtjgbbmcjbfpjfaaGreatVeSF
import Derived.Test.YtjgbbmcjbfpjfaaGreatS29
set_option linter.all false
set_option linter.unusedSectionVars false
namespace Ve
open Go Ve.Ab
set_option maxHeartbeats 16000000
set_option maxRecDepth 10000
theorem a2p (i:Nat) (a b c id:Int):Aa (Lv ctx (i+4)) 198 [.agg [iV a,iV b,iV c],iV id]=some (.tup [eW (EW ⟨a,b,c⟩ id).1,iV (EW ⟨a,b,c⟩ id).2]):=by
 cases h1:(AO ⟨a,b,c⟩&&inR id 254)
 ·have e:EW ⟨a,b,c⟩ id=(Fc,300):=by simp only [EW,h1];rfl
  rw [e]
  refine Ac rfl 0 (by rfl) ?_
  delta vR
  simp +contextual -dsimp -implicitDefEqProofs (maxSteps:=5000000) only [nn2,h1,Fc,go_sem,simprocAttr]
 ·have hw:=EL (c:=254) (x:=id) (by simp only [Bool.and_eq_true] at h1;exact h1.2) (by omega)
  by_cases hc:c=0
  ·have e:EW ⟨a,b,c⟩ id=(⟨a,b,id+1⟩,0):=by subst hc;simp only [EW,h1,if_true]
   rw [e]
   have h2:decide (c=0)=true:=by simpa using hc
   refine Ac rfl 0 (by rfl) ?_
   delta vR
   simp +contextual -dsimp -implicitDefEqProofs (maxSteps:=5000000) only [nn2,h1,h2,hw,go_sem,simprocAttr]
  ·have e:EW ⟨a,b,c⟩ id=(Fc,301):=by simp only [EW,h1,if_true,hc,if_false]
   rw [e]
   have h2:decide (c=0)=false:=by simpa using hc
   refine Ac rfl 0 (by rfl) ?_
   delta vR
   simp +contextual -dsimp -implicitDefEqProofs (maxSteps:=5000000) only [nn2,h1,h2,Fc,go_sem,simprocAttr]
theorem a2t (i:Nat) (pf:Bool) (m:Ad) (hm:SmM m) (at_:Int):Aa (Lv ctx (i+22)) 164 [eM pf m,iV at_]=some (.tup [oM (Ed m at_).1,iV (Ed m at_).2]):=by
 have ql:=gO (i+0) pf pf m at_ 1 hm
 have qc:=Dz (i+18) pf m hm
 have qa:=NE (i+0) pf m hm at_ 3
 cases Ia m at_ 1 with
 | no h =>
  rw [Kh (DM (EQ h)),Ay]
  rw [EQ h] at ql
  simp only [Nat.add_assoc,Nat.reduceAdd,Option.isSome_none] at ql
  refine Ac rfl 0 (by rfl) ?_
  delta YD
  cases pf<;>simp +contextual -dsimp -implicitDefEqProofs (maxSteps:=5000000) only [ql,go_sem,simprocAttr]
 | off k s e0 hs hM hS hst =>
  subst e0
  have h:=CY hs hM hst
  rw [Kh (DM h),Ay]
  rw [h] at ql
  simp only [Nat.add_assoc,Nat.reduceAdd,Option.isSome_none] at ql
  refine Ac rfl 0 (by rfl) ?_
  delta YD
  cases pf<;>simp +contextual -dsimp -implicitDefEqProofs (maxSteps:=5000000) only [ql,go_sem,simprocAttr]
 | fin k s e0 hs hM hS hst hp =>
  subst e0
  rw [Kh (Js hs hM hst hp),Ay]
  rw [Ct hs hM hst] at ql
  simp only [Nat.add_assoc,Nat.reduceAdd,Option.isSome_some] at ql
  have hk:=Ax hs
  have e1:(0≤(k:Int))=True:=by simp
  have e2:((k:Int)<(m.sess.length:Int))=True:=by simpa using hk
  have z1:decide ((s.writes.length:Int)=(s.writes.length:Int))=true:=by simp
  refine Ac rfl 0 (by rfl) ?_
  delta YD
  cases pf<;>simp +contextual -dsimp -implicitDefEqProofs (maxSteps:=5000000) only [ql,hs,e1,e2,hp,z1,go_sem,simprocAttr]
 | on k n s w e0 hs hM hS hst hp hn hi =>
  subst e0
  have hl:=Lu hs hM hst hp hi
  obtain ⟨j,g,hj,hg,hgm,hlev,hv⟩:=Ny hM hS hi
  have hgw:=ZW hj hg
  have qw:=a2p (i+17) g.val g.ver g.lock s.id
  rw [show (⟨g.val,g.ver,g.lock⟩:Ap)=g from rfl] at qw
  rw [Ct hs hM hst] at ql
  have hk:=Ax hs
  have e1:(0≤(k:Int))=True:=by simp
  have e2:((k:Int)<(m.sess.length:Int))=True:=by simpa using hk
  have e3:∀ x,((m.sess.map oS).set k x)[k]?=some x:=fun x=>List.getElem?_set_self (by simpa using hk)
  have e4:∀ x y,((m.sess.map oS).set k x).set k y=(m.sess.map oS).set k y:=fun x y=>List.set_set ..
  have p1:(0≤(n:Int))=True:=by simp
  have p2:((n:Int)<(s.writes.length:Int))=True:=by simpa using hn
  have p3:decide ((n:Int)=(s.writes.length:Int))=false:=by simp;omega
  have jn:w.index.toNat=j:=by rw [hj];rfl
  have j1:(0≤(j:Int))=True:=by simp
  have hn1:IntKind.wrap .i64 ((n:Int)+1)=(n:Int)+1:=by
   have:=(hm.s s (List.mem_of_getElem? hs)).bw
   exact Be (by omega) (by omega)
  by_cases hlk:g.lock=0
  ·rw [ZF hgm hS.id hlk] at qw
   rw [ZT hl hgw hlk]
   simp only [Nat.add_assoc,Nat.reduceAdd,Option.isSome_some,eW] at ql qc qw
   rcases hlev with h0 | h0 | h0 | h0
   all_goals
    rw [h0] at hg
    simp only [A4.get] at hg
    simp only [show ((1:Int)=0)=False by decide,show ((2:Int)=0)=False by decide,show ((2:Int)=1)=False by decide,show ((3:Int)=0)=False by decide,show ((3:Int)=1)=False by decide,show ((3:Int)=2)=False by decide,if_true,if_false] at hg
    have hjl:=Ax hg
    have j2:=eq_true (Int.ofNat_lt.2 hjl)
    by_cases hlast:s.at_+1=s.writes.length
    ·have l1:decide ((n:Int)+1=(s.writes.length:Int))=true:=by rw [hp] at hlast;simpa using hlast
     rw [if_pos hlast]
     simp only [AE,FF,h0,Jb,Ja,IZ,IY,jn,hp,Int.toNat_natCast,oM,cO,oWs,oSs,oEs,List.map_set,eW,oS]
     refine Ac rfl 0 (by rfl) ?_
     delta YD
     cases pf<;>simp +contextual -dsimp -implicitDefEqProofs (maxSteps:=5000000) only [ql,qc,qw,hs,e1,e2,e3,e4,p1,p2,p3,hp,hi,h0,hj,hg,j1,j2,hn1,l1,List.length_set,hk,go_sem,simprocAttr]
    ·have l1:decide ((n:Int)+1=(s.writes.length:Int))=false:=by rw [hp] at hlast;simpa using hlast
     rw [if_neg hlast]
     simp only [AE,FF,h0,Jb,Ja,IZ,IY,jn,hp,Int.toNat_natCast,oM,cO,oWs,oSs,oEs,List.map_set,eW,oS]
     refine Ac rfl 0 (by rfl) ?_
     delta YD
     cases pf<;>simp +contextual -dsimp -implicitDefEqProofs (maxSteps:=5000000) only [ql,qc,qw,hs,e1,e2,e3,e4,p1,p2,p3,hp,hi,h0,hj,hg,j1,j2,hn1,l1,List.length_set,hk,go_sem,simprocAttr]
  ·rw [ZG hgm hS.id hlk] at qw
   rw [ZU hl hgw hlk]
   simp only [Nat.add_assoc,Nat.reduceAdd,Option.isSome_some,eW,Fc] at ql qa qc qw
   generalize BK m k 3=r at qa ⊢
   rcases hlev with h0 | h0 | h0 | h0
   all_goals
    rw [h0] at hg
    simp only [A4.get] at hg
    simp only [show ((1:Int)=0)=False by decide,show ((2:Int)=0)=False by decide,show ((2:Int)=1)=False by decide,show ((3:Int)=0)=False by decide,show ((3:Int)=1)=False by decide,show ((3:Int)=2)=False by decide,if_true,if_false] at hg
    have hjl:=Ax hg
    have j2:=eq_true (Int.ofNat_lt.2 hjl)
    refine Ac rfl 0 (by rfl) ?_
    delta YD
    cases pf<;>simp +contextual -dsimp -implicitDefEqProofs (maxSteps:=5000000) only [ql,qa,qc,qw,hs,e1,e2,e3,e4,p1,p2,p3,hp,hi,h0,hj,hg,j1,j2,List.length_set,hk,go_sem,simprocAttr]
end Ve
