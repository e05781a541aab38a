/- The reference's grabbing, stamping, checking. -/
import Derived.Test.YtjgbbmcjbfpjfaaGreatS27
import Derived.Test.YtjgbbmcjbfpjfaaGreatVeSC
set_option linter.all false
set_option linter.unusedSectionVars false
namespace Ve
open Go Ve.Ab
set_option maxHeartbeats 16000000
set_option maxRecDepth 10000
theorem ZW {m:Ad} {w:Ao} {j:Nat} {g:Ap} (hj:w.index=(j:Int)) (hg:(m.words.get w.level)[j]?=some g):BN m.words w.level w.index=g:=by
 unfold BN
 rw [hj,Int.toNat_natCast,hg];rfl
theorem Kh {m:Ad} {at_:Int} (h:EI m at_ 1=none):Ed m at_=(Az,1800):=by unfold Ed;rw [h]
theorem ZU {m:Ad} {at_:Int} {s:Ai} {w:Ao} {g:Ap} (h:EI m at_ 1=some (s,w)) (hg:BN m.words w.level w.index=g) (hl:¬ g.lock=0):Ed m at_=BK m at_ 3:=by
 unfold Ed;rw [h];simp only [hg,hl,if_false]
theorem ZT {m:Ad} {at_:Int} {s:Ai} {w:Ao} {g:Ap} (h:EI m at_ 1=some (s,w)) (hg:BN m.words w.level w.index=g) (hl:g.lock=0):Ed m at_=(AE (FF m w.level w.index ⟨g.val,g.ver,s.id+1⟩) at_.toNat { s with at_:=s.at_+1,step:=if s.at_+1=s.writes.length then 2 else s.step },0):=by
 unfold Ed;rw [h];simp only [hg,hl,if_true]
theorem ZF {g:Ap} (hg:AO g=true) {id:Int} (hi:inR id 254=true) (h:g.lock=0):EW g id=(⟨g.val,g.ver,id+1⟩,0):=by
 unfold EW;rw [hg,hi];simp only [h,Bool.and_self,if_true]
theorem ZG {g:Ap} (hg:AO g=true) {id:Int} (hi:inR id 254=true) (h:¬ g.lock=0):EW g id=(Fc,301):=by
 unfold EW;rw [hg,hi];simp only [h,Bool.and_self,if_true,if_false]
theorem a3n (i:Nat) (pf:Bool) (m:Ad) (hm:SmM m) (at_:Int):Aa (Lv ctx (i+10)) 108 [eM pf m,iV at_]=some (.tup [oM (Ed m at_).1,iV (Ed m at_).2]):=by
 have ql:=iC (i+0) pf m hm at_ 1
 have qc:=FH (i+7) pf m hm
 have qa:=NI (i+0) pf m hm at_ 3
 rcases OM m at_ 1 with h | ⟨k,n,s,w,rfl,hs,hM,hS,hst,hp,hn,hi,hl⟩
 ·rw [Kh h,Ay]
  rw [h] at ql
  simp only [Nat.add_assoc,Nat.reduceAdd,Option.isSome_none] at ql
  refine Ac rfl 0 (by rfl) ?_
  delta oU
  cases pf<;>simp +contextual -dsimp -implicitDefEqProofs (maxSteps:=5000000) only [ql,go_sem,simprocAttr]
 ·obtain ⟨j,g,hj,hg,hgm,hlev,hv⟩:=Ny hM hS hi
  have hgw:=ZW hj hg
  have qw:=a3m (i+5) g.val g.ver g.lock s.id
  rw [show (⟨g.val,g.ver,g.lock⟩:Ap)=g from rfl] at qw
  rw [hl] at ql
  have hk:=Ax hs
  have e1:(0≤(k:Int))=True:=by simp
  have e2:((k:Int)<(m.sess.length:Int))=True:=by simpa using hk
  have e3:∀ x,((m.sess.map oS).set k x)[k]?=some x:=fun x=>List.getElem?_set_self (by simpa using hk)
  have e4:∀ x y,((m.sess.map oS).set k x).set k y=(m.sess.map oS).set k y:=fun x y=>List.set_set ..
  have p1:(0≤(n:Int))=True:=by simp
  have p2:((n:Int)<(s.writes.length:Int))=True:=by simpa using hn
  have jn:w.index.toNat=j:=by rw [hj];rfl
  have j1:(0≤(j:Int))=True:=by simp
  have hn1:IntKind.wrap .i64 ((n:Int)+1)=(n:Int)+1:=by
   have:=(hm.s s (List.mem_of_getElem? hs)).bw
   exact Be (by omega) (by omega)
  by_cases hlk:g.lock=0
  ·rw [ZF hgm hS.id hlk] at qw
   rw [ZT hl hgw hlk]
   simp only [Nat.add_assoc,Nat.reduceAdd,Option.isSome_some,eW] at ql qc qw
   rcases hlev with h0 | h0 | h0 | h0
   all_goals
    rw [h0] at hg
    simp only [A4.get] at hg
    simp only [show ((1:Int)=0)=False by decide,show ((2:Int)=0)=False by decide,show ((2:Int)=1)=False by decide,show ((3:Int)=0)=False by decide,show ((3:Int)=1)=False by decide,show ((3:Int)=2)=False by decide,if_true,if_false] at hg
    have hjl:=Ax hg
    have j2:=eq_true (Int.ofNat_lt.2 hjl)
    by_cases hlast:s.at_+1=s.writes.length
    ·have l1:decide ((n:Int)+1=(s.writes.length:Int))=true:=by rw [hp] at hlast;simpa using hlast
     rw [if_pos hlast]
     simp only [AE,FF,h0,Jb,Ja,IZ,IY,jn,hp,Int.toNat_natCast,oM,cO,oWs,oSs,oEs,List.map_set,eW,oS]
     refine Ac rfl 0 (by rfl) ?_
     delta oU
     cases pf<;>simp +contextual -dsimp -implicitDefEqProofs (maxSteps:=5000000) only [ql,qc,qw,hs,e1,e2,e3,e4,p1,p2,hp,hi,h0,hj,hg,j1,j2,hn1,l1,List.length_set,hk,go_sem,simprocAttr]
    ·have l1:decide ((n:Int)+1=(s.writes.length:Int))=false:=by rw [hp] at hlast;simpa using hlast
     rw [if_neg hlast]
     simp only [AE,FF,h0,Jb,Ja,IZ,IY,jn,hp,Int.toNat_natCast,oM,cO,oWs,oSs,oEs,List.map_set,eW,oS]
     refine Ac rfl 0 (by rfl) ?_
     delta oU
     cases pf<;>simp +contextual -dsimp -implicitDefEqProofs (maxSteps:=5000000) only [ql,qc,qw,hs,e1,e2,e3,e4,p1,p2,hp,hi,h0,hj,hg,j1,j2,hn1,l1,List.length_set,hk,go_sem,simprocAttr]
  ·rw [ZG hgm hS.id hlk] at qw
   rw [ZU hl hgw hlk]
   simp only [Nat.add_assoc,Nat.reduceAdd,Option.isSome_some,eW,Fc] at ql qa qw
   generalize BK m k 3=r at qa ⊢
   rcases hlev with h0 | h0 | h0 | h0
   all_goals
    rw [h0] at hg
    simp only [A4.get] at hg
    simp only [show ((1:Int)=0)=False by decide,show ((2:Int)=0)=False by decide,show ((2:Int)=1)=False by decide,show ((3:Int)=0)=False by decide,show ((3:Int)=1)=False by decide,show ((3:Int)=2)=False by decide,if_true,if_false] at hg
    have hjl:=Ax hg
    have j2:=eq_true (Int.ofNat_lt.2 hjl)
    refine Ac rfl 0 (by rfl) ?_
    delta oU
    cases pf<;>simp +contextual -dsimp -implicitDefEqProofs (maxSteps:=5000000) only [ql,qa,qw,hs,e1,e2,p1,p2,hp,hi,h0,hj,hg,j1,j2,go_sem,simprocAttr]
end Ve
