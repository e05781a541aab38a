/- The reference's grabbing, stamping, checking. -/
import Derived.Test.YtdgpalcplglhjaaGreatS27
import Derived.Test.YtdgpalcplglhjaaGreatVeSC
set_option linter.all false
set_option linter.unusedSectionVars false
namespace Ve
open Go Ve.Ab
set_option maxHeartbeats 16000000
set_option maxRecDepth 10000
theorem Wr {m:Ad} {w:Ak} {j:Nat} {g:Al} (hj:w.index=(j:Int)) (hg:(m.words.get w.level)[j]?=some g):Bx m.words w.level w.index=g:=by
 unfold Bx
 rw [hj,Int.toNat_natCast,hg];rfl
theorem Jf {m:Ad} {at_:Int} (h:Er m at_ 1=none):DO m at_=(AN,1800):=by unfold DO;rw [h]
theorem Wp {m:Ad} {at_:Int} {s:Af} {w:Ak} {g:Al} (h:Er m at_ 1=some (s,w)) (hg:Bx m.words w.level w.index=g) (hl:¬ g.lock=0):DO m at_=By m at_ 3:=by
 unfold DO;rw [h];simp only [hg,hl,if_false]
theorem Wo {m:Ad} {at_:Int} {s:Af} {w:Ak} {g:Al} (h:Er m at_ 1=some (s,w)) (hg:Bx m.words w.level w.index=g) (hl:g.lock=0):DO m at_=(AA (FC m w.level w.index ⟨g.val,g.ver,s.id+1⟩) at_.toNat { s with at_:=s.at_+1,step:=if s.at_+1=s.writes.length then 2 else s.step },0):=by
 unfold DO;rw [h];simp only [hg,hl,if_true]
theorem Wc {g:Al} (hg:AK g=true) {id:Int} (hi:inR id 254=true) (h:g.lock=0):EK g id=(⟨g.val,g.ver,id+1⟩,0):=by
 unfold EK;rw [hg,hi];simp only [h,Bool.and_self,if_true]
theorem Wd {g:Al} (hg:AK g=true) {id:Int} (hi:inR id 254=true) (h:¬ g.lock=0):EK g id=(El,301):=by
 unfold EK;rw [hg,hi];simp only [h,Bool.and_self,if_true,if_false]
theorem rM (i:Nat) (pf:Bool) (m:Ad) (hm:SmM m) (at_:Int):Aa (Lv ctx (i+10)) 30 [eM pf m,iV at_]=some (.tup [oM (DO m at_).1,iV (DO m at_).2]):=by
 have ql:=aI (i+0) pf m hm at_ 1
 have qc:=FV (i+7) pf m hm
 have qa:=LZ (i+0) pf m hm at_ 3
 rcases Nb m at_ 1 with h | ⟨k,n,s,w,rfl,hs,hM,hS,hst,hp,hn,hi,hl⟩
 ·rw [Jf h,AH]
  rw [h] at ql
  simp only [Nat.add_assoc,Nat.reduceAdd,Option.isSome_none] at ql
  refine Ac rfl 0 (by rfl) ?_
  delta c30
  cases pf<;>simp +contextual -dsimp -implicitDefEqProofs (maxSteps:=5000000) only [ql,go_sem,simprocAttr]
 ·obtain ⟨j,g,hj,hg,hgm,hlev,hv⟩:=LQ hM hS hi
  have hgw:=Wr hj hg
  have qw:=rL (i+5) g.val g.ver g.lock s.id
  rw [show (⟨g.val,g.ver,g.lock⟩:Al)=g from rfl] at qw
  rw [hl] at ql
  have hk:=Au hs
  have e1:(0≤(k:Int))=True:=by simp
  have e2:((k:Int)<(m.sess.length:Int))=True:=by simpa using hk
  have e3:∀ x,((m.sess.map oS).set k x)[k]?=some x:=fun x=>List.getElem?_set_self (by simpa using hk)
  have e4:∀ x y,((m.sess.map oS).set k x).set k y=(m.sess.map oS).set k y:=fun x y=>List.set_set ..
  have p1:(0≤(n:Int))=True:=by simp
  have p2:((n:Int)<(s.writes.length:Int))=True:=by simpa using hn
  have jn:w.index.toNat=j:=by rw [hj];rfl
  have j1:(0≤(j:Int))=True:=by simp
  have hn1:IntKind.wrap .i64 ((n:Int)+1)=(n:Int)+1:=by
   have:=(hm.s s (List.mem_of_getElem? hs)).bw
   exact Bt (by omega) (by omega)
  by_cases hlk:g.lock=0
  ·rw [Wc hgm hS.id hlk] at qw
   rw [Wo hl hgw hlk]
   simp only [Nat.add_assoc,Nat.reduceAdd,Option.isSome_some,eW] at ql qc qw
   rcases hlev with h0 | h0 | h0 | h0
   all_goals
    rw [h0] at hg
    simp only [A4.get] at hg
    simp only [show ((1:Int)=0)=False by decide,show ((2:Int)=0)=False by decide,show ((2:Int)=1)=False by decide,show ((3:Int)=0)=False by decide,show ((3:Int)=1)=False by decide,show ((3:Int)=2)=False by decide,if_true,if_false] at hg
    have hjl:=Au hg
    have j2:=eq_true (Int.ofNat_lt.2 hjl)
    by_cases hlast:s.at_+1=s.writes.length
    ·have l1:decide ((n:Int)+1=(s.writes.length:Int))=true:=by rw [hp] at hlast;simpa using hlast
     rw [if_pos hlast]
     simp only [AA,FC,h0,In,Im,Il,Ik,jn,hp,Int.toNat_natCast,oM,cO,oWs,oSs,oEs,List.map_set,eW,oS]
     refine Ac rfl 0 (by rfl) ?_
     delta c30
     cases pf<;>simp +contextual -dsimp -implicitDefEqProofs (maxSteps:=5000000) only [ql,qc,qw,hs,e1,e2,e3,e4,p1,p2,hp,hi,h0,hj,hg,j1,j2,hn1,l1,List.length_set,hk,go_sem,simprocAttr]
    ·have l1:decide ((n:Int)+1=(s.writes.length:Int))=false:=by rw [hp] at hlast;simpa using hlast
     rw [if_neg hlast]
     simp only [AA,FC,h0,In,Im,Il,Ik,jn,hp,Int.toNat_natCast,oM,cO,oWs,oSs,oEs,List.map_set,eW,oS]
     refine Ac rfl 0 (by rfl) ?_
     delta c30
     cases pf<;>simp +contextual -dsimp -implicitDefEqProofs (maxSteps:=5000000) only [ql,qc,qw,hs,e1,e2,e3,e4,p1,p2,hp,hi,h0,hj,hg,j1,j2,hn1,l1,List.length_set,hk,go_sem,simprocAttr]
  ·rw [Wd hgm hS.id hlk] at qw
   rw [Wp hl hgw hlk]
   simp only [Nat.add_assoc,Nat.reduceAdd,Option.isSome_some,eW,El] at ql qa qw
   generalize By m k 3=r at qa ⊢
   rcases hlev with h0 | h0 | h0 | h0
   all_goals
    rw [h0] at hg
    simp only [A4.get] at hg
    simp only [show ((1:Int)=0)=False by decide,show ((2:Int)=0)=False by decide,show ((2:Int)=1)=False by decide,show ((3:Int)=0)=False by decide,show ((3:Int)=1)=False by decide,show ((3:Int)=2)=False by decide,if_true,if_false] at hg
    have hjl:=Au hg
    have j2:=eq_true (Int.ofNat_lt.2 hjl)
    refine Ac rfl 0 (by rfl) ?_
    delta c30
    cases pf<;>simp +contextual -dsimp -implicitDefEqProofs (maxSteps:=5000000) only [ql,qa,qw,hs,e1,e2,p1,p2,hp,hi,h0,hj,hg,j1,j2,go_sem,simprocAttr]
end Ve
