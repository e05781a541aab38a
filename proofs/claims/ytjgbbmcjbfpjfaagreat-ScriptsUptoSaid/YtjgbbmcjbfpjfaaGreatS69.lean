/- What the reference sees of a machine. -/
import Derived.Test.YtjgbbmcjbfpjfaaGreatS62
import Derived.Test.YtjgbbmcjbfpjfaaGreatVeSB
set_option linter.all false
set_option linter.unusedSectionVars false
namespace Ve
open Go Ve.Ab
set_option maxHeartbeats 16000000
set_option maxRecDepth 10000
abbrev hRS (W:A4 (List Ap)) (C:A4 Int) (ce:Int) (els:List Ai) (tr:List AY):Hp:=pO (pO Af 0 (some ⟨11,[zM],false⟩)) 1 (some ⟨11,[.agg [oWs W.a0,oWs W.a1,oWs W.a2,oWs W.a3,iV C.a0,iV C.a1,iV C.a2,iV C.a3,iV ce,.own 17 (els.map oS),.own 4 (tr.map eE)]],true⟩)
theorem lE (i k:Nat) (m:Ad) (hm:SmM m) (l:Int) (W:A4 (List Ap)) (C:A4 Int) (ss:List Ai) (q:Out→St→Option Ans) (Q:V→Hp→Nat→Prop)
  (u:Dum (fun s q=>evC ctx (Lv ctx (i+7)) (Aa (Lv ctx (i+7))) k Rt s (Al [1,2,4,6,8] q))) (w:Dum q)
  (hend:Fin (q (.exit 2) ⟨Ae [1,2,4,6] [iV l,.ip true (cM true m) 0,.ptr 0 0 0,.ptr 1 0 0],hRS W C m.ceil (m.sess.filter fun x=>Aj x.label l) [],2⟩) Q):∀ (suf pre els:List Ai) (kk:Nat),m.sess=pre++suf→suf.length<kk→els.length≤pre.length→els++suf.filter (fun x=>Aj x.label l)=m.sess.filter (fun x=>Aj x.label l) →
  GL 2 [1,2,4,6,8] (fun s q=>evC ctx (Lv ctx (i+7)) (Aa (Lv ctx (i+7))) k Rt s (Al [1,2,4,6,8] q)) q kk ⟨Ae [1,2,4,6,8] [iV l,.ip true (cM true m) 0,.ptr 0 0 0,.ptr 1 0 0,iV pre.length],hRS W C m.ceil els [],2⟩ Q u w
 | [],pre,els,kk,hxs,hk,hle,he=>by
  obtain ⟨kk,rfl⟩:∃ m,kk=m+1:=⟨kk - 1,by simp at hk;omega⟩
  have h1:decide ((pre.length:Int)<m.sess.length)=false:=by simp [hxs]
  rw [← he] at hend
  simp only [List.filter_nil,List.append_nil] at hend
  simp +contextual -dsimp -implicitDefEqProofs (maxSteps:=5000000) only [gLs,↓Ah (Rt.eq_1),h1,go_sem,simprocAttr]
  exact hend
 | a::suf,pre,els,kk,hxs,hk,hle,he=>by
  obtain ⟨kk,rfl⟩:∃ m,kk=m+1:=⟨kk - 1,by simp at hk;omega⟩
  have hl:pre.length<m.sess.length:=by simp [hxs]
  have h2:((pre.length:Int)<m.sess.length)=True:=by simpa using hl
  have h3:(0≤(pre.length:Int))=True:=by simp
  have hbd:(m.sess.length:Int)*184≤140737488355328:=hm.bs
  have h4:=wrN pre.length (by simp only [BB];omega)
  have hg:m.sess[pre.length]?=some a:=by simp [hxs]
  cases c0:Aj a.label l
  ·have ih:=lE i k m hm l W C ss q Q u w hend suf (pre++[a]) els kk (by simp [hxs]) (by simpa using hk) (by simp;omega) (by rw [← he,List.filter_cons,c0];rfl)
   simp only [Ag] at ih
   simp +contextual -dsimp -implicitDefEqProofs (maxSteps:=5000000) only [gLs,↓Ah (Rt.eq_1),h2,h3,h4,hg,c0,eS,eE,go_sem,simprocAttr]
   exact (AA (by rfl)).mpr ih
  ·have h5:(((els.length+1:Nat):Int)*184≤140737488355328)=True:=by
    simp only [eq_iff_iff,iff_true]
    omega
   have ih:=lE i k m hm l W C ss q Q u w hend suf (pre++[a]) (els++[a]) kk (by simp [hxs]) (by simpa using hk) (by simp;omega) (by rw [← he,List.filter_cons,c0];simp)
   simp only [Ag,List.map_append,List.map_cons,List.map_nil,oS] at ih
   have hs:=Ql (i+6) true a (hm.s a (by simp [hxs]))
   simp only [Nat.add_assoc,Nat.reduceAdd,eS] at hs
   simp +contextual -dsimp -implicitDefEqProofs (maxSteps:=5000000) only [gLs,↓Ah (Rt.eq_1),h2,h3,h4,h5,hg,c0,hs,eS,eE,List.replicate,List.length_append,List.length_cons,List.length_nil,List.length_map,go_sem,simprocAttr]
   obtain ⟨kk,rfl⟩:∃ m,kk=m+1:=⟨kk - 1,by simp at hk;omega⟩
   simp +contextual -dsimp -implicitDefEqProofs (maxSteps:=5000000) only [gLs,go_sem,simprocAttr] at ih ⊢
   exact ih
theorem lC (i k:Nat) (m:Ad) (hm:SmM m) (l:Int) (W:A4 (List Ap)) (C:A4 Int) (ss:List Ai) (q:Out→St→Option Ans) (Q:V→Hp→Nat→Prop)
  (u:Dum (fun s q=>evC ctx (Lv ctx (i+7)) (Aa (Lv ctx (i+7))) k Rr s (Al [1,2,4,6,9] q))) (w:Dum q)
  (hend:Fin (q (.exit 4) ⟨Ae [4,6] [.ptr 0 0 0,.ptr 1 0 0],hRS W C m.ceil ss (m.trace.filter fun x=>Aj x.label l),2⟩) Q):∀ (suf pre els:List AY) (kk:Nat),m.trace=pre++suf→suf.length<kk→els.length≤pre.length→els++suf.filter (fun x=>Aj x.label l)=m.trace.filter (fun x=>Aj x.label l) →
  GL 2 [1,2,4,6,9] (fun s q=>evC ctx (Lv ctx (i+7)) (Aa (Lv ctx (i+7))) k Rr s (Al [1,2,4,6,9] q)) q kk ⟨Ae [1,2,4,6,9] [iV l,.ip true (cM true m) 0,.ptr 0 0 0,.ptr 1 0 0,iV pre.length],hRS W C m.ceil ss els,2⟩ Q u w
 | [],pre,els,kk,hxs,hk,hle,he=>by
  obtain ⟨kk,rfl⟩:∃ m,kk=m+1:=⟨kk - 1,by simp at hk;omega⟩
  have h1:decide ((pre.length:Int)<m.trace.length)=false:=by simp [hxs]
  rw [← he] at hend
  simp only [List.filter_nil,List.append_nil] at hend
  simp +contextual -dsimp -implicitDefEqProofs (maxSteps:=5000000) only [gLs,↓Ah (Rr.eq_1),h1,go_sem,simprocAttr]
  exact hend
 | a::suf,pre,els,kk,hxs,hk,hle,he=>by
  obtain ⟨kk,rfl⟩:∃ m,kk=m+1:=⟨kk - 1,by simp at hk;omega⟩
  have hl:pre.length<m.trace.length:=by simp [hxs]
  have h2:((pre.length:Int)<m.trace.length)=True:=by simpa using hl
  have h3:(0≤(pre.length:Int))=True:=by simp
  have hbd:(m.trace.length:Int)*32≤140737488355328:=hm.bt
  have h4:=wrN pre.length (by simp only [BB];omega)
  have hg:m.trace[pre.length]?=some a:=by simp [hxs]
  cases c0:Aj a.label l
  ·have ih:=lC i k m hm l W C ss q Q u w hend suf (pre++[a]) els kk (by simp [hxs]) (by simpa using hk) (by simp;omega) (by rw [← he,List.filter_cons,c0];rfl)
   simp only [Ag] at ih
   simp +contextual -dsimp -implicitDefEqProofs (maxSteps:=5000000) only [gLs,↓Ah (Rr.eq_1),h2,h3,h4,hg,c0,eS,eE,go_sem,simprocAttr]
   exact (AA (by rfl)).mpr ih
  ·have h5:(((els.length+1:Nat):Int)*32≤140737488355328)=True:=by
    simp only [eq_iff_iff,iff_true]
    omega
   have ih:=lC i k m hm l W C ss q Q u w hend suf (pre++[a]) (els++[a]) kk (by simp [hxs]) (by simpa using hk) (by simp;omega) (by rw [← he,List.filter_cons,c0];simp)
   simp only [Ag,List.map_append,List.map_cons,List.map_nil,eE] at ih
   simp +contextual -dsimp -implicitDefEqProofs (maxSteps:=5000000) only [gLs,↓Ah (Rr.eq_1),h2,h3,h4,h5,hg,c0,eS,eE,List.replicate,List.length_append,List.length_cons,List.length_nil,List.length_map,go_sem,simprocAttr]
   obtain ⟨kk,rfl⟩:∃ m,kk=m+1:=⟨kk - 1,by simp at hk;omega⟩
   simp +contextual -dsimp -implicitDefEqProofs (maxSteps:=5000000) only [gLs,go_sem,simprocAttr] at ih ⊢
   exact ih
theorem aU:Aj 0 0=true∧Aj 0 1=true∧Aj 0 2=true∧Aj 0 3=true∧Aj 1 0=false∧Aj 1 1=true∧Aj 1 2=false∧Aj 1 3=true∧Aj 2 0=false∧Aj 2 1=false∧Aj 2 2=true∧Aj 2 3=true∧Aj 3 0=false∧Aj 3 1=false∧Aj 3 2=false∧Aj 3 3=true:=by decide
theorem a3i (i:Nat) (m:Ad) (hm:SmM m) (l:Int):Aa (Lv ctx (i+8)) 17 [eM true m,iV l]=some (.tup [oM (Dh m l).1,iV (Dh m l).2]):=by
 have q0:=TH (i+0) true m hm
 have e:Dh m l=if (CN m&&inR l 3)=true then (Bf m l,0) else (Az,2500):=rfl
 rw [e]
 simp only [Nat.add_assoc,Nat.reduceAdd] at q0
 cases h0:CN m
 ·rw [h0] at q0
  simp only [Bool.false_and,Bool.false_eq_true,if_false]
  rw [Ay]
  refine Ac rfl 0 (by rfl) ?_
  delta c17
  simp +contextual -dsimp -implicitDefEqProofs (maxSteps:=5000000) only [q0,go_sem,simprocAttr]
 ·rw [h0] at q0
  cases h1:inR l 3
  ·simp only [Bool.and_false,Bool.false_eq_true,if_false]
   rw [Ay]
   refine Ac rfl 0 (by rfl) ?_
   delta c17
   simp +contextual -dsimp -implicitDefEqProofs (maxSteps:=5000000) only [q0,h1,go_sem,simprocAttr]
  ·simp only [Bool.and_self,if_true]
   have b0:=hm.b0
   have b1:=hm.b1
   have b2:=hm.b2
   have b3:=hm.b3
   have k1:=fun k W C q Q u w he kk hk=>lE i k m hm l W C [] q Q u w he m.sess [] [] kk rfl hk (by simp) rfl
   have k2:=fun k W C ss q Q u w he kk hk=>lC i k m hm l W C ss q Q u w he m.trace [] [] kk rfl hk (by simp) rfl
   simp only [List.length_nil,Int.natCast_zero,List.map_nil] at k1 k2
   obtain ⟨t00,t01,t02,t03,t10,t11,t12,t13,t20,t21,t22,t23,t30,t31,t32,t33⟩:=aU
   have ho:=fun k q k' st Q u w=>gLs 2 [1,2,4,6,7] (fun s q=>evC ctx (Lv ctx (i+7)) (Aa (Lv ctx (i+7))) k oN s (Al [1,2,4,6,7] q)) q k' st Q u w
   refine Ac rfl (m.sess.length+m.trace.length+6) (by rfl) ?_
   delta c17
   have hl:l=0∨l=1∨l=2∨l=3:=by rw [AL] at h1;omega
   rcases hl with rfl | rfl | rfl | rfl
   all_goals
    simp only [Bf,Jc,Lc,t00,t01,t02,t03,t10,t11,t12,t13,t20,t21,t22,t23,t30,t31,t32,t33,if_true,if_false,Bool.false_eq_true]
    simp +contextual -dsimp -implicitDefEqProofs (maxSteps:=5000000) only [ho,↓Ah (oN.eq_1),q0,h1,b0,b1,b2,b3,t00,t01,t02,t03,t10,t11,t12,t13,t20,t21,t22,t23,t30,t31,t32,t33,List.map_nil,List.replicate,List.length_append,List.length_cons,Nat.zero_add,List.nil_append,List.append_nil,go_sem,simprocAttr]
    first
    | refine k1 _ ⟨m.words.a0,[],[],[]⟩ ⟨m.clocks.a0,0,0,0⟩ _ _ _ _ ?_ _ (by omega)
    | refine k1 _ ⟨m.words.a0,m.words.a1,[],[]⟩ ⟨m.clocks.a0,m.clocks.a1,0,0⟩ _ _ _ _ ?_ _ (by omega)
    | refine k1 _ ⟨m.words.a0,[],m.words.a2,[]⟩ ⟨m.clocks.a0,0,m.clocks.a2,0⟩ _ _ _ _ ?_ _ (by omega)
    | refine k1 _ ⟨m.words.a0,m.words.a1,m.words.a2,m.words.a3⟩ ⟨m.clocks.a0,m.clocks.a1,m.clocks.a2,m.clocks.a3⟩ _ _ _ _ ?_ _ (by omega)
    simp +contextual -dsimp -implicitDefEqProofs (maxSteps:=5000000) only [go_sem,simprocAttr]
    refine k2 _ ⟨_,_,_,_⟩ ⟨_,_,_,_⟩ _ _ _ _ _ ?_ _ (by omega)
    simp +contextual -dsimp -implicitDefEqProofs (maxSteps:=5000000) only [go_sem,simprocAttr]<;>rfl
end Ve
