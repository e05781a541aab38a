/- The reference's runs of scripts. -/
import Derived.Test.YtjgbbmcjbfpjfaaGreatS62
import Derived.Test.YtjgbbmcjbfpjfaaGreatS65
import Derived.Test.YtjgbbmcjbfpjfaaGreatVeSG
import Derived.Test.YtjgbbmcjbfpjfaaGreatS39
set_option linter.all false
set_option linter.unusedSectionVars false
namespace Ve
open Go Ve.Ab
set_option maxHeartbeats 16000000
set_option maxRecDepth 10000
theorem wZ (i k:Nat) (p:Bool) (s:Aq) (hs:CK s) (m0:Ad) (hm0:SmM m0) (q:Out→St→Option Ans) (Q:V→Hp→Nat→Prop) (u:Dum (fun s q=>evC ctx (Lv ctx (i+13)) (Aa (Lv ctx (i+13))) k JN s (Al [1,2,4,6] q))) (w:Dum q)
  (hend:∀ m',Bh m0 s.slots=(m',0)→SmM m'→Fin (q (.exit 0) ⟨Ae [2,4] [.ptr 0 0 0,.ptr 7 0 0],hRn m0 (cO m'),8⟩) Q)
  (hbad:∀ h n,(n=15∨n=21)→h 0=some ⟨11,[zM],false⟩→Bh m0 s.slots=(Az,2500)→Fin (q .ret ⟨Ae [2,3] [.ptr 0 0 0,iV 2500],h,n⟩) Q) :
  ∀ (suf pre:List AR) (kk:Nat) (m:Ad),s.slots=pre++suf→suf.length<kk→SmM m→Bh m suf=Bh m0 s.slots →
  GL 8 [1,2,4,6] (fun s q=>evC ctx (Lv ctx (i+13)) (Aa (Lv ctx (i+13))) k JN s (Al [1,2,4,6] q)) q kk ⟨Ae [1,2,4,6] [.ip p (cSc p s) 0,.ptr 0 0 0,.ptr 7 0 0,iV pre.length],hRn m0 (cO m),8⟩ Q u w
 | [],pre,kk,m,hxs,hk,hm,hr=>by
  obtain ⟨kk,rfl⟩:∃ m,kk=m+1:=⟨kk - 1,by simp at hk;omega⟩
  have h1:decide ((pre.length:Int)<s.slots.length)=false:=by simp [hxs]
  have he:=hend m (by rw [← hr];rfl) hm
  simp +contextual -dsimp -implicitDefEqProofs (maxSteps:=5000000) only [gLs,↓Ah (JN.eq_1),h1,go_sem,simprocAttr]
  exact he
 | a::suf,pre,kk,m,hxs,hk,hm,hr=>by
  obtain ⟨kk,rfl⟩:∃ m,kk=m+1:=⟨kk - 1,by simp at hk;omega⟩
  have hl:pre.length<s.slots.length:=by simp [hxs]
  have h2:((pre.length:Int)<s.slots.length)=True:=by simpa using hl
  have h3:(0≤(pre.length:Int))=True:=by simp
  have h4:=wrN pre.length (by have:=hs.bsl;simp only [BB];omega)
  have hg:s.slots[pre.length]?=some a:=by simp [hxs]
  have q1:=Wj (i+0) false m hm a.level a.pick
  have hA:=KY hm a
  have e:Bh m (a::suf)=if (Bl m a).2=0 then Bh (Bl m a).1 suf else (Az,2500):=rfl
  rw [e] at hr
  simp only [Nat.add_assoc,Nat.reduceAdd] at q1
  generalize Bl m a=A at q1 hA hr
  by_cases h0:A.2=0
  ·rw [if_pos h0] at hr
   have z0:decide (A.2=0)=true:=by simpa using h0
   have ih:=wZ i k p s hs m0 hm0 q Q u w hend hbad suf (pre++[a]) kk A.1 (by simp [hxs]) (by simpa using hk) hA hr
   simp only [Ag] at ih
   cases p
   all_goals
    simp +contextual -dsimp -implicitDefEqProofs (maxSteps:=5000000) only [gLs,↓Ah (JN.eq_1),h2,h3,h4,hg,q1,z0,go_sem,simprocAttr]
    exact (AA (by rfl)).mpr ih
  ·rw [if_neg h0] at hr
   have z0:decide (A.2=0)=false:=by simpa using h0
   cases p
   all_goals
    simp +contextual -dsimp -implicitDefEqProofs (maxSteps:=5000000) only [gLs,↓Ah (JN.eq_1),h2,h3,h4,hg,q1,z0,go_sem,simprocAttr]
    exact hbad _ _ (by first | exact .inl rfl | exact .inr rfl) (by rfl) hr.symm
theorem a8q (i k:Nat) (p:Bool) (s:Aq) (hs:CK s) (m0:Ad) (hm0:SmM m0) (q:Out→St→Option Ans) (Q:V→Hp→Nat→Prop) (u:Dum (fun s q=>evC ctx (Lv ctx (i+13)) (Aa (Lv ctx (i+13))) k JN s (Al [1,2,4,6] q))) (w:Dum q)
  (hend:∀ m',Bh m0 s.slots=(m',0)→SmM m'→Fin (q (.exit 0) ⟨Ae [2,4] [.ptr 0 0 0,.ptr 7 0 0],hRn m0 (cO m'),8⟩) Q) (hend0:Bh m0 s.slots=(m0,0)→Fin (q (.exit 0) ⟨Ae [2,4] [.ptr 0 0 0,.ptr 7 0 0],hRn m0 (cA m0),8⟩) Q)
  (hbad:∀ h n,(n=15∨n=21)→h 0=some ⟨11,[zM],false⟩→Bh m0 s.slots=(Az,2500)→Fin (q .ret ⟨Ae [2,3] [.ptr 0 0 0,iV 2500],h,n⟩) Q) :
  ∀ (suf pre:List AR) (kk:Nat) (m:Ad),s.slots=pre++suf→suf.length<kk→SmM m→Bh m suf=Bh m0 s.slots→m=m0 →
  GL 8 [1,2,4,6] (fun s q=>evC ctx (Lv ctx (i+13)) (Aa (Lv ctx (i+13))) k JN s (Al [1,2,4,6] q)) q kk ⟨Ae [1,2,4,6] [.ip p (cSc p s) 0,.ptr 0 0 0,.ptr 7 0 0,iV pre.length],hRn m0 (cA m),8⟩ Q u w
 | [],pre,kk,m,hxs,hk,hm,hr,hmm=>by
  obtain ⟨kk,rfl⟩:∃ m,kk=m+1:=⟨kk - 1,by simp at hk;omega⟩
  have h1:decide ((pre.length:Int)<s.slots.length)=false:=by simp [hxs]
  subst hmm
  have he:=hend0 (by rw [← hr];rfl)
  simp +contextual -dsimp -implicitDefEqProofs (maxSteps:=5000000) only [gLs,↓Ah (JN.eq_1),h1,go_sem,simprocAttr]
  exact he
 | a::suf,pre,kk,m,hxs,hk,hm,hr,hmm=>by
  obtain ⟨kk,rfl⟩:∃ m,kk=m+1:=⟨kk - 1,by simp at hk;omega⟩
  have hl:pre.length<s.slots.length:=by simp [hxs]
  have h2:((pre.length:Int)<s.slots.length)=True:=by simpa using hl
  have h3:(0≤(pre.length:Int))=True:=by simp
  have h4:=wrN pre.length (by have:=hs.bsl;simp only [BB];omega)
  have hg:s.slots[pre.length]?=some a:=by simp [hxs]
  have q1:=Wj (i+0) false m hm a.level a.pick
  have hA:=KY hm a
  have e:Bh m (a::suf)=if (Bl m a).2=0 then Bh (Bl m a).1 suf else (Az,2500):=rfl
  rw [e] at hr
  subst hmm
  simp only [Nat.add_assoc,Nat.reduceAdd] at q1
  generalize Bl m a=A at q1 hA hr
  by_cases h0:A.2=0
  ·rw [if_pos h0] at hr
   have z0:decide (A.2=0)=true:=by simpa using h0
   have ih:=wZ i k p s hs m hm0 q Q u w hend hbad suf (pre++[a]) kk A.1 (by simp [hxs]) (by simpa using hk) hA hr
   simp only [Ag] at ih
   cases p
   all_goals
    simp +contextual -dsimp -implicitDefEqProofs (maxSteps:=5000000) only [gLs,↓Ah (JN.eq_1),h2,h3,h4,hg,q1,z0,go_sem,simprocAttr]
    exact (AA (by rfl)).mpr ih
  ·rw [if_neg h0] at hr
   have z0:decide (A.2=0)=false:=by simpa using h0
   cases p
   all_goals
    simp +contextual -dsimp -implicitDefEqProofs (maxSteps:=5000000) only [gLs,↓Ah (JN.eq_1),h2,h3,h4,hg,q1,z0,go_sem,simprocAttr]
    exact hbad _ _ (by first | exact .inl rfl | exact .inr rfl) (by rfl) hr.symm
theorem gY (i:Nat) (p:Bool) (s:Aq) (hs:CK s):Aa (Lv ctx (i+14)) 13 [eSc p s]=some (.tup [oM (Bq s).1,iV (Bq s).2]):=by
 have q0:=RV (i+4) p s hs
 have qn:=iB (i+5) p s hs
 have hm:SmM (DG s).1:=by
  unfold DG;split
  ·exact IW hs
  ·exact Dx
 have e:Bq s=if Au s=true then Bh (DG s).1 s.slots else (Az,2500):=rfl
 rw [e]
 simp only [Nat.add_assoc,Nat.reduceAdd] at q0 qn
 cases h0:Au s
 ·rw [h0] at q0
  simp only [Bool.false_eq_true,if_false]
  rw [Ay]
  refine Ac rfl 0 (by rfl) ?_
  delta c13
  cases p<;>simp +contextual -dsimp -implicitDefEqProofs (maxSteps:=5000000) only [q0,go_sem,simprocAttr]
 ·rw [h0] at q0
  simp only [if_true]
  generalize DG s=N at qn hm ⊢
  refine Ac rfl (s.slots.length+1) (by rfl) ?_
  delta c13
  cases p
  all_goals
   simp +contextual -dsimp -implicitDefEqProofs (maxSteps:=5000000) only [q0,qn,go_sem,simprocAttr]
   refine a8q i _ _ s hs N.1 hm _ _ _ _ ?ha ?hz ?hb s.slots [] _ N.1 (by simp) (by omega) hm rfl rfl
   case ha =>
    intro m' hr hm'
    rw [hr]
    simp +contextual -dsimp -implicitDefEqProofs (maxSteps:=5000000) only [go_sem,simprocAttr]
   case hz =>
    intro hr
    rw [hr]
    simp +contextual -dsimp -implicitDefEqProofs (maxSteps:=5000000) only [go_sem,simprocAttr]
   case hb =>
    intro h n hn hh hr
    rw [hr,Ay]
    rcases hn with rfl | rfl<;>simp +contextual -dsimp -implicitDefEqProofs (maxSteps:=5000000) only [hh,go_sem,simprocAttr]
end Ve
