/- The program's scripts: whether one may be, its run. -/
import Derived.Test.YtjgbbmcjbfpjfaaGreatS60
import Derived.Test.YtjgbbmcjbfpjfaaGreatVeSC
import Derived.Test.YtjgbbmcjbfpjfaaGreatVeSG
import Derived.Test.YtjgbbmcjbfpjfaaGreatVeP
set_option linter.all false
set_option linter.unusedSectionVars false
namespace Ve
open Go Ve.Ab
set_option maxHeartbeats 16000000
set_option maxRecDepth 10000
theorem qN (i:Nat) (x:AR):Aa (Lv ctx (i+3)) 57 [eSl x]=some (bV (!AP x)):=by
 have h:=Qf (i+0) x.level x.pick
 simp only [eSl,Nat.add_assoc,Nat.reduceAdd] at h ⊢
 refine Ac rfl 0 (by rfl) ?_
 delta c57
 simp +contextual -dsimp -implicitDefEqProofs (maxSteps:=5000000) only [h,go_sem,simprocAttr]
theorem GB (i:Nat) (p:Bool) (s:Aq) (hs:CK s):Aa (Lv ctx (i+21)) 21 [eSc p s]=some (bV (Au s)):=by
 have q:=gJ (i+0) p s hs
 have hb:s.slots.length≤BB:=by have:=hs.bsl;simp only [BB];omega
 have hcf:=fun pf=>gT (i+(20 - 2)) pf false s.slots (fun x=>!AP x) 57 [] (fun _ _ _ _ _ _=>rfl) (fun _=>rfl) (by simp [AU]) rfl (fun a _=>qN (i+(20 - 2 - 3)) a) hb
 have e:Au s=(decide ((DG s).2=0)&&decide (s.slots.length≤256)&&s.slots.all AP):=rfl
 have hL:decide ((s.slots.length:Int)≤256)=decide (s.slots.length≤256):=by apply decide_eq_decide.mpr;omega
 rw [GT] at hcf
 simp only [Nat.add_assoc,Nat.reduceAdd,Nat.reduceSub] at q hcf
 rw [e]
 generalize DG s=N at q ⊢
 cases h1:decide (N.2=0)
 ·refine Ac rfl 0 (by rfl) ?_
  delta c21
  cases p<;>simp +contextual -dsimp -implicitDefEqProofs (maxSteps:=5000000) only [q,h1,go_sem,simprocAttr]
 ·cases h2:decide (s.slots.length≤256)
  ·refine Ac rfl 0 (by rfl) ?_
   delta c21
   cases p<;>simp +contextual -dsimp -implicitDefEqProofs (maxSteps:=5000000) only [q,h1,hL,h2,go_sem,simprocAttr]
  ·refine Ac rfl 0 (by rfl) ?_
   delta c21
   cases p<;>simp +contextual -dsimp -implicitDefEqProofs (maxSteps:=5000000) only [q,h1,hL,h2,hcf,Bool.not_not,go_sem,simprocAttr]
abbrev hRn (m:Ad) (C:List V):Hp:=pO (pO (pO (pO (pO (pO (pO (pO Af 0 (some ⟨11,[zM],false⟩)) 1 (some ⟨3,m.words.a0.map eW,false⟩)) 2 (some ⟨3,m.words.a1.map eW,false⟩)) 3 (some ⟨3,m.words.a2.map eW,false⟩)) 4 (some ⟨3,m.words.a3.map eW,false⟩)) 5 (some ⟨17,m.sess.map oS,false⟩)) 6 (some ⟨4,m.trace.map eE,false⟩)) 7 (some ⟨11,[.agg C],true⟩)
abbrev cA (m:Ad):List V:=[.sl 1,.sl 2,.sl 3,.sl 4,iV m.clocks.a0,iV m.clocks.a1,iV m.clocks.a2,iV m.clocks.a3,iV m.ceil,.sl 5,.sl 6]
theorem s_rb (i k:Nat) (p:Bool) (s:Aq) (hs:CK s) (m0:Ad) (hm0:SmM m0) (q:Out→St→Option Ans) (Q:V→Hp→Nat→Prop) (u:Dum (fun s q=>evC ctx (Lv ctx (i+28)) (Aa (Lv ctx (i+28))) k JO s (Al [2,4,20,21,22] q))) (w:Dum q)
  (hend:∀ m',Bh m0 s.slots=(m',0)→SmM m'→Fin (q (.exit 0) ⟨Ae [2,4] [.ptr 0 0 0,.ptr 7 0 0],hRn m0 (cO m'),8⟩) Q)
  (hbad:∀ h n,(n=16∨n=22)→h 0=some ⟨11,[zM],false⟩→Bh m0 s.slots=(Az,2500)→Fin (q .ret ⟨Ae [2,3] [.ptr 0 0 0,iV 2500],h,n⟩) Q) :
  ∀ (suf pre:List AR) (kk:Nat) (m:Ad),s.slots=pre++suf→suf.length<kk→SmM m→Bh m suf=Bh m0 s.slots →
  GL 8 [2,4,20,21,22] (fun s q=>evC ctx (Lv ctx (i+28)) (Aa (Lv ctx (i+28))) k JO s (Al [2,4,20,21,22] q)) q kk ⟨Ae [2,4,20,21,22] [.ptr 0 0 0,.ptr 7 0 0,Hu p s.slots,iV s.slots.length,iV pre.length],hRn m0 (cO m),8⟩ Q u w
 | [],pre,kk,m,hxs,hk,hm,hr=>by
  obtain ⟨kk,rfl⟩:∃ m,kk=m+1:=⟨kk - 1,by simp at hk;omega⟩
  have h1:decide ((pre.length:Int)<s.slots.length)=false:=by simp [hxs]
  have he:=hend m (by rw [← hr];rfl) hm
  simp +contextual -dsimp -implicitDefEqProofs (maxSteps:=5000000) only [gLs,↓Ah (JO.eq_1),h1,go_sem,simprocAttr]
  exact he
 | a::suf,pre,kk,m,hxs,hk,hm,hr=>by
  obtain ⟨kk,rfl⟩:∃ m,kk=m+1:=⟨kk - 1,by simp at hk;omega⟩
  have hl:pre.length<s.slots.length:=by simp [hxs]
  have h2:((pre.length:Int)<s.slots.length)=True:=by simpa using hl
  have h3:(0≤(pre.length:Int))=True:=by simp
  have h4:=wrN pre.length (by have:=hs.bsl;simp only [BB];omega)
  have hg:s.slots[pre.length]?=some a:=by simp [hxs]
  have q1:=gA (i+0) false m hm a.level a.pick
  have hA:=KY hm a
  have e:Bh m (a::suf)=if (Bl m a).2=0 then Bh (Bl m a).1 suf else (Az,2500):=rfl
  rw [e] at hr
  simp only [Nat.add_assoc,Nat.reduceAdd] at q1
  generalize Bl m a=A at q1 hA hr
  by_cases h0:A.2=0
  ·rw [if_pos h0] at hr
   have z0:decide (A.2=0)=true:=by simpa using h0
   have ih:=s_rb i k p s hs m0 hm0 q Q u w hend hbad suf (pre++[a]) kk A.1 (by simp [hxs]) (by simpa using hk) hA hr
   simp only [Ag] at ih
   cases p
   all_goals
    simp +contextual -dsimp -implicitDefEqProofs (maxSteps:=5000000) only [gLs,↓Ah (JO.eq_1),h2,h3,h4,hg,q1,z0,go_sem,simprocAttr]
    exact (AA (by rfl)).mpr ih
  ·rw [if_neg h0] at hr
   have z0:decide (A.2=0)=false:=by simpa using h0
   cases p
   all_goals
    simp +contextual -dsimp -implicitDefEqProofs (maxSteps:=5000000) only [gLs,↓Ah (JO.eq_1),h2,h3,h4,hg,q1,z0,go_sem,simprocAttr]
    exact hbad _ _ (by first | exact .inl rfl | exact .inr rfl) (by rfl) hr.symm
theorem s_ra (i k:Nat) (p:Bool) (s:Aq) (hs:CK s) (m0:Ad) (hm0:SmM m0) (q:Out→St→Option Ans) (Q:V→Hp→Nat→Prop) (u:Dum (fun s q=>evC ctx (Lv ctx (i+28)) (Aa (Lv ctx (i+28))) k JO s (Al [2,4,20,21,22] q))) (w:Dum q)
  (hend:∀ m',Bh m0 s.slots=(m',0)→SmM m'→Fin (q (.exit 0) ⟨Ae [2,4] [.ptr 0 0 0,.ptr 7 0 0],hRn m0 (cO m'),8⟩) Q) (hend0:Bh m0 s.slots=(m0,0)→Fin (q (.exit 0) ⟨Ae [2,4] [.ptr 0 0 0,.ptr 7 0 0],hRn m0 (cA m0),8⟩) Q)
  (hbad:∀ h n,(n=16∨n=22)→h 0=some ⟨11,[zM],false⟩→Bh m0 s.slots=(Az,2500)→Fin (q .ret ⟨Ae [2,3] [.ptr 0 0 0,iV 2500],h,n⟩) Q) :
  ∀ (suf pre:List AR) (kk:Nat) (m:Ad),s.slots=pre++suf→suf.length<kk→SmM m→Bh m suf=Bh m0 s.slots→m=m0 →
  GL 8 [2,4,20,21,22] (fun s q=>evC ctx (Lv ctx (i+28)) (Aa (Lv ctx (i+28))) k JO s (Al [2,4,20,21,22] q)) q kk ⟨Ae [2,4,20,21,22] [.ptr 0 0 0,.ptr 7 0 0,Hu p s.slots,iV s.slots.length,iV pre.length],hRn m0 (cA m),8⟩ Q u w
 | [],pre,kk,m,hxs,hk,hm,hr,hmm=>by
  obtain ⟨kk,rfl⟩:∃ m,kk=m+1:=⟨kk - 1,by simp at hk;omega⟩
  have h1:decide ((pre.length:Int)<s.slots.length)=false:=by simp [hxs]
  subst hmm
  have he:=hend0 (by rw [← hr];rfl)
  simp +contextual -dsimp -implicitDefEqProofs (maxSteps:=5000000) only [gLs,↓Ah (JO.eq_1),h1,go_sem,simprocAttr]
  exact he
 | a::suf,pre,kk,m,hxs,hk,hm,hr,hmm=>by
  obtain ⟨kk,rfl⟩:∃ m,kk=m+1:=⟨kk - 1,by simp at hk;omega⟩
  have hl:pre.length<s.slots.length:=by simp [hxs]
  have h2:((pre.length:Int)<s.slots.length)=True:=by simpa using hl
  have h3:(0≤(pre.length:Int))=True:=by simp
  have h4:=wrN pre.length (by have:=hs.bsl;simp only [BB];omega)
  have hg:s.slots[pre.length]?=some a:=by simp [hxs]
  have q1:=gA (i+0) false m hm a.level a.pick
  have hA:=KY hm a
  have e:Bh m (a::suf)=if (Bl m a).2=0 then Bh (Bl m a).1 suf else (Az,2500):=rfl
  rw [e] at hr
  subst hmm
  simp only [Nat.add_assoc,Nat.reduceAdd] at q1
  generalize Bl m a=A at q1 hA hr
  by_cases h0:A.2=0
  ·rw [if_pos h0] at hr
   have z0:decide (A.2=0)=true:=by simpa using h0
   have ih:=s_rb i k p s hs m hm0 q Q u w hend hbad suf (pre++[a]) kk A.1 (by simp [hxs]) (by simpa using hk) hA hr
   simp only [Ag] at ih
   cases p
   all_goals
    simp +contextual -dsimp -implicitDefEqProofs (maxSteps:=5000000) only [gLs,↓Ah (JO.eq_1),h2,h3,h4,hg,q1,z0,go_sem,simprocAttr]
    exact (AA (by rfl)).mpr ih
  ·rw [if_neg h0] at hr
   have z0:decide (A.2=0)=false:=by simpa using h0
   cases p
   all_goals
    simp +contextual -dsimp -implicitDefEqProofs (maxSteps:=5000000) only [gLs,↓Ah (JO.eq_1),h2,h3,h4,hg,q1,z0,go_sem,simprocAttr]
    exact hbad _ _ (by first | exact .inl rfl | exact .inr rfl) (by rfl) hr.symm
theorem Kq (i:Nat) (p:Bool) (s:Aq) (hs:CK s):Aa (Lv ctx (i+29)) 12 [eSc p s]=some (.tup [oM (Bq s).1,iV (Bq s).2]):=by
 have q0:=GB (i+7) p s hs
 have qn:=gJ (i+8) p s hs
 have hm:SmM (DG s).1:=by
  unfold DG;split
  ·exact IW hs
  ·exact Dx
 have e:Bq s=if Au s=true then Bh (DG s).1 s.slots else (Az,2500):=rfl
 rw [e]
 simp only [Nat.add_assoc,Nat.reduceAdd] at q0 qn
 cases h0:Au s
 ·rw [h0] at q0
  simp only [Bool.false_eq_true,if_false]
  rw [Ay]
  refine Ac rfl 0 (by rfl) ?_
  delta c12
  cases p<;>simp +contextual -dsimp -implicitDefEqProofs (maxSteps:=5000000) only [q0,go_sem,simprocAttr]
 ·rw [h0] at q0
  simp only [if_true]
  generalize DG s=N at qn hm ⊢
  refine Ac rfl (s.slots.length+1) (by rfl) ?_
  delta c12
  cases p
  all_goals
   simp +contextual -dsimp -implicitDefEqProofs (maxSteps:=5000000) only [q0,qn,go_sem,simprocAttr]
   refine s_ra i _ _ s hs N.1 hm _ _ _ _ ?ha ?hz ?hb s.slots [] _ N.1 (by simp) (by omega) hm rfl rfl
   case ha =>
    intro m' hr hm'
    rw [hr]
    simp +contextual -dsimp -implicitDefEqProofs (maxSteps:=5000000) only [go_sem,simprocAttr]
   case hz =>
    intro hr
    rw [hr]
    simp +contextual -dsimp -implicitDefEqProofs (maxSteps:=5000000) only [go_sem,simprocAttr]
   case hb =>
    intro h n hn hh hr
    rw [hr,Ay]
    rcases hn with rfl | rfl<;>simp +contextual -dsimp -implicitDefEqProofs (maxSteps:=5000000) only [hh,go_sem,simprocAttr]
end Ve
