/- Scripts whose parts lie in memory of several kinds: new machines, may one be, by the reference. -/
import Derived.Test.YthllnfkddiaokaaGreatS65
import Derived.Test.YthllnfkddiaokaaGreatS66
set_option linter.all false
set_option linter.unusedSectionVars false
namespace Ve
open Go Ve.Ab
set_option maxHeartbeats 16000000
set_option maxRecDepth 10000
abbrev wU (p:Bool) (s:Ap) (fs:List (Bool × AV)):List V:=[eNs p s.words.a0,eNs p s.words.a1,eNs p s.words.a2,eNs p s.words.a3,iV s.ceil,.isl p false 4 (fs.map Ng),XT false s.slots]
theorem YY (i k:Nat) (p:Bool) (s:Ap) (hs:Cj s) (fs:List (Bool × AV)) (hfs:s.starts=fs.map (·.2)) (e:Int) (A:A4 (List Aj)) (q:Out→St→Option Ans) (Q:V→Hp→Nat→Prop)
  (u:Dum (fun s q=>evC ctx (Lv ctx (i+7)) (Aa (Lv ctx (i+7))) k JZ s (As [1,2,5,6,7] q))) (w:Dum q)
  (hend:s.starts.all Bz=true→Fin (q (.exit 0) ⟨Ad [2,5,6] [.ptr 0 0 0,iV e,.ptr 6 0 0],hNw A s.ceil ((s.starts.map AX).map oS),7⟩) Q)
  (hbad:∀ els x7 x8 x9 x10,s.starts.all Bz=false→Fin (q .ret ⟨Ad [2,3] [.ptr 0 0 0,iV 1200],pO (pO (pO (pO (hNw A s.ceil els) 7 x7) 8 x8) 9 x9) 10 x10,11⟩) Q) :
  ∀ (suf pre:List (Bool × AV)) (kk:Nat),fs=pre++suf→suf.length<kk→(∀ x∈pre,Bz x.2=true) →
  GL 7 [1,2,5,6,7] (fun s q=>evC ctx (Lv ctx (i+7)) (Aa (Lv ctx (i+7))) k JZ s (As [1,2,5,6,7] q)) q kk ⟨Ad [1,2,5,6,7] [.ip false (wU p s fs) 0,.ptr 0 0 0,iV e,.ptr 6 0 0,iV pre.length],hNw A s.ceil (((pre.map (·.2)).map AX).map oS),7⟩ Q u w
 | [],pre,kk,hxs,hk,hall=>by
  obtain ⟨kk,rfl⟩:∃ m,kk=m+1:=⟨kk - 1,by simp at hk;omega⟩
  have h1:decide ((pre.length:Int)<fs.length)=false:=by simp [hxs]
  have h2:s.starts=pre.map (·.2):=by rw [hfs,hxs,List.append_nil]
  have he:=hend (by rw [h2,List.all_map,List.all_eq_true];exact hall)
  rw [h2] at he
  simp +contextual -dsimp -implicitDefEqProofs (maxSteps:=5000000) only [gLs,↓Ai (JZ.eq_1),h1,go_sem,simprocAttr]
  exact he
 | (fl,a)::suf,pre,kk,hxs,hk,hall=>by
  have hfl:s.starts.length=fs.length:=by rw [hfs,List.length_map]
  have ham:a∈s.starts:=by rw [hfs,hxs];simp
  obtain ⟨kk,rfl⟩:∃ m,kk=m+1:=⟨kk - 1,by simp at hk;omega⟩
  have hl:pre.length<fs.length:=by simp [hxs]
  have h2:((pre.length:Int)<fs.length)=True:=by simpa using hl
  have h3:(0≤(pre.length:Int))=True:=by simp
  have h4:=wrN pre.length (by have:=hs.bst;simp only [BB];omega)
  have hg:fs[pre.length]?=some (fl,a):=by simp [hxs]
  have h5:(((pre.length+1:Nat):Int)*184≤140737488355328)=True:=by
   have:=hs.bst
   simp only [eq_iff_iff,iff_true]
   omega
  have hr:=jJ (i+1) fl a (hs.p a ham)
  cases hb:Bz a
  ·have e0:Fa a=(AX ⟨0,0,0,[]⟩,1100):=by unfold Fa;rw [hb];rfl
   rw [e0] at hr
   simp only [Nat.add_assoc,Nat.reduceAdd,AX,oS,eSt,List.map_nil] at hr
   have he:s.starts.all Bz=false:=by rw [List.all_eq_false];exact ⟨a,ham,by simp [hb]⟩
   simp +contextual -dsimp -implicitDefEqProofs (maxSteps:=5000000) only [gLs,↓Ai (JZ.eq_1),h2,h3,hg,hr,Ng,eSt,go_sem,simprocAttr]
   exact hbad _ _ _ _ _ he
  ·have e0:Fa a=(AX a,0):=by unfold Fa;rw [hb];rfl
   rw [e0] at hr
   have ih:=YY i k p s hs fs hfs e A q Q u w hend hbad suf (pre++[(fl,a)]) kk (by simp [hxs]) (by simpa using hk) (by
    intro x hx
    rcases List.mem_append.1 hx with h | h
    ·exact hall x h
    ·simp only [List.mem_singleton] at h;subst h;exact hb)
   simp only [Ah,List.map_append,List.map_cons,List.map_nil,oS,AX] at ih
   simp only [Nat.add_assoc,Nat.reduceAdd,eSt,oS,AX] at hr
   simp +contextual -dsimp -implicitDefEqProofs (maxSteps:=5000000) only [gLs,↓Ai (JZ.eq_1),h2,h3,h4,h5,hg,hr,Ng,eSt,oS,AX,go_sem,simprocAttr]
   obtain ⟨kk,rfl⟩:∃ m,kk=m+1:=⟨kk - 1,by simp at hk;omega⟩
   simp +contextual -dsimp -implicitDefEqProofs (maxSteps:=5000000) only [gLs,iZ,go_sem,simprocAttr] at ih ⊢
   exact ih
theorem sH (i:Nat) (p:Bool) (s:Ap) (hs:Cj s) (fs:List (Bool × AV)) (hfs:s.starts=fs.map (·.2)):Aa (Lv ctx (i+8)) 45 [eQ p s fs]=some (.tup [oM (Ci s).1,iV (Ci s).2]):=by
 have h0:=OU (i+4) p s.words
 have hM:=yD (i+0) false (AC s) (Et hs)
 simp only [Nat.add_assoc,Nat.reduceAdd] at h0 hM
 refine Af rfl (fs.length+1) (by rfl) ?_
 delta c45
 cases p
 all_goals
  simp +contextual -dsimp -implicitDefEqProofs (maxSteps:=5000000) only [h0,go_sem,simprocAttr]
  refine YY i _ _ s hs fs hfs (CI s.words).2 (CI s.words).1 _ _ _ _ ?ha ?hb fs [] _ (by simp) (by omega) (by simp)
  case hb =>
   intro els x7 x8 x9 x10 hb
   rw [EJ (.inr (.inl hb)),Bh]
   simp +contextual -dsimp -implicitDefEqProofs (maxSteps:=5000000) only [go_sem,simprocAttr]
  case ha =>
   intro hb
   cases hv:Bw s.words
   ·have e:CI s.words=(⟨[],[],[],[]⟩,400):=by unfold CI;rw [hv];rfl
    rw [e,EJ (.inl hv),Bh]
    simp +contextual -dsimp -implicitDefEqProofs (maxSteps:=5000000) only [go_sem,simprocAttr]
   ·have e:CI s.words=(Bf s.words,0):=by unfold CI;rw [hv];rfl
    rw [e]
    simp only [AC,Bf,eM,cM,eWs,eSs,eEs,List.map_nil] at hM
    cases hm:De (AC s)
    ·rw [EJ (.inr (.inr hm)),Bh]
     simp only [AC,Bf] at hm
     rw [hm] at hM
     simp +contextual -dsimp -implicitDefEqProofs (maxSteps:=5000000) only [hM,Bf,go_sem,simprocAttr]
    ·rw [Oj hv hb hm]
     simp only [AC,Bf] at hm
     rw [hm] at hM
     simp only [AC,Bf,oM,cO,oWs,oSs,oEs,List.map_nil]
     simp +contextual -dsimp -implicitDefEqProofs (maxSteps:=5000000) only [hM,Bf,go_sem,simprocAttr]
theorem r_scMayF (i:Nat) (p:Bool) (s:Ap) (hs:Cj s) (fs:List (Bool × AV)) (hfs:s.starts=fs.map (·.2)):Aa (Lv ctx (i+9)) 18 [eQ p s fs]=some (bV (Az s)):=by
 have q:=sH (i+0) p s hs fs hfs
 have e:Az s=(decide ((Ci s).2=0)&&decide (s.slots.length≤256)&&s.slots.all AF):=rfl
 have hL:decide ((s.slots.length:Int)≤256)=decide (s.slots.length≤256):=by apply decide_eq_decide.mpr;omega
 simp only [Nat.add_assoc,Nat.reduceAdd] at q
 rw [e]
 generalize Ci s=N at q ⊢
 have key:∀ (k:Nat) (qq:Out→St→Option Ans) (Q:V→Hp→Nat→Prop) (u:Dum (fun s q=>evC ctx (Lv ctx (i+8)) (Aa (Lv ctx (i+8))) k Kb s (As [1,4,5] q))) (w:Dum qq) (kk:Nat),s.slots.length<kk →
   (s.slots.all AF=true→Fin (qq (.exit 0) ⟨Ad [1,4] [.ip false (wU p s fs) 0,iV N.2],hSM N.1,7⟩) Q)→(∀ h n,s.slots.all AF=false→Fin (qq .ret ⟨Ad [2] [bV false],h,n⟩) Q) →
   GL 7 [1,4,5] (fun s q=>evC ctx (Lv ctx (i+8)) (Aa (Lv ctx (i+8))) k Kb s (As [1,4,5] q)) qq kk ⟨Ad [1,4,5] [.ip false (wU p s fs) 0,iV N.2,iV 0],hSM N.1,7⟩ Q u w:=by
  intro k qq Q u w kk hk hend hbad
  refine JK (S:=fun j=>⟨Ad [1,4,5] [.ip false (wU p s fs) 0,iV N.2,iV j],hSM N.1,7⟩) s.slots.length (fun j=>AF (s.slots.getD j ⟨0,0⟩)) rfl hk ?_ ?_ ?_
  ·intro j kk hj hgd hl
   have hxj:s.slots[j]?=some (s.slots.getD j ⟨0,0⟩):=by simp [List.getD_eq_getElem?_getD,hj]
   generalize s.slots.getD j ⟨0,0⟩=x at hxj hgd
   have qm:=Oh (i+5) x.level x.pick
   have ex:AF ⟨x.level,x.pick⟩=true:=hgd
   rw [ex] at qm
   simp only [Nat.add_assoc,Nat.reduceAdd] at qm
   have l1:((j:Int)<(s.slots.length:Int))=True:=by simpa using hj
   have l2:(0≤(j:Int))=True:=by simp
   have l3:=wrN j (by have:=hs.bsl;simp only [BB];omega)
   cases p
   all_goals
    simp +contextual -dsimp -implicitDefEqProofs (maxSteps:=5000000) only [l1,l2,l3,hxj,qm,↓Ai (Kb.eq_1),go_sem,simprocAttr]
    exact Cc hl (by rfl)
  ·intro j kk hj hgd _
   have hxj:s.slots[j]?=some (s.slots.getD j ⟨0,0⟩):=by simp [List.getD_eq_getElem?_getD,hj]
   generalize s.slots.getD j ⟨0,0⟩=x at hxj hgd
   have hf:s.slots.all AF=false:=KD _ hxj hgd
   have qm:=Oh (i+5) x.level x.pick
   have ex:AF ⟨x.level,x.pick⟩=false:=hgd
   rw [ex] at qm
   simp only [Nat.add_assoc,Nat.reduceAdd] at qm
   have l1:((j:Int)<(s.slots.length:Int))=True:=by simpa using hj
   have l2:(0≤(j:Int))=True:=by simp
   cases p
   all_goals
    simp +contextual -dsimp -implicitDefEqProofs (maxSteps:=5000000) only [l1,l2,hxj,qm,↓Ai (Kb.eq_1),go_sem,simprocAttr]
    exact hbad _ _ hf
  ·intro kk hall
   have l0:decide ((s.slots.length:Int)<(s.slots.length:Int))=false:=by simp
   cases p
   all_goals
    simp +contextual -dsimp -implicitDefEqProofs (maxSteps:=5000000) only [l0,↓Ai (Kb.eq_1),go_sem,simprocAttr]
    exact hend (KC _ ⟨0,0⟩ _ hall)
 refine Af rfl (s.slots.length+1) (by rfl) ?_
 delta c18
 cases p
 all_goals
  simp +contextual -dsimp -implicitDefEqProofs (maxSteps:=5000000) only [q,go_sem,simprocAttr]
  refine key _ _ _ _ _ _ (by omega) (fun h=>?_) (fun _ _ h=>?_)
  ·rw [h]
   cases h1:decide (N.2=0)
   ·simp +contextual -dsimp -implicitDefEqProofs (maxSteps:=5000000) only [h1,go_sem,simprocAttr]
   ·simp +contextual -dsimp -implicitDefEqProofs (maxSteps:=5000000) only [h1,hL,go_sem,simprocAttr]
  ·rw [h];simp +contextual -dsimp -implicitDefEqProofs (maxSteps:=5000000) only [go_sem,simprocAttr]
end Ve
