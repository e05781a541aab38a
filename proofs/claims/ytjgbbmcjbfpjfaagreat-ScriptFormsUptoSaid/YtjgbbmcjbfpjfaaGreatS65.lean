/- May a script be, by the reference. -/
import Derived.Test.YtjgbbmcjbfpjfaaGreatS39
import Derived.Test.YtjgbbmcjbfpjfaaGreatVeSC
import Derived.Test.YtjgbbmcjbfpjfaaGreatVeP
import Derived.Test.YtjgbbmcjbfpjfaaGreatVeSA
set_option linter.all false
set_option linter.unusedSectionVars false
namespace Ve
open Go Ve.Ab
set_option maxHeartbeats 16000000
set_option maxRecDepth 10000
theorem Zg (i:Nat) (a b:Int):Aa (Lv ctx (i+3)) 60 [.agg [iV a,iV b]]=some (bV (AP ⟨a,b⟩)):=by
 have e:AP ⟨a,b⟩=(inR a 3&&(decide (0≤b)&&decide (b≤255))):=rfl
 rw [e]
 cases h:inR a 3<;>cases h2:decide (0≤b)
 all_goals
  refine Ac rfl 0 (by rfl) ?_
  delta c60
  simp +contextual -dsimp -implicitDefEqProofs (maxSteps:=5000000) only [h,h2,go_sem,simprocAttr]
abbrev hSM (N:Ad):Hp:=pO (pO (pO (pO (pO (pO (pO Af 0 (some ⟨3,N.words.a0.map eW,false⟩)) 1 (some ⟨3,N.words.a1.map eW,false⟩)) 2 (some ⟨3,N.words.a2.map eW,false⟩)) 3 (some ⟨3,N.words.a3.map eW,false⟩)) 4 (some ⟨17,N.sess.map oS,false⟩)) 5 (some ⟨4,N.trace.map eE,false⟩)) 6 (some ⟨11,[.agg [.sl 0,.sl 1,.sl 2,.sl 3,iV N.clocks.a0,iV N.clocks.a1,iV N.clocks.a2,iV N.clocks.a3,iV N.ceil,.sl 4,.sl 5]],true⟩)
theorem RV (i:Nat) (p:Bool) (s:Aq) (hs:CK s):Aa (Lv ctx (i+9)) 22 [eSc p s]=some (bV (Au s)):=by
 have q:=iB (i+0) p s hs
 have e:Au s=(decide ((DG s).2=0)&&decide (s.slots.length≤256)&&s.slots.all AP):=rfl
 have hL:decide ((s.slots.length:Int)≤256)=decide (s.slots.length≤256):=by apply decide_eq_decide.mpr;omega
 simp only [Nat.add_assoc,Nat.reduceAdd] at q
 rw [e]
 generalize DG s=N at q ⊢
 have key:∀ (k:Nat) (qq:Out→St→Option Ans) (Q:V→Hp→Nat→Prop) (u:Dum (fun s q=>evC ctx (Lv ctx (i+8)) (Aa (Lv ctx (i+8))) k Rp s (Al [1,4,5] q))) (w:Dum qq) (kk:Nat),s.slots.length<kk →
   (s.slots.all AP=true→Fin (qq (.exit 0) ⟨Ae [1,4] [.ip p (cSc p s) 0,iV N.2],hSM N.1,7⟩) Q)→(∀ h n,s.slots.all AP=false→Fin (qq .ret ⟨Ae [2] [bV false],h,n⟩) Q) →
   GL 7 [1,4,5] (fun s q=>evC ctx (Lv ctx (i+8)) (Aa (Lv ctx (i+8))) k Rp s (Al [1,4,5] q)) qq kk ⟨Ae [1,4,5] [.ip p (cSc p s) 0,iV N.2,iV 0],hSM N.1,7⟩ Q u w:=by
  intro k qq Q u w kk hk hend hbad
  refine Iz (S:=fun j=>⟨Ae [1,4,5] [.ip p (cSc p s) 0,iV N.2,iV j],hSM N.1,7⟩) s.slots.length (fun j=>AP (s.slots.getD j ⟨0,0⟩)) rfl hk ?_ ?_ ?_
  ·intro j kk hj hgd hl
   have hxj:s.slots[j]?=some (s.slots.getD j ⟨0,0⟩):=by simp [List.getD_eq_getElem?_getD,hj]
   generalize s.slots.getD j ⟨0,0⟩=x at hxj hgd
   have qm:=Zg (i+5) x.level x.pick
   have ex:AP ⟨x.level,x.pick⟩=true:=hgd
   rw [ex] at qm
   simp only [Nat.add_assoc,Nat.reduceAdd] at qm
   have l1:((j:Int)<(s.slots.length:Int))=True:=by simpa using hj
   have l2:(0≤(j:Int))=True:=by simp
   have l3:=wrN j (by have:=hs.bsl;simp only [BB];omega)
   cases p
   all_goals
    simp +contextual -dsimp -implicitDefEqProofs (maxSteps:=5000000) only [l1,l2,l3,hxj,qm,↓Ah (Rp.eq_1),go_sem,simprocAttr]
    exact DW hl (by rfl)
  ·intro j kk hj hgd _
   have hxj:s.slots[j]?=some (s.slots.getD j ⟨0,0⟩):=by simp [List.getD_eq_getElem?_getD,hj]
   generalize s.slots.getD j ⟨0,0⟩=x at hxj hgd
   have hf:s.slots.all AP=false:=Im _ hxj hgd
   have qm:=Zg (i+5) x.level x.pick
   have ex:AP ⟨x.level,x.pick⟩=false:=hgd
   rw [ex] at qm
   simp only [Nat.add_assoc,Nat.reduceAdd] at qm
   have l1:((j:Int)<(s.slots.length:Int))=True:=by simpa using hj
   have l2:(0≤(j:Int))=True:=by simp
   cases p
   all_goals
    simp +contextual -dsimp -implicitDefEqProofs (maxSteps:=5000000) only [l1,l2,hxj,qm,↓Ah (Rp.eq_1),go_sem,simprocAttr]
    exact hbad _ _ hf
  ·intro kk hall
   have l0:decide ((s.slots.length:Int)<(s.slots.length:Int))=false:=by simp
   cases p
   all_goals
    simp +contextual -dsimp -implicitDefEqProofs (maxSteps:=5000000) only [l0,↓Ah (Rp.eq_1),go_sem,simprocAttr]
    exact hend (Il _ ⟨0,0⟩ _ hall)
 refine Ac rfl (s.slots.length+1) (by rfl) ?_
 delta c22
 cases p
 all_goals
  simp +contextual -dsimp -implicitDefEqProofs (maxSteps:=5000000) only [q,go_sem,simprocAttr]
  refine key _ _ _ _ _ _ (by omega) (fun h=>?_) (fun _ _ h=>?_)
  ·rw [h]
   cases h1:decide (N.2=0)
   ·simp +contextual -dsimp -implicitDefEqProofs (maxSteps:=5000000) only [h1,go_sem,simprocAttr]
   ·simp +contextual -dsimp -implicitDefEqProofs (maxSteps:=5000000) only [h1,hL,go_sem,simprocAttr]
  ·rw [h];simp +contextual -dsimp -implicitDefEqProofs (maxSteps:=5000000) only [go_sem,simprocAttr]
end Ve
