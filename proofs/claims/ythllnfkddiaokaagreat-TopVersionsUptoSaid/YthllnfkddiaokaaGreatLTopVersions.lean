/- The statement TopVersions. -/
import Derived.Test.YthllnfkddiaokaaGreatVeSF
import Derived.Test.YthllnfkddiaokaaGreatVeSD
import Derived.Test.YthllnfkddiaokaaGreatVeP
import Derived.Test.YthllnfkddiaokaaGreatPL28
set_option linter.all false
set_option linter.unusedSectionVars false
namespace Ve
open Go Ve.Ab
set_option maxHeartbeats 16000000
set_option maxRecDepth 20000
abbrev hTV (m:Ac):Hp:=pO Ag 0 (some ⟨11,[.agg (cM true m)],false⟩)
theorem l_TV (i k:Nat) (s:Ap) (hs:Cj s) (m:Ac) (hm:SmM m) (hI:Do m) (hF:Qq s m) (g:Int) (hg:g=0∨g=1∨g=2∨g=3) (q:Out→St→Option Ans) (Q:V→Hp→Nat→Prop)
  (u:Dum (fun s q=>evC ctx (Lv ctx (i+30)) (Aa (Lv ctx (i+30))) k fD s (As [1,3,5,6] q))) (w:Dum q) (kk:Nat) (hk:(m.words.get g).length<kk)
  (hend:Fin (q (.exit 2) ⟨Ad [1,3,5] [.ip true (cSc true s) 0,.ptr 0 0 0,iV g],hTV m,1⟩) Q) :
  GL 1 [1,3,5,6] (fun s q=>evC ctx (Lv ctx (i+30)) (Aa (Lv ctx (i+30))) k fD s (As [1,3,5,6] q)) q kk ⟨Ad [1,3,5,6] [.ip true (cSc true s) 0,.ptr 0 0 0,iV g,iV 0],hTV m,1⟩ Q u w:=by
 have hgi:inR g 3=true:=by rw [AE];omega
 have hlen:=hF.len g hgi
 have hbb:(m.words.get g).length≤BB:=by rw [hlen];obtain ⟨b0,b1,b2,b3,_,_,_⟩:=hs;rcases hg with rfl | rfl | rfl | rfl<;>simp only [A4.get,BB,simprocAttr]<;>omega
 refine Kx (S:=fun j=>⟨Ad [1,3,5,6] [.ip true (cSc true s) 0,.ptr 0 0 0,iV g,iV j],hTV m,1⟩) (m.words.get g).length rfl hk ?_ ?_
 ·intro j kk hj hl
  obtain ⟨x,hx⟩:∃ x,(m.words.get g)[j]?=some x:=⟨_,List.getElem?_eq_getElem hj⟩
  obtain ⟨v,hv⟩:∃ v,(s.words.get g)[j]?=some v:=⟨_,List.getElem?_eq_getElem (by omega)⟩
  have hver:=hI.ver g j x hgi hx
  have hval:=hF.val g j x hgi hx
  have l1:((j:Int)<((m.words.get g).length:Int))=True:=by simpa using hj
  have l1':((j:Int)<((s.words.get g).length:Int))=True:=by rw [← hlen];simpa using hj
  have l2:(0≤(j:Int))=True:=by simp
  have l3:=wrN j (by omega)
  have c0:decide (m.clocks.get g<x.ver)=false:=by simp;omega
  cases c1:decide (x.ver=0)
  ·rcases hg with rfl | rfl | rfl | rfl
   all_goals
    simp only [A4.get,simprocAttr] at hx hv l1 l1' c0 hl ⊢
    simp +contextual -dsimp -implicitDefEqProofs (maxSteps:=5000000) only [l1,l2,l3,hx,c0,c1,↓Ai (fD.eq_1),eW,go_sem,simprocAttr]
    exact Cc hl (by rfl)
  ·have hxv:x.val=v:=by
    have:=hval (of_decide_eq_true c1)
    rw [hv] at this
    exact (Option.some.inj this).symm
   have c2:decide (x.val=v)=true:=decide_eq_true hxv
   rcases hg with rfl | rfl | rfl | rfl
   all_goals
    simp only [A4.get,simprocAttr] at hx hv l1 l1' c0 hl ⊢
    simp +contextual -dsimp -implicitDefEqProofs (maxSteps:=5000000) only [l1,l1',l2,l3,hx,hv,c0,c1,c2,↓Ai (fD.eq_1),eW,go_sem,simprocAttr]
    exact Cc hl (by rfl)
 ·intro kk
  have l0:decide (((m.words.get g).length:Int)<((m.words.get g).length:Int))=false:=by simp
  rcases hg with rfl | rfl | rfl | rfl
  all_goals
   simp only [A4.get,simprocAttr] at l0 ⊢
   simp +contextual -dsimp -implicitDefEqProofs (maxSteps:=5000000) only [l0,↓Ai (fD.eq_1),go_sem,simprocAttr]
   exact hend
theorem u_TopVersions (i:Nat) (s:Ap) (hs:Cj s) (haw:Aa (Lv ctx (i+30)) 15 []=some (bV true)):Aa (Lv ctx (i+31)) 7 [eSc true s]=some (bV true):=by
 have q1:=KL (i+1) true s hs
 have qz:=fun p q=>Bq (i+(30 - 3)) p q AA AA CQ
 have q3:=fun p=>QG (i+11) p (BN s).1 (DU hs)
 simp only [Nat.add_assoc,Nat.reduceAdd,Nat.reduceSub,decide_true] at q1 qz q3
 rcases OP (s:=s) with ⟨h0,hsm⟩ | ⟨h0,hsm⟩
 ·obtain ⟨_,hM,_⟩:=GK hsm
  obtain ⟨hn,hI0,hr,_,_⟩:=Ga hsm
  have hsl:s.slots.all AF=true:=by simp only [Az,Bool.and_eq_true] at hsm;exact hsm.2
  have hmm:=((LS _).2 hI0.may)
  have hI2:Do (BN s).1:=by rw [hr];exact UM _ _ (Ip hmm) hsl
  have hF:Qq s (BN s).1:=by rw [hr];exact Rv _ _ (Ip hmm) hsl (eH s)
  have hce:(BN s).1.ceil=s.ceil:=by
   rw [hr]
   have:=(Sw s.slots (AC s) hI0 hsl).2.2.2.2
   rw [this];rfl
  have hsmM:=DU hs
  rw [h0] at q1
  rw [hM] at q3
  generalize (BN s).1=m at q1 q3 hI2 hF hce hsmM hM
  have hcl:=hI2.inv.may.clocks
  simp only [A4.all,Bool.and_eq_true,AE] at hcl
  obtain ⟨⟨⟨k0,k1⟩,k2⟩,k3⟩:=hcl
  have z0:decide (s.ceil<m.clocks.a0)=false:=by simp;omega
  have z1:decide (s.ceil<m.clocks.a1)=false:=by simp;omega
  have z2:decide (s.ceil<m.clocks.a2)=false:=by simp;omega
  have z3:decide (s.ceil<m.clocks.a3)=false:=by simp;omega
  have n0:decide ((m.words.a0.length:Int)=(s.words.a0.length:Int))=true:=by have e:m.words.a0.length=s.words.a0.length:=hF.len 0 (by decide);simp [e]
  have n1:decide ((m.words.a1.length:Int)=(s.words.a1.length:Int))=true:=by have e:m.words.a1.length=s.words.a1.length:=hF.len 1 (by decide);simp [e]
  have n2:decide ((m.words.a2.length:Int)=(s.words.a2.length:Int))=true:=by have e:m.words.a2.length=s.words.a2.length:=hF.len 2 (by decide);simp [e]
  have n3:decide ((m.words.a3.length:Int)=(s.words.a3.length:Int))=true:=by have e:m.words.a3.length=s.words.a3.length:=hF.len 3 (by decide);simp [e]
  have key:=fun k g hg q Q u w kk hk=>l_TV i k s hs m hsmM hI2 hF g hg q Q u w kk hk
  refine Af rfl (m.words.a0.length+m.words.a1.length+m.words.a2.length+m.words.a3.length+6) (by rfl) ?_
  delta c7
  simp +contextual -dsimp -implicitDefEqProofs (maxSteps:=5000000) only [haw,q1,gLs 1 [1,3,5],↓Ai (fC.eq_1),z0,n0,go_sem,simprocAttr]
  refine key _ 0 (by simp) _ _ _ _ _ (by simp only [A4.get,simprocAttr];omega) ?_
  simp +contextual -dsimp -implicitDefEqProofs (maxSteps:=5000000) only [gLs 1 [1,3,5],↓Ai (fC.eq_1),z1,n1,go_sem,simprocAttr]
  refine key _ 1 (by simp) _ _ _ _ _ (by simp only [A4.get,simprocAttr];omega) ?_
  simp +contextual -dsimp -implicitDefEqProofs (maxSteps:=5000000) only [gLs 1 [1,3,5],↓Ai (fC.eq_1),z2,n2,go_sem,simprocAttr]
  refine key _ 2 (by simp) _ _ _ _ _ (by simp only [A4.get,simprocAttr];omega) ?_
  simp +contextual -dsimp -implicitDefEqProofs (maxSteps:=5000000) only [gLs 1 [1,3,5],↓Ai (fC.eq_1),z3,n3,go_sem,simprocAttr]
  refine key _ 3 (by simp) _ _ _ _ _ (by simp only [A4.get,simprocAttr];omega) ?_
  simp +contextual -dsimp -implicitDefEqProofs (maxSteps:=5000000) only [gLs 1 [1,3,5],↓Ai (fC.eq_1),q3,go_sem,simprocAttr]
 ·rw [h0] at q1
  simp only [AA,eM,cM,eWs,eSs,eEs,List.map_nil] at qz
  simp only [Bh] at q1
  refine Af rfl 0 (by rfl) ?_
  delta c7
  simp +contextual -dsimp -implicitDefEqProofs (maxSteps:=5000000) only [haw,q1,qz,go_sem,simprocAttr]
end Ve
