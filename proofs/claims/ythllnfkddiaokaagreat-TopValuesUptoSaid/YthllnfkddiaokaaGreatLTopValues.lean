/- The statement TopValues. -/
import Derived.Test.YthllnfkddiaokaaGreatS63
import Derived.Test.YthllnfkddiaokaaGreatS64
import Derived.Test.YthllnfkddiaokaaGreatPL52
set_option linter.all false
set_option linter.unusedSectionVars false
namespace Ve
open Go Ve.Ab
set_option maxHeartbeats 16000000
set_option maxRecDepth 20000
theorem u_TopValues (i:Nat) (s:Ap) (hs:Cj s) (g lv ix vl:Int) (haw:Aa (Lv ctx (i+30)) 15 []=some (bV true)):Aa (Lv ctx (i+31)) 10 [eSc true s,iV g,iV lv,iV ix,iV vl]=some (bV true):=by
 obtain ⟨k,eg,hg⟩:∃ k:Int,Df g 3=k∧inR k 3=true:=⟨_,rfl,GY g 3 (by omega)⟩
 obtain ⟨h,eh,hh⟩:∃ h:Int,Df lv 3=h∧inR h 3=true:=⟨_,rfl,GY lv 3 (by omega)⟩
 obtain ⟨v,ev,hv⟩:∃ v:Int,Df vl 255=v∧inR v 255=true:=⟨_,rfl,GY vl 255 (by omega)⟩
 have q1:=KL (i+1) true s hs
 simp only [Nat.add_assoc,Nat.reduceAdd] at q1
 rcases OP (s:=s) with ⟨h0,hsm⟩ | ⟨h0,hsm⟩
 ·rw [h0] at q1
  cases hu:Ao h k
  ·have hwl:(s.words.get h).length≤4:=by
    have hv:=Pl hsm
    simp only [Bw,A4.all,Cq,Bool.and_eq_true,decide_eq_true_eq] at hv
    rcases Re hh with rfl | rfl | rfl | rfl
    ·exact hv.1.1.1.1
    ·exact hv.1.1.2.1
    ·exact hv.1.2.1
    ·exact hv.2.1
   by_cases hz:(s.words.get h).length=0
   ·have z0:decide (((s.words.get h).length:Int)=0)=true:=by rw [hz];rfl
    generalize (BN s).1=M at q1
    refine Af rfl 0 (by rfl) ?_
    delta c10
    rcases Re hh with rfl | rfl | rfl | rfl
    all_goals
     simp only [A4.get,simprocAttr] at z0
     simp +contextual -dsimp -implicitDefEqProofs (maxSteps:=5000000) only [haw,eg,eh,q1,hu,z0,go_sem,simprocAttr]
   ·obtain ⟨L,hL⟩:∃ L:Nat,(s.words.get h).length=L:=⟨_,rfl⟩
    have hrem:=Xc (WM ix) (b:=(L:Int)) (by omega)
    have e64:IntKind.wrap .u64 (L:Int)=(L:Int):=by
     have e1:(2 ^ IntKind.bits .u64:Int)=18446744073709551616:=by decide
     simp only [IntKind.wrap,IntKind.signed,Bool.false_and,Bool.false_eq_true,if_false,e1]
     omega
    have hr:∀ t a,BJ lay .rem t (.lit (.int .u64 a)) (.lit (.int .u64 (L:Int)))=some (.lit (.int .u64 (a.tmod (L:Int)))):=fun t a=>Oq (by omega)
    obtain ⟨j,hj⟩:∃ j:Nat,(uW ix).tmod (L:Int)=(j:Int):=⟨((uW ix).tmod (L:Int)).toNat,by omega⟩
    have hjl:j<L:=by omega
    obtain ⟨x0,hx0⟩:∃ x,(s.words.get h)[j]?=some x:=⟨_,List.getElem?_eq_getElem (by omega)⟩
    have hwk:IntKind.wrap .i64 (j:Int)=(j:Int):=Bp (by omega) (by omega)
    have hw:IntKind.wrap .u64 ix=uW ix:=rfl
    have l1:((j:Int)<(L:Int))=True:=by simpa using hjl
    have l2:(0≤(j:Int))=True:=by simp
    have z0:decide ((L:Int)=0)=false:=by apply decide_eq_false;omega
    have q0:=Lx (i+29) true s hs
    have q2:=KL (i+1) false (OW s h j v) (YB hs h j v)
    have q3:=fun p=>ID (i+9) p (BN s).1 (DU hs) k
    have q4:=fun p=>ID (i+9) p (BN (OW s h j v)).1 (DU (YB hs h j v)) k
    have hT:=jL hsm h j hv
    have hsv:=OJ hg hsm hT (cF hh hu j v)
    have q5:=fun p q=>Bq (i+(30 - 3)) p q (Dr (BN s).1 k) (Dr (BN s).1 k) (LA (DU hs) k)
    rw [IC hg hsm] at q3
    rw [IC hg hT,← hsv] at q4
    rw [(GK hT).1] at q2
    simp only [Nat.add_assoc,Nat.reduceAdd,Nat.reduceSub,decide_true] at q0 q2 q3 q4 q5
    generalize Dr (BN s).1 k=X at q3 q4 q5
    generalize (BN (OW s h j v)).1=M2 at q2 q4
    generalize (BN s).1=M at q1 q3
    clear hT hsv hsm
    refine Af rfl 0 (by rfl) ?_
    delta c10
    rcases Re hh with rfl | rfl | rfl | rfl
    all_goals
     simp only [A4.get,simprocAttr] at hL hx0
     simp only [eSc,cSc,eNs,vV,XT,OW,A4.get,A4.set,simprocAttr,List.map_set] at q2
     simp +contextual -dsimp -implicitDefEqProofs (maxSteps:=5000000) only [haw,eg,eh,ev,q0,q1,q2,q3,q4,q5,hu,hL,z0,e64,hr,hj,hwk,hw,l1,l2,hx0,List.length_map,go_sem,simprocAttr]
  ·generalize (BN s).1=M at q1
   refine Af rfl 0 (by rfl) ?_
   delta c10
   rcases Re hh with rfl | rfl | rfl | rfl
   all_goals simp +contextual -dsimp -implicitDefEqProofs (maxSteps:=5000000) only [haw,eg,eh,q1,hu,go_sem,simprocAttr]
 ·rw [h0] at q1
  have qz:=fun p q=>Bq (i+(30 - 3)) p q AA AA CQ
  simp only [AA,eM,cM,eWs,eSs,eEs,List.map_nil,decide_true,Nat.add_assoc,Nat.reduceAdd,Nat.reduceSub] at qz
  simp only [Bh] at q1
  refine Af rfl 0 (by rfl) ?_
  delta c10
  simp +contextual -dsimp -implicitDefEqProofs (maxSteps:=5000000) only [haw,eg,eh,q1,qz,go_sem,simprocAttr]
end Ve
