/- What every program answers that is one: veiltop. -/
import Derived.Test.YtdgpalcplglhjaaGreatS62
import Derived.Test.YtdgpalcplglhjaaGreatVeSC
import Derived.Test.YtdgpalcplglhjaaGreatVeXA
import Derived.Test.YtdgpalcplglhjaaGreatVeN
set_option linter.all false
set_option linter.unusedSectionVars false
namespace Ve
open Go Ve.Ab
set_option maxHeartbeats 16000000
set_option maxRecDepth 10000
def CO:AQ:=⟨⟨[5],[7],[],[9]⟩,9,[⟨3,0,3,[⟨2,0,0,0⟩,⟨1,0,0,0⟩,⟨3,0,0,0⟩]⟩,⟨5,1,1,[⟨2,0,0,0⟩,⟨3,0,1,0⟩]⟩],[⟨0,0⟩,⟨1,0⟩,⟨0,0⟩,⟨0,0⟩,⟨3,0⟩,⟨0,0⟩,⟨0,0⟩,⟨0,0⟩,⟨0,0⟩,⟨0,0⟩]⟩
theorem Mu:JW CO:=⟨by decide,by decide,by decide,by decide,by decide,by decide,by decide⟩
theorem tT:(Ho CO).2=0∧(Ho CO).1.words.a0=[⟨10,1,0⟩]:=⟨by decide +kernel,by decide +kernel⟩
theorem tU:(Ea CO).2=0:=by decide +kernel
theorem mE:(BM (Ea CO).1 ⟨0,0⟩).2=0∧(BM (Ea CO).1 ⟨0,0⟩).1.sess.length=2∧((BM (Ea CO).1 ⟨0,0⟩).1.sess[0]?).map (·.pc)=some 1∧BL (Ea CO).1 0=BM (Ea CO).1 ⟨0,0⟩:=⟨by decide +kernel,by decide +kernel,by decide +kernel,by decide +kernel⟩
theorem tR:Fj (Ea CO).1 ⟨1,0⟩=(1,true,0):=by decide +kernel
theorem Ul (i:Nat):Aa (Lv ctx (i+2)) 36 [iV 1,iV 3]=some (.tup [bV true,iV 0]):=by
 have h1:inR 1 3=true:=by decide
 have h3:inR 3 3=true:=by decide
 have hu:AG 1 3=true:=by decide
 refine Ac rfl 0 (by rfl) ?_
 delta c36
 simp +contextual -dsimp -implicitDefEqProofs (maxSteps:=5000000) only [h1,h3,hu,go_sem,simprocAttr]
theorem ZU (i:Nat):Aa (Lv ctx (i+1)) 35 []=some (oSc CO):=by
 refine Ac rfl 0 (by rfl) ?_
 delta c35
 simp +contextual -dsimp -implicitDefEqProofs (maxSteps:=5000000) only [List.replicate,List.replicate_succ,List.flatten_cons,List.flatten_nil,List.cons_append,List.nil_append,go_sem,simprocAttr]
 first | rfl | done
theorem awT (i:Nat):Aa (Lv ctx (i+30)) 11 []=some (bV true):=by
 have q0:=ZU (i+(29 - 1))
 have q1:=ZM (i+0) true CO Mu
 have q2:=Ul (i+27)
 have q3:=Uj (i+9) true CO Mu
 have hmN:=ZH Mu
 have q4:=Ue (i+1) true (Ea CO).1 hmN 0 0
 have q5:=Mz (i+2) true (Ea CO).1 hmN 0
 have q6:=oV (i+9) true (Ea CO).1 hmN 1 0
 obtain ⟨r0,r1⟩:=tT
 obtain ⟨w0,w1,w2,w3⟩:=mE
 have q7:=fun p q=>Hi (i+(29 - 3)) p q (BM (Ea CO).1 ⟨0,0⟩).1 (BM (Ea CO).1 ⟨0,0⟩).1 (LT hmN _)
 rw [w3] at q5
 rw [r0] at q1
 rw [tU] at q3
 rw [w0] at q4 q5
 rw [tR] at q6
 simp only [Nat.add_assoc,Nat.reduceAdd,Nat.reduceSub,decide_true] at q0 q1 q2 q3 q4 q5 q6 q7
 generalize (BM (Ea CO).1 ⟨0,0⟩).1=B at q4 q5 q7 w1 w2
 generalize (Ea CO).1=N at q3 q4 q5 q6
 generalize (Ho CO).1=M at q1 r1
 obtain ⟨s0,hs0,hpc⟩:∃ s0,B.sess[0]?=some s0∧s0.pc=1:=by
  cases h:B.sess[0]? with
  | none=>rw [h] at w2;cases w2
  | some s0=>rw [h] at w2;exact ⟨s0,rfl,by simpa using w2⟩
 obtain ⟨⟨w0',w1',w2',w3'⟩,ck,ce,ss,tr⟩:=M
 simp only at r1
 subst r1
 have hl:(B.sess.length:Int)=2:=by rw [w1];rfl
 have l0:((0:Int)<(B.sess.length:Int))=True:=by rw [hl];simp
 have z1:decide (s0.pc=1)=true:=by simpa using hpc
 have z2:decide ((B.sess.length:Int)=2)=true:=by simpa using hl
 refine Ac rfl 0 (by rfl) ?_
 delta c11
 simp +contextual -dsimp -implicitDefEqProofs (maxSteps:=5000000) only [q0,q1,q2,q3,q4,q5,q6,q7,l0,z1,z2,hs0,eS,go_sem,simprocAttr]
end Ve
