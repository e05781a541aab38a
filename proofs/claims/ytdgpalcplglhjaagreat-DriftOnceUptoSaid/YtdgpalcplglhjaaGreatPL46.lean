/- The machines of SessionForms, SlotForms. -/
import Derived.Test.YtdgpalcplglhjaaGreatVeP
import Derived.Test.YtdgpalcplglhjaaGreatPLb
set_option linter.all false
set_option linter.unusedSectionVars false
namespace Ve
open Go
def S5x:Af:=⟨5,1,1,[⟨2,0,0,1⟩,⟨3,0,1,0⟩],0,0,⟨0,0,0,0⟩,[],[],0,0,0,0,0⟩
theorem tJ:Inv MB:=Qj (s:=⟨⟨[5,6],[7],[],[9]⟩,9,[⟨3,0,3,[⟨2,0,0,0⟩,⟨1,0,0,0⟩,⟨3,0,0,0⟩]⟩,⟨5,1,1,[⟨2,0,0,1⟩,⟨3,0,1,0⟩]⟩],[]⟩) (by decide +kernel)
theorem tG {m:Ad} {s0 s1:Af} (hI:Inv m) (h:m.sess=[s0,s1]):∀ n,∃ t,(itU 0 n m).sess=[t,s1]∧Inv (itU 0 n m)
 | 0=>⟨s0,h,hI⟩
 | n+1=>by
  obtain ⟨t,ht,hi⟩:=tG hI h n
  have hs:(itU 0 n m).sess[0]?=some t:=by rw [ht];rfl
  obtain ⟨A,_,a2,a3,t',a4⟩:=Hy hs hi
  have e:itU 0 (n+1) m=A:=by simp only [itU,hs,a2,Option.getD_some]
  rw [e]
  exact ⟨t',by rw [a4.sess,ht];rfl,a3⟩
theorem here_two {m:Ad} {s0 s1:Af} {a:Int} (h:m.sess=[s0,s1]) (hb:AY m.words s1=false):Bq m a=false:=by
 have:m.sess.all (AY m.words)=false:=by rw [h];simp [hb]
 simp only [Bq,Ei,this,Bool.and_false,Bool.false_and]
theorem here_one {m:Ad} {s0 s1:Af} {a:Int} (h:m.sess=[s0,s1]) (hb:AY m.words s0=false):Bq m a=false:=by
 have:m.sess.all (AY m.words)=false:=by rw [h];simp [hb]
 simp only [Bq,Ei,this,Bool.and_false,Bool.false_and]
theorem clear_no (ws:A4 (List Al)):AY ws { S5x with clear:=0 }=false:=by
 have:Cm S5x.id S5x.label 0 S5x.prog=false:=by decide
 unfold AY
 rw [this];rfl
theorem words_no (w0 w2 w3:List Al):AY ⟨w0,[],w2,w3⟩ S5x=false:=by
 have:Cr ⟨w0,[],w2,w3⟩ S5x.prog=false:=by
  simp [Cr,S5x,Gx,AW,A4.get]
 unfold AY
 rw [this];simp
structure Run8 (M:Nat→Ad):Prop where
 z:M 0=MB
 st:∀ j,BL (M j) 0=(M (j+1),0)
 sm:∀ j,SmM (M j)
 len:∀ j,(M j).sess.length=2
 two:∀ j,BL (M j) 2=(AN,2300)
 last:M 9=M 8
 res:∃ s,(M 8).sess[0]?=some s∧s.result=1
 eq:∀ j,M j=itU 0 j MB
theorem run8:Run8 (fun j=>itM 0 j MB):=by
 have h:=tH (k:=0) tJ (by decide)
 have e8:itM 0 8 MB=itU 0 8 MB:=(h 8).2.2.1
 have e9:itM 0 9 MB=itU 0 9 MB:=(h 9).2.2.1
 refine ⟨rfl,fun j=>Prod.ext rfl (h j).2.2.2,fun j=>DW (h j).1.may,fun j=>(h j).2.1,fun j=>?_,?_,?_,fun j=>(h j).2.2.1⟩
 ·have:Bq (itM 0 j MB) 2=false:=mC (.inr (by rw [(h j).2.1];decide))
  unfold BL;rw [this];rfl
 ·rw [e8,e9];decide +kernel
 ·rw [e8]
  have:((itU 0 8 MB).sess[0]?.map (·.result))=some 1:=by decide +kernel
  cases hq:(itU 0 8 MB).sess[0]? with
  | none=>rw [hq] at this;cases this
  | some s=>rw [hq] at this;exact ⟨s,rfl,by simpa using this⟩
end Ve
