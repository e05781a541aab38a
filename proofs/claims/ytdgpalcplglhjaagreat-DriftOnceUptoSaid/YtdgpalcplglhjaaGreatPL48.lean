/- The machines of SessionEnds, SessionAborts, SessionReads. -/
import Derived.Test.YtdgpalcplglhjaaGreatPL46
import Derived.Test.YtdgpalcplglhjaaGreatVeP
import Derived.KernelRfl
set_option linter.all false
set_option linter.unusedSectionVars false
namespace Ve
open Go
structure RunN (k:Nat) (m0:Ad) (M:Nat→Ad):Prop where
 z:M 0=m0
 st:∀ j,BL (M j) k=(M (j+1),0)
 sm:∀ j,SmM (M j)
 len:∀ j,(M j).sess.length=m0.sess.length
 eq:∀ j,M j=itU k j m0
abbrev S3p (p:List Av):Af:=⟨3,0,3,p,0,0,⟨0,0,0,0⟩,[],[],0,0,0,0,0⟩
abbrev S5p (a:Int) (c:Int) (p:List Av):Af:=⟨5,a,c,p,0,0,⟨0,0,0,0⟩,[],[],0,0,0,0,0⟩
def a0s (a b c v:Int):Ad:=⟨⟨[⟨5,0,0⟩,⟨6,0,0⟩],[⟨7,0,0⟩],[⟨1,0,0⟩],[⟨9,0,0⟩]⟩,⟨0,0,0,0⟩,9,[S3p [⟨2,0,0,0⟩,⟨1,0,0,0⟩,⟨3,0,0,0⟩],S5p a 3 [⟨2,0,b,0⟩,⟨0,1,v,0⟩,⟨3,1,c,0⟩]],[]⟩
def MachA (v t:Int):Ad:=⟨⟨[⟨5,0,0⟩,⟨6,0,0⟩],[⟨7,0,0⟩],[],[⟨9,0,0⟩]⟩,⟨0,0,0,0⟩,9,[S3p [⟨0,0,v,0⟩,⟨3,0,0,0⟩,⟨6,t,0,0⟩],S5p 1 1 [⟨2,0,0,1⟩,⟨3,0,1,0⟩]],[]⟩
def MachR (p:List Av):Ad:=⟨⟨[⟨5,0,0⟩,⟨6,0,0⟩],[⟨7,0,0⟩],[],[⟨9,0,0⟩]⟩,⟨0,0,0,0⟩,9,[S3p p,S5p 1 1 [⟨2,0,0,1⟩,⟨3,0,1,0⟩]],[]⟩
theorem kZ {ws:A4 (List Al)} {s0 s1:Af} (ha:AP ws=true) (hid:s0.id<s1.id) (h0:AY ws s0=true) (h1:AY ws s1=true):Ei ⟨ws,⟨0,0,0,0⟩,9,[s0,s1],[]⟩=true:=by
 refine (UJ _).2 ⟨ha,rfl,rfl,by simp,by simp,?_,?_,by simp⟩
 ·simp only [List.map_cons,List.map_nil,UR,Bool.and_true]
  simpa using hid
 ·intro s hs
  simp only [List.mem_cons,List.mem_nil_iff,or_false] at hs
  rcases hs with rfl | rfl
  ·exact h0
  ·exact h1
theorem RZ {ws:A4 (List Al)} {id lab cl:Int} {p:List Av} (hs:Cm id lab cl p=true) (hp:Cr ws p=true):AY ws ⟨id,lab,cl,p,0,0,⟨0,0,0,0⟩,[],[],0,0,0,0,0⟩=true:=by
 unfold AY
 have h0:inR 0 (p.length:Int)=true:=by rw [AR];omega
 simp only [hs,hp,h0,AD,Cc,List.all_nil,Bool.and_true,Bool.true_and]
 decide
def rvE (b:Int):Int:=if b=0 then 5 else if b=1 then 7 else if b=2 then 1 else 9
def pK (a b c v r:Int):Af:=⟨5,orI a b,3,[⟨2,0,b,0⟩,⟨0,1,v,0⟩,⟨3,1,c,0⟩],6,3,⟨rvE b,v,0,0⟩,[],[],0,0,0,r,0⟩
def EndsP (a b c v:Int) (m:Ad):Prop :=
 (c≠orI a b∧m.sess[1]?=some (pK a b c v 3)∧m.words=(a0s a b c v).words∧m.clocks=⟨0,0,0,0⟩)∨(c=orI a b∧m.sess[1]?=some (pK a b c v 1)∧(m.words.get c)[0]?=some ⟨v,1,0⟩∧m.clocks.get c=1)
def progR (k:Nat):List Av:=[⟨2,0,0,0⟩,⟨2,1,1,0⟩,⟨2,2,3,0⟩,⟨2,3,0,0⟩].take (k+1)
end Ve
