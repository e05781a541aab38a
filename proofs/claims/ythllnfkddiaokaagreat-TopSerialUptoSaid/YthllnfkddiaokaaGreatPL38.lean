/- TopSerial, on the models, V: slots, new machines; a program run at once. -/
import Derived.Test.YthllnfkddiaokaaGreatPL37
set_option linter.all false
set_option linter.unusedSectionVars false
namespace Ve
open Go
def MS (m:Ac) (s:Ae):Bool:=decide (s.step=3)&&s.reads.all (CA m.words s.id)
theorem iE {m:Ac} (hI:Do m) {x:AO} (hx:AF x=true) {g:Int→Int→Int} (hR:Ser m g) :
  (AQ m x=(m,0)∧CU m x=(0,false,0))∨∃ (k:Nat) (s t:Ae),CU m x=((k:Int),true,0)∧m.sess[k]?=some s∧(AQ m x).1.sess=m.sess.set k t ∧
   Ser (AQ m x).1 (if MS m s=true then put s.writes g else g)∧(MS m s=true→Res g s.prog 0 ⟨0,0,0,0⟩ [] s.writes) ∧
   (MS m s=true↔(s.step=3∧(t.step=4∨(t.step=6∧t.result=1)))):=by
 rcases Hf hI.inv.may hx with h | ⟨k,s,h,hs,hl,hst⟩
 ·exact .inl ⟨GG h,h⟩
 ·right
  obtain ⟨E,hE,h2,h3,hm,ho,t,hL⟩:=FI hs hI
  have e1:(AQ m x).1=E.app m k s.label:=by unfold AQ;rw [h];simp only [if_true,h2]
  have hpass:(MS m s=true)=(s.step=3∧s.reads.all (CA m.words s.id)=true):=by simp [MS]
  refine ⟨k,s,E.t,h,hs,by rw [e1,Cn],?_,?_,?_⟩
  ·rw [e1]
   have:=iD hs hI hR hE
   simp only [hpass];exact this
  ·rw [hpass];exact fun h=>eX hs hI hR h.1 h.2
  ·rw [hpass]
   refine ⟨fun hp=>⟨hp.1,?_⟩,fun hp=>⟨hp.1,?_⟩⟩
   ·unfold EC at hE
    rw [if_neg (by omega),if_neg (by omega),if_neg (by omega),if_pos hp.1] at hE
    cases hE
    unfold Dh
    rw [if_pos hp.2]
    split
    ·exact .inr ⟨rfl,rfl⟩
    ·exact .inl rfl
   ·unfold EC at hE
    rw [if_neg (by omega),if_neg (by omega),if_neg (by omega),if_pos hp.1] at hE
    cases hE
    have h4:=hp.2
    unfold Dh at h4
    split at h4
    ·rename_i hg;exact hg
    ·exfalso;simp [FL,Co] at h4
def first (s:Ap):Int→Int→Int:=fun l i=>((s.words.get l)[i.toNat]?).getD 0
theorem ser_new {s:Ap} (h:De (AC s)=true):Ser (AC s) (first s):=by
 have hk:∀ a,(Bf s.words).get a=(s.words.get a).map Dl:=by
  intro a;unfold Bf A4.get;split
  ·rfl
  ·split
   ·rfl
   ·split<;>rfl
 have hall:∀ y∈(AC s).sess,∃ z,y=AX z:=by
  intro y hy
  simp only [AC,List.mem_map] at hy
  obtain ⟨z,_,rfl⟩:=hy;exact ⟨z,rfl⟩
 refine ⟨fun u w hu=>?_,fun l i hli _=>?_,fun u hu=>?_⟩
 ·obtain ⟨z,rfl⟩:=hall u hu.1
  have:=hu.2.1;simp [AX] at this
 ·obtain ⟨hl,n,rfl,hw⟩:=Bk hli
  have hw':((Bf s.words).get l)[n]?=some (AB (AC s).words l n):=hw
  rw [hk,List.getElem?_map] at hw'
  unfold first
  rw [Int.toNat_natCast]
  cases hq:(s.words.get l)[n]? with
  | none=>rw [hq] at hw';cases hw'
  | some v=>rw [hq,Option.map_some,Option.some.injEq] at hw';rw [← hw'];rfl
 ·obtain ⟨z,rfl⟩:=hall u hu
  exact fun _=>⟨fun _ _=>0,fun r hr=>by simp [AX] at hr,fun r hr=>by simp [AX] at hr,fun g out _ h=>h,fun h=>by simp [AX] at h⟩
theorem qQ {m:Ac} {g:Int→Int→Int} (hR:Ser m g) (hno:∀ u∈m.sess,u.step≠4) {l i:Int} (h:Ay m.words l i=true):g l i=(AB m.words l i).val :=
 hR.calm l i h fun u _ hu=>absurd hu.2.1 (hno u hu.1)
end Ve
