/- Runs cut, and gone on. -/
import Derived.Test.YtjgbbmcjbfpjfaaGreatPL54
set_option linter.all false
set_option linter.unusedSectionVars false
namespace Ve
open Go
theorem KF (x:AR):∀ (l:List AR) (m:Ad),(Bh m l).2=0→Bh m (l++[x])=if (Bl (Bh m l).1 x).2=0 then ((Bl (Bh m l).1 x).1,0) else (Az,2500)
 | [],m,_=>rfl
 | a::r,m,h=>by
  simp only [Bh,List.cons_append] at h ⊢
  by_cases h0:(Bl m a).2=0
  ·rw [if_pos h0] at h
   simp only [if_pos h0]
   exact KF x r _ h
  ·rw [if_neg h0] at h
   exact absurd h (by decide)
def JD (s:Aq) (k:Nat):Aq:=⟨s.words,s.ceil,s.starts,s.slots.take k⟩
theorem SH {s:Aq} (h:Au s=true) (k:Nat):Au (JD s k)=true:=by
 obtain ⟨l1,l2⟩:=Hf h
 refine Qs h (TW h) rfl rfl rfl rfl ?_ ?_
 ·rw [List.length_take];omega
 ·rw [List.all_eq_true] at l2 ⊢
  exact fun x hx=>l2 x (List.mem_of_mem_take hx)
theorem fT {s:Aq} (hs:CK s) (k:Nat):CK (JD s k):=by
 obtain ⟨b0,b1,b2,b3,bst,bsl,p⟩:=hs
 exact ⟨b0,b1,b2,b3,bst,by show (s.slots.take k).length≤_;rw [List.length_take];omega,p⟩
theorem vH (s:Aq):JD s s.slots.length=s:=by
 unfold JD;rw [List.take_length]
theorem nS {s:Aq} (h:Au s=true) {j:Nat} {x:AR} (hx:s.slots[j]?=some x):Bl (Bq (JD s j)).1 x=((Bq (JD s (j+1))).1,0):=by
 have h1:=SH h j
 have h2:=SH h (j+1)
 have e1:Bq (JD s j)=Bh (DG s).1 (s.slots.take j):=by unfold Bq;rw [if_pos h1];rfl
 have e2:Bq (JD s (j+1))=Bh (DG s).1 (s.slots.take j++[x]):=by
  unfold Bq;rw [if_pos h2]
  show Bh (DG s).1 (s.slots.take (j+1))=_
  rw [List.take_add_one,hx];rfl
 have r1:=(Iq h1).1
 have r2:=(Iq h2).1
 rw [e1] at r1
 rw [e2,KF x _ _ r1] at r2
 rw [e1,e2,KF x _ _ r1]
 by_cases h0:(Bl (Bh (DG s).1 (s.slots.take j)).1 x).2=0
 ·rw [if_pos h0]
  exact Prod.ext rfl h0
 ·rw [if_neg h0] at r2
  exact absurd r2 (by decide)
end Ve
