/- Scripts of which words, programs, slots are others: may they be, what is the same below. -/
import Derived.Test.YtjgbbmcjbfpjfaaGreatVeP
set_option linter.all false
set_option linter.unusedSectionVars false
namespace Ve
open Go
theorem Qs {s:Aq} (h:Au s=true) {W:A4 (List Int)} (hv:BV W=true) (h0:W.a0.length=s.words.a0.length) (h1:W.a1.length=s.words.a1.length) (h2:W.a2.length=s.words.a2.length) (h3:W.a3.length=s.words.a3.length)
  {l:List AR} (hl:l.length≤256) (ha:l.all AP=true):Au ⟨W,s.ceil,s.starts,l⟩=true:=by
 simp only [Au,Bool.and_eq_true,decide_eq_true_eq] at h
 have hn:s.starts.all Cf=true∧CN (AW s)=true:=by
  have:=h.1.1
  unfold DG at this
  split at this
  ·rename_i hc;simp only [Bool.and_eq_true] at hc;exact ⟨hc.1.2,hc.2⟩
  ·exact absurd this (by decide)
 obtain ⟨hst,hm⟩:=hn
 have hM:=(Nv _).1 hm
 have hm':CN (AW ⟨W,s.ceil,s.starts,l⟩)=true:=by
  rw [Nv]
  have hv2:=hv
  simp only [BV,A4.all,Bool.and_eq_true] at hv2
  have hth:∀ l' i,Bb (AW ⟨W,s.ceil,s.starts,l⟩).words l' i=Bb (AW s).words l' i:=fun l' i=>Hg (by simp [AW,Cc,h0]) (by simp [AW,Cc,h1]) (by simp [AW,Cc,h2]) (by simp [AW,Cc,h3]) l' i
  refine ⟨?_,hM.ceil,hM.clocks,hM.sl,by simp [AW],hM.ids,?_,by simp [AW]⟩
  ·simp only [AT,A4.all,AW,Cc,Bool.and_eq_true]
   exact ⟨⟨⟨DZ hv2.1.1.1,DZ hv2.1.1.2⟩,DZ hv2.1.2⟩,DZ hv2.2⟩
  ·intro x hx
   rw [FW hth]
   exact hM.sess x hx
 simp only [Au,Bool.and_eq_true,decide_eq_true_eq]
 refine ⟨⟨?_,hl⟩,ha⟩
 unfold DG;rw [hv,hst,hm'];rfl
theorem TW {s:Aq} (h:Au s=true):BV s.words=true:=by
 simp only [Au,Bool.and_eq_true,decide_eq_true_eq] at h
 have:=h.1.1
 unfold DG at this
 split at this
 ·rename_i hc;simp only [Bool.and_eq_true] at hc;exact hc.1.1
 ·exact absurd this (by decide)
theorem Hf {s:Aq} (h:Au s=true):s.slots.length≤256∧s.slots.all AP=true:=by
 simp only [Au,Bool.and_eq_true,decide_eq_true_eq] at h
 exact ⟨h.1.2,h.2⟩
def putW (s:Aq) (h:Int) (j:Nat) (v:Int):Aq:=⟨s.words.set h ((s.words.get h).set j v),s.ceil,s.starts,s.slots⟩
def xM (k:Int) (picks:List Int) (j:Nat):List AR :=
 match picks[j]? with
 | some p=>if Aj (DS p 3) k=true then [] else [⟨DS p 3,DS (p.fdiv (2 ^ min (2:Int).toNat (IntKind.bits .i64))) 255⟩]
 | none=>[]
def mixA (k:Int) (small:Bool) (picks:List Int):Nat→List AR→List AR
 | _,[]=>[]
 | j,x::r=>if Aj x.level k=true then (if small=true then xM k picks j else [])++x::mixA k small picks (j+1) r else mixA k small picks (j+1) r
def mixH (k:Int) (picks:List Int):Nat→List AR→List AR
 | _,[]=>[]
 | j,x::r=>xM k picks j++((if Aj x.level k=true then [x] else [])++mixH k picks (j+1) r)
def aloneT (s:Aq) (k:Int) (picks:List Int):Aq:=⟨s.words,s.ceil,s.starts,mixA k (decide ((s.slots.length:Int)<100)) picks 0 s.slots⟩
end Ve
