/- Scripts made longer by slots of other labels. -/
import Derived.Test.YtjgbbmcjbfpjfaaGreatPL52
set_option linter.all false
set_option linter.unusedSectionVars false
namespace Ve
open Go
def Hh (p:Int):AR:=⟨DS p 3,DS (p.fdiv (2 ^ min (2:Int).toNat (IntKind.bits .i64))) 255⟩
def Ew (g:Int):List Int→List AR→List AR
 | [],l=>l
 | p::r,l=>if l.length<256 then (if decide (orI (DS p 3) g=g)=true then Ew g r l else Ew g r (l++[Hh p])) else l
def OJ (s:Aq) (g:Int) (picks:List Int):Aq:=⟨s.words,s.ceil,s.starts,Ew g picks s.slots⟩
theorem Jr (g:Int):∀ (r:List Int) (l:List AR),l.length≤256→l.all AP=true→(Ew g r l).length≤256∧(Ew g r l).all AP=true∧(Ew g r l).filter (fun x=>Aj x.level g)=l.filter fun x=>Aj x.level g
 | [],l,h1,h2=>⟨h1,h2,rfl⟩
 | p::r,l,h1,h2=>by
  unfold Ew
  split
  ·rename_i hl
   split
   ·exact Jr g r l h1 h2
   ·rename_i hu
    have hm:AP (Hh p)=true:=by
     unfold AP Hh
     simp only [Bool.and_eq_true]
     exact ⟨GO p 3 (by omega),GO _ 255 (by omega)⟩
    have ih:=Jr g r (l++[Hh p]) (by simp;omega) (by rw [List.all_append];simp [h2,hm])
    refine ⟨ih.1,ih.2.1,?_⟩
    rw [ih.2.2,List.filter_append]
    have:Aj (Hh p).level g=false:=by unfold Aj Hh;simpa using hu
    simp [this]
  ·exact ⟨h1,h2,rfl⟩
theorem kP {s:Aq} (h:Au s=true) (g:Int) (picks:List Int):Au (OJ s g picks)=true:=by
 obtain ⟨l1,l2⟩:=Hf h
 obtain ⟨h1,h2,_⟩:=Jr g picks s.slots l1 l2
 exact Qs h (TW h) rfl rfl rfl rfl h1 h2
theorem dD {s:Aq} (h:Au s=true) (g:Int) (picks:List Int):aF g s (OJ s g picks):=by
 obtain ⟨l1,l2⟩:=Hf h
 obtain ⟨_,_,h3⟩:=Jr g picks s.slots l1 l2
 exact ⟨rfl,fun _ _ _=>rfl,rfl,h3.symm⟩
theorem qC {s:Aq} (hs:CK s) (h:Au s=true) (g:Int) (picks:List Int):CK (OJ s g picks):=by
 obtain ⟨l1,l2⟩:=Hf h
 obtain ⟨h1,_,_⟩:=Jr g picks s.slots l1 l2
 obtain ⟨b0,b1,b2,b3,bst,bsl,p⟩:=hs
 exact ⟨b0,b1,b2,b3,bst,by show (Ew g picks s.slots).length≤_;omega,p⟩
theorem LZ {s:Aq} {g:Int} (hg:inR g 3=true) (h:Au s=true):Cr s g=(Bc s g,0):=by
 unfold Cr;rw [h,hg];rfl
end Ve
