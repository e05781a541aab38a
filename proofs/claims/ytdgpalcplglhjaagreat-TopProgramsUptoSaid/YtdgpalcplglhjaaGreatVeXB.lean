/- Scripts of which words, programs, slots are others: may they be, what is the same below. -/
import Derived.Test.YtdgpalcplglhjaaGreatVeXA
import Derived.Test.YtdgpalcplglhjaaGreatVeP
set_option linter.all false
set_option linter.unusedSectionVars false
namespace Ve
open Go
def putW (s:AQ) (h:Int) (j:Nat) (v:Int):AQ:=⟨s.words.set h ((s.words.get h).set j v),s.ceil,s.starts,s.slots⟩
def pG (k:Int) (picks:List Int) (j:Nat):List BW :=
 match picks[j]? with
 | some p=>if AG (Ia p 3) k=true then [] else [⟨Ia p 3,Ia (p.fdiv (2 ^ min (2:Int).toNat (IntKind.bits .i64))) 255⟩]
 | none=>[]
def sT (k:Int) (small:Bool) (picks:List Int):Nat→List BW→List BW
 | _,[]=>[]
 | j,x::r=>if AG x.level k=true then (if small=true then pG k picks j else [])++x::sT k small picks (j+1) r else sT k small picks (j+1) r
def mixH (k:Int) (picks:List Int):Nat→List BW→List BW
 | _,[]=>[]
 | j,x::r=>pG k picks j++((if AG x.level k=true then [x] else [])++mixH k picks (j+1) r)
def aloneT (s:AQ) (k:Int) (picks:List Int):AQ:=⟨s.words,s.ceil,s.starts,sT k (decide ((s.slots.length:Int)<100)) picks 0 s.slots⟩
end Ve
