/- Arguments of a row of this seat, those that few rows need. -/
import Derived.Test.YthllnfkddiaokaaGreatVeR
set_option linter.all false
set_option linter.unusedSectionVars false
namespace Go.Proofs.YthllnfkddiaokaaGreat
open Go Go.ChangeShapes Go.WideShapes Go.ChangeAt Go.RowKit Ve
set_option maxRecDepth 100000
theorem argVb {H:Type} {enc:TypeId × Value→H} {w:World} {sp:Nat→Bool} {r:Reach} {b0:Nat} {v:Value} {d:DataW H} {p:List MemPlace} (hval:Value.okWide Tryz.prog w r b0 22 v) (hd:DataW.Trod enc Tryz.prog w 0 sp true 22 v d p) (hs:smD d) :
  ∃ l:List Int,l.length≤1048576∧R1 (rdE w) .P (.isl true false 1 (l.map iV)) v []:=by
 obtain ⟨fuel,h⟩:=hd
 have hv:v.cells.toList=[v]:=by
  simp only [Value.okWide,Tryz.underlying22,Cell.okWide] at hval
  cases v with
  | agg cs=>simp [Cell.ok,Tryz.underlying22] at hval
  | _=>simp [Value.cells]
 obtain ⟨vs,⟨l,_,hl,rfl⟩,hr,_,_⟩:=sE smOk fuel _ _ h hs
 rw [hv] at hr
 exact ⟨l,hl,hr⟩
theorem argNb {H:Type} {enc:TypeId × Value→H} {w:World} {sp:Nat→Bool} {r:Reach} {b0:Nat} {v:Value} {d:DataW H} {p:List MemPlace} (hval:Value.okWide Tryz.prog w r b0 45 v) (hd:DataW.Trod enc Tryz.prog w 0 sp true 45 v d p) (hs:smD d) :
  ∃ l:List AD,l.length≤1048576∧R1 (rdE w) .P (eIs true l) v []:=by
 obtain ⟨fuel,h⟩:=hd
 have hv:v.cells.toList=[v]:=by
  simp only [Value.okWide,Tryz.underlying45,Cell.okWide] at hval
  cases v with
  | agg cs=>simp [Cell.ok,Tryz.underlying45] at hval
  | _=>simp [Value.cells]
 obtain ⟨vs,⟨l,_,hl,rfl⟩,hr,_,_⟩:=a5c smOk fuel _ _ h hs
 rw [hv] at hr
 exact ⟨l,hl,hr⟩
end Go.Proofs.YthllnfkddiaokaaGreat
