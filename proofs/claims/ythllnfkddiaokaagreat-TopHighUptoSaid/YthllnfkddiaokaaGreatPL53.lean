/- A script of which all above a label is another one. -/
import Derived.Test.YthllnfkddiaokaaGreatPL52
set_option linter.all false
set_option linter.unusedSectionVars false
namespace Ve
open Go
def hiV (v x:Int):Int:=Df (IntKind.wrap .i64 (x+v)) 255
def hiR (g k v:Int) (l:List Int):List Int:=if Ao g k=true then l else l.map (hiV v)
def hiW (k v:Int) (W:A4 (List Int)):A4 (List Int):=⟨hiR 0 k v W.a0,hiR 1 k v W.a1,hiR 2 k v W.a2,hiR 3 k v W.a3⟩
def hiT (k:Int) (p:List AD) (a:AV):AV:=if Ao a.label k=true then a else { a with prog:=p }
def Hv (s:Ap) (k v:Int) (p:List AD) (picks:List Int):Ap:=⟨hiW k v s.words,s.ceil,s.starts.map (hiT k p),Im k picks 0 s.slots⟩
theorem Ol (g k v:Int) (l:List Int):(hiR g k v l).length=l.length:=by unfold hiR;split<;>simp
theorem Pw (k:Int) (p:List AD):∀ l:List AV,(l.map (hiT k p)).filter (fun x=>Ao x.label k)=l.filter fun x=>Ao x.label k
 | []=>rfl
 | a::r=>by
  simp only [List.map_cons,List.filter_cons,Pw k p r]
  unfold hiT
  by_cases h:Ao a.label k=true
  ·rw [if_pos h,if_pos h]
  ·rw [if_neg h,if_neg h,if_neg h]
theorem high_same {s:Ap} {k:Int} (v:Int) (p:List AD) (picks:List Int):RZ k s (Hv s k v p picks):=by
 refine ⟨rfl,fun a ha hua=>?_,(Pw k p s.starts).symm,(NB k picks s.slots 0).symm⟩
 rcases ER ha with rfl | rfl | rfl | rfl
 all_goals
  simp only [Hv,hiW,hiR,A4.get]
  simp [hua]
theorem qO {s:Ap} (hs:Cj s) (hl:s.slots.length≤256) (k v:Int) {p:List AD} (hp:p.length≤1048576) (picks:List Int):Cj (Hv s k v p picks):=by
 obtain ⟨b0,b1,b2,b3,bst,bsl,pp⟩:=hs
 have hm:=Vm k picks s.slots 0
 refine ⟨by simpa [Hv,hiW,Ol] using b0,by simpa [Hv,hiW,Ol] using b1,by simpa [Hv,hiW,Ol] using b2,by simpa [Hv,hiW,Ol] using b3,by simpa [Hv] using bst,by simp only [Hv];omega,?_⟩
 intro x hx
 simp only [Hv,List.mem_map] at hx
 obtain ⟨y,hy,rfl⟩:=hx
 unfold hiT
 split
 ·exact pp y hy
 ·exact hp
end Ve
