/- The machine with which the statements begin. -/
import Derived.Test.YtdgpalcplglhjaaGreatVeM
set_option linter.all false
set_option linter.unusedSectionVars false
namespace Ve
open Go
def MB:Ad:=⟨⟨[⟨5,0,0⟩,⟨6,0,0⟩],[⟨7,0,0⟩],[],[⟨9,0,0⟩]⟩,⟨0,0,0,0⟩,9,[⟨3,0,3,[⟨2,0,0,0⟩,⟨1,0,0,0⟩,⟨3,0,0,0⟩],0,0,⟨0,0,0,0⟩,[],[],0,0,0,0,0⟩,⟨5,1,1,[⟨2,0,0,1⟩,⟨3,0,1,0⟩],0,0,⟨0,0,0,0⟩,[],[],0,0,0,0,0⟩],[]⟩
end Ve
