/- The reference's new arenas, sessions, machines. -/
import Derived.Test.YtdgpalcplglhjaaGreatVeSB
import Derived.Test.YtdgpalcplglhjaaGreatVeSC
import Derived.Test.YtdgpalcplglhjaaGreatVeP
set_option linter.all false
set_option linter.unusedSectionVars false
namespace Ve
open Go Ve.Ab
set_option maxHeartbeats 16000000
set_option maxRecDepth 10000
abbrev cN (p:Bool) (ws:A4 (List Int)):List V:=[eNs p ws.a0,eNs p ws.a1,eNs p ws.a2,eNs p ws.a3]
abbrev hA (o:A4 (List Al)) (d:Bool):Hp:=pO (pO Ag 0 (some ⟨4,[.agg [.own 3 [],.own 3 [],.own 3 [],.own 3 []]],false⟩)) 1 (some ⟨4,[.agg [oWs o.a0,oWs o.a1,oWs o.a2,oWs o.a3]],d⟩)
abbrev eA (p:Bool) (ws:A4 (List Int)):V:=.agg (cN p ws)
abbrev hNw (A:A4 (List Al)) (c:Int) (els:List V):Hp :=
 pO (pO (pO (pO (pO (pO (pO Ag 0 (some ⟨11,[.agg [.own 3 [],.own 3 [],.own 3 [],.own 3 [],iZ,iZ,iZ,iZ,iZ,.own 17 [],.own 4 []]],false⟩)) 1 (some ⟨3,A.a0.map eW,false⟩)) 2 (some ⟨3,A.a1.map eW,false⟩)) 3 (some ⟨3,A.a2.map eW,false⟩)) 4 (some ⟨3,A.a3.map eW,false⟩))
  5 (some ⟨4,[.agg [.sl 1,.sl 2,.sl 3,.sl 4]],true⟩)) 6 (some ⟨11,[.agg [.sl 1,.sl 2,.sl 3,.sl 4,iZ,iZ,iZ,iZ,iV c,.own 17 els,.own 4 []]],true⟩)
theorem kU {s:AQ} (h1:EP s.words=true) (h2:s.starts.all DV=true) (h3:Ei (Ce s)=true):Ea s=(Ce s,0):=by unfold Ea;rw [h1,h2,h3];rfl
theorem Mb {s:AQ} (h:EP s.words=false∨s.starts.all DV=false∨Ei (Ce s)=false):Ea s=(AN,1200):=by
 unfold Ea;rcases h with h | h | h<;>simp [h]
end Ve
