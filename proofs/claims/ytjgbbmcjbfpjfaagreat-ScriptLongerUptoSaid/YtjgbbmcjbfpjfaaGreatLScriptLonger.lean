/- The statement ScriptLonger. -/
import Derived.Test.YtjgbbmcjbfpjfaaGreatVeSE
import Derived.Test.YtjgbbmcjbfpjfaaGreatVeSH
import Derived.Test.YtjgbbmcjbfpjfaaGreatPL54
import Derived.Test.YtjgbbmcjbfpjfaaGreatPL56
set_option linter.all false
set_option linter.unusedSectionVars false
namespace Ve
open Go Ve.Ab
set_option maxHeartbeats 16000000
set_option maxRecDepth 20000
abbrev hLA (m:Ad) (s:Aq):Hp:=pO (pO (pO (pO (pO (pO (pO (pO Af 0 (some ⟨11,[.agg (cM true m)],false⟩)) 1 (some ⟨1,s.words.a0.map iV,false⟩)) 2 (some ⟨1,s.words.a1.map iV,false⟩)) 3 (some ⟨1,s.words.a2.map iV,false⟩)) 4 (some ⟨1,s.words.a3.map iV,false⟩)) 5 (some ⟨4,s.starts.map oSt,false⟩)) 6 (some ⟨2,s.slots.map eSl,false⟩)) 7 (some ⟨7,[.agg [.sl 1,.sl 2,.sl 3,.sl 4,iV s.ceil,.sl 5,.sl 6]],true⟩)
abbrev hLB (m:Ad) (s:Aq) (sl:List AR):Hp:=pO (pO (pO (pO (pO (pO (pO (pO Af 0 (some ⟨11,[.agg (cM true m)],false⟩)) 1 (some ⟨1,s.words.a0.map iV,false⟩)) 2 (some ⟨1,s.words.a1.map iV,false⟩)) 3 (some ⟨1,s.words.a2.map iV,false⟩)) 4 (some ⟨1,s.words.a3.map iV,false⟩)) 5 (some ⟨4,s.starts.map oSt,false⟩)) 6 none) 7 (some ⟨7,[.agg [.sl 1,.sl 2,.sl 3,.sl 4,iV s.ceil,.sl 5,.own 2 (sl.map eSl)]],true⟩)
abbrev hLC (m:Ad) (s:Aq) (sl:List AR):Hp:=pO (pO (pO (pO (pO (pO (pO (pO (pO Af 0 (some ⟨11,[.agg (cM true m)],false⟩)) 1 (some ⟨1,s.words.a0.map iV,false⟩)) 2 (some ⟨1,s.words.a1.map iV,false⟩)) 3 (some ⟨1,s.words.a2.map iV,false⟩)) 4 (some ⟨1,s.words.a3.map iV,false⟩)) 5 (some ⟨4,s.starts.map oSt,false⟩)) 6 none) 7 (some ⟨7,[.agg [.sl 1,.sl 2,.sl 3,.sl 4,iV s.ceil,.sl 5,.sl 8]],true⟩)) 8 (some ⟨2,sl.map eSl,false⟩)
theorem OK (g p:Int) (r:List Int) (l:List AR):Ew g (p::r) l=if l.length<256 then (if decide (orI (DS p 3) g=g)=true then Ew g r l else Ew g r (l++[Hh p])) else l:=rfl
theorem kV (i k:Nat) (m:Ad) (s:Aq) (g:Int) (picks:List Int) (hp:picks.length≤1048576) (q:Out→St→Option Ans) (Q:V→Hp→Nat→Prop)
  (u:Dum (fun s q=>evC ctx (Lv ctx (i+30)) (Aa (Lv ctx (i+30))) k Mz s (Al [2,7,8,10,11] q))) (w:Dum q)
  (hB:Fin (q (.exit 0) ⟨Ae [7,8,10] [iV g,.ptr 0 0 0,.ptr 7 0 0],hLB m s (Ew g picks s.slots),8⟩) Q) (hC:Fin (q (.exit 0) ⟨Ae [7,8,10] [iV g,.ptr 0 0 0,.ptr 7 0 0],hLC m s (Ew g picks s.slots),9⟩) Q):∀ (suf pre:List Int) (sl:List AR) (kk:Nat),picks=pre++suf→suf.length<kk→sl.length≤256→Ew g suf sl=Ew g picks s.slots →
  GL 8 [2,7,8,10,11] (fun s q=>evC ctx (Lv ctx (i+30)) (Aa (Lv ctx (i+30))) k Mz s (Al [2,7,8,10,11] q)) q kk ⟨Ae [2,7,8,10,11] [.isl true false 1 (picks.map iV),iV g,.ptr 0 0 0,.ptr 7 0 0,iV pre.length],hLB m s sl,8⟩ Q u w
 | [],pre,sl,kk,hxs,hk,hsl,hacc=>by
  obtain ⟨kk,rfl⟩:∃ m,kk=m+1:=⟨kk - 1,by simp at hk;omega⟩
  have h1:decide ((pre.length:Int)<picks.length)=false:=by simp [hxs]
  rw [← hacc] at hB
  simp only [Ew] at hB
  simp +contextual -dsimp -implicitDefEqProofs (maxSteps:=5000000) only [gLs,↓Ah (Mz.eq_1),h1,go_sem,simprocAttr]
  exact hB
 | p::suf,pre,sl,kk,hxs,hk,hsl,hacc=>by
  obtain ⟨kk,rfl⟩:∃ m,kk=m+1:=⟨kk - 1,by simp at hk;omega⟩
  have hl:pre.length<picks.length:=by simp [hxs]
  have l1:((pre.length:Int)<picks.length)=True:=by simpa using hl
  have l2:(0≤(pre.length:Int))=True:=by simp
  have l3:=wrN pre.length (by simp only [BB];omega)
  have hg:picks[pre.length]?=some p:=by simp [hxs]
  rw [OK] at hacc
  by_cases c1:sl.length<256
  ·have c1':decide ((sl.length:Int)<256)=true:=by simp;omega
   rw [if_pos c1] at hacc
   cases c2:decide (orI (DS p 3) g=g)
   ·rw [c2] at hacc
    simp only [Bool.false_eq_true,if_false] at hacc
    obtain ⟨P2,hP2⟩:∃ P2,p.fdiv (2 ^ min (2:Int).toNat (IntKind.bits .i64))=P2:=⟨_,rfl⟩
    have hsh:∀ t,BO lay .shr t (iV p) (.lit (.int .u64 2))=some (iV P2):=fun t=>by rw [← hP2];exact SV (by decide)
    have h5:(((sl.length+1:Nat):Int)*16≤140737488355328)=True:=by rw [eq_iff_iff,iff_true];omega
    have ih:=kV i k m s g picks hp q Q u w hB hC suf (pre++[p]) (sl++[Hh p]) kk (by simp [hxs]) (by simpa using hk) (by simp;omega) hacc
    simp only [hLB,Ag,List.map_append,List.map_cons,List.map_nil,eSl,Hh] at ih
    rw [hP2] at ih
    clear hP2
    simp +contextual -dsimp -implicitDefEqProofs (maxSteps:=5000000) only [gLs,↓Ah (Mz.eq_1),l1,l2,l3,hg,c1',c2,hsh,h5,eSl,List.replicate,List.length_append,List.length_cons,List.length_nil,List.length_map,List.append_assoc,List.cons_append,List.nil_append,go_sem,simprocAttr]
    obtain ⟨kk,rfl⟩:∃ m,kk=m+1:=⟨kk - 1,by simp at hk;omega⟩
    simp +contextual -dsimp -implicitDefEqProofs (maxSteps:=5000000) only [gLs,List.append_assoc,List.cons_append,List.nil_append,go_sem,simprocAttr] at ih ⊢
    exact ih
   ·rw [c2] at hacc
    simp only [if_true] at hacc
    have ih:=kV i k m s g picks hp q Q u w hB hC suf (pre++[p]) sl kk (by simp [hxs]) (by simpa using hk) hsl hacc
    simp only [Ag] at ih
    simp +contextual -dsimp -implicitDefEqProofs (maxSteps:=5000000) only [gLs,↓Ah (Mz.eq_1),l1,l2,l3,hg,c1',c2,List.length_map,go_sem,simprocAttr]
    exact (AA (by rfl)).mpr ih
  ·have c1':decide ((sl.length:Int)<256)=false:=by simp;omega
   rw [if_neg c1] at hacc
   rw [← hacc] at hC
   simp +contextual -dsimp -implicitDefEqProofs (maxSteps:=5000000) only [gLs,↓Ah (Mz.eq_1),l1,c1',List.length_map,go_sem,simprocAttr]
   exact hC
theorem xE (i k:Nat) (m:Ad) (s:Aq) (g:Int) (picks:List Int) (hp:picks.length≤1048576) (q:Out→St→Option Ans) (Q:V→Hp→Nat→Prop)
  (u:Dum (fun s q=>evC ctx (Lv ctx (i+30)) (Aa (Lv ctx (i+30))) k Mz s (Al [2,7,8,10,11] q))) (w:Dum q)
  (hB:Fin (q (.exit 0) ⟨Ae [7,8,10] [iV g,.ptr 0 0 0,.ptr 7 0 0],hLB m s (Ew g picks s.slots),8⟩) Q) (hC:Fin (q (.exit 0) ⟨Ae [7,8,10] [iV g,.ptr 0 0 0,.ptr 7 0 0],hLC m s (Ew g picks s.slots),9⟩) Q)
  (hA:Ew g picks s.slots=s.slots→Fin (q (.exit 0) ⟨Ae [7,8,10] [iV g,.ptr 0 0 0,.ptr 7 0 0],hLA m s,8⟩) Q):∀ (suf pre:List Int) (kk:Nat),picks=pre++suf→suf.length<kk→s.slots.length≤256→Ew g suf s.slots=Ew g picks s.slots →
  GL 8 [2,7,8,10,11] (fun s q=>evC ctx (Lv ctx (i+30)) (Aa (Lv ctx (i+30))) k Mz s (Al [2,7,8,10,11] q)) q kk ⟨Ae [2,7,8,10,11] [.isl true false 1 (picks.map iV),iV g,.ptr 0 0 0,.ptr 7 0 0,iV pre.length],hLA m s,8⟩ Q u w
 | [],pre,kk,hxs,hk,hsl,hacc=>by
  obtain ⟨kk,rfl⟩:∃ m,kk=m+1:=⟨kk - 1,by simp at hk;omega⟩
  have h1:decide ((pre.length:Int)<picks.length)=false:=by simp [hxs]
  have hA:=hA (by rw [← hacc];rfl)
  simp +contextual -dsimp -implicitDefEqProofs (maxSteps:=5000000) only [gLs,↓Ah (Mz.eq_1),h1,go_sem,simprocAttr]
  exact hA
 | p::suf,pre,kk,hxs,hk,hsl,hacc=>by
  obtain ⟨kk,rfl⟩:∃ m,kk=m+1:=⟨kk - 1,by simp at hk;omega⟩
  have hl:pre.length<picks.length:=by simp [hxs]
  have l1:((pre.length:Int)<picks.length)=True:=by simpa using hl
  have l2:(0≤(pre.length:Int))=True:=by simp
  have l3:=wrN pre.length (by simp only [BB];omega)
  have hg:picks[pre.length]?=some p:=by simp [hxs]
  rw [OK] at hacc
  by_cases c1:s.slots.length<256
  ·have c1':decide ((s.slots.length:Int)<256)=true:=by simp;omega
   rw [if_pos c1] at hacc
   cases c2:decide (orI (DS p 3) g=g)
   ·rw [c2] at hacc
    simp only [Bool.false_eq_true,if_false] at hacc
    obtain ⟨P2,hP2⟩:∃ P2,p.fdiv (2 ^ min (2:Int).toNat (IntKind.bits .i64))=P2:=⟨_,rfl⟩
    have hsh:∀ t,BO lay .shr t (iV p) (.lit (.int .u64 2))=some (iV P2):=fun t=>by rw [← hP2];exact SV (by decide)
    have h5:(((s.slots.length+1:Nat):Int)*16≤140737488355328)=True:=by rw [eq_iff_iff,iff_true];omega
    have ih:=kV i k m s g picks hp q Q u w hB hC suf (pre++[p]) (s.slots++[Hh p]) kk (by simp [hxs]) (by simpa using hk) (by simp;omega) hacc
    simp only [hLB,Ag,List.map_append,List.map_cons,List.map_nil,eSl,Hh] at ih
    rw [hP2] at ih
    clear hP2
    simp +contextual -dsimp -implicitDefEqProofs (maxSteps:=5000000) only [gLs,↓Ah (Mz.eq_1),l1,l2,l3,hg,c1',c2,hsh,h5,eSl,List.replicate,List.length_append,List.length_cons,List.length_nil,List.length_map,List.append_assoc,List.cons_append,List.nil_append,go_sem,simprocAttr]
    obtain ⟨kk,rfl⟩:∃ m,kk=m+1:=⟨kk - 1,by simp at hk;omega⟩
    simp +contextual -dsimp -implicitDefEqProofs (maxSteps:=5000000) only [gLs,List.append_assoc,List.cons_append,List.nil_append,go_sem,simprocAttr] at ih ⊢
    exact ih
   ·rw [c2] at hacc
    simp only [if_true] at hacc
    have ih:=xE i k m s g picks hp q Q u w hB hC hA suf (pre++[p]) kk (by simp [hxs]) (by simpa using hk) hsl hacc
    simp only [Ag] at ih
    simp +contextual -dsimp -implicitDefEqProofs (maxSteps:=5000000) only [gLs,↓Ah (Mz.eq_1),l1,l2,l3,hg,c1',c2,List.length_map,go_sem,simprocAttr]
    exact (AA (by rfl)).mpr ih
  ·have c1':decide ((s.slots.length:Int)<256)=false:=by simp;omega
   rw [if_neg c1] at hacc
   have hA:=hA hacc.symm
   simp +contextual -dsimp -implicitDefEqProofs (maxSteps:=5000000) only [gLs,↓Ah (Mz.eq_1),l1,c1',List.length_map,go_sem,simprocAttr]
   exact hA
theorem u_ScriptLonger (i:Nat) (s:Aq) (hs:CK s) (a:Int) (picks:List Int) (hp:picks.length≤1048576) (haw:Aa (Lv ctx (i+30)) 25 []=some (bV true)):Aa (Lv ctx (i+31)) 9 [eSc true s,iV a,.isl true false 1 (picks.map iV)]=some (bV true):=by
 obtain ⟨g,eg,hg⟩:∃ k:Int,DS a 3=k∧inR k 3=true:=⟨_,rfl,GO a 3 (by omega)⟩
 have q1:=Kq (i+1) true s hs
 simp only [Nat.add_assoc,Nat.reduceAdd] at q1
 rcases Wa (s:=s) with ⟨h0,hsm⟩ | ⟨h0,hsm⟩
 ·rw [h0] at q1
  have hT:=qC hs hsm g picks
  have hmT:=kP hsm g picks
  have hsl:=(Hf hsm).1
  have q0:=NZ (i+29) true s hs
  have q2:=Kq (i+1) false (OJ s g picks) hT
  have q3:=fun p=>Hi (i+9) p (Bq s).1 (FE hs) g
  have q4:=fun p=>Hi (i+9) p (Bq (OJ s g picks)).1 (FE hT) g
  have hsv:=Tp hg hsm hmT (dD hsm g picks)
  have q6:=fun p1 p2=>BF (i+(30 - 3)) p1 p2 (Bf (Bq s).1 g) (Bf (Bq s).1 g) (KZ (FE hs) g)
  rw [NC hg hsm] at q3
  rw [NC hg hmT,← hsv] at q4
  rw [(Iq hmT).1] at q2
  have key:=fun kf m q Q u w hB hC hA kk hk=>xE i kf m s g picks hp q Q u w hB hC hA picks [] kk rfl hk hsl rfl
  simp only [List.length_nil,Int.natCast_zero] at key
  simp only [Nat.add_assoc,Nat.reduceAdd,Nat.reduceSub,decide_true] at q0 q2 q3 q4 q6
  generalize (Bq (OJ s g picks)).1=M2 at q2 q4
  simp only [OJ,eSc,cSc,eNs,Hw,Hu] at q2
  generalize Ew g picks s.slots=SL at q2 key
  generalize Bf (Bq s).1 g=X at q3 q4 q6
  generalize (Bq s).1=M1 at q1 q3
  clear hsv hT hmT h0 hsm
  refine Ac rfl (picks.length+1) (by rfl) ?_
  delta c9
  simp +contextual -dsimp -implicitDefEqProofs (maxSteps:=5000000) only [haw,eg,q0,q1,go_sem,simprocAttr]
  refine key _ _ _ _ _ _ ?_ ?_ ?_ _ (by omega)
  ·simp +contextual -dsimp -implicitDefEqProofs (maxSteps:=5000000) only [q2,q3,q4,q6,go_sem,simprocAttr]
  ·simp +contextual -dsimp -implicitDefEqProofs (maxSteps:=5000000) only [q2,q3,q4,q6,go_sem,simprocAttr]
  ·intro h
   rw [h] at q2
   simp +contextual -dsimp -implicitDefEqProofs (maxSteps:=5000000) only [q2,q3,q4,q6,go_sem,simprocAttr]
 ·rw [h0] at q1
  have qz:=fun p q=>BF (i+(30 - 3)) p q Az Az Dx
  simp only [Az,eM,cM,eWs,eSs,eEs,List.map_nil,decide_true,Nat.add_assoc,Nat.reduceAdd,Nat.reduceSub] at qz
  simp only [Ay] at q1
  refine Ac rfl 0 (by rfl) ?_
  delta c9
  simp +contextual -dsimp -implicitDefEqProofs (maxSteps:=5000000) only [haw,eg,q1,qz,go_sem,simprocAttr]
end Ve
