/- What of a script is below a label, by the reference. -/
import Derived.Test.YtjgbbmcjbfpjfaaGreatS62
import Derived.Test.YtjgbbmcjbfpjfaaGreatVeSH
import Derived.Test.YtjgbbmcjbfpjfaaGreatS65
set_option linter.all false
set_option linter.unusedSectionVars false
namespace Ve
open Go Ve.Ab
set_option maxHeartbeats 16000000
set_option maxRecDepth 10000
abbrev hRB (W:A4 (List Int)) (c:Int) (els:List Bk) (sls:List AR):Hp:=pO (pO Af 0 (some ⟨7,[pM],false⟩)) 1 (some ⟨7,[.agg [oNs W.a0,oNs W.a1,oNs W.a2,oNs W.a3,iV c,.own 4 (els.map oSt),.own 2 (sls.map eSl)]],true⟩)
def OQ (W:A4 (List Int)) (c:Int) (g:Int) (row:List Int):Hp:=pO (pO (pO (pO Af 0 (some ⟨7,[pM],false⟩)) 1 (some ⟨7,[.agg [if g=0 then .sl 3 else oNs W.a0,if g=1 then .sl 3 else oNs W.a1,if g=2 then .sl 3 else oNs W.a2,if g=3 then .sl 3 else oNs W.a3,iV c,.own 4 [],.own 2 []]],true⟩)) 2 none) 3 (some ⟨1,row.map iV,false⟩)
theorem xI (i k:Nat) (s:Aq) (l:Int) (W:A4 (List Int)) (c g:Int) (hg4:g=0∨g=1∨g=2∨g=3) (hu:Aj g l=false) (row:List Int) (hb:row.length≤1048576) (q:Out→St→Option Ans) (Q:V→Hp→Nat→Prop)
  (u:Dum (fun s q=>evC ctx (Lv ctx (i+9)) (Aa (Lv ctx (i+9))) k LW s (Al [1,2,4,6,7,8] q))) (w:Dum q)
  (hend:Fin (q (.exit 2) ⟨Ae [1,2,4,6,7] [iV l,.ip true (cSc true s) 0,.ptr 0 0 0,.ptr 1 0 0,iV g],OQ W c g (row.map fun _=>0),4⟩) Q):∀ (suf pre:List Int) (kk:Nat),row=pre++suf→suf.length<kk →
  GL 4 [1,2,4,6,7,8] (fun s q=>evC ctx (Lv ctx (i+9)) (Aa (Lv ctx (i+9))) k LW s (Al [1,2,4,6,7,8] q)) q kk ⟨Ae [1,2,4,6,7,8] [iV l,.ip true (cSc true s) 0,.ptr 0 0 0,.ptr 1 0 0,iV g,iV pre.length],OQ W c g ((pre.map fun _=>0)++suf),4⟩ Q u w
 | [],pre,kk,hxs,hk=>by
  obtain ⟨kk,rfl⟩:∃ m,kk=m+1:=⟨kk - 1,by simp at hk;omega⟩
  have h1:decide ((pre.length:Int)<(pre.length:Int))=false:=by simp
  have h2:row=pre:=by simpa using hxs
  rw [h2] at hend
  simp only [List.append_nil]
  rcases hg4 with rfl | rfl | rfl | rfl
  all_goals
   simp only [OQ,simprocAttr] at hend ⊢
   simp +contextual -dsimp -implicitDefEqProofs (maxSteps:=5000000) only [gLs,↓Ah (LW.eq_1),h1,List.length_map,go_sem,simprocAttr]
   exact hend
 | a::suf,pre,kk,hxs,hk=>by
  obtain ⟨kk,rfl⟩:∃ m,kk=m+1:=⟨kk - 1,by simp at hk;omega⟩
  have hl:pre.length<1048576:=by rw [hxs] at hb;simp at hb;omega
  have h2:((pre.length:Int)<((pre.length+(suf.length+1):Nat):Int))=True:=by simp;omega
  have h2':decide ((pre.length:Int)<((pre.length+(suf.length+1):Nat):Int))=true:=by simp;omega
  have h3:(0≤(pre.length:Int))=True:=by simp
  have h4:=wrN pre.length (by simp only [BB];omega)
  have hg:(List.map iV (List.map (fun _=>(0:Int)) pre)++iV a::List.map iV suf)[pre.length]?=some (iV a):=by simp
  have hset:∀ x,(List.map iV (List.map (fun _=>(0:Int)) pre)++iV a::List.map iV suf).set pre.length x=List.map iV (List.map (fun _=>(0:Int)) pre)++x::List.map iV suf:=by intro x;simp [List.set_append]
  have ih:=xI i k s l W c g hg4 hu row hb q Q u w hend suf (pre++[a]) kk (by simp [hxs]) (by simpa using hk)
  simp only [Ag,List.map_append,List.map_cons,List.map_nil,List.append_assoc,List.cons_append,List.nil_append] at ih
  rcases hg4 with rfl | rfl | rfl | rfl
  all_goals
   simp only [OQ,simprocAttr,List.map_append,List.map_cons] at ih ⊢
   simp +contextual -dsimp -implicitDefEqProofs (maxSteps:=5000000) only [gLs,↓Ah (LW.eq_1),h2,h2',h3,h4,hg,hset,hu,List.length_map,List.length_append,List.length_cons,go_sem,simprocAttr]
   exact (AA (by rfl)).mpr ih
theorem a9x (i k:Nat) (s:Aq) (l:Int) (W:A4 (List Int)) (c g:Int) (hg4:g=0∨g=1∨g=2∨g=3) (row:List Int) (hb:row.length≤1048576) (q:Out→St→Option Ans) (Q:V→Hp→Nat→Prop)
  (u:Dum (fun s q=>evC ctx (Lv ctx (i+9)) (Aa (Lv ctx (i+9))) k LW s (Al [1,2,4,6,7,8] q))) (w:Dum q) (kk:Nat) (hk:row.length<kk)
  (hend:Fin (q (.exit 2) ⟨Ae [1,2,4,6,7] [iV l,.ip true (cSc true s) 0,.ptr 0 0 0,.ptr 1 0 0,iV g],OQ W c g (Bo g l row),4⟩) Q) :
  GL 4 [1,2,4,6,7,8] (fun s q=>evC ctx (Lv ctx (i+9)) (Aa (Lv ctx (i+9))) k LW s (Al [1,2,4,6,7,8] q)) q kk ⟨Ae [1,2,4,6,7,8] [iV l,.ip true (cSc true s) 0,.ptr 0 0 0,.ptr 1 0 0,iV g,iV 0],OQ W c g row,4⟩ Q u w:=by
 cases hu:Aj g l
 ·have e:Bo g l row=row.map fun _=>0:=by unfold Bo;rw [hu];rfl
  rw [e] at hend
  have h:=xI i k s l W c g hg4 hu row hb q Q u w hend row [] kk rfl hk
  simpa only [List.map_nil,List.nil_append,List.length_nil,Int.natCast_zero] using h
 ·have e:Bo g l row=row:=by unfold Bo;rw [if_pos hu]
  rw [e] at hend
  obtain ⟨kk,rfl⟩:∃ m,kk=m+1:=⟨kk - 1,by omega⟩
  rcases hg4 with rfl | rfl | rfl | rfl
  all_goals
   simp only [OQ,simprocAttr] at hend ⊢
   cases hz:decide ((0:Int)<(row.length:Int))
   ·simp +contextual -dsimp -implicitDefEqProofs (maxSteps:=5000000) only [gLs,↓Ah (LW.eq_1),hz,hu,List.length_map,go_sem,simprocAttr]
    exact hend
   ·simp +contextual -dsimp -implicitDefEqProofs (maxSteps:=5000000) only [gLs,↓Ah (LW.eq_1),hz,hu,List.length_map,go_sem,simprocAttr]
    exact hend
theorem lD (i k:Nat) (s:Aq) (hs:CK s) (l:Int) (W:A4 (List Int)) (ss:List Bk) (q:Out→St→Option Ans) (Q:V→Hp→Nat→Prop)
  (u:Dum (fun s q=>evC ctx (Lv ctx (i+9)) (Aa (Lv ctx (i+9))) k Rv s (Al [1,2,4,6,9] q))) (w:Dum q)
  (hend:Fin (q (.exit 4) ⟨Ae [1,2,4,6] [iV l,.ip true (cSc true s) 0,.ptr 0 0 0,.ptr 1 0 0],hRB W s.ceil (s.starts.filter fun x=>Aj x.label l) [],2⟩) Q):∀ (suf pre els:List Bk) (kk:Nat),s.starts=pre++suf→suf.length<kk→els.length≤pre.length→els++suf.filter (fun x=>Aj x.label l)=s.starts.filter (fun x=>Aj x.label l) →
  GL 2 [1,2,4,6,9] (fun s q=>evC ctx (Lv ctx (i+9)) (Aa (Lv ctx (i+9))) k Rv s (Al [1,2,4,6,9] q)) q kk ⟨Ae [1,2,4,6,9] [iV l,.ip true (cSc true s) 0,.ptr 0 0 0,.ptr 1 0 0,iV pre.length],hRB W s.ceil els [],2⟩ Q u w
 | [],pre,els,kk,hxs,hk,hle,he=>by
  obtain ⟨kk,rfl⟩:∃ m,kk=m+1:=⟨kk - 1,by simp at hk;omega⟩
  have h1:decide ((pre.length:Int)<s.starts.length)=false:=by simp [hxs]
  rw [← he] at hend
  simp only [List.filter_nil,List.append_nil] at hend
  simp +contextual -dsimp -implicitDefEqProofs (maxSteps:=5000000) only [gLs,↓Ah (Rv.eq_1),h1,go_sem,simprocAttr]
  exact hend
 | a::suf,pre,els,kk,hxs,hk,hle,he=>by
  obtain ⟨kk,rfl⟩:∃ m,kk=m+1:=⟨kk - 1,by simp at hk;omega⟩
  have hl:pre.length<s.starts.length:=by simp [hxs]
  have h2:((pre.length:Int)<s.starts.length)=True:=by simpa using hl
  have h3:(0≤(pre.length:Int))=True:=by simp
  have hbd:s.starts.length≤1048576:=hs.bst
  have h4:=wrN pre.length (by simp only [BB];omega)
  have hg:s.starts[pre.length]?=some a:=by simp [hxs]
  cases c0:Aj a.label l
  ·have ih:=lD i k s hs l W ss q Q u w hend suf (pre++[a]) els kk (by simp [hxs]) (by simpa using hk) (by simp;omega) (by rw [← he,List.filter_cons,c0];rfl)
   simp only [Ag] at ih
   simp +contextual -dsimp -implicitDefEqProofs (maxSteps:=5000000) only [gLs,↓Ah (Rv.eq_1),h2,h3,h4,hg,c0,eSl,go_sem,simprocAttr]
   exact (AA (by rfl)).mpr ih
  ·have h5:(((els.length+1:Nat):Int)*48≤140737488355328)=True:=by
    simp only [eq_iff_iff,iff_true]
    omega
   have h6:((a.prog.length:Int)*32≤140737488355328)=True:=by
    have:=hs.p a (by simp [hxs])
    simp only [eq_iff_iff,iff_true]
    omega
   have ih:=lD i k s hs l W ss q Q u w hend suf (pre++[a]) (els++[a]) kk (by simp [hxs]) (by simpa using hk) (by simp;omega) (by rw [← he,List.filter_cons,c0];simp)
   simp only [Ag,List.map_append,List.map_cons,List.map_nil,oSt] at ih
   simp +contextual -dsimp -implicitDefEqProofs (maxSteps:=5000000) only [gLs,↓Ah (Rv.eq_1),h2,h3,h4,h5,h6,hg,c0,eSl,List.replicate,List.length_append,List.length_cons,List.length_nil,List.length_map,Nat.zero_add,go_sem,simprocAttr]
   obtain ⟨kk,rfl⟩:∃ m,kk=m+1:=⟨kk - 1,by simp at hk;omega⟩
   simp +contextual -dsimp -implicitDefEqProofs (maxSteps:=5000000) only [gLs,go_sem,simprocAttr] at ih ⊢
   exact ih
theorem lB (i k:Nat) (s:Aq) (hs:CK s) (l:Int) (W:A4 (List Int)) (ss:List Bk) (q:Out→St→Option Ans) (Q:V→Hp→Nat→Prop)
  (u:Dum (fun s q=>evC ctx (Lv ctx (i+9)) (Aa (Lv ctx (i+9))) k Ru s (Al [1,2,4,6,11] q))) (w:Dum q)
  (hend:Fin (q (.exit 6) ⟨Ae [4,6] [.ptr 0 0 0,.ptr 1 0 0],hRB W s.ceil ss (s.slots.filter fun x=>Aj x.level l),2⟩) Q):∀ (suf pre els:List AR) (kk:Nat),s.slots=pre++suf→suf.length<kk→els.length≤pre.length→els++suf.filter (fun x=>Aj x.level l)=s.slots.filter (fun x=>Aj x.level l) →
  GL 2 [1,2,4,6,11] (fun s q=>evC ctx (Lv ctx (i+9)) (Aa (Lv ctx (i+9))) k Ru s (Al [1,2,4,6,11] q)) q kk ⟨Ae [1,2,4,6,11] [iV l,.ip true (cSc true s) 0,.ptr 0 0 0,.ptr 1 0 0,iV pre.length],hRB W s.ceil ss els,2⟩ Q u w
 | [],pre,els,kk,hxs,hk,hle,he=>by
  obtain ⟨kk,rfl⟩:∃ m,kk=m+1:=⟨kk - 1,by simp at hk;omega⟩
  have h1:decide ((pre.length:Int)<s.slots.length)=false:=by simp [hxs]
  rw [← he] at hend
  simp only [List.filter_nil,List.append_nil] at hend
  simp +contextual -dsimp -implicitDefEqProofs (maxSteps:=5000000) only [gLs,↓Ah (Ru.eq_1),h1,go_sem,simprocAttr]
  exact hend
 | a::suf,pre,els,kk,hxs,hk,hle,he=>by
  obtain ⟨kk,rfl⟩:∃ m,kk=m+1:=⟨kk - 1,by simp at hk;omega⟩
  have hl:pre.length<s.slots.length:=by simp [hxs]
  have h2:((pre.length:Int)<s.slots.length)=True:=by simpa using hl
  have h3:(0≤(pre.length:Int))=True:=by simp
  have hbd:s.slots.length≤1048576:=hs.bsl
  have h4:=wrN pre.length (by simp only [BB];omega)
  have hg:s.slots[pre.length]?=some a:=by simp [hxs]
  cases c0:Aj a.level l
  ·have ih:=lB i k s hs l W ss q Q u w hend suf (pre++[a]) els kk (by simp [hxs]) (by simpa using hk) (by simp;omega) (by rw [← he,List.filter_cons,c0];rfl)
   simp only [Ag] at ih
   simp +contextual -dsimp -implicitDefEqProofs (maxSteps:=5000000) only [gLs,↓Ah (Ru.eq_1),h2,h3,h4,hg,c0,eSl,go_sem,simprocAttr]
   exact (AA (by rfl)).mpr ih
  ·have h5:(((els.length+1:Nat):Int)*16≤140737488355328)=True:=by
    simp only [eq_iff_iff,iff_true]
    omega
   have ih:=lB i k s hs l W ss q Q u w hend suf (pre++[a]) (els++[a]) kk (by simp [hxs]) (by simpa using hk) (by simp;omega) (by rw [← he,List.filter_cons,c0];simp)
   simp only [Ag,List.map_append,List.map_cons,List.map_nil,eSl] at ih
   simp +contextual -dsimp -implicitDefEqProofs (maxSteps:=5000000) only [gLs,↓Ah (Ru.eq_1),h2,h3,h4,h5,hg,c0,eSl,List.replicate,List.length_append,List.length_cons,List.length_nil,List.length_map,Nat.zero_add,go_sem,simprocAttr]
   obtain ⟨kk,rfl⟩:∃ m,kk=m+1:=⟨kk - 1,by simp at hk;omega⟩
   simp +contextual -dsimp -implicitDefEqProofs (maxSteps:=5000000) only [gLs,go_sem,simprocAttr] at ih ⊢
   exact ih
theorem rW (i:Nat) (s:Aq) (hs:CK s) (l:Int):Aa (Lv ctx (i+10)) 15 [eSc true s,iV l]=some (.tup [oSc (Cr s l).1,iV (Cr s l).2]):=by
 have q0:=RV (i+0) true s hs
 have e:Cr s l=if (Au s&&inR l 3)=true then (Bc s l,0) else (Gj,2500):=rfl
 rw [e]
 simp only [Nat.add_assoc,Nat.reduceAdd] at q0
 cases h0:Au s
 ·rw [h0] at q0
  simp only [Bool.false_and,Bool.false_eq_true,if_false]
  rw [CS]
  refine Ac rfl 0 (by rfl) ?_
  delta c15
  simp +contextual -dsimp -implicitDefEqProofs (maxSteps:=5000000) only [q0,go_sem,simprocAttr]
 ·rw [h0] at q0
  cases h1:inR l 3
  ·simp only [Bool.and_false,Bool.false_eq_true,if_false]
   rw [CS]
   refine Ac rfl 0 (by rfl) ?_
   delta c15
   simp +contextual -dsimp -implicitDefEqProofs (maxSteps:=5000000) only [q0,h1,go_sem,simprocAttr]
  ·simp only [Bool.and_self,if_true]
   have hb:=fun (n:Nat) (h:n≤1048576)=>(by simp only [eq_iff_iff,iff_true];omega:((n:Int)*8≤140737488355328)=True)
   have v0:=hb _ hs.b0
   have v1:=hb _ hs.b1
   have v2:=hb _ hs.b2
   have v3:=hb _ hs.b3
   have b0:=hs.b0
   have b1:=hs.b1
   have b2:=hs.b2
   have b3:=hs.b3
   have k1:=fun k W c g h4 row hb q Q u w kk hk he=>a9x i k s l W c g h4 row hb q Q u w kk hk he
   have k2:=fun k W q Q u w he kk hk=>lD i k s hs l W [] q Q u w he s.starts [] [] kk rfl hk (by simp) rfl
   have k3:=fun k W ss q Q u w he kk hk=>lB i k s hs l W ss q Q u w he s.slots [] [] kk rfl hk (by simp) rfl
   simp only [List.length_nil,Int.natCast_zero,List.map_nil] at k2 k3
   have ho:=fun k q k' st Q u w=>gLs 2 [1,2,4,6,7] (fun s q=>evC ctx (Lv ctx (i+9)) (Aa (Lv ctx (i+9))) k Pz s (Al [1,2,4,6,7] q)) q k' st Q u w
   refine Ac rfl (s.words.a0.length+s.words.a1.length+s.words.a2.length+s.words.a3.length+s.starts.length+s.slots.length+6) (by rfl) ?_
   delta c15
   simp only [Bc,oSc,Pm]
   simp +contextual -dsimp -implicitDefEqProofs (maxSteps:=5000000) only [ho,↓Ah (Pz.eq_1),q0,h1,v0,List.replicate,List.length_append,List.length_cons,Nat.zero_add,List.nil_append,List.append_nil,go_sem,simprocAttr]
   refine k1 _ ⟨[],[],[],[]⟩ s.ceil 0 (.inl rfl) s.words.a0 b0 _ _ _ _ _ (by omega) ?_
   simp only [OQ,simprocAttr]
   simp +contextual -dsimp -implicitDefEqProofs (maxSteps:=5000000) only [ho,↓Ah (Pz.eq_1),v1,List.replicate,List.length_append,List.length_cons,Nat.zero_add,List.nil_append,List.append_nil,go_sem,simprocAttr]
   refine k1 _ ⟨Bo 0 l s.words.a0,[],[],[]⟩ s.ceil 1 (.inr (.inl rfl)) s.words.a1 b1 _ _ _ _ _ (by omega) ?_
   simp only [OQ,simprocAttr]
   simp +contextual -dsimp -implicitDefEqProofs (maxSteps:=5000000) only [ho,↓Ah (Pz.eq_1),v2,List.replicate,List.length_append,List.length_cons,Nat.zero_add,List.nil_append,List.append_nil,go_sem,simprocAttr]
   refine k1 _ ⟨Bo 0 l s.words.a0,Bo 1 l s.words.a1,[],[]⟩ s.ceil 2 (.inr (.inr (.inl rfl))) s.words.a2 b2 _ _ _ _ _ (by omega) ?_
   simp only [OQ,simprocAttr]
   simp +contextual -dsimp -implicitDefEqProofs (maxSteps:=5000000) only [ho,↓Ah (Pz.eq_1),v3,List.replicate,List.length_append,List.length_cons,Nat.zero_add,List.nil_append,List.append_nil,go_sem,simprocAttr]
   refine k1 _ ⟨Bo 0 l s.words.a0,Bo 1 l s.words.a1,Bo 2 l s.words.a2,[]⟩ s.ceil 3 (.inr (.inr (.inr rfl))) s.words.a3 b3 _ _ _ _ _ (by omega) ?_
   simp only [OQ,simprocAttr]
   simp +contextual -dsimp -implicitDefEqProofs (maxSteps:=5000000) only [ho,↓Ah (Pz.eq_1),go_sem,simprocAttr]
   refine k2 _ ⟨Bo 0 l s.words.a0,Bo 1 l s.words.a1,Bo 2 l s.words.a2,Bo 3 l s.words.a3⟩ _ _ _ _ ?_ _ (by omega)
   simp +contextual -dsimp -implicitDefEqProofs (maxSteps:=5000000) only [go_sem,simprocAttr]
   refine k3 _ ⟨Bo 0 l s.words.a0,Bo 1 l s.words.a1,Bo 2 l s.words.a2,Bo 3 l s.words.a3⟩ _ _ _ _ _ ?_ _ (by omega)
   simp +contextual -dsimp -implicitDefEqProofs (maxSteps:=5000000) only [go_sem,simprocAttr]
end Ve
