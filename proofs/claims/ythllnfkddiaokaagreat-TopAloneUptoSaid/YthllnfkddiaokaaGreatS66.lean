/- Scripts whose parts lie in memory of several kinds: new machines, runs. -/
import Derived.Test.YthllnfkddiaokaaGreatVeSF
set_option linter.all false
set_option linter.unusedSectionVars false
namespace Ve
open Go Ve.Ab
set_option maxHeartbeats 16000000
set_option maxRecDepth 10000
def Ng (x:Bool × AV):V:=eSt x.1 x.2
abbrev eQ (p:Bool) (s:Ap) (fs:List (Bool × AV)):V:=.agg [eNs p s.words.a0,eNs p s.words.a1,eNs p s.words.a2,eNs p s.words.a3,iV s.ceil,.isl p false 4 (fs.map Ng),XT false s.slots]
theorem YW (i k:Nat) (p:Bool) (s:Ap) (hs:Cj s) (fs:List (Bool × AV)) (hfs:s.starts=fs.map (·.2)) (e:Int) (he0:e=0∨e=400) (A:A4 (List Aj)) (q:Out→St→Option Ans) (Q:V→Hp→Nat→Prop)
  (u:Dum (fun s q=>evC ctx (Lv ctx (i+19)) (Aa (Lv ctx (i+19))) k Hy s (As [2,5,6,22,23,24] q))) (w:Dum q)
  (hend:(e=0∨s.starts=[])→s.starts.all Bz=true→Fin (q (.exit 0) ⟨Ad [2,5,6] [.ptr 0 0 0,iV e,.ptr 6 0 0],hNw A s.ceil ((s.starts.map AX).map oS),7⟩) Q)
  (hbad:∀ e' els x7 x8 x9 x10 x11,decide (e'=0)=false→(e≠0∨s.starts.all Bz=false)→Fin (q (.exit 0) ⟨Ad [2,5,6] [.ptr 0 0 0,iV e',.ptr 6 0 0],pO (pO (pO (pO (pO (hNw A s.ceil els) 7 x7) 8 x8) 9 x9) 10 x10) 11 x11,12⟩) Q) :
  ∀ (suf pre:List (Bool × AV)) (kk:Nat),fs=pre++suf→suf.length<kk→(∀ x∈pre,Bz x.2=true)→(e=0∨pre=[]) →
  GL 7 [2,5,6,22,23,24] (fun s q=>evC ctx (Lv ctx (i+19)) (Aa (Lv ctx (i+19))) k Hy s (As [2,5,6,22,23,24] q)) q kk ⟨Ad [2,5,6,22,23,24] [.ptr 0 0 0,iV e,.ptr 6 0 0,.isl p false 4 (fs.map Ng),iV fs.length,iV pre.length],hNw A s.ceil (((pre.map (·.2)).map AX).map oS),7⟩ Q u w
 | [],pre,kk,hxs,hk,hall,hpe=>by
  obtain ⟨kk,rfl⟩:∃ m,kk=m+1:=⟨kk - 1,by simp at hk;omega⟩
  have h1:decide ((pre.length:Int)<fs.length)=false:=by simp [hxs]
  have h2:s.starts=pre.map (·.2):=by rw [hfs,hxs,List.append_nil]
  have he:=hend (by rw [h2];rcases hpe with h | h;exact .inl h;exact .inr (by rw [h];rfl)) (by rw [h2,List.all_map,List.all_eq_true];exact hall)
  rw [h2] at he
  simp +contextual -dsimp -implicitDefEqProofs (maxSteps:=5000000) only [gLs,↓Ai (Hy.eq_1),h1,go_sem,simprocAttr]
  exact he
 | (fl,a)::suf,pre,kk,hxs,hk,hall,hpe=>by
  have hfl:s.starts.length=fs.length:=by rw [hfs,List.length_map]
  have ham:a∈s.starts:=by rw [hfs,hxs];simp
  obtain ⟨kk,rfl⟩:∃ m,kk=m+1:=⟨kk - 1,by simp at hk;omega⟩
  have hl:pre.length<fs.length:=by simp [hxs]
  have h2:((pre.length:Int)<fs.length)=True:=by simpa using hl
  have h3:(0≤(pre.length:Int))=True:=by simp
  have h4:=wrN pre.length (by have:=hs.bst;simp only [BB];omega)
  have hg:fs[pre.length]?=some (fl,a):=by simp [hxs]
  have h5:(((pre.length+1:Nat):Int)*184≤140737488355328)=True:=by
   have:=hs.bst
   simp only [eq_iff_iff,iff_true]
   omega
  have hr:=iS (i+13) fl a (hs.p a ham)
  rcases he0 with rfl | rfl
  ·cases hb:Bz a
   ·have e0:Fa a=(AX ⟨0,0,0,[]⟩,1100):=by unfold Fa;rw [hb];rfl
    rw [e0] at hr
    simp only [Nat.add_assoc,Nat.reduceAdd,AX,oS,eSt,List.map_nil] at hr
    have he:s.starts.all Bz=false:=by rw [List.all_eq_false];exact ⟨a,ham,by simp [hb]⟩
    simp +contextual -dsimp -implicitDefEqProofs (maxSteps:=5000000) only [gLs,↓Ai (Hy.eq_1),h2,h3,hg,hr,Ng,eSt,go_sem,simprocAttr]
    exact hbad 1100 _ _ _ _ _ _ (by decide) (.inr he)
   ·have e0:Fa a=(AX a,0):=by unfold Fa;rw [hb];rfl
    rw [e0] at hr
    have ih:=YW i k p s hs fs hfs 0 (.inl rfl) A q Q u w hend hbad suf (pre++[(fl,a)]) kk (by simp [hxs]) (by simpa using hk) (by
     intro x hx
     rcases List.mem_append.1 hx with h | h
     ·exact hall x h
     ·simp only [List.mem_singleton] at h;subst h;exact hb) (.inl rfl)
    simp only [Ah,List.map_append,List.map_cons,List.map_nil,oS,AX] at ih
    simp only [Nat.add_assoc,Nat.reduceAdd,eSt,oS,AX] at hr
    simp +contextual -dsimp -implicitDefEqProofs (maxSteps:=5000000) only [gLs,↓Ai (Hy.eq_1),h2,h3,h4,h5,hg,hr,Ng,eSt,oS,AX,go_sem,simprocAttr]
    obtain ⟨kk,rfl⟩:∃ m,kk=m+1:=⟨kk - 1,by simp at hk;omega⟩
    simp +contextual -dsimp -implicitDefEqProofs (maxSteps:=5000000) only [gLs,iZ,go_sem,simprocAttr] at ih ⊢
    exact ih
  ·obtain rfl:pre=[]:=hpe.resolve_left (by decide)
   simp only [List.length_nil,Int.natCast_zero] at h2 hg
   simp only [List.length_nil,List.map_nil,Int.natCast_zero]
   cases hb:Bz a
   ·have e0:Fa a=(AX ⟨0,0,0,[]⟩,1100):=by unfold Fa;rw [hb];rfl
    rw [e0] at hr
    simp only [Nat.add_assoc,Nat.reduceAdd,AX,oS,eSt,List.map_nil] at hr
    simp +contextual -dsimp -implicitDefEqProofs (maxSteps:=5000000) only [gLs,↓Ai (Hy.eq_1),h2,h3,hg,hr,Ng,eSt,go_sem,simprocAttr]
    exact hbad 1100 _ _ _ _ _ _ (by decide) (.inl (by decide))
   ·have e0:Fa a=(AX a,0):=by unfold Fa;rw [hb];rfl
    rw [e0] at hr
    simp only [Nat.add_assoc,Nat.reduceAdd,AX,oS,eSt,List.map_nil] at hr
    simp +contextual -dsimp -implicitDefEqProofs (maxSteps:=5000000) only [gLs,↓Ai (Hy.eq_1),h2,h3,hg,hr,Ng,eSt,go_sem,simprocAttr]
    exact hbad 400 _ _ _ _ _ _ (by decide) (.inl (by decide))
theorem YG (i:Nat) (p:Bool) (s:Ap) (hs:Cj s) (fs:List (Bool × AV)) (hfs:s.starts=fs.map (·.2)):Aa (Lv ctx (i+20)) 16 [eQ p s fs]=some (.tup [oM (Ci s).1,iV (Ci s).2]):=by
 have h0:=ON (i+(19 - 8)) p s.words hs.b0 hs.b1 hs.b2 hs.b3
 have hM:=QG (i+0) false (AC s) (Et hs)
 simp only [Nat.add_assoc,Nat.reduceAdd,Nat.reduceSub] at h0 hM
 have he0:(CI s.words).2=0∨(CI s.words).2=400:=by unfold CI;split<;>simp
 refine Af rfl (fs.length+1) (by rfl) ?_
 delta c16
 cases p
 all_goals
  simp +contextual -dsimp -implicitDefEqProofs (maxSteps:=5000000) only [h0,go_sem,simprocAttr]
  refine YW i _ _ s hs fs hfs (CI s.words).2 he0 (CI s.words).1 _ _ _ _ ?ha ?hb fs [] _ (by simp) (by omega) (by simp) (.inr rfl)
  case hb =>
   intro e' els x7 x8 x9 x10 x11 hz hb
   rw [EJ (by
    rcases hb with hb | hb
    ·left
     cases hv:Bw s.words
     ·rfl
     ·exact absurd (by unfold CI;rw [hv];rfl) hb
    ·exact .inr (.inl hb)),Bh]
   simp +contextual -dsimp -implicitDefEqProofs (maxSteps:=5000000) only [hz,go_sem,simprocAttr]
  case ha =>
   intro _ hb
   cases hv:Bw s.words
   ·have e:CI s.words=(⟨[],[],[],[]⟩,400):=by unfold CI;rw [hv];rfl
    rw [e,EJ (.inl hv),Bh]
    simp +contextual -dsimp -implicitDefEqProofs (maxSteps:=5000000) only [go_sem,simprocAttr]
   ·have e:CI s.words=(Bf s.words,0):=by unfold CI;rw [hv];rfl
    rw [e]
    simp only [AC,Bf,eM,cM,eWs,eSs,eEs,List.map_nil] at hM
    cases hm:De (AC s)
    ·rw [EJ (.inr (.inr hm)),Bh]
     simp only [AC,Bf] at hm
     rw [hm] at hM
     simp +contextual -dsimp -implicitDefEqProofs (maxSteps:=5000000) only [hM,Bf,go_sem,simprocAttr]
    ·rw [Oj hv hb hm]
     simp only [AC,Bf] at hm
     rw [hm] at hM
     simp only [AC,Bf,oM,cO,oWs,oSs,oEs,List.map_nil]
     simp +contextual -dsimp -implicitDefEqProofs (maxSteps:=5000000) only [hM,Bf,go_sem,simprocAttr]
theorem iK (i:Nat) (p:Bool) (s:Ap) (hs:Cj s) (fs:List (Bool × AV)) (hfs:s.starts=fs.map (·.2)):Aa (Lv ctx (i+21)) 35 [eQ p s fs]=some (bV (Az s)):=by
 have q:=YG (i+0) p s hs fs hfs
 have hb:s.slots.length≤BB:=by have:=hs.bsl;simp only [BB];omega
 have hcf:=fun pf=>UK (i+(20 - 2)) pf false s.slots (fun x=>!AF x) 81 [] (fun _ _ _ _ _ _=>rfl) (fun _=>rfl) (by simp [AU]) rfl (fun a _=>YF (i+(20 - 2 - 3)) a) hb
 have e:Az s=(decide ((Ci s).2=0)&&decide (s.slots.length≤256)&&s.slots.all AF):=rfl
 have hL:decide ((s.slots.length:Int)≤256)=decide (s.slots.length≤256):=by apply decide_eq_decide.mpr;omega
 rw [FU] at hcf
 simp only [Nat.add_assoc,Nat.reduceAdd,Nat.reduceSub] at q hcf
 rw [e]
 generalize Ci s=N at q ⊢
 cases h1:decide (N.2=0)
 ·refine Af rfl 0 (by rfl) ?_
  delta c35
  cases p<;>simp +contextual -dsimp -implicitDefEqProofs (maxSteps:=5000000) only [q,h1,go_sem,simprocAttr]
 ·cases h2:decide (s.slots.length≤256)
  ·refine Af rfl 0 (by rfl) ?_
   delta c35
   cases p<;>simp +contextual -dsimp -implicitDefEqProofs (maxSteps:=5000000) only [q,h1,hL,h2,go_sem,simprocAttr]
  ·refine Af rfl 0 (by rfl) ?_
   delta c35
   cases p<;>simp +contextual -dsimp -implicitDefEqProofs (maxSteps:=5000000) only [q,h1,hL,h2,hcf,Bool.not_not,go_sem,simprocAttr]
theorem iL (i:Nat) (p:Bool) (s:Ap) (hs:Cj s) (fs:List (Bool × AV)) (hfs:s.starts=fs.map (·.2)):Aa (Lv ctx (i+29)) 27 [eQ p s fs]=some (.tup [oM (BN s).1,iV (BN s).2]):=by
 have q0:=iK (i+7) p s hs fs hfs
 have qn:=YG (i+8) p s hs fs hfs
 have hm:SmM (Ci s).1:=by
  unfold Ci;split
  ·exact Et hs
  ·exact CQ
 have e:BN s=if Az s=true then BH (Ci s).1 s.slots else (AA,2500):=rfl
 rw [e]
 simp only [Nat.add_assoc,Nat.reduceAdd] at q0 qn
 cases h0:Az s
 ·rw [h0] at q0
  simp only [Bool.false_eq_true,if_false]
  rw [Bh]
  refine Af rfl 0 (by rfl) ?_
  delta c27
  cases p<;>simp +contextual -dsimp -implicitDefEqProofs (maxSteps:=5000000) only [q0,go_sem,simprocAttr]
 ·rw [h0] at q0
  simp only [if_true]
  generalize Ci s=N at qn hm ⊢
  refine Af rfl (s.slots.length+1) (by rfl) ?_
  delta c27
  cases p
  all_goals
   simp +contextual -dsimp -implicitDefEqProofs (maxSteps:=5000000) only [q0,qn,go_sem,simprocAttr]
   refine s_ra i _ _ s hs N.1 hm _ _ _ _ ?ha ?hz ?hb s.slots [] _ N.1 (by simp) (by omega) hm rfl rfl
   case ha =>
    intro m' hr hm'
    rw [hr]
    simp +contextual -dsimp -implicitDefEqProofs (maxSteps:=5000000) only [go_sem,simprocAttr]
   case hz =>
    intro hr
    rw [hr]
    simp +contextual -dsimp -implicitDefEqProofs (maxSteps:=5000000) only [go_sem,simprocAttr]
   case hb =>
    intro h n hn hh hr
    rw [hr,Bh]
    rcases hn with rfl | rfl<;>simp +contextual -dsimp -implicitDefEqProofs (maxSteps:=5000000) only [hh,go_sem,simprocAttr]
end Ve
