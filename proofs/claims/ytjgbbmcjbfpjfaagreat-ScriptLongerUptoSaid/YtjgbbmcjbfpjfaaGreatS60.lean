/- The program's new arenas, sessions, machines. -/
import Derived.Test.YtjgbbmcjbfpjfaaGreatS39
import Derived.Test.YtjgbbmcjbfpjfaaGreatVeSA
import Derived.Test.YtjgbbmcjbfpjfaaGreatVeSC
set_option linter.all false
set_option linter.unusedSectionVars false
namespace Ve
open Go Ve.Ab
set_option maxHeartbeats 16000000
set_option maxRecDepth 10000
theorem a9t (i k:Nat) (p:Bool) (ws:A4 (List Int)) (o:A4 (List Ap)) (g:Int) (hg:g=0∨g=1∨g=2∨g=3) (hb:(ws.get g).length≤1048576) (q:Out→St→Option Ans) (Q:V→Hp→Nat→Prop)
  (u:Dum (fun s q=>evC ctx (Lv ctx (i+7)) (Aa (Lv ctx (i+7))) k UZ s (Al [2,4,5,9,10,14,15,16] q))) (w:Dum q)
  (hend:∀ d,Fin (q (.exit 2) ⟨Ae [2,4,9,10] [.ptr 0 0 0,.ptr 1 0 0,eA p ws,iV g],hA (o.set g ((ws.get g).map DF)) d,2⟩) Q) :
  ∀ (n j kk:Nat) (d:Bool),j+n=(ws.get g).length→n<kk →
  GL 2 [2,4,5,9,10,14,15,16] (fun s q=>evC ctx (Lv ctx (i+7)) (Aa (Lv ctx (i+7))) k UZ s (Al [2,4,5,9,10,14,15,16] q)) q kk ⟨Ae [2,4,5,9,10,14,15,16] [.ptr 0 0 0,.ptr 1 0 0,iV g,eA p ws,iV g,eNs p (ws.get g),iV (ws.get g).length,iV j],hA (o.set g (((ws.get g).take j).map DF)) d,2⟩ Q u w:=by
 intro n
 induction n with
 | zero =>
  intro j kk d hj hk
  obtain ⟨kk,rfl⟩:∃ n,kk=n+1:=⟨kk - 1,by omega⟩
  have hj':j=(ws.get g).length:=by omega
  subst hj'
  rw [List.take_length]
  have l0:decide (((ws.get g).length:Int)<((ws.get g).length:Int))=false:=by simp
  have he:=hend d
  clear hend
  rcases hg with rfl | rfl | rfl | rfl
  all_goals
   simp only [A4.get,A4.set,simprocAttr] at l0 he ⊢
   cases d
   all_goals
    simp +contextual -dsimp -implicitDefEqProofs (maxSteps:=5000000) only [gLs,↓Ah (UZ.eq_1),l0,go_sem,simprocAttr]
    exact he
 | succ n ih =>
  intro j kk d hj hk
  obtain ⟨kk,rfl⟩:∃ n,kk=n+1:=⟨kk - 1,by omega⟩
  have hjl:j<(ws.get g).length:=by omega
  obtain ⟨x,hx⟩:∃ x,(ws.get g)[j]?=some x:=⟨_,List.getElem?_eq_getElem hjl⟩
  have l1:((j:Int)<((ws.get g).length:Int))=True:=by simpa using hjl
  have l2:(0≤(j:Int))=True:=by simp
  have ht:(ws.get g).take (j+1)=(ws.get g).take j++[x]:=by rw [List.take_add_one,hx];rfl
  have ih:=ih (j+1) kk true (by omega) (by omega)
  have l5:=wrN j (by simp only [BB];omega)
  have l6:(((((ws.get g).take j).length+1:Nat):Int)*24≤140737488355328)=True:=by simp only [List.length_take,eq_iff_iff,iff_true];omega
  rw [ht] at ih
  clear hend
  rcases hg with rfl | rfl | rfl | rfl
  all_goals
   simp only [A4.get,A4.set,hA,oWs,List.map_append,List.map_cons,List.map_nil,DF,eW,simprocAttr] at hx l1 l6 ih ⊢
   cases d
   all_goals
    simp +contextual -dsimp -implicitDefEqProofs (maxSteps:=5000000) only [gLs,↓Ah (UZ.eq_1),l1,l2,hx,l5,l6,go_sem,simprocAttr]
    exact (AA (by rfl)).mpr ih
theorem fD (v:Int):AO (DF v)=inR v 255:=by
 show (inR v 255&&inR 0 65535&&inR 0 255)=inR v 255
 rw [show inR 0 65535=true from rfl,show inR 0 255=true from rfl,Bool.and_true,Bool.and_true]
theorem rF (l:List Int):Cv (l.map DF)=Da l:=by
 simp only [Cv,Da,List.length_map,List.all_map]
 congr 2
 funext v;exact fD v
theorem fH (ws:A4 (List Int)):AT (Cc ws)=BV ws:=by
 simp only [AT,BV,A4.all,Cc,rF]
theorem VV (i:Nat) (p:Bool) (ws:A4 (List Int)) (b0:ws.a0.length≤1048576) (b1:ws.a1.length≤1048576) (b2:ws.a2.length≤1048576) (b3:ws.a3.length≤1048576):Aa (Lv ctx (i+8)) 74 [eA p ws]=some (.tup [.agg [oWs (Fa ws).1.a0,oWs (Fa ws).1.a1,oWs (Fa ws).1.a2,oWs (Fa ws).1.a3],iV (Fa ws).2]):=by
 have key:=fun g hg hb o k q Q u w h1 kk d hk=>a9t i k p ws o g hg hb q Q u w h1 (ws.get g).length 0 kk d (by omega) hk
 have qm:=fun a b c d=>VX (i+(7 - (4+3))) a b c d false false false false (ws.a0.map DF) (ws.a1.map DF) (ws.a2.map DF) (ws.a3.map DF)
 have em:AT ⟨ws.a0.map DF,ws.a1.map DF,ws.a2.map DF,ws.a3.map DF⟩=BV ws:=fH ws
 rw [em] at qm
 have e:Fa ws=if BV ws=true then (Cc ws,0) else (⟨[],[],[],[]⟩,400):=rfl
 simp only [List.take_zero,List.map_nil,Int.natCast_zero] at key
 simp only [Nat.add_assoc,Nat.reduceAdd,Nat.reduceSub] at qm
 rw [e]
 refine Ac rfl (ws.a0.length+ws.a1.length+ws.a2.length+ws.a3.length+6) (by rfl) ?_
 delta c74
 cases p
 all_goals
  simp +contextual -dsimp -implicitDefEqProofs (maxSteps:=5000000) only [A4.set,A4.get,List.map_nil,gLs 2 [2,4,9,10],↓Ah (Rh.eq_1),go_sem,simprocAttr]
  refine key 0 (by simp) b0 ⟨[],[],[],[]⟩ _ _ _ _ _ ?_ _ false (by simp only [A4.get,simprocAttr];omega)
  intro d
  cases d
  all_goals
   simp +contextual -dsimp -implicitDefEqProofs (maxSteps:=5000000) only [A4.set,A4.get,List.map_nil,gLs 2 [2,4,9,10],↓Ah (Rh.eq_1),go_sem,simprocAttr]
   refine key 1 (by simp) b1 ⟨ws.a0.map DF,[],[],[]⟩ _ _ _ _ _ ?_ _ _ (by simp only [A4.get,simprocAttr];omega)
   intro d
   cases d
   all_goals
    simp +contextual -dsimp -implicitDefEqProofs (maxSteps:=5000000) only [A4.set,A4.get,List.map_nil,gLs 2 [2,4,9,10],↓Ah (Rh.eq_1),go_sem,simprocAttr]
    refine key 2 (by simp) b2 ⟨ws.a0.map DF,ws.a1.map DF,[],[]⟩ _ _ _ _ _ ?_ _ _ (by simp only [A4.get,simprocAttr];omega)
    intro d
    cases d
    all_goals
     simp +contextual -dsimp -implicitDefEqProofs (maxSteps:=5000000) only [A4.set,A4.get,List.map_nil,gLs 2 [2,4,9,10],↓Ah (Rh.eq_1),go_sem,simprocAttr]
     refine key 3 (by simp) b3 ⟨ws.a0.map DF,ws.a1.map DF,ws.a2.map DF,[]⟩ _ _ _ _ _ ?_ _ _ (by simp only [A4.get,simprocAttr];omega)
     intro d
     cases hv:BV ws
     all_goals
      rw [hv] at qm
      cases d
      all_goals
       simp +contextual -dsimp -implicitDefEqProofs (maxSteps:=5000000) only [A4.set,A4.get,List.map_nil,gLs 2 [2,4,9,10],↓Ah (Rh.eq_1),qm,go_sem,simprocAttr]
       first | rfl | done
theorem a2o (i:Nat) (p:Bool) (s:Bk) (hp:s.prog.length≤1048576):Aa (Lv ctx (i+6)) 75 [eSt p s]=some (.tup [oS (IN s).1,iV (IN s).2]):=by
 have h0:=Zb (i+0) p false s.id s.label s.clear s.prog (by simp only [BB];omega)
 have h1:((s.prog.length:Int)*32≤140737488355328)=True:=by simp only [eq_iff_iff,iff_true];omega
 have e:IN s=if CT s.id s.label s.clear s.prog=true then (Cb s,0) else (Cb ⟨0,0,0,[]⟩,1100):=rfl
 simp only [Nat.add_assoc,Nat.reduceAdd] at h0
 simp only [eSt]
 cases hb:CT s.id s.label s.clear s.prog
 all_goals
  rw [hb] at e h0
  rw [e]
  refine Ac rfl 0 (by rfl) ?_
  delta c75
  cases p<;>simp +contextual -dsimp -implicitDefEqProofs (maxSteps:=5000000) only [h0,h1,Cb,oS,go_sem,simprocAttr]<;>rfl
theorem kM (i k:Nat) (p:Bool) (s:Aq) (hs:CK s) (e:Int) (he0:e=0∨e=400) (A:A4 (List Ap)) (q:Out→St→Option Ans) (Q:V→Hp→Nat→Prop)
  (u:Dum (fun s q=>evC ctx (Lv ctx (i+19)) (Aa (Lv ctx (i+19))) k No s (Al [2,5,6,22,23,24] q))) (w:Dum q)
  (hend:(e=0∨s.starts=[])→s.starts.all Cf=true→Fin (q (.exit 0) ⟨Ae [2,5,6] [.ptr 0 0 0,iV e,.ptr 6 0 0],hNw A s.ceil ((s.starts.map Cb).map oS),7⟩) Q)
  (hbad:∀ e' els x7 x8 x9 x10 x11,decide (e'=0)=false→(e≠0∨s.starts.all Cf=false)→Fin (q (.exit 0) ⟨Ae [2,5,6] [.ptr 0 0 0,iV e',.ptr 6 0 0],pO (pO (pO (pO (pO (hNw A s.ceil els) 7 x7) 8 x8) 9 x9) 10 x10) 11 x11,12⟩) Q) :
  ∀ (suf pre:List Bk) (kk:Nat),s.starts=pre++suf→suf.length<kk→(∀ x∈pre,Cf x=true)→(e=0∨pre=[]) →
  GL 7 [2,5,6,22,23,24] (fun s q=>evC ctx (Lv ctx (i+19)) (Aa (Lv ctx (i+19))) k No s (Al [2,5,6,22,23,24] q)) q kk ⟨Ae [2,5,6,22,23,24] [.ptr 0 0 0,iV e,.ptr 6 0 0,Hw p s.starts,iV s.starts.length,iV pre.length],hNw A s.ceil ((pre.map Cb).map oS),7⟩ Q u w
 | [],pre,kk,hxs,hk,hall,hpe=>by
  obtain ⟨kk,rfl⟩:∃ m,kk=m+1:=⟨kk - 1,by simp at hk;omega⟩
  have h1:decide ((pre.length:Int)<s.starts.length)=false:=by simp [hxs]
  have h2:s.starts=pre:=by simp [hxs]
  have he:=hend (by rw [h2];exact hpe) (by rw [h2,List.all_eq_true];exact hall)
  rw [h2] at he
  simp +contextual -dsimp -implicitDefEqProofs (maxSteps:=5000000) only [gLs,↓Ah (No.eq_1),h1,go_sem,simprocAttr]
  exact he
 | a::suf,pre,kk,hxs,hk,hall,hpe=>by
  obtain ⟨kk,rfl⟩:∃ m,kk=m+1:=⟨kk - 1,by simp at hk;omega⟩
  have hl:pre.length<s.starts.length:=by simp [hxs]
  have h2:((pre.length:Int)<s.starts.length)=True:=by simpa using hl
  have h3:(0≤(pre.length:Int))=True:=by simp
  have h4:=wrN pre.length (by have:=hs.bst;simp only [BB];omega)
  have hg:s.starts[pre.length]?=some a:=by simp [hxs]
  have h5:(((pre.length+1:Nat):Int)*184≤140737488355328)=True:=by
   have:=hs.bst
   simp only [eq_iff_iff,iff_true]
   omega
  have hr:=a2o (i+13) p a (hs.p a (by simp [hxs]))
  rcases he0 with rfl | rfl
  ·cases hb:Cf a
   ·have e0:IN a=(Cb ⟨0,0,0,[]⟩,1100):=by unfold IN;rw [hb];rfl
    rw [e0] at hr
    simp only [Nat.add_assoc,Nat.reduceAdd,Cb,oS,eSt,List.map_nil] at hr
    have he:s.starts.all Cf=false:=by rw [List.all_eq_false];exact ⟨a,by simp [hxs],by simp [hb]⟩
    simp +contextual -dsimp -implicitDefEqProofs (maxSteps:=5000000) only [gLs,↓Ah (No.eq_1),h2,h3,hg,hr,eSt,go_sem,simprocAttr]
    exact hbad 1100 _ _ _ _ _ _ (by decide) (.inr he)
   ·have e0:IN a=(Cb a,0):=by unfold IN;rw [hb];rfl
    rw [e0] at hr
    have ih:=kM i k p s hs 0 (.inl rfl) A q Q u w hend hbad suf (pre++[a]) kk (by simp [hxs]) (by simpa using hk) (by
     intro x hx
     rcases List.mem_append.1 hx with h | h
     ·exact hall x h
     ·simp only [List.mem_singleton] at h;subst h;exact hb) (.inl rfl)
    simp only [Ag,List.map_append,List.map_cons,List.map_nil,oS,Cb] at ih
    simp only [Nat.add_assoc,Nat.reduceAdd,eSt,oS,Cb] at hr
    simp +contextual -dsimp -implicitDefEqProofs (maxSteps:=5000000) only [gLs,↓Ah (No.eq_1),h2,h3,h4,h5,hg,hr,eSt,oS,Cb,go_sem,simprocAttr]
    obtain ⟨kk,rfl⟩:∃ m,kk=m+1:=⟨kk - 1,by simp at hk;omega⟩
    simp +contextual -dsimp -implicitDefEqProofs (maxSteps:=5000000) only [gLs,iZ,go_sem,simprocAttr] at ih ⊢
    exact ih
  ·obtain rfl:pre=[]:=hpe.resolve_left (by decide)
   simp only [List.length_nil,Int.natCast_zero] at h2 hg
   simp only [List.length_nil,List.map_nil,Int.natCast_zero]
   cases hb:Cf a
   ·have e0:IN a=(Cb ⟨0,0,0,[]⟩,1100):=by unfold IN;rw [hb];rfl
    rw [e0] at hr
    simp only [Nat.add_assoc,Nat.reduceAdd,Cb,oS,eSt,List.map_nil] at hr
    simp +contextual -dsimp -implicitDefEqProofs (maxSteps:=5000000) only [gLs,↓Ah (No.eq_1),h2,h3,hg,hr,eSt,go_sem,simprocAttr]
    exact hbad 1100 _ _ _ _ _ _ (by decide) (.inl (by decide))
   ·have e0:IN a=(Cb a,0):=by unfold IN;rw [hb];rfl
    rw [e0] at hr
    simp only [Nat.add_assoc,Nat.reduceAdd,Cb,oS,eSt,List.map_nil] at hr
    simp +contextual -dsimp -implicitDefEqProofs (maxSteps:=5000000) only [gLs,↓Ah (No.eq_1),h2,h3,hg,hr,eSt,go_sem,simprocAttr]
    exact hbad 400 _ _ _ _ _ _ (by decide) (.inl (by decide))
theorem gJ (i:Nat) (p:Bool) (s:Aq) (hs:CK s):Aa (Lv ctx (i+20)) 33 [eSc p s]=some (.tup [oM (DG s).1,iV (DG s).2]):=by
 have h0:=VV (i+(19 - 8)) p s.words hs.b0 hs.b1 hs.b2 hs.b3
 have hM:=Zc (i+0) false (AW s) (IW hs)
 simp only [Nat.add_assoc,Nat.reduceAdd,Nat.reduceSub] at h0 hM
 have he0:(Fa s.words).2=0∨(Fa s.words).2=400:=by unfold Fa;split<;>simp
 refine Ac rfl (s.starts.length+1) (by rfl) ?_
 delta c33
 cases p
 all_goals
  simp +contextual -dsimp -implicitDefEqProofs (maxSteps:=5000000) only [h0,go_sem,simprocAttr]
  refine kM i _ _ s hs (Fa s.words).2 he0 (Fa s.words).1 _ _ _ _ ?ha ?hb s.starts [] _ (by simp) (by omega) (by simp) (.inr rfl)
  case hb =>
   intro e' els x7 x8 x9 x10 x11 hz hb
   rw [Kc (by
    rcases hb with hb | hb
    ·left
     cases hv:BV s.words
     ·rfl
     ·exact absurd (by unfold Fa;rw [hv];rfl) hb
    ·exact .inr (.inl hb)),Ay]
   simp +contextual -dsimp -implicitDefEqProofs (maxSteps:=5000000) only [hz,go_sem,simprocAttr]
  case ha =>
   intro _ hb
   cases hv:BV s.words
   ·have e:Fa s.words=(⟨[],[],[],[]⟩,400):=by unfold Fa;rw [hv];rfl
    rw [e,Kc (.inl hv),Ay]
    simp +contextual -dsimp -implicitDefEqProofs (maxSteps:=5000000) only [go_sem,simprocAttr]
   ·have e:Fa s.words=(Cc s.words,0):=by unfold Fa;rw [hv];rfl
    rw [e]
    simp only [AW,Cc,eM,cM,eWs,eSs,eEs,List.map_nil] at hM
    cases hm:CN (AW s)
    ·rw [Kc (.inr (.inr hm)),Ay]
     simp only [AW,Cc] at hm
     rw [hm] at hM
     simp +contextual -dsimp -implicitDefEqProofs (maxSteps:=5000000) only [hM,Cc,go_sem,simprocAttr]
    ·rw [Zt hv hb hm]
     simp only [AW,Cc] at hm
     rw [hm] at hM
     simp only [AW,Cc,oM,cO,oWs,oSs,oEs,List.map_nil]
     simp +contextual -dsimp -implicitDefEqProofs (maxSteps:=5000000) only [hM,Cc,go_sem,simprocAttr]
end Ve
