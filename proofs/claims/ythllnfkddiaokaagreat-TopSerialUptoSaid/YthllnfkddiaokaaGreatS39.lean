/- The reference's new arenas, sessions, machines. -/
import Derived.Test.YthllnfkddiaokaaGreatVeSB
import Derived.Test.YthllnfkddiaokaaGreatVeP
set_option linter.all false
set_option linter.unusedSectionVars false
namespace Ve
open Go Ve.Ab
set_option maxHeartbeats 16000000
set_option maxRecDepth 10000
abbrev cN (p:Bool) (ws:A4 (List Int)):List V:=[eNs p ws.a0,eNs p ws.a1,eNs p ws.a2,eNs p ws.a3]
abbrev hA (o:A4 (List Aj)) (d:Bool):Hp:=pO (pO Ag 0 (some ⟨4,[.agg [.own 3 [],.own 3 [],.own 3 [],.own 3 []]],false⟩)) 1 (some ⟨4,[.agg [oWs o.a0,oWs o.a1,oWs o.a2,oWs o.a3]],d⟩)
theorem a6q (i k:Nat) (p:Bool) (ws:A4 (List Int)) (o:A4 (List Aj)) (g:Int) (hg:g=0∨g=1∨g=2∨g=3) (q:Out→St→Option Ans) (Q:V→Hp→Nat→Prop)
  (u:Dum (fun s q=>evC ctx (Lv ctx (i+2)) (Aa (Lv ctx (i+2))) k PV s (As [1,2,4,5,6] q))) (w:Dum q)
  (hend:∀ d,Cq (ws.get g)=true→Fin (q (.exit 2) ⟨Ad [1,2,4,5] [.ip p (cN p ws) 0,.ptr 0 0 0,.ptr 1 0 0,iV g],hA (o.set g ((ws.get g).map Dl)) d,2⟩) Q)
  (hbad:∀ o' d,Cq (ws.get g)=false→Fin (q .ret ⟨Ad [2,3] [.ptr 0 0 0,iV 400],hA o' d,2⟩) Q) :
  ∀ (n j kk:Nat) (d:Bool),j+n=(ws.get g).length→n<kk→j≤4→(∀ v∈(ws.get g).take j,inR v 255=true) →
  GL 2 [1,2,4,5,6] (fun s q=>evC ctx (Lv ctx (i+2)) (Aa (Lv ctx (i+2))) k PV s (As [1,2,4,5,6] q)) q kk ⟨Ad [1,2,4,5,6] [.ip p (cN p ws) 0,.ptr 0 0 0,.ptr 1 0 0,iV g,iV j],hA (o.set g (((ws.get g).take j).map Dl)) d,2⟩ Q u w:=by
 intro n
 induction n with
 | zero =>
  intro j kk d hj hk h4 hall
  obtain ⟨kk,rfl⟩:∃ n,kk=n+1:=⟨kk - 1,by omega⟩
  have hj':j=(ws.get g).length:=by omega
  subst hj'
  rw [List.take_length] at hall ⊢
  have l0:decide (((ws.get g).length:Int)<((ws.get g).length:Int))=false:=by simp
  have he:=hend d (by simp only [Cq,Bool.and_eq_true,decide_eq_true_eq,List.all_eq_true];exact ⟨h4,hall⟩)
  clear hend hbad hall
  rcases hg with rfl | rfl | rfl | rfl
  all_goals
   simp only [A4.get,A4.set,simprocAttr] at l0 he ⊢
   cases d
   all_goals
    simp +contextual -dsimp -implicitDefEqProofs (maxSteps:=5000000) only [gLs,↓Ai (PV.eq_1),l0,go_sem,simprocAttr]
    exact he
 | succ n ih =>
  intro j kk d hj hk h4 hall
  obtain ⟨kk,rfl⟩:∃ n,kk=n+1:=⟨kk - 1,by omega⟩
  have hjl:j<(ws.get g).length:=by omega
  obtain ⟨x,hx⟩:∃ x,(ws.get g)[j]?=some x:=⟨_,List.getElem?_eq_getElem hjl⟩
  have hmem:x∈ws.get g:=List.mem_of_getElem? hx
  have l1:((j:Int)<((ws.get g).length:Int))=True:=by simpa using hjl
  have l2:(0≤(j:Int))=True:=by simp
  by_cases h4':j=4
  ·have he:=hbad (o.set g (((ws.get g).take j).map Dl)) d (by simp only [Cq,Bool.and_eq_false_iff,decide_eq_false_iff_not];left;omega)
   have l3:decide ((4:Int)≤(j:Int))=true:=by simp;omega
   clear hend hbad hall ih
   rcases hg with rfl | rfl | rfl | rfl
   all_goals
    simp only [A4.get,A4.set,simprocAttr] at hx l1 he ⊢
    cases d
    all_goals
     simp +contextual -dsimp -implicitDefEqProofs (maxSteps:=5000000) only [gLs,↓Ai (PV.eq_1),l1,l2,l3,go_sem,simprocAttr]
     exact he
  ·have l3:decide ((4:Int)≤(j:Int))=false:=by simp;omega
   cases hv:inR x 255
   ·have he:=hbad (o.set g (((ws.get g).take j).map Dl)) d (by
     simp only [Cq,Bool.and_eq_false_iff];right
     rw [List.all_eq_false];exact ⟨x,hmem,by simp [hv]⟩)
    clear hend hbad hall ih
    rcases hg with rfl | rfl | rfl | rfl
    all_goals
     simp only [A4.get,A4.set,simprocAttr] at hx l1 he ⊢
     cases d
     all_goals
      simp +contextual -dsimp -implicitDefEqProofs (maxSteps:=5000000) only [gLs,↓Ai (PV.eq_1),l1,l2,l3,hx,hv,go_sem,simprocAttr]
      exact he
   ·have ht:(ws.get g).take (j+1)=(ws.get g).take j++[x]:=by rw [List.take_add_one,hx];rfl
    have ih:=ih (j+1) kk true (by omega) (by omega) (by omega) (by
     intro v hv'
     rw [ht] at hv'
     rcases List.mem_append.1 hv' with h | h
     ·exact hall v h
     ·simp only [List.mem_singleton] at h;subst h;exact hv)
    have l5:=wrN j (by simp only [BB];omega)
    have l6:(((((ws.get g).take j).length+1:Nat):Int)*24≤140737488355328)=True:=by simp only [List.length_take,eq_iff_iff,iff_true];omega
    rw [ht] at ih
    clear hend hbad hall
    rcases hg with rfl | rfl | rfl | rfl
    all_goals
     simp only [A4.get,A4.set,hA,oWs,List.map_append,List.map_cons,List.map_nil,Dl,eW,simprocAttr] at hx l1 l6 ih ⊢
     cases d
     all_goals
      simp +contextual -dsimp -implicitDefEqProofs (maxSteps:=5000000) only [gLs,↓Ai (PV.eq_1),l1,l2,l3,hx,hv,l5,l6,go_sem,simprocAttr]
      exact (Av (by rfl)).mpr ih
abbrev eA (p:Bool) (ws:A4 (List Int)):V:=.agg (cN p ws)
theorem OU (i:Nat) (p:Bool) (ws:A4 (List Int)):Aa (Lv ctx (i+3)) 93 [eA p ws]=some (.tup [.agg [oWs (CI ws).1.a0,oWs (CI ws).1.a1,oWs (CI ws).1.a2,oWs (CI ws).1.a3],iV (CI ws).2]):=by
 have key:=fun g hg o k q Q u w h1 h2 kk d hk=>a6q i k p ws o g hg q Q u w h1 h2 (ws.get g).length 0 kk d (by omega) hk (by omega) (by simp)
 have e:CI ws=if Bw ws=true then (Bf ws,0) else (⟨[],[],[],[]⟩,400):=rfl
 simp only [List.take_zero,List.map_nil,Int.natCast_zero] at key
 refine Af rfl (ws.a0.length+ws.a1.length+ws.a2.length+ws.a3.length+6) (by rfl) ?_
 delta c93
 have fin:∀ h:Cq ws.a0=true∧Cq ws.a1=true∧Cq ws.a2=true∧Cq ws.a3=true,CI ws=(Bf ws,0):=by
  intro h;rw [e];simp only [Bw,A4.all,h.1,h.2.1,h.2.2.1,h.2.2.2];rfl
 have bad:(Cq ws.a0=false∨Cq ws.a1=false∨Cq ws.a2=false∨Cq ws.a3=false)→CI ws=(⟨[],[],[],[]⟩,400):=by
  intro h;rw [e];rcases h with h | h | h | h<;>simp [Bw,A4.all,h]
 simp +contextual -dsimp -implicitDefEqProofs (maxSteps:=5000000) only [A4.set,A4.get,List.map_nil,gLs 2 [1,2,4,5],↓Ai (RH.eq_1),go_sem,simprocAttr]
 refine key 0 (by simp) ⟨[],[],[],[]⟩ _ _ _ _ _ ?ha ?hb _ false (by simp only [A4.get,simprocAttr];omega)
 case hb=>intro o' d hr;rw [bad (.inl hr)];cases d<;>simp +contextual -dsimp -implicitDefEqProofs (maxSteps:=5000000) only [go_sem,simprocAttr]<;>rfl
 case ha =>
  intro d h0
  cases d
  all_goals
   simp +contextual -dsimp -implicitDefEqProofs (maxSteps:=5000000) only [A4.set,A4.get,List.map_nil,gLs 2 [1,2,4,5],↓Ai (RH.eq_1),go_sem,simprocAttr]
   refine key 1 (by simp) ⟨ws.a0.map Dl,[],[],[]⟩ _ _ _ _ _ ?ha ?hb _ _ (by simp only [A4.get,simprocAttr];omega)
   case hb=>intro o' d hr;rw [bad (.inr (.inl hr))];cases d<;>simp +contextual -dsimp -implicitDefEqProofs (maxSteps:=5000000) only [go_sem,simprocAttr]<;>rfl
   case ha =>
    intro d h1
    cases d
    all_goals
     simp +contextual -dsimp -implicitDefEqProofs (maxSteps:=5000000) only [A4.set,A4.get,List.map_nil,gLs 2 [1,2,4,5],↓Ai (RH.eq_1),go_sem,simprocAttr]
     refine key 2 (by simp) ⟨ws.a0.map Dl,ws.a1.map Dl,[],[]⟩ _ _ _ _ _ ?ha ?hb _ _ (by simp only [A4.get,simprocAttr];omega)
     case hb=>intro o' d hr;rw [bad (.inr (.inr (.inl hr)))];cases d<;>simp +contextual -dsimp -implicitDefEqProofs (maxSteps:=5000000) only [go_sem,simprocAttr]<;>rfl
     case ha =>
      intro d h2
      cases d
      all_goals
       simp +contextual -dsimp -implicitDefEqProofs (maxSteps:=5000000) only [A4.set,A4.get,List.map_nil,gLs 2 [1,2,4,5],↓Ai (RH.eq_1),go_sem,simprocAttr]
       refine key 3 (by simp) ⟨ws.a0.map Dl,ws.a1.map Dl,ws.a2.map Dl,[]⟩ _ _ _ _ _ ?ha ?hb _ _ (by simp only [A4.get,simprocAttr];omega)
       case hb=>intro o' d hr;rw [bad (.inr (.inr (.inr hr)))];cases d<;>simp +contextual -dsimp -implicitDefEqProofs (maxSteps:=5000000) only [go_sem,simprocAttr]<;>rfl
       case ha =>
        intro d h3
        cases d
        all_goals
         rw [fin ⟨h0,h1,h2,h3⟩]
         simp +contextual -dsimp -implicitDefEqProofs (maxSteps:=5000000) only [A4.set,A4.get,List.map_nil,gLs 2 [1,2,4,5],↓Ai (RH.eq_1),go_sem,simprocAttr]
         rfl
theorem jJ (i:Nat) (p:Bool) (s:AV) (hp:s.prog.length≤1048576):Aa (Lv ctx (i+6)) 94 [eSt p s]=some (.tup [oS (Fa s).1,iV (Fa s).2]):=by
 have h0:=YH (i+0) p false s.id s.label s.clear s.prog (by simp only [BB];omega)
 have h1:((s.prog.length:Int)*32≤140737488355328)=True:=by simp only [eq_iff_iff,iff_true];omega
 have e:Fa s=if Dk s.id s.label s.clear s.prog=true then (AX s,0) else (AX ⟨0,0,0,[]⟩,1100):=rfl
 simp only [Nat.add_assoc,Nat.reduceAdd] at h0
 simp only [eSt]
 cases hb:Dk s.id s.label s.clear s.prog
 all_goals
  rw [hb] at e h0
  rw [e]
  refine Af rfl 0 (by rfl) ?_
  delta c94
  cases p<;>simp +contextual -dsimp -implicitDefEqProofs (maxSteps:=5000000) only [h0,h1,AX,oS,go_sem,simprocAttr]<;>rfl
abbrev hNw (A:A4 (List Aj)) (c:Int) (els:List V):Hp :=
 pO (pO (pO (pO (pO (pO (pO Ag 0 (some ⟨11,[.agg [.own 3 [],.own 3 [],.own 3 [],.own 3 [],iZ,iZ,iZ,iZ,iZ,.own 17 [],.own 4 []]],false⟩)) 1 (some ⟨3,A.a0.map eW,false⟩)) 2 (some ⟨3,A.a1.map eW,false⟩)) 3 (some ⟨3,A.a2.map eW,false⟩)) 4 (some ⟨3,A.a3.map eW,false⟩))
  5 (some ⟨4,[.agg [.sl 1,.sl 2,.sl 3,.sl 4]],true⟩)) 6 (some ⟨11,[.agg [.sl 1,.sl 2,.sl 3,.sl 4,iZ,iZ,iZ,iZ,iV c,.own 17 els,.own 4 []]],true⟩)
theorem lW (i k:Nat) (p:Bool) (s:Ap) (hs:Cj s) (e:Int) (A:A4 (List Aj)) (q:Out→St→Option Ans) (Q:V→Hp→Nat→Prop)
  (u:Dum (fun s q=>evC ctx (Lv ctx (i+7)) (Aa (Lv ctx (i+7))) k JZ s (As [1,2,5,6,7] q))) (w:Dum q)
  (hend:s.starts.all Bz=true→Fin (q (.exit 0) ⟨Ad [2,5,6] [.ptr 0 0 0,iV e,.ptr 6 0 0],hNw A s.ceil ((s.starts.map AX).map oS),7⟩) Q)
  (hbad:∀ els x7 x8 x9 x10,s.starts.all Bz=false→Fin (q .ret ⟨Ad [2,3] [.ptr 0 0 0,iV 1200],pO (pO (pO (pO (hNw A s.ceil els) 7 x7) 8 x8) 9 x9) 10 x10,11⟩) Q) :
  ∀ (suf pre:List AV) (kk:Nat),s.starts=pre++suf→suf.length<kk→(∀ x∈pre,Bz x=true) →
  GL 7 [1,2,5,6,7] (fun s q=>evC ctx (Lv ctx (i+7)) (Aa (Lv ctx (i+7))) k JZ s (As [1,2,5,6,7] q)) q kk ⟨Ad [1,2,5,6,7] [.ip p (cSc p s) 0,.ptr 0 0 0,iV e,.ptr 6 0 0,iV pre.length],hNw A s.ceil ((pre.map AX).map oS),7⟩ Q u w
 | [],pre,kk,hxs,hk,hall=>by
  obtain ⟨kk,rfl⟩:∃ m,kk=m+1:=⟨kk - 1,by simp at hk;omega⟩
  have h1:decide ((pre.length:Int)<s.starts.length)=false:=by simp [hxs]
  have h2:s.starts=pre:=by simp [hxs]
  have he:=hend (by rw [h2,List.all_eq_true];exact hall)
  rw [h2] at he
  simp +contextual -dsimp -implicitDefEqProofs (maxSteps:=5000000) only [gLs,↓Ai (JZ.eq_1),h1,go_sem,simprocAttr]
  exact he
 | a::suf,pre,kk,hxs,hk,hall=>by
  obtain ⟨kk,rfl⟩:∃ m,kk=m+1:=⟨kk - 1,by simp at hk;omega⟩
  have hl:pre.length<s.starts.length:=by simp [hxs]
  have h2:((pre.length:Int)<s.starts.length)=True:=by simpa using hl
  have h3:(0≤(pre.length:Int))=True:=by simp
  have h4:=wrN pre.length (by have:=hs.bst;simp only [BB];omega)
  have hg:s.starts[pre.length]?=some a:=by simp [hxs]
  have h5:(((pre.length+1:Nat):Int)*184≤140737488355328)=True:=by
   have:=hs.bst
   simp only [eq_iff_iff,iff_true]
   omega
  have hr:=jJ (i+1) p a (hs.p a (by simp [hxs]))
  cases hb:Bz a
  ·have e0:Fa a=(AX ⟨0,0,0,[]⟩,1100):=by unfold Fa;rw [hb];rfl
   rw [e0] at hr
   simp only [Nat.add_assoc,Nat.reduceAdd,AX,oS,eSt,List.map_nil] at hr
   have he:s.starts.all Bz=false:=by rw [List.all_eq_false];exact ⟨a,by simp [hxs],by simp [hb]⟩
   simp +contextual -dsimp -implicitDefEqProofs (maxSteps:=5000000) only [gLs,↓Ai (JZ.eq_1),h2,h3,hg,hr,eSt,go_sem,simprocAttr]
   exact hbad _ _ _ _ _ he
  ·have e0:Fa a=(AX a,0):=by unfold Fa;rw [hb];rfl
   rw [e0] at hr
   have ih:=lW i k p s hs e A q Q u w hend hbad suf (pre++[a]) kk (by simp [hxs]) (by simpa using hk) (by
    intro x hx
    rcases List.mem_append.1 hx with h | h
    ·exact hall x h
    ·simp only [List.mem_singleton] at h;subst h;exact hb)
   simp only [Ah,List.map_append,List.map_cons,List.map_nil,oS,AX] at ih
   simp only [Nat.add_assoc,Nat.reduceAdd,eSt,oS,AX] at hr
   simp +contextual -dsimp -implicitDefEqProofs (maxSteps:=5000000) only [gLs,↓Ai (JZ.eq_1),h2,h3,h4,h5,hg,hr,eSt,oS,AX,go_sem,simprocAttr]
   obtain ⟨kk,rfl⟩:∃ m,kk=m+1:=⟨kk - 1,by simp at hk;omega⟩
   simp +contextual -dsimp -implicitDefEqProofs (maxSteps:=5000000) only [gLs,iZ,go_sem,simprocAttr] at ih ⊢
   exact ih
theorem Oj {s:Ap} (h1:Bw s.words=true) (h2:s.starts.all Bz=true) (h3:De (AC s)=true):Ci s=(AC s,0):=by unfold Ci;rw [h1,h2,h3];rfl
theorem EJ {s:Ap} (h:Bw s.words=false∨s.starts.all Bz=false∨De (AC s)=false):Ci s=(AA,1200):=by
 unfold Ci;rcases h with h | h | h<;>simp [h]
theorem a0w (i:Nat) (p:Bool) (s:Ap) (hs:Cj s):Aa (Lv ctx (i+8)) 45 [eSc p s]=some (.tup [oM (Ci s).1,iV (Ci s).2]):=by
 have h0:=OU (i+4) p s.words
 have hM:=yD (i+0) false (AC s) (Et hs)
 simp only [Nat.add_assoc,Nat.reduceAdd] at h0 hM
 refine Af rfl (s.starts.length+1) (by rfl) ?_
 delta c45
 cases p
 all_goals
  simp +contextual -dsimp -implicitDefEqProofs (maxSteps:=5000000) only [h0,go_sem,simprocAttr]
  refine lW i _ _ s hs (CI s.words).2 (CI s.words).1 _ _ _ _ ?ha ?hb s.starts [] _ (by simp) (by omega) (by simp)
  case hb =>
   intro els x7 x8 x9 x10 hb
   rw [EJ (.inr (.inl hb)),Bh]
   simp +contextual -dsimp -implicitDefEqProofs (maxSteps:=5000000) only [go_sem,simprocAttr]
  case ha =>
   intro hb
   cases hv:Bw s.words
   ·have e:CI s.words=(⟨[],[],[],[]⟩,400):=by unfold CI;rw [hv];rfl
    rw [e,EJ (.inl hv),Bh]
    simp +contextual -dsimp -implicitDefEqProofs (maxSteps:=5000000) only [go_sem,simprocAttr]
   ·have e:CI s.words=(Bf s.words,0):=by unfold CI;rw [hv];rfl
    rw [e]
    simp only [AC,Bf,eM,cM,eWs,eSs,eEs,List.map_nil] at hM
    cases hm:De (AC s)
    ·rw [EJ (.inr (.inr hm)),Bh]
     simp only [AC,Bf] at hm
     rw [hm] at hM
     simp +contextual -dsimp -implicitDefEqProofs (maxSteps:=5000000) only [hM,Bf,go_sem,simprocAttr]
    ·rw [Oj hv hb hm]
     simp only [AC,Bf] at hm
     rw [hm] at hM
     simp only [AC,Bf,oM,cO,oWs,oSs,oEs,List.map_nil]
     simp +contextual -dsimp -implicitDefEqProofs (maxSteps:=5000000) only [hM,Bf,go_sem,simprocAttr]
end Ve
