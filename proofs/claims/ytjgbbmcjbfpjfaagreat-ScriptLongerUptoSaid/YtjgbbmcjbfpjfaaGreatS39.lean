/- The reference's new arenas, sessions, machines. -/
import Derived.Test.YtjgbbmcjbfpjfaaGreatVeSC
import Derived.Test.YtjgbbmcjbfpjfaaGreatVeSB
import Derived.Test.YtjgbbmcjbfpjfaaGreatVeP
set_option linter.all false
set_option linter.unusedSectionVars false
namespace Ve
open Go Ve.Ab
set_option maxHeartbeats 16000000
set_option maxRecDepth 10000
abbrev cN (p:Bool) (ws:A4 (List Int)):List V:=[eNs p ws.a0,eNs p ws.a1,eNs p ws.a2,eNs p ws.a3]
abbrev hA (o:A4 (List Ap)) (d:Bool):Hp:=pO (pO Af 0 (some ⟨4,[.agg [.own 3 [],.own 3 [],.own 3 [],.own 3 []]],false⟩)) 1 (some ⟨4,[.agg [oWs o.a0,oWs o.a1,oWs o.a2,oWs o.a3]],d⟩)
theorem a9u (i k:Nat) (p:Bool) (ws:A4 (List Int)) (o:A4 (List Ap)) (g:Int) (hg:g=0∨g=1∨g=2∨g=3) (q:Out→St→Option Ans) (Q:V→Hp→Nat→Prop)
  (u:Dum (fun s q=>evC ctx (Lv ctx (i+2)) (Aa (Lv ctx (i+2))) k Pn s (Al [1,2,4,5,6] q))) (w:Dum q)
  (hend:∀ d,Da (ws.get g)=true→Fin (q (.exit 2) ⟨Ae [1,2,4,5] [.ip p (cN p ws) 0,.ptr 0 0 0,.ptr 1 0 0,iV g],hA (o.set g ((ws.get g).map DF)) d,2⟩) Q)
  (hbad:∀ o' d,Da (ws.get g)=false→Fin (q .ret ⟨Ae [2,3] [.ptr 0 0 0,iV 400],hA o' d,2⟩) Q) :
  ∀ (n j kk:Nat) (d:Bool),j+n=(ws.get g).length→n<kk→j≤4→(∀ v∈(ws.get g).take j,inR v 255=true) →
  GL 2 [1,2,4,5,6] (fun s q=>evC ctx (Lv ctx (i+2)) (Aa (Lv ctx (i+2))) k Pn s (Al [1,2,4,5,6] q)) q kk ⟨Ae [1,2,4,5,6] [.ip p (cN p ws) 0,.ptr 0 0 0,.ptr 1 0 0,iV g,iV j],hA (o.set g (((ws.get g).take j).map DF)) d,2⟩ Q u w:=by
 intro n
 induction n with
 | zero =>
  intro j kk d hj hk h4 hall
  obtain ⟨kk,rfl⟩:∃ n,kk=n+1:=⟨kk - 1,by omega⟩
  have hj':j=(ws.get g).length:=by omega
  subst hj'
  rw [List.take_length] at hall ⊢
  have l0:decide (((ws.get g).length:Int)<((ws.get g).length:Int))=false:=by simp
  have he:=hend d (by simp only [Da,Bool.and_eq_true,decide_eq_true_eq,List.all_eq_true];exact ⟨h4,hall⟩)
  clear hend hbad hall
  rcases hg with rfl | rfl | rfl | rfl
  all_goals
   simp only [A4.get,A4.set,simprocAttr] at l0 he ⊢
   cases d
   all_goals
    simp +contextual -dsimp -implicitDefEqProofs (maxSteps:=5000000) only [gLs,↓Ah (Pn.eq_1),l0,go_sem,simprocAttr]
    exact he
 | succ n ih =>
  intro j kk d hj hk h4 hall
  obtain ⟨kk,rfl⟩:∃ n,kk=n+1:=⟨kk - 1,by omega⟩
  have hjl:j<(ws.get g).length:=by omega
  obtain ⟨x,hx⟩:∃ x,(ws.get g)[j]?=some x:=⟨_,List.getElem?_eq_getElem hjl⟩
  have hmem:x∈ws.get g:=List.mem_of_getElem? hx
  have l1:((j:Int)<((ws.get g).length:Int))=True:=by simpa using hjl
  have l2:(0≤(j:Int))=True:=by simp
  by_cases h4':j=4
  ·have he:=hbad (o.set g (((ws.get g).take j).map DF)) d (by simp only [Da,Bool.and_eq_false_iff,decide_eq_false_iff_not];left;omega)
   have l3:decide ((4:Int)≤(j:Int))=true:=by simp;omega
   clear hend hbad hall ih
   rcases hg with rfl | rfl | rfl | rfl
   all_goals
    simp only [A4.get,A4.set,simprocAttr] at hx l1 he ⊢
    cases d
    all_goals
     simp +contextual -dsimp -implicitDefEqProofs (maxSteps:=5000000) only [gLs,↓Ah (Pn.eq_1),l1,l2,l3,go_sem,simprocAttr]
     exact he
  ·have l3:decide ((4:Int)≤(j:Int))=false:=by simp;omega
   cases hv:inR x 255
   ·have he:=hbad (o.set g (((ws.get g).take j).map DF)) d (by
     simp only [Da,Bool.and_eq_false_iff];right
     rw [List.all_eq_false];exact ⟨x,hmem,by simp [hv]⟩)
    clear hend hbad hall ih
    rcases hg with rfl | rfl | rfl | rfl
    all_goals
     simp only [A4.get,A4.set,simprocAttr] at hx l1 he ⊢
     cases d
     all_goals
      simp +contextual -dsimp -implicitDefEqProofs (maxSteps:=5000000) only [gLs,↓Ah (Pn.eq_1),l1,l2,l3,hx,hv,go_sem,simprocAttr]
      exact he
   ·have ht:(ws.get g).take (j+1)=(ws.get g).take j++[x]:=by rw [List.take_add_one,hx];rfl
    have ih:=ih (j+1) kk true (by omega) (by omega) (by omega) (by
     intro v hv'
     rw [ht] at hv'
     rcases List.mem_append.1 hv' with h | h
     ·exact hall v h
     ·simp only [List.mem_singleton] at h;subst h;exact hv)
    have l5:=wrN j (by simp only [BB];omega)
    have l6:(((((ws.get g).take j).length+1:Nat):Int)*24≤140737488355328)=True:=by simp only [List.length_take,eq_iff_iff,iff_true];omega
    rw [ht] at ih
    clear hend hbad hall
    rcases hg with rfl | rfl | rfl | rfl
    all_goals
     simp only [A4.get,A4.set,hA,oWs,List.map_append,List.map_cons,List.map_nil,DF,eW,simprocAttr] at hx l1 l6 ih ⊢
     cases d
     all_goals
      simp +contextual -dsimp -implicitDefEqProofs (maxSteps:=5000000) only [gLs,↓Ah (Pn.eq_1),l1,l2,l3,hx,hv,l5,l6,go_sem,simprocAttr]
      exact (AA (by rfl)).mpr ih
abbrev eA (p:Bool) (ws:A4 (List Int)):V:=.agg (cN p ws)
theorem Wk (i:Nat) (p:Bool) (ws:A4 (List Int)):Aa (Lv ctx (i+3)) 78 [eA p ws]=some (.tup [.agg [oWs (Fa ws).1.a0,oWs (Fa ws).1.a1,oWs (Fa ws).1.a2,oWs (Fa ws).1.a3],iV (Fa ws).2]):=by
 have key:=fun g hg o k q Q u w h1 h2 kk d hk=>a9u i k p ws o g hg q Q u w h1 h2 (ws.get g).length 0 kk d (by omega) hk (by omega) (by simp)
 have e:Fa ws=if BV ws=true then (Cc ws,0) else (⟨[],[],[],[]⟩,400):=rfl
 simp only [List.take_zero,List.map_nil,Int.natCast_zero] at key
 refine Ac rfl (ws.a0.length+ws.a1.length+ws.a2.length+ws.a3.length+6) (by rfl) ?_
 delta c78
 have fin:∀ h:Da ws.a0=true∧Da ws.a1=true∧Da ws.a2=true∧Da ws.a3=true,Fa ws=(Cc ws,0):=by
  intro h;rw [e];simp only [BV,A4.all,h.1,h.2.1,h.2.2.1,h.2.2.2];rfl
 have bad:(Da ws.a0=false∨Da ws.a1=false∨Da ws.a2=false∨Da ws.a3=false)→Fa ws=(⟨[],[],[],[]⟩,400):=by
  intro h;rw [e];rcases h with h | h | h | h<;>simp [BV,A4.all,h]
 simp +contextual -dsimp -implicitDefEqProofs (maxSteps:=5000000) only [A4.set,A4.get,List.map_nil,gLs 2 [1,2,4,5],↓Ah (Rg.eq_1),go_sem,simprocAttr]
 refine key 0 (by simp) ⟨[],[],[],[]⟩ _ _ _ _ _ ?ha ?hb _ false (by simp only [A4.get,simprocAttr];omega)
 case hb=>intro o' d hr;rw [bad (.inl hr)];cases d<;>simp +contextual -dsimp -implicitDefEqProofs (maxSteps:=5000000) only [go_sem,simprocAttr]<;>rfl
 case ha =>
  intro d h0
  cases d
  all_goals
   simp +contextual -dsimp -implicitDefEqProofs (maxSteps:=5000000) only [A4.set,A4.get,List.map_nil,gLs 2 [1,2,4,5],↓Ah (Rg.eq_1),go_sem,simprocAttr]
   refine key 1 (by simp) ⟨ws.a0.map DF,[],[],[]⟩ _ _ _ _ _ ?ha ?hb _ _ (by simp only [A4.get,simprocAttr];omega)
   case hb=>intro o' d hr;rw [bad (.inr (.inl hr))];cases d<;>simp +contextual -dsimp -implicitDefEqProofs (maxSteps:=5000000) only [go_sem,simprocAttr]<;>rfl
   case ha =>
    intro d h1
    cases d
    all_goals
     simp +contextual -dsimp -implicitDefEqProofs (maxSteps:=5000000) only [A4.set,A4.get,List.map_nil,gLs 2 [1,2,4,5],↓Ah (Rg.eq_1),go_sem,simprocAttr]
     refine key 2 (by simp) ⟨ws.a0.map DF,ws.a1.map DF,[],[]⟩ _ _ _ _ _ ?ha ?hb _ _ (by simp only [A4.get,simprocAttr];omega)
     case hb=>intro o' d hr;rw [bad (.inr (.inr (.inl hr)))];cases d<;>simp +contextual -dsimp -implicitDefEqProofs (maxSteps:=5000000) only [go_sem,simprocAttr]<;>rfl
     case ha =>
      intro d h2
      cases d
      all_goals
       simp +contextual -dsimp -implicitDefEqProofs (maxSteps:=5000000) only [A4.set,A4.get,List.map_nil,gLs 2 [1,2,4,5],↓Ah (Rg.eq_1),go_sem,simprocAttr]
       refine key 3 (by simp) ⟨ws.a0.map DF,ws.a1.map DF,ws.a2.map DF,[]⟩ _ _ _ _ _ ?ha ?hb _ _ (by simp only [A4.get,simprocAttr];omega)
       case hb=>intro o' d hr;rw [bad (.inr (.inr (.inr hr)))];cases d<;>simp +contextual -dsimp -implicitDefEqProofs (maxSteps:=5000000) only [go_sem,simprocAttr]<;>rfl
       case ha =>
        intro d h3
        cases d
        all_goals
         rw [fin ⟨h0,h1,h2,h3⟩]
         simp +contextual -dsimp -implicitDefEqProofs (maxSteps:=5000000) only [A4.set,A4.get,List.map_nil,gLs 2 [1,2,4,5],↓Ah (Rg.eq_1),go_sem,simprocAttr]
         rfl
theorem a3l (i:Nat) (p:Bool) (s:Bk) (hp:s.prog.length≤1048576):Aa (Lv ctx (i+6)) 79 [eSt p s]=some (.tup [oS (IN s).1,iV (IN s).2]):=by
 have h0:=Zf (i+0) p false s.id s.label s.clear s.prog (by simp only [BB];omega)
 have h1:((s.prog.length:Int)*32≤140737488355328)=True:=by simp only [eq_iff_iff,iff_true];omega
 have e:IN s=if CT s.id s.label s.clear s.prog=true then (Cb s,0) else (Cb ⟨0,0,0,[]⟩,1100):=rfl
 simp only [Nat.add_assoc,Nat.reduceAdd] at h0
 simp only [eSt]
 cases hb:CT s.id s.label s.clear s.prog
 all_goals
  rw [hb] at e h0
  rw [e]
  refine Ac rfl 0 (by rfl) ?_
  delta c79
  cases p<;>simp +contextual -dsimp -implicitDefEqProofs (maxSteps:=5000000) only [h0,h1,Cb,oS,go_sem,simprocAttr]<;>rfl
abbrev hNw (A:A4 (List Ap)) (c:Int) (els:List V):Hp :=
 pO (pO (pO (pO (pO (pO (pO Af 0 (some ⟨11,[.agg [.own 3 [],.own 3 [],.own 3 [],.own 3 [],iZ,iZ,iZ,iZ,iZ,.own 17 [],.own 4 []]],false⟩)) 1 (some ⟨3,A.a0.map eW,false⟩)) 2 (some ⟨3,A.a1.map eW,false⟩)) 3 (some ⟨3,A.a2.map eW,false⟩)) 4 (some ⟨3,A.a3.map eW,false⟩))
  5 (some ⟨4,[.agg [.sl 1,.sl 2,.sl 3,.sl 4]],true⟩)) 6 (some ⟨11,[.agg [.sl 1,.sl 2,.sl 3,.sl 4,iZ,iZ,iZ,iZ,iV c,.own 17 els,.own 4 []]],true⟩)
theorem kO (i k:Nat) (p:Bool) (s:Aq) (hs:CK s) (e:Int) (A:A4 (List Ap)) (q:Out→St→Option Ans) (Q:V→Hp→Nat→Prop)
  (u:Dum (fun s q=>evC ctx (Lv ctx (i+7)) (Aa (Lv ctx (i+7))) k Rm s (Al [1,2,5,6,7] q))) (w:Dum q)
  (hend:s.starts.all Cf=true→Fin (q (.exit 0) ⟨Ae [2,5,6] [.ptr 0 0 0,iV e,.ptr 6 0 0],hNw A s.ceil ((s.starts.map Cb).map oS),7⟩) Q)
  (hbad:∀ els x7 x8 x9 x10,s.starts.all Cf=false→Fin (q .ret ⟨Ae [2,3] [.ptr 0 0 0,iV 1200],pO (pO (pO (pO (hNw A s.ceil els) 7 x7) 8 x8) 9 x9) 10 x10,11⟩) Q) :
  ∀ (suf pre:List Bk) (kk:Nat),s.starts=pre++suf→suf.length<kk→(∀ x∈pre,Cf x=true) →
  GL 7 [1,2,5,6,7] (fun s q=>evC ctx (Lv ctx (i+7)) (Aa (Lv ctx (i+7))) k Rm s (Al [1,2,5,6,7] q)) q kk ⟨Ae [1,2,5,6,7] [.ip p (cSc p s) 0,.ptr 0 0 0,iV e,.ptr 6 0 0,iV pre.length],hNw A s.ceil ((pre.map Cb).map oS),7⟩ Q u w
 | [],pre,kk,hxs,hk,hall=>by
  obtain ⟨kk,rfl⟩:∃ m,kk=m+1:=⟨kk - 1,by simp at hk;omega⟩
  have h1:decide ((pre.length:Int)<s.starts.length)=false:=by simp [hxs]
  have h2:s.starts=pre:=by simp [hxs]
  have he:=hend (by rw [h2,List.all_eq_true];exact hall)
  rw [h2] at he
  simp +contextual -dsimp -implicitDefEqProofs (maxSteps:=5000000) only [gLs,↓Ah (Rm.eq_1),h1,go_sem,simprocAttr]
  exact he
 | a::suf,pre,kk,hxs,hk,hall=>by
  obtain ⟨kk,rfl⟩:∃ m,kk=m+1:=⟨kk - 1,by simp at hk;omega⟩
  have hl:pre.length<s.starts.length:=by simp [hxs]
  have h2:((pre.length:Int)<s.starts.length)=True:=by simpa using hl
  have h3:(0≤(pre.length:Int))=True:=by simp
  have h4:=wrN pre.length (by have:=hs.bst;simp only [BB];omega)
  have hg:s.starts[pre.length]?=some a:=by simp [hxs]
  have h5:(((pre.length+1:Nat):Int)*184≤140737488355328)=True:=by
   have:=hs.bst
   simp only [eq_iff_iff,iff_true]
   omega
  have hr:=a3l (i+1) p a (hs.p a (by simp [hxs]))
  cases hb:Cf a
  ·have e0:IN a=(Cb ⟨0,0,0,[]⟩,1100):=by unfold IN;rw [hb];rfl
   rw [e0] at hr
   simp only [Nat.add_assoc,Nat.reduceAdd,Cb,oS,eSt,List.map_nil] at hr
   have he:s.starts.all Cf=false:=by rw [List.all_eq_false];exact ⟨a,by simp [hxs],by simp [hb]⟩
   simp +contextual -dsimp -implicitDefEqProofs (maxSteps:=5000000) only [gLs,↓Ah (Rm.eq_1),h2,h3,hg,hr,eSt,go_sem,simprocAttr]
   exact hbad _ _ _ _ _ he
  ·have e0:IN a=(Cb a,0):=by unfold IN;rw [hb];rfl
   rw [e0] at hr
   have ih:=kO i k p s hs e A q Q u w hend hbad suf (pre++[a]) kk (by simp [hxs]) (by simpa using hk) (by
    intro x hx
    rcases List.mem_append.1 hx with h | h
    ·exact hall x h
    ·simp only [List.mem_singleton] at h;subst h;exact hb)
   simp only [Ag,List.map_append,List.map_cons,List.map_nil,oS,Cb] at ih
   simp only [Nat.add_assoc,Nat.reduceAdd,eSt,oS,Cb] at hr
   simp +contextual -dsimp -implicitDefEqProofs (maxSteps:=5000000) only [gLs,↓Ah (Rm.eq_1),h2,h3,h4,h5,hg,hr,eSt,oS,Cb,go_sem,simprocAttr]
   obtain ⟨kk,rfl⟩:∃ m,kk=m+1:=⟨kk - 1,by simp at hk;omega⟩
   simp +contextual -dsimp -implicitDefEqProofs (maxSteps:=5000000) only [gLs,iZ,go_sem,simprocAttr] at ih ⊢
   exact ih
theorem Zt {s:Aq} (h1:BV s.words=true) (h2:s.starts.all Cf=true) (h3:CN (AW s)=true):DG s=(AW s,0):=by unfold DG;rw [h1,h2,h3];rfl
theorem Kc {s:Aq} (h:BV s.words=false∨s.starts.all Cf=false∨CN (AW s)=false):DG s=(Az,1200):=by
 unfold DG;rcases h with h | h | h<;>simp [h]
theorem iB (i:Nat) (p:Bool) (s:Aq) (hs:CK s):Aa (Lv ctx (i+8)) 35 [eSc p s]=some (.tup [oM (DG s).1,iV (DG s).2]):=by
 have h0:=Wk (i+4) p s.words
 have hM:=TH (i+0) false (AW s) (IW hs)
 simp only [Nat.add_assoc,Nat.reduceAdd] at h0 hM
 refine Ac rfl (s.starts.length+1) (by rfl) ?_
 delta c35
 cases p
 all_goals
  simp +contextual -dsimp -implicitDefEqProofs (maxSteps:=5000000) only [h0,go_sem,simprocAttr]
  refine kO i _ _ s hs (Fa s.words).2 (Fa s.words).1 _ _ _ _ ?ha ?hb s.starts [] _ (by simp) (by omega) (by simp)
  case hb =>
   intro els x7 x8 x9 x10 hb
   rw [Kc (.inr (.inl hb)),Ay]
   simp +contextual -dsimp -implicitDefEqProofs (maxSteps:=5000000) only [go_sem,simprocAttr]
  case ha =>
   intro hb
   cases hv:BV s.words
   ·have e:Fa s.words=(⟨[],[],[],[]⟩,400):=by unfold Fa;rw [hv];rfl
    rw [e,Kc (.inl hv),Ay]
    simp +contextual -dsimp -implicitDefEqProofs (maxSteps:=5000000) only [go_sem,simprocAttr]
   ·have e:Fa s.words=(Cc s.words,0):=by unfold Fa;rw [hv];rfl
    rw [e]
    simp only [AW,Cc,eM,cM,eWs,eSs,eEs,List.map_nil] at hM
    cases hm:CN (AW s)
    ·rw [Kc (.inr (.inr hm)),Ay]
     simp only [AW,Cc] at hm
     rw [hm] at hM
     simp +contextual -dsimp -implicitDefEqProofs (maxSteps:=5000000) only [hM,Cc,go_sem,simprocAttr]
    ·rw [Zt hv hb hm]
     simp only [AW,Cc] at hm
     rw [hm] at hM
     simp only [AW,Cc,oM,cO,oWs,oSs,oEs,List.map_nil]
     simp +contextual -dsimp -implicitDefEqProofs (maxSteps:=5000000) only [hM,Cc,go_sem,simprocAttr]
end Ve
