/- The program's new arenas, sessions, machines. -/
import Derived.Test.YthllnfkddiaokaaGreatS39
import Derived.Test.YthllnfkddiaokaaGreatVeSA
import Derived.Test.YthllnfkddiaokaaGreatVeSB
import Derived.Test.YthllnfkddiaokaaGreatS27
import Derived.Test.YthllnfkddiaokaaGreatVeSC
import Derived.Test.YthllnfkddiaokaaGreatVeP
set_option linter.all false
set_option linter.unusedSectionVars false
namespace Ve
open Go Ve.Ab
set_option maxHeartbeats 16000000
set_option maxRecDepth 10000
theorem a6p (i k:Nat) (p:Bool) (ws:A4 (List Int)) (o:A4 (List Aj)) (g:Int) (hg:g=0∨g=1∨g=2∨g=3) (hb:(ws.get g).length≤1048576) (q:Out→St→Option Ans) (Q:V→Hp→Nat→Prop)
  (u:Dum (fun s q=>evC ctx (Lv ctx (i+7)) (Aa (Lv ctx (i+7))) k Wo s (As [2,4,5,9,10,14,15,16] q))) (w:Dum q)
  (hend:∀ d,Fin (q (.exit 2) ⟨Ad [2,4,9,10] [.ptr 0 0 0,.ptr 1 0 0,eA p ws,iV g],hA (o.set g ((ws.get g).map Dl)) d,2⟩) Q) :
  ∀ (n j kk:Nat) (d:Bool),j+n=(ws.get g).length→n<kk →
  GL 2 [2,4,5,9,10,14,15,16] (fun s q=>evC ctx (Lv ctx (i+7)) (Aa (Lv ctx (i+7))) k Wo s (As [2,4,5,9,10,14,15,16] q)) q kk ⟨Ad [2,4,5,9,10,14,15,16] [.ptr 0 0 0,.ptr 1 0 0,iV g,eA p ws,iV g,eNs p (ws.get g),iV (ws.get g).length,iV j],hA (o.set g (((ws.get g).take j).map Dl)) d,2⟩ Q u w:=by
 intro n
 induction n with
 | zero =>
  intro j kk d hj hk
  obtain ⟨kk,rfl⟩:∃ n,kk=n+1:=⟨kk - 1,by omega⟩
  have hj':j=(ws.get g).length:=by omega
  subst hj'
  rw [List.take_length]
  have l0:decide (((ws.get g).length:Int)<((ws.get g).length:Int))=false:=by simp
  have he:=hend d
  clear hend
  rcases hg with rfl | rfl | rfl | rfl
  all_goals
   simp only [A4.get,A4.set,simprocAttr] at l0 he ⊢
   cases d
   all_goals
    simp +contextual -dsimp -implicitDefEqProofs (maxSteps:=5000000) only [gLs,↓Ai (Wo.eq_1),l0,go_sem,simprocAttr]
    exact he
 | succ n ih =>
  intro j kk d hj hk
  obtain ⟨kk,rfl⟩:∃ n,kk=n+1:=⟨kk - 1,by omega⟩
  have hjl:j<(ws.get g).length:=by omega
  obtain ⟨x,hx⟩:∃ x,(ws.get g)[j]?=some x:=⟨_,List.getElem?_eq_getElem hjl⟩
  have l1:((j:Int)<((ws.get g).length:Int))=True:=by simpa using hjl
  have l2:(0≤(j:Int))=True:=by simp
  have ht:(ws.get g).take (j+1)=(ws.get g).take j++[x]:=by rw [List.take_add_one,hx];rfl
  have ih:=ih (j+1) kk true (by omega) (by omega)
  have l5:=wrN j (by simp only [BB];omega)
  have l6:(((((ws.get g).take j).length+1:Nat):Int)*24≤140737488355328)=True:=by simp only [List.length_take,eq_iff_iff,iff_true];omega
  rw [ht] at ih
  clear hend
  rcases hg with rfl | rfl | rfl | rfl
  all_goals
   simp only [A4.get,A4.set,hA,oWs,List.map_append,List.map_cons,List.map_nil,Dl,eW,simprocAttr] at hx l1 l6 ih ⊢
   cases d
   all_goals
    simp +contextual -dsimp -implicitDefEqProofs (maxSteps:=5000000) only [gLs,↓Ai (Wo.eq_1),l1,l2,hx,l5,l6,go_sem,simprocAttr]
    exact (Av (by rfl)).mpr ih
theorem gE (v:Int):Ba (Dl v)=inR v 255:=by
 show (inR v 255&&inR 0 65535&&inR 0 255)=inR v 255
 rw [show inR 0 65535=true from rfl,show inR 0 255=true from rfl,Bool.and_true,Bool.and_true]
theorem rT (l:List Int):Ch (l.map Dl)=Cq l:=by
 simp only [Ch,Cq,List.length_map,List.all_map]
 congr 2
 funext v;exact gE v
theorem gK (ws:A4 (List Int)):AS (Bf ws)=Bw ws:=by
 simp only [AS,Bw,A4.all,Bf,rT]
theorem ON (i:Nat) (p:Bool) (ws:A4 (List Int)) (b0:ws.a0.length≤1048576) (b1:ws.a1.length≤1048576) (b2:ws.a2.length≤1048576) (b3:ws.a3.length≤1048576):Aa (Lv ctx (i+8)) 43 [eA p ws]=some (.tup [.agg [oWs (CI ws).1.a0,oWs (CI ws).1.a1,oWs (CI ws).1.a2,oWs (CI ws).1.a3],iV (CI ws).2]):=by
 have key:=fun g hg hb o k q Q u w h1 kk d hk=>a6p i k p ws o g hg hb q Q u w h1 (ws.get g).length 0 kk d (by omega) hk
 have qm:=fun a b c d=>WX (i+(7 - (4+3))) a b c d false false false false (ws.a0.map Dl) (ws.a1.map Dl) (ws.a2.map Dl) (ws.a3.map Dl)
 have em:AS ⟨ws.a0.map Dl,ws.a1.map Dl,ws.a2.map Dl,ws.a3.map Dl⟩=Bw ws:=gK ws
 rw [em] at qm
 have e:CI ws=if Bw ws=true then (Bf ws,0) else (⟨[],[],[],[]⟩,400):=rfl
 simp only [List.take_zero,List.map_nil,Int.natCast_zero] at key
 simp only [Nat.add_assoc,Nat.reduceAdd,Nat.reduceSub] at qm
 rw [e]
 refine Af rfl (ws.a0.length+ws.a1.length+ws.a2.length+ws.a3.length+6) (by rfl) ?_
 delta c43
 cases p
 all_goals
  simp +contextual -dsimp -implicitDefEqProofs (maxSteps:=5000000) only [A4.set,A4.get,List.map_nil,gLs 2 [2,4,9,10],↓Ai (RQ.eq_1),go_sem,simprocAttr]
  refine key 0 (by simp) b0 ⟨[],[],[],[]⟩ _ _ _ _ _ ?_ _ false (by simp only [A4.get,simprocAttr];omega)
  intro d
  cases d
  all_goals
   simp +contextual -dsimp -implicitDefEqProofs (maxSteps:=5000000) only [A4.set,A4.get,List.map_nil,gLs 2 [2,4,9,10],↓Ai (RQ.eq_1),go_sem,simprocAttr]
   refine key 1 (by simp) b1 ⟨ws.a0.map Dl,[],[],[]⟩ _ _ _ _ _ ?_ _ _ (by simp only [A4.get,simprocAttr];omega)
   intro d
   cases d
   all_goals
    simp +contextual -dsimp -implicitDefEqProofs (maxSteps:=5000000) only [A4.set,A4.get,List.map_nil,gLs 2 [2,4,9,10],↓Ai (RQ.eq_1),go_sem,simprocAttr]
    refine key 2 (by simp) b2 ⟨ws.a0.map Dl,ws.a1.map Dl,[],[]⟩ _ _ _ _ _ ?_ _ _ (by simp only [A4.get,simprocAttr];omega)
    intro d
    cases d
    all_goals
     simp +contextual -dsimp -implicitDefEqProofs (maxSteps:=5000000) only [A4.set,A4.get,List.map_nil,gLs 2 [2,4,9,10],↓Ai (RQ.eq_1),go_sem,simprocAttr]
     refine key 3 (by simp) b3 ⟨ws.a0.map Dl,ws.a1.map Dl,ws.a2.map Dl,[]⟩ _ _ _ _ _ ?_ _ _ (by simp only [A4.get,simprocAttr];omega)
     intro d
     cases hv:Bw ws
     all_goals
      rw [hv] at qm
      cases d
      all_goals
       simp +contextual -dsimp -implicitDefEqProofs (maxSteps:=5000000) only [A4.set,A4.get,List.map_nil,gLs 2 [2,4,9,10],↓Ai (RQ.eq_1),qm,go_sem,simprocAttr]
       first | rfl | done
theorem iS (i:Nat) (p:Bool) (s:AV) (hp:s.prog.length≤1048576):Aa (Lv ctx (i+6)) 44 [eSt p s]=some (.tup [oS (Fa s).1,iV (Fa s).2]):=by
 have h0:=YE (i+0) p false s.id s.label s.clear s.prog (by simp only [BB];omega)
 have h1:((s.prog.length:Int)*32≤140737488355328)=True:=by simp only [eq_iff_iff,iff_true];omega
 have e:Fa s=if Dk s.id s.label s.clear s.prog=true then (AX s,0) else (AX ⟨0,0,0,[]⟩,1100):=rfl
 simp only [Nat.add_assoc,Nat.reduceAdd] at h0
 simp only [eSt]
 cases hb:Dk s.id s.label s.clear s.prog
 all_goals
  rw [hb] at e h0
  rw [e]
  refine Af rfl 0 (by rfl) ?_
  delta c44
  cases p<;>simp +contextual -dsimp -implicitDefEqProofs (maxSteps:=5000000) only [h0,h1,AX,oS,go_sem,simprocAttr]<;>rfl
theorem lU (i k:Nat) (p:Bool) (s:Ap) (hs:Cj s) (e:Int) (he0:e=0∨e=400) (A:A4 (List Aj)) (q:Out→St→Option Ans) (Q:V→Hp→Nat→Prop)
  (u:Dum (fun s q=>evC ctx (Lv ctx (i+19)) (Aa (Lv ctx (i+19))) k Hy s (As [2,5,6,22,23,24] q))) (w:Dum q)
  (hend:(e=0∨s.starts=[])→s.starts.all Bz=true→Fin (q (.exit 0) ⟨Ad [2,5,6] [.ptr 0 0 0,iV e,.ptr 6 0 0],hNw A s.ceil ((s.starts.map AX).map oS),7⟩) Q)
  (hbad:∀ e' els x7 x8 x9 x10 x11,decide (e'=0)=false→(e≠0∨s.starts.all Bz=false)→Fin (q (.exit 0) ⟨Ad [2,5,6] [.ptr 0 0 0,iV e',.ptr 6 0 0],pO (pO (pO (pO (pO (hNw A s.ceil els) 7 x7) 8 x8) 9 x9) 10 x10) 11 x11,12⟩) Q) :
  ∀ (suf pre:List AV) (kk:Nat),s.starts=pre++suf→suf.length<kk→(∀ x∈pre,Bz x=true)→(e=0∨pre=[]) →
  GL 7 [2,5,6,22,23,24] (fun s q=>evC ctx (Lv ctx (i+19)) (Aa (Lv ctx (i+19))) k Hy s (As [2,5,6,22,23,24] q)) q kk ⟨Ad [2,5,6,22,23,24] [.ptr 0 0 0,iV e,.ptr 6 0 0,vV p s.starts,iV s.starts.length,iV pre.length],hNw A s.ceil ((pre.map AX).map oS),7⟩ Q u w
 | [],pre,kk,hxs,hk,hall,hpe=>by
  obtain ⟨kk,rfl⟩:∃ m,kk=m+1:=⟨kk - 1,by simp at hk;omega⟩
  have h1:decide ((pre.length:Int)<s.starts.length)=false:=by simp [hxs]
  have h2:s.starts=pre:=by simp [hxs]
  have he:=hend (by rw [h2];exact hpe) (by rw [h2,List.all_eq_true];exact hall)
  rw [h2] at he
  simp +contextual -dsimp -implicitDefEqProofs (maxSteps:=5000000) only [gLs,↓Ai (Hy.eq_1),h1,go_sem,simprocAttr]
  exact he
 | a::suf,pre,kk,hxs,hk,hall,hpe=>by
  obtain ⟨kk,rfl⟩:∃ m,kk=m+1:=⟨kk - 1,by simp at hk;omega⟩
  have hl:pre.length<s.starts.length:=by simp [hxs]
  have h2:((pre.length:Int)<s.starts.length)=True:=by simpa using hl
  have h3:(0≤(pre.length:Int))=True:=by simp
  have h4:=wrN pre.length (by have:=hs.bst;simp only [BB];omega)
  have hg:s.starts[pre.length]?=some a:=by simp [hxs]
  have h5:(((pre.length+1:Nat):Int)*184≤140737488355328)=True:=by
   have:=hs.bst
   simp only [eq_iff_iff,iff_true]
   omega
  have hr:=iS (i+13) p a (hs.p a (by simp [hxs]))
  rcases he0 with rfl | rfl
  ·cases hb:Bz a
   ·have e0:Fa a=(AX ⟨0,0,0,[]⟩,1100):=by unfold Fa;rw [hb];rfl
    rw [e0] at hr
    simp only [Nat.add_assoc,Nat.reduceAdd,AX,oS,eSt,List.map_nil] at hr
    have he:s.starts.all Bz=false:=by rw [List.all_eq_false];exact ⟨a,by simp [hxs],by simp [hb]⟩
    simp +contextual -dsimp -implicitDefEqProofs (maxSteps:=5000000) only [gLs,↓Ai (Hy.eq_1),h2,h3,hg,hr,eSt,go_sem,simprocAttr]
    exact hbad 1100 _ _ _ _ _ _ (by decide) (.inr he)
   ·have e0:Fa a=(AX a,0):=by unfold Fa;rw [hb];rfl
    rw [e0] at hr
    have ih:=lU i k p s hs 0 (.inl rfl) A q Q u w hend hbad suf (pre++[a]) kk (by simp [hxs]) (by simpa using hk) (by
     intro x hx
     rcases List.mem_append.1 hx with h | h
     ·exact hall x h
     ·simp only [List.mem_singleton] at h;subst h;exact hb) (.inl rfl)
    simp only [Ah,List.map_append,List.map_cons,List.map_nil,oS,AX] at ih
    simp only [Nat.add_assoc,Nat.reduceAdd,eSt,oS,AX] at hr
    simp +contextual -dsimp -implicitDefEqProofs (maxSteps:=5000000) only [gLs,↓Ai (Hy.eq_1),h2,h3,h4,h5,hg,hr,eSt,oS,AX,go_sem,simprocAttr]
    obtain ⟨kk,rfl⟩:∃ m,kk=m+1:=⟨kk - 1,by simp at hk;omega⟩
    simp +contextual -dsimp -implicitDefEqProofs (maxSteps:=5000000) only [gLs,iZ,go_sem,simprocAttr] at ih ⊢
    exact ih
  ·obtain rfl:pre=[]:=hpe.resolve_left (by decide)
   simp only [List.length_nil,Int.natCast_zero] at h2 hg
   simp only [List.length_nil,List.map_nil,Int.natCast_zero]
   cases hb:Bz a
   ·have e0:Fa a=(AX ⟨0,0,0,[]⟩,1100):=by unfold Fa;rw [hb];rfl
    rw [e0] at hr
    simp only [Nat.add_assoc,Nat.reduceAdd,AX,oS,eSt,List.map_nil] at hr
    simp +contextual -dsimp -implicitDefEqProofs (maxSteps:=5000000) only [gLs,↓Ai (Hy.eq_1),h2,h3,hg,hr,eSt,go_sem,simprocAttr]
    exact hbad 1100 _ _ _ _ _ _ (by decide) (.inl (by decide))
   ·have e0:Fa a=(AX a,0):=by unfold Fa;rw [hb];rfl
    rw [e0] at hr
    simp only [Nat.add_assoc,Nat.reduceAdd,AX,oS,eSt,List.map_nil] at hr
    simp +contextual -dsimp -implicitDefEqProofs (maxSteps:=5000000) only [gLs,↓Ai (Hy.eq_1),h2,h3,hg,hr,eSt,go_sem,simprocAttr]
    exact hbad 400 _ _ _ _ _ _ (by decide) (.inl (by decide))
theorem MM (i:Nat) (p:Bool) (s:Ap) (hs:Cj s):Aa (Lv ctx (i+20)) 16 [eSc p s]=some (.tup [oM (Ci s).1,iV (Ci s).2]):=by
 have h0:=ON (i+(19 - 8)) p s.words hs.b0 hs.b1 hs.b2 hs.b3
 have hM:=QG (i+0) false (AC s) (Et hs)
 simp only [Nat.add_assoc,Nat.reduceAdd,Nat.reduceSub] at h0 hM
 have he0:(CI s.words).2=0∨(CI s.words).2=400:=by unfold CI;split<;>simp
 refine Af rfl (s.starts.length+1) (by rfl) ?_
 delta c16
 cases p
 all_goals
  simp +contextual -dsimp -implicitDefEqProofs (maxSteps:=5000000) only [h0,go_sem,simprocAttr]
  refine lU i _ _ s hs (CI s.words).2 he0 (CI s.words).1 _ _ _ _ ?ha ?hb s.starts [] _ (by simp) (by omega) (by simp) (.inr rfl)
  case hb =>
   intro e' els x7 x8 x9 x10 x11 hz hb
   rw [EJ (by
    rcases hb with hb | hb
    ·left
     cases hv:Bw s.words
     ·rfl
     ·exact absurd (by unfold CI;rw [hv];rfl) hb
    ·exact .inr (.inl hb)),Bh]
   simp +contextual -dsimp -implicitDefEqProofs (maxSteps:=5000000) only [hz,go_sem,simprocAttr]
  case ha =>
   intro _ hb
   cases hv:Bw s.words
   ·have e:CI s.words=(⟨[],[],[],[]⟩,400):=by unfold CI;rw [hv];rfl
    rw [e,EJ (.inl hv),Bh]
    simp +contextual -dsimp -implicitDefEqProofs (maxSteps:=5000000) only [go_sem,simprocAttr]
   ·have e:CI s.words=(Bf s.words,0):=by unfold CI;rw [hv];rfl
    rw [e]
    simp only [AC,Bf,eM,cM,eWs,eSs,eEs,List.map_nil] at hM
    cases hm:De (AC s)
    ·rw [EJ (.inr (.inr hm)),Bh]
     simp only [AC,Bf] at hm
     rw [hm] at hM
     simp +contextual -dsimp -implicitDefEqProofs (maxSteps:=5000000) only [hM,Bf,go_sem,simprocAttr]
    ·rw [Oj hv hb hm]
     simp only [AC,Bf] at hm
     rw [hm] at hM
     simp only [AC,Bf,oM,cO,oWs,oSs,oEs,List.map_nil]
     simp +contextual -dsimp -implicitDefEqProofs (maxSteps:=5000000) only [hM,Bf,go_sem,simprocAttr]
end Ve
namespace Ve
open Go Ve.Ab
set_option maxHeartbeats 16000000
set_option maxRecDepth 10000
theorem iU (i:Nat) (p pf:Bool) (m:Ac) (at_ st:Int) (hm:SmM m):Aa (Lv ctx (i+21)) 155 [.ip p (cM pf m) 0,iV at_,iV st]=some (bV (Gw m at_ st).isSome):=by
 have h1:=Ii (i+0) p pf m at_ hm
 simp only [Nat.add_assoc,Nat.reduceAdd] at h1
 cases LW m at_ st with
 | no h =>
  rw [Ha h]
  refine Af rfl 0 (by rfl) ?_
  delta oP
  simp +contextual -dsimp -implicitDefEqProofs (maxSteps:=5000000) only [h1,h,Option.isSome_none,go_sem,simprocAttr]
 | off k s e0 hs hM hS hst =>
  subst e0
  rw [EE hs hM hst]
  have hh:=CW hs hM
  have hk:=Ax hs
  have e1:(0≤(k:Int))=True:=by simp
  have e2:((k:Int)<(m.sess.length:Int))=True:=by simpa using hk
  have z0:decide (s.step=st)=false:=by simpa using hst
  refine Af rfl 0 (by rfl) ?_
  delta oP
  simp +contextual -dsimp -implicitDefEqProofs (maxSteps:=5000000) only [h1,hh,hs,e1,e2,z0,Option.isSome_none,go_sem,simprocAttr]
 | fin k s e0 hs hM hS hst hp =>
  subst e0
  rw [Cv hs hM hst]
  have hh:=CW hs hM
  have hk:=Ax hs
  have e1:(0≤(k:Int))=True:=by simp
  have e2:((k:Int)<(m.sess.length:Int))=True:=by simpa using hk
  have z0:decide (s.step=st)=true:=by simpa using hst
  refine Af rfl 0 (by rfl) ?_
  delta oP
  simp +contextual -dsimp -implicitDefEqProofs (maxSteps:=5000000) only [h1,hh,hs,e1,e2,z0,Option.isSome_some,go_sem,simprocAttr]
 | on k n s w e0 hs hM hS hst hp hn hi =>
  subst e0
  rw [Cv hs hM hst]
  have hh:=CW hs hM
  have hk:=Ax hs
  have e1:(0≤(k:Int))=True:=by simp
  have e2:((k:Int)<(m.sess.length:Int))=True:=by simpa using hk
  have z0:decide (s.step=st)=true:=by simpa using hst
  refine Af rfl 0 (by rfl) ?_
  delta oP
  simp +contextual -dsimp -implicitDefEqProofs (maxSteps:=5000000) only [h1,hh,hs,e1,e2,z0,Option.isSome_some,go_sem,simprocAttr]
end Ve
namespace Ve
open Go Ve.Ab
set_option maxHeartbeats 16000000
set_option maxRecDepth 10000
theorem PO (m:Ac) (at_ st:Int):(Cs m at_=false∧Gw m at_ st=none)∨(∃ (k:Nat) (s:Ae),at_=(k:Nat)∧m.sess[k]?=some s∧Br m∧SP m.words s∧s.step≠st∧Cs m at_=true∧Gw m at_ st=none)∨∃ (k:Nat) (s:Ae),at_=(k:Nat)∧m.sess[k]?=some s∧Br m∧SP m.words s∧s.step=st∧Cs m at_=true∧Gw m at_ st=some s:=by
 rcases Hw m at_ with h | ⟨k,s,e,hs,hM,hS⟩
 ·exact .inl ⟨h,Ha h⟩
 ·subst e
  by_cases hst:s.step=st
  ·exact .inr (.inr ⟨k,s,rfl,hs,hM,hS,hst,CW hs hM,Cv hs hM hst⟩)
  ·exact .inr (.inl ⟨k,s,rfl,hs,hM,hS,hst,CW hs hM,EE hs hM hst⟩)
theorem WQ {m:Ac} {at_:Int} (h:Gw m at_ 2=none):Em m at_=(AA,1900):=by unfold Em;rw [h]
theorem bB {m:Ac} {at_:Int} {s:Ae} (h:Gw m at_ 2=some s) (hc:m.ceil≤m.clocks.get s.label):Em m at_=ET m at_ 5 0:=by unfold Em;rw [h];simp only [hc,if_true]
theorem hX {m:Ac} {at_:Int} {s:Ae} (h:Gw m at_ 2=some s) (hc:¬ m.ceil≤m.clocks.get s.label):Em m at_=(Bd { m with clocks:=m.clocks.set s.label (m.clocks.get s.label+1) } at_.toNat { s with stamp:=m.clocks.get s.label+1,step:=3 },0):=by unfold Em;rw [h];simp only [hc,if_false]
theorem PQ {m:Ac} (hM:Br m):m.clocks.all (fun x=>inR x 65535)=true:=by
 have h1:=hM.clocks
 have h2:=AE.1 hM.ceil
 simp only [A4.all,Bool.and_eq_true,AE] at h1 ⊢
 omega
theorem lH {m:Ac} (hM:Br m) {l:Int} (hl:inR l 3=true) (hc:m.ceil≤m.clocks.get l):JA m.clocks l m.ceil=(KG,0,501):=by
 unfold JA;rw [PQ hM,hM.ceil,hl];simp only [Bool.and_self,if_true,hc]
theorem next_ok {m:Ac} (hM:Br m) {l:Int} (hl:inR l 3=true) (hc:¬ m.ceil≤m.clocks.get l):JA m.clocks l m.ceil=(m.clocks.set l (m.clocks.get l+1),m.clocks.get l+1,0):=by
 unfold JA;rw [PQ hM,hM.ceil,hl];simp only [Bool.and_self,if_true,hc,if_false]
theorem XW {m:Ac} {at_:Int} (h:Gw m at_ 3=none):Er m at_=(AA,2000):=by unfold Er;rw [h]
theorem oE {m:Ac} {at_:Int} {s:Ae} (h:Gw m at_ 3=some s) (hg:(DS m.words s.reads s.id).1=false):Er m at_=Cy m at_ 3:=by unfold Er;rw [h];simp only [hg,Bool.false_eq_true,if_false]
theorem eY {m:Ac} {at_:Int} {s:Ae} (h:Gw m at_ 3=some s) (hg:(DS m.words s.reads s.id).1=true) (hw:s.writes=[]):Er m at_=ET m at_ 1 0:=by unfold Er;rw [h];simp only [hg,if_true,hw]
theorem oD {m:Ac} {at_:Int} {s:Ae} (h:Gw m at_ 3=some s) (hg:(DS m.words s.reads s.id).1=true) (hw:¬ s.writes=[]):Er m at_=(Bd m at_.toNat { s with at_:=0,step:=4 },0):=by unfold Er;rw [h];simp only [hg,if_true,hw,if_false]
end Ve
namespace Ve
open Go Ve.Ab
set_option maxHeartbeats 16000000
set_option maxRecDepth 10000
abbrev cW (pf:Bool) (ws:A4 (List Aj)):List V:=[eWs pf ws.a0,eWs pf ws.a1,eWs pf ws.a2,eWs pf ws.a3]
def fW (ws:A4 (List Aj)) (r:AZ):Aj:=AB ws r.level r.index
def Ek (ws:A4 (List Aj)) (xs:List AZ):List Aj × Bool:=if (AS ws&&AY xs&&AP ws xs)=true then (xs.map (fW ws),true) else ([],false)
theorem Vr (i k:Nat) (p pf p2 nn:Bool) (ws:A4 (List Aj)) (xs:List AZ) (hx:xs.length≤16) (q:Out→St→Option Ans) (Q:V→Hp→Nat→Prop)
  (u:Dum (fun s q=>evC ctx (Lv ctx (i+7)) (Aa (Lv ctx (i+7))) k IY s (As [0,6,19,20,21] q))) (w:Dum q)
  (hend:AP ws xs=true→Fin (q (.exit 0) ⟨Ad [6] [.sl 0],pO Ag 0 (some ⟨3,(xs.map (fW ws)).map eW,false⟩),1⟩) Q)
  (hbad:∀ h n,AP ws xs=false→Fin (q .ret ⟨Ad [4,5] [nilV,bV false],h,n⟩) Q) :
  ∀ (suf pre:List AZ) (kk:Nat),xs=pre++suf→suf.length<kk→(∀ r∈pre,Ay ws r.level r.index=true) →
  GL 0 [0,6,19,20,21] (fun s q=>evC ctx (Lv ctx (i+7)) (Aa (Lv ctx (i+7))) k IY s (As [0,6,19,20,21] q)) q kk ⟨Ad [0,6,19,20,21] [.ip p (cW pf ws) 0,.sl 0,.isl p2 nn 3 (xs.map eR),iV xs.length,iV pre.length],pO Ag 0 (some ⟨3,(pre.map (fW ws)).map eW,false⟩),1⟩ Q u w
 | [],pre,kk,hxs,hk,hall=>by
  obtain ⟨kk,rfl⟩:∃ m,kk=m+1:=⟨kk - 1,by simp at hk;omega⟩
  have h1:decide ((pre.length:Int)<xs.length)=false:=by simp [hxs]
  have h2:xs=pre:=by simp [hxs]
  have he:=hend (by rw [h2,AP,List.all_eq_true];exact hall)
  rw [h2] at he
  simp +contextual -dsimp -implicitDefEqProofs (maxSteps:=5000000) only [gLs,↓Ai (IY.eq_1),h1,go_sem,simprocAttr]
  exact he
 | a::suf,pre,kk,hxs,hk,hall=>by
  obtain ⟨kk,rfl⟩:∃ m,kk=m+1:=⟨kk - 1,by simp at hk;omega⟩
  have hl:pre.length<xs.length:=by simp [hxs]
  have h2:((pre.length:Int)<xs.length)=True:=by simpa using hl
  have h3:(0≤(pre.length:Int))=True:=by simp
  have h4:=wrN pre.length (by simp only [BB];omega)
  have hg:xs[pre.length]?=some a:=by simp [hxs]
  have h5:(((pre.length+1:Nat):Int)*24≤140737488355328)=True:=by simp only [eq_iff_iff,iff_true];omega
  cases hb:Ay ws a.level a.index
  ·have he:AP ws xs=false:=by rw [AP,List.all_eq_false];exact ⟨a,by simp [hxs],by simp [hb]⟩
   simp +contextual -dsimp -implicitDefEqProofs (maxSteps:=5000000) only [gLs,↓Ai (IY.eq_1),h2,h3,hg,hb,go_sem,simprocAttr]
   exact hbad _ _ he
  ·have ih:=Vr i k p pf p2 nn ws xs hx q Q u w hend hbad suf (pre++[a]) kk (by simp [hxs]) (by simpa using hk) (by
    intro r hr
    rcases List.mem_append.1 hr with h | h
    ·exact hall r h
    ·simp only [List.mem_singleton] at h;subst h;exact hb)
   have hlb:=HY hb
   obtain ⟨lv,ix,vr⟩:=a
   obtain ⟨n,g,rfl,hgw,hge,hln⟩:=HZ hb
   have l4:(0≤(n:Int))=True:=by simp
   simp only [Ah,List.map_append,List.map_cons,List.map_nil,fW,hge,eW] at ih
   rcases ER hlb with h | h | h | h
   all_goals
    simp only at h
    subst h
    simp only [A4.get,simprocAttr] at hgw hln
    have hln':=eq_true hln
    simp +contextual -dsimp -implicitDefEqProofs (maxSteps:=5000000) only [gLs,↓Ai (IY.eq_1),h2,h3,h4,h5,hg,hb,hgw,hln',l4,go_sem,simprocAttr]
    exact (Av (by rfl)).mpr ih
theorem YC (i:Nat) (p pf p2 nn:Bool) (ws:A4 (List Aj)) (xs:List AZ) (hx:xs.length≤BB):Aa (Lv ctx (i+8)) 194 [.ip p (cW pf ws) 0,.isl p2 nn 3 (xs.map eR)]=some (.tup [oWs (Ek ws xs).1,bV (Ek ws xs).2]):=by
 have q2:=Ob (i+2+1) p2 nn xs hx
 simp only [Nat.add_assoc,Nat.reduceAdd] at q2
 have no:(AS ws&&AY xs&&AP ws xs)=false→Ek ws xs=([],false):=by intro h;unfold Ek;rw [h];rfl
 cases hc:(AS ws&&AY xs)
 ·rw [no (by rw [hc];rfl)]
  refine Af rfl 0 (by rfl) ?_
  delta oN
  simp +contextual -dsimp -implicitDefEqProofs (maxSteps:=5000000) only [q2,nn2,hc,List.map_nil,go_sem,simprocAttr]
  rfl
 ·obtain ⟨ha,hr⟩:=(Bool.and_eq_true _ _).mp hc
  have hl:xs.length≤16:=by simp only [AY,Bool.and_eq_true,decide_eq_true_eq] at hr;exact hr.2
  have yes:AP ws xs=true→Ek ws xs=(xs.map (fW ws),true):=by intro h;unfold Ek;rw [hc,h];rfl
  cases xs with
  | nil =>
   rw [yes rfl]
   simp only [List.map_nil] at q2
   refine Af rfl 3 (by rfl) ?_
   delta oN
   simp +contextual -dsimp -implicitDefEqProofs (maxSteps:=5000000) only [q2,ha,hr,gLs,↓Ai (IY.eq_1),List.map_nil,List.length_nil,go_sem,simprocAttr]
   rfl
  | cons a suf =>
   simp only [List.map_cons,eR] at q2
   obtain ⟨K,hK⟩:∃ K,K=suf.length+2:=⟨_,rfl⟩
   have key:=fun q Q u w h1 h2=>Vr i (K+1) p pf p2 nn ws (a::suf) hl q Q u w h1 h2 suf [a] K rfl (by omega)
   cases hb:Ay ws a.level a.index
   ·have he:AP ws (a::suf)=false:=by rw [AP,List.all_eq_false];exact ⟨a,by simp,by simp [hb]⟩
    rw [no (by rw [hc,he];rfl)]
    have z1:((0:Int)<(((suf.length+1:Nat)):Int))=True:=by simp only [eq_iff_iff,iff_true];omega
    refine Af rfl (K+1) (by rfl) ?_
    delta oN
    simp +contextual -dsimp -implicitDefEqProofs (maxSteps:=5000000) only [q2,ha,hr,hb,z1,gLs,↓Ai (IY.eq_1),List.map_nil,List.map_cons,List.length_cons,go_sem,simprocAttr]
    rfl
   ·have z1:((0:Int)<(((suf.length+1:Nat)):Int))=True:=by simp only [eq_iff_iff,iff_true];omega
    have hlb:=HY hb
    obtain ⟨lv,ix,vr⟩:=a
    obtain ⟨n,g,rfl,hgw,hge,hln⟩:=HZ hb
    have l4:(0≤(n:Int))=True:=by simp
    simp only [List.length_singleton,List.map_cons,List.map_nil,fW,hge,eW,List.mem_singleton,forall_eq,hb,true_implies] at key
    rcases ER hlb with h | h | h | h
    all_goals
     simp only at h
     subst h
     simp only [A4.get,simprocAttr] at hgw hln
     have hln':=eq_true hln
     refine Af rfl (K+1) (by rfl) ?_
     delta oN
     simp +contextual -dsimp -implicitDefEqProofs (maxSteps:=5000000) only [q2,ha,hr,hb,z1,hgw,hln',l4,gLs,↓Ai (IY.eq_1),List.map_cons,List.map_nil,List.length_cons,go_sem,simprocAttr]
     refine Cc (key _ _ ⟨⟩ ⟨⟩ ?ha ?hb) (by rfl)
     case ha=>intro he;rw [yes he];simp only [List.map_cons,fW,hge];simp +contextual -dsimp -implicitDefEqProofs (maxSteps:=5000000) only [List.map_cons,go_sem,simprocAttr];rfl
     case hb=>intro h n he;rw [no (by rw [hc,he];rfl)];simp +contextual -dsimp -implicitDefEqProofs (maxSteps:=5000000) only [List.map_nil,go_sem,simprocAttr];rfl
theorem iW (i:Nat) (pf p2:Bool) (ws:A4 (List Aj)) (xs:List AZ) (hx:xs.length≤BB) (id:Int):Aa (Lv ctx (i+9)) 160 [.agg (cW pf ws),.isl p2 false 3 (xs.map eR),iV id]=some (.tup [bV (DS ws xs id).1,iV (DS ws xs id).2]):=by
 have qw:=fun p=>YC i p pf p2 false ws xs hx
 cases hc:(AS ws&&AY xs&&AP ws xs&&inR id 254)
 ·have e:DS ws xs id=(false,900):=by unfold DS;rw [hc];rfl
  rw [e]
  cases hd:(AS ws&&AY xs&&AP ws xs)
  ·have e2:Ek ws xs=([],false):=by unfold Ek;rw [hd];rfl
   rw [e2] at qw
   refine Af rfl 0 (by rfl) ?_
   delta wV
   cases pf<;>simp +contextual -dsimp -implicitDefEqProofs (maxSteps:=5000000) only [qw,List.map_nil,go_sem,simprocAttr]
  ·have e2:Ek ws xs=(xs.map (fW ws),true):=by unfold Ek;rw [hd];rfl
   have hi:inR id 254=false:=by rw [hd] at hc;simpa using hc
   rw [e2] at qw
   refine Af rfl 0 (by rfl) ?_
   delta wV
   cases pf<;>simp +contextual -dsimp -implicitDefEqProofs (maxSteps:=5000000) only [qw,hi,go_sem,simprocAttr]
 ·have hcc:=hc
  simp only [Bool.and_eq_true] at hcc
  have hl:xs.length≤16:=by have:=hcc.1.1.2;simp only [AY,Bool.and_eq_true,decide_eq_true_eq] at this;exact this.2
  have hi:=hcc.2
  have hw:=Kh (c:=254) hi (by omega)
  have e:DS ws xs id=(xs.all (CA ws id),0):=by unfold DS;rw [hc];rfl
  have e2:Ek ws xs=(xs.map (fW ws),true):=by
   have:(AS ws&&AY xs&&AP ws xs)=true:=((Bool.and_eq_true _ _).mp hc).1
   unfold Ek;rw [this];rfl
  rw [e]
  rw [e2] at qw
  refine Af rfl (xs.length+1) (by rfl) ?_
  delta wV
  have key:∀ (q:Out→St→Option Ans) (Q:V→Hp→Nat→Prop) (u:Dum (fun s q=>evC ctx (Lv ctx (i+8)) (Aa (Lv ctx (i+8))) (xs.length+1) Kc s (As [1,2,24,25,26] q))) (w:Dum q),
    (xs.all (CA ws id)=true→Fin (q (.exit 0) ⟨Ad [] [],pO Ag 0 (some ⟨3,(xs.map (fW ws)).map eW,false⟩),1⟩) Q)→(∀ h n,xs.all (CA ws id)=false→Fin (q .ret ⟨Ad [6,7] [bV false,iV 0],h,n⟩) Q) →
    GL 1 [1,2,24,25,26] (fun s q=>evC ctx (Lv ctx (i+8)) (Aa (Lv ctx (i+8))) (xs.length+1) Kc s (As [1,2,24,25,26] q)) q (xs.length+1) ⟨Ad [1,2,24,25,26] [.isl p2 false 3 (xs.map eR),iV id,.sl 0,iV xs.length,iV 0],pO Ag 0 (some ⟨3,(xs.map (fW ws)).map eW,false⟩),1⟩ Q u w:=by
   intro q Q u w hend hbad
   refine JK (S:=fun j=>⟨Ad [1,2,24,25,26] [.isl p2 false 3 (xs.map eR),iV id,.sl 0,iV xs.length,iV j],pO Ag 0 (some ⟨3,(xs.map (fW ws)).map eW,false⟩),1⟩) xs.length (fun j=>CA ws id (xs.getD j ⟨0,0,0⟩)) rfl (by omega) ?_ ?_ ?_
   ·intro j kk hj hgd hl
    have hxj:xs[j]?=some (xs.getD j ⟨0,0,0⟩):=by simp [List.getD_eq_getElem?_getD,hj]
    generalize xs.getD j ⟨0,0,0⟩=x at hxj hgd
    obtain ⟨g,hg⟩:∃ g,fW ws x=g:=⟨_,rfl⟩
    have hgd':(decide (g.ver=x.ver)&&(decide (g.lock=0)||decide (g.lock=id+1)))=true:=by rw [← hg];exact hgd
    simp only [Bool.and_eq_true] at hgd'
    have l1:((j:Int)<(xs.length:Int))=True:=by simpa using hj
    have l2:(0≤(j:Int))=True:=by simp
    have l3:=wrN j (by simp only [BB];omega)
    have f1:=hgd'.1
    cases f2:decide (g.lock=0)
    ·have f3:decide (g.lock=id+1)=true:=by rw [f2] at hgd';simpa using hgd'.2
     simp +contextual -dsimp -implicitDefEqProofs (maxSteps:=5000000) only [l1,l2,l3,hxj,hg,f1,f2,f3,hw,↓Ai (Kc.eq_1),go_sem,simprocAttr]
     exact Cc hl (by rfl)
    ·simp +contextual -dsimp -implicitDefEqProofs (maxSteps:=5000000) only [l1,l2,l3,hxj,hg,f1,f2,hw,↓Ai (Kc.eq_1),go_sem,simprocAttr]
     exact Cc hl (by rfl)
   ·intro j kk hj hgd _
    have hxj:xs[j]?=some (xs.getD j ⟨0,0,0⟩):=by simp [List.getD_eq_getElem?_getD,hj]
    generalize xs.getD j ⟨0,0,0⟩=x at hxj hgd
    have hf:xs.all (CA ws id)=false:=KD _ hxj hgd
    obtain ⟨g,hg⟩:∃ g,fW ws x=g:=⟨_,rfl⟩
    have hgd':(decide (g.ver=x.ver)&&(decide (g.lock=0)||decide (g.lock=id+1)))=false:=by rw [← hg];exact hgd
    have l1:((j:Int)<(xs.length:Int))=True:=by simpa using hj
    have l2:(0≤(j:Int))=True:=by simp
    cases f1:decide (g.ver=x.ver)
    ·simp +contextual -dsimp -implicitDefEqProofs (maxSteps:=5000000) only [l1,l2,hxj,hg,f1,hw,↓Ai (Kc.eq_1),go_sem,simprocAttr]
     exact hbad _ _ hf
    ·rw [f1] at hgd'
     simp only [Bool.true_and,Bool.or_eq_false_iff] at hgd'
     simp +contextual -dsimp -implicitDefEqProofs (maxSteps:=5000000) only [l1,l2,hxj,hg,f1,hgd'.1,hgd'.2,hw,↓Ai (Kc.eq_1),go_sem,simprocAttr]
     exact hbad _ _ hf
   ·intro kk hall
    have l0:decide ((xs.length:Int)<(xs.length:Int))=false:=by simp
    simp +contextual -dsimp -implicitDefEqProofs (maxSteps:=5000000) only [l0,↓Ai (Kc.eq_1),go_sem,simprocAttr]
    exact hend (KC _ ⟨0,0,0⟩ _ hall)
  cases pf
  all_goals
   simp +contextual -dsimp -implicitDefEqProofs (maxSteps:=5000000) only [qw,hi,List.length_map,go_sem,simprocAttr]
   refine key _ _ _ _ (fun h=>?_) (fun _ _ h=>?_)
   ·rw [h];simp +contextual -dsimp -implicitDefEqProofs (maxSteps:=5000000) only [go_sem,simprocAttr]
   ·rw [h];simp +contextual -dsimp -implicitDefEqProofs (maxSteps:=5000000) only [go_sem,simprocAttr]
end Ve
namespace Ve
open Go Ve.Ab
set_option maxHeartbeats 16000000
set_option maxRecDepth 10000
theorem rI (i:Nat) (pf:Bool) (m:Ac) (hm:SmM m) (at_:Int):Aa (Lv ctx (i+22)) 112 [eM pf m,iV at_]=some (.tup [oM (Er m at_).1,iV (Er m at_).2]):=by
 have ql:=iU (i+0) pf pf m at_ 3 hm
 have qc:=Dw (i+18) pf m hm
 have qe:=UJ (i+0) pf m hm at_ 1 0
 have qa:=Od (i+0) pf m hm at_ 3
 rcases PO m at_ 3 with ⟨h,h'⟩ | ⟨k,s,rfl,hs,hM,hS,hst,h,h'⟩ | ⟨k,s,rfl,hs,hM,hS,hst,h,h'⟩
 case inr.inr =>
  rw [h'] at ql
  have hk:=Ax hs
  have e1:(0≤(k:Int))=True:=by simp
  have e2:((k:Int)<(m.sess.length:Int))=True:=by simpa using hk
  have e3:∀ x,((m.sess.map oS).set k x)[k]?=some x:=fun x=>List.getElem?_set_self (by simpa using hk)
  have e4:∀ x y,((m.sess.map oS).set k x).set k y=(m.sess.map oS).set k y:=fun x y=>List.set_set ..
  have hsm:=hm.s s (List.mem_of_getElem? hs)
  have qg:=iW (i+(14 - 2)) pf pf m.words s.reads (by have:=hsm.br;simp only [BB];omega) s.id
  rw [Mk hM hS] at qg
  have hg0:=Mk hM hS
  cases hg:s.reads.all (CA m.words s.id)
  ·have hg':(DS m.words s.reads s.id).1=false:=by rw [hg0];exact hg
   rw [oE h' hg']
   simp only [hg,Nat.add_assoc,Nat.reduceAdd,Nat.reduceSub,Option.isSome_some] at ql qa qg
   generalize Cy m k 3=r at qa ⊢
   refine Af rfl 0 (by rfl) ?_
   delta oR
   cases pf<;>simp +contextual -dsimp -implicitDefEqProofs (maxSteps:=5000000) only [ql,qg,qa,hs,e1,e2,go_sem,simprocAttr]
  ·have hg':(DS m.words s.reads s.id).1=true:=by rw [hg0];exact hg
   by_cases hw:s.writes=[]
   ·rw [eY h' hg' hw]
    have z1:decide ((s.writes.length:Int)=0)=true:=by rw [hw];rfl
    simp only [hg,Nat.add_assoc,Nat.reduceAdd,Nat.reduceSub,Option.isSome_some] at ql qe qg
    generalize ET m k 1 0=r at qe ⊢
    refine Af rfl 0 (by rfl) ?_
    delta oR
    cases pf<;>simp +contextual -dsimp -implicitDefEqProofs (maxSteps:=5000000) only [ql,qg,qe,hs,e1,e2,z1,go_sem,simprocAttr]
   ·rw [oD h' hg' hw]
    have z1:decide ((s.writes.length:Int)=0)=false:=by
     have:=List.length_pos_iff.2 hw
     simp;omega
    simp only [hg,Nat.add_assoc,Nat.reduceAdd,Nat.reduceSub,Option.isSome_some] at ql qc qg
    simp only [Bd,Int.toNat_natCast,oM,cO,oWs,oSs,oEs,List.map_set,oS]
    refine Af rfl 0 (by rfl) ?_
    delta oR
    cases pf<;>simp +contextual -dsimp -implicitDefEqProofs (maxSteps:=5000000) only [ql,qg,qc,hs,e1,e2,e3,e4,z1,List.length_set,hk,go_sem,simprocAttr]
 all_goals
  rw [XW h',Bh]
  rw [h'] at ql
  simp only [Nat.add_assoc,Nat.reduceAdd,Option.isSome_none] at ql
  refine Af rfl 0 (by rfl) ?_
  delta oR
  cases pf<;>simp +contextual -dsimp -implicitDefEqProofs (maxSteps:=5000000) only [ql,go_sem,simprocAttr]
end Ve
namespace Ve
open Go Ve.Ab
set_option maxHeartbeats 16000000
set_option maxRecDepth 10000
theorem a0b (i:Nat) (a b c d l k:Int):Aa (Lv ctx (i+4)) 158 [.agg [iV a,iV b,iV c,iV d],iV l,iV k] =
  some (.tup [e4 (JA ⟨a,b,c,d⟩ l k).1,iV (JA ⟨a,b,c,d⟩ l k).2.1,iV (JA ⟨a,b,c,d⟩ l k).2.2]):=by
 have hp:Ft 65535 a b c d=(⟨a,b,c,d⟩:A4 Int).all (fun x=>inR x 65535):=rfl
 cases h1:(Ft 65535 a b c d&&inR k 65535&&inR l 3)
 ·have e:JA ⟨a,b,c,d⟩ l k=(KG,0,500):=by simp only [JA,← hp,h1];rfl
  rw [e]
  refine Af rfl 0 (by rfl) ?_
  delta wX
  simp +contextual -dsimp -implicitDefEqProofs (maxSteps:=5000000) only [nn2,h1,KG,go_sem,simprocAttr]
 ·obtain ⟨ha,hl⟩:=(Bool.and_eq_true _ _).mp h1
  have hh:=ha
  simp only [Bool.and_eq_true,Ft] at hh
  have wa:=Kh hh.1.1.1.1 (by omega)
  have wb:=Kh hh.1.1.1.2 (by omega)
  have wc:=Kh hh.1.1.2 (by omega)
  have wd:=Kh hh.1.2 (by omega)
  have e:JA ⟨a,b,c,d⟩ l k=if k≤(⟨a,b,c,d⟩:A4 Int).get l then (KG,0,501) else ((⟨a,b,c,d⟩:A4 Int).set l ((⟨a,b,c,d⟩:A4 Int).get l+1),(⟨a,b,c,d⟩:A4 Int).get l+1,0):=by
   unfold JA;rw [← hp,h1];rfl
  rw [e]
  clear e hh h1 hp
  rcases Dm l with rfl | rfl | rfl | rfl | hl'
  case inr.inr.inr.inr=>rw [hl] at hl';cases hl'
  all_goals
   simp only [A4.get,A4.set,simprocAttr]
   split
   ·rename_i hf
    have h2:=decide_eq_true hf
    refine Af rfl 0 (by rfl) ?_
    delta wX
    simp +contextual -dsimp -implicitDefEqProofs (maxSteps:=5000000) only [nn2,ha,h2,KG,go_sem,simprocAttr]
   ·rename_i hf
    have h2:=decide_eq_false hf
    refine Af rfl 0 (by rfl) ?_
    delta wX
    simp +contextual -dsimp -implicitDefEqProofs (maxSteps:=5000000) only [nn2,ha,h2,wa,wb,wc,wd,go_sem,simprocAttr]
theorem qZ (i:Nat) (pf:Bool) (m:Ac) (hm:SmM m) (at_:Int):Aa (Lv ctx (i+22)) 111 [eM pf m,iV at_]=some (.tup [oM (Em m at_).1,iV (Em m at_).2]):=by
 have ql:=iU (i+0) pf pf m at_ 2 hm
 have qc:=Dw (i+18) pf m hm
 have qe:=UJ (i+0) pf m hm at_ 5 0
 rcases PO m at_ 2 with ⟨h,h'⟩ | ⟨k,s,rfl,hs,hM,hS,hst,h,h'⟩ | ⟨k,s,rfl,hs,hM,hS,hst,h,h'⟩
 case inr.inr =>
  rw [h'] at ql
  have hk:=Ax hs
  have e1:(0≤(k:Int))=True:=by simp
  have e2:((k:Int)<(m.sess.length:Int))=True:=by simpa using hk
  have e3:∀ x,((m.sess.map oS).set k x)[k]?=some x:=fun x=>List.getElem?_set_self (by simpa using hk)
  have e4:∀ x y,((m.sess.map oS).set k x).set k y=(m.sess.map oS).set k y:=fun x y=>List.set_set ..
  have qn:=a0b (i+17) m.clocks.a0 m.clocks.a1 m.clocks.a2 m.clocks.a3 s.label m.ceil
  rw [show (⟨m.clocks.a0,m.clocks.a1,m.clocks.a2,m.clocks.a3⟩:A4 Int)=m.clocks from rfl] at qn
  by_cases hc:m.ceil≤m.clocks.get s.label
  ·rw [bB h' hc]
   rw [lH hM hS.label hc] at qn
   simp only [Nat.add_assoc,Nat.reduceAdd,e4,KG,Option.isSome_some] at ql qe qn
   generalize ET m k 5 0=r at qe ⊢
   refine Af rfl 0 (by rfl) ?_
   delta xB
   cases pf<;>simp +contextual -dsimp -implicitDefEqProofs (maxSteps:=5000000) only [ql,qn,qe,hs,e1,e2,go_sem,simprocAttr]
  ·rw [hX h' hc]
   rw [next_ok hM hS.label hc] at qn
   generalize m.clocks.set s.label (m.clocks.get s.label+1)=cs at qn ⊢
   generalize m.clocks.get s.label+1=sp at qn ⊢
   simp only [Nat.add_assoc,Nat.reduceAdd,e4,Option.isSome_some] at ql qc qn
   simp only [Bd,Int.toNat_natCast,oM,cO,oWs,oSs,oEs,List.map_set,oS]
   refine Af rfl 0 (by rfl) ?_
   delta xB
   cases pf<;>simp +contextual -dsimp -implicitDefEqProofs (maxSteps:=5000000) only [ql,qn,qc,hs,e1,e2,e3,e4,List.length_set,hk,go_sem,simprocAttr]
 all_goals
  rw [WQ h',Bh]
  rw [h'] at ql
  simp only [Nat.add_assoc,Nat.reduceAdd,Option.isSome_none] at ql
  refine Af rfl 0 (by rfl) ?_
  delta xB
  cases pf<;>simp +contextual -dsimp -implicitDefEqProofs (maxSteps:=5000000) only [ql,go_sem,simprocAttr]
end Ve
namespace Ve
open Go Ve.Ab
set_option maxHeartbeats 16000000
set_option maxRecDepth 10000
theorem bR (i:Nat) (pf p2:Bool) (ws:A4 (List Aj)) (xs:List AZ) (hx:xs.length≤BB):Aa (Lv ctx (i+9)) 164 [.agg (cW pf ws),.isl p2 false 3 (xs.map eR)]=some (.tup [bV (BI ws xs).1,iV (BI ws xs).2]):=by
 have qw:=fun p=>YC i p pf p2 false ws xs hx
 cases hd:(AS ws&&AY xs&&AP ws xs)
 ·have e:BI ws xs=(false,900):=by unfold BI;rw [hd];rfl
  rw [e]
  have e2:Ek ws xs=([],false):=by unfold Ek;rw [hd];rfl
  rw [e2] at qw
  refine Af rfl 0 (by rfl) ?_
  delta c164
  cases pf<;>simp +contextual -dsimp -implicitDefEqProofs (maxSteps:=5000000) only [qw,List.map_nil,go_sem,simprocAttr]
 ·have hcc:=hd
  simp only [Bool.and_eq_true] at hcc
  have hl:xs.length≤16:=by have:=hcc.1.2;simp only [AY,Bool.and_eq_true,decide_eq_true_eq] at this;exact this.2
  have e:BI ws xs=(xs.any (Dp ws),0):=by unfold BI;rw [hd];rfl
  have e2:Ek ws xs=(xs.map (fW ws),true):=by unfold Ek;rw [hd];rfl
  have ea:xs.any (Dp ws)=!(xs.all fun r=>!Dp ws r):=by simp [List.any_eq_not_all_not]
  rw [e,ea]
  rw [e2] at qw
  refine Af rfl (xs.length+1) (by rfl) ?_
  delta c164
  have key:∀ (q:Out→St→Option Ans) (Q:V→Hp→Nat→Prop) (u:Dum (fun s q=>evC ctx (Lv ctx (i+8)) (Aa (Lv ctx (i+8))) (xs.length+1) Nm s (As [1,17,18,19] q))) (w:Dum q),
    (xs.all (fun r=>!Dp ws r)=true→Fin (q (.exit 0) ⟨Ad [] [],pO Ag 0 (some ⟨3,(xs.map (fW ws)).map eW,false⟩),1⟩) Q)→(∀ h n,xs.all (fun r=>!Dp ws r)=false→Fin (q .ret ⟨Ad [4,5] [bV true,iV 0],h,n⟩) Q) →
    GL 1 [1,17,18,19] (fun s q=>evC ctx (Lv ctx (i+8)) (Aa (Lv ctx (i+8))) (xs.length+1) Nm s (As [1,17,18,19] q)) q (xs.length+1) ⟨Ad [1,17,18,19] [.isl p2 false 3 (xs.map eR),.sl 0,iV xs.length,iV 0],pO Ag 0 (some ⟨3,(xs.map (fW ws)).map eW,false⟩),1⟩ Q u w:=by
   intro q Q u w hend hbad
   refine JK (S:=fun j=>⟨Ad [1,17,18,19] [.isl p2 false 3 (xs.map eR),.sl 0,iV xs.length,iV j],pO Ag 0 (some ⟨3,(xs.map (fW ws)).map eW,false⟩),1⟩) xs.length (fun j=>!Dp ws (xs.getD j ⟨0,0,0⟩)) rfl (by omega) ?_ ?_ ?_
   ·intro j kk hj hgd hl
    have hxj:xs[j]?=some (xs.getD j ⟨0,0,0⟩):=by simp [List.getD_eq_getElem?_getD,hj]
    generalize xs.getD j ⟨0,0,0⟩=x at hxj hgd
    obtain ⟨g,hg⟩:∃ g,fW ws x=g:=⟨_,rfl⟩
    have f1:decide (g.ver=x.ver)=true:=by
     have h0:(AB ws x.level x.index).ver=x.ver:=by simpa [Dp] using hgd
     rw [← hg];exact decide_eq_true h0
    have l1:((j:Int)<(xs.length:Int))=True:=by simpa using hj
    have l2:(0≤(j:Int))=True:=by simp
    have l3:=wrN j (by simp only [BB];omega)
    simp +contextual -dsimp -implicitDefEqProofs (maxSteps:=5000000) only [l1,l2,l3,hxj,hg,f1,↓Ai (Nm.eq_1),go_sem,simprocAttr]
    exact Cc hl (by rfl)
   ·intro j kk hj hgd _
    have hxj:xs[j]?=some (xs.getD j ⟨0,0,0⟩):=by simp [List.getD_eq_getElem?_getD,hj]
    generalize xs.getD j ⟨0,0,0⟩=x at hxj hgd
    have hf:xs.all (fun r=>!Dp ws r)=false:=KD _ hxj hgd
    obtain ⟨g,hg⟩:∃ g,fW ws x=g:=⟨_,rfl⟩
    have f1:decide (g.ver=x.ver)=false:=by
     have h0:¬ (AB ws x.level x.index).ver=x.ver:=by simpa [Dp] using hgd
     rw [← hg];exact decide_eq_false h0
    have l1:((j:Int)<(xs.length:Int))=True:=by simpa using hj
    have l2:(0≤(j:Int))=True:=by simp
    simp +contextual -dsimp -implicitDefEqProofs (maxSteps:=5000000) only [l1,l2,hxj,hg,f1,↓Ai (Nm.eq_1),go_sem,simprocAttr]
    exact hbad _ _ hf
   ·intro kk hall
    have l0:decide ((xs.length:Int)<(xs.length:Int))=false:=by simp
    simp +contextual -dsimp -implicitDefEqProofs (maxSteps:=5000000) only [l0,↓Ai (Nm.eq_1),go_sem,simprocAttr]
    exact hend (KC _ ⟨0,0,0⟩ _ hall)
  cases pf
  all_goals
   simp +contextual -dsimp -implicitDefEqProofs (maxSteps:=5000000) only [qw,List.length_map,go_sem,simprocAttr]
   refine key _ _ _ _ (fun h=>?_) (fun _ _ h=>?_)
   ·rw [h];simp +contextual -dsimp -implicitDefEqProofs (maxSteps:=5000000) only [go_sem,simprocAttr]
   ·rw [h];simp +contextual -dsimp -implicitDefEqProofs (maxSteps:=5000000) only [go_sem,simprocAttr]
end Ve
