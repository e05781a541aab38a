/- The statement SlotLevels. -/
import Derived.Test.YtokhplohcachjaaGreatVeSF
import Derived.Test.YtokhplohcachjaaGreatVeSD
import Derived.Test.YtokhplohcachjaaGreatVeP
set_option linter.all false
set_option linter.unusedSectionVars false
namespace Ve
open Go Ve.Ab
set_option maxHeartbeats 16000000
set_option maxRecDepth 20000
def Du (m A:Ad) (j:Nat):Nat:=((List.range j).filter fun x=>!decide (A.sess[x]?=m.sess[x]?)).length
theorem Rf (m A:Ad) (j:Nat):Du m A (j+1)=Du m A j+if A.sess[j]?=m.sess[j]? then 0 else 1:=by
 unfold Du
 rw [List.range_succ,List.filter_append]
 by_cases h:A.sess[j]?=m.sess[j]?<;>simp [h]
theorem PH (i k:Nat) (q:Out→St→Option Ans) (Q:V→Hp→Nat→Prop) (m A:Ad) (hm:SmM m) (hmA:SmM A) (lv pk:Int) (hAl:A.sess.length=m.sess.length) (hl4:m.sess.length≤4)
  (hw:∀ (j:Nat) (x y:Ag),m.sess[j]?=some x→A.sess[j]?=some y→x≠y→x.label=lv∧x.step≠6)
  (u:Dum (fun s q=>evC ctx (Lv ctx (i+29)) (Aa (Lv ctx (i+29))) k Nq s (Aq [2,3,5,7,8] q))) (w:Dum q) (kk:Nat) (hk:m.sess.length<kk) :
  GL 1 [2,3,5,7,8] (fun s q=>evC ctx (Lv ctx (i+29)) (Aa (Lv ctx (i+29))) k Nq s (Aq [2,3,5,7,8] q)) q kk ⟨Ae [2,3,5,7,8] [.ip true (cM true m) 0,.ip true [iV lv,iV pk] 0,.ptr 0 0 0,iV 0,iV 0],pO Af 0 (some ⟨11,[eM true A],false⟩),1⟩ Q u w
  = Fin (q (.exit 0) ⟨Ae [5,7] [.ptr 0 0 0,iV (Du m A m.sess.length)],pO Af 0 (some ⟨11,[eM true A],false⟩),1⟩) Q:=by
 have key:∀ (d j kk:Nat),j+d=m.sess.length→d<kk→Du m A j≤j →
  GL 1 [2,3,5,7,8] (fun s q=>evC ctx (Lv ctx (i+29)) (Aa (Lv ctx (i+29))) k Nq s (Aq [2,3,5,7,8] q)) q kk ⟨Ae [2,3,5,7,8] [.ip true (cM true m) 0,.ip true [iV lv,iV pk] 0,.ptr 0 0 0,iV (Du m A j),iV j],pO Af 0 (some ⟨11,[eM true A],false⟩),1⟩ Q u w
  = Fin (q (.exit 0) ⟨Ae [5,7] [.ptr 0 0 0,iV (Du m A m.sess.length)],pO Af 0 (some ⟨11,[eM true A],false⟩),1⟩) Q:=by
  intro d
  induction d with
  | zero =>
   intro j kk hj hk ht
   obtain ⟨kk,rfl⟩:∃ n,kk=n+1:=⟨kk - 1,by omega⟩
   obtain rfl:j=m.sess.length:=by omega
   have l0:decide ((m.sess.length:Int)<(m.sess.length:Int))=false:=by simp
   simp +contextual -dsimp -implicitDefEqProofs (maxSteps:=5000000) only [gLs,↓Aj (Nq.eq_1),l0,go_sem,simprocAttr]
  | succ d ih =>
   intro j kk hj hk ht
   obtain ⟨kk,rfl⟩:∃ n,kk=n+1:=⟨kk - 1,by omega⟩
   have hjl:j<m.sess.length:=by omega
   obtain ⟨x,hx0⟩:∃ x,m.sess[j]?=some x:=⟨_,List.getElem?_eq_getElem hjl⟩
   obtain ⟨y,hy0⟩:∃ y,A.sess[j]?=some y:=⟨_,List.getElem?_eq_getElem (by omega)⟩
   have ts:=Rf m A j
   have ih:=ih (j+1) kk (by omega) (by omega) (by rw [ts];split<;>omega)
   have l1:((j:Int)<(m.sess.length:Int))=True:=by simpa using hjl
   have l1':((j:Int)<(A.sess.length:Int))=True:=by rw [hAl];exact l1
   have l2:(0≤(j:Int))=True:=by simp
   have l3:=wrN j (by simp only [BB];omega)
   have hsx:=hmA.s y (List.mem_of_getElem? hy0)
   have qs:=fun p1 p2 p3 q1 q2 q3=>Ig (i+27) p1 p2 p3 q1 q2 q3 y x hsx.p hsx.r hsx.w
   simp only [Nat.add_assoc,Nat.reduceAdd] at qs
   rw [hx0,hy0] at ts
   by_cases hxy:y=x
   ·have hd:decide (y=x)=true:=by simpa using hxy
    rw [hd] at qs
    rw [if_pos (by rw [hxy]),Nat.add_zero] at ts
    rw [ts] at ih
    simp +contextual -dsimp -implicitDefEqProofs (maxSteps:=5000000) only [gLs,↓Aj (Nq.eq_1),l1,l1',l2,l3,hx0,hy0,eS,qs,go_sem,simprocAttr]
    exact (BF (by rfl)).trans ih
   ·have hd:decide (y=x)=false:=by simpa using hxy
    rw [hd] at qs
    rw [if_neg (by simpa using hxy)] at ts
    rw [ts] at ih
    obtain ⟨g1,g2⟩:=hw j x y hx0 hy0 (Ne.symm hxy)
    have v1:decide (x.label=lv)=true:=by simpa using g1
    have v2:decide (x.step=6)=false:=by simpa using g2
    have l4:=wrN (Du m A j) (by simp only [BB];omega)
    generalize Du m A j=T at *
    simp +contextual -dsimp -implicitDefEqProofs (maxSteps:=5000000) only [gLs,↓Aj (Nq.eq_1),l1,l1',l2,l3,l4,v1,v2,hx0,hy0,eS,qs,go_sem,simprocAttr]
    exact (BF (by rfl)).trans ih
 have:=key m.sess.length 0 kk (by omega) hk (by simp [Du])
 simpa only [Du,List.range_zero,List.filter_nil,List.length_nil,Int.natCast_zero] using this
theorem u_SlotLevels (i:Nat) (m:Ad) (hm:SmM m) (lv pk:Int) (haw:Aa (Lv ctx (i+29)) 32 []=some (bV true)) (hst:Aa (Lv ctx (i+29)) 34 [iV 0,iV 0]=some (oM MB)):Aa (Lv ctx (i+30)) 14 [eM true m,.agg [iV lv,iV pk]]=some (bV true):=by
 have hz:=Ft (i+26) true false
 have hz':=Ft (i+26) false false
 have h2:=Pj (i+1) true m hm lv pk
 simp only [Nat.add_assoc,Nat.reduceAdd] at hz hz' h2
 simp only [MB,oM,cO,oWs,oSs,oEs,oIs,oRs,Fy,List.map_cons,List.map_nil,oS,eI,eR,eWr,eW,eE] at hst
 have hmA:=Pf hm ⟨lv,pk⟩
 have main:CY m=true→(Bt m ⟨lv,pk⟩).2=0→CY (Bt m ⟨lv,pk⟩).1=true→(Bt m ⟨lv,pk⟩).1.sess.length=m.sess.length→Du m (Bt m ⟨lv,pk⟩).1 m.sess.length≤1 →
   (∀ (j:Nat) (x y:Ag),m.sess[j]?=some x→(Bt m ⟨lv,pk⟩).1.sess[j]?=some y→x≠y→x.label=lv∧x.step≠6)→Aa (Lv ctx (i+30)) 14 [eM true m,.agg [iV lv,iV pk]]=some (bV true):=by
  intro hM h0 hMA hAl ht hw
  rw [h0] at h2
  generalize (Bt m ⟨lv,pk⟩).1=A at h2 hmA hMA hAl ht hw
  have hl4:=((RO m).1 hM).sl
  have f0:=fun kf q Q u w kk hk=>PH i kf q Q m A hm hmA lv pk hAl hl4 hw u w kk hk
  have qm:=fun p=>UL (i+22) p A hmA
  rw [hMA] at qm
  have z1:decide ((A.sess.length:Int)=(m.sess.length:Int))=true:=by rw [hAl];simp
  have z2:decide (((Du m A m.sess.length:Nat):Int)≤1)=true:=by simp;omega
  simp only [Nat.add_assoc,Nat.reduceAdd] at qm
  refine Ac rfl (m.sess.length+1) (by rfl) ?_
  delta c14
  simp +contextual -dsimp -implicitDefEqProofs (maxSteps:=5000000) only [haw,h2,z1,go_sem,simprocAttr]
  refine (f0 _ _ _ _ _ _ (by omega)).mpr ?_
  simp +contextual -dsimp -implicitDefEqProofs (maxSteps:=5000000) only [z2,qm,hst,go_sem,simprocAttr]
 rcases eY m ⟨lv,pk⟩ with h | ⟨hM,h⟩ | ⟨k,s,t,hs,hl,hn,h0,W⟩
 ·rw [h,Aw] at h2
  refine Ac rfl 0 (by rfl) ?_
  delta c14
  simp +contextual -dsimp -implicitDefEqProofs (maxSteps:=5000000) only [haw,h2,hz,hz',go_sem,simprocAttr]
 ·refine main hM (by rw [h]) (by rw [h];exact hM) (by rw [h]) ?_ ?_
  ·rw [h]
   have:∀ j,Du m m j=0:=by intro j;simp [Du]
   rw [this];omega
  ·rw [h]
   intro j x y hx hy hxy
   rw [hx] at hy;exact absurd (Option.some.inj hy) hxy
 ·have hM:CY m=true:=by
   rcases YL (m:=m) (x:=⟨lv,pk⟩) with g | ⟨g,_⟩ | ⟨_,_,g,_⟩
   ·exfalso;unfold Bt at h0;rw [g] at h0;simp at h0
   ·exact g
   ·exact g
  have ho:∀ j,j≠k→(Bt m ⟨lv,pk⟩).1.sess[j]?=m.sess[j]?:=fun j hj=>by rw [W.sess];exact List.getElem?_set_ne (Ne.symm hj)
  refine main hM h0 ((RO _).2 W.may) (by rw [W.sess];exact List.length_set ..) ?_ ?_
  ·have:∀ j,Du m (Bt m ⟨lv,pk⟩).1 j≤if k<j then 1 else 0:=by
    intro j
    induction j with
    | zero=>simp [Du]
    | succ j ih =>
     rw [Rf]
     by_cases hj:j=k
     ·subst hj
      split at ih<;>split<;>split<;>omega
     ·rw [if_pos (ho j hj)]
      split at ih<;>split<;>omega
   have h1:=this m.sess.length
   split at h1<;>omega
  ·intro j x y hx hy hxy
   by_cases hj:j=k
   ·subst hj
    rw [hs] at hx;cases hx
    exact ⟨hl,hn⟩
   ·rw [ho j hj,hx] at hy
    exact absurd (Option.some.inj hy) hxy
end Ve
