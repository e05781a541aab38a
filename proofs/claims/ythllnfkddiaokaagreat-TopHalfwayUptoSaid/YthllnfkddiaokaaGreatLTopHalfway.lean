/- The statement TopHalfway. -/
import Derived.Test.YthllnfkddiaokaaGreatS65
import Derived.Test.YthllnfkddiaokaaGreatVeSD
import Derived.Test.YthllnfkddiaokaaGreatVeSF
import Derived.Test.YthllnfkddiaokaaGreatVeSE
import Derived.Test.YthllnfkddiaokaaGreatVeSC
import Derived.Test.YthllnfkddiaokaaGreatVeP
import Derived.Test.YthllnfkddiaokaaGreatPL28
set_option linter.all false
set_option linter.unusedSectionVars false
namespace Ve
open Go Ve.Ab
set_option maxHeartbeats 16000000
set_option maxRecDepth 20000
abbrev hV1 (m:Ac):Hp:=pO Ag 0 (some ⟨11,[.agg (cM true m)],false⟩)
abbrev hV2 (m A:Ac):Hp:=pO (hV1 m) 1 (some ⟨11,[.agg (cM true A)],false⟩)
theorem rE (i:Nat) (m:Ac) (hm:SmM m) (hI:Inv m) (g:Int) (n:Nat) (w:Aj) (hg:g=0∨g=1∨g=2∨g=3) (hw:(m.words.get g)[n]?=some w) (hl:w.lock≠0):Aa (Lv ctx (i+6)) 23 [eM true m,iV g,iV n]=some (bV true):=by
 have hgi:inR g 3=true:=by rw [AE];omega
 obtain ⟨x,hxm,hlk,hfind,hlab,h1,h4⟩:=dY hI hgi hw hl
 obtain ⟨K,hK⟩:=List.getElem?_of_mem hxm
 have hnl:=Ax hw
 have hM:=hI.may
 have hb4:=hM.sl
 have ids:=(HV m.sess none hM.ids).2
 have hid:∀ (j:Nat) y,m.sess[j]?=some y→IntKind.wrap .i64 (y.id+1)=y.id+1:=by
  intro j y hy
  have:=AE.1 ((sp _ _).1 (hM.sess y (List.mem_of_getElem? hy))).id
  exact Bp (by omega) (by omega)
 have uniq:∀ (j:Nat) y,m.sess[j]?=some y→w.lock=y.id+1→y=x:=by
  intro j y hy he
  have hjl:=Ax hy
  have hKl:=Ax hK
  rcases Nat.lt_trichotomy j K with h | h | h
  ·have:=List.pairwise_iff_getElem.1 ids j K hjl hKl h
   rw [List.getElem?_eq_getElem hjl] at hy;rw [List.getElem?_eq_getElem hKl] at hK
   cases hy;cases hK
   omega
  ·subst h;rw [hy] at hK;exact Option.some.inj hK
  ·have:=List.pairwise_iff_getElem.1 ids K j hKl hjl h
   rw [List.getElem?_eq_getElem hjl] at hy;rw [List.getElem?_eq_getElem hKl] at hK
   cases hy;cases hK
   omega
 have hsx:=hm.s x hxm
 have qf:=a0x (i+0) true false x.writes hsx.w g (n:Int)
 rw [hfind] at qf
 simp only [Nat.add_assoc,Nat.reduceAdd] at qf
 have c0:decide (x.label=g)=true:=decide_eq_true hlab
 have n1:(0≤(n:Int))=True:=by simp
 have n2:((n:Int)<((m.words.get g).length:Int))=True:=by simpa using hnl
 refine Af rfl (m.sess.length+1) (by rfl) ?_
 delta c23
 simp +contextual -dsimp -implicitDefEqProofs (maxSteps:=5000000) only [go_sem,simprocAttr]
 refine JK (S:=fun j=>⟨Ad [1,2,3,7] [iV g,iV n,.ip true (cM true m) 0,iV j],Ag,0⟩) m.sess.length (fun j=>!decide (w.lock=(m.sess.getD j (AX ⟨0,0,0,[]⟩)).id+1)) rfl (by omega) ?_ ?_ ?_
 ·intro j kk hj hgd hgl
  have hy:m.sess[j]?=some (m.sess.getD j (AX ⟨0,0,0,[]⟩)):=by simp [List.getD_eq_getElem?_getD,hj]
  generalize m.sess.getD j (AX ⟨0,0,0,[]⟩)=y at hy hgd
  have l1:((j:Int)<(m.sess.length:Int))=True:=by simpa using hj
  have l2:(0≤(j:Int))=True:=by simp
  have l3:=wrN j (by simp only [BB];omega)
  have e1:=hid j y hy
  have c1:decide (w.lock=y.id+1)=false:=by simpa using hgd
  rcases hg with rfl | rfl | rfl | rfl
  all_goals
   simp only [A4.get,simprocAttr] at hw n2 hgl ⊢
   simp +contextual -dsimp -implicitDefEqProofs (maxSteps:=5000000) only [l1,l2,l3,n1,n2,hw,hy,e1,c1,↓Ai (RR.eq_1),eS,eW,go_sem,simprocAttr]
   exact Cc hgl (by rfl)
 ·intro j kk hj hgd _
  have hy:m.sess[j]?=some (m.sess.getD j (AX ⟨0,0,0,[]⟩)):=by simp [List.getD_eq_getElem?_getD,hj]
  generalize m.sess.getD j (AX ⟨0,0,0,[]⟩)=y at hy hgd
  have l1:((j:Int)<(m.sess.length:Int))=True:=by simpa using hj
  have l2:(0≤(j:Int))=True:=by simp
  have e1:=hid j y hy
  have c1':w.lock=y.id+1:=by simpa using hgd
  obtain rfl:y=x:=uniq j y hy c1'
  have c1:decide (w.lock=y.id+1)=true:=decide_eq_true c1'
  have hst:(y.step=1)∨(y.step=2)∨(y.step=3)∨(y.step=4):=by omega
  have d1:decide (y.step=1)=true∨(decide (y.step=1)=false∧(decide (y.step=2)=true∨(decide (y.step=2)=false∧(decide (y.step=3)=true∨(decide (y.step=3)=false∧decide (y.step=4)=true))))):=by
   rcases hst with h | h | h | h<;>simp [h]
  rcases hg with rfl | rfl | rfl | rfl
  all_goals
   simp only [A4.get,simprocAttr] at hw n2 ⊢
   rcases d1 with d1 | ⟨d1,d2 | ⟨d2,d3 | ⟨d3,d4⟩⟩⟩
   ·simp +contextual -dsimp -implicitDefEqProofs (maxSteps:=5000000) only [l1,l2,n1,n2,hw,hy,e1,c1,c0,qf,d1,↓Ai (RR.eq_1),eS,eW,go_sem,simprocAttr]
   ·simp +contextual -dsimp -implicitDefEqProofs (maxSteps:=5000000) only [l1,l2,n1,n2,hw,hy,e1,c1,c0,qf,d1,d2,↓Ai (RR.eq_1),eS,eW,go_sem,simprocAttr]
   ·simp +contextual -dsimp -implicitDefEqProofs (maxSteps:=5000000) only [l1,l2,n1,n2,hw,hy,e1,c1,c0,qf,d1,d2,d3,↓Ai (RR.eq_1),eS,eW,go_sem,simprocAttr]
   ·simp +contextual -dsimp -implicitDefEqProofs (maxSteps:=5000000) only [l1,l2,n1,n2,hw,hy,e1,c1,c0,qf,d1,d2,d3,d4,↓Ai (RR.eq_1),eS,eW,go_sem,simprocAttr]
 ·intro kk hall
  exfalso
  have hKl:=Ax hK
  have:=hall K hKl
  simp only [List.getD_eq_getElem?_getD,hK,Option.getD_some,hlk,decide_true,Bool.not_true,Bool.false_eq_true] at this
theorem mL (i k:Nat) (s:Ap) (m A:Ac) (hm:SmM m) (hA:SmM A) (hI:Inv A) (j0:Int) (back:Bool) (g:Int) (hg:g=0∨g=1∨g=2∨g=3) (hlen:(A.words.get g).length=(m.words.get g).length)
  (hper:∀ (n:Nat) (x:Aj),(m.words.get g)[n]?=some x→∃ y,(A.words.get g)[n]?=some y∧x.ver≤y.ver∧(back=false→x.val=y.val∧x.ver=y.ver))
  (q:Out→St→Option Ans) (Q:V→Hp→Nat→Prop)
  (u:Dum (fun s q=>evC ctx (Lv ctx (i+30)) (Aa (Lv ctx (i+30))) k Wl s (As [1,3,5,9,11,12,13] q))) (w:Dum q) (kk:Nat) (hk:(A.words.get g).length<kk)
  (hend:Fin (q (.exit 4) ⟨Ad [1,3,5,9,11,12] [.ip true (cSc true s) 0,.ptr 0 0 0,iV j0,.ptr 1 0 0,bV back,iV g],hV2 m A,2⟩) Q) :
  GL 2 [1,3,5,9,11,12,13] (fun s q=>evC ctx (Lv ctx (i+30)) (Aa (Lv ctx (i+30))) k Wl s (As [1,3,5,9,11,12,13] q)) q kk ⟨Ad [1,3,5,9,11,12,13] [.ip true (cSc true s) 0,.ptr 0 0 0,iV j0,.ptr 1 0 0,bV back,iV g,iV 0],hV2 m A,2⟩ Q u w:=by
 have hbb:(A.words.get g).length≤4:=by
  have h:=hI.may.arena
  simp only [AS,A4.all,Ch,Bool.and_eq_true,decide_eq_true_eq] at h
  rcases hg with rfl | rfl | rfl | rfl
  ·exact h.1.1.1.1
  ·exact h.1.1.2.1
  ·exact h.1.2.1
  ·exact h.2.1
 refine Kx (S:=fun j=>⟨Ad [1,3,5,9,11,12,13] [.ip true (cSc true s) 0,.ptr 0 0 0,iV j0,.ptr 1 0 0,bV back,iV g,iV j],hV2 m A,2⟩) (A.words.get g).length rfl hk ?_ ?_
 ·intro j kk hj hgl
  obtain ⟨x,hx⟩:∃ x,(m.words.get g)[j]?=some x:=⟨_,List.getElem?_eq_getElem (by omega)⟩
  obtain ⟨y,hy,hv,hcalm⟩:=hper j x hx
  have l1:((j:Int)<((A.words.get g).length:Int))=True:=by simpa using hj
  have l1':((j:Int)<((m.words.get g).length:Int))=True:=by rw [← hlen];simpa using hj
  have l2:(0≤(j:Int))=True:=by simp
  have l3:=wrN j (by simp only [BB];omega)
  have c3:decide (y.ver<x.ver)=false:=by simp;omega
  have qh:=fun hl=>rE (i+24) A hA hI g j y hg hy hl
  simp only [Nat.add_assoc,Nat.reduceAdd] at qh
  cases back
  ·obtain ⟨e1,e2⟩:=hcalm rfl
   have c1:decide (x.val=y.val)=true:=decide_eq_true e1
   have c2:decide (x.ver=y.ver)=true:=decide_eq_true e2
   cases c4:decide (y.lock=0)
   ·have qh:=qh (of_decide_eq_false c4)
    rcases hg with rfl | rfl | rfl | rfl
    all_goals
     simp only [A4.get,simprocAttr] at hx hy l1 l1' hgl ⊢
     simp +contextual -dsimp -implicitDefEqProofs (maxSteps:=5000000) only [l1,l1',l2,l3,hx,hy,c1,c2,c3,c4,qh,↓Ai (Wl.eq_1),eW,go_sem,simprocAttr]
     exact Cc hgl (by rfl)
   ·rcases hg with rfl | rfl | rfl | rfl
    all_goals
     simp only [A4.get,simprocAttr] at hx hy l1 l1' hgl ⊢
     simp +contextual -dsimp -implicitDefEqProofs (maxSteps:=5000000) only [l1,l1',l2,l3,hx,hy,c1,c2,c3,c4,↓Ai (Wl.eq_1),eW,go_sem,simprocAttr]
     exact Cc hgl (by rfl)
  ·cases c4:decide (y.lock=0)
   ·have qh:=qh (of_decide_eq_false c4)
    rcases hg with rfl | rfl | rfl | rfl
    all_goals
     simp only [A4.get,simprocAttr] at hx hy l1 l1' hgl ⊢
     simp +contextual -dsimp -implicitDefEqProofs (maxSteps:=5000000) only [l1,l1',l2,l3,hx,hy,c3,c4,qh,↓Ai (Wl.eq_1),eW,go_sem,simprocAttr]
     exact Cc hgl (by rfl)
   ·rcases hg with rfl | rfl | rfl | rfl
    all_goals
     simp only [A4.get,simprocAttr] at hx hy l1 l1' hgl ⊢
     simp +contextual -dsimp -implicitDefEqProofs (maxSteps:=5000000) only [l1,l1',l2,l3,hx,hy,c3,c4,↓Ai (Wl.eq_1),eW,go_sem,simprocAttr]
     exact Cc hgl (by rfl)
 ·intro kk
  have l0:decide (((A.words.get g).length:Int)<((A.words.get g).length:Int))=false:=by simp
  rcases hg with rfl | rfl | rfl | rfl
  all_goals
   simp only [A4.get,simprocAttr] at l0 ⊢
   simp +contextual -dsimp -implicitDefEqProofs (maxSteps:=5000000) only [l0,↓Ai (Wl.eq_1),go_sem,simprocAttr]
   exact hend
theorem Zn (i k:Nat) (s:Ap) (m A:Ac) (hm:SmM m) (hA:SmM A) (hI:Inv A) (j0:Int) (back:Bool) (hlen:∀ g,inR g 3=true→(A.words.get g).length=(m.words.get g).length)
  (hper:∀ (g:Int) (n:Nat) (x:Aj),inR g 3=true→(m.words.get g)[n]?=some x→∃ y,(A.words.get g)[n]?=some y∧x.ver≤y.ver∧(back=false→x.val=y.val∧x.ver=y.ver))
  (q:Out→St→Option Ans) (Q:V→Hp→Nat→Prop)
  (u:Dum (fun s q=>evC ctx (Lv ctx (i+30)) (Aa (Lv ctx (i+30))) k Wk s (As [1,3,5,9,11,12] q))) (w:Dum q) (kk:Nat) (hk:5<kk) (hk4:5<k)
  (hend:Fin (q (.exit 2) ⟨Ad [1,3,5,9] [.ip true (cSc true s) 0,.ptr 0 0 0,iV j0,.ptr 1 0 0],hV2 m A,2⟩) Q) :
  GL 2 [1,3,5,9,11,12] (fun s q=>evC ctx (Lv ctx (i+30)) (Aa (Lv ctx (i+30))) k Wk s (As [1,3,5,9,11,12] q)) q kk ⟨Ad [1,3,5,9,11,12] [.ip true (cSc true s) 0,.ptr 0 0 0,iV j0,.ptr 1 0 0,bV back,iV 0],hV2 m A,2⟩ Q u w:=by
 obtain ⟨kk,rfl⟩:∃ n,kk=n+6:=⟨kk - 6,by omega⟩
 have hbb:∀ g,inR g 3=true→(A.words.get g).length≤4:=by
  intro g hg
  have h:=hI.may.arena
  simp only [AS,A4.all,Ch,Bool.and_eq_true,decide_eq_true_eq] at h
  rcases ER hg with rfl | rfl | rfl | rfl
  ·exact h.1.1.1.1
  ·exact h.1.1.2.1
  ·exact h.1.2.1
  ·exact h.2.1
 have key:=fun g hg hgi q Q u w kk hk he=>mL i k s m A hm hA hI j0 back g hg (hlen g hgi) (fun n x hx=>hper g n x hgi hx) q Q u w kk hk he
 have b0:=hbb 0 (by decide)
 have b1:=hbb 1 (by decide)
 have b2:=hbb 2 (by decide)
 have b3:=hbb 3 (by decide)
 have e0:=hlen 0 (by decide)
 have e1:=hlen 1 (by decide)
 have e2:=hlen 2 (by decide)
 have e3:=hlen 3 (by decide)
 have n0:decide ((A.words.a0.length:Int)=(m.words.a0.length:Int))=true:=by have e:A.words.a0.length=m.words.a0.length:=e0;simp [e]
 have n1:decide ((A.words.a1.length:Int)=(m.words.a1.length:Int))=true:=by have e:A.words.a1.length=m.words.a1.length:=e1;simp [e]
 have n2:decide ((A.words.a2.length:Int)=(m.words.a2.length:Int))=true:=by have e:A.words.a2.length=m.words.a2.length:=e2;simp [e]
 have n3:decide ((A.words.a3.length:Int)=(m.words.a3.length:Int))=true:=by have e:A.words.a3.length=m.words.a3.length:=e3;simp [e]
 clear hper hlen
 cases back
 all_goals
  simp +contextual -dsimp -implicitDefEqProofs (maxSteps:=5000000) only [gLs 2 [1,3,5,9,11,12],↓Ai (Wk.eq_1),n0,go_sem,simprocAttr]
  refine key 0 (by simp) (by decide) _ _ _ _ _ (by omega) ?_
  simp +contextual -dsimp -implicitDefEqProofs (maxSteps:=5000000) only [gLs 2 [1,3,5,9,11,12],↓Ai (Wk.eq_1),n1,go_sem,simprocAttr]
  refine key 1 (by simp) (by decide) _ _ _ _ _ (by omega) ?_
  simp +contextual -dsimp -implicitDefEqProofs (maxSteps:=5000000) only [gLs 2 [1,3,5,9,11,12],↓Ai (Wk.eq_1),n2,go_sem,simprocAttr]
  refine key 2 (by simp) (by decide) _ _ _ _ _ (by omega) ?_
  simp +contextual -dsimp -implicitDefEqProofs (maxSteps:=5000000) only [gLs 2 [1,3,5,9,11,12],↓Ai (Wk.eq_1),n3,go_sem,simprocAttr]
  refine key 3 (by simp) (by decide) _ _ _ _ _ (by omega) ?_
  simp +contextual -dsimp -implicitDefEqProofs (maxSteps:=5000000) only [gLs 2 [1,3,5,9,11,12],↓Ai (Wk.eq_1),go_sem,simprocAttr]
  exact hend
theorem yN (i k:Nat) (s:Ap) (hs:Cj s) (q:Out→St→Option Ans) (Q:V→Hp→Nat→Prop)
  (u:Dum (fun s q=>evC ctx (Lv ctx (i+30)) (Aa (Lv ctx (i+30))) k XZ s (As [1,3,5] q))) (w:Dum q) (hk4:5<k)
  (hend:∀ m,Fin (q (.exit 0) ⟨Ad [] [],hV1 m,1⟩) Q):∀ (suf pre:List AO) (kk:Nat) (m:Ac),s.slots=pre++suf→suf.length<kk→Do m→SmM m→suf.all AF=true →
  GL 1 [1,3,5] (fun s q=>evC ctx (Lv ctx (i+30)) (Aa (Lv ctx (i+30))) k XZ s (As [1,3,5] q)) q kk ⟨Ad [1,3,5] [.ip true (cSc true s) 0,.ptr 0 0 0,iV pre.length],hV1 m,1⟩ Q u w
 | [],pre,kk,m,hxs,hk,hI,hm,ha=>by
  obtain ⟨kk,rfl⟩:∃ m,kk=m+1:=⟨kk - 1,by simp at hk;omega⟩
  have h1:decide ((pre.length:Int)<s.slots.length)=false:=by simp [hxs]
  have he:=hend m
  simp +contextual -dsimp -implicitDefEqProofs (maxSteps:=5000000) only [gLs,↓Ai (XZ.eq_1),h1,go_sem,simprocAttr]
  exact he
 | a::suf,pre,kk,m,hxs,hk,hI,hm,ha=>by
  obtain ⟨kk,rfl⟩:∃ m,kk=m+1:=⟨kk - 1,by simp at hk;omega⟩
  have hlt:pre.length<s.slots.length:=by simp [hxs]
  have l1:((pre.length:Int)<s.slots.length)=True:=by simpa using hlt
  have l2:(0≤(pre.length:Int))=True:=by simp
  have l3:=wrN pre.length (by have:=hs.bsl;simp only [BB];omega)
  have hg:s.slots[pre.length]?=some a:=by simp [hxs]
  simp only [List.all_cons,Bool.and_eq_true] at ha
  obtain ⟨ha1,ha2⟩:=ha
  have hA:=Km hm a
  have hI':=Ih hI ha1
  obtain ⟨e0,_,_,_,_⟩:=FY hI.inv ha1
  have hlen:=fun g hg=>LC hI ha1 g hg
  have hword:=fun g n x hg hx=>QE hI ha1 g n x hg hx
  have qw:=YD (i+10) true m hm a.level a.pick
  have qs:=OM (i+2) true m hm a.level a.pick
  have hwc:=Hf hI.inv.may ha1
  rw [e0] at qs
  simp only [Nat.add_assoc,Nat.reduceAdd] at qw qs
  have ih:=yN i k s hs q Q u w hk4 hend suf (pre++[a]) kk (AQ m a).1 (by simp [hxs]) (by simpa using hk) hI' hA ha2
  simp only [Ah] at ih
  have key:=fun back hp q Q u w kk hk he=>Zn i k s m (AQ m a).1 hm hA hI'.inv (pre.length:Int) back hlen hp q Q u w kk hk hk4 he
  rcases hwc with hw | ⟨j,y,hw,hy,_,_⟩
  ·have hnb:¬ pB m a:=by rintro ⟨k,s,h,_⟩;rw [hw] at h;simp at h
   have key:=key false (fun g n x hg hx=>by
    obtain ⟨y,h1,h2⟩:=hword g n x hg hx
    exact ⟨y,h1,h2.ver,fun _=>⟨(h2.calm hnb).1.symm,(h2.calm hnb).2.symm⟩⟩)
   have ew:CU m ⟨a.level,a.pick⟩=(0,false,0):=hw
   rw [ew] at qw
   clear hlen hword hw ew hI' hnb
   generalize (AQ m a).1=A at *
   simp +contextual -dsimp -implicitDefEqProofs (maxSteps:=5000000) only [gLs,↓Ai (XZ.eq_1),l1,l2,l3,hg,qw,qs,go_sem,simprocAttr]
   refine key _ _ _ _ _ (by omega) ?_
   simp +contextual -dsimp -implicitDefEqProofs (maxSteps:=5000000) only [l3,go_sem,simprocAttr]
   exact (Av (by rfl)).mpr ih
  ·have ew:CU m ⟨a.level,a.pick⟩=((j:Int),true,0):=hw
   rw [ew] at qw
   have hjl:=Ax hy
   have z1:decide ((j:Int)<0)=false:=by simp
   have z2:decide ((m.sess.length:Int)≤(j:Int))=false:=by simp;omega
   have z3:((j:Int)<(m.sess.length:Int))=True:=by simpa using hjl
   have z4:(0≤(j:Int))=True:=by simp
   cases c4:decide (y.step=4)
   ·have hnb:¬ pB m a:=by
     rintro ⟨k,s,h,h2,h3⟩
     rw [hw] at h
     simp only [Prod.mk.injEq] at h
     obtain rfl:j=k:=by omega
     rw [hy] at h2;cases h2
     exact of_decide_eq_false c4 h3
    have key:=key false (fun g n x hg hx=>by
     obtain ⟨y,h1,h2⟩:=hword g n x hg hx
     exact ⟨y,h1,h2.ver,fun _=>⟨(h2.calm hnb).1.symm,(h2.calm hnb).2.symm⟩⟩)
    clear hlen hword hw ew hI' hnb
    generalize (AQ m a).1=A at *
    simp +contextual -dsimp -implicitDefEqProofs (maxSteps:=5000000) only [gLs,↓Ai (XZ.eq_1),l1,l2,l3,hg,qw,qs,z1,z2,z3,z4,hy,c4,eS,go_sem,simprocAttr]
    refine key _ _ _ _ _ (by omega) ?_
    simp +contextual -dsimp -implicitDefEqProofs (maxSteps:=5000000) only [l3,go_sem,simprocAttr]
    exact (Av (by rfl)).mpr ih
   ·have key:=key true (fun g n x hg hx=>by
     obtain ⟨y,h1,h2⟩:=hword g n x hg hx
     exact ⟨y,h1,h2.ver,fun h=>by cases h⟩)
    clear hlen hword hw ew hI'
    generalize (AQ m a).1=A at *
    simp +contextual -dsimp -implicitDefEqProofs (maxSteps:=5000000) only [gLs,↓Ai (XZ.eq_1),l1,l2,l3,hg,qw,qs,z1,z2,z3,z4,hy,c4,eS,go_sem,simprocAttr]
    refine key _ _ _ _ _ (by omega) ?_
    simp +contextual -dsimp -implicitDefEqProofs (maxSteps:=5000000) only [l3,go_sem,simprocAttr]
    exact (Av (by rfl)).mpr ih
theorem u_TopHalfway (i:Nat) (s:Ap) (hs:Cj s) (haw:Aa (Lv ctx (i+30)) 15 []=some (bV true)):Aa (Lv ctx (i+31)) 4 [eSc true s]=some (bV true):=by
 have q1:=MM (i+10) true s hs
 have q2:=YI (i+21) true s hs
 simp only [Nat.add_assoc,Nat.reduceAdd] at q1 q2
 rcases Xn (s:=s) with ⟨h0,hM⟩ | h0
 ·rw [h0] at q1
  have hI2:=Ip hM
  have hsm:=Et hs
  cases hsc:Az s
  ·rw [hsc] at q2
   have qz:=fun p q=>Bq (i+(30 - 3)) p q (AC s) AA hsm
   generalize AC s=m at q1 qz
   simp only [eM,cM,eWs,eSs,eEs,Nat.add_assoc,Nat.reduceAdd,Nat.reduceSub] at qz
   simp only [show AA.words.a0=[] from rfl,show AA.words.a1=[] from rfl,show AA.words.a2=[] from rfl,show AA.words.a3=[] from rfl,show AA.sess=[] from rfl,show AA.trace=[] from rfl,show AA.clocks.a0=0 from rfl,show AA.clocks.a1=0 from rfl,show AA.clocks.a2=0 from rfl,show AA.clocks.a3=0 from rfl,show AA.ceil=0 from rfl,List.map_nil] at qz
   generalize decide (m=AA)=B at qz
   refine Af rfl 0 (by rfl) ?_
   delta c4
   cases B<;>simp +contextual -dsimp -implicitDefEqProofs (maxSteps:=5000000) only [haw,q1,q2,qz,go_sem,simprocAttr]
  ·rw [hsc] at q2
   have hsl:s.slots.all AF=true:=by simp only [Az,Bool.and_eq_true] at hsc;exact hsc.2
   have key:=fun kf q Q u w hk hend kk hkk=>yN i kf s hs q Q u w hk hend s.slots [] kk (AC s) (by simp) hkk hI2 hsm hsl
   simp only [List.length_nil,Int.natCast_zero] at key
   generalize AC s=m at q1 key
   refine Af rfl (s.slots.length+7) (by rfl) ?_
   delta c4
   simp +contextual -dsimp -implicitDefEqProofs (maxSteps:=5000000) only [haw,q1,q2,go_sem,simprocAttr]
   refine key _ _ _ _ _ (by omega) ?_ _ (by omega)
   intro m
   simp +contextual -dsimp -implicitDefEqProofs (maxSteps:=5000000) only [go_sem,simprocAttr]
 ·rw [h0] at q1
  have qz:=fun p q=>Bq (i+(30 - 3)) p q AA AA CQ
  simp only [AA,eM,cM,eWs,eSs,eEs,List.map_nil,decide_true,Nat.add_assoc,Nat.reduceAdd,Nat.reduceSub] at qz
  simp only [Bh] at q1
  refine Af rfl 0 (by rfl) ?_
  delta c4
  simp +contextual -dsimp -implicitDefEqProofs (maxSteps:=5000000) only [haw,q1,qz,go_sem,simprocAttr]
end Ve
