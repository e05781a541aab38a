/- The statement TopSerial. -/
import Derived.Test.YthllnfkddiaokaaGreatS65
import Derived.Test.YthllnfkddiaokaaGreatVeSD
import Derived.Test.YthllnfkddiaokaaGreatVeSF
import Derived.Test.YthllnfkddiaokaaGreatVeSE
import Derived.Test.YthllnfkddiaokaaGreatVeSC
import Derived.Test.YthllnfkddiaokaaGreatSAl
import Derived.Test.YthllnfkddiaokaaGreatVeP
import Derived.Test.YthllnfkddiaokaaGreatPL40
set_option linter.all false
set_option linter.unusedSectionVars false
namespace Ve
open Go Ve.Ab
set_option maxHeartbeats 16000000
set_option maxRecDepth 20000
abbrev hT3 (m:Ac) (o:A4 (List Int)):Hp:=pO (pO Ag 0 (some ⟨11,[.agg (cM true m)],false⟩)) 1 (some ⟨4,[.agg [oNs o.a0,oNs o.a1,oNs o.a2,oNs o.a3]],true⟩)
abbrev hT4 (m A:Ac) (o:A4 (List Int)):Hp:=pO (hT3 m o) 2 (some ⟨11,[.agg (cM true A)],false⟩)
def cnd (x y:Ae):Bool:=decide (x.step=3)&&(decide (y.step=4)||(decide (y.step=6)&&decide (y.result=1)))
def n4 (l:List Ae):Nat:=(l.filter fun y=>decide (y.step=4)).length
theorem n4_le (l:List Ae):n4 l≤l.length:=List.length_filter_le _ _
theorem n4_take {l:List Ae} {j:Nat} {y:Ae} (h:l[j]?=some y):n4 (l.take (j+1))=n4 (l.take j)+(if decide (y.step=4)=true then 1 else 0):=by
 rw [List.take_add_one,h]
 unfold n4
 rw [List.filter_append,List.length_append]
 simp only [Option.toList_some,List.filter_cons,List.filter_nil]
 split<;>simp
theorem l2_TS (i kf:Nat) (s:Ap) (hs:Cj s) (m A:Ac) (hl:A.sess.length=m.sess.length) (hl2:m.sess.length=s.starts.length) (hl4:A.sess.length≤4) (i0:Int) (W:Nat→A4 (List Int))
  (hW:∀ (j:Nat) (x y:Ae),m.sess[j]?=some x→A.sess[j]?=some y→(cnd x y=true∧∃ st,s.starts[j]?=some st∧Dg st.prog=true∧tlP st.prog (W j)∧((W j).a0.length≤1048576∧(W j).a1.length≤1048576∧(W j).a2.length≤1048576∧(W j).a3.length≤1048576)∧DT 17 st.prog 0 ⟨0,0,0,0⟩ (W j)=(W (j+1),true))∨(cnd x y=false∧W (j+1)=W j))
  (q:Out→St→Option Ans) (Q:V→Hp→Nat→Prop)
  (u:Dum (fun s q=>evC ctx (Lv ctx (i+30)) (Aa (Lv ctx (i+30))) kf c3_2 s (As [1,3,5,7,8,9,11] q))) (w:Dum q) (kk:Nat) (hk:A.sess.length<kk)
  (hend:Fin (q (.exit 4) ⟨Ad [1,3,5,7,8,9] [.ip true (cSc true s) 0,.ptr 0 0 0,.ptr 1 0 0,iV (n4 A.sess),iV i0,.ptr 2 0 0],hT4 m A (W A.sess.length),3⟩) Q) :
  GL 3 [1,3,5,7,8,9,11] (fun s q=>evC ctx (Lv ctx (i+30)) (Aa (Lv ctx (i+30))) kf c3_2 s (As [1,3,5,7,8,9,11] q)) q kk ⟨Ad [1,3,5,7,8,9,11] [.ip true (cSc true s) 0,.ptr 0 0 0,.ptr 1 0 0,iV 0,iV i0,.ptr 2 0 0,iV 0],hT4 m A (W 0),3⟩ Q u w:=by
 refine Kx (S:=fun j=>⟨Ad [1,3,5,7,8,9,11] [.ip true (cSc true s) 0,.ptr 0 0 0,.ptr 1 0 0,iV (n4 (A.sess.take j)),iV i0,.ptr 2 0 0,iV j],hT4 m A (W j),3⟩) A.sess.length rfl hk ?_ ?_
 ·intro j kk hj hgl
  obtain ⟨y,hy⟩:∃ y,A.sess[j]?=some y:=⟨_,List.getElem?_eq_getElem hj⟩
  obtain ⟨x,hx⟩:∃ x,m.sess[j]?=some x:=⟨_,List.getElem?_eq_getElem (by omega)⟩
  have e1:=n4_take hy
  have hU:n4 (A.sess.take j)≤4:=Nat.le_trans (n4_le _) (by rw [List.length_take];omega)
  have wUn:=wrN (n4 (A.sess.take j)) (by simp only [BB];omega)
  have l1:((j:Int)<(A.sess.length:Int))=True:=by simpa using hj
  have l1':((j:Int)<(m.sess.length:Int))=True:=by rw [← hl];simpa using hj
  have l1'':((j:Int)<(s.starts.length:Int))=True:=by rw [← hl2,← hl];simpa using hj
  have l2:(0≤(j:Int))=True:=by simp
  have l3:=wrN j (by simp only [BB];omega)
  rcases hW j x y hx hy with ⟨hc,st,hst,hp,hT,⟨b0,b1,b2,b3⟩,hgo⟩ | ⟨hc,hWe⟩
  ·have qa:=s_alone (i+29) false st.prog hp (W j) hT b0 b1 b2 b3 (W (j+1)) hgo
   simp only [Nat.add_assoc,Nat.reduceAdd] at qa
   unfold cnd at hc
   simp only [Bool.and_eq_true] at hc
   obtain ⟨c1,hc⟩:=hc
   rw [e1] at hgl
   clear hgo hW e1
   generalize W (j+1)=o' at qa hgl
   generalize W j=o at qa b0 b1 b2 b3 hT ⊢
   cases c2:decide (y.step=4)
   ·rw [c2] at hc hgl
    simp only [Bool.false_or,Bool.and_eq_true] at hc
    obtain ⟨c3,c4⟩:=hc
    simp only [Bool.false_eq_true,if_false,Nat.add_zero] at hgl
    simp +contextual -dsimp -implicitDefEqProofs (maxSteps:=5000000) only [l1,l1',l1'',l2,l3,hx,hy,hst,c1,c2,c3,c4,qa,↓Ai (c3_2.eq_1),eS,eSt,go_sem,simprocAttr]
    exact Cc hgl (by rfl)
   ·rw [c2] at hgl
    simp only [if_true] at hgl
    simp +contextual -dsimp -implicitDefEqProofs (maxSteps:=5000000) only [l1,l1',l1'',l2,l3,hx,hy,hst,c1,c2,wUn,qa,↓Ai (c3_2.eq_1),eS,eSt,go_sem,simprocAttr]
    exact Cc hgl (by rfl)
  ·rw [hWe,e1] at hgl
   clear hW e1 hWe
   generalize W j=o at hgl ⊢
   unfold cnd at hc
   cases c1:decide (x.step=3)
   ·cases c2:decide (y.step=4)
    ·rw [c2] at hgl
     simp only [Bool.false_eq_true,if_false,Nat.add_zero] at hgl
     simp +contextual -dsimp -implicitDefEqProofs (maxSteps:=5000000) only [l1,l1',l2,l3,hx,hy,c1,c2,↓Ai (c3_2.eq_1),eS,go_sem,simprocAttr]
     exact Cc hgl (by rfl)
    ·rw [c2] at hgl
     simp only [if_true] at hgl
     simp +contextual -dsimp -implicitDefEqProofs (maxSteps:=5000000) only [l1,l1',l2,l3,hx,hy,c1,c2,wUn,↓Ai (c3_2.eq_1),eS,go_sem,simprocAttr]
     exact Cc hgl (by rfl)
   ·rw [c1] at hc
    simp only [Bool.true_and,Bool.or_eq_false_iff] at hc
    obtain ⟨c2,hc⟩:=hc
    rw [c2] at hgl
    simp only [Bool.false_eq_true,if_false,Nat.add_zero] at hgl
    cases c3:decide (y.step=6)
    ·simp +contextual -dsimp -implicitDefEqProofs (maxSteps:=5000000) only [l1,l1',l2,l3,hx,hy,c1,c2,c3,↓Ai (c3_2.eq_1),eS,go_sem,simprocAttr]
     exact Cc hgl (by rfl)
    ·rw [c3,Bool.true_and] at hc
     simp +contextual -dsimp -implicitDefEqProofs (maxSteps:=5000000) only [l1,l1',l2,l3,hx,hy,c1,c2,c3,hc,↓Ai (c3_2.eq_1),eS,go_sem,simprocAttr]
     exact Cc hgl (by rfl)
 ·intro kk
  have l0:decide ((A.sess.length:Int)<(A.sess.length:Int))=false:=by simp
  rw [List.take_length]
  simp +contextual -dsimp -implicitDefEqProofs (maxSteps:=5000000) only [l0,↓Ai (c3_2.eq_1),go_sem,simprocAttr]
  exact hend
theorem l3_TS (i kf:Nat) (s:Ap) (hs:Cj s) (q:Out→St→Option Ans) (Q:V→Hp→Nat→Prop)
  (u:Dum (fun s q=>evC ctx (Lv ctx (i+30)) (Aa (Lv ctx (i+30))) kf c3_3 s (As [1,3,5,7,8] q))) (w:Dum q) (hk4:5<kf)
  (hend:∀ m o g,Ser m g→Rows m.words o g→Do m→SmM m→Fin (q (.exit 2) ⟨Ad [3,5,7] [.ptr 0 0 0,.ptr 1 0 0,iV (n4 m.sess)],hT3 m o,2⟩) Q):∀ (suf pre:List AO) (kk:Nat) (m:Ac) (o:A4 (List Int)) (g:Int→Int→Int),s.slots=pre++suf→suf.length<kk→Do m→SmM m→suf.all AF=true→Ser m g→Rows m.words o g→m.sess.map (·.prog)=s.starts.map (·.prog) →
  GL 2 [1,3,5,7,8] (fun s q=>evC ctx (Lv ctx (i+30)) (Aa (Lv ctx (i+30))) kf c3_3 s (As [1,3,5,7,8] q)) q kk ⟨Ad [1,3,5,7,8] [.ip true (cSc true s) 0,.ptr 0 0 0,.ptr 1 0 0,iV (n4 m.sess),iV pre.length],hT3 m o,2⟩ Q u w
 | [],pre,kk,m,o,g,hxs,hk,hI,hm,ha,hR,hO,hP=>by
  obtain ⟨kk,rfl⟩:∃ m,kk=m+1:=⟨kk - 1,by simp at hk;omega⟩
  have h1:decide ((pre.length:Int)<s.slots.length)=false:=by simp [hxs]
  have he:=hend m o g hR hO hI hm
  simp +contextual -dsimp -implicitDefEqProofs (maxSteps:=5000000) only [gLs,↓Ai (c3_3.eq_1),h1,go_sem,simprocAttr]
  exact he
 | a::suf,pre,kk,m,o,g,hxs,hk,hI,hm,ha,hR,hO,hP=>by
  obtain ⟨kk,rfl⟩:∃ m,kk=m+1:=⟨kk - 1,by simp at hk;omega⟩
  have hlt:pre.length<s.slots.length:=by simp [hxs]
  have l1:((pre.length:Int)<s.slots.length)=True:=by simpa using hlt
  have l2:(0≤(pre.length:Int))=True:=by simp
  have l3:=wrN pre.length (by have:=hs.bsl;simp only [BB];omega)
  have hg:s.slots[pre.length]?=some a:=by simp [hxs]
  simp only [List.all_cons,Bool.and_eq_true] at ha
  obtain ⟨ha1,ha2⟩:=ha
  have hA:=Km hm a
  have hI':=Ih hI ha1
  obtain ⟨e0,_,_,_,_⟩:=FY hI.inv ha1
  have qs:=OM (i+2) true m hm a.level a.pick
  rw [e0] at qs
  simp only [Nat.add_assoc,Nat.reduceAdd] at qs
  have hl2:m.sess.length=s.starts.length:=by have:=congrArg List.length hP;simpa using this
  have hm4:m.sess.length≤4:=hI.inv.may.sl
  have hb4:o.a0.length≤4∧o.a1.length≤4∧o.a2.length≤4∧o.a3.length≤4:=by
   have h:=hI.inv.may.arena
   simp only [AS,A4.all,Ch,Bool.and_eq_true,decide_eq_true_eq] at h
   have r0:o.a0.length=m.words.a0.length:=hO.len 0 (by decide)
   have r1:o.a1.length=m.words.a1.length:=hO.len 1 (by decide)
   have r2:o.a2.length=m.words.a2.length:=hO.len 2 (by decide)
   have r3:o.a3.length=m.words.a3.length:=hO.len 3 (by decide)
   rw [r0,r1,r2,r3]
   exact ⟨h.1.1.1.1,h.1.1.2.1,h.1.2.1,h.2.1⟩
  -- what the slot does
  obtain ⟨A,eA,o',g',W,hW0,hWn,hAl,hAP,hR',hO',hW⟩:∃ (A:Ac) (eA:(AQ m a).1=A) (o':A4 (List Int)) (g':Int→Int→Int) (W:Nat→A4 (List Int)),W 0=o∧W A.sess.length=o'∧A.sess.length=m.sess.length∧A.sess.map (·.prog)=s.starts.map (·.prog)∧Ser A g'∧Rows A.words o' g' ∧
    (∀ (j:Nat) (x y:Ae),m.sess[j]?=some x→A.sess[j]?=some y→(cnd x y=true∧∃ st,s.starts[j]?=some st∧Dg st.prog=true∧tlP st.prog (W j)∧((W j).a0.length≤1048576∧(W j).a1.length≤1048576∧(W j).a2.length≤1048576∧(W j).a3.length≤1048576)∧DT 17 st.prog 0 ⟨0,0,0,0⟩ (W j)=(W (j+1),true))∨(cnd x y=false∧W (j+1)=W j)):=by
   have same:∀ x:Ae,cnd x x=false:=by
    intro x
    unfold cnd
    by_cases h:x.step=3
    ·simp [h]
    ·simp [h]
   rcases serial_slot hI ha1 hR hO with ⟨h,_⟩ | ⟨k,x0,t,o',g',_,hx0,hset,hpr,hcase,hR',hO'⟩
   ·refine ⟨m,by rw [h],o,g,fun _=>o,rfl,rfl,rfl,hP,hR,hO,fun j x y hx hy=>.inr ⟨?_,rfl⟩⟩
    rw [hx] at hy;cases hy;exact same x
   ·have hkl:=Ax hx0
    refine ⟨(AQ m a).1,rfl,o',g',fun j=>if j≤k then o else o',if_pos (Nat.zero_le _),if_neg ?_,?_,?_,hR',hO',fun j x y hx hy=>?_⟩
    ·rw [hset,List.length_set];omega
    ·rw [hset,List.length_set]
    ·rw [hset,List.map_set,hpr,← hP]
     apply List.ext_getElem?
     intro n
     by_cases hn:n=k
     ·subst hn
      rw [List.getElem?_set_self (by simpa using hkl),List.getElem?_map,hx0];rfl
     ·rw [List.getElem?_set_ne (by omega)]
    ·by_cases hjk:j=k
     ·subst hjk
      rw [hset,List.getElem?_set_self hkl] at hy
      cases hy
      rw [hx0] at hx;cases hx
      dsimp only
      rw [if_pos (Nat.le_refl _),if_neg (by omega)]
      rcases hcase with ⟨c1,c2,hgo⟩ | ⟨hn,he⟩
      ·left
       refine ⟨?_,?_⟩
       ·unfold cnd
        rcases c2 with c2 | ⟨c2,c3⟩<;>simp [*]
       ·have hst:(s.starts.map (·.prog))[j]?=some x0.prog:=by rw [← hP,List.getElem?_map,hx0];rfl
        rw [List.getElem?_map] at hst
        obtain ⟨st,hst1,hst2⟩:=Option.map_eq_some_iff.1 hst
        have hS:=BU hx0 hI.inv
        refine ⟨st,hst1,?_,?_,⟨by omega,by omega,by omega,by omega⟩,?_⟩
        ·rw [hst2];exact hS.prog
        ·rw [hst2]
         intro z hz hz2
         have hth:=(List.all_eq_true.1 hS.pthere) z hz
         have hth2:Ay m.words z.b z.c=true:=by rcases hz2 with h | h<;>simpa [Fy,h] using hth
         obtain ⟨r1,n,rn,r4⟩:=Bk hth2
         have hlen:=hO.len _ r1
         have hnl:n<(m.words.get z.b).length:=Ax r4
         have hpm:=hS.prog
         unfold Dg at hpm
         simp only [Bool.and_eq_true] at hpm
         obtain ⟨jj,hjj⟩:=List.getElem?_of_mem hz
         have hmay:=(IH x0.prog _ 0 hpm.1 jj z hjj).1
         unfold BK at hmay
         rw [if_neg (by omega),if_neg (by omega),if_pos hz2] at hmay
         simp only [Bool.and_eq_true] at hmay
         exact ⟨r1,hmay.2,by omega⟩
        ·rw [hst2];exact hgo
      ·right
       refine ⟨?_,he⟩
       unfold cnd
       by_cases h3:x0.step=3
       ·have h4:¬ (t.step=4∨(t.step=6∧t.result=1)):=fun h=>hn ⟨h3,h⟩
        have h5:t.step≠4:=fun h=>h4 (.inl h)
        have h6:¬ (t.step=6∧t.result=1):=fun h=>h4 (.inr h)
        simp only [Bool.and_eq_false_iff,Bool.or_eq_false_iff,decide_eq_false_iff_not]
        exact .inr ⟨h5,by by_cases h7:t.step=6
                          · exact .inr (fun h8=>h6 ⟨h7,h8⟩)
                          · exact .inl h7⟩
       ·simp [h3]
     ·right
      rw [hset,List.getElem?_set_ne (by omega),hx] at hy
      cases hy
      refine ⟨same x,?_⟩
      dsimp only
      by_cases hjk2:j≤k
      ·rw [if_pos hjk2,if_pos (by omega)]
      ·rw [if_neg hjk2,if_neg (by omega)]
  rw [eA] at qs hA hI'
  have ih:=l3_TS i kf s hs q Q u w hk4 hend suf (pre++[a]) kk A o' g' (by simp [hxs]) (by simpa using hk) hI' hA ha2 hR' hO' hAP
  simp only [Ah] at ih
  have key:=fun q Q u w kk hk he=>l2_TS i kf s hs m A hAl hl2 (by omega) (pre.length:Int) W hW q Q u w kk hk he
  rw [hWn,hW0] at key
  have z1:decide ((A.sess.length:Int)=(s.starts.length:Int))=true:=by rw [hAl,hl2];simp
  have z2:decide ((m.sess.length:Int)=(s.starts.length:Int))=true:=by rw [hl2];simp
  clear hW eA hWn hW0 hR hO hR' hO' hI hI' hP hAP e0
  simp +contextual -dsimp -implicitDefEqProofs (maxSteps:=5000000) only [gLs 2 [1,3,5,7,8],↓Ai (c3_3.eq_1),l1,l2,l3,hg,qs,z1,z2,go_sem,simprocAttr]
  refine key _ _ _ _ _ (by omega) ?_
  simp +contextual -dsimp -implicitDefEqProofs (maxSteps:=5000000) only [l3,go_sem,simprocAttr]
  exact (Av (by rfl)).mpr ih
def hTo (m:Ac) (o:A4 (List Int)) (g:Int):Hp:=pO (pO (pO Ag 0 (some ⟨11,[.agg (cM true m)],false⟩)) 1 (some ⟨4,[.agg [if g=0 then .sl 2 else oNs o.a0,if g=1 then .sl 2 else oNs o.a1,if g=2 then .sl 2 else oNs o.a2,if g=3 then .sl 2 else oNs o.a3]],true⟩)) 2 (some ⟨1,(o.get g).map iV,false⟩)
theorem l4_TS (i kf:Nat) (m:Ac) (o:A4 (List Int)) (un:Int) (g:Int) (hg:g=0∨g=1∨g=2∨g=3) (he:o.get g=(m.words.get g).map (·.val)) (hb:(m.words.get g).length≤4) (q:Out→St→Option Ans) (Q:V→Hp→Nat→Prop)
  (u:Dum (fun s q=>evC ctx (Lv ctx (i+30)) (Aa (Lv ctx (i+30))) kf c3_4 s (As [3,5,7,16,17] q))) (w:Dum q) (kk:Nat) (hk:4<kk)
  (hend:Fin (q (.exit 8) ⟨Ad [3,5,7,16] [.ptr 0 0 0,.ptr 1 0 0,iV un,iV g],hTo m o g,3⟩) Q) :
  GL 3 [3,5,7,16,17] (fun s q=>evC ctx (Lv ctx (i+30)) (Aa (Lv ctx (i+30))) kf c3_4 s (As [3,5,7,16,17] q)) q kk ⟨Ad [3,5,7,16,17] [.ptr 0 0 0,.ptr 1 0 0,iV un,iV g,iV 0],hTo m o g,3⟩ Q u w:=by
 refine Kx (S:=fun j=>⟨Ad [3,5,7,16,17] [.ptr 0 0 0,.ptr 1 0 0,iV un,iV g,iV j],hTo m o g,3⟩) (o.get g).length rfl (by rw [he,List.length_map];omega) ?_ ?_
 ·intro j kk hj hgl
  have hj':j<(m.words.get g).length:=by rw [he,List.length_map] at hj;exact hj
  obtain ⟨x,hx⟩:∃ x,(m.words.get g)[j]?=some x:=⟨_,List.getElem?_eq_getElem hj'⟩
  have hy:(o.get g)[j]?=some x.val:=by rw [he,List.getElem?_map,hx];rfl
  have l1:=eq_true (Int.ofNat_lt.2 hj)
  have l1':=eq_true (Int.ofNat_lt.2 hj')
  have l2:(0≤(j:Int))=True:=by simp
  have l3:=wrN j (by simp only [BB];omega)
  clear he
  rcases hg with rfl | rfl | rfl | rfl
  all_goals
   simp only [hTo,A4.get,simprocAttr] at hx hy l1 l1' hgl ⊢
   simp +contextual -dsimp -implicitDefEqProofs (maxSteps:=5000000) only [l1,l1',l2,l3,hx,hy,↓Ai (c3_4.eq_1),eW,go_sem,simprocAttr]
   exact Cc hgl (by rfl)
 ·intro kk
  have l0:decide (((o.get g).length:Int)<((o.get g).length:Int))=false:=by simp
  clear he
  rcases hg with rfl | rfl | rfl | rfl
  all_goals
   simp only [hTo,A4.get,simprocAttr] at l0 hend ⊢
   simp +contextual -dsimp -implicitDefEqProofs (maxSteps:=5000000) only [l0,↓Ai (c3_4.eq_1),go_sem,simprocAttr]
   exact hend
theorem l5_TS (i kf:Nat) (m:Ac) (hI:Do m) (o:A4 (List Int)) (g:Int→Int→Int) (hR:Ser m g) (hO:Rows m.words o g) (q:Out→St→Option Ans) (Q:V→Hp→Nat→Prop)
  (u:Dum (fun s q=>evC ctx (Lv ctx (i+30)) (Aa (Lv ctx (i+30))) kf c3_5 s (As [3,5,7,16] q))) (w:Dum q) (kk:Nat) (hk:5<kk) (hk4:5<kf)
  (hend:∀ h n,Fin (q (.exit 6) ⟨Ad [] [],h,n⟩) Q) :
  GL 2 [3,5,7,16] (fun s q=>evC ctx (Lv ctx (i+30)) (Aa (Lv ctx (i+30))) kf c3_5 s (As [3,5,7,16] q)) q kk ⟨Ad [3,5,7,16] [.ptr 0 0 0,.ptr 1 0 0,iV (n4 m.sess),iV 0],hT3 m o,2⟩ Q u w:=by
 obtain ⟨kk,rfl⟩:∃ n,kk=n+6:=⟨kk - 6,by omega⟩
 by_cases h4:n4 m.sess=0
 ·have hno:∀ u∈m.sess,u.step≠4:=by
   intro x hx h
   have:=List.length_eq_zero_iff.1 h4
   rw [List.filter_eq_nil_iff] at this
   exact this x hx (by simpa using h)
  have e:=fun l hl=>serial_end hR hO hno (l:=l) hl
  have hbb:∀ g,inR g 3=true→(m.words.get g).length≤4:=by
   intro g hg
   have h:=hI.inv.may.arena
   simp only [AS,A4.all,Ch,Bool.and_eq_true,decide_eq_true_eq] at h
   rcases ER hg with rfl | rfl | rfl | rfl
   ·exact h.1.1.1.1
   ·exact h.1.1.2.1
   ·exact h.1.2.1
   ·exact h.2.1
  have key:=fun g hg hgi q Q u w kk hk he=>l4_TS i kf m o 0 g hg (e g hgi) (hbb g hgi) q Q u w kk hk he
  have n0:decide ((m.words.a0.length:Int)=(o.a0.length:Int))=true:=by have e:o.a0=_:=e 0 (by decide);rw [e];simp [A4.get]
  have n1:decide ((m.words.a1.length:Int)=(o.a1.length:Int))=true:=by have e:o.a1=_:=e 1 (by decide);rw [e];simp [A4.get]
  have n2:decide ((m.words.a2.length:Int)=(o.a2.length:Int))=true:=by have e:o.a2=_:=e 2 (by decide);rw [e];simp [A4.get]
  have n3:decide ((m.words.a3.length:Int)=(o.a3.length:Int))=true:=by have e:o.a3=_:=e 3 (by decide);rw [e];simp [A4.get]
  rw [h4]
  clear hbb e
  simp +contextual -dsimp -implicitDefEqProofs (maxSteps:=5000000) only [gLs 2 [3,5,7,16],↓Ai (c3_5.eq_1),n0,go_sem,simprocAttr]
  refine key 0 (by simp) (by decide) _ _ _ _ _ (by omega) ?_
  simp only [hTo,A4.get,simprocAttr]
  simp +contextual -dsimp -implicitDefEqProofs (maxSteps:=5000000) only [gLs 2 [3,5,7,16],↓Ai (c3_5.eq_1),n1,go_sem,simprocAttr]
  refine key 1 (by simp) (by decide) _ _ _ _ _ (by omega) ?_
  simp only [hTo,A4.get,simprocAttr]
  simp +contextual -dsimp -implicitDefEqProofs (maxSteps:=5000000) only [gLs 2 [3,5,7,16],↓Ai (c3_5.eq_1),n2,go_sem,simprocAttr]
  refine key 2 (by simp) (by decide) _ _ _ _ _ (by omega) ?_
  simp only [hTo,A4.get,simprocAttr]
  simp +contextual -dsimp -implicitDefEqProofs (maxSteps:=5000000) only [gLs 2 [3,5,7,16],↓Ai (c3_5.eq_1),n3,go_sem,simprocAttr]
  refine key 3 (by simp) (by decide) _ _ _ _ _ (by omega) ?_
  simp only [hTo,A4.get,simprocAttr]
  simp +contextual -dsimp -implicitDefEqProofs (maxSteps:=5000000) only [gLs 2 [3,5,7,16],↓Ai (c3_5.eq_1),go_sem,simprocAttr]
  exact hend _ _
 ·have z:decide ((n4 m.sess:Int)=0)=false:=by simpa using h4
  simp +contextual -dsimp -implicitDefEqProofs (maxSteps:=5000000) only [gLs 2 [3,5,7,16],↓Ai (c3_5.eq_1),z,go_sem,simprocAttr]
  exact hend _ _
theorem u_TopSerial (i:Nat) (s:Ap) (hs:Cj s) (haw:Aa (Lv ctx (i+30)) 15 []=some (bV true)):Aa (Lv ctx (i+31)) 3 [eSc true s]=some (bV true):=by
 have q1:=MM (i+10) true s hs
 have q2:=YI (i+21) true s hs
 simp only [Nat.add_assoc,Nat.reduceAdd] at q1 q2
 have hb:=fun (n:Nat) (h:n≤1048576)=>(by simp only [eq_iff_iff,iff_true];omega:((n:Int)*8≤140737488355328)=True)
 have v0:=hb _ hs.b0
 have v1:=hb _ hs.b1
 have v2:=hb _ hs.b2
 have v3:=hb _ hs.b3
 rcases Xn (s:=s) with ⟨h0,hM⟩ | h0
 ·rw [h0] at q1
  have hI2:=Ip hM
  have hsm:=Et hs
  cases hsc:Az s
  ·rw [hsc] at q2
   have qz:=fun p q=>Bq (i+(30 - 3)) p q (AC s) AA hsm
   generalize AC s=m at q1 qz
   simp only [eM,cM,eWs,eSs,eEs,Nat.add_assoc,Nat.reduceAdd,Nat.reduceSub] at qz
   simp only [show AA.words.a0=[] from rfl,show AA.words.a1=[] from rfl,show AA.words.a2=[] from rfl,show AA.words.a3=[] from rfl,show AA.sess=[] from rfl,show AA.trace=[] from rfl,show AA.clocks.a0=0 from rfl,show AA.clocks.a1=0 from rfl,show AA.clocks.a2=0 from rfl,show AA.clocks.a3=0 from rfl,show AA.ceil=0 from rfl,List.map_nil] at qz
   generalize decide (m=AA)=B at qz
   refine Af rfl 0 (by rfl) ?_
   delta c3
   cases B<;>simp +contextual -dsimp -implicitDefEqProofs (maxSteps:=5000000) only [haw,q1,q2,qz,go_sem,simprocAttr]
  ·rw [hsc] at q2
   have hsl:s.slots.all AF=true:=by simp only [Az,Bool.and_eq_true] at hsc;exact hsc.2
   have ho:=fun n kf q k' st Q u w=>gLs n [1,3,5,6] (fun s q=>evC ctx (Lv ctx (i+30)) (Aa (Lv ctx (i+30))) kf c3_1 s (As [1,3,5,6] q)) q k' st Q u w
   have hn0:n4 (AC s).sess=0:=by
    unfold n4
    rw [List.length_eq_zero_iff,List.filter_eq_nil_iff]
    intro x hx
    obtain ⟨y,_,rfl⟩:=List.mem_map.1 hx
    simp [AX]
   have hP0:(AC s).sess.map (·.prog)=s.starts.map (·.prog):=by
    show (s.starts.map AX).map (·.prog)=_
    rw [List.map_map];rfl
   have key:=fun kf q Q u w hk hend kk hkk=>l3_TS i kf s hs q Q u w hk hend s.slots [] kk (AC s) s.words (first s) (by simp) hkk hI2 hsm hsl (ser_new hM) (rows_new s) hP0
   rw [hn0] at key
   simp only [List.length_nil,Int.natCast_zero] at key
   generalize AC s=m at q1 key
   refine Af rfl (s.slots.length+7) (by rfl) ?_
   delta c3
   simp +contextual -dsimp -implicitDefEqProofs (maxSteps:=5000000) only [haw,q1,q2,ho,↓Ai (c3_1.eq_1),v0,v1,v2,v3,List.replicate,List.length_append,List.length_cons,Nat.zero_add,List.nil_append,List.append_nil,go_sem,simprocAttr]
   refine key _ _ _ _ _ (by omega) ?_ _ (by omega)
   intro m o g hR hO hI hm
   simp +contextual -dsimp -implicitDefEqProofs (maxSteps:=5000000) only [go_sem,simprocAttr]
   refine l5_TS i _ m hI o g hR hO _ _ _ _ _ (by omega) (by omega) ?_
   intro h n
   simp +contextual -dsimp -implicitDefEqProofs (maxSteps:=5000000) only [go_sem,simprocAttr]
 ·rw [h0] at q1
  have qz:=fun p q=>Bq (i+(30 - 3)) p q AA AA CQ
  simp only [AA,eM,cM,eWs,eSs,eEs,List.map_nil,decide_true,Nat.add_assoc,Nat.reduceAdd,Nat.reduceSub] at qz
  simp only [Bh] at q1
  refine Af rfl 0 (by rfl) ?_
  delta c3
  simp +contextual -dsimp -implicitDefEqProofs (maxSteps:=5000000) only [haw,q1,qz,go_sem,simprocAttr]
end Ve
