/- The statement TopWoken. -/
import Derived.Test.YthllnfkddiaokaaGreatS65
import Derived.Test.YthllnfkddiaokaaGreatVeSD
import Derived.Test.YthllnfkddiaokaaGreatVeSF
import Derived.Test.YthllnfkddiaokaaGreatVeSE
import Derived.Test.YthllnfkddiaokaaGreatVeP
import Derived.Test.YthllnfkddiaokaaGreatPL30
set_option linter.all false
set_option linter.unusedSectionVars false
namespace Ve
open Go Ve.Ab
set_option maxHeartbeats 16000000
set_option maxRecDepth 20000
abbrev hW1 (m:Ac):Hp:=pO Ag 0 (some ⟨11,[.agg (cM true m)],false⟩)
abbrev hW2 (m A:Ac):Hp:=pO (hW1 m) 1 (some ⟨11,[.agg (cM true A)],false⟩)
theorem a6r (i k:Nat) (s:Ap) (m A:Ac) (hm:SmM m) (hA:SmM A) (hM:Br m) (hl:A.sess.length=m.sess.length) (j0:Int) (at_:Int) (is:Bool)
  (hper:∀ (k:Nat) (x:Ae),m.sess[k]?=some x→x.step=5→∃ t,A.sess[k]?=some t∧(t.step=0↔((at_=(k:Int)∧is=true)∧x.reads.any (Dp m.words)=true))∧(t.step≠0→t=x))
  (q:Out→St→Option Ans) (Q:V→Hp→Nat→Prop)
  (u:Dum (fun s q=>evC ctx (Lv ctx (i+30)) (Aa (Lv ctx (i+30))) k Uc s (As [1,3,5,6,7,9,11] q))) (w:Dum q) (kk:Nat) (hk:m.sess.length<kk)
  (hend:Fin (q (.exit 2) ⟨Ad [1,3,5,9] [.ip true (cSc true s) 0,.ptr 0 0 0,iV j0,.ptr 1 0 0],hW2 m A,2⟩) Q) :
  GL 2 [1,3,5,6,7,9,11] (fun s q=>evC ctx (Lv ctx (i+30)) (Aa (Lv ctx (i+30))) k Uc s (As [1,3,5,6,7,9,11] q)) q kk ⟨Ad [1,3,5,6,7,9,11] [.ip true (cSc true s) 0,.ptr 0 0 0,iV j0,iV at_,bV is,.ptr 1 0 0,iV 0],hW2 m A,2⟩ Q u w:=by
 have hbb:m.sess.length≤4:=hM.sl
 have hb:∀ b:Bool,BJ lay .neq 4 (bV b) (bV b)=some (bV false):=by intro b;cases b<;>rfl
 refine Kx (S:=fun j=>⟨Ad [1,3,5,6,7,9,11] [.ip true (cSc true s) 0,.ptr 0 0 0,iV j0,iV at_,bV is,.ptr 1 0 0,iV j],hW2 m A,2⟩) m.sess.length rfl hk ?_ ?_
 ·intro j kk hj hgl
  obtain ⟨x,hx⟩:∃ x,m.sess[j]?=some x:=⟨_,List.getElem?_eq_getElem hj⟩
  obtain ⟨y,hy⟩:∃ y,A.sess[j]?=some y:=⟨_,List.getElem?_eq_getElem (by omega)⟩
  have l1:((j:Int)<(m.sess.length:Int))=True:=by simpa using hj
  have l1':((j:Int)<(A.sess.length:Int))=True:=by rw [hl];simpa using hj
  have l2:(0≤(j:Int))=True:=by simp
  have l3:=wrN j (by simp only [BB];omega)
  cases c5:decide (x.step=5)
  ·simp +contextual -dsimp -implicitDefEqProofs (maxSteps:=5000000) only [l1,l1',l2,l3,hx,hy,c5,↓Ai (Uc.eq_1),eS,go_sem,simprocAttr]
   exact Cc hgl (by rfl)
  ·obtain ⟨t,ht,h1,h2⟩:=hper j x hx (of_decide_eq_true c5)
   rw [ht] at hy
   obtain rfl:t=y:=Option.some.inj hy
   have hsx:=hm.s x (List.mem_of_getElem? hx)
   have hS:=(sp _ _).1 (hM.sess x (List.mem_of_getElem? hx))
   have qc:=fun a b c d na nb nc nd=>cE (i+25) a b c d na nb nc nd m.words.a0 m.words.a1 m.words.a2 m.words.a3 hm.w0 hm.w1 hm.w2 hm.w3 true false x.reads hsx.r
   have ec:BI ⟨m.words.a0,m.words.a1,m.words.a2,m.words.a3⟩ x.reads=(x.reads.any (Dp m.words),0):=by
    unfold BI
    have h1:AS m.words=true:=hM.arena
    have h2:AY x.reads=true:=hS.reads
    have h3:AP m.words x.reads=true:=hS.rthere
    show (if (AS m.words&&AY x.reads&&AP m.words x.reads)=true then _ else _)=_
    rw [h1,h2,h3];rfl
   rw [ec] at qc
   simp only [Nat.add_assoc,Nat.reduceAdd] at qc
   cases cw:decide (t.step=0)
   ·have hts:t=x:=h2 (of_decide_eq_false cw)
    subst hts
    have qs:=fun p q=>KK (i+(30 - 2)) p q t t hsx.p hsx.r hsx.w
    simp only [Nat.add_assoc,Nat.reduceAdd,Nat.reduceSub,eS,decide_true] at qs
    have hno:¬ ((at_=(j:Int)∧is=true)∧t.reads.any (Dp m.words)=true):=fun h=>(of_decide_eq_false cw) (h1.2 h)
    generalize t.reads.any (Dp m.words)=C at qc hno
    cases is
    ·simp +contextual -dsimp -implicitDefEqProofs (maxSteps:=5000000) only [l1,l1',l2,l3,hx,ht,c5,cw,qc,qs,hb,↓Ai (Uc.eq_1),eS,go_sem,simprocAttr]
     exact Cc hgl (by rfl)
    ·cases ca:decide (at_=(j:Int))
     ·simp +contextual -dsimp -implicitDefEqProofs (maxSteps:=5000000) only [l1,l1',l2,l3,hx,ht,c5,cw,ca,qc,qs,hb,↓Ai (Uc.eq_1),eS,go_sem,simprocAttr]
      exact Cc hgl (by rfl)
     ·obtain rfl:C=false:=by
       cases C
       ·rfl
       ·exact absurd ⟨⟨of_decide_eq_true ca,rfl⟩,rfl⟩ hno
      simp +contextual -dsimp -implicitDefEqProofs (maxSteps:=5000000) only [l1,l1',l2,l3,hx,ht,c5,cw,ca,qc,qs,hb,↓Ai (Uc.eq_1),eS,go_sem,simprocAttr]
      exact Cc hgl (by rfl)
   ·obtain ⟨⟨ha,hi⟩,hc⟩:=h1.1 (of_decide_eq_true cw)
    subst hi
    rw [hc] at qc
    have ca:decide (at_=(j:Int))=true:=decide_eq_true ha
    simp +contextual -dsimp -implicitDefEqProofs (maxSteps:=5000000) only [l1,l1',l2,l3,hx,ht,c5,cw,ca,qc,hb,↓Ai (Uc.eq_1),eS,go_sem,simprocAttr]
    exact Cc hgl (by rfl)
 ·intro kk
  have l0:decide ((m.sess.length:Int)<(m.sess.length:Int))=false:=by simp
  simp +contextual -dsimp -implicitDefEqProofs (maxSteps:=5000000) only [l0,↓Ai (Uc.eq_1),go_sem,simprocAttr]
  exact hend
theorem yO (i k:Nat) (s:Ap) (hs:Cj s) (q:Out→St→Option Ans) (Q:V→Hp→Nat→Prop)
  (u:Dum (fun s q=>evC ctx (Lv ctx (i+30)) (Aa (Lv ctx (i+30))) k fE s (As [1,3,5] q))) (w:Dum q) (hk4:4<k)
  (hend:∀ m,Fin (q (.exit 0) ⟨Ad [] [],hW1 m,1⟩) Q):∀ (suf pre:List AO) (kk:Nat) (m:Ac),s.slots=pre++suf→suf.length<kk→Do m→SmM m→suf.all AF=true →
  GL 1 [1,3,5] (fun s q=>evC ctx (Lv ctx (i+30)) (Aa (Lv ctx (i+30))) k fE s (As [1,3,5] q)) q kk ⟨Ad [1,3,5] [.ip true (cSc true s) 0,.ptr 0 0 0,iV pre.length],hW1 m,1⟩ Q u w
 | [],pre,kk,m,hxs,hk,hI,hm,ha=>by
  obtain ⟨kk,rfl⟩:∃ m,kk=m+1:=⟨kk - 1,by simp at hk;omega⟩
  have h1:decide ((pre.length:Int)<s.slots.length)=false:=by simp [hxs]
  have he:=hend m
  simp +contextual -dsimp -implicitDefEqProofs (maxSteps:=5000000) only [gLs,↓Ai (fE.eq_1),h1,go_sem,simprocAttr]
  exact he
 | a::suf,pre,kk,m,hxs,hk,hI,hm,ha=>by
  obtain ⟨kk,rfl⟩:∃ m,kk=m+1:=⟨kk - 1,by simp at hk;omega⟩
  have hlt:pre.length<s.slots.length:=by simp [hxs]
  have l1:((pre.length:Int)<s.slots.length)=True:=by simpa using hlt
  have l2:(0≤(pre.length:Int))=True:=by simp
  have l3:=wrN pre.length (by have:=hs.bsl;simp only [BB];omega)
  have hg:s.slots[pre.length]?=some a:=by simp [hxs]
  simp only [List.all_cons,Bool.and_eq_true] at ha
  obtain ⟨ha1,ha2⟩:=ha
  have hA:=Km hm a
  have hI':=Ih hI ha1
  obtain ⟨e0,_,_,hsl,_⟩:=FY hI.inv ha1
  have hper:=fun k x hx h5=>WH hI ha1 (k:=k) (s:=x) hx h5
  have qw:=YD (i+10) true m hm a.level a.pick
  have qs:=OM (i+2) true m hm a.level a.pick
  have hwc:=Hf hI.inv.may ha1
  rw [e0] at qs
  simp only [Nat.add_assoc,Nat.reduceAdd] at qw qs
  have ih:=fun A hI hA=>yO i k s hs q Q u w hk4 hend suf (pre++[a]) kk A (by simp [hxs]) (by simpa using hk) hI hA ha2
  simp only [Ah] at ih
  have ih:=ih _ hI' hA
  have key:=fun at_ is hp q Q u w kk hk he=>a6r i k s m (AQ m a).1 hm hA hI.inv.may hsl (pre.length:Int) at_ is hp q Q u w kk hk he
  have hl:decide (((AQ m a).1.sess.length:Int)=(m.sess.length:Int))=true:=by rw [hsl];simp
  have h4:=hI.inv.may.sl
  rcases hwc with hw | ⟨j,y,hw,hy,_,_⟩
  ·have hp:∀ (k:Nat) (x:Ae),m.sess[k]?=some x→x.step=5→∃ t,(AQ m a).1.sess[k]?=some t∧(t.step=0↔(((0:Int)=(k:Int)∧false=true)∧x.reads.any (Dp m.words)=true))∧(t.step≠0→t=x):=by
    intro k x hx h5
    obtain ⟨t,h1,h2,h3⟩:=hper k x hx h5
    refine ⟨t,h1,h2.trans ⟨fun h=>?_,fun h=>absurd h.1.2 (by simp)⟩,h3⟩
    rw [hw] at h;exact absurd h.1 (by simp)
   have key:=key 0 false hp
   have ew:CU m ⟨a.level,a.pick⟩=(0,false,0):=hw
   rw [ew] at qw
   clear hper hp hw ew
   generalize (AQ m a).1=A at qs ih key hl
   simp +contextual -dsimp -implicitDefEqProofs (maxSteps:=5000000) only [gLs,↓Ai (fE.eq_1),l1,l2,l3,hg,qw,qs,hl,go_sem,simprocAttr]
   refine key _ _ _ _ _ (by omega) ?_
   simp +contextual -dsimp -implicitDefEqProofs (maxSteps:=5000000) only [l3,go_sem,simprocAttr]
   exact (Av (by rfl)).mpr ih
  ·have hp:∀ (k:Nat) (x:Ae),m.sess[k]?=some x→x.step=5→∃ t,(AQ m a).1.sess[k]?=some t∧(t.step=0↔(((j:Int)=(k:Int)∧true=true)∧x.reads.any (Dp m.words)=true))∧(t.step≠0→t=x):=by
    intro k x hx h5
    obtain ⟨t,h1,h2,h3⟩:=hper k x hx h5
    refine ⟨t,h1,h2.trans ⟨fun h=>?_,fun h=>?_⟩,h3⟩
    ·rw [hw] at h
     have:=h.1
     simp only [Prod.mk.injEq] at this
     exact ⟨⟨this.1,rfl⟩,h.2⟩
    ·rw [hw];exact ⟨by rw [h.1.1],h.2⟩
   have key:=key j true hp
   have ew:CU m ⟨a.level,a.pick⟩=((j:Int),true,0):=hw
   rw [ew] at qw
   have hjl:=Ax hy
   have z1:decide ((j:Int)<0)=false:=by simp
   have z2:decide ((m.sess.length:Int)≤(j:Int))=false:=by simp;omega
   clear hper hp hw ew
   generalize (AQ m a).1=A at qs ih key hl
   simp +contextual -dsimp -implicitDefEqProofs (maxSteps:=5000000) only [gLs,↓Ai (fE.eq_1),l1,l2,l3,hg,qw,qs,hl,z1,z2,go_sem,simprocAttr]
   refine key _ _ _ _ _ (by omega) ?_
   simp +contextual -dsimp -implicitDefEqProofs (maxSteps:=5000000) only [l3,go_sem,simprocAttr]
   exact (Av (by rfl)).mpr ih
theorem u_TopWoken (i:Nat) (s:Ap) (hs:Cj s) (haw:Aa (Lv ctx (i+30)) 15 []=some (bV true)):Aa (Lv ctx (i+31)) 5 [eSc true s]=some (bV true):=by
 have q1:=MM (i+10) true s hs
 have q2:=YI (i+21) true s hs
 simp only [Nat.add_assoc,Nat.reduceAdd] at q1 q2
 rcases Xn (s:=s) with ⟨h0,hM⟩ | h0
 ·rw [h0] at q1
  have hI2:=Ip hM
  have hsm:=Et hs
  cases hsc:Az s
  ·rw [hsc] at q2
   have qz:=fun p q=>Bq (i+(30 - 3)) p q (AC s) AA hsm
   generalize AC s=m at q1 qz
   simp only [eM,cM,eWs,eSs,eEs,Nat.add_assoc,Nat.reduceAdd,Nat.reduceSub] at qz
   simp only [show AA.words.a0=[] from rfl,show AA.words.a1=[] from rfl,show AA.words.a2=[] from rfl,show AA.words.a3=[] from rfl,show AA.sess=[] from rfl,show AA.trace=[] from rfl,show AA.clocks.a0=0 from rfl,show AA.clocks.a1=0 from rfl,show AA.clocks.a2=0 from rfl,show AA.clocks.a3=0 from rfl,show AA.ceil=0 from rfl,List.map_nil] at qz
   generalize decide (m=AA)=B at qz
   refine Af rfl 0 (by rfl) ?_
   delta c5
   cases B<;>simp +contextual -dsimp -implicitDefEqProofs (maxSteps:=5000000) only [haw,q1,q2,qz,go_sem,simprocAttr]
  ·rw [hsc] at q2
   have hsl:s.slots.all AF=true:=by simp only [Az,Bool.and_eq_true] at hsc;exact hsc.2
   have key:=fun kf q Q u w hk hend kk hkk=>yO i kf s hs q Q u w hk hend s.slots [] kk (AC s) (by simp) hkk hI2 hsm hsl
   simp only [List.length_nil,Int.natCast_zero] at key
   generalize AC s=m at q1 key
   refine Af rfl (s.slots.length+6) (by rfl) ?_
   delta c5
   simp +contextual -dsimp -implicitDefEqProofs (maxSteps:=5000000) only [haw,q1,q2,go_sem,simprocAttr]
   refine key _ _ _ _ _ (by omega) ?_ _ (by omega)
   intro m
   simp +contextual -dsimp -implicitDefEqProofs (maxSteps:=5000000) only [go_sem,simprocAttr]
 ·rw [h0] at q1
  have qz:=fun p q=>Bq (i+(30 - 3)) p q AA AA CQ
  simp only [AA,eM,cM,eWs,eSs,eEs,List.map_nil,decide_true,Nat.add_assoc,Nat.reduceAdd,Nat.reduceSub] at qz
  simp only [Bh] at q1
  refine Af rfl 0 (by rfl) ?_
  delta c5
  simp +contextual -dsimp -implicitDefEqProofs (maxSteps:=5000000) only [haw,q1,qz,go_sem,simprocAttr]
end Ve
