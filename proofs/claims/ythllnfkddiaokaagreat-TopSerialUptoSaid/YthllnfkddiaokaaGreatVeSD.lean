/- Same, spoiled. -/
import Derived.Test.YthllnfkddiaokaaGreatVeSB
import Derived.Test.YthllnfkddiaokaaGreatVeSC
set_option linter.all false
set_option linter.unusedSectionVars false
namespace Ve
open Go Ve.Ab
set_option maxHeartbeats 16000000
set_option maxRecDepth 10000
@[go_sem] theorem s_num (i:Nat) (a:Int):Aa (Lv ctx (i+1)) 17 [iV a]=some (iV a):=by
 refine Af rfl 0 (by rfl) ?_
 delta c17
 simp +contextual -dsimp -implicitDefEqProofs (maxSteps:=5000000) only [go_sem,simprocAttr]
theorem UI (i:Nat) (pa pb:Bool) (a b:A4 (List Aj)) (h0:a.a0.length≤BB) (h1:a.a1.length≤BB) (h2:a.a2.length≤BB) (h3:a.a3.length≤BB):Aa (Lv ctx (i+2)) 47 [.agg [eWs pa a.a0,eWs pa a.a1,eWs pa a.a2,eWs pa a.a3],.agg [eWs pb b.a0,eWs pb b.a1,eWs pb b.a2,eWs pb b.a3]]=some (bV (decide (a=b))):=by
 have e0:=HD i pa false pb false a.a0 b.a0 h0
 have e1:=HD i pa false pb false a.a1 b.a1 h1
 have e2:=HD i pa false pb false a.a2 b.a2 h2
 have e3:=HD i pa false pb false a.a3 b.a3 h3
 have key:decide (a=b)=(decide (a.a0=b.a0)&&decide (a.a1=b.a1)&&decide (a.a2=b.a2)&&decide (a.a3=b.a3)):=by
  rw [Bool.eq_iff_iff]
  simp only [Bool.and_eq_true,decide_eq_true_eq]
  rcases a with ⟨_,_,_,_⟩;rcases b with ⟨_,_,_,_⟩;simp [and_assoc]
 refine Af rfl 5 (by rfl) ?_
 delta c47
 rw [key]
 cases c0:decide (a.a0=b.a0)
 ·simp +contextual -dsimp -implicitDefEqProofs (maxSteps:=5000000) only [gLs,↓Ai (Wn.eq_1),e0,e1,e2,e3,c0,go_sem,simprocAttr]
 ·cases c1:decide (a.a1=b.a1)
  ·simp +contextual -dsimp -implicitDefEqProofs (maxSteps:=5000000) only [gLs,↓Ai (Wn.eq_1),e0,e1,e2,e3,c0,c1,go_sem,simprocAttr]
  ·cases c2:decide (a.a2=b.a2)
   ·simp +contextual -dsimp -implicitDefEqProofs (maxSteps:=5000000) only [gLs,↓Ai (Wn.eq_1),e0,e1,e2,e3,c0,c1,c2,go_sem,simprocAttr]
   ·cases c3:decide (a.a3=b.a3)<;>simp +contextual -dsimp -implicitDefEqProofs (maxSteps:=5000000) only [gLs,↓Ai (Wn.eq_1),e0,e1,e2,e3,c0,c1,c2,c3,go_sem,simprocAttr]
theorem Zf (i k:Nat) (pa pb:Bool) (a b:Ac) (hm:SmM a) (q:Out→St→Option Ans) (Q:V→Hp→Nat→Prop) (u:Dum (fun s q=>evC ctx (Lv ctx (i+2)) (Aa (Lv ctx (i+2))) k RS s (As [2,3,5] q))) (w:Dum q):∀ (suf suf' pre pre':List Ae) (kk:Nat),a.sess=pre++suf→b.sess=pre'++suf'→pre.length=pre'.length→suf.length=suf'.length→suf.length<kk →
  GL 0 [2,3,5] (fun s q=>evC ctx (Lv ctx (i+2)) (Aa (Lv ctx (i+2))) k RS s (As [2,3,5] q)) q kk ⟨Ad [2,3,5] [.ip pa (cM pa a) 0,.ip pb (cM pb b) 0,iV pre.length],Ag,0⟩ Q u w=FT (decide (suf=suf')) q Q ⟨Ad [] [],Ag,0⟩ ⟨Ad [4] [bV false],Ag,0⟩
 | [],suf',pre,pre',kk,hxs,hys,hpl,hsl,hk=>by
  obtain ⟨kk,rfl⟩:∃ m,kk=m+1:=⟨kk - 1,by simp at hk;omega⟩
  obtain rfl:suf'=[]:=by cases suf'<;>simp_all
  have h1:decide ((pre.length:Int)<a.sess.length)=false:=by simp [hxs]
  simp +contextual -dsimp -implicitDefEqProofs (maxSteps:=5000000) only [gLs,↓Ai (RS.eq_1),h1,Cd,go_sem,simprocAttr]
 | x::suf,[],pre,pre',kk,hxs,hys,hpl,hsl,hk=>by simp at hsl
 | x::suf,y::suf',pre,pre',kk,hxs,hys,hpl,hsl,hk=>by
  obtain ⟨kk,rfl⟩:∃ m,kk=m+1:=⟨kk - 1,by simp at hk;omega⟩
  have hl:pre.length<a.sess.length:=by simp [hxs]
  have hl':pre.length<b.sess.length:=by simp [hys,hpl]
  have h2:((pre.length:Int)<a.sess.length)=True:=by simpa using hl
  have h2':((pre.length:Int)<b.sess.length)=True:=by simpa using hl'
  have h3:(0≤(pre.length:Int))=True:=by simp
  have h4:=wrN pre.length (by have:=hm.ss;omega)
  have hg:a.sess[pre.length]?=some x:=by simp [hxs]
  have hg':b.sess[pre.length]?=some y:=by simp [hys,hpl]
  have ih:=Zf i k pa pb a b hm q Q u w suf suf' (pre++[x]) (pre'++[y]) kk (by simp [hxs]) (by simp [hys]) (by simpa using hpl) (by simpa using hsl) (by simpa using hk)
  rw [Ah] at ih
  have hx:=hm.s x (by simp [hxs])
  have hs:=KK i pa pb x y hx.p hx.r hx.w
  simp only [eS] at hs
  by_cases hab:x=y
  ·subst hab
   have hd:decide (x::suf=x::suf')=decide (suf=suf'):=by simp
   rw [hd]
   simp +contextual -dsimp -implicitDefEqProofs (maxSteps:=5000000) only [gLs,↓Ai (RS.eq_1),h2,h2',h3,h4,hg,hg',hs,ih,go_sem,simprocAttr]
  ·have hne:decide (x=y)=false:=by simpa using hab
   have hd:decide (x::suf=y::suf')=false:=by simp [hab]
   rw [hd]
   rw [hne] at hs
   simp +contextual -dsimp -implicitDefEqProofs (maxSteps:=5000000) only [gLs,↓Ai (RS.eq_1),h2,h2',h3,h4,hg,hg',hs,Ce,go_sem,simprocAttr]
theorem tR (a b:Ac):a=b↔(a.words=b.words∧(a.clocks.a0=b.clocks.a0∧a.clocks.a1=b.clocks.a1∧a.clocks.a2=b.clocks.a2∧a.clocks.a3=b.clocks.a3)∧a.ceil=b.ceil∧a.trace=b.trace)∧a.sess=b.sess:=by
 rcases a with ⟨_,⟨_,_,_,_⟩,_,_,_⟩;rcases b with ⟨_,⟨_,_,_,_⟩,_,_,_⟩;simp only [Ac.mk.injEq,A4.mk.injEq]
 constructor
 ·rintro ⟨h1,⟨h2,h3,h4,h5⟩,h6,h7,h8⟩;simp [*]
 ·rintro ⟨⟨h1,⟨h2,h3,h4,h5⟩,h6,h7⟩,h8⟩;simp [*]
theorem Bq (i:Nat) (pa pb:Bool) (a b:Ac) (hm:SmM a):Aa (Lv ctx (i+3)) 19 [eM pa a,eM pb b]=some (bV (decide (a=b))):=by
 have e1:=UI i pa pb a.words b.words hm.w0 hm.w1 hm.w2 hm.w3
 have e2:=Sq (i+1) pa false pb false a.trace b.trace hm.tr
 have hb:∀ a b c d e f g:Bool,(!a||!(b&&(c&&(d&&e)))||!f||!g)=!(a&&(b&&(c&&(d&&e)))&&f&&g):=by decide
 refine Af rfl (a.sess.length+1) (by rfl) ?_
 delta c19
 have hL:decide ((a.sess.length:Int)=b.sess.length)=decide (a.sess.length=b.sess.length):=by apply decide_eq_decide.mpr;omega
 have hb5:∀ w c f l e:Bool,(!w||!c||!f||!l||!e)=!(w&&c&&f&&l&&e):=by decide
 cases hc:(decide (a.words=b.words)&&(decide (a.clocks.a0=b.clocks.a0)&&(decide (a.clocks.a1=b.clocks.a1)&&(decide (a.clocks.a2=b.clocks.a2)&&decide (a.clocks.a3=b.clocks.a3))))&&decide (a.ceil=b.ceil)&&decide (a.sess.length=b.sess.length)&&decide (a.trace=b.trace))
 ·have key:decide (a=b)=false:=by
   rw [← Bool.not_eq_true] at hc ⊢
   intro h
   simp only [decide_eq_true_eq] at h
   subst h
   exact hc (by simp)
  simp +contextual -dsimp -implicitDefEqProofs (maxSteps:=5000000) only [e1,e2,hL,hb5,hc,key,go_sem,simprocAttr]
 ·have hc':=hc
  simp only [Bool.and_eq_true,decide_eq_true_eq] at hc'
  have hlen:a.sess.length=b.sess.length:=hc'.1.2
  have key:decide (a=b)=decide (a.sess=b.sess):=by
   apply decide_eq_decide.mpr
   rw [tR]
   simp only [hc',and_self,true_and]
  have h2:=fun q Q u w=>Zf i (a.sess.length+1) pa pb a b hm q Q u w a.sess b.sess [] [] (a.sess.length+1) rfl rfl rfl hlen (by omega)
  simp only [List.length_nil,Int.natCast_zero] at h2
  rw [key]
  simp +contextual -dsimp -implicitDefEqProofs (maxSteps:=5000000) only [e1,e2,hL,hb5,hc,go_sem,simprocAttr]
  refine Eq.mpr (h2 _ _ _ _) ?_
  cases hb':decide (a.sess=b.sess)<;>simp +contextual -dsimp -implicitDefEqProofs (maxSteps:=5000000) only [Cd,Ce,go_sem,simprocAttr]
end Ve
