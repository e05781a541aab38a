/- The statement SlotFair. -/
import Derived.Test.YtokhplohcachjaaGreatVeSF
import Derived.Test.YtokhplohcachjaaGreatVeSD
import Derived.Test.YtokhplohcachjaaGreatVeP
set_option linter.all false
set_option linter.unusedSectionVars false
namespace Ve
open Go Ve.Ab
set_option maxHeartbeats 16000000
set_option maxRecDepth 20000
def fairAt (m:Ad) (g:Int) (p k:Nat):Nat:=((FW m g)[(p+k) % (FW m g).length]?).getD 0
def fairN (m:Ad) (g:Int) (p j x:Nat):Nat:=((List.range j).filter fun k=>decide (fairAt m g p k=x)).length
theorem fairN_s (m:Ad) (g:Int) (p j x:Nat):fairN m g p (j+1) x=fairN m g p j x+if fairAt m g p j=x then 1 else 0:=by
 unfold fairN
 rw [List.range_succ,List.filter_append]
 by_cases h:fairAt m g p j=x<;>simp [h]
theorem fairN_le (m:Ad) (g:Int) (p x:Nat):∀ j,fairN m g p j x≤j
 | 0=>by simp [fairN]
 | j+1=>by
  have:=fairN_le m g p x j
  rw [fairN_s];split<;>omega
theorem fairN_z {m:Ad} {g:Int} {p x:Nat}:∀ j,(∀ k,k<j→fairAt m g p k≠x)→fairN m g p j x=0
 | 0,_=>by simp [fairN]
 | j+1,h=>by
  rw [fairN_s,fairN_z j (fun k hk=>h k (by omega)),if_neg (h j (by omega))]
theorem fairAt_get {m:Ad} {g:Int} {p k:Nat} (hk:k<(FW m g).length):(FW m g)[(p+k) % (FW m g).length]?=some (fairAt m g p k):=by
 have hlt:=Nat.mod_lt (p+k) (show 0<(FW m g).length by omega)
 unfold fairAt
 rw [List.getElem?_eq_getElem hlt];rfl
theorem fairN_one {m:Ad} {g:Int} {p x:Nat}:∀ j,j≤(FW m g).length→fairN m g p j x≤1
 | 0,_=>by simp [fairN]
 | j+1,h=>by
  rw [fairN_s]
  split
  ·rename_i hx
   rw [fairN_z j (fun k hk he=>by
    have h1:=fairAt_get (m:=m) (g:=g) (p:=p) (k:=k) (by omega)
    have h2:=fairAt_get (m:=m) (g:=g) (p:=p) (k:=j) (by omega)
    rw [he] at h1
    rw [hx] at h2
    have:=fair_once (m:=m) (g:=g) (p:=p) (by omega) (by omega) h1 h2
    omega)]
   omega
  ·have:=fairN_one (m:=m) (g:=g) (p:=p) (x:=x) j (by omega)
   omega
theorem l1_SlotFair (i k:Nat) (q:Out→St→Option Ans) (Q:V→Hp→Nat→Prop) (m:Ad) (hm:SmM m) (pk g:Int)
  (u:Dum (fun s q=>evC ctx (Lv ctx (i+29)) (Aa (Lv ctx (i+29))) k zC s (Aq [2,3,7,8,9] q))) (w:Dum q) (kk:Nat) (hk:m.sess.length<kk) :
  GL 0 [2,3,7,8,9] (fun s q=>evC ctx (Lv ctx (i+29)) (Aa (Lv ctx (i+29))) k zC s (Aq [2,3,7,8,9] q)) q kk ⟨Ae [2,3,7,8,9] [iV pk,.ip true (cM true m) 0,iV g,iV 0,iV 0],Af,0⟩ Q u w
  = Fin (q (.exit 0) ⟨Ae [2,3,7,8] [iV pk,.ip true (cM true m) 0,iV g,iV (FW m g).length],Af,0⟩) Q:=by
 have hx:m.sess.length≤BB:=by have:=hm.bs;simp only [BB];omega
 have key:∀ (d j kk:Nat),j+d=m.sess.length→d<kk →
  GL 0 [2,3,7,8,9] (fun s q=>evC ctx (Lv ctx (i+29)) (Aa (Lv ctx (i+29))) k zC s (Aq [2,3,7,8,9] q)) q kk ⟨Ae [2,3,7,8,9] [iV pk,.ip true (cM true m) 0,iV g,iV ((m.sess.take j).filter (Jg g)).length,iV j],Af,0⟩ Q u w
  = Fin (q (.exit 0) ⟨Ae [2,3,7,8] [iV pk,.ip true (cM true m) 0,iV g,iV (FW m g).length],Af,0⟩) Q:=by
  intro d
  induction d with
  | zero =>
   intro j kk hj hk
   obtain ⟨kk,rfl⟩:∃ n,kk=n+1:=⟨kk - 1,by omega⟩
   obtain rfl:j=m.sess.length:=by omega
   have l0:decide ((m.sess.length:Int)<(m.sess.length:Int))=false:=by simp
   have e:(FW m g).length=((m.sess.take m.sess.length).filter (Jg g)).length:=by rw [List.take_length];exact Xb _ _ _
   rw [e]
   generalize ((m.sess.take m.sess.length).filter (Jg g)).length=N
   simp +contextual -dsimp -implicitDefEqProofs (maxSteps:=5000000) only [gLs,↓Aj (zC.eq_1),l0,go_sem,simprocAttr]
  | succ d ih =>
   intro j kk hj hk
   obtain ⟨kk,rfl⟩:∃ n,kk=n+1:=⟨kk - 1,by omega⟩
   have hjl:j<m.sess.length:=by omega
   obtain ⟨x,hx0⟩:∃ x,m.sess[j]?=some x:=⟨_,List.getElem?_eq_getElem hjl⟩
   have ih:=ih (j+1) kk (by omega) (by omega)
   have hle:((m.sess.take j).filter (Jg g)).length≤j:=Nat.le_trans (List.length_filter_le _ _) (by simp;omega)
   have ts:((m.sess.take (j+1)).filter (Jg g)).length=((m.sess.take j).filter (Jg g)).length+if Jg g x=true then 1 else 0:=by
    rw [List.take_add_one,hx0,Option.toList_some,List.filter_append]
    cases h:Jg g x<;>simp [h]
   have l1:((j:Int)<(m.sess.length:Int))=True:=by simpa using hjl
   have l2:(0≤(j:Int))=True:=by simp
   have l3:=wrN j (by omega)
   have htu:Jg g x=(decide (x.label=g)&&!decide (x.step=6)):=rfl
   rw [ts,htu] at ih
   generalize ((m.sess.take j).filter (Jg g)).length=T at *
   have l4:=wrN T (by omega)
   cases c1:decide (x.label=g)
   ·simp only [c1,Bool.false_and,Bool.false_eq_true,if_false,Nat.add_zero] at ih
    simp +contextual -dsimp -implicitDefEqProofs (maxSteps:=5000000) only [gLs,↓Aj (zC.eq_1),l1,l2,l3,hx0,c1,eS,go_sem,simprocAttr]
    exact (BF (by rfl)).trans ih
   ·cases c2:decide (x.step=6)
    ·simp only [c1,c2,Bool.not_false,Bool.and_self,if_true] at ih
     simp +contextual -dsimp -implicitDefEqProofs (maxSteps:=5000000) only [gLs,↓Aj (zC.eq_1),l1,l2,l3,l4,hx0,c1,c2,eS,go_sem,simprocAttr]
     exact (BF (by rfl)).trans ih
    ·simp only [c1,c2,Bool.not_true,Bool.and_false,Bool.false_eq_true,if_false,Nat.add_zero] at ih
     simp +contextual -dsimp -implicitDefEqProofs (maxSteps:=5000000) only [gLs,↓Aj (zC.eq_1),l1,l2,l3,hx0,c1,c2,eS,go_sem,simprocAttr]
     exact (BF (by rfl)).trans ih
 have:=key m.sess.length 0 kk (by omega) hk
 simpa only [List.take_zero,List.filter_nil,List.length_nil,Int.natCast_zero] using this
theorem l2_SlotFair (i k:Nat) (q:Out→St→Option Ans) (Q:V→Hp→Nat→Prop) (m:Ad) (hm:SmM m) (hM:CY m=true) (pk g:Int) (hg:inR g 3=true) (p:Nat) (hp:EJ pk 127=(p:Int)) (hp1:p≤127) (hl4:m.sess.length≤4) (hn4:(FW m g).length≤4)
  (u:Dum (fun s q=>evC ctx (Lv ctx (i+29)) (Aa (Lv ctx (i+29))) k zB s (Aq [2,3,7,8,10,11] q))) (w:Dum q) (kk:Nat) (hk:5<kk) :
  GL 1 [2,3,7,8,10,11] (fun s q=>evC ctx (Lv ctx (i+29)) (Aa (Lv ctx (i+29))) k zB s (Aq [2,3,7,8,10,11] q)) q kk ⟨Ae [2,3,7,8,10,11] [iV pk,.ip true (cM true m) 0,iV g,iV (FW m g).length,.ptr 0 0 0,iV 0],pO Af 0 (some ⟨4,[.agg [iV 0,iV 0,iV 0,iV 0]],false⟩),1⟩ Q u w
  = Fin (q (.exit 2) ⟨Ae [2,3,7,8,10] [iV pk,.ip true (cM true m) 0,iV g,iV (FW m g).length,.ptr 0 0 0],pO Af 0 (some ⟨4,[.agg [iV (fairN m g p (FW m g).length 0),iV (fairN m g p (FW m g).length 1),iV (fairN m g p (FW m g).length 2),iV (fairN m g p (FW m g).length 3)]],false⟩),1⟩) Q:=by
 have key:∀ (d j kk:Nat),j+d=(FW m g).length→d<kk →
  GL 1 [2,3,7,8,10,11] (fun s q=>evC ctx (Lv ctx (i+29)) (Aa (Lv ctx (i+29))) k zB s (Aq [2,3,7,8,10,11] q)) q kk ⟨Ae [2,3,7,8,10,11] [iV pk,.ip true (cM true m) 0,iV g,iV (FW m g).length,.ptr 0 0 0,iV j],pO Af 0 (some ⟨4,[.agg [iV (fairN m g p j 0),iV (fairN m g p j 1),iV (fairN m g p j 2),iV (fairN m g p j 3)]],false⟩),1⟩ Q u w
  = Fin (q (.exit 2) ⟨Ae [2,3,7,8,10] [iV pk,.ip true (cM true m) 0,iV g,iV (FW m g).length,.ptr 0 0 0],pO Af 0 (some ⟨4,[.agg [iV (fairN m g p (FW m g).length 0),iV (fairN m g p (FW m g).length 1),iV (fairN m g p (FW m g).length 2),iV (fairN m g p (FW m g).length 3)]],false⟩),1⟩) Q:=by
  intro d
  induction d with
  | zero =>
   intro j kk hj hk
   obtain ⟨kk,rfl⟩:∃ n,kk=n+1:=⟨kk - 1,by omega⟩
   obtain rfl:j=(FW m g).length:=by omega
   generalize (FW m g).length=N at *
   have l0:decide ((N:Int)<(N:Int))=false:=by simp
   simp +contextual -dsimp -implicitDefEqProofs (maxSteps:=5000000) only [gLs,↓Aj (zB.eq_1),l0,go_sem,simprocAttr]
  | succ d ih =>
   intro j kk hj hk
   obtain ⟨kk,rfl⟩:∃ n,kk=n+1:=⟨kk - 1,by omega⟩
   have ih:=ih (j+1) kk (by omega) (by omega)
   have hjn:j<(FW m g).length:=by omega
   have hsl:BU ⟨g,((p+j:Nat):Int)⟩=true:=by
    simp only [BU,hg,Bool.true_and];rw [AG];omega
   obtain ⟨r,s,hw,hgt,hs,hlab,hst⟩:=fair hM hg p hjn hsl
   have hat:fairAt m g p j=r:=by
    have:=fairAt_get (m:=m) (g:=g) (p:=p) hjn
    rw [hgt] at this;exact (Option.some.inj this).symm
   have qw:=fun b=>UI (i+9) b m hm g ((p+j:Nat):Int)
   rw [hw] at qw
   have hr:=Au hs
   have wp:IntKind.wrap .i64 ((p:Int)+(j:Int))=((p+j:Nat):Int):=by rw [AU (by omega) (by omega)];omega
   have b0:=fairN_le m g p 0 j
   have b1:=fairN_le m g p 1 j
   have b2:=fairN_le m g p 2 j
   have b3:=fairN_le m g p 3 j
   rw [fairN_s,fairN_s,fairN_s,fairN_s,hat] at ih
   generalize fairN m g p j 0=F0 at *
   generalize fairN m g p j 1=F1 at *
   generalize fairN m g p j 2=F2 at *
   generalize fairN m g p j 3=F3 at *
   have x0:=wrN F0 (by simp only [BB];omega)
   have x1:=wrN F1 (by simp only [BB];omega)
   have x2:=wrN F2 (by simp only [BB];omega)
   have x3:=wrN F3 (by simp only [BB];omega)
   have l0:decide ((j:Int)<((FW m g).length:Int))=true:=by simp;omega
   have l4:decide ((j:Int)<4)=true:=by simp;omega
   have l3:=wrN j (by simp only [BB];omega)
   have v1:decide (s.label=g)=true:=by simpa using hlab
   have v2:decide (s.step=6)=false:=by simpa using hst
   simp only [Nat.add_assoc,Nat.reduceAdd] at qw
   generalize fairN m g p (FW m g).length=FN at *
   generalize hL:(FW m g).length=N at *
   obtain h | h | h | h:r=0∨r=1∨r=2∨r=3:=by omega
   all_goals
    subst h
    have d2:∀ n:Nat,n<m.sess.length→decide ((m.sess.length:Int)≤(n:Int))=false:=fun n hn=>by simp;try omega
    have d3:∀ n:Nat,n<m.sess.length→((n:Int)<(m.sess.length:Int))=True:=fun n hn=>by simpa using hn
    have d2:=d2 _ hr
    have d3:=d3 _ hr
    simp only [Int.natCast_zero,Int.reduceEq,Nat.reduceEqDiff,if_true,if_false,Nat.add_zero,simprocAttr] at ih qw d2 d3
    simp +contextual -dsimp -implicitDefEqProofs (maxSteps:=5000000) only [gLs,↓Aj (zB.eq_1),l0,l4,hp,wp,qw,d2,d3,hs,v1,v2,x0,x1,x2,x3,l3,eS,go_sem,simprocAttr]
    exact (BF (by rfl)).trans ih
 have:=key (FW m g).length 0 kk (by omega) (by omega)
 simpa only [fairN,List.range_zero,List.filter_nil,List.length_nil,Int.natCast_zero] using this
theorem u_SlotFair (i:Nat) (m:Ad) (hm:SmM m) (lv pk:Int) (haw:Aa (Lv ctx (i+29)) 32 []=some (bV true)):Aa (Lv ctx (i+30)) 12 [eM true m,iV lv,iV pk]=some (bV true):=by
 obtain ⟨g,eg,hg⟩:∃ g:Int,EJ lv 3=g∧inR g 3=true:=⟨_,rfl,Kg lv 3 (by omega)⟩
 have hv:0≤EJ pk 127∧EJ pk 127≤127:=AG.1 (Kg pk 127 (by omega))
 obtain ⟨p,hp,hp1⟩:∃ p:Nat,EJ pk 127=(p:Int)∧p≤127:=⟨(EJ pk 127).toNat,by omega,by omega⟩
 have f1:=fun kf q Q u w kk hk=>l1_SlotFair i kf q Q m hm pk g u w kk hk
 have qw:=fun b=>UI (i+9) b m hm g (p:Int)
 have hb:∀ b:Bool,Bu lay .eql 4 (bV b) (bV b)=some (bV true):=by intro b;cases b<;>rfl
 simp only [Nat.add_assoc,Nat.reduceAdd] at qw
 cases hM:CY m
 ·have e:∀ x:Int,Cc m ⟨g,x⟩=(0,false,2400):=by intro x;unfold Cc;rw [hM];rfl
  rw [e] at qw
  have qm:=fun b=>UL (i+22) b m hm
  rw [hM] at qm
  simp only [Nat.add_assoc,Nat.reduceAdd] at qm
  have wp:IntKind.wrap .i64 ((p:Int)+0)=(p:Int):=AU (by omega) (by omega)
  refine Ac rfl (m.sess.length+8) (by rfl) ?_
  delta c12
  simp +contextual -dsimp -implicitDefEqProofs (maxSteps:=5000000) only [haw,eg,go_sem,simprocAttr]
  refine (f1 _ _ _ _ _ _ (by omega)).mpr ?_
  generalize (FW m g).length=N
  cases hN:decide ((0:Int)<(N:Int))
  ·simp +contextual -dsimp -implicitDefEqProofs (maxSteps:=5000000) only [hN,gLs,↓Aj (zB.eq_1),↓Aj (yZ.eq_1),hp,wp,qw,qm,hb,List.replicate,go_sem,simprocAttr]
  ·simp +contextual -dsimp -implicitDefEqProofs (maxSteps:=5000000) only [hN,gLs,↓Aj (zB.eq_1),hp,wp,qw,qm,hb,List.replicate,go_sem,simprocAttr]
 ·have hl4:=((RO m).1 hM).sl
  have hn4:(FW m g).length≤4:=by
   have h1:(FW m g).length=(m.sess.filter (Jg g)).length:=Xb _ _ _
   have h2:=List.length_filter_le (Jg g) m.sess
   omega
  have f2:=fun kf q Q u w kk hk=>l2_SlotFair i kf q Q m hm hM pk g hg p hp hp1 hl4 hn4 u w kk hk
  have o:=fun x=>fairN_one (m:=m) (g:=g) (p:=p) (x:=x) (FW m g).length (Nat.le_refl _)
  have o0:decide ((1:Int)<(fairN m g p (FW m g).length 0:Int))=false:=by have:=o 0;simp;omega
  have o1:decide ((1:Int)<(fairN m g p (FW m g).length 1:Int))=false:=by have:=o 1;simp;omega
  have o2:decide ((1:Int)<(fairN m g p (FW m g).length 2:Int))=false:=by have:=o 2;simp;omega
  have o3:decide ((1:Int)<(fairN m g p (FW m g).length 3:Int))=false:=by have:=o 3;simp;omega
  have hsl:BU ⟨g,((p+0:Nat):Int)⟩=true:=by
   simp only [BU,hg,Bool.true_and];rw [AG];omega
  have hfin:∃ a:Int,Cc m ⟨g,(p:Int)⟩=(a,decide ((0:Int)<((FW m g).length:Int)),0):=by
   by_cases hz:0<(FW m g).length
   ·obtain ⟨r,s,h,_⟩:=fair hM hg p hz hsl
    have e:decide ((0:Int)<((FW m g).length:Int))=true:=by simp;omega
    rw [e];exact ⟨r,h⟩
   ·have hnil:FW m g=[]:=List.eq_nil_of_length_eq_zero (by omega)
    have e:decide ((0:Int)<((FW m g).length:Int))=false:=by simp;omega
    rw [e]
    refine ⟨0,?_⟩
    unfold Cc
    rw [hM,show BU ⟨g,(p:Int)⟩=true from hsl]
    simp only [Bool.and_self,if_true,hnil,List.getElem?_nil]
  obtain ⟨a,hfin⟩:=hfin
  rw [hfin] at qw
  generalize fairN m g p (FW m g).length=FN at *
  clear hfin o
  refine Ac rfl (m.sess.length+8) (by rfl) ?_
  delta c12
  simp +contextual -dsimp -implicitDefEqProofs (maxSteps:=5000000) only [haw,eg,go_sem,simprocAttr]
  refine (f1 _ _ _ _ _ _ (by omega)).mpr ?_
  simp +contextual -dsimp -implicitDefEqProofs (maxSteps:=5000000) only [List.replicate,go_sem,simprocAttr]
  refine (f2 _ _ _ _ _ _ (by omega)).mpr ?_
  clear f1 f2 hn4
  generalize (FW m g).length=N at *
  cases hN:decide ((0:Int)<(N:Int))
  all_goals
   rw [hN] at qw
   simp +contextual -dsimp -implicitDefEqProofs (maxSteps:=5000000) only [hN,gLs,↓Aj (yZ.eq_1),o0,o1,o2,o3,hp,qw,hb,go_sem,simprocAttr]
end Ve
