/- The statement TopAlone. -/
import Derived.Test.YthllnfkddiaokaaGreatS63
import Derived.Test.YthllnfkddiaokaaGreatS64
import Derived.Test.YthllnfkddiaokaaGreatS66
import Derived.Test.YthllnfkddiaokaaGreatPL52
set_option linter.all false
set_option linter.unusedSectionVars false
namespace Ve
open Go Ve.Ab
set_option maxHeartbeats 16000000
set_option maxRecDepth 20000
abbrev cT0 (s:Ap):List V:=[eNs true s.words.a0,eNs true s.words.a1,eNs true s.words.a2,eNs true s.words.a3,iV s.ceil,vV true s.starts,XT true s.slots]
abbrev hA0 (M:Ac) (b s:Ap):Hp:=pO (pO (pO Ag 0 (some ⟨7,[.agg (cSc true b)],false⟩)) 1 (some ⟨11,[.agg (cM true M)],false⟩)) 2 (some ⟨7,[.agg (cSc true s)],false⟩)
theorem yG (i kf:Nat) (s b:Ap) (M:Ac) (hs:Cj s) (k:Int) (e9 e11:Int) (picks:List Int) (hp:picks.length≤1048576) (q:Out→St→Option Ans) (Q:V→Hp→Nat→Prop)
  (u:Dum (fun s q=>evC ctx (Lv ctx (i+30)) (Aa (Lv ctx (i+30))) kf Fp s (As [2,3,7,10,11,12,13,14] q))) (w:Dum q)
  (hend:∀ acc:List AO,acc=Gp k (decide ((s.slots.length:Int)<100)) picks 0 s.slots→Fin (q (.exit 0) ⟨Ad [7,10,11,12,13] [iV k,.ptr 1 0 0,iV e11,.ptr 2 0 0,.sl 3],pO (hA0 M b s) 3 (some ⟨2,acc.map eSl,false⟩),4⟩) Q) :
  ∀ (suf pre:List AO) (kk:Nat) (acc:List AO),s.slots=pre++suf→suf.length<kk→acc.length≤2*pre.length→acc++Gp k (decide ((s.slots.length:Int)<100)) picks pre.length suf=Gp k (decide ((s.slots.length:Int)<100)) picks 0 s.slots →
  GL 3 [2,3,7,10,11,12,13,14] (fun s q=>evC ctx (Lv ctx (i+30)) (Aa (Lv ctx (i+30))) kf Fp s (As [2,3,7,10,11,12,13,14] q)) q kk ⟨Ad [2,3,7,10,11,12,13,14] [.isl true false 1 (picks.map iV),.ip true (cSc true s) 0,iV k,.ptr 1 0 0,iV e11,.ptr 2 0 0,.sl 3,iV pre.length],pO (hA0 M b s) 3 (some ⟨2,acc.map eSl,false⟩),4⟩ Q u w
 | [],pre,kk,acc,hxs,hk,hal,hacc=>by
  obtain ⟨kk,rfl⟩:∃ m,kk=m+1:=⟨kk - 1,by simp at hk;omega⟩
  have h1:decide ((pre.length:Int)<s.slots.length)=false:=by simp [hxs]
  have he:=hend acc (by simpa [Gp] using hacc)
  simp +contextual -dsimp -implicitDefEqProofs (maxSteps:=5000000) only [gLs,↓Ai (Fp.eq_1),h1,go_sem,simprocAttr]
  exact he
 | a::suf,pre,kk,acc,hxs,hk,hal,hacc=>by
  obtain ⟨kk,rfl⟩:∃ m,kk=m+1:=⟨kk - 1,by simp at hk;omega⟩
  have hl:pre.length<s.slots.length:=by simp [hxs]
  have hb:=hs.bsl
  have l1:((pre.length:Int)<s.slots.length)=True:=by simpa using hl
  have l2:(0≤(pre.length:Int))=True:=by simp
  have l3:=wrN pre.length (by simp only [BB];omega)
  have hg:s.slots[pre.length]?=some a:=by simp [hxs]
  have h5:(((acc.length+1:Nat):Int)*16≤140737488355328)=True:=by rw [eq_iff_iff,iff_true];omega
  have h6:(((acc.length+1+1:Nat):Int)*16≤140737488355328)=True:=by rw [eq_iff_iff,iff_true];omega
  have hmx:Gp k (decide ((s.slots.length:Int)<100)) picks pre.length (a::suf)=if Ao a.level k=true then (if decide ((s.slots.length:Int)<100)=true then Cg k picks pre.length else [])++a::Gp k (decide ((s.slots.length:Int)<100)) picks (pre.length+1) suf else Gp k (decide ((s.slots.length:Int)<100)) picks (pre.length+1) suf:=rfl
  rw [hmx] at hacc
  have ih:=fun acc' h1 h2=>yG i kf s b M hs k e9 e11 picks hp q Q u w hend suf (pre++[a]) kk acc' (by simp [hxs]) (by simpa using hk) h1 (by simp only [Ah];exact h2)
  simp only [Ah] at ih
  cases c0:Ao a.level k
  ·rw [c0] at hacc
   have ih:=ih acc (by omega) hacc
   simp +contextual -dsimp -implicitDefEqProofs (maxSteps:=5000000) only [gLs,↓Ai (Fp.eq_1),l1,l2,l3,hg,c0,eSl,go_sem,simprocAttr]
   exact (Av (by rfl)).mpr ih
  ·rw [c0] at hacc
   simp only [if_true] at hacc
   have plain:(if decide ((s.slots.length:Int)<100)=true then Cg k picks pre.length else [])=[]→GL 3 [2,3,7,10,11,12,13,14] (fun s q=>evC ctx (Lv ctx (i+30)) (Aa (Lv ctx (i+30))) kf Fp s (As [2,3,7,10,11,12,13,14] q)) q kk ⟨Ad [2,3,7,10,11,12,13,14] [.isl true false 1 (picks.map iV),.ip true (cSc true s) 0,iV k,.ptr 1 0 0,iV e11,.ptr 2 0 0,.sl 3,iV ((pre.length+1:Nat):Int)],pO (hA0 M b s) 3 (some ⟨2,(acc++[a]).map eSl,false⟩),4⟩ Q u w:=by
    intro hx
    rw [hx] at hacc
    exact ih (acc++[a]) (by simp;omega) (by rw [← hacc];simp)
   by_cases c1:pre.length<picks.length
   ·obtain ⟨p,hpk⟩:∃ p,picks[pre.length]?=some p:=⟨_,List.getElem?_eq_getElem c1⟩
    have m1:((pre.length:Int)<picks.length)=True:=by simpa using c1
    cases c2:Ao (Df p 3) k
    ·cases c3:decide ((s.slots.length:Int)<100)
     ·have hx:=plain (by rw [c3];rfl)
      simp only [List.map_append,List.map_cons,List.map_nil,eSl] at hx
      simp +contextual -dsimp -implicitDefEqProofs (maxSteps:=5000000) only [gLs,↓Ai (Fp.eq_1),l1,l2,l3,m1,hg,c0,c2,c3,hpk,h5,eSl,go_sem,simprocAttr]
      exact (Av (by rfl)).mpr hx
     ·obtain ⟨P2,hP2⟩:∃ P2,p.fdiv (2 ^ min (2:Int).toNat (IntKind.bits .i64))=P2:=⟨_,rfl⟩
      have hex:Cg k picks pre.length=[⟨Df p 3,Df P2 255⟩]:=by unfold Cg;rw [hpk];simp only [c2,Bool.false_eq_true,if_false];rw [hP2]
      rw [c3,if_pos rfl,hex] at hacc
      have ih:=ih (acc++[⟨Df p 3,Df P2 255⟩]++[a]) (by simp;omega) (by rw [c3,← hacc];simp)
      simp only [List.map_append,List.map_cons,List.map_nil,eSl] at ih
      have hsh:∀ t,BJ lay .shr t (iV p) (.lit (.int .u64 2))=some (iV P2):=fun t=>by rw [← hP2];exact Mx (by decide)
      clear hP2
      simp +contextual -dsimp -implicitDefEqProofs (maxSteps:=5000000) only [gLs,↓Ai (Fp.eq_1),l1,l2,l3,m1,hg,c0,c2,c3,hpk,hsh,h5,h6,eSl,List.length_append,List.length_map,go_sem,simprocAttr]
      exact (Av (by rfl)).mpr ih
    ·have hex:Cg k picks pre.length=[]:=by unfold Cg;rw [hpk];simp [c2]
     have hx:=plain (by rw [hex];split<;>rfl)
     simp only [List.map_append,List.map_cons,List.map_nil,eSl] at hx
     simp +contextual -dsimp -implicitDefEqProofs (maxSteps:=5000000) only [gLs,↓Ai (Fp.eq_1),l1,l2,l3,m1,hg,c0,c2,hpk,h5,eSl,go_sem,simprocAttr]
     exact (Av (by rfl)).mpr hx
   ·have m0:decide ((pre.length:Int)<picks.length)=false:=by simpa using c1
    have hex:Cg k picks pre.length=[]:=by
     unfold Cg
     rw [List.getElem?_eq_none (by omega)]
    have hx:=plain (by rw [hex];split<;>rfl)
    simp only [List.map_append,List.map_cons,List.map_nil,eSl] at hx
    simp +contextual -dsimp -implicitDefEqProofs (maxSteps:=5000000) only [gLs,↓Ai (Fp.eq_1),l1,l2,l3,m0,hg,c0,h5,eSl,go_sem,simprocAttr]
    exact (Av (by rfl)).mpr hx
theorem yJ (i kf:Nat) (s b:Ap) (M:Ac) (hs:Cj s) (k:Int) (e9 e11:Int) (picks:List Int) (hp:picks.length≤1048576) (q:Out→St→Option Ans) (Q:V→Hp→Nat→Prop)
  (u:Dum (fun s q=>evC ctx (Lv ctx (i+30)) (Aa (Lv ctx (i+30))) kf Fp s (As [2,3,7,10,11,12,13,14] q))) (w:Dum q)
  (hend:∀ acc:List AO,acc=Gp k (decide ((s.slots.length:Int)<100)) picks 0 s.slots→Fin (q (.exit 0) ⟨Ad [7,10,11,12,13] [iV k,.ptr 1 0 0,iV e11,.ptr 2 0 0,.sl 3],pO (hA0 M b s) 3 (some ⟨2,acc.map eSl,false⟩),4⟩) Q)
  (hnil:Gp k (decide ((s.slots.length:Int)<100)) picks 0 s.slots=[]→Fin (q (.exit 0) ⟨Ad [7,10,11,12,13] [iV k,.ptr 1 0 0,iV e11,.ptr 2 0 0,.lit (.slice none 0 0)],hA0 M b s,3⟩) Q) :
  ∀ (suf pre:List AO) (kk:Nat),s.slots=pre++suf→suf.length<kk→Gp k (decide ((s.slots.length:Int)<100)) picks pre.length suf=Gp k (decide ((s.slots.length:Int)<100)) picks 0 s.slots →
  GL 3 [2,3,7,10,11,12,13,14] (fun s q=>evC ctx (Lv ctx (i+30)) (Aa (Lv ctx (i+30))) kf Fp s (As [2,3,7,10,11,12,13,14] q)) q kk ⟨Ad [2,3,7,10,11,12,13,14] [.isl true false 1 (picks.map iV),.ip true (cSc true s) 0,iV k,.ptr 1 0 0,iV e11,.ptr 2 0 0,.lit (.slice none 0 0),iV pre.length],hA0 M b s,3⟩ Q u w
 | [],pre,kk,hxs,hk,hacc=>by
  obtain ⟨kk,rfl⟩:∃ m,kk=m+1:=⟨kk - 1,by simp at hk;omega⟩
  have h1:decide ((pre.length:Int)<s.slots.length)=false:=by simp [hxs]
  have he:=hnil (by rw [← hacc];rfl)
  simp +contextual -dsimp -implicitDefEqProofs (maxSteps:=5000000) only [gLs,↓Ai (Fp.eq_1),h1,go_sem,simprocAttr]
  exact he
 | a::suf,pre,kk,hxs,hk,hacc=>by
  obtain ⟨kk,rfl⟩:∃ m,kk=m+1:=⟨kk - 1,by simp at hk;omega⟩
  have hl:pre.length<s.slots.length:=by simp [hxs]
  have hb:=hs.bsl
  have l1:((pre.length:Int)<s.slots.length)=True:=by simpa using hl
  have l2:(0≤(pre.length:Int))=True:=by simp
  have l3:=wrN pre.length (by simp only [BB];omega)
  have hg:s.slots[pre.length]?=some a:=by simp [hxs]
  have hmx:Gp k (decide ((s.slots.length:Int)<100)) picks pre.length (a::suf)=if Ao a.level k=true then (if decide ((s.slots.length:Int)<100)=true then Cg k picks pre.length else [])++a::Gp k (decide ((s.slots.length:Int)<100)) picks (pre.length+1) suf else Gp k (decide ((s.slots.length:Int)<100)) picks (pre.length+1) suf:=rfl
  rw [hmx] at hacc
  have ihb:=fun acc' h1 h2=>yG i kf s b M hs k e9 e11 picks hp q Q u w hend suf (pre++[a]) kk acc' (by simp [hxs]) (by simpa using hk) h1 (by simp only [Ah];exact h2)
  simp only [Ah] at ihb
  cases c0:Ao a.level k
  ·rw [c0] at hacc
   have ih:=yJ i kf s b M hs k e9 e11 picks hp q Q u w hend hnil suf (pre++[a]) kk (by simp [hxs]) (by simpa using hk) (by simp only [Ah];exact hacc)
   simp only [Ah] at ih
   simp +contextual -dsimp -implicitDefEqProofs (maxSteps:=5000000) only [gLs,↓Ai (Fp.eq_1),l1,l2,l3,hg,c0,eSl,go_sem,simprocAttr]
   exact (Av (by rfl)).mpr ih
  ·rw [c0] at hacc
   simp only [if_true] at hacc
   have plain:(if decide ((s.slots.length:Int)<100)=true then Cg k picks pre.length else [])=[]→GL 3 [2,3,7,10,11,12,13,14] (fun s q=>evC ctx (Lv ctx (i+30)) (Aa (Lv ctx (i+30))) kf Fp s (As [2,3,7,10,11,12,13,14] q)) q kk ⟨Ad [2,3,7,10,11,12,13,14] [.isl true false 1 (picks.map iV),.ip true (cSc true s) 0,iV k,.ptr 1 0 0,iV e11,.ptr 2 0 0,.sl 3,iV ((pre.length+1:Nat):Int)],pO (hA0 M b s) 3 (some ⟨2,[a].map eSl,false⟩),4⟩ Q u w:=by
    intro hx
    rw [hx] at hacc
    exact ihb [a] (by simp;omega) (by rw [← hacc];simp)
   by_cases c1:pre.length<picks.length
   ·obtain ⟨p,hpk⟩:∃ p,picks[pre.length]?=some p:=⟨_,List.getElem?_eq_getElem c1⟩
    have m1:((pre.length:Int)<picks.length)=True:=by simpa using c1
    cases c2:Ao (Df p 3) k
    ·cases c3:decide ((s.slots.length:Int)<100)
     ·have hx:=plain (by rw [c3];rfl)
      simp only [List.map_cons,List.map_nil,eSl] at hx
      simp +contextual -dsimp -implicitDefEqProofs (maxSteps:=5000000) only [gLs,↓Ai (Fp.eq_1),l1,l2,l3,m1,hg,c0,c2,c3,hpk,eSl,List.replicate,go_sem,simprocAttr]
      exact (Av (by rfl)).mpr hx
     ·obtain ⟨P2,hP2⟩:∃ P2,p.fdiv (2 ^ min (2:Int).toNat (IntKind.bits .i64))=P2:=⟨_,rfl⟩
      have hex:Cg k picks pre.length=[⟨Df p 3,Df P2 255⟩]:=by unfold Cg;rw [hpk];simp only [c2,Bool.false_eq_true,if_false];rw [hP2]
      rw [c3,if_pos rfl,hex] at hacc
      have ih:=ihb ([⟨Df p 3,Df P2 255⟩]++[a]) (by simp;omega) (by rw [c3,← hacc];simp)
      simp only [List.map_append,List.map_cons,List.map_nil,eSl,List.cons_append,List.nil_append] at ih
      have hsh:∀ t,BJ lay .shr t (iV p) (.lit (.int .u64 2))=some (iV P2):=fun t=>by rw [← hP2];exact Mx (by decide)
      clear hP2
      simp +contextual -dsimp -implicitDefEqProofs (maxSteps:=5000000) only [gLs,↓Ai (Fp.eq_1),l1,l2,l3,m1,hg,c0,c2,c3,hpk,hsh,eSl,List.replicate,List.cons_append,List.nil_append,List.length_cons,List.length_nil,go_sem,simprocAttr]
      exact (Av (by rfl)).mpr ih
    ·have hex:Cg k picks pre.length=[]:=by unfold Cg;rw [hpk];simp [c2]
     have hx:=plain (by rw [hex];split<;>rfl)
     simp only [List.map_cons,List.map_nil,eSl] at hx
     simp +contextual -dsimp -implicitDefEqProofs (maxSteps:=5000000) only [gLs,↓Ai (Fp.eq_1),l1,l2,l3,m1,hg,c0,c2,hpk,eSl,List.replicate,go_sem,simprocAttr]
     exact (Av (by rfl)).mpr hx
   ·have m0:decide ((pre.length:Int)<picks.length)=false:=by simpa using c1
    have hex:Cg k picks pre.length=[]:=by
     unfold Cg
     rw [List.getElem?_eq_none (by omega)]
    have hx:=plain (by rw [hex];split<;>rfl)
    simp only [List.map_cons,List.map_nil,eSl] at hx
    simp +contextual -dsimp -implicitDefEqProofs (maxSteps:=5000000) only [gLs,↓Ai (Fp.eq_1),l1,l2,l3,m0,hg,c0,eSl,List.replicate,go_sem,simprocAttr]
    exact (Av (by rfl)).mpr hx
theorem u_TopAlone (i:Nat) (s:Ap) (hs:Cj s) (g:Int) (picks:List Int) (hp:picks.length≤1048576) (haw:Aa (Lv ctx (i+30)) 15 []=some (bV true)):Aa (Lv ctx (i+31)) 12 [eSc true s,iV g,.isl true false 1 (picks.map iV)]=some (bV true):=by
 obtain ⟨k,eg,hg⟩:∃ k:Int,Df g 3=k∧inR k 3=true:=⟨_,rfl,GY g 3 (by omega)⟩
 have q1:=Oc (i+7) s hs k
 simp only [Nat.add_assoc,Nat.reduceAdd] at q1
 rcases My (s:=s) hg with ⟨e1,h1⟩ | ⟨e1,h1⟩
 ·rw [e1] at q1
  have hT:=fT h1 hg picks
  have hB:=fJ h1 k
  have hsB:=MJ hs k
  have hsT:Cj (HW s k picks):=by
   obtain ⟨b0,b1,b2,b3,bst,bsl,p⟩:=hs
   exact ⟨b0,b1,b2,b3,bst,Nat.le_trans (RX (Kr h1).1 k picks) (by omega),p⟩
  have q0:=Lx (i+29) true s hs
  have q2:=KL (i+1) true (Bj s k) hsB
  have q3:=iL (i+1) true (HW s k picks) hsT (s.starts.map fun x=>(true,x)) (by rw [List.map_map];exact (List.map_id _).symm)
  have q4:=fun p=>ID (i+9) p (BN (Bj s k)).1 (DU hsB) k
  have q5:=fun p=>ID (i+9) p (BN (HW s k picks)).1 (DU hsT) k
  have hsv:=OJ hg hB hT (Yo (s:=s) picks)
  have q6:=fun p q=>Bq (i+(30 - 3)) p q (Dr (BN (Bj s k)).1 k) (Dr (BN (Bj s k)).1 k) (LA (DU hsB) k)
  rw [IC hg hB] at q4
  rw [IC hg hT,← hsv] at q5
  rw [(GK hB).1] at q2
  rw [(GK hT).1] at q3
  simp only [Nat.add_assoc,Nat.reduceAdd,Nat.reduceSub,decide_true] at q0 q2 q3 q4 q5 q6
  have key:=fun kf b M e9 e11 q Q u w he hn kk hk=>yJ i kf s b M hs k e9 e11 picks hp q Q u w he hn s.slots [] kk rfl hk rfl
  simp only [List.length_nil,Int.natCast_zero] at key
  generalize (BN (HW s k picks)).1=M2 at q3 q5
  have efs:(s.starts.map fun x=>(true,x)).map Ng=s.starts.map (eSt true):=by rw [List.map_map];rfl
  simp only [eQ,HW] at q3
  rw [efs] at q3
  generalize Dr (BN (Bj s k)).1 k=X at q4 q5 q6
  generalize (BN (Bj s k)).1=M1 at q2 q4
  generalize Bj s k=B at q1 q2
  clear hT hB hsB hsT hsv e1 h1
  refine Af rfl (s.slots.length+1) (by rfl) ?_
  delta c12
  simp +contextual -dsimp -implicitDefEqProofs (maxSteps:=5000000) only [haw,eg,q0,q1,q2,go_sem,simprocAttr]
  refine key _ B M1 0 _ _ _ _ _ ?_ ?_ _ (by omega)
  ·intro acc hacc
   rw [← hacc] at q3
   simp +contextual -dsimp -implicitDefEqProofs (maxSteps:=5000000) only [q3,q4,q5,q6,go_sem,simprocAttr]
  ·intro hn
   rw [hn] at q3
   simp only [XT,List.map_nil] at q3
   simp +contextual -dsimp -implicitDefEqProofs (maxSteps:=5000000) only [q3,q4,q5,q6,go_sem,simprocAttr]
 ·rw [e1] at q1
  have q2:=So (i+9) true s hs
  rw [h1] at q2
  simp only [Nat.add_assoc,Nat.reduceAdd] at q2
  refine Af rfl 0 (by rfl) ?_
  delta c12
  simp +contextual -dsimp -implicitDefEqProofs (maxSteps:=5000000) only [haw,eg,q1,q2,go_sem,simprocAttr]
end Ve
