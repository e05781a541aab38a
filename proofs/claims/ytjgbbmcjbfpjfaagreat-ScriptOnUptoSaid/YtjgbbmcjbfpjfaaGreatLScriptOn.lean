/- The statement ScriptOn. -/
import Derived.Test.YtjgbbmcjbfpjfaaGreatVeSE
import Derived.Test.YtjgbbmcjbfpjfaaGreatVeSH
import Derived.Test.YtjgbbmcjbfpjfaaGreatPL55
import Derived.Test.YtjgbbmcjbfpjfaaGreatVeP
set_option linter.all false
set_option linter.unusedSectionVars false
namespace Ve
open Go Ve.Ab
set_option maxHeartbeats 16000000
set_option maxRecDepth 20000
abbrev hSO (s:Aq) (sl:List V) (m A:Ad):Hp:=pO (pO (pO Af 0 (some ⟨11,[.agg (cM true m)],false⟩)) 1 (some ⟨7,[.agg [eNs true s.words.a0,eNs true s.words.a1,eNs true s.words.a2,eNs true s.words.a3,iV s.ceil,.isl true false 4 (s.starts.map (eSt true)),.isl true false 2 sl]],false⟩)) 2 (some ⟨11,[.agg (cM true A)],false⟩)
theorem l_SO (i k:Nat) (s:Aq) (hs:CK s) (hmay:Au s=true) (m:Ad) (sl:List V) (q:Out→St→Option Ans) (Q:V→Hp→Nat→Prop)
  (u:Dum (fun s q=>evC ctx (Lv ctx (i+30)) (Aa (Lv ctx (i+30))) k oC s (Al [2,5,9,11] q))) (w:Dum q)
  (hend:Fin (q (.exit 0) ⟨Ae [5,9] [.ptr 0 0 0,.ptr 2 0 0],hSO s sl m (Bq s).1,3⟩) Q):∀ (n j kk:Nat),j+n=s.slots.length→n<kk →
  GL 3 [2,5,9,11] (fun s q=>evC ctx (Lv ctx (i+30)) (Aa (Lv ctx (i+30))) k oC s (Al [2,5,9,11] q)) q kk ⟨Ae [2,5,9,11] [.ip true (cSc true s) 0,.ptr 0 0 0,.ptr 2 0 0,iV j],hSO s sl m (Bq (JD s j)).1,3⟩ Q u w
 | 0,j,kk,hj,hk=>by
  obtain ⟨kk,rfl⟩:∃ m,kk=m+1:=⟨kk - 1,by omega⟩
  obtain rfl:j=s.slots.length:=by omega
  have h1:decide ((s.slots.length:Int)<s.slots.length)=false:=by simp
  rw [vH]
  simp +contextual -dsimp -implicitDefEqProofs (maxSteps:=5000000) only [gLs,↓Ah (oC.eq_1),h1,go_sem,simprocAttr]
  exact hend
 | n+1,j,kk,hj,hk=>by
  obtain ⟨kk,rfl⟩:∃ m,kk=m+1:=⟨kk - 1,by omega⟩
  have hl:j<s.slots.length:=by omega
  have l1:((j:Int)<s.slots.length)=True:=by simpa using hl
  have l2:(0≤(j:Int))=True:=by simp
  have l3:=wrN j (by have:=hs.bsl;simp only [BB];omega)
  obtain ⟨x,hg⟩:∃ x,s.slots[j]?=some x:=⟨_,List.getElem?_eq_getElem hl⟩
  have qs:=Wj (i+17) true (Bq (JD s j)).1 (FE (fT hs j)) x.level x.pick
  have est:Bl (Bq (JD s j)).1 ⟨x.level,x.pick⟩=((Bq (JD s (j+1))).1,0):=nS hmay hg
  rw [est] at qs
  simp only [Nat.add_assoc,Nat.reduceAdd] at qs
  have ih:=l_SO i k s hs hmay m sl q Q u w hend n (j+1) kk (by omega) (by omega)
  clear est
  generalize (Bq (JD s j)).1=A at qs ⊢
  generalize (Bq (JD s (j+1))).1=B at qs ih
  simp +contextual -dsimp -implicitDefEqProofs (maxSteps:=5000000) only [gLs,↓Ah (oC.eq_1),l1,l2,l3,hg,qs,eSl,go_sem,simprocAttr]
  exact (AA (by rfl)).mpr ih
theorem u_ScriptOn (i:Nat) (s:Aq) (hs:CK s) (cut:Int) (haw:Aa (Lv ctx (i+30)) 25 []=some (bV true)):Aa (Lv ctx (i+31)) 8 [eSc true s,iV cut]=some (bV true):=by
 have q1:=Kq (i+1) true s hs
 simp only [Nat.add_assoc,Nat.reduceAdd] at q1
 rcases Wa (s:=s) with ⟨h0,hsm⟩ | ⟨h0,hsm⟩
 ·rw [h0] at q1
  have hbl:=(Hf hsm).1
  have hrem:=Wd (VK cut) (b:=((s.slots.length+1:Nat):Int)) (by omega)
  have e1:IntKind.wrap .i64 ((s.slots.length:Int)+1)=((s.slots.length+1:Nat):Int):=wrN _ (by simp only [BB];omega)
  have e64:IntKind.wrap .u64 ((s.slots.length+1:Nat):Int)=((s.slots.length+1:Nat):Int):=by
   have e1:(2 ^ IntKind.bits .u64:Int)=18446744073709551616:=by decide
   simp only [IntKind.wrap,IntKind.signed,Bool.false_and,Bool.false_eq_true,if_false,e1]
   omega
  have hr:∀ t a,BO lay .rem t (.lit (.int .u64 a)) (.lit (.int .u64 ((s.slots.length+1:Nat):Int)))=some (.lit (.int .u64 (a.tmod ((s.slots.length+1:Nat):Int)))):=fun t a=>Kk (by omega)
  have hru:=a8r cut (b:=((s.slots.length+1:Nat):Int)) (by omega) (by omega)
  obtain ⟨k,hk⟩:∃ k:Nat,(uW cut).tmod ((s.slots.length+1:Nat):Int)=(k:Int):=⟨((uW cut).tmod ((s.slots.length+1:Nat):Int)).toNat,by omega⟩
  rw [hk] at hru
  have hkl:k≤s.slots.length:=by omega
  have hw:IntKind.wrap .u64 cut=uW cut:=rfl
  have hwk:IntKind.wrap .i64 (k:Int)=(k:Int):=Be (by omega) (by omega)
  have l4:((k:Int)≤(s.slots.length:Int))=True:=by simpa using hkl
  have l5:(0≤(k:Int))=True:=by simp
  have q0:=NZ (i+29) true s hs
  have q2:=Kq (i+1) true (JD s k) (fT hs k)
  rw [(Iq (SH hsm k)).1] at q2
  have q6:=fun p1 p2=>BF (i+(30 - 3)) p1 p2 (Bq s).1 (Bq s).1 (FE hs)
  have key:=fun kf m sl q Q u w he kk hk=>l_SO i kf s hs hsm m sl q Q u w he (s.slots.length - k) k kk (by omega) hk
  simp only [Nat.add_assoc,Nat.reduceAdd,Nat.reduceSub,decide_true] at q0 q2 q6
  generalize (Bq (JD s k)).1=M2 at q2 key
  generalize (Bq s).1=M1 at q1 q6 key
  simp only [JD,eSc,cSc,eNs,Hw,Hu,List.map_take] at q2
  clear hrem
  refine Ac rfl (s.slots.length+1) (by rfl) ?_
  delta c8
  simp +contextual -dsimp -implicitDefEqProofs (maxSteps:=5000000) only [haw,q0,q1,e1,e64,hr,hru,hk,hw,hwk,l4,l5,q2,List.length_map,go_sem,simprocAttr]
  refine key _ M1 (List.take k (List.map eSl s.slots)) _ _ _ _ ?_ _ (by omega)
  simp +contextual -dsimp -implicitDefEqProofs (maxSteps:=5000000) only [q6,go_sem,simprocAttr]
 ·rw [h0] at q1
  have qz:=fun p q=>BF (i+(30 - 3)) p q Az Az Dx
  simp only [Az,eM,cM,eWs,eSs,eEs,List.map_nil,decide_true,Nat.add_assoc,Nat.reduceAdd,Nat.reduceSub] at qz
  simp only [Ay] at q1
  refine Ac rfl 0 (by rfl) ?_
  delta c8
  simp +contextual -dsimp -implicitDefEqProofs (maxSteps:=5000000) only [haw,q1,qz,go_sem,simprocAttr]
end Ve
