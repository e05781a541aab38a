/- Undoing: the program's, on. -/
import Derived.Test.YthllnfkddiaokaaGreatVeSA
import Derived.Test.YthllnfkddiaokaaGreatVeP
import Derived.Test.YthllnfkddiaokaaGreatVeN
set_option linter.all false
set_option linter.unusedSectionVars false
namespace Ve
open Go Ve.Ab
set_option maxHeartbeats 16000000
set_option maxRecDepth 10000
theorem nF (L:Lay) (t:TypeId):Bu L t (.lit (.slice none 0 0))=match L t with
 | some { k:=.sl el,.. }=>match L el with
  | some e=>.own e.size []
  | none=>.lit (.slice none 0 0)
 | _=>.lit (.slice none 0 0):=by
 simp only [Bu,V.isNil,if_true]
 rcases L t with _ | ⟨_,_,_,k,_,_,_⟩
 ·rfl
 ·cases k<;>rfl
attribute [go_sem] nF
abbrev hN (m:Ac) (a1 a2 a3 a4:List V) (els:List V):Hp :=
 pO (pO (pO (pO (pO (pO (pO (pO Ag 0 (some ⟨11,[zM],false⟩)) 1 (some ⟨3,a1,false⟩)) 2 (some ⟨3,a2,false⟩)) 3 (some ⟨3,a3,false⟩)) 4 (some ⟨3,a4,false⟩)) 5 (some ⟨17,els,false⟩)) 6 (some ⟨4,m.trace.map eE,false⟩))
  7 (some ⟨11,[.agg [.sl 1,.sl 2,.sl 3,.sl 4,iV m.clocks.a0,iV m.clocks.a1,iV m.clocks.a2,iV m.clocks.a3,iV m.ceil,.sl 5,.sl 6]],true⟩)
abbrev hT (m:Ac) (a1 a2 a3 a4:List V) (els:List V) (e:AI):Hp :=
 pO (pO (pO (pO (pO (pO (pO (pO (pO (pO Ag 0 (some ⟨11,[zM],false⟩)) 1 (some ⟨3,a1,false⟩)) 2 (some ⟨3,a2,false⟩)) 3 (some ⟨3,a3,false⟩)) 4 (some ⟨3,a4,false⟩)) 5 (some ⟨17,els,false⟩)) 6 none)
  7 (some ⟨11,[.agg [.sl 1,.sl 2,.sl 3,.sl 4,iV m.clocks.a0,iV m.clocks.a1,iV m.clocks.a2,iV m.clocks.a3,iV m.ceil,.sl 5,.sl 9]],true⟩)) 8 none) 9 (some ⟨4,m.trace.map eE++[eE e],false⟩)
theorem iY (i:Nat) (m:Ac) (hm:SmM m) (k:Nat) (s:Ae) (hs:m.sess[k]?=some s):Lv ctx (i+2) 193 [.ptr 7 0 0,iV k] (hF0 m) 8 =
  some (.ptr 5 k 0,hN m ((m.words.a0.map (Aw (IntKind.wrap .i64 (s.id+1)))).map eW) ((m.words.a1.map (Aw (IntKind.wrap .i64 (s.id+1)))).map eW) ((m.words.a2.map (Aw (IntKind.wrap .i64 (s.id+1)))).map eW) ((m.words.a3.map (Aw (IntKind.wrap .i64 (s.id+1)))).map eW) ((m.sess.map oS).set k (oS (ED s))),8):=by
 have hk:k<m.sess.length:=by
  rcases Nat.lt_or_ge k m.sess.length with h | h
  ·exact h
  ·rw [List.getElem?_eq_none h] at hs;cases hs
 have h1:(0≤(k:Int))=True:=by simp
 have h2:((k:Int)<(m.sess.length:Int))=True:=by simpa using hk
 have h3:(m.sess.map oS)[k]?=some (oS s):=by simp [hs]
 have h4:∀ x y,((m.sess.map oS).set k x).set k y=(m.sess.map oS).set k y:=fun x y=>List.set_set ..
 have h5:∀ x,((m.sess.map oS).set k x)[k]?=some x:=fun x=>List.getElem?_set_self (by simpa using hk)
 have hf:=a0h i m hm s.id _ rfl
 simp only [oS] at h3
 refine Pv rfl 0 ?_
 delta c193
 simp +contextual -dsimp -implicitDefEqProofs (maxSteps:=5000000) only [h1,h2,h3,h4,h5,hf,ED,List.map_nil,go_sem,simprocAttr]
 rfl
theorem iR (i:Nat) (m:Ac) (a1 a2 a3 a4 l:List V) (k:Nat) (hk:k<l.length) (id lb:Int) (rest:List V) (kd vl:Int) (htr:m.trace.length<512) :
  Lv ctx (i+1) 163 [.ptr 7 0 0,iV k,iV kd,iV vl] (hN m a1 a2 a3 a4 (l.set k (.agg (iV id::iV lb::rest)))) 8=some (.tup [],hT m a1 a2 a3 a4 (l.set k (.agg (iV id::iV lb::rest))) ⟨id,lb,kd,vl⟩,10):=by
 have h1:(0≤(k:Int))=True:=by simp
 have h2:((k:Int)<(l.length:Int))=True:=by simpa using hk
 have h5:∀ x,(l.set k x)[k]?=some x:=fun x=>List.getElem?_set_self hk
 have h6:decide ((m.trace.length:Int)<512)=true:=by simp;omega
 have h7:(((m.trace.length+1:Nat):Int)*32≤140737488355328)=True:=by simp;omega
 refine Pv rfl 0 ?_
 delta Ue
 simp +contextual -dsimp -implicitDefEqProofs (maxSteps:=5000000) only [h1,h2,h5,h6,h7,List.length_set,List.replicate,go_sem,simprocAttr]
 rfl
theorem Sr (i:Nat) (m:Ac) (a1 a2 a3 a4 els:List V) (k:Int) (kd vl:Int) (htr:¬ m.trace.length<512) :
  Lv ctx (i+1) 163 [.ptr 7 0 0,iV k,iV kd,iV vl] (hN m a1 a2 a3 a4 els) 8=some (.tup [],hN m a1 a2 a3 a4 els,8):=by
 have h6:decide ((m.trace.length:Int)<512)=false:=by simp;omega
 refine Pv rfl 0 ?_
 delta Ue
 simp +contextual -dsimp -implicitDefEqProofs (maxSteps:=5000000) only [h6,go_sem,simprocAttr]
theorem Ky {x:Option (V × Hp × Nat)} {v:V} {h:Hp} {n:Nat} {k:V→Hp→Nat→Option Ans} {Q:V→Hp→Nat→Prop} {u:Dum k} (hx:x=some (v,h,n)) (hk:Fin (k v h n) Q):GI x k Q u:=by rw [hx];exact hk
theorem Od (i:Nat) (pf:Bool) (m:Ac) (hm:SmM m) (at_ kind:Int):Aa (Lv ctx (i+21)) 157 [eM pf m,iV at_,iV kind]=some (.tup [oM (Cy m at_ kind).1,iV (Cy m at_ kind).2]):=by
 have ht:=Ii (i+0) pf pf m at_ hm
 have hc:=Dw (i+17) pf m hm
 simp only [Nat.add_assoc,Nat.reduceAdd] at ht hc
 cases h1:(Cs m at_&&(decide (kind=3)||decide (kind=5)))
 ·have h2:∀ a b c:Bool,(!a||!b&&!c)=!(a&&(b||c)):=by decide
  have h3:=h2 (Cs m at_) (decide (kind=3)) (decide (kind=5))
  rw [h1] at h3
  refine Af rfl 0 (by rfl) ?_
  delta wY
  simp +contextual -dsimp -implicitDefEqProofs (maxSteps:=5000000) only [ht,h3,go_sem,simprocAttr]
  simp only [Cy,h1]
  rfl
 ·have h2:∀ a b c:Bool,(!a||!b&&!c)=!(a&&(b||c)):=by decide
  have h3:=h2 (Cs m at_) (decide (kind=3)) (decide (kind=5))
  rw [h1] at h3
  have hh:Cs m at_=true:=by simp only [Bool.and_eq_true] at h1;exact h1.1
  obtain ⟨s,k,rfl,hs,hk⟩:=Px hh
  have hd:=iY (i+(20 - 2)) m hm k s hs
  have h5:∀ x,((m.sess.map oS).set k x)[k]?=some x:=fun x=>List.getElem?_set_self (by simpa using hk)
  have h4:∀ x y,((m.sess.map oS).set k x).set k y=(m.sess.map oS).set k y:=fun x y=>List.set_set ..
  have hm1:Cy m k kind=(Bm (Bd (DH (IntKind.wrap .i64 (s.id+1)) m) k (Co s)) ⟨s.id,s.label,kind,KF s.tries⟩,0):=by
   simp only [Cy,h1,if_true,Int.toNat_natCast,hs]
  rw [hm1]
  by_cases htr:m.trace.length<512
  ·have hn:=iR (i+(20 - 1)) m ((m.words.a0.map (Aw (IntKind.wrap .i64 (s.id+1)))).map eW) ((m.words.a1.map (Aw (IntKind.wrap .i64 (s.id+1)))).map eW) ((m.words.a2.map (Aw (IntKind.wrap .i64 (s.id+1)))).map eW) ((m.words.a3.map (Aw (IntKind.wrap .i64 (s.id+1)))).map eW) (m.sess.map oS) k (by simpa using hk) s.id s.label
    [iV s.clear,oIs s.prog,iV 0,iV 0,iV 0,iV 0,iV 0,iV 0,oRs [],Xm [],iV 0,iV 0,iV (KF s.tries),iV s.result,iV s.told] kind (KF s.tries) htr
   simp only [Nat.add_assoc,Nat.reduceAdd,Nat.reduceSub] at hd hn
   refine Af rfl 0 (by rfl) ?_
   delta wY
   simp +contextual -dsimp -implicitDefEqProofs (maxSteps:=5000000) only [ht,hc,h3,hd,h4,h5,hn,ED,KF,go_sem,simprocAttr]
   refine Ky hn ?_
   simp +contextual -dsimp -implicitDefEqProofs (maxSteps:=5000000) only [h5,h4,go_sem,simprocAttr]
   simp only [oM,cO,oWs,oSs,oEs,Bm,Bd,DH,htr,if_true,List.map_set,List.map_append,Co,ED]
   rfl
  ·have hn:=Sr (i+(20 - 1)) m ((m.words.a0.map (Aw (IntKind.wrap .i64 (s.id+1)))).map eW) ((m.words.a1.map (Aw (IntKind.wrap .i64 (s.id+1)))).map eW) ((m.words.a2.map (Aw (IntKind.wrap .i64 (s.id+1)))).map eW) ((m.words.a3.map (Aw (IntKind.wrap .i64 (s.id+1)))).map eW)
    ((m.sess.map oS).set k (oS (Co s))) k kind (KF s.tries) htr
   simp only [Nat.add_assoc,Nat.reduceAdd,Nat.reduceSub] at hd hn
   refine Af rfl 0 (by rfl) ?_
   delta wY
   simp +contextual -dsimp -implicitDefEqProofs (maxSteps:=5000000) only [ht,hc,h3,hd,h4,h5,ED,go_sem,simprocAttr]
   refine Ky hn ?_
   simp +contextual -dsimp -implicitDefEqProofs (maxSteps:=5000000) only [h5,h4,go_sem,simprocAttr]
   simp only [oM,cO,oWs,oSs,oEs,Bm,Bd,DH,htr,if_false,List.map_set,Co,ED]
   rfl
theorem UJ (i:Nat) (pf:Bool) (m:Ac) (hm:SmM m) (at_ result told:Int):Aa (Lv ctx (i+21)) 159 [eM pf m,iV at_,iV result,iV told]=some (.tup [oM (ET m at_ result told).1,iV (ET m at_ result told).2]):=by
 have ht:=Ii (i+0) pf pf m at_ hm
 have hc:=Dw (i+17) pf m hm
 simp only [Nat.add_assoc,Nat.reduceAdd] at ht hc
 have h2:∀ a b c d:Bool,(!a||!b||!c||!d)=!(a&&(b&&c)&&d):=by decide
 have h3:=h2 (Cs m at_) (decide (0≤result)) (decide (result≤5)) (inR told 255)
 have n1:decide (result<0)=!decide (0≤result):=by rw [← decide_not];apply decide_eq_decide.mpr;omega
 have n2:decide (5<result)=!decide (result≤5):=by rw [← decide_not];apply decide_eq_decide.mpr;omega
 cases h1:(Cs m at_&&(decide (0≤result)&&decide (result≤5))&&inR told 255)<;>rw [h1] at h3
 ·refine Af rfl 0 (by rfl) ?_
  delta wW
  simp +contextual -dsimp -implicitDefEqProofs (maxSteps:=5000000) only [ht,h3,n1,n2,go_sem,simprocAttr]
  simp only [ET,inR] at h1 ⊢
  simp only [h1]
  rfl
 ·have hh:Cs m at_=true:=by simp only [Bool.and_eq_true] at h1;exact h1.1.1
  obtain ⟨s,k,rfl,hs,hk⟩:=Px hh
  have hd:=iY (i+(20 - 2)) m hm k s hs
  have h5:∀ x,((m.sess.map oS).set k x)[k]?=some x:=fun x=>List.getElem?_set_self (by simpa using hk)
  have h4:∀ x y,((m.sess.map oS).set k x).set k y=(m.sess.map oS).set k y:=fun x y=>List.set_set ..
  have hm1:ET m k result told=(Bm (Bd (DH (IntKind.wrap .i64 (s.id+1)) m) k (DB s result told)) ⟨s.id,s.label,6,result⟩,0):=by
   simp only [inR] at h1
   simp only [ET,inR,h1,if_true,Int.toNat_natCast,hs]
  rw [hm1]
  by_cases htr:m.trace.length<512
  ·have hn:=iR (i+(20 - 1)) m ((m.words.a0.map (Aw (IntKind.wrap .i64 (s.id+1)))).map eW) ((m.words.a1.map (Aw (IntKind.wrap .i64 (s.id+1)))).map eW) ((m.words.a2.map (Aw (IntKind.wrap .i64 (s.id+1)))).map eW) ((m.words.a3.map (Aw (IntKind.wrap .i64 (s.id+1)))).map eW) (m.sess.map oS) k (by simpa using hk) s.id s.label
    [iV s.clear,oIs s.prog,iV 6,iV s.pc,iV s.regs.a0,iV s.regs.a1,iV s.regs.a2,iV s.regs.a3,oRs [],Xm [],iV 0,iV 0,iV s.tries,iV result,iV told] 6 result htr
   simp only [Nat.add_assoc,Nat.reduceAdd,Nat.reduceSub] at hd hn
   refine Af rfl 0 (by rfl) ?_
   delta wW
   simp +contextual -dsimp -implicitDefEqProofs (maxSteps:=5000000) only [ht,hc,h3,n1,n2,hd,h4,h5,ED,go_sem,simprocAttr]
   refine Ky hn ?_
   simp +contextual -dsimp -implicitDefEqProofs (maxSteps:=5000000) only [h5,h4,go_sem,simprocAttr]
   simp only [oM,cO,oWs,oSs,oEs,Bm,Bd,DH,htr,if_true,List.map_set,List.map_append,DB,ED]
   rfl
  ·have hn:=Sr (i+(20 - 1)) m ((m.words.a0.map (Aw (IntKind.wrap .i64 (s.id+1)))).map eW) ((m.words.a1.map (Aw (IntKind.wrap .i64 (s.id+1)))).map eW) ((m.words.a2.map (Aw (IntKind.wrap .i64 (s.id+1)))).map eW) ((m.words.a3.map (Aw (IntKind.wrap .i64 (s.id+1)))).map eW)
    ((m.sess.map oS).set k (oS (DB s result told))) k 6 result htr
   simp only [Nat.add_assoc,Nat.reduceAdd,Nat.reduceSub] at hd hn
   refine Af rfl 0 (by rfl) ?_
   delta wW
   simp +contextual -dsimp -implicitDefEqProofs (maxSteps:=5000000) only [ht,hc,h3,n1,n2,hd,h4,h5,ED,go_sem,simprocAttr]
   refine Ky hn ?_
   simp +contextual -dsimp -implicitDefEqProofs (maxSteps:=5000000) only [h5,h4,go_sem,simprocAttr]
   simp only [oM,cO,oWs,oSs,oEs,Bm,Bd,DH,htr,if_false,List.map_set,DB,ED]
   rfl
end Ve
namespace Ve
open Go Ve.Ab
set_option maxHeartbeats 16000000
set_option maxRecDepth 100000
@[go_sem] theorem r_there (i:Nat) (a b c d na nb nc nd:Bool) (w0 w1 w2 w3:List Aj) (l x:Int):Aa (Lv ctx (i+3)) 107 [.agg [.isl a na 3 (w0.map eW),.isl b nb 3 (w1.map eW),.isl c nc 3 (w2.map eW),.isl d nd 3 (w3.map eW)],iV l,iV x]=some (bV (Ay ⟨w0,w1,w2,w3⟩ l x)):=by
 rcases Dm l with rfl | rfl | rfl | rfl | h<;>refine Af rfl 0 (by rfl) ?_<;>delta c107
 case inr.inr.inr.inr=>simp +contextual -dsimp -implicitDefEqProofs (maxSteps:=5000000) only [Ay,h,go_sem,simprocAttr]
 all_goals simp +contextual -dsimp -implicitDefEqProofs (maxSteps:=5000000) only [Ay,A4.get,go_sem,simprocAttr]
@[go_sem] theorem r_regsMay (i:Nat) (a b c d:Int):Aa (Lv ctx (i+3)) 185 [.agg [iV a,iV b,iV c,iV d]]=some (bV (Ft 255 a b c d)):=by
 refine Af rfl 5 (by rfl) ?_
 delta c185
 simp +contextual -dsimp -implicitDefEqProofs (maxSteps:=5000000) only [gLs,↓Ai (oO.eq_1),Ft,go_sem,simprocAttr]
 cases inR a 255<;>cases inR b 255<;>cases inR c 255<;>cases inR d 255<;>simp_all
theorem QW (i k:Nat) (xs:List AZ) (hx:xs.length≤BB) (pf nn:Bool) (pa b c d na nb nc nd:Bool) (w0 w1 w2 w3:List Aj) (q:Out→St→Option Ans) (Q:V→Hp→Nat→Prop) (u:Dum (fun s q=>evC ctx (Lv ctx (i+3)) (Aa (Lv ctx (i+3))) k RO s (As [1,2,5] q))) (w:Dum q):∀ (suf pre:List AZ) (kk:Nat),xs=pre++suf→suf.length<kk →
  GL 0 [1,2,5] (fun s q=>evC ctx (Lv ctx (i+3)) (Aa (Lv ctx (i+3))) k RO s (As [1,2,5] q)) q kk ⟨Ad [1,2,5] [.isl pf nn 3 (xs.map eR),.ip (pa&&(b&&(c&&d))) [.isl pa na 3 (w0.map eW),.isl b nb 3 (w1.map eW),.isl c nc 3 (w2.map eW),.isl d nd 3 (w3.map eW)] 0,iV pre.length],Ag,0⟩ Q u w=Fq (suf.all fun a=>Ay ⟨w0,w1,w2,w3⟩ a.level a.index) (Fin (q (.exit 0) ⟨Ad [] [],Ag,0⟩) Q) (Fin (q .ret ⟨Ad [4] [bV false],Ag,0⟩) Q)
 | [],pre,kk,hxs,hk=>by
  obtain ⟨kk,rfl⟩:∃ m,kk=m+1:=⟨kk - 1,by simp at hk;omega⟩
  have h1:decide ((pre.length:Int)<(xs).length)=false:=by simp [hxs]
  simp +contextual -dsimp -implicitDefEqProofs (maxSteps:=5000000) only [gLs,↓Ai (RO.eq_1),h1,Bo,List.all_nil,go_sem,simprocAttr]
 | a::suf,pre,kk,hxs,hk=>by
  obtain ⟨kk,rfl⟩:∃ m,kk=m+1:=⟨kk - 1,by simp at hk;omega⟩
  have hl:pre.length<(xs).length:=by simp [hxs]
  have h2:((pre.length:Int)<(xs).length)=True:=by simpa using hl
  have h3:(0≤(pre.length:Int))=True:=by simp
  have h4:=wrN pre.length (by have:=hx;omega)
  have hg:(xs)[pre.length]?=some a:=by simp [hxs]
  have hmem:a∈xs:=by simp [hxs]
  have ih:=QW i k xs hx pf nn pa b c d na nb nc nd w0 w1 w2 w3 q Q u w suf (pre++[a]) kk (by simp [hxs]) (by simpa using hk)
  rw [Ah] at ih
  simp only [List.all_cons]
  cases hb:(Ay ⟨w0,w1,w2,w3⟩ a.level a.index)
  ·rw [Bool.false_and]
   repeat simp +contextual -dsimp -implicitDefEqProofs (maxSteps:=5000000) only [gLs,↓Ai (RO.eq_1),h2,h3,h4,hg,hb,AH,go_sem,simprocAttr]
  ·rw [Bool.true_and]
   repeat simp +contextual -dsimp -implicitDefEqProofs (maxSteps:=5000000) only [gLs,↓Ai (RO.eq_1),h2,h3,h4,hg,hb,ih,go_sem,simprocAttr]
theorem UX (i:Nat) (pf nn:Bool) (xs:List AZ) (hx:xs.length≤BB) (a b c d na nb nc nd:Bool) (w0 w1 w2 w3:List Aj):Aa (Lv ctx (i+4)) 54 [.agg [.isl a na 3 (w0.map eW),.isl b nb 3 (w1.map eW),.isl c nc 3 (w2.map eW),.isl d nd 3 (w3.map eW)],.isl pf nn 3 (xs.map eR)]=some (bV (AP ⟨w0,w1,w2,w3⟩ xs)):=by
 refine Af rfl (xs.length+1) (by rfl) ?_
 delta c54
 have h2:=fun q Q u w=>QW i (xs.length+1) xs hx pf nn a b c d na nb nc nd w0 w1 w2 w3 q Q u w xs [] (xs.length+1) rfl (by omega)
 simp only [List.length_nil,Int.natCast_zero] at h2
 simp +contextual -dsimp -implicitDefEqProofs (maxSteps:=5000000) only [AP,go_sem,simprocAttr]
 refine Eq.mpr (h2 _ _ _ _) ?_
 cases hb:(xs.all fun a=>Ay ⟨w0,w1,w2,w3⟩ a.level a.index)<;>simp +contextual -dsimp -implicitDefEqProofs (maxSteps:=5000000) only [Bo,AH,go_sem,simprocAttr]
theorem QV (i k:Nat) (ps:Bool) (s:Ae) (hs:SmS s) (pa b c d na nb nc nd:Bool) (w0 w1 w2 w3:List Aj) (q:Out→St→Option Ans) (Q:V→Hp→Nat→Prop) (u:Dum (fun s q=>evC ctx (Lv ctx (i+4)) (Aa (Lv ctx (i+4))) k Lr s (As [2,3,5] q))) (w:Dum q):∀ (suf pre:List AD) (kk:Nat),s.prog=pre++suf→suf.length<kk →
  GL 0 [2,3,5] (fun s q=>evC ctx (Lv ctx (i+4)) (Aa (Lv ctx (i+4))) k Lr s (As [2,3,5] q)) q kk ⟨Ad [2,3,5] [.ip (pa&&(b&&(c&&d))) [.isl pa na 3 (w0.map eW),.isl b nb 3 (w1.map eW),.isl c nc 3 (w2.map eW),.isl d nd 3 (w3.map eW)] 0,.ip ps [iV s.id,iV s.label,iV s.clear,eIs ps s.prog,iV s.step,iV s.pc,iV s.regs.a0,iV s.regs.a1,iV s.regs.a2,iV s.regs.a3,eRs ps s.reads,nO ps s.writes,iV s.at_,iV s.stamp,iV s.tries,iV s.result,iV s.told] 0,iV pre.length],Ag,0⟩ Q u w=Fq (suf.all fun a=>!(Fy a.code)||Ay ⟨w0,w1,w2,w3⟩ a.b a.c) (Fin (q (.exit 0) ⟨Ad [2,3] [.ip (pa&&(b&&(c&&d))) [.isl pa na 3 (w0.map eW),.isl b nb 3 (w1.map eW),.isl c nc 3 (w2.map eW),.isl d nd 3 (w3.map eW)] 0,.ip ps [iV s.id,iV s.label,iV s.clear,eIs ps s.prog,iV s.step,iV s.pc,iV s.regs.a0,iV s.regs.a1,iV s.regs.a2,iV s.regs.a3,eRs ps s.reads,nO ps s.writes,iV s.at_,iV s.stamp,iV s.tries,iV s.result,iV s.told] 0],Ag,0⟩) Q) (Fin (q .ret ⟨Ad [4] [bV false],Ag,0⟩) Q)
 | [],pre,kk,hxs,hk=>by
  obtain ⟨kk,rfl⟩:∃ m,kk=m+1:=⟨kk - 1,by simp at hk;omega⟩
  have h1:decide ((pre.length:Int)<(s.prog).length)=false:=by simp [hxs]
  simp +contextual -dsimp -implicitDefEqProofs (maxSteps:=5000000) only [gLs,↓Ai (Lr.eq_1),h1,Bo,List.all_nil,go_sem,simprocAttr]
 | a::suf,pre,kk,hxs,hk=>by
  obtain ⟨kk,rfl⟩:∃ m,kk=m+1:=⟨kk - 1,by simp at hk;omega⟩
  have hl:pre.length<(s.prog).length:=by simp [hxs]
  have h2:((pre.length:Int)<(s.prog).length)=True:=by simpa using hl
  have h3:(0≤(pre.length:Int))=True:=by simp
  have h4:=wrN pre.length (by have:=hs.p;omega)
  have hg:(s.prog)[pre.length]?=some a:=by simp [hxs]
  have hmem:a∈s.prog:=by simp [hxs]
  have hw:(decide (a.code=2)||decide (a.code=3))=Fy a.code:=(rfl)
  have ih:=QV i k ps s hs pa b c d na nb nc nd w0 w1 w2 w3 q Q u w suf (pre++[a]) kk (by simp [hxs]) (by simpa using hk)
  rw [Ah] at ih
  simp only [List.all_cons]
  cases hwi:Fy a.code
  ·rw [show (!false||Ay ⟨w0,w1,w2,w3⟩ a.b a.c)=true from rfl,Bool.true_and]
   simp +contextual -dsimp -implicitDefEqProofs (maxSteps:=5000000) only [gLs,↓Ai (Lr.eq_1),h2,h3,h4,hg,hw,hwi,ih,go_sem,simprocAttr]
  ·rw [show (!true||Ay ⟨w0,w1,w2,w3⟩ a.b a.c)=Ay ⟨w0,w1,w2,w3⟩ a.b a.c from rfl]
   cases hb:Ay ⟨w0,w1,w2,w3⟩ a.b a.c
   ·rw [Bool.false_and]
    simp +contextual -dsimp -implicitDefEqProofs (maxSteps:=5000000) only [gLs,↓Ai (Lr.eq_1),h2,h3,h4,hg,hw,hwi,hb,AH,go_sem,simprocAttr]
   ·rw [Bool.true_and]
    simp +contextual -dsimp -implicitDefEqProofs (maxSteps:=5000000) only [gLs,↓Ai (Lr.eq_1),h2,h3,h4,hg,hw,hwi,hb,ih,go_sem,simprocAttr]
theorem QU (i k:Nat) (ps:Bool) (s:Ae) (hs:SmS s) (pa b c d na nb nc nd:Bool) (w0 w1 w2 w3:List Aj) (q:Out→St→Option Ans) (Q:V→Hp→Nat→Prop) (u:Dum (fun s q=>evC ctx (Lv ctx (i+4)) (Aa (Lv ctx (i+4))) k Nl s (As [2,3,7] q))) (w:Dum q):∀ (suf pre:List Aq) (kk:Nat),s.writes=pre++suf→suf.length<kk →
  GL 0 [2,3,7] (fun s q=>evC ctx (Lv ctx (i+4)) (Aa (Lv ctx (i+4))) k Nl s (As [2,3,7] q)) q kk ⟨Ad [2,3,7] [.ip (pa&&(b&&(c&&d))) [.isl pa na 3 (w0.map eW),.isl b nb 3 (w1.map eW),.isl c nc 3 (w2.map eW),.isl d nd 3 (w3.map eW)] 0,.ip ps [iV s.id,iV s.label,iV s.clear,eIs ps s.prog,iV s.step,iV s.pc,iV s.regs.a0,iV s.regs.a1,iV s.regs.a2,iV s.regs.a3,eRs ps s.reads,nO ps s.writes,iV s.at_,iV s.stamp,iV s.tries,iV s.result,iV s.told] 0,iV pre.length],Ag,0⟩ Q u w=Fq (suf.all fun a=>Ay ⟨w0,w1,w2,w3⟩ a.level a.index) (Fin (q (.exit 2) ⟨Ad [2,3] [.ip (pa&&(b&&(c&&d))) [.isl pa na 3 (w0.map eW),.isl b nb 3 (w1.map eW),.isl c nc 3 (w2.map eW),.isl d nd 3 (w3.map eW)] 0,.ip ps [iV s.id,iV s.label,iV s.clear,eIs ps s.prog,iV s.step,iV s.pc,iV s.regs.a0,iV s.regs.a1,iV s.regs.a2,iV s.regs.a3,eRs ps s.reads,nO ps s.writes,iV s.at_,iV s.stamp,iV s.tries,iV s.result,iV s.told] 0],Ag,0⟩) Q) (Fin (q .ret ⟨Ad [4] [bV false],Ag,0⟩) Q)
 | [],pre,kk,hxs,hk=>by
  obtain ⟨kk,rfl⟩:∃ m,kk=m+1:=⟨kk - 1,by simp at hk;omega⟩
  have h1:decide ((pre.length:Int)<(s.writes).length)=false:=by simp [hxs]
  simp +contextual -dsimp -implicitDefEqProofs (maxSteps:=5000000) only [gLs,↓Ai (Nl.eq_1),h1,Bo,List.all_nil,go_sem,simprocAttr]
 | a::suf,pre,kk,hxs,hk=>by
  obtain ⟨kk,rfl⟩:∃ m,kk=m+1:=⟨kk - 1,by simp at hk;omega⟩
  have hl:pre.length<(s.writes).length:=by simp [hxs]
  have h2:((pre.length:Int)<(s.writes).length)=True:=by simpa using hl
  have h3:(0≤(pre.length:Int))=True:=by simp
  have h4:=wrN pre.length (by have:=hs.w;omega)
  have hg:(s.writes)[pre.length]?=some a:=by simp [hxs]
  have hmem:a∈s.writes:=by simp [hxs]
  have ih:=QU i k ps s hs pa b c d na nb nc nd w0 w1 w2 w3 q Q u w suf (pre++[a]) kk (by simp [hxs]) (by simpa using hk)
  rw [Ah] at ih
  simp only [List.all_cons]
  cases hb:(Ay ⟨w0,w1,w2,w3⟩ a.level a.index)
  ·rw [Bool.false_and]
   repeat simp +contextual -dsimp -implicitDefEqProofs (maxSteps:=5000000) only [gLs,↓Ai (Nl.eq_1),h2,h3,h4,hg,hb,AH,go_sem,simprocAttr]
  ·rw [Bool.true_and]
   repeat simp +contextual -dsimp -implicitDefEqProofs (maxSteps:=5000000) only [gLs,↓Ai (Nl.eq_1),h2,h3,h4,hg,hb,ih,go_sem,simprocAttr]
theorem sG (i:Nat) (ps:Bool) (s:Ae) (hs:SmS s) (a b c d na nb nc nd:Bool) (w0 w1 w2 w3:List Aj):Aa (Lv ctx (i+5)) 184 [.agg [.isl a na 3 (w0.map eW),.isl b nb 3 (w1.map eW),.isl c nc 3 (w2.map eW),.isl d nd 3 (w3.map eW)],eS ps s]=some (bV (DL ⟨w0,w1,w2,w3⟩ s.prog&&Cf ⟨w0,w1,w2,w3⟩ s.writes&&AP ⟨w0,w1,w2,w3⟩ s.reads)):=by
 have hr:=UX (i+0) ps false s.reads hs.r a b c d na nb nc nd w0 w1 w2 w3
 simp only [Nat.add_assoc,Nat.reduceAdd] at hr
 simp only [eS]
 refine Af rfl (s.prog.length+s.writes.length+1) (by rfl) ?_
 delta c184
 have h1:=fun q Q u w=>QV i (s.prog.length+s.writes.length+1) ps s hs a b c d na nb nc nd w0 w1 w2 w3 q Q u w s.prog [] (s.prog.length+s.writes.length+1) rfl (by omega)
 have h2:=fun q Q u w=>QU i (s.prog.length+s.writes.length+1) ps s hs a b c d na nb nc nd w0 w1 w2 w3 q Q u w s.writes [] (s.prog.length+s.writes.length+1) rfl (by omega)
 simp only [List.length_nil,Int.natCast_zero] at h1 h2
 simp +contextual -dsimp -implicitDefEqProofs (maxSteps:=5000000) only [Bool.and_self,DL,Cf,go_sem,simprocAttr]
 refine Eq.mpr (h1 _ _ _ _) ?_
 cases hb:(s.prog.all fun a=>!(Fy a.code)||Ay ⟨w0,w1,w2,w3⟩ a.b a.c)
 ·simp +contextual -dsimp -implicitDefEqProofs (maxSteps:=5000000) only [AH,go_sem,simprocAttr]
 ·simp +contextual -dsimp -implicitDefEqProofs (maxSteps:=5000000) only [Bo,go_sem,simprocAttr]
  refine Eq.mpr (h2 _ _ _ _) ?_
  cases hb':(s.writes.all fun a=>Ay ⟨w0,w1,w2,w3⟩ a.level a.index)<;>simp +contextual -dsimp -implicitDefEqProofs (maxSteps:=5000000) only [Bo,AH,hr,go_sem,simprocAttr]
end Ve
namespace Ve
open Go Ve.Ab
set_option maxHeartbeats 16000000
set_option maxRecDepth 10000
def Gb:Nat→List Aj→Bool
 | _,[]=>true
 | j,a::r=>decide (j<4)&&Ba a&&Gb (j+1) r
theorem UR:∀ (r:List Aj) (j:Nat),j≤4→Gb j r=(decide (j+r.length≤4)&&r.all Ba)
 | [],j,h=>by simp [Gb,h]
 | a::r,j,h=>by
  simp only [Gb,List.all_cons,List.length_cons]
  by_cases hj:j<4
  ·rw [UR r (j+1) (by omega)]
   have:decide (j+1+r.length≤4)=decide (j+(r.length+1)≤4):=by apply decide_eq_decide.mpr;omega
   simp only [hj,decide_true,Bool.true_and,this]
   cases Ba a<;>simp
  ·have:decide (j+(r.length+1)≤4)=false:=by simp;omega
   simp [hj,this]
theorem bX (ws:List Aj):Gb 0 ws=Ch ws:=by rw [UR ws 0 (by omega),Ch];simp
theorem Rc (i k:Nat) (pa b c d na nb nc nd:Bool) (w0 w1 w2 w3:List Aj) (hx:w0.length≤BB) (q:Out→St→Option Ans) (Q:V→Hp→Nat→Prop) (u:Dum (fun s q=>evC ctx (Lv ctx (i+3)) (Aa (Lv ctx (i+3))) k DJ s (As [1,3,4] q))) (w:Dum q):∀ (suf pre:List Aj) (kk:Nat),w0=pre++suf→suf.length<kk →
  GL 0 [1,3,4] (fun s q=>evC ctx (Lv ctx (i+3)) (Aa (Lv ctx (i+3))) k DJ s (As [1,3,4] q)) q kk ⟨Ad [1,3,4] [.ip (pa&&(b&&(c&&d))) [.isl pa na 3 (w0.map eW),.isl b nb 3 (w1.map eW),.isl c nc 3 (w2.map eW),.isl d nd 3 (w3.map eW)] 0,iV 0,iV pre.length],Ag,0⟩ Q u w=Fq (Gb pre.length suf) (Fin (q (.exit 2) ⟨Ad [1,3] [.ip (pa&&(b&&(c&&d))) [.isl pa na 3 (w0.map eW),.isl b nb 3 (w1.map eW),.isl c nc 3 (w2.map eW),.isl d nd 3 (w3.map eW)] 0,iV 0],Ag,0⟩) Q) (Fin (q .ret ⟨Ad [2] [bV false],Ag,0⟩) Q)
 | [],pre,kk,hxs,hk=>by
  obtain ⟨kk,rfl⟩:∃ m,kk=m+1:=⟨kk - 1,by simp at hk;omega⟩
  have h1:decide ((pre.length:Int)<w0.length)=false:=by simp [hxs]
  simp +contextual -dsimp -implicitDefEqProofs (maxSteps:=5000000) only [gLs,↓Ai (DJ.eq_1),h1,Bo,Gb,go_sem,simprocAttr]
 | a::suf,pre,kk,hxs,hk=>by
  obtain ⟨kk,rfl⟩:∃ m,kk=m+1:=⟨kk - 1,by simp at hk;omega⟩
  have hl:pre.length<w0.length:=by simp [hxs]
  have h2:((pre.length:Int)<w0.length)=True:=by simpa using hl
  have h3:(0≤(pre.length:Int))=True:=by simp
  have h4:=wrN pre.length (by omega)
  have hg:w0[pre.length]?=some a:=by simp [hxs]
  have ih:=Rc i k pa b c d na nb nc nd w0 w1 w2 w3 hx q Q u w suf (pre++[a]) kk (by simp [hxs]) (by simpa using hk)
  rw [Ah] at ih
  simp only [Gb]
  by_cases hj:pre.length<4
  ·have h5:decide ((4:Int)≤(pre.length:Int))=false:=by simp;omega
   have h6:decide (pre.length<4)=true:=by simpa using hj
   cases hb:Ba a
   ·rw [h6,Bool.true_and,Bool.false_and]
    simp +contextual -dsimp -implicitDefEqProofs (maxSteps:=5000000) only [gLs,↓Ai (DJ.eq_1),h2,h3,h4,h5,hg,hb,AH,go_sem,simprocAttr]
   ·rw [h6,Bool.true_and,Bool.true_and]
    simp +contextual -dsimp -implicitDefEqProofs (maxSteps:=5000000) only [gLs,↓Ai (DJ.eq_1),h2,h3,h4,h5,hg,hb,ih,go_sem,simprocAttr]
  ·have h5:decide ((4:Int)≤(pre.length:Int))=true:=by simp;omega
   have h6:decide (pre.length<4)=false:=by simpa using hj
   rw [h6,Bool.false_and,Bool.false_and]
   simp +contextual -dsimp -implicitDefEqProofs (maxSteps:=5000000) only [gLs,↓Ai (DJ.eq_1),h2,h3,h4,h5,hg,AH,go_sem,simprocAttr]
theorem Rb (i k:Nat) (pa b c d na nb nc nd:Bool) (w0 w1 w2 w3:List Aj) (hx:w1.length≤BB) (q:Out→St→Option Ans) (Q:V→Hp→Nat→Prop) (u:Dum (fun s q=>evC ctx (Lv ctx (i+3)) (Aa (Lv ctx (i+3))) k DJ s (As [1,3,4] q))) (w:Dum q):∀ (suf pre:List Aj) (kk:Nat),w1=pre++suf→suf.length<kk →
  GL 0 [1,3,4] (fun s q=>evC ctx (Lv ctx (i+3)) (Aa (Lv ctx (i+3))) k DJ s (As [1,3,4] q)) q kk ⟨Ad [1,3,4] [.ip (pa&&(b&&(c&&d))) [.isl pa na 3 (w0.map eW),.isl b nb 3 (w1.map eW),.isl c nc 3 (w2.map eW),.isl d nd 3 (w3.map eW)] 0,iV 1,iV pre.length],Ag,0⟩ Q u w=Fq (Gb pre.length suf) (Fin (q (.exit 2) ⟨Ad [1,3] [.ip (pa&&(b&&(c&&d))) [.isl pa na 3 (w0.map eW),.isl b nb 3 (w1.map eW),.isl c nc 3 (w2.map eW),.isl d nd 3 (w3.map eW)] 0,iV 1],Ag,0⟩) Q) (Fin (q .ret ⟨Ad [2] [bV false],Ag,0⟩) Q)
 | [],pre,kk,hxs,hk=>by
  obtain ⟨kk,rfl⟩:∃ m,kk=m+1:=⟨kk - 1,by simp at hk;omega⟩
  have h1:decide ((pre.length:Int)<w1.length)=false:=by simp [hxs]
  simp +contextual -dsimp -implicitDefEqProofs (maxSteps:=5000000) only [gLs,↓Ai (DJ.eq_1),h1,Bo,Gb,go_sem,simprocAttr]
 | a::suf,pre,kk,hxs,hk=>by
  obtain ⟨kk,rfl⟩:∃ m,kk=m+1:=⟨kk - 1,by simp at hk;omega⟩
  have hl:pre.length<w1.length:=by simp [hxs]
  have h2:((pre.length:Int)<w1.length)=True:=by simpa using hl
  have h3:(0≤(pre.length:Int))=True:=by simp
  have h4:=wrN pre.length (by omega)
  have hg:w1[pre.length]?=some a:=by simp [hxs]
  have ih:=Rb i k pa b c d na nb nc nd w0 w1 w2 w3 hx q Q u w suf (pre++[a]) kk (by simp [hxs]) (by simpa using hk)
  rw [Ah] at ih
  simp only [Gb]
  by_cases hj:pre.length<4
  ·have h5:decide ((4:Int)≤(pre.length:Int))=false:=by simp;omega
   have h6:decide (pre.length<4)=true:=by simpa using hj
   cases hb:Ba a
   ·rw [h6,Bool.true_and,Bool.false_and]
    simp +contextual -dsimp -implicitDefEqProofs (maxSteps:=5000000) only [gLs,↓Ai (DJ.eq_1),h2,h3,h4,h5,hg,hb,AH,go_sem,simprocAttr]
   ·rw [h6,Bool.true_and,Bool.true_and]
    simp +contextual -dsimp -implicitDefEqProofs (maxSteps:=5000000) only [gLs,↓Ai (DJ.eq_1),h2,h3,h4,h5,hg,hb,ih,go_sem,simprocAttr]
  ·have h5:decide ((4:Int)≤(pre.length:Int))=true:=by simp;omega
   have h6:decide (pre.length<4)=false:=by simpa using hj
   rw [h6,Bool.false_and,Bool.false_and]
   simp +contextual -dsimp -implicitDefEqProofs (maxSteps:=5000000) only [gLs,↓Ai (DJ.eq_1),h2,h3,h4,h5,hg,AH,go_sem,simprocAttr]
theorem Ra (i k:Nat) (pa b c d na nb nc nd:Bool) (w0 w1 w2 w3:List Aj) (hx:w2.length≤BB) (q:Out→St→Option Ans) (Q:V→Hp→Nat→Prop) (u:Dum (fun s q=>evC ctx (Lv ctx (i+3)) (Aa (Lv ctx (i+3))) k DJ s (As [1,3,4] q))) (w:Dum q):∀ (suf pre:List Aj) (kk:Nat),w2=pre++suf→suf.length<kk →
  GL 0 [1,3,4] (fun s q=>evC ctx (Lv ctx (i+3)) (Aa (Lv ctx (i+3))) k DJ s (As [1,3,4] q)) q kk ⟨Ad [1,3,4] [.ip (pa&&(b&&(c&&d))) [.isl pa na 3 (w0.map eW),.isl b nb 3 (w1.map eW),.isl c nc 3 (w2.map eW),.isl d nd 3 (w3.map eW)] 0,iV 2,iV pre.length],Ag,0⟩ Q u w=Fq (Gb pre.length suf) (Fin (q (.exit 2) ⟨Ad [1,3] [.ip (pa&&(b&&(c&&d))) [.isl pa na 3 (w0.map eW),.isl b nb 3 (w1.map eW),.isl c nc 3 (w2.map eW),.isl d nd 3 (w3.map eW)] 0,iV 2],Ag,0⟩) Q) (Fin (q .ret ⟨Ad [2] [bV false],Ag,0⟩) Q)
 | [],pre,kk,hxs,hk=>by
  obtain ⟨kk,rfl⟩:∃ m,kk=m+1:=⟨kk - 1,by simp at hk;omega⟩
  have h1:decide ((pre.length:Int)<w2.length)=false:=by simp [hxs]
  simp +contextual -dsimp -implicitDefEqProofs (maxSteps:=5000000) only [gLs,↓Ai (DJ.eq_1),h1,Bo,Gb,go_sem,simprocAttr]
 | a::suf,pre,kk,hxs,hk=>by
  obtain ⟨kk,rfl⟩:∃ m,kk=m+1:=⟨kk - 1,by simp at hk;omega⟩
  have hl:pre.length<w2.length:=by simp [hxs]
  have h2:((pre.length:Int)<w2.length)=True:=by simpa using hl
  have h3:(0≤(pre.length:Int))=True:=by simp
  have h4:=wrN pre.length (by omega)
  have hg:w2[pre.length]?=some a:=by simp [hxs]
  have ih:=Ra i k pa b c d na nb nc nd w0 w1 w2 w3 hx q Q u w suf (pre++[a]) kk (by simp [hxs]) (by simpa using hk)
  rw [Ah] at ih
  simp only [Gb]
  by_cases hj:pre.length<4
  ·have h5:decide ((4:Int)≤(pre.length:Int))=false:=by simp;omega
   have h6:decide (pre.length<4)=true:=by simpa using hj
   cases hb:Ba a
   ·rw [h6,Bool.true_and,Bool.false_and]
    simp +contextual -dsimp -implicitDefEqProofs (maxSteps:=5000000) only [gLs,↓Ai (DJ.eq_1),h2,h3,h4,h5,hg,hb,AH,go_sem,simprocAttr]
   ·rw [h6,Bool.true_and,Bool.true_and]
    simp +contextual -dsimp -implicitDefEqProofs (maxSteps:=5000000) only [gLs,↓Ai (DJ.eq_1),h2,h3,h4,h5,hg,hb,ih,go_sem,simprocAttr]
  ·have h5:decide ((4:Int)≤(pre.length:Int))=true:=by simp;omega
   have h6:decide (pre.length<4)=false:=by simpa using hj
   rw [h6,Bool.false_and,Bool.false_and]
   simp +contextual -dsimp -implicitDefEqProofs (maxSteps:=5000000) only [gLs,↓Ai (DJ.eq_1),h2,h3,h4,h5,hg,AH,go_sem,simprocAttr]
theorem QZ (i k:Nat) (pa b c d na nb nc nd:Bool) (w0 w1 w2 w3:List Aj) (hx:w3.length≤BB) (q:Out→St→Option Ans) (Q:V→Hp→Nat→Prop) (u:Dum (fun s q=>evC ctx (Lv ctx (i+3)) (Aa (Lv ctx (i+3))) k DJ s (As [1,3,4] q))) (w:Dum q):∀ (suf pre:List Aj) (kk:Nat),w3=pre++suf→suf.length<kk →
  GL 0 [1,3,4] (fun s q=>evC ctx (Lv ctx (i+3)) (Aa (Lv ctx (i+3))) k DJ s (As [1,3,4] q)) q kk ⟨Ad [1,3,4] [.ip (pa&&(b&&(c&&d))) [.isl pa na 3 (w0.map eW),.isl b nb 3 (w1.map eW),.isl c nc 3 (w2.map eW),.isl d nd 3 (w3.map eW)] 0,iV 3,iV pre.length],Ag,0⟩ Q u w=Fq (Gb pre.length suf) (Fin (q (.exit 2) ⟨Ad [1,3] [.ip (pa&&(b&&(c&&d))) [.isl pa na 3 (w0.map eW),.isl b nb 3 (w1.map eW),.isl c nc 3 (w2.map eW),.isl d nd 3 (w3.map eW)] 0,iV 3],Ag,0⟩) Q) (Fin (q .ret ⟨Ad [2] [bV false],Ag,0⟩) Q)
 | [],pre,kk,hxs,hk=>by
  obtain ⟨kk,rfl⟩:∃ m,kk=m+1:=⟨kk - 1,by simp at hk;omega⟩
  have h1:decide ((pre.length:Int)<w3.length)=false:=by simp [hxs]
  simp +contextual -dsimp -implicitDefEqProofs (maxSteps:=5000000) only [gLs,↓Ai (DJ.eq_1),h1,Bo,Gb,go_sem,simprocAttr]
 | a::suf,pre,kk,hxs,hk=>by
  obtain ⟨kk,rfl⟩:∃ m,kk=m+1:=⟨kk - 1,by simp at hk;omega⟩
  have hl:pre.length<w3.length:=by simp [hxs]
  have h2:((pre.length:Int)<w3.length)=True:=by simpa using hl
  have h3:(0≤(pre.length:Int))=True:=by simp
  have h4:=wrN pre.length (by omega)
  have hg:w3[pre.length]?=some a:=by simp [hxs]
  have ih:=QZ i k pa b c d na nb nc nd w0 w1 w2 w3 hx q Q u w suf (pre++[a]) kk (by simp [hxs]) (by simpa using hk)
  rw [Ah] at ih
  simp only [Gb]
  by_cases hj:pre.length<4
  ·have h5:decide ((4:Int)≤(pre.length:Int))=false:=by simp;omega
   have h6:decide (pre.length<4)=true:=by simpa using hj
   cases hb:Ba a
   ·rw [h6,Bool.true_and,Bool.false_and]
    simp +contextual -dsimp -implicitDefEqProofs (maxSteps:=5000000) only [gLs,↓Ai (DJ.eq_1),h2,h3,h4,h5,hg,hb,AH,go_sem,simprocAttr]
   ·rw [h6,Bool.true_and,Bool.true_and]
    simp +contextual -dsimp -implicitDefEqProofs (maxSteps:=5000000) only [gLs,↓Ai (DJ.eq_1),h2,h3,h4,h5,hg,hb,ih,go_sem,simprocAttr]
  ·have h5:decide ((4:Int)≤(pre.length:Int))=true:=by simp;omega
   have h6:decide (pre.length<4)=false:=by simpa using hj
   rw [h6,Bool.false_and,Bool.false_and]
   simp +contextual -dsimp -implicitDefEqProofs (maxSteps:=5000000) only [gLs,↓Ai (DJ.eq_1),h2,h3,h4,h5,hg,AH,go_sem,simprocAttr]
theorem YK (i:Nat) (a b c d na nb nc nd:Bool) (w0 w1 w2 w3:List Aj) (h0:w0.length≤BB) (h1:w1.length≤BB) (h2:w2.length≤BB) (h3:w3.length≤BB):Aa (Lv ctx (i+4)) 52 [.agg [.isl a na 3 (w0.map eW),.isl b nb 3 (w1.map eW),.isl c nc 3 (w2.map eW),.isl d nd 3 (w3.map eW)]]=some (bV (AS ⟨w0,w1,w2,w3⟩)):=by
 refine Af rfl (w0.length+w1.length+w2.length+w3.length+5) (by rfl) ?_
 delta c52
 have l0:=fun q Q u w=>Rc i (w0.length+w1.length+w2.length+w3.length+5) a b c d na nb nc nd w0 w1 w2 w3 h0 q Q u w w0 [] (w0.length+w1.length+w2.length+w3.length+5) rfl (by omega)
 have l1:=fun q Q u w=>Rb i (w0.length+w1.length+w2.length+w3.length+5) a b c d na nb nc nd w0 w1 w2 w3 h1 q Q u w w1 [] (w0.length+w1.length+w2.length+w3.length+5) rfl (by omega)
 have l2:=fun q Q u w=>Ra i (w0.length+w1.length+w2.length+w3.length+5) a b c d na nb nc nd w0 w1 w2 w3 h2 q Q u w w2 [] (w0.length+w1.length+w2.length+w3.length+5) rfl (by omega)
 have l3:=fun q Q u w=>QZ i (w0.length+w1.length+w2.length+w3.length+5) a b c d na nb nc nd w0 w1 w2 w3 h3 q Q u w w3 [] (w0.length+w1.length+w2.length+w3.length+5) rfl (by omega)
 simp only [List.length_nil,Int.natCast_zero,bX] at l0 l1 l2 l3
 have ho:=fun q k s Q u w=>gLs 0 [1,3] (fun s q=>evC ctx (Lv ctx (i+3)) (Aa (Lv ctx (i+3))) (w0.length+w1.length+w2.length+w3.length+5) PX s (As [1,3] q)) q k s Q u w
 simp +contextual -dsimp -implicitDefEqProofs (maxSteps:=5000000) only [ho,↓Ai (PX.eq_1),AS,A4.all,go_sem,simprocAttr]
 refine Eq.mpr (l0 _ _ _ _) ?_
 cases r0:Ch w0
 ·simp +contextual -dsimp -implicitDefEqProofs (maxSteps:=5000000) only [AH,go_sem,simprocAttr]
 ·simp +contextual -dsimp -implicitDefEqProofs (maxSteps:=5000000) only [Bo,ho,↓Ai (PX.eq_1),go_sem,simprocAttr]
  refine Eq.mpr (l1 _ _ _ _) ?_
  cases r1:Ch w1
  ·simp +contextual -dsimp -implicitDefEqProofs (maxSteps:=5000000) only [AH,go_sem,simprocAttr]
  ·simp +contextual -dsimp -implicitDefEqProofs (maxSteps:=5000000) only [Bo,ho,↓Ai (PX.eq_1),go_sem,simprocAttr]
   refine Eq.mpr (l2 _ _ _ _) ?_
   cases r2:Ch w2
   ·simp +contextual -dsimp -implicitDefEqProofs (maxSteps:=5000000) only [AH,go_sem,simprocAttr]
   ·simp +contextual -dsimp -implicitDefEqProofs (maxSteps:=5000000) only [Bo,ho,↓Ai (PX.eq_1),go_sem,simprocAttr]
    refine Eq.mpr (l3 _ _ _ _) ?_
    cases r3:Ch w3
    ·simp +contextual -dsimp -implicitDefEqProofs (maxSteps:=5000000) only [AH,go_sem,simprocAttr]
    ·simp +contextual -dsimp -implicitDefEqProofs (maxSteps:=5000000) only [Bo,ho,↓Ai (PX.eq_1),go_sem,simprocAttr]
theorem QY (i k:Nat) (pf nn:Bool) (xs:List AZ) (hx:xs.length≤BB) (pp:List AZ) (n:AZ) (tl:List AZ) (hxs0:xs=pp++n::tl) (q:Out→St→Option Ans) (Q:V→Hp→Nat→Prop) (u:Dum (fun s q=>evC ctx (Lv ctx (i+3)) (Aa (Lv ctx (i+3))) k PW s (As [0,3,4] q))) (w:Dum q):∀ (suf pre:List AZ) (kk:Nat),pp=pre++suf→suf.length<kk →
  GL 0 [0,3,4] (fun s q=>evC ctx (Lv ctx (i+3)) (Aa (Lv ctx (i+3))) k PW s (As [0,3,4] q)) q kk ⟨Ad [0,3,4] [.isl pf nn 3 (xs.map eR),iV pp.length,iV pre.length],Ag,0⟩ Q u w=Fq (!(suf.any (Cz n))) (Fin (q (.exit 2) ⟨Ad [0,3] [.isl pf nn 3 (xs.map eR),iV pp.length],Ag,0⟩) Q) (Fin (q .ret ⟨Ad [2] [bV false],Ag,0⟩) Q)
 | [],pre,kk,hxs,hk=>by
  obtain ⟨kk,rfl⟩:∃ m,kk=m+1:=⟨kk - 1,by simp at hk;omega⟩
  have h1:decide ((pre.length:Int)<pp.length)=false:=by simp [hxs]
  simp +contextual -dsimp -implicitDefEqProofs (maxSteps:=5000000) only [gLs,↓Ai (PW.eq_1),h1,Bo,List.any_nil,go_sem,simprocAttr]
 | a::suf,pre,kk,hxs,hk=>by
  obtain ⟨kk,rfl⟩:∃ m,kk=m+1:=⟨kk - 1,by simp at hk;omega⟩
  have hl:pre.length<pp.length:=by simp [hxs]
  have hl':pp.length<xs.length:=by simp [hxs0]
  have h2:((pre.length:Int)<pp.length)=True:=by simpa using hl
  have h2':((pre.length:Int)<xs.length)=True:=by simp;omega
  have h2n:((pp.length:Int)<xs.length)=True:=by simpa using hl'
  have h3:(0≤(pre.length:Int))=True:=by simp
  have h3':(0≤(pp.length:Int))=True:=by simp
  have h4:=wrN pre.length (by omega)
  have hg:xs[pre.length]?=some a:=by simp [hxs0,hxs]
  have hg':xs[pp.length]?=some n:=by simp [hxs0]
  have ih:=QY i k pf nn xs hx pp n tl hxs0 q Q u w suf (pre++[a]) kk (by simp [hxs]) (by simpa using hk)
  rw [Ah] at ih
  simp only [List.any_cons,Cz]
  cases c1:decide (a.level=n.level)
  ·simp +contextual -dsimp -implicitDefEqProofs (maxSteps:=5000000) only [gLs,↓Ai (PW.eq_1),h2,h2',h2n,h3,h3',h4,hg,hg',c1,ih,go_sem,simprocAttr]
  ·cases c2:decide (a.index=n.index)
   ·simp +contextual -dsimp -implicitDefEqProofs (maxSteps:=5000000) only [gLs,↓Ai (PW.eq_1),h2,h2',h2n,h3,h3',h4,hg,hg',c1,c2,ih,go_sem,simprocAttr]
   ·simp +contextual -dsimp -implicitDefEqProofs (maxSteps:=5000000) only [gLs,↓Ai (PW.eq_1),h2,h2',h2n,h3,h3',h4,hg,hg',c1,c2,AH,go_sem,simprocAttr]
theorem QX (i k:Nat) (pf nn:Bool) (xs:List AZ) (hx:xs.length≤BB) (hkk:xs.length<k) (q:Out→St→Option Ans) (Q:V→Hp→Nat→Prop) (u:Dum (fun s q=>evC ctx (Lv ctx (i+3)) (Aa (Lv ctx (i+3))) k NU s (As [0,3] q))) (w:Dum q):∀ (suf pre:List AZ) (kk:Nat),xs=pre++suf→suf.length<kk →
  GL 0 [0,3] (fun s q=>evC ctx (Lv ctx (i+3)) (Aa (Lv ctx (i+3))) k NU s (As [0,3] q)) q kk ⟨Ad [0,3] [.isl pf nn 3 (xs.map eR),iV pre.length],Ag,0⟩ Q u w=Fq (Ca pre suf) (Fin (q (.exit 0) ⟨Ad [0] [.isl pf nn 3 (xs.map eR)],Ag,0⟩) Q) (Fin (q .ret ⟨Ad [2] [bV false],Ag,0⟩) Q)
 | [],pre,kk,hxs,hk=>by
  obtain ⟨kk,rfl⟩:∃ m,kk=m+1:=⟨kk - 1,by simp at hk;omega⟩
  have h1:decide ((pre.length:Int)<xs.length)=false:=by simp [hxs]
  simp +contextual -dsimp -implicitDefEqProofs (maxSteps:=5000000) only [gLs,↓Ai (NU.eq_1),h1,Bo,Ca,go_sem,simprocAttr]
 | a::suf,pre,kk,hxs,hk=>by
  obtain ⟨kk,rfl⟩:∃ m,kk=m+1:=⟨kk - 1,by simp at hk;omega⟩
  have hl:pre.length<xs.length:=by simp [hxs]
  have h2:((pre.length:Int)<xs.length)=True:=by simpa using hl
  have h3:(0≤(pre.length:Int))=True:=by simp
  have h4:=wrN pre.length (by omega)
  have hg:xs[pre.length]?=some a:=by simp [hxs]
  have ih:=QX i k pf nn xs hx hkk q Q u w suf (pre++[a]) kk (by simp [hxs]) (by simpa using hk)
  rw [Ah] at ih
  have h1:=fun q Q u w=>QY i k pf nn xs hx pre a suf hxs q Q u w pre [] k rfl (by omega)
  simp only [List.length_nil,Int.natCast_zero] at h1
  cases c1:inR a.level 3
  ·simp +contextual -dsimp -implicitDefEqProofs (maxSteps:=5000000) only [gLs,↓Ai (NU.eq_1),h2,h3,h4,hg,AH,Ca,CF,c1,go_sem,simprocAttr]
  ·cases c2:inR a.index 3
   ·simp +contextual -dsimp -implicitDefEqProofs (maxSteps:=5000000) only [gLs,↓Ai (NU.eq_1),h2,h3,h4,hg,AH,Ca,CF,c1,c2,go_sem,simprocAttr]
   ·cases c3:inR a.ver 65535
    ·simp +contextual -dsimp -implicitDefEqProofs (maxSteps:=5000000) only [gLs,↓Ai (NU.eq_1),h2,h3,h4,hg,AH,Ca,CF,c1,c2,c3,go_sem,simprocAttr]
    ·have hr:Ca pre (a::suf)=(!(pre.any (Cz a))&&Ca (pre++[a]) suf):=by simp only [Ca,CF,c1,c2,c3,Bool.true_and,Bool.and_self]
     rw [hr]
     cases c4:pre.any (Cz a)<;>rw [c4] at h1<;>simp +contextual -dsimp -implicitDefEqProofs (maxSteps:=5000000) only [gLs,↓Ai (NU.eq_1),h2,h3,h4,hg,c1,c2,c3,h1,Bo,AH,ih,go_sem,simprocAttr]
theorem YJ (i:Nat) (pf nn:Bool) (xs:List AZ) (hx:xs.length≤BB):Aa (Lv ctx (i+4)) 53 [.isl pf nn 3 (xs.map eR)]=some (bV (AY xs)):=by
 refine Af rfl (xs.length+1) (by rfl) ?_
 delta c53
 have h2:=fun q Q u w=>QX i (xs.length+1) pf nn xs hx (by omega) q Q u w xs [] (xs.length+1) rfl (by omega)
 simp only [List.length_nil,Int.natCast_zero] at h2
 have h5:decide ((xs.length:Int)≤16)=decide (xs.length≤16):=by apply decide_eq_decide.mpr;omega
 simp +contextual -dsimp -implicitDefEqProofs (maxSteps:=5000000) only [AY,h5,go_sem,simprocAttr]
 refine Eq.mpr (h2 _ _ _ _) ?_
 cases hb:Ca [] xs<;>simp +contextual -dsimp -implicitDefEqProofs (maxSteps:=5000000) only [Bo,AH,h5,go_sem,simprocAttr]
end Ve
namespace Ve
open Go Ve.Ab
set_option maxHeartbeats 16000000
set_option maxRecDepth 10000
theorem Vf (a:Aq) (ha:AL a=true):IntKind.wrap .i64 (IntKind.wrap .i64 (4*a.level)+a.index)=4*a.level+a.index:=by
 simp only [AL,inR,Bool.and_eq_true,decide_eq_true_eq] at ha
 have e1:=Jc (a:=4*a.level) (by omega) (by omega)
 have e2:=Jc (a:=4*a.level+a.index) (by omega) (by omega)
 simp only [wr] at e1 e2
 rw [e1,e2]
@[go_sem] theorem r_place (i:Nat) (l x:Int):Aa (Lv ctx (i+1)) 149 [iV l,iV x]=some (iV (IntKind.wrap .i64 (IntKind.wrap .i64 (4*l)+x))):=by
 refine Af rfl 0 (by rfl) ?_
 delta c149
 simp +contextual -dsimp -implicitDefEqProofs (maxSteps:=5000000) only [go_sem,simprocAttr]
theorem QT (i k:Nat) (pf nn:Bool) (xs:List Aq) (hx:xs.length≤BB) (q:Out→St→Option Ans) (Q:V→Hp→Nat→Prop) (u:Dum (fun s q=>evC ctx (Lv ctx (i+3)) (Aa (Lv ctx (i+3))) k GA s (As [0,3] q))) (w:Dum q):∀ (suf pre:List Aq) (kk:Nat),xs=pre++suf→suf.length<kk→(∀ v,pre.getLast?=some v→AL v=true) →
  GL 0 [0,3] (fun s q=>evC ctx (Lv ctx (i+3)) (Aa (Lv ctx (i+3))) k GA s (As [0,3] q)) q kk ⟨Ad [0,3] [.isl pf nn 3 (xs.map eWr),iV pre.length],Ag,0⟩ Q u w =
  Fq (Be pre.getLast? suf) (Fin (q (.exit 0) ⟨Ad [0] [.isl pf nn 3 (xs.map eWr)],Ag,0⟩) Q) (Fin (q .ret ⟨Ad [2] [bV false],Ag,0⟩) Q)
 | [],pre,kk,hxs,hk,hv=>by
  obtain ⟨kk,rfl⟩:∃ m,kk=m+1:=⟨kk - 1,by simp at hk;omega⟩
  have h1:decide ((pre.length:Int)<xs.length)=false:=by simp [hxs]
  have h2:∀ o,Be o []=true:=fun o=>by cases o<;>rfl
  simp +contextual -dsimp -implicitDefEqProofs (maxSteps:=5000000) only [gLs,↓Ai (GA.eq_1),h1,Bo,h2,go_sem,simprocAttr]
 | a::suf,pre,kk,hxs,hk,hv=>by
  obtain ⟨kk,rfl⟩:∃ m,kk=m+1:=⟨kk - 1,by simp at hk;omega⟩
  have hl:pre.length<xs.length:=by simp [hxs]
  have h2:((pre.length:Int)<xs.length)=True:=by simpa using hl
  have h3:(0≤(pre.length:Int))=True:=by simp
  have h4:=wrN pre.length (by omega)
  have hg:xs[pre.length]?=some a:=by simp [hxs]
  have ih:=fun hv=>QT i k pf nn xs hx q Q u w suf (pre++[a]) kk (by simp [hxs]) (by simpa using hk) hv
  rw [Ah] at ih
  simp only [List.getLast?_append,List.getLast?_singleton,Option.some_or,Option.some.injEq,forall_eq'] at ih
  rcases List.eq_nil_or_concat pre with rfl | ⟨L,v,rfl⟩
  ·simp only [List.length_nil,RE] at *
   cases c1:inR a.level 3
   ·simp +contextual -dsimp -implicitDefEqProofs (maxSteps:=5000000) only [gLs,↓Ai (GA.eq_1),h2,h3,h4,hg,AH,Be,AL,c1,List.getLast?_nil,go_sem,simprocAttr]
   ·cases c2:inR a.index 3
    ·simp +contextual -dsimp -implicitDefEqProofs (maxSteps:=5000000) only [gLs,↓Ai (GA.eq_1),h2,h3,h4,hg,AH,Be,AL,c1,c2,List.getLast?_nil,go_sem,simprocAttr]
    ·cases c3:inR a.val 255
     ·simp +contextual -dsimp -implicitDefEqProofs (maxSteps:=5000000) only [gLs,↓Ai (GA.eq_1),h2,h3,h4,hg,AH,Be,AL,c1,c2,c3,List.getLast?_nil,go_sem,simprocAttr]
     ·have ih':=ih (by simp only [AL,c1,c2,c3,Bool.and_self])
      simp only [Nat.zero_add,Wd] at ih'
      simp +contextual -dsimp -implicitDefEqProofs (maxSteps:=5000000) only [gLs,↓Ai (GA.eq_1),h2,h3,h4,hg,Be,AL,c1,c2,c3,ih',List.getLast?_nil,go_sem,simprocAttr]
  ·have hv1:AL v=true:=hv v (by simp)
   have hlen:(L.concat v).length=L.length+1:=by simp
   have hlast:(L.concat v).getLast?=some v:=by simp
   rw [hlen] at h2 h3 h4 hg ih
   rw [hlen,hlast]
   have h6:IntKind.wrap .i64 (((L.length+1:Nat):Int) - 1)=(L.length:Int):=by
    have:=Jc (a:=(L.length:Int)) (by omega) (by simp [hlen] at hl;simp only [BB] at hx;omega)
    simp only [wr] at this
    rw [show (((L.length+1:Nat):Int) - 1)=(L.length:Int) by omega,this]
   have h7:((L.length:Int)<xs.length)=True:=by simp only [eq_iff_iff,iff_true];rw [hlen] at hl;omega
   have h8:(0≤(L.length:Int))=True:=by simp
   have h9:decide (0<((L.length+1:Nat):Int))=true:=by simp only [decide_eq_true_eq];omega
   have hg':xs[L.length]?=some v:=by simp [hxs]
   cases c1:inR a.level 3
   ·simp +contextual -dsimp -implicitDefEqProofs (maxSteps:=5000000) only [gLs,↓Ai (GA.eq_1),h2,h3,h4,hg,AH,Be,AL,c1,go_sem,simprocAttr]
   ·cases c2:inR a.index 3
    ·simp +contextual -dsimp -implicitDefEqProofs (maxSteps:=5000000) only [gLs,↓Ai (GA.eq_1),h2,h3,h4,hg,AH,Be,AL,c1,c2,go_sem,simprocAttr]
    ·cases c3:inR a.val 255
     ·simp +contextual -dsimp -implicitDefEqProofs (maxSteps:=5000000) only [gLs,↓Ai (GA.eq_1),h2,h3,h4,hg,AH,Be,AL,c1,c2,c3,go_sem,simprocAttr]
     ·have ha1:AL a=true:=by simp only [AL,c1,c2,c3,Bool.and_self]
      have ih':=ih ha1
      have hr:decide (4*a.level+a.index≤4*v.level+v.index)=!decide (AK v.level v.index<AK a.level a.index):=by rw [← decide_not];apply decide_eq_decide.mpr;simp only [AK];omega
      have hpl:=Vf a ha1
      have hpl':=Vf v hv1
      cases c4:decide (AK v.level v.index<AK a.level a.index)<;>rw [c4] at hr <;>
       simp +contextual -dsimp -implicitDefEqProofs (maxSteps:=5000000) only [gLs,↓Ai (GA.eq_1),h2,h3,h4,h6,h7,h8,h9,hg,hg',hr,hpl,hpl',Be,ha1,c1,c2,c3,c4,ih',AH,go_sem,simprocAttr]
theorem UW (i:Nat) (pf nn:Bool) (xs:List Aq) (hx:xs.length≤BB):Aa (Lv ctx (i+4)) 103 [.isl pf nn 3 (xs.map eWr)]=some (bV (Bg xs)):=by
 refine Af rfl (xs.length+1) (by rfl) ?_
 delta c103
 have h2:=fun q Q u w=>QT i (xs.length+1) pf nn xs hx q Q u w xs [] (xs.length+1) rfl (by omega) (by simp)
 simp only [List.length_nil,Int.natCast_zero,List.getLast?_nil] at h2
 have h5:decide ((xs.length:Int)≤16)=decide (xs.length≤16):=by apply decide_eq_decide.mpr;omega
 simp +contextual -dsimp -implicitDefEqProofs (maxSteps:=5000000) only [Bg,h5,go_sem,simprocAttr]
 refine Eq.mpr (h2 _ _ _ _) ?_
 cases hb:Be none xs<;>simp +contextual -dsimp -implicitDefEqProofs (maxSteps:=5000000) only [Bo,AH,h5,go_sem,simprocAttr]
theorem YX (i k:Nat) (pf nn:Bool) (xs:List AD) (hx:xs.length≤BB) (q:Out→St→Option Ans) (Q:V→Hp→Nat→Prop) (u:Dum (fun s q=>evC ctx (Lv ctx (i+3)) (Aa (Lv ctx (i+3))) k IZ s (As [0,3] q))) (w:Dum q):∀ (suf pre:List AD) (kk:Nat),xs=pre++suf→suf.length<kk →
  GL 0 [0,3] (fun s q=>evC ctx (Lv ctx (i+3)) (Aa (Lv ctx (i+3))) k IZ s (As [0,3] q)) q kk ⟨Ad [0,3] [.isl pf nn 4 (xs.map eI),iV pre.length],Ag,0⟩ Q u w =
  Fq (Cm xs.length pre.length suf) (Fin (q (.exit 0) ⟨Ad [0] [.isl pf nn 4 (xs.map eI)],Ag,0⟩) Q) (Fin (q .ret ⟨Ad [2] [bV false],Ag,0⟩) Q)
 | [],pre,kk,hxs,hk=>by
  obtain ⟨kk,rfl⟩:∃ m,kk=m+1:=⟨kk - 1,by simp at hk;omega⟩
  have h1:decide ((pre.length:Int)<xs.length)=false:=by simp [hxs]
  simp +contextual -dsimp -implicitDefEqProofs (maxSteps:=5000000) only [gLs,↓Ai (IZ.eq_1),h1,Bo,Cm,go_sem,simprocAttr]
 | a::suf,pre,kk,hxs,hk=>by
  obtain ⟨kk,rfl⟩:∃ m,kk=m+1:=⟨kk - 1,by simp at hk;omega⟩
  have hl:pre.length<xs.length:=by simp [hxs]
  have h2:((pre.length:Int)<xs.length)=True:=by simpa using hl
  have h3:(0≤(pre.length:Int))=True:=by simp
  have h4:=wrN pre.length (by omega)
  have hg:xs[pre.length]?=some a:=by simp [hxs]
  have ih:=YX i k pf nn xs hx q Q u w suf (pre++[a]) kk (by simp [hxs]) (by simpa using hk)
  rw [Ah] at ih
  have h5:((pre.length+1:Nat):Int)=(pre.length:Int)+1:=by simp
  have c5:decide ((xs.length:Int)<a.b)=decide ((xs.length:Int)<a.b):=rfl
  cases c1:BK a
  ·simp +contextual -dsimp -implicitDefEqProofs (maxSteps:=5000000) only [gLs,↓Ai (IZ.eq_1),h2,h3,h4,hg,AH,Cm,c1,go_sem,simprocAttr]
  ·cases c2:decide (a.code=4)
   ·have hr:Cm xs.length pre.length (a::suf)=Cm xs.length ((pre.length+1:Nat):Int) suf:=by simp only [Cm,c1,c2,h5,Bool.true_and,Bool.false_and,Bool.not_false]
    rw [hr]
    simp +contextual -dsimp -implicitDefEqProofs (maxSteps:=5000000) only [gLs,↓Ai (IZ.eq_1),h2,h3,h4,hg,c1,c2,ih,go_sem,simprocAttr]
   ·cases c3:decide (a.b≤(pre.length:Int))
    ·cases c4:decide ((xs.length:Int)<a.b)
     ·have hr:Cm xs.length pre.length (a::suf)=Cm xs.length ((pre.length+1:Nat):Int) suf:=by simp only [Cm,c1,c2,c3,c4,h5,Bool.true_and,Bool.false_or,Bool.not_false]
      rw [hr]
      simp +contextual -dsimp -implicitDefEqProofs (maxSteps:=5000000) only [gLs,↓Ai (IZ.eq_1),h2,h3,h4,hg,c1,c2,c3,c4,ih,go_sem,simprocAttr]
     ·have hr:Cm xs.length pre.length (a::suf)=false:=by simp only [Cm,c1,c2,c3,c4,h5,Bool.true_and,Bool.false_or,Bool.not_true,Bool.false_and]
      rw [hr]
      simp +contextual -dsimp -implicitDefEqProofs (maxSteps:=5000000) only [gLs,↓Ai (IZ.eq_1),h2,h3,h4,hg,c1,c2,c3,c4,AH,go_sem,simprocAttr]
    ·have hr:Cm xs.length pre.length (a::suf)=false:=by simp only [Cm,c1,c2,c3,Bool.true_and,Bool.true_or,Bool.not_true,Bool.false_and]
     rw [hr]
     simp +contextual -dsimp -implicitDefEqProofs (maxSteps:=5000000) only [gLs,↓Ai (IZ.eq_1),h2,h3,h4,hg,c1,c2,c3,AH,go_sem,simprocAttr]
theorem a0v (i:Nat) (pf nn:Bool) (xs:List AD) (hx:xs.length≤BB):Aa (Lv ctx (i+4)) 183 [.isl pf nn 4 (xs.map eI)]=some (bV (Dg xs)):=by
 refine Af rfl (xs.length+1) (by rfl) ?_
 delta c183
 have h2:=fun q Q u w=>YX i (xs.length+1) pf nn xs hx q Q u w xs [] (xs.length+1) rfl (by omega)
 simp only [List.length_nil,Int.natCast_zero] at h2
 have h5:decide ((xs.length:Int)≤16)=decide (xs.length≤16):=by apply decide_eq_decide.mpr;omega
 simp +contextual -dsimp -implicitDefEqProofs (maxSteps:=5000000) only [Dg,h5,go_sem,simprocAttr]
 refine Eq.mpr (h2 _ _ _ _) ?_
 cases hb:Cm xs.length 0 xs<;>simp +contextual -dsimp -implicitDefEqProofs (maxSteps:=5000000) only [Bo,AH,h5,go_sem,simprocAttr]
theorem YH (i:Nat) (pf nn:Bool) (a b c:Int) (xs:List AD) (hx:xs.length≤BB):Aa (Lv ctx (i+5)) 143 [.agg [iV a,iV b,iV c,.isl pf nn 4 (xs.map eI)]]=some (bV (Dk a b c xs)):=by
 have hp:=a0v i pf nn xs hx
 refine Af rfl 0 (by rfl) ?_
 delta c143
 simp +contextual -dsimp -implicitDefEqProofs (maxSteps:=5000000) only [Dk,hp,go_sem,simprocAttr]
end Ve
namespace Ve
open Go Ve.Ab
set_option maxHeartbeats 16000000
set_option maxRecDepth 10000
theorem cD (i:Nat) (pf ps:Bool) (m:Ac) (s:Ae) (hs:SmS s):Aa (Lv ctx (i+6)) 144 [eM pf m,eS ps s]=some (bV (BS m.words s)):=by
 have h1:=YH (i+0) ps false s.id s.label s.clear s.prog hs.p
 have h2:=sG (i+0) ps s hs pf pf pf pf false false false false m.words.a0 m.words.a1 m.words.a2 m.words.a3
 have h3:=YJ (i+1) ps false s.reads hs.r
 have h4:=UW (i+1) ps false s.writes hs.w
 simp only [Nat.add_assoc,Nat.reduceAdd] at h1 h2 h3 h4
 simp only [eS] at h2 ⊢
 have key:BS m.words s=((Dk s.id s.label s.clear s.prog&&(DL m.words s.prog&&Cf m.words s.writes&&AP m.words s.reads))&&(inR s.step 6&&inR s.pc s.prog.length&&Ft 255 s.regs.a0 s.regs.a1 s.regs.a2 s.regs.a3&&AY s.reads&&Bg s.writes) &&
   (inR s.at_ s.writes.length&&inR s.stamp 65535&&inR s.tries 65535&&inR s.result 5&&inR s.told 255)):=by
  rw [Bool.eq_iff_iff]
  simp only [BS,Dx,A4.all,Ft,Bool.and_eq_true]
  constructor<;>(intro h;simp only [h,and_self])
 refine Af rfl 0 (by rfl) ?_
 delta c144
 have hb1:∀ a b:Bool,(!a||!b)=!(a&&b):=by decide
 have hb2:∀ a b c d e:Bool,(!a||!b||!c||!d||!e)=!(a&&b&&c&&d&&e):=by decide
 rw [key]
 cases c1:(Dk s.id s.label s.clear s.prog&&(DL m.words s.prog&&Cf m.words s.writes&&AP m.words s.reads))
 ·simp +contextual -dsimp -implicitDefEqProofs (maxSteps:=5000000) only [h1,h2,h3,h4,hb1,c1,go_sem,simprocAttr]
 ·cases c2:(inR s.step 6&&inR s.pc s.prog.length&&Ft 255 s.regs.a0 s.regs.a1 s.regs.a2 s.regs.a3&&AY s.reads&&Bg s.writes)
  ·simp only [inR] at c2
   simp +contextual -dsimp -implicitDefEqProofs (maxSteps:=5000000) only [h1,h2,h3,h4,hb1,hb2,c1,c2,go_sem,simprocAttr]
  ·simp only [inR] at c2
   simp +contextual -dsimp -implicitDefEqProofs (maxSteps:=5000000) only [h1,h2,h3,h4,hb1,hb2,c1,c2,go_sem,simprocAttr]
   simp only [inR]
def OV (ws:A4 (List Aj)):Option Int→List Ae→Bool
 | _,[]=>true
 | none,s::t=>BS ws s&&OV ws (some s.id) t
 | some v,s::t=>BS ws s&&decide (v<s.id)&&OV ws (some s.id) t
theorem SA (ws:A4 (List Aj)):∀ (l:List Ae) (o:Option Int),OV ws o l=(EY o l&&l.all (BS ws))
 | [],o=>by cases o<;>rfl
 | a::l,none=>by simp only [OV,EY,List.all_cons,SA ws l];cases BS ws a<;>cases EY (some a.id) l<;>simp
 | a::l,some v=>by simp only [OV,EY,List.all_cons,SA ws l];cases BS ws a<;>cases EY (some a.id) l<;>cases decide (v<a.id)<;>simp
theorem Za (i k:Nat) (pf:Bool) (m:Ac) (hm:SmM m) (q:Out→St→Option Ans) (Q:V→Hp→Nat→Prop) (u:Dum (fun s q=>evC ctx (Lv ctx (i+6)) (Aa (Lv ctx (i+6))) k NT s (As [1,4] q))) (w:Dum q):∀ (suf pre:List Ae) (kk:Nat),m.sess=pre++suf→suf.length<kk →
  GL 0 [1,4] (fun s q=>evC ctx (Lv ctx (i+6)) (Aa (Lv ctx (i+6))) k NT s (As [1,4] q)) q kk ⟨Ad [1,4] [.ip pf (cM pf m) 0,iV pre.length],Ag,0⟩ Q u w=Fq (OV m.words (pre.getLast?.map (·.id)) suf) (Fin (q (.exit 2) ⟨Ad [1] [.ip pf (cM pf m) 0],Ag,0⟩) Q) (Fin (q .ret ⟨Ad [2] [bV false],Ag,0⟩) Q)
 | [],pre,kk,hxs,hk=>by
  obtain ⟨kk,rfl⟩:∃ m,kk=m+1:=⟨kk - 1,by simp at hk;omega⟩
  have h1:decide ((pre.length:Int)<m.sess.length)=false:=by simp [hxs]
  have h2:∀ o,OV m.words o []=true:=fun o=>by cases o<;>rfl
  simp +contextual -dsimp -implicitDefEqProofs (maxSteps:=5000000) only [gLs,↓Ai (NT.eq_1),h1,Bo,h2,go_sem,simprocAttr]
 | a::suf,pre,kk,hxs,hk=>by
  obtain ⟨kk,rfl⟩:∃ m,kk=m+1:=⟨kk - 1,by simp at hk;omega⟩
  have hl:pre.length<m.sess.length:=by simp [hxs]
  have h2:((pre.length:Int)<m.sess.length)=True:=by simpa using hl
  have h3:(0≤(pre.length:Int))=True:=by simp
  have h4:=wrN pre.length (by have:=hm.ss;omega)
  have hg:m.sess[pre.length]?=some a:=by simp [hxs]
  have hs:=cD (i+0) pf pf m a (hm.s a (by simp [hxs]))
  simp only [Nat.add_assoc,Nat.reduceAdd,eS] at hs
  have ih:=Za i k pf m hm q Q u w suf (pre++[a]) kk (by simp [hxs]) (by simpa using hk)
  rw [Ah] at ih
  simp only [List.getLast?_append,List.getLast?_singleton,Option.some_or,Option.map_some] at ih
  rcases List.eq_nil_or_concat pre with rfl | ⟨L,v,rfl⟩
  ·simp only [List.length_nil,RE] at *
   simp only [Nat.zero_add,Wd] at ih
   cases c1:BS m.words a<;>simp +contextual -dsimp -implicitDefEqProofs (maxSteps:=5000000) only [gLs,↓Ai (NT.eq_1),h2,h3,h4,hg,hs,c1,ih,OV,AH,List.getLast?_nil,go_sem,simprocAttr]
  ·have hlen:(L.concat v).length=L.length+1:=by simp
   have hlast:(L.concat v).getLast?=some v:=by simp
   rw [hlen] at h2 h3 h4 hg ih
   rw [hlen,hlast]
   have h6:IntKind.wrap .i64 (((L.length+1:Nat):Int) - 1)=(L.length:Int):=by
    have:=Jc (a:=(L.length:Int)) (by omega) (by have:=hm.ss;simp [hlen] at hl;simp only [BB] at this;omega)
    simp only [wr] at this
    rw [show (((L.length+1:Nat):Int) - 1)=(L.length:Int) by omega,this]
   have h7:((L.length:Int)<m.sess.length)=True:=by simp only [eq_iff_iff,iff_true];rw [hlen] at hl;omega
   have h8:(0≤(L.length:Int))=True:=by simp
   have h9:decide (0<((L.length+1:Nat):Int))=true:=by simp only [decide_eq_true_eq];omega
   have hg':m.sess[L.length]?=some v:=by simp [hxs]
   cases c1:BS m.words a
   ·simp +contextual -dsimp -implicitDefEqProofs (maxSteps:=5000000) only [gLs,↓Ai (NT.eq_1),h2,h3,h4,hg,hs,c1,OV,AH,go_sem,simprocAttr]
   ·by_cases hlt:v.id<a.id
    ·have c2:decide (a.id≤v.id)=false:=by simp;omega
     have c3:decide (v.id<a.id)=true:=by simp;omega
     simp +contextual -dsimp -implicitDefEqProofs (maxSteps:=5000000) only [gLs,↓Ai (NT.eq_1),h2,h3,h4,h6,h7,h8,h9,hg,hg',hs,c1,c2,c3,ih,OV,go_sem,simprocAttr]
    ·have c2:decide (a.id≤v.id)=true:=by simp;omega
     have c3:decide (v.id<a.id)=false:=by simp;omega
     simp +contextual -dsimp -implicitDefEqProofs (maxSteps:=5000000) only [gLs,↓Ai (NT.eq_1),h2,h3,h4,h6,h7,h8,h9,hg,hg',hs,c1,c2,c3,OV,AH,go_sem,simprocAttr]
theorem YZ (i k:Nat) (pf:Bool) (m:Ac) (hm:SmM m) (q:Out→St→Option Ans) (Q:V→Hp→Nat→Prop) (u:Dum (fun s q=>evC ctx (Lv ctx (i+6)) (Aa (Lv ctx (i+6))) k RG s (As [1,5] q))) (w:Dum q):∀ (suf pre:List AI) (kk:Nat),m.trace=pre++suf→suf.length<kk →
  GL 0 [1,5] (fun s q=>evC ctx (Lv ctx (i+6)) (Aa (Lv ctx (i+6))) k RG s (As [1,5] q)) q kk ⟨Ad [1,5] [.ip pf (cM pf m) 0,iV pre.length],Ag,0⟩ Q u w=Fq (suf.all fun a=>inR a.label 3) (Fin (q (.exit 4) ⟨Ad [] [],Ag,0⟩) Q) (Fin (q .ret ⟨Ad [2] [bV false],Ag,0⟩) Q)
 | [],pre,kk,hxs,hk=>by
  obtain ⟨kk,rfl⟩:∃ m,kk=m+1:=⟨kk - 1,by simp at hk;omega⟩
  have h1:decide ((pre.length:Int)<(m.trace).length)=false:=by simp [hxs]
  simp +contextual -dsimp -implicitDefEqProofs (maxSteps:=5000000) only [gLs,↓Ai (RG.eq_1),h1,Bo,List.all_nil,go_sem,simprocAttr]
 | a::suf,pre,kk,hxs,hk=>by
  obtain ⟨kk,rfl⟩:∃ m,kk=m+1:=⟨kk - 1,by simp at hk;omega⟩
  have hl:pre.length<(m.trace).length:=by simp [hxs]
  have h2:((pre.length:Int)<(m.trace).length)=True:=by simpa using hl
  have h3:(0≤(pre.length:Int))=True:=by simp
  have h4:=wrN pre.length (by have:=hm.tr;omega)
  have hg:(m.trace)[pre.length]?=some a:=by simp [hxs]
  have hmem:a∈m.trace:=by simp [hxs]
  have ih:=YZ i k pf m hm q Q u w suf (pre++[a]) kk (by simp [hxs]) (by simpa using hk)
  rw [Ah] at ih
  simp only [List.all_cons]
  cases hb:(inR a.label 3)
  ·rw [Bool.false_and]
   repeat simp +contextual -dsimp -implicitDefEqProofs (maxSteps:=5000000) only [gLs,↓Ai (RG.eq_1),h2,h3,h4,hg,hb,AH,go_sem,simprocAttr]
  ·rw [Bool.true_and]
   repeat simp +contextual -dsimp -implicitDefEqProofs (maxSteps:=5000000) only [gLs,↓Ai (RG.eq_1),h2,h3,h4,hg,hb,ih,go_sem,simprocAttr]
theorem yD (i:Nat) (pf:Bool) (m:Ac) (hm:SmM m):Aa (Lv ctx (i+7)) 95 [eM pf m]=some (bV (De m)):=by
 have ha:=YK (i+2) pf pf pf pf false false false false m.words.a0 m.words.a1 m.words.a2 m.words.a3 hm.w0 hm.w1 hm.w2 hm.w3
 have h2:=fun q Q u w=>Za i (m.sess.length+m.trace.length+5) pf m hm q Q u w m.sess [] (m.sess.length+m.trace.length+5) rfl (by omega)
 have h3:=fun q Q u w=>YZ i (m.sess.length+m.trace.length+5) pf m hm q Q u w m.trace [] (m.sess.length+m.trace.length+5) rfl (by omega)
 simp only [Nat.add_assoc,Nat.reduceAdd] at ha
 simp only [List.length_nil,Int.natCast_zero,List.getLast?_nil,Option.map_none,SA] at h2 h3
 have h5:decide (4<(m.sess.length:Int))=!decide (m.sess.length≤4):=PM _
 have h6:decide (512<(m.trace.length:Int))=!decide (m.trace.length≤512):=by
  by_cases h:m.trace.length≤512<;>simp [h]<;>omega
 have hb:∀ a b c d:Bool,(!a||!b||!c||!d)=!(a&&b&&c&&d):=by decide
 have ho:=fun q k s Q u w=>gLs 0 [1,3] (fun s q=>evC ctx (Lv ctx (i+6)) (Aa (Lv ctx (i+6))) (m.sess.length+m.trace.length+5) PU s (As [1,3] q)) q k s Q u w
 refine Af rfl (m.sess.length+m.trace.length+5) (by rfl) ?_
 delta c95
 cases c1:(AS m.words&&inR m.ceil 65535&&decide (m.sess.length≤4)&&decide (m.trace.length≤512))
 ·have key:De m=false:=by
   rw [← Bool.not_eq_true] at c1 ⊢
   intro h
   simp only [De,Bool.and_eq_true] at h c1
   exact c1 (by simp only [h,and_self])
  simp +contextual -dsimp -implicitDefEqProofs (maxSteps:=5000000) only [ha,h5,h6,hb,c1,key,go_sem,simprocAttr]
 ·have key:De m=(m.clocks.all (fun c=>inR c m.ceil)&&(EY none m.sess&&m.sess.all (BS m.words))&&m.trace.all (fun e=>inR e.label 3)):=by
   rw [Bool.eq_iff_iff]
   simp only [Bool.and_eq_true] at c1
   simp only [De,Bool.and_eq_true,c1,true_and,and_true]
   constructor<;>(intro h;simp only [h,and_self])
  rw [key]
  have hf:∀ a b:Int,(decide (0≤a)&&decide (a≤b))=inR a b:=fun _ _=>(rfl)
  cases d0:inR m.clocks.a0 m.ceil
  ·simp +contextual -dsimp -implicitDefEqProofs (maxSteps:=5000000) only [ha,h5,h6,hb,c1,ho,↓Ai (PU.eq_1),A4.all,hf,d0,go_sem,simprocAttr]
  ·cases d1:inR m.clocks.a1 m.ceil
   ·simp +contextual -dsimp -implicitDefEqProofs (maxSteps:=5000000) only [ha,h5,h6,hb,c1,ho,↓Ai (PU.eq_1),A4.all,hf,d0,d1,go_sem,simprocAttr]
   ·cases d2:inR m.clocks.a2 m.ceil
    ·simp +contextual -dsimp -implicitDefEqProofs (maxSteps:=5000000) only [ha,h5,h6,hb,c1,ho,↓Ai (PU.eq_1),A4.all,hf,d0,d1,d2,go_sem,simprocAttr]
    ·cases d3:inR m.clocks.a3 m.ceil
     ·simp +contextual -dsimp -implicitDefEqProofs (maxSteps:=5000000) only [ha,h5,h6,hb,c1,ho,↓Ai (PU.eq_1),A4.all,hf,d0,d1,d2,d3,go_sem,simprocAttr]
     ·simp +contextual -dsimp -implicitDefEqProofs (maxSteps:=5000000) only [ha,h5,h6,hb,c1,ho,↓Ai (PU.eq_1),A4.all,hf,d0,d1,d2,d3,go_sem,simprocAttr]
      refine Eq.mpr (h2 _ _ _ _) ?_
      cases e2:(EY none m.sess&&m.sess.all (BS m.words))
      ·simp +contextual -dsimp -implicitDefEqProofs (maxSteps:=5000000) only [AH,go_sem,simprocAttr]
      ·simp +contextual -dsimp -implicitDefEqProofs (maxSteps:=5000000) only [Bo,go_sem,simprocAttr]
       refine Eq.mpr (h3 _ _ _ _) ?_
       cases e3:(m.trace.all fun a=>inR a.label 3)<;>simp +contextual -dsimp -implicitDefEqProofs (maxSteps:=5000000) only [Bo,AH,go_sem,simprocAttr]
end Ve
namespace Ve
open Go Ve.Ab
set_option maxRecDepth 10000
attribute [go_sem] List.replicate List.length_append Nat.zero_add List.length_cons
abbrev hR (pf d:Bool) (m:Ac) (els:List V):Hp :=
 pO (pO (pO (pO (pO (pO Ag 0 (some ⟨11,[zM],false⟩)) 1 (some ⟨11,[.agg [.sl 2,.sl 3,.sl 4,.sl 5,iV m.clocks.a0,iV m.clocks.a1,iV m.clocks.a2,iV m.clocks.a3,iV m.ceil,.own 17 els,eEs pf m.trace]],d⟩))
  2 (some ⟨3,m.words.a0.map eW,false⟩)) 3 (some ⟨3,m.words.a1.map eW,false⟩)) 4 (some ⟨3,m.words.a2.map eW,false⟩)) 5 (some ⟨3,m.words.a3.map eW,false⟩)
end Ve
namespace Ve
open Go Ve.Ab
set_option maxHeartbeats 16000000
set_option maxRecDepth 10000
theorem a4a (ms:List Bool):Ej ms []=.ret ([],[]):=by cases ms<;>rfl
theorem ao_t (ms:List Bool) (v:V) (r:List V):Ej (true::ms) (v::r)=(AR 0 6 v).bind fun x=>if x.1.perm then (Ej ms r).bind fun y=>.ret (x.1::y.1,x.2++y.2) else .fail:=(rfl)
theorem ao_f (ms:List Bool) (v:V) (r:List V):Ej (false::ms) (v::r)=if v.perm then (Ej ms r).bind fun y=>.ret (v::y.1,y.2) else .fail:=(rfl)
theorem ao_0 (v:V) (r:List V):Ej [] (v::r)=if v.perm then (Ej [] r).bind fun y=>.ret (v::y.1,y.2) else .fail:=(rfl)
attribute [go_sem] a4a ao_t ao_f ao_0
end Ve
namespace Ve
open Go Ve.Ab
set_option maxRecDepth 10000
end Ve
namespace Ve
open Go Ve.Ab
set_option maxHeartbeats 16000000
set_option maxRecDepth 10000
theorem Bh:oM AA=.agg [.own 3 [],.own 3 [],.own 3 [],.own 3 [],iV 0,iV 0,iV 0,iV 0,iV 0,.own 17 [],.own 4 []]:=rfl
theorem nn2 (a b:Bool):(!a||!b)=!(a&&b):=by cases a<;>cases b<;>rfl
theorem Kh {x c:Int} (h:inR x c=true) (hc:c≤65535):IntKind.wrap .i64 (x+1)=x+1:=by
 rw [AE] at h
 exact Bp (by omega) (by omega)
abbrev e4 (a:A4 Int):V:=.agg [iV a.a0,iV a.a1,iV a.a2,iV a.a3]
end Ve
namespace Ve
open Go
abbrev oNs (l:List Int):V:=.own 1 (l.map iV)
def oSt (s:AV):V:=.agg [iV s.id,iV s.label,iV s.clear,oIs s.prog]
abbrev oSts (l:List AV):V:=.own 4 (l.map oSt)
abbrev oSls (l:List AO):V:=.own 2 (l.map eSl)
abbrev cOSc (s:Ap):List V:=[oNs s.words.a0,oNs s.words.a1,oNs s.words.a2,oNs s.words.a3,iV s.ceil,oSts s.starts,oSls s.slots]
abbrev oSc (s:Ap):V:=.agg (cOSc s)
def Gv (s:AV):V:=.agg [iV (Sb s.id 90),iV s.label,iV s.clear,.dead]
def mvS (s:Ae):V:=.agg [iV s.id,iV s.label,iV s.clear,.dead,iV s.step,iV s.pc,iV s.regs.a0,iV s.regs.a1,iV s.regs.a2,iV s.regs.a3,.dead,.dead,iV s.at_,iV s.stamp,iV s.tries,iV s.result,iV s.told]
theorem a7b (l:List Int):fzs (l.map iV)=l.map iV:=Fi _ _ (fun _=>by simp [V.fz]) l
theorem a7c (l:List Int):bzs (l.map iV)=l.map iV:=EP _ _ (fun _=>by simp [V.bz]) l
theorem a1i (l:List AV):fzs (l.map oSt)=l.map (eSt true):=Fi _ _ (fun _=>by simp [oSt,eSt,V.fz,fzs,Zw]) l
theorem a1j (l:List AV):bzs (l.map oSt)=l.map (eSt false):=EP _ _ (fun _=>by simp [oSt,eSt,V.bz,bzs,RA]) l
theorem a3k (p:Bool) (l:List AV):fzs (l.map (eSt p))=l.map (eSt p):=Fi _ _ (fun _=>by simp [eSt,V.fz,fzs]) l
theorem a3l (p:Bool) (l:List AV):bzs (l.map (eSt p))=l.map (eSt p):=EP _ _ (fun _=>by simp [eSt,V.bz,bzs]) l
theorem jX (l:List Int):AJ (l.map iV)=true:=CM _ (fun _=>by simp [V.perm]) l
theorem cU (l:List AO):AJ (l.map eSl)=true:=CM _ (fun _=>by simp [eSl,V.perm,AJ]) l
theorem cQ (l:List AV):AJ (l.map oSt)=true:=CM _ (fun _=>by simp [oSt,V.perm,AJ]) l
theorem cT (l:List AV):AJ (l.map (eSt true))=true:=CM _ (fun _=>by simp [eSt,V.perm,AJ]) l
theorem Xk (n:Nat) (v:Value):AJ (List.replicate n (V.lit v))=true:=by
 induction n with
 | zero=>rfl
 | succ n ih=>rw [List.replicate_succ,FE,ih,Vh];rfl
theorem PS (thr d:Nat):AR thr (d+1) .dead=.ret (.dead,[]):=(rfl)
theorem a8j (thr d:Nat) (l:List Int):AG (AR thr (d+2)) (l.map iV)=.ret ((l.map iV).map vn):=HP _ _ _ (fun x=>by simp only [Ep]) l
theorem a4f (thr d:Nat) (l:List AO):AG (AR thr (d+2)) (l.map eSl)=.ret ((l.map eSl).map vn):=HP _ _ _ (fun x=>by simp only [eSl,EV,Cx,DC,Ep,Gx,Gy,Bv,List.map_cons,List.map_nil,List.flatten_cons,List.flatten_nil,List.append_nil,List.nil_append]) l
theorem a4b (thr d:Nat) (l:List AV):AG (AR thr (d+2)) (l.map oSt)=.ret ((l.map oSt).map vn):=HP _ _ _ (fun x=>by simp only [oSt,EV,Cx,DC,Ep,Gx,Gy,Bv,List.map_cons,List.map_nil,List.flatten_cons,List.flatten_nil,List.append_nil,List.nil_append]) l
theorem a4e (p:Bool) (thr d:Nat) (l:List AV):AG (AR thr (d+2)) (l.map (eSt p))=.ret ((l.map (eSt p)).map vn):=HP _ _ _ (fun x=>by simp only [eSt,EV,Cx,DC,Ep,Gx,Gy,Bv,List.map_cons,List.map_nil,List.flatten_cons,List.flatten_nil,List.append_nil,List.nil_append]) l
theorem fR (thr d:Nat) (l:List AV):AG (AR thr (d+2)) (l.map Gv)=.ret ((l.map Gv).map vn):=HP _ _ _ (fun x=>by simp only [Gv,EV,Cx,DC,Ep,PS,Bv,List.map_cons,List.map_nil,List.flatten_cons,List.flatten_nil,List.append_nil,List.nil_append]) l
theorem a4c (thr d:Nat) (l:List Ae):AG (AR thr (d+2)) (l.map mvS)=.ret ((l.map mvS).map vn):=HP _ _ _ (fun x=>by simp only [mvS,EV,Cx,DC,Ep,PS,Bv,List.map_cons,List.map_nil,List.flatten_cons,List.flatten_nil,List.append_nil,List.nil_append]) l
theorem Sz {α:Type} (d:Nat) (f g:α→V) (h:∀ x,AW d (f x)=.ret (g x)) (l:List α):AG (AW d) (l.map f)=.ret (l.map g):=Yn _ _ g h l
theorem a0u (d:Nat) (l:List Int):AG (AW (d+2)) (l.map iV)=.ret (l.map iV):=Sz _ _ _ (fun x=>by simp only [MQ]) l
theorem sD (d:Nat) (l:List AO):AG (AW (d+2)) (l.map eSl)=.ret (l.map eSl):=Sz _ _ _ (fun x=>by simp only [eSl,OT,Cx,DC,MQ,Bv]) l
theorem sB (d:Nat) (l:List AV):AG (AW (d+2)) (l.map oSt)=.ret (l.map (eSt false)):=Sz _ _ _ (fun x=>by simp only [oSt,eSt,OT,Cx,DC,MQ,Xf,Bv,RA]) l
theorem sC (p:Bool) (d:Nat) (l:List AV):AG (AW (d+2)) (l.map (eSt p))=.ret (l.map (eSt p)):=Sz _ _ _ (fun x=>by simp only [eSt,OT,Cx,DC,MQ,jH,Bv]) l
theorem a0q (l:List Int):List.replicate l.length (iV 0)=(l.map fun _=>(0:Int)).map iV:=by
 induction l with
 | nil=>rfl
 | cons a l ih=>simp only [List.length_cons,List.replicate_succ,List.map_cons,ih]
attribute [go_sem] eSt oSt a7b a7c a1i a1j a3k a3l jX cU cQ cT Xk PS a8j a4f a4b a4e fR a4c a0u sD sB sC
end Ve
