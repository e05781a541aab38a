/- Undoing: the program's, on. -/
import Derived.Test.YtjgbbmcjbfpjfaaGreatVeSA
set_option linter.all false
set_option linter.unusedSectionVars false
namespace Ve
open Go Ve.Ab
set_option maxHeartbeats 16000000
set_option maxRecDepth 10000
theorem lZ (L:Lay) (t:TypeId):Bx L t (.lit (.slice none 0 0))=match L t with
 | some { k:=.sl el,.. }=>match L el with
  | some e=>.own e.size []
  | none=>.lit (.slice none 0 0)
 | _=>.lit (.slice none 0 0):=by
 simp only [Bx,V.isNil,if_true]
 rcases L t with _ | ⟨_,_,_,k,_,_,_⟩
 ·rfl
 ·cases k<;>rfl
attribute [go_sem] lZ
abbrev hN (m:Ad) (a1 a2 a3 a4:List V) (els:List V):Hp :=
 pO (pO (pO (pO (pO (pO (pO (pO Af 0 (some ⟨11,[zM],false⟩)) 1 (some ⟨3,a1,false⟩)) 2 (some ⟨3,a2,false⟩)) 3 (some ⟨3,a3,false⟩)) 4 (some ⟨3,a4,false⟩)) 5 (some ⟨17,els,false⟩)) 6 (some ⟨4,m.trace.map eE,false⟩))
  7 (some ⟨11,[.agg [.sl 1,.sl 2,.sl 3,.sl 4,iV m.clocks.a0,iV m.clocks.a1,iV m.clocks.a2,iV m.clocks.a3,iV m.ceil,.sl 5,.sl 6]],true⟩)
abbrev hT (m:Ad) (a1 a2 a3 a4:List V) (els:List V) (e:AY):Hp :=
 pO (pO (pO (pO (pO (pO (pO (pO (pO (pO Af 0 (some ⟨11,[zM],false⟩)) 1 (some ⟨3,a1,false⟩)) 2 (some ⟨3,a2,false⟩)) 3 (some ⟨3,a3,false⟩)) 4 (some ⟨3,a4,false⟩)) 5 (some ⟨17,els,false⟩)) 6 none)
  7 (some ⟨11,[.agg [.sl 1,.sl 2,.sl 3,.sl 4,iV m.clocks.a0,iV m.clocks.a1,iV m.clocks.a2,iV m.clocks.a3,iV m.ceil,.sl 5,.sl 9]],true⟩)) 8 none) 9 (some ⟨4,m.trace.map eE++[eE e],false⟩)
theorem gR (i:Nat) (m:Ad) (hm:SmM m) (k:Nat) (s:Ai) (hs:m.sess[k]?=some s):Lv ctx (i+2) 222 [.ptr 7 0 0,iV k] (hF0 m) 8 =
  some (.ptr 5 k 0,hN m ((m.words.a0.map (As (IntKind.wrap .i64 (s.id+1)))).map eW) ((m.words.a1.map (As (IntKind.wrap .i64 (s.id+1)))).map eW) ((m.words.a2.map (As (IntKind.wrap .i64 (s.id+1)))).map eW) ((m.words.a3.map (As (IntKind.wrap .i64 (s.id+1)))).map eW) ((m.sess.map oS).set k (oS (DH s))),8):=by
 have hk:k<m.sess.length:=by
  rcases Nat.lt_or_ge k m.sess.length with h | h
  ·exact h
  ·rw [List.getElem?_eq_none h] at hs;cases hs
 have h1:(0≤(k:Int))=True:=by simp
 have h2:((k:Int)<(m.sess.length:Int))=True:=by simpa using hk
 have h3:(m.sess.map oS)[k]?=some (oS s):=by simp [hs]
 have h4:∀ x y,((m.sess.map oS).set k x).set k y=(m.sess.map oS).set k y:=fun x y=>List.set_set ..
 have h5:∀ x,((m.sess.map oS).set k x)[k]?=some x:=fun x=>List.getElem?_set_self (by simpa using hk)
 have hf:=a2u i m hm s.id _ rfl
 simp only [oS] at h3
 refine ON rfl 0 ?_
 delta c222
 simp +contextual -dsimp -implicitDefEqProofs (maxSteps:=5000000) only [h1,h2,h3,h4,h5,hf,DH,List.map_nil,go_sem,simprocAttr]
 rfl
theorem gH (i:Nat) (m:Ad) (a1 a2 a3 a4 l:List V) (k:Nat) (hk:k<l.length) (id lb:Int) (rest:List V) (kd vl:Int) (htr:m.trace.length<512) :
  Lv ctx (i+1) 205 [.ptr 7 0 0,iV k,iV kd,iV vl] (hN m a1 a2 a3 a4 (l.set k (.agg (iV id::iV lb::rest)))) 8=some (.tup [],hT m a1 a2 a3 a4 (l.set k (.agg (iV id::iV lb::rest))) ⟨id,lb,kd,vl⟩,10):=by
 have h1:(0≤(k:Int))=True:=by simp
 have h2:((k:Int)<(l.length:Int))=True:=by simpa using hk
 have h5:∀ x,(l.set k x)[k]?=some x:=fun x=>List.getElem?_set_self hk
 have h6:decide ((m.trace.length:Int)<512)=true:=by simp;omega
 have h7:(((m.trace.length+1:Nat):Int)*32≤140737488355328)=True:=by simp;omega
 refine ON rfl 0 ?_
 delta SN
 simp +contextual -dsimp -implicitDefEqProofs (maxSteps:=5000000) only [h1,h2,h5,h6,h7,List.length_set,List.replicate,go_sem,simprocAttr]
 rfl
theorem RO (i:Nat) (m:Ad) (a1 a2 a3 a4 els:List V) (k:Int) (kd vl:Int) (htr:¬ m.trace.length<512) :
  Lv ctx (i+1) 205 [.ptr 7 0 0,iV k,iV kd,iV vl] (hN m a1 a2 a3 a4 els) 8=some (.tup [],hN m a1 a2 a3 a4 els,8):=by
 have h6:decide ((m.trace.length:Int)<512)=false:=by simp;omega
 refine ON rfl 0 ?_
 delta SN
 simp +contextual -dsimp -implicitDefEqProofs (maxSteps:=5000000) only [h6,go_sem,simprocAttr]
theorem Ki {x:Option (V × Hp × Nat)} {v:V} {h:Hp} {n:Nat} {k:V→Hp→Nat→Option Ans} {Q:V→Hp→Nat→Prop} {u:Dum k} (hx:x=some (v,h,n)) (hk:Fin (k v h n) Q):GI x k Q u:=by rw [hx];exact hk
theorem NE (i:Nat) (pf:Bool) (m:Ad) (hm:SmM m) (at_ kind:Int):Aa (Lv ctx (i+21)) 199 [eM pf m,iV at_,iV kind]=some (.tup [oM (BK m at_ kind).1,iV (BK m at_ kind).2]):=by
 have ht:=HT (i+0) pf pf m at_ hm
 have hc:=Dz (i+17) pf m hm
 simp only [Nat.add_assoc,Nat.reduceAdd] at ht hc
 cases h1:(BT m at_&&(decide (kind=3)||decide (kind=5)))
 ·have h2:∀ a b c:Bool,(!a||!b&&!c)=!(a&&(b||c)):=by decide
  have h3:=h2 (BT m at_) (decide (kind=3)) (decide (kind=5))
  rw [h1] at h3
  refine Ac rfl 0 (by rfl) ?_
  delta vQ
  simp +contextual -dsimp -implicitDefEqProofs (maxSteps:=5000000) only [ht,h3,go_sem,simprocAttr]
  simp only [BK,h1]
  rfl
 ·have h2:∀ a b c:Bool,(!a||!b&&!c)=!(a&&(b||c)):=by decide
  have h3:=h2 (BT m at_) (decide (kind=3)) (decide (kind=5))
  rw [h1] at h3
  have hh:BT m at_=true:=by simp only [Bool.and_eq_true] at h1;exact h1.1
  obtain ⟨s,k,rfl,hs,hk⟩:=Jw hh
  have hd:=gR (i+(20 - 2)) m hm k s hs
  have h5:∀ x,((m.sess.map oS).set k x)[k]?=some x:=fun x=>List.getElem?_set_self (by simpa using hk)
  have h4:∀ x y,((m.sess.map oS).set k x).set k y=(m.sess.map oS).set k y:=fun x y=>List.set_set ..
  have hm1:BK m k kind=(Ba (AE (BC (IntKind.wrap .i64 (s.id+1)) m) k (BJ s)) ⟨s.id,s.label,kind,Kn s.tries⟩,0):=by
   simp only [BK,h1,if_true,Int.toNat_natCast,hs]
  rw [hm1]
  by_cases htr:m.trace.length<512
  ·have hn:=gH (i+(20 - 1)) m ((m.words.a0.map (As (IntKind.wrap .i64 (s.id+1)))).map eW) ((m.words.a1.map (As (IntKind.wrap .i64 (s.id+1)))).map eW) ((m.words.a2.map (As (IntKind.wrap .i64 (s.id+1)))).map eW) ((m.words.a3.map (As (IntKind.wrap .i64 (s.id+1)))).map eW) (m.sess.map oS) k (by simpa using hk) s.id s.label
    [iV s.clear,oIs s.prog,iV 0,iV 0,iV 0,iV 0,iV 0,iV 0,oRs [],PQ [],iV 0,iV 0,iV (Kn s.tries),iV s.result,iV s.told] kind (Kn s.tries) htr
   simp only [Nat.add_assoc,Nat.reduceAdd,Nat.reduceSub] at hd hn
   refine Ac rfl 0 (by rfl) ?_
   delta vQ
   simp +contextual -dsimp -implicitDefEqProofs (maxSteps:=5000000) only [ht,hc,h3,hd,h4,h5,hn,DH,Kn,go_sem,simprocAttr]
   refine Ki hn ?_
   simp +contextual -dsimp -implicitDefEqProofs (maxSteps:=5000000) only [h5,h4,go_sem,simprocAttr]
   simp only [oM,cO,oWs,oSs,oEs,Ba,AE,BC,htr,if_true,List.map_set,List.map_append,BJ,DH]
   rfl
  ·have hn:=RO (i+(20 - 1)) m ((m.words.a0.map (As (IntKind.wrap .i64 (s.id+1)))).map eW) ((m.words.a1.map (As (IntKind.wrap .i64 (s.id+1)))).map eW) ((m.words.a2.map (As (IntKind.wrap .i64 (s.id+1)))).map eW) ((m.words.a3.map (As (IntKind.wrap .i64 (s.id+1)))).map eW)
    ((m.sess.map oS).set k (oS (BJ s))) k kind (Kn s.tries) htr
   simp only [Nat.add_assoc,Nat.reduceAdd,Nat.reduceSub] at hd hn
   refine Ac rfl 0 (by rfl) ?_
   delta vQ
   simp +contextual -dsimp -implicitDefEqProofs (maxSteps:=5000000) only [ht,hc,h3,hd,h4,h5,DH,go_sem,simprocAttr]
   refine Ki hn ?_
   simp +contextual -dsimp -implicitDefEqProofs (maxSteps:=5000000) only [h5,h4,go_sem,simprocAttr]
   simp only [oM,cO,oWs,oSs,oEs,Ba,AE,BC,htr,if_false,List.map_set,BJ,DH]
   rfl
theorem Tx (i:Nat) (pf:Bool) (m:Ad) (hm:SmM m) (at_ result told:Int):Aa (Lv ctx (i+21)) 201 [eM pf m,iV at_,iV result,iV told]=some (.tup [oM (CX m at_ result told).1,iV (CX m at_ result told).2]):=by
 have ht:=HT (i+0) pf pf m at_ hm
 have hc:=Dz (i+17) pf m hm
 simp only [Nat.add_assoc,Nat.reduceAdd] at ht hc
 have h2:∀ a b c d:Bool,(!a||!b||!c||!d)=!(a&&(b&&c)&&d):=by decide
 have h3:=h2 (BT m at_) (decide (0≤result)) (decide (result≤5)) (inR told 255)
 have n1:decide (result<0)=!decide (0≤result):=by rw [← decide_not];apply decide_eq_decide.mpr;omega
 have n2:decide (5<result)=!decide (result≤5):=by rw [← decide_not];apply decide_eq_decide.mpr;omega
 cases h1:(BT m at_&&(decide (0≤result)&&decide (result≤5))&&inR told 255)<;>rw [h1] at h3
 ·refine Ac rfl 0 (by rfl) ?_
  delta vO
  simp +contextual -dsimp -implicitDefEqProofs (maxSteps:=5000000) only [ht,h3,n1,n2,go_sem,simprocAttr]
  simp only [CX,inR] at h1 ⊢
  simp only [h1]
  rfl
 ·have hh:BT m at_=true:=by simp only [Bool.and_eq_true] at h1;exact h1.1.1
  obtain ⟨s,k,rfl,hs,hk⟩:=Jw hh
  have hd:=gR (i+(20 - 2)) m hm k s hs
  have h5:∀ x,((m.sess.map oS).set k x)[k]?=some x:=fun x=>List.getElem?_set_self (by simpa using hk)
  have h4:∀ x y,((m.sess.map oS).set k x).set k y=(m.sess.map oS).set k y:=fun x y=>List.set_set ..
  have hm1:CX m k result told=(Ba (AE (BC (IntKind.wrap .i64 (s.id+1)) m) k (Gp s result told)) ⟨s.id,s.label,6,result⟩,0):=by
   simp only [inR] at h1
   simp only [CX,inR,h1,if_true,Int.toNat_natCast,hs]
  rw [hm1]
  by_cases htr:m.trace.length<512
  ·have hn:=gH (i+(20 - 1)) m ((m.words.a0.map (As (IntKind.wrap .i64 (s.id+1)))).map eW) ((m.words.a1.map (As (IntKind.wrap .i64 (s.id+1)))).map eW) ((m.words.a2.map (As (IntKind.wrap .i64 (s.id+1)))).map eW) ((m.words.a3.map (As (IntKind.wrap .i64 (s.id+1)))).map eW) (m.sess.map oS) k (by simpa using hk) s.id s.label
    [iV s.clear,oIs s.prog,iV 6,iV s.pc,iV s.regs.a0,iV s.regs.a1,iV s.regs.a2,iV s.regs.a3,oRs [],PQ [],iV 0,iV 0,iV s.tries,iV result,iV told] 6 result htr
   simp only [Nat.add_assoc,Nat.reduceAdd,Nat.reduceSub] at hd hn
   refine Ac rfl 0 (by rfl) ?_
   delta vO
   simp +contextual -dsimp -implicitDefEqProofs (maxSteps:=5000000) only [ht,hc,h3,n1,n2,hd,h4,h5,DH,go_sem,simprocAttr]
   refine Ki hn ?_
   simp +contextual -dsimp -implicitDefEqProofs (maxSteps:=5000000) only [h5,h4,go_sem,simprocAttr]
   simp only [oM,cO,oWs,oSs,oEs,Ba,AE,BC,htr,if_true,List.map_set,List.map_append,Gp,DH]
   rfl
  ·have hn:=RO (i+(20 - 1)) m ((m.words.a0.map (As (IntKind.wrap .i64 (s.id+1)))).map eW) ((m.words.a1.map (As (IntKind.wrap .i64 (s.id+1)))).map eW) ((m.words.a2.map (As (IntKind.wrap .i64 (s.id+1)))).map eW) ((m.words.a3.map (As (IntKind.wrap .i64 (s.id+1)))).map eW)
    ((m.sess.map oS).set k (oS (Gp s result told))) k 6 result htr
   simp only [Nat.add_assoc,Nat.reduceAdd,Nat.reduceSub] at hd hn
   refine Ac rfl 0 (by rfl) ?_
   delta vO
   simp +contextual -dsimp -implicitDefEqProofs (maxSteps:=5000000) only [ht,hc,h3,n1,n2,hd,h4,h5,DH,go_sem,simprocAttr]
   refine Ki hn ?_
   simp +contextual -dsimp -implicitDefEqProofs (maxSteps:=5000000) only [h5,h4,go_sem,simprocAttr]
   simp only [oM,cO,oWs,oSs,oEs,Ba,AE,BC,htr,if_false,List.map_set,Gp,DH]
   rfl
end Ve
namespace Ve
open Go Ve.Ab
set_option maxHeartbeats 16000000
set_option maxRecDepth 100000
@[go_sem] theorem r_there (i:Nat) (a b c d na nb nc nd:Bool) (w0 w1 w2 w3:List Ap) (l x:Int):Aa (Lv ctx (i+3)) 140 [.agg [.isl a na 3 (w0.map eW),.isl b nb 3 (w1.map eW),.isl c nc 3 (w2.map eW),.isl d nd 3 (w3.map eW)],iV l,iV x]=some (bV (Bb ⟨w0,w1,w2,w3⟩ l x)):=by
 rcases Bm l with rfl | rfl | rfl | rfl | h<;>refine Ac rfl 0 (by rfl) ?_<;>delta c140
 case inr.inr.inr.inr=>simp +contextual -dsimp -implicitDefEqProofs (maxSteps:=5000000) only [Bb,h,go_sem,simprocAttr]
 all_goals simp +contextual -dsimp -implicitDefEqProofs (maxSteps:=5000000) only [Bb,A4.get,go_sem,simprocAttr]
@[go_sem] theorem r_regsMay (i:Nat) (a b c d:Int):Aa (Lv ctx (i+3)) 101 [.agg [iV a,iV b,iV c,iV d]]=some (bV (DX 255 a b c d)):=by
 refine Ac rfl 5 (by rfl) ?_
 delta c101
 simp +contextual -dsimp -implicitDefEqProofs (maxSteps:=5000000) only [gLs,↓Ah (oW.eq_1),DX,go_sem,simprocAttr]
 cases inR a 255<;>cases inR b 255<;>cases inR c 255<;>cases inR d 255<;>simp_all
theorem Qx (i k:Nat) (xs:List AN) (hx:xs.length≤BB) (pf nn:Bool) (pa b c d na nb nc nd:Bool) (w0 w1 w2 w3:List Ap) (q:Out→St→Option Ans) (Q:V→Hp→Nat→Prop) (u:Dum (fun s q=>evC ctx (Lv ctx (i+3)) (Aa (Lv ctx (i+3))) k MG s (Al [1,2,5] q))) (w:Dum q):∀ (suf pre:List AN) (kk:Nat),xs=pre++suf→suf.length<kk →
  GL 0 [1,2,5] (fun s q=>evC ctx (Lv ctx (i+3)) (Aa (Lv ctx (i+3))) k MG s (Al [1,2,5] q)) q kk ⟨Ae [1,2,5] [.isl pf nn 3 (xs.map eR),.ip (pa&&(b&&(c&&d))) [.isl pa na 3 (w0.map eW),.isl b nb 3 (w1.map eW),.isl c nc 3 (w2.map eW),.isl d nd 3 (w3.map eW)] 0,iV pre.length],Af,0⟩ Q u w=Fw (suf.all fun a=>Bb ⟨w0,w1,w2,w3⟩ a.level a.index) (Fin (q (.exit 0) ⟨Ae [] [],Af,0⟩) Q) (Fin (q .ret ⟨Ae [4] [bV false],Af,0⟩) Q)
 | [],pre,kk,hxs,hk=>by
  obtain ⟨kk,rfl⟩:∃ m,kk=m+1:=⟨kk - 1,by simp at hk;omega⟩
  have h1:decide ((pre.length:Int)<(xs).length)=false:=by simp [hxs]
  simp +contextual -dsimp -implicitDefEqProofs (maxSteps:=5000000) only [gLs,↓Ah (MG.eq_1),h1,Bn,List.all_nil,go_sem,simprocAttr]
 | a::suf,pre,kk,hxs,hk=>by
  obtain ⟨kk,rfl⟩:∃ m,kk=m+1:=⟨kk - 1,by simp at hk;omega⟩
  have hl:pre.length<(xs).length:=by simp [hxs]
  have h2:((pre.length:Int)<(xs).length)=True:=by simpa using hl
  have h3:(0≤(pre.length:Int))=True:=by simp
  have h4:=wrN pre.length (by have:=hx;omega)
  have hg:(xs)[pre.length]?=some a:=by simp [hxs]
  have hmem:a∈xs:=by simp [hxs]
  have ih:=Qx i k xs hx pf nn pa b c d na nb nc nd w0 w1 w2 w3 q Q u w suf (pre++[a]) kk (by simp [hxs]) (by simpa using hk)
  rw [Ag] at ih
  simp only [List.all_cons]
  cases hb:(Bb ⟨w0,w1,w2,w3⟩ a.level a.index)
  ·rw [Bool.false_and]
   repeat simp +contextual -dsimp -implicitDefEqProofs (maxSteps:=5000000) only [gLs,↓Ah (MG.eq_1),h2,h3,h4,hg,hb,AB,go_sem,simprocAttr]
  ·rw [Bool.true_and]
   repeat simp +contextual -dsimp -implicitDefEqProofs (maxSteps:=5000000) only [gLs,↓Ah (MG.eq_1),h2,h3,h4,hg,hb,ih,go_sem,simprocAttr]
theorem On (i:Nat) (pf nn:Bool) (xs:List AN) (hx:xs.length≤BB) (a b c d na nb nc nd:Bool) (w0 w1 w2 w3:List Ap):Aa (Lv ctx (i+4)) 141 [.agg [.isl a na 3 (w0.map eW),.isl b nb 3 (w1.map eW),.isl c nc 3 (w2.map eW),.isl d nd 3 (w3.map eW)],.isl pf nn 3 (xs.map eR)]=some (bV (AJ ⟨w0,w1,w2,w3⟩ xs)):=by
 refine Ac rfl (xs.length+1) (by rfl) ?_
 delta c141
 have h2:=fun q Q u w=>Qx i (xs.length+1) xs hx pf nn a b c d na nb nc nd w0 w1 w2 w3 q Q u w xs [] (xs.length+1) rfl (by omega)
 simp only [List.length_nil,Int.natCast_zero] at h2
 simp +contextual -dsimp -implicitDefEqProofs (maxSteps:=5000000) only [AJ,go_sem,simprocAttr]
 refine Eq.mpr (h2 _ _ _ _) ?_
 cases hb:(xs.all fun a=>Bb ⟨w0,w1,w2,w3⟩ a.level a.index)<;>simp +contextual -dsimp -implicitDefEqProofs (maxSteps:=5000000) only [Bn,AB,go_sem,simprocAttr]
theorem Qw (i k:Nat) (ps:Bool) (s:Ai) (hs:SmS s) (pa b c d na nb nc nd:Bool) (w0 w1 w2 w3:List Ap) (q:Out→St→Option Ans) (Q:V→Hp→Nat→Prop) (u:Dum (fun s q=>evC ctx (Lv ctx (i+4)) (Aa (Lv ctx (i+4))) k KS s (Al [2,3,5] q))) (w:Dum q):∀ (suf pre:List AI) (kk:Nat),s.prog=pre++suf→suf.length<kk →
  GL 0 [2,3,5] (fun s q=>evC ctx (Lv ctx (i+4)) (Aa (Lv ctx (i+4))) k KS s (Al [2,3,5] q)) q kk ⟨Ae [2,3,5] [.ip (pa&&(b&&(c&&d))) [.isl pa na 3 (w0.map eW),.isl b nb 3 (w1.map eW),.isl c nc 3 (w2.map eW),.isl d nd 3 (w3.map eW)] 0,.ip ps [iV s.id,iV s.label,iV s.clear,eIs ps s.prog,iV s.step,iV s.pc,iV s.regs.a0,iV s.regs.a1,iV s.regs.a2,iV s.regs.a3,eRs ps s.reads,mE ps s.writes,iV s.at_,iV s.stamp,iV s.tries,iV s.result,iV s.told] 0,iV pre.length],Af,0⟩ Q u w=Fw (suf.all fun a=>!(HJ a.code)||Bb ⟨w0,w1,w2,w3⟩ a.b a.c) (Fin (q (.exit 0) ⟨Ae [2,3] [.ip (pa&&(b&&(c&&d))) [.isl pa na 3 (w0.map eW),.isl b nb 3 (w1.map eW),.isl c nc 3 (w2.map eW),.isl d nd 3 (w3.map eW)] 0,.ip ps [iV s.id,iV s.label,iV s.clear,eIs ps s.prog,iV s.step,iV s.pc,iV s.regs.a0,iV s.regs.a1,iV s.regs.a2,iV s.regs.a3,eRs ps s.reads,mE ps s.writes,iV s.at_,iV s.stamp,iV s.tries,iV s.result,iV s.told] 0],Af,0⟩) Q) (Fin (q .ret ⟨Ae [4] [bV false],Af,0⟩) Q)
 | [],pre,kk,hxs,hk=>by
  obtain ⟨kk,rfl⟩:∃ m,kk=m+1:=⟨kk - 1,by simp at hk;omega⟩
  have h1:decide ((pre.length:Int)<(s.prog).length)=false:=by simp [hxs]
  simp +contextual -dsimp -implicitDefEqProofs (maxSteps:=5000000) only [gLs,↓Ah (KS.eq_1),h1,Bn,List.all_nil,go_sem,simprocAttr]
 | a::suf,pre,kk,hxs,hk=>by
  obtain ⟨kk,rfl⟩:∃ m,kk=m+1:=⟨kk - 1,by simp at hk;omega⟩
  have hl:pre.length<(s.prog).length:=by simp [hxs]
  have h2:((pre.length:Int)<(s.prog).length)=True:=by simpa using hl
  have h3:(0≤(pre.length:Int))=True:=by simp
  have h4:=wrN pre.length (by have:=hs.p;omega)
  have hg:(s.prog)[pre.length]?=some a:=by simp [hxs]
  have hmem:a∈s.prog:=by simp [hxs]
  have hw:(decide (a.code=2)||decide (a.code=3))=HJ a.code:=(rfl)
  have ih:=Qw i k ps s hs pa b c d na nb nc nd w0 w1 w2 w3 q Q u w suf (pre++[a]) kk (by simp [hxs]) (by simpa using hk)
  rw [Ag] at ih
  simp only [List.all_cons]
  cases hwi:HJ a.code
  ·rw [show (!false||Bb ⟨w0,w1,w2,w3⟩ a.b a.c)=true from rfl,Bool.true_and]
   simp +contextual -dsimp -implicitDefEqProofs (maxSteps:=5000000) only [gLs,↓Ah (KS.eq_1),h2,h3,h4,hg,hw,hwi,ih,go_sem,simprocAttr]
  ·rw [show (!true||Bb ⟨w0,w1,w2,w3⟩ a.b a.c)=Bb ⟨w0,w1,w2,w3⟩ a.b a.c from rfl]
   cases hb:Bb ⟨w0,w1,w2,w3⟩ a.b a.c
   ·rw [Bool.false_and]
    simp +contextual -dsimp -implicitDefEqProofs (maxSteps:=5000000) only [gLs,↓Ah (KS.eq_1),h2,h3,h4,hg,hw,hwi,hb,AB,go_sem,simprocAttr]
   ·rw [Bool.true_and]
    simp +contextual -dsimp -implicitDefEqProofs (maxSteps:=5000000) only [gLs,↓Ah (KS.eq_1),h2,h3,h4,hg,hw,hwi,hb,ih,go_sem,simprocAttr]
theorem Qv (i k:Nat) (ps:Bool) (s:Ai) (hs:SmS s) (pa b c d na nb nc nd:Bool) (w0 w1 w2 w3:List Ap) (q:Out→St→Option Ans) (Q:V→Hp→Nat→Prop) (u:Dum (fun s q=>evC ctx (Lv ctx (i+4)) (Aa (Lv ctx (i+4))) k MH s (Al [2,3,7] q))) (w:Dum q):∀ (suf pre:List Ao) (kk:Nat),s.writes=pre++suf→suf.length<kk →
  GL 0 [2,3,7] (fun s q=>evC ctx (Lv ctx (i+4)) (Aa (Lv ctx (i+4))) k MH s (Al [2,3,7] q)) q kk ⟨Ae [2,3,7] [.ip (pa&&(b&&(c&&d))) [.isl pa na 3 (w0.map eW),.isl b nb 3 (w1.map eW),.isl c nc 3 (w2.map eW),.isl d nd 3 (w3.map eW)] 0,.ip ps [iV s.id,iV s.label,iV s.clear,eIs ps s.prog,iV s.step,iV s.pc,iV s.regs.a0,iV s.regs.a1,iV s.regs.a2,iV s.regs.a3,eRs ps s.reads,mE ps s.writes,iV s.at_,iV s.stamp,iV s.tries,iV s.result,iV s.told] 0,iV pre.length],Af,0⟩ Q u w=Fw (suf.all fun a=>Bb ⟨w0,w1,w2,w3⟩ a.level a.index) (Fin (q (.exit 2) ⟨Ae [2,3] [.ip (pa&&(b&&(c&&d))) [.isl pa na 3 (w0.map eW),.isl b nb 3 (w1.map eW),.isl c nc 3 (w2.map eW),.isl d nd 3 (w3.map eW)] 0,.ip ps [iV s.id,iV s.label,iV s.clear,eIs ps s.prog,iV s.step,iV s.pc,iV s.regs.a0,iV s.regs.a1,iV s.regs.a2,iV s.regs.a3,eRs ps s.reads,mE ps s.writes,iV s.at_,iV s.stamp,iV s.tries,iV s.result,iV s.told] 0],Af,0⟩) Q) (Fin (q .ret ⟨Ae [4] [bV false],Af,0⟩) Q)
 | [],pre,kk,hxs,hk=>by
  obtain ⟨kk,rfl⟩:∃ m,kk=m+1:=⟨kk - 1,by simp at hk;omega⟩
  have h1:decide ((pre.length:Int)<(s.writes).length)=false:=by simp [hxs]
  simp +contextual -dsimp -implicitDefEqProofs (maxSteps:=5000000) only [gLs,↓Ah (MH.eq_1),h1,Bn,List.all_nil,go_sem,simprocAttr]
 | a::suf,pre,kk,hxs,hk=>by
  obtain ⟨kk,rfl⟩:∃ m,kk=m+1:=⟨kk - 1,by simp at hk;omega⟩
  have hl:pre.length<(s.writes).length:=by simp [hxs]
  have h2:((pre.length:Int)<(s.writes).length)=True:=by simpa using hl
  have h3:(0≤(pre.length:Int))=True:=by simp
  have h4:=wrN pre.length (by have:=hs.w;omega)
  have hg:(s.writes)[pre.length]?=some a:=by simp [hxs]
  have hmem:a∈s.writes:=by simp [hxs]
  have ih:=Qv i k ps s hs pa b c d na nb nc nd w0 w1 w2 w3 q Q u w suf (pre++[a]) kk (by simp [hxs]) (by simpa using hk)
  rw [Ag] at ih
  simp only [List.all_cons]
  cases hb:(Bb ⟨w0,w1,w2,w3⟩ a.level a.index)
  ·rw [Bool.false_and]
   repeat simp +contextual -dsimp -implicitDefEqProofs (maxSteps:=5000000) only [gLs,↓Ah (MH.eq_1),h2,h3,h4,hg,hb,AB,go_sem,simprocAttr]
  ·rw [Bool.true_and]
   repeat simp +contextual -dsimp -implicitDefEqProofs (maxSteps:=5000000) only [gLs,↓Ah (MH.eq_1),h2,h3,h4,hg,hb,ih,go_sem,simprocAttr]
theorem rQ (i:Nat) (ps:Bool) (s:Ai) (hs:SmS s) (a b c d na nb nc nd:Bool) (w0 w1 w2 w3:List Ap):Aa (Lv ctx (i+5)) 100 [.agg [.isl a na 3 (w0.map eW),.isl b nb 3 (w1.map eW),.isl c nc 3 (w2.map eW),.isl d nd 3 (w3.map eW)],eS ps s]=some (bV (Er ⟨w0,w1,w2,w3⟩ s.prog&&CC ⟨w0,w1,w2,w3⟩ s.writes&&AJ ⟨w0,w1,w2,w3⟩ s.reads)):=by
 have hr:=On (i+0) ps false s.reads hs.r a b c d na nb nc nd w0 w1 w2 w3
 simp only [Nat.add_assoc,Nat.reduceAdd] at hr
 simp only [eS]
 refine Ac rfl (s.prog.length+s.writes.length+1) (by rfl) ?_
 delta c100
 have h1:=fun q Q u w=>Qw i (s.prog.length+s.writes.length+1) ps s hs a b c d na nb nc nd w0 w1 w2 w3 q Q u w s.prog [] (s.prog.length+s.writes.length+1) rfl (by omega)
 have h2:=fun q Q u w=>Qv i (s.prog.length+s.writes.length+1) ps s hs a b c d na nb nc nd w0 w1 w2 w3 q Q u w s.writes [] (s.prog.length+s.writes.length+1) rfl (by omega)
 simp only [List.length_nil,Int.natCast_zero] at h1 h2
 simp +contextual -dsimp -implicitDefEqProofs (maxSteps:=5000000) only [Bool.and_self,Er,CC,go_sem,simprocAttr]
 refine Eq.mpr (h1 _ _ _ _) ?_
 cases hb:(s.prog.all fun a=>!(HJ a.code)||Bb ⟨w0,w1,w2,w3⟩ a.b a.c)
 ·simp +contextual -dsimp -implicitDefEqProofs (maxSteps:=5000000) only [AB,go_sem,simprocAttr]
 ·simp +contextual -dsimp -implicitDefEqProofs (maxSteps:=5000000) only [Bn,go_sem,simprocAttr]
  refine Eq.mpr (h2 _ _ _ _) ?_
  cases hb':(s.writes.all fun a=>Bb ⟨w0,w1,w2,w3⟩ a.level a.index)<;>simp +contextual -dsimp -implicitDefEqProofs (maxSteps:=5000000) only [Bn,AB,hr,go_sem,simprocAttr]
end Ve
namespace Ve
open Go Ve.Ab
set_option maxHeartbeats 16000000
set_option maxRecDepth 10000
def FX:Nat→List Ap→Bool
 | _,[]=>true
 | j,a::r=>decide (j<4)&&AO a&&FX (j+1) r
theorem TC:∀ (r:List Ap) (j:Nat),j≤4→FX j r=(decide (j+r.length≤4)&&r.all AO)
 | [],j,h=>by simp [FX,h]
 | a::r,j,h=>by
  simp only [FX,List.all_cons,List.length_cons]
  by_cases hj:j<4
  ·rw [TC r (j+1) (by omega)]
   have:decide (j+1+r.length≤4)=decide (j+(r.length+1)≤4):=by apply decide_eq_decide.mpr;omega
   simp only [hj,decide_true,Bool.true_and,this]
   cases AO a<;>simp
  ·have:decide (j+(r.length+1)≤4)=false:=by simp;omega
   simp [hj,this]
theorem bN (ws:List Ap):FX 0 ws=Cv ws:=by rw [TC ws 0 (by omega),Cv];simp
theorem QD (i k:Nat) (pa b c d na nb nc nd:Bool) (w0 w1 w2 w3:List Ap) (hx:w0.length≤BB) (q:Out→St→Option Ans) (Q:V→Hp→Nat→Prop) (u:Dum (fun s q=>evC ctx (Lv ctx (i+3)) (Aa (Lv ctx (i+3))) k DJ s (Al [1,3,4] q))) (w:Dum q):∀ (suf pre:List Ap) (kk:Nat),w0=pre++suf→suf.length<kk →
  GL 0 [1,3,4] (fun s q=>evC ctx (Lv ctx (i+3)) (Aa (Lv ctx (i+3))) k DJ s (Al [1,3,4] q)) q kk ⟨Ae [1,3,4] [.ip (pa&&(b&&(c&&d))) [.isl pa na 3 (w0.map eW),.isl b nb 3 (w1.map eW),.isl c nc 3 (w2.map eW),.isl d nd 3 (w3.map eW)] 0,iV 0,iV pre.length],Af,0⟩ Q u w=Fw (FX pre.length suf) (Fin (q (.exit 2) ⟨Ae [1,3] [.ip (pa&&(b&&(c&&d))) [.isl pa na 3 (w0.map eW),.isl b nb 3 (w1.map eW),.isl c nc 3 (w2.map eW),.isl d nd 3 (w3.map eW)] 0,iV 0],Af,0⟩) Q) (Fin (q .ret ⟨Ae [2] [bV false],Af,0⟩) Q)
 | [],pre,kk,hxs,hk=>by
  obtain ⟨kk,rfl⟩:∃ m,kk=m+1:=⟨kk - 1,by simp at hk;omega⟩
  have h1:decide ((pre.length:Int)<w0.length)=false:=by simp [hxs]
  simp +contextual -dsimp -implicitDefEqProofs (maxSteps:=5000000) only [gLs,↓Ah (DJ.eq_1),h1,Bn,FX,go_sem,simprocAttr]
 | a::suf,pre,kk,hxs,hk=>by
  obtain ⟨kk,rfl⟩:∃ m,kk=m+1:=⟨kk - 1,by simp at hk;omega⟩
  have hl:pre.length<w0.length:=by simp [hxs]
  have h2:((pre.length:Int)<w0.length)=True:=by simpa using hl
  have h3:(0≤(pre.length:Int))=True:=by simp
  have h4:=wrN pre.length (by omega)
  have hg:w0[pre.length]?=some a:=by simp [hxs]
  have ih:=QD i k pa b c d na nb nc nd w0 w1 w2 w3 hx q Q u w suf (pre++[a]) kk (by simp [hxs]) (by simpa using hk)
  rw [Ag] at ih
  simp only [FX]
  by_cases hj:pre.length<4
  ·have h5:decide ((4:Int)≤(pre.length:Int))=false:=by simp;omega
   have h6:decide (pre.length<4)=true:=by simpa using hj
   cases hb:AO a
   ·rw [h6,Bool.true_and,Bool.false_and]
    simp +contextual -dsimp -implicitDefEqProofs (maxSteps:=5000000) only [gLs,↓Ah (DJ.eq_1),h2,h3,h4,h5,hg,hb,AB,go_sem,simprocAttr]
   ·rw [h6,Bool.true_and,Bool.true_and]
    simp +contextual -dsimp -implicitDefEqProofs (maxSteps:=5000000) only [gLs,↓Ah (DJ.eq_1),h2,h3,h4,h5,hg,hb,ih,go_sem,simprocAttr]
  ·have h5:decide ((4:Int)≤(pre.length:Int))=true:=by simp;omega
   have h6:decide (pre.length<4)=false:=by simpa using hj
   rw [h6,Bool.false_and,Bool.false_and]
   simp +contextual -dsimp -implicitDefEqProofs (maxSteps:=5000000) only [gLs,↓Ah (DJ.eq_1),h2,h3,h4,h5,hg,AB,go_sem,simprocAttr]
theorem QC (i k:Nat) (pa b c d na nb nc nd:Bool) (w0 w1 w2 w3:List Ap) (hx:w1.length≤BB) (q:Out→St→Option Ans) (Q:V→Hp→Nat→Prop) (u:Dum (fun s q=>evC ctx (Lv ctx (i+3)) (Aa (Lv ctx (i+3))) k DJ s (Al [1,3,4] q))) (w:Dum q):∀ (suf pre:List Ap) (kk:Nat),w1=pre++suf→suf.length<kk →
  GL 0 [1,3,4] (fun s q=>evC ctx (Lv ctx (i+3)) (Aa (Lv ctx (i+3))) k DJ s (Al [1,3,4] q)) q kk ⟨Ae [1,3,4] [.ip (pa&&(b&&(c&&d))) [.isl pa na 3 (w0.map eW),.isl b nb 3 (w1.map eW),.isl c nc 3 (w2.map eW),.isl d nd 3 (w3.map eW)] 0,iV 1,iV pre.length],Af,0⟩ Q u w=Fw (FX pre.length suf) (Fin (q (.exit 2) ⟨Ae [1,3] [.ip (pa&&(b&&(c&&d))) [.isl pa na 3 (w0.map eW),.isl b nb 3 (w1.map eW),.isl c nc 3 (w2.map eW),.isl d nd 3 (w3.map eW)] 0,iV 1],Af,0⟩) Q) (Fin (q .ret ⟨Ae [2] [bV false],Af,0⟩) Q)
 | [],pre,kk,hxs,hk=>by
  obtain ⟨kk,rfl⟩:∃ m,kk=m+1:=⟨kk - 1,by simp at hk;omega⟩
  have h1:decide ((pre.length:Int)<w1.length)=false:=by simp [hxs]
  simp +contextual -dsimp -implicitDefEqProofs (maxSteps:=5000000) only [gLs,↓Ah (DJ.eq_1),h1,Bn,FX,go_sem,simprocAttr]
 | a::suf,pre,kk,hxs,hk=>by
  obtain ⟨kk,rfl⟩:∃ m,kk=m+1:=⟨kk - 1,by simp at hk;omega⟩
  have hl:pre.length<w1.length:=by simp [hxs]
  have h2:((pre.length:Int)<w1.length)=True:=by simpa using hl
  have h3:(0≤(pre.length:Int))=True:=by simp
  have h4:=wrN pre.length (by omega)
  have hg:w1[pre.length]?=some a:=by simp [hxs]
  have ih:=QC i k pa b c d na nb nc nd w0 w1 w2 w3 hx q Q u w suf (pre++[a]) kk (by simp [hxs]) (by simpa using hk)
  rw [Ag] at ih
  simp only [FX]
  by_cases hj:pre.length<4
  ·have h5:decide ((4:Int)≤(pre.length:Int))=false:=by simp;omega
   have h6:decide (pre.length<4)=true:=by simpa using hj
   cases hb:AO a
   ·rw [h6,Bool.true_and,Bool.false_and]
    simp +contextual -dsimp -implicitDefEqProofs (maxSteps:=5000000) only [gLs,↓Ah (DJ.eq_1),h2,h3,h4,h5,hg,hb,AB,go_sem,simprocAttr]
   ·rw [h6,Bool.true_and,Bool.true_and]
    simp +contextual -dsimp -implicitDefEqProofs (maxSteps:=5000000) only [gLs,↓Ah (DJ.eq_1),h2,h3,h4,h5,hg,hb,ih,go_sem,simprocAttr]
  ·have h5:decide ((4:Int)≤(pre.length:Int))=true:=by simp;omega
   have h6:decide (pre.length<4)=false:=by simpa using hj
   rw [h6,Bool.false_and,Bool.false_and]
   simp +contextual -dsimp -implicitDefEqProofs (maxSteps:=5000000) only [gLs,↓Ah (DJ.eq_1),h2,h3,h4,h5,hg,AB,go_sem,simprocAttr]
theorem QB (i k:Nat) (pa b c d na nb nc nd:Bool) (w0 w1 w2 w3:List Ap) (hx:w2.length≤BB) (q:Out→St→Option Ans) (Q:V→Hp→Nat→Prop) (u:Dum (fun s q=>evC ctx (Lv ctx (i+3)) (Aa (Lv ctx (i+3))) k DJ s (Al [1,3,4] q))) (w:Dum q):∀ (suf pre:List Ap) (kk:Nat),w2=pre++suf→suf.length<kk →
  GL 0 [1,3,4] (fun s q=>evC ctx (Lv ctx (i+3)) (Aa (Lv ctx (i+3))) k DJ s (Al [1,3,4] q)) q kk ⟨Ae [1,3,4] [.ip (pa&&(b&&(c&&d))) [.isl pa na 3 (w0.map eW),.isl b nb 3 (w1.map eW),.isl c nc 3 (w2.map eW),.isl d nd 3 (w3.map eW)] 0,iV 2,iV pre.length],Af,0⟩ Q u w=Fw (FX pre.length suf) (Fin (q (.exit 2) ⟨Ae [1,3] [.ip (pa&&(b&&(c&&d))) [.isl pa na 3 (w0.map eW),.isl b nb 3 (w1.map eW),.isl c nc 3 (w2.map eW),.isl d nd 3 (w3.map eW)] 0,iV 2],Af,0⟩) Q) (Fin (q .ret ⟨Ae [2] [bV false],Af,0⟩) Q)
 | [],pre,kk,hxs,hk=>by
  obtain ⟨kk,rfl⟩:∃ m,kk=m+1:=⟨kk - 1,by simp at hk;omega⟩
  have h1:decide ((pre.length:Int)<w2.length)=false:=by simp [hxs]
  simp +contextual -dsimp -implicitDefEqProofs (maxSteps:=5000000) only [gLs,↓Ah (DJ.eq_1),h1,Bn,FX,go_sem,simprocAttr]
 | a::suf,pre,kk,hxs,hk=>by
  obtain ⟨kk,rfl⟩:∃ m,kk=m+1:=⟨kk - 1,by simp at hk;omega⟩
  have hl:pre.length<w2.length:=by simp [hxs]
  have h2:((pre.length:Int)<w2.length)=True:=by simpa using hl
  have h3:(0≤(pre.length:Int))=True:=by simp
  have h4:=wrN pre.length (by omega)
  have hg:w2[pre.length]?=some a:=by simp [hxs]
  have ih:=QB i k pa b c d na nb nc nd w0 w1 w2 w3 hx q Q u w suf (pre++[a]) kk (by simp [hxs]) (by simpa using hk)
  rw [Ag] at ih
  simp only [FX]
  by_cases hj:pre.length<4
  ·have h5:decide ((4:Int)≤(pre.length:Int))=false:=by simp;omega
   have h6:decide (pre.length<4)=true:=by simpa using hj
   cases hb:AO a
   ·rw [h6,Bool.true_and,Bool.false_and]
    simp +contextual -dsimp -implicitDefEqProofs (maxSteps:=5000000) only [gLs,↓Ah (DJ.eq_1),h2,h3,h4,h5,hg,hb,AB,go_sem,simprocAttr]
   ·rw [h6,Bool.true_and,Bool.true_and]
    simp +contextual -dsimp -implicitDefEqProofs (maxSteps:=5000000) only [gLs,↓Ah (DJ.eq_1),h2,h3,h4,h5,hg,hb,ih,go_sem,simprocAttr]
  ·have h5:decide ((4:Int)≤(pre.length:Int))=true:=by simp;omega
   have h6:decide (pre.length<4)=false:=by simpa using hj
   rw [h6,Bool.false_and,Bool.false_and]
   simp +contextual -dsimp -implicitDefEqProofs (maxSteps:=5000000) only [gLs,↓Ah (DJ.eq_1),h2,h3,h4,h5,hg,AB,go_sem,simprocAttr]
theorem QA (i k:Nat) (pa b c d na nb nc nd:Bool) (w0 w1 w2 w3:List Ap) (hx:w3.length≤BB) (q:Out→St→Option Ans) (Q:V→Hp→Nat→Prop) (u:Dum (fun s q=>evC ctx (Lv ctx (i+3)) (Aa (Lv ctx (i+3))) k DJ s (Al [1,3,4] q))) (w:Dum q):∀ (suf pre:List Ap) (kk:Nat),w3=pre++suf→suf.length<kk →
  GL 0 [1,3,4] (fun s q=>evC ctx (Lv ctx (i+3)) (Aa (Lv ctx (i+3))) k DJ s (Al [1,3,4] q)) q kk ⟨Ae [1,3,4] [.ip (pa&&(b&&(c&&d))) [.isl pa na 3 (w0.map eW),.isl b nb 3 (w1.map eW),.isl c nc 3 (w2.map eW),.isl d nd 3 (w3.map eW)] 0,iV 3,iV pre.length],Af,0⟩ Q u w=Fw (FX pre.length suf) (Fin (q (.exit 2) ⟨Ae [1,3] [.ip (pa&&(b&&(c&&d))) [.isl pa na 3 (w0.map eW),.isl b nb 3 (w1.map eW),.isl c nc 3 (w2.map eW),.isl d nd 3 (w3.map eW)] 0,iV 3],Af,0⟩) Q) (Fin (q .ret ⟨Ae [2] [bV false],Af,0⟩) Q)
 | [],pre,kk,hxs,hk=>by
  obtain ⟨kk,rfl⟩:∃ m,kk=m+1:=⟨kk - 1,by simp at hk;omega⟩
  have h1:decide ((pre.length:Int)<w3.length)=false:=by simp [hxs]
  simp +contextual -dsimp -implicitDefEqProofs (maxSteps:=5000000) only [gLs,↓Ah (DJ.eq_1),h1,Bn,FX,go_sem,simprocAttr]
 | a::suf,pre,kk,hxs,hk=>by
  obtain ⟨kk,rfl⟩:∃ m,kk=m+1:=⟨kk - 1,by simp at hk;omega⟩
  have hl:pre.length<w3.length:=by simp [hxs]
  have h2:((pre.length:Int)<w3.length)=True:=by simpa using hl
  have h3:(0≤(pre.length:Int))=True:=by simp
  have h4:=wrN pre.length (by omega)
  have hg:w3[pre.length]?=some a:=by simp [hxs]
  have ih:=QA i k pa b c d na nb nc nd w0 w1 w2 w3 hx q Q u w suf (pre++[a]) kk (by simp [hxs]) (by simpa using hk)
  rw [Ag] at ih
  simp only [FX]
  by_cases hj:pre.length<4
  ·have h5:decide ((4:Int)≤(pre.length:Int))=false:=by simp;omega
   have h6:decide (pre.length<4)=true:=by simpa using hj
   cases hb:AO a
   ·rw [h6,Bool.true_and,Bool.false_and]
    simp +contextual -dsimp -implicitDefEqProofs (maxSteps:=5000000) only [gLs,↓Ah (DJ.eq_1),h2,h3,h4,h5,hg,hb,AB,go_sem,simprocAttr]
   ·rw [h6,Bool.true_and,Bool.true_and]
    simp +contextual -dsimp -implicitDefEqProofs (maxSteps:=5000000) only [gLs,↓Ah (DJ.eq_1),h2,h3,h4,h5,hg,hb,ih,go_sem,simprocAttr]
  ·have h5:decide ((4:Int)≤(pre.length:Int))=true:=by simp;omega
   have h6:decide (pre.length<4)=false:=by simpa using hj
   rw [h6,Bool.false_and,Bool.false_and]
   simp +contextual -dsimp -implicitDefEqProofs (maxSteps:=5000000) only [gLs,↓Ah (DJ.eq_1),h2,h3,h4,h5,hg,AB,go_sem,simprocAttr]
theorem RX (i:Nat) (a b c d na nb nc nd:Bool) (w0 w1 w2 w3:List Ap) (h0:w0.length≤BB) (h1:w1.length≤BB) (h2:w2.length≤BB) (h3:w3.length≤BB):Aa (Lv ctx (i+4)) 67 [.agg [.isl a na 3 (w0.map eW),.isl b nb 3 (w1.map eW),.isl c nc 3 (w2.map eW),.isl d nd 3 (w3.map eW)]]=some (bV (AT ⟨w0,w1,w2,w3⟩)):=by
 refine Ac rfl (w0.length+w1.length+w2.length+w3.length+5) (by rfl) ?_
 delta c67
 have l0:=fun q Q u w=>QD i (w0.length+w1.length+w2.length+w3.length+5) a b c d na nb nc nd w0 w1 w2 w3 h0 q Q u w w0 [] (w0.length+w1.length+w2.length+w3.length+5) rfl (by omega)
 have l1:=fun q Q u w=>QC i (w0.length+w1.length+w2.length+w3.length+5) a b c d na nb nc nd w0 w1 w2 w3 h1 q Q u w w1 [] (w0.length+w1.length+w2.length+w3.length+5) rfl (by omega)
 have l2:=fun q Q u w=>QB i (w0.length+w1.length+w2.length+w3.length+5) a b c d na nb nc nd w0 w1 w2 w3 h2 q Q u w w2 [] (w0.length+w1.length+w2.length+w3.length+5) rfl (by omega)
 have l3:=fun q Q u w=>QA i (w0.length+w1.length+w2.length+w3.length+5) a b c d na nb nc nd w0 w1 w2 w3 h3 q Q u w w3 [] (w0.length+w1.length+w2.length+w3.length+5) rfl (by omega)
 simp only [List.length_nil,Int.natCast_zero,bN] at l0 l1 l2 l3
 have ho:=fun q k s Q u w=>gLs 0 [1,3] (fun s q=>evC ctx (Lv ctx (i+3)) (Aa (Lv ctx (i+3))) (w0.length+w1.length+w2.length+w3.length+5) Po s (Al [1,3] q)) q k s Q u w
 simp +contextual -dsimp -implicitDefEqProofs (maxSteps:=5000000) only [ho,↓Ah (Po.eq_1),AT,A4.all,go_sem,simprocAttr]
 refine Eq.mpr (l0 _ _ _ _) ?_
 cases r0:Cv w0
 ·simp +contextual -dsimp -implicitDefEqProofs (maxSteps:=5000000) only [AB,go_sem,simprocAttr]
 ·simp +contextual -dsimp -implicitDefEqProofs (maxSteps:=5000000) only [Bn,ho,↓Ah (Po.eq_1),go_sem,simprocAttr]
  refine Eq.mpr (l1 _ _ _ _) ?_
  cases r1:Cv w1
  ·simp +contextual -dsimp -implicitDefEqProofs (maxSteps:=5000000) only [AB,go_sem,simprocAttr]
  ·simp +contextual -dsimp -implicitDefEqProofs (maxSteps:=5000000) only [Bn,ho,↓Ah (Po.eq_1),go_sem,simprocAttr]
   refine Eq.mpr (l2 _ _ _ _) ?_
   cases r2:Cv w2
   ·simp +contextual -dsimp -implicitDefEqProofs (maxSteps:=5000000) only [AB,go_sem,simprocAttr]
   ·simp +contextual -dsimp -implicitDefEqProofs (maxSteps:=5000000) only [Bn,ho,↓Ah (Po.eq_1),go_sem,simprocAttr]
    refine Eq.mpr (l3 _ _ _ _) ?_
    cases r3:Cv w3
    ·simp +contextual -dsimp -implicitDefEqProofs (maxSteps:=5000000) only [AB,go_sem,simprocAttr]
    ·simp +contextual -dsimp -implicitDefEqProofs (maxSteps:=5000000) only [Bn,ho,↓Ah (Po.eq_1),go_sem,simprocAttr]
theorem Qz (i k:Nat) (pf nn:Bool) (xs:List AN) (hx:xs.length≤BB) (pp:List AN) (n:AN) (tl:List AN) (hxs0:xs=pp++n::tl) (q:Out→St→Option Ans) (Q:V→Hp→Nat→Prop) (u:Dum (fun s q=>evC ctx (Lv ctx (i+3)) (Aa (Lv ctx (i+3))) k KR s (Al [0,3,4] q))) (w:Dum q):∀ (suf pre:List AN) (kk:Nat),pp=pre++suf→suf.length<kk →
  GL 0 [0,3,4] (fun s q=>evC ctx (Lv ctx (i+3)) (Aa (Lv ctx (i+3))) k KR s (Al [0,3,4] q)) q kk ⟨Ae [0,3,4] [.isl pf nn 3 (xs.map eR),iV pp.length,iV pre.length],Af,0⟩ Q u w=Fw (!(suf.any (Cu n))) (Fin (q (.exit 2) ⟨Ae [0,3] [.isl pf nn 3 (xs.map eR),iV pp.length],Af,0⟩) Q) (Fin (q .ret ⟨Ae [2] [bV false],Af,0⟩) Q)
 | [],pre,kk,hxs,hk=>by
  obtain ⟨kk,rfl⟩:∃ m,kk=m+1:=⟨kk - 1,by simp at hk;omega⟩
  have h1:decide ((pre.length:Int)<pp.length)=false:=by simp [hxs]
  simp +contextual -dsimp -implicitDefEqProofs (maxSteps:=5000000) only [gLs,↓Ah (KR.eq_1),h1,Bn,List.any_nil,go_sem,simprocAttr]
 | a::suf,pre,kk,hxs,hk=>by
  obtain ⟨kk,rfl⟩:∃ m,kk=m+1:=⟨kk - 1,by simp at hk;omega⟩
  have hl:pre.length<pp.length:=by simp [hxs]
  have hl':pp.length<xs.length:=by simp [hxs0]
  have h2:((pre.length:Int)<pp.length)=True:=by simpa using hl
  have h2':((pre.length:Int)<xs.length)=True:=by simp;omega
  have h2n:((pp.length:Int)<xs.length)=True:=by simpa using hl'
  have h3:(0≤(pre.length:Int))=True:=by simp
  have h3':(0≤(pp.length:Int))=True:=by simp
  have h4:=wrN pre.length (by omega)
  have hg:xs[pre.length]?=some a:=by simp [hxs0,hxs]
  have hg':xs[pp.length]?=some n:=by simp [hxs0]
  have ih:=Qz i k pf nn xs hx pp n tl hxs0 q Q u w suf (pre++[a]) kk (by simp [hxs]) (by simpa using hk)
  rw [Ag] at ih
  simp only [List.any_cons,Cu]
  cases c1:decide (a.level=n.level)
  ·simp +contextual -dsimp -implicitDefEqProofs (maxSteps:=5000000) only [gLs,↓Ah (KR.eq_1),h2,h2',h2n,h3,h3',h4,hg,hg',c1,ih,go_sem,simprocAttr]
  ·cases c2:decide (a.index=n.index)
   ·simp +contextual -dsimp -implicitDefEqProofs (maxSteps:=5000000) only [gLs,↓Ah (KR.eq_1),h2,h2',h2n,h3,h3',h4,hg,hg',c1,c2,ih,go_sem,simprocAttr]
   ·simp +contextual -dsimp -implicitDefEqProofs (maxSteps:=5000000) only [gLs,↓Ah (KR.eq_1),h2,h2',h2n,h3,h3',h4,hg,hg',c1,c2,AB,go_sem,simprocAttr]
theorem Qy (i k:Nat) (pf nn:Bool) (xs:List AN) (hx:xs.length≤BB) (hkk:xs.length<k) (q:Out→St→Option Ans) (Q:V→Hp→Nat→Prop) (u:Dum (fun s q=>evC ctx (Lv ctx (i+3)) (Aa (Lv ctx (i+3))) k JQ s (Al [0,3] q))) (w:Dum q):∀ (suf pre:List AN) (kk:Nat),xs=pre++suf→suf.length<kk →
  GL 0 [0,3] (fun s q=>evC ctx (Lv ctx (i+3)) (Aa (Lv ctx (i+3))) k JQ s (Al [0,3] q)) q kk ⟨Ae [0,3] [.isl pf nn 3 (xs.map eR),iV pre.length],Af,0⟩ Q u w=Fw (Ch pre suf) (Fin (q (.exit 0) ⟨Ae [0] [.isl pf nn 3 (xs.map eR)],Af,0⟩) Q) (Fin (q .ret ⟨Ae [2] [bV false],Af,0⟩) Q)
 | [],pre,kk,hxs,hk=>by
  obtain ⟨kk,rfl⟩:∃ m,kk=m+1:=⟨kk - 1,by simp at hk;omega⟩
  have h1:decide ((pre.length:Int)<xs.length)=false:=by simp [hxs]
  simp +contextual -dsimp -implicitDefEqProofs (maxSteps:=5000000) only [gLs,↓Ah (JQ.eq_1),h1,Bn,Ch,go_sem,simprocAttr]
 | a::suf,pre,kk,hxs,hk=>by
  obtain ⟨kk,rfl⟩:∃ m,kk=m+1:=⟨kk - 1,by simp at hk;omega⟩
  have hl:pre.length<xs.length:=by simp [hxs]
  have h2:((pre.length:Int)<xs.length)=True:=by simpa using hl
  have h3:(0≤(pre.length:Int))=True:=by simp
  have h4:=wrN pre.length (by omega)
  have hg:xs[pre.length]?=some a:=by simp [hxs]
  have ih:=Qy i k pf nn xs hx hkk q Q u w suf (pre++[a]) kk (by simp [hxs]) (by simpa using hk)
  rw [Ag] at ih
  have h1:=fun q Q u w=>Qz i k pf nn xs hx pre a suf hxs q Q u w pre [] k rfl (by omega)
  simp only [List.length_nil,Int.natCast_zero] at h1
  cases c1:inR a.level 3
  ·simp +contextual -dsimp -implicitDefEqProofs (maxSteps:=5000000) only [gLs,↓Ah (JQ.eq_1),h2,h3,h4,hg,AB,Ch,CD,c1,go_sem,simprocAttr]
  ·cases c2:inR a.index 3
   ·simp +contextual -dsimp -implicitDefEqProofs (maxSteps:=5000000) only [gLs,↓Ah (JQ.eq_1),h2,h3,h4,hg,AB,Ch,CD,c1,c2,go_sem,simprocAttr]
   ·cases c3:inR a.ver 65535
    ·simp +contextual -dsimp -implicitDefEqProofs (maxSteps:=5000000) only [gLs,↓Ah (JQ.eq_1),h2,h3,h4,hg,AB,Ch,CD,c1,c2,c3,go_sem,simprocAttr]
    ·have hr:Ch pre (a::suf)=(!(pre.any (Cu a))&&Ch (pre++[a]) suf):=by simp only [Ch,CD,c1,c2,c3,Bool.true_and,Bool.and_self]
     rw [hr]
     cases c4:pre.any (Cu a)<;>rw [c4] at h1<;>simp +contextual -dsimp -implicitDefEqProofs (maxSteps:=5000000) only [gLs,↓Ah (JQ.eq_1),h2,h3,h4,hg,c1,c2,c3,h1,Bn,AB,ih,go_sem,simprocAttr]
theorem Li (i:Nat) (pf nn:Bool) (xs:List AN) (hx:xs.length≤BB):Aa (Lv ctx (i+4)) 102 [.isl pf nn 3 (xs.map eR)]=some (bV (AQ xs)):=by
 refine Ac rfl (xs.length+1) (by rfl) ?_
 delta c102
 have h2:=fun q Q u w=>Qy i (xs.length+1) pf nn xs hx (by omega) q Q u w xs [] (xs.length+1) rfl (by omega)
 simp only [List.length_nil,Int.natCast_zero] at h2
 have h5:decide ((xs.length:Int)≤16)=decide (xs.length≤16):=by apply decide_eq_decide.mpr;omega
 simp +contextual -dsimp -implicitDefEqProofs (maxSteps:=5000000) only [AQ,h5,go_sem,simprocAttr]
 refine Eq.mpr (h2 _ _ _ _) ?_
 cases hb:Ch [] xs<;>simp +contextual -dsimp -implicitDefEqProofs (maxSteps:=5000000) only [Bn,AB,h5,go_sem,simprocAttr]
end Ve
namespace Ve
open Go Ve.Ab
set_option maxHeartbeats 16000000
set_option maxRecDepth 10000
theorem Jl (a:Ao) (ha:AF a=true):IntKind.wrap .i64 (IntKind.wrap .i64 (4*a.level)+a.index)=4*a.level+a.index:=by
 simp only [AF,inR,Bool.and_eq_true,decide_eq_true_eq] at ha
 have e1:=HQ (a:=4*a.level) (by omega) (by omega)
 have e2:=HQ (a:=4*a.level+a.index) (by omega) (by omega)
 simp only [wr] at e1 e2
 rw [e1,e2]
@[go_sem] theorem r_place (i:Nat) (l x:Int):Aa (Lv ctx (i+1)) 143 [iV l,iV x]=some (iV (IntKind.wrap .i64 (IntKind.wrap .i64 (4*l)+x))):=by
 refine Ac rfl 0 (by rfl) ?_
 delta c143
 simp +contextual -dsimp -implicitDefEqProofs (maxSteps:=5000000) only [go_sem,simprocAttr]
theorem Qu (i k:Nat) (pf nn:Bool) (xs:List Ao) (hx:xs.length≤BB) (q:Out→St→Option Ans) (Q:V→Hp→Nat→Prop) (u:Dum (fun s q=>evC ctx (Lv ctx (i+3)) (Aa (Lv ctx (i+3))) k Gy s (Al [0,3] q))) (w:Dum q):∀ (suf pre:List Ao) (kk:Nat),xs=pre++suf→suf.length<kk→(∀ v,pre.getLast?=some v→AF v=true) →
  GL 0 [0,3] (fun s q=>evC ctx (Lv ctx (i+3)) (Aa (Lv ctx (i+3))) k Gy s (Al [0,3] q)) q kk ⟨Ae [0,3] [.isl pf nn 3 (xs.map eWr),iV pre.length],Af,0⟩ Q u w =
  Fw (Bd pre.getLast? suf) (Fin (q (.exit 0) ⟨Ae [0] [.isl pf nn 3 (xs.map eWr)],Af,0⟩) Q) (Fin (q .ret ⟨Ae [2] [bV false],Af,0⟩) Q)
 | [],pre,kk,hxs,hk,hv=>by
  obtain ⟨kk,rfl⟩:∃ m,kk=m+1:=⟨kk - 1,by simp at hk;omega⟩
  have h1:decide ((pre.length:Int)<xs.length)=false:=by simp [hxs]
  have h2:∀ o,Bd o []=true:=fun o=>by cases o<;>rfl
  simp +contextual -dsimp -implicitDefEqProofs (maxSteps:=5000000) only [gLs,↓Ah (Gy.eq_1),h1,Bn,h2,go_sem,simprocAttr]
 | a::suf,pre,kk,hxs,hk,hv=>by
  obtain ⟨kk,rfl⟩:∃ m,kk=m+1:=⟨kk - 1,by simp at hk;omega⟩
  have hl:pre.length<xs.length:=by simp [hxs]
  have h2:((pre.length:Int)<xs.length)=True:=by simpa using hl
  have h3:(0≤(pre.length:Int))=True:=by simp
  have h4:=wrN pre.length (by omega)
  have hg:xs[pre.length]?=some a:=by simp [hxs]
  have ih:=fun hv=>Qu i k pf nn xs hx q Q u w suf (pre++[a]) kk (by simp [hxs]) (by simpa using hk) hv
  rw [Ag] at ih
  simp only [List.getLast?_append,List.getLast?_singleton,Option.some_or,Option.some.injEq,forall_eq'] at ih
  rcases List.eq_nil_or_concat pre with rfl | ⟨L,v,rfl⟩
  ·simp only [List.length_nil,Pl] at *
   cases c1:inR a.level 3
   ·simp +contextual -dsimp -implicitDefEqProofs (maxSteps:=5000000) only [gLs,↓Ah (Gy.eq_1),h2,h3,h4,hg,AB,Bd,AF,c1,List.getLast?_nil,go_sem,simprocAttr]
   ·cases c2:inR a.index 3
    ·simp +contextual -dsimp -implicitDefEqProofs (maxSteps:=5000000) only [gLs,↓Ah (Gy.eq_1),h2,h3,h4,hg,AB,Bd,AF,c1,c2,List.getLast?_nil,go_sem,simprocAttr]
    ·cases c3:inR a.val 255
     ·simp +contextual -dsimp -implicitDefEqProofs (maxSteps:=5000000) only [gLs,↓Ah (Gy.eq_1),h2,h3,h4,hg,AB,Bd,AF,c1,c2,c3,List.getLast?_nil,go_sem,simprocAttr]
     ·have ih':=ih (by simp only [AF,c1,c2,c3,Bool.and_self])
      simp only [Nat.zero_add,US] at ih'
      simp +contextual -dsimp -implicitDefEqProofs (maxSteps:=5000000) only [gLs,↓Ah (Gy.eq_1),h2,h3,h4,hg,Bd,AF,c1,c2,c3,ih',List.getLast?_nil,go_sem,simprocAttr]
  ·have hv1:AF v=true:=hv v (by simp)
   have hlen:(L.concat v).length=L.length+1:=by simp
   have hlast:(L.concat v).getLast?=some v:=by simp
   rw [hlen] at h2 h3 h4 hg ih
   rw [hlen,hlast]
   have h6:IntKind.wrap .i64 (((L.length+1:Nat):Int) - 1)=(L.length:Int):=by
    have:=HQ (a:=(L.length:Int)) (by omega) (by simp [hlen] at hl;simp only [BB] at hx;omega)
    simp only [wr] at this
    rw [show (((L.length+1:Nat):Int) - 1)=(L.length:Int) by omega,this]
   have h7:((L.length:Int)<xs.length)=True:=by simp only [eq_iff_iff,iff_true];rw [hlen] at hl;omega
   have h8:(0≤(L.length:Int))=True:=by simp
   have h9:decide (0<((L.length+1:Nat):Int))=true:=by simp only [decide_eq_true_eq];omega
   have hg':xs[L.length]?=some v:=by simp [hxs]
   cases c1:inR a.level 3
   ·simp +contextual -dsimp -implicitDefEqProofs (maxSteps:=5000000) only [gLs,↓Ah (Gy.eq_1),h2,h3,h4,hg,AB,Bd,AF,c1,go_sem,simprocAttr]
   ·cases c2:inR a.index 3
    ·simp +contextual -dsimp -implicitDefEqProofs (maxSteps:=5000000) only [gLs,↓Ah (Gy.eq_1),h2,h3,h4,hg,AB,Bd,AF,c1,c2,go_sem,simprocAttr]
    ·cases c3:inR a.val 255
     ·simp +contextual -dsimp -implicitDefEqProofs (maxSteps:=5000000) only [gLs,↓Ah (Gy.eq_1),h2,h3,h4,hg,AB,Bd,AF,c1,c2,c3,go_sem,simprocAttr]
     ·have ha1:AF a=true:=by simp only [AF,c1,c2,c3,Bool.and_self]
      have ih':=ih ha1
      have hr:decide (4*a.level+a.index≤4*v.level+v.index)=!decide (AH v.level v.index<AH a.level a.index):=by rw [← decide_not];apply decide_eq_decide.mpr;simp only [AH];omega
      have hpl:=Jl a ha1
      have hpl':=Jl v hv1
      cases c4:decide (AH v.level v.index<AH a.level a.index)<;>rw [c4] at hr <;>
       simp +contextual -dsimp -implicitDefEqProofs (maxSteps:=5000000) only [gLs,↓Ah (Gy.eq_1),h2,h3,h4,h6,h7,h8,h9,hg,hg',hr,hpl,hpl',Bd,ha1,c1,c2,c3,c4,ih',AB,go_sem,simprocAttr]
theorem Jj (i:Nat) (pf nn:Bool) (xs:List Ao) (hx:xs.length≤BB):Aa (Lv ctx (i+4)) 103 [.isl pf nn 3 (xs.map eWr)]=some (bV (AX xs)):=by
 refine Ac rfl (xs.length+1) (by rfl) ?_
 delta c103
 have h2:=fun q Q u w=>Qu i (xs.length+1) pf nn xs hx q Q u w xs [] (xs.length+1) rfl (by omega) (by simp)
 simp only [List.length_nil,Int.natCast_zero,List.getLast?_nil] at h2
 have h5:decide ((xs.length:Int)≤16)=decide (xs.length≤16):=by apply decide_eq_decide.mpr;omega
 simp +contextual -dsimp -implicitDefEqProofs (maxSteps:=5000000) only [AX,h5,go_sem,simprocAttr]
 refine Eq.mpr (h2 _ _ _ _) ?_
 cases hb:Bd none xs<;>simp +contextual -dsimp -implicitDefEqProofs (maxSteps:=5000000) only [Bn,AB,h5,go_sem,simprocAttr]
theorem ZA (i k:Nat) (pf nn:Bool) (xs:List AI) (hx:xs.length≤BB) (q:Out→St→Option Ans) (Q:V→Hp→Nat→Prop) (u:Dum (fun s q=>evC ctx (Lv ctx (i+3)) (Aa (Lv ctx (i+3))) k IF s (Al [0,3] q))) (w:Dum q):∀ (suf pre:List AI) (kk:Nat),xs=pre++suf→suf.length<kk →
  GL 0 [0,3] (fun s q=>evC ctx (Lv ctx (i+3)) (Aa (Lv ctx (i+3))) k IF s (Al [0,3] q)) q kk ⟨Ae [0,3] [.isl pf nn 4 (xs.map eI),iV pre.length],Af,0⟩ Q u w =
  Fw (Cw xs.length pre.length suf) (Fin (q (.exit 0) ⟨Ae [0] [.isl pf nn 4 (xs.map eI)],Af,0⟩) Q) (Fin (q .ret ⟨Ae [2] [bV false],Af,0⟩) Q)
 | [],pre,kk,hxs,hk=>by
  obtain ⟨kk,rfl⟩:∃ m,kk=m+1:=⟨kk - 1,by simp at hk;omega⟩
  have h1:decide ((pre.length:Int)<xs.length)=false:=by simp [hxs]
  simp +contextual -dsimp -implicitDefEqProofs (maxSteps:=5000000) only [gLs,↓Ah (IF.eq_1),h1,Bn,Cw,go_sem,simprocAttr]
 | a::suf,pre,kk,hxs,hk=>by
  obtain ⟨kk,rfl⟩:∃ m,kk=m+1:=⟨kk - 1,by simp at hk;omega⟩
  have hl:pre.length<xs.length:=by simp [hxs]
  have h2:((pre.length:Int)<xs.length)=True:=by simpa using hl
  have h3:(0≤(pre.length:Int))=True:=by simp
  have h4:=wrN pre.length (by omega)
  have hg:xs[pre.length]?=some a:=by simp [hxs]
  have ih:=ZA i k pf nn xs hx q Q u w suf (pre++[a]) kk (by simp [hxs]) (by simpa using hk)
  rw [Ag] at ih
  have h5:((pre.length+1:Nat):Int)=(pre.length:Int)+1:=by simp
  have c5:decide ((xs.length:Int)<a.b)=decide ((xs.length:Int)<a.b):=rfl
  cases c1:Cj a
  ·simp +contextual -dsimp -implicitDefEqProofs (maxSteps:=5000000) only [gLs,↓Ah (IF.eq_1),h2,h3,h4,hg,AB,Cw,c1,go_sem,simprocAttr]
  ·cases c2:decide (a.code=4)
   ·have hr:Cw xs.length pre.length (a::suf)=Cw xs.length ((pre.length+1:Nat):Int) suf:=by simp only [Cw,c1,c2,h5,Bool.true_and,Bool.false_and,Bool.not_false]
    rw [hr]
    simp +contextual -dsimp -implicitDefEqProofs (maxSteps:=5000000) only [gLs,↓Ah (IF.eq_1),h2,h3,h4,hg,c1,c2,ih,go_sem,simprocAttr]
   ·cases c3:decide (a.b≤(pre.length:Int))
    ·cases c4:decide ((xs.length:Int)<a.b)
     ·have hr:Cw xs.length pre.length (a::suf)=Cw xs.length ((pre.length+1:Nat):Int) suf:=by simp only [Cw,c1,c2,c3,c4,h5,Bool.true_and,Bool.false_or,Bool.not_false]
      rw [hr]
      simp +contextual -dsimp -implicitDefEqProofs (maxSteps:=5000000) only [gLs,↓Ah (IF.eq_1),h2,h3,h4,hg,c1,c2,c3,c4,ih,go_sem,simprocAttr]
     ·have hr:Cw xs.length pre.length (a::suf)=false:=by simp only [Cw,c1,c2,c3,c4,h5,Bool.true_and,Bool.false_or,Bool.not_true,Bool.false_and]
      rw [hr]
      simp +contextual -dsimp -implicitDefEqProofs (maxSteps:=5000000) only [gLs,↓Ah (IF.eq_1),h2,h3,h4,hg,c1,c2,c3,c4,AB,go_sem,simprocAttr]
    ·have hr:Cw xs.length pre.length (a::suf)=false:=by simp only [Cw,c1,c2,c3,Bool.true_and,Bool.true_or,Bool.not_true,Bool.false_and]
     rw [hr]
     simp +contextual -dsimp -implicitDefEqProofs (maxSteps:=5000000) only [gLs,↓Ah (IF.eq_1),h2,h3,h4,hg,c1,c2,c3,AB,go_sem,simprocAttr]
theorem a3j (i:Nat) (pf nn:Bool) (xs:List AI) (hx:xs.length≤BB):Aa (Lv ctx (i+4)) 139 [.isl pf nn 4 (xs.map eI)]=some (bV (HC xs)):=by
 refine Ac rfl (xs.length+1) (by rfl) ?_
 delta c139
 have h2:=fun q Q u w=>ZA i (xs.length+1) pf nn xs hx q Q u w xs [] (xs.length+1) rfl (by omega)
 simp only [List.length_nil,Int.natCast_zero] at h2
 have h5:decide ((xs.length:Int)≤16)=decide (xs.length≤16):=by apply decide_eq_decide.mpr;omega
 simp +contextual -dsimp -implicitDefEqProofs (maxSteps:=5000000) only [HC,h5,go_sem,simprocAttr]
 refine Eq.mpr (h2 _ _ _ _) ?_
 cases hb:Cw xs.length 0 xs<;>simp +contextual -dsimp -implicitDefEqProofs (maxSteps:=5000000) only [Bn,AB,h5,go_sem,simprocAttr]
theorem Zf (i:Nat) (pf nn:Bool) (a b c:Int) (xs:List AI) (hx:xs.length≤BB):Aa (Lv ctx (i+5)) 99 [.agg [iV a,iV b,iV c,.isl pf nn 4 (xs.map eI)]]=some (bV (CT a b c xs)):=by
 have hp:=a3j i pf nn xs hx
 refine Ac rfl 0 (by rfl) ?_
 delta c99
 simp +contextual -dsimp -implicitDefEqProofs (maxSteps:=5000000) only [CT,hp,go_sem,simprocAttr]
end Ve
namespace Ve
open Go Ve.Ab
set_option maxHeartbeats 16000000
set_option maxRecDepth 10000
theorem bS (i:Nat) (pf ps:Bool) (m:Ad) (s:Ai) (hs:SmS s):Aa (Lv ctx (i+6)) 70 [eM pf m,eS ps s]=some (bV (BW m.words s)):=by
 have h1:=Zf (i+0) ps false s.id s.label s.clear s.prog hs.p
 have h2:=rQ (i+0) ps s hs pf pf pf pf false false false false m.words.a0 m.words.a1 m.words.a2 m.words.a3
 have h3:=Li (i+1) ps false s.reads hs.r
 have h4:=Jj (i+1) ps false s.writes hs.w
 simp only [Nat.add_assoc,Nat.reduceAdd] at h1 h2 h3 h4
 simp only [eS] at h2 ⊢
 have key:BW m.words s=((CT s.id s.label s.clear s.prog&&(Er m.words s.prog&&CC m.words s.writes&&AJ m.words s.reads))&&(inR s.step 6&&inR s.pc s.prog.length&&DX 255 s.regs.a0 s.regs.a1 s.regs.a2 s.regs.a3&&AQ s.reads&&AX s.writes) &&
   (inR s.at_ s.writes.length&&inR s.stamp 65535&&inR s.tries 65535&&inR s.result 5&&inR s.told 255)):=by
  rw [Bool.eq_iff_iff]
  simp only [BW,Dl,A4.all,DX,Bool.and_eq_true]
  constructor<;>(intro h;simp only [h,and_self])
 refine Ac rfl 0 (by rfl) ?_
 delta c70
 have hb1:∀ a b:Bool,(!a||!b)=!(a&&b):=by decide
 have hb2:∀ a b c d e:Bool,(!a||!b||!c||!d||!e)=!(a&&b&&c&&d&&e):=by decide
 rw [key]
 cases c1:(CT s.id s.label s.clear s.prog&&(Er m.words s.prog&&CC m.words s.writes&&AJ m.words s.reads))
 ·simp +contextual -dsimp -implicitDefEqProofs (maxSteps:=5000000) only [h1,h2,h3,h4,hb1,c1,go_sem,simprocAttr]
 ·cases c2:(inR s.step 6&&inR s.pc s.prog.length&&DX 255 s.regs.a0 s.regs.a1 s.regs.a2 s.regs.a3&&AQ s.reads&&AX s.writes)
  ·simp only [inR] at c2
   simp +contextual -dsimp -implicitDefEqProofs (maxSteps:=5000000) only [h1,h2,h3,h4,hb1,hb2,c1,c2,go_sem,simprocAttr]
  ·simp only [inR] at c2
   simp +contextual -dsimp -implicitDefEqProofs (maxSteps:=5000000) only [h1,h2,h3,h4,hb1,hb2,c1,c2,go_sem,simprocAttr]
   simp only [inR]
def Oo (ws:A4 (List Ap)):Option Int→List Ai→Bool
 | _,[]=>true
 | none,s::t=>BW ws s&&Oo ws (some s.id) t
 | some v,s::t=>BW ws s&&decide (v<s.id)&&Oo ws (some s.id) t
theorem RY (ws:A4 (List Ap)):∀ (l:List Ai) (o:Option Int),Oo ws o l=(EY o l&&l.all (BW ws))
 | [],o=>by cases o<;>rfl
 | a::l,none=>by simp only [Oo,EY,List.all_cons,RY ws l];cases BW ws a<;>cases EY (some a.id) l<;>simp
 | a::l,some v=>by simp only [Oo,EY,List.all_cons,RY ws l];cases BW ws a<;>cases EY (some a.id) l<;>cases decide (v<a.id)<;>simp
theorem ZC (i k:Nat) (pf:Bool) (m:Ad) (hm:SmM m) (q:Out→St→Option Ans) (Q:V→Hp→Nat→Prop) (u:Dum (fun s q=>evC ctx (Lv ctx (i+6)) (Aa (Lv ctx (i+6))) k Np s (Al [1,4] q))) (w:Dum q):∀ (suf pre:List Ai) (kk:Nat),m.sess=pre++suf→suf.length<kk →
  GL 0 [1,4] (fun s q=>evC ctx (Lv ctx (i+6)) (Aa (Lv ctx (i+6))) k Np s (Al [1,4] q)) q kk ⟨Ae [1,4] [.ip pf (cM pf m) 0,iV pre.length],Af,0⟩ Q u w=Fw (Oo m.words (pre.getLast?.map (·.id)) suf) (Fin (q (.exit 2) ⟨Ae [1] [.ip pf (cM pf m) 0],Af,0⟩) Q) (Fin (q .ret ⟨Ae [2] [bV false],Af,0⟩) Q)
 | [],pre,kk,hxs,hk=>by
  obtain ⟨kk,rfl⟩:∃ m,kk=m+1:=⟨kk - 1,by simp at hk;omega⟩
  have h1:decide ((pre.length:Int)<m.sess.length)=false:=by simp [hxs]
  have h2:∀ o,Oo m.words o []=true:=fun o=>by cases o<;>rfl
  simp +contextual -dsimp -implicitDefEqProofs (maxSteps:=5000000) only [gLs,↓Ah (Np.eq_1),h1,Bn,h2,go_sem,simprocAttr]
 | a::suf,pre,kk,hxs,hk=>by
  obtain ⟨kk,rfl⟩:∃ m,kk=m+1:=⟨kk - 1,by simp at hk;omega⟩
  have hl:pre.length<m.sess.length:=by simp [hxs]
  have h2:((pre.length:Int)<m.sess.length)=True:=by simpa using hl
  have h3:(0≤(pre.length:Int))=True:=by simp
  have h4:=wrN pre.length (by have:=hm.ss;omega)
  have hg:m.sess[pre.length]?=some a:=by simp [hxs]
  have hs:=bS (i+0) pf pf m a (hm.s a (by simp [hxs]))
  simp only [Nat.add_assoc,Nat.reduceAdd,eS] at hs
  have ih:=ZC i k pf m hm q Q u w suf (pre++[a]) kk (by simp [hxs]) (by simpa using hk)
  rw [Ag] at ih
  simp only [List.getLast?_append,List.getLast?_singleton,Option.some_or,Option.map_some] at ih
  rcases List.eq_nil_or_concat pre with rfl | ⟨L,v,rfl⟩
  ·simp only [List.length_nil,Pl] at *
   simp only [Nat.zero_add,US] at ih
   cases c1:BW m.words a<;>simp +contextual -dsimp -implicitDefEqProofs (maxSteps:=5000000) only [gLs,↓Ah (Np.eq_1),h2,h3,h4,hg,hs,c1,ih,Oo,AB,List.getLast?_nil,go_sem,simprocAttr]
  ·have hlen:(L.concat v).length=L.length+1:=by simp
   have hlast:(L.concat v).getLast?=some v:=by simp
   rw [hlen] at h2 h3 h4 hg ih
   rw [hlen,hlast]
   have h6:IntKind.wrap .i64 (((L.length+1:Nat):Int) - 1)=(L.length:Int):=by
    have:=HQ (a:=(L.length:Int)) (by omega) (by have:=hm.ss;simp [hlen] at hl;simp only [BB] at this;omega)
    simp only [wr] at this
    rw [show (((L.length+1:Nat):Int) - 1)=(L.length:Int) by omega,this]
   have h7:((L.length:Int)<m.sess.length)=True:=by simp only [eq_iff_iff,iff_true];rw [hlen] at hl;omega
   have h8:(0≤(L.length:Int))=True:=by simp
   have h9:decide (0<((L.length+1:Nat):Int))=true:=by simp only [decide_eq_true_eq];omega
   have hg':m.sess[L.length]?=some v:=by simp [hxs]
   cases c1:BW m.words a
   ·simp +contextual -dsimp -implicitDefEqProofs (maxSteps:=5000000) only [gLs,↓Ah (Np.eq_1),h2,h3,h4,hg,hs,c1,Oo,AB,go_sem,simprocAttr]
   ·by_cases hlt:v.id<a.id
    ·have c2:decide (a.id≤v.id)=false:=by simp;omega
     have c3:decide (v.id<a.id)=true:=by simp;omega
     simp +contextual -dsimp -implicitDefEqProofs (maxSteps:=5000000) only [gLs,↓Ah (Np.eq_1),h2,h3,h4,h6,h7,h8,h9,hg,hg',hs,c1,c2,c3,ih,Oo,go_sem,simprocAttr]
    ·have c2:decide (a.id≤v.id)=true:=by simp;omega
     have c3:decide (v.id<a.id)=false:=by simp;omega
     simp +contextual -dsimp -implicitDefEqProofs (maxSteps:=5000000) only [gLs,↓Ah (Np.eq_1),h2,h3,h4,h6,h7,h8,h9,hg,hg',hs,c1,c2,c3,Oo,AB,go_sem,simprocAttr]
theorem ZB (i k:Nat) (pf:Bool) (m:Ad) (hm:SmM m) (q:Out→St→Option Ans) (Q:V→Hp→Nat→Prop) (u:Dum (fun s q=>evC ctx (Lv ctx (i+6)) (Aa (Lv ctx (i+6))) k Ro s (Al [1,5] q))) (w:Dum q):∀ (suf pre:List AY) (kk:Nat),m.trace=pre++suf→suf.length<kk →
  GL 0 [1,5] (fun s q=>evC ctx (Lv ctx (i+6)) (Aa (Lv ctx (i+6))) k Ro s (Al [1,5] q)) q kk ⟨Ae [1,5] [.ip pf (cM pf m) 0,iV pre.length],Af,0⟩ Q u w=Fw (suf.all fun a=>inR a.label 3) (Fin (q (.exit 4) ⟨Ae [] [],Af,0⟩) Q) (Fin (q .ret ⟨Ae [2] [bV false],Af,0⟩) Q)
 | [],pre,kk,hxs,hk=>by
  obtain ⟨kk,rfl⟩:∃ m,kk=m+1:=⟨kk - 1,by simp at hk;omega⟩
  have h1:decide ((pre.length:Int)<(m.trace).length)=false:=by simp [hxs]
  simp +contextual -dsimp -implicitDefEqProofs (maxSteps:=5000000) only [gLs,↓Ah (Ro.eq_1),h1,Bn,List.all_nil,go_sem,simprocAttr]
 | a::suf,pre,kk,hxs,hk=>by
  obtain ⟨kk,rfl⟩:∃ m,kk=m+1:=⟨kk - 1,by simp at hk;omega⟩
  have hl:pre.length<(m.trace).length:=by simp [hxs]
  have h2:((pre.length:Int)<(m.trace).length)=True:=by simpa using hl
  have h3:(0≤(pre.length:Int))=True:=by simp
  have h4:=wrN pre.length (by have:=hm.tr;omega)
  have hg:(m.trace)[pre.length]?=some a:=by simp [hxs]
  have hmem:a∈m.trace:=by simp [hxs]
  have ih:=ZB i k pf m hm q Q u w suf (pre++[a]) kk (by simp [hxs]) (by simpa using hk)
  rw [Ag] at ih
  simp only [List.all_cons]
  cases hb:(inR a.label 3)
  ·rw [Bool.false_and]
   repeat simp +contextual -dsimp -implicitDefEqProofs (maxSteps:=5000000) only [gLs,↓Ah (Ro.eq_1),h2,h3,h4,hg,hb,AB,go_sem,simprocAttr]
  ·rw [Bool.true_and]
   repeat simp +contextual -dsimp -implicitDefEqProofs (maxSteps:=5000000) only [gLs,↓Ah (Ro.eq_1),h2,h3,h4,hg,hb,ih,go_sem,simprocAttr]
theorem TH (i:Nat) (pf:Bool) (m:Ad) (hm:SmM m):Aa (Lv ctx (i+7)) 27 [eM pf m]=some (bV (CN m)):=by
 have ha:=RX (i+2) pf pf pf pf false false false false m.words.a0 m.words.a1 m.words.a2 m.words.a3 hm.w0 hm.w1 hm.w2 hm.w3
 have h2:=fun q Q u w=>ZC i (m.sess.length+m.trace.length+5) pf m hm q Q u w m.sess [] (m.sess.length+m.trace.length+5) rfl (by omega)
 have h3:=fun q Q u w=>ZB i (m.sess.length+m.trace.length+5) pf m hm q Q u w m.trace [] (m.sess.length+m.trace.length+5) rfl (by omega)
 simp only [Nat.add_assoc,Nat.reduceAdd] at ha
 simp only [List.length_nil,Int.natCast_zero,List.getLast?_nil,Option.map_none,RY] at h2 h3
 have h5:decide (4<(m.sess.length:Int))=!decide (m.sess.length≤4):=Pf _
 have h6:decide (512<(m.trace.length:Int))=!decide (m.trace.length≤512):=by
  by_cases h:m.trace.length≤512<;>simp [h]<;>omega
 have hb:∀ a b c d:Bool,(!a||!b||!c||!d)=!(a&&b&&c&&d):=by decide
 have ho:=fun q k s Q u w=>gLs 0 [1,3] (fun s q=>evC ctx (Lv ctx (i+6)) (Aa (Lv ctx (i+6))) (m.sess.length+m.trace.length+5) Pq s (Al [1,3] q)) q k s Q u w
 refine Ac rfl (m.sess.length+m.trace.length+5) (by rfl) ?_
 delta c27
 cases c1:(AT m.words&&inR m.ceil 65535&&decide (m.sess.length≤4)&&decide (m.trace.length≤512))
 ·have key:CN m=false:=by
   rw [← Bool.not_eq_true] at c1 ⊢
   intro h
   simp only [CN,Bool.and_eq_true] at h c1
   exact c1 (by simp only [h,and_self])
  simp +contextual -dsimp -implicitDefEqProofs (maxSteps:=5000000) only [ha,h5,h6,hb,c1,key,go_sem,simprocAttr]
 ·have key:CN m=(m.clocks.all (fun c=>inR c m.ceil)&&(EY none m.sess&&m.sess.all (BW m.words))&&m.trace.all (fun e=>inR e.label 3)):=by
   rw [Bool.eq_iff_iff]
   simp only [Bool.and_eq_true] at c1
   simp only [CN,Bool.and_eq_true,c1,true_and,and_true]
   constructor<;>(intro h;simp only [h,and_self])
  rw [key]
  have hf:∀ a b:Int,(decide (0≤a)&&decide (a≤b))=inR a b:=fun _ _=>(rfl)
  cases d0:inR m.clocks.a0 m.ceil
  ·simp +contextual -dsimp -implicitDefEqProofs (maxSteps:=5000000) only [ha,h5,h6,hb,c1,ho,↓Ah (Pq.eq_1),A4.all,hf,d0,go_sem,simprocAttr]
  ·cases d1:inR m.clocks.a1 m.ceil
   ·simp +contextual -dsimp -implicitDefEqProofs (maxSteps:=5000000) only [ha,h5,h6,hb,c1,ho,↓Ah (Pq.eq_1),A4.all,hf,d0,d1,go_sem,simprocAttr]
   ·cases d2:inR m.clocks.a2 m.ceil
    ·simp +contextual -dsimp -implicitDefEqProofs (maxSteps:=5000000) only [ha,h5,h6,hb,c1,ho,↓Ah (Pq.eq_1),A4.all,hf,d0,d1,d2,go_sem,simprocAttr]
    ·cases d3:inR m.clocks.a3 m.ceil
     ·simp +contextual -dsimp -implicitDefEqProofs (maxSteps:=5000000) only [ha,h5,h6,hb,c1,ho,↓Ah (Pq.eq_1),A4.all,hf,d0,d1,d2,d3,go_sem,simprocAttr]
     ·simp +contextual -dsimp -implicitDefEqProofs (maxSteps:=5000000) only [ha,h5,h6,hb,c1,ho,↓Ah (Pq.eq_1),A4.all,hf,d0,d1,d2,d3,go_sem,simprocAttr]
      refine Eq.mpr (h2 _ _ _ _) ?_
      cases e2:(EY none m.sess&&m.sess.all (BW m.words))
      ·simp +contextual -dsimp -implicitDefEqProofs (maxSteps:=5000000) only [AB,go_sem,simprocAttr]
      ·simp +contextual -dsimp -implicitDefEqProofs (maxSteps:=5000000) only [Bn,go_sem,simprocAttr]
       refine Eq.mpr (h3 _ _ _ _) ?_
       cases e3:(m.trace.all fun a=>inR a.label 3)<;>simp +contextual -dsimp -implicitDefEqProofs (maxSteps:=5000000) only [Bn,AB,go_sem,simprocAttr]
theorem HM (i:Nat) (pf:Bool) (m:Ad) (at_:Int) (hm:SmM m):Aa (Lv ctx (i+8)) 106 [eM pf m,iV at_]=some (bV (BT m at_)):=by
 have h1:=TH i pf m hm
 refine Ac rfl 0 (by rfl) ?_
 delta c106
 simp +contextual -dsimp -implicitDefEqProofs (maxSteps:=5000000) only [h1,BT,go_sem,simprocAttr]
end Ve
namespace Ve
open Go Ve.Ab
set_option maxHeartbeats 16000000
set_option maxRecDepth 10000
attribute [go_sem] List.replicate List.length_append Nat.zero_add List.length_cons
@[go_sem] theorem r_arenaCopy (i:Nat) (p:Bool) (w0 w1 w2 w3:List Ap) (h0:(w0.length:Int)*24≤140737488355328) (h1:(w1.length:Int)*24≤140737488355328) (h2:(w2.length:Int)*24≤140737488355328) (h3:(w3.length:Int)*24≤140737488355328):Aa (Lv ctx (i+1)) 105 [.agg [eWs p w0,eWs p w1,eWs p w2,eWs p w3]]=some (.agg [oWs w0,oWs w1,oWs w2,oWs w3]):=by
 have e0:((w0.length:Int)*24≤140737488355328)=True:=by simpa using h0
 have e1:((w1.length:Int)*24≤140737488355328)=True:=by simpa using h1
 have e2:((w2.length:Int)*24≤140737488355328)=True:=by simpa using h2
 have e3:((w3.length:Int)*24≤140737488355328)=True:=by simpa using h3
 refine Ac rfl 5 (by rfl) ?_
 delta c105
 cases p<;>simp +contextual -dsimp -implicitDefEqProofs (maxSteps:=5000000) only [gLs,↓Ah (oV.eq_1),e0,e1,e2,e3,go_sem,simprocAttr]
@[go_sem] theorem w_arenaCopy (i:Nat) (p:Bool) (w0 w1 w2 w3:List Ap) (h0:(w0.length:Int)*24≤140737488355328) (h1:(w1.length:Int)*24≤140737488355328) (h2:(w2.length:Int)*24≤140737488355328) (h3:(w3.length:Int)*24≤140737488355328):Aa (Lv ctx (i+1)) 31 [.agg [eWs p w0,eWs p w1,eWs p w2,eWs p w3]]=some (.agg [oWs w0,oWs w1,oWs w2,oWs w3]):=by
 have e0:((w0.length:Int)*24≤140737488355328)=True:=by simpa using h0
 have e1:((w1.length:Int)*24≤140737488355328)=True:=by simpa using h1
 have e2:((w2.length:Int)*24≤140737488355328)=True:=by simpa using h2
 have e3:((w3.length:Int)*24≤140737488355328)=True:=by simpa using h3
 refine Ac rfl 5 (by rfl) ?_
 delta c31
 cases p<;>simp +contextual -dsimp -implicitDefEqProofs (maxSteps:=5000000) only [gLs,↓Ah (xR.eq_1),e0,e1,e2,e3,go_sem,simprocAttr]
@[go_sem] theorem Ql (i:Nat) (pf:Bool) (s:Ai) (hs:SmS s):Aa (Lv ctx (i+1)) 50 [eS pf s]=some (oS s):=by
 have h1:((s.prog.length:Int)*32≤140737488355328)=True:=by simpa using hs.bp
 have h2:((s.reads.length:Int)*24≤140737488355328)=True:=by simpa using hs.br
 have h3:((s.writes.length:Int)*24≤140737488355328)=True:=by simpa using hs.bw
 simp only [eS]
 refine Ac rfl 0 (by rfl) ?_
 delta c50
 cases pf<;>simp +contextual -dsimp -implicitDefEqProofs (maxSteps:=5000000) only [h1,h2,h3,go_sem,simprocAttr]
@[go_sem] theorem aS (i:Nat) (pf:Bool) (s:Ai) (hs:SmS s):Aa (Lv ctx (i+1)) 32 [eS pf s]=some (oS s):=by
 have h1:((s.prog.length:Int)*32≤140737488355328)=True:=by simpa using hs.bp
 have h2:((s.reads.length:Int)*24≤140737488355328)=True:=by simpa using hs.br
 have h3:((s.writes.length:Int)*24≤140737488355328)=True:=by simpa using hs.bw
 simp only [eS]
 refine Ac rfl 0 (by rfl) ?_
 delta c32
 cases pf<;>simp +contextual -dsimp -implicitDefEqProofs (maxSteps:=5000000) only [h1,h2,h3,go_sem,simprocAttr]
abbrev hR (pf d:Bool) (m:Ad) (els:List V):Hp :=
 pO (pO (pO (pO (pO (pO Af 0 (some ⟨11,[zM],false⟩)) 1 (some ⟨11,[.agg [.sl 2,.sl 3,.sl 4,.sl 5,iV m.clocks.a0,iV m.clocks.a1,iV m.clocks.a2,iV m.clocks.a3,iV m.ceil,.own 17 els,eEs pf m.trace]],d⟩))
  2 (some ⟨3,m.words.a0.map eW,false⟩)) 3 (some ⟨3,m.words.a1.map eW,false⟩)) 4 (some ⟨3,m.words.a2.map eW,false⟩)) 5 (some ⟨3,m.words.a3.map eW,false⟩)
theorem ZD (i k:Nat) (pf:Bool) (m:Ad) (hm:SmM m) (q:Out→St→Option Ans) (Q:V→Hp→Nat→Prop):∀ (suf pre:List Ai) (kk:Nat),m.sess=pre++suf→suf.length<kk+1 →
  Fin (evC ctx (Lv ctx (i+1)) (Aa (Lv ctx (i+1))) k Va ⟨Ae [1,2,3,4] [.ip pf (cM pf m) 0,.ptr 0 0 0,.ptr 1 0 0,iV pre.length],hR pf true m (pre.map oS),6⟩
   (Al [1,2,3,4] fun o s=>BZ (Bp 6 [1,2,3,4] (fun s q=>evC ctx (Lv ctx (i+1)) (Aa (Lv ctx (i+1))) k Va s (Al [1,2,3,4] q)) q kk) q o s)) Q =
  Fin (q (.exit 0) ⟨Ae [1,2,3] [.ip pf (cM pf m) 0,.ptr 0 0 0,.ptr 1 0 0],hR pf true m (m.sess.map oS),6⟩) Q
 | [],pre,kk,hxs,hk=>by
  have h1:decide ((pre.length:Int)<m.sess.length)=false:=by simp [hxs]
  have h2:m.sess=pre:=by simp [hxs]
  rw [Ah (Va.eq_1)]
  simp +contextual -dsimp -implicitDefEqProofs (maxSteps:=5000000) only [h1,go_sem,simprocAttr]
  rw [h2]
 | a::suf,pre,kk,hxs,hk=>by
  obtain ⟨kk,rfl⟩:∃ m,kk=m+1:=⟨kk - 1,by simp at hk;omega⟩
  have hl:pre.length<m.sess.length:=by simp [hxs]
  have h2:((pre.length:Int)<m.sess.length)=True:=by simpa using hl
  have h3:(0≤(pre.length:Int))=True:=by simp
  have h4:=wrN pre.length (by have:=hm.ss;omega)
  have hg:m.sess[pre.length]?=some a:=by simp [hxs]
  have h5:(((pre.length+1:Nat):Int)*184≤140737488355328)=True:=by
   have:=hm.bs
   simp only [eq_iff_iff,iff_true]
   have:pre.length+1≤m.sess.length:=hl
   omega
  have hs:=Ql (i+0) pf a (hm.s a (by simp [hxs]))
  have ih:=ZD i k pf m hm q Q suf (pre++[a]) kk (by simp [hxs]) (by simpa using hk)
  simp only [Ag,List.map_append,List.map_cons,List.map_nil,oS] at ih
  simp only [Nat.add_assoc,Nat.reduceAdd,eS] at hs
  rw [Ah (Va.eq_1)]
  cases pf<;>simp +contextual -dsimp -implicitDefEqProofs (maxSteps:=5000000) only [h2,h3,h4,h5,hg,hs,gLs,go_sem,simprocAttr]<;>exact ih
theorem FH (i:Nat) (pf:Bool) (m:Ad) (hm:SmM m):Aa (Lv ctx (i+2)) 72 [eM pf m]=some (oM m):=by
 have b0:=hm.b0
 have b1:=hm.b1
 have b2:=hm.b2
 have b3:=hm.b3
 have e5:((m.trace.length:Int)*32≤140737488355328)=True:=by simpa using hm.bt
 refine Ac rfl (m.sess.length+1) (by rfl) ?_
 delta c72
 have hl:=fun q Q=>ZD i (m.sess.length+1) pf m hm q Q m.sess [] m.sess.length rfl (by omega)
 simp only [List.length_nil,Int.natCast_zero,List.map_nil] at hl
 cases pf
 ·simp +contextual -dsimp -implicitDefEqProofs (maxSteps:=5000000) only [b0,b1,b2,b3,e5,gLs,go_sem,simprocAttr]
  refine Eq.mpr (hl _ _) ?_
  simp +contextual -dsimp -implicitDefEqProofs (maxSteps:=5000000) only [e5,go_sem,simprocAttr]
 ·simp +contextual -dsimp -implicitDefEqProofs (maxSteps:=5000000) only [b0,b1,b2,b3,e5,gLs,go_sem,simprocAttr]
  refine Eq.mpr (hl _ _) ?_
  simp +contextual -dsimp -implicitDefEqProofs (maxSteps:=5000000) only [e5,go_sem,simprocAttr]
theorem Zz (i k:Nat) (pf:Bool) (m:Ad) (hm:SmM m) (q:Out→St→Option Ans) (Q:V→Hp→Nat→Prop):∀ (suf pre:List Ai) (kk:Nat),m.sess=pre++suf→suf.length<kk+1 →
  Fin (evC ctx (Lv ctx (i+1)) (Aa (Lv ctx (i+1))) k Vl ⟨Ae [1,2,3,4] [.ip pf (cM pf m) 0,.ptr 0 0 0,.ptr 1 0 0,iV pre.length],hR pf true m (pre.map oS),6⟩
   (Al [1,2,3,4] fun o s=>BZ (Bp 6 [1,2,3,4] (fun s q=>evC ctx (Lv ctx (i+1)) (Aa (Lv ctx (i+1))) k Vl s (Al [1,2,3,4] q)) q kk) q o s)) Q =
  Fin (q (.exit 0) ⟨Ae [1,2,3] [.ip pf (cM pf m) 0,.ptr 0 0 0,.ptr 1 0 0],hR pf true m (m.sess.map oS),6⟩) Q
 | [],pre,kk,hxs,hk=>by
  have h1:decide ((pre.length:Int)<m.sess.length)=false:=by simp [hxs]
  have h2:m.sess=pre:=by simp [hxs]
  rw [Ah (Vl.eq_1)]
  simp +contextual -dsimp -implicitDefEqProofs (maxSteps:=5000000) only [h1,go_sem,simprocAttr]
  rw [h2]
 | a::suf,pre,kk,hxs,hk=>by
  obtain ⟨kk,rfl⟩:∃ m,kk=m+1:=⟨kk - 1,by simp at hk;omega⟩
  have hl:pre.length<m.sess.length:=by simp [hxs]
  have h2:((pre.length:Int)<m.sess.length)=True:=by simpa using hl
  have h3:(0≤(pre.length:Int))=True:=by simp
  have h4:=wrN pre.length (by have:=hm.ss;omega)
  have hg:m.sess[pre.length]?=some a:=by simp [hxs]
  have h5:(((pre.length+1:Nat):Int)*184≤140737488355328)=True:=by
   have:=hm.bs
   simp only [eq_iff_iff,iff_true]
   have:pre.length+1≤m.sess.length:=hl
   omega
  have hs:=aS (i+0) pf a (hm.s a (by simp [hxs]))
  have ih:=Zz i k pf m hm q Q suf (pre++[a]) kk (by simp [hxs]) (by simpa using hk)
  simp only [Ag,List.map_append,List.map_cons,List.map_nil,oS] at ih
  simp only [Nat.add_assoc,Nat.reduceAdd,eS] at hs
  rw [Ah (Vl.eq_1)]
  cases pf<;>simp +contextual -dsimp -implicitDefEqProofs (maxSteps:=5000000) only [h2,h3,h4,h5,hg,hs,gLs,go_sem,simprocAttr]<;>exact ih
theorem yK (i:Nat) (pf:Bool) (m:Ad) (hm:SmM m):Aa (Lv ctx (i+2)) 11 [eM pf m]=some (oM m):=by
 have b0:=hm.b0
 have b1:=hm.b1
 have b2:=hm.b2
 have b3:=hm.b3
 have e5:((m.trace.length:Int)*32≤140737488355328)=True:=by simpa using hm.bt
 refine Ac rfl (m.sess.length+1) (by rfl) ?_
 delta c11
 have hl:=fun q Q=>Zz i (m.sess.length+1) pf m hm q Q m.sess [] m.sess.length rfl (by omega)
 simp only [List.length_nil,Int.natCast_zero,List.map_nil] at hl
 cases pf
 ·simp +contextual -dsimp -implicitDefEqProofs (maxSteps:=5000000) only [b0,b1,b2,b3,e5,gLs,go_sem,simprocAttr]
  refine Eq.mpr (hl _ _) ?_
  simp +contextual -dsimp -implicitDefEqProofs (maxSteps:=5000000) only [e5,go_sem,simprocAttr]
 ·simp +contextual -dsimp -implicitDefEqProofs (maxSteps:=5000000) only [b0,b1,b2,b3,e5,gLs,go_sem,simprocAttr]
  refine Eq.mpr (hl _ _) ?_
  simp +contextual -dsimp -implicitDefEqProofs (maxSteps:=5000000) only [e5,go_sem,simprocAttr]
end Ve
namespace Ve
open Go Ve.Ab
set_option maxHeartbeats 16000000
set_option maxRecDepth 10000
theorem a6n (ms:List Bool):Eu ms []=.ret ([],[]):=by cases ms<;>rfl
theorem ao_t (ms:List Bool) (v:V) (r:List V):Eu (true::ms) (v::r)=(AK 0 6 v).bind fun x=>if x.1.perm then (Eu ms r).bind fun y=>.ret (x.1::y.1,x.2++y.2) else .fail:=(rfl)
theorem ao_f (ms:List Bool) (v:V) (r:List V):Eu (false::ms) (v::r)=if v.perm then (Eu ms r).bind fun y=>.ret (v::y.1,y.2) else .fail:=(rfl)
theorem ao_0 (v:V) (r:List V):Eu [] (v::r)=if v.perm then (Eu [] r).bind fun y=>.ret (v::y.1,y.2) else .fail:=(rfl)
attribute [go_sem] a6n ao_t ao_f ao_0
theorem Ud (i k:Nat) (m:Ad) (hm:SmM m) (at_ id c:Int) (hc:IntKind.wrap .i64 (id+1)=c) (q:Out→St→Option Ans) (Q:V→Hp→Nat→Prop):∀ (suf pre:List Ap) (kk:Nat),m.words.a0=pre++suf→suf.length<kk+1 →
  Fin (evC ctx (Lv ctx (i+2)) (Aa (Lv ctx (i+2))) k Df ⟨Ae [1,4,5,6,7,8] [iV at_,.ptr 0 0 0,.ptr 7 0 0,iV id,iV 0,iV pre.length],hF m ((pre.map (As c)).map eW++suf.map eW) (m.words.a1.map eW) (m.words.a2.map eW) (m.words.a3.map eW),8⟩ (Al [1,4,5,6,7,8] fun o s=>BZ (Bp 8 [1,4,5,6,7,8] (fun s q=>evC ctx (Lv ctx (i+2)) (Aa (Lv ctx (i+2))) k Df s (Al [1,4,5,6,7,8] q)) q kk) q o s)) Q=Fin (q (.exit 2) ⟨Ae [1,4,5,6,7] [iV at_,.ptr 0 0 0,.ptr 7 0 0,iV id,iV 0],hF m ((m.words.a0.map (As c)).map eW) (m.words.a1.map eW) (m.words.a2.map eW) (m.words.a3.map eW),8⟩) Q
 | [],pre,kk,hxs,hk=>by
  have h1:decide ((pre.length:Int)<(pre.length:Int))=false:=by simp
  have h2:m.words.a0=pre:=by simp [hxs]
  rw [Ah (Df.eq_1)]
  simp only [List.map_nil,List.append_nil]
  rw [h2]
  simp +contextual -dsimp -implicitDefEqProofs (maxSteps:=5000000) only [h1,List.length_map,go_sem,simprocAttr]
  all_goals (try rfl)
 | a::suf,pre,kk,hxs,hk=>by
  obtain ⟨kk,rfl⟩:∃ m,kk=m+1:=⟨kk - 1,by simp at hk;omega⟩
  have h2:((pre.length:Int)<((((pre.map (As c)).map eW++(a::suf).map eW).length:Nat):Int))=True:=by simp;omega
  have h2':((pre.length:Int)<((pre.length+(suf.length+1):Nat):Int))=True:=by simp;omega
  have h3:(0≤(pre.length:Int))=True:=by simp
  have h4:=wrN pre.length (by have:=hm.w0;rw [hxs] at this;simp at this;omega)
  have hg:((pre.map (As c)).map eW++(a::suf).map eW)[pre.length]?=some (eW a):=by simp
  have hset:∀ x,((pre.map (As c)).map eW++(a::suf).map eW).set pre.length x=(pre.map (As c)).map eW++x::suf.map eW:=by intro x;simp [List.set_append]
  have ih:=Ud i k m hm at_ id c hc q Q suf (pre++[a]) kk (by simp [hxs]) (by simpa using hk)
  simp only [Ag,List.map_append,List.map_cons,List.map_nil,List.append_assoc,List.cons_append,List.nil_append] at ih
  by_cases hlk:a.lock=c
  ·have h5:decide (a.lock=c)=true:=by simpa using hlk
   simp only [As,hlk,if_true,eW] at ih
   simp only [eW,List.map_cons,As] at h2 hg hset ⊢
   rw [Ah (Df.eq_1)]
   simp +contextual -dsimp -implicitDefEqProofs (maxSteps:=5000000) only [h2,h2',h3,h4,hg,hset,hc,h5,gLs,go_sem,simprocAttr]
   exact ih
  ·have h5:decide (a.lock=c)=false:=by simpa using hlk
   simp only [As,hlk,if_false,eW] at ih
   simp only [eW,List.map_cons,As] at h2 hg hset ⊢
   rw [Ah (Df.eq_1)]
   simp +contextual -dsimp -implicitDefEqProofs (maxSteps:=5000000) only [h2,h2',h3,h4,hg,hset,hc,h5,gLs,go_sem,simprocAttr]
   exact ih
theorem Uc (i k:Nat) (m:Ad) (hm:SmM m) (at_ id c:Int) (hc:IntKind.wrap .i64 (id+1)=c) (q:Out→St→Option Ans) (Q:V→Hp→Nat→Prop):∀ (suf pre:List Ap) (kk:Nat),m.words.a1=pre++suf→suf.length<kk+1 →
  Fin (evC ctx (Lv ctx (i+2)) (Aa (Lv ctx (i+2))) k Df ⟨Ae [1,4,5,6,7,8] [iV at_,.ptr 0 0 0,.ptr 7 0 0,iV id,iV 1,iV pre.length],hF m ((m.words.a0.map (As c)).map eW) ((pre.map (As c)).map eW++suf.map eW) (m.words.a2.map eW) (m.words.a3.map eW),8⟩ (Al [1,4,5,6,7,8] fun o s=>BZ (Bp 8 [1,4,5,6,7,8] (fun s q=>evC ctx (Lv ctx (i+2)) (Aa (Lv ctx (i+2))) k Df s (Al [1,4,5,6,7,8] q)) q kk) q o s)) Q=Fin (q (.exit 2) ⟨Ae [1,4,5,6,7] [iV at_,.ptr 0 0 0,.ptr 7 0 0,iV id,iV 1],hF m ((m.words.a0.map (As c)).map eW) ((m.words.a1.map (As c)).map eW) (m.words.a2.map eW) (m.words.a3.map eW),8⟩) Q
 | [],pre,kk,hxs,hk=>by
  have h1:decide ((pre.length:Int)<(pre.length:Int))=false:=by simp
  have h2:m.words.a1=pre:=by simp [hxs]
  rw [Ah (Df.eq_1)]
  simp only [List.map_nil,List.append_nil]
  rw [h2]
  simp +contextual -dsimp -implicitDefEqProofs (maxSteps:=5000000) only [h1,List.length_map,go_sem,simprocAttr]
  all_goals (try rfl)
 | a::suf,pre,kk,hxs,hk=>by
  obtain ⟨kk,rfl⟩:∃ m,kk=m+1:=⟨kk - 1,by simp at hk;omega⟩
  have h2:((pre.length:Int)<((((pre.map (As c)).map eW++(a::suf).map eW).length:Nat):Int))=True:=by simp;omega
  have h2':((pre.length:Int)<((pre.length+(suf.length+1):Nat):Int))=True:=by simp;omega
  have h3:(0≤(pre.length:Int))=True:=by simp
  have h4:=wrN pre.length (by have:=hm.w1;rw [hxs] at this;simp at this;omega)
  have hg:((pre.map (As c)).map eW++(a::suf).map eW)[pre.length]?=some (eW a):=by simp
  have hset:∀ x,((pre.map (As c)).map eW++(a::suf).map eW).set pre.length x=(pre.map (As c)).map eW++x::suf.map eW:=by intro x;simp [List.set_append]
  have ih:=Uc i k m hm at_ id c hc q Q suf (pre++[a]) kk (by simp [hxs]) (by simpa using hk)
  simp only [Ag,List.map_append,List.map_cons,List.map_nil,List.append_assoc,List.cons_append,List.nil_append] at ih
  by_cases hlk:a.lock=c
  ·have h5:decide (a.lock=c)=true:=by simpa using hlk
   simp only [As,hlk,if_true,eW] at ih
   simp only [eW,List.map_cons,As] at h2 hg hset ⊢
   rw [Ah (Df.eq_1)]
   simp +contextual -dsimp -implicitDefEqProofs (maxSteps:=5000000) only [h2,h2',h3,h4,hg,hset,hc,h5,gLs,go_sem,simprocAttr]
   exact ih
  ·have h5:decide (a.lock=c)=false:=by simpa using hlk
   simp only [As,hlk,if_false,eW] at ih
   simp only [eW,List.map_cons,As] at h2 hg hset ⊢
   rw [Ah (Df.eq_1)]
   simp +contextual -dsimp -implicitDefEqProofs (maxSteps:=5000000) only [h2,h2',h3,h4,hg,hset,hc,h5,gLs,go_sem,simprocAttr]
   exact ih
theorem Ub (i k:Nat) (m:Ad) (hm:SmM m) (at_ id c:Int) (hc:IntKind.wrap .i64 (id+1)=c) (q:Out→St→Option Ans) (Q:V→Hp→Nat→Prop):∀ (suf pre:List Ap) (kk:Nat),m.words.a2=pre++suf→suf.length<kk+1 →
  Fin (evC ctx (Lv ctx (i+2)) (Aa (Lv ctx (i+2))) k Df ⟨Ae [1,4,5,6,7,8] [iV at_,.ptr 0 0 0,.ptr 7 0 0,iV id,iV 2,iV pre.length],hF m ((m.words.a0.map (As c)).map eW) ((m.words.a1.map (As c)).map eW) ((pre.map (As c)).map eW++suf.map eW) (m.words.a3.map eW),8⟩ (Al [1,4,5,6,7,8] fun o s=>BZ (Bp 8 [1,4,5,6,7,8] (fun s q=>evC ctx (Lv ctx (i+2)) (Aa (Lv ctx (i+2))) k Df s (Al [1,4,5,6,7,8] q)) q kk) q o s)) Q=Fin (q (.exit 2) ⟨Ae [1,4,5,6,7] [iV at_,.ptr 0 0 0,.ptr 7 0 0,iV id,iV 2],hF m ((m.words.a0.map (As c)).map eW) ((m.words.a1.map (As c)).map eW) ((m.words.a2.map (As c)).map eW) (m.words.a3.map eW),8⟩) Q
 | [],pre,kk,hxs,hk=>by
  have h1:decide ((pre.length:Int)<(pre.length:Int))=false:=by simp
  have h2:m.words.a2=pre:=by simp [hxs]
  rw [Ah (Df.eq_1)]
  simp only [List.map_nil,List.append_nil]
  rw [h2]
  simp +contextual -dsimp -implicitDefEqProofs (maxSteps:=5000000) only [h1,List.length_map,go_sem,simprocAttr]
  all_goals (try rfl)
 | a::suf,pre,kk,hxs,hk=>by
  obtain ⟨kk,rfl⟩:∃ m,kk=m+1:=⟨kk - 1,by simp at hk;omega⟩
  have h2:((pre.length:Int)<((((pre.map (As c)).map eW++(a::suf).map eW).length:Nat):Int))=True:=by simp;omega
  have h2':((pre.length:Int)<((pre.length+(suf.length+1):Nat):Int))=True:=by simp;omega
  have h3:(0≤(pre.length:Int))=True:=by simp
  have h4:=wrN pre.length (by have:=hm.w2;rw [hxs] at this;simp at this;omega)
  have hg:((pre.map (As c)).map eW++(a::suf).map eW)[pre.length]?=some (eW a):=by simp
  have hset:∀ x,((pre.map (As c)).map eW++(a::suf).map eW).set pre.length x=(pre.map (As c)).map eW++x::suf.map eW:=by intro x;simp [List.set_append]
  have ih:=Ub i k m hm at_ id c hc q Q suf (pre++[a]) kk (by simp [hxs]) (by simpa using hk)
  simp only [Ag,List.map_append,List.map_cons,List.map_nil,List.append_assoc,List.cons_append,List.nil_append] at ih
  by_cases hlk:a.lock=c
  ·have h5:decide (a.lock=c)=true:=by simpa using hlk
   simp only [As,hlk,if_true,eW] at ih
   simp only [eW,List.map_cons,As] at h2 hg hset ⊢
   rw [Ah (Df.eq_1)]
   simp +contextual -dsimp -implicitDefEqProofs (maxSteps:=5000000) only [h2,h2',h3,h4,hg,hset,hc,h5,gLs,go_sem,simprocAttr]
   exact ih
  ·have h5:decide (a.lock=c)=false:=by simpa using hlk
   simp only [As,hlk,if_false,eW] at ih
   simp only [eW,List.map_cons,As] at h2 hg hset ⊢
   rw [Ah (Df.eq_1)]
   simp +contextual -dsimp -implicitDefEqProofs (maxSteps:=5000000) only [h2,h2',h3,h4,hg,hset,hc,h5,gLs,go_sem,simprocAttr]
   exact ih
theorem Ua (i k:Nat) (m:Ad) (hm:SmM m) (at_ id c:Int) (hc:IntKind.wrap .i64 (id+1)=c) (q:Out→St→Option Ans) (Q:V→Hp→Nat→Prop):∀ (suf pre:List Ap) (kk:Nat),m.words.a3=pre++suf→suf.length<kk+1 →
  Fin (evC ctx (Lv ctx (i+2)) (Aa (Lv ctx (i+2))) k Df ⟨Ae [1,4,5,6,7,8] [iV at_,.ptr 0 0 0,.ptr 7 0 0,iV id,iV 3,iV pre.length],hF m ((m.words.a0.map (As c)).map eW) ((m.words.a1.map (As c)).map eW) ((m.words.a2.map (As c)).map eW) ((pre.map (As c)).map eW++suf.map eW),8⟩ (Al [1,4,5,6,7,8] fun o s=>BZ (Bp 8 [1,4,5,6,7,8] (fun s q=>evC ctx (Lv ctx (i+2)) (Aa (Lv ctx (i+2))) k Df s (Al [1,4,5,6,7,8] q)) q kk) q o s)) Q=Fin (q (.exit 2) ⟨Ae [1,4,5,6,7] [iV at_,.ptr 0 0 0,.ptr 7 0 0,iV id,iV 3],hF m ((m.words.a0.map (As c)).map eW) ((m.words.a1.map (As c)).map eW) ((m.words.a2.map (As c)).map eW) ((m.words.a3.map (As c)).map eW),8⟩) Q
 | [],pre,kk,hxs,hk=>by
  have h1:decide ((pre.length:Int)<(pre.length:Int))=false:=by simp
  have h2:m.words.a3=pre:=by simp [hxs]
  rw [Ah (Df.eq_1)]
  simp only [List.map_nil,List.append_nil]
  rw [h2]
  simp +contextual -dsimp -implicitDefEqProofs (maxSteps:=5000000) only [h1,List.length_map,go_sem,simprocAttr]
  all_goals (try rfl)
 | a::suf,pre,kk,hxs,hk=>by
  obtain ⟨kk,rfl⟩:∃ m,kk=m+1:=⟨kk - 1,by simp at hk;omega⟩
  have h2:((pre.length:Int)<((((pre.map (As c)).map eW++(a::suf).map eW).length:Nat):Int))=True:=by simp;omega
  have h2':((pre.length:Int)<((pre.length+(suf.length+1):Nat):Int))=True:=by simp;omega
  have h3:(0≤(pre.length:Int))=True:=by simp
  have h4:=wrN pre.length (by have:=hm.w3;rw [hxs] at this;simp at this;omega)
  have hg:((pre.map (As c)).map eW++(a::suf).map eW)[pre.length]?=some (eW a):=by simp
  have hset:∀ x,((pre.map (As c)).map eW++(a::suf).map eW).set pre.length x=(pre.map (As c)).map eW++x::suf.map eW:=by intro x;simp [List.set_append]
  have ih:=Ua i k m hm at_ id c hc q Q suf (pre++[a]) kk (by simp [hxs]) (by simpa using hk)
  simp only [Ag,List.map_append,List.map_cons,List.map_nil,List.append_assoc,List.cons_append,List.nil_append] at ih
  by_cases hlk:a.lock=c
  ·have h5:decide (a.lock=c)=true:=by simpa using hlk
   simp only [As,hlk,if_true,eW] at ih
   simp only [eW,List.map_cons,As] at h2 hg hset ⊢
   rw [Ah (Df.eq_1)]
   simp +contextual -dsimp -implicitDefEqProofs (maxSteps:=5000000) only [h2,h2',h3,h4,hg,hset,hc,h5,gLs,go_sem,simprocAttr]
   exact ih
  ·have h5:decide (a.lock=c)=false:=by simpa using hlk
   simp only [As,hlk,if_false,eW] at ih
   simp only [eW,List.map_cons,As] at h2 hg hset ⊢
   rw [Ah (Df.eq_1)]
   simp +contextual -dsimp -implicitDefEqProofs (maxSteps:=5000000) only [h2,h2',h3,h4,hg,hset,hc,h5,gLs,go_sem,simprocAttr]
   exact ih
theorem Zh (i:Nat) (pf:Bool) (m:Ad) (hm:SmM m) (k:Nat) (s:Ai) (hs:m.sess[k]?=some s):Aa (Lv ctx (i+3)) 190 [eM pf m,iV k]=some (oM (AE (BC (IntKind.wrap .i64 (s.id+1)) m) k (DH s))):=by
 have hk:=Ax hs
 have h1:(0≤(k:Int))=True:=by simp
 have h2:((k:Int)<(m.sess.length:Int))=True:=by simpa using hk
 have h3:(m.sess.map oS)[k]?=some (oS s):=by simp [hs]
 have h4:∀ x y,((m.sess.map oS).set k x).set k y=(m.sess.map oS).set k y:=fun x y=>List.set_set ..
 have h5:∀ x,((m.sess.map oS).set k x)[k]?=some x:=fun x=>List.getElem?_set_self (by simpa using hk)
 have hc:=FH (i+0) pf m hm
 have l0:=fun q Q=>Ud i (m.words.a0.length+m.words.a1.length+m.words.a2.length+m.words.a3.length+5) m hm k s.id (IntKind.wrap .i64 (s.id+1)) rfl q Q m.words.a0 [] (m.words.a0.length+m.words.a1.length+m.words.a2.length+m.words.a3.length+4) rfl (by omega)
 have l1:=fun q Q=>Uc i (m.words.a0.length+m.words.a1.length+m.words.a2.length+m.words.a3.length+5) m hm k s.id (IntKind.wrap .i64 (s.id+1)) rfl q Q m.words.a1 [] (m.words.a0.length+m.words.a1.length+m.words.a2.length+m.words.a3.length+4) rfl (by omega)
 have l2:=fun q Q=>Ub i (m.words.a0.length+m.words.a1.length+m.words.a2.length+m.words.a3.length+5) m hm k s.id (IntKind.wrap .i64 (s.id+1)) rfl q Q m.words.a2 [] (m.words.a0.length+m.words.a1.length+m.words.a2.length+m.words.a3.length+4) rfl (by omega)
 have l3:=fun q Q=>Ua i (m.words.a0.length+m.words.a1.length+m.words.a2.length+m.words.a3.length+5) m hm k s.id (IntKind.wrap .i64 (s.id+1)) rfl q Q m.words.a3 [] (m.words.a0.length+m.words.a1.length+m.words.a2.length+m.words.a3.length+4) rfl (by omega)
 simp only [Nat.add_assoc,Nat.reduceAdd,oS] at hc h3
 simp only [List.map_nil,List.nil_append,List.length_nil,Pl] at l0 l1 l2 l3
 refine Ac rfl (m.words.a0.length+m.words.a1.length+m.words.a2.length+m.words.a3.length+5) (by rfl) ?_
 delta c190
 simp +contextual -dsimp -implicitDefEqProofs (maxSteps:=5000000) only [hc,hs,h1,h2,h3,h4,h5,gLs,↓l0,↓l1,↓l2,↓l3,l0,l1,l2,l3,↓Ah (oK.eq_1),List.length_set,go_sem,simprocAttr]
 simp only [oM,cO,oWs,oSs,oEs,AE,BC,List.map_set,DH]
 all_goals rfl
theorem KG (i:Nat) (m:Ad) (k:Nat) (s:Ai) (hs:m.sess[k]?=some s) (kd vl:Int):Aa (Lv ctx (i+1)) 158 [oM m,iV k,iV kd,iV vl]=some (oM (Ba m ⟨s.id,s.label,kd,vl⟩)):=by
 have hk:=Ax hs
 have h1:(0≤(k:Int))=True:=by simp
 have h2:((k:Int)<(m.sess.length:Int))=True:=by simpa using hk
 have h3:(m.sess.map oS)[k]?=some (oS s):=by simp [hs]
 simp only [oS] at h3
 by_cases htr:m.trace.length<512
 ·have h6:decide ((m.trace.length:Int)<512)=true:=by simp;omega
  have h7:(((m.trace.length+1:Nat):Int)*32≤140737488355328)=True:=by simp;omega
  refine Ac rfl 0 (by rfl) ?_
  delta c158
  simp +contextual -dsimp -implicitDefEqProofs (maxSteps:=5000000) only [h1,h2,hs,h6,h7,go_sem,simprocAttr]
  simp only [oM,cO,oWs,oSs,oEs,Ba,htr,if_true,List.map_append]
  rfl
 ·have h6:decide ((m.trace.length:Int)<512)=false:=by simp;omega
  refine Ac rfl 0 (by rfl) ?_
  delta c158
  simp +contextual -dsimp -implicitDefEqProofs (maxSteps:=5000000) only [h6,go_sem,simprocAttr]
  simp only [oM,cO,oWs,oSs,oEs,Ba,htr,if_false]
end Ve
