/- Undoing: the program's, on. -/
import Derived.Test.YtdgpalcplglhjaaGreatVeSA
set_option linter.all false
set_option linter.unusedSectionVars false
namespace Ve
open Go Ve.Ab
set_option maxHeartbeats 16000000
set_option maxRecDepth 10000
theorem eD (L:Lay) (t:TypeId):Bg L t (.lit (.slice none 0 0))=match L t with
 | some { k:=.sl el,.. }=>match L el with
  | some e=>.own e.size []
  | none=>.lit (.slice none 0 0)
 | _=>.lit (.slice none 0 0):=by
 simp only [Bg,V.isNil,if_true]
 rcases L t with _ | ⟨_,_,_,k,_,_,_⟩
 ·rfl
 ·cases k<;>rfl
attribute [go_sem] eD
abbrev hN (m:Ad) (a1 a2 a3 a4:List V) (els:List V):Hp :=
 pO (pO (pO (pO (pO (pO (pO (pO Ag 0 (some ⟨11,[zM],false⟩)) 1 (some ⟨3,a1,false⟩)) 2 (some ⟨3,a2,false⟩)) 3 (some ⟨3,a3,false⟩)) 4 (some ⟨3,a4,false⟩)) 5 (some ⟨17,els,false⟩)) 6 (some ⟨4,m.trace.map eE,false⟩))
  7 (some ⟨11,[.agg [.sl 1,.sl 2,.sl 3,.sl 4,iV m.clocks.a0,iV m.clocks.a1,iV m.clocks.a2,iV m.clocks.a3,iV m.ceil,.sl 5,.sl 6]],true⟩)
abbrev hT (m:Ad) (a1 a2 a3 a4:List V) (els:List V) (e:Bl):Hp :=
 pO (pO (pO (pO (pO (pO (pO (pO (pO (pO Ag 0 (some ⟨11,[zM],false⟩)) 1 (some ⟨3,a1,false⟩)) 2 (some ⟨3,a2,false⟩)) 3 (some ⟨3,a3,false⟩)) 4 (some ⟨3,a4,false⟩)) 5 (some ⟨17,els,false⟩)) 6 none)
  7 (some ⟨11,[.agg [.sl 1,.sl 2,.sl 3,.sl 4,iV m.clocks.a0,iV m.clocks.a1,iV m.clocks.a2,iV m.clocks.a3,iV m.ceil,.sl 5,.sl 9]],true⟩)) 8 none) 9 (some ⟨4,m.trace.map eE++[eE e],false⟩)
theorem ZV (i:Nat) (m:Ad) (hm:SmM m) (k:Nat) (s:Af) (hs:m.sess[k]?=some s):Lv ctx (i+2) 53 [.ptr 7 0 0,iV k] (hF0 m) 8 =
  some (.ptr 5 k 0,hN m ((m.words.a0.map (Ap (IntKind.wrap .i64 (s.id+1)))).map eW) ((m.words.a1.map (Ap (IntKind.wrap .i64 (s.id+1)))).map eW) ((m.words.a2.map (Ap (IntKind.wrap .i64 (s.id+1)))).map eW) ((m.words.a3.map (Ap (IntKind.wrap .i64 (s.id+1)))).map eW) ((m.sess.map oS).set k (oS (Du s))),8):=by
 have hk:k<m.sess.length:=by
  rcases Nat.lt_or_ge k m.sess.length with h | h
  ·exact h
  ·rw [List.getElem?_eq_none h] at hs;cases hs
 have h1:(0≤(k:Int))=True:=by simp
 have h2:((k:Int)<(m.sess.length:Int))=True:=by simpa using hk
 have h3:(m.sess.map oS)[k]?=some (oS s):=by simp [hs]
 have h4:∀ x y,((m.sess.map oS).set k x).set k y=(m.sess.map oS).set k y:=fun x y=>List.set_set ..
 have h5:∀ x,((m.sess.map oS).set k x)[k]?=some x:=fun x=>List.getElem?_set_self (by simpa using hk)
 have hf:=qT i m hm s.id _ rfl
 simp only [oS] at h3
 refine Nc rfl 0 ?_
 delta c53
 simp +contextual -dsimp -implicitDefEqProofs (maxSteps:=5000000) only [h1,h2,h3,h4,h5,hf,Du,List.map_nil,go_sem,simprocAttr]
 rfl
theorem ZP (i:Nat) (m:Ad) (a1 a2 a3 a4 l:List V) (k:Nat) (hk:k<l.length) (id lb:Int) (rest:List V) (kd vl:Int) (htr:m.trace.length<512) :
  Lv ctx (i+1) 26 [.ptr 7 0 0,iV k,iV kd,iV vl] (hN m a1 a2 a3 a4 (l.set k (.agg (iV id::iV lb::rest)))) 8=some (.tup [],hT m a1 a2 a3 a4 (l.set k (.agg (iV id::iV lb::rest))) ⟨id,lb,kd,vl⟩,10):=by
 have h1:(0≤(k:Int))=True:=by simp
 have h2:((k:Int)<(l.length:Int))=True:=by simpa using hk
 have h5:∀ x,(l.set k x)[k]?=some x:=fun x=>List.getElem?_set_self hk
 have h6:decide ((m.trace.length:Int)<512)=true:=by simp;omega
 have h7:(((m.trace.length+1:Nat):Int)*32≤140737488355328)=True:=by simp;omega
 refine Nc rfl 0 ?_
 delta c26
 simp +contextual -dsimp -implicitDefEqProofs (maxSteps:=5000000) only [h1,h2,h5,h6,h7,List.length_set,List.replicate,go_sem,simprocAttr]
 rfl
theorem PM (i:Nat) (m:Ad) (a1 a2 a3 a4 els:List V) (k:Int) (kd vl:Int) (htr:¬ m.trace.length<512) :
  Lv ctx (i+1) 26 [.ptr 7 0 0,iV k,iV kd,iV vl] (hN m a1 a2 a3 a4 els) 8=some (.tup [],hN m a1 a2 a3 a4 els,8):=by
 have h6:decide ((m.trace.length:Int)<512)=false:=by simp;omega
 refine Nc rfl 0 ?_
 delta c26
 simp +contextual -dsimp -implicitDefEqProofs (maxSteps:=5000000) only [h6,go_sem,simprocAttr]
theorem Jg {x:Option (V × Hp × Nat)} {v:V} {h:Hp} {n:Nat} {k:V→Hp→Nat→Option Ans} {Q:V→Hp→Nat→Prop} {u:Dum k} (hx:x=some (v,h,n)) (hk:Fin (k v h n) Q):GI x k Q u:=by rw [hx];exact hk
theorem LW (i:Nat) (pf:Bool) (m:Ad) (hm:SmM m) (at_ kind:Int):Aa (Lv ctx (i+21)) 166 [eM pf m,iV at_,iV kind]=some (.tup [oM (By m at_ kind).1,iV (By m at_ kind).2]):=by
 have ht:=Hm (i+0) pf pf m at_ hm
 have hc:=DE (i+17) pf m hm
 simp only [Nat.add_assoc,Nat.reduceAdd] at ht hc
 cases h1:(Bq m at_&&(decide (kind=3)||decide (kind=5)))
 ·have h2:∀ a b c:Bool,(!a||!b&&!c)=!(a&&(b||c)):=by decide
  have h3:=h2 (Bq m at_) (decide (kind=3)) (decide (kind=5))
  rw [h1] at h3
  refine Ac rfl 0 (by rfl) ?_
  delta nN
  simp +contextual -dsimp -implicitDefEqProofs (maxSteps:=5000000) only [ht,h3,go_sem,simprocAttr]
  simp only [By,h1]
  rfl
 ·have h2:∀ a b c:Bool,(!a||!b&&!c)=!(a&&(b||c)):=by decide
  have h3:=h2 (Bq m at_) (decide (kind=3)) (decide (kind=5))
  rw [h1] at h3
  have hh:Bq m at_=true:=by simp only [Bool.and_eq_true] at h1;exact h1.1
  obtain ⟨s,k,rfl,hs,hk⟩:=ID hh
  have hd:=ZV (i+(20 - 2)) m hm k s hs
  have h5:∀ x,((m.sess.map oS).set k x)[k]?=some x:=fun x=>List.getElem?_set_self (by simpa using hk)
  have h4:∀ x y,((m.sess.map oS).set k x).set k y=(m.sess.map oS).set k y:=fun x y=>List.set_set ..
  have hm1:By m k kind=(AT (AA (BV (IntKind.wrap .i64 (s.id+1)) m) k (CT s)) ⟨s.id,s.label,kind,Jn s.tries⟩,0):=by
   simp only [By,h1,if_true,Int.toNat_natCast,hs]
  rw [hm1]
  by_cases htr:m.trace.length<512
  ·have hn:=ZP (i+(20 - 1)) m ((m.words.a0.map (Ap (IntKind.wrap .i64 (s.id+1)))).map eW) ((m.words.a1.map (Ap (IntKind.wrap .i64 (s.id+1)))).map eW) ((m.words.a2.map (Ap (IntKind.wrap .i64 (s.id+1)))).map eW) ((m.words.a3.map (Ap (IntKind.wrap .i64 (s.id+1)))).map eW) (m.sess.map oS) k (by simpa using hk) s.id s.label
    [iV s.clear,oIs s.prog,iV 0,iV 0,iV 0,iV 0,iV 0,iV 0,oRs [],LP [],iV 0,iV 0,iV (Jn s.tries),iV s.result,iV s.told] kind (Jn s.tries) htr
   simp only [Nat.add_assoc,Nat.reduceAdd,Nat.reduceSub] at hd hn
   refine Ac rfl 0 (by rfl) ?_
   delta nN
   simp +contextual -dsimp -implicitDefEqProofs (maxSteps:=5000000) only [ht,hc,h3,hd,h4,h5,hn,Du,Jn,go_sem,simprocAttr]
   refine Jg hn ?_
   simp +contextual -dsimp -implicitDefEqProofs (maxSteps:=5000000) only [h5,h4,go_sem,simprocAttr]
   simp only [oM,cO,oWs,oSs,oEs,AT,AA,BV,htr,if_true,List.map_set,List.map_append,CT,Du]
   rfl
  ·have hn:=PM (i+(20 - 1)) m ((m.words.a0.map (Ap (IntKind.wrap .i64 (s.id+1)))).map eW) ((m.words.a1.map (Ap (IntKind.wrap .i64 (s.id+1)))).map eW) ((m.words.a2.map (Ap (IntKind.wrap .i64 (s.id+1)))).map eW) ((m.words.a3.map (Ap (IntKind.wrap .i64 (s.id+1)))).map eW)
    ((m.sess.map oS).set k (oS (CT s))) k kind (Jn s.tries) htr
   simp only [Nat.add_assoc,Nat.reduceAdd,Nat.reduceSub] at hd hn
   refine Ac rfl 0 (by rfl) ?_
   delta nN
   simp +contextual -dsimp -implicitDefEqProofs (maxSteps:=5000000) only [ht,hc,h3,hd,h4,h5,Du,go_sem,simprocAttr]
   refine Jg hn ?_
   simp +contextual -dsimp -implicitDefEqProofs (maxSteps:=5000000) only [h5,h4,go_sem,simprocAttr]
   simp only [oM,cO,oWs,oSs,oEs,AT,AA,BV,htr,if_false,List.map_set,CT,Du]
   rfl
theorem Sh (i:Nat) (pf:Bool) (m:Ad) (hm:SmM m) (at_ result told:Int):Aa (Lv ctx (i+21)) 24 [eM pf m,iV at_,iV result,iV told]=some (.tup [oM (CL m at_ result told).1,iV (CL m at_ result told).2]):=by
 have ht:=Hm (i+0) pf pf m at_ hm
 have hc:=DE (i+17) pf m hm
 simp only [Nat.add_assoc,Nat.reduceAdd] at ht hc
 have h2:∀ a b c d:Bool,(!a||!b||!c||!d)=!(a&&(b&&c)&&d):=by decide
 have h3:=h2 (Bq m at_) (decide (0≤result)) (decide (result≤5)) (inR told 255)
 have n1:decide (result<0)=!decide (0≤result):=by rw [← decide_not];apply decide_eq_decide.mpr;omega
 have n2:decide (5<result)=!decide (result≤5):=by rw [← decide_not];apply decide_eq_decide.mpr;omega
 cases h1:(Bq m at_&&(decide (0≤result)&&decide (result≤5))&&inR told 255)<;>rw [h1] at h3
 ·refine Ac rfl 0 (by rfl) ?_
  delta c24
  simp +contextual -dsimp -implicitDefEqProofs (maxSteps:=5000000) only [ht,h3,n1,n2,go_sem,simprocAttr]
  simp only [CL,inR] at h1 ⊢
  simp only [h1]
  rfl
 ·have hh:Bq m at_=true:=by simp only [Bool.and_eq_true] at h1;exact h1.1.1
  obtain ⟨s,k,rfl,hs,hk⟩:=ID hh
  have hd:=ZV (i+(20 - 2)) m hm k s hs
  have h5:∀ x,((m.sess.map oS).set k x)[k]?=some x:=fun x=>List.getElem?_set_self (by simpa using hk)
  have h4:∀ x y,((m.sess.map oS).set k x).set k y=(m.sess.map oS).set k y:=fun x y=>List.set_set ..
  have hm1:CL m k result told=(AT (AA (BV (IntKind.wrap .i64 (s.id+1)) m) k (FZ s result told)) ⟨s.id,s.label,6,result⟩,0):=by
   simp only [inR] at h1
   simp only [CL,inR,h1,if_true,Int.toNat_natCast,hs]
  rw [hm1]
  by_cases htr:m.trace.length<512
  ·have hn:=ZP (i+(20 - 1)) m ((m.words.a0.map (Ap (IntKind.wrap .i64 (s.id+1)))).map eW) ((m.words.a1.map (Ap (IntKind.wrap .i64 (s.id+1)))).map eW) ((m.words.a2.map (Ap (IntKind.wrap .i64 (s.id+1)))).map eW) ((m.words.a3.map (Ap (IntKind.wrap .i64 (s.id+1)))).map eW) (m.sess.map oS) k (by simpa using hk) s.id s.label
    [iV s.clear,oIs s.prog,iV 6,iV s.pc,iV s.regs.a0,iV s.regs.a1,iV s.regs.a2,iV s.regs.a3,oRs [],LP [],iV 0,iV 0,iV s.tries,iV result,iV told] 6 result htr
   simp only [Nat.add_assoc,Nat.reduceAdd,Nat.reduceSub] at hd hn
   refine Ac rfl 0 (by rfl) ?_
   delta c24
   simp +contextual -dsimp -implicitDefEqProofs (maxSteps:=5000000) only [ht,hc,h3,n1,n2,hd,h4,h5,Du,go_sem,simprocAttr]
   refine Jg hn ?_
   simp +contextual -dsimp -implicitDefEqProofs (maxSteps:=5000000) only [h5,h4,go_sem,simprocAttr]
   simp only [oM,cO,oWs,oSs,oEs,AT,AA,BV,htr,if_true,List.map_set,List.map_append,FZ,Du]
   rfl
  ·have hn:=PM (i+(20 - 1)) m ((m.words.a0.map (Ap (IntKind.wrap .i64 (s.id+1)))).map eW) ((m.words.a1.map (Ap (IntKind.wrap .i64 (s.id+1)))).map eW) ((m.words.a2.map (Ap (IntKind.wrap .i64 (s.id+1)))).map eW) ((m.words.a3.map (Ap (IntKind.wrap .i64 (s.id+1)))).map eW)
    ((m.sess.map oS).set k (oS (FZ s result told))) k 6 result htr
   simp only [Nat.add_assoc,Nat.reduceAdd,Nat.reduceSub] at hd hn
   refine Ac rfl 0 (by rfl) ?_
   delta c24
   simp +contextual -dsimp -implicitDefEqProofs (maxSteps:=5000000) only [ht,hc,h3,n1,n2,hd,h4,h5,Du,go_sem,simprocAttr]
   refine Jg hn ?_
   simp +contextual -dsimp -implicitDefEqProofs (maxSteps:=5000000) only [h5,h4,go_sem,simprocAttr]
   simp only [oM,cO,oWs,oSs,oEs,AT,AA,BV,htr,if_false,List.map_set,FZ,Du]
   rfl
end Ve
namespace Ve
open Go Ve.Ab
set_option maxHeartbeats 16000000
set_option maxRecDepth 100000
@[go_sem] theorem r_there (i:Nat) (a b c d na nb nc nd:Bool) (w0 w1 w2 w3:List Al) (l x:Int):Aa (Lv ctx (i+3)) 140 [.agg [.isl a na 3 (w0.map eW),.isl b nb 3 (w1.map eW),.isl c nc 3 (w2.map eW),.isl d nd 3 (w3.map eW)],iV l,iV x]=some (bV (AW ⟨w0,w1,w2,w3⟩ l x)):=by
 rcases Bb l with rfl | rfl | rfl | rfl | h<;>refine Ac rfl 0 (by rfl) ?_<;>delta c140
 case inr.inr.inr.inr=>simp +contextual -dsimp -implicitDefEqProofs (maxSteps:=5000000) only [AW,h,go_sem,simprocAttr]
 all_goals simp +contextual -dsimp -implicitDefEqProofs (maxSteps:=5000000) only [AW,A4.get,go_sem,simprocAttr]
@[go_sem] theorem r_regsMay (i:Nat) (a b c d:Int):Aa (Lv ctx (i+3)) 136 [.agg [iV a,iV b,iV c,iV d]]=some (bV (DH 255 a b c d)):=by
 refine Ac rfl 5 (by rfl) ?_
 delta c136
 simp +contextual -dsimp -implicitDefEqProofs (maxSteps:=5000000) only [gLs,↓Aj (fG.eq_1),DH,go_sem,simprocAttr]
 cases inR a 255<;>cases inR b 255<;>cases inR c 255<;>cases inR d 255<;>simp_all
theorem OF (i k:Nat) (xs:List AO) (hx:xs.length≤BB) (pf nn:Bool) (pa b c d na nb nc nd:Bool) (w0 w1 w2 w3:List Al) (q:Out→St→Option Ans) (Q:V→Hp→Nat→Prop) (u:Dum (fun s q=>evC ctx (Lv ctx (i+3)) (Aa (Lv ctx (i+3))) k Lk s (As [1,2,5] q))) (w:Dum q):∀ (suf pre:List AO) (kk:Nat),xs=pre++suf→suf.length<kk →
  GL 0 [1,2,5] (fun s q=>evC ctx (Lv ctx (i+3)) (Aa (Lv ctx (i+3))) k Lk s (As [1,2,5] q)) q kk ⟨Ae [1,2,5] [.isl pf nn 3 (xs.map eR),.ip (pa&&(b&&(c&&d))) [.isl pa na 3 (w0.map eW),.isl b nb 3 (w1.map eW),.isl c nc 3 (w2.map eW),.isl d nd 3 (w3.map eW)] 0,iV pre.length],Ag,0⟩ Q u w=Fc (suf.all fun a=>AW ⟨w0,w1,w2,w3⟩ a.level a.index) (Fin (q (.exit 0) ⟨Ae [] [],Ag,0⟩) Q) (Fin (q .ret ⟨Ae [4] [bV false],Ag,0⟩) Q)
 | [],pre,kk,hxs,hk=>by
  obtain ⟨kk,rfl⟩:∃ m,kk=m+1:=⟨kk - 1,by simp at hk;omega⟩
  have h1:decide ((pre.length:Int)<(xs).length)=false:=by simp [hxs]
  simp +contextual -dsimp -implicitDefEqProofs (maxSteps:=5000000) only [gLs,↓Aj (Lk.eq_1),h1,Bc,List.all_nil,go_sem,simprocAttr]
 | a::suf,pre,kk,hxs,hk=>by
  obtain ⟨kk,rfl⟩:∃ m,kk=m+1:=⟨kk - 1,by simp at hk;omega⟩
  have hl:pre.length<(xs).length:=by simp [hxs]
  have h2:((pre.length:Int)<(xs).length)=True:=by simpa using hl
  have h3:(0≤(pre.length:Int))=True:=by simp
  have h4:=wrN pre.length (by have:=hx;omega)
  have hg:(xs)[pre.length]?=some a:=by simp [hxs]
  have hmem:a∈xs:=by simp [hxs]
  have ih:=OF i k xs hx pf nn pa b c d na nb nc nd w0 w1 w2 w3 q Q u w suf (pre++[a]) kk (by simp [hxs]) (by simpa using hk)
  rw [Ao] at ih
  simp only [List.all_cons]
  cases hb:(AW ⟨w0,w1,w2,w3⟩ a.level a.index)
  ·rw [Bool.false_and]
   repeat simp +contextual -dsimp -implicitDefEqProofs (maxSteps:=5000000) only [gLs,↓Aj (Lk.eq_1),h2,h3,h4,hg,hb,Ax,go_sem,simprocAttr]
  ·rw [Bool.true_and]
   repeat simp +contextual -dsimp -implicitDefEqProofs (maxSteps:=5000000) only [gLs,↓Aj (Lk.eq_1),h2,h3,h4,hg,hb,ih,go_sem,simprocAttr]
theorem MF (i:Nat) (pf nn:Bool) (xs:List AO) (hx:xs.length≤BB) (a b c d na nb nc nd:Bool) (w0 w1 w2 w3:List Al):Aa (Lv ctx (i+4)) 115 [.agg [.isl a na 3 (w0.map eW),.isl b nb 3 (w1.map eW),.isl c nc 3 (w2.map eW),.isl d nd 3 (w3.map eW)],.isl pf nn 3 (xs.map eR)]=some (bV (AD ⟨w0,w1,w2,w3⟩ xs)):=by
 refine Ac rfl (xs.length+1) (by rfl) ?_
 delta c115
 have h2:=fun q Q u w=>OF i (xs.length+1) xs hx pf nn a b c d na nb nc nd w0 w1 w2 w3 q Q u w xs [] (xs.length+1) rfl (by omega)
 simp only [List.length_nil,Int.natCast_zero] at h2
 simp +contextual -dsimp -implicitDefEqProofs (maxSteps:=5000000) only [AD,go_sem,simprocAttr]
 refine Eq.mpr (h2 _ _ _ _) ?_
 cases hb:(xs.all fun a=>AW ⟨w0,w1,w2,w3⟩ a.level a.index)<;>simp +contextual -dsimp -implicitDefEqProofs (maxSteps:=5000000) only [Bc,Ax,go_sem,simprocAttr]
theorem OE (i k:Nat) (ps:Bool) (s:Af) (hs:SmS s) (pa b c d na nb nc nd:Bool) (w0 w1 w2 w3:List Al) (q:Out→St→Option Ans) (Q:V→Hp→Nat→Prop) (u:Dum (fun s q=>evC ctx (Lv ctx (i+4)) (Aa (Lv ctx (i+4))) k JQ s (As [2,3,5] q))) (w:Dum q):∀ (suf pre:List Av) (kk:Nat),s.prog=pre++suf→suf.length<kk →
  GL 0 [2,3,5] (fun s q=>evC ctx (Lv ctx (i+4)) (Aa (Lv ctx (i+4))) k JQ s (As [2,3,5] q)) q kk ⟨Ae [2,3,5] [.ip (pa&&(b&&(c&&d))) [.isl pa na 3 (w0.map eW),.isl b nb 3 (w1.map eW),.isl c nc 3 (w2.map eW),.isl d nd 3 (w3.map eW)] 0,.ip ps [iV s.id,iV s.label,iV s.clear,eIs ps s.prog,iV s.step,iV s.pc,iV s.regs.a0,iV s.regs.a1,iV s.regs.a2,iV s.regs.a3,eRs ps s.reads,UY ps s.writes,iV s.at_,iV s.stamp,iV s.tries,iV s.result,iV s.told] 0,iV pre.length],Ag,0⟩ Q u w=Fc (suf.all fun a=>!(Gx a.code)||AW ⟨w0,w1,w2,w3⟩ a.b a.c) (Fin (q (.exit 0) ⟨Ae [2,3] [.ip (pa&&(b&&(c&&d))) [.isl pa na 3 (w0.map eW),.isl b nb 3 (w1.map eW),.isl c nc 3 (w2.map eW),.isl d nd 3 (w3.map eW)] 0,.ip ps [iV s.id,iV s.label,iV s.clear,eIs ps s.prog,iV s.step,iV s.pc,iV s.regs.a0,iV s.regs.a1,iV s.regs.a2,iV s.regs.a3,eRs ps s.reads,UY ps s.writes,iV s.at_,iV s.stamp,iV s.tries,iV s.result,iV s.told] 0],Ag,0⟩) Q) (Fin (q .ret ⟨Ae [4] [bV false],Ag,0⟩) Q)
 | [],pre,kk,hxs,hk=>by
  obtain ⟨kk,rfl⟩:∃ m,kk=m+1:=⟨kk - 1,by simp at hk;omega⟩
  have h1:decide ((pre.length:Int)<(s.prog).length)=false:=by simp [hxs]
  simp +contextual -dsimp -implicitDefEqProofs (maxSteps:=5000000) only [gLs,↓Aj (JQ.eq_1),h1,Bc,List.all_nil,go_sem,simprocAttr]
 | a::suf,pre,kk,hxs,hk=>by
  obtain ⟨kk,rfl⟩:∃ m,kk=m+1:=⟨kk - 1,by simp at hk;omega⟩
  have hl:pre.length<(s.prog).length:=by simp [hxs]
  have h2:((pre.length:Int)<(s.prog).length)=True:=by simpa using hl
  have h3:(0≤(pre.length:Int))=True:=by simp
  have h4:=wrN pre.length (by have:=hs.p;omega)
  have hg:(s.prog)[pre.length]?=some a:=by simp [hxs]
  have hmem:a∈s.prog:=by simp [hxs]
  have hw:(decide (a.code=2)||decide (a.code=3))=Gx a.code:=(rfl)
  have ih:=OE i k ps s hs pa b c d na nb nc nd w0 w1 w2 w3 q Q u w suf (pre++[a]) kk (by simp [hxs]) (by simpa using hk)
  rw [Ao] at ih
  simp only [List.all_cons]
  cases hwi:Gx a.code
  ·rw [show (!false||AW ⟨w0,w1,w2,w3⟩ a.b a.c)=true from rfl,Bool.true_and]
   simp +contextual -dsimp -implicitDefEqProofs (maxSteps:=5000000) only [gLs,↓Aj (JQ.eq_1),h2,h3,h4,hg,hw,hwi,ih,go_sem,simprocAttr]
  ·rw [show (!true||AW ⟨w0,w1,w2,w3⟩ a.b a.c)=AW ⟨w0,w1,w2,w3⟩ a.b a.c from rfl]
   cases hb:AW ⟨w0,w1,w2,w3⟩ a.b a.c
   ·rw [Bool.false_and]
    simp +contextual -dsimp -implicitDefEqProofs (maxSteps:=5000000) only [gLs,↓Aj (JQ.eq_1),h2,h3,h4,hg,hw,hwi,hb,Ax,go_sem,simprocAttr]
   ·rw [Bool.true_and]
    simp +contextual -dsimp -implicitDefEqProofs (maxSteps:=5000000) only [gLs,↓Aj (JQ.eq_1),h2,h3,h4,hg,hw,hwi,hb,ih,go_sem,simprocAttr]
theorem OD (i k:Nat) (ps:Bool) (s:Af) (hs:SmS s) (pa b c d na nb nc nd:Bool) (w0 w1 w2 w3:List Al) (q:Out→St→Option Ans) (Q:V→Hp→Nat→Prop) (u:Dum (fun s q=>evC ctx (Lv ctx (i+4)) (Aa (Lv ctx (i+4))) k Lj s (As [2,3,7] q))) (w:Dum q):∀ (suf pre:List Ak) (kk:Nat),s.writes=pre++suf→suf.length<kk →
  GL 0 [2,3,7] (fun s q=>evC ctx (Lv ctx (i+4)) (Aa (Lv ctx (i+4))) k Lj s (As [2,3,7] q)) q kk ⟨Ae [2,3,7] [.ip (pa&&(b&&(c&&d))) [.isl pa na 3 (w0.map eW),.isl b nb 3 (w1.map eW),.isl c nc 3 (w2.map eW),.isl d nd 3 (w3.map eW)] 0,.ip ps [iV s.id,iV s.label,iV s.clear,eIs ps s.prog,iV s.step,iV s.pc,iV s.regs.a0,iV s.regs.a1,iV s.regs.a2,iV s.regs.a3,eRs ps s.reads,UY ps s.writes,iV s.at_,iV s.stamp,iV s.tries,iV s.result,iV s.told] 0,iV pre.length],Ag,0⟩ Q u w=Fc (suf.all fun a=>AW ⟨w0,w1,w2,w3⟩ a.level a.index) (Fin (q (.exit 2) ⟨Ae [2,3] [.ip (pa&&(b&&(c&&d))) [.isl pa na 3 (w0.map eW),.isl b nb 3 (w1.map eW),.isl c nc 3 (w2.map eW),.isl d nd 3 (w3.map eW)] 0,.ip ps [iV s.id,iV s.label,iV s.clear,eIs ps s.prog,iV s.step,iV s.pc,iV s.regs.a0,iV s.regs.a1,iV s.regs.a2,iV s.regs.a3,eRs ps s.reads,UY ps s.writes,iV s.at_,iV s.stamp,iV s.tries,iV s.result,iV s.told] 0],Ag,0⟩) Q) (Fin (q .ret ⟨Ae [4] [bV false],Ag,0⟩) Q)
 | [],pre,kk,hxs,hk=>by
  obtain ⟨kk,rfl⟩:∃ m,kk=m+1:=⟨kk - 1,by simp at hk;omega⟩
  have h1:decide ((pre.length:Int)<(s.writes).length)=false:=by simp [hxs]
  simp +contextual -dsimp -implicitDefEqProofs (maxSteps:=5000000) only [gLs,↓Aj (Lj.eq_1),h1,Bc,List.all_nil,go_sem,simprocAttr]
 | a::suf,pre,kk,hxs,hk=>by
  obtain ⟨kk,rfl⟩:∃ m,kk=m+1:=⟨kk - 1,by simp at hk;omega⟩
  have hl:pre.length<(s.writes).length:=by simp [hxs]
  have h2:((pre.length:Int)<(s.writes).length)=True:=by simpa using hl
  have h3:(0≤(pre.length:Int))=True:=by simp
  have h4:=wrN pre.length (by have:=hs.w;omega)
  have hg:(s.writes)[pre.length]?=some a:=by simp [hxs]
  have hmem:a∈s.writes:=by simp [hxs]
  have ih:=OD i k ps s hs pa b c d na nb nc nd w0 w1 w2 w3 q Q u w suf (pre++[a]) kk (by simp [hxs]) (by simpa using hk)
  rw [Ao] at ih
  simp only [List.all_cons]
  cases hb:(AW ⟨w0,w1,w2,w3⟩ a.level a.index)
  ·rw [Bool.false_and]
   repeat simp +contextual -dsimp -implicitDefEqProofs (maxSteps:=5000000) only [gLs,↓Aj (Lj.eq_1),h2,h3,h4,hg,hb,Ax,go_sem,simprocAttr]
  ·rw [Bool.true_and]
   repeat simp +contextual -dsimp -implicitDefEqProofs (maxSteps:=5000000) only [gLs,↓Aj (Lj.eq_1),h2,h3,h4,hg,hb,ih,go_sem,simprocAttr]
theorem jM (i:Nat) (ps:Bool) (s:Af) (hs:SmS s) (a b c d na nb nc nd:Bool) (w0 w1 w2 w3:List Al):Aa (Lv ctx (i+5)) 135 [.agg [.isl a na 3 (w0.map eW),.isl b nb 3 (w1.map eW),.isl c nc 3 (w2.map eW),.isl d nd 3 (w3.map eW)],eS ps s]=some (bV (Cr ⟨w0,w1,w2,w3⟩ s.prog&&Cc ⟨w0,w1,w2,w3⟩ s.writes&&AD ⟨w0,w1,w2,w3⟩ s.reads)):=by
 have hr:=MF (i+0) ps false s.reads hs.r a b c d na nb nc nd w0 w1 w2 w3
 simp only [Nat.add_assoc,Nat.reduceAdd] at hr
 simp only [eS]
 refine Ac rfl (s.prog.length+s.writes.length+1) (by rfl) ?_
 delta c135
 have h1:=fun q Q u w=>OE i (s.prog.length+s.writes.length+1) ps s hs a b c d na nb nc nd w0 w1 w2 w3 q Q u w s.prog [] (s.prog.length+s.writes.length+1) rfl (by omega)
 have h2:=fun q Q u w=>OD i (s.prog.length+s.writes.length+1) ps s hs a b c d na nb nc nd w0 w1 w2 w3 q Q u w s.writes [] (s.prog.length+s.writes.length+1) rfl (by omega)
 simp only [List.length_nil,Int.natCast_zero] at h1 h2
 simp +contextual -dsimp -implicitDefEqProofs (maxSteps:=5000000) only [Bool.and_self,Cr,Cc,go_sem,simprocAttr]
 refine Eq.mpr (h1 _ _ _ _) ?_
 cases hb:(s.prog.all fun a=>!(Gx a.code)||AW ⟨w0,w1,w2,w3⟩ a.b a.c)
 ·simp +contextual -dsimp -implicitDefEqProofs (maxSteps:=5000000) only [Ax,go_sem,simprocAttr]
 ·simp +contextual -dsimp -implicitDefEqProofs (maxSteps:=5000000) only [Bc,go_sem,simprocAttr]
  refine Eq.mpr (h2 _ _ _ _) ?_
  cases hb':(s.writes.all fun a=>AW ⟨w0,w1,w2,w3⟩ a.level a.index)<;>simp +contextual -dsimp -implicitDefEqProofs (maxSteps:=5000000) only [Bc,Ax,hr,go_sem,simprocAttr]
end Ve
namespace Ve
open Go Ve.Ab
set_option maxHeartbeats 16000000
set_option maxRecDepth 10000
def FD:Nat→List Al→Bool
 | _,[]=>true
 | j,a::r=>decide (j<4)&&AK a&&FD (j+1) r
theorem Sm:∀ (r:List Al) (j:Nat),j≤4→FD j r=(decide (j+r.length≤4)&&r.all AK)
 | [],j,h=>by simp [FD,h]
 | a::r,j,h=>by
  simp only [FD,List.all_cons,List.length_cons]
  by_cases hj:j<4
  ·rw [Sm r (j+1) (by omega)]
   have:decide (j+1+r.length≤4)=decide (j+(r.length+1)≤4):=by apply decide_eq_decide.mpr;omega
   simp only [hj,decide_true,Bool.true_and,this]
   cases AK a<;>simp
  ·have:decide (j+(r.length+1)≤4)=false:=by simp;omega
   simp [hj,this]
theorem Yd (ws:List Al):FD 0 ws=Co ws:=by rw [Sm ws 0 (by omega),Co];simp
theorem OM (i k:Nat) (pa b c d na nb nc nd:Bool) (w0 w1 w2 w3:List Al) (hx:w0.length≤BB) (q:Out→St→Option Ans) (Q:V→Hp→Nat→Prop) (u:Dum (fun s q=>evC ctx (Lv ctx (i+3)) (Aa (Lv ctx (i+3))) k Dw s (As [1,3,4] q))) (w:Dum q):∀ (suf pre:List Al) (kk:Nat),w0=pre++suf→suf.length<kk →
  GL 0 [1,3,4] (fun s q=>evC ctx (Lv ctx (i+3)) (Aa (Lv ctx (i+3))) k Dw s (As [1,3,4] q)) q kk ⟨Ae [1,3,4] [.ip (pa&&(b&&(c&&d))) [.isl pa na 3 (w0.map eW),.isl b nb 3 (w1.map eW),.isl c nc 3 (w2.map eW),.isl d nd 3 (w3.map eW)] 0,iV 0,iV pre.length],Ag,0⟩ Q u w=Fc (FD pre.length suf) (Fin (q (.exit 2) ⟨Ae [1,3] [.ip (pa&&(b&&(c&&d))) [.isl pa na 3 (w0.map eW),.isl b nb 3 (w1.map eW),.isl c nc 3 (w2.map eW),.isl d nd 3 (w3.map eW)] 0,iV 0],Ag,0⟩) Q) (Fin (q .ret ⟨Ae [2] [bV false],Ag,0⟩) Q)
 | [],pre,kk,hxs,hk=>by
  obtain ⟨kk,rfl⟩:∃ m,kk=m+1:=⟨kk - 1,by simp at hk;omega⟩
  have h1:decide ((pre.length:Int)<w0.length)=false:=by simp [hxs]
  simp +contextual -dsimp -implicitDefEqProofs (maxSteps:=5000000) only [gLs,↓Aj (Dw.eq_1),h1,Bc,FD,go_sem,simprocAttr]
 | a::suf,pre,kk,hxs,hk=>by
  obtain ⟨kk,rfl⟩:∃ m,kk=m+1:=⟨kk - 1,by simp at hk;omega⟩
  have hl:pre.length<w0.length:=by simp [hxs]
  have h2:((pre.length:Int)<w0.length)=True:=by simpa using hl
  have h3:(0≤(pre.length:Int))=True:=by simp
  have h4:=wrN pre.length (by omega)
  have hg:w0[pre.length]?=some a:=by simp [hxs]
  have ih:=OM i k pa b c d na nb nc nd w0 w1 w2 w3 hx q Q u w suf (pre++[a]) kk (by simp [hxs]) (by simpa using hk)
  rw [Ao] at ih
  simp only [FD]
  by_cases hj:pre.length<4
  ·have h5:decide ((4:Int)≤(pre.length:Int))=false:=by simp;omega
   have h6:decide (pre.length<4)=true:=by simpa using hj
   cases hb:AK a
   ·rw [h6,Bool.true_and,Bool.false_and]
    simp +contextual -dsimp -implicitDefEqProofs (maxSteps:=5000000) only [gLs,↓Aj (Dw.eq_1),h2,h3,h4,h5,hg,hb,Ax,go_sem,simprocAttr]
   ·rw [h6,Bool.true_and,Bool.true_and]
    simp +contextual -dsimp -implicitDefEqProofs (maxSteps:=5000000) only [gLs,↓Aj (Dw.eq_1),h2,h3,h4,h5,hg,hb,ih,go_sem,simprocAttr]
  ·have h5:decide ((4:Int)≤(pre.length:Int))=true:=by simp;omega
   have h6:decide (pre.length<4)=false:=by simpa using hj
   rw [h6,Bool.false_and,Bool.false_and]
   simp +contextual -dsimp -implicitDefEqProofs (maxSteps:=5000000) only [gLs,↓Aj (Dw.eq_1),h2,h3,h4,h5,hg,Ax,go_sem,simprocAttr]
theorem OL (i k:Nat) (pa b c d na nb nc nd:Bool) (w0 w1 w2 w3:List Al) (hx:w1.length≤BB) (q:Out→St→Option Ans) (Q:V→Hp→Nat→Prop) (u:Dum (fun s q=>evC ctx (Lv ctx (i+3)) (Aa (Lv ctx (i+3))) k Dw s (As [1,3,4] q))) (w:Dum q):∀ (suf pre:List Al) (kk:Nat),w1=pre++suf→suf.length<kk →
  GL 0 [1,3,4] (fun s q=>evC ctx (Lv ctx (i+3)) (Aa (Lv ctx (i+3))) k Dw s (As [1,3,4] q)) q kk ⟨Ae [1,3,4] [.ip (pa&&(b&&(c&&d))) [.isl pa na 3 (w0.map eW),.isl b nb 3 (w1.map eW),.isl c nc 3 (w2.map eW),.isl d nd 3 (w3.map eW)] 0,iV 1,iV pre.length],Ag,0⟩ Q u w=Fc (FD pre.length suf) (Fin (q (.exit 2) ⟨Ae [1,3] [.ip (pa&&(b&&(c&&d))) [.isl pa na 3 (w0.map eW),.isl b nb 3 (w1.map eW),.isl c nc 3 (w2.map eW),.isl d nd 3 (w3.map eW)] 0,iV 1],Ag,0⟩) Q) (Fin (q .ret ⟨Ae [2] [bV false],Ag,0⟩) Q)
 | [],pre,kk,hxs,hk=>by
  obtain ⟨kk,rfl⟩:∃ m,kk=m+1:=⟨kk - 1,by simp at hk;omega⟩
  have h1:decide ((pre.length:Int)<w1.length)=false:=by simp [hxs]
  simp +contextual -dsimp -implicitDefEqProofs (maxSteps:=5000000) only [gLs,↓Aj (Dw.eq_1),h1,Bc,FD,go_sem,simprocAttr]
 | a::suf,pre,kk,hxs,hk=>by
  obtain ⟨kk,rfl⟩:∃ m,kk=m+1:=⟨kk - 1,by simp at hk;omega⟩
  have hl:pre.length<w1.length:=by simp [hxs]
  have h2:((pre.length:Int)<w1.length)=True:=by simpa using hl
  have h3:(0≤(pre.length:Int))=True:=by simp
  have h4:=wrN pre.length (by omega)
  have hg:w1[pre.length]?=some a:=by simp [hxs]
  have ih:=OL i k pa b c d na nb nc nd w0 w1 w2 w3 hx q Q u w suf (pre++[a]) kk (by simp [hxs]) (by simpa using hk)
  rw [Ao] at ih
  simp only [FD]
  by_cases hj:pre.length<4
  ·have h5:decide ((4:Int)≤(pre.length:Int))=false:=by simp;omega
   have h6:decide (pre.length<4)=true:=by simpa using hj
   cases hb:AK a
   ·rw [h6,Bool.true_and,Bool.false_and]
    simp +contextual -dsimp -implicitDefEqProofs (maxSteps:=5000000) only [gLs,↓Aj (Dw.eq_1),h2,h3,h4,h5,hg,hb,Ax,go_sem,simprocAttr]
   ·rw [h6,Bool.true_and,Bool.true_and]
    simp +contextual -dsimp -implicitDefEqProofs (maxSteps:=5000000) only [gLs,↓Aj (Dw.eq_1),h2,h3,h4,h5,hg,hb,ih,go_sem,simprocAttr]
  ·have h5:decide ((4:Int)≤(pre.length:Int))=true:=by simp;omega
   have h6:decide (pre.length<4)=false:=by simpa using hj
   rw [h6,Bool.false_and,Bool.false_and]
   simp +contextual -dsimp -implicitDefEqProofs (maxSteps:=5000000) only [gLs,↓Aj (Dw.eq_1),h2,h3,h4,h5,hg,Ax,go_sem,simprocAttr]
theorem OK (i k:Nat) (pa b c d na nb nc nd:Bool) (w0 w1 w2 w3:List Al) (hx:w2.length≤BB) (q:Out→St→Option Ans) (Q:V→Hp→Nat→Prop) (u:Dum (fun s q=>evC ctx (Lv ctx (i+3)) (Aa (Lv ctx (i+3))) k Dw s (As [1,3,4] q))) (w:Dum q):∀ (suf pre:List Al) (kk:Nat),w2=pre++suf→suf.length<kk →
  GL 0 [1,3,4] (fun s q=>evC ctx (Lv ctx (i+3)) (Aa (Lv ctx (i+3))) k Dw s (As [1,3,4] q)) q kk ⟨Ae [1,3,4] [.ip (pa&&(b&&(c&&d))) [.isl pa na 3 (w0.map eW),.isl b nb 3 (w1.map eW),.isl c nc 3 (w2.map eW),.isl d nd 3 (w3.map eW)] 0,iV 2,iV pre.length],Ag,0⟩ Q u w=Fc (FD pre.length suf) (Fin (q (.exit 2) ⟨Ae [1,3] [.ip (pa&&(b&&(c&&d))) [.isl pa na 3 (w0.map eW),.isl b nb 3 (w1.map eW),.isl c nc 3 (w2.map eW),.isl d nd 3 (w3.map eW)] 0,iV 2],Ag,0⟩) Q) (Fin (q .ret ⟨Ae [2] [bV false],Ag,0⟩) Q)
 | [],pre,kk,hxs,hk=>by
  obtain ⟨kk,rfl⟩:∃ m,kk=m+1:=⟨kk - 1,by simp at hk;omega⟩
  have h1:decide ((pre.length:Int)<w2.length)=false:=by simp [hxs]
  simp +contextual -dsimp -implicitDefEqProofs (maxSteps:=5000000) only [gLs,↓Aj (Dw.eq_1),h1,Bc,FD,go_sem,simprocAttr]
 | a::suf,pre,kk,hxs,hk=>by
  obtain ⟨kk,rfl⟩:∃ m,kk=m+1:=⟨kk - 1,by simp at hk;omega⟩
  have hl:pre.length<w2.length:=by simp [hxs]
  have h2:((pre.length:Int)<w2.length)=True:=by simpa using hl
  have h3:(0≤(pre.length:Int))=True:=by simp
  have h4:=wrN pre.length (by omega)
  have hg:w2[pre.length]?=some a:=by simp [hxs]
  have ih:=OK i k pa b c d na nb nc nd w0 w1 w2 w3 hx q Q u w suf (pre++[a]) kk (by simp [hxs]) (by simpa using hk)
  rw [Ao] at ih
  simp only [FD]
  by_cases hj:pre.length<4
  ·have h5:decide ((4:Int)≤(pre.length:Int))=false:=by simp;omega
   have h6:decide (pre.length<4)=true:=by simpa using hj
   cases hb:AK a
   ·rw [h6,Bool.true_and,Bool.false_and]
    simp +contextual -dsimp -implicitDefEqProofs (maxSteps:=5000000) only [gLs,↓Aj (Dw.eq_1),h2,h3,h4,h5,hg,hb,Ax,go_sem,simprocAttr]
   ·rw [h6,Bool.true_and,Bool.true_and]
    simp +contextual -dsimp -implicitDefEqProofs (maxSteps:=5000000) only [gLs,↓Aj (Dw.eq_1),h2,h3,h4,h5,hg,hb,ih,go_sem,simprocAttr]
  ·have h5:decide ((4:Int)≤(pre.length:Int))=true:=by simp;omega
   have h6:decide (pre.length<4)=false:=by simpa using hj
   rw [h6,Bool.false_and,Bool.false_and]
   simp +contextual -dsimp -implicitDefEqProofs (maxSteps:=5000000) only [gLs,↓Aj (Dw.eq_1),h2,h3,h4,h5,hg,Ax,go_sem,simprocAttr]
theorem OJ (i k:Nat) (pa b c d na nb nc nd:Bool) (w0 w1 w2 w3:List Al) (hx:w3.length≤BB) (q:Out→St→Option Ans) (Q:V→Hp→Nat→Prop) (u:Dum (fun s q=>evC ctx (Lv ctx (i+3)) (Aa (Lv ctx (i+3))) k Dw s (As [1,3,4] q))) (w:Dum q):∀ (suf pre:List Al) (kk:Nat),w3=pre++suf→suf.length<kk →
  GL 0 [1,3,4] (fun s q=>evC ctx (Lv ctx (i+3)) (Aa (Lv ctx (i+3))) k Dw s (As [1,3,4] q)) q kk ⟨Ae [1,3,4] [.ip (pa&&(b&&(c&&d))) [.isl pa na 3 (w0.map eW),.isl b nb 3 (w1.map eW),.isl c nc 3 (w2.map eW),.isl d nd 3 (w3.map eW)] 0,iV 3,iV pre.length],Ag,0⟩ Q u w=Fc (FD pre.length suf) (Fin (q (.exit 2) ⟨Ae [1,3] [.ip (pa&&(b&&(c&&d))) [.isl pa na 3 (w0.map eW),.isl b nb 3 (w1.map eW),.isl c nc 3 (w2.map eW),.isl d nd 3 (w3.map eW)] 0,iV 3],Ag,0⟩) Q) (Fin (q .ret ⟨Ae [2] [bV false],Ag,0⟩) Q)
 | [],pre,kk,hxs,hk=>by
  obtain ⟨kk,rfl⟩:∃ m,kk=m+1:=⟨kk - 1,by simp at hk;omega⟩
  have h1:decide ((pre.length:Int)<w3.length)=false:=by simp [hxs]
  simp +contextual -dsimp -implicitDefEqProofs (maxSteps:=5000000) only [gLs,↓Aj (Dw.eq_1),h1,Bc,FD,go_sem,simprocAttr]
 | a::suf,pre,kk,hxs,hk=>by
  obtain ⟨kk,rfl⟩:∃ m,kk=m+1:=⟨kk - 1,by simp at hk;omega⟩
  have hl:pre.length<w3.length:=by simp [hxs]
  have h2:((pre.length:Int)<w3.length)=True:=by simpa using hl
  have h3:(0≤(pre.length:Int))=True:=by simp
  have h4:=wrN pre.length (by omega)
  have hg:w3[pre.length]?=some a:=by simp [hxs]
  have ih:=OJ i k pa b c d na nb nc nd w0 w1 w2 w3 hx q Q u w suf (pre++[a]) kk (by simp [hxs]) (by simpa using hk)
  rw [Ao] at ih
  simp only [FD]
  by_cases hj:pre.length<4
  ·have h5:decide ((4:Int)≤(pre.length:Int))=false:=by simp;omega
   have h6:decide (pre.length<4)=true:=by simpa using hj
   cases hb:AK a
   ·rw [h6,Bool.true_and,Bool.false_and]
    simp +contextual -dsimp -implicitDefEqProofs (maxSteps:=5000000) only [gLs,↓Aj (Dw.eq_1),h2,h3,h4,h5,hg,hb,Ax,go_sem,simprocAttr]
   ·rw [h6,Bool.true_and,Bool.true_and]
    simp +contextual -dsimp -implicitDefEqProofs (maxSteps:=5000000) only [gLs,↓Aj (Dw.eq_1),h2,h3,h4,h5,hg,hb,ih,go_sem,simprocAttr]
  ·have h5:decide ((4:Int)≤(pre.length:Int))=true:=by simp;omega
   have h6:decide (pre.length<4)=false:=by simpa using hj
   rw [h6,Bool.false_and,Bool.false_and]
   simp +contextual -dsimp -implicitDefEqProofs (maxSteps:=5000000) only [gLs,↓Aj (Dw.eq_1),h2,h3,h4,h5,hg,Ax,go_sem,simprocAttr]
theorem PV (i:Nat) (a b c d na nb nc nd:Bool) (w0 w1 w2 w3:List Al) (h0:w0.length≤BB) (h1:w1.length≤BB) (h2:w2.length≤BB) (h3:w3.length≤BB):Aa (Lv ctx (i+4)) 98 [.agg [.isl a na 3 (w0.map eW),.isl b nb 3 (w1.map eW),.isl c nc 3 (w2.map eW),.isl d nd 3 (w3.map eW)]]=some (bV (AP ⟨w0,w1,w2,w3⟩)):=by
 refine Ac rfl (w0.length+w1.length+w2.length+w3.length+5) (by rfl) ?_
 delta c98
 have l0:=fun q Q u w=>OM i (w0.length+w1.length+w2.length+w3.length+5) a b c d na nb nc nd w0 w1 w2 w3 h0 q Q u w w0 [] (w0.length+w1.length+w2.length+w3.length+5) rfl (by omega)
 have l1:=fun q Q u w=>OL i (w0.length+w1.length+w2.length+w3.length+5) a b c d na nb nc nd w0 w1 w2 w3 h1 q Q u w w1 [] (w0.length+w1.length+w2.length+w3.length+5) rfl (by omega)
 have l2:=fun q Q u w=>OK i (w0.length+w1.length+w2.length+w3.length+5) a b c d na nb nc nd w0 w1 w2 w3 h2 q Q u w w2 [] (w0.length+w1.length+w2.length+w3.length+5) rfl (by omega)
 have l3:=fun q Q u w=>OJ i (w0.length+w1.length+w2.length+w3.length+5) a b c d na nb nc nd w0 w1 w2 w3 h3 q Q u w w3 [] (w0.length+w1.length+w2.length+w3.length+5) rfl (by omega)
 simp only [List.length_nil,Int.natCast_zero,Yd] at l0 l1 l2 l3
 have ho:=fun q k s Q u w=>gLs 0 [1,3] (fun s q=>evC ctx (Lv ctx (i+3)) (Aa (Lv ctx (i+3))) (w0.length+w1.length+w2.length+w3.length+5) Nv s (As [1,3] q)) q k s Q u w
 simp +contextual -dsimp -implicitDefEqProofs (maxSteps:=5000000) only [ho,↓Aj (Nv.eq_1),AP,A4.all,go_sem,simprocAttr]
 refine Eq.mpr (l0 _ _ _ _) ?_
 cases r0:Co w0
 ·simp +contextual -dsimp -implicitDefEqProofs (maxSteps:=5000000) only [Ax,go_sem,simprocAttr]
 ·simp +contextual -dsimp -implicitDefEqProofs (maxSteps:=5000000) only [Bc,ho,↓Aj (Nv.eq_1),go_sem,simprocAttr]
  refine Eq.mpr (l1 _ _ _ _) ?_
  cases r1:Co w1
  ·simp +contextual -dsimp -implicitDefEqProofs (maxSteps:=5000000) only [Ax,go_sem,simprocAttr]
  ·simp +contextual -dsimp -implicitDefEqProofs (maxSteps:=5000000) only [Bc,ho,↓Aj (Nv.eq_1),go_sem,simprocAttr]
   refine Eq.mpr (l2 _ _ _ _) ?_
   cases r2:Co w2
   ·simp +contextual -dsimp -implicitDefEqProofs (maxSteps:=5000000) only [Ax,go_sem,simprocAttr]
   ·simp +contextual -dsimp -implicitDefEqProofs (maxSteps:=5000000) only [Bc,ho,↓Aj (Nv.eq_1),go_sem,simprocAttr]
    refine Eq.mpr (l3 _ _ _ _) ?_
    cases r3:Co w3
    ·simp +contextual -dsimp -implicitDefEqProofs (maxSteps:=5000000) only [Ax,go_sem,simprocAttr]
    ·simp +contextual -dsimp -implicitDefEqProofs (maxSteps:=5000000) only [Bc,ho,↓Aj (Nv.eq_1),go_sem,simprocAttr]
theorem OH (i k:Nat) (pf nn:Bool) (xs:List AO) (hx:xs.length≤BB) (pp:List AO) (n:AO) (tl:List AO) (hxs0:xs=pp++n::tl) (q:Out→St→Option Ans) (Q:V→Hp→Nat→Prop) (u:Dum (fun s q=>evC ctx (Lv ctx (i+3)) (Aa (Lv ctx (i+3))) k JR s (As [0,3,4] q))) (w:Dum q):∀ (suf pre:List AO) (kk:Nat),pp=pre++suf→suf.length<kk →
  GL 0 [0,3,4] (fun s q=>evC ctx (Lv ctx (i+3)) (Aa (Lv ctx (i+3))) k JR s (As [0,3,4] q)) q kk ⟨Ae [0,3,4] [.isl pf nn 3 (xs.map eR),iV pp.length,iV pre.length],Ag,0⟩ Q u w=Fc (!(suf.any (Cd n))) (Fin (q (.exit 2) ⟨Ae [0,3] [.isl pf nn 3 (xs.map eR),iV pp.length],Ag,0⟩) Q) (Fin (q .ret ⟨Ae [2] [bV false],Ag,0⟩) Q)
 | [],pre,kk,hxs,hk=>by
  obtain ⟨kk,rfl⟩:∃ m,kk=m+1:=⟨kk - 1,by simp at hk;omega⟩
  have h1:decide ((pre.length:Int)<pp.length)=false:=by simp [hxs]
  simp +contextual -dsimp -implicitDefEqProofs (maxSteps:=5000000) only [gLs,↓Aj (JR.eq_1),h1,Bc,List.any_nil,go_sem,simprocAttr]
 | a::suf,pre,kk,hxs,hk=>by
  obtain ⟨kk,rfl⟩:∃ m,kk=m+1:=⟨kk - 1,by simp at hk;omega⟩
  have hl:pre.length<pp.length:=by simp [hxs]
  have hl':pp.length<xs.length:=by simp [hxs0]
  have h2:((pre.length:Int)<pp.length)=True:=by simpa using hl
  have h2':((pre.length:Int)<xs.length)=True:=by simp;omega
  have h2n:((pp.length:Int)<xs.length)=True:=by simpa using hl'
  have h3:(0≤(pre.length:Int))=True:=by simp
  have h3':(0≤(pp.length:Int))=True:=by simp
  have h4:=wrN pre.length (by omega)
  have hg:xs[pre.length]?=some a:=by simp [hxs0,hxs]
  have hg':xs[pp.length]?=some n:=by simp [hxs0]
  have ih:=OH i k pf nn xs hx pp n tl hxs0 q Q u w suf (pre++[a]) kk (by simp [hxs]) (by simpa using hk)
  rw [Ao] at ih
  simp only [List.any_cons,Cd]
  cases c1:decide (a.level=n.level)
  ·simp +contextual -dsimp -implicitDefEqProofs (maxSteps:=5000000) only [gLs,↓Aj (JR.eq_1),h2,h2',h2n,h3,h3',h4,hg,hg',c1,ih,go_sem,simprocAttr]
  ·cases c2:decide (a.index=n.index)
   ·simp +contextual -dsimp -implicitDefEqProofs (maxSteps:=5000000) only [gLs,↓Aj (JR.eq_1),h2,h2',h2n,h3,h3',h4,hg,hg',c1,c2,ih,go_sem,simprocAttr]
   ·simp +contextual -dsimp -implicitDefEqProofs (maxSteps:=5000000) only [gLs,↓Aj (JR.eq_1),h2,h2',h2n,h3,h3',h4,hg,hg',c1,c2,Ax,go_sem,simprocAttr]
theorem OG (i k:Nat) (pf nn:Bool) (xs:List AO) (hx:xs.length≤BB) (hkk:xs.length<k) (q:Out→St→Option Ans) (Q:V→Hp→Nat→Prop) (u:Dum (fun s q=>evC ctx (Lv ctx (i+3)) (Aa (Lv ctx (i+3))) k IU s (As [0,3] q))) (w:Dum q):∀ (suf pre:List AO) (kk:Nat),xs=pre++suf→suf.length<kk →
  GL 0 [0,3] (fun s q=>evC ctx (Lv ctx (i+3)) (Aa (Lv ctx (i+3))) k IU s (As [0,3] q)) q kk ⟨Ae [0,3] [.isl pf nn 3 (xs.map eR),iV pre.length],Ag,0⟩ Q u w=Fc (BS pre suf) (Fin (q (.exit 0) ⟨Ae [0] [.isl pf nn 3 (xs.map eR)],Ag,0⟩) Q) (Fin (q .ret ⟨Ae [2] [bV false],Ag,0⟩) Q)
 | [],pre,kk,hxs,hk=>by
  obtain ⟨kk,rfl⟩:∃ m,kk=m+1:=⟨kk - 1,by simp at hk;omega⟩
  have h1:decide ((pre.length:Int)<xs.length)=false:=by simp [hxs]
  simp +contextual -dsimp -implicitDefEqProofs (maxSteps:=5000000) only [gLs,↓Aj (IU.eq_1),h1,Bc,BS,go_sem,simprocAttr]
 | a::suf,pre,kk,hxs,hk=>by
  obtain ⟨kk,rfl⟩:∃ m,kk=m+1:=⟨kk - 1,by simp at hk;omega⟩
  have hl:pre.length<xs.length:=by simp [hxs]
  have h2:((pre.length:Int)<xs.length)=True:=by simpa using hl
  have h3:(0≤(pre.length:Int))=True:=by simp
  have h4:=wrN pre.length (by omega)
  have hg:xs[pre.length]?=some a:=by simp [hxs]
  have ih:=OG i k pf nn xs hx hkk q Q u w suf (pre++[a]) kk (by simp [hxs]) (by simpa using hk)
  rw [Ao] at ih
  have h1:=fun q Q u w=>OH i k pf nn xs hx pre a suf hxs q Q u w pre [] k rfl (by omega)
  simp only [List.length_nil,Int.natCast_zero] at h1
  cases c1:inR a.level 3
  ·simp +contextual -dsimp -implicitDefEqProofs (maxSteps:=5000000) only [gLs,↓Aj (IU.eq_1),h2,h3,h4,hg,Ax,BS,Cw,c1,go_sem,simprocAttr]
  ·cases c2:inR a.index 3
   ·simp +contextual -dsimp -implicitDefEqProofs (maxSteps:=5000000) only [gLs,↓Aj (IU.eq_1),h2,h3,h4,hg,Ax,BS,Cw,c1,c2,go_sem,simprocAttr]
   ·cases c3:inR a.ver 65535
    ·simp +contextual -dsimp -implicitDefEqProofs (maxSteps:=5000000) only [gLs,↓Aj (IU.eq_1),h2,h3,h4,hg,Ax,BS,Cw,c1,c2,c3,go_sem,simprocAttr]
    ·have hr:BS pre (a::suf)=(!(pre.any (Cd a))&&BS (pre++[a]) suf):=by simp only [BS,Cw,c1,c2,c3,Bool.true_and,Bool.and_self]
     rw [hr]
     cases c4:pre.any (Cd a)<;>rw [c4] at h1<;>simp +contextual -dsimp -implicitDefEqProofs (maxSteps:=5000000) only [gLs,↓Aj (IU.eq_1),h2,h3,h4,hg,c1,c2,c3,h1,Bc,Ax,ih,go_sem,simprocAttr]
theorem Ke (i:Nat) (pf nn:Bool) (xs:List AO) (hx:xs.length≤BB):Aa (Lv ctx (i+4)) 114 [.isl pf nn 3 (xs.map eR)]=some (bV (AJ xs)):=by
 refine Ac rfl (xs.length+1) (by rfl) ?_
 delta c114
 have h2:=fun q Q u w=>OG i (xs.length+1) pf nn xs hx (by omega) q Q u w xs [] (xs.length+1) rfl (by omega)
 simp only [List.length_nil,Int.natCast_zero] at h2
 have h5:decide ((xs.length:Int)≤16)=decide (xs.length≤16):=by apply decide_eq_decide.mpr;omega
 simp +contextual -dsimp -implicitDefEqProofs (maxSteps:=5000000) only [AJ,h5,go_sem,simprocAttr]
 refine Eq.mpr (h2 _ _ _ _) ?_
 cases hb:BS [] xs<;>simp +contextual -dsimp -implicitDefEqProofs (maxSteps:=5000000) only [Bc,Ax,h5,go_sem,simprocAttr]
end Ve
namespace Ve
open Go Ve.Ab
set_option maxHeartbeats 16000000
set_option maxRecDepth 10000
theorem Iv (a:Ak) (ha:Az a=true):IntKind.wrap .i64 (IntKind.wrap .i64 (4*a.level)+a.index)=4*a.level+a.index:=by
 simp only [Az,inR,Bool.and_eq_true,decide_eq_true_eq] at ha
 have e1:=EH (a:=4*a.level) (by omega) (by omega)
 have e2:=EH (a:=4*a.level+a.index) (by omega) (by omega)
 simp only [wr] at e1 e2
 rw [e1,e2]
@[go_sem] theorem r_place (i:Nat) (l x:Int):Aa (Lv ctx (i+1)) 137 [iV l,iV x]=some (iV (IntKind.wrap .i64 (IntKind.wrap .i64 (4*l)+x))):=by
 refine Ac rfl 0 (by rfl) ?_
 delta c137
 simp +contextual -dsimp -implicitDefEqProofs (maxSteps:=5000000) only [go_sem,simprocAttr]
theorem OC (i k:Nat) (pf nn:Bool) (xs:List Ak) (hx:xs.length≤BB) (q:Out→St→Option Ans) (Q:V→Hp→Nat→Prop) (u:Dum (fun s q=>evC ctx (Lv ctx (i+3)) (Aa (Lv ctx (i+3))) k Gf s (As [0,3] q))) (w:Dum q):∀ (suf pre:List Ak) (kk:Nat),xs=pre++suf→suf.length<kk→(∀ v,pre.getLast?=some v→Az v=true) →
  GL 0 [0,3] (fun s q=>evC ctx (Lv ctx (i+3)) (Aa (Lv ctx (i+3))) k Gf s (As [0,3] q)) q kk ⟨Ae [0,3] [.isl pf nn 3 (xs.map eWr),iV pre.length],Ag,0⟩ Q u w =
  Fc (AV pre.getLast? suf) (Fin (q (.exit 0) ⟨Ae [0] [.isl pf nn 3 (xs.map eWr)],Ag,0⟩) Q) (Fin (q .ret ⟨Ae [2] [bV false],Ag,0⟩) Q)
 | [],pre,kk,hxs,hk,hv=>by
  obtain ⟨kk,rfl⟩:∃ m,kk=m+1:=⟨kk - 1,by simp at hk;omega⟩
  have h1:decide ((pre.length:Int)<xs.length)=false:=by simp [hxs]
  have h2:∀ o,AV o []=true:=fun o=>by cases o<;>rfl
  simp +contextual -dsimp -implicitDefEqProofs (maxSteps:=5000000) only [gLs,↓Aj (Gf.eq_1),h1,Bc,h2,go_sem,simprocAttr]
 | a::suf,pre,kk,hxs,hk,hv=>by
  obtain ⟨kk,rfl⟩:∃ m,kk=m+1:=⟨kk - 1,by simp at hk;omega⟩
  have hl:pre.length<xs.length:=by simp [hxs]
  have h2:((pre.length:Int)<xs.length)=True:=by simpa using hl
  have h3:(0≤(pre.length:Int))=True:=by simp
  have h4:=wrN pre.length (by omega)
  have hg:xs[pre.length]?=some a:=by simp [hxs]
  have ih:=fun hv=>OC i k pf nn xs hx q Q u w suf (pre++[a]) kk (by simp [hxs]) (by simpa using hk) hv
  rw [Ao] at ih
  simp only [List.getLast?_append,List.getLast?_singleton,Option.some_or,Option.some.injEq,forall_eq'] at ih
  rcases List.eq_nil_or_concat pre with rfl | ⟨L,v,rfl⟩
  ·simp only [List.length_nil,Nu] at *
   cases c1:inR a.level 3
   ·simp +contextual -dsimp -implicitDefEqProofs (maxSteps:=5000000) only [gLs,↓Aj (Gf.eq_1),h2,h3,h4,hg,Ax,AV,Az,c1,List.getLast?_nil,go_sem,simprocAttr]
   ·cases c2:inR a.index 3
    ·simp +contextual -dsimp -implicitDefEqProofs (maxSteps:=5000000) only [gLs,↓Aj (Gf.eq_1),h2,h3,h4,hg,Ax,AV,Az,c1,c2,List.getLast?_nil,go_sem,simprocAttr]
    ·cases c3:inR a.val 255
     ·simp +contextual -dsimp -implicitDefEqProofs (maxSteps:=5000000) only [gLs,↓Aj (Gf.eq_1),h2,h3,h4,hg,Ax,AV,Az,c1,c2,c3,List.getLast?_nil,go_sem,simprocAttr]
     ·have ih':=ih (by simp only [Az,c1,c2,c3,Bool.and_self])
      simp only [Nat.zero_add,Tz] at ih'
      simp +contextual -dsimp -implicitDefEqProofs (maxSteps:=5000000) only [gLs,↓Aj (Gf.eq_1),h2,h3,h4,hg,AV,Az,c1,c2,c3,ih',List.getLast?_nil,go_sem,simprocAttr]
  ·have hv1:Az v=true:=hv v (by simp)
   have hlen:(L.concat v).length=L.length+1:=by simp
   have hlast:(L.concat v).getLast?=some v:=by simp
   rw [hlen] at h2 h3 h4 hg ih
   rw [hlen,hlast]
   have h6:IntKind.wrap .i64 (((L.length+1:Nat):Int) - 1)=(L.length:Int):=by
    have:=EH (a:=(L.length:Int)) (by omega) (by simp [hlen] at hl;simp only [BB] at hx;omega)
    simp only [wr] at this
    rw [show (((L.length+1:Nat):Int) - 1)=(L.length:Int) by omega,this]
   have h7:((L.length:Int)<xs.length)=True:=by simp only [eq_iff_iff,iff_true];rw [hlen] at hl;omega
   have h8:(0≤(L.length:Int))=True:=by simp
   have h9:decide (0<((L.length+1:Nat):Int))=true:=by simp only [decide_eq_true_eq];omega
   have hg':xs[L.length]?=some v:=by simp [hxs]
   cases c1:inR a.level 3
   ·simp +contextual -dsimp -implicitDefEqProofs (maxSteps:=5000000) only [gLs,↓Aj (Gf.eq_1),h2,h3,h4,hg,Ax,AV,Az,c1,go_sem,simprocAttr]
   ·cases c2:inR a.index 3
    ·simp +contextual -dsimp -implicitDefEqProofs (maxSteps:=5000000) only [gLs,↓Aj (Gf.eq_1),h2,h3,h4,hg,Ax,AV,Az,c1,c2,go_sem,simprocAttr]
    ·cases c3:inR a.val 255
     ·simp +contextual -dsimp -implicitDefEqProofs (maxSteps:=5000000) only [gLs,↓Aj (Gf.eq_1),h2,h3,h4,hg,Ax,AV,Az,c1,c2,c3,go_sem,simprocAttr]
     ·have ha1:Az a=true:=by simp only [Az,c1,c2,c3,Bool.and_self]
      have ih':=ih ha1
      have hr:decide (4*a.level+a.index≤4*v.level+v.index)=!decide (AC v.level v.index<AC a.level a.index):=by rw [← decide_not];apply decide_eq_decide.mpr;simp only [AC];omega
      have hpl:=Iv a ha1
      have hpl':=Iv v hv1
      cases c4:decide (AC v.level v.index<AC a.level a.index)<;>rw [c4] at hr <;>
       simp +contextual -dsimp -implicitDefEqProofs (maxSteps:=5000000) only [gLs,↓Aj (Gf.eq_1),h2,h3,h4,h6,h7,h8,h9,hg,hg',hr,hpl,hpl',AV,ha1,c1,c2,c3,c4,ih',Ax,go_sem,simprocAttr]
theorem Iu (i:Nat) (pf nn:Bool) (xs:List Ak) (hx:xs.length≤BB):Aa (Lv ctx (i+4)) 111 [.isl pf nn 3 (xs.map eWr)]=some (bV (AS xs)):=by
 refine Ac rfl (xs.length+1) (by rfl) ?_
 delta c111
 have h2:=fun q Q u w=>OC i (xs.length+1) pf nn xs hx q Q u w xs [] (xs.length+1) rfl (by omega) (by simp)
 simp only [List.length_nil,Int.natCast_zero,List.getLast?_nil] at h2
 have h5:decide ((xs.length:Int)≤16)=decide (xs.length≤16):=by apply decide_eq_decide.mpr;omega
 simp +contextual -dsimp -implicitDefEqProofs (maxSteps:=5000000) only [AS,h5,go_sem,simprocAttr]
 refine Eq.mpr (h2 _ _ _ _) ?_
 cases hb:AV none xs<;>simp +contextual -dsimp -implicitDefEqProofs (maxSteps:=5000000) only [Bc,Ax,h5,go_sem,simprocAttr]
theorem VX (i k:Nat) (pf nn:Bool) (xs:List Av) (hx:xs.length≤BB) (q:Out→St→Option Ans) (Q:V→Hp→Nat→Prop) (u:Dum (fun s q=>evC ctx (Lv ctx (i+3)) (Aa (Lv ctx (i+3))) k HZ s (As [0,3] q))) (w:Dum q):∀ (suf pre:List Av) (kk:Nat),xs=pre++suf→suf.length<kk →
  GL 0 [0,3] (fun s q=>evC ctx (Lv ctx (i+3)) (Aa (Lv ctx (i+3))) k HZ s (As [0,3] q)) q kk ⟨Ae [0,3] [.isl pf nn 4 (xs.map eI),iV pre.length],Ag,0⟩ Q u w =
  Fc (BP xs.length pre.length suf) (Fin (q (.exit 0) ⟨Ae [0] [.isl pf nn 4 (xs.map eI)],Ag,0⟩) Q) (Fin (q .ret ⟨Ae [2] [bV false],Ag,0⟩) Q)
 | [],pre,kk,hxs,hk=>by
  obtain ⟨kk,rfl⟩:∃ m,kk=m+1:=⟨kk - 1,by simp at hk;omega⟩
  have h1:decide ((pre.length:Int)<xs.length)=false:=by simp [hxs]
  simp +contextual -dsimp -implicitDefEqProofs (maxSteps:=5000000) only [gLs,↓Aj (HZ.eq_1),h1,Bc,BP,go_sem,simprocAttr]
 | a::suf,pre,kk,hxs,hk=>by
  obtain ⟨kk,rfl⟩:∃ m,kk=m+1:=⟨kk - 1,by simp at hk;omega⟩
  have hl:pre.length<xs.length:=by simp [hxs]
  have h2:((pre.length:Int)<xs.length)=True:=by simpa using hl
  have h3:(0≤(pre.length:Int))=True:=by simp
  have h4:=wrN pre.length (by omega)
  have hg:xs[pre.length]?=some a:=by simp [hxs]
  have ih:=VX i k pf nn xs hx q Q u w suf (pre++[a]) kk (by simp [hxs]) (by simpa using hk)
  rw [Ao] at ih
  have h5:((pre.length+1:Nat):Int)=(pre.length:Int)+1:=by simp
  have c5:decide ((xs.length:Int)<a.b)=decide ((xs.length:Int)<a.b):=rfl
  cases c1:Bd a
  ·simp +contextual -dsimp -implicitDefEqProofs (maxSteps:=5000000) only [gLs,↓Aj (HZ.eq_1),h2,h3,h4,hg,Ax,BP,c1,go_sem,simprocAttr]
  ·cases c2:decide (a.code=4)
   ·have hr:BP xs.length pre.length (a::suf)=BP xs.length ((pre.length+1:Nat):Int) suf:=by simp only [BP,c1,c2,h5,Bool.true_and,Bool.false_and,Bool.not_false]
    rw [hr]
    simp +contextual -dsimp -implicitDefEqProofs (maxSteps:=5000000) only [gLs,↓Aj (HZ.eq_1),h2,h3,h4,hg,c1,c2,ih,go_sem,simprocAttr]
   ·cases c3:decide (a.b≤(pre.length:Int))
    ·cases c4:decide ((xs.length:Int)<a.b)
     ·have hr:BP xs.length pre.length (a::suf)=BP xs.length ((pre.length+1:Nat):Int) suf:=by simp only [BP,c1,c2,c3,c4,h5,Bool.true_and,Bool.false_or,Bool.not_false]
      rw [hr]
      simp +contextual -dsimp -implicitDefEqProofs (maxSteps:=5000000) only [gLs,↓Aj (HZ.eq_1),h2,h3,h4,hg,c1,c2,c3,c4,ih,go_sem,simprocAttr]
     ·have hr:BP xs.length pre.length (a::suf)=false:=by simp only [BP,c1,c2,c3,c4,h5,Bool.true_and,Bool.false_or,Bool.not_true,Bool.false_and]
      rw [hr]
      simp +contextual -dsimp -implicitDefEqProofs (maxSteps:=5000000) only [gLs,↓Aj (HZ.eq_1),h2,h3,h4,hg,c1,c2,c3,c4,Ax,go_sem,simprocAttr]
    ·have hr:BP xs.length pre.length (a::suf)=false:=by simp only [BP,c1,c2,c3,Bool.true_and,Bool.true_or,Bool.not_true,Bool.false_and]
     rw [hr]
     simp +contextual -dsimp -implicitDefEqProofs (maxSteps:=5000000) only [gLs,↓Aj (HZ.eq_1),h2,h3,h4,hg,c1,c2,c3,Ax,go_sem,simprocAttr]
theorem rJ (i:Nat) (pf nn:Bool) (xs:List Av) (hx:xs.length≤BB):Aa (Lv ctx (i+4)) 171 [.isl pf nn 4 (xs.map eI)]=some (bV (Dn xs)):=by
 refine Ac rfl (xs.length+1) (by rfl) ?_
 delta c171
 have h2:=fun q Q u w=>VX i (xs.length+1) pf nn xs hx q Q u w xs [] (xs.length+1) rfl (by omega)
 simp only [List.length_nil,Int.natCast_zero] at h2
 have h5:decide ((xs.length:Int)≤16)=decide (xs.length≤16):=by apply decide_eq_decide.mpr;omega
 simp +contextual -dsimp -implicitDefEqProofs (maxSteps:=5000000) only [Dn,h5,go_sem,simprocAttr]
 refine Eq.mpr (h2 _ _ _ _) ?_
 cases hb:BP xs.length 0 xs<;>simp +contextual -dsimp -implicitDefEqProofs (maxSteps:=5000000) only [Bc,Ax,h5,go_sem,simprocAttr]
theorem jO (i:Nat) (pf nn:Bool) (a b c:Int) (xs:List Av) (hx:xs.length≤BB):Aa (Lv ctx (i+5)) 133 [.agg [iV a,iV b,iV c,.isl pf nn 4 (xs.map eI)]]=some (bV (Cm a b c xs)):=by
 have hp:=rJ i pf nn xs hx
 refine Ac rfl 0 (by rfl) ?_
 delta c133
 simp +contextual -dsimp -implicitDefEqProofs (maxSteps:=5000000) only [Cm,hp,go_sem,simprocAttr]
end Ve
namespace Ve
open Go Ve.Ab
set_option maxHeartbeats 16000000
set_option maxRecDepth 10000
theorem Yi (i:Nat) (pf ps:Bool) (m:Ad) (s:Af) (hs:SmS s):Aa (Lv ctx (i+6)) 101 [eM pf m,eS ps s]=some (bV (AY m.words s)):=by
 have h1:=jO (i+0) ps false s.id s.label s.clear s.prog hs.p
 have h2:=jM (i+0) ps s hs pf pf pf pf false false false false m.words.a0 m.words.a1 m.words.a2 m.words.a3
 have h3:=Ke (i+1) ps false s.reads hs.r
 have h4:=Iu (i+1) ps false s.writes hs.w
 simp only [Nat.add_assoc,Nat.reduceAdd] at h1 h2 h3 h4
 simp only [eS] at h2 ⊢
 have key:AY m.words s=((Cm s.id s.label s.clear s.prog&&(Cr m.words s.prog&&Cc m.words s.writes&&AD m.words s.reads))&&(inR s.step 6&&inR s.pc s.prog.length&&DH 255 s.regs.a0 s.regs.a1 s.regs.a2 s.regs.a3&&AJ s.reads&&AS s.writes) &&
   (inR s.at_ s.writes.length&&inR s.stamp 65535&&inR s.tries 65535&&inR s.result 5&&inR s.told 255)):=by
  rw [Bool.eq_iff_iff]
  simp only [AY,CX,A4.all,DH,Bool.and_eq_true]
  constructor<;>(intro h;simp only [h,and_self])
 refine Ac rfl 0 (by rfl) ?_
 delta c101
 have hb1:∀ a b:Bool,(!a||!b)=!(a&&b):=by decide
 have hb2:∀ a b c d e:Bool,(!a||!b||!c||!d||!e)=!(a&&b&&c&&d&&e):=by decide
 rw [key]
 cases c1:(Cm s.id s.label s.clear s.prog&&(Cr m.words s.prog&&Cc m.words s.writes&&AD m.words s.reads))
 ·simp +contextual -dsimp -implicitDefEqProofs (maxSteps:=5000000) only [h1,h2,h3,h4,hb1,c1,go_sem,simprocAttr]
 ·cases c2:(inR s.step 6&&inR s.pc s.prog.length&&DH 255 s.regs.a0 s.regs.a1 s.regs.a2 s.regs.a3&&AJ s.reads&&AS s.writes)
  ·simp only [inR] at c2
   simp +contextual -dsimp -implicitDefEqProofs (maxSteps:=5000000) only [h1,h2,h3,h4,hb1,hb2,c1,c2,go_sem,simprocAttr]
  ·simp only [inR] at c2
   simp +contextual -dsimp -implicitDefEqProofs (maxSteps:=5000000) only [h1,h2,h3,h4,hb1,hb2,c1,c2,go_sem,simprocAttr]
   simp only [inR]
def MG (ws:A4 (List Al)):Option Int→List Af→Bool
 | _,[]=>true
 | none,s::t=>AY ws s&&MG ws (some s.id) t
 | some v,s::t=>AY ws s&&decide (v<s.id)&&MG ws (some s.id) t
theorem PW (ws:A4 (List Al)):∀ (l:List Af) (o:Option Int),MG ws o l=(EM o l&&l.all (AY ws))
 | [],o=>by cases o<;>rfl
 | a::l,none=>by simp only [MG,EM,List.all_cons,PW ws l];cases AY ws a<;>cases EM (some a.id) l<;>simp
 | a::l,some v=>by simp only [MG,EM,List.all_cons,PW ws l];cases AY ws a<;>cases EM (some a.id) l<;>cases decide (v<a.id)<;>simp
theorem VZ (i k:Nat) (pf:Bool) (m:Ad) (hm:SmM m) (q:Out→St→Option Ans) (Q:V→Hp→Nat→Prop) (u:Dum (fun s q=>evC ctx (Lv ctx (i+6)) (Aa (Lv ctx (i+6))) k LK s (As [1,4] q))) (w:Dum q):∀ (suf pre:List Af) (kk:Nat),m.sess=pre++suf→suf.length<kk →
  GL 0 [1,4] (fun s q=>evC ctx (Lv ctx (i+6)) (Aa (Lv ctx (i+6))) k LK s (As [1,4] q)) q kk ⟨Ae [1,4] [.ip pf (cM pf m) 0,iV pre.length],Ag,0⟩ Q u w=Fc (MG m.words (pre.getLast?.map (·.id)) suf) (Fin (q (.exit 2) ⟨Ae [1] [.ip pf (cM pf m) 0],Ag,0⟩) Q) (Fin (q .ret ⟨Ae [2] [bV false],Ag,0⟩) Q)
 | [],pre,kk,hxs,hk=>by
  obtain ⟨kk,rfl⟩:∃ m,kk=m+1:=⟨kk - 1,by simp at hk;omega⟩
  have h1:decide ((pre.length:Int)<m.sess.length)=false:=by simp [hxs]
  have h2:∀ o,MG m.words o []=true:=fun o=>by cases o<;>rfl
  simp +contextual -dsimp -implicitDefEqProofs (maxSteps:=5000000) only [gLs,↓Aj (LK.eq_1),h1,Bc,h2,go_sem,simprocAttr]
 | a::suf,pre,kk,hxs,hk=>by
  obtain ⟨kk,rfl⟩:∃ m,kk=m+1:=⟨kk - 1,by simp at hk;omega⟩
  have hl:pre.length<m.sess.length:=by simp [hxs]
  have h2:((pre.length:Int)<m.sess.length)=True:=by simpa using hl
  have h3:(0≤(pre.length:Int))=True:=by simp
  have h4:=wrN pre.length (by have:=hm.ss;omega)
  have hg:m.sess[pre.length]?=some a:=by simp [hxs]
  have hs:=Yi (i+0) pf pf m a (hm.s a (by simp [hxs]))
  simp only [Nat.add_assoc,Nat.reduceAdd,eS] at hs
  have ih:=VZ i k pf m hm q Q u w suf (pre++[a]) kk (by simp [hxs]) (by simpa using hk)
  rw [Ao] at ih
  simp only [List.getLast?_append,List.getLast?_singleton,Option.some_or,Option.map_some] at ih
  rcases List.eq_nil_or_concat pre with rfl | ⟨L,v,rfl⟩
  ·simp only [List.length_nil,Nu] at *
   simp only [Nat.zero_add,Tz] at ih
   cases c1:AY m.words a<;>simp +contextual -dsimp -implicitDefEqProofs (maxSteps:=5000000) only [gLs,↓Aj (LK.eq_1),h2,h3,h4,hg,hs,c1,ih,MG,Ax,List.getLast?_nil,go_sem,simprocAttr]
  ·have hlen:(L.concat v).length=L.length+1:=by simp
   have hlast:(L.concat v).getLast?=some v:=by simp
   rw [hlen] at h2 h3 h4 hg ih
   rw [hlen,hlast]
   have h6:IntKind.wrap .i64 (((L.length+1:Nat):Int) - 1)=(L.length:Int):=by
    have:=EH (a:=(L.length:Int)) (by omega) (by have:=hm.ss;simp [hlen] at hl;simp only [BB] at this;omega)
    simp only [wr] at this
    rw [show (((L.length+1:Nat):Int) - 1)=(L.length:Int) by omega,this]
   have h7:((L.length:Int)<m.sess.length)=True:=by simp only [eq_iff_iff,iff_true];rw [hlen] at hl;omega
   have h8:(0≤(L.length:Int))=True:=by simp
   have h9:decide (0<((L.length+1:Nat):Int))=true:=by simp only [decide_eq_true_eq];omega
   have hg':m.sess[L.length]?=some v:=by simp [hxs]
   cases c1:AY m.words a
   ·simp +contextual -dsimp -implicitDefEqProofs (maxSteps:=5000000) only [gLs,↓Aj (LK.eq_1),h2,h3,h4,hg,hs,c1,MG,Ax,go_sem,simprocAttr]
   ·by_cases hlt:v.id<a.id
    ·have c2:decide (a.id≤v.id)=false:=by simp;omega
     have c3:decide (v.id<a.id)=true:=by simp;omega
     simp +contextual -dsimp -implicitDefEqProofs (maxSteps:=5000000) only [gLs,↓Aj (LK.eq_1),h2,h3,h4,h6,h7,h8,h9,hg,hg',hs,c1,c2,c3,ih,MG,go_sem,simprocAttr]
    ·have c2:decide (a.id≤v.id)=true:=by simp;omega
     have c3:decide (v.id<a.id)=false:=by simp;omega
     simp +contextual -dsimp -implicitDefEqProofs (maxSteps:=5000000) only [gLs,↓Aj (LK.eq_1),h2,h3,h4,h6,h7,h8,h9,hg,hg',hs,c1,c2,c3,MG,Ax,go_sem,simprocAttr]
theorem VY (i k:Nat) (pf:Bool) (m:Ad) (hm:SmM m) (q:Out→St→Option Ans) (Q:V→Hp→Nat→Prop) (u:Dum (fun s q=>evC ctx (Lv ctx (i+6)) (Aa (Lv ctx (i+6))) k Pt s (As [1,5] q))) (w:Dum q):∀ (suf pre:List Bl) (kk:Nat),m.trace=pre++suf→suf.length<kk →
  GL 0 [1,5] (fun s q=>evC ctx (Lv ctx (i+6)) (Aa (Lv ctx (i+6))) k Pt s (As [1,5] q)) q kk ⟨Ae [1,5] [.ip pf (cM pf m) 0,iV pre.length],Ag,0⟩ Q u w=Fc (suf.all fun a=>inR a.label 3) (Fin (q (.exit 4) ⟨Ae [] [],Ag,0⟩) Q) (Fin (q .ret ⟨Ae [2] [bV false],Ag,0⟩) Q)
 | [],pre,kk,hxs,hk=>by
  obtain ⟨kk,rfl⟩:∃ m,kk=m+1:=⟨kk - 1,by simp at hk;omega⟩
  have h1:decide ((pre.length:Int)<(m.trace).length)=false:=by simp [hxs]
  simp +contextual -dsimp -implicitDefEqProofs (maxSteps:=5000000) only [gLs,↓Aj (Pt.eq_1),h1,Bc,List.all_nil,go_sem,simprocAttr]
 | a::suf,pre,kk,hxs,hk=>by
  obtain ⟨kk,rfl⟩:∃ m,kk=m+1:=⟨kk - 1,by simp at hk;omega⟩
  have hl:pre.length<(m.trace).length:=by simp [hxs]
  have h2:((pre.length:Int)<(m.trace).length)=True:=by simpa using hl
  have h3:(0≤(pre.length:Int))=True:=by simp
  have h4:=wrN pre.length (by have:=hm.tr;omega)
  have hg:(m.trace)[pre.length]?=some a:=by simp [hxs]
  have hmem:a∈m.trace:=by simp [hxs]
  have ih:=VY i k pf m hm q Q u w suf (pre++[a]) kk (by simp [hxs]) (by simpa using hk)
  rw [Ao] at ih
  simp only [List.all_cons]
  cases hb:(inR a.label 3)
  ·rw [Bool.false_and]
   repeat simp +contextual -dsimp -implicitDefEqProofs (maxSteps:=5000000) only [gLs,↓Aj (Pt.eq_1),h2,h3,h4,hg,hb,Ax,go_sem,simprocAttr]
  ·rw [Bool.true_and]
   repeat simp +contextual -dsimp -implicitDefEqProofs (maxSteps:=5000000) only [gLs,↓Aj (Pt.eq_1),h2,h3,h4,hg,hb,ih,go_sem,simprocAttr]
theorem xE (i:Nat) (pf:Bool) (m:Ad) (hm:SmM m):Aa (Lv ctx (i+7)) 58 [eM pf m]=some (bV (Ei m)):=by
 have ha:=PV (i+2) pf pf pf pf false false false false m.words.a0 m.words.a1 m.words.a2 m.words.a3 hm.w0 hm.w1 hm.w2 hm.w3
 have h2:=fun q Q u w=>VZ i (m.sess.length+m.trace.length+5) pf m hm q Q u w m.sess [] (m.sess.length+m.trace.length+5) rfl (by omega)
 have h3:=fun q Q u w=>VY i (m.sess.length+m.trace.length+5) pf m hm q Q u w m.trace [] (m.sess.length+m.trace.length+5) rfl (by omega)
 simp only [Nat.add_assoc,Nat.reduceAdd] at ha
 simp only [List.length_nil,Int.natCast_zero,List.getLast?_nil,Option.map_none,PW] at h2 h3
 have h5:decide (4<(m.sess.length:Int))=!decide (m.sess.length≤4):=Nn _
 have h6:decide (512<(m.trace.length:Int))=!decide (m.trace.length≤512):=by
  by_cases h:m.trace.length≤512<;>simp [h]<;>omega
 have hb:∀ a b c d:Bool,(!a||!b||!c||!d)=!(a&&b&&c&&d):=by decide
 have ho:=fun q k s Q u w=>gLs 0 [1,3] (fun s q=>evC ctx (Lv ctx (i+6)) (Aa (Lv ctx (i+6))) (m.sess.length+m.trace.length+5) Nz s (As [1,3] q)) q k s Q u w
 refine Ac rfl (m.sess.length+m.trace.length+5) (by rfl) ?_
 delta c58
 cases c1:(AP m.words&&inR m.ceil 65535&&decide (m.sess.length≤4)&&decide (m.trace.length≤512))
 ·have key:Ei m=false:=by
   rw [← Bool.not_eq_true] at c1 ⊢
   intro h
   simp only [Ei,Bool.and_eq_true] at h c1
   exact c1 (by simp only [h,and_self])
  simp +contextual -dsimp -implicitDefEqProofs (maxSteps:=5000000) only [ha,h5,h6,hb,c1,key,go_sem,simprocAttr]
 ·have key:Ei m=(m.clocks.all (fun c=>inR c m.ceil)&&(EM none m.sess&&m.sess.all (AY m.words))&&m.trace.all (fun e=>inR e.label 3)):=by
   rw [Bool.eq_iff_iff]
   simp only [Bool.and_eq_true] at c1
   simp only [Ei,Bool.and_eq_true,c1,true_and,and_true]
   constructor<;>(intro h;simp only [h,and_self])
  rw [key]
  have hf:∀ a b:Int,(decide (0≤a)&&decide (a≤b))=inR a b:=fun _ _=>(rfl)
  cases d0:inR m.clocks.a0 m.ceil
  ·simp +contextual -dsimp -implicitDefEqProofs (maxSteps:=5000000) only [ha,h5,h6,hb,c1,ho,↓Aj (Nz.eq_1),A4.all,hf,d0,go_sem,simprocAttr]
  ·cases d1:inR m.clocks.a1 m.ceil
   ·simp +contextual -dsimp -implicitDefEqProofs (maxSteps:=5000000) only [ha,h5,h6,hb,c1,ho,↓Aj (Nz.eq_1),A4.all,hf,d0,d1,go_sem,simprocAttr]
   ·cases d2:inR m.clocks.a2 m.ceil
    ·simp +contextual -dsimp -implicitDefEqProofs (maxSteps:=5000000) only [ha,h5,h6,hb,c1,ho,↓Aj (Nz.eq_1),A4.all,hf,d0,d1,d2,go_sem,simprocAttr]
    ·cases d3:inR m.clocks.a3 m.ceil
     ·simp +contextual -dsimp -implicitDefEqProofs (maxSteps:=5000000) only [ha,h5,h6,hb,c1,ho,↓Aj (Nz.eq_1),A4.all,hf,d0,d1,d2,d3,go_sem,simprocAttr]
     ·simp +contextual -dsimp -implicitDefEqProofs (maxSteps:=5000000) only [ha,h5,h6,hb,c1,ho,↓Aj (Nz.eq_1),A4.all,hf,d0,d1,d2,d3,go_sem,simprocAttr]
      refine Eq.mpr (h2 _ _ _ _) ?_
      cases e2:(EM none m.sess&&m.sess.all (AY m.words))
      ·simp +contextual -dsimp -implicitDefEqProofs (maxSteps:=5000000) only [Ax,go_sem,simprocAttr]
      ·simp +contextual -dsimp -implicitDefEqProofs (maxSteps:=5000000) only [Bc,go_sem,simprocAttr]
       refine Eq.mpr (h3 _ _ _ _) ?_
       cases e3:(m.trace.all fun a=>inR a.label 3)<;>simp +contextual -dsimp -implicitDefEqProofs (maxSteps:=5000000) only [Bc,Ax,go_sem,simprocAttr]
theorem Hk (i:Nat) (pf:Bool) (m:Ad) (at_:Int) (hm:SmM m):Aa (Lv ctx (i+8)) 27 [eM pf m,iV at_]=some (bV (Bq m at_)):=by
 have h1:=xE i pf m hm
 refine Ac rfl 0 (by rfl) ?_
 delta c27
 simp +contextual -dsimp -implicitDefEqProofs (maxSteps:=5000000) only [h1,Bq,go_sem,simprocAttr]
end Ve
namespace Ve
open Go Ve.Ab
set_option maxHeartbeats 16000000
set_option maxRecDepth 10000
attribute [go_sem] List.replicate List.length_append Nat.zero_add List.length_cons
@[go_sem] theorem r_arenaCopy (i:Nat) (p:Bool) (w0 w1 w2 w3:List Al) (h0:(w0.length:Int)*24≤140737488355328) (h1:(w1.length:Int)*24≤140737488355328) (h2:(w2.length:Int)*24≤140737488355328) (h3:(w3.length:Int)*24≤140737488355328):Aa (Lv ctx (i+1)) 59 [.agg [eWs p w0,eWs p w1,eWs p w2,eWs p w3]]=some (.agg [oWs w0,oWs w1,oWs w2,oWs w3]):=by
 have e0:((w0.length:Int)*24≤140737488355328)=True:=by simpa using h0
 have e1:((w1.length:Int)*24≤140737488355328)=True:=by simpa using h1
 have e2:((w2.length:Int)*24≤140737488355328)=True:=by simpa using h2
 have e3:((w3.length:Int)*24≤140737488355328)=True:=by simpa using h3
 refine Ac rfl 5 (by rfl) ?_
 delta c59
 cases p<;>simp +contextual -dsimp -implicitDefEqProofs (maxSteps:=5000000) only [gLs,↓Aj (pH.eq_1),e0,e1,e2,e3,go_sem,simprocAttr]
@[go_sem] theorem Yh (i:Nat) (pf:Bool) (s:Af) (hs:SmS s):Aa (Lv ctx (i+1)) 60 [eS pf s]=some (oS s):=by
 have h1:((s.prog.length:Int)*32≤140737488355328)=True:=by simpa using hs.bp
 have h2:((s.reads.length:Int)*24≤140737488355328)=True:=by simpa using hs.br
 have h3:((s.writes.length:Int)*24≤140737488355328)=True:=by simpa using hs.bw
 simp only [eS]
 refine Ac rfl 0 (by rfl) ?_
 delta c60
 cases pf<;>simp +contextual -dsimp -implicitDefEqProofs (maxSteps:=5000000) only [h1,h2,h3,go_sem,simprocAttr]
abbrev hR (pf d:Bool) (m:Ad) (els:List V):Hp :=
 pO (pO (pO (pO (pO (pO Ag 0 (some ⟨11,[zM],false⟩)) 1 (some ⟨11,[.agg [.sl 2,.sl 3,.sl 4,.sl 5,iV m.clocks.a0,iV m.clocks.a1,iV m.clocks.a2,iV m.clocks.a3,iV m.ceil,.own 17 els,eEs pf m.trace]],d⟩))
  2 (some ⟨3,m.words.a0.map eW,false⟩)) 3 (some ⟨3,m.words.a1.map eW,false⟩)) 4 (some ⟨3,m.words.a2.map eW,false⟩)) 5 (some ⟨3,m.words.a3.map eW,false⟩)
theorem Wa (i k:Nat) (pf:Bool) (m:Ad) (hm:SmM m) (q:Out→St→Option Ans) (Q:V→Hp→Nat→Prop):∀ (suf pre:List Af) (kk:Nat),m.sess=pre++suf→suf.length<kk+1 →
  Fin (evC ctx (Lv ctx (i+1)) (Aa (Lv ctx (i+1))) k TF ⟨Ae [1,2,3,4] [.ip pf (cM pf m) 0,.ptr 0 0 0,.ptr 1 0 0,iV pre.length],hR pf true m (pre.map oS),6⟩
   (As [1,2,3,4] fun o s=>Cl (BG 6 [1,2,3,4] (fun s q=>evC ctx (Lv ctx (i+1)) (Aa (Lv ctx (i+1))) k TF s (As [1,2,3,4] q)) q kk) q o s)) Q =
  Fin (q (.exit 0) ⟨Ae [1,2,3] [.ip pf (cM pf m) 0,.ptr 0 0 0,.ptr 1 0 0],hR pf true m (m.sess.map oS),6⟩) Q
 | [],pre,kk,hxs,hk=>by
  have h1:decide ((pre.length:Int)<m.sess.length)=false:=by simp [hxs]
  have h2:m.sess=pre:=by simp [hxs]
  rw [Aj (TF.eq_1)]
  simp +contextual -dsimp -implicitDefEqProofs (maxSteps:=5000000) only [h1,go_sem,simprocAttr]
  rw [h2]
 | a::suf,pre,kk,hxs,hk=>by
  obtain ⟨kk,rfl⟩:∃ m,kk=m+1:=⟨kk - 1,by simp at hk;omega⟩
  have hl:pre.length<m.sess.length:=by simp [hxs]
  have h2:((pre.length:Int)<m.sess.length)=True:=by simpa using hl
  have h3:(0≤(pre.length:Int))=True:=by simp
  have h4:=wrN pre.length (by have:=hm.ss;omega)
  have hg:m.sess[pre.length]?=some a:=by simp [hxs]
  have h5:(((pre.length+1:Nat):Int)*184≤140737488355328)=True:=by
   have:=hm.bs
   simp only [eq_iff_iff,iff_true]
   have:pre.length+1≤m.sess.length:=hl
   omega
  have hs:=Yh (i+0) pf a (hm.s a (by simp [hxs]))
  have ih:=Wa i k pf m hm q Q suf (pre++[a]) kk (by simp [hxs]) (by simpa using hk)
  simp only [Ao,List.map_append,List.map_cons,List.map_nil,oS] at ih
  simp only [Nat.add_assoc,Nat.reduceAdd,eS] at hs
  rw [Aj (TF.eq_1)]
  cases pf<;>simp +contextual -dsimp -implicitDefEqProofs (maxSteps:=5000000) only [h2,h3,h4,h5,hg,hs,gLs,go_sem,simprocAttr]<;>exact ih
theorem FV (i:Nat) (pf:Bool) (m:Ad) (hm:SmM m):Aa (Lv ctx (i+2)) 28 [eM pf m]=some (oM m):=by
 have b0:=hm.b0
 have b1:=hm.b1
 have b2:=hm.b2
 have b3:=hm.b3
 have e5:((m.trace.length:Int)*32≤140737488355328)=True:=by simpa using hm.bt
 refine Ac rfl (m.sess.length+1) (by rfl) ?_
 delta c28
 have hl:=fun q Q=>Wa i (m.sess.length+1) pf m hm q Q m.sess [] m.sess.length rfl (by omega)
 simp only [List.length_nil,Int.natCast_zero,List.map_nil] at hl
 cases pf
 ·simp +contextual -dsimp -implicitDefEqProofs (maxSteps:=5000000) only [b0,b1,b2,b3,e5,gLs,go_sem,simprocAttr]
  refine Eq.mpr (hl _ _) ?_
  simp +contextual -dsimp -implicitDefEqProofs (maxSteps:=5000000) only [e5,go_sem,simprocAttr]
 ·simp +contextual -dsimp -implicitDefEqProofs (maxSteps:=5000000) only [b0,b1,b2,b3,e5,gLs,go_sem,simprocAttr]
  refine Eq.mpr (hl _ _) ?_
  simp +contextual -dsimp -implicitDefEqProofs (maxSteps:=5000000) only [e5,go_sem,simprocAttr]
end Ve
namespace Ve
open Go Ve.Ab
set_option maxHeartbeats 16000000
set_option maxRecDepth 10000
theorem vP (ms:List Bool):Ec ms []=.ret ([],[]):=by cases ms<;>rfl
theorem ao_t (ms:List Bool) (v:V) (r:List V):Ec (true::ms) (v::r)=(AF 0 6 v).bind fun x=>if x.1.perm then (Ec ms r).bind fun y=>.ret (x.1::y.1,x.2++y.2) else .fail:=(rfl)
theorem ao_f (ms:List Bool) (v:V) (r:List V):Ec (false::ms) (v::r)=if v.perm then (Ec ms r).bind fun y=>.ret (v::y.1,y.2) else .fail:=(rfl)
theorem ao_0 (v:V) (r:List V):Ec [] (v::r)=if v.perm then (Ec [] r).bind fun y=>.ret (v::y.1,y.2) else .fail:=(rfl)
attribute [go_sem] vP ao_t ao_f ao_0
theorem SQ (i k:Nat) (m:Ad) (hm:SmM m) (at_ id c:Int) (hc:IntKind.wrap .i64 (id+1)=c) (q:Out→St→Option Ans) (Q:V→Hp→Nat→Prop):∀ (suf pre:List Al) (kk:Nat),m.words.a0=pre++suf→suf.length<kk+1 →
  Fin (evC ctx (Lv ctx (i+2)) (Aa (Lv ctx (i+2))) k CR ⟨Ae [1,4,5,6,7,8] [iV at_,.ptr 0 0 0,.ptr 7 0 0,iV id,iV 0,iV pre.length],hF m ((pre.map (Ap c)).map eW++suf.map eW) (m.words.a1.map eW) (m.words.a2.map eW) (m.words.a3.map eW),8⟩ (As [1,4,5,6,7,8] fun o s=>Cl (BG 8 [1,4,5,6,7,8] (fun s q=>evC ctx (Lv ctx (i+2)) (Aa (Lv ctx (i+2))) k CR s (As [1,4,5,6,7,8] q)) q kk) q o s)) Q=Fin (q (.exit 2) ⟨Ae [1,4,5,6,7] [iV at_,.ptr 0 0 0,.ptr 7 0 0,iV id,iV 0],hF m ((m.words.a0.map (Ap c)).map eW) (m.words.a1.map eW) (m.words.a2.map eW) (m.words.a3.map eW),8⟩) Q
 | [],pre,kk,hxs,hk=>by
  have h1:decide ((pre.length:Int)<(pre.length:Int))=false:=by simp
  have h2:m.words.a0=pre:=by simp [hxs]
  rw [Aj (CR.eq_1)]
  simp only [List.map_nil,List.append_nil]
  rw [h2]
  simp +contextual -dsimp -implicitDefEqProofs (maxSteps:=5000000) only [h1,List.length_map,go_sem,simprocAttr]
  all_goals (try rfl)
 | a::suf,pre,kk,hxs,hk=>by
  obtain ⟨kk,rfl⟩:∃ m,kk=m+1:=⟨kk - 1,by simp at hk;omega⟩
  have h2:((pre.length:Int)<((((pre.map (Ap c)).map eW++(a::suf).map eW).length:Nat):Int))=True:=by simp;omega
  have h2':((pre.length:Int)<((pre.length+(suf.length+1):Nat):Int))=True:=by simp;omega
  have h3:(0≤(pre.length:Int))=True:=by simp
  have h4:=wrN pre.length (by have:=hm.w0;rw [hxs] at this;simp at this;omega)
  have hg:((pre.map (Ap c)).map eW++(a::suf).map eW)[pre.length]?=some (eW a):=by simp
  have hset:∀ x,((pre.map (Ap c)).map eW++(a::suf).map eW).set pre.length x=(pre.map (Ap c)).map eW++x::suf.map eW:=by intro x;simp [List.set_append]
  have ih:=SQ i k m hm at_ id c hc q Q suf (pre++[a]) kk (by simp [hxs]) (by simpa using hk)
  simp only [Ao,List.map_append,List.map_cons,List.map_nil,List.append_assoc,List.cons_append,List.nil_append] at ih
  by_cases hlk:a.lock=c
  ·have h5:decide (a.lock=c)=true:=by simpa using hlk
   simp only [Ap,hlk,if_true,eW] at ih
   simp only [eW,List.map_cons,Ap] at h2 hg hset ⊢
   rw [Aj (CR.eq_1)]
   simp +contextual -dsimp -implicitDefEqProofs (maxSteps:=5000000) only [h2,h2',h3,h4,hg,hset,hc,h5,gLs,go_sem,simprocAttr]
   exact ih
  ·have h5:decide (a.lock=c)=false:=by simpa using hlk
   simp only [Ap,hlk,if_false,eW] at ih
   simp only [eW,List.map_cons,Ap] at h2 hg hset ⊢
   rw [Aj (CR.eq_1)]
   simp +contextual -dsimp -implicitDefEqProofs (maxSteps:=5000000) only [h2,h2',h3,h4,hg,hset,hc,h5,gLs,go_sem,simprocAttr]
   exact ih
theorem SO (i k:Nat) (m:Ad) (hm:SmM m) (at_ id c:Int) (hc:IntKind.wrap .i64 (id+1)=c) (q:Out→St→Option Ans) (Q:V→Hp→Nat→Prop):∀ (suf pre:List Al) (kk:Nat),m.words.a1=pre++suf→suf.length<kk+1 →
  Fin (evC ctx (Lv ctx (i+2)) (Aa (Lv ctx (i+2))) k CR ⟨Ae [1,4,5,6,7,8] [iV at_,.ptr 0 0 0,.ptr 7 0 0,iV id,iV 1,iV pre.length],hF m ((m.words.a0.map (Ap c)).map eW) ((pre.map (Ap c)).map eW++suf.map eW) (m.words.a2.map eW) (m.words.a3.map eW),8⟩ (As [1,4,5,6,7,8] fun o s=>Cl (BG 8 [1,4,5,6,7,8] (fun s q=>evC ctx (Lv ctx (i+2)) (Aa (Lv ctx (i+2))) k CR s (As [1,4,5,6,7,8] q)) q kk) q o s)) Q=Fin (q (.exit 2) ⟨Ae [1,4,5,6,7] [iV at_,.ptr 0 0 0,.ptr 7 0 0,iV id,iV 1],hF m ((m.words.a0.map (Ap c)).map eW) ((m.words.a1.map (Ap c)).map eW) (m.words.a2.map eW) (m.words.a3.map eW),8⟩) Q
 | [],pre,kk,hxs,hk=>by
  have h1:decide ((pre.length:Int)<(pre.length:Int))=false:=by simp
  have h2:m.words.a1=pre:=by simp [hxs]
  rw [Aj (CR.eq_1)]
  simp only [List.map_nil,List.append_nil]
  rw [h2]
  simp +contextual -dsimp -implicitDefEqProofs (maxSteps:=5000000) only [h1,List.length_map,go_sem,simprocAttr]
  all_goals (try rfl)
 | a::suf,pre,kk,hxs,hk=>by
  obtain ⟨kk,rfl⟩:∃ m,kk=m+1:=⟨kk - 1,by simp at hk;omega⟩
  have h2:((pre.length:Int)<((((pre.map (Ap c)).map eW++(a::suf).map eW).length:Nat):Int))=True:=by simp;omega
  have h2':((pre.length:Int)<((pre.length+(suf.length+1):Nat):Int))=True:=by simp;omega
  have h3:(0≤(pre.length:Int))=True:=by simp
  have h4:=wrN pre.length (by have:=hm.w1;rw [hxs] at this;simp at this;omega)
  have hg:((pre.map (Ap c)).map eW++(a::suf).map eW)[pre.length]?=some (eW a):=by simp
  have hset:∀ x,((pre.map (Ap c)).map eW++(a::suf).map eW).set pre.length x=(pre.map (Ap c)).map eW++x::suf.map eW:=by intro x;simp [List.set_append]
  have ih:=SO i k m hm at_ id c hc q Q suf (pre++[a]) kk (by simp [hxs]) (by simpa using hk)
  simp only [Ao,List.map_append,List.map_cons,List.map_nil,List.append_assoc,List.cons_append,List.nil_append] at ih
  by_cases hlk:a.lock=c
  ·have h5:decide (a.lock=c)=true:=by simpa using hlk
   simp only [Ap,hlk,if_true,eW] at ih
   simp only [eW,List.map_cons,Ap] at h2 hg hset ⊢
   rw [Aj (CR.eq_1)]
   simp +contextual -dsimp -implicitDefEqProofs (maxSteps:=5000000) only [h2,h2',h3,h4,hg,hset,hc,h5,gLs,go_sem,simprocAttr]
   exact ih
  ·have h5:decide (a.lock=c)=false:=by simpa using hlk
   simp only [Ap,hlk,if_false,eW] at ih
   simp only [eW,List.map_cons,Ap] at h2 hg hset ⊢
   rw [Aj (CR.eq_1)]
   simp +contextual -dsimp -implicitDefEqProofs (maxSteps:=5000000) only [h2,h2',h3,h4,hg,hset,hc,h5,gLs,go_sem,simprocAttr]
   exact ih
theorem SN (i k:Nat) (m:Ad) (hm:SmM m) (at_ id c:Int) (hc:IntKind.wrap .i64 (id+1)=c) (q:Out→St→Option Ans) (Q:V→Hp→Nat→Prop):∀ (suf pre:List Al) (kk:Nat),m.words.a2=pre++suf→suf.length<kk+1 →
  Fin (evC ctx (Lv ctx (i+2)) (Aa (Lv ctx (i+2))) k CR ⟨Ae [1,4,5,6,7,8] [iV at_,.ptr 0 0 0,.ptr 7 0 0,iV id,iV 2,iV pre.length],hF m ((m.words.a0.map (Ap c)).map eW) ((m.words.a1.map (Ap c)).map eW) ((pre.map (Ap c)).map eW++suf.map eW) (m.words.a3.map eW),8⟩ (As [1,4,5,6,7,8] fun o s=>Cl (BG 8 [1,4,5,6,7,8] (fun s q=>evC ctx (Lv ctx (i+2)) (Aa (Lv ctx (i+2))) k CR s (As [1,4,5,6,7,8] q)) q kk) q o s)) Q=Fin (q (.exit 2) ⟨Ae [1,4,5,6,7] [iV at_,.ptr 0 0 0,.ptr 7 0 0,iV id,iV 2],hF m ((m.words.a0.map (Ap c)).map eW) ((m.words.a1.map (Ap c)).map eW) ((m.words.a2.map (Ap c)).map eW) (m.words.a3.map eW),8⟩) Q
 | [],pre,kk,hxs,hk=>by
  have h1:decide ((pre.length:Int)<(pre.length:Int))=false:=by simp
  have h2:m.words.a2=pre:=by simp [hxs]
  rw [Aj (CR.eq_1)]
  simp only [List.map_nil,List.append_nil]
  rw [h2]
  simp +contextual -dsimp -implicitDefEqProofs (maxSteps:=5000000) only [h1,List.length_map,go_sem,simprocAttr]
  all_goals (try rfl)
 | a::suf,pre,kk,hxs,hk=>by
  obtain ⟨kk,rfl⟩:∃ m,kk=m+1:=⟨kk - 1,by simp at hk;omega⟩
  have h2:((pre.length:Int)<((((pre.map (Ap c)).map eW++(a::suf).map eW).length:Nat):Int))=True:=by simp;omega
  have h2':((pre.length:Int)<((pre.length+(suf.length+1):Nat):Int))=True:=by simp;omega
  have h3:(0≤(pre.length:Int))=True:=by simp
  have h4:=wrN pre.length (by have:=hm.w2;rw [hxs] at this;simp at this;omega)
  have hg:((pre.map (Ap c)).map eW++(a::suf).map eW)[pre.length]?=some (eW a):=by simp
  have hset:∀ x,((pre.map (Ap c)).map eW++(a::suf).map eW).set pre.length x=(pre.map (Ap c)).map eW++x::suf.map eW:=by intro x;simp [List.set_append]
  have ih:=SN i k m hm at_ id c hc q Q suf (pre++[a]) kk (by simp [hxs]) (by simpa using hk)
  simp only [Ao,List.map_append,List.map_cons,List.map_nil,List.append_assoc,List.cons_append,List.nil_append] at ih
  by_cases hlk:a.lock=c
  ·have h5:decide (a.lock=c)=true:=by simpa using hlk
   simp only [Ap,hlk,if_true,eW] at ih
   simp only [eW,List.map_cons,Ap] at h2 hg hset ⊢
   rw [Aj (CR.eq_1)]
   simp +contextual -dsimp -implicitDefEqProofs (maxSteps:=5000000) only [h2,h2',h3,h4,hg,hset,hc,h5,gLs,go_sem,simprocAttr]
   exact ih
  ·have h5:decide (a.lock=c)=false:=by simpa using hlk
   simp only [Ap,hlk,if_false,eW] at ih
   simp only [eW,List.map_cons,Ap] at h2 hg hset ⊢
   rw [Aj (CR.eq_1)]
   simp +contextual -dsimp -implicitDefEqProofs (maxSteps:=5000000) only [h2,h2',h3,h4,hg,hset,hc,h5,gLs,go_sem,simprocAttr]
   exact ih
theorem SM (i k:Nat) (m:Ad) (hm:SmM m) (at_ id c:Int) (hc:IntKind.wrap .i64 (id+1)=c) (q:Out→St→Option Ans) (Q:V→Hp→Nat→Prop):∀ (suf pre:List Al) (kk:Nat),m.words.a3=pre++suf→suf.length<kk+1 →
  Fin (evC ctx (Lv ctx (i+2)) (Aa (Lv ctx (i+2))) k CR ⟨Ae [1,4,5,6,7,8] [iV at_,.ptr 0 0 0,.ptr 7 0 0,iV id,iV 3,iV pre.length],hF m ((m.words.a0.map (Ap c)).map eW) ((m.words.a1.map (Ap c)).map eW) ((m.words.a2.map (Ap c)).map eW) ((pre.map (Ap c)).map eW++suf.map eW),8⟩ (As [1,4,5,6,7,8] fun o s=>Cl (BG 8 [1,4,5,6,7,8] (fun s q=>evC ctx (Lv ctx (i+2)) (Aa (Lv ctx (i+2))) k CR s (As [1,4,5,6,7,8] q)) q kk) q o s)) Q=Fin (q (.exit 2) ⟨Ae [1,4,5,6,7] [iV at_,.ptr 0 0 0,.ptr 7 0 0,iV id,iV 3],hF m ((m.words.a0.map (Ap c)).map eW) ((m.words.a1.map (Ap c)).map eW) ((m.words.a2.map (Ap c)).map eW) ((m.words.a3.map (Ap c)).map eW),8⟩) Q
 | [],pre,kk,hxs,hk=>by
  have h1:decide ((pre.length:Int)<(pre.length:Int))=false:=by simp
  have h2:m.words.a3=pre:=by simp [hxs]
  rw [Aj (CR.eq_1)]
  simp only [List.map_nil,List.append_nil]
  rw [h2]
  simp +contextual -dsimp -implicitDefEqProofs (maxSteps:=5000000) only [h1,List.length_map,go_sem,simprocAttr]
  all_goals (try rfl)
 | a::suf,pre,kk,hxs,hk=>by
  obtain ⟨kk,rfl⟩:∃ m,kk=m+1:=⟨kk - 1,by simp at hk;omega⟩
  have h2:((pre.length:Int)<((((pre.map (Ap c)).map eW++(a::suf).map eW).length:Nat):Int))=True:=by simp;omega
  have h2':((pre.length:Int)<((pre.length+(suf.length+1):Nat):Int))=True:=by simp;omega
  have h3:(0≤(pre.length:Int))=True:=by simp
  have h4:=wrN pre.length (by have:=hm.w3;rw [hxs] at this;simp at this;omega)
  have hg:((pre.map (Ap c)).map eW++(a::suf).map eW)[pre.length]?=some (eW a):=by simp
  have hset:∀ x,((pre.map (Ap c)).map eW++(a::suf).map eW).set pre.length x=(pre.map (Ap c)).map eW++x::suf.map eW:=by intro x;simp [List.set_append]
  have ih:=SM i k m hm at_ id c hc q Q suf (pre++[a]) kk (by simp [hxs]) (by simpa using hk)
  simp only [Ao,List.map_append,List.map_cons,List.map_nil,List.append_assoc,List.cons_append,List.nil_append] at ih
  by_cases hlk:a.lock=c
  ·have h5:decide (a.lock=c)=true:=by simpa using hlk
   simp only [Ap,hlk,if_true,eW] at ih
   simp only [eW,List.map_cons,Ap] at h2 hg hset ⊢
   rw [Aj (CR.eq_1)]
   simp +contextual -dsimp -implicitDefEqProofs (maxSteps:=5000000) only [h2,h2',h3,h4,hg,hset,hc,h5,gLs,go_sem,simprocAttr]
   exact ih
  ·have h5:decide (a.lock=c)=false:=by simpa using hlk
   simp only [Ap,hlk,if_false,eW] at ih
   simp only [eW,List.map_cons,Ap] at h2 hg hset ⊢
   rw [Aj (CR.eq_1)]
   simp +contextual -dsimp -implicitDefEqProofs (maxSteps:=5000000) only [h2,h2',h3,h4,hg,hset,hc,h5,gLs,go_sem,simprocAttr]
   exact ih
theorem VH (i:Nat) (pf:Bool) (m:Ad) (hm:SmM m) (k:Nat) (s:Af) (hs:m.sess[k]?=some s):Aa (Lv ctx (i+3)) 110 [eM pf m,iV k]=some (oM (AA (BV (IntKind.wrap .i64 (s.id+1)) m) k (Du s))):=by
 have hk:=Au hs
 have h1:(0≤(k:Int))=True:=by simp
 have h2:((k:Int)<(m.sess.length:Int))=True:=by simpa using hk
 have h3:(m.sess.map oS)[k]?=some (oS s):=by simp [hs]
 have h4:∀ x y,((m.sess.map oS).set k x).set k y=(m.sess.map oS).set k y:=fun x y=>List.set_set ..
 have h5:∀ x,((m.sess.map oS).set k x)[k]?=some x:=fun x=>List.getElem?_set_self (by simpa using hk)
 have hc:=FV (i+0) pf m hm
 have l0:=fun q Q=>SQ i (m.words.a0.length+m.words.a1.length+m.words.a2.length+m.words.a3.length+5) m hm k s.id (IntKind.wrap .i64 (s.id+1)) rfl q Q m.words.a0 [] (m.words.a0.length+m.words.a1.length+m.words.a2.length+m.words.a3.length+4) rfl (by omega)
 have l1:=fun q Q=>SO i (m.words.a0.length+m.words.a1.length+m.words.a2.length+m.words.a3.length+5) m hm k s.id (IntKind.wrap .i64 (s.id+1)) rfl q Q m.words.a1 [] (m.words.a0.length+m.words.a1.length+m.words.a2.length+m.words.a3.length+4) rfl (by omega)
 have l2:=fun q Q=>SN i (m.words.a0.length+m.words.a1.length+m.words.a2.length+m.words.a3.length+5) m hm k s.id (IntKind.wrap .i64 (s.id+1)) rfl q Q m.words.a2 [] (m.words.a0.length+m.words.a1.length+m.words.a2.length+m.words.a3.length+4) rfl (by omega)
 have l3:=fun q Q=>SM i (m.words.a0.length+m.words.a1.length+m.words.a2.length+m.words.a3.length+5) m hm k s.id (IntKind.wrap .i64 (s.id+1)) rfl q Q m.words.a3 [] (m.words.a0.length+m.words.a1.length+m.words.a2.length+m.words.a3.length+4) rfl (by omega)
 simp only [Nat.add_assoc,Nat.reduceAdd,oS] at hc h3
 simp only [List.map_nil,List.nil_append,List.length_nil,Nu] at l0 l1 l2 l3
 refine Ac rfl (m.words.a0.length+m.words.a1.length+m.words.a2.length+m.words.a3.length+5) (by rfl) ?_
 delta c110
 simp +contextual -dsimp -implicitDefEqProofs (maxSteps:=5000000) only [hc,hs,h1,h2,h3,h4,h5,gLs,↓l0,↓l1,↓l2,↓l3,l0,l1,l2,l3,↓Aj (fK.eq_1),List.length_set,go_sem,simprocAttr]
 simp only [oM,cO,oWs,oSs,oEs,AA,BV,List.map_set,Du]
 all_goals rfl
theorem JH (i:Nat) (m:Ad) (k:Nat) (s:Af) (hs:m.sess[k]?=some s) (kd vl:Int):Aa (Lv ctx (i+1)) 75 [oM m,iV k,iV kd,iV vl]=some (oM (AT m ⟨s.id,s.label,kd,vl⟩)):=by
 have hk:=Au hs
 have h1:(0≤(k:Int))=True:=by simp
 have h2:((k:Int)<(m.sess.length:Int))=True:=by simpa using hk
 have h3:(m.sess.map oS)[k]?=some (oS s):=by simp [hs]
 simp only [oS] at h3
 by_cases htr:m.trace.length<512
 ·have h6:decide ((m.trace.length:Int)<512)=true:=by simp;omega
  have h7:(((m.trace.length+1:Nat):Int)*32≤140737488355328)=True:=by simp;omega
  refine Ac rfl 0 (by rfl) ?_
  delta c75
  simp +contextual -dsimp -implicitDefEqProofs (maxSteps:=5000000) only [h1,h2,hs,h6,h7,go_sem,simprocAttr]
  simp only [oM,cO,oWs,oSs,oEs,AT,htr,if_true,List.map_append]
  rfl
 ·have h6:decide ((m.trace.length:Int)<512)=false:=by simp;omega
  refine Ac rfl 0 (by rfl) ?_
  delta c75
  simp +contextual -dsimp -implicitDefEqProofs (maxSteps:=5000000) only [h6,go_sem,simprocAttr]
  simp only [oM,cO,oWs,oSs,oEs,AT,htr,if_false]
end Ve
namespace Ve
open Go Ve.Ab
set_option maxHeartbeats 16000000
set_option maxRecDepth 10000
theorem LZ (i:Nat) (pf:Bool) (m:Ad) (hm:SmM m) (at_ kind:Int):Aa (Lv ctx (i+9)) 71 [eM pf m,iV at_,iV kind]=some (.tup [oM (By m at_ kind).1,iV (By m at_ kind).2]):=by
 have ht:=Hk (i+0) pf m at_ hm
 simp only [Nat.add_assoc,Nat.reduceAdd] at ht
 have h2:∀ a b c:Bool,(!a||!b&&!c)=!(a&&(b||c)):=by decide
 have h3:=h2 (Bq m at_) (decide (kind=3)) (decide (kind=5))
 cases h1:(Bq m at_&&(decide (kind=3)||decide (kind=5)))<;>rw [h1] at h3
 ·refine Ac rfl 0 (by rfl) ?_
  delta c71
  simp +contextual -dsimp -implicitDefEqProofs (maxSteps:=5000000) only [ht,h3,go_sem,simprocAttr]
  simp only [By,h1]
  rfl
 ·have hh:Bq m at_=true:=by simp only [Bool.and_eq_true] at h1;exact h1.1
  obtain ⟨s,k,rfl,hs,hk⟩:=ID hh
  have hm1:By m k kind=(AT (AA (BV (IntKind.wrap .i64 (s.id+1)) m) k (CT s)) ⟨s.id,s.label,kind,Jn s.tries⟩,0):=by
   simp only [By,h1,if_true,Int.toNat_natCast,hs]
  have hl:=VH (i+5) pf m hm k s hs
  have htl:=JH (i+7) (AA (BV (IntKind.wrap .i64 (s.id+1)) m) k (CT s)) k (CT s) (by simp [AA,BV,hk]) kind (Jn s.tries)
  have e1:(0≤(k:Int))=True:=by simp
  have e2:((k:Int)<(m.sess.length:Int))=True:=by simpa using hk
  have e4:∀ x y,((m.sess.map oS).set k x).set k y=(m.sess.map oS).set k y:=fun x y=>List.set_set ..
  have e5:∀ x,((m.sess.map oS).set k x)[k]?=some x:=fun x=>List.getElem?_set_self (by simpa using hk)
  simp only [Nat.add_assoc,Nat.reduceAdd,oM,cO,oWs,oSs,oEs,AA,BV,List.map_set,Du,oS] at hl
  simp only [Nat.add_assoc,Nat.reduceAdd,oM,cO,oWs,oSs,oEs,AA,BV,List.map_set,CT,Du,oS,Jn] at htl
  rw [hm1]
  refine Ac rfl 0 (by rfl) ?_
  delta c71
  simp +contextual -dsimp -implicitDefEqProofs (maxSteps:=5000000) only [ht,h3,hl,htl,hs,e1,e2,e4,e5,List.length_set,go_sem,simprocAttr]
  simp only [oM,cO,oWs,oSs,oEs,AA,BV,List.map_set,CT,Du,oS,Jn]
theorem Ot (i:Nat) (pf:Bool) (m:Ad) (hm:SmM m) (at_ result told:Int):Aa (Lv ctx (i+9)) 67 [eM pf m,iV at_,iV result,iV told]=some (.tup [oM (CL m at_ result told).1,iV (CL m at_ result told).2]):=by
 have ht:=Hk (i+0) pf m at_ hm
 simp only [Nat.add_assoc,Nat.reduceAdd] at ht
 have hf:∀ a b:Int,(decide (0≤a)&&decide (a≤b))=inR a b:=fun _ _=>(rfl)
 have h2:∀ a b c:Bool,(!a||!b||!c)=!(a&&b&&c):=by decide
 have h3:=h2 (Bq m at_) (inR result 5) (inR told 255)
 cases h1:(Bq m at_&&inR result 5&&inR told 255)<;>rw [h1] at h3
 ·refine Ac rfl 0 (by rfl) ?_
  delta c67
  simp +contextual -dsimp -implicitDefEqProofs (maxSteps:=5000000) only [ht,h3,hf,go_sem,simprocAttr]
  simp only [CL,h1]
  rfl
 ·have hh:Bq m at_=true:=by simp only [Bool.and_eq_true] at h1;exact h1.1.1
  obtain ⟨s,k,rfl,hs,hk⟩:=ID hh
  have hm1:CL m k result told=(AT (AA (BV (IntKind.wrap .i64 (s.id+1)) m) k (FZ s result told)) ⟨s.id,s.label,6,result⟩,0):=by
   simp only [CL,h1,if_true,Int.toNat_natCast,hs]
  have hl:=VH (i+5) pf m hm k s hs
  have htl:=JH (i+7) (AA (BV (IntKind.wrap .i64 (s.id+1)) m) k (FZ s result told)) k (FZ s result told) (by simp [AA,BV,hk]) 6 result
  have e1:(0≤(k:Int))=True:=by simp
  have e2:((k:Int)<(m.sess.length:Int))=True:=by simpa using hk
  have e4:∀ x y,((m.sess.map oS).set k x).set k y=(m.sess.map oS).set k y:=fun x y=>List.set_set ..
  have e5:∀ x,((m.sess.map oS).set k x)[k]?=some x:=fun x=>List.getElem?_set_self (by simpa using hk)
  simp only [Nat.add_assoc,Nat.reduceAdd,oM,cO,oWs,oSs,oEs,AA,BV,List.map_set,Du,oS] at hl
  simp only [Nat.add_assoc,Nat.reduceAdd,oM,cO,oWs,oSs,oEs,AA,BV,List.map_set,FZ,Du,oS] at htl
  rw [hm1]
  refine Ac rfl 0 (by rfl) ?_
  delta c67
  simp +contextual -dsimp -implicitDefEqProofs (maxSteps:=5000000) only [ht,h3,hf,hl,htl,hs,e1,e2,e4,e5,List.length_set,go_sem,simprocAttr]
  simp only [oM,cO,oWs,oSs,oEs,AA,BV,List.map_set,FZ,Du,oS]
end Ve
