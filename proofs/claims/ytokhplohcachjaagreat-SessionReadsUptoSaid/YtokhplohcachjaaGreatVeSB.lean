/- Undoing: the program's. -/
import Derived.Test.YtokhplohcachjaaGreatVeSA
set_option linter.all false
set_option linter.unusedSectionVars false
namespace Ve
open Go Ve.Ab
set_option maxHeartbeats 16000000
set_option maxRecDepth 10000
theorem Hg (i:Nat) (p pf:Bool) (m:Ad) (at_:Int) (hm:SmM m):Aa (Lv ctx (i+20)) 37 [.ip p (cM pf m) 0,iV at_]=some (bV (Bj m at_)):=by
 have h1:=mC i pf m hm
 refine Ac rfl 0 (by rfl) ?_
 delta c37
 simp +contextual -dsimp -implicitDefEqProofs (maxSteps:=5000000) only [h1,Bj,go_sem,simprocAttr]
abbrev hF (m:Ad) (a1 a2 a3 a4:List V):Hp :=
 pO (pO (pO (pO (pO (pO (pO (pO Af 0 (some ⟨11,[zM],false⟩)) 1 (some ⟨3,a1,false⟩)) 2 (some ⟨3,a2,false⟩)) 3 (some ⟨3,a3,false⟩)) 4 (some ⟨3,a4,false⟩)) 5 (some ⟨17,m.sess.map oS,false⟩)) 6 (some ⟨4,m.trace.map eE,false⟩))
  7 (some ⟨11,[.agg [.sl 1,.sl 2,.sl 3,.sl 4,iV m.clocks.a0,iV m.clocks.a1,iV m.clocks.a2,iV m.clocks.a3,iV m.ceil,.sl 5,.sl 6]],true⟩)
theorem Vu (i k:Nat) (m:Ad) (hm:SmM m) (id c:Int) (hc:IntKind.wrap .i64 (id+1)=c) (q:Out→St→Option Ans) (Q:V→Hp→Nat→Prop):∀ (suf pre:List Ao) (kk:Nat),m.words.a0=pre++suf→suf.length<kk+1 →
  Fin (evC ctx (Lv ctx i) (Aa (Lv ctx i)) k CE ⟨Ae [0,1,4,5] [.ptr 7 0 0,iV id,iV 0,iV pre.length],hF m ((pre.map (Ap c)).map eW++suf.map eW) (m.words.a1.map eW) (m.words.a2.map eW) (m.words.a3.map eW),8⟩ (Aq [0,1,4,5] fun o s=>BI (Bg 8 [0,1,4,5] (fun s q=>evC ctx (Lv ctx i) (Aa (Lv ctx i)) k CE s (Aq [0,1,4,5] q)) q kk) q o s)) Q=Fin (q (.exit 0) ⟨Ae [0,1,4] [.ptr 7 0 0,iV id,iV 0],hF m ((m.words.a0.map (Ap c)).map eW) (m.words.a1.map eW) (m.words.a2.map eW) (m.words.a3.map eW),8⟩) Q
 | [],pre,kk,hxs,hk=>by
  have h1:decide ((pre.length:Int)<(pre.length:Int))=false:=by simp
  have h2:m.words.a0=pre:=by simp [hxs]
  rw [Aj (CE.eq_1)]
  simp only [List.map_nil,List.append_nil]
  rw [h2]
  simp +contextual -dsimp -implicitDefEqProofs (maxSteps:=5000000) only [h1,List.length_map,go_sem,simprocAttr]
  all_goals (try rfl)
 | a::suf,pre,kk,hxs,hk=>by
  obtain ⟨kk,rfl⟩:∃ m,kk=m+1:=⟨kk - 1,by simp at hk;omega⟩
  have hl:pre.length<((pre.map (Ap c)).map eW++(a::suf).map eW).length:=by simp
  have h2:((pre.length:Int)<((((pre.map (Ap c)).map eW++(a::suf).map eW).length:Nat):Int))=True:=by simp;omega
  have h3:(0≤(pre.length:Int))=True:=by simp
  have h4:=wrN pre.length (by have:=hm.w0;rw [hxs] at this;simp at this;omega)
  have hg:((pre.map (Ap c)).map eW++(a::suf).map eW)[pre.length]?=some (eW a):=by simp
  have hset:∀ x,((pre.map (Ap c)).map eW++(a::suf).map eW).set pre.length x=(pre.map (Ap c)).map eW++x::suf.map eW:=by intro x;simp [List.set_append]
  have ih:=Vu i k m hm id c hc q Q suf (pre++[a]) kk (by simp [hxs]) (by simpa using hk)
  simp only [Al,List.map_append,List.map_cons,List.map_nil,List.append_assoc,List.cons_append,List.nil_append] at ih
  by_cases hlk:a.lock=c
  ·have h5:decide (a.lock=c)=true:=by simpa using hlk
   simp only [Ap,hlk,if_true,eW] at ih
   simp only [eW,List.map_cons,Ap] at h2 hg hset ⊢
   rw [Aj (CE.eq_1)]
   simp +contextual -dsimp -implicitDefEqProofs (maxSteps:=5000000) only [h2,h3,h4,hg,hset,hc,h5,gLs,go_sem,simprocAttr]
   exact ih
  ·have h5:decide (a.lock=c)=false:=by simpa using hlk
   simp only [Ap,hlk,if_false,eW] at ih
   simp only [eW,List.map_cons,Ap] at h2 hg hset ⊢
   rw [Aj (CE.eq_1)]
   simp +contextual -dsimp -implicitDefEqProofs (maxSteps:=5000000) only [h2,h3,h4,hg,hset,hc,h5,gLs,go_sem,simprocAttr]
   exact ih
theorem Vt (i k:Nat) (m:Ad) (hm:SmM m) (id c:Int) (hc:IntKind.wrap .i64 (id+1)=c) (q:Out→St→Option Ans) (Q:V→Hp→Nat→Prop):∀ (suf pre:List Ao) (kk:Nat),m.words.a1=pre++suf→suf.length<kk+1 →
  Fin (evC ctx (Lv ctx i) (Aa (Lv ctx i)) k CE ⟨Ae [0,1,4,5] [.ptr 7 0 0,iV id,iV 1,iV pre.length],hF m ((m.words.a0.map (Ap c)).map eW) ((pre.map (Ap c)).map eW++suf.map eW) (m.words.a2.map eW) (m.words.a3.map eW),8⟩ (Aq [0,1,4,5] fun o s=>BI (Bg 8 [0,1,4,5] (fun s q=>evC ctx (Lv ctx i) (Aa (Lv ctx i)) k CE s (Aq [0,1,4,5] q)) q kk) q o s)) Q=Fin (q (.exit 0) ⟨Ae [0,1,4] [.ptr 7 0 0,iV id,iV 1],hF m ((m.words.a0.map (Ap c)).map eW) ((m.words.a1.map (Ap c)).map eW) (m.words.a2.map eW) (m.words.a3.map eW),8⟩) Q
 | [],pre,kk,hxs,hk=>by
  have h1:decide ((pre.length:Int)<(pre.length:Int))=false:=by simp
  have h2:m.words.a1=pre:=by simp [hxs]
  rw [Aj (CE.eq_1)]
  simp only [List.map_nil,List.append_nil]
  rw [h2]
  simp +contextual -dsimp -implicitDefEqProofs (maxSteps:=5000000) only [h1,List.length_map,go_sem,simprocAttr]
  all_goals (try rfl)
 | a::suf,pre,kk,hxs,hk=>by
  obtain ⟨kk,rfl⟩:∃ m,kk=m+1:=⟨kk - 1,by simp at hk;omega⟩
  have hl:pre.length<((pre.map (Ap c)).map eW++(a::suf).map eW).length:=by simp
  have h2:((pre.length:Int)<((((pre.map (Ap c)).map eW++(a::suf).map eW).length:Nat):Int))=True:=by simp;omega
  have h3:(0≤(pre.length:Int))=True:=by simp
  have h4:=wrN pre.length (by have:=hm.w1;rw [hxs] at this;simp at this;omega)
  have hg:((pre.map (Ap c)).map eW++(a::suf).map eW)[pre.length]?=some (eW a):=by simp
  have hset:∀ x,((pre.map (Ap c)).map eW++(a::suf).map eW).set pre.length x=(pre.map (Ap c)).map eW++x::suf.map eW:=by intro x;simp [List.set_append]
  have ih:=Vt i k m hm id c hc q Q suf (pre++[a]) kk (by simp [hxs]) (by simpa using hk)
  simp only [Al,List.map_append,List.map_cons,List.map_nil,List.append_assoc,List.cons_append,List.nil_append] at ih
  by_cases hlk:a.lock=c
  ·have h5:decide (a.lock=c)=true:=by simpa using hlk
   simp only [Ap,hlk,if_true,eW] at ih
   simp only [eW,List.map_cons,Ap] at h2 hg hset ⊢
   rw [Aj (CE.eq_1)]
   simp +contextual -dsimp -implicitDefEqProofs (maxSteps:=5000000) only [h2,h3,h4,hg,hset,hc,h5,gLs,go_sem,simprocAttr]
   exact ih
  ·have h5:decide (a.lock=c)=false:=by simpa using hlk
   simp only [Ap,hlk,if_false,eW] at ih
   simp only [eW,List.map_cons,Ap] at h2 hg hset ⊢
   rw [Aj (CE.eq_1)]
   simp +contextual -dsimp -implicitDefEqProofs (maxSteps:=5000000) only [h2,h3,h4,hg,hset,hc,h5,gLs,go_sem,simprocAttr]
   exact ih
theorem Vs (i k:Nat) (m:Ad) (hm:SmM m) (id c:Int) (hc:IntKind.wrap .i64 (id+1)=c) (q:Out→St→Option Ans) (Q:V→Hp→Nat→Prop):∀ (suf pre:List Ao) (kk:Nat),m.words.a2=pre++suf→suf.length<kk+1 →
  Fin (evC ctx (Lv ctx i) (Aa (Lv ctx i)) k CE ⟨Ae [0,1,4,5] [.ptr 7 0 0,iV id,iV 2,iV pre.length],hF m ((m.words.a0.map (Ap c)).map eW) ((m.words.a1.map (Ap c)).map eW) ((pre.map (Ap c)).map eW++suf.map eW) (m.words.a3.map eW),8⟩ (Aq [0,1,4,5] fun o s=>BI (Bg 8 [0,1,4,5] (fun s q=>evC ctx (Lv ctx i) (Aa (Lv ctx i)) k CE s (Aq [0,1,4,5] q)) q kk) q o s)) Q=Fin (q (.exit 0) ⟨Ae [0,1,4] [.ptr 7 0 0,iV id,iV 2],hF m ((m.words.a0.map (Ap c)).map eW) ((m.words.a1.map (Ap c)).map eW) ((m.words.a2.map (Ap c)).map eW) (m.words.a3.map eW),8⟩) Q
 | [],pre,kk,hxs,hk=>by
  have h1:decide ((pre.length:Int)<(pre.length:Int))=false:=by simp
  have h2:m.words.a2=pre:=by simp [hxs]
  rw [Aj (CE.eq_1)]
  simp only [List.map_nil,List.append_nil]
  rw [h2]
  simp +contextual -dsimp -implicitDefEqProofs (maxSteps:=5000000) only [h1,List.length_map,go_sem,simprocAttr]
  all_goals (try rfl)
 | a::suf,pre,kk,hxs,hk=>by
  obtain ⟨kk,rfl⟩:∃ m,kk=m+1:=⟨kk - 1,by simp at hk;omega⟩
  have hl:pre.length<((pre.map (Ap c)).map eW++(a::suf).map eW).length:=by simp
  have h2:((pre.length:Int)<((((pre.map (Ap c)).map eW++(a::suf).map eW).length:Nat):Int))=True:=by simp;omega
  have h3:(0≤(pre.length:Int))=True:=by simp
  have h4:=wrN pre.length (by have:=hm.w2;rw [hxs] at this;simp at this;omega)
  have hg:((pre.map (Ap c)).map eW++(a::suf).map eW)[pre.length]?=some (eW a):=by simp
  have hset:∀ x,((pre.map (Ap c)).map eW++(a::suf).map eW).set pre.length x=(pre.map (Ap c)).map eW++x::suf.map eW:=by intro x;simp [List.set_append]
  have ih:=Vs i k m hm id c hc q Q suf (pre++[a]) kk (by simp [hxs]) (by simpa using hk)
  simp only [Al,List.map_append,List.map_cons,List.map_nil,List.append_assoc,List.cons_append,List.nil_append] at ih
  by_cases hlk:a.lock=c
  ·have h5:decide (a.lock=c)=true:=by simpa using hlk
   simp only [Ap,hlk,if_true,eW] at ih
   simp only [eW,List.map_cons,Ap] at h2 hg hset ⊢
   rw [Aj (CE.eq_1)]
   simp +contextual -dsimp -implicitDefEqProofs (maxSteps:=5000000) only [h2,h3,h4,hg,hset,hc,h5,gLs,go_sem,simprocAttr]
   exact ih
  ·have h5:decide (a.lock=c)=false:=by simpa using hlk
   simp only [Ap,hlk,if_false,eW] at ih
   simp only [eW,List.map_cons,Ap] at h2 hg hset ⊢
   rw [Aj (CE.eq_1)]
   simp +contextual -dsimp -implicitDefEqProofs (maxSteps:=5000000) only [h2,h3,h4,hg,hset,hc,h5,gLs,go_sem,simprocAttr]
   exact ih
theorem Vr (i k:Nat) (m:Ad) (hm:SmM m) (id c:Int) (hc:IntKind.wrap .i64 (id+1)=c) (q:Out→St→Option Ans) (Q:V→Hp→Nat→Prop):∀ (suf pre:List Ao) (kk:Nat),m.words.a3=pre++suf→suf.length<kk+1 →
  Fin (evC ctx (Lv ctx i) (Aa (Lv ctx i)) k CE ⟨Ae [0,1,4,5] [.ptr 7 0 0,iV id,iV 3,iV pre.length],hF m ((m.words.a0.map (Ap c)).map eW) ((m.words.a1.map (Ap c)).map eW) ((m.words.a2.map (Ap c)).map eW) ((pre.map (Ap c)).map eW++suf.map eW),8⟩ (Aq [0,1,4,5] fun o s=>BI (Bg 8 [0,1,4,5] (fun s q=>evC ctx (Lv ctx i) (Aa (Lv ctx i)) k CE s (Aq [0,1,4,5] q)) q kk) q o s)) Q=Fin (q (.exit 0) ⟨Ae [0,1,4] [.ptr 7 0 0,iV id,iV 3],hF m ((m.words.a0.map (Ap c)).map eW) ((m.words.a1.map (Ap c)).map eW) ((m.words.a2.map (Ap c)).map eW) ((m.words.a3.map (Ap c)).map eW),8⟩) Q
 | [],pre,kk,hxs,hk=>by
  have h1:decide ((pre.length:Int)<(pre.length:Int))=false:=by simp
  have h2:m.words.a3=pre:=by simp [hxs]
  rw [Aj (CE.eq_1)]
  simp only [List.map_nil,List.append_nil]
  rw [h2]
  simp +contextual -dsimp -implicitDefEqProofs (maxSteps:=5000000) only [h1,List.length_map,go_sem,simprocAttr]
  all_goals (try rfl)
 | a::suf,pre,kk,hxs,hk=>by
  obtain ⟨kk,rfl⟩:∃ m,kk=m+1:=⟨kk - 1,by simp at hk;omega⟩
  have hl:pre.length<((pre.map (Ap c)).map eW++(a::suf).map eW).length:=by simp
  have h2:((pre.length:Int)<((((pre.map (Ap c)).map eW++(a::suf).map eW).length:Nat):Int))=True:=by simp;omega
  have h3:(0≤(pre.length:Int))=True:=by simp
  have h4:=wrN pre.length (by have:=hm.w3;rw [hxs] at this;simp at this;omega)
  have hg:((pre.map (Ap c)).map eW++(a::suf).map eW)[pre.length]?=some (eW a):=by simp
  have hset:∀ x,((pre.map (Ap c)).map eW++(a::suf).map eW).set pre.length x=(pre.map (Ap c)).map eW++x::suf.map eW:=by intro x;simp [List.set_append]
  have ih:=Vr i k m hm id c hc q Q suf (pre++[a]) kk (by simp [hxs]) (by simpa using hk)
  simp only [Al,List.map_append,List.map_cons,List.map_nil,List.append_assoc,List.cons_append,List.nil_append] at ih
  by_cases hlk:a.lock=c
  ·have h5:decide (a.lock=c)=true:=by simpa using hlk
   simp only [Ap,hlk,if_true,eW] at ih
   simp only [eW,List.map_cons,Ap] at h2 hg hset ⊢
   rw [Aj (CE.eq_1)]
   simp +contextual -dsimp -implicitDefEqProofs (maxSteps:=5000000) only [h2,h3,h4,hg,hset,hc,h5,gLs,go_sem,simprocAttr]
   exact ih
  ·have h5:decide (a.lock=c)=false:=by simpa using hlk
   simp only [Ap,hlk,if_false,eW] at ih
   simp only [eW,List.map_cons,Ap] at h2 hg hset ⊢
   rw [Aj (CE.eq_1)]
   simp +contextual -dsimp -implicitDefEqProofs (maxSteps:=5000000) only [h2,h3,h4,hg,hset,hc,h5,gLs,go_sem,simprocAttr]
   exact ih
def TR:IR→IR
 | .seq _ (.seq _ r)=>r
 | x=>x
theorem Yi (a b r:IR):TR (.seq a (.seq b r))=r:=(rfl)
theorem Yu (C:Ctx) (O:Orc) (P:FuncId→List V→Option V) (k:Nat) (s:St) (q:Out→St→Option Ans) (Q:V→Hp→Nat→Prop):Fin (CZ C O P k JJ 0 s q) Q=Fin (evC C O P k (TR JJ) s q) Q:=(rfl)
theorem Sp (thr:Nat) (live:List Nat) (f:Nat→St→(Out→St→Option Ans)→Option Ans) (q:Out→St→Option Ans) (k:Nat) (s:St) (Q:V→Hp→Nat→Prop):Fin (Ef thr live (NH JJ) f q (k+1) 0 s) Q =
  GN thr live s (fun s=>f 0 s (Jp (fun l s=>Ef thr live (NH JJ) f q k l (EM live s)) q)) Q ⟨⟩:=(rfl)
theorem bZ (C:Ctx) (O:Orc) (P:FuncId→List V→Option V) (k:Nat) (live:List Nat) (b:IR) (s:St) (q:Out→St→Option Ans) (Q:V→Hp→Nat→Prop):Fin (evC C O P k (.scope live b) s q) Q =
  Fin (evC C O P k b s (Jp (fun l s'=>Ef s.n live (NH b) (fun l s q=>CZ C O P k b l s q) q k l (EM live s')) q)) Q:=(rfl)
abbrev hF0 (m:Ad):Hp:=hF m (m.words.a0.map eW) (m.words.a1.map eW) (m.words.a2.map eW) (m.words.a3.map eW)
abbrev hF4 (c:Int) (m:Ad):Hp:=hF m ((m.words.a0.map (Ap c)).map eW) ((m.words.a1.map (Ap c)).map eW) ((m.words.a2.map (Ap c)).map eW) ((m.words.a3.map (Ap c)).map eW)
theorem nT (i:Nat) (m:Ad) (hm:SmM m) (id c:Int) (hc:IntKind.wrap .i64 (id+1)=c):Lv ctx (i+1) 204 [.ptr 7 0 0,iV id] (hF0 m) 8=some (.tup [],hF4 c m,8):=by
 refine MP rfl (m.words.a0.length+m.words.a1.length+m.words.a2.length+m.words.a3.length+5) ?_
 have h0:=fun q Q=>Vu i (m.words.a0.length+m.words.a1.length+m.words.a2.length+m.words.a3.length+5) m hm id c hc q Q m.words.a0 [] (m.words.a0.length+m.words.a1.length+m.words.a2.length+m.words.a3.length+4) rfl (by omega)
 have h1:=fun q Q=>Vt i (m.words.a0.length+m.words.a1.length+m.words.a2.length+m.words.a3.length+5) m hm id c hc q Q m.words.a1 [] (m.words.a0.length+m.words.a1.length+m.words.a2.length+m.words.a3.length+4) rfl (by omega)
 have h2:=fun q Q=>Vs i (m.words.a0.length+m.words.a1.length+m.words.a2.length+m.words.a3.length+5) m hm id c hc q Q m.words.a2 [] (m.words.a0.length+m.words.a1.length+m.words.a2.length+m.words.a3.length+4) rfl (by omega)
 have h3:=fun q Q=>Vr i (m.words.a0.length+m.words.a1.length+m.words.a2.length+m.words.a3.length+5) m hm id c hc q Q m.words.a3 [] (m.words.a0.length+m.words.a1.length+m.words.a2.length+m.words.a3.length+4) rfl (by omega)
 simp only [List.map_nil,List.nil_append,List.length_nil,Nf] at h0 h1 h2 h3
 delta wV
 simp +contextual -dsimp -implicitDefEqProofs (maxSteps:=5000000) only [↓bZ,↓Sp,↓Yu,Yi,↓Aj (JJ.eq_1),↓Aj (congrArg TR JJ.eq_1),gLs,↓h0,↓h1,↓h2,↓h3,h0,h1,h2,h3,go_sem,simprocAttr]
end Ve
namespace Ve
open Go Ve.Ab
set_option maxHeartbeats 16000000
set_option maxRecDepth 10000
theorem cF (L:Lay) (t:TypeId):Bq L t (.lit (.slice none 0 0))=match L t with
 | some { k:=.sl el,.. }=>match L el with
  | some e=>.own e.size []
  | none=>.lit (.slice none 0 0)
 | _=>.lit (.slice none 0 0):=by
 simp only [Bq,V.isNil,if_true]
 rcases L t with _ | ⟨_,_,_,k,_,_,_⟩
 ·rfl
 ·cases k<;>rfl
attribute [go_sem] cF
abbrev hN (m:Ad) (a1 a2 a3 a4:List V) (els:List V):Hp :=
 pO (pO (pO (pO (pO (pO (pO (pO Af 0 (some ⟨11,[zM],false⟩)) 1 (some ⟨3,a1,false⟩)) 2 (some ⟨3,a2,false⟩)) 3 (some ⟨3,a3,false⟩)) 4 (some ⟨3,a4,false⟩)) 5 (some ⟨17,els,false⟩)) 6 (some ⟨4,m.trace.map eE,false⟩))
  7 (some ⟨11,[.agg [.sl 1,.sl 2,.sl 3,.sl 4,iV m.clocks.a0,iV m.clocks.a1,iV m.clocks.a2,iV m.clocks.a3,iV m.ceil,.sl 5,.sl 6]],true⟩)
abbrev hT (m:Ad) (a1 a2 a3 a4:List V) (els:List V) (e:Ba):Hp :=
 pO (pO (pO (pO (pO (pO (pO (pO (pO (pO Af 0 (some ⟨11,[zM],false⟩)) 1 (some ⟨3,a1,false⟩)) 2 (some ⟨3,a2,false⟩)) 3 (some ⟨3,a3,false⟩)) 4 (some ⟨3,a4,false⟩)) 5 (some ⟨17,els,false⟩)) 6 none)
  7 (some ⟨11,[.agg [.sl 1,.sl 2,.sl 3,.sl 4,iV m.clocks.a0,iV m.clocks.a1,iV m.clocks.a2,iV m.clocks.a3,iV m.ceil,.sl 5,.sl 9]],true⟩)) 8 none) 9 (some ⟨4,m.trace.map eE++[eE e],false⟩)
theorem Zk (i:Nat) (m:Ad) (hm:SmM m) (k:Nat) (s:Ag) (hs:m.sess[k]?=some s):Lv ctx (i+2) 175 [.ptr 7 0 0,iV k] (hF0 m) 8 =
  some (.ptr 5 k 0,hN m ((m.words.a0.map (Ap (IntKind.wrap .i64 (s.id+1)))).map eW) ((m.words.a1.map (Ap (IntKind.wrap .i64 (s.id+1)))).map eW) ((m.words.a2.map (Ap (IntKind.wrap .i64 (s.id+1)))).map eW) ((m.words.a3.map (Ap (IntKind.wrap .i64 (s.id+1)))).map eW) ((m.sess.map oS).set k (oS (Df s))),8):=by
 have hk:k<m.sess.length:=by
  rcases Nat.lt_or_ge k m.sess.length with h | h
  ·exact h
  ·rw [List.getElem?_eq_none h] at hs;cases hs
 have h1:(0≤(k:Int))=True:=by simp
 have h2:((k:Int)<(m.sess.length:Int))=True:=by simpa using hk
 have h3:(m.sess.map oS)[k]?=some (oS s):=by simp [hs]
 have h4:∀ x y,((m.sess.map oS).set k x).set k y=(m.sess.map oS).set k y:=fun x y=>List.set_set ..
 have h5:∀ x,((m.sess.map oS).set k x)[k]?=some x:=fun x=>List.getElem?_set_self (by simpa using hk)
 have hf:=nT i m hm s.id _ rfl
 simp only [oS] at h3
 refine MP rfl 0 ?_
 delta xT
 simp +contextual -dsimp -implicitDefEqProofs (maxSteps:=5000000) only [h1,h2,h3,h4,h5,hf,Df,List.map_nil,go_sem,simprocAttr]
 rfl
theorem Zg (i:Nat) (m:Ad) (a1 a2 a3 a4 l:List V) (k:Nat) (hk:k<l.length) (id lb:Int) (rest:List V) (kd vl:Int) (htr:m.trace.length<512) :
  Lv ctx (i+1) 128 [.ptr 7 0 0,iV k,iV kd,iV vl] (hN m a1 a2 a3 a4 (l.set k (.agg (iV id::iV lb::rest)))) 8=some (.tup [],hT m a1 a2 a3 a4 (l.set k (.agg (iV id::iV lb::rest))) ⟨id,lb,kd,vl⟩,10):=by
 have h1:(0≤(k:Int))=True:=by simp
 have h2:((k:Int)<(l.length:Int))=True:=by simpa using hk
 have h5:∀ x,(l.set k x)[k]?=some x:=fun x=>List.getElem?_set_self hk
 have h6:decide ((m.trace.length:Int)<512)=true:=by simp;omega
 have h7:(((m.trace.length+1:Nat):Int)*32≤140737488355328)=True:=by simp;omega
 refine MP rfl 0 ?_
 delta QN
 simp +contextual -dsimp -implicitDefEqProofs (maxSteps:=5000000) only [h1,h2,h5,h6,h7,List.length_set,List.replicate,go_sem,simprocAttr]
 rfl
theorem Pk (i:Nat) (m:Ad) (a1 a2 a3 a4 els:List V) (k:Int) (kd vl:Int) (htr:¬ m.trace.length<512) :
  Lv ctx (i+1) 128 [.ptr 7 0 0,iV k,iV kd,iV vl] (hN m a1 a2 a3 a4 els) 8=some (.tup [],hN m a1 a2 a3 a4 els,8):=by
 have h6:decide ((m.trace.length:Int)<512)=false:=by simp;omega
 refine MP rfl 0 ?_
 delta QN
 simp +contextual -dsimp -implicitDefEqProofs (maxSteps:=5000000) only [h6,go_sem,simprocAttr]
theorem IY {x:Option (V × Hp × Nat)} {v:V} {h:Hp} {n:Nat} {k:V→Hp→Nat→Option Ans} {Q:V→Hp→Nat→Prop} {u:Dum k} (hx:x=some (v,h,n)) (hk:Fin (k v h n) Q):GI x k Q u:=by rw [hx];exact hk
theorem LQ (i:Nat) (pf:Bool) (m:Ad) (hm:SmM m) (at_ kind:Int):Aa (Lv ctx (i+21)) 122 [eM pf m,iV at_,iV kind]=some (.tup [oM (Bw m at_ kind).1,iV (Bw m at_ kind).2]):=by
 have ht:=Hg (i+0) pf pf m at_ hm
 have hc:=Dp (i+17) pf m hm
 simp only [Nat.add_assoc,Nat.reduceAdd] at ht hc
 cases h1:(Bj m at_&&(decide (kind=3)||decide (kind=5)))
 ·have h2:∀ a b c:Bool,(!a||!b&&!c)=!(a&&(b||c)):=by decide
  have h3:=h2 (Bj m at_) (decide (kind=3)) (decide (kind=5))
  rw [h1] at h3
  refine Ac rfl 0 (by rfl) ?_
  delta lD
  simp +contextual -dsimp -implicitDefEqProofs (maxSteps:=5000000) only [ht,h3,go_sem,simprocAttr]
  simp only [Bw,h1]
  rfl
 ·have h2:∀ a b c:Bool,(!a||!b&&!c)=!(a&&(b||c)):=by decide
  have h3:=h2 (Bj m at_) (decide (kind=3)) (decide (kind=5))
  rw [h1] at h3
  have hh:Bj m at_=true:=by simp only [Bool.and_eq_true] at h1;exact h1.1
  obtain ⟨s,k,rfl,hs,hk⟩:=It hh
  have hd:=Zk (i+(20 - 2)) m hm k s hs
  have h5:∀ x,((m.sess.map oS).set k x)[k]?=some x:=fun x=>List.getElem?_set_self (by simpa using hk)
  have h4:∀ x y,((m.sess.map oS).set k x).set k y=(m.sess.map oS).set k y:=fun x y=>List.set_set ..
  have hm1:Bw m k kind=(AS (Az (Bm (IntKind.wrap .i64 (s.id+1)) m) k (Bv s)) ⟨s.id,s.label,kind,JF s.tries⟩,0):=by
   simp only [Bw,h1,if_true,Int.toNat_natCast,hs]
  rw [hm1]
  by_cases htr:m.trace.length<512
  ·have hn:=Zg (i+(20 - 1)) m ((m.words.a0.map (Ap (IntKind.wrap .i64 (s.id+1)))).map eW) ((m.words.a1.map (Ap (IntKind.wrap .i64 (s.id+1)))).map eW) ((m.words.a2.map (Ap (IntKind.wrap .i64 (s.id+1)))).map eW) ((m.words.a3.map (Ap (IntKind.wrap .i64 (s.id+1)))).map eW) (m.sess.map oS) k (by simpa using hk) s.id s.label
    [iV s.clear,oIs s.prog,iV 0,iV 0,iV 0,iV 0,iV 0,iV 0,oRs [],Fy [],iV 0,iV 0,iV (JF s.tries),iV s.result,iV s.told] kind (JF s.tries) htr
   simp only [Nat.add_assoc,Nat.reduceAdd,Nat.reduceSub] at hd hn
   refine Ac rfl 0 (by rfl) ?_
   delta lD
   simp +contextual -dsimp -implicitDefEqProofs (maxSteps:=5000000) only [ht,hc,h3,hd,h4,h5,hn,Df,JF,go_sem,simprocAttr]
   refine IY hn ?_
   simp +contextual -dsimp -implicitDefEqProofs (maxSteps:=5000000) only [h5,h4,go_sem,simprocAttr]
   simp only [oM,cO,oWs,oSs,oEs,AS,Az,Bm,htr,if_true,List.map_set,List.map_append,Bv,Df]
   rfl
  ·have hn:=Pk (i+(20 - 1)) m ((m.words.a0.map (Ap (IntKind.wrap .i64 (s.id+1)))).map eW) ((m.words.a1.map (Ap (IntKind.wrap .i64 (s.id+1)))).map eW) ((m.words.a2.map (Ap (IntKind.wrap .i64 (s.id+1)))).map eW) ((m.words.a3.map (Ap (IntKind.wrap .i64 (s.id+1)))).map eW)
    ((m.sess.map oS).set k (oS (Bv s))) k kind (JF s.tries) htr
   simp only [Nat.add_assoc,Nat.reduceAdd,Nat.reduceSub] at hd hn
   refine Ac rfl 0 (by rfl) ?_
   delta lD
   simp +contextual -dsimp -implicitDefEqProofs (maxSteps:=5000000) only [ht,hc,h3,hd,h4,h5,Df,go_sem,simprocAttr]
   refine IY hn ?_
   simp +contextual -dsimp -implicitDefEqProofs (maxSteps:=5000000) only [h5,h4,go_sem,simprocAttr]
   simp only [oM,cO,oWs,oSs,oEs,AS,Az,Bm,htr,if_false,List.map_set,Bv,Df]
   rfl
theorem Rt (i:Nat) (pf:Bool) (m:Ad) (hm:SmM m) (at_ result told:Int):Aa (Lv ctx (i+21)) 124 [eM pf m,iV at_,iV result,iV told]=some (.tup [oM (Cy m at_ result told).1,iV (Cy m at_ result told).2]):=by
 have ht:=Hg (i+0) pf pf m at_ hm
 have hc:=Dp (i+17) pf m hm
 simp only [Nat.add_assoc,Nat.reduceAdd] at ht hc
 have h2:∀ a b c d:Bool,(!a||!b||!c||!d)=!(a&&(b&&c)&&d):=by decide
 have h3:=h2 (Bj m at_) (decide (0≤result)) (decide (result≤5)) (inR told 255)
 have n1:decide (result<0)=!decide (0≤result):=by rw [← decide_not];apply decide_eq_decide.mpr;omega
 have n2:decide (5<result)=!decide (result≤5):=by rw [← decide_not];apply decide_eq_decide.mpr;omega
 cases h1:(Bj m at_&&(decide (0≤result)&&decide (result≤5))&&inR told 255)<;>rw [h1] at h3
 ·refine Ac rfl 0 (by rfl) ?_
  delta lB
  simp +contextual -dsimp -implicitDefEqProofs (maxSteps:=5000000) only [ht,h3,n1,n2,go_sem,simprocAttr]
  simp only [Cy,inR] at h1 ⊢
  simp only [h1]
  rfl
 ·have hh:Bj m at_=true:=by simp only [Bool.and_eq_true] at h1;exact h1.1.1
  obtain ⟨s,k,rfl,hs,hk⟩:=It hh
  have hd:=Zk (i+(20 - 2)) m hm k s hs
  have h5:∀ x,((m.sess.map oS).set k x)[k]?=some x:=fun x=>List.getElem?_set_self (by simpa using hk)
  have h4:∀ x y,((m.sess.map oS).set k x).set k y=(m.sess.map oS).set k y:=fun x y=>List.set_set ..
  have hm1:Cy m k result told=(AS (Az (Bm (IntKind.wrap .i64 (s.id+1)) m) k (Gn s result told)) ⟨s.id,s.label,6,result⟩,0):=by
   simp only [inR] at h1
   simp only [Cy,inR,h1,if_true,Int.toNat_natCast,hs]
  rw [hm1]
  by_cases htr:m.trace.length<512
  ·have hn:=Zg (i+(20 - 1)) m ((m.words.a0.map (Ap (IntKind.wrap .i64 (s.id+1)))).map eW) ((m.words.a1.map (Ap (IntKind.wrap .i64 (s.id+1)))).map eW) ((m.words.a2.map (Ap (IntKind.wrap .i64 (s.id+1)))).map eW) ((m.words.a3.map (Ap (IntKind.wrap .i64 (s.id+1)))).map eW) (m.sess.map oS) k (by simpa using hk) s.id s.label
    [iV s.clear,oIs s.prog,iV 6,iV s.pc,iV s.regs.a0,iV s.regs.a1,iV s.regs.a2,iV s.regs.a3,oRs [],Fy [],iV 0,iV 0,iV s.tries,iV result,iV told] 6 result htr
   simp only [Nat.add_assoc,Nat.reduceAdd,Nat.reduceSub] at hd hn
   refine Ac rfl 0 (by rfl) ?_
   delta lB
   simp +contextual -dsimp -implicitDefEqProofs (maxSteps:=5000000) only [ht,hc,h3,n1,n2,hd,h4,h5,Df,go_sem,simprocAttr]
   refine IY hn ?_
   simp +contextual -dsimp -implicitDefEqProofs (maxSteps:=5000000) only [h5,h4,go_sem,simprocAttr]
   simp only [oM,cO,oWs,oSs,oEs,AS,Az,Bm,htr,if_true,List.map_set,List.map_append,Gn,Df]
   rfl
  ·have hn:=Pk (i+(20 - 1)) m ((m.words.a0.map (Ap (IntKind.wrap .i64 (s.id+1)))).map eW) ((m.words.a1.map (Ap (IntKind.wrap .i64 (s.id+1)))).map eW) ((m.words.a2.map (Ap (IntKind.wrap .i64 (s.id+1)))).map eW) ((m.words.a3.map (Ap (IntKind.wrap .i64 (s.id+1)))).map eW)
    ((m.sess.map oS).set k (oS (Gn s result told))) k 6 result htr
   simp only [Nat.add_assoc,Nat.reduceAdd,Nat.reduceSub] at hd hn
   refine Ac rfl 0 (by rfl) ?_
   delta lB
   simp +contextual -dsimp -implicitDefEqProofs (maxSteps:=5000000) only [ht,hc,h3,n1,n2,hd,h4,h5,Df,go_sem,simprocAttr]
   refine IY hn ?_
   simp +contextual -dsimp -implicitDefEqProofs (maxSteps:=5000000) only [h5,h4,go_sem,simprocAttr]
   simp only [oM,cO,oWs,oSs,oEs,AS,Az,Bm,htr,if_false,List.map_set,Gn,Df]
   rfl
end Ve
namespace Ve
open Go Ve.Ab
set_option maxHeartbeats 16000000
set_option maxRecDepth 100000
@[go_sem] theorem r_there (i:Nat) (a b c d na nb nc nd:Bool) (w0 w1 w2 w3:List Ao) (l x:Int):Aa (Lv ctx (i+3)) 140 [.agg [.isl a na 3 (w0.map eW),.isl b nb 3 (w1.map eW),.isl c nc 3 (w2.map eW),.isl d nd 3 (w3.map eW)],iV l,iV x]=some (bV (AV ⟨w0,w1,w2,w3⟩ l x)):=by
 rcases Bc l with rfl | rfl | rfl | rfl | h<;>refine Ac rfl 0 (by rfl) ?_<;>delta yT
 case inr.inr.inr.inr=>simp +contextual -dsimp -implicitDefEqProofs (maxSteps:=5000000) only [AV,h,go_sem,simprocAttr]
 all_goals simp +contextual -dsimp -implicitDefEqProofs (maxSteps:=5000000) only [AV,A4.get,go_sem,simprocAttr]
@[go_sem] theorem r_regsMay (i:Nat) (a b c d:Int):Aa (Lv ctx (i+3)) 99 [.agg [iV a,iV b,iV c,iV d]]=some (bV (Ds 255 a b c d)):=by
 refine Ac rfl 5 (by rfl) ?_
 delta c99
 simp +contextual -dsimp -implicitDefEqProofs (maxSteps:=5000000) only [gLs,↓Aj (mJ.eq_1),Ds,go_sem,simprocAttr]
 cases inR a 255<;>cases inR b 255<;>cases inR c 255<;>cases inR d 255<;>simp_all
theorem Og (i k:Nat) (xs:List AH) (hx:xs.length≤BB) (pf nn:Bool) (pa b c d na nb nc nd:Bool) (w0 w1 w2 w3:List Ao) (q:Out→St→Option Ans) (Q:V→Hp→Nat→Prop) (u:Dum (fun s q=>evC ctx (Lv ctx (i+3)) (Aa (Lv ctx (i+3))) k La s (Aq [1,2,5] q))) (w:Dum q):∀ (suf pre:List AH) (kk:Nat),xs=pre++suf→suf.length<kk →
  GL 0 [1,2,5] (fun s q=>evC ctx (Lv ctx (i+3)) (Aa (Lv ctx (i+3))) k La s (Aq [1,2,5] q)) q kk ⟨Ae [1,2,5] [.isl pf nn 3 (xs.map eR),.ip (pa&&(b&&(c&&d))) [.isl pa na 3 (w0.map eW),.isl b nb 3 (w1.map eW),.isl c nc 3 (w2.map eW),.isl d nd 3 (w3.map eW)] 0,iV pre.length],Af,0⟩ Q u w=EI (suf.all fun a=>AV ⟨w0,w1,w2,w3⟩ a.level a.index) (Fin (q (.exit 0) ⟨Ae [] [],Af,0⟩) Q) (Fin (q .ret ⟨Ae [4] [bV false],Af,0⟩) Q)
 | [],pre,kk,hxs,hk=>by
  obtain ⟨kk,rfl⟩:∃ m,kk=m+1:=⟨kk - 1,by simp at hk;omega⟩
  have h1:decide ((pre.length:Int)<(xs).length)=false:=by simp [hxs]
  simp +contextual -dsimp -implicitDefEqProofs (maxSteps:=5000000) only [gLs,↓Aj (La.eq_1),h1,Bd,List.all_nil,go_sem,simprocAttr]
 | a::suf,pre,kk,hxs,hk=>by
  obtain ⟨kk,rfl⟩:∃ m,kk=m+1:=⟨kk - 1,by simp at hk;omega⟩
  have hl:pre.length<(xs).length:=by simp [hxs]
  have h2:((pre.length:Int)<(xs).length)=True:=by simpa using hl
  have h3:(0≤(pre.length:Int))=True:=by simp
  have h4:=wrN pre.length (by have:=hx;omega)
  have hg:(xs)[pre.length]?=some a:=by simp [hxs]
  have hmem:a∈xs:=by simp [hxs]
  have ih:=Og i k xs hx pf nn pa b c d na nb nc nd w0 w1 w2 w3 q Q u w suf (pre++[a]) kk (by simp [hxs]) (by simpa using hk)
  rw [Al] at ih
  simp only [List.all_cons]
  cases hb:(AV ⟨w0,w1,w2,w3⟩ a.level a.index)
  ·rw [Bool.false_and]
   repeat simp +contextual -dsimp -implicitDefEqProofs (maxSteps:=5000000) only [gLs,↓Aj (La.eq_1),h2,h3,h4,hg,hb,Ax,go_sem,simprocAttr]
  ·rw [Bool.true_and]
   repeat simp +contextual -dsimp -implicitDefEqProofs (maxSteps:=5000000) only [gLs,↓Aj (La.eq_1),h2,h3,h4,hg,hb,ih,go_sem,simprocAttr]
theorem Mr (i:Nat) (pf nn:Bool) (xs:List AH) (hx:xs.length≤BB) (a b c d na nb nc nd:Bool) (w0 w1 w2 w3:List Ao):Aa (Lv ctx (i+4)) 138 [.agg [.isl a na 3 (w0.map eW),.isl b nb 3 (w1.map eW),.isl c nc 3 (w2.map eW),.isl d nd 3 (w3.map eW)],.isl pf nn 3 (xs.map eR)]=some (bV (AB ⟨w0,w1,w2,w3⟩ xs)):=by
 refine Ac rfl (xs.length+1) (by rfl) ?_
 delta yV
 have h2:=fun q Q u w=>Og i (xs.length+1) xs hx pf nn a b c d na nb nc nd w0 w1 w2 w3 q Q u w xs [] (xs.length+1) rfl (by omega)
 simp only [List.length_nil,Int.natCast_zero] at h2
 simp +contextual -dsimp -implicitDefEqProofs (maxSteps:=5000000) only [AB,go_sem,simprocAttr]
 refine Eq.mpr (h2 _ _ _ _) ?_
 cases hb:(xs.all fun a=>AV ⟨w0,w1,w2,w3⟩ a.level a.index)<;>simp +contextual -dsimp -implicitDefEqProofs (maxSteps:=5000000) only [Bd,Ax,go_sem,simprocAttr]
theorem Of (i k:Nat) (ps:Bool) (s:Ag) (hs:SmS s) (pa b c d na nb nc nd:Bool) (w0 w1 w2 w3:List Ao) (q:Out→St→Option Ans) (Q:V→Hp→Nat→Prop) (u:Dum (fun s q=>evC ctx (Lv ctx (i+4)) (Aa (Lv ctx (i+4))) k Ng s (Aq [2,3,5] q))) (w:Dum q):∀ (suf pre:List AF) (kk:Nat),s.prog=pre++suf→suf.length<kk →
  GL 0 [2,3,5] (fun s q=>evC ctx (Lv ctx (i+4)) (Aa (Lv ctx (i+4))) k Ng s (Aq [2,3,5] q)) q kk ⟨Ae [2,3,5] [.ip (pa&&(b&&(c&&d))) [.isl pa na 3 (w0.map eW),.isl b nb 3 (w1.map eW),.isl c nc 3 (w2.map eW),.isl d nd 3 (w3.map eW)] 0,.ip ps [iV s.id,iV s.label,iV s.clear,eIs ps s.prog,iV s.step,iV s.pc,iV s.regs.a0,iV s.regs.a1,iV s.regs.a2,iV s.regs.a3,eRs ps s.reads,HK ps s.writes,iV s.at_,iV s.stamp,iV s.tries,iV s.result,iV s.told] 0,iV pre.length],Af,0⟩ Q u w=EI (suf.all fun a=>!(FV a.code)||AV ⟨w0,w1,w2,w3⟩ a.b a.c) (Fin (q (.exit 0) ⟨Ae [2,3] [.ip (pa&&(b&&(c&&d))) [.isl pa na 3 (w0.map eW),.isl b nb 3 (w1.map eW),.isl c nc 3 (w2.map eW),.isl d nd 3 (w3.map eW)] 0,.ip ps [iV s.id,iV s.label,iV s.clear,eIs ps s.prog,iV s.step,iV s.pc,iV s.regs.a0,iV s.regs.a1,iV s.regs.a2,iV s.regs.a3,eRs ps s.reads,HK ps s.writes,iV s.at_,iV s.stamp,iV s.tries,iV s.result,iV s.told] 0],Af,0⟩) Q) (Fin (q .ret ⟨Ae [4] [bV false],Af,0⟩) Q)
 | [],pre,kk,hxs,hk=>by
  obtain ⟨kk,rfl⟩:∃ m,kk=m+1:=⟨kk - 1,by simp at hk;omega⟩
  have h1:decide ((pre.length:Int)<(s.prog).length)=false:=by simp [hxs]
  simp +contextual -dsimp -implicitDefEqProofs (maxSteps:=5000000) only [gLs,↓Aj (Ng.eq_1),h1,Bd,List.all_nil,go_sem,simprocAttr]
 | a::suf,pre,kk,hxs,hk=>by
  obtain ⟨kk,rfl⟩:∃ m,kk=m+1:=⟨kk - 1,by simp at hk;omega⟩
  have hl:pre.length<(s.prog).length:=by simp [hxs]
  have h2:((pre.length:Int)<(s.prog).length)=True:=by simpa using hl
  have h3:(0≤(pre.length:Int))=True:=by simp
  have h4:=wrN pre.length (by have:=hs.p;omega)
  have hg:(s.prog)[pre.length]?=some a:=by simp [hxs]
  have hmem:a∈s.prog:=by simp [hxs]
  have hw:(decide (a.code=2)||decide (a.code=3))=FV a.code:=(rfl)
  have ih:=Of i k ps s hs pa b c d na nb nc nd w0 w1 w2 w3 q Q u w suf (pre++[a]) kk (by simp [hxs]) (by simpa using hk)
  rw [Al] at ih
  simp only [List.all_cons]
  cases hwi:FV a.code
  ·rw [show (!false||AV ⟨w0,w1,w2,w3⟩ a.b a.c)=true from rfl,Bool.true_and]
   simp +contextual -dsimp -implicitDefEqProofs (maxSteps:=5000000) only [gLs,↓Aj (Ng.eq_1),h2,h3,h4,hg,hw,hwi,ih,go_sem,simprocAttr]
  ·rw [show (!true||AV ⟨w0,w1,w2,w3⟩ a.b a.c)=AV ⟨w0,w1,w2,w3⟩ a.b a.c from rfl]
   cases hb:AV ⟨w0,w1,w2,w3⟩ a.b a.c
   ·rw [Bool.false_and]
    simp +contextual -dsimp -implicitDefEqProofs (maxSteps:=5000000) only [gLs,↓Aj (Ng.eq_1),h2,h3,h4,hg,hw,hwi,hb,Ax,go_sem,simprocAttr]
   ·rw [Bool.true_and]
    simp +contextual -dsimp -implicitDefEqProofs (maxSteps:=5000000) only [gLs,↓Aj (Ng.eq_1),h2,h3,h4,hg,hw,hwi,hb,ih,go_sem,simprocAttr]
theorem Oe (i k:Nat) (ps:Bool) (s:Ag) (hs:SmS s) (pa b c d na nb nc nd:Bool) (w0 w1 w2 w3:List Ao) (q:Out→St→Option Ans) (Q:V→Hp→Nat→Prop) (u:Dum (fun s q=>evC ctx (Lv ctx (i+4)) (Aa (Lv ctx (i+4))) k OM s (Aq [2,3,7] q))) (w:Dum q):∀ (suf pre:List Ai) (kk:Nat),s.writes=pre++suf→suf.length<kk →
  GL 0 [2,3,7] (fun s q=>evC ctx (Lv ctx (i+4)) (Aa (Lv ctx (i+4))) k OM s (Aq [2,3,7] q)) q kk ⟨Ae [2,3,7] [.ip (pa&&(b&&(c&&d))) [.isl pa na 3 (w0.map eW),.isl b nb 3 (w1.map eW),.isl c nc 3 (w2.map eW),.isl d nd 3 (w3.map eW)] 0,.ip ps [iV s.id,iV s.label,iV s.clear,eIs ps s.prog,iV s.step,iV s.pc,iV s.regs.a0,iV s.regs.a1,iV s.regs.a2,iV s.regs.a3,eRs ps s.reads,HK ps s.writes,iV s.at_,iV s.stamp,iV s.tries,iV s.result,iV s.told] 0,iV pre.length],Af,0⟩ Q u w=EI (suf.all fun a=>AV ⟨w0,w1,w2,w3⟩ a.level a.index) (Fin (q (.exit 2) ⟨Ae [2,3] [.ip (pa&&(b&&(c&&d))) [.isl pa na 3 (w0.map eW),.isl b nb 3 (w1.map eW),.isl c nc 3 (w2.map eW),.isl d nd 3 (w3.map eW)] 0,.ip ps [iV s.id,iV s.label,iV s.clear,eIs ps s.prog,iV s.step,iV s.pc,iV s.regs.a0,iV s.regs.a1,iV s.regs.a2,iV s.regs.a3,eRs ps s.reads,HK ps s.writes,iV s.at_,iV s.stamp,iV s.tries,iV s.result,iV s.told] 0],Af,0⟩) Q) (Fin (q .ret ⟨Ae [4] [bV false],Af,0⟩) Q)
 | [],pre,kk,hxs,hk=>by
  obtain ⟨kk,rfl⟩:∃ m,kk=m+1:=⟨kk - 1,by simp at hk;omega⟩
  have h1:decide ((pre.length:Int)<(s.writes).length)=false:=by simp [hxs]
  simp +contextual -dsimp -implicitDefEqProofs (maxSteps:=5000000) only [gLs,↓Aj (OM.eq_1),h1,Bd,List.all_nil,go_sem,simprocAttr]
 | a::suf,pre,kk,hxs,hk=>by
  obtain ⟨kk,rfl⟩:∃ m,kk=m+1:=⟨kk - 1,by simp at hk;omega⟩
  have hl:pre.length<(s.writes).length:=by simp [hxs]
  have h2:((pre.length:Int)<(s.writes).length)=True:=by simpa using hl
  have h3:(0≤(pre.length:Int))=True:=by simp
  have h4:=wrN pre.length (by have:=hs.w;omega)
  have hg:(s.writes)[pre.length]?=some a:=by simp [hxs]
  have hmem:a∈s.writes:=by simp [hxs]
  have ih:=Oe i k ps s hs pa b c d na nb nc nd w0 w1 w2 w3 q Q u w suf (pre++[a]) kk (by simp [hxs]) (by simpa using hk)
  rw [Al] at ih
  simp only [List.all_cons]
  cases hb:(AV ⟨w0,w1,w2,w3⟩ a.level a.index)
  ·rw [Bool.false_and]
   repeat simp +contextual -dsimp -implicitDefEqProofs (maxSteps:=5000000) only [gLs,↓Aj (OM.eq_1),h2,h3,h4,hg,hb,Ax,go_sem,simprocAttr]
  ·rw [Bool.true_and]
   repeat simp +contextual -dsimp -implicitDefEqProofs (maxSteps:=5000000) only [gLs,↓Aj (OM.eq_1),h2,h3,h4,hg,hb,ih,go_sem,simprocAttr]
theorem gJ (i:Nat) (ps:Bool) (s:Ag) (hs:SmS s) (a b c d na nb nc nd:Bool) (w0 w1 w2 w3:List Ao):Aa (Lv ctx (i+5)) 98 [.agg [.isl a na 3 (w0.map eW),.isl b nb 3 (w1.map eW),.isl c nc 3 (w2.map eW),.isl d nd 3 (w3.map eW)],eS ps s]=some (bV (CM ⟨w0,w1,w2,w3⟩ s.prog&&Ch ⟨w0,w1,w2,w3⟩ s.writes&&AB ⟨w0,w1,w2,w3⟩ s.reads)):=by
 have hr:=Mr (i+0) ps false s.reads hs.r a b c d na nb nc nd w0 w1 w2 w3
 simp only [Nat.add_assoc,Nat.reduceAdd] at hr
 simp only [eS]
 refine Ac rfl (s.prog.length+s.writes.length+1) (by rfl) ?_
 delta c98
 have h1:=fun q Q u w=>Of i (s.prog.length+s.writes.length+1) ps s hs a b c d na nb nc nd w0 w1 w2 w3 q Q u w s.prog [] (s.prog.length+s.writes.length+1) rfl (by omega)
 have h2:=fun q Q u w=>Oe i (s.prog.length+s.writes.length+1) ps s hs a b c d na nb nc nd w0 w1 w2 w3 q Q u w s.writes [] (s.prog.length+s.writes.length+1) rfl (by omega)
 simp only [List.length_nil,Int.natCast_zero] at h1 h2
 simp +contextual -dsimp -implicitDefEqProofs (maxSteps:=5000000) only [Bool.and_self,CM,Ch,go_sem,simprocAttr]
 refine Eq.mpr (h1 _ _ _ _) ?_
 cases hb:(s.prog.all fun a=>!(FV a.code)||AV ⟨w0,w1,w2,w3⟩ a.b a.c)
 ·simp +contextual -dsimp -implicitDefEqProofs (maxSteps:=5000000) only [Ax,go_sem,simprocAttr]
 ·simp +contextual -dsimp -implicitDefEqProofs (maxSteps:=5000000) only [Bd,go_sem,simprocAttr]
  refine Eq.mpr (h2 _ _ _ _) ?_
  cases hb':(s.writes.all fun a=>AV ⟨w0,w1,w2,w3⟩ a.level a.index)<;>simp +contextual -dsimp -implicitDefEqProofs (maxSteps:=5000000) only [Bd,Ax,hr,go_sem,simprocAttr]
end Ve
namespace Ve
open Go Ve.Ab
set_option maxHeartbeats 16000000
set_option maxRecDepth 10000
def Fg:Nat→List Ao→Bool
 | _,[]=>true
 | j,a::r=>decide (j<4)&&AL a&&Fg (j+1) r
theorem Rx:∀ (r:List Ao) (j:Nat),j≤4→Fg j r=(decide (j+r.length≤4)&&r.all AL)
 | [],j,h=>by simp [Fg,h]
 | a::r,j,h=>by
  simp only [Fg,List.all_cons,List.length_cons]
  by_cases hj:j<4
  ·rw [Rx r (j+1) (by omega)]
   have:decide (j+1+r.length≤4)=decide (j+(r.length+1)≤4):=by apply decide_eq_decide.mpr;omega
   simp only [hj,decide_true,Bool.true_and,this]
   cases AL a<;>simp
  ·have:decide (j+(r.length+1)≤4)=false:=by simp;omega
   simp [hj,this]
theorem Xz (ws:List Ao):Fg 0 ws=Cs ws:=by rw [Rx ws 0 (by omega),Cs];simp
theorem Om (i k:Nat) (pa b c d na nb nc nd:Bool) (w0 w1 w2 w3:List Ao) (hx:w0.length≤BB) (q:Out→St→Option Ans) (Q:V→Hp→Nat→Prop) (u:Dum (fun s q=>evC ctx (Lv ctx (i+3)) (Aa (Lv ctx (i+3))) k Dh s (Aq [1,3,4] q))) (w:Dum q):∀ (suf pre:List Ao) (kk:Nat),w0=pre++suf→suf.length<kk →
  GL 0 [1,3,4] (fun s q=>evC ctx (Lv ctx (i+3)) (Aa (Lv ctx (i+3))) k Dh s (Aq [1,3,4] q)) q kk ⟨Ae [1,3,4] [.ip (pa&&(b&&(c&&d))) [.isl pa na 3 (w0.map eW),.isl b nb 3 (w1.map eW),.isl c nc 3 (w2.map eW),.isl d nd 3 (w3.map eW)] 0,iV 0,iV pre.length],Af,0⟩ Q u w=EI (Fg pre.length suf) (Fin (q (.exit 2) ⟨Ae [1,3] [.ip (pa&&(b&&(c&&d))) [.isl pa na 3 (w0.map eW),.isl b nb 3 (w1.map eW),.isl c nc 3 (w2.map eW),.isl d nd 3 (w3.map eW)] 0,iV 0],Af,0⟩) Q) (Fin (q .ret ⟨Ae [2] [bV false],Af,0⟩) Q)
 | [],pre,kk,hxs,hk=>by
  obtain ⟨kk,rfl⟩:∃ m,kk=m+1:=⟨kk - 1,by simp at hk;omega⟩
  have h1:decide ((pre.length:Int)<w0.length)=false:=by simp [hxs]
  simp +contextual -dsimp -implicitDefEqProofs (maxSteps:=5000000) only [gLs,↓Aj (Dh.eq_1),h1,Bd,Fg,go_sem,simprocAttr]
 | a::suf,pre,kk,hxs,hk=>by
  obtain ⟨kk,rfl⟩:∃ m,kk=m+1:=⟨kk - 1,by simp at hk;omega⟩
  have hl:pre.length<w0.length:=by simp [hxs]
  have h2:((pre.length:Int)<w0.length)=True:=by simpa using hl
  have h3:(0≤(pre.length:Int))=True:=by simp
  have h4:=wrN pre.length (by omega)
  have hg:w0[pre.length]?=some a:=by simp [hxs]
  have ih:=Om i k pa b c d na nb nc nd w0 w1 w2 w3 hx q Q u w suf (pre++[a]) kk (by simp [hxs]) (by simpa using hk)
  rw [Al] at ih
  simp only [Fg]
  by_cases hj:pre.length<4
  ·have h5:decide ((4:Int)≤(pre.length:Int))=false:=by simp;omega
   have h6:decide (pre.length<4)=true:=by simpa using hj
   cases hb:AL a
   ·rw [h6,Bool.true_and,Bool.false_and]
    simp +contextual -dsimp -implicitDefEqProofs (maxSteps:=5000000) only [gLs,↓Aj (Dh.eq_1),h2,h3,h4,h5,hg,hb,Ax,go_sem,simprocAttr]
   ·rw [h6,Bool.true_and,Bool.true_and]
    simp +contextual -dsimp -implicitDefEqProofs (maxSteps:=5000000) only [gLs,↓Aj (Dh.eq_1),h2,h3,h4,h5,hg,hb,ih,go_sem,simprocAttr]
  ·have h5:decide ((4:Int)≤(pre.length:Int))=true:=by simp;omega
   have h6:decide (pre.length<4)=false:=by simpa using hj
   rw [h6,Bool.false_and,Bool.false_and]
   simp +contextual -dsimp -implicitDefEqProofs (maxSteps:=5000000) only [gLs,↓Aj (Dh.eq_1),h2,h3,h4,h5,hg,Ax,go_sem,simprocAttr]
theorem Ol (i k:Nat) (pa b c d na nb nc nd:Bool) (w0 w1 w2 w3:List Ao) (hx:w1.length≤BB) (q:Out→St→Option Ans) (Q:V→Hp→Nat→Prop) (u:Dum (fun s q=>evC ctx (Lv ctx (i+3)) (Aa (Lv ctx (i+3))) k Dh s (Aq [1,3,4] q))) (w:Dum q):∀ (suf pre:List Ao) (kk:Nat),w1=pre++suf→suf.length<kk →
  GL 0 [1,3,4] (fun s q=>evC ctx (Lv ctx (i+3)) (Aa (Lv ctx (i+3))) k Dh s (Aq [1,3,4] q)) q kk ⟨Ae [1,3,4] [.ip (pa&&(b&&(c&&d))) [.isl pa na 3 (w0.map eW),.isl b nb 3 (w1.map eW),.isl c nc 3 (w2.map eW),.isl d nd 3 (w3.map eW)] 0,iV 1,iV pre.length],Af,0⟩ Q u w=EI (Fg pre.length suf) (Fin (q (.exit 2) ⟨Ae [1,3] [.ip (pa&&(b&&(c&&d))) [.isl pa na 3 (w0.map eW),.isl b nb 3 (w1.map eW),.isl c nc 3 (w2.map eW),.isl d nd 3 (w3.map eW)] 0,iV 1],Af,0⟩) Q) (Fin (q .ret ⟨Ae [2] [bV false],Af,0⟩) Q)
 | [],pre,kk,hxs,hk=>by
  obtain ⟨kk,rfl⟩:∃ m,kk=m+1:=⟨kk - 1,by simp at hk;omega⟩
  have h1:decide ((pre.length:Int)<w1.length)=false:=by simp [hxs]
  simp +contextual -dsimp -implicitDefEqProofs (maxSteps:=5000000) only [gLs,↓Aj (Dh.eq_1),h1,Bd,Fg,go_sem,simprocAttr]
 | a::suf,pre,kk,hxs,hk=>by
  obtain ⟨kk,rfl⟩:∃ m,kk=m+1:=⟨kk - 1,by simp at hk;omega⟩
  have hl:pre.length<w1.length:=by simp [hxs]
  have h2:((pre.length:Int)<w1.length)=True:=by simpa using hl
  have h3:(0≤(pre.length:Int))=True:=by simp
  have h4:=wrN pre.length (by omega)
  have hg:w1[pre.length]?=some a:=by simp [hxs]
  have ih:=Ol i k pa b c d na nb nc nd w0 w1 w2 w3 hx q Q u w suf (pre++[a]) kk (by simp [hxs]) (by simpa using hk)
  rw [Al] at ih
  simp only [Fg]
  by_cases hj:pre.length<4
  ·have h5:decide ((4:Int)≤(pre.length:Int))=false:=by simp;omega
   have h6:decide (pre.length<4)=true:=by simpa using hj
   cases hb:AL a
   ·rw [h6,Bool.true_and,Bool.false_and]
    simp +contextual -dsimp -implicitDefEqProofs (maxSteps:=5000000) only [gLs,↓Aj (Dh.eq_1),h2,h3,h4,h5,hg,hb,Ax,go_sem,simprocAttr]
   ·rw [h6,Bool.true_and,Bool.true_and]
    simp +contextual -dsimp -implicitDefEqProofs (maxSteps:=5000000) only [gLs,↓Aj (Dh.eq_1),h2,h3,h4,h5,hg,hb,ih,go_sem,simprocAttr]
  ·have h5:decide ((4:Int)≤(pre.length:Int))=true:=by simp;omega
   have h6:decide (pre.length<4)=false:=by simpa using hj
   rw [h6,Bool.false_and,Bool.false_and]
   simp +contextual -dsimp -implicitDefEqProofs (maxSteps:=5000000) only [gLs,↓Aj (Dh.eq_1),h2,h3,h4,h5,hg,Ax,go_sem,simprocAttr]
theorem Ok (i k:Nat) (pa b c d na nb nc nd:Bool) (w0 w1 w2 w3:List Ao) (hx:w2.length≤BB) (q:Out→St→Option Ans) (Q:V→Hp→Nat→Prop) (u:Dum (fun s q=>evC ctx (Lv ctx (i+3)) (Aa (Lv ctx (i+3))) k Dh s (Aq [1,3,4] q))) (w:Dum q):∀ (suf pre:List Ao) (kk:Nat),w2=pre++suf→suf.length<kk →
  GL 0 [1,3,4] (fun s q=>evC ctx (Lv ctx (i+3)) (Aa (Lv ctx (i+3))) k Dh s (Aq [1,3,4] q)) q kk ⟨Ae [1,3,4] [.ip (pa&&(b&&(c&&d))) [.isl pa na 3 (w0.map eW),.isl b nb 3 (w1.map eW),.isl c nc 3 (w2.map eW),.isl d nd 3 (w3.map eW)] 0,iV 2,iV pre.length],Af,0⟩ Q u w=EI (Fg pre.length suf) (Fin (q (.exit 2) ⟨Ae [1,3] [.ip (pa&&(b&&(c&&d))) [.isl pa na 3 (w0.map eW),.isl b nb 3 (w1.map eW),.isl c nc 3 (w2.map eW),.isl d nd 3 (w3.map eW)] 0,iV 2],Af,0⟩) Q) (Fin (q .ret ⟨Ae [2] [bV false],Af,0⟩) Q)
 | [],pre,kk,hxs,hk=>by
  obtain ⟨kk,rfl⟩:∃ m,kk=m+1:=⟨kk - 1,by simp at hk;omega⟩
  have h1:decide ((pre.length:Int)<w2.length)=false:=by simp [hxs]
  simp +contextual -dsimp -implicitDefEqProofs (maxSteps:=5000000) only [gLs,↓Aj (Dh.eq_1),h1,Bd,Fg,go_sem,simprocAttr]
 | a::suf,pre,kk,hxs,hk=>by
  obtain ⟨kk,rfl⟩:∃ m,kk=m+1:=⟨kk - 1,by simp at hk;omega⟩
  have hl:pre.length<w2.length:=by simp [hxs]
  have h2:((pre.length:Int)<w2.length)=True:=by simpa using hl
  have h3:(0≤(pre.length:Int))=True:=by simp
  have h4:=wrN pre.length (by omega)
  have hg:w2[pre.length]?=some a:=by simp [hxs]
  have ih:=Ok i k pa b c d na nb nc nd w0 w1 w2 w3 hx q Q u w suf (pre++[a]) kk (by simp [hxs]) (by simpa using hk)
  rw [Al] at ih
  simp only [Fg]
  by_cases hj:pre.length<4
  ·have h5:decide ((4:Int)≤(pre.length:Int))=false:=by simp;omega
   have h6:decide (pre.length<4)=true:=by simpa using hj
   cases hb:AL a
   ·rw [h6,Bool.true_and,Bool.false_and]
    simp +contextual -dsimp -implicitDefEqProofs (maxSteps:=5000000) only [gLs,↓Aj (Dh.eq_1),h2,h3,h4,h5,hg,hb,Ax,go_sem,simprocAttr]
   ·rw [h6,Bool.true_and,Bool.true_and]
    simp +contextual -dsimp -implicitDefEqProofs (maxSteps:=5000000) only [gLs,↓Aj (Dh.eq_1),h2,h3,h4,h5,hg,hb,ih,go_sem,simprocAttr]
  ·have h5:decide ((4:Int)≤(pre.length:Int))=true:=by simp;omega
   have h6:decide (pre.length<4)=false:=by simpa using hj
   rw [h6,Bool.false_and,Bool.false_and]
   simp +contextual -dsimp -implicitDefEqProofs (maxSteps:=5000000) only [gLs,↓Aj (Dh.eq_1),h2,h3,h4,h5,hg,Ax,go_sem,simprocAttr]
theorem Oj (i k:Nat) (pa b c d na nb nc nd:Bool) (w0 w1 w2 w3:List Ao) (hx:w3.length≤BB) (q:Out→St→Option Ans) (Q:V→Hp→Nat→Prop) (u:Dum (fun s q=>evC ctx (Lv ctx (i+3)) (Aa (Lv ctx (i+3))) k Dh s (Aq [1,3,4] q))) (w:Dum q):∀ (suf pre:List Ao) (kk:Nat),w3=pre++suf→suf.length<kk →
  GL 0 [1,3,4] (fun s q=>evC ctx (Lv ctx (i+3)) (Aa (Lv ctx (i+3))) k Dh s (Aq [1,3,4] q)) q kk ⟨Ae [1,3,4] [.ip (pa&&(b&&(c&&d))) [.isl pa na 3 (w0.map eW),.isl b nb 3 (w1.map eW),.isl c nc 3 (w2.map eW),.isl d nd 3 (w3.map eW)] 0,iV 3,iV pre.length],Af,0⟩ Q u w=EI (Fg pre.length suf) (Fin (q (.exit 2) ⟨Ae [1,3] [.ip (pa&&(b&&(c&&d))) [.isl pa na 3 (w0.map eW),.isl b nb 3 (w1.map eW),.isl c nc 3 (w2.map eW),.isl d nd 3 (w3.map eW)] 0,iV 3],Af,0⟩) Q) (Fin (q .ret ⟨Ae [2] [bV false],Af,0⟩) Q)
 | [],pre,kk,hxs,hk=>by
  obtain ⟨kk,rfl⟩:∃ m,kk=m+1:=⟨kk - 1,by simp at hk;omega⟩
  have h1:decide ((pre.length:Int)<w3.length)=false:=by simp [hxs]
  simp +contextual -dsimp -implicitDefEqProofs (maxSteps:=5000000) only [gLs,↓Aj (Dh.eq_1),h1,Bd,Fg,go_sem,simprocAttr]
 | a::suf,pre,kk,hxs,hk=>by
  obtain ⟨kk,rfl⟩:∃ m,kk=m+1:=⟨kk - 1,by simp at hk;omega⟩
  have hl:pre.length<w3.length:=by simp [hxs]
  have h2:((pre.length:Int)<w3.length)=True:=by simpa using hl
  have h3:(0≤(pre.length:Int))=True:=by simp
  have h4:=wrN pre.length (by omega)
  have hg:w3[pre.length]?=some a:=by simp [hxs]
  have ih:=Oj i k pa b c d na nb nc nd w0 w1 w2 w3 hx q Q u w suf (pre++[a]) kk (by simp [hxs]) (by simpa using hk)
  rw [Al] at ih
  simp only [Fg]
  by_cases hj:pre.length<4
  ·have h5:decide ((4:Int)≤(pre.length:Int))=false:=by simp;omega
   have h6:decide (pre.length<4)=true:=by simpa using hj
   cases hb:AL a
   ·rw [h6,Bool.true_and,Bool.false_and]
    simp +contextual -dsimp -implicitDefEqProofs (maxSteps:=5000000) only [gLs,↓Aj (Dh.eq_1),h2,h3,h4,h5,hg,hb,Ax,go_sem,simprocAttr]
   ·rw [h6,Bool.true_and,Bool.true_and]
    simp +contextual -dsimp -implicitDefEqProofs (maxSteps:=5000000) only [gLs,↓Aj (Dh.eq_1),h2,h3,h4,h5,hg,hb,ih,go_sem,simprocAttr]
  ·have h5:decide ((4:Int)≤(pre.length:Int))=true:=by simp;omega
   have h6:decide (pre.length<4)=false:=by simpa using hj
   rw [h6,Bool.false_and,Bool.false_and]
   simp +contextual -dsimp -implicitDefEqProofs (maxSteps:=5000000) only [gLs,↓Aj (Dh.eq_1),h2,h3,h4,h5,hg,Ax,go_sem,simprocAttr]
theorem Pu (i:Nat) (a b c d na nb nc nd:Bool) (w0 w1 w2 w3:List Ao) (h0:w0.length≤BB) (h1:w1.length≤BB) (h2:w2.length≤BB) (h3:w3.length≤BB):Aa (Lv ctx (i+4)) 55 [.agg [.isl a na 3 (w0.map eW),.isl b nb 3 (w1.map eW),.isl c nc 3 (w2.map eW),.isl d nd 3 (w3.map eW)]]=some (bV (AR ⟨w0,w1,w2,w3⟩)):=by
 refine Ac rfl (w0.length+w1.length+w2.length+w3.length+5) (by rfl) ?_
 delta c55
 have l0:=fun q Q u w=>Om i (w0.length+w1.length+w2.length+w3.length+5) a b c d na nb nc nd w0 w1 w2 w3 h0 q Q u w w0 [] (w0.length+w1.length+w2.length+w3.length+5) rfl (by omega)
 have l1:=fun q Q u w=>Ol i (w0.length+w1.length+w2.length+w3.length+5) a b c d na nb nc nd w0 w1 w2 w3 h1 q Q u w w1 [] (w0.length+w1.length+w2.length+w3.length+5) rfl (by omega)
 have l2:=fun q Q u w=>Ok i (w0.length+w1.length+w2.length+w3.length+5) a b c d na nb nc nd w0 w1 w2 w3 h2 q Q u w w2 [] (w0.length+w1.length+w2.length+w3.length+5) rfl (by omega)
 have l3:=fun q Q u w=>Oj i (w0.length+w1.length+w2.length+w3.length+5) a b c d na nb nc nd w0 w1 w2 w3 h3 q Q u w w3 [] (w0.length+w1.length+w2.length+w3.length+5) rfl (by omega)
 simp only [List.length_nil,Int.natCast_zero,Xz] at l0 l1 l2 l3
 have ho:=fun q k s Q u w=>gLs 0 [1,3] (fun s q=>evC ctx (Lv ctx (i+3)) (Aa (Lv ctx (i+3))) (w0.length+w1.length+w2.length+w3.length+5) Ni s (Aq [1,3] q)) q k s Q u w
 simp +contextual -dsimp -implicitDefEqProofs (maxSteps:=5000000) only [ho,↓Aj (Ni.eq_1),AR,A4.all,go_sem,simprocAttr]
 refine Eq.mpr (l0 _ _ _ _) ?_
 cases r0:Cs w0
 ·simp +contextual -dsimp -implicitDefEqProofs (maxSteps:=5000000) only [Ax,go_sem,simprocAttr]
 ·simp +contextual -dsimp -implicitDefEqProofs (maxSteps:=5000000) only [Bd,ho,↓Aj (Ni.eq_1),go_sem,simprocAttr]
  refine Eq.mpr (l1 _ _ _ _) ?_
  cases r1:Cs w1
  ·simp +contextual -dsimp -implicitDefEqProofs (maxSteps:=5000000) only [Ax,go_sem,simprocAttr]
  ·simp +contextual -dsimp -implicitDefEqProofs (maxSteps:=5000000) only [Bd,ho,↓Aj (Ni.eq_1),go_sem,simprocAttr]
   refine Eq.mpr (l2 _ _ _ _) ?_
   cases r2:Cs w2
   ·simp +contextual -dsimp -implicitDefEqProofs (maxSteps:=5000000) only [Ax,go_sem,simprocAttr]
   ·simp +contextual -dsimp -implicitDefEqProofs (maxSteps:=5000000) only [Bd,ho,↓Aj (Ni.eq_1),go_sem,simprocAttr]
    refine Eq.mpr (l3 _ _ _ _) ?_
    cases r3:Cs w3
    ·simp +contextual -dsimp -implicitDefEqProofs (maxSteps:=5000000) only [Ax,go_sem,simprocAttr]
    ·simp +contextual -dsimp -implicitDefEqProofs (maxSteps:=5000000) only [Bd,ho,↓Aj (Ni.eq_1),go_sem,simprocAttr]
theorem Oi (i k:Nat) (pf nn:Bool) (xs:List AH) (hx:xs.length≤BB) (pp:List AH) (n:AH) (tl:List AH) (hxs0:xs=pp++n::tl) (q:Out→St→Option Ans) (Q:V→Hp→Nat→Prop) (u:Dum (fun s q=>evC ctx (Lv ctx (i+3)) (Aa (Lv ctx (i+3))) k JK s (Aq [0,3,4] q))) (w:Dum q):∀ (suf pre:List AH) (kk:Nat),pp=pre++suf→suf.length<kk →
  GL 0 [0,3,4] (fun s q=>evC ctx (Lv ctx (i+3)) (Aa (Lv ctx (i+3))) k JK s (Aq [0,3,4] q)) q kk ⟨Ae [0,3,4] [.isl pf nn 3 (xs.map eR),iV pp.length,iV pre.length],Af,0⟩ Q u w=EI (!(suf.any (BY n))) (Fin (q (.exit 2) ⟨Ae [0,3] [.isl pf nn 3 (xs.map eR),iV pp.length],Af,0⟩) Q) (Fin (q .ret ⟨Ae [2] [bV false],Af,0⟩) Q)
 | [],pre,kk,hxs,hk=>by
  obtain ⟨kk,rfl⟩:∃ m,kk=m+1:=⟨kk - 1,by simp at hk;omega⟩
  have h1:decide ((pre.length:Int)<pp.length)=false:=by simp [hxs]
  simp +contextual -dsimp -implicitDefEqProofs (maxSteps:=5000000) only [gLs,↓Aj (JK.eq_1),h1,Bd,List.any_nil,go_sem,simprocAttr]
 | a::suf,pre,kk,hxs,hk=>by
  obtain ⟨kk,rfl⟩:∃ m,kk=m+1:=⟨kk - 1,by simp at hk;omega⟩
  have hl:pre.length<pp.length:=by simp [hxs]
  have hl':pp.length<xs.length:=by simp [hxs0]
  have h2:((pre.length:Int)<pp.length)=True:=by simpa using hl
  have h2':((pre.length:Int)<xs.length)=True:=by simp;omega
  have h2n:((pp.length:Int)<xs.length)=True:=by simpa using hl'
  have h3:(0≤(pre.length:Int))=True:=by simp
  have h3':(0≤(pp.length:Int))=True:=by simp
  have h4:=wrN pre.length (by omega)
  have hg:xs[pre.length]?=some a:=by simp [hxs0,hxs]
  have hg':xs[pp.length]?=some n:=by simp [hxs0]
  have ih:=Oi i k pf nn xs hx pp n tl hxs0 q Q u w suf (pre++[a]) kk (by simp [hxs]) (by simpa using hk)
  rw [Al] at ih
  simp only [List.any_cons,BY]
  cases c1:decide (a.level=n.level)
  ·simp +contextual -dsimp -implicitDefEqProofs (maxSteps:=5000000) only [gLs,↓Aj (JK.eq_1),h2,h2',h2n,h3,h3',h4,hg,hg',c1,ih,go_sem,simprocAttr]
  ·cases c2:decide (a.index=n.index)
   ·simp +contextual -dsimp -implicitDefEqProofs (maxSteps:=5000000) only [gLs,↓Aj (JK.eq_1),h2,h2',h2n,h3,h3',h4,hg,hg',c1,c2,ih,go_sem,simprocAttr]
   ·simp +contextual -dsimp -implicitDefEqProofs (maxSteps:=5000000) only [gLs,↓Aj (JK.eq_1),h2,h2',h2n,h3,h3',h4,hg,hg',c1,c2,Ax,go_sem,simprocAttr]
theorem Oh (i k:Nat) (pf nn:Bool) (xs:List AH) (hx:xs.length≤BB) (hkk:xs.length<k) (q:Out→St→Option Ans) (Q:V→Hp→Nat→Prop) (u:Dum (fun s q=>evC ctx (Lv ctx (i+3)) (Aa (Lv ctx (i+3))) k IF s (Aq [0,3] q))) (w:Dum q):∀ (suf pre:List AH) (kk:Nat),xs=pre++suf→suf.length<kk →
  GL 0 [0,3] (fun s q=>evC ctx (Lv ctx (i+3)) (Aa (Lv ctx (i+3))) k IF s (Aq [0,3] q)) q kk ⟨Ae [0,3] [.isl pf nn 3 (xs.map eR),iV pre.length],Af,0⟩ Q u w=EI (BM pre suf) (Fin (q (.exit 0) ⟨Ae [0] [.isl pf nn 3 (xs.map eR)],Af,0⟩) Q) (Fin (q .ret ⟨Ae [2] [bV false],Af,0⟩) Q)
 | [],pre,kk,hxs,hk=>by
  obtain ⟨kk,rfl⟩:∃ m,kk=m+1:=⟨kk - 1,by simp at hk;omega⟩
  have h1:decide ((pre.length:Int)<xs.length)=false:=by simp [hxs]
  simp +contextual -dsimp -implicitDefEqProofs (maxSteps:=5000000) only [gLs,↓Aj (IF.eq_1),h1,Bd,BM,go_sem,simprocAttr]
 | a::suf,pre,kk,hxs,hk=>by
  obtain ⟨kk,rfl⟩:∃ m,kk=m+1:=⟨kk - 1,by simp at hk;omega⟩
  have hl:pre.length<xs.length:=by simp [hxs]
  have h2:((pre.length:Int)<xs.length)=True:=by simpa using hl
  have h3:(0≤(pre.length:Int))=True:=by simp
  have h4:=wrN pre.length (by omega)
  have hg:xs[pre.length]?=some a:=by simp [hxs]
  have ih:=Oh i k pf nn xs hx hkk q Q u w suf (pre++[a]) kk (by simp [hxs]) (by simpa using hk)
  rw [Al] at ih
  have h1:=fun q Q u w=>Oi i k pf nn xs hx pre a suf hxs q Q u w pre [] k rfl (by omega)
  simp only [List.length_nil,Int.natCast_zero] at h1
  cases c1:inR a.level 3
  ·simp +contextual -dsimp -implicitDefEqProofs (maxSteps:=5000000) only [gLs,↓Aj (IF.eq_1),h2,h3,h4,hg,Ax,BM,Cn,c1,go_sem,simprocAttr]
  ·cases c2:inR a.index 3
   ·simp +contextual -dsimp -implicitDefEqProofs (maxSteps:=5000000) only [gLs,↓Aj (IF.eq_1),h2,h3,h4,hg,Ax,BM,Cn,c1,c2,go_sem,simprocAttr]
   ·cases c3:inR a.ver 65535
    ·simp +contextual -dsimp -implicitDefEqProofs (maxSteps:=5000000) only [gLs,↓Aj (IF.eq_1),h2,h3,h4,hg,Ax,BM,Cn,c1,c2,c3,go_sem,simprocAttr]
    ·have hr:BM pre (a::suf)=(!(pre.any (BY a))&&BM (pre++[a]) suf):=by simp only [BM,Cn,c1,c2,c3,Bool.true_and,Bool.and_self]
     rw [hr]
     cases c4:pre.any (BY a)<;>rw [c4] at h1<;>simp +contextual -dsimp -implicitDefEqProofs (maxSteps:=5000000) only [gLs,↓Aj (IF.eq_1),h2,h3,h4,hg,c1,c2,c3,h1,Bd,Ax,ih,go_sem,simprocAttr]
theorem JX (i:Nat) (pf nn:Bool) (xs:List AH) (hx:xs.length≤BB):Aa (Lv ctx (i+4)) 100 [.isl pf nn 3 (xs.map eR)]=some (bV (AJ xs)):=by
 refine Ac rfl (xs.length+1) (by rfl) ?_
 delta zR
 have h2:=fun q Q u w=>Oh i (xs.length+1) pf nn xs hx (by omega) q Q u w xs [] (xs.length+1) rfl (by omega)
 simp only [List.length_nil,Int.natCast_zero] at h2
 have h5:decide ((xs.length:Int)≤16)=decide (xs.length≤16):=by apply decide_eq_decide.mpr;omega
 simp +contextual -dsimp -implicitDefEqProofs (maxSteps:=5000000) only [AJ,h5,go_sem,simprocAttr]
 refine Eq.mpr (h2 _ _ _ _) ?_
 cases hb:BM [] xs<;>simp +contextual -dsimp -implicitDefEqProofs (maxSteps:=5000000) only [Bd,Ax,h5,go_sem,simprocAttr]
end Ve
namespace Ve
open Go Ve.Ab
set_option maxHeartbeats 16000000
set_option maxRecDepth 10000
theorem In (a:Ai) (ha:Ay a=true):IntKind.wrap .i64 (IntKind.wrap .i64 (4*a.level)+a.index)=4*a.level+a.index:=by
 simp only [Ay,inR,Bool.and_eq_true,decide_eq_true_eq] at ha
 have e1:=Gq (a:=4*a.level) (by omega) (by omega)
 have e2:=Gq (a:=4*a.level+a.index) (by omega) (by omega)
 simp only [wr] at e1 e2
 rw [e1,e2]
@[go_sem] theorem r_place (i:Nat) (l x:Int):Aa (Lv ctx (i+1)) 142 [iV l,iV x]=some (iV (IntKind.wrap .i64 (IntKind.wrap .i64 (4*l)+x))):=by
 refine Ac rfl 0 (by rfl) ?_
 delta yR
 simp +contextual -dsimp -implicitDefEqProofs (maxSteps:=5000000) only [go_sem,simprocAttr]
theorem Od (i k:Nat) (pf nn:Bool) (xs:List Ai) (hx:xs.length≤BB) (q:Out→St→Option Ans) (Q:V→Hp→Nat→Prop) (u:Dum (fun s q=>evC ctx (Lv ctx (i+3)) (Aa (Lv ctx (i+3))) k FG s (Aq [0,3] q))) (w:Dum q):∀ (suf pre:List Ai) (kk:Nat),xs=pre++suf→suf.length<kk→(∀ v,pre.getLast?=some v→Ay v=true) →
  GL 0 [0,3] (fun s q=>evC ctx (Lv ctx (i+3)) (Aa (Lv ctx (i+3))) k FG s (Aq [0,3] q)) q kk ⟨Ae [0,3] [.isl pf nn 3 (xs.map eWr),iV pre.length],Af,0⟩ Q u w =
  EI (AT pre.getLast? suf) (Fin (q (.exit 0) ⟨Ae [0] [.isl pf nn 3 (xs.map eWr)],Af,0⟩) Q) (Fin (q .ret ⟨Ae [2] [bV false],Af,0⟩) Q)
 | [],pre,kk,hxs,hk,hv=>by
  obtain ⟨kk,rfl⟩:∃ m,kk=m+1:=⟨kk - 1,by simp at hk;omega⟩
  have h1:decide ((pre.length:Int)<xs.length)=false:=by simp [hxs]
  have h2:∀ o,AT o []=true:=fun o=>by cases o<;>rfl
  simp +contextual -dsimp -implicitDefEqProofs (maxSteps:=5000000) only [gLs,↓Aj (FG.eq_1),h1,Bd,h2,go_sem,simprocAttr]
 | a::suf,pre,kk,hxs,hk,hv=>by
  obtain ⟨kk,rfl⟩:∃ m,kk=m+1:=⟨kk - 1,by simp at hk;omega⟩
  have hl:pre.length<xs.length:=by simp [hxs]
  have h2:((pre.length:Int)<xs.length)=True:=by simpa using hl
  have h3:(0≤(pre.length:Int))=True:=by simp
  have h4:=wrN pre.length (by omega)
  have hg:xs[pre.length]?=some a:=by simp [hxs]
  have ih:=fun hv=>Od i k pf nn xs hx q Q u w suf (pre++[a]) kk (by simp [hxs]) (by simpa using hk) hv
  rw [Al] at ih
  simp only [List.getLast?_append,List.getLast?_singleton,Option.some_or,Option.some.injEq,forall_eq'] at ih
  rcases List.eq_nil_or_concat pre with rfl | ⟨L,v,rfl⟩
  ·simp only [List.length_nil,Nf] at *
   cases c1:inR a.level 3
   ·simp +contextual -dsimp -implicitDefEqProofs (maxSteps:=5000000) only [gLs,↓Aj (FG.eq_1),h2,h3,h4,hg,Ax,AT,Ay,c1,List.getLast?_nil,go_sem,simprocAttr]
   ·cases c2:inR a.index 3
    ·simp +contextual -dsimp -implicitDefEqProofs (maxSteps:=5000000) only [gLs,↓Aj (FG.eq_1),h2,h3,h4,hg,Ax,AT,Ay,c1,c2,List.getLast?_nil,go_sem,simprocAttr]
    ·cases c3:inR a.val 255
     ·simp +contextual -dsimp -implicitDefEqProofs (maxSteps:=5000000) only [gLs,↓Aj (FG.eq_1),h2,h3,h4,hg,Ax,AT,Ay,c1,c2,c3,List.getLast?_nil,go_sem,simprocAttr]
     ·have ih':=ih (by simp only [Ay,c1,c2,c3,Bool.and_self])
      simp only [Nat.zero_add,SG] at ih'
      simp +contextual -dsimp -implicitDefEqProofs (maxSteps:=5000000) only [gLs,↓Aj (FG.eq_1),h2,h3,h4,hg,AT,Ay,c1,c2,c3,ih',List.getLast?_nil,go_sem,simprocAttr]
  ·have hv1:Ay v=true:=hv v (by simp)
   have hlen:(L.concat v).length=L.length+1:=by simp
   have hlast:(L.concat v).getLast?=some v:=by simp
   rw [hlen] at h2 h3 h4 hg ih
   rw [hlen,hlast]
   have h6:IntKind.wrap .i64 (((L.length+1:Nat):Int) - 1)=(L.length:Int):=by
    have:=Gq (a:=(L.length:Int)) (by omega) (by simp [hlen] at hl;simp only [BB] at hx;omega)
    simp only [wr] at this
    rw [show (((L.length+1:Nat):Int) - 1)=(L.length:Int) by omega,this]
   have h7:((L.length:Int)<xs.length)=True:=by simp only [eq_iff_iff,iff_true];rw [hlen] at hl;omega
   have h8:(0≤(L.length:Int))=True:=by simp
   have h9:decide (0<((L.length+1:Nat):Int))=true:=by simp only [decide_eq_true_eq];omega
   have hg':xs[L.length]?=some v:=by simp [hxs]
   cases c1:inR a.level 3
   ·simp +contextual -dsimp -implicitDefEqProofs (maxSteps:=5000000) only [gLs,↓Aj (FG.eq_1),h2,h3,h4,hg,Ax,AT,Ay,c1,go_sem,simprocAttr]
   ·cases c2:inR a.index 3
    ·simp +contextual -dsimp -implicitDefEqProofs (maxSteps:=5000000) only [gLs,↓Aj (FG.eq_1),h2,h3,h4,hg,Ax,AT,Ay,c1,c2,go_sem,simprocAttr]
    ·cases c3:inR a.val 255
     ·simp +contextual -dsimp -implicitDefEqProofs (maxSteps:=5000000) only [gLs,↓Aj (FG.eq_1),h2,h3,h4,hg,Ax,AT,Ay,c1,c2,c3,go_sem,simprocAttr]
     ·have ha1:Ay a=true:=by simp only [Ay,c1,c2,c3,Bool.and_self]
      have ih':=ih ha1
      have hr:decide (4*a.level+a.index≤4*v.level+v.index)=!decide (AA v.level v.index<AA a.level a.index):=by rw [← decide_not];apply decide_eq_decide.mpr;simp only [AA];omega
      have hpl:=In a ha1
      have hpl':=In v hv1
      cases c4:decide (AA v.level v.index<AA a.level a.index)<;>rw [c4] at hr <;>
       simp +contextual -dsimp -implicitDefEqProofs (maxSteps:=5000000) only [gLs,↓Aj (FG.eq_1),h2,h3,h4,h6,h7,h8,h9,hg,hg',hr,hpl,hpl',AT,ha1,c1,c2,c3,c4,ih',Ax,go_sem,simprocAttr]
theorem Il (i:Nat) (pf nn:Bool) (xs:List Ai) (hx:xs.length≤BB):Aa (Lv ctx (i+4)) 101 [.isl pf nn 3 (xs.map eWr)]=some (bV (AP xs)):=by
 refine Ac rfl (xs.length+1) (by rfl) ?_
 delta zQ
 have h2:=fun q Q u w=>Od i (xs.length+1) pf nn xs hx q Q u w xs [] (xs.length+1) rfl (by omega) (by simp)
 simp only [List.length_nil,Int.natCast_zero,List.getLast?_nil] at h2
 have h5:decide ((xs.length:Int)≤16)=decide (xs.length≤16):=by apply decide_eq_decide.mpr;omega
 simp +contextual -dsimp -implicitDefEqProofs (maxSteps:=5000000) only [AP,h5,go_sem,simprocAttr]
 refine Eq.mpr (h2 _ _ _ _) ?_
 cases hb:AT none xs<;>simp +contextual -dsimp -implicitDefEqProofs (maxSteps:=5000000) only [Bd,Ax,h5,go_sem,simprocAttr]
theorem Vf (i k:Nat) (pf nn:Bool) (xs:List AF) (hx:xs.length≤BB) (q:Out→St→Option Ans) (Q:V→Hp→Nat→Prop) (u:Dum (fun s q=>evC ctx (Lv ctx (i+3)) (Aa (Lv ctx (i+3))) k HQ s (Aq [0,3] q))) (w:Dum q):∀ (suf pre:List AF) (kk:Nat),xs=pre++suf→suf.length<kk →
  GL 0 [0,3] (fun s q=>evC ctx (Lv ctx (i+3)) (Aa (Lv ctx (i+3))) k HQ s (Aq [0,3] q)) q kk ⟨Ae [0,3] [.isl pf nn 4 (xs.map eI),iV pre.length],Af,0⟩ Q u w =
  EI (BZ xs.length pre.length suf) (Fin (q (.exit 0) ⟨Ae [0] [.isl pf nn 4 (xs.map eI)],Af,0⟩) Q) (Fin (q .ret ⟨Ae [2] [bV false],Af,0⟩) Q)
 | [],pre,kk,hxs,hk=>by
  obtain ⟨kk,rfl⟩:∃ m,kk=m+1:=⟨kk - 1,by simp at hk;omega⟩
  have h1:decide ((pre.length:Int)<xs.length)=false:=by simp [hxs]
  simp +contextual -dsimp -implicitDefEqProofs (maxSteps:=5000000) only [gLs,↓Aj (HQ.eq_1),h1,Bd,BZ,go_sem,simprocAttr]
 | a::suf,pre,kk,hxs,hk=>by
  obtain ⟨kk,rfl⟩:∃ m,kk=m+1:=⟨kk - 1,by simp at hk;omega⟩
  have hl:pre.length<xs.length:=by simp [hxs]
  have h2:((pre.length:Int)<xs.length)=True:=by simpa using hl
  have h3:(0≤(pre.length:Int))=True:=by simp
  have h4:=wrN pre.length (by omega)
  have hg:xs[pre.length]?=some a:=by simp [hxs]
  have ih:=Vf i k pf nn xs hx q Q u w suf (pre++[a]) kk (by simp [hxs]) (by simpa using hk)
  rw [Al] at ih
  have h5:((pre.length+1:Nat):Int)=(pre.length:Int)+1:=by simp
  have c5:decide ((xs.length:Int)<a.b)=decide ((xs.length:Int)<a.b):=rfl
  cases c1:BN a
  ·simp +contextual -dsimp -implicitDefEqProofs (maxSteps:=5000000) only [gLs,↓Aj (HQ.eq_1),h2,h3,h4,hg,Ax,BZ,c1,go_sem,simprocAttr]
  ·cases c2:decide (a.code=4)
   ·have hr:BZ xs.length pre.length (a::suf)=BZ xs.length ((pre.length+1:Nat):Int) suf:=by simp only [BZ,c1,c2,h5,Bool.true_and,Bool.false_and,Bool.not_false]
    rw [hr]
    simp +contextual -dsimp -implicitDefEqProofs (maxSteps:=5000000) only [gLs,↓Aj (HQ.eq_1),h2,h3,h4,hg,c1,c2,ih,go_sem,simprocAttr]
   ·cases c3:decide (a.b≤(pre.length:Int))
    ·cases c4:decide ((xs.length:Int)<a.b)
     ·have hr:BZ xs.length pre.length (a::suf)=BZ xs.length ((pre.length+1:Nat):Int) suf:=by simp only [BZ,c1,c2,c3,c4,h5,Bool.true_and,Bool.false_or,Bool.not_false]
      rw [hr]
      simp +contextual -dsimp -implicitDefEqProofs (maxSteps:=5000000) only [gLs,↓Aj (HQ.eq_1),h2,h3,h4,hg,c1,c2,c3,c4,ih,go_sem,simprocAttr]
     ·have hr:BZ xs.length pre.length (a::suf)=false:=by simp only [BZ,c1,c2,c3,c4,h5,Bool.true_and,Bool.false_or,Bool.not_true,Bool.false_and]
      rw [hr]
      simp +contextual -dsimp -implicitDefEqProofs (maxSteps:=5000000) only [gLs,↓Aj (HQ.eq_1),h2,h3,h4,hg,c1,c2,c3,c4,Ax,go_sem,simprocAttr]
    ·have hr:BZ xs.length pre.length (a::suf)=false:=by simp only [BZ,c1,c2,c3,Bool.true_and,Bool.true_or,Bool.not_true,Bool.false_and]
     rw [hr]
     simp +contextual -dsimp -implicitDefEqProofs (maxSteps:=5000000) only [gLs,↓Aj (HQ.eq_1),h2,h3,h4,hg,c1,c2,c3,Ax,go_sem,simprocAttr]
theorem oL (i:Nat) (pf nn:Bool) (xs:List AF) (hx:xs.length≤BB):Aa (Lv ctx (i+4)) 139 [.isl pf nn 4 (xs.map eI)]=some (bV (Gz xs)):=by
 refine Ac rfl (xs.length+1) (by rfl) ?_
 delta yU
 have h2:=fun q Q u w=>Vf i (xs.length+1) pf nn xs hx q Q u w xs [] (xs.length+1) rfl (by omega)
 simp only [List.length_nil,Int.natCast_zero] at h2
 have h5:decide ((xs.length:Int)≤16)=decide (xs.length≤16):=by apply decide_eq_decide.mpr;omega
 simp +contextual -dsimp -implicitDefEqProofs (maxSteps:=5000000) only [Gz,h5,go_sem,simprocAttr]
 refine Eq.mpr (h2 _ _ _ _) ?_
 cases hb:BZ xs.length 0 xs<;>simp +contextual -dsimp -implicitDefEqProofs (maxSteps:=5000000) only [Bd,Ax,h5,go_sem,simprocAttr]
theorem gO (i:Nat) (pf nn:Bool) (a b c:Int) (xs:List AF) (hx:xs.length≤BB):Aa (Lv ctx (i+5)) 97 [.agg [iV a,iV b,iV c,.isl pf nn 4 (xs.map eI)]]=some (bV (DT a b c xs)):=by
 have hp:=oL i pf nn xs hx
 refine Ac rfl 0 (by rfl) ?_
 delta c97
 simp +contextual -dsimp -implicitDefEqProofs (maxSteps:=5000000) only [DT,hp,go_sem,simprocAttr]
end Ve
namespace Ve
open Go Ve.Ab
set_option maxHeartbeats 16000000
set_option maxRecDepth 10000
theorem XE (i:Nat) (pf ps:Bool) (m:Ad) (s:Ag) (hs:SmS s):Aa (Lv ctx (i+6)) 58 [eM pf m,eS ps s]=some (bV (AZ m.words s)):=by
 have h1:=gO (i+0) ps false s.id s.label s.clear s.prog hs.p
 have h2:=gJ (i+0) ps s hs pf pf pf pf false false false false m.words.a0 m.words.a1 m.words.a2 m.words.a3
 have h3:=JX (i+1) ps false s.reads hs.r
 have h4:=Il (i+1) ps false s.writes hs.w
 simp only [Nat.add_assoc,Nat.reduceAdd] at h1 h2 h3 h4
 simp only [eS] at h2 ⊢
 have key:AZ m.words s=((DT s.id s.label s.clear s.prog&&(CM m.words s.prog&&Ch m.words s.writes&&AB m.words s.reads))&&(inR s.step 6&&inR s.pc s.prog.length&&Ds 255 s.regs.a0 s.regs.a1 s.regs.a2 s.regs.a3&&AJ s.reads&&AP s.writes) &&
   (inR s.at_ s.writes.length&&inR s.stamp 65535&&inR s.tries 65535&&inR s.result 5&&inR s.told 255)):=by
  rw [Bool.eq_iff_iff]
  simp only [AZ,CI,A4.all,Ds,Bool.and_eq_true]
  constructor<;>(intro h;simp only [h,and_self])
 refine Ac rfl 0 (by rfl) ?_
 delta c58
 have hb1:∀ a b:Bool,(!a||!b)=!(a&&b):=by decide
 have hb2:∀ a b c d e:Bool,(!a||!b||!c||!d||!e)=!(a&&b&&c&&d&&e):=by decide
 rw [key]
 cases c1:(DT s.id s.label s.clear s.prog&&(CM m.words s.prog&&Ch m.words s.writes&&AB m.words s.reads))
 ·simp +contextual -dsimp -implicitDefEqProofs (maxSteps:=5000000) only [h1,h2,h3,h4,hb1,c1,go_sem,simprocAttr]
 ·cases c2:(inR s.step 6&&inR s.pc s.prog.length&&Ds 255 s.regs.a0 s.regs.a1 s.regs.a2 s.regs.a3&&AJ s.reads&&AP s.writes)
  ·simp only [inR] at c2
   simp +contextual -dsimp -implicitDefEqProofs (maxSteps:=5000000) only [h1,h2,h3,h4,hb1,hb2,c1,c2,go_sem,simprocAttr]
  ·simp only [inR] at c2
   simp +contextual -dsimp -implicitDefEqProofs (maxSteps:=5000000) only [h1,h2,h3,h4,hb1,hb2,c1,c2,go_sem,simprocAttr]
   simp only [inR]
def Ms (ws:A4 (List Ao)):Option Int→List Ag→Bool
 | _,[]=>true
 | none,s::t=>AZ ws s&&Ms ws (some s.id) t
 | some v,s::t=>AZ ws s&&decide (v<s.id)&&Ms ws (some s.id) t
theorem Pv (ws:A4 (List Ao)):∀ (l:List Ag) (o:Option Int),Ms ws o l=(Eu o l&&l.all (AZ ws))
 | [],o=>by cases o<;>rfl
 | a::l,none=>by simp only [Ms,Eu,List.all_cons,Pv ws l];cases AZ ws a<;>cases Eu (some a.id) l<;>simp
 | a::l,some v=>by simp only [Ms,Eu,List.all_cons,Pv ws l];cases AZ ws a<;>cases Eu (some a.id) l<;>cases decide (v<a.id)<;>simp
theorem Vh (i k:Nat) (pf:Bool) (m:Ad) (hm:SmM m) (q:Out→St→Option Ans) (Q:V→Hp→Nat→Prop) (u:Dum (fun s q=>evC ctx (Lv ctx (i+6)) (Aa (Lv ctx (i+6))) k LG s (Aq [1,4] q))) (w:Dum q):∀ (suf pre:List Ag) (kk:Nat),m.sess=pre++suf→suf.length<kk →
  GL 0 [1,4] (fun s q=>evC ctx (Lv ctx (i+6)) (Aa (Lv ctx (i+6))) k LG s (Aq [1,4] q)) q kk ⟨Ae [1,4] [.ip pf (cM pf m) 0,iV pre.length],Af,0⟩ Q u w=EI (Ms m.words (pre.getLast?.map (·.id)) suf) (Fin (q (.exit 2) ⟨Ae [1] [.ip pf (cM pf m) 0],Af,0⟩) Q) (Fin (q .ret ⟨Ae [2] [bV false],Af,0⟩) Q)
 | [],pre,kk,hxs,hk=>by
  obtain ⟨kk,rfl⟩:∃ m,kk=m+1:=⟨kk - 1,by simp at hk;omega⟩
  have h1:decide ((pre.length:Int)<m.sess.length)=false:=by simp [hxs]
  have h2:∀ o,Ms m.words o []=true:=fun o=>by cases o<;>rfl
  simp +contextual -dsimp -implicitDefEqProofs (maxSteps:=5000000) only [gLs,↓Aj (LG.eq_1),h1,Bd,h2,go_sem,simprocAttr]
 | a::suf,pre,kk,hxs,hk=>by
  obtain ⟨kk,rfl⟩:∃ m,kk=m+1:=⟨kk - 1,by simp at hk;omega⟩
  have hl:pre.length<m.sess.length:=by simp [hxs]
  have h2:((pre.length:Int)<m.sess.length)=True:=by simpa using hl
  have h3:(0≤(pre.length:Int))=True:=by simp
  have h4:=wrN pre.length (by have:=hm.ss;omega)
  have hg:m.sess[pre.length]?=some a:=by simp [hxs]
  have hs:=XE (i+0) pf pf m a (hm.s a (by simp [hxs]))
  simp only [Nat.add_assoc,Nat.reduceAdd,eS] at hs
  have ih:=Vh i k pf m hm q Q u w suf (pre++[a]) kk (by simp [hxs]) (by simpa using hk)
  rw [Al] at ih
  simp only [List.getLast?_append,List.getLast?_singleton,Option.some_or,Option.map_some] at ih
  rcases List.eq_nil_or_concat pre with rfl | ⟨L,v,rfl⟩
  ·simp only [List.length_nil,Nf] at *
   simp only [Nat.zero_add,SG] at ih
   cases c1:AZ m.words a<;>simp +contextual -dsimp -implicitDefEqProofs (maxSteps:=5000000) only [gLs,↓Aj (LG.eq_1),h2,h3,h4,hg,hs,c1,ih,Ms,Ax,List.getLast?_nil,go_sem,simprocAttr]
  ·have hlen:(L.concat v).length=L.length+1:=by simp
   have hlast:(L.concat v).getLast?=some v:=by simp
   rw [hlen] at h2 h3 h4 hg ih
   rw [hlen,hlast]
   have h6:IntKind.wrap .i64 (((L.length+1:Nat):Int) - 1)=(L.length:Int):=by
    have:=Gq (a:=(L.length:Int)) (by omega) (by have:=hm.ss;simp [hlen] at hl;simp only [BB] at this;omega)
    simp only [wr] at this
    rw [show (((L.length+1:Nat):Int) - 1)=(L.length:Int) by omega,this]
   have h7:((L.length:Int)<m.sess.length)=True:=by simp only [eq_iff_iff,iff_true];rw [hlen] at hl;omega
   have h8:(0≤(L.length:Int))=True:=by simp
   have h9:decide (0<((L.length+1:Nat):Int))=true:=by simp only [decide_eq_true_eq];omega
   have hg':m.sess[L.length]?=some v:=by simp [hxs]
   cases c1:AZ m.words a
   ·simp +contextual -dsimp -implicitDefEqProofs (maxSteps:=5000000) only [gLs,↓Aj (LG.eq_1),h2,h3,h4,hg,hs,c1,Ms,Ax,go_sem,simprocAttr]
   ·by_cases hlt:v.id<a.id
    ·have c2:decide (a.id≤v.id)=false:=by simp;omega
     have c3:decide (v.id<a.id)=true:=by simp;omega
     simp +contextual -dsimp -implicitDefEqProofs (maxSteps:=5000000) only [gLs,↓Aj (LG.eq_1),h2,h3,h4,h6,h7,h8,h9,hg,hg',hs,c1,c2,c3,ih,Ms,go_sem,simprocAttr]
    ·have c2:decide (a.id≤v.id)=true:=by simp;omega
     have c3:decide (v.id<a.id)=false:=by simp;omega
     simp +contextual -dsimp -implicitDefEqProofs (maxSteps:=5000000) only [gLs,↓Aj (LG.eq_1),h2,h3,h4,h6,h7,h8,h9,hg,hg',hs,c1,c2,c3,Ms,Ax,go_sem,simprocAttr]
theorem Vg (i k:Nat) (pf:Bool) (m:Ad) (hm:SmM m) (q:Out→St→Option Ans) (Q:V→Hp→Nat→Prop) (u:Dum (fun s q=>evC ctx (Lv ctx (i+6)) (Aa (Lv ctx (i+6))) k OR s (Aq [1,5] q))) (w:Dum q):∀ (suf pre:List Ba) (kk:Nat),m.trace=pre++suf→suf.length<kk →
  GL 0 [1,5] (fun s q=>evC ctx (Lv ctx (i+6)) (Aa (Lv ctx (i+6))) k OR s (Aq [1,5] q)) q kk ⟨Ae [1,5] [.ip pf (cM pf m) 0,iV pre.length],Af,0⟩ Q u w=EI (suf.all fun a=>inR a.label 3) (Fin (q (.exit 4) ⟨Ae [] [],Af,0⟩) Q) (Fin (q .ret ⟨Ae [2] [bV false],Af,0⟩) Q)
 | [],pre,kk,hxs,hk=>by
  obtain ⟨kk,rfl⟩:∃ m,kk=m+1:=⟨kk - 1,by simp at hk;omega⟩
  have h1:decide ((pre.length:Int)<(m.trace).length)=false:=by simp [hxs]
  simp +contextual -dsimp -implicitDefEqProofs (maxSteps:=5000000) only [gLs,↓Aj (OR.eq_1),h1,Bd,List.all_nil,go_sem,simprocAttr]
 | a::suf,pre,kk,hxs,hk=>by
  obtain ⟨kk,rfl⟩:∃ m,kk=m+1:=⟨kk - 1,by simp at hk;omega⟩
  have hl:pre.length<(m.trace).length:=by simp [hxs]
  have h2:((pre.length:Int)<(m.trace).length)=True:=by simpa using hl
  have h3:(0≤(pre.length:Int))=True:=by simp
  have h4:=wrN pre.length (by have:=hm.tr;omega)
  have hg:(m.trace)[pre.length]?=some a:=by simp [hxs]
  have hmem:a∈m.trace:=by simp [hxs]
  have ih:=Vg i k pf m hm q Q u w suf (pre++[a]) kk (by simp [hxs]) (by simpa using hk)
  rw [Al] at ih
  simp only [List.all_cons]
  cases hb:(inR a.label 3)
  ·rw [Bool.false_and]
   repeat simp +contextual -dsimp -implicitDefEqProofs (maxSteps:=5000000) only [gLs,↓Aj (OR.eq_1),h2,h3,h4,hg,hb,Ax,go_sem,simprocAttr]
  ·rw [Bool.true_and]
   repeat simp +contextual -dsimp -implicitDefEqProofs (maxSteps:=5000000) only [gLs,↓Aj (OR.eq_1),h2,h3,h4,hg,hb,ih,go_sem,simprocAttr]
theorem UL (i:Nat) (pf:Bool) (m:Ad) (hm:SmM m):Aa (Lv ctx (i+7)) 27 [eM pf m]=some (bV (CY m)):=by
 have ha:=Pu (i+2) pf pf pf pf false false false false m.words.a0 m.words.a1 m.words.a2 m.words.a3 hm.w0 hm.w1 hm.w2 hm.w3
 have h2:=fun q Q u w=>Vh i (m.sess.length+m.trace.length+5) pf m hm q Q u w m.sess [] (m.sess.length+m.trace.length+5) rfl (by omega)
 have h3:=fun q Q u w=>Vg i (m.sess.length+m.trace.length+5) pf m hm q Q u w m.trace [] (m.sess.length+m.trace.length+5) rfl (by omega)
 simp only [Nat.add_assoc,Nat.reduceAdd] at ha
 simp only [List.length_nil,Int.natCast_zero,List.getLast?_nil,Option.map_none,Pv] at h2 h3
 have h5:decide (4<(m.sess.length:Int))=!decide (m.sess.length≤4):=MZ _
 have h6:decide (512<(m.trace.length:Int))=!decide (m.trace.length≤512):=by
  by_cases h:m.trace.length≤512<;>simp [h]<;>omega
 have hb:∀ a b c d:Bool,(!a||!b||!c||!d)=!(a&&b&&c&&d):=by decide
 have ho:=fun q k s Q u w=>gLs 0 [1,3] (fun s q=>evC ctx (Lv ctx (i+6)) (Aa (Lv ctx (i+6))) (m.sess.length+m.trace.length+5) Nj s (Aq [1,3] q)) q k s Q u w
 refine Ac rfl (m.sess.length+m.trace.length+5) (by rfl) ?_
 delta c27
 cases c1:(AR m.words&&inR m.ceil 65535&&decide (m.sess.length≤4)&&decide (m.trace.length≤512))
 ·have key:CY m=false:=by
   rw [← Bool.not_eq_true] at c1 ⊢
   intro h
   simp only [CY,Bool.and_eq_true] at h c1
   exact c1 (by simp only [h,and_self])
  simp +contextual -dsimp -implicitDefEqProofs (maxSteps:=5000000) only [ha,h5,h6,hb,c1,key,go_sem,simprocAttr]
 ·have key:CY m=(m.clocks.all (fun c=>inR c m.ceil)&&(Eu none m.sess&&m.sess.all (AZ m.words))&&m.trace.all (fun e=>inR e.label 3)):=by
   rw [Bool.eq_iff_iff]
   simp only [Bool.and_eq_true] at c1
   simp only [CY,Bool.and_eq_true,c1,true_and,and_true]
   constructor<;>(intro h;simp only [h,and_self])
  rw [key]
  have hf:∀ a b:Int,(decide (0≤a)&&decide (a≤b))=inR a b:=fun _ _=>(rfl)
  cases d0:inR m.clocks.a0 m.ceil
  ·simp +contextual -dsimp -implicitDefEqProofs (maxSteps:=5000000) only [ha,h5,h6,hb,c1,ho,↓Aj (Nj.eq_1),A4.all,hf,d0,go_sem,simprocAttr]
  ·cases d1:inR m.clocks.a1 m.ceil
   ·simp +contextual -dsimp -implicitDefEqProofs (maxSteps:=5000000) only [ha,h5,h6,hb,c1,ho,↓Aj (Nj.eq_1),A4.all,hf,d0,d1,go_sem,simprocAttr]
   ·cases d2:inR m.clocks.a2 m.ceil
    ·simp +contextual -dsimp -implicitDefEqProofs (maxSteps:=5000000) only [ha,h5,h6,hb,c1,ho,↓Aj (Nj.eq_1),A4.all,hf,d0,d1,d2,go_sem,simprocAttr]
    ·cases d3:inR m.clocks.a3 m.ceil
     ·simp +contextual -dsimp -implicitDefEqProofs (maxSteps:=5000000) only [ha,h5,h6,hb,c1,ho,↓Aj (Nj.eq_1),A4.all,hf,d0,d1,d2,d3,go_sem,simprocAttr]
     ·simp +contextual -dsimp -implicitDefEqProofs (maxSteps:=5000000) only [ha,h5,h6,hb,c1,ho,↓Aj (Nj.eq_1),A4.all,hf,d0,d1,d2,d3,go_sem,simprocAttr]
      refine Eq.mpr (h2 _ _ _ _) ?_
      cases e2:(Eu none m.sess&&m.sess.all (AZ m.words))
      ·simp +contextual -dsimp -implicitDefEqProofs (maxSteps:=5000000) only [Ax,go_sem,simprocAttr]
      ·simp +contextual -dsimp -implicitDefEqProofs (maxSteps:=5000000) only [Bd,go_sem,simprocAttr]
       refine Eq.mpr (h3 _ _ _ _) ?_
       cases e3:(m.trace.all fun a=>inR a.label 3)<;>simp +contextual -dsimp -implicitDefEqProofs (maxSteps:=5000000) only [Bd,Ax,go_sem,simprocAttr]
theorem GY (i:Nat) (pf:Bool) (m:Ad) (at_:Int) (hm:SmM m):Aa (Lv ctx (i+8)) 39 [eM pf m,iV at_]=some (bV (Bj m at_)):=by
 have h1:=UL i pf m hm
 refine Ac rfl 0 (by rfl) ?_
 delta c39
 simp +contextual -dsimp -implicitDefEqProofs (maxSteps:=5000000) only [h1,Bj,go_sem,simprocAttr]
end Ve
namespace Ve
open Go Ve.Ab
set_option maxHeartbeats 16000000
set_option maxRecDepth 10000
attribute [go_sem] List.replicate List.length_append Nat.zero_add List.length_cons
@[go_sem] theorem r_arenaCopy (i:Nat) (p:Bool) (w0 w1 w2 w3:List Ao) (h0:(w0.length:Int)*24≤140737488355328) (h1:(w1.length:Int)*24≤140737488355328) (h2:(w2.length:Int)*24≤140737488355328) (h3:(w3.length:Int)*24≤140737488355328):Aa (Lv ctx (i+1)) 71 [.agg [eWs p w0,eWs p w1,eWs p w2,eWs p w3]]=some (.agg [oWs w0,oWs w1,oWs w2,oWs w3]):=by
 have e0:((w0.length:Int)*24≤140737488355328)=True:=by simpa using h0
 have e1:((w1.length:Int)*24≤140737488355328)=True:=by simpa using h1
 have e2:((w2.length:Int)*24≤140737488355328)=True:=by simpa using h2
 have e3:((w3.length:Int)*24≤140737488355328)=True:=by simpa using h3
 refine Ac rfl 5 (by rfl) ?_
 delta c71
 cases p<;>simp +contextual -dsimp -implicitDefEqProofs (maxSteps:=5000000) only [gLs,↓Aj (mK.eq_1),e0,e1,e2,e3,go_sem,simprocAttr]
@[go_sem] theorem w_arenaCopy (i:Nat) (p:Bool) (w0 w1 w2 w3:List Ao) (h0:(w0.length:Int)*24≤140737488355328) (h1:(w1.length:Int)*24≤140737488355328) (h2:(w2.length:Int)*24≤140737488355328) (h3:(w3.length:Int)*24≤140737488355328):Aa (Lv ctx (i+1)) 35 [.agg [eWs p w0,eWs p w1,eWs p w2,eWs p w3]]=some (.agg [oWs w0,oWs w1,oWs w2,oWs w3]):=by
 have e0:((w0.length:Int)*24≤140737488355328)=True:=by simpa using h0
 have e1:((w1.length:Int)*24≤140737488355328)=True:=by simpa using h1
 have e2:((w2.length:Int)*24≤140737488355328)=True:=by simpa using h2
 have e3:((w3.length:Int)*24≤140737488355328)=True:=by simpa using h3
 refine Ac rfl 5 (by rfl) ?_
 delta c35
 cases p<;>simp +contextual -dsimp -implicitDefEqProofs (maxSteps:=5000000) only [gLs,↓Aj (mM.eq_1),e0,e1,e2,e3,go_sem,simprocAttr]
@[go_sem] theorem XD (i:Nat) (pf:Bool) (s:Ag) (hs:SmS s):Aa (Lv ctx (i+1)) 72 [eS pf s]=some (oS s):=by
 have h1:((s.prog.length:Int)*32≤140737488355328)=True:=by simpa using hs.bp
 have h2:((s.reads.length:Int)*24≤140737488355328)=True:=by simpa using hs.br
 have h3:((s.writes.length:Int)*24≤140737488355328)=True:=by simpa using hs.bw
 simp only [eS]
 refine Ac rfl 0 (by rfl) ?_
 delta c72
 cases pf<;>simp +contextual -dsimp -implicitDefEqProofs (maxSteps:=5000000) only [h1,h2,h3,go_sem,simprocAttr]
@[go_sem] theorem Xh (i:Nat) (pf:Bool) (s:Ag) (hs:SmS s):Aa (Lv ctx (i+1)) 36 [eS pf s]=some (oS s):=by
 have h1:((s.prog.length:Int)*32≤140737488355328)=True:=by simpa using hs.bp
 have h2:((s.reads.length:Int)*24≤140737488355328)=True:=by simpa using hs.br
 have h3:((s.writes.length:Int)*24≤140737488355328)=True:=by simpa using hs.bw
 simp only [eS]
 refine Ac rfl 0 (by rfl) ?_
 delta c36
 cases pf<;>simp +contextual -dsimp -implicitDefEqProofs (maxSteps:=5000000) only [h1,h2,h3,go_sem,simprocAttr]
abbrev hR (pf d:Bool) (m:Ad) (els:List V):Hp :=
 pO (pO (pO (pO (pO (pO Af 0 (some ⟨11,[zM],false⟩)) 1 (some ⟨11,[.agg [.sl 2,.sl 3,.sl 4,.sl 5,iV m.clocks.a0,iV m.clocks.a1,iV m.clocks.a2,iV m.clocks.a3,iV m.ceil,.own 17 els,eEs pf m.trace]],d⟩))
  2 (some ⟨3,m.words.a0.map eW,false⟩)) 3 (some ⟨3,m.words.a1.map eW,false⟩)) 4 (some ⟨3,m.words.a2.map eW,false⟩)) 5 (some ⟨3,m.words.a3.map eW,false⟩)
theorem Vi (i k:Nat) (pf:Bool) (m:Ad) (hm:SmM m) (q:Out→St→Option Ans) (Q:V→Hp→Nat→Prop):∀ (suf pre:List Ag) (kk:Nat),m.sess=pre++suf→suf.length<kk+1 →
  Fin (evC ctx (Lv ctx (i+1)) (Aa (Lv ctx (i+1))) k SS ⟨Ae [1,2,3,4] [.ip pf (cM pf m) 0,.ptr 0 0 0,.ptr 1 0 0,iV pre.length],hR pf true m (pre.map oS),6⟩
   (Aq [1,2,3,4] fun o s=>BI (Bg 6 [1,2,3,4] (fun s q=>evC ctx (Lv ctx (i+1)) (Aa (Lv ctx (i+1))) k SS s (Aq [1,2,3,4] q)) q kk) q o s)) Q =
  Fin (q (.exit 0) ⟨Ae [1,2,3] [.ip pf (cM pf m) 0,.ptr 0 0 0,.ptr 1 0 0],hR pf true m (m.sess.map oS),6⟩) Q
 | [],pre,kk,hxs,hk=>by
  have h1:decide ((pre.length:Int)<m.sess.length)=false:=by simp [hxs]
  have h2:m.sess=pre:=by simp [hxs]
  rw [Aj (SS.eq_1)]
  simp +contextual -dsimp -implicitDefEqProofs (maxSteps:=5000000) only [h1,go_sem,simprocAttr]
  rw [h2]
 | a::suf,pre,kk,hxs,hk=>by
  obtain ⟨kk,rfl⟩:∃ m,kk=m+1:=⟨kk - 1,by simp at hk;omega⟩
  have hl:pre.length<m.sess.length:=by simp [hxs]
  have h2:((pre.length:Int)<m.sess.length)=True:=by simpa using hl
  have h3:(0≤(pre.length:Int))=True:=by simp
  have h4:=wrN pre.length (by have:=hm.ss;omega)
  have hg:m.sess[pre.length]?=some a:=by simp [hxs]
  have h5:(((pre.length+1:Nat):Int)*184≤140737488355328)=True:=by
   have:=hm.bs
   simp only [eq_iff_iff,iff_true]
   have:pre.length+1≤m.sess.length:=hl
   omega
  have hs:=XD (i+0) pf a (hm.s a (by simp [hxs]))
  have ih:=Vi i k pf m hm q Q suf (pre++[a]) kk (by simp [hxs]) (by simpa using hk)
  simp only [Al,List.map_append,List.map_cons,List.map_nil,oS] at ih
  simp only [Nat.add_assoc,Nat.reduceAdd,eS] at hs
  rw [Aj (SS.eq_1)]
  cases pf<;>simp +contextual -dsimp -implicitDefEqProofs (maxSteps:=5000000) only [h2,h3,h4,h5,hg,hs,gLs,go_sem,simprocAttr]<;>exact ih
theorem EV (i:Nat) (pf:Bool) (m:Ad) (hm:SmM m):Aa (Lv ctx (i+2)) 40 [eM pf m]=some (oM m):=by
 have b0:=hm.b0
 have b1:=hm.b1
 have b2:=hm.b2
 have b3:=hm.b3
 have e5:((m.trace.length:Int)*32≤140737488355328)=True:=by simpa using hm.bt
 refine Ac rfl (m.sess.length+1) (by rfl) ?_
 delta c40
 have hl:=fun q Q=>Vi i (m.sess.length+1) pf m hm q Q m.sess [] m.sess.length rfl (by omega)
 simp only [List.length_nil,Int.natCast_zero,List.map_nil] at hl
 cases pf
 ·simp +contextual -dsimp -implicitDefEqProofs (maxSteps:=5000000) only [b0,b1,b2,b3,e5,gLs,go_sem,simprocAttr]
  refine Eq.mpr (hl _ _) ?_
  simp +contextual -dsimp -implicitDefEqProofs (maxSteps:=5000000) only [e5,go_sem,simprocAttr]
 ·simp +contextual -dsimp -implicitDefEqProofs (maxSteps:=5000000) only [b0,b1,b2,b3,e5,gLs,go_sem,simprocAttr]
  refine Eq.mpr (hl _ _) ?_
  simp +contextual -dsimp -implicitDefEqProofs (maxSteps:=5000000) only [e5,go_sem,simprocAttr]
theorem Vc (i k:Nat) (pf:Bool) (m:Ad) (hm:SmM m) (q:Out→St→Option Ans) (Q:V→Hp→Nat→Prop):∀ (suf pre:List Ag) (kk:Nat),m.sess=pre++suf→suf.length<kk+1 →
  Fin (evC ctx (Lv ctx (i+1)) (Aa (Lv ctx (i+1))) k SV ⟨Ae [1,2,3,4] [.ip pf (cM pf m) 0,.ptr 0 0 0,.ptr 1 0 0,iV pre.length],hR pf true m (pre.map oS),6⟩
   (Aq [1,2,3,4] fun o s=>BI (Bg 6 [1,2,3,4] (fun s q=>evC ctx (Lv ctx (i+1)) (Aa (Lv ctx (i+1))) k SV s (Aq [1,2,3,4] q)) q kk) q o s)) Q =
  Fin (q (.exit 0) ⟨Ae [1,2,3] [.ip pf (cM pf m) 0,.ptr 0 0 0,.ptr 1 0 0],hR pf true m (m.sess.map oS),6⟩) Q
 | [],pre,kk,hxs,hk=>by
  have h1:decide ((pre.length:Int)<m.sess.length)=false:=by simp [hxs]
  have h2:m.sess=pre:=by simp [hxs]
  rw [Aj (SV.eq_1)]
  simp +contextual -dsimp -implicitDefEqProofs (maxSteps:=5000000) only [h1,go_sem,simprocAttr]
  rw [h2]
 | a::suf,pre,kk,hxs,hk=>by
  obtain ⟨kk,rfl⟩:∃ m,kk=m+1:=⟨kk - 1,by simp at hk;omega⟩
  have hl:pre.length<m.sess.length:=by simp [hxs]
  have h2:((pre.length:Int)<m.sess.length)=True:=by simpa using hl
  have h3:(0≤(pre.length:Int))=True:=by simp
  have h4:=wrN pre.length (by have:=hm.ss;omega)
  have hg:m.sess[pre.length]?=some a:=by simp [hxs]
  have h5:(((pre.length+1:Nat):Int)*184≤140737488355328)=True:=by
   have:=hm.bs
   simp only [eq_iff_iff,iff_true]
   have:pre.length+1≤m.sess.length:=hl
   omega
  have hs:=Xh (i+0) pf a (hm.s a (by simp [hxs]))
  have ih:=Vc i k pf m hm q Q suf (pre++[a]) kk (by simp [hxs]) (by simpa using hk)
  simp only [Al,List.map_append,List.map_cons,List.map_nil,oS] at ih
  simp only [Nat.add_assoc,Nat.reduceAdd,eS] at hs
  rw [Aj (SV.eq_1)]
  cases pf<;>simp +contextual -dsimp -implicitDefEqProofs (maxSteps:=5000000) only [h2,h3,h4,h5,hg,hs,gLs,go_sem,simprocAttr]<;>exact ih
theorem YP (i:Nat) (pf:Bool) (m:Ad) (hm:SmM m):Aa (Lv ctx (i+2)) 15 [eM pf m]=some (oM m):=by
 have b0:=hm.b0
 have b1:=hm.b1
 have b2:=hm.b2
 have b3:=hm.b3
 have e5:((m.trace.length:Int)*32≤140737488355328)=True:=by simpa using hm.bt
 refine Ac rfl (m.sess.length+1) (by rfl) ?_
 delta c15
 have hl:=fun q Q=>Vc i (m.sess.length+1) pf m hm q Q m.sess [] m.sess.length rfl (by omega)
 simp only [List.length_nil,Int.natCast_zero,List.map_nil] at hl
 cases pf
 ·simp +contextual -dsimp -implicitDefEqProofs (maxSteps:=5000000) only [b0,b1,b2,b3,e5,gLs,go_sem,simprocAttr]
  refine Eq.mpr (hl _ _) ?_
  simp +contextual -dsimp -implicitDefEqProofs (maxSteps:=5000000) only [e5,go_sem,simprocAttr]
 ·simp +contextual -dsimp -implicitDefEqProofs (maxSteps:=5000000) only [b0,b1,b2,b3,e5,gLs,go_sem,simprocAttr]
  refine Eq.mpr (hl _ _) ?_
  simp +contextual -dsimp -implicitDefEqProofs (maxSteps:=5000000) only [e5,go_sem,simprocAttr]
end Ve
