/- Undoing: the reference's. -/
import Derived.Test.YtokhplohcachjaaGreatVeSB
import Derived.Test.YtokhplohcachjaaGreatVeP
import Derived.Test.YtokhplohcachjaaGreatVeSA
set_option linter.all false
set_option linter.unusedSectionVars false
namespace Ve
open Go Ve.Ab
set_option maxHeartbeats 16000000
set_option maxRecDepth 10000
theorem sI (ms:List Bool):DP ms []=.ret ([],[]):=by cases ms<;>rfl
theorem ao_t (ms:List Bool) (v:V) (r:List V):DP (true::ms) (v::r)=(AI 0 6 v).bind fun x=>if x.1.perm then (DP ms r).bind fun y=>.ret (x.1::y.1,x.2++y.2) else .fail:=(rfl)
theorem ao_f (ms:List Bool) (v:V) (r:List V):DP (false::ms) (v::r)=if v.perm then (DP ms r).bind fun y=>.ret (v::y.1,y.2) else .fail:=(rfl)
theorem ao_0 (v:V) (r:List V):DP [] (v::r)=if v.perm then (DP [] r).bind fun y=>.ret (v::y.1,y.2) else .fail:=(rfl)
attribute [go_sem] sI ao_t ao_f ao_0
theorem RV (i k:Nat) (m:Ad) (hm:SmM m) (at_ id c:Int) (hc:IntKind.wrap .i64 (id+1)=c) (q:Out→St→Option Ans) (Q:V→Hp→Nat→Prop):∀ (suf pre:List Ao) (kk:Nat),m.words.a0=pre++suf→suf.length<kk+1 →
  Fin (evC ctx (Lv ctx (i+2)) (Aa (Lv ctx (i+2))) k CF ⟨Ae [1,4,5,6,7,8] [iV at_,.ptr 0 0 0,.ptr 7 0 0,iV id,iV 0,iV pre.length],hF m ((pre.map (Ap c)).map eW++suf.map eW) (m.words.a1.map eW) (m.words.a2.map eW) (m.words.a3.map eW),8⟩ (Aq [1,4,5,6,7,8] fun o s=>BI (Bg 8 [1,4,5,6,7,8] (fun s q=>evC ctx (Lv ctx (i+2)) (Aa (Lv ctx (i+2))) k CF s (Aq [1,4,5,6,7,8] q)) q kk) q o s)) Q=Fin (q (.exit 2) ⟨Ae [1,4,5,6,7] [iV at_,.ptr 0 0 0,.ptr 7 0 0,iV id,iV 0],hF m ((m.words.a0.map (Ap c)).map eW) (m.words.a1.map eW) (m.words.a2.map eW) (m.words.a3.map eW),8⟩) Q
 | [],pre,kk,hxs,hk=>by
  have h1:decide ((pre.length:Int)<(pre.length:Int))=false:=by simp
  have h2:m.words.a0=pre:=by simp [hxs]
  rw [Aj (CF.eq_1)]
  simp only [List.map_nil,List.append_nil]
  rw [h2]
  simp +contextual -dsimp -implicitDefEqProofs (maxSteps:=5000000) only [h1,List.length_map,go_sem,simprocAttr]
  all_goals (try rfl)
 | a::suf,pre,kk,hxs,hk=>by
  obtain ⟨kk,rfl⟩:∃ m,kk=m+1:=⟨kk - 1,by simp at hk;omega⟩
  have h2:((pre.length:Int)<((((pre.map (Ap c)).map eW++(a::suf).map eW).length:Nat):Int))=True:=by simp;omega
  have h2':((pre.length:Int)<((pre.length+(suf.length+1):Nat):Int))=True:=by simp;omega
  have h3:(0≤(pre.length:Int))=True:=by simp
  have h4:=wrN pre.length (by have:=hm.w0;rw [hxs] at this;simp at this;omega)
  have hg:((pre.map (Ap c)).map eW++(a::suf).map eW)[pre.length]?=some (eW a):=by simp
  have hset:∀ x,((pre.map (Ap c)).map eW++(a::suf).map eW).set pre.length x=(pre.map (Ap c)).map eW++x::suf.map eW:=by intro x;simp [List.set_append]
  have ih:=RV i k m hm at_ id c hc q Q suf (pre++[a]) kk (by simp [hxs]) (by simpa using hk)
  simp only [Al,List.map_append,List.map_cons,List.map_nil,List.append_assoc,List.cons_append,List.nil_append] at ih
  by_cases hlk:a.lock=c
  ·have h5:decide (a.lock=c)=true:=by simpa using hlk
   simp only [Ap,hlk,if_true,eW] at ih
   simp only [eW,List.map_cons,Ap] at h2 hg hset ⊢
   rw [Aj (CF.eq_1)]
   simp +contextual -dsimp -implicitDefEqProofs (maxSteps:=5000000) only [h2,h2',h3,h4,hg,hset,hc,h5,gLs,go_sem,simprocAttr]
   exact ih
  ·have h5:decide (a.lock=c)=false:=by simpa using hlk
   simp only [Ap,hlk,if_false,eW] at ih
   simp only [eW,List.map_cons,Ap] at h2 hg hset ⊢
   rw [Aj (CF.eq_1)]
   simp +contextual -dsimp -implicitDefEqProofs (maxSteps:=5000000) only [h2,h2',h3,h4,hg,hset,hc,h5,gLs,go_sem,simprocAttr]
   exact ih
theorem RU (i k:Nat) (m:Ad) (hm:SmM m) (at_ id c:Int) (hc:IntKind.wrap .i64 (id+1)=c) (q:Out→St→Option Ans) (Q:V→Hp→Nat→Prop):∀ (suf pre:List Ao) (kk:Nat),m.words.a1=pre++suf→suf.length<kk+1 →
  Fin (evC ctx (Lv ctx (i+2)) (Aa (Lv ctx (i+2))) k CF ⟨Ae [1,4,5,6,7,8] [iV at_,.ptr 0 0 0,.ptr 7 0 0,iV id,iV 1,iV pre.length],hF m ((m.words.a0.map (Ap c)).map eW) ((pre.map (Ap c)).map eW++suf.map eW) (m.words.a2.map eW) (m.words.a3.map eW),8⟩ (Aq [1,4,5,6,7,8] fun o s=>BI (Bg 8 [1,4,5,6,7,8] (fun s q=>evC ctx (Lv ctx (i+2)) (Aa (Lv ctx (i+2))) k CF s (Aq [1,4,5,6,7,8] q)) q kk) q o s)) Q=Fin (q (.exit 2) ⟨Ae [1,4,5,6,7] [iV at_,.ptr 0 0 0,.ptr 7 0 0,iV id,iV 1],hF m ((m.words.a0.map (Ap c)).map eW) ((m.words.a1.map (Ap c)).map eW) (m.words.a2.map eW) (m.words.a3.map eW),8⟩) Q
 | [],pre,kk,hxs,hk=>by
  have h1:decide ((pre.length:Int)<(pre.length:Int))=false:=by simp
  have h2:m.words.a1=pre:=by simp [hxs]
  rw [Aj (CF.eq_1)]
  simp only [List.map_nil,List.append_nil]
  rw [h2]
  simp +contextual -dsimp -implicitDefEqProofs (maxSteps:=5000000) only [h1,List.length_map,go_sem,simprocAttr]
  all_goals (try rfl)
 | a::suf,pre,kk,hxs,hk=>by
  obtain ⟨kk,rfl⟩:∃ m,kk=m+1:=⟨kk - 1,by simp at hk;omega⟩
  have h2:((pre.length:Int)<((((pre.map (Ap c)).map eW++(a::suf).map eW).length:Nat):Int))=True:=by simp;omega
  have h2':((pre.length:Int)<((pre.length+(suf.length+1):Nat):Int))=True:=by simp;omega
  have h3:(0≤(pre.length:Int))=True:=by simp
  have h4:=wrN pre.length (by have:=hm.w1;rw [hxs] at this;simp at this;omega)
  have hg:((pre.map (Ap c)).map eW++(a::suf).map eW)[pre.length]?=some (eW a):=by simp
  have hset:∀ x,((pre.map (Ap c)).map eW++(a::suf).map eW).set pre.length x=(pre.map (Ap c)).map eW++x::suf.map eW:=by intro x;simp [List.set_append]
  have ih:=RU i k m hm at_ id c hc q Q suf (pre++[a]) kk (by simp [hxs]) (by simpa using hk)
  simp only [Al,List.map_append,List.map_cons,List.map_nil,List.append_assoc,List.cons_append,List.nil_append] at ih
  by_cases hlk:a.lock=c
  ·have h5:decide (a.lock=c)=true:=by simpa using hlk
   simp only [Ap,hlk,if_true,eW] at ih
   simp only [eW,List.map_cons,Ap] at h2 hg hset ⊢
   rw [Aj (CF.eq_1)]
   simp +contextual -dsimp -implicitDefEqProofs (maxSteps:=5000000) only [h2,h2',h3,h4,hg,hset,hc,h5,gLs,go_sem,simprocAttr]
   exact ih
  ·have h5:decide (a.lock=c)=false:=by simpa using hlk
   simp only [Ap,hlk,if_false,eW] at ih
   simp only [eW,List.map_cons,Ap] at h2 hg hset ⊢
   rw [Aj (CF.eq_1)]
   simp +contextual -dsimp -implicitDefEqProofs (maxSteps:=5000000) only [h2,h2',h3,h4,hg,hset,hc,h5,gLs,go_sem,simprocAttr]
   exact ih
theorem RT (i k:Nat) (m:Ad) (hm:SmM m) (at_ id c:Int) (hc:IntKind.wrap .i64 (id+1)=c) (q:Out→St→Option Ans) (Q:V→Hp→Nat→Prop):∀ (suf pre:List Ao) (kk:Nat),m.words.a2=pre++suf→suf.length<kk+1 →
  Fin (evC ctx (Lv ctx (i+2)) (Aa (Lv ctx (i+2))) k CF ⟨Ae [1,4,5,6,7,8] [iV at_,.ptr 0 0 0,.ptr 7 0 0,iV id,iV 2,iV pre.length],hF m ((m.words.a0.map (Ap c)).map eW) ((m.words.a1.map (Ap c)).map eW) ((pre.map (Ap c)).map eW++suf.map eW) (m.words.a3.map eW),8⟩ (Aq [1,4,5,6,7,8] fun o s=>BI (Bg 8 [1,4,5,6,7,8] (fun s q=>evC ctx (Lv ctx (i+2)) (Aa (Lv ctx (i+2))) k CF s (Aq [1,4,5,6,7,8] q)) q kk) q o s)) Q=Fin (q (.exit 2) ⟨Ae [1,4,5,6,7] [iV at_,.ptr 0 0 0,.ptr 7 0 0,iV id,iV 2],hF m ((m.words.a0.map (Ap c)).map eW) ((m.words.a1.map (Ap c)).map eW) ((m.words.a2.map (Ap c)).map eW) (m.words.a3.map eW),8⟩) Q
 | [],pre,kk,hxs,hk=>by
  have h1:decide ((pre.length:Int)<(pre.length:Int))=false:=by simp
  have h2:m.words.a2=pre:=by simp [hxs]
  rw [Aj (CF.eq_1)]
  simp only [List.map_nil,List.append_nil]
  rw [h2]
  simp +contextual -dsimp -implicitDefEqProofs (maxSteps:=5000000) only [h1,List.length_map,go_sem,simprocAttr]
  all_goals (try rfl)
 | a::suf,pre,kk,hxs,hk=>by
  obtain ⟨kk,rfl⟩:∃ m,kk=m+1:=⟨kk - 1,by simp at hk;omega⟩
  have h2:((pre.length:Int)<((((pre.map (Ap c)).map eW++(a::suf).map eW).length:Nat):Int))=True:=by simp;omega
  have h2':((pre.length:Int)<((pre.length+(suf.length+1):Nat):Int))=True:=by simp;omega
  have h3:(0≤(pre.length:Int))=True:=by simp
  have h4:=wrN pre.length (by have:=hm.w2;rw [hxs] at this;simp at this;omega)
  have hg:((pre.map (Ap c)).map eW++(a::suf).map eW)[pre.length]?=some (eW a):=by simp
  have hset:∀ x,((pre.map (Ap c)).map eW++(a::suf).map eW).set pre.length x=(pre.map (Ap c)).map eW++x::suf.map eW:=by intro x;simp [List.set_append]
  have ih:=RT i k m hm at_ id c hc q Q suf (pre++[a]) kk (by simp [hxs]) (by simpa using hk)
  simp only [Al,List.map_append,List.map_cons,List.map_nil,List.append_assoc,List.cons_append,List.nil_append] at ih
  by_cases hlk:a.lock=c
  ·have h5:decide (a.lock=c)=true:=by simpa using hlk
   simp only [Ap,hlk,if_true,eW] at ih
   simp only [eW,List.map_cons,Ap] at h2 hg hset ⊢
   rw [Aj (CF.eq_1)]
   simp +contextual -dsimp -implicitDefEqProofs (maxSteps:=5000000) only [h2,h2',h3,h4,hg,hset,hc,h5,gLs,go_sem,simprocAttr]
   exact ih
  ·have h5:decide (a.lock=c)=false:=by simpa using hlk
   simp only [Ap,hlk,if_false,eW] at ih
   simp only [eW,List.map_cons,Ap] at h2 hg hset ⊢
   rw [Aj (CF.eq_1)]
   simp +contextual -dsimp -implicitDefEqProofs (maxSteps:=5000000) only [h2,h2',h3,h4,hg,hset,hc,h5,gLs,go_sem,simprocAttr]
   exact ih
theorem RS (i k:Nat) (m:Ad) (hm:SmM m) (at_ id c:Int) (hc:IntKind.wrap .i64 (id+1)=c) (q:Out→St→Option Ans) (Q:V→Hp→Nat→Prop):∀ (suf pre:List Ao) (kk:Nat),m.words.a3=pre++suf→suf.length<kk+1 →
  Fin (evC ctx (Lv ctx (i+2)) (Aa (Lv ctx (i+2))) k CF ⟨Ae [1,4,5,6,7,8] [iV at_,.ptr 0 0 0,.ptr 7 0 0,iV id,iV 3,iV pre.length],hF m ((m.words.a0.map (Ap c)).map eW) ((m.words.a1.map (Ap c)).map eW) ((m.words.a2.map (Ap c)).map eW) ((pre.map (Ap c)).map eW++suf.map eW),8⟩ (Aq [1,4,5,6,7,8] fun o s=>BI (Bg 8 [1,4,5,6,7,8] (fun s q=>evC ctx (Lv ctx (i+2)) (Aa (Lv ctx (i+2))) k CF s (Aq [1,4,5,6,7,8] q)) q kk) q o s)) Q=Fin (q (.exit 2) ⟨Ae [1,4,5,6,7] [iV at_,.ptr 0 0 0,.ptr 7 0 0,iV id,iV 3],hF m ((m.words.a0.map (Ap c)).map eW) ((m.words.a1.map (Ap c)).map eW) ((m.words.a2.map (Ap c)).map eW) ((m.words.a3.map (Ap c)).map eW),8⟩) Q
 | [],pre,kk,hxs,hk=>by
  have h1:decide ((pre.length:Int)<(pre.length:Int))=false:=by simp
  have h2:m.words.a3=pre:=by simp [hxs]
  rw [Aj (CF.eq_1)]
  simp only [List.map_nil,List.append_nil]
  rw [h2]
  simp +contextual -dsimp -implicitDefEqProofs (maxSteps:=5000000) only [h1,List.length_map,go_sem,simprocAttr]
  all_goals (try rfl)
 | a::suf,pre,kk,hxs,hk=>by
  obtain ⟨kk,rfl⟩:∃ m,kk=m+1:=⟨kk - 1,by simp at hk;omega⟩
  have h2:((pre.length:Int)<((((pre.map (Ap c)).map eW++(a::suf).map eW).length:Nat):Int))=True:=by simp;omega
  have h2':((pre.length:Int)<((pre.length+(suf.length+1):Nat):Int))=True:=by simp;omega
  have h3:(0≤(pre.length:Int))=True:=by simp
  have h4:=wrN pre.length (by have:=hm.w3;rw [hxs] at this;simp at this;omega)
  have hg:((pre.map (Ap c)).map eW++(a::suf).map eW)[pre.length]?=some (eW a):=by simp
  have hset:∀ x,((pre.map (Ap c)).map eW++(a::suf).map eW).set pre.length x=(pre.map (Ap c)).map eW++x::suf.map eW:=by intro x;simp [List.set_append]
  have ih:=RS i k m hm at_ id c hc q Q suf (pre++[a]) kk (by simp [hxs]) (by simpa using hk)
  simp only [Al,List.map_append,List.map_cons,List.map_nil,List.append_assoc,List.cons_append,List.nil_append] at ih
  by_cases hlk:a.lock=c
  ·have h5:decide (a.lock=c)=true:=by simpa using hlk
   simp only [Ap,hlk,if_true,eW] at ih
   simp only [eW,List.map_cons,Ap] at h2 hg hset ⊢
   rw [Aj (CF.eq_1)]
   simp +contextual -dsimp -implicitDefEqProofs (maxSteps:=5000000) only [h2,h2',h3,h4,hg,hset,hc,h5,gLs,go_sem,simprocAttr]
   exact ih
  ·have h5:decide (a.lock=c)=false:=by simpa using hlk
   simp only [Ap,hlk,if_false,eW] at ih
   simp only [eW,List.map_cons,Ap] at h2 hg hset ⊢
   rw [Aj (CF.eq_1)]
   simp +contextual -dsimp -implicitDefEqProofs (maxSteps:=5000000) only [h2,h2',h3,h4,hg,hset,hc,h5,gLs,go_sem,simprocAttr]
   exact ih
theorem UM (i:Nat) (pf:Bool) (m:Ad) (hm:SmM m) (k:Nat) (s:Ag) (hs:m.sess[k]?=some s):Aa (Lv ctx (i+3)) 136 [eM pf m,iV k]=some (oM (Az (Bm (IntKind.wrap .i64 (s.id+1)) m) k (Df s))):=by
 have hk:=Au hs
 have h1:(0≤(k:Int))=True:=by simp
 have h2:((k:Int)<(m.sess.length:Int))=True:=by simpa using hk
 have h3:(m.sess.map oS)[k]?=some (oS s):=by simp [hs]
 have h4:∀ x y,((m.sess.map oS).set k x).set k y=(m.sess.map oS).set k y:=fun x y=>List.set_set ..
 have h5:∀ x,((m.sess.map oS).set k x)[k]?=some x:=fun x=>List.getElem?_set_self (by simpa using hk)
 have hc:=EV (i+0) pf m hm
 have l0:=fun q Q=>RV i (m.words.a0.length+m.words.a1.length+m.words.a2.length+m.words.a3.length+5) m hm k s.id (IntKind.wrap .i64 (s.id+1)) rfl q Q m.words.a0 [] (m.words.a0.length+m.words.a1.length+m.words.a2.length+m.words.a3.length+4) rfl (by omega)
 have l1:=fun q Q=>RU i (m.words.a0.length+m.words.a1.length+m.words.a2.length+m.words.a3.length+5) m hm k s.id (IntKind.wrap .i64 (s.id+1)) rfl q Q m.words.a1 [] (m.words.a0.length+m.words.a1.length+m.words.a2.length+m.words.a3.length+4) rfl (by omega)
 have l2:=fun q Q=>RT i (m.words.a0.length+m.words.a1.length+m.words.a2.length+m.words.a3.length+5) m hm k s.id (IntKind.wrap .i64 (s.id+1)) rfl q Q m.words.a2 [] (m.words.a0.length+m.words.a1.length+m.words.a2.length+m.words.a3.length+4) rfl (by omega)
 have l3:=fun q Q=>RS i (m.words.a0.length+m.words.a1.length+m.words.a2.length+m.words.a3.length+5) m hm k s.id (IntKind.wrap .i64 (s.id+1)) rfl q Q m.words.a3 [] (m.words.a0.length+m.words.a1.length+m.words.a2.length+m.words.a3.length+4) rfl (by omega)
 simp only [Nat.add_assoc,Nat.reduceAdd,oS] at hc h3
 simp only [List.map_nil,List.nil_append,List.length_nil,Nf] at l0 l1 l2 l3
 refine Ac rfl (m.words.a0.length+m.words.a1.length+m.words.a2.length+m.words.a3.length+5) (by rfl) ?_
 delta yX
 simp +contextual -dsimp -implicitDefEqProofs (maxSteps:=5000000) only [hc,hs,h1,h2,h3,h4,h5,gLs,↓l0,↓l1,↓l2,↓l3,l0,l1,l2,l3,↓Aj (dD.eq_1),List.length_set,go_sem,simprocAttr]
 simp only [oM,cO,oWs,oSs,oEs,Az,Bm,List.map_set,Df]
 all_goals rfl
theorem JB (i:Nat) (m:Ad) (k:Nat) (s:Ag) (hs:m.sess[k]?=some s) (kd vl:Int):Aa (Lv ctx (i+1)) 87 [oM m,iV k,iV kd,iV vl]=some (oM (AS m ⟨s.id,s.label,kd,vl⟩)):=by
 have hk:=Au hs
 have h1:(0≤(k:Int))=True:=by simp
 have h2:((k:Int)<(m.sess.length:Int))=True:=by simpa using hk
 have h3:(m.sess.map oS)[k]?=some (oS s):=by simp [hs]
 simp only [oS] at h3
 by_cases htr:m.trace.length<512
 ·have h6:decide ((m.trace.length:Int)<512)=true:=by simp;omega
  have h7:(((m.trace.length+1:Nat):Int)*32≤140737488355328)=True:=by simp;omega
  refine Ac rfl 0 (by rfl) ?_
  delta c87
  simp +contextual -dsimp -implicitDefEqProofs (maxSteps:=5000000) only [h1,h2,hs,h6,h7,go_sem,simprocAttr]
  simp only [oM,cO,oWs,oSs,oEs,AS,htr,if_true,List.map_append]
  rfl
 ·have h6:decide ((m.trace.length:Int)<512)=false:=by simp;omega
  refine Ac rfl 0 (by rfl) ?_
  delta c87
  simp +contextual -dsimp -implicitDefEqProofs (maxSteps:=5000000) only [h6,go_sem,simprocAttr]
  simp only [oM,cO,oWs,oSs,oEs,AS,htr,if_false]
end Ve
namespace Ve
open Go Ve.Ab
set_option maxHeartbeats 16000000
set_option maxRecDepth 10000
theorem LS (i:Nat) (pf:Bool) (m:Ad) (hm:SmM m) (at_ kind:Int):Aa (Lv ctx (i+9)) 83 [eM pf m,iV at_,iV kind]=some (.tup [oM (Bw m at_ kind).1,iV (Bw m at_ kind).2]):=by
 have ht:=GY (i+0) pf m at_ hm
 simp only [Nat.add_assoc,Nat.reduceAdd] at ht
 have h2:∀ a b c:Bool,(!a||!b&&!c)=!(a&&(b||c)):=by decide
 have h3:=h2 (Bj m at_) (decide (kind=3)) (decide (kind=5))
 cases h1:(Bj m at_&&(decide (kind=3)||decide (kind=5)))<;>rw [h1] at h3
 ·refine Ac rfl 0 (by rfl) ?_
  delta c83
  simp +contextual -dsimp -implicitDefEqProofs (maxSteps:=5000000) only [ht,h3,go_sem,simprocAttr]
  simp only [Bw,h1]
  rfl
 ·have hh:Bj m at_=true:=by simp only [Bool.and_eq_true] at h1;exact h1.1
  obtain ⟨s,k,rfl,hs,hk⟩:=It hh
  have hm1:Bw m k kind=(AS (Az (Bm (IntKind.wrap .i64 (s.id+1)) m) k (Bv s)) ⟨s.id,s.label,kind,JF s.tries⟩,0):=by
   simp only [Bw,h1,if_true,Int.toNat_natCast,hs]
  have hl:=UM (i+5) pf m hm k s hs
  have htl:=JB (i+7) (Az (Bm (IntKind.wrap .i64 (s.id+1)) m) k (Bv s)) k (Bv s) (by simp [Az,Bm,hk]) kind (JF s.tries)
  have e1:(0≤(k:Int))=True:=by simp
  have e2:((k:Int)<(m.sess.length:Int))=True:=by simpa using hk
  have e4:∀ x y,((m.sess.map oS).set k x).set k y=(m.sess.map oS).set k y:=fun x y=>List.set_set ..
  have e5:∀ x,((m.sess.map oS).set k x)[k]?=some x:=fun x=>List.getElem?_set_self (by simpa using hk)
  simp only [Nat.add_assoc,Nat.reduceAdd,oM,cO,oWs,oSs,oEs,Az,Bm,List.map_set,Df,oS] at hl
  simp only [Nat.add_assoc,Nat.reduceAdd,oM,cO,oWs,oSs,oEs,Az,Bm,List.map_set,Bv,Df,oS,JF] at htl
  rw [hm1]
  refine Ac rfl 0 (by rfl) ?_
  delta c83
  simp +contextual -dsimp -implicitDefEqProofs (maxSteps:=5000000) only [ht,h3,hl,htl,hs,e1,e2,e4,e5,List.length_set,go_sem,simprocAttr]
  simp only [oM,cO,oWs,oSs,oEs,Az,Bm,List.map_set,Bv,Df,oS,JF]
theorem NV (i:Nat) (pf:Bool) (m:Ad) (hm:SmM m) (at_ result told:Int):Aa (Lv ctx (i+9)) 79 [eM pf m,iV at_,iV result,iV told]=some (.tup [oM (Cy m at_ result told).1,iV (Cy m at_ result told).2]):=by
 have ht:=GY (i+0) pf m at_ hm
 simp only [Nat.add_assoc,Nat.reduceAdd] at ht
 have hf:∀ a b:Int,(decide (0≤a)&&decide (a≤b))=inR a b:=fun _ _=>(rfl)
 have h2:∀ a b c:Bool,(!a||!b||!c)=!(a&&b&&c):=by decide
 have h3:=h2 (Bj m at_) (inR result 5) (inR told 255)
 cases h1:(Bj m at_&&inR result 5&&inR told 255)<;>rw [h1] at h3
 ·refine Ac rfl 0 (by rfl) ?_
  delta c79
  simp +contextual -dsimp -implicitDefEqProofs (maxSteps:=5000000) only [ht,h3,hf,go_sem,simprocAttr]
  simp only [Cy,h1]
  rfl
 ·have hh:Bj m at_=true:=by simp only [Bool.and_eq_true] at h1;exact h1.1.1
  obtain ⟨s,k,rfl,hs,hk⟩:=It hh
  have hm1:Cy m k result told=(AS (Az (Bm (IntKind.wrap .i64 (s.id+1)) m) k (Gn s result told)) ⟨s.id,s.label,6,result⟩,0):=by
   simp only [Cy,h1,if_true,Int.toNat_natCast,hs]
  have hl:=UM (i+5) pf m hm k s hs
  have htl:=JB (i+7) (Az (Bm (IntKind.wrap .i64 (s.id+1)) m) k (Gn s result told)) k (Gn s result told) (by simp [Az,Bm,hk]) 6 result
  have e1:(0≤(k:Int))=True:=by simp
  have e2:((k:Int)<(m.sess.length:Int))=True:=by simpa using hk
  have e4:∀ x y,((m.sess.map oS).set k x).set k y=(m.sess.map oS).set k y:=fun x y=>List.set_set ..
  have e5:∀ x,((m.sess.map oS).set k x)[k]?=some x:=fun x=>List.getElem?_set_self (by simpa using hk)
  simp only [Nat.add_assoc,Nat.reduceAdd,oM,cO,oWs,oSs,oEs,Az,Bm,List.map_set,Df,oS] at hl
  simp only [Nat.add_assoc,Nat.reduceAdd,oM,cO,oWs,oSs,oEs,Az,Bm,List.map_set,Gn,Df,oS] at htl
  rw [hm1]
  refine Ac rfl 0 (by rfl) ?_
  delta c79
  simp +contextual -dsimp -implicitDefEqProofs (maxSteps:=5000000) only [ht,h3,hf,hl,htl,hs,e1,e2,e4,e5,List.length_set,go_sem,simprocAttr]
  simp only [oM,cO,oWs,oSs,oEs,Az,Bm,List.map_set,Gn,Df,oS]
end Ve
namespace Ve
open Go Ve.Ab
set_option maxHeartbeats 16000000
set_option maxRecDepth 10000
theorem Aw:oM AK=.agg [.own 3 [],.own 3 [],.own 3 [],.own 3 [],iV 0,iV 0,iV 0,iV 0,iV 0,.own 17 [],.own 4 []]:=rfl
theorem nn2 (a b:Bool):(!a||!b)=!(a&&b):=by cases a<;>cases b<;>rfl
theorem nn3 (a b c:Bool):(!a||!b||!c)=!(a&&b&&c):=by cases a<;>cases b<;>cases c<;>rfl
theorem Ec {x c:Int} (h:inR x c=true) (hc:c≤65535):IntKind.wrap .i64 (x+1)=x+1:=by
 rw [AG] at h
 exact AU (by omega) (by omega)
theorem oO (i:Nat) (a b c id:Int):Aa (Lv ctx (i+4)) 82 [.agg [iV a,iV b,iV c],iV id]=some (.tup [eW (Et ⟨a,b,c⟩ id).1,iV (Et ⟨a,b,c⟩ id).2]):=by
 cases h1:(AL ⟨a,b,c⟩&&inR id 254)
 ·have e:Et ⟨a,b,c⟩ id=(Ey,300):=by simp only [Et,h1];rfl
  rw [e]
  refine Ac rfl 0 (by rfl) ?_
  delta c82
  simp +contextual -dsimp -implicitDefEqProofs (maxSteps:=5000000) only [nn2,h1,Ey,go_sem,simprocAttr]
 ·have hw:=Ec (c:=254) (x:=id) (by simp only [Bool.and_eq_true] at h1;exact h1.2) (by omega)
  by_cases hc:c=0
  ·have e:Et ⟨a,b,c⟩ id=(⟨a,b,id+1⟩,0):=by subst hc;simp only [Et,h1,if_true]
   rw [e]
   have h2:decide (c=0)=true:=by simpa using hc
   refine Ac rfl 0 (by rfl) ?_
   delta c82
   simp +contextual -dsimp -implicitDefEqProofs (maxSteps:=5000000) only [nn2,h1,h2,hw,go_sem,simprocAttr]
  ·have e:Et ⟨a,b,c⟩ id=(Ey,301):=by simp only [Et,h1,if_true,hc,if_false]
   rw [e]
   have h2:decide (c=0)=false:=by simpa using hc
   refine Ac rfl 0 (by rfl) ?_
   delta c82
   simp +contextual -dsimp -implicitDefEqProofs (maxSteps:=5000000) only [nn2,h1,h2,Ey,go_sem,simprocAttr]
theorem gH (i:Nat) (a b c v k:Int):Aa (Lv ctx (i+4)) 86 [.agg [iV a,iV b,iV c],iV v,iV k]=some (.tup [eW (Ez ⟨a,b,c⟩ v k).1,iV (Ez ⟨a,b,c⟩ v k).2]):=by
 cases h1:(AL ⟨a,b,c⟩&&AL ⟨v,k,0⟩)
 ·have e:Ez ⟨a,b,c⟩ v k=(Ey,300):=by simp only [Ez,h1];rfl
  rw [e]
  refine Ac rfl 0 (by rfl) ?_
  delta c86
  simp +contextual -dsimp -implicitDefEqProofs (maxSteps:=5000000) only [nn2,h1,Ey,go_sem,simprocAttr]
 ·have e:Ez ⟨a,b,c⟩ v k=(⟨v,k,0⟩,0):=by simp only [Ez,h1,if_true]
  rw [e]
  refine Ac rfl 0 (by rfl) ?_
  delta c86
  simp +contextual -dsimp -implicitDefEqProofs (maxSteps:=5000000) only [nn2,h1,go_sem,simprocAttr]
abbrev e4 (a:A4 Int):V:=.agg [iV a.a0,iV a.a1,iV a.a2,iV a.a3]
theorem oN (i:Nat) (a b c d l k:Int):Aa (Lv ctx (i+3)) 84 [.agg [iV a,iV b,iV c,iV d],iV l,iV k] =
  some (.tup [e4 (Cj ⟨a,b,c,d⟩ l k).1,iV (Cj ⟨a,b,c,d⟩ l k).2.1,iV (Cj ⟨a,b,c,d⟩ l k).2.2]):=by
 have hp:(inR l 3&&inR k 65535&&inR a 65535&&inR b 65535&&inR c 65535&&inR d 65535)=((⟨a,b,c,d⟩:A4 Int).all (fun x=>inR x 65535)&&inR k 65535&&inR l 3):=by
  simp only [A4.all]
  cases inR l 3<;>cases inR k 65535<;>cases inR a 65535<;>cases inR b 65535<;>cases inR c 65535<;>cases inR d 65535<;>rfl
 cases h1:(inR l 3&&inR k 65535&&inR a 65535&&inR b 65535&&inR c 65535&&inR d 65535)
 ·have e:Cj ⟨a,b,c,d⟩ l k=(Db,0,500):=by simp only [Cj,← hp,h1];rfl
  rw [e]
  refine Ac rfl 5 (by rfl) ?_
  delta c84
  simp +contextual -dsimp -implicitDefEqProofs (maxSteps:=5000000) only [gLs,↓Aj (Jt.eq_1),h1,Db,go_sem,simprocAttr]
 ·have hh:=h1
  simp only [Bool.and_eq_true] at hh
  obtain ⟨⟨⟨⟨⟨hl,hk⟩,ha⟩,hb⟩,hc⟩,hd⟩:=hh
  have wa:=Ec ha (by omega)
  have wb:=Ec hb (by omega)
  have wc:=Ec hc (by omega)
  have wd:=Ec hd (by omega)
  rcases Bc l with rfl | hl'
  ·by_cases hf:k≤a
   ·have e:Cj ⟨a,b,c,d⟩ 0 k=(Db,0,501):=by simp only [Cj,← hp,h1,if_true];exact if_pos hf
    rw [e]
    have h2:decide (k≤a)=true:=by simpa using hf
    refine Ac rfl 5 (by rfl) ?_
    delta c84
    simp +contextual -dsimp -implicitDefEqProofs (maxSteps:=5000000) only [gLs,↓Aj (Jt.eq_1),hl,hk,ha,hb,hc,hd,Bool.and_self,h2,Db,go_sem,simprocAttr]
   ·have e:Cj ⟨a,b,c,d⟩ 0 k=((⟨a,b,c,d⟩:A4 Int).set 0 (a+1),a+1,0):=by simp only [Cj,← hp,h1,if_true];exact if_neg hf
    rw [e]
    have h2:decide (k≤a)=false:=by simpa using hf
    refine Ac rfl 5 (by rfl) ?_
    delta c84
    simp +contextual -dsimp -implicitDefEqProofs (maxSteps:=5000000) only [gLs,↓Aj (Jt.eq_1),hl,hk,ha,hb,hc,hd,Bool.and_self,h2,wa,wb,wc,wd,A4.set,go_sem,simprocAttr]
    rw [Kx (hd:=by rfl)]
    simp +contextual -dsimp -implicitDefEqProofs (maxSteps:=5000000) only [hl,hk,ha,hb,hc,hd,Bool.and_self,h2,wa,wb,wc,wd,A4.set,go_sem,simprocAttr]
  rcases hl' with rfl | hl'
  ·by_cases hf:k≤b
   ·have e:Cj ⟨a,b,c,d⟩ 1 k=(Db,0,501):=by simp only [Cj,← hp,h1,if_true];exact if_pos hf
    rw [e]
    have h2:decide (k≤b)=true:=by simpa using hf
    refine Ac rfl 5 (by rfl) ?_
    delta c84
    simp +contextual -dsimp -implicitDefEqProofs (maxSteps:=5000000) only [gLs,↓Aj (Jt.eq_1),hl,hk,ha,hb,hc,hd,Bool.and_self,h2,Db,go_sem,simprocAttr]
   ·have e:Cj ⟨a,b,c,d⟩ 1 k=((⟨a,b,c,d⟩:A4 Int).set 1 (b+1),b+1,0):=by simp only [Cj,← hp,h1,if_true];exact if_neg hf
    rw [e]
    have h2:decide (k≤b)=false:=by simpa using hf
    refine Ac rfl 5 (by rfl) ?_
    delta c84
    simp +contextual -dsimp -implicitDefEqProofs (maxSteps:=5000000) only [gLs,↓Aj (Jt.eq_1),hl,hk,ha,hb,hc,hd,Bool.and_self,h2,wa,wb,wc,wd,A4.set,go_sem,simprocAttr]
    rw [Kx (hd:=by rfl)]
    simp +contextual -dsimp -implicitDefEqProofs (maxSteps:=5000000) only [hl,hk,ha,hb,hc,hd,Bool.and_self,h2,wa,wb,wc,wd,A4.set,go_sem,simprocAttr]
  rcases hl' with rfl | hl'
  ·by_cases hf:k≤c
   ·have e:Cj ⟨a,b,c,d⟩ 2 k=(Db,0,501):=by simp only [Cj,← hp,h1,if_true];exact if_pos hf
    rw [e]
    have h2:decide (k≤c)=true:=by simpa using hf
    refine Ac rfl 5 (by rfl) ?_
    delta c84
    simp +contextual -dsimp -implicitDefEqProofs (maxSteps:=5000000) only [gLs,↓Aj (Jt.eq_1),hl,hk,ha,hb,hc,hd,Bool.and_self,h2,Db,go_sem,simprocAttr]
   ·have e:Cj ⟨a,b,c,d⟩ 2 k=((⟨a,b,c,d⟩:A4 Int).set 2 (c+1),c+1,0):=by simp only [Cj,← hp,h1,if_true];exact if_neg hf
    rw [e]
    have h2:decide (k≤c)=false:=by simpa using hf
    refine Ac rfl 5 (by rfl) ?_
    delta c84
    simp +contextual -dsimp -implicitDefEqProofs (maxSteps:=5000000) only [gLs,↓Aj (Jt.eq_1),hl,hk,ha,hb,hc,hd,Bool.and_self,h2,wa,wb,wc,wd,A4.set,go_sem,simprocAttr]
    rw [Kx (hd:=by rfl)]
    simp +contextual -dsimp -implicitDefEqProofs (maxSteps:=5000000) only [hl,hk,ha,hb,hc,hd,Bool.and_self,h2,wa,wb,wc,wd,A4.set,go_sem,simprocAttr]
  rcases hl' with rfl | hl'
  ·by_cases hf:k≤d
   ·have e:Cj ⟨a,b,c,d⟩ 3 k=(Db,0,501):=by simp only [Cj,← hp,h1,if_true];exact if_pos hf
    rw [e]
    have h2:decide (k≤d)=true:=by simpa using hf
    refine Ac rfl 5 (by rfl) ?_
    delta c84
    simp +contextual -dsimp -implicitDefEqProofs (maxSteps:=5000000) only [gLs,↓Aj (Jt.eq_1),hl,hk,ha,hb,hc,hd,Bool.and_self,h2,Db,go_sem,simprocAttr]
   ·have e:Cj ⟨a,b,c,d⟩ 3 k=((⟨a,b,c,d⟩:A4 Int).set 3 (d+1),d+1,0):=by simp only [Cj,← hp,h1,if_true];exact if_neg hf
    rw [e]
    have h2:decide (k≤d)=false:=by simpa using hf
    refine Ac rfl 5 (by rfl) ?_
    delta c84
    simp +contextual -dsimp -implicitDefEqProofs (maxSteps:=5000000) only [gLs,↓Aj (Jt.eq_1),hl,hk,ha,hb,hc,hd,Bool.and_self,h2,wa,wb,wc,wd,A4.set,go_sem,simprocAttr]
    rw [Kx (hd:=by rfl)]
    simp +contextual -dsimp -implicitDefEqProofs (maxSteps:=5000000) only [hl,hk,ha,hb,hc,hd,Bool.and_self,h2,wa,wb,wc,wd,A4.set,go_sem,simprocAttr]
  rw [hl] at hl';cases hl'
theorem JW (a b c d:Int):CI ⟨a,b,c,d⟩=Ds 255 a b c d:=rfl
theorem tP (i:Nat) (a b c d r v:Int):Aa (Lv ctx (i+4)) 134 [.agg [iV a,iV b,iV c,iV d],iV r,iV v]=some (.tup [e4 (KL ⟨a,b,c,d⟩ r v).1,iV (KL ⟨a,b,c,d⟩ r v).2]):=by
 cases h1:(Ds 255 a b c d&&inR r 3&&inR v 255)
 ·have e:KL ⟨a,b,c,d⟩ r v=(Db,600):=by simp only [KL,JW,h1];rfl
  rw [e]
  refine Ac rfl 0 (by rfl) ?_
  delta rY
  simp +contextual -dsimp -implicitDefEqProofs (maxSteps:=5000000) only [nn3,h1,Db,go_sem,simprocAttr]
 ·have e:KL ⟨a,b,c,d⟩ r v=((⟨a,b,c,d⟩:A4 Int).set r v,0):=by simp only [KL,JW,h1,if_true]
  rw [e]
  have hr:inR r 3=true:=by simp only [Bool.and_eq_true] at h1;exact h1.1.2
  rcases Bc r with rfl | rfl | rfl | rfl | h'
  case inr.inr.inr.inr=>rw [hr] at h';cases h'
  all_goals
   refine Ac rfl 0 (by rfl) ?_
   delta rY
   have ha:Ds 255 a b c d=true:=by simp only [Bool.and_eq_true] at h1;exact h1.1.1
   have hv:inR v 255=true:=by simp only [Bool.and_eq_true] at h1;exact h1.2
   simp +contextual -dsimp -implicitDefEqProofs (maxSteps:=5000000) only [ha,hv,A4.set,go_sem,simprocAttr]
theorem SW {x y:Int} (hx:inR x 255=true) (hy:inR y 255=true):IntKind.wrap .i64 (x+y)=x+y∧(x+y).tmod 256=(x+y) % 256:=by
 rw [AG] at hx hy
 exact ⟨AU (by omega) (by omega),Int.tmod_eq_emod_of_nonneg (by omega)⟩
theorem tR (i:Nat) (a b c d r t:Int):Aa (Lv ctx (i+4)) 135 [.agg [iV a,iV b,iV c,iV d],iV r,iV t]=some (.tup [e4 (Le ⟨a,b,c,d⟩ r t).1,iV (Le ⟨a,b,c,d⟩ r t).2]):=by
 cases h1:(Ds 255 a b c d&&inR r 3&&inR t 3)
 ·have e:Le ⟨a,b,c,d⟩ r t=(Db,600):=by simp only [Le,JW,h1];rfl
  rw [e]
  refine Ac rfl 0 (by rfl) ?_
  delta rX
  simp +contextual -dsimp -implicitDefEqProofs (maxSteps:=5000000) only [nn3,h1,Db,go_sem,simprocAttr]
 ·have e:Le ⟨a,b,c,d⟩ r t=((⟨a,b,c,d⟩:A4 Int).set r (((⟨a,b,c,d⟩:A4 Int).get r+(⟨a,b,c,d⟩:A4 Int).get t) % 256),0):=by simp only [Le,JW,h1,if_true]
  rw [e]
  have hh:=h1
  simp only [Bool.and_eq_true,Ds] at hh
  obtain ⟨⟨⟨⟨⟨ha,hb⟩,hc⟩,hd⟩,hr⟩,ht⟩:=hh
  have a4:Ds 255 a b c d=true:=by simp only [Ds,ha,hb,hc,hd,Bool.and_self]
  have hne:(256:Int)≠0:=by decide
  have key:∀ x y:Int,inR x 255=true→inR y 255=true→Bu lay .rem 3 (iV (IntKind.wrap .i64 (x+y))) (iV 256)=some (iV ((x+y) % 256)):=by
   intro x y hx hy
   rw [Jb hne,(SW hx hy).1,(SW hx hy).2]
  have k00:=key a a ha ha
  have k01:=key a b ha hb
  have k02:=key a c ha hc
  have k03:=key a d ha hd
  have k10:=key b a hb ha
  have k11:=key b b hb hb
  have k12:=key b c hb hc
  have k13:=key b d hb hd
  have k20:=key c a hc ha
  have k21:=key c b hc hb
  have k22:=key c c hc hc
  have k23:=key c d hc hd
  have k30:=key d a hd ha
  have k31:=key d b hd hb
  have k32:=key d c hd hc
  have k33:=key d d hd hd
  rcases Bc r with rfl | rfl | rfl | rfl | h'
  case inr.inr.inr.inr=>rw [hr] at h';cases h'
  all_goals
   rcases Bc t with rfl | rfl | rfl | rfl | h'
   case inr.inr.inr.inr=>rw [ht] at h';cases h'
   all_goals
    refine Ac rfl 0 (by rfl) ?_
    delta rX
    simp +contextual -dsimp -implicitDefEqProofs (maxSteps:=5000000) only [a4,A4.set,A4.get,k00,k01,k02,k03,k10,k11,k12,k13,k20,k21,k22,k23,k30,k31,k32,k33,go_sem,simprocAttr]
end Ve
namespace Ve
open Go Ve.Ab
set_option maxHeartbeats 16000000
set_option maxRecDepth 10000
theorem Er {w0 w1 w2 w3:List Ao} {l i:Int} (h:AV ⟨w0,w1,w2,w3⟩ l i=true):∃ (n:Nat) (w:Ao),i=(n:Int)∧((⟨w0,w1,w2,w3⟩:A4 (List Ao)).get l)[n]?=some w∧BW ⟨w0,w1,w2,w3⟩ l i=w∧((n:Int)<(((⟨w0,w1,w2,w3⟩:A4 (List Ao)).get l).length:Int)):=by
 simp only [AV,Bool.and_eq_true,decide_eq_true_eq] at h
 obtain ⟨⟨_,h1⟩,h2⟩:=h
 have hl:i.toNat<((⟨w0,w1,w2,w3⟩:A4 (List Ao)).get l).length:=by omega
 refine ⟨i.toNat,_,by omega,List.getElem?_eq_getElem hl,?_,by omega⟩
 simp only [BW,List.getElem?_eq_getElem hl,Option.getD_some]
theorem sw4 (a b c d:Bool):(a&&b&&c&&d)=(a&&b&&d&&c):=by cases a<;>cases b<;>cases c<;>cases d<;>rfl
theorem EQ {ws:A4 (List Ao)} {l i:Int} (h:AV ws l i=true):inR l 3=true:=by
 simp only [AV,Bool.and_eq_true] at h;exact h.1.1
theorem KH {α:Type} {p:α→Bool} {l:List α} (h:l.all p=true) {j:Nat} {x:α} (hx:l[j]?=some x):p x=true :=
 List.all_eq_true.1 h x (List.mem_of_getElem? hx)
theorem Je {α:Type} (p:α→Bool) (d:α) (l:List α) (h:∀ j,j<l.length→p (l.getD j d)=true):l.all p=true:=by
 rw [List.all_eq_true]
 intro x hx
 obtain ⟨j,hj,rfl⟩:=List.mem_iff_getElem.1 hx
 have:=h j hj
 simpa [List.getD_eq_getElem?_getD,hj] using this
theorem Jf {α:Type} (p:α→Bool) {l:List α} {j:Nat} {x:α} (hx:l[j]?=some x) (h:p x=false):l.all p=false:=by
 cases hh:l.all p with
 | false=>rfl
 | true=>rw [KH hh hx] at h;cases h
theorem Zy (i:Nat) (a b c d na nb nc nd:Bool) (w0 w1 w2 w3:List Ao) (h0:w0.length≤BB) (h1:w1.length≤BB) (h2:w2.length≤BB) (h3:w3.length≤BB) (pf nn:Bool) (xs:List AH) (hx:xs.length≤BB) (id:Int):Aa (Lv ctx (i+5)) 85 [.agg [.isl a na 3 (w0.map eW),.isl b nb 3 (w1.map eW),.isl c nc 3 (w2.map eW),.isl d nd 3 (w3.map eW)],.isl pf nn 3 (xs.map eR),iV id]=some (.tup [bV (BR ⟨w0,w1,w2,w3⟩ xs id).1,iV (BR ⟨w0,w1,w2,w3⟩ xs id).2]):=by
 have q1:=Pu (i+0) a b c d na nb nc nd w0 w1 w2 w3 h0 h1 h2 h3
 have q2:=JX (i+0) pf nn xs hx
 have q3:=Mr (i+0) pf nn xs hx a b c d na nb nc nd w0 w1 w2 w3
 simp only [Nat.add_assoc,Nat.reduceAdd] at q1 q2 q3
 cases hc:(AR ⟨w0,w1,w2,w3⟩&&AJ xs&&inR id 254&&AB ⟨w0,w1,w2,w3⟩ xs)
 ·have e:BR ⟨w0,w1,w2,w3⟩ xs id=(false,900):=by simp only [BR];rw [sw4,hc];rfl
  rw [e]
  refine Ac rfl (xs.length+1) (by rfl) ?_
  delta c85
  simp +contextual -dsimp -implicitDefEqProofs (maxSteps:=5000000) only [q1,q2,q3,nn2,hc,go_sem,simprocAttr]
 ·have hcc:=hc
  simp only [Bool.and_eq_true] at hcc
  have hwid:=Ec (c:=254) (x:=id) (by simp only [hcc]) (by omega)
  have hth:AB ⟨w0,w1,w2,w3⟩ xs=true:=by simp only [hcc]
  have e:BR ⟨w0,w1,w2,w3⟩ xs id=(xs.all (CR ⟨w0,w1,w2,w3⟩ id),0):=by simp only [BR];rw [sw4,hc];rfl
  rw [e]
  refine Ac rfl (xs.length+1) (by rfl) ?_
  delta c85
  simp +contextual -dsimp -implicitDefEqProofs (maxSteps:=5000000) only [q1,q2,q3,nn2,hc,go_sem,simprocAttr]
  refine Iw (S:=fun j=>⟨Ae [1,2,3,8] [.isl pf nn 3 (xs.map eR),iV id,.ip (a&&(b&&(c&&d))) [.isl a na 3 (w0.map eW),.isl b nb 3 (w1.map eW),.isl c nc 3 (w2.map eW),.isl d nd 3 (w3.map eW)] 0,iV j],Af,0⟩) xs.length (fun j=>CR ⟨w0,w1,w2,w3⟩ id (xs.getD j ⟨0,0,0⟩)) rfl (by omega) ?_ ?_ ?_
  ·intro j kk hj hgd hl
   have hxj:xs[j]?=some (xs.getD j ⟨0,0,0⟩):=by simp [List.getD_eq_getElem?_getD,hj]
   generalize xs.getD j ⟨0,0,0⟩=x at hxj hgd
   obtain ⟨lv,ix,vr⟩:=x
   have ht:=KH hth hxj
   simp only at ht
   have hlb:=EQ ht
   obtain ⟨n,w,rfl,hgw,hge,hln⟩:=Er ht
   have l1:((j:Int)<(xs.length:Int))=True:=by simpa using hj
   have l2:(0≤(j:Int))=True:=by simp
   have l3:=wrN j (by omega)
   have l4:(0≤(n:Int))=True:=by simp
   rcases Bc lv with rfl | rfl | rfl | rfl | h'
   ·have hn:w0[n]?=some w:=by simpa [A4.get] using hgw
    have hlt:((n:Int)<(w0.length:Int))=True:=by simpa [A4.get] using hln
    simp only [CR,hge] at hgd
    simp only [Bool.and_eq_true,Bool.or_eq_true,decide_eq_true_eq] at hgd
    obtain ⟨g1,g2⟩:=hgd
    have f1:decide (w.ver=vr)=true:=by simpa using g1
    by_cases hk:w.lock=0
    ·have f2:decide (w.lock=0)=true:=by simpa using hk
     simp +contextual -dsimp -implicitDefEqProofs (maxSteps:=5000000) only [l1,l2,l3,l4,hxj,hn,hlt,f1,f2,↓Aj (EN.eq_1),go_sem,simprocAttr]
     rw [Fm (by rfl)];exact hl
    ·have f2:decide (w.lock=0)=false:=by simpa using hk
     have f3:decide (w.lock=id+1)=true:=by simpa [hk] using g2
     simp +contextual -dsimp -implicitDefEqProofs (maxSteps:=5000000) only [l1,l2,l3,l4,hxj,hn,hlt,f1,f2,f3,hwid,↓Aj (EN.eq_1),go_sem,simprocAttr]
     rw [Fm (by rfl)];exact hl
   ·have hn:w1[n]?=some w:=by simpa [A4.get] using hgw
    have hlt:((n:Int)<(w1.length:Int))=True:=by simpa [A4.get] using hln
    simp only [CR,hge] at hgd
    simp only [Bool.and_eq_true,Bool.or_eq_true,decide_eq_true_eq] at hgd
    obtain ⟨g1,g2⟩:=hgd
    have f1:decide (w.ver=vr)=true:=by simpa using g1
    by_cases hk:w.lock=0
    ·have f2:decide (w.lock=0)=true:=by simpa using hk
     simp +contextual -dsimp -implicitDefEqProofs (maxSteps:=5000000) only [l1,l2,l3,l4,hxj,hn,hlt,f1,f2,↓Aj (EN.eq_1),go_sem,simprocAttr]
     rw [Fm (by rfl)];exact hl
    ·have f2:decide (w.lock=0)=false:=by simpa using hk
     have f3:decide (w.lock=id+1)=true:=by simpa [hk] using g2
     simp +contextual -dsimp -implicitDefEqProofs (maxSteps:=5000000) only [l1,l2,l3,l4,hxj,hn,hlt,f1,f2,f3,hwid,↓Aj (EN.eq_1),go_sem,simprocAttr]
     rw [Fm (by rfl)];exact hl
   ·have hn:w2[n]?=some w:=by simpa [A4.get] using hgw
    have hlt:((n:Int)<(w2.length:Int))=True:=by simpa [A4.get] using hln
    simp only [CR,hge] at hgd
    simp only [Bool.and_eq_true,Bool.or_eq_true,decide_eq_true_eq] at hgd
    obtain ⟨g1,g2⟩:=hgd
    have f1:decide (w.ver=vr)=true:=by simpa using g1
    by_cases hk:w.lock=0
    ·have f2:decide (w.lock=0)=true:=by simpa using hk
     simp +contextual -dsimp -implicitDefEqProofs (maxSteps:=5000000) only [l1,l2,l3,l4,hxj,hn,hlt,f1,f2,↓Aj (EN.eq_1),go_sem,simprocAttr]
     rw [Fm (by rfl)];exact hl
    ·have f2:decide (w.lock=0)=false:=by simpa using hk
     have f3:decide (w.lock=id+1)=true:=by simpa [hk] using g2
     simp +contextual -dsimp -implicitDefEqProofs (maxSteps:=5000000) only [l1,l2,l3,l4,hxj,hn,hlt,f1,f2,f3,hwid,↓Aj (EN.eq_1),go_sem,simprocAttr]
     rw [Fm (by rfl)];exact hl
   ·have hn:w3[n]?=some w:=by simpa [A4.get] using hgw
    have hlt:((n:Int)<(w3.length:Int))=True:=by simpa [A4.get] using hln
    simp only [CR,hge] at hgd
    simp only [Bool.and_eq_true,Bool.or_eq_true,decide_eq_true_eq] at hgd
    obtain ⟨g1,g2⟩:=hgd
    have f1:decide (w.ver=vr)=true:=by simpa using g1
    by_cases hk:w.lock=0
    ·have f2:decide (w.lock=0)=true:=by simpa using hk
     simp +contextual -dsimp -implicitDefEqProofs (maxSteps:=5000000) only [l1,l2,l3,l4,hxj,hn,hlt,f1,f2,↓Aj (EN.eq_1),go_sem,simprocAttr]
     rw [Fm (by rfl)];exact hl
    ·have f2:decide (w.lock=0)=false:=by simpa using hk
     have f3:decide (w.lock=id+1)=true:=by simpa [hk] using g2
     simp +contextual -dsimp -implicitDefEqProofs (maxSteps:=5000000) only [l1,l2,l3,l4,hxj,hn,hlt,f1,f2,f3,hwid,↓Aj (EN.eq_1),go_sem,simprocAttr]
     rw [Fm (by rfl)];exact hl
   ·rw [hlb] at h';cases h'
  ·intro j kk hj hgd _
   have hxj:xs[j]?=some (xs.getD j ⟨0,0,0⟩):=by simp [List.getD_eq_getElem?_getD,hj]
   generalize xs.getD j ⟨0,0,0⟩=x at hxj hgd
   obtain ⟨lv,ix,vr⟩:=x
   have ht:=KH hth hxj
   simp only at ht
   have hlb:=EQ ht
   obtain ⟨n,w,rfl,hgw,hge,hln⟩:=Er ht
   have l1:((j:Int)<(xs.length:Int))=True:=by simpa using hj
   have l2:(0≤(j:Int))=True:=by simp
   have l3:=wrN j (by omega)
   have l4:(0≤(n:Int))=True:=by simp
   have hf:(xs.all (CR ⟨w0,w1,w2,w3⟩ id))=false:=Jf _ hxj hgd
   rcases Bc lv with rfl | rfl | rfl | rfl | h'
   ·have hn:w0[n]?=some w:=by simpa [A4.get] using hgw
    have hlt:((n:Int)<(w0.length:Int))=True:=by simpa [A4.get] using hln
    simp only [CR,hge] at hgd
    by_cases f1:w.ver=vr
    ·have f1':decide (w.ver=vr)=true:=by simpa using f1
     have f2:decide (w.lock=0)=false:=by simp [f1] at hgd;simpa using hgd.1
     have f3:decide (w.lock=id+1)=false:=by simp [f1] at hgd;simpa using hgd.2
     simp +contextual -dsimp -implicitDefEqProofs (maxSteps:=5000000) only [l1,l2,l3,l4,hxj,hn,hlt,f1',f2,f3,hwid,hf,↓Aj (EN.eq_1),go_sem,simprocAttr]
    ·have f1':decide (w.ver=vr)=false:=by simpa using f1
     simp +contextual -dsimp -implicitDefEqProofs (maxSteps:=5000000) only [l1,l2,l3,l4,hxj,hn,hlt,f1',hf,↓Aj (EN.eq_1),go_sem,simprocAttr]
   ·have hn:w1[n]?=some w:=by simpa [A4.get] using hgw
    have hlt:((n:Int)<(w1.length:Int))=True:=by simpa [A4.get] using hln
    simp only [CR,hge] at hgd
    by_cases f1:w.ver=vr
    ·have f1':decide (w.ver=vr)=true:=by simpa using f1
     have f2:decide (w.lock=0)=false:=by simp [f1] at hgd;simpa using hgd.1
     have f3:decide (w.lock=id+1)=false:=by simp [f1] at hgd;simpa using hgd.2
     simp +contextual -dsimp -implicitDefEqProofs (maxSteps:=5000000) only [l1,l2,l3,l4,hxj,hn,hlt,f1',f2,f3,hwid,hf,↓Aj (EN.eq_1),go_sem,simprocAttr]
    ·have f1':decide (w.ver=vr)=false:=by simpa using f1
     simp +contextual -dsimp -implicitDefEqProofs (maxSteps:=5000000) only [l1,l2,l3,l4,hxj,hn,hlt,f1',hf,↓Aj (EN.eq_1),go_sem,simprocAttr]
   ·have hn:w2[n]?=some w:=by simpa [A4.get] using hgw
    have hlt:((n:Int)<(w2.length:Int))=True:=by simpa [A4.get] using hln
    simp only [CR,hge] at hgd
    by_cases f1:w.ver=vr
    ·have f1':decide (w.ver=vr)=true:=by simpa using f1
     have f2:decide (w.lock=0)=false:=by simp [f1] at hgd;simpa using hgd.1
     have f3:decide (w.lock=id+1)=false:=by simp [f1] at hgd;simpa using hgd.2
     simp +contextual -dsimp -implicitDefEqProofs (maxSteps:=5000000) only [l1,l2,l3,l4,hxj,hn,hlt,f1',f2,f3,hwid,hf,↓Aj (EN.eq_1),go_sem,simprocAttr]
    ·have f1':decide (w.ver=vr)=false:=by simpa using f1
     simp +contextual -dsimp -implicitDefEqProofs (maxSteps:=5000000) only [l1,l2,l3,l4,hxj,hn,hlt,f1',hf,↓Aj (EN.eq_1),go_sem,simprocAttr]
   ·have hn:w3[n]?=some w:=by simpa [A4.get] using hgw
    have hlt:((n:Int)<(w3.length:Int))=True:=by simpa [A4.get] using hln
    simp only [CR,hge] at hgd
    by_cases f1:w.ver=vr
    ·have f1':decide (w.ver=vr)=true:=by simpa using f1
     have f2:decide (w.lock=0)=false:=by simp [f1] at hgd;simpa using hgd.1
     have f3:decide (w.lock=id+1)=false:=by simp [f1] at hgd;simpa using hgd.2
     simp +contextual -dsimp -implicitDefEqProofs (maxSteps:=5000000) only [l1,l2,l3,l4,hxj,hn,hlt,f1',f2,f3,hwid,hf,↓Aj (EN.eq_1),go_sem,simprocAttr]
    ·have f1':decide (w.ver=vr)=false:=by simpa using f1
     simp +contextual -dsimp -implicitDefEqProofs (maxSteps:=5000000) only [l1,l2,l3,l4,hxj,hn,hlt,f1',hf,↓Aj (EN.eq_1),go_sem,simprocAttr]
   ·rw [hlb] at h';cases h'
  ·intro kk hall
   have l0:decide ((xs.length:Int)<(xs.length:Int))=false:=by simp
   have hf:(xs.all (CR ⟨w0,w1,w2,w3⟩ id))=true:=Je _ ⟨0,0,0⟩ _ hall
   simp +contextual -dsimp -implicitDefEqProofs (maxSteps:=5000000) only [l0,hf,↓Aj (EN.eq_1),go_sem,simprocAttr]
theorem Ta {α:Type} (p:α→Bool) {l:List α} {j:Nat} {x:α} (hx:l[j]?=some x) (h:p x=true):l.any p=true :=
 List.any_eq_true.2 ⟨x,List.mem_of_getElem? hx,h⟩
theorem OW {α:Type} (p:α→Bool) (d:α) (l:List α) (h:∀ j,j<l.length→p (l.getD j d)=false):l.any p=false:=by
 rw [List.any_eq_false]
 intro x hx
 obtain ⟨j,hj,rfl⟩:=List.mem_iff_getElem.1 hx
 have:=h j hj
 simpa [List.getD_eq_getElem?_getD,hj] using this
theorem XF (i:Nat) (a b c d na nb nc nd:Bool) (w0 w1 w2 w3:List Ao) (h0:w0.length≤BB) (h1:w1.length≤BB) (h2:w2.length≤BB) (h3:w3.length≤BB) (pf nn:Bool) (xs:List AH) (hx:xs.length≤BB):Aa (Lv ctx (i+5)) 88 [.agg [.isl a na 3 (w0.map eW),.isl b nb 3 (w1.map eW),.isl c nc 3 (w2.map eW),.isl d nd 3 (w3.map eW)],.isl pf nn 3 (xs.map eR)]=some (.tup [bV (BC ⟨w0,w1,w2,w3⟩ xs).1,iV (BC ⟨w0,w1,w2,w3⟩ xs).2]):=by
 have q1:=Pu (i+0) a b c d na nb nc nd w0 w1 w2 w3 h0 h1 h2 h3
 have q2:=JX (i+0) pf nn xs hx
 have q3:=Mr (i+0) pf nn xs hx a b c d na nb nc nd w0 w1 w2 w3
 simp only [Nat.add_assoc,Nat.reduceAdd] at q1 q2 q3
 cases hc:(AR ⟨w0,w1,w2,w3⟩&&AJ xs&&AB ⟨w0,w1,w2,w3⟩ xs)
 ·have e:BC ⟨w0,w1,w2,w3⟩ xs=(false,900):=by simp only [BC];rw [hc];rfl
  rw [e]
  refine Ac rfl (xs.length+1) (by rfl) ?_
  delta c88
  simp +contextual -dsimp -implicitDefEqProofs (maxSteps:=5000000) only [q1,q2,q3,nn2,hc,go_sem,simprocAttr]
 ·have hcc:=hc
  simp only [Bool.and_eq_true] at hcc
  have hth:AB ⟨w0,w1,w2,w3⟩ xs=true:=by simp only [hcc]
  have e:BC ⟨w0,w1,w2,w3⟩ xs=(xs.any (FD ⟨w0,w1,w2,w3⟩),0):=by simp only [BC];rw [hc];rfl
  rw [e]
  refine Ac rfl (xs.length+1) (by rfl) ?_
  delta c88
  simp +contextual -dsimp -implicitDefEqProofs (maxSteps:=5000000) only [q1,q2,q3,nn2,hc,go_sem,simprocAttr]
  refine Iw (S:=fun j=>⟨Ae [1,2,6] [.isl pf nn 3 (xs.map eR),.ip (a&&(b&&(c&&d))) [.isl a na 3 (w0.map eW),.isl b nb 3 (w1.map eW),.isl c nc 3 (w2.map eW),.isl d nd 3 (w3.map eW)] 0,iV j],Af,0⟩) xs.length (fun j=>!(FD ⟨w0,w1,w2,w3⟩ (xs.getD j ⟨0,0,0⟩))) rfl (by omega) ?_ ?_ ?_
  ·intro j kk hj hgd hl
   have hxj:xs[j]?=some (xs.getD j ⟨0,0,0⟩):=by simp [List.getD_eq_getElem?_getD,hj]
   generalize xs.getD j ⟨0,0,0⟩=x at hxj hgd
   obtain ⟨lv,ix,vr⟩:=x
   have ht:=KH hth hxj
   simp only at ht
   have hlb:=EQ ht
   obtain ⟨n,w,rfl,hgw,hge,hln⟩:=Er ht
   have l1:((j:Int)<(xs.length:Int))=True:=by simpa using hj
   have l2:(0≤(j:Int))=True:=by simp
   have l3:=wrN j (by omega)
   have l4:(0≤(n:Int))=True:=by simp
   rcases Bc lv with rfl | rfl | rfl | rfl | h'
   ·have hn:w0[n]?=some w:=by simpa [A4.get] using hgw
    have hlt:((n:Int)<(w0.length:Int))=True:=by simpa [A4.get] using hln
    have f1:decide (w.ver=vr)=true:=by simp only [FD,hge] at hgd;simpa using hgd
    simp +contextual -dsimp -implicitDefEqProofs (maxSteps:=5000000) only [l1,l2,l3,l4,hxj,hn,hlt,f1,↓Aj (Js.eq_1),go_sem,simprocAttr]
    exact hl
   ·have hn:w1[n]?=some w:=by simpa [A4.get] using hgw
    have hlt:((n:Int)<(w1.length:Int))=True:=by simpa [A4.get] using hln
    have f1:decide (w.ver=vr)=true:=by simp only [FD,hge] at hgd;simpa using hgd
    simp +contextual -dsimp -implicitDefEqProofs (maxSteps:=5000000) only [l1,l2,l3,l4,hxj,hn,hlt,f1,↓Aj (Js.eq_1),go_sem,simprocAttr]
    exact hl
   ·have hn:w2[n]?=some w:=by simpa [A4.get] using hgw
    have hlt:((n:Int)<(w2.length:Int))=True:=by simpa [A4.get] using hln
    have f1:decide (w.ver=vr)=true:=by simp only [FD,hge] at hgd;simpa using hgd
    simp +contextual -dsimp -implicitDefEqProofs (maxSteps:=5000000) only [l1,l2,l3,l4,hxj,hn,hlt,f1,↓Aj (Js.eq_1),go_sem,simprocAttr]
    exact hl
   ·have hn:w3[n]?=some w:=by simpa [A4.get] using hgw
    have hlt:((n:Int)<(w3.length:Int))=True:=by simpa [A4.get] using hln
    have f1:decide (w.ver=vr)=true:=by simp only [FD,hge] at hgd;simpa using hgd
    simp +contextual -dsimp -implicitDefEqProofs (maxSteps:=5000000) only [l1,l2,l3,l4,hxj,hn,hlt,f1,↓Aj (Js.eq_1),go_sem,simprocAttr]
    exact hl
   ·rw [hlb] at h';cases h'
  ·intro j kk hj hgd _
   have hxj:xs[j]?=some (xs.getD j ⟨0,0,0⟩):=by simp [List.getD_eq_getElem?_getD,hj]
   generalize xs.getD j ⟨0,0,0⟩=x at hxj hgd
   obtain ⟨lv,ix,vr⟩:=x
   have ht:=KH hth hxj
   simp only at ht
   have hlb:=EQ ht
   obtain ⟨n,w,rfl,hgw,hge,hln⟩:=Er ht
   have l1:((j:Int)<(xs.length:Int))=True:=by simpa using hj
   have l2:(0≤(j:Int))=True:=by simp
   have l3:=wrN j (by omega)
   have l4:(0≤(n:Int))=True:=by simp
   have hf:(xs.any (FD ⟨w0,w1,w2,w3⟩))=true:=Ta _ hxj (by simpa using hgd)
   rcases Bc lv with rfl | rfl | rfl | rfl | h'
   ·have hn:w0[n]?=some w:=by simpa [A4.get] using hgw
    have hlt:((n:Int)<(w0.length:Int))=True:=by simpa [A4.get] using hln
    have f1:decide (w.ver=vr)=false:=by simp only [FD,hge] at hgd;simpa using hgd
    simp +contextual -dsimp -implicitDefEqProofs (maxSteps:=5000000) only [l1,l2,l3,l4,hxj,hn,hlt,f1,hf,↓Aj (Js.eq_1),go_sem,simprocAttr]
   ·have hn:w1[n]?=some w:=by simpa [A4.get] using hgw
    have hlt:((n:Int)<(w1.length:Int))=True:=by simpa [A4.get] using hln
    have f1:decide (w.ver=vr)=false:=by simp only [FD,hge] at hgd;simpa using hgd
    simp +contextual -dsimp -implicitDefEqProofs (maxSteps:=5000000) only [l1,l2,l3,l4,hxj,hn,hlt,f1,hf,↓Aj (Js.eq_1),go_sem,simprocAttr]
   ·have hn:w2[n]?=some w:=by simpa [A4.get] using hgw
    have hlt:((n:Int)<(w2.length:Int))=True:=by simpa [A4.get] using hln
    have f1:decide (w.ver=vr)=false:=by simp only [FD,hge] at hgd;simpa using hgd
    simp +contextual -dsimp -implicitDefEqProofs (maxSteps:=5000000) only [l1,l2,l3,l4,hxj,hn,hlt,f1,hf,↓Aj (Js.eq_1),go_sem,simprocAttr]
   ·have hn:w3[n]?=some w:=by simpa [A4.get] using hgw
    have hlt:((n:Int)<(w3.length:Int))=True:=by simpa [A4.get] using hln
    have f1:decide (w.ver=vr)=false:=by simp only [FD,hge] at hgd;simpa using hgd
    simp +contextual -dsimp -implicitDefEqProofs (maxSteps:=5000000) only [l1,l2,l3,l4,hxj,hn,hlt,f1,hf,↓Aj (Js.eq_1),go_sem,simprocAttr]
   ·rw [hlb] at h';cases h'
  ·intro kk hall
   have l0:decide ((xs.length:Int)<(xs.length:Int))=false:=by simp
   have hf:(xs.any (FD ⟨w0,w1,w2,w3⟩))=false:=OW _ ⟨0,0,0⟩ _ (fun j hj=>by simpa using hall j hj)
   simp +contextual -dsimp -implicitDefEqProofs (maxSteps:=5000000) only [l0,hf,↓Aj (Js.eq_1),go_sem,simprocAttr]
end Ve
namespace Ve
open Go Ve.Ab
set_option maxHeartbeats 16000000
set_option maxRecDepth 10000
def PP (l x:Int) (w:Ai):Bool:=decide (w.level=l)&&decide (w.index=x)
theorem OC (l x:Int):∀ (ws:List Ai) (j:Nat) (w:Ai),ws[j]?=some w→PP l x w=true→(∀ i,i<j→PP l x (ws.getD i ⟨0,0,0⟩)=false)→BH l x ws=(w.val,true)
 | [],j,w,h,_,_=>by simp at h
 | a::r,0,w,h,hh,_=>by
  simp only [List.getElem?_cons_zero,Option.some.injEq] at h
  subst h
  simp only [PP,Bool.and_eq_true,decide_eq_true_eq] at hh
  simp only [BH];exact if_pos hh
 | a::r,j+1,w,h,hh,hg=>by
  have h0:=hg 0 (by omega)
  simp only [List.getD_cons_zero,PP,Bool.and_eq_false_iff,decide_eq_false_iff_not] at h0
  simp only [BH]
  rw [if_neg (by rintro ⟨h1,h2⟩;rcases h0 with h0 | h0;exact h0 h1;exact h0 h2)]
  exact OC l x r j w (by simpa using h) hh (fun i hi=>by have:=hg (i+1) (by omega);simpa using this)
theorem OB (l x:Int):∀ (ws:List Ai),(∀ i,i<ws.length→PP l x (ws.getD i ⟨0,0,0⟩)=false)→BH l x ws=(0,false)
 | [],_=>rfl
 | a::r,hg=>by
  have h0:=hg 0 (by simp)
  simp only [List.getD_cons_zero,PP,Bool.and_eq_false_iff,decide_eq_false_iff_not] at h0
  simp only [BH]
  rw [if_neg (by rintro ⟨h1,h2⟩;rcases h0 with h0 | h0;exact h0 h1;exact h0 h2)]
  exact OB l x r (fun i hi=>by have:=hg (i+1) (by simp;omega);simpa using this)
theorem oQ (i:Nat) (pf nn:Bool) (xs:List Ai) (hx:xs.length≤BB) (l x:Int):Aa (Lv ctx (i+5)) 131 [.isl pf nn 3 (xs.map eWr),iV l,iV x]=some (.tup [iV (AY xs l x).1,bV (AY xs l x).2]):=by
 have q1:=Il (i+0) pf nn xs hx
 simp only [Nat.add_assoc,Nat.reduceAdd] at q1
 cases hm:AP xs
 ·have e:AY xs l x=(0,false):=by simp only [AY,hm];rfl
  rw [e]
  rw [hm] at q1
  refine Ac rfl (xs.length+1) (by rfl) ?_
  delta rZ
  simp +contextual -dsimp -implicitDefEqProofs (maxSteps:=5000000) only [q1,gLs,Bool.and_false,↓Aj (Nr.eq_1),go_sem,simprocAttr]
 ·have e:AY xs l x=BH l x xs:=by simp only [AY,hm,if_true]
  rw [e]
  rw [hm] at q1
  refine Ac rfl (xs.length+1) (by rfl) ?_
  delta rZ
  simp +contextual -dsimp -implicitDefEqProofs (maxSteps:=5000000) only [q1,go_sem,simprocAttr]
  refine Iw (S:=fun j=>⟨Ae [0,1,2,8] [.isl pf nn 3 (xs.map eWr),iV l,iV x,iV j],Af,0⟩) xs.length (fun j=>!PP l x (xs.getD j ⟨0,0,0⟩)) rfl (by omega) ?_ ?_ ?_
  ·intro j kk hj hgd hl
   have hxj:xs[j]?=some (xs.getD j ⟨0,0,0⟩):=by simp [List.getD_eq_getElem?_getD,hj]
   generalize xs.getD j ⟨0,0,0⟩=a at hxj hgd
   have l1:((j:Int)<(xs.length:Int))=True:=by simpa using hj
   have l2:(0≤(j:Int))=True:=by simp
   have l3:=wrN j (by omega)
   have f0:PP l x a=false:=by simpa using hgd
   have f1:(decide (a.level=l)&&decide (a.index=x))=false:=f0
   simp +contextual -dsimp -implicitDefEqProofs (maxSteps:=5000000) only [q1,l1,l2,l3,hxj,f1,↓Aj (Nr.eq_1),go_sem,simprocAttr]
   exact hl
  ·intro j kk hj hgd hbef
   have hxj:xs[j]?=some (xs.getD j ⟨0,0,0⟩):=by simp [List.getD_eq_getElem?_getD,hj]
   have hf:PP l x (xs.getD j ⟨0,0,0⟩)=true:=by simpa using hgd
   have hfin:=OC l x xs j _ hxj hf (fun i hi=>by simpa using hbef i hi)
   generalize xs.getD j ⟨0,0,0⟩=a at hxj hgd hf hfin
   have l1:((j:Int)<(xs.length:Int))=True:=by simpa using hj
   have l2:(0≤(j:Int))=True:=by simp
   have f1:(decide (a.level=l)&&decide (a.index=x))=true:=hf
   simp +contextual -dsimp -implicitDefEqProofs (maxSteps:=5000000) only [q1,l1,l2,hxj,f1,hfin,↓Aj (Nr.eq_1),go_sem,simprocAttr]
  ·intro kk hall
   have l0:decide ((xs.length:Int)<(xs.length:Int))=false:=by simp
   have hfin:=OB l x xs (fun i hi=>by simpa using hall i hi)
   simp +contextual -dsimp -implicitDefEqProofs (maxSteps:=5000000) only [q1,l0,hfin,Bool.false_and,↓Aj (Nr.eq_1),go_sem,simprocAttr]
theorem TC (i:Nat) (pf nn:Bool) (xs:List Ai) (hx:xs.length≤BB) (l:Int):Aa (Lv ctx (i+5)) 80 [.isl pf nn 3 (xs.map eWr),iV l]=some (bV (Dt xs l)):=by
 have q1:=Il (i+0) pf nn xs hx
 simp only [Nat.add_assoc,Nat.reduceAdd] at q1
 refine Ac rfl (xs.length+1) (by rfl) ?_
 delta c80
 simp +contextual -dsimp -implicitDefEqProofs (maxSteps:=5000000) only [go_sem,simprocAttr]
 refine Iw (S:=fun j=>⟨Ae [0,1,5] [.isl pf nn 3 (xs.map eWr),iV l,iV j],Af,0⟩) xs.length (fun j=>decide ((xs.getD j ⟨0,0,0⟩).level=l)) rfl (by omega) ?_ ?_ ?_
 ·intro j kk hj hgd hl
  have hxj:xs[j]?=some (xs.getD j ⟨0,0,0⟩):=by simp [List.getD_eq_getElem?_getD,hj]
  generalize xs.getD j ⟨0,0,0⟩=a at hxj hgd
  have l1:((j:Int)<(xs.length:Int))=True:=by simpa using hj
  have l2:(0≤(j:Int))=True:=by simp
  have l3:=wrN j (by omega)
  simp +contextual -dsimp -implicitDefEqProofs (maxSteps:=5000000) only [l1,l2,l3,hxj,hgd,↓Aj (WS.eq_1),go_sem,simprocAttr]
  exact hl
 ·intro j kk hj hgd _
  have hxj:xs[j]?=some (xs.getD j ⟨0,0,0⟩):=by simp [List.getD_eq_getElem?_getD,hj]
  generalize xs.getD j ⟨0,0,0⟩=a at hxj hgd
  have l1:((j:Int)<(xs.length:Int))=True:=by simpa using hj
  have l2:(0≤(j:Int))=True:=by simp
  have hf:Dt xs l=false:=by simp only [Dt,Jf (fun w=>decide (w.level=l)) hxj hgd,Bool.and_false]
  simp +contextual -dsimp -implicitDefEqProofs (maxSteps:=5000000) only [l1,l2,hxj,hgd,hf,↓Aj (WS.eq_1),go_sem,simprocAttr]
 ·intro kk hall
  have l0:decide ((xs.length:Int)<(xs.length:Int))=false:=by simp
  have hf:Dt xs l=AP xs:=by simp only [Dt,Je (fun w:Ai=>decide (w.level=l)) ⟨0,0,0⟩ _ hall,Bool.and_true]
  simp +contextual -dsimp -implicitDefEqProofs (maxSteps:=5000000) only [l0,q1,hf,↓Aj (WS.eq_1),go_sem,simprocAttr]
theorem NS (r:AH):AJ [r]=Cn r:=by simp [AJ,BM]
theorem Ma (w:Ai):AP [w]=Ay w:=by simp [AP,AT]
theorem TD (i:Nat) (pf nn:Bool) (xs:List AH) (hx:(xs.length:Int)*24≤140737488355328) (a b c:Int):Aa (Lv ctx (i+5)) 132 [.isl pf nn 3 (xs.map eR),.agg [iV a,iV b,iV c]]=some (.tup [oRs (AX xs ⟨a,b,c⟩).1,iV (AX xs ⟨a,b,c⟩).2]):=by
 have hb:xs.length≤BB:=by simp only [BB];omega
 have q1:=JX (i+0) pf nn xs hb
 have q2:=JX (i+0) false false [⟨a,b,c⟩] (by simp [BB])
 rw [NS] at q2
 simp only [Nat.add_assoc,Nat.reduceAdd,List.map_cons,List.map_nil,eR] at q1 q2
 have b1:((xs.length:Int)*24≤140737488355328)=True:=by simpa using hx
 cases h1:AJ xs
 ·have e:AX xs ⟨a,b,c⟩=([],900):=by simp only [AX,h1];rfl
  rw [e]
  rw [h1] at q1
  refine Ac rfl (xs.length+1) (by rfl) ?_
  delta kZ
  simp +contextual -dsimp -implicitDefEqProofs (maxSteps:=5000000) only [q1,List.map_nil,go_sem,simprocAttr]
  rfl
 ·rw [h1] at q1
  cases h2:Cn ⟨a,b,c⟩
  ·have e:AX xs ⟨a,b,c⟩=([],900):=by simp only [AX,h1,h2];rfl
   rw [e]
   rw [h2] at q2
   refine Ac rfl (xs.length+1) (by rfl) ?_
   delta kZ
   simp +contextual -dsimp -implicitDefEqProofs (maxSteps:=5000000) only [q1,q2,List.replicate,List.map_nil,go_sem,simprocAttr]
   rfl
  ·rw [h2] at q2
   have e:AX xs ⟨a,b,c⟩=if xs.any (BY ⟨a,b,c⟩)=true then (xs,0) else if xs.length=16 then ([],900) else (xs++[⟨a,b,c⟩],0):=by simp only [AX,h1,h2,Bool.and_self,if_true]
   have h16:xs.length≤16:=by simp only [AJ,Bool.and_eq_true,decide_eq_true_eq] at h1;exact h1.2
   rw [e]
   refine Ac rfl (xs.length+1) (by rfl) ?_
   delta kZ
   simp +contextual -dsimp -implicitDefEqProofs (maxSteps:=5000000) only [q1,q2,b1,List.replicate,List.map_nil,go_sem,simprocAttr]
   cases pf
   all_goals
    refine Iw (S:=fun j=>⟨Ae [0,3,6,7] [.isl _ nn 3 (xs.map eR),.ip true [iV a,iV b,iV c] 0,.sl 2,iV j],pO (pO (pO Af 0 (some ⟨3,[.agg [iV a,iV b,iV c]],false⟩)) 1 none) 2 (some ⟨3,xs.map eR,_⟩),3⟩) xs.length (fun j=>!BY ⟨a,b,c⟩ (xs.getD j ⟨0,0,0⟩)) rfl (by omega) ?_ ?_ ?_
    ·intro j kk hj hgd hl
     have hxj:xs[j]?=some (xs.getD j ⟨0,0,0⟩):=by simp [List.getD_eq_getElem?_getD,hj]
     generalize xs.getD j ⟨0,0,0⟩=x at hxj hgd
     have l1:((j:Int)<(xs.length:Int))=True:=by simpa using hj
     have l2:(0≤(j:Int))=True:=by simp
     have l3:=wrN j (by omega)
     have f0:BY ⟨a,b,c⟩ x=false:=by simpa using hgd
     have f1:(decide (x.level=a)&&decide (x.index=b))=false:=f0
     cases c1:decide (x.level=a)
     ·simp +contextual -dsimp -implicitDefEqProofs (maxSteps:=5000000) only [l1,l2,l3,hxj,c1,↓Aj (Lb.eq_1),go_sem,simprocAttr]
      exact hl
     ·have c2:decide (x.index=b)=false:=by rw [c1,Bool.true_and] at f1;exact f1
      simp +contextual -dsimp -implicitDefEqProofs (maxSteps:=5000000) only [l1,l2,l3,hxj,c1,c2,↓Aj (Lb.eq_1),go_sem,simprocAttr]
      exact hl
    ·intro j kk hj hgd _
     have hxj:xs[j]?=some (xs.getD j ⟨0,0,0⟩):=by simp [List.getD_eq_getElem?_getD,hj]
     generalize xs.getD j ⟨0,0,0⟩=x at hxj hgd
     have l1:((j:Int)<(xs.length:Int))=True:=by simpa using hj
     have l2:(0≤(j:Int))=True:=by simp
     have f0:BY ⟨a,b,c⟩ x=true:=by simpa using hgd
     have f1:(decide (x.level=a)&&decide (x.index=b))=true:=f0
     have hf:xs.any (BY ⟨a,b,c⟩)=true:=Ta _ hxj f0
     rw [if_pos hf]
     obtain ⟨c1,c2⟩:=(Bool.and_eq_true _ _).mp f1
     simp +contextual -dsimp -implicitDefEqProofs (maxSteps:=5000000) only [l1,l2,hxj,c1,c2,↓Aj (Lb.eq_1),go_sem,simprocAttr]
    ·intro kk hall
     have l0:decide ((xs.length:Int)<(xs.length:Int))=false:=by simp
     have hf:xs.any (BY ⟨a,b,c⟩)=false:=OW _ ⟨0,0,0⟩ _ (fun j hj=>by simpa using hall j hj)
     have b2:(((xs.length+1:Nat):Int)*24≤140737488355328)=True:=by simp;omega
     rw [if_neg (by rw [hf];decide)]
     by_cases hl:xs.length=16
     ·rw [if_pos hl]
      have l6:decide ((16:Int)<((xs.length+1:Nat):Int))=true:=by simp;omega
      simp +contextual -dsimp -implicitDefEqProofs (maxSteps:=5000000) only [l0,b2,l6,List.replicate,↓Aj (Lb.eq_1),go_sem,simprocAttr]
      simp only [oRs,List.map_append,List.map_cons,List.map_nil,eR]
     ·rw [if_neg hl]
      have l6:decide ((16:Int)<((xs.length+1:Nat):Int))=false:=by simp;omega
      simp +contextual -dsimp -implicitDefEqProofs (maxSteps:=5000000) only [l0,b2,l6,List.replicate,↓Aj (Lb.eq_1),go_sem,simprocAttr]
      simp only [oRs,List.map_append,List.map_cons,List.map_nil,eR]
end Ve
namespace Ve
open Go Ve.Ab
set_option maxHeartbeats 16000000
set_option maxRecDepth 10000
theorem fE (i:Nat) (pf nn:Bool) (xs:List Ai) (hm:AP xs=true) (l x v:Int) (hw:Ay ⟨l,x,v⟩=true):Aa (Lv ctx (i+7)) 171 [.isl pf nn 3 (xs.map eWr),.agg [iV l,iV x,iV v]]=some (.tup [Fy (CQ ⟨l,x,v⟩ xs),iV 0]):=by
 obtain ⟨h1,h2,h16⟩:=Ce hm
 have hl:inR l 3=true:=by simp only [Ay,Bool.and_eq_true] at hw;exact hw.1.1
 have hx:inR x 3=true:=by simp only [Ay,Bool.and_eq_true] at hw;exact hw.1.2
 have q1:=If (i+3) pf nn xs (by simp only [BB];omega)
 have q2:=If (i+3) false false [⟨l,x,v⟩] (by simp [BB])
 have q3:=tG (i+(6 - 3)) pf nn xs hm l x v hl hx
 rw [hm] at q1
 rw [Ma,hw] at q2
 simp only [Nat.add_assoc,Nat.reduceAdd,Nat.reduceSub,List.map_cons,List.map_nil,eWr] at q1 q2 q3
 have b1:((xs.length:Int)*24≤140737488355328)=True:=by simp only [eq_iff_iff,iff_true];omega
 have hple:=Pw (AA l x) xs
 cases hh:PQ (AA l x) xs
 ·have hmiss:∀ w,xs[Ck (AA l x) xs]?=some w→plW w≠AA l x:=by
   intro w h e
   unfold PQ at hh
   rw [h] at hh
   simp only [decide_eq_false_iff_not] at hh
   exact hh e
  have hlen:¬ xs.length=16:=by
   intro h
   obtain ⟨y,hy,hpy⟩:=cD hm h hw
   obtain ⟨w,hw1,hw2⟩:=UP h2 ⟨y,hy,hpy⟩
   exact hmiss w hw1 hw2
  have hins:CQ ⟨l,x,v⟩ xs=xs.take (Ck (AA l x) xs)++[⟨l,x,v⟩]++xs.drop (Ck (AA l x) xs):=bS (w:=⟨l,x,v⟩) hmiss
  rw [hins]
  rw [hh] at q3
  generalize Ck (AA l x) xs=a at q3 hple ⊢
  have z:decide ((xs.length:Int)=16)=false:=by simp;omega
  have p1:(0≤(a:Int))=True:=by simp
  have p2:(a≤xs.length)=True:=by simpa using hple
  have b2:(((xs.length+1:Nat):Int)*24≤140737488355328)=True:=by simp only [eq_iff_iff,iff_true];omega
  simp only [Fy,List.map_append,List.map_take,List.map_drop,List.map_cons,List.map_nil,eWr]
  refine Ac rfl 0 (by rfl) ?_
  delta rU
  cases pf<;>simp +contextual -dsimp -implicitDefEqProofs (maxSteps:=5000000) only [q1,q2,q3,b1,b2,z,p1,p2,Int.toNat_natCast,List.replicate,List.length_map,go_sem,simprocAttr]
 ·have hhit:∃ w,xs[Ck (AA l x) xs]?=some w∧plW w=AA l x:=by
   unfold PQ at hh
   cases h:xs[Ck (AA l x) xs]? with
   | none=>rw [h] at hh;cases hh
   | some w=>rw [h] at hh;exact ⟨w,rfl,by simpa using hh⟩
  obtain ⟨w,hg,hpw⟩:=hhit
  have hins:CQ ⟨l,x,v⟩ xs=xs.set (Ck (AA l x) xs) ⟨l,x,v⟩:=jU (w:=⟨l,x,v⟩) hg hpw
  rw [hins]
  rw [hh] at q3
  have hlt:=Au hg
  generalize Ck (AA l x) xs=a at q3 hlt hg ⊢
  have p1:(0≤(a:Int))=True:=by simp
  have p2:((a:Int)<(xs.length:Int))=True:=by simpa using hlt
  have e9:(xs.map eWr).set a (.agg [iV l,iV x,iV v])=(xs.set a ⟨l,x,v⟩).map eWr:=by rw [List.map_set];rfl
  have e8:(xs.set a ⟨l,x,v⟩).length=xs.length:=List.length_set ..
  refine Ac rfl 0 (by rfl) ?_
  delta rU
  cases pf<;>simp +contextual -dsimp -implicitDefEqProofs (maxSteps:=5000000) only [q1,q2,q3,b1,p1,p2,hg,e9,e8,Int.toNat_natCast,List.replicate,List.length_map,go_sem,simprocAttr]
end Ve
namespace Ve
open Go Ve.Ab
set_option maxHeartbeats 16000000
set_option maxRecDepth 10000
theorem RB (i:Nat) (pf nn:Bool) (xs:List Ai) (hx:(xs.length:Int)*24≤140737488355328) (a b c:Int):Aa (Lv ctx (i+5)) 133 [.isl pf nn 3 (xs.map eWr),.agg [iV a,iV b,iV c]]=some (.tup [Fy (BD xs ⟨a,b,c⟩).1,iV (BD xs ⟨a,b,c⟩).2]):=by
 have hb:xs.length≤BB:=by simp only [BB];omega
 have q1:=Il (i+0) pf nn xs hb
 have q2:=Il (i+0) false false [⟨a,b,c⟩] (by simp [BB])
 rw [Ma] at q2
 simp only [Nat.add_assoc,Nat.reduceAdd,List.map_cons,List.map_nil,eWr] at q1 q2
 cases h1:AP xs
 ·have e:BD xs ⟨a,b,c⟩=([],1000):=by simp only [BD,h1];rfl
  rw [e]
  rw [h1] at q1
  refine Ac rfl (xs.length+1) (by rfl) ?_
  delta dE
  simp +contextual -dsimp -implicitDefEqProofs (maxSteps:=5000000) only [q1,List.map_nil,go_sem,simprocAttr]
  rfl
 ·rw [h1] at q1
  cases h2:Ay ⟨a,b,c⟩
  ·have e:BD xs ⟨a,b,c⟩=([],1000):=by simp only [BD,h1,h2];rfl
   rw [e]
   rw [h2] at q2
   refine Ac rfl (xs.length+1) (by rfl) ?_
   delta dE
   simp +contextual -dsimp -implicitDefEqProofs (maxSteps:=5000000) only [q1,q2,List.replicate,List.map_nil,go_sem,simprocAttr]
   rfl
  ·rw [h2] at q2
   have e:BD xs ⟨a,b,c⟩=(CQ ⟨a,b,c⟩ xs,0):=by simp only [BD,h1,h2,Bool.and_self,if_true]
   obtain ⟨hw1,hso,h16⟩:=Ce h1
   have hpw:=In ⟨a,b,c⟩ h2
   have hpos:plW ⟨a,b,c⟩=4*a+b:=rfl
   rw [e]
   by_cases hne:xs.length=0
   ·obtain rfl:xs=[]:=List.eq_nil_of_length_eq_zero hne
    simp only [List.map_nil] at q1
    refine Ac rfl 1 (by rfl) ?_
    delta dE
    have k1:((1:Int)*24≤140737488355328)=True:=by simp
    simp +contextual -dsimp -implicitDefEqProofs (maxSteps:=5000000) only [q1,q2,gLs,List.replicate,List.map_nil,k1,↓Aj (FF.eq_1),go_sem,simprocAttr]
    rfl
   ·have hz:0<xs.length:=by omega
    have hS:∀ j,∃ s:St,s=⟨Ae [0,3,6,7,8] [.isl pf nn 3 (xs.map eWr),.ip true [iV a,iV b,iV c] 0,.sl 1,bV ((xs.take j).any (geW ⟨a,b,c⟩)),iV j],pO (pO Af 0 (some ⟨3,[.agg [iV a,iV b,iV c]],false⟩)) 1 (some ⟨3,(Gb ⟨a,b,c⟩ (xs.take j)).map eWr,false⟩),2⟩:=fun j=>⟨_,rfl⟩
    clear hS
    have tk:∀ j x,xs[j]?=some x→xs.take (j+1)=xs.take j++[x]:=by
     intro j x hxj
     rw [List.take_succ,hxj];rfl
    have bb:∀ n:Nat,n≤40→(((n:Nat):Int)*24≤140737488355328)=True:=by intro n hn;simp;omega
    have tl:∀ j,(xs.take j).length≤16:=fun j=>by rw [List.length_take];omega
    have ol:∀ j,(Gb ⟨a,b,c⟩ (xs.take j)).length≤17:=fun j=>Nat.le_trans (iA _ _) (by have:=tl j;omega)
    have z0:((0:Int)<(xs.length:Int))=True:=by simp;omega
    obtain ⟨x0,hx0⟩:∃ x0,xs[0]?=some x0:=⟨xs[0],by simp [hz]⟩
    have hm0:=hw1 x0 (List.mem_of_getElem? hx0)
    have hp0:=In x0 hm0
    have g0:plW x0=4*x0.level+x0.index:=rfl
    have t1:=tk 0 x0 hx0
    simp only [List.take_zero,List.nil_append,Nat.zero_add] at t1
    have n0:([]:List Ai).any (geW ⟨a,b,c⟩)=false:=rfl
    refine Ac rfl (xs.length+1) (by rfl) ?_
    delta dE
    simp +contextual -dsimp -implicitDefEqProofs (maxSteps:=5000000) only [q1,q2,List.replicate,go_sem,simprocAttr]
    rw [gLs]
    have rest:∀ {f:St→(Out→St→Option Ans)→Option Ans} {q:Out→St→Option Ans} {u:Dum f} {w:Dum q},True:=trivial
    clear rest
    suffices hgo:GL 1 [0,3,6,7,8] (fun s q=>evC ctx (Lv ctx (i+4)) (Aa (Lv ctx (i+4))) (xs.length+1) FF s (Aq [0,3,6,7,8] q)) _ xs.length ⟨Ae [0,3,6,7,8] [.isl pf nn 3 (xs.map eWr),.ip true [iV a,iV b,iV c] 0,.sl 1,bV ((xs.take 1).any (geW ⟨a,b,c⟩)),iV 1],pO (pO Af 0 (some ⟨3,[.agg [iV a,iV b,iV c]],false⟩)) 1 (some ⟨3,(Gb ⟨a,b,c⟩ (xs.take 1)).map eWr,false⟩),2⟩ _ ⟨⟩ ⟨⟩ by
     rcases Int.lt_trichotomy (plW x0) (plW ⟨a,b,c⟩) with hlt | heq | hgt
     ·obtain ⟨o1,o2⟩:=RJ n0 hlt
      rw [List.nil_append] at o1 o2
      rw [t1,o1,o2] at hgo
      have c1:decide (4*a+b≤4*x0.level+x0.index)=false:=by rw [g0,hpos] at hlt;simp;omega
      have c2:decide (4*x0.level+x0.index=4*a+b)=false:=by rw [g0,hpos] at hlt;simp;omega
      have k1:((1:Int)*24≤140737488355328)=True:=by simp
      simp +contextual -dsimp -implicitDefEqProofs (maxSteps:=5000000) only [z0,hx0,hp0,hpw,c1,c2,List.replicate,k1,↓Aj (FF.eq_1),go_sem,simprocAttr]
      exact EE hgo (by rfl)
     ·obtain ⟨o1,o2⟩:=RK n0 heq
      rw [List.nil_append] at o1 o2
      rw [t1,o1,o2] at hgo
      have c1:decide (4*a+b≤4*x0.level+x0.index)=true:=by rw [g0,hpos] at heq;simp;omega
      have c2:decide (4*x0.level+x0.index=4*a+b)=true:=by rw [g0,hpos] at heq;simp;omega
      have k1:((1:Int)*24≤140737488355328)=True:=by simp
      simp +contextual -dsimp -implicitDefEqProofs (maxSteps:=5000000) only [z0,hx0,hp0,hpw,c1,c2,List.replicate,k1,↓Aj (FF.eq_1),go_sem,simprocAttr]
      exact EE hgo (by rfl)
     ·obtain ⟨o1,o2⟩:=UT n0 hgt
      rw [List.nil_append,List.nil_append] at o1
      rw [List.nil_append] at o2
      rw [t1,o1,o2] at hgo
      have c1:decide (4*a+b≤4*x0.level+x0.index)=true:=by rw [g0,hpos] at hgt;simp;omega
      have c2:decide (4*x0.level+x0.index=4*a+b)=false:=by rw [g0,hpos] at hgt;simp;omega
      have k1:((1:Int)*24≤140737488355328)=True:=by simp
      have k2:((2:Int)*24≤140737488355328)=True:=by simp
      simp +contextual -dsimp -implicitDefEqProofs (maxSteps:=5000000) only [z0,hx0,hp0,hpw,c1,c2,List.replicate,k1,k2,↓Aj (FF.eq_1),go_sem,simprocAttr]
      exact EE hgo (by rfl)
    refine bW (fun j=>⟨Ae [0,3,6,7,8] [.isl pf nn 3 (xs.map eWr),.ip true [iV a,iV b,iV c] 0,.sl 1,bV ((xs.take j).any (geW ⟨a,b,c⟩)),iV j],pO (pO Af 0 (some ⟨3,[.agg [iV a,iV b,iV c]],false⟩)) 1 (some ⟨3,(Gb ⟨a,b,c⟩ (xs.take j)).map eWr,false⟩),2⟩) xs.length (fun _=>true) ?_ (fun _ _ _ h=>by cases h) ?_ (xs.length - 1) 1 xs.length (by omega) (by omega) (fun _ _=>rfl)
    ·intro j kk hj _ hl
     obtain ⟨x,hxj⟩:∃ x,xs[j]?=some x:=⟨xs[j],by simp [hj]⟩
     have hmx:=hw1 x (List.mem_of_getElem? hxj)
     have hpx:=In x hmx
     have gx:plW x=4*x.level+x.index:=rfl
     have l1:((j:Int)<(xs.length:Int))=True:=by simpa using hj
     have l2:(0≤(j:Int))=True:=by simp
     have l3:=wrN j (by omega)
     have hlen:=ol j
     have hpre:∀ y∈xs.take j,plW y<plW x:=by
      intro y hy
      obtain ⟨i',hi',rfl⟩:=List.mem_iff_getElem.1 hy
      rw [List.length_take] at hi'
      have h3:=(List.pairwise_iff_getElem.1 hso) i' j (by omega) hj (by omega)
      have hxe:xs[j]=x:=by rw [List.getElem?_eq_getElem hj] at hxj;exact Option.some.inj hxj
      rw [hxe] at h3
      simpa using h3
     simp only [tk j x hxj] at hl
     have k1:((((Gb ⟨a,b,c⟩ (xs.take j)).length+1:Nat):Int)*24≤140737488355328)=True:=bb _ (by omega)
     have k2:((((Gb ⟨a,b,c⟩ (xs.take j)).length+1+1:Nat):Int)*24≤140737488355328)=True:=bb _ (by omega)
     cases hd:(xs.take j).any (geW ⟨a,b,c⟩)
     ·have ho:Gb ⟨a,b,c⟩ (xs.take j)=xs.take j:=by simp only [Gb,hd];rfl
      rcases Int.lt_trichotomy (plW x) (plW ⟨a,b,c⟩) with hlt | heq | hgt
      ·obtain ⟨o1,o2⟩:=RJ hd hlt
       rw [o1,o2,← ho] at hl
       have c1:decide (4*a+b≤4*x.level+x.index)=false:=by rw [gx,hpos] at hlt;simp;omega
       have c2:decide (4*x.level+x.index=4*a+b)=false:=by rw [gx,hpos] at hlt;simp;omega
       simp +contextual -dsimp -implicitDefEqProofs (maxSteps:=5000000) only [l1,l2,l3,hxj,hpx,hpw,c1,c2,List.replicate,k1,k2,↓Aj (FF.eq_1),go_sem,simprocAttr]
       refine EE hl ?_
       simp only [List.map_append];rfl
      ·obtain ⟨o1,o2⟩:=RK hd heq
       rw [o1,o2,← ho] at hl
       have c1:decide (4*a+b≤4*x.level+x.index)=true:=by rw [gx,hpos] at heq;simp;omega
       have c2:decide (4*x.level+x.index=4*a+b)=true:=by rw [gx,hpos] at heq;simp;omega
       simp +contextual -dsimp -implicitDefEqProofs (maxSteps:=5000000) only [l1,l2,l3,hxj,hpx,hpw,c1,c2,List.replicate,k1,k2,↓Aj (FF.eq_1),go_sem,simprocAttr]
       refine EE hl ?_
       simp only [List.map_append];rfl
      ·obtain ⟨o1,o2⟩:=UT hd hgt
       rw [o1,o2,← ho] at hl
       have c1:decide (4*a+b≤4*x.level+x.index)=true:=by rw [gx,hpos] at hgt;simp;omega
       have c2:decide (4*x.level+x.index=4*a+b)=false:=by rw [gx,hpos] at hgt;simp;omega
       simp +contextual -dsimp -implicitDefEqProofs (maxSteps:=5000000) only [l1,l2,l3,hxj,hpx,hpw,c1,c2,List.replicate,List.length_append,k1,k2,↓Aj (FF.eq_1),go_sem,simprocAttr]
       refine EE hl ?_
       simp only [List.map_append];rfl
     ·obtain ⟨o1,o2⟩:=ZY (x:=x) hd
      rw [o1,o2] at hl
      have hgt:=sJ hd hpre
      have c2:decide (4*x.level+x.index=4*a+b)=false:=by rw [gx,hpos] at hgt;simp;omega
      simp +contextual -dsimp -implicitDefEqProofs (maxSteps:=5000000) only [l1,l2,l3,hxj,hpx,hpw,hd,c2,List.replicate,k1,k2,↓Aj (FF.eq_1),go_sem,simprocAttr]
      refine EE hl ?_
      simp only [List.map_append];rfl
    ·intro kk _
     have l0:decide ((xs.length:Int)<(xs.length:Int))=false:=by simp
     have tf:xs.take xs.length=xs:=List.take_length
     have k1:(((xs.length+1:Nat):Int)*24≤140737488355328)=True:=bb _ (by omega)
     rw [iB (w:=⟨a,b,c⟩) (l:=xs)]
     simp only [tf]
     cases hd:xs.any (geW ⟨a,b,c⟩)
     ·have ho:Gb ⟨a,b,c⟩ xs=xs:=by simp only [Gb,hd];rfl
      rw [ho]
      simp +contextual -dsimp -implicitDefEqProofs (maxSteps:=5000000) only [l0,k1,hd,List.replicate,↓Aj (FF.eq_1),go_sem,simprocAttr]
      simp only [Fy,List.map_append,List.map_cons,List.map_nil,eWr]
     ·simp +contextual -dsimp -implicitDefEqProofs (maxSteps:=5000000) only [l0,hd,List.replicate,↓Aj (FF.eq_1),go_sem,simprocAttr]
end Ve
namespace Ve
open Go Ve.Ab
set_option maxHeartbeats 16000000
set_option maxRecDepth 10000
theorem Hj (i:Nat) (pf:Bool) (m:Ad) (at_:Int) (v:Int) (h:∃ k s,at_=(k:Nat)∧m.sess[k]?=some s∧SP m.words s∧((s.step≠0∧v=-1)∨(s.step=0∧s.pc=(s.prog.length:Int)∧v=-1)∨(s.step=0∧∃ n x,s.pc=(n:Nat)∧s.prog[n]?=some x∧v=x.code))):Aa (Lv ctx (i+1)) 73 [eM pf m,iV at_]=some (iV v):=by
 obtain ⟨k,s,rfl,hs,hS,h⟩:=h
 have hk:=Au hs
 have e1:(0≤(k:Int))=True:=by simp
 have e2:((k:Int)<(m.sess.length:Int))=True:=by simpa using hk
 rcases h with ⟨hst,rfl⟩ | ⟨hst,hp,rfl⟩ | ⟨hst,n,x,hp,hi,rfl⟩
 ·have z0:decide (s.step=0)=false:=by simpa using hst
  refine Ac rfl 0 (by rfl) ?_
  delta c73
  cases pf<;>simp +contextual -dsimp -implicitDefEqProofs (maxSteps:=5000000) only [hs,e1,e2,z0,go_sem,simprocAttr]
 ·have z0:decide (s.step=0)=true:=by simpa using hst
  have z1:decide ((s.prog.length:Int)≤(s.prog.length:Int))=true:=by simp
  refine Ac rfl 0 (by rfl) ?_
  delta c73
  cases pf<;>simp +contextual -dsimp -implicitDefEqProofs (maxSteps:=5000000) only [hs,e1,e2,z0,hp,z1,go_sem,simprocAttr]
 ·have hn:=Au hi
  have p1:(0≤(n:Int))=True:=by simp
  have p2:((n:Int)<(s.prog.length:Int))=True:=by simpa using hn
  have p3:decide ((s.prog.length:Int)≤(n:Int))=false:=by simp;omega
  have z0:decide (s.step=0)=true:=by simpa using hst
  refine Ac rfl 0 (by rfl) ?_
  delta c73
  cases pf<;>simp +contextual -dsimp -implicitDefEqProofs (maxSteps:=5000000) only [hs,e1,e2,z0,hp,p1,p2,p3,hi,go_sem,simprocAttr]
theorem Kf {m:Ad} {at_:Int} (h:Cr m at_=none):BS m at_=(false,1400):=by unfold BS;rw [h]
theorem MF {m:Ad} {at_:Int} {s:Ag} {x:AF} (h:Cr m at_=some (s,x)) (hc:¬ x.code=2):BS m at_=(false,1400):=by unfold BS;rw [h];simp only [hc,if_false]
theorem Hm {m:Ad} {at_:Int} {s:Ag} {x:AF} (h:Cr m at_=some (s,x)) (hc:x.code=2):BS m at_=(!under x.b s.label,0):=by unfold BS;rw [h];simp only [hc,if_true]
theorem Pt (i:Nat) (pf:Bool) (m:Ad) (hm:SmM m) (at_:Int):Aa (Lv ctx (i+9)) 74 [eM pf m,iV at_]=some (.tup [bV (BS m at_).1,iV (BS m at_).2]):=by
 have qr:=fun v h=>Hj (i+7) pf m at_ v h
 have qh:=GY (i+0) pf m at_ hm
 simp only [Nat.add_assoc,Nat.reduceAdd] at qr qh
 cases DG m at_ with
 | no h =>
  have e:BS m at_=(false,1400):=Kf (FB h)
  rw [e]
  refine Ac rfl 0 (by rfl) ?_
  delta c74
  cases pf<;>simp +contextual -dsimp -implicitDefEqProofs (maxSteps:=5000000) only [qh,h,go_sem,simprocAttr]
 | off k s e0 hs hM hS hst =>
  subst e0
  have e:BS m k=(false,1400):=Kf (Cq hs hM hst)
  rw [e]
  have hh:=Bf hs hM
  have q:=qr (-1) ⟨k,s,rfl,hs,hS,.inl ⟨hst,rfl⟩⟩
  refine Ac rfl 0 (by rfl) ?_
  delta c74
  cases pf<;>simp +contextual -dsimp -implicitDefEqProofs (maxSteps:=5000000) only [qh,hh,q,go_sem,simprocAttr]
 | fin k s e0 hs hM hS hst hp =>
  subst e0
  have e:BS m k=(false,1400):=Kf (Eg hs hM hst hp)
  rw [e]
  have hh:=Bf hs hM
  have q:=qr (-1) ⟨k,s,rfl,hs,hS,.inr (.inl ⟨hst,hp,rfl⟩)⟩
  refine Ac rfl 0 (by rfl) ?_
  delta c74
  cases pf<;>simp +contextual -dsimp -implicitDefEqProofs (maxSteps:=5000000) only [qh,hh,q,go_sem,simprocAttr]
 | on k n s x e0 hs hM hS hst hp hn hi =>
  subst e0
  have q:=qr x.code ⟨k,s,rfl,hs,hS,.inr (.inr ⟨hst,n,x,hp,hi,rfl⟩)⟩
  have hk:=Au hs
  have e1:(0≤(k:Int))=True:=by simp
  have e2:((k:Int)<(m.sess.length:Int))=True:=by simpa using hk
  have e5:∀ x,((m.sess.map oS).set k x)[k]?=some x:=fun x=>List.getElem?_set_self (by simpa using hk)
  have e4:∀ x y,((m.sess.map oS).set k x).set k y=(m.sess.map oS).set k y:=fun x y=>List.set_set ..
  have hh:=Bf hs hM
  have p1:(0≤(n:Int))=True:=by simp
  have p2:((n:Int)<(s.prog.length:Int))=True:=by simpa using hn
  have p3:decide ((s.prog.length:Int)≤(n:Int))=false:=by simp;omega
  have z0:decide (s.step=0)=true:=by simpa using hst
  by_cases hc:x.code=2
  ·have e:BS m k=(!under x.b s.label,0):=Hm (Dn hs hM hst hp hi) hc
   rw [e]
   have c2:decide (x.code=2)=true:=by simpa using hc
   refine Ac rfl 0 (by rfl) ?_
   delta c74
   cases pf<;>simp +contextual -dsimp -implicitDefEqProofs (maxSteps:=5000000) only [qh,hh,q,c2,hs,e1,e2,e4,e5,List.length_set,p1,p2,p3,z0,hp,hi,go_sem,simprocAttr]
  ·have e:BS m k=(false,1400):=MF (Dn hs hM hst hp hi) hc
   rw [e]
   have c2:decide (x.code=2)=false:=by simpa using hc
   refine Ac rfl 0 (by rfl) ?_
   delta c74
   cases pf<;>simp +contextual -dsimp -implicitDefEqProofs (maxSteps:=5000000) only [qh,hh,q,c2,go_sem,simprocAttr]
theorem Ke {m:Ad} {at_:Int} (h:Cr m at_=none∨∃ s x,Cr m at_=some (s,x)∧¬ x.code=2):BS m at_=(false,1400)∧Bs m at_=(AK,1400)∧BT m at_=(AK,1500):=by
 rcases h with h | ⟨s,x,h,hc⟩
 ·refine ⟨Kf h,?_,?_⟩
  ·unfold Bs;rw [h]
  ·unfold BT;rw [h]
 ·refine ⟨MF h hc,?_,?_⟩
  ·unfold Bs;rw [h];simp only [hc,if_false]
  ·unfold BT;rw [h];simp only [hc,if_false]
theorem FY (m:Ad) (at_:Int):(Cr m at_=none∨∃ s x,Cr m at_=some (s,x)∧¬ x.code=2)∨∃ (k n:Nat) (s:Ag) (x:AF),at_=(k:Nat)∧m.sess[k]?=some s∧Bk m∧SP m.words s∧s.step=0∧s.pc=(n:Int)∧n<s.prog.length∧s.prog[n]?=some x∧x.code=2∧Cr m at_=some (s,x):=by
 cases DG m at_ with
 | no h=>exact .inl (.inl (FB h))
 | off k s e0 hs hM hS hst=>subst e0;exact .inl (.inl (Cq hs hM hst))
 | fin k s e0 hs hM hS hst hp=>subst e0;exact .inl (.inl (Eg hs hM hst hp))
 | on k n s x e0 hs hM hS hst hp hn hi =>
  subst e0
  by_cases hc:x.code=2
  ·exact .inr ⟨k,n,s,x,rfl,hs,hM,hS,hst,hp,hn,hi,hc,Dn hs hM hst hp hi⟩
  ·exact .inl (.inr ⟨s,x,Dn hs hM hst hp hi,hc⟩)
theorem gS (i:Nat) (pf:Bool) (m:Ad) (hm:SmM m) (at_:Int):Aa (Lv ctx (i+10)) 75 [eM pf m,iV at_]=some (.tup [oM (Bs m at_).1,iV (Bs m at_).2]):=by
 have qn:=Pt (i+0) pf m hm at_
 have qc:=EV (i+7) pf m hm
 have qe:=NV (i+0) pf m hm at_ 4 0
 rcases FY m at_ with h | ⟨k,n,s,x,rfl,hs,hM,hS,hst,hp,hn,hi,hc,hcur⟩
 ·obtain ⟨g1,g2,_⟩:=Ke h
  rw [g2,Aw]
  rw [g1] at qn
  simp only [Nat.add_assoc,Nat.reduceAdd] at qn
  refine Ac rfl 0 (by rfl) ?_
  delta c75
  cases pf<;>simp +contextual -dsimp -implicitDefEqProofs (maxSteps:=5000000) only [qn,go_sem,simprocAttr]
 ·have ql:=fun l=>JB (i+8) m k s hs 2 l
  rw [Hm hcur hc] at qn
  simp only [Nat.add_assoc,Nat.reduceAdd] at qn qc qe ql
  have hk:=Au hs
  have e1:(0≤(k:Int))=True:=by simp
  have e2:((k:Int)<(m.sess.length:Int))=True:=by simpa using hk
  have e5:∀ x,((m.sess.map oS).set k x)[k]?=some x:=fun x=>List.getElem?_set_self (by simpa using hk)
  have e4:∀ x y,((m.sess.map oS).set k x).set k y=(m.sess.map oS).set k y:=fun x y=>List.set_set ..
  have hh:=Bf hs hM
  have p1:(0≤(n:Int))=True:=by simp
  have p2:((n:Int)<(s.prog.length:Int))=True:=by simpa using hn
  have p3:decide ((s.prog.length:Int)≤(n:Int))=false:=by simp;omega
  have z0:decide (s.step=0)=true:=by simpa using hst
  cases hu:under x.b s.label
  ·rw [hu] at qn
   cases hcl:under (orI s.label x.b) s.clear
   ·have e:Bs m k=Cy m k 4 0:=by unfold Bs;rw [hcur];simp only [hc,hu,hcl];rfl
    rw [e]
    refine Ac rfl 0 (by rfl) ?_
    delta c75
    cases pf<;>simp +contextual -dsimp -implicitDefEqProofs (maxSteps:=5000000) only [qn,qe,hcl,hs,e1,e2,e4,e5,List.length_set,p1,p2,p3,z0,hp,hi,go_sem,simprocAttr]
   ·have e:Bs m k=(Az (AS m ⟨s.id,s.label,2,orI s.label x.b⟩) k { s with label:=orI s.label x.b },0):=by unfold Bs;rw [hcur];simp only [hc,hu,hcl];rfl
    rw [e]
    simp only [oM,cO,oWs,oSs,oEs,Az,List.map_set,oS,DJ,Dv,Gs,ER] at ql
    refine Ac rfl 0 (by rfl) ?_
    delta c75
    cases pf
    ·simp +contextual -dsimp -implicitDefEqProofs (maxSteps:=5000000) only [qn,qc,ql,hcl,hs,e1,e2,e4,e5,List.length_set,p1,p2,p3,z0,hp,hi,go_sem,simprocAttr]
     simp only [oM,cO,oWs,oSs,oEs,Az,List.map_set,oS,DJ,Dv,Gs,ER]
    ·simp +contextual -dsimp -implicitDefEqProofs (maxSteps:=5000000) only [qn,qc,ql,hcl,hs,e1,e2,e4,e5,List.length_set,p1,p2,p3,z0,hp,hi,go_sem,simprocAttr]
     simp only [oM,cO,oWs,oSs,oEs,Az,List.map_set,oS,DJ,Dv,Gs,ER]
  ·have e:Bs m k=(AK,1400):=by unfold Bs;rw [hcur];simp only [hc,hu];rfl
   rw [e,Aw]
   rw [hu] at qn
   refine Ac rfl 0 (by rfl) ?_
   delta c75
   cases pf<;>simp +contextual -dsimp -implicitDefEqProofs (maxSteps:=5000000) only [qn,go_sem,simprocAttr]
end Ve
namespace Ve
open Go Ve.Ab
set_option maxHeartbeats 16000000
set_option maxRecDepth 10000
abbrev v4 (A:A4 Int):V:=.agg [iV A.a0,iV A.a1,iV A.a2,iV A.a3]
theorem Ze (i:Nat) (A:A4 Int) (h4:CI A=true) (r v:Int) (hr:inR r 3=true) (hv:inR v 255=true):Aa (Lv ctx (i+4)) 172 [v4 A,iV r,iV v]=some (.tup [v4 (A.set r v),iV 0]):=by
 obtain ⟨a,b,c,d⟩:=A
 have ha:Ds 255 a b c d=true:=h4
 rcases Bc r with rfl | rfl | rfl | rfl | h'
 case inr.inr.inr.inr=>rw [hr] at h';cases h'
 all_goals
  refine Ac rfl 0 (by rfl) ?_
  delta xW
  simp +contextual -dsimp -implicitDefEqProofs (maxSteps:=5000000) only [ha,hr,hv,A4.set,go_sem,simprocAttr]
theorem vK:∀ n:_root_.Fin 256,(FloatKind.f64.decode (FloatKind.f64.nearest ((n.val:Nat):Int))).toInt .zero=some ((n.val:Nat):Int):=by decide +kernel
theorem mI {x:Int} (h:inR x 255=true):(FloatKind.f64.decode (FloatKind.f64.nearest x)).toInt .zero=some x∧(IntKind.min .i64≤x∧x≤IntKind.max .i64)=True:=by
 rw [AG] at h
 have e1:IntKind.min .i64=-9223372036854775808:=by decide
 have e2:IntKind.max .i64=9223372036854775807:=by decide
 refine ⟨?_,by rw [e1,e2,eq_iff_iff,iff_true];omega⟩
 have:=vK ⟨x.toNat,by omega⟩
 simp only [Int.toNat_of_nonneg h.1] at this
 exact this
theorem dL {x y:Int} (hx:inR x 255=true) (hy:inR y 255=true):IntKind.wrap .i64 (x+y)=x+y∧(x+y).tmod 256=(x+y) % 256∧inR ((x+y) % 256) 255=true:=by
 rw [AG] at hx hy
 exact ⟨AU (by omega) (by omega),Int.tmod_eq_emod_of_nonneg (by omega),by rw [AG];omega⟩
theorem oA (i:Nat) (A:A4 Int) (h4:CI A=true) (r t:Int) (hr:inR r 3=true) (ht:inR t 3=true):Aa (Lv ctx (i+5)) 173 [v4 A,iV r,iV t]=some (.tup [v4 (A.set r ((A.get r+A.get t) % 256)),iV 0]):=by
 have hreg:∀ x,inR x 3=true→inR (A.get x) 255=true:=by
  intro x hx
  obtain ⟨a,b,c,d⟩:=A
  have ha:Ds 255 a b c d=true:=h4
  simp only [Ds,Bool.and_eq_true] at ha
  rcases Bc x with rfl | rfl | rfl | rfl | h'
  ·exact ha.1.1.1
  ·exact ha.1.1.2
  ·exact ha.1.2
  ·exact ha.2
  ·rw [hx] at h';cases h'
 have hx:=hreg r hr
 have hy:=hreg t ht
 obtain ⟨s1,s2,s3⟩:=dL hx hy
 have q:=Ze (i+0) A h4 r ((A.get r+A.get t) % 256) hr s3
 obtain ⟨c1,c3⟩:=mI hx
 obtain ⟨c2,c4⟩:=mI hy
 have hrem:Bu lay .rem 3 (iV (A.get r+A.get t)) (iV 256)=some (iV ((A.get r+A.get t) % 256)):=by rw [Jb (by decide),s2]
 simp only [Nat.add_assoc,Nat.reduceAdd] at q
 clear hx hy s2 s3 hreg
 obtain ⟨a,b,c,d⟩:=A
 have ha:Ds 255 a b c d=true:=h4
 rcases Bc r with rfl | rfl | rfl | rfl | h'
 case inr.inr.inr.inr=>rw [hr] at h';cases h'
 all_goals
  rcases Bc t with rfl | rfl | rfl | rfl | h'
  case inr.inr.inr.inr=>rw [ht] at h';cases h'
  all_goals
   simp only [A4.get,A4.set,simprocAttr] at q c1 c2 c3 c4 hrem s1 ⊢
   refine Ac rfl 0 (by rfl) ?_
   delta xV
   simp +contextual -dsimp -implicitDefEqProofs (maxSteps:=5000000) only [ha,hr,ht,c1,c2,c3,c4,s1,hrem,q,go_sem,simprocAttr]
end Ve
namespace Ve
open Go Ve.Ab
set_option maxHeartbeats 16000000
set_option maxRecDepth 10000
theorem fF (i:Nat) (pf nn:Bool) (xs:List AH) (hx:(xs.length:Int)*24≤140737488355328) (a b c:Int):Aa (Lv ctx (i+5)) 200 [.isl pf nn 3 (xs.map eR),.agg [iV a,iV b,iV c]]=some (.tup [oRs (AX xs ⟨a,b,c⟩).1,iV (AX xs ⟨a,b,c⟩).2]):=by
 have hb:xs.length≤BB:=by simp only [BB];omega
 have q1:=LP (i+0) pf nn xs hb
 have q2:=LP (i+0) false false [⟨a,b,c⟩] (by simp [BB])
 rw [NS] at q2
 simp only [Nat.add_assoc,Nat.reduceAdd,List.map_cons,List.map_nil,eR] at q1 q2
 have b1:((xs.length:Int)*24≤140737488355328)=True:=by simpa using hx
 cases h1:AJ xs
 ·have e:AX xs ⟨a,b,c⟩=([],900):=by simp only [AX,h1];rfl
  rw [e]
  rw [h1] at q1
  refine Ac rfl 0 (by rfl) ?_
  delta Yz
  simp +contextual -dsimp -implicitDefEqProofs (maxSteps:=5000000) only [q1,List.map_nil,go_sem,simprocAttr]
  try rfl
 ·rw [h1] at q1
  cases h2:Cn ⟨a,b,c⟩
  ·have e:AX xs ⟨a,b,c⟩=([],900):=by simp only [AX,h1,h2];rfl
   rw [e]
   rw [h2] at q2
   refine Ac rfl 0 (by rfl) ?_
   delta Yz
   simp +contextual -dsimp -implicitDefEqProofs (maxSteps:=5000000) only [q1,q2,List.replicate,List.map_nil,go_sem,simprocAttr]
   try rfl
  ·rw [h2] at q2
   have e:AX xs ⟨a,b,c⟩=if xs.any (BY ⟨a,b,c⟩)=true then (xs,0) else if xs.length=16 then ([],900) else (xs++[⟨a,b,c⟩],0):=by simp only [AX,h1,h2,Bool.and_self,if_true]
   have h16:xs.length≤16:=by simp only [AJ,Bool.and_eq_true,decide_eq_true_eq] at h1;exact h1.2
   have hcf:Aa (Lv ctx (i+4)) 186 [.isl pf nn 3 (xs.map eR),.fn (.func 208) [] [.ip true [iV a,iV b,iV c] 0]]=some (bV (xs.any (BY ⟨a,b,c⟩))) :=
    Mo (i+2) pf nn xs (BY ⟨a,b,c⟩) 208 [.ip true [iV a,iV b,iV c] 0] (fun _ _ _ _ _ _=>rfl) (fun _=>rfl) (by simp [AN,V.scrub]) rfl (fun x _=>by simp only [eR];exact mB (i+1) true a b c x.level x.index x.ver) hb
   rw [e]
   cases h3:xs.any (BY ⟨a,b,c⟩)
   ·rw [h3] at hcf
    simp only [Bool.false_eq_true,if_false]
    by_cases h4:xs.length=16
    ·have z:decide ((xs.length:Int)=16)=true:=by simp;omega
     simp only [h4,if_true]
     refine Ac rfl 0 (by rfl) ?_
     delta Yz
     cases pf
     all_goals
      simp +contextual -dsimp -implicitDefEqProofs (maxSteps:=5000000) only [q1,q2,b1,hcf,z,List.replicate,List.map_nil,go_sem,simprocAttr]
      try rfl
    ·have z:decide ((xs.length:Int)=16)=false:=by simp;omega
     have b2:(((xs.length+1:Nat):Int)*24≤140737488355328)=True:=by simp;omega
     simp only [h4,if_false,List.map_append,List.map_cons,List.map_nil,eR,oRs]
     refine Ac rfl 0 (by rfl) ?_
     delta Yz
     cases pf<;>simp +contextual -dsimp -implicitDefEqProofs (maxSteps:=5000000) only [q1,q2,b1,b2,hcf,z,List.replicate,go_sem,simprocAttr]
   ·rw [h3] at hcf
    simp only [if_true]
    refine Ac rfl 0 (by rfl) ?_
    delta Yz
    cases pf<;>simp +contextual -dsimp -implicitDefEqProofs (maxSteps:=5000000) only [q1,q2,b1,hcf,List.replicate,go_sem,simprocAttr]
end Ve
namespace Ve
open Go Ve.Ab
set_option maxHeartbeats 16000000
set_option maxRecDepth 10000
abbrev nilV:V:=.lit (.slice none 0 0)
end Ve
