/- Spoiled: what was handed out is written over. -/
import Derived.Test.YthllnfkddiaokaaGreatVeSD
set_option linter.all false
set_option linter.unusedSectionVars false
namespace Ve
open Go Ve.Ab
set_option maxHeartbeats 16000000
set_option maxRecDepth 10000
def Ki (a:Aj):Aj:={ a with val:=Sb a.val 90 }
theorem LX (i k:Nat) (xs:List Aj) (hx:xs.length≤BB) (q:Out→St→Option Ans) (Q:V→Hp→Nat→Prop):∀ (suf pre:List Aj) (kk:Nat),xs=pre++suf→suf.length<kk+1 →
  Fin (evC ctx (Lv ctx i) (Aa (Lv ctx i)) k Qi ⟨Ad [0,2] [.sl 0,iV pre.length],pO Ag 0 (some ⟨3,(pre.map Ki).map eW++suf.map eW,false⟩),1⟩ (As [0,2] fun o s=>Cp (BD 1 [0,2] (fun s q=>evC ctx (Lv ctx i) (Aa (Lv ctx i)) k Qi s (As [0,2] q)) q kk) q o s)) Q =
  Fin (q (.exit 0) ⟨Ad [] [],pO Ag 0 (some ⟨3,(xs.map Ki).map eW,false⟩),1⟩) Q
 | [],pre,kk,hxs,hk=>by
  have h1:decide ((pre.length:Int)<(pre.length:Int))=false:=by simp
  have h2:xs=pre:=by simp [hxs]
  rw [Ai (Qi.eq_1)]
  simp only [List.map_nil,List.append_nil]
  rw [h2]
  simp +contextual -dsimp -implicitDefEqProofs (maxSteps:=5000000) only [h1,List.length_map,go_sem,simprocAttr]
 | a::suf,pre,kk,hxs,hk=>by
  obtain ⟨kk,rfl⟩:∃ m,kk=m+1:=⟨kk - 1,by simp at hk;omega⟩
  have h2:((pre.length:Int)<((pre.length+(suf.length+1):Nat):Int))=True:=by simp;omega
  have h3:(0≤(pre.length:Int))=True:=by simp
  have h4:=wrN pre.length (by rw [hxs] at hx;simp at hx;omega)
  have hg:((pre.map Ki).map eW++(a::suf).map eW)[pre.length]?=some (eW a):=by simp
  have hset:∀ x,((pre.map Ki).map eW++(a::suf).map eW).set pre.length x=(pre.map Ki).map eW++x::suf.map eW:=by intro x;simp [List.set_append]
  have ih:=LX i k xs hx q Q suf (pre++[a]) kk (by simp [hxs]) (by simpa using hk)
  simp only [Ah,List.map_append,List.map_cons,List.map_nil,List.append_assoc,List.cons_append,List.nil_append,eW,Ki] at ih
  simp only [eW,List.map_cons] at hg hset ⊢
  rw [Ai (Qi.eq_1)]
  simp +contextual -dsimp -implicitDefEqProofs (maxSteps:=5000000) only [h2,h3,h4,hg,hset,gLs,go_sem,simprocAttr]
  exact ih
theorem GH (i:Nat) (xs:List Aj) (hx:xs.length≤BB):Aa (Lv ctx (i+1)) 137 [.own 3 (xs.map eW)]=some (.tup []):=by
 refine Af rfl (xs.length+1) (by rfl) ?_
 delta c137
 have hl:=fun q Q=>LX i (xs.length+1) xs hx q Q xs [] xs.length rfl (by omega)
 simp only [List.length_nil,Int.natCast_zero,List.map_nil,List.nil_append] at hl
 simp +contextual -dsimp -implicitDefEqProofs (maxSteps:=5000000) only [gLs,go_sem,simprocAttr]
 refine Eq.mpr (hl _ _) ?_
 simp +contextual -dsimp -implicitDefEqProofs (maxSteps:=5000000) only [go_sem,simprocAttr]
def Kl (a:AD):AD:={ a with a:=Sb a.a 90 }
theorem Ma (i k:Nat) (xs:List AD) (hx:xs.length≤BB) (q:Out→St→Option Ans) (Q:V→Hp→Nat→Prop):∀ (suf pre:List AD) (kk:Nat),xs=pre++suf→suf.length<kk+1 →
  Fin (evC ctx (Lv ctx i) (Aa (Lv ctx i)) k Wh ⟨Ad [0,2] [.sl 0,iV pre.length],pO Ag 0 (some ⟨4,(pre.map Kl).map eI++suf.map eI,false⟩),1⟩ (As [0,2] fun o s=>Cp (BD 1 [0,2] (fun s q=>evC ctx (Lv ctx i) (Aa (Lv ctx i)) k Wh s (As [0,2] q)) q kk) q o s)) Q =
  Fin (q (.exit 0) ⟨Ad [] [],pO Ag 0 (some ⟨4,(xs.map Kl).map eI,false⟩),1⟩) Q
 | [],pre,kk,hxs,hk=>by
  have h1:decide ((pre.length:Int)<(pre.length:Int))=false:=by simp
  have h2:xs=pre:=by simp [hxs]
  rw [Ai (Wh.eq_1)]
  simp only [List.map_nil,List.append_nil]
  rw [h2]
  simp +contextual -dsimp -implicitDefEqProofs (maxSteps:=5000000) only [h1,List.length_map,go_sem,simprocAttr]
 | a::suf,pre,kk,hxs,hk=>by
  obtain ⟨kk,rfl⟩:∃ m,kk=m+1:=⟨kk - 1,by simp at hk;omega⟩
  have h2:((pre.length:Int)<((pre.length+(suf.length+1):Nat):Int))=True:=by simp;omega
  have h3:(0≤(pre.length:Int))=True:=by simp
  have h4:=wrN pre.length (by rw [hxs] at hx;simp at hx;omega)
  have hg:((pre.map Kl).map eI++(a::suf).map eI)[pre.length]?=some (eI a):=by simp
  have hset:∀ x,((pre.map Kl).map eI++(a::suf).map eI).set pre.length x=(pre.map Kl).map eI++x::suf.map eI:=by intro x;simp [List.set_append]
  have ih:=Ma i k xs hx q Q suf (pre++[a]) kk (by simp [hxs]) (by simpa using hk)
  simp only [Ah,List.map_append,List.map_cons,List.map_nil,List.append_assoc,List.cons_append,List.nil_append,eI,Kl] at ih
  simp only [eI,List.map_cons] at hg hset ⊢
  rw [Ai (Wh.eq_1)]
  simp +contextual -dsimp -implicitDefEqProofs (maxSteps:=5000000) only [h2,h3,h4,hg,hset,gLs,go_sem,simprocAttr]
  exact ih
theorem LG (i:Nat) (xs:List AD) (hx:xs.length≤BB):Aa (Lv ctx (i+1)) 84 [.own 4 (xs.map eI)]=some (.tup []):=by
 refine Af rfl (xs.length+1) (by rfl) ?_
 delta c84
 have hl:=fun q Q=>Ma i (xs.length+1) xs hx q Q xs [] xs.length rfl (by omega)
 simp only [List.length_nil,Int.natCast_zero,List.map_nil,List.nil_append] at hl
 simp +contextual -dsimp -implicitDefEqProofs (maxSteps:=5000000) only [gLs,go_sem,simprocAttr]
 refine Eq.mpr (hl _ _) ?_
 simp +contextual -dsimp -implicitDefEqProofs (maxSteps:=5000000) only [go_sem,simprocAttr]
def Kk (a:AZ):AZ:={ a with index:=Sb a.index 90 }
theorem LZ (i k:Nat) (xs:List AZ) (hx:xs.length≤BB) (q:Out→St→Option Ans) (Q:V→Hp→Nat→Prop):∀ (suf pre:List AZ) (kk:Nat),xs=pre++suf→suf.length<kk+1 →
  Fin (evC ctx (Lv ctx i) (Aa (Lv ctx i)) k Qh ⟨Ad [0,2] [.sl 0,iV pre.length],pO Ag 0 (some ⟨3,(pre.map Kk).map eR++suf.map eR,false⟩),1⟩ (As [0,2] fun o s=>Cp (BD 1 [0,2] (fun s q=>evC ctx (Lv ctx i) (Aa (Lv ctx i)) k Qh s (As [0,2] q)) q kk) q o s)) Q =
  Fin (q (.exit 0) ⟨Ad [] [],pO Ag 0 (some ⟨3,(xs.map Kk).map eR,false⟩),1⟩) Q
 | [],pre,kk,hxs,hk=>by
  have h1:decide ((pre.length:Int)<(pre.length:Int))=false:=by simp
  have h2:xs=pre:=by simp [hxs]
  rw [Ai (Qh.eq_1)]
  simp only [List.map_nil,List.append_nil]
  rw [h2]
  simp +contextual -dsimp -implicitDefEqProofs (maxSteps:=5000000) only [h1,List.length_map,go_sem,simprocAttr]
 | a::suf,pre,kk,hxs,hk=>by
  obtain ⟨kk,rfl⟩:∃ m,kk=m+1:=⟨kk - 1,by simp at hk;omega⟩
  have h2:((pre.length:Int)<((pre.length+(suf.length+1):Nat):Int))=True:=by simp;omega
  have h3:(0≤(pre.length:Int))=True:=by simp
  have h4:=wrN pre.length (by rw [hxs] at hx;simp at hx;omega)
  have hg:((pre.map Kk).map eR++(a::suf).map eR)[pre.length]?=some (eR a):=by simp
  have hset:∀ x,((pre.map Kk).map eR++(a::suf).map eR).set pre.length x=(pre.map Kk).map eR++x::suf.map eR:=by intro x;simp [List.set_append]
  have ih:=LZ i k xs hx q Q suf (pre++[a]) kk (by simp [hxs]) (by simpa using hk)
  simp only [Ah,List.map_append,List.map_cons,List.map_nil,List.append_assoc,List.cons_append,List.nil_append,eR,Kk] at ih
  simp only [eR,List.map_cons] at hg hset ⊢
  rw [Ai (Qh.eq_1)]
  simp +contextual -dsimp -implicitDefEqProofs (maxSteps:=5000000) only [h2,h3,h4,hg,hset,gLs,go_sem,simprocAttr]
  exact ih
theorem Sm (i:Nat) (xs:List AZ) (hx:xs.length≤BB):Aa (Lv ctx (i+1)) 138 [.own 3 (xs.map eR)]=some (.tup []):=by
 refine Af rfl (xs.length+1) (by rfl) ?_
 delta c138
 have hl:=fun q Q=>LZ i (xs.length+1) xs hx q Q xs [] xs.length rfl (by omega)
 simp only [List.length_nil,Int.natCast_zero,List.map_nil,List.nil_append] at hl
 simp +contextual -dsimp -implicitDefEqProofs (maxSteps:=5000000) only [gLs,go_sem,simprocAttr]
 refine Eq.mpr (hl _ _) ?_
 simp +contextual -dsimp -implicitDefEqProofs (maxSteps:=5000000) only [go_sem,simprocAttr]
def If (a:Aq):Aq:={ a with index:=Sb a.index 90 }
theorem KQ (i k:Nat) (xs:List Aq) (hx:xs.length≤BB) (q:Out→St→Option Ans) (Q:V→Hp→Nat→Prop):∀ (suf pre:List Aq) (kk:Nat),xs=pre++suf→suf.length<kk+1 →
  Fin (evC ctx (Lv ctx i) (Aa (Lv ctx i)) k Qg ⟨Ad [0,2] [.sl 0,iV pre.length],pO Ag 0 (some ⟨3,(pre.map If).map eWr++suf.map eWr,false⟩),1⟩ (As [0,2] fun o s=>Cp (BD 1 [0,2] (fun s q=>evC ctx (Lv ctx i) (Aa (Lv ctx i)) k Qg s (As [0,2] q)) q kk) q o s)) Q =
  Fin (q (.exit 0) ⟨Ad [] [],pO Ag 0 (some ⟨3,(xs.map If).map eWr,false⟩),1⟩) Q
 | [],pre,kk,hxs,hk=>by
  have h1:decide ((pre.length:Int)<(pre.length:Int))=false:=by simp
  have h2:xs=pre:=by simp [hxs]
  rw [Ai (Qg.eq_1)]
  simp only [List.map_nil,List.append_nil]
  rw [h2]
  simp +contextual -dsimp -implicitDefEqProofs (maxSteps:=5000000) only [h1,List.length_map,go_sem,simprocAttr]
 | a::suf,pre,kk,hxs,hk=>by
  obtain ⟨kk,rfl⟩:∃ m,kk=m+1:=⟨kk - 1,by simp at hk;omega⟩
  have h2:((pre.length:Int)<((pre.length+(suf.length+1):Nat):Int))=True:=by simp;omega
  have h3:(0≤(pre.length:Int))=True:=by simp
  have h4:=wrN pre.length (by rw [hxs] at hx;simp at hx;omega)
  have hg:((pre.map If).map eWr++(a::suf).map eWr)[pre.length]?=some (eWr a):=by simp
  have hset:∀ x,((pre.map If).map eWr++(a::suf).map eWr).set pre.length x=(pre.map If).map eWr++x::suf.map eWr:=by intro x;simp [List.set_append]
  have ih:=KQ i k xs hx q Q suf (pre++[a]) kk (by simp [hxs]) (by simpa using hk)
  simp only [Ah,List.map_append,List.map_cons,List.map_nil,List.append_assoc,List.cons_append,List.nil_append,eWr,If] at ih
  simp only [eWr,List.map_cons] at hg hset ⊢
  rw [Ai (Qg.eq_1)]
  simp +contextual -dsimp -implicitDefEqProofs (maxSteps:=5000000) only [h2,h3,h4,hg,hset,gLs,go_sem,simprocAttr]
  exact ih
theorem Qr (i:Nat) (xs:List Aq) (hx:xs.length≤BB):Aa (Lv ctx (i+1)) 139 [.own 3 (xs.map eWr)]=some (.tup []):=by
 refine Af rfl (xs.length+1) (by rfl) ?_
 delta c139
 have hl:=fun q Q=>KQ i (xs.length+1) xs hx q Q xs [] xs.length rfl (by omega)
 simp only [List.length_nil,Int.natCast_zero,List.map_nil,List.nil_append] at hl
 simp +contextual -dsimp -implicitDefEqProofs (maxSteps:=5000000) only [gLs,go_sem,simprocAttr]
 refine Eq.mpr (hl _ _) ?_
 simp +contextual -dsimp -implicitDefEqProofs (maxSteps:=5000000) only [go_sem,simprocAttr]
def Ig (a:AI):AI:={ a with id:=Sb a.id 90 }
theorem KR (i k:Nat) (xs:List AI) (hx:xs.length≤BB) (q:Out→St→Option Ans) (Q:V→Hp→Nat→Prop):∀ (suf pre:List AI) (kk:Nat),xs=pre++suf→suf.length<kk+1 →
  Fin (evC ctx (Lv ctx i) (Aa (Lv ctx i)) k Wf ⟨Ad [0,2] [.sl 0,iV pre.length],pO Ag 0 (some ⟨4,(pre.map Ig).map eE++suf.map eE,false⟩),1⟩ (As [0,2] fun o s=>Cp (BD 1 [0,2] (fun s q=>evC ctx (Lv ctx i) (Aa (Lv ctx i)) k Wf s (As [0,2] q)) q kk) q o s)) Q =
  Fin (q (.exit 0) ⟨Ad [] [],pO Ag 0 (some ⟨4,(xs.map Ig).map eE,false⟩),1⟩) Q
 | [],pre,kk,hxs,hk=>by
  have h1:decide ((pre.length:Int)<(pre.length:Int))=false:=by simp
  have h2:xs=pre:=by simp [hxs]
  rw [Ai (Wf.eq_1)]
  simp only [List.map_nil,List.append_nil]
  rw [h2]
  simp +contextual -dsimp -implicitDefEqProofs (maxSteps:=5000000) only [h1,List.length_map,go_sem,simprocAttr]
 | a::suf,pre,kk,hxs,hk=>by
  obtain ⟨kk,rfl⟩:∃ m,kk=m+1:=⟨kk - 1,by simp at hk;omega⟩
  have h2:((pre.length:Int)<((pre.length+(suf.length+1):Nat):Int))=True:=by simp;omega
  have h3:(0≤(pre.length:Int))=True:=by simp
  have h4:=wrN pre.length (by rw [hxs] at hx;simp at hx;omega)
  have hg:((pre.map Ig).map eE++(a::suf).map eE)[pre.length]?=some (eE a):=by simp
  have hset:∀ x,((pre.map Ig).map eE++(a::suf).map eE).set pre.length x=(pre.map Ig).map eE++x::suf.map eE:=by intro x;simp [List.set_append]
  have ih:=KR i k xs hx q Q suf (pre++[a]) kk (by simp [hxs]) (by simpa using hk)
  simp only [Ah,List.map_append,List.map_cons,List.map_nil,List.append_assoc,List.cons_append,List.nil_append,eE,Ig] at ih
  simp only [eE,List.map_cons] at hg hset ⊢
  rw [Ai (Wf.eq_1)]
  simp +contextual -dsimp -implicitDefEqProofs (maxSteps:=5000000) only [h2,h3,h4,hg,hset,gLs,go_sem,simprocAttr]
  exact ih
theorem Qs (i:Nat) (xs:List AI) (hx:xs.length≤BB):Aa (Lv ctx (i+1)) 88 [.own 4 (xs.map eE)]=some (.tup []):=by
 refine Af rfl (xs.length+1) (by rfl) ?_
 delta c88
 have hl:=fun q Q=>KR i (xs.length+1) xs hx q Q xs [] xs.length rfl (by omega)
 simp only [List.length_nil,Int.natCast_zero,List.map_nil,List.nil_append] at hl
 simp +contextual -dsimp -implicitDefEqProofs (maxSteps:=5000000) only [gLs,go_sem,simprocAttr]
 refine Eq.mpr (hl _ _) ?_
 simp +contextual -dsimp -implicitDefEqProofs (maxSteps:=5000000) only [go_sem,simprocAttr]
theorem Sn (i:Nat) (a:A4 (List Aj)) (h0:a.a0.length≤BB) (h1:a.a1.length≤BB) (h2:a.a2.length≤BB) (h3:a.a3.length≤BB):Aa (Lv ctx (i+2)) 86 [.agg [oWs a.a0,oWs a.a1,oWs a.a2,oWs a.a3]]=some (.tup []):=by
 have e0:=GH i a.a0 h0
 have e1:=GH i a.a1 h1
 have e2:=GH i a.a2 h2
 have e3:=GH i a.a3 h3
 refine Af rfl 5 (by rfl) ?_
 delta c86
 simp +contextual -dsimp -implicitDefEqProofs (maxSteps:=5000000) only [gLs,↓Ai (yV.eq_1),e0,e1,e2,e3,go_sem,simprocAttr]
theorem OL (i:Nat) (s:Ae) (hs:SmS s):Aa (Lv ctx (i+2)) 87 [oS s]=some (.tup []):=by
 have e0:=LG i s.prog hs.p
 have e1:=Sm i s.reads hs.r
 have e2:=Qr i s.writes hs.w
 simp only [oS]
 refine Af rfl 0 (by rfl) ?_
 delta c87
 simp +contextual -dsimp -implicitDefEqProofs (maxSteps:=5000000) only [e0,e1,e2,go_sem,simprocAttr]
def Jf (s:Ae):V:=.agg [iV (Sb s.id 90),iV s.label,iV s.clear,.dead,iV s.step,iV s.pc,iV s.regs.a0,iV s.regs.a1,iV s.regs.a2,iV s.regs.a3,.dead,.dead,iV s.at_,iV s.stamp,iV s.tries,iV s.result,iV s.told]
theorem aI (thr d:Nat):AR thr (d+1) .dead=.ret (.dead,[]):=(rfl)
theorem xV (thr d:Nat) (l:List Ae):AG (AR thr (d+2)) (l.map Jf)=.ret ((l.map Jf).map vn):=HP _ _ _ (fun x=>by simp only [Jf,EV,Cx,DC,Ep,aI,Bv,List.map_cons,List.map_nil,List.flatten_cons,List.flatten_nil,List.append_nil,List.nil_append]) l
attribute [go_sem] aI xV
abbrev hS (m:Ac) (els:List V) (d:Bool):Hp :=
 pO (pO (pO (pO (pO (pO (pO Ag 0 none) 1 none) 2 none) 3 none) 4 (some ⟨17,els,d⟩)) 5 (some ⟨4,m.trace.map eE,false⟩)) 6 (some ⟨11,[.agg [.sl 0,.sl 1,.sl 2,.sl 3,iV m.clocks.a0,iV m.clocks.a1,iV m.clocks.a2,iV m.clocks.a3,iV m.ceil,.sl 4,.sl 5]],true⟩)
theorem Vu (i k:Nat) (m:Ac) (hm:SmM m) (q:Out→St→Option Ans) (Q:V→Hp→Nat→Prop):∀ (suf pre:List Ae) (kk:Nat) (d:Bool),m.sess=pre++suf→suf.length<kk+1 →
  Fin (evC ctx (Lv ctx (i+2)) (Aa (Lv ctx (i+2))) k Wp ⟨Ad [1,2] [.ptr 6 0 0,iV pre.length],hS m (pre.map Jf++suf.map oS) d,7⟩ (As [1,2] fun o s=>Cp (BD 7 [1,2] (fun s q=>evC ctx (Lv ctx (i+2)) (Aa (Lv ctx (i+2))) k Wp s (As [1,2] q)) q kk) q o s)) Q =
  Fin (q (.exit 0) ⟨Ad [1] [.ptr 6 0 0],hS m (m.sess.map Jf) (if suf=[] then d else true),7⟩) Q
 | [],pre,kk,d,hxs,hk=>by
  have h1:decide ((pre.length:Int)<(pre.length:Int))=false:=by simp
  have h2:m.sess=pre:=by simp [hxs]
  rw [Ai (Wp.eq_1),if_pos rfl]
  simp only [List.map_nil,List.append_nil]
  simp +contextual -dsimp -implicitDefEqProofs (maxSteps:=5000000) only [h1,List.length_map,go_sem,simprocAttr]
  rw [h2]
 | a::suf,pre,kk,d,hxs,hk=>by
  obtain ⟨kk,rfl⟩:∃ m,kk=m+1:=⟨kk - 1,by simp at hk;omega⟩
  have h2:((pre.length:Int)<((pre.length+(suf.length+1):Nat):Int))=True:=by simp;omega
  have h3:(0≤(pre.length:Int))=True:=by simp
  have h4:=wrN pre.length (by have:=hm.ss;rw [hxs] at this;simp at this;omega)
  have hg:(pre.map Jf++(a::suf).map oS)[pre.length]?=some (oS a):=by simp
  have hset:∀ x,(pre.map Jf++(a::suf).map oS).set pre.length x=pre.map Jf++x::suf.map oS:=by intro x;simp [List.set_append]
  have hg':∀ x,(pre.map Jf++x::suf.map oS)[pre.length]?=some x:=by intro x;simp
  have hset':∀ x y,(pre.map Jf++x::suf.map oS).set pre.length y=pre.map Jf++y::suf.map oS:=by intro x y;simp [List.set_append]
  have hs:=OL i a (hm.s a (by simp [hxs]))
  have ih:=Vu i k m hm q Q suf (pre++[a]) kk true (by simp [hxs]) (by simpa using hk)
  have hif:(if a::suf=[] then d else true)=true:=by simp
  simp only [Ah,List.map_append,List.map_cons,List.map_nil,List.append_assoc,List.cons_append,List.nil_append,Jf,ite_self] at ih
  simp only [oS,List.map_cons] at hs hg hset ⊢
  rw [Ai (Wp.eq_1),hif]
  cases d<;>simp +contextual -dsimp -implicitDefEqProofs (maxSteps:=5000000) only [h2,h3,h4,hg,hset,hg',hset',hs,gLs,go_sem,simprocAttr]<;>exact ih
theorem iI (i:Nat) (m:Ac) (hm:SmM m):Aa (Lv ctx (i+3)) 37 [oM m]=some (.tup []):=by
 have e0:=Sn i m.words hm.w0 hm.w1 hm.w2 hm.w3
 have e1:=Qs (i+1) m.trace hm.tr
 refine Af rfl (m.sess.length+1) (by rfl) ?_
 delta c37
 have hl:=fun q Q d=>Vu i (m.sess.length+1) m hm q Q m.sess [] m.sess.length d rfl (by omega)
 simp only [List.length_nil,Int.natCast_zero,List.map_nil,List.nil_append] at hl
 simp +contextual -dsimp -implicitDefEqProofs (maxSteps:=5000000) only [gLs,e0,go_sem,simprocAttr]
 refine Eq.mpr (hl _ _ false) ?_
 generalize (if m.sess=[] then false else true)=dd
 cases dd<;>simp +contextual -dsimp -implicitDefEqProofs (maxSteps:=5000000) only [e1,go_sem,simprocAttr]
end Ve
