/- Scripts: copied, held against each other, spoiled; may one be, by the reference. -/
import Derived.Test.YtjgbbmcjbfpjfaaGreatVeSD
import Derived.Test.YtjgbbmcjbfpjfaaGreatVeSC
import Derived.Test.YtjgbbmcjbfpjfaaGreatVeP
set_option linter.all false
set_option linter.unusedSectionVars false
namespace Ve
open Go Ve.Ab
set_option maxHeartbeats 16000000
set_option maxRecDepth 10000
theorem MY (i k:Nat) (pa na pb nb:Bool) (xs ys:List AR) (hx:xs.length≤BB) (q:Out→St→Option Ans) (Q:V→Hp→Nat→Prop) (u:Dum (fun s q=>evC ctx (Lv ctx i) (Aa (Lv ctx i)) k Rj s (Al [0,1,5] q))) (w:Dum q):∀ (suf suf' pre pre':List AR) (kk:Nat),xs=pre++suf→ys=pre'++suf'→pre.length=pre'.length→suf.length=suf'.length→suf.length<kk →
  GL 0 [0,1,5] (fun s q=>evC ctx (Lv ctx i) (Aa (Lv ctx i)) k Rj s (Al [0,1,5] q)) q kk ⟨Ae [0,1,5] [.isl pa na 2 (xs.map eSl),.isl pb nb 2 (ys.map eSl),iV pre.length],Af,0⟩ Q u w=FS (decide (suf=suf')) q Q ⟨Ae [] [],Af,0⟩ ⟨Ae [4] [bV false],Af,0⟩
 | [],suf',pre,pre',kk,hxs,hys,hpl,hsl,hk=>by
  obtain ⟨kk,rfl⟩:∃ m,kk=m+1:=⟨kk - 1,by simp at hk;omega⟩
  obtain rfl:suf'=[]:=by cases suf'<;>simp_all
  have h1:decide ((pre.length:Int)<xs.length)=false:=by simp [hxs]
  simp +contextual -dsimp -implicitDefEqProofs (maxSteps:=5000000) only [gLs,↓Ah (Rj.eq_1),h1,Ck,go_sem,simprocAttr]
 | a::suf,[],pre,pre',kk,hxs,hys,hpl,hsl,hk=>by simp at hsl
 | a::suf,b::suf',pre,pre',kk,hxs,hys,hpl,hsl,hk=>by
  obtain ⟨kk,rfl⟩:∃ m,kk=m+1:=⟨kk - 1,by simp at hk;omega⟩
  have hl:pre.length<xs.length:=by simp [hxs]
  have hl':pre.length<ys.length:=by simp [hys,hpl]
  have h2:((pre.length:Int)<xs.length)=True:=by simpa using hl
  have h2':((pre.length:Int)<ys.length)=True:=by simpa using hl'
  have h3:(0≤(pre.length:Int))=True:=by simp
  have h4:=wrN pre.length (by omega)
  have hg:xs[pre.length]?=some a:=by simp [hxs]
  have hg':ys[pre.length]?=some b:=by simp [hys,hpl]
  have ih:=MY i k pa na pb nb xs ys hx q Q u w suf suf' (pre++[a]) (pre'++[b]) kk (by simp [hxs]) (by simp [hys]) (by simpa using hpl) (by simpa using hsl) (by simpa using hk)
  rw [Ag] at ih
  by_cases hab:a=b
  ·subst hab
   have hd:decide (a::suf=a::suf')=decide (suf=suf'):=by simp
   rw [hd]
   simp +contextual -dsimp -implicitDefEqProofs (maxSteps:=5000000) only [gLs,↓Ah (Rj.eq_1),h2,h2',h3,h4,hg,hg',ih,go_sem,simprocAttr]
  ·have hne:(decide (a.level=b.level)&&(decide (a.pick=b.pick)))=false:=by cases a;cases b;simp_all
   have hd:decide (a::suf=b::suf')=false:=by simp [hab]
   rw [hd]
   simp +contextual -dsimp -implicitDefEqProofs (maxSteps:=5000000) only [gLs,↓Ah (Rj.eq_1),h2,h2',h3,h4,hg,hg',hne,Cl,go_sem,simprocAttr]
theorem Tt (i:Nat) (pa na pb nb:Bool) (xs ys:List AR) (hx:xs.length≤BB):Aa (Lv ctx (i+1)) 55 [.isl pa na 2 (xs.map eSl),.isl pb nb 2 (ys.map eSl)]=some (bV (decide (xs=ys))):=by
 refine Ac rfl (xs.length+1) (by rfl) ?_
 delta c55
 by_cases hl:xs.length=ys.length
 ·have h1:decide ((xs.length:Int)=ys.length)=true:=by simp [hl]
  have h2:=fun q Q u w=>MY i (xs.length+1) pa na pb nb xs ys hx q Q u w xs ys [] [] (xs.length+1) rfl rfl rfl hl (by omega)
  simp only [List.length_nil,Int.natCast_zero] at h2
  cases hb:decide (xs=ys)<;>rw [hb] at h2<;>simp +contextual -dsimp -implicitDefEqProofs (maxSteps:=5000000) only [h1,h2,Ck,Cl,go_sem,simprocAttr]
 ·have h1:decide ((xs.length:Int)=ys.length)=false:=by simpa using fun h:(xs.length:Int)=ys.length=>hl (by omega)
  have h2:decide (xs=ys)=false:=by simpa using fun h:xs=ys=>hl (by rw [h])
  simp +contextual -dsimp -implicitDefEqProofs (maxSteps:=5000000) only [h1,h2,go_sem,simprocAttr]
theorem Uh (i k:Nat) (pa na pb nb:Bool) (xs ys:List Int) (hx:xs.length≤BB) (q:Out→St→Option Ans) (Q:V→Hp→Nat→Prop) (u:Dum (fun s q=>evC ctx (Lv ctx i) (Aa (Lv ctx i)) k Rk s (Al [0,1,5] q))) (w:Dum q):∀ (suf suf' pre pre':List Int) (kk:Nat),xs=pre++suf→ys=pre'++suf'→pre.length=pre'.length→suf.length=suf'.length→suf.length<kk →
  GL 0 [0,1,5] (fun s q=>evC ctx (Lv ctx i) (Aa (Lv ctx i)) k Rk s (Al [0,1,5] q)) q kk ⟨Ae [0,1,5] [.isl pa na 1 (xs.map iV),.isl pb nb 1 (ys.map iV),iV pre.length],Af,0⟩ Q u w=FS (decide (suf=suf')) q Q ⟨Ae [] [],Af,0⟩ ⟨Ae [4] [bV false],Af,0⟩
 | [],suf',pre,pre',kk,hxs,hys,hpl,hsl,hk=>by
  obtain ⟨kk,rfl⟩:∃ m,kk=m+1:=⟨kk - 1,by simp at hk;omega⟩
  obtain rfl:suf'=[]:=by cases suf'<;>simp_all
  have h1:decide ((pre.length:Int)<xs.length)=false:=by simp [hxs]
  simp +contextual -dsimp -implicitDefEqProofs (maxSteps:=5000000) only [gLs,↓Ah (Rk.eq_1),h1,Ck,go_sem,simprocAttr]
 | a::suf,[],pre,pre',kk,hxs,hys,hpl,hsl,hk=>by simp at hsl
 | a::suf,b::suf',pre,pre',kk,hxs,hys,hpl,hsl,hk=>by
  obtain ⟨kk,rfl⟩:∃ m,kk=m+1:=⟨kk - 1,by simp at hk;omega⟩
  have hl:pre.length<xs.length:=by simp [hxs]
  have hl':pre.length<ys.length:=by simp [hys,hpl]
  have h2:((pre.length:Int)<xs.length)=True:=by simpa using hl
  have h2':((pre.length:Int)<ys.length)=True:=by simpa using hl'
  have h3:(0≤(pre.length:Int))=True:=by simp
  have h4:=wrN pre.length (by omega)
  have hg:xs[pre.length]?=some a:=by simp [hxs]
  have hg':ys[pre.length]?=some b:=by simp [hys,hpl]
  have ih:=Uh i k pa na pb nb xs ys hx q Q u w suf suf' (pre++[a]) (pre'++[b]) kk (by simp [hxs]) (by simp [hys]) (by simpa using hpl) (by simpa using hsl) (by simpa using hk)
  rw [Ag] at ih
  by_cases hab:a=b
  ·subst hab
   have hd:decide (a::suf=a::suf')=decide (suf=suf'):=by simp
   rw [hd]
   simp +contextual -dsimp -implicitDefEqProofs (maxSteps:=5000000) only [gLs,↓Ah (Rk.eq_1),h2,h2',h3,h4,hg,hg',ih,go_sem,simprocAttr]
  ·have hne:decide (a=b)=false:=by simpa using hab
   have hd:decide (a::suf=b::suf')=false:=by simp [hab]
   rw [hd]
   simp +contextual -dsimp -implicitDefEqProofs (maxSteps:=5000000) only [gLs,↓Ah (Rk.eq_1),h2,h2',h3,h4,hg,hg',hne,Cl,go_sem,simprocAttr]
theorem Le (i:Nat) (pa na pb nb:Bool) (xs ys:List Int) (hx:xs.length≤BB):Aa (Lv ctx (i+1)) 54 [.isl pa na 1 (xs.map iV),.isl pb nb 1 (ys.map iV)]=some (bV (decide (xs=ys))):=by
 refine Ac rfl (xs.length+1) (by rfl) ?_
 delta c54
 by_cases hl:xs.length=ys.length
 ·have h1:decide ((xs.length:Int)=ys.length)=true:=by simp [hl]
  have h2:=fun q Q u w=>Uh i (xs.length+1) pa na pb nb xs ys hx q Q u w xs ys [] [] (xs.length+1) rfl rfl rfl hl (by omega)
  simp only [List.length_nil,Int.natCast_zero] at h2
  cases hb:decide (xs=ys)<;>rw [hb] at h2<;>simp +contextual -dsimp -implicitDefEqProofs (maxSteps:=5000000) only [h1,h2,Ck,Cl,go_sem,simprocAttr]
 ·have h1:decide ((xs.length:Int)=ys.length)=false:=by simpa using fun h:(xs.length:Int)=ys.length=>hl (by omega)
  have h2:decide (xs=ys)=false:=by simpa using fun h:xs=ys=>hl (by rw [h])
  simp +contextual -dsimp -implicitDefEqProofs (maxSteps:=5000000) only [h1,h2,go_sem,simprocAttr]
def JV (a:AR):AR:={ a with pick:=RD a.pick 90 }
theorem Lx (i k:Nat) (xs:List AR) (hx:xs.length≤BB) (q:Out→St→Option Ans) (Q:V→Hp→Nat→Prop):∀ (suf pre:List AR) (kk:Nat),xs=pre++suf→suf.length<kk+1 →
  Fin (evC ctx (Lv ctx i) (Aa (Lv ctx i)) k Vb ⟨Ae [0,2] [.sl 0,iV pre.length],pO Af 0 (some ⟨2,(pre.map JV).map eSl++suf.map eSl,false⟩),1⟩ (Al [0,2] fun o s=>BZ (Bp 1 [0,2] (fun s q=>evC ctx (Lv ctx i) (Aa (Lv ctx i)) k Vb s (Al [0,2] q)) q kk) q o s)) Q =
  Fin (q (.exit 0) ⟨Ae [] [],pO Af 0 (some ⟨2,(xs.map JV).map eSl,false⟩),1⟩) Q
 | [],pre,kk,hxs,hk=>by
  have h1:decide ((pre.length:Int)<(pre.length:Int))=false:=by simp
  have h2:xs=pre:=by simp [hxs]
  rw [Ah (Vb.eq_1)]
  simp only [List.map_nil,List.append_nil]
  rw [h2]
  simp +contextual -dsimp -implicitDefEqProofs (maxSteps:=5000000) only [h1,List.length_map,go_sem,simprocAttr]
 | a::suf,pre,kk,hxs,hk=>by
  obtain ⟨kk,rfl⟩:∃ m,kk=m+1:=⟨kk - 1,by simp at hk;omega⟩
  have h2:((pre.length:Int)<((pre.length+(suf.length+1):Nat):Int))=True:=by simp;omega
  have h3:(0≤(pre.length:Int))=True:=by simp
  have h4:=wrN pre.length (by rw [hxs] at hx;simp at hx;omega)
  have hg:((pre.map JV).map eSl++(a::suf).map eSl)[pre.length]?=some (eSl a):=by simp
  have hset:∀ x,((pre.map JV).map eSl++(a::suf).map eSl).set pre.length x=(pre.map JV).map eSl++x::suf.map eSl:=by intro x;simp [List.set_append]
  have ih:=Lx i k xs hx q Q suf (pre++[a]) kk (by simp [hxs]) (by simpa using hk)
  simp only [Ag,List.map_append,List.map_cons,List.map_nil,List.append_assoc,List.cons_append,List.nil_append,eSl,JV] at ih
  simp only [eSl,List.map_cons] at hg hset ⊢
  rw [Ah (Vb.eq_1)]
  simp +contextual -dsimp -implicitDefEqProofs (maxSteps:=5000000) only [h2,h3,h4,hg,hset,gLs,go_sem,simprocAttr]
  exact ih
theorem RJ (i:Nat) (xs:List AR) (hx:xs.length≤BB):Aa (Lv ctx (i+1)) 66 [.own 2 (xs.map eSl)]=some (.tup []):=by
 refine Ac rfl (xs.length+1) (by rfl) ?_
 delta c66
 have hl:=fun q Q=>Lx i (xs.length+1) xs hx q Q xs [] xs.length rfl (by omega)
 simp only [List.length_nil,Int.natCast_zero,List.map_nil,List.nil_append] at hl
 simp +contextual -dsimp -implicitDefEqProofs (maxSteps:=5000000) only [gLs,go_sem,simprocAttr]
 refine Eq.mpr (hl _ _) ?_
 simp +contextual -dsimp -implicitDefEqProofs (maxSteps:=5000000) only [go_sem,simprocAttr]
def aV (a:Int):Int:=wr (-9 - a)
theorem QF (i k:Nat) (xs:List Int) (hx:xs.length≤BB) (q:Out→St→Option Ans) (Q:V→Hp→Nat→Prop):∀ (suf pre:List Int) (kk:Nat),xs=pre++suf→suf.length<kk+1 →
  Fin (evC ctx (Lv ctx i) (Aa (Lv ctx i)) k Vd ⟨Ae [0,2] [.sl 0,iV pre.length],pO Af 0 (some ⟨1,(pre.map aV).map iV++suf.map iV,false⟩),1⟩ (Al [0,2] fun o s=>BZ (Bp 1 [0,2] (fun s q=>evC ctx (Lv ctx i) (Aa (Lv ctx i)) k Vd s (Al [0,2] q)) q kk) q o s)) Q =
  Fin (q (.exit 0) ⟨Ae [] [],pO Af 0 (some ⟨1,(xs.map aV).map iV,false⟩),1⟩) Q
 | [],pre,kk,hxs,hk=>by
  have h1:decide ((pre.length:Int)<(pre.length:Int))=false:=by simp
  have h2:xs=pre:=by simp [hxs]
  rw [Ah (Vd.eq_1)]
  simp only [List.map_nil,List.append_nil]
  rw [h2]
  simp +contextual -dsimp -implicitDefEqProofs (maxSteps:=5000000) only [h1,List.length_map,go_sem,simprocAttr]
 | a::suf,pre,kk,hxs,hk=>by
  obtain ⟨kk,rfl⟩:∃ m,kk=m+1:=⟨kk - 1,by simp at hk;omega⟩
  have h2:((pre.length:Int)<((pre.length+(suf.length+1):Nat):Int))=True:=by simp;omega
  have h3:(0≤(pre.length:Int))=True:=by simp
  have h4:=wrN pre.length (by rw [hxs] at hx;simp at hx;omega)
  have hg:((pre.map aV).map iV++(a::suf).map iV)[pre.length]?=some (iV a):=by simp
  have hset:∀ x,((pre.map aV).map iV++(a::suf).map iV).set pre.length x=(pre.map aV).map iV++x::suf.map iV:=by intro x;simp [List.set_append]
  have ih:=QF i k xs hx q Q suf (pre++[a]) kk (by simp [hxs]) (by simpa using hk)
  simp only [Ag,List.map_append,List.map_cons,List.map_nil,List.append_assoc,List.cons_append,List.nil_append,aV] at ih
  simp only [List.map_cons] at hg hset ⊢
  rw [Ah (Vd.eq_1)]
  simp +contextual -dsimp -implicitDefEqProofs (maxSteps:=5000000) only [h2,h3,h4,hg,hset,gLs,go_sem,simprocAttr]
  exact ih
theorem JZ (i:Nat) (xs:List Int) (hx:xs.length≤BB):Aa (Lv ctx (i+1)) 64 [.own 1 (xs.map iV)]=some (.tup []):=by
 refine Ac rfl (xs.length+1) (by rfl) ?_
 delta c64
 have hl:=fun q Q=>QF i (xs.length+1) xs hx q Q xs [] xs.length rfl (by omega)
 simp only [List.length_nil,Int.natCast_zero,List.map_nil,List.nil_append] at hl
 simp +contextual -dsimp -implicitDefEqProofs (maxSteps:=5000000) only [gLs,go_sem,simprocAttr]
 refine Eq.mpr (hl _ _) ?_
 simp +contextual -dsimp -implicitDefEqProofs (maxSteps:=5000000) only [go_sem,simprocAttr]
abbrev zSc:V:=.agg [.own 1 [],.own 1 [],.own 1 [],.own 1 [],iV 0,.own 4 [],.own 2 []]
abbrev hCS (p:Bool) (s:Aq) (els:List V):Hp:=pO (pO (pO (pO Af 0 (some ⟨7,[zSc],false⟩)) 1 none) 2 (some ⟨2,s.slots.map eSl,!p⟩)) 3 (some ⟨7,[.agg [oNs s.words.a0,oNs s.words.a1,oNs s.words.a2,oNs s.words.a3,iV s.ceil,.own 4 els,.sl 2]],true⟩)
theorem kF (i k:Nat) (p:Bool) (s:Aq) (hs:CK s) (q:Out→St→Option Ans) (Q:V→Hp→Nat→Prop) (u:Dum (fun s q=>evC ctx (Lv ctx (i+0)) (Aa (Lv ctx (i+0))) k Vo s (Al [1,2,3,5] q))) (w:Dum q)
  (hend:Fin (q (.exit 2) ⟨Ae [2,3] [.ptr 0 0 0,.ptr 3 0 0],hCS p s (s.starts.map oSt),4⟩) Q):∀ (suf pre:List Bk) (kk:Nat),s.starts=pre++suf→suf.length<kk →
  GL 4 [1,2,3,5] (fun s q=>evC ctx (Lv ctx (i+0)) (Aa (Lv ctx (i+0))) k Vo s (Al [1,2,3,5] q)) q kk ⟨Ae [1,2,3,5] [.ip p (cSc p s) 0,.ptr 0 0 0,.ptr 3 0 0,iV pre.length],hCS p s (pre.map oSt),4⟩ Q u w
 | [],pre,kk,hxs,hk=>by
  obtain ⟨kk,rfl⟩:∃ m,kk=m+1:=⟨kk - 1,by simp at hk;omega⟩
  have h1:decide ((pre.length:Int)<s.starts.length)=false:=by simp [hxs]
  have h2:s.starts=pre:=by simp [hxs]
  rw [h2] at hend
  cases p
  all_goals
   simp +contextual -dsimp -implicitDefEqProofs (maxSteps:=5000000) only [gLs,↓Ah (Vo.eq_1),h1,go_sem,simprocAttr]
   exact hend
 | a::suf,pre,kk,hxs,hk=>by
  obtain ⟨kk,rfl⟩:∃ m,kk=m+1:=⟨kk - 1,by simp at hk;omega⟩
  have hl:pre.length<s.starts.length:=by simp [hxs]
  have h2:((pre.length:Int)<s.starts.length)=True:=by simpa using hl
  have h3:(0≤(pre.length:Int))=True:=by simp
  have h4:=wrN pre.length (by have:=hs.bst;simp only [BB];omega)
  have hg:s.starts[pre.length]?=some a:=by simp [hxs]
  have h5:(((pre.length+1:Nat):Int)*48≤140737488355328)=True:=by
   have:=hs.bst
   simp only [eq_iff_iff,iff_true]
   omega
  have h6:((a.prog.length:Int)*32≤140737488355328)=True:=by
   have:=hs.p a (by simp [hxs])
   simp only [eq_iff_iff,iff_true]
   omega
  have ih:=kF i k p s hs q Q u w hend suf (pre++[a]) kk (by simp [hxs]) (by simpa using hk)
  simp only [Ag,List.map_append,List.map_cons,List.map_nil,oSt] at ih
  cases p
  all_goals
   simp +contextual -dsimp -implicitDefEqProofs (maxSteps:=5000000) only [gLs,↓Ah (Vo.eq_1),h2,h3,h4,h5,h6,hg,List.replicate,List.length_append,List.length_cons,Nat.zero_add,go_sem,simprocAttr]
   obtain ⟨kk,rfl⟩:∃ m,kk=m+1:=⟨kk - 1,by simp at hk;omega⟩
   simp +contextual -dsimp -implicitDefEqProofs (maxSteps:=5000000) only [gLs,go_sem,simprocAttr] at ih ⊢
   exact ih
theorem NZ (i:Nat) (p:Bool) (s:Aq) (hs:CK s):Aa (Lv ctx (i+1)) 10 [eSc p s]=some (oSc s):=by
 have hb:=fun (n:Nat) (h:n≤1048576)=>(by simp only [eq_iff_iff,iff_true];omega:((n:Int)*8≤140737488355328)=True)
 have b0:=hb _ hs.b0
 have b1:=hb _ hs.b1
 have b2:=hb _ hs.b2
 have b3:=hb _ hs.b3
 have b4:((s.slots.length:Int)*16≤140737488355328)=True:=by have:=hs.bsl;simp only [eq_iff_iff,iff_true];omega
 refine Ac rfl (s.starts.length+6) (by rfl) ?_
 delta c10
 cases p
 all_goals
  simp +contextual -dsimp -implicitDefEqProofs (maxSteps:=5000000) only [gLs 4 [1,2,3,4],↓Ah (xV.eq_1),b0,b1,b2,b3,b4,List.replicate,List.length_append,List.length_cons,Nat.zero_add,List.nil_append,List.append_nil,go_sem,simprocAttr]
  refine kF i _ _ s hs _ _ _ _ ?_ s.starts [] _ (by simp) (by omega)
  simp +contextual -dsimp -implicitDefEqProofs (maxSteps:=5000000) only [go_sem,simprocAttr]
theorem xF (i k:Nat) (pa pb:Bool) (a b:Aq) (hm:CK a) (q:Out→St→Option Ans) (Q:V→Hp→Nat→Prop) (u:Dum (fun s q=>evC ctx (Lv ctx (i+1)) (Aa (Lv ctx (i+1))) k LU s (Al [2,3,6] q))) (w:Dum q) (r:Bool)
  (hend:r=true→Fin (q (.exit 2) ⟨Ae [] [],Af,0⟩) Q) (hret:∀ h n,r=false→Fin (q .ret ⟨Ae [4] [bV false],h,n⟩) Q):∀ (suf suf' pre pre':List Bk) (kk:Nat),a.starts=pre++suf→b.starts=pre'++suf'→pre.length=pre'.length→suf.length=suf'.length→suf.length<kk→decide (suf=suf')=r →
  GL 0 [2,3,6] (fun s q=>evC ctx (Lv ctx (i+1)) (Aa (Lv ctx (i+1))) k LU s (Al [2,3,6] q)) q kk ⟨Ae [2,3,6] [.ip pa (cSc pa a) 0,.ip pb (cSc pb b) 0,iV pre.length],Af,0⟩ Q u w
 | [],suf',pre,pre',kk,hxs,hys,hpl,hsl,hk,hr=>by
  obtain ⟨kk,rfl⟩:∃ m,kk=m+1:=⟨kk - 1,by simp at hk;omega⟩
  obtain rfl:suf'=[]:=by cases suf'<;>simp_all
  have h1:decide ((pre.length:Int)<a.starts.length)=false:=by simp [hxs]
  have he:=hend (by rw [← hr];rfl)
  simp +contextual -dsimp -implicitDefEqProofs (maxSteps:=5000000) only [gLs,↓Ah (LU.eq_1),h1,go_sem,simprocAttr]
  exact he
 | x::suf,[],pre,pre',kk,hxs,hys,hpl,hsl,hk,hr=>by simp at hsl
 | x::suf,y::suf',pre,pre',kk,hxs,hys,hpl,hsl,hk,hr=>by
  obtain ⟨kk,rfl⟩:∃ m,kk=m+1:=⟨kk - 1,by simp at hk;omega⟩
  have hl:pre.length<a.starts.length:=by simp [hxs]
  have hl':pre.length<b.starts.length:=by simp [hys,hpl]
  have h2:((pre.length:Int)<a.starts.length)=True:=by simpa using hl
  have h2':((pre.length:Int)<b.starts.length)=True:=by simpa using hl'
  have h3:(0≤(pre.length:Int))=True:=by simp
  have h4:=wrN pre.length (by have:=hm.bst;simp only [BB];omega)
  have hg:a.starts[pre.length]?=some x:=by simp [hxs]
  have hg':b.starts[pre.length]?=some y:=by simp [hys,hpl]
  have hsI:=MR (i+(1 - 1)) pa false pb false x.prog y.prog (by have:=hm.p x (by simp [hxs]);simp only [BB];omega)
  simp only [Nat.reduceSub,Nat.add_assoc,Nat.reduceAdd] at hsI
  have hd:decide (x::suf=y::suf')=(decide (x.id=y.id)&&(decide (x.label=y.label)&&(decide (x.clear=y.clear)&&(decide (x.prog=y.prog)&&decide (suf=suf'))))):=by
   rw [Bool.eq_iff_iff]
   simp only [Bool.and_eq_true,decide_eq_true_eq,List.cons.injEq]
   rcases x with ⟨_,_,_,_⟩;rcases y with ⟨_,_,_,_⟩;simp [and_assoc]
  rw [hd] at hr
  cases c1:decide (x.id=y.id)
  ·have he:=fun h n=>hret h n (by rw [← hr,c1];rfl)
   cases pa<;>cases pb<;>(simp +contextual -dsimp -implicitDefEqProofs (maxSteps:=5000000) only [gLs,↓Ah (LU.eq_1),h2,h2',h3,h4,hg,hg',c1,eSt,go_sem,simprocAttr];exact he _ _)
  ·cases c2:decide (x.label=y.label)
   ·have he:=fun h n=>hret h n (by rw [← hr,c1,c2];rfl)
    cases pa<;>cases pb<;>(simp +contextual -dsimp -implicitDefEqProofs (maxSteps:=5000000) only [gLs,↓Ah (LU.eq_1),h2,h2',h3,h4,hg,hg',c1,c2,eSt,go_sem,simprocAttr];exact he _ _)
   ·cases c3:decide (x.clear=y.clear)
    ·have he:=fun h n=>hret h n (by rw [← hr,c1,c2,c3];rfl)
     cases pa<;>cases pb<;>(simp +contextual -dsimp -implicitDefEqProofs (maxSteps:=5000000) only [gLs,↓Ah (LU.eq_1),h2,h2',h3,h4,hg,hg',c1,c2,c3,eSt,go_sem,simprocAttr];exact he _ _)
    ·cases c4:decide (x.prog=y.prog)
     ·have he:=fun h n=>hret h n (by rw [← hr,c1,c2,c3,c4];rfl)
      rw [c4] at hsI
      cases pa<;>cases pb<;>(simp +contextual -dsimp -implicitDefEqProofs (maxSteps:=5000000) only [gLs,↓Ah (LU.eq_1),h2,h2',h3,h4,hg,hg',c1,c2,c3,hsI,eSt,go_sem,simprocAttr];exact he _ _)
     ·have ih:=xF i k pa pb a b hm q Q u w r hend hret suf suf' (pre++[x]) (pre'++[y]) kk (by simp [hxs]) (by simp [hys]) (by simpa using hpl) (by simpa using hsl) (by simpa using hk) (by rw [← hr,c1,c2,c3,c4];rfl)
      rw [Ag] at ih
      rw [c4] at hsI
      cases pa<;>cases pb<;>(simp +contextual -dsimp -implicitDefEqProofs (maxSteps:=5000000) only [gLs,↓Ah (LU.eq_1),h2,h2',h3,h4,hg,hg',c1,c2,c3,hsI,eSt,go_sem,simprocAttr];exact (AA (by rfl)).mpr ih)
theorem a8k (a b:Aq):a=b↔((a.words.a0=b.words.a0∧a.words.a1=b.words.a1∧a.words.a2=b.words.a2∧a.words.a3=b.words.a3)∧a.ceil=b.ceil∧a.slots=b.slots)∧a.starts=b.starts:=by
 rcases a with ⟨⟨_,_,_,_⟩,_,_,_⟩;rcases b with ⟨⟨_,_,_,_⟩,_,_,_⟩;simp only [Aq.mk.injEq,A4.mk.injEq]
 constructor
 ·rintro ⟨⟨h2,h3,h4,h5⟩,h6,h7,h8⟩;simp [*]
 ·rintro ⟨⟨⟨h2,h3,h4,h5⟩,h6,h7⟩,h8⟩;simp [*]
theorem Je (i:Nat) (pa pb:Bool) (a b:Aq) (hm:CK a):Aa (Lv ctx (i+2)) 20 [eSc pa a,eSc pb b]=some (bV (decide (a=b))):=by
 have hbb:=fun (n:Nat) (h:n≤1048576)=>(by simp only [BB];omega:n≤BB)
 have e0:=Le (i+(1 - 1)) pa false pb false a.words.a0 b.words.a0 (hbb _ hm.b0)
 have e1:=Le (i+(1 - 1)) pa false pb false a.words.a1 b.words.a1 (hbb _ hm.b1)
 have e2:=Le (i+(1 - 1)) pa false pb false a.words.a2 b.words.a2 (hbb _ hm.b2)
 have e3:=Le (i+(1 - 1)) pa false pb false a.words.a3 b.words.a3 (hbb _ hm.b3)
 have e4:=Tt (i+(1 - 1)) pa false pb false a.slots b.slots (hbb _ hm.bsl)
 have hL:decide ((a.starts.length:Int)=b.starts.length)=decide (a.starts.length=b.starts.length):=by apply decide_eq_decide.mpr;omega
 simp only [Nat.reduceSub,Nat.add_assoc,Nat.reduceAdd] at e0 e1 e2 e3 e4
 have no:∀ h:(¬ ((a.words.a0=b.words.a0∧a.words.a1=b.words.a1∧a.words.a2=b.words.a2∧a.words.a3=b.words.a3)∧a.ceil=b.ceil∧a.slots=b.slots))∨¬ a.starts.length=b.starts.length,decide (a=b)=false:=by
  intro h
  rw [decide_eq_false_iff_not]
  intro e
  subst e
  simp at h
 refine Ac rfl (a.starts.length+6) (by rfl) ?_
 delta c20
 cases c0:decide (a.words.a0=b.words.a0)
 ·rw [no (.inl fun h=>by rw [decide_eq_true h.1.1] at c0;cases c0)]
  simp +contextual -dsimp -implicitDefEqProofs (maxSteps:=5000000) only [gLs 0 [2,3,5],↓Ah (LV.eq_1),e0,c0,go_sem,simprocAttr]
 ·cases c1:decide (a.words.a1=b.words.a1)
  ·rw [no (.inl fun h=>by rw [decide_eq_true h.1.2.1] at c1;cases c1)]
   simp +contextual -dsimp -implicitDefEqProofs (maxSteps:=5000000) only [gLs 0 [2,3,5],↓Ah (LV.eq_1),e0,e1,c0,c1,go_sem,simprocAttr]
  ·cases c2:decide (a.words.a2=b.words.a2)
   ·rw [no (.inl fun h=>by rw [decide_eq_true h.1.2.2.1] at c2;cases c2)]
    simp +contextual -dsimp -implicitDefEqProofs (maxSteps:=5000000) only [gLs 0 [2,3,5],↓Ah (LV.eq_1),e0,e1,e2,c0,c1,c2,go_sem,simprocAttr]
   ·cases c3:decide (a.words.a3=b.words.a3)
    ·rw [no (.inl fun h=>by rw [decide_eq_true h.1.2.2.2] at c3;cases c3)]
     simp +contextual -dsimp -implicitDefEqProofs (maxSteps:=5000000) only [gLs 0 [2,3,5],↓Ah (LV.eq_1),e0,e1,e2,e3,c0,c1,c2,c3,go_sem,simprocAttr]
    ·cases c4:decide (a.ceil=b.ceil)
     ·rw [no (.inl fun h=>by rw [decide_eq_true h.2.1] at c4;cases c4)]
      simp +contextual -dsimp -implicitDefEqProofs (maxSteps:=5000000) only [gLs 0 [2,3,5],↓Ah (LV.eq_1),e0,e1,e2,e3,c0,c1,c2,c3,c4,go_sem,simprocAttr]
     ·cases c5:decide (a.starts.length=b.starts.length)
      ·rw [no (.inr fun h=>by rw [decide_eq_true h] at c5;cases c5)]
       simp +contextual -dsimp -implicitDefEqProofs (maxSteps:=5000000) only [gLs 0 [2,3,5],↓Ah (LV.eq_1),e0,e1,e2,e3,c0,c1,c2,c3,c4,hL,c5,go_sem,simprocAttr]
      ·cases c6:decide (a.slots=b.slots)
       ·rw [no (.inl fun h=>by rw [decide_eq_true h.2.2] at c6;cases c6)]
        simp +contextual -dsimp -implicitDefEqProofs (maxSteps:=5000000) only [gLs 0 [2,3,5],↓Ah (LV.eq_1),e0,e1,e2,e3,e4,c0,c1,c2,c3,c4,hL,c5,c6,go_sem,simprocAttr]
       ·have key:decide (a=b)=decide (a.starts=b.starts):=by
         apply decide_eq_decide.mpr
         rw [a8k]
         simp only [decide_eq_true_eq] at c0 c1 c2 c3 c4 c6
         simp only [c0,c1,c2,c3,c4,c6,and_self,true_and]
        have hlen:a.starts.length=b.starts.length:=by simpa using c5
        have h2:=fun k q Q u w kk hk r hr he hf=>xF i k pa pb a b hm q Q u w r he hf a.starts b.starts [] [] kk rfl rfl rfl hlen hk hr
        simp only [List.length_nil,Int.natCast_zero] at h2
        rw [key]
        simp +contextual -dsimp -implicitDefEqProofs (maxSteps:=5000000) only [gLs 0 [2,3,5],↓Ah (LV.eq_1),e0,e1,e2,e3,e4,c0,c1,c2,c3,c4,hL,c5,c6,go_sem,simprocAttr]
        refine h2 _ _ _ _ _ _ (by omega) _ rfl (fun h=>?_) (fun _ _ h=>?_)
        ·rw [h];simp +contextual -dsimp -implicitDefEqProofs (maxSteps:=5000000) only [go_sem,simprocAttr]
        ·rw [h];simp +contextual -dsimp -implicitDefEqProofs (maxSteps:=5000000) only [go_sem,simprocAttr]
abbrev hSS (s:Aq) (els:List V) (d:Bool):Hp:=pO (pO (pO (pO (pO (pO (pO Af 0 none) 1 none) 2 none) 3 none) 4 (some ⟨4,els,d⟩)) 5 (some ⟨2,s.slots.map eSl,false⟩)) 6 (some ⟨7,[.agg [.sl 0,.sl 1,.sl 2,.sl 3,iV s.ceil,.sl 4,.sl 5]],true⟩)
theorem QE (i k:Nat) (s:Aq) (hs:CK s) (q:Out→St→Option Ans) (Q:V→Hp→Nat→Prop) (u:Dum (fun s q=>evC ctx (Lv ctx (i+1)) (Aa (Lv ctx (i+1))) k Vi s (Al [1,3] q))) (w:Dum q)
  (hend:∀ d,Fin (q (.exit 2) ⟨Ae [1] [.ptr 6 0 0],hSS s (s.starts.map Gq) d,7⟩) Q):∀ (suf pre:List Bk) (kk:Nat) (d:Bool),s.starts=pre++suf→suf.length<kk →
  GL 7 [1,3] (fun s q=>evC ctx (Lv ctx (i+1)) (Aa (Lv ctx (i+1))) k Vi s (Al [1,3] q)) q kk ⟨Ae [1,3] [.ptr 6 0 0,iV pre.length],hSS s (pre.map Gq++suf.map oSt) d,7⟩ Q u w
 | [],pre,kk,d,hxs,hk=>by
  obtain ⟨kk,rfl⟩:∃ m,kk=m+1:=⟨kk - 1,by simp at hk;omega⟩
  have h1:decide ((pre.length:Int)<(pre.length:Int))=false:=by simp
  have h2:s.starts=pre:=by simp [hxs]
  rw [h2] at hend
  have he:=hend d
  simp only [List.map_nil,List.append_nil]
  cases d
  all_goals
   simp +contextual -dsimp -implicitDefEqProofs (maxSteps:=5000000) only [gLs,↓Ah (Vi.eq_1),h1,List.length_map,go_sem,simprocAttr]
   exact he
 | a::suf,pre,kk,d,hxs,hk=>by
  obtain ⟨kk,rfl⟩:∃ m,kk=m+1:=⟨kk - 1,by simp at hk;omega⟩
  have h2:((pre.length:Int)<((pre.length+(suf.length+1):Nat):Int))=True:=by simp;omega
  have h3:(0≤(pre.length:Int))=True:=by simp
  have h4:=wrN pre.length (by have:=hs.bst;rw [hxs] at this;simp at this;simp only [BB];omega)
  have hg:(pre.map Gq++(a::suf).map oSt)[pre.length]?=some (oSt a):=by simp
  have hset:∀ x,(pre.map Gq++(a::suf).map oSt).set pre.length x=pre.map Gq++x::suf.map oSt:=by intro x;simp [List.set_append]
  have hg':∀ x,(pre.map Gq++x::suf.map oSt)[pre.length]?=some x:=by intro x;simp
  have hset':∀ x y,(pre.map Gq++x::suf.map oSt).set pre.length y=pre.map Gq++y::suf.map oSt:=by intro x y;simp [List.set_append]
  have hI:=Ld (i+(1 - 1)) a.prog (by have:=hs.p a (by simp [hxs]);simp only [BB];omega)
  have ih:=QE i k s hs q Q u w hend suf (pre++[a]) kk true (by simp [hxs]) (by simpa using hk)
  simp only [Ag,List.map_append,List.map_cons,List.map_nil,List.append_assoc,List.cons_append,List.nil_append,Gq] at ih
  simp only [oSt,List.map_cons,Nat.reduceSub,Nat.add_assoc,Nat.reduceAdd] at hI hg hset ⊢
  cases d
  all_goals
   simp +contextual -dsimp -implicitDefEqProofs (maxSteps:=5000000) only [gLs,↓Ah (Vi.eq_1),h2,h3,h4,hg,hset,hg',hset',hI,List.length_map,go_sem,simprocAttr]
   obtain ⟨kk,rfl⟩:∃ m,kk=m+1:=⟨kk - 1,by simp at hk;omega⟩
   simp +contextual -dsimp -implicitDefEqProofs (maxSteps:=5000000) only [gLs,go_sem,simprocAttr] at ih ⊢
   exact ih
theorem bC (i:Nat) (s:Aq) (hs:CK s):Aa (Lv ctx (i+2)) 24 [oSc s]=some (.tup []):=by
 have hbb:=fun (n:Nat) (h:n≤1048576)=>(by simp only [BB];omega:n≤BB)
 have e0:=JZ (i+(1 - 1)) s.words.a0 (hbb _ hs.b0)
 have e1:=JZ (i+(1 - 1)) s.words.a1 (hbb _ hs.b1)
 have e2:=JZ (i+(1 - 1)) s.words.a2 (hbb _ hs.b2)
 have e3:=JZ (i+(1 - 1)) s.words.a3 (hbb _ hs.b3)
 have e4:=RJ (i+(1 - 1)) s.slots (hbb _ hs.bsl)
 simp only [Nat.reduceSub,Nat.add_assoc,Nat.reduceAdd] at e0 e1 e2 e3 e4
 refine Ac rfl (s.starts.length+6) (by rfl) ?_
 delta c24
 simp +contextual -dsimp -implicitDefEqProofs (maxSteps:=5000000) only [gLs 7 [1,2],↓Ah (xS.eq_1),e0,e1,e2,e3,go_sem,simprocAttr]
 refine QE i _ s hs _ _ _ _ ?_ s.starts [] _ false (by simp) (by omega)
 intro d
 cases d<;>simp +contextual -dsimp -implicitDefEqProofs (maxSteps:=5000000) only [e4,go_sem,simprocAttr]
end Ve
