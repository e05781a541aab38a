/- What of some things is under a label; whether all of some things may be. -/
import Derived.Test.YthllnfkddiaokaaGreatVeSA
import Derived.Test.YthllnfkddiaokaaGreatVeSB
import Derived.Test.YthllnfkddiaokaaGreatVeP
set_option linter.all false
set_option linter.unusedSectionVars false
namespace Ve
open Go Ve.Ab
set_option maxHeartbeats 16000000
set_option maxRecDepth 10000
theorem Vx (i k:Nat) (pf nn:Bool) (xs:List AO) (p:AO→Bool) (g:Nat) (cap:List V) (hc:Ak tbl g []) (hcap:∀ d,AG (AW (d+1)) cap=.ret cap) (hsc:AU 0 cap=cap)
  (hp:∀ a,a∈xs→Aa (Lv ctx i) g (eSl a::cap)=some (bV (p a))) (hx:xs.length≤BB) (q:Out→St→Option Ans) (Q:V→Hp→Nat→Prop) (u:Dum fun s q=>evC ctx (Lv ctx i) (Aa (Lv ctx i)) k Qj s (As [0,1,7,8] q)) (w:Dum q):∀ (suf pre:List AO) (kk:Nat),xs=pre++suf→suf.length<kk →
  GL 0 [0,1,7,8] (fun s q=>evC ctx (Lv ctx i) (Aa (Lv ctx i)) k Qj s (As [0,1,7,8] q)) q kk ⟨Ad [0,1,7,8] [.isl pf nn 2 (xs.map eSl),.fn (.func g) [] cap,iV xs.length,iV pre.length],Ag,0⟩ Q u w =
  HT q Q ⟨Ad [] [],Ag,0⟩ (fun j=>⟨Ad [4] [iV j],Ag,0⟩) (Bn p pre.length suf)
 | [],pre,kk,hxs,hk=>by
  obtain ⟨kk,rfl⟩:∃ m,kk=m+1:=⟨kk - 1,by simp at hk;omega⟩
  have h1:decide ((pre.length:Int)<xs.length)=false:=by simp [hxs]
  simp +contextual -dsimp -implicitDefEqProofs (maxSteps:=5000000) only [gLs,↓Ai (Qj.eq_1),h1,hcap,hsc,Bn,By,go_sem,simprocAttr]
 | a::suf,pre,kk,hxs,hk=>by
  obtain ⟨kk,rfl⟩:∃ m,kk=m+1:=⟨kk - 1,by simp at hk;omega⟩
  have hl:pre.length<xs.length:=by simp [hxs]
  have h1:decide ((pre.length:Int)<xs.length)=true:=by simpa using hl
  have h2:((pre.length:Int)<xs.length)=True:=by simpa using hl
  have h3:(0≤(pre.length:Int))=True:=by simp
  have h4:=wrN pre.length (by omega)
  have hg:xs[pre.length]?=some a:=by simp [hxs]
  have hpa:=hp a (by simp [hxs])
  simp only [eSl] at hpa
  have ih:=Vx i k pf nn xs p g cap hc hcap hsc hp hx q Q u w suf (pre++[a]) kk (by simp [hxs]) (by simpa using hk)
  rw [Ah] at ih
  cases hb:p a<;>rw [hb] at hpa<;>simp +contextual -dsimp -implicitDefEqProofs (maxSteps:=5000000) only [gLs,↓Ai (Qj.eq_1),h1,h2,h3,h4,hcap,hsc,Bn,Bx,hg,hpa,hb,hc,ih,Int.toNat_natCast,List.getElem?_map,go_sem,simprocAttr]
theorem UK (i:Nat) (pf nn:Bool) (xs:List AO) (p:AO→Bool) (g:Nat) (cap:List V) (hc:Ak tbl g []) (hcap:∀ d,AG (AW (d+1)) cap=.ret cap) (hsc:AU 0 cap=cap) (hn:BC cap=true)
  (hp:∀ a,a∈xs→Aa (Lv ctx i) g (eSl a::cap)=some (bV (p a))) (hx:xs.length≤BB):Aa (Lv ctx (i+2)) 82 [.isl pf nn 2 (xs.map eSl),.fn (.func g) [] cap]=some (bV (xs.any p)):=by
 have h1:Aa (Lv ctx (i+1)) 136 [.isl pf nn 2 (xs.map eSl),.fn (.func g) [] cap]=some (iV (Fg (Bn p 0 xs))):=by
  refine Af rfl (xs.length+1) (by rfl) ?_
  delta c136
  have hl:=fun q Q u w=>Vx i (xs.length+1) pf nn xs p g cap hc hcap hsc hp hx q Q u w xs [] (xs.length+1) rfl (by omega)
  simp only [List.length_nil,Int.natCast_zero] at hl
  simp +contextual -dsimp -implicitDefEqProofs (maxSteps:=5000000) only [hl,go_sem,simprocAttr]
  cases Bn p 0 xs<;>simp +contextual -dsimp -implicitDefEqProofs (maxSteps:=5000000) only [By,Bx,Fg,go_sem,simprocAttr]
 refine Af rfl 0 (by rfl) ?_
 delta c82
 simp +contextual -dsimp -implicitDefEqProofs (maxSteps:=5000000) only [h1,hcap,DA,go_sem,simprocAttr]
theorem Zi (i k:Nat) (pf nn:Bool) (xs:List Int) (p:Int→Bool) (g:Nat) (cap:List V) (hc:Ak tbl g []) (hcap:∀ d,AG (AW (d+1)) cap=.ret cap) (hsc:AU 0 cap=cap)
  (hp:∀ a,a∈xs→Aa (Lv ctx i) g (iV a::cap)=some (bV (p a))) (hx:xs.length≤BB) (q:Out→St→Option Ans) (Q:V→Hp→Nat→Prop) (u:Dum fun s q=>evC ctx (Lv ctx i) (Aa (Lv ctx i)) k Qc s (As [0,1,7,8] q)) (w:Dum q):∀ (suf pre:List Int) (kk:Nat),xs=pre++suf→suf.length<kk →
  GL 0 [0,1,7,8] (fun s q=>evC ctx (Lv ctx i) (Aa (Lv ctx i)) k Qc s (As [0,1,7,8] q)) q kk ⟨Ad [0,1,7,8] [.isl pf nn 1 (xs.map iV),.fn (.func g) [] cap,iV xs.length,iV pre.length],Ag,0⟩ Q u w =
  HT q Q ⟨Ad [] [],Ag,0⟩ (fun j=>⟨Ad [4] [iV j],Ag,0⟩) (Bn p pre.length suf)
 | [],pre,kk,hxs,hk=>by
  obtain ⟨kk,rfl⟩:∃ m,kk=m+1:=⟨kk - 1,by simp at hk;omega⟩
  have h1:decide ((pre.length:Int)<xs.length)=false:=by simp [hxs]
  simp +contextual -dsimp -implicitDefEqProofs (maxSteps:=5000000) only [gLs,↓Ai (Qc.eq_1),h1,hcap,hsc,Bn,By,go_sem,simprocAttr]
 | a::suf,pre,kk,hxs,hk=>by
  obtain ⟨kk,rfl⟩:∃ m,kk=m+1:=⟨kk - 1,by simp at hk;omega⟩
  have hl:pre.length<xs.length:=by simp [hxs]
  have h1:decide ((pre.length:Int)<xs.length)=true:=by simpa using hl
  have h2:((pre.length:Int)<xs.length)=True:=by simpa using hl
  have h3:(0≤(pre.length:Int))=True:=by simp
  have h4:=wrN pre.length (by omega)
  have hg:xs[pre.length]?=some a:=by simp [hxs]
  have hpa:=hp a (by simp [hxs])
  skip
  have ih:=Zi i k pf nn xs p g cap hc hcap hsc hp hx q Q u w suf (pre++[a]) kk (by simp [hxs]) (by simpa using hk)
  rw [Ah] at ih
  cases hb:p a<;>rw [hb] at hpa<;>simp +contextual -dsimp -implicitDefEqProofs (maxSteps:=5000000) only [gLs,↓Ai (Qc.eq_1),h1,h2,h3,h4,hcap,hsc,Bn,Bx,hg,hpa,hb,hc,ih,Int.toNat_natCast,List.getElem?_map,go_sem,simprocAttr]
theorem rK (i:Nat) (pf nn:Bool) (xs:List Int) (p:Int→Bool) (g:Nat) (cap:List V) (hc:Ak tbl g []) (hcap:∀ d,AG (AW (d+1)) cap=.ret cap) (hsc:AU 0 cap=cap) (hn:BC cap=true)
  (hp:∀ a,a∈xs→Aa (Lv ctx i) g (iV a::cap)=some (bV (p a))) (hx:xs.length≤BB):Aa (Lv ctx (i+2)) 134 [.isl pf nn 1 (xs.map iV),.fn (.func g) [] cap]=some (bV (xs.any p)):=by
 have h1:Aa (Lv ctx (i+1)) 179 [.isl pf nn 1 (xs.map iV),.fn (.func g) [] cap]=some (iV (Fg (Bn p 0 xs))):=by
  refine Af rfl (xs.length+1) (by rfl) ?_
  delta c179
  have hl:=fun q Q u w=>Zi i (xs.length+1) pf nn xs p g cap hc hcap hsc hp hx q Q u w xs [] (xs.length+1) rfl (by omega)
  simp only [List.length_nil,Int.natCast_zero] at hl
  simp +contextual -dsimp -implicitDefEqProofs (maxSteps:=5000000) only [hl,go_sem,simprocAttr]
  cases Bn p 0 xs<;>simp +contextual -dsimp -implicitDefEqProofs (maxSteps:=5000000) only [By,Bx,Fg,go_sem,simprocAttr]
 refine Af rfl 0 (by rfl) ?_
 delta c134
 simp +contextual -dsimp -implicitDefEqProofs (maxSteps:=5000000) only [h1,hcap,DA,go_sem,simprocAttr]
theorem iQ (i:Nat) (x:AI):Aa (Lv ctx (i+1)) 73 [eE x]=some (iV x.label):=by
 simp only [eE]
 refine Af rfl 0 (by rfl) ?_
 delta c73
 simp +contextual -dsimp -implicitDefEqProofs (maxSteps:=5000000) only [go_sem,simprocAttr]
theorem XA (i k:Nat) (pf nn:Bool) (xs:List AI) (l:Int) (hx:(xs.length:Int)*32≤140737488355328) (q:Out→St→Option Ans) (Q:V→Hp→Nat→Prop) (u:Dum (fun s q=>evC ctx (Lv ctx (i+1)) (Aa (Lv ctx (i+1))) k JX s (As [1,2,7,10,11,12] q))) (w:Dum q)
  (hend:∀ acc,acc=xs.filter (fun x=>Ao x.label l)→Fin (q (.exit 0) ⟨Ad [7] [.sl 0],pO Ag 0 (some ⟨4,acc.map eE,false⟩),1⟩) Q) :
  ∀ (suf pre:List AI) (kk:Nat) (acc:List AI),xs=pre++suf→suf.length<kk→acc.length≤pre.length→acc++suf.filter (fun x=>Ao x.label l)=xs.filter (fun x=>Ao x.label l) →
  GL 0 [1,2,7,10,11,12] (fun s q=>evC ctx (Lv ctx (i+1)) (Aa (Lv ctx (i+1))) k JX s (As [1,2,7,10,11,12] q)) q kk ⟨Ad [1,2,7,10,11,12] [iV l,.fn (.func 73) [] [],.sl 0,.isl pf nn 4 (xs.map eE),iV xs.length,iV pre.length],pO Ag 0 (some ⟨4,acc.map eE,false⟩),1⟩ Q u w
 | [],pre,kk,acc,hxs,hk,hal,hacc=>by
  obtain ⟨kk,rfl⟩:∃ m,kk=m+1:=⟨kk - 1,by simp at hk;omega⟩
  have h1:decide ((pre.length:Int)<xs.length)=false:=by simp [hxs]
  have he:=hend acc (by simpa using hacc)
  simp +contextual -dsimp -implicitDefEqProofs (maxSteps:=5000000) only [gLs,↓Ai (JX.eq_1),h1,go_sem,simprocAttr]
  exact he
 | a::suf,pre,kk,acc,hxs,hk,hal,hacc=>by
  obtain ⟨kk,rfl⟩:∃ m,kk=m+1:=⟨kk - 1,by simp at hk;omega⟩
  have hl:pre.length<xs.length:=by simp [hxs]
  have h2:((pre.length:Int)<xs.length)=True:=by simpa using hl
  have h3:(0≤(pre.length:Int))=True:=by simp
  have h4:=wrN pre.length (by simp only [BB];omega)
  have hg:xs[pre.length]?=some a:=by simp [hxs]
  have h5:(((acc.length+1:Nat):Int)*32≤140737488355328)=True:=by rw [eq_iff_iff,iff_true];omega
  have hof:=iQ (i+0) a
  simp only [eE,Nat.add_assoc,Nat.reduceAdd] at hof
  cases ht:Ao a.label l
  ·have ih:=XA i k pf nn xs l hx q Q u w hend suf (pre++[a]) kk acc (by simp [hxs]) (by simpa using hk) (by simp;omega) (by rw [← hacc];simp [ht])
   simp only [Ah] at ih
   cases pf<;>(
    simp +contextual -dsimp -implicitDefEqProofs (maxSteps:=5000000) only [gLs,↓Ai (JX.eq_1),h2,h3,h4,hg,hof,ht,eE,go_sem,simprocAttr]
    exact (Av (by rfl)).mpr ih)
  ·have ih:=XA i k pf nn xs l hx q Q u w hend suf (pre++[a]) kk (acc++[a]) (by simp [hxs]) (by simpa using hk) (by simp;omega) (by rw [← hacc];simp [ht])
   simp only [Ah,List.map_append,List.map_cons,List.map_nil] at ih
   cases pf<;>(
    simp +contextual -dsimp -implicitDefEqProofs (maxSteps:=5000000) only [gLs,↓Ai (JX.eq_1),h2,h3,h4,h5,hg,hof,ht,eE,go_sem,simprocAttr]
    exact (Av (by rfl)).mpr ih)
theorem mI (i k:Nat) (pf nn:Bool) (xs:List AI) (l:Int) (hx:(xs.length:Int)*32≤140737488355328) (q:Out→St→Option Ans) (Q:V→Hp→Nat→Prop) (u:Dum (fun s q=>evC ctx (Lv ctx (i+1)) (Aa (Lv ctx (i+1))) k JX s (As [1,2,7,10,11,12] q))) (w:Dum q)
  (hend:∀ acc,acc=xs.filter (fun x=>Ao x.label l)→Fin (q (.exit 0) ⟨Ad [7] [.sl 0],pO Ag 0 (some ⟨4,acc.map eE,false⟩),1⟩) Q) (hnil:xs.filter (fun x=>Ao x.label l)=[]→Fin (q (.exit 0) ⟨Ad [7] [.lit (.slice none 0 0)],Ag,0⟩) Q) :
  ∀ (suf pre:List AI) (kk:Nat),xs=pre++suf→suf.length<kk→suf.filter (fun x=>Ao x.label l)=xs.filter (fun x=>Ao x.label l) →
  GL 0 [1,2,7,10,11,12] (fun s q=>evC ctx (Lv ctx (i+1)) (Aa (Lv ctx (i+1))) k JX s (As [1,2,7,10,11,12] q)) q kk ⟨Ad [1,2,7,10,11,12] [iV l,.fn (.func 73) [] [],.lit (.slice none 0 0),.isl pf nn 4 (xs.map eE),iV xs.length,iV pre.length],Ag,0⟩ Q u w
 | [],pre,kk,hxs,hk,hacc=>by
  obtain ⟨kk,rfl⟩:∃ m,kk=m+1:=⟨kk - 1,by simp at hk;omega⟩
  have h1:decide ((pre.length:Int)<xs.length)=false:=by simp [hxs]
  have he:=hnil (by rw [← hacc];rfl)
  simp +contextual -dsimp -implicitDefEqProofs (maxSteps:=5000000) only [gLs,↓Ai (JX.eq_1),h1,go_sem,simprocAttr]
  exact he
 | a::suf,pre,kk,hxs,hk,hacc=>by
  obtain ⟨kk,rfl⟩:∃ m,kk=m+1:=⟨kk - 1,by simp at hk;omega⟩
  have hl:pre.length<xs.length:=by simp [hxs]
  have h2:((pre.length:Int)<xs.length)=True:=by simpa using hl
  have h3:(0≤(pre.length:Int))=True:=by simp
  have h4:=wrN pre.length (by simp only [BB];omega)
  have hg:xs[pre.length]?=some a:=by simp [hxs]
  have hof:=iQ (i+0) a
  simp only [eE,Nat.add_assoc,Nat.reduceAdd] at hof
  cases ht:Ao a.label l
  ·have ih:=mI i k pf nn xs l hx q Q u w hend hnil suf (pre++[a]) kk (by simp [hxs]) (by simpa using hk) (by rw [← hacc];simp [ht])
   simp only [Ah] at ih
   cases pf<;>(
    simp +contextual -dsimp -implicitDefEqProofs (maxSteps:=5000000) only [gLs,↓Ai (JX.eq_1),h2,h3,h4,hg,hof,ht,eE,go_sem,simprocAttr]
    exact (Av (by rfl)).mpr ih)
  ·have ih:=XA i k pf nn xs l hx q Q u w hend suf (pre++[a]) kk [a] (by simp [hxs]) (by simpa using hk) (by simp) (by rw [← hacc];simp [ht])
   simp only [Ah,List.map_cons,List.map_nil] at ih
   cases pf<;>(
    simp +contextual -dsimp -implicitDefEqProofs (maxSteps:=5000000) only [gLs,↓Ai (JX.eq_1),h2,h3,h4,hg,hof,ht,eE,List.replicate,go_sem,simprocAttr]
    exact (Av (by rfl)).mpr ih)
theorem a4t (i:Nat) (pf nn:Bool) (xs:List AI) (l:Int) (hx:(xs.length:Int)*32≤140737488355328):Aa (Lv ctx (i+2)) 72 [.isl pf nn 4 (xs.map eE),iV l,.fn (.func 73) [] []]=some (.own 4 ((xs.filter (fun x=>Ao x.label l)).map eE)):=by
 refine Af rfl (xs.length+1) (by rfl) ?_
 delta c72
 cases pf<;>(
  simp +contextual -dsimp -implicitDefEqProofs (maxSteps:=5000000) only [go_sem,simprocAttr]
  refine mI i _ _ nn xs l hx _ _ _ _ ?ha ?hb xs [] _ (by simp) (by omega) rfl
  case hb =>
   intro hn
   rw [hn]
   simp +contextual -dsimp -implicitDefEqProofs (maxSteps:=5000000) only [go_sem,simprocAttr]
  case ha =>
   intro acc hacc
   rw [← hacc]
   simp +contextual -dsimp -implicitDefEqProofs (maxSteps:=5000000) only [go_sem,simprocAttr])
theorem iP (i:Nat) (x:AO):Aa (Lv ctx (i+1)) 77 [eSl x]=some (iV x.level):=by
 simp only [eSl]
 refine Af rfl 0 (by rfl) ?_
 delta c77
 simp +contextual -dsimp -implicitDefEqProofs (maxSteps:=5000000) only [go_sem,simprocAttr]
theorem Xz (i k:Nat) (pf nn:Bool) (xs:List AO) (l:Int) (hx:(xs.length:Int)*16≤140737488355328) (q:Out→St→Option Ans) (Q:V→Hp→Nat→Prop) (u:Dum (fun s q=>evC ctx (Lv ctx (i+1)) (Aa (Lv ctx (i+1))) k JV s (As [1,2,7,10,11,12] q))) (w:Dum q)
  (hend:∀ acc,acc=xs.filter (fun x=>Ao x.level l)→Fin (q (.exit 0) ⟨Ad [7] [.sl 0],pO Ag 0 (some ⟨2,acc.map eSl,false⟩),1⟩) Q) :
  ∀ (suf pre:List AO) (kk:Nat) (acc:List AO),xs=pre++suf→suf.length<kk→acc.length≤pre.length→acc++suf.filter (fun x=>Ao x.level l)=xs.filter (fun x=>Ao x.level l) →
  GL 0 [1,2,7,10,11,12] (fun s q=>evC ctx (Lv ctx (i+1)) (Aa (Lv ctx (i+1))) k JV s (As [1,2,7,10,11,12] q)) q kk ⟨Ad [1,2,7,10,11,12] [iV l,.fn (.func 77) [] [],.sl 0,.isl pf nn 2 (xs.map eSl),iV xs.length,iV pre.length],pO Ag 0 (some ⟨2,acc.map eSl,false⟩),1⟩ Q u w
 | [],pre,kk,acc,hxs,hk,hal,hacc=>by
  obtain ⟨kk,rfl⟩:∃ m,kk=m+1:=⟨kk - 1,by simp at hk;omega⟩
  have h1:decide ((pre.length:Int)<xs.length)=false:=by simp [hxs]
  have he:=hend acc (by simpa using hacc)
  simp +contextual -dsimp -implicitDefEqProofs (maxSteps:=5000000) only [gLs,↓Ai (JV.eq_1),h1,go_sem,simprocAttr]
  exact he
 | a::suf,pre,kk,acc,hxs,hk,hal,hacc=>by
  obtain ⟨kk,rfl⟩:∃ m,kk=m+1:=⟨kk - 1,by simp at hk;omega⟩
  have hl:pre.length<xs.length:=by simp [hxs]
  have h2:((pre.length:Int)<xs.length)=True:=by simpa using hl
  have h3:(0≤(pre.length:Int))=True:=by simp
  have h4:=wrN pre.length (by simp only [BB];omega)
  have hg:xs[pre.length]?=some a:=by simp [hxs]
  have h5:(((acc.length+1:Nat):Int)*16≤140737488355328)=True:=by rw [eq_iff_iff,iff_true];omega
  have hof:=iP (i+0) a
  simp only [eSl,Nat.add_assoc,Nat.reduceAdd] at hof
  cases ht:Ao a.level l
  ·have ih:=Xz i k pf nn xs l hx q Q u w hend suf (pre++[a]) kk acc (by simp [hxs]) (by simpa using hk) (by simp;omega) (by rw [← hacc];simp [ht])
   simp only [Ah] at ih
   cases pf<;>(
    simp +contextual -dsimp -implicitDefEqProofs (maxSteps:=5000000) only [gLs,↓Ai (JV.eq_1),h2,h3,h4,hg,hof,ht,eSl,go_sem,simprocAttr]
    exact (Av (by rfl)).mpr ih)
  ·have ih:=Xz i k pf nn xs l hx q Q u w hend suf (pre++[a]) kk (acc++[a]) (by simp [hxs]) (by simpa using hk) (by simp;omega) (by rw [← hacc];simp [ht])
   simp only [Ah,List.map_append,List.map_cons,List.map_nil] at ih
   cases pf<;>(
    simp +contextual -dsimp -implicitDefEqProofs (maxSteps:=5000000) only [gLs,↓Ai (JV.eq_1),h2,h3,h4,h5,hg,hof,ht,eSl,go_sem,simprocAttr]
    exact (Av (by rfl)).mpr ih)
theorem mH (i k:Nat) (pf nn:Bool) (xs:List AO) (l:Int) (hx:(xs.length:Int)*16≤140737488355328) (q:Out→St→Option Ans) (Q:V→Hp→Nat→Prop) (u:Dum (fun s q=>evC ctx (Lv ctx (i+1)) (Aa (Lv ctx (i+1))) k JV s (As [1,2,7,10,11,12] q))) (w:Dum q)
  (hend:∀ acc,acc=xs.filter (fun x=>Ao x.level l)→Fin (q (.exit 0) ⟨Ad [7] [.sl 0],pO Ag 0 (some ⟨2,acc.map eSl,false⟩),1⟩) Q) (hnil:xs.filter (fun x=>Ao x.level l)=[]→Fin (q (.exit 0) ⟨Ad [7] [.lit (.slice none 0 0)],Ag,0⟩) Q) :
  ∀ (suf pre:List AO) (kk:Nat),xs=pre++suf→suf.length<kk→suf.filter (fun x=>Ao x.level l)=xs.filter (fun x=>Ao x.level l) →
  GL 0 [1,2,7,10,11,12] (fun s q=>evC ctx (Lv ctx (i+1)) (Aa (Lv ctx (i+1))) k JV s (As [1,2,7,10,11,12] q)) q kk ⟨Ad [1,2,7,10,11,12] [iV l,.fn (.func 77) [] [],.lit (.slice none 0 0),.isl pf nn 2 (xs.map eSl),iV xs.length,iV pre.length],Ag,0⟩ Q u w
 | [],pre,kk,hxs,hk,hacc=>by
  obtain ⟨kk,rfl⟩:∃ m,kk=m+1:=⟨kk - 1,by simp at hk;omega⟩
  have h1:decide ((pre.length:Int)<xs.length)=false:=by simp [hxs]
  have he:=hnil (by rw [← hacc];rfl)
  simp +contextual -dsimp -implicitDefEqProofs (maxSteps:=5000000) only [gLs,↓Ai (JV.eq_1),h1,go_sem,simprocAttr]
  exact he
 | a::suf,pre,kk,hxs,hk,hacc=>by
  obtain ⟨kk,rfl⟩:∃ m,kk=m+1:=⟨kk - 1,by simp at hk;omega⟩
  have hl:pre.length<xs.length:=by simp [hxs]
  have h2:((pre.length:Int)<xs.length)=True:=by simpa using hl
  have h3:(0≤(pre.length:Int))=True:=by simp
  have h4:=wrN pre.length (by simp only [BB];omega)
  have hg:xs[pre.length]?=some a:=by simp [hxs]
  have hof:=iP (i+0) a
  simp only [eSl,Nat.add_assoc,Nat.reduceAdd] at hof
  cases ht:Ao a.level l
  ·have ih:=mH i k pf nn xs l hx q Q u w hend hnil suf (pre++[a]) kk (by simp [hxs]) (by simpa using hk) (by rw [← hacc];simp [ht])
   simp only [Ah] at ih
   cases pf<;>(
    simp +contextual -dsimp -implicitDefEqProofs (maxSteps:=5000000) only [gLs,↓Ai (JV.eq_1),h2,h3,h4,hg,hof,ht,eSl,go_sem,simprocAttr]
    exact (Av (by rfl)).mpr ih)
  ·have ih:=Xz i k pf nn xs l hx q Q u w hend suf (pre++[a]) kk [a] (by simp [hxs]) (by simpa using hk) (by simp) (by rw [← hacc];simp [ht])
   simp only [Ah,List.map_cons,List.map_nil] at ih
   cases pf<;>(
    simp +contextual -dsimp -implicitDefEqProofs (maxSteps:=5000000) only [gLs,↓Ai (JV.eq_1),h2,h3,h4,hg,hof,ht,eSl,List.replicate,go_sem,simprocAttr]
    exact (Av (by rfl)).mpr ih)
theorem a4s (i:Nat) (pf nn:Bool) (xs:List AO) (l:Int) (hx:(xs.length:Int)*16≤140737488355328):Aa (Lv ctx (i+2)) 76 [.isl pf nn 2 (xs.map eSl),iV l,.fn (.func 77) [] []]=some (.own 2 ((xs.filter (fun x=>Ao x.level l)).map eSl)):=by
 refine Af rfl (xs.length+1) (by rfl) ?_
 delta c76
 cases pf<;>(
  simp +contextual -dsimp -implicitDefEqProofs (maxSteps:=5000000) only [go_sem,simprocAttr]
  refine mH i _ _ nn xs l hx _ _ _ _ ?ha ?hb xs [] _ (by simp) (by omega) rfl
  case hb =>
   intro hn
   rw [hn]
   simp +contextual -dsimp -implicitDefEqProofs (maxSteps:=5000000) only [go_sem,simprocAttr]
  case ha =>
   intro acc hacc
   rw [← hacc]
   simp +contextual -dsimp -implicitDefEqProofs (maxSteps:=5000000) only [go_sem,simprocAttr])
theorem iO (i:Nat) (x:AV):Aa (Lv ctx (i+1)) 75 [(eSt true) x]=some (iV x.label):=by
 simp only [eSt]
 refine Af rfl 0 (by rfl) ?_
 delta c75
 simp +contextual -dsimp -implicitDefEqProofs (maxSteps:=5000000) only [go_sem,simprocAttr]
theorem Xy (i k:Nat) (xs:List AV) (l:Int) (hx:(xs.length:Int)*48≤140737488355328) (q:Out→St→Option Ans) (Q:V→Hp→Nat→Prop) (u:Dum (fun s q=>evC ctx (Lv ctx (i+1)) (Aa (Lv ctx (i+1))) k JW s (As [1,2,7,10,11,12] q))) (w:Dum q)
  (hend:∀ acc,acc=xs.filter (fun x=>Ao x.label l)→Fin (q (.exit 0) ⟨Ad [7] [.sl 0],pO Ag 0 (some ⟨4,acc.map (eSt true),false⟩),1⟩) Q) :
  ∀ (suf pre:List AV) (kk:Nat) (acc:List AV),xs=pre++suf→suf.length<kk→acc.length≤pre.length→acc++suf.filter (fun x=>Ao x.label l)=xs.filter (fun x=>Ao x.label l) →
  GL 0 [1,2,7,10,11,12] (fun s q=>evC ctx (Lv ctx (i+1)) (Aa (Lv ctx (i+1))) k JW s (As [1,2,7,10,11,12] q)) q kk ⟨Ad [1,2,7,10,11,12] [iV l,.fn (.func 75) [] [],.sl 0,.isl true false 4 (xs.map (eSt true)),iV xs.length,iV pre.length],pO Ag 0 (some ⟨4,acc.map (eSt true),false⟩),1⟩ Q u w
 | [],pre,kk,acc,hxs,hk,hal,hacc=>by
  obtain ⟨kk,rfl⟩:∃ m,kk=m+1:=⟨kk - 1,by simp at hk;omega⟩
  have h1:decide ((pre.length:Int)<xs.length)=false:=by simp [hxs]
  have he:=hend acc (by simpa using hacc)
  simp +contextual -dsimp -implicitDefEqProofs (maxSteps:=5000000) only [gLs,↓Ai (JW.eq_1),h1,go_sem,simprocAttr]
  exact he
 | a::suf,pre,kk,acc,hxs,hk,hal,hacc=>by
  obtain ⟨kk,rfl⟩:∃ m,kk=m+1:=⟨kk - 1,by simp at hk;omega⟩
  have hl:pre.length<xs.length:=by simp [hxs]
  have h2:((pre.length:Int)<xs.length)=True:=by simpa using hl
  have h3:(0≤(pre.length:Int))=True:=by simp
  have h4:=wrN pre.length (by simp only [BB];omega)
  have hg:xs[pre.length]?=some a:=by simp [hxs]
  have h5:(((acc.length+1:Nat):Int)*48≤140737488355328)=True:=by rw [eq_iff_iff,iff_true];omega
  have hof:=iO (i+0) a
  simp only [eSt,Nat.add_assoc,Nat.reduceAdd] at hof
  cases ht:Ao a.label l
  ·have ih:=Xy i k xs l hx q Q u w hend suf (pre++[a]) kk acc (by simp [hxs]) (by simpa using hk) (by simp;omega) (by rw [← hacc];simp [ht])
   simp only [Ah] at ih
   (
    simp +contextual -dsimp -implicitDefEqProofs (maxSteps:=5000000) only [gLs,↓Ai (JW.eq_1),h2,h3,h4,hg,hof,ht,eSt,go_sem,simprocAttr]
    exact (Av (by rfl)).mpr ih)
  ·have ih:=Xy i k xs l hx q Q u w hend suf (pre++[a]) kk (acc++[a]) (by simp [hxs]) (by simpa using hk) (by simp;omega) (by rw [← hacc];simp [ht])
   simp only [Ah,List.map_append,List.map_cons,List.map_nil] at ih
   (
    simp +contextual -dsimp -implicitDefEqProofs (maxSteps:=5000000) only [gLs,↓Ai (JW.eq_1),h2,h3,h4,h5,hg,hof,ht,eSt,go_sem,simprocAttr]
    exact (Av (by rfl)).mpr ih)
theorem mG (i k:Nat) (xs:List AV) (l:Int) (hx:(xs.length:Int)*48≤140737488355328) (q:Out→St→Option Ans) (Q:V→Hp→Nat→Prop) (u:Dum (fun s q=>evC ctx (Lv ctx (i+1)) (Aa (Lv ctx (i+1))) k JW s (As [1,2,7,10,11,12] q))) (w:Dum q)
  (hend:∀ acc,acc=xs.filter (fun x=>Ao x.label l)→Fin (q (.exit 0) ⟨Ad [7] [.sl 0],pO Ag 0 (some ⟨4,acc.map (eSt true),false⟩),1⟩) Q) (hnil:xs.filter (fun x=>Ao x.label l)=[]→Fin (q (.exit 0) ⟨Ad [7] [.lit (.slice none 0 0)],Ag,0⟩) Q) :
  ∀ (suf pre:List AV) (kk:Nat),xs=pre++suf→suf.length<kk→suf.filter (fun x=>Ao x.label l)=xs.filter (fun x=>Ao x.label l) →
  GL 0 [1,2,7,10,11,12] (fun s q=>evC ctx (Lv ctx (i+1)) (Aa (Lv ctx (i+1))) k JW s (As [1,2,7,10,11,12] q)) q kk ⟨Ad [1,2,7,10,11,12] [iV l,.fn (.func 75) [] [],.lit (.slice none 0 0),.isl true false 4 (xs.map (eSt true)),iV xs.length,iV pre.length],Ag,0⟩ Q u w
 | [],pre,kk,hxs,hk,hacc=>by
  obtain ⟨kk,rfl⟩:∃ m,kk=m+1:=⟨kk - 1,by simp at hk;omega⟩
  have h1:decide ((pre.length:Int)<xs.length)=false:=by simp [hxs]
  have he:=hnil (by rw [← hacc];rfl)
  simp +contextual -dsimp -implicitDefEqProofs (maxSteps:=5000000) only [gLs,↓Ai (JW.eq_1),h1,go_sem,simprocAttr]
  exact he
 | a::suf,pre,kk,hxs,hk,hacc=>by
  obtain ⟨kk,rfl⟩:∃ m,kk=m+1:=⟨kk - 1,by simp at hk;omega⟩
  have hl:pre.length<xs.length:=by simp [hxs]
  have h2:((pre.length:Int)<xs.length)=True:=by simpa using hl
  have h3:(0≤(pre.length:Int))=True:=by simp
  have h4:=wrN pre.length (by simp only [BB];omega)
  have hg:xs[pre.length]?=some a:=by simp [hxs]
  have hof:=iO (i+0) a
  simp only [eSt,Nat.add_assoc,Nat.reduceAdd] at hof
  cases ht:Ao a.label l
  ·have ih:=mG i k xs l hx q Q u w hend hnil suf (pre++[a]) kk (by simp [hxs]) (by simpa using hk) (by rw [← hacc];simp [ht])
   simp only [Ah] at ih
   (
    simp +contextual -dsimp -implicitDefEqProofs (maxSteps:=5000000) only [gLs,↓Ai (JW.eq_1),h2,h3,h4,hg,hof,ht,eSt,go_sem,simprocAttr]
    exact (Av (by rfl)).mpr ih)
  ·have ih:=Xy i k xs l hx q Q u w hend suf (pre++[a]) kk [a] (by simp [hxs]) (by simpa using hk) (by simp) (by rw [← hacc];simp [ht])
   simp only [Ah,List.map_cons,List.map_nil] at ih
   (
    simp +contextual -dsimp -implicitDefEqProofs (maxSteps:=5000000) only [gLs,↓Ai (JW.eq_1),h2,h3,h4,hg,hof,ht,eSt,List.replicate,go_sem,simprocAttr]
    exact (Av (by rfl)).mpr ih)
theorem a4r (i:Nat) (xs:List AV) (l:Int) (hx:(xs.length:Int)*48≤140737488355328):Aa (Lv ctx (i+2)) 74 [.isl true false 4 (xs.map (eSt true)),iV l,.fn (.func 75) [] []]=some (.own 4 ((xs.filter (fun x=>Ao x.label l)).map (eSt true))):=by
 refine Af rfl (xs.length+1) (by rfl) ?_
 delta c74
 (
  simp +contextual -dsimp -implicitDefEqProofs (maxSteps:=5000000) only [go_sem,simprocAttr]
  refine mG i _ xs l hx _ _ _ _ ?ha ?hb xs [] _ (by simp) (by omega) rfl
  case hb =>
   intro hn
   rw [hn]
   simp +contextual -dsimp -implicitDefEqProofs (maxSteps:=5000000) only [go_sem,simprocAttr]
  case ha =>
   intro acc hacc
   rw [← hacc]
   simp +contextual -dsimp -implicitDefEqProofs (maxSteps:=5000000) only [go_sem,simprocAttr])
theorem yB (i:Nat) (p:Bool) (x:Ae):Aa (Lv ctx (i+1)) 71 [eS p x]=some (iV x.label):=by
 simp only [eS]
 refine Af rfl 0 (by rfl) ?_
 delta c71
 cases p<;>simp +contextual -dsimp -implicitDefEqProofs (maxSteps:=5000000) only [go_sem,simprocAttr]
theorem mD (i k:Nat) (xs:List Ae) (l:Int) (hx:(xs.length:Int)*184≤140737488355328) (q:Out→St→Option Ans) (Q:V→Hp→Nat→Prop) (u:Dum (fun s q=>evC ctx (Lv ctx (i+1)) (Aa (Lv ctx (i+1))) k JY s (As [1,2,7,10,11,12] q))) (w:Dum q)
  (hend:∀ acc d,acc=xs.filter (fun x=>Ao x.label l)→Fin (q (.exit 0) ⟨Ad [7] [.sl 1],pO (pO Ag 0 (some ⟨17,xs.map mvS,d⟩)) 1 (some ⟨17,acc.map oS,true⟩),2⟩) Q) :
  ∀ (suf pre:List Ae) (kk:Nat) (acc:List Ae) (d:Bool),xs=pre++suf→suf.length<kk→acc.length≤pre.length→acc++suf.filter (fun x=>Ao x.label l)=xs.filter (fun x=>Ao x.label l) →
  GL 1 [1,2,7,10,11,12] (fun s q=>evC ctx (Lv ctx (i+1)) (Aa (Lv ctx (i+1))) k JY s (As [1,2,7,10,11,12] q)) q kk ⟨Ad [1,2,7,10,11,12] [iV l,.fn (.func 71) [] [],.sl 1,.sl 0,iV xs.length,iV pre.length],pO (pO Ag 0 (some ⟨17,pre.map mvS++suf.map oS,d⟩)) 1 (some ⟨17,acc.map oS,true⟩),2⟩ Q u w
 | [],pre,kk,acc,d,hxs,hk,hal,hacc=>by
  obtain ⟨kk,rfl⟩:∃ m,kk=m+1:=⟨kk - 1,by simp at hk;omega⟩
  have h1:decide ((pre.length:Int)<xs.length)=false:=by simp [hxs]
  have he:=hend acc d (by simpa using hacc)
  have hp:xs=pre:=by simpa using hxs
  rw [hp] at he
  simp only [List.map_nil,List.append_nil]
  cases d
  all_goals
   simp +contextual -dsimp -implicitDefEqProofs (maxSteps:=5000000) only [gLs,↓Ai (JY.eq_1),h1,go_sem,simprocAttr]
   exact he
 | a::suf,pre,kk,acc,d,hxs,hk,hal,hacc=>by
  obtain ⟨kk,rfl⟩:∃ m,kk=m+1:=⟨kk - 1,by simp at hk;omega⟩
  have hl:pre.length<xs.length:=by simp [hxs]
  have h2:((pre.length:Int)<xs.length)=True:=by simpa using hl
  have h3:(0≤(pre.length:Int))=True:=by simp
  have h4:=wrN pre.length (by simp only [BB];omega)
  have h6:((pre.length:Int)<((pre.length+(suf.length+1):Nat):Int))=True:=by simp;omega
  have hg:(pre.map mvS++(a::suf).map oS)[pre.length]?=some (oS a):=by simp
  have hlen:(((pre.map mvS++(a::suf).map oS).length:Nat):Int)=xs.length:=by simp [hxs]
  have hset:∀ x,(pre.map mvS++(a::suf).map oS).set pre.length x=pre.map mvS++x::suf.map oS:=by intro x;simp [List.set_append]
  have h5:(((acc.length+1:Nat):Int)*184≤140737488355328)=True:=by rw [eq_iff_iff,iff_true];omega
  have hof:=yB (i+0) false a
  simp only [oS,List.map_cons] at hg hset hlen ⊢
  simp only [eS,Nat.add_assoc,Nat.reduceAdd] at hof
  cases ht:Ao a.label l
  ·have ih:=mD i k xs l hx q Q u w hend suf (pre++[a]) kk acc true (by simp [hxs]) (by simpa using hk) (by simp;omega) (by rw [← hacc];simp [ht])
   simp only [Ah,List.map_append,List.map_cons,List.map_nil,List.append_assoc,List.cons_append,List.nil_append,mvS] at ih
   cases d
   all_goals
    simp +contextual -dsimp -implicitDefEqProofs (maxSteps:=5000000) only [gLs,↓Ai (JY.eq_1),h2,h3,h4,h6,hg,hlen,hset,hof,ht,List.length_map,go_sem,simprocAttr]
    obtain ⟨kk,rfl⟩:∃ m,kk=m+1:=⟨kk - 1,by simp at hk;omega⟩
    simp +contextual -dsimp -implicitDefEqProofs (maxSteps:=5000000) only [gLs,go_sem,simprocAttr] at ih ⊢
    exact ih
  ·have ih:=mD i k xs l hx q Q u w hend suf (pre++[a]) kk (acc++[a]) true (by simp [hxs]) (by simpa using hk) (by simp;omega) (by rw [← hacc];simp [ht])
   simp only [Ah,List.map_append,List.map_cons,List.map_nil,List.append_assoc,List.cons_append,List.nil_append,mvS,oS] at ih
   cases d
   all_goals
    simp +contextual -dsimp -implicitDefEqProofs (maxSteps:=5000000) only [gLs,↓Ai (JY.eq_1),h2,h3,h4,h5,h6,hg,hlen,hset,hof,ht,List.length_map,go_sem,simprocAttr]
    obtain ⟨kk,rfl⟩:∃ m,kk=m+1:=⟨kk - 1,by simp at hk;omega⟩
    simp +contextual -dsimp -implicitDefEqProofs (maxSteps:=5000000) only [gLs,go_sem,simprocAttr] at ih ⊢
    exact ih
theorem yH (i k:Nat) (xs:List Ae) (l:Int) (hx:(xs.length:Int)*184≤140737488355328) (q:Out→St→Option Ans) (Q:V→Hp→Nat→Prop) (u:Dum (fun s q=>evC ctx (Lv ctx (i+1)) (Aa (Lv ctx (i+1))) k JY s (As [1,2,7,10,11,12] q))) (w:Dum q)
  (hend:∀ acc d,acc=xs.filter (fun x=>Ao x.label l)→Fin (q (.exit 0) ⟨Ad [7] [.sl 1],pO (pO Ag 0 (some ⟨17,xs.map mvS,d⟩)) 1 (some ⟨17,acc.map oS,true⟩),2⟩) Q) (hnil:∀ d,xs.filter (fun x=>Ao x.label l)=[]→Fin (q (.exit 0) ⟨Ad [7] [.lit (.slice none 0 0)],pO Ag 0 (some ⟨17,xs.map mvS,d⟩),1⟩) Q) :
  ∀ (suf pre:List Ae) (kk:Nat) (d:Bool),xs=pre++suf→suf.length<kk→suf.filter (fun x=>Ao x.label l)=xs.filter (fun x=>Ao x.label l) →
  GL 1 [1,2,7,10,11,12] (fun s q=>evC ctx (Lv ctx (i+1)) (Aa (Lv ctx (i+1))) k JY s (As [1,2,7,10,11,12] q)) q kk ⟨Ad [1,2,7,10,11,12] [iV l,.fn (.func 71) [] [],.lit (.slice none 0 0),.sl 0,iV xs.length,iV pre.length],pO Ag 0 (some ⟨17,pre.map mvS++suf.map oS,d⟩),1⟩ Q u w
 | [],pre,kk,d,hxs,hk,hacc=>by
  obtain ⟨kk,rfl⟩:∃ m,kk=m+1:=⟨kk - 1,by simp at hk;omega⟩
  have h1:decide ((pre.length:Int)<xs.length)=false:=by simp [hxs]
  have he:=hnil d (by rw [← hacc];rfl)
  have hp:xs=pre:=by simpa using hxs
  rw [hp] at he
  simp only [List.map_nil,List.append_nil]
  cases d
  all_goals
   simp +contextual -dsimp -implicitDefEqProofs (maxSteps:=5000000) only [gLs,↓Ai (JY.eq_1),h1,go_sem,simprocAttr]
   exact he
 | a::suf,pre,kk,d,hxs,hk,hacc=>by
  obtain ⟨kk,rfl⟩:∃ m,kk=m+1:=⟨kk - 1,by simp at hk;omega⟩
  have hl:pre.length<xs.length:=by simp [hxs]
  have h2:((pre.length:Int)<xs.length)=True:=by simpa using hl
  have h3:(0≤(pre.length:Int))=True:=by simp
  have h4:=wrN pre.length (by simp only [BB];omega)
  have h6:((pre.length:Int)<((pre.length+(suf.length+1):Nat):Int))=True:=by simp;omega
  have hg:(pre.map mvS++(a::suf).map oS)[pre.length]?=some (oS a):=by simp
  have hlen:(((pre.map mvS++(a::suf).map oS).length:Nat):Int)=xs.length:=by simp [hxs]
  have hset:∀ x,(pre.map mvS++(a::suf).map oS).set pre.length x=pre.map mvS++x::suf.map oS:=by intro x;simp [List.set_append]
  have hof:=yB (i+0) false a
  simp only [oS,List.map_cons] at hg hset hlen ⊢
  simp only [eS,Nat.add_assoc,Nat.reduceAdd] at hof
  cases ht:Ao a.label l
  ·have ih:=yH i k xs l hx q Q u w hend hnil suf (pre++[a]) kk true (by simp [hxs]) (by simpa using hk) (by rw [← hacc];simp [ht])
   simp only [Ah,List.map_append,List.map_cons,List.map_nil,List.append_assoc,List.cons_append,List.nil_append,mvS] at ih
   cases d
   all_goals
    simp +contextual -dsimp -implicitDefEqProofs (maxSteps:=5000000) only [gLs,↓Ai (JY.eq_1),h2,h3,h4,h6,hg,hlen,hset,hof,ht,List.length_map,go_sem,simprocAttr]
    obtain ⟨kk,rfl⟩:∃ m,kk=m+1:=⟨kk - 1,by simp at hk;omega⟩
    simp +contextual -dsimp -implicitDefEqProofs (maxSteps:=5000000) only [gLs,go_sem,simprocAttr] at ih ⊢
    exact ih
  ·have ih:=mD i k xs l hx q Q u w hend suf (pre++[a]) kk [a] true (by simp [hxs]) (by simpa using hk) (by simp) (by rw [← hacc];simp [ht])
   simp only [Ah,List.map_append,List.map_cons,List.map_nil,List.append_assoc,List.cons_append,List.nil_append,mvS,oS] at ih
   cases d
   all_goals
    simp +contextual -dsimp -implicitDefEqProofs (maxSteps:=5000000) only [gLs,↓Ai (JY.eq_1),h2,h3,h4,h6,hg,hlen,hset,hof,ht,List.length_map,List.replicate,go_sem,simprocAttr]
    obtain ⟨kk,rfl⟩:∃ m,kk=m+1:=⟨kk - 1,by simp at hk;omega⟩
    simp +contextual -dsimp -implicitDefEqProofs (maxSteps:=5000000) only [gLs,go_sem,simprocAttr] at ih ⊢
    exact ih
theorem s_uS (i:Nat) (xs:List Ae) (l:Int) (hx:(xs.length:Int)*184≤140737488355328):Aa (Lv ctx (i+2)) 70 [oSs xs,iV l,.fn (.func 71) [] []]=some (oSs (xs.filter (fun x=>Ao x.label l))):=by
 refine Af rfl (xs.length+1) (by rfl) ?_
 delta c70
 simp +contextual -dsimp -implicitDefEqProofs (maxSteps:=5000000) only [go_sem,simprocAttr]
 refine yH i _ xs l hx _ _ _ _ ?ha ?hb xs [] _ false (by simp) (by omega) rfl
 case hb =>
  intro d hn
  rw [hn]
  cases d<;>simp +contextual -dsimp -implicitDefEqProofs (maxSteps:=5000000) only [go_sem,simprocAttr]<;>rfl
 case ha =>
  intro acc d hacc
  rw [← hacc]
  cases d<;>simp +contextual -dsimp -implicitDefEqProofs (maxSteps:=5000000) only [go_sem,simprocAttr]
end Ve
namespace Ve
open Go Ve.Ab
set_option maxHeartbeats 16000000
set_option maxRecDepth 10000
theorem UQ {w:Aq} {l x v:Int} (hw:AL w=true) (hl:inR l 3=true) (hx:inR x 3=true):decide (NZ w ⟨l,x,v⟩<0)=decide (plW w<AK l x)∧decide (NZ w ⟨l,x,v⟩=0)=decide (plW w=AK l x):=by
 simp only [AL,inR,Bool.and_eq_true,decide_eq_true_eq] at hw hl hx
 have e1:=Jc (a:=w.level - l) (by omega) (by omega)
 have e2:=Jc (a:=w.index - x) (by omega) (by omega)
 simp only [wr] at e1 e2
 have h:(NZ w ⟨l,x,v⟩<0↔plW w<AK l x)∧(NZ w ⟨l,x,v⟩=0↔plW w=AK l x):=by
  simp only [NZ,e1,e2,plW,AK]
  split<;>omega
 exact ⟨by simp only [h.1],by simp only [h.2]⟩
theorem XY (P:FuncId→List V→Option V) (n:Nat) (f:Bool) (xs:List V):IL tbl P n f BF xs=.p none:=rfl
def ST (t:Int) (xs:List Aq):Bool:=match xs[CB t xs]? with
 | some w=>decide (plW w=t)
 | none=>false
theorem nH {l x:Int} (hx:inR x 3=true) {xs:List Aq} (hm:Bg xs=true):Bi xs l x=if ST (AK l x) xs=true then ((xs.getD (CB (AK l x) xs) ⟨0,0,0⟩).val,true) else (0,false):=by
 obtain ⟨h1,h2,_⟩:=BX hm
 unfold Bi
 rw [hm,if_pos rfl,VS hx xs h1 h2]
 unfold ST
 cases h:xs[CB (AK l x) xs]? with
 | none=>simp
 | some w=>simp only [List.getD_eq_getElem?_getD,h,Option.getD_some,decide_eq_true_eq]
theorem uT {lo hi:Nat} (h:hi≤16) (h2:lo<hi):IntKind.wrap .i64 ((lo:Int)+(hi:Int))=((lo+hi:Nat):Int)∧IntKind.wrap .u64 ((lo+hi:Nat):Int)=((lo+hi:Nat):Int)∧((((lo+hi:Nat):Int)).fdiv (2 ^ min (1:Int).toNat (IntKind.bits .u64)))=(((lo+hi) / 2:Nat):Int)∧IntKind.wrap .i64 (((lo+hi) / 2:Nat):Int)=(((lo+hi) / 2:Nat):Int):=by
 have key:∀ n:_root_.Fin 32,IntKind.wrap .i64 ((n.val:Nat):Int)=((n.val:Nat):Int)∧IntKind.wrap .u64 ((n.val:Nat):Int)=((n.val:Nat):Int)∧(((n.val:Nat):Int).fdiv (2 ^ min (1:Int).toNat (IntKind.bits .u64)))=((n.val / 2:Nat):Int)∧IntKind.wrap .i64 ((n.val / 2:Nat):Int)=((n.val / 2:Nat):Int):=by decide +kernel
 have:=key ⟨lo+hi,by omega⟩
 simp only at this
 rw [show (lo:Int)+(hi:Int)=((lo+hi:Nat):Int) by omega]
 exact this
theorem lV (i k:Nat) (pf nn p:Bool) (xs:List Aq) (hw:∀ w∈xs,AL w=true) (hp:xs.Pairwise (fun a b=>plW a<plW b)) (h16:xs.length≤16) (l x v:Int) (hl:inR l 3=true) (hx:inR x 3=true) (q:Out→St→Option Ans) (Q:V→Hp→Nat→Prop)
  (u:Dum (fun s q=>evC ctx (Lv ctx (i+2)) (Aa (Lv ctx (i+2))) k Nk s (As [0,2,4,8,9,10] q))) (w:Dum q)
  (hend:Fin (q (.exit 0) ⟨Ad [0,2,4,8,9] [.isl pf nn 3 (xs.map eWr),.fn (.func 170) [] [],.ip p [iV l,iV x,iV v] 0,iV xs.length,iV (CB (AK l x) xs)],Ag,0⟩) Q) :
  ∀ (kk lo hi:Nat),lo≤CB (AK l x) xs→CB (AK l x) xs≤hi→hi≤xs.length→hi<lo+kk →
  GL 0 [0,2,4,8,9,10] (fun s q=>evC ctx (Lv ctx (i+2)) (Aa (Lv ctx (i+2))) k Nk s (As [0,2,4,8,9,10] q)) q kk ⟨Ad [0,2,4,8,9,10] [.isl pf nn 3 (xs.map eWr),.fn (.func 170) [] [],.ip p [iV l,iV x,iV v] 0,iV xs.length,iV lo,iV hi],Ag,0⟩ Q u w
 | 0,lo,hi,h1,h2,h3,h4=>by omega
 | kk+1,lo,hi,h1,h2,h3,h4=>by
  by_cases hlt:lo<hi
  ·have l0:decide ((lo:Int)<(hi:Int))=true:=by simpa using hlt
   obtain ⟨g1,g2,g3,g4⟩:=uT (by omega) hlt
   have hsh:∀ t,BJ lay .shr t (.lit (.int .u64 ((lo+hi:Nat):Int))) (.lit (.int .u64 1))=some (.lit (.int .u64 (((lo+hi) / 2:Nat):Int))):=fun t=>by rw [Mx (by decide),g3]
   have hml:(lo+hi) / 2<xs.length:=by omega
   have hmlo:lo≤(lo+hi) / 2:=by omega
   have hmhi:(lo+hi) / 2<hi:=by omega
   generalize (lo+hi) / 2=c at g3 g4 hsh hml hmlo hmhi
   generalize ((lo+hi:Nat):Int)=e at g1 g2 g3 hsh
   have p1:(0≤(c:Int))=True:=by simp
   have p2:((c:Int)<(xs.length:Int))=True:=by simpa using hml
   obtain ⟨b,hb⟩:∃ b,xs[c]?=some b:=⟨_,List.getElem?_eq_getElem hml⟩
   have hs:=(UQ (v:=v) (hw b (List.mem_of_getElem? hb)) hl hx).1
   have w1:=wrN c (by simp only [BB];omega)
   by_cases hpb:plW b<AK l x
   ·have hca:c<CB (AK l x) xs:=by
     rcases Nat.lt_or_ge c (CB (AK l x) xs) with h | h
     ·exact h
     ·have:=jN _ xs hp c b h hb;omega
    have s1:decide (NZ b ⟨l,x,v⟩<0)=true:=by rw [hs];simpa using hpb
    have ih:=lV i k pf nn p xs hw hp h16 l x v hl hx q Q u w hend kk (c+1) hi (by omega) h2 h3 (by omega)
    simp +contextual -dsimp -implicitDefEqProofs (maxSteps:=5000000) only [gLs,↓Ai (Nk.eq_1),FG,l0,g1,g2,g4,hsh,p1,p2,hb,s1,w1,go_sem,simprocAttr]
    exact (Av (by rfl)).mpr ih
   ·have hca:CB (AK l x) xs≤c:=by
     rcases Nat.lt_or_ge c (CB (AK l x) xs) with h | h
     ·exact absurd (jM _ xs c b h hb) hpb
     ·exact h
    have s1:decide (NZ b ⟨l,x,v⟩<0)=false:=by rw [hs];simpa using hpb
    have ih:=lV i k pf nn p xs hw hp h16 l x v hl hx q Q u w hend kk lo c h1 hca (by omega) (by omega)
    simp +contextual -dsimp -implicitDefEqProofs (maxSteps:=5000000) only [gLs,↓Ai (Nk.eq_1),FG,l0,g1,g2,g4,hsh,p1,p2,hb,s1,w1,go_sem,simprocAttr]
    exact (Av (by rfl)).mpr ih
  ·have l0:decide ((lo:Int)<(hi:Int))=false:=by simpa using hlt
   have:lo=CB (AK l x) xs:=by omega
   subst this
   simp +contextual -dsimp -implicitDefEqProofs (maxSteps:=5000000) only [gLs,↓Ai (Nk.eq_1),l0,go_sem,simprocAttr]
   exact hend
theorem s_bs (i:Nat) (pf nn:Bool) (xs:List Aq) (hm:Bg xs=true) (l x v:Int) (hl:inR l 3=true) (hx:inR x 3=true):Aa (Lv ctx (i+3)) 206 [.isl pf nn 3 (xs.map eWr),.agg [iV l,iV x,iV v],.fn (.func 170) [] []]=some (.tup [iV (CB (AK l x) xs),bV (ST (AK l x) xs)]):=by
 obtain ⟨hw,hp,h16⟩:=BX hm
 have key:=fun p q Q u w hend=>lV i 17 pf nn p xs hw hp h16 l x v hl hx q Q u w hend 17 0 xs.length (Nat.zero_le _) (SB _ _) (Nat.le_refl _) (by omega)
 simp only [Int.natCast_zero] at key
 have hple:=SB (AK l x) xs
 refine Af rfl 17 (by rfl) ?_
 delta c206
 simp +contextual -dsimp -implicitDefEqProofs (maxSteps:=5000000) only [go_sem,simprocAttr]
 refine key _ _ _ _ _ ?_
 unfold ST
 cases hb:xs[CB (AK l x) xs]? with
 | none =>
  have hlen:CB (AK l x) xs=xs.length:=by
   have:=List.getElem?_eq_none_iff.1 hb;omega
  rw [hlen]
  have l0:decide ((xs.length:Int)<(xs.length:Int))=false:=by simp
  simp +contextual -dsimp -implicitDefEqProofs (maxSteps:=5000000) only [l0,XY,go_sem,simprocAttr]
 | some b =>
  have hlen:=Ax hb
  generalize CB (AK l x) xs=a at hb hlen
  have l0:decide ((a:Int)<(xs.length:Int))=true:=by simpa using hlen
  have p1:(0≤(a:Int))=True:=by simp
  have p2:((a:Int)<(xs.length:Int))=True:=by simpa using hlen
  have hs:=(UQ (v:=v) (hw b (List.mem_of_getElem? hb)) hl hx).2
  simp +contextual -dsimp -implicitDefEqProofs (maxSteps:=5000000) only [l0,p1,p2,hb,hs,go_sem,simprocAttr]
theorem a0i (i:Nat) (pf nn:Bool) (xs:List Aq) (hm:Bg xs=true) (l x:Int) (hl:inR l 3=true) (hx:inR x 3=true):Aa (Lv ctx (i+6)) 204 [.isl pf nn 3 (xs.map eWr),iV l,iV x]=some (.tup [iV (Bi xs l x).1,bV (Bi xs l x).2]):=by
 have h16:=(BX hm).2.2
 have q1:=Jq (i+2) pf nn xs (by simp only [BB];omega)
 have q2:=s_bs (i+(5 - 3)) pf nn xs hm l x 0 hl hx
 rw [hm] at q1
 rw [nH hx hm]
 simp only [Nat.add_assoc,Nat.reduceAdd,Nat.reduceSub] at q1 q2
 cases hh:ST (AK l x) xs
 ·rw [hh] at q2
  simp only [Bool.false_eq_true,if_false]
  refine Af rfl 0 (by rfl) ?_
  delta c204
  simp +contextual -dsimp -implicitDefEqProofs (maxSteps:=5000000) only [q1,q2,go_sem,simprocAttr]
 ·rw [hh] at q2
  simp only [if_true]
  unfold ST at hh
  cases hb:xs[CB (AK l x) xs]? with
  | none=>rw [hb] at hh;cases hh
  | some b =>
   have hlen:=Ax hb
   simp only [List.getD_eq_getElem?_getD,hb,Option.getD_some]
   generalize CB (AK l x) xs=a at q2 hb hlen
   have p1:(0≤(a:Int))=True:=by simp
   have p2:((a:Int)<(xs.length:Int))=True:=by simpa using hlen
   refine Af rfl 0 (by rfl) ?_
   delta c204
   simp +contextual -dsimp -implicitDefEqProofs (maxSteps:=5000000) only [q1,q2,p1,p2,hb,go_sem,simprocAttr]
end Ve
namespace Ve
open Go Ve.Ab
set_option maxHeartbeats 16000000
set_option maxRecDepth 10000
theorem HZ {w0 w1 w2 w3:List Aj} {l i:Int} (h:Ay ⟨w0,w1,w2,w3⟩ l i=true):∃ (n:Nat) (w:Aj),i=(n:Int)∧((⟨w0,w1,w2,w3⟩:A4 (List Aj)).get l)[n]?=some w∧AB ⟨w0,w1,w2,w3⟩ l i=w∧((n:Int)<(((⟨w0,w1,w2,w3⟩:A4 (List Aj)).get l).length:Int)):=by
 simp only [Ay,Bool.and_eq_true,decide_eq_true_eq] at h
 obtain ⟨⟨_,h1⟩,h2⟩:=h
 have hl:i.toNat<((⟨w0,w1,w2,w3⟩:A4 (List Aj)).get l).length:=by omega
 refine ⟨i.toNat,_,by omega,List.getElem?_eq_getElem hl,?_,by omega⟩
 simp only [AB,List.getElem?_eq_getElem hl,Option.getD_some]
theorem sw4 (a b c d:Bool):(a&&b&&c&&d)=(a&&b&&d&&c):=by cases a<;>cases b<;>cases c<;>cases d<;>rfl
theorem HY {ws:A4 (List Aj)} {l i:Int} (h:Ay ws l i=true):inR l 3=true:=by
 simp only [Ay,Bool.and_eq_true] at h;exact h.1.1
theorem Um {α:Type} {p:α→Bool} {l:List α} (h:l.all p=true) {j:Nat} {x:α} (hx:l[j]?=some x):p x=true :=
 List.all_eq_true.1 h x (List.mem_of_getElem? hx)
theorem KC {α:Type} (p:α→Bool) (d:α) (l:List α) (h:∀ j,j<l.length→p (l.getD j d)=true):l.all p=true:=by
 rw [List.all_eq_true]
 intro x hx
 obtain ⟨j,hj,rfl⟩:=List.mem_iff_getElem.1 hx
 have:=h j hj
 simpa [List.getD_eq_getElem?_getD,hj] using this
theorem KD {α:Type} (p:α→Bool) {l:List α} {j:Nat} {x:α} (hx:l[j]?=some x) (h:p x=false):l.all p=false:=by
 cases hh:l.all p with
 | false=>rfl
 | true=>rw [Um hh hx] at h;cases h
theorem pD {α:Type} (p:α→Bool) {l:List α} {j:Nat} {x:α} (hx:l[j]?=some x) (h:p x=true):l.any p=true :=
 List.any_eq_true.2 ⟨x,List.mem_of_getElem? hx,h⟩
theorem fP {α:Type} (p:α→Bool) (d:α) (l:List α) (h:∀ j,j<l.length→p (l.getD j d)=false):l.any p=false:=by
 rw [List.any_eq_false]
 intro x hx
 obtain ⟨j,hj,rfl⟩:=List.mem_iff_getElem.1 hx
 have:=h j hj
 simpa [List.getD_eq_getElem?_getD,hj] using this
theorem cE (i:Nat) (a b c d na nb nc nd:Bool) (w0 w1 w2 w3:List Aj) (h0:w0.length≤BB) (h1:w1.length≤BB) (h2:w2.length≤BB) (h3:w3.length≤BB) (pf nn:Bool) (xs:List AZ) (hx:xs.length≤BB):Aa (Lv ctx (i+5)) 24 [.agg [.isl a na 3 (w0.map eW),.isl b nb 3 (w1.map eW),.isl c nc 3 (w2.map eW),.isl d nd 3 (w3.map eW)],.isl pf nn 3 (xs.map eR)]=some (.tup [bV (BI ⟨w0,w1,w2,w3⟩ xs).1,iV (BI ⟨w0,w1,w2,w3⟩ xs).2]):=by
 have q1:=YK (i+0) a b c d na nb nc nd w0 w1 w2 w3 h0 h1 h2 h3
 have q2:=YJ (i+0) pf nn xs hx
 have q3:=UX (i+0) pf nn xs hx a b c d na nb nc nd w0 w1 w2 w3
 simp only [Nat.add_assoc,Nat.reduceAdd] at q1 q2 q3
 cases hc:(AS ⟨w0,w1,w2,w3⟩&&AY xs&&AP ⟨w0,w1,w2,w3⟩ xs)
 ·have e:BI ⟨w0,w1,w2,w3⟩ xs=(false,900):=by simp only [BI];rw [hc];rfl
  rw [e]
  refine Af rfl (xs.length+1) (by rfl) ?_
  delta c24
  simp +contextual -dsimp -implicitDefEqProofs (maxSteps:=5000000) only [q1,q2,q3,nn2,hc,go_sem,simprocAttr]
 ·have hcc:=hc
  simp only [Bool.and_eq_true] at hcc
  have hth:AP ⟨w0,w1,w2,w3⟩ xs=true:=by simp only [hcc]
  have e:BI ⟨w0,w1,w2,w3⟩ xs=(xs.any (Dp ⟨w0,w1,w2,w3⟩),0):=by simp only [BI];rw [hc];rfl
  rw [e]
  refine Af rfl (xs.length+1) (by rfl) ?_
  delta c24
  simp +contextual -dsimp -implicitDefEqProofs (maxSteps:=5000000) only [q1,q2,q3,nn2,hc,go_sem,simprocAttr]
  refine JK (S:=fun j=>⟨Ad [1,2,6] [.isl pf nn 3 (xs.map eR),.ip (a&&(b&&(c&&d))) [.isl a na 3 (w0.map eW),.isl b nb 3 (w1.map eW),.isl c nc 3 (w2.map eW),.isl d nd 3 (w3.map eW)] 0,iV j],Ag,0⟩) xs.length (fun j=>!(Dp ⟨w0,w1,w2,w3⟩ (xs.getD j ⟨0,0,0⟩))) rfl (by omega) ?_ ?_ ?_
  ·intro j kk hj hgd hl
   have hxj:xs[j]?=some (xs.getD j ⟨0,0,0⟩):=by simp [List.getD_eq_getElem?_getD,hj]
   generalize xs.getD j ⟨0,0,0⟩=x at hxj hgd
   obtain ⟨lv,ix,vr⟩:=x
   have ht:=Um hth hxj
   simp only at ht
   have hlb:=HY ht
   obtain ⟨n,w,rfl,hgw,hge,hln⟩:=HZ ht
   have l1:((j:Int)<(xs.length:Int))=True:=by simpa using hj
   have l2:(0≤(j:Int))=True:=by simp
   have l3:=wrN j (by omega)
   have l4:(0≤(n:Int))=True:=by simp
   rcases Dm lv with rfl | rfl | rfl | rfl | h'
   ·have hn:w0[n]?=some w:=by simpa [A4.get] using hgw
    have hlt:((n:Int)<(w0.length:Int))=True:=by simpa [A4.get] using hln
    have f1:decide (w.ver=vr)=true:=by simp only [Dp,hge] at hgd;simpa using hgd
    simp +contextual -dsimp -implicitDefEqProofs (maxSteps:=5000000) only [l1,l2,l3,l4,hxj,hn,hlt,f1,↓Ai (KV.eq_1),go_sem,simprocAttr]
    exact hl
   ·have hn:w1[n]?=some w:=by simpa [A4.get] using hgw
    have hlt:((n:Int)<(w1.length:Int))=True:=by simpa [A4.get] using hln
    have f1:decide (w.ver=vr)=true:=by simp only [Dp,hge] at hgd;simpa using hgd
    simp +contextual -dsimp -implicitDefEqProofs (maxSteps:=5000000) only [l1,l2,l3,l4,hxj,hn,hlt,f1,↓Ai (KV.eq_1),go_sem,simprocAttr]
    exact hl
   ·have hn:w2[n]?=some w:=by simpa [A4.get] using hgw
    have hlt:((n:Int)<(w2.length:Int))=True:=by simpa [A4.get] using hln
    have f1:decide (w.ver=vr)=true:=by simp only [Dp,hge] at hgd;simpa using hgd
    simp +contextual -dsimp -implicitDefEqProofs (maxSteps:=5000000) only [l1,l2,l3,l4,hxj,hn,hlt,f1,↓Ai (KV.eq_1),go_sem,simprocAttr]
    exact hl
   ·have hn:w3[n]?=some w:=by simpa [A4.get] using hgw
    have hlt:((n:Int)<(w3.length:Int))=True:=by simpa [A4.get] using hln
    have f1:decide (w.ver=vr)=true:=by simp only [Dp,hge] at hgd;simpa using hgd
    simp +contextual -dsimp -implicitDefEqProofs (maxSteps:=5000000) only [l1,l2,l3,l4,hxj,hn,hlt,f1,↓Ai (KV.eq_1),go_sem,simprocAttr]
    exact hl
   ·rw [hlb] at h';cases h'
  ·intro j kk hj hgd _
   have hxj:xs[j]?=some (xs.getD j ⟨0,0,0⟩):=by simp [List.getD_eq_getElem?_getD,hj]
   generalize xs.getD j ⟨0,0,0⟩=x at hxj hgd
   obtain ⟨lv,ix,vr⟩:=x
   have ht:=Um hth hxj
   simp only at ht
   have hlb:=HY ht
   obtain ⟨n,w,rfl,hgw,hge,hln⟩:=HZ ht
   have l1:((j:Int)<(xs.length:Int))=True:=by simpa using hj
   have l2:(0≤(j:Int))=True:=by simp
   have l3:=wrN j (by omega)
   have l4:(0≤(n:Int))=True:=by simp
   have hf:(xs.any (Dp ⟨w0,w1,w2,w3⟩))=true:=pD _ hxj (by simpa using hgd)
   rcases Dm lv with rfl | rfl | rfl | rfl | h'
   ·have hn:w0[n]?=some w:=by simpa [A4.get] using hgw
    have hlt:((n:Int)<(w0.length:Int))=True:=by simpa [A4.get] using hln
    have f1:decide (w.ver=vr)=false:=by simp only [Dp,hge] at hgd;simpa using hgd
    simp +contextual -dsimp -implicitDefEqProofs (maxSteps:=5000000) only [l1,l2,l3,l4,hxj,hn,hlt,f1,hf,↓Ai (KV.eq_1),go_sem,simprocAttr]
   ·have hn:w1[n]?=some w:=by simpa [A4.get] using hgw
    have hlt:((n:Int)<(w1.length:Int))=True:=by simpa [A4.get] using hln
    have f1:decide (w.ver=vr)=false:=by simp only [Dp,hge] at hgd;simpa using hgd
    simp +contextual -dsimp -implicitDefEqProofs (maxSteps:=5000000) only [l1,l2,l3,l4,hxj,hn,hlt,f1,hf,↓Ai (KV.eq_1),go_sem,simprocAttr]
   ·have hn:w2[n]?=some w:=by simpa [A4.get] using hgw
    have hlt:((n:Int)<(w2.length:Int))=True:=by simpa [A4.get] using hln
    have f1:decide (w.ver=vr)=false:=by simp only [Dp,hge] at hgd;simpa using hgd
    simp +contextual -dsimp -implicitDefEqProofs (maxSteps:=5000000) only [l1,l2,l3,l4,hxj,hn,hlt,f1,hf,↓Ai (KV.eq_1),go_sem,simprocAttr]
   ·have hn:w3[n]?=some w:=by simpa [A4.get] using hgw
    have hlt:((n:Int)<(w3.length:Int))=True:=by simpa [A4.get] using hln
    have f1:decide (w.ver=vr)=false:=by simp only [Dp,hge] at hgd;simpa using hgd
    simp +contextual -dsimp -implicitDefEqProofs (maxSteps:=5000000) only [l1,l2,l3,l4,hxj,hn,hlt,f1,hf,↓Ai (KV.eq_1),go_sem,simprocAttr]
   ·rw [hlb] at h';cases h'
  ·intro kk hall
   have l0:decide ((xs.length:Int)<(xs.length:Int))=false:=by simp
   have hf:(xs.any (Dp ⟨w0,w1,w2,w3⟩))=false:=fP _ ⟨0,0,0⟩ _ (fun j hj=>by simpa using hall j hj)
   simp +contextual -dsimp -implicitDefEqProofs (maxSteps:=5000000) only [l0,hf,↓Ai (KV.eq_1),go_sem,simprocAttr]
end Ve
namespace Ve
open Go Ve.Ab
set_option maxHeartbeats 16000000
set_option maxRecDepth 10000
def SS (l x:Int) (w:Aq):Bool:=decide (w.level=l)&&decide (w.index=x)
theorem Rx (l x:Int):∀ (ws:List Aq) (j:Nat) (w:Aq),ws[j]?=some w→SS l x w=true→(∀ i,i<j→SS l x (ws.getD i ⟨0,0,0⟩)=false)→AT l x ws=(w.val,true)
 | [],j,w,h,_,_=>by simp at h
 | a::r,0,w,h,hh,_=>by
  simp only [List.getElem?_cons_zero,Option.some.injEq] at h
  subst h
  simp only [SS,Bool.and_eq_true,decide_eq_true_eq] at hh
  simp only [AT];exact if_pos hh
 | a::r,j+1,w,h,hh,hg=>by
  have h0:=hg 0 (by omega)
  simp only [List.getD_cons_zero,SS,Bool.and_eq_false_iff,decide_eq_false_iff_not] at h0
  simp only [AT]
  rw [if_neg (by rintro ⟨h1,h2⟩;rcases h0 with h0 | h0;exact h0 h1;exact h0 h2)]
  exact Rx l x r j w (by simpa using h) hh (fun i hi=>by have:=hg (i+1) (by omega);simpa using this)
theorem Rw (l x:Int):∀ (ws:List Aq),(∀ i,i<ws.length→SS l x (ws.getD i ⟨0,0,0⟩)=false)→AT l x ws=(0,false)
 | [],_=>rfl
 | a::r,hg=>by
  have h0:=hg 0 (by simp)
  simp only [List.getD_cons_zero,SS,Bool.and_eq_false_iff,decide_eq_false_iff_not] at h0
  simp only [AT]
  rw [if_neg (by rintro ⟨h1,h2⟩;rcases h0 with h0 | h0;exact h0 h1;exact h0 h2)]
  exact Rw l x r (fun i hi=>by have:=hg (i+1) (by simp;omega);simpa using this)
theorem a0x (i:Nat) (pf nn:Bool) (xs:List Aq) (hx:xs.length≤BB) (l x:Int):Aa (Lv ctx (i+5)) 51 [.isl pf nn 3 (xs.map eWr),iV l,iV x]=some (.tup [iV (Bi xs l x).1,bV (Bi xs l x).2]):=by
 have q1:=UW (i+0) pf nn xs hx
 simp only [Nat.add_assoc,Nat.reduceAdd] at q1
 cases hm:Bg xs
 ·have e:Bi xs l x=(0,false):=by simp only [Bi,hm];rfl
  rw [e]
  rw [hm] at q1
  refine Af rfl (xs.length+1) (by rfl) ?_
  delta c51
  simp +contextual -dsimp -implicitDefEqProofs (maxSteps:=5000000) only [q1,gLs,Bool.and_false,↓Ai (Wj.eq_1),go_sem,simprocAttr]
 ·have e:Bi xs l x=AT l x xs:=by simp only [Bi,hm,if_true]
  rw [e]
  rw [hm] at q1
  refine Af rfl (xs.length+1) (by rfl) ?_
  delta c51
  simp +contextual -dsimp -implicitDefEqProofs (maxSteps:=5000000) only [q1,go_sem,simprocAttr]
  refine JK (S:=fun j=>⟨Ad [0,1,2,8] [.isl pf nn 3 (xs.map eWr),iV l,iV x,iV j],Ag,0⟩) xs.length (fun j=>!SS l x (xs.getD j ⟨0,0,0⟩)) rfl (by omega) ?_ ?_ ?_
  ·intro j kk hj hgd hl
   have hxj:xs[j]?=some (xs.getD j ⟨0,0,0⟩):=by simp [List.getD_eq_getElem?_getD,hj]
   generalize xs.getD j ⟨0,0,0⟩=a at hxj hgd
   have l1:((j:Int)<(xs.length:Int))=True:=by simpa using hj
   have l2:(0≤(j:Int))=True:=by simp
   have l3:=wrN j (by omega)
   have f0:SS l x a=false:=by simpa using hgd
   have f1:(decide (a.level=l)&&decide (a.index=x))=false:=f0
   simp +contextual -dsimp -implicitDefEqProofs (maxSteps:=5000000) only [q1,l1,l2,l3,hxj,f1,↓Ai (Wj.eq_1),go_sem,simprocAttr]
   exact hl
  ·intro j kk hj hgd hbef
   have hxj:xs[j]?=some (xs.getD j ⟨0,0,0⟩):=by simp [List.getD_eq_getElem?_getD,hj]
   have hf:SS l x (xs.getD j ⟨0,0,0⟩)=true:=by simpa using hgd
   have hfin:=Rx l x xs j _ hxj hf (fun i hi=>by simpa using hbef i hi)
   generalize xs.getD j ⟨0,0,0⟩=a at hxj hgd hf hfin
   have l1:((j:Int)<(xs.length:Int))=True:=by simpa using hj
   have l2:(0≤(j:Int))=True:=by simp
   have f1:(decide (a.level=l)&&decide (a.index=x))=true:=hf
   simp +contextual -dsimp -implicitDefEqProofs (maxSteps:=5000000) only [q1,l1,l2,hxj,f1,hfin,↓Ai (Wj.eq_1),go_sem,simprocAttr]
  ·intro kk hall
   have l0:decide ((xs.length:Int)<(xs.length:Int))=false:=by simp
   have hfin:=Rw l x xs (fun i hi=>by simpa using hall i hi)
   simp +contextual -dsimp -implicitDefEqProofs (maxSteps:=5000000) only [q1,l0,hfin,Bool.false_and,↓Ai (Wj.eq_1),go_sem,simprocAttr]
theorem cB (r:AZ):AY [r]=CF r:=by simp [AY,Ca]
theorem WD (w:Aq):Bg [w]=AL w:=by simp [Bg,Be]
end Ve
namespace Ve
open Go Ve.Ab
set_option maxHeartbeats 16000000
set_option maxRecDepth 10000
theorem qW (i:Nat) (pf nn:Bool) (xs:List Aq) (hm:Bg xs=true) (l x v:Int) (hw:AL ⟨l,x,v⟩=true):Aa (Lv ctx (i+7)) 190 [.isl pf nn 3 (xs.map eWr),.agg [iV l,iV x,iV v]]=some (.tup [Xm (DG ⟨l,x,v⟩ xs),iV 0]):=by
 obtain ⟨h1,h2,h16⟩:=BX hm
 have hl:inR l 3=true:=by simp only [AL,Bool.and_eq_true] at hw;exact hw.1.1
 have hx:inR x 3=true:=by simp only [AL,Bool.and_eq_true] at hw;exact hw.1.2
 have q1:=Jq (i+3) pf nn xs (by simp only [BB];omega)
 have q2:=Jq (i+3) false false [⟨l,x,v⟩] (by simp [BB])
 have q3:=s_bs (i+(6 - 3)) pf nn xs hm l x v hl hx
 rw [hm] at q1
 rw [WD,hw] at q2
 simp only [Nat.add_assoc,Nat.reduceAdd,Nat.reduceSub,List.map_cons,List.map_nil,eWr] at q1 q2 q3
 have b1:((xs.length:Int)*24≤140737488355328)=True:=by simp only [eq_iff_iff,iff_true];omega
 have hple:=SB (AK l x) xs
 cases hh:ST (AK l x) xs
 ·have hmiss:∀ w,xs[CB (AK l x) xs]?=some w→plW w≠AK l x:=by
   intro w h e
   unfold ST at hh
   rw [h] at hh
   simp only [decide_eq_false_iff_not] at hh
   exact hh e
  have hlen:¬ xs.length=16:=by
   intro h
   obtain ⟨y,hy,hpy⟩:=nE hm h hw
   obtain ⟨w,hw1,hw2⟩:=YM h2 ⟨y,hy,hpy⟩
   exact hmiss w hw1 hw2
  have hins:DG ⟨l,x,v⟩ xs=xs.take (CB (AK l x) xs)++[⟨l,x,v⟩]++xs.drop (CB (AK l x) xs):=mU (w:=⟨l,x,v⟩) hmiss
  rw [hins]
  rw [hh] at q3
  generalize CB (AK l x) xs=a at q3 hple ⊢
  have z:decide ((xs.length:Int)=16)=false:=by simp;omega
  have p1:(0≤(a:Int))=True:=by simp
  have p2:(a≤xs.length)=True:=by simpa using hple
  have b2:(((xs.length+1:Nat):Int)*24≤140737488355328)=True:=by simp only [eq_iff_iff,iff_true];omega
  simp only [Xm,List.map_append,List.map_take,List.map_drop,List.map_cons,List.map_nil,eWr]
  refine Af rfl 0 (by rfl) ?_
  delta c190
  cases pf<;>simp +contextual -dsimp -implicitDefEqProofs (maxSteps:=5000000) only [q1,q2,q3,b1,b2,z,p1,p2,Int.toNat_natCast,List.replicate,List.length_map,go_sem,simprocAttr]
 ·have hhit:∃ w,xs[CB (AK l x) xs]?=some w∧plW w=AK l x:=by
   unfold ST at hh
   cases h:xs[CB (AK l x) xs]? with
   | none=>rw [h] at hh;cases hh
   | some w=>rw [h] at hh;exact ⟨w,rfl,by simpa using hh⟩
  obtain ⟨w,hg,hpw⟩:=hhit
  have hins:DG ⟨l,x,v⟩ xs=xs.set (CB (AK l x) xs) ⟨l,x,v⟩:=uP (w:=⟨l,x,v⟩) hg hpw
  rw [hins]
  rw [hh] at q3
  have hlt:=Ax hg
  generalize CB (AK l x) xs=a at q3 hlt hg ⊢
  have p1:(0≤(a:Int))=True:=by simp
  have p2:((a:Int)<(xs.length:Int))=True:=by simpa using hlt
  have e9:(xs.map eWr).set a (.agg [iV l,iV x,iV v])=(xs.set a ⟨l,x,v⟩).map eWr:=by rw [List.map_set];rfl
  have e8:(xs.set a ⟨l,x,v⟩).length=xs.length:=List.length_set ..
  refine Af rfl 0 (by rfl) ?_
  delta c190
  cases pf<;>simp +contextual -dsimp -implicitDefEqProofs (maxSteps:=5000000) only [q1,q2,q3,b1,p1,p2,hg,e9,e8,Int.toNat_natCast,List.replicate,List.length_map,go_sem,simprocAttr]
end Ve
namespace Ve
open Go Ve.Ab
set_option maxRecDepth 10000
end Ve
namespace Ve
open Go Ve.Ab
set_option maxHeartbeats 16000000
set_option maxRecDepth 10000
theorem lI {m:Ac} {at_:Int} (h:CJ m at_=none):Dz m at_=(false,1400):=by unfold Dz;rw [h]
theorem Xo {m:Ac} {at_:Int} {s:Ae} {x:AD} (h:CJ m at_=some (s,x)) (hc:¬ x.code=2):Dz m at_=(false,1400):=by unfold Dz;rw [h];simp only [hc,if_false]
theorem Ph {m:Ac} {at_:Int} {s:Ae} {x:AD} (h:CJ m at_=some (s,x)) (hc:x.code=2):Dz m at_=(!Ao x.b s.label,0):=by unfold Dz;rw [h];simp only [hc,if_true]
theorem SJ {m:Ac} {at_:Int} (h:CJ m at_=none∨∃ s x,CJ m at_=some (s,x)∧¬ x.code=2):Dz m at_=(false,1400)∧Cu m at_=(AA,1400)∧Ct m at_=(AA,1500):=by
 rcases h with h | ⟨s,x,h,hc⟩
 ·refine ⟨lI h,?_,?_⟩
  ·unfold Cu;rw [h]
  ·unfold Ct;rw [h]
 ·refine ⟨Xo h hc,?_,?_⟩
  ·unfold Cu;rw [h];simp only [hc,if_false]
  ·unfold Ct;rw [h];simp only [hc,if_false]
theorem Ld (m:Ac) (at_:Int):(CJ m at_=none∨∃ s x,CJ m at_=some (s,x)∧¬ x.code=2)∨∃ (k n:Nat) (s:Ae) (x:AD),at_=(k:Nat)∧m.sess[k]?=some s∧Br m∧SP m.words s∧s.step=0∧s.pc=(n:Int)∧n<s.prog.length∧s.prog[n]?=some x∧x.code=2∧CJ m at_=some (s,x):=by
 cases Iw m at_ with
 | no h=>exact .inl (.inl (JR h))
 | off k s e0 hs hM hS hst=>subst e0;exact .inl (.inl (EO hs hM hst))
 | fin k s e0 hs hM hS hst hp=>subst e0;exact .inl (.inl (HN hs hM hst hp))
 | on k n s x e0 hs hM hS hst hp hn hi =>
  subst e0
  by_cases hc:x.code=2
  ·exact .inr ⟨k,n,s,x,rfl,hs,hM,hS,hst,hp,hn,hi,hc,FM hs hM hst hp hi⟩
  ·exact .inl (.inr ⟨s,x,FM hs hM hst hp hi,hc⟩)
end Ve
namespace Ve
open Go Ve.Ab
set_option maxHeartbeats 16000000
set_option maxRecDepth 10000
abbrev v4 (A:A4 Int):V:=.agg [iV A.a0,iV A.a1,iV A.a2,iV A.a3]
theorem iJ (i:Nat) (A:A4 Int) (h4:Dx A=true) (r v:Int) (hr:inR r 3=true) (hv:inR v 255=true):Aa (Lv ctx (i+4)) 191 [v4 A,iV r,iV v]=some (.tup [v4 (A.set r v),iV 0]):=by
 obtain ⟨a,b,c,d⟩:=A
 have ha:Ft 255 a b c d=true:=h4
 rcases Dm r with rfl | rfl | rfl | rfl | h'
 case inr.inr.inr.inr=>rw [hr] at h';cases h'
 all_goals
  refine Af rfl 0 (by rfl) ?_
  delta c191
  simp +contextual -dsimp -implicitDefEqProofs (maxSteps:=5000000) only [ha,hr,hv,A4.set,go_sem,simprocAttr]
theorem a7f:∀ n:_root_.Fin 256,(FloatKind.f64.decode (FloatKind.f64.nearest ((n.val:Nat):Int))).toInt .zero=some ((n.val:Nat):Int):=by decide +kernel
theorem yT {x:Int} (h:inR x 255=true):(FloatKind.f64.decode (FloatKind.f64.nearest x)).toInt .zero=some x∧(IntKind.min .i64≤x∧x≤IntKind.max .i64)=True:=by
 rw [AE] at h
 have e1:IntKind.min .i64=-9223372036854775808:=by decide
 have e2:IntKind.max .i64=9223372036854775807:=by decide
 refine ⟨?_,by rw [e1,e2,eq_iff_iff,iff_true];omega⟩
 have:=a7f ⟨x.toNat,by omega⟩
 simp only [Int.toNat_of_nonneg h.1] at this
 exact this
theorem oV {x y:Int} (hx:inR x 255=true) (hy:inR y 255=true):IntKind.wrap .i64 (x+y)=x+y∧(x+y).tmod 256=(x+y) % 256∧inR ((x+y) % 256) 255=true:=by
 rw [AE] at hx hy
 exact ⟨Bp (by omega) (by omega),Int.tmod_eq_emod_of_nonneg (by omega),by rw [AE];omega⟩
theorem a0n (i:Nat) (A:A4 Int) (h4:Dx A=true) (r t:Int) (hr:inR r 3=true) (ht:inR t 3=true):Aa (Lv ctx (i+5)) 192 [v4 A,iV r,iV t]=some (.tup [v4 (A.set r ((A.get r+A.get t) % 256)),iV 0]):=by
 have hreg:∀ x,inR x 3=true→inR (A.get x) 255=true:=by
  intro x hx
  obtain ⟨a,b,c,d⟩:=A
  have ha:Ft 255 a b c d=true:=h4
  simp only [Ft,Bool.and_eq_true] at ha
  rcases Dm x with rfl | rfl | rfl | rfl | h'
  ·exact ha.1.1.1
  ·exact ha.1.1.2
  ·exact ha.1.2
  ·exact ha.2
  ·rw [hx] at h';cases h'
 have hx:=hreg r hr
 have hy:=hreg t ht
 obtain ⟨s1,s2,s3⟩:=oV hx hy
 have q:=iJ (i+0) A h4 r ((A.get r+A.get t) % 256) hr s3
 obtain ⟨c1,c3⟩:=yT hx
 obtain ⟨c2,c4⟩:=yT hy
 have hrem:BJ lay .rem 3 (iV (A.get r+A.get t)) (iV 256)=some (iV ((A.get r+A.get t) % 256)):=by rw [Oq (by decide),s2]
 simp only [Nat.add_assoc,Nat.reduceAdd] at q
 clear hx hy s2 s3 hreg
 obtain ⟨a,b,c,d⟩:=A
 have ha:Ft 255 a b c d=true:=h4
 rcases Dm r with rfl | rfl | rfl | rfl | h'
 case inr.inr.inr.inr=>rw [hr] at h';cases h'
 all_goals
  rcases Dm t with rfl | rfl | rfl | rfl | h'
  case inr.inr.inr.inr=>rw [ht] at h';cases h'
  all_goals
   simp only [A4.get,A4.set,simprocAttr] at q c1 c2 c3 c4 hrem s1 ⊢
   refine Af rfl 0 (by rfl) ?_
   delta c192
   simp +contextual -dsimp -implicitDefEqProofs (maxSteps:=5000000) only [ha,hr,ht,c1,c2,c3,c4,s1,hrem,q,go_sem,simprocAttr]
end Ve
namespace Ve
open Go Ve.Ab
set_option maxHeartbeats 16000000
set_option maxRecDepth 10000
theorem qX (i:Nat) (pf nn:Bool) (xs:List AZ) (hx:(xs.length:Int)*24≤140737488355328) (a b c:Int):Aa (Lv ctx (i+5)) 205 [.isl pf nn 3 (xs.map eR),.agg [iV a,iV b,iV c]]=some (.tup [oRs (BQ xs ⟨a,b,c⟩).1,iV (BQ xs ⟨a,b,c⟩).2]):=by
 have hb:xs.length≤BB:=by simp only [BB];omega
 have q1:=Ob (i+0) pf nn xs hb
 have q2:=Ob (i+0) false false [⟨a,b,c⟩] (by simp [BB])
 rw [cB] at q2
 simp only [Nat.add_assoc,Nat.reduceAdd,List.map_cons,List.map_nil,eR] at q1 q2
 have b1:((xs.length:Int)*24≤140737488355328)=True:=by simpa using hx
 cases h1:AY xs
 ·have e:BQ xs ⟨a,b,c⟩=([],900):=by simp only [BQ,h1];rfl
  rw [e]
  rw [h1] at q1
  refine Af rfl 0 (by rfl) ?_
  delta fG
  simp +contextual -dsimp -implicitDefEqProofs (maxSteps:=5000000) only [q1,List.map_nil,go_sem,simprocAttr]
  try rfl
 ·rw [h1] at q1
  cases h2:CF ⟨a,b,c⟩
  ·have e:BQ xs ⟨a,b,c⟩=([],900):=by simp only [BQ,h1,h2];rfl
   rw [e]
   rw [h2] at q2
   refine Af rfl 0 (by rfl) ?_
   delta fG
   simp +contextual -dsimp -implicitDefEqProofs (maxSteps:=5000000) only [q1,q2,List.replicate,List.map_nil,go_sem,simprocAttr]
   try rfl
  ·rw [h2] at q2
   have e:BQ xs ⟨a,b,c⟩=if xs.any (Cz ⟨a,b,c⟩)=true then (xs,0) else if xs.length=16 then ([],900) else (xs++[⟨a,b,c⟩],0):=by simp only [BQ,h1,h2,Bool.and_self,if_true]
   have h16:xs.length≤16:=by simp only [AY,Bool.and_eq_true,decide_eq_true_eq] at h1;exact h1.2
   have hcf:Aa (Lv ctx (i+4)) 168 [.isl pf nn 3 (xs.map eR),.fn (.func 197) [] [.ip true [iV a,iV b,iV c] 0]]=some (bV (xs.any (Cz ⟨a,b,c⟩))) :=
    OO (i+2) pf nn xs (Cz ⟨a,b,c⟩) 197 [.ip true [iV a,iV b,iV c] 0] (fun _ _ _ _ _ _=>rfl) (fun _=>rfl) (by simp [AU,V.scrub]) rfl (fun x _=>by simp only [eR];exact yC (i+1) true a b c x.level x.index x.ver) hb
   rw [e]
   cases h3:xs.any (Cz ⟨a,b,c⟩)
   ·rw [h3] at hcf
    simp only [Bool.false_eq_true,if_false]
    by_cases h4:xs.length=16
    ·have z:decide ((xs.length:Int)=16)=true:=by simp;omega
     simp only [h4,if_true]
     refine Af rfl 0 (by rfl) ?_
     delta fG
     cases pf
     all_goals
      simp +contextual -dsimp -implicitDefEqProofs (maxSteps:=5000000) only [q1,q2,b1,hcf,z,List.replicate,List.map_nil,go_sem,simprocAttr]
      try rfl
    ·have z:decide ((xs.length:Int)=16)=false:=by simp;omega
     have b2:(((xs.length+1:Nat):Int)*24≤140737488355328)=True:=by simp;omega
     simp only [h4,if_false,List.map_append,List.map_cons,List.map_nil,eR,oRs]
     refine Af rfl 0 (by rfl) ?_
     delta fG
     cases pf<;>simp +contextual -dsimp -implicitDefEqProofs (maxSteps:=5000000) only [q1,q2,b1,b2,hcf,z,List.replicate,go_sem,simprocAttr]
   ·rw [h3] at hcf
    simp only [if_true]
    refine Af rfl 0 (by rfl) ?_
    delta fG
    cases pf<;>simp +contextual -dsimp -implicitDefEqProofs (maxSteps:=5000000) only [q1,q2,b1,hcf,List.replicate,go_sem,simprocAttr]
end Ve
namespace Ve
open Go Ve.Ab
set_option maxHeartbeats 16000000
set_option maxRecDepth 10000
abbrev nilV:V:=.lit (.slice none 0 0)
end Ve
namespace Ve
open Go Ve.Ab
set_option maxHeartbeats 16000000
set_option maxRecDepth 10000
theorem qP (a b:Ae):a=b↔a.id=b.id∧a.label=b.label∧a.clear=b.clear∧a.prog=b.prog∧a.step=b.step∧a.pc=b.pc∧a.regs.a0=b.regs.a0∧a.regs.a1=b.regs.a1∧a.regs.a2=b.regs.a2∧a.regs.a3=b.regs.a3∧a.reads=b.reads∧a.writes=b.writes∧a.at_=b.at_∧a.stamp=b.stamp∧a.tries=b.tries∧a.result=b.result∧a.told=b.told:=by
 rcases a with ⟨_,_,_,_,_,_,⟨_,_,_,_⟩,_,_,_,_,_,_,_⟩
 rcases b with ⟨_,_,_,_,_,_,⟨_,_,_,_⟩,_,_,_,_,_,_,_⟩
 simp [and_assoc]
def FT (b:Bool) (q:Out→St→Option Ans) (Q:V→Hp→Nat→Prop) (s1 s2:St):Prop :=
 match b with
 | true=>Fin (q (.exit 0) s1) Q
 | false=>Fin (q .ret s2) Q
theorem Cd (q:Out→St→Option Ans) (Q:V→Hp→Nat→Prop) (s1 s2:St):FT true q Q s1 s2=Fin (q (.exit 0) s1) Q:=(rfl)
theorem Ce (q:Out→St→Option Ans) (Q:V→Hp→Nat→Prop) (s1 s2:St):FT false q Q s1 s2=Fin (q .ret s2) Q:=(rfl)
theorem ND (i k:Nat) (pa na pb nb:Bool) (xs ys:List Aj) (hx:xs.length≤BB) (q:Out→St→Option Ans) (Q:V→Hp→Nat→Prop) (u:Dum (fun s q=>evC ctx (Lv ctx i) (Aa (Lv ctx i)) k RF s (As [0,1,5] q))) (w:Dum q):∀ (suf suf' pre pre':List Aj) (kk:Nat),xs=pre++suf→ys=pre'++suf'→pre.length=pre'.length→suf.length=suf'.length→suf.length<kk →
  GL 0 [0,1,5] (fun s q=>evC ctx (Lv ctx i) (Aa (Lv ctx i)) k RF s (As [0,1,5] q)) q kk ⟨Ad [0,1,5] [.isl pa na 3 (xs.map eW),.isl pb nb 3 (ys.map eW),iV pre.length],Ag,0⟩ Q u w=FT (decide (suf=suf')) q Q ⟨Ad [] [],Ag,0⟩ ⟨Ad [4] [bV false],Ag,0⟩
 | [],suf',pre,pre',kk,hxs,hys,hpl,hsl,hk=>by
  obtain ⟨kk,rfl⟩:∃ m,kk=m+1:=⟨kk - 1,by simp at hk;omega⟩
  obtain rfl:suf'=[]:=by cases suf'<;>simp_all
  have h1:decide ((pre.length:Int)<xs.length)=false:=by simp [hxs]
  simp +contextual -dsimp -implicitDefEqProofs (maxSteps:=5000000) only [gLs,↓Ai (RF.eq_1),h1,Cd,go_sem,simprocAttr]
 | a::suf,[],pre,pre',kk,hxs,hys,hpl,hsl,hk=>by simp at hsl
 | a::suf,b::suf',pre,pre',kk,hxs,hys,hpl,hsl,hk=>by
  obtain ⟨kk,rfl⟩:∃ m,kk=m+1:=⟨kk - 1,by simp at hk;omega⟩
  have hl:pre.length<xs.length:=by simp [hxs]
  have hl':pre.length<ys.length:=by simp [hys,hpl]
  have h2:((pre.length:Int)<xs.length)=True:=by simpa using hl
  have h2':((pre.length:Int)<ys.length)=True:=by simpa using hl'
  have h3:(0≤(pre.length:Int))=True:=by simp
  have h4:=wrN pre.length (by omega)
  have hg:xs[pre.length]?=some a:=by simp [hxs]
  have hg':ys[pre.length]?=some b:=by simp [hys,hpl]
  have ih:=ND i k pa na pb nb xs ys hx q Q u w suf suf' (pre++[a]) (pre'++[b]) kk (by simp [hxs]) (by simp [hys]) (by simpa using hpl) (by simpa using hsl) (by simpa using hk)
  rw [Ah] at ih
  by_cases hab:a=b
  ·subst hab
   have hd:decide (a::suf=a::suf')=decide (suf=suf'):=by simp
   rw [hd]
   simp +contextual -dsimp -implicitDefEqProofs (maxSteps:=5000000) only [gLs,↓Ai (RF.eq_1),h2,h2',h3,h4,hg,hg',ih,go_sem,simprocAttr]
  ·have hne:(decide (a.val=b.val)&&(decide (a.ver=b.ver)&&(decide (a.lock=b.lock))))=false:=by cases a;cases b;simp_all
   have hd:decide (a::suf=b::suf')=false:=by simp [hab]
   rw [hd]
   simp +contextual -dsimp -implicitDefEqProofs (maxSteps:=5000000) only [gLs,↓Ai (RF.eq_1),h2,h2',h3,h4,hg,hg',hne,Ce,go_sem,simprocAttr]
theorem HD (i:Nat) (pa na pb nb:Bool) (xs ys:List Aj) (hx:xs.length≤BB):Aa (Lv ctx (i+1)) 98 [.isl pa na 3 (xs.map eW),.isl pb nb 3 (ys.map eW)]=some (bV (decide (xs=ys))):=by
 refine Af rfl (xs.length+1) (by rfl) ?_
 delta c98
 by_cases hl:xs.length=ys.length
 ·have h1:decide ((xs.length:Int)=ys.length)=true:=by simp [hl]
  have h2:=fun q Q u w=>ND i (xs.length+1) pa na pb nb xs ys hx q Q u w xs ys [] [] (xs.length+1) rfl rfl rfl hl (by omega)
  simp only [List.length_nil,Int.natCast_zero] at h2
  cases hb:decide (xs=ys)<;>rw [hb] at h2<;>simp +contextual -dsimp -implicitDefEqProofs (maxSteps:=5000000) only [h1,h2,Cd,Ce,go_sem,simprocAttr]
 ·have h1:decide ((xs.length:Int)=ys.length)=false:=by simpa using fun h:(xs.length:Int)=ys.length=>hl (by omega)
  have h2:decide (xs=ys)=false:=by simpa using fun h:xs=ys=>hl (by rw [h])
  simp +contextual -dsimp -implicitDefEqProofs (maxSteps:=5000000) only [h1,h2,go_sem,simprocAttr]
theorem NG (i k:Nat) (pa na pb nb:Bool) (xs ys:List AD) (hx:xs.length≤BB) (q:Out→St→Option Ans) (Q:V→Hp→Nat→Prop) (u:Dum (fun s q=>evC ctx (Lv ctx i) (Aa (Lv ctx i)) k RN s (As [0,1,5] q))) (w:Dum q):∀ (suf suf' pre pre':List AD) (kk:Nat),xs=pre++suf→ys=pre'++suf'→pre.length=pre'.length→suf.length=suf'.length→suf.length<kk →
  GL 0 [0,1,5] (fun s q=>evC ctx (Lv ctx i) (Aa (Lv ctx i)) k RN s (As [0,1,5] q)) q kk ⟨Ad [0,1,5] [.isl pa na 4 (xs.map eI),.isl pb nb 4 (ys.map eI),iV pre.length],Ag,0⟩ Q u w=FT (decide (suf=suf')) q Q ⟨Ad [] [],Ag,0⟩ ⟨Ad [4] [bV false],Ag,0⟩
 | [],suf',pre,pre',kk,hxs,hys,hpl,hsl,hk=>by
  obtain ⟨kk,rfl⟩:∃ m,kk=m+1:=⟨kk - 1,by simp at hk;omega⟩
  obtain rfl:suf'=[]:=by cases suf'<;>simp_all
  have h1:decide ((pre.length:Int)<xs.length)=false:=by simp [hxs]
  simp +contextual -dsimp -implicitDefEqProofs (maxSteps:=5000000) only [gLs,↓Ai (RN.eq_1),h1,Cd,go_sem,simprocAttr]
 | a::suf,[],pre,pre',kk,hxs,hys,hpl,hsl,hk=>by simp at hsl
 | a::suf,b::suf',pre,pre',kk,hxs,hys,hpl,hsl,hk=>by
  obtain ⟨kk,rfl⟩:∃ m,kk=m+1:=⟨kk - 1,by simp at hk;omega⟩
  have hl:pre.length<xs.length:=by simp [hxs]
  have hl':pre.length<ys.length:=by simp [hys,hpl]
  have h2:((pre.length:Int)<xs.length)=True:=by simpa using hl
  have h2':((pre.length:Int)<ys.length)=True:=by simpa using hl'
  have h3:(0≤(pre.length:Int))=True:=by simp
  have h4:=wrN pre.length (by omega)
  have hg:xs[pre.length]?=some a:=by simp [hxs]
  have hg':ys[pre.length]?=some b:=by simp [hys,hpl]
  have ih:=NG i k pa na pb nb xs ys hx q Q u w suf suf' (pre++[a]) (pre'++[b]) kk (by simp [hxs]) (by simp [hys]) (by simpa using hpl) (by simpa using hsl) (by simpa using hk)
  rw [Ah] at ih
  by_cases hab:a=b
  ·subst hab
   have hd:decide (a::suf=a::suf')=decide (suf=suf'):=by simp
   rw [hd]
   simp +contextual -dsimp -implicitDefEqProofs (maxSteps:=5000000) only [gLs,↓Ai (RN.eq_1),h2,h2',h3,h4,hg,hg',ih,go_sem,simprocAttr]
  ·have hne:(decide (a.code=b.code)&&(decide (a.a=b.a)&&(decide (a.b=b.b)&&(decide (a.c=b.c)))))=false:=by cases a;cases b;simp_all
   have hd:decide (a::suf=b::suf')=false:=by simp [hab]
   rw [hd]
   simp +contextual -dsimp -implicitDefEqProofs (maxSteps:=5000000) only [gLs,↓Ai (RN.eq_1),h2,h2',h3,h4,hg,hg',hne,Ce,go_sem,simprocAttr]
theorem Nw (i:Nat) (pa na pb nb:Bool) (xs ys:List AD) (hx:xs.length≤BB):Aa (Lv ctx (i+1)) 55 [.isl pa na 4 (xs.map eI),.isl pb nb 4 (ys.map eI)]=some (bV (decide (xs=ys))):=by
 refine Af rfl (xs.length+1) (by rfl) ?_
 delta c55
 by_cases hl:xs.length=ys.length
 ·have h1:decide ((xs.length:Int)=ys.length)=true:=by simp [hl]
  have h2:=fun q Q u w=>NG i (xs.length+1) pa na pb nb xs ys hx q Q u w xs ys [] [] (xs.length+1) rfl rfl rfl hl (by omega)
  simp only [List.length_nil,Int.natCast_zero] at h2
  cases hb:decide (xs=ys)<;>rw [hb] at h2<;>simp +contextual -dsimp -implicitDefEqProofs (maxSteps:=5000000) only [h1,h2,Cd,Ce,go_sem,simprocAttr]
 ·have h1:decide ((xs.length:Int)=ys.length)=false:=by simpa using fun h:(xs.length:Int)=ys.length=>hl (by omega)
  have h2:decide (xs=ys)=false:=by simpa using fun h:xs=ys=>hl (by rw [h])
  simp +contextual -dsimp -implicitDefEqProofs (maxSteps:=5000000) only [h1,h2,go_sem,simprocAttr]
theorem NF (i k:Nat) (pa na pb nb:Bool) (xs ys:List AZ) (hx:xs.length≤BB) (q:Out→St→Option Ans) (Q:V→Hp→Nat→Prop) (u:Dum (fun s q=>evC ctx (Lv ctx i) (Aa (Lv ctx i)) k RM s (As [0,1,5] q))) (w:Dum q):∀ (suf suf' pre pre':List AZ) (kk:Nat),xs=pre++suf→ys=pre'++suf'→pre.length=pre'.length→suf.length=suf'.length→suf.length<kk →
  GL 0 [0,1,5] (fun s q=>evC ctx (Lv ctx i) (Aa (Lv ctx i)) k RM s (As [0,1,5] q)) q kk ⟨Ad [0,1,5] [.isl pa na 3 (xs.map eR),.isl pb nb 3 (ys.map eR),iV pre.length],Ag,0⟩ Q u w=FT (decide (suf=suf')) q Q ⟨Ad [] [],Ag,0⟩ ⟨Ad [4] [bV false],Ag,0⟩
 | [],suf',pre,pre',kk,hxs,hys,hpl,hsl,hk=>by
  obtain ⟨kk,rfl⟩:∃ m,kk=m+1:=⟨kk - 1,by simp at hk;omega⟩
  obtain rfl:suf'=[]:=by cases suf'<;>simp_all
  have h1:decide ((pre.length:Int)<xs.length)=false:=by simp [hxs]
  simp +contextual -dsimp -implicitDefEqProofs (maxSteps:=5000000) only [gLs,↓Ai (RM.eq_1),h1,Cd,go_sem,simprocAttr]
 | a::suf,[],pre,pre',kk,hxs,hys,hpl,hsl,hk=>by simp at hsl
 | a::suf,b::suf',pre,pre',kk,hxs,hys,hpl,hsl,hk=>by
  obtain ⟨kk,rfl⟩:∃ m,kk=m+1:=⟨kk - 1,by simp at hk;omega⟩
  have hl:pre.length<xs.length:=by simp [hxs]
  have hl':pre.length<ys.length:=by simp [hys,hpl]
  have h2:((pre.length:Int)<xs.length)=True:=by simpa using hl
  have h2':((pre.length:Int)<ys.length)=True:=by simpa using hl'
  have h3:(0≤(pre.length:Int))=True:=by simp
  have h4:=wrN pre.length (by omega)
  have hg:xs[pre.length]?=some a:=by simp [hxs]
  have hg':ys[pre.length]?=some b:=by simp [hys,hpl]
  have ih:=NF i k pa na pb nb xs ys hx q Q u w suf suf' (pre++[a]) (pre'++[b]) kk (by simp [hxs]) (by simp [hys]) (by simpa using hpl) (by simpa using hsl) (by simpa using hk)
  rw [Ah] at ih
  by_cases hab:a=b
  ·subst hab
   have hd:decide (a::suf=a::suf')=decide (suf=suf'):=by simp
   rw [hd]
   simp +contextual -dsimp -implicitDefEqProofs (maxSteps:=5000000) only [gLs,↓Ai (RM.eq_1),h2,h2',h3,h4,hg,hg',ih,go_sem,simprocAttr]
  ·have hne:(decide (a.level=b.level)&&(decide (a.index=b.index)&&(decide (a.ver=b.ver))))=false:=by cases a;cases b;simp_all
   have hd:decide (a::suf=b::suf')=false:=by simp [hab]
   rw [hd]
   simp +contextual -dsimp -implicitDefEqProofs (maxSteps:=5000000) only [gLs,↓Ai (RM.eq_1),h2,h2',h3,h4,hg,hg',hne,Ce,go_sem,simprocAttr]
theorem UH (i:Nat) (pa na pb nb:Bool) (xs ys:List AZ) (hx:xs.length≤BB):Aa (Lv ctx (i+1)) 56 [.isl pa na 3 (xs.map eR),.isl pb nb 3 (ys.map eR)]=some (bV (decide (xs=ys))):=by
 refine Af rfl (xs.length+1) (by rfl) ?_
 delta c56
 by_cases hl:xs.length=ys.length
 ·have h1:decide ((xs.length:Int)=ys.length)=true:=by simp [hl]
  have h2:=fun q Q u w=>NF i (xs.length+1) pa na pb nb xs ys hx q Q u w xs ys [] [] (xs.length+1) rfl rfl rfl hl (by omega)
  simp only [List.length_nil,Int.natCast_zero] at h2
  cases hb:decide (xs=ys)<;>rw [hb] at h2<;>simp +contextual -dsimp -implicitDefEqProofs (maxSteps:=5000000) only [h1,h2,Cd,Ce,go_sem,simprocAttr]
 ·have h1:decide ((xs.length:Int)=ys.length)=false:=by simpa using fun h:(xs.length:Int)=ys.length=>hl (by omega)
  have h2:decide (xs=ys)=false:=by simpa using fun h:xs=ys=>hl (by rw [h])
  simp +contextual -dsimp -implicitDefEqProofs (maxSteps:=5000000) only [h1,h2,go_sem,simprocAttr]
theorem Mb (i k:Nat) (pa na pb nb:Bool) (xs ys:List Aq) (hx:xs.length≤BB) (q:Out→St→Option Ans) (Q:V→Hp→Nat→Prop) (u:Dum (fun s q=>evC ctx (Lv ctx i) (Aa (Lv ctx i)) k RL s (As [0,1,5] q))) (w:Dum q):∀ (suf suf' pre pre':List Aq) (kk:Nat),xs=pre++suf→ys=pre'++suf'→pre.length=pre'.length→suf.length=suf'.length→suf.length<kk →
  GL 0 [0,1,5] (fun s q=>evC ctx (Lv ctx i) (Aa (Lv ctx i)) k RL s (As [0,1,5] q)) q kk ⟨Ad [0,1,5] [.isl pa na 3 (xs.map eWr),.isl pb nb 3 (ys.map eWr),iV pre.length],Ag,0⟩ Q u w=FT (decide (suf=suf')) q Q ⟨Ad [] [],Ag,0⟩ ⟨Ad [4] [bV false],Ag,0⟩
 | [],suf',pre,pre',kk,hxs,hys,hpl,hsl,hk=>by
  obtain ⟨kk,rfl⟩:∃ m,kk=m+1:=⟨kk - 1,by simp at hk;omega⟩
  obtain rfl:suf'=[]:=by cases suf'<;>simp_all
  have h1:decide ((pre.length:Int)<xs.length)=false:=by simp [hxs]
  simp +contextual -dsimp -implicitDefEqProofs (maxSteps:=5000000) only [gLs,↓Ai (RL.eq_1),h1,Cd,go_sem,simprocAttr]
 | a::suf,[],pre,pre',kk,hxs,hys,hpl,hsl,hk=>by simp at hsl
 | a::suf,b::suf',pre,pre',kk,hxs,hys,hpl,hsl,hk=>by
  obtain ⟨kk,rfl⟩:∃ m,kk=m+1:=⟨kk - 1,by simp at hk;omega⟩
  have hl:pre.length<xs.length:=by simp [hxs]
  have hl':pre.length<ys.length:=by simp [hys,hpl]
  have h2:((pre.length:Int)<xs.length)=True:=by simpa using hl
  have h2':((pre.length:Int)<ys.length)=True:=by simpa using hl'
  have h3:(0≤(pre.length:Int))=True:=by simp
  have h4:=wrN pre.length (by omega)
  have hg:xs[pre.length]?=some a:=by simp [hxs]
  have hg':ys[pre.length]?=some b:=by simp [hys,hpl]
  have ih:=Mb i k pa na pb nb xs ys hx q Q u w suf suf' (pre++[a]) (pre'++[b]) kk (by simp [hxs]) (by simp [hys]) (by simpa using hpl) (by simpa using hsl) (by simpa using hk)
  rw [Ah] at ih
  by_cases hab:a=b
  ·subst hab
   have hd:decide (a::suf=a::suf')=decide (suf=suf'):=by simp
   rw [hd]
   simp +contextual -dsimp -implicitDefEqProofs (maxSteps:=5000000) only [gLs,↓Ai (RL.eq_1),h2,h2',h3,h4,hg,hg',ih,go_sem,simprocAttr]
  ·have hne:(decide (a.level=b.level)&&(decide (a.index=b.index)&&(decide (a.val=b.val))))=false:=by cases a;cases b;simp_all
   have hd:decide (a::suf=b::suf')=false:=by simp [hab]
   rw [hd]
   simp +contextual -dsimp -implicitDefEqProofs (maxSteps:=5000000) only [gLs,↓Ai (RL.eq_1),h2,h2',h3,h4,hg,hg',hne,Ce,go_sem,simprocAttr]
theorem Sp (i:Nat) (pa na pb nb:Bool) (xs ys:List Aq) (hx:xs.length≤BB):Aa (Lv ctx (i+1)) 57 [.isl pa na 3 (xs.map eWr),.isl pb nb 3 (ys.map eWr)]=some (bV (decide (xs=ys))):=by
 refine Af rfl (xs.length+1) (by rfl) ?_
 delta c57
 by_cases hl:xs.length=ys.length
 ·have h1:decide ((xs.length:Int)=ys.length)=true:=by simp [hl]
  have h2:=fun q Q u w=>Mb i (xs.length+1) pa na pb nb xs ys hx q Q u w xs ys [] [] (xs.length+1) rfl rfl rfl hl (by omega)
  simp only [List.length_nil,Int.natCast_zero] at h2
  cases hb:decide (xs=ys)<;>rw [hb] at h2<;>simp +contextual -dsimp -implicitDefEqProofs (maxSteps:=5000000) only [h1,h2,Cd,Ce,go_sem,simprocAttr]
 ·have h1:decide ((xs.length:Int)=ys.length)=false:=by simpa using fun h:(xs.length:Int)=ys.length=>hl (by omega)
  have h2:decide (xs=ys)=false:=by simpa using fun h:xs=ys=>hl (by rw [h])
  simp +contextual -dsimp -implicitDefEqProofs (maxSteps:=5000000) only [h1,h2,go_sem,simprocAttr]
theorem Mc (i k:Nat) (pa na pb nb:Bool) (xs ys:List AI) (hx:xs.length≤BB) (q:Out→St→Option Ans) (Q:V→Hp→Nat→Prop) (u:Dum (fun s q=>evC ctx (Lv ctx i) (Aa (Lv ctx i)) k RP s (As [0,1,5] q))) (w:Dum q):∀ (suf suf' pre pre':List AI) (kk:Nat),xs=pre++suf→ys=pre'++suf'→pre.length=pre'.length→suf.length=suf'.length→suf.length<kk →
  GL 0 [0,1,5] (fun s q=>evC ctx (Lv ctx i) (Aa (Lv ctx i)) k RP s (As [0,1,5] q)) q kk ⟨Ad [0,1,5] [.isl pa na 4 (xs.map eE),.isl pb nb 4 (ys.map eE),iV pre.length],Ag,0⟩ Q u w=FT (decide (suf=suf')) q Q ⟨Ad [] [],Ag,0⟩ ⟨Ad [4] [bV false],Ag,0⟩
 | [],suf',pre,pre',kk,hxs,hys,hpl,hsl,hk=>by
  obtain ⟨kk,rfl⟩:∃ m,kk=m+1:=⟨kk - 1,by simp at hk;omega⟩
  obtain rfl:suf'=[]:=by cases suf'<;>simp_all
  have h1:decide ((pre.length:Int)<xs.length)=false:=by simp [hxs]
  simp +contextual -dsimp -implicitDefEqProofs (maxSteps:=5000000) only [gLs,↓Ai (RP.eq_1),h1,Cd,go_sem,simprocAttr]
 | a::suf,[],pre,pre',kk,hxs,hys,hpl,hsl,hk=>by simp at hsl
 | a::suf,b::suf',pre,pre',kk,hxs,hys,hpl,hsl,hk=>by
  obtain ⟨kk,rfl⟩:∃ m,kk=m+1:=⟨kk - 1,by simp at hk;omega⟩
  have hl:pre.length<xs.length:=by simp [hxs]
  have hl':pre.length<ys.length:=by simp [hys,hpl]
  have h2:((pre.length:Int)<xs.length)=True:=by simpa using hl
  have h2':((pre.length:Int)<ys.length)=True:=by simpa using hl'
  have h3:(0≤(pre.length:Int))=True:=by simp
  have h4:=wrN pre.length (by omega)
  have hg:xs[pre.length]?=some a:=by simp [hxs]
  have hg':ys[pre.length]?=some b:=by simp [hys,hpl]
  have ih:=Mc i k pa na pb nb xs ys hx q Q u w suf suf' (pre++[a]) (pre'++[b]) kk (by simp [hxs]) (by simp [hys]) (by simpa using hpl) (by simpa using hsl) (by simpa using hk)
  rw [Ah] at ih
  by_cases hab:a=b
  ·subst hab
   have hd:decide (a::suf=a::suf')=decide (suf=suf'):=by simp
   rw [hd]
   simp +contextual -dsimp -implicitDefEqProofs (maxSteps:=5000000) only [gLs,↓Ai (RP.eq_1),h2,h2',h3,h4,hg,hg',ih,go_sem,simprocAttr]
  ·have hne:(decide (a.id=b.id)&&(decide (a.label=b.label)&&(decide (a.kind=b.kind)&&(decide (a.val=b.val)))))=false:=by cases a;cases b;simp_all
   have hd:decide (a::suf=b::suf')=false:=by simp [hab]
   rw [hd]
   simp +contextual -dsimp -implicitDefEqProofs (maxSteps:=5000000) only [gLs,↓Ai (RP.eq_1),h2,h2',h3,h4,hg,hg',hne,Ce,go_sem,simprocAttr]
theorem Sq (i:Nat) (pa na pb nb:Bool) (xs ys:List AI) (hx:xs.length≤BB):Aa (Lv ctx (i+1)) 48 [.isl pa na 4 (xs.map eE),.isl pb nb 4 (ys.map eE)]=some (bV (decide (xs=ys))):=by
 refine Af rfl (xs.length+1) (by rfl) ?_
 delta c48
 by_cases hl:xs.length=ys.length
 ·have h1:decide ((xs.length:Int)=ys.length)=true:=by simp [hl]
  have h2:=fun q Q u w=>Mc i (xs.length+1) pa na pb nb xs ys hx q Q u w xs ys [] [] (xs.length+1) rfl rfl rfl hl (by omega)
  simp only [List.length_nil,Int.natCast_zero] at h2
  cases hb:decide (xs=ys)<;>rw [hb] at h2<;>simp +contextual -dsimp -implicitDefEqProofs (maxSteps:=5000000) only [h1,h2,Cd,Ce,go_sem,simprocAttr]
 ·have h1:decide ((xs.length:Int)=ys.length)=false:=by simpa using fun h:(xs.length:Int)=ys.length=>hl (by omega)
  have h2:decide (xs=ys)=false:=by simpa using fun h:xs=ys=>hl (by rw [h])
  simp +contextual -dsimp -implicitDefEqProofs (maxSteps:=5000000) only [h1,h2,go_sem,simprocAttr]
theorem KK (i:Nat) (pa pb:Bool) (a b:Ae) (h1:a.prog.length≤BB) (h2:a.reads.length≤BB) (h3:a.writes.length≤BB):Aa (Lv ctx (i+2)) 25 [eS pa a,eS pb b]=some (bV (decide (a=b))):=by
 have e1:=Nw i pa false pb false a.prog b.prog h1
 have e2:=UH i pa false pb false a.reads b.reads h2
 have e3:=Sp i pa false pb false a.writes b.writes h3
 simp only [eS]
 refine Af rfl 0 (by rfl) ?_
 delta c25
 simp +contextual -dsimp -implicitDefEqProofs (maxSteps:=5000000) only [e1,e2,e3,go_sem,simprocAttr]
 congr 2
 rw [Bool.eq_iff_iff]
 simp only [Bool.and_eq_true,decide_eq_true_eq,qP,and_assoc]
end Ve
