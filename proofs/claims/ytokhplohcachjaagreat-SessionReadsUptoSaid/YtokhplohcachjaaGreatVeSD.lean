/- SameX. -/
import Derived.Test.YtokhplohcachjaaGreatVeSA
import Derived.Test.YtokhplohcachjaaGreatVeSC
import Derived.Test.YtokhplohcachjaaGreatVeM
set_option linter.all false
set_option linter.unusedSectionVars false
namespace Ve
open Go Ve.Ab
set_option maxHeartbeats 16000000
set_option maxRecDepth 10000
theorem UE (a b:Ag):a=b↔a.id=b.id∧a.label=b.label∧a.clear=b.clear∧a.prog=b.prog∧a.step=b.step∧a.pc=b.pc∧a.regs.a0=b.regs.a0∧a.regs.a1=b.regs.a1∧a.regs.a2=b.regs.a2∧a.regs.a3=b.regs.a3∧a.reads=b.reads∧a.writes=b.writes∧a.at_=b.at_∧a.stamp=b.stamp∧a.tries=b.tries∧a.result=b.result∧a.told=b.told:=by
 rcases a with ⟨_,_,_,_,_,_,⟨_,_,_,_⟩,_,_,_,_,_,_,_⟩
 rcases b with ⟨_,_,_,_,_,_,⟨_,_,_,_⟩,_,_,_,_,_,_,_⟩
 simp [and_assoc]
def GH (b:Bool) (q:Out→St→Option Ans) (Q:V→Hp→Nat→Prop) (s1 s2:St):Prop :=
 match b with
 | true=>Fin (q (.exit 0) s1) Q
 | false=>Fin (q .ret s2) Q
theorem Cu (q:Out→St→Option Ans) (Q:V→Hp→Nat→Prop) (s1 s2:St):GH true q Q s1 s2=Fin (q (.exit 0) s1) Q:=(rfl)
theorem Cv (q:Out→St→Option Ans) (Q:V→Hp→Nat→Prop) (s1 s2:St):GH false q Q s1 s2=Fin (q .ret s2) Q:=(rfl)
theorem Ls (i k:Nat) (pa na pb nb:Bool) (xs ys:List Ao) (hx:xs.length≤BB) (q:Out→St→Option Ans) (Q:V→Hp→Nat→Prop) (u:Dum (fun s q=>evC ctx (Lv ctx i) (Aa (Lv ctx i)) k OQ s (Aq [0,1,5] q))) (w:Dum q):∀ (suf suf' pre pre':List Ao) (kk:Nat),xs=pre++suf→ys=pre'++suf'→pre.length=pre'.length→suf.length=suf'.length→suf.length<kk →
  GL 0 [0,1,5] (fun s q=>evC ctx (Lv ctx i) (Aa (Lv ctx i)) k OQ s (Aq [0,1,5] q)) q kk ⟨Ae [0,1,5] [.isl pa na 3 (xs.map eW),.isl pb nb 3 (ys.map eW),iV pre.length],Af,0⟩ Q u w=GH (decide (suf=suf')) q Q ⟨Ae [] [],Af,0⟩ ⟨Ae [4] [bV false],Af,0⟩
 | [],suf',pre,pre',kk,hxs,hys,hpl,hsl,hk=>by
  obtain ⟨kk,rfl⟩:∃ m,kk=m+1:=⟨kk - 1,by simp at hk;omega⟩
  obtain rfl:suf'=[]:=by cases suf'<;>simp_all
  have h1:decide ((pre.length:Int)<xs.length)=false:=by simp [hxs]
  simp +contextual -dsimp -implicitDefEqProofs (maxSteps:=5000000) only [gLs,↓Aj (OQ.eq_1),h1,Cu,go_sem,simprocAttr]
 | a::suf,[],pre,pre',kk,hxs,hys,hpl,hsl,hk=>by simp at hsl
 | a::suf,b::suf',pre,pre',kk,hxs,hys,hpl,hsl,hk=>by
  obtain ⟨kk,rfl⟩:∃ m,kk=m+1:=⟨kk - 1,by simp at hk;omega⟩
  have hl:pre.length<xs.length:=by simp [hxs]
  have hl':pre.length<ys.length:=by simp [hys,hpl]
  have h2:((pre.length:Int)<xs.length)=True:=by simpa using hl
  have h2':((pre.length:Int)<ys.length)=True:=by simpa using hl'
  have h3:(0≤(pre.length:Int))=True:=by simp
  have h4:=wrN pre.length (by omega)
  have hg:xs[pre.length]?=some a:=by simp [hxs]
  have hg':ys[pre.length]?=some b:=by simp [hys,hpl]
  have ih:=Ls i k pa na pb nb xs ys hx q Q u w suf suf' (pre++[a]) (pre'++[b]) kk (by simp [hxs]) (by simp [hys]) (by simpa using hpl) (by simpa using hsl) (by simpa using hk)
  rw [Al] at ih
  by_cases hab:a=b
  ·subst hab
   have hd:decide (a::suf=a::suf')=decide (suf=suf'):=by simp
   rw [hd]
   simp +contextual -dsimp -implicitDefEqProofs (maxSteps:=5000000) only [gLs,↓Aj (OQ.eq_1),h2,h2',h3,h4,hg,hg',ih,go_sem,simprocAttr]
  ·have hne:(decide (a.val=b.val)&&(decide (a.ver=b.ver)&&(decide (a.lock=b.lock))))=false:=by cases a;cases b;simp_all
   have hd:decide (a::suf=b::suf')=false:=by simp [hab]
   rw [hd]
   simp +contextual -dsimp -implicitDefEqProofs (maxSteps:=5000000) only [gLs,↓Aj (OQ.eq_1),h2,h2',h3,h4,hg,hg',hne,Cv,go_sem,simprocAttr]
theorem Gu (i:Nat) (pa na pb nb:Bool) (xs ys:List Ao) (hx:xs.length≤BB):Aa (Lv ctx (i+1)) 51 [.isl pa na 3 (xs.map eW),.isl pb nb 3 (ys.map eW)]=some (bV (decide (xs=ys))):=by
 refine Ac rfl (xs.length+1) (by rfl) ?_
 delta c51
 by_cases hl:xs.length=ys.length
 ·have h1:decide ((xs.length:Int)=ys.length)=true:=by simp [hl]
  have h2:=fun q Q u w=>Ls i (xs.length+1) pa na pb nb xs ys hx q Q u w xs ys [] [] (xs.length+1) rfl rfl rfl hl (by omega)
  simp only [List.length_nil,Int.natCast_zero] at h2
  cases hb:decide (xs=ys)<;>rw [hb] at h2<;>simp +contextual -dsimp -implicitDefEqProofs (maxSteps:=5000000) only [h1,h2,Cu,Cv,go_sem,simprocAttr]
 ·have h1:decide ((xs.length:Int)=ys.length)=false:=by simpa using fun h:(xs.length:Int)=ys.length=>hl (by omega)
  have h2:decide (xs=ys)=false:=by simpa using fun h:xs=ys=>hl (by rw [h])
  simp +contextual -dsimp -implicitDefEqProofs (maxSteps:=5000000) only [h1,h2,go_sem,simprocAttr]
theorem Lu (i k:Nat) (pa na pb nb:Bool) (xs ys:List AF) (hx:xs.length≤BB) (q:Out→St→Option Ans) (Q:V→Hp→Nat→Prop) (u:Dum (fun s q=>evC ctx (Lv ctx i) (Aa (Lv ctx i)) k OP s (Aq [0,1,5] q))) (w:Dum q):∀ (suf suf' pre pre':List AF) (kk:Nat),xs=pre++suf→ys=pre'++suf'→pre.length=pre'.length→suf.length=suf'.length→suf.length<kk →
  GL 0 [0,1,5] (fun s q=>evC ctx (Lv ctx i) (Aa (Lv ctx i)) k OP s (Aq [0,1,5] q)) q kk ⟨Ae [0,1,5] [.isl pa na 4 (xs.map eI),.isl pb nb 4 (ys.map eI),iV pre.length],Af,0⟩ Q u w=GH (decide (suf=suf')) q Q ⟨Ae [] [],Af,0⟩ ⟨Ae [4] [bV false],Af,0⟩
 | [],suf',pre,pre',kk,hxs,hys,hpl,hsl,hk=>by
  obtain ⟨kk,rfl⟩:∃ m,kk=m+1:=⟨kk - 1,by simp at hk;omega⟩
  obtain rfl:suf'=[]:=by cases suf'<;>simp_all
  have h1:decide ((pre.length:Int)<xs.length)=false:=by simp [hxs]
  simp +contextual -dsimp -implicitDefEqProofs (maxSteps:=5000000) only [gLs,↓Aj (OP.eq_1),h1,Cu,go_sem,simprocAttr]
 | a::suf,[],pre,pre',kk,hxs,hys,hpl,hsl,hk=>by simp at hsl
 | a::suf,b::suf',pre,pre',kk,hxs,hys,hpl,hsl,hk=>by
  obtain ⟨kk,rfl⟩:∃ m,kk=m+1:=⟨kk - 1,by simp at hk;omega⟩
  have hl:pre.length<xs.length:=by simp [hxs]
  have hl':pre.length<ys.length:=by simp [hys,hpl]
  have h2:((pre.length:Int)<xs.length)=True:=by simpa using hl
  have h2':((pre.length:Int)<ys.length)=True:=by simpa using hl'
  have h3:(0≤(pre.length:Int))=True:=by simp
  have h4:=wrN pre.length (by omega)
  have hg:xs[pre.length]?=some a:=by simp [hxs]
  have hg':ys[pre.length]?=some b:=by simp [hys,hpl]
  have ih:=Lu i k pa na pb nb xs ys hx q Q u w suf suf' (pre++[a]) (pre'++[b]) kk (by simp [hxs]) (by simp [hys]) (by simpa using hpl) (by simpa using hsl) (by simpa using hk)
  rw [Al] at ih
  by_cases hab:a=b
  ·subst hab
   have hd:decide (a::suf=a::suf')=decide (suf=suf'):=by simp
   rw [hd]
   simp +contextual -dsimp -implicitDefEqProofs (maxSteps:=5000000) only [gLs,↓Aj (OP.eq_1),h2,h2',h3,h4,hg,hg',ih,go_sem,simprocAttr]
  ·have hne:(decide (a.code=b.code)&&(decide (a.a=b.a)&&(decide (a.b=b.b)&&(decide (a.c=b.c)))))=false:=by cases a;cases b;simp_all
   have hd:decide (a::suf=b::suf')=false:=by simp [hab]
   rw [hd]
   simp +contextual -dsimp -implicitDefEqProofs (maxSteps:=5000000) only [gLs,↓Aj (OP.eq_1),h2,h2',h3,h4,hg,hg',hne,Cv,go_sem,simprocAttr]
theorem Ll (i:Nat) (pa na pb nb:Bool) (xs ys:List AF) (hx:xs.length≤BB):Aa (Lv ctx (i+1)) 52 [.isl pa na 4 (xs.map eI),.isl pb nb 4 (ys.map eI)]=some (bV (decide (xs=ys))):=by
 refine Ac rfl (xs.length+1) (by rfl) ?_
 delta c52
 by_cases hl:xs.length=ys.length
 ·have h1:decide ((xs.length:Int)=ys.length)=true:=by simp [hl]
  have h2:=fun q Q u w=>Lu i (xs.length+1) pa na pb nb xs ys hx q Q u w xs ys [] [] (xs.length+1) rfl rfl rfl hl (by omega)
  simp only [List.length_nil,Int.natCast_zero] at h2
  cases hb:decide (xs=ys)<;>rw [hb] at h2<;>simp +contextual -dsimp -implicitDefEqProofs (maxSteps:=5000000) only [h1,h2,Cu,Cv,go_sem,simprocAttr]
 ·have h1:decide ((xs.length:Int)=ys.length)=false:=by simpa using fun h:(xs.length:Int)=ys.length=>hl (by omega)
  have h2:decide (xs=ys)=false:=by simpa using fun h:xs=ys=>hl (by rw [h])
  simp +contextual -dsimp -implicitDefEqProofs (maxSteps:=5000000) only [h1,h2,go_sem,simprocAttr]
theorem Lt (i k:Nat) (pa na pb nb:Bool) (xs ys:List AH) (hx:xs.length≤BB) (q:Out→St→Option Ans) (Q:V→Hp→Nat→Prop) (u:Dum (fun s q=>evC ctx (Lv ctx i) (Aa (Lv ctx i)) k OO s (Aq [0,1,5] q))) (w:Dum q):∀ (suf suf' pre pre':List AH) (kk:Nat),xs=pre++suf→ys=pre'++suf'→pre.length=pre'.length→suf.length=suf'.length→suf.length<kk →
  GL 0 [0,1,5] (fun s q=>evC ctx (Lv ctx i) (Aa (Lv ctx i)) k OO s (Aq [0,1,5] q)) q kk ⟨Ae [0,1,5] [.isl pa na 3 (xs.map eR),.isl pb nb 3 (ys.map eR),iV pre.length],Af,0⟩ Q u w=GH (decide (suf=suf')) q Q ⟨Ae [] [],Af,0⟩ ⟨Ae [4] [bV false],Af,0⟩
 | [],suf',pre,pre',kk,hxs,hys,hpl,hsl,hk=>by
  obtain ⟨kk,rfl⟩:∃ m,kk=m+1:=⟨kk - 1,by simp at hk;omega⟩
  obtain rfl:suf'=[]:=by cases suf'<;>simp_all
  have h1:decide ((pre.length:Int)<xs.length)=false:=by simp [hxs]
  simp +contextual -dsimp -implicitDefEqProofs (maxSteps:=5000000) only [gLs,↓Aj (OO.eq_1),h1,Cu,go_sem,simprocAttr]
 | a::suf,[],pre,pre',kk,hxs,hys,hpl,hsl,hk=>by simp at hsl
 | a::suf,b::suf',pre,pre',kk,hxs,hys,hpl,hsl,hk=>by
  obtain ⟨kk,rfl⟩:∃ m,kk=m+1:=⟨kk - 1,by simp at hk;omega⟩
  have hl:pre.length<xs.length:=by simp [hxs]
  have hl':pre.length<ys.length:=by simp [hys,hpl]
  have h2:((pre.length:Int)<xs.length)=True:=by simpa using hl
  have h2':((pre.length:Int)<ys.length)=True:=by simpa using hl'
  have h3:(0≤(pre.length:Int))=True:=by simp
  have h4:=wrN pre.length (by omega)
  have hg:xs[pre.length]?=some a:=by simp [hxs]
  have hg':ys[pre.length]?=some b:=by simp [hys,hpl]
  have ih:=Lt i k pa na pb nb xs ys hx q Q u w suf suf' (pre++[a]) (pre'++[b]) kk (by simp [hxs]) (by simp [hys]) (by simpa using hpl) (by simpa using hsl) (by simpa using hk)
  rw [Al] at ih
  by_cases hab:a=b
  ·subst hab
   have hd:decide (a::suf=a::suf')=decide (suf=suf'):=by simp
   rw [hd]
   simp +contextual -dsimp -implicitDefEqProofs (maxSteps:=5000000) only [gLs,↓Aj (OO.eq_1),h2,h2',h3,h4,hg,hg',ih,go_sem,simprocAttr]
  ·have hne:(decide (a.level=b.level)&&(decide (a.index=b.index)&&(decide (a.ver=b.ver))))=false:=by cases a;cases b;simp_all
   have hd:decide (a::suf=b::suf')=false:=by simp [hab]
   rw [hd]
   simp +contextual -dsimp -implicitDefEqProofs (maxSteps:=5000000) only [gLs,↓Aj (OO.eq_1),h2,h2',h3,h4,hg,hg',hne,Cv,go_sem,simprocAttr]
theorem Lk (i:Nat) (pa na pb nb:Bool) (xs ys:List AH) (hx:xs.length≤BB):Aa (Lv ctx (i+1)) 53 [.isl pa na 3 (xs.map eR),.isl pb nb 3 (ys.map eR)]=some (bV (decide (xs=ys))):=by
 refine Ac rfl (xs.length+1) (by rfl) ?_
 delta c53
 by_cases hl:xs.length=ys.length
 ·have h1:decide ((xs.length:Int)=ys.length)=true:=by simp [hl]
  have h2:=fun q Q u w=>Lt i (xs.length+1) pa na pb nb xs ys hx q Q u w xs ys [] [] (xs.length+1) rfl rfl rfl hl (by omega)
  simp only [List.length_nil,Int.natCast_zero] at h2
  cases hb:decide (xs=ys)<;>rw [hb] at h2<;>simp +contextual -dsimp -implicitDefEqProofs (maxSteps:=5000000) only [h1,h2,Cu,Cv,go_sem,simprocAttr]
 ·have h1:decide ((xs.length:Int)=ys.length)=false:=by simpa using fun h:(xs.length:Int)=ys.length=>hl (by omega)
  have h2:decide (xs=ys)=false:=by simpa using fun h:xs=ys=>hl (by rw [h])
  simp +contextual -dsimp -implicitDefEqProofs (maxSteps:=5000000) only [h1,h2,go_sem,simprocAttr]
theorem Km (i k:Nat) (pa na pb nb:Bool) (xs ys:List Ai) (hx:xs.length≤BB) (q:Out→St→Option Ans) (Q:V→Hp→Nat→Prop) (u:Dum (fun s q=>evC ctx (Lv ctx i) (Aa (Lv ctx i)) k ON s (Aq [0,1,5] q))) (w:Dum q):∀ (suf suf' pre pre':List Ai) (kk:Nat),xs=pre++suf→ys=pre'++suf'→pre.length=pre'.length→suf.length=suf'.length→suf.length<kk →
  GL 0 [0,1,5] (fun s q=>evC ctx (Lv ctx i) (Aa (Lv ctx i)) k ON s (Aq [0,1,5] q)) q kk ⟨Ae [0,1,5] [.isl pa na 3 (xs.map eWr),.isl pb nb 3 (ys.map eWr),iV pre.length],Af,0⟩ Q u w=GH (decide (suf=suf')) q Q ⟨Ae [] [],Af,0⟩ ⟨Ae [4] [bV false],Af,0⟩
 | [],suf',pre,pre',kk,hxs,hys,hpl,hsl,hk=>by
  obtain ⟨kk,rfl⟩:∃ m,kk=m+1:=⟨kk - 1,by simp at hk;omega⟩
  obtain rfl:suf'=[]:=by cases suf'<;>simp_all
  have h1:decide ((pre.length:Int)<xs.length)=false:=by simp [hxs]
  simp +contextual -dsimp -implicitDefEqProofs (maxSteps:=5000000) only [gLs,↓Aj (ON.eq_1),h1,Cu,go_sem,simprocAttr]
 | a::suf,[],pre,pre',kk,hxs,hys,hpl,hsl,hk=>by simp at hsl
 | a::suf,b::suf',pre,pre',kk,hxs,hys,hpl,hsl,hk=>by
  obtain ⟨kk,rfl⟩:∃ m,kk=m+1:=⟨kk - 1,by simp at hk;omega⟩
  have hl:pre.length<xs.length:=by simp [hxs]
  have hl':pre.length<ys.length:=by simp [hys,hpl]
  have h2:((pre.length:Int)<xs.length)=True:=by simpa using hl
  have h2':((pre.length:Int)<ys.length)=True:=by simpa using hl'
  have h3:(0≤(pre.length:Int))=True:=by simp
  have h4:=wrN pre.length (by omega)
  have hg:xs[pre.length]?=some a:=by simp [hxs]
  have hg':ys[pre.length]?=some b:=by simp [hys,hpl]
  have ih:=Km i k pa na pb nb xs ys hx q Q u w suf suf' (pre++[a]) (pre'++[b]) kk (by simp [hxs]) (by simp [hys]) (by simpa using hpl) (by simpa using hsl) (by simpa using hk)
  rw [Al] at ih
  by_cases hab:a=b
  ·subst hab
   have hd:decide (a::suf=a::suf')=decide (suf=suf'):=by simp
   rw [hd]
   simp +contextual -dsimp -implicitDefEqProofs (maxSteps:=5000000) only [gLs,↓Aj (ON.eq_1),h2,h2',h3,h4,hg,hg',ih,go_sem,simprocAttr]
  ·have hne:(decide (a.level=b.level)&&(decide (a.index=b.index)&&(decide (a.val=b.val))))=false:=by cases a;cases b;simp_all
   have hd:decide (a::suf=b::suf')=false:=by simp [hab]
   rw [hd]
   simp +contextual -dsimp -implicitDefEqProofs (maxSteps:=5000000) only [gLs,↓Aj (ON.eq_1),h2,h2',h3,h4,hg,hg',hne,Cv,go_sem,simprocAttr]
theorem JT (i:Nat) (pa na pb nb:Bool) (xs ys:List Ai) (hx:xs.length≤BB):Aa (Lv ctx (i+1)) 54 [.isl pa na 3 (xs.map eWr),.isl pb nb 3 (ys.map eWr)]=some (bV (decide (xs=ys))):=by
 refine Ac rfl (xs.length+1) (by rfl) ?_
 delta c54
 by_cases hl:xs.length=ys.length
 ·have h1:decide ((xs.length:Int)=ys.length)=true:=by simp [hl]
  have h2:=fun q Q u w=>Km i (xs.length+1) pa na pb nb xs ys hx q Q u w xs ys [] [] (xs.length+1) rfl rfl rfl hl (by omega)
  simp only [List.length_nil,Int.natCast_zero] at h2
  cases hb:decide (xs=ys)<;>rw [hb] at h2<;>simp +contextual -dsimp -implicitDefEqProofs (maxSteps:=5000000) only [h1,h2,Cu,Cv,go_sem,simprocAttr]
 ·have h1:decide ((xs.length:Int)=ys.length)=false:=by simpa using fun h:(xs.length:Int)=ys.length=>hl (by omega)
  have h2:decide (xs=ys)=false:=by simpa using fun h:xs=ys=>hl (by rw [h])
  simp +contextual -dsimp -implicitDefEqProofs (maxSteps:=5000000) only [h1,h2,go_sem,simprocAttr]
theorem Kn (i k:Nat) (pa na pb nb:Bool) (xs ys:List Ba) (hx:xs.length≤BB) (q:Out→St→Option Ans) (Q:V→Hp→Nat→Prop) (u:Dum (fun s q=>evC ctx (Lv ctx i) (Aa (Lv ctx i)) k OS s (Aq [0,1,5] q))) (w:Dum q):∀ (suf suf' pre pre':List Ba) (kk:Nat),xs=pre++suf→ys=pre'++suf'→pre.length=pre'.length→suf.length=suf'.length→suf.length<kk →
  GL 0 [0,1,5] (fun s q=>evC ctx (Lv ctx i) (Aa (Lv ctx i)) k OS s (Aq [0,1,5] q)) q kk ⟨Ae [0,1,5] [.isl pa na 4 (xs.map eE),.isl pb nb 4 (ys.map eE),iV pre.length],Af,0⟩ Q u w=GH (decide (suf=suf')) q Q ⟨Ae [] [],Af,0⟩ ⟨Ae [4] [bV false],Af,0⟩
 | [],suf',pre,pre',kk,hxs,hys,hpl,hsl,hk=>by
  obtain ⟨kk,rfl⟩:∃ m,kk=m+1:=⟨kk - 1,by simp at hk;omega⟩
  obtain rfl:suf'=[]:=by cases suf'<;>simp_all
  have h1:decide ((pre.length:Int)<xs.length)=false:=by simp [hxs]
  simp +contextual -dsimp -implicitDefEqProofs (maxSteps:=5000000) only [gLs,↓Aj (OS.eq_1),h1,Cu,go_sem,simprocAttr]
 | a::suf,[],pre,pre',kk,hxs,hys,hpl,hsl,hk=>by simp at hsl
 | a::suf,b::suf',pre,pre',kk,hxs,hys,hpl,hsl,hk=>by
  obtain ⟨kk,rfl⟩:∃ m,kk=m+1:=⟨kk - 1,by simp at hk;omega⟩
  have hl:pre.length<xs.length:=by simp [hxs]
  have hl':pre.length<ys.length:=by simp [hys,hpl]
  have h2:((pre.length:Int)<xs.length)=True:=by simpa using hl
  have h2':((pre.length:Int)<ys.length)=True:=by simpa using hl'
  have h3:(0≤(pre.length:Int))=True:=by simp
  have h4:=wrN pre.length (by omega)
  have hg:xs[pre.length]?=some a:=by simp [hxs]
  have hg':ys[pre.length]?=some b:=by simp [hys,hpl]
  have ih:=Kn i k pa na pb nb xs ys hx q Q u w suf suf' (pre++[a]) (pre'++[b]) kk (by simp [hxs]) (by simp [hys]) (by simpa using hpl) (by simpa using hsl) (by simpa using hk)
  rw [Al] at ih
  by_cases hab:a=b
  ·subst hab
   have hd:decide (a::suf=a::suf')=decide (suf=suf'):=by simp
   rw [hd]
   simp +contextual -dsimp -implicitDefEqProofs (maxSteps:=5000000) only [gLs,↓Aj (OS.eq_1),h2,h2',h3,h4,hg,hg',ih,go_sem,simprocAttr]
  ·have hne:(decide (a.id=b.id)&&(decide (a.label=b.label)&&(decide (a.kind=b.kind)&&(decide (a.val=b.val)))))=false:=by cases a;cases b;simp_all
   have hd:decide (a::suf=b::suf')=false:=by simp [hab]
   rw [hd]
   simp +contextual -dsimp -implicitDefEqProofs (maxSteps:=5000000) only [gLs,↓Aj (OS.eq_1),h2,h2',h3,h4,hg,hg',hne,Cv,go_sem,simprocAttr]
theorem JU (i:Nat) (pa na pb nb:Bool) (xs ys:List Ba) (hx:xs.length≤BB):Aa (Lv ctx (i+1)) 25 [.isl pa na 4 (xs.map eE),.isl pb nb 4 (ys.map eE)]=some (bV (decide (xs=ys))):=by
 refine Ac rfl (xs.length+1) (by rfl) ?_
 delta c25
 by_cases hl:xs.length=ys.length
 ·have h1:decide ((xs.length:Int)=ys.length)=true:=by simp [hl]
  have h2:=fun q Q u w=>Kn i (xs.length+1) pa na pb nb xs ys hx q Q u w xs ys [] [] (xs.length+1) rfl rfl rfl hl (by omega)
  simp only [List.length_nil,Int.natCast_zero] at h2
  cases hb:decide (xs=ys)<;>rw [hb] at h2<;>simp +contextual -dsimp -implicitDefEqProofs (maxSteps:=5000000) only [h1,h2,Cu,Cv,go_sem,simprocAttr]
 ·have h1:decide ((xs.length:Int)=ys.length)=false:=by simpa using fun h:(xs.length:Int)=ys.length=>hl (by omega)
  have h2:decide (xs=ys)=false:=by simpa using fun h:xs=ys=>hl (by rw [h])
  simp +contextual -dsimp -implicitDefEqProofs (maxSteps:=5000000) only [h1,h2,go_sem,simprocAttr]
theorem NB (i:Nat) (pa pb:Bool) (a b:Ag) (h1:a.prog.length≤BB) (h2:a.reads.length≤BB) (h3:a.writes.length≤BB):Aa (Lv ctx (i+2)) 26 [eS pa a,eS pb b]=some (bV (decide (a=b))):=by
 have e1:=Ll i pa false pb false a.prog b.prog h1
 have e2:=Lk i pa false pb false a.reads b.reads h2
 have e3:=JT i pa false pb false a.writes b.writes h3
 simp only [eS]
 refine Ac rfl 0 (by rfl) ?_
 delta c26
 simp +contextual -dsimp -implicitDefEqProofs (maxSteps:=5000000) only [e1,e2,e3,go_sem,simprocAttr]
 congr 2
 rw [Bool.eq_iff_iff]
 simp only [Bool.and_eq_true,decide_eq_true_eq,UE,and_assoc]
end Ve
namespace Ve
open Go Ve.Ab
set_option maxHeartbeats 16000000
set_option maxRecDepth 10000
@[go_sem] theorem s_num (i:Nat) (a:Int):Aa (Lv ctx (i+1)) 19 [iV a]=some (iV a):=by
 refine Ac rfl 0 (by rfl) ?_
 delta c19
 simp +contextual -dsimp -implicitDefEqProofs (maxSteps:=5000000) only [go_sem,simprocAttr]
theorem Rr (i:Nat) (pa pb:Bool) (a b:A4 (List Ao)) (h0:a.a0.length≤BB) (h1:a.a1.length≤BB) (h2:a.a2.length≤BB) (h3:a.a3.length≤BB):Aa (Lv ctx (i+2)) 24 [.agg [eWs pa a.a0,eWs pa a.a1,eWs pa a.a2,eWs pa a.a3],.agg [eWs pb b.a0,eWs pb b.a1,eWs pb b.a2,eWs pb b.a3]]=some (bV (decide (a=b))):=by
 have e0:=Gu i pa false pb false a.a0 b.a0 h0
 have e1:=Gu i pa false pb false a.a1 b.a1 h1
 have e2:=Gu i pa false pb false a.a2 b.a2 h2
 have e3:=Gu i pa false pb false a.a3 b.a3 h3
 have key:decide (a=b)=(decide (a.a0=b.a0)&&decide (a.a1=b.a1)&&decide (a.a2=b.a2)&&decide (a.a3=b.a3)):=by
  rw [Bool.eq_iff_iff]
  simp only [Bool.and_eq_true,decide_eq_true_eq]
  rcases a with ⟨_,_,_,_⟩;rcases b with ⟨_,_,_,_⟩;simp [and_assoc]
 refine Ac rfl 5 (by rfl) ?_
 delta c24
 rw [key]
 cases c0:decide (a.a0=b.a0)
 ·simp +contextual -dsimp -implicitDefEqProofs (maxSteps:=5000000) only [gLs,↓Aj (ST.eq_1),e0,e1,e2,e3,c0,go_sem,simprocAttr]
 ·cases c1:decide (a.a1=b.a1)
  ·simp +contextual -dsimp -implicitDefEqProofs (maxSteps:=5000000) only [gLs,↓Aj (ST.eq_1),e0,e1,e2,e3,c0,c1,go_sem,simprocAttr]
  ·cases c2:decide (a.a2=b.a2)
   ·simp +contextual -dsimp -implicitDefEqProofs (maxSteps:=5000000) only [gLs,↓Aj (ST.eq_1),e0,e1,e2,e3,c0,c1,c2,go_sem,simprocAttr]
   ·cases c3:decide (a.a3=b.a3)<;>simp +contextual -dsimp -implicitDefEqProofs (maxSteps:=5000000) only [gLs,↓Aj (ST.eq_1),e0,e1,e2,e3,c0,c1,c2,c3,go_sem,simprocAttr]
theorem Vo (i k:Nat) (pa pb:Bool) (a b:Ad) (hm:SmM a) (q:Out→St→Option Ans) (Q:V→Hp→Nat→Prop) (u:Dum (fun s q=>evC ctx (Lv ctx (i+2)) (Aa (Lv ctx (i+2))) k OT s (Aq [2,3,5] q))) (w:Dum q):∀ (suf suf' pre pre':List Ag) (kk:Nat),a.sess=pre++suf→b.sess=pre'++suf'→pre.length=pre'.length→suf.length=suf'.length→suf.length<kk →
  GL 0 [2,3,5] (fun s q=>evC ctx (Lv ctx (i+2)) (Aa (Lv ctx (i+2))) k OT s (Aq [2,3,5] q)) q kk ⟨Ae [2,3,5] [.ip pa (cM pa a) 0,.ip pb (cM pb b) 0,iV pre.length],Af,0⟩ Q u w=GH (decide (suf=suf')) q Q ⟨Ae [] [],Af,0⟩ ⟨Ae [4] [bV false],Af,0⟩
 | [],suf',pre,pre',kk,hxs,hys,hpl,hsl,hk=>by
  obtain ⟨kk,rfl⟩:∃ m,kk=m+1:=⟨kk - 1,by simp at hk;omega⟩
  obtain rfl:suf'=[]:=by cases suf'<;>simp_all
  have h1:decide ((pre.length:Int)<a.sess.length)=false:=by simp [hxs]
  simp +contextual -dsimp -implicitDefEqProofs (maxSteps:=5000000) only [gLs,↓Aj (OT.eq_1),h1,Cu,go_sem,simprocAttr]
 | x::suf,[],pre,pre',kk,hxs,hys,hpl,hsl,hk=>by simp at hsl
 | x::suf,y::suf',pre,pre',kk,hxs,hys,hpl,hsl,hk=>by
  obtain ⟨kk,rfl⟩:∃ m,kk=m+1:=⟨kk - 1,by simp at hk;omega⟩
  have hl:pre.length<a.sess.length:=by simp [hxs]
  have hl':pre.length<b.sess.length:=by simp [hys,hpl]
  have h2:((pre.length:Int)<a.sess.length)=True:=by simpa using hl
  have h2':((pre.length:Int)<b.sess.length)=True:=by simpa using hl'
  have h3:(0≤(pre.length:Int))=True:=by simp
  have h4:=wrN pre.length (by have:=hm.ss;omega)
  have hg:a.sess[pre.length]?=some x:=by simp [hxs]
  have hg':b.sess[pre.length]?=some y:=by simp [hys,hpl]
  have ih:=Vo i k pa pb a b hm q Q u w suf suf' (pre++[x]) (pre'++[y]) kk (by simp [hxs]) (by simp [hys]) (by simpa using hpl) (by simpa using hsl) (by simpa using hk)
  rw [Al] at ih
  have hx:=hm.s x (by simp [hxs])
  have hs:=NB i pa pb x y hx.p hx.r hx.w
  simp only [eS] at hs
  by_cases hab:x=y
  ·subst hab
   have hd:decide (x::suf=x::suf')=decide (suf=suf'):=by simp
   rw [hd]
   simp +contextual -dsimp -implicitDefEqProofs (maxSteps:=5000000) only [gLs,↓Aj (OT.eq_1),h2,h2',h3,h4,hg,hg',hs,ih,go_sem,simprocAttr]
  ·have hne:decide (x=y)=false:=by simpa using hab
   have hd:decide (x::suf=y::suf')=false:=by simp [hab]
   rw [hd]
   rw [hne] at hs
   simp +contextual -dsimp -implicitDefEqProofs (maxSteps:=5000000) only [gLs,↓Aj (OT.eq_1),h2,h2',h3,h4,hg,hg',hs,Cv,go_sem,simprocAttr]
theorem iX (a b:Ad):a=b↔(a.words=b.words∧(a.clocks.a0=b.clocks.a0∧a.clocks.a1=b.clocks.a1∧a.clocks.a2=b.clocks.a2∧a.clocks.a3=b.clocks.a3)∧a.ceil=b.ceil∧a.trace=b.trace)∧a.sess=b.sess:=by
 rcases a with ⟨_,⟨_,_,_,_⟩,_,_,_⟩;rcases b with ⟨_,⟨_,_,_,_⟩,_,_,_⟩;simp only [Ad.mk.injEq,A4.mk.injEq]
 constructor
 ·rintro ⟨h1,⟨h2,h3,h4,h5⟩,h6,h7,h8⟩;simp [*]
 ·rintro ⟨⟨h1,⟨h2,h3,h4,h5⟩,h6,h7⟩,h8⟩;simp [*]
theorem Ci (i:Nat) (pa pb:Bool) (a b:Ad) (hm:SmM a):Aa (Lv ctx (i+3)) 18 [eM pa a,eM pb b]=some (bV (decide (a=b))):=by
 have e1:=Rr i pa pb a.words b.words hm.w0 hm.w1 hm.w2 hm.w3
 have e2:=JU (i+1) pa false pb false a.trace b.trace hm.tr
 have hb:∀ a b c d e f g:Bool,(!a||!(b&&(c&&(d&&e)))||!f||!g)=!(a&&(b&&(c&&(d&&e)))&&f&&g):=by decide
 refine Ac rfl (a.sess.length+1) (by rfl) ?_
 delta c18
 have hL:decide ((a.sess.length:Int)=b.sess.length)=decide (a.sess.length=b.sess.length):=by apply decide_eq_decide.mpr;omega
 have hb5:∀ w c f l e:Bool,(!w||!c||!f||!l||!e)=!(w&&c&&f&&l&&e):=by decide
 cases hc:(decide (a.words=b.words)&&(decide (a.clocks.a0=b.clocks.a0)&&(decide (a.clocks.a1=b.clocks.a1)&&(decide (a.clocks.a2=b.clocks.a2)&&decide (a.clocks.a3=b.clocks.a3))))&&decide (a.ceil=b.ceil)&&decide (a.sess.length=b.sess.length)&&decide (a.trace=b.trace))
 ·have key:decide (a=b)=false:=by
   rw [← Bool.not_eq_true] at hc ⊢
   intro h
   simp only [decide_eq_true_eq] at h
   subst h
   exact hc (by simp)
  simp +contextual -dsimp -implicitDefEqProofs (maxSteps:=5000000) only [e1,e2,hL,hb5,hc,key,go_sem,simprocAttr]
 ·have hc':=hc
  simp only [Bool.and_eq_true,decide_eq_true_eq] at hc'
  have hlen:a.sess.length=b.sess.length:=hc'.1.2
  have key:decide (a=b)=decide (a.sess=b.sess):=by
   apply decide_eq_decide.mpr
   rw [iX]
   simp only [hc',and_self,true_and]
  have h2:=fun q Q u w=>Vo i (a.sess.length+1) pa pb a b hm q Q u w a.sess b.sess [] [] (a.sess.length+1) rfl rfl rfl hlen (by omega)
  simp only [List.length_nil,Int.natCast_zero] at h2
  rw [key]
  simp +contextual -dsimp -implicitDefEqProofs (maxSteps:=5000000) only [e1,e2,hL,hb5,hc,go_sem,simprocAttr]
  refine Eq.mpr (h2 _ _ _ _) ?_
  cases hb':decide (a.sess=b.sess)<;>simp +contextual -dsimp -implicitDefEqProofs (maxSteps:=5000000) only [Cu,Cv,go_sem,simprocAttr]
end Ve
namespace Ve
open Go Ve.Ab
set_option maxHeartbeats 16000000
set_option maxRecDepth 10000
theorem Ig (i:Nat) (p1 p2 p3 q1 q2 q3:Bool) (a b:Ag) (h1:a.prog.length≤BB) (h2:a.reads.length≤BB) (h3:a.writes.length≤BB):Aa (Lv ctx (i+2)) 26
  [.agg [iV a.id,iV a.label,iV a.clear,eIs p1 a.prog,iV a.step,iV a.pc,iV a.regs.a0,iV a.regs.a1,iV a.regs.a2,iV a.regs.a3,eRs p2 a.reads,HK p3 a.writes,iV a.at_,iV a.stamp,iV a.tries,iV a.result,iV a.told],
   .agg [iV b.id,iV b.label,iV b.clear,eIs q1 b.prog,iV b.step,iV b.pc,iV b.regs.a0,iV b.regs.a1,iV b.regs.a2,iV b.regs.a3,eRs q2 b.reads,HK q3 b.writes,iV b.at_,iV b.stamp,iV b.tries,iV b.result,iV b.told]]=some (bV (decide (a=b))):=by
 have e1:=Ll i p1 false q1 false a.prog b.prog h1
 have e2:=Lk i p2 false q2 false a.reads b.reads h2
 have e3:=JT i p3 false q3 false a.writes b.writes h3
 refine Ac rfl 0 (by rfl) ?_
 delta c26
 simp +contextual -dsimp -implicitDefEqProofs (maxSteps:=5000000) only [e1,e2,e3,go_sem,simprocAttr]
 congr 2
 rw [Bool.eq_iff_iff]
 simp only [Bool.and_eq_true,decide_eq_true_eq,UE,and_assoc]
abbrev zA (p:Bool):V:=.agg [.isl p false 3 [],.isl p false 3 [],.isl p false 3 [],.isl p false 3 [],iV 0,iV 0,iV 0,iV 0,iV 0,.isl p false 17 [],.isl p false 4 []]
theorem Ft (i:Nat) (pa pb:Bool):Aa (Lv ctx (i+3)) 18 [zA pa,zA pb]=some (bV true):=by
 have h:=Ci i pa pb AK AK JR
 simpa only [AK,zA,eM,cM,eWs,eSs,eEs,List.map_nil,decide_true] using h
end Ve
namespace Ve
open Go Ve.Ab
set_option maxHeartbeats 16000000
set_option maxRecDepth 10000
def IJ (a:Ao):Ao:={ a with val:=Tg a.val 90 }
theorem Kj (i k:Nat) (xs:List Ao) (hx:xs.length≤BB) (q:Out→St→Option Ans) (Q:V→Hp→Nat→Prop):∀ (suf pre:List Ao) (kk:Nat),xs=pre++suf→suf.length<kk+1 →
  Fin (evC ctx (Lv ctx i) (Aa (Lv ctx i)) k SO ⟨Ae [0,2] [.sl 0,iV pre.length],pO Af 0 (some ⟨3,(pre.map IJ).map eW++suf.map eW,false⟩),1⟩ (Aq [0,2] fun o s=>BI (Bg 1 [0,2] (fun s q=>evC ctx (Lv ctx i) (Aa (Lv ctx i)) k SO s (Aq [0,2] q)) q kk) q o s)) Q =
  Fin (q (.exit 0) ⟨Ae [] [],pO Af 0 (some ⟨3,(xs.map IJ).map eW,false⟩),1⟩) Q
 | [],pre,kk,hxs,hk=>by
  have h1:decide ((pre.length:Int)<(pre.length:Int))=false:=by simp
  have h2:xs=pre:=by simp [hxs]
  rw [Aj (SO.eq_1)]
  simp only [List.map_nil,List.append_nil]
  rw [h2]
  simp +contextual -dsimp -implicitDefEqProofs (maxSteps:=5000000) only [h1,List.length_map,go_sem,simprocAttr]
 | a::suf,pre,kk,hxs,hk=>by
  obtain ⟨kk,rfl⟩:∃ m,kk=m+1:=⟨kk - 1,by simp at hk;omega⟩
  have h2:((pre.length:Int)<((pre.length+(suf.length+1):Nat):Int))=True:=by simp;omega
  have h3:(0≤(pre.length:Int))=True:=by simp
  have h4:=wrN pre.length (by rw [hxs] at hx;simp at hx;omega)
  have hg:((pre.map IJ).map eW++(a::suf).map eW)[pre.length]?=some (eW a):=by simp
  have hset:∀ x,((pre.map IJ).map eW++(a::suf).map eW).set pre.length x=(pre.map IJ).map eW++x::suf.map eW:=by intro x;simp [List.set_append]
  have ih:=Kj i k xs hx q Q suf (pre++[a]) kk (by simp [hxs]) (by simpa using hk)
  simp only [Al,List.map_append,List.map_cons,List.map_nil,List.append_assoc,List.cons_append,List.nil_append,eW,IJ] at ih
  simp only [eW,List.map_cons] at hg hset ⊢
  rw [Aj (SO.eq_1)]
  simp +contextual -dsimp -implicitDefEqProofs (maxSteps:=5000000) only [h2,h3,h4,hg,hset,gLs,go_sem,simprocAttr]
  exact ih
theorem FI (i:Nat) (xs:List Ao) (hx:xs.length≤BB):Aa (Lv ctx (i+1)) 89 [.own 3 (xs.map eW)]=some (.tup []):=by
 refine Ac rfl (xs.length+1) (by rfl) ?_
 delta c89
 have hl:=fun q Q=>Kj i (xs.length+1) xs hx q Q xs [] xs.length rfl (by omega)
 simp only [List.length_nil,Int.natCast_zero,List.map_nil,List.nil_append] at hl
 simp +contextual -dsimp -implicitDefEqProofs (maxSteps:=5000000) only [gLs,go_sem,simprocAttr]
 refine Eq.mpr (hl _ _) ?_
 simp +contextual -dsimp -implicitDefEqProofs (maxSteps:=5000000) only [go_sem,simprocAttr]
def IL (a:AF):AF:={ a with a:=Tg a.a 90 }
theorem Kl (i k:Nat) (xs:List AF) (hx:xs.length≤BB) (q:Out→St→Option Ans) (Q:V→Hp→Nat→Prop):∀ (suf pre:List AF) (kk:Nat),xs=pre++suf→suf.length<kk+1 →
  Fin (evC ctx (Lv ctx i) (Aa (Lv ctx i)) k SN ⟨Ae [0,2] [.sl 0,iV pre.length],pO Af 0 (some ⟨4,(pre.map IL).map eI++suf.map eI,false⟩),1⟩ (Aq [0,2] fun o s=>BI (Bg 1 [0,2] (fun s q=>evC ctx (Lv ctx i) (Aa (Lv ctx i)) k SN s (Aq [0,2] q)) q kk) q o s)) Q =
  Fin (q (.exit 0) ⟨Ae [] [],pO Af 0 (some ⟨4,(xs.map IL).map eI,false⟩),1⟩) Q
 | [],pre,kk,hxs,hk=>by
  have h1:decide ((pre.length:Int)<(pre.length:Int))=false:=by simp
  have h2:xs=pre:=by simp [hxs]
  rw [Aj (SN.eq_1)]
  simp only [List.map_nil,List.append_nil]
  rw [h2]
  simp +contextual -dsimp -implicitDefEqProofs (maxSteps:=5000000) only [h1,List.length_map,go_sem,simprocAttr]
 | a::suf,pre,kk,hxs,hk=>by
  obtain ⟨kk,rfl⟩:∃ m,kk=m+1:=⟨kk - 1,by simp at hk;omega⟩
  have h2:((pre.length:Int)<((pre.length+(suf.length+1):Nat):Int))=True:=by simp;omega
  have h3:(0≤(pre.length:Int))=True:=by simp
  have h4:=wrN pre.length (by rw [hxs] at hx;simp at hx;omega)
  have hg:((pre.map IL).map eI++(a::suf).map eI)[pre.length]?=some (eI a):=by simp
  have hset:∀ x,((pre.map IL).map eI++(a::suf).map eI).set pre.length x=(pre.map IL).map eI++x::suf.map eI:=by intro x;simp [List.set_append]
  have ih:=Kl i k xs hx q Q suf (pre++[a]) kk (by simp [hxs]) (by simpa using hk)
  simp only [Al,List.map_append,List.map_cons,List.map_nil,List.append_assoc,List.cons_append,List.nil_append,eI,IL] at ih
  simp only [eI,List.map_cons] at hg hset ⊢
  rw [Aj (SN.eq_1)]
  simp +contextual -dsimp -implicitDefEqProofs (maxSteps:=5000000) only [h2,h3,h4,hg,hset,gLs,go_sem,simprocAttr]
  exact ih
theorem Ph (i:Nat) (xs:List AF) (hx:xs.length≤BB):Aa (Lv ctx (i+1)) 90 [.own 4 (xs.map eI)]=some (.tup []):=by
 refine Ac rfl (xs.length+1) (by rfl) ?_
 delta c90
 have hl:=fun q Q=>Kl i (xs.length+1) xs hx q Q xs [] xs.length rfl (by omega)
 simp only [List.length_nil,Int.natCast_zero,List.map_nil,List.nil_append] at hl
 simp +contextual -dsimp -implicitDefEqProofs (maxSteps:=5000000) only [gLs,go_sem,simprocAttr]
 refine Eq.mpr (hl _ _) ?_
 simp +contextual -dsimp -implicitDefEqProofs (maxSteps:=5000000) only [go_sem,simprocAttr]
def IK (a:AH):AH:={ a with index:=Tg a.index 90 }
theorem Kk (i k:Nat) (xs:List AH) (hx:xs.length≤BB) (q:Out→St→Option Ans) (Q:V→Hp→Nat→Prop):∀ (suf pre:List AH) (kk:Nat),xs=pre++suf→suf.length<kk+1 →
  Fin (evC ctx (Lv ctx i) (Aa (Lv ctx i)) k SM ⟨Ae [0,2] [.sl 0,iV pre.length],pO Af 0 (some ⟨3,(pre.map IK).map eR++suf.map eR,false⟩),1⟩ (Aq [0,2] fun o s=>BI (Bg 1 [0,2] (fun s q=>evC ctx (Lv ctx i) (Aa (Lv ctx i)) k SM s (Aq [0,2] q)) q kk) q o s)) Q =
  Fin (q (.exit 0) ⟨Ae [] [],pO Af 0 (some ⟨3,(xs.map IK).map eR,false⟩),1⟩) Q
 | [],pre,kk,hxs,hk=>by
  have h1:decide ((pre.length:Int)<(pre.length:Int))=false:=by simp
  have h2:xs=pre:=by simp [hxs]
  rw [Aj (SM.eq_1)]
  simp only [List.map_nil,List.append_nil]
  rw [h2]
  simp +contextual -dsimp -implicitDefEqProofs (maxSteps:=5000000) only [h1,List.length_map,go_sem,simprocAttr]
 | a::suf,pre,kk,hxs,hk=>by
  obtain ⟨kk,rfl⟩:∃ m,kk=m+1:=⟨kk - 1,by simp at hk;omega⟩
  have h2:((pre.length:Int)<((pre.length+(suf.length+1):Nat):Int))=True:=by simp;omega
  have h3:(0≤(pre.length:Int))=True:=by simp
  have h4:=wrN pre.length (by rw [hxs] at hx;simp at hx;omega)
  have hg:((pre.map IK).map eR++(a::suf).map eR)[pre.length]?=some (eR a):=by simp
  have hset:∀ x,((pre.map IK).map eR++(a::suf).map eR).set pre.length x=(pre.map IK).map eR++x::suf.map eR:=by intro x;simp [List.set_append]
  have ih:=Kk i k xs hx q Q suf (pre++[a]) kk (by simp [hxs]) (by simpa using hk)
  simp only [Al,List.map_append,List.map_cons,List.map_nil,List.append_assoc,List.cons_append,List.nil_append,eR,IK] at ih
  simp only [eR,List.map_cons] at hg hset ⊢
  rw [Aj (SM.eq_1)]
  simp +contextual -dsimp -implicitDefEqProofs (maxSteps:=5000000) only [h2,h3,h4,hg,hset,gLs,go_sem,simprocAttr]
  exact ih
theorem Pg (i:Nat) (xs:List AH) (hx:xs.length≤BB):Aa (Lv ctx (i+1)) 91 [.own 3 (xs.map eR)]=some (.tup []):=by
 refine Ac rfl (xs.length+1) (by rfl) ?_
 delta c91
 have hl:=fun q Q=>Kk i (xs.length+1) xs hx q Q xs [] xs.length rfl (by omega)
 simp only [List.length_nil,Int.natCast_zero,List.map_nil,List.nil_append] at hl
 simp +contextual -dsimp -implicitDefEqProofs (maxSteps:=5000000) only [gLs,go_sem,simprocAttr]
 refine Eq.mpr (hl _ _) ?_
 simp +contextual -dsimp -implicitDefEqProofs (maxSteps:=5000000) only [go_sem,simprocAttr]
def He (a:Ai):Ai:={ a with index:=Tg a.index 90 }
theorem Jn (i k:Nat) (xs:List Ai) (hx:xs.length≤BB) (q:Out→St→Option Ans) (Q:V→Hp→Nat→Prop):∀ (suf pre:List Ai) (kk:Nat),xs=pre++suf→suf.length<kk+1 →
  Fin (evC ctx (Lv ctx i) (Aa (Lv ctx i)) k SL ⟨Ae [0,2] [.sl 0,iV pre.length],pO Af 0 (some ⟨3,(pre.map He).map eWr++suf.map eWr,false⟩),1⟩ (Aq [0,2] fun o s=>BI (Bg 1 [0,2] (fun s q=>evC ctx (Lv ctx i) (Aa (Lv ctx i)) k SL s (Aq [0,2] q)) q kk) q o s)) Q =
  Fin (q (.exit 0) ⟨Ae [] [],pO Af 0 (some ⟨3,(xs.map He).map eWr,false⟩),1⟩) Q
 | [],pre,kk,hxs,hk=>by
  have h1:decide ((pre.length:Int)<(pre.length:Int))=false:=by simp
  have h2:xs=pre:=by simp [hxs]
  rw [Aj (SL.eq_1)]
  simp only [List.map_nil,List.append_nil]
  rw [h2]
  simp +contextual -dsimp -implicitDefEqProofs (maxSteps:=5000000) only [h1,List.length_map,go_sem,simprocAttr]
 | a::suf,pre,kk,hxs,hk=>by
  obtain ⟨kk,rfl⟩:∃ m,kk=m+1:=⟨kk - 1,by simp at hk;omega⟩
  have h2:((pre.length:Int)<((pre.length+(suf.length+1):Nat):Int))=True:=by simp;omega
  have h3:(0≤(pre.length:Int))=True:=by simp
  have h4:=wrN pre.length (by rw [hxs] at hx;simp at hx;omega)
  have hg:((pre.map He).map eWr++(a::suf).map eWr)[pre.length]?=some (eWr a):=by simp
  have hset:∀ x,((pre.map He).map eWr++(a::suf).map eWr).set pre.length x=(pre.map He).map eWr++x::suf.map eWr:=by intro x;simp [List.set_append]
  have ih:=Jn i k xs hx q Q suf (pre++[a]) kk (by simp [hxs]) (by simpa using hk)
  simp only [Al,List.map_append,List.map_cons,List.map_nil,List.append_assoc,List.cons_append,List.nil_append,eWr,He] at ih
  simp only [eWr,List.map_cons] at hg hset ⊢
  rw [Aj (SL.eq_1)]
  simp +contextual -dsimp -implicitDefEqProofs (maxSteps:=5000000) only [h2,h3,h4,hg,hset,gLs,go_sem,simprocAttr]
  exact ih
theorem Nz (i:Nat) (xs:List Ai) (hx:xs.length≤BB):Aa (Lv ctx (i+1)) 92 [.own 3 (xs.map eWr)]=some (.tup []):=by
 refine Ac rfl (xs.length+1) (by rfl) ?_
 delta c92
 have hl:=fun q Q=>Jn i (xs.length+1) xs hx q Q xs [] xs.length rfl (by omega)
 simp only [List.length_nil,Int.natCast_zero,List.map_nil,List.nil_append] at hl
 simp +contextual -dsimp -implicitDefEqProofs (maxSteps:=5000000) only [gLs,go_sem,simprocAttr]
 refine Eq.mpr (hl _ _) ?_
 simp +contextual -dsimp -implicitDefEqProofs (maxSteps:=5000000) only [go_sem,simprocAttr]
def Hf (a:Ba):Ba:={ a with id:=Tg a.id 90 }
theorem Jo (i k:Nat) (xs:List Ba) (hx:xs.length≤BB) (q:Out→St→Option Ans) (Q:V→Hp→Nat→Prop):∀ (suf pre:List Ba) (kk:Nat),xs=pre++suf→suf.length<kk+1 →
  Fin (evC ctx (Lv ctx i) (Aa (Lv ctx i)) k SR ⟨Ae [0,2] [.sl 0,iV pre.length],pO Af 0 (some ⟨4,(pre.map Hf).map eE++suf.map eE,false⟩),1⟩ (Aq [0,2] fun o s=>BI (Bg 1 [0,2] (fun s q=>evC ctx (Lv ctx i) (Aa (Lv ctx i)) k SR s (Aq [0,2] q)) q kk) q o s)) Q =
  Fin (q (.exit 0) ⟨Ae [] [],pO Af 0 (some ⟨4,(xs.map Hf).map eE,false⟩),1⟩) Q
 | [],pre,kk,hxs,hk=>by
  have h1:decide ((pre.length:Int)<(pre.length:Int))=false:=by simp
  have h2:xs=pre:=by simp [hxs]
  rw [Aj (SR.eq_1)]
  simp only [List.map_nil,List.append_nil]
  rw [h2]
  simp +contextual -dsimp -implicitDefEqProofs (maxSteps:=5000000) only [h1,List.length_map,go_sem,simprocAttr]
 | a::suf,pre,kk,hxs,hk=>by
  obtain ⟨kk,rfl⟩:∃ m,kk=m+1:=⟨kk - 1,by simp at hk;omega⟩
  have h2:((pre.length:Int)<((pre.length+(suf.length+1):Nat):Int))=True:=by simp;omega
  have h3:(0≤(pre.length:Int))=True:=by simp
  have h4:=wrN pre.length (by rw [hxs] at hx;simp at hx;omega)
  have hg:((pre.map Hf).map eE++(a::suf).map eE)[pre.length]?=some (eE a):=by simp
  have hset:∀ x,((pre.map Hf).map eE++(a::suf).map eE).set pre.length x=(pre.map Hf).map eE++x::suf.map eE:=by intro x;simp [List.set_append]
  have ih:=Jo i k xs hx q Q suf (pre++[a]) kk (by simp [hxs]) (by simpa using hk)
  simp only [Al,List.map_append,List.map_cons,List.map_nil,List.append_assoc,List.cons_append,List.nil_append,eE,Hf] at ih
  simp only [eE,List.map_cons] at hg hset ⊢
  rw [Aj (SR.eq_1)]
  simp +contextual -dsimp -implicitDefEqProofs (maxSteps:=5000000) only [h2,h3,h4,hg,hset,gLs,go_sem,simprocAttr]
  exact ih
theorem NA (i:Nat) (xs:List Ba) (hx:xs.length≤BB):Aa (Lv ctx (i+1)) 49 [.own 4 (xs.map eE)]=some (.tup []):=by
 refine Ac rfl (xs.length+1) (by rfl) ?_
 delta c49
 have hl:=fun q Q=>Jo i (xs.length+1) xs hx q Q xs [] xs.length rfl (by omega)
 simp only [List.length_nil,Int.natCast_zero,List.map_nil,List.nil_append] at hl
 simp +contextual -dsimp -implicitDefEqProofs (maxSteps:=5000000) only [gLs,go_sem,simprocAttr]
 refine Eq.mpr (hl _ _) ?_
 simp +contextual -dsimp -implicitDefEqProofs (maxSteps:=5000000) only [go_sem,simprocAttr]
theorem Pi (i:Nat) (a:A4 (List Ao)) (h0:a.a0.length≤BB) (h1:a.a1.length≤BB) (h2:a.a2.length≤BB) (h3:a.a3.length≤BB):Aa (Lv ctx (i+2)) 47 [.agg [oWs a.a0,oWs a.a1,oWs a.a2,oWs a.a3]]=some (.tup []):=by
 have e0:=FI i a.a0 h0
 have e1:=FI i a.a1 h1
 have e2:=FI i a.a2 h2
 have e3:=FI i a.a3 h3
 refine Ac rfl 5 (by rfl) ?_
 delta c47
 simp +contextual -dsimp -implicitDefEqProofs (maxSteps:=5000000) only [gLs,↓Aj (mL.eq_1),e0,e1,e2,e3,go_sem,simprocAttr]
theorem Mn (i:Nat) (s:Ag) (hs:SmS s):Aa (Lv ctx (i+2)) 48 [oS s]=some (.tup []):=by
 have e0:=Ph i s.prog hs.p
 have e1:=Pg i s.reads hs.r
 have e2:=Nz i s.writes hs.w
 simp only [oS]
 refine Ac rfl 0 (by rfl) ?_
 delta c48
 simp +contextual -dsimp -implicitDefEqProofs (maxSteps:=5000000) only [e0,e1,e2,go_sem,simprocAttr]
def HU (s:Ag):V:=.agg [iV (Tg s.id 90),iV s.label,iV s.clear,.dead,iV s.step,iV s.pc,iV s.regs.a0,iV s.regs.a1,iV s.regs.a2,iV s.regs.a3,.dead,.dead,iV s.at_,iV s.stamp,iV s.tries,iV s.result,iV s.told]
theorem WR (thr d:Nat):AI thr (d+1) .dead=.ret (.dead,[]):=(rfl)
theorem lW (thr d:Nat) (l:List Ag):AD (AI thr (d+2)) (l.map HU)=.ret ((l.map HU).map vn):=LJ _ _ _ (fun x=>by simp only [HU,Hb,EK,Gp,Ha,WR,Cb,List.map_cons,List.map_nil,List.flatten_cons,List.flatten_nil,List.append_nil,List.nil_append]) l
attribute [go_sem] WR lW
abbrev hS (m:Ad) (els:List V) (d:Bool):Hp :=
 pO (pO (pO (pO (pO (pO (pO Af 0 none) 1 none) 2 none) 3 none) 4 (some ⟨17,els,d⟩)) 5 (some ⟨4,m.trace.map eE,false⟩)) 6 (some ⟨11,[.agg [.sl 0,.sl 1,.sl 2,.sl 3,iV m.clocks.a0,iV m.clocks.a1,iV m.clocks.a2,iV m.clocks.a3,iV m.ceil,.sl 4,.sl 5]],true⟩)
theorem RZ (i k:Nat) (m:Ad) (hm:SmM m) (q:Out→St→Option Ans) (Q:V→Hp→Nat→Prop):∀ (suf pre:List Ag) (kk:Nat) (d:Bool),m.sess=pre++suf→suf.length<kk+1 →
  Fin (evC ctx (Lv ctx (i+2)) (Aa (Lv ctx (i+2))) k SU ⟨Ae [1,2] [.ptr 6 0 0,iV pre.length],hS m (pre.map HU++suf.map oS) d,7⟩ (Aq [1,2] fun o s=>BI (Bg 7 [1,2] (fun s q=>evC ctx (Lv ctx (i+2)) (Aa (Lv ctx (i+2))) k SU s (Aq [1,2] q)) q kk) q o s)) Q =
  Fin (q (.exit 0) ⟨Ae [1] [.ptr 6 0 0],hS m (m.sess.map HU) (if suf=[] then d else true),7⟩) Q
 | [],pre,kk,d,hxs,hk=>by
  have h1:decide ((pre.length:Int)<(pre.length:Int))=false:=by simp
  have h2:m.sess=pre:=by simp [hxs]
  rw [Aj (SU.eq_1),if_pos rfl]
  simp only [List.map_nil,List.append_nil]
  simp +contextual -dsimp -implicitDefEqProofs (maxSteps:=5000000) only [h1,List.length_map,go_sem,simprocAttr]
  rw [h2]
 | a::suf,pre,kk,d,hxs,hk=>by
  obtain ⟨kk,rfl⟩:∃ m,kk=m+1:=⟨kk - 1,by simp at hk;omega⟩
  have h2:((pre.length:Int)<((pre.length+(suf.length+1):Nat):Int))=True:=by simp;omega
  have h3:(0≤(pre.length:Int))=True:=by simp
  have h4:=wrN pre.length (by have:=hm.ss;rw [hxs] at this;simp at this;omega)
  have hg:(pre.map HU++(a::suf).map oS)[pre.length]?=some (oS a):=by simp
  have hset:∀ x,(pre.map HU++(a::suf).map oS).set pre.length x=pre.map HU++x::suf.map oS:=by intro x;simp [List.set_append]
  have hg':∀ x,(pre.map HU++x::suf.map oS)[pre.length]?=some x:=by intro x;simp
  have hset':∀ x y,(pre.map HU++x::suf.map oS).set pre.length y=pre.map HU++y::suf.map oS:=by intro x y;simp [List.set_append]
  have hs:=Mn i a (hm.s a (by simp [hxs]))
  have ih:=RZ i k m hm q Q suf (pre++[a]) kk true (by simp [hxs]) (by simpa using hk)
  have hif:(if a::suf=[] then d else true)=true:=by simp
  simp only [Al,List.map_append,List.map_cons,List.map_nil,List.append_assoc,List.cons_append,List.nil_append,HU,ite_self] at ih
  simp only [oS,List.map_cons] at hs hg hset ⊢
  rw [Aj (SU.eq_1),hif]
  cases d<;>simp +contextual -dsimp -implicitDefEqProofs (maxSteps:=5000000) only [h2,h3,h4,hg,hset,hg',hset',hs,gLs,go_sem,simprocAttr]<;>exact ih
theorem Rq (i:Nat) (m:Ad) (hm:SmM m):Aa (Lv ctx (i+3)) 20 [oM m]=some (.tup []):=by
 have e0:=Pi i m.words hm.w0 hm.w1 hm.w2 hm.w3
 have e1:=NA (i+1) m.trace hm.tr
 refine Ac rfl (m.sess.length+1) (by rfl) ?_
 delta c20
 have hl:=fun q Q d=>RZ i (m.sess.length+1) m hm q Q m.sess [] m.sess.length d rfl (by omega)
 simp only [List.length_nil,Int.natCast_zero,List.map_nil,List.nil_append] at hl
 simp +contextual -dsimp -implicitDefEqProofs (maxSteps:=5000000) only [gLs,e0,go_sem,simprocAttr]
 refine Eq.mpr (hl _ _ false) ?_
 generalize (if m.sess=[] then false else true)=dd
 cases dd<;>simp +contextual -dsimp -implicitDefEqProofs (maxSteps:=5000000) only [e1,go_sem,simprocAttr]
end Ve
