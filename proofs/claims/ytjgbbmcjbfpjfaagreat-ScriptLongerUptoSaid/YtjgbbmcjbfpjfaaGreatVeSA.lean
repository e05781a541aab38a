/- What the small functions answer. -/
import Derived.Test.YtjgbbmcjbfpjfaaGreatVeT
import Derived.Test.YtjgbbmcjbfpjfaaGreatVeM
set_option linter.all false
set_option linter.unusedSectionVars false
namespace Ve
open Go Ve.Ab
set_option maxHeartbeats 16000000
set_option maxRecDepth 10000
theorem a6m {L:Lay} {t:TypeId} {a b:Int}:BO L .or t (iV a) (iV b)=some (iV (orI a b)):=rfl
theorem wK {L:Lay} {t:TypeId} {a b:Int}:BO L .and t (iV a) (iV b)=some (iV (DS a b)):=rfl
theorem wB {L:Lay} {t:TypeId} {a b:Int}:BO L .xor t (iV a) (iV b)=some (iV (RD a b)):=rfl
attribute [go_sem] a6m wK wB
@[go_sem] theorem s_in (i:Nat) (a b:Int):Aa (Lv ctx (i+1)) 169 [iV a,iV b]=some (bV (inR a b)):=by
 refine Ac rfl 0 (by rfl) ?_
 delta c169
 simp +contextual -dsimp -implicitDefEqProofs (maxSteps:=5000000) only [go_sem,simprocAttr]
 all_goals ((try simp_all [inR])<;>(try omega))
@[go_sem] theorem s_value (i:Nat) (a:Int):Aa (Lv ctx (i+2)) 132 [iV a]=some (bV (inR a 255)):=by
 refine Ac rfl 0 (by rfl) ?_
 delta c132
 simp +contextual -dsimp -implicitDefEqProofs (maxSteps:=5000000) only [go_sem,simprocAttr]
@[go_sem] theorem s_clock (i:Nat) (a:Int):Aa (Lv ctx (i+2)) 119 [iV a]=some (bV (inR a 65535)):=by
 refine Ac rfl 0 (by rfl) ?_
 delta c119
 simp +contextual -dsimp -implicitDefEqProofs (maxSteps:=5000000) only [go_sem,simprocAttr]
@[go_sem] theorem s_id (i:Nat) (a:Int):Aa (Lv ctx (i+2)) 160 [iV a]=some (bV (inR a 254)):=by
 refine Ac rfl 0 (by rfl) ?_
 delta c160
 simp +contextual -dsimp -implicitDefEqProofs (maxSteps:=5000000) only [go_sem,simprocAttr]
@[go_sem] theorem s_wordMay (i:Nat) (a b c:Int):Aa (Lv ctx (i+3)) 117 [.agg [iV a,iV b,iV c]]=some (bV (AO ⟨a,b,c⟩)):=by
 refine Ac rfl 0 (by rfl) ?_
 delta c117
 simp +contextual -dsimp -implicitDefEqProofs (maxSteps:=5000000) only [go_sem,simprocAttr]
 all_goals ((try simp_all [AO])<;>(try omega))
@[go_sem] theorem s_upTo11 (i:Nat) (a b c:Int):Aa (Lv ctx (i+1)) 69 [iV a,iV b,iV c]=some (bV (decide (b≤a)&&decide (a≤c))):=by
 refine Ac rfl 0 (by rfl) ?_
 delta c69
 simp +contextual -dsimp -implicitDefEqProofs (maxSteps:=5000000) only [go_sem,simprocAttr]
 all_goals ((try simp_all [inR])<;>(try omega))
@[go_sem] theorem s_upTo1 (i:Nat) (a b c:Int):Aa (Lv ctx (i+1)) 80 [iV a,iV b,iV c]=some (bV (decide (b≤a)&&decide (a≤c))):=by
 refine Ac rfl 0 (by rfl) ?_
 delta c80
 simp +contextual -dsimp -implicitDefEqProofs (maxSteps:=5000000) only [go_sem,simprocAttr]
 all_goals ((try simp_all [inR])<;>(try omega))
@[go_sem] theorem s_rValue (i:Nat) (a:Int):Aa (Lv ctx (i+2)) 104 [iV a]=some (bV (inR a 255)):=by
 refine Ac rfl 0 (by rfl) ?_
 delta c104
 simp +contextual -dsimp -implicitDefEqProofs (maxSteps:=5000000) only [go_sem,simprocAttr]
 all_goals ((try simp_all [inR])<;>(try omega))
@[go_sem] theorem s_rClock (i:Nat) (a:Int):Aa (Lv ctx (i+2)) 68 [iV a]=some (bV (inR a 65535)):=by
 refine Ac rfl 0 (by rfl) ?_
 delta c68
 simp +contextual -dsimp -implicitDefEqProofs (maxSteps:=5000000) only [go_sem,simprocAttr]
 all_goals ((try simp_all [inR])<;>(try omega))
@[go_sem] theorem s_rId (i:Nat) (a:Int):Aa (Lv ctx (i+2)) 138 [iV a]=some (bV (inR a 254)):=by
 refine Ac rfl 0 (by rfl) ?_
 delta c138
 simp +contextual -dsimp -implicitDefEqProofs (maxSteps:=5000000) only [go_sem,simprocAttr]
 all_goals ((try simp_all [inR])<;>(try omega))
@[go_sem] theorem s_rLabel (i:Nat) (a:Int):Aa (Lv ctx (i+2)) 43 [iV a]=some (bV (inR a 3)):=by
 refine Ac rfl 0 (by rfl) ?_
 delta c43
 simp +contextual -dsimp -implicitDefEqProofs (maxSteps:=5000000) only [go_sem,simprocAttr]
 all_goals ((try simp_all [inR])<;>(try omega))
@[go_sem] theorem s_rReg (i:Nat) (a:Int):Aa (Lv ctx (i+2)) 212 [iV a]=some (bV (inR a 3)):=by
 refine Ac rfl 0 (by rfl) ?_
 delta c212
 simp +contextual -dsimp -implicitDefEqProofs (maxSteps:=5000000) only [go_sem,simprocAttr]
 all_goals ((try simp_all [inR])<;>(try omega))
theorem lt4 (a:Int):decide (a<4)=decide (a≤3):=by
 apply decide_eq_decide.mpr;omega
@[go_sem] theorem s_label (i:Nat) (a:Int):Aa (Lv ctx (i+1)) 36 [iV a]=some (bV (inR a 3)):=by
 refine Ac rfl 0 (by rfl) ?_
 delta c36
 simp +contextual -dsimp -implicitDefEqProofs (maxSteps:=5000000) only [go_sem,simprocAttr]
 all_goals ((try simp_all [inR,lt4])<;>(try omega))
@[go_sem] theorem s_reg (i:Nat) (a:Int):Aa (Lv ctx (i+1)) 214 [iV a]=some (bV (inR a 3)):=by
 refine Ac rfl 0 (by rfl) ?_
 delta c214
 simp +contextual -dsimp -implicitDefEqProofs (maxSteps:=5000000) only [go_sem,simprocAttr]
 all_goals ((try simp_all [inR,lt4])<;>(try omega))
@[go_sem] theorem s_index (i:Nat) (a:Int):Aa (Lv ctx (i+1)) 172 [iV a]=some (bV (inR a 3)):=by
 refine Ac rfl 0 (by rfl) ?_
 delta c172
 simp +contextual -dsimp -implicitDefEqProofs (maxSteps:=5000000) only [go_sem,simprocAttr]
 all_goals ((try simp_all [inR,lt4])<;>(try omega))
@[go_sem] theorem s_machin (i:Nat) (a b:Int):Aa (Lv ctx (i+1)) 130 [iV a,iV b]=some (bV (inR a b)):=by
 refine Ac rfl 0 (by rfl) ?_
 delta c130
 simp +contextual -dsimp -implicitDefEqProofs (maxSteps:=5000000) only [go_sem,simprocAttr]
 all_goals ((try simp_all [inR])<;>(try omega))
@[go_sem] theorem s_under (i:Nat) (a b:Int):Aa (Lv ctx (i+1)) 37 [iV a,iV b]=some (bV (Aj a b)):=by
 refine Ac rfl 0 (by rfl) ?_
 delta c37
 simp +contextual -dsimp -implicitDefEqProofs (maxSteps:=5000000) only [go_sem,simprocAttr]
 all_goals ((try simp_all [Aj])<;>(try omega))
@[go_sem] theorem s_rUnder (i:Nat) (a b:Int):Aa (Lv ctx (i+1)) 28 [iV a,iV b]=some (bV (Aj a b)):=by
 refine Ac rfl 0 (by rfl) ?_
 delta c28
 simp +contextual -dsimp -implicitDefEqProofs (maxSteps:=5000000) only [go_sem,simprocAttr]
 all_goals ((try simp_all [Aj])<;>(try omega))
@[go_sem] theorem s_rWordMay (i:Nat) (a b c:Int):Aa (Lv ctx (i+3)) 98 [.agg [iV a,iV b,iV c]]=some (bV (AO ⟨a,b,c⟩)):=by
 refine Ac rfl 0 (by rfl) ?_
 delta c98
 simp +contextual -dsimp -implicitDefEqProofs (maxSteps:=5000000) only [go_sem,simprocAttr]
 all_goals ((try simp_all [AO,inR])<;>(try omega))
@[go_sem] theorem s_wordName (i:Nat) (a b:Int):Aa (Lv ctx (i+3)) 142 [iV a,iV b]=some (bV (inR a 3&&inR b 3)):=by
 refine Ac rfl 0 (by rfl) ?_
 delta c142
 simp +contextual -dsimp -implicitDefEqProofs (maxSteps:=5000000) only [go_sem,simprocAttr]
 all_goals ((try simp_all [inR])<;>(try omega))
@[go_sem] theorem s_wordIs (i:Nat) (a b c d:Int):Aa (Lv ctx (i+1)) 182 [.agg [iV a,iV b,iV c,iV d]]=some (bV (HJ a)):=by
 refine Ac rfl 0 (by rfl) ?_
 delta c182
 simp +contextual -dsimp -implicitDefEqProofs (maxSteps:=5000000) only [go_sem,simprocAttr]
 all_goals ((try simp_all [HJ])<;>(try omega))
@[go_sem] theorem s_names (i:Nat) (a b c d:Int):Aa (Lv ctx (i+1)) 213 [.agg [iV a,iV b,iV c,iV d]]=some (eI (Zu ⟨a,b,c,d⟩)):=by
 refine Ac rfl 0 (by rfl) ?_
 delta c213
 simp +contextual -dsimp -implicitDefEqProofs (maxSteps:=5000000) only [go_sem,simprocAttr]
 all_goals (simp_all [Zu,eI])
@[go_sem] theorem s_rInstMay (i:Nat) (a b c d:Int):Aa (Lv ctx (i+3)) 184 [.agg [iV a,iV b,iV c,iV d]]=some (bV (Cj ⟨a,b,c,d⟩)):=by
 refine Ac rfl 0 (by rfl) ?_
 delta c184
 simp +contextual -dsimp -implicitDefEqProofs (maxSteps:=5000000) only [go_sem,simprocAttr]
 all_goals ((try simp_all [Cj,inR,Zu,Bool.and_assoc])<;>(try omega))
@[go_sem] theorem s_instMay (i:Nat) (a b c d:Int):Aa (Lv ctx (i+3)) 191 [.agg [iV a,iV b,iV c,iV d]]=some (bV (Cj ⟨a,b,c,d⟩)):=by
 refine Ac rfl 0 (by rfl) ?_
 delta c191
 simp +contextual -dsimp -implicitDefEqProofs (maxSteps:=5000000) only [go_sem,simprocAttr]
 have hc:a=0∨a=1∨a=2∨a=3∨a=4∨a=5∨a=6∨(a≠0∧a≠1∧a≠2∧a≠3∧a≠4∧a≠5∧a≠6):=by omega
 rcases hc with rfl | rfl | rfl | rfl | rfl | rfl | rfl | ⟨h0,h1,h2,h3,h4,h5,h6⟩<;>simp_all [Cj,inR,Zu,lt4,Bool.and_assoc]<;>(try omega)
end Ve
namespace Ve
open Go Ve.Ab
set_option maxHeartbeats 16000000
set_option maxRecDepth 10000
def Bu {α:Type} (p:α→Bool):Nat→List α→Option Nat
 | _,[]=>none
 | j,a::r=>if p a then some j else Bu p (j+1) r
def Gd:Option Nat→Int
 | none=>-1
 | some j=>j
theorem Ee {α:Type} (p:α→Bool):∀ (l:List α) (j:Nat),decide (0≤Gd (Bu p j l))=l.any p
 | [],j=>by simp [Bu,Gd]
 | a::r,j=>by
  simp only [Bu,List.any_cons]
  split
  ·rename_i h;simp [h,Gd]
  ·rename_i h;simp [h,Ee p r (j+1)]
theorem wrN (j:Nat) (h:j≤BB):IntKind.wrap .i64 ((j:Int)+1)=((j+1:Nat):Int):=by
 have:=HQ (a:=(j:Int)+1) (by omega) (by simp only [BB] at h;omega)
 simp only [wr] at this
 rw [this];simp
theorem Ag {α:Type} (pre:List α) (a:α):(pre++[a]).length=pre.length+1:=by simp
def Iv (q:Out→St→Option Ans) (Q:V→Hp→Nat→Prop) (s1:St) (s2:Nat→St):Option Nat→Prop
 | none=>Fin (q (.exit 0) s1) Q
 | some j=>Fin (q .ret (s2 j)) Q
theorem BM (q:Out→St→Option Ans) (Q:V→Hp→Nat→Prop) (s1:St) (s2:Nat→St):Iv q Q s1 s2 none=Fin (q (.exit 0) s1) Q:=(rfl)
theorem BL (q:Out→St→Option Ans) (Q:V→Hp→Nat→Prop) (s1:St) (s2:Nat→St) (j:Nat):Iv q Q s1 s2 (some j)=Fin (q .ret (s2 j)) Q:=(rfl)
theorem Ui (i k:Nat) (pf nn:Bool) (xs:List Ap) (p:Ap→Bool) (g:Nat) (cap:List V) (hc:Dv tbl g []) (hcap:∀ d,AC (AS (d+1)) cap=.ret cap) (hsc:AU 0 cap=cap)
  (hp:∀ a,a∈xs→Aa (Lv ctx i) g (eW a::cap)=some (bV (p a))) (hx:xs.length≤BB) (q:Out→St→Option Ans) (Q:V→Hp→Nat→Prop) (u:Dum fun s q=>evC ctx (Lv ctx i) (Aa (Lv ctx i)) k Py s (Al [0,1,7,8] q)) (w:Dum q):∀ (suf pre:List Ap) (kk:Nat),xs=pre++suf→suf.length<kk →
  GL 0 [0,1,7,8] (fun s q=>evC ctx (Lv ctx i) (Aa (Lv ctx i)) k Py s (Al [0,1,7,8] q)) q kk ⟨Ae [0,1,7,8] [.isl pf nn 3 (xs.map eW),.fn (.func g) [] cap,iV xs.length,iV pre.length],Af,0⟩ Q u w =
  Iv q Q ⟨Ae [] [],Af,0⟩ (fun j=>⟨Ae [4] [iV j],Af,0⟩) (Bu p pre.length suf)
 | [],pre,kk,hxs,hk=>by
  obtain ⟨kk,rfl⟩:∃ m,kk=m+1:=⟨kk - 1,by simp at hk;omega⟩
  have h1:decide ((pre.length:Int)<xs.length)=false:=by simp [hxs]
  simp +contextual -dsimp -implicitDefEqProofs (maxSteps:=5000000) only [gLs,↓Ah (Py.eq_1),h1,hcap,hsc,Bu,BM,go_sem,simprocAttr]
 | a::suf,pre,kk,hxs,hk=>by
  obtain ⟨kk,rfl⟩:∃ m,kk=m+1:=⟨kk - 1,by simp at hk;omega⟩
  have hl:pre.length<xs.length:=by simp [hxs]
  have h1:decide ((pre.length:Int)<xs.length)=true:=by simpa using hl
  have h2:((pre.length:Int)<xs.length)=True:=by simpa using hl
  have h3:(0≤(pre.length:Int))=True:=by simp
  have h4:=wrN pre.length (by omega)
  have hg:xs[pre.length]?=some a:=by simp [hxs]
  have hpa:=hp a (by simp [hxs])
  simp only [eW] at hpa
  have ih:=Ui i k pf nn xs p g cap hc hcap hsc hp hx q Q u w suf (pre++[a]) kk (by simp [hxs]) (by simpa using hk)
  rw [Ag] at ih
  cases hb:p a<;>rw [hb] at hpa<;>simp +contextual -dsimp -implicitDefEqProofs (maxSteps:=5000000) only [gLs,↓Ah (Py.eq_1),h1,h2,h3,h4,hcap,hsc,Bu,BL,hg,hpa,hb,hc,ih,Int.toNat_natCast,List.getElem?_map,go_sem,simprocAttr]
theorem gS (i:Nat) (pf nn:Bool) (xs:List Ap) (p:Ap→Bool) (g:Nat) (cap:List V) (hc:Dv tbl g []) (hcap:∀ d,AC (AS (d+1)) cap=.ret cap) (hsc:AU 0 cap=cap) (hn:BA cap=true)
  (hp:∀ a,a∈xs→Aa (Lv ctx i) g (eW a::cap)=some (bV (p a))) (hx:xs.length≤BB):Aa (Lv ctx (i+2)) 118 [.isl pf nn 3 (xs.map eW),.fn (.func g) [] cap]=some (bV (xs.any p)):=by
 have h1:Aa (Lv ctx (i+1)) 170 [.isl pf nn 3 (xs.map eW),.fn (.func g) [] cap]=some (iV (Gd (Bu p 0 xs))):=by
  refine Ac rfl (xs.length+1) (by rfl) ?_
  delta c170
  have hl:=fun q Q u w=>Ui i (xs.length+1) pf nn xs p g cap hc hcap hsc hp hx q Q u w xs [] (xs.length+1) rfl (by omega)
  simp only [List.length_nil,Int.natCast_zero] at hl
  simp +contextual -dsimp -implicitDefEqProofs (maxSteps:=5000000) only [hl,go_sem,simprocAttr]
  cases Bu p 0 xs<;>simp +contextual -dsimp -implicitDefEqProofs (maxSteps:=5000000) only [BM,BL,Gd,go_sem,simprocAttr]
 refine Ac rfl 0 (by rfl) ?_
 delta c118
 simp +contextual -dsimp -implicitDefEqProofs (maxSteps:=5000000) only [h1,hcap,Ee,go_sem,simprocAttr]
theorem Nb (i k:Nat) (pf nn:Bool) (xs:List Ai) (p:Ai→Bool) (g:Nat) (cap:List V) (hc:Dv tbl g []) (hcap:∀ d,AC (AS (d+1)) cap=.ret cap) (hsc:AU 0 cap=cap)
  (hp:∀ a,a∈xs→Aa (Lv ctx i) g ((eS pf) a::cap)=some (bV (p a))) (hx:xs.length≤BB) (q:Out→St→Option Ans) (Q:V→Hp→Nat→Prop) (u:Dum fun s q=>evC ctx (Lv ctx i) (Aa (Lv ctx i)) k Px s (Al [0,1,7,8] q)) (w:Dum q):∀ (suf pre:List Ai) (kk:Nat),xs=pre++suf→suf.length<kk →
  GL 0 [0,1,7,8] (fun s q=>evC ctx (Lv ctx i) (Aa (Lv ctx i)) k Px s (Al [0,1,7,8] q)) q kk ⟨Ae [0,1,7,8] [.isl pf nn 17 (xs.map (eS pf)),.fn (.func g) [] cap,iV xs.length,iV pre.length],Af,0⟩ Q u w =
  Iv q Q ⟨Ae [] [],Af,0⟩ (fun j=>⟨Ae [4] [iV j],Af,0⟩) (Bu p pre.length suf)
 | [],pre,kk,hxs,hk=>by
  obtain ⟨kk,rfl⟩:∃ m,kk=m+1:=⟨kk - 1,by simp at hk;omega⟩
  have h1:decide ((pre.length:Int)<xs.length)=false:=by simp [hxs]
  simp +contextual -dsimp -implicitDefEqProofs (maxSteps:=5000000) only [gLs,↓Ah (Px.eq_1),h1,hcap,hsc,Bu,BM,go_sem,simprocAttr]
 | a::suf,pre,kk,hxs,hk=>by
  obtain ⟨kk,rfl⟩:∃ m,kk=m+1:=⟨kk - 1,by simp at hk;omega⟩
  have hl:pre.length<xs.length:=by simp [hxs]
  have h1:decide ((pre.length:Int)<xs.length)=true:=by simpa using hl
  have h2:((pre.length:Int)<xs.length)=True:=by simpa using hl
  have h3:(0≤(pre.length:Int))=True:=by simp
  have h4:=wrN pre.length (by omega)
  have hg:xs[pre.length]?=some a:=by simp [hxs]
  have hpa:=hp a (by simp [hxs])
  simp only [eS] at hpa
  have ih:=Nb i k pf nn xs p g cap hc hcap hsc hp hx q Q u w suf (pre++[a]) kk (by simp [hxs]) (by simpa using hk)
  rw [Ag] at ih
  cases hb:p a<;>rw [hb] at hpa<;>simp +contextual -dsimp -implicitDefEqProofs (maxSteps:=5000000) only [gLs,↓Ah (Px.eq_1),h1,h2,h3,h4,hcap,hsc,Bu,BL,hg,hpa,hb,hc,ih,Int.toNat_natCast,List.getElem?_map,go_sem,simprocAttr]
theorem Ty (i:Nat) (pf nn:Bool) (xs:List Ai) (p:Ai→Bool) (g:Nat) (cap:List V) (hc:Dv tbl g []) (hcap:∀ d,AC (AS (d+1)) cap=.ret cap) (hsc:AU 0 cap=cap) (hn:BA cap=true)
  (hp:∀ a,a∈xs→Aa (Lv ctx i) g ((eS pf) a::cap)=some (bV (p a))) (hx:xs.length≤BB):Aa (Lv ctx (i+2)) 120 [.isl pf nn 17 (xs.map (eS pf)),.fn (.func g) [] cap]=some (bV (xs.any p)):=by
 have h1:Aa (Lv ctx (i+1)) 171 [.isl pf nn 17 (xs.map (eS pf)),.fn (.func g) [] cap]=some (iV (Gd (Bu p 0 xs))):=by
  refine Ac rfl (xs.length+1) (by rfl) ?_
  delta c171
  have hl:=fun q Q u w=>Nb i (xs.length+1) pf nn xs p g cap hc hcap hsc hp hx q Q u w xs [] (xs.length+1) rfl (by omega)
  simp only [List.length_nil,Int.natCast_zero] at hl
  simp +contextual -dsimp -implicitDefEqProofs (maxSteps:=5000000) only [hl,go_sem,simprocAttr]
  cases Bu p 0 xs<;>simp +contextual -dsimp -implicitDefEqProofs (maxSteps:=5000000) only [BM,BL,Gd,go_sem,simprocAttr]
 refine Ac rfl 0 (by rfl) ?_
 delta c120
 simp +contextual -dsimp -implicitDefEqProofs (maxSteps:=5000000) only [h1,hcap,Ee,go_sem,simprocAttr]
theorem QH (i k:Nat) (pf nn:Bool) (xs:List AY) (p:AY→Bool) (g:Nat) (cap:List V) (hc:Dv tbl g []) (hcap:∀ d,AC (AS (d+1)) cap=.ret cap) (hsc:AU 0 cap=cap)
  (hp:∀ a,a∈xs→Aa (Lv ctx i) g (eE a::cap)=some (bV (p a))) (hx:xs.length≤BB) (q:Out→St→Option Ans) (Q:V→Hp→Nat→Prop) (u:Dum fun s q=>evC ctx (Lv ctx i) (Aa (Lv ctx i)) k Pw s (Al [0,1,7,8] q)) (w:Dum q):∀ (suf pre:List AY) (kk:Nat),xs=pre++suf→suf.length<kk →
  GL 0 [0,1,7,8] (fun s q=>evC ctx (Lv ctx i) (Aa (Lv ctx i)) k Pw s (Al [0,1,7,8] q)) q kk ⟨Ae [0,1,7,8] [.isl pf nn 4 (xs.map eE),.fn (.func g) [] cap,iV xs.length,iV pre.length],Af,0⟩ Q u w =
  Iv q Q ⟨Ae [] [],Af,0⟩ (fun j=>⟨Ae [4] [iV j],Af,0⟩) (Bu p pre.length suf)
 | [],pre,kk,hxs,hk=>by
  obtain ⟨kk,rfl⟩:∃ m,kk=m+1:=⟨kk - 1,by simp at hk;omega⟩
  have h1:decide ((pre.length:Int)<xs.length)=false:=by simp [hxs]
  simp +contextual -dsimp -implicitDefEqProofs (maxSteps:=5000000) only [gLs,↓Ah (Pw.eq_1),h1,hcap,hsc,Bu,BM,go_sem,simprocAttr]
 | a::suf,pre,kk,hxs,hk=>by
  obtain ⟨kk,rfl⟩:∃ m,kk=m+1:=⟨kk - 1,by simp at hk;omega⟩
  have hl:pre.length<xs.length:=by simp [hxs]
  have h1:decide ((pre.length:Int)<xs.length)=true:=by simpa using hl
  have h2:((pre.length:Int)<xs.length)=True:=by simpa using hl
  have h3:(0≤(pre.length:Int))=True:=by simp
  have h4:=wrN pre.length (by omega)
  have hg:xs[pre.length]?=some a:=by simp [hxs]
  have hpa:=hp a (by simp [hxs])
  simp only [eE] at hpa
  have ih:=QH i k pf nn xs p g cap hc hcap hsc hp hx q Q u w suf (pre++[a]) kk (by simp [hxs]) (by simpa using hk)
  rw [Ag] at ih
  cases hb:p a<;>rw [hb] at hpa<;>simp +contextual -dsimp -implicitDefEqProofs (maxSteps:=5000000) only [gLs,↓Ah (Pw.eq_1),h1,h2,h3,h4,hcap,hsc,Bu,BL,hg,hpa,hb,hc,ih,Int.toNat_natCast,List.getElem?_map,go_sem,simprocAttr]
theorem bI (i:Nat) (pf nn:Bool) (xs:List AY) (p:AY→Bool) (g:Nat) (cap:List V) (hc:Dv tbl g []) (hcap:∀ d,AC (AS (d+1)) cap=.ret cap) (hsc:AU 0 cap=cap) (hn:BA cap=true)
  (hp:∀ a,a∈xs→Aa (Lv ctx i) g (eE a::cap)=some (bV (p a))) (hx:xs.length≤BB):Aa (Lv ctx (i+2)) 133 [.isl pf nn 4 (xs.map eE),.fn (.func g) [] cap]=some (bV (xs.any p)):=by
 have h1:Aa (Lv ctx (i+1)) 183 [.isl pf nn 4 (xs.map eE),.fn (.func g) [] cap]=some (iV (Gd (Bu p 0 xs))):=by
  refine Ac rfl (xs.length+1) (by rfl) ?_
  delta c183
  have hl:=fun q Q u w=>QH i (xs.length+1) pf nn xs p g cap hc hcap hsc hp hx q Q u w xs [] (xs.length+1) rfl (by omega)
  simp only [List.length_nil,Int.natCast_zero] at hl
  simp +contextual -dsimp -implicitDefEqProofs (maxSteps:=5000000) only [hl,go_sem,simprocAttr]
  cases Bu p 0 xs<;>simp +contextual -dsimp -implicitDefEqProofs (maxSteps:=5000000) only [BM,BL,Gd,go_sem,simprocAttr]
 refine Ac rfl 0 (by rfl) ?_
 delta c133
 simp +contextual -dsimp -implicitDefEqProofs (maxSteps:=5000000) only [h1,hcap,Ee,go_sem,simprocAttr]
theorem Uk (i k:Nat) (pf nn:Bool) (xs:List AN) (p:AN→Bool) (g:Nat) (cap:List V) (hc:Dv tbl g []) (hcap:∀ d,AC (AS (d+1)) cap=.ret cap) (hsc:AU 0 cap=cap)
  (hp:∀ a,a∈xs→Aa (Lv ctx i) g (eR a::cap)=some (bV (p a))) (hx:xs.length≤BB) (q:Out→St→Option Ans) (Q:V→Hp→Nat→Prop) (u:Dum fun s q=>evC ctx (Lv ctx i) (Aa (Lv ctx i)) k Pu s (Al [0,1,7,8] q)) (w:Dum q):∀ (suf pre:List AN) (kk:Nat),xs=pre++suf→suf.length<kk →
  GL 0 [0,1,7,8] (fun s q=>evC ctx (Lv ctx i) (Aa (Lv ctx i)) k Pu s (Al [0,1,7,8] q)) q kk ⟨Ae [0,1,7,8] [.isl pf nn 3 (xs.map eR),.fn (.func g) [] cap,iV xs.length,iV pre.length],Af,0⟩ Q u w =
  Iv q Q ⟨Ae [] [],Af,0⟩ (fun j=>⟨Ae [4] [iV j],Af,0⟩) (Bu p pre.length suf)
 | [],pre,kk,hxs,hk=>by
  obtain ⟨kk,rfl⟩:∃ m,kk=m+1:=⟨kk - 1,by simp at hk;omega⟩
  have h1:decide ((pre.length:Int)<xs.length)=false:=by simp [hxs]
  simp +contextual -dsimp -implicitDefEqProofs (maxSteps:=5000000) only [gLs,↓Ah (Pu.eq_1),h1,hcap,hsc,Bu,BM,go_sem,simprocAttr]
 | a::suf,pre,kk,hxs,hk=>by
  obtain ⟨kk,rfl⟩:∃ m,kk=m+1:=⟨kk - 1,by simp at hk;omega⟩
  have hl:pre.length<xs.length:=by simp [hxs]
  have h1:decide ((pre.length:Int)<xs.length)=true:=by simpa using hl
  have h2:((pre.length:Int)<xs.length)=True:=by simpa using hl
  have h3:(0≤(pre.length:Int))=True:=by simp
  have h4:=wrN pre.length (by omega)
  have hg:xs[pre.length]?=some a:=by simp [hxs]
  have hpa:=hp a (by simp [hxs])
  simp only [eR] at hpa
  have ih:=Uk i k pf nn xs p g cap hc hcap hsc hp hx q Q u w suf (pre++[a]) kk (by simp [hxs]) (by simpa using hk)
  rw [Ag] at ih
  cases hb:p a<;>rw [hb] at hpa<;>simp +contextual -dsimp -implicitDefEqProofs (maxSteps:=5000000) only [gLs,↓Ah (Pu.eq_1),h1,h2,h3,h4,hcap,hsc,Bu,BL,hg,hpa,hb,hc,ih,Int.toNat_natCast,List.getElem?_map,go_sem,simprocAttr]
theorem Oj (i:Nat) (pf nn:Bool) (xs:List AN) (p:AN→Bool) (g:Nat) (cap:List V) (hc:Dv tbl g []) (hcap:∀ d,AC (AS (d+1)) cap=.ret cap) (hsc:AU 0 cap=cap) (hn:BA cap=true)
  (hp:∀ a,a∈xs→Aa (Lv ctx i) g (eR a::cap)=some (bV (p a))) (hx:xs.length≤BB):Aa (Lv ctx (i+2)) 173 [.isl pf nn 3 (xs.map eR),.fn (.func g) [] cap]=some (bV (xs.any p)):=by
 have h1:Aa (Lv ctx (i+1)) 207 [.isl pf nn 3 (xs.map eR),.fn (.func g) [] cap]=some (iV (Gd (Bu p 0 xs))):=by
  refine Ac rfl (xs.length+1) (by rfl) ?_
  delta c207
  have hl:=fun q Q u w=>Uk i (xs.length+1) pf nn xs p g cap hc hcap hsc hp hx q Q u w xs [] (xs.length+1) rfl (by omega)
  simp only [List.length_nil,Int.natCast_zero] at hl
  simp +contextual -dsimp -implicitDefEqProofs (maxSteps:=5000000) only [hl,go_sem,simprocAttr]
  cases Bu p 0 xs<;>simp +contextual -dsimp -implicitDefEqProofs (maxSteps:=5000000) only [BM,BL,Gd,go_sem,simprocAttr]
 refine Ac rfl 0 (by rfl) ?_
 delta c173
 simp +contextual -dsimp -implicitDefEqProofs (maxSteps:=5000000) only [h1,hcap,Ee,go_sem,simprocAttr]
theorem QG (i k:Nat) (pf nn:Bool) (xs:List Ao) (p:Ao→Bool) (g:Nat) (cap:List V) (hc:Dv tbl g []) (hcap:∀ d,AC (AS (d+1)) cap=.ret cap) (hsc:AU 0 cap=cap)
  (hp:∀ a,a∈xs→Aa (Lv ctx i) g (eWr a::cap)=some (bV (p a))) (hx:xs.length≤BB) (q:Out→St→Option Ans) (Q:V→Hp→Nat→Prop) (u:Dum fun s q=>evC ctx (Lv ctx i) (Aa (Lv ctx i)) k Pt s (Al [0,1,7,8] q)) (w:Dum q):∀ (suf pre:List Ao) (kk:Nat),xs=pre++suf→suf.length<kk →
  GL 0 [0,1,7,8] (fun s q=>evC ctx (Lv ctx i) (Aa (Lv ctx i)) k Pt s (Al [0,1,7,8] q)) q kk ⟨Ae [0,1,7,8] [.isl pf nn 3 (xs.map eWr),.fn (.func g) [] cap,iV xs.length,iV pre.length],Af,0⟩ Q u w =
  Iv q Q ⟨Ae [] [],Af,0⟩ (fun j=>⟨Ae [4] [iV j],Af,0⟩) (Bu p pre.length suf)
 | [],pre,kk,hxs,hk=>by
  obtain ⟨kk,rfl⟩:∃ m,kk=m+1:=⟨kk - 1,by simp at hk;omega⟩
  have h1:decide ((pre.length:Int)<xs.length)=false:=by simp [hxs]
  simp +contextual -dsimp -implicitDefEqProofs (maxSteps:=5000000) only [gLs,↓Ah (Pt.eq_1),h1,hcap,hsc,Bu,BM,go_sem,simprocAttr]
 | a::suf,pre,kk,hxs,hk=>by
  obtain ⟨kk,rfl⟩:∃ m,kk=m+1:=⟨kk - 1,by simp at hk;omega⟩
  have hl:pre.length<xs.length:=by simp [hxs]
  have h1:decide ((pre.length:Int)<xs.length)=true:=by simpa using hl
  have h2:((pre.length:Int)<xs.length)=True:=by simpa using hl
  have h3:(0≤(pre.length:Int))=True:=by simp
  have h4:=wrN pre.length (by omega)
  have hg:xs[pre.length]?=some a:=by simp [hxs]
  have hpa:=hp a (by simp [hxs])
  simp only [eWr] at hpa
  have ih:=QG i k pf nn xs p g cap hc hcap hsc hp hx q Q u w suf (pre++[a]) kk (by simp [hxs]) (by simpa using hk)
  rw [Ag] at ih
  cases hb:p a<;>rw [hb] at hpa<;>simp +contextual -dsimp -implicitDefEqProofs (maxSteps:=5000000) only [gLs,↓Ah (Pt.eq_1),h1,h2,h3,h4,hcap,hsc,Bu,BL,hg,hpa,hb,hc,ih,Int.toNat_natCast,List.getElem?_map,go_sem,simprocAttr]
theorem Qg (i:Nat) (pf nn:Bool) (xs:List Ao) (p:Ao→Bool) (g:Nat) (cap:List V) (hc:Dv tbl g []) (hcap:∀ d,AC (AS (d+1)) cap=.ret cap) (hsc:AU 0 cap=cap) (hn:BA cap=true)
  (hp:∀ a,a∈xs→Aa (Lv ctx i) g (eWr a::cap)=some (bV (p a))) (hx:xs.length≤BB):Aa (Lv ctx (i+2)) 178 [.isl pf nn 3 (xs.map eWr),.fn (.func g) [] cap]=some (bV (xs.any p)):=by
 have h1:Aa (Lv ctx (i+1)) 210 [.isl pf nn 3 (xs.map eWr),.fn (.func g) [] cap]=some (iV (Gd (Bu p 0 xs))):=by
  refine Ac rfl (xs.length+1) (by rfl) ?_
  delta c210
  have hl:=fun q Q u w=>QG i (xs.length+1) pf nn xs p g cap hc hcap hsc hp hx q Q u w xs [] (xs.length+1) rfl (by omega)
  simp only [List.length_nil,Int.natCast_zero] at hl
  simp +contextual -dsimp -implicitDefEqProofs (maxSteps:=5000000) only [hl,go_sem,simprocAttr]
  cases Bu p 0 xs<;>simp +contextual -dsimp -implicitDefEqProofs (maxSteps:=5000000) only [BM,BL,Gd,go_sem,simprocAttr]
 refine Ac rfl 0 (by rfl) ?_
 delta c178
 simp +contextual -dsimp -implicitDefEqProofs (maxSteps:=5000000) only [h1,hcap,Ee,go_sem,simprocAttr]
theorem Ul (i k:Nat) (pf nn:Bool) (xs:List AI) (p:AI→Bool) (g:Nat) (cap:List V) (hc:Dv tbl g []) (hcap:∀ d,AC (AS (d+1)) cap=.ret cap) (hsc:AU 0 cap=cap)
  (hp:∀ a,a∈xs→Aa (Lv ctx i) g (eI a::cap)=some (bV (p a))) (hx:xs.length≤BB) (q:Out→St→Option Ans) (Q:V→Hp→Nat→Prop) (u:Dum fun s q=>evC ctx (Lv ctx i) (Aa (Lv ctx i)) k Ps s (Al [0,1,7,8] q)) (w:Dum q):∀ (suf pre:List AI) (kk:Nat),xs=pre++suf→suf.length<kk →
  GL 0 [0,1,7,8] (fun s q=>evC ctx (Lv ctx i) (Aa (Lv ctx i)) k Ps s (Al [0,1,7,8] q)) q kk ⟨Ae [0,1,7,8] [.isl pf nn 4 (xs.map eI),.fn (.func g) [] cap,iV xs.length,iV pre.length],Af,0⟩ Q u w =
  Iv q Q ⟨Ae [] [],Af,0⟩ (fun j=>⟨Ae [4] [iV j],Af,0⟩) (Bu p pre.length suf)
 | [],pre,kk,hxs,hk=>by
  obtain ⟨kk,rfl⟩:∃ m,kk=m+1:=⟨kk - 1,by simp at hk;omega⟩
  have h1:decide ((pre.length:Int)<xs.length)=false:=by simp [hxs]
  simp +contextual -dsimp -implicitDefEqProofs (maxSteps:=5000000) only [gLs,↓Ah (Ps.eq_1),h1,hcap,hsc,Bu,BM,go_sem,simprocAttr]
 | a::suf,pre,kk,hxs,hk=>by
  obtain ⟨kk,rfl⟩:∃ m,kk=m+1:=⟨kk - 1,by simp at hk;omega⟩
  have hl:pre.length<xs.length:=by simp [hxs]
  have h1:decide ((pre.length:Int)<xs.length)=true:=by simpa using hl
  have h2:((pre.length:Int)<xs.length)=True:=by simpa using hl
  have h3:(0≤(pre.length:Int))=True:=by simp
  have h4:=wrN pre.length (by omega)
  have hg:xs[pre.length]?=some a:=by simp [hxs]
  have hpa:=hp a (by simp [hxs])
  simp only [eI] at hpa
  have ih:=Ul i k pf nn xs p g cap hc hcap hsc hp hx q Q u w suf (pre++[a]) kk (by simp [hxs]) (by simpa using hk)
  rw [Ag] at ih
  cases hb:p a<;>rw [hb] at hpa<;>simp +contextual -dsimp -implicitDefEqProofs (maxSteps:=5000000) only [gLs,↓Ah (Ps.eq_1),h1,h2,h3,h4,hcap,hsc,Bu,BL,hg,hpa,hb,hc,ih,Int.toNat_natCast,List.getElem?_map,go_sem,simprocAttr]
theorem gV (i:Nat) (pf nn:Bool) (xs:List AI) (p:AI→Bool) (g:Nat) (cap:List V) (hc:Dv tbl g []) (hcap:∀ d,AC (AS (d+1)) cap=.ret cap) (hsc:AU 0 cap=cap) (hn:BA cap=true)
  (hp:∀ a,a∈xs→Aa (Lv ctx i) g (eI a::cap)=some (bV (p a))) (hx:xs.length≤BB):Aa (Lv ctx (i+2)) 180 [.isl pf nn 4 (xs.map eI),.fn (.func g) [] cap]=some (bV (xs.any p)):=by
 have h1:Aa (Lv ctx (i+1)) 211 [.isl pf nn 4 (xs.map eI),.fn (.func g) [] cap]=some (iV (Gd (Bu p 0 xs))):=by
  refine Ac rfl (xs.length+1) (by rfl) ?_
  delta c211
  have hl:=fun q Q u w=>Ul i (xs.length+1) pf nn xs p g cap hc hcap hsc hp hx q Q u w xs [] (xs.length+1) rfl (by omega)
  simp only [List.length_nil,Int.natCast_zero] at hl
  simp +contextual -dsimp -implicitDefEqProofs (maxSteps:=5000000) only [hl,go_sem,simprocAttr]
  cases Bu p 0 xs<;>simp +contextual -dsimp -implicitDefEqProofs (maxSteps:=5000000) only [BM,BL,Gd,go_sem,simprocAttr]
 refine Ac rfl 0 (by rfl) ?_
 delta c180
 simp +contextual -dsimp -implicitDefEqProofs (maxSteps:=5000000) only [h1,hcap,Ee,go_sem,simprocAttr]
end Ve
namespace Ve
open Go Ve.Ab
set_option maxHeartbeats 16000000
set_option maxRecDepth 10000
theorem Bm (l:Int):l=0∨l=1∨l=2∨l=3∨inR l 3=false:=by
 simp [inR];omega
theorem b0g:inR 0 3=true:=by decide
theorem b0f:inR 1 3=true:=by decide
theorem b0e:inR 2 3=true:=by decide
theorem b0d:inR 3 3=true:=by decide
attribute [go_sem] b0g b0f b0e b0d
@[go_sem] theorem s_there (i:Nat) (p a b c d na nb nc nd:Bool) (w0 w1 w2 w3:List Ap) (r:List V) (l x:Int):Aa (Lv ctx (i+2)) 177 [.ip p (.isl a na 3 (w0.map eW)::.isl b nb 3 (w1.map eW)::.isl c nc 3 (w2.map eW)::.isl d nd 3 (w3.map eW)::r) 0,iV l,iV x]=some (bV (Bb ⟨w0,w1,w2,w3⟩ l x)):=by
 rcases Bm l with rfl | rfl | rfl | rfl | h<;>refine Ac rfl 0 (by rfl) ?_<;>delta c177
 case inr.inr.inr.inr=>simp +contextual -dsimp -implicitDefEqProofs (maxSteps:=5000000) only [Bb,h,go_sem,simprocAttr]
 all_goals simp +contextual -dsimp -implicitDefEqProofs (maxSteps:=5000000) only [Bb,A4.get,go_sem,simprocAttr]
theorem bool_5f {a b c d e:Bool} (h:(a&&b&&!c&&d&&e)=false):(!a||!b||c||!d||!e)=true:=by cases a<;>cases b<;>cases c<;>cases d<;>cases e<;>simp_all
@[go_sem] theorem bE (i:Nat) (a b c:Int):Aa (Lv ctx (i+4)) 116 [.agg [iV a,iV b,iV c]]=some (bV (!AO ⟨a,b,c⟩)):=by
 refine Ac rfl 0 (by rfl) ?_
 delta c116
 simp +contextual -dsimp -implicitDefEqProofs (maxSteps:=5000000) only [go_sem,simprocAttr]
theorem GT {α:Type} (p:α→Bool):∀ l:List α,(l.any fun x=>!p x)=!(l.all p)
 | []=>rfl
 | a::l=>by simp [GT p l]
theorem VS (i:Nat) (pf nn:Bool) (xs:List Ap) (hx:xs.length≤BB):Aa (Lv ctx (i+4+2)) 118 [.isl pf nn 3 (xs.map eW),.fn (.func 116) [] []]=some (bV (!(xs.all AO))):=by
 rw [gS (i+4) pf nn xs (fun w=>!AO w) 116 [] (fun _ _ _ _ _ _=>rfl) (fun _=>rfl) (by simp [AU]) rfl (fun a _=>by simp only [eW];exact bE i _ _ _) hx,GT]
theorem Pf (n:Nat):decide (4<(n:Int))=!decide (n≤4):=by
 by_cases h:n≤4<;>simp [h]<;>omega
theorem a2l (i:Nat) (pf nn:Bool) (xs:List Ap) (hx:decide (4<(xs.length:Int))=false):Aa (Lv ctx (i+4+2)) 118 [.isl pf nn 3 (xs.map eW),.fn (.func 116) [] []]=some (bV (!(Cv xs))):=by
 simp at hx
 rw [VS i pf nn xs (by simp [BB];omega)]
 simp [Cv,show xs.length≤4 by omega]
@[go_sem] theorem VX (i:Nat) (a b c d na nb nc nd:Bool) (w0 w1 w2 w3:List Ap):Aa (Lv ctx (i+4+3)) 81 [.agg [.isl a na 3 (w0.map eW),.isl b nb 3 (w1.map eW),.isl c nc 3 (w2.map eW),.isl d nd 3 (w3.map eW)]]=some (bV (AT ⟨w0,w1,w2,w3⟩)):=by
 have key:∀ (w:List Ap),decide (4<(w.length:Int))=true→Cv w=false:=by
  intro w h;simp at h;simp [Cv];intro;omega
 refine Ac rfl 5 (by rfl) ?_
 delta c81
 simp +contextual -dsimp -implicitDefEqProofs (maxSteps:=5000000) only [gLs,↓Ah (xP.eq_1),a2l,go_sem,simprocAttr]
 simp only [AT,A4.all]
 cases h0:decide (4<(w0.length:Int))<;>cases h1:decide (4<(w1.length:Int))<;>cases h2:decide (4<(w2.length:Int))<;>cases h3:decide (4<(w3.length:Int))<;>simp_all
def DX (m a b c d:Int):Bool:=inR a m&&inR b m&&inR c m&&inR d m
@[go_sem] theorem s_clockMay (i:Nat) (p:Bool) (z0 z1 z2 z3:V) (a b c d e:Int) (r:List V):Aa (Lv ctx (i+3)) 82 [.ip p (z0::z1::z2::z3::iV a::iV b::iV c::iV d::r) 4,iV e]=some (bV (DX 65535 a b c d&&inR e 65535)):=by
 refine Ac rfl 5 (by rfl) ?_
 delta c82
 simp +contextual -dsimp -implicitDefEqProofs (maxSteps:=5000000) only [gLs,↓Ah (oD.eq_1),DX,go_sem,simprocAttr]
 cases inR a 65535<;>cases inR b 65535<;>cases inR c 65535<;>cases inR d 65535<;>simp_all
@[go_sem] theorem s_clockMay' (i:Nat) (p:Bool) (a b c d e:Int):Aa (Lv ctx (i+3)) 82 [.ip p [iV a,iV b,iV c,iV d] 0,iV e]=some (bV (DX 65535 a b c d&&inR e 65535)):=by
 refine Ac rfl 5 (by rfl) ?_
 delta c82
 simp +contextual -dsimp -implicitDefEqProofs (maxSteps:=5000000) only [gLs,↓Ah (oD.eq_1),DX,go_sem,simprocAttr]
 cases inR a 65535<;>cases inR b 65535<;>cases inR c 65535<;>cases inR d 65535<;>simp_all
@[go_sem] theorem s_regsMay (i:Nat) (p:Bool) (z0 z1 z2 z3 z4 z5:V) (a b c d:Int) (r:List V):Aa (Lv ctx (i+3)) 131 [.ip p (z0::z1::z2::z3::z4::z5::iV a::iV b::iV c::iV d::r) 6]=some (bV (DX 255 a b c d)):=by
 refine Ac rfl 5 (by rfl) ?_
 delta c131
 simp +contextual -dsimp -implicitDefEqProofs (maxSteps:=5000000) only [gLs,↓Ah (YG.eq_1),DX,go_sem,simprocAttr]
 cases inR a 255<;>cases inR b 255<;>cases inR c 255<;>cases inR d 255<;>simp_all
@[go_sem] theorem s_regsMay' (i:Nat) (p:Bool) (a b c d:Int):Aa (Lv ctx (i+3)) 131 [.ip p [iV a,iV b,iV c,iV d] 0]=some (bV (DX 255 a b c d)):=by
 refine Ac rfl 5 (by rfl) ?_
 delta c131
 simp +contextual -dsimp -implicitDefEqProofs (maxSteps:=5000000) only [gLs,↓Ah (YG.eq_1),DX,go_sem,simprocAttr]
 cases inR a 255<;>cases inR b 255<;>cases inR c 255<;>cases inR d 255<;>simp_all
def max2 (a b:Int):Int:=if a<b then b else a
theorem tF (a b:Int):(if a<b then b else a)=max2 a b:=(rfl)
@[go_sem] theorem s_max (i:Nat) (p nn:Bool) (a b c d:Int):Aa (Lv ctx (i+1)) 83 [.isl p nn 1 [iV a,iV b,iV c,iV d]]=some (iV (max2 (max2 (max2 a b) c) d)):=by
 refine Ac rfl 5 (by rfl) ?_
 delta c83
 simp +contextual -dsimp -implicitDefEqProofs (maxSteps:=5000000) only [gLs,↓Ah (xO.eq_1),tF,go_sem,simprocAttr]
def Fw (b:Bool) (X1 X2:Prop):Prop :=
 match b with
 | true=>X1
 | false=>X2
theorem Bn (X1 X2:Prop):Fw true X1 X2=X1:=(rfl)
theorem AB (X1 X2:Prop):Fw false X1 X2=X2:=(rfl)
theorem lA (i k:Nat) (pf nn:Bool) (xs:List AI) (hx:xs.length≤BB) (q:Out→St→Option Ans) (Q:V→Hp→Nat→Prop) (u:Dum (fun s q=>evC ctx (Lv ctx (i+3)) (Aa (Lv ctx (i+3))) k MF s (Al [0,5,6,7] q))) (w:Dum q) (X1 X2:Prop)
  (hq1:∀ h n,Fin (q (.exit 0) ⟨Ae [0] [.isl pf nn 4 (xs.map eI)],h,n⟩) Q=X1) (hq2:∀ h n,Fin (q .ret ⟨Ae [2] [bV false],h,n⟩) Q=X2):∀ (suf pre:List AI) (kk:Nat) (h:Hp) (n:Nat),xs=pre++suf→suf.length<kk →
  GL 0 [0,5,6,7] (fun s q=>evC ctx (Lv ctx (i+3)) (Aa (Lv ctx (i+3))) k MF s (Al [0,5,6,7] q)) q kk ⟨Ae [0,5,6,7] [.isl pf nn 4 (xs.map eI),.isl pf nn 4 (xs.map eI),iV xs.length,iV pre.length],h,n⟩ Q u w =
  Fw (Cw xs.length pre.length suf) X1 X2
 | [],pre,kk,h,n,hxs,hk=>by
  obtain ⟨kk,rfl⟩:∃ m,kk=m+1:=⟨kk - 1,by simp at hk;omega⟩
  have h1:decide ((pre.length:Int)<xs.length)=false:=by simp [hxs]
  simp +contextual -dsimp -implicitDefEqProofs (maxSteps:=5000000) only [gLs,↓Ah (MF.eq_1),h1,Bn,Cw,hq1,go_sem,simprocAttr]
 | a::suf,pre,kk,h,n,hxs,hk=>by
  obtain ⟨kk,rfl⟩:∃ m,kk=m+1:=⟨kk - 1,by simp at hk;omega⟩
  have hl:pre.length<xs.length:=by simp [hxs]
  have h2:((pre.length:Int)<xs.length)=True:=by simpa using hl
  have h3:(0≤(pre.length:Int))=True:=by simp
  have h4:=wrN pre.length (by omega)
  have hg:xs[pre.length]?=some a:=by simp [hxs]
  have ih:=fun h n=>lA i k pf nn xs hx q Q u w X1 X2 hq1 hq2 suf (pre++[a]) kk h n (by simp [hxs]) (by simpa using hk)
  rw [Ag] at ih
  have h5:((pre.length+1:Nat):Int)=(pre.length:Int)+1:=by simp
  cases hb:(Cj a&&!(decide (a.code=4)&&(decide (a.b≤(pre.length:Int))||decide ((xs.length:Int)<a.b))))
  ·have hr:Cw xs.length pre.length (a::suf)=false:=by simp only [Cw,hb,Bool.false_and]
   rw [hr]
   have hb':(!(Cj a)||(decide (a.code=4)&&(decide (a.b≤(pre.length:Int))||decide ((xs.length:Int)<a.b))))=true:=vZ hb
   simp +contextual -dsimp -implicitDefEqProofs (maxSteps:=5000000) only [gLs,↓Ah (MF.eq_1),h2,h3,h4,hg,hb',AB,hq2,go_sem,simprocAttr]
  ·have hr:Cw xs.length pre.length (a::suf)=Cw xs.length ((pre.length+1:Nat):Int) suf:=by simp only [Cw,hb,Bool.true_and,h5]
   rw [hr]
   have hb':(!(Cj a)||(decide (a.code=4)&&(decide (a.b≤(pre.length:Int))||decide ((xs.length:Int)<a.b))))=false:=vY hb
   simp +contextual -dsimp -implicitDefEqProofs (maxSteps:=5000000) only [gLs,↓Ah (MF.eq_1),h2,h3,h4,hg,hb',ih,go_sem,simprocAttr]
theorem a2m (i:Nat) (pf nn:Bool) (xs:List AI) (hx:xs.length≤BB):Aa (Lv ctx (i+4)) 161 [.isl pf nn 4 (xs.map eI)]=some (bV (HC xs)):=by
 refine Ac rfl (xs.length+1) (by rfl) ?_
 delta c161
 have h2:=fun q Q u w h1 h2=>lA i (xs.length+1) pf nn xs hx q Q u w (Fin (q (.exit 0) ⟨Ae [0] [.isl pf nn 4 (xs.map eI)],Af,0⟩) Q) (Fin (q .ret ⟨Ae [2] [bV false],Af,0⟩) Q) h1 h2 xs [] (xs.length+1) Af 0 rfl (by omega)
 simp only [List.length_nil,Int.natCast_zero] at h2
 have h5:decide ((xs.length:Int)≤16)=decide (xs.length≤16):=by apply decide_eq_decide.mpr;omega
 simp +contextual -dsimp -implicitDefEqProofs (maxSteps:=5000000) only [HC,h5,go_sem,simprocAttr]
 refine Eq.mpr (h2 _ _ _ _ (fun h n=>by simp +contextual -dsimp -implicitDefEqProofs (maxSteps:=5000000) only [go_sem,simprocAttr]) (fun h n=>by simp +contextual -dsimp -implicitDefEqProofs (maxSteps:=5000000) only [go_sem,simprocAttr])) ?_
 cases hb:Cw xs.length 0 xs<;>simp +contextual -dsimp -implicitDefEqProofs (maxSteps:=5000000) only [Bn,AB,h5,go_sem,simprocAttr]
end Ve
namespace Ve
open Go Ve.Ab
set_option maxHeartbeats 16000000
set_option maxRecDepth 10000
@[go_sem] theorem wY (i:Nat) (p:Bool) (a b c x y z:Int):Aa (Lv ctx (i+1)) 208 [.agg [iV x,iV y,iV z],.ip p [iV a,iV b,iV c] 0]=some (bV (Cu ⟨a,b,c⟩ ⟨x,y,z⟩)):=by
 refine Ac rfl 0 (by rfl) ?_
 delta c208
 simp +contextual -dsimp -implicitDefEqProofs (maxSteps:=5000000) only [go_sem,simprocAttr]
 all_goals simp_all [Cu]
@[go_sem] theorem s_of (i:Nat) (a b c:Int):Aa (Lv ctx (i+1)) 174 [.agg [iV a,iV b,iV c]]=some (.fn (.func 208) [] [.ip true [iV a,iV b,iV c] 0]):=by
 refine Ac rfl 0 (by rfl) ?_
 delta c174
 simp +contextual -dsimp -implicitDefEqProofs (maxSteps:=5000000) only [go_sem,simprocAttr]
theorem ZM (i k:Nat) (pf nn:Bool) (xs:List AN) (hx:xs.length≤BB) (q:Out→St→Option Ans) (Q:V→Hp→Nat→Prop) (u:Dum (fun s q=>evC ctx (Lv ctx (i+3)) (Aa (Lv ctx (i+3))) k JP s (Al [0,8,9,10] q))) (w:Dum q) (X1 X2:Prop)
  (hq1:∀ h n,Fin (q (.exit 0) ⟨Ae [] [],h,n⟩) Q=X1) (hq2:∀ h n,Fin (q .ret ⟨Ae [2] [bV false],h,n⟩) Q=X2):∀ (suf pre:List AN) (kk:Nat) (h:Hp) (n:Nat),xs=pre++suf→suf.length<kk →
  GL 0 [0,8,9,10] (fun s q=>evC ctx (Lv ctx (i+3)) (Aa (Lv ctx (i+3))) k JP s (Al [0,8,9,10] q)) q kk ⟨Ae [0,8,9,10] [.isl pf nn 3 (xs.map eR),.isl pf nn 3 (xs.map eR),iV xs.length,iV pre.length],h,n⟩ Q u w =
  Fw (Ch pre suf) X1 X2
 | [],pre,kk,h,n,hxs,hk=>by
  obtain ⟨kk,rfl⟩:∃ m,kk=m+1:=⟨kk - 1,by simp at hk;omega⟩
  have h1:decide ((pre.length:Int)<xs.length)=false:=by simp [hxs]
  simp +contextual -dsimp -implicitDefEqProofs (maxSteps:=5000000) only [gLs,↓Ah (JP.eq_1),h1,Bn,Ch,hq1,go_sem,simprocAttr]
 | a::suf,pre,kk,h,n,hxs,hk=>by
  obtain ⟨kk,rfl⟩:∃ m,kk=m+1:=⟨kk - 1,by simp at hk;omega⟩
  have hl:pre.length<xs.length:=by simp [hxs]
  have h2:((pre.length:Int)<xs.length)=True:=by simpa using hl
  have h2':((pre.length:Int)≤xs.length)=True:=by simp;omega
  have h3:(0≤(pre.length:Int))=True:=by simp
  have h4:=wrN pre.length (by omega)
  have hg:xs[pre.length]?=some a:=by simp [hxs]
  have ht:(xs.map eR).take pre.length=pre.map eR:=by simp [hxs]
  have ih:=fun h n=>ZM i k pf nn xs hx q Q u w X1 X2 hq1 hq2 suf (pre++[a]) kk h n (by simp [hxs]) (by simpa using hk)
  rw [Ag] at ih
  have hcf:Aa (Lv ctx (i+3)) 173 [.isl pf nn 3 (pre.map eR),.fn (.func 208) [] [.ip true [iV a.level,iV a.index,iV a.ver] 0]]=some (bV (pre.any (Cu a))) :=
   Oj (i+1) pf nn pre (Cu a) 208 [.ip true [iV a.level,iV a.index,iV a.ver] 0] (fun _ _ _ _ _ _=>rfl) (fun _=>rfl) (by simp [AU,V.scrub]) rfl (fun x _=>by simp only [eR];exact wY (i+0) true a.level a.index a.ver x.level x.index x.ver) (by omega)
  cases c1:inR a.level 3
  ·simp +contextual -dsimp -implicitDefEqProofs (maxSteps:=5000000) only [gLs,↓Ah (JP.eq_1),h2,h2',h3,h4,hg,ht,hcf,AB,hq2,Ch,CD,c1,go_sem,simprocAttr]
  ·cases c2:inR a.index 3
   ·simp +contextual -dsimp -implicitDefEqProofs (maxSteps:=5000000) only [gLs,↓Ah (JP.eq_1),h2,h2',h3,h4,hg,ht,hcf,AB,hq2,Ch,CD,c1,c2,go_sem,simprocAttr]
   ·cases c3:inR a.ver 65535
    ·simp +contextual -dsimp -implicitDefEqProofs (maxSteps:=5000000) only [gLs,↓Ah (JP.eq_1),h2,h2',h3,h4,hg,ht,hcf,AB,hq2,Ch,CD,c1,c2,c3,go_sem,simprocAttr]
    ·cases c4:pre.any (Cu a)<;>simp +contextual -dsimp -implicitDefEqProofs (maxSteps:=5000000) only [gLs,↓Ah (JP.eq_1),h2,h2',h3,h4,hg,ht,hcf,AB,hq2,Ch,CD,c1,c2,c3,c4,ih,go_sem,simprocAttr]
theorem ND (i:Nat) (pf nn:Bool) (xs:List AN) (hx:xs.length≤BB):Aa (Lv ctx (i+4)) 122 [.isl pf nn 3 (xs.map eR)]=some (bV (AQ xs)):=by
 refine Ac rfl (xs.length+1) (by rfl) ?_
 delta c122
 have h2:=fun q Q u w h1 h2=>ZM i (xs.length+1) pf nn xs hx q Q u w (Fin (q (.exit 0) ⟨Ae [] [],Af,0⟩) Q) (Fin (q .ret ⟨Ae [2] [bV false],Af,0⟩) Q) h1 h2 xs [] (xs.length+1) Af 0 rfl (by omega)
 simp only [List.length_nil,Int.natCast_zero] at h2
 cases h5:decide (16<(xs.length:Int))
 ·have h6:decide (xs.length≤16)=true:=by simp at h5 ⊢;omega
  simp +contextual -dsimp -implicitDefEqProofs (maxSteps:=5000000) only [AQ,h5,h6,go_sem,simprocAttr]
  refine Eq.mpr (h2 _ _ _ _ (fun h n=>by simp +contextual -dsimp -implicitDefEqProofs (maxSteps:=5000000) only [go_sem,simprocAttr]) (fun h n=>by simp +contextual -dsimp -implicitDefEqProofs (maxSteps:=5000000) only [go_sem,simprocAttr])) ?_
  cases hb:Ch [] xs<;>simp +contextual -dsimp -implicitDefEqProofs (maxSteps:=5000000) only [Bn,AB,go_sem,simprocAttr]
 ·have h6:decide (xs.length≤16)=false:=by simp at h5 ⊢;omega
  simp +contextual -dsimp -implicitDefEqProofs (maxSteps:=5000000) only [AQ,h5,h6,go_sem,simprocAttr]
@[go_sem] theorem s_or (i:Nat) (p nn:Bool) (a b:Int):Aa (Lv ctx (i+1)) 209 [.isl p nn 1 [iV a,iV b]]=some (iV (if a=0 then b else a)):=by
 refine Ac rfl 3 (by rfl) ?_
 delta c209
 by_cases ha:a=0
 ·subst ha
  by_cases hb:b=0
  ·subst hb
   simp +contextual -dsimp -implicitDefEqProofs (maxSteps:=5000000) only [gLs,↓Ah (SM.eq_1),go_sem,simprocAttr]
  ·have hb':decide (b=0)=false:=by simpa using hb
   simp +contextual -dsimp -implicitDefEqProofs (maxSteps:=5000000) only [gLs,↓Ah (SM.eq_1),hb',go_sem,simprocAttr]
 ·have ha':decide (a=0)=false:=by simpa using ha
  simp +contextual -dsimp -implicitDefEqProofs (maxSteps:=5000000) only [gLs,↓Ah (SM.eq_1),ha',if_neg ha,go_sem,simprocAttr]
def Nu (a b:Ao):Int:=if IntKind.wrap .i64 (a.level - b.level)=0 then IntKind.wrap .i64 (a.index - b.index) else IntKind.wrap .i64 (a.level - b.level)
@[go_sem] theorem s_row (i:Nat) (a b c x y z:Int):Aa (Lv ctx (i+2)) 175 [.agg [iV a,iV b,iV c],.agg [iV x,iV y,iV z]]=some (iV (Nu ⟨a,b,c⟩ ⟨x,y,z⟩)):=by
 refine Ac rfl 0 (by rfl) ?_
 delta c175
 simp +contextual -dsimp -implicitDefEqProofs (maxSteps:=5000000) only [Nu,List.replicate,go_sem,simprocAttr]
theorem RP (i g:Nat) (pf:Bool) (pw:Bool) (row:List V) (off:Nat) (a:Ai) (b:Bool) (hc:Dv tbl g []) (hp:Aa (Lv ctx i) g [.agg [.ip pw row off],(eS pf) a]=some (bV b)):Aa (Lv ctx (i+1)) 121 [(eS pf) a,.ip pw [.fn (.func g) [.agg [.ip pw row off]] []] 0]=some (bV (!b)):=by
 simp only [eS] at hp ⊢
 refine Ac rfl 0 (by rfl) ?_
 delta c121
 simp +contextual -dsimp -implicitDefEqProofs (maxSteps:=5000000) only [hc,hp,go_sem,simprocAttr]
theorem RR (i g:Nat) (pf nn:Bool) (pw:Bool) (row:List V) (off:Nat) (xs:List Ai) (p:Ai→Bool) (hc:Dv tbl g []) (hx:xs.length≤BB) (hp:∀ a,a∈xs→Aa (Lv ctx i) g [.agg [.ip pw row off],(eS pf) a]=some (bV (p a))):Aa (Lv ctx (i+4)) 85 [.isl pf nn 17 (xs.map (eS pf)),.fn (.func g) [.agg [.ip pw row off]] []]=some (bV (xs.all p)):=by
 have h1:Aa (Lv ctx (i+3)) 120 [.isl pf nn 17 (xs.map (eS pf)),.fn (.func 121) [] [.ip pw [.fn (.func g) [.agg [.ip pw row off]] []] 0]]=some (bV (!(xs.all p))):=by
  rw [Ty (i+1) pf nn xs (fun x=>!p x) 121 [.ip pw [.fn (.func g) [.agg [.ip pw row off]] []] 0] (fun _ _ _ _ _ _=>rfl) (fun _=>rfl) (by simp [AU,V.scrub]) rfl (fun a ha=>RP i g pf pw row off a (p a) hc (hp a ha)) hx,GT]
 refine Ac rfl 0 (by rfl) ?_
 delta c85
 simp +contextual -dsimp -implicitDefEqProofs (maxSteps:=5000000) only [h1,Bool.not_not,go_sem,simprocAttr]
theorem bF (i g:Nat) (pf:Bool) (pw:Bool) (row:List V) (off:Nat) (a:AN) (b:Bool) (hc:Dv tbl g []) (hp:Aa (Lv ctx i) g [.agg [.ip pw row off],eR a]=some (bV b)):Aa (Lv ctx (i+1)) 176 [eR a,.ip pw [.fn (.func g) [.agg [.ip pw row off]] []] 0]=some (bV (!b)):=by
 simp only [eR] at hp ⊢
 refine Ac rfl 0 (by rfl) ?_
 delta c176
 simp +contextual -dsimp -implicitDefEqProofs (maxSteps:=5000000) only [hc,hp,go_sem,simprocAttr]
theorem bJ (i g:Nat) (pf nn:Bool) (pw:Bool) (row:List V) (off:Nat) (xs:List AN) (p:AN→Bool) (hc:Dv tbl g []) (hx:xs.length≤BB) (hp:∀ a,a∈xs→Aa (Lv ctx i) g [.agg [.ip pw row off],eR a]=some (bV (p a))):Aa (Lv ctx (i+4)) 124 [.isl pf nn 3 (xs.map eR),.fn (.func g) [.agg [.ip pw row off]] []]=some (bV (xs.all p)):=by
 have h1:Aa (Lv ctx (i+3)) 173 [.isl pf nn 3 (xs.map eR),.fn (.func 176) [] [.ip pw [.fn (.func g) [.agg [.ip pw row off]] []] 0]]=some (bV (!(xs.all p))):=by
  rw [Oj (i+1) pf nn xs (fun x=>!p x) 176 [.ip pw [.fn (.func g) [.agg [.ip pw row off]] []] 0] (fun _ _ _ _ _ _=>rfl) (fun _=>rfl) (by simp [AU,V.scrub]) rfl (fun a ha=>bF i g pf pw row off a (p a) hc (hp a ha)) hx,GT]
 refine Ac rfl 0 (by rfl) ?_
 delta c124
 simp +contextual -dsimp -implicitDefEqProofs (maxSteps:=5000000) only [h1,Bool.not_not,go_sem,simprocAttr]
theorem VT (i g:Nat) (pf:Bool) (pw:Bool) (row:List V) (off:Nat) (a:Ao) (b:Bool) (hc:Dv tbl g []) (hp:Aa (Lv ctx i) g [.agg [.ip pw row off],eWr a]=some (bV b)):Aa (Lv ctx (i+1)) 179 [eWr a,.ip pw [.fn (.func g) [.agg [.ip pw row off]] []] 0]=some (bV (!b)):=by
 simp only [eWr] at hp ⊢
 refine Ac rfl 0 (by rfl) ?_
 delta c179
 simp +contextual -dsimp -implicitDefEqProofs (maxSteps:=5000000) only [hc,hp,go_sem,simprocAttr]
theorem VY (i g:Nat) (pf nn:Bool) (pw:Bool) (row:List V) (off:Nat) (xs:List Ao) (p:Ao→Bool) (hc:Dv tbl g []) (hx:xs.length≤BB) (hp:∀ a,a∈xs→Aa (Lv ctx i) g [.agg [.ip pw row off],eWr a]=some (bV (p a))):Aa (Lv ctx (i+4)) 126 [.isl pf nn 3 (xs.map eWr),.fn (.func g) [.agg [.ip pw row off]] []]=some (bV (xs.all p)):=by
 have h1:Aa (Lv ctx (i+3)) 178 [.isl pf nn 3 (xs.map eWr),.fn (.func 179) [] [.ip pw [.fn (.func g) [.agg [.ip pw row off]] []] 0]]=some (bV (!(xs.all p))):=by
  rw [Qg (i+1) pf nn xs (fun x=>!p x) 179 [.ip pw [.fn (.func g) [.agg [.ip pw row off]] []] 0] (fun _ _ _ _ _ _=>rfl) (fun _=>rfl) (by simp [AU,V.scrub]) rfl (fun a ha=>VT i g pf pw row off a (p a) hc (hp a ha)) hx,GT]
 refine Ac rfl 0 (by rfl) ?_
 delta c126
 simp +contextual -dsimp -implicitDefEqProofs (maxSteps:=5000000) only [h1,Bool.not_not,go_sem,simprocAttr]
theorem bG (i g:Nat) (pf:Bool) (pw:Bool) (row:List V) (off:Nat) (a:AI) (b:Bool) (hc:Dv tbl g []) (hp:Aa (Lv ctx i) g [.agg [.ip pw row off],eI a]=some (bV b)):Aa (Lv ctx (i+1)) 181 [eI a,.ip pw [.fn (.func g) [.agg [.ip pw row off]] []] 0]=some (bV (!b)):=by
 simp only [eI] at hp ⊢
 refine Ac rfl 0 (by rfl) ?_
 delta c181
 simp +contextual -dsimp -implicitDefEqProofs (maxSteps:=5000000) only [hc,hp,go_sem,simprocAttr]
theorem bK (i g:Nat) (pf nn:Bool) (pw:Bool) (row:List V) (off:Nat) (xs:List AI) (p:AI→Bool) (hc:Dv tbl g []) (hx:xs.length≤BB) (hp:∀ a,a∈xs→Aa (Lv ctx i) g [.agg [.ip pw row off],eI a]=some (bV (p a))):Aa (Lv ctx (i+4)) 128 [.isl pf nn 4 (xs.map eI),.fn (.func g) [.agg [.ip pw row off]] []]=some (bV (xs.all p)):=by
 have h1:Aa (Lv ctx (i+3)) 180 [.isl pf nn 4 (xs.map eI),.fn (.func 181) [] [.ip pw [.fn (.func g) [.agg [.ip pw row off]] []] 0]]=some (bV (!(xs.all p))):=by
  rw [gV (i+1) pf nn xs (fun x=>!p x) 181 [.ip pw [.fn (.func g) [.agg [.ip pw row off]] []] 0] (fun _ _ _ _ _ _=>rfl) (fun _=>rfl) (by simp [AU,V.scrub]) rfl (fun a ha=>bG i g pf pw row off a (p a) hc (hp a ha)) hx,GT]
 refine Ac rfl 0 (by rfl) ?_
 delta c128
 simp +contextual -dsimp -implicitDefEqProofs (maxSteps:=5000000) only [h1,Bool.not_not,go_sem,simprocAttr]
theorem VU (i g:Nat) (pf:Bool) (a:AY) (b:Bool) (hc:Dv tbl g []) (hp:Aa (Lv ctx i) g [eE a]=some (bV b)):Aa (Lv ctx (i+1)) 134 [eE a,.ip true [.fn (.func g) [] []] 0]=some (bV (!b)):=by
 simp only [eE] at hp ⊢
 refine Ac rfl 0 (by rfl) ?_
 delta c134
 simp +contextual -dsimp -implicitDefEqProofs (maxSteps:=5000000) only [hc,hp,go_sem,simprocAttr]
theorem VZ (i g:Nat) (pf nn:Bool) (xs:List AY) (p:AY→Bool) (hc:Dv tbl g []) (hx:xs.length≤BB) (hp:∀ a,a∈xs→Aa (Lv ctx i) g [eE a]=some (bV (p a))):Aa (Lv ctx (i+4)) 87 [.isl pf nn 4 (xs.map eE),.fn (.func g) [] []]=some (bV (xs.all p)):=by
 have h1:Aa (Lv ctx (i+3)) 133 [.isl pf nn 4 (xs.map eE),.fn (.func 134) [] [.ip true [.fn (.func g) [] []] 0]]=some (bV (!(xs.all p))):=by
  rw [bI (i+1) pf nn xs (fun x=>!p x) 134 [.ip true [.fn (.func g) [] []] 0] (fun _ _ _ _ _ _=>rfl) (fun _=>rfl) (by simp [AU,V.scrub]) rfl (fun a ha=>VU i g pf a (p a) hc (hp a ha)) hx,GT]
 refine Ac rfl 0 (by rfl) ?_
 delta c87
 simp +contextual -dsimp -implicitDefEqProofs (maxSteps:=5000000) only [h1,Bool.not_not,go_sem,simprocAttr]
@[go_sem] theorem qQ (i:Nat) (p a b c d na nb nc nd:Bool) (w0 w1 w2 w3:List Ap) (r:List V) (x y z:Int):Aa (Lv ctx (i+3)) 125 [.agg [.ip p (.isl a na 3 (w0.map eW)::.isl b nb 3 (w1.map eW)::.isl c nc 3 (w2.map eW)::.isl d nd 3 (w3.map eW)::r) 0],.agg [iV x,iV y,iV z]]=some (bV (Bb ⟨w0,w1,w2,w3⟩ x y)):=by
 refine Ac rfl 0 (by rfl) ?_
 delta c125
 simp +contextual -dsimp -implicitDefEqProofs (maxSteps:=5000000) only [go_sem,simprocAttr]
@[go_sem] theorem gK (i:Nat) (p a b c d na nb nc nd:Bool) (w0 w1 w2 w3:List Ap) (r:List V) (x y z:Int):Aa (Lv ctx (i+3)) 127 [.agg [.ip p (.isl a na 3 (w0.map eW)::.isl b nb 3 (w1.map eW)::.isl c nc 3 (w2.map eW)::.isl d nd 3 (w3.map eW)::r) 0],.agg [iV x,iV y,iV z]]=some (bV (Bb ⟨w0,w1,w2,w3⟩ x y)):=by
 refine Ac rfl 0 (by rfl) ?_
 delta c127
 simp +contextual -dsimp -implicitDefEqProofs (maxSteps:=5000000) only [go_sem,simprocAttr]
@[go_sem] theorem qR (i:Nat) (p a b c d na nb nc nd:Bool) (w0 w1 w2 w3:List Ap) (r:List V) (x y z t:Int):Aa (Lv ctx (i+3)) 129 [.agg [.ip p (.isl a na 3 (w0.map eW)::.isl b nb 3 (w1.map eW)::.isl c nc 3 (w2.map eW)::.isl d nd 3 (w3.map eW)::r) 0],.agg [iV x,iV y,iV z,iV t]]=some (bV (!(HJ x)||Bb ⟨w0,w1,w2,w3⟩ z t)):=by
 refine Ac rfl 0 (by rfl) ?_
 delta c129
 simp +contextual -dsimp -implicitDefEqProofs (maxSteps:=5000000) only [go_sem,simprocAttr]
@[go_sem] theorem qT (i:Nat) (a b c d:Int):Aa (Lv ctx (i+2)) 84 [.agg [iV a,iV b,iV c,iV d]]=some (bV (inR b 3)):=by
 refine Ac rfl 0 (by rfl) ?_
 delta c84
 simp +contextual -dsimp -implicitDefEqProofs (maxSteps:=5000000) only [go_sem,simprocAttr]
theorem Zb (i:Nat) (pf nn:Bool) (a b c:Int) (xs:List AI) (hx:xs.length≤BB):Aa (Lv ctx (i+5)) 113 [.agg [iV a,iV b,iV c,.isl pf nn 4 (xs.map eI)]]=some (bV (CT a b c xs)):=by
 have hp:=a2m (i+0) pf nn xs hx
 refine Ac rfl 0 (by rfl) ?_
 delta c113
 simp +contextual -dsimp -implicitDefEqProofs (maxSteps:=5000000) only [CT,hp,go_sem,simprocAttr]
end Ve
namespace Ve
open Go Ve.Ab
set_option maxHeartbeats 16000000
set_option maxRecDepth 10000
theorem bM {v a:Ao} (hv:AF v=true) (ha:AF a=true):decide (0≤Nu v a)=!decide (AH v.level v.index<AH a.level a.index):=by
 simp only [AF,inR,Bool.and_eq_true,decide_eq_true_eq] at hv ha
 have e1:=HQ (a:=v.level - a.level) (by omega) (by omega)
 have e2:=HQ (a:=v.index - a.index) (by omega) (by omega)
 simp only [wr] at e1 e2
 have h:(0≤Nu v a)↔¬ (AH v.level v.index<AH a.level a.index):=by
  simp only [Nu,e1,e2,AH]
  split<;>omega
 by_cases hp:AH v.level v.index<AH a.level a.index
 ·simp [hp,h]
 ·simp [hp,h]
theorem Uf (i k:Nat) (pf nn:Bool) (xs:List Ao) (hx:xs.length≤BB) (q:Out→St→Option Ans) (Q:V→Hp→Nat→Prop) (u:Dum (fun s q=>evC ctx (Lv ctx (i+2)) (Aa (Lv ctx (i+2))) k Gx s (Al [0,5,6,7] q))) (w:Dum q) (X1 X2:Prop)
  (hq1:∀ h n,Fin (q (.exit 0) ⟨Ae [0] [.isl pf nn 3 (xs.map eWr)],h,n⟩) Q=X1) (hq2:∀ h n,Fin (q .ret ⟨Ae [2] [bV false],h,n⟩) Q=X2):∀ (suf pre:List Ao) (kk:Nat) (h:Hp) (n:Nat),xs=pre++suf→suf.length<kk→(∀ v,pre.getLast?=some v→AF v=true) →
  GL 0 [0,5,6,7] (fun s q=>evC ctx (Lv ctx (i+2)) (Aa (Lv ctx (i+2))) k Gx s (Al [0,5,6,7] q)) q kk ⟨Ae [0,5,6,7] [.isl pf nn 3 (xs.map eWr),.isl pf nn 3 (xs.map eWr),iV xs.length,iV pre.length],h,n⟩ Q u w =
  Fw (Bd pre.getLast? suf) X1 X2
 | [],pre,kk,h,n,hxs,hk,hv=>by
  obtain ⟨kk,rfl⟩:∃ m,kk=m+1:=⟨kk - 1,by simp at hk;omega⟩
  have h1:decide ((pre.length:Int)<xs.length)=false:=by simp [hxs]
  have h2:∀ o,Bd o []=true:=fun o=>by cases o<;>rfl
  simp +contextual -dsimp -implicitDefEqProofs (maxSteps:=5000000) only [gLs,↓Ah (Gx.eq_1),h1,Bn,h2,hq1,go_sem,simprocAttr]
 | a::suf,pre,kk,h,n,hxs,hk,hv=>by
  obtain ⟨kk,rfl⟩:∃ m,kk=m+1:=⟨kk - 1,by simp at hk;omega⟩
  have hl:pre.length<xs.length:=by simp [hxs]
  have h2:((pre.length:Int)<xs.length)=True:=by simpa using hl
  have h3:(0≤(pre.length:Int))=True:=by simp
  have h4:=wrN pre.length (by omega)
  have hg:xs[pre.length]?=some a:=by simp [hxs]
  have ih:=fun h n hv=>Uf i k pf nn xs hx q Q u w X1 X2 hq1 hq2 suf (pre++[a]) kk h n (by simp [hxs]) (by simpa using hk) hv
  rw [Ag] at ih
  simp only [List.getLast?_append,List.getLast?_singleton,Option.some_or,Option.some.injEq,forall_eq'] at ih
  rcases List.eq_nil_or_concat pre with rfl | ⟨L,v,rfl⟩
  ·simp only [List.length_nil,Pl] at *
   cases c1:inR a.level 3
   ·simp +contextual -dsimp -implicitDefEqProofs (maxSteps:=5000000) only [gLs,↓Ah (Gx.eq_1),h2,h3,h4,hg,AB,hq2,Bd,AF,c1,List.getLast?_nil,go_sem,simprocAttr]
   ·cases c2:inR a.index 3
    ·simp +contextual -dsimp -implicitDefEqProofs (maxSteps:=5000000) only [gLs,↓Ah (Gx.eq_1),h2,h3,h4,hg,AB,hq2,Bd,AF,c1,c2,List.getLast?_nil,go_sem,simprocAttr]
    ·cases c3:inR a.val 255
     ·simp +contextual -dsimp -implicitDefEqProofs (maxSteps:=5000000) only [gLs,↓Ah (Gx.eq_1),h2,h3,h4,hg,AB,hq2,Bd,AF,c1,c2,c3,List.getLast?_nil,go_sem,simprocAttr]
     ·have ih':=fun h n=>ih h n (by simp only [AF,c1,c2,c3,Bool.and_self])
      simp only [Nat.zero_add,US] at ih'
      simp +contextual -dsimp -implicitDefEqProofs (maxSteps:=5000000) only [gLs,↓Ah (Gx.eq_1),h2,h3,h4,hg,Bd,AF,c1,c2,c3,ih',List.getLast?_nil,go_sem,simprocAttr]
  ·have hv1:AF v=true:=hv v (by simp)
   have hlen:(L.concat v).length=L.length+1:=by simp
   have hlast:(L.concat v).getLast?=some v:=by simp
   rw [hlen] at h2 h3 h4 hg ih
   rw [hlen,hlast]
   have h6:IntKind.wrap .i64 (((L.length+1:Nat):Int) - 1)=(L.length:Int):=by
    have:=HQ (a:=(L.length:Int)) (by omega) (by simp [hlen] at hl;simp only [BB] at hx;omega)
    simp only [wr] at this
    rw [show (((L.length+1:Nat):Int) - 1)=(L.length:Int) by omega,this]
   have h7:((L.length:Int)<xs.length)=True:=by simp only [eq_iff_iff,iff_true];rw [hlen] at hl;omega
   have h8:(0≤(L.length:Int))=True:=by simp
   have h9:decide (0<((L.length+1:Nat):Int))=true:=by simp only [decide_eq_true_eq];omega
   have hg':xs[L.length]?=some v:=by simp [hxs]
   cases c1:inR a.level 3
   ·simp +contextual -dsimp -implicitDefEqProofs (maxSteps:=5000000) only [gLs,↓Ah (Gx.eq_1),h2,h3,h4,hg,AB,hq2,Bd,AF,c1,go_sem,simprocAttr]
   ·cases c2:inR a.index 3
    ·simp +contextual -dsimp -implicitDefEqProofs (maxSteps:=5000000) only [gLs,↓Ah (Gx.eq_1),h2,h3,h4,hg,AB,hq2,Bd,AF,c1,c2,go_sem,simprocAttr]
    ·cases c3:inR a.val 255
     ·simp +contextual -dsimp -implicitDefEqProofs (maxSteps:=5000000) only [gLs,↓Ah (Gx.eq_1),h2,h3,h4,hg,AB,hq2,Bd,AF,c1,c2,c3,go_sem,simprocAttr]
     ·have ha1:AF a=true:=by simp only [AF,c1,c2,c3,Bool.and_self]
      have ih':=fun h n=>ih h n ha1
      have hr:=bM hv1 ha1
      cases c4:decide (AH v.level v.index<AH a.level a.index)<;>rw [c4] at hr <;>
       simp +contextual -dsimp -implicitDefEqProofs (maxSteps:=5000000) only [gLs,↓Ah (Gx.eq_1),h2,h3,h4,h6,h7,h8,h9,hg,hg',hr,Bd,ha1,c1,c2,c3,c4,ih',AB,hq2,go_sem,simprocAttr]
theorem Jd (i:Nat) (pf nn:Bool) (xs:List Ao) (hx:xs.length≤BB):Aa (Lv ctx (i+3)) 123 [.isl pf nn 3 (xs.map eWr)]=some (bV (AX xs)):=by
 refine Ac rfl (xs.length+1) (by rfl) ?_
 delta c123
 have h2:=fun q Q u w h1 h2=>Uf i (xs.length+1) pf nn xs hx q Q u w (Fin (q (.exit 0) ⟨Ae [0] [.isl pf nn 3 (xs.map eWr)],Af,0⟩) Q) (Fin (q .ret ⟨Ae [2] [bV false],Af,0⟩) Q) h1 h2 xs [] (xs.length+1) Af 0 rfl (by omega) (by simp)
 simp only [List.length_nil,Int.natCast_zero,List.getLast?_nil] at h2
 have h5:decide ((xs.length:Int)≤16)=decide (xs.length≤16):=by apply decide_eq_decide.mpr;omega
 simp +contextual -dsimp -implicitDefEqProofs (maxSteps:=5000000) only [AX,h5,go_sem,simprocAttr]
 refine Eq.mpr (h2 _ _ _ _ (fun h n=>by simp +contextual -dsimp -implicitDefEqProofs (maxSteps:=5000000) only [go_sem,simprocAttr]) (fun h n=>by simp +contextual -dsimp -implicitDefEqProofs (maxSteps:=5000000) only [go_sem,simprocAttr])) ?_
 cases hb:Bd none xs<;>simp +contextual -dsimp -implicitDefEqProofs (maxSteps:=5000000) only [Bn,AB,h5,go_sem,simprocAttr]
end Ve
namespace Ve
open Go Ve.Ab
set_option maxHeartbeats 16000000
set_option maxRecDepth 10000
attribute [go_sem] Bool.and_self
theorem SmS.p {s:Ai} (h:SmS s):s.prog.length≤BB:=by have:=h.bp;simp only [BB];omega
theorem SmS.r {s:Ai} (h:SmS s):s.reads.length≤BB:=by have:=h.br;simp only [BB];omega
theorem SmS.w {s:Ai} (h:SmS s):s.writes.length≤BB:=by have:=h.bw;simp only [BB];omega
theorem SmM.w0 {m:Ad} (h:SmM m):m.words.a0.length≤BB:=by have:=h.b0;simp only [BB];omega
theorem SmM.w1 {m:Ad} (h:SmM m):m.words.a1.length≤BB:=by have:=h.b1;simp only [BB];omega
theorem SmM.w2 {m:Ad} (h:SmM m):m.words.a2.length≤BB:=by have:=h.b2;simp only [BB];omega
theorem SmM.w3 {m:Ad} (h:SmM m):m.words.a3.length≤BB:=by have:=h.b3;simp only [BB];omega
theorem SmM.ss {m:Ad} (h:SmM m):m.sess.length≤BB:=by have:=h.bs;simp only [BB];omega
theorem SmM.tr {m:Ad} (h:SmM m):m.trace.length≤BB:=by have:=h.bt;simp only [BB];omega
theorem qP (i:Nat) (pw a b c d na nb nc nd pf:Bool) (w0 w1 w2 w3:List Ap) (r:List V) (s:Ai) (hs:SmS s):Aa (Lv ctx (i+9)) 86
  [.agg [.ip pw (.isl a na 3 (w0.map eW)::.isl b nb 3 (w1.map eW)::.isl c nc 3 (w2.map eW)::.isl d nd 3 (w3.map eW)::r) 0],eS pf s]=some (bV (BW ⟨w0,w1,w2,w3⟩ s)):=by
 have h1:Aa (Lv ctx (i+8)) 113 [.agg [iV s.id,iV s.label,iV s.clear,.isl pf false 4 (s.prog.map eI)]]=_:=Zb (i+3) pf false s.id s.label s.clear s.prog hs.p
 have h2:Aa (Lv ctx (i+8)) 122 [.isl pf false 3 (s.reads.map eR)]=_:=ND (i+4) pf false s.reads hs.r
 have h3:Aa (Lv ctx (i+8)) 123 [.isl pf false 3 (s.writes.map eWr)]=_:=Jd (i+5) pf false s.writes hs.w
 have h4:=bJ (i+4) 125 pf false pw (.isl a na 3 (w0.map eW)::.isl b nb 3 (w1.map eW)::.isl c nc 3 (w2.map eW)::.isl d nd 3 (w3.map eW)::r) 0 s.reads (fun x=>Bb ⟨w0,w1,w2,w3⟩ x.level x.index) (fun _ _ _ _ _ _=>rfl) hs.r
  (fun x _=>by simp only [eR];exact qQ (i+1) pw a b c d na nb nc nd w0 w1 w2 w3 r x.level x.index x.ver)
 have h5:=VY (i+4) 127 pf false pw (.isl a na 3 (w0.map eW)::.isl b nb 3 (w1.map eW)::.isl c nc 3 (w2.map eW)::.isl d nd 3 (w3.map eW)::r) 0 s.writes (fun x=>Bb ⟨w0,w1,w2,w3⟩ x.level x.index) (fun _ _ _ _ _ _=>rfl) hs.w
  (fun x _=>by simp only [eWr];exact gK (i+1) pw a b c d na nb nc nd w0 w1 w2 w3 r x.level x.index x.val)
 have h6:=bK (i+4) 129 pf false pw (.isl a na 3 (w0.map eW)::.isl b nb 3 (w1.map eW)::.isl c nc 3 (w2.map eW)::.isl d nd 3 (w3.map eW)::r) 0 s.prog (fun x=>!(HJ x.code)||Bb ⟨w0,w1,w2,w3⟩ x.b x.c) (fun _ _ _ _ _ _=>rfl) hs.p
  (fun x _=>by simp only [eI];exact qR (i+1) pw a b c d na nb nc nd w0 w1 w2 w3 r x.code x.a x.b x.c)
 simp only [Nat.add_assoc,Nat.reduceAdd,Nat.reduceSub] at h1 h2 h3 h4 h5 h6
 simp only [eS]
 refine Ac rfl 0 (by rfl) ?_
 delta c86
 simp +contextual -dsimp -implicitDefEqProofs (maxSteps:=5000000) only [h1,h2,h3,h4,h5,h6,go_sem,simprocAttr]
 simp only [BW,AJ,CC,Er,Dl,A4.all,DX]
theorem tO (e a b:Int):e<max2 a b↔e<a∨e<b:=by
 simp only [max2];split<;>omega
theorem dC (a b c d e:Int):(DX 65535 a b c d&&inR e 65535&&!decide (e<max2 (max2 (max2 a b) c) d))=(inR e 65535&&DX e a b c d):=by
 rw [Bool.eq_iff_iff]
 simp only [DX,inR,tO,Bool.and_eq_true,decide_eq_true_eq,Bool.not_eq_true',decide_eq_false_iff_not]
 omega
theorem xG (i k:Nat) (p pf:Bool) (m:Ad) (hx:m.sess.length≤BB) (q:Out→St→Option Ans) (Q:V→Hp→Nat→Prop) (u:Dum (fun s q=>evC ctx (Lv ctx i) (Aa (Lv ctx i)) k Pp s (Al [1,38,39] q))) (w:Dum q):∀ (suf pre:List Ai) (kk:Nat),m.sess=pre++suf→suf.length<kk →
  GL 0 [1,38,39] (fun s q=>evC ctx (Lv ctx i) (Aa (Lv ctx i)) k Pp s (Al [1,38,39] q)) q kk ⟨Ae [1,38,39] [.ip p (cM pf m) 0,iV m.sess.length,iV pre.length],Af,0⟩ Q u w =
  Fw (EY (pre.getLast?.map (·.id)) suf) (Fin (q (.exit 0) ⟨Ae [1] [.ip p (cM pf m) 0],Af,0⟩) Q) (Fin (q .ret ⟨Ae [2] [bV false],Af,0⟩) Q)
 | [],pre,kk,hxs,hk=>by
  obtain ⟨kk,rfl⟩:∃ m,kk=m+1:=⟨kk - 1,by simp at hk;omega⟩
  have h1:decide ((pre.length:Int)<m.sess.length)=false:=by simp [hxs]
  have h2:∀ o,EY o []=true:=fun o=>by cases o<;>rfl
  simp +contextual -dsimp -implicitDefEqProofs (maxSteps:=5000000) only [gLs,↓Ah (Pp.eq_1),h1,Bn,h2,go_sem,simprocAttr]
 | a::suf,pre,kk,hxs,hk=>by
  obtain ⟨kk,rfl⟩:∃ m,kk=m+1:=⟨kk - 1,by simp at hk;omega⟩
  have hl:pre.length<m.sess.length:=by simp [hxs]
  have h2:((pre.length:Int)<m.sess.length)=True:=by simpa using hl
  have h3:(0≤(pre.length:Int))=True:=by simp
  have h4:=wrN pre.length (by omega)
  have hg:m.sess[pre.length]?=some a:=by simp [hxs]
  have ih:=xG i k p pf m hx q Q u w suf (pre++[a]) kk (by simp [hxs]) (by simpa using hk)
  rw [Ag] at ih
  simp only [List.getLast?_append,List.getLast?_singleton,Option.some_or,Option.map_some] at ih
  rcases List.eq_nil_or_concat pre with rfl | ⟨L,v,rfl⟩
  ·simp only [List.length_nil,Pl] at *
   simp only [Nat.zero_add,US] at ih
   simp +contextual -dsimp -implicitDefEqProofs (maxSteps:=5000000) only [gLs,↓Ah (Pp.eq_1),h2,h3,h4,hg,ih,EY,List.getLast?_nil,go_sem,simprocAttr]
  ·have hlen:(L.concat v).length=L.length+1:=by simp
   have hlast:(L.concat v).getLast?=some v:=by simp
   rw [hlen] at h2 h3 h4 hg ih
   rw [hlen,hlast]
   have h6:IntKind.wrap .i64 (((L.length+1:Nat):Int) - 1)=(L.length:Int):=by
    have:=HQ (a:=(L.length:Int)) (by omega) (by simp [hlen] at hl;simp only [BB] at hx;omega)
    simp only [wr] at this
    rw [show (((L.length+1:Nat):Int) - 1)=(L.length:Int) by omega,this]
   have h7:((L.length:Int)<m.sess.length)=True:=by simp only [eq_iff_iff,iff_true];rw [hlen] at hl;omega
   have h8:(0≤(L.length:Int))=True:=by simp
   have h9:decide (0<((L.length+1:Nat):Int))=true:=by simp only [decide_eq_true_eq];omega
   have hg':m.sess[L.length]?=some v:=by simp [hxs]
   by_cases hlt:v.id<a.id
   ·have c1:decide (a.id≤v.id)=false:=by simp;omega
    have c2:decide (v.id<a.id)=true:=by simp;omega
    simp +contextual -dsimp -implicitDefEqProofs (maxSteps:=5000000) only [gLs,↓Ah (Pp.eq_1),h2,h3,h4,h6,h7,h8,h9,hg,hg',c1,c2,ih,EY,go_sem,simprocAttr]
   ·have c1:decide (a.id≤v.id)=true:=by simp;omega
    have c2:decide (v.id<a.id)=false:=by simp;omega
    simp +contextual -dsimp -implicitDefEqProofs (maxSteps:=5000000) only [gLs,↓Ah (Pp.eq_1),h2,h3,h4,h6,h7,h8,h9,hg,hg',c1,c2,EY,AB,go_sem,simprocAttr]
theorem Zc (i:Nat) (pf:Bool) (m:Ad) (hm:SmM m):Aa (Lv ctx (i+19)) 44 [eM pf m]=some (bV (CN m)):=by
 have h1:=RR (i+14) 86 pf false pf (cM pf m) 0 m.sess (BW m.words) (fun _ _ _ _ _ _=>rfl) hm.ss
  (fun s hs=>qP (i+5) pf pf pf pf pf false false false false pf m.words.a0 m.words.a1 m.words.a2 m.words.a3 _ s (hm.s s hs))
 have h2:=VZ (i+14) 84 pf false m.trace (fun e=>inR e.label 3) (fun _ _ _ _ _ _=>rfl) hm.tr (fun e _=>by simp only [eE];exact qT (i+12) e.id e.label e.kind e.val)
 simp only [Nat.add_assoc,Nat.reduceAdd] at h1 h2
 refine Ac rfl (m.sess.length+1) (by rfl) ?_
 delta c44
 have h3:=fun q Q u w=>xG (i+18) (m.sess.length+1) pf pf m hm.ss q Q u w m.sess [] (m.sess.length+1) rfl (by omega)
 simp only [List.length_nil,Int.natCast_zero,List.getLast?_nil,Option.map_none] at h3
 have h4:=dC m.clocks.a0 m.clocks.a1 m.clocks.a2 m.clocks.a3 m.ceil
 have h5:decide (4<(m.sess.length:Int))=!decide (m.sess.length≤4):=Pf _
 have h6:decide (512<(m.trace.length:Int))=!decide (m.trace.length≤512):=by
  by_cases h:m.trace.length≤512<;>simp [h]<;>omega
 have key:CN m=((AT m.words&&(DX 65535 m.clocks.a0 m.clocks.a1 m.clocks.a2 m.clocks.a3&&inR m.ceil 65535)&&!decide (m.ceil<max2 (max2 (max2 m.clocks.a0 m.clocks.a1) m.clocks.a2) m.clocks.a3)&&decide (m.sess.length≤4)&&decide (m.trace.length≤512))&&EY none m.sess&&m.sess.all (BW m.words)&&m.trace.all (fun e=>inR e.label 3)):=by
  rw [Bool.and_assoc (AT m.words) (DX 65535 m.clocks.a0 m.clocks.a1 m.clocks.a2 m.clocks.a3&&inR m.ceil 65535),h4]
  simp only [CN,A4.all,DX,Bool.and_assoc]
 have hb:∀ a b c d e:Bool,(!a||!b||c||!d||!e)=!(a&&b&&!c&&d&&e):=by decide
 have hb':=hb (AT m.words) (DX 65535 m.clocks.a0 m.clocks.a1 m.clocks.a2 m.clocks.a3&&inR m.ceil 65535) (decide (m.ceil<max2 (max2 (max2 m.clocks.a0 m.clocks.a1) m.clocks.a2) m.clocks.a3)) (decide (m.sess.length≤4)) (decide (m.trace.length≤512))
 cases hc:(AT m.words&&(DX 65535 m.clocks.a0 m.clocks.a1 m.clocks.a2 m.clocks.a3&&inR m.ceil 65535)&&!decide (m.ceil<max2 (max2 (max2 m.clocks.a0 m.clocks.a1) m.clocks.a2) m.clocks.a3)&&decide (m.sess.length≤4)&&decide (m.trace.length≤512))<;>rw [hc] at hb' key
 ·rw [key]
  simp +contextual -dsimp -implicitDefEqProofs (maxSteps:=5000000) only [h1,h2,h3,h5,h6,hb',go_sem,simprocAttr]
 ·rw [key]
  simp +contextual -dsimp -implicitDefEqProofs (maxSteps:=5000000) only [h1,h2,h5,h6,hb',go_sem,simprocAttr]
  refine Eq.mpr (h3 _ _ _ _) ?_
  cases hi:EY none m.sess<;>simp +contextual -dsimp -implicitDefEqProofs (maxSteps:=5000000) only [Bn,AB,h1,h2,go_sem,simprocAttr]
end Ve
namespace Ve
open Go Ve.Ab
set_option maxHeartbeats 16000000
set_option maxRecDepth 10000
@[go_sem] theorem bD (i:Nat) (pf:Bool) (s:Ai) (hs:SmS s):Aa (Lv ctx (i+2)) 91 [eS pf s]=some (oS s):=by
 have h1:((s.prog.length:Int)*32≤140737488355328)=True:=by simpa using hs.bp
 have h2:((s.reads.length:Int)*24≤140737488355328)=True:=by simpa using hs.br
 have h3:((s.writes.length:Int)*24≤140737488355328)=True:=by simpa using hs.bw
 simp only [eS]
 refine Ac rfl 0 (by rfl) ?_
 delta c91
 cases pf<;>simp +contextual -dsimp -implicitDefEqProofs (maxSteps:=5000000) only [h1,h2,h3,go_sem,simprocAttr]
@[go_sem] theorem s_arenaCopy (i:Nat) (p:Bool) (w0 w1 w2 w3:List Ap) (h0:(w0.length:Int)*24≤140737488355328) (h1:(w1.length:Int)*24≤140737488355328) (h2:(w2.length:Int)*24≤140737488355328) (h3:(w3.length:Int)*24≤140737488355328):Aa (Lv ctx (i+2)) 88 [.agg [eWs p w0,eWs p w1,eWs p w2,eWs p w3]]=some (.agg [oWs w0,oWs w1,oWs w2,oWs w3]):=by
 have e0:((w0.length:Int)*24≤140737488355328)=True:=by simpa using h0
 have e1:((w1.length:Int)*24≤140737488355328)=True:=by simpa using h1
 have e2:((w2.length:Int)*24≤140737488355328)=True:=by simpa using h2
 have e3:((w3.length:Int)*24≤140737488355328)=True:=by simpa using h3
 refine Ac rfl 5 (by rfl) ?_
 delta c88
 cases p<;>simp +contextual -dsimp -implicitDefEqProofs (maxSteps:=5000000) only [gLs,↓Ah (xN.eq_1),e0,e1,e2,e3,go_sem,simprocAttr]
end Ve
namespace Ve
open Go Ve.Ab
set_option maxHeartbeats 16000000
set_option maxRecDepth 10000
abbrev zM:V:=.agg [.own 3 [],.own 3 [],.own 3 [],.own 3 [],iV 0,iV 0,iV 0,iV 0,iV 0,.own 17 [],.own 4 []]
abbrev hC (m:Ad) (els:List V) (d6 d7:Bool):Hp :=
 pO (pO (pO (pO (pO (pO (pO (pO Af 0 (some ⟨11,[.agg [.sl 2,.sl 3,.sl 4,.sl 5,iV m.clocks.a0,iV m.clocks.a1,iV m.clocks.a2,iV m.clocks.a3,iV m.ceil,.sl 6,.sl 7]],true⟩))
  1 (some ⟨11,[zM],false⟩)) 2 (some ⟨3,m.words.a0.map eW,false⟩)) 3 (some ⟨3,m.words.a1.map eW,false⟩)) 4 (some ⟨3,m.words.a2.map eW,false⟩)) 5 (some ⟨3,m.words.a3.map eW,false⟩))
  6 (some ⟨17,els,d6⟩)) 7 (some ⟨4,m.trace.map eE,d7⟩)
theorem ZN (i k:Nat) (pf:Bool) (m:Ad) (hm:SmM m) (q:Out→St→Option Ans) (Q:V→Hp→Nat→Prop):∀ (suf pre:List Ai) (kk:Nat) (d6:Bool),m.sess=pre++suf→suf.length<kk+1 →
  Fin (evC ctx (Lv ctx (i+2)) (Aa (Lv ctx (i+2))) k Vh ⟨Ae [1,2,18,19,20] [.ptr 0 0 0,.ptr 1 0 0,.sl 6,iV m.sess.length,iV pre.length],hC m (pre.map oS++suf.map (eS pf)) d6 (!pf),8⟩
   (Al [1,2,18,19,20] fun o s=>BZ (Bp 8 [1,2,18,19,20] (fun s q=>evC ctx (Lv ctx (i+2)) (Aa (Lv ctx (i+2))) k Vh s (Al [1,2,18,19,20] q)) q kk) q o s)) Q =
  Fin (q (.exit 0) ⟨Ae [1,2] [.ptr 0 0 0,.ptr 1 0 0],hC m (m.sess.map oS) (if suf=[] then d6 else true) (!pf),8⟩) Q
 | [],pre,kk,d6,hxs,hk=>by
  have h1:decide ((pre.length:Int)<m.sess.length)=false:=by simp [hxs]
  have h2:m.sess=pre:=by simp [hxs]
  rw [Ah (Vh.eq_1),if_pos rfl]
  simp +contextual -dsimp -implicitDefEqProofs (maxSteps:=5000000) only [h1,go_sem,simprocAttr]
  rw [h2]
 | a::suf,pre,kk,d6,hxs,hk=>by
  obtain ⟨kk,rfl⟩:∃ m,kk=m+1:=⟨kk - 1,by simp at hk;omega⟩
  have hl:pre.length<m.sess.length:=by simp [hxs]
  have h2:((pre.length:Int)<m.sess.length)=True:=by simpa using hl
  have h3:(0≤(pre.length:Int))=True:=by simp
  have h4:=wrN pre.length (by have:=hm.ss;omega)
  have hg:(pre.map oS++(a::suf).map (eS pf))[pre.length]?=some (eS pf a):=by simp
  have hlen:(((pre.map oS++(a::suf).map (eS pf)).length:Nat):Int)=m.sess.length:=by simp [hxs]
  have hset:∀ x,(pre.map oS++(a::suf).map (eS pf)).set pre.length x=pre.map oS++x::suf.map (eS pf):=by intro x;simp [List.set_append]
  have hs:=bD (i+0) pf a (hm.s a (by simp [hxs]))
  have ih:=ZN i k pf m hm q Q suf (pre++[a]) kk true (by simp [hxs]) (by simpa using hk)
  simp only [Ag,List.map_append,List.map_cons,List.map_nil,List.append_assoc,List.cons_append,List.nil_append,oS,ite_self] at ih
  simp only [Nat.add_assoc,Nat.reduceAdd] at hs
  simp only [eS,List.map_cons] at hs hg hlen hset ⊢
  have hif:(if a::suf=[] then d6 else true)=true:=by simp
  rw [Ah (Vh.eq_1),hif]
  cases pf<;>cases d6<;>simp +contextual -dsimp -implicitDefEqProofs (maxSteps:=5000000) only [h2,h3,h4,hg,hlen,hset,hs,gLs,go_sem,simprocAttr]<;>exact ih
theorem Dz (i:Nat) (pf:Bool) (m:Ad) (hm:SmM m):Aa (Lv ctx (i+3)) 45 [eM pf m]=some (oM m):=by
 have b0:=hm.b0
 have b1:=hm.b1
 have b2:=hm.b2
 have b3:=hm.b3
 have e4:((m.sess.length:Int)*184≤140737488355328)=True:=by simpa using hm.bs
 have e5:((m.trace.length:Int)*32≤140737488355328)=True:=by simpa using hm.bt
 refine Ac rfl (m.sess.length+1) (by rfl) ?_
 delta c45
 have hl:=fun q Q d6=>ZN i (m.sess.length+1) pf m hm q Q m.sess [] m.sess.length d6 rfl (by omega)
 simp only [List.length_nil,Int.natCast_zero,List.map_nil,List.nil_append] at hl
 cases pf
 ·simp +contextual -dsimp -implicitDefEqProofs (maxSteps:=5000000) only [b0,b1,b2,b3,e4,e5,gLs,go_sem,simprocAttr]
  refine Eq.mpr (hl _ _ true) ?_
  generalize (if m.sess=[] then true else true)=dd
  cases dd<;>simp +contextual -dsimp -implicitDefEqProofs (maxSteps:=5000000) only [go_sem,simprocAttr]
 ·simp +contextual -dsimp -implicitDefEqProofs (maxSteps:=5000000) only [b0,b1,b2,b3,e4,e5,gLs,go_sem,simprocAttr]
  refine Eq.mpr (hl _ _ false) ?_
  generalize (if m.sess=[] then false else true)=dd
  cases dd<;>simp +contextual -dsimp -implicitDefEqProofs (maxSteps:=5000000) only [go_sem,simprocAttr]
end Ve
namespace Ve
open Go Ve.Ab
set_option maxHeartbeats 16000000
set_option maxRecDepth 10000
theorem HT (i:Nat) (p pf:Bool) (m:Ad) (at_:Int) (hm:SmM m):Aa (Lv ctx (i+20)) 114 [.ip p (cM pf m) 0,iV at_]=some (bV (BT m at_)):=by
 have h1:=Zc i pf m hm
 refine Ac rfl 0 (by rfl) ?_
 delta c114
 simp +contextual -dsimp -implicitDefEqProofs (maxSteps:=5000000) only [h1,BT,go_sem,simprocAttr]
abbrev hF (m:Ad) (a1 a2 a3 a4:List V):Hp :=
 pO (pO (pO (pO (pO (pO (pO (pO Af 0 (some ⟨11,[zM],false⟩)) 1 (some ⟨3,a1,false⟩)) 2 (some ⟨3,a2,false⟩)) 3 (some ⟨3,a3,false⟩)) 4 (some ⟨3,a4,false⟩)) 5 (some ⟨17,m.sess.map oS,false⟩)) 6 (some ⟨4,m.trace.map eE,false⟩))
  7 (some ⟨11,[.agg [.sl 1,.sl 2,.sl 3,.sl 4,iV m.clocks.a0,iV m.clocks.a1,iV m.clocks.a2,iV m.clocks.a3,iV m.ceil,.sl 5,.sl 6]],true⟩)
theorem ZR (i k:Nat) (m:Ad) (hm:SmM m) (id c:Int) (hc:IntKind.wrap .i64 (id+1)=c) (q:Out→St→Option Ans) (Q:V→Hp→Nat→Prop):∀ (suf pre:List Ap) (kk:Nat),m.words.a0=pre++suf→suf.length<kk+1 →
  Fin (evC ctx (Lv ctx i) (Aa (Lv ctx i)) k De ⟨Ae [0,1,4,5] [.ptr 7 0 0,iV id,iV 0,iV pre.length],hF m ((pre.map (As c)).map eW++suf.map eW) (m.words.a1.map eW) (m.words.a2.map eW) (m.words.a3.map eW),8⟩ (Al [0,1,4,5] fun o s=>BZ (Bp 8 [0,1,4,5] (fun s q=>evC ctx (Lv ctx i) (Aa (Lv ctx i)) k De s (Al [0,1,4,5] q)) q kk) q o s)) Q=Fin (q (.exit 0) ⟨Ae [0,1,4] [.ptr 7 0 0,iV id,iV 0],hF m ((m.words.a0.map (As c)).map eW) (m.words.a1.map eW) (m.words.a2.map eW) (m.words.a3.map eW),8⟩) Q
 | [],pre,kk,hxs,hk=>by
  have h1:decide ((pre.length:Int)<(pre.length:Int))=false:=by simp
  have h2:m.words.a0=pre:=by simp [hxs]
  rw [Ah (De.eq_1)]
  simp only [List.map_nil,List.append_nil]
  rw [h2]
  simp +contextual -dsimp -implicitDefEqProofs (maxSteps:=5000000) only [h1,List.length_map,go_sem,simprocAttr]
  all_goals (try rfl)
 | a::suf,pre,kk,hxs,hk=>by
  obtain ⟨kk,rfl⟩:∃ m,kk=m+1:=⟨kk - 1,by simp at hk;omega⟩
  have hl:pre.length<((pre.map (As c)).map eW++(a::suf).map eW).length:=by simp
  have h2:((pre.length:Int)<((((pre.map (As c)).map eW++(a::suf).map eW).length:Nat):Int))=True:=by simp;omega
  have h3:(0≤(pre.length:Int))=True:=by simp
  have h4:=wrN pre.length (by have:=hm.w0;rw [hxs] at this;simp at this;omega)
  have hg:((pre.map (As c)).map eW++(a::suf).map eW)[pre.length]?=some (eW a):=by simp
  have hset:∀ x,((pre.map (As c)).map eW++(a::suf).map eW).set pre.length x=(pre.map (As c)).map eW++x::suf.map eW:=by intro x;simp [List.set_append]
  have ih:=ZR i k m hm id c hc q Q suf (pre++[a]) kk (by simp [hxs]) (by simpa using hk)
  simp only [Ag,List.map_append,List.map_cons,List.map_nil,List.append_assoc,List.cons_append,List.nil_append] at ih
  by_cases hlk:a.lock=c
  ·have h5:decide (a.lock=c)=true:=by simpa using hlk
   simp only [As,hlk,if_true,eW] at ih
   simp only [eW,List.map_cons,As] at h2 hg hset ⊢
   rw [Ah (De.eq_1)]
   simp +contextual -dsimp -implicitDefEqProofs (maxSteps:=5000000) only [h2,h3,h4,hg,hset,hc,h5,gLs,go_sem,simprocAttr]
   exact ih
  ·have h5:decide (a.lock=c)=false:=by simpa using hlk
   simp only [As,hlk,if_false,eW] at ih
   simp only [eW,List.map_cons,As] at h2 hg hset ⊢
   rw [Ah (De.eq_1)]
   simp +contextual -dsimp -implicitDefEqProofs (maxSteps:=5000000) only [h2,h3,h4,hg,hset,hc,h5,gLs,go_sem,simprocAttr]
   exact ih
theorem ZQ (i k:Nat) (m:Ad) (hm:SmM m) (id c:Int) (hc:IntKind.wrap .i64 (id+1)=c) (q:Out→St→Option Ans) (Q:V→Hp→Nat→Prop):∀ (suf pre:List Ap) (kk:Nat),m.words.a1=pre++suf→suf.length<kk+1 →
  Fin (evC ctx (Lv ctx i) (Aa (Lv ctx i)) k De ⟨Ae [0,1,4,5] [.ptr 7 0 0,iV id,iV 1,iV pre.length],hF m ((m.words.a0.map (As c)).map eW) ((pre.map (As c)).map eW++suf.map eW) (m.words.a2.map eW) (m.words.a3.map eW),8⟩ (Al [0,1,4,5] fun o s=>BZ (Bp 8 [0,1,4,5] (fun s q=>evC ctx (Lv ctx i) (Aa (Lv ctx i)) k De s (Al [0,1,4,5] q)) q kk) q o s)) Q=Fin (q (.exit 0) ⟨Ae [0,1,4] [.ptr 7 0 0,iV id,iV 1],hF m ((m.words.a0.map (As c)).map eW) ((m.words.a1.map (As c)).map eW) (m.words.a2.map eW) (m.words.a3.map eW),8⟩) Q
 | [],pre,kk,hxs,hk=>by
  have h1:decide ((pre.length:Int)<(pre.length:Int))=false:=by simp
  have h2:m.words.a1=pre:=by simp [hxs]
  rw [Ah (De.eq_1)]
  simp only [List.map_nil,List.append_nil]
  rw [h2]
  simp +contextual -dsimp -implicitDefEqProofs (maxSteps:=5000000) only [h1,List.length_map,go_sem,simprocAttr]
  all_goals (try rfl)
 | a::suf,pre,kk,hxs,hk=>by
  obtain ⟨kk,rfl⟩:∃ m,kk=m+1:=⟨kk - 1,by simp at hk;omega⟩
  have hl:pre.length<((pre.map (As c)).map eW++(a::suf).map eW).length:=by simp
  have h2:((pre.length:Int)<((((pre.map (As c)).map eW++(a::suf).map eW).length:Nat):Int))=True:=by simp;omega
  have h3:(0≤(pre.length:Int))=True:=by simp
  have h4:=wrN pre.length (by have:=hm.w1;rw [hxs] at this;simp at this;omega)
  have hg:((pre.map (As c)).map eW++(a::suf).map eW)[pre.length]?=some (eW a):=by simp
  have hset:∀ x,((pre.map (As c)).map eW++(a::suf).map eW).set pre.length x=(pre.map (As c)).map eW++x::suf.map eW:=by intro x;simp [List.set_append]
  have ih:=ZQ i k m hm id c hc q Q suf (pre++[a]) kk (by simp [hxs]) (by simpa using hk)
  simp only [Ag,List.map_append,List.map_cons,List.map_nil,List.append_assoc,List.cons_append,List.nil_append] at ih
  by_cases hlk:a.lock=c
  ·have h5:decide (a.lock=c)=true:=by simpa using hlk
   simp only [As,hlk,if_true,eW] at ih
   simp only [eW,List.map_cons,As] at h2 hg hset ⊢
   rw [Ah (De.eq_1)]
   simp +contextual -dsimp -implicitDefEqProofs (maxSteps:=5000000) only [h2,h3,h4,hg,hset,hc,h5,gLs,go_sem,simprocAttr]
   exact ih
  ·have h5:decide (a.lock=c)=false:=by simpa using hlk
   simp only [As,hlk,if_false,eW] at ih
   simp only [eW,List.map_cons,As] at h2 hg hset ⊢
   rw [Ah (De.eq_1)]
   simp +contextual -dsimp -implicitDefEqProofs (maxSteps:=5000000) only [h2,h3,h4,hg,hset,hc,h5,gLs,go_sem,simprocAttr]
   exact ih
theorem ZP (i k:Nat) (m:Ad) (hm:SmM m) (id c:Int) (hc:IntKind.wrap .i64 (id+1)=c) (q:Out→St→Option Ans) (Q:V→Hp→Nat→Prop):∀ (suf pre:List Ap) (kk:Nat),m.words.a2=pre++suf→suf.length<kk+1 →
  Fin (evC ctx (Lv ctx i) (Aa (Lv ctx i)) k De ⟨Ae [0,1,4,5] [.ptr 7 0 0,iV id,iV 2,iV pre.length],hF m ((m.words.a0.map (As c)).map eW) ((m.words.a1.map (As c)).map eW) ((pre.map (As c)).map eW++suf.map eW) (m.words.a3.map eW),8⟩ (Al [0,1,4,5] fun o s=>BZ (Bp 8 [0,1,4,5] (fun s q=>evC ctx (Lv ctx i) (Aa (Lv ctx i)) k De s (Al [0,1,4,5] q)) q kk) q o s)) Q=Fin (q (.exit 0) ⟨Ae [0,1,4] [.ptr 7 0 0,iV id,iV 2],hF m ((m.words.a0.map (As c)).map eW) ((m.words.a1.map (As c)).map eW) ((m.words.a2.map (As c)).map eW) (m.words.a3.map eW),8⟩) Q
 | [],pre,kk,hxs,hk=>by
  have h1:decide ((pre.length:Int)<(pre.length:Int))=false:=by simp
  have h2:m.words.a2=pre:=by simp [hxs]
  rw [Ah (De.eq_1)]
  simp only [List.map_nil,List.append_nil]
  rw [h2]
  simp +contextual -dsimp -implicitDefEqProofs (maxSteps:=5000000) only [h1,List.length_map,go_sem,simprocAttr]
  all_goals (try rfl)
 | a::suf,pre,kk,hxs,hk=>by
  obtain ⟨kk,rfl⟩:∃ m,kk=m+1:=⟨kk - 1,by simp at hk;omega⟩
  have hl:pre.length<((pre.map (As c)).map eW++(a::suf).map eW).length:=by simp
  have h2:((pre.length:Int)<((((pre.map (As c)).map eW++(a::suf).map eW).length:Nat):Int))=True:=by simp;omega
  have h3:(0≤(pre.length:Int))=True:=by simp
  have h4:=wrN pre.length (by have:=hm.w2;rw [hxs] at this;simp at this;omega)
  have hg:((pre.map (As c)).map eW++(a::suf).map eW)[pre.length]?=some (eW a):=by simp
  have hset:∀ x,((pre.map (As c)).map eW++(a::suf).map eW).set pre.length x=(pre.map (As c)).map eW++x::suf.map eW:=by intro x;simp [List.set_append]
  have ih:=ZP i k m hm id c hc q Q suf (pre++[a]) kk (by simp [hxs]) (by simpa using hk)
  simp only [Ag,List.map_append,List.map_cons,List.map_nil,List.append_assoc,List.cons_append,List.nil_append] at ih
  by_cases hlk:a.lock=c
  ·have h5:decide (a.lock=c)=true:=by simpa using hlk
   simp only [As,hlk,if_true,eW] at ih
   simp only [eW,List.map_cons,As] at h2 hg hset ⊢
   rw [Ah (De.eq_1)]
   simp +contextual -dsimp -implicitDefEqProofs (maxSteps:=5000000) only [h2,h3,h4,hg,hset,hc,h5,gLs,go_sem,simprocAttr]
   exact ih
  ·have h5:decide (a.lock=c)=false:=by simpa using hlk
   simp only [As,hlk,if_false,eW] at ih
   simp only [eW,List.map_cons,As] at h2 hg hset ⊢
   rw [Ah (De.eq_1)]
   simp +contextual -dsimp -implicitDefEqProofs (maxSteps:=5000000) only [h2,h3,h4,hg,hset,hc,h5,gLs,go_sem,simprocAttr]
   exact ih
theorem ZO (i k:Nat) (m:Ad) (hm:SmM m) (id c:Int) (hc:IntKind.wrap .i64 (id+1)=c) (q:Out→St→Option Ans) (Q:V→Hp→Nat→Prop):∀ (suf pre:List Ap) (kk:Nat),m.words.a3=pre++suf→suf.length<kk+1 →
  Fin (evC ctx (Lv ctx i) (Aa (Lv ctx i)) k De ⟨Ae [0,1,4,5] [.ptr 7 0 0,iV id,iV 3,iV pre.length],hF m ((m.words.a0.map (As c)).map eW) ((m.words.a1.map (As c)).map eW) ((m.words.a2.map (As c)).map eW) ((pre.map (As c)).map eW++suf.map eW),8⟩ (Al [0,1,4,5] fun o s=>BZ (Bp 8 [0,1,4,5] (fun s q=>evC ctx (Lv ctx i) (Aa (Lv ctx i)) k De s (Al [0,1,4,5] q)) q kk) q o s)) Q=Fin (q (.exit 0) ⟨Ae [0,1,4] [.ptr 7 0 0,iV id,iV 3],hF m ((m.words.a0.map (As c)).map eW) ((m.words.a1.map (As c)).map eW) ((m.words.a2.map (As c)).map eW) ((m.words.a3.map (As c)).map eW),8⟩) Q
 | [],pre,kk,hxs,hk=>by
  have h1:decide ((pre.length:Int)<(pre.length:Int))=false:=by simp
  have h2:m.words.a3=pre:=by simp [hxs]
  rw [Ah (De.eq_1)]
  simp only [List.map_nil,List.append_nil]
  rw [h2]
  simp +contextual -dsimp -implicitDefEqProofs (maxSteps:=5000000) only [h1,List.length_map,go_sem,simprocAttr]
  all_goals (try rfl)
 | a::suf,pre,kk,hxs,hk=>by
  obtain ⟨kk,rfl⟩:∃ m,kk=m+1:=⟨kk - 1,by simp at hk;omega⟩
  have hl:pre.length<((pre.map (As c)).map eW++(a::suf).map eW).length:=by simp
  have h2:((pre.length:Int)<((((pre.map (As c)).map eW++(a::suf).map eW).length:Nat):Int))=True:=by simp;omega
  have h3:(0≤(pre.length:Int))=True:=by simp
  have h4:=wrN pre.length (by have:=hm.w3;rw [hxs] at this;simp at this;omega)
  have hg:((pre.map (As c)).map eW++(a::suf).map eW)[pre.length]?=some (eW a):=by simp
  have hset:∀ x,((pre.map (As c)).map eW++(a::suf).map eW).set pre.length x=(pre.map (As c)).map eW++x::suf.map eW:=by intro x;simp [List.set_append]
  have ih:=ZO i k m hm id c hc q Q suf (pre++[a]) kk (by simp [hxs]) (by simpa using hk)
  simp only [Ag,List.map_append,List.map_cons,List.map_nil,List.append_assoc,List.cons_append,List.nil_append] at ih
  by_cases hlk:a.lock=c
  ·have h5:decide (a.lock=c)=true:=by simpa using hlk
   simp only [As,hlk,if_true,eW] at ih
   simp only [eW,List.map_cons,As] at h2 hg hset ⊢
   rw [Ah (De.eq_1)]
   simp +contextual -dsimp -implicitDefEqProofs (maxSteps:=5000000) only [h2,h3,h4,hg,hset,hc,h5,gLs,go_sem,simprocAttr]
   exact ih
  ·have h5:decide (a.lock=c)=false:=by simpa using hlk
   simp only [As,hlk,if_false,eW] at ih
   simp only [eW,List.map_cons,As] at h2 hg hset ⊢
   rw [Ah (De.eq_1)]
   simp +contextual -dsimp -implicitDefEqProofs (maxSteps:=5000000) only [h2,h3,h4,hg,hset,hc,h5,gLs,go_sem,simprocAttr]
   exact ih
def WD:IR→IR
 | .seq _ (.seq _ r)=>r
 | x=>x
theorem dI (a b r:IR):WD (.seq a (.seq b r))=r:=(rfl)
theorem dS (C:Ctx) (O:Orc) (P:FuncId→List V→Option V) (k:Nat) (s:St) (q:Out→St→Option Ans) (Q:V→Hp→Nat→Prop):Fin (FM C O P k KQ 0 s q) Q=Fin (evC C O P k (WD KQ) s q) Q:=(rfl)
theorem Uz (thr:Nat) (live:List Nat) (f:Nat→St→(Out→St→Option Ans)→Option Ans) (q:Out→St→Option Ans) (k:Nat) (s:St) (Q:V→Hp→Nat→Prop):Fin (EO thr live (PT KQ) f q (k+1) 0 s) Q =
  GN thr live s (fun s=>f 0 s (Kx (fun l s=>EO thr live (PT KQ) f q k l (Fz live s)) q)) Q ⟨⟩:=(rfl)
theorem lU (C:Ctx) (O:Orc) (P:FuncId→List V→Option V) (k:Nat) (live:List Nat) (b:IR) (s:St) (q:Out→St→Option Ans) (Q:V→Hp→Nat→Prop):Fin (evC C O P k (.scope live b) s q) Q =
  Fin (evC C O P k b s (Kx (fun l s'=>EO s.n live (PT b) (fun l s q=>FM C O P k b l s q) q k l (Fz live s')) q)) Q:=(rfl)
abbrev hF0 (m:Ad):Hp:=hF m (m.words.a0.map eW) (m.words.a1.map eW) (m.words.a2.map eW) (m.words.a3.map eW)
abbrev hF4 (c:Int) (m:Ad):Hp:=hF m ((m.words.a0.map (As c)).map eW) ((m.words.a1.map (As c)).map eW) ((m.words.a2.map (As c)).map eW) ((m.words.a3.map (As c)).map eW)
theorem a2u (i:Nat) (m:Ad) (hm:SmM m) (id c:Int) (hc:IntKind.wrap .i64 (id+1)=c):Lv ctx (i+1) 231 [.ptr 7 0 0,iV id] (hF0 m) 8=some (.tup [],hF4 c m,8):=by
 refine ON rfl (m.words.a0.length+m.words.a1.length+m.words.a2.length+m.words.a3.length+5) ?_
 have h0:=fun q Q=>ZR i (m.words.a0.length+m.words.a1.length+m.words.a2.length+m.words.a3.length+5) m hm id c hc q Q m.words.a0 [] (m.words.a0.length+m.words.a1.length+m.words.a2.length+m.words.a3.length+4) rfl (by omega)
 have h1:=fun q Q=>ZQ i (m.words.a0.length+m.words.a1.length+m.words.a2.length+m.words.a3.length+5) m hm id c hc q Q m.words.a1 [] (m.words.a0.length+m.words.a1.length+m.words.a2.length+m.words.a3.length+4) rfl (by omega)
 have h2:=fun q Q=>ZP i (m.words.a0.length+m.words.a1.length+m.words.a2.length+m.words.a3.length+5) m hm id c hc q Q m.words.a2 [] (m.words.a0.length+m.words.a1.length+m.words.a2.length+m.words.a3.length+4) rfl (by omega)
 have h3:=fun q Q=>ZO i (m.words.a0.length+m.words.a1.length+m.words.a2.length+m.words.a3.length+5) m hm id c hc q Q m.words.a3 [] (m.words.a0.length+m.words.a1.length+m.words.a2.length+m.words.a3.length+4) rfl (by omega)
 simp only [List.map_nil,List.nil_append,List.length_nil,Pl] at h0 h1 h2 h3
 delta c231
 simp +contextual -dsimp -implicitDefEqProofs (maxSteps:=5000000) only [↓lU,↓Uz,↓dS,dI,↓Ah (KQ.eq_1),↓Ah (congrArg WD KQ.eq_1),gLs,↓h0,↓h1,↓h2,↓h3,h0,h1,h2,h3,go_sem,simprocAttr]
end Ve
