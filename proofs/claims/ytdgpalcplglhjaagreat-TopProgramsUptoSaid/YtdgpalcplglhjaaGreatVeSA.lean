/- What the small functions answer. -/
import Derived.Test.YtdgpalcplglhjaaGreatVeT
import Derived.Test.YtdgpalcplglhjaaGreatVeM
set_option linter.all false
set_option linter.unusedSectionVars false
namespace Ve
open Go Ve.Ab
set_option maxHeartbeats 16000000
set_option maxRecDepth 10000
theorem vN {L:Lay} {t:TypeId} {a b:Int}:BJ L .or t (iV a) (iV b)=some (iV (orI a b)):=rfl
theorem oI {L:Lay} {t:TypeId} {a b:Int}:BJ L .and t (iV a) (iV b)=some (iV (Ia a b)):=rfl
theorem nW {L:Lay} {t:TypeId} {a b:Int}:BJ L .xor t (iV a) (iV b)=some (iV (PD a b)):=rfl
attribute [go_sem] vN oI nW
@[go_sem] theorem s_in (i:Nat) (a b:Int):Aa (Lv ctx (i+1)) 89 [iV a,iV b]=some (bV (inR a b)):=by
 refine Ac rfl 0 (by rfl) ?_
 delta c89
 simp +contextual -dsimp -implicitDefEqProofs (maxSteps:=5000000) only [go_sem,simprocAttr]
 all_goals ((try simp_all [inR])<;>(try omega))
@[go_sem] theorem s_value (i:Nat) (a:Int):Aa (Lv ctx (i+2)) 52 [iV a]=some (bV (inR a 255)):=by
 refine Ac rfl 0 (by rfl) ?_
 delta c52
 simp +contextual -dsimp -implicitDefEqProofs (maxSteps:=5000000) only [go_sem,simprocAttr]
@[go_sem] theorem s_clock (i:Nat) (a:Int):Aa (Lv ctx (i+2)) 144 [iV a]=some (bV (inR a 65535)):=by
 refine Ac rfl 0 (by rfl) ?_
 delta c144
 simp +contextual -dsimp -implicitDefEqProofs (maxSteps:=5000000) only [go_sem,simprocAttr]
@[go_sem] theorem s_id (i:Nat) (a:Int):Aa (Lv ctx (i+2)) 47 [iV a]=some (bV (inR a 254)):=by
 refine Ac rfl 0 (by rfl) ?_
 delta c47
 simp +contextual -dsimp -implicitDefEqProofs (maxSteps:=5000000) only [go_sem,simprocAttr]
@[go_sem] theorem s_wordMay (i:Nat) (a b c:Int):Aa (Lv ctx (i+3)) 142 [.agg [iV a,iV b,iV c]]=some (bV (AK ⟨a,b,c⟩)):=by
 refine Ac rfl 0 (by rfl) ?_
 delta c142
 simp +contextual -dsimp -implicitDefEqProofs (maxSteps:=5000000) only [go_sem,simprocAttr]
 all_goals ((try simp_all [AK])<;>(try omega))
@[go_sem] theorem s_upTo11 (i:Nat) (a b c:Int):Aa (Lv ctx (i+1)) 100 [iV a,iV b,iV c]=some (bV (decide (b≤a)&&decide (a≤c))):=by
 refine Ac rfl 0 (by rfl) ?_
 delta c100
 simp +contextual -dsimp -implicitDefEqProofs (maxSteps:=5000000) only [go_sem,simprocAttr]
 all_goals ((try simp_all [inR])<;>(try omega))
@[go_sem] theorem s_upTo1 (i:Nat) (a b c:Int):Aa (Lv ctx (i+1)) 134 [iV a,iV b,iV c]=some (bV (decide (b≤a)&&decide (a≤c))):=by
 refine Ac rfl 0 (by rfl) ?_
 delta c134
 simp +contextual -dsimp -implicitDefEqProofs (maxSteps:=5000000) only [go_sem,simprocAttr]
 all_goals ((try simp_all [inR])<;>(try omega))
@[go_sem] theorem s_rValue (i:Nat) (a:Int):Aa (Lv ctx (i+2)) 109 [iV a]=some (bV (inR a 255)):=by
 refine Ac rfl 0 (by rfl) ?_
 delta c109
 simp +contextual -dsimp -implicitDefEqProofs (maxSteps:=5000000) only [go_sem,simprocAttr]
 all_goals ((try simp_all [inR])<;>(try omega))
@[go_sem] theorem s_rClock (i:Nat) (a:Int):Aa (Lv ctx (i+2)) 99 [iV a]=some (bV (inR a 65535)):=by
 refine Ac rfl 0 (by rfl) ?_
 delta c99
 simp +contextual -dsimp -implicitDefEqProofs (maxSteps:=5000000) only [go_sem,simprocAttr]
 all_goals ((try simp_all [inR])<;>(try omega))
@[go_sem] theorem s_rId (i:Nat) (a:Int):Aa (Lv ctx (i+2)) 113 [iV a]=some (bV (inR a 254)):=by
 refine Ac rfl 0 (by rfl) ?_
 delta c113
 simp +contextual -dsimp -implicitDefEqProofs (maxSteps:=5000000) only [go_sem,simprocAttr]
 all_goals ((try simp_all [inR])<;>(try omega))
@[go_sem] theorem s_rLabel (i:Nat) (a:Int):Aa (Lv ctx (i+2)) 102 [iV a]=some (bV (inR a 3)):=by
 refine Ac rfl 0 (by rfl) ?_
 delta c102
 simp +contextual -dsimp -implicitDefEqProofs (maxSteps:=5000000) only [go_sem,simprocAttr]
 all_goals ((try simp_all [inR])<;>(try omega))
@[go_sem] theorem s_rReg (i:Nat) (a:Int):Aa (Lv ctx (i+2)) 138 [iV a]=some (bV (inR a 3)):=by
 refine Ac rfl 0 (by rfl) ?_
 delta c138
 simp +contextual -dsimp -implicitDefEqProofs (maxSteps:=5000000) only [go_sem,simprocAttr]
 all_goals ((try simp_all [inR])<;>(try omega))
theorem lt4 (a:Int):decide (a<4)=decide (a≤3):=by
 apply decide_eq_decide.mpr;omega
@[go_sem] theorem s_label (i:Nat) (a:Int):Aa (Lv ctx (i+1)) 48 [iV a]=some (bV (inR a 3)):=by
 refine Ac rfl 0 (by rfl) ?_
 delta c48
 simp +contextual -dsimp -implicitDefEqProofs (maxSteps:=5000000) only [go_sem,simprocAttr]
 all_goals ((try simp_all [inR,lt4])<;>(try omega))
@[go_sem] theorem s_reg (i:Nat) (a:Int):Aa (Lv ctx (i+1)) 132 [iV a]=some (bV (inR a 3)):=by
 refine Ac rfl 0 (by rfl) ?_
 delta c132
 simp +contextual -dsimp -implicitDefEqProofs (maxSteps:=5000000) only [go_sem,simprocAttr]
 all_goals ((try simp_all [inR,lt4])<;>(try omega))
@[go_sem] theorem s_index (i:Nat) (a:Int):Aa (Lv ctx (i+1)) 174 [iV a]=some (bV (inR a 3)):=by
 refine Ac rfl 0 (by rfl) ?_
 delta c174
 simp +contextual -dsimp -implicitDefEqProofs (maxSteps:=5000000) only [go_sem,simprocAttr]
 all_goals ((try simp_all [inR,lt4])<;>(try omega))
@[go_sem] theorem s_machin (i:Nat) (a b:Int):Aa (Lv ctx (i+1)) 155 [iV a,iV b]=some (bV (inR a b)):=by
 refine Ac rfl 0 (by rfl) ?_
 delta c155
 simp +contextual -dsimp -implicitDefEqProofs (maxSteps:=5000000) only [go_sem,simprocAttr]
 all_goals ((try simp_all [inR])<;>(try omega))
@[go_sem] theorem s_under (i:Nat) (a b:Int):Aa (Lv ctx (i+1)) 22 [iV a,iV b]=some (bV (AG a b)):=by
 refine Ac rfl 0 (by rfl) ?_
 delta c22
 simp +contextual -dsimp -implicitDefEqProofs (maxSteps:=5000000) only [go_sem,simprocAttr]
 all_goals ((try simp_all [AG])<;>(try omega))
@[go_sem] theorem s_rUnder (i:Nat) (a b:Int):Aa (Lv ctx (i+1)) 103 [iV a,iV b]=some (bV (AG a b)):=by
 refine Ac rfl 0 (by rfl) ?_
 delta c103
 simp +contextual -dsimp -implicitDefEqProofs (maxSteps:=5000000) only [go_sem,simprocAttr]
 all_goals ((try simp_all [AG])<;>(try omega))
@[go_sem] theorem s_rWordMay (i:Nat) (a b c:Int):Aa (Lv ctx (i+3)) 112 [.agg [iV a,iV b,iV c]]=some (bV (AK ⟨a,b,c⟩)):=by
 refine Ac rfl 0 (by rfl) ?_
 delta c112
 simp +contextual -dsimp -implicitDefEqProofs (maxSteps:=5000000) only [go_sem,simprocAttr]
 all_goals ((try simp_all [AK,inR])<;>(try omega))
@[go_sem] theorem s_wordName (i:Nat) (a b:Int):Aa (Lv ctx (i+3)) 139 [iV a,iV b]=some (bV (inR a 3&&inR b 3)):=by
 refine Ac rfl 0 (by rfl) ?_
 delta c139
 simp +contextual -dsimp -implicitDefEqProofs (maxSteps:=5000000) only [go_sem,simprocAttr]
 all_goals ((try simp_all [inR])<;>(try omega))
@[go_sem] theorem s_wordIs (i:Nat) (a b c d:Int):Aa (Lv ctx (i+1)) 184 [.agg [iV a,iV b,iV c,iV d]]=some (bV (Gx a)):=by
 refine Ac rfl 0 (by rfl) ?_
 delta c184
 simp +contextual -dsimp -implicitDefEqProofs (maxSteps:=5000000) only [go_sem,simprocAttr]
 all_goals ((try simp_all [Gx])<;>(try omega))
@[go_sem] theorem s_names (i:Nat) (a b c d:Int):Aa (Lv ctx (i+1)) 131 [.agg [iV a,iV b,iV c,iV d]]=some (eI (VS ⟨a,b,c,d⟩)):=by
 refine Ac rfl 0 (by rfl) ?_
 delta c131
 simp +contextual -dsimp -implicitDefEqProofs (maxSteps:=5000000) only [go_sem,simprocAttr]
 all_goals (simp_all [VS,eI])
@[go_sem] theorem s_rInstMay (i:Nat) (a b c d:Int):Aa (Lv ctx (i+3)) 192 [.agg [iV a,iV b,iV c,iV d]]=some (bV (Bd ⟨a,b,c,d⟩)):=by
 refine Ac rfl 0 (by rfl) ?_
 delta c192
 simp +contextual -dsimp -implicitDefEqProofs (maxSteps:=5000000) only [go_sem,simprocAttr]
 all_goals ((try simp_all [Bd,inR,VS,Bool.and_assoc])<;>(try omega))
@[go_sem] theorem s_instMay (i:Nat) (a b c d:Int):Aa (Lv ctx (i+3)) 88 [.agg [iV a,iV b,iV c,iV d]]=some (bV (Bd ⟨a,b,c,d⟩)):=by
 refine Ac rfl 0 (by rfl) ?_
 delta c88
 simp +contextual -dsimp -implicitDefEqProofs (maxSteps:=5000000) only [go_sem,simprocAttr]
 have hc:a=0∨a=1∨a=2∨a=3∨a=4∨a=5∨a=6∨(a≠0∧a≠1∧a≠2∧a≠3∧a≠4∧a≠5∧a≠6):=by omega
 rcases hc with rfl | rfl | rfl | rfl | rfl | rfl | rfl | ⟨h0,h1,h2,h3,h4,h5,h6⟩<;>simp_all [Bd,inR,VS,lt4,Bool.and_assoc]<;>(try omega)
end Ve
namespace Ve
open Go Ve.Ab
set_option maxHeartbeats 16000000
set_option maxRecDepth 10000
def Bi {α:Type} (p:α→Bool):Nat→List α→Option Nat
 | _,[]=>none
 | j,a::r=>if p a then some j else Bi p (j+1) r
def FL:Option Nat→Int
 | none=>-1
 | some j=>j
theorem DP {α:Type} (p:α→Bool):∀ (l:List α) (j:Nat),decide (0≤FL (Bi p j l))=l.any p
 | [],j=>by simp [Bi,FL]
 | a::r,j=>by
  simp only [Bi,List.any_cons]
  split
  ·rename_i h;simp [h,FL]
  ·rename_i h;simp [h,DP p r (j+1)]
theorem wrN (j:Nat) (h:j≤BB):IntKind.wrap .i64 ((j:Int)+1)=((j+1:Nat):Int):=by
 have:=EH (a:=(j:Int)+1) (by omega) (by simp only [BB] at h;omega)
 simp only [wr] at this
 rw [this];simp
theorem Ao {α:Type} (pre:List α) (a:α):(pre++[a]).length=pre.length+1:=by simp
def HP (q:Out→St→Option Ans) (Q:V→Hp→Nat→Prop) (s1:St) (s2:Nat→St):Option Nat→Prop
 | none=>Fin (q (.exit 0) s1) Q
 | some j=>Fin (q .ret (s2 j)) Q
theorem BC (q:Out→St→Option Ans) (Q:V→Hp→Nat→Prop) (s1:St) (s2:Nat→St):HP q Q s1 s2 none=Fin (q (.exit 0) s1) Q:=(rfl)
theorem BA (q:Out→St→Option Ans) (Q:V→Hp→Nat→Prop) (s1:St) (s2:Nat→St) (j:Nat):HP q Q s1 s2 (some j)=Fin (q .ret (s2 j)) Q:=(rfl)
theorem ST (i k:Nat) (pf nn:Bool) (xs:List Al) (p:Al→Bool) (g:Nat) (cap:List V) (hc:Ah tbl g []) (hcap:∀ d,Aw (AI (d+1)) cap=.ret cap) (hsc:AL 0 cap=cap)
  (hp:∀ a,a∈xs→Aa (Lv ctx i) g (eW a::cap)=some (bV (p a))) (hx:xs.length≤BB) (q:Out→St→Option Ans) (Q:V→Hp→Nat→Prop) (u:Dum fun s q=>evC ctx (Lv ctx i) (Aa (Lv ctx i)) k NG s (As [0,1,7,8] q)) (w:Dum q):∀ (suf pre:List Al) (kk:Nat),xs=pre++suf→suf.length<kk →
  GL 0 [0,1,7,8] (fun s q=>evC ctx (Lv ctx i) (Aa (Lv ctx i)) k NG s (As [0,1,7,8] q)) q kk ⟨Ae [0,1,7,8] [.isl pf nn 3 (xs.map eW),.fn (.func g) [] cap,iV xs.length,iV pre.length],Ag,0⟩ Q u w =
  HP q Q ⟨Ae [] [],Ag,0⟩ (fun j=>⟨Ae [4] [iV j],Ag,0⟩) (Bi p pre.length suf)
 | [],pre,kk,hxs,hk=>by
  obtain ⟨kk,rfl⟩:∃ m,kk=m+1:=⟨kk - 1,by simp at hk;omega⟩
  have h1:decide ((pre.length:Int)<xs.length)=false:=by simp [hxs]
  simp +contextual -dsimp -implicitDefEqProofs (maxSteps:=5000000) only [gLs,↓Aj (NG.eq_1),h1,hcap,hsc,Bi,BC,go_sem,simprocAttr]
 | a::suf,pre,kk,hxs,hk=>by
  obtain ⟨kk,rfl⟩:∃ m,kk=m+1:=⟨kk - 1,by simp at hk;omega⟩
  have hl:pre.length<xs.length:=by simp [hxs]
  have h1:decide ((pre.length:Int)<xs.length)=true:=by simpa using hl
  have h2:((pre.length:Int)<xs.length)=True:=by simpa using hl
  have h3:(0≤(pre.length:Int))=True:=by simp
  have h4:=wrN pre.length (by omega)
  have hg:xs[pre.length]?=some a:=by simp [hxs]
  have hpa:=hp a (by simp [hxs])
  simp only [eW] at hpa
  have ih:=ST i k pf nn xs p g cap hc hcap hsc hp hx q Q u w suf (pre++[a]) kk (by simp [hxs]) (by simpa using hk)
  rw [Ao] at ih
  cases hb:p a<;>rw [hb] at hpa<;>simp +contextual -dsimp -implicitDefEqProofs (maxSteps:=5000000) only [gLs,↓Aj (NG.eq_1),h1,h2,h3,h4,hcap,hsc,Bi,BA,hg,hpa,hb,hc,ih,Int.toNat_natCast,List.getElem?_map,go_sem,simprocAttr]
theorem ZW (i:Nat) (pf nn:Bool) (xs:List Al) (p:Al→Bool) (g:Nat) (cap:List V) (hc:Ah tbl g []) (hcap:∀ d,Aw (AI (d+1)) cap=.ret cap) (hsc:AL 0 cap=cap) (hn:Br cap=true)
  (hp:∀ a,a∈xs→Aa (Lv ctx i) g (eW a::cap)=some (bV (p a))) (hx:xs.length≤BB):Aa (Lv ctx (i+2)) 143 [.isl pf nn 3 (xs.map eW),.fn (.func g) [] cap]=some (bV (xs.any p)):=by
 have h1:Aa (Lv ctx (i+1)) 172 [.isl pf nn 3 (xs.map eW),.fn (.func g) [] cap]=some (iV (FL (Bi p 0 xs))):=by
  refine Ac rfl (xs.length+1) (by rfl) ?_
  delta c172
  have hl:=fun q Q u w=>ST i (xs.length+1) pf nn xs p g cap hc hcap hsc hp hx q Q u w xs [] (xs.length+1) rfl (by omega)
  simp only [List.length_nil,Int.natCast_zero] at hl
  simp +contextual -dsimp -implicitDefEqProofs (maxSteps:=5000000) only [hl,go_sem,simprocAttr]
  cases Bi p 0 xs<;>simp +contextual -dsimp -implicitDefEqProofs (maxSteps:=5000000) only [BC,BA,FL,go_sem,simprocAttr]
 refine Ac rfl 0 (by rfl) ?_
 delta c143
 simp +contextual -dsimp -implicitDefEqProofs (maxSteps:=5000000) only [h1,hcap,DP,go_sem,simprocAttr]
theorem LA (i k:Nat) (pf nn:Bool) (xs:List Af) (p:Af→Bool) (g:Nat) (cap:List V) (hc:Ah tbl g []) (hcap:∀ d,Aw (AI (d+1)) cap=.ret cap) (hsc:AL 0 cap=cap)
  (hp:∀ a,a∈xs→Aa (Lv ctx i) g ((eS pf) a::cap)=some (bV (p a))) (hx:xs.length≤BB) (q:Out→St→Option Ans) (Q:V→Hp→Nat→Prop) (u:Dum fun s q=>evC ctx (Lv ctx i) (Aa (Lv ctx i)) k NF s (As [0,1,7,8] q)) (w:Dum q):∀ (suf pre:List Af) (kk:Nat),xs=pre++suf→suf.length<kk →
  GL 0 [0,1,7,8] (fun s q=>evC ctx (Lv ctx i) (Aa (Lv ctx i)) k NF s (As [0,1,7,8] q)) q kk ⟨Ae [0,1,7,8] [.isl pf nn 17 (xs.map (eS pf)),.fn (.func g) [] cap,iV xs.length,iV pre.length],Ag,0⟩ Q u w =
  HP q Q ⟨Ae [] [],Ag,0⟩ (fun j=>⟨Ae [4] [iV j],Ag,0⟩) (Bi p pre.length suf)
 | [],pre,kk,hxs,hk=>by
  obtain ⟨kk,rfl⟩:∃ m,kk=m+1:=⟨kk - 1,by simp at hk;omega⟩
  have h1:decide ((pre.length:Int)<xs.length)=false:=by simp [hxs]
  simp +contextual -dsimp -implicitDefEqProofs (maxSteps:=5000000) only [gLs,↓Aj (NF.eq_1),h1,hcap,hsc,Bi,BC,go_sem,simprocAttr]
 | a::suf,pre,kk,hxs,hk=>by
  obtain ⟨kk,rfl⟩:∃ m,kk=m+1:=⟨kk - 1,by simp at hk;omega⟩
  have hl:pre.length<xs.length:=by simp [hxs]
  have h1:decide ((pre.length:Int)<xs.length)=true:=by simpa using hl
  have h2:((pre.length:Int)<xs.length)=True:=by simpa using hl
  have h3:(0≤(pre.length:Int))=True:=by simp
  have h4:=wrN pre.length (by omega)
  have hg:xs[pre.length]?=some a:=by simp [hxs]
  have hpa:=hp a (by simp [hxs])
  simp only [eS] at hpa
  have ih:=LA i k pf nn xs p g cap hc hcap hsc hp hx q Q u w suf (pre++[a]) kk (by simp [hxs]) (by simpa using hk)
  rw [Ao] at ih
  cases hb:p a<;>rw [hb] at hpa<;>simp +contextual -dsimp -implicitDefEqProofs (maxSteps:=5000000) only [gLs,↓Aj (NF.eq_1),h1,h2,h3,h4,hcap,hsc,Bi,BA,hg,hpa,hb,hc,ih,Int.toNat_natCast,List.getElem?_map,go_sem,simprocAttr]
theorem Si (i:Nat) (pf nn:Bool) (xs:List Af) (p:Af→Bool) (g:Nat) (cap:List V) (hc:Ah tbl g []) (hcap:∀ d,Aw (AI (d+1)) cap=.ret cap) (hsc:AL 0 cap=cap) (hn:Br cap=true)
  (hp:∀ a,a∈xs→Aa (Lv ctx i) g ((eS pf) a::cap)=some (bV (p a))) (hx:xs.length≤BB):Aa (Lv ctx (i+2)) 145 [.isl pf nn 17 (xs.map (eS pf)),.fn (.func g) [] cap]=some (bV (xs.any p)):=by
 have h1:Aa (Lv ctx (i+1)) 173 [.isl pf nn 17 (xs.map (eS pf)),.fn (.func g) [] cap]=some (iV (FL (Bi p 0 xs))):=by
  refine Ac rfl (xs.length+1) (by rfl) ?_
  delta c173
  have hl:=fun q Q u w=>LA i (xs.length+1) pf nn xs p g cap hc hcap hsc hp hx q Q u w xs [] (xs.length+1) rfl (by omega)
  simp only [List.length_nil,Int.natCast_zero] at hl
  simp +contextual -dsimp -implicitDefEqProofs (maxSteps:=5000000) only [hl,go_sem,simprocAttr]
  cases Bi p 0 xs<;>simp +contextual -dsimp -implicitDefEqProofs (maxSteps:=5000000) only [BC,BA,FL,go_sem,simprocAttr]
 refine Ac rfl 0 (by rfl) ?_
 delta c145
 simp +contextual -dsimp -implicitDefEqProofs (maxSteps:=5000000) only [h1,hcap,DP,go_sem,simprocAttr]
theorem OO (i k:Nat) (pf nn:Bool) (xs:List Bl) (p:Bl→Bool) (g:Nat) (cap:List V) (hc:Ah tbl g []) (hcap:∀ d,Aw (AI (d+1)) cap=.ret cap) (hsc:AL 0 cap=cap)
  (hp:∀ a,a∈xs→Aa (Lv ctx i) g (eE a::cap)=some (bV (p a))) (hx:xs.length≤BB) (q:Out→St→Option Ans) (Q:V→Hp→Nat→Prop) (u:Dum fun s q=>evC ctx (Lv ctx i) (Aa (Lv ctx i)) k NE s (As [0,1,7,8] q)) (w:Dum q):∀ (suf pre:List Bl) (kk:Nat),xs=pre++suf→suf.length<kk →
  GL 0 [0,1,7,8] (fun s q=>evC ctx (Lv ctx i) (Aa (Lv ctx i)) k NE s (As [0,1,7,8] q)) q kk ⟨Ae [0,1,7,8] [.isl pf nn 4 (xs.map eE),.fn (.func g) [] cap,iV xs.length,iV pre.length],Ag,0⟩ Q u w =
  HP q Q ⟨Ae [] [],Ag,0⟩ (fun j=>⟨Ae [4] [iV j],Ag,0⟩) (Bi p pre.length suf)
 | [],pre,kk,hxs,hk=>by
  obtain ⟨kk,rfl⟩:∃ m,kk=m+1:=⟨kk - 1,by simp at hk;omega⟩
  have h1:decide ((pre.length:Int)<xs.length)=false:=by simp [hxs]
  simp +contextual -dsimp -implicitDefEqProofs (maxSteps:=5000000) only [gLs,↓Aj (NE.eq_1),h1,hcap,hsc,Bi,BC,go_sem,simprocAttr]
 | a::suf,pre,kk,hxs,hk=>by
  obtain ⟨kk,rfl⟩:∃ m,kk=m+1:=⟨kk - 1,by simp at hk;omega⟩
  have hl:pre.length<xs.length:=by simp [hxs]
  have h1:decide ((pre.length:Int)<xs.length)=true:=by simpa using hl
  have h2:((pre.length:Int)<xs.length)=True:=by simpa using hl
  have h3:(0≤(pre.length:Int))=True:=by simp
  have h4:=wrN pre.length (by omega)
  have hg:xs[pre.length]?=some a:=by simp [hxs]
  have hpa:=hp a (by simp [hxs])
  simp only [eE] at hpa
  have ih:=OO i k pf nn xs p g cap hc hcap hsc hp hx q Q u w suf (pre++[a]) kk (by simp [hxs]) (by simpa using hk)
  rw [Ao] at ih
  cases hb:p a<;>rw [hb] at hpa<;>simp +contextual -dsimp -implicitDefEqProofs (maxSteps:=5000000) only [gLs,↓Aj (NE.eq_1),h1,h2,h3,h4,hcap,hsc,Bi,BA,hg,hpa,hb,hc,ih,Int.toNat_natCast,List.getElem?_map,go_sem,simprocAttr]
theorem XX (i:Nat) (pf nn:Bool) (xs:List Bl) (p:Bl→Bool) (g:Nat) (cap:List V) (hc:Ah tbl g []) (hcap:∀ d,Aw (AI (d+1)) cap=.ret cap) (hsc:AL 0 cap=cap) (hn:Br cap=true)
  (hp:∀ a,a∈xs→Aa (Lv ctx i) g (eE a::cap)=some (bV (p a))) (hx:xs.length≤BB):Aa (Lv ctx (i+2)) 157 [.isl pf nn 4 (xs.map eE),.fn (.func g) [] cap]=some (bV (xs.any p)):=by
 have h1:Aa (Lv ctx (i+1)) 185 [.isl pf nn 4 (xs.map eE),.fn (.func g) [] cap]=some (iV (FL (Bi p 0 xs))):=by
  refine Ac rfl (xs.length+1) (by rfl) ?_
  delta c185
  have hl:=fun q Q u w=>OO i (xs.length+1) pf nn xs p g cap hc hcap hsc hp hx q Q u w xs [] (xs.length+1) rfl (by omega)
  simp only [List.length_nil,Int.natCast_zero] at hl
  simp +contextual -dsimp -implicitDefEqProofs (maxSteps:=5000000) only [hl,go_sem,simprocAttr]
  cases Bi p 0 xs<;>simp +contextual -dsimp -implicitDefEqProofs (maxSteps:=5000000) only [BC,BA,FL,go_sem,simprocAttr]
 refine Ac rfl 0 (by rfl) ?_
 delta c157
 simp +contextual -dsimp -implicitDefEqProofs (maxSteps:=5000000) only [h1,hcap,DP,go_sem,simprocAttr]
theorem SV (i k:Nat) (pf nn:Bool) (xs:List AO) (p:AO→Bool) (g:Nat) (cap:List V) (hc:Ah tbl g []) (hcap:∀ d,Aw (AI (d+1)) cap=.ret cap) (hsc:AL 0 cap=cap)
  (hp:∀ a,a∈xs→Aa (Lv ctx i) g (eR a::cap)=some (bV (p a))) (hx:xs.length≤BB) (q:Out→St→Option Ans) (Q:V→Hp→Nat→Prop) (u:Dum fun s q=>evC ctx (Lv ctx i) (Aa (Lv ctx i)) k ND s (As [0,1,7,8] q)) (w:Dum q):∀ (suf pre:List AO) (kk:Nat),xs=pre++suf→suf.length<kk →
  GL 0 [0,1,7,8] (fun s q=>evC ctx (Lv ctx i) (Aa (Lv ctx i)) k ND s (As [0,1,7,8] q)) q kk ⟨Ae [0,1,7,8] [.isl pf nn 3 (xs.map eR),.fn (.func g) [] cap,iV xs.length,iV pre.length],Ag,0⟩ Q u w =
  HP q Q ⟨Ae [] [],Ag,0⟩ (fun j=>⟨Ae [4] [iV j],Ag,0⟩) (Bi p pre.length suf)
 | [],pre,kk,hxs,hk=>by
  obtain ⟨kk,rfl⟩:∃ m,kk=m+1:=⟨kk - 1,by simp at hk;omega⟩
  have h1:decide ((pre.length:Int)<xs.length)=false:=by simp [hxs]
  simp +contextual -dsimp -implicitDefEqProofs (maxSteps:=5000000) only [gLs,↓Aj (ND.eq_1),h1,hcap,hsc,Bi,BC,go_sem,simprocAttr]
 | a::suf,pre,kk,hxs,hk=>by
  obtain ⟨kk,rfl⟩:∃ m,kk=m+1:=⟨kk - 1,by simp at hk;omega⟩
  have hl:pre.length<xs.length:=by simp [hxs]
  have h1:decide ((pre.length:Int)<xs.length)=true:=by simpa using hl
  have h2:((pre.length:Int)<xs.length)=True:=by simpa using hl
  have h3:(0≤(pre.length:Int))=True:=by simp
  have h4:=wrN pre.length (by omega)
  have hg:xs[pre.length]?=some a:=by simp [hxs]
  have hpa:=hp a (by simp [hxs])
  simp only [eR] at hpa
  have ih:=SV i k pf nn xs p g cap hc hcap hsc hp hx q Q u w suf (pre++[a]) kk (by simp [hxs]) (by simpa using hk)
  rw [Ao] at ih
  cases hb:p a<;>rw [hb] at hpa<;>simp +contextual -dsimp -implicitDefEqProofs (maxSteps:=5000000) only [gLs,↓Aj (ND.eq_1),h1,h2,h3,h4,hcap,hsc,Bi,BA,hg,hpa,hb,hc,ih,Int.toNat_natCast,List.getElem?_map,go_sem,simprocAttr]
theorem MA (i:Nat) (pf nn:Bool) (xs:List AO) (p:AO→Bool) (g:Nat) (cap:List V) (hc:Ah tbl g []) (hcap:∀ d,Aw (AI (d+1)) cap=.ret cap) (hsc:AL 0 cap=cap) (hn:Br cap=true)
  (hp:∀ a,a∈xs→Aa (Lv ctx i) g (eR a::cap)=some (bV (p a))) (hx:xs.length≤BB):Aa (Lv ctx (i+2)) 175 [.isl pf nn 3 (xs.map eR),.fn (.func g) [] cap]=some (bV (xs.any p)):=by
 have h1:Aa (Lv ctx (i+1)) 193 [.isl pf nn 3 (xs.map eR),.fn (.func g) [] cap]=some (iV (FL (Bi p 0 xs))):=by
  refine Ac rfl (xs.length+1) (by rfl) ?_
  delta c193
  have hl:=fun q Q u w=>SV i (xs.length+1) pf nn xs p g cap hc hcap hsc hp hx q Q u w xs [] (xs.length+1) rfl (by omega)
  simp only [List.length_nil,Int.natCast_zero] at hl
  simp +contextual -dsimp -implicitDefEqProofs (maxSteps:=5000000) only [hl,go_sem,simprocAttr]
  cases Bi p 0 xs<;>simp +contextual -dsimp -implicitDefEqProofs (maxSteps:=5000000) only [BC,BA,FL,go_sem,simprocAttr]
 refine Ac rfl 0 (by rfl) ?_
 delta c175
 simp +contextual -dsimp -implicitDefEqProofs (maxSteps:=5000000) only [h1,hcap,DP,go_sem,simprocAttr]
theorem ON (i k:Nat) (pf nn:Bool) (xs:List Ak) (p:Ak→Bool) (g:Nat) (cap:List V) (hc:Ah tbl g []) (hcap:∀ d,Aw (AI (d+1)) cap=.ret cap) (hsc:AL 0 cap=cap)
  (hp:∀ a,a∈xs→Aa (Lv ctx i) g (eWr a::cap)=some (bV (p a))) (hx:xs.length≤BB) (q:Out→St→Option Ans) (Q:V→Hp→Nat→Prop) (u:Dum fun s q=>evC ctx (Lv ctx i) (Aa (Lv ctx i)) k NC s (As [0,1,7,8] q)) (w:Dum q):∀ (suf pre:List Ak) (kk:Nat),xs=pre++suf→suf.length<kk →
  GL 0 [0,1,7,8] (fun s q=>evC ctx (Lv ctx i) (Aa (Lv ctx i)) k NC s (As [0,1,7,8] q)) q kk ⟨Ae [0,1,7,8] [.isl pf nn 3 (xs.map eWr),.fn (.func g) [] cap,iV xs.length,iV pre.length],Ag,0⟩ Q u w =
  HP q Q ⟨Ae [] [],Ag,0⟩ (fun j=>⟨Ae [4] [iV j],Ag,0⟩) (Bi p pre.length suf)
 | [],pre,kk,hxs,hk=>by
  obtain ⟨kk,rfl⟩:∃ m,kk=m+1:=⟨kk - 1,by simp at hk;omega⟩
  have h1:decide ((pre.length:Int)<xs.length)=false:=by simp [hxs]
  simp +contextual -dsimp -implicitDefEqProofs (maxSteps:=5000000) only [gLs,↓Aj (NC.eq_1),h1,hcap,hsc,Bi,BC,go_sem,simprocAttr]
 | a::suf,pre,kk,hxs,hk=>by
  obtain ⟨kk,rfl⟩:∃ m,kk=m+1:=⟨kk - 1,by simp at hk;omega⟩
  have hl:pre.length<xs.length:=by simp [hxs]
  have h1:decide ((pre.length:Int)<xs.length)=true:=by simpa using hl
  have h2:((pre.length:Int)<xs.length)=True:=by simpa using hl
  have h3:(0≤(pre.length:Int))=True:=by simp
  have h4:=wrN pre.length (by omega)
  have hg:xs[pre.length]?=some a:=by simp [hxs]
  have hpa:=hp a (by simp [hxs])
  simp only [eWr] at hpa
  have ih:=ON i k pf nn xs p g cap hc hcap hsc hp hx q Q u w suf (pre++[a]) kk (by simp [hxs]) (by simpa using hk)
  rw [Ao] at ih
  cases hb:p a<;>rw [hb] at hpa<;>simp +contextual -dsimp -implicitDefEqProofs (maxSteps:=5000000) only [gLs,↓Aj (NC.eq_1),h1,h2,h3,h4,hcap,hsc,Bi,BA,hg,hpa,hb,hc,ih,Int.toNat_natCast,List.getElem?_map,go_sem,simprocAttr]
theorem Ol (i:Nat) (pf nn:Bool) (xs:List Ak) (p:Ak→Bool) (g:Nat) (cap:List V) (hc:Ah tbl g []) (hcap:∀ d,Aw (AI (d+1)) cap=.ret cap) (hsc:AL 0 cap=cap) (hn:Br cap=true)
  (hp:∀ a,a∈xs→Aa (Lv ctx i) g (eWr a::cap)=some (bV (p a))) (hx:xs.length≤BB):Aa (Lv ctx (i+2)) 180 [.isl pf nn 3 (xs.map eWr),.fn (.func g) [] cap]=some (bV (xs.any p)):=by
 have h1:Aa (Lv ctx (i+1)) 196 [.isl pf nn 3 (xs.map eWr),.fn (.func g) [] cap]=some (iV (FL (Bi p 0 xs))):=by
  refine Ac rfl (xs.length+1) (by rfl) ?_
  delta c196
  have hl:=fun q Q u w=>ON i (xs.length+1) pf nn xs p g cap hc hcap hsc hp hx q Q u w xs [] (xs.length+1) rfl (by omega)
  simp only [List.length_nil,Int.natCast_zero] at hl
  simp +contextual -dsimp -implicitDefEqProofs (maxSteps:=5000000) only [hl,go_sem,simprocAttr]
  cases Bi p 0 xs<;>simp +contextual -dsimp -implicitDefEqProofs (maxSteps:=5000000) only [BC,BA,FL,go_sem,simprocAttr]
 refine Ac rfl 0 (by rfl) ?_
 delta c180
 simp +contextual -dsimp -implicitDefEqProofs (maxSteps:=5000000) only [h1,hcap,DP,go_sem,simprocAttr]
theorem SW (i k:Nat) (pf nn:Bool) (xs:List Av) (p:Av→Bool) (g:Nat) (cap:List V) (hc:Ah tbl g []) (hcap:∀ d,Aw (AI (d+1)) cap=.ret cap) (hsc:AL 0 cap=cap)
  (hp:∀ a,a∈xs→Aa (Lv ctx i) g (eI a::cap)=some (bV (p a))) (hx:xs.length≤BB) (q:Out→St→Option Ans) (Q:V→Hp→Nat→Prop) (u:Dum fun s q=>evC ctx (Lv ctx i) (Aa (Lv ctx i)) k NB s (As [0,1,7,8] q)) (w:Dum q):∀ (suf pre:List Av) (kk:Nat),xs=pre++suf→suf.length<kk →
  GL 0 [0,1,7,8] (fun s q=>evC ctx (Lv ctx i) (Aa (Lv ctx i)) k NB s (As [0,1,7,8] q)) q kk ⟨Ae [0,1,7,8] [.isl pf nn 4 (xs.map eI),.fn (.func g) [] cap,iV xs.length,iV pre.length],Ag,0⟩ Q u w =
  HP q Q ⟨Ae [] [],Ag,0⟩ (fun j=>⟨Ae [4] [iV j],Ag,0⟩) (Bi p pre.length suf)
 | [],pre,kk,hxs,hk=>by
  obtain ⟨kk,rfl⟩:∃ m,kk=m+1:=⟨kk - 1,by simp at hk;omega⟩
  have h1:decide ((pre.length:Int)<xs.length)=false:=by simp [hxs]
  simp +contextual -dsimp -implicitDefEqProofs (maxSteps:=5000000) only [gLs,↓Aj (NB.eq_1),h1,hcap,hsc,Bi,BC,go_sem,simprocAttr]
 | a::suf,pre,kk,hxs,hk=>by
  obtain ⟨kk,rfl⟩:∃ m,kk=m+1:=⟨kk - 1,by simp at hk;omega⟩
  have hl:pre.length<xs.length:=by simp [hxs]
  have h1:decide ((pre.length:Int)<xs.length)=true:=by simpa using hl
  have h2:((pre.length:Int)<xs.length)=True:=by simpa using hl
  have h3:(0≤(pre.length:Int))=True:=by simp
  have h4:=wrN pre.length (by omega)
  have hg:xs[pre.length]?=some a:=by simp [hxs]
  have hpa:=hp a (by simp [hxs])
  simp only [eI] at hpa
  have ih:=SW i k pf nn xs p g cap hc hcap hsc hp hx q Q u w suf (pre++[a]) kk (by simp [hxs]) (by simpa using hk)
  rw [Ao] at ih
  cases hb:p a<;>rw [hb] at hpa<;>simp +contextual -dsimp -implicitDefEqProofs (maxSteps:=5000000) only [gLs,↓Aj (NB.eq_1),h1,h2,h3,h4,hcap,hsc,Bi,BA,hg,hpa,hb,hc,ih,Int.toNat_natCast,List.getElem?_map,go_sem,simprocAttr]
theorem ZY (i:Nat) (pf nn:Bool) (xs:List Av) (p:Av→Bool) (g:Nat) (cap:List V) (hc:Ah tbl g []) (hcap:∀ d,Aw (AI (d+1)) cap=.ret cap) (hsc:AL 0 cap=cap) (hn:Br cap=true)
  (hp:∀ a,a∈xs→Aa (Lv ctx i) g (eI a::cap)=some (bV (p a))) (hx:xs.length≤BB):Aa (Lv ctx (i+2)) 182 [.isl pf nn 4 (xs.map eI),.fn (.func g) [] cap]=some (bV (xs.any p)):=by
 have h1:Aa (Lv ctx (i+1)) 197 [.isl pf nn 4 (xs.map eI),.fn (.func g) [] cap]=some (iV (FL (Bi p 0 xs))):=by
  refine Ac rfl (xs.length+1) (by rfl) ?_
  delta c197
  have hl:=fun q Q u w=>SW i (xs.length+1) pf nn xs p g cap hc hcap hsc hp hx q Q u w xs [] (xs.length+1) rfl (by omega)
  simp only [List.length_nil,Int.natCast_zero] at hl
  simp +contextual -dsimp -implicitDefEqProofs (maxSteps:=5000000) only [hl,go_sem,simprocAttr]
  cases Bi p 0 xs<;>simp +contextual -dsimp -implicitDefEqProofs (maxSteps:=5000000) only [BC,BA,FL,go_sem,simprocAttr]
 refine Ac rfl 0 (by rfl) ?_
 delta c182
 simp +contextual -dsimp -implicitDefEqProofs (maxSteps:=5000000) only [h1,hcap,DP,go_sem,simprocAttr]
end Ve
namespace Ve
open Go Ve.Ab
set_option maxHeartbeats 16000000
set_option maxRecDepth 10000
theorem Bb (l:Int):l=0∨l=1∨l=2∨l=3∨inR l 3=false:=by
 simp [inR];omega
theorem yU:inR 0 3=true:=by decide
theorem yT:inR 1 3=true:=by decide
theorem yS:inR 2 3=true:=by decide
theorem yR:inR 3 3=true:=by decide
attribute [go_sem] yU yT yS yR
@[go_sem] theorem s_there (i:Nat) (p a b c d na nb nc nd:Bool) (w0 w1 w2 w3:List Al) (r:List V) (l x:Int):Aa (Lv ctx (i+2)) 179 [.ip p (.isl a na 3 (w0.map eW)::.isl b nb 3 (w1.map eW)::.isl c nc 3 (w2.map eW)::.isl d nd 3 (w3.map eW)::r) 0,iV l,iV x]=some (bV (AW ⟨w0,w1,w2,w3⟩ l x)):=by
 rcases Bb l with rfl | rfl | rfl | rfl | h<;>refine Ac rfl 0 (by rfl) ?_<;>delta c179
 case inr.inr.inr.inr=>simp +contextual -dsimp -implicitDefEqProofs (maxSteps:=5000000) only [AW,h,go_sem,simprocAttr]
 all_goals simp +contextual -dsimp -implicitDefEqProofs (maxSteps:=5000000) only [AW,A4.get,go_sem,simprocAttr]
theorem bool_5f {a b c d e:Bool} (h:(a&&b&&!c&&d&&e)=false):(!a||!b||c||!d||!e)=true:=by cases a<;>cases b<;>cases c<;>cases d<;>cases e<;>simp_all
@[go_sem] theorem XS (i:Nat) (a b c:Int):Aa (Lv ctx (i+4)) 141 [.agg [iV a,iV b,iV c]]=some (bV (!AK ⟨a,b,c⟩)):=by
 refine Ac rfl 0 (by rfl) ?_
 delta c141
 simp +contextual -dsimp -implicitDefEqProofs (maxSteps:=5000000) only [go_sem,simprocAttr]
theorem Gn {α:Type} (p:α→Bool):∀ l:List α,(l.any fun x=>!p x)=!(l.all p)
 | []=>rfl
 | a::l=>by simp [Gn p l]
theorem Ug (i:Nat) (pf nn:Bool) (xs:List Al) (hx:xs.length≤BB):Aa (Lv ctx (i+4+2)) 143 [.isl pf nn 3 (xs.map eW),.fn (.func 141) [] []]=some (bV (!(xs.all AK))):=by
 rw [ZW (i+4) pf nn xs (fun w=>!AK w) 141 [] (fun _ _ _ _ _ _=>rfl) (fun _=>rfl) (by simp [AL]) rfl (fun a _=>by simp only [eW];exact XS i _ _ _) hx,Gn]
theorem Nn (n:Nat):decide (4<(n:Int))=!decide (n≤4):=by
 by_cases h:n≤4<;>simp [h]<;>omega
theorem qL (i:Nat) (pf nn:Bool) (xs:List Al) (hx:decide (4<(xs.length:Int))=false):Aa (Lv ctx (i+4+2)) 143 [.isl pf nn 3 (xs.map eW),.fn (.func 141) [] []]=some (bV (!(Co xs))):=by
 simp at hx
 rw [Ug i pf nn xs (by simp [BB];omega)]
 simp [Co,show xs.length≤4 by omega]
@[go_sem] theorem Um (i:Nat) (a b c d na nb nc nd:Bool) (w0 w1 w2 w3:List Al):Aa (Lv ctx (i+4+3)) 116 [.agg [.isl a na 3 (w0.map eW),.isl b nb 3 (w1.map eW),.isl c nc 3 (w2.map eW),.isl d nd 3 (w3.map eW)]]=some (bV (AP ⟨w0,w1,w2,w3⟩)):=by
 have key:∀ (w:List Al),decide (4<(w.length:Int))=true→Co w=false:=by
  intro w h;simp at h;simp [Co];intro;omega
 refine Ac rfl 5 (by rfl) ?_
 delta c116
 simp +contextual -dsimp -implicitDefEqProofs (maxSteps:=5000000) only [gLs,↓Aj (fJ.eq_1),qL,go_sem,simprocAttr]
 simp only [AP,A4.all]
 cases h0:decide (4<(w0.length:Int))<;>cases h1:decide (4<(w1.length:Int))<;>cases h2:decide (4<(w2.length:Int))<;>cases h3:decide (4<(w3.length:Int))<;>simp_all
def DH (m a b c d:Int):Bool:=inR a m&&inR b m&&inR c m&&inR d m
@[go_sem] theorem s_clockMay (i:Nat) (p:Bool) (z0 z1 z2 z3:V) (a b c d e:Int) (r:List V):Aa (Lv ctx (i+3)) 117 [.ip p (z0::z1::z2::z3::iV a::iV b::iV c::iV d::r) 4,iV e]=some (bV (DH 65535 a b c d&&inR e 65535)):=by
 refine Ac rfl 5 (by rfl) ?_
 delta vI
 simp +contextual -dsimp -implicitDefEqProofs (maxSteps:=5000000) only [gLs,↓Aj (Vm.eq_1),DH,go_sem,simprocAttr]
 cases inR a 65535<;>cases inR b 65535<;>cases inR c 65535<;>cases inR d 65535<;>simp_all
@[go_sem] theorem s_clockMay' (i:Nat) (p:Bool) (a b c d e:Int):Aa (Lv ctx (i+3)) 117 [.ip p [iV a,iV b,iV c,iV d] 0,iV e]=some (bV (DH 65535 a b c d&&inR e 65535)):=by
 refine Ac rfl 5 (by rfl) ?_
 delta vI
 simp +contextual -dsimp -implicitDefEqProofs (maxSteps:=5000000) only [gLs,↓Aj (Vm.eq_1),DH,go_sem,simprocAttr]
 cases inR a 65535<;>cases inR b 65535<;>cases inR c 65535<;>cases inR d 65535<;>simp_all
@[go_sem] theorem s_regsMay (i:Nat) (p:Bool) (z0 z1 z2 z3 z4 z5:V) (a b c d:Int) (r:List V):Aa (Lv ctx (i+3)) 156 [.ip p (z0::z1::z2::z3::z4::z5::iV a::iV b::iV c::iV d::r) 6]=some (bV (DH 255 a b c d)):=by
 refine Ac rfl 5 (by rfl) ?_
 delta vH
 simp +contextual -dsimp -implicitDefEqProofs (maxSteps:=5000000) only [gLs,↓Aj (Vj.eq_1),DH,go_sem,simprocAttr]
 cases inR a 255<;>cases inR b 255<;>cases inR c 255<;>cases inR d 255<;>simp_all
@[go_sem] theorem s_regsMay' (i:Nat) (p:Bool) (a b c d:Int):Aa (Lv ctx (i+3)) 156 [.ip p [iV a,iV b,iV c,iV d] 0]=some (bV (DH 255 a b c d)):=by
 refine Ac rfl 5 (by rfl) ?_
 delta vH
 simp +contextual -dsimp -implicitDefEqProofs (maxSteps:=5000000) only [gLs,↓Aj (Vj.eq_1),DH,go_sem,simprocAttr]
 cases inR a 255<;>cases inR b 255<;>cases inR c 255<;>cases inR d 255<;>simp_all
def max2 (a b:Int):Int:=if a<b then b else a
theorem lA (a b:Int):(if a<b then b else a)=max2 a b:=(rfl)
@[go_sem] theorem s_max (i:Nat) (p nn:Bool) (a b c d:Int):Aa (Lv ctx (i+1)) 118 [.isl p nn 1 [iV a,iV b,iV c,iV d]]=some (iV (max2 (max2 (max2 a b) c) d)):=by
 refine Ac rfl 5 (by rfl) ?_
 delta c118
 simp +contextual -dsimp -implicitDefEqProofs (maxSteps:=5000000) only [gLs,↓Aj (fI.eq_1),lA,go_sem,simprocAttr]
def Fc (b:Bool) (X1 X2:Prop):Prop :=
 match b with
 | true=>X1
 | false=>X2
theorem Bc (X1 X2:Prop):Fc true X1 X2=X1:=(rfl)
theorem Ax (X1 X2:Prop):Fc false X1 X2=X2:=(rfl)
theorem dF (i k:Nat) (pf nn:Bool) (xs:List Av) (hx:xs.length≤BB) (q:Out→St→Option Ans) (Q:V→Hp→Nat→Prop) (u:Dum (fun s q=>evC ctx (Lv ctx (i+3)) (Aa (Lv ctx (i+3))) k NA s (As [0,5,6,7] q))) (w:Dum q) (X1 X2:Prop)
  (hq1:∀ h n,Fin (q (.exit 0) ⟨Ae [0] [.isl pf nn 4 (xs.map eI)],h,n⟩) Q=X1) (hq2:∀ h n,Fin (q .ret ⟨Ae [2] [bV false],h,n⟩) Q=X2):∀ (suf pre:List Av) (kk:Nat) (h:Hp) (n:Nat),xs=pre++suf→suf.length<kk →
  GL 0 [0,5,6,7] (fun s q=>evC ctx (Lv ctx (i+3)) (Aa (Lv ctx (i+3))) k NA s (As [0,5,6,7] q)) q kk ⟨Ae [0,5,6,7] [.isl pf nn 4 (xs.map eI),.isl pf nn 4 (xs.map eI),iV xs.length,iV pre.length],h,n⟩ Q u w =
  Fc (BP xs.length pre.length suf) X1 X2
 | [],pre,kk,h,n,hxs,hk=>by
  obtain ⟨kk,rfl⟩:∃ m,kk=m+1:=⟨kk - 1,by simp at hk;omega⟩
  have h1:decide ((pre.length:Int)<xs.length)=false:=by simp [hxs]
  simp +contextual -dsimp -implicitDefEqProofs (maxSteps:=5000000) only [gLs,↓Aj (NA.eq_1),h1,Bc,BP,hq1,go_sem,simprocAttr]
 | a::suf,pre,kk,h,n,hxs,hk=>by
  obtain ⟨kk,rfl⟩:∃ m,kk=m+1:=⟨kk - 1,by simp at hk;omega⟩
  have hl:pre.length<xs.length:=by simp [hxs]
  have h2:((pre.length:Int)<xs.length)=True:=by simpa using hl
  have h3:(0≤(pre.length:Int))=True:=by simp
  have h4:=wrN pre.length (by omega)
  have hg:xs[pre.length]?=some a:=by simp [hxs]
  have ih:=fun h n=>dF i k pf nn xs hx q Q u w X1 X2 hq1 hq2 suf (pre++[a]) kk h n (by simp [hxs]) (by simpa using hk)
  rw [Ao] at ih
  have h5:((pre.length+1:Nat):Int)=(pre.length:Int)+1:=by simp
  cases hb:(Bd a&&!(decide (a.code=4)&&(decide (a.b≤(pre.length:Int))||decide ((xs.length:Int)<a.b))))
  ·have hr:BP xs.length pre.length (a::suf)=false:=by simp only [BP,hb,Bool.false_and]
   rw [hr]
   have hb':(!(Bd a)||(decide (a.code=4)&&(decide (a.b≤(pre.length:Int))||decide ((xs.length:Int)<a.b))))=true:=nT hb
   simp +contextual -dsimp -implicitDefEqProofs (maxSteps:=5000000) only [gLs,↓Aj (NA.eq_1),h2,h3,h4,hg,hb',Ax,hq2,go_sem,simprocAttr]
  ·have hr:BP xs.length pre.length (a::suf)=BP xs.length ((pre.length+1:Nat):Int) suf:=by simp only [BP,hb,Bool.true_and,h5]
   rw [hr]
   have hb':(!(Bd a)||(decide (a.code=4)&&(decide (a.b≤(pre.length:Int))||decide ((xs.length:Int)<a.b))))=false:=nS hb
   simp +contextual -dsimp -implicitDefEqProofs (maxSteps:=5000000) only [gLs,↓Aj (NA.eq_1),h2,h3,h4,hg,hb',ih,go_sem,simprocAttr]
theorem ZN (i:Nat) (pf nn:Bool) (xs:List Av) (hx:xs.length≤BB):Aa (Lv ctx (i+4)) 44 [.isl pf nn 4 (xs.map eI)]=some (bV (Dn xs)):=by
 refine Ac rfl (xs.length+1) (by rfl) ?_
 delta c44
 have h2:=fun q Q u w h1 h2=>dF i (xs.length+1) pf nn xs hx q Q u w (Fin (q (.exit 0) ⟨Ae [0] [.isl pf nn 4 (xs.map eI)],Ag,0⟩) Q) (Fin (q .ret ⟨Ae [2] [bV false],Ag,0⟩) Q) h1 h2 xs [] (xs.length+1) Ag 0 rfl (by omega)
 simp only [List.length_nil,Int.natCast_zero] at h2
 have h5:decide ((xs.length:Int)≤16)=decide (xs.length≤16):=by apply decide_eq_decide.mpr;omega
 simp +contextual -dsimp -implicitDefEqProofs (maxSteps:=5000000) only [Dn,h5,go_sem,simprocAttr]
 refine Eq.mpr (h2 _ _ _ _ (fun h n=>by simp +contextual -dsimp -implicitDefEqProofs (maxSteps:=5000000) only [go_sem,simprocAttr]) (fun h n=>by simp +contextual -dsimp -implicitDefEqProofs (maxSteps:=5000000) only [go_sem,simprocAttr])) ?_
 cases hb:BP xs.length 0 xs<;>simp +contextual -dsimp -implicitDefEqProofs (maxSteps:=5000000) only [Bc,Ax,h5,go_sem,simprocAttr]
end Ve
namespace Ve
open Go Ve.Ab
set_option maxHeartbeats 16000000
set_option maxRecDepth 10000
@[go_sem] theorem oW (i:Nat) (p:Bool) (a b c x y z:Int):Aa (Lv ctx (i+1)) 194 [.agg [iV x,iV y,iV z],.ip p [iV a,iV b,iV c] 0]=some (bV (Cd ⟨a,b,c⟩ ⟨x,y,z⟩)):=by
 refine Ac rfl 0 (by rfl) ?_
 delta c194
 simp +contextual -dsimp -implicitDefEqProofs (maxSteps:=5000000) only [go_sem,simprocAttr]
 all_goals simp_all [Cd]
@[go_sem] theorem s_of (i:Nat) (a b c:Int):Aa (Lv ctx (i+1)) 176 [.agg [iV a,iV b,iV c]]=some (.fn (.func 194) [] [.ip true [iV a,iV b,iV c] 0]):=by
 refine Ac rfl 0 (by rfl) ?_
 delta c176
 simp +contextual -dsimp -implicitDefEqProofs (maxSteps:=5000000) only [go_sem,simprocAttr]
theorem Wh (i k:Nat) (pf nn:Bool) (xs:List AO) (hx:xs.length≤BB) (q:Out→St→Option Ans) (Q:V→Hp→Nat→Prop) (u:Dum (fun s q=>evC ctx (Lv ctx (i+3)) (Aa (Lv ctx (i+3))) k IQ s (As [0,8,9,10] q))) (w:Dum q) (X1 X2:Prop)
  (hq1:∀ h n,Fin (q (.exit 0) ⟨Ae [] [],h,n⟩) Q=X1) (hq2:∀ h n,Fin (q .ret ⟨Ae [2] [bV false],h,n⟩) Q=X2):∀ (suf pre:List AO) (kk:Nat) (h:Hp) (n:Nat),xs=pre++suf→suf.length<kk →
  GL 0 [0,8,9,10] (fun s q=>evC ctx (Lv ctx (i+3)) (Aa (Lv ctx (i+3))) k IQ s (As [0,8,9,10] q)) q kk ⟨Ae [0,8,9,10] [.isl pf nn 3 (xs.map eR),.isl pf nn 3 (xs.map eR),iV xs.length,iV pre.length],h,n⟩ Q u w =
  Fc (BS pre suf) X1 X2
 | [],pre,kk,h,n,hxs,hk=>by
  obtain ⟨kk,rfl⟩:∃ m,kk=m+1:=⟨kk - 1,by simp at hk;omega⟩
  have h1:decide ((pre.length:Int)<xs.length)=false:=by simp [hxs]
  simp +contextual -dsimp -implicitDefEqProofs (maxSteps:=5000000) only [gLs,↓Aj (IQ.eq_1),h1,Bc,BS,hq1,go_sem,simprocAttr]
 | a::suf,pre,kk,h,n,hxs,hk=>by
  obtain ⟨kk,rfl⟩:∃ m,kk=m+1:=⟨kk - 1,by simp at hk;omega⟩
  have hl:pre.length<xs.length:=by simp [hxs]
  have h2:((pre.length:Int)<xs.length)=True:=by simpa using hl
  have h2':((pre.length:Int)≤xs.length)=True:=by simp;omega
  have h3:(0≤(pre.length:Int))=True:=by simp
  have h4:=wrN pre.length (by omega)
  have hg:xs[pre.length]?=some a:=by simp [hxs]
  have ht:(xs.map eR).take pre.length=pre.map eR:=by simp [hxs]
  have ih:=fun h n=>Wh i k pf nn xs hx q Q u w X1 X2 hq1 hq2 suf (pre++[a]) kk h n (by simp [hxs]) (by simpa using hk)
  rw [Ao] at ih
  have hcf:Aa (Lv ctx (i+3)) 175 [.isl pf nn 3 (pre.map eR),.fn (.func 194) [] [.ip true [iV a.level,iV a.index,iV a.ver] 0]]=some (bV (pre.any (Cd a))) :=
   MA (i+1) pf nn pre (Cd a) 194 [.ip true [iV a.level,iV a.index,iV a.ver] 0] (fun _ _ _ _ _ _=>rfl) (fun _=>rfl) (by simp [AL,V.scrub]) rfl (fun x _=>by simp only [eR];exact oW (i+0) true a.level a.index a.ver x.level x.index x.ver) (by omega)
  cases c1:inR a.level 3
  ·simp +contextual -dsimp -implicitDefEqProofs (maxSteps:=5000000) only [gLs,↓Aj (IQ.eq_1),h2,h2',h3,h4,hg,ht,hcf,Ax,hq2,BS,Cw,c1,go_sem,simprocAttr]
  ·cases c2:inR a.index 3
   ·simp +contextual -dsimp -implicitDefEqProofs (maxSteps:=5000000) only [gLs,↓Aj (IQ.eq_1),h2,h2',h3,h4,hg,ht,hcf,Ax,hq2,BS,Cw,c1,c2,go_sem,simprocAttr]
   ·cases c3:inR a.ver 65535
    ·simp +contextual -dsimp -implicitDefEqProofs (maxSteps:=5000000) only [gLs,↓Aj (IQ.eq_1),h2,h2',h3,h4,hg,ht,hcf,Ax,hq2,BS,Cw,c1,c2,c3,go_sem,simprocAttr]
    ·cases c4:pre.any (Cd a)<;>simp +contextual -dsimp -implicitDefEqProofs (maxSteps:=5000000) only [gLs,↓Aj (IQ.eq_1),h2,h2',h3,h4,hg,ht,hcf,Ax,hq2,BS,Cw,c1,c2,c3,c4,ih,go_sem,simprocAttr]
theorem LV (i:Nat) (pf nn:Bool) (xs:List AO) (hx:xs.length≤BB):Aa (Lv ctx (i+4)) 147 [.isl pf nn 3 (xs.map eR)]=some (bV (AJ xs)):=by
 refine Ac rfl (xs.length+1) (by rfl) ?_
 delta c147
 have h2:=fun q Q u w h1 h2=>Wh i (xs.length+1) pf nn xs hx q Q u w (Fin (q (.exit 0) ⟨Ae [] [],Ag,0⟩) Q) (Fin (q .ret ⟨Ae [2] [bV false],Ag,0⟩) Q) h1 h2 xs [] (xs.length+1) Ag 0 rfl (by omega)
 simp only [List.length_nil,Int.natCast_zero] at h2
 cases h5:decide (16<(xs.length:Int))
 ·have h6:decide (xs.length≤16)=true:=by simp at h5 ⊢;omega
  simp +contextual -dsimp -implicitDefEqProofs (maxSteps:=5000000) only [AJ,h5,h6,go_sem,simprocAttr]
  refine Eq.mpr (h2 _ _ _ _ (fun h n=>by simp +contextual -dsimp -implicitDefEqProofs (maxSteps:=5000000) only [go_sem,simprocAttr]) (fun h n=>by simp +contextual -dsimp -implicitDefEqProofs (maxSteps:=5000000) only [go_sem,simprocAttr])) ?_
  cases hb:BS [] xs<;>simp +contextual -dsimp -implicitDefEqProofs (maxSteps:=5000000) only [Bc,Ax,go_sem,simprocAttr]
 ·have h6:decide (xs.length≤16)=false:=by simp at h5 ⊢;omega
  simp +contextual -dsimp -implicitDefEqProofs (maxSteps:=5000000) only [AJ,h5,h6,go_sem,simprocAttr]
@[go_sem] theorem s_or (i:Nat) (p nn:Bool) (a b:Int):Aa (Lv ctx (i+1)) 195 [.isl p nn 1 [iV a,iV b]]=some (iV (if a=0 then b else a)):=by
 refine Ac rfl 3 (by rfl) ?_
 delta c195
 by_cases ha:a=0
 ·subst ha
  by_cases hb:b=0
  ·subst hb
   simp +contextual -dsimp -implicitDefEqProofs (maxSteps:=5000000) only [gLs,↓Aj (RA.eq_1),go_sem,simprocAttr]
  ·have hb':decide (b=0)=false:=by simpa using hb
   simp +contextual -dsimp -implicitDefEqProofs (maxSteps:=5000000) only [gLs,↓Aj (RA.eq_1),hb',go_sem,simprocAttr]
 ·have ha':decide (a=0)=false:=by simpa using ha
  simp +contextual -dsimp -implicitDefEqProofs (maxSteps:=5000000) only [gLs,↓Aj (RA.eq_1),ha',if_neg ha,go_sem,simprocAttr]
def LO (a b:Ak):Int:=if IntKind.wrap .i64 (a.level - b.level)=0 then IntKind.wrap .i64 (a.index - b.index) else IntKind.wrap .i64 (a.level - b.level)
@[go_sem] theorem s_row (i:Nat) (a b c x y z:Int):Aa (Lv ctx (i+2)) 177 [.agg [iV a,iV b,iV c],.agg [iV x,iV y,iV z]]=some (iV (LO ⟨a,b,c⟩ ⟨x,y,z⟩)):=by
 refine Ac rfl 0 (by rfl) ?_
 delta c177
 simp +contextual -dsimp -implicitDefEqProofs (maxSteps:=5000000) only [LO,List.replicate,go_sem,simprocAttr]
theorem PN (i g:Nat) (pf:Bool) (pw:Bool) (row:List V) (off:Nat) (a:Af) (b:Bool) (hc:Ah tbl g []) (hp:Aa (Lv ctx i) g [.agg [.ip pw row off],(eS pf) a]=some (bV b)):Aa (Lv ctx (i+1)) 146 [(eS pf) a,.ip pw [.fn (.func g) [.agg [.ip pw row off]] []] 0]=some (bV (!b)):=by
 simp only [eS] at hp ⊢
 refine Ac rfl 0 (by rfl) ?_
 delta c146
 simp +contextual -dsimp -implicitDefEqProofs (maxSteps:=5000000) only [hc,hp,go_sem,simprocAttr]
theorem PP (i g:Nat) (pf nn:Bool) (pw:Bool) (row:List V) (off:Nat) (xs:List Af) (p:Af→Bool) (hc:Ah tbl g []) (hx:xs.length≤BB) (hp:∀ a,a∈xs→Aa (Lv ctx i) g [.agg [.ip pw row off],(eS pf) a]=some (bV (p a))):Aa (Lv ctx (i+4)) 120 [.isl pf nn 17 (xs.map (eS pf)),.fn (.func g) [.agg [.ip pw row off]] []]=some (bV (xs.all p)):=by
 have h1:Aa (Lv ctx (i+3)) 145 [.isl pf nn 17 (xs.map (eS pf)),.fn (.func 146) [] [.ip pw [.fn (.func g) [.agg [.ip pw row off]] []] 0]]=some (bV (!(xs.all p))):=by
  rw [Si (i+1) pf nn xs (fun x=>!p x) 146 [.ip pw [.fn (.func g) [.agg [.ip pw row off]] []] 0] (fun _ _ _ _ _ _=>rfl) (fun _=>rfl) (by simp [AL,V.scrub]) rfl (fun a ha=>PN i g pf pw row off a (p a) hc (hp a ha)) hx,Gn]
 refine Ac rfl 0 (by rfl) ?_
 delta c120
 simp +contextual -dsimp -implicitDefEqProofs (maxSteps:=5000000) only [h1,Bool.not_not,go_sem,simprocAttr]
theorem XT (i g:Nat) (pf:Bool) (pw:Bool) (row:List V) (off:Nat) (a:AO) (b:Bool) (hc:Ah tbl g []) (hp:Aa (Lv ctx i) g [.agg [.ip pw row off],eR a]=some (bV b)):Aa (Lv ctx (i+1)) 178 [eR a,.ip pw [.fn (.func g) [.agg [.ip pw row off]] []] 0]=some (bV (!b)):=by
 simp only [eR] at hp ⊢
 refine Ac rfl 0 (by rfl) ?_
 delta c178
 simp +contextual -dsimp -implicitDefEqProofs (maxSteps:=5000000) only [hc,hp,go_sem,simprocAttr]
theorem XY (i g:Nat) (pf nn:Bool) (pw:Bool) (row:List V) (off:Nat) (xs:List AO) (p:AO→Bool) (hc:Ah tbl g []) (hx:xs.length≤BB) (hp:∀ a,a∈xs→Aa (Lv ctx i) g [.agg [.ip pw row off],eR a]=some (bV (p a))):Aa (Lv ctx (i+4)) 149 [.isl pf nn 3 (xs.map eR),.fn (.func g) [.agg [.ip pw row off]] []]=some (bV (xs.all p)):=by
 have h1:Aa (Lv ctx (i+3)) 175 [.isl pf nn 3 (xs.map eR),.fn (.func 178) [] [.ip pw [.fn (.func g) [.agg [.ip pw row off]] []] 0]]=some (bV (!(xs.all p))):=by
  rw [MA (i+1) pf nn xs (fun x=>!p x) 178 [.ip pw [.fn (.func g) [.agg [.ip pw row off]] []] 0] (fun _ _ _ _ _ _=>rfl) (fun _=>rfl) (by simp [AL,V.scrub]) rfl (fun a ha=>XT i g pf pw row off a (p a) hc (hp a ha)) hx,Gn]
 refine Ac rfl 0 (by rfl) ?_
 delta c149
 simp +contextual -dsimp -implicitDefEqProofs (maxSteps:=5000000) only [h1,Bool.not_not,go_sem,simprocAttr]
theorem Uh (i g:Nat) (pf:Bool) (pw:Bool) (row:List V) (off:Nat) (a:Ak) (b:Bool) (hc:Ah tbl g []) (hp:Aa (Lv ctx i) g [.agg [.ip pw row off],eWr a]=some (bV b)):Aa (Lv ctx (i+1)) 181 [eWr a,.ip pw [.fn (.func g) [.agg [.ip pw row off]] []] 0]=some (bV (!b)):=by
 simp only [eWr] at hp ⊢
 refine Ac rfl 0 (by rfl) ?_
 delta c181
 simp +contextual -dsimp -implicitDefEqProofs (maxSteps:=5000000) only [hc,hp,go_sem,simprocAttr]
theorem Un (i g:Nat) (pf nn:Bool) (pw:Bool) (row:List V) (off:Nat) (xs:List Ak) (p:Ak→Bool) (hc:Ah tbl g []) (hx:xs.length≤BB) (hp:∀ a,a∈xs→Aa (Lv ctx i) g [.agg [.ip pw row off],eWr a]=some (bV (p a))):Aa (Lv ctx (i+4)) 151 [.isl pf nn 3 (xs.map eWr),.fn (.func g) [.agg [.ip pw row off]] []]=some (bV (xs.all p)):=by
 have h1:Aa (Lv ctx (i+3)) 180 [.isl pf nn 3 (xs.map eWr),.fn (.func 181) [] [.ip pw [.fn (.func g) [.agg [.ip pw row off]] []] 0]]=some (bV (!(xs.all p))):=by
  rw [Ol (i+1) pf nn xs (fun x=>!p x) 181 [.ip pw [.fn (.func g) [.agg [.ip pw row off]] []] 0] (fun _ _ _ _ _ _=>rfl) (fun _=>rfl) (by simp [AL,V.scrub]) rfl (fun a ha=>Uh i g pf pw row off a (p a) hc (hp a ha)) hx,Gn]
 refine Ac rfl 0 (by rfl) ?_
 delta c151
 simp +contextual -dsimp -implicitDefEqProofs (maxSteps:=5000000) only [h1,Bool.not_not,go_sem,simprocAttr]
theorem XU (i g:Nat) (pf:Bool) (pw:Bool) (row:List V) (off:Nat) (a:Av) (b:Bool) (hc:Ah tbl g []) (hp:Aa (Lv ctx i) g [.agg [.ip pw row off],eI a]=some (bV b)):Aa (Lv ctx (i+1)) 183 [eI a,.ip pw [.fn (.func g) [.agg [.ip pw row off]] []] 0]=some (bV (!b)):=by
 simp only [eI] at hp ⊢
 refine Ac rfl 0 (by rfl) ?_
 delta c183
 simp +contextual -dsimp -implicitDefEqProofs (maxSteps:=5000000) only [hc,hp,go_sem,simprocAttr]
theorem XZ (i g:Nat) (pf nn:Bool) (pw:Bool) (row:List V) (off:Nat) (xs:List Av) (p:Av→Bool) (hc:Ah tbl g []) (hx:xs.length≤BB) (hp:∀ a,a∈xs→Aa (Lv ctx i) g [.agg [.ip pw row off],eI a]=some (bV (p a))):Aa (Lv ctx (i+4)) 153 [.isl pf nn 4 (xs.map eI),.fn (.func g) [.agg [.ip pw row off]] []]=some (bV (xs.all p)):=by
 have h1:Aa (Lv ctx (i+3)) 182 [.isl pf nn 4 (xs.map eI),.fn (.func 183) [] [.ip pw [.fn (.func g) [.agg [.ip pw row off]] []] 0]]=some (bV (!(xs.all p))):=by
  rw [ZY (i+1) pf nn xs (fun x=>!p x) 183 [.ip pw [.fn (.func g) [.agg [.ip pw row off]] []] 0] (fun _ _ _ _ _ _=>rfl) (fun _=>rfl) (by simp [AL,V.scrub]) rfl (fun a ha=>XU i g pf pw row off a (p a) hc (hp a ha)) hx,Gn]
 refine Ac rfl 0 (by rfl) ?_
 delta c153
 simp +contextual -dsimp -implicitDefEqProofs (maxSteps:=5000000) only [h1,Bool.not_not,go_sem,simprocAttr]
theorem Ui (i g:Nat) (pf:Bool) (a:Bl) (b:Bool) (hc:Ah tbl g []) (hp:Aa (Lv ctx i) g [eE a]=some (bV b)):Aa (Lv ctx (i+1)) 158 [eE a,.ip true [.fn (.func g) [] []] 0]=some (bV (!b)):=by
 simp only [eE] at hp ⊢
 refine Ac rfl 0 (by rfl) ?_
 delta c158
 simp +contextual -dsimp -implicitDefEqProofs (maxSteps:=5000000) only [hc,hp,go_sem,simprocAttr]
theorem Uo (i g:Nat) (pf nn:Bool) (xs:List Bl) (p:Bl→Bool) (hc:Ah tbl g []) (hx:xs.length≤BB) (hp:∀ a,a∈xs→Aa (Lv ctx i) g [eE a]=some (bV (p a))):Aa (Lv ctx (i+4)) 122 [.isl pf nn 4 (xs.map eE),.fn (.func g) [] []]=some (bV (xs.all p)):=by
 have h1:Aa (Lv ctx (i+3)) 157 [.isl pf nn 4 (xs.map eE),.fn (.func 158) [] [.ip true [.fn (.func g) [] []] 0]]=some (bV (!(xs.all p))):=by
  rw [XX (i+1) pf nn xs (fun x=>!p x) 158 [.ip true [.fn (.func g) [] []] 0] (fun _ _ _ _ _ _=>rfl) (fun _=>rfl) (by simp [AL,V.scrub]) rfl (fun a ha=>Ui i g pf a (p a) hc (hp a ha)) hx,Gn]
 refine Ac rfl 0 (by rfl) ?_
 delta c122
 simp +contextual -dsimp -implicitDefEqProofs (maxSteps:=5000000) only [h1,Bool.not_not,go_sem,simprocAttr]
@[go_sem] theorem iM (i:Nat) (p a b c d na nb nc nd:Bool) (w0 w1 w2 w3:List Al) (r:List V) (x y z:Int):Aa (Lv ctx (i+3)) 150 [.agg [.ip p (.isl a na 3 (w0.map eW)::.isl b nb 3 (w1.map eW)::.isl c nc 3 (w2.map eW)::.isl d nd 3 (w3.map eW)::r) 0],.agg [iV x,iV y,iV z]]=some (bV (AW ⟨w0,w1,w2,w3⟩ x y)):=by
 refine Ac rfl 0 (by rfl) ?_
 delta c150
 simp +contextual -dsimp -implicitDefEqProofs (maxSteps:=5000000) only [go_sem,simprocAttr]
@[go_sem] theorem ZR (i:Nat) (p a b c d na nb nc nd:Bool) (w0 w1 w2 w3:List Al) (r:List V) (x y z:Int):Aa (Lv ctx (i+3)) 152 [.agg [.ip p (.isl a na 3 (w0.map eW)::.isl b nb 3 (w1.map eW)::.isl c nc 3 (w2.map eW)::.isl d nd 3 (w3.map eW)::r) 0],.agg [iV x,iV y,iV z]]=some (bV (AW ⟨w0,w1,w2,w3⟩ x y)):=by
 refine Ac rfl 0 (by rfl) ?_
 delta c152
 simp +contextual -dsimp -implicitDefEqProofs (maxSteps:=5000000) only [go_sem,simprocAttr]
@[go_sem] theorem iN (i:Nat) (p a b c d na nb nc nd:Bool) (w0 w1 w2 w3:List Al) (r:List V) (x y z t:Int):Aa (Lv ctx (i+3)) 154 [.agg [.ip p (.isl a na 3 (w0.map eW)::.isl b nb 3 (w1.map eW)::.isl c nc 3 (w2.map eW)::.isl d nd 3 (w3.map eW)::r) 0],.agg [iV x,iV y,iV z,iV t]]=some (bV (!(Gx x)||AW ⟨w0,w1,w2,w3⟩ z t)):=by
 refine Ac rfl 0 (by rfl) ?_
 delta c154
 simp +contextual -dsimp -implicitDefEqProofs (maxSteps:=5000000) only [go_sem,simprocAttr]
@[go_sem] theorem iP (i:Nat) (a b c d:Int):Aa (Lv ctx (i+2)) 119 [.agg [iV a,iV b,iV c,iV d]]=some (bV (inR b 3)):=by
 refine Ac rfl 0 (by rfl) ?_
 delta c119
 simp +contextual -dsimp -implicitDefEqProofs (maxSteps:=5000000) only [go_sem,simprocAttr]
theorem PI (i:Nat) (pf nn:Bool) (a b c:Int) (xs:List Av) (hx:xs.length≤BB):Aa (Lv ctx (i+5)) 17 [.agg [iV a,iV b,iV c,.isl pf nn 4 (xs.map eI)]]=some (bV (Cm a b c xs)):=by
 have hp:=ZN (i+0) pf nn xs hx
 refine Ac rfl 0 (by rfl) ?_
 delta c17
 simp +contextual -dsimp -implicitDefEqProofs (maxSteps:=5000000) only [Cm,hp,go_sem,simprocAttr]
end Ve
namespace Ve
open Go Ve.Ab
set_option maxHeartbeats 16000000
set_option maxRecDepth 10000
theorem Yc {v a:Ak} (hv:Az v=true) (ha:Az a=true):decide (0≤LO v a)=!decide (AC v.level v.index<AC a.level a.index):=by
 simp only [Az,inR,Bool.and_eq_true,decide_eq_true_eq] at hv ha
 have e1:=EH (a:=v.level - a.level) (by omega) (by omega)
 have e2:=EH (a:=v.index - a.index) (by omega) (by omega)
 simp only [wr] at e1 e2
 have h:(0≤LO v a)↔¬ (AC v.level v.index<AC a.level a.index):=by
  simp only [LO,e1,e2,AC]
  split<;>omega
 by_cases hp:AC v.level v.index<AC a.level a.index
 ·simp [hp,h]
 ·simp [hp,h]
theorem SS (i k:Nat) (pf nn:Bool) (xs:List Ak) (hx:xs.length≤BB) (q:Out→St→Option Ans) (Q:V→Hp→Nat→Prop) (u:Dum (fun s q=>evC ctx (Lv ctx (i+2)) (Aa (Lv ctx (i+2))) k Ge s (As [0,5,6,7] q))) (w:Dum q) (X1 X2:Prop)
  (hq1:∀ h n,Fin (q (.exit 0) ⟨Ae [0] [.isl pf nn 3 (xs.map eWr)],h,n⟩) Q=X1) (hq2:∀ h n,Fin (q .ret ⟨Ae [2] [bV false],h,n⟩) Q=X2):∀ (suf pre:List Ak) (kk:Nat) (h:Hp) (n:Nat),xs=pre++suf→suf.length<kk→(∀ v,pre.getLast?=some v→Az v=true) →
  GL 0 [0,5,6,7] (fun s q=>evC ctx (Lv ctx (i+2)) (Aa (Lv ctx (i+2))) k Ge s (As [0,5,6,7] q)) q kk ⟨Ae [0,5,6,7] [.isl pf nn 3 (xs.map eWr),.isl pf nn 3 (xs.map eWr),iV xs.length,iV pre.length],h,n⟩ Q u w =
  Fc (AV pre.getLast? suf) X1 X2
 | [],pre,kk,h,n,hxs,hk,hv=>by
  obtain ⟨kk,rfl⟩:∃ m,kk=m+1:=⟨kk - 1,by simp at hk;omega⟩
  have h1:decide ((pre.length:Int)<xs.length)=false:=by simp [hxs]
  have h2:∀ o,AV o []=true:=fun o=>by cases o<;>rfl
  simp +contextual -dsimp -implicitDefEqProofs (maxSteps:=5000000) only [gLs,↓Aj (Ge.eq_1),h1,Bc,h2,hq1,go_sem,simprocAttr]
 | a::suf,pre,kk,h,n,hxs,hk,hv=>by
  obtain ⟨kk,rfl⟩:∃ m,kk=m+1:=⟨kk - 1,by simp at hk;omega⟩
  have hl:pre.length<xs.length:=by simp [hxs]
  have h2:((pre.length:Int)<xs.length)=True:=by simpa using hl
  have h3:(0≤(pre.length:Int))=True:=by simp
  have h4:=wrN pre.length (by omega)
  have hg:xs[pre.length]?=some a:=by simp [hxs]
  have ih:=fun h n hv=>SS i k pf nn xs hx q Q u w X1 X2 hq1 hq2 suf (pre++[a]) kk h n (by simp [hxs]) (by simpa using hk) hv
  rw [Ao] at ih
  simp only [List.getLast?_append,List.getLast?_singleton,Option.some_or,Option.some.injEq,forall_eq'] at ih
  rcases List.eq_nil_or_concat pre with rfl | ⟨L,v,rfl⟩
  ·simp only [List.length_nil,Nu] at *
   cases c1:inR a.level 3
   ·simp +contextual -dsimp -implicitDefEqProofs (maxSteps:=5000000) only [gLs,↓Aj (Ge.eq_1),h2,h3,h4,hg,Ax,hq2,AV,Az,c1,List.getLast?_nil,go_sem,simprocAttr]
   ·cases c2:inR a.index 3
    ·simp +contextual -dsimp -implicitDefEqProofs (maxSteps:=5000000) only [gLs,↓Aj (Ge.eq_1),h2,h3,h4,hg,Ax,hq2,AV,Az,c1,c2,List.getLast?_nil,go_sem,simprocAttr]
    ·cases c3:inR a.val 255
     ·simp +contextual -dsimp -implicitDefEqProofs (maxSteps:=5000000) only [gLs,↓Aj (Ge.eq_1),h2,h3,h4,hg,Ax,hq2,AV,Az,c1,c2,c3,List.getLast?_nil,go_sem,simprocAttr]
     ·have ih':=fun h n=>ih h n (by simp only [Az,c1,c2,c3,Bool.and_self])
      simp only [Nat.zero_add,Tz] at ih'
      simp +contextual -dsimp -implicitDefEqProofs (maxSteps:=5000000) only [gLs,↓Aj (Ge.eq_1),h2,h3,h4,hg,AV,Az,c1,c2,c3,ih',List.getLast?_nil,go_sem,simprocAttr]
  ·have hv1:Az v=true:=hv v (by simp)
   have hlen:(L.concat v).length=L.length+1:=by simp
   have hlast:(L.concat v).getLast?=some v:=by simp
   rw [hlen] at h2 h3 h4 hg ih
   rw [hlen,hlast]
   have h6:IntKind.wrap .i64 (((L.length+1:Nat):Int) - 1)=(L.length:Int):=by
    have:=EH (a:=(L.length:Int)) (by omega) (by simp [hlen] at hl;simp only [BB] at hx;omega)
    simp only [wr] at this
    rw [show (((L.length+1:Nat):Int) - 1)=(L.length:Int) by omega,this]
   have h7:((L.length:Int)<xs.length)=True:=by simp only [eq_iff_iff,iff_true];rw [hlen] at hl;omega
   have h8:(0≤(L.length:Int))=True:=by simp
   have h9:decide (0<((L.length+1:Nat):Int))=true:=by simp only [decide_eq_true_eq];omega
   have hg':xs[L.length]?=some v:=by simp [hxs]
   cases c1:inR a.level 3
   ·simp +contextual -dsimp -implicitDefEqProofs (maxSteps:=5000000) only [gLs,↓Aj (Ge.eq_1),h2,h3,h4,hg,Ax,hq2,AV,Az,c1,go_sem,simprocAttr]
   ·cases c2:inR a.index 3
    ·simp +contextual -dsimp -implicitDefEqProofs (maxSteps:=5000000) only [gLs,↓Aj (Ge.eq_1),h2,h3,h4,hg,Ax,hq2,AV,Az,c1,c2,go_sem,simprocAttr]
    ·cases c3:inR a.val 255
     ·simp +contextual -dsimp -implicitDefEqProofs (maxSteps:=5000000) only [gLs,↓Aj (Ge.eq_1),h2,h3,h4,hg,Ax,hq2,AV,Az,c1,c2,c3,go_sem,simprocAttr]
     ·have ha1:Az a=true:=by simp only [Az,c1,c2,c3,Bool.and_self]
      have ih':=fun h n=>ih h n ha1
      have hr:=Yc hv1 ha1
      cases c4:decide (AC v.level v.index<AC a.level a.index)<;>rw [c4] at hr <;>
       simp +contextual -dsimp -implicitDefEqProofs (maxSteps:=5000000) only [gLs,↓Aj (Ge.eq_1),h2,h3,h4,h6,h7,h8,h9,hg,hg',hr,AV,ha1,c1,c2,c3,c4,ih',Ax,hq2,go_sem,simprocAttr]
theorem Ip (i:Nat) (pf nn:Bool) (xs:List Ak) (hx:xs.length≤BB):Aa (Lv ctx (i+3)) 148 [.isl pf nn 3 (xs.map eWr)]=some (bV (AS xs)):=by
 refine Ac rfl (xs.length+1) (by rfl) ?_
 delta c148
 have h2:=fun q Q u w h1 h2=>SS i (xs.length+1) pf nn xs hx q Q u w (Fin (q (.exit 0) ⟨Ae [0] [.isl pf nn 3 (xs.map eWr)],Ag,0⟩) Q) (Fin (q .ret ⟨Ae [2] [bV false],Ag,0⟩) Q) h1 h2 xs [] (xs.length+1) Ag 0 rfl (by omega) (by simp)
 simp only [List.length_nil,Int.natCast_zero,List.getLast?_nil] at h2
 have h5:decide ((xs.length:Int)≤16)=decide (xs.length≤16):=by apply decide_eq_decide.mpr;omega
 simp +contextual -dsimp -implicitDefEqProofs (maxSteps:=5000000) only [AS,h5,go_sem,simprocAttr]
 refine Eq.mpr (h2 _ _ _ _ (fun h n=>by simp +contextual -dsimp -implicitDefEqProofs (maxSteps:=5000000) only [go_sem,simprocAttr]) (fun h n=>by simp +contextual -dsimp -implicitDefEqProofs (maxSteps:=5000000) only [go_sem,simprocAttr])) ?_
 cases hb:AV none xs<;>simp +contextual -dsimp -implicitDefEqProofs (maxSteps:=5000000) only [Bc,Ax,h5,go_sem,simprocAttr]
end Ve
namespace Ve
open Go Ve.Ab
set_option maxHeartbeats 16000000
set_option maxRecDepth 10000
attribute [go_sem] Bool.and_self
theorem SmS.p {s:Af} (h:SmS s):s.prog.length≤BB:=by have:=h.bp;simp only [BB];omega
theorem SmS.r {s:Af} (h:SmS s):s.reads.length≤BB:=by have:=h.br;simp only [BB];omega
theorem SmS.w {s:Af} (h:SmS s):s.writes.length≤BB:=by have:=h.bw;simp only [BB];omega
theorem SmM.w0 {m:Ad} (h:SmM m):m.words.a0.length≤BB:=by have:=h.b0;simp only [BB];omega
theorem SmM.w1 {m:Ad} (h:SmM m):m.words.a1.length≤BB:=by have:=h.b1;simp only [BB];omega
theorem SmM.w2 {m:Ad} (h:SmM m):m.words.a2.length≤BB:=by have:=h.b2;simp only [BB];omega
theorem SmM.w3 {m:Ad} (h:SmM m):m.words.a3.length≤BB:=by have:=h.b3;simp only [BB];omega
theorem SmM.ss {m:Ad} (h:SmM m):m.sess.length≤BB:=by have:=h.bs;simp only [BB];omega
theorem SmM.tr {m:Ad} (h:SmM m):m.trace.length≤BB:=by have:=h.bt;simp only [BB];omega
theorem iL (i:Nat) (pw a b c d na nb nc nd pf:Bool) (w0 w1 w2 w3:List Al) (r:List V) (s:Af) (hs:SmS s):Aa (Lv ctx (i+9)) 121
  [.agg [.ip pw (.isl a na 3 (w0.map eW)::.isl b nb 3 (w1.map eW)::.isl c nc 3 (w2.map eW)::.isl d nd 3 (w3.map eW)::r) 0],eS pf s]=some (bV (AY ⟨w0,w1,w2,w3⟩ s)):=by
 have h1:Aa (Lv ctx (i+8)) 17 [.agg [iV s.id,iV s.label,iV s.clear,.isl pf false 4 (s.prog.map eI)]]=_:=PI (i+3) pf false s.id s.label s.clear s.prog hs.p
 have h2:Aa (Lv ctx (i+8)) 147 [.isl pf false 3 (s.reads.map eR)]=_:=LV (i+4) pf false s.reads hs.r
 have h3:Aa (Lv ctx (i+8)) 148 [.isl pf false 3 (s.writes.map eWr)]=_:=Ip (i+5) pf false s.writes hs.w
 have h4:=XY (i+4) 150 pf false pw (.isl a na 3 (w0.map eW)::.isl b nb 3 (w1.map eW)::.isl c nc 3 (w2.map eW)::.isl d nd 3 (w3.map eW)::r) 0 s.reads (fun x=>AW ⟨w0,w1,w2,w3⟩ x.level x.index) (fun _ _ _ _ _ _=>rfl) hs.r
  (fun x _=>by simp only [eR];exact iM (i+1) pw a b c d na nb nc nd w0 w1 w2 w3 r x.level x.index x.ver)
 have h5:=Un (i+4) 152 pf false pw (.isl a na 3 (w0.map eW)::.isl b nb 3 (w1.map eW)::.isl c nc 3 (w2.map eW)::.isl d nd 3 (w3.map eW)::r) 0 s.writes (fun x=>AW ⟨w0,w1,w2,w3⟩ x.level x.index) (fun _ _ _ _ _ _=>rfl) hs.w
  (fun x _=>by simp only [eWr];exact ZR (i+1) pw a b c d na nb nc nd w0 w1 w2 w3 r x.level x.index x.val)
 have h6:=XZ (i+4) 154 pf false pw (.isl a na 3 (w0.map eW)::.isl b nb 3 (w1.map eW)::.isl c nc 3 (w2.map eW)::.isl d nd 3 (w3.map eW)::r) 0 s.prog (fun x=>!(Gx x.code)||AW ⟨w0,w1,w2,w3⟩ x.b x.c) (fun _ _ _ _ _ _=>rfl) hs.p
  (fun x _=>by simp only [eI];exact iN (i+1) pw a b c d na nb nc nd w0 w1 w2 w3 r x.code x.a x.b x.c)
 simp only [Nat.add_assoc,Nat.reduceAdd,Nat.reduceSub] at h1 h2 h3 h4 h5 h6
 simp only [eS]
 refine Ac rfl 0 (by rfl) ?_
 delta c121
 simp +contextual -dsimp -implicitDefEqProofs (maxSteps:=5000000) only [h1,h2,h3,h4,h5,h6,go_sem,simprocAttr]
 simp only [AY,AD,Cc,Cr,CX,A4.all,DH]
theorem lK (e a b:Int):e<max2 a b↔e<a∨e<b:=by
 simp only [max2];split<;>omega
theorem YJ (a b c d e:Int):(DH 65535 a b c d&&inR e 65535&&!decide (e<max2 (max2 (max2 a b) c) d))=(inR e 65535&&DH e a b c d):=by
 rw [Bool.eq_iff_iff]
 simp only [DH,inR,lK,Bool.and_eq_true,decide_eq_true_eq,Bool.not_eq_true',decide_eq_false_iff_not]
 omega
theorem oZ (i k:Nat) (p pf:Bool) (m:Ad) (hx:m.sess.length≤BB) (q:Out→St→Option Ans) (Q:V→Hp→Nat→Prop) (u:Dum (fun s q=>evC ctx (Lv ctx i) (Aa (Lv ctx i)) k Ny s (As [1,38,39] q))) (w:Dum q):∀ (suf pre:List Af) (kk:Nat),m.sess=pre++suf→suf.length<kk →
  GL 0 [1,38,39] (fun s q=>evC ctx (Lv ctx i) (Aa (Lv ctx i)) k Ny s (As [1,38,39] q)) q kk ⟨Ae [1,38,39] [.ip p (cM pf m) 0,iV m.sess.length,iV pre.length],Ag,0⟩ Q u w =
  Fc (EM (pre.getLast?.map (·.id)) suf) (Fin (q (.exit 0) ⟨Ae [1] [.ip p (cM pf m) 0],Ag,0⟩) Q) (Fin (q .ret ⟨Ae [2] [bV false],Ag,0⟩) Q)
 | [],pre,kk,hxs,hk=>by
  obtain ⟨kk,rfl⟩:∃ m,kk=m+1:=⟨kk - 1,by simp at hk;omega⟩
  have h1:decide ((pre.length:Int)<m.sess.length)=false:=by simp [hxs]
  have h2:∀ o,EM o []=true:=fun o=>by cases o<;>rfl
  simp +contextual -dsimp -implicitDefEqProofs (maxSteps:=5000000) only [gLs,↓Aj (Ny.eq_1),h1,Bc,h2,go_sem,simprocAttr]
 | a::suf,pre,kk,hxs,hk=>by
  obtain ⟨kk,rfl⟩:∃ m,kk=m+1:=⟨kk - 1,by simp at hk;omega⟩
  have hl:pre.length<m.sess.length:=by simp [hxs]
  have h2:((pre.length:Int)<m.sess.length)=True:=by simpa using hl
  have h3:(0≤(pre.length:Int))=True:=by simp
  have h4:=wrN pre.length (by omega)
  have hg:m.sess[pre.length]?=some a:=by simp [hxs]
  have ih:=oZ i k p pf m hx q Q u w suf (pre++[a]) kk (by simp [hxs]) (by simpa using hk)
  rw [Ao] at ih
  simp only [List.getLast?_append,List.getLast?_singleton,Option.some_or,Option.map_some] at ih
  rcases List.eq_nil_or_concat pre with rfl | ⟨L,v,rfl⟩
  ·simp only [List.length_nil,Nu] at *
   simp only [Nat.zero_add,Tz] at ih
   simp +contextual -dsimp -implicitDefEqProofs (maxSteps:=5000000) only [gLs,↓Aj (Ny.eq_1),h2,h3,h4,hg,ih,EM,List.getLast?_nil,go_sem,simprocAttr]
  ·have hlen:(L.concat v).length=L.length+1:=by simp
   have hlast:(L.concat v).getLast?=some v:=by simp
   rw [hlen] at h2 h3 h4 hg ih
   rw [hlen,hlast]
   have h6:IntKind.wrap .i64 (((L.length+1:Nat):Int) - 1)=(L.length:Int):=by
    have:=EH (a:=(L.length:Int)) (by omega) (by simp [hlen] at hl;simp only [BB] at hx;omega)
    simp only [wr] at this
    rw [show (((L.length+1:Nat):Int) - 1)=(L.length:Int) by omega,this]
   have h7:((L.length:Int)<m.sess.length)=True:=by simp only [eq_iff_iff,iff_true];rw [hlen] at hl;omega
   have h8:(0≤(L.length:Int))=True:=by simp
   have h9:decide (0<((L.length+1:Nat):Int))=true:=by simp only [decide_eq_true_eq];omega
   have hg':m.sess[L.length]?=some v:=by simp [hxs]
   by_cases hlt:v.id<a.id
   ·have c1:decide (a.id≤v.id)=false:=by simp;omega
    have c2:decide (v.id<a.id)=true:=by simp;omega
    simp +contextual -dsimp -implicitDefEqProofs (maxSteps:=5000000) only [gLs,↓Aj (Ny.eq_1),h2,h3,h4,h6,h7,h8,h9,hg,hg',c1,c2,ih,EM,go_sem,simprocAttr]
   ·have c1:decide (a.id≤v.id)=true:=by simp;omega
    have c2:decide (v.id<a.id)=false:=by simp;omega
    simp +contextual -dsimp -implicitDefEqProofs (maxSteps:=5000000) only [gLs,↓Aj (Ny.eq_1),h2,h3,h4,h6,h7,h8,h9,hg,hg',c1,c2,EM,Ax,go_sem,simprocAttr]
theorem ZQ (i:Nat) (pf:Bool) (m:Ad) (hm:SmM m):Aa (Lv ctx (i+19)) 79 [eM pf m]=some (bV (Ei m)):=by
 have h1:=PP (i+14) 121 pf false pf (cM pf m) 0 m.sess (AY m.words) (fun _ _ _ _ _ _=>rfl) hm.ss
  (fun s hs=>iL (i+5) pf pf pf pf pf false false false false pf m.words.a0 m.words.a1 m.words.a2 m.words.a3 _ s (hm.s s hs))
 have h2:=Uo (i+14) 119 pf false m.trace (fun e=>inR e.label 3) (fun _ _ _ _ _ _=>rfl) hm.tr (fun e _=>by simp only [eE];exact iP (i+12) e.id e.label e.kind e.val)
 simp only [Nat.add_assoc,Nat.reduceAdd] at h1 h2
 refine Ac rfl (m.sess.length+1) (by rfl) ?_
 delta c79
 have h3:=fun q Q u w=>oZ (i+18) (m.sess.length+1) pf pf m hm.ss q Q u w m.sess [] (m.sess.length+1) rfl (by omega)
 simp only [List.length_nil,Int.natCast_zero,List.getLast?_nil,Option.map_none] at h3
 have h4:=YJ m.clocks.a0 m.clocks.a1 m.clocks.a2 m.clocks.a3 m.ceil
 have h5:decide (4<(m.sess.length:Int))=!decide (m.sess.length≤4):=Nn _
 have h6:decide (512<(m.trace.length:Int))=!decide (m.trace.length≤512):=by
  by_cases h:m.trace.length≤512<;>simp [h]<;>omega
 have key:Ei m=((AP m.words&&(DH 65535 m.clocks.a0 m.clocks.a1 m.clocks.a2 m.clocks.a3&&inR m.ceil 65535)&&!decide (m.ceil<max2 (max2 (max2 m.clocks.a0 m.clocks.a1) m.clocks.a2) m.clocks.a3)&&decide (m.sess.length≤4)&&decide (m.trace.length≤512))&&EM none m.sess&&m.sess.all (AY m.words)&&m.trace.all (fun e=>inR e.label 3)):=by
  rw [Bool.and_assoc (AP m.words) (DH 65535 m.clocks.a0 m.clocks.a1 m.clocks.a2 m.clocks.a3&&inR m.ceil 65535),h4]
  simp only [Ei,A4.all,DH,Bool.and_assoc]
 have hb:∀ a b c d e:Bool,(!a||!b||c||!d||!e)=!(a&&b&&!c&&d&&e):=by decide
 have hb':=hb (AP m.words) (DH 65535 m.clocks.a0 m.clocks.a1 m.clocks.a2 m.clocks.a3&&inR m.ceil 65535) (decide (m.ceil<max2 (max2 (max2 m.clocks.a0 m.clocks.a1) m.clocks.a2) m.clocks.a3)) (decide (m.sess.length≤4)) (decide (m.trace.length≤512))
 cases hc:(AP m.words&&(DH 65535 m.clocks.a0 m.clocks.a1 m.clocks.a2 m.clocks.a3&&inR m.ceil 65535)&&!decide (m.ceil<max2 (max2 (max2 m.clocks.a0 m.clocks.a1) m.clocks.a2) m.clocks.a3)&&decide (m.sess.length≤4)&&decide (m.trace.length≤512))<;>rw [hc] at hb' key
 ·rw [key]
  simp +contextual -dsimp -implicitDefEqProofs (maxSteps:=5000000) only [h1,h2,h3,h5,h6,hb',go_sem,simprocAttr]
 ·rw [key]
  simp +contextual -dsimp -implicitDefEqProofs (maxSteps:=5000000) only [h1,h2,h5,h6,hb',go_sem,simprocAttr]
  refine Eq.mpr (h3 _ _ _ _) ?_
  cases hi:EM none m.sess<;>simp +contextual -dsimp -implicitDefEqProofs (maxSteps:=5000000) only [Bc,Ax,h1,h2,go_sem,simprocAttr]
end Ve
namespace Ve
open Go Ve.Ab
set_option maxHeartbeats 16000000
set_option maxRecDepth 10000
@[go_sem] theorem XQ (i:Nat) (pf:Bool) (s:Af) (hs:SmS s):Aa (Lv ctx (i+2)) 57 [eS pf s]=some (oS s):=by
 have h1:((s.prog.length:Int)*32≤140737488355328)=True:=by simpa using hs.bp
 have h2:((s.reads.length:Int)*24≤140737488355328)=True:=by simpa using hs.br
 have h3:((s.writes.length:Int)*24≤140737488355328)=True:=by simpa using hs.bw
 simp only [eS]
 refine Ac rfl 0 (by rfl) ?_
 delta c57
 cases pf<;>simp +contextual -dsimp -implicitDefEqProofs (maxSteps:=5000000) only [h1,h2,h3,go_sem,simprocAttr]
@[go_sem] theorem s_arenaCopy (i:Nat) (p:Bool) (w0 w1 w2 w3:List Al) (h0:(w0.length:Int)*24≤140737488355328) (h1:(w1.length:Int)*24≤140737488355328) (h2:(w2.length:Int)*24≤140737488355328) (h3:(w3.length:Int)*24≤140737488355328):Aa (Lv ctx (i+2)) 54 [.agg [eWs p w0,eWs p w1,eWs p w2,eWs p w3]]=some (.agg [oWs w0,oWs w1,oWs w2,oWs w3]):=by
 have e0:((w0.length:Int)*24≤140737488355328)=True:=by simpa using h0
 have e1:((w1.length:Int)*24≤140737488355328)=True:=by simpa using h1
 have e2:((w2.length:Int)*24≤140737488355328)=True:=by simpa using h2
 have e3:((w3.length:Int)*24≤140737488355328)=True:=by simpa using h3
 refine Ac rfl 5 (by rfl) ?_
 delta c54
 cases p<;>simp +contextual -dsimp -implicitDefEqProofs (maxSteps:=5000000) only [gLs,↓Aj (pI.eq_1),e0,e1,e2,e3,go_sem,simprocAttr]
end Ve
namespace Ve
open Go Ve.Ab
set_option maxHeartbeats 16000000
set_option maxRecDepth 10000
abbrev zM:V:=.agg [.own 3 [],.own 3 [],.own 3 [],.own 3 [],iV 0,iV 0,iV 0,iV 0,iV 0,.own 17 [],.own 4 []]
abbrev hC (m:Ad) (els:List V) (d6 d7:Bool):Hp :=
 pO (pO (pO (pO (pO (pO (pO (pO Ag 0 (some ⟨11,[.agg [.sl 2,.sl 3,.sl 4,.sl 5,iV m.clocks.a0,iV m.clocks.a1,iV m.clocks.a2,iV m.clocks.a3,iV m.ceil,.sl 6,.sl 7]],true⟩))
  1 (some ⟨11,[zM],false⟩)) 2 (some ⟨3,m.words.a0.map eW,false⟩)) 3 (some ⟨3,m.words.a1.map eW,false⟩)) 4 (some ⟨3,m.words.a2.map eW,false⟩)) 5 (some ⟨3,m.words.a3.map eW,false⟩))
  6 (some ⟨17,els,d6⟩)) 7 (some ⟨4,m.trace.map eE,d7⟩)
theorem Wi (i k:Nat) (pf:Bool) (m:Ad) (hm:SmM m) (q:Out→St→Option Ans) (Q:V→Hp→Nat→Prop):∀ (suf pre:List Af) (kk:Nat) (d6:Bool),m.sess=pre++suf→suf.length<kk+1 →
  Fin (evC ctx (Lv ctx (i+2)) (Aa (Lv ctx (i+2))) k TG ⟨Ae [1,2,18,19,20] [.ptr 0 0 0,.ptr 1 0 0,.sl 6,iV m.sess.length,iV pre.length],hC m (pre.map oS++suf.map (eS pf)) d6 (!pf),8⟩
   (As [1,2,18,19,20] fun o s=>Cl (BG 8 [1,2,18,19,20] (fun s q=>evC ctx (Lv ctx (i+2)) (Aa (Lv ctx (i+2))) k TG s (As [1,2,18,19,20] q)) q kk) q o s)) Q =
  Fin (q (.exit 0) ⟨Ae [1,2] [.ptr 0 0 0,.ptr 1 0 0],hC m (m.sess.map oS) (if suf=[] then d6 else true) (!pf),8⟩) Q
 | [],pre,kk,d6,hxs,hk=>by
  have h1:decide ((pre.length:Int)<m.sess.length)=false:=by simp [hxs]
  have h2:m.sess=pre:=by simp [hxs]
  rw [Aj (TG.eq_1),if_pos rfl]
  simp +contextual -dsimp -implicitDefEqProofs (maxSteps:=5000000) only [h1,go_sem,simprocAttr]
  rw [h2]
 | a::suf,pre,kk,d6,hxs,hk=>by
  obtain ⟨kk,rfl⟩:∃ m,kk=m+1:=⟨kk - 1,by simp at hk;omega⟩
  have hl:pre.length<m.sess.length:=by simp [hxs]
  have h2:((pre.length:Int)<m.sess.length)=True:=by simpa using hl
  have h3:(0≤(pre.length:Int))=True:=by simp
  have h4:=wrN pre.length (by have:=hm.ss;omega)
  have hg:(pre.map oS++(a::suf).map (eS pf))[pre.length]?=some (eS pf a):=by simp
  have hlen:(((pre.map oS++(a::suf).map (eS pf)).length:Nat):Int)=m.sess.length:=by simp [hxs]
  have hset:∀ x,(pre.map oS++(a::suf).map (eS pf)).set pre.length x=pre.map oS++x::suf.map (eS pf):=by intro x;simp [List.set_append]
  have hs:=XQ (i+0) pf a (hm.s a (by simp [hxs]))
  have ih:=Wi i k pf m hm q Q suf (pre++[a]) kk true (by simp [hxs]) (by simpa using hk)
  simp only [Ao,List.map_append,List.map_cons,List.map_nil,List.append_assoc,List.cons_append,List.nil_append,oS,ite_self] at ih
  simp only [Nat.add_assoc,Nat.reduceAdd] at hs
  simp only [eS,List.map_cons] at hs hg hlen hset ⊢
  have hif:(if a::suf=[] then d6 else true)=true:=by simp
  rw [Aj (TG.eq_1),hif]
  cases pf<;>cases d6<;>simp +contextual -dsimp -implicitDefEqProofs (maxSteps:=5000000) only [h2,h3,h4,hg,hlen,hset,hs,gLs,go_sem,simprocAttr]<;>exact ih
theorem DE (i:Nat) (pf:Bool) (m:Ad) (hm:SmM m):Aa (Lv ctx (i+3)) 25 [eM pf m]=some (oM m):=by
 have b0:=hm.b0
 have b1:=hm.b1
 have b2:=hm.b2
 have b3:=hm.b3
 have e4:((m.sess.length:Int)*184≤140737488355328)=True:=by simpa using hm.bs
 have e5:((m.trace.length:Int)*32≤140737488355328)=True:=by simpa using hm.bt
 refine Ac rfl (m.sess.length+1) (by rfl) ?_
 delta c25
 have hl:=fun q Q d6=>Wi i (m.sess.length+1) pf m hm q Q m.sess [] m.sess.length d6 rfl (by omega)
 simp only [List.length_nil,Int.natCast_zero,List.map_nil,List.nil_append] at hl
 cases pf
 ·simp +contextual -dsimp -implicitDefEqProofs (maxSteps:=5000000) only [b0,b1,b2,b3,e4,e5,gLs,go_sem,simprocAttr]
  refine Eq.mpr (hl _ _ true) ?_
  generalize (if m.sess=[] then true else true)=dd
  cases dd<;>simp +contextual -dsimp -implicitDefEqProofs (maxSteps:=5000000) only [go_sem,simprocAttr]
 ·simp +contextual -dsimp -implicitDefEqProofs (maxSteps:=5000000) only [b0,b1,b2,b3,e4,e5,gLs,go_sem,simprocAttr]
  refine Eq.mpr (hl _ _ false) ?_
  generalize (if m.sess=[] then false else true)=dd
  cases dd<;>simp +contextual -dsimp -implicitDefEqProofs (maxSteps:=5000000) only [go_sem,simprocAttr]
end Ve
namespace Ve
open Go Ve.Ab
set_option maxHeartbeats 16000000
set_option maxRecDepth 10000
theorem Hm (i:Nat) (p pf:Bool) (m:Ad) (at_:Int) (hm:SmM m):Aa (Lv ctx (i+20)) 50 [.ip p (cM pf m) 0,iV at_]=some (bV (Bq m at_)):=by
 have h1:=ZQ i pf m hm
 refine Ac rfl 0 (by rfl) ?_
 delta c50
 simp +contextual -dsimp -implicitDefEqProofs (maxSteps:=5000000) only [h1,Bq,go_sem,simprocAttr]
abbrev hF (m:Ad) (a1 a2 a3 a4:List V):Hp :=
 pO (pO (pO (pO (pO (pO (pO (pO Ag 0 (some ⟨11,[zM],false⟩)) 1 (some ⟨3,a1,false⟩)) 2 (some ⟨3,a2,false⟩)) 3 (some ⟨3,a3,false⟩)) 4 (some ⟨3,a4,false⟩)) 5 (some ⟨17,m.sess.map oS,false⟩)) 6 (some ⟨4,m.trace.map eE,false⟩))
  7 (some ⟨11,[.agg [.sl 1,.sl 2,.sl 3,.sl 4,iV m.clocks.a0,iV m.clocks.a1,iV m.clocks.a2,iV m.clocks.a3,iV m.ceil,.sl 5,.sl 6]],true⟩)
theorem Wm (i k:Nat) (m:Ad) (hm:SmM m) (id c:Int) (hc:IntKind.wrap .i64 (id+1)=c) (q:Out→St→Option Ans) (Q:V→Hp→Nat→Prop):∀ (suf pre:List Al) (kk:Nat),m.words.a0=pre++suf→suf.length<kk+1 →
  Fin (evC ctx (Lv ctx i) (Aa (Lv ctx i)) k Es ⟨Ae [0,1,4,5] [.ptr 7 0 0,iV id,iV 0,iV pre.length],hF m ((pre.map (Ap c)).map eW++suf.map eW) (m.words.a1.map eW) (m.words.a2.map eW) (m.words.a3.map eW),8⟩ (As [0,1,4,5] fun o s=>Cl (BG 8 [0,1,4,5] (fun s q=>evC ctx (Lv ctx i) (Aa (Lv ctx i)) k Es s (As [0,1,4,5] q)) q kk) q o s)) Q=Fin (q (.exit 0) ⟨Ae [0,1,4] [.ptr 7 0 0,iV id,iV 0],hF m ((m.words.a0.map (Ap c)).map eW) (m.words.a1.map eW) (m.words.a2.map eW) (m.words.a3.map eW),8⟩) Q
 | [],pre,kk,hxs,hk=>by
  have h1:decide ((pre.length:Int)<(pre.length:Int))=false:=by simp
  have h2:m.words.a0=pre:=by simp [hxs]
  rw [Aj (Es.eq_1)]
  simp only [List.map_nil,List.append_nil]
  rw [h2]
  simp +contextual -dsimp -implicitDefEqProofs (maxSteps:=5000000) only [h1,List.length_map,go_sem,simprocAttr]
  all_goals (try rfl)
 | a::suf,pre,kk,hxs,hk=>by
  obtain ⟨kk,rfl⟩:∃ m,kk=m+1:=⟨kk - 1,by simp at hk;omega⟩
  have hl:pre.length<((pre.map (Ap c)).map eW++(a::suf).map eW).length:=by simp
  have h2:((pre.length:Int)<((((pre.map (Ap c)).map eW++(a::suf).map eW).length:Nat):Int))=True:=by simp;omega
  have h3:(0≤(pre.length:Int))=True:=by simp
  have h4:=wrN pre.length (by have:=hm.w0;rw [hxs] at this;simp at this;omega)
  have hg:((pre.map (Ap c)).map eW++(a::suf).map eW)[pre.length]?=some (eW a):=by simp
  have hset:∀ x,((pre.map (Ap c)).map eW++(a::suf).map eW).set pre.length x=(pre.map (Ap c)).map eW++x::suf.map eW:=by intro x;simp [List.set_append]
  have ih:=Wm i k m hm id c hc q Q suf (pre++[a]) kk (by simp [hxs]) (by simpa using hk)
  simp only [Ao,List.map_append,List.map_cons,List.map_nil,List.append_assoc,List.cons_append,List.nil_append] at ih
  by_cases hlk:a.lock=c
  ·have h5:decide (a.lock=c)=true:=by simpa using hlk
   simp only [Ap,hlk,if_true,eW] at ih
   simp only [eW,List.map_cons,Ap] at h2 hg hset ⊢
   rw [Aj (Es.eq_1)]
   simp +contextual -dsimp -implicitDefEqProofs (maxSteps:=5000000) only [h2,h3,h4,hg,hset,hc,h5,gLs,go_sem,simprocAttr]
   exact ih
  ·have h5:decide (a.lock=c)=false:=by simpa using hlk
   simp only [Ap,hlk,if_false,eW] at ih
   simp only [eW,List.map_cons,Ap] at h2 hg hset ⊢
   rw [Aj (Es.eq_1)]
   simp +contextual -dsimp -implicitDefEqProofs (maxSteps:=5000000) only [h2,h3,h4,hg,hset,hc,h5,gLs,go_sem,simprocAttr]
   exact ih
theorem Wl (i k:Nat) (m:Ad) (hm:SmM m) (id c:Int) (hc:IntKind.wrap .i64 (id+1)=c) (q:Out→St→Option Ans) (Q:V→Hp→Nat→Prop):∀ (suf pre:List Al) (kk:Nat),m.words.a1=pre++suf→suf.length<kk+1 →
  Fin (evC ctx (Lv ctx i) (Aa (Lv ctx i)) k Es ⟨Ae [0,1,4,5] [.ptr 7 0 0,iV id,iV 1,iV pre.length],hF m ((m.words.a0.map (Ap c)).map eW) ((pre.map (Ap c)).map eW++suf.map eW) (m.words.a2.map eW) (m.words.a3.map eW),8⟩ (As [0,1,4,5] fun o s=>Cl (BG 8 [0,1,4,5] (fun s q=>evC ctx (Lv ctx i) (Aa (Lv ctx i)) k Es s (As [0,1,4,5] q)) q kk) q o s)) Q=Fin (q (.exit 0) ⟨Ae [0,1,4] [.ptr 7 0 0,iV id,iV 1],hF m ((m.words.a0.map (Ap c)).map eW) ((m.words.a1.map (Ap c)).map eW) (m.words.a2.map eW) (m.words.a3.map eW),8⟩) Q
 | [],pre,kk,hxs,hk=>by
  have h1:decide ((pre.length:Int)<(pre.length:Int))=false:=by simp
  have h2:m.words.a1=pre:=by simp [hxs]
  rw [Aj (Es.eq_1)]
  simp only [List.map_nil,List.append_nil]
  rw [h2]
  simp +contextual -dsimp -implicitDefEqProofs (maxSteps:=5000000) only [h1,List.length_map,go_sem,simprocAttr]
  all_goals (try rfl)
 | a::suf,pre,kk,hxs,hk=>by
  obtain ⟨kk,rfl⟩:∃ m,kk=m+1:=⟨kk - 1,by simp at hk;omega⟩
  have hl:pre.length<((pre.map (Ap c)).map eW++(a::suf).map eW).length:=by simp
  have h2:((pre.length:Int)<((((pre.map (Ap c)).map eW++(a::suf).map eW).length:Nat):Int))=True:=by simp;omega
  have h3:(0≤(pre.length:Int))=True:=by simp
  have h4:=wrN pre.length (by have:=hm.w1;rw [hxs] at this;simp at this;omega)
  have hg:((pre.map (Ap c)).map eW++(a::suf).map eW)[pre.length]?=some (eW a):=by simp
  have hset:∀ x,((pre.map (Ap c)).map eW++(a::suf).map eW).set pre.length x=(pre.map (Ap c)).map eW++x::suf.map eW:=by intro x;simp [List.set_append]
  have ih:=Wl i k m hm id c hc q Q suf (pre++[a]) kk (by simp [hxs]) (by simpa using hk)
  simp only [Ao,List.map_append,List.map_cons,List.map_nil,List.append_assoc,List.cons_append,List.nil_append] at ih
  by_cases hlk:a.lock=c
  ·have h5:decide (a.lock=c)=true:=by simpa using hlk
   simp only [Ap,hlk,if_true,eW] at ih
   simp only [eW,List.map_cons,Ap] at h2 hg hset ⊢
   rw [Aj (Es.eq_1)]
   simp +contextual -dsimp -implicitDefEqProofs (maxSteps:=5000000) only [h2,h3,h4,hg,hset,hc,h5,gLs,go_sem,simprocAttr]
   exact ih
  ·have h5:decide (a.lock=c)=false:=by simpa using hlk
   simp only [Ap,hlk,if_false,eW] at ih
   simp only [eW,List.map_cons,Ap] at h2 hg hset ⊢
   rw [Aj (Es.eq_1)]
   simp +contextual -dsimp -implicitDefEqProofs (maxSteps:=5000000) only [h2,h3,h4,hg,hset,hc,h5,gLs,go_sem,simprocAttr]
   exact ih
theorem Wk (i k:Nat) (m:Ad) (hm:SmM m) (id c:Int) (hc:IntKind.wrap .i64 (id+1)=c) (q:Out→St→Option Ans) (Q:V→Hp→Nat→Prop):∀ (suf pre:List Al) (kk:Nat),m.words.a2=pre++suf→suf.length<kk+1 →
  Fin (evC ctx (Lv ctx i) (Aa (Lv ctx i)) k Es ⟨Ae [0,1,4,5] [.ptr 7 0 0,iV id,iV 2,iV pre.length],hF m ((m.words.a0.map (Ap c)).map eW) ((m.words.a1.map (Ap c)).map eW) ((pre.map (Ap c)).map eW++suf.map eW) (m.words.a3.map eW),8⟩ (As [0,1,4,5] fun o s=>Cl (BG 8 [0,1,4,5] (fun s q=>evC ctx (Lv ctx i) (Aa (Lv ctx i)) k Es s (As [0,1,4,5] q)) q kk) q o s)) Q=Fin (q (.exit 0) ⟨Ae [0,1,4] [.ptr 7 0 0,iV id,iV 2],hF m ((m.words.a0.map (Ap c)).map eW) ((m.words.a1.map (Ap c)).map eW) ((m.words.a2.map (Ap c)).map eW) (m.words.a3.map eW),8⟩) Q
 | [],pre,kk,hxs,hk=>by
  have h1:decide ((pre.length:Int)<(pre.length:Int))=false:=by simp
  have h2:m.words.a2=pre:=by simp [hxs]
  rw [Aj (Es.eq_1)]
  simp only [List.map_nil,List.append_nil]
  rw [h2]
  simp +contextual -dsimp -implicitDefEqProofs (maxSteps:=5000000) only [h1,List.length_map,go_sem,simprocAttr]
  all_goals (try rfl)
 | a::suf,pre,kk,hxs,hk=>by
  obtain ⟨kk,rfl⟩:∃ m,kk=m+1:=⟨kk - 1,by simp at hk;omega⟩
  have hl:pre.length<((pre.map (Ap c)).map eW++(a::suf).map eW).length:=by simp
  have h2:((pre.length:Int)<((((pre.map (Ap c)).map eW++(a::suf).map eW).length:Nat):Int))=True:=by simp;omega
  have h3:(0≤(pre.length:Int))=True:=by simp
  have h4:=wrN pre.length (by have:=hm.w2;rw [hxs] at this;simp at this;omega)
  have hg:((pre.map (Ap c)).map eW++(a::suf).map eW)[pre.length]?=some (eW a):=by simp
  have hset:∀ x,((pre.map (Ap c)).map eW++(a::suf).map eW).set pre.length x=(pre.map (Ap c)).map eW++x::suf.map eW:=by intro x;simp [List.set_append]
  have ih:=Wk i k m hm id c hc q Q suf (pre++[a]) kk (by simp [hxs]) (by simpa using hk)
  simp only [Ao,List.map_append,List.map_cons,List.map_nil,List.append_assoc,List.cons_append,List.nil_append] at ih
  by_cases hlk:a.lock=c
  ·have h5:decide (a.lock=c)=true:=by simpa using hlk
   simp only [Ap,hlk,if_true,eW] at ih
   simp only [eW,List.map_cons,Ap] at h2 hg hset ⊢
   rw [Aj (Es.eq_1)]
   simp +contextual -dsimp -implicitDefEqProofs (maxSteps:=5000000) only [h2,h3,h4,hg,hset,hc,h5,gLs,go_sem,simprocAttr]
   exact ih
  ·have h5:decide (a.lock=c)=false:=by simpa using hlk
   simp only [Ap,hlk,if_false,eW] at ih
   simp only [eW,List.map_cons,Ap] at h2 hg hset ⊢
   rw [Aj (Es.eq_1)]
   simp +contextual -dsimp -implicitDefEqProofs (maxSteps:=5000000) only [h2,h3,h4,hg,hset,hc,h5,gLs,go_sem,simprocAttr]
   exact ih
theorem Wj (i k:Nat) (m:Ad) (hm:SmM m) (id c:Int) (hc:IntKind.wrap .i64 (id+1)=c) (q:Out→St→Option Ans) (Q:V→Hp→Nat→Prop):∀ (suf pre:List Al) (kk:Nat),m.words.a3=pre++suf→suf.length<kk+1 →
  Fin (evC ctx (Lv ctx i) (Aa (Lv ctx i)) k Es ⟨Ae [0,1,4,5] [.ptr 7 0 0,iV id,iV 3,iV pre.length],hF m ((m.words.a0.map (Ap c)).map eW) ((m.words.a1.map (Ap c)).map eW) ((m.words.a2.map (Ap c)).map eW) ((pre.map (Ap c)).map eW++suf.map eW),8⟩ (As [0,1,4,5] fun o s=>Cl (BG 8 [0,1,4,5] (fun s q=>evC ctx (Lv ctx i) (Aa (Lv ctx i)) k Es s (As [0,1,4,5] q)) q kk) q o s)) Q=Fin (q (.exit 0) ⟨Ae [0,1,4] [.ptr 7 0 0,iV id,iV 3],hF m ((m.words.a0.map (Ap c)).map eW) ((m.words.a1.map (Ap c)).map eW) ((m.words.a2.map (Ap c)).map eW) ((m.words.a3.map (Ap c)).map eW),8⟩) Q
 | [],pre,kk,hxs,hk=>by
  have h1:decide ((pre.length:Int)<(pre.length:Int))=false:=by simp
  have h2:m.words.a3=pre:=by simp [hxs]
  rw [Aj (Es.eq_1)]
  simp only [List.map_nil,List.append_nil]
  rw [h2]
  simp +contextual -dsimp -implicitDefEqProofs (maxSteps:=5000000) only [h1,List.length_map,go_sem,simprocAttr]
  all_goals (try rfl)
 | a::suf,pre,kk,hxs,hk=>by
  obtain ⟨kk,rfl⟩:∃ m,kk=m+1:=⟨kk - 1,by simp at hk;omega⟩
  have hl:pre.length<((pre.map (Ap c)).map eW++(a::suf).map eW).length:=by simp
  have h2:((pre.length:Int)<((((pre.map (Ap c)).map eW++(a::suf).map eW).length:Nat):Int))=True:=by simp;omega
  have h3:(0≤(pre.length:Int))=True:=by simp
  have h4:=wrN pre.length (by have:=hm.w3;rw [hxs] at this;simp at this;omega)
  have hg:((pre.map (Ap c)).map eW++(a::suf).map eW)[pre.length]?=some (eW a):=by simp
  have hset:∀ x,((pre.map (Ap c)).map eW++(a::suf).map eW).set pre.length x=(pre.map (Ap c)).map eW++x::suf.map eW:=by intro x;simp [List.set_append]
  have ih:=Wj i k m hm id c hc q Q suf (pre++[a]) kk (by simp [hxs]) (by simpa using hk)
  simp only [Ao,List.map_append,List.map_cons,List.map_nil,List.append_assoc,List.cons_append,List.nil_append] at ih
  by_cases hlk:a.lock=c
  ·have h5:decide (a.lock=c)=true:=by simpa using hlk
   simp only [Ap,hlk,if_true,eW] at ih
   simp only [eW,List.map_cons,Ap] at h2 hg hset ⊢
   rw [Aj (Es.eq_1)]
   simp +contextual -dsimp -implicitDefEqProofs (maxSteps:=5000000) only [h2,h3,h4,hg,hset,hc,h5,gLs,go_sem,simprocAttr]
   exact ih
  ·have h5:decide (a.lock=c)=false:=by simpa using hlk
   simp only [Ap,hlk,if_false,eW] at ih
   simp only [eW,List.map_cons,Ap] at h2 hg hset ⊢
   rw [Aj (Es.eq_1)]
   simp +contextual -dsimp -implicitDefEqProofs (maxSteps:=5000000) only [h2,h3,h4,hg,hset,hc,h5,gLs,go_sem,simprocAttr]
   exact ih
def UP:IR→IR
 | .seq _ (.seq _ r)=>r
 | x=>x
theorem YO (a b r:IR):UP (.seq a (.seq b r))=r:=(rfl)
theorem YY (C:Ctx) (O:Orc) (P:FuncId→List V→Option V) (k:Nat) (s:St) (q:Out→St→Option Ans) (Q:V→Hp→Nat→Prop):Fin (Do C O P k Nw 0 s q) Q=Fin (evC C O P k (UP Nw) s q) Q:=(rfl)
theorem Tj (thr:Nat) (live:List Nat) (f:Nat→St→(Out→St→Option Ans)→Option Ans) (q:Out→St→Option Ans) (k:Nat) (s:St) (Q:V→Hp→Nat→Prop):Fin (EA thr live (Oa Nw) f q (k+1) 0 s) Q =
  GN thr live s (fun s=>f 0 s (Ju (fun l s=>EA thr live (Oa Nw) f q k l (Fh live s)) q)) Q ⟨⟩:=(rfl)
theorem dV (C:Ctx) (O:Orc) (P:FuncId→List V→Option V) (k:Nat) (live:List Nat) (b:IR) (s:St) (q:Out→St→Option Ans) (Q:V→Hp→Nat→Prop):Fin (evC C O P k (.scope live b) s q) Q =
  Fin (evC C O P k b s (Ju (fun l s'=>EA s.n live (Oa b) (fun l s q=>Do C O P k b l s q) q k l (Fh live s')) q)) Q:=(rfl)
abbrev hF0 (m:Ad):Hp:=hF m (m.words.a0.map eW) (m.words.a1.map eW) (m.words.a2.map eW) (m.words.a3.map eW)
abbrev hF4 (c:Int) (m:Ad):Hp:=hF m ((m.words.a0.map (Ap c)).map eW) ((m.words.a1.map (Ap c)).map eW) ((m.words.a2.map (Ap c)).map eW) ((m.words.a3.map (Ap c)).map eW)
theorem qT (i:Nat) (m:Ad) (hm:SmM m) (id c:Int) (hc:IntKind.wrap .i64 (id+1)=c):Lv ctx (i+1) 93 [.ptr 7 0 0,iV id] (hF0 m) 8=some (.tup [],hF4 c m,8):=by
 refine Nc rfl (m.words.a0.length+m.words.a1.length+m.words.a2.length+m.words.a3.length+5) ?_
 have h0:=fun q Q=>Wm i (m.words.a0.length+m.words.a1.length+m.words.a2.length+m.words.a3.length+5) m hm id c hc q Q m.words.a0 [] (m.words.a0.length+m.words.a1.length+m.words.a2.length+m.words.a3.length+4) rfl (by omega)
 have h1:=fun q Q=>Wl i (m.words.a0.length+m.words.a1.length+m.words.a2.length+m.words.a3.length+5) m hm id c hc q Q m.words.a1 [] (m.words.a0.length+m.words.a1.length+m.words.a2.length+m.words.a3.length+4) rfl (by omega)
 have h2:=fun q Q=>Wk i (m.words.a0.length+m.words.a1.length+m.words.a2.length+m.words.a3.length+5) m hm id c hc q Q m.words.a2 [] (m.words.a0.length+m.words.a1.length+m.words.a2.length+m.words.a3.length+4) rfl (by omega)
 have h3:=fun q Q=>Wj i (m.words.a0.length+m.words.a1.length+m.words.a2.length+m.words.a3.length+5) m hm id c hc q Q m.words.a3 [] (m.words.a0.length+m.words.a1.length+m.words.a2.length+m.words.a3.length+4) rfl (by omega)
 simp only [List.map_nil,List.nil_append,List.length_nil,Nu] at h0 h1 h2 h3
 delta c93
 simp +contextual -dsimp -implicitDefEqProofs (maxSteps:=5000000) only [↓dV,↓Tj,↓YY,YO,↓Aj (Nw.eq_1),↓Aj (congrArg UP Nw.eq_1),gLs,↓h0,↓h1,↓h2,↓h3,h0,h1,h2,h3,go_sem,simprocAttr]
end Ve
