/- What the closed runs of the seat's laws answer. -/
import Derived.Test.YtokhplohcachjaaGreatVeT
import Derived.Test.YtokhplohcachjaaGreatVeN
import Derived.Test.YtokhplohcachjaaGreatVeP
import Derived.KernelRfl
import Derived.Test.YtokhplohcachjaaGreatVeM
set_option linter.all false
set_option linter.unusedSectionVars false
namespace Ve
open Go
theorem aw24:Aa (Lv ctx 40) 32 []=some (bV true):=IZ 40 (by kernel_rfl)
theorem be23:Aa (Lv ctx 40) 23 []=some (oM MB):=IZ 40 (by kernel_rfl)
theorem mP:Aa (Lv ctx 39) 23 []=some (oM MB):=IZ 39 (by kernel_rfl)
theorem zS:Aa (Lv ctx 38) 23 []=some (oM MB):=IZ 38 (by kernel_rfl)
theorem be24:Aa (Lv ctx 40) 33 []=some (oM MB):=IZ 40 (by kernel_rfl)
theorem st24:Aa (Lv ctx 40) 34 [iV 0,iV 0]=some (oM MB):=IZ 40 (by kernel_rfl)
end Ve
namespace Ve
open Go Ve.Ab
set_option maxHeartbeats 16000000
set_option maxRecDepth 10000
theorem sG {L:Lay} {t:TypeId} {a b:Int}:Bu L .or t (iV a) (iV b)=some (iV (orI a b)):=rfl
theorem lS {L:Lay} {t:TypeId} {a b:Int}:Bu L .and t (iV a) (iV b)=some (iV (EJ a b)):=rfl
theorem lJ {L:Lay} {t:TypeId} {a b:Int}:Bu L .xor t (iV a) (iV b)=some (iV (Tg a b)):=rfl
attribute [go_sem] sG lS lJ
@[go_sem] theorem s_in (i:Nat) (a b:Int):Aa (Lv ctx (i+1)) 180 [iV a,iV b]=some (bV (inR a b)):=by
 refine Ac rfl 0 (by rfl) ?_
 delta xQ
 simp +contextual -dsimp -implicitDefEqProofs (maxSteps:=5000000) only [go_sem,simprocAttr]
 all_goals ((try simp_all [inR])<;>(try omega))
@[go_sem] theorem s_value (i:Nat) (a:Int):Aa (Lv ctx (i+2)) 160 [iV a]=some (bV (inR a 255)):=by
 refine Ac rfl 0 (by rfl) ?_
 delta yA
 simp +contextual -dsimp -implicitDefEqProofs (maxSteps:=5000000) only [go_sem,simprocAttr]
@[go_sem] theorem s_clock (i:Nat) (a:Int):Aa (Lv ctx (i+2)) 146 [iV a]=some (bV (inR a 65535)):=by
 refine Ac rfl 0 (by rfl) ?_
 delta yN
 simp +contextual -dsimp -implicitDefEqProofs (maxSteps:=5000000) only [go_sem,simprocAttr]
@[go_sem] theorem s_id (i:Nat) (a:Int):Aa (Lv ctx (i+2)) 174 [iV a]=some (bV (inR a 254)):=by
 refine Ac rfl 0 (by rfl) ?_
 delta xU
 simp +contextual -dsimp -implicitDefEqProofs (maxSteps:=5000000) only [go_sem,simprocAttr]
@[go_sem] theorem s_wordMay (i:Nat) (a b c:Int):Aa (Lv ctx (i+3)) 144 [.agg [iV a,iV b,iV c]]=some (bV (AL ⟨a,b,c⟩)):=by
 refine Ac rfl 0 (by rfl) ?_
 delta yP
 simp +contextual -dsimp -implicitDefEqProofs (maxSteps:=5000000) only [go_sem,simprocAttr]
 all_goals ((try simp_all [AL])<;>(try omega))
@[go_sem] theorem s_upTo11 (i:Nat) (a b c:Int):Aa (Lv ctx (i+1)) 57 [iV a,iV b,iV c]=some (bV (decide (b≤a)&&decide (a≤c))):=by
 refine Ac rfl 0 (by rfl) ?_
 delta c57
 simp +contextual -dsimp -implicitDefEqProofs (maxSteps:=5000000) only [go_sem,simprocAttr]
 all_goals ((try simp_all [inR])<;>(try omega))
@[go_sem] theorem s_upTo1 (i:Nat) (a b c:Int):Aa (Lv ctx (i+1)) 96 [iV a,iV b,iV c]=some (bV (decide (b≤a)&&decide (a≤c))):=by
 refine Ac rfl 0 (by rfl) ?_
 delta c96
 simp +contextual -dsimp -implicitDefEqProofs (maxSteps:=5000000) only [go_sem,simprocAttr]
 all_goals ((try simp_all [inR])<;>(try omega))
@[go_sem] theorem s_rValue (i:Nat) (a:Int):Aa (Lv ctx (i+2)) 102 [iV a]=some (bV (inR a 255)):=by
 refine Ac rfl 0 (by rfl) ?_
 delta zP
 simp +contextual -dsimp -implicitDefEqProofs (maxSteps:=5000000) only [go_sem,simprocAttr]
 all_goals ((try simp_all [inR])<;>(try omega))
@[go_sem] theorem s_rClock (i:Nat) (a:Int):Aa (Lv ctx (i+2)) 56 [iV a]=some (bV (inR a 65535)):=by
 refine Ac rfl 0 (by rfl) ?_
 delta c56
 simp +contextual -dsimp -implicitDefEqProofs (maxSteps:=5000000) only [go_sem,simprocAttr]
 all_goals ((try simp_all [inR])<;>(try omega))
@[go_sem] theorem s_rId (i:Nat) (a:Int):Aa (Lv ctx (i+2)) 137 [iV a]=some (bV (inR a 254)):=by
 refine Ac rfl 0 (by rfl) ?_
 delta yW
 simp +contextual -dsimp -implicitDefEqProofs (maxSteps:=5000000) only [go_sem,simprocAttr]
 all_goals ((try simp_all [inR])<;>(try omega))
@[go_sem] theorem s_rLabel (i:Nat) (a:Int):Aa (Lv ctx (i+2)) 59 [iV a]=some (bV (inR a 3)):=by
 refine Ac rfl 0 (by rfl) ?_
 delta c59
 simp +contextual -dsimp -implicitDefEqProofs (maxSteps:=5000000) only [go_sem,simprocAttr]
 all_goals ((try simp_all [inR])<;>(try omega))
@[go_sem] theorem s_rReg (i:Nat) (a:Int):Aa (Lv ctx (i+2)) 178 [iV a]=some (bV (inR a 3)):=by
 refine Ac rfl 0 (by rfl) ?_
 delta xS
 simp +contextual -dsimp -implicitDefEqProofs (maxSteps:=5000000) only [go_sem,simprocAttr]
 all_goals ((try simp_all [inR])<;>(try omega))
theorem lt4 (a:Int):decide (a<4)=decide (a≤3):=by
 apply decide_eq_decide.mpr;omega
@[go_sem] theorem s_label (i:Nat) (a:Int):Aa (Lv ctx (i+1)) 107 [iV a]=some (bV (inR a 3)):=by
 refine Ac rfl 0 (by rfl) ?_
 delta zK
 simp +contextual -dsimp -implicitDefEqProofs (maxSteps:=5000000) only [go_sem,simprocAttr]
 all_goals ((try simp_all [inR,lt4])<;>(try omega))
@[go_sem] theorem s_reg (i:Nat) (a:Int):Aa (Lv ctx (i+1)) 203 [iV a]=some (bV (inR a 3)):=by
 refine Ac rfl 0 (by rfl) ?_
 delta wW
 simp +contextual -dsimp -implicitDefEqProofs (maxSteps:=5000000) only [go_sem,simprocAttr]
 all_goals ((try simp_all [inR,lt4])<;>(try omega))
@[go_sem] theorem s_index (i:Nat) (a:Int):Aa (Lv ctx (i+1)) 185 [iV a]=some (bV (inR a 3)):=by
 refine Ac rfl 0 (by rfl) ?_
 delta xL
 simp +contextual -dsimp -implicitDefEqProofs (maxSteps:=5000000) only [go_sem,simprocAttr]
 all_goals ((try simp_all [inR,lt4])<;>(try omega))
@[go_sem] theorem s_machin (i:Nat) (a b:Int):Aa (Lv ctx (i+1)) 158 [iV a,iV b]=some (bV (inR a b)):=by
 refine Ac rfl 0 (by rfl) ?_
 delta yB
 simp +contextual -dsimp -implicitDefEqProofs (maxSteps:=5000000) only [go_sem,simprocAttr]
 all_goals ((try simp_all [inR])<;>(try omega))
@[go_sem] theorem s_under (i:Nat) (a b:Int):Aa (Lv ctx (i+1)) 183 [iV a,iV b]=some (bV (under a b)):=by
 refine Ac rfl 0 (by rfl) ?_
 delta xN
 simp +contextual -dsimp -implicitDefEqProofs (maxSteps:=5000000) only [go_sem,simprocAttr]
 all_goals ((try simp_all [under])<;>(try omega))
@[go_sem] theorem s_rUnder (i:Nat) (a b:Int):Aa (Lv ctx (i+1)) 130 [iV a,iV b]=some (bV (under a b)):=by
 refine Ac rfl 0 (by rfl) ?_
 delta yY
 simp +contextual -dsimp -implicitDefEqProofs (maxSteps:=5000000) only [go_sem,simprocAttr]
 all_goals ((try simp_all [under])<;>(try omega))
@[go_sem] theorem s_rWordMay (i:Nat) (a b c:Int):Aa (Lv ctx (i+3)) 95 [.agg [iV a,iV b,iV c]]=some (bV (AL ⟨a,b,c⟩)):=by
 refine Ac rfl 0 (by rfl) ?_
 delta c95
 simp +contextual -dsimp -implicitDefEqProofs (maxSteps:=5000000) only [go_sem,simprocAttr]
 all_goals ((try simp_all [AL,inR])<;>(try omega))
@[go_sem] theorem s_wordName (i:Nat) (a b:Int):Aa (Lv ctx (i+3)) 141 [iV a,iV b]=some (bV (inR a 3&&inR b 3)):=by
 refine Ac rfl 0 (by rfl) ?_
 delta yS
 simp +contextual -dsimp -implicitDefEqProofs (maxSteps:=5000000) only [go_sem,simprocAttr]
 all_goals ((try simp_all [inR])<;>(try omega))
@[go_sem] theorem s_wordIs (i:Nat) (a b c d:Int):Aa (Lv ctx (i+1)) 195 [.agg [iV a,iV b,iV c,iV d]]=some (bV (FV a)):=by
 refine Ac rfl 0 (by rfl) ?_
 delta xB
 simp +contextual -dsimp -implicitDefEqProofs (maxSteps:=5000000) only [go_sem,simprocAttr]
 all_goals ((try simp_all [FV])<;>(try omega))
@[go_sem] theorem s_names (i:Nat) (a b c d:Int):Aa (Lv ctx (i+1)) 214 [.agg [iV a,iV b,iV c,iV d]]=some (eI (UY ⟨a,b,c,d⟩)):=by
 refine Ac rfl 0 (by rfl) ?_
 delta wO
 simp +contextual -dsimp -implicitDefEqProofs (maxSteps:=5000000) only [go_sem,simprocAttr]
 all_goals (simp_all [UY,eI])
@[go_sem] theorem s_rInstMay (i:Nat) (a b c d:Int):Aa (Lv ctx (i+3)) 179 [.agg [iV a,iV b,iV c,iV d]]=some (bV (BN ⟨a,b,c,d⟩)):=by
 refine Ac rfl 0 (by rfl) ?_
 delta xR
 simp +contextual -dsimp -implicitDefEqProofs (maxSteps:=5000000) only [go_sem,simprocAttr]
 all_goals ((try simp_all [BN,inR,UY,Bool.and_assoc])<;>(try omega))
@[go_sem] theorem s_instMay (i:Nat) (a b c d:Int):Aa (Lv ctx (i+3)) 206 [.agg [iV a,iV b,iV c,iV d]]=some (bV (BN ⟨a,b,c,d⟩)):=by
 refine Ac rfl 0 (by rfl) ?_
 delta wU
 simp +contextual -dsimp -implicitDefEqProofs (maxSteps:=5000000) only [go_sem,simprocAttr]
 have hc:a=0∨a=1∨a=2∨a=3∨a=4∨a=5∨a=6∨(a≠0∧a≠1∧a≠2∧a≠3∧a≠4∧a≠5∧a≠6):=by omega
 rcases hc with rfl | rfl | rfl | rfl | rfl | rfl | rfl | ⟨h0,h1,h2,h3,h4,h5,h6⟩<;>simp_all [BN,inR,UY,lt4,Bool.and_assoc]<;>(try omega)
end Ve
namespace Ve
open Go Ve.Ab
set_option maxHeartbeats 16000000
set_option maxRecDepth 10000
def Br {α:Type} (p:α→Bool):Nat→List α→Option Nat
 | _,[]=>none
 | j,a::r=>if p a then some j else Br p (j+1) r
def Gk:Option Nat→Int
 | none=>-1
 | some j=>j
theorem El {α:Type} (p:α→Bool):∀ (l:List α) (j:Nat),decide (0≤Gk (Br p j l))=l.any p
 | [],j=>by simp [Br,Gk]
 | a::r,j=>by
  simp only [Br,List.any_cons]
  split
  ·rename_i h;simp [h,Gk]
  ·rename_i h;simp [h,El p r (j+1)]
theorem wrN (j:Nat) (h:j≤BB):IntKind.wrap .i64 ((j:Int)+1)=((j+1:Nat):Int):=by
 have:=Gq (a:=(j:Int)+1) (by omega) (by simp only [BB] at h;omega)
 simp only [wr] at this
 rw [this];simp
theorem Al {α:Type} (pre:List α) (a:α):(pre++[a]).length=pre.length+1:=by simp
def Io (q:Out→St→Option Ans) (Q:V→Hp→Nat→Prop) (s1:St) (s2:Nat→St):Option Nat→Prop
 | none=>Fin (q (.exit 0) s1) Q
 | some j=>Fin (q .ret (s2 j)) Q
theorem BQ (q:Out→St→Option Ans) (Q:V→Hp→Nat→Prop) (s1:St) (s2:Nat→St):Io q Q s1 s2 none=Fin (q (.exit 0) s1) Q:=(rfl)
theorem BP (q:Out→St→Option Ans) (Q:V→Hp→Nat→Prop) (s1:St) (s2:Nat→St) (j:Nat):Io q Q s1 s2 (some j)=Fin (q .ret (s2 j)) Q:=(rfl)
theorem Sa (i k:Nat) (pf nn:Bool) (xs:List Ao) (p:Ao→Bool) (g:Nat) (cap:List V) (hc:Ah tbl g []) (hcap:∀ d,AD (AQ (d+1)) cap=.ret cap) (hsc:AN 0 cap=cap)
  (hp:∀ a,a∈xs→Aa (Lv ctx i) g (eW a::cap)=some (bV (p a))) (hx:xs.length≤BB) (q:Out→St→Option Ans) (Q:V→Hp→Nat→Prop) (u:Dum fun s q=>evC ctx (Lv ctx i) (Aa (Lv ctx i)) k Np s (Aq [0,1,7,8] q)) (w:Dum q):∀ (suf pre:List Ao) (kk:Nat),xs=pre++suf→suf.length<kk →
  GL 0 [0,1,7,8] (fun s q=>evC ctx (Lv ctx i) (Aa (Lv ctx i)) k Np s (Aq [0,1,7,8] q)) q kk ⟨Ae [0,1,7,8] [.isl pf nn 3 (xs.map eW),.fn (.func g) [] cap,iV xs.length,iV pre.length],Af,0⟩ Q u w =
  Io q Q ⟨Ae [] [],Af,0⟩ (fun j=>⟨Ae [4] [iV j],Af,0⟩) (Br p pre.length suf)
 | [],pre,kk,hxs,hk=>by
  obtain ⟨kk,rfl⟩:∃ m,kk=m+1:=⟨kk - 1,by simp at hk;omega⟩
  have h1:decide ((pre.length:Int)<xs.length)=false:=by simp [hxs]
  simp +contextual -dsimp -implicitDefEqProofs (maxSteps:=5000000) only [gLs,↓Aj (Np.eq_1),h1,hcap,hsc,Br,BQ,go_sem,simprocAttr]
 | a::suf,pre,kk,hxs,hk=>by
  obtain ⟨kk,rfl⟩:∃ m,kk=m+1:=⟨kk - 1,by simp at hk;omega⟩
  have hl:pre.length<xs.length:=by simp [hxs]
  have h1:decide ((pre.length:Int)<xs.length)=true:=by simpa using hl
  have h2:((pre.length:Int)<xs.length)=True:=by simpa using hl
  have h3:(0≤(pre.length:Int))=True:=by simp
  have h4:=wrN pre.length (by omega)
  have hg:xs[pre.length]?=some a:=by simp [hxs]
  have hpa:=hp a (by simp [hxs])
  simp only [eW] at hpa
  have ih:=Sa i k pf nn xs p g cap hc hcap hsc hp hx q Q u w suf (pre++[a]) kk (by simp [hxs]) (by simpa using hk)
  rw [Al] at ih
  cases hb:p a<;>rw [hb] at hpa<;>simp +contextual -dsimp -implicitDefEqProofs (maxSteps:=5000000) only [gLs,↓Aj (Np.eq_1),h1,h2,h3,h4,hcap,hsc,Br,BP,hg,hpa,hb,hc,ih,Int.toNat_natCast,List.getElem?_map,go_sem,simprocAttr]
theorem Zl (i:Nat) (pf nn:Bool) (xs:List Ao) (p:Ao→Bool) (g:Nat) (cap:List V) (hc:Ah tbl g []) (hcap:∀ d,AD (AQ (d+1)) cap=.ret cap) (hsc:AN 0 cap=cap) (hn:Bp cap=true)
  (hp:∀ a,a∈xs→Aa (Lv ctx i) g (eW a::cap)=some (bV (p a))) (hx:xs.length≤BB):Aa (Lv ctx (i+2)) 145 [.isl pf nn 3 (xs.map eW),.fn (.func g) [] cap]=some (bV (xs.any p)):=by
 have h1:Aa (Lv ctx (i+1)) 181 [.isl pf nn 3 (xs.map eW),.fn (.func g) [] cap]=some (iV (Gk (Br p 0 xs))):=by
  refine Ac rfl (xs.length+1) (by rfl) ?_
  delta xP
  have hl:=fun q Q u w=>Sa i (xs.length+1) pf nn xs p g cap hc hcap hsc hp hx q Q u w xs [] (xs.length+1) rfl (by omega)
  simp only [List.length_nil,Int.natCast_zero] at hl
  simp +contextual -dsimp -implicitDefEqProofs (maxSteps:=5000000) only [hl,go_sem,simprocAttr]
  cases Br p 0 xs<;>simp +contextual -dsimp -implicitDefEqProofs (maxSteps:=5000000) only [BQ,BP,Gk,go_sem,simprocAttr]
 refine Ac rfl 0 (by rfl) ?_
 delta yO
 simp +contextual -dsimp -implicitDefEqProofs (maxSteps:=5000000) only [h1,hcap,El,go_sem,simprocAttr]
theorem Lw (i k:Nat) (pf nn:Bool) (xs:List Ag) (p:Ag→Bool) (g:Nat) (cap:List V) (hc:Ah tbl g []) (hcap:∀ d,AD (AQ (d+1)) cap=.ret cap) (hsc:AN 0 cap=cap)
  (hp:∀ a,a∈xs→Aa (Lv ctx i) g ((eS pf) a::cap)=some (bV (p a))) (hx:xs.length≤BB) (q:Out→St→Option Ans) (Q:V→Hp→Nat→Prop) (u:Dum fun s q=>evC ctx (Lv ctx i) (Aa (Lv ctx i)) k No s (Aq [0,1,7,8] q)) (w:Dum q):∀ (suf pre:List Ag) (kk:Nat),xs=pre++suf→suf.length<kk →
  GL 0 [0,1,7,8] (fun s q=>evC ctx (Lv ctx i) (Aa (Lv ctx i)) k No s (Aq [0,1,7,8] q)) q kk ⟨Ae [0,1,7,8] [.isl pf nn 17 (xs.map (eS pf)),.fn (.func g) [] cap,iV xs.length,iV pre.length],Af,0⟩ Q u w =
  Io q Q ⟨Ae [] [],Af,0⟩ (fun j=>⟨Ae [4] [iV j],Af,0⟩) (Br p pre.length suf)
 | [],pre,kk,hxs,hk=>by
  obtain ⟨kk,rfl⟩:∃ m,kk=m+1:=⟨kk - 1,by simp at hk;omega⟩
  have h1:decide ((pre.length:Int)<xs.length)=false:=by simp [hxs]
  simp +contextual -dsimp -implicitDefEqProofs (maxSteps:=5000000) only [gLs,↓Aj (No.eq_1),h1,hcap,hsc,Br,BQ,go_sem,simprocAttr]
 | a::suf,pre,kk,hxs,hk=>by
  obtain ⟨kk,rfl⟩:∃ m,kk=m+1:=⟨kk - 1,by simp at hk;omega⟩
  have hl:pre.length<xs.length:=by simp [hxs]
  have h1:decide ((pre.length:Int)<xs.length)=true:=by simpa using hl
  have h2:((pre.length:Int)<xs.length)=True:=by simpa using hl
  have h3:(0≤(pre.length:Int))=True:=by simp
  have h4:=wrN pre.length (by omega)
  have hg:xs[pre.length]?=some a:=by simp [hxs]
  have hpa:=hp a (by simp [hxs])
  simp only [eS] at hpa
  have ih:=Lw i k pf nn xs p g cap hc hcap hsc hp hx q Q u w suf (pre++[a]) kk (by simp [hxs]) (by simpa using hk)
  rw [Al] at ih
  cases hb:p a<;>rw [hb] at hpa<;>simp +contextual -dsimp -implicitDefEqProofs (maxSteps:=5000000) only [gLs,↓Aj (No.eq_1),h1,h2,h3,h4,hcap,hsc,Br,BP,hg,hpa,hb,hc,ih,Int.toNat_natCast,List.getElem?_map,go_sem,simprocAttr]
theorem Ru (i:Nat) (pf nn:Bool) (xs:List Ag) (p:Ag→Bool) (g:Nat) (cap:List V) (hc:Ah tbl g []) (hcap:∀ d,AD (AQ (d+1)) cap=.ret cap) (hsc:AN 0 cap=cap) (hn:Bp cap=true)
  (hp:∀ a,a∈xs→Aa (Lv ctx i) g ((eS pf) a::cap)=some (bV (p a))) (hx:xs.length≤BB):Aa (Lv ctx (i+2)) 147 [.isl pf nn 17 (xs.map (eS pf)),.fn (.func g) [] cap]=some (bV (xs.any p)):=by
 have h1:Aa (Lv ctx (i+1)) 182 [.isl pf nn 17 (xs.map (eS pf)),.fn (.func g) [] cap]=some (iV (Gk (Br p 0 xs))):=by
  refine Ac rfl (xs.length+1) (by rfl) ?_
  delta xO
  have hl:=fun q Q u w=>Lw i (xs.length+1) pf nn xs p g cap hc hcap hsc hp hx q Q u w xs [] (xs.length+1) rfl (by omega)
  simp only [List.length_nil,Int.natCast_zero] at hl
  simp +contextual -dsimp -implicitDefEqProofs (maxSteps:=5000000) only [hl,go_sem,simprocAttr]
  cases Br p 0 xs<;>simp +contextual -dsimp -implicitDefEqProofs (maxSteps:=5000000) only [BQ,BP,Gk,go_sem,simprocAttr]
 refine Ac rfl 0 (by rfl) ?_
 delta yM
 simp +contextual -dsimp -implicitDefEqProofs (maxSteps:=5000000) only [h1,hcap,El,go_sem,simprocAttr]
theorem Oo (i k:Nat) (pf nn:Bool) (xs:List Ba) (p:Ba→Bool) (g:Nat) (cap:List V) (hc:Ah tbl g []) (hcap:∀ d,AD (AQ (d+1)) cap=.ret cap) (hsc:AN 0 cap=cap)
  (hp:∀ a,a∈xs→Aa (Lv ctx i) g (eE a::cap)=some (bV (p a))) (hx:xs.length≤BB) (q:Out→St→Option Ans) (Q:V→Hp→Nat→Prop) (u:Dum fun s q=>evC ctx (Lv ctx i) (Aa (Lv ctx i)) k Nn s (Aq [0,1,7,8] q)) (w:Dum q):∀ (suf pre:List Ba) (kk:Nat),xs=pre++suf→suf.length<kk →
  GL 0 [0,1,7,8] (fun s q=>evC ctx (Lv ctx i) (Aa (Lv ctx i)) k Nn s (Aq [0,1,7,8] q)) q kk ⟨Ae [0,1,7,8] [.isl pf nn 4 (xs.map eE),.fn (.func g) [] cap,iV xs.length,iV pre.length],Af,0⟩ Q u w =
  Io q Q ⟨Ae [] [],Af,0⟩ (fun j=>⟨Ae [4] [iV j],Af,0⟩) (Br p pre.length suf)
 | [],pre,kk,hxs,hk=>by
  obtain ⟨kk,rfl⟩:∃ m,kk=m+1:=⟨kk - 1,by simp at hk;omega⟩
  have h1:decide ((pre.length:Int)<xs.length)=false:=by simp [hxs]
  simp +contextual -dsimp -implicitDefEqProofs (maxSteps:=5000000) only [gLs,↓Aj (Nn.eq_1),h1,hcap,hsc,Br,BQ,go_sem,simprocAttr]
 | a::suf,pre,kk,hxs,hk=>by
  obtain ⟨kk,rfl⟩:∃ m,kk=m+1:=⟨kk - 1,by simp at hk;omega⟩
  have hl:pre.length<xs.length:=by simp [hxs]
  have h1:decide ((pre.length:Int)<xs.length)=true:=by simpa using hl
  have h2:((pre.length:Int)<xs.length)=True:=by simpa using hl
  have h3:(0≤(pre.length:Int))=True:=by simp
  have h4:=wrN pre.length (by omega)
  have hg:xs[pre.length]?=some a:=by simp [hxs]
  have hpa:=hp a (by simp [hxs])
  simp only [eE] at hpa
  have ih:=Oo i k pf nn xs p g cap hc hcap hsc hp hx q Q u w suf (pre++[a]) kk (by simp [hxs]) (by simpa using hk)
  rw [Al] at ih
  cases hb:p a<;>rw [hb] at hpa<;>simp +contextual -dsimp -implicitDefEqProofs (maxSteps:=5000000) only [gLs,↓Aj (Nn.eq_1),h1,h2,h3,h4,hcap,hsc,Br,BP,hg,hpa,hb,hc,ih,Int.toNat_natCast,List.getElem?_map,go_sem,simprocAttr]
theorem Xs (i:Nat) (pf nn:Bool) (xs:List Ba) (p:Ba→Bool) (g:Nat) (cap:List V) (hc:Ah tbl g []) (hcap:∀ d,AD (AQ (d+1)) cap=.ret cap) (hsc:AN 0 cap=cap) (hn:Bp cap=true)
  (hp:∀ a,a∈xs→Aa (Lv ctx i) g (eE a::cap)=some (bV (p a))) (hx:xs.length≤BB):Aa (Lv ctx (i+2)) 161 [.isl pf nn 4 (xs.map eE),.fn (.func g) [] cap]=some (bV (xs.any p)):=by
 have h1:Aa (Lv ctx (i+1)) 196 [.isl pf nn 4 (xs.map eE),.fn (.func g) [] cap]=some (iV (Gk (Br p 0 xs))):=by
  refine Ac rfl (xs.length+1) (by rfl) ?_
  delta xA
  have hl:=fun q Q u w=>Oo i (xs.length+1) pf nn xs p g cap hc hcap hsc hp hx q Q u w xs [] (xs.length+1) rfl (by omega)
  simp only [List.length_nil,Int.natCast_zero] at hl
  simp +contextual -dsimp -implicitDefEqProofs (maxSteps:=5000000) only [hl,go_sem,simprocAttr]
  cases Br p 0 xs<;>simp +contextual -dsimp -implicitDefEqProofs (maxSteps:=5000000) only [BQ,BP,Gk,go_sem,simprocAttr]
 refine Ac rfl 0 (by rfl) ?_
 delta xZ
 simp +contextual -dsimp -implicitDefEqProofs (maxSteps:=5000000) only [h1,hcap,El,go_sem,simprocAttr]
theorem Sb (i k:Nat) (pf nn:Bool) (xs:List AH) (p:AH→Bool) (g:Nat) (cap:List V) (hc:Ah tbl g []) (hcap:∀ d,AD (AQ (d+1)) cap=.ret cap) (hsc:AN 0 cap=cap)
  (hp:∀ a,a∈xs→Aa (Lv ctx i) g (eR a::cap)=some (bV (p a))) (hx:xs.length≤BB) (q:Out→St→Option Ans) (Q:V→Hp→Nat→Prop) (u:Dum fun s q=>evC ctx (Lv ctx i) (Aa (Lv ctx i)) k Nm s (Aq [0,1,7,8] q)) (w:Dum q):∀ (suf pre:List AH) (kk:Nat),xs=pre++suf→suf.length<kk →
  GL 0 [0,1,7,8] (fun s q=>evC ctx (Lv ctx i) (Aa (Lv ctx i)) k Nm s (Aq [0,1,7,8] q)) q kk ⟨Ae [0,1,7,8] [.isl pf nn 3 (xs.map eR),.fn (.func g) [] cap,iV xs.length,iV pre.length],Af,0⟩ Q u w =
  Io q Q ⟨Ae [] [],Af,0⟩ (fun j=>⟨Ae [4] [iV j],Af,0⟩) (Br p pre.length suf)
 | [],pre,kk,hxs,hk=>by
  obtain ⟨kk,rfl⟩:∃ m,kk=m+1:=⟨kk - 1,by simp at hk;omega⟩
  have h1:decide ((pre.length:Int)<xs.length)=false:=by simp [hxs]
  simp +contextual -dsimp -implicitDefEqProofs (maxSteps:=5000000) only [gLs,↓Aj (Nm.eq_1),h1,hcap,hsc,Br,BQ,go_sem,simprocAttr]
 | a::suf,pre,kk,hxs,hk=>by
  obtain ⟨kk,rfl⟩:∃ m,kk=m+1:=⟨kk - 1,by simp at hk;omega⟩
  have hl:pre.length<xs.length:=by simp [hxs]
  have h1:decide ((pre.length:Int)<xs.length)=true:=by simpa using hl
  have h2:((pre.length:Int)<xs.length)=True:=by simpa using hl
  have h3:(0≤(pre.length:Int))=True:=by simp
  have h4:=wrN pre.length (by omega)
  have hg:xs[pre.length]?=some a:=by simp [hxs]
  have hpa:=hp a (by simp [hxs])
  simp only [eR] at hpa
  have ih:=Sb i k pf nn xs p g cap hc hcap hsc hp hx q Q u w suf (pre++[a]) kk (by simp [hxs]) (by simpa using hk)
  rw [Al] at ih
  cases hb:p a<;>rw [hb] at hpa<;>simp +contextual -dsimp -implicitDefEqProofs (maxSteps:=5000000) only [gLs,↓Aj (Nm.eq_1),h1,h2,h3,h4,hcap,hsc,Br,BP,hg,hpa,hb,hc,ih,Int.toNat_natCast,List.getElem?_map,go_sem,simprocAttr]
theorem Mo (i:Nat) (pf nn:Bool) (xs:List AH) (p:AH→Bool) (g:Nat) (cap:List V) (hc:Ah tbl g []) (hcap:∀ d,AD (AQ (d+1)) cap=.ret cap) (hsc:AN 0 cap=cap) (hn:Bp cap=true)
  (hp:∀ a,a∈xs→Aa (Lv ctx i) g (eR a::cap)=some (bV (p a))) (hx:xs.length≤BB):Aa (Lv ctx (i+2)) 186 [.isl pf nn 3 (xs.map eR),.fn (.func g) [] cap]=some (bV (xs.any p)):=by
 have h1:Aa (Lv ctx (i+1)) 207 [.isl pf nn 3 (xs.map eR),.fn (.func g) [] cap]=some (iV (Gk (Br p 0 xs))):=by
  refine Ac rfl (xs.length+1) (by rfl) ?_
  delta wT
  have hl:=fun q Q u w=>Sb i (xs.length+1) pf nn xs p g cap hc hcap hsc hp hx q Q u w xs [] (xs.length+1) rfl (by omega)
  simp only [List.length_nil,Int.natCast_zero] at hl
  simp +contextual -dsimp -implicitDefEqProofs (maxSteps:=5000000) only [hl,go_sem,simprocAttr]
  cases Br p 0 xs<;>simp +contextual -dsimp -implicitDefEqProofs (maxSteps:=5000000) only [BQ,BP,Gk,go_sem,simprocAttr]
 refine Ac rfl 0 (by rfl) ?_
 delta xK
 simp +contextual -dsimp -implicitDefEqProofs (maxSteps:=5000000) only [h1,hcap,El,go_sem,simprocAttr]
theorem On (i k:Nat) (pf nn:Bool) (xs:List Ai) (p:Ai→Bool) (g:Nat) (cap:List V) (hc:Ah tbl g []) (hcap:∀ d,AD (AQ (d+1)) cap=.ret cap) (hsc:AN 0 cap=cap)
  (hp:∀ a,a∈xs→Aa (Lv ctx i) g (eWr a::cap)=some (bV (p a))) (hx:xs.length≤BB) (q:Out→St→Option Ans) (Q:V→Hp→Nat→Prop) (u:Dum fun s q=>evC ctx (Lv ctx i) (Aa (Lv ctx i)) k Nl s (Aq [0,1,7,8] q)) (w:Dum q):∀ (suf pre:List Ai) (kk:Nat),xs=pre++suf→suf.length<kk →
  GL 0 [0,1,7,8] (fun s q=>evC ctx (Lv ctx i) (Aa (Lv ctx i)) k Nl s (Aq [0,1,7,8] q)) q kk ⟨Ae [0,1,7,8] [.isl pf nn 3 (xs.map eWr),.fn (.func g) [] cap,iV xs.length,iV pre.length],Af,0⟩ Q u w =
  Io q Q ⟨Ae [] [],Af,0⟩ (fun j=>⟨Ae [4] [iV j],Af,0⟩) (Br p pre.length suf)
 | [],pre,kk,hxs,hk=>by
  obtain ⟨kk,rfl⟩:∃ m,kk=m+1:=⟨kk - 1,by simp at hk;omega⟩
  have h1:decide ((pre.length:Int)<xs.length)=false:=by simp [hxs]
  simp +contextual -dsimp -implicitDefEqProofs (maxSteps:=5000000) only [gLs,↓Aj (Nl.eq_1),h1,hcap,hsc,Br,BQ,go_sem,simprocAttr]
 | a::suf,pre,kk,hxs,hk=>by
  obtain ⟨kk,rfl⟩:∃ m,kk=m+1:=⟨kk - 1,by simp at hk;omega⟩
  have hl:pre.length<xs.length:=by simp [hxs]
  have h1:decide ((pre.length:Int)<xs.length)=true:=by simpa using hl
  have h2:((pre.length:Int)<xs.length)=True:=by simpa using hl
  have h3:(0≤(pre.length:Int))=True:=by simp
  have h4:=wrN pre.length (by omega)
  have hg:xs[pre.length]?=some a:=by simp [hxs]
  have hpa:=hp a (by simp [hxs])
  simp only [eWr] at hpa
  have ih:=On i k pf nn xs p g cap hc hcap hsc hp hx q Q u w suf (pre++[a]) kk (by simp [hxs]) (by simpa using hk)
  rw [Al] at ih
  cases hb:p a<;>rw [hb] at hpa<;>simp +contextual -dsimp -implicitDefEqProofs (maxSteps:=5000000) only [gLs,↓Aj (Nl.eq_1),h1,h2,h3,h4,hcap,hsc,Br,BP,hg,hpa,hb,hc,ih,Int.toNat_natCast,List.getElem?_map,go_sem,simprocAttr]
theorem NN (i:Nat) (pf nn:Bool) (xs:List Ai) (p:Ai→Bool) (g:Nat) (cap:List V) (hc:Ah tbl g []) (hcap:∀ d,AD (AQ (d+1)) cap=.ret cap) (hsc:AN 0 cap=cap) (hn:Bp cap=true)
  (hp:∀ a,a∈xs→Aa (Lv ctx i) g (eWr a::cap)=some (bV (p a))) (hx:xs.length≤BB):Aa (Lv ctx (i+2)) 191 [.isl pf nn 3 (xs.map eWr),.fn (.func g) [] cap]=some (bV (xs.any p)):=by
 have h1:Aa (Lv ctx (i+1)) 210 [.isl pf nn 3 (xs.map eWr),.fn (.func g) [] cap]=some (iV (Gk (Br p 0 xs))):=by
  refine Ac rfl (xs.length+1) (by rfl) ?_
  delta wQ
  have hl:=fun q Q u w=>On i (xs.length+1) pf nn xs p g cap hc hcap hsc hp hx q Q u w xs [] (xs.length+1) rfl (by omega)
  simp only [List.length_nil,Int.natCast_zero] at hl
  simp +contextual -dsimp -implicitDefEqProofs (maxSteps:=5000000) only [hl,go_sem,simprocAttr]
  cases Br p 0 xs<;>simp +contextual -dsimp -implicitDefEqProofs (maxSteps:=5000000) only [BQ,BP,Gk,go_sem,simprocAttr]
 refine Ac rfl 0 (by rfl) ?_
 delta xF
 simp +contextual -dsimp -implicitDefEqProofs (maxSteps:=5000000) only [h1,hcap,El,go_sem,simprocAttr]
theorem Sc (i k:Nat) (pf nn:Bool) (xs:List AF) (p:AF→Bool) (g:Nat) (cap:List V) (hc:Ah tbl g []) (hcap:∀ d,AD (AQ (d+1)) cap=.ret cap) (hsc:AN 0 cap=cap)
  (hp:∀ a,a∈xs→Aa (Lv ctx i) g (eI a::cap)=some (bV (p a))) (hx:xs.length≤BB) (q:Out→St→Option Ans) (Q:V→Hp→Nat→Prop) (u:Dum fun s q=>evC ctx (Lv ctx i) (Aa (Lv ctx i)) k Nk s (Aq [0,1,7,8] q)) (w:Dum q):∀ (suf pre:List AF) (kk:Nat),xs=pre++suf→suf.length<kk →
  GL 0 [0,1,7,8] (fun s q=>evC ctx (Lv ctx i) (Aa (Lv ctx i)) k Nk s (Aq [0,1,7,8] q)) q kk ⟨Ae [0,1,7,8] [.isl pf nn 4 (xs.map eI),.fn (.func g) [] cap,iV xs.length,iV pre.length],Af,0⟩ Q u w =
  Io q Q ⟨Ae [] [],Af,0⟩ (fun j=>⟨Ae [4] [iV j],Af,0⟩) (Br p pre.length suf)
 | [],pre,kk,hxs,hk=>by
  obtain ⟨kk,rfl⟩:∃ m,kk=m+1:=⟨kk - 1,by simp at hk;omega⟩
  have h1:decide ((pre.length:Int)<xs.length)=false:=by simp [hxs]
  simp +contextual -dsimp -implicitDefEqProofs (maxSteps:=5000000) only [gLs,↓Aj (Nk.eq_1),h1,hcap,hsc,Br,BQ,go_sem,simprocAttr]
 | a::suf,pre,kk,hxs,hk=>by
  obtain ⟨kk,rfl⟩:∃ m,kk=m+1:=⟨kk - 1,by simp at hk;omega⟩
  have hl:pre.length<xs.length:=by simp [hxs]
  have h1:decide ((pre.length:Int)<xs.length)=true:=by simpa using hl
  have h2:((pre.length:Int)<xs.length)=True:=by simpa using hl
  have h3:(0≤(pre.length:Int))=True:=by simp
  have h4:=wrN pre.length (by omega)
  have hg:xs[pre.length]?=some a:=by simp [hxs]
  have hpa:=hp a (by simp [hxs])
  simp only [eI] at hpa
  have ih:=Sc i k pf nn xs p g cap hc hcap hsc hp hx q Q u w suf (pre++[a]) kk (by simp [hxs]) (by simpa using hk)
  rw [Al] at ih
  cases hb:p a<;>rw [hb] at hpa<;>simp +contextual -dsimp -implicitDefEqProofs (maxSteps:=5000000) only [gLs,↓Aj (Nk.eq_1),h1,h2,h3,h4,hcap,hsc,Br,BP,hg,hpa,hb,hc,ih,Int.toNat_natCast,List.getElem?_map,go_sem,simprocAttr]
theorem Zm (i:Nat) (pf nn:Bool) (xs:List AF) (p:AF→Bool) (g:Nat) (cap:List V) (hc:Ah tbl g []) (hcap:∀ d,AD (AQ (d+1)) cap=.ret cap) (hsc:AN 0 cap=cap) (hn:Bp cap=true)
  (hp:∀ a,a∈xs→Aa (Lv ctx i) g (eI a::cap)=some (bV (p a))) (hx:xs.length≤BB):Aa (Lv ctx (i+2)) 193 [.isl pf nn 4 (xs.map eI),.fn (.func g) [] cap]=some (bV (xs.any p)):=by
 have h1:Aa (Lv ctx (i+1)) 211 [.isl pf nn 4 (xs.map eI),.fn (.func g) [] cap]=some (iV (Gk (Br p 0 xs))):=by
  refine Ac rfl (xs.length+1) (by rfl) ?_
  delta wP
  have hl:=fun q Q u w=>Sc i (xs.length+1) pf nn xs p g cap hc hcap hsc hp hx q Q u w xs [] (xs.length+1) rfl (by omega)
  simp only [List.length_nil,Int.natCast_zero] at hl
  simp +contextual -dsimp -implicitDefEqProofs (maxSteps:=5000000) only [hl,go_sem,simprocAttr]
  cases Br p 0 xs<;>simp +contextual -dsimp -implicitDefEqProofs (maxSteps:=5000000) only [BQ,BP,Gk,go_sem,simprocAttr]
 refine Ac rfl 0 (by rfl) ?_
 delta xD
 simp +contextual -dsimp -implicitDefEqProofs (maxSteps:=5000000) only [h1,hcap,El,go_sem,simprocAttr]
end Ve
namespace Ve
open Go Ve.Ab
set_option maxHeartbeats 16000000
set_option maxRecDepth 10000
theorem Bc (l:Int):l=0∨l=1∨l=2∨l=3∨inR l 3=false:=by
 simp [inR];omega
theorem vF:inR 0 3=true:=by decide
theorem vE:inR 1 3=true:=by decide
theorem vD:inR 2 3=true:=by decide
theorem vC:inR 3 3=true:=by decide
attribute [go_sem] vF vE vD vC
@[go_sem] theorem s_there (i:Nat) (p a b c d na nb nc nd:Bool) (w0 w1 w2 w3:List Ao) (r:List V) (l x:Int):Aa (Lv ctx (i+2)) 190 [.ip p (.isl a na 3 (w0.map eW)::.isl b nb 3 (w1.map eW)::.isl c nc 3 (w2.map eW)::.isl d nd 3 (w3.map eW)::r) 0,iV l,iV x]=some (bV (AV ⟨w0,w1,w2,w3⟩ l x)):=by
 rcases Bc l with rfl | rfl | rfl | rfl | h<;>refine Ac rfl 0 (by rfl) ?_<;>delta xG
 case inr.inr.inr.inr=>simp +contextual -dsimp -implicitDefEqProofs (maxSteps:=5000000) only [AV,h,go_sem,simprocAttr]
 all_goals simp +contextual -dsimp -implicitDefEqProofs (maxSteps:=5000000) only [AV,A4.get,go_sem,simprocAttr]
theorem bool_5f {a b c d e:Bool} (h:(a&&b&&!c&&d&&e)=false):(!a||!b||c||!d||!e)=true:=by cases a<;>cases b<;>cases c<;>cases d<;>cases e<;>simp_all
@[go_sem] theorem Xo (i:Nat) (a b c:Int):Aa (Lv ctx (i+4)) 143 [.agg [iV a,iV b,iV c]]=some (bV (!AL ⟨a,b,c⟩)):=by
 refine Ac rfl 0 (by rfl) ?_
 delta yQ
 simp +contextual -dsimp -implicitDefEqProofs (maxSteps:=5000000) only [go_sem,simprocAttr]
theorem GK {α:Type} (p:α→Bool):∀ l:List α,(l.any fun x=>!p x)=!(l.all p)
 | []=>rfl
 | a::l=>by simp [GK p l]
theorem Tt (i:Nat) (pf nn:Bool) (xs:List Ao) (hx:xs.length≤BB):Aa (Lv ctx (i+4+2)) 145 [.isl pf nn 3 (xs.map eW),.fn (.func 143) [] []]=some (bV (!(xs.all AL))):=by
 rw [Zl (i+4) pf nn xs (fun w=>!AL w) 143 [] (fun _ _ _ _ _ _=>rfl) (fun _=>rfl) (by simp [AN]) rfl (fun a _=>by simp only [eW];exact Xo i _ _ _) hx,GK]
theorem MZ (n:Nat):decide (4<(n:Int))=!decide (n≤4):=by
 by_cases h:n≤4<;>simp [h]<;>omega
theorem nL (i:Nat) (pf nn:Bool) (xs:List Ao) (hx:decide (4<(xs.length:Int))=false):Aa (Lv ctx (i+4+2)) 145 [.isl pf nn 3 (xs.map eW),.fn (.func 143) [] []]=some (bV (!(Cs xs))):=by
 simp at hx
 rw [Tt i pf nn xs (by simp [BB];omega)]
 simp [Cs,show xs.length≤4 by omega]
@[go_sem] theorem s_arenaMay (i:Nat) (a b c d na nb nc nd:Bool) (w0 w1 w2 w3:List Ao):Aa (Lv ctx (i+4+3)) 103 [.agg [.isl a na 3 (w0.map eW),.isl b nb 3 (w1.map eW),.isl c nc 3 (w2.map eW),.isl d nd 3 (w3.map eW)]]=some (bV (AR ⟨w0,w1,w2,w3⟩)):=by
 have key:∀ (w:List Ao),decide (4<(w.length:Int))=true→Cs w=false:=by
  intro w h;simp at h;simp [Cs];intro;omega
 refine Ac rfl 5 (by rfl) ?_
 delta zO
 simp +contextual -dsimp -implicitDefEqProofs (maxSteps:=5000000) only [gLs,↓Aj (dJ.eq_1),nL,go_sem,simprocAttr]
 simp only [AR,A4.all]
 cases h0:decide (4<(w0.length:Int))<;>cases h1:decide (4<(w1.length:Int))<;>cases h2:decide (4<(w2.length:Int))<;>cases h3:decide (4<(w3.length:Int))<;>simp_all
def Ds (m a b c d:Int):Bool:=inR a m&&inR b m&&inR c m&&inR d m
@[go_sem] theorem s_clockMay (i:Nat) (p:Bool) (z0 z1 z2 z3:V) (a b c d e:Int) (r:List V):Aa (Lv ctx (i+3)) 104 [.ip p (z0::z1::z2::z3::iV a::iV b::iV c::iV d::r) 4,iV e]=some (bV (Ds 65535 a b c d&&inR e 65535)):=by
 refine Ac rfl 5 (by rfl) ?_
 delta sE
 simp +contextual -dsimp -implicitDefEqProofs (maxSteps:=5000000) only [gLs,↓Aj (Un.eq_1),Ds,go_sem,simprocAttr]
 cases inR a 65535<;>cases inR b 65535<;>cases inR c 65535<;>cases inR d 65535<;>simp_all
@[go_sem] theorem s_clockMay' (i:Nat) (p:Bool) (a b c d e:Int):Aa (Lv ctx (i+3)) 104 [.ip p [iV a,iV b,iV c,iV d] 0,iV e]=some (bV (Ds 65535 a b c d&&inR e 65535)):=by
 refine Ac rfl 5 (by rfl) ?_
 delta sE
 simp +contextual -dsimp -implicitDefEqProofs (maxSteps:=5000000) only [gLs,↓Aj (Un.eq_1),Ds,go_sem,simprocAttr]
 cases inR a 65535<;>cases inR b 65535<;>cases inR c 65535<;>cases inR d 65535<;>simp_all
@[go_sem] theorem s_regsMay (i:Nat) (p:Bool) (z0 z1 z2 z3 z4 z5:V) (a b c d:Int) (r:List V):Aa (Lv ctx (i+3)) 159 [.ip p (z0::z1::z2::z3::z4::z5::iV a::iV b::iV c::iV d::r) 6]=some (bV (Ds 255 a b c d)):=by
 refine Ac rfl 5 (by rfl) ?_
 delta rW
 simp +contextual -dsimp -implicitDefEqProofs (maxSteps:=5000000) only [gLs,↓Aj (Um.eq_1),Ds,go_sem,simprocAttr]
 cases inR a 255<;>cases inR b 255<;>cases inR c 255<;>cases inR d 255<;>simp_all
@[go_sem] theorem s_regsMay' (i:Nat) (p:Bool) (a b c d:Int):Aa (Lv ctx (i+3)) 159 [.ip p [iV a,iV b,iV c,iV d] 0]=some (bV (Ds 255 a b c d)):=by
 refine Ac rfl 5 (by rfl) ?_
 delta rW
 simp +contextual -dsimp -implicitDefEqProofs (maxSteps:=5000000) only [gLs,↓Aj (Um.eq_1),Ds,go_sem,simprocAttr]
 cases inR a 255<;>cases inR b 255<;>cases inR c 255<;>cases inR d 255<;>simp_all
def max2 (a b:Int):Int:=if a<b then b else a
theorem iW (a b:Int):(if a<b then b else a)=max2 a b:=(rfl)
@[go_sem] theorem s_max (i:Nat) (p nn:Bool) (a b c d:Int):Aa (Lv ctx (i+1)) 105 [.isl p nn 1 [iV a,iV b,iV c,iV d]]=some (iV (max2 (max2 (max2 a b) c) d)):=by
 refine Ac rfl 5 (by rfl) ?_
 delta zN
 simp +contextual -dsimp -implicitDefEqProofs (maxSteps:=5000000) only [gLs,↓Aj (dI.eq_1),iW,go_sem,simprocAttr]
def EI (b:Bool) (X1 X2:Prop):Prop :=
 match b with
 | true=>X1
 | false=>X2
theorem Bd (X1 X2:Prop):EI true X1 X2=X1:=(rfl)
theorem Ax (X1 X2:Prop):EI false X1 X2=X2:=(rfl)
theorem bK (i k:Nat) (pf nn:Bool) (xs:List AF) (hx:xs.length≤BB) (q:Out→St→Option Ans) (Q:V→Hp→Nat→Prop) (u:Dum (fun s q=>evC ctx (Lv ctx (i+3)) (Aa (Lv ctx (i+3))) k KZ s (Aq [0,5,6,7] q))) (w:Dum q) (X1 X2:Prop)
  (hq1:∀ h n,Fin (q (.exit 0) ⟨Ae [0] [.isl pf nn 4 (xs.map eI)],h,n⟩) Q=X1) (hq2:∀ h n,Fin (q .ret ⟨Ae [2] [bV false],h,n⟩) Q=X2):∀ (suf pre:List AF) (kk:Nat) (h:Hp) (n:Nat),xs=pre++suf→suf.length<kk →
  GL 0 [0,5,6,7] (fun s q=>evC ctx (Lv ctx (i+3)) (Aa (Lv ctx (i+3))) k KZ s (Aq [0,5,6,7] q)) q kk ⟨Ae [0,5,6,7] [.isl pf nn 4 (xs.map eI),.isl pf nn 4 (xs.map eI),iV xs.length,iV pre.length],h,n⟩ Q u w =
  EI (BZ xs.length pre.length suf) X1 X2
 | [],pre,kk,h,n,hxs,hk=>by
  obtain ⟨kk,rfl⟩:∃ m,kk=m+1:=⟨kk - 1,by simp at hk;omega⟩
  have h1:decide ((pre.length:Int)<xs.length)=false:=by simp [hxs]
  simp +contextual -dsimp -implicitDefEqProofs (maxSteps:=5000000) only [gLs,↓Aj (KZ.eq_1),h1,Bd,BZ,hq1,go_sem,simprocAttr]
 | a::suf,pre,kk,h,n,hxs,hk=>by
  obtain ⟨kk,rfl⟩:∃ m,kk=m+1:=⟨kk - 1,by simp at hk;omega⟩
  have hl:pre.length<xs.length:=by simp [hxs]
  have h2:((pre.length:Int)<xs.length)=True:=by simpa using hl
  have h3:(0≤(pre.length:Int))=True:=by simp
  have h4:=wrN pre.length (by omega)
  have hg:xs[pre.length]?=some a:=by simp [hxs]
  have ih:=fun h n=>bK i k pf nn xs hx q Q u w X1 X2 hq1 hq2 suf (pre++[a]) kk h n (by simp [hxs]) (by simpa using hk)
  rw [Al] at ih
  have h5:((pre.length+1:Nat):Int)=(pre.length:Int)+1:=by simp
  cases hb:(BN a&&!(decide (a.code=4)&&(decide (a.b≤(pre.length:Int))||decide ((xs.length:Int)<a.b))))
  ·have hr:BZ xs.length pre.length (a::suf)=false:=by simp only [BZ,hb,Bool.false_and]
   rw [hr]
   have hb':(!(BN a)||(decide (a.code=4)&&(decide (a.b≤(pre.length:Int))||decide ((xs.length:Int)<a.b))))=true:=lH hb
   simp +contextual -dsimp -implicitDefEqProofs (maxSteps:=5000000) only [gLs,↓Aj (KZ.eq_1),h2,h3,h4,hg,hb',Ax,hq2,go_sem,simprocAttr]
  ·have hr:BZ xs.length pre.length (a::suf)=BZ xs.length ((pre.length+1:Nat):Int) suf:=by simp only [BZ,hb,Bool.true_and,h5]
   rw [hr]
   have hb':(!(BN a)||(decide (a.code=4)&&(decide (a.b≤(pre.length:Int))||decide ((xs.length:Int)<a.b))))=false:=lG hb
   simp +contextual -dsimp -implicitDefEqProofs (maxSteps:=5000000) only [gLs,↓Aj (KZ.eq_1),h2,h3,h4,hg,hb',ih,go_sem,simprocAttr]
theorem nM (i:Nat) (pf nn:Bool) (xs:List AF) (hx:xs.length≤BB):Aa (Lv ctx (i+4)) 184 [.isl pf nn 4 (xs.map eI)]=some (bV (Gz xs)):=by
 refine Ac rfl (xs.length+1) (by rfl) ?_
 delta xM
 have h2:=fun q Q u w h1 h2=>bK i (xs.length+1) pf nn xs hx q Q u w (Fin (q (.exit 0) ⟨Ae [0] [.isl pf nn 4 (xs.map eI)],Af,0⟩) Q) (Fin (q .ret ⟨Ae [2] [bV false],Af,0⟩) Q) h1 h2 xs [] (xs.length+1) Af 0 rfl (by omega)
 simp only [List.length_nil,Int.natCast_zero] at h2
 have h5:decide ((xs.length:Int)≤16)=decide (xs.length≤16):=by apply decide_eq_decide.mpr;omega
 simp +contextual -dsimp -implicitDefEqProofs (maxSteps:=5000000) only [Gz,h5,go_sem,simprocAttr]
 refine Eq.mpr (h2 _ _ _ _ (fun h n=>by simp +contextual -dsimp -implicitDefEqProofs (maxSteps:=5000000) only [go_sem,simprocAttr]) (fun h n=>by simp +contextual -dsimp -implicitDefEqProofs (maxSteps:=5000000) only [go_sem,simprocAttr])) ?_
 cases hb:BZ xs.length 0 xs<;>simp +contextual -dsimp -implicitDefEqProofs (maxSteps:=5000000) only [Bd,Ax,h5,go_sem,simprocAttr]
end Ve
namespace Ve
open Go Ve.Ab
set_option maxHeartbeats 16000000
set_option maxRecDepth 10000
@[go_sem] theorem mB (i:Nat) (p:Bool) (a b c x y z:Int):Aa (Lv ctx (i+1)) 208 [.agg [iV x,iV y,iV z],.ip p [iV a,iV b,iV c] 0]=some (bV (BY ⟨a,b,c⟩ ⟨x,y,z⟩)):=by
 refine Ac rfl 0 (by rfl) ?_
 delta wS
 simp +contextual -dsimp -implicitDefEqProofs (maxSteps:=5000000) only [go_sem,simprocAttr]
 all_goals simp_all [BY]
@[go_sem] theorem s_of (i:Nat) (a b c:Int):Aa (Lv ctx (i+1)) 187 [.agg [iV a,iV b,iV c]]=some (.fn (.func 208) [] [.ip true [iV a,iV b,iV c] 0]):=by
 refine Ac rfl 0 (by rfl) ?_
 delta xJ
 simp +contextual -dsimp -implicitDefEqProofs (maxSteps:=5000000) only [go_sem,simprocAttr]
theorem Vp (i k:Nat) (pf nn:Bool) (xs:List AH) (hx:xs.length≤BB) (q:Out→St→Option Ans) (Q:V→Hp→Nat→Prop) (u:Dum (fun s q=>evC ctx (Lv ctx (i+3)) (Aa (Lv ctx (i+3))) k ID s (Aq [0,8,9,10] q))) (w:Dum q) (X1 X2:Prop)
  (hq1:∀ h n,Fin (q (.exit 0) ⟨Ae [] [],h,n⟩) Q=X1) (hq2:∀ h n,Fin (q .ret ⟨Ae [2] [bV false],h,n⟩) Q=X2):∀ (suf pre:List AH) (kk:Nat) (h:Hp) (n:Nat),xs=pre++suf→suf.length<kk →
  GL 0 [0,8,9,10] (fun s q=>evC ctx (Lv ctx (i+3)) (Aa (Lv ctx (i+3))) k ID s (Aq [0,8,9,10] q)) q kk ⟨Ae [0,8,9,10] [.isl pf nn 3 (xs.map eR),.isl pf nn 3 (xs.map eR),iV xs.length,iV pre.length],h,n⟩ Q u w =
  EI (BM pre suf) X1 X2
 | [],pre,kk,h,n,hxs,hk=>by
  obtain ⟨kk,rfl⟩:∃ m,kk=m+1:=⟨kk - 1,by simp at hk;omega⟩
  have h1:decide ((pre.length:Int)<xs.length)=false:=by simp [hxs]
  simp +contextual -dsimp -implicitDefEqProofs (maxSteps:=5000000) only [gLs,↓Aj (ID.eq_1),h1,Bd,BM,hq1,go_sem,simprocAttr]
 | a::suf,pre,kk,h,n,hxs,hk=>by
  obtain ⟨kk,rfl⟩:∃ m,kk=m+1:=⟨kk - 1,by simp at hk;omega⟩
  have hl:pre.length<xs.length:=by simp [hxs]
  have h2:((pre.length:Int)<xs.length)=True:=by simpa using hl
  have h2':((pre.length:Int)≤xs.length)=True:=by simp;omega
  have h3:(0≤(pre.length:Int))=True:=by simp
  have h4:=wrN pre.length (by omega)
  have hg:xs[pre.length]?=some a:=by simp [hxs]
  have ht:(xs.map eR).take pre.length=pre.map eR:=by simp [hxs]
  have ih:=fun h n=>Vp i k pf nn xs hx q Q u w X1 X2 hq1 hq2 suf (pre++[a]) kk h n (by simp [hxs]) (by simpa using hk)
  rw [Al] at ih
  have hcf:Aa (Lv ctx (i+3)) 186 [.isl pf nn 3 (pre.map eR),.fn (.func 208) [] [.ip true [iV a.level,iV a.index,iV a.ver] 0]]=some (bV (pre.any (BY a))) :=
   Mo (i+1) pf nn pre (BY a) 208 [.ip true [iV a.level,iV a.index,iV a.ver] 0] (fun _ _ _ _ _ _=>rfl) (fun _=>rfl) (by simp [AN,V.scrub]) rfl (fun x _=>by simp only [eR];exact mB (i+0) true a.level a.index a.ver x.level x.index x.ver) (by omega)
  cases c1:inR a.level 3
  ·simp +contextual -dsimp -implicitDefEqProofs (maxSteps:=5000000) only [gLs,↓Aj (ID.eq_1),h2,h2',h3,h4,hg,ht,hcf,Ax,hq2,BM,Cn,c1,go_sem,simprocAttr]
  ·cases c2:inR a.index 3
   ·simp +contextual -dsimp -implicitDefEqProofs (maxSteps:=5000000) only [gLs,↓Aj (ID.eq_1),h2,h2',h3,h4,hg,ht,hcf,Ax,hq2,BM,Cn,c1,c2,go_sem,simprocAttr]
   ·cases c3:inR a.ver 65535
    ·simp +contextual -dsimp -implicitDefEqProofs (maxSteps:=5000000) only [gLs,↓Aj (ID.eq_1),h2,h2',h3,h4,hg,ht,hcf,Ax,hq2,BM,Cn,c1,c2,c3,go_sem,simprocAttr]
    ·cases c4:pre.any (BY a)<;>simp +contextual -dsimp -implicitDefEqProofs (maxSteps:=5000000) only [gLs,↓Aj (ID.eq_1),h2,h2',h3,h4,hg,ht,hcf,Ax,hq2,BM,Cn,c1,c2,c3,c4,ih,go_sem,simprocAttr]
theorem LP (i:Nat) (pf nn:Bool) (xs:List AH) (hx:xs.length≤BB):Aa (Lv ctx (i+4)) 150 [.isl pf nn 3 (xs.map eR)]=some (bV (AJ xs)):=by
 refine Ac rfl (xs.length+1) (by rfl) ?_
 delta yJ
 have h2:=fun q Q u w h1 h2=>Vp i (xs.length+1) pf nn xs hx q Q u w (Fin (q (.exit 0) ⟨Ae [] [],Af,0⟩) Q) (Fin (q .ret ⟨Ae [2] [bV false],Af,0⟩) Q) h1 h2 xs [] (xs.length+1) Af 0 rfl (by omega)
 simp only [List.length_nil,Int.natCast_zero] at h2
 cases h5:decide (16<(xs.length:Int))
 ·have h6:decide (xs.length≤16)=true:=by simp at h5 ⊢;omega
  simp +contextual -dsimp -implicitDefEqProofs (maxSteps:=5000000) only [AJ,h5,h6,go_sem,simprocAttr]
  refine Eq.mpr (h2 _ _ _ _ (fun h n=>by simp +contextual -dsimp -implicitDefEqProofs (maxSteps:=5000000) only [go_sem,simprocAttr]) (fun h n=>by simp +contextual -dsimp -implicitDefEqProofs (maxSteps:=5000000) only [go_sem,simprocAttr])) ?_
  cases hb:BM [] xs<;>simp +contextual -dsimp -implicitDefEqProofs (maxSteps:=5000000) only [Bd,Ax,go_sem,simprocAttr]
 ·have h6:decide (xs.length≤16)=false:=by simp at h5 ⊢;omega
  simp +contextual -dsimp -implicitDefEqProofs (maxSteps:=5000000) only [AJ,h5,h6,go_sem,simprocAttr]
@[go_sem] theorem s_or (i:Nat) (p nn:Bool) (a b:Int):Aa (Lv ctx (i+1)) 209 [.isl p nn 1 [iV a,iV b]]=some (iV (if a=0 then b else a)):=by
 refine Ac rfl 3 (by rfl) ?_
 delta wR
 by_cases ha:a=0
 ·subst ha
  by_cases hb:b=0
  ·subst hb
   simp +contextual -dsimp -implicitDefEqProofs (maxSteps:=5000000) only [gLs,↓Aj (QM.eq_1),go_sem,simprocAttr]
  ·have hb':decide (b=0)=false:=by simpa using hb
   simp +contextual -dsimp -implicitDefEqProofs (maxSteps:=5000000) only [gLs,↓Aj (QM.eq_1),hb',go_sem,simprocAttr]
 ·have ha':decide (a=0)=false:=by simpa using ha
  simp +contextual -dsimp -implicitDefEqProofs (maxSteps:=5000000) only [gLs,↓Aj (QM.eq_1),ha',if_neg ha,go_sem,simprocAttr]
def LK (a b:Ai):Int:=if IntKind.wrap .i64 (a.level - b.level)=0 then IntKind.wrap .i64 (a.index - b.index) else IntKind.wrap .i64 (a.level - b.level)
@[go_sem] theorem s_row (i:Nat) (a b c x y z:Int):Aa (Lv ctx (i+2)) 188 [.agg [iV a,iV b,iV c],.agg [iV x,iV y,iV z]]=some (iV (LK ⟨a,b,c⟩ ⟨x,y,z⟩)):=by
 refine Ac rfl 0 (by rfl) ?_
 delta xI
 simp +contextual -dsimp -implicitDefEqProofs (maxSteps:=5000000) only [LK,List.replicate,go_sem,simprocAttr]
theorem Pl (i g:Nat) (pf:Bool) (pw:Bool) (row:List V) (off:Nat) (a:Ag) (b:Bool) (hc:Ah tbl g []) (hp:Aa (Lv ctx i) g [.agg [.ip pw row off],(eS pf) a]=some (bV b)):Aa (Lv ctx (i+1)) 148 [(eS pf) a,.ip pw [.fn (.func g) [.agg [.ip pw row off]] []] 0]=some (bV (!b)):=by
 simp only [eS] at hp ⊢
 refine Ac rfl 0 (by rfl) ?_
 delta yL
 simp +contextual -dsimp -implicitDefEqProofs (maxSteps:=5000000) only [hc,hp,go_sem,simprocAttr]
theorem Pn (i g:Nat) (pf nn:Bool) (pw:Bool) (row:List V) (off:Nat) (xs:List Ag) (p:Ag→Bool) (hc:Ah tbl g []) (hx:xs.length≤BB) (hp:∀ a,a∈xs→Aa (Lv ctx i) g [.agg [.ip pw row off],(eS pf) a]=some (bV (p a))):Aa (Lv ctx (i+4)) 108 [.isl pf nn 17 (xs.map (eS pf)),.fn (.func g) [.agg [.ip pw row off]] []]=some (bV (xs.all p)):=by
 have h1:Aa (Lv ctx (i+3)) 147 [.isl pf nn 17 (xs.map (eS pf)),.fn (.func 148) [] [.ip pw [.fn (.func g) [.agg [.ip pw row off]] []] 0]]=some (bV (!(xs.all p))):=by
  rw [Ru (i+1) pf nn xs (fun x=>!p x) 148 [.ip pw [.fn (.func g) [.agg [.ip pw row off]] []] 0] (fun _ _ _ _ _ _=>rfl) (fun _=>rfl) (by simp [AN,V.scrub]) rfl (fun a ha=>Pl i g pf pw row off a (p a) hc (hp a ha)) hx,GK]
 refine Ac rfl 0 (by rfl) ?_
 delta zJ
 simp +contextual -dsimp -implicitDefEqProofs (maxSteps:=5000000) only [h1,Bool.not_not,go_sem,simprocAttr]
theorem Xp (i g:Nat) (pf:Bool) (pw:Bool) (row:List V) (off:Nat) (a:AH) (b:Bool) (hc:Ah tbl g []) (hp:Aa (Lv ctx i) g [.agg [.ip pw row off],eR a]=some (bV b)):Aa (Lv ctx (i+1)) 189 [eR a,.ip pw [.fn (.func g) [.agg [.ip pw row off]] []] 0]=some (bV (!b)):=by
 simp only [eR] at hp ⊢
 refine Ac rfl 0 (by rfl) ?_
 delta xH
 simp +contextual -dsimp -implicitDefEqProofs (maxSteps:=5000000) only [hc,hp,go_sem,simprocAttr]
theorem Xt (i g:Nat) (pf nn:Bool) (pw:Bool) (row:List V) (off:Nat) (xs:List AH) (p:AH→Bool) (hc:Ah tbl g []) (hx:xs.length≤BB) (hp:∀ a,a∈xs→Aa (Lv ctx i) g [.agg [.ip pw row off],eR a]=some (bV (p a))):Aa (Lv ctx (i+4)) 152 [.isl pf nn 3 (xs.map eR),.fn (.func g) [.agg [.ip pw row off]] []]=some (bV (xs.all p)):=by
 have h1:Aa (Lv ctx (i+3)) 186 [.isl pf nn 3 (xs.map eR),.fn (.func 189) [] [.ip pw [.fn (.func g) [.agg [.ip pw row off]] []] 0]]=some (bV (!(xs.all p))):=by
  rw [Mo (i+1) pf nn xs (fun x=>!p x) 189 [.ip pw [.fn (.func g) [.agg [.ip pw row off]] []] 0] (fun _ _ _ _ _ _=>rfl) (fun _=>rfl) (by simp [AN,V.scrub]) rfl (fun a ha=>Xp i g pf pw row off a (p a) hc (hp a ha)) hx,GK]
 refine Ac rfl 0 (by rfl) ?_
 delta yH
 simp +contextual -dsimp -implicitDefEqProofs (maxSteps:=5000000) only [h1,Bool.not_not,go_sem,simprocAttr]
theorem Tu (i g:Nat) (pf:Bool) (pw:Bool) (row:List V) (off:Nat) (a:Ai) (b:Bool) (hc:Ah tbl g []) (hp:Aa (Lv ctx i) g [.agg [.ip pw row off],eWr a]=some (bV b)):Aa (Lv ctx (i+1)) 192 [eWr a,.ip pw [.fn (.func g) [.agg [.ip pw row off]] []] 0]=some (bV (!b)):=by
 simp only [eWr] at hp ⊢
 refine Ac rfl 0 (by rfl) ?_
 delta xE
 simp +contextual -dsimp -implicitDefEqProofs (maxSteps:=5000000) only [hc,hp,go_sem,simprocAttr]
theorem Tw (i g:Nat) (pf nn:Bool) (pw:Bool) (row:List V) (off:Nat) (xs:List Ai) (p:Ai→Bool) (hc:Ah tbl g []) (hx:xs.length≤BB) (hp:∀ a,a∈xs→Aa (Lv ctx i) g [.agg [.ip pw row off],eWr a]=some (bV (p a))):Aa (Lv ctx (i+4)) 154 [.isl pf nn 3 (xs.map eWr),.fn (.func g) [.agg [.ip pw row off]] []]=some (bV (xs.all p)):=by
 have h1:Aa (Lv ctx (i+3)) 191 [.isl pf nn 3 (xs.map eWr),.fn (.func 192) [] [.ip pw [.fn (.func g) [.agg [.ip pw row off]] []] 0]]=some (bV (!(xs.all p))):=by
  rw [NN (i+1) pf nn xs (fun x=>!p x) 192 [.ip pw [.fn (.func g) [.agg [.ip pw row off]] []] 0] (fun _ _ _ _ _ _=>rfl) (fun _=>rfl) (by simp [AN,V.scrub]) rfl (fun a ha=>Tu i g pf pw row off a (p a) hc (hp a ha)) hx,GK]
 refine Ac rfl 0 (by rfl) ?_
 delta yF
 simp +contextual -dsimp -implicitDefEqProofs (maxSteps:=5000000) only [h1,Bool.not_not,go_sem,simprocAttr]
theorem Xq (i g:Nat) (pf:Bool) (pw:Bool) (row:List V) (off:Nat) (a:AF) (b:Bool) (hc:Ah tbl g []) (hp:Aa (Lv ctx i) g [.agg [.ip pw row off],eI a]=some (bV b)):Aa (Lv ctx (i+1)) 194 [eI a,.ip pw [.fn (.func g) [.agg [.ip pw row off]] []] 0]=some (bV (!b)):=by
 simp only [eI] at hp ⊢
 refine Ac rfl 0 (by rfl) ?_
 delta xC
 simp +contextual -dsimp -implicitDefEqProofs (maxSteps:=5000000) only [hc,hp,go_sem,simprocAttr]
theorem Xu (i g:Nat) (pf nn:Bool) (pw:Bool) (row:List V) (off:Nat) (xs:List AF) (p:AF→Bool) (hc:Ah tbl g []) (hx:xs.length≤BB) (hp:∀ a,a∈xs→Aa (Lv ctx i) g [.agg [.ip pw row off],eI a]=some (bV (p a))):Aa (Lv ctx (i+4)) 156 [.isl pf nn 4 (xs.map eI),.fn (.func g) [.agg [.ip pw row off]] []]=some (bV (xs.all p)):=by
 have h1:Aa (Lv ctx (i+3)) 193 [.isl pf nn 4 (xs.map eI),.fn (.func 194) [] [.ip pw [.fn (.func g) [.agg [.ip pw row off]] []] 0]]=some (bV (!(xs.all p))):=by
  rw [Zm (i+1) pf nn xs (fun x=>!p x) 194 [.ip pw [.fn (.func g) [.agg [.ip pw row off]] []] 0] (fun _ _ _ _ _ _=>rfl) (fun _=>rfl) (by simp [AN,V.scrub]) rfl (fun a ha=>Xq i g pf pw row off a (p a) hc (hp a ha)) hx,GK]
 refine Ac rfl 0 (by rfl) ?_
 delta yD
 simp +contextual -dsimp -implicitDefEqProofs (maxSteps:=5000000) only [h1,Bool.not_not,go_sem,simprocAttr]
theorem Tv (i g:Nat) (pf:Bool) (a:Ba) (b:Bool) (hc:Ah tbl g []) (hp:Aa (Lv ctx i) g [eE a]=some (bV b)):Aa (Lv ctx (i+1)) 162 [eE a,.ip true [.fn (.func g) [] []] 0]=some (bV (!b)):=by
 simp only [eE] at hp ⊢
 refine Ac rfl 0 (by rfl) ?_
 delta xY
 simp +contextual -dsimp -implicitDefEqProofs (maxSteps:=5000000) only [hc,hp,go_sem,simprocAttr]
theorem Tx (i g:Nat) (pf nn:Bool) (xs:List Ba) (p:Ba→Bool) (hc:Ah tbl g []) (hx:xs.length≤BB) (hp:∀ a,a∈xs→Aa (Lv ctx i) g [eE a]=some (bV (p a))):Aa (Lv ctx (i+4)) 110 [.isl pf nn 4 (xs.map eE),.fn (.func g) [] []]=some (bV (xs.all p)):=by
 have h1:Aa (Lv ctx (i+3)) 161 [.isl pf nn 4 (xs.map eE),.fn (.func 162) [] [.ip true [.fn (.func g) [] []] 0]]=some (bV (!(xs.all p))):=by
  rw [Xs (i+1) pf nn xs (fun x=>!p x) 162 [.ip true [.fn (.func g) [] []] 0] (fun _ _ _ _ _ _=>rfl) (fun _=>rfl) (by simp [AN,V.scrub]) rfl (fun a ha=>Tv i g pf a (p a) hc (hp a ha)) hx,GK]
 refine Ac rfl 0 (by rfl) ?_
 delta zH
 simp +contextual -dsimp -implicitDefEqProofs (maxSteps:=5000000) only [h1,Bool.not_not,go_sem,simprocAttr]
@[go_sem] theorem fL (i:Nat) (p a b c d na nb nc nd:Bool) (w0 w1 w2 w3:List Ao) (r:List V) (x y z:Int):Aa (Lv ctx (i+3)) 153 [.agg [.ip p (.isl a na 3 (w0.map eW)::.isl b nb 3 (w1.map eW)::.isl c nc 3 (w2.map eW)::.isl d nd 3 (w3.map eW)::r) 0],.agg [iV x,iV y,iV z]]=some (bV (AV ⟨w0,w1,w2,w3⟩ x y)):=by
 refine Ac rfl 0 (by rfl) ?_
 delta yG
 simp +contextual -dsimp -implicitDefEqProofs (maxSteps:=5000000) only [go_sem,simprocAttr]
@[go_sem] theorem Zh (i:Nat) (p a b c d na nb nc nd:Bool) (w0 w1 w2 w3:List Ao) (r:List V) (x y z:Int):Aa (Lv ctx (i+3)) 155 [.agg [.ip p (.isl a na 3 (w0.map eW)::.isl b nb 3 (w1.map eW)::.isl c nc 3 (w2.map eW)::.isl d nd 3 (w3.map eW)::r) 0],.agg [iV x,iV y,iV z]]=some (bV (AV ⟨w0,w1,w2,w3⟩ x y)):=by
 refine Ac rfl 0 (by rfl) ?_
 delta yE
 simp +contextual -dsimp -implicitDefEqProofs (maxSteps:=5000000) only [go_sem,simprocAttr]
@[go_sem] theorem fM (i:Nat) (p a b c d na nb nc nd:Bool) (w0 w1 w2 w3:List Ao) (r:List V) (x y z t:Int):Aa (Lv ctx (i+3)) 157 [.agg [.ip p (.isl a na 3 (w0.map eW)::.isl b nb 3 (w1.map eW)::.isl c nc 3 (w2.map eW)::.isl d nd 3 (w3.map eW)::r) 0],.agg [iV x,iV y,iV z,iV t]]=some (bV (!(FV x)||AV ⟨w0,w1,w2,w3⟩ z t)):=by
 refine Ac rfl 0 (by rfl) ?_
 delta yC
 simp +contextual -dsimp -implicitDefEqProofs (maxSteps:=5000000) only [go_sem,simprocAttr]
@[go_sem] theorem fO (i:Nat) (a b c d:Int):Aa (Lv ctx (i+2)) 106 [.agg [iV a,iV b,iV c,iV d]]=some (bV (inR b 3)):=by
 refine Ac rfl 0 (by rfl) ?_
 delta zL
 simp +contextual -dsimp -implicitDefEqProofs (maxSteps:=5000000) only [go_sem,simprocAttr]
theorem fH (i:Nat) (pf nn:Bool) (a b c:Int) (xs:List AF) (hx:xs.length≤BB):Aa (Lv ctx (i+5)) 149 [.agg [iV a,iV b,iV c,.isl pf nn 4 (xs.map eI)]]=some (bV (DT a b c xs)):=by
 have hp:=nM (i+0) pf nn xs hx
 refine Ac rfl 0 (by rfl) ?_
 delta yK
 simp +contextual -dsimp -implicitDefEqProofs (maxSteps:=5000000) only [DT,hp,go_sem,simprocAttr]
end Ve
namespace Ve
open Go Ve.Ab
set_option maxHeartbeats 16000000
set_option maxRecDepth 10000
theorem Xy {v a:Ai} (hv:Ay v=true) (ha:Ay a=true):decide (0≤LK v a)=!decide (AA v.level v.index<AA a.level a.index):=by
 simp only [Ay,inR,Bool.and_eq_true,decide_eq_true_eq] at hv ha
 have e1:=Gq (a:=v.level - a.level) (by omega) (by omega)
 have e2:=Gq (a:=v.index - a.index) (by omega) (by omega)
 simp only [wr] at e1 e2
 have h:(0≤LK v a)↔¬ (AA v.level v.index<AA a.level a.index):=by
  simp only [LK,e1,e2,AA]
  split<;>omega
 by_cases hp:AA v.level v.index<AA a.level a.index
 ·simp [hp,h]
 ·simp [hp,h]
theorem RY (i k:Nat) (pf nn:Bool) (xs:List Ai) (hx:xs.length≤BB) (q:Out→St→Option Ans) (Q:V→Hp→Nat→Prop) (u:Dum (fun s q=>evC ctx (Lv ctx (i+2)) (Aa (Lv ctx (i+2))) k FE s (Aq [0,5,6,7] q))) (w:Dum q) (X1 X2:Prop)
  (hq1:∀ h n,Fin (q (.exit 0) ⟨Ae [0] [.isl pf nn 3 (xs.map eWr)],h,n⟩) Q=X1) (hq2:∀ h n,Fin (q .ret ⟨Ae [2] [bV false],h,n⟩) Q=X2):∀ (suf pre:List Ai) (kk:Nat) (h:Hp) (n:Nat),xs=pre++suf→suf.length<kk→(∀ v,pre.getLast?=some v→Ay v=true) →
  GL 0 [0,5,6,7] (fun s q=>evC ctx (Lv ctx (i+2)) (Aa (Lv ctx (i+2))) k FE s (Aq [0,5,6,7] q)) q kk ⟨Ae [0,5,6,7] [.isl pf nn 3 (xs.map eWr),.isl pf nn 3 (xs.map eWr),iV xs.length,iV pre.length],h,n⟩ Q u w =
  EI (AT pre.getLast? suf) X1 X2
 | [],pre,kk,h,n,hxs,hk,hv=>by
  obtain ⟨kk,rfl⟩:∃ m,kk=m+1:=⟨kk - 1,by simp at hk;omega⟩
  have h1:decide ((pre.length:Int)<xs.length)=false:=by simp [hxs]
  have h2:∀ o,AT o []=true:=fun o=>by cases o<;>rfl
  simp +contextual -dsimp -implicitDefEqProofs (maxSteps:=5000000) only [gLs,↓Aj (FE.eq_1),h1,Bd,h2,hq1,go_sem,simprocAttr]
 | a::suf,pre,kk,h,n,hxs,hk,hv=>by
  obtain ⟨kk,rfl⟩:∃ m,kk=m+1:=⟨kk - 1,by simp at hk;omega⟩
  have hl:pre.length<xs.length:=by simp [hxs]
  have h2:((pre.length:Int)<xs.length)=True:=by simpa using hl
  have h3:(0≤(pre.length:Int))=True:=by simp
  have h4:=wrN pre.length (by omega)
  have hg:xs[pre.length]?=some a:=by simp [hxs]
  have ih:=fun h n hv=>RY i k pf nn xs hx q Q u w X1 X2 hq1 hq2 suf (pre++[a]) kk h n (by simp [hxs]) (by simpa using hk) hv
  rw [Al] at ih
  simp only [List.getLast?_append,List.getLast?_singleton,Option.some_or,Option.some.injEq,forall_eq'] at ih
  rcases List.eq_nil_or_concat pre with rfl | ⟨L,v,rfl⟩
  ·simp only [List.length_nil,Nf] at *
   cases c1:inR a.level 3
   ·simp +contextual -dsimp -implicitDefEqProofs (maxSteps:=5000000) only [gLs,↓Aj (FE.eq_1),h2,h3,h4,hg,Ax,hq2,AT,Ay,c1,List.getLast?_nil,go_sem,simprocAttr]
   ·cases c2:inR a.index 3
    ·simp +contextual -dsimp -implicitDefEqProofs (maxSteps:=5000000) only [gLs,↓Aj (FE.eq_1),h2,h3,h4,hg,Ax,hq2,AT,Ay,c1,c2,List.getLast?_nil,go_sem,simprocAttr]
    ·cases c3:inR a.val 255
     ·simp +contextual -dsimp -implicitDefEqProofs (maxSteps:=5000000) only [gLs,↓Aj (FE.eq_1),h2,h3,h4,hg,Ax,hq2,AT,Ay,c1,c2,c3,List.getLast?_nil,go_sem,simprocAttr]
     ·have ih':=fun h n=>ih h n (by simp only [Ay,c1,c2,c3,Bool.and_self])
      simp only [Nat.zero_add,SG] at ih'
      simp +contextual -dsimp -implicitDefEqProofs (maxSteps:=5000000) only [gLs,↓Aj (FE.eq_1),h2,h3,h4,hg,AT,Ay,c1,c2,c3,ih',List.getLast?_nil,go_sem,simprocAttr]
  ·have hv1:Ay v=true:=hv v (by simp)
   have hlen:(L.concat v).length=L.length+1:=by simp
   have hlast:(L.concat v).getLast?=some v:=by simp
   rw [hlen] at h2 h3 h4 hg ih
   rw [hlen,hlast]
   have h6:IntKind.wrap .i64 (((L.length+1:Nat):Int) - 1)=(L.length:Int):=by
    have:=Gq (a:=(L.length:Int)) (by omega) (by simp [hlen] at hl;simp only [BB] at hx;omega)
    simp only [wr] at this
    rw [show (((L.length+1:Nat):Int) - 1)=(L.length:Int) by omega,this]
   have h7:((L.length:Int)<xs.length)=True:=by simp only [eq_iff_iff,iff_true];rw [hlen] at hl;omega
   have h8:(0≤(L.length:Int))=True:=by simp
   have h9:decide (0<((L.length+1:Nat):Int))=true:=by simp only [decide_eq_true_eq];omega
   have hg':xs[L.length]?=some v:=by simp [hxs]
   cases c1:inR a.level 3
   ·simp +contextual -dsimp -implicitDefEqProofs (maxSteps:=5000000) only [gLs,↓Aj (FE.eq_1),h2,h3,h4,hg,Ax,hq2,AT,Ay,c1,go_sem,simprocAttr]
   ·cases c2:inR a.index 3
    ·simp +contextual -dsimp -implicitDefEqProofs (maxSteps:=5000000) only [gLs,↓Aj (FE.eq_1),h2,h3,h4,hg,Ax,hq2,AT,Ay,c1,c2,go_sem,simprocAttr]
    ·cases c3:inR a.val 255
     ·simp +contextual -dsimp -implicitDefEqProofs (maxSteps:=5000000) only [gLs,↓Aj (FE.eq_1),h2,h3,h4,hg,Ax,hq2,AT,Ay,c1,c2,c3,go_sem,simprocAttr]
     ·have ha1:Ay a=true:=by simp only [Ay,c1,c2,c3,Bool.and_self]
      have ih':=fun h n=>ih h n ha1
      have hr:=Xy hv1 ha1
      cases c4:decide (AA v.level v.index<AA a.level a.index)<;>rw [c4] at hr <;>
       simp +contextual -dsimp -implicitDefEqProofs (maxSteps:=5000000) only [gLs,↓Aj (FE.eq_1),h2,h3,h4,h6,h7,h8,h9,hg,hg',hr,AT,ha1,c1,c2,c3,c4,ih',Ax,hq2,go_sem,simprocAttr]
theorem If (i:Nat) (pf nn:Bool) (xs:List Ai) (hx:xs.length≤BB):Aa (Lv ctx (i+3)) 151 [.isl pf nn 3 (xs.map eWr)]=some (bV (AP xs)):=by
 refine Ac rfl (xs.length+1) (by rfl) ?_
 delta yI
 have h2:=fun q Q u w h1 h2=>RY i (xs.length+1) pf nn xs hx q Q u w (Fin (q (.exit 0) ⟨Ae [0] [.isl pf nn 3 (xs.map eWr)],Af,0⟩) Q) (Fin (q .ret ⟨Ae [2] [bV false],Af,0⟩) Q) h1 h2 xs [] (xs.length+1) Af 0 rfl (by omega) (by simp)
 simp only [List.length_nil,Int.natCast_zero,List.getLast?_nil] at h2
 have h5:decide ((xs.length:Int)≤16)=decide (xs.length≤16):=by apply decide_eq_decide.mpr;omega
 simp +contextual -dsimp -implicitDefEqProofs (maxSteps:=5000000) only [AP,h5,go_sem,simprocAttr]
 refine Eq.mpr (h2 _ _ _ _ (fun h n=>by simp +contextual -dsimp -implicitDefEqProofs (maxSteps:=5000000) only [go_sem,simprocAttr]) (fun h n=>by simp +contextual -dsimp -implicitDefEqProofs (maxSteps:=5000000) only [go_sem,simprocAttr])) ?_
 cases hb:AT none xs<;>simp +contextual -dsimp -implicitDefEqProofs (maxSteps:=5000000) only [Bd,Ax,h5,go_sem,simprocAttr]
end Ve
namespace Ve
open Go Ve.Ab
set_option maxHeartbeats 16000000
set_option maxRecDepth 10000
theorem Rw {w:Ai} {l x v:Int} (hw:Ay w=true) (hl:inR l 3=true) (hx:inR x 3=true):decide (LK w ⟨l,x,v⟩<0)=decide (plW w<AA l x)∧decide (LK w ⟨l,x,v⟩=0)=decide (plW w=AA l x):=by
 simp only [Ay,inR,Bool.and_eq_true,decide_eq_true_eq] at hw hl hx
 have e1:=Gq (a:=w.level - l) (by omega) (by omega)
 have e2:=Gq (a:=w.index - x) (by omega) (by omega)
 simp only [wr] at e1 e2
 have h:(LK w ⟨l,x,v⟩<0↔plW w<AA l x)∧(LK w ⟨l,x,v⟩=0↔plW w=AA l x):=by
  simp only [LK,e1,e2,plW,AA]
  split<;>omega
 exact ⟨by simp only [h.1],by simp only [h.2]⟩
theorem Ui (P:FuncId→List V→Option V) (n:Nat) (f:Bool) (xs:List V):Fw tbl P n f Bn xs=.p none:=rfl
def PQ (t:Int) (xs:List Ai):Bool:=match xs[Ck t xs]? with
 | some w=>decide (plW w=t)
 | none=>false
theorem cH {l x:Int} (hx:inR x 3=true) {xs:List Ai} (hm:AP xs=true):AY xs l x=if PQ (AA l x) xs=true then ((xs.getD (Ck (AA l x) xs) ⟨0,0,0⟩).val,true) else (0,false):=by
 obtain ⟨h1,h2,_⟩:=Ce hm
 unfold AY
 rw [hm,if_pos rfl,Sw hx xs h1 h2]
 unfold PQ
 cases h:xs[Ck (AA l x) xs]? with
 | none=>simp
 | some w=>simp only [List.getD_eq_getElem?_getD,h,Option.getD_some,decide_eq_true_eq]
theorem jX {lo hi:Nat} (h:hi≤16) (h2:lo<hi):IntKind.wrap .i64 ((lo:Int)+(hi:Int))=((lo+hi:Nat):Int)∧IntKind.wrap .u64 ((lo+hi:Nat):Int)=((lo+hi:Nat):Int)∧((((lo+hi:Nat):Int)).fdiv (2 ^ min (1:Int).toNat (IntKind.bits .u64)))=(((lo+hi) / 2:Nat):Int)∧IntKind.wrap .i64 (((lo+hi) / 2:Nat):Int)=(((lo+hi) / 2:Nat):Int):=by
 have key:∀ n:_root_.Fin 32,IntKind.wrap .i64 ((n.val:Nat):Int)=((n.val:Nat):Int)∧IntKind.wrap .u64 ((n.val:Nat):Int)=((n.val:Nat):Int)∧(((n.val:Nat):Int).fdiv (2 ^ min (1:Int).toNat (IntKind.bits .u64)))=((n.val / 2:Nat):Int)∧IntKind.wrap .i64 ((n.val / 2:Nat):Int)=((n.val / 2:Nat):Int):=by decide +kernel
 have:=key ⟨lo+hi,by omega⟩
 simp only at this
 rw [show (lo:Int)+(hi:Int)=((lo+hi:Nat):Int) by omega]
 exact this
theorem bE (i k:Nat) (pf nn p:Bool) (xs:List Ai) (hw:∀ w∈xs,Ay w=true) (hp:xs.Pairwise (fun a b=>plW a<plW b)) (h16:xs.length≤16) (l x v:Int) (hl:inR l 3=true) (hx:inR x 3=true) (q:Out→St→Option Ans) (Q:V→Hp→Nat→Prop)
  (u:Dum (fun s q=>evC ctx (Lv ctx (i+2)) (Aa (Lv ctx (i+2))) k KY s (Aq [0,2,4,8,9,10] q))) (w:Dum q)
  (hend:Fin (q (.exit 0) ⟨Ae [0,2,4,8,9] [.isl pf nn 3 (xs.map eWr),.fn (.func 188) [] [],.ip p [iV l,iV x,iV v] 0,iV xs.length,iV (Ck (AA l x) xs)],Af,0⟩) Q) :
  ∀ (kk lo hi:Nat),lo≤Ck (AA l x) xs→Ck (AA l x) xs≤hi→hi≤xs.length→hi<lo+kk →
  GL 0 [0,2,4,8,9,10] (fun s q=>evC ctx (Lv ctx (i+2)) (Aa (Lv ctx (i+2))) k KY s (Aq [0,2,4,8,9,10] q)) q kk ⟨Ae [0,2,4,8,9,10] [.isl pf nn 3 (xs.map eWr),.fn (.func 188) [] [],.ip p [iV l,iV x,iV v] 0,iV xs.length,iV lo,iV hi],Af,0⟩ Q u w
 | 0,lo,hi,h1,h2,h3,h4=>by omega
 | kk+1,lo,hi,h1,h2,h3,h4=>by
  by_cases hlt:lo<hi
  ·have l0:decide ((lo:Int)<(hi:Int))=true:=by simpa using hlt
   obtain ⟨g1,g2,g3,g4⟩:=jX (by omega) hlt
   have hsh:∀ t,Bu lay .shr t (.lit (.int .u64 ((lo+hi:Nat):Int))) (.lit (.int .u64 1))=some (.lit (.int .u64 (((lo+hi) / 2:Nat):Int))):=fun t=>by rw [QS (by decide),g3]
   have hml:(lo+hi) / 2<xs.length:=by omega
   have hmlo:lo≤(lo+hi) / 2:=by omega
   have hmhi:(lo+hi) / 2<hi:=by omega
   generalize (lo+hi) / 2=c at g3 g4 hsh hml hmlo hmhi
   generalize ((lo+hi:Nat):Int)=e at g1 g2 g3 hsh
   have p1:(0≤(c:Int))=True:=by simp
   have p2:((c:Int)<(xs.length:Int))=True:=by simpa using hml
   obtain ⟨b,hb⟩:∃ b,xs[c]?=some b:=⟨_,List.getElem?_eq_getElem hml⟩
   have hs:=(Rw (v:=v) (hw b (List.mem_of_getElem? hb)) hl hx).1
   have w1:=wrN c (by simp only [BB];omega)
   by_cases hpb:plW b<AA l x
   ·have hca:c<Ck (AA l x) xs:=by
     rcases Nat.lt_or_ge c (Ck (AA l x) xs) with h | h
     ·exact h
     ·have:=ZA _ xs hp c b h hb;omega
    have s1:decide (LK b ⟨l,x,v⟩<0)=true:=by rw [hs];simpa using hpb
    have ih:=bE i k pf nn p xs hw hp h16 l x v hl hx q Q u w hend kk (c+1) hi (by omega) h2 h3 (by omega)
    simp +contextual -dsimp -implicitDefEqProofs (maxSteps:=5000000) only [gLs,↓Aj (KY.eq_1),BA,l0,g1,g2,g4,hsh,p1,p2,hb,s1,w1,go_sem,simprocAttr]
    exact (BF (by rfl)).mpr ih
   ·have hca:Ck (AA l x) xs≤c:=by
     rcases Nat.lt_or_ge c (Ck (AA l x) xs) with h | h
     ·exact absurd (Zz _ xs c b h hb) hpb
     ·exact h
    have s1:decide (LK b ⟨l,x,v⟩<0)=false:=by rw [hs];simpa using hpb
    have ih:=bE i k pf nn p xs hw hp h16 l x v hl hx q Q u w hend kk lo c h1 hca (by omega) (by omega)
    simp +contextual -dsimp -implicitDefEqProofs (maxSteps:=5000000) only [gLs,↓Aj (KY.eq_1),BA,l0,g1,g2,g4,hsh,p1,p2,hb,s1,w1,go_sem,simprocAttr]
    exact (BF (by rfl)).mpr ih
  ·have l0:decide ((lo:Int)<(hi:Int))=false:=by simpa using hlt
   have:lo=Ck (AA l x) xs:=by omega
   subst this
   simp +contextual -dsimp -implicitDefEqProofs (maxSteps:=5000000) only [gLs,↓Aj (KY.eq_1),l0,go_sem,simprocAttr]
   exact hend
theorem tG (i:Nat) (pf nn:Bool) (xs:List Ai) (hm:AP xs=true) (l x v:Int) (hl:inR l 3=true) (hx:inR x 3=true):Aa (Lv ctx (i+3)) 201 [.isl pf nn 3 (xs.map eWr),.agg [iV l,iV x,iV v],.fn (.func 188) [] []]=some (.tup [iV (Ck (AA l x) xs),bV (PQ (AA l x) xs)]):=by
 obtain ⟨hw,hp,h16⟩:=Ce hm
 have key:=fun p q Q u w hend=>bE i 17 pf nn p xs hw hp h16 l x v hl hx q Q u w hend 17 0 xs.length (Nat.zero_le _) (Pw _ _) (Nat.le_refl _) (by omega)
 simp only [Int.natCast_zero] at key
 have hple:=Pw (AA l x) xs
 refine Ac rfl 17 (by rfl) ?_
 delta wX
 simp +contextual -dsimp -implicitDefEqProofs (maxSteps:=5000000) only [go_sem,simprocAttr]
 refine key _ _ _ _ _ ?_
 unfold PQ
 cases hb:xs[Ck (AA l x) xs]? with
 | none =>
  have hlen:Ck (AA l x) xs=xs.length:=by
   have:=List.getElem?_eq_none_iff.1 hb;omega
  rw [hlen]
  have l0:decide ((xs.length:Int)<(xs.length:Int))=false:=by simp
  simp +contextual -dsimp -implicitDefEqProofs (maxSteps:=5000000) only [l0,Ui,go_sem,simprocAttr]
 | some b =>
  have hlen:=Au hb
  generalize Ck (AA l x) xs=a at hb hlen
  have l0:decide ((a:Int)<(xs.length:Int))=true:=by simpa using hlen
  have p1:(0≤(a:Int))=True:=by simp
  have p2:((a:Int)<(xs.length:Int))=True:=by simpa using hlen
  have hs:=(Rw (v:=v) (hw b (List.mem_of_getElem? hb)) hl hx).2
  simp +contextual -dsimp -implicitDefEqProofs (maxSteps:=5000000) only [l0,p1,p2,hb,hs,go_sem,simprocAttr]
theorem nU (i:Nat) (pf nn:Bool) (xs:List Ai) (hm:AP xs=true) (l x:Int) (hl:inR l 3=true) (hx:inR x 3=true):Aa (Lv ctx (i+6)) 199 [.isl pf nn 3 (xs.map eWr),iV l,iV x]=some (.tup [iV (AY xs l x).1,bV (AY xs l x).2]):=by
 have h16:=(Ce hm).2.2
 have q1:=If (i+2) pf nn xs (by simp only [BB];omega)
 have q2:=tG (i+(5 - 3)) pf nn xs hm l x 0 hl hx
 rw [hm] at q1
 rw [cH hx hm]
 simp only [Nat.add_assoc,Nat.reduceAdd,Nat.reduceSub] at q1 q2
 cases hh:PQ (AA l x) xs
 ·rw [hh] at q2
  simp only [Bool.false_eq_true,if_false]
  refine Ac rfl 0 (by rfl) ?_
  delta rS
  simp +contextual -dsimp -implicitDefEqProofs (maxSteps:=5000000) only [q1,q2,go_sem,simprocAttr]
 ·rw [hh] at q2
  simp only [if_true]
  unfold PQ at hh
  cases hb:xs[Ck (AA l x) xs]? with
  | none=>rw [hb] at hh;cases hh
  | some b =>
   have hlen:=Au hb
   simp only [List.getD_eq_getElem?_getD,hb,Option.getD_some]
   generalize Ck (AA l x) xs=a at q2 hb hlen
   have p1:(0≤(a:Int))=True:=by simp
   have p2:((a:Int)<(xs.length:Int))=True:=by simpa using hlen
   refine Ac rfl 0 (by rfl) ?_
   delta rS
   simp +contextual -dsimp -implicitDefEqProofs (maxSteps:=5000000) only [q1,q2,p1,p2,hb,go_sem,simprocAttr]
end Ve
namespace Ve
open Go Ve.Ab
set_option maxHeartbeats 16000000
set_option maxRecDepth 10000
attribute [go_sem] Bool.and_self
theorem SmS.p {s:Ag} (h:SmS s):s.prog.length≤BB:=by have:=h.bp;simp only [BB];omega
theorem SmS.r {s:Ag} (h:SmS s):s.reads.length≤BB:=by have:=h.br;simp only [BB];omega
theorem SmS.w {s:Ag} (h:SmS s):s.writes.length≤BB:=by have:=h.bw;simp only [BB];omega
theorem SmM.w0 {m:Ad} (h:SmM m):m.words.a0.length≤BB:=by have:=h.b0;simp only [BB];omega
theorem SmM.w1 {m:Ad} (h:SmM m):m.words.a1.length≤BB:=by have:=h.b1;simp only [BB];omega
theorem SmM.w2 {m:Ad} (h:SmM m):m.words.a2.length≤BB:=by have:=h.b2;simp only [BB];omega
theorem SmM.w3 {m:Ad} (h:SmM m):m.words.a3.length≤BB:=by have:=h.b3;simp only [BB];omega
theorem SmM.ss {m:Ad} (h:SmM m):m.sess.length≤BB:=by have:=h.bs;simp only [BB];omega
theorem SmM.tr {m:Ad} (h:SmM m):m.trace.length≤BB:=by have:=h.bt;simp only [BB];omega
theorem fK (i:Nat) (pw a b c d na nb nc nd pf:Bool) (w0 w1 w2 w3:List Ao) (r:List V) (s:Ag) (hs:SmS s):Aa (Lv ctx (i+9)) 109
  [.agg [.ip pw (.isl a na 3 (w0.map eW)::.isl b nb 3 (w1.map eW)::.isl c nc 3 (w2.map eW)::.isl d nd 3 (w3.map eW)::r) 0],eS pf s]=some (bV (AZ ⟨w0,w1,w2,w3⟩ s)):=by
 have h1:Aa (Lv ctx (i+8)) 149 [.agg [iV s.id,iV s.label,iV s.clear,.isl pf false 4 (s.prog.map eI)]]=_:=fH (i+3) pf false s.id s.label s.clear s.prog hs.p
 have h2:Aa (Lv ctx (i+8)) 150 [.isl pf false 3 (s.reads.map eR)]=_:=LP (i+4) pf false s.reads hs.r
 have h3:Aa (Lv ctx (i+8)) 151 [.isl pf false 3 (s.writes.map eWr)]=_:=If (i+5) pf false s.writes hs.w
 have h4:=Xt (i+4) 153 pf false pw (.isl a na 3 (w0.map eW)::.isl b nb 3 (w1.map eW)::.isl c nc 3 (w2.map eW)::.isl d nd 3 (w3.map eW)::r) 0 s.reads (fun x=>AV ⟨w0,w1,w2,w3⟩ x.level x.index) (fun _ _ _ _ _ _=>rfl) hs.r
  (fun x _=>by simp only [eR];exact fL (i+1) pw a b c d na nb nc nd w0 w1 w2 w3 r x.level x.index x.ver)
 have h5:=Tw (i+4) 155 pf false pw (.isl a na 3 (w0.map eW)::.isl b nb 3 (w1.map eW)::.isl c nc 3 (w2.map eW)::.isl d nd 3 (w3.map eW)::r) 0 s.writes (fun x=>AV ⟨w0,w1,w2,w3⟩ x.level x.index) (fun _ _ _ _ _ _=>rfl) hs.w
  (fun x _=>by simp only [eWr];exact Zh (i+1) pw a b c d na nb nc nd w0 w1 w2 w3 r x.level x.index x.val)
 have h6:=Xu (i+4) 157 pf false pw (.isl a na 3 (w0.map eW)::.isl b nb 3 (w1.map eW)::.isl c nc 3 (w2.map eW)::.isl d nd 3 (w3.map eW)::r) 0 s.prog (fun x=>!(FV x.code)||AV ⟨w0,w1,w2,w3⟩ x.b x.c) (fun _ _ _ _ _ _=>rfl) hs.p
  (fun x _=>by simp only [eI];exact fM (i+1) pw a b c d na nb nc nd w0 w1 w2 w3 r x.code x.a x.b x.c)
 simp only [Nat.add_assoc,Nat.reduceAdd,Nat.reduceSub] at h1 h2 h3 h4 h5 h6
 simp only [eS]
 refine Ac rfl 0 (by rfl) ?_
 delta zI
 simp +contextual -dsimp -implicitDefEqProofs (maxSteps:=5000000) only [h1,h2,h3,h4,h5,h6,go_sem,simprocAttr]
 simp only [AZ,AB,Ch,CM,CI,A4.all,Ds]
theorem jG (e a b:Int):e<max2 a b↔e<a∨e<b:=by
 simp only [max2];split<;>omega
theorem Ye (a b c d e:Int):(Ds 65535 a b c d&&inR e 65535&&!decide (e<max2 (max2 (max2 a b) c) d))=(inR e 65535&&Ds e a b c d):=by
 rw [Bool.eq_iff_iff]
 simp only [Ds,inR,jG,Bool.and_eq_true,decide_eq_true_eq,Bool.not_eq_true',decide_eq_false_iff_not]
 omega
theorem mF (i k:Nat) (p pf:Bool) (m:Ad) (hx:m.sess.length≤BB) (q:Out→St→Option Ans) (Q:V→Hp→Nat→Prop) (u:Dum (fun s q=>evC ctx (Lv ctx i) (Aa (Lv ctx i)) k Nh s (Aq [1,38,39] q))) (w:Dum q):∀ (suf pre:List Ag) (kk:Nat),m.sess=pre++suf→suf.length<kk →
  GL 0 [1,38,39] (fun s q=>evC ctx (Lv ctx i) (Aa (Lv ctx i)) k Nh s (Aq [1,38,39] q)) q kk ⟨Ae [1,38,39] [.ip p (cM pf m) 0,iV m.sess.length,iV pre.length],Af,0⟩ Q u w =
  EI (Eu (pre.getLast?.map (·.id)) suf) (Fin (q (.exit 0) ⟨Ae [1] [.ip p (cM pf m) 0],Af,0⟩) Q) (Fin (q .ret ⟨Ae [2] [bV false],Af,0⟩) Q)
 | [],pre,kk,hxs,hk=>by
  obtain ⟨kk,rfl⟩:∃ m,kk=m+1:=⟨kk - 1,by simp at hk;omega⟩
  have h1:decide ((pre.length:Int)<m.sess.length)=false:=by simp [hxs]
  have h2:∀ o,Eu o []=true:=fun o=>by cases o<;>rfl
  simp +contextual -dsimp -implicitDefEqProofs (maxSteps:=5000000) only [gLs,↓Aj (Nh.eq_1),h1,Bd,h2,go_sem,simprocAttr]
 | a::suf,pre,kk,hxs,hk=>by
  obtain ⟨kk,rfl⟩:∃ m,kk=m+1:=⟨kk - 1,by simp at hk;omega⟩
  have hl:pre.length<m.sess.length:=by simp [hxs]
  have h2:((pre.length:Int)<m.sess.length)=True:=by simpa using hl
  have h3:(0≤(pre.length:Int))=True:=by simp
  have h4:=wrN pre.length (by omega)
  have hg:m.sess[pre.length]?=some a:=by simp [hxs]
  have ih:=mF i k p pf m hx q Q u w suf (pre++[a]) kk (by simp [hxs]) (by simpa using hk)
  rw [Al] at ih
  simp only [List.getLast?_append,List.getLast?_singleton,Option.some_or,Option.map_some] at ih
  rcases List.eq_nil_or_concat pre with rfl | ⟨L,v,rfl⟩
  ·simp only [List.length_nil,Nf] at *
   simp only [Nat.zero_add,SG] at ih
   simp +contextual -dsimp -implicitDefEqProofs (maxSteps:=5000000) only [gLs,↓Aj (Nh.eq_1),h2,h3,h4,hg,ih,Eu,List.getLast?_nil,go_sem,simprocAttr]
  ·have hlen:(L.concat v).length=L.length+1:=by simp
   have hlast:(L.concat v).getLast?=some v:=by simp
   rw [hlen] at h2 h3 h4 hg ih
   rw [hlen,hlast]
   have h6:IntKind.wrap .i64 (((L.length+1:Nat):Int) - 1)=(L.length:Int):=by
    have:=Gq (a:=(L.length:Int)) (by omega) (by simp [hlen] at hl;simp only [BB] at hx;omega)
    simp only [wr] at this
    rw [show (((L.length+1:Nat):Int) - 1)=(L.length:Int) by omega,this]
   have h7:((L.length:Int)<m.sess.length)=True:=by simp only [eq_iff_iff,iff_true];rw [hlen] at hl;omega
   have h8:(0≤(L.length:Int))=True:=by simp
   have h9:decide (0<((L.length+1:Nat):Int))=true:=by simp only [decide_eq_true_eq];omega
   have hg':m.sess[L.length]?=some v:=by simp [hxs]
   by_cases hlt:v.id<a.id
   ·have c1:decide (a.id≤v.id)=false:=by simp;omega
    have c2:decide (v.id<a.id)=true:=by simp;omega
    simp +contextual -dsimp -implicitDefEqProofs (maxSteps:=5000000) only [gLs,↓Aj (Nh.eq_1),h2,h3,h4,h6,h7,h8,h9,hg,hg',c1,c2,ih,Eu,go_sem,simprocAttr]
   ·have c1:decide (a.id≤v.id)=true:=by simp;omega
    have c2:decide (v.id<a.id)=false:=by simp;omega
    simp +contextual -dsimp -implicitDefEqProofs (maxSteps:=5000000) only [gLs,↓Aj (Nh.eq_1),h2,h3,h4,h6,h7,h8,h9,hg,hg',c1,c2,Eu,Ax,go_sem,simprocAttr]
theorem mC (i:Nat) (pf:Bool) (m:Ad) (hm:SmM m):Aa (Lv ctx (i+19)) 60 [eM pf m]=some (bV (CY m)):=by
 have h1:=Pn (i+14) 109 pf false pf (cM pf m) 0 m.sess (AZ m.words) (fun _ _ _ _ _ _=>rfl) hm.ss
  (fun s hs=>fK (i+5) pf pf pf pf pf false false false false pf m.words.a0 m.words.a1 m.words.a2 m.words.a3 _ s (hm.s s hs))
 have h2:=Tx (i+14) 106 pf false m.trace (fun e=>inR e.label 3) (fun _ _ _ _ _ _=>rfl) hm.tr (fun e _=>by simp only [eE];exact fO (i+12) e.id e.label e.kind e.val)
 simp only [Nat.add_assoc,Nat.reduceAdd] at h1 h2
 refine Ac rfl (m.sess.length+1) (by rfl) ?_
 delta c60
 have h3:=fun q Q u w=>mF (i+18) (m.sess.length+1) pf pf m hm.ss q Q u w m.sess [] (m.sess.length+1) rfl (by omega)
 simp only [List.length_nil,Int.natCast_zero,List.getLast?_nil,Option.map_none] at h3
 have h4:=Ye m.clocks.a0 m.clocks.a1 m.clocks.a2 m.clocks.a3 m.ceil
 have h5:decide (4<(m.sess.length:Int))=!decide (m.sess.length≤4):=MZ _
 have h6:decide (512<(m.trace.length:Int))=!decide (m.trace.length≤512):=by
  by_cases h:m.trace.length≤512<;>simp [h]<;>omega
 have key:CY m=((AR m.words&&(Ds 65535 m.clocks.a0 m.clocks.a1 m.clocks.a2 m.clocks.a3&&inR m.ceil 65535)&&!decide (m.ceil<max2 (max2 (max2 m.clocks.a0 m.clocks.a1) m.clocks.a2) m.clocks.a3)&&decide (m.sess.length≤4)&&decide (m.trace.length≤512))&&Eu none m.sess&&m.sess.all (AZ m.words)&&m.trace.all (fun e=>inR e.label 3)):=by
  rw [Bool.and_assoc (AR m.words) (Ds 65535 m.clocks.a0 m.clocks.a1 m.clocks.a2 m.clocks.a3&&inR m.ceil 65535),h4]
  simp only [CY,A4.all,Ds,Bool.and_assoc]
 have hb:∀ a b c d e:Bool,(!a||!b||c||!d||!e)=!(a&&b&&!c&&d&&e):=by decide
 have hb':=hb (AR m.words) (Ds 65535 m.clocks.a0 m.clocks.a1 m.clocks.a2 m.clocks.a3&&inR m.ceil 65535) (decide (m.ceil<max2 (max2 (max2 m.clocks.a0 m.clocks.a1) m.clocks.a2) m.clocks.a3)) (decide (m.sess.length≤4)) (decide (m.trace.length≤512))
 cases hc:(AR m.words&&(Ds 65535 m.clocks.a0 m.clocks.a1 m.clocks.a2 m.clocks.a3&&inR m.ceil 65535)&&!decide (m.ceil<max2 (max2 (max2 m.clocks.a0 m.clocks.a1) m.clocks.a2) m.clocks.a3)&&decide (m.sess.length≤4)&&decide (m.trace.length≤512))<;>rw [hc] at hb' key
 ·rw [key]
  simp +contextual -dsimp -implicitDefEqProofs (maxSteps:=5000000) only [h1,h2,h3,h5,h6,hb',go_sem,simprocAttr]
 ·rw [key]
  simp +contextual -dsimp -implicitDefEqProofs (maxSteps:=5000000) only [h1,h2,h5,h6,hb',go_sem,simprocAttr]
  refine Eq.mpr (h3 _ _ _ _) ?_
  cases hi:Eu none m.sess<;>simp +contextual -dsimp -implicitDefEqProofs (maxSteps:=5000000) only [Bd,Ax,h1,h2,go_sem,simprocAttr]
end Ve
namespace Ve
open Go Ve.Ab
set_option maxHeartbeats 16000000
set_option maxRecDepth 10000
@[go_sem] theorem Xn (i:Nat) (pf:Bool) (s:Ag) (hs:SmS s):Aa (Lv ctx (i+2)) 114 [eS pf s]=some (oS s):=by
 have h1:((s.prog.length:Int)*32≤140737488355328)=True:=by simpa using hs.bp
 have h2:((s.reads.length:Int)*24≤140737488355328)=True:=by simpa using hs.br
 have h3:((s.writes.length:Int)*24≤140737488355328)=True:=by simpa using hs.bw
 simp only [eS]
 refine Ac rfl 0 (by rfl) ?_
 delta zE
 cases pf<;>simp +contextual -dsimp -implicitDefEqProofs (maxSteps:=5000000) only [h1,h2,h3,go_sem,simprocAttr]
@[go_sem] theorem s_arenaCopy (i:Nat) (p:Bool) (w0 w1 w2 w3:List Ao) (h0:(w0.length:Int)*24≤140737488355328) (h1:(w1.length:Int)*24≤140737488355328) (h2:(w2.length:Int)*24≤140737488355328) (h3:(w3.length:Int)*24≤140737488355328):Aa (Lv ctx (i+2)) 111 [.agg [eWs p w0,eWs p w1,eWs p w2,eWs p w3]]=some (.agg [oWs w0,oWs w1,oWs w2,oWs w3]):=by
 have e0:((w0.length:Int)*24≤140737488355328)=True:=by simpa using h0
 have e1:((w1.length:Int)*24≤140737488355328)=True:=by simpa using h1
 have e2:((w2.length:Int)*24≤140737488355328)=True:=by simpa using h2
 have e3:((w3.length:Int)*24≤140737488355328)=True:=by simpa using h3
 refine Ac rfl 5 (by rfl) ?_
 delta zG
 cases p<;>simp +contextual -dsimp -implicitDefEqProofs (maxSteps:=5000000) only [gLs,↓Aj (dH.eq_1),e0,e1,e2,e3,go_sem,simprocAttr]
end Ve
namespace Ve
open Go Ve.Ab
set_option maxHeartbeats 16000000
set_option maxRecDepth 10000
abbrev zM:V:=.agg [.own 3 [],.own 3 [],.own 3 [],.own 3 [],iV 0,iV 0,iV 0,iV 0,iV 0,.own 17 [],.own 4 []]
abbrev hC (m:Ad) (els:List V) (d6 d7:Bool):Hp :=
 pO (pO (pO (pO (pO (pO (pO (pO Af 0 (some ⟨11,[.agg [.sl 2,.sl 3,.sl 4,.sl 5,iV m.clocks.a0,iV m.clocks.a1,iV m.clocks.a2,iV m.clocks.a3,iV m.ceil,.sl 6,.sl 7]],true⟩))
  1 (some ⟨11,[zM],false⟩)) 2 (some ⟨3,m.words.a0.map eW,false⟩)) 3 (some ⟨3,m.words.a1.map eW,false⟩)) 4 (some ⟨3,m.words.a2.map eW,false⟩)) 5 (some ⟨3,m.words.a3.map eW,false⟩))
  6 (some ⟨17,els,d6⟩)) 7 (some ⟨4,m.trace.map eE,d7⟩)
theorem Vq (i k:Nat) (pf:Bool) (m:Ad) (hm:SmM m) (q:Out→St→Option Ans) (Q:V→Hp→Nat→Prop):∀ (suf pre:List Ag) (kk:Nat) (d6:Bool),m.sess=pre++suf→suf.length<kk+1 →
  Fin (evC ctx (Lv ctx (i+2)) (Aa (Lv ctx (i+2))) k SQ ⟨Ae [1,2,18,19,20] [.ptr 0 0 0,.ptr 1 0 0,.sl 6,iV m.sess.length,iV pre.length],hC m (pre.map oS++suf.map (eS pf)) d6 (!pf),8⟩
   (Aq [1,2,18,19,20] fun o s=>BI (Bg 8 [1,2,18,19,20] (fun s q=>evC ctx (Lv ctx (i+2)) (Aa (Lv ctx (i+2))) k SQ s (Aq [1,2,18,19,20] q)) q kk) q o s)) Q =
  Fin (q (.exit 0) ⟨Ae [1,2] [.ptr 0 0 0,.ptr 1 0 0],hC m (m.sess.map oS) (if suf=[] then d6 else true) (!pf),8⟩) Q
 | [],pre,kk,d6,hxs,hk=>by
  have h1:decide ((pre.length:Int)<m.sess.length)=false:=by simp [hxs]
  have h2:m.sess=pre:=by simp [hxs]
  rw [Aj (SQ.eq_1),if_pos rfl]
  simp +contextual -dsimp -implicitDefEqProofs (maxSteps:=5000000) only [h1,go_sem,simprocAttr]
  rw [h2]
 | a::suf,pre,kk,d6,hxs,hk=>by
  obtain ⟨kk,rfl⟩:∃ m,kk=m+1:=⟨kk - 1,by simp at hk;omega⟩
  have hl:pre.length<m.sess.length:=by simp [hxs]
  have h2:((pre.length:Int)<m.sess.length)=True:=by simpa using hl
  have h3:(0≤(pre.length:Int))=True:=by simp
  have h4:=wrN pre.length (by have:=hm.ss;omega)
  have hg:(pre.map oS++(a::suf).map (eS pf))[pre.length]?=some (eS pf a):=by simp
  have hlen:(((pre.map oS++(a::suf).map (eS pf)).length:Nat):Int)=m.sess.length:=by simp [hxs]
  have hset:∀ x,(pre.map oS++(a::suf).map (eS pf)).set pre.length x=pre.map oS++x::suf.map (eS pf):=by intro x;simp [List.set_append]
  have hs:=Xn (i+0) pf a (hm.s a (by simp [hxs]))
  have ih:=Vq i k pf m hm q Q suf (pre++[a]) kk true (by simp [hxs]) (by simpa using hk)
  simp only [Al,List.map_append,List.map_cons,List.map_nil,List.append_assoc,List.cons_append,List.nil_append,oS,ite_self] at ih
  simp only [Nat.add_assoc,Nat.reduceAdd] at hs
  simp only [eS,List.map_cons] at hs hg hlen hset ⊢
  have hif:(if a::suf=[] then d6 else true)=true:=by simp
  rw [Aj (SQ.eq_1),hif]
  cases pf<;>cases d6<;>simp +contextual -dsimp -implicitDefEqProofs (maxSteps:=5000000) only [h2,h3,h4,hg,hlen,hset,hs,gLs,go_sem,simprocAttr]<;>exact ih
theorem Dp (i:Nat) (pf:Bool) (m:Ad) (hm:SmM m):Aa (Lv ctx (i+3)) 63 [eM pf m]=some (oM m):=by
 have b0:=hm.b0
 have b1:=hm.b1
 have b2:=hm.b2
 have b3:=hm.b3
 have e4:((m.sess.length:Int)*184≤140737488355328)=True:=by simpa using hm.bs
 have e5:((m.trace.length:Int)*32≤140737488355328)=True:=by simpa using hm.bt
 refine Ac rfl (m.sess.length+1) (by rfl) ?_
 delta c63
 have hl:=fun q Q d6=>Vq i (m.sess.length+1) pf m hm q Q m.sess [] m.sess.length d6 rfl (by omega)
 simp only [List.length_nil,Int.natCast_zero,List.map_nil,List.nil_append] at hl
 cases pf
 ·simp +contextual -dsimp -implicitDefEqProofs (maxSteps:=5000000) only [b0,b1,b2,b3,e4,e5,gLs,go_sem,simprocAttr]
  refine Eq.mpr (hl _ _ true) ?_
  generalize (if m.sess=[] then true else true)=dd
  cases dd<;>simp +contextual -dsimp -implicitDefEqProofs (maxSteps:=5000000) only [go_sem,simprocAttr]
 ·simp +contextual -dsimp -implicitDefEqProofs (maxSteps:=5000000) only [b0,b1,b2,b3,e4,e5,gLs,go_sem,simprocAttr]
  refine Eq.mpr (hl _ _ false) ?_
  generalize (if m.sess=[] then false else true)=dd
  cases dd<;>simp +contextual -dsimp -implicitDefEqProofs (maxSteps:=5000000) only [go_sem,simprocAttr]
end Ve
