/- What the small functions answer. -/
import Derived.Test.YthllnfkddiaokaaGreatVeT
import Derived.Test.YthllnfkddiaokaaGreatVeM
set_option linter.all false
set_option linter.unusedSectionVars false
namespace Ve
open Go Ve.Ab
set_option maxHeartbeats 16000000
set_option maxRecDepth 10000
theorem a3z {L:Lay} {t:TypeId} {a b:Int}:BJ L .or t (iV a) (iV b)=some (iV (orI a b)):=rfl
theorem xO {L:Lay} {t:TypeId} {a b:Int}:BJ L .and t (iV a) (iV b)=some (iV (Df a b)):=rfl
theorem xF {L:Lay} {t:TypeId} {a b:Int}:BJ L .xor t (iV a) (iV b)=some (iV (Sb a b)):=rfl
attribute [go_sem] a3z xO xF
@[go_sem] theorem s_in (i:Nat) (a b:Int):Aa (Lv ctx (i+1)) 141 [iV a,iV b]=some (bV (inR a b)):=by
 refine Af rfl 0 (by rfl) ?_
 delta c141
 simp +contextual -dsimp -implicitDefEqProofs (maxSteps:=5000000) only [go_sem,simprocAttr]
 all_goals ((try simp_all [inR])<;>(try omega))
@[go_sem] theorem s_value (i:Nat) (a:Int):Aa (Lv ctx (i+2)) 131 [iV a]=some (bV (inR a 255)):=by
 refine Af rfl 0 (by rfl) ?_
 delta c131
 simp +contextual -dsimp -implicitDefEqProofs (maxSteps:=5000000) only [go_sem,simprocAttr]
@[go_sem] theorem s_clock (i:Nat) (a:Int):Aa (Lv ctx (i+2)) 118 [iV a]=some (bV (inR a 65535)):=by
 refine Af rfl 0 (by rfl) ?_
 delta c118
 simp +contextual -dsimp -implicitDefEqProofs (maxSteps:=5000000) only [go_sem,simprocAttr]
@[go_sem] theorem s_id (i:Nat) (a:Int):Aa (Lv ctx (i+2)) 92 [iV a]=some (bV (inR a 254)):=by
 refine Af rfl 0 (by rfl) ?_
 delta c92
 simp +contextual -dsimp -implicitDefEqProofs (maxSteps:=5000000) only [go_sem,simprocAttr]
@[go_sem] theorem s_wordMay (i:Nat) (a b c:Int):Aa (Lv ctx (i+3)) 116 [.agg [iV a,iV b,iV c]]=some (bV (Ba ⟨a,b,c⟩)):=by
 refine Af rfl 0 (by rfl) ?_
 delta c116
 simp +contextual -dsimp -implicitDefEqProofs (maxSteps:=5000000) only [go_sem,simprocAttr]
 all_goals ((try simp_all [Ba])<;>(try omega))
@[go_sem] theorem s_upTo11 (i:Nat) (a b c:Int):Aa (Lv ctx (i+1)) 97 [iV a,iV b,iV c]=some (bV (decide (b≤a)&&decide (a≤c))):=by
 refine Af rfl 0 (by rfl) ?_
 delta c97
 simp +contextual -dsimp -implicitDefEqProofs (maxSteps:=5000000) only [go_sem,simprocAttr]
 all_goals ((try simp_all [inR])<;>(try omega))
@[go_sem] theorem s_upTo1 (i:Nat) (a b c:Int):Aa (Lv ctx (i+1)) 145 [iV a,iV b,iV c]=some (bV (decide (b≤a)&&decide (a≤c))):=by
 refine Af rfl 0 (by rfl) ?_
 delta c145
 simp +contextual -dsimp -implicitDefEqProofs (maxSteps:=5000000) only [go_sem,simprocAttr]
 all_goals ((try simp_all [inR])<;>(try omega))
@[go_sem] theorem s_rValue (i:Nat) (a:Int):Aa (Lv ctx (i+2)) 142 [iV a]=some (bV (inR a 255)):=by
 refine Af rfl 0 (by rfl) ?_
 delta c142
 simp +contextual -dsimp -implicitDefEqProofs (maxSteps:=5000000) only [go_sem,simprocAttr]
 all_goals ((try simp_all [inR])<;>(try omega))
@[go_sem] theorem s_rClock (i:Nat) (a:Int):Aa (Lv ctx (i+2)) 106 [iV a]=some (bV (inR a 65535)):=by
 refine Af rfl 0 (by rfl) ?_
 delta c106
 simp +contextual -dsimp -implicitDefEqProofs (maxSteps:=5000000) only [go_sem,simprocAttr]
 all_goals ((try simp_all [inR])<;>(try omega))
@[go_sem] theorem s_rId (i:Nat) (a:Int):Aa (Lv ctx (i+2)) 182 [iV a]=some (bV (inR a 254)):=by
 refine Af rfl 0 (by rfl) ?_
 delta c182
 simp +contextual -dsimp -implicitDefEqProofs (maxSteps:=5000000) only [go_sem,simprocAttr]
 all_goals ((try simp_all [inR])<;>(try omega))
@[go_sem] theorem s_rLabel (i:Nat) (a:Int):Aa (Lv ctx (i+2)) 96 [iV a]=some (bV (inR a 3)):=by
 refine Af rfl 0 (by rfl) ?_
 delta c96
 simp +contextual -dsimp -implicitDefEqProofs (maxSteps:=5000000) only [go_sem,simprocAttr]
 all_goals ((try simp_all [inR])<;>(try omega))
@[go_sem] theorem s_rReg (i:Nat) (a:Int):Aa (Lv ctx (i+2)) 210 [iV a]=some (bV (inR a 3)):=by
 refine Af rfl 0 (by rfl) ?_
 delta c210
 simp +contextual -dsimp -implicitDefEqProofs (maxSteps:=5000000) only [go_sem,simprocAttr]
 all_goals ((try simp_all [inR])<;>(try omega))
theorem lt4 (a:Int):decide (a<4)=decide (a≤3):=by
 apply decide_eq_decide.mpr;omega
@[go_sem] theorem s_label (i:Nat) (a:Int):Aa (Lv ctx (i+1)) 64 [iV a]=some (bV (inR a 3)):=by
 refine Af rfl 0 (by rfl) ?_
 delta c64
 simp +contextual -dsimp -implicitDefEqProofs (maxSteps:=5000000) only [go_sem,simprocAttr]
 all_goals ((try simp_all [inR,lt4])<;>(try omega))
@[go_sem] theorem s_reg (i:Nat) (a:Int):Aa (Lv ctx (i+1)) 181 [iV a]=some (bV (inR a 3)):=by
 refine Af rfl 0 (by rfl) ?_
 delta c181
 simp +contextual -dsimp -implicitDefEqProofs (maxSteps:=5000000) only [go_sem,simprocAttr]
 all_goals ((try simp_all [inR,lt4])<;>(try omega))
@[go_sem] theorem s_index (i:Nat) (a:Int):Aa (Lv ctx (i+1)) 167 [iV a]=some (bV (inR a 3)):=by
 refine Af rfl 0 (by rfl) ?_
 delta c167
 simp +contextual -dsimp -implicitDefEqProofs (maxSteps:=5000000) only [go_sem,simprocAttr]
 all_goals ((try simp_all [inR,lt4])<;>(try omega))
@[go_sem] theorem s_machin (i:Nat) (a b:Int):Aa (Lv ctx (i+1)) 129 [iV a,iV b]=some (bV (inR a b)):=by
 refine Af rfl 0 (by rfl) ?_
 delta c129
 simp +contextual -dsimp -implicitDefEqProofs (maxSteps:=5000000) only [go_sem,simprocAttr]
 all_goals ((try simp_all [inR])<;>(try omega))
@[go_sem] theorem s_under (i:Nat) (a b:Int):Aa (Lv ctx (i+1)) 69 [iV a,iV b]=some (bV (Ao a b)):=by
 refine Af rfl 0 (by rfl) ?_
 delta c69
 simp +contextual -dsimp -implicitDefEqProofs (maxSteps:=5000000) only [go_sem,simprocAttr]
 all_goals ((try simp_all [Ao])<;>(try omega))
@[go_sem] theorem s_rUnder (i:Nat) (a b:Int):Aa (Lv ctx (i+1)) 31 [iV a,iV b]=some (bV (Ao a b)):=by
 refine Af rfl 0 (by rfl) ?_
 delta c31
 simp +contextual -dsimp -implicitDefEqProofs (maxSteps:=5000000) only [go_sem,simprocAttr]
 all_goals ((try simp_all [Ao])<;>(try omega))
@[go_sem] theorem s_rWordMay (i:Nat) (a b c:Int):Aa (Lv ctx (i+3)) 104 [.agg [iV a,iV b,iV c]]=some (bV (Ba ⟨a,b,c⟩)):=by
 refine Af rfl 0 (by rfl) ?_
 delta c104
 simp +contextual -dsimp -implicitDefEqProofs (maxSteps:=5000000) only [go_sem,simprocAttr]
 all_goals ((try simp_all [Ba,inR])<;>(try omega))
@[go_sem] theorem s_wordName (i:Nat) (a b:Int):Aa (Lv ctx (i+3)) 105 [iV a,iV b]=some (bV (inR a 3&&inR b 3)):=by
 refine Af rfl 0 (by rfl) ?_
 delta c105
 simp +contextual -dsimp -implicitDefEqProofs (maxSteps:=5000000) only [go_sem,simprocAttr]
 all_goals ((try simp_all [inR])<;>(try omega))
@[go_sem] theorem s_wordIs (i:Nat) (a b c d:Int):Aa (Lv ctx (i+1)) 177 [.agg [iV a,iV b,iV c,iV d]]=some (bV (Fy a)):=by
 refine Af rfl 0 (by rfl) ?_
 delta c177
 simp +contextual -dsimp -implicitDefEqProofs (maxSteps:=5000000) only [go_sem,simprocAttr]
 all_goals ((try simp_all [Fy])<;>(try omega))
@[go_sem] theorem s_names (i:Nat) (a b c d:Int):Aa (Lv ctx (i+1)) 180 [.agg [iV a,iV b,iV c,iV d]]=some (eI (YR ⟨a,b,c,d⟩)):=by
 refine Af rfl 0 (by rfl) ?_
 delta c180
 simp +contextual -dsimp -implicitDefEqProofs (maxSteps:=5000000) only [go_sem,simprocAttr]
 all_goals (simp_all [YR,eI])
@[go_sem] theorem s_rInstMay (i:Nat) (a b c d:Int):Aa (Lv ctx (i+3)) 201 [.agg [iV a,iV b,iV c,iV d]]=some (bV (BK ⟨a,b,c,d⟩)):=by
 refine Af rfl 0 (by rfl) ?_
 delta c201
 simp +contextual -dsimp -implicitDefEqProofs (maxSteps:=5000000) only [go_sem,simprocAttr]
 all_goals ((try simp_all [BK,inR,YR,Bool.and_assoc])<;>(try omega))
@[go_sem] theorem s_instMay (i:Nat) (a b c d:Int):Aa (Lv ctx (i+3)) 140 [.agg [iV a,iV b,iV c,iV d]]=some (bV (BK ⟨a,b,c,d⟩)):=by
 refine Af rfl 0 (by rfl) ?_
 delta c140
 simp +contextual -dsimp -implicitDefEqProofs (maxSteps:=5000000) only [go_sem,simprocAttr]
 have hc:a=0∨a=1∨a=2∨a=3∨a=4∨a=5∨a=6∨(a≠0∧a≠1∧a≠2∧a≠3∧a≠4∧a≠5∧a≠6):=by omega
 rcases hc with rfl | rfl | rfl | rfl | rfl | rfl | rfl | ⟨h0,h1,h2,h3,h4,h5,h6⟩<;>simp_all [BK,inR,YR,lt4,Bool.and_assoc]<;>(try omega)
end Ve
namespace Ve
open Go Ve.Ab
set_option maxHeartbeats 16000000
set_option maxRecDepth 10000
def Bn {α:Type} (p:α→Bool):Nat→List α→Option Nat
 | _,[]=>none
 | j,a::r=>if p a then some j else Bn p (j+1) r
def Fg:Option Nat→Int
 | none=>-1
 | some j=>j
theorem DA {α:Type} (p:α→Bool):∀ (l:List α) (j:Nat),decide (0≤Fg (Bn p j l))=l.any p
 | [],j=>by simp [Bn,Fg]
 | a::r,j=>by
  simp only [Bn,List.any_cons]
  split
  ·rename_i h;simp [h,Fg]
  ·rename_i h;simp [h,DA p r (j+1)]
theorem wrN (j:Nat) (h:j≤BB):IntKind.wrap .i64 ((j:Int)+1)=((j+1:Nat):Int):=by
 have:=Jc (a:=(j:Int)+1) (by omega) (by simp only [BB] at h;omega)
 simp only [wr] at this
 rw [this];simp
theorem Ah {α:Type} (pre:List α) (a:α):(pre++[a]).length=pre.length+1:=by simp
def HT (q:Out→St→Option Ans) (Q:V→Hp→Nat→Prop) (s1:St) (s2:Nat→St):Option Nat→Prop
 | none=>Fin (q (.exit 0) s1) Q
 | some j=>Fin (q .ret (s2 j)) Q
theorem By (q:Out→St→Option Ans) (Q:V→Hp→Nat→Prop) (s1:St) (s2:Nat→St):HT q Q s1 s2 none=Fin (q (.exit 0) s1) Q:=(rfl)
theorem Bx (q:Out→St→Option Ans) (Q:V→Hp→Nat→Prop) (s1:St) (s2:Nat→St) (j:Nat):HT q Q s1 s2 (some j)=Fin (q .ret (s2 j)) Q:=(rfl)
theorem Vw (i k:Nat) (pf nn:Bool) (xs:List Aj) (p:Aj→Bool) (g:Nat) (cap:List V) (hc:Ak tbl g []) (hcap:∀ d,AG (AW (d+1)) cap=.ret cap) (hsc:AU 0 cap=cap)
  (hp:∀ a,a∈xs→Aa (Lv ctx i) g (eW a::cap)=some (bV (p a))) (hx:xs.length≤BB) (q:Out→St→Option Ans) (Q:V→Hp→Nat→Prop) (u:Dum fun s q=>evC ctx (Lv ctx i) (Aa (Lv ctx i)) k Qf s (As [0,1,7,8] q)) (w:Dum q):∀ (suf pre:List Aj) (kk:Nat),xs=pre++suf→suf.length<kk →
  GL 0 [0,1,7,8] (fun s q=>evC ctx (Lv ctx i) (Aa (Lv ctx i)) k Qf s (As [0,1,7,8] q)) q kk ⟨Ad [0,1,7,8] [.isl pf nn 3 (xs.map eW),.fn (.func g) [] cap,iV xs.length,iV pre.length],Ag,0⟩ Q u w =
  HT q Q ⟨Ad [] [],Ag,0⟩ (fun j=>⟨Ad [4] [iV j],Ag,0⟩) (Bn p pre.length suf)
 | [],pre,kk,hxs,hk=>by
  obtain ⟨kk,rfl⟩:∃ m,kk=m+1:=⟨kk - 1,by simp at hk;omega⟩
  have h1:decide ((pre.length:Int)<xs.length)=false:=by simp [hxs]
  simp +contextual -dsimp -implicitDefEqProofs (maxSteps:=5000000) only [gLs,↓Ai (Qf.eq_1),h1,hcap,hsc,Bn,By,go_sem,simprocAttr]
 | a::suf,pre,kk,hxs,hk=>by
  obtain ⟨kk,rfl⟩:∃ m,kk=m+1:=⟨kk - 1,by simp at hk;omega⟩
  have hl:pre.length<xs.length:=by simp [hxs]
  have h1:decide ((pre.length:Int)<xs.length)=true:=by simpa using hl
  have h2:((pre.length:Int)<xs.length)=True:=by simpa using hl
  have h3:(0≤(pre.length:Int))=True:=by simp
  have h4:=wrN pre.length (by omega)
  have hg:xs[pre.length]?=some a:=by simp [hxs]
  have hpa:=hp a (by simp [hxs])
  simp only [eW] at hpa
  have ih:=Vw i k pf nn xs p g cap hc hcap hsc hp hx q Q u w suf (pre++[a]) kk (by simp [hxs]) (by simpa using hk)
  rw [Ah] at ih
  cases hb:p a<;>rw [hb] at hpa<;>simp +contextual -dsimp -implicitDefEqProofs (maxSteps:=5000000) only [gLs,↓Ai (Qf.eq_1),h1,h2,h3,h4,hcap,hsc,Bn,Bx,hg,hpa,hb,hc,ih,Int.toNat_natCast,List.getElem?_map,go_sem,simprocAttr]
theorem jA (i:Nat) (pf nn:Bool) (xs:List Aj) (p:Aj→Bool) (g:Nat) (cap:List V) (hc:Ak tbl g []) (hcap:∀ d,AG (AW (d+1)) cap=.ret cap) (hsc:AU 0 cap=cap) (hn:BC cap=true)
  (hp:∀ a,a∈xs→Aa (Lv ctx i) g (eW a::cap)=some (bV (p a))) (hx:xs.length≤BB):Aa (Lv ctx (i+2)) 117 [.isl pf nn 3 (xs.map eW),.fn (.func g) [] cap]=some (bV (xs.any p)):=by
 have h1:Aa (Lv ctx (i+1)) 165 [.isl pf nn 3 (xs.map eW),.fn (.func g) [] cap]=some (iV (Fg (Bn p 0 xs))):=by
  refine Af rfl (xs.length+1) (by rfl) ?_
  delta c165
  have hl:=fun q Q u w=>Vw i (xs.length+1) pf nn xs p g cap hc hcap hsc hp hx q Q u w xs [] (xs.length+1) rfl (by omega)
  simp only [List.length_nil,Int.natCast_zero] at hl
  simp +contextual -dsimp -implicitDefEqProofs (maxSteps:=5000000) only [hl,go_sem,simprocAttr]
  cases Bn p 0 xs<;>simp +contextual -dsimp -implicitDefEqProofs (maxSteps:=5000000) only [By,Bx,Fg,go_sem,simprocAttr]
 refine Af rfl 0 (by rfl) ?_
 delta c117
 simp +contextual -dsimp -implicitDefEqProofs (maxSteps:=5000000) only [h1,hcap,DA,go_sem,simprocAttr]
theorem NH (i k:Nat) (pf nn:Bool) (xs:List Ae) (p:Ae→Bool) (g:Nat) (cap:List V) (hc:Ak tbl g []) (hcap:∀ d,AG (AW (d+1)) cap=.ret cap) (hsc:AU 0 cap=cap)
  (hp:∀ a,a∈xs→Aa (Lv ctx i) g ((eS pf) a::cap)=some (bV (p a))) (hx:xs.length≤BB) (q:Out→St→Option Ans) (Q:V→Hp→Nat→Prop) (u:Dum fun s q=>evC ctx (Lv ctx i) (Aa (Lv ctx i)) k Qe s (As [0,1,7,8] q)) (w:Dum q):∀ (suf pre:List Ae) (kk:Nat),xs=pre++suf→suf.length<kk →
  GL 0 [0,1,7,8] (fun s q=>evC ctx (Lv ctx i) (Aa (Lv ctx i)) k Qe s (As [0,1,7,8] q)) q kk ⟨Ad [0,1,7,8] [.isl pf nn 17 (xs.map (eS pf)),.fn (.func g) [] cap,iV xs.length,iV pre.length],Ag,0⟩ Q u w =
  HT q Q ⟨Ad [] [],Ag,0⟩ (fun j=>⟨Ad [4] [iV j],Ag,0⟩) (Bn p pre.length suf)
 | [],pre,kk,hxs,hk=>by
  obtain ⟨kk,rfl⟩:∃ m,kk=m+1:=⟨kk - 1,by simp at hk;omega⟩
  have h1:decide ((pre.length:Int)<xs.length)=false:=by simp [hxs]
  simp +contextual -dsimp -implicitDefEqProofs (maxSteps:=5000000) only [gLs,↓Ai (Qe.eq_1),h1,hcap,hsc,Bn,By,go_sem,simprocAttr]
 | a::suf,pre,kk,hxs,hk=>by
  obtain ⟨kk,rfl⟩:∃ m,kk=m+1:=⟨kk - 1,by simp at hk;omega⟩
  have hl:pre.length<xs.length:=by simp [hxs]
  have h1:decide ((pre.length:Int)<xs.length)=true:=by simpa using hl
  have h2:((pre.length:Int)<xs.length)=True:=by simpa using hl
  have h3:(0≤(pre.length:Int))=True:=by simp
  have h4:=wrN pre.length (by omega)
  have hg:xs[pre.length]?=some a:=by simp [hxs]
  have hpa:=hp a (by simp [hxs])
  simp only [eS] at hpa
  have ih:=NH i k pf nn xs p g cap hc hcap hsc hp hx q Q u w suf (pre++[a]) kk (by simp [hxs]) (by simpa using hk)
  rw [Ah] at ih
  cases hb:p a<;>rw [hb] at hpa<;>simp +contextual -dsimp -implicitDefEqProofs (maxSteps:=5000000) only [gLs,↓Ai (Qe.eq_1),h1,h2,h3,h4,hcap,hsc,Bn,Bx,hg,hpa,hb,hc,ih,Int.toNat_natCast,List.getElem?_map,go_sem,simprocAttr]
theorem UL (i:Nat) (pf nn:Bool) (xs:List Ae) (p:Ae→Bool) (g:Nat) (cap:List V) (hc:Ak tbl g []) (hcap:∀ d,AG (AW (d+1)) cap=.ret cap) (hsc:AU 0 cap=cap) (hn:BC cap=true)
  (hp:∀ a,a∈xs→Aa (Lv ctx i) g ((eS pf) a::cap)=some (bV (p a))) (hx:xs.length≤BB):Aa (Lv ctx (i+2)) 119 [.isl pf nn 17 (xs.map (eS pf)),.fn (.func g) [] cap]=some (bV (xs.any p)):=by
 have h1:Aa (Lv ctx (i+1)) 166 [.isl pf nn 17 (xs.map (eS pf)),.fn (.func g) [] cap]=some (iV (Fg (Bn p 0 xs))):=by
  refine Af rfl (xs.length+1) (by rfl) ?_
  delta c166
  have hl:=fun q Q u w=>NH i (xs.length+1) pf nn xs p g cap hc hcap hsc hp hx q Q u w xs [] (xs.length+1) rfl (by omega)
  simp only [List.length_nil,Int.natCast_zero] at hl
  simp +contextual -dsimp -implicitDefEqProofs (maxSteps:=5000000) only [hl,go_sem,simprocAttr]
  cases Bn p 0 xs<;>simp +contextual -dsimp -implicitDefEqProofs (maxSteps:=5000000) only [By,Bx,Fg,go_sem,simprocAttr]
 refine Af rfl 0 (by rfl) ?_
 delta c119
 simp +contextual -dsimp -implicitDefEqProofs (maxSteps:=5000000) only [h1,hcap,DA,go_sem,simprocAttr]
theorem Ri (i k:Nat) (pf nn:Bool) (xs:List AI) (p:AI→Bool) (g:Nat) (cap:List V) (hc:Ak tbl g []) (hcap:∀ d,AG (AW (d+1)) cap=.ret cap) (hsc:AU 0 cap=cap)
  (hp:∀ a,a∈xs→Aa (Lv ctx i) g (eE a::cap)=some (bV (p a))) (hx:xs.length≤BB) (q:Out→St→Option Ans) (Q:V→Hp→Nat→Prop) (u:Dum fun s q=>evC ctx (Lv ctx i) (Aa (Lv ctx i)) k Qd s (As [0,1,7,8] q)) (w:Dum q):∀ (suf pre:List AI) (kk:Nat),xs=pre++suf→suf.length<kk →
  GL 0 [0,1,7,8] (fun s q=>evC ctx (Lv ctx i) (Aa (Lv ctx i)) k Qd s (As [0,1,7,8] q)) q kk ⟨Ad [0,1,7,8] [.isl pf nn 4 (xs.map eE),.fn (.func g) [] cap,iV xs.length,iV pre.length],Ag,0⟩ Q u w =
  HT q Q ⟨Ad [] [],Ag,0⟩ (fun j=>⟨Ad [4] [iV j],Ag,0⟩) (Bn p pre.length suf)
 | [],pre,kk,hxs,hk=>by
  obtain ⟨kk,rfl⟩:∃ m,kk=m+1:=⟨kk - 1,by simp at hk;omega⟩
  have h1:decide ((pre.length:Int)<xs.length)=false:=by simp [hxs]
  simp +contextual -dsimp -implicitDefEqProofs (maxSteps:=5000000) only [gLs,↓Ai (Qd.eq_1),h1,hcap,hsc,Bn,By,go_sem,simprocAttr]
 | a::suf,pre,kk,hxs,hk=>by
  obtain ⟨kk,rfl⟩:∃ m,kk=m+1:=⟨kk - 1,by simp at hk;omega⟩
  have hl:pre.length<xs.length:=by simp [hxs]
  have h1:decide ((pre.length:Int)<xs.length)=true:=by simpa using hl
  have h2:((pre.length:Int)<xs.length)=True:=by simpa using hl
  have h3:(0≤(pre.length:Int))=True:=by simp
  have h4:=wrN pre.length (by omega)
  have hg:xs[pre.length]?=some a:=by simp [hxs]
  have hpa:=hp a (by simp [hxs])
  simp only [eE] at hpa
  have ih:=Ri i k pf nn xs p g cap hc hcap hsc hp hx q Q u w suf (pre++[a]) kk (by simp [hxs]) (by simpa using hk)
  rw [Ah] at ih
  cases hb:p a<;>rw [hb] at hpa<;>simp +contextual -dsimp -implicitDefEqProofs (maxSteps:=5000000) only [gLs,↓Ai (Qd.eq_1),h1,h2,h3,h4,hcap,hsc,Bn,Bx,hg,hpa,hb,hc,ih,Int.toNat_natCast,List.getElem?_map,go_sem,simprocAttr]
theorem bS (i:Nat) (pf nn:Bool) (xs:List AI) (p:AI→Bool) (g:Nat) (cap:List V) (hc:Ak tbl g []) (hcap:∀ d,AG (AW (d+1)) cap=.ret cap) (hsc:AU 0 cap=cap) (hn:BC cap=true)
  (hp:∀ a,a∈xs→Aa (Lv ctx i) g (eE a::cap)=some (bV (p a))) (hx:xs.length≤BB):Aa (Lv ctx (i+2)) 132 [.isl pf nn 4 (xs.map eE),.fn (.func g) [] cap]=some (bV (xs.any p)):=by
 have h1:Aa (Lv ctx (i+1)) 178 [.isl pf nn 4 (xs.map eE),.fn (.func g) [] cap]=some (iV (Fg (Bn p 0 xs))):=by
  refine Af rfl (xs.length+1) (by rfl) ?_
  delta c178
  have hl:=fun q Q u w=>Ri i (xs.length+1) pf nn xs p g cap hc hcap hsc hp hx q Q u w xs [] (xs.length+1) rfl (by omega)
  simp only [List.length_nil,Int.natCast_zero] at hl
  simp +contextual -dsimp -implicitDefEqProofs (maxSteps:=5000000) only [hl,go_sem,simprocAttr]
  cases Bn p 0 xs<;>simp +contextual -dsimp -implicitDefEqProofs (maxSteps:=5000000) only [By,Bx,Fg,go_sem,simprocAttr]
 refine Af rfl 0 (by rfl) ?_
 delta c132
 simp +contextual -dsimp -implicitDefEqProofs (maxSteps:=5000000) only [h1,hcap,DA,go_sem,simprocAttr]
theorem Vy (i k:Nat) (pf nn:Bool) (xs:List AZ) (p:AZ→Bool) (g:Nat) (cap:List V) (hc:Ak tbl g []) (hcap:∀ d,AG (AW (d+1)) cap=.ret cap) (hsc:AU 0 cap=cap)
  (hp:∀ a,a∈xs→Aa (Lv ctx i) g (eR a::cap)=some (bV (p a))) (hx:xs.length≤BB) (q:Out→St→Option Ans) (Q:V→Hp→Nat→Prop) (u:Dum fun s q=>evC ctx (Lv ctx i) (Aa (Lv ctx i)) k Qb s (As [0,1,7,8] q)) (w:Dum q):∀ (suf pre:List AZ) (kk:Nat),xs=pre++suf→suf.length<kk →
  GL 0 [0,1,7,8] (fun s q=>evC ctx (Lv ctx i) (Aa (Lv ctx i)) k Qb s (As [0,1,7,8] q)) q kk ⟨Ad [0,1,7,8] [.isl pf nn 3 (xs.map eR),.fn (.func g) [] cap,iV xs.length,iV pre.length],Ag,0⟩ Q u w =
  HT q Q ⟨Ad [] [],Ag,0⟩ (fun j=>⟨Ad [4] [iV j],Ag,0⟩) (Bn p pre.length suf)
 | [],pre,kk,hxs,hk=>by
  obtain ⟨kk,rfl⟩:∃ m,kk=m+1:=⟨kk - 1,by simp at hk;omega⟩
  have h1:decide ((pre.length:Int)<xs.length)=false:=by simp [hxs]
  simp +contextual -dsimp -implicitDefEqProofs (maxSteps:=5000000) only [gLs,↓Ai (Qb.eq_1),h1,hcap,hsc,Bn,By,go_sem,simprocAttr]
 | a::suf,pre,kk,hxs,hk=>by
  obtain ⟨kk,rfl⟩:∃ m,kk=m+1:=⟨kk - 1,by simp at hk;omega⟩
  have hl:pre.length<xs.length:=by simp [hxs]
  have h1:decide ((pre.length:Int)<xs.length)=true:=by simpa using hl
  have h2:((pre.length:Int)<xs.length)=True:=by simpa using hl
  have h3:(0≤(pre.length:Int))=True:=by simp
  have h4:=wrN pre.length (by omega)
  have hg:xs[pre.length]?=some a:=by simp [hxs]
  have hpa:=hp a (by simp [hxs])
  simp only [eR] at hpa
  have ih:=Vy i k pf nn xs p g cap hc hcap hsc hp hx q Q u w suf (pre++[a]) kk (by simp [hxs]) (by simpa using hk)
  rw [Ah] at ih
  cases hb:p a<;>rw [hb] at hpa<;>simp +contextual -dsimp -implicitDefEqProofs (maxSteps:=5000000) only [gLs,↓Ai (Qb.eq_1),h1,h2,h3,h4,hcap,hsc,Bn,Bx,hg,hpa,hb,hc,ih,Int.toNat_natCast,List.getElem?_map,go_sem,simprocAttr]
theorem OO (i:Nat) (pf nn:Bool) (xs:List AZ) (p:AZ→Bool) (g:Nat) (cap:List V) (hc:Ak tbl g []) (hcap:∀ d,AG (AW (d+1)) cap=.ret cap) (hsc:AU 0 cap=cap) (hn:BC cap=true)
  (hp:∀ a,a∈xs→Aa (Lv ctx i) g (eR a::cap)=some (bV (p a))) (hx:xs.length≤BB):Aa (Lv ctx (i+2)) 168 [.isl pf nn 3 (xs.map eR),.fn (.func g) [] cap]=some (bV (xs.any p)):=by
 have h1:Aa (Lv ctx (i+1)) 196 [.isl pf nn 3 (xs.map eR),.fn (.func g) [] cap]=some (iV (Fg (Bn p 0 xs))):=by
  refine Af rfl (xs.length+1) (by rfl) ?_
  delta c196
  have hl:=fun q Q u w=>Vy i (xs.length+1) pf nn xs p g cap hc hcap hsc hp hx q Q u w xs [] (xs.length+1) rfl (by omega)
  simp only [List.length_nil,Int.natCast_zero] at hl
  simp +contextual -dsimp -implicitDefEqProofs (maxSteps:=5000000) only [hl,go_sem,simprocAttr]
  cases Bn p 0 xs<;>simp +contextual -dsimp -implicitDefEqProofs (maxSteps:=5000000) only [By,Bx,Fg,go_sem,simprocAttr]
 refine Af rfl 0 (by rfl) ?_
 delta c168
 simp +contextual -dsimp -implicitDefEqProofs (maxSteps:=5000000) only [h1,hcap,DA,go_sem,simprocAttr]
theorem Rh (i k:Nat) (pf nn:Bool) (xs:List Aq) (p:Aq→Bool) (g:Nat) (cap:List V) (hc:Ak tbl g []) (hcap:∀ d,AG (AW (d+1)) cap=.ret cap) (hsc:AU 0 cap=cap)
  (hp:∀ a,a∈xs→Aa (Lv ctx i) g (eWr a::cap)=some (bV (p a))) (hx:xs.length≤BB) (q:Out→St→Option Ans) (Q:V→Hp→Nat→Prop) (u:Dum fun s q=>evC ctx (Lv ctx i) (Aa (Lv ctx i)) k Qa s (As [0,1,7,8] q)) (w:Dum q):∀ (suf pre:List Aq) (kk:Nat),xs=pre++suf→suf.length<kk →
  GL 0 [0,1,7,8] (fun s q=>evC ctx (Lv ctx i) (Aa (Lv ctx i)) k Qa s (As [0,1,7,8] q)) q kk ⟨Ad [0,1,7,8] [.isl pf nn 3 (xs.map eWr),.fn (.func g) [] cap,iV xs.length,iV pre.length],Ag,0⟩ Q u w =
  HT q Q ⟨Ad [] [],Ag,0⟩ (fun j=>⟨Ad [4] [iV j],Ag,0⟩) (Bn p pre.length suf)
 | [],pre,kk,hxs,hk=>by
  obtain ⟨kk,rfl⟩:∃ m,kk=m+1:=⟨kk - 1,by simp at hk;omega⟩
  have h1:decide ((pre.length:Int)<xs.length)=false:=by simp [hxs]
  simp +contextual -dsimp -implicitDefEqProofs (maxSteps:=5000000) only [gLs,↓Ai (Qa.eq_1),h1,hcap,hsc,Bn,By,go_sem,simprocAttr]
 | a::suf,pre,kk,hxs,hk=>by
  obtain ⟨kk,rfl⟩:∃ m,kk=m+1:=⟨kk - 1,by simp at hk;omega⟩
  have hl:pre.length<xs.length:=by simp [hxs]
  have h1:decide ((pre.length:Int)<xs.length)=true:=by simpa using hl
  have h2:((pre.length:Int)<xs.length)=True:=by simpa using hl
  have h3:(0≤(pre.length:Int))=True:=by simp
  have h4:=wrN pre.length (by omega)
  have hg:xs[pre.length]?=some a:=by simp [hxs]
  have hpa:=hp a (by simp [hxs])
  simp only [eWr] at hpa
  have ih:=Rh i k pf nn xs p g cap hc hcap hsc hp hx q Q u w suf (pre++[a]) kk (by simp [hxs]) (by simpa using hk)
  rw [Ah] at ih
  cases hb:p a<;>rw [hb] at hpa<;>simp +contextual -dsimp -implicitDefEqProofs (maxSteps:=5000000) only [gLs,↓Ai (Qa.eq_1),h1,h2,h3,h4,hcap,hsc,Bn,Bx,hg,hpa,hb,hc,ih,Int.toNat_natCast,List.getElem?_map,go_sem,simprocAttr]
theorem QH (i:Nat) (pf nn:Bool) (xs:List Aq) (p:Aq→Bool) (g:Nat) (cap:List V) (hc:Ak tbl g []) (hcap:∀ d,AG (AW (d+1)) cap=.ret cap) (hsc:AU 0 cap=cap) (hn:BC cap=true)
  (hp:∀ a,a∈xs→Aa (Lv ctx i) g (eWr a::cap)=some (bV (p a))) (hx:xs.length≤BB):Aa (Lv ctx (i+2)) 173 [.isl pf nn 3 (xs.map eWr),.fn (.func g) [] cap]=some (bV (xs.any p)):=by
 have h1:Aa (Lv ctx (i+1)) 199 [.isl pf nn 3 (xs.map eWr),.fn (.func g) [] cap]=some (iV (Fg (Bn p 0 xs))):=by
  refine Af rfl (xs.length+1) (by rfl) ?_
  delta c199
  have hl:=fun q Q u w=>Rh i (xs.length+1) pf nn xs p g cap hc hcap hsc hp hx q Q u w xs [] (xs.length+1) rfl (by omega)
  simp only [List.length_nil,Int.natCast_zero] at hl
  simp +contextual -dsimp -implicitDefEqProofs (maxSteps:=5000000) only [hl,go_sem,simprocAttr]
  cases Bn p 0 xs<;>simp +contextual -dsimp -implicitDefEqProofs (maxSteps:=5000000) only [By,Bx,Fg,go_sem,simprocAttr]
 refine Af rfl 0 (by rfl) ?_
 delta c173
 simp +contextual -dsimp -implicitDefEqProofs (maxSteps:=5000000) only [h1,hcap,DA,go_sem,simprocAttr]
theorem Vz (i k:Nat) (pf nn:Bool) (xs:List AD) (p:AD→Bool) (g:Nat) (cap:List V) (hc:Ak tbl g []) (hcap:∀ d,AG (AW (d+1)) cap=.ret cap) (hsc:AU 0 cap=cap)
  (hp:∀ a,a∈xs→Aa (Lv ctx i) g (eI a::cap)=some (bV (p a))) (hx:xs.length≤BB) (q:Out→St→Option Ans) (Q:V→Hp→Nat→Prop) (u:Dum fun s q=>evC ctx (Lv ctx i) (Aa (Lv ctx i)) k PZ s (As [0,1,7,8] q)) (w:Dum q):∀ (suf pre:List AD) (kk:Nat),xs=pre++suf→suf.length<kk →
  GL 0 [0,1,7,8] (fun s q=>evC ctx (Lv ctx i) (Aa (Lv ctx i)) k PZ s (As [0,1,7,8] q)) q kk ⟨Ad [0,1,7,8] [.isl pf nn 4 (xs.map eI),.fn (.func g) [] cap,iV xs.length,iV pre.length],Ag,0⟩ Q u w =
  HT q Q ⟨Ad [] [],Ag,0⟩ (fun j=>⟨Ad [4] [iV j],Ag,0⟩) (Bn p pre.length suf)
 | [],pre,kk,hxs,hk=>by
  obtain ⟨kk,rfl⟩:∃ m,kk=m+1:=⟨kk - 1,by simp at hk;omega⟩
  have h1:decide ((pre.length:Int)<xs.length)=false:=by simp [hxs]
  simp +contextual -dsimp -implicitDefEqProofs (maxSteps:=5000000) only [gLs,↓Ai (PZ.eq_1),h1,hcap,hsc,Bn,By,go_sem,simprocAttr]
 | a::suf,pre,kk,hxs,hk=>by
  obtain ⟨kk,rfl⟩:∃ m,kk=m+1:=⟨kk - 1,by simp at hk;omega⟩
  have hl:pre.length<xs.length:=by simp [hxs]
  have h1:decide ((pre.length:Int)<xs.length)=true:=by simpa using hl
  have h2:((pre.length:Int)<xs.length)=True:=by simpa using hl
  have h3:(0≤(pre.length:Int))=True:=by simp
  have h4:=wrN pre.length (by omega)
  have hg:xs[pre.length]?=some a:=by simp [hxs]
  have hpa:=hp a (by simp [hxs])
  simp only [eI] at hpa
  have ih:=Vz i k pf nn xs p g cap hc hcap hsc hp hx q Q u w suf (pre++[a]) kk (by simp [hxs]) (by simpa using hk)
  rw [Ah] at ih
  cases hb:p a<;>rw [hb] at hpa<;>simp +contextual -dsimp -implicitDefEqProofs (maxSteps:=5000000) only [gLs,↓Ai (PZ.eq_1),h1,h2,h3,h4,hcap,hsc,Bn,Bx,hg,hpa,hb,hc,ih,Int.toNat_natCast,List.getElem?_map,go_sem,simprocAttr]
theorem jB (i:Nat) (pf nn:Bool) (xs:List AD) (p:AD→Bool) (g:Nat) (cap:List V) (hc:Ak tbl g []) (hcap:∀ d,AG (AW (d+1)) cap=.ret cap) (hsc:AU 0 cap=cap) (hn:BC cap=true)
  (hp:∀ a,a∈xs→Aa (Lv ctx i) g (eI a::cap)=some (bV (p a))) (hx:xs.length≤BB):Aa (Lv ctx (i+2)) 175 [.isl pf nn 4 (xs.map eI),.fn (.func g) [] cap]=some (bV (xs.any p)):=by
 have h1:Aa (Lv ctx (i+1)) 200 [.isl pf nn 4 (xs.map eI),.fn (.func g) [] cap]=some (iV (Fg (Bn p 0 xs))):=by
  refine Af rfl (xs.length+1) (by rfl) ?_
  delta c200
  have hl:=fun q Q u w=>Vz i (xs.length+1) pf nn xs p g cap hc hcap hsc hp hx q Q u w xs [] (xs.length+1) rfl (by omega)
  simp only [List.length_nil,Int.natCast_zero] at hl
  simp +contextual -dsimp -implicitDefEqProofs (maxSteps:=5000000) only [hl,go_sem,simprocAttr]
  cases Bn p 0 xs<;>simp +contextual -dsimp -implicitDefEqProofs (maxSteps:=5000000) only [By,Bx,Fg,go_sem,simprocAttr]
 refine Af rfl 0 (by rfl) ?_
 delta c175
 simp +contextual -dsimp -implicitDefEqProofs (maxSteps:=5000000) only [h1,hcap,DA,go_sem,simprocAttr]
end Ve
namespace Ve
open Go Ve.Ab
set_option maxHeartbeats 16000000
set_option maxRecDepth 10000
theorem Dm (l:Int):l=0∨l=1∨l=2∨l=3∨inR l 3=false:=by
 simp [inR];omega
theorem a6z:inR 0 3=true:=by decide
theorem a6y:inR 1 3=true:=by decide
theorem a6x:inR 2 3=true:=by decide
theorem a6w:inR 3 3=true:=by decide
attribute [go_sem] a6z a6y a6x a6w
@[go_sem] theorem s_there (i:Nat) (p a b c d na nb nc nd:Bool) (w0 w1 w2 w3:List Aj) (r:List V) (l x:Int):Aa (Lv ctx (i+2)) 172 [.ip p (.isl a na 3 (w0.map eW)::.isl b nb 3 (w1.map eW)::.isl c nc 3 (w2.map eW)::.isl d nd 3 (w3.map eW)::r) 0,iV l,iV x]=some (bV (Ay ⟨w0,w1,w2,w3⟩ l x)):=by
 rcases Dm l with rfl | rfl | rfl | rfl | h<;>refine Af rfl 0 (by rfl) ?_<;>delta c172
 case inr.inr.inr.inr=>simp +contextual -dsimp -implicitDefEqProofs (maxSteps:=5000000) only [Ay,h,go_sem,simprocAttr]
 all_goals simp +contextual -dsimp -implicitDefEqProofs (maxSteps:=5000000) only [Ay,A4.get,go_sem,simprocAttr]
theorem bool_5f {a b c d e:Bool} (h:(a&&b&&!c&&d&&e)=false):(!a||!b||c||!d||!e)=true:=by cases a<;>cases b<;>cases c<;>cases d<;>cases e<;>simp_all
@[go_sem] theorem bO (i:Nat) (a b c:Int):Aa (Lv ctx (i+4)) 115 [.agg [iV a,iV b,iV c]]=some (bV (!Ba ⟨a,b,c⟩)):=by
 refine Af rfl 0 (by rfl) ?_
 delta c115
 simp +contextual -dsimp -implicitDefEqProofs (maxSteps:=5000000) only [go_sem,simprocAttr]
theorem FU {α:Type} (p:α→Bool):∀ l:List α,(l.any fun x=>!p x)=!(l.all p)
 | []=>rfl
 | a::l=>by simp [FU p l]
theorem WT (i:Nat) (pf nn:Bool) (xs:List Aj) (hx:xs.length≤BB):Aa (Lv ctx (i+4+2)) 117 [.isl pf nn 3 (xs.map eW),.fn (.func 115) [] []]=some (bV (!(xs.all Ba))):=by
 rw [jA (i+4) pf nn xs (fun w=>!Ba w) 115 [] (fun _ _ _ _ _ _=>rfl) (fun _=>rfl) (by simp [AU]) rfl (fun a _=>by simp only [eW];exact bO i _ _ _) hx,FU]
theorem PM (n:Nat):decide (4<(n:Int))=!decide (n≤4):=by
 by_cases h:n≤4<;>simp [h]<;>omega
theorem zZ (i:Nat) (pf nn:Bool) (xs:List Aj) (hx:decide (4<(xs.length:Int))=false):Aa (Lv ctx (i+4+2)) 117 [.isl pf nn 3 (xs.map eW),.fn (.func 115) [] []]=some (bV (!(Ch xs))):=by
 simp at hx
 rw [WT i pf nn xs (by simp [BB];omega)]
 simp [Ch,show xs.length≤4 by omega]
@[go_sem] theorem WX (i:Nat) (a b c d na nb nc nd:Bool) (w0 w1 w2 w3:List Aj):Aa (Lv ctx (i+4+3)) 60 [.agg [.isl a na 3 (w0.map eW),.isl b nb 3 (w1.map eW),.isl c nc 3 (w2.map eW),.isl d nd 3 (w3.map eW)]]=some (bV (AS ⟨w0,w1,w2,w3⟩)):=by
 have key:∀ (w:List Aj),decide (4<(w.length:Int))=true→Ch w=false:=by
  intro w h;simp at h;simp [Ch];intro;omega
 refine Af rfl 5 (by rfl) ?_
 delta c60
 simp +contextual -dsimp -implicitDefEqProofs (maxSteps:=5000000) only [gLs,↓Ai (yX.eq_1),zZ,go_sem,simprocAttr]
 simp only [AS,A4.all]
 cases h0:decide (4<(w0.length:Int))<;>cases h1:decide (4<(w1.length:Int))<;>cases h2:decide (4<(w2.length:Int))<;>cases h3:decide (4<(w3.length:Int))<;>simp_all
def Ft (m a b c d:Int):Bool:=inR a m&&inR b m&&inR c m&&inR d m
@[go_sem] theorem s_clockMay (i:Nat) (p:Bool) (z0 z1 z2 z3:V) (a b c d e:Int) (r:List V):Aa (Lv ctx (i+3)) 61 [.ip p (z0::z1::z2::z3::iV a::iV b::iV c::iV d::r) 4,iV e]=some (bV (Ft 65535 a b c d&&inR e 65535)):=by
 refine Af rfl 5 (by rfl) ?_
 delta c61
 simp +contextual -dsimp -implicitDefEqProofs (maxSteps:=5000000) only [gLs,↓Ai (oL.eq_1),Ft,go_sem,simprocAttr]
 cases inR a 65535<;>cases inR b 65535<;>cases inR c 65535<;>cases inR d 65535<;>simp_all
@[go_sem] theorem s_clockMay' (i:Nat) (p:Bool) (a b c d e:Int):Aa (Lv ctx (i+3)) 61 [.ip p [iV a,iV b,iV c,iV d] 0,iV e]=some (bV (Ft 65535 a b c d&&inR e 65535)):=by
 refine Af rfl 5 (by rfl) ?_
 delta c61
 simp +contextual -dsimp -implicitDefEqProofs (maxSteps:=5000000) only [gLs,↓Ai (oL.eq_1),Ft,go_sem,simprocAttr]
 cases inR a 65535<;>cases inR b 65535<;>cases inR c 65535<;>cases inR d 65535<;>simp_all
@[go_sem] theorem s_regsMay (i:Nat) (p:Bool) (z0 z1 z2 z3 z4 z5:V) (a b c d:Int) (r:List V):Aa (Lv ctx (i+3)) 130 [.ip p (z0::z1::z2::z3::z4::z5::iV a::iV b::iV c::iV d::r) 6]=some (bV (Ft 255 a b c d)):=by
 refine Af rfl 5 (by rfl) ?_
 delta c130
 simp +contextual -dsimp -implicitDefEqProofs (maxSteps:=5000000) only [gLs,↓Ai (Yb.eq_1),Ft,go_sem,simprocAttr]
 cases inR a 255<;>cases inR b 255<;>cases inR c 255<;>cases inR d 255<;>simp_all
@[go_sem] theorem s_regsMay' (i:Nat) (p:Bool) (a b c d:Int):Aa (Lv ctx (i+3)) 130 [.ip p [iV a,iV b,iV c,iV d] 0]=some (bV (Ft 255 a b c d)):=by
 refine Af rfl 5 (by rfl) ?_
 delta c130
 simp +contextual -dsimp -implicitDefEqProofs (maxSteps:=5000000) only [gLs,↓Ai (Yb.eq_1),Ft,go_sem,simprocAttr]
 cases inR a 255<;>cases inR b 255<;>cases inR c 255<;>cases inR d 255<;>simp_all
def max2 (a b:Int):Int:=if a<b then b else a
theorem tQ (a b:Int):(if a<b then b else a)=max2 a b:=(rfl)
@[go_sem] theorem s_max (i:Nat) (p nn:Bool) (a b c d:Int):Aa (Lv ctx (i+1)) 62 [.isl p nn 1 [iV a,iV b,iV c,iV d]]=some (iV (max2 (max2 (max2 a b) c) d)):=by
 refine Af rfl 5 (by rfl) ?_
 delta c62
 simp +contextual -dsimp -implicitDefEqProofs (maxSteps:=5000000) only [gLs,↓Ai (yW.eq_1),tQ,go_sem,simprocAttr]
def Fq (b:Bool) (X1 X2:Prop):Prop :=
 match b with
 | true=>X1
 | false=>X2
theorem Bo (X1 X2:Prop):Fq true X1 X2=X1:=(rfl)
theorem AH (X1 X2:Prop):Fq false X1 X2=X2:=(rfl)
theorem mK (i k:Nat) (pf nn:Bool) (xs:List AD) (hx:xs.length≤BB) (q:Out→St→Option Ans) (Q:V→Hp→Nat→Prop) (u:Dum (fun s q=>evC ctx (Lv ctx (i+3)) (Aa (Lv ctx (i+3))) k RI s (As [0,5,6,7] q))) (w:Dum q) (X1 X2:Prop)
  (hq1:∀ h n,Fin (q (.exit 0) ⟨Ad [0] [.isl pf nn 4 (xs.map eI)],h,n⟩) Q=X1) (hq2:∀ h n,Fin (q .ret ⟨Ad [2] [bV false],h,n⟩) Q=X2):∀ (suf pre:List AD) (kk:Nat) (h:Hp) (n:Nat),xs=pre++suf→suf.length<kk →
  GL 0 [0,5,6,7] (fun s q=>evC ctx (Lv ctx (i+3)) (Aa (Lv ctx (i+3))) k RI s (As [0,5,6,7] q)) q kk ⟨Ad [0,5,6,7] [.isl pf nn 4 (xs.map eI),.isl pf nn 4 (xs.map eI),iV xs.length,iV pre.length],h,n⟩ Q u w =
  Fq (Cm xs.length pre.length suf) X1 X2
 | [],pre,kk,h,n,hxs,hk=>by
  obtain ⟨kk,rfl⟩:∃ m,kk=m+1:=⟨kk - 1,by simp at hk;omega⟩
  have h1:decide ((pre.length:Int)<xs.length)=false:=by simp [hxs]
  simp +contextual -dsimp -implicitDefEqProofs (maxSteps:=5000000) only [gLs,↓Ai (RI.eq_1),h1,Bo,Cm,hq1,go_sem,simprocAttr]
 | a::suf,pre,kk,h,n,hxs,hk=>by
  obtain ⟨kk,rfl⟩:∃ m,kk=m+1:=⟨kk - 1,by simp at hk;omega⟩
  have hl:pre.length<xs.length:=by simp [hxs]
  have h2:((pre.length:Int)<xs.length)=True:=by simpa using hl
  have h3:(0≤(pre.length:Int))=True:=by simp
  have h4:=wrN pre.length (by omega)
  have hg:xs[pre.length]?=some a:=by simp [hxs]
  have ih:=fun h n=>mK i k pf nn xs hx q Q u w X1 X2 hq1 hq2 suf (pre++[a]) kk h n (by simp [hxs]) (by simpa using hk)
  rw [Ah] at ih
  have h5:((pre.length+1:Nat):Int)=(pre.length:Int)+1:=by simp
  cases hb:(BK a&&!(decide (a.code=4)&&(decide (a.b≤(pre.length:Int))||decide ((xs.length:Int)<a.b))))
  ·have hr:Cm xs.length pre.length (a::suf)=false:=by simp only [Cm,hb,Bool.false_and]
   rw [hr]
   have hb':(!(BK a)||(decide (a.code=4)&&(decide (a.b≤(pre.length:Int))||decide ((xs.length:Int)<a.b))))=true:=xD hb
   simp +contextual -dsimp -implicitDefEqProofs (maxSteps:=5000000) only [gLs,↓Ai (RI.eq_1),h2,h3,h4,hg,hb',AH,hq2,go_sem,simprocAttr]
  ·have hr:Cm xs.length pre.length (a::suf)=Cm xs.length ((pre.length+1:Nat):Int) suf:=by simp only [Cm,hb,Bool.true_and,h5]
   rw [hr]
   have hb':(!(BK a)||(decide (a.code=4)&&(decide (a.b≤(pre.length:Int))||decide ((xs.length:Int)<a.b))))=false:=xC hb
   simp +contextual -dsimp -implicitDefEqProofs (maxSteps:=5000000) only [gLs,↓Ai (RI.eq_1),h2,h3,h4,hg,hb',ih,go_sem,simprocAttr]
theorem a0a (i:Nat) (pf nn:Bool) (xs:List AD) (hx:xs.length≤BB):Aa (Lv ctx (i+4)) 89 [.isl pf nn 4 (xs.map eI)]=some (bV (Dg xs)):=by
 refine Af rfl (xs.length+1) (by rfl) ?_
 delta c89
 have h2:=fun q Q u w h1 h2=>mK i (xs.length+1) pf nn xs hx q Q u w (Fin (q (.exit 0) ⟨Ad [0] [.isl pf nn 4 (xs.map eI)],Ag,0⟩) Q) (Fin (q .ret ⟨Ad [2] [bV false],Ag,0⟩) Q) h1 h2 xs [] (xs.length+1) Ag 0 rfl (by omega)
 simp only [List.length_nil,Int.natCast_zero] at h2
 have h5:decide ((xs.length:Int)≤16)=decide (xs.length≤16):=by apply decide_eq_decide.mpr;omega
 simp +contextual -dsimp -implicitDefEqProofs (maxSteps:=5000000) only [Dg,h5,go_sem,simprocAttr]
 refine Eq.mpr (h2 _ _ _ _ (fun h n=>by simp +contextual -dsimp -implicitDefEqProofs (maxSteps:=5000000) only [go_sem,simprocAttr]) (fun h n=>by simp +contextual -dsimp -implicitDefEqProofs (maxSteps:=5000000) only [go_sem,simprocAttr])) ?_
 cases hb:Cm xs.length 0 xs<;>simp +contextual -dsimp -implicitDefEqProofs (maxSteps:=5000000) only [Bo,AH,h5,go_sem,simprocAttr]
end Ve
namespace Ve
open Go Ve.Ab
set_option maxHeartbeats 16000000
set_option maxRecDepth 10000
@[go_sem] theorem yC (i:Nat) (p:Bool) (a b c x y z:Int):Aa (Lv ctx (i+1)) 197 [.agg [iV x,iV y,iV z],.ip p [iV a,iV b,iV c] 0]=some (bV (Cz ⟨a,b,c⟩ ⟨x,y,z⟩)):=by
 refine Af rfl 0 (by rfl) ?_
 delta c197
 simp +contextual -dsimp -implicitDefEqProofs (maxSteps:=5000000) only [go_sem,simprocAttr]
 all_goals simp_all [Cz]
@[go_sem] theorem s_of (i:Nat) (a b c:Int):Aa (Lv ctx (i+1)) 169 [.agg [iV a,iV b,iV c]]=some (.fn (.func 197) [] [.ip true [iV a,iV b,iV c] 0]):=by
 refine Af rfl 0 (by rfl) ?_
 delta c169
 simp +contextual -dsimp -implicitDefEqProofs (maxSteps:=5000000) only [go_sem,simprocAttr]
theorem Zg (i k:Nat) (pf nn:Bool) (xs:List AZ) (hx:xs.length≤BB) (q:Out→St→Option Ans) (Q:V→Hp→Nat→Prop) (u:Dum (fun s q=>evC ctx (Lv ctx (i+3)) (Aa (Lv ctx (i+3))) k Kd s (As [0,8,9,10] q))) (w:Dum q) (X1 X2:Prop)
  (hq1:∀ h n,Fin (q (.exit 0) ⟨Ad [] [],h,n⟩) Q=X1) (hq2:∀ h n,Fin (q .ret ⟨Ad [2] [bV false],h,n⟩) Q=X2):∀ (suf pre:List AZ) (kk:Nat) (h:Hp) (n:Nat),xs=pre++suf→suf.length<kk →
  GL 0 [0,8,9,10] (fun s q=>evC ctx (Lv ctx (i+3)) (Aa (Lv ctx (i+3))) k Kd s (As [0,8,9,10] q)) q kk ⟨Ad [0,8,9,10] [.isl pf nn 3 (xs.map eR),.isl pf nn 3 (xs.map eR),iV xs.length,iV pre.length],h,n⟩ Q u w =
  Fq (Ca pre suf) X1 X2
 | [],pre,kk,h,n,hxs,hk=>by
  obtain ⟨kk,rfl⟩:∃ m,kk=m+1:=⟨kk - 1,by simp at hk;omega⟩
  have h1:decide ((pre.length:Int)<xs.length)=false:=by simp [hxs]
  simp +contextual -dsimp -implicitDefEqProofs (maxSteps:=5000000) only [gLs,↓Ai (Kd.eq_1),h1,Bo,Ca,hq1,go_sem,simprocAttr]
 | a::suf,pre,kk,h,n,hxs,hk=>by
  obtain ⟨kk,rfl⟩:∃ m,kk=m+1:=⟨kk - 1,by simp at hk;omega⟩
  have hl:pre.length<xs.length:=by simp [hxs]
  have h2:((pre.length:Int)<xs.length)=True:=by simpa using hl
  have h2':((pre.length:Int)≤xs.length)=True:=by simp;omega
  have h3:(0≤(pre.length:Int))=True:=by simp
  have h4:=wrN pre.length (by omega)
  have hg:xs[pre.length]?=some a:=by simp [hxs]
  have ht:(xs.map eR).take pre.length=pre.map eR:=by simp [hxs]
  have ih:=fun h n=>Zg i k pf nn xs hx q Q u w X1 X2 hq1 hq2 suf (pre++[a]) kk h n (by simp [hxs]) (by simpa using hk)
  rw [Ah] at ih
  have hcf:Aa (Lv ctx (i+3)) 168 [.isl pf nn 3 (pre.map eR),.fn (.func 197) [] [.ip true [iV a.level,iV a.index,iV a.ver] 0]]=some (bV (pre.any (Cz a))) :=
   OO (i+1) pf nn pre (Cz a) 197 [.ip true [iV a.level,iV a.index,iV a.ver] 0] (fun _ _ _ _ _ _=>rfl) (fun _=>rfl) (by simp [AU,V.scrub]) rfl (fun x _=>by simp only [eR];exact yC (i+0) true a.level a.index a.ver x.level x.index x.ver) (by omega)
  cases c1:inR a.level 3
  ·simp +contextual -dsimp -implicitDefEqProofs (maxSteps:=5000000) only [gLs,↓Ai (Kd.eq_1),h2,h2',h3,h4,hg,ht,hcf,AH,hq2,Ca,CF,c1,go_sem,simprocAttr]
  ·cases c2:inR a.index 3
   ·simp +contextual -dsimp -implicitDefEqProofs (maxSteps:=5000000) only [gLs,↓Ai (Kd.eq_1),h2,h2',h3,h4,hg,ht,hcf,AH,hq2,Ca,CF,c1,c2,go_sem,simprocAttr]
   ·cases c3:inR a.ver 65535
    ·simp +contextual -dsimp -implicitDefEqProofs (maxSteps:=5000000) only [gLs,↓Ai (Kd.eq_1),h2,h2',h3,h4,hg,ht,hcf,AH,hq2,Ca,CF,c1,c2,c3,go_sem,simprocAttr]
    ·cases c4:pre.any (Cz a)<;>simp +contextual -dsimp -implicitDefEqProofs (maxSteps:=5000000) only [gLs,↓Ai (Kd.eq_1),h2,h2',h3,h4,hg,ht,hcf,AH,hq2,Ca,CF,c1,c2,c3,c4,ih,go_sem,simprocAttr]
theorem Ob (i:Nat) (pf nn:Bool) (xs:List AZ) (hx:xs.length≤BB):Aa (Lv ctx (i+4)) 121 [.isl pf nn 3 (xs.map eR)]=some (bV (AY xs)):=by
 refine Af rfl (xs.length+1) (by rfl) ?_
 delta c121
 have h2:=fun q Q u w h1 h2=>Zg i (xs.length+1) pf nn xs hx q Q u w (Fin (q (.exit 0) ⟨Ad [] [],Ag,0⟩) Q) (Fin (q .ret ⟨Ad [2] [bV false],Ag,0⟩) Q) h1 h2 xs [] (xs.length+1) Ag 0 rfl (by omega)
 simp only [List.length_nil,Int.natCast_zero] at h2
 cases h5:decide (16<(xs.length:Int))
 ·have h6:decide (xs.length≤16)=true:=by simp at h5 ⊢;omega
  simp +contextual -dsimp -implicitDefEqProofs (maxSteps:=5000000) only [AY,h5,h6,go_sem,simprocAttr]
  refine Eq.mpr (h2 _ _ _ _ (fun h n=>by simp +contextual -dsimp -implicitDefEqProofs (maxSteps:=5000000) only [go_sem,simprocAttr]) (fun h n=>by simp +contextual -dsimp -implicitDefEqProofs (maxSteps:=5000000) only [go_sem,simprocAttr])) ?_
  cases hb:Ca [] xs<;>simp +contextual -dsimp -implicitDefEqProofs (maxSteps:=5000000) only [Bo,AH,go_sem,simprocAttr]
 ·have h6:decide (xs.length≤16)=false:=by simp at h5 ⊢;omega
  simp +contextual -dsimp -implicitDefEqProofs (maxSteps:=5000000) only [AY,h5,h6,go_sem,simprocAttr]
@[go_sem] theorem s_or (i:Nat) (p nn:Bool) (a b:Int):Aa (Lv ctx (i+1)) 198 [.isl p nn 1 [iV a,iV b]]=some (iV (if a=0 then b else a)):=by
 refine Af rfl 3 (by rfl) ?_
 delta c198
 by_cases ha:a=0
 ·subst ha
  by_cases hb:b=0
  ·subst hb
   simp +contextual -dsimp -implicitDefEqProofs (maxSteps:=5000000) only [gLs,↓Ai (Ud.eq_1),go_sem,simprocAttr]
  ·have hb':decide (b=0)=false:=by simpa using hb
   simp +contextual -dsimp -implicitDefEqProofs (maxSteps:=5000000) only [gLs,↓Ai (Ud.eq_1),hb',go_sem,simprocAttr]
 ·have ha':decide (a=0)=false:=by simpa using ha
  simp +contextual -dsimp -implicitDefEqProofs (maxSteps:=5000000) only [gLs,↓Ai (Ud.eq_1),ha',if_neg ha,go_sem,simprocAttr]
def NZ (a b:Aq):Int:=if IntKind.wrap .i64 (a.level - b.level)=0 then IntKind.wrap .i64 (a.index - b.index) else IntKind.wrap .i64 (a.level - b.level)
@[go_sem] theorem s_row (i:Nat) (a b c x y z:Int):Aa (Lv ctx (i+2)) 170 [.agg [iV a,iV b,iV c],.agg [iV x,iV y,iV z]]=some (iV (NZ ⟨a,b,c⟩ ⟨x,y,z⟩)):=by
 refine Af rfl 0 (by rfl) ?_
 delta c170
 simp +contextual -dsimp -implicitDefEqProofs (maxSteps:=5000000) only [NZ,List.replicate,go_sem,simprocAttr]
theorem Ss (i g:Nat) (pf:Bool) (pw:Bool) (row:List V) (off:Nat) (a:Ae) (b:Bool) (hc:Ak tbl g []) (hp:Aa (Lv ctx i) g [.agg [.ip pw row off],(eS pf) a]=some (bV b)):Aa (Lv ctx (i+1)) 120 [(eS pf) a,.ip pw [.fn (.func g) [.agg [.ip pw row off]] []] 0]=some (bV (!b)):=by
 simp only [eS] at hp ⊢
 refine Af rfl 0 (by rfl) ?_
 delta c120
 simp +contextual -dsimp -implicitDefEqProofs (maxSteps:=5000000) only [hc,hp,go_sem,simprocAttr]
theorem Sv (i g:Nat) (pf nn:Bool) (pw:Bool) (row:List V) (off:Nat) (xs:List Ae) (p:Ae→Bool) (hc:Ak tbl g []) (hx:xs.length≤BB) (hp:∀ a,a∈xs→Aa (Lv ctx i) g [.agg [.ip pw row off],(eS pf) a]=some (bV (p a))):Aa (Lv ctx (i+4)) 65 [.isl pf nn 17 (xs.map (eS pf)),.fn (.func g) [.agg [.ip pw row off]] []]=some (bV (xs.all p)):=by
 have h1:Aa (Lv ctx (i+3)) 119 [.isl pf nn 17 (xs.map (eS pf)),.fn (.func 120) [] [.ip pw [.fn (.func g) [.agg [.ip pw row off]] []] 0]]=some (bV (!(xs.all p))):=by
  rw [UL (i+1) pf nn xs (fun x=>!p x) 120 [.ip pw [.fn (.func g) [.agg [.ip pw row off]] []] 0] (fun _ _ _ _ _ _=>rfl) (fun _=>rfl) (by simp [AU,V.scrub]) rfl (fun a ha=>Ss i g pf pw row off a (p a) hc (hp a ha)) hx,FU]
 refine Af rfl 0 (by rfl) ?_
 delta c65
 simp +contextual -dsimp -implicitDefEqProofs (maxSteps:=5000000) only [h1,Bool.not_not,go_sem,simprocAttr]
theorem bP (i g:Nat) (pf:Bool) (pw:Bool) (row:List V) (off:Nat) (a:AZ) (b:Bool) (hc:Ak tbl g []) (hp:Aa (Lv ctx i) g [.agg [.ip pw row off],eR a]=some (bV b)):Aa (Lv ctx (i+1)) 171 [eR a,.ip pw [.fn (.func g) [.agg [.ip pw row off]] []] 0]=some (bV (!b)):=by
 simp only [eR] at hp ⊢
 refine Af rfl 0 (by rfl) ?_
 delta c171
 simp +contextual -dsimp -implicitDefEqProofs (maxSteps:=5000000) only [hc,hp,go_sem,simprocAttr]
theorem bT (i g:Nat) (pf nn:Bool) (pw:Bool) (row:List V) (off:Nat) (xs:List AZ) (p:AZ→Bool) (hc:Ak tbl g []) (hx:xs.length≤BB) (hp:∀ a,a∈xs→Aa (Lv ctx i) g [.agg [.ip pw row off],eR a]=some (bV (p a))):Aa (Lv ctx (i+4)) 123 [.isl pf nn 3 (xs.map eR),.fn (.func g) [.agg [.ip pw row off]] []]=some (bV (xs.all p)):=by
 have h1:Aa (Lv ctx (i+3)) 168 [.isl pf nn 3 (xs.map eR),.fn (.func 171) [] [.ip pw [.fn (.func g) [.agg [.ip pw row off]] []] 0]]=some (bV (!(xs.all p))):=by
  rw [OO (i+1) pf nn xs (fun x=>!p x) 171 [.ip pw [.fn (.func g) [.agg [.ip pw row off]] []] 0] (fun _ _ _ _ _ _=>rfl) (fun _=>rfl) (by simp [AU,V.scrub]) rfl (fun a ha=>bP i g pf pw row off a (p a) hc (hp a ha)) hx,FU]
 refine Af rfl 0 (by rfl) ?_
 delta c123
 simp +contextual -dsimp -implicitDefEqProofs (maxSteps:=5000000) only [h1,Bool.not_not,go_sem,simprocAttr]
theorem WU (i g:Nat) (pf:Bool) (pw:Bool) (row:List V) (off:Nat) (a:Aq) (b:Bool) (hc:Ak tbl g []) (hp:Aa (Lv ctx i) g [.agg [.ip pw row off],eWr a]=some (bV b)):Aa (Lv ctx (i+1)) 174 [eWr a,.ip pw [.fn (.func g) [.agg [.ip pw row off]] []] 0]=some (bV (!b)):=by
 simp only [eWr] at hp ⊢
 refine Af rfl 0 (by rfl) ?_
 delta c174
 simp +contextual -dsimp -implicitDefEqProofs (maxSteps:=5000000) only [hc,hp,go_sem,simprocAttr]
theorem WY (i g:Nat) (pf nn:Bool) (pw:Bool) (row:List V) (off:Nat) (xs:List Aq) (p:Aq→Bool) (hc:Ak tbl g []) (hx:xs.length≤BB) (hp:∀ a,a∈xs→Aa (Lv ctx i) g [.agg [.ip pw row off],eWr a]=some (bV (p a))):Aa (Lv ctx (i+4)) 125 [.isl pf nn 3 (xs.map eWr),.fn (.func g) [.agg [.ip pw row off]] []]=some (bV (xs.all p)):=by
 have h1:Aa (Lv ctx (i+3)) 173 [.isl pf nn 3 (xs.map eWr),.fn (.func 174) [] [.ip pw [.fn (.func g) [.agg [.ip pw row off]] []] 0]]=some (bV (!(xs.all p))):=by
  rw [QH (i+1) pf nn xs (fun x=>!p x) 174 [.ip pw [.fn (.func g) [.agg [.ip pw row off]] []] 0] (fun _ _ _ _ _ _=>rfl) (fun _=>rfl) (by simp [AU,V.scrub]) rfl (fun a ha=>WU i g pf pw row off a (p a) hc (hp a ha)) hx,FU]
 refine Af rfl 0 (by rfl) ?_
 delta c125
 simp +contextual -dsimp -implicitDefEqProofs (maxSteps:=5000000) only [h1,Bool.not_not,go_sem,simprocAttr]
theorem bQ (i g:Nat) (pf:Bool) (pw:Bool) (row:List V) (off:Nat) (a:AD) (b:Bool) (hc:Ak tbl g []) (hp:Aa (Lv ctx i) g [.agg [.ip pw row off],eI a]=some (bV b)):Aa (Lv ctx (i+1)) 176 [eI a,.ip pw [.fn (.func g) [.agg [.ip pw row off]] []] 0]=some (bV (!b)):=by
 simp only [eI] at hp ⊢
 refine Af rfl 0 (by rfl) ?_
 delta c176
 simp +contextual -dsimp -implicitDefEqProofs (maxSteps:=5000000) only [hc,hp,go_sem,simprocAttr]
theorem bU (i g:Nat) (pf nn:Bool) (pw:Bool) (row:List V) (off:Nat) (xs:List AD) (p:AD→Bool) (hc:Ak tbl g []) (hx:xs.length≤BB) (hp:∀ a,a∈xs→Aa (Lv ctx i) g [.agg [.ip pw row off],eI a]=some (bV (p a))):Aa (Lv ctx (i+4)) 127 [.isl pf nn 4 (xs.map eI),.fn (.func g) [.agg [.ip pw row off]] []]=some (bV (xs.all p)):=by
 have h1:Aa (Lv ctx (i+3)) 175 [.isl pf nn 4 (xs.map eI),.fn (.func 176) [] [.ip pw [.fn (.func g) [.agg [.ip pw row off]] []] 0]]=some (bV (!(xs.all p))):=by
  rw [jB (i+1) pf nn xs (fun x=>!p x) 176 [.ip pw [.fn (.func g) [.agg [.ip pw row off]] []] 0] (fun _ _ _ _ _ _=>rfl) (fun _=>rfl) (by simp [AU,V.scrub]) rfl (fun a ha=>bQ i g pf pw row off a (p a) hc (hp a ha)) hx,FU]
 refine Af rfl 0 (by rfl) ?_
 delta c127
 simp +contextual -dsimp -implicitDefEqProofs (maxSteps:=5000000) only [h1,Bool.not_not,go_sem,simprocAttr]
theorem WV (i g:Nat) (pf:Bool) (a:AI) (b:Bool) (hc:Ak tbl g []) (hp:Aa (Lv ctx i) g [eE a]=some (bV b)):Aa (Lv ctx (i+1)) 133 [eE a,.ip true [.fn (.func g) [] []] 0]=some (bV (!b)):=by
 simp only [eE] at hp ⊢
 refine Af rfl 0 (by rfl) ?_
 delta c133
 simp +contextual -dsimp -implicitDefEqProofs (maxSteps:=5000000) only [hc,hp,go_sem,simprocAttr]
theorem WZ (i g:Nat) (pf nn:Bool) (xs:List AI) (p:AI→Bool) (hc:Ak tbl g []) (hx:xs.length≤BB) (hp:∀ a,a∈xs→Aa (Lv ctx i) g [eE a]=some (bV (p a))):Aa (Lv ctx (i+4)) 67 [.isl pf nn 4 (xs.map eE),.fn (.func g) [] []]=some (bV (xs.all p)):=by
 have h1:Aa (Lv ctx (i+3)) 132 [.isl pf nn 4 (xs.map eE),.fn (.func 133) [] [.ip true [.fn (.func g) [] []] 0]]=some (bV (!(xs.all p))):=by
  rw [bS (i+1) pf nn xs (fun x=>!p x) 133 [.ip true [.fn (.func g) [] []] 0] (fun _ _ _ _ _ _=>rfl) (fun _=>rfl) (by simp [AU,V.scrub]) rfl (fun a ha=>WV i g pf a (p a) hc (hp a ha)) hx,FU]
 refine Af rfl 0 (by rfl) ?_
 delta c67
 simp +contextual -dsimp -implicitDefEqProofs (maxSteps:=5000000) only [h1,Bool.not_not,go_sem,simprocAttr]
@[go_sem] theorem rC (i:Nat) (p a b c d na nb nc nd:Bool) (w0 w1 w2 w3:List Aj) (r:List V) (x y z:Int):Aa (Lv ctx (i+3)) 124 [.agg [.ip p (.isl a na 3 (w0.map eW)::.isl b nb 3 (w1.map eW)::.isl c nc 3 (w2.map eW)::.isl d nd 3 (w3.map eW)::r) 0],.agg [iV x,iV y,iV z]]=some (bV (Ay ⟨w0,w1,w2,w3⟩ x y)):=by
 refine Af rfl 0 (by rfl) ?_
 delta c124
 simp +contextual -dsimp -implicitDefEqProofs (maxSteps:=5000000) only [go_sem,simprocAttr]
@[go_sem] theorem iT (i:Nat) (p a b c d na nb nc nd:Bool) (w0 w1 w2 w3:List Aj) (r:List V) (x y z:Int):Aa (Lv ctx (i+3)) 126 [.agg [.ip p (.isl a na 3 (w0.map eW)::.isl b nb 3 (w1.map eW)::.isl c nc 3 (w2.map eW)::.isl d nd 3 (w3.map eW)::r) 0],.agg [iV x,iV y,iV z]]=some (bV (Ay ⟨w0,w1,w2,w3⟩ x y)):=by
 refine Af rfl 0 (by rfl) ?_
 delta c126
 simp +contextual -dsimp -implicitDefEqProofs (maxSteps:=5000000) only [go_sem,simprocAttr]
@[go_sem] theorem rD (i:Nat) (p a b c d na nb nc nd:Bool) (w0 w1 w2 w3:List Aj) (r:List V) (x y z t:Int):Aa (Lv ctx (i+3)) 128 [.agg [.ip p (.isl a na 3 (w0.map eW)::.isl b nb 3 (w1.map eW)::.isl c nc 3 (w2.map eW)::.isl d nd 3 (w3.map eW)::r) 0],.agg [iV x,iV y,iV z,iV t]]=some (bV (!(Fy x)||Ay ⟨w0,w1,w2,w3⟩ z t)):=by
 refine Af rfl 0 (by rfl) ?_
 delta c128
 simp +contextual -dsimp -implicitDefEqProofs (maxSteps:=5000000) only [go_sem,simprocAttr]
@[go_sem] theorem rG (i:Nat) (a b c d:Int):Aa (Lv ctx (i+2)) 63 [.agg [iV a,iV b,iV c,iV d]]=some (bV (inR b 3)):=by
 refine Af rfl 0 (by rfl) ?_
 delta c63
 simp +contextual -dsimp -implicitDefEqProofs (maxSteps:=5000000) only [go_sem,simprocAttr]
theorem YE (i:Nat) (pf nn:Bool) (a b c:Int) (xs:List AD) (hx:xs.length≤BB):Aa (Lv ctx (i+5)) 40 [.agg [iV a,iV b,iV c,.isl pf nn 4 (xs.map eI)]]=some (bV (Dk a b c xs)):=by
 have hp:=a0a (i+0) pf nn xs hx
 refine Af rfl 0 (by rfl) ?_
 delta c40
 simp +contextual -dsimp -implicitDefEqProofs (maxSteps:=5000000) only [Dk,hp,go_sem,simprocAttr]
end Ve
namespace Ve
open Go Ve.Ab
set_option maxHeartbeats 16000000
set_option maxRecDepth 10000
theorem bW {v a:Aq} (hv:AL v=true) (ha:AL a=true):decide (0≤NZ v a)=!decide (AK v.level v.index<AK a.level a.index):=by
 simp only [AL,inR,Bool.and_eq_true,decide_eq_true_eq] at hv ha
 have e1:=Jc (a:=v.level - a.level) (by omega) (by omega)
 have e2:=Jc (a:=v.index - a.index) (by omega) (by omega)
 simp only [wr] at e1 e2
 have h:(0≤NZ v a)↔¬ (AK v.level v.index<AK a.level a.index):=by
  simp only [NZ,e1,e2,AK]
  split<;>omega
 by_cases hp:AK v.level v.index<AK a.level a.index
 ·simp [hp,h]
 ·simp [hp,h]
theorem Vt (i k:Nat) (pf nn:Bool) (xs:List Aq) (hx:xs.length≤BB) (q:Out→St→Option Ans) (Q:V→Hp→Nat→Prop) (u:Dum (fun s q=>evC ctx (Lv ctx (i+2)) (Aa (Lv ctx (i+2))) k Gz s (As [0,5,6,7] q))) (w:Dum q) (X1 X2:Prop)
  (hq1:∀ h n,Fin (q (.exit 0) ⟨Ad [0] [.isl pf nn 3 (xs.map eWr)],h,n⟩) Q=X1) (hq2:∀ h n,Fin (q .ret ⟨Ad [2] [bV false],h,n⟩) Q=X2):∀ (suf pre:List Aq) (kk:Nat) (h:Hp) (n:Nat),xs=pre++suf→suf.length<kk→(∀ v,pre.getLast?=some v→AL v=true) →
  GL 0 [0,5,6,7] (fun s q=>evC ctx (Lv ctx (i+2)) (Aa (Lv ctx (i+2))) k Gz s (As [0,5,6,7] q)) q kk ⟨Ad [0,5,6,7] [.isl pf nn 3 (xs.map eWr),.isl pf nn 3 (xs.map eWr),iV xs.length,iV pre.length],h,n⟩ Q u w =
  Fq (Be pre.getLast? suf) X1 X2
 | [],pre,kk,h,n,hxs,hk,hv=>by
  obtain ⟨kk,rfl⟩:∃ m,kk=m+1:=⟨kk - 1,by simp at hk;omega⟩
  have h1:decide ((pre.length:Int)<xs.length)=false:=by simp [hxs]
  have h2:∀ o,Be o []=true:=fun o=>by cases o<;>rfl
  simp +contextual -dsimp -implicitDefEqProofs (maxSteps:=5000000) only [gLs,↓Ai (Gz.eq_1),h1,Bo,h2,hq1,go_sem,simprocAttr]
 | a::suf,pre,kk,h,n,hxs,hk,hv=>by
  obtain ⟨kk,rfl⟩:∃ m,kk=m+1:=⟨kk - 1,by simp at hk;omega⟩
  have hl:pre.length<xs.length:=by simp [hxs]
  have h2:((pre.length:Int)<xs.length)=True:=by simpa using hl
  have h3:(0≤(pre.length:Int))=True:=by simp
  have h4:=wrN pre.length (by omega)
  have hg:xs[pre.length]?=some a:=by simp [hxs]
  have ih:=fun h n hv=>Vt i k pf nn xs hx q Q u w X1 X2 hq1 hq2 suf (pre++[a]) kk h n (by simp [hxs]) (by simpa using hk) hv
  rw [Ah] at ih
  simp only [List.getLast?_append,List.getLast?_singleton,Option.some_or,Option.some.injEq,forall_eq'] at ih
  rcases List.eq_nil_or_concat pre with rfl | ⟨L,v,rfl⟩
  ·simp only [List.length_nil,RE] at *
   cases c1:inR a.level 3
   ·simp +contextual -dsimp -implicitDefEqProofs (maxSteps:=5000000) only [gLs,↓Ai (Gz.eq_1),h2,h3,h4,hg,AH,hq2,Be,AL,c1,List.getLast?_nil,go_sem,simprocAttr]
   ·cases c2:inR a.index 3
    ·simp +contextual -dsimp -implicitDefEqProofs (maxSteps:=5000000) only [gLs,↓Ai (Gz.eq_1),h2,h3,h4,hg,AH,hq2,Be,AL,c1,c2,List.getLast?_nil,go_sem,simprocAttr]
    ·cases c3:inR a.val 255
     ·simp +contextual -dsimp -implicitDefEqProofs (maxSteps:=5000000) only [gLs,↓Ai (Gz.eq_1),h2,h3,h4,hg,AH,hq2,Be,AL,c1,c2,c3,List.getLast?_nil,go_sem,simprocAttr]
     ·have ih':=fun h n=>ih h n (by simp only [AL,c1,c2,c3,Bool.and_self])
      simp only [Nat.zero_add,Wd] at ih'
      simp +contextual -dsimp -implicitDefEqProofs (maxSteps:=5000000) only [gLs,↓Ai (Gz.eq_1),h2,h3,h4,hg,Be,AL,c1,c2,c3,ih',List.getLast?_nil,go_sem,simprocAttr]
  ·have hv1:AL v=true:=hv v (by simp)
   have hlen:(L.concat v).length=L.length+1:=by simp
   have hlast:(L.concat v).getLast?=some v:=by simp
   rw [hlen] at h2 h3 h4 hg ih
   rw [hlen,hlast]
   have h6:IntKind.wrap .i64 (((L.length+1:Nat):Int) - 1)=(L.length:Int):=by
    have:=Jc (a:=(L.length:Int)) (by omega) (by simp [hlen] at hl;simp only [BB] at hx;omega)
    simp only [wr] at this
    rw [show (((L.length+1:Nat):Int) - 1)=(L.length:Int) by omega,this]
   have h7:((L.length:Int)<xs.length)=True:=by simp only [eq_iff_iff,iff_true];rw [hlen] at hl;omega
   have h8:(0≤(L.length:Int))=True:=by simp
   have h9:decide (0<((L.length+1:Nat):Int))=true:=by simp only [decide_eq_true_eq];omega
   have hg':xs[L.length]?=some v:=by simp [hxs]
   cases c1:inR a.level 3
   ·simp +contextual -dsimp -implicitDefEqProofs (maxSteps:=5000000) only [gLs,↓Ai (Gz.eq_1),h2,h3,h4,hg,AH,hq2,Be,AL,c1,go_sem,simprocAttr]
   ·cases c2:inR a.index 3
    ·simp +contextual -dsimp -implicitDefEqProofs (maxSteps:=5000000) only [gLs,↓Ai (Gz.eq_1),h2,h3,h4,hg,AH,hq2,Be,AL,c1,c2,go_sem,simprocAttr]
    ·cases c3:inR a.val 255
     ·simp +contextual -dsimp -implicitDefEqProofs (maxSteps:=5000000) only [gLs,↓Ai (Gz.eq_1),h2,h3,h4,hg,AH,hq2,Be,AL,c1,c2,c3,go_sem,simprocAttr]
     ·have ha1:AL a=true:=by simp only [AL,c1,c2,c3,Bool.and_self]
      have ih':=fun h n=>ih h n ha1
      have hr:=bW hv1 ha1
      cases c4:decide (AK v.level v.index<AK a.level a.index)<;>rw [c4] at hr <;>
       simp +contextual -dsimp -implicitDefEqProofs (maxSteps:=5000000) only [gLs,↓Ai (Gz.eq_1),h2,h3,h4,h6,h7,h8,h9,hg,hg',hr,Be,ha1,c1,c2,c3,c4,ih',AH,hq2,go_sem,simprocAttr]
theorem Jq (i:Nat) (pf nn:Bool) (xs:List Aq) (hx:xs.length≤BB):Aa (Lv ctx (i+3)) 122 [.isl pf nn 3 (xs.map eWr)]=some (bV (Bg xs)):=by
 refine Af rfl (xs.length+1) (by rfl) ?_
 delta c122
 have h2:=fun q Q u w h1 h2=>Vt i (xs.length+1) pf nn xs hx q Q u w (Fin (q (.exit 0) ⟨Ad [0] [.isl pf nn 3 (xs.map eWr)],Ag,0⟩) Q) (Fin (q .ret ⟨Ad [2] [bV false],Ag,0⟩) Q) h1 h2 xs [] (xs.length+1) Ag 0 rfl (by omega) (by simp)
 simp only [List.length_nil,Int.natCast_zero,List.getLast?_nil] at h2
 have h5:decide ((xs.length:Int)≤16)=decide (xs.length≤16):=by apply decide_eq_decide.mpr;omega
 simp +contextual -dsimp -implicitDefEqProofs (maxSteps:=5000000) only [Bg,h5,go_sem,simprocAttr]
 refine Eq.mpr (h2 _ _ _ _ (fun h n=>by simp +contextual -dsimp -implicitDefEqProofs (maxSteps:=5000000) only [go_sem,simprocAttr]) (fun h n=>by simp +contextual -dsimp -implicitDefEqProofs (maxSteps:=5000000) only [go_sem,simprocAttr])) ?_
 cases hb:Be none xs<;>simp +contextual -dsimp -implicitDefEqProofs (maxSteps:=5000000) only [Bo,AH,h5,go_sem,simprocAttr]
end Ve
namespace Ve
open Go Ve.Ab
set_option maxHeartbeats 16000000
set_option maxRecDepth 10000
attribute [go_sem] Bool.and_self
theorem SmS.p {s:Ae} (h:SmS s):s.prog.length≤BB:=by have:=h.bp;simp only [BB];omega
theorem SmS.r {s:Ae} (h:SmS s):s.reads.length≤BB:=by have:=h.br;simp only [BB];omega
theorem SmS.w {s:Ae} (h:SmS s):s.writes.length≤BB:=by have:=h.bw;simp only [BB];omega
theorem SmM.w0 {m:Ac} (h:SmM m):m.words.a0.length≤BB:=by have:=h.b0;simp only [BB];omega
theorem SmM.w1 {m:Ac} (h:SmM m):m.words.a1.length≤BB:=by have:=h.b1;simp only [BB];omega
theorem SmM.w2 {m:Ac} (h:SmM m):m.words.a2.length≤BB:=by have:=h.b2;simp only [BB];omega
theorem SmM.w3 {m:Ac} (h:SmM m):m.words.a3.length≤BB:=by have:=h.b3;simp only [BB];omega
theorem SmM.ss {m:Ac} (h:SmM m):m.sess.length≤BB:=by have:=h.bs;simp only [BB];omega
theorem SmM.tr {m:Ac} (h:SmM m):m.trace.length≤BB:=by have:=h.bt;simp only [BB];omega
theorem rB (i:Nat) (pw a b c d na nb nc nd pf:Bool) (w0 w1 w2 w3:List Aj) (r:List V) (s:Ae) (hs:SmS s):Aa (Lv ctx (i+9)) 66
  [.agg [.ip pw (.isl a na 3 (w0.map eW)::.isl b nb 3 (w1.map eW)::.isl c nc 3 (w2.map eW)::.isl d nd 3 (w3.map eW)::r) 0],eS pf s]=some (bV (BS ⟨w0,w1,w2,w3⟩ s)):=by
 have h1:Aa (Lv ctx (i+8)) 40 [.agg [iV s.id,iV s.label,iV s.clear,.isl pf false 4 (s.prog.map eI)]]=_:=YE (i+3) pf false s.id s.label s.clear s.prog hs.p
 have h2:Aa (Lv ctx (i+8)) 121 [.isl pf false 3 (s.reads.map eR)]=_:=Ob (i+4) pf false s.reads hs.r
 have h3:Aa (Lv ctx (i+8)) 122 [.isl pf false 3 (s.writes.map eWr)]=_:=Jq (i+5) pf false s.writes hs.w
 have h4:=bT (i+4) 124 pf false pw (.isl a na 3 (w0.map eW)::.isl b nb 3 (w1.map eW)::.isl c nc 3 (w2.map eW)::.isl d nd 3 (w3.map eW)::r) 0 s.reads (fun x=>Ay ⟨w0,w1,w2,w3⟩ x.level x.index) (fun _ _ _ _ _ _=>rfl) hs.r
  (fun x _=>by simp only [eR];exact rC (i+1) pw a b c d na nb nc nd w0 w1 w2 w3 r x.level x.index x.ver)
 have h5:=WY (i+4) 126 pf false pw (.isl a na 3 (w0.map eW)::.isl b nb 3 (w1.map eW)::.isl c nc 3 (w2.map eW)::.isl d nd 3 (w3.map eW)::r) 0 s.writes (fun x=>Ay ⟨w0,w1,w2,w3⟩ x.level x.index) (fun _ _ _ _ _ _=>rfl) hs.w
  (fun x _=>by simp only [eWr];exact iT (i+1) pw a b c d na nb nc nd w0 w1 w2 w3 r x.level x.index x.val)
 have h6:=bU (i+4) 128 pf false pw (.isl a na 3 (w0.map eW)::.isl b nb 3 (w1.map eW)::.isl c nc 3 (w2.map eW)::.isl d nd 3 (w3.map eW)::r) 0 s.prog (fun x=>!(Fy x.code)||Ay ⟨w0,w1,w2,w3⟩ x.b x.c) (fun _ _ _ _ _ _=>rfl) hs.p
  (fun x _=>by simp only [eI];exact rD (i+1) pw a b c d na nb nc nd w0 w1 w2 w3 r x.code x.a x.b x.c)
 simp only [Nat.add_assoc,Nat.reduceAdd,Nat.reduceSub] at h1 h2 h3 h4 h5 h6
 simp only [eS]
 refine Af rfl 0 (by rfl) ?_
 delta c66
 simp +contextual -dsimp -implicitDefEqProofs (maxSteps:=5000000) only [h1,h2,h3,h4,h5,h6,go_sem,simprocAttr]
 simp only [BS,AP,Cf,DL,Dx,A4.all,Ft]
theorem tZ (e a b:Int):e<max2 a b↔e<a∨e<b:=by
 simp only [max2];split<;>omega
theorem dK (a b c d e:Int):(Ft 65535 a b c d&&inR e 65535&&!decide (e<max2 (max2 (max2 a b) c) d))=(inR e 65535&&Ft e a b c d):=by
 rw [Bool.eq_iff_iff]
 simp only [Ft,inR,tZ,Bool.and_eq_true,decide_eq_true_eq,Bool.not_eq_true',decide_eq_false_iff_not]
 omega
theorem yL (i k:Nat) (p pf:Bool) (m:Ac) (hx:m.sess.length≤BB) (q:Out→St→Option Ans) (Q:V→Hp→Nat→Prop) (u:Dum (fun s q=>evC ctx (Lv ctx i) (Aa (Lv ctx i)) k PY s (As [1,38,39] q))) (w:Dum q):∀ (suf pre:List Ae) (kk:Nat),m.sess=pre++suf→suf.length<kk →
  GL 0 [1,38,39] (fun s q=>evC ctx (Lv ctx i) (Aa (Lv ctx i)) k PY s (As [1,38,39] q)) q kk ⟨Ad [1,38,39] [.ip p (cM pf m) 0,iV m.sess.length,iV pre.length],Ag,0⟩ Q u w =
  Fq (EY (pre.getLast?.map (·.id)) suf) (Fin (q (.exit 0) ⟨Ad [1] [.ip p (cM pf m) 0],Ag,0⟩) Q) (Fin (q .ret ⟨Ad [2] [bV false],Ag,0⟩) Q)
 | [],pre,kk,hxs,hk=>by
  obtain ⟨kk,rfl⟩:∃ m,kk=m+1:=⟨kk - 1,by simp at hk;omega⟩
  have h1:decide ((pre.length:Int)<m.sess.length)=false:=by simp [hxs]
  have h2:∀ o,EY o []=true:=fun o=>by cases o<;>rfl
  simp +contextual -dsimp -implicitDefEqProofs (maxSteps:=5000000) only [gLs,↓Ai (PY.eq_1),h1,Bo,h2,go_sem,simprocAttr]
 | a::suf,pre,kk,hxs,hk=>by
  obtain ⟨kk,rfl⟩:∃ m,kk=m+1:=⟨kk - 1,by simp at hk;omega⟩
  have hl:pre.length<m.sess.length:=by simp [hxs]
  have h2:((pre.length:Int)<m.sess.length)=True:=by simpa using hl
  have h3:(0≤(pre.length:Int))=True:=by simp
  have h4:=wrN pre.length (by omega)
  have hg:m.sess[pre.length]?=some a:=by simp [hxs]
  have ih:=yL i k p pf m hx q Q u w suf (pre++[a]) kk (by simp [hxs]) (by simpa using hk)
  rw [Ah] at ih
  simp only [List.getLast?_append,List.getLast?_singleton,Option.some_or,Option.map_some] at ih
  rcases List.eq_nil_or_concat pre with rfl | ⟨L,v,rfl⟩
  ·simp only [List.length_nil,RE] at *
   simp only [Nat.zero_add,Wd] at ih
   simp +contextual -dsimp -implicitDefEqProofs (maxSteps:=5000000) only [gLs,↓Ai (PY.eq_1),h2,h3,h4,hg,ih,EY,List.getLast?_nil,go_sem,simprocAttr]
  ·have hlen:(L.concat v).length=L.length+1:=by simp
   have hlast:(L.concat v).getLast?=some v:=by simp
   rw [hlen] at h2 h3 h4 hg ih
   rw [hlen,hlast]
   have h6:IntKind.wrap .i64 (((L.length+1:Nat):Int) - 1)=(L.length:Int):=by
    have:=Jc (a:=(L.length:Int)) (by omega) (by simp [hlen] at hl;simp only [BB] at hx;omega)
    simp only [wr] at this
    rw [show (((L.length+1:Nat):Int) - 1)=(L.length:Int) by omega,this]
   have h7:((L.length:Int)<m.sess.length)=True:=by simp only [eq_iff_iff,iff_true];rw [hlen] at hl;omega
   have h8:(0≤(L.length:Int))=True:=by simp
   have h9:decide (0<((L.length+1:Nat):Int))=true:=by simp only [decide_eq_true_eq];omega
   have hg':m.sess[L.length]?=some v:=by simp [hxs]
   by_cases hlt:v.id<a.id
   ·have c1:decide (a.id≤v.id)=false:=by simp;omega
    have c2:decide (v.id<a.id)=true:=by simp;omega
    simp +contextual -dsimp -implicitDefEqProofs (maxSteps:=5000000) only [gLs,↓Ai (PY.eq_1),h2,h3,h4,h6,h7,h8,h9,hg,hg',c1,c2,ih,EY,go_sem,simprocAttr]
   ·have c1:decide (a.id≤v.id)=true:=by simp;omega
    have c2:decide (v.id<a.id)=false:=by simp;omega
    simp +contextual -dsimp -implicitDefEqProofs (maxSteps:=5000000) only [gLs,↓Ai (PY.eq_1),h2,h3,h4,h6,h7,h8,h9,hg,hg',c1,c2,EY,AH,go_sem,simprocAttr]
theorem QG (i:Nat) (pf:Bool) (m:Ac) (hm:SmM m):Aa (Lv ctx (i+19)) 28 [eM pf m]=some (bV (De m)):=by
 have h1:=Sv (i+14) 66 pf false pf (cM pf m) 0 m.sess (BS m.words) (fun _ _ _ _ _ _=>rfl) hm.ss
  (fun s hs=>rB (i+5) pf pf pf pf pf false false false false pf m.words.a0 m.words.a1 m.words.a2 m.words.a3 _ s (hm.s s hs))
 have h2:=WZ (i+14) 63 pf false m.trace (fun e=>inR e.label 3) (fun _ _ _ _ _ _=>rfl) hm.tr (fun e _=>by simp only [eE];exact rG (i+12) e.id e.label e.kind e.val)
 simp only [Nat.add_assoc,Nat.reduceAdd] at h1 h2
 refine Af rfl (m.sess.length+1) (by rfl) ?_
 delta c28
 have h3:=fun q Q u w=>yL (i+18) (m.sess.length+1) pf pf m hm.ss q Q u w m.sess [] (m.sess.length+1) rfl (by omega)
 simp only [List.length_nil,Int.natCast_zero,List.getLast?_nil,Option.map_none] at h3
 have h4:=dK m.clocks.a0 m.clocks.a1 m.clocks.a2 m.clocks.a3 m.ceil
 have h5:decide (4<(m.sess.length:Int))=!decide (m.sess.length≤4):=PM _
 have h6:decide (512<(m.trace.length:Int))=!decide (m.trace.length≤512):=by
  by_cases h:m.trace.length≤512<;>simp [h]<;>omega
 have key:De m=((AS m.words&&(Ft 65535 m.clocks.a0 m.clocks.a1 m.clocks.a2 m.clocks.a3&&inR m.ceil 65535)&&!decide (m.ceil<max2 (max2 (max2 m.clocks.a0 m.clocks.a1) m.clocks.a2) m.clocks.a3)&&decide (m.sess.length≤4)&&decide (m.trace.length≤512))&&EY none m.sess&&m.sess.all (BS m.words)&&m.trace.all (fun e=>inR e.label 3)):=by
  rw [Bool.and_assoc (AS m.words) (Ft 65535 m.clocks.a0 m.clocks.a1 m.clocks.a2 m.clocks.a3&&inR m.ceil 65535),h4]
  simp only [De,A4.all,Ft,Bool.and_assoc]
 have hb:∀ a b c d e:Bool,(!a||!b||c||!d||!e)=!(a&&b&&!c&&d&&e):=by decide
 have hb':=hb (AS m.words) (Ft 65535 m.clocks.a0 m.clocks.a1 m.clocks.a2 m.clocks.a3&&inR m.ceil 65535) (decide (m.ceil<max2 (max2 (max2 m.clocks.a0 m.clocks.a1) m.clocks.a2) m.clocks.a3)) (decide (m.sess.length≤4)) (decide (m.trace.length≤512))
 cases hc:(AS m.words&&(Ft 65535 m.clocks.a0 m.clocks.a1 m.clocks.a2 m.clocks.a3&&inR m.ceil 65535)&&!decide (m.ceil<max2 (max2 (max2 m.clocks.a0 m.clocks.a1) m.clocks.a2) m.clocks.a3)&&decide (m.sess.length≤4)&&decide (m.trace.length≤512))<;>rw [hc] at hb' key
 ·rw [key]
  simp +contextual -dsimp -implicitDefEqProofs (maxSteps:=5000000) only [h1,h2,h3,h5,h6,hb',go_sem,simprocAttr]
 ·rw [key]
  simp +contextual -dsimp -implicitDefEqProofs (maxSteps:=5000000) only [h1,h2,h5,h6,hb',go_sem,simprocAttr]
  refine Eq.mpr (h3 _ _ _ _) ?_
  cases hi:EY none m.sess<;>simp +contextual -dsimp -implicitDefEqProofs (maxSteps:=5000000) only [Bo,AH,h1,h2,go_sem,simprocAttr]
end Ve
namespace Ve
open Go Ve.Ab
set_option maxHeartbeats 16000000
set_option maxRecDepth 10000
@[go_sem] theorem bM (i:Nat) (pf:Bool) (s:Ae) (hs:SmS s):Aa (Lv ctx (i+2)) 102 [eS pf s]=some (oS s):=by
 have h1:((s.prog.length:Int)*32≤140737488355328)=True:=by simpa using hs.bp
 have h2:((s.reads.length:Int)*24≤140737488355328)=True:=by simpa using hs.br
 have h3:((s.writes.length:Int)*24≤140737488355328)=True:=by simpa using hs.bw
 simp only [eS]
 refine Af rfl 0 (by rfl) ?_
 delta c102
 cases pf<;>simp +contextual -dsimp -implicitDefEqProofs (maxSteps:=5000000) only [h1,h2,h3,go_sem,simprocAttr]
@[go_sem] theorem s_arenaCopy (i:Nat) (p:Bool) (w0 w1 w2 w3:List Aj) (h0:(w0.length:Int)*24≤140737488355328) (h1:(w1.length:Int)*24≤140737488355328) (h2:(w2.length:Int)*24≤140737488355328) (h3:(w3.length:Int)*24≤140737488355328):Aa (Lv ctx (i+2)) 99 [.agg [eWs p w0,eWs p w1,eWs p w2,eWs p w3]]=some (.agg [oWs w0,oWs w1,oWs w2,oWs w3]):=by
 have e0:((w0.length:Int)*24≤140737488355328)=True:=by simpa using h0
 have e1:((w1.length:Int)*24≤140737488355328)=True:=by simpa using h1
 have e2:((w2.length:Int)*24≤140737488355328)=True:=by simpa using h2
 have e3:((w3.length:Int)*24≤140737488355328)=True:=by simpa using h3
 refine Af rfl 5 (by rfl) ?_
 delta c99
 cases p<;>simp +contextual -dsimp -implicitDefEqProofs (maxSteps:=5000000) only [gLs,↓Ai (yU.eq_1),e0,e1,e2,e3,go_sem,simprocAttr]
end Ve
namespace Ve
open Go Ve.Ab
set_option maxHeartbeats 16000000
set_option maxRecDepth 10000
abbrev zM:V:=.agg [.own 3 [],.own 3 [],.own 3 [],.own 3 [],iV 0,iV 0,iV 0,iV 0,iV 0,.own 17 [],.own 4 []]
abbrev hC (m:Ac) (els:List V) (d6 d7:Bool):Hp :=
 pO (pO (pO (pO (pO (pO (pO (pO Ag 0 (some ⟨11,[.agg [.sl 2,.sl 3,.sl 4,.sl 5,iV m.clocks.a0,iV m.clocks.a1,iV m.clocks.a2,iV m.clocks.a3,iV m.ceil,.sl 6,.sl 7]],true⟩))
  1 (some ⟨11,[zM],false⟩)) 2 (some ⟨3,m.words.a0.map eW,false⟩)) 3 (some ⟨3,m.words.a1.map eW,false⟩)) 4 (some ⟨3,m.words.a2.map eW,false⟩)) 5 (some ⟨3,m.words.a3.map eW,false⟩))
  6 (some ⟨17,els,d6⟩)) 7 (some ⟨4,m.trace.map eE,d7⟩)
theorem Zh (i k:Nat) (pf:Bool) (m:Ac) (hm:SmM m) (q:Out→St→Option Ans) (Q:V→Hp→Nat→Prop):∀ (suf pre:List Ae) (kk:Nat) (d6:Bool),m.sess=pre++suf→suf.length<kk+1 →
  Fin (evC ctx (Lv ctx (i+2)) (Aa (Lv ctx (i+2))) k Wm ⟨Ad [1,2,18,19,20] [.ptr 0 0 0,.ptr 1 0 0,.sl 6,iV m.sess.length,iV pre.length],hC m (pre.map oS++suf.map (eS pf)) d6 (!pf),8⟩
   (As [1,2,18,19,20] fun o s=>Cp (BD 8 [1,2,18,19,20] (fun s q=>evC ctx (Lv ctx (i+2)) (Aa (Lv ctx (i+2))) k Wm s (As [1,2,18,19,20] q)) q kk) q o s)) Q =
  Fin (q (.exit 0) ⟨Ad [1,2] [.ptr 0 0 0,.ptr 1 0 0],hC m (m.sess.map oS) (if suf=[] then d6 else true) (!pf),8⟩) Q
 | [],pre,kk,d6,hxs,hk=>by
  have h1:decide ((pre.length:Int)<m.sess.length)=false:=by simp [hxs]
  have h2:m.sess=pre:=by simp [hxs]
  rw [Ai (Wm.eq_1),if_pos rfl]
  simp +contextual -dsimp -implicitDefEqProofs (maxSteps:=5000000) only [h1,go_sem,simprocAttr]
  rw [h2]
 | a::suf,pre,kk,d6,hxs,hk=>by
  obtain ⟨kk,rfl⟩:∃ m,kk=m+1:=⟨kk - 1,by simp at hk;omega⟩
  have hl:pre.length<m.sess.length:=by simp [hxs]
  have h2:((pre.length:Int)<m.sess.length)=True:=by simpa using hl
  have h3:(0≤(pre.length:Int))=True:=by simp
  have h4:=wrN pre.length (by have:=hm.ss;omega)
  have hg:(pre.map oS++(a::suf).map (eS pf))[pre.length]?=some (eS pf a):=by simp
  have hlen:(((pre.map oS++(a::suf).map (eS pf)).length:Nat):Int)=m.sess.length:=by simp [hxs]
  have hset:∀ x,(pre.map oS++(a::suf).map (eS pf)).set pre.length x=pre.map oS++x::suf.map (eS pf):=by intro x;simp [List.set_append]
  have hs:=bM (i+0) pf a (hm.s a (by simp [hxs]))
  have ih:=Zh i k pf m hm q Q suf (pre++[a]) kk true (by simp [hxs]) (by simpa using hk)
  simp only [Ah,List.map_append,List.map_cons,List.map_nil,List.append_assoc,List.cons_append,List.nil_append,oS,ite_self] at ih
  simp only [Nat.add_assoc,Nat.reduceAdd] at hs
  simp only [eS,List.map_cons] at hs hg hlen hset ⊢
  have hif:(if a::suf=[] then d6 else true)=true:=by simp
  rw [Ai (Wm.eq_1),hif]
  cases pf<;>cases d6<;>simp +contextual -dsimp -implicitDefEqProofs (maxSteps:=5000000) only [h2,h3,h4,hg,hlen,hset,hs,gLs,go_sem,simprocAttr]<;>exact ih
theorem Dw (i:Nat) (pf:Bool) (m:Ac) (hm:SmM m):Aa (Lv ctx (i+3)) 49 [eM pf m]=some (oM m):=by
 have b0:=hm.b0
 have b1:=hm.b1
 have b2:=hm.b2
 have b3:=hm.b3
 have e4:((m.sess.length:Int)*184≤140737488355328)=True:=by simpa using hm.bs
 have e5:((m.trace.length:Int)*32≤140737488355328)=True:=by simpa using hm.bt
 refine Af rfl (m.sess.length+1) (by rfl) ?_
 delta c49
 have hl:=fun q Q d6=>Zh i (m.sess.length+1) pf m hm q Q m.sess [] m.sess.length d6 rfl (by omega)
 simp only [List.length_nil,Int.natCast_zero,List.map_nil,List.nil_append] at hl
 cases pf
 ·simp +contextual -dsimp -implicitDefEqProofs (maxSteps:=5000000) only [b0,b1,b2,b3,e4,e5,gLs,go_sem,simprocAttr]
  refine Eq.mpr (hl _ _ true) ?_
  generalize (if m.sess=[] then true else true)=dd
  cases dd<;>simp +contextual -dsimp -implicitDefEqProofs (maxSteps:=5000000) only [go_sem,simprocAttr]
 ·simp +contextual -dsimp -implicitDefEqProofs (maxSteps:=5000000) only [b0,b1,b2,b3,e4,e5,gLs,go_sem,simprocAttr]
  refine Eq.mpr (hl _ _ false) ?_
  generalize (if m.sess=[] then false else true)=dd
  cases dd<;>simp +contextual -dsimp -implicitDefEqProofs (maxSteps:=5000000) only [go_sem,simprocAttr]
end Ve
namespace Ve
open Go Ve.Ab
set_option maxHeartbeats 16000000
set_option maxRecDepth 10000
theorem Ii (i:Nat) (p pf:Bool) (m:Ac) (at_:Int) (hm:SmM m):Aa (Lv ctx (i+20)) 58 [.ip p (cM pf m) 0,iV at_]=some (bV (Cs m at_)):=by
 have h1:=QG i pf m hm
 refine Af rfl 0 (by rfl) ?_
 delta c58
 simp +contextual -dsimp -implicitDefEqProofs (maxSteps:=5000000) only [h1,Cs,go_sem,simprocAttr]
abbrev hF (m:Ac) (a1 a2 a3 a4:List V):Hp :=
 pO (pO (pO (pO (pO (pO (pO (pO Ag 0 (some ⟨11,[zM],false⟩)) 1 (some ⟨3,a1,false⟩)) 2 (some ⟨3,a2,false⟩)) 3 (some ⟨3,a3,false⟩)) 4 (some ⟨3,a4,false⟩)) 5 (some ⟨17,m.sess.map oS,false⟩)) 6 (some ⟨4,m.trace.map eE,false⟩))
  7 (some ⟨11,[.agg [.sl 1,.sl 2,.sl 3,.sl 4,iV m.clocks.a0,iV m.clocks.a1,iV m.clocks.a2,iV m.clocks.a3,iV m.ceil,.sl 5,.sl 6]],true⟩)
theorem Zm (i k:Nat) (m:Ac) (hm:SmM m) (id c:Int) (hc:IntKind.wrap .i64 (id+1)=c) (q:Out→St→Option Ans) (Q:V→Hp→Nat→Prop):∀ (suf pre:List Aj) (kk:Nat),m.words.a0=pre++suf→suf.length<kk+1 →
  Fin (evC ctx (Lv ctx i) (Aa (Lv ctx i)) k Da ⟨Ad [0,1,4,5] [.ptr 7 0 0,iV id,iV 0,iV pre.length],hF m ((pre.map (Aw c)).map eW++suf.map eW) (m.words.a1.map eW) (m.words.a2.map eW) (m.words.a3.map eW),8⟩ (As [0,1,4,5] fun o s=>Cp (BD 8 [0,1,4,5] (fun s q=>evC ctx (Lv ctx i) (Aa (Lv ctx i)) k Da s (As [0,1,4,5] q)) q kk) q o s)) Q=Fin (q (.exit 0) ⟨Ad [0,1,4] [.ptr 7 0 0,iV id,iV 0],hF m ((m.words.a0.map (Aw c)).map eW) (m.words.a1.map eW) (m.words.a2.map eW) (m.words.a3.map eW),8⟩) Q
 | [],pre,kk,hxs,hk=>by
  have h1:decide ((pre.length:Int)<(pre.length:Int))=false:=by simp
  have h2:m.words.a0=pre:=by simp [hxs]
  rw [Ai (Da.eq_1)]
  simp only [List.map_nil,List.append_nil]
  rw [h2]
  simp +contextual -dsimp -implicitDefEqProofs (maxSteps:=5000000) only [h1,List.length_map,go_sem,simprocAttr]
  all_goals (try rfl)
 | a::suf,pre,kk,hxs,hk=>by
  obtain ⟨kk,rfl⟩:∃ m,kk=m+1:=⟨kk - 1,by simp at hk;omega⟩
  have hl:pre.length<((pre.map (Aw c)).map eW++(a::suf).map eW).length:=by simp
  have h2:((pre.length:Int)<((((pre.map (Aw c)).map eW++(a::suf).map eW).length:Nat):Int))=True:=by simp;omega
  have h3:(0≤(pre.length:Int))=True:=by simp
  have h4:=wrN pre.length (by have:=hm.w0;rw [hxs] at this;simp at this;omega)
  have hg:((pre.map (Aw c)).map eW++(a::suf).map eW)[pre.length]?=some (eW a):=by simp
  have hset:∀ x,((pre.map (Aw c)).map eW++(a::suf).map eW).set pre.length x=(pre.map (Aw c)).map eW++x::suf.map eW:=by intro x;simp [List.set_append]
  have ih:=Zm i k m hm id c hc q Q suf (pre++[a]) kk (by simp [hxs]) (by simpa using hk)
  simp only [Ah,List.map_append,List.map_cons,List.map_nil,List.append_assoc,List.cons_append,List.nil_append] at ih
  by_cases hlk:a.lock=c
  ·have h5:decide (a.lock=c)=true:=by simpa using hlk
   simp only [Aw,hlk,if_true,eW] at ih
   simp only [eW,List.map_cons,Aw] at h2 hg hset ⊢
   rw [Ai (Da.eq_1)]
   simp +contextual -dsimp -implicitDefEqProofs (maxSteps:=5000000) only [h2,h3,h4,hg,hset,hc,h5,gLs,go_sem,simprocAttr]
   exact ih
  ·have h5:decide (a.lock=c)=false:=by simpa using hlk
   simp only [Aw,hlk,if_false,eW] at ih
   simp only [eW,List.map_cons,Aw] at h2 hg hset ⊢
   rw [Ai (Da.eq_1)]
   simp +contextual -dsimp -implicitDefEqProofs (maxSteps:=5000000) only [h2,h3,h4,hg,hset,hc,h5,gLs,go_sem,simprocAttr]
   exact ih
theorem Zl (i k:Nat) (m:Ac) (hm:SmM m) (id c:Int) (hc:IntKind.wrap .i64 (id+1)=c) (q:Out→St→Option Ans) (Q:V→Hp→Nat→Prop):∀ (suf pre:List Aj) (kk:Nat),m.words.a1=pre++suf→suf.length<kk+1 →
  Fin (evC ctx (Lv ctx i) (Aa (Lv ctx i)) k Da ⟨Ad [0,1,4,5] [.ptr 7 0 0,iV id,iV 1,iV pre.length],hF m ((m.words.a0.map (Aw c)).map eW) ((pre.map (Aw c)).map eW++suf.map eW) (m.words.a2.map eW) (m.words.a3.map eW),8⟩ (As [0,1,4,5] fun o s=>Cp (BD 8 [0,1,4,5] (fun s q=>evC ctx (Lv ctx i) (Aa (Lv ctx i)) k Da s (As [0,1,4,5] q)) q kk) q o s)) Q=Fin (q (.exit 0) ⟨Ad [0,1,4] [.ptr 7 0 0,iV id,iV 1],hF m ((m.words.a0.map (Aw c)).map eW) ((m.words.a1.map (Aw c)).map eW) (m.words.a2.map eW) (m.words.a3.map eW),8⟩) Q
 | [],pre,kk,hxs,hk=>by
  have h1:decide ((pre.length:Int)<(pre.length:Int))=false:=by simp
  have h2:m.words.a1=pre:=by simp [hxs]
  rw [Ai (Da.eq_1)]
  simp only [List.map_nil,List.append_nil]
  rw [h2]
  simp +contextual -dsimp -implicitDefEqProofs (maxSteps:=5000000) only [h1,List.length_map,go_sem,simprocAttr]
  all_goals (try rfl)
 | a::suf,pre,kk,hxs,hk=>by
  obtain ⟨kk,rfl⟩:∃ m,kk=m+1:=⟨kk - 1,by simp at hk;omega⟩
  have hl:pre.length<((pre.map (Aw c)).map eW++(a::suf).map eW).length:=by simp
  have h2:((pre.length:Int)<((((pre.map (Aw c)).map eW++(a::suf).map eW).length:Nat):Int))=True:=by simp;omega
  have h3:(0≤(pre.length:Int))=True:=by simp
  have h4:=wrN pre.length (by have:=hm.w1;rw [hxs] at this;simp at this;omega)
  have hg:((pre.map (Aw c)).map eW++(a::suf).map eW)[pre.length]?=some (eW a):=by simp
  have hset:∀ x,((pre.map (Aw c)).map eW++(a::suf).map eW).set pre.length x=(pre.map (Aw c)).map eW++x::suf.map eW:=by intro x;simp [List.set_append]
  have ih:=Zl i k m hm id c hc q Q suf (pre++[a]) kk (by simp [hxs]) (by simpa using hk)
  simp only [Ah,List.map_append,List.map_cons,List.map_nil,List.append_assoc,List.cons_append,List.nil_append] at ih
  by_cases hlk:a.lock=c
  ·have h5:decide (a.lock=c)=true:=by simpa using hlk
   simp only [Aw,hlk,if_true,eW] at ih
   simp only [eW,List.map_cons,Aw] at h2 hg hset ⊢
   rw [Ai (Da.eq_1)]
   simp +contextual -dsimp -implicitDefEqProofs (maxSteps:=5000000) only [h2,h3,h4,hg,hset,hc,h5,gLs,go_sem,simprocAttr]
   exact ih
  ·have h5:decide (a.lock=c)=false:=by simpa using hlk
   simp only [Aw,hlk,if_false,eW] at ih
   simp only [eW,List.map_cons,Aw] at h2 hg hset ⊢
   rw [Ai (Da.eq_1)]
   simp +contextual -dsimp -implicitDefEqProofs (maxSteps:=5000000) only [h2,h3,h4,hg,hset,hc,h5,gLs,go_sem,simprocAttr]
   exact ih
theorem Zk (i k:Nat) (m:Ac) (hm:SmM m) (id c:Int) (hc:IntKind.wrap .i64 (id+1)=c) (q:Out→St→Option Ans) (Q:V→Hp→Nat→Prop):∀ (suf pre:List Aj) (kk:Nat),m.words.a2=pre++suf→suf.length<kk+1 →
  Fin (evC ctx (Lv ctx i) (Aa (Lv ctx i)) k Da ⟨Ad [0,1,4,5] [.ptr 7 0 0,iV id,iV 2,iV pre.length],hF m ((m.words.a0.map (Aw c)).map eW) ((m.words.a1.map (Aw c)).map eW) ((pre.map (Aw c)).map eW++suf.map eW) (m.words.a3.map eW),8⟩ (As [0,1,4,5] fun o s=>Cp (BD 8 [0,1,4,5] (fun s q=>evC ctx (Lv ctx i) (Aa (Lv ctx i)) k Da s (As [0,1,4,5] q)) q kk) q o s)) Q=Fin (q (.exit 0) ⟨Ad [0,1,4] [.ptr 7 0 0,iV id,iV 2],hF m ((m.words.a0.map (Aw c)).map eW) ((m.words.a1.map (Aw c)).map eW) ((m.words.a2.map (Aw c)).map eW) (m.words.a3.map eW),8⟩) Q
 | [],pre,kk,hxs,hk=>by
  have h1:decide ((pre.length:Int)<(pre.length:Int))=false:=by simp
  have h2:m.words.a2=pre:=by simp [hxs]
  rw [Ai (Da.eq_1)]
  simp only [List.map_nil,List.append_nil]
  rw [h2]
  simp +contextual -dsimp -implicitDefEqProofs (maxSteps:=5000000) only [h1,List.length_map,go_sem,simprocAttr]
  all_goals (try rfl)
 | a::suf,pre,kk,hxs,hk=>by
  obtain ⟨kk,rfl⟩:∃ m,kk=m+1:=⟨kk - 1,by simp at hk;omega⟩
  have hl:pre.length<((pre.map (Aw c)).map eW++(a::suf).map eW).length:=by simp
  have h2:((pre.length:Int)<((((pre.map (Aw c)).map eW++(a::suf).map eW).length:Nat):Int))=True:=by simp;omega
  have h3:(0≤(pre.length:Int))=True:=by simp
  have h4:=wrN pre.length (by have:=hm.w2;rw [hxs] at this;simp at this;omega)
  have hg:((pre.map (Aw c)).map eW++(a::suf).map eW)[pre.length]?=some (eW a):=by simp
  have hset:∀ x,((pre.map (Aw c)).map eW++(a::suf).map eW).set pre.length x=(pre.map (Aw c)).map eW++x::suf.map eW:=by intro x;simp [List.set_append]
  have ih:=Zk i k m hm id c hc q Q suf (pre++[a]) kk (by simp [hxs]) (by simpa using hk)
  simp only [Ah,List.map_append,List.map_cons,List.map_nil,List.append_assoc,List.cons_append,List.nil_append] at ih
  by_cases hlk:a.lock=c
  ·have h5:decide (a.lock=c)=true:=by simpa using hlk
   simp only [Aw,hlk,if_true,eW] at ih
   simp only [eW,List.map_cons,Aw] at h2 hg hset ⊢
   rw [Ai (Da.eq_1)]
   simp +contextual -dsimp -implicitDefEqProofs (maxSteps:=5000000) only [h2,h3,h4,hg,hset,hc,h5,gLs,go_sem,simprocAttr]
   exact ih
  ·have h5:decide (a.lock=c)=false:=by simpa using hlk
   simp only [Aw,hlk,if_false,eW] at ih
   simp only [eW,List.map_cons,Aw] at h2 hg hset ⊢
   rw [Ai (Da.eq_1)]
   simp +contextual -dsimp -implicitDefEqProofs (maxSteps:=5000000) only [h2,h3,h4,hg,hset,hc,h5,gLs,go_sem,simprocAttr]
   exact ih
theorem Zj (i k:Nat) (m:Ac) (hm:SmM m) (id c:Int) (hc:IntKind.wrap .i64 (id+1)=c) (q:Out→St→Option Ans) (Q:V→Hp→Nat→Prop):∀ (suf pre:List Aj) (kk:Nat),m.words.a3=pre++suf→suf.length<kk+1 →
  Fin (evC ctx (Lv ctx i) (Aa (Lv ctx i)) k Da ⟨Ad [0,1,4,5] [.ptr 7 0 0,iV id,iV 3,iV pre.length],hF m ((m.words.a0.map (Aw c)).map eW) ((m.words.a1.map (Aw c)).map eW) ((m.words.a2.map (Aw c)).map eW) ((pre.map (Aw c)).map eW++suf.map eW),8⟩ (As [0,1,4,5] fun o s=>Cp (BD 8 [0,1,4,5] (fun s q=>evC ctx (Lv ctx i) (Aa (Lv ctx i)) k Da s (As [0,1,4,5] q)) q kk) q o s)) Q=Fin (q (.exit 0) ⟨Ad [0,1,4] [.ptr 7 0 0,iV id,iV 3],hF m ((m.words.a0.map (Aw c)).map eW) ((m.words.a1.map (Aw c)).map eW) ((m.words.a2.map (Aw c)).map eW) ((m.words.a3.map (Aw c)).map eW),8⟩) Q
 | [],pre,kk,hxs,hk=>by
  have h1:decide ((pre.length:Int)<(pre.length:Int))=false:=by simp
  have h2:m.words.a3=pre:=by simp [hxs]
  rw [Ai (Da.eq_1)]
  simp only [List.map_nil,List.append_nil]
  rw [h2]
  simp +contextual -dsimp -implicitDefEqProofs (maxSteps:=5000000) only [h1,List.length_map,go_sem,simprocAttr]
  all_goals (try rfl)
 | a::suf,pre,kk,hxs,hk=>by
  obtain ⟨kk,rfl⟩:∃ m,kk=m+1:=⟨kk - 1,by simp at hk;omega⟩
  have hl:pre.length<((pre.map (Aw c)).map eW++(a::suf).map eW).length:=by simp
  have h2:((pre.length:Int)<((((pre.map (Aw c)).map eW++(a::suf).map eW).length:Nat):Int))=True:=by simp;omega
  have h3:(0≤(pre.length:Int))=True:=by simp
  have h4:=wrN pre.length (by have:=hm.w3;rw [hxs] at this;simp at this;omega)
  have hg:((pre.map (Aw c)).map eW++(a::suf).map eW)[pre.length]?=some (eW a):=by simp
  have hset:∀ x,((pre.map (Aw c)).map eW++(a::suf).map eW).set pre.length x=(pre.map (Aw c)).map eW++x::suf.map eW:=by intro x;simp [List.set_append]
  have ih:=Zj i k m hm id c hc q Q suf (pre++[a]) kk (by simp [hxs]) (by simpa using hk)
  simp only [Ah,List.map_append,List.map_cons,List.map_nil,List.append_assoc,List.cons_append,List.nil_append] at ih
  by_cases hlk:a.lock=c
  ·have h5:decide (a.lock=c)=true:=by simpa using hlk
   simp only [Aw,hlk,if_true,eW] at ih
   simp only [eW,List.map_cons,Aw] at h2 hg hset ⊢
   rw [Ai (Da.eq_1)]
   simp +contextual -dsimp -implicitDefEqProofs (maxSteps:=5000000) only [h2,h3,h4,hg,hset,hc,h5,gLs,go_sem,simprocAttr]
   exact ih
  ·have h5:decide (a.lock=c)=false:=by simpa using hlk
   simp only [Aw,hlk,if_false,eW] at ih
   simp only [eW,List.map_cons,Aw] at h2 hg hset ⊢
   rw [Ai (Da.eq_1)]
   simp +contextual -dsimp -implicitDefEqProofs (maxSteps:=5000000) only [h2,h3,h4,hg,hset,hc,h5,gLs,go_sem,simprocAttr]
   exact ih
def XD:IR→IR
 | .seq _ (.seq _ r)=>r
 | x=>x
theorem dT (a b r:IR):XD (.seq a (.seq b r))=r:=(rfl)
theorem eG (C:Ctx) (O:Orc) (P:FuncId→List V→Option V) (k:Nat) (s:St) (q:Out→St→Option Ans) (Q:V→Hp→Nat→Prop):Fin (FK C O P k Lq 0 s q) Q=Fin (evC C O P k (XD Lq) s q) Q:=(rfl)
theorem VN (thr:Nat) (live:List Nat) (f:Nat→St→(Out→St→Option Ans)→Option Ans) (q:Out→St→Option Ans) (k:Nat) (s:St) (Q:V→Hp→Nat→Prop):Fin (EL thr live (Qz Lq) f q (k+1) 0 s) Q =
  GN thr live s (fun s=>f 0 s (KS (fun l s=>EL thr live (Qz Lq) f q k l (Fv live s)) q)) Q ⟨⟩:=(rfl)
theorem nA (C:Ctx) (O:Orc) (P:FuncId→List V→Option V) (k:Nat) (live:List Nat) (b:IR) (s:St) (q:Out→St→Option Ans) (Q:V→Hp→Nat→Prop):Fin (evC C O P k (.scope live b) s q) Q =
  Fin (evC C O P k b s (KS (fun l s'=>EL s.n live (Qz b) (fun l s q=>FK C O P k b l s q) q k l (Fv live s')) q)) Q:=(rfl)
abbrev hF0 (m:Ac):Hp:=hF m (m.words.a0.map eW) (m.words.a1.map eW) (m.words.a2.map eW) (m.words.a3.map eW)
abbrev hF4 (c:Int) (m:Ac):Hp:=hF m ((m.words.a0.map (Aw c)).map eW) ((m.words.a1.map (Aw c)).map eW) ((m.words.a2.map (Aw c)).map eW) ((m.words.a3.map (Aw c)).map eW)
theorem a0h (i:Nat) (m:Ac) (hm:SmM m) (id c:Int) (hc:IntKind.wrap .i64 (id+1)=c):Lv ctx (i+1) 208 [.ptr 7 0 0,iV id] (hF0 m) 8=some (.tup [],hF4 c m,8):=by
 refine Pv rfl (m.words.a0.length+m.words.a1.length+m.words.a2.length+m.words.a3.length+5) ?_
 have h0:=fun q Q=>Zm i (m.words.a0.length+m.words.a1.length+m.words.a2.length+m.words.a3.length+5) m hm id c hc q Q m.words.a0 [] (m.words.a0.length+m.words.a1.length+m.words.a2.length+m.words.a3.length+4) rfl (by omega)
 have h1:=fun q Q=>Zl i (m.words.a0.length+m.words.a1.length+m.words.a2.length+m.words.a3.length+5) m hm id c hc q Q m.words.a1 [] (m.words.a0.length+m.words.a1.length+m.words.a2.length+m.words.a3.length+4) rfl (by omega)
 have h2:=fun q Q=>Zk i (m.words.a0.length+m.words.a1.length+m.words.a2.length+m.words.a3.length+5) m hm id c hc q Q m.words.a2 [] (m.words.a0.length+m.words.a1.length+m.words.a2.length+m.words.a3.length+4) rfl (by omega)
 have h3:=fun q Q=>Zj i (m.words.a0.length+m.words.a1.length+m.words.a2.length+m.words.a3.length+5) m hm id c hc q Q m.words.a3 [] (m.words.a0.length+m.words.a1.length+m.words.a2.length+m.words.a3.length+4) rfl (by omega)
 simp only [List.map_nil,List.nil_append,List.length_nil,RE] at h0 h1 h2 h3
 delta c208
 simp +contextual -dsimp -implicitDefEqProofs (maxSteps:=5000000) only [↓nA,↓VN,↓eG,dT,↓Ai (Lq.eq_1),↓Ai (congrArg XD Lq.eq_1),gLs,↓h0,↓h1,↓h2,↓h3,h0,h1,h2,h3,go_sem,simprocAttr]
end Ve
