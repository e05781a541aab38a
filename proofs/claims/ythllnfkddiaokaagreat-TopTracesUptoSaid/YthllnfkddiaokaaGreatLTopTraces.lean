/- The statement TopTraces. -/
import Derived.Test.YthllnfkddiaokaaGreatVeSF
import Derived.Test.YthllnfkddiaokaaGreatVeSC
import Derived.Test.YthllnfkddiaokaaGreatVeSD
import Derived.Test.YthllnfkddiaokaaGreatVeP
import Derived.Test.YthllnfkddiaokaaGreatPL29
set_option linter.all false
set_option linter.unusedSectionVars false
namespace Ve
open Go Ve.Ab
set_option maxHeartbeats 16000000
set_option maxRecDepth 20000
theorem iN (i:Nat) (l:Int):Aa (Lv ctx (i+2)) 135 [iV l]=some (bV (!inR l 3)):=by
 refine Af rfl 0 (by rfl) ?_
 delta c135
 simp +contextual -dsimp -implicitDefEqProofs (maxSteps:=5000000) only [go_sem,simprocAttr]
theorem bN (i:Nat) (pf:Bool) (xs:List Int) (hx:xs.length≤BB) (h:∀ a∈xs,inR a 3=true):Aa (Lv ctx (i+5)) 68 [.isl pf false 1 (xs.map iV)]=some (bV false):=by
 have q:=rK (i+(4 - 2)) pf false xs (fun l=>!inR l 3) 135 [] (fun _ _ _ _ _ _=>rfl) (fun _=>rfl) (by simp [AU]) rfl (fun a _=>iN (i+(4 - 2 - 2)) a) hx
 have e:xs.any (fun l=>!inR l 3)=false:=by
  rw [List.any_eq_false];intro a ha;simp [h a ha]
 rw [e] at q
 simp only [Nat.add_assoc,Nat.reduceAdd,Nat.reduceSub] at q
 refine Af rfl 0 (by rfl) ?_
 delta c68
 simp +contextual -dsimp -implicitDefEqProofs (maxSteps:=5000000) only [q,go_sem,simprocAttr]
theorem rJ (i:Nat) (pf:Bool) (xs:List Int) (hx:xs.length≤BB) (h:∀ a∈xs,inR a 3=true) (hp:xs.Pairwise fun a b=>Ao a b=true):Aa (Lv ctx (i+6)) 29 [.isl pf false 1 (xs.map iV)]=some (.tup [bV true,iV 0]):=by
 have q:=bN (i+0) pf xs hx h
 simp only [Nat.add_assoc,Nat.reduceAdd] at q
 refine Af rfl (xs.length+1) (by rfl) ?_
 delta c29
 simp +contextual -dsimp -implicitDefEqProofs (maxSteps:=5000000) only [q,go_sem,simprocAttr]
 refine Kx (S:=fun j=>⟨Ad [0,8,9] [.isl pf false 1 (xs.map iV),iV xs.length,iV j],Ag,0⟩) xs.length rfl (by omega) ?_ ?_
 ·intro j kk hj hgl
  obtain ⟨b,hb⟩:∃ b,xs[j]?=some b:=⟨_,List.getElem?_eq_getElem hj⟩
  have l1:((j:Int)<(xs.length:Int))=True:=by simpa using hj
  have l2:(0≤(j:Int))=True:=by simp
  have l3:=wrN j (by simp only [BB] at hx ⊢;omega)
  cases j with
  | zero =>
   simp only [Int.natCast_zero,Nat.zero_add,Int.natCast_one] at l1 l3 hgl ⊢
   simp +contextual -dsimp -implicitDefEqProofs (maxSteps:=5000000) only [l1,l3,hb,↓Ai (aK.eq_1),go_sem,simprocAttr]
   exact Cc hgl (by rfl)
  | succ j =>
   obtain ⟨a,ha⟩:∃ a,xs[j]?=some a:=⟨_,List.getElem?_eq_getElem (by omega)⟩
   have hu:Ao a b=true:=by
    have:=List.pairwise_iff_getElem.1 hp j (j+1) (by omega) hj (by omega)
    rw [List.getElem?_eq_getElem (by omega)] at ha hb
    cases ha;cases hb;exact this
   have l4:IntKind.wrap .i64 (((j+1:Nat):Int) - 1)=(j:Int):=by rw [Bp (by omega) (by simp only [BB] at hx;omega)];omega
   have l5:((j:Int)<(xs.length:Int))=True:=by simp;omega
   have l6:(0≤(j:Int))=True:=by simp
   have l7:decide ((0:Int)<((j+1:Nat):Int))=true:=by apply decide_eq_true;omega
   simp +contextual -dsimp -implicitDefEqProofs (maxSteps:=5000000) only [l1,l2,l3,l4,l5,l6,l7,ha,hb,hu,↓Ai (aK.eq_1),go_sem,simprocAttr]
   exact Cc hgl (by rfl)
 ·intro kk
  have l0:decide ((xs.length:Int)<(xs.length:Int))=false:=by simp
  simp +contextual -dsimp -implicitDefEqProofs (maxSteps:=5000000) only [l0,↓Ai (aK.eq_1),go_sem,simprocAttr]
def enN (acc:List AI):Int:=if acc.any (fun e=>decide (e.kind=6))=true then 1 else 0
theorem nL {acc:List AI} (h:∀ e∈acc,e.kind≠6):enN acc=0:=by
 unfold enN
 have:acc.any (fun e=>decide (e.kind=6))=false:=by rw [List.any_eq_false];intro e he;simp [h e he]
 rw [this];rfl
theorem XP (acc:List AI) (e:AI) (h:enN acc=0):enN (acc++[e])=if e.kind=6 then 1 else 0:=by
 unfold enN at h ⊢
 have ha:acc.any (fun e=>decide (e.kind=6))=false:=by
  cases hc:acc.any (fun e=>decide (e.kind=6))
  ·rfl
  ·rw [hc] at h;simp at h
 simp [ha]
theorem aZ {x:Ae} {acc rest:List AI} {e:AI} (hT:Wy x (acc++e::rest)):∀ y∈acc,y.kind≠6:=by
 intro y hy
 by_cases h6:x.step=6
 ·obtain ⟨P,e',h1,h2,h3,h4⟩:=hT.dead h6
  refine h4 y ?_
  have:acc++e::rest=(acc++(e::rest).dropLast)++[(e::rest).getLast (by simp)]:=by
   rw [List.append_assoc,List.dropLast_concat_getLast]
  rw [this] at h1
  have:=(List.append_inj' h1 rfl).1
  rw [← this];simp [hy]
 ·exact hT.live h6 y (by simp [hy])
theorem Uy {x:Ae} {acc rest:List AI} {e:AI} (hT:Wy x (acc++e::rest)) (h:e.kind=6):e.val=x.result:=by
 by_cases h6:x.step=6
 ·obtain ⟨P,e',h1,h2,h3,h4⟩:=hT.dead h6
  cases rest with
  | nil =>
   have:=(List.append_inj' h1 rfl).2
   cases this;exact h3
  | cons r rs =>
   exfalso
   have:acc++e::r::rs=(acc++e::(r::rs).dropLast)++[(r::rs).getLast (by simp)]:=by
    rw [List.append_assoc,List.cons_append,List.dropLast_concat_getLast]
   rw [this] at h1
   have:=(List.append_inj' h1 rfl).1
   exact h4 e (by rw [← this];simp) h
 ·exact absurd h (hT.live h6 e (by simp))
theorem gS {x:Ae} {F:List AI} (hT:Wy x F):(decide (enN F=1))=decide (x.step=6):=by
 by_cases h6:x.step=6
 ·obtain ⟨P,e',h1,h2,h3,h4⟩:=hT.dead h6
  have:enN F=1:=by rw [h1,XP _ _ (nL h4),if_pos h2]
  simp [this,h6]
 ·have:=nL (hT.live h6)
  simp [this,h6]
theorem aG (acc:List AI) (e:AI):EU (acc++[e])=EU acc+if Dd e=true then 1 else 0:=by
 rw [Wb]
 have:EU [e]=if Dd e=true then 1 else 0:=by
  unfold EU;split<;>simp [EU]
 rw [this]
abbrev hB1 (m:Ac):Hp:=pO Ag 0 (some ⟨11,[.agg (cM true m)],false⟩)
abbrev hB2 (m:Ac) (x:Ae):Hp:=pO (hB1 m) 1 (some ⟨17,[eS true x],false⟩)
abbrev hB3 (m:Ac) (x:Ae) (acc:List AI):Hp:=pO (hB2 m x) 2 (some ⟨1,(acc.map (·.label)).map iV,false⟩)
theorem mE (i k:Nat) (m:Ac) (x:Ae) (kx:Int) (htl:m.trace.length≤512) (hT:Wy x (m.trace.filter fun e=>decide (e.id=x.id))) (q:Out→St→Option Ans) (Q:V→Hp→Nat→Prop)
  (u:Dum (fun s q=>evC ctx (Lv ctx (i+30)) (Aa (Lv ctx (i+30))) k JU s (As [3,5,6,7,8,9,10] q))) (w:Dum q)
  (hend:Fin (q (.exit 2) ⟨Ad [3,5,6,7,8,9] [.ptr 0 0 0,iV kx,.ptr 1 0 0,.sl 2,iV (enN (m.trace.filter fun e=>decide (e.id=x.id))),iV (EU (m.trace.filter fun e=>decide (e.id=x.id)))],hB3 m x (m.trace.filter fun e=>decide (e.id=x.id)),3⟩) Q):∀ (suf pre:List AI) (kk:Nat) (acc:List AI),m.trace=pre++suf→suf.length<kk→acc=(pre.filter fun e=>decide (e.id=x.id)) →
  GL 2 [3,5,6,7,8,9,10] (fun s q=>evC ctx (Lv ctx (i+30)) (Aa (Lv ctx (i+30))) k JU s (As [3,5,6,7,8,9,10] q)) q kk ⟨Ad [3,5,6,7,8,9,10] [.ptr 0 0 0,iV kx,.ptr 1 0 0,.sl 2,iV (enN acc),iV (EU acc),iV pre.length],hB3 m x acc,3⟩ Q u w
 | [],pre,kk,acc,hxs,hk,hacc=>by
  obtain ⟨kk,rfl⟩:∃ m,kk=m+1:=⟨kk - 1,by simp at hk;omega⟩
  have h1:decide ((pre.length:Int)<m.trace.length)=false:=by simp [hxs]
  have e:(m.trace.filter fun e=>decide (e.id=x.id))=acc:=by rw [hxs,List.append_nil,hacc]
  rw [e] at hend
  generalize enN acc=EN at hend ⊢
  generalize EU acc=CN at hend ⊢
  simp +contextual -dsimp -implicitDefEqProofs (maxSteps:=5000000) only [gLs,↓Ai (JU.eq_1),h1,eS,go_sem,simprocAttr]
  simp only [hB3,hB2,eS] at hend
  exact hend
 | e::suf,pre,kk,acc,hxs,hk,hacc=>by
  obtain ⟨kk,rfl⟩:∃ m,kk=m+1:=⟨kk - 1,by simp at hk;omega⟩
  have hl:pre.length<m.trace.length:=by simp [hxs]
  have h2:((pre.length:Int)<m.trace.length)=True:=by simpa using hl
  have h3:(0≤(pre.length:Int))=True:=by simp
  have h4:=wrN pre.length (by simp only [BB];omega)
  have hg:m.trace[pre.length]?=some e:=by simp [hxs]
  have hal:acc.length≤pre.length:=by rw [hacc];exact List.length_filter_le _ _
  have h5:(((acc.length+1:Nat):Int)*8≤140737488355328)=True:=by rw [eq_iff_iff,iff_true];omega
  have h5':((((acc.map (·.label)).length+1:Nat):Int)*8≤140737488355328)=True:=by rw [List.length_map];exact h5
  cases c0:decide (e.id=x.id)
  ·have ih:=mE i k m x kx htl hT q Q u w hend suf (pre++[e]) kk acc (by simp [hxs]) (by simpa using hk) (by rw [hacc];simp [c0])
   simp only [Ah] at ih
   generalize enN acc=EN at ih ⊢
   generalize EU acc=CN at ih ⊢
   simp +contextual -dsimp -implicitDefEqProofs (maxSteps:=5000000) only [gLs,↓Ai (JU.eq_1),h2,h3,h4,hg,c0,eS,eE,go_sem,simprocAttr]
   simp only [hB3,hB2,eS,List.map_append,List.map_cons,List.map_nil] at ih
   exact (Av (by rfl)).mpr ih
  ·have hF:(m.trace.filter fun e=>decide (e.id=x.id))=acc++e::(suf.filter fun e=>decide (e.id=x.id)):=by
    rw [hxs,List.filter_append,← hacc,List.filter_cons,if_pos c0]
   have hT':=hT
   rw [hF] at hT'
   have hz:enN acc=0:=nL (aZ hT')
   have hc0:=aH acc
   have h6:=Bp (a:=EU acc+1) (by omega) (by omega)
   have hv:=hT'.vals acc e _ rfl
   have hen:=XP acc e hz
   have hcn:=aG acc e
   have ih:=mE i k m x kx htl hT q Q u w hend suf (pre++[e]) kk (acc++[e]) (by simp [hxs]) (by simpa using hk) (by rw [hacc];simp [c0])
   simp only [Ah,List.map_append,List.map_cons,List.map_nil] at ih
   rw [hen,hcn] at ih
   rw [hz]
   generalize EU acc=CN at *
   by_cases k6:e.kind=6
   ·have d6:decide (e.kind=6)=true:=decide_eq_true k6
    have d3:decide (e.kind=3)=false:=by rw [k6];rfl
    have d5:decide (e.kind=5)=false:=by rw [k6];rfl
    have hr:decide (e.val=x.result)=true:=decide_eq_true (Uy hT' k6)
    have hnt:Dd e=false:=by simp [Dd,d3,d5]
    rw [if_pos k6,hnt,if_neg (by simp),Int.add_zero] at ih
    simp +contextual -dsimp -implicitDefEqProofs (maxSteps:=5000000) only [gLs,↓Ai (JU.eq_1),h2,h3,h4,h5,h5',hg,c0,d6,d3,d5,hr,eS,eE,go_sem,simprocAttr]
    simp only [hB3,hB2,eS,List.map_append,List.map_cons,List.map_nil] at ih
    exact (Av (by rfl)).mpr ih
   ·have d6:decide (e.kind=6)=false:=decide_eq_false k6
    rw [if_neg k6] at ih
    by_cases k3:e.kind=3
    ·have d3:decide (e.kind=3)=true:=decide_eq_true k3
     have ht:Dd e=true:=by simp [Dd,d3]
     have hr:decide (e.val=CN+1)=true:=decide_eq_true (hv ht)
     rw [if_pos ht] at ih
     simp +contextual -dsimp -implicitDefEqProofs (maxSteps:=5000000) only [gLs,↓Ai (JU.eq_1),h2,h3,h4,h5,h5',h6,hg,c0,d6,d3,hr,eS,eE,go_sem,simprocAttr]
     simp only [hB3,hB2,eS,List.map_append,List.map_cons,List.map_nil] at ih
     exact (Av (by rfl)).mpr ih
    ·have d3:decide (e.kind=3)=false:=decide_eq_false k3
     by_cases k5:e.kind=5
     ·have d5:decide (e.kind=5)=true:=decide_eq_true k5
      have ht:Dd e=true:=by simp [Dd,d5]
      have hr:decide (e.val=CN+1)=true:=decide_eq_true (hv ht)
      rw [if_pos ht] at ih
      simp +contextual -dsimp -implicitDefEqProofs (maxSteps:=5000000) only [gLs,↓Ai (JU.eq_1),h2,h3,h4,h5,h5',h6,hg,c0,d6,d3,d5,hr,eS,eE,go_sem,simprocAttr]
      simp only [hB3,hB2,eS,List.map_append,List.map_cons,List.map_nil] at ih
      exact (Av (by rfl)).mpr ih
     ·have d5:decide (e.kind=5)=false:=decide_eq_false k5
      have ht:Dd e=false:=by simp [Dd,d3,d5]
      rw [ht,if_neg (by simp),Int.add_zero] at ih
      simp +contextual -dsimp -implicitDefEqProofs (maxSteps:=5000000) only [gLs,↓Ai (JU.eq_1),h2,h3,h4,h5,h5',hg,c0,d6,d3,d5,eS,eE,go_sem,simprocAttr]
      simp only [hB3,hB2,eS,List.map_append,List.map_cons,List.map_nil] at ih
      exact (Av (by rfl)).mpr ih
theorem yI (i k:Nat) (m:Ac) (x:Ae) (kx:Int) (htl:m.trace.length≤512) (hT:Wy x (m.trace.filter fun e=>decide (e.id=x.id))) (q:Out→St→Option Ans) (Q:V→Hp→Nat→Prop)
  (u:Dum (fun s q=>evC ctx (Lv ctx (i+30)) (Aa (Lv ctx (i+30))) k JU s (As [3,5,6,7,8,9,10] q))) (w:Dum q)
  (hend:Fin (q (.exit 2) ⟨Ad [3,5,6,7,8,9] [.ptr 0 0 0,iV kx,.ptr 1 0 0,.sl 2,iV (enN (m.trace.filter fun e=>decide (e.id=x.id))),iV (EU (m.trace.filter fun e=>decide (e.id=x.id)))],hB3 m x (m.trace.filter fun e=>decide (e.id=x.id)),3⟩) Q)
  (hnil:(m.trace.filter fun e=>decide (e.id=x.id))=[]→Fin (q (.exit 2) ⟨Ad [3,5,6,7,8,9] [.ptr 0 0 0,iV kx,.ptr 1 0 0,.lit (.slice none 0 0),iV 0,iV 0],hB2 m x,2⟩) Q):∀ (suf pre:List AI) (kk:Nat),m.trace=pre++suf→suf.length<kk→(pre.filter fun e=>decide (e.id=x.id))=[] →
  GL 2 [3,5,6,7,8,9,10] (fun s q=>evC ctx (Lv ctx (i+30)) (Aa (Lv ctx (i+30))) k JU s (As [3,5,6,7,8,9,10] q)) q kk ⟨Ad [3,5,6,7,8,9,10] [.ptr 0 0 0,iV kx,.ptr 1 0 0,.lit (.slice none 0 0),iV 0,iV 0,iV pre.length],hB2 m x,2⟩ Q u w
 | [],pre,kk,hxs,hk,hacc=>by
  obtain ⟨kk,rfl⟩:∃ m,kk=m+1:=⟨kk - 1,by simp at hk;omega⟩
  have h1:decide ((pre.length:Int)<m.trace.length)=false:=by simp [hxs]
  have e:(m.trace.filter fun e=>decide (e.id=x.id))=[]:=by rw [hxs,List.append_nil,hacc]
  have hn:=hnil e
  simp +contextual -dsimp -implicitDefEqProofs (maxSteps:=5000000) only [gLs,↓Ai (JU.eq_1),h1,eS,go_sem,simprocAttr]
  simp only [hB2,eS] at hn
  exact hn
 | e::suf,pre,kk,hxs,hk,hacc=>by
  obtain ⟨kk,rfl⟩:∃ m,kk=m+1:=⟨kk - 1,by simp at hk;omega⟩
  have hl:pre.length<m.trace.length:=by simp [hxs]
  have h2:((pre.length:Int)<m.trace.length)=True:=by simpa using hl
  have h3:(0≤(pre.length:Int))=True:=by simp
  have h4:=wrN pre.length (by simp only [BB];omega)
  have hg:m.trace[pre.length]?=some e:=by simp [hxs]
  cases c0:decide (e.id=x.id)
  ·have ih:=yI i k m x kx htl hT q Q u w hend hnil suf (pre++[e]) kk (by simp [hxs]) (by simpa using hk) (by rw [List.filter_append,hacc];simp [c0])
   simp only [Ah] at ih
   simp +contextual -dsimp -implicitDefEqProofs (maxSteps:=5000000) only [gLs,↓Ai (JU.eq_1),h2,h3,h4,hg,c0,eS,eE,go_sem,simprocAttr]
   simp only [hB2,eS] at ih
   exact (Av (by rfl)).mpr ih
  ·have hF:(m.trace.filter fun e=>decide (e.id=x.id))=[]++e::(suf.filter fun e=>decide (e.id=x.id)):=by
    rw [hxs,List.filter_append,hacc,List.filter_cons,if_pos c0]
   have hT':=hT
   rw [hF] at hT'
   have hv:=hT'.vals [] e _ rfl
   have hen:=XP [] e rfl
   have hcn:=aG [] e
   simp only [List.nil_append] at hen hcn
   have ih:=mE i k m x kx htl hT q Q u w hend suf (pre++[e]) kk [e] (by simp [hxs]) (by simpa using hk) (by rw [List.filter_append,hacc];simp [c0])
   simp only [Ah,List.map_cons,List.map_nil] at ih
   rw [hen,hcn] at ih
   have z0:EU []=0:=rfl
   rw [z0] at ih hv
   by_cases k6:e.kind=6
   ·have d6:decide (e.kind=6)=true:=decide_eq_true k6
    have d3:decide (e.kind=3)=false:=by rw [k6];rfl
    have d5:decide (e.kind=5)=false:=by rw [k6];rfl
    have hr:decide (e.val=x.result)=true:=decide_eq_true (Uy hT' k6)
    have hnt:Dd e=false:=by simp [Dd,d3,d5]
    rw [if_pos k6,hnt,if_neg (by simp),Int.add_zero] at ih
    simp +contextual -dsimp -implicitDefEqProofs (maxSteps:=5000000) only [gLs,↓Ai (JU.eq_1),h2,h3,h4,hg,c0,d6,d3,d5,hr,eS,eE,List.replicate,go_sem,simprocAttr]
    simp only [hB3,hB2,eS,List.map_append,List.map_cons,List.map_nil] at ih
    exact (Av (by rfl)).mpr ih
   ·have d6:decide (e.kind=6)=false:=decide_eq_false k6
    rw [if_neg k6] at ih
    by_cases k3:e.kind=3
    ·have d3:decide (e.kind=3)=true:=decide_eq_true k3
     have ht:Dd e=true:=by simp [Dd,d3]
     have hr:decide (e.val=1)=true:=decide_eq_true (hv ht)
     rw [if_pos ht,Int.zero_add] at ih
     simp +contextual -dsimp -implicitDefEqProofs (maxSteps:=5000000) only [gLs,↓Ai (JU.eq_1),h2,h3,h4,hg,c0,d6,d3,hr,eS,eE,List.replicate,go_sem,simprocAttr]
     simp only [hB3,hB2,eS,List.map_append,List.map_cons,List.map_nil] at ih
     exact (Av (by rfl)).mpr ih
    ·have d3:decide (e.kind=3)=false:=decide_eq_false k3
     by_cases k5:e.kind=5
     ·have d5:decide (e.kind=5)=true:=decide_eq_true k5
      have ht:Dd e=true:=by simp [Dd,d5]
      have hr:decide (e.val=1)=true:=decide_eq_true (hv ht)
      rw [if_pos ht,Int.zero_add] at ih
      simp +contextual -dsimp -implicitDefEqProofs (maxSteps:=5000000) only [gLs,↓Ai (JU.eq_1),h2,h3,h4,hg,c0,d6,d3,d5,hr,eS,eE,List.replicate,go_sem,simprocAttr]
      simp only [hB3,hB2,eS,List.map_append,List.map_cons,List.map_nil] at ih
      exact (Av (by rfl)).mpr ih
     ·have d5:decide (e.kind=5)=false:=decide_eq_false k5
      have ht:Dd e=false:=by simp [Dd,d3,d5]
      rw [ht,if_neg (by simp),Int.add_zero] at ih
      simp +contextual -dsimp -implicitDefEqProofs (maxSteps:=5000000) only [gLs,↓Ai (JU.eq_1),h2,h3,h4,hg,c0,d6,d3,d5,eS,eE,List.replicate,go_sem,simprocAttr]
      simp only [hB3,hB2,eS,List.map_append,List.map_cons,List.map_nil] at ih
      exact (Av (by rfl)).mpr ih
theorem u_TopTraces (i:Nat) (s:Ap) (hs:Cj s) (haw:Aa (Lv ctx (i+30)) 15 []=some (bV true)):Aa (Lv ctx (i+31)) 8 [eSc true s]=some (bV true):=by
 have q1:=KL (i+1) true s hs
 have qz:=fun p q=>Bq (i+(30 - 3)) p q AA AA CQ
 simp only [Nat.add_assoc,Nat.reduceAdd,Nat.reduceSub,decide_true] at q1 qz
 rcases OP (s:=s) with ⟨h0,hsm⟩ | ⟨h0,hsm⟩
 ·obtain ⟨hn,hI0,hr,hI,htl⟩:=Ga hsm
  have hsl:s.slots.all AF=true:=by simp only [Az,Bool.and_eq_true] at hsm;exact hsm.2
  have hln:s.slots.length≤256:=by simp only [Az,Bool.and_eq_true,decide_eq_true_eq] at hsm;exact hsm.1.2
  have hmm:=((LS _).2 hI0.may)
  have hT:TrI (BN s).1:=by
   rw [hr]
   exact Yv _ _ (Ip hmm) hsl (by have:(AC s).trace.length=0:=rfl;omega) (qF hmm)
  have htl':(BN s).1.trace.length≤512:=by rw [hr];simp only;omega
  have hsl4:(BN s).1.sess.length≤4:=by rw [hr];exact hI.may.sl
  have hsmM:=DU hs
  rw [h0] at q1
  clear hr
  generalize (BN s).1=m at q1 hT htl' hsl4 hsmM
  have hb:∀ b:Bool,BJ lay .neq 4 (bV b) (bV b)=some (bV false):=by intro b;cases b<;>rfl
  refine Af rfl (m.sess.length+m.trace.length+2) (by rfl) ?_
  delta c8
  simp +contextual -dsimp -implicitDefEqProofs (maxSteps:=5000000) only [haw,q1,go_sem,simprocAttr]
  refine Kx (S:=fun j=>⟨Ad [3,5] [.ptr 0 0 0,iV j],hB1 m,1⟩) m.sess.length rfl (by omega) ?_ ?_
  ·intro j kk hj hgl
   obtain ⟨x,hx⟩:∃ x,m.sess[j]?=some x:=⟨_,List.getElem?_eq_getElem hj⟩
   have hTx:=hT.told x (List.mem_of_getElem? hx)
   have l1:((j:Int)<(m.sess.length:Int))=True:=by simpa using hj
   have l2:(0≤(j:Int))=True:=by simp
   have l3:=wrN j (by simp only [BB];omega)
   have htr:=hTx.tries
   have hfin:=gS hTx
   have hfl:(m.trace.filter fun e=>decide (e.id=x.id)).length≤512:=Nat.le_trans (List.length_filter_le _ _) htl'
   have qc:=fun pf=>rJ (i+24) pf ((m.trace.filter fun e=>decide (e.id=x.id)).map (·.label)++[x.label]) (by simp only [List.length_append,List.length_map,List.length_singleton,BB];omega) hTx.inl hTx.lab
   have key:=fun kf q Q u w he hn kk hk=>yI i kf m x (j:Int) htl' hTx q Q u w he hn m.trace [] kk rfl hk rfl
   simp only [List.length_nil,Int.natCast_zero,Nat.add_assoc,Nat.reduceAdd] at key qc
   simp +contextual -dsimp -implicitDefEqProofs (maxSteps:=5000000) only [l1,l2,hx,↓Ai (c8_2.eq_1),eS,go_sem,simprocAttr]
   refine key _ _ _ _ _ ?_ ?_ _ (by omega)
   ·generalize (m.trace.filter fun e=>decide (e.id=x.id))=F at qc htr hfin hfl ⊢
    have h5:((((F.map (·.label)).length+1:Nat):Int)*8≤140737488355328)=True:=by simp only [List.length_map,eq_iff_iff,iff_true];omega
    have h5':(((F.length+1:Nat):Int)*8≤140737488355328)=True:=by simp only [eq_iff_iff,iff_true];omega
    have c1:decide (EU F=x.tries)=true:=decide_eq_true htr.symm
    simp only [List.map_append,List.map_cons,List.map_nil] at qc
    generalize enN F=EN at hfin ⊢
    generalize EU F=CN at c1 ⊢
    cases c6:decide (x.step=6)
    all_goals
     rw [c6] at hfin
     simp +contextual -dsimp -implicitDefEqProofs (maxSteps:=5000000) only [l3,h5,h5',qc,c1,hfin,c6,hb,eS,List.replicate,Ja,go_sem,simprocAttr]
     exact Cc hgl (by rfl)
   ·intro hn
    rw [hn] at qc htr hfin
    have e0:enN []=0:=rfl
    have e1:EU []=0:=rfl
    rw [e0] at hfin
    rw [e1] at htr
    have c1:decide ((0:Int)=x.tries)=true:=decide_eq_true htr.symm
    have c6:decide (x.step=6)=false:=by rw [← hfin];rfl
    simp only [List.map_nil,List.nil_append,List.map_cons] at qc
    simp +contextual -dsimp -implicitDefEqProofs (maxSteps:=5000000) only [l3,qc,c1,c6,hb,eS,List.replicate,Ja,go_sem,simprocAttr]
    exact Cc hgl (by rfl)
  ·intro kk
   have l0:decide ((m.sess.length:Int)<(m.sess.length:Int))=false:=by simp
   simp +contextual -dsimp -implicitDefEqProofs (maxSteps:=5000000) only [l0,↓Ai (c8_2.eq_1),go_sem,simprocAttr]
 ·rw [h0] at q1
  simp only [AA,eM,cM,eWs,eSs,eEs,List.map_nil] at qz
  simp only [Bh] at q1
  refine Af rfl 0 (by rfl) ?_
  delta c8
  simp +contextual -dsimp -implicitDefEqProofs (maxSteps:=5000000) only [haw,q1,qz,go_sem,simprocAttr]
end Ve
