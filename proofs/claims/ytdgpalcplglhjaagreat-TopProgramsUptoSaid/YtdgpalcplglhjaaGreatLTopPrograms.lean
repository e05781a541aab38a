/- The statement TopPrograms. -/
import Derived.Test.YtdgpalcplglhjaaGreatVeXA
import Derived.Test.YtdgpalcplglhjaaGreatVeXD
import Derived.Test.YtdgpalcplglhjaaGreatVeSA
import Derived.Test.YtdgpalcplglhjaaGreatS62
import Derived.Test.YtdgpalcplglhjaaGreatVeXB
set_option linter.all false
set_option linter.unusedSectionVars false
namespace Ve
open Go Ve.Ab
set_option maxHeartbeats 16000000
set_option maxRecDepth 20000
theorem wK {n:Int} (h0:0≤n) (h:n≤1048576):IntKind.wrap .u64 n=n:=by
 have e1:(2 ^ IntKind.bits .u64:Int)=18446744073709551616:=by decide
 have e2:IntKind.signed .u64=false:=rfl
 simp only [IntKind.wrap,e1,e2,Bool.false_and,Bool.false_eq_true,if_false]
 omega
theorem cK {s:AQ} (h:Cf s=true):s.starts.all DV=true:=by
 cases hb:s.starts.all DV
 ·have h2:=Mb (s:=s) (.inr (.inl hb))
  simp only [Cf,h2] at h
  simp at h
 ·rfl
theorem XM {α β:Type} (f:α→β) (l:List α) (j:Nat) (x:α) (h:l[j]?=some x):(l.map f).set j (f x)=l.map f:=by
 apply List.ext_getElem?
 intro k
 by_cases e:j=k
 ·subst e
  have hl:j<l.length:=by
   rcases Nat.lt_or_ge j l.length with h' | h'
   ·exact h'
   ·rw [List.getElem?_eq_none h'] at h;cases h
  rw [List.getElem?_set_self (by simpa using hl),List.getElem?_map,h];rfl
 ·rw [List.getElem?_set_ne e]
theorem u_TopPrograms (i:Nat) (s:AQ) (hs:JW s) (a:Int) (haw:Aa (Lv ctx (i+30)) 11 []=some (bV true)):Aa (Lv ctx (i+31)) 4 [eSc true s,iV a]=some (bV true):=by
 have q1:=ZM (i+1) true s hs
 simp only [Nat.add_assoc,Nat.reduceAdd] at q1
 rcases rA (s:=s) with ⟨h0,hsm⟩ | ⟨h0,hsm⟩
 ·rw [h0] at q1
  by_cases hz:s.starts.length=0
  ·have hz':decide ((s.starts.length:Int)=0)=true:=by simpa using hz
   generalize (Ho s).1=M at q1
   refine Ac rfl 0 (by rfl) ?_
   delta c4
   simp +contextual -dsimp -implicitDefEqProofs (maxSteps:=5000000) only [haw,q1,hz',go_sem,simprocAttr]
  ·have hz':decide ((s.starts.length:Int)=0)=false:=by simpa using hz
   have hb:=hs.bst
   have hwl:=wK (n:=(s.starts.length:Int)) (by omega) (by omega)
   have hR:=rF (pT a) (b:=(s.starts.length:Int)) (by omega)
   obtain ⟨R,hRe,hr0,hr1⟩:∃ R:Int,(IntKind.wrap .u64 a).tmod (s.starts.length:Int)=R∧0≤R∧R<s.starts.length:=⟨_,rfl,hR.1,by have:=hR.2;simp only [uW] at this ⊢;omega⟩
   obtain ⟨j,rfl⟩:=Int.eq_ofNat_of_zero_le hr0
   have hjl:j<s.starts.length:=by omega
   have hwj:IntKind.wrap .i64 (j:Int)=(j:Int):=EH (by omega) (by omega)
   have hrem:∀ t x,BJ lay .rem t (.lit (.int .u64 x)) (.lit (.int .u64 (s.starts.length:Int)))=some (.lit (.int .u64 (x.tmod (s.starts.length:Int)))):=fun t x=>Mi (by omega)
   have hst:s.starts[j]?=some (s.starts[j]'hjl):=List.getElem?_eq_getElem hjl
   have hmem:s.starts[j]'hjl∈s.starts:=List.getElem_mem hjl
   generalize s.starts[j]'hjl=st at hst hmem
   have hok:DV st=true:=List.all_eq_true.1 (cK hsm) st hmem
   have hok':Cm st.id st.label st.clear st.prog=true:=hok
   have hpm:Dn st.prog=true:=by
    simp only [Cm,Bool.and_eq_true] at hok';exact hok'.2
   have hpl:=hs.p st hmem
   have l1:((j:Int)<s.starts.length)=True:=by simpa using hjl
   have l2:(0≤(j:Int))=True:=by simp
   have q0:=Zw (i+29) true s hs
   have q2:=Oj (i+25) true st.prog hpm
   have q3:=XR (i+24) st.prog hpm
   have q4:=ZM (i+1) false s hs
   have q5:=PI (i+25) false false st.id st.label st.clear st.prog (by simp only [BB];omega)
   have q6:=fun p q=>Hi (i+(30 - 3)) p q (Ho s).1 (Ho s).1 (qG hs)
   have hset:∀ d x,Aw (AI (d+2)) ((s.starts.map oSt).set j x)=(AI (d+2) x).bind fun y=>.ret ((s.starts.map (eSt false)).set j y):=by
    intro d x
    have e:(s.starts.map (eSt false))=(s.starts.map oSt).map (fun v=>(v.cells.take 3++[.isl false false 4 (match v.cells.getD 3 .dead with | .own _ els=>els | _=>[])]) |> V.agg):=by
     rw [List.map_map]
     refine List.map_congr_left fun a _=>?_
     simp [oSt,eSt,V.cells]
    rw [e]
    refine RH _ _ x _ j (fun y hy=>?_) (by simpa using hjl)
    obtain ⟨b,_,rfl⟩:=List.mem_map.1 hy
    simp only [oSt,KT,Ch,Dg,JG,PS,Bh,Pg]
    simp [V.cells]
   have hback:=XM (eSt false) s.starts j st hst
   have hget:∀ x,((s.starts.map oSt).set j x)[j]?=some x:=fun x=>List.getElem?_set_self (by simpa using hjl)
   rw [hok'] at q5
   rw [h0] at q4
   simp only [Nat.add_assoc,Nat.reduceAdd,Nat.reduceSub,decide_true] at q0 q2 q3 q4 q5 q6
   simp only [eSc,cSc,eNs,uP,nC] at q4
   simp only [eSt,eIs] at hback
   generalize (Ho s).1=M at q1 q4 q6
   clear hR hr0 hr1 hpm hok' hok hsm h0 hmem
   refine Ac rfl 0 (by rfl) ?_
   delta c4
   simp +contextual -dsimp -implicitDefEqProofs (maxSteps:=5000000) only [haw,q1,hz',q0,CF,hwl,hrem,hRe,hwj,l1,l2,hst,q2,q3,hset,hback,hget,q4,q5,q6,List.length_set,List.length_map,go_sem,simprocAttr]
 ·rw [h0] at q1
  have qz:=fun p q=>Hi (i+(30 - 3)) p q AN AN Gi
  simp only [AN,eM,cM,eWs,eSs,eEs,List.map_nil,decide_true,Nat.add_assoc,Nat.reduceAdd,Nat.reduceSub] at qz
  simp only [AH] at q1
  refine Ac rfl 0 (by rfl) ?_
  delta c4
  simp +contextual -dsimp -implicitDefEqProofs (maxSteps:=5000000) only [haw,q1,qz,go_sem,simprocAttr]
end Ve
