/- The statement TopOn. -/
import Derived.Test.YthllnfkddiaokaaGreatVeSE
import Derived.Test.YthllnfkddiaokaaGreatVeSF
import Derived.Test.YthllnfkddiaokaaGreatVeSD
import Derived.Test.YthllnfkddiaokaaGreatPL51
import Derived.Test.YthllnfkddiaokaaGreatVeP
set_option linter.all false
set_option linter.unusedSectionVars false
namespace Ve
open Go Ve.Ab
set_option maxHeartbeats 16000000
set_option maxRecDepth 20000
abbrev hT1 (m:Ac):Hp:=pO Ag 0 (some ⟨11,[.agg (cM true m)],false⟩)
theorem l_TO (i k:Nat) (m:Ac) (hm:SmM m) (at_:Nat) (s:Ae) (hs:m.sess[at_]?=some s) (hI:Do m) (hA:KX m s) (n:Nat) (hn:n≤BB) (q:Out→St→Option Ans) (Q:V→Hp→Nat→Prop)
  (u:Dum (fun s q=>evC ctx (Lv ctx (i+30)) (Aa (Lv ctx (i+30))) k oK s (As [5,7,8,9] q))) (w:Dum q) (kk:Nat) (hk:n<kk)
  (hend:Fin (q (.exit 0) ⟨Ad [5,7] [.ptr 0 0 0,iV at_],hT1 (Cr at_ n m),1⟩) Q) :
  GL 1 [5,7,8,9] (fun s q=>evC ctx (Lv ctx (i+30)) (Aa (Lv ctx (i+30))) k oK s (As [5,7,8,9] q)) q kk ⟨Ad [5,7,8,9] [.ptr 0 0 0,iV at_,iV n,iV 0],hT1 m,1⟩ Q u w:=by
 refine Kx (S:=fun j=>⟨Ad [5,7,8,9] [.ptr 0 0 0,iV at_,iV n,iV j],hT1 (Cr at_ j m),1⟩) n rfl hk ?_ ?_
 ·intro j kk hj hl
  obtain ⟨t,h1,_,_,h4⟩:=Ie hs hI hA j
  obtain ⟨t',g1,_,g3,g4⟩:=Ie hs hI hA (j+1)
  have q1:=Lc (i+3) true (Cr at_ j m) (UB j hm) at_
  rw [WO hs hI hA j] at q1
  simp only [Nat.add_assoc,Nat.reduceAdd] at q1
  have htr:=g3.tries
  have hlk:=Ax hs
  generalize Cr at_ (j+1) m=B at q1 g1 g4 hl
  generalize Cr at_ j m=A at q1 h1 h4 ⊢
  have l1:decide ((j:Int)<(n:Int))=true:=by simpa using hj
  have l2:decide ((B.sess.length:Int)=(A.sess.length:Int))=true:=by rw [g4,h4];simp
  have l3:=wrN j (by omega)
  have l4:((at_:Int)<(B.sess.length:Int))=True:=by rw [g4];simpa using hlk
  have l5:(0≤(at_:Int))=True:=by simp
  have l6:decide (t'.tries=0)=true:=decide_eq_true htr
  simp +contextual -dsimp -implicitDefEqProofs (maxSteps:=5000000) only [l1,l2,l3,l4,l5,l6,q1,g1,↓Ai (oK.eq_1),eS,go_sem,simprocAttr]
  exact Cc hl (by rfl)
 ·intro kk
  have l0:decide ((n:Int)<(n:Int))=false:=by simp
  generalize Cr at_ n m=A at hend ⊢
  simp +contextual -dsimp -implicitDefEqProofs (maxSteps:=5000000) only [l0,↓Ai (oK.eq_1),go_sem,simprocAttr]
  exact hend
theorem u_TopOn (i:Nat) (s:Ap) (hs:Cj s) (w:Int) (haw:Aa (Lv ctx (i+30)) 15 []=some (bV true)):Aa (Lv ctx (i+31)) 6 [eSc true s,iV w]=some (bV true):=by
 have q1:=MM (i+10) true s hs
 have qz:=fun p q=>Bq (i+(30 - 3)) p q AA AA CQ
 simp only [Nat.add_assoc,Nat.reduceAdd,Nat.reduceSub,decide_true] at q1 qz
 rcases Xn (s:=s) with ⟨h0,hM⟩ | h0
 ·rw [h0] at q1
  have hI2:=Ip hM
  have hsm:=Et hs
  have hal:=fun k x hx=>fS (s:=s) hM (k:=k) (x:=x) hx
  have hpr:=hI2.inv.may
  generalize AC s=m at q1 hI2 hsm hal hpr
  by_cases hz:m.sess.length=0
  ·have z0:decide ((m.sess.length:Int)=0)=true:=by rw [hz];rfl
   refine Af rfl 0 (by rfl) ?_
   delta c6
   simp +contextual -dsimp -implicitDefEqProofs (maxSteps:=5000000) only [haw,q1,z0,go_sem,simprocAttr]
  ·have z0:decide ((m.sess.length:Int)=0)=false:=by simpa using fun h:(m.sess.length:Int)=0=>hz (by omega)
   have hsl:=hpr.sl
   have hrem:=Xc (WM w) (b:=(m.sess.length:Int)) (by omega)
   have e64:IntKind.wrap .u64 (m.sess.length:Int)=(m.sess.length:Int):=by
    have e1:(2 ^ IntKind.bits .u64:Int)=18446744073709551616:=by decide
    simp only [IntKind.wrap,IntKind.signed,Bool.false_and,Bool.false_eq_true,if_false,e1]
    omega
   have hr:∀ t a,BJ lay .rem t (.lit (.int .u64 a)) (.lit (.int .u64 (m.sess.length:Int)))=some (.lit (.int .u64 (a.tmod (m.sess.length:Int)))):=fun t a=>Oq (by omega)
   have hru:=a4v w (b:=(m.sess.length:Int)) (by omega) (by omega)
   obtain ⟨k,hk⟩:∃ k:Nat,(uW w).tmod (m.sess.length:Int)=(k:Int):=⟨((uW w).tmod (m.sess.length:Int)).toNat,by omega⟩
   rw [hk] at hru
   have hkl:k<m.sess.length:=by omega
   obtain ⟨x,hx⟩:∃ x,m.sess[k]?=some x:=⟨_,List.getElem?_eq_getElem hkl⟩
   obtain ⟨hA,hrank⟩:=hal k x hx
   have hpl:x.prog.length≤BB:=(hsm.s x (List.mem_of_getElem? hx)).p
   have hp16:x.prog.length≤16:=by
    have:=(sp _ _).1 (hpr.sess x (List.mem_of_getElem? hx))
    have:=this.prog
    simp only [Dg,Bool.and_eq_true,decide_eq_true_eq] at this
    exact this.2
   obtain ⟨t,g1,_,_,g4⟩:=RW (k:=k) (4*x.prog.length+4) m x hx hI2 hA (by omega)
   have key:=fun kf q Q u w kk hk hend=>l_TO i kf m hsm k x hx hI2 hA (4*x.prog.length+4) (by simp only [BB];omega) q Q u w kk hk hend
   have m1:IntKind.wrap .i64 (2*(x.prog.length:Int))=2*(x.prog.length:Int):=Bp (by omega) (by omega)
   have m2:IntKind.wrap .i64 (2*(x.prog.length:Int)+2*(x.prog.length:Int))=2*(x.prog.length:Int)+2*(x.prog.length:Int):=Bp (by omega) (by omega)
   have m3:IntKind.wrap .i64 (2*(x.prog.length:Int)+2*(x.prog.length:Int)+4)=((4*x.prog.length+4:Nat):Int):=by rw [Bp (by omega) (by omega)];omega
   have l4:((k:Int)<(m.sess.length:Int))=True:=by simpa using hkl
   have l5:(0≤(k:Int))=True:=by simp
   have hsl2:=(Ie hx hI2 hA (4*x.prog.length+4)).choose_spec.2.2.2
   generalize Cr k (4*x.prog.length+4) m=B at g1 key hsl2
   generalize (4*x.prog.length+4)=N at m3 key
   have l6:((k:Int)<(B.sess.length:Int))=True:=by rw [hsl2];simpa using hkl
   have hw:IntKind.wrap .u64 w=uW w:=rfl
   have hwk:IntKind.wrap .i64 (k:Int)=(k:Int):=Bp (by omega) (by omega)
   refine Af rfl (N+1) (by rfl) ?_
   delta c6
   simp +contextual -dsimp -implicitDefEqProofs (maxSteps:=5000000) only [haw,q1,z0,e64,hr,hru,hk,hw,hwk,l4,l5,hx,m1,m2,m3,eS,go_sem,simprocAttr]
   refine key _ _ _ _ _ _ (by omega) ?_
   rcases g4 with g4 | g4
   ·have c6:decide (t.step=6)=false:=by rw [g4];rfl
    have c5:decide (t.step=5)=true:=by rw [g4];rfl
    simp +contextual -dsimp -implicitDefEqProofs (maxSteps:=5000000) only [l5,l6,g1,c5,c6,eS,go_sem,simprocAttr]
   ·have c6:decide (t.step=6)=true:=by rw [g4];rfl
    simp +contextual -dsimp -implicitDefEqProofs (maxSteps:=5000000) only [l5,l6,g1,c6,eS,go_sem,simprocAttr]
 ·rw [h0] at q1
  simp only [AA,eM,cM,eWs,eSs,eEs,List.map_nil] at qz
  simp only [Bh] at q1
  refine Af rfl 0 (by rfl) ?_
  delta c6
  simp +contextual -dsimp -implicitDefEqProofs (maxSteps:=5000000) only [haw,q1,qz,go_sem,simprocAttr]
end Ve
