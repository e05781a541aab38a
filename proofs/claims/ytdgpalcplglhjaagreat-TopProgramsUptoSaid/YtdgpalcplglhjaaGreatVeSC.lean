/- The reference's words, clocks, registers. -/
import Derived.Test.YtdgpalcplglhjaaGreatVeSB
import Derived.Test.YtdgpalcplglhjaaGreatVeP
import Derived.Test.YtdgpalcplglhjaaGreatVeSA
set_option linter.all false
set_option linter.unusedSectionVars false
namespace Ve
open Go Ve.Ab
set_option maxHeartbeats 16000000
set_option maxRecDepth 10000
theorem AH:oM AN=.agg [.own 3 [],.own 3 [],.own 3 [],.own 3 [],iV 0,iV 0,iV 0,iV 0,iV 0,.own 17 [],.own 4 []]:=rfl
theorem nn2 (a b:Bool):(!a||!b)=!(a&&b):=by cases a<;>cases b<;>rfl
theorem nn3 (a b c:Bool):(!a||!b||!c)=!(a&&b&&c):=by cases a<;>cases b<;>cases c<;>rfl
theorem Ex {x c:Int} (h:inR x c=true) (hc:c≤65535):IntKind.wrap .i64 (x+1)=x+1:=by
 rw [AR] at h
 exact Bt (by omega) (by omega)
theorem rL (i:Nat) (a b c id:Int):Aa (Lv ctx (i+4)) 70 [.agg [iV a,iV b,iV c],iV id]=some (.tup [eW (EK ⟨a,b,c⟩ id).1,iV (EK ⟨a,b,c⟩ id).2]):=by
 cases h1:(AK ⟨a,b,c⟩&&inR id 254)
 ·have e:EK ⟨a,b,c⟩ id=(El,300):=by simp only [EK,h1];rfl
  rw [e]
  refine Ac rfl 0 (by rfl) ?_
  delta c70
  simp +contextual -dsimp -implicitDefEqProofs (maxSteps:=5000000) only [nn2,h1,El,go_sem,simprocAttr]
 ·have hw:=Ex (c:=254) (x:=id) (by simp only [Bool.and_eq_true] at h1;exact h1.2) (by omega)
  by_cases hc:c=0
  ·have e:EK ⟨a,b,c⟩ id=(⟨a,b,id+1⟩,0):=by subst hc;simp only [EK,h1,if_true]
   rw [e]
   have h2:decide (c=0)=true:=by simpa using hc
   refine Ac rfl 0 (by rfl) ?_
   delta c70
   simp +contextual -dsimp -implicitDefEqProofs (maxSteps:=5000000) only [nn2,h1,h2,hw,go_sem,simprocAttr]
  ·have e:EK ⟨a,b,c⟩ id=(El,301):=by simp only [EK,h1,if_true,hc,if_false]
   rw [e]
   have h2:decide (c=0)=false:=by simpa using hc
   refine Ac rfl 0 (by rfl) ?_
   delta c70
   simp +contextual -dsimp -implicitDefEqProofs (maxSteps:=5000000) only [nn2,h1,h2,El,go_sem,simprocAttr]
theorem jL (i:Nat) (a b c v k:Int):Aa (Lv ctx (i+4)) 74 [.agg [iV a,iV b,iV c],iV v,iV k]=some (.tup [eW (EO ⟨a,b,c⟩ v k).1,iV (EO ⟨a,b,c⟩ v k).2]):=by
 cases h1:(AK ⟨a,b,c⟩&&AK ⟨v,k,0⟩)
 ·have e:EO ⟨a,b,c⟩ v k=(El,300):=by simp only [EO,h1];rfl
  rw [e]
  refine Ac rfl 0 (by rfl) ?_
  delta c74
  simp +contextual -dsimp -implicitDefEqProofs (maxSteps:=5000000) only [nn2,h1,El,go_sem,simprocAttr]
 ·have e:EO ⟨a,b,c⟩ v k=(⟨v,k,0⟩,0):=by simp only [EO,h1,if_true]
  rw [e]
  refine Ac rfl 0 (by rfl) ?_
  delta c74
  simp +contextual -dsimp -implicitDefEqProofs (maxSteps:=5000000) only [nn2,h1,go_sem,simprocAttr]
abbrev e4 (a:A4 Int):V:=.agg [iV a.a0,iV a.a1,iV a.a2,iV a.a3]
theorem rK (i:Nat) (a b c d l k:Int):Aa (Lv ctx (i+3)) 72 [.agg [iV a,iV b,iV c,iV d],iV l,iV k] =
  some (.tup [e4 (Cq ⟨a,b,c,d⟩ l k).1,iV (Cq ⟨a,b,c,d⟩ l k).2.1,iV (Cq ⟨a,b,c,d⟩ l k).2.2]):=by
 have hp:(inR l 3&&inR k 65535&&inR a 65535&&inR b 65535&&inR c 65535&&inR d 65535)=((⟨a,b,c,d⟩:A4 Int).all (fun x=>inR x 65535)&&inR k 65535&&inR l 3):=by
  simp only [A4.all]
  cases inR l 3<;>cases inR k 65535<;>cases inR a 65535<;>cases inR b 65535<;>cases inR c 65535<;>cases inR d 65535<;>rfl
 cases h1:(inR l 3&&inR k 65535&&inR a 65535&&inR b 65535&&inR c 65535&&inR d 65535)
 ·have e:Cq ⟨a,b,c,d⟩ l k=(Dr,0,500):=by simp only [Cq,← hp,h1];rfl
  rw [e]
  refine Ac rfl 5 (by rfl) ?_
  delta c72
  simp +contextual -dsimp -implicitDefEqProofs (maxSteps:=5000000) only [gLs,↓Aj (Jy.eq_1),h1,Dr,go_sem,simprocAttr]
 ·have hh:=h1
  simp only [Bool.and_eq_true] at hh
  obtain ⟨⟨⟨⟨⟨hl,hk⟩,ha⟩,hb⟩,hc⟩,hd⟩:=hh
  have wa:=Ex ha (by omega)
  have wb:=Ex hb (by omega)
  have wc:=Ex hc (by omega)
  have wd:=Ex hd (by omega)
  rcases Bb l with rfl | hl'
  ·by_cases hf:k≤a
   ·have e:Cq ⟨a,b,c,d⟩ 0 k=(Dr,0,501):=by simp only [Cq,← hp,h1,if_true];exact if_pos hf
    rw [e]
    have h2:decide (k≤a)=true:=by simpa using hf
    refine Ac rfl 5 (by rfl) ?_
    delta c72
    simp +contextual -dsimp -implicitDefEqProofs (maxSteps:=5000000) only [gLs,↓Aj (Jy.eq_1),hl,hk,ha,hb,hc,hd,Bool.and_self,h2,Dr,go_sem,simprocAttr]
   ·have e:Cq ⟨a,b,c,d⟩ 0 k=((⟨a,b,c,d⟩:A4 Int).set 0 (a+1),a+1,0):=by simp only [Cq,← hp,h1,if_true];exact if_neg hf
    rw [e]
    have h2:decide (k≤a)=false:=by simpa using hf
    refine Ac rfl 5 (by rfl) ?_
    delta c72
    simp +contextual -dsimp -implicitDefEqProofs (maxSteps:=5000000) only [gLs,↓Aj (Jy.eq_1),hl,hk,ha,hb,hc,hd,Bool.and_self,h2,wa,wb,wc,wd,A4.set,go_sem,simprocAttr]
    rw [Mg (hd:=by rfl)]
    simp +contextual -dsimp -implicitDefEqProofs (maxSteps:=5000000) only [hl,hk,ha,hb,hc,hd,Bool.and_self,h2,wa,wb,wc,wd,A4.set,go_sem,simprocAttr]
  rcases hl' with rfl | hl'
  ·by_cases hf:k≤b
   ·have e:Cq ⟨a,b,c,d⟩ 1 k=(Dr,0,501):=by simp only [Cq,← hp,h1,if_true];exact if_pos hf
    rw [e]
    have h2:decide (k≤b)=true:=by simpa using hf
    refine Ac rfl 5 (by rfl) ?_
    delta c72
    simp +contextual -dsimp -implicitDefEqProofs (maxSteps:=5000000) only [gLs,↓Aj (Jy.eq_1),hl,hk,ha,hb,hc,hd,Bool.and_self,h2,Dr,go_sem,simprocAttr]
   ·have e:Cq ⟨a,b,c,d⟩ 1 k=((⟨a,b,c,d⟩:A4 Int).set 1 (b+1),b+1,0):=by simp only [Cq,← hp,h1,if_true];exact if_neg hf
    rw [e]
    have h2:decide (k≤b)=false:=by simpa using hf
    refine Ac rfl 5 (by rfl) ?_
    delta c72
    simp +contextual -dsimp -implicitDefEqProofs (maxSteps:=5000000) only [gLs,↓Aj (Jy.eq_1),hl,hk,ha,hb,hc,hd,Bool.and_self,h2,wa,wb,wc,wd,A4.set,go_sem,simprocAttr]
    rw [Mg (hd:=by rfl)]
    simp +contextual -dsimp -implicitDefEqProofs (maxSteps:=5000000) only [hl,hk,ha,hb,hc,hd,Bool.and_self,h2,wa,wb,wc,wd,A4.set,go_sem,simprocAttr]
  rcases hl' with rfl | hl'
  ·by_cases hf:k≤c
   ·have e:Cq ⟨a,b,c,d⟩ 2 k=(Dr,0,501):=by simp only [Cq,← hp,h1,if_true];exact if_pos hf
    rw [e]
    have h2:decide (k≤c)=true:=by simpa using hf
    refine Ac rfl 5 (by rfl) ?_
    delta c72
    simp +contextual -dsimp -implicitDefEqProofs (maxSteps:=5000000) only [gLs,↓Aj (Jy.eq_1),hl,hk,ha,hb,hc,hd,Bool.and_self,h2,Dr,go_sem,simprocAttr]
   ·have e:Cq ⟨a,b,c,d⟩ 2 k=((⟨a,b,c,d⟩:A4 Int).set 2 (c+1),c+1,0):=by simp only [Cq,← hp,h1,if_true];exact if_neg hf
    rw [e]
    have h2:decide (k≤c)=false:=by simpa using hf
    refine Ac rfl 5 (by rfl) ?_
    delta c72
    simp +contextual -dsimp -implicitDefEqProofs (maxSteps:=5000000) only [gLs,↓Aj (Jy.eq_1),hl,hk,ha,hb,hc,hd,Bool.and_self,h2,wa,wb,wc,wd,A4.set,go_sem,simprocAttr]
    rw [Mg (hd:=by rfl)]
    simp +contextual -dsimp -implicitDefEqProofs (maxSteps:=5000000) only [hl,hk,ha,hb,hc,hd,Bool.and_self,h2,wa,wb,wc,wd,A4.set,go_sem,simprocAttr]
  rcases hl' with rfl | hl'
  ·by_cases hf:k≤d
   ·have e:Cq ⟨a,b,c,d⟩ 3 k=(Dr,0,501):=by simp only [Cq,← hp,h1,if_true];exact if_pos hf
    rw [e]
    have h2:decide (k≤d)=true:=by simpa using hf
    refine Ac rfl 5 (by rfl) ?_
    delta c72
    simp +contextual -dsimp -implicitDefEqProofs (maxSteps:=5000000) only [gLs,↓Aj (Jy.eq_1),hl,hk,ha,hb,hc,hd,Bool.and_self,h2,Dr,go_sem,simprocAttr]
   ·have e:Cq ⟨a,b,c,d⟩ 3 k=((⟨a,b,c,d⟩:A4 Int).set 3 (d+1),d+1,0):=by simp only [Cq,← hp,h1,if_true];exact if_neg hf
    rw [e]
    have h2:decide (k≤d)=false:=by simpa using hf
    refine Ac rfl 5 (by rfl) ?_
    delta c72
    simp +contextual -dsimp -implicitDefEqProofs (maxSteps:=5000000) only [gLs,↓Aj (Jy.eq_1),hl,hk,ha,hb,hc,hd,Bool.and_self,h2,wa,wb,wc,wd,A4.set,go_sem,simprocAttr]
    rw [Mg (hd:=by rfl)]
    simp +contextual -dsimp -implicitDefEqProofs (maxSteps:=5000000) only [hl,hk,ha,hb,hc,hd,Bool.and_self,h2,wa,wb,wc,wd,A4.set,go_sem,simprocAttr]
  rw [hl] at hl';cases hl'
theorem Kd (a b c d:Int):CX ⟨a,b,c,d⟩=DH 255 a b c d:=rfl
theorem xC (i:Nat) (a b c d r v:Int):Aa (Lv ctx (i+4)) 107 [.agg [iV a,iV b,iV c,iV d],iV r,iV v]=some (.tup [e4 (KR ⟨a,b,c,d⟩ r v).1,iV (KR ⟨a,b,c,d⟩ r v).2]):=by
 cases h1:(DH 255 a b c d&&inR r 3&&inR v 255)
 ·have e:KR ⟨a,b,c,d⟩ r v=(Dr,600):=by simp only [KR,Kd,h1];rfl
  rw [e]
  refine Ac rfl 0 (by rfl) ?_
  delta vK
  simp +contextual -dsimp -implicitDefEqProofs (maxSteps:=5000000) only [nn3,h1,Dr,go_sem,simprocAttr]
 ·have e:KR ⟨a,b,c,d⟩ r v=((⟨a,b,c,d⟩:A4 Int).set r v,0):=by simp only [KR,Kd,h1,if_true]
  rw [e]
  have hr:inR r 3=true:=by simp only [Bool.and_eq_true] at h1;exact h1.1.2
  rcases Bb r with rfl | rfl | rfl | rfl | h'
  case inr.inr.inr.inr=>rw [hr] at h';cases h'
  all_goals
   refine Ac rfl 0 (by rfl) ?_
   delta vK
   have ha:DH 255 a b c d=true:=by simp only [Bool.and_eq_true] at h1;exact h1.1.1
   have hv:inR v 255=true:=by simp only [Bool.and_eq_true] at h1;exact h1.2
   simp +contextual -dsimp -implicitDefEqProofs (maxSteps:=5000000) only [ha,hv,A4.set,go_sem,simprocAttr]
theorem TJ {x y:Int} (hx:inR x 255=true) (hy:inR y 255=true):IntKind.wrap .i64 (x+y)=x+y∧(x+y).tmod 256=(x+y) % 256:=by
 rw [AR] at hx hy
 exact ⟨Bt (by omega) (by omega),Int.tmod_eq_emod_of_nonneg (by omega)⟩
theorem xF (i:Nat) (a b c d r t:Int):Aa (Lv ctx (i+4)) 108 [.agg [iV a,iV b,iV c,iV d],iV r,iV t]=some (.tup [e4 (Lp ⟨a,b,c,d⟩ r t).1,iV (Lp ⟨a,b,c,d⟩ r t).2]):=by
 cases h1:(DH 255 a b c d&&inR r 3&&inR t 3)
 ·have e:Lp ⟨a,b,c,d⟩ r t=(Dr,600):=by simp only [Lp,Kd,h1];rfl
  rw [e]
  refine Ac rfl 0 (by rfl) ?_
  delta vJ
  simp +contextual -dsimp -implicitDefEqProofs (maxSteps:=5000000) only [nn3,h1,Dr,go_sem,simprocAttr]
 ·have e:Lp ⟨a,b,c,d⟩ r t=((⟨a,b,c,d⟩:A4 Int).set r (((⟨a,b,c,d⟩:A4 Int).get r+(⟨a,b,c,d⟩:A4 Int).get t) % 256),0):=by simp only [Lp,Kd,h1,if_true]
  rw [e]
  have hh:=h1
  simp only [Bool.and_eq_true,DH] at hh
  obtain ⟨⟨⟨⟨⟨ha,hb⟩,hc⟩,hd⟩,hr⟩,ht⟩:=hh
  have a4:DH 255 a b c d=true:=by simp only [DH,ha,hb,hc,hd,Bool.and_self]
  have hne:(256:Int)≠0:=by decide
  have key:∀ x y:Int,inR x 255=true→inR y 255=true→BJ lay .rem 3 (iV (IntKind.wrap .i64 (x+y))) (iV 256)=some (iV ((x+y) % 256)):=by
   intro x y hx hy
   rw [Mi hne,(TJ hx hy).1,(TJ hx hy).2]
  have k00:=key a a ha ha
  have k01:=key a b ha hb
  have k02:=key a c ha hc
  have k03:=key a d ha hd
  have k10:=key b a hb ha
  have k11:=key b b hb hb
  have k12:=key b c hb hc
  have k13:=key b d hb hd
  have k20:=key c a hc ha
  have k21:=key c b hc hb
  have k22:=key c c hc hc
  have k23:=key c d hc hd
  have k30:=key d a hd ha
  have k31:=key d b hd hb
  have k32:=key d c hd hc
  have k33:=key d d hd hd
  rcases Bb r with rfl | rfl | rfl | rfl | h'
  case inr.inr.inr.inr=>rw [hr] at h';cases h'
  all_goals
   rcases Bb t with rfl | rfl | rfl | rfl | h'
   case inr.inr.inr.inr=>rw [ht] at h';cases h'
   all_goals
    refine Ac rfl 0 (by rfl) ?_
    delta vJ
    simp +contextual -dsimp -implicitDefEqProofs (maxSteps:=5000000) only [a4,A4.set,A4.get,k00,k01,k02,k03,k10,k11,k12,k13,k20,k21,k22,k23,k30,k31,k32,k33,go_sem,simprocAttr]
end Ve
namespace Ve
open Go Ve.Ab
set_option maxHeartbeats 16000000
set_option maxRecDepth 10000
theorem EJ {w0 w1 w2 w3:List Al} {l i:Int} (h:AW ⟨w0,w1,w2,w3⟩ l i=true):∃ (n:Nat) (w:Al),i=(n:Int)∧((⟨w0,w1,w2,w3⟩:A4 (List Al)).get l)[n]?=some w∧Bx ⟨w0,w1,w2,w3⟩ l i=w∧((n:Int)<(((⟨w0,w1,w2,w3⟩:A4 (List Al)).get l).length:Int)):=by
 simp only [AW,Bool.and_eq_true,decide_eq_true_eq] at h
 obtain ⟨⟨_,h1⟩,h2⟩:=h
 have hl:i.toNat<((⟨w0,w1,w2,w3⟩:A4 (List Al)).get l).length:=by omega
 refine ⟨i.toNat,_,by omega,List.getElem?_eq_getElem hl,?_,by omega⟩
 simp only [Bx,List.getElem?_eq_getElem hl,Option.getD_some]
theorem sw4 (a b c d:Bool):(a&&b&&c&&d)=(a&&b&&d&&c):=by cases a<;>cases b<;>cases c<;>cases d<;>rfl
theorem Fk {ws:A4 (List Al)} {l i:Int} (h:AW ws l i=true):inR l 3=true:=by
 simp only [AW,Bool.and_eq_true] at h;exact h.1.1
theorem KN {α:Type} {p:α→Bool} {l:List α} (h:l.all p=true) {j:Nat} {x:α} (hx:l[j]?=some x):p x=true :=
 List.all_eq_true.1 h x (List.mem_of_getElem? hx)
theorem Jk {α:Type} (p:α→Bool) (d:α) (l:List α) (h:∀ j,j<l.length→p (l.getD j d)=true):l.all p=true:=by
 rw [List.all_eq_true]
 intro x hx
 obtain ⟨j,hj,rfl⟩:=List.mem_iff_getElem.1 hx
 have:=h j hj
 simpa [List.getD_eq_getElem?_getD,hj] using this
theorem Jl {α:Type} (p:α→Bool) {l:List α} {j:Nat} {x:α} (hx:l[j]?=some x) (h:p x=false):l.all p=false:=by
 cases hh:l.all p with
 | false=>rfl
 | true=>rw [KN hh hx] at h;cases h
theorem aJ (i:Nat) (a b c d na nb nc nd:Bool) (w0 w1 w2 w3:List Al) (h0:w0.length≤BB) (h1:w1.length≤BB) (h2:w2.length≤BB) (h3:w3.length≤BB) (pf nn:Bool) (xs:List AO) (hx:xs.length≤BB) (id:Int):Aa (Lv ctx (i+5)) 73 [.agg [.isl a na 3 (w0.map eW),.isl b nb 3 (w1.map eW),.isl c nc 3 (w2.map eW),.isl d nd 3 (w3.map eW)],.isl pf nn 3 (xs.map eR),iV id]=some (.tup [bV (BU ⟨w0,w1,w2,w3⟩ xs id).1,iV (BU ⟨w0,w1,w2,w3⟩ xs id).2]):=by
 have q1:=PV (i+0) a b c d na nb nc nd w0 w1 w2 w3 h0 h1 h2 h3
 have q2:=Ke (i+0) pf nn xs hx
 have q3:=MF (i+0) pf nn xs hx a b c d na nb nc nd w0 w1 w2 w3
 simp only [Nat.add_assoc,Nat.reduceAdd] at q1 q2 q3
 cases hc:(AP ⟨w0,w1,w2,w3⟩&&AJ xs&&inR id 254&&AD ⟨w0,w1,w2,w3⟩ xs)
 ·have e:BU ⟨w0,w1,w2,w3⟩ xs id=(false,900):=by simp only [BU];rw [sw4,hc];rfl
  rw [e]
  refine Ac rfl (xs.length+1) (by rfl) ?_
  delta c73
  simp +contextual -dsimp -implicitDefEqProofs (maxSteps:=5000000) only [q1,q2,q3,nn2,hc,go_sem,simprocAttr]
 ·have hcc:=hc
  simp only [Bool.and_eq_true] at hcc
  have hwid:=Ex (c:=254) (x:=id) (by simp only [hcc]) (by omega)
  have hth:AD ⟨w0,w1,w2,w3⟩ xs=true:=by simp only [hcc]
  have e:BU ⟨w0,w1,w2,w3⟩ xs id=(xs.all (Cz ⟨w0,w1,w2,w3⟩ id),0):=by simp only [BU];rw [sw4,hc];rfl
  rw [e]
  refine Ac rfl (xs.length+1) (by rfl) ?_
  delta c73
  simp +contextual -dsimp -implicitDefEqProofs (maxSteps:=5000000) only [q1,q2,q3,nn2,hc,go_sem,simprocAttr]
  refine IG (S:=fun j=>⟨Ae [1,2,3,8] [.isl pf nn 3 (xs.map eR),iV id,.ip (a&&(b&&(c&&d))) [.isl a na 3 (w0.map eW),.isl b nb 3 (w1.map eW),.isl c nc 3 (w2.map eW),.isl d nd 3 (w3.map eW)] 0,iV j],Ag,0⟩) xs.length (fun j=>Cz ⟨w0,w1,w2,w3⟩ id (xs.getD j ⟨0,0,0⟩)) rfl (by omega) ?_ ?_ ?_
  ·intro j kk hj hgd hl
   have hxj:xs[j]?=some (xs.getD j ⟨0,0,0⟩):=by simp [List.getD_eq_getElem?_getD,hj]
   generalize xs.getD j ⟨0,0,0⟩=x at hxj hgd
   obtain ⟨lv,ix,vr⟩:=x
   have ht:=KN hth hxj
   simp only at ht
   have hlb:=Fk ht
   obtain ⟨n,w,rfl,hgw,hge,hln⟩:=EJ ht
   have l1:((j:Int)<(xs.length:Int))=True:=by simpa using hj
   have l2:(0≤(j:Int))=True:=by simp
   have l3:=wrN j (by omega)
   have l4:(0≤(n:Int))=True:=by simp
   rcases Bb lv with rfl | rfl | rfl | rfl | h'
   ·have hn:w0[n]?=some w:=by simpa [A4.get] using hgw
    have hlt:((n:Int)<(w0.length:Int))=True:=by simpa [A4.get] using hln
    simp only [Cz,hge] at hgd
    simp only [Bool.and_eq_true,Bool.or_eq_true,decide_eq_true_eq] at hgd
    obtain ⟨g1,g2⟩:=hgd
    have f1:decide (w.ver=vr)=true:=by simpa using g1
    by_cases hk:w.lock=0
    ·have f2:decide (w.lock=0)=true:=by simpa using hk
     simp +contextual -dsimp -implicitDefEqProofs (maxSteps:=5000000) only [l1,l2,l3,l4,hxj,hn,hlt,f1,f2,↓Aj (Fi.eq_1),go_sem,simprocAttr]
     rw [FM (by rfl)];exact hl
    ·have f2:decide (w.lock=0)=false:=by simpa using hk
     have f3:decide (w.lock=id+1)=true:=by simpa [hk] using g2
     simp +contextual -dsimp -implicitDefEqProofs (maxSteps:=5000000) only [l1,l2,l3,l4,hxj,hn,hlt,f1,f2,f3,hwid,↓Aj (Fi.eq_1),go_sem,simprocAttr]
     rw [FM (by rfl)];exact hl
   ·have hn:w1[n]?=some w:=by simpa [A4.get] using hgw
    have hlt:((n:Int)<(w1.length:Int))=True:=by simpa [A4.get] using hln
    simp only [Cz,hge] at hgd
    simp only [Bool.and_eq_true,Bool.or_eq_true,decide_eq_true_eq] at hgd
    obtain ⟨g1,g2⟩:=hgd
    have f1:decide (w.ver=vr)=true:=by simpa using g1
    by_cases hk:w.lock=0
    ·have f2:decide (w.lock=0)=true:=by simpa using hk
     simp +contextual -dsimp -implicitDefEqProofs (maxSteps:=5000000) only [l1,l2,l3,l4,hxj,hn,hlt,f1,f2,↓Aj (Fi.eq_1),go_sem,simprocAttr]
     rw [FM (by rfl)];exact hl
    ·have f2:decide (w.lock=0)=false:=by simpa using hk
     have f3:decide (w.lock=id+1)=true:=by simpa [hk] using g2
     simp +contextual -dsimp -implicitDefEqProofs (maxSteps:=5000000) only [l1,l2,l3,l4,hxj,hn,hlt,f1,f2,f3,hwid,↓Aj (Fi.eq_1),go_sem,simprocAttr]
     rw [FM (by rfl)];exact hl
   ·have hn:w2[n]?=some w:=by simpa [A4.get] using hgw
    have hlt:((n:Int)<(w2.length:Int))=True:=by simpa [A4.get] using hln
    simp only [Cz,hge] at hgd
    simp only [Bool.and_eq_true,Bool.or_eq_true,decide_eq_true_eq] at hgd
    obtain ⟨g1,g2⟩:=hgd
    have f1:decide (w.ver=vr)=true:=by simpa using g1
    by_cases hk:w.lock=0
    ·have f2:decide (w.lock=0)=true:=by simpa using hk
     simp +contextual -dsimp -implicitDefEqProofs (maxSteps:=5000000) only [l1,l2,l3,l4,hxj,hn,hlt,f1,f2,↓Aj (Fi.eq_1),go_sem,simprocAttr]
     rw [FM (by rfl)];exact hl
    ·have f2:decide (w.lock=0)=false:=by simpa using hk
     have f3:decide (w.lock=id+1)=true:=by simpa [hk] using g2
     simp +contextual -dsimp -implicitDefEqProofs (maxSteps:=5000000) only [l1,l2,l3,l4,hxj,hn,hlt,f1,f2,f3,hwid,↓Aj (Fi.eq_1),go_sem,simprocAttr]
     rw [FM (by rfl)];exact hl
   ·have hn:w3[n]?=some w:=by simpa [A4.get] using hgw
    have hlt:((n:Int)<(w3.length:Int))=True:=by simpa [A4.get] using hln
    simp only [Cz,hge] at hgd
    simp only [Bool.and_eq_true,Bool.or_eq_true,decide_eq_true_eq] at hgd
    obtain ⟨g1,g2⟩:=hgd
    have f1:decide (w.ver=vr)=true:=by simpa using g1
    by_cases hk:w.lock=0
    ·have f2:decide (w.lock=0)=true:=by simpa using hk
     simp +contextual -dsimp -implicitDefEqProofs (maxSteps:=5000000) only [l1,l2,l3,l4,hxj,hn,hlt,f1,f2,↓Aj (Fi.eq_1),go_sem,simprocAttr]
     rw [FM (by rfl)];exact hl
    ·have f2:decide (w.lock=0)=false:=by simpa using hk
     have f3:decide (w.lock=id+1)=true:=by simpa [hk] using g2
     simp +contextual -dsimp -implicitDefEqProofs (maxSteps:=5000000) only [l1,l2,l3,l4,hxj,hn,hlt,f1,f2,f3,hwid,↓Aj (Fi.eq_1),go_sem,simprocAttr]
     rw [FM (by rfl)];exact hl
   ·rw [hlb] at h';cases h'
  ·intro j kk hj hgd _
   have hxj:xs[j]?=some (xs.getD j ⟨0,0,0⟩):=by simp [List.getD_eq_getElem?_getD,hj]
   generalize xs.getD j ⟨0,0,0⟩=x at hxj hgd
   obtain ⟨lv,ix,vr⟩:=x
   have ht:=KN hth hxj
   simp only at ht
   have hlb:=Fk ht
   obtain ⟨n,w,rfl,hgw,hge,hln⟩:=EJ ht
   have l1:((j:Int)<(xs.length:Int))=True:=by simpa using hj
   have l2:(0≤(j:Int))=True:=by simp
   have l3:=wrN j (by omega)
   have l4:(0≤(n:Int))=True:=by simp
   have hf:(xs.all (Cz ⟨w0,w1,w2,w3⟩ id))=false:=Jl _ hxj hgd
   rcases Bb lv with rfl | rfl | rfl | rfl | h'
   ·have hn:w0[n]?=some w:=by simpa [A4.get] using hgw
    have hlt:((n:Int)<(w0.length:Int))=True:=by simpa [A4.get] using hln
    simp only [Cz,hge] at hgd
    by_cases f1:w.ver=vr
    ·have f1':decide (w.ver=vr)=true:=by simpa using f1
     have f2:decide (w.lock=0)=false:=by simp [f1] at hgd;simpa using hgd.1
     have f3:decide (w.lock=id+1)=false:=by simp [f1] at hgd;simpa using hgd.2
     simp +contextual -dsimp -implicitDefEqProofs (maxSteps:=5000000) only [l1,l2,l3,l4,hxj,hn,hlt,f1',f2,f3,hwid,hf,↓Aj (Fi.eq_1),go_sem,simprocAttr]
    ·have f1':decide (w.ver=vr)=false:=by simpa using f1
     simp +contextual -dsimp -implicitDefEqProofs (maxSteps:=5000000) only [l1,l2,l3,l4,hxj,hn,hlt,f1',hf,↓Aj (Fi.eq_1),go_sem,simprocAttr]
   ·have hn:w1[n]?=some w:=by simpa [A4.get] using hgw
    have hlt:((n:Int)<(w1.length:Int))=True:=by simpa [A4.get] using hln
    simp only [Cz,hge] at hgd
    by_cases f1:w.ver=vr
    ·have f1':decide (w.ver=vr)=true:=by simpa using f1
     have f2:decide (w.lock=0)=false:=by simp [f1] at hgd;simpa using hgd.1
     have f3:decide (w.lock=id+1)=false:=by simp [f1] at hgd;simpa using hgd.2
     simp +contextual -dsimp -implicitDefEqProofs (maxSteps:=5000000) only [l1,l2,l3,l4,hxj,hn,hlt,f1',f2,f3,hwid,hf,↓Aj (Fi.eq_1),go_sem,simprocAttr]
    ·have f1':decide (w.ver=vr)=false:=by simpa using f1
     simp +contextual -dsimp -implicitDefEqProofs (maxSteps:=5000000) only [l1,l2,l3,l4,hxj,hn,hlt,f1',hf,↓Aj (Fi.eq_1),go_sem,simprocAttr]
   ·have hn:w2[n]?=some w:=by simpa [A4.get] using hgw
    have hlt:((n:Int)<(w2.length:Int))=True:=by simpa [A4.get] using hln
    simp only [Cz,hge] at hgd
    by_cases f1:w.ver=vr
    ·have f1':decide (w.ver=vr)=true:=by simpa using f1
     have f2:decide (w.lock=0)=false:=by simp [f1] at hgd;simpa using hgd.1
     have f3:decide (w.lock=id+1)=false:=by simp [f1] at hgd;simpa using hgd.2
     simp +contextual -dsimp -implicitDefEqProofs (maxSteps:=5000000) only [l1,l2,l3,l4,hxj,hn,hlt,f1',f2,f3,hwid,hf,↓Aj (Fi.eq_1),go_sem,simprocAttr]
    ·have f1':decide (w.ver=vr)=false:=by simpa using f1
     simp +contextual -dsimp -implicitDefEqProofs (maxSteps:=5000000) only [l1,l2,l3,l4,hxj,hn,hlt,f1',hf,↓Aj (Fi.eq_1),go_sem,simprocAttr]
   ·have hn:w3[n]?=some w:=by simpa [A4.get] using hgw
    have hlt:((n:Int)<(w3.length:Int))=True:=by simpa [A4.get] using hln
    simp only [Cz,hge] at hgd
    by_cases f1:w.ver=vr
    ·have f1':decide (w.ver=vr)=true:=by simpa using f1
     have f2:decide (w.lock=0)=false:=by simp [f1] at hgd;simpa using hgd.1
     have f3:decide (w.lock=id+1)=false:=by simp [f1] at hgd;simpa using hgd.2
     simp +contextual -dsimp -implicitDefEqProofs (maxSteps:=5000000) only [l1,l2,l3,l4,hxj,hn,hlt,f1',f2,f3,hwid,hf,↓Aj (Fi.eq_1),go_sem,simprocAttr]
    ·have f1':decide (w.ver=vr)=false:=by simpa using f1
     simp +contextual -dsimp -implicitDefEqProofs (maxSteps:=5000000) only [l1,l2,l3,l4,hxj,hn,hlt,f1',hf,↓Aj (Fi.eq_1),go_sem,simprocAttr]
   ·rw [hlb] at h';cases h'
  ·intro kk hall
   have l0:decide ((xs.length:Int)<(xs.length:Int))=false:=by simp
   have hf:(xs.all (Cz ⟨w0,w1,w2,w3⟩ id))=true:=Jk _ ⟨0,0,0⟩ _ hall
   simp +contextual -dsimp -implicitDefEqProofs (maxSteps:=5000000) only [l0,hf,↓Aj (Fi.eq_1),go_sem,simprocAttr]
theorem TN {α:Type} (p:α→Bool) {l:List α} {j:Nat} {x:α} (hx:l[j]?=some x) (h:p x=true):l.any p=true :=
 List.any_eq_true.2 ⟨x,List.mem_of_getElem? hx,h⟩
theorem Pz {α:Type} (p:α→Bool) (d:α) (l:List α) (h:∀ j,j<l.length→p (l.getD j d)=false):l.any p=false:=by
 rw [List.any_eq_false]
 intro x hx
 obtain ⟨j,hj,rfl⟩:=List.mem_iff_getElem.1 hx
 have:=h j hj
 simpa [List.getD_eq_getElem?_getD,hj] using this
theorem Yj (i:Nat) (a b c d na nb nc nd:Bool) (w0 w1 w2 w3:List Al) (h0:w0.length≤BB) (h1:w1.length≤BB) (h2:w2.length≤BB) (h3:w3.length≤BB) (pf nn:Bool) (xs:List AO) (hx:xs.length≤BB):Aa (Lv ctx (i+5)) 76 [.agg [.isl a na 3 (w0.map eW),.isl b nb 3 (w1.map eW),.isl c nc 3 (w2.map eW),.isl d nd 3 (w3.map eW)],.isl pf nn 3 (xs.map eR)]=some (.tup [bV (BH ⟨w0,w1,w2,w3⟩ xs).1,iV (BH ⟨w0,w1,w2,w3⟩ xs).2]):=by
 have q1:=PV (i+0) a b c d na nb nc nd w0 w1 w2 w3 h0 h1 h2 h3
 have q2:=Ke (i+0) pf nn xs hx
 have q3:=MF (i+0) pf nn xs hx a b c d na nb nc nd w0 w1 w2 w3
 simp only [Nat.add_assoc,Nat.reduceAdd] at q1 q2 q3
 cases hc:(AP ⟨w0,w1,w2,w3⟩&&AJ xs&&AD ⟨w0,w1,w2,w3⟩ xs)
 ·have e:BH ⟨w0,w1,w2,w3⟩ xs=(false,900):=by simp only [BH];rw [hc];rfl
  rw [e]
  refine Ac rfl (xs.length+1) (by rfl) ?_
  delta c76
  simp +contextual -dsimp -implicitDefEqProofs (maxSteps:=5000000) only [q1,q2,q3,nn2,hc,go_sem,simprocAttr]
 ·have hcc:=hc
  simp only [Bool.and_eq_true] at hcc
  have hth:AD ⟨w0,w1,w2,w3⟩ xs=true:=by simp only [hcc]
  have e:BH ⟨w0,w1,w2,w3⟩ xs=(xs.any (FP ⟨w0,w1,w2,w3⟩),0):=by simp only [BH];rw [hc];rfl
  rw [e]
  refine Ac rfl (xs.length+1) (by rfl) ?_
  delta c76
  simp +contextual -dsimp -implicitDefEqProofs (maxSteps:=5000000) only [q1,q2,q3,nn2,hc,go_sem,simprocAttr]
  refine IG (S:=fun j=>⟨Ae [1,2,6] [.isl pf nn 3 (xs.map eR),.ip (a&&(b&&(c&&d))) [.isl a na 3 (w0.map eW),.isl b nb 3 (w1.map eW),.isl c nc 3 (w2.map eW),.isl d nd 3 (w3.map eW)] 0,iV j],Ag,0⟩) xs.length (fun j=>!(FP ⟨w0,w1,w2,w3⟩ (xs.getD j ⟨0,0,0⟩))) rfl (by omega) ?_ ?_ ?_
  ·intro j kk hj hgd hl
   have hxj:xs[j]?=some (xs.getD j ⟨0,0,0⟩):=by simp [List.getD_eq_getElem?_getD,hj]
   generalize xs.getD j ⟨0,0,0⟩=x at hxj hgd
   obtain ⟨lv,ix,vr⟩:=x
   have ht:=KN hth hxj
   simp only at ht
   have hlb:=Fk ht
   obtain ⟨n,w,rfl,hgw,hge,hln⟩:=EJ ht
   have l1:((j:Int)<(xs.length:Int))=True:=by simpa using hj
   have l2:(0≤(j:Int))=True:=by simp
   have l3:=wrN j (by omega)
   have l4:(0≤(n:Int))=True:=by simp
   rcases Bb lv with rfl | rfl | rfl | rfl | h'
   ·have hn:w0[n]?=some w:=by simpa [A4.get] using hgw
    have hlt:((n:Int)<(w0.length:Int))=True:=by simpa [A4.get] using hln
    have f1:decide (w.ver=vr)=true:=by simp only [FP,hge] at hgd;simpa using hgd
    simp +contextual -dsimp -implicitDefEqProofs (maxSteps:=5000000) only [l1,l2,l3,l4,hxj,hn,hlt,f1,↓Aj (Jx.eq_1),go_sem,simprocAttr]
    exact hl
   ·have hn:w1[n]?=some w:=by simpa [A4.get] using hgw
    have hlt:((n:Int)<(w1.length:Int))=True:=by simpa [A4.get] using hln
    have f1:decide (w.ver=vr)=true:=by simp only [FP,hge] at hgd;simpa using hgd
    simp +contextual -dsimp -implicitDefEqProofs (maxSteps:=5000000) only [l1,l2,l3,l4,hxj,hn,hlt,f1,↓Aj (Jx.eq_1),go_sem,simprocAttr]
    exact hl
   ·have hn:w2[n]?=some w:=by simpa [A4.get] using hgw
    have hlt:((n:Int)<(w2.length:Int))=True:=by simpa [A4.get] using hln
    have f1:decide (w.ver=vr)=true:=by simp only [FP,hge] at hgd;simpa using hgd
    simp +contextual -dsimp -implicitDefEqProofs (maxSteps:=5000000) only [l1,l2,l3,l4,hxj,hn,hlt,f1,↓Aj (Jx.eq_1),go_sem,simprocAttr]
    exact hl
   ·have hn:w3[n]?=some w:=by simpa [A4.get] using hgw
    have hlt:((n:Int)<(w3.length:Int))=True:=by simpa [A4.get] using hln
    have f1:decide (w.ver=vr)=true:=by simp only [FP,hge] at hgd;simpa using hgd
    simp +contextual -dsimp -implicitDefEqProofs (maxSteps:=5000000) only [l1,l2,l3,l4,hxj,hn,hlt,f1,↓Aj (Jx.eq_1),go_sem,simprocAttr]
    exact hl
   ·rw [hlb] at h';cases h'
  ·intro j kk hj hgd _
   have hxj:xs[j]?=some (xs.getD j ⟨0,0,0⟩):=by simp [List.getD_eq_getElem?_getD,hj]
   generalize xs.getD j ⟨0,0,0⟩=x at hxj hgd
   obtain ⟨lv,ix,vr⟩:=x
   have ht:=KN hth hxj
   simp only at ht
   have hlb:=Fk ht
   obtain ⟨n,w,rfl,hgw,hge,hln⟩:=EJ ht
   have l1:((j:Int)<(xs.length:Int))=True:=by simpa using hj
   have l2:(0≤(j:Int))=True:=by simp
   have l3:=wrN j (by omega)
   have l4:(0≤(n:Int))=True:=by simp
   have hf:(xs.any (FP ⟨w0,w1,w2,w3⟩))=true:=TN _ hxj (by simpa using hgd)
   rcases Bb lv with rfl | rfl | rfl | rfl | h'
   ·have hn:w0[n]?=some w:=by simpa [A4.get] using hgw
    have hlt:((n:Int)<(w0.length:Int))=True:=by simpa [A4.get] using hln
    have f1:decide (w.ver=vr)=false:=by simp only [FP,hge] at hgd;simpa using hgd
    simp +contextual -dsimp -implicitDefEqProofs (maxSteps:=5000000) only [l1,l2,l3,l4,hxj,hn,hlt,f1,hf,↓Aj (Jx.eq_1),go_sem,simprocAttr]
   ·have hn:w1[n]?=some w:=by simpa [A4.get] using hgw
    have hlt:((n:Int)<(w1.length:Int))=True:=by simpa [A4.get] using hln
    have f1:decide (w.ver=vr)=false:=by simp only [FP,hge] at hgd;simpa using hgd
    simp +contextual -dsimp -implicitDefEqProofs (maxSteps:=5000000) only [l1,l2,l3,l4,hxj,hn,hlt,f1,hf,↓Aj (Jx.eq_1),go_sem,simprocAttr]
   ·have hn:w2[n]?=some w:=by simpa [A4.get] using hgw
    have hlt:((n:Int)<(w2.length:Int))=True:=by simpa [A4.get] using hln
    have f1:decide (w.ver=vr)=false:=by simp only [FP,hge] at hgd;simpa using hgd
    simp +contextual -dsimp -implicitDefEqProofs (maxSteps:=5000000) only [l1,l2,l3,l4,hxj,hn,hlt,f1,hf,↓Aj (Jx.eq_1),go_sem,simprocAttr]
   ·have hn:w3[n]?=some w:=by simpa [A4.get] using hgw
    have hlt:((n:Int)<(w3.length:Int))=True:=by simpa [A4.get] using hln
    have f1:decide (w.ver=vr)=false:=by simp only [FP,hge] at hgd;simpa using hgd
    simp +contextual -dsimp -implicitDefEqProofs (maxSteps:=5000000) only [l1,l2,l3,l4,hxj,hn,hlt,f1,hf,↓Aj (Jx.eq_1),go_sem,simprocAttr]
   ·rw [hlb] at h';cases h'
  ·intro kk hall
   have l0:decide ((xs.length:Int)<(xs.length:Int))=false:=by simp
   have hf:(xs.any (FP ⟨w0,w1,w2,w3⟩))=false:=Pz _ ⟨0,0,0⟩ _ (fun j hj=>by simpa using hall j hj)
   simp +contextual -dsimp -implicitDefEqProofs (maxSteps:=5000000) only [l0,hf,↓Aj (Jx.eq_1),go_sem,simprocAttr]
end Ve
namespace Ve
open Go Ve.Ab
set_option maxHeartbeats 16000000
set_option maxRecDepth 10000
def Qm (l x:Int) (w:Ak):Bool:=decide (w.level=l)&&decide (w.index=x)
theorem Pb (l x:Int):∀ (ws:List Ak) (j:Nat) (w:Ak),ws[j]?=some w→Qm l x w=true→(∀ i,i<j→Qm l x (ws.getD i ⟨0,0,0⟩)=false)→Bs l x ws=(w.val,true)
 | [],j,w,h,_,_=>by simp at h
 | a::r,0,w,h,hh,_=>by
  simp only [List.getElem?_cons_zero,Option.some.injEq] at h
  subst h
  simp only [Qm,Bool.and_eq_true,decide_eq_true_eq] at hh
  simp only [Bs];exact if_pos hh
 | a::r,j+1,w,h,hh,hg=>by
  have h0:=hg 0 (by omega)
  simp only [List.getD_cons_zero,Qm,Bool.and_eq_false_iff,decide_eq_false_iff_not] at h0
  simp only [Bs]
  rw [if_neg (by rintro ⟨h1,h2⟩;rcases h0 with h0 | h0;exact h0 h1;exact h0 h2)]
  exact Pb l x r j w (by simpa using h) hh (fun i hi=>by have:=hg (i+1) (by omega);simpa using this)
theorem OZ (l x:Int):∀ (ws:List Ak),(∀ i,i<ws.length→Qm l x (ws.getD i ⟨0,0,0⟩)=false)→Bs l x ws=(0,false)
 | [],_=>rfl
 | a::r,hg=>by
  have h0:=hg 0 (by simp)
  simp only [List.getD_cons_zero,Qm,Bool.and_eq_false_iff,decide_eq_false_iff_not] at h0
  simp only [Bs]
  rw [if_neg (by rintro ⟨h1,h2⟩;rcases h0 with h0 | h0;exact h0 h1;exact h0 h2)]
  exact OZ l x r (fun i hi=>by have:=hg (i+1) (by simp;omega);simpa using this)
theorem rN (i:Nat) (pf nn:Bool) (xs:List Ak) (hx:xs.length≤BB) (l x:Int):Aa (Lv ctx (i+5)) 104 [.isl pf nn 3 (xs.map eWr),iV l,iV x]=some (.tup [iV (Ba xs l x).1,bV (Ba xs l x).2]):=by
 have q1:=Iu (i+0) pf nn xs hx
 simp only [Nat.add_assoc,Nat.reduceAdd] at q1
 cases hm:AS xs
 ·have e:Ba xs l x=(0,false):=by simp only [Ba,hm];rfl
  rw [e]
  rw [hm] at q1
  refine Ac rfl (xs.length+1) (by rfl) ?_
  delta vL
  simp +contextual -dsimp -implicitDefEqProofs (maxSteps:=5000000) only [q1,gLs,Bool.and_false,↓Aj (NJ.eq_1),go_sem,simprocAttr]
 ·have e:Ba xs l x=Bs l x xs:=by simp only [Ba,hm,if_true]
  rw [e]
  rw [hm] at q1
  refine Ac rfl (xs.length+1) (by rfl) ?_
  delta vL
  simp +contextual -dsimp -implicitDefEqProofs (maxSteps:=5000000) only [q1,go_sem,simprocAttr]
  refine IG (S:=fun j=>⟨Ae [0,1,2,8] [.isl pf nn 3 (xs.map eWr),iV l,iV x,iV j],Ag,0⟩) xs.length (fun j=>!Qm l x (xs.getD j ⟨0,0,0⟩)) rfl (by omega) ?_ ?_ ?_
  ·intro j kk hj hgd hl
   have hxj:xs[j]?=some (xs.getD j ⟨0,0,0⟩):=by simp [List.getD_eq_getElem?_getD,hj]
   generalize xs.getD j ⟨0,0,0⟩=a at hxj hgd
   have l1:((j:Int)<(xs.length:Int))=True:=by simpa using hj
   have l2:(0≤(j:Int))=True:=by simp
   have l3:=wrN j (by omega)
   have f0:Qm l x a=false:=by simpa using hgd
   have f1:(decide (a.level=l)&&decide (a.index=x))=false:=f0
   simp +contextual -dsimp -implicitDefEqProofs (maxSteps:=5000000) only [q1,l1,l2,l3,hxj,f1,↓Aj (NJ.eq_1),go_sem,simprocAttr]
   exact hl
  ·intro j kk hj hgd hbef
   have hxj:xs[j]?=some (xs.getD j ⟨0,0,0⟩):=by simp [List.getD_eq_getElem?_getD,hj]
   have hf:Qm l x (xs.getD j ⟨0,0,0⟩)=true:=by simpa using hgd
   have hfin:=Pb l x xs j _ hxj hf (fun i hi=>by simpa using hbef i hi)
   generalize xs.getD j ⟨0,0,0⟩=a at hxj hgd hf hfin
   have l1:((j:Int)<(xs.length:Int))=True:=by simpa using hj
   have l2:(0≤(j:Int))=True:=by simp
   have f1:(decide (a.level=l)&&decide (a.index=x))=true:=hf
   simp +contextual -dsimp -implicitDefEqProofs (maxSteps:=5000000) only [q1,l1,l2,hxj,f1,hfin,↓Aj (NJ.eq_1),go_sem,simprocAttr]
  ·intro kk hall
   have l0:decide ((xs.length:Int)<(xs.length:Int))=false:=by simp
   have hfin:=OZ l x xs (fun i hi=>by simpa using hall i hi)
   simp +contextual -dsimp -implicitDefEqProofs (maxSteps:=5000000) only [q1,l0,hfin,Bool.false_and,↓Aj (NJ.eq_1),go_sem,simprocAttr]
theorem Uu (i:Nat) (pf nn:Bool) (xs:List Ak) (hx:xs.length≤BB) (l:Int):Aa (Lv ctx (i+5)) 68 [.isl pf nn 3 (xs.map eWr),iV l]=some (bV (DI xs l)):=by
 have q1:=Iu (i+0) pf nn xs hx
 simp only [Nat.add_assoc,Nat.reduceAdd] at q1
 refine Ac rfl (xs.length+1) (by rfl) ?_
 delta c68
 simp +contextual -dsimp -implicitDefEqProofs (maxSteps:=5000000) only [go_sem,simprocAttr]
 refine IG (S:=fun j=>⟨Ae [0,1,5] [.isl pf nn 3 (xs.map eWr),iV l,iV j],Ag,0⟩) xs.length (fun j=>decide ((xs.getD j ⟨0,0,0⟩).level=l)) rfl (by omega) ?_ ?_ ?_
 ·intro j kk hj hgd hl
  have hxj:xs[j]?=some (xs.getD j ⟨0,0,0⟩):=by simp [List.getD_eq_getElem?_getD,hj]
  generalize xs.getD j ⟨0,0,0⟩=a at hxj hgd
  have l1:((j:Int)<(xs.length:Int))=True:=by simpa using hj
  have l2:(0≤(j:Int))=True:=by simp
  have l3:=wrN j (by omega)
  simp +contextual -dsimp -implicitDefEqProofs (maxSteps:=5000000) only [l1,l2,l3,hxj,hgd,↓Aj (Xw.eq_1),go_sem,simprocAttr]
  exact hl
 ·intro j kk hj hgd _
  have hxj:xs[j]?=some (xs.getD j ⟨0,0,0⟩):=by simp [List.getD_eq_getElem?_getD,hj]
  generalize xs.getD j ⟨0,0,0⟩=a at hxj hgd
  have l1:((j:Int)<(xs.length:Int))=True:=by simpa using hj
  have l2:(0≤(j:Int))=True:=by simp
  have hf:DI xs l=false:=by simp only [DI,Jl (fun w=>decide (w.level=l)) hxj hgd,Bool.and_false]
  simp +contextual -dsimp -implicitDefEqProofs (maxSteps:=5000000) only [l1,l2,hxj,hgd,hf,↓Aj (Xw.eq_1),go_sem,simprocAttr]
 ·intro kk hall
  have l0:decide ((xs.length:Int)<(xs.length:Int))=false:=by simp
  have hf:DI xs l=AS xs:=by simp only [DI,Jk (fun w:Ak=>decide (w.level=l)) ⟨0,0,0⟩ _ hall,Bool.and_true]
  simp +contextual -dsimp -implicitDefEqProofs (maxSteps:=5000000) only [l0,q1,hf,↓Aj (Xw.eq_1),go_sem,simprocAttr]
theorem Oq (r:AO):AJ [r]=Cw r:=by simp [AJ,BS]
theorem Ml (w:Ak):AS [w]=Az w:=by simp [AS,AV]
theorem Uv (i:Nat) (pf nn:Bool) (xs:List AO) (hx:(xs.length:Int)*24≤140737488355328) (a b c:Int):Aa (Lv ctx (i+5)) 105 [.isl pf nn 3 (xs.map eR),.agg [iV a,iV b,iV c]]=some (.tup [oRs (AX xs ⟨a,b,c⟩).1,iV (AX xs ⟨a,b,c⟩).2]):=by
 have hb:xs.length≤BB:=by simp only [BB];omega
 have q1:=Ke (i+0) pf nn xs hb
 have q2:=Ke (i+0) false false [⟨a,b,c⟩] (by simp [BB])
 rw [Oq] at q2
 simp only [Nat.add_assoc,Nat.reduceAdd,List.map_cons,List.map_nil,eR] at q1 q2
 have b1:((xs.length:Int)*24≤140737488355328)=True:=by simpa using hx
 cases h1:AJ xs
 ·have e:AX xs ⟨a,b,c⟩=([],900):=by simp only [AX,h1];rfl
  rw [e]
  rw [h1] at q1
  refine Ac rfl (xs.length+1) (by rfl) ?_
  delta nR
  simp +contextual -dsimp -implicitDefEqProofs (maxSteps:=5000000) only [q1,List.map_nil,go_sem,simprocAttr]
  rfl
 ·rw [h1] at q1
  cases h2:Cw ⟨a,b,c⟩
  ·have e:AX xs ⟨a,b,c⟩=([],900):=by simp only [AX,h1,h2];rfl
   rw [e]
   rw [h2] at q2
   refine Ac rfl (xs.length+1) (by rfl) ?_
   delta nR
   simp +contextual -dsimp -implicitDefEqProofs (maxSteps:=5000000) only [q1,q2,List.replicate,List.map_nil,go_sem,simprocAttr]
   rfl
  ·rw [h2] at q2
   have e:AX xs ⟨a,b,c⟩=if xs.any (Cd ⟨a,b,c⟩)=true then (xs,0) else if xs.length=16 then ([],900) else (xs++[⟨a,b,c⟩],0):=by simp only [AX,h1,h2,Bool.and_self,if_true]
   have h16:xs.length≤16:=by simp only [AJ,Bool.and_eq_true,decide_eq_true_eq] at h1;exact h1.2
   rw [e]
   refine Ac rfl (xs.length+1) (by rfl) ?_
   delta nR
   simp +contextual -dsimp -implicitDefEqProofs (maxSteps:=5000000) only [q1,q2,b1,List.replicate,List.map_nil,go_sem,simprocAttr]
   cases pf
   all_goals
    refine IG (S:=fun j=>⟨Ae [0,3,6,7] [.isl _ nn 3 (xs.map eR),.ip true [iV a,iV b,iV c] 0,.sl 2,iV j],pO (pO (pO Ag 0 (some ⟨3,[.agg [iV a,iV b,iV c]],false⟩)) 1 none) 2 (some ⟨3,xs.map eR,_⟩),3⟩) xs.length (fun j=>!Cd ⟨a,b,c⟩ (xs.getD j ⟨0,0,0⟩)) rfl (by omega) ?_ ?_ ?_
    ·intro j kk hj hgd hl
     have hxj:xs[j]?=some (xs.getD j ⟨0,0,0⟩):=by simp [List.getD_eq_getElem?_getD,hj]
     generalize xs.getD j ⟨0,0,0⟩=x at hxj hgd
     have l1:((j:Int)<(xs.length:Int))=True:=by simpa using hj
     have l2:(0≤(j:Int))=True:=by simp
     have l3:=wrN j (by omega)
     have f0:Cd ⟨a,b,c⟩ x=false:=by simpa using hgd
     have f1:(decide (x.level=a)&&decide (x.index=b))=false:=f0
     cases c1:decide (x.level=a)
     ·simp +contextual -dsimp -implicitDefEqProofs (maxSteps:=5000000) only [l1,l2,l3,hxj,c1,↓Aj (Ll.eq_1),go_sem,simprocAttr]
      exact hl
     ·have c2:decide (x.index=b)=false:=by rw [c1,Bool.true_and] at f1;exact f1
      simp +contextual -dsimp -implicitDefEqProofs (maxSteps:=5000000) only [l1,l2,l3,hxj,c1,c2,↓Aj (Ll.eq_1),go_sem,simprocAttr]
      exact hl
    ·intro j kk hj hgd _
     have hxj:xs[j]?=some (xs.getD j ⟨0,0,0⟩):=by simp [List.getD_eq_getElem?_getD,hj]
     generalize xs.getD j ⟨0,0,0⟩=x at hxj hgd
     have l1:((j:Int)<(xs.length:Int))=True:=by simpa using hj
     have l2:(0≤(j:Int))=True:=by simp
     have f0:Cd ⟨a,b,c⟩ x=true:=by simpa using hgd
     have f1:(decide (x.level=a)&&decide (x.index=b))=true:=f0
     have hf:xs.any (Cd ⟨a,b,c⟩)=true:=TN _ hxj f0
     rw [if_pos hf]
     obtain ⟨c1,c2⟩:=(Bool.and_eq_true _ _).mp f1
     simp +contextual -dsimp -implicitDefEqProofs (maxSteps:=5000000) only [l1,l2,hxj,c1,c2,↓Aj (Ll.eq_1),go_sem,simprocAttr]
    ·intro kk hall
     have l0:decide ((xs.length:Int)<(xs.length:Int))=false:=by simp
     have hf:xs.any (Cd ⟨a,b,c⟩)=false:=Pz _ ⟨0,0,0⟩ _ (fun j hj=>by simpa using hall j hj)
     have b2:(((xs.length+1:Nat):Int)*24≤140737488355328)=True:=by simp;omega
     rw [if_neg (by rw [hf];decide)]
     by_cases hl:xs.length=16
     ·rw [if_pos hl]
      have l6:decide ((16:Int)<((xs.length+1:Nat):Int))=true:=by simp;omega
      simp +contextual -dsimp -implicitDefEqProofs (maxSteps:=5000000) only [l0,b2,l6,List.replicate,↓Aj (Ll.eq_1),go_sem,simprocAttr]
      simp only [oRs,List.map_append,List.map_cons,List.map_nil,eR]
     ·rw [if_neg hl]
      have l6:decide ((16:Int)<((xs.length+1:Nat):Int))=false:=by simp;omega
      simp +contextual -dsimp -implicitDefEqProofs (maxSteps:=5000000) only [l0,b2,l6,List.replicate,↓Aj (Ll.eq_1),go_sem,simprocAttr]
      simp only [oRs,List.map_append,List.map_cons,List.map_nil,eR]
end Ve
namespace Ve
open Go Ve.Ab
set_option maxHeartbeats 16000000
set_option maxRecDepth 10000
theorem Sr (i:Nat) (pf nn:Bool) (xs:List Ak) (hx:(xs.length:Int)*24≤140737488355328) (a b c:Int):Aa (Lv ctx (i+5)) 106 [.isl pf nn 3 (xs.map eWr),.agg [iV a,iV b,iV c]]=some (.tup [LP (BK xs ⟨a,b,c⟩).1,iV (BK xs ⟨a,b,c⟩).2]):=by
 have hb:xs.length≤BB:=by simp only [BB];omega
 have q1:=Iu (i+0) pf nn xs hb
 have q2:=Iu (i+0) false false [⟨a,b,c⟩] (by simp [BB])
 rw [Ml] at q2
 simp only [Nat.add_assoc,Nat.reduceAdd,List.map_cons,List.map_nil,eWr] at q1 q2
 cases h1:AS xs
 ·have e:BK xs ⟨a,b,c⟩=([],1000):=by simp only [BK,h1];rfl
  rw [e]
  rw [h1] at q1
  refine Ac rfl (xs.length+1) (by rfl) ?_
  delta fL
  simp +contextual -dsimp -implicitDefEqProofs (maxSteps:=5000000) only [q1,List.map_nil,go_sem,simprocAttr]
  rfl
 ·rw [h1] at q1
  cases h2:Az ⟨a,b,c⟩
  ·have e:BK xs ⟨a,b,c⟩=([],1000):=by simp only [BK,h1,h2];rfl
   rw [e]
   rw [h2] at q2
   refine Ac rfl (xs.length+1) (by rfl) ?_
   delta fL
   simp +contextual -dsimp -implicitDefEqProofs (maxSteps:=5000000) only [q1,q2,List.replicate,List.map_nil,go_sem,simprocAttr]
   rfl
  ·rw [h2] at q2
   have e:BK xs ⟨a,b,c⟩=(CW ⟨a,b,c⟩ xs,0):=by simp only [BK,h1,h2,Bool.and_self,if_true]
   obtain ⟨hw1,hso,h16⟩:=Ci h1
   have hpw:=Iv ⟨a,b,c⟩ h2
   have hpos:plW ⟨a,b,c⟩=4*a+b:=rfl
   rw [e]
   by_cases hne:xs.length=0
   ·obtain rfl:xs=[]:=List.eq_nil_of_length_eq_zero hne
    simp only [List.map_nil] at q1
    refine Ac rfl 1 (by rfl) ?_
    delta fL
    have k1:((1:Int)*24≤140737488355328)=True:=by simp
    simp +contextual -dsimp -implicitDefEqProofs (maxSteps:=5000000) only [q1,q2,gLs,List.replicate,List.map_nil,k1,↓Aj (Gg.eq_1),go_sem,simprocAttr]
    rfl
   ·have hz:0<xs.length:=by omega
    have hS:∀ j,∃ s:St,s=⟨Ae [0,3,6,7,8] [.isl pf nn 3 (xs.map eWr),.ip true [iV a,iV b,iV c] 0,.sl 1,bV ((xs.take j).any (geW ⟨a,b,c⟩)),iV j],pO (pO Ag 0 (some ⟨3,[.agg [iV a,iV b,iV c]],false⟩)) 1 (some ⟨3,(GA ⟨a,b,c⟩ (xs.take j)).map eWr,false⟩),2⟩:=fun j=>⟨_,rfl⟩
    clear hS
    have tk:∀ j x,xs[j]?=some x→xs.take (j+1)=xs.take j++[x]:=by
     intro j x hxj
     rw [List.take_succ,hxj];rfl
    have bb:∀ n:Nat,n≤40→(((n:Nat):Int)*24≤140737488355328)=True:=by intro n hn;simp;omega
    have tl:∀ j,(xs.take j).length≤16:=fun j=>by rw [List.length_take];omega
    have ol:∀ j,(GA ⟨a,b,c⟩ (xs.take j)).length≤17:=fun j=>Nat.le_trans (kE _ _) (by have:=tl j;omega)
    have z0:((0:Int)<(xs.length:Int))=True:=by simp;omega
    obtain ⟨x0,hx0⟩:∃ x0,xs[0]?=some x0:=⟨xs[0],by simp [hz]⟩
    have hm0:=hw1 x0 (List.mem_of_getElem? hx0)
    have hp0:=Iv x0 hm0
    have g0:plW x0=4*x0.level+x0.index:=rfl
    have t1:=tk 0 x0 hx0
    simp only [List.take_zero,List.nil_append,Nat.zero_add] at t1
    have n0:([]:List Ak).any (geW ⟨a,b,c⟩)=false:=rfl
    refine Ac rfl (xs.length+1) (by rfl) ?_
    delta fL
    simp +contextual -dsimp -implicitDefEqProofs (maxSteps:=5000000) only [q1,q2,List.replicate,go_sem,simprocAttr]
    rw [gLs]
    have rest:∀ {f:St→(Out→St→Option Ans)→Option Ans} {q:Out→St→Option Ans} {u:Dum f} {w:Dum q},True:=trivial
    clear rest
    suffices hgo:GL 1 [0,3,6,7,8] (fun s q=>evC ctx (Lv ctx (i+4)) (Aa (Lv ctx (i+4))) (xs.length+1) Gg s (As [0,3,6,7,8] q)) _ xs.length ⟨Ae [0,3,6,7,8] [.isl pf nn 3 (xs.map eWr),.ip true [iV a,iV b,iV c] 0,.sl 1,bV ((xs.take 1).any (geW ⟨a,b,c⟩)),iV 1],pO (pO Ag 0 (some ⟨3,[.agg [iV a,iV b,iV c]],false⟩)) 1 (some ⟨3,(GA ⟨a,b,c⟩ (xs.take 1)).map eWr,false⟩),2⟩ _ ⟨⟩ ⟨⟩ by
     rcases Int.lt_trichotomy (plW x0) (plW ⟨a,b,c⟩) with hlt | heq | hgt
     ·obtain ⟨o1,o2⟩:=SC n0 hlt
      rw [List.nil_append] at o1 o2
      rw [t1,o1,o2] at hgo
      have c1:decide (4*a+b≤4*x0.level+x0.index)=false:=by rw [g0,hpos] at hlt;simp;omega
      have c2:decide (4*x0.level+x0.index=4*a+b)=false:=by rw [g0,hpos] at hlt;simp;omega
      have k1:((1:Int)*24≤140737488355328)=True:=by simp
      simp +contextual -dsimp -implicitDefEqProofs (maxSteps:=5000000) only [z0,hx0,hp0,hpw,c1,c2,List.replicate,k1,↓Aj (Gg.eq_1),go_sem,simprocAttr]
      exact EW hgo (by rfl)
     ·obtain ⟨o1,o2⟩:=SD n0 heq
      rw [List.nil_append] at o1 o2
      rw [t1,o1,o2] at hgo
      have c1:decide (4*a+b≤4*x0.level+x0.index)=true:=by rw [g0,hpos] at heq;simp;omega
      have c2:decide (4*x0.level+x0.index=4*a+b)=true:=by rw [g0,hpos] at heq;simp;omega
      have k1:((1:Int)*24≤140737488355328)=True:=by simp
      simp +contextual -dsimp -implicitDefEqProofs (maxSteps:=5000000) only [z0,hx0,hp0,hpw,c1,c2,List.replicate,k1,↓Aj (Gg.eq_1),go_sem,simprocAttr]
      exact EW hgo (by rfl)
     ·obtain ⟨o1,o2⟩:=VO n0 hgt
      rw [List.nil_append,List.nil_append] at o1
      rw [List.nil_append] at o2
      rw [t1,o1,o2] at hgo
      have c1:decide (4*a+b≤4*x0.level+x0.index)=true:=by rw [g0,hpos] at hgt;simp;omega
      have c2:decide (4*x0.level+x0.index=4*a+b)=false:=by rw [g0,hpos] at hgt;simp;omega
      have k1:((1:Int)*24≤140737488355328)=True:=by simp
      have k2:((2:Int)*24≤140737488355328)=True:=by simp
      simp +contextual -dsimp -implicitDefEqProofs (maxSteps:=5000000) only [z0,hx0,hp0,hpw,c1,c2,List.replicate,k1,k2,↓Aj (Gg.eq_1),go_sem,simprocAttr]
      exact EW hgo (by rfl)
    refine dS (fun j=>⟨Ae [0,3,6,7,8] [.isl pf nn 3 (xs.map eWr),.ip true [iV a,iV b,iV c] 0,.sl 1,bV ((xs.take j).any (geW ⟨a,b,c⟩)),iV j],pO (pO Ag 0 (some ⟨3,[.agg [iV a,iV b,iV c]],false⟩)) 1 (some ⟨3,(GA ⟨a,b,c⟩ (xs.take j)).map eWr,false⟩),2⟩) xs.length (fun _=>true) ?_ (fun _ _ _ h=>by cases h) ?_ (xs.length - 1) 1 xs.length (by omega) (by omega) (fun _ _=>rfl)
    ·intro j kk hj _ hl
     obtain ⟨x,hxj⟩:∃ x,xs[j]?=some x:=⟨xs[j],by simp [hj]⟩
     have hmx:=hw1 x (List.mem_of_getElem? hxj)
     have hpx:=Iv x hmx
     have gx:plW x=4*x.level+x.index:=rfl
     have l1:((j:Int)<(xs.length:Int))=True:=by simpa using hj
     have l2:(0≤(j:Int))=True:=by simp
     have l3:=wrN j (by omega)
     have hlen:=ol j
     have hpre:∀ y∈xs.take j,plW y<plW x:=by
      intro y hy
      obtain ⟨i',hi',rfl⟩:=List.mem_iff_getElem.1 hy
      rw [List.length_take] at hi'
      have h3:=(List.pairwise_iff_getElem.1 hso) i' j (by omega) hj (by omega)
      have hxe:xs[j]=x:=by rw [List.getElem?_eq_getElem hj] at hxj;exact Option.some.inj hxj
      rw [hxe] at h3
      simpa using h3
     simp only [tk j x hxj] at hl
     have k1:((((GA ⟨a,b,c⟩ (xs.take j)).length+1:Nat):Int)*24≤140737488355328)=True:=bb _ (by omega)
     have k2:((((GA ⟨a,b,c⟩ (xs.take j)).length+1+1:Nat):Int)*24≤140737488355328)=True:=bb _ (by omega)
     cases hd:(xs.take j).any (geW ⟨a,b,c⟩)
     ·have ho:GA ⟨a,b,c⟩ (xs.take j)=xs.take j:=by simp only [GA,hd];rfl
      rcases Int.lt_trichotomy (plW x) (plW ⟨a,b,c⟩) with hlt | heq | hgt
      ·obtain ⟨o1,o2⟩:=SC hd hlt
       rw [o1,o2,← ho] at hl
       have c1:decide (4*a+b≤4*x.level+x.index)=false:=by rw [gx,hpos] at hlt;simp;omega
       have c2:decide (4*x.level+x.index=4*a+b)=false:=by rw [gx,hpos] at hlt;simp;omega
       simp +contextual -dsimp -implicitDefEqProofs (maxSteps:=5000000) only [l1,l2,l3,hxj,hpx,hpw,c1,c2,List.replicate,k1,k2,↓Aj (Gg.eq_1),go_sem,simprocAttr]
       refine EW hl ?_
       simp only [List.map_append];rfl
      ·obtain ⟨o1,o2⟩:=SD hd heq
       rw [o1,o2,← ho] at hl
       have c1:decide (4*a+b≤4*x.level+x.index)=true:=by rw [gx,hpos] at heq;simp;omega
       have c2:decide (4*x.level+x.index=4*a+b)=true:=by rw [gx,hpos] at heq;simp;omega
       simp +contextual -dsimp -implicitDefEqProofs (maxSteps:=5000000) only [l1,l2,l3,hxj,hpx,hpw,c1,c2,List.replicate,k1,k2,↓Aj (Gg.eq_1),go_sem,simprocAttr]
       refine EW hl ?_
       simp only [List.map_append];rfl
      ·obtain ⟨o1,o2⟩:=VO hd hgt
       rw [o1,o2,← ho] at hl
       have c1:decide (4*a+b≤4*x.level+x.index)=true:=by rw [gx,hpos] at hgt;simp;omega
       have c2:decide (4*x.level+x.index=4*a+b)=false:=by rw [gx,hpos] at hgt;simp;omega
       simp +contextual -dsimp -implicitDefEqProofs (maxSteps:=5000000) only [l1,l2,l3,hxj,hpx,hpw,c1,c2,List.replicate,List.length_append,k1,k2,↓Aj (Gg.eq_1),go_sem,simprocAttr]
       refine EW hl ?_
       simp only [List.map_append];rfl
     ·obtain ⟨o1,o2⟩:=bJ (x:=x) hd
      rw [o1,o2] at hl
      have hgt:=vQ hd hpre
      have c2:decide (4*x.level+x.index=4*a+b)=false:=by rw [gx,hpos] at hgt;simp;omega
      simp +contextual -dsimp -implicitDefEqProofs (maxSteps:=5000000) only [l1,l2,l3,hxj,hpx,hpw,hd,c2,List.replicate,k1,k2,↓Aj (Gg.eq_1),go_sem,simprocAttr]
      refine EW hl ?_
      simp only [List.map_append];rfl
    ·intro kk _
     have l0:decide ((xs.length:Int)<(xs.length:Int))=false:=by simp
     have tf:xs.take xs.length=xs:=List.take_length
     have k1:(((xs.length+1:Nat):Int)*24≤140737488355328)=True:=bb _ (by omega)
     rw [kF (w:=⟨a,b,c⟩) (l:=xs)]
     simp only [tf]
     cases hd:xs.any (geW ⟨a,b,c⟩)
     ·have ho:GA ⟨a,b,c⟩ xs=xs:=by simp only [GA,hd];rfl
      rw [ho]
      simp +contextual -dsimp -implicitDefEqProofs (maxSteps:=5000000) only [l0,k1,hd,List.replicate,↓Aj (Gg.eq_1),go_sem,simprocAttr]
      simp only [LP,List.map_append,List.map_cons,List.map_nil,eWr]
     ·simp +contextual -dsimp -implicitDefEqProofs (maxSteps:=5000000) only [l0,hd,List.replicate,↓Aj (Gg.eq_1),go_sem,simprocAttr]
end Ve
namespace Ve
open Go Ve.Ab
set_option maxHeartbeats 16000000
set_option maxRecDepth 10000
theorem Hr (i:Nat) (pf:Bool) (m:Ad) (at_:Int) (v:Int) (h:∃ k s,at_=(k:Nat)∧m.sess[k]?=some s∧SP m.words s∧((s.step≠0∧v=-1)∨(s.step=0∧s.pc=(s.prog.length:Int)∧v=-1)∨(s.step=0∧∃ n x,s.pc=(n:Nat)∧s.prog[n]?=some x∧v=x.code))):Aa (Lv ctx (i+1)) 61 [eM pf m,iV at_]=some (iV v):=by
 obtain ⟨k,s,rfl,hs,hS,h⟩:=h
 have hk:=Au hs
 have e1:(0≤(k:Int))=True:=by simp
 have e2:((k:Int)<(m.sess.length:Int))=True:=by simpa using hk
 rcases h with ⟨hst,rfl⟩ | ⟨hst,hp,rfl⟩ | ⟨hst,n,x,hp,hi,rfl⟩
 ·have z0:decide (s.step=0)=false:=by simpa using hst
  refine Ac rfl 0 (by rfl) ?_
  delta c61
  cases pf<;>simp +contextual -dsimp -implicitDefEqProofs (maxSteps:=5000000) only [hs,e1,e2,z0,go_sem,simprocAttr]
 ·have z0:decide (s.step=0)=true:=by simpa using hst
  have z1:decide ((s.prog.length:Int)≤(s.prog.length:Int))=true:=by simp
  refine Ac rfl 0 (by rfl) ?_
  delta c61
  cases pf<;>simp +contextual -dsimp -implicitDefEqProofs (maxSteps:=5000000) only [hs,e1,e2,z0,hp,z1,go_sem,simprocAttr]
 ·have hn:=Au hi
  have p1:(0≤(n:Int))=True:=by simp
  have p2:((n:Int)<(s.prog.length:Int))=True:=by simpa using hn
  have p3:decide ((s.prog.length:Int)≤(n:Int))=false:=by simp;omega
  have z0:decide (s.step=0)=true:=by simpa using hst
  refine Ac rfl 0 (by rfl) ?_
  delta c61
  cases pf<;>simp +contextual -dsimp -implicitDefEqProofs (maxSteps:=5000000) only [hs,e1,e2,z0,hp,p1,p2,p3,hi,go_sem,simprocAttr]
theorem Ko {m:Ad} {at_:Int} (h:CA m at_=none):BF m at_=(false,1400):=by unfold BF;rw [h]
theorem MV {m:Ad} {at_:Int} {s:Af} {x:Av} (h:CA m at_=some (s,x)) (hc:¬ x.code=2):BF m at_=(false,1400):=by unfold BF;rw [h];simp only [hc,if_false]
theorem Hv {m:Ad} {at_:Int} {s:Af} {x:Av} (h:CA m at_=some (s,x)) (hc:x.code=2):BF m at_=(!AG x.b s.label,0):=by unfold BF;rw [h];simp only [hc,if_true]
theorem PU (i:Nat) (pf:Bool) (m:Ad) (hm:SmM m) (at_:Int):Aa (Lv ctx (i+9)) 62 [eM pf m,iV at_]=some (.tup [bV (BF m at_).1,iV (BF m at_).2]):=by
 have qr:=fun v h=>Hr (i+7) pf m at_ v h
 have qh:=Hk (i+0) pf m at_ hm
 simp only [Nat.add_assoc,Nat.reduceAdd] at qr qh
 cases DS m at_ with
 | no h =>
  have e:BF m at_=(false,1400):=Ko (Ga h)
  rw [e]
  refine Ac rfl 0 (by rfl) ?_
  delta c62
  cases pf<;>simp +contextual -dsimp -implicitDefEqProofs (maxSteps:=5000000) only [qh,h,go_sem,simprocAttr]
 | off k s e0 hs hM hS hst =>
  subst e0
  have e:BF m k=(false,1400):=Ko (CC hs hM hst)
  rw [e]
  have hh:=Bf hs hM
  have q:=qr (-1) ⟨k,s,rfl,hs,hS,.inl ⟨hst,rfl⟩⟩
  refine Ac rfl 0 (by rfl) ?_
  delta c62
  cases pf<;>simp +contextual -dsimp -implicitDefEqProofs (maxSteps:=5000000) only [qh,hh,q,go_sem,simprocAttr]
 | fin k s e0 hs hM hS hst hp =>
  subst e0
  have e:BF m k=(false,1400):=Ko (EB hs hM hst hp)
  rw [e]
  have hh:=Bf hs hM
  have q:=qr (-1) ⟨k,s,rfl,hs,hS,.inr (.inl ⟨hst,hp,rfl⟩)⟩
  refine Ac rfl 0 (by rfl) ?_
  delta c62
  cases pf<;>simp +contextual -dsimp -implicitDefEqProofs (maxSteps:=5000000) only [qh,hh,q,go_sem,simprocAttr]
 | on k n s x e0 hs hM hS hst hp hn hi =>
  subst e0
  have q:=qr x.code ⟨k,s,rfl,hs,hS,.inr (.inr ⟨hst,n,x,hp,hi,rfl⟩)⟩
  have hk:=Au hs
  have e1:(0≤(k:Int))=True:=by simp
  have e2:((k:Int)<(m.sess.length:Int))=True:=by simpa using hk
  have e5:∀ x,((m.sess.map oS).set k x)[k]?=some x:=fun x=>List.getElem?_set_self (by simpa using hk)
  have e4:∀ x y,((m.sess.map oS).set k x).set k y=(m.sess.map oS).set k y:=fun x y=>List.set_set ..
  have hh:=Bf hs hM
  have p1:(0≤(n:Int))=True:=by simp
  have p2:((n:Int)<(s.prog.length:Int))=True:=by simpa using hn
  have p3:decide ((s.prog.length:Int)≤(n:Int))=false:=by simp;omega
  have z0:decide (s.step=0)=true:=by simpa using hst
  by_cases hc:x.code=2
  ·have e:BF m k=(!AG x.b s.label,0):=Hv (Dp hs hM hst hp hi) hc
   rw [e]
   have c2:decide (x.code=2)=true:=by simpa using hc
   refine Ac rfl 0 (by rfl) ?_
   delta c62
   cases pf<;>simp +contextual -dsimp -implicitDefEqProofs (maxSteps:=5000000) only [qh,hh,q,c2,hs,e1,e2,e4,e5,List.length_set,p1,p2,p3,z0,hp,hi,go_sem,simprocAttr]
  ·have e:BF m k=(false,1400):=MV (Dp hs hM hst hp hi) hc
   rw [e]
   have c2:decide (x.code=2)=false:=by simpa using hc
   refine Ac rfl 0 (by rfl) ?_
   delta c62
   cases pf<;>simp +contextual -dsimp -implicitDefEqProofs (maxSteps:=5000000) only [qh,hh,q,c2,go_sem,simprocAttr]
theorem Kn {m:Ad} {at_:Int} (h:CA m at_=none∨∃ s x,CA m at_=some (s,x)∧¬ x.code=2):BF m at_=(false,1400)∧Bn m at_=(AN,1400)∧BX m at_=(AN,1500):=by
 rcases h with h | ⟨s,x,h,hc⟩
 ·refine ⟨Ko h,?_,?_⟩
  ·unfold Bn;rw [h]
  ·unfold BX;rw [h]
 ·refine ⟨MV h hc,?_,?_⟩
  ·unfold Bn;rw [h];simp only [hc,if_false]
  ·unfold BX;rw [h];simp only [hc,if_false]
theorem Gy (m:Ad) (at_:Int):(CA m at_=none∨∃ s x,CA m at_=some (s,x)∧¬ x.code=2)∨∃ (k n:Nat) (s:Af) (x:Av),at_=(k:Nat)∧m.sess[k]?=some s∧Bo m∧SP m.words s∧s.step=0∧s.pc=(n:Int)∧n<s.prog.length∧s.prog[n]?=some x∧x.code=2∧CA m at_=some (s,x):=by
 cases DS m at_ with
 | no h=>exact .inl (.inl (Ga h))
 | off k s e0 hs hM hS hst=>subst e0;exact .inl (.inl (CC hs hM hst))
 | fin k s e0 hs hM hS hst hp=>subst e0;exact .inl (.inl (EB hs hM hst hp))
 | on k n s x e0 hs hM hS hst hp hn hi =>
  subst e0
  by_cases hc:x.code=2
  ·exact .inr ⟨k,n,s,x,rfl,hs,hM,hS,hst,hp,hn,hi,hc,Dp hs hM hst hp hi⟩
  ·exact .inl (.inr ⟨s,x,Dp hs hM hst hp hi,hc⟩)
theorem jR (i:Nat) (pf:Bool) (m:Ad) (hm:SmM m) (at_:Int):Aa (Lv ctx (i+10)) 63 [eM pf m,iV at_]=some (.tup [oM (Bn m at_).1,iV (Bn m at_).2]):=by
 have qn:=PU (i+0) pf m hm at_
 have qc:=FV (i+7) pf m hm
 have qe:=Ot (i+0) pf m hm at_ 4 0
 rcases Gy m at_ with h | ⟨k,n,s,x,rfl,hs,hM,hS,hst,hp,hn,hi,hc,hcur⟩
 ·obtain ⟨g1,g2,_⟩:=Kn h
  rw [g2,AH]
  rw [g1] at qn
  simp only [Nat.add_assoc,Nat.reduceAdd] at qn
  refine Ac rfl 0 (by rfl) ?_
  delta c63
  cases pf<;>simp +contextual -dsimp -implicitDefEqProofs (maxSteps:=5000000) only [qn,go_sem,simprocAttr]
 ·have ql:=fun l=>JH (i+8) m k s hs 2 l
  rw [Hv hcur hc] at qn
  simp only [Nat.add_assoc,Nat.reduceAdd] at qn qc qe ql
  have hk:=Au hs
  have e1:(0≤(k:Int))=True:=by simp
  have e2:((k:Int)<(m.sess.length:Int))=True:=by simpa using hk
  have e5:∀ x,((m.sess.map oS).set k x)[k]?=some x:=fun x=>List.getElem?_set_self (by simpa using hk)
  have e4:∀ x y,((m.sess.map oS).set k x).set k y=(m.sess.map oS).set k y:=fun x y=>List.set_set ..
  have hh:=Bf hs hM
  have p1:(0≤(n:Int))=True:=by simp
  have p2:((n:Int)<(s.prog.length:Int))=True:=by simpa using hn
  have p3:decide ((s.prog.length:Int)≤(n:Int))=false:=by simp;omega
  have z0:decide (s.step=0)=true:=by simpa using hst
  cases hu:AG x.b s.label
  ·rw [hu] at qn
   cases hcl:AG (orI s.label x.b) s.clear
   ·have e:Bn m k=CL m k 4 0:=by unfold Bn;rw [hcur];simp only [hc,hu,hcl];rfl
    rw [e]
    refine Ac rfl 0 (by rfl) ?_
    delta c63
    cases pf<;>simp +contextual -dsimp -implicitDefEqProofs (maxSteps:=5000000) only [qn,qe,hcl,hs,e1,e2,e4,e5,List.length_set,p1,p2,p3,z0,hp,hi,go_sem,simprocAttr]
   ·have e:Bn m k=(AA (AT m ⟨s.id,s.label,2,orI s.label x.b⟩) k { s with label:=orI s.label x.b },0):=by unfold Bn;rw [hcur];simp only [hc,hu,hcl];rfl
    rw [e]
    simp only [oM,cO,oWs,oSs,oEs,AA,List.map_set,oS,CZ,Dj,Ih,Fl] at ql
    refine Ac rfl 0 (by rfl) ?_
    delta c63
    cases pf
    ·simp +contextual -dsimp -implicitDefEqProofs (maxSteps:=5000000) only [qn,qc,ql,hcl,hs,e1,e2,e4,e5,List.length_set,p1,p2,p3,z0,hp,hi,go_sem,simprocAttr]
     simp only [oM,cO,oWs,oSs,oEs,AA,List.map_set,oS,CZ,Dj,Ih,Fl]
    ·simp +contextual -dsimp -implicitDefEqProofs (maxSteps:=5000000) only [qn,qc,ql,hcl,hs,e1,e2,e4,e5,List.length_set,p1,p2,p3,z0,hp,hi,go_sem,simprocAttr]
     simp only [oM,cO,oWs,oSs,oEs,AA,List.map_set,oS,CZ,Dj,Ih,Fl]
  ·have e:Bn m k=(AN,1400):=by unfold Bn;rw [hcur];simp only [hc,hu];rfl
   rw [e,AH]
   rw [hu] at qn
   refine Ac rfl 0 (by rfl) ?_
   delta c63
   cases pf<;>simp +contextual -dsimp -implicitDefEqProofs (maxSteps:=5000000) only [qn,go_sem,simprocAttr]
end Ve
namespace Ve
open Go Ve.Ab
set_option maxHeartbeats 16000000
set_option maxRecDepth 10000
theorem hX (a b:Af):a=b↔a.id=b.id∧a.label=b.label∧a.clear=b.clear∧a.prog=b.prog∧a.step=b.step∧a.pc=b.pc∧a.regs.a0=b.regs.a0∧a.regs.a1=b.regs.a1∧a.regs.a2=b.regs.a2∧a.regs.a3=b.regs.a3∧a.reads=b.reads∧a.writes=b.writes∧a.at_=b.at_∧a.stamp=b.stamp∧a.tries=b.tries∧a.result=b.result∧a.told=b.told:=by
 rcases a with ⟨_,_,_,_,_,_,⟨_,_,_,_⟩,_,_,_,_,_,_,_⟩
 rcases b with ⟨_,_,_,_,_,_,⟨_,_,_,_⟩,_,_,_,_,_,_,_⟩
 simp [and_assoc]
def Hd (b:Bool) (q:Out→St→Option Ans) (Q:V→Hp→Nat→Prop) (s1 s2:St):Prop :=
 match b with
 | true=>Fin (q (.exit 0) s1) Q
 | false=>Fin (q .ret s2) Q
theorem CH (q:Out→St→Option Ans) (Q:V→Hp→Nat→Prop) (s1 s2:St):Hd true q Q s1 s2=Fin (q (.exit 0) s1) Q:=(rfl)
theorem CI (q:Out→St→Option Ans) (Q:V→Hp→Nat→Prop) (s1 s2:St):Hd false q Q s1 s2=Fin (q .ret s2) Q:=(rfl)
theorem Lx (i k:Nat) (pa na pb nb:Bool) (xs ys:List Al) (hx:xs.length≤BB) (q:Out→St→Option Ans) (Q:V→Hp→Nat→Prop) (u:Dum (fun s q=>evC ctx (Lv ctx i) (Aa (Lv ctx i)) k Pq s (As [0,1,5] q))) (w:Dum q):∀ (suf suf' pre pre':List Al) (kk:Nat),xs=pre++suf→ys=pre'++suf'→pre.length=pre'.length→suf.length=suf'.length→suf.length<kk →
  GL 0 [0,1,5] (fun s q=>evC ctx (Lv ctx i) (Aa (Lv ctx i)) k Pq s (As [0,1,5] q)) q kk ⟨Ae [0,1,5] [.isl pa na 3 (xs.map eW),.isl pb nb 3 (ys.map eW),iV pre.length],Ag,0⟩ Q u w=Hd (decide (suf=suf')) q Q ⟨Ae [] [],Ag,0⟩ ⟨Ae [4] [bV false],Ag,0⟩
 | [],suf',pre,pre',kk,hxs,hys,hpl,hsl,hk=>by
  obtain ⟨kk,rfl⟩:∃ m,kk=m+1:=⟨kk - 1,by simp at hk;omega⟩
  obtain rfl:suf'=[]:=by cases suf'<;>simp_all
  have h1:decide ((pre.length:Int)<xs.length)=false:=by simp [hxs]
  simp +contextual -dsimp -implicitDefEqProofs (maxSteps:=5000000) only [gLs,↓Aj (Pq.eq_1),h1,CH,go_sem,simprocAttr]
 | a::suf,[],pre,pre',kk,hxs,hys,hpl,hsl,hk=>by simp at hsl
 | a::suf,b::suf',pre,pre',kk,hxs,hys,hpl,hsl,hk=>by
  obtain ⟨kk,rfl⟩:∃ m,kk=m+1:=⟨kk - 1,by simp at hk;omega⟩
  have hl:pre.length<xs.length:=by simp [hxs]
  have hl':pre.length<ys.length:=by simp [hys,hpl]
  have h2:((pre.length:Int)<xs.length)=True:=by simpa using hl
  have h2':((pre.length:Int)<ys.length)=True:=by simpa using hl'
  have h3:(0≤(pre.length:Int))=True:=by simp
  have h4:=wrN pre.length (by omega)
  have hg:xs[pre.length]?=some a:=by simp [hxs]
  have hg':ys[pre.length]?=some b:=by simp [hys,hpl]
  have ih:=Lx i k pa na pb nb xs ys hx q Q u w suf suf' (pre++[a]) (pre'++[b]) kk (by simp [hxs]) (by simp [hys]) (by simpa using hpl) (by simpa using hsl) (by simpa using hk)
  rw [Ao] at ih
  by_cases hab:a=b
  ·subst hab
   have hd:decide (a::suf=a::suf')=decide (suf=suf'):=by simp
   rw [hd]
   simp +contextual -dsimp -implicitDefEqProofs (maxSteps:=5000000) only [gLs,↓Aj (Pq.eq_1),h2,h2',h3,h4,hg,hg',ih,go_sem,simprocAttr]
  ·have hne:(decide (a.val=b.val)&&(decide (a.ver=b.ver)&&(decide (a.lock=b.lock))))=false:=by cases a;cases b;simp_all
   have hd:decide (a::suf=b::suf')=false:=by simp [hab]
   rw [hd]
   simp +contextual -dsimp -implicitDefEqProofs (maxSteps:=5000000) only [gLs,↓Aj (Pq.eq_1),h2,h2',h3,h4,hg,hg',hne,CI,go_sem,simprocAttr]
theorem GQ (i:Nat) (pa na pb nb:Bool) (xs ys:List Al) (hx:xs.length≤BB):Aa (Lv ctx (i+1)) 84 [.isl pa na 3 (xs.map eW),.isl pb nb 3 (ys.map eW)]=some (bV (decide (xs=ys))):=by
 refine Ac rfl (xs.length+1) (by rfl) ?_
 delta c84
 by_cases hl:xs.length=ys.length
 ·have h1:decide ((xs.length:Int)=ys.length)=true:=by simp [hl]
  have h2:=fun q Q u w=>Lx i (xs.length+1) pa na pb nb xs ys hx q Q u w xs ys [] [] (xs.length+1) rfl rfl rfl hl (by omega)
  simp only [List.length_nil,Int.natCast_zero] at h2
  cases hb:decide (xs=ys)<;>rw [hb] at h2<;>simp +contextual -dsimp -implicitDefEqProofs (maxSteps:=5000000) only [h1,h2,CH,CI,go_sem,simprocAttr]
 ·have h1:decide ((xs.length:Int)=ys.length)=false:=by simpa using fun h:(xs.length:Int)=ys.length=>hl (by omega)
  have h2:decide (xs=ys)=false:=by simpa using fun h:xs=ys=>hl (by rw [h])
  simp +contextual -dsimp -implicitDefEqProofs (maxSteps:=5000000) only [h1,h2,go_sem,simprocAttr]
theorem Lz (i k:Nat) (pa na pb nb:Bool) (xs ys:List Av) (hx:xs.length≤BB) (q:Out→St→Option Ans) (Q:V→Hp→Nat→Prop) (u:Dum (fun s q=>evC ctx (Lv ctx i) (Aa (Lv ctx i)) k Pp s (As [0,1,5] q))) (w:Dum q):∀ (suf suf' pre pre':List Av) (kk:Nat),xs=pre++suf→ys=pre'++suf'→pre.length=pre'.length→suf.length=suf'.length→suf.length<kk →
  GL 0 [0,1,5] (fun s q=>evC ctx (Lv ctx i) (Aa (Lv ctx i)) k Pp s (As [0,1,5] q)) q kk ⟨Ae [0,1,5] [.isl pa na 4 (xs.map eI),.isl pb nb 4 (ys.map eI),iV pre.length],Ag,0⟩ Q u w=Hd (decide (suf=suf')) q Q ⟨Ae [] [],Ag,0⟩ ⟨Ae [4] [bV false],Ag,0⟩
 | [],suf',pre,pre',kk,hxs,hys,hpl,hsl,hk=>by
  obtain ⟨kk,rfl⟩:∃ m,kk=m+1:=⟨kk - 1,by simp at hk;omega⟩
  obtain rfl:suf'=[]:=by cases suf'<;>simp_all
  have h1:decide ((pre.length:Int)<xs.length)=false:=by simp [hxs]
  simp +contextual -dsimp -implicitDefEqProofs (maxSteps:=5000000) only [gLs,↓Aj (Pp.eq_1),h1,CH,go_sem,simprocAttr]
 | a::suf,[],pre,pre',kk,hxs,hys,hpl,hsl,hk=>by simp at hsl
 | a::suf,b::suf',pre,pre',kk,hxs,hys,hpl,hsl,hk=>by
  obtain ⟨kk,rfl⟩:∃ m,kk=m+1:=⟨kk - 1,by simp at hk;omega⟩
  have hl:pre.length<xs.length:=by simp [hxs]
  have hl':pre.length<ys.length:=by simp [hys,hpl]
  have h2:((pre.length:Int)<xs.length)=True:=by simpa using hl
  have h2':((pre.length:Int)<ys.length)=True:=by simpa using hl'
  have h3:(0≤(pre.length:Int))=True:=by simp
  have h4:=wrN pre.length (by omega)
  have hg:xs[pre.length]?=some a:=by simp [hxs]
  have hg':ys[pre.length]?=some b:=by simp [hys,hpl]
  have ih:=Lz i k pa na pb nb xs ys hx q Q u w suf suf' (pre++[a]) (pre'++[b]) kk (by simp [hxs]) (by simp [hys]) (by simpa using hpl) (by simpa using hsl) (by simpa using hk)
  rw [Ao] at ih
  by_cases hab:a=b
  ·subst hab
   have hd:decide (a::suf=a::suf')=decide (suf=suf'):=by simp
   rw [hd]
   simp +contextual -dsimp -implicitDefEqProofs (maxSteps:=5000000) only [gLs,↓Aj (Pp.eq_1),h2,h2',h3,h4,hg,hg',ih,go_sem,simprocAttr]
  ·have hne:(decide (a.code=b.code)&&(decide (a.a=b.a)&&(decide (a.b=b.b)&&(decide (a.c=b.c)))))=false:=by cases a;cases b;simp_all
   have hd:decide (a::suf=b::suf')=false:=by simp [hab]
   rw [hd]
   simp +contextual -dsimp -implicitDefEqProofs (maxSteps:=5000000) only [gLs,↓Aj (Pp.eq_1),h2,h2',h3,h4,hg,hg',hne,CI,go_sem,simprocAttr]
theorem Sf (i:Nat) (pa na pb nb:Bool) (xs ys:List Av) (hx:xs.length≤BB):Aa (Lv ctx (i+1)) 85 [.isl pa na 4 (xs.map eI),.isl pb nb 4 (ys.map eI)]=some (bV (decide (xs=ys))):=by
 refine Ac rfl (xs.length+1) (by rfl) ?_
 delta c85
 by_cases hl:xs.length=ys.length
 ·have h1:decide ((xs.length:Int)=ys.length)=true:=by simp [hl]
  have h2:=fun q Q u w=>Lz i (xs.length+1) pa na pb nb xs ys hx q Q u w xs ys [] [] (xs.length+1) rfl rfl rfl hl (by omega)
  simp only [List.length_nil,Int.natCast_zero] at h2
  cases hb:decide (xs=ys)<;>rw [hb] at h2<;>simp +contextual -dsimp -implicitDefEqProofs (maxSteps:=5000000) only [h1,h2,CH,CI,go_sem,simprocAttr]
 ·have h1:decide ((xs.length:Int)=ys.length)=false:=by simpa using fun h:(xs.length:Int)=ys.length=>hl (by omega)
  have h2:decide (xs=ys)=false:=by simpa using fun h:xs=ys=>hl (by rw [h])
  simp +contextual -dsimp -implicitDefEqProofs (maxSteps:=5000000) only [h1,h2,go_sem,simprocAttr]
theorem Ly (i k:Nat) (pa na pb nb:Bool) (xs ys:List AO) (hx:xs.length≤BB) (q:Out→St→Option Ans) (Q:V→Hp→Nat→Prop) (u:Dum (fun s q=>evC ctx (Lv ctx i) (Aa (Lv ctx i)) k Po s (As [0,1,5] q))) (w:Dum q):∀ (suf suf' pre pre':List AO) (kk:Nat),xs=pre++suf→ys=pre'++suf'→pre.length=pre'.length→suf.length=suf'.length→suf.length<kk →
  GL 0 [0,1,5] (fun s q=>evC ctx (Lv ctx i) (Aa (Lv ctx i)) k Po s (As [0,1,5] q)) q kk ⟨Ae [0,1,5] [.isl pa na 3 (xs.map eR),.isl pb nb 3 (ys.map eR),iV pre.length],Ag,0⟩ Q u w=Hd (decide (suf=suf')) q Q ⟨Ae [] [],Ag,0⟩ ⟨Ae [4] [bV false],Ag,0⟩
 | [],suf',pre,pre',kk,hxs,hys,hpl,hsl,hk=>by
  obtain ⟨kk,rfl⟩:∃ m,kk=m+1:=⟨kk - 1,by simp at hk;omega⟩
  obtain rfl:suf'=[]:=by cases suf'<;>simp_all
  have h1:decide ((pre.length:Int)<xs.length)=false:=by simp [hxs]
  simp +contextual -dsimp -implicitDefEqProofs (maxSteps:=5000000) only [gLs,↓Aj (Po.eq_1),h1,CH,go_sem,simprocAttr]
 | a::suf,[],pre,pre',kk,hxs,hys,hpl,hsl,hk=>by simp at hsl
 | a::suf,b::suf',pre,pre',kk,hxs,hys,hpl,hsl,hk=>by
  obtain ⟨kk,rfl⟩:∃ m,kk=m+1:=⟨kk - 1,by simp at hk;omega⟩
  have hl:pre.length<xs.length:=by simp [hxs]
  have hl':pre.length<ys.length:=by simp [hys,hpl]
  have h2:((pre.length:Int)<xs.length)=True:=by simpa using hl
  have h2':((pre.length:Int)<ys.length)=True:=by simpa using hl'
  have h3:(0≤(pre.length:Int))=True:=by simp
  have h4:=wrN pre.length (by omega)
  have hg:xs[pre.length]?=some a:=by simp [hxs]
  have hg':ys[pre.length]?=some b:=by simp [hys,hpl]
  have ih:=Ly i k pa na pb nb xs ys hx q Q u w suf suf' (pre++[a]) (pre'++[b]) kk (by simp [hxs]) (by simp [hys]) (by simpa using hpl) (by simpa using hsl) (by simpa using hk)
  rw [Ao] at ih
  by_cases hab:a=b
  ·subst hab
   have hd:decide (a::suf=a::suf')=decide (suf=suf'):=by simp
   rw [hd]
   simp +contextual -dsimp -implicitDefEqProofs (maxSteps:=5000000) only [gLs,↓Aj (Po.eq_1),h2,h2',h3,h4,hg,hg',ih,go_sem,simprocAttr]
  ·have hne:(decide (a.level=b.level)&&(decide (a.index=b.index)&&(decide (a.ver=b.ver))))=false:=by cases a;cases b;simp_all
   have hd:decide (a::suf=b::suf')=false:=by simp [hab]
   rw [hd]
   simp +contextual -dsimp -implicitDefEqProofs (maxSteps:=5000000) only [gLs,↓Aj (Po.eq_1),h2,h2',h3,h4,hg,hg',hne,CI,go_sem,simprocAttr]
theorem Se (i:Nat) (pa na pb nb:Bool) (xs ys:List AO) (hx:xs.length≤BB):Aa (Lv ctx (i+1)) 86 [.isl pa na 3 (xs.map eR),.isl pb nb 3 (ys.map eR)]=some (bV (decide (xs=ys))):=by
 refine Ac rfl (xs.length+1) (by rfl) ?_
 delta c86
 by_cases hl:xs.length=ys.length
 ·have h1:decide ((xs.length:Int)=ys.length)=true:=by simp [hl]
  have h2:=fun q Q u w=>Ly i (xs.length+1) pa na pb nb xs ys hx q Q u w xs ys [] [] (xs.length+1) rfl rfl rfl hl (by omega)
  simp only [List.length_nil,Int.natCast_zero] at h2
  cases hb:decide (xs=ys)<;>rw [hb] at h2<;>simp +contextual -dsimp -implicitDefEqProofs (maxSteps:=5000000) only [h1,h2,CH,CI,go_sem,simprocAttr]
 ·have h1:decide ((xs.length:Int)=ys.length)=false:=by simpa using fun h:(xs.length:Int)=ys.length=>hl (by omega)
  have h2:decide (xs=ys)=false:=by simpa using fun h:xs=ys=>hl (by rw [h])
  simp +contextual -dsimp -implicitDefEqProofs (maxSteps:=5000000) only [h1,h2,go_sem,simprocAttr]
theorem Ks (i k:Nat) (pa na pb nb:Bool) (xs ys:List Ak) (hx:xs.length≤BB) (q:Out→St→Option Ans) (Q:V→Hp→Nat→Prop) (u:Dum (fun s q=>evC ctx (Lv ctx i) (Aa (Lv ctx i)) k Pn s (As [0,1,5] q))) (w:Dum q):∀ (suf suf' pre pre':List Ak) (kk:Nat),xs=pre++suf→ys=pre'++suf'→pre.length=pre'.length→suf.length=suf'.length→suf.length<kk →
  GL 0 [0,1,5] (fun s q=>evC ctx (Lv ctx i) (Aa (Lv ctx i)) k Pn s (As [0,1,5] q)) q kk ⟨Ae [0,1,5] [.isl pa na 3 (xs.map eWr),.isl pb nb 3 (ys.map eWr),iV pre.length],Ag,0⟩ Q u w=Hd (decide (suf=suf')) q Q ⟨Ae [] [],Ag,0⟩ ⟨Ae [4] [bV false],Ag,0⟩
 | [],suf',pre,pre',kk,hxs,hys,hpl,hsl,hk=>by
  obtain ⟨kk,rfl⟩:∃ m,kk=m+1:=⟨kk - 1,by simp at hk;omega⟩
  obtain rfl:suf'=[]:=by cases suf'<;>simp_all
  have h1:decide ((pre.length:Int)<xs.length)=false:=by simp [hxs]
  simp +contextual -dsimp -implicitDefEqProofs (maxSteps:=5000000) only [gLs,↓Aj (Pn.eq_1),h1,CH,go_sem,simprocAttr]
 | a::suf,[],pre,pre',kk,hxs,hys,hpl,hsl,hk=>by simp at hsl
 | a::suf,b::suf',pre,pre',kk,hxs,hys,hpl,hsl,hk=>by
  obtain ⟨kk,rfl⟩:∃ m,kk=m+1:=⟨kk - 1,by simp at hk;omega⟩
  have hl:pre.length<xs.length:=by simp [hxs]
  have hl':pre.length<ys.length:=by simp [hys,hpl]
  have h2:((pre.length:Int)<xs.length)=True:=by simpa using hl
  have h2':((pre.length:Int)<ys.length)=True:=by simpa using hl'
  have h3:(0≤(pre.length:Int))=True:=by simp
  have h4:=wrN pre.length (by omega)
  have hg:xs[pre.length]?=some a:=by simp [hxs]
  have hg':ys[pre.length]?=some b:=by simp [hys,hpl]
  have ih:=Ks i k pa na pb nb xs ys hx q Q u w suf suf' (pre++[a]) (pre'++[b]) kk (by simp [hxs]) (by simp [hys]) (by simpa using hpl) (by simpa using hsl) (by simpa using hk)
  rw [Ao] at ih
  by_cases hab:a=b
  ·subst hab
   have hd:decide (a::suf=a::suf')=decide (suf=suf'):=by simp
   rw [hd]
   simp +contextual -dsimp -implicitDefEqProofs (maxSteps:=5000000) only [gLs,↓Aj (Pn.eq_1),h2,h2',h3,h4,hg,hg',ih,go_sem,simprocAttr]
  ·have hne:(decide (a.level=b.level)&&(decide (a.index=b.index)&&(decide (a.val=b.val))))=false:=by cases a;cases b;simp_all
   have hd:decide (a::suf=b::suf')=false:=by simp [hab]
   rw [hd]
   simp +contextual -dsimp -implicitDefEqProofs (maxSteps:=5000000) only [gLs,↓Aj (Pn.eq_1),h2,h2',h3,h4,hg,hg',hne,CI,go_sem,simprocAttr]
theorem PJ (i:Nat) (pa na pb nb:Bool) (xs ys:List Ak) (hx:xs.length≤BB):Aa (Lv ctx (i+1)) 87 [.isl pa na 3 (xs.map eWr),.isl pb nb 3 (ys.map eWr)]=some (bV (decide (xs=ys))):=by
 refine Ac rfl (xs.length+1) (by rfl) ?_
 delta c87
 by_cases hl:xs.length=ys.length
 ·have h1:decide ((xs.length:Int)=ys.length)=true:=by simp [hl]
  have h2:=fun q Q u w=>Ks i (xs.length+1) pa na pb nb xs ys hx q Q u w xs ys [] [] (xs.length+1) rfl rfl rfl hl (by omega)
  simp only [List.length_nil,Int.natCast_zero] at h2
  cases hb:decide (xs=ys)<;>rw [hb] at h2<;>simp +contextual -dsimp -implicitDefEqProofs (maxSteps:=5000000) only [h1,h2,CH,CI,go_sem,simprocAttr]
 ·have h1:decide ((xs.length:Int)=ys.length)=false:=by simpa using fun h:(xs.length:Int)=ys.length=>hl (by omega)
  have h2:decide (xs=ys)=false:=by simpa using fun h:xs=ys=>hl (by rw [h])
  simp +contextual -dsimp -implicitDefEqProofs (maxSteps:=5000000) only [h1,h2,go_sem,simprocAttr]
theorem Kt (i k:Nat) (pa na pb nb:Bool) (xs ys:List Bl) (hx:xs.length≤BB) (q:Out→St→Option Ans) (Q:V→Hp→Nat→Prop) (u:Dum (fun s q=>evC ctx (Lv ctx i) (Aa (Lv ctx i)) k Pu s (As [0,1,5] q))) (w:Dum q):∀ (suf suf' pre pre':List Bl) (kk:Nat),xs=pre++suf→ys=pre'++suf'→pre.length=pre'.length→suf.length=suf'.length→suf.length<kk →
  GL 0 [0,1,5] (fun s q=>evC ctx (Lv ctx i) (Aa (Lv ctx i)) k Pu s (As [0,1,5] q)) q kk ⟨Ae [0,1,5] [.isl pa na 4 (xs.map eE),.isl pb nb 4 (ys.map eE),iV pre.length],Ag,0⟩ Q u w=Hd (decide (suf=suf')) q Q ⟨Ae [] [],Ag,0⟩ ⟨Ae [4] [bV false],Ag,0⟩
 | [],suf',pre,pre',kk,hxs,hys,hpl,hsl,hk=>by
  obtain ⟨kk,rfl⟩:∃ m,kk=m+1:=⟨kk - 1,by simp at hk;omega⟩
  obtain rfl:suf'=[]:=by cases suf'<;>simp_all
  have h1:decide ((pre.length:Int)<xs.length)=false:=by simp [hxs]
  simp +contextual -dsimp -implicitDefEqProofs (maxSteps:=5000000) only [gLs,↓Aj (Pu.eq_1),h1,CH,go_sem,simprocAttr]
 | a::suf,[],pre,pre',kk,hxs,hys,hpl,hsl,hk=>by simp at hsl
 | a::suf,b::suf',pre,pre',kk,hxs,hys,hpl,hsl,hk=>by
  obtain ⟨kk,rfl⟩:∃ m,kk=m+1:=⟨kk - 1,by simp at hk;omega⟩
  have hl:pre.length<xs.length:=by simp [hxs]
  have hl':pre.length<ys.length:=by simp [hys,hpl]
  have h2:((pre.length:Int)<xs.length)=True:=by simpa using hl
  have h2':((pre.length:Int)<ys.length)=True:=by simpa using hl'
  have h3:(0≤(pre.length:Int))=True:=by simp
  have h4:=wrN pre.length (by omega)
  have hg:xs[pre.length]?=some a:=by simp [hxs]
  have hg':ys[pre.length]?=some b:=by simp [hys,hpl]
  have ih:=Kt i k pa na pb nb xs ys hx q Q u w suf suf' (pre++[a]) (pre'++[b]) kk (by simp [hxs]) (by simp [hys]) (by simpa using hpl) (by simpa using hsl) (by simpa using hk)
  rw [Ao] at ih
  by_cases hab:a=b
  ·subst hab
   have hd:decide (a::suf=a::suf')=decide (suf=suf'):=by simp
   rw [hd]
   simp +contextual -dsimp -implicitDefEqProofs (maxSteps:=5000000) only [gLs,↓Aj (Pu.eq_1),h2,h2',h3,h4,hg,hg',ih,go_sem,simprocAttr]
  ·have hne:(decide (a.id=b.id)&&(decide (a.label=b.label)&&(decide (a.kind=b.kind)&&(decide (a.val=b.val)))))=false:=by cases a;cases b;simp_all
   have hd:decide (a::suf=b::suf')=false:=by simp [hab]
   rw [hd]
   simp +contextual -dsimp -implicitDefEqProofs (maxSteps:=5000000) only [gLs,↓Aj (Pu.eq_1),h2,h2',h3,h4,hg,hg',hne,CI,go_sem,simprocAttr]
theorem PK (i:Nat) (pa na pb nb:Bool) (xs ys:List Bl) (hx:xs.length≤BB):Aa (Lv ctx (i+1)) 20 [.isl pa na 4 (xs.map eE),.isl pb nb 4 (ys.map eE)]=some (bV (decide (xs=ys))):=by
 refine Ac rfl (xs.length+1) (by rfl) ?_
 delta c20
 by_cases hl:xs.length=ys.length
 ·have h1:decide ((xs.length:Int)=ys.length)=true:=by simp [hl]
  have h2:=fun q Q u w=>Kt i (xs.length+1) pa na pb nb xs ys hx q Q u w xs ys [] [] (xs.length+1) rfl rfl rfl hl (by omega)
  simp only [List.length_nil,Int.natCast_zero] at h2
  cases hb:decide (xs=ys)<;>rw [hb] at h2<;>simp +contextual -dsimp -implicitDefEqProofs (maxSteps:=5000000) only [h1,h2,CH,CI,go_sem,simprocAttr]
 ·have h1:decide ((xs.length:Int)=ys.length)=false:=by simpa using fun h:(xs.length:Int)=ys.length=>hl (by omega)
  have h2:decide (xs=ys)=false:=by simpa using fun h:xs=ys=>hl (by rw [h])
  simp +contextual -dsimp -implicitDefEqProofs (maxSteps:=5000000) only [h1,h2,go_sem,simprocAttr]
theorem NT (i:Nat) (pa pb:Bool) (a b:Af) (h1:a.prog.length≤BB) (h2:a.reads.length≤BB) (h3:a.writes.length≤BB):Aa (Lv ctx (i+2)) 43 [eS pa a,eS pb b]=some (bV (decide (a=b))):=by
 have e1:=Sf i pa false pb false a.prog b.prog h1
 have e2:=Se i pa false pb false a.reads b.reads h2
 have e3:=PJ i pa false pb false a.writes b.writes h3
 simp only [eS]
 refine Ac rfl 0 (by rfl) ?_
 delta c43
 simp +contextual -dsimp -implicitDefEqProofs (maxSteps:=5000000) only [e1,e2,e3,go_sem,simprocAttr]
 congr 2
 rw [Bool.eq_iff_iff]
 simp only [Bool.and_eq_true,decide_eq_true_eq,hX,and_assoc]
end Ve
namespace Ve
open Go Ve.Ab
set_option maxHeartbeats 16000000
set_option maxRecDepth 10000
@[go_sem] theorem s_num (i:Nat) (a:Int):Aa (Lv ctx (i+1)) 8 [iV a]=some (iV a):=by
 refine Ac rfl 0 (by rfl) ?_
 delta c8
 simp +contextual -dsimp -implicitDefEqProofs (maxSteps:=5000000) only [go_sem,simprocAttr]
theorem Sg (i:Nat) (pa pb:Bool) (a b:A4 (List Al)) (h0:a.a0.length≤BB) (h1:a.a1.length≤BB) (h2:a.a2.length≤BB) (h3:a.a3.length≤BB):Aa (Lv ctx (i+2)) 42 [.agg [eWs pa a.a0,eWs pa a.a1,eWs pa a.a2,eWs pa a.a3],.agg [eWs pb b.a0,eWs pb b.a1,eWs pb b.a2,eWs pb b.a3]]=some (bV (decide (a=b))):=by
 have e0:=GQ i pa false pb false a.a0 b.a0 h0
 have e1:=GQ i pa false pb false a.a1 b.a1 h1
 have e2:=GQ i pa false pb false a.a2 b.a2 h2
 have e3:=GQ i pa false pb false a.a3 b.a3 h3
 have key:decide (a=b)=(decide (a.a0=b.a0)&&decide (a.a1=b.a1)&&decide (a.a2=b.a2)&&decide (a.a3=b.a3)):=by
  rw [Bool.eq_iff_iff]
  simp only [Bool.and_eq_true,decide_eq_true_eq]
  rcases a with ⟨_,_,_,_⟩;rcases b with ⟨_,_,_,_⟩;simp [and_assoc]
 refine Ac rfl 5 (by rfl) ?_
 delta c42
 rw [key]
 cases c0:decide (a.a0=b.a0)
 ·simp +contextual -dsimp -implicitDefEqProofs (maxSteps:=5000000) only [gLs,↓Aj (TE.eq_1),e0,e1,e2,e3,c0,go_sem,simprocAttr]
 ·cases c1:decide (a.a1=b.a1)
  ·simp +contextual -dsimp -implicitDefEqProofs (maxSteps:=5000000) only [gLs,↓Aj (TE.eq_1),e0,e1,e2,e3,c0,c1,go_sem,simprocAttr]
  ·cases c2:decide (a.a2=b.a2)
   ·simp +contextual -dsimp -implicitDefEqProofs (maxSteps:=5000000) only [gLs,↓Aj (TE.eq_1),e0,e1,e2,e3,c0,c1,c2,go_sem,simprocAttr]
   ·cases c3:decide (a.a3=b.a3)<;>simp +contextual -dsimp -implicitDefEqProofs (maxSteps:=5000000) only [gLs,↓Aj (TE.eq_1),e0,e1,e2,e3,c0,c1,c2,c3,go_sem,simprocAttr]
theorem Wg (i k:Nat) (pa pb:Bool) (a b:Ad) (hm:SmM a) (q:Out→St→Option Ans) (Q:V→Hp→Nat→Prop) (u:Dum (fun s q=>evC ctx (Lv ctx (i+2)) (Aa (Lv ctx (i+2))) k Pw s (As [2,3,5] q))) (w:Dum q):∀ (suf suf' pre pre':List Af) (kk:Nat),a.sess=pre++suf→b.sess=pre'++suf'→pre.length=pre'.length→suf.length=suf'.length→suf.length<kk →
  GL 0 [2,3,5] (fun s q=>evC ctx (Lv ctx (i+2)) (Aa (Lv ctx (i+2))) k Pw s (As [2,3,5] q)) q kk ⟨Ae [2,3,5] [.ip pa (cM pa a) 0,.ip pb (cM pb b) 0,iV pre.length],Ag,0⟩ Q u w=Hd (decide (suf=suf')) q Q ⟨Ae [] [],Ag,0⟩ ⟨Ae [4] [bV false],Ag,0⟩
 | [],suf',pre,pre',kk,hxs,hys,hpl,hsl,hk=>by
  obtain ⟨kk,rfl⟩:∃ m,kk=m+1:=⟨kk - 1,by simp at hk;omega⟩
  obtain rfl:suf'=[]:=by cases suf'<;>simp_all
  have h1:decide ((pre.length:Int)<a.sess.length)=false:=by simp [hxs]
  simp +contextual -dsimp -implicitDefEqProofs (maxSteps:=5000000) only [gLs,↓Aj (Pw.eq_1),h1,CH,go_sem,simprocAttr]
 | x::suf,[],pre,pre',kk,hxs,hys,hpl,hsl,hk=>by simp at hsl
 | x::suf,y::suf',pre,pre',kk,hxs,hys,hpl,hsl,hk=>by
  obtain ⟨kk,rfl⟩:∃ m,kk=m+1:=⟨kk - 1,by simp at hk;omega⟩
  have hl:pre.length<a.sess.length:=by simp [hxs]
  have hl':pre.length<b.sess.length:=by simp [hys,hpl]
  have h2:((pre.length:Int)<a.sess.length)=True:=by simpa using hl
  have h2':((pre.length:Int)<b.sess.length)=True:=by simpa using hl'
  have h3:(0≤(pre.length:Int))=True:=by simp
  have h4:=wrN pre.length (by have:=hm.ss;omega)
  have hg:a.sess[pre.length]?=some x:=by simp [hxs]
  have hg':b.sess[pre.length]?=some y:=by simp [hys,hpl]
  have ih:=Wg i k pa pb a b hm q Q u w suf suf' (pre++[x]) (pre'++[y]) kk (by simp [hxs]) (by simp [hys]) (by simpa using hpl) (by simpa using hsl) (by simpa using hk)
  rw [Ao] at ih
  have hx:=hm.s x (by simp [hxs])
  have hs:=NT i pa pb x y hx.p hx.r hx.w
  simp only [eS] at hs
  by_cases hab:x=y
  ·subst hab
   have hd:decide (x::suf=x::suf')=decide (suf=suf'):=by simp
   rw [hd]
   simp +contextual -dsimp -implicitDefEqProofs (maxSteps:=5000000) only [gLs,↓Aj (Pw.eq_1),h2,h2',h3,h4,hg,hg',hs,ih,go_sem,simprocAttr]
  ·have hne:decide (x=y)=false:=by simpa using hab
   have hd:decide (x::suf=y::suf')=false:=by simp [hab]
   rw [hd]
   rw [hne] at hs
   simp +contextual -dsimp -implicitDefEqProofs (maxSteps:=5000000) only [gLs,↓Aj (Pw.eq_1),h2,h2',h3,h4,hg,hg',hs,CI,go_sem,simprocAttr]
theorem lC (a b:Ad):a=b↔(a.words=b.words∧(a.clocks.a0=b.clocks.a0∧a.clocks.a1=b.clocks.a1∧a.clocks.a2=b.clocks.a2∧a.clocks.a3=b.clocks.a3)∧a.ceil=b.ceil∧a.trace=b.trace)∧a.sess=b.sess:=by
 rcases a with ⟨_,⟨_,_,_,_⟩,_,_,_⟩;rcases b with ⟨_,⟨_,_,_,_⟩,_,_,_⟩;simp only [Ad.mk.injEq,A4.mk.injEq]
 constructor
 ·rintro ⟨h1,⟨h2,h3,h4,h5⟩,h6,h7,h8⟩;simp [*]
 ·rintro ⟨⟨h1,⟨h2,h3,h4,h5⟩,h6,h7⟩,h8⟩;simp [*]
theorem Hi (i:Nat) (pa pb:Bool) (a b:Ad) (hm:SmM a):Aa (Lv ctx (i+3)) 13 [eM pa a,eM pb b]=some (bV (decide (a=b))):=by
 have e1:=Sg i pa pb a.words b.words hm.w0 hm.w1 hm.w2 hm.w3
 have e2:=PK (i+1) pa false pb false a.trace b.trace hm.tr
 have hb:∀ a b c d e f g:Bool,(!a||!(b&&(c&&(d&&e)))||!f||!g)=!(a&&(b&&(c&&(d&&e)))&&f&&g):=by decide
 refine Ac rfl (a.sess.length+1) (by rfl) ?_
 delta c13
 have hL:decide ((a.sess.length:Int)=b.sess.length)=decide (a.sess.length=b.sess.length):=by apply decide_eq_decide.mpr;omega
 have hb5:∀ w c f l e:Bool,(!w||!c||!f||!l||!e)=!(w&&c&&f&&l&&e):=by decide
 cases hc:(decide (a.words=b.words)&&(decide (a.clocks.a0=b.clocks.a0)&&(decide (a.clocks.a1=b.clocks.a1)&&(decide (a.clocks.a2=b.clocks.a2)&&decide (a.clocks.a3=b.clocks.a3))))&&decide (a.ceil=b.ceil)&&decide (a.sess.length=b.sess.length)&&decide (a.trace=b.trace))
 ·have key:decide (a=b)=false:=by
   rw [← Bool.not_eq_true] at hc ⊢
   intro h
   simp only [decide_eq_true_eq] at h
   subst h
   exact hc (by simp)
  simp +contextual -dsimp -implicitDefEqProofs (maxSteps:=5000000) only [e1,e2,hL,hb5,hc,key,go_sem,simprocAttr]
 ·have hc':=hc
  simp only [Bool.and_eq_true,decide_eq_true_eq] at hc'
  have hlen:a.sess.length=b.sess.length:=hc'.1.2
  have key:decide (a=b)=decide (a.sess=b.sess):=by
   apply decide_eq_decide.mpr
   rw [lC]
   simp only [hc',and_self,true_and]
  have h2:=fun q Q u w=>Wg i (a.sess.length+1) pa pb a b hm q Q u w a.sess b.sess [] [] (a.sess.length+1) rfl rfl rfl hlen (by omega)
  simp only [List.length_nil,Int.natCast_zero] at h2
  rw [key]
  simp +contextual -dsimp -implicitDefEqProofs (maxSteps:=5000000) only [e1,e2,hL,hb5,hc,go_sem,simprocAttr]
  refine Eq.mpr (h2 _ _ _ _) ?_
  cases hb':decide (a.sess=b.sess)<;>simp +contextual -dsimp -implicitDefEqProofs (maxSteps:=5000000) only [CH,CI,go_sem,simprocAttr]
end Ve
