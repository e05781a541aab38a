/- Undoing: the reference's, on. -/
import Derived.Test.YtjgbbmcjbfpjfaaGreatVeSB
import Derived.Test.YtjgbbmcjbfpjfaaGreatVeP
import Derived.Test.YtjgbbmcjbfpjfaaGreatVeN
import Derived.Test.YtjgbbmcjbfpjfaaGreatVeSA
set_option linter.all false
set_option linter.unusedSectionVars false
namespace Ve
open Go Ve.Ab
set_option maxHeartbeats 16000000
set_option maxRecDepth 10000
theorem NI (i:Nat) (pf:Bool) (m:Ad) (hm:SmM m) (at_ kind:Int):Aa (Lv ctx (i+9)) 154 [eM pf m,iV at_,iV kind]=some (.tup [oM (BK m at_ kind).1,iV (BK m at_ kind).2]):=by
 have ht:=HM (i+0) pf m at_ hm
 simp only [Nat.add_assoc,Nat.reduceAdd] at ht
 have h2:∀ a b c:Bool,(!a||!b&&!c)=!(a&&(b||c)):=by decide
 have h3:=h2 (BT m at_) (decide (kind=3)) (decide (kind=5))
 cases h1:(BT m at_&&(decide (kind=3)||decide (kind=5)))<;>rw [h1] at h3
 ·refine Ac rfl 0 (by rfl) ?_
  delta c154
  simp +contextual -dsimp -implicitDefEqProofs (maxSteps:=5000000) only [ht,h3,go_sem,simprocAttr]
  simp only [BK,h1]
  rfl
 ·have hh:BT m at_=true:=by simp only [Bool.and_eq_true] at h1;exact h1.1
  obtain ⟨s,k,rfl,hs,hk⟩:=Jw hh
  have hm1:BK m k kind=(Ba (AE (BC (IntKind.wrap .i64 (s.id+1)) m) k (BJ s)) ⟨s.id,s.label,kind,Kn s.tries⟩,0):=by
   simp only [BK,h1,if_true,Int.toNat_natCast,hs]
  have hl:=Zh (i+5) pf m hm k s hs
  have htl:=KG (i+7) (AE (BC (IntKind.wrap .i64 (s.id+1)) m) k (BJ s)) k (BJ s) (by simp [AE,BC,hk]) kind (Kn s.tries)
  have e1:(0≤(k:Int))=True:=by simp
  have e2:((k:Int)<(m.sess.length:Int))=True:=by simpa using hk
  have e4:∀ x y,((m.sess.map oS).set k x).set k y=(m.sess.map oS).set k y:=fun x y=>List.set_set ..
  have e5:∀ x,((m.sess.map oS).set k x)[k]?=some x:=fun x=>List.getElem?_set_self (by simpa using hk)
  simp only [Nat.add_assoc,Nat.reduceAdd,oM,cO,oWs,oSs,oEs,AE,BC,List.map_set,DH,oS] at hl
  simp only [Nat.add_assoc,Nat.reduceAdd,oM,cO,oWs,oSs,oEs,AE,BC,List.map_set,BJ,DH,oS,Kn] at htl
  rw [hm1]
  refine Ac rfl 0 (by rfl) ?_
  delta c154
  simp +contextual -dsimp -implicitDefEqProofs (maxSteps:=5000000) only [ht,h3,hl,htl,hs,e1,e2,e4,e5,List.length_set,go_sem,simprocAttr]
  simp only [oM,cO,oWs,oSs,oEs,AE,BC,List.map_set,BJ,DH,oS,Kn]
theorem Qm (i:Nat) (pf:Bool) (m:Ad) (hm:SmM m) (at_ result told:Int):Aa (Lv ctx (i+9)) 150 [eM pf m,iV at_,iV result,iV told]=some (.tup [oM (CX m at_ result told).1,iV (CX m at_ result told).2]):=by
 have ht:=HM (i+0) pf m at_ hm
 simp only [Nat.add_assoc,Nat.reduceAdd] at ht
 have hf:∀ a b:Int,(decide (0≤a)&&decide (a≤b))=inR a b:=fun _ _=>(rfl)
 have h2:∀ a b c:Bool,(!a||!b||!c)=!(a&&b&&c):=by decide
 have h3:=h2 (BT m at_) (inR result 5) (inR told 255)
 cases h1:(BT m at_&&inR result 5&&inR told 255)<;>rw [h1] at h3
 ·refine Ac rfl 0 (by rfl) ?_
  delta c150
  simp +contextual -dsimp -implicitDefEqProofs (maxSteps:=5000000) only [ht,h3,hf,go_sem,simprocAttr]
  simp only [CX,h1]
  rfl
 ·have hh:BT m at_=true:=by simp only [Bool.and_eq_true] at h1;exact h1.1.1
  obtain ⟨s,k,rfl,hs,hk⟩:=Jw hh
  have hm1:CX m k result told=(Ba (AE (BC (IntKind.wrap .i64 (s.id+1)) m) k (Gp s result told)) ⟨s.id,s.label,6,result⟩,0):=by
   simp only [CX,h1,if_true,Int.toNat_natCast,hs]
  have hl:=Zh (i+5) pf m hm k s hs
  have htl:=KG (i+7) (AE (BC (IntKind.wrap .i64 (s.id+1)) m) k (Gp s result told)) k (Gp s result told) (by simp [AE,BC,hk]) 6 result
  have e1:(0≤(k:Int))=True:=by simp
  have e2:((k:Int)<(m.sess.length:Int))=True:=by simpa using hk
  have e4:∀ x y,((m.sess.map oS).set k x).set k y=(m.sess.map oS).set k y:=fun x y=>List.set_set ..
  have e5:∀ x,((m.sess.map oS).set k x)[k]?=some x:=fun x=>List.getElem?_set_self (by simpa using hk)
  simp only [Nat.add_assoc,Nat.reduceAdd,oM,cO,oWs,oSs,oEs,AE,BC,List.map_set,DH,oS] at hl
  simp only [Nat.add_assoc,Nat.reduceAdd,oM,cO,oWs,oSs,oEs,AE,BC,List.map_set,Gp,DH,oS] at htl
  rw [hm1]
  refine Ac rfl 0 (by rfl) ?_
  delta c150
  simp +contextual -dsimp -implicitDefEqProofs (maxSteps:=5000000) only [ht,h3,hf,hl,htl,hs,e1,e2,e4,e5,List.length_set,go_sem,simprocAttr]
  simp only [oM,cO,oWs,oSs,oEs,AE,BC,List.map_set,Gp,DH,oS]
end Ve
namespace Ve
open Go Ve.Ab
set_option maxHeartbeats 16000000
set_option maxRecDepth 10000
theorem Ay:oM Az=.agg [.own 3 [],.own 3 [],.own 3 [],.own 3 [],iV 0,iV 0,iV 0,iV 0,iV 0,.own 17 [],.own 4 []]:=rfl
theorem nn2 (a b:Bool):(!a||!b)=!(a&&b):=by cases a<;>cases b<;>rfl
theorem nn3 (a b c:Bool):(!a||!b||!c)=!(a&&b&&c):=by cases a<;>cases b<;>cases c<;>rfl
theorem EL {x c:Int} (h:inR x c=true) (hc:c≤65535):IntKind.wrap .i64 (x+1)=x+1:=by
 rw [AL] at h
 exact Be (by omega) (by omega)
theorem a3m (i:Nat) (a b c id:Int):Aa (Lv ctx (i+4)) 153 [.agg [iV a,iV b,iV c],iV id]=some (.tup [eW (EW ⟨a,b,c⟩ id).1,iV (EW ⟨a,b,c⟩ id).2]):=by
 cases h1:(AO ⟨a,b,c⟩&&inR id 254)
 ·have e:EW ⟨a,b,c⟩ id=(Fc,300):=by simp only [EW,h1];rfl
  rw [e]
  refine Ac rfl 0 (by rfl) ?_
  delta vV
  simp +contextual -dsimp -implicitDefEqProofs (maxSteps:=5000000) only [nn2,h1,Fc,go_sem,simprocAttr]
 ·have hw:=EL (c:=254) (x:=id) (by simp only [Bool.and_eq_true] at h1;exact h1.2) (by omega)
  by_cases hc:c=0
  ·have e:EW ⟨a,b,c⟩ id=(⟨a,b,id+1⟩,0):=by subst hc;simp only [EW,h1,if_true]
   rw [e]
   have h2:decide (c=0)=true:=by simpa using hc
   refine Ac rfl 0 (by rfl) ?_
   delta vV
   simp +contextual -dsimp -implicitDefEqProofs (maxSteps:=5000000) only [nn2,h1,h2,hw,go_sem,simprocAttr]
  ·have e:EW ⟨a,b,c⟩ id=(Fc,301):=by simp only [EW,h1,if_true,hc,if_false]
   rw [e]
   have h2:decide (c=0)=false:=by simpa using hc
   refine Ac rfl 0 (by rfl) ?_
   delta vV
   simp +contextual -dsimp -implicitDefEqProofs (maxSteps:=5000000) only [nn2,h1,h2,Fc,go_sem,simprocAttr]
theorem rP (i:Nat) (a b c v k:Int):Aa (Lv ctx (i+4)) 157 [.agg [iV a,iV b,iV c],iV v,iV k]=some (.tup [eW (Fd ⟨a,b,c⟩ v k).1,iV (Fd ⟨a,b,c⟩ v k).2]):=by
 cases h1:(AO ⟨a,b,c⟩&&AO ⟨v,k,0⟩)
 ·have e:Fd ⟨a,b,c⟩ v k=(Fc,300):=by simp only [Fd,h1];rfl
  rw [e]
  refine Ac rfl 0 (by rfl) ?_
  delta c157
  simp +contextual -dsimp -implicitDefEqProofs (maxSteps:=5000000) only [nn2,h1,Fc,go_sem,simprocAttr]
 ·have e:Fd ⟨a,b,c⟩ v k=(⟨v,k,0⟩,0):=by simp only [Fd,h1,if_true]
  rw [e]
  refine Ac rfl 0 (by rfl) ?_
  delta c157
  simp +contextual -dsimp -implicitDefEqProofs (maxSteps:=5000000) only [nn2,h1,go_sem,simprocAttr]
abbrev e4 (a:A4 Int):V:=.agg [iV a.a0,iV a.a1,iV a.a2,iV a.a3]
theorem a3k (i:Nat) (a b c d l k:Int):Aa (Lv ctx (i+3)) 155 [.agg [iV a,iV b,iV c,iV d],iV l,iV k] =
  some (.tup [e4 (CE ⟨a,b,c,d⟩ l k).1,iV (CE ⟨a,b,c,d⟩ l k).2.1,iV (CE ⟨a,b,c,d⟩ l k).2.2]):=by
 have hp:(inR l 3&&inR k 65535&&inR a 65535&&inR b 65535&&inR c 65535&&inR d 65535)=((⟨a,b,c,d⟩:A4 Int).all (fun x=>inR x 65535)&&inR k 65535&&inR l 3):=by
  simp only [A4.all]
  cases inR l 3<;>cases inR k 65535<;>cases inR a 65535<;>cases inR b 65535<;>cases inR c 65535<;>cases inR d 65535<;>rfl
 cases h1:(inR l 3&&inR k 65535&&inR a 65535&&inR b 65535&&inR c 65535&&inR d 65535)
 ·have e:CE ⟨a,b,c,d⟩ l k=(DD,0,500):=by simp only [CE,← hp,h1];rfl
  rw [e]
  refine Ac rfl 5 (by rfl) ?_
  delta PV
  simp +contextual -dsimp -implicitDefEqProofs (maxSteps:=5000000) only [gLs,↓Ah (HP.eq_1),h1,DD,go_sem,simprocAttr]
 ·have hh:=h1
  simp only [Bool.and_eq_true] at hh
  obtain ⟨⟨⟨⟨⟨hl,hk⟩,ha⟩,hb⟩,hc⟩,hd⟩:=hh
  have wa:=EL ha (by omega)
  have wb:=EL hb (by omega)
  have wc:=EL hc (by omega)
  have wd:=EL hd (by omega)
  rcases Bm l with rfl | hl'
  ·by_cases hf:k≤a
   ·have e:CE ⟨a,b,c,d⟩ 0 k=(DD,0,501):=by simp only [CE,← hp,h1,if_true];exact if_pos hf
    rw [e]
    have h2:decide (k≤a)=true:=by simpa using hf
    refine Ac rfl 5 (by rfl) ?_
    delta PV
    simp +contextual -dsimp -implicitDefEqProofs (maxSteps:=5000000) only [gLs,↓Ah (HP.eq_1),hl,hk,ha,hb,hc,hd,Bool.and_self,h2,DD,go_sem,simprocAttr]
   ·have e:CE ⟨a,b,c,d⟩ 0 k=((⟨a,b,c,d⟩:A4 Int).set 0 (a+1),a+1,0):=by simp only [CE,← hp,h1,if_true];exact if_neg hf
    rw [e]
    have h2:decide (k≤a)=false:=by simpa using hf
    refine Ac rfl 5 (by rfl) ?_
    delta PV
    simp +contextual -dsimp -implicitDefEqProofs (maxSteps:=5000000) only [gLs,↓Ah (HP.eq_1),hl,hk,ha,hb,hc,hd,Bool.and_self,h2,wa,wb,wc,wd,A4.set,go_sem,simprocAttr]
    rw [NN (hd:=by rfl)]
    simp +contextual -dsimp -implicitDefEqProofs (maxSteps:=5000000) only [hl,hk,ha,hb,hc,hd,Bool.and_self,h2,wa,wb,wc,wd,A4.set,go_sem,simprocAttr]
  rcases hl' with rfl | hl'
  ·by_cases hf:k≤b
   ·have e:CE ⟨a,b,c,d⟩ 1 k=(DD,0,501):=by simp only [CE,← hp,h1,if_true];exact if_pos hf
    rw [e]
    have h2:decide (k≤b)=true:=by simpa using hf
    refine Ac rfl 5 (by rfl) ?_
    delta PV
    simp +contextual -dsimp -implicitDefEqProofs (maxSteps:=5000000) only [gLs,↓Ah (HP.eq_1),hl,hk,ha,hb,hc,hd,Bool.and_self,h2,DD,go_sem,simprocAttr]
   ·have e:CE ⟨a,b,c,d⟩ 1 k=((⟨a,b,c,d⟩:A4 Int).set 1 (b+1),b+1,0):=by simp only [CE,← hp,h1,if_true];exact if_neg hf
    rw [e]
    have h2:decide (k≤b)=false:=by simpa using hf
    refine Ac rfl 5 (by rfl) ?_
    delta PV
    simp +contextual -dsimp -implicitDefEqProofs (maxSteps:=5000000) only [gLs,↓Ah (HP.eq_1),hl,hk,ha,hb,hc,hd,Bool.and_self,h2,wa,wb,wc,wd,A4.set,go_sem,simprocAttr]
    rw [NN (hd:=by rfl)]
    simp +contextual -dsimp -implicitDefEqProofs (maxSteps:=5000000) only [hl,hk,ha,hb,hc,hd,Bool.and_self,h2,wa,wb,wc,wd,A4.set,go_sem,simprocAttr]
  rcases hl' with rfl | hl'
  ·by_cases hf:k≤c
   ·have e:CE ⟨a,b,c,d⟩ 2 k=(DD,0,501):=by simp only [CE,← hp,h1,if_true];exact if_pos hf
    rw [e]
    have h2:decide (k≤c)=true:=by simpa using hf
    refine Ac rfl 5 (by rfl) ?_
    delta PV
    simp +contextual -dsimp -implicitDefEqProofs (maxSteps:=5000000) only [gLs,↓Ah (HP.eq_1),hl,hk,ha,hb,hc,hd,Bool.and_self,h2,DD,go_sem,simprocAttr]
   ·have e:CE ⟨a,b,c,d⟩ 2 k=((⟨a,b,c,d⟩:A4 Int).set 2 (c+1),c+1,0):=by simp only [CE,← hp,h1,if_true];exact if_neg hf
    rw [e]
    have h2:decide (k≤c)=false:=by simpa using hf
    refine Ac rfl 5 (by rfl) ?_
    delta PV
    simp +contextual -dsimp -implicitDefEqProofs (maxSteps:=5000000) only [gLs,↓Ah (HP.eq_1),hl,hk,ha,hb,hc,hd,Bool.and_self,h2,wa,wb,wc,wd,A4.set,go_sem,simprocAttr]
    rw [NN (hd:=by rfl)]
    simp +contextual -dsimp -implicitDefEqProofs (maxSteps:=5000000) only [hl,hk,ha,hb,hc,hd,Bool.and_self,h2,wa,wb,wc,wd,A4.set,go_sem,simprocAttr]
  rcases hl' with rfl | hl'
  ·by_cases hf:k≤d
   ·have e:CE ⟨a,b,c,d⟩ 3 k=(DD,0,501):=by simp only [CE,← hp,h1,if_true];exact if_pos hf
    rw [e]
    have h2:decide (k≤d)=true:=by simpa using hf
    refine Ac rfl 5 (by rfl) ?_
    delta PV
    simp +contextual -dsimp -implicitDefEqProofs (maxSteps:=5000000) only [gLs,↓Ah (HP.eq_1),hl,hk,ha,hb,hc,hd,Bool.and_self,h2,DD,go_sem,simprocAttr]
   ·have e:CE ⟨a,b,c,d⟩ 3 k=((⟨a,b,c,d⟩:A4 Int).set 3 (d+1),d+1,0):=by simp only [CE,← hp,h1,if_true];exact if_neg hf
    rw [e]
    have h2:decide (k≤d)=false:=by simpa using hf
    refine Ac rfl 5 (by rfl) ?_
    delta PV
    simp +contextual -dsimp -implicitDefEqProofs (maxSteps:=5000000) only [gLs,↓Ah (HP.eq_1),hl,hk,ha,hb,hc,hd,Bool.and_self,h2,wa,wb,wc,wd,A4.set,go_sem,simprocAttr]
    rw [NN (hd:=by rfl)]
    simp +contextual -dsimp -implicitDefEqProofs (maxSteps:=5000000) only [hl,hk,ha,hb,hc,hd,Bool.and_self,h2,wa,wb,wc,wd,A4.set,go_sem,simprocAttr]
  rw [hl] at hl';cases hl'
theorem Lh (a b c d:Int):Dl ⟨a,b,c,d⟩=DX 255 a b c d:=rfl
theorem a9a (i:Nat) (a b c d r v:Int):Aa (Lv ctx (i+4)) 188 [.agg [iV a,iV b,iV c,iV d],iV r,iV v]=some (.tup [e4 (Mj ⟨a,b,c,d⟩ r v).1,iV (Mj ⟨a,b,c,d⟩ r v).2]):=by
 cases h1:(DX 255 a b c d&&inR r 3&&inR v 255)
 ·have e:Mj ⟨a,b,c,d⟩ r v=(DD,600):=by simp only [Mj,Lh,h1];rfl
  rw [e]
  refine Ac rfl 0 (by rfl) ?_
  delta c188
  simp +contextual -dsimp -implicitDefEqProofs (maxSteps:=5000000) only [nn3,h1,DD,go_sem,simprocAttr]
 ·have e:Mj ⟨a,b,c,d⟩ r v=((⟨a,b,c,d⟩:A4 Int).set r v,0):=by simp only [Mj,Lh,h1,if_true]
  rw [e]
  have hr:inR r 3=true:=by simp only [Bool.and_eq_true] at h1;exact h1.1.2
  rcases Bm r with rfl | rfl | rfl | rfl | h'
  case inr.inr.inr.inr=>rw [hr] at h';cases h'
  all_goals
   refine Ac rfl 0 (by rfl) ?_
   delta c188
   have ha:DX 255 a b c d=true:=by simp only [Bool.and_eq_true] at h1;exact h1.1.1
   have hv:inR v 255=true:=by simp only [Bool.and_eq_true] at h1;exact h1.2
   simp +contextual -dsimp -implicitDefEqProofs (maxSteps:=5000000) only [ha,hv,A4.set,go_sem,simprocAttr]
theorem Vp {x y:Int} (hx:inR x 255=true) (hy:inR y 255=true):IntKind.wrap .i64 (x+y)=x+y∧(x+y).tmod 256=(x+y) % 256:=by
 rw [AL] at hx hy
 exact ⟨Be (by omega) (by omega),Int.tmod_eq_emod_of_nonneg (by omega)⟩
theorem a9c (i:Nat) (a b c d r t:Int):Aa (Lv ctx (i+4)) 189 [.agg [iV a,iV b,iV c,iV d],iV r,iV t]=some (.tup [e4 (MM ⟨a,b,c,d⟩ r t).1,iV (MM ⟨a,b,c,d⟩ r t).2]):=by
 cases h1:(DX 255 a b c d&&inR r 3&&inR t 3)
 ·have e:MM ⟨a,b,c,d⟩ r t=(DD,600):=by simp only [MM,Lh,h1];rfl
  rw [e]
  refine Ac rfl 0 (by rfl) ?_
  delta c189
  simp +contextual -dsimp -implicitDefEqProofs (maxSteps:=5000000) only [nn3,h1,DD,go_sem,simprocAttr]
 ·have e:MM ⟨a,b,c,d⟩ r t=((⟨a,b,c,d⟩:A4 Int).set r (((⟨a,b,c,d⟩:A4 Int).get r+(⟨a,b,c,d⟩:A4 Int).get t) % 256),0):=by simp only [MM,Lh,h1,if_true]
  rw [e]
  have hh:=h1
  simp only [Bool.and_eq_true,DX] at hh
  obtain ⟨⟨⟨⟨⟨ha,hb⟩,hc⟩,hd⟩,hr⟩,ht⟩:=hh
  have a4:DX 255 a b c d=true:=by simp only [DX,ha,hb,hc,hd,Bool.and_self]
  have hne:(256:Int)≠0:=by decide
  have key:∀ x y:Int,inR x 255=true→inR y 255=true→BO lay .rem 3 (iV (IntKind.wrap .i64 (x+y))) (iV 256)=some (iV ((x+y) % 256)):=by
   intro x y hx hy
   rw [Kk hne,(Vp hx hy).1,(Vp hx hy).2]
  have k00:=key a a ha ha
  have k01:=key a b ha hb
  have k02:=key a c ha hc
  have k03:=key a d ha hd
  have k10:=key b a hb ha
  have k11:=key b b hb hb
  have k12:=key b c hb hc
  have k13:=key b d hb hd
  have k20:=key c a hc ha
  have k21:=key c b hc hb
  have k22:=key c c hc hc
  have k23:=key c d hc hd
  have k30:=key d a hd ha
  have k31:=key d b hd hb
  have k32:=key d c hd hc
  have k33:=key d d hd hd
  rcases Bm r with rfl | rfl | rfl | rfl | h'
  case inr.inr.inr.inr=>rw [hr] at h';cases h'
  all_goals
   rcases Bm t with rfl | rfl | rfl | rfl | h'
   case inr.inr.inr.inr=>rw [ht] at h';cases h'
   all_goals
    refine Ac rfl 0 (by rfl) ?_
    delta c189
    simp +contextual -dsimp -implicitDefEqProofs (maxSteps:=5000000) only [a4,A4.set,A4.get,k00,k01,k02,k03,k10,k11,k12,k13,k20,k21,k22,k23,k30,k31,k32,k33,go_sem,simprocAttr]
end Ve
namespace Ve
open Go
abbrev oNs (l:List Int):V:=.own 1 (l.map iV)
def oSt (s:Bk):V:=.agg [iV s.id,iV s.label,iV s.clear,oIs s.prog]
abbrev Si (l:List Bk):V:=.own 4 (l.map oSt)
abbrev Sj (l:List AR):V:=.own 2 (l.map eSl)
abbrev Pm (s:Aq):List V:=[oNs s.words.a0,oNs s.words.a1,oNs s.words.a2,oNs s.words.a3,iV s.ceil,Si s.starts,Sj s.slots]
abbrev oSc (s:Aq):V:=.agg (Pm s)
def Gq (s:Bk):V:=.agg [iV (RD s.id 90),iV s.label,iV s.clear,.dead]
def mvS (s:Ai):V:=.agg [iV s.id,iV s.label,iV s.clear,.dead,iV s.step,iV s.pc,iV s.regs.a0,iV s.regs.a1,iV s.regs.a2,iV s.regs.a3,.dead,.dead,iV s.at_,iV s.stamp,iV s.tries,iV s.result,iV s.told]
theorem b0i (l:List Int):fzs (l.map iV)=l.map iV:=Fp _ _ (fun _=>by simp [V.fz]) l
theorem b0j (l:List Int):bzs (l.map iV)=l.map iV:=Fv _ _ (fun _=>by simp [V.bz]) l
theorem a4a (l:List Bk):fzs (l.map oSt)=l.map (eSt true):=Fp _ _ (fun _=>by simp [oSt,eSt,V.fz,fzs,aB]) l
theorem a4b (l:List Bk):bzs (l.map oSt)=l.map (eSt false):=Fv _ _ (fun _=>by simp [oSt,eSt,V.bz,bzs,UO]) l
theorem a5z (p:Bool) (l:List Bk):fzs (l.map (eSt p))=l.map (eSt p):=Fp _ _ (fun _=>by simp [eSt,V.fz,fzs]) l
theorem a6a (p:Bool) (l:List Bk):bzs (l.map (eSt p))=l.map (eSt p):=Fv _ _ (fun _=>by simp [eSt,V.bz,bzs]) l
theorem iQ (l:List Int):AD (l.map iV)=true:=CQ _ (fun _=>by simp [V.perm]) l
theorem cK (l:List AR):AD (l.map eSl)=true:=CQ _ (fun _=>by simp [eSl,V.perm,AD]) l
theorem cG (l:List Bk):AD (l.map oSt)=true:=CQ _ (fun _=>by simp [oSt,V.perm,AD]) l
theorem cJ (l:List Bk):AD (l.map (eSt true))=true:=CQ _ (fun _=>by simp [eSt,V.perm,AD]) l
theorem Wo (n:Nat) (v:Value):AD (List.replicate n (V.lit v))=true:=by
 induction n with
 | zero=>rfl
 | succ n ih=>rw [List.replicate_succ,FI,ih,TP];rfl
theorem Pj (thr d:Nat):AK thr (d+1) .dead=.ret (.dead,[]):=(rfl)
theorem b1o (thr d:Nat) (l:List Int):AC (AK thr (d+2)) (l.map iV)=.ret ((l.map iV).map vn):=HH _ _ _ (fun x=>by simp only [EC]) l
theorem a6t (thr d:Nat) (l:List AR):AC (AK thr (d+2)) (l.map eSl)=.ret ((l.map eSl).map vn):=HH _ _ _ (fun x=>by simp only [eSl,ES,CB,DB,EC,Gu,Gv,By,List.map_cons,List.map_nil,List.flatten_cons,List.flatten_nil,List.append_nil,List.nil_append]) l
theorem a6p (thr d:Nat) (l:List Bk):AC (AK thr (d+2)) (l.map oSt)=.ret ((l.map oSt).map vn):=HH _ _ _ (fun x=>by simp only [oSt,ES,CB,DB,EC,Gu,Gv,By,List.map_cons,List.map_nil,List.flatten_cons,List.flatten_nil,List.append_nil,List.nil_append]) l
theorem a6s (p:Bool) (thr d:Nat) (l:List Bk):AC (AK thr (d+2)) (l.map (eSt p))=.ret ((l.map (eSt p)).map vn):=HH _ _ _ (fun x=>by simp only [eSt,ES,CB,DB,EC,Gu,Gv,By,List.map_cons,List.map_nil,List.flatten_cons,List.flatten_nil,List.append_nil,List.nil_append]) l
theorem eQ (thr d:Nat) (l:List Bk):AC (AK thr (d+2)) (l.map Gq)=.ret ((l.map Gq).map vn):=HH _ _ _ (fun x=>by simp only [Gq,ES,CB,DB,EC,Pj,By,List.map_cons,List.map_nil,List.flatten_cons,List.flatten_nil,List.append_nil,List.nil_append]) l
theorem a6q (thr d:Nat) (l:List Ai):AC (AK thr (d+2)) (l.map mvS)=.ret ((l.map mvS).map vn):=HH _ _ _ (fun x=>by simp only [mvS,ES,CB,DB,EC,Pj,By,List.map_cons,List.map_nil,List.flatten_cons,List.flatten_nil,List.append_nil,List.nil_append]) l
theorem RU {α:Type} (d:Nat) (f g:α→V) (h:∀ x,AS d (f x)=.ret (g x)) (l:List α):AC (AS d) (l.map f)=.ret (l.map g):=YP _ _ g h l
theorem a3g (d:Nat) (l:List Int):AC (AS (d+2)) (l.map iV)=.ret (l.map iV):=RU _ _ _ (fun x=>by simp only [Mm]) l
theorem rN (d:Nat) (l:List AR):AC (AS (d+2)) (l.map eSl)=.ret (l.map eSl):=RU _ _ _ (fun x=>by simp only [eSl,Om,CB,DB,Mm,By]) l
theorem rL (d:Nat) (l:List Bk):AC (AS (d+2)) (l.map oSt)=.ret (l.map (eSt false)):=RU _ _ _ (fun x=>by simp only [oSt,eSt,Om,CB,DB,Mm,Wf,By,UO]) l
theorem rM (p:Bool) (d:Nat) (l:List Bk):AC (AS (d+2)) (l.map (eSt p))=.ret (l.map (eSt p)):=RU _ _ _ (fun x=>by simp only [eSt,Om,CB,DB,Mm,hY,By]) l
theorem a3d (l:List Int):List.replicate l.length (iV 0)=(l.map fun _=>(0:Int)).map iV:=by
 induction l with
 | nil=>rfl
 | cons a l ih=>simp only [List.length_cons,List.replicate_succ,List.map_cons,ih]
attribute [go_sem] eSt oSt b0i b0j a4a a4b a5z a6a iQ cK cG cJ Wo Pj b1o a6t a6p a6s eQ a6q a3g rN rL rM
end Ve
namespace Ve
open Go Ve.Ab
set_option maxHeartbeats 16000000
set_option maxRecDepth 10000
theorem Uj (i k:Nat) (pf nn:Bool) (xs:List AR) (p:AR→Bool) (g:Nat) (cap:List V) (hc:Dv tbl g []) (hcap:∀ d,AC (AS (d+1)) cap=.ret cap) (hsc:AU 0 cap=cap)
  (hp:∀ a,a∈xs→Aa (Lv ctx i) g (eSl a::cap)=some (bV (p a))) (hx:xs.length≤BB) (q:Out→St→Option Ans) (Q:V→Hp→Nat→Prop) (u:Dum fun s q=>evC ctx (Lv ctx i) (Aa (Lv ctx i)) k UY s (Al [0,1,7,8] q)) (w:Dum q):∀ (suf pre:List AR) (kk:Nat),xs=pre++suf→suf.length<kk →
  GL 0 [0,1,7,8] (fun s q=>evC ctx (Lv ctx i) (Aa (Lv ctx i)) k UY s (Al [0,1,7,8] q)) q kk ⟨Ae [0,1,7,8] [.isl pf nn 2 (xs.map eSl),.fn (.func g) [] cap,iV xs.length,iV pre.length],Af,0⟩ Q u w =
  Iv q Q ⟨Ae [] [],Af,0⟩ (fun j=>⟨Ae [4] [iV j],Af,0⟩) (Bu p pre.length suf)
 | [],pre,kk,hxs,hk=>by
  obtain ⟨kk,rfl⟩:∃ m,kk=m+1:=⟨kk - 1,by simp at hk;omega⟩
  have h1:decide ((pre.length:Int)<xs.length)=false:=by simp [hxs]
  simp +contextual -dsimp -implicitDefEqProofs (maxSteps:=5000000) only [gLs,↓Ah (UY.eq_1),h1,hcap,hsc,Bu,BM,go_sem,simprocAttr]
 | a::suf,pre,kk,hxs,hk=>by
  obtain ⟨kk,rfl⟩:∃ m,kk=m+1:=⟨kk - 1,by simp at hk;omega⟩
  have hl:pre.length<xs.length:=by simp [hxs]
  have h1:decide ((pre.length:Int)<xs.length)=true:=by simpa using hl
  have h2:((pre.length:Int)<xs.length)=True:=by simpa using hl
  have h3:(0≤(pre.length:Int))=True:=by simp
  have h4:=wrN pre.length (by omega)
  have hg:xs[pre.length]?=some a:=by simp [hxs]
  have hpa:=hp a (by simp [hxs])
  simp only [eSl] at hpa
  have ih:=Uj i k pf nn xs p g cap hc hcap hsc hp hx q Q u w suf (pre++[a]) kk (by simp [hxs]) (by simpa using hk)
  rw [Ag] at ih
  cases hb:p a<;>rw [hb] at hpa<;>simp +contextual -dsimp -implicitDefEqProofs (maxSteps:=5000000) only [gLs,↓Ah (UY.eq_1),h1,h2,h3,h4,hcap,hsc,Bu,BL,hg,hpa,hb,hc,ih,Int.toNat_natCast,List.getElem?_map,go_sem,simprocAttr]
theorem gT (i:Nat) (pf nn:Bool) (xs:List AR) (p:AR→Bool) (g:Nat) (cap:List V) (hc:Dv tbl g []) (hcap:∀ d,AC (AS (d+1)) cap=.ret cap) (hsc:AU 0 cap=cap) (hn:BA cap=true)
  (hp:∀ a,a∈xs→Aa (Lv ctx i) g (eSl a::cap)=some (bV (p a))) (hx:xs.length≤BB):Aa (Lv ctx (i+2)) 59 [.isl pf nn 2 (xs.map eSl),.fn (.func g) [] cap]=some (bV (xs.any p)):=by
 have h1:Aa (Lv ctx (i+1)) 94 [.isl pf nn 2 (xs.map eSl),.fn (.func g) [] cap]=some (iV (Gd (Bu p 0 xs))):=by
  refine Ac rfl (xs.length+1) (by rfl) ?_
  delta c94
  have hl:=fun q Q u w=>Uj i (xs.length+1) pf nn xs p g cap hc hcap hsc hp hx q Q u w xs [] (xs.length+1) rfl (by omega)
  simp only [List.length_nil,Int.natCast_zero] at hl
  simp +contextual -dsimp -implicitDefEqProofs (maxSteps:=5000000) only [hl,go_sem,simprocAttr]
  cases Bu p 0 xs<;>simp +contextual -dsimp -implicitDefEqProofs (maxSteps:=5000000) only [BM,BL,Gd,go_sem,simprocAttr]
 refine Ac rfl 0 (by rfl) ?_
 delta c59
 simp +contextual -dsimp -implicitDefEqProofs (maxSteps:=5000000) only [h1,hcap,Ee,go_sem,simprocAttr]
theorem gG (i:Nat) (x:AY):Aa (Lv ctx (i+1)) 49 [eE x]=some (iV x.label):=by
 simp only [eE]
 refine Ac rfl 0 (by rfl) ?_
 delta c49
 simp +contextual -dsimp -implicitDefEqProofs (maxSteps:=5000000) only [go_sem,simprocAttr]
theorem WA (i k:Nat) (pf nn:Bool) (xs:List AY) (l:Int) (hx:(xs.length:Int)*32≤140737488355328) (q:Out→St→Option Ans) (Q:V→Hp→Nat→Prop) (u:Dum (fun s q=>evC ctx (Lv ctx (i+1)) (Aa (Lv ctx (i+1))) k JH s (Al [1,2,7,10,11,12] q))) (w:Dum q)
  (hend:∀ acc,acc=xs.filter (fun x=>Aj x.label l)→Fin (q (.exit 0) ⟨Ae [7] [.sl 0],pO Af 0 (some ⟨4,acc.map eE,false⟩),1⟩) Q) :
  ∀ (suf pre:List AY) (kk:Nat) (acc:List AY),xs=pre++suf→suf.length<kk→acc.length≤pre.length→acc++suf.filter (fun x=>Aj x.label l)=xs.filter (fun x=>Aj x.label l) →
  GL 0 [1,2,7,10,11,12] (fun s q=>evC ctx (Lv ctx (i+1)) (Aa (Lv ctx (i+1))) k JH s (Al [1,2,7,10,11,12] q)) q kk ⟨Ae [1,2,7,10,11,12] [iV l,.fn (.func 49) [] [],.sl 0,.isl pf nn 4 (xs.map eE),iV xs.length,iV pre.length],pO Af 0 (some ⟨4,acc.map eE,false⟩),1⟩ Q u w
 | [],pre,kk,acc,hxs,hk,hal,hacc=>by
  obtain ⟨kk,rfl⟩:∃ m,kk=m+1:=⟨kk - 1,by simp at hk;omega⟩
  have h1:decide ((pre.length:Int)<xs.length)=false:=by simp [hxs]
  have he:=hend acc (by simpa using hacc)
  simp +contextual -dsimp -implicitDefEqProofs (maxSteps:=5000000) only [gLs,↓Ah (JH.eq_1),h1,go_sem,simprocAttr]
  exact he
 | a::suf,pre,kk,acc,hxs,hk,hal,hacc=>by
  obtain ⟨kk,rfl⟩:∃ m,kk=m+1:=⟨kk - 1,by simp at hk;omega⟩
  have hl:pre.length<xs.length:=by simp [hxs]
  have h2:((pre.length:Int)<xs.length)=True:=by simpa using hl
  have h3:(0≤(pre.length:Int))=True:=by simp
  have h4:=wrN pre.length (by simp only [BB];omega)
  have hg:xs[pre.length]?=some a:=by simp [hxs]
  have h5:(((acc.length+1:Nat):Int)*32≤140737488355328)=True:=by rw [eq_iff_iff,iff_true];omega
  have hof:=gG (i+0) a
  simp only [eE,Nat.add_assoc,Nat.reduceAdd] at hof
  cases ht:Aj a.label l
  ·have ih:=WA i k pf nn xs l hx q Q u w hend suf (pre++[a]) kk acc (by simp [hxs]) (by simpa using hk) (by simp;omega) (by rw [← hacc];simp [ht])
   simp only [Ag] at ih
   cases pf<;>(
    simp +contextual -dsimp -implicitDefEqProofs (maxSteps:=5000000) only [gLs,↓Ah (JH.eq_1),h2,h3,h4,hg,hof,ht,eE,go_sem,simprocAttr]
    exact (AA (by rfl)).mpr ih)
  ·have ih:=WA i k pf nn xs l hx q Q u w hend suf (pre++[a]) kk (acc++[a]) (by simp [hxs]) (by simpa using hk) (by simp;omega) (by rw [← hacc];simp [ht])
   simp only [Ag,List.map_append,List.map_cons,List.map_nil] at ih
   cases pf<;>(
    simp +contextual -dsimp -implicitDefEqProofs (maxSteps:=5000000) only [gLs,↓Ah (JH.eq_1),h2,h3,h4,h5,hg,hof,ht,eE,go_sem,simprocAttr]
    exact (AA (by rfl)).mpr ih)
theorem kZ (i k:Nat) (pf nn:Bool) (xs:List AY) (l:Int) (hx:(xs.length:Int)*32≤140737488355328) (q:Out→St→Option Ans) (Q:V→Hp→Nat→Prop) (u:Dum (fun s q=>evC ctx (Lv ctx (i+1)) (Aa (Lv ctx (i+1))) k JH s (Al [1,2,7,10,11,12] q))) (w:Dum q)
  (hend:∀ acc,acc=xs.filter (fun x=>Aj x.label l)→Fin (q (.exit 0) ⟨Ae [7] [.sl 0],pO Af 0 (some ⟨4,acc.map eE,false⟩),1⟩) Q) (hnil:xs.filter (fun x=>Aj x.label l)=[]→Fin (q (.exit 0) ⟨Ae [7] [.lit (.slice none 0 0)],Af,0⟩) Q) :
  ∀ (suf pre:List AY) (kk:Nat),xs=pre++suf→suf.length<kk→suf.filter (fun x=>Aj x.label l)=xs.filter (fun x=>Aj x.label l) →
  GL 0 [1,2,7,10,11,12] (fun s q=>evC ctx (Lv ctx (i+1)) (Aa (Lv ctx (i+1))) k JH s (Al [1,2,7,10,11,12] q)) q kk ⟨Ae [1,2,7,10,11,12] [iV l,.fn (.func 49) [] [],.lit (.slice none 0 0),.isl pf nn 4 (xs.map eE),iV xs.length,iV pre.length],Af,0⟩ Q u w
 | [],pre,kk,hxs,hk,hacc=>by
  obtain ⟨kk,rfl⟩:∃ m,kk=m+1:=⟨kk - 1,by simp at hk;omega⟩
  have h1:decide ((pre.length:Int)<xs.length)=false:=by simp [hxs]
  have he:=hnil (by rw [← hacc];rfl)
  simp +contextual -dsimp -implicitDefEqProofs (maxSteps:=5000000) only [gLs,↓Ah (JH.eq_1),h1,go_sem,simprocAttr]
  exact he
 | a::suf,pre,kk,hxs,hk,hacc=>by
  obtain ⟨kk,rfl⟩:∃ m,kk=m+1:=⟨kk - 1,by simp at hk;omega⟩
  have hl:pre.length<xs.length:=by simp [hxs]
  have h2:((pre.length:Int)<xs.length)=True:=by simpa using hl
  have h3:(0≤(pre.length:Int))=True:=by simp
  have h4:=wrN pre.length (by simp only [BB];omega)
  have hg:xs[pre.length]?=some a:=by simp [hxs]
  have hof:=gG (i+0) a
  simp only [eE,Nat.add_assoc,Nat.reduceAdd] at hof
  cases ht:Aj a.label l
  ·have ih:=kZ i k pf nn xs l hx q Q u w hend hnil suf (pre++[a]) kk (by simp [hxs]) (by simpa using hk) (by rw [← hacc];simp [ht])
   simp only [Ag] at ih
   cases pf<;>(
    simp +contextual -dsimp -implicitDefEqProofs (maxSteps:=5000000) only [gLs,↓Ah (JH.eq_1),h2,h3,h4,hg,hof,ht,eE,go_sem,simprocAttr]
    exact (AA (by rfl)).mpr ih)
  ·have ih:=WA i k pf nn xs l hx q Q u w hend suf (pre++[a]) kk [a] (by simp [hxs]) (by simpa using hk) (by simp) (by rw [← hacc];simp [ht])
   simp only [Ag,List.map_cons,List.map_nil] at ih
   cases pf<;>(
    simp +contextual -dsimp -implicitDefEqProofs (maxSteps:=5000000) only [gLs,↓Ah (JH.eq_1),h2,h3,h4,hg,hof,ht,eE,List.replicate,go_sem,simprocAttr]
    exact (AA (by rfl)).mpr ih)
theorem a8o (i:Nat) (pf nn:Bool) (xs:List AY) (l:Int) (hx:(xs.length:Int)*32≤140737488355328):Aa (Lv ctx (i+2)) 48 [.isl pf nn 4 (xs.map eE),iV l,.fn (.func 49) [] []]=some (.own 4 ((xs.filter (fun x=>Aj x.label l)).map eE)):=by
 refine Ac rfl (xs.length+1) (by rfl) ?_
 delta c48
 cases pf<;>(
  simp +contextual -dsimp -implicitDefEqProofs (maxSteps:=5000000) only [go_sem,simprocAttr]
  refine kZ i _ _ nn xs l hx _ _ _ _ ?ha ?hb xs [] _ (by simp) (by omega) rfl
  case hb =>
   intro hn
   rw [hn]
   simp +contextual -dsimp -implicitDefEqProofs (maxSteps:=5000000) only [go_sem,simprocAttr]
  case ha =>
   intro acc hacc
   rw [← hacc]
   simp +contextual -dsimp -implicitDefEqProofs (maxSteps:=5000000) only [go_sem,simprocAttr])
theorem gF (i:Nat) (x:AR):Aa (Lv ctx (i+1)) 41 [eSl x]=some (iV x.level):=by
 simp only [eSl]
 refine Ac rfl 0 (by rfl) ?_
 delta c41
 simp +contextual -dsimp -implicitDefEqProofs (maxSteps:=5000000) only [go_sem,simprocAttr]
theorem Wz (i k:Nat) (pf nn:Bool) (xs:List AR) (l:Int) (hx:(xs.length:Int)*16≤140737488355328) (q:Out→St→Option Ans) (Q:V→Hp→Nat→Prop) (u:Dum (fun s q=>evC ctx (Lv ctx (i+1)) (Aa (Lv ctx (i+1))) k JJ s (Al [1,2,7,10,11,12] q))) (w:Dum q)
  (hend:∀ acc,acc=xs.filter (fun x=>Aj x.level l)→Fin (q (.exit 0) ⟨Ae [7] [.sl 0],pO Af 0 (some ⟨2,acc.map eSl,false⟩),1⟩) Q) :
  ∀ (suf pre:List AR) (kk:Nat) (acc:List AR),xs=pre++suf→suf.length<kk→acc.length≤pre.length→acc++suf.filter (fun x=>Aj x.level l)=xs.filter (fun x=>Aj x.level l) →
  GL 0 [1,2,7,10,11,12] (fun s q=>evC ctx (Lv ctx (i+1)) (Aa (Lv ctx (i+1))) k JJ s (Al [1,2,7,10,11,12] q)) q kk ⟨Ae [1,2,7,10,11,12] [iV l,.fn (.func 41) [] [],.sl 0,.isl pf nn 2 (xs.map eSl),iV xs.length,iV pre.length],pO Af 0 (some ⟨2,acc.map eSl,false⟩),1⟩ Q u w
 | [],pre,kk,acc,hxs,hk,hal,hacc=>by
  obtain ⟨kk,rfl⟩:∃ m,kk=m+1:=⟨kk - 1,by simp at hk;omega⟩
  have h1:decide ((pre.length:Int)<xs.length)=false:=by simp [hxs]
  have he:=hend acc (by simpa using hacc)
  simp +contextual -dsimp -implicitDefEqProofs (maxSteps:=5000000) only [gLs,↓Ah (JJ.eq_1),h1,go_sem,simprocAttr]
  exact he
 | a::suf,pre,kk,acc,hxs,hk,hal,hacc=>by
  obtain ⟨kk,rfl⟩:∃ m,kk=m+1:=⟨kk - 1,by simp at hk;omega⟩
  have hl:pre.length<xs.length:=by simp [hxs]
  have h2:((pre.length:Int)<xs.length)=True:=by simpa using hl
  have h3:(0≤(pre.length:Int))=True:=by simp
  have h4:=wrN pre.length (by simp only [BB];omega)
  have hg:xs[pre.length]?=some a:=by simp [hxs]
  have h5:(((acc.length+1:Nat):Int)*16≤140737488355328)=True:=by rw [eq_iff_iff,iff_true];omega
  have hof:=gF (i+0) a
  simp only [eSl,Nat.add_assoc,Nat.reduceAdd] at hof
  cases ht:Aj a.level l
  ·have ih:=Wz i k pf nn xs l hx q Q u w hend suf (pre++[a]) kk acc (by simp [hxs]) (by simpa using hk) (by simp;omega) (by rw [← hacc];simp [ht])
   simp only [Ag] at ih
   cases pf<;>(
    simp +contextual -dsimp -implicitDefEqProofs (maxSteps:=5000000) only [gLs,↓Ah (JJ.eq_1),h2,h3,h4,hg,hof,ht,eSl,go_sem,simprocAttr]
    exact (AA (by rfl)).mpr ih)
  ·have ih:=Wz i k pf nn xs l hx q Q u w hend suf (pre++[a]) kk (acc++[a]) (by simp [hxs]) (by simpa using hk) (by simp;omega) (by rw [← hacc];simp [ht])
   simp only [Ag,List.map_append,List.map_cons,List.map_nil] at ih
   cases pf<;>(
    simp +contextual -dsimp -implicitDefEqProofs (maxSteps:=5000000) only [gLs,↓Ah (JJ.eq_1),h2,h3,h4,h5,hg,hof,ht,eSl,go_sem,simprocAttr]
    exact (AA (by rfl)).mpr ih)
theorem kY (i k:Nat) (pf nn:Bool) (xs:List AR) (l:Int) (hx:(xs.length:Int)*16≤140737488355328) (q:Out→St→Option Ans) (Q:V→Hp→Nat→Prop) (u:Dum (fun s q=>evC ctx (Lv ctx (i+1)) (Aa (Lv ctx (i+1))) k JJ s (Al [1,2,7,10,11,12] q))) (w:Dum q)
  (hend:∀ acc,acc=xs.filter (fun x=>Aj x.level l)→Fin (q (.exit 0) ⟨Ae [7] [.sl 0],pO Af 0 (some ⟨2,acc.map eSl,false⟩),1⟩) Q) (hnil:xs.filter (fun x=>Aj x.level l)=[]→Fin (q (.exit 0) ⟨Ae [7] [.lit (.slice none 0 0)],Af,0⟩) Q) :
  ∀ (suf pre:List AR) (kk:Nat),xs=pre++suf→suf.length<kk→suf.filter (fun x=>Aj x.level l)=xs.filter (fun x=>Aj x.level l) →
  GL 0 [1,2,7,10,11,12] (fun s q=>evC ctx (Lv ctx (i+1)) (Aa (Lv ctx (i+1))) k JJ s (Al [1,2,7,10,11,12] q)) q kk ⟨Ae [1,2,7,10,11,12] [iV l,.fn (.func 41) [] [],.lit (.slice none 0 0),.isl pf nn 2 (xs.map eSl),iV xs.length,iV pre.length],Af,0⟩ Q u w
 | [],pre,kk,hxs,hk,hacc=>by
  obtain ⟨kk,rfl⟩:∃ m,kk=m+1:=⟨kk - 1,by simp at hk;omega⟩
  have h1:decide ((pre.length:Int)<xs.length)=false:=by simp [hxs]
  have he:=hnil (by rw [← hacc];rfl)
  simp +contextual -dsimp -implicitDefEqProofs (maxSteps:=5000000) only [gLs,↓Ah (JJ.eq_1),h1,go_sem,simprocAttr]
  exact he
 | a::suf,pre,kk,hxs,hk,hacc=>by
  obtain ⟨kk,rfl⟩:∃ m,kk=m+1:=⟨kk - 1,by simp at hk;omega⟩
  have hl:pre.length<xs.length:=by simp [hxs]
  have h2:((pre.length:Int)<xs.length)=True:=by simpa using hl
  have h3:(0≤(pre.length:Int))=True:=by simp
  have h4:=wrN pre.length (by simp only [BB];omega)
  have hg:xs[pre.length]?=some a:=by simp [hxs]
  have hof:=gF (i+0) a
  simp only [eSl,Nat.add_assoc,Nat.reduceAdd] at hof
  cases ht:Aj a.level l
  ·have ih:=kY i k pf nn xs l hx q Q u w hend hnil suf (pre++[a]) kk (by simp [hxs]) (by simpa using hk) (by rw [← hacc];simp [ht])
   simp only [Ag] at ih
   cases pf<;>(
    simp +contextual -dsimp -implicitDefEqProofs (maxSteps:=5000000) only [gLs,↓Ah (JJ.eq_1),h2,h3,h4,hg,hof,ht,eSl,go_sem,simprocAttr]
    exact (AA (by rfl)).mpr ih)
  ·have ih:=Wz i k pf nn xs l hx q Q u w hend suf (pre++[a]) kk [a] (by simp [hxs]) (by simpa using hk) (by simp) (by rw [← hacc];simp [ht])
   simp only [Ag,List.map_cons,List.map_nil] at ih
   cases pf<;>(
    simp +contextual -dsimp -implicitDefEqProofs (maxSteps:=5000000) only [gLs,↓Ah (JJ.eq_1),h2,h3,h4,hg,hof,ht,eSl,List.replicate,go_sem,simprocAttr]
    exact (AA (by rfl)).mpr ih)
theorem a8n (i:Nat) (pf nn:Bool) (xs:List AR) (l:Int) (hx:(xs.length:Int)*16≤140737488355328):Aa (Lv ctx (i+2)) 40 [.isl pf nn 2 (xs.map eSl),iV l,.fn (.func 41) [] []]=some (.own 2 ((xs.filter (fun x=>Aj x.level l)).map eSl)):=by
 refine Ac rfl (xs.length+1) (by rfl) ?_
 delta c40
 cases pf<;>(
  simp +contextual -dsimp -implicitDefEqProofs (maxSteps:=5000000) only [go_sem,simprocAttr]
  refine kY i _ _ nn xs l hx _ _ _ _ ?ha ?hb xs [] _ (by simp) (by omega) rfl
  case hb =>
   intro hn
   rw [hn]
   simp +contextual -dsimp -implicitDefEqProofs (maxSteps:=5000000) only [go_sem,simprocAttr]
  case ha =>
   intro acc hacc
   rw [← hacc]
   simp +contextual -dsimp -implicitDefEqProofs (maxSteps:=5000000) only [go_sem,simprocAttr])
theorem gE (i:Nat) (x:Bk):Aa (Lv ctx (i+1)) 39 [(eSt true) x]=some (iV x.label):=by
 simp only [eSt]
 refine Ac rfl 0 (by rfl) ?_
 delta c39
 simp +contextual -dsimp -implicitDefEqProofs (maxSteps:=5000000) only [go_sem,simprocAttr]
theorem Wy (i k:Nat) (xs:List Bk) (l:Int) (hx:(xs.length:Int)*48≤140737488355328) (q:Out→St→Option Ans) (Q:V→Hp→Nat→Prop) (u:Dum (fun s q=>evC ctx (Lv ctx (i+1)) (Aa (Lv ctx (i+1))) k JK s (Al [1,2,7,10,11,12] q))) (w:Dum q)
  (hend:∀ acc,acc=xs.filter (fun x=>Aj x.label l)→Fin (q (.exit 0) ⟨Ae [7] [.sl 0],pO Af 0 (some ⟨4,acc.map (eSt true),false⟩),1⟩) Q) :
  ∀ (suf pre:List Bk) (kk:Nat) (acc:List Bk),xs=pre++suf→suf.length<kk→acc.length≤pre.length→acc++suf.filter (fun x=>Aj x.label l)=xs.filter (fun x=>Aj x.label l) →
  GL 0 [1,2,7,10,11,12] (fun s q=>evC ctx (Lv ctx (i+1)) (Aa (Lv ctx (i+1))) k JK s (Al [1,2,7,10,11,12] q)) q kk ⟨Ae [1,2,7,10,11,12] [iV l,.fn (.func 39) [] [],.sl 0,.isl true false 4 (xs.map (eSt true)),iV xs.length,iV pre.length],pO Af 0 (some ⟨4,acc.map (eSt true),false⟩),1⟩ Q u w
 | [],pre,kk,acc,hxs,hk,hal,hacc=>by
  obtain ⟨kk,rfl⟩:∃ m,kk=m+1:=⟨kk - 1,by simp at hk;omega⟩
  have h1:decide ((pre.length:Int)<xs.length)=false:=by simp [hxs]
  have he:=hend acc (by simpa using hacc)
  simp +contextual -dsimp -implicitDefEqProofs (maxSteps:=5000000) only [gLs,↓Ah (JK.eq_1),h1,go_sem,simprocAttr]
  exact he
 | a::suf,pre,kk,acc,hxs,hk,hal,hacc=>by
  obtain ⟨kk,rfl⟩:∃ m,kk=m+1:=⟨kk - 1,by simp at hk;omega⟩
  have hl:pre.length<xs.length:=by simp [hxs]
  have h2:((pre.length:Int)<xs.length)=True:=by simpa using hl
  have h3:(0≤(pre.length:Int))=True:=by simp
  have h4:=wrN pre.length (by simp only [BB];omega)
  have hg:xs[pre.length]?=some a:=by simp [hxs]
  have h5:(((acc.length+1:Nat):Int)*48≤140737488355328)=True:=by rw [eq_iff_iff,iff_true];omega
  have hof:=gE (i+0) a
  simp only [eSt,Nat.add_assoc,Nat.reduceAdd] at hof
  cases ht:Aj a.label l
  ·have ih:=Wy i k xs l hx q Q u w hend suf (pre++[a]) kk acc (by simp [hxs]) (by simpa using hk) (by simp;omega) (by rw [← hacc];simp [ht])
   simp only [Ag] at ih
   (
    simp +contextual -dsimp -implicitDefEqProofs (maxSteps:=5000000) only [gLs,↓Ah (JK.eq_1),h2,h3,h4,hg,hof,ht,eSt,go_sem,simprocAttr]
    exact (AA (by rfl)).mpr ih)
  ·have ih:=Wy i k xs l hx q Q u w hend suf (pre++[a]) kk (acc++[a]) (by simp [hxs]) (by simpa using hk) (by simp;omega) (by rw [← hacc];simp [ht])
   simp only [Ag,List.map_append,List.map_cons,List.map_nil] at ih
   (
    simp +contextual -dsimp -implicitDefEqProofs (maxSteps:=5000000) only [gLs,↓Ah (JK.eq_1),h2,h3,h4,h5,hg,hof,ht,eSt,go_sem,simprocAttr]
    exact (AA (by rfl)).mpr ih)
theorem kX (i k:Nat) (xs:List Bk) (l:Int) (hx:(xs.length:Int)*48≤140737488355328) (q:Out→St→Option Ans) (Q:V→Hp→Nat→Prop) (u:Dum (fun s q=>evC ctx (Lv ctx (i+1)) (Aa (Lv ctx (i+1))) k JK s (Al [1,2,7,10,11,12] q))) (w:Dum q)
  (hend:∀ acc,acc=xs.filter (fun x=>Aj x.label l)→Fin (q (.exit 0) ⟨Ae [7] [.sl 0],pO Af 0 (some ⟨4,acc.map (eSt true),false⟩),1⟩) Q) (hnil:xs.filter (fun x=>Aj x.label l)=[]→Fin (q (.exit 0) ⟨Ae [7] [.lit (.slice none 0 0)],Af,0⟩) Q) :
  ∀ (suf pre:List Bk) (kk:Nat),xs=pre++suf→suf.length<kk→suf.filter (fun x=>Aj x.label l)=xs.filter (fun x=>Aj x.label l) →
  GL 0 [1,2,7,10,11,12] (fun s q=>evC ctx (Lv ctx (i+1)) (Aa (Lv ctx (i+1))) k JK s (Al [1,2,7,10,11,12] q)) q kk ⟨Ae [1,2,7,10,11,12] [iV l,.fn (.func 39) [] [],.lit (.slice none 0 0),.isl true false 4 (xs.map (eSt true)),iV xs.length,iV pre.length],Af,0⟩ Q u w
 | [],pre,kk,hxs,hk,hacc=>by
  obtain ⟨kk,rfl⟩:∃ m,kk=m+1:=⟨kk - 1,by simp at hk;omega⟩
  have h1:decide ((pre.length:Int)<xs.length)=false:=by simp [hxs]
  have he:=hnil (by rw [← hacc];rfl)
  simp +contextual -dsimp -implicitDefEqProofs (maxSteps:=5000000) only [gLs,↓Ah (JK.eq_1),h1,go_sem,simprocAttr]
  exact he
 | a::suf,pre,kk,hxs,hk,hacc=>by
  obtain ⟨kk,rfl⟩:∃ m,kk=m+1:=⟨kk - 1,by simp at hk;omega⟩
  have hl:pre.length<xs.length:=by simp [hxs]
  have h2:((pre.length:Int)<xs.length)=True:=by simpa using hl
  have h3:(0≤(pre.length:Int))=True:=by simp
  have h4:=wrN pre.length (by simp only [BB];omega)
  have hg:xs[pre.length]?=some a:=by simp [hxs]
  have hof:=gE (i+0) a
  simp only [eSt,Nat.add_assoc,Nat.reduceAdd] at hof
  cases ht:Aj a.label l
  ·have ih:=kX i k xs l hx q Q u w hend hnil suf (pre++[a]) kk (by simp [hxs]) (by simpa using hk) (by rw [← hacc];simp [ht])
   simp only [Ag] at ih
   (
    simp +contextual -dsimp -implicitDefEqProofs (maxSteps:=5000000) only [gLs,↓Ah (JK.eq_1),h2,h3,h4,hg,hof,ht,eSt,go_sem,simprocAttr]
    exact (AA (by rfl)).mpr ih)
  ·have ih:=Wy i k xs l hx q Q u w hend suf (pre++[a]) kk [a] (by simp [hxs]) (by simpa using hk) (by simp) (by rw [← hacc];simp [ht])
   simp only [Ag,List.map_cons,List.map_nil] at ih
   (
    simp +contextual -dsimp -implicitDefEqProofs (maxSteps:=5000000) only [gLs,↓Ah (JK.eq_1),h2,h3,h4,hg,hof,ht,eSt,List.replicate,go_sem,simprocAttr]
    exact (AA (by rfl)).mpr ih)
theorem a8m (i:Nat) (xs:List Bk) (l:Int) (hx:(xs.length:Int)*48≤140737488355328):Aa (Lv ctx (i+2)) 38 [.isl true false 4 (xs.map (eSt true)),iV l,.fn (.func 39) [] []]=some (.own 4 ((xs.filter (fun x=>Aj x.label l)).map (eSt true))):=by
 refine Ac rfl (xs.length+1) (by rfl) ?_
 delta c38
 (
  simp +contextual -dsimp -implicitDefEqProofs (maxSteps:=5000000) only [go_sem,simprocAttr]
  refine kX i _ xs l hx _ _ _ _ ?ha ?hb xs [] _ (by simp) (by omega) rfl
  case hb =>
   intro hn
   rw [hn]
   simp +contextual -dsimp -implicitDefEqProofs (maxSteps:=5000000) only [go_sem,simprocAttr]
  case ha =>
   intro acc hacc
   rw [← hacc]
   simp +contextual -dsimp -implicitDefEqProofs (maxSteps:=5000000) only [go_sem,simprocAttr])
theorem wX (i:Nat) (p:Bool) (x:Ai):Aa (Lv ctx (i+1)) 47 [eS p x]=some (iV x.label):=by
 simp only [eS]
 refine Ac rfl 0 (by rfl) ?_
 delta c47
 cases p<;>simp +contextual -dsimp -implicitDefEqProofs (maxSteps:=5000000) only [go_sem,simprocAttr]
theorem kU (i k:Nat) (xs:List Ai) (l:Int) (hx:(xs.length:Int)*184≤140737488355328) (q:Out→St→Option Ans) (Q:V→Hp→Nat→Prop) (u:Dum (fun s q=>evC ctx (Lv ctx (i+1)) (Aa (Lv ctx (i+1))) k JI s (Al [1,2,7,10,11,12] q))) (w:Dum q)
  (hend:∀ acc d,acc=xs.filter (fun x=>Aj x.label l)→Fin (q (.exit 0) ⟨Ae [7] [.sl 1],pO (pO Af 0 (some ⟨17,xs.map mvS,d⟩)) 1 (some ⟨17,acc.map oS,true⟩),2⟩) Q) :
  ∀ (suf pre:List Ai) (kk:Nat) (acc:List Ai) (d:Bool),xs=pre++suf→suf.length<kk→acc.length≤pre.length→acc++suf.filter (fun x=>Aj x.label l)=xs.filter (fun x=>Aj x.label l) →
  GL 1 [1,2,7,10,11,12] (fun s q=>evC ctx (Lv ctx (i+1)) (Aa (Lv ctx (i+1))) k JI s (Al [1,2,7,10,11,12] q)) q kk ⟨Ae [1,2,7,10,11,12] [iV l,.fn (.func 47) [] [],.sl 1,.sl 0,iV xs.length,iV pre.length],pO (pO Af 0 (some ⟨17,pre.map mvS++suf.map oS,d⟩)) 1 (some ⟨17,acc.map oS,true⟩),2⟩ Q u w
 | [],pre,kk,acc,d,hxs,hk,hal,hacc=>by
  obtain ⟨kk,rfl⟩:∃ m,kk=m+1:=⟨kk - 1,by simp at hk;omega⟩
  have h1:decide ((pre.length:Int)<xs.length)=false:=by simp [hxs]
  have he:=hend acc d (by simpa using hacc)
  have hp:xs=pre:=by simpa using hxs
  rw [hp] at he
  simp only [List.map_nil,List.append_nil]
  cases d
  all_goals
   simp +contextual -dsimp -implicitDefEqProofs (maxSteps:=5000000) only [gLs,↓Ah (JI.eq_1),h1,go_sem,simprocAttr]
   exact he
 | a::suf,pre,kk,acc,d,hxs,hk,hal,hacc=>by
  obtain ⟨kk,rfl⟩:∃ m,kk=m+1:=⟨kk - 1,by simp at hk;omega⟩
  have hl:pre.length<xs.length:=by simp [hxs]
  have h2:((pre.length:Int)<xs.length)=True:=by simpa using hl
  have h3:(0≤(pre.length:Int))=True:=by simp
  have h4:=wrN pre.length (by simp only [BB];omega)
  have h6:((pre.length:Int)<((pre.length+(suf.length+1):Nat):Int))=True:=by simp;omega
  have hg:(pre.map mvS++(a::suf).map oS)[pre.length]?=some (oS a):=by simp
  have hlen:(((pre.map mvS++(a::suf).map oS).length:Nat):Int)=xs.length:=by simp [hxs]
  have hset:∀ x,(pre.map mvS++(a::suf).map oS).set pre.length x=pre.map mvS++x::suf.map oS:=by intro x;simp [List.set_append]
  have h5:(((acc.length+1:Nat):Int)*184≤140737488355328)=True:=by rw [eq_iff_iff,iff_true];omega
  have hof:=wX (i+0) false a
  simp only [oS,List.map_cons] at hg hset hlen ⊢
  simp only [eS,Nat.add_assoc,Nat.reduceAdd] at hof
  cases ht:Aj a.label l
  ·have ih:=kU i k xs l hx q Q u w hend suf (pre++[a]) kk acc true (by simp [hxs]) (by simpa using hk) (by simp;omega) (by rw [← hacc];simp [ht])
   simp only [Ag,List.map_append,List.map_cons,List.map_nil,List.append_assoc,List.cons_append,List.nil_append,mvS] at ih
   cases d
   all_goals
    simp +contextual -dsimp -implicitDefEqProofs (maxSteps:=5000000) only [gLs,↓Ah (JI.eq_1),h2,h3,h4,h6,hg,hlen,hset,hof,ht,List.length_map,go_sem,simprocAttr]
    obtain ⟨kk,rfl⟩:∃ m,kk=m+1:=⟨kk - 1,by simp at hk;omega⟩
    simp +contextual -dsimp -implicitDefEqProofs (maxSteps:=5000000) only [gLs,go_sem,simprocAttr] at ih ⊢
    exact ih
  ·have ih:=kU i k xs l hx q Q u w hend suf (pre++[a]) kk (acc++[a]) true (by simp [hxs]) (by simpa using hk) (by simp;omega) (by rw [← hacc];simp [ht])
   simp only [Ag,List.map_append,List.map_cons,List.map_nil,List.append_assoc,List.cons_append,List.nil_append,mvS,oS] at ih
   cases d
   all_goals
    simp +contextual -dsimp -implicitDefEqProofs (maxSteps:=5000000) only [gLs,↓Ah (JI.eq_1),h2,h3,h4,h5,h6,hg,hlen,hset,hof,ht,List.length_map,go_sem,simprocAttr]
    obtain ⟨kk,rfl⟩:∃ m,kk=m+1:=⟨kk - 1,by simp at hk;omega⟩
    simp +contextual -dsimp -implicitDefEqProofs (maxSteps:=5000000) only [gLs,go_sem,simprocAttr] at ih ⊢
    exact ih
theorem xD (i k:Nat) (xs:List Ai) (l:Int) (hx:(xs.length:Int)*184≤140737488355328) (q:Out→St→Option Ans) (Q:V→Hp→Nat→Prop) (u:Dum (fun s q=>evC ctx (Lv ctx (i+1)) (Aa (Lv ctx (i+1))) k JI s (Al [1,2,7,10,11,12] q))) (w:Dum q)
  (hend:∀ acc d,acc=xs.filter (fun x=>Aj x.label l)→Fin (q (.exit 0) ⟨Ae [7] [.sl 1],pO (pO Af 0 (some ⟨17,xs.map mvS,d⟩)) 1 (some ⟨17,acc.map oS,true⟩),2⟩) Q) (hnil:∀ d,xs.filter (fun x=>Aj x.label l)=[]→Fin (q (.exit 0) ⟨Ae [7] [.lit (.slice none 0 0)],pO Af 0 (some ⟨17,xs.map mvS,d⟩),1⟩) Q) :
  ∀ (suf pre:List Ai) (kk:Nat) (d:Bool),xs=pre++suf→suf.length<kk→suf.filter (fun x=>Aj x.label l)=xs.filter (fun x=>Aj x.label l) →
  GL 1 [1,2,7,10,11,12] (fun s q=>evC ctx (Lv ctx (i+1)) (Aa (Lv ctx (i+1))) k JI s (Al [1,2,7,10,11,12] q)) q kk ⟨Ae [1,2,7,10,11,12] [iV l,.fn (.func 47) [] [],.lit (.slice none 0 0),.sl 0,iV xs.length,iV pre.length],pO Af 0 (some ⟨17,pre.map mvS++suf.map oS,d⟩),1⟩ Q u w
 | [],pre,kk,d,hxs,hk,hacc=>by
  obtain ⟨kk,rfl⟩:∃ m,kk=m+1:=⟨kk - 1,by simp at hk;omega⟩
  have h1:decide ((pre.length:Int)<xs.length)=false:=by simp [hxs]
  have he:=hnil d (by rw [← hacc];rfl)
  have hp:xs=pre:=by simpa using hxs
  rw [hp] at he
  simp only [List.map_nil,List.append_nil]
  cases d
  all_goals
   simp +contextual -dsimp -implicitDefEqProofs (maxSteps:=5000000) only [gLs,↓Ah (JI.eq_1),h1,go_sem,simprocAttr]
   exact he
 | a::suf,pre,kk,d,hxs,hk,hacc=>by
  obtain ⟨kk,rfl⟩:∃ m,kk=m+1:=⟨kk - 1,by simp at hk;omega⟩
  have hl:pre.length<xs.length:=by simp [hxs]
  have h2:((pre.length:Int)<xs.length)=True:=by simpa using hl
  have h3:(0≤(pre.length:Int))=True:=by simp
  have h4:=wrN pre.length (by simp only [BB];omega)
  have h6:((pre.length:Int)<((pre.length+(suf.length+1):Nat):Int))=True:=by simp;omega
  have hg:(pre.map mvS++(a::suf).map oS)[pre.length]?=some (oS a):=by simp
  have hlen:(((pre.map mvS++(a::suf).map oS).length:Nat):Int)=xs.length:=by simp [hxs]
  have hset:∀ x,(pre.map mvS++(a::suf).map oS).set pre.length x=pre.map mvS++x::suf.map oS:=by intro x;simp [List.set_append]
  have hof:=wX (i+0) false a
  simp only [oS,List.map_cons] at hg hset hlen ⊢
  simp only [eS,Nat.add_assoc,Nat.reduceAdd] at hof
  cases ht:Aj a.label l
  ·have ih:=xD i k xs l hx q Q u w hend hnil suf (pre++[a]) kk true (by simp [hxs]) (by simpa using hk) (by rw [← hacc];simp [ht])
   simp only [Ag,List.map_append,List.map_cons,List.map_nil,List.append_assoc,List.cons_append,List.nil_append,mvS] at ih
   cases d
   all_goals
    simp +contextual -dsimp -implicitDefEqProofs (maxSteps:=5000000) only [gLs,↓Ah (JI.eq_1),h2,h3,h4,h6,hg,hlen,hset,hof,ht,List.length_map,go_sem,simprocAttr]
    obtain ⟨kk,rfl⟩:∃ m,kk=m+1:=⟨kk - 1,by simp at hk;omega⟩
    simp +contextual -dsimp -implicitDefEqProofs (maxSteps:=5000000) only [gLs,go_sem,simprocAttr] at ih ⊢
    exact ih
  ·have ih:=kU i k xs l hx q Q u w hend suf (pre++[a]) kk [a] true (by simp [hxs]) (by simpa using hk) (by simp) (by rw [← hacc];simp [ht])
   simp only [Ag,List.map_append,List.map_cons,List.map_nil,List.append_assoc,List.cons_append,List.nil_append,mvS,oS] at ih
   cases d
   all_goals
    simp +contextual -dsimp -implicitDefEqProofs (maxSteps:=5000000) only [gLs,↓Ah (JI.eq_1),h2,h3,h4,h6,hg,hlen,hset,hof,ht,List.length_map,List.replicate,go_sem,simprocAttr]
    obtain ⟨kk,rfl⟩:∃ m,kk=m+1:=⟨kk - 1,by simp at hk;omega⟩
    simp +contextual -dsimp -implicitDefEqProofs (maxSteps:=5000000) only [gLs,go_sem,simprocAttr] at ih ⊢
    exact ih
theorem s_uS (i:Nat) (xs:List Ai) (l:Int) (hx:(xs.length:Int)*184≤140737488355328):Aa (Lv ctx (i+2)) 46 [oSs xs,iV l,.fn (.func 47) [] []]=some (oSs (xs.filter (fun x=>Aj x.label l))):=by
 refine Ac rfl (xs.length+1) (by rfl) ?_
 delta c46
 simp +contextual -dsimp -implicitDefEqProofs (maxSteps:=5000000) only [go_sem,simprocAttr]
 refine xD i _ xs l hx _ _ _ _ ?ha ?hb xs [] _ false (by simp) (by omega) rfl
 case hb =>
  intro d hn
  rw [hn]
  cases d<;>simp +contextual -dsimp -implicitDefEqProofs (maxSteps:=5000000) only [go_sem,simprocAttr]<;>rfl
 case ha =>
  intro acc d hacc
  rw [← hacc]
  cases d<;>simp +contextual -dsimp -implicitDefEqProofs (maxSteps:=5000000) only [go_sem,simprocAttr]
end Ve
namespace Ve
open Go Ve.Ab
set_option maxHeartbeats 16000000
set_option maxRecDepth 10000
theorem TB {w:Ao} {l x v:Int} (hw:AF w=true) (hl:inR l 3=true) (hx:inR x 3=true):decide (Nu w ⟨l,x,v⟩<0)=decide (plW w<AH l x)∧decide (Nu w ⟨l,x,v⟩=0)=decide (plW w=AH l x):=by
 simp only [AF,inR,Bool.and_eq_true,decide_eq_true_eq] at hw hl hx
 have e1:=HQ (a:=w.level - l) (by omega) (by omega)
 have e2:=HQ (a:=w.index - x) (by omega) (by omega)
 simp only [wr] at e1 e2
 have h:(Nu w ⟨l,x,v⟩<0↔plW w<AH l x)∧(Nu w ⟨l,x,v⟩=0↔plW w=AH l x):=by
  simp only [Nu,e1,e2,plW,AH]
  split<;>omega
 exact ⟨by simp only [h.1],by simp only [h.2]⟩
theorem YB (P:FuncId→List V→Option V) (n:Nat) (f:Bool) (xs:List V):Ix tbl P n f BG xs=.p none:=rfl
def Ss (t:Int) (xs:List Ao):Bool:=match xs[CF t xs]? with
 | some w=>decide (plW w=t)
 | none=>false
theorem mB {l x:Int} (hx:inR x 3=true) {xs:List Ao} (hm:AX xs=true):Bj xs l x=if Ss (AH l x) xs=true then ((xs.getD (CF (AH l x) xs) ⟨0,0,0⟩).val,true) else (0,false):=by
 obtain ⟨h1,h2,_⟩:=Cz hm
 unfold Bj
 rw [hm,if_pos rfl,UF hx xs h1 h2]
 unfold Ss
 cases h:xs[CF (AH l x) xs]? with
 | none=>simp
 | some w=>simp only [List.getD_eq_getElem?_getD,h,Option.getD_some,decide_eq_true_eq]
theorem uH {lo hi:Nat} (h:hi≤16) (h2:lo<hi):IntKind.wrap .i64 ((lo:Int)+(hi:Int))=((lo+hi:Nat):Int)∧IntKind.wrap .u64 ((lo+hi:Nat):Int)=((lo+hi:Nat):Int)∧((((lo+hi:Nat):Int)).fdiv (2 ^ min (1:Int).toNat (IntKind.bits .u64)))=(((lo+hi) / 2:Nat):Int)∧IntKind.wrap .i64 (((lo+hi) / 2:Nat):Int)=(((lo+hi) / 2:Nat):Int):=by
 have key:∀ n:_root_.Fin 32,IntKind.wrap .i64 ((n.val:Nat):Int)=((n.val:Nat):Int)∧IntKind.wrap .u64 ((n.val:Nat):Int)=((n.val:Nat):Int)∧(((n.val:Nat):Int).fdiv (2 ^ min (1:Int).toNat (IntKind.bits .u64)))=((n.val / 2:Nat):Int)∧IntKind.wrap .i64 ((n.val / 2:Nat):Int)=((n.val / 2:Nat):Int):=by decide +kernel
 have:=key ⟨lo+hi,by omega⟩
 simp only at this
 rw [show (lo:Int)+(hi:Int)=((lo+hi:Nat):Int) by omega]
 exact this
theorem kN (i k:Nat) (pf nn p:Bool) (xs:List Ao) (hw:∀ w∈xs,AF w=true) (hp:xs.Pairwise (fun a b=>plW a<plW b)) (h16:xs.length≤16) (l x v:Int) (hl:inR l 3=true) (hx:inR x 3=true) (q:Out→St→Option Ans) (Q:V→Hp→Nat→Prop)
  (u:Dum (fun s q=>evC ctx (Lv ctx (i+2)) (Aa (Lv ctx (i+2))) k MB s (Al [0,2,4,8,9,10] q))) (w:Dum q)
  (hend:Fin (q (.exit 0) ⟨Ae [0,2,4,8,9] [.isl pf nn 3 (xs.map eWr),.fn (.func 175) [] [],.ip p [iV l,iV x,iV v] 0,iV xs.length,iV (CF (AH l x) xs)],Af,0⟩) Q) :
  ∀ (kk lo hi:Nat),lo≤CF (AH l x) xs→CF (AH l x) xs≤hi→hi≤xs.length→hi<lo+kk →
  GL 0 [0,2,4,8,9,10] (fun s q=>evC ctx (Lv ctx (i+2)) (Aa (Lv ctx (i+2))) k MB s (Al [0,2,4,8,9,10] q)) q kk ⟨Ae [0,2,4,8,9,10] [.isl pf nn 3 (xs.map eWr),.fn (.func 175) [] [],.ip p [iV l,iV x,iV v] 0,iV xs.length,iV lo,iV hi],Af,0⟩ Q u w
 | 0,lo,hi,h1,h2,h3,h4=>by omega
 | kk+1,lo,hi,h1,h2,h3,h4=>by
  by_cases hlt:lo<hi
  ·have l0:decide ((lo:Int)<(hi:Int))=true:=by simpa using hlt
   obtain ⟨g1,g2,g3,g4⟩:=uH (by omega) hlt
   have hsh:∀ t,BO lay .shr t (.lit (.int .u64 ((lo+hi:Nat):Int))) (.lit (.int .u64 1))=some (.lit (.int .u64 (((lo+hi) / 2:Nat):Int))):=fun t=>by rw [SV (by decide),g3]
   have hml:(lo+hi) / 2<xs.length:=by omega
   have hmlo:lo≤(lo+hi) / 2:=by omega
   have hmhi:(lo+hi) / 2<hi:=by omega
   generalize (lo+hi) / 2=c at g3 g4 hsh hml hmlo hmhi
   generalize ((lo+hi:Nat):Int)=e at g1 g2 g3 hsh
   have p1:(0≤(c:Int))=True:=by simp
   have p2:((c:Int)<(xs.length:Int))=True:=by simpa using hml
   obtain ⟨b,hb⟩:∃ b,xs[c]?=some b:=⟨_,List.getElem?_eq_getElem hml⟩
   have hs:=(TB (v:=v) (hw b (List.mem_of_getElem? hb)) hl hx).1
   have w1:=wrN c (by simp only [BB];omega)
   by_cases hpb:plW b<AH l x
   ·have hca:c<CF (AH l x) xs:=by
     rcases Nat.lt_or_ge c (CF (AH l x) xs) with h | h
     ·exact h
     ·have:=iF _ xs hp c b h hb;omega
    have s1:decide (Nu b ⟨l,x,v⟩<0)=true:=by rw [hs];simpa using hpb
    have ih:=kN i k pf nn p xs hw hp h16 l x v hl hx q Q u w hend kk (c+1) hi (by omega) h2 h3 (by omega)
    simp +contextual -dsimp -implicitDefEqProofs (maxSteps:=5000000) only [gLs,↓Ah (MB.eq_1),Cq,l0,g1,g2,g4,hsh,p1,p2,hb,s1,w1,go_sem,simprocAttr]
    exact (AA (by rfl)).mpr ih
   ·have hca:CF (AH l x) xs≤c:=by
     rcases Nat.lt_or_ge c (CF (AH l x) xs) with h | h
     ·exact absurd (iE _ xs c b h hb) hpb
     ·exact h
    have s1:decide (Nu b ⟨l,x,v⟩<0)=false:=by rw [hs];simpa using hpb
    have ih:=kN i k pf nn p xs hw hp h16 l x v hl hx q Q u w hend kk lo c h1 hca (by omega) (by omega)
    simp +contextual -dsimp -implicitDefEqProofs (maxSteps:=5000000) only [gLs,↓Ah (MB.eq_1),Cq,l0,g1,g2,g4,hsh,p1,p2,hb,s1,w1,go_sem,simprocAttr]
    exact (AA (by rfl)).mpr ih
  ·have l0:decide ((lo:Int)<(hi:Int))=false:=by simpa using hlt
   have:lo=CF (AH l x) xs:=by omega
   subst this
   simp +contextual -dsimp -implicitDefEqProofs (maxSteps:=5000000) only [gLs,↓Ah (MB.eq_1),l0,go_sem,simprocAttr]
   exact hend
theorem s_bs (i:Nat) (pf nn:Bool) (xs:List Ao) (hm:AX xs=true) (l x v:Int) (hl:inR l 3=true) (hx:inR x 3=true):Aa (Lv ctx (i+3)) 229 [.isl pf nn 3 (xs.map eWr),.agg [iV l,iV x,iV v],.fn (.func 175) [] []]=some (.tup [iV (CF (AH l x) xs),bV (Ss (AH l x) xs)]):=by
 obtain ⟨hw,hp,h16⟩:=Cz hm
 have key:=fun p q Q u w hend=>kN i 17 pf nn p xs hw hp h16 l x v hl hx q Q u w hend 17 0 xs.length (Nat.zero_le _) (RZ _ _) (Nat.le_refl _) (by omega)
 simp only [Int.natCast_zero] at key
 have hple:=RZ (AH l x) xs
 refine Ac rfl 17 (by rfl) ?_
 delta c229
 simp +contextual -dsimp -implicitDefEqProofs (maxSteps:=5000000) only [go_sem,simprocAttr]
 refine key _ _ _ _ _ ?_
 unfold Ss
 cases hb:xs[CF (AH l x) xs]? with
 | none =>
  have hlen:CF (AH l x) xs=xs.length:=by
   have:=List.getElem?_eq_none_iff.1 hb;omega
  rw [hlen]
  have l0:decide ((xs.length:Int)<(xs.length:Int))=false:=by simp
  simp +contextual -dsimp -implicitDefEqProofs (maxSteps:=5000000) only [l0,YB,go_sem,simprocAttr]
 | some b =>
  have hlen:=Ax hb
  generalize CF (AH l x) xs=a at hb hlen
  have l0:decide ((a:Int)<(xs.length:Int))=true:=by simpa using hlen
  have p1:(0≤(a:Int))=True:=by simp
  have p2:((a:Int)<(xs.length:Int))=True:=by simpa using hlen
  have hs:=(TB (v:=v) (hw b (List.mem_of_getElem? hb)) hl hx).2
  simp +contextual -dsimp -implicitDefEqProofs (maxSteps:=5000000) only [l0,p1,p2,hb,hs,go_sem,simprocAttr]
theorem a2v (i:Nat) (pf nn:Bool) (xs:List Ao) (hm:AX xs=true) (l x:Int) (hl:inR l 3=true) (hx:inR x 3=true):Aa (Lv ctx (i+6)) 227 [.isl pf nn 3 (xs.map eWr),iV l,iV x]=some (.tup [iV (Bj xs l x).1,bV (Bj xs l x).2]):=by
 have h16:=(Cz hm).2.2
 have q1:=Jd (i+2) pf nn xs (by simp only [BB];omega)
 have q2:=s_bs (i+(5 - 3)) pf nn xs hm l x 0 hl hx
 rw [hm] at q1
 rw [mB hx hm]
 simp only [Nat.add_assoc,Nat.reduceAdd,Nat.reduceSub] at q1 q2
 cases hh:Ss (AH l x) xs
 ·rw [hh] at q2
  simp only [Bool.false_eq_true,if_false]
  refine Ac rfl 0 (by rfl) ?_
  delta c227
  simp +contextual -dsimp -implicitDefEqProofs (maxSteps:=5000000) only [q1,q2,go_sem,simprocAttr]
 ·rw [hh] at q2
  simp only [if_true]
  unfold Ss at hh
  cases hb:xs[CF (AH l x) xs]? with
  | none=>rw [hb] at hh;cases hh
  | some b =>
   have hlen:=Ax hb
   simp only [List.getD_eq_getElem?_getD,hb,Option.getD_some]
   generalize CF (AH l x) xs=a at q2 hb hlen
   have p1:(0≤(a:Int))=True:=by simp
   have p2:((a:Int)<(xs.length:Int))=True:=by simpa using hlen
   refine Ac rfl 0 (by rfl) ?_
   delta c227
   simp +contextual -dsimp -implicitDefEqProofs (maxSteps:=5000000) only [q1,q2,p1,p2,hb,go_sem,simprocAttr]
end Ve
namespace Ve
open Go Ve.Ab
set_option maxHeartbeats 16000000
set_option maxRecDepth 10000
theorem EU {w0 w1 w2 w3:List Ap} {l i:Int} (h:Bb ⟨w0,w1,w2,w3⟩ l i=true):∃ (n:Nat) (w:Ap),i=(n:Int)∧((⟨w0,w1,w2,w3⟩:A4 (List Ap)).get l)[n]?=some w∧BN ⟨w0,w1,w2,w3⟩ l i=w∧((n:Int)<(((⟨w0,w1,w2,w3⟩:A4 (List Ap)).get l).length:Int)):=by
 simp only [Bb,Bool.and_eq_true,decide_eq_true_eq] at h
 obtain ⟨⟨_,h1⟩,h2⟩:=h
 have hl:i.toNat<((⟨w0,w1,w2,w3⟩:A4 (List Ap)).get l).length:=by omega
 refine ⟨i.toNat,_,by omega,List.getElem?_eq_getElem hl,?_,by omega⟩
 simp only [BN,List.getElem?_eq_getElem hl,Option.getD_some]
theorem sw4 (a b c d:Bool):(a&&b&&c&&d)=(a&&b&&d&&c):=by cases a<;>cases b<;>cases c<;>cases d<;>rfl
theorem FB {ws:A4 (List Ap)} {l i:Int} (h:Bb ws l i=true):inR l 3=true:=by
 simp only [Bb,Bool.and_eq_true] at h;exact h.1.1
theorem Mf {α:Type} {p:α→Bool} {l:List α} (h:l.all p=true) {j:Nat} {x:α} (hx:l[j]?=some x):p x=true :=
 List.all_eq_true.1 h x (List.mem_of_getElem? hx)
theorem Il {α:Type} (p:α→Bool) (d:α) (l:List α) (h:∀ j,j<l.length→p (l.getD j d)=true):l.all p=true:=by
 rw [List.all_eq_true]
 intro x hx
 obtain ⟨j,hj,rfl⟩:=List.mem_iff_getElem.1 hx
 have:=h j hj
 simpa [List.getD_eq_getElem?_getD,hj] using this
theorem Im {α:Type} (p:α→Bool) {l:List α} {j:Nat} {x:α} (hx:l[j]?=some x) (h:p x=false):l.all p=false:=by
 cases hh:l.all p with
 | false=>rfl
 | true=>rw [Mf hh hx] at h;cases h
theorem iD (i:Nat) (a b c d na nb nc nd:Bool) (w0 w1 w2 w3:List Ap) (h0:w0.length≤BB) (h1:w1.length≤BB) (h2:w2.length≤BB) (h3:w3.length≤BB) (pf nn:Bool) (xs:List AN) (hx:xs.length≤BB) (id:Int):Aa (Lv ctx (i+5)) 156 [.agg [.isl a na 3 (w0.map eW),.isl b nb 3 (w1.map eW),.isl c nc 3 (w2.map eW),.isl d nd 3 (w3.map eW)],.isl pf nn 3 (xs.map eR),iV id]=some (.tup [bV (Cn ⟨w0,w1,w2,w3⟩ xs id).1,iV (Cn ⟨w0,w1,w2,w3⟩ xs id).2]):=by
 have q1:=RX (i+0) a b c d na nb nc nd w0 w1 w2 w3 h0 h1 h2 h3
 have q2:=Li (i+0) pf nn xs hx
 have q3:=On (i+0) pf nn xs hx a b c d na nb nc nd w0 w1 w2 w3
 simp only [Nat.add_assoc,Nat.reduceAdd] at q1 q2 q3
 cases hc:(AT ⟨w0,w1,w2,w3⟩&&AQ xs&&inR id 254&&AJ ⟨w0,w1,w2,w3⟩ xs)
 ·have e:Cn ⟨w0,w1,w2,w3⟩ xs id=(false,900):=by simp only [Cn];rw [sw4,hc];rfl
  rw [e]
  refine Ac rfl (xs.length+1) (by rfl) ?_
  delta c156
  simp +contextual -dsimp -implicitDefEqProofs (maxSteps:=5000000) only [q1,q2,q3,nn2,hc,go_sem,simprocAttr]
 ·have hcc:=hc
  simp only [Bool.and_eq_true] at hcc
  have hwid:=EL (c:=254) (x:=id) (by simp only [hcc]) (by omega)
  have hth:AJ ⟨w0,w1,w2,w3⟩ xs=true:=by simp only [hcc]
  have e:Cn ⟨w0,w1,w2,w3⟩ xs id=(xs.all (Cy ⟨w0,w1,w2,w3⟩ id),0):=by simp only [Cn];rw [sw4,hc];rfl
  rw [e]
  refine Ac rfl (xs.length+1) (by rfl) ?_
  delta c156
  simp +contextual -dsimp -implicitDefEqProofs (maxSteps:=5000000) only [q1,q2,q3,nn2,hc,go_sem,simprocAttr]
  refine Iz (S:=fun j=>⟨Ae [1,2,3,8] [.isl pf nn 3 (xs.map eR),iV id,.ip (a&&(b&&(c&&d))) [.isl a na 3 (w0.map eW),.isl b nb 3 (w1.map eW),.isl c nc 3 (w2.map eW),.isl d nd 3 (w3.map eW)] 0,iV j],Af,0⟩) xs.length (fun j=>Cy ⟨w0,w1,w2,w3⟩ id (xs.getD j ⟨0,0,0⟩)) rfl (by omega) ?_ ?_ ?_
  ·intro j kk hj hgd hl
   have hxj:xs[j]?=some (xs.getD j ⟨0,0,0⟩):=by simp [List.getD_eq_getElem?_getD,hj]
   generalize xs.getD j ⟨0,0,0⟩=x at hxj hgd
   obtain ⟨lv,ix,vr⟩:=x
   have ht:=Mf hth hxj
   simp only at ht
   have hlb:=FB ht
   obtain ⟨n,w,rfl,hgw,hge,hln⟩:=EU ht
   have l1:((j:Int)<(xs.length:Int))=True:=by simpa using hj
   have l2:(0≤(j:Int))=True:=by simp
   have l3:=wrN j (by omega)
   have l4:(0≤(n:Int))=True:=by simp
   rcases Bm lv with rfl | rfl | rfl | rfl | h'
   ·have hn:w0[n]?=some w:=by simpa [A4.get] using hgw
    have hlt:((n:Int)<(w0.length:Int))=True:=by simpa [A4.get] using hln
    simp only [Cy,hge] at hgd
    simp only [Bool.and_eq_true,Bool.or_eq_true,decide_eq_true_eq] at hgd
    obtain ⟨g1,g2⟩:=hgd
    have f1:decide (w.ver=vr)=true:=by simpa using g1
    by_cases hk:w.lock=0
    ·have f2:decide (w.lock=0)=true:=by simpa using hk
     simp +contextual -dsimp -implicitDefEqProofs (maxSteps:=5000000) only [l1,l2,l3,l4,hxj,hn,hlt,f1,f2,↓Ah (DQ.eq_1),go_sem,simprocAttr]
     rw [Ge (by rfl)];exact hl
    ·have f2:decide (w.lock=0)=false:=by simpa using hk
     have f3:decide (w.lock=id+1)=true:=by simpa [hk] using g2
     simp +contextual -dsimp -implicitDefEqProofs (maxSteps:=5000000) only [l1,l2,l3,l4,hxj,hn,hlt,f1,f2,f3,hwid,↓Ah (DQ.eq_1),go_sem,simprocAttr]
     rw [Ge (by rfl)];exact hl
   ·have hn:w1[n]?=some w:=by simpa [A4.get] using hgw
    have hlt:((n:Int)<(w1.length:Int))=True:=by simpa [A4.get] using hln
    simp only [Cy,hge] at hgd
    simp only [Bool.and_eq_true,Bool.or_eq_true,decide_eq_true_eq] at hgd
    obtain ⟨g1,g2⟩:=hgd
    have f1:decide (w.ver=vr)=true:=by simpa using g1
    by_cases hk:w.lock=0
    ·have f2:decide (w.lock=0)=true:=by simpa using hk
     simp +contextual -dsimp -implicitDefEqProofs (maxSteps:=5000000) only [l1,l2,l3,l4,hxj,hn,hlt,f1,f2,↓Ah (DQ.eq_1),go_sem,simprocAttr]
     rw [Ge (by rfl)];exact hl
    ·have f2:decide (w.lock=0)=false:=by simpa using hk
     have f3:decide (w.lock=id+1)=true:=by simpa [hk] using g2
     simp +contextual -dsimp -implicitDefEqProofs (maxSteps:=5000000) only [l1,l2,l3,l4,hxj,hn,hlt,f1,f2,f3,hwid,↓Ah (DQ.eq_1),go_sem,simprocAttr]
     rw [Ge (by rfl)];exact hl
   ·have hn:w2[n]?=some w:=by simpa [A4.get] using hgw
    have hlt:((n:Int)<(w2.length:Int))=True:=by simpa [A4.get] using hln
    simp only [Cy,hge] at hgd
    simp only [Bool.and_eq_true,Bool.or_eq_true,decide_eq_true_eq] at hgd
    obtain ⟨g1,g2⟩:=hgd
    have f1:decide (w.ver=vr)=true:=by simpa using g1
    by_cases hk:w.lock=0
    ·have f2:decide (w.lock=0)=true:=by simpa using hk
     simp +contextual -dsimp -implicitDefEqProofs (maxSteps:=5000000) only [l1,l2,l3,l4,hxj,hn,hlt,f1,f2,↓Ah (DQ.eq_1),go_sem,simprocAttr]
     rw [Ge (by rfl)];exact hl
    ·have f2:decide (w.lock=0)=false:=by simpa using hk
     have f3:decide (w.lock=id+1)=true:=by simpa [hk] using g2
     simp +contextual -dsimp -implicitDefEqProofs (maxSteps:=5000000) only [l1,l2,l3,l4,hxj,hn,hlt,f1,f2,f3,hwid,↓Ah (DQ.eq_1),go_sem,simprocAttr]
     rw [Ge (by rfl)];exact hl
   ·have hn:w3[n]?=some w:=by simpa [A4.get] using hgw
    have hlt:((n:Int)<(w3.length:Int))=True:=by simpa [A4.get] using hln
    simp only [Cy,hge] at hgd
    simp only [Bool.and_eq_true,Bool.or_eq_true,decide_eq_true_eq] at hgd
    obtain ⟨g1,g2⟩:=hgd
    have f1:decide (w.ver=vr)=true:=by simpa using g1
    by_cases hk:w.lock=0
    ·have f2:decide (w.lock=0)=true:=by simpa using hk
     simp +contextual -dsimp -implicitDefEqProofs (maxSteps:=5000000) only [l1,l2,l3,l4,hxj,hn,hlt,f1,f2,↓Ah (DQ.eq_1),go_sem,simprocAttr]
     rw [Ge (by rfl)];exact hl
    ·have f2:decide (w.lock=0)=false:=by simpa using hk
     have f3:decide (w.lock=id+1)=true:=by simpa [hk] using g2
     simp +contextual -dsimp -implicitDefEqProofs (maxSteps:=5000000) only [l1,l2,l3,l4,hxj,hn,hlt,f1,f2,f3,hwid,↓Ah (DQ.eq_1),go_sem,simprocAttr]
     rw [Ge (by rfl)];exact hl
   ·rw [hlb] at h';cases h'
  ·intro j kk hj hgd _
   have hxj:xs[j]?=some (xs.getD j ⟨0,0,0⟩):=by simp [List.getD_eq_getElem?_getD,hj]
   generalize xs.getD j ⟨0,0,0⟩=x at hxj hgd
   obtain ⟨lv,ix,vr⟩:=x
   have ht:=Mf hth hxj
   simp only at ht
   have hlb:=FB ht
   obtain ⟨n,w,rfl,hgw,hge,hln⟩:=EU ht
   have l1:((j:Int)<(xs.length:Int))=True:=by simpa using hj
   have l2:(0≤(j:Int))=True:=by simp
   have l3:=wrN j (by omega)
   have l4:(0≤(n:Int))=True:=by simp
   have hf:(xs.all (Cy ⟨w0,w1,w2,w3⟩ id))=false:=Im _ hxj hgd
   rcases Bm lv with rfl | rfl | rfl | rfl | h'
   ·have hn:w0[n]?=some w:=by simpa [A4.get] using hgw
    have hlt:((n:Int)<(w0.length:Int))=True:=by simpa [A4.get] using hln
    simp only [Cy,hge] at hgd
    by_cases f1:w.ver=vr
    ·have f1':decide (w.ver=vr)=true:=by simpa using f1
     have f2:decide (w.lock=0)=false:=by simp [f1] at hgd;simpa using hgd.1
     have f3:decide (w.lock=id+1)=false:=by simp [f1] at hgd;simpa using hgd.2
     simp +contextual -dsimp -implicitDefEqProofs (maxSteps:=5000000) only [l1,l2,l3,l4,hxj,hn,hlt,f1',f2,f3,hwid,hf,↓Ah (DQ.eq_1),go_sem,simprocAttr]
    ·have f1':decide (w.ver=vr)=false:=by simpa using f1
     simp +contextual -dsimp -implicitDefEqProofs (maxSteps:=5000000) only [l1,l2,l3,l4,hxj,hn,hlt,f1',hf,↓Ah (DQ.eq_1),go_sem,simprocAttr]
   ·have hn:w1[n]?=some w:=by simpa [A4.get] using hgw
    have hlt:((n:Int)<(w1.length:Int))=True:=by simpa [A4.get] using hln
    simp only [Cy,hge] at hgd
    by_cases f1:w.ver=vr
    ·have f1':decide (w.ver=vr)=true:=by simpa using f1
     have f2:decide (w.lock=0)=false:=by simp [f1] at hgd;simpa using hgd.1
     have f3:decide (w.lock=id+1)=false:=by simp [f1] at hgd;simpa using hgd.2
     simp +contextual -dsimp -implicitDefEqProofs (maxSteps:=5000000) only [l1,l2,l3,l4,hxj,hn,hlt,f1',f2,f3,hwid,hf,↓Ah (DQ.eq_1),go_sem,simprocAttr]
    ·have f1':decide (w.ver=vr)=false:=by simpa using f1
     simp +contextual -dsimp -implicitDefEqProofs (maxSteps:=5000000) only [l1,l2,l3,l4,hxj,hn,hlt,f1',hf,↓Ah (DQ.eq_1),go_sem,simprocAttr]
   ·have hn:w2[n]?=some w:=by simpa [A4.get] using hgw
    have hlt:((n:Int)<(w2.length:Int))=True:=by simpa [A4.get] using hln
    simp only [Cy,hge] at hgd
    by_cases f1:w.ver=vr
    ·have f1':decide (w.ver=vr)=true:=by simpa using f1
     have f2:decide (w.lock=0)=false:=by simp [f1] at hgd;simpa using hgd.1
     have f3:decide (w.lock=id+1)=false:=by simp [f1] at hgd;simpa using hgd.2
     simp +contextual -dsimp -implicitDefEqProofs (maxSteps:=5000000) only [l1,l2,l3,l4,hxj,hn,hlt,f1',f2,f3,hwid,hf,↓Ah (DQ.eq_1),go_sem,simprocAttr]
    ·have f1':decide (w.ver=vr)=false:=by simpa using f1
     simp +contextual -dsimp -implicitDefEqProofs (maxSteps:=5000000) only [l1,l2,l3,l4,hxj,hn,hlt,f1',hf,↓Ah (DQ.eq_1),go_sem,simprocAttr]
   ·have hn:w3[n]?=some w:=by simpa [A4.get] using hgw
    have hlt:((n:Int)<(w3.length:Int))=True:=by simpa [A4.get] using hln
    simp only [Cy,hge] at hgd
    by_cases f1:w.ver=vr
    ·have f1':decide (w.ver=vr)=true:=by simpa using f1
     have f2:decide (w.lock=0)=false:=by simp [f1] at hgd;simpa using hgd.1
     have f3:decide (w.lock=id+1)=false:=by simp [f1] at hgd;simpa using hgd.2
     simp +contextual -dsimp -implicitDefEqProofs (maxSteps:=5000000) only [l1,l2,l3,l4,hxj,hn,hlt,f1',f2,f3,hwid,hf,↓Ah (DQ.eq_1),go_sem,simprocAttr]
    ·have f1':decide (w.ver=vr)=false:=by simpa using f1
     simp +contextual -dsimp -implicitDefEqProofs (maxSteps:=5000000) only [l1,l2,l3,l4,hxj,hn,hlt,f1',hf,↓Ah (DQ.eq_1),go_sem,simprocAttr]
   ·rw [hlb] at h';cases h'
  ·intro kk hall
   have l0:decide ((xs.length:Int)<(xs.length:Int))=false:=by simp
   have hf:(xs.all (Cy ⟨w0,w1,w2,w3⟩ id))=true:=Il _ ⟨0,0,0⟩ _ hall
   simp +contextual -dsimp -implicitDefEqProofs (maxSteps:=5000000) only [l0,hf,↓Ah (DQ.eq_1),go_sem,simprocAttr]
theorem Vx {α:Type} (p:α→Bool) {l:List α} {j:Nat} {x:α} (hx:l[j]?=some x) (h:p x=true):l.any p=true :=
 List.any_eq_true.2 ⟨x,List.mem_of_getElem? hx,h⟩
theorem Rz {α:Type} (p:α→Bool) (d:α) (l:List α) (h:∀ j,j<l.length→p (l.getD j d)=false):l.any p=false:=by
 rw [List.any_eq_false]
 intro x hx
 obtain ⟨j,hj,rfl⟩:=List.mem_iff_getElem.1 hx
 have:=h j hj
 simpa [List.getD_eq_getElem?_getD,hj] using this
theorem bT (i:Nat) (a b c d na nb nc nd:Bool) (w0 w1 w2 w3:List Ap) (h0:w0.length≤BB) (h1:w1.length≤BB) (h2:w2.length≤BB) (h3:w3.length≤BB) (pf nn:Bool) (xs:List AN) (hx:xs.length≤BB):Aa (Lv ctx (i+5)) 159 [.agg [.isl a na 3 (w0.map eW),.isl b nb 3 (w1.map eW),.isl c nc 3 (w2.map eW),.isl d nd 3 (w3.map eW)],.isl pf nn 3 (xs.map eR)]=some (.tup [bV (BP ⟨w0,w1,w2,w3⟩ xs).1,iV (BP ⟨w0,w1,w2,w3⟩ xs).2]):=by
 have q1:=RX (i+0) a b c d na nb nc nd w0 w1 w2 w3 h0 h1 h2 h3
 have q2:=Li (i+0) pf nn xs hx
 have q3:=On (i+0) pf nn xs hx a b c d na nb nc nd w0 w1 w2 w3
 simp only [Nat.add_assoc,Nat.reduceAdd] at q1 q2 q3
 cases hc:(AT ⟨w0,w1,w2,w3⟩&&AQ xs&&AJ ⟨w0,w1,w2,w3⟩ xs)
 ·have e:BP ⟨w0,w1,w2,w3⟩ xs=(false,900):=by simp only [BP];rw [hc];rfl
  rw [e]
  refine Ac rfl (xs.length+1) (by rfl) ?_
  delta c159
  simp +contextual -dsimp -implicitDefEqProofs (maxSteps:=5000000) only [q1,q2,q3,nn2,hc,go_sem,simprocAttr]
 ·have hcc:=hc
  simp only [Bool.and_eq_true] at hcc
  have hth:AJ ⟨w0,w1,w2,w3⟩ xs=true:=by simp only [hcc]
  have e:BP ⟨w0,w1,w2,w3⟩ xs=(xs.any (Fb ⟨w0,w1,w2,w3⟩),0):=by simp only [BP];rw [hc];rfl
  rw [e]
  refine Ac rfl (xs.length+1) (by rfl) ?_
  delta c159
  simp +contextual -dsimp -implicitDefEqProofs (maxSteps:=5000000) only [q1,q2,q3,nn2,hc,go_sem,simprocAttr]
  refine Iz (S:=fun j=>⟨Ae [1,2,6] [.isl pf nn 3 (xs.map eR),.ip (a&&(b&&(c&&d))) [.isl a na 3 (w0.map eW),.isl b nb 3 (w1.map eW),.isl c nc 3 (w2.map eW),.isl d nd 3 (w3.map eW)] 0,iV j],Af,0⟩) xs.length (fun j=>!(Fb ⟨w0,w1,w2,w3⟩ (xs.getD j ⟨0,0,0⟩))) rfl (by omega) ?_ ?_ ?_
  ·intro j kk hj hgd hl
   have hxj:xs[j]?=some (xs.getD j ⟨0,0,0⟩):=by simp [List.getD_eq_getElem?_getD,hj]
   generalize xs.getD j ⟨0,0,0⟩=x at hxj hgd
   obtain ⟨lv,ix,vr⟩:=x
   have ht:=Mf hth hxj
   simp only at ht
   have hlb:=FB ht
   obtain ⟨n,w,rfl,hgw,hge,hln⟩:=EU ht
   have l1:((j:Int)<(xs.length:Int))=True:=by simpa using hj
   have l2:(0≤(j:Int))=True:=by simp
   have l3:=wrN j (by omega)
   have l4:(0≤(n:Int))=True:=by simp
   rcases Bm lv with rfl | rfl | rfl | rfl | h'
   ·have hn:w0[n]?=some w:=by simpa [A4.get] using hgw
    have hlt:((n:Int)<(w0.length:Int))=True:=by simpa [A4.get] using hln
    have f1:decide (w.ver=vr)=true:=by simp only [Fb,hge] at hgd;simpa using hgd
    simp +contextual -dsimp -implicitDefEqProofs (maxSteps:=5000000) only [l1,l2,l3,l4,hxj,hn,hlt,f1,↓Ah (HO.eq_1),go_sem,simprocAttr]
    exact hl
   ·have hn:w1[n]?=some w:=by simpa [A4.get] using hgw
    have hlt:((n:Int)<(w1.length:Int))=True:=by simpa [A4.get] using hln
    have f1:decide (w.ver=vr)=true:=by simp only [Fb,hge] at hgd;simpa using hgd
    simp +contextual -dsimp -implicitDefEqProofs (maxSteps:=5000000) only [l1,l2,l3,l4,hxj,hn,hlt,f1,↓Ah (HO.eq_1),go_sem,simprocAttr]
    exact hl
   ·have hn:w2[n]?=some w:=by simpa [A4.get] using hgw
    have hlt:((n:Int)<(w2.length:Int))=True:=by simpa [A4.get] using hln
    have f1:decide (w.ver=vr)=true:=by simp only [Fb,hge] at hgd;simpa using hgd
    simp +contextual -dsimp -implicitDefEqProofs (maxSteps:=5000000) only [l1,l2,l3,l4,hxj,hn,hlt,f1,↓Ah (HO.eq_1),go_sem,simprocAttr]
    exact hl
   ·have hn:w3[n]?=some w:=by simpa [A4.get] using hgw
    have hlt:((n:Int)<(w3.length:Int))=True:=by simpa [A4.get] using hln
    have f1:decide (w.ver=vr)=true:=by simp only [Fb,hge] at hgd;simpa using hgd
    simp +contextual -dsimp -implicitDefEqProofs (maxSteps:=5000000) only [l1,l2,l3,l4,hxj,hn,hlt,f1,↓Ah (HO.eq_1),go_sem,simprocAttr]
    exact hl
   ·rw [hlb] at h';cases h'
  ·intro j kk hj hgd _
   have hxj:xs[j]?=some (xs.getD j ⟨0,0,0⟩):=by simp [List.getD_eq_getElem?_getD,hj]
   generalize xs.getD j ⟨0,0,0⟩=x at hxj hgd
   obtain ⟨lv,ix,vr⟩:=x
   have ht:=Mf hth hxj
   simp only at ht
   have hlb:=FB ht
   obtain ⟨n,w,rfl,hgw,hge,hln⟩:=EU ht
   have l1:((j:Int)<(xs.length:Int))=True:=by simpa using hj
   have l2:(0≤(j:Int))=True:=by simp
   have l3:=wrN j (by omega)
   have l4:(0≤(n:Int))=True:=by simp
   have hf:(xs.any (Fb ⟨w0,w1,w2,w3⟩))=true:=Vx _ hxj (by simpa using hgd)
   rcases Bm lv with rfl | rfl | rfl | rfl | h'
   ·have hn:w0[n]?=some w:=by simpa [A4.get] using hgw
    have hlt:((n:Int)<(w0.length:Int))=True:=by simpa [A4.get] using hln
    have f1:decide (w.ver=vr)=false:=by simp only [Fb,hge] at hgd;simpa using hgd
    simp +contextual -dsimp -implicitDefEqProofs (maxSteps:=5000000) only [l1,l2,l3,l4,hxj,hn,hlt,f1,hf,↓Ah (HO.eq_1),go_sem,simprocAttr]
   ·have hn:w1[n]?=some w:=by simpa [A4.get] using hgw
    have hlt:((n:Int)<(w1.length:Int))=True:=by simpa [A4.get] using hln
    have f1:decide (w.ver=vr)=false:=by simp only [Fb,hge] at hgd;simpa using hgd
    simp +contextual -dsimp -implicitDefEqProofs (maxSteps:=5000000) only [l1,l2,l3,l4,hxj,hn,hlt,f1,hf,↓Ah (HO.eq_1),go_sem,simprocAttr]
   ·have hn:w2[n]?=some w:=by simpa [A4.get] using hgw
    have hlt:((n:Int)<(w2.length:Int))=True:=by simpa [A4.get] using hln
    have f1:decide (w.ver=vr)=false:=by simp only [Fb,hge] at hgd;simpa using hgd
    simp +contextual -dsimp -implicitDefEqProofs (maxSteps:=5000000) only [l1,l2,l3,l4,hxj,hn,hlt,f1,hf,↓Ah (HO.eq_1),go_sem,simprocAttr]
   ·have hn:w3[n]?=some w:=by simpa [A4.get] using hgw
    have hlt:((n:Int)<(w3.length:Int))=True:=by simpa [A4.get] using hln
    have f1:decide (w.ver=vr)=false:=by simp only [Fb,hge] at hgd;simpa using hgd
    simp +contextual -dsimp -implicitDefEqProofs (maxSteps:=5000000) only [l1,l2,l3,l4,hxj,hn,hlt,f1,hf,↓Ah (HO.eq_1),go_sem,simprocAttr]
   ·rw [hlb] at h';cases h'
  ·intro kk hall
   have l0:decide ((xs.length:Int)<(xs.length:Int))=false:=by simp
   have hf:(xs.any (Fb ⟨w0,w1,w2,w3⟩))=false:=Rz _ ⟨0,0,0⟩ _ (fun j hj=>by simpa using hall j hj)
   simp +contextual -dsimp -implicitDefEqProofs (maxSteps:=5000000) only [l0,hf,↓Ah (HO.eq_1),go_sem,simprocAttr]
end Ve
namespace Ve
open Go Ve.Ab
set_option maxHeartbeats 16000000
set_option maxRecDepth 10000
def Sr (l x:Int) (w:Ao):Bool:=decide (w.level=l)&&decide (w.index=x)
theorem QT (l x:Int):∀ (ws:List Ao) (j:Nat) (w:Ao),ws[j]?=some w→Sr l x w=true→(∀ i,i<j→Sr l x (ws.getD i ⟨0,0,0⟩)=false)→BD l x ws=(w.val,true)
 | [],j,w,h,_,_=>by simp at h
 | a::r,0,w,h,hh,_=>by
  simp only [List.getElem?_cons_zero,Option.some.injEq] at h
  subst h
  simp only [Sr,Bool.and_eq_true,decide_eq_true_eq] at hh
  simp only [BD];exact if_pos hh
 | a::r,j+1,w,h,hh,hg=>by
  have h0:=hg 0 (by omega)
  simp only [List.getD_cons_zero,Sr,Bool.and_eq_false_iff,decide_eq_false_iff_not] at h0
  simp only [BD]
  rw [if_neg (by rintro ⟨h1,h2⟩;rcases h0 with h0 | h0;exact h0 h1;exact h0 h2)]
  exact QT l x r j w (by simpa using h) hh (fun i hi=>by have:=hg (i+1) (by omega);simpa using this)
theorem QS (l x:Int):∀ (ws:List Ao),(∀ i,i<ws.length→Sr l x (ws.getD i ⟨0,0,0⟩)=false)→BD l x ws=(0,false)
 | [],_=>rfl
 | a::r,hg=>by
  have h0:=hg 0 (by simp)
  simp only [List.getD_cons_zero,Sr,Bool.and_eq_false_iff,decide_eq_false_iff_not] at h0
  simp only [BD]
  rw [if_neg (by rintro ⟨h1,h2⟩;rcases h0 with h0 | h0;exact h0 h1;exact h0 h2)]
  exact QS l x r (fun i hi=>by have:=hg (i+1) (by simp;omega);simpa using this)
theorem a3o (i:Nat) (pf nn:Bool) (xs:List Ao) (hx:xs.length≤BB) (l x:Int):Aa (Lv ctx (i+5)) 185 [.isl pf nn 3 (xs.map eWr),iV l,iV x]=some (.tup [iV (Bj xs l x).1,bV (Bj xs l x).2]):=by
 have q1:=Jj (i+0) pf nn xs hx
 simp only [Nat.add_assoc,Nat.reduceAdd] at q1
 cases hm:AX xs
 ·have e:Bj xs l x=(0,false):=by simp only [Bj,hm];rfl
  rw [e]
  rw [hm] at q1
  refine Ac rfl (xs.length+1) (by rfl) ?_
  delta c185
  simp +contextual -dsimp -implicitDefEqProofs (maxSteps:=5000000) only [q1,gLs,Bool.and_false,↓Ah (Pv.eq_1),go_sem,simprocAttr]
 ·have e:Bj xs l x=BD l x xs:=by simp only [Bj,hm,if_true]
  rw [e]
  rw [hm] at q1
  refine Ac rfl (xs.length+1) (by rfl) ?_
  delta c185
  simp +contextual -dsimp -implicitDefEqProofs (maxSteps:=5000000) only [q1,go_sem,simprocAttr]
  refine Iz (S:=fun j=>⟨Ae [0,1,2,8] [.isl pf nn 3 (xs.map eWr),iV l,iV x,iV j],Af,0⟩) xs.length (fun j=>!Sr l x (xs.getD j ⟨0,0,0⟩)) rfl (by omega) ?_ ?_ ?_
  ·intro j kk hj hgd hl
   have hxj:xs[j]?=some (xs.getD j ⟨0,0,0⟩):=by simp [List.getD_eq_getElem?_getD,hj]
   generalize xs.getD j ⟨0,0,0⟩=a at hxj hgd
   have l1:((j:Int)<(xs.length:Int))=True:=by simpa using hj
   have l2:(0≤(j:Int))=True:=by simp
   have l3:=wrN j (by omega)
   have f0:Sr l x a=false:=by simpa using hgd
   have f1:(decide (a.level=l)&&decide (a.index=x))=false:=f0
   simp +contextual -dsimp -implicitDefEqProofs (maxSteps:=5000000) only [q1,l1,l2,l3,hxj,f1,↓Ah (Pv.eq_1),go_sem,simprocAttr]
   exact hl
  ·intro j kk hj hgd hbef
   have hxj:xs[j]?=some (xs.getD j ⟨0,0,0⟩):=by simp [List.getD_eq_getElem?_getD,hj]
   have hf:Sr l x (xs.getD j ⟨0,0,0⟩)=true:=by simpa using hgd
   have hfin:=QT l x xs j _ hxj hf (fun i hi=>by simpa using hbef i hi)
   generalize xs.getD j ⟨0,0,0⟩=a at hxj hgd hf hfin
   have l1:((j:Int)<(xs.length:Int))=True:=by simpa using hj
   have l2:(0≤(j:Int))=True:=by simp
   have f1:(decide (a.level=l)&&decide (a.index=x))=true:=hf
   simp +contextual -dsimp -implicitDefEqProofs (maxSteps:=5000000) only [q1,l1,l2,hxj,f1,hfin,↓Ah (Pv.eq_1),go_sem,simprocAttr]
  ·intro kk hall
   have l0:decide ((xs.length:Int)<(xs.length:Int))=false:=by simp
   have hfin:=QS l x xs (fun i hi=>by simpa using hall i hi)
   simp +contextual -dsimp -implicitDefEqProofs (maxSteps:=5000000) only [q1,l0,hfin,Bool.false_and,↓Ah (Pv.eq_1),go_sem,simprocAttr]
theorem Wh (i:Nat) (pf nn:Bool) (xs:List Ao) (hx:xs.length≤BB) (l:Int):Aa (Lv ctx (i+5)) 151 [.isl pf nn 3 (xs.map eWr),iV l]=some (bV (DY xs l)):=by
 have q1:=Jj (i+0) pf nn xs hx
 simp only [Nat.add_assoc,Nat.reduceAdd] at q1
 refine Ac rfl (xs.length+1) (by rfl) ?_
 delta c151
 simp +contextual -dsimp -implicitDefEqProofs (maxSteps:=5000000) only [go_sem,simprocAttr]
 refine Iz (S:=fun j=>⟨Ae [0,1,5] [.isl pf nn 3 (xs.map eWr),iV l,iV j],Af,0⟩) xs.length (fun j=>decide ((xs.getD j ⟨0,0,0⟩).level=l)) rfl (by omega) ?_ ?_ ?_
 ·intro j kk hj hgd hl
  have hxj:xs[j]?=some (xs.getD j ⟨0,0,0⟩):=by simp [List.getD_eq_getElem?_getD,hj]
  generalize xs.getD j ⟨0,0,0⟩=a at hxj hgd
  have l1:((j:Int)<(xs.length:Int))=True:=by simpa using hj
  have l2:(0≤(j:Int))=True:=by simp
  have l3:=wrN j (by omega)
  simp +contextual -dsimp -implicitDefEqProofs (maxSteps:=5000000) only [l1,l2,l3,hxj,hgd,↓Ah (SR.eq_1),go_sem,simprocAttr]
  exact hl
 ·intro j kk hj hgd _
  have hxj:xs[j]?=some (xs.getD j ⟨0,0,0⟩):=by simp [List.getD_eq_getElem?_getD,hj]
  generalize xs.getD j ⟨0,0,0⟩=a at hxj hgd
  have l1:((j:Int)<(xs.length:Int))=True:=by simpa using hj
  have l2:(0≤(j:Int))=True:=by simp
  have hf:DY xs l=false:=by simp only [DY,Im (fun w=>decide (w.level=l)) hxj hgd,Bool.and_false]
  simp +contextual -dsimp -implicitDefEqProofs (maxSteps:=5000000) only [l1,l2,hxj,hgd,hf,↓Ah (SR.eq_1),go_sem,simprocAttr]
 ·intro kk hall
  have l0:decide ((xs.length:Int)<(xs.length:Int))=false:=by simp
  have hf:DY xs l=AX xs:=by simp only [DY,Il (fun w:Ao=>decide (w.level=l)) ⟨0,0,0⟩ _ hall,Bool.and_true]
  simp +contextual -dsimp -implicitDefEqProofs (maxSteps:=5000000) only [l0,q1,hf,↓Ah (SR.eq_1),go_sem,simprocAttr]
theorem Qk (r:AN):AQ [r]=CD r:=by simp [AQ,Ch]
theorem NU (w:Ao):AX [w]=AF w:=by simp [AX,Bd]
theorem Wi (i:Nat) (pf nn:Bool) (xs:List AN) (hx:(xs.length:Int)*24≤140737488355328) (a b c:Int):Aa (Lv ctx (i+5)) 186 [.isl pf nn 3 (xs.map eR),.agg [iV a,iV b,iV c]]=some (.tup [oRs (Bg xs ⟨a,b,c⟩).1,iV (Bg xs ⟨a,b,c⟩).2]):=by
 have hb:xs.length≤BB:=by simp only [BB];omega
 have q1:=Li (i+0) pf nn xs hb
 have q2:=Li (i+0) false false [⟨a,b,c⟩] (by simp [BB])
 rw [Qk] at q2
 simp only [Nat.add_assoc,Nat.reduceAdd,List.map_cons,List.map_nil,eR] at q1 q2
 have b1:((xs.length:Int)*24≤140737488355328)=True:=by simpa using hx
 cases h1:AQ xs
 ·have e:Bg xs ⟨a,b,c⟩=([],900):=by simp only [Bg,h1];rfl
  rw [e]
  rw [h1] at q1
  refine Ac rfl (xs.length+1) (by rfl) ?_
  delta vT
  simp +contextual -dsimp -implicitDefEqProofs (maxSteps:=5000000) only [q1,List.map_nil,go_sem,simprocAttr]
  rfl
 ·rw [h1] at q1
  cases h2:CD ⟨a,b,c⟩
  ·have e:Bg xs ⟨a,b,c⟩=([],900):=by simp only [Bg,h1,h2];rfl
   rw [e]
   rw [h2] at q2
   refine Ac rfl (xs.length+1) (by rfl) ?_
   delta vT
   simp +contextual -dsimp -implicitDefEqProofs (maxSteps:=5000000) only [q1,q2,List.replicate,List.map_nil,go_sem,simprocAttr]
   rfl
  ·rw [h2] at q2
   have e:Bg xs ⟨a,b,c⟩=if xs.any (Cu ⟨a,b,c⟩)=true then (xs,0) else if xs.length=16 then ([],900) else (xs++[⟨a,b,c⟩],0):=by simp only [Bg,h1,h2,Bool.and_self,if_true]
   have h16:xs.length≤16:=by simp only [AQ,Bool.and_eq_true,decide_eq_true_eq] at h1;exact h1.2
   rw [e]
   refine Ac rfl (xs.length+1) (by rfl) ?_
   delta vT
   simp +contextual -dsimp -implicitDefEqProofs (maxSteps:=5000000) only [q1,q2,b1,List.replicate,List.map_nil,go_sem,simprocAttr]
   cases pf
   all_goals
    refine Iz (S:=fun j=>⟨Ae [0,3,6,7] [.isl _ nn 3 (xs.map eR),.ip true [iV a,iV b,iV c] 0,.sl 2,iV j],pO (pO (pO Af 0 (some ⟨3,[.agg [iV a,iV b,iV c]],false⟩)) 1 none) 2 (some ⟨3,xs.map eR,_⟩),3⟩) xs.length (fun j=>!Cu ⟨a,b,c⟩ (xs.getD j ⟨0,0,0⟩)) rfl (by omega) ?_ ?_ ?_
    ·intro j kk hj hgd hl
     have hxj:xs[j]?=some (xs.getD j ⟨0,0,0⟩):=by simp [List.getD_eq_getElem?_getD,hj]
     generalize xs.getD j ⟨0,0,0⟩=x at hxj hgd
     have l1:((j:Int)<(xs.length:Int))=True:=by simpa using hj
     have l2:(0≤(j:Int))=True:=by simp
     have l3:=wrN j (by omega)
     have f0:Cu ⟨a,b,c⟩ x=false:=by simpa using hgd
     have f1:(decide (x.level=a)&&decide (x.index=b))=false:=f0
     cases c1:decide (x.level=a)
     ·simp +contextual -dsimp -implicitDefEqProofs (maxSteps:=5000000) only [l1,l2,l3,hxj,c1,↓Ah (ME.eq_1),go_sem,simprocAttr]
      exact hl
     ·have c2:decide (x.index=b)=false:=by rw [c1,Bool.true_and] at f1;exact f1
      simp +contextual -dsimp -implicitDefEqProofs (maxSteps:=5000000) only [l1,l2,l3,hxj,c1,c2,↓Ah (ME.eq_1),go_sem,simprocAttr]
      exact hl
    ·intro j kk hj hgd _
     have hxj:xs[j]?=some (xs.getD j ⟨0,0,0⟩):=by simp [List.getD_eq_getElem?_getD,hj]
     generalize xs.getD j ⟨0,0,0⟩=x at hxj hgd
     have l1:((j:Int)<(xs.length:Int))=True:=by simpa using hj
     have l2:(0≤(j:Int))=True:=by simp
     have f0:Cu ⟨a,b,c⟩ x=true:=by simpa using hgd
     have f1:(decide (x.level=a)&&decide (x.index=b))=true:=f0
     have hf:xs.any (Cu ⟨a,b,c⟩)=true:=Vx _ hxj f0
     rw [if_pos hf]
     obtain ⟨c1,c2⟩:=(Bool.and_eq_true _ _).mp f1
     simp +contextual -dsimp -implicitDefEqProofs (maxSteps:=5000000) only [l1,l2,hxj,c1,c2,↓Ah (ME.eq_1),go_sem,simprocAttr]
    ·intro kk hall
     have l0:decide ((xs.length:Int)<(xs.length:Int))=false:=by simp
     have hf:xs.any (Cu ⟨a,b,c⟩)=false:=Rz _ ⟨0,0,0⟩ _ (fun j hj=>by simpa using hall j hj)
     have b2:(((xs.length+1:Nat):Int)*24≤140737488355328)=True:=by simp;omega
     rw [if_neg (by rw [hf];decide)]
     by_cases hl:xs.length=16
     ·rw [if_pos hl]
      have l6:decide ((16:Int)<((xs.length+1:Nat):Int))=true:=by simp;omega
      simp +contextual -dsimp -implicitDefEqProofs (maxSteps:=5000000) only [l0,b2,l6,List.replicate,↓Ah (ME.eq_1),go_sem,simprocAttr]
      simp only [oRs,List.map_append,List.map_cons,List.map_nil,eR]
     ·rw [if_neg hl]
      have l6:decide ((16:Int)<((xs.length+1:Nat):Int))=false:=by simp;omega
      simp +contextual -dsimp -implicitDefEqProofs (maxSteps:=5000000) only [l0,b2,l6,List.replicate,↓Ah (ME.eq_1),go_sem,simprocAttr]
      simp only [oRs,List.map_append,List.map_cons,List.map_nil,eR]
end Ve
