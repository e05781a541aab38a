/- The program's writes, with one more. -/
import Derived.Test.YtjgbbmcjbfpjfaaGreatVeSC
import Derived.Test.YtjgbbmcjbfpjfaaGreatVeP
import Derived.Test.YtjgbbmcjbfpjfaaGreatVeSA
set_option linter.all false
set_option linter.unusedSectionVars false
namespace Ve
open Go Ve.Ab
set_option maxHeartbeats 16000000
set_option maxRecDepth 10000
theorem qJ (i:Nat) (pf nn:Bool) (xs:List Ao) (hm:AX xs=true) (l x v:Int) (hw:AF ⟨l,x,v⟩=true):Aa (Lv ctx (i+7)) 219 [.isl pf nn 3 (xs.map eWr),.agg [iV l,iV x,iV v]]=some (.tup [PQ (Dj ⟨l,x,v⟩ xs),iV 0]):=by
 obtain ⟨h1,h2,h16⟩:=Cz hm
 have hl:inR l 3=true:=by simp only [AF,Bool.and_eq_true] at hw;exact hw.1.1
 have hx:inR x 3=true:=by simp only [AF,Bool.and_eq_true] at hw;exact hw.1.2
 have q1:=Jd (i+3) pf nn xs (by simp only [BB];omega)
 have q2:=Jd (i+3) false false [⟨l,x,v⟩] (by simp [BB])
 have q3:=s_bs (i+(6 - 3)) pf nn xs hm l x v hl hx
 rw [hm] at q1
 rw [NU,hw] at q2
 simp only [Nat.add_assoc,Nat.reduceAdd,Nat.reduceSub,List.map_cons,List.map_nil,eWr] at q1 q2 q3
 have b1:((xs.length:Int)*24≤140737488355328)=True:=by simp only [eq_iff_iff,iff_true];omega
 have hple:=RZ (AH l x) xs
 cases hh:Ss (AH l x) xs
 ·have hmiss:∀ w,xs[CF (AH l x) xs]?=some w→plW w≠AH l x:=by
   intro w h e
   unfold Ss at hh
   rw [h] at hh
   simp only [decide_eq_false_iff_not] at hh
   exact hh e
  have hlen:¬ xs.length=16:=by
   intro h
   obtain ⟨y,hy,hpy⟩:=lY hm h hw
   obtain ⟨w,hw1,hw2⟩:=Zk h2 ⟨y,hy,hpy⟩
   exact hmiss w hw1 hw2
  have hins:Dj ⟨l,x,v⟩ xs=xs.take (CF (AH l x) xs)++[⟨l,x,v⟩]++xs.drop (CF (AH l x) xs):=lL (w:=⟨l,x,v⟩) hmiss
  rw [hins]
  rw [hh] at q3
  generalize CF (AH l x) xs=a at q3 hple ⊢
  have z:decide ((xs.length:Int)=16)=false:=by simp;omega
  have p1:(0≤(a:Int))=True:=by simp
  have p2:(a≤xs.length)=True:=by simpa using hple
  have b2:(((xs.length+1:Nat):Int)*24≤140737488355328)=True:=by simp only [eq_iff_iff,iff_true];omega
  simp only [PQ,List.map_append,List.map_take,List.map_drop,List.map_cons,List.map_nil,eWr]
  refine Ac rfl 0 (by rfl) ?_
  delta c219
  cases pf<;>simp +contextual -dsimp -implicitDefEqProofs (maxSteps:=5000000) only [q1,q2,q3,b1,b2,z,p1,p2,Int.toNat_natCast,List.replicate,List.length_map,go_sem,simprocAttr]
 ·have hhit:∃ w,xs[CF (AH l x) xs]?=some w∧plW w=AH l x:=by
   unfold Ss at hh
   cases h:xs[CF (AH l x) xs]? with
   | none=>rw [h] at hh;cases hh
   | some w=>rw [h] at hh;exact ⟨w,rfl,by simpa using hh⟩
  obtain ⟨w,hg,hpw⟩:=hhit
  have hins:Dj ⟨l,x,v⟩ xs=xs.set (CF (AH l x) xs) ⟨l,x,v⟩:=uE (w:=⟨l,x,v⟩) hg hpw
  rw [hins]
  rw [hh] at q3
  have hlt:=Ax hg
  generalize CF (AH l x) xs=a at q3 hlt hg ⊢
  have p1:(0≤(a:Int))=True:=by simp
  have p2:((a:Int)<(xs.length:Int))=True:=by simpa using hlt
  have e9:(xs.map eWr).set a (.agg [iV l,iV x,iV v])=(xs.set a ⟨l,x,v⟩).map eWr:=by rw [List.map_set];rfl
  have e8:(xs.set a ⟨l,x,v⟩).length=xs.length:=List.length_set ..
  refine Ac rfl 0 (by rfl) ?_
  delta c219
  cases pf<;>simp +contextual -dsimp -implicitDefEqProofs (maxSteps:=5000000) only [q1,q2,q3,b1,p1,p2,hg,e9,e8,Int.toNat_natCast,List.replicate,List.length_map,go_sem,simprocAttr]
end Ve
namespace Ve
open Go Ve.Ab
set_option maxHeartbeats 16000000
set_option maxRecDepth 10000
theorem TG (i:Nat) (pf nn:Bool) (xs:List Ao) (hx:(xs.length:Int)*24≤140737488355328) (a b c:Int):Aa (Lv ctx (i+5)) 187 [.isl pf nn 3 (xs.map eWr),.agg [iV a,iV b,iV c]]=some (.tup [PQ (BS xs ⟨a,b,c⟩).1,iV (BS xs ⟨a,b,c⟩).2]):=by
 have hb:xs.length≤BB:=by simp only [BB];omega
 have q1:=Jj (i+0) pf nn xs hb
 have q2:=Jj (i+0) false false [⟨a,b,c⟩] (by simp [BB])
 rw [NU] at q2
 simp only [Nat.add_assoc,Nat.reduceAdd,List.map_cons,List.map_nil,eWr] at q1 q2
 cases h1:AX xs
 ·have e:BS xs ⟨a,b,c⟩=([],1000):=by simp only [BS,h1];rfl
  rw [e]
  rw [h1] at q1
  refine Ac rfl (xs.length+1) (by rfl) ?_
  delta oL
  simp +contextual -dsimp -implicitDefEqProofs (maxSteps:=5000000) only [q1,List.map_nil,go_sem,simprocAttr]
  rfl
 ·rw [h1] at q1
  cases h2:AF ⟨a,b,c⟩
  ·have e:BS xs ⟨a,b,c⟩=([],1000):=by simp only [BS,h1,h2];rfl
   rw [e]
   rw [h2] at q2
   refine Ac rfl (xs.length+1) (by rfl) ?_
   delta oL
   simp +contextual -dsimp -implicitDefEqProofs (maxSteps:=5000000) only [q1,q2,List.replicate,List.map_nil,go_sem,simprocAttr]
   rfl
  ·rw [h2] at q2
   have e:BS xs ⟨a,b,c⟩=(Dj ⟨a,b,c⟩ xs,0):=by simp only [BS,h1,h2,Bool.and_self,if_true]
   obtain ⟨hw1,hso,h16⟩:=Cz h1
   have hpw:=Jl ⟨a,b,c⟩ h2
   have hpos:plW ⟨a,b,c⟩=4*a+b:=rfl
   rw [e]
   by_cases hne:xs.length=0
   ·obtain rfl:xs=[]:=List.eq_nil_of_length_eq_zero hne
    simp only [List.map_nil] at q1
    refine Ac rfl 1 (by rfl) ?_
    delta oL
    have k1:((1:Int)*24≤140737488355328)=True:=by simp
    simp +contextual -dsimp -implicitDefEqProofs (maxSteps:=5000000) only [q1,q2,gLs,List.replicate,List.map_nil,k1,↓Ah (Gw.eq_1),go_sem,simprocAttr]
    rfl
   ·have hz:0<xs.length:=by omega
    have hS:∀ j,∃ s:St,s=⟨Ae [0,3,6,7,8] [.isl pf nn 3 (xs.map eWr),.ip true [iV a,iV b,iV c] 0,.sl 1,bV ((xs.take j).any (geW ⟨a,b,c⟩)),iV j],pO (pO Af 0 (some ⟨3,[.agg [iV a,iV b,iV c]],false⟩)) 1 (some ⟨3,(Hl ⟨a,b,c⟩ (xs.take j)).map eWr,false⟩),2⟩:=fun j=>⟨_,rfl⟩
    clear hS
    have tk:∀ j x,xs[j]?=some x→xs.take (j+1)=xs.take j++[x]:=by
     intro j x hxj
     rw [List.take_succ,hxj];rfl
    have bb:∀ n:Nat,n≤40→(((n:Nat):Int)*24≤140737488355328)=True:=by intro n hn;simp;omega
    have tl:∀ j,(xs.take j).length≤16:=fun j=>by rw [List.length_take];omega
    have ol:∀ j,(Hl ⟨a,b,c⟩ (xs.take j)).length≤17:=fun j=>Nat.le_trans (sJ _ _) (by have:=tl j;omega)
    have z0:((0:Int)<(xs.length:Int))=True:=by simp;omega
    obtain ⟨x0,hx0⟩:∃ x0,xs[0]?=some x0:=⟨xs[0],by simp [hz]⟩
    have hm0:=hw1 x0 (List.mem_of_getElem? hx0)
    have hp0:=Jl x0 hm0
    have g0:plW x0=4*x0.level+x0.index:=rfl
    have t1:=tk 0 x0 hx0
    simp only [List.take_zero,List.nil_append,Nat.zero_add] at t1
    have n0:([]:List Ao).any (geW ⟨a,b,c⟩)=false:=rfl
    refine Ac rfl (xs.length+1) (by rfl) ?_
    delta oL
    simp +contextual -dsimp -implicitDefEqProofs (maxSteps:=5000000) only [q1,q2,List.replicate,go_sem,simprocAttr]
    rw [gLs]
    have rest:∀ {f:St→(Out→St→Option Ans)→Option Ans} {q:Out→St→Option Ans} {u:Dum f} {w:Dum q},True:=trivial
    clear rest
    suffices hgo:GL 1 [0,3,6,7,8] (fun s q=>evC ctx (Lv ctx (i+4)) (Aa (Lv ctx (i+4))) (xs.length+1) Gw s (Al [0,3,6,7,8] q)) _ xs.length ⟨Ae [0,3,6,7,8] [.isl pf nn 3 (xs.map eWr),.ip true [iV a,iV b,iV c] 0,.sl 1,bV ((xs.take 1).any (geW ⟨a,b,c⟩)),iV 1],pO (pO Af 0 (some ⟨3,[.agg [iV a,iV b,iV c]],false⟩)) 1 (some ⟨3,(Hl ⟨a,b,c⟩ (xs.take 1)).map eWr,false⟩),2⟩ _ ⟨⟩ ⟨⟩ by
     rcases Int.lt_trichotomy (plW x0) (plW ⟨a,b,c⟩) with hlt | heq | hgt
     ·obtain ⟨o1,o2⟩:=TR n0 hlt
      rw [List.nil_append] at o1 o2
      rw [t1,o1,o2] at hgo
      have c1:decide (4*a+b≤4*x0.level+x0.index)=false:=by rw [g0,hpos] at hlt;simp;omega
      have c2:decide (4*x0.level+x0.index=4*a+b)=false:=by rw [g0,hpos] at hlt;simp;omega
      have k1:((1:Int)*24≤140737488355328)=True:=by simp
      simp +contextual -dsimp -implicitDefEqProofs (maxSteps:=5000000) only [z0,hx0,hp0,hpw,c1,c2,List.replicate,k1,↓Ah (Gw.eq_1),go_sem,simprocAttr]
      exact DW hgo (by rfl)
     ·obtain ⟨o1,o2⟩:=TS n0 heq
      rw [List.nil_append] at o1 o2
      rw [t1,o1,o2] at hgo
      have c1:decide (4*a+b≤4*x0.level+x0.index)=true:=by rw [g0,hpos] at heq;simp;omega
      have c2:decide (4*x0.level+x0.index=4*a+b)=true:=by rw [g0,hpos] at heq;simp;omega
      have k1:((1:Int)*24≤140737488355328)=True:=by simp
      simp +contextual -dsimp -implicitDefEqProofs (maxSteps:=5000000) only [z0,hx0,hp0,hpw,c1,c2,List.replicate,k1,↓Ah (Gw.eq_1),go_sem,simprocAttr]
      exact DW hgo (by rfl)
     ·obtain ⟨o1,o2⟩:=Zo n0 hgt
      rw [List.nil_append,List.nil_append] at o1
      rw [List.nil_append] at o2
      rw [t1,o1,o2] at hgo
      have c1:decide (4*a+b≤4*x0.level+x0.index)=true:=by rw [g0,hpos] at hgt;simp;omega
      have c2:decide (4*x0.level+x0.index=4*a+b)=false:=by rw [g0,hpos] at hgt;simp;omega
      have k1:((1:Int)*24≤140737488355328)=True:=by simp
      have k2:((2:Int)*24≤140737488355328)=True:=by simp
      simp +contextual -dsimp -implicitDefEqProofs (maxSteps:=5000000) only [z0,hx0,hp0,hpw,c1,c2,List.replicate,k1,k2,↓Ah (Gw.eq_1),go_sem,simprocAttr]
      exact DW hgo (by rfl)
    refine lR (fun j=>⟨Ae [0,3,6,7,8] [.isl pf nn 3 (xs.map eWr),.ip true [iV a,iV b,iV c] 0,.sl 1,bV ((xs.take j).any (geW ⟨a,b,c⟩)),iV j],pO (pO Af 0 (some ⟨3,[.agg [iV a,iV b,iV c]],false⟩)) 1 (some ⟨3,(Hl ⟨a,b,c⟩ (xs.take j)).map eWr,false⟩),2⟩) xs.length (fun _=>true) ?_ (fun _ _ _ h=>by cases h) ?_ (xs.length - 1) 1 xs.length (by omega) (by omega) (fun _ _=>rfl)
    ·intro j kk hj _ hl
     obtain ⟨x,hxj⟩:∃ x,xs[j]?=some x:=⟨xs[j],by simp [hj]⟩
     have hmx:=hw1 x (List.mem_of_getElem? hxj)
     have hpx:=Jl x hmx
     have gx:plW x=4*x.level+x.index:=rfl
     have l1:((j:Int)<(xs.length:Int))=True:=by simpa using hj
     have l2:(0≤(j:Int))=True:=by simp
     have l3:=wrN j (by omega)
     have hlen:=ol j
     have hpre:∀ y∈xs.take j,plW y<plW x:=by
      intro y hy
      obtain ⟨i',hi',rfl⟩:=List.mem_iff_getElem.1 hy
      rw [List.length_take] at hi'
      have h3:=(List.pairwise_iff_getElem.1 hso) i' j (by omega) hj (by omega)
      have hxe:xs[j]=x:=by rw [List.getElem?_eq_getElem hj] at hxj;exact Option.some.inj hxj
      rw [hxe] at h3
      simpa using h3
     simp only [tk j x hxj] at hl
     have k1:((((Hl ⟨a,b,c⟩ (xs.take j)).length+1:Nat):Int)*24≤140737488355328)=True:=bb _ (by omega)
     have k2:((((Hl ⟨a,b,c⟩ (xs.take j)).length+1+1:Nat):Int)*24≤140737488355328)=True:=bb _ (by omega)
     cases hd:(xs.take j).any (geW ⟨a,b,c⟩)
     ·have ho:Hl ⟨a,b,c⟩ (xs.take j)=xs.take j:=by simp only [Hl,hd];rfl
      rcases Int.lt_trichotomy (plW x) (plW ⟨a,b,c⟩) with hlt | heq | hgt
      ·obtain ⟨o1,o2⟩:=TR hd hlt
       rw [o1,o2,← ho] at hl
       have c1:decide (4*a+b≤4*x.level+x.index)=false:=by rw [gx,hpos] at hlt;simp;omega
       have c2:decide (4*x.level+x.index=4*a+b)=false:=by rw [gx,hpos] at hlt;simp;omega
       simp +contextual -dsimp -implicitDefEqProofs (maxSteps:=5000000) only [l1,l2,l3,hxj,hpx,hpw,c1,c2,List.replicate,k1,k2,↓Ah (Gw.eq_1),go_sem,simprocAttr]
       refine DW hl ?_
       simp only [List.map_append];rfl
      ·obtain ⟨o1,o2⟩:=TS hd heq
       rw [o1,o2,← ho] at hl
       have c1:decide (4*a+b≤4*x.level+x.index)=true:=by rw [gx,hpos] at heq;simp;omega
       have c2:decide (4*x.level+x.index=4*a+b)=true:=by rw [gx,hpos] at heq;simp;omega
       simp +contextual -dsimp -implicitDefEqProofs (maxSteps:=5000000) only [l1,l2,l3,hxj,hpx,hpw,c1,c2,List.replicate,k1,k2,↓Ah (Gw.eq_1),go_sem,simprocAttr]
       refine DW hl ?_
       simp only [List.map_append];rfl
      ·obtain ⟨o1,o2⟩:=Zo hd hgt
       rw [o1,o2,← ho] at hl
       have c1:decide (4*a+b≤4*x.level+x.index)=true:=by rw [gx,hpos] at hgt;simp;omega
       have c2:decide (4*x.level+x.index=4*a+b)=false:=by rw [gx,hpos] at hgt;simp;omega
       simp +contextual -dsimp -implicitDefEqProofs (maxSteps:=5000000) only [l1,l2,l3,hxj,hpx,hpw,c1,c2,List.replicate,List.length_append,k1,k2,↓Ah (Gw.eq_1),go_sem,simprocAttr]
       refine DW hl ?_
       simp only [List.map_append];rfl
     ·obtain ⟨o1,o2⟩:=jF (x:=x) hd
      rw [o1,o2] at hl
      have hgt:=a6o hd hpre
      have c2:decide (4*x.level+x.index=4*a+b)=false:=by rw [gx,hpos] at hgt;simp;omega
      simp +contextual -dsimp -implicitDefEqProofs (maxSteps:=5000000) only [l1,l2,l3,hxj,hpx,hpw,hd,c2,List.replicate,k1,k2,↓Ah (Gw.eq_1),go_sem,simprocAttr]
      refine DW hl ?_
      simp only [List.map_append];rfl
    ·intro kk _
     have l0:decide ((xs.length:Int)<(xs.length:Int))=false:=by simp
     have tf:xs.take xs.length=xs:=List.take_length
     have k1:(((xs.length+1:Nat):Int)*24≤140737488355328)=True:=bb _ (by omega)
     rw [sL (w:=⟨a,b,c⟩) (l:=xs)]
     simp only [tf]
     cases hd:xs.any (geW ⟨a,b,c⟩)
     ·have ho:Hl ⟨a,b,c⟩ xs=xs:=by simp only [Hl,hd];rfl
      rw [ho]
      simp +contextual -dsimp -implicitDefEqProofs (maxSteps:=5000000) only [l0,k1,hd,List.replicate,↓Ah (Gw.eq_1),go_sem,simprocAttr]
      simp only [PQ,List.map_append,List.map_cons,List.map_nil,eWr]
     ·simp +contextual -dsimp -implicitDefEqProofs (maxSteps:=5000000) only [l0,hd,List.replicate,↓Ah (Gw.eq_1),go_sem,simprocAttr]
end Ve
namespace Ve
open Go Ve.Ab
set_option maxHeartbeats 16000000
set_option maxRecDepth 10000
theorem HV (i:Nat) (pf:Bool) (m:Ad) (at_:Int) (v:Int) (h:∃ k s,at_=(k:Nat)∧m.sess[k]?=some s∧SP m.words s∧((s.step≠0∧v=-1)∨(s.step=0∧s.pc=(s.prog.length:Int)∧v=-1)∨(s.step=0∧∃ n x,s.pc=(n:Nat)∧s.prog[n]?=some x∧v=x.code))):Aa (Lv ctx (i+1)) 144 [eM pf m,iV at_]=some (iV v):=by
 obtain ⟨k,s,rfl,hs,hS,h⟩:=h
 have hk:=Ax hs
 have e1:(0≤(k:Int))=True:=by simp
 have e2:((k:Int)<(m.sess.length:Int))=True:=by simpa using hk
 rcases h with ⟨hst,rfl⟩ | ⟨hst,hp,rfl⟩ | ⟨hst,n,x,hp,hi,rfl⟩
 ·have z0:decide (s.step=0)=false:=by simpa using hst
  refine Ac rfl 0 (by rfl) ?_
  delta vW
  cases pf<;>simp +contextual -dsimp -implicitDefEqProofs (maxSteps:=5000000) only [hs,e1,e2,z0,go_sem,simprocAttr]
 ·have z0:decide (s.step=0)=true:=by simpa using hst
  have z1:decide ((s.prog.length:Int)≤(s.prog.length:Int))=true:=by simp
  refine Ac rfl 0 (by rfl) ?_
  delta vW
  cases pf<;>simp +contextual -dsimp -implicitDefEqProofs (maxSteps:=5000000) only [hs,e1,e2,z0,hp,z1,go_sem,simprocAttr]
 ·have hn:=Ax hi
  have p1:(0≤(n:Int))=True:=by simp
  have p2:((n:Int)<(s.prog.length:Int))=True:=by simpa using hn
  have p3:decide ((s.prog.length:Int)≤(n:Int))=false:=by simp;omega
  have z0:decide (s.step=0)=true:=by simpa using hst
  refine Ac rfl 0 (by rfl) ?_
  delta vW
  cases pf<;>simp +contextual -dsimp -implicitDefEqProofs (maxSteps:=5000000) only [hs,e1,e2,z0,hp,p1,p2,p3,hi,go_sem,simprocAttr]
theorem Lr {m:Ad} {at_:Int} (h:CO m at_=none):Co m at_=(false,1400):=by unfold Co;rw [h]
theorem OB {m:Ad} {at_:Int} {s:Ai} {x:AI} (h:CO m at_=some (s,x)) (hc:¬ x.code=2):Co m at_=(false,1400):=by unfold Co;rw [h];simp only [hc,if_false]
theorem HY {m:Ad} {at_:Int} {s:Ai} {x:AI} (h:CO m at_=some (s,x)) (hc:x.code=2):Co m at_=(!Aj x.b s.label,0):=by unfold Co;rw [h];simp only [hc,if_true]
theorem RW (i:Nat) (pf:Bool) (m:Ad) (hm:SmM m) (at_:Int):Aa (Lv ctx (i+9)) 145 [eM pf m,iV at_]=some (.tup [bV (Co m at_).1,iV (Co m at_).2]):=by
 have qr:=fun v h=>HV (i+7) pf m at_ v h
 have qh:=HM (i+0) pf m at_ hm
 simp only [Nat.add_assoc,Nat.reduceAdd] at qr qh
 cases Ej m at_ with
 | no h =>
  have e:Co m at_=(false,1400):=Lr (Gs h)
  rw [e]
  refine Ac rfl 0 (by rfl) ?_
  delta eD
  cases pf<;>simp +contextual -dsimp -implicitDefEqProofs (maxSteps:=5000000) only [qh,h,go_sem,simprocAttr]
 | off k s e0 hs hM hS hst =>
  subst e0
  have e:Co m k=(false,1400):=Lr (CL hs hM hst)
  rw [e]
  have hh:=Bs hs hM
  have q:=qr (-1) ⟨k,s,rfl,hs,hS,.inl ⟨hst,rfl⟩⟩
  refine Ac rfl 0 (by rfl) ?_
  delta eD
  cases pf<;>simp +contextual -dsimp -implicitDefEqProofs (maxSteps:=5000000) only [qh,hh,q,go_sem,simprocAttr]
 | fin k s e0 hs hM hS hst hp =>
  subst e0
  have e:Co m k=(false,1400):=Lr (EP hs hM hst hp)
  rw [e]
  have hh:=Bs hs hM
  have q:=qr (-1) ⟨k,s,rfl,hs,hS,.inr (.inl ⟨hst,hp,rfl⟩)⟩
  refine Ac rfl 0 (by rfl) ?_
  delta eD
  cases pf<;>simp +contextual -dsimp -implicitDefEqProofs (maxSteps:=5000000) only [qh,hh,q,go_sem,simprocAttr]
 | on k n s x e0 hs hM hS hst hp hn hi =>
  subst e0
  have q:=qr x.code ⟨k,s,rfl,hs,hS,.inr (.inr ⟨hst,n,x,hp,hi,rfl⟩)⟩
  have hk:=Ax hs
  have e1:(0≤(k:Int))=True:=by simp
  have e2:((k:Int)<(m.sess.length:Int))=True:=by simpa using hk
  have e5:∀ x,((m.sess.map oS).set k x)[k]?=some x:=fun x=>List.getElem?_set_self (by simpa using hk)
  have e4:∀ x y,((m.sess.map oS).set k x).set k y=(m.sess.map oS).set k y:=fun x y=>List.set_set ..
  have hh:=Bs hs hM
  have p1:(0≤(n:Int))=True:=by simp
  have p2:((n:Int)<(s.prog.length:Int))=True:=by simpa using hn
  have p3:decide ((s.prog.length:Int)≤(n:Int))=false:=by simp;omega
  have z0:decide (s.step=0)=true:=by simpa using hst
  by_cases hc:x.code=2
  ·have e:Co m k=(!Aj x.b s.label,0):=HY (DP hs hM hst hp hi) hc
   rw [e]
   have c2:decide (x.code=2)=true:=by simpa using hc
   refine Ac rfl 0 (by rfl) ?_
   delta eD
   cases pf<;>simp +contextual -dsimp -implicitDefEqProofs (maxSteps:=5000000) only [qh,hh,q,c2,hs,e1,e2,e4,e5,List.length_set,p1,p2,p3,z0,hp,hi,go_sem,simprocAttr]
  ·have e:Co m k=(false,1400):=OB (DP hs hM hst hp hi) hc
   rw [e]
   have c2:decide (x.code=2)=false:=by simpa using hc
   refine Ac rfl 0 (by rfl) ?_
   delta eD
   cases pf<;>simp +contextual -dsimp -implicitDefEqProofs (maxSteps:=5000000) only [qh,hh,q,c2,go_sem,simprocAttr]
theorem Lq {m:Ad} {at_:Int} (h:CO m at_=none∨∃ s x,CO m at_=some (s,x)∧¬ x.code=2):Co m at_=(false,1400)∧BI m at_=(Az,1400)∧Cp m at_=(Az,1500):=by
 rcases h with h | ⟨s,x,h,hc⟩
 ·refine ⟨Lr h,?_,?_⟩
  ·unfold BI;rw [h]
  ·unfold Cp;rw [h]
 ·refine ⟨OB h hc,?_,?_⟩
  ·unfold BI;rw [h];simp only [hc,if_false]
  ·unfold Cp;rw [h];simp only [hc,if_false]
theorem Hj (m:Ad) (at_:Int):(CO m at_=none∨∃ s x,CO m at_=some (s,x)∧¬ x.code=2)∨∃ (k n:Nat) (s:Ai) (x:AI),at_=(k:Nat)∧m.sess[k]?=some s∧Bt m∧SP m.words s∧s.step=0∧s.pc=(n:Int)∧n<s.prog.length∧s.prog[n]?=some x∧x.code=2∧CO m at_=some (s,x):=by
 cases Ej m at_ with
 | no h=>exact .inl (.inl (Gs h))
 | off k s e0 hs hM hS hst=>subst e0;exact .inl (.inl (CL hs hM hst))
 | fin k s e0 hs hM hS hst hp=>subst e0;exact .inl (.inl (EP hs hM hst hp))
 | on k n s x e0 hs hM hS hst hp hn hi =>
  subst e0
  by_cases hc:x.code=2
  ·exact .inr ⟨k,n,s,x,rfl,hs,hM,hS,hst,hp,hn,hi,hc,DP hs hM hst hp hi⟩
  ·exact .inl (.inr ⟨s,x,DP hs hM hst hp hi,hc⟩)
theorem rU (i:Nat) (pf:Bool) (m:Ad) (hm:SmM m) (at_:Int):Aa (Lv ctx (i+10)) 146 [eM pf m,iV at_]=some (.tup [oM (BI m at_).1,iV (BI m at_).2]):=by
 have qn:=RW (i+0) pf m hm at_
 have qc:=FH (i+7) pf m hm
 have qe:=Qm (i+0) pf m hm at_ 4 0
 rcases Hj m at_ with h | ⟨k,n,s,x,rfl,hs,hM,hS,hst,hp,hn,hi,hc,hcur⟩
 ·obtain ⟨g1,g2,_⟩:=Lq h
  rw [g2,Ay]
  rw [g1] at qn
  simp only [Nat.add_assoc,Nat.reduceAdd] at qn
  refine Ac rfl 0 (by rfl) ?_
  delta oQ
  cases pf<;>simp +contextual -dsimp -implicitDefEqProofs (maxSteps:=5000000) only [qn,go_sem,simprocAttr]
 ·have ql:=fun l=>KG (i+8) m k s hs 2 l
  rw [HY hcur hc] at qn
  simp only [Nat.add_assoc,Nat.reduceAdd] at qn qc qe ql
  have hk:=Ax hs
  have e1:(0≤(k:Int))=True:=by simp
  have e2:((k:Int)<(m.sess.length:Int))=True:=by simpa using hk
  have e5:∀ x,((m.sess.map oS).set k x)[k]?=some x:=fun x=>List.getElem?_set_self (by simpa using hk)
  have e4:∀ x y,((m.sess.map oS).set k x).set k y=(m.sess.map oS).set k y:=fun x y=>List.set_set ..
  have hh:=Bs hs hM
  have p1:(0≤(n:Int))=True:=by simp
  have p2:((n:Int)<(s.prog.length:Int))=True:=by simpa using hn
  have p3:decide ((s.prog.length:Int)≤(n:Int))=false:=by simp;omega
  have z0:decide (s.step=0)=true:=by simpa using hst
  cases hu:Aj x.b s.label
  ·rw [hu] at qn
   cases hcl:Aj (orI s.label x.b) s.clear
   ·have e:BI m k=CX m k 4 0:=by unfold BI;rw [hcur];simp only [hc,hu,hcl];rfl
    rw [e]
    refine Ac rfl 0 (by rfl) ?_
    delta oQ
    cases pf<;>simp +contextual -dsimp -implicitDefEqProofs (maxSteps:=5000000) only [qn,qe,hcl,hs,e1,e2,e4,e5,List.length_set,p1,p2,p3,z0,hp,hi,go_sem,simprocAttr]
   ·have e:BI m k=(AE (Ba m ⟨s.id,s.label,2,orI s.label x.b⟩) k { s with label:=orI s.label x.b },0):=by unfold BI;rw [hcur];simp only [hc,hu,hcl];rfl
    rw [e]
    simp only [oM,cO,oWs,oSs,oEs,AE,List.map_set,oS,DL,Dw,FU,EV] at ql
    refine Ac rfl 0 (by rfl) ?_
    delta oQ
    cases pf
    ·simp +contextual -dsimp -implicitDefEqProofs (maxSteps:=5000000) only [qn,qc,ql,hcl,hs,e1,e2,e4,e5,List.length_set,p1,p2,p3,z0,hp,hi,go_sem,simprocAttr]
     simp only [oM,cO,oWs,oSs,oEs,AE,List.map_set,oS,DL,Dw,FU,EV]
    ·simp +contextual -dsimp -implicitDefEqProofs (maxSteps:=5000000) only [qn,qc,ql,hcl,hs,e1,e2,e4,e5,List.length_set,p1,p2,p3,z0,hp,hi,go_sem,simprocAttr]
     simp only [oM,cO,oWs,oSs,oEs,AE,List.map_set,oS,DL,Dw,FU,EV]
  ·have e:BI m k=(Az,1400):=by unfold BI;rw [hcur];simp only [hc,hu];rfl
   rw [e,Ay]
   rw [hu] at qn
   refine Ac rfl 0 (by rfl) ?_
   delta oQ
   cases pf<;>simp +contextual -dsimp -implicitDefEqProofs (maxSteps:=5000000) only [qn,go_sem,simprocAttr]
end Ve
namespace Ve
open Go Ve.Ab
set_option maxHeartbeats 16000000
set_option maxRecDepth 10000
abbrev v4 (A:A4 Int):V:=.agg [iV A.a0,iV A.a1,iV A.a2,iV A.a3]
theorem gB (i:Nat) (A:A4 Int) (h4:Dl A=true) (r v:Int) (hr:inR r 3=true) (hv:inR v 255=true):Aa (Lv ctx (i+4)) 220 [v4 A,iV r,iV v]=some (.tup [v4 (A.set r v),iV 0]):=by
 obtain ⟨a,b,c,d⟩:=A
 have ha:DX 255 a b c d=true:=h4
 rcases Bm r with rfl | rfl | rfl | rfl | h'
 case inr.inr.inr.inr=>rw [hr] at h';cases h'
 all_goals
  refine Ac rfl 0 (by rfl) ?_
  delta c220
  simp +contextual -dsimp -implicitDefEqProofs (maxSteps:=5000000) only [ha,hr,hv,A4.set,go_sem,simprocAttr]
theorem b0m:∀ n:_root_.Fin 256,(FloatKind.f64.decode (FloatKind.f64.nearest ((n.val:Nat):Int))).toInt .zero=some ((n.val:Nat):Int):=by decide +kernel
theorem xL {x:Int} (h:inR x 255=true):(FloatKind.f64.decode (FloatKind.f64.nearest x)).toInt .zero=some x∧(IntKind.min .i64≤x∧x≤IntKind.max .i64)=True:=by
 rw [AL] at h
 have e1:IntKind.min .i64=-9223372036854775808:=by decide
 have e2:IntKind.max .i64=9223372036854775807:=by decide
 refine ⟨?_,by rw [e1,e2,eq_iff_iff,iff_true];omega⟩
 have:=b0m ⟨x.toNat,by omega⟩
 simp only [Int.toNat_of_nonneg h.1] at this
 exact this
theorem oY {x y:Int} (hx:inR x 255=true) (hy:inR y 255=true):IntKind.wrap .i64 (x+y)=x+y∧(x+y).tmod 256=(x+y) % 256∧inR ((x+y) % 256) 255=true:=by
 rw [AL] at hx hy
 exact ⟨Be (by omega) (by omega),Int.tmod_eq_emod_of_nonneg (by omega),by rw [AL];omega⟩
theorem a3a (i:Nat) (A:A4 Int) (h4:Dl A=true) (r t:Int) (hr:inR r 3=true) (ht:inR t 3=true):Aa (Lv ctx (i+5)) 221 [v4 A,iV r,iV t]=some (.tup [v4 (A.set r ((A.get r+A.get t) % 256)),iV 0]):=by
 have hreg:∀ x,inR x 3=true→inR (A.get x) 255=true:=by
  intro x hx
  obtain ⟨a,b,c,d⟩:=A
  have ha:DX 255 a b c d=true:=h4
  simp only [DX,Bool.and_eq_true] at ha
  rcases Bm x with rfl | rfl | rfl | rfl | h'
  ·exact ha.1.1.1
  ·exact ha.1.1.2
  ·exact ha.1.2
  ·exact ha.2
  ·rw [hx] at h';cases h'
 have hx:=hreg r hr
 have hy:=hreg t ht
 obtain ⟨s1,s2,s3⟩:=oY hx hy
 have q:=gB (i+0) A h4 r ((A.get r+A.get t) % 256) hr s3
 obtain ⟨c1,c3⟩:=xL hx
 obtain ⟨c2,c4⟩:=xL hy
 have hrem:BO lay .rem 3 (iV (A.get r+A.get t)) (iV 256)=some (iV ((A.get r+A.get t) % 256)):=by rw [Kk (by decide),s2]
 simp only [Nat.add_assoc,Nat.reduceAdd] at q
 clear hx hy s2 s3 hreg
 obtain ⟨a,b,c,d⟩:=A
 have ha:DX 255 a b c d=true:=h4
 rcases Bm r with rfl | rfl | rfl | rfl | h'
 case inr.inr.inr.inr=>rw [hr] at h';cases h'
 all_goals
  rcases Bm t with rfl | rfl | rfl | rfl | h'
  case inr.inr.inr.inr=>rw [ht] at h';cases h'
  all_goals
   simp only [A4.get,A4.set,simprocAttr] at q c1 c2 c3 c4 hrem s1 ⊢
   refine Ac rfl 0 (by rfl) ?_
   delta c221
   simp +contextual -dsimp -implicitDefEqProofs (maxSteps:=5000000) only [ha,hr,ht,c1,c2,c3,c4,s1,hrem,q,go_sem,simprocAttr]
end Ve
namespace Ve
open Go Ve.Ab
set_option maxHeartbeats 16000000
set_option maxRecDepth 10000
theorem qK (i:Nat) (pf nn:Bool) (xs:List AN) (hx:(xs.length:Int)*24≤140737488355328) (a b c:Int):Aa (Lv ctx (i+5)) 228 [.isl pf nn 3 (xs.map eR),.agg [iV a,iV b,iV c]]=some (.tup [oRs (Bg xs ⟨a,b,c⟩).1,iV (Bg xs ⟨a,b,c⟩).2]):=by
 have hb:xs.length≤BB:=by simp only [BB];omega
 have q1:=ND (i+0) pf nn xs hb
 have q2:=ND (i+0) false false [⟨a,b,c⟩] (by simp [BB])
 rw [Qk] at q2
 simp only [Nat.add_assoc,Nat.reduceAdd,List.map_cons,List.map_nil,eR] at q1 q2
 have b1:((xs.length:Int)*24≤140737488355328)=True:=by simpa using hx
 cases h1:AQ xs
 ·have e:Bg xs ⟨a,b,c⟩=([],900):=by simp only [Bg,h1];rfl
  rw [e]
  rw [h1] at q1
  refine Ac rfl 0 (by rfl) ?_
  delta dY
  simp +contextual -dsimp -implicitDefEqProofs (maxSteps:=5000000) only [q1,List.map_nil,go_sem,simprocAttr]
  try rfl
 ·rw [h1] at q1
  cases h2:CD ⟨a,b,c⟩
  ·have e:Bg xs ⟨a,b,c⟩=([],900):=by simp only [Bg,h1,h2];rfl
   rw [e]
   rw [h2] at q2
   refine Ac rfl 0 (by rfl) ?_
   delta dY
   simp +contextual -dsimp -implicitDefEqProofs (maxSteps:=5000000) only [q1,q2,List.replicate,List.map_nil,go_sem,simprocAttr]
   try rfl
  ·rw [h2] at q2
   have e:Bg xs ⟨a,b,c⟩=if xs.any (Cu ⟨a,b,c⟩)=true then (xs,0) else if xs.length=16 then ([],900) else (xs++[⟨a,b,c⟩],0):=by simp only [Bg,h1,h2,Bool.and_self,if_true]
   have h16:xs.length≤16:=by simp only [AQ,Bool.and_eq_true,decide_eq_true_eq] at h1;exact h1.2
   have hcf:Aa (Lv ctx (i+4)) 173 [.isl pf nn 3 (xs.map eR),.fn (.func 208) [] [.ip true [iV a,iV b,iV c] 0]]=some (bV (xs.any (Cu ⟨a,b,c⟩))) :=
    Oj (i+2) pf nn xs (Cu ⟨a,b,c⟩) 208 [.ip true [iV a,iV b,iV c] 0] (fun _ _ _ _ _ _=>rfl) (fun _=>rfl) (by simp [AU,V.scrub]) rfl (fun x _=>by simp only [eR];exact wY (i+1) true a b c x.level x.index x.ver) hb
   rw [e]
   cases h3:xs.any (Cu ⟨a,b,c⟩)
   ·rw [h3] at hcf
    simp only [Bool.false_eq_true,if_false]
    by_cases h4:xs.length=16
    ·have z:decide ((xs.length:Int)=16)=true:=by simp;omega
     simp only [h4,if_true]
     refine Ac rfl 0 (by rfl) ?_
     delta dY
     cases pf
     all_goals
      simp +contextual -dsimp -implicitDefEqProofs (maxSteps:=5000000) only [q1,q2,b1,hcf,z,List.replicate,List.map_nil,go_sem,simprocAttr]
      try rfl
    ·have z:decide ((xs.length:Int)=16)=false:=by simp;omega
     have b2:(((xs.length+1:Nat):Int)*24≤140737488355328)=True:=by simp;omega
     simp only [h4,if_false,List.map_append,List.map_cons,List.map_nil,eR,oRs]
     refine Ac rfl 0 (by rfl) ?_
     delta dY
     cases pf<;>simp +contextual -dsimp -implicitDefEqProofs (maxSteps:=5000000) only [q1,q2,b1,b2,hcf,z,List.replicate,go_sem,simprocAttr]
   ·rw [h3] at hcf
    simp only [if_true]
    refine Ac rfl 0 (by rfl) ?_
    delta dY
    cases pf<;>simp +contextual -dsimp -implicitDefEqProofs (maxSteps:=5000000) only [q1,q2,b1,hcf,List.replicate,go_sem,simprocAttr]
end Ve
namespace Ve
open Go Ve.Ab
set_option maxHeartbeats 16000000
set_option maxRecDepth 10000
abbrev nilV:V:=.lit (.slice none 0 0)
end Ve
namespace Ve
open Go Ve.Ab
set_option maxHeartbeats 16000000
set_option maxRecDepth 10000
theorem qD (a b:Ai):a=b↔a.id=b.id∧a.label=b.label∧a.clear=b.clear∧a.prog=b.prog∧a.step=b.step∧a.pc=b.pc∧a.regs.a0=b.regs.a0∧a.regs.a1=b.regs.a1∧a.regs.a2=b.regs.a2∧a.regs.a3=b.regs.a3∧a.reads=b.reads∧a.writes=b.writes∧a.at_=b.at_∧a.stamp=b.stamp∧a.tries=b.tries∧a.result=b.result∧a.told=b.told:=by
 rcases a with ⟨_,_,_,_,_,_,⟨_,_,_,_⟩,_,_,_,_,_,_,_⟩
 rcases b with ⟨_,_,_,_,_,_,⟨_,_,_,_⟩,_,_,_,_,_,_,_⟩
 simp [and_assoc]
def FS (b:Bool) (q:Out→St→Option Ans) (Q:V→Hp→Nat→Prop) (s1 s2:St):Prop :=
 match b with
 | true=>Fin (q (.exit 0) s1) Q
 | false=>Fin (q .ret s2) Q
theorem Ck (q:Out→St→Option Ans) (Q:V→Hp→Nat→Prop) (s1 s2:St):FS true q Q s1 s2=Fin (q (.exit 0) s1) Q:=(rfl)
theorem Cl (q:Out→St→Option Ans) (Q:V→Hp→Nat→Prop) (s1 s2:St):FS false q Q s1 s2=Fin (q .ret s2) Q:=(rfl)
theorem MX (i k:Nat) (pa na pb nb:Bool) (xs ys:List Ap) (hx:xs.length≤BB) (q:Out→St→Option Ans) (Q:V→Hp→Nat→Prop) (u:Dum (fun s q=>evC ctx (Lv ctx i) (Aa (Lv ctx i)) k Rn s (Al [0,1,5] q))) (w:Dum q):∀ (suf suf' pre pre':List Ap) (kk:Nat),xs=pre++suf→ys=pre'++suf'→pre.length=pre'.length→suf.length=suf'.length→suf.length<kk →
  GL 0 [0,1,5] (fun s q=>evC ctx (Lv ctx i) (Aa (Lv ctx i)) k Rn s (Al [0,1,5] q)) q kk ⟨Ae [0,1,5] [.isl pa na 3 (xs.map eW),.isl pb nb 3 (ys.map eW),iV pre.length],Af,0⟩ Q u w=FS (decide (suf=suf')) q Q ⟨Ae [] [],Af,0⟩ ⟨Ae [4] [bV false],Af,0⟩
 | [],suf',pre,pre',kk,hxs,hys,hpl,hsl,hk=>by
  obtain ⟨kk,rfl⟩:∃ m,kk=m+1:=⟨kk - 1,by simp at hk;omega⟩
  obtain rfl:suf'=[]:=by cases suf'<;>simp_all
  have h1:decide ((pre.length:Int)<xs.length)=false:=by simp [hxs]
  simp +contextual -dsimp -implicitDefEqProofs (maxSteps:=5000000) only [gLs,↓Ah (Rn.eq_1),h1,Ck,go_sem,simprocAttr]
 | a::suf,[],pre,pre',kk,hxs,hys,hpl,hsl,hk=>by simp at hsl
 | a::suf,b::suf',pre,pre',kk,hxs,hys,hpl,hsl,hk=>by
  obtain ⟨kk,rfl⟩:∃ m,kk=m+1:=⟨kk - 1,by simp at hk;omega⟩
  have hl:pre.length<xs.length:=by simp [hxs]
  have hl':pre.length<ys.length:=by simp [hys,hpl]
  have h2:((pre.length:Int)<xs.length)=True:=by simpa using hl
  have h2':((pre.length:Int)<ys.length)=True:=by simpa using hl'
  have h3:(0≤(pre.length:Int))=True:=by simp
  have h4:=wrN pre.length (by omega)
  have hg:xs[pre.length]?=some a:=by simp [hxs]
  have hg':ys[pre.length]?=some b:=by simp [hys,hpl]
  have ih:=MX i k pa na pb nb xs ys hx q Q u w suf suf' (pre++[a]) (pre'++[b]) kk (by simp [hxs]) (by simp [hys]) (by simpa using hpl) (by simpa using hsl) (by simpa using hk)
  rw [Ag] at ih
  by_cases hab:a=b
  ·subst hab
   have hd:decide (a::suf=a::suf')=decide (suf=suf'):=by simp
   rw [hd]
   simp +contextual -dsimp -implicitDefEqProofs (maxSteps:=5000000) only [gLs,↓Ah (Rn.eq_1),h2,h2',h3,h4,hg,hg',ih,go_sem,simprocAttr]
  ·have hne:(decide (a.val=b.val)&&(decide (a.ver=b.ver)&&(decide (a.lock=b.lock))))=false:=by cases a;cases b;simp_all
   have hd:decide (a::suf=b::suf')=false:=by simp [hab]
   rw [hd]
   simp +contextual -dsimp -implicitDefEqProofs (maxSteps:=5000000) only [gLs,↓Ah (Rn.eq_1),h2,h2',h3,h4,hg,hg',hne,Cl,go_sem,simprocAttr]
theorem Ds (i:Nat) (pa na pb nb:Bool) (xs ys:List Ap) (hx:xs.length≤BB):Aa (Lv ctx (i+1)) 29 [.isl pa na 3 (xs.map eW),.isl pb nb 3 (ys.map eW)]=some (bV (decide (xs=ys))):=by
 refine Ac rfl (xs.length+1) (by rfl) ?_
 delta c29
 by_cases hl:xs.length=ys.length
 ·have h1:decide ((xs.length:Int)=ys.length)=true:=by simp [hl]
  have h2:=fun q Q u w=>MX i (xs.length+1) pa na pb nb xs ys hx q Q u w xs ys [] [] (xs.length+1) rfl rfl rfl hl (by omega)
  simp only [List.length_nil,Int.natCast_zero] at h2
  cases hb:decide (xs=ys)<;>rw [hb] at h2<;>simp +contextual -dsimp -implicitDefEqProofs (maxSteps:=5000000) only [h1,h2,Ck,Cl,go_sem,simprocAttr]
 ·have h1:decide ((xs.length:Int)=ys.length)=false:=by simpa using fun h:(xs.length:Int)=ys.length=>hl (by omega)
  have h2:decide (xs=ys)=false:=by simpa using fun h:xs=ys=>hl (by rw [h])
  simp +contextual -dsimp -implicitDefEqProofs (maxSteps:=5000000) only [h1,h2,go_sem,simprocAttr]
theorem Na (i k:Nat) (pa na pb nb:Bool) (xs ys:List AI) (hx:xs.length≤BB) (q:Out→St→Option Ans) (Q:V→Hp→Nat→Prop) (u:Dum (fun s q=>evC ctx (Lv ctx i) (Aa (Lv ctx i)) k Ri s (Al [0,1,5] q))) (w:Dum q):∀ (suf suf' pre pre':List AI) (kk:Nat),xs=pre++suf→ys=pre'++suf'→pre.length=pre'.length→suf.length=suf'.length→suf.length<kk →
  GL 0 [0,1,5] (fun s q=>evC ctx (Lv ctx i) (Aa (Lv ctx i)) k Ri s (Al [0,1,5] q)) q kk ⟨Ae [0,1,5] [.isl pa na 4 (xs.map eI),.isl pb nb 4 (ys.map eI),iV pre.length],Af,0⟩ Q u w=FS (decide (suf=suf')) q Q ⟨Ae [] [],Af,0⟩ ⟨Ae [4] [bV false],Af,0⟩
 | [],suf',pre,pre',kk,hxs,hys,hpl,hsl,hk=>by
  obtain ⟨kk,rfl⟩:∃ m,kk=m+1:=⟨kk - 1,by simp at hk;omega⟩
  obtain rfl:suf'=[]:=by cases suf'<;>simp_all
  have h1:decide ((pre.length:Int)<xs.length)=false:=by simp [hxs]
  simp +contextual -dsimp -implicitDefEqProofs (maxSteps:=5000000) only [gLs,↓Ah (Ri.eq_1),h1,Ck,go_sem,simprocAttr]
 | a::suf,[],pre,pre',kk,hxs,hys,hpl,hsl,hk=>by simp at hsl
 | a::suf,b::suf',pre,pre',kk,hxs,hys,hpl,hsl,hk=>by
  obtain ⟨kk,rfl⟩:∃ m,kk=m+1:=⟨kk - 1,by simp at hk;omega⟩
  have hl:pre.length<xs.length:=by simp [hxs]
  have hl':pre.length<ys.length:=by simp [hys,hpl]
  have h2:((pre.length:Int)<xs.length)=True:=by simpa using hl
  have h2':((pre.length:Int)<ys.length)=True:=by simpa using hl'
  have h3:(0≤(pre.length:Int))=True:=by simp
  have h4:=wrN pre.length (by omega)
  have hg:xs[pre.length]?=some a:=by simp [hxs]
  have hg':ys[pre.length]?=some b:=by simp [hys,hpl]
  have ih:=Na i k pa na pb nb xs ys hx q Q u w suf suf' (pre++[a]) (pre'++[b]) kk (by simp [hxs]) (by simp [hys]) (by simpa using hpl) (by simpa using hsl) (by simpa using hk)
  rw [Ag] at ih
  by_cases hab:a=b
  ·subst hab
   have hd:decide (a::suf=a::suf')=decide (suf=suf'):=by simp
   rw [hd]
   simp +contextual -dsimp -implicitDefEqProofs (maxSteps:=5000000) only [gLs,↓Ah (Ri.eq_1),h2,h2',h3,h4,hg,hg',ih,go_sem,simprocAttr]
  ·have hne:(decide (a.code=b.code)&&(decide (a.a=b.a)&&(decide (a.b=b.b)&&(decide (a.c=b.c)))))=false:=by cases a;cases b;simp_all
   have hd:decide (a::suf=b::suf')=false:=by simp [hab]
   rw [hd]
   simp +contextual -dsimp -implicitDefEqProofs (maxSteps:=5000000) only [gLs,↓Ah (Ri.eq_1),h2,h2',h3,h4,hg,hg',hne,Cl,go_sem,simprocAttr]
theorem MR (i:Nat) (pa na pb nb:Bool) (xs ys:List AI) (hx:xs.length≤BB):Aa (Lv ctx (i+1)) 56 [.isl pa na 4 (xs.map eI),.isl pb nb 4 (ys.map eI)]=some (bV (decide (xs=ys))):=by
 refine Ac rfl (xs.length+1) (by rfl) ?_
 delta c56
 by_cases hl:xs.length=ys.length
 ·have h1:decide ((xs.length:Int)=ys.length)=true:=by simp [hl]
  have h2:=fun q Q u w=>Na i (xs.length+1) pa na pb nb xs ys hx q Q u w xs ys [] [] (xs.length+1) rfl rfl rfl hl (by omega)
  simp only [List.length_nil,Int.natCast_zero] at h2
  cases hb:decide (xs=ys)<;>rw [hb] at h2<;>simp +contextual -dsimp -implicitDefEqProofs (maxSteps:=5000000) only [h1,h2,Ck,Cl,go_sem,simprocAttr]
 ·have h1:decide ((xs.length:Int)=ys.length)=false:=by simpa using fun h:(xs.length:Int)=ys.length=>hl (by omega)
  have h2:decide (xs=ys)=false:=by simpa using fun h:xs=ys=>hl (by rw [h])
  simp +contextual -dsimp -implicitDefEqProofs (maxSteps:=5000000) only [h1,h2,go_sem,simprocAttr]
theorem MZ (i k:Nat) (pa na pb nb:Bool) (xs ys:List AN) (hx:xs.length≤BB) (q:Out→St→Option Ans) (Q:V→Hp→Nat→Prop) (u:Dum (fun s q=>evC ctx (Lv ctx i) (Aa (Lv ctx i)) k Rf s (Al [0,1,5] q))) (w:Dum q):∀ (suf suf' pre pre':List AN) (kk:Nat),xs=pre++suf→ys=pre'++suf'→pre.length=pre'.length→suf.length=suf'.length→suf.length<kk →
  GL 0 [0,1,5] (fun s q=>evC ctx (Lv ctx i) (Aa (Lv ctx i)) k Rf s (Al [0,1,5] q)) q kk ⟨Ae [0,1,5] [.isl pa na 3 (xs.map eR),.isl pb nb 3 (ys.map eR),iV pre.length],Af,0⟩ Q u w=FS (decide (suf=suf')) q Q ⟨Ae [] [],Af,0⟩ ⟨Ae [4] [bV false],Af,0⟩
 | [],suf',pre,pre',kk,hxs,hys,hpl,hsl,hk=>by
  obtain ⟨kk,rfl⟩:∃ m,kk=m+1:=⟨kk - 1,by simp at hk;omega⟩
  obtain rfl:suf'=[]:=by cases suf'<;>simp_all
  have h1:decide ((pre.length:Int)<xs.length)=false:=by simp [hxs]
  simp +contextual -dsimp -implicitDefEqProofs (maxSteps:=5000000) only [gLs,↓Ah (Rf.eq_1),h1,Ck,go_sem,simprocAttr]
 | a::suf,[],pre,pre',kk,hxs,hys,hpl,hsl,hk=>by simp at hsl
 | a::suf,b::suf',pre,pre',kk,hxs,hys,hpl,hsl,hk=>by
  obtain ⟨kk,rfl⟩:∃ m,kk=m+1:=⟨kk - 1,by simp at hk;omega⟩
  have hl:pre.length<xs.length:=by simp [hxs]
  have hl':pre.length<ys.length:=by simp [hys,hpl]
  have h2:((pre.length:Int)<xs.length)=True:=by simpa using hl
  have h2':((pre.length:Int)<ys.length)=True:=by simpa using hl'
  have h3:(0≤(pre.length:Int))=True:=by simp
  have h4:=wrN pre.length (by omega)
  have hg:xs[pre.length]?=some a:=by simp [hxs]
  have hg':ys[pre.length]?=some b:=by simp [hys,hpl]
  have ih:=MZ i k pa na pb nb xs ys hx q Q u w suf suf' (pre++[a]) (pre'++[b]) kk (by simp [hxs]) (by simp [hys]) (by simpa using hpl) (by simpa using hsl) (by simpa using hk)
  rw [Ag] at ih
  by_cases hab:a=b
  ·subst hab
   have hd:decide (a::suf=a::suf')=decide (suf=suf'):=by simp
   rw [hd]
   simp +contextual -dsimp -implicitDefEqProofs (maxSteps:=5000000) only [gLs,↓Ah (Rf.eq_1),h2,h2',h3,h4,hg,hg',ih,go_sem,simprocAttr]
  ·have hne:(decide (a.level=b.level)&&(decide (a.index=b.index)&&(decide (a.ver=b.ver))))=false:=by cases a;cases b;simp_all
   have hd:decide (a::suf=b::suf')=false:=by simp [hab]
   rw [hd]
   simp +contextual -dsimp -implicitDefEqProofs (maxSteps:=5000000) only [gLs,↓Ah (Rf.eq_1),h2,h2',h3,h4,hg,hg',hne,Cl,go_sem,simprocAttr]
theorem Tu (i:Nat) (pa na pb nb:Bool) (xs ys:List AN) (hx:xs.length≤BB):Aa (Lv ctx (i+1)) 92 [.isl pa na 3 (xs.map eR),.isl pb nb 3 (ys.map eR)]=some (bV (decide (xs=ys))):=by
 refine Ac rfl (xs.length+1) (by rfl) ?_
 delta c92
 by_cases hl:xs.length=ys.length
 ·have h1:decide ((xs.length:Int)=ys.length)=true:=by simp [hl]
  have h2:=fun q Q u w=>MZ i (xs.length+1) pa na pb nb xs ys hx q Q u w xs ys [] [] (xs.length+1) rfl rfl rfl hl (by omega)
  simp only [List.length_nil,Int.natCast_zero] at h2
  cases hb:decide (xs=ys)<;>rw [hb] at h2<;>simp +contextual -dsimp -implicitDefEqProofs (maxSteps:=5000000) only [h1,h2,Ck,Cl,go_sem,simprocAttr]
 ·have h1:decide ((xs.length:Int)=ys.length)=false:=by simpa using fun h:(xs.length:Int)=ys.length=>hl (by omega)
  have h2:decide (xs=ys)=false:=by simpa using fun h:xs=ys=>hl (by rw [h])
  simp +contextual -dsimp -implicitDefEqProofs (maxSteps:=5000000) only [h1,h2,go_sem,simprocAttr]
theorem LA (i k:Nat) (pa na pb nb:Bool) (xs ys:List Ao) (hx:xs.length≤BB) (q:Out→St→Option Ans) (Q:V→Hp→Nat→Prop) (u:Dum (fun s q=>evC ctx (Lv ctx i) (Aa (Lv ctx i)) k Re s (Al [0,1,5] q))) (w:Dum q):∀ (suf suf' pre pre':List Ao) (kk:Nat),xs=pre++suf→ys=pre'++suf'→pre.length=pre'.length→suf.length=suf'.length→suf.length<kk →
  GL 0 [0,1,5] (fun s q=>evC ctx (Lv ctx i) (Aa (Lv ctx i)) k Re s (Al [0,1,5] q)) q kk ⟨Ae [0,1,5] [.isl pa na 3 (xs.map eWr),.isl pb nb 3 (ys.map eWr),iV pre.length],Af,0⟩ Q u w=FS (decide (suf=suf')) q Q ⟨Ae [] [],Af,0⟩ ⟨Ae [4] [bV false],Af,0⟩
 | [],suf',pre,pre',kk,hxs,hys,hpl,hsl,hk=>by
  obtain ⟨kk,rfl⟩:∃ m,kk=m+1:=⟨kk - 1,by simp at hk;omega⟩
  obtain rfl:suf'=[]:=by cases suf'<;>simp_all
  have h1:decide ((pre.length:Int)<xs.length)=false:=by simp [hxs]
  simp +contextual -dsimp -implicitDefEqProofs (maxSteps:=5000000) only [gLs,↓Ah (Re.eq_1),h1,Ck,go_sem,simprocAttr]
 | a::suf,[],pre,pre',kk,hxs,hys,hpl,hsl,hk=>by simp at hsl
 | a::suf,b::suf',pre,pre',kk,hxs,hys,hpl,hsl,hk=>by
  obtain ⟨kk,rfl⟩:∃ m,kk=m+1:=⟨kk - 1,by simp at hk;omega⟩
  have hl:pre.length<xs.length:=by simp [hxs]
  have hl':pre.length<ys.length:=by simp [hys,hpl]
  have h2:((pre.length:Int)<xs.length)=True:=by simpa using hl
  have h2':((pre.length:Int)<ys.length)=True:=by simpa using hl'
  have h3:(0≤(pre.length:Int))=True:=by simp
  have h4:=wrN pre.length (by omega)
  have hg:xs[pre.length]?=some a:=by simp [hxs]
  have hg':ys[pre.length]?=some b:=by simp [hys,hpl]
  have ih:=LA i k pa na pb nb xs ys hx q Q u w suf suf' (pre++[a]) (pre'++[b]) kk (by simp [hxs]) (by simp [hys]) (by simpa using hpl) (by simpa using hsl) (by simpa using hk)
  rw [Ag] at ih
  by_cases hab:a=b
  ·subst hab
   have hd:decide (a::suf=a::suf')=decide (suf=suf'):=by simp
   rw [hd]
   simp +contextual -dsimp -implicitDefEqProofs (maxSteps:=5000000) only [gLs,↓Ah (Re.eq_1),h2,h2',h3,h4,hg,hg',ih,go_sem,simprocAttr]
  ·have hne:(decide (a.level=b.level)&&(decide (a.index=b.index)&&(decide (a.val=b.val))))=false:=by cases a;cases b;simp_all
   have hd:decide (a::suf=b::suf')=false:=by simp [hab]
   rw [hd]
   simp +contextual -dsimp -implicitDefEqProofs (maxSteps:=5000000) only [gLs,↓Ah (Re.eq_1),h2,h2',h3,h4,hg,hg',hne,Cl,go_sem,simprocAttr]
theorem RM (i:Nat) (pa na pb nb:Bool) (xs ys:List Ao) (hx:xs.length≤BB):Aa (Lv ctx (i+1)) 93 [.isl pa na 3 (xs.map eWr),.isl pb nb 3 (ys.map eWr)]=some (bV (decide (xs=ys))):=by
 refine Ac rfl (xs.length+1) (by rfl) ?_
 delta c93
 by_cases hl:xs.length=ys.length
 ·have h1:decide ((xs.length:Int)=ys.length)=true:=by simp [hl]
  have h2:=fun q Q u w=>LA i (xs.length+1) pa na pb nb xs ys hx q Q u w xs ys [] [] (xs.length+1) rfl rfl rfl hl (by omega)
  simp only [List.length_nil,Int.natCast_zero] at h2
  cases hb:decide (xs=ys)<;>rw [hb] at h2<;>simp +contextual -dsimp -implicitDefEqProofs (maxSteps:=5000000) only [h1,h2,Ck,Cl,go_sem,simprocAttr]
 ·have h1:decide ((xs.length:Int)=ys.length)=false:=by simpa using fun h:(xs.length:Int)=ys.length=>hl (by omega)
  have h2:decide (xs=ys)=false:=by simpa using fun h:xs=ys=>hl (by rw [h])
  simp +contextual -dsimp -implicitDefEqProofs (maxSteps:=5000000) only [h1,h2,go_sem,simprocAttr]
theorem LB (i k:Nat) (pa na pb nb:Bool) (xs ys:List AY) (hx:xs.length≤BB) (q:Out→St→Option Ans) (Q:V→Hp→Nat→Prop) (u:Dum (fun s q=>evC ctx (Lv ctx i) (Aa (Lv ctx i)) k Rl s (Al [0,1,5] q))) (w:Dum q):∀ (suf suf' pre pre':List AY) (kk:Nat),xs=pre++suf→ys=pre'++suf'→pre.length=pre'.length→suf.length=suf'.length→suf.length<kk →
  GL 0 [0,1,5] (fun s q=>evC ctx (Lv ctx i) (Aa (Lv ctx i)) k Rl s (Al [0,1,5] q)) q kk ⟨Ae [0,1,5] [.isl pa na 4 (xs.map eE),.isl pb nb 4 (ys.map eE),iV pre.length],Af,0⟩ Q u w=FS (decide (suf=suf')) q Q ⟨Ae [] [],Af,0⟩ ⟨Ae [4] [bV false],Af,0⟩
 | [],suf',pre,pre',kk,hxs,hys,hpl,hsl,hk=>by
  obtain ⟨kk,rfl⟩:∃ m,kk=m+1:=⟨kk - 1,by simp at hk;omega⟩
  obtain rfl:suf'=[]:=by cases suf'<;>simp_all
  have h1:decide ((pre.length:Int)<xs.length)=false:=by simp [hxs]
  simp +contextual -dsimp -implicitDefEqProofs (maxSteps:=5000000) only [gLs,↓Ah (Rl.eq_1),h1,Ck,go_sem,simprocAttr]
 | a::suf,[],pre,pre',kk,hxs,hys,hpl,hsl,hk=>by simp at hsl
 | a::suf,b::suf',pre,pre',kk,hxs,hys,hpl,hsl,hk=>by
  obtain ⟨kk,rfl⟩:∃ m,kk=m+1:=⟨kk - 1,by simp at hk;omega⟩
  have hl:pre.length<xs.length:=by simp [hxs]
  have hl':pre.length<ys.length:=by simp [hys,hpl]
  have h2:((pre.length:Int)<xs.length)=True:=by simpa using hl
  have h2':((pre.length:Int)<ys.length)=True:=by simpa using hl'
  have h3:(0≤(pre.length:Int))=True:=by simp
  have h4:=wrN pre.length (by omega)
  have hg:xs[pre.length]?=some a:=by simp [hxs]
  have hg':ys[pre.length]?=some b:=by simp [hys,hpl]
  have ih:=LB i k pa na pb nb xs ys hx q Q u w suf suf' (pre++[a]) (pre'++[b]) kk (by simp [hxs]) (by simp [hys]) (by simpa using hpl) (by simpa using hsl) (by simpa using hk)
  rw [Ag] at ih
  by_cases hab:a=b
  ·subst hab
   have hd:decide (a::suf=a::suf')=decide (suf=suf'):=by simp
   rw [hd]
   simp +contextual -dsimp -implicitDefEqProofs (maxSteps:=5000000) only [gLs,↓Ah (Rl.eq_1),h2,h2',h3,h4,hg,hg',ih,go_sem,simprocAttr]
  ·have hne:(decide (a.id=b.id)&&(decide (a.label=b.label)&&(decide (a.kind=b.kind)&&(decide (a.val=b.val)))))=false:=by cases a;cases b;simp_all
   have hd:decide (a::suf=b::suf')=false:=by simp [hab]
   rw [hd]
   simp +contextual -dsimp -implicitDefEqProofs (maxSteps:=5000000) only [gLs,↓Ah (Rl.eq_1),h2,h2',h3,h4,hg,hg',hne,Cl,go_sem,simprocAttr]
theorem RN (i:Nat) (pa na pb nb:Bool) (xs ys:List AY) (hx:xs.length≤BB):Aa (Lv ctx (i+1)) 52 [.isl pa na 4 (xs.map eE),.isl pb nb 4 (ys.map eE)]=some (bV (decide (xs=ys))):=by
 refine Ac rfl (xs.length+1) (by rfl) ?_
 delta c52
 by_cases hl:xs.length=ys.length
 ·have h1:decide ((xs.length:Int)=ys.length)=true:=by simp [hl]
  have h2:=fun q Q u w=>LB i (xs.length+1) pa na pb nb xs ys hx q Q u w xs ys [] [] (xs.length+1) rfl rfl rfl hl (by omega)
  simp only [List.length_nil,Int.natCast_zero] at h2
  cases hb:decide (xs=ys)<;>rw [hb] at h2<;>simp +contextual -dsimp -implicitDefEqProofs (maxSteps:=5000000) only [h1,h2,Ck,Cl,go_sem,simprocAttr]
 ·have h1:decide ((xs.length:Int)=ys.length)=false:=by simpa using fun h:(xs.length:Int)=ys.length=>hl (by omega)
  have h2:decide (xs=ys)=false:=by simpa using fun h:xs=ys=>hl (by rw [h])
  simp +contextual -dsimp -implicitDefEqProofs (maxSteps:=5000000) only [h1,h2,go_sem,simprocAttr]
theorem PK (i:Nat) (pa pb:Bool) (a b:Ai) (h1:a.prog.length≤BB) (h2:a.reads.length≤BB) (h3:a.writes.length≤BB):Aa (Lv ctx (i+2)) 53 [eS pa a,eS pb b]=some (bV (decide (a=b))):=by
 have e1:=MR i pa false pb false a.prog b.prog h1
 have e2:=Tu i pa false pb false a.reads b.reads h2
 have e3:=RM i pa false pb false a.writes b.writes h3
 simp only [eS]
 refine Ac rfl 0 (by rfl) ?_
 delta c53
 simp +contextual -dsimp -implicitDefEqProofs (maxSteps:=5000000) only [e1,e2,e3,go_sem,simprocAttr]
 congr 2
 rw [Bool.eq_iff_iff]
 simp only [Bool.and_eq_true,decide_eq_true_eq,qD,and_assoc]
end Ve
namespace Ve
open Go Ve.Ab
set_option maxHeartbeats 16000000
set_option maxRecDepth 10000
@[go_sem] theorem s_num (i:Nat) (a:Int):Aa (Lv ctx (i+1)) 19 [iV a]=some (iV a):=by
 refine Ac rfl 0 (by rfl) ?_
 delta c19
 simp +contextual -dsimp -implicitDefEqProofs (maxSteps:=5000000) only [go_sem,simprocAttr]
theorem Tv (i:Nat) (pa pb:Bool) (a b:A4 (List Ap)) (h0:a.a0.length≤BB) (h1:a.a1.length≤BB) (h2:a.a2.length≤BB) (h3:a.a3.length≤BB):Aa (Lv ctx (i+2)) 51 [.agg [eWs pa a.a0,eWs pa a.a1,eWs pa a.a2,eWs pa a.a3],.agg [eWs pb b.a0,eWs pb b.a1,eWs pb b.a2,eWs pb b.a3]]=some (bV (decide (a=b))):=by
 have e0:=Ds i pa false pb false a.a0 b.a0 h0
 have e1:=Ds i pa false pb false a.a1 b.a1 h1
 have e2:=Ds i pa false pb false a.a2 b.a2 h2
 have e3:=Ds i pa false pb false a.a3 b.a3 h3
 have key:decide (a=b)=(decide (a.a0=b.a0)&&decide (a.a1=b.a1)&&decide (a.a2=b.a2)&&decide (a.a3=b.a3)):=by
  rw [Bool.eq_iff_iff]
  simp only [Bool.and_eq_true,decide_eq_true_eq]
  rcases a with ⟨_,_,_,_⟩;rcases b with ⟨_,_,_,_⟩;simp [and_assoc]
 refine Ac rfl 5 (by rfl) ?_
 delta c51
 rw [key]
 cases c0:decide (a.a0=b.a0)
 ·simp +contextual -dsimp -implicitDefEqProofs (maxSteps:=5000000) only [gLs,↓Ah (Vg.eq_1),e0,e1,e2,e3,c0,go_sem,simprocAttr]
 ·cases c1:decide (a.a1=b.a1)
  ·simp +contextual -dsimp -implicitDefEqProofs (maxSteps:=5000000) only [gLs,↓Ah (Vg.eq_1),e0,e1,e2,e3,c0,c1,go_sem,simprocAttr]
  ·cases c2:decide (a.a2=b.a2)
   ·simp +contextual -dsimp -implicitDefEqProofs (maxSteps:=5000000) only [gLs,↓Ah (Vg.eq_1),e0,e1,e2,e3,c0,c1,c2,go_sem,simprocAttr]
   ·cases c3:decide (a.a3=b.a3)<;>simp +contextual -dsimp -implicitDefEqProofs (maxSteps:=5000000) only [gLs,↓Ah (Vg.eq_1),e0,e1,e2,e3,c0,c1,c2,c3,go_sem,simprocAttr]
theorem ZL (i k:Nat) (pa pb:Bool) (a b:Ad) (hm:SmM a) (q:Out→St→Option Ans) (Q:V→Hp→Nat→Prop) (u:Dum (fun s q=>evC ctx (Lv ctx (i+2)) (Aa (Lv ctx (i+2))) k Rq s (Al [2,3,5] q))) (w:Dum q):∀ (suf suf' pre pre':List Ai) (kk:Nat),a.sess=pre++suf→b.sess=pre'++suf'→pre.length=pre'.length→suf.length=suf'.length→suf.length<kk →
  GL 0 [2,3,5] (fun s q=>evC ctx (Lv ctx (i+2)) (Aa (Lv ctx (i+2))) k Rq s (Al [2,3,5] q)) q kk ⟨Ae [2,3,5] [.ip pa (cM pa a) 0,.ip pb (cM pb b) 0,iV pre.length],Af,0⟩ Q u w=FS (decide (suf=suf')) q Q ⟨Ae [] [],Af,0⟩ ⟨Ae [4] [bV false],Af,0⟩
 | [],suf',pre,pre',kk,hxs,hys,hpl,hsl,hk=>by
  obtain ⟨kk,rfl⟩:∃ m,kk=m+1:=⟨kk - 1,by simp at hk;omega⟩
  obtain rfl:suf'=[]:=by cases suf'<;>simp_all
  have h1:decide ((pre.length:Int)<a.sess.length)=false:=by simp [hxs]
  simp +contextual -dsimp -implicitDefEqProofs (maxSteps:=5000000) only [gLs,↓Ah (Rq.eq_1),h1,Ck,go_sem,simprocAttr]
 | x::suf,[],pre,pre',kk,hxs,hys,hpl,hsl,hk=>by simp at hsl
 | x::suf,y::suf',pre,pre',kk,hxs,hys,hpl,hsl,hk=>by
  obtain ⟨kk,rfl⟩:∃ m,kk=m+1:=⟨kk - 1,by simp at hk;omega⟩
  have hl:pre.length<a.sess.length:=by simp [hxs]
  have hl':pre.length<b.sess.length:=by simp [hys,hpl]
  have h2:((pre.length:Int)<a.sess.length)=True:=by simpa using hl
  have h2':((pre.length:Int)<b.sess.length)=True:=by simpa using hl'
  have h3:(0≤(pre.length:Int))=True:=by simp
  have h4:=wrN pre.length (by have:=hm.ss;omega)
  have hg:a.sess[pre.length]?=some x:=by simp [hxs]
  have hg':b.sess[pre.length]?=some y:=by simp [hys,hpl]
  have ih:=ZL i k pa pb a b hm q Q u w suf suf' (pre++[x]) (pre'++[y]) kk (by simp [hxs]) (by simp [hys]) (by simpa using hpl) (by simpa using hsl) (by simpa using hk)
  rw [Ag] at ih
  have hx:=hm.s x (by simp [hxs])
  have hs:=PK i pa pb x y hx.p hx.r hx.w
  simp only [eS] at hs
  by_cases hab:x=y
  ·subst hab
   have hd:decide (x::suf=x::suf')=decide (suf=suf'):=by simp
   rw [hd]
   simp +contextual -dsimp -implicitDefEqProofs (maxSteps:=5000000) only [gLs,↓Ah (Rq.eq_1),h2,h2',h3,h4,hg,hg',hs,ih,go_sem,simprocAttr]
  ·have hne:decide (x=y)=false:=by simpa using hab
   have hd:decide (x::suf=y::suf')=false:=by simp [hab]
   rw [hd]
   rw [hne] at hs
   simp +contextual -dsimp -implicitDefEqProofs (maxSteps:=5000000) only [gLs,↓Ah (Rq.eq_1),h2,h2',h3,h4,hg,hg',hs,Cl,go_sem,simprocAttr]
theorem tG (a b:Ad):a=b↔(a.words=b.words∧(a.clocks.a0=b.clocks.a0∧a.clocks.a1=b.clocks.a1∧a.clocks.a2=b.clocks.a2∧a.clocks.a3=b.clocks.a3)∧a.ceil=b.ceil∧a.trace=b.trace)∧a.sess=b.sess:=by
 rcases a with ⟨_,⟨_,_,_,_⟩,_,_,_⟩;rcases b with ⟨_,⟨_,_,_,_⟩,_,_,_⟩;simp only [Ad.mk.injEq,A4.mk.injEq]
 constructor
 ·rintro ⟨h1,⟨h2,h3,h4,h5⟩,h6,h7,h8⟩;simp [*]
 ·rintro ⟨⟨h1,⟨h2,h3,h4,h5⟩,h6,h7⟩,h8⟩;simp [*]
theorem BF (i:Nat) (pa pb:Bool) (a b:Ad) (hm:SmM a):Aa (Lv ctx (i+3)) 18 [eM pa a,eM pb b]=some (bV (decide (a=b))):=by
 have e1:=Tv i pa pb a.words b.words hm.w0 hm.w1 hm.w2 hm.w3
 have e2:=RN (i+1) pa false pb false a.trace b.trace hm.tr
 have hb:∀ a b c d e f g:Bool,(!a||!(b&&(c&&(d&&e)))||!f||!g)=!(a&&(b&&(c&&(d&&e)))&&f&&g):=by decide
 refine Ac rfl (a.sess.length+1) (by rfl) ?_
 delta c18
 have hL:decide ((a.sess.length:Int)=b.sess.length)=decide (a.sess.length=b.sess.length):=by apply decide_eq_decide.mpr;omega
 have hb5:∀ w c f l e:Bool,(!w||!c||!f||!l||!e)=!(w&&c&&f&&l&&e):=by decide
 cases hc:(decide (a.words=b.words)&&(decide (a.clocks.a0=b.clocks.a0)&&(decide (a.clocks.a1=b.clocks.a1)&&(decide (a.clocks.a2=b.clocks.a2)&&decide (a.clocks.a3=b.clocks.a3))))&&decide (a.ceil=b.ceil)&&decide (a.sess.length=b.sess.length)&&decide (a.trace=b.trace))
 ·have key:decide (a=b)=false:=by
   rw [← Bool.not_eq_true] at hc ⊢
   intro h
   simp only [decide_eq_true_eq] at h
   subst h
   exact hc (by simp)
  simp +contextual -dsimp -implicitDefEqProofs (maxSteps:=5000000) only [e1,e2,hL,hb5,hc,key,go_sem,simprocAttr]
 ·have hc':=hc
  simp only [Bool.and_eq_true,decide_eq_true_eq] at hc'
  have hlen:a.sess.length=b.sess.length:=hc'.1.2
  have key:decide (a=b)=decide (a.sess=b.sess):=by
   apply decide_eq_decide.mpr
   rw [tG]
   simp only [hc',and_self,true_and]
  have h2:=fun q Q u w=>ZL i (a.sess.length+1) pa pb a b hm q Q u w a.sess b.sess [] [] (a.sess.length+1) rfl rfl rfl hlen (by omega)
  simp only [List.length_nil,Int.natCast_zero] at h2
  rw [key]
  simp +contextual -dsimp -implicitDefEqProofs (maxSteps:=5000000) only [e1,e2,hL,hb5,hc,go_sem,simprocAttr]
  refine Eq.mpr (h2 _ _ _ _) ?_
  cases hb':decide (a.sess=b.sess)<;>simp +contextual -dsimp -implicitDefEqProofs (maxSteps:=5000000) only [Ck,Cl,go_sem,simprocAttr]
end Ve
namespace Ve
open Go Ve.Ab
set_option maxHeartbeats 16000000
set_option maxRecDepth 10000
def JU (a:Ap):Ap:={ a with val:=RD a.val 90 }
theorem Lw (i k:Nat) (xs:List Ap) (hx:xs.length≤BB) (q:Out→St→Option Ans) (Q:V→Hp→Nat→Prop):∀ (suf pre:List Ap) (kk:Nat),xs=pre++suf→suf.length<kk+1 →
  Fin (evC ctx (Lv ctx i) (Aa (Lv ctx i)) k UX ⟨Ae [0,2] [.sl 0,iV pre.length],pO Af 0 (some ⟨3,(pre.map JU).map eW++suf.map eW,false⟩),1⟩ (Al [0,2] fun o s=>BZ (Bp 1 [0,2] (fun s q=>evC ctx (Lv ctx i) (Aa (Lv ctx i)) k UX s (Al [0,2] q)) q kk) q o s)) Q =
  Fin (q (.exit 0) ⟨Ae [] [],pO Af 0 (some ⟨3,(xs.map JU).map eW,false⟩),1⟩) Q
 | [],pre,kk,hxs,hk=>by
  have h1:decide ((pre.length:Int)<(pre.length:Int))=false:=by simp
  have h2:xs=pre:=by simp [hxs]
  rw [Ah (UX.eq_1)]
  simp only [List.map_nil,List.append_nil]
  rw [h2]
  simp +contextual -dsimp -implicitDefEqProofs (maxSteps:=5000000) only [h1,List.length_map,go_sem,simprocAttr]
 | a::suf,pre,kk,hxs,hk=>by
  obtain ⟨kk,rfl⟩:∃ m,kk=m+1:=⟨kk - 1,by simp at hk;omega⟩
  have h2:((pre.length:Int)<((pre.length+(suf.length+1):Nat):Int))=True:=by simp;omega
  have h3:(0≤(pre.length:Int))=True:=by simp
  have h4:=wrN pre.length (by rw [hxs] at hx;simp at hx;omega)
  have hg:((pre.map JU).map eW++(a::suf).map eW)[pre.length]?=some (eW a):=by simp
  have hset:∀ x,((pre.map JU).map eW++(a::suf).map eW).set pre.length x=(pre.map JU).map eW++x::suf.map eW:=by intro x;simp [List.set_append]
  have ih:=Lw i k xs hx q Q suf (pre++[a]) kk (by simp [hxs]) (by simpa using hk)
  simp only [Ag,List.map_append,List.map_cons,List.map_nil,List.append_assoc,List.cons_append,List.nil_append,eW,JU] at ih
  simp only [eW,List.map_cons] at hg hset ⊢
  rw [Ah (UX.eq_1)]
  simp +contextual -dsimp -implicitDefEqProofs (maxSteps:=5000000) only [h2,h3,h4,hg,hset,gLs,go_sem,simprocAttr]
  exact ih
theorem GA (i:Nat) (xs:List Ap) (hx:xs.length≤BB):Aa (Lv ctx (i+1)) 95 [.own 3 (xs.map eW)]=some (.tup []):=by
 refine Ac rfl (xs.length+1) (by rfl) ?_
 delta c95
 have hl:=fun q Q=>Lw i (xs.length+1) xs hx q Q xs [] xs.length rfl (by omega)
 simp only [List.length_nil,Int.natCast_zero,List.map_nil,List.nil_append] at hl
 simp +contextual -dsimp -implicitDefEqProofs (maxSteps:=5000000) only [gLs,go_sem,simprocAttr]
 refine Eq.mpr (hl _ _) ?_
 simp +contextual -dsimp -implicitDefEqProofs (maxSteps:=5000000) only [go_sem,simprocAttr]
def JX (a:AI):AI:={ a with a:=RD a.a 90 }
theorem Lz (i k:Nat) (xs:List AI) (hx:xs.length≤BB) (q:Out→St→Option Ans) (Q:V→Hp→Nat→Prop):∀ (suf pre:List AI) (kk:Nat),xs=pre++suf→suf.length<kk+1 →
  Fin (evC ctx (Lv ctx i) (Aa (Lv ctx i)) k Vc ⟨Ae [0,2] [.sl 0,iV pre.length],pO Af 0 (some ⟨4,(pre.map JX).map eI++suf.map eI,false⟩),1⟩ (Al [0,2] fun o s=>BZ (Bp 1 [0,2] (fun s q=>evC ctx (Lv ctx i) (Aa (Lv ctx i)) k Vc s (Al [0,2] q)) q kk) q o s)) Q =
  Fin (q (.exit 0) ⟨Ae [] [],pO Af 0 (some ⟨4,(xs.map JX).map eI,false⟩),1⟩) Q
 | [],pre,kk,hxs,hk=>by
  have h1:decide ((pre.length:Int)<(pre.length:Int))=false:=by simp
  have h2:xs=pre:=by simp [hxs]
  rw [Ah (Vc.eq_1)]
  simp only [List.map_nil,List.append_nil]
  rw [h2]
  simp +contextual -dsimp -implicitDefEqProofs (maxSteps:=5000000) only [h1,List.length_map,go_sem,simprocAttr]
 | a::suf,pre,kk,hxs,hk=>by
  obtain ⟨kk,rfl⟩:∃ m,kk=m+1:=⟨kk - 1,by simp at hk;omega⟩
  have h2:((pre.length:Int)<((pre.length+(suf.length+1):Nat):Int))=True:=by simp;omega
  have h3:(0≤(pre.length:Int))=True:=by simp
  have h4:=wrN pre.length (by rw [hxs] at hx;simp at hx;omega)
  have hg:((pre.map JX).map eI++(a::suf).map eI)[pre.length]?=some (eI a):=by simp
  have hset:∀ x,((pre.map JX).map eI++(a::suf).map eI).set pre.length x=(pre.map JX).map eI++x::suf.map eI:=by intro x;simp [List.set_append]
  have ih:=Lz i k xs hx q Q suf (pre++[a]) kk (by simp [hxs]) (by simpa using hk)
  simp only [Ag,List.map_append,List.map_cons,List.map_nil,List.append_assoc,List.cons_append,List.nil_append,eI,JX] at ih
  simp only [eI,List.map_cons] at hg hset ⊢
  rw [Ah (Vc.eq_1)]
  simp +contextual -dsimp -implicitDefEqProofs (maxSteps:=5000000) only [h2,h3,h4,hg,hset,gLs,go_sem,simprocAttr]
  exact ih
theorem Ld (i:Nat) (xs:List AI) (hx:xs.length≤BB):Aa (Lv ctx (i+1)) 65 [.own 4 (xs.map eI)]=some (.tup []):=by
 refine Ac rfl (xs.length+1) (by rfl) ?_
 delta c65
 have hl:=fun q Q=>Lz i (xs.length+1) xs hx q Q xs [] xs.length rfl (by omega)
 simp only [List.length_nil,Int.natCast_zero,List.map_nil,List.nil_append] at hl
 simp +contextual -dsimp -implicitDefEqProofs (maxSteps:=5000000) only [gLs,go_sem,simprocAttr]
 refine Eq.mpr (hl _ _) ?_
 simp +contextual -dsimp -implicitDefEqProofs (maxSteps:=5000000) only [go_sem,simprocAttr]
def JW (a:AN):AN:={ a with index:=RD a.index 90 }
theorem Ly (i k:Nat) (xs:List AN) (hx:xs.length≤BB) (q:Out→St→Option Ans) (Q:V→Hp→Nat→Prop):∀ (suf pre:List AN) (kk:Nat),xs=pre++suf→suf.length<kk+1 →
  Fin (evC ctx (Lv ctx i) (Aa (Lv ctx i)) k UW ⟨Ae [0,2] [.sl 0,iV pre.length],pO Af 0 (some ⟨3,(pre.map JW).map eR++suf.map eR,false⟩),1⟩ (Al [0,2] fun o s=>BZ (Bp 1 [0,2] (fun s q=>evC ctx (Lv ctx i) (Aa (Lv ctx i)) k UW s (Al [0,2] q)) q kk) q o s)) Q =
  Fin (q (.exit 0) ⟨Ae [] [],pO Af 0 (some ⟨3,(xs.map JW).map eR,false⟩),1⟩) Q
 | [],pre,kk,hxs,hk=>by
  have h1:decide ((pre.length:Int)<(pre.length:Int))=false:=by simp
  have h2:xs=pre:=by simp [hxs]
  rw [Ah (UW.eq_1)]
  simp only [List.map_nil,List.append_nil]
  rw [h2]
  simp +contextual -dsimp -implicitDefEqProofs (maxSteps:=5000000) only [h1,List.length_map,go_sem,simprocAttr]
 | a::suf,pre,kk,hxs,hk=>by
  obtain ⟨kk,rfl⟩:∃ m,kk=m+1:=⟨kk - 1,by simp at hk;omega⟩
  have h2:((pre.length:Int)<((pre.length+(suf.length+1):Nat):Int))=True:=by simp;omega
  have h3:(0≤(pre.length:Int))=True:=by simp
  have h4:=wrN pre.length (by rw [hxs] at hx;simp at hx;omega)
  have hg:((pre.map JW).map eR++(a::suf).map eR)[pre.length]?=some (eR a):=by simp
  have hset:∀ x,((pre.map JW).map eR++(a::suf).map eR).set pre.length x=(pre.map JW).map eR++x::suf.map eR:=by intro x;simp [List.set_append]
  have ih:=Ly i k xs hx q Q suf (pre++[a]) kk (by simp [hxs]) (by simpa using hk)
  simp only [Ag,List.map_append,List.map_cons,List.map_nil,List.append_assoc,List.cons_append,List.nil_append,eR,JW] at ih
  simp only [eR,List.map_cons] at hg hset ⊢
  rw [Ah (UW.eq_1)]
  simp +contextual -dsimp -implicitDefEqProofs (maxSteps:=5000000) only [h2,h3,h4,hg,hset,gLs,go_sem,simprocAttr]
  exact ih
theorem RK (i:Nat) (xs:List AN) (hx:xs.length≤BB):Aa (Lv ctx (i+1)) 96 [.own 3 (xs.map eR)]=some (.tup []):=by
 refine Ac rfl (xs.length+1) (by rfl) ?_
 delta c96
 have hl:=fun q Q=>Ly i (xs.length+1) xs hx q Q xs [] xs.length rfl (by omega)
 simp only [List.length_nil,Int.natCast_zero,List.map_nil,List.nil_append] at hl
 simp +contextual -dsimp -implicitDefEqProofs (maxSteps:=5000000) only [gLs,go_sem,simprocAttr]
 refine Eq.mpr (hl _ _) ?_
 simp +contextual -dsimp -implicitDefEqProofs (maxSteps:=5000000) only [go_sem,simprocAttr]
def HR (a:Ao):Ao:={ a with index:=RD a.index 90 }
theorem Kv (i k:Nat) (xs:List Ao) (hx:xs.length≤BB) (q:Out→St→Option Ans) (Q:V→Hp→Nat→Prop):∀ (suf pre:List Ao) (kk:Nat),xs=pre++suf→suf.length<kk+1 →
  Fin (evC ctx (Lv ctx i) (Aa (Lv ctx i)) k UV ⟨Ae [0,2] [.sl 0,iV pre.length],pO Af 0 (some ⟨3,(pre.map HR).map eWr++suf.map eWr,false⟩),1⟩ (Al [0,2] fun o s=>BZ (Bp 1 [0,2] (fun s q=>evC ctx (Lv ctx i) (Aa (Lv ctx i)) k UV s (Al [0,2] q)) q kk) q o s)) Q =
  Fin (q (.exit 0) ⟨Ae [] [],pO Af 0 (some ⟨3,(xs.map HR).map eWr,false⟩),1⟩) Q
 | [],pre,kk,hxs,hk=>by
  have h1:decide ((pre.length:Int)<(pre.length:Int))=false:=by simp
  have h2:xs=pre:=by simp [hxs]
  rw [Ah (UV.eq_1)]
  simp only [List.map_nil,List.append_nil]
  rw [h2]
  simp +contextual -dsimp -implicitDefEqProofs (maxSteps:=5000000) only [h1,List.length_map,go_sem,simprocAttr]
 | a::suf,pre,kk,hxs,hk=>by
  obtain ⟨kk,rfl⟩:∃ m,kk=m+1:=⟨kk - 1,by simp at hk;omega⟩
  have h2:((pre.length:Int)<((pre.length+(suf.length+1):Nat):Int))=True:=by simp;omega
  have h3:(0≤(pre.length:Int))=True:=by simp
  have h4:=wrN pre.length (by rw [hxs] at hx;simp at hx;omega)
  have hg:((pre.map HR).map eWr++(a::suf).map eWr)[pre.length]?=some (eWr a):=by simp
  have hset:∀ x,((pre.map HR).map eWr++(a::suf).map eWr).set pre.length x=(pre.map HR).map eWr++x::suf.map eWr:=by intro x;simp [List.set_append]
  have ih:=Kv i k xs hx q Q suf (pre++[a]) kk (by simp [hxs]) (by simpa using hk)
  simp only [Ag,List.map_append,List.map_cons,List.map_nil,List.append_assoc,List.cons_append,List.nil_append,eWr,HR] at ih
  simp only [eWr,List.map_cons] at hg hset ⊢
  rw [Ah (UV.eq_1)]
  simp +contextual -dsimp -implicitDefEqProofs (maxSteps:=5000000) only [h2,h3,h4,hg,hset,gLs,go_sem,simprocAttr]
  exact ih
theorem PI (i:Nat) (xs:List Ao) (hx:xs.length≤BB):Aa (Lv ctx (i+1)) 97 [.own 3 (xs.map eWr)]=some (.tup []):=by
 refine Ac rfl (xs.length+1) (by rfl) ?_
 delta c97
 have hl:=fun q Q=>Kv i (xs.length+1) xs hx q Q xs [] xs.length rfl (by omega)
 simp only [List.length_nil,Int.natCast_zero,List.map_nil,List.nil_append] at hl
 simp +contextual -dsimp -implicitDefEqProofs (maxSteps:=5000000) only [gLs,go_sem,simprocAttr]
 refine Eq.mpr (hl _ _) ?_
 simp +contextual -dsimp -implicitDefEqProofs (maxSteps:=5000000) only [go_sem,simprocAttr]
def HS (a:AY):AY:={ a with id:=RD a.id 90 }
theorem Kw (i k:Nat) (xs:List AY) (hx:xs.length≤BB) (q:Out→St→Option Ans) (Q:V→Hp→Nat→Prop):∀ (suf pre:List AY) (kk:Nat),xs=pre++suf→suf.length<kk+1 →
  Fin (evC ctx (Lv ctx i) (Aa (Lv ctx i)) k Vf ⟨Ae [0,2] [.sl 0,iV pre.length],pO Af 0 (some ⟨4,(pre.map HS).map eE++suf.map eE,false⟩),1⟩ (Al [0,2] fun o s=>BZ (Bp 1 [0,2] (fun s q=>evC ctx (Lv ctx i) (Aa (Lv ctx i)) k Vf s (Al [0,2] q)) q kk) q o s)) Q =
  Fin (q (.exit 0) ⟨Ae [] [],pO Af 0 (some ⟨4,(xs.map HS).map eE,false⟩),1⟩) Q
 | [],pre,kk,hxs,hk=>by
  have h1:decide ((pre.length:Int)<(pre.length:Int))=false:=by simp
  have h2:xs=pre:=by simp [hxs]
  rw [Ah (Vf.eq_1)]
  simp only [List.map_nil,List.append_nil]
  rw [h2]
  simp +contextual -dsimp -implicitDefEqProofs (maxSteps:=5000000) only [h1,List.length_map,go_sem,simprocAttr]
 | a::suf,pre,kk,hxs,hk=>by
  obtain ⟨kk,rfl⟩:∃ m,kk=m+1:=⟨kk - 1,by simp at hk;omega⟩
  have h2:((pre.length:Int)<((pre.length+(suf.length+1):Nat):Int))=True:=by simp;omega
  have h3:(0≤(pre.length:Int))=True:=by simp
  have h4:=wrN pre.length (by rw [hxs] at hx;simp at hx;omega)
  have hg:((pre.map HS).map eE++(a::suf).map eE)[pre.length]?=some (eE a):=by simp
  have hset:∀ x,((pre.map HS).map eE++(a::suf).map eE).set pre.length x=(pre.map HS).map eE++x::suf.map eE:=by intro x;simp [List.set_append]
  have ih:=Kw i k xs hx q Q suf (pre++[a]) kk (by simp [hxs]) (by simpa using hk)
  simp only [Ag,List.map_append,List.map_cons,List.map_nil,List.append_assoc,List.cons_append,List.nil_append,eE,HS] at ih
  simp only [eE,List.map_cons] at hg hset ⊢
  rw [Ah (Vf.eq_1)]
  simp +contextual -dsimp -implicitDefEqProofs (maxSteps:=5000000) only [h2,h3,h4,hg,hset,gLs,go_sem,simprocAttr]
  exact ih
theorem PJ (i:Nat) (xs:List AY) (hx:xs.length≤BB):Aa (Lv ctx (i+1)) 63 [.own 4 (xs.map eE)]=some (.tup []):=by
 refine Ac rfl (xs.length+1) (by rfl) ?_
 delta c63
 have hl:=fun q Q=>Kw i (xs.length+1) xs hx q Q xs [] xs.length rfl (by omega)
 simp only [List.length_nil,Int.natCast_zero,List.map_nil,List.nil_append] at hl
 simp +contextual -dsimp -implicitDefEqProofs (maxSteps:=5000000) only [gLs,go_sem,simprocAttr]
 refine Eq.mpr (hl _ _) ?_
 simp +contextual -dsimp -implicitDefEqProofs (maxSteps:=5000000) only [go_sem,simprocAttr]
theorem RL (i:Nat) (a:A4 (List Ap)) (h0:a.a0.length≤BB) (h1:a.a1.length≤BB) (h2:a.a2.length≤BB) (h3:a.a3.length≤BB):Aa (Lv ctx (i+2)) 61 [.agg [oWs a.a0,oWs a.a1,oWs a.a2,oWs a.a3]]=some (.tup []):=by
 have e0:=GA i a.a0 h0
 have e1:=GA i a.a1 h1
 have e2:=GA i a.a2 h2
 have e3:=GA i a.a3 h3
 refine Ac rfl 5 (by rfl) ?_
 delta c61
 simp +contextual -dsimp -implicitDefEqProofs (maxSteps:=5000000) only [gLs,↓Ah (xQ.eq_1),e0,e1,e2,e3,go_sem,simprocAttr]
theorem Oi (i:Nat) (s:Ai) (hs:SmS s):Aa (Lv ctx (i+2)) 62 [oS s]=some (.tup []):=by
 have e0:=Ld i s.prog hs.p
 have e1:=RK i s.reads hs.r
 have e2:=PI i s.writes hs.w
 simp only [oS]
 refine Ac rfl 0 (by rfl) ?_
 delta c62
 simp +contextual -dsimp -implicitDefEqProofs (maxSteps:=5000000) only [e0,e1,e2,go_sem,simprocAttr]
def II (s:Ai):V:=.agg [iV (RD s.id 90),iV s.label,iV s.clear,.dead,iV s.step,iV s.pc,iV s.regs.a0,iV s.regs.a1,iV s.regs.a2,iV s.regs.a3,.dead,.dead,iV s.at_,iV s.stamp,iV s.tries,iV s.result,iV s.told]
theorem aC (thr d:Nat):AK thr (d+1) .dead=.ret (.dead,[]):=(rfl)
theorem wR (thr d:Nat) (l:List Ai):AC (AK thr (d+2)) (l.map II)=.ret ((l.map II).map vn):=HH _ _ _ (fun x=>by simp only [II,ES,CB,DB,EC,aC,By,List.map_cons,List.map_nil,List.flatten_cons,List.flatten_nil,List.append_nil,List.nil_append]) l
attribute [go_sem] aC wR
abbrev hS (m:Ad) (els:List V) (d:Bool):Hp :=
 pO (pO (pO (pO (pO (pO (pO Af 0 none) 1 none) 2 none) 3 none) 4 (some ⟨17,els,d⟩)) 5 (some ⟨4,m.trace.map eE,false⟩)) 6 (some ⟨11,[.agg [.sl 0,.sl 1,.sl 2,.sl 3,iV m.clocks.a0,iV m.clocks.a1,iV m.clocks.a2,iV m.clocks.a3,iV m.ceil,.sl 4,.sl 5]],true⟩)
theorem Ug (i k:Nat) (m:Ad) (hm:SmM m) (q:Out→St→Option Ans) (Q:V→Hp→Nat→Prop):∀ (suf pre:List Ai) (kk:Nat) (d:Bool),m.sess=pre++suf→suf.length<kk+1 →
  Fin (evC ctx (Lv ctx (i+2)) (Aa (Lv ctx (i+2))) k Vj ⟨Ae [1,2] [.ptr 6 0 0,iV pre.length],hS m (pre.map II++suf.map oS) d,7⟩ (Al [1,2] fun o s=>BZ (Bp 7 [1,2] (fun s q=>evC ctx (Lv ctx (i+2)) (Aa (Lv ctx (i+2))) k Vj s (Al [1,2] q)) q kk) q o s)) Q =
  Fin (q (.exit 0) ⟨Ae [1] [.ptr 6 0 0],hS m (m.sess.map II) (if suf=[] then d else true),7⟩) Q
 | [],pre,kk,d,hxs,hk=>by
  have h1:decide ((pre.length:Int)<(pre.length:Int))=false:=by simp
  have h2:m.sess=pre:=by simp [hxs]
  rw [Ah (Vj.eq_1),if_pos rfl]
  simp only [List.map_nil,List.append_nil]
  simp +contextual -dsimp -implicitDefEqProofs (maxSteps:=5000000) only [h1,List.length_map,go_sem,simprocAttr]
  rw [h2]
 | a::suf,pre,kk,d,hxs,hk=>by
  obtain ⟨kk,rfl⟩:∃ m,kk=m+1:=⟨kk - 1,by simp at hk;omega⟩
  have h2:((pre.length:Int)<((pre.length+(suf.length+1):Nat):Int))=True:=by simp;omega
  have h3:(0≤(pre.length:Int))=True:=by simp
  have h4:=wrN pre.length (by have:=hm.ss;rw [hxs] at this;simp at this;omega)
  have hg:(pre.map II++(a::suf).map oS)[pre.length]?=some (oS a):=by simp
  have hset:∀ x,(pre.map II++(a::suf).map oS).set pre.length x=pre.map II++x::suf.map oS:=by intro x;simp [List.set_append]
  have hg':∀ x,(pre.map II++x::suf.map oS)[pre.length]?=some x:=by intro x;simp
  have hset':∀ x y,(pre.map II++x::suf.map oS).set pre.length y=pre.map II++y::suf.map oS:=by intro x y;simp [List.set_append]
  have hs:=Oi i a (hm.s a (by simp [hxs]))
  have ih:=Ug i k m hm q Q suf (pre++[a]) kk true (by simp [hxs]) (by simpa using hk)
  have hif:(if a::suf=[] then d else true)=true:=by simp
  simp only [Ag,List.map_append,List.map_cons,List.map_nil,List.append_assoc,List.cons_append,List.nil_append,II,ite_self] at ih
  simp only [oS,List.map_cons] at hs hg hset ⊢
  rw [Ah (Vj.eq_1),hif]
  cases d<;>simp +contextual -dsimp -implicitDefEqProofs (maxSteps:=5000000) only [h2,h3,h4,hg,hset,hg',hset',hs,gLs,go_sem,simprocAttr]<;>exact ih
theorem Ts (i:Nat) (m:Ad) (hm:SmM m):Aa (Lv ctx (i+3)) 23 [oM m]=some (.tup []):=by
 have e0:=RL i m.words hm.w0 hm.w1 hm.w2 hm.w3
 have e1:=PJ (i+1) m.trace hm.tr
 refine Ac rfl (m.sess.length+1) (by rfl) ?_
 delta c23
 have hl:=fun q Q d=>Ug i (m.sess.length+1) m hm q Q m.sess [] m.sess.length d rfl (by omega)
 simp only [List.length_nil,Int.natCast_zero,List.map_nil,List.nil_append] at hl
 simp +contextual -dsimp -implicitDefEqProofs (maxSteps:=5000000) only [gLs,e0,go_sem,simprocAttr]
 refine Eq.mpr (hl _ _ false) ?_
 generalize (if m.sess=[] then false else true)=dd
 cases dd<;>simp +contextual -dsimp -implicitDefEqProofs (maxSteps:=5000000) only [e1,go_sem,simprocAttr]
end Ve
