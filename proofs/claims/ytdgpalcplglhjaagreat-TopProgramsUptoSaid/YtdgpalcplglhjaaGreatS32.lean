/- The reference's storing, parking. -/
import Derived.Test.YtdgpalcplglhjaaGreatVeSC
import Derived.Test.YtdgpalcplglhjaaGreatVeN
set_option linter.all false
set_option linter.unusedSectionVars false
namespace Ve
open Go Ve.Ab
set_option maxHeartbeats 16000000
set_option maxRecDepth 10000
theorem Fo {m:Ad} {at_:Int} (h:CA m at_=none):Cu m at_=(AN,1600):=by unfold Cu;rw [h]
theorem RT {m:Ad} {at_:Int} {s:Af} {x:Av} (h:CA m at_=some (s,x)) (hc:¬ x.code=3):Cu m at_=(AN,1600):=by unfold Cu;rw [h];simp only [hc,if_false]
theorem RS {m:Ad} {k:Nat} {s:Af} {x:Av} (h:CA m k=some (s,x)) (hc:x.code=3):Cu m k=(AT (AA m k { s with writes:=(BK s.writes ⟨x.b,x.c,s.regs.get x.a⟩).1,pc:=s.pc+1 }) ⟨s.id,s.label,1,s.regs.get x.a⟩,0):=by unfold Cu;rw [h];simp only [hc,if_true,Int.toNat_natCast]
theorem aD {r:A4 Int} (h:CX r=true) {a:Int} (ha:inR a 3=true):inR (r.get a) 255=true:=by
 simp only [CX,A4.all,Bool.and_eq_true] at h
 unfold A4.get
 split
 ·exact h.1.1.1
 ·split
  ·exact h.1.1.2
  ·split
   ·exact h.1.2
   ·exact h.2
theorem jN (i:Nat) (pf:Bool) (m:Ad) (hm:SmM m) (at_:Int):Aa (Lv ctx (i+9)) 65 [eM pf m,iV at_]=some (.tup [oM (Cu m at_).1,iV (Cu m at_).2]):=by
 have qh:=Hk (i+0) pf m at_ hm
 have qc:=FV (i+6) pf m hm
 have qr:=fun v h=>Hr (i+7) pf m at_ v h
 simp only [Nat.add_assoc,Nat.reduceAdd] at qh qc qr
 cases DS m at_ with
 | no h =>
  rw [Fo (Ga h),AH]
  rw [h] at qh
  refine Ac rfl 0 (by rfl) ?_
  delta c65
  cases pf<;>simp +contextual -dsimp -implicitDefEqProofs (maxSteps:=5000000) only [qh,go_sem,simprocAttr]
 | off k s e0 hs hM hS hst =>
  subst e0
  have hk:=Au hs
  have e1:(0≤(k:Int))=True:=by simp
  have e2:((k:Int)<(m.sess.length:Int))=True:=by simpa using hk
  have e3:∀ x,((m.sess.map oS).set k x)[k]?=some x:=fun x=>List.getElem?_set_self (by simpa using hk)
  have e4:∀ x y,((m.sess.map oS).set k x).set k y=(m.sess.map oS).set k y:=fun x y=>List.set_set ..
  have hh:=Bf hs hM
  rw [hh] at qh
  rw [Fo (CC hs hM hst),AH]
  have q:=qr (-1) ⟨k,s,rfl,hs,hS,.inl ⟨hst,rfl⟩⟩
  refine Ac rfl 0 (by rfl) ?_
  delta c65
  cases pf<;>simp +contextual -dsimp -implicitDefEqProofs (maxSteps:=5000000) only [qh,qc,q,hs,e1,e2,go_sem,simprocAttr]
 | fin k s e0 hs hM hS hst hp =>
  subst e0
  have hk:=Au hs
  have e1:(0≤(k:Int))=True:=by simp
  have e2:((k:Int)<(m.sess.length:Int))=True:=by simpa using hk
  have e3:∀ x,((m.sess.map oS).set k x)[k]?=some x:=fun x=>List.getElem?_set_self (by simpa using hk)
  have e4:∀ x y,((m.sess.map oS).set k x).set k y=(m.sess.map oS).set k y:=fun x y=>List.set_set ..
  have hh:=Bf hs hM
  rw [hh] at qh
  rw [Fo (EB hs hM hst hp),AH]
  have q:=qr (-1) ⟨k,s,rfl,hs,hS,.inr (.inl ⟨hst,hp,rfl⟩)⟩
  refine Ac rfl 0 (by rfl) ?_
  delta c65
  cases pf<;>simp +contextual -dsimp -implicitDefEqProofs (maxSteps:=5000000) only [qh,qc,q,hs,e1,e2,go_sem,simprocAttr]
 | on k n s x e0 hs hM hS hst hp hn hi =>
  subst e0
  have hk:=Au hs
  have e1:(0≤(k:Int))=True:=by simp
  have e2:((k:Int)<(m.sess.length:Int))=True:=by simpa using hk
  have e3:∀ x,((m.sess.map oS).set k x)[k]?=some x:=fun x=>List.getElem?_set_self (by simpa using hk)
  have e4:∀ x y,((m.sess.map oS).set k x).set k y=(m.sess.map oS).set k y:=fun x y=>List.set_set ..
  have hh:=Bf hs hM
  rw [hh] at qh
  have hn':=Au hi
  have p1:(0≤(n:Int))=True:=by simp
  have p2:((n:Int)<(s.prog.length:Int))=True:=by simpa using hn'
  have p3:decide ((s.prog.length:Int)≤(n:Int))=false:=by simp;omega
  have z0:decide (s.step=0)=true:=by simpa using hst
  have hw1:IntKind.wrap .i64 ((n:Int)+1)=(n:Int)+1:=by
   have:=(hm.s s (List.mem_of_getElem? hs)).bp
   exact Bt (by omega) (by omega)
  have hcur:=Dp hs hM hst hp hi
  have q:=qr x.code ⟨k,s,rfl,hs,hS,.inr (.inr ⟨hst,n,x,hp,hi,rfl⟩)⟩
  obtain ⟨hx1,hx2,hx3⟩:=Dk hS hi
  by_cases hc:x.code=3
  ·rw [RS hcur hc]
   have hsm:=hm.s s (List.mem_of_getElem? hs)
   have ha:=EV hx1 ⟨by omega,by omega⟩
   obtain ⟨hb,hcc⟩:=Dc hx1 (.inr hc)
   have hvi:=aD hS.regs ha
   have qs:=fun v=>Sr (i+3) pf false s.writes hsm.bw x.b x.c v
   have hww:(BK s.writes ⟨x.b,x.c,s.regs.get x.a⟩).2=0:=by
    have:(AS s.writes&&Az ⟨x.b,x.c,s.regs.get x.a⟩)=true:=by simp only [hS.writes,Az,hb,hcc,hvi,Bool.and_self]
    unfold BK;rw [this];rfl
   have qs1:=qs (s.regs.get x.a)
   rw [hww] at qs1
   generalize (BK s.writes ⟨x.b,x.c,s.regs.get x.a⟩).1=W at qs1 ⊢
   have ql:=JH (i+7) (AA m k { s with writes:=W,pc:=s.pc+1 }) k _ (LU hs) 1 (s.regs.get x.a)
   generalize AT (AA m k { s with writes:=W,pc:=s.pc+1 }) ⟨s.id,s.label,1,s.regs.get x.a⟩=T at ql ⊢
   have c3:decide (x.code=3)=true:=by simpa using hc
   simp only [Nat.add_assoc,Nat.reduceAdd,oM,cO,oWs,oSs,oEs,AA,List.map_set,oS,hp] at ql qs1
   rcases Bb x.a with h0 | h0 | h0 | h0 | h0
   case inr.inr.inr.inr=>rw [ha] at h0;cases h0
   all_goals
    simp only [h0,A4.get,show ((1:Int)=0)=False by decide,show ((2:Int)=0)=False by decide,show ((2:Int)=1)=False by decide,show ((3:Int)=0)=False by decide,show ((3:Int)=1)=False by decide,show ((3:Int)=2)=False by decide,if_true,if_false] at ql qs1
    refine Ac rfl 0 (by rfl) ?_
    delta c65
    cases pf<;>simp +contextual -dsimp -implicitDefEqProofs (maxSteps:=5000000) only [qh,qc,q,qs1,ql,hs,e1,e2,e3,e4,p1,p2,p3,z0,h0,hp,hi,hc,c3,hw1,List.length_set,hk,go_sem,simprocAttr]
  ·rw [RT hcur hc,AH]
   have c3:decide (x.code=3)=false:=by simpa using hc
   refine Ac rfl 0 (by rfl) ?_
   delta c65
   cases pf<;>simp +contextual -dsimp -implicitDefEqProofs (maxSteps:=5000000) only [qh,qc,q,hs,e1,e2,hp,c3,hw1,go_sem,simprocAttr]
theorem Gv {m:Ad} {at_:Int} (h:CA m at_=none) (h':Gb m at_ 5=none):Cg m at_=(AN,2200):=by unfold Cg;rw [h];simp only [h']
theorem VN {m:Ad} {at_:Int} {s:Af} {x:Av} (h:CA m at_=some (s,x)) (hc:¬ x.code=5):Cg m at_=(AN,2200):=by unfold Cg;rw [h];simp only [hc,if_false]
theorem VM {m:Ad} {k:Nat} {s:Af} {x:Av} (h:CA m k=some (s,x)) (hc:x.code=5):Cg m k=(AT (AA m k { s with writes:=[],at_:=0,step:=5 }) ⟨s.id,s.label,4,s.reads.length⟩,0):=by unfold Cg;rw [h];simp only [hc,if_true,Int.toNat_natCast]
theorem Oy {m:Ad} {at_:Int} {s:Af} (h:CA m at_=none) (h':Gb m at_ 5=some s) (hc:(BH m.words s.reads).1=true):Cg m at_=By m at_ 5:=by unfold Cg;rw [h];simp only [h',hc,if_true]
theorem Oz {m:Ad} {at_:Int} {s:Af} (h:CA m at_=none) (h':Gb m at_ 5=some s) (hc:(BH m.words s.reads).1=false):Cg m at_=(m,0):=by unfold Cg;rw [h];simp only [h',hc,Bool.false_eq_true,if_false]
theorem aH (i:Nat) (pf:Bool) (m:Ad) (hm:SmM m) (at_:Int):Aa (Lv ctx (i+10)) 34 [eM pf m,iV at_]=some (.tup [oM (Cg m at_).1,iV (Cg m at_).2]):=by
 have qh:=Hk (i+1) pf m at_ hm
 have qc:=FV (i+7) pf m hm
 have qa:=LZ (i+0) pf m hm at_ 5
 have qr:=fun v h=>Hr (i+8) pf m at_ v h
 simp only [Nat.add_assoc,Nat.reduceAdd] at qh qc qr qa
 cases DS m at_ with
 | no h =>
  rw [Gv (Ga h) (EC h),AH]
  rw [h] at qh
  refine Ac rfl 0 (by rfl) ?_
  delta c34
  cases pf<;>simp +contextual -dsimp -implicitDefEqProofs (maxSteps:=5000000) only [qh,go_sem,simprocAttr]
 | off k s e0 hs hM hS hst =>
  subst e0
  have hk:=Au hs
  have e1:(0≤(k:Int))=True:=by simp
  have e2:((k:Int)<(m.sess.length:Int))=True:=by simpa using hk
  have e3:∀ x,((m.sess.map oS).set k x)[k]?=some x:=fun x=>List.getElem?_set_self (by simpa using hk)
  have e4:∀ x y,((m.sess.map oS).set k x).set k y=(m.sess.map oS).set k y:=fun x y=>List.set_set ..
  have hh:=Bf hs hM
  rw [hh] at qh
  have q:=qr (-1) ⟨k,s,rfl,hs,hS,.inl ⟨hst,rfl⟩⟩
  have z0:decide (s.step=0)=false:=by simpa using hst
  by_cases h5:s.step=5
  ·have z5:decide (s.step=5)=true:=by simpa using h5
   have hsm:=hm.s s (List.mem_of_getElem? hs)
   have qg:=Yj (i+4) pf pf pf pf false false false false m.words.a0 m.words.a1 m.words.a2 m.words.a3 hm.w0 hm.w1 hm.w2 hm.w3 pf false s.reads (by have:=hsm.br;simp only [BB];omega)
   rw [show (⟨m.words.a0,m.words.a1,m.words.a2,m.words.a3⟩:A4 (List Al))=m.words from rfl] at qg
   cases hg:(BH m.words s.reads).1
   ·rw [Oz (CC hs hM hst) (Cb hs hM h5) hg]
    rw [hg] at qg
    simp only [Nat.add_assoc,Nat.reduceAdd] at qg
    refine Ac rfl 0 (by rfl) ?_
    delta c34
    cases pf<;>simp +contextual -dsimp -implicitDefEqProofs (maxSteps:=5000000) only [qh,qc,q,qg,hs,e1,e2,z0,z5,h5,go_sem,simprocAttr]
   ·rw [Oy (CC hs hM hst) (Cb hs hM h5) hg]
    rw [hg] at qg
    simp only [Nat.add_assoc,Nat.reduceAdd] at qg
    generalize By m k 5=r at qa ⊢
    refine Ac rfl 0 (by rfl) ?_
    delta c34
    cases pf<;>simp +contextual -dsimp -implicitDefEqProofs (maxSteps:=5000000) only [qh,qc,q,qg,qa,hs,e1,e2,z0,z5,h5,go_sem,simprocAttr]
  ·have z5:decide (s.step=5)=false:=by simpa using h5
   rw [Gv (CC hs hM hst) (CM hs hM h5),AH]
   refine Ac rfl 0 (by rfl) ?_
   delta c34
   cases pf<;>simp +contextual -dsimp -implicitDefEqProofs (maxSteps:=5000000) only [qh,qc,q,hs,e1,e2,z0,z5,go_sem,simprocAttr]
 | fin k s e0 hs hM hS hst hp =>
  subst e0
  have hk:=Au hs
  have e1:(0≤(k:Int))=True:=by simp
  have e2:((k:Int)<(m.sess.length:Int))=True:=by simpa using hk
  have e3:∀ x,((m.sess.map oS).set k x)[k]?=some x:=fun x=>List.getElem?_set_self (by simpa using hk)
  have e4:∀ x y,((m.sess.map oS).set k x).set k y=(m.sess.map oS).set k y:=fun x y=>List.set_set ..
  have hh:=Bf hs hM
  rw [hh] at qh
  have h5:¬ s.step=5:=by omega
  have z5:decide (s.step=5)=false:=by simpa using h5
  rw [Gv (EB hs hM hst hp) (CM hs hM h5),AH]
  have q:=qr (-1) ⟨k,s,rfl,hs,hS,.inr (.inl ⟨hst,hp,rfl⟩)⟩
  refine Ac rfl 0 (by rfl) ?_
  delta c34
  cases pf<;>simp +contextual -dsimp -implicitDefEqProofs (maxSteps:=5000000) only [qh,qc,q,hs,e1,e2,z5,go_sem,simprocAttr]
 | on k n s x e0 hs hM hS hst hp hn hi =>
  subst e0
  have hk:=Au hs
  have e1:(0≤(k:Int))=True:=by simp
  have e2:((k:Int)<(m.sess.length:Int))=True:=by simpa using hk
  have e3:∀ x,((m.sess.map oS).set k x)[k]?=some x:=fun x=>List.getElem?_set_self (by simpa using hk)
  have e4:∀ x y,((m.sess.map oS).set k x).set k y=(m.sess.map oS).set k y:=fun x y=>List.set_set ..
  have hh:=Bf hs hM
  rw [hh] at qh
  have hn':=Au hi
  have p1:(0≤(n:Int))=True:=by simp
  have p2:((n:Int)<(s.prog.length:Int))=True:=by simpa using hn'
  have p3:decide ((s.prog.length:Int)≤(n:Int))=false:=by simp;omega
  have z0:decide (s.step=0)=true:=by simpa using hst
  have hw1:IntKind.wrap .i64 ((n:Int)+1)=(n:Int)+1:=by
   have:=(hm.s s (List.mem_of_getElem? hs)).bp
   exact Bt (by omega) (by omega)
  have hcur:=Dp hs hM hst hp hi
  have q:=qr x.code ⟨k,s,rfl,hs,hS,.inr (.inr ⟨hst,n,x,hp,hi,rfl⟩)⟩
  have h5:¬ s.step=5:=by omega
  have z5:decide (s.step=5)=false:=by simpa using h5
  by_cases hc:x.code=5
  ·rw [VM hcur hc]
   have c3:decide (x.code=5)=true:=by simpa using hc
   have ql:=JH (i+8) (AA m k { s with writes:=[],at_:=0,step:=5 }) k _ (LU hs) 4 s.reads.length
   generalize AT (AA m k { s with writes:=[],at_:=0,step:=5 }) ⟨s.id,s.label,4,s.reads.length⟩=T at ql ⊢
   simp only [Nat.add_assoc,Nat.reduceAdd,oM,cO,oWs,oSs,oEs,LP,AA,List.map_set,List.map_nil,oS,hp] at ql
   refine Ac rfl 0 (by rfl) ?_
   delta c34
   cases pf<;>simp +contextual -dsimp -implicitDefEqProofs (maxSteps:=5000000) only [qh,qc,q,ql,hs,e1,e2,e3,e4,z0,z5,hp,c3,List.length_set,List.map_nil,hk,go_sem,simprocAttr]
  ·rw [VN hcur hc,AH]
   have c3:decide (x.code=5)=false:=by simpa using hc
   refine Ac rfl 0 (by rfl) ?_
   delta c34
   cases pf<;>simp +contextual -dsimp -implicitDefEqProofs (maxSteps:=5000000) only [qh,qc,q,hs,e1,e2,hp,c3,z5,z0,go_sem,simprocAttr]
end Ve
