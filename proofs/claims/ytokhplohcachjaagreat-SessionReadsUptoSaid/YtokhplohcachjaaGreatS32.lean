/- The reference's storing, parking. -/
import Derived.Test.YtokhplohcachjaaGreatVeSC
import Derived.Test.YtokhplohcachjaaGreatVeN
set_option linter.all false
set_option linter.unusedSectionVars false
namespace Ve
open Go Ve.Ab
set_option maxHeartbeats 16000000
set_option maxRecDepth 10000
theorem ET {m:Ad} {at_:Int} (h:Cr m at_=none):Cl m at_=(AK,1600):=by unfold Cl;rw [h]
theorem Ri {m:Ad} {at_:Int} {s:Ag} {x:AF} (h:Cr m at_=some (s,x)) (hc:¬ x.code=3):Cl m at_=(AK,1600):=by unfold Cl;rw [h];simp only [hc,if_false]
theorem Rh {m:Ad} {k:Nat} {s:Ag} {x:AF} (h:Cr m k=some (s,x)) (hc:x.code=3):Cl m k=(AS (Az m k { s with writes:=(BD s.writes ⟨x.b,x.c,s.regs.get x.a⟩).1,pc:=s.pc+1 }) ⟨s.id,s.label,1,s.regs.get x.a⟩,0):=by unfold Cl;rw [h];simp only [hc,if_true,Int.toNat_natCast]
theorem Zs {r:A4 Int} (h:CI r=true) {a:Int} (ha:inR a 3=true):inR (r.get a) 255=true:=by
 simp only [CI,A4.all,Bool.and_eq_true] at h
 unfold A4.get
 split
 ·exact h.1.1.1
 ·split
  ·exact h.1.1.2
  ·split
   ·exact h.1.2
   ·exact h.2
theorem gK (i:Nat) (pf:Bool) (m:Ad) (hm:SmM m) (at_:Int):Aa (Lv ctx (i+9)) 77 [eM pf m,iV at_]=some (.tup [oM (Cl m at_).1,iV (Cl m at_).2]):=by
 have qh:=GY (i+0) pf m at_ hm
 have qc:=EV (i+6) pf m hm
 have qr:=fun v h=>Hj (i+7) pf m at_ v h
 simp only [Nat.add_assoc,Nat.reduceAdd] at qh qc qr
 cases DG m at_ with
 | no h =>
  rw [ET (FB h),Aw]
  rw [h] at qh
  refine Ac rfl 0 (by rfl) ?_
  delta c77
  cases pf<;>simp +contextual -dsimp -implicitDefEqProofs (maxSteps:=5000000) only [qh,go_sem,simprocAttr]
 | off k s e0 hs hM hS hst =>
  subst e0
  have hk:=Au hs
  have e1:(0≤(k:Int))=True:=by simp
  have e2:((k:Int)<(m.sess.length:Int))=True:=by simpa using hk
  have e3:∀ x,((m.sess.map oS).set k x)[k]?=some x:=fun x=>List.getElem?_set_self (by simpa using hk)
  have e4:∀ x y,((m.sess.map oS).set k x).set k y=(m.sess.map oS).set k y:=fun x y=>List.set_set ..
  have hh:=Bf hs hM
  rw [hh] at qh
  rw [ET (Cq hs hM hst),Aw]
  have q:=qr (-1) ⟨k,s,rfl,hs,hS,.inl ⟨hst,rfl⟩⟩
  refine Ac rfl 0 (by rfl) ?_
  delta c77
  cases pf<;>simp +contextual -dsimp -implicitDefEqProofs (maxSteps:=5000000) only [qh,qc,q,hs,e1,e2,go_sem,simprocAttr]
 | fin k s e0 hs hM hS hst hp =>
  subst e0
  have hk:=Au hs
  have e1:(0≤(k:Int))=True:=by simp
  have e2:((k:Int)<(m.sess.length:Int))=True:=by simpa using hk
  have e3:∀ x,((m.sess.map oS).set k x)[k]?=some x:=fun x=>List.getElem?_set_self (by simpa using hk)
  have e4:∀ x y,((m.sess.map oS).set k x).set k y=(m.sess.map oS).set k y:=fun x y=>List.set_set ..
  have hh:=Bf hs hM
  rw [hh] at qh
  rw [ET (Eg hs hM hst hp),Aw]
  have q:=qr (-1) ⟨k,s,rfl,hs,hS,.inr (.inl ⟨hst,hp,rfl⟩)⟩
  refine Ac rfl 0 (by rfl) ?_
  delta c77
  cases pf<;>simp +contextual -dsimp -implicitDefEqProofs (maxSteps:=5000000) only [qh,qc,q,hs,e1,e2,go_sem,simprocAttr]
 | on k n s x e0 hs hM hS hst hp hn hi =>
  subst e0
  have hk:=Au hs
  have e1:(0≤(k:Int))=True:=by simp
  have e2:((k:Int)<(m.sess.length:Int))=True:=by simpa using hk
  have e3:∀ x,((m.sess.map oS).set k x)[k]?=some x:=fun x=>List.getElem?_set_self (by simpa using hk)
  have e4:∀ x y,((m.sess.map oS).set k x).set k y=(m.sess.map oS).set k y:=fun x y=>List.set_set ..
  have hh:=Bf hs hM
  rw [hh] at qh
  have hn':=Au hi
  have p1:(0≤(n:Int))=True:=by simp
  have p2:((n:Int)<(s.prog.length:Int))=True:=by simpa using hn'
  have p3:decide ((s.prog.length:Int)≤(n:Int))=false:=by simp;omega
  have z0:decide (s.step=0)=true:=by simpa using hst
  have hw1:IntKind.wrap .i64 ((n:Int)+1)=(n:Int)+1:=by
   have:=(hm.s s (List.mem_of_getElem? hs)).bp
   exact AU (by omega) (by omega)
  have hcur:=Dn hs hM hst hp hi
  have q:=qr x.code ⟨k,s,rfl,hs,hS,.inr (.inr ⟨hst,n,x,hp,hi,rfl⟩)⟩
  obtain ⟨hx1,hx2,hx3⟩:=CV hS hi
  by_cases hc:x.code=3
  ·rw [Rh hcur hc]
   have hsm:=hm.s s (List.mem_of_getElem? hs)
   have ha:=ED hx1 ⟨by omega,by omega⟩
   obtain ⟨hb,hcc⟩:=CP hx1 (.inr hc)
   have hvi:=Zs hS.regs ha
   have qs:=fun v=>RB (i+3) pf false s.writes hsm.bw x.b x.c v
   have hww:(BD s.writes ⟨x.b,x.c,s.regs.get x.a⟩).2=0:=by
    have:(AP s.writes&&Ay ⟨x.b,x.c,s.regs.get x.a⟩)=true:=by simp only [hS.writes,Ay,hb,hcc,hvi,Bool.and_self]
    unfold BD;rw [this];rfl
   have qs1:=qs (s.regs.get x.a)
   rw [hww] at qs1
   generalize (BD s.writes ⟨x.b,x.c,s.regs.get x.a⟩).1=W at qs1 ⊢
   have ql:=JB (i+7) (Az m k { s with writes:=W,pc:=s.pc+1 }) k _ (LO hs) 1 (s.regs.get x.a)
   generalize AS (Az m k { s with writes:=W,pc:=s.pc+1 }) ⟨s.id,s.label,1,s.regs.get x.a⟩=T at ql ⊢
   have c3:decide (x.code=3)=true:=by simpa using hc
   simp only [Nat.add_assoc,Nat.reduceAdd,oM,cO,oWs,oSs,oEs,Az,List.map_set,oS,hp] at ql qs1
   rcases Bc x.a with h0 | h0 | h0 | h0 | h0
   case inr.inr.inr.inr=>rw [ha] at h0;cases h0
   all_goals
    simp only [h0,A4.get,show ((1:Int)=0)=False by decide,show ((2:Int)=0)=False by decide,show ((2:Int)=1)=False by decide,show ((3:Int)=0)=False by decide,show ((3:Int)=1)=False by decide,show ((3:Int)=2)=False by decide,if_true,if_false] at ql qs1
    refine Ac rfl 0 (by rfl) ?_
    delta c77
    cases pf<;>simp +contextual -dsimp -implicitDefEqProofs (maxSteps:=5000000) only [qh,qc,q,qs1,ql,hs,e1,e2,e3,e4,p1,p2,p3,z0,h0,hp,hi,hc,c3,hw1,List.length_set,hk,go_sem,simprocAttr]
  ·rw [Ri hcur hc,Aw]
   have c3:decide (x.code=3)=false:=by simpa using hc
   refine Ac rfl 0 (by rfl) ?_
   delta c77
   cases pf<;>simp +contextual -dsimp -implicitDefEqProofs (maxSteps:=5000000) only [qh,qc,q,hs,e1,e2,hp,c3,hw1,go_sem,simprocAttr]
theorem FS {m:Ad} {at_:Int} (h:Cr m at_=none) (h':FC m at_ 5=none):Cd m at_=(AK,2200):=by unfold Cd;rw [h];simp only [h']
theorem US {m:Ad} {at_:Int} {s:Ag} {x:AF} (h:Cr m at_=some (s,x)) (hc:¬ x.code=5):Cd m at_=(AK,2200):=by unfold Cd;rw [h];simp only [hc,if_false]
theorem UR {m:Ad} {k:Nat} {s:Ag} {x:AF} (h:Cr m k=some (s,x)) (hc:x.code=5):Cd m k=(AS (Az m k { s with writes:=[],at_:=0,step:=5 }) ⟨s.id,s.label,4,s.reads.length⟩,0):=by unfold Cd;rw [h];simp only [hc,if_true,Int.toNat_natCast]
theorem NZ {m:Ad} {at_:Int} {s:Ag} (h:Cr m at_=none) (h':FC m at_ 5=some s) (hc:(BC m.words s.reads).1=true):Cd m at_=Bw m at_ 5:=by unfold Cd;rw [h];simp only [h',hc,if_true]
theorem Oa {m:Ad} {at_:Int} {s:Ag} (h:Cr m at_=none) (h':FC m at_ 5=some s) (hc:(BC m.words s.reads).1=false):Cd m at_=(m,0):=by unfold Cd;rw [h];simp only [h',hc,Bool.false_eq_true,if_false]
theorem Zw (i:Nat) (pf:Bool) (m:Ad) (hm:SmM m) (at_:Int):Aa (Lv ctx (i+10)) 46 [eM pf m,iV at_]=some (.tup [oM (Cd m at_).1,iV (Cd m at_).2]):=by
 have qh:=GY (i+1) pf m at_ hm
 have qc:=EV (i+7) pf m hm
 have qa:=LS (i+0) pf m hm at_ 5
 have qr:=fun v h=>Hj (i+8) pf m at_ v h
 simp only [Nat.add_assoc,Nat.reduceAdd] at qh qc qr qa
 cases DG m at_ with
 | no h =>
  rw [FS (FB h) (Eh h),Aw]
  rw [h] at qh
  refine Ac rfl 0 (by rfl) ?_
  delta c46
  cases pf<;>simp +contextual -dsimp -implicitDefEqProofs (maxSteps:=5000000) only [qh,go_sem,simprocAttr]
 | off k s e0 hs hM hS hst =>
  subst e0
  have hk:=Au hs
  have e1:(0≤(k:Int))=True:=by simp
  have e2:((k:Int)<(m.sess.length:Int))=True:=by simpa using hk
  have e3:∀ x,((m.sess.map oS).set k x)[k]?=some x:=fun x=>List.getElem?_set_self (by simpa using hk)
  have e4:∀ x y,((m.sess.map oS).set k x).set k y=(m.sess.map oS).set k y:=fun x y=>List.set_set ..
  have hh:=Bf hs hM
  rw [hh] at qh
  have q:=qr (-1) ⟨k,s,rfl,hs,hS,.inl ⟨hst,rfl⟩⟩
  have z0:decide (s.step=0)=false:=by simpa using hst
  by_cases h5:s.step=5
  ·have z5:decide (s.step=5)=true:=by simpa using h5
   have hsm:=hm.s s (List.mem_of_getElem? hs)
   have qg:=XF (i+4) pf pf pf pf false false false false m.words.a0 m.words.a1 m.words.a2 m.words.a3 hm.w0 hm.w1 hm.w2 hm.w3 pf false s.reads (by have:=hsm.br;simp only [BB];omega)
   rw [show (⟨m.words.a0,m.words.a1,m.words.a2,m.words.a3⟩:A4 (List Ao))=m.words from rfl] at qg
   cases hg:(BC m.words s.reads).1
   ·rw [Oa (Cq hs hM hst) (BX hs hM h5) hg]
    rw [hg] at qg
    simp only [Nat.add_assoc,Nat.reduceAdd] at qg
    refine Ac rfl 0 (by rfl) ?_
    delta c46
    cases pf<;>simp +contextual -dsimp -implicitDefEqProofs (maxSteps:=5000000) only [qh,qc,q,qg,hs,e1,e2,z0,z5,h5,go_sem,simprocAttr]
   ·rw [NZ (Cq hs hM hst) (BX hs hM h5) hg]
    rw [hg] at qg
    simp only [Nat.add_assoc,Nat.reduceAdd] at qg
    generalize Bw m k 5=r at qa ⊢
    refine Ac rfl 0 (by rfl) ?_
    delta c46
    cases pf<;>simp +contextual -dsimp -implicitDefEqProofs (maxSteps:=5000000) only [qh,qc,q,qg,qa,hs,e1,e2,z0,z5,h5,go_sem,simprocAttr]
  ·have z5:decide (s.step=5)=false:=by simpa using h5
   rw [FS (Cq hs hM hst) (Cz hs hM h5),Aw]
   refine Ac rfl 0 (by rfl) ?_
   delta c46
   cases pf<;>simp +contextual -dsimp -implicitDefEqProofs (maxSteps:=5000000) only [qh,qc,q,hs,e1,e2,z0,z5,go_sem,simprocAttr]
 | fin k s e0 hs hM hS hst hp =>
  subst e0
  have hk:=Au hs
  have e1:(0≤(k:Int))=True:=by simp
  have e2:((k:Int)<(m.sess.length:Int))=True:=by simpa using hk
  have e3:∀ x,((m.sess.map oS).set k x)[k]?=some x:=fun x=>List.getElem?_set_self (by simpa using hk)
  have e4:∀ x y,((m.sess.map oS).set k x).set k y=(m.sess.map oS).set k y:=fun x y=>List.set_set ..
  have hh:=Bf hs hM
  rw [hh] at qh
  have h5:¬ s.step=5:=by omega
  have z5:decide (s.step=5)=false:=by simpa using h5
  rw [FS (Eg hs hM hst hp) (Cz hs hM h5),Aw]
  have q:=qr (-1) ⟨k,s,rfl,hs,hS,.inr (.inl ⟨hst,hp,rfl⟩)⟩
  refine Ac rfl 0 (by rfl) ?_
  delta c46
  cases pf<;>simp +contextual -dsimp -implicitDefEqProofs (maxSteps:=5000000) only [qh,qc,q,hs,e1,e2,z5,go_sem,simprocAttr]
 | on k n s x e0 hs hM hS hst hp hn hi =>
  subst e0
  have hk:=Au hs
  have e1:(0≤(k:Int))=True:=by simp
  have e2:((k:Int)<(m.sess.length:Int))=True:=by simpa using hk
  have e3:∀ x,((m.sess.map oS).set k x)[k]?=some x:=fun x=>List.getElem?_set_self (by simpa using hk)
  have e4:∀ x y,((m.sess.map oS).set k x).set k y=(m.sess.map oS).set k y:=fun x y=>List.set_set ..
  have hh:=Bf hs hM
  rw [hh] at qh
  have hn':=Au hi
  have p1:(0≤(n:Int))=True:=by simp
  have p2:((n:Int)<(s.prog.length:Int))=True:=by simpa using hn'
  have p3:decide ((s.prog.length:Int)≤(n:Int))=false:=by simp;omega
  have z0:decide (s.step=0)=true:=by simpa using hst
  have hw1:IntKind.wrap .i64 ((n:Int)+1)=(n:Int)+1:=by
   have:=(hm.s s (List.mem_of_getElem? hs)).bp
   exact AU (by omega) (by omega)
  have hcur:=Dn hs hM hst hp hi
  have q:=qr x.code ⟨k,s,rfl,hs,hS,.inr (.inr ⟨hst,n,x,hp,hi,rfl⟩)⟩
  have h5:¬ s.step=5:=by omega
  have z5:decide (s.step=5)=false:=by simpa using h5
  by_cases hc:x.code=5
  ·rw [UR hcur hc]
   have c3:decide (x.code=5)=true:=by simpa using hc
   have ql:=JB (i+8) (Az m k { s with writes:=[],at_:=0,step:=5 }) k _ (LO hs) 4 s.reads.length
   generalize AS (Az m k { s with writes:=[],at_:=0,step:=5 }) ⟨s.id,s.label,4,s.reads.length⟩=T at ql ⊢
   simp only [Nat.add_assoc,Nat.reduceAdd,oM,cO,oWs,oSs,oEs,Fy,Az,List.map_set,List.map_nil,oS,hp] at ql
   refine Ac rfl 0 (by rfl) ?_
   delta c46
   cases pf<;>simp +contextual -dsimp -implicitDefEqProofs (maxSteps:=5000000) only [qh,qc,q,ql,hs,e1,e2,e3,e4,z0,z5,hp,c3,List.length_set,List.map_nil,hk,go_sem,simprocAttr]
  ·rw [US hcur hc,Aw]
   have c3:decide (x.code=5)=false:=by simpa using hc
   refine Ac rfl 0 (by rfl) ?_
   delta c46
   cases pf<;>simp +contextual -dsimp -implicitDefEqProofs (maxSteps:=5000000) only [qh,qc,q,hs,e1,e2,hp,c3,z5,z0,go_sem,simprocAttr]
end Ve
