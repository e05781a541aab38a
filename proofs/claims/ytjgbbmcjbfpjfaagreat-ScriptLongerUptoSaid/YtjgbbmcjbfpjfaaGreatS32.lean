/- The reference's storing, parking. -/
import Derived.Test.YtjgbbmcjbfpjfaaGreatVeSD
import Derived.Test.YtjgbbmcjbfpjfaaGreatVeSC
import Derived.Test.YtjgbbmcjbfpjfaaGreatVeN
set_option linter.all false
set_option linter.unusedSectionVars false
namespace Ve
open Go Ve.Ab
set_option maxHeartbeats 16000000
set_option maxRecDepth 10000
theorem FD {m:Ad} {at_:Int} (h:CO m at_=none):CH m at_=(Az,1600):=by unfold CH;rw [h]
theorem Ti {m:Ad} {at_:Int} {s:Ai} {x:AI} (h:CO m at_=some (s,x)) (hc:¬ x.code=3):CH m at_=(Az,1600):=by unfold CH;rw [h];simp only [hc,if_false]
theorem Th {m:Ad} {k:Nat} {s:Ai} {x:AI} (h:CO m k=some (s,x)) (hc:x.code=3):CH m k=(Ba (AE m k { s with writes:=(BS s.writes ⟨x.b,x.c,s.regs.get x.a⟩).1,pc:=s.pc+1 }) ⟨s.id,s.label,1,s.regs.get x.a⟩,0):=by unfold CH;rw [h];simp only [hc,if_true,Int.toNat_natCast]
theorem hQ {r:A4 Int} (h:Dl r=true) {a:Int} (ha:inR a 3=true):inR (r.get a) 255=true:=by
 simp only [Dl,A4.all,Bool.and_eq_true] at h
 unfold A4.get
 split
 ·exact h.1.1.1
 ·split
  ·exact h.1.1.2
  ·split
   ·exact h.1.2
   ·exact h.2
theorem rR (i:Nat) (pf:Bool) (m:Ad) (hm:SmM m) (at_:Int):Aa (Lv ctx (i+9)) 148 [eM pf m,iV at_]=some (.tup [oM (CH m at_).1,iV (CH m at_).2]):=by
 have qh:=HM (i+0) pf m at_ hm
 have qc:=FH (i+6) pf m hm
 have qr:=fun v h=>HV (i+7) pf m at_ v h
 simp only [Nat.add_assoc,Nat.reduceAdd] at qh qc qr
 cases Ej m at_ with
 | no h =>
  rw [FD (Gs h),Ay]
  rw [h] at qh
  refine Ac rfl 0 (by rfl) ?_
  delta eC
  cases pf<;>simp +contextual -dsimp -implicitDefEqProofs (maxSteps:=5000000) only [qh,go_sem,simprocAttr]
 | off k s e0 hs hM hS hst =>
  subst e0
  have hk:=Ax hs
  have e1:(0≤(k:Int))=True:=by simp
  have e2:((k:Int)<(m.sess.length:Int))=True:=by simpa using hk
  have e3:∀ x,((m.sess.map oS).set k x)[k]?=some x:=fun x=>List.getElem?_set_self (by simpa using hk)
  have e4:∀ x y,((m.sess.map oS).set k x).set k y=(m.sess.map oS).set k y:=fun x y=>List.set_set ..
  have hh:=Bs hs hM
  rw [hh] at qh
  rw [FD (CL hs hM hst),Ay]
  have q:=qr (-1) ⟨k,s,rfl,hs,hS,.inl ⟨hst,rfl⟩⟩
  refine Ac rfl 0 (by rfl) ?_
  delta eC
  cases pf<;>simp +contextual -dsimp -implicitDefEqProofs (maxSteps:=5000000) only [qh,qc,q,hs,e1,e2,go_sem,simprocAttr]
 | fin k s e0 hs hM hS hst hp =>
  subst e0
  have hk:=Ax hs
  have e1:(0≤(k:Int))=True:=by simp
  have e2:((k:Int)<(m.sess.length:Int))=True:=by simpa using hk
  have e3:∀ x,((m.sess.map oS).set k x)[k]?=some x:=fun x=>List.getElem?_set_self (by simpa using hk)
  have e4:∀ x y,((m.sess.map oS).set k x).set k y=(m.sess.map oS).set k y:=fun x y=>List.set_set ..
  have hh:=Bs hs hM
  rw [hh] at qh
  rw [FD (EP hs hM hst hp),Ay]
  have q:=qr (-1) ⟨k,s,rfl,hs,hS,.inr (.inl ⟨hst,hp,rfl⟩)⟩
  refine Ac rfl 0 (by rfl) ?_
  delta eC
  cases pf<;>simp +contextual -dsimp -implicitDefEqProofs (maxSteps:=5000000) only [qh,qc,q,hs,e1,e2,go_sem,simprocAttr]
 | on k n s x e0 hs hM hS hst hp hn hi =>
  subst e0
  have hk:=Ax hs
  have e1:(0≤(k:Int))=True:=by simp
  have e2:((k:Int)<(m.sess.length:Int))=True:=by simpa using hk
  have e3:∀ x,((m.sess.map oS).set k x)[k]?=some x:=fun x=>List.getElem?_set_self (by simpa using hk)
  have e4:∀ x y,((m.sess.map oS).set k x).set k y=(m.sess.map oS).set k y:=fun x y=>List.set_set ..
  have hh:=Bs hs hM
  rw [hh] at qh
  have hn':=Ax hi
  have p1:(0≤(n:Int))=True:=by simp
  have p2:((n:Int)<(s.prog.length:Int))=True:=by simpa using hn'
  have p3:decide ((s.prog.length:Int)≤(n:Int))=false:=by simp;omega
  have z0:decide (s.step=0)=true:=by simpa using hst
  have hw1:IntKind.wrap .i64 ((n:Int)+1)=(n:Int)+1:=by
   have:=(hm.s s (List.mem_of_getElem? hs)).bp
   exact Be (by omega) (by omega)
  have hcur:=DP hs hM hst hp hi
  have q:=qr x.code ⟨k,s,rfl,hs,hS,.inr (.inr ⟨hst,n,x,hp,hi,rfl⟩)⟩
  obtain ⟨hx1,hx2,hx3⟩:=Dk hS hi
  by_cases hc:x.code=3
  ·rw [Th hcur hc]
   have hsm:=hm.s s (List.mem_of_getElem? hs)
   have ha:=Fo hx1 ⟨by omega,by omega⟩
   obtain ⟨hb,hcc⟩:=CW hx1 (.inr hc)
   have hvi:=hQ hS.regs ha
   have qs:=fun v=>TG (i+3) pf false s.writes hsm.bw x.b x.c v
   have hww:(BS s.writes ⟨x.b,x.c,s.regs.get x.a⟩).2=0:=by
    have:(AX s.writes&&AF ⟨x.b,x.c,s.regs.get x.a⟩)=true:=by simp only [hS.writes,AF,hb,hcc,hvi,Bool.and_self]
    unfold BS;rw [this];rfl
   have qs1:=qs (s.regs.get x.a)
   rw [hww] at qs1
   generalize (BS s.writes ⟨x.b,x.c,s.regs.get x.a⟩).1=W at qs1 ⊢
   have ql:=KG (i+7) (AE m k { s with writes:=W,pc:=s.pc+1 }) k _ (NB hs) 1 (s.regs.get x.a)
   generalize Ba (AE m k { s with writes:=W,pc:=s.pc+1 }) ⟨s.id,s.label,1,s.regs.get x.a⟩=T at ql ⊢
   have c3:decide (x.code=3)=true:=by simpa using hc
   simp only [Nat.add_assoc,Nat.reduceAdd,oM,cO,oWs,oSs,oEs,AE,List.map_set,oS,hp] at ql qs1
   rcases Bm x.a with h0 | h0 | h0 | h0 | h0
   case inr.inr.inr.inr=>rw [ha] at h0;cases h0
   all_goals
    simp only [h0,A4.get,show ((1:Int)=0)=False by decide,show ((2:Int)=0)=False by decide,show ((2:Int)=1)=False by decide,show ((3:Int)=0)=False by decide,show ((3:Int)=1)=False by decide,show ((3:Int)=2)=False by decide,if_true,if_false] at ql qs1
    refine Ac rfl 0 (by rfl) ?_
    delta eC
    cases pf<;>simp +contextual -dsimp -implicitDefEqProofs (maxSteps:=5000000) only [qh,qc,q,qs1,ql,hs,e1,e2,e3,e4,p1,p2,p3,z0,h0,hp,hi,hc,c3,hw1,List.length_set,hk,go_sem,simprocAttr]
  ·rw [Ti hcur hc,Ay]
   have c3:decide (x.code=3)=false:=by simpa using hc
   refine Ac rfl 0 (by rfl) ?_
   delta eC
   cases pf<;>simp +contextual -dsimp -implicitDefEqProofs (maxSteps:=5000000) only [qh,qc,q,hs,e1,e2,hp,c3,hw1,go_sem,simprocAttr]
theorem Hd {m:Ad} {at_:Int} (h:CO m at_=none) (h':Gt m at_ 5=none):Cx m at_=(Az,2200):=by unfold Cx;rw [h];simp only [h']
theorem Zn {m:Ad} {at_:Int} {s:Ai} {x:AI} (h:CO m at_=some (s,x)) (hc:¬ x.code=5):Cx m at_=(Az,2200):=by unfold Cx;rw [h];simp only [hc,if_false]
theorem Zm {m:Ad} {k:Nat} {s:Ai} {x:AI} (h:CO m k=some (s,x)) (hc:x.code=5):Cx m k=(Ba (AE m k { s with writes:=[],at_:=0,step:=5 }) ⟨s.id,s.label,4,s.reads.length⟩,0):=by unfold Cx;rw [h];simp only [hc,if_true,Int.toNat_natCast]
theorem Qp {m:Ad} {at_:Int} {s:Ai} (h:CO m at_=none) (h':Gt m at_ 5=some s) (hc:(BP m.words s.reads).1=true):Cx m at_=BK m at_ 5:=by unfold Cx;rw [h];simp only [h',hc,if_true]
theorem Qq {m:Ad} {at_:Int} {s:Ai} (h:CO m at_=none) (h':Gt m at_ 5=some s) (hc:(BP m.words s.reads).1=false):Cx m at_=(m,0):=by unfold Cx;rw [h];simp only [h',hc,Bool.false_eq_true,if_false]
theorem iA (i:Nat) (pf:Bool) (m:Ad) (hm:SmM m) (at_:Int):Aa (Lv ctx (i+10)) 112 [eM pf m,iV at_]=some (.tup [oM (Cx m at_).1,iV (Cx m at_).2]):=by
 have qh:=HM (i+1) pf m at_ hm
 have qc:=FH (i+7) pf m hm
 have qa:=NI (i+0) pf m hm at_ 5
 have qr:=fun v h=>HV (i+8) pf m at_ v h
 simp only [Nat.add_assoc,Nat.reduceAdd] at qh qc qr qa
 cases Ej m at_ with
 | no h =>
  rw [Hd (Gs h) (EQ h),Ay]
  rw [h] at qh
  refine Ac rfl 0 (by rfl) ?_
  delta Vn
  cases pf<;>simp +contextual -dsimp -implicitDefEqProofs (maxSteps:=5000000) only [qh,go_sem,simprocAttr]
 | off k s e0 hs hM hS hst =>
  subst e0
  have hk:=Ax hs
  have e1:(0≤(k:Int))=True:=by simp
  have e2:((k:Int)<(m.sess.length:Int))=True:=by simpa using hk
  have e3:∀ x,((m.sess.map oS).set k x)[k]?=some x:=fun x=>List.getElem?_set_self (by simpa using hk)
  have e4:∀ x y,((m.sess.map oS).set k x).set k y=(m.sess.map oS).set k y:=fun x y=>List.set_set ..
  have hh:=Bs hs hM
  rw [hh] at qh
  have q:=qr (-1) ⟨k,s,rfl,hs,hS,.inl ⟨hst,rfl⟩⟩
  have z0:decide (s.step=0)=false:=by simpa using hst
  by_cases h5:s.step=5
  ·have z5:decide (s.step=5)=true:=by simpa using h5
   have hsm:=hm.s s (List.mem_of_getElem? hs)
   have qg:=bT (i+4) pf pf pf pf false false false false m.words.a0 m.words.a1 m.words.a2 m.words.a3 hm.w0 hm.w1 hm.w2 hm.w3 pf false s.reads (by have:=hsm.br;simp only [BB];omega)
   rw [show (⟨m.words.a0,m.words.a1,m.words.a2,m.words.a3⟩:A4 (List Ap))=m.words from rfl] at qg
   cases hg:(BP m.words s.reads).1
   ·rw [Qq (CL hs hM hst) (Ct hs hM h5) hg]
    rw [hg] at qg
    simp only [Nat.add_assoc,Nat.reduceAdd] at qg
    refine Ac rfl 0 (by rfl) ?_
    delta Vn
    cases pf<;>simp +contextual -dsimp -implicitDefEqProofs (maxSteps:=5000000) only [qh,qc,q,qg,hs,e1,e2,z0,z5,h5,go_sem,simprocAttr]
   ·rw [Qp (CL hs hM hst) (Ct hs hM h5) hg]
    rw [hg] at qg
    simp only [Nat.add_assoc,Nat.reduceAdd] at qg
    generalize BK m k 5=r at qa ⊢
    refine Ac rfl 0 (by rfl) ?_
    delta Vn
    cases pf<;>simp +contextual -dsimp -implicitDefEqProofs (maxSteps:=5000000) only [qh,qc,q,qg,qa,hs,e1,e2,z0,z5,h5,go_sem,simprocAttr]
  ·have z5:decide (s.step=5)=false:=by simpa using h5
   rw [Hd (CL hs hM hst) (CY hs hM h5),Ay]
   refine Ac rfl 0 (by rfl) ?_
   delta Vn
   cases pf<;>simp +contextual -dsimp -implicitDefEqProofs (maxSteps:=5000000) only [qh,qc,q,hs,e1,e2,z0,z5,go_sem,simprocAttr]
 | fin k s e0 hs hM hS hst hp =>
  subst e0
  have hk:=Ax hs
  have e1:(0≤(k:Int))=True:=by simp
  have e2:((k:Int)<(m.sess.length:Int))=True:=by simpa using hk
  have e3:∀ x,((m.sess.map oS).set k x)[k]?=some x:=fun x=>List.getElem?_set_self (by simpa using hk)
  have e4:∀ x y,((m.sess.map oS).set k x).set k y=(m.sess.map oS).set k y:=fun x y=>List.set_set ..
  have hh:=Bs hs hM
  rw [hh] at qh
  have h5:¬ s.step=5:=by omega
  have z5:decide (s.step=5)=false:=by simpa using h5
  rw [Hd (EP hs hM hst hp) (CY hs hM h5),Ay]
  have q:=qr (-1) ⟨k,s,rfl,hs,hS,.inr (.inl ⟨hst,hp,rfl⟩)⟩
  refine Ac rfl 0 (by rfl) ?_
  delta Vn
  cases pf<;>simp +contextual -dsimp -implicitDefEqProofs (maxSteps:=5000000) only [qh,qc,q,hs,e1,e2,z5,go_sem,simprocAttr]
 | on k n s x e0 hs hM hS hst hp hn hi =>
  subst e0
  have hk:=Ax hs
  have e1:(0≤(k:Int))=True:=by simp
  have e2:((k:Int)<(m.sess.length:Int))=True:=by simpa using hk
  have e3:∀ x,((m.sess.map oS).set k x)[k]?=some x:=fun x=>List.getElem?_set_self (by simpa using hk)
  have e4:∀ x y,((m.sess.map oS).set k x).set k y=(m.sess.map oS).set k y:=fun x y=>List.set_set ..
  have hh:=Bs hs hM
  rw [hh] at qh
  have hn':=Ax hi
  have p1:(0≤(n:Int))=True:=by simp
  have p2:((n:Int)<(s.prog.length:Int))=True:=by simpa using hn'
  have p3:decide ((s.prog.length:Int)≤(n:Int))=false:=by simp;omega
  have z0:decide (s.step=0)=true:=by simpa using hst
  have hw1:IntKind.wrap .i64 ((n:Int)+1)=(n:Int)+1:=by
   have:=(hm.s s (List.mem_of_getElem? hs)).bp
   exact Be (by omega) (by omega)
  have hcur:=DP hs hM hst hp hi
  have q:=qr x.code ⟨k,s,rfl,hs,hS,.inr (.inr ⟨hst,n,x,hp,hi,rfl⟩)⟩
  have h5:¬ s.step=5:=by omega
  have z5:decide (s.step=5)=false:=by simpa using h5
  by_cases hc:x.code=5
  ·rw [Zm hcur hc]
   have c3:decide (x.code=5)=true:=by simpa using hc
   have ql:=KG (i+8) (AE m k { s with writes:=[],at_:=0,step:=5 }) k _ (NB hs) 4 s.reads.length
   generalize Ba (AE m k { s with writes:=[],at_:=0,step:=5 }) ⟨s.id,s.label,4,s.reads.length⟩=T at ql ⊢
   simp only [Nat.add_assoc,Nat.reduceAdd,oM,cO,oWs,oSs,oEs,PQ,AE,List.map_set,List.map_nil,oS,hp] at ql
   refine Ac rfl 0 (by rfl) ?_
   delta Vn
   cases pf<;>simp +contextual -dsimp -implicitDefEqProofs (maxSteps:=5000000) only [qh,qc,q,ql,hs,e1,e2,e3,e4,z0,z5,hp,c3,List.length_set,List.map_nil,hk,go_sem,simprocAttr]
  ·rw [Zn hcur hc,Ay]
   have c3:decide (x.code=5)=false:=by simpa using hc
   refine Ac rfl 0 (by rfl) ?_
   delta Vn
   cases pf<;>simp +contextual -dsimp -implicitDefEqProofs (maxSteps:=5000000) only [qh,qc,q,hs,e1,e2,hp,c3,z5,z0,go_sem,simprocAttr]
end Ve
