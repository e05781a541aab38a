/- The reference's writing back. -/
import Derived.Test.YtjgbbmcjbfpjfaaGreatVeSC
import Derived.Test.YtjgbbmcjbfpjfaaGreatVeP
import Derived.Test.YtjgbbmcjbfpjfaaGreatVeN
set_option linter.all false
set_option linter.unusedSectionVars false
namespace Ve
open Go Ve.Ab
set_option maxHeartbeats 16000000
set_option maxRecDepth 10000
theorem iC (i:Nat) (pf:Bool) (m:Ad) (hm:SmM m) (at_ st:Int):Aa (Lv ctx (i+9)) 152 [eM pf m,iV at_,iV st]=some (bV (EI m at_ st).isSome):=by
 have qh:=HM (i+0) pf m at_ hm
 simp only [Nat.add_assoc,Nat.reduceAdd] at qh
 cases Ia m at_ st with
 | no h =>
  rw [DM (EQ h)]
  refine Ac rfl 0 (by rfl) ?_
  delta oP
  cases pf<;>simp +contextual -dsimp -implicitDefEqProofs (maxSteps:=5000000) only [qh,h,Option.isSome_none,go_sem,simprocAttr]
 | off k s e0 hs hM hS hst =>
  subst e0
  rw [DM (CY hs hM hst)]
  have hh:=Bs hs hM
  have hk:=Ax hs
  have e1:(0≤(k:Int))=True:=by simp
  have e2:((k:Int)<(m.sess.length:Int))=True:=by simpa using hk
  have z0:decide (s.step=st)=false:=by simpa using hst
  refine Ac rfl 0 (by rfl) ?_
  delta oP
  cases pf<;>simp +contextual -dsimp -implicitDefEqProofs (maxSteps:=5000000) only [qh,hh,hs,e1,e2,z0,Option.isSome_none,go_sem,simprocAttr]
 | fin k s e0 hs hM hS hst hp =>
  subst e0
  rw [Js hs hM hst hp]
  have hh:=Bs hs hM
  have hk:=Ax hs
  have e1:(0≤(k:Int))=True:=by simp
  have e2:((k:Int)<(m.sess.length:Int))=True:=by simpa using hk
  have z0:decide (s.step=st)=true:=by simpa using hst
  have z1:decide ((s.writes.length:Int)<(s.writes.length:Int))=false:=by simp
  refine Ac rfl 0 (by rfl) ?_
  delta oP
  cases pf<;>simp +contextual -dsimp -implicitDefEqProofs (maxSteps:=5000000) only [qh,hh,hs,e1,e2,z0,hp,z1,Option.isSome_none,Option.isSome_some,go_sem,simprocAttr]
 | on k n s w e0 hs hM hS hst hp hn hi =>
  subst e0
  rw [Lu hs hM hst hp hi]
  have hh:=Bs hs hM
  have hk:=Ax hs
  have e1:(0≤(k:Int))=True:=by simp
  have e2:((k:Int)<(m.sess.length:Int))=True:=by simpa using hk
  have z0:decide (s.step=st)=true:=by simpa using hst
  have z1:decide ((n:Int)<(s.writes.length:Int))=true:=by simpa using hn
  refine Ac rfl 0 (by rfl) ?_
  delta oP
  cases pf<;>simp +contextual -dsimp -implicitDefEqProofs (maxSteps:=5000000) only [qh,hh,hs,e1,e2,z0,hp,z1,Option.isSome_none,Option.isSome_some,go_sem,simprocAttr]
theorem Jb {α:Type} (ws:A4 (List α)) (i:Int) (w:α):Fh ws 0 i w=⟨ws.a0.set i.toNat w,ws.a1,ws.a2,ws.a3⟩:=rfl
theorem Ja {α:Type} (ws:A4 (List α)) (i:Int) (w:α):Fh ws 1 i w=⟨ws.a0,ws.a1.set i.toNat w,ws.a2,ws.a3⟩:=rfl
theorem IZ {α:Type} (ws:A4 (List α)) (i:Int) (w:α):Fh ws 2 i w=⟨ws.a0,ws.a1,ws.a2.set i.toNat w,ws.a3⟩:=rfl
theorem IY {α:Type} (ws:A4 (List α)) (i:Int) (w:α):Fh ws 3 i w=⟨ws.a0,ws.a1,ws.a2,ws.a3.set i.toNat w⟩:=rfl
theorem Ny {m:Ad} (hM:Bt m) {s:Ai} (hS:SP m.words s) {n:Nat} {w:Ao} (hi:s.writes[n]?=some w):∃ (j:Nat) (g:Ap),w.index=(j:Int)∧(m.words.get w.level)[j]?=some g∧AO g=true∧(w.level=0∨w.level=1∨w.level=2∨w.level=3)∧inR w.val 255=true:=by
 obtain ⟨h1,h2⟩:=JS hS hi
 simp only [Bb,Bool.and_eq_true,decide_eq_true_eq] at h1
 obtain ⟨⟨h1,h3⟩,h4⟩:=h1
 simp only [AF,Bool.and_eq_true] at h2
 have hj:w.index.toNat<(m.words.get w.level).length:=by omega
 refine ⟨w.index.toNat,(m.words.get w.level)[w.index.toNat],by omega,by simp [hj],?_,?_,h2.2⟩
 ·have ha:=hM.arena
  have hmem:(m.words.get w.level)[w.index.toNat]∈m.words.get w.level:=List.getElem_mem hj
  simp only [AT,A4.all,Cv,Bool.and_eq_true,List.all_eq_true,decide_eq_true_eq] at ha
  generalize (m.words.get w.level)[w.index.toNat]=g at hmem
  unfold A4.get at hmem
  obtain ⟨⟨⟨a0,a1⟩,a2⟩,a3⟩:=ha
  split at hmem
  ·exact a0.2 g hmem
  ·split at hmem
   ·exact a1.2 g hmem
   ·split at hmem
    ·exact a2.2 g hmem
    ·exact a3.2 g hmem
 ·rcases Bm w.level with h | h | h | h | h
  ·exact .inl h
  ·exact .inr (.inl h)
  ·exact .inr (.inr (.inl h))
  ·exact .inr (.inr (.inr h))
  ·rw [h1] at h;cases h
theorem qA {m:Ad} (hm:SmM m) (l i:Int) (g:Ap):SmM (FF m l i g):=by
 have:∀ (ws:A4 (List Ap)),((Fh ws l i g).a0.length=ws.a0.length∧(Fh ws l i g).a1.length=ws.a1.length∧(Fh ws l i g).a2.length=ws.a2.length∧(Fh ws l i g).a3.length=ws.a3.length):=by
  intro ws
  unfold Fh A4.set A4.get
  split
  ·simp
  ·split
   ·simp
   ·split<;>simp
 obtain ⟨h0,h1,h2,h3⟩:=this m.words
 exact ⟨by simp only [FF,h0];exact hm.b0,by simp only [FF,h1];exact hm.b1,by simp only [FF,h2];exact hm.b2,by simp only [FF,h3];exact hm.b3,hm.bs,hm.bt,hm.s⟩
theorem pZ {m:Ad} (hm:SmM m) (k:Nat) {s:Ai} (hs:SmS s):SmM (AE m k s):=by
 refine ⟨hm.b0,hm.b1,hm.b2,hm.b3,by simp only [AE,List.length_set];exact hm.bs,hm.bt,fun x hx=>?_⟩
 rcases List.mem_or_eq_of_mem_set hx with h | h
 ·exact hm.s x h
 ·rw [h];exact hs
theorem Tl {m:Ad} (hm:SmM m) {k:Nat} {s:Ai} (hs:m.sess[k]?=some s) (w:Ao):SmM (BY m k s w):=by
 have h:=hm.s s (List.mem_of_getElem? hs)
 exact pZ (qA hm _ _ _) _ ⟨h.bp,h.br,h.bw⟩
theorem Td {g:Ap} (hg:AO g=true) {v c:Int} (hv:inR v 255=true) (hc:inR c 65535=true):Fd g v c=(⟨v,c,0⟩,0):=by
 have:AO ⟨v,c,0⟩=true:=by simp only [AO,hv,hc];rfl
 unfold Fd;rw [hg,this];rfl
theorem Kl {m:Ad} {at_:Int} (h:EI m at_ 4=none):Ei m at_=(Az,2100):=by unfold Ei;rw [h]
theorem Rx {m:Ad} {at_:Int} {s:Ai} {w:Ao} (h:EI m at_ 4=some (s,w)) (hl:s.at_+1=s.writes.length):Ei m at_=CX (BY m at_ s w) at_ 1 0:=by unfold Ei;rw [h];simp only [hl,if_true]
theorem Rw {m:Ad} {at_:Int} {s:Ai} {w:Ao} (h:EI m at_ 4=some (s,w)) (hl:¬ s.at_+1=s.writes.length):Ei m at_=(BY m at_ s w,0):=by unfold Ei;rw [h];simp only [hl,if_false]
theorem OM (m:Ad) (at_ st:Int):EI m at_ st=none∨∃ (k n:Nat) (s:Ai) (w:Ao),at_=(k:Nat)∧m.sess[k]?=some s∧Bt m∧SP m.words s∧s.step=st∧s.at_=(n:Int)∧n<s.writes.length∧s.writes[n]?=some w∧EI m at_ st=some (s,w):=by
 cases Ia m at_ st with
 | no h=>exact .inl (DM (EQ h))
 | off k s e hs hM hS hst=>subst e;exact .inl (DM (CY hs hM hst))
 | fin k s e hs hM hS hst hp=>subst e;exact .inl (Js hs hM hst hp)
 | on k n s w e hs hM hS hst hp hn hi=>subst e;exact .inr ⟨k,n,s,w,rfl,hs,hM,hS,hst,hp,hn,hi,Lu hs hM hst hp hi⟩
theorem a3q (i:Nat) (pf:Bool) (m:Ad) (hm:SmM m) (at_:Int):Aa (Lv ctx (i+10)) 111 [eM pf m,iV at_]=some (.tup [oM (Ei m at_).1,iV (Ei m at_).2]):=by
 have ql:=iC (i+0) pf m hm at_ 4
 have qc:=FH (i+7) pf m hm
 rcases OM m at_ 4 with h | ⟨k,n,s,w,rfl,hs,hM,hS,hst,hp,hn,hi,hl⟩
 ·rw [Kl h,Ay]
  rw [h] at ql
  simp only [Nat.add_assoc,Nat.reduceAdd,Option.isSome_none] at ql
  refine Ac rfl 0 (by rfl) ?_
  delta vX
  cases pf<;>simp +contextual -dsimp -implicitDefEqProofs (maxSteps:=5000000) only [ql,go_sem,simprocAttr]
 ·obtain ⟨j,g,hj,hg,hgm,hlev,hv⟩:=Ny hM hS hi
  have qw:=rP (i+5) g.val g.ver g.lock w.val s.stamp
  rw [show (⟨g.val,g.ver,g.lock⟩:Ap)=g from rfl,Td hgm hv hS.stamp] at qw
  have qe:=Qm (i+0) false (BY m k s w) (Tl hm hs w) k 1 0
  rw [hl] at ql
  simp only [Nat.add_assoc,Nat.reduceAdd,Option.isSome_some,eW] at ql qc qe qw
  have hk:=Ax hs
  have e1:(0≤(k:Int))=True:=by simp
  have e2:((k:Int)<(m.sess.length:Int))=True:=by simpa using hk
  have e3:∀ x,((m.sess.map oS).set k x)[k]?=some x:=fun x=>List.getElem?_set_self (by simpa using hk)
  have e4:∀ x y,((m.sess.map oS).set k x).set k y=(m.sess.map oS).set k y:=fun x y=>List.set_set ..
  have p1:(0≤(n:Int))=True:=by simp
  have p2:((n:Int)<(s.writes.length:Int))=True:=by simpa using hn
  have jn:w.index.toNat=j:=by rw [hj];rfl
  have j1:(0≤(j:Int))=True:=by simp
  have hn1:IntKind.wrap .i64 ((n:Int)+1)=(n:Int)+1:=by
   have:=(hm.s s (List.mem_of_getElem? hs)).bw
   exact Be (by omega) (by omega)
  rcases hlev with h0 | h0 | h0 | h0
  all_goals
   rw [h0] at hg
   simp only [A4.get] at hg
   simp only [show ((1:Int)=0)=False by decide,show ((2:Int)=0)=False by decide,show ((2:Int)=1)=False by decide,show ((3:Int)=0)=False by decide,show ((3:Int)=1)=False by decide,show ((3:Int)=2)=False by decide,if_true,if_false] at hg
   have hjl:=Ax hg
   have j2:=eq_true (Int.ofNat_lt.2 hjl)
   by_cases hlast:s.at_+1=s.writes.length
   ·rw [Rx hl hlast]
    have l1:decide ((n:Int)+1=(s.writes.length:Int))=true:=by rw [hp] at hlast;simpa using hlast
    generalize CX (BY m k s w) k 1 0=r at qe ⊢
    simp only [BY,AE,FF,h0,Jb,Ja,IZ,IY,jn,hp,eM,cM,eWs,eSs,eEs,List.map_set,eW,eS,Int.toNat_natCast] at qe
    refine Ac rfl 0 (by rfl) ?_
    delta vX
    cases pf<;>simp +contextual -dsimp -implicitDefEqProofs (maxSteps:=5000000) only [ql,qc,qw,qe,hs,e1,e2,e3,e4,p1,p2,hp,hi,h0,hj,hg,j1,j2,hn1,l1,List.length_set,NR,go_sem,simprocAttr]
   ·rw [Rw hl hlast]
    have l1:decide ((n:Int)+1=(s.writes.length:Int))=false:=by rw [hp] at hlast;simpa using hlast
    simp only [BY,AE,FF,h0,Jb,Ja,IZ,IY,jn,hp,Int.toNat_natCast,oM,cO,oWs,oSs,oEs,List.map_set,eW,oS]
    refine Ac rfl 0 (by rfl) ?_
    delta vX
    cases pf<;>simp +contextual -dsimp -implicitDefEqProofs (maxSteps:=5000000) only [ql,qc,qw,hs,e1,e2,e3,e4,p1,p2,hp,hi,h0,hj,hg,j1,j2,hn1,l1,List.length_set,NR,go_sem,simprocAttr]
end Ve
