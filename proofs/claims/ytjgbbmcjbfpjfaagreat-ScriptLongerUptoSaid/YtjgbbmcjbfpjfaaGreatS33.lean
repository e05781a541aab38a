/- The reference's reading. -/
import Derived.Test.YtjgbbmcjbfpjfaaGreatVeSD
import Derived.Test.YtjgbbmcjbfpjfaaGreatVeP
import Derived.Test.YtjgbbmcjbfpjfaaGreatVeN
set_option linter.all false
set_option linter.unusedSectionVars false
namespace Ve
open Go Ve.Ab
set_option maxHeartbeats 16000000
set_option maxRecDepth 10000
theorem QU {m:Ad} {k:Nat} {s:Ai} {x:AI} (h:CO m k=some (s,x)) (hc:x.code=2) (hu:Aj x.b s.label=true) {v:Int} (hf:Bj s.writes x.b x.c=(v,true)):Cp m k=(Ba (AE m k (Di s x s.reads v)) ⟨s.id,s.label,0,v⟩,0):=by
 unfold Cp;rw [h];simp only [hc,hu,hf,if_true,Int.toNat_natCast]
theorem UI {m:Ad} {at_:Int} {s:Ai} {x:AI} (h:CO m at_=some (s,x)) (hc:x.code=2) (hu:Aj x.b s.label=false):Cp m at_=(Az,1500):=by
 unfold Cp;rw [h];simp only [hc,hu];rfl
theorem OY {m:Ad} {k:Nat} {s:Ai} {x:AI} (h:CO m k=some (s,x)) (hc:x.code=2) (hu:Aj x.b s.label=true) {v:Int} (hf:Bj s.writes x.b x.c=(v,false)) {wd:Ap} (hw:BN m.words x.b x.c=wd) (hg:(Cn m.words s.reads s.id).1=true) (hl:wd.lock=0) :
  Cp m k=(Ba (AE m k (Di s x (Bg s.reads ⟨x.b,x.c,wd.ver⟩).1 wd.val)) ⟨s.id,s.label,0,wd.val⟩,0):=by
 unfold Cp;rw [h];simp only [hc,hu,hf,hw,hg,hl,if_true,Bool.false_eq_true,if_false,and_self,Int.toNat_natCast]
theorem QV {m:Ad} {k:Nat} {s:Ai} {x:AI} (h:CO m k=some (s,x)) (hc:x.code=2) (hu:Aj x.b s.label=true) {v:Int} (hf:Bj s.writes x.b x.c=(v,false)) {wd:Ap} (hw:BN m.words x.b x.c=wd) (hg:¬ ((Cn m.words s.reads s.id).1=true∧wd.lock=0)):Cp m k=BK m k 3:=by
 unfold Cp;rw [h];simp only [hc,hu,hf,hw,if_true,Bool.false_eq_true,if_false];exact if_neg hg
theorem Ze {ws:A4 (List Ap)} {l x:Int} {wd:Ap} {n:Nat} (ha:AT ws=true) (ht:Bb ws l x=true) (hg:(ws.get l)[n]?=some wd):AO wd=true∧CD ⟨l,x,wd.ver⟩=true:=by
 have hl:=FB ht
 have hrow:Cv (ws.get l)=true:=by
  simp only [AT,A4.all,Bool.and_eq_true] at ha
  rcases Bm l with rfl | rfl | rfl | rfl | h'
  ·exact ha.1.1.1
  ·exact ha.1.1.2
  ·exact ha.1.2
  ·exact ha.2
  ·rw [hl] at h';cases h'
 simp only [Cv,Bool.and_eq_true,decide_eq_true_eq,List.all_eq_true] at hrow
 have hwm:=hrow.2 wd (List.mem_of_getElem? hg)
 refine ⟨hwm,?_⟩
 simp only [AO,Bool.and_eq_true] at hwm
 simp only [Bb,Bool.and_eq_true,decide_eq_true_eq] at ht
 simp only [CD,Bool.and_eq_true,AL] at *
 omega
theorem rT (i:Nat) (pf:Bool) (m:Ad) (hm:SmM m) (at_:Int):Aa (Lv ctx (i+10)) 147 [eM pf m,iV at_]=some (.tup [oM (Cp m at_).1,iV (Cp m at_).2]):=by
 have qn:=RW (i+0) pf m hm at_
 have qc:=FH (i+7) pf m hm
 have qa:=NI (i+0) pf m hm at_ 3
 rcases Hj m at_ with h | ⟨k,n,s,x,rfl,hs,hM,hS,hst,hp,hn,hi,hc,hcur⟩
 ·obtain ⟨g1,_,g2⟩:=Lq h
  rw [g2,Ay]
  rw [g1] at qn
  simp only [Nat.add_assoc,Nat.reduceAdd] at qn
  refine Ac rfl 0 (by rfl) ?_
  delta YF
  cases pf<;>simp +contextual -dsimp -implicitDefEqProofs (maxSteps:=5000000) only [qn,go_sem,simprocAttr]
 ·rw [HY hcur hc] at qn
  have hsm:=hm.s s (List.mem_of_getElem? hs)
  have qf:=fun pf'=>a3o (i+4) pf' false s.writes hsm.w x.b x.c
  have qg:=fun pa pb=>iD (i+4) pa pa pa pa false false false false m.words.a0 m.words.a1 m.words.a2 m.words.a3 hm.w0 hm.w1 hm.w2 hm.w3 pb false s.reads hsm.r s.id
  have qw:=fun pf' v=>Wi (i+4) pf' false s.reads hsm.br x.b x.c v
  simp only [Nat.add_assoc,Nat.reduceAdd] at qn qc qa qf qg qw
  obtain ⟨hin,_,hth⟩:=Dk hS hi
  have ht:=hth (.inl hc)
  have hra:=Fo hin (by omega)
  have hlb:=(CW hin (.inl hc)).1
  have hpc:IntKind.wrap .i64 ((n:Int)+1)=(n:Int)+1:=Be (by omega) (by have:=hsm.bp;omega)
  have hk:=Ax hs
  have e1:(0≤(k:Int))=True:=by simp
  have e2:((k:Int)<(m.sess.length:Int))=True:=by simpa using hk
  have e5:∀ x,((m.sess.map oS).set k x)[k]?=some x:=fun x=>List.getElem?_set_self (by simpa using hk)
  have e4:∀ x y,((m.sess.map oS).set k x).set k y=(m.sess.map oS).set k y:=fun x y=>List.set_set ..
  have hh:=Bs hs hM
  have p1:(0≤(n:Int))=True:=by simp
  have p2:((n:Int)<(s.prog.length:Int))=True:=by simpa using hn
  have p3:decide ((s.prog.length:Int)≤(n:Int))=false:=by simp;omega
  have z0:decide (s.step=0)=true:=by simpa using hst
  cases hu:Aj x.b s.label
  ·rw [hu] at qn
   rw [UI hcur hc hu,Ay]
   refine Ac rfl 0 (by rfl) ?_
   delta YF
   cases pf<;>simp +contextual -dsimp -implicitDefEqProofs (maxSteps:=5000000) only [qn,go_sem,simprocAttr]
  ·rw [hu] at qn
   obtain ⟨nx,wd,hcx,hgw,hge,hln⟩:=EU (w0:=m.words.a0) (w1:=m.words.a1) (w2:=m.words.a2) (w3:=m.words.a3) ht
   obtain ⟨hwm,hr1⟩:=Ze hM.arena ht hgw
   have l4:(0≤(nx:Int))=True:=by simp
   have hn2:=hgw
   have hlt:=hln
   cases hfw:Bj s.writes x.b x.c with
   | mk v own =>
   rw [hfw] at qf
   cases own
   ·have hgw2:BN m.words x.b x.c=wd:=hge
    by_cases hgl:(Cn m.words s.reads s.id).1=true∧wd.lock=0
    ·obtain ⟨hg1,hl0⟩:=hgl
     rw [OY hcur hc hu hfw hgw2 hg1 hl0]
     have hroom:(Bg s.reads ⟨x.b,x.c,wd.ver⟩).2=0:=by rcases Ka hS.reads hr1 with h | h<;>rw [h.1]
     have qw1:=fun pf'=>qw pf' wd.ver
     rw [hroom] at qw1
     generalize (Bg s.reads ⟨x.b,x.c,wd.ver⟩).1=R at qw1 ⊢
     have f2:decide (wd.lock=0)=true:=by simpa using hl0
     have ql:=KG (i+8) (AE m k (Di s x R wd.val)) k _ (NB hs) 0 wd.val
     rw [show (Di s x R wd.val).id=s.id from rfl,show (Di s x R wd.val).label=s.label from rfl] at ql
     generalize Ba (AE m k (Di s x R wd.val)) ⟨s.id,s.label,0,wd.val⟩=T at ql ⊢
     simp only [Di,Nat.add_assoc,Nat.reduceAdd,oM,cO,oWs,oSs,oEs,AE,List.map_set,oS,hp] at ql
     have qg1:∀ pa pb,_:=fun pa pb=>(qg pa pb).trans (by rw [show (Cn ⟨m.words.a0,m.words.a1,m.words.a2,m.words.a3⟩ s.reads s.id)=(true,(Cn m.words s.reads s.id).2) from Prod.ext hg1 rfl])
     rcases Bm x.b with hb | hb | hb | hb | h'
     case inr.inr.inr.inr=>rw [hlb] at h';cases h'
     all_goals
      rw [hcx,hb] at qf qw1
      rw [hb] at hn2 hlt
      simp only [A4.get,show ((1:Int)=0)=False by decide,show ((2:Int)=0)=False by decide,show ((2:Int)=1)=False by decide,show ((3:Int)=0)=False by decide,show ((3:Int)=1)=False by decide,show ((3:Int)=2)=False by decide,if_true,if_false] at hn2 hlt
      refine Ac rfl 0 (by rfl) ?_
      delta YF
      cases pf
      all_goals
       simp +contextual -dsimp -implicitDefEqProofs (maxSteps:=5000000) only [qn,qc,qf,qg1,qw1,hn2,hlt,hb,hcx,l4,f2,hpc,hs,e1,e2,e4,e5,List.length_set,p1,p2,p3,z0,hp,hi,hk,go_sem,simprocAttr]
       rcases Bm x.a with ha | ha | ha | ha | h'
       case inr.inr.inr.inr=>rw [hra] at h';cases h'
       all_goals
        simp only [ha,A4.set,show ((1:Int)=0)=False by decide,show ((2:Int)=0)=False by decide,show ((2:Int)=1)=False by decide,show ((3:Int)=0)=False by decide,show ((3:Int)=1)=False by decide,show ((3:Int)=2)=False by decide,if_true,if_false] at ql
        simp +contextual -dsimp -implicitDefEqProofs (maxSteps:=5000000) only [ql,hb,ha,hcx,l4,f2,hpc,hs,e1,e2,e4,e5,List.length_set,p1,p2,p3,z0,hp,hi,hk,go_sem,simprocAttr]
    ·rw [QV hcur hc hu hfw hgw2 hgl]
     generalize BK m k 3=T at qa ⊢
     by_cases hl0:wd.lock=0
     ·have f2:decide (wd.lock=0)=true:=by simpa using hl0
      have hg1:(Cn m.words s.reads s.id).1=false:=by
       cases h:(Cn m.words s.reads s.id).1
       ·rfl
       ·exact absurd ⟨h,hl0⟩ hgl
      have qg1:∀ pa pb,_:=fun pa pb=>(qg pa pb).trans (by rw [show (Cn ⟨m.words.a0,m.words.a1,m.words.a2,m.words.a3⟩ s.reads s.id)=(false,(Cn m.words s.reads s.id).2) from Prod.ext hg1 rfl])
      rcases Bm x.b with hb | hb | hb | hb | h'
      case inr.inr.inr.inr=>rw [hlb] at h';cases h'
      all_goals
       rw [hcx,hb] at qf
       rw [hb] at hn2 hlt
       simp only [A4.get,show ((1:Int)=0)=False by decide,show ((2:Int)=0)=False by decide,show ((2:Int)=1)=False by decide,show ((3:Int)=0)=False by decide,show ((3:Int)=1)=False by decide,show ((3:Int)=2)=False by decide,if_true,if_false] at hn2 hlt
       refine Ac rfl 0 (by rfl) ?_
       delta YF
       cases pf<;>simp +contextual -dsimp -implicitDefEqProofs (maxSteps:=5000000) only [qn,qc,qa,qf,qg1,hn2,hlt,hb,hcx,l4,f2,hpc,hs,e1,e2,e4,e5,List.length_set,p1,p2,p3,z0,hp,hi,hk,go_sem,simprocAttr]
     ·have f2:decide (wd.lock=0)=false:=by simpa using hl0
      rcases Bm x.b with hb | hb | hb | hb | h'
      case inr.inr.inr.inr=>rw [hlb] at h';cases h'
      all_goals
       rw [hcx,hb] at qf
       rw [hb] at hn2 hlt
       simp only [A4.get,show ((1:Int)=0)=False by decide,show ((2:Int)=0)=False by decide,show ((2:Int)=1)=False by decide,show ((3:Int)=0)=False by decide,show ((3:Int)=1)=False by decide,show ((3:Int)=2)=False by decide,if_true,if_false] at hn2 hlt
       refine Ac rfl 0 (by rfl) ?_
       delta YF
       cases pf<;>simp +contextual -dsimp -implicitDefEqProofs (maxSteps:=5000000) only [qn,qc,qa,qf,qg,hn2,hlt,hb,hcx,l4,f2,hpc,hs,e1,e2,e4,e5,List.length_set,p1,p2,p3,z0,hp,hi,hk,go_sem,simprocAttr]
   ·rw [QU hcur hc hu hfw]
    have ql:=KG (i+8) (AE m k (Di s x s.reads v)) k _ (NB hs) 0 v
    rw [show (Di s x s.reads v).id=s.id from rfl,show (Di s x s.reads v).label=s.label from rfl] at ql
    generalize Ba (AE m k (Di s x s.reads v)) ⟨s.id,s.label,0,v⟩=T at ql ⊢
    simp only [Di,Nat.add_assoc,Nat.reduceAdd,oM,cO,oWs,oSs,oEs,AE,List.map_set,oS,hp] at ql
    rcases Bm x.a with ha | ha | ha | ha | h'
    case inr.inr.inr.inr=>rw [hra] at h';cases h'
    all_goals
     simp only [ha,A4.set,show ((1:Int)=0)=False by decide,show ((2:Int)=0)=False by decide,show ((2:Int)=1)=False by decide,show ((3:Int)=0)=False by decide,show ((3:Int)=1)=False by decide,show ((3:Int)=2)=False by decide,if_true,if_false] at ql
     refine Ac rfl 0 (by rfl) ?_
     delta YF
     cases pf<;>simp +contextual -dsimp -implicitDefEqProofs (maxSteps:=5000000) only [qn,qc,ql,qf,ha,l4,hpc,hs,e1,e2,e4,e5,List.length_set,p1,p2,p3,z0,hp,hi,hk,go_sem,simprocAttr]
end Ve
