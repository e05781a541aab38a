/- The reference's reading. -/
import Derived.Test.YtdgpalcplglhjaaGreatVeSC
import Derived.Test.YtdgpalcplglhjaaGreatVeP
import Derived.Test.YtdgpalcplglhjaaGreatVeN
set_option linter.all false
set_option linter.unusedSectionVars false
namespace Ve
open Go Ve.Ab
set_option maxHeartbeats 16000000
set_option maxRecDepth 10000
theorem Pc {m:Ad} {k:Nat} {s:Af} {x:Av} (h:CA m k=some (s,x)) (hc:x.code=2) (hu:AG x.b s.label=true) {v:Int} (hf:Ba s.writes x.b x.c=(v,true)):BX m k=(AT (AA m k (Cp s x s.reads v)) ⟨s.id,s.label,0,v⟩,0):=by
 unfold BX;rw [h];simp only [hc,hu,hf,if_true,Int.toNat_natCast]
theorem Tr {m:Ad} {at_:Int} {s:Af} {x:Av} (h:CA m at_=some (s,x)) (hc:x.code=2) (hu:AG x.b s.label=false):BX m at_=(AN,1500):=by
 unfold BX;rw [h];simp only [hc,hu];rfl
theorem Nj {m:Ad} {k:Nat} {s:Af} {x:Av} (h:CA m k=some (s,x)) (hc:x.code=2) (hu:AG x.b s.label=true) {v:Int} (hf:Ba s.writes x.b x.c=(v,false)) {wd:Al} (hw:Bx m.words x.b x.c=wd) (hg:(BU m.words s.reads s.id).1=true) (hl:wd.lock=0) :
  BX m k=(AT (AA m k (Cp s x (AX s.reads ⟨x.b,x.c,wd.ver⟩).1 wd.val)) ⟨s.id,s.label,0,wd.val⟩,0):=by
 unfold BX;rw [h];simp only [hc,hu,hf,hw,hg,hl,if_true,Bool.false_eq_true,if_false,and_self,Int.toNat_natCast]
theorem Pe {m:Ad} {k:Nat} {s:Af} {x:Av} (h:CA m k=some (s,x)) (hc:x.code=2) (hu:AG x.b s.label=true) {v:Int} (hf:Ba s.writes x.b x.c=(v,false)) {wd:Al} (hw:Bx m.words x.b x.c=wd) (hg:¬ ((BU m.words s.reads s.id).1=true∧wd.lock=0)):BX m k=By m k 3:=by
 unfold BX;rw [h];simp only [hc,hu,hf,hw,if_true,Bool.false_eq_true,if_false];exact if_neg hg
theorem VG {ws:A4 (List Al)} {l x:Int} {wd:Al} {n:Nat} (ha:AP ws=true) (ht:AW ws l x=true) (hg:(ws.get l)[n]?=some wd):AK wd=true∧Cw ⟨l,x,wd.ver⟩=true:=by
 have hl:=Fk ht
 have hrow:Co (ws.get l)=true:=by
  simp only [AP,A4.all,Bool.and_eq_true] at ha
  rcases Bb l with rfl | rfl | rfl | rfl | h'
  ·exact ha.1.1.1
  ·exact ha.1.1.2
  ·exact ha.1.2
  ·exact ha.2
  ·rw [hl] at h';cases h'
 simp only [Co,Bool.and_eq_true,decide_eq_true_eq,List.all_eq_true] at hrow
 have hwm:=hrow.2 wd (List.mem_of_getElem? hg)
 refine ⟨hwm,?_⟩
 simp only [AK,Bool.and_eq_true] at hwm
 simp only [AW,Bool.and_eq_true,decide_eq_true_eq] at ht
 simp only [Cw,Bool.and_eq_true,AR] at *
 omega
theorem jQ (i:Nat) (pf:Bool) (m:Ad) (hm:SmM m) (at_:Int):Aa (Lv ctx (i+10)) 64 [eM pf m,iV at_]=some (.tup [oM (BX m at_).1,iV (BX m at_).2]):=by
 have qn:=PU (i+0) pf m hm at_
 have qc:=FV (i+7) pf m hm
 have qa:=LZ (i+0) pf m hm at_ 3
 rcases Gy m at_ with h | ⟨k,n,s,x,rfl,hs,hM,hS,hst,hp,hn,hi,hc,hcur⟩
 ·obtain ⟨g1,_,g2⟩:=Kn h
  rw [g2,AH]
  rw [g1] at qn
  simp only [Nat.add_assoc,Nat.reduceAdd] at qn
  refine Ac rfl 0 (by rfl) ?_
  delta c64
  cases pf<;>simp +contextual -dsimp -implicitDefEqProofs (maxSteps:=5000000) only [qn,go_sem,simprocAttr]
 ·rw [Hv hcur hc] at qn
  have hsm:=hm.s s (List.mem_of_getElem? hs)
  have qf:=fun pf'=>rN (i+4) pf' false s.writes hsm.w x.b x.c
  have qg:=fun pa pb=>aJ (i+4) pa pa pa pa false false false false m.words.a0 m.words.a1 m.words.a2 m.words.a3 hm.w0 hm.w1 hm.w2 hm.w3 pb false s.reads hsm.r s.id
  have qw:=fun pf' v=>Uv (i+4) pf' false s.reads hsm.br x.b x.c v
  simp only [Nat.add_assoc,Nat.reduceAdd] at qn qc qa qf qg qw
  obtain ⟨hin,_,hth⟩:=Dk hS hi
  have ht:=hth (.inl hc)
  have hra:=EV hin (by omega)
  have hlb:=(Dc hin (.inl hc)).1
  have hpc:IntKind.wrap .i64 ((n:Int)+1)=(n:Int)+1:=Bt (by omega) (by have:=hsm.bp;omega)
  have hk:=Au hs
  have e1:(0≤(k:Int))=True:=by simp
  have e2:((k:Int)<(m.sess.length:Int))=True:=by simpa using hk
  have e5:∀ x,((m.sess.map oS).set k x)[k]?=some x:=fun x=>List.getElem?_set_self (by simpa using hk)
  have e4:∀ x y,((m.sess.map oS).set k x).set k y=(m.sess.map oS).set k y:=fun x y=>List.set_set ..
  have hh:=Bf hs hM
  have p1:(0≤(n:Int))=True:=by simp
  have p2:((n:Int)<(s.prog.length:Int))=True:=by simpa using hn
  have p3:decide ((s.prog.length:Int)≤(n:Int))=false:=by simp;omega
  have z0:decide (s.step=0)=true:=by simpa using hst
  cases hu:AG x.b s.label
  ·rw [hu] at qn
   rw [Tr hcur hc hu,AH]
   refine Ac rfl 0 (by rfl) ?_
   delta c64
   cases pf<;>simp +contextual -dsimp -implicitDefEqProofs (maxSteps:=5000000) only [qn,go_sem,simprocAttr]
  ·rw [hu] at qn
   obtain ⟨nx,wd,hcx,hgw,hge,hln⟩:=EJ (w0:=m.words.a0) (w1:=m.words.a1) (w2:=m.words.a2) (w3:=m.words.a3) ht
   obtain ⟨hwm,hr1⟩:=VG hM.arena ht hgw
   have l4:(0≤(nx:Int))=True:=by simp
   have hn2:=hgw
   have hlt:=hln
   cases hfw:Ba s.writes x.b x.c with
   | mk v own =>
   rw [hfw] at qf
   cases own
   ·have hgw2:Bx m.words x.b x.c=wd:=hge
    by_cases hgl:(BU m.words s.reads s.id).1=true∧wd.lock=0
    ·obtain ⟨hg1,hl0⟩:=hgl
     rw [Nj hcur hc hu hfw hgw2 hg1 hl0]
     have hroom:(AX s.reads ⟨x.b,x.c,wd.ver⟩).2=0:=by rcases IZ hS.reads hr1 with h | h<;>rw [h.1]
     have qw1:=fun pf'=>qw pf' wd.ver
     rw [hroom] at qw1
     generalize (AX s.reads ⟨x.b,x.c,wd.ver⟩).1=R at qw1 ⊢
     have f2:decide (wd.lock=0)=true:=by simpa using hl0
     have ql:=JH (i+8) (AA m k (Cp s x R wd.val)) k _ (LU hs) 0 wd.val
     rw [show (Cp s x R wd.val).id=s.id from rfl,show (Cp s x R wd.val).label=s.label from rfl] at ql
     generalize AT (AA m k (Cp s x R wd.val)) ⟨s.id,s.label,0,wd.val⟩=T at ql ⊢
     simp only [Cp,Nat.add_assoc,Nat.reduceAdd,oM,cO,oWs,oSs,oEs,AA,List.map_set,oS,hp] at ql
     have qg1:∀ pa pb,_:=fun pa pb=>(qg pa pb).trans (by rw [show (BU ⟨m.words.a0,m.words.a1,m.words.a2,m.words.a3⟩ s.reads s.id)=(true,(BU m.words s.reads s.id).2) from Prod.ext hg1 rfl])
     rcases Bb x.b with hb | hb | hb | hb | h'
     case inr.inr.inr.inr=>rw [hlb] at h';cases h'
     all_goals
      rw [hcx,hb] at qf qw1
      rw [hb] at hn2 hlt
      simp only [A4.get,show ((1:Int)=0)=False by decide,show ((2:Int)=0)=False by decide,show ((2:Int)=1)=False by decide,show ((3:Int)=0)=False by decide,show ((3:Int)=1)=False by decide,show ((3:Int)=2)=False by decide,if_true,if_false] at hn2 hlt
      refine Ac rfl 0 (by rfl) ?_
      delta c64
      cases pf
      all_goals
       simp +contextual -dsimp -implicitDefEqProofs (maxSteps:=5000000) only [qn,qc,qf,qg1,qw1,hn2,hlt,hb,hcx,l4,f2,hpc,hs,e1,e2,e4,e5,List.length_set,p1,p2,p3,z0,hp,hi,hk,go_sem,simprocAttr]
       rcases Bb x.a with ha | ha | ha | ha | h'
       case inr.inr.inr.inr=>rw [hra] at h';cases h'
       all_goals
        simp only [ha,A4.set,show ((1:Int)=0)=False by decide,show ((2:Int)=0)=False by decide,show ((2:Int)=1)=False by decide,show ((3:Int)=0)=False by decide,show ((3:Int)=1)=False by decide,show ((3:Int)=2)=False by decide,if_true,if_false] at ql
        simp +contextual -dsimp -implicitDefEqProofs (maxSteps:=5000000) only [ql,hb,ha,hcx,l4,f2,hpc,hs,e1,e2,e4,e5,List.length_set,p1,p2,p3,z0,hp,hi,hk,go_sem,simprocAttr]
    ·rw [Pe hcur hc hu hfw hgw2 hgl]
     generalize By m k 3=T at qa ⊢
     by_cases hl0:wd.lock=0
     ·have f2:decide (wd.lock=0)=true:=by simpa using hl0
      have hg1:(BU m.words s.reads s.id).1=false:=by
       cases h:(BU m.words s.reads s.id).1
       ·rfl
       ·exact absurd ⟨h,hl0⟩ hgl
      have qg1:∀ pa pb,_:=fun pa pb=>(qg pa pb).trans (by rw [show (BU ⟨m.words.a0,m.words.a1,m.words.a2,m.words.a3⟩ s.reads s.id)=(false,(BU m.words s.reads s.id).2) from Prod.ext hg1 rfl])
      rcases Bb x.b with hb | hb | hb | hb | h'
      case inr.inr.inr.inr=>rw [hlb] at h';cases h'
      all_goals
       rw [hcx,hb] at qf
       rw [hb] at hn2 hlt
       simp only [A4.get,show ((1:Int)=0)=False by decide,show ((2:Int)=0)=False by decide,show ((2:Int)=1)=False by decide,show ((3:Int)=0)=False by decide,show ((3:Int)=1)=False by decide,show ((3:Int)=2)=False by decide,if_true,if_false] at hn2 hlt
       refine Ac rfl 0 (by rfl) ?_
       delta c64
       cases pf<;>simp +contextual -dsimp -implicitDefEqProofs (maxSteps:=5000000) only [qn,qc,qa,qf,qg1,hn2,hlt,hb,hcx,l4,f2,hpc,hs,e1,e2,e4,e5,List.length_set,p1,p2,p3,z0,hp,hi,hk,go_sem,simprocAttr]
     ·have f2:decide (wd.lock=0)=false:=by simpa using hl0
      rcases Bb x.b with hb | hb | hb | hb | h'
      case inr.inr.inr.inr=>rw [hlb] at h';cases h'
      all_goals
       rw [hcx,hb] at qf
       rw [hb] at hn2 hlt
       simp only [A4.get,show ((1:Int)=0)=False by decide,show ((2:Int)=0)=False by decide,show ((2:Int)=1)=False by decide,show ((3:Int)=0)=False by decide,show ((3:Int)=1)=False by decide,show ((3:Int)=2)=False by decide,if_true,if_false] at hn2 hlt
       refine Ac rfl 0 (by rfl) ?_
       delta c64
       cases pf<;>simp +contextual -dsimp -implicitDefEqProofs (maxSteps:=5000000) only [qn,qc,qa,qf,qg,hn2,hlt,hb,hcx,l4,f2,hpc,hs,e1,e2,e4,e5,List.length_set,p1,p2,p3,z0,hp,hi,hk,go_sem,simprocAttr]
   ·rw [Pc hcur hc hu hfw]
    have ql:=JH (i+8) (AA m k (Cp s x s.reads v)) k _ (LU hs) 0 v
    rw [show (Cp s x s.reads v).id=s.id from rfl,show (Cp s x s.reads v).label=s.label from rfl] at ql
    generalize AT (AA m k (Cp s x s.reads v)) ⟨s.id,s.label,0,v⟩=T at ql ⊢
    simp only [Cp,Nat.add_assoc,Nat.reduceAdd,oM,cO,oWs,oSs,oEs,AA,List.map_set,oS,hp] at ql
    rcases Bb x.a with ha | ha | ha | ha | h'
    case inr.inr.inr.inr=>rw [hra] at h';cases h'
    all_goals
     simp only [ha,A4.set,show ((1:Int)=0)=False by decide,show ((2:Int)=0)=False by decide,show ((2:Int)=1)=False by decide,show ((3:Int)=0)=False by decide,show ((3:Int)=1)=False by decide,show ((3:Int)=2)=False by decide,if_true,if_false] at ql
     refine Ac rfl 0 (by rfl) ?_
     delta c64
     cases pf<;>simp +contextual -dsimp -implicitDefEqProofs (maxSteps:=5000000) only [qn,qc,ql,qf,ha,l4,hpc,hs,e1,e2,e4,e5,List.length_set,p1,p2,p3,z0,hp,hi,hk,go_sem,simprocAttr]
end Ve
