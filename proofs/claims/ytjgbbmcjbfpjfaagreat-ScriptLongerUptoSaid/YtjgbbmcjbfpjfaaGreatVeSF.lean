/- The program's look at a session's step. -/
import Derived.Test.YtjgbbmcjbfpjfaaGreatS27
import Derived.Test.YtjgbbmcjbfpjfaaGreatVeSC
import Derived.Test.YtjgbbmcjbfpjfaaGreatVeSD
import Derived.Test.YtjgbbmcjbfpjfaaGreatVeP
set_option linter.all false
set_option linter.unusedSectionVars false
namespace Ve
open Go Ve.Ab
set_option maxHeartbeats 16000000
set_option maxRecDepth 10000
theorem gO (i:Nat) (p pf:Bool) (m:Ad) (at_ st:Int) (hm:SmM m):Aa (Lv ctx (i+21)) 197 [.ip p (cM pf m) 0,iV at_,iV st]=some (bV (Gt m at_ st).isSome):=by
 have h1:=HT (i+0) p pf m at_ hm
 simp only [Nat.add_assoc,Nat.reduceAdd] at h1
 cases Ia m at_ st with
 | no h =>
  rw [EQ h]
  refine Ac rfl 0 (by rfl) ?_
  delta oI
  simp +contextual -dsimp -implicitDefEqProofs (maxSteps:=5000000) only [h1,h,Option.isSome_none,go_sem,simprocAttr]
 | off k s e0 hs hM hS hst =>
  subst e0
  rw [CY hs hM hst]
  have hh:=Bs hs hM
  have hk:=Ax hs
  have e1:(0≤(k:Int))=True:=by simp
  have e2:((k:Int)<(m.sess.length:Int))=True:=by simpa using hk
  have z0:decide (s.step=st)=false:=by simpa using hst
  refine Ac rfl 0 (by rfl) ?_
  delta oI
  simp +contextual -dsimp -implicitDefEqProofs (maxSteps:=5000000) only [h1,hh,hs,e1,e2,z0,Option.isSome_none,go_sem,simprocAttr]
 | fin k s e0 hs hM hS hst hp =>
  subst e0
  rw [Ct hs hM hst]
  have hh:=Bs hs hM
  have hk:=Ax hs
  have e1:(0≤(k:Int))=True:=by simp
  have e2:((k:Int)<(m.sess.length:Int))=True:=by simpa using hk
  have z0:decide (s.step=st)=true:=by simpa using hst
  refine Ac rfl 0 (by rfl) ?_
  delta oI
  simp +contextual -dsimp -implicitDefEqProofs (maxSteps:=5000000) only [h1,hh,hs,e1,e2,z0,Option.isSome_some,go_sem,simprocAttr]
 | on k n s w e0 hs hM hS hst hp hn hi =>
  subst e0
  rw [Ct hs hM hst]
  have hh:=Bs hs hM
  have hk:=Ax hs
  have e1:(0≤(k:Int))=True:=by simp
  have e2:((k:Int)<(m.sess.length:Int))=True:=by simpa using hk
  have z0:decide (s.step=st)=true:=by simpa using hst
  refine Ac rfl 0 (by rfl) ?_
  delta oI
  simp +contextual -dsimp -implicitDefEqProofs (maxSteps:=5000000) only [h1,hh,hs,e1,e2,z0,Option.isSome_some,go_sem,simprocAttr]
end Ve
namespace Ve
open Go Ve.Ab
set_option maxHeartbeats 16000000
set_option maxRecDepth 10000
theorem IC (m:Ad) (at_ st:Int):(BT m at_=false∧Gt m at_ st=none)∨(∃ (k:Nat) (s:Ai),at_=(k:Nat)∧m.sess[k]?=some s∧Bt m∧SP m.words s∧s.step≠st∧BT m at_=true∧Gt m at_ st=none)∨∃ (k:Nat) (s:Ai),at_=(k:Nat)∧m.sess[k]?=some s∧Bt m∧SP m.words s∧s.step=st∧BT m at_=true∧Gt m at_ st=some s:=by
 rcases FK m at_ with h | ⟨k,s,e,hs,hM,hS⟩
 ·exact .inl ⟨h,EQ h⟩
 ·subst e
  by_cases hst:s.step=st
  ·exact .inr (.inr ⟨k,s,rfl,hs,hM,hS,hst,Bs hs hM,Ct hs hM hst⟩)
  ·exact .inr (.inl ⟨k,s,rfl,hs,hM,hS,hst,Bs hs hM,CY hs hM hst⟩)
theorem KE {m:Ad} {at_:Int} (h:Gt m at_ 2=none):Do m at_=(Az,1900):=by unfold Do;rw [h]
theorem Qc {m:Ad} {at_:Int} {s:Ai} (h:Gt m at_ 2=some s) (hc:m.ceil≤m.clocks.get s.label):Do m at_=CX m at_ 5 0:=by unfold Do;rw [h];simp only [hc,if_true]
theorem Tk {m:Ad} {at_:Int} {s:Ai} (h:Gt m at_ 2=some s) (hc:¬ m.ceil≤m.clocks.get s.label):Do m at_=(AE { m with clocks:=m.clocks.set s.label (m.clocks.get s.label+1) } at_.toNat { s with stamp:=m.clocks.get s.label+1,step:=3 },0):=by unfold Do;rw [h];simp only [hc,if_false]
theorem Pi {m:Ad} (hM:Bt m):m.clocks.all (fun x=>inR x 65535)=true:=by
 have h1:=hM.clocks
 have h2:=AL.1 hM.ceil
 simp only [A4.all,Bool.and_eq_true,AL] at h1 ⊢
 omega
theorem TU {m:Ad} (hM:Bt m) {l:Int} (hl:inR l 3=true) (hc:m.ceil≤m.clocks.get l):CE m.clocks l m.ceil=(DD,0,501):=by
 unfold CE;rw [Pi hM,hM.ceil,hl];simp only [Bool.and_self,if_true,hc]
theorem next_ok {m:Ad} (hM:Bt m) {l:Int} (hl:inR l 3=true) (hc:¬ m.ceil≤m.clocks.get l):CE m.clocks l m.ceil=(m.clocks.set l (m.clocks.get l+1),m.clocks.get l+1,0):=by
 unfold CE;rw [Pi hM,hM.ceil,hl];simp only [Bool.and_self,if_true,hc,if_false]
theorem rS (i:Nat) (pf:Bool) (m:Ad) (hm:SmM m) (at_:Int):Aa (Lv ctx (i+10)) 109 [eM pf m,iV at_]=some (.tup [oM (Do m at_).1,iV (Do m at_).2]):=by
 have qh:=HM (i+1) pf m at_ hm
 have qc:=FH (i+7) pf m hm
 have qe:=Qm (i+0) pf m hm at_ 5 0
 rcases IC m at_ 2 with ⟨h,h'⟩ | ⟨k,s,rfl,hs,hM,hS,hst,h,h'⟩ | ⟨k,s,rfl,hs,hM,hS,hst,h,h'⟩
 ·rw [KE h',Ay]
  rw [h] at qh
  simp only [Nat.add_assoc,Nat.reduceAdd] at qh
  refine Ac rfl 0 (by rfl) ?_
  delta oR
  cases pf<;>simp +contextual -dsimp -implicitDefEqProofs (maxSteps:=5000000) only [qh,go_sem,simprocAttr]
 all_goals
  rw [h] at qh
  have hk:=Ax hs
  have e1:(0≤(k:Int))=True:=by simp
  have e2:((k:Int)<(m.sess.length:Int))=True:=by simpa using hk
  have e3:∀ x,((m.sess.map oS).set k x)[k]?=some x:=fun x=>List.getElem?_set_self (by simpa using hk)
  have e4:∀ x y,((m.sess.map oS).set k x).set k y=(m.sess.map oS).set k y:=fun x y=>List.set_set ..
 ·rw [KE h',Ay]
  have z0:decide (s.step=2)=false:=by simpa using hst
  simp only [Nat.add_assoc,Nat.reduceAdd] at qh
  refine Ac rfl 0 (by rfl) ?_
  delta oR
  cases pf<;>simp +contextual -dsimp -implicitDefEqProofs (maxSteps:=5000000) only [qh,hs,e1,e2,z0,go_sem,simprocAttr]
 ·have z0:decide (s.step=2)=true:=by simpa using hst
  have qn:=a3k (i+6) m.clocks.a0 m.clocks.a1 m.clocks.a2 m.clocks.a3 s.label m.ceil
  rw [show (⟨m.clocks.a0,m.clocks.a1,m.clocks.a2,m.clocks.a3⟩:A4 Int)=m.clocks from rfl] at qn
  by_cases hc:m.ceil≤m.clocks.get s.label
  ·rw [Qc h' hc]
   rw [TU hM hS.label hc] at qn
   simp only [Nat.add_assoc,Nat.reduceAdd,e4,DD] at qh qe qn
   generalize CX m k 5 0=r at qe ⊢
   refine Ac rfl 0 (by rfl) ?_
   delta oR
   cases pf<;>simp +contextual -dsimp -implicitDefEqProofs (maxSteps:=5000000) only [qh,qn,qe,hs,e1,e2,z0,go_sem,simprocAttr]
  ·rw [Tk h' hc]
   rw [next_ok hM hS.label hc] at qn
   generalize m.clocks.set s.label (m.clocks.get s.label+1)=cs at qn ⊢
   generalize m.clocks.get s.label+1=sp at qn ⊢
   simp only [Nat.add_assoc,Nat.reduceAdd,e4] at qh qc qn
   simp only [AE,Int.toNat_natCast,oM,cO,oWs,oSs,oEs,List.map_set,oS]
   refine Ac rfl 0 (by rfl) ?_
   delta oR
   cases pf<;>simp +contextual -dsimp -implicitDefEqProofs (maxSteps:=5000000) only [qh,qn,qc,hs,e1,e2,e3,e4,z0,List.length_set,hk,go_sem,simprocAttr]
theorem KO {m:Ad} {at_:Int} (h:Gt m at_ 3=none):Dr m at_=(Az,2000):=by unfold Dr;rw [h]
theorem UQ {m:Ad} {at_:Int} {s:Ai} (h:Gt m at_ 3=some s) (hg:(Cn m.words s.reads s.id).1=false):Dr m at_=BK m at_ 3:=by unfold Dr;rw [h];simp only [hg,Bool.false_eq_true,if_false]
theorem Rb {m:Ad} {at_:Int} {s:Ai} (h:Gt m at_ 3=some s) (hg:(Cn m.words s.reads s.id).1=true) (hw:s.writes=[]):Dr m at_=CX m at_ 1 0:=by unfold Dr;rw [h];simp only [hg,if_true,hw]
theorem UP {m:Ad} {at_:Int} {s:Ai} (h:Gt m at_ 3=some s) (hg:(Cn m.words s.reads s.id).1=true) (hw:¬ s.writes=[]):Dr m at_=(AE m at_.toNat { s with at_:=0,step:=4 },0):=by unfold Dr;rw [h];simp only [hg,if_true,hw,if_false]
theorem rV (i:Nat) (pf:Bool) (m:Ad) (hm:SmM m) (at_:Int):Aa (Lv ctx (i+10)) 110 [eM pf m,iV at_]=some (.tup [oM (Dr m at_).1,iV (Dr m at_).2]):=by
 have qh:=HM (i+1) pf m at_ hm
 have qc:=FH (i+7) pf m hm
 have qe:=Qm (i+0) pf m hm at_ 1 0
 have qa:=NI (i+0) pf m hm at_ 3
 rcases IC m at_ 3 with ⟨h,h'⟩ | ⟨k,s,rfl,hs,hM,hS,hst,h,h'⟩ | ⟨k,s,rfl,hs,hM,hS,hst,h,h'⟩
 ·rw [KO h',Ay]
  rw [h] at qh
  simp only [Nat.add_assoc,Nat.reduceAdd] at qh
  refine Ac rfl 0 (by rfl) ?_
  delta eF
  cases pf<;>simp +contextual -dsimp -implicitDefEqProofs (maxSteps:=5000000) only [qh,go_sem,simprocAttr]
 all_goals
  rw [h] at qh
  have hk:=Ax hs
  have e1:(0≤(k:Int))=True:=by simp
  have e2:((k:Int)<(m.sess.length:Int))=True:=by simpa using hk
  have e3:∀ x,((m.sess.map oS).set k x)[k]?=some x:=fun x=>List.getElem?_set_self (by simpa using hk)
  have e4:∀ x y,((m.sess.map oS).set k x).set k y=(m.sess.map oS).set k y:=fun x y=>List.set_set ..
 ·rw [KO h',Ay]
  have z0:decide (s.step=3)=false:=by simpa using hst
  simp only [Nat.add_assoc,Nat.reduceAdd] at qh
  refine Ac rfl 0 (by rfl) ?_
  delta eF
  cases pf<;>simp +contextual -dsimp -implicitDefEqProofs (maxSteps:=5000000) only [qh,hs,e1,e2,z0,go_sem,simprocAttr]
 ·have z0:decide (s.step=3)=true:=by simpa using hst
  have hsm:=hm.s s (List.mem_of_getElem? hs)
  have qg:=iD (i+4) pf pf pf pf false false false false m.words.a0 m.words.a1 m.words.a2 m.words.a3 hm.w0 hm.w1 hm.w2 hm.w3 pf false s.reads (by have:=hsm.br;simp only [BB];omega) s.id
  rw [show (⟨m.words.a0,m.words.a1,m.words.a2,m.words.a3⟩:A4 (List Ap))=m.words from rfl] at qg
  cases hg:(Cn m.words s.reads s.id).1
  ·rw [UQ h' hg]
   rw [hg] at qg
   simp only [Nat.add_assoc,Nat.reduceAdd] at qh qa qg
   generalize BK m k 3=r at qa ⊢
   refine Ac rfl 0 (by rfl) ?_
   delta eF
   cases pf<;>simp +contextual -dsimp -implicitDefEqProofs (maxSteps:=5000000) only [qh,qg,qa,hs,e1,e2,z0,go_sem,simprocAttr]
  ·rw [hg] at qg
   by_cases hw:s.writes=[]
   ·rw [Rb h' hg hw]
    have z1:decide ((s.writes.length:Int)=0)=true:=by rw [hw];rfl
    simp only [Nat.add_assoc,Nat.reduceAdd] at qh qe qg
    generalize CX m k 1 0=r at qe ⊢
    refine Ac rfl 0 (by rfl) ?_
    delta eF
    cases pf<;>simp +contextual -dsimp -implicitDefEqProofs (maxSteps:=5000000) only [qh,qg,qe,hs,e1,e2,z0,z1,go_sem,simprocAttr]
   ·rw [UP h' hg hw]
    have z1:decide ((s.writes.length:Int)=0)=false:=by
     have:=List.length_pos_iff.2 hw
     simp;omega
    simp only [Nat.add_assoc,Nat.reduceAdd] at qh qc qg
    simp only [AE,Int.toNat_natCast,oM,cO,oWs,oSs,oEs,List.map_set,oS]
    refine Ac rfl 0 (by rfl) ?_
    delta eF
    cases pf<;>simp +contextual -dsimp -implicitDefEqProofs (maxSteps:=5000000) only [qh,qg,qc,hs,e1,e2,e3,e4,z0,z1,List.length_set,hk,go_sem,simprocAttr]
end Ve
namespace Ve
open Go Ve.Ab
set_option maxHeartbeats 16000000
set_option maxRecDepth 10000
abbrev cW (pf:Bool) (ws:A4 (List Ap)):List V:=[eWs pf ws.a0,eWs pf ws.a1,eWs pf ws.a2,eWs pf ws.a3]
def fW (ws:A4 (List Ap)) (r:AN):Ap:=BN ws r.level r.index
def EA (ws:A4 (List Ap)) (xs:List AN):List Ap × Bool:=if (AT ws&&AQ xs&&AJ ws xs)=true then (xs.map (fW ws),true) else ([],false)
theorem TZ (i k:Nat) (p pf p2 nn:Bool) (ws:A4 (List Ap)) (xs:List AN) (hx:xs.length≤16) (q:Out→St→Option Ans) (Q:V→Hp→Nat→Prop)
  (u:Dum (fun s q=>evC ctx (Lv ctx (i+7)) (Aa (Lv ctx (i+7))) k IE s (Al [0,6,19,20,21] q))) (w:Dum q)
  (hend:AJ ws xs=true→Fin (q (.exit 0) ⟨Ae [6] [.sl 0],pO Af 0 (some ⟨3,(xs.map (fW ws)).map eW,false⟩),1⟩) Q)
  (hbad:∀ h n,AJ ws xs=false→Fin (q .ret ⟨Ae [4,5] [nilV,bV false],h,n⟩) Q) :
  ∀ (suf pre:List AN) (kk:Nat),xs=pre++suf→suf.length<kk→(∀ r∈pre,Bb ws r.level r.index=true) →
  GL 0 [0,6,19,20,21] (fun s q=>evC ctx (Lv ctx (i+7)) (Aa (Lv ctx (i+7))) k IE s (Al [0,6,19,20,21] q)) q kk ⟨Ae [0,6,19,20,21] [.ip p (cW pf ws) 0,.sl 0,.isl p2 nn 3 (xs.map eR),iV xs.length,iV pre.length],pO Af 0 (some ⟨3,(pre.map (fW ws)).map eW,false⟩),1⟩ Q u w
 | [],pre,kk,hxs,hk,hall=>by
  obtain ⟨kk,rfl⟩:∃ m,kk=m+1:=⟨kk - 1,by simp at hk;omega⟩
  have h1:decide ((pre.length:Int)<xs.length)=false:=by simp [hxs]
  have h2:xs=pre:=by simp [hxs]
  have he:=hend (by rw [h2,AJ,List.all_eq_true];exact hall)
  rw [h2] at he
  simp +contextual -dsimp -implicitDefEqProofs (maxSteps:=5000000) only [gLs,↓Ah (IE.eq_1),h1,go_sem,simprocAttr]
  exact he
 | a::suf,pre,kk,hxs,hk,hall=>by
  obtain ⟨kk,rfl⟩:∃ m,kk=m+1:=⟨kk - 1,by simp at hk;omega⟩
  have hl:pre.length<xs.length:=by simp [hxs]
  have h2:((pre.length:Int)<xs.length)=True:=by simpa using hl
  have h3:(0≤(pre.length:Int))=True:=by simp
  have h4:=wrN pre.length (by simp only [BB];omega)
  have hg:xs[pre.length]?=some a:=by simp [hxs]
  have h5:(((pre.length+1:Nat):Int)*24≤140737488355328)=True:=by simp only [eq_iff_iff,iff_true];omega
  cases hb:Bb ws a.level a.index
  ·have he:AJ ws xs=false:=by rw [AJ,List.all_eq_false];exact ⟨a,by simp [hxs],by simp [hb]⟩
   simp +contextual -dsimp -implicitDefEqProofs (maxSteps:=5000000) only [gLs,↓Ah (IE.eq_1),h2,h3,hg,hb,go_sem,simprocAttr]
   exact hbad _ _ he
  ·have ih:=TZ i k p pf p2 nn ws xs hx q Q u w hend hbad suf (pre++[a]) kk (by simp [hxs]) (by simpa using hk) (by
    intro r hr
    rcases List.mem_append.1 hr with h | h
    ·exact hall r h
    ·simp only [List.mem_singleton] at h;subst h;exact hb)
   have hlb:=FB hb
   obtain ⟨lv,ix,vr⟩:=a
   obtain ⟨n,g,rfl,hgw,hge,hln⟩:=EU hb
   have l4:(0≤(n:Int))=True:=by simp
   simp only [Ag,List.map_append,List.map_cons,List.map_nil,fW,hge,eW] at ih
   rcases Fm hlb with h | h | h | h
   all_goals
    simp only at h
    subst h
    simp only [A4.get,simprocAttr] at hgw hln
    have hln':=eq_true hln
    simp +contextual -dsimp -implicitDefEqProofs (maxSteps:=5000000) only [gLs,↓Ah (IE.eq_1),h2,h3,h4,h5,hg,hb,hgw,hln',l4,go_sem,simprocAttr]
    exact (AA (by rfl)).mpr ih
theorem Za (i:Nat) (p pf p2 nn:Bool) (ws:A4 (List Ap)) (xs:List AN) (hx:xs.length≤BB):Aa (Lv ctx (i+8)) 223 [.ip p (cW pf ws) 0,.isl p2 nn 3 (xs.map eR)]=some (.tup [oWs (EA ws xs).1,bV (EA ws xs).2]):=by
 have q2:=ND (i+2+1) p2 nn xs hx
 simp only [Nat.add_assoc,Nat.reduceAdd] at q2
 have no:(AT ws&&AQ xs&&AJ ws xs)=false→EA ws xs=([],false):=by intro h;unfold EA;rw [h];rfl
 cases hc:(AT ws&&AQ xs)
 ·rw [no (by rw [hc];rfl)]
  refine Ac rfl 0 (by rfl) ?_
  delta oH
  simp +contextual -dsimp -implicitDefEqProofs (maxSteps:=5000000) only [q2,nn2,hc,List.map_nil,go_sem,simprocAttr]
  rfl
 ·obtain ⟨ha,hr⟩:=(Bool.and_eq_true _ _).mp hc
  have hl:xs.length≤16:=by simp only [AQ,Bool.and_eq_true,decide_eq_true_eq] at hr;exact hr.2
  have yes:AJ ws xs=true→EA ws xs=(xs.map (fW ws),true):=by intro h;unfold EA;rw [hc,h];rfl
  cases xs with
  | nil =>
   rw [yes rfl]
   simp only [List.map_nil] at q2
   refine Ac rfl 3 (by rfl) ?_
   delta oH
   simp +contextual -dsimp -implicitDefEqProofs (maxSteps:=5000000) only [q2,ha,hr,gLs,↓Ah (IE.eq_1),List.map_nil,List.length_nil,go_sem,simprocAttr]
   rfl
  | cons a suf =>
   simp only [List.map_cons,eR] at q2
   obtain ⟨K,hK⟩:∃ K,K=suf.length+2:=⟨_,rfl⟩
   have key:=fun q Q u w h1 h2=>TZ i (K+1) p pf p2 nn ws (a::suf) hl q Q u w h1 h2 suf [a] K rfl (by omega)
   cases hb:Bb ws a.level a.index
   ·have he:AJ ws (a::suf)=false:=by rw [AJ,List.all_eq_false];exact ⟨a,by simp,by simp [hb]⟩
    rw [no (by rw [hc,he];rfl)]
    have z1:((0:Int)<(((suf.length+1:Nat)):Int))=True:=by simp only [eq_iff_iff,iff_true];omega
    refine Ac rfl (K+1) (by rfl) ?_
    delta oH
    simp +contextual -dsimp -implicitDefEqProofs (maxSteps:=5000000) only [q2,ha,hr,hb,z1,gLs,↓Ah (IE.eq_1),List.map_nil,List.map_cons,List.length_cons,go_sem,simprocAttr]
    rfl
   ·have z1:((0:Int)<(((suf.length+1:Nat)):Int))=True:=by simp only [eq_iff_iff,iff_true];omega
    have hlb:=FB hb
    obtain ⟨lv,ix,vr⟩:=a
    obtain ⟨n,g,rfl,hgw,hge,hln⟩:=EU hb
    have l4:(0≤(n:Int))=True:=by simp
    simp only [List.length_singleton,List.map_cons,List.map_nil,fW,hge,eW,List.mem_singleton,forall_eq,hb,true_implies] at key
    rcases Fm hlb with h | h | h | h
    all_goals
     simp only at h
     subst h
     simp only [A4.get,simprocAttr] at hgw hln
     have hln':=eq_true hln
     refine Ac rfl (K+1) (by rfl) ?_
     delta oH
     simp +contextual -dsimp -implicitDefEqProofs (maxSteps:=5000000) only [q2,ha,hr,hb,z1,hgw,hln',l4,gLs,↓Ah (IE.eq_1),List.map_cons,List.map_nil,List.length_cons,go_sem,simprocAttr]
     refine DW (key _ _ ⟨⟩ ⟨⟩ ?ha ?hb) (by rfl)
     case ha=>intro he;rw [yes he];simp only [List.map_cons,fW,hge];simp +contextual -dsimp -implicitDefEqProofs (maxSteps:=5000000) only [List.map_cons,go_sem,simprocAttr];rfl
     case hb=>intro h n he;rw [no (by rw [hc,he];rfl)];simp +contextual -dsimp -implicitDefEqProofs (maxSteps:=5000000) only [List.map_nil,go_sem,simprocAttr];rfl
theorem gQ (i:Nat) (pf p2:Bool) (ws:A4 (List Ap)) (xs:List AN) (hx:xs.length≤BB) (id:Int):Aa (Lv ctx (i+9)) 202 [.agg (cW pf ws),.isl p2 false 3 (xs.map eR),iV id]=some (.tup [bV (Cn ws xs id).1,iV (Cn ws xs id).2]):=by
 have qw:=fun p=>Za i p pf p2 false ws xs hx
 cases hc:(AT ws&&AQ xs&&AJ ws xs&&inR id 254)
 ·have e:Cn ws xs id=(false,900):=by unfold Cn;rw [hc];rfl
  rw [e]
  cases hd:(AT ws&&AQ xs&&AJ ws xs)
  ·have e2:EA ws xs=([],false):=by unfold EA;rw [hd];rfl
   rw [e2] at qw
   refine Ac rfl 0 (by rfl) ?_
   delta vN
   cases pf<;>simp +contextual -dsimp -implicitDefEqProofs (maxSteps:=5000000) only [qw,List.map_nil,go_sem,simprocAttr]
  ·have e2:EA ws xs=(xs.map (fW ws),true):=by unfold EA;rw [hd];rfl
   have hi:inR id 254=false:=by rw [hd] at hc;simpa using hc
   rw [e2] at qw
   refine Ac rfl 0 (by rfl) ?_
   delta vN
   cases pf<;>simp +contextual -dsimp -implicitDefEqProofs (maxSteps:=5000000) only [qw,hi,go_sem,simprocAttr]
 ·have hcc:=hc
  simp only [Bool.and_eq_true] at hcc
  have hl:xs.length≤16:=by have:=hcc.1.1.2;simp only [AQ,Bool.and_eq_true,decide_eq_true_eq] at this;exact this.2
  have hi:=hcc.2
  have hw:=EL (c:=254) hi (by omega)
  have e:Cn ws xs id=(xs.all (Cy ws id),0):=by unfold Cn;rw [hc];rfl
  have e2:EA ws xs=(xs.map (fW ws),true):=by
   have:(AT ws&&AQ xs&&AJ ws xs)=true:=((Bool.and_eq_true _ _).mp hc).1
   unfold EA;rw [this];rfl
  rw [e]
  rw [e2] at qw
  refine Ac rfl (xs.length+1) (by rfl) ?_
  delta vN
  have key:∀ (q:Out→St→Option Ans) (Q:V→Hp→Nat→Prop) (u:Dum (fun s q=>evC ctx (Lv ctx (i+8)) (Aa (Lv ctx (i+8))) (xs.length+1) JL s (Al [1,2,24,25,26] q))) (w:Dum q),
    (xs.all (Cy ws id)=true→Fin (q (.exit 0) ⟨Ae [] [],pO Af 0 (some ⟨3,(xs.map (fW ws)).map eW,false⟩),1⟩) Q)→(∀ h n,xs.all (Cy ws id)=false→Fin (q .ret ⟨Ae [6,7] [bV false,iV 0],h,n⟩) Q) →
    GL 1 [1,2,24,25,26] (fun s q=>evC ctx (Lv ctx (i+8)) (Aa (Lv ctx (i+8))) (xs.length+1) JL s (Al [1,2,24,25,26] q)) q (xs.length+1) ⟨Ae [1,2,24,25,26] [.isl p2 false 3 (xs.map eR),iV id,.sl 0,iV xs.length,iV 0],pO Af 0 (some ⟨3,(xs.map (fW ws)).map eW,false⟩),1⟩ Q u w:=by
   intro q Q u w hend hbad
   refine Iz (S:=fun j=>⟨Ae [1,2,24,25,26] [.isl p2 false 3 (xs.map eR),iV id,.sl 0,iV xs.length,iV j],pO Af 0 (some ⟨3,(xs.map (fW ws)).map eW,false⟩),1⟩) xs.length (fun j=>Cy ws id (xs.getD j ⟨0,0,0⟩)) rfl (by omega) ?_ ?_ ?_
   ·intro j kk hj hgd hl
    have hxj:xs[j]?=some (xs.getD j ⟨0,0,0⟩):=by simp [List.getD_eq_getElem?_getD,hj]
    generalize xs.getD j ⟨0,0,0⟩=x at hxj hgd
    obtain ⟨g,hg⟩:∃ g,fW ws x=g:=⟨_,rfl⟩
    have hgd':(decide (g.ver=x.ver)&&(decide (g.lock=0)||decide (g.lock=id+1)))=true:=by rw [← hg];exact hgd
    simp only [Bool.and_eq_true] at hgd'
    have l1:((j:Int)<(xs.length:Int))=True:=by simpa using hj
    have l2:(0≤(j:Int))=True:=by simp
    have l3:=wrN j (by simp only [BB];omega)
    have f1:=hgd'.1
    cases f2:decide (g.lock=0)
    ·have f3:decide (g.lock=id+1)=true:=by rw [f2] at hgd';simpa using hgd'.2
     simp +contextual -dsimp -implicitDefEqProofs (maxSteps:=5000000) only [l1,l2,l3,hxj,hg,f1,f2,f3,hw,↓Ah (JL.eq_1),go_sem,simprocAttr]
     exact DW hl (by rfl)
    ·simp +contextual -dsimp -implicitDefEqProofs (maxSteps:=5000000) only [l1,l2,l3,hxj,hg,f1,f2,hw,↓Ah (JL.eq_1),go_sem,simprocAttr]
     exact DW hl (by rfl)
   ·intro j kk hj hgd _
    have hxj:xs[j]?=some (xs.getD j ⟨0,0,0⟩):=by simp [List.getD_eq_getElem?_getD,hj]
    generalize xs.getD j ⟨0,0,0⟩=x at hxj hgd
    have hf:xs.all (Cy ws id)=false:=Im _ hxj hgd
    obtain ⟨g,hg⟩:∃ g,fW ws x=g:=⟨_,rfl⟩
    have hgd':(decide (g.ver=x.ver)&&(decide (g.lock=0)||decide (g.lock=id+1)))=false:=by rw [← hg];exact hgd
    have l1:((j:Int)<(xs.length:Int))=True:=by simpa using hj
    have l2:(0≤(j:Int))=True:=by simp
    cases f1:decide (g.ver=x.ver)
    ·simp +contextual -dsimp -implicitDefEqProofs (maxSteps:=5000000) only [l1,l2,hxj,hg,f1,hw,↓Ah (JL.eq_1),go_sem,simprocAttr]
     exact hbad _ _ hf
    ·rw [f1] at hgd'
     simp only [Bool.true_and,Bool.or_eq_false_iff] at hgd'
     simp +contextual -dsimp -implicitDefEqProofs (maxSteps:=5000000) only [l1,l2,hxj,hg,f1,hgd'.1,hgd'.2,hw,↓Ah (JL.eq_1),go_sem,simprocAttr]
     exact hbad _ _ hf
   ·intro kk hall
    have l0:decide ((xs.length:Int)<(xs.length:Int))=false:=by simp
    simp +contextual -dsimp -implicitDefEqProofs (maxSteps:=5000000) only [l0,↓Ah (JL.eq_1),go_sem,simprocAttr]
    exact hend (Il _ ⟨0,0,0⟩ _ hall)
  cases pf
  all_goals
   simp +contextual -dsimp -implicitDefEqProofs (maxSteps:=5000000) only [qw,hi,List.length_map,go_sem,simprocAttr]
   refine key _ _ _ _ (fun h=>?_) (fun _ _ h=>?_)
   ·rw [h];simp +contextual -dsimp -implicitDefEqProofs (maxSteps:=5000000) only [go_sem,simprocAttr]
   ·rw [h];simp +contextual -dsimp -implicitDefEqProofs (maxSteps:=5000000) only [go_sem,simprocAttr]
end Ve
namespace Ve
open Go Ve.Ab
set_option maxHeartbeats 16000000
set_option maxRecDepth 10000
theorem qV (i:Nat) (pf:Bool) (m:Ad) (hm:SmM m) (at_:Int):Aa (Lv ctx (i+22)) 166 [eM pf m,iV at_]=some (.tup [oM (Dr m at_).1,iV (Dr m at_).2]):=by
 have ql:=gO (i+0) pf pf m at_ 3 hm
 have qc:=Dz (i+18) pf m hm
 have qe:=Tx (i+0) pf m hm at_ 1 0
 have qa:=NE (i+0) pf m hm at_ 3
 rcases IC m at_ 3 with ⟨h,h'⟩ | ⟨k,s,rfl,hs,hM,hS,hst,h,h'⟩ | ⟨k,s,rfl,hs,hM,hS,hst,h,h'⟩
 case inr.inr =>
  rw [h'] at ql
  have hk:=Ax hs
  have e1:(0≤(k:Int))=True:=by simp
  have e2:((k:Int)<(m.sess.length:Int))=True:=by simpa using hk
  have e3:∀ x,((m.sess.map oS).set k x)[k]?=some x:=fun x=>List.getElem?_set_self (by simpa using hk)
  have e4:∀ x y,((m.sess.map oS).set k x).set k y=(m.sess.map oS).set k y:=fun x y=>List.set_set ..
  have hsm:=hm.s s (List.mem_of_getElem? hs)
  have qg:=gQ (i+(14 - 2)) pf pf m.words s.reads (by have:=hsm.br;simp only [BB];omega) s.id
  rw [LK hM hS] at qg
  have hg0:=LK hM hS
  cases hg:s.reads.all (Cy m.words s.id)
  ·have hg':(Cn m.words s.reads s.id).1=false:=by rw [hg0];exact hg
   rw [UQ h' hg']
   simp only [hg,Nat.add_assoc,Nat.reduceAdd,Nat.reduceSub,Option.isSome_some] at ql qa qg
   generalize BK m k 3=r at qa ⊢
   refine Ac rfl 0 (by rfl) ?_
   delta oO
   cases pf<;>simp +contextual -dsimp -implicitDefEqProofs (maxSteps:=5000000) only [ql,qg,qa,hs,e1,e2,go_sem,simprocAttr]
  ·have hg':(Cn m.words s.reads s.id).1=true:=by rw [hg0];exact hg
   by_cases hw:s.writes=[]
   ·rw [Rb h' hg' hw]
    have z1:decide ((s.writes.length:Int)=0)=true:=by rw [hw];rfl
    simp only [hg,Nat.add_assoc,Nat.reduceAdd,Nat.reduceSub,Option.isSome_some] at ql qe qg
    generalize CX m k 1 0=r at qe ⊢
    refine Ac rfl 0 (by rfl) ?_
    delta oO
    cases pf<;>simp +contextual -dsimp -implicitDefEqProofs (maxSteps:=5000000) only [ql,qg,qe,hs,e1,e2,z1,go_sem,simprocAttr]
   ·rw [UP h' hg' hw]
    have z1:decide ((s.writes.length:Int)=0)=false:=by
     have:=List.length_pos_iff.2 hw
     simp;omega
    simp only [hg,Nat.add_assoc,Nat.reduceAdd,Nat.reduceSub,Option.isSome_some] at ql qc qg
    simp only [AE,Int.toNat_natCast,oM,cO,oWs,oSs,oEs,List.map_set,oS]
    refine Ac rfl 0 (by rfl) ?_
    delta oO
    cases pf<;>simp +contextual -dsimp -implicitDefEqProofs (maxSteps:=5000000) only [ql,qg,qc,hs,e1,e2,e3,e4,z1,List.length_set,hk,go_sem,simprocAttr]
 all_goals
  rw [KO h',Ay]
  rw [h'] at ql
  simp only [Nat.add_assoc,Nat.reduceAdd,Option.isSome_none] at ql
  refine Ac rfl 0 (by rfl) ?_
  delta oO
  cases pf<;>simp +contextual -dsimp -implicitDefEqProofs (maxSteps:=5000000) only [ql,go_sem,simprocAttr]
end Ve
namespace Ve
open Go Ve.Ab
set_option maxHeartbeats 16000000
set_option maxRecDepth 10000
theorem a2n (i:Nat) (a b c d l k:Int):Aa (Lv ctx (i+4)) 200 [.agg [iV a,iV b,iV c,iV d],iV l,iV k] =
  some (.tup [e4 (CE ⟨a,b,c,d⟩ l k).1,iV (CE ⟨a,b,c,d⟩ l k).2.1,iV (CE ⟨a,b,c,d⟩ l k).2.2]):=by
 have hp:DX 65535 a b c d=(⟨a,b,c,d⟩:A4 Int).all (fun x=>inR x 65535):=rfl
 cases h1:(DX 65535 a b c d&&inR k 65535&&inR l 3)
 ·have e:CE ⟨a,b,c,d⟩ l k=(DD,0,500):=by simp only [CE,← hp,h1];rfl
  rw [e]
  refine Ac rfl 0 (by rfl) ?_
  delta vP
  simp +contextual -dsimp -implicitDefEqProofs (maxSteps:=5000000) only [nn2,h1,DD,go_sem,simprocAttr]
 ·obtain ⟨ha,hl⟩:=(Bool.and_eq_true _ _).mp h1
  have hh:=ha
  simp only [Bool.and_eq_true,DX] at hh
  have wa:=EL hh.1.1.1.1 (by omega)
  have wb:=EL hh.1.1.1.2 (by omega)
  have wc:=EL hh.1.1.2 (by omega)
  have wd:=EL hh.1.2 (by omega)
  have e:CE ⟨a,b,c,d⟩ l k=if k≤(⟨a,b,c,d⟩:A4 Int).get l then (DD,0,501) else ((⟨a,b,c,d⟩:A4 Int).set l ((⟨a,b,c,d⟩:A4 Int).get l+1),(⟨a,b,c,d⟩:A4 Int).get l+1,0):=by
   unfold CE;rw [← hp,h1];rfl
  rw [e]
  clear e hh h1 hp
  rcases Bm l with rfl | rfl | rfl | rfl | hl'
  case inr.inr.inr.inr=>rw [hl] at hl';cases hl'
  all_goals
   simp only [A4.get,A4.set,simprocAttr]
   split
   ·rename_i hf
    have h2:=decide_eq_true hf
    refine Ac rfl 0 (by rfl) ?_
    delta vP
    simp +contextual -dsimp -implicitDefEqProofs (maxSteps:=5000000) only [nn2,ha,h2,DD,go_sem,simprocAttr]
   ·rename_i hf
    have h2:=decide_eq_false hf
    refine Ac rfl 0 (by rfl) ?_
    delta vP
    simp +contextual -dsimp -implicitDefEqProofs (maxSteps:=5000000) only [nn2,ha,h2,wa,wb,wc,wd,go_sem,simprocAttr]
theorem qM (i:Nat) (pf:Bool) (m:Ad) (hm:SmM m) (at_:Int):Aa (Lv ctx (i+22)) 165 [eM pf m,iV at_]=some (.tup [oM (Do m at_).1,iV (Do m at_).2]):=by
 have ql:=gO (i+0) pf pf m at_ 2 hm
 have qc:=Dz (i+18) pf m hm
 have qe:=Tx (i+0) pf m hm at_ 5 0
 rcases IC m at_ 2 with ⟨h,h'⟩ | ⟨k,s,rfl,hs,hM,hS,hst,h,h'⟩ | ⟨k,s,rfl,hs,hM,hS,hst,h,h'⟩
 case inr.inr =>
  rw [h'] at ql
  have hk:=Ax hs
  have e1:(0≤(k:Int))=True:=by simp
  have e2:((k:Int)<(m.sess.length:Int))=True:=by simpa using hk
  have e3:∀ x,((m.sess.map oS).set k x)[k]?=some x:=fun x=>List.getElem?_set_self (by simpa using hk)
  have e4:∀ x y,((m.sess.map oS).set k x).set k y=(m.sess.map oS).set k y:=fun x y=>List.set_set ..
  have qn:=a2n (i+17) m.clocks.a0 m.clocks.a1 m.clocks.a2 m.clocks.a3 s.label m.ceil
  rw [show (⟨m.clocks.a0,m.clocks.a1,m.clocks.a2,m.clocks.a3⟩:A4 Int)=m.clocks from rfl] at qn
  by_cases hc:m.ceil≤m.clocks.get s.label
  ·rw [Qc h' hc]
   rw [TU hM hS.label hc] at qn
   simp only [Nat.add_assoc,Nat.reduceAdd,e4,DD,Option.isSome_some] at ql qe qn
   generalize CX m k 5 0=r at qe ⊢
   refine Ac rfl 0 (by rfl) ?_
   delta vU
   cases pf<;>simp +contextual -dsimp -implicitDefEqProofs (maxSteps:=5000000) only [ql,qn,qe,hs,e1,e2,go_sem,simprocAttr]
  ·rw [Tk h' hc]
   rw [next_ok hM hS.label hc] at qn
   generalize m.clocks.set s.label (m.clocks.get s.label+1)=cs at qn ⊢
   generalize m.clocks.get s.label+1=sp at qn ⊢
   simp only [Nat.add_assoc,Nat.reduceAdd,e4,Option.isSome_some] at ql qc qn
   simp only [AE,Int.toNat_natCast,oM,cO,oWs,oSs,oEs,List.map_set,oS]
   refine Ac rfl 0 (by rfl) ?_
   delta vU
   cases pf<;>simp +contextual -dsimp -implicitDefEqProofs (maxSteps:=5000000) only [ql,qn,qc,hs,e1,e2,e3,e4,List.length_set,hk,go_sem,simprocAttr]
 all_goals
  rw [KE h',Ay]
  rw [h'] at ql
  simp only [Nat.add_assoc,Nat.reduceAdd,Option.isSome_none] at ql
  refine Ac rfl 0 (by rfl) ?_
  delta vU
  cases pf<;>simp +contextual -dsimp -implicitDefEqProofs (maxSteps:=5000000) only [ql,go_sem,simprocAttr]
end Ve
namespace Ve
open Go Ve.Ab
set_option maxHeartbeats 16000000
set_option maxRecDepth 10000
theorem bH (i:Nat) (pf p2:Bool) (ws:A4 (List Ap)) (xs:List AN) (hx:xs.length≤BB):Aa (Lv ctx (i+9)) 206 [.agg (cW pf ws),.isl p2 false 3 (xs.map eR)]=some (.tup [bV (BP ws xs).1,iV (BP ws xs).2]):=by
 have qw:=fun p=>Za i p pf p2 false ws xs hx
 cases hd:(AT ws&&AQ xs&&AJ ws xs)
 ·have e:BP ws xs=(false,900):=by unfold BP;rw [hd];rfl
  rw [e]
  have e2:EA ws xs=([],false):=by unfold EA;rw [hd];rfl
  rw [e2] at qw
  refine Ac rfl 0 (by rfl) ?_
  delta c206
  cases pf<;>simp +contextual -dsimp -implicitDefEqProofs (maxSteps:=5000000) only [qw,List.map_nil,go_sem,simprocAttr]
 ·have hcc:=hd
  simp only [Bool.and_eq_true] at hcc
  have hl:xs.length≤16:=by have:=hcc.1.2;simp only [AQ,Bool.and_eq_true,decide_eq_true_eq] at this;exact this.2
  have e:BP ws xs=(xs.any (Fb ws),0):=by unfold BP;rw [hd];rfl
  have e2:EA ws xs=(xs.map (fW ws),true):=by unfold EA;rw [hd];rfl
  have ea:xs.any (Fb ws)=!(xs.all fun r=>!Fb ws r):=by simp [List.any_eq_not_all_not]
  rw [e,ea]
  rw [e2] at qw
  refine Ac rfl (xs.length+1) (by rfl) ?_
  delta c206
  have key:∀ (q:Out→St→Option Ans) (Q:V→Hp→Nat→Prop) (u:Dum (fun s q=>evC ctx (Lv ctx (i+8)) (Aa (Lv ctx (i+8))) (xs.length+1) MC s (Al [1,17,18,19] q))) (w:Dum q),
    (xs.all (fun r=>!Fb ws r)=true→Fin (q (.exit 0) ⟨Ae [] [],pO Af 0 (some ⟨3,(xs.map (fW ws)).map eW,false⟩),1⟩) Q)→(∀ h n,xs.all (fun r=>!Fb ws r)=false→Fin (q .ret ⟨Ae [4,5] [bV true,iV 0],h,n⟩) Q) →
    GL 1 [1,17,18,19] (fun s q=>evC ctx (Lv ctx (i+8)) (Aa (Lv ctx (i+8))) (xs.length+1) MC s (Al [1,17,18,19] q)) q (xs.length+1) ⟨Ae [1,17,18,19] [.isl p2 false 3 (xs.map eR),.sl 0,iV xs.length,iV 0],pO Af 0 (some ⟨3,(xs.map (fW ws)).map eW,false⟩),1⟩ Q u w:=by
   intro q Q u w hend hbad
   refine Iz (S:=fun j=>⟨Ae [1,17,18,19] [.isl p2 false 3 (xs.map eR),.sl 0,iV xs.length,iV j],pO Af 0 (some ⟨3,(xs.map (fW ws)).map eW,false⟩),1⟩) xs.length (fun j=>!Fb ws (xs.getD j ⟨0,0,0⟩)) rfl (by omega) ?_ ?_ ?_
   ·intro j kk hj hgd hl
    have hxj:xs[j]?=some (xs.getD j ⟨0,0,0⟩):=by simp [List.getD_eq_getElem?_getD,hj]
    generalize xs.getD j ⟨0,0,0⟩=x at hxj hgd
    obtain ⟨g,hg⟩:∃ g,fW ws x=g:=⟨_,rfl⟩
    have f1:decide (g.ver=x.ver)=true:=by
     have h0:(BN ws x.level x.index).ver=x.ver:=by simpa [Fb] using hgd
     rw [← hg];exact decide_eq_true h0
    have l1:((j:Int)<(xs.length:Int))=True:=by simpa using hj
    have l2:(0≤(j:Int))=True:=by simp
    have l3:=wrN j (by simp only [BB];omega)
    simp +contextual -dsimp -implicitDefEqProofs (maxSteps:=5000000) only [l1,l2,l3,hxj,hg,f1,↓Ah (MC.eq_1),go_sem,simprocAttr]
    exact DW hl (by rfl)
   ·intro j kk hj hgd _
    have hxj:xs[j]?=some (xs.getD j ⟨0,0,0⟩):=by simp [List.getD_eq_getElem?_getD,hj]
    generalize xs.getD j ⟨0,0,0⟩=x at hxj hgd
    have hf:xs.all (fun r=>!Fb ws r)=false:=Im _ hxj hgd
    obtain ⟨g,hg⟩:∃ g,fW ws x=g:=⟨_,rfl⟩
    have f1:decide (g.ver=x.ver)=false:=by
     have h0:¬ (BN ws x.level x.index).ver=x.ver:=by simpa [Fb] using hgd
     rw [← hg];exact decide_eq_false h0
    have l1:((j:Int)<(xs.length:Int))=True:=by simpa using hj
    have l2:(0≤(j:Int))=True:=by simp
    simp +contextual -dsimp -implicitDefEqProofs (maxSteps:=5000000) only [l1,l2,hxj,hg,f1,↓Ah (MC.eq_1),go_sem,simprocAttr]
    exact hbad _ _ hf
   ·intro kk hall
    have l0:decide ((xs.length:Int)<(xs.length:Int))=false:=by simp
    simp +contextual -dsimp -implicitDefEqProofs (maxSteps:=5000000) only [l0,↓Ah (MC.eq_1),go_sem,simprocAttr]
    exact hend (Il _ ⟨0,0,0⟩ _ hall)
  cases pf
  all_goals
   simp +contextual -dsimp -implicitDefEqProofs (maxSteps:=5000000) only [qw,List.length_map,go_sem,simprocAttr]
   refine key _ _ _ _ (fun h=>?_) (fun _ _ h=>?_)
   ·rw [h];simp +contextual -dsimp -implicitDefEqProofs (maxSteps:=5000000) only [go_sem,simprocAttr]
   ·rw [h];simp +contextual -dsimp -implicitDefEqProofs (maxSteps:=5000000) only [go_sem,simprocAttr]
end Ve
