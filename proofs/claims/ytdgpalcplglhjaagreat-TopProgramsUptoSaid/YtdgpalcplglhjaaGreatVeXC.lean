/- The program's look at a session's step. -/
import Derived.Test.YtdgpalcplglhjaaGreatS27
import Derived.Test.YtdgpalcplglhjaaGreatVeSD
import Derived.Test.YtdgpalcplglhjaaGreatVeXA
import Derived.Test.YtdgpalcplglhjaaGreatVeP
set_option linter.all false
set_option linter.unusedSectionVars false
namespace Ve
open Go Ve.Ab
set_option maxHeartbeats 16000000
set_option maxRecDepth 10000
theorem ZS (i:Nat) (p pf:Bool) (m:Ad) (at_ st:Int) (hm:SmM m):Aa (Lv ctx (i+21)) 164 [.ip p (cM pf m) 0,iV at_,iV st]=some (bV (Gb m at_ st).isSome):=by
 have h1:=Hm (i+0) p pf m at_ hm
 simp only [Nat.add_assoc,Nat.reduceAdd] at h1
 cases Hx m at_ st with
 | no h =>
  rw [EC h]
  refine Ac rfl 0 (by rfl) ?_
  delta fE
  simp +contextual -dsimp -implicitDefEqProofs (maxSteps:=5000000) only [h1,h,Option.isSome_none,go_sem,simprocAttr]
 | off k s e0 hs hM hS hst =>
  subst e0
  rw [CM hs hM hst]
  have hh:=Bf hs hM
  have hk:=Au hs
  have e1:(0≤(k:Int))=True:=by simp
  have e2:((k:Int)<(m.sess.length:Int))=True:=by simpa using hk
  have z0:decide (s.step=st)=false:=by simpa using hst
  refine Ac rfl 0 (by rfl) ?_
  delta fE
  simp +contextual -dsimp -implicitDefEqProofs (maxSteps:=5000000) only [h1,hh,hs,e1,e2,z0,Option.isSome_none,go_sem,simprocAttr]
 | fin k s e0 hs hM hS hst hp =>
  subst e0
  rw [Cb hs hM hst]
  have hh:=Bf hs hM
  have hk:=Au hs
  have e1:(0≤(k:Int))=True:=by simp
  have e2:((k:Int)<(m.sess.length:Int))=True:=by simpa using hk
  have z0:decide (s.step=st)=true:=by simpa using hst
  refine Ac rfl 0 (by rfl) ?_
  delta fE
  simp +contextual -dsimp -implicitDefEqProofs (maxSteps:=5000000) only [h1,hh,hs,e1,e2,z0,Option.isSome_some,go_sem,simprocAttr]
 | on k n s w e0 hs hM hS hst hp hn hi =>
  subst e0
  rw [Cb hs hM hst]
  have hh:=Bf hs hM
  have hk:=Au hs
  have e1:(0≤(k:Int))=True:=by simp
  have e2:((k:Int)<(m.sess.length:Int))=True:=by simpa using hk
  have z0:decide (s.step=st)=true:=by simpa using hst
  refine Ac rfl 0 (by rfl) ?_
  delta fE
  simp +contextual -dsimp -implicitDefEqProofs (maxSteps:=5000000) only [h1,hh,hs,e1,e2,z0,Option.isSome_some,go_sem,simprocAttr]
end Ve
namespace Ve
open Go Ve.Ab
set_option maxHeartbeats 16000000
set_option maxRecDepth 10000
abbrev cW (pf:Bool) (ws:A4 (List Al)):List V:=[eWs pf ws.a0,eWs pf ws.a1,eWs pf ws.a2,eWs pf ws.a3]
def fW (ws:A4 (List Al)) (r:AO):Al:=Bx ws r.level r.index
def Eg (ws:A4 (List Al)) (xs:List AO):List Al × Bool:=if (AP ws&&AJ xs&&AD ws xs)=true then (xs.map (fW ws),true) else ([],false)
theorem SL (i k:Nat) (p pf p2 nn:Bool) (ws:A4 (List Al)) (xs:List AO) (hx:xs.length≤16) (q:Out→St→Option Ans) (Q:V→Hp→Nat→Prop)
  (u:Dum (fun s q=>evC ctx (Lv ctx (i+7)) (Aa (Lv ctx (i+7))) k HY s (As [0,6,19,20,21] q))) (w:Dum q)
  (hend:AD ws xs=true→Fin (q (.exit 0) ⟨Ae [6] [.sl 0],pO Ag 0 (some ⟨3,(xs.map (fW ws)).map eW,false⟩),1⟩) Q)
  (hbad:∀ h n,AD ws xs=false→Fin (q .ret ⟨Ae [4,5] [nilV,bV false],h,n⟩) Q) :
  ∀ (suf pre:List AO) (kk:Nat),xs=pre++suf→suf.length<kk→(∀ r∈pre,AW ws r.level r.index=true) →
  GL 0 [0,6,19,20,21] (fun s q=>evC ctx (Lv ctx (i+7)) (Aa (Lv ctx (i+7))) k HY s (As [0,6,19,20,21] q)) q kk ⟨Ae [0,6,19,20,21] [.ip p (cW pf ws) 0,.sl 0,.isl p2 nn 3 (xs.map eR),iV xs.length,iV pre.length],pO Ag 0 (some ⟨3,(pre.map (fW ws)).map eW,false⟩),1⟩ Q u w
 | [],pre,kk,hxs,hk,hall=>by
  obtain ⟨kk,rfl⟩:∃ m,kk=m+1:=⟨kk - 1,by simp at hk;omega⟩
  have h1:decide ((pre.length:Int)<xs.length)=false:=by simp [hxs]
  have h2:xs=pre:=by simp [hxs]
  have he:=hend (by rw [h2,AD,List.all_eq_true];exact hall)
  rw [h2] at he
  simp +contextual -dsimp -implicitDefEqProofs (maxSteps:=5000000) only [gLs,↓Aj (HY.eq_1),h1,go_sem,simprocAttr]
  exact he
 | a::suf,pre,kk,hxs,hk,hall=>by
  obtain ⟨kk,rfl⟩:∃ m,kk=m+1:=⟨kk - 1,by simp at hk;omega⟩
  have hl:pre.length<xs.length:=by simp [hxs]
  have h2:((pre.length:Int)<xs.length)=True:=by simpa using hl
  have h3:(0≤(pre.length:Int))=True:=by simp
  have h4:=wrN pre.length (by simp only [BB];omega)
  have hg:xs[pre.length]?=some a:=by simp [hxs]
  have h5:(((pre.length+1:Nat):Int)*24≤140737488355328)=True:=by simp only [eq_iff_iff,iff_true];omega
  cases hb:AW ws a.level a.index
  ·have he:AD ws xs=false:=by rw [AD,List.all_eq_false];exact ⟨a,by simp [hxs],by simp [hb]⟩
   simp +contextual -dsimp -implicitDefEqProofs (maxSteps:=5000000) only [gLs,↓Aj (HY.eq_1),h2,h3,hg,hb,go_sem,simprocAttr]
   exact hbad _ _ he
  ·have ih:=SL i k p pf p2 nn ws xs hx q Q u w hend hbad suf (pre++[a]) kk (by simp [hxs]) (by simpa using hk) (by
    intro r hr
    rcases List.mem_append.1 hr with h | h
    ·exact hall r h
    ·simp only [List.mem_singleton] at h;subst h;exact hb)
   have hlb:=Fk hb
   obtain ⟨lv,ix,vr⟩:=a
   obtain ⟨n,g,rfl,hgw,hge,hln⟩:=EJ hb
   have l4:(0≤(n:Int))=True:=by simp
   simp only [Ao,List.map_append,List.map_cons,List.map_nil,fW,hge,eW] at ih
   rcases FI hlb with h | h | h | h
   all_goals
    simp only at h
    subst h
    simp only [A4.get,simprocAttr] at hgw hln
    have hln':=eq_true hln
    simp +contextual -dsimp -implicitDefEqProofs (maxSteps:=5000000) only [gLs,↓Aj (HY.eq_1),h2,h3,h4,h5,hg,hb,hgw,hln',l4,go_sem,simprocAttr]
    exact (BN (by rfl)).mpr ih
theorem VE (i:Nat) (p pf p2 nn:Bool) (ws:A4 (List Al)) (xs:List AO) (hx:xs.length≤BB):Aa (Lv ctx (i+8)) 191 [.ip p (cW pf ws) 0,.isl p2 nn 3 (xs.map eR)]=some (.tup [oWs (Eg ws xs).1,bV (Eg ws xs).2]):=by
 have q2:=LV (i+2+1) p2 nn xs hx
 simp only [Nat.add_assoc,Nat.reduceAdd] at q2
 have no:(AP ws&&AJ xs&&AD ws xs)=false→Eg ws xs=([],false):=by intro h;unfold Eg;rw [h];rfl
 cases hc:(AP ws&&AJ xs)
 ·rw [no (by rw [hc];rfl)]
  refine Ac rfl 0 (by rfl) ?_
  delta fD
  simp +contextual -dsimp -implicitDefEqProofs (maxSteps:=5000000) only [q2,nn2,hc,List.map_nil,go_sem,simprocAttr]
  rfl
 ·obtain ⟨ha,hr⟩:=(Bool.and_eq_true _ _).mp hc
  have hl:xs.length≤16:=by simp only [AJ,Bool.and_eq_true,decide_eq_true_eq] at hr;exact hr.2
  have yes:AD ws xs=true→Eg ws xs=(xs.map (fW ws),true):=by intro h;unfold Eg;rw [hc,h];rfl
  cases xs with
  | nil =>
   rw [yes rfl]
   simp only [List.map_nil] at q2
   refine Ac rfl 3 (by rfl) ?_
   delta fD
   simp +contextual -dsimp -implicitDefEqProofs (maxSteps:=5000000) only [q2,ha,hr,gLs,↓Aj (HY.eq_1),List.map_nil,List.length_nil,go_sem,simprocAttr]
   rfl
  | cons a suf =>
   simp only [List.map_cons,eR] at q2
   obtain ⟨K,hK⟩:∃ K,K=suf.length+2:=⟨_,rfl⟩
   have key:=fun q Q u w h1 h2=>SL i (K+1) p pf p2 nn ws (a::suf) hl q Q u w h1 h2 suf [a] K rfl (by omega)
   cases hb:AW ws a.level a.index
   ·have he:AD ws (a::suf)=false:=by rw [AD,List.all_eq_false];exact ⟨a,by simp,by simp [hb]⟩
    rw [no (by rw [hc,he];rfl)]
    have z1:((0:Int)<(((suf.length+1:Nat)):Int))=True:=by simp only [eq_iff_iff,iff_true];omega
    refine Ac rfl (K+1) (by rfl) ?_
    delta fD
    simp +contextual -dsimp -implicitDefEqProofs (maxSteps:=5000000) only [q2,ha,hr,hb,z1,gLs,↓Aj (HY.eq_1),List.map_nil,List.map_cons,List.length_cons,go_sem,simprocAttr]
    rfl
   ·have z1:((0:Int)<(((suf.length+1:Nat)):Int))=True:=by simp only [eq_iff_iff,iff_true];omega
    have hlb:=Fk hb
    obtain ⟨lv,ix,vr⟩:=a
    obtain ⟨n,g,rfl,hgw,hge,hln⟩:=EJ hb
    have l4:(0≤(n:Int))=True:=by simp
    simp only [List.length_singleton,List.map_cons,List.map_nil,fW,hge,eW,List.mem_singleton,forall_eq,hb,true_implies] at key
    rcases FI hlb with h | h | h | h
    all_goals
     simp only at h
     subst h
     simp only [A4.get,simprocAttr] at hgw hln
     have hln':=eq_true hln
     refine Ac rfl (K+1) (by rfl) ?_
     delta fD
     simp +contextual -dsimp -implicitDefEqProofs (maxSteps:=5000000) only [q2,ha,hr,hb,z1,hgw,hln',l4,gLs,↓Aj (HY.eq_1),List.map_cons,List.map_nil,List.length_cons,go_sem,simprocAttr]
     refine EW (key _ _ ⟨⟩ ⟨⟩ ?ha ?hb) (by rfl)
     case ha=>intro he;rw [yes he];simp only [List.map_cons,fW,hge];simp +contextual -dsimp -implicitDefEqProofs (maxSteps:=5000000) only [List.map_cons,go_sem,simprocAttr];rfl
     case hb=>intro h n he;rw [no (by rw [hc,he];rfl)];simp +contextual -dsimp -implicitDefEqProofs (maxSteps:=5000000) only [List.map_nil,go_sem,simprocAttr];rfl
theorem ZT (i:Nat) (pf p2:Bool) (ws:A4 (List Al)) (xs:List AO) (hx:xs.length≤BB) (id:Int):Aa (Lv ctx (i+9)) 168 [.agg (cW pf ws),.isl p2 false 3 (xs.map eR),iV id]=some (.tup [bV (BU ws xs id).1,iV (BU ws xs id).2]):=by
 have qw:=fun p=>VE i p pf p2 false ws xs hx
 cases hc:(AP ws&&AJ xs&&AD ws xs&&inR id 254)
 ·have e:BU ws xs id=(false,900):=by unfold BU;rw [hc];rfl
  rw [e]
  cases hd:(AP ws&&AJ xs&&AD ws xs)
  ·have e2:Eg ws xs=([],false):=by unfold Eg;rw [hd];rfl
   rw [e2] at qw
   refine Ac rfl 0 (by rfl) ?_
   delta nL
   cases pf<;>simp +contextual -dsimp -implicitDefEqProofs (maxSteps:=5000000) only [qw,List.map_nil,go_sem,simprocAttr]
  ·have e2:Eg ws xs=(xs.map (fW ws),true):=by unfold Eg;rw [hd];rfl
   have hi:inR id 254=false:=by rw [hd] at hc;simpa using hc
   rw [e2] at qw
   refine Ac rfl 0 (by rfl) ?_
   delta nL
   cases pf<;>simp +contextual -dsimp -implicitDefEqProofs (maxSteps:=5000000) only [qw,hi,go_sem,simprocAttr]
 ·have hcc:=hc
  simp only [Bool.and_eq_true] at hcc
  have hl:xs.length≤16:=by have:=hcc.1.1.2;simp only [AJ,Bool.and_eq_true,decide_eq_true_eq] at this;exact this.2
  have hi:=hcc.2
  have hw:=Ex (c:=254) hi (by omega)
  have e:BU ws xs id=(xs.all (Cz ws id),0):=by unfold BU;rw [hc];rfl
  have e2:Eg ws xs=(xs.map (fW ws),true):=by
   have:(AP ws&&AJ xs&&AD ws xs)=true:=((Bool.and_eq_true _ _).mp hc).1
   unfold Eg;rw [this];rfl
  rw [e]
  rw [e2] at qw
  refine Ac rfl (xs.length+1) (by rfl) ?_
  delta nL
  have key:∀ (q:Out→St→Option Ans) (Q:V→Hp→Nat→Prop) (u:Dum (fun s q=>evC ctx (Lv ctx (i+8)) (Aa (Lv ctx (i+8))) (xs.length+1) IP s (As [1,2,24,25,26] q))) (w:Dum q),
    (xs.all (Cz ws id)=true→Fin (q (.exit 0) ⟨Ae [] [],pO Ag 0 (some ⟨3,(xs.map (fW ws)).map eW,false⟩),1⟩) Q)→(∀ h n,xs.all (Cz ws id)=false→Fin (q .ret ⟨Ae [6,7] [bV false,iV 0],h,n⟩) Q) →
    GL 1 [1,2,24,25,26] (fun s q=>evC ctx (Lv ctx (i+8)) (Aa (Lv ctx (i+8))) (xs.length+1) IP s (As [1,2,24,25,26] q)) q (xs.length+1) ⟨Ae [1,2,24,25,26] [.isl p2 false 3 (xs.map eR),iV id,.sl 0,iV xs.length,iV 0],pO Ag 0 (some ⟨3,(xs.map (fW ws)).map eW,false⟩),1⟩ Q u w:=by
   intro q Q u w hend hbad
   refine IG (S:=fun j=>⟨Ae [1,2,24,25,26] [.isl p2 false 3 (xs.map eR),iV id,.sl 0,iV xs.length,iV j],pO Ag 0 (some ⟨3,(xs.map (fW ws)).map eW,false⟩),1⟩) xs.length (fun j=>Cz ws id (xs.getD j ⟨0,0,0⟩)) rfl (by omega) ?_ ?_ ?_
   ·intro j kk hj hgd hl
    have hxj:xs[j]?=some (xs.getD j ⟨0,0,0⟩):=by simp [List.getD_eq_getElem?_getD,hj]
    generalize xs.getD j ⟨0,0,0⟩=x at hxj hgd
    obtain ⟨g,hg⟩:∃ g,fW ws x=g:=⟨_,rfl⟩
    have hgd':(decide (g.ver=x.ver)&&(decide (g.lock=0)||decide (g.lock=id+1)))=true:=by rw [← hg];exact hgd
    simp only [Bool.and_eq_true] at hgd'
    have l1:((j:Int)<(xs.length:Int))=True:=by simpa using hj
    have l2:(0≤(j:Int))=True:=by simp
    have l3:=wrN j (by simp only [BB];omega)
    have f1:=hgd'.1
    cases f2:decide (g.lock=0)
    ·have f3:decide (g.lock=id+1)=true:=by rw [f2] at hgd';simpa using hgd'.2
     simp +contextual -dsimp -implicitDefEqProofs (maxSteps:=5000000) only [l1,l2,l3,hxj,hg,f1,f2,f3,hw,↓Aj (IP.eq_1),go_sem,simprocAttr]
     exact EW hl (by rfl)
    ·simp +contextual -dsimp -implicitDefEqProofs (maxSteps:=5000000) only [l1,l2,l3,hxj,hg,f1,f2,hw,↓Aj (IP.eq_1),go_sem,simprocAttr]
     exact EW hl (by rfl)
   ·intro j kk hj hgd _
    have hxj:xs[j]?=some (xs.getD j ⟨0,0,0⟩):=by simp [List.getD_eq_getElem?_getD,hj]
    generalize xs.getD j ⟨0,0,0⟩=x at hxj hgd
    have hf:xs.all (Cz ws id)=false:=Jl _ hxj hgd
    obtain ⟨g,hg⟩:∃ g,fW ws x=g:=⟨_,rfl⟩
    have hgd':(decide (g.ver=x.ver)&&(decide (g.lock=0)||decide (g.lock=id+1)))=false:=by rw [← hg];exact hgd
    have l1:((j:Int)<(xs.length:Int))=True:=by simpa using hj
    have l2:(0≤(j:Int))=True:=by simp
    cases f1:decide (g.ver=x.ver)
    ·simp +contextual -dsimp -implicitDefEqProofs (maxSteps:=5000000) only [l1,l2,hxj,hg,f1,hw,↓Aj (IP.eq_1),go_sem,simprocAttr]
     exact hbad _ _ hf
    ·rw [f1] at hgd'
     simp only [Bool.true_and,Bool.or_eq_false_iff] at hgd'
     simp +contextual -dsimp -implicitDefEqProofs (maxSteps:=5000000) only [l1,l2,hxj,hg,f1,hgd'.1,hgd'.2,hw,↓Aj (IP.eq_1),go_sem,simprocAttr]
     exact hbad _ _ hf
   ·intro kk hall
    have l0:decide ((xs.length:Int)<(xs.length:Int))=false:=by simp
    simp +contextual -dsimp -implicitDefEqProofs (maxSteps:=5000000) only [l0,↓Aj (IP.eq_1),go_sem,simprocAttr]
    exact hend (Jk _ ⟨0,0,0⟩ _ hall)
  cases pf
  all_goals
   simp +contextual -dsimp -implicitDefEqProofs (maxSteps:=5000000) only [qw,hi,List.length_map,go_sem,simprocAttr]
   refine key _ _ _ _ (fun h=>?_) (fun _ _ h=>?_)
   ·rw [h];simp +contextual -dsimp -implicitDefEqProofs (maxSteps:=5000000) only [go_sem,simprocAttr]
   ·rw [h];simp +contextual -dsimp -implicitDefEqProofs (maxSteps:=5000000) only [go_sem,simprocAttr]
end Ve
namespace Ve
open Go Ve.Ab
set_option maxHeartbeats 16000000
set_option maxRecDepth 10000
theorem iQ (i:Nat) (pf:Bool) (m:Ad) (hm:SmM m) (at_:Int):Aa (Lv ctx (i+22)) 127 [eM pf m,iV at_]=some (.tup [oM (Df m at_).1,iV (Df m at_).2]):=by
 have ql:=ZS (i+0) pf pf m at_ 3 hm
 have qc:=DE (i+18) pf m hm
 have qe:=Sh (i+0) pf m hm at_ 1 0
 have qa:=LW (i+0) pf m hm at_ 3
 rcases HW m at_ 3 with ⟨h,h'⟩ | ⟨k,s,rfl,hs,hM,hS,hst,h,h'⟩ | ⟨k,s,rfl,hs,hM,hS,hst,h,h'⟩
 case inr.inr =>
  rw [h'] at ql
  have hk:=Au hs
  have e1:(0≤(k:Int))=True:=by simp
  have e2:((k:Int)<(m.sess.length:Int))=True:=by simpa using hk
  have e3:∀ x,((m.sess.map oS).set k x)[k]?=some x:=fun x=>List.getElem?_set_self (by simpa using hk)
  have e4:∀ x y,((m.sess.map oS).set k x).set k y=(m.sess.map oS).set k y:=fun x y=>List.set_set ..
  have hsm:=hm.s s (List.mem_of_getElem? hs)
  have qg:=ZT (i+(14 - 2)) pf pf m.words s.reads (by have:=hsm.br;simp only [BB];omega) s.id
  rw [KB hM hS] at qg
  have hg0:=KB hM hS
  cases hg:s.reads.all (Cz m.words s.id)
  ·have hg':(BU m.words s.reads s.id).1=false:=by rw [hg0];exact hg
   rw [Tx h' hg']
   simp only [hg,Nat.add_assoc,Nat.reduceAdd,Nat.reduceSub,Option.isSome_some] at ql qa qg
   generalize By m k 3=r at qa ⊢
   refine Ac rfl 0 (by rfl) ?_
   delta fH
   cases pf<;>simp +contextual -dsimp -implicitDefEqProofs (maxSteps:=5000000) only [ql,qg,qa,hs,e1,e2,go_sem,simprocAttr]
  ·have hg':(BU m.words s.reads s.id).1=true:=by rw [hg0];exact hg
   by_cases hw:s.writes=[]
   ·rw [Pk h' hg' hw]
    have z1:decide ((s.writes.length:Int)=0)=true:=by rw [hw];rfl
    simp only [hg,Nat.add_assoc,Nat.reduceAdd,Nat.reduceSub,Option.isSome_some] at ql qe qg
    generalize CL m k 1 0=r at qe ⊢
    refine Ac rfl 0 (by rfl) ?_
    delta fH
    cases pf<;>simp +contextual -dsimp -implicitDefEqProofs (maxSteps:=5000000) only [ql,qg,qe,hs,e1,e2,z1,go_sem,simprocAttr]
   ·rw [Tw h' hg' hw]
    have z1:decide ((s.writes.length:Int)=0)=false:=by
     have:=List.length_pos_iff.2 hw
     simp;omega
    simp only [hg,Nat.add_assoc,Nat.reduceAdd,Nat.reduceSub,Option.isSome_some] at ql qc qg
    simp only [AA,Int.toNat_natCast,oM,cO,oWs,oSs,oEs,List.map_set,oS]
    refine Ac rfl 0 (by rfl) ?_
    delta fH
    cases pf<;>simp +contextual -dsimp -implicitDefEqProofs (maxSteps:=5000000) only [ql,qg,qc,hs,e1,e2,e3,e4,z1,List.length_set,hk,go_sem,simprocAttr]
 all_goals
  rw [JP h',AH]
  rw [h'] at ql
  simp only [Nat.add_assoc,Nat.reduceAdd,Option.isSome_none] at ql
  refine Ac rfl 0 (by rfl) ?_
  delta fH
  cases pf<;>simp +contextual -dsimp -implicitDefEqProofs (maxSteps:=5000000) only [ql,go_sem,simprocAttr]
end Ve
namespace Ve
open Go Ve.Ab
set_option maxHeartbeats 16000000
set_option maxRecDepth 10000
theorem qM (i:Nat) (a b c d l k:Int):Aa (Lv ctx (i+4)) 167 [.agg [iV a,iV b,iV c,iV d],iV l,iV k] =
  some (.tup [e4 (Cq ⟨a,b,c,d⟩ l k).1,iV (Cq ⟨a,b,c,d⟩ l k).2.1,iV (Cq ⟨a,b,c,d⟩ l k).2.2]):=by
 have hp:DH 65535 a b c d=(⟨a,b,c,d⟩:A4 Int).all (fun x=>inR x 65535):=rfl
 cases h1:(DH 65535 a b c d&&inR k 65535&&inR l 3)
 ·have e:Cq ⟨a,b,c,d⟩ l k=(Dr,0,500):=by simp only [Cq,← hp,h1];rfl
  rw [e]
  refine Ac rfl 0 (by rfl) ?_
  delta nM
  simp +contextual -dsimp -implicitDefEqProofs (maxSteps:=5000000) only [nn2,h1,Dr,go_sem,simprocAttr]
 ·obtain ⟨ha,hl⟩:=(Bool.and_eq_true _ _).mp h1
  have hh:=ha
  simp only [Bool.and_eq_true,DH] at hh
  have wa:=Ex hh.1.1.1.1 (by omega)
  have wb:=Ex hh.1.1.1.2 (by omega)
  have wc:=Ex hh.1.1.2 (by omega)
  have wd:=Ex hh.1.2 (by omega)
  have e:Cq ⟨a,b,c,d⟩ l k=if k≤(⟨a,b,c,d⟩:A4 Int).get l then (Dr,0,501) else ((⟨a,b,c,d⟩:A4 Int).set l ((⟨a,b,c,d⟩:A4 Int).get l+1),(⟨a,b,c,d⟩:A4 Int).get l+1,0):=by
   unfold Cq;rw [← hp,h1];rfl
  rw [e]
  clear e hh h1 hp
  rcases Bb l with rfl | rfl | rfl | rfl | hl'
  case inr.inr.inr.inr=>rw [hl] at hl';cases hl'
  all_goals
   simp only [A4.get,A4.set,simprocAttr]
   split
   ·rename_i hf
    have h2:=decide_eq_true hf
    refine Ac rfl 0 (by rfl) ?_
    delta nM
    simp +contextual -dsimp -implicitDefEqProofs (maxSteps:=5000000) only [nn2,ha,h2,Dr,go_sem,simprocAttr]
   ·rename_i hf
    have h2:=decide_eq_false hf
    refine Ac rfl 0 (by rfl) ?_
    delta nM
    simp +contextual -dsimp -implicitDefEqProofs (maxSteps:=5000000) only [nn2,ha,h2,wa,wb,wc,wd,go_sem,simprocAttr]
theorem iG (i:Nat) (pf:Bool) (m:Ad) (hm:SmM m) (at_:Int):Aa (Lv ctx (i+22)) 126 [eM pf m,iV at_]=some (.tup [oM (Da m at_).1,iV (Da m at_).2]):=by
 have ql:=ZS (i+0) pf pf m at_ 2 hm
 have qc:=DE (i+18) pf m hm
 have qe:=Sh (i+0) pf m hm at_ 5 0
 rcases HW m at_ 2 with ⟨h,h'⟩ | ⟨k,s,rfl,hs,hM,hS,hst,h,h'⟩ | ⟨k,s,rfl,hs,hM,hS,hst,h,h'⟩
 case inr.inr =>
  rw [h'] at ql
  have hk:=Au hs
  have e1:(0≤(k:Int))=True:=by simp
  have e2:((k:Int)<(m.sess.length:Int))=True:=by simpa using hk
  have e3:∀ x,((m.sess.map oS).set k x)[k]?=some x:=fun x=>List.getElem?_set_self (by simpa using hk)
  have e4:∀ x y,((m.sess.map oS).set k x).set k y=(m.sess.map oS).set k y:=fun x y=>List.set_set ..
  have qn:=qM (i+17) m.clocks.a0 m.clocks.a1 m.clocks.a2 m.clocks.a3 s.label m.ceil
  rw [show (⟨m.clocks.a0,m.clocks.a1,m.clocks.a2,m.clocks.a3⟩:A4 Int)=m.clocks from rfl] at qn
  by_cases hc:m.ceil≤m.clocks.get s.label
  ·rw [Oh h' hc]
   rw [SG hM hS.label hc] at qn
   simp only [Nat.add_assoc,Nat.reduceAdd,e4,Dr,Option.isSome_some] at ql qe qn
   generalize CL m k 5 0=r at qe ⊢
   refine Ac rfl 0 (by rfl) ?_
   delta nQ
   cases pf<;>simp +contextual -dsimp -implicitDefEqProofs (maxSteps:=5000000) only [ql,qn,qe,hs,e1,e2,go_sem,simprocAttr]
  ·rw [RV h' hc]
   rw [next_ok hM hS.label hc] at qn
   generalize m.clocks.set s.label (m.clocks.get s.label+1)=cs at qn ⊢
   generalize m.clocks.get s.label+1=sp at qn ⊢
   simp only [Nat.add_assoc,Nat.reduceAdd,e4,Option.isSome_some] at ql qc qn
   simp only [AA,Int.toNat_natCast,oM,cO,oWs,oSs,oEs,List.map_set,oS]
   refine Ac rfl 0 (by rfl) ?_
   delta nQ
   cases pf<;>simp +contextual -dsimp -implicitDefEqProofs (maxSteps:=5000000) only [ql,qn,qc,hs,e1,e2,e3,e4,List.length_set,hk,go_sem,simprocAttr]
 all_goals
  rw [JE h',AH]
  rw [h'] at ql
  simp only [Nat.add_assoc,Nat.reduceAdd,Option.isSome_none] at ql
  refine Ac rfl 0 (by rfl) ?_
  delta nQ
  cases pf<;>simp +contextual -dsimp -implicitDefEqProofs (maxSteps:=5000000) only [ql,go_sem,simprocAttr]
end Ve
namespace Ve
open Go Ve.Ab
set_option maxHeartbeats 16000000
set_option maxRecDepth 10000
theorem XW (i:Nat) (pf p2:Bool) (ws:A4 (List Al)) (xs:List AO) (hx:xs.length≤BB):Aa (Lv ctx (i+9)) 170 [.agg (cW pf ws),.isl p2 false 3 (xs.map eR)]=some (.tup [bV (BH ws xs).1,iV (BH ws xs).2]):=by
 have qw:=fun p=>VE i p pf p2 false ws xs hx
 cases hd:(AP ws&&AJ xs&&AD ws xs)
 ·have e:BH ws xs=(false,900):=by unfold BH;rw [hd];rfl
  rw [e]
  have e2:Eg ws xs=([],false):=by unfold Eg;rw [hd];rfl
  rw [e2] at qw
  refine Ac rfl 0 (by rfl) ?_
  delta vD
  cases pf<;>simp +contextual -dsimp -implicitDefEqProofs (maxSteps:=5000000) only [qw,List.map_nil,go_sem,simprocAttr]
 ·have hcc:=hd
  simp only [Bool.and_eq_true] at hcc
  have hl:xs.length≤16:=by have:=hcc.1.2;simp only [AJ,Bool.and_eq_true,decide_eq_true_eq] at this;exact this.2
  have e:BH ws xs=(xs.any (FP ws),0):=by unfold BH;rw [hd];rfl
  have e2:Eg ws xs=(xs.map (fW ws),true):=by unfold Eg;rw [hd];rfl
  have ea:xs.any (FP ws)=!(xs.all fun r=>!FP ws r):=by simp [List.any_eq_not_all_not]
  rw [e,ea]
  rw [e2] at qw
  refine Ac rfl (xs.length+1) (by rfl) ?_
  delta vD
  have key:∀ (q:Out→St→Option Ans) (Q:V→Hp→Nat→Prop) (u:Dum (fun s q=>evC ctx (Lv ctx (i+8)) (Aa (Lv ctx (i+8))) (xs.length+1) Li s (As [1,17,18,19] q))) (w:Dum q),
    (xs.all (fun r=>!FP ws r)=true→Fin (q (.exit 0) ⟨Ae [] [],pO Ag 0 (some ⟨3,(xs.map (fW ws)).map eW,false⟩),1⟩) Q)→(∀ h n,xs.all (fun r=>!FP ws r)=false→Fin (q .ret ⟨Ae [4,5] [bV true,iV 0],h,n⟩) Q) →
    GL 1 [1,17,18,19] (fun s q=>evC ctx (Lv ctx (i+8)) (Aa (Lv ctx (i+8))) (xs.length+1) Li s (As [1,17,18,19] q)) q (xs.length+1) ⟨Ae [1,17,18,19] [.isl p2 false 3 (xs.map eR),.sl 0,iV xs.length,iV 0],pO Ag 0 (some ⟨3,(xs.map (fW ws)).map eW,false⟩),1⟩ Q u w:=by
   intro q Q u w hend hbad
   refine IG (S:=fun j=>⟨Ae [1,17,18,19] [.isl p2 false 3 (xs.map eR),.sl 0,iV xs.length,iV j],pO Ag 0 (some ⟨3,(xs.map (fW ws)).map eW,false⟩),1⟩) xs.length (fun j=>!FP ws (xs.getD j ⟨0,0,0⟩)) rfl (by omega) ?_ ?_ ?_
   ·intro j kk hj hgd hl
    have hxj:xs[j]?=some (xs.getD j ⟨0,0,0⟩):=by simp [List.getD_eq_getElem?_getD,hj]
    generalize xs.getD j ⟨0,0,0⟩=x at hxj hgd
    obtain ⟨g,hg⟩:∃ g,fW ws x=g:=⟨_,rfl⟩
    have f1:decide (g.ver=x.ver)=true:=by
     have h0:(Bx ws x.level x.index).ver=x.ver:=by simpa [FP] using hgd
     rw [← hg];exact decide_eq_true h0
    have l1:((j:Int)<(xs.length:Int))=True:=by simpa using hj
    have l2:(0≤(j:Int))=True:=by simp
    have l3:=wrN j (by simp only [BB];omega)
    simp +contextual -dsimp -implicitDefEqProofs (maxSteps:=5000000) only [l1,l2,l3,hxj,hg,f1,↓Aj (Li.eq_1),go_sem,simprocAttr]
    exact EW hl (by rfl)
   ·intro j kk hj hgd _
    have hxj:xs[j]?=some (xs.getD j ⟨0,0,0⟩):=by simp [List.getD_eq_getElem?_getD,hj]
    generalize xs.getD j ⟨0,0,0⟩=x at hxj hgd
    have hf:xs.all (fun r=>!FP ws r)=false:=Jl _ hxj hgd
    obtain ⟨g,hg⟩:∃ g,fW ws x=g:=⟨_,rfl⟩
    have f1:decide (g.ver=x.ver)=false:=by
     have h0:¬ (Bx ws x.level x.index).ver=x.ver:=by simpa [FP] using hgd
     rw [← hg];exact decide_eq_false h0
    have l1:((j:Int)<(xs.length:Int))=True:=by simpa using hj
    have l2:(0≤(j:Int))=True:=by simp
    simp +contextual -dsimp -implicitDefEqProofs (maxSteps:=5000000) only [l1,l2,hxj,hg,f1,↓Aj (Li.eq_1),go_sem,simprocAttr]
    exact hbad _ _ hf
   ·intro kk hall
    have l0:decide ((xs.length:Int)<(xs.length:Int))=false:=by simp
    simp +contextual -dsimp -implicitDefEqProofs (maxSteps:=5000000) only [l0,↓Aj (Li.eq_1),go_sem,simprocAttr]
    exact hend (Jk _ ⟨0,0,0⟩ _ hall)
  cases pf
  all_goals
   simp +contextual -dsimp -implicitDefEqProofs (maxSteps:=5000000) only [qw,List.length_map,go_sem,simprocAttr]
   refine key _ _ _ _ (fun h=>?_) (fun _ _ h=>?_)
   ·rw [h];simp +contextual -dsimp -implicitDefEqProofs (maxSteps:=5000000) only [go_sem,simprocAttr]
   ·rw [h];simp +contextual -dsimp -implicitDefEqProofs (maxSteps:=5000000) only [go_sem,simprocAttr]
end Ve
