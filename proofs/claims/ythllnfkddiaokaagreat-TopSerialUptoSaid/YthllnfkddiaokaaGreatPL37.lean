/- TopSerial, on the models, IV: each step keeps the words as if done one by one. -/
import Derived.Test.YthllnfkddiaokaaGreatPL36
set_option linter.all false
set_option linter.unusedSectionVars false
namespace Ve
open Go
theorem nN {ceil clk:Int} {ws:A4 (List Aj)} {s:Ae} {E:Ef} (hE:EC ceil ws clk s=some E) (h:E.t.step=4):s.step=4∨(s.step=3∧s.reads.all (CA ws s.id)=true):=by
 unfold EC at hE
 by_cases h0:s.step=0
 ·rw [if_pos h0] at hE;cases hE
  exfalso;revert h
  unfold GF
  cases s.prog[s.pc.toNat]? with
  | none =>
   simp only;unfold IT
   split
   ·simp only;split<;>omega
   ·simp [EZ,DB]
  | some x =>
   simp only
   split
   ·split
    ·unfold FS
     split
     ·simp only [Eu];omega
     ·split
      ·simp only [Eu];omega
      ·simp [FL,Co]
    ·unfold GZ
     split
     ·simp only;omega
     ·simp [EZ,DB]
   ·split
    ·simp only [Zv];omega
    ·split
     ·simp
     ·split
      ·simp [EZ,DB]
      ·unfold IU
       split
       ·simp only;omega
       ·split
        ·simp only;omega
        ·simp only;omega
 rw [if_neg h0] at hE
 by_cases h1:s.step=1
 ·rw [if_pos h1] at hE
  exfalso;revert h
  unfold Gt at hE
  cases hw:s.writes[s.at_.toNat]? with
  | none=>rw [hw] at hE;cases hE
  | some w =>
   rw [hw] at hE;simp only [Option.some.injEq] at hE;subst hE
   split
   ·simp only;split<;>omega
   ·simp [FL,Co]
 rw [if_neg h1] at hE
 by_cases h2:s.step=2
 ·rw [if_pos h2] at hE;cases hE
  exfalso;revert h
  unfold EM
  split
  ·simp [EZ,DB]
  ·simp
 rw [if_neg h2] at hE
 by_cases h3:s.step=3
 ·rw [if_pos h3] at hE;cases hE
  unfold Dh at h
  split at h
  ·rename_i hg;exact .inr ⟨h3,hg⟩
  ·simp [FL,Co] at h
 rw [if_neg h3] at hE
 by_cases h4:s.step=4
 ·exact .inl h4
 rw [if_neg h4] at hE
 by_cases h5:s.step=5
 ·rw [if_pos h5] at hE;cases hE
  exfalso;revert h
  unfold Fo
  split
  ·simp [FL,Co]
  ·exact fun h=>h4 h
 ·rw [if_neg h5] at hE;cases hE
  exact absurd h h4
theorem sI {ws:A4 (List Aj)} {l i l' i':Int} {u:Aj} (h:Ay ws l i=true) (h':Ay ws l' i'=true) (f:WF) (hf:f=.set l i u∨∃ c,f=.setFree l i u c) (hok:f.ok):(AB (f.app ws) l' i').val=if l'=l∧i'=i then u.val else (AB ws l' i').val:=by
 have e:(AB (CK ws l i u) l' i').val=if l'=l∧i'=i then u.val else (AB ws l' i').val:=by rw [Hx h h'];split<;>rfl
 rcases hf with rfl | ⟨c,rfl⟩
 ·exact e
 ·have hok':(WF.set l i u).ok:=hok
  have h2:Ay (CK ws l i u) l' i'=true:=by
   have:=RT (f:=.set l i u) (ws:=ws) hok' (l:=l') (i:=i')
   rw [h'] at this;exact this
  have:=We (f:=.free c) (ws:=CK ws l i u) trivial (c:=True) trivial trivial h2
  show (AB (PF c (CK ws l i u)) l' i').val=_
  rw [← e];exact this
section
variable {m:Ac} {k:Nat} {s:Ae} {g:Int→Int→Int} (hs:m.sess[k]?=some s) (hI:Do m) (hR:Ser m g)
include hs hI hR
theorem iD {E:Ef} (hE:EC m.ceil m.words (m.clocks.get s.label) s=some E):Ser (E.app m k s.label) (if s.step=3∧s.reads.all (CA m.words s.id)=true then put s.writes g else g):=by
 have hS:=BU hs hI.inv
 have hmem:=List.mem_of_getElem? hs
 have hat:=AE.1 hS.at_
 have hm:=JQ (hI.inv.sess s hmem) hE
 have hok:=HJ hS.label hm.w
 have hk:=Pu hs hI hE
 have hsay:=ML hs hI hE
 have hp:=(HV m.sess none hI.inv.may.ids).2
 have hws:=(BX hS.writes).2.1
 have hlk:=hI.lk s hmem
 have hfrom:∀ u w,Wz (E.app m k s.label) u w→(u=E.t∧E.t.step=4∧∃ j:Nat,E.t.at_≤(j:Int)∧E.t.writes[j]?=some w)∨(Wz m u w∧u≠s):=by
  rintro u w ⟨h1,h2,h3⟩
  rw [Cn] at h1
  rcases LR hp hs h1 with rfl | ⟨h1,hne⟩
  ·exact .inl ⟨rfl,h2,h3⟩
  ·exact .inr ⟨⟨h1,h2,h3⟩,hne⟩
 have hto:∀ u w,Wz m u w→u≠s→Wz (E.app m k s.label) u w:=by
  rintro u w ⟨h1,h2,h3⟩ hne
  exact ⟨by rw [Cn];exact FH hs h1 hne,h2,h3⟩
 have hself:E.t∈(E.app m k s.label).sess:=by rw [Cn];exact List.mem_of_getElem? (List.getElem?_set_self (Ax hs))
 have hgh:∀ u∈(E.app m k s.label).sess,Gh (E.app m k s.label).words u:=by
  intro u hu
  rw [BM]
  rw [Cn] at hu
  rcases LR hp hs hu with rfl | ⟨h1,hne⟩
  ·exact uZ hs hI (hR.gh s hmem) hE
  ·intro h3
   obtain ⟨f,hf⟩:=hR.gh u h1 h3
   have hu:=(sp _ _).1 (hI.inv.may.sess u h1)
   exact ⟨f,PA hok hk hu.rthere hf⟩
 have hth:∀ l i,Ay (E.app m k s.label).words l i=true→Ay m.words l i=true:=by
  intro l i h;rw [BM,RT hok] at h;exact h
 by_cases h4:s.step=4
 ·rw [if_neg (by omega)]
  unfold EC at hE
  rw [if_neg (by omega),if_neg (by omega),if_neg (by omega),if_neg (by omega),if_pos h4] at hE
  unfold Gu at hE
  cases hw:s.writes[s.at_.toNat]? with
  | none=>rw [hw] at hE;cases hE
  | some w =>
   rw [hw] at hE;simp only [Option.some.injEq] at hE
   have hwt:=CD hs hI (List.mem_of_getElem? hw)
   have hpw:Wz m s w:=⟨hmem,h4,s.at_.toNat,by omega,hw⟩
   have hf:E.w=.set w.level w.index ⟨w.val,s.stamp,0⟩∨∃ c,E.w=.setFree w.level w.index ⟨w.val,s.stamp,0⟩ c:=by
    subst hE;split
    ·exact .inr ⟨_,rfl⟩
    ·exact .inl rfl
   have htp:(E.t.step=4→E.t.at_=s.at_+1∧E.t.writes=s.writes)∧(E.t.step≠4→s.at_+1=s.writes.length):=by
    subst hE;split
    ·rename_i hl;exact ⟨fun h=>by simp [DB] at h,fun _=>hl⟩
    ·exact ⟨fun _=>⟨rfl,rfl⟩,fun h=>absurd h4 h⟩
   refine ⟨fun u w' hu=>?_,fun l i hli hno=>?_,hgh⟩
   ·rcases hfrom u w' hu with ⟨_,h1,j,h2,h3⟩ | ⟨h,_⟩
    ·obtain ⟨e1,e2⟩:=htp.1 h1
     rw [e2] at h3
     exact hR.pend s w' ⟨hmem,h4,j,by omega,h3⟩
    ·exact hR.pend u w' h
   ·rw [BM,sI hwt (hth l i hli) E.w hf hok]
    split
    ·rename_i hc;rw [hc.1,hc.2];exact hR.pend s w hpw
    ·rename_i hc
     refine hR.calm l i (hth l i hli) fun u w' hu hc'=>?_
     by_cases hus:u=s
     ·subst hus
      obtain ⟨_,_,j,h2,h3⟩:=hu
      by_cases hj:(j:Int)=u.at_
      ·have:j=u.at_.toNat:=by omega
       rw [this,hw] at h3;cases h3
       exact hc ⟨hc'.1.symm,hc'.2.symm⟩
      ·have hjl:=Ax h3
       by_cases ht4:E.t.step=4
       ·obtain ⟨e1,e2⟩:=htp.1 ht4
        exact hno E.t w' ⟨hself,ht4,j,by omega,by rw [e2];exact h3⟩ hc'
       ·have:=htp.2 ht4;omega
     ·exact hno u w' (hto u w' hu hus) hc'
 ·have hval:∀ l i,Ay m.words l i=true→(AB (E.app m k s.label).words l i).val=(AB m.words l i).val:=by
   intro l i h;rw [BM];exact We hok h4 hsay h
  by_cases hg:s.step=3∧s.reads.all (CA m.words s.id)=true
  ·rw [if_pos hg]
   have hEt:(E.t.step=4∧E.t.at_=0∧E.t.writes=s.writes)∨(E.t.step≠4∧s.writes=[]):=by
    unfold EC at hE
    rw [if_neg (by omega),if_neg (by omega),if_neg (by omega),if_pos hg.1] at hE
    cases hE
    unfold Dh
    rw [if_pos hg.2]
    split
    ·rename_i hn;exact .inr ⟨by simp [EZ,DB],hn⟩
    ·exact .inl ⟨rfl,rfl,rfl⟩
   refine ⟨fun u w hu=>?_,fun l i hli hno=>?_,hgh⟩
   ·rcases hfrom u w hu with ⟨_,h1,j,h2,h3⟩ | ⟨h,hne⟩
    ·rcases hEt with ⟨_,_,e⟩ | ⟨e,_⟩
     ·rw [e] at h3;exact a0y hws (List.mem_of_getElem? h3)
     ·exact absurd h1 e
    ·rw [jK,hR.pend u w h]
     intro w' hw' hc
     obtain ⟨hl,_⟩:=QN hs hI h
     have hl':=hlk.held (.inr hg.1) w' hw'
     rw [hc.1,hc.2,hl] at hl'
     exact hne (Lm hI.inv.may h.1 hmem (by omega))
   ·rw [hval l i (hth l i hli),jK]
    ·refine hR.calm l i (hth l i hli) fun u w' hu=>?_
     by_cases hus:u=s
     ·subst hus;exact absurd hu.2.1 h4
     ·exact hno u w' (hto u w' hu hus)
    ·intro w hw hc
     rcases hEt with ⟨e1,e2,e3⟩ | ⟨_,e⟩
     ·obtain ⟨j,hj⟩:=List.getElem?_of_mem hw
      exact hno E.t w ⟨hself,e1,j,by omega,by rw [e3];exact hj⟩ hc
     ·rw [e] at hw;cases hw
  ·rw [if_neg hg]
   have ht4:E.t.step≠4:=fun h=>(nN hE h).elim h4 hg
   refine ⟨fun u w hu=>?_,fun l i hli hno=>?_,hgh⟩
   ·rcases hfrom u w hu with ⟨_,h1,_⟩ | ⟨h,_⟩
    ·exact absurd h1 ht4
    ·exact hR.pend u w h
   ·rw [hval l i (hth l i hli)]
    refine hR.calm l i (hth l i hli) fun u w' hu=>?_
    by_cases hus:u=s
    ·subst hus;exact absurd hu.2.1 h4
    ·exact hno u w' (hto u w' hu hus)
end
end Ve
