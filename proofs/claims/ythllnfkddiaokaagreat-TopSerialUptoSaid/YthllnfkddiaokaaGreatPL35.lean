/- TopSerial, on the models, II: each step keeps what its session has reckoned. -/
import Derived.Test.YthllnfkddiaokaaGreatPL34
set_option linter.all false
set_option linter.unusedSectionVars false
namespace Ve
open Go
theorem Oo (ws:A4 (List Aj)) (s:Ae):Gh ws (Co s):=fun _ =>
 ⟨fun _ _=>0,fun r hr=>by simp [Co,ED] at hr,fun r hr=>by simp [Co,ED] at hr,fun g out _ h=>h,fun h=>by simp [Co] at h⟩
theorem IN (ws:A4 (List Aj)) {s:Ae} (h:3<s.step):Gh ws s:=fun h'=>by omega
theorem On {ws:A4 (List Aj)} {s t:Ae} {f:Int→Int→Int} (h:NY ws s f) (h1:t.prog=s.prog) (h2:t.pc=s.pc) (h3:t.regs=s.regs) (h4:t.reads=s.reads) (h5:t.writes=s.writes) (h6:1≤t.step→s.prog[s.pc.toNat]?=none):NY ws t f :=
 ⟨by rw [h4];exact h.low,by rw [h4];exact h.val,by rw [h1,h2,h3,h4,h5];exact h.res,by rw [h1,h2];exact h6⟩
theorem Rp {ws:A4 (List Aj)} {s t:Ae} {f:Int→Int→Int} (h:NY ws s f) (h1:t.prog=s.prog) (h4:t.reads=s.reads) (h0:t.step=0) (hr:∀ g out,(∀ r∈s.reads,g r.level r.index=f r.level r.index)→Res g s.prog t.pc t.regs t.writes out→Res g s.prog s.pc s.regs s.writes out):NY ws t f :=
 ⟨by rw [h4];exact h.low,by rw [h4];exact h.val,by rw [h1,h4];exact fun g out hg ho=>h.res g out hg (hr g out hg ho),fun h=>by omega⟩
section
variable {m:Ac} {k:Nat} {s:Ae} (hs:m.sess[k]?=some s) (hI:Do m)
include hs hI
theorem a2w (h0:s.step=0) (hG:Gh m.words s):Gh ((GF m.words s).w.app m.words) (GF m.words s).t:=by
 have hS:=BU hs hI.inv
 have hp:=AE.1 hS.pc
 obtain ⟨f,hf⟩:=hG (by omega)
 have hend:∀ r t,Gh ((EZ s r t).w.app m.words) (EZ s r t).t:=fun r t=>IN _ (by simp [EZ,DB])
 unfold GF
 cases hx:s.prog[s.pc.toNat]? with
 | none =>
  simp only;unfold IT
  split
  ·exact fun _=>⟨f,On hf rfl rfl rfl rfl rfl (fun _=>hx)⟩
  ·exact hend 3 0
 | some x =>
  have hpm:Dg s.prog=true:=hS.prog
  unfold Dg at hpm
  rw [Bool.and_eq_true] at hpm
  obtain ⟨hmay,_⟩:=IH s.prog _ 0 hpm.1 _ x hx
  simp only
  split
  ·rename_i h2
   split
   ·unfold FS
    split
    ·rename_i hown
     exact fun _=>⟨f,Rp hf rfl rfl h0 fun g out _ ho=>.own hx h2 hown ho⟩
    ·rename_i hown
     split
     ·rename_i hgood
      refine fun _=>?_
      show ∃ v,NY m.words (Eu s x (HX s.reads ⟨x.b,x.c,(AB m.words x.b x.c).ver⟩) (AB m.words x.b x.c).val) v
      by_cases hany:s.reads.any (Cz ⟨x.b,x.c,(AB m.words x.b x.c).ver⟩)=true
      ·have hu:HX s.reads ⟨x.b,x.c,(AB m.words x.b x.c).ver⟩=s.reads:=by unfold HX;rw [if_pos hany]
       rw [hu]
       refine ⟨f,Rp hf rfl rfl h0 fun g out hg ho=>?_⟩
       refine .read hx h2 (by simpa using hown) ?_
       obtain ⟨r,hr,hsame⟩:=List.any_eq_true.1 hany
       simp only [Cz,Bool.and_eq_true,decide_eq_true_eq] at hsame
       have hgr:=(List.all_eq_true.1 hgood.1) r hr
       simp only [CA,Bool.and_eq_true,decide_eq_true_eq] at hgr
       have hv:=hf.val r hr hgr.1
       have hgf:=hg r hr
       rw [hsame.1,hsame.2] at hv hgf
       rw [hgf,← hv];exact ho
      ·have hu:HX s.reads ⟨x.b,x.c,(AB m.words x.b x.c).ver⟩=s.reads++[⟨x.b,x.c,(AB m.words x.b x.c).ver⟩]:=by unfold HX;rw [if_neg hany]
       have hne:∀ r∈s.reads,¬ (r.level=x.b∧r.index=x.c):=by
        intro r hr hc
        apply hany
        rw [List.any_eq_true]
        exact ⟨r,hr,by simp [Cz,hc.1,hc.2]⟩
       rw [hu]
       refine ⟨fun a b=>if a=x.b∧b=x.c then (AB m.words x.b x.c).val else f a b,fun r hr=>?_,fun r hr hv=>?_,fun g out hg ho=>?_,fun h=>?_⟩
       ·rcases List.mem_append.1 hr with hr | hr
        ·exact hf.low r hr
        ·simp only [List.mem_singleton] at hr;subst hr;exact Int.le_refl _
       ·rcases List.mem_append.1 hr with hr | hr
        ·rw [if_neg (hne r hr)];exact hf.val r hr hv
        ·simp only [List.mem_singleton] at hr;subst hr;rw [if_pos ⟨rfl,rfl⟩]
       ·have hg1:∀ r∈s.reads,g r.level r.index=f r.level r.index:=by
         intro r hr
         have:=hg r (List.mem_append_left _ hr)
         rw [if_neg (hne r hr)] at this;exact this
        have hg2:g x.b x.c=(AB m.words x.b x.c).val:=by
         have:=hg ⟨x.b,x.c,(AB m.words x.b x.c).ver⟩ (List.mem_append_right _ (by simp))
         rw [if_pos ⟨rfl,rfl⟩] at this;exact this
        refine hf.res g out hg1 (.read hx h2 (by simpa using hown) ?_)
        rw [hg2];exact ho
       ·have:1≤s.step:=h
        omega
     ·exact Oo _ s
   ·unfold GZ
    split
    ·exact fun _=>⟨f,On hf rfl rfl rfl rfl rfl (fun h=>by have:1≤s.step:=h;omega)⟩
    ·exact hend 4 0
  ·rename_i h2
   split
   ·rename_i h3
    exact fun _=>⟨f,Rp hf rfl rfl h0 fun g out _ ho=>.store hx h3 ho⟩
   ·rename_i h3
    split
    ·exact IN _ (by simp)
    ·rename_i h5
     split
     ·exact hend 2 _
     ·rename_i h6
      unfold IU
      split
      ·rename_i g0
       exact fun _=>⟨f,Rp hf rfl rfl h0 fun g out _ ho=>.set hx g0 ho⟩
      ·rename_i g0
       split
       ·rename_i g1
        exact fun _=>⟨f,Rp hf rfl rfl h0 fun g out _ ho=>.add hx g1 ho⟩
       ·rename_i g1
        have g4:x.code=4:=by
         unfold BK at hmay
         rw [if_neg g0,if_neg g1,if_neg (by omega)] at hmay
         by_cases g4:x.code=4
         ·exact g4
         ·rw [if_neg g4,if_neg h5,if_neg h6] at hmay;cases hmay
        exact fun _=>⟨f,Rp hf rfl rfl h0 fun g out _ ho=>.zero hx g4 ho⟩
theorem uZ (hG:Gh m.words s) {E:Ef} (hE:EC m.ceil m.words (m.clocks.get s.label) s=some E):Gh (E.w.app m.words) E.t:=by
 have hS:=BU hs hI.inv
 have hk:=Pu hs hI hE
 have hok:=HJ hS.label (JQ (hI.inv.sess s (List.mem_of_getElem? hs)) hE).w
 unfold EC at hE
 by_cases h0:s.step=0
 ·rw [if_pos h0] at hE;cases hE;exact a2w hs hI h0 hG
 rw [if_neg h0] at hE
 by_cases h1:s.step=1
 ·rw [if_pos h1] at hE
  obtain ⟨f,hf⟩:=hG (by omega)
  have hfin:=hf.fin (by omega)
  unfold Gt at hE
  cases hw:s.writes[s.at_.toNat]? with
  | none=>rw [hw] at hE;cases hE
  | some w =>
   rw [hw] at hE;simp only [Option.some.injEq] at hE;subst hE
   by_cases hfree:(AB m.words w.level w.index).lock=0
   ·rw [if_pos hfree] at hk hok ⊢
    refine fun _=>⟨f,PA (s:={ s with at_:=s.at_+1,step:=if s.at_+1=(s.writes.length:Int) then 2 else s.step }) hok hk hS.rthere (On hf rfl rfl rfl rfl rfl fun _=>hfin)⟩
   ·rw [if_neg hfree];exact Oo _ s
 rw [if_neg h1] at hE
 by_cases h2:s.step=2
 ·rw [if_pos h2] at hE;cases hE
  obtain ⟨f,hf⟩:=hG (by omega)
  have hfin:=hf.fin (by omega)
  unfold EM
  split
  ·exact IN _ (by simp [EZ,DB])
  ·exact fun _=>⟨f,On hf rfl rfl rfl rfl rfl fun _=>hfin⟩
 rw [if_neg h2] at hE
 by_cases h3:s.step=3
 ·rw [if_pos h3] at hE;cases hE
  unfold Dh
  split
  ·split
   ·exact IN _ (by simp [EZ,DB])
   ·exact IN _ (by simp)
  ·exact Oo _ s
 rw [if_neg h3] at hE
 by_cases h4:s.step=4
 ·rw [if_pos h4] at hE
  unfold Gu at hE
  cases hw:s.writes[s.at_.toNat]? with
  | none=>rw [hw] at hE;cases hE
  | some w =>
   rw [hw] at hE;simp only [Option.some.injEq] at hE;subst hE
   split
   ·exact IN _ (by simp [DB])
   ·exact IN _ (by show 3<s.step;omega)
 rw [if_neg h4] at hE
 by_cases h5:s.step=5
 ·rw [if_pos h5] at hE;cases hE
  unfold Fo
  split
  ·exact Oo _ s
  ·exact IN _ (by show 3<s.step;omega)
 ·rw [if_neg h5] at hE;cases hE
  have:=AE.1 hS.step
  exact IN _ (by show 3<s.step;omega)
end
end Ve
