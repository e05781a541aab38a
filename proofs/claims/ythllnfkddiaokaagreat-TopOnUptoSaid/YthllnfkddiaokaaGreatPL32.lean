/- One session alone: TopOn, on the models. -/
import Derived.Test.YthllnfkddiaokaaGreatPL27
set_option linter.all false
set_option linter.unusedSectionVars false
namespace Ve
open Go
def MW (s:Ae):Int :=
 match s.prog[s.pc.toNat]? with
 | some x=>if x.code=2∧Ao x.b s.label=true then 1 else 0
 | none=>0
theorem Kp (s:Ae):0≤MW s∧MW s≤1:=by
 unfold MW;split
 ·split<;>omega
 ·omega
def rank (s:Ae):Int :=
 if s.step=0 then 2*(s.prog.length - s.pc) - MW s+2*s.prog.length+3
 else if s.step=1 then 2*s.writes.length - s.at_+2
 else if s.step=2 then s.writes.length+2
 else if s.step=3 then s.writes.length+1
 else if s.step=4 then s.writes.length - s.at_
 else 0
structure KX (m:Ac) (s:Ae):Prop where
 others:∀ x∈m.sess,x≠s→x.step=0
 tries:s.tries=0
 rd:s.step≠4→s.step≠6→∀ r∈s.reads,(AB m.words r.level r.index).ver=r.ver
 gr:s.step=1→∀ (j:Nat) w,s.at_≤(j:Int)→s.writes[j]?=some w→(AB m.words w.level w.index).lock=0
 wr:s.step=0→(s.writes.length:Int)≤s.pc
 wl:s.writes.length≤s.prog.length
structure Uq (ws:A4 (List Aj)) (s t:Ae):Prop where
 prog:t.prog=s.prog
 tries:t.tries=0
 rd:t.step≠4→t.step≠6→∀ r∈t.reads,(AB ws r.level r.index).ver=r.ver
 gr:t.step=1→∀ (j:Nat) w,t.at_≤(j:Int)→t.writes[j]?=some w→(AB ws w.level w.index).lock=0
 wr:t.step=0→(t.writes.length:Int)≤t.pc
 wl:t.writes.length≤t.prog.length
 rank:rank t<rank s∨(rank t=0∧rank s=0)
theorem Zp {w:Aq}:∀ {l:List Aq},(DG w l).length≤l.length+1
 | []=>by simp [DG]
 | x::r=>by
  have:=@Zp w r
  unfold DG
  split
  ·simp only [List.length_cons];omega
  ·split<;>simp only [List.length_cons]<;>omega
section
variable {m:Ac} {k:Nat} {s:Ae} (hs:m.sess[k]?=some s) (hI:Do m) (hA:KX m s)
include hs hI hA
theorem Pp {l i:Int} (h:Ay m.words l i=true):(AB m.words l i).lock=0∨((AB m.words l i).lock=s.id+1∧1≤s.step∧s.step≤4):=by
 obtain ⟨hl,n,rfl,hw⟩:=Bk h
 by_cases h0:(AB m.words l (n:Int)).lock=0
 ·exact .inl h0
 ·right
  obtain ⟨u,hu⟩:=hI.inv.lock l n _ hl hw h0
  by_cases e:u=s
  ·subst e;exact ⟨hu.id,hu.step⟩
  ·have:=hA.others u hu.mem e
   have:=hu.step;omega
theorem OS (h4:s.step≠4) (h6:s.step≠6):s.reads.all (CA m.words s.id)=true:=by
 have hS:=BU hs hI.inv
 rw [List.all_eq_true]
 intro r hr
 have hth:Ay m.words r.level r.index=true:=(List.all_eq_true.1 hS.rthere) r hr
 unfold CA
 rw [hA.rd h4 h6 r hr]
 rcases Pp hs hI hA hth with h | ⟨h,_⟩<;>simp [h]
theorem Xe (h4:s.step≠4) (h6:s.step≠6):s.reads.any (Dp m.words)=false:=by
 rw [List.any_eq_false]
 intro r hr
 unfold Dp
 rw [hA.rd h4 h6 r hr];simp
theorem wthere (w:Aq) (hw:w∈s.writes):Ay m.words w.level w.index=true:=CD hs hI hw
theorem Pt (ws:A4 (List Aj)) (r t:Int) (h:0<rank s):Uq ws s (DB s r t):=by
 refine ⟨rfl,hA.tries,fun _ h6=>absurd rfl h6,fun h=>?_,fun h=>?_,by simp [DB,ED],.inl (by simpa [rank,DB] using h)⟩
 ·simp [DB] at h
 ·simp [DB] at h
theorem jI (h0:s.step=0):0<rank s:=by
 have hS:=BU hs hI.inv
 have hp:=AE.1 hS.pc
 have:=Kp s
 unfold rank;rw [if_pos h0];omega
theorem Kt (h0:s.step=0) {t:Ae} (h1:t.prog=s.prog) (h2:t.tries=0) (h3:t.step=0) (h4:s.pc<t.pc) (h5:t.writes.length≤s.writes.length+1) (h6:∀ r∈t.reads,(AB m.words r.level r.index).ver=r.ver) (h7:t.pc≤s.prog.length):Uq m.words s t:=by
 have hw:=hA.wr h0
 refine ⟨h1,h2,fun _ _=>h6,fun h=>by omega,fun _=>by omega,by rw [h1];omega,.inl ?_⟩
 have:=Kp s;have:=Kp t
 unfold rank;rw [if_pos h0,if_pos h3,h1];omega
theorem mC (h0:s.step=0):Uq ((GF m.words s).w.app m.words) s (GF m.words s).t:=by
 have hS:=BU hs hI.inv
 have hp:=AE.1 hS.pc
 have hrk:=jI hs hI hA h0
 have hw:=hA.wr h0
 have hrd:=hA.rd (by omega) (by omega)
 have hend:∀ r t,Uq ((EZ s r t).w.app m.words) s (EZ s r t).t:=fun r t=>Pt hs hI hA _ r t hrk
 unfold GF
 cases hx:s.prog[s.pc.toNat]? with
 | none =>
  have hge:s.prog.length≤s.pc.toNat:=by simpa using hx
  simp only;unfold IT
  split
  ·by_cases hn:s.writes=[]
   ·simp only [hn,if_true]
    refine ⟨rfl,hA.tries,fun _ _=>hrd,fun h=>?_,fun h=>?_,by simp,.inl ?_⟩
    ·simp at h
    ·simp at h
    ·have:=Kp s
     unfold rank;rw [if_pos h0];simp;omega
   ·simp only [hn,if_false]
    refine ⟨rfl,hA.tries,fun _ _=>hrd,fun _ j w _ hj=>?_,fun h=>?_,hA.wl,.inl ?_⟩
    ·rcases Pp hs hI hA (CD hs hI (List.mem_of_getElem? hj)) with h | ⟨_,h,_⟩
     ·exact h
     ·omega
    ·simp at h
    ·have hn0:MW s=0:=by unfold MW;rw [hx]
     have:=hA.wl
     unfold rank;rw [if_pos h0,hn0];simp;omega
  ·exact hend 3 0
 | some x =>
  have hlt:=Ax hx
  have hpm:Dg s.prog=true:=hS.prog
  unfold Dg at hpm
  rw [Bool.and_eq_true] at hpm
  obtain ⟨_,hjump⟩:=IH s.prog _ 0 hpm.1 _ x hx
  simp only
  split
  ·rename_i h2
   split
   ·rename_i hu
    unfold FS
    split
    ·exact Kt hs hI hA h0 rfl hA.tries h0 (by show s.pc<s.pc+1;omega) (Nat.le_succ _) hrd (by show s.pc+1≤_;omega)
    ·split
     ·refine Kt hs hI hA h0 rfl hA.tries h0 (by show s.pc<s.pc+1;omega) (Nat.le_succ _) (fun r hr=>?_) (by show s.pc+1≤_;omega)
      have hr:r∈HX s.reads ⟨x.b,x.c,(AB m.words x.b x.c).ver⟩:=hr
      unfold HX at hr
      split at hr
      ·exact hrd r hr
      ·rcases List.mem_append.1 hr with hr | hr
       ·exact hrd r hr
       ·simp only [List.mem_singleton] at hr;subst hr;rfl
     ·rename_i hbad
      exfalso;apply hbad
      refine ⟨OS hs hI hA (by omega) (by omega),?_⟩
      have hth:Ay m.words x.b x.c=true:=by
       have:=(List.all_eq_true.1 hS.pthere) x (List.mem_of_getElem? hx)
       simpa [Fy,h2] using this
      rcases Pp hs hI hA hth with h | ⟨_,h,_⟩
      ·exact h
      ·omega
   ·rename_i hu
    unfold GZ
    split
    ·refine ⟨rfl,hA.tries,fun _ _=>hrd,fun h=>?_,fun _=>hw,hA.wl,.inl ?_⟩
     ·simp only at h;omega
     ·have hn0:MW s=0:=by unfold MW;rw [hx];simp only;rw [if_neg (fun h=>hu h.2)]
      have hb:inR x.b 3=true:=by
       have hth:Ay m.words x.b x.c=true:=by
        have:=(List.all_eq_true.1 hS.pthere) x (List.mem_of_getElem? hx)
        simpa [Fy,h2] using this
       exact (Bk hth).1
      have hn1:MW { s with label:=orI s.label x.b }=1:=by
       have hu':Ao x.b (orI s.label x.b)=true:=by
        have:∀ a b,(a=0∨a=1∨a=2∨a=3)→(b=0∨b=1∨b=2∨b=3)→Ao b (orI a b)=true:=by
         intro a b ha hb
         rcases ha with rfl | rfl | rfl | rfl<;>rcases hb with rfl | rfl | rfl | rfl<;>decide
        exact this _ _ (ER hS.label) (ER hb)
       unfold MW;simp only [hx]
       rw [if_pos ⟨h2,hu'⟩]
      have e1:rank s=2*(s.prog.length - s.pc) - MW s+2*s.prog.length+3:=by unfold rank;rw [if_pos h0]
      have e2:rank { s with label:=orI s.label x.b }=2*(s.prog.length - s.pc) - MW { s with label:=orI s.label x.b }+2*s.prog.length+3:=by unfold rank;rw [if_pos h0]
      rw [e1,e2,hn0,hn1];omega
    ·exact hend 4 0
  ·split
   ·refine Kt hs hI hA h0 rfl hA.tries h0 (by show s.pc<s.pc+1;omega) ?_ hrd (by show s.pc+1≤_;omega)
    exact Zp
   ·split
    ·refine ⟨rfl,hA.tries,fun _ _=>hrd,fun h=>?_,fun h=>?_,by simp,.inl ?_⟩
     ·simp at h
     ·simp at h
     ·simpa [rank] using hrk
    ·split
     ·exact hend 2 _
     ·unfold IU
      split
      ·exact Kt hs hI hA h0 rfl hA.tries h0 (by show s.pc<s.pc+1;omega) (Nat.le_succ _) hrd (by show s.pc+1≤_;omega)
      ·split
       ·exact Kt hs hI hA h0 rfl hA.tries h0 (by show s.pc<s.pc+1;omega) (Nat.le_succ _) hrd (by show s.pc+1≤_;omega)
       ·rename_i g2 g3 g5 g6 g0 g1
        have g4:x.code=4:=by
         have:=(IH s.prog _ 0 hpm.1 _ x hx).1
         unfold BK at this
         rw [if_neg g0,if_neg g1,if_neg (by omega)] at this
         by_cases g4:x.code=4
         ·exact g4
         ·rw [if_neg g4,if_neg g5,if_neg g6] at this;cases this
        have hj:=hjump g4
        have hgo:s.pc<(if s.regs.get x.a=0 then x.b else s.pc+1)∧(if s.regs.get x.a=0 then x.b else s.pc+1)≤s.prog.length:=by
         split<;>omega
        exact Kt hs hI hA h0 rfl hA.tries h0 hgo.1 (Nat.le_succ _) hrd hgo.2
end
end Ve
