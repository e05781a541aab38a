/- TopSerial, on the models, VI: a program run at once (veiltop's alone). -/
import Derived.Test.YthllnfkddiaokaaGreatPL38
set_option linter.all false
set_option linter.unusedSectionVars false
namespace Ve
open Go
def DT:Nat→List AD→Int→A4 Int→A4 (List Int)→A4 (List Int) × Bool
 | 0,_,_,_,o=>(o,true)
 | n+1,p,pc,rs,o =>
  match p[pc.toNat]? with
  | none=>(o,true)
  | some x =>
   if x.code=0 then DT n p (pc+1) (rs.set x.a x.b) o
   else if x.code=1 then DT n p (pc+1) (rs.set x.a ((rs.get x.a+rs.get x.b) % 256)) o
   else if x.code=2 then DT n p (pc+1) (rs.set x.a (((o.get x.b)[x.c.toNat]?).getD 0)) o
   else if x.code=3 then DT n p (pc+1) rs (o.set x.b ((o.get x.b).set x.c.toNat (rs.get x.a)))
   else if x.code=4 then DT n p (if rs.get x.a=0 then x.b else pc+1) rs o
   else (o,false)
structure Rows (W:A4 (List Aj)) (o:A4 (List Int)) (g:Int→Int→Int):Prop where
 len:∀ l,inR l 3=true→(o.get l).length=(W.get l).length
 val:∀ (l i:Int),Ay W l i=true→(o.get l)[i.toNat]?=some (g l i)
theorem US {cs:A4 (List Int)} {l h:Int} {v:List Int} (hl:inR l 3=true) (hh:inR h 3=true):(cs.set l v).get h=if h=l then v else cs.get h:=by
 rcases ER hl with rfl | rfl | rfl | rfl<;>rcases ER hh with rfl | rfl | rfl | rfl<;>rfl
theorem VU {w:Aq} (hw:inR w.index 3=true) {l i:Int}:∀ {ws:List Aq},(∀ x∈ws,inR x.index 3=true)→AT l i (DG w ws)=if w.level=l∧w.index=i then (w.val,true) else AT l i ws
 | [],_=>by
  unfold DG AT
  split<;>simp [AT]
 | x::r,h=>by
  have hx:=h x (by simp)
  have ih:=VU hw (l:=l) (i:=i) (ws:=r) (fun y hy=>h y (by simp [hy]))
  have hx':=AE.1 hx
  have hw':=AE.1 hw
  unfold DG
  split
  ·rename_i hlt
   unfold AT
   split
   ·rename_i hc
    rw [if_neg (fun h=>by unfold AK at hlt;rw [hc.1,hc.2,h.1,h.2] at hlt;omega)]
   ·exact ih
  ·split
   ·rename_i he
    have e1:x.level=w.level:=by unfold AK at he;omega
    have e2:x.index=w.index:=by unfold AK at he;omega
    by_cases hc:w.level=l∧w.index=i
    ·rw [if_pos hc];unfold AT;rw [if_pos hc]
    ·rw [if_neg hc]
     unfold AT
     rw [if_neg hc,if_neg (by rw [e1,e2];exact hc)]
   ·by_cases hc:w.level=l∧w.index=i
    ·rw [if_pos hc];unfold AT;rw [if_pos hc]
    ·rw [if_neg hc];rw [AT,if_neg hc]
theorem sJ {w:Aq} (hw:inR w.index 3=true) {ws:List Aq} (h:∀ x∈ws,inR x.index 3=true) (g:Int→Int→Int) (l i:Int):put (DG w ws) g l i=if l=w.level∧i=w.index then w.val else put ws g l i:=by
 unfold put
 rw [VU hw h]
 by_cases hc:w.level=l∧w.index=i
 ·have hc':l=w.level∧i=w.index:=⟨hc.1.symm,hc.2.symm⟩
  rw [if_pos hc,if_pos hc'];rfl
 ·have hc':¬ (l=w.level∧i=w.index):=fun h=>hc ⟨h.1.symm,h.2.symm⟩
  rw [if_neg hc,if_neg hc']
theorem bY {W:A4 (List Aj)} {g:Int→Int→Int} {p:List AD} (hW:AS W=true) (hp:Dg p=true) (hth:DL W p=true):∀ {pc:Int} {rs:A4 Int} {ws out:List Aq},Res g p pc rs ws out→0≤pc→(∀ x∈ws,inR x.index 3=true)→∀ (n:Nat) (o:A4 (List Int)),p.length<pc.toNat+n→Rows W o (put ws g)→∃ o',DT n p pc rs o=(o',true)∧Rows W o' (put out g):=by
 have hpm:=hp
 unfold Dg at hpm
 rw [Bool.and_eq_true] at hpm
 have hin:∀ {pc:Int} {x:AD},p[pc.toNat]?=some x→x.code=2∨x.code=3→Ay W x.b x.c=true:=by
  intro pc x hx h2
  have:=(List.all_eq_true.1 hth) x (List.mem_of_getElem? hx)
  rcases h2 with h2 | h2<;>simpa [Fy,h2] using this
 have hidx:∀ {pc:Int} {x:AD},p[pc.toNat]?=some x→x.code=2∨x.code=3→inR x.c 3=true:=by
  intro pc x hx h2
  have:=(IH p _ 0 hpm.1 _ x hx).1
  unfold BK at this
  rw [if_neg (by omega),if_neg (by omega),if_pos h2] at this
  simp only [Bool.and_eq_true] at this
  exact this.2
 intro pc rs ws out h
 induction h with
 | fin hx =>
  intro h0 hws n o hn hR
  cases n with
  | zero=>exact ⟨o,rfl,hR⟩
  | succ n=>exact ⟨o,by simp only [DT,hx],hR⟩
 | @own pc rs ws out x hx h2 hf _ ih =>
  intro h0 hws n o hn hR
  have hlt:=Ax hx
  cases n with
  | zero=>omega
  | succ n =>
   obtain ⟨o',e,hR'⟩:=ih (by omega) hws n o (by omega) hR
   refine ⟨o',?_,hR'⟩
   have hv:((o.get x.b)[x.c.toNat]?).getD 0=(AT x.b x.c ws).1:=by
    rw [hR.val _ _ (hin hx (.inl h2))];unfold put;rw [if_pos hf];rfl
   simp only [DT,hx]
   rw [if_neg (by omega),if_neg (by omega),if_pos h2,hv];exact e
 | @read pc rs ws out x hx h2 hf _ ih =>
  intro h0 hws n o hn hR
  have hlt:=Ax hx
  cases n with
  | zero=>omega
  | succ n =>
   obtain ⟨o',e,hR'⟩:=ih (by omega) hws n o (by omega) hR
   refine ⟨o',?_,hR'⟩
   have hv:((o.get x.b)[x.c.toNat]?).getD 0=g x.b x.c:=by
    rw [hR.val _ _ (hin hx (.inl h2))];unfold put;rw [if_neg (by simp [hf])];rfl
   simp only [DT,hx]
   rw [if_neg (by omega),if_neg (by omega),if_pos h2,hv];exact e
 | @store pc rs ws out x hx h3 _ ih =>
  intro h0 hws n o hn hR
  have hlt:=Ax hx
  have hwt:=hin hx (.inr h3)
  have hic:=hidx hx (.inr h3)
  cases n with
  | zero=>omega
  | succ n =>
   have hl3:=(Bk hwt).1
   have hR2:Rows W (o.set x.b ((o.get x.b).set x.c.toNat (rs.get x.a))) (put (DG ⟨x.b,x.c,rs.get x.a⟩ ws) g):=by
    refine ⟨fun l hl=>?_,fun l i hli=>?_⟩
    ·rw [US hl3 hl];split
     ·rename_i e;subst e;simp [hR.len _ hl]
     ·exact hR.len l hl
    ·have hl:=(Bk hli).1
     rw [US hl3 hl,sJ hic hws]
     obtain ⟨_,a,ea,_⟩:=Bk hwt
     obtain ⟨_,b,eb,_⟩:=Bk hli
     by_cases hll:l=x.b
     ·subst hll
      rw [if_pos rfl]
      by_cases hii:i=x.c
      ·subst hii
       rw [if_pos ⟨rfl,rfl⟩]
       exact List.getElem?_set_self (Ax (hR.val _ _ hwt))
      ·rw [if_neg (fun h=>hii h.2),List.getElem?_set_ne (by omega)]
       exact hR.val _ _ hli
     ·rw [if_neg hll,if_neg (fun h=>hll h.1)];exact hR.val _ _ hli
   have hws2:∀ y∈DG ⟨x.b,x.c,rs.get x.a⟩ ws,inR y.index 3=true:=by
    intro y hy
    rcases JG hy with h | h
    ·rw [h];exact hic
    ·exact hws y h
   obtain ⟨o',e,hR'⟩:=ih (by omega) hws2 n _ (by omega) hR2
   refine ⟨o',?_,hR'⟩
   simp only [DT,hx]
   rw [if_neg (by omega),if_neg (by omega),if_neg (by omega),if_pos h3];exact e
 | @set pc rs ws out x hx h3 _ ih =>
  intro h0 hws n o hn hR
  have hlt:=Ax hx
  cases n with
  | zero=>omega
  | succ n =>
   obtain ⟨o',e,hR'⟩:=ih (by omega) hws n o (by omega) hR
   exact ⟨o',by simp only [DT,hx];rw [if_pos h3];exact e,hR'⟩
 | @add pc rs ws out x hx h3 _ ih =>
  intro h0 hws n o hn hR
  have hlt:=Ax hx
  cases n with
  | zero=>omega
  | succ n =>
   obtain ⟨o',e,hR'⟩:=ih (by omega) hws n o (by omega) hR
   exact ⟨o',by simp only [DT,hx];rw [if_neg (by omega),if_pos h3];exact e,hR'⟩
 | @zero pc rs ws out x hx h3 _ ih =>
  intro h0 hws n o hn hR
  have hlt:=Ax hx
  have hj:=(IH p _ 0 hpm.1 _ x hx).2 h3
  cases n with
  | zero=>omega
  | succ n =>
   obtain ⟨o',e,hR'⟩:=ih (by split<;>omega) hws n o (by split<;>omega) hR
   exact ⟨o',by simp only [DT,hx];rw [if_neg (by omega),if_neg (by omega),if_neg (by omega),if_neg (by omega),if_pos h3];exact e,hR'⟩
end Ve
