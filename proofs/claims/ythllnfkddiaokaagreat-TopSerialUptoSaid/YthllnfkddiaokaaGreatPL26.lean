/- Locks and versions, all along a run. -/
import Derived.Test.YthllnfkddiaokaaGreatVeP
set_option linter.all false
set_option linter.unusedSectionVars false
namespace Ve
open Go
structure Lk (m:Ac) (s:Ae):Prop where
 grab:s.step=1→∀ (j:Nat) w,(j:Int)<s.at_→s.writes[j]?=some w→(AB m.words w.level w.index).lock=s.id+1
 held:(s.step=2∨s.step=3)→∀ w∈s.writes,(AB m.words w.level w.index).lock=s.id+1
 back:s.step=4→∀ (j:Nat) w,s.at_≤(j:Int)→s.writes[j]?=some w→(AB m.words w.level w.index).lock=s.id+1
 ver:(s.step=3∨s.step=4)→∀ w∈s.writes,(AB m.words w.level w.index).lock=s.id+1→(AB m.words w.level w.index).ver<s.stamp
 st:(s.step=3∨s.step=4)→s.writes≠[]→1≤s.stamp∧s.stamp≤m.clocks.get s.label
structure Do (m:Ac):Prop where
 inv:Inv m
 lk:∀ s∈m.sess,Lk m s
 ver:∀ (h:Int) (i:Nat) (w:Aj),inR h 3=true→(m.words.get h)[i]?=some w→w.ver≤m.clocks.get h
theorem Bk {ws:A4 (List Aj)} {l i:Int} (h:Ay ws l i=true):inR l 3=true∧∃ n:Nat,i=(n:Int)∧(ws.get l)[n]?=some (AB ws l i):=by
 simp only [Ay,Bool.and_eq_true,decide_eq_true_eq] at h
 have hj:i.toNat<(ws.get l).length:=by omega
 refine ⟨h.1.1,i.toNat,by omega,?_⟩
 rw [List.getElem?_eq_getElem hj];unfold AB;rw [List.getElem?_eq_getElem hj];rfl
theorem HL {ws:A4 (List Aj)} {l:Int} {n:Nat} {w:Aj} (h:(ws.get l)[n]?=some w):AB ws l (n:Int)=w:=by unfold AB;rw [Int.toNat_natCast,h];rfl
theorem jF {f:WF} {ws:A4 (List Aj)} (hf:f.ok) {l:Int} {n:Nat} {w:Aj} (hl:inR l 3=true) (h:(ws.get l)[n]?=some w):∃ w',((f.app ws).get l)[n]?=some w'∧(f.row l (ws.get l))[n]?=some w':=by
 rw [WF.app_get hf ws l hl]
 have hn:=Ax h
 have hlen:(f.row l (ws.get l)).length=(ws.get l).length:=by
  cases f with
  | id=>rfl
  | free c=>simp [WF.row]
  | set a b w=>simp only [WF.row];split<;>simp
  | setFree a b w c=>simp only [WF.row];split<;>simp
 exact ⟨_,List.getElem?_eq_getElem (by omega),List.getElem?_eq_getElem (by omega)⟩
def WF.over (ws:A4 (List Aj)) (id:Int):WF→Prop
 | .set l i w=>Ay ws l i=true∧((AB ws l i).lock=0∨(AB ws l i).lock=id+1)∧(w.lock=0∨w.lock=id+1)
 | .setFree l i w _=>Ay ws l i=true∧((AB ws l i).lock=0∨(AB ws l i).lock=id+1)∧(w.lock=0∨w.lock=id+1)
 | _=>True
theorem dP {s:Ae} {f:WF} {ws:A4 (List Aj)} (hok:f.ok) (hm:f.mine s) (ho:f.over ws s.id) {l i:Int} (hth:Ay ws l i=true) (h0:(AB ws l i).lock≠0) (h1:(AB ws l i).lock≠s.id+1):AB (f.app ws) l i=AB ws l i:=by
 obtain ⟨hl,n,rfl,hw⟩:=Bk hth
 generalize hv:AB ws l (n:Int)=v at hw h0 h1 ⊢
 have hset:∀ a b w,Ay ws a b=true→((AB ws a b).lock=0∨(AB ws a b).lock=s.id+1)→(if l=a then (ws.get l).set b.toNat w else ws.get l)[n]?=some v:=by
  intro a b w h2 h3
  split
  ·rename_i e;subst e
   rw [List.getElem?_set_ne]
   ·exact hw
   ·intro e
    obtain ⟨_,q,hq,_⟩:=Bk h2
    have:b=(n:Int):=by omega
    rw [this,hv] at h3
    rcases h3 with h3 | h3
    ·exact h0 h3
    ·exact h1 h3
  ·exact hw
 have hfr:Aw (s.id+1) v=v:=by unfold Aw;rw [if_neg h1]
 apply HL
 rw [WF.app_get hok ws l hl]
 cases f with
 | id=>exact hw
 | free c=>simp only [WF.mine] at hm;subst hm;simp only [WF.row,List.getElem?_map,hw,Option.map_some,hfr]
 | set a b w=>exact hset a b w ho.1 ho.2.1
 | setFree a b w c=>simp only [WF.mine] at hm;rw [hm.2];simp only [WF.row,List.getElem?_map,hset a b w ho.1 ho.2.1,Option.map_some,hfr]
def oC (cs:A4 Int) (l:Int):Option Int→Prop
 | none=>True
 | some v=>cs.get l≤v
theorem oB {cs:A4 Int} {l:Int} {c:Option Int} (hl:inR l 3=true) (h:oC cs l c) {a:Int} (ha:inR a 3=true):cs.get a≤(PR l cs c).get a:=by
 cases c with
 | none=>exact Int.le_refl _
 | some v =>
  simp only [PR];rw [KB hl ha]
  split
  ·rename_i e;rw [e];exact h
  ·exact Int.le_refl _
theorem lX {m:Ac} {k:Nat} {s x:Ae} {E:Ef} (hI:Inv m) (hs:m.sess[k]?=some s) (hx:x∈m.sess) (hne:x≠s) (hE:Up s E) (ho:E.w.over m.words s.id) (hc:oC m.clocks s.label E.c) (h:Lk m x):Lk (E.app m k s.label) x:=by
 have hS:=BU hs hI
 have hXS:=(sp _ _).1 (hI.may.sess x hx)
 have hid:=AE.1 hXS.id
 have hne':x.id≠s.id:=fun e=>hne (Lm hI.may hx (List.mem_of_getElem? hs) e)
 have hth:∀ w∈x.writes,Ay m.words w.level w.index=true:=by
  intro w hw
  have:=hXS.wthere
  simp only [Cf,List.all_eq_true] at this
  exact this w hw
 have key:∀ w∈x.writes,(AB m.words w.level w.index).lock=x.id+1→AB (E.app m k s.label).words w.level w.index=AB m.words w.level w.index:=by
  intro w hw hl
  rw [BM]
  exact dP (HJ hS.label hE.w) hE.w ho (hth w hw) (by omega) (by omega)
 have hback:∀ w∈x.writes,(AB (E.app m k s.label).words w.level w.index).lock=x.id+1→(AB m.words w.level w.index).lock=x.id+1:=by
  intro w hw hl
  have ht:=hth w hw
  by_cases h1:(AB m.words w.level w.index).lock=x.id+1
  ·exact h1
  ·exfalso
   obtain ⟨hl3,n,hn,hgw⟩:=Bk ht
   rw [BM] at hl
   obtain ⟨w',e1,e2⟩:=jF (HJ hS.label hE.w) hl3 hgw
   rw [hn,HL e1] at hl
   rw [hn] at h1
   have hold:=HL hgw
   rw [hn] at hold
   have hm:=hE.w
   have hfr:∀ u:Aj,(Aw (s.id+1) u).lock=x.id+1→u.lock=x.id+1:=by
    intro u hu;unfold Aw at hu
    split at hu
    ·simp only at hu;omega
    ·exact hu
   rw [hn] at hgw
   have hput:∀ (a b:Int) (u:Aj),(u.lock=0∨u.lock=s.id+1)→∀ q,(if w.level=a then (m.words.get w.level).set b.toNat u else m.words.get w.level)[n]?=some q→q.lock=x.id+1→False:=by
    intro a b u hu q hq hql
    split at hq
    ·rw [List.getElem?_set] at hq
     split at hq
     ·split at hq
      ·cases hq;omega
      ·cases hq
     ·rw [hgw] at hq;cases hq;exact h1 hql
    ·rw [hgw] at hq;cases hq;exact h1 hql
   cases hf:E.w with
   | id=>rw [hf] at e2;simp only [WF.row] at e2;rw [hgw] at e2;cases e2;exact h1 hl
   | free c =>
    rw [hf] at e2 hm;simp only [WF.mine] at hm
    simp only [WF.row,List.getElem?_map,hgw,Option.map_some,Option.some.injEq,hm] at e2
    rw [← e2] at hl;exact h1 (hfr _ hl)
   | set a b u =>
    rw [hf] at e2 ho
    exact hput a b u ho.2.2 w' (by simpa only [WF.row] using e2) hl
   | setFree a b u c =>
    rw [hf] at e2 ho hm
    simp only [WF.mine] at hm
    simp only [WF.row,hm.2,List.getElem?_map] at e2
    cases hq:(if w.level=a then (m.words.get w.level).set b.toNat u else m.words.get w.level)[n]? with
    | none=>rw [hq] at e2;cases e2
    | some q =>
     rw [hq,Option.map_some,Option.some.injEq] at e2
     rw [← e2] at hl
     exact hput a b u ho.2.2 q hq (hfr _ hl)
 have hkey:∀ w∈x.writes,(AB (E.app m k s.label).words w.level w.index).lock=x.id+1→AB (E.app m k s.label).words w.level w.index=AB m.words w.level w.index:=fun w hw hl=>key w hw (hback w hw hl)
 refine ⟨fun h1 j w hj hw=>?_,fun h1 w hw=>?_,fun h1 j w hj hw=>?_,fun h1 w hw hl=>?_,fun h1 hn=>?_⟩
 ·have:=h.grab h1 j w hj hw
  rw [key w (List.mem_of_getElem? hw) this];exact this
 ·have:=h.held h1 w hw
  rw [key w hw this];exact this
 ·have:=h.back h1 j w hj hw
  rw [key w (List.mem_of_getElem? hw) this];exact this
 ·rw [hkey w hw hl];exact h.ver h1 w hw (hback w hw hl)
 ·obtain ⟨g1,g2⟩:=h.st h1 hn
  refine ⟨g1,Int.le_trans g2 ?_⟩
  rw [FQ];exact oB hS.label hc hXS.label
end Ve
