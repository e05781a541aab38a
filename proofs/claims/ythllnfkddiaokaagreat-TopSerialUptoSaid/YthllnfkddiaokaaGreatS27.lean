/- The reference's writing back. -/
import Derived.Test.YthllnfkddiaokaaGreatVeSB
import Derived.Test.YthllnfkddiaokaaGreatVeP
import Derived.Test.YthllnfkddiaokaaGreatVeN
set_option linter.all false
set_option linter.unusedSectionVars false
namespace Ve
open Go Ve.Ab
set_option maxHeartbeats 16000000
set_option maxRecDepth 10000
theorem Sk {α:Type} (ws:A4 (List α)) (i:Int) (w:α):CK ws 0 i w=⟨ws.a0.set i.toNat w,ws.a1,ws.a2,ws.a3⟩:=rfl
theorem Sj {α:Type} (ws:A4 (List α)) (i:Int) (w:α):CK ws 1 i w=⟨ws.a0,ws.a1.set i.toNat w,ws.a2,ws.a3⟩:=rfl
theorem Si {α:Type} (ws:A4 (List α)) (i:Int) (w:α):CK ws 2 i w=⟨ws.a0,ws.a1,ws.a2.set i.toNat w,ws.a3⟩:=rfl
theorem Sh {α:Type} (ws:A4 (List α)) (i:Int) (w:α):CK ws 3 i w=⟨ws.a0,ws.a1,ws.a2,ws.a3.set i.toNat w⟩:=rfl
theorem Ys {m:Ac} (hM:Br m) {s:Ae} (hS:SP m.words s) {n:Nat} {w:Aq} (hi:s.writes[n]?=some w):∃ (j:Nat) (g:Aj),w.index=(j:Int)∧(m.words.get w.level)[j]?=some g∧Ba g=true∧(w.level=0∨w.level=1∨w.level=2∨w.level=3)∧inR w.val 255=true:=by
 obtain ⟨h1,h2⟩:=Kg hS hi
 simp only [Ay,Bool.and_eq_true,decide_eq_true_eq] at h1
 obtain ⟨⟨h1,h3⟩,h4⟩:=h1
 simp only [AL,Bool.and_eq_true] at h2
 have hj:w.index.toNat<(m.words.get w.level).length:=by omega
 refine ⟨w.index.toNat,(m.words.get w.level)[w.index.toNat],by omega,by simp [hj],?_,?_,h2.2⟩
 ·have ha:=hM.arena
  have hmem:(m.words.get w.level)[w.index.toNat]∈m.words.get w.level:=List.getElem_mem hj
  simp only [AS,A4.all,Ch,Bool.and_eq_true,List.all_eq_true,decide_eq_true_eq] at ha
  generalize (m.words.get w.level)[w.index.toNat]=g at hmem
  unfold A4.get at hmem
  obtain ⟨⟨⟨a0,a1⟩,a2⟩,a3⟩:=ha
  split at hmem
  ·exact a0.2 g hmem
  ·split at hmem
   ·exact a1.2 g hmem
   ·split at hmem
    ·exact a2.2 g hmem
    ·exact a3.2 g hmem
 ·rcases Dm w.level with h | h | h | h | h
  ·exact .inl h
  ·exact .inr (.inl h)
  ·exact .inr (.inr (.inl h))
  ·exact .inr (.inr (.inr h))
  ·rw [h1] at h;cases h
theorem qL {m:Ac} (hm:SmM m) (l i:Int) (g:Aj):SmM (Hl m l i g):=by
 have:∀ (ws:A4 (List Aj)),((CK ws l i g).a0.length=ws.a0.length∧(CK ws l i g).a1.length=ws.a1.length∧(CK ws l i g).a2.length=ws.a2.length∧(CK ws l i g).a3.length=ws.a3.length):=by
  intro ws
  unfold CK A4.set A4.get
  split
  ·simp
  ·split
   ·simp
   ·split<;>simp
 obtain ⟨h0,h1,h2,h3⟩:=this m.words
 exact ⟨by simp only [Hl,h0];exact hm.b0,by simp only [Hl,h1];exact hm.b1,by simp only [Hl,h2];exact hm.b2,by simp only [Hl,h3];exact hm.b3,hm.bs,hm.bt,hm.s⟩
theorem qK {m:Ac} (hm:SmM m) (k:Nat) {s:Ae} (hs:SmS s):SmM (Bd m k s):=by
 refine ⟨hm.b0,hm.b1,hm.b2,hm.b3,by simp only [Bd,List.length_set];exact hm.bs,hm.bt,fun x hx=>?_⟩
 rcases List.mem_or_eq_of_mem_set hx with h | h
 ·exact hm.s x h
 ·rw [h];exact hs
theorem hZ {m:Ac} (hm:SmM m) {k:Nat} {s:Ae} (hs:m.sess[k]?=some s) (w:Aq):SmM (Cl m k s w):=by
 have h:=hm.s s (List.mem_of_getElem? hs)
 exact qK (qL hm _ _ _) _ ⟨h.bp,h.br,h.bw⟩
theorem gA {g:Aj} (hg:Ba g=true) {v c:Int} (hv:inR v 255=true) (hc:inR c 65535=true):Jk g v c=(⟨v,c,0⟩,0):=by
 have:Ba ⟨v,c,0⟩=true:=by simp only [Ba,hv,hc];rfl
 unfold Jk;rw [hg,this];rfl
theorem Nn {m:Ac} {at_:Int} (h:Fw m at_ 4=none):Fs m at_=(AA,2100):=by unfold Fs;rw [h]
theorem fN {m:Ac} {at_:Int} {s:Ae} {w:Aq} (h:Fw m at_ 4=some (s,w)) (hl:s.at_+1=s.writes.length):Fs m at_=ET (Cl m at_ s w) at_ 1 0:=by unfold Fs;rw [h];simp only [hl,if_true]
theorem fM {m:Ac} {at_:Int} {s:Ae} {w:Aq} (h:Fw m at_ 4=some (s,w)) (hl:¬ s.at_+1=s.writes.length):Fs m at_=(Cl m at_ s w,0):=by unfold Fs;rw [h];simp only [hl,if_false]
end Ve
