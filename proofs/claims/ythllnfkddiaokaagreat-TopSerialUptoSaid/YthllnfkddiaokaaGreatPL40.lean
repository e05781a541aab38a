/- TopSerial, on the models, VII: slots, joined with the program run at once. -/
import Derived.Test.YthllnfkddiaokaaGreatPL39
set_option linter.all false
set_option linter.unusedSectionVars false
namespace Ve
open Go
theorem UP {W W':A4 (List Aj)} {o:A4 (List Int)} {g:Int→Int→Int} (h:Rows W o g) (hl:∀ l,inR l 3=true→(W'.get l).length=(W.get l).length):Rows W' o g:=by
 refine ⟨fun l h3=>by rw [h.len l h3,hl l h3],fun l i hth=>h.val l i ?_⟩
 have h3:=(Bk hth).1
 unfold Ay at hth ⊢
 rw [hl l h3] at hth;exact hth
theorem serial_slot {m:Ac} (hI:Do m) {x:AO} (hx:AF x=true) {g:Int→Int→Int} (hR:Ser m g) {o:A4 (List Int)} (hO:Rows m.words o g) :
  (AQ m x=(m,0)∧CU m x=(0,false,0))∨∃ (k:Nat) (s t:Ae) (o':A4 (List Int)) (g':Int→Int→Int),CU m x=((k:Int),true,0)∧m.sess[k]?=some s∧(AQ m x).1.sess=m.sess.set k t∧t.prog=s.prog ∧
   ((s.step=3∧(t.step=4∨(t.step=6∧t.result=1))∧DT 17 s.prog 0 ⟨0,0,0,0⟩ o=(o',true))∨(¬ (s.step=3∧(t.step=4∨(t.step=6∧t.result=1)))∧o'=o)) ∧
   Ser (AQ m x).1 g'∧Rows (AQ m x).1.words o' g':=by
 have hlen:=fun h hh=>LC hI hx h hh
 rcases iE hI hx hR with h | ⟨k,s,t,h1,h2,h3,h4,h5,h6⟩
 ·exact .inl h
 ·right
  have hS:=BU h2 hI.inv
  have hprog:t.prog=s.prog:=by
   rcases OF hI.inv hx with e | ⟨j,u,v,A,w1,w2,_,_,w3,_,_,_,hL⟩
   ·have hst:(AQ m x).1.sess[k]?=some t:=by rw [h3];exact List.getElem?_set_self (Ax h2)
    rw [e] at hst;simp only [h2,Option.some.injEq] at hst;rw [hst]
   ·rw [h1] at w1
    simp only [Prod.mk.injEq,and_true,Int.natCast_inj] at w1
    subst w1
    rw [h2] at w2;cases w2
    have hst:(AQ m x).1.sess[k]?=some t:=by rw [h3];exact List.getElem?_set_self (Ax h2)
    rw [w3,hL.sess,List.getElem?_set_self (Ax h2),Option.some.injEq] at hst
    rw [← hst];exact hL.prog
  by_cases hp:MS m s=true
  ·rw [if_pos hp] at h4
   have hres:=h5 hp
   have hlp:s.prog.length≤16:=by
    have:=hS.prog;unfold Dg at this
    simp only [Bool.and_eq_true,decide_eq_true_eq] at this;exact this.2
   have hO':Rows m.words o (put [] g):=⟨hO.len,fun l i h=>by rw [hO.val l i h];rfl⟩
   obtain ⟨o',e1,e2⟩:=bY hI.inv.may.arena hS.prog hS.pthere hres (Int.le_refl 0) (fun y hy=>by cases hy) 17 o (by simp only [Int.toNat_zero];omega) hO'
   have h7:=h6.1 hp
   exact ⟨k,s,t,o',put s.writes g,h1,h2,h3,hprog,.inl ⟨h7.1,h7.2,e1⟩,h4,UP e2 hlen⟩
  ·rw [if_neg hp] at h4
   exact ⟨k,s,t,o,g,h1,h2,h3,hprog,.inr ⟨fun h=>hp (h6.2 h),rfl⟩,h4,UP hO hlen⟩
theorem rows_new (s:Ap):Rows (AC s).words s.words (first s):=by
 have hk:∀ a,(Bf s.words).get a=(s.words.get a).map Dl:=by
  intro a;unfold Bf A4.get;split
  ·rfl
  ·split
   ·rfl
   ·split<;>rfl
 refine ⟨fun l _=>by show _=((Bf s.words).get l).length;rw [hk];simp,fun l i hth=>?_⟩
 obtain ⟨_,n,rfl,hw⟩:=Bk hth
 have hw':((Bf s.words).get l)[n]?=_:=hw
 rw [hk,List.getElem?_map] at hw'
 unfold first
 rw [Int.toNat_natCast]
 cases hq:(s.words.get l)[n]? with
 | none=>rw [hq] at hw';cases hw'
 | some v=>rfl
theorem serial_end {m:Ac} {g:Int→Int→Int} (hR:Ser m g) {o:A4 (List Int)} (hO:Rows m.words o g) (hno:∀ u∈m.sess,u.step≠4) {l:Int} (hl:inR l 3=true):o.get l=(m.words.get l).map (·.val):=by
 apply List.ext_getElem?
 intro n
 by_cases hn:n<(m.words.get l).length
 ·have hth:Ay m.words l (n:Int)=true:=by unfold Ay;simp [hl,hn]
  have h1:=hO.val l n hth
  rw [Int.toNat_natCast] at h1
  rw [h1,qQ hR hno hth,List.getElem?_map]
  obtain ⟨_,n',e,hw⟩:=Bk hth
  have:n'=n:=by omega
  subst this
  rw [hw];rfl
 ·rw [List.getElem?_eq_none (by rw [hO.len l hl];omega),List.getElem?_eq_none (by simp;omega)]
end Ve
