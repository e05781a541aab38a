/- What a step does with a word: TopHalfway, TopVersions, on the models. -/
import Derived.Test.YthllnfkddiaokaaGreatPL27
set_option linter.all false
set_option linter.unusedSectionVars false
namespace Ve
open Go
def WF.says (ws:A4 (List Aj)) (calm:Prop):WF→Prop
 | .set l i w=>Ay ws l i=true∧(AB ws l i).ver≤w.ver∧(calm→w.val=(AB ws l i).val∧w.ver=(AB ws l i).ver)∧(w.ver=0→w.val=(AB ws l i).val∧(AB ws l i).ver=0)
 | .setFree l i w _=>Ay ws l i=true∧(AB ws l i).ver≤w.ver∧(calm→w.val=(AB ws l i).val∧w.ver=(AB ws l i).ver)∧(w.ver=0→w.val=(AB ws l i).val∧(AB ws l i).ver=0)
 | _=>True
structure Nr (calm:Prop) (w w':Aj):Prop where
 ver:w.ver≤w'.ver
 calm:calm→w'.val=w.val∧w'.ver=w.ver
 zero:w'.ver=0→w'.val=w.val∧w.ver=0
theorem FW (calm:Prop) (w:Aj):Nr calm w w:=⟨Int.le_refl _,fun _=>⟨rfl,rfl⟩,fun h=>⟨rfl,h⟩⟩
theorem Ns {calm:Prop} {w w':Aj} (h:Nr calm w w') (c:Int):Nr calm w (Aw c w'):=by
 have e1:(Aw c w').val=w'.val:=by unfold Aw;split<;>rfl
 have e2:(Aw c w').ver=w'.ver:=by unfold Aw;split<;>rfl
 exact ⟨by rw [e2];exact h.ver,fun hc=>by rw [e1,e2];exact h.calm hc,fun hz=>by rw [e1];rw [e2] at hz;exact h.zero hz⟩
theorem OA {calm:Prop} {f:WF} {ws:A4 (List Aj)} (hok:f.ok) (hs:f.says ws calm) (h:Int) (i:Nat) (w:Aj) (hh:inR h 3=true) (hw:(ws.get h)[i]?=some w):∃ w',((f.app ws).get h)[i]?=some w'∧Nr calm w w':=by
 rw [WF.app_get hok ws h hh]
 have hset:∀ (l j:Int) (u:Aj),(Ay ws l j=true∧(AB ws l j).ver≤u.ver∧(calm→u.val=(AB ws l j).val∧u.ver=(AB ws l j).ver)∧(u.ver=0→u.val=(AB ws l j).val∧(AB ws l j).ver=0))→∃ w',(if h=l then (ws.get h).set j.toNat u else ws.get h)[i]?=some w'∧Nr calm w w':=by
  intro l j u ⟨g1,g2,g3,g4⟩
  split
  ·rename_i e;subst e
   obtain ⟨_,n,rfl,hn⟩:=Bk g1
   rw [Int.toNat_natCast]
   by_cases hi:n=i
   ·subst hi
    rw [hw] at hn
    have e:=Option.some.inj hn
    rw [← e] at g2 g3 g4
    exact ⟨u,List.getElem?_set_self (Ax hw),g2,g3,g4⟩
   ·exact ⟨w,by rw [List.getElem?_set_ne hi];exact hw,FW calm w⟩
  ·exact ⟨w,hw,FW calm w⟩
 cases f with
 | id=>exact ⟨w,hw,FW calm w⟩
 | free c=>exact ⟨Aw c w,by simp only [WF.row,List.getElem?_map,hw,Option.map_some],Ns (FW calm w) c⟩
 | set l j u=>exact hset l j u hs
 | setFree l j u c =>
  obtain ⟨w',e1,e2⟩:=hset l j u hs
  exact ⟨Aw c w',by simp only [WF.row,List.getElem?_map,e1,Option.map_some],Ns e2 c⟩
section
variable {m:Ac} {k:Nat} {s:Ae} (hs:m.sess[k]?=some s) (hI:Do m)
include hs hI
theorem ML {E:Ef} (hE:EC m.ceil m.words (m.clocks.get s.label) s=some E):E.w.says m.words (s.step≠4):=by
 have hlk:=hI.lk s (List.mem_of_getElem? hs)
 have hS:=BU hs hI.inv
 have hat:=AE.1 hS.at_
 unfold EC at hE
 by_cases h0:s.step=0
 ·rw [if_pos h0] at hE;cases hE
  unfold GF
  cases s.prog[s.pc.toNat]? with
  | none=>simp only;unfold IT;split<;>exact trivial
  | some x =>
   simp only
   split
   ·split
    ·unfold FS;split
     ·exact trivial
     ·split<;>exact trivial
    ·unfold GZ;split<;>exact trivial
   ·split
    ·exact trivial
    ·split
     ·exact trivial
     ·split
      ·exact trivial
      ·unfold IU;split
       ·exact trivial
       ·split<;>exact trivial
 rw [if_neg h0] at hE
 by_cases h1:s.step=1
 ·rw [if_pos h1] at hE
  unfold Gt at hE
  cases hw:s.writes[s.at_.toNat]? with
  | none=>rw [hw] at hE;cases hE
  | some w =>
   rw [hw] at hE;simp only [Option.some.injEq] at hE;subst hE
   split
   ·exact ⟨CD hs hI (List.mem_of_getElem? hw),Int.le_refl _,fun _=>⟨rfl,rfl⟩,fun h=>⟨rfl,h⟩⟩
   ·exact trivial
 rw [if_neg h1] at hE
 by_cases h2:s.step=2
 ·rw [if_pos h2] at hE;cases hE;unfold EM;split<;>exact trivial
 rw [if_neg h2] at hE
 by_cases h3:s.step=3
 ·rw [if_pos h3] at hE;cases hE;unfold Dh;split
  ·split<;>exact trivial
  ·exact trivial
 rw [if_neg h3] at hE
 by_cases h4:s.step=4
 ·rw [if_pos h4] at hE
  unfold Gu at hE
  cases hw:s.writes[s.at_.toNat]? with
  | none=>rw [hw] at hE;cases hE
  | some w =>
   rw [hw] at hE;simp only [Option.some.injEq] at hE;subst hE
   have hmem:=List.mem_of_getElem? hw
   have hlock:=hlk.back h4 s.at_.toNat w (by omega) hw
   have hv:=hlk.ver (.inr h4) w hmem hlock
   have hst:=hlk.st (.inr h4) (by intro e;rw [e] at hmem;cases hmem)
   split<;>exact ⟨CD hs hI hmem,by show _≤s.stamp;omega,fun hc=>absurd h4 hc,fun hz=>by have:s.stamp=0:=hz;omega⟩
 rw [if_neg h4] at hE
 by_cases h5:s.step=5
 ·rw [if_pos h5] at hE;cases hE;unfold Fo;split<;>exact trivial
 ·rw [if_neg h5] at hE;cases hE;exact trivial
end
def pB (m:Ac) (x:AO):Prop:=∃ (k:Nat) (s:Ae),CU m x=((k:Int),true,0)∧m.sess[k]?=some s∧s.step=4
theorem QE {m:Ac} (hI:Do m) {x:AO} (hx:AF x=true) (h:Int) (i:Nat) (w:Aj) (hh:inR h 3=true) (hw:(m.words.get h)[i]?=some w):∃ w',((AQ m x).1.words.get h)[i]?=some w'∧Nr (¬ pB m x) w w':=by
 rcases Iz hI.inv.may hx with ⟨e,_⟩ | ⟨k,s,e,hs,_⟩
 ·rw [GG e];exact ⟨w,hw,FW _ w⟩
 ·obtain ⟨E,hE,h2,_,hm,_,_⟩:=FI hs hI
  have hS:=BU hs hI.inv
  have e1:(AQ m x).1=E.app m k s.label:=by unfold AQ;rw [e];simp only [if_true,h2]
  rw [e1,BM]
  obtain ⟨w',e2,e3⟩:=OA (HJ hS.label hm.w) (ML hs hI hE) h i w hh hw
  exact ⟨w',e2,e3.ver,fun hc=>e3.calm (fun h4=>hc ⟨k,s,e,hs,h4⟩),e3.zero⟩
theorem LC {m:Ac} (hI:Do m) {x:AO} (hx:AF x=true) (h:Int) (hh:inR h 3=true):((AQ m x).1.words.get h).length=(m.words.get h).length:=by
 rcases Iz hI.inv.may hx with ⟨e,_⟩ | ⟨k,s,e,hs,_⟩
 ·rw [GG e]
 ·obtain ⟨E,hE,h2,_,hm,_,_⟩:=FI hs hI
  have hS:=BU hs hI.inv
  have e1:(AQ m x).1=E.app m k s.label:=by unfold AQ;rw [e];simp only [if_true,h2]
  rw [e1,BM,WF.app_get (HJ hS.label hm.w) _ _ hh]
  cases E.w with
  | id=>rfl
  | free c=>simp [WF.row]
  | set a b w=>simp only [WF.row];split<;>simp
  | setFree a b w c=>simp only [WF.row];split<;>simp
theorem VT {l i:Int}:∀ {ws:List Aq} {p:Aq},p∈ws→p.level=l→p.index=i→(AT l i ws).2=true
 | [],p,h,_,_=>by cases h
 | x::r,p,h,h1,h2=>by
  unfold AT
  split
  ·rfl
  ·rename_i hn
   rcases List.mem_cons.1 h with rfl | h
   ·exact absurd ⟨h1,h2⟩ hn
   ·exact VT h h1 h2
theorem dY {m:Ac} (hI:Inv m) {h:Int} {i:Nat} {w:Aj} (hh:inR h 3=true) (hw:(m.words.get h)[i]?=some w) (hl:w.lock≠0):∃ s∈m.sess,w.lock=s.id+1∧(Bi s.writes h i).2=true∧s.label=h∧1≤s.step∧s.step≤4:=by
 obtain ⟨s,h1,h2,h3,h4,p,h5,h6,h7⟩:=hI.lock h i w hh hw hl
 have hS:=(sp _ _).1 (hI.may.sess s h1)
 refine ⟨s,h1,h2,?_,h3,h4⟩
 unfold Bi;rw [if_pos hS.writes];exact VT h5 h6 h7
structure Qq (s:Ap) (m:Ac):Prop where
 len:∀ h,inR h 3=true→(m.words.get h).length=(s.words.get h).length
 val:∀ (h:Int) (i:Nat) (w:Aj),inR h 3=true→(m.words.get h)[i]?=some w→w.ver=0→(s.words.get h)[i]?=some w.val
theorem XK {s:Ap} {m:Ac} (hI:Do m) {x:AO} (hx:AF x=true) (hF:Qq s m):Qq s (AQ m x).1:=by
 refine ⟨fun h hh=>by rw [LC hI hx h hh];exact hF.len h hh,fun h i w' hh hw' hz=>?_⟩
 have hi:i<(m.words.get h).length:=by rw [← LC hI hx h hh];exact Ax hw'
 obtain ⟨u,e1,e2⟩:=QE hI hx h i _ hh (List.getElem?_eq_getElem hi)
 rw [hw'] at e1
 cases e1
 obtain ⟨z1,z2⟩:=e2.zero hz
 rw [z1]
 exact hF.val h i _ hh (List.getElem?_eq_getElem hi) z2
theorem eH (s:Ap):Qq s (AC s):=by
 have hk:∀ a,(Bf s.words).get a=(s.words.get a).map Dl:=by
  intro a;unfold Bf A4.get;split
  ·rfl
  ·split
   ·rfl
   ·split<;>rfl
 refine ⟨fun h hh=>by show ((Bf s.words).get h).length=_;rw [hk];simp,fun h i w hh hw hz=>?_⟩
 have hw':((Bf s.words).get h)[i]?=some w:=hw
 rw [hk,List.getElem?_map] at hw'
 cases hq:(s.words.get h)[i]? with
 | none=>rw [hq] at hw';cases hw'
 | some v=>rw [hq,Option.map_some,Option.some.injEq] at hw';rw [← hw'];rfl
theorem Rv {s:Ap}:∀ (l:List AO) (m:Ac),Do m→l.all AF=true→Qq s m→Qq s (BH m l).1
 | [],m,_,_,hF=>hF
 | x::r,m,hI,h,hF=>by
  simp only [List.all_cons,Bool.and_eq_true] at h
  obtain ⟨h1,_⟩:=FY hI.inv h.1
  unfold BH
  rw [if_pos h1]
  exact Rv r _ (Ih hI h.1) h.2 (XK hI h.1 hF)
end Ve
