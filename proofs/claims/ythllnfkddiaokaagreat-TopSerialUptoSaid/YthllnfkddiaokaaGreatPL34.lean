/- TopSerial, on the models, I: what a session has reckoned so far, whatever it is told of. -/
import Derived.Test.YthllnfkddiaokaaGreatPL27
import Derived.Test.YthllnfkddiaokaaGreatPL28
set_option linter.all false
set_option linter.unusedSectionVars false
namespace Ve
open Go
inductive Res (g:Int→Int→Int) (p:List AD):Int→A4 Int→List Aq→List Aq→Prop
 | fin {pc rs ws}:p[pc.toNat]?=none→Res g p pc rs ws ws
 | own {pc rs ws out x}:p[pc.toNat]?=some x→x.code=2→(AT x.b x.c ws).2=true→Res g p (pc+1) (rs.set x.a (AT x.b x.c ws).1) ws out→Res g p pc rs ws out
 | read {pc rs ws out x}:p[pc.toNat]?=some x→x.code=2→(AT x.b x.c ws).2=false→Res g p (pc+1) (rs.set x.a (g x.b x.c)) ws out→Res g p pc rs ws out
 | store {pc rs ws out x}:p[pc.toNat]?=some x→x.code=3→Res g p (pc+1) rs (DG ⟨x.b,x.c,rs.get x.a⟩ ws) out→Res g p pc rs ws out
 | set {pc rs ws out x}:p[pc.toNat]?=some x→x.code=0→Res g p (pc+1) (rs.set x.a x.b) ws out→Res g p pc rs ws out
 | add {pc rs ws out x}:p[pc.toNat]?=some x→x.code=1→Res g p (pc+1) (rs.set x.a ((rs.get x.a+rs.get x.b) % 256)) ws out→Res g p pc rs ws out
 | zero {pc rs ws out x}:p[pc.toNat]?=some x→x.code=4→Res g p (if rs.get x.a=0 then x.b else pc+1) rs ws out→Res g p pc rs ws out
structure NY (ws:A4 (List Aj)) (s:Ae) (f:Int→Int→Int):Prop where
 low:∀ r∈s.reads,r.ver≤(AB ws r.level r.index).ver
 val:∀ r∈s.reads,(AB ws r.level r.index).ver=r.ver→(AB ws r.level r.index).val=f r.level r.index
 res:∀ g out,(∀ r∈s.reads,g r.level r.index=f r.level r.index)→Res g s.prog s.pc s.regs s.writes out→Res g s.prog 0 ⟨0,0,0,0⟩ [] out
 fin:1≤s.step→s.prog[s.pc.toNat]?=none
def Gh (ws:A4 (List Aj)) (s:Ae):Prop:=s.step≤3→∃ f,NY ws s f
def WF.keeps (ws:A4 (List Aj)):WF→Prop
 | .set l i w=>Ay ws l i=true∧(AB ws l i).ver≤w.ver∧(w.ver=(AB ws l i).ver→w.val=(AB ws l i).val)
 | .setFree l i w _=>Ay ws l i=true∧(AB ws l i).ver≤w.ver∧(w.ver=(AB ws l i).ver→w.val=(AB ws l i).val)
 | _=>True
structure Yr (w w':Aj):Prop where
 ver:w.ver≤w'.ver
 val:w'.ver=w.ver→w'.val=w.val
theorem Kv (w:Aj):Yr w w:=⟨Int.le_refl _,fun _=>rfl⟩
theorem Rj {w w':Aj} (h:Yr w w') (c:Int):Yr w (Aw c w'):=by
 have e1:(Aw c w').val=w'.val:=by unfold Aw;split<;>rfl
 have e2:(Aw c w').ver=w'.ver:=by unfold Aw;split<;>rfl
 exact ⟨by rw [e2];exact h.ver,fun hc=>by rw [e1];rw [e2] at hc;exact h.val hc⟩
theorem mM {f:WF} {ws:A4 (List Aj)} (hok:f.ok) (hs:f.keeps ws) {l i:Int} (hth:Ay ws l i=true):Yr (AB ws l i) (AB (f.app ws) l i):=by
 obtain ⟨hl,n,rfl,hw⟩:=Bk hth
 have key:∃ w',((f.app ws).get l)[n]?=some w'∧Yr (AB ws l n) w':=by
  rw [WF.app_get hok ws l hl]
  have hset:∀ (a j:Int) (u:Aj),(Ay ws a j=true∧(AB ws a j).ver≤u.ver∧(u.ver=(AB ws a j).ver→u.val=(AB ws a j).val))→∃ w',(if l=a then (ws.get l).set j.toNat u else ws.get l)[n]?=some w'∧Yr (AB ws l n) w':=by
   intro a j u ⟨g1,g2,g3⟩
   split
   ·rename_i e;subst e
    obtain ⟨_,n',rfl,hn⟩:=Bk g1
    rw [Int.toNat_natCast]
    by_cases hi:n'=n
    ·subst hi
     exact ⟨u,List.getElem?_set_self (Ax hw),g2,g3⟩
    ·exact ⟨_,by rw [List.getElem?_set_ne hi];exact hw,Kv _⟩
   ·exact ⟨_,hw,Kv _⟩
  cases f with
  | id=>exact ⟨_,hw,Kv _⟩
  | free c=>exact ⟨Aw c _,by simp only [WF.row,List.getElem?_map,hw,Option.map_some],Rj (Kv _) c⟩
  | set a j u=>exact hset a j u hs
  | setFree a j u c =>
   obtain ⟨w',e1,e2⟩:=hset a j u hs
   exact ⟨Aw c w',by simp only [WF.row,List.getElem?_map,e1,Option.map_some],Rj e2 c⟩
 obtain ⟨w',e1,e2⟩:=key
 rw [HL e1];exact e2
theorem PA {f:WF} {ws:A4 (List Aj)} {s:Ae} {v:Int→Int→Int} (hok:f.ok) (hk:f.keeps ws) (hth:AP ws s.reads=true) (h:NY ws s v):NY (f.app ws) s v:=by
 have hk':∀ r∈s.reads,Yr (AB ws r.level r.index) (AB (f.app ws) r.level r.index):=fun r hr=>mM hok hk ((List.all_eq_true.1 hth) r hr)
 refine ⟨fun r hr=>Int.le_trans (h.low r hr) (hk' r hr).ver,fun r hr hv=>?_,h.res,h.fin⟩
 have h1:=h.low r hr
 have h2:=(hk' r hr).ver
 rw [(hk' r hr).val (by omega)]
 exact h.val r hr (by omega)
section
variable {m:Ac} {k:Nat} {s:Ae} (hs:m.sess[k]?=some s) (hI:Do m)
include hs hI
theorem Pu {E:Ef} (hE:EC m.ceil m.words (m.clocks.get s.label) s=some E):E.w.keeps m.words:=by
 have hlk:=hI.lk s (List.mem_of_getElem? hs)
 have hS:=BU hs hI.inv
 have hat:=AE.1 hS.at_
 have hsays:=ML hs hI hE
 by_cases h4:s.step=4
 ·unfold EC at hE
  rw [if_neg (by omega),if_neg (by omega),if_neg (by omega),if_neg (by omega),if_pos h4] at hE
  unfold Gu at hE
  cases hw:s.writes[s.at_.toNat]? with
  | none=>rw [hw] at hE;cases hE
  | some w =>
   rw [hw] at hE;simp only [Option.some.injEq] at hE;subst hE
   have hmem:=List.mem_of_getElem? hw
   have hlock:=hlk.back h4 s.at_.toNat w (by omega) hw
   have hv:=hlk.ver (.inr h4) w hmem hlock
   split<;>exact ⟨CD hs hI hmem,by show _≤s.stamp;omega,fun hz=>by have:s.stamp=_:=hz;omega⟩
 ·revert hsays
  cases E.w with
  | id=>exact fun _=>trivial
  | free c=>exact fun _=>trivial
  | set l i w=>exact fun h=>⟨h.1,h.2.1,fun _=>(h.2.2.1 h4).1⟩
  | setFree l i w c=>exact fun h=>⟨h.1,h.2.1,fun _=>(h.2.2.1 h4).1⟩
end
end Ve
