/- TopSerial, on the models, III: the words as if done one by one. -/
import Derived.Test.YthllnfkddiaokaaGreatPL35
set_option linter.all false
set_option linter.unusedSectionVars false
namespace Ve
open Go
def put (ws:List Aq) (g:Int→Int→Int):Int→Int→Int:=fun l i=>if (AT l i ws).2=true then (AT l i ws).1 else g l i
theorem Zs {l i:Int}:∀ {ws:List Aq},(AT l i ws).2=true→∃ w∈ws,w.level=l∧w.index=i
 | [],h=>by simp [AT] at h
 | x::r,h=>by
  unfold AT at h
  split at h
  ·rename_i hc;exact ⟨x,by simp,hc⟩
  ·obtain ⟨w,h1,h2⟩:=Zs h;exact ⟨w,by simp [h1],h2⟩
theorem Zu:∀ {ws:List Aq} {w:Aq},ws.Pairwise (fun a b=>plW a<plW b)→w∈ws→AT w.level w.index ws=(w.val,true)
 | [],w,_,h=>by cases h
 | x::r,w,hp,h=>by
  obtain ⟨h1,h2⟩:=List.pairwise_cons.1 hp
  unfold AT
  rcases List.mem_cons.1 h with rfl | h
  ·rw [if_pos ⟨rfl,rfl⟩]
  ·have:=h1 w h
   rw [if_neg (fun hc=>by simp only [plW,hc.1,hc.2] at this;omega)]
   exact Zu h2 h
theorem a0y {ws:List Aq} {w:Aq} {g:Int→Int→Int} (hp:ws.Pairwise (fun a b=>plW a<plW b)) (h:w∈ws):put ws g w.level w.index=w.val:=by
 unfold put;rw [Zu hp h];rfl
theorem jK {ws:List Aq} {g:Int→Int→Int} {l i:Int} (h:∀ w∈ws,¬ (w.level=l∧w.index=i)):put ws g l i=g l i:=by
 unfold put
 rw [if_neg]
 intro hc
 obtain ⟨w,h1,h2⟩:=Zs hc
 exact h w h1 h2
def Wz (m:Ac) (s:Ae) (w:Aq):Prop:=s∈m.sess∧s.step=4∧∃ j:Nat,s.at_≤(j:Int)∧s.writes[j]?=some w
structure Ser (m:Ac) (g:Int→Int→Int):Prop where
 pend:∀ s w,Wz m s w→g w.level w.index=w.val
 calm:∀ l i,Ay m.words l i=true→(∀ s w,Wz m s w→¬ (w.level=l∧w.index=i))→g l i=(AB m.words l i).val
 gh:∀ s∈m.sess,Gh m.words s
section
variable {m:Ac} {k:Nat} {s:Ae} {g:Int→Int→Int} (hs:m.sess[k]?=some s) (hI:Do m) (hR:Ser m g)
include hs hI
theorem QN {u:Ae} {w:Aq} (h:Wz m u w):(AB m.words w.level w.index).lock=u.id+1∧Ay m.words w.level w.index=true:=by
 obtain ⟨h1,h2,j,h3,h4⟩:=h
 refine ⟨(hI.lk u h1).back h2 j w h3 h4,?_⟩
 have hS:=(sp _ _).1 (hI.inv.may.sess u h1)
 exact (List.all_eq_true.1 hS.wthere) w (List.mem_of_getElem? h4)
include hR
theorem eX (h3:s.step=3) (hg:s.reads.all (CA m.words s.id)=true):Res g s.prog 0 ⟨0,0,0,0⟩ [] s.writes:=by
 have hS:=BU hs hI.inv
 have hmem:=List.mem_of_getElem? hs
 obtain ⟨f,hf⟩:=hR.gh s hmem (by omega)
 refine hf.res g s.writes (fun r hr=>?_) (.fin (hf.fin (by omega)))
 have hgr:=(List.all_eq_true.1 hg) r hr
 simp only [CA,Bool.and_eq_true,Bool.or_eq_true,decide_eq_true_eq] at hgr
 have hth:Ay m.words r.level r.index=true:=(List.all_eq_true.1 hS.rthere) r hr
 rw [← hf.val r hr hgr.1]
 refine hR.calm _ _ hth fun u w hp hc=>?_
 obtain ⟨hl,_⟩:=QN hs hI hp
 rw [hc.1,hc.2] at hl
 have hu:=(sp _ _).1 (hI.inv.may.sess u hp.1)
 have hid:=AE.1 hu.id
 rcases hgr.2 with h | h
 ·omega
 ·have:=Lm hI.inv.may hp.1 hmem (by omega)
  subst this
  have:=hp.2.1;omega
end
theorem We {f:WF} {ws:A4 (List Aj)} (hok:f.ok) {c:Prop} (hc:c) (hs:f.says ws c) {l i:Int} (hth:Ay ws l i=true):(AB (f.app ws) l i).val=(AB ws l i).val:=by
 obtain ⟨hl,n,rfl,hw⟩:=Bk hth
 obtain ⟨w',e1,e2⟩:=OA hok hs l n _ hl hw
 rw [HL e1];exact (e2.calm hc).1
theorem RT {f:WF} {ws:A4 (List Aj)} (hok:f.ok) {l i:Int}:Ay (f.app ws) l i=Ay ws l i:=by
 unfold Ay
 cases hl:inR l 3 with
 | false=>rfl
 | true =>
  have e:((f.app ws).get l).length=(ws.get l).length:=by
   rw [WF.app_get hok ws l hl]
   cases f with
   | id=>rfl
   | free c=>simp [WF.row]
   | set a b w=>simp only [WF.row];split<;>simp
   | setFree a b w c=>simp only [WF.row];split<;>simp
  rw [e]
end Ve
