/- The statement DriftOnce: its row. -/
import Derived.Test.YtdgpalcplglhjaaGreatVeR
import Derived.Test.YtdgpalcplglhjaaGreatAwH
import Derived.Test.YtdgpalcplglhjaaGreatLDriftOnce
set_option linter.all false
set_option linter.unusedSectionVars false
namespace Go.Proofs.YtdgpalcplglhjaaGreat.driftOnce
open Go Go.ChangeShapes Go.WideShapes Go.ChangeAt Go.RowKit Ve
set_option maxRecDepth 100000
theorem contract (i:Nat) (hcall:∀ (l0:List Int),l0.length≤1048576→Aa (Lv ctx i) 3 [.isl true false 1 (l0.map iV)]=some (bV true)) (H:Type) (enc:TypeId × Value→H) (W:World) (DC:Nat) (args:Array Value) (ds gs:List (DataW H)) (Fy:List MemPlace)
  (hval:∀ (j:Nat) t v,Tryz.f3.params[j]?=some t→args[j]?=some v→Value.okWide Tryz.prog W .any DC t v)
  (hW:DataW.Whole enc Tryz.prog Tryz.f3.params.toList Rows.driftOnceSpec.vars false W args.toList ds gs Fy) (hk:Rows.uptoSmall H (ds++gs)=true) :
  Calls Tryz.prog 3 args W fun e W'=>∃ v,e=.returned v∧Rows.driftOnceSpec.post enc Tryz.prog Tryz.f3 false true false false W args v W':=by
 have hW':=hW
 obtain ⟨p,q,hA0,hV,rfl,hfz,hnd⟩:=hW
 have hA:DataW.TrodAll enc Tryz.prog W 0 (fun _=>true) true Tryz.f3.params.toList args.toList ds p:=hA0
 rw [Tryz.params3] at hA hval
 obtain ⟨v0,vs0,d0,ds0,p0,q0,hargs,rfl,rfl,h0,r0⟩:=trodAll_cons hA
 obtain ⟨rfl,rfl,rfl⟩:=trodAll_nil r0
 obtain rfl:args=#[v0]:=by cases args;simp_all
 obtain ⟨rfl,rfl⟩:=trodVars_none hV
 have hsm:=small_all hk
 obtain ⟨l0,hm0,hR0⟩:=argV (hval 0 22 v0 rfl rfl) h0 (hsm d0 (by simp))
 refine (row_call tieOk (hcall l0 hm0) (args:=[v0]) (hR0.cons' .nil)).mono fun e W' ⟨he,g1,g2,g3⟩=>?_
 subst he
 exact ⟨_,rfl,row_post laidOk (by rw [Tryz.params3];intro t ht;simp at ht;subst ht;exact ⟨by kernel_rfl,of_decide_eq_true (by kernel_rfl)⟩) rfl rfl (tb:=4) (by kernel_rfl) Tryz.underlying4 hW' g1 g2 g3⟩
theorem lifted (hcall:∃ i,∀ (l0:List Int),l0.length≤1048576→Aa (Lv ctx i) 3 [.isl true false 1 (l0.map iV)]=some (bV true)) (os:Os) (started:os.Started) (H:Type) (enc:TypeId × Value→H) (F:Stop.Interp) :
  ReturnsInHanded {} Tryz.checked os 3 .any ((Rows.OpenSpec.upto Rows.driftOnceSpec).pre6 enc Tryz.prog Tryz.f3 Rows.driftOnceUptoRow.domain false) (((Rows.OpenSpec.upto Rows.driftOnceSpec).at F).post enc Tryz.prog Tryz.f3 false true false false):=by
 refine returnsInHanded_of_cond (C:=Tryz.checked) (s:=Rows.OpenSpec.upto Rows.driftOnceSpec) (k:=Rows.uptoSmall) rfl own started (by kernel_rfl) Tryz.func3
  (OpenSpec.witness (enc:=enc) (C:=Tryz.checked) (s:=Rows.OpenSpec.upto Rows.driftOnceSpec) (k:=Rows.uptoSmall) rfl false
   ⟨#[],#[.slice none 0 0],[]⟩ 8 (by kernel_rfl) (by kernel_rfl) (by kernel_rfl)
   (x:=([.nil],[],[])) (by kernel_rfl) rfl (by kernel_rfl)) ?_
 intro W DC args ds gs Fy hval hW _ hk _
 obtain ⟨i,hc⟩:=hcall
 exact contract i hc H enc W DC args ds gs Fy hval hW hk
theorem over (hcall:∃ i,∀ (l0:List Int),l0.length≤1048576→Aa (Lv ctx i) 3 [.isl true false 1 (l0.map iV)]=some (bV true)):Rows.driftOnceUptoRow.holds Tryz.pinned (Rows.OpenSpec.upto Rows.driftOnceSpec) :=
 OpenClaim.holds_of_cond 3 Tryz.f3 rfl rfl rfl rfl rfl rfl rfl ⟨rfl,rfl,rfl,rfl,rfl⟩ rfl rfl rfl rfl rfl (by kernel_rfl) Tryz.func3 (by kernel_rfl)
  (of_decide_eq_true (by kernel_rfl)) (by unfold Func.isWrapper;first | (rw [if_pos (by decide +kernel)];kernel_rfl) | (rw [if_neg (by decide +kernel)];exact ⟨rfl,rfl⟩))
  (fun os started H enc _ F=>lifted hcall os started H enc F)
theorem holds:Rows.DriftOnceUptoSaid:=over ⟨41,fun xs h=>u_DriftOnce 16 xs h aw14 hi14⟩
end Go.Proofs.YtdgpalcplglhjaaGreat.driftOnce
