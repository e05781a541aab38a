/- The statement SessionReads: its row. -/
import Derived.Test.YtokhplohcachjaaGreatVeR
import Derived.Test.YtokhplohcachjaaGreatVeSG
import Derived.Test.YtokhplohcachjaaGreatVeSA
import Derived.Test.YtokhplohcachjaaGreatLSessionReads
set_option linter.all false
set_option linter.unusedSectionVars false
namespace Go.Proofs.YtokhplohcachjaaGreat.sessionReads
open Go Go.ChangeShapes Go.WideShapes Go.ChangeAt Go.RowKit Ve
set_option maxRecDepth 100000
theorem contract (i:Nat) (hcall:∀ a0:Int,Aa (Lv ctx i) 9 [iV a0]=some (bV true)) (H:Type) (enc:TypeId × Value→H) (W:World) (Do:Nat) (args:Array Value) (ds gs:List (DataW H)) (EZ:List MemPlace)
  (hval:∀ (j:Nat) t v,Tryz.f9.params[j]?=some t→args[j]?=some v→Value.okWide Tryz.prog W .any Do t v)
  (hW:DataW.Whole enc Tryz.prog Tryz.f9.params.toList Rows.sessionReadsSpec.vars false W args.toList ds gs EZ) (hk:Rows.uptoSmall H (ds++gs)=true) :
  Calls Tryz.prog 9 args W fun e W'=>∃ v,e=.returned v∧Rows.sessionReadsSpec.post enc Tryz.prog Tryz.f9 false true false false W args v W':=by
 have hW':=hW
 obtain ⟨p,q,hA0,hV,rfl,hfz,hnd⟩:=hW
 have hA:DataW.TrodAll enc Tryz.prog W 0 (fun _=>true) true Tryz.f9.params.toList args.toList ds p:=hA0
 rw [Tryz.params9] at hA hval
 obtain ⟨v0,vs0,d0,ds0,p0,q0,hargs,rfl,rfl,h0,r0⟩:=trodAll_cons hA
 obtain ⟨rfl,rfl,rfl⟩:=trodAll_nil r0
 obtain rfl:args=#[v0]:=by cases args;simp_all
 obtain ⟨rfl,rfl⟩:=trodVars_none hV
 have hsm:=small_all hk
 obtain ⟨a0,rfl,rfl,rfl,w0⟩:=open_int Tryz.underlying3 (hval 0 3 v0 rfl rfl) h0
 refine (row_call tieOk (hcall a0) (args:=[_]) (.lit .nil)).mono fun e W' ⟨he,g1,g2,g3⟩=>?_
 subst he
 exact ⟨_,rfl,row_post laidOk (by rw [Tryz.params9];intro t ht;simp at ht;subst ht;exact ⟨by kernel_rfl,of_decide_eq_true (by kernel_rfl)⟩) rfl rfl (tb:=4) (by kernel_rfl) Tryz.underlying4 hW' g1 g2 g3⟩
theorem lifted (hcall:∃ i,∀ a0:Int,Aa (Lv ctx i) 9 [iV a0]=some (bV true)) (os:Os) (started:os.Started) (H:Type) (enc:TypeId × Value→H) (F:Stop.Interp) :
  ReturnsInHanded {} Tryz.checked os 9 .any ((Rows.OpenSpec.upto Rows.sessionReadsSpec).pre6 enc Tryz.prog Tryz.f9 Rows.sessionReadsUptoRow.domain false) (((Rows.OpenSpec.upto Rows.sessionReadsSpec).at F).post enc Tryz.prog Tryz.f9 false true false false):=by
 refine returnsInHanded_of_cond (C:=Tryz.checked) (s:=Rows.OpenSpec.upto Rows.sessionReadsSpec) (k:=Rows.uptoSmall) rfl own started (by kernel_rfl) Tryz.func9
  (OpenSpec.witness (enc:=enc) (C:=Tryz.checked) (s:=Rows.OpenSpec.upto Rows.sessionReadsSpec) (k:=Rows.uptoSmall) rfl false
   ⟨#[],#[.int .i64 0],[]⟩ 8 (by kernel_rfl) (by kernel_rfl) (by kernel_rfl)
   (x:=([.lit (.int .i64 0)],[],[])) (by kernel_rfl) rfl (by kernel_rfl)) ?_
 intro W Do args ds gs EZ hval hW _ hk _
 obtain ⟨i,hc⟩:=hcall
 exact contract i hc H enc W Do args ds gs EZ hval hW hk
theorem over (hcall:∃ i,∀ a0:Int,Aa (Lv ctx i) 9 [iV a0]=some (bV true)):Rows.sessionReadsUptoRow.holds Tryz.pinned (Rows.OpenSpec.upto Rows.sessionReadsSpec) :=
 OpenClaim.holds_of_cond 9 Tryz.f9 rfl rfl rfl rfl rfl rfl rfl ⟨rfl,rfl,rfl,rfl,rfl⟩ rfl rfl rfl rfl rfl (by kernel_rfl) Tryz.func9 (by kernel_rfl)
  (of_decide_eq_true (by kernel_rfl)) (by unfold Func.isWrapper;first | (rw [if_pos (by decide +kernel)];kernel_rfl) | (rw [if_neg (by decide +kernel)];exact ⟨rfl,rfl⟩))
  (fun os started H enc _ F=>lifted hcall os started H enc F)
theorem holds:Rows.SessionReadsUptoSaid:=over ⟨41,fun a=>u_SessionReads 12 a aw23 be23 (st23 0 (by omega))⟩
end Go.Proofs.YtokhplohcachjaaGreat.sessionReads
