/- The statement TopSerial: its row. -/
import Derived.Test.YthllnfkddiaokaaGreatVeR
import Derived.Test.YthllnfkddiaokaaGreatVeSF
import Derived.Test.YthllnfkddiaokaaGreatLTopSerial
set_option linter.all false
set_option linter.unusedSectionVars false
namespace Go.Proofs.YthllnfkddiaokaaGreat.topSerial
open Go Go.ChangeShapes Go.WideShapes Go.ChangeAt Go.RowKit Ve
set_option maxRecDepth 100000
theorem contract (i:Nat) (hcall:∀ (s0:Ap),Cj s0→Aa (Lv ctx i) 3 [eSc true s0]=some (bV true)) (H:Type) (enc:TypeId × Value→H) (W:World) (DO:Nat) (args:Array Value) (ds gs:List (DataW H)) (FP:List MemPlace)
  (hval:∀ (j:Nat) t v,Tryz.f3.params[j]?=some t→args[j]?=some v→Value.okWide Tryz.prog W .any DO t v)
  (hW:DataW.Whole enc Tryz.prog Tryz.f3.params.toList Rows.topSerialSpec.vars false W args.toList ds gs FP) (hk:Rows.uptoSmall H (ds++gs)=true) :
  Calls Tryz.prog 3 args W fun e W'=>∃ v,e=.returned v∧Rows.topSerialSpec.post enc Tryz.prog Tryz.f3 false true false false W args v W':=by
 have hW':=hW
 obtain ⟨p,q,hA0,hV,rfl,hfz,hnd⟩:=hW
 have hA:DataW.TrodAll enc Tryz.prog W 0 (fun _=>true) true Tryz.f3.params.toList args.toList ds p:=hA0
 rw [Tryz.params3] at hA hval
 obtain ⟨v0,vs0,d0,ds0,p0,q0,hargs,rfl,rfl,h0,r0⟩:=trodAll_cons hA
 obtain ⟨rfl,rfl,rfl⟩:=trodAll_nil r0
 obtain rfl:args=#[v0]:=by cases args;simp_all
 obtain ⟨rfl,rfl⟩:=trodVars_none hV
 have hsm:=small_all hk
 obtain ⟨s0,hm0,hR0⟩:=argS (hval 0 27 v0 rfl rfl) h0 (hsm d0 (by simp))
 refine (row_call tieOk (hcall s0 hm0) (args:=[v0]) (hR0.cons' .nil)).mono fun e W' ⟨he,g1,g2,g3⟩=>?_
 subst he
 exact ⟨_,rfl,row_post laidOk (by rw [Tryz.params3];intro t ht;simp at ht;subst ht;exact ⟨by kernel_rfl,of_decide_eq_true (by kernel_rfl)⟩) rfl rfl (tb:=4) (by kernel_rfl) Tryz.underlying4 hW' g1 g2 g3⟩
theorem lifted (hcall:∃ i,∀ (s0:Ap),Cj s0→Aa (Lv ctx i) 3 [eSc true s0]=some (bV true)) (os:Os) (started:os.Started) (H:Type) (enc:TypeId × Value→H) (F:Stop.Interp) :
  ReturnsInHanded {} Tryz.checked os 3 .any ((Rows.OpenSpec.upto Rows.topSerialSpec).pre6 enc Tryz.prog Tryz.f3 Rows.topSerialUptoRow.domain false) (((Rows.OpenSpec.upto Rows.topSerialSpec).at F).post enc Tryz.prog Tryz.f3 false true false false):=by
 refine returnsInHanded_of_cond (C:=Tryz.checked) (s:=Rows.OpenSpec.upto Rows.topSerialSpec) (k:=Rows.uptoSmall) rfl own started (by kernel_rfl) Tryz.func3
  (OpenSpec.witness (enc:=enc) (C:=Tryz.checked) (s:=Rows.OpenSpec.upto Rows.topSerialSpec) (k:=Rows.uptoSmall) rfl false
   ⟨#[],#[.agg #[.slice none 0 0,.slice none 0 0,.slice none 0 0,.slice none 0 0,.int .i64 0,.slice none 0 0,.slice none 0 0]],[]⟩ 8 (by kernel_rfl) (by kernel_rfl) (by kernel_rfl)
   (x:=([.agg [.agg [.nil,.nil,.nil,.nil],.lit (.int .i64 0),.nil,.nil]],[],[])) (by kernel_rfl) rfl (by kernel_rfl)) ?_
 intro W DO args ds gs FP hval hW _ hk _
 obtain ⟨i,hc⟩:=hcall
 exact contract i hc H enc W DO args ds gs FP hval hW hk
theorem over (hcall:∃ i,∀ (s0:Ap),Cj s0→Aa (Lv ctx i) 3 [eSc true s0]=some (bV true)):Rows.topSerialUptoRow.holds Tryz.pinned (Rows.OpenSpec.upto Rows.topSerialSpec) :=
 OpenClaim.holds_of_cond 3 Tryz.f3 rfl rfl rfl rfl rfl rfl rfl ⟨rfl,rfl,rfl,rfl,rfl⟩ rfl rfl rfl rfl rfl (by kernel_rfl) Tryz.func3 (by kernel_rfl)
  (of_decide_eq_true (by kernel_rfl)) (by unfold Func.isWrapper;first | (rw [if_pos (by decide +kernel)];kernel_rfl) | (rw [if_neg (by decide +kernel)];exact ⟨rfl,rfl⟩))
  (fun os started H enc _ F=>lifted hcall os started H enc F)
theorem holds:Rows.TopSerialUptoSaid:=over ⟨41,fun s hs=>u_TopSerial 10 s hs (awT 10)⟩
end Go.Proofs.YthllnfkddiaokaaGreat.topSerial
