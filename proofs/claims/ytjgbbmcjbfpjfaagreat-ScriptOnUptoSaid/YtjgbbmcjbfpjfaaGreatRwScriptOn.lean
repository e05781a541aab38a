/- The statement ScriptOn: its row. -/
import Derived.Test.YtjgbbmcjbfpjfaaGreatVeR
import Derived.Test.YtjgbbmcjbfpjfaaGreatVeSH
import Derived.Test.YtjgbbmcjbfpjfaaGreatLScriptOn
set_option linter.all false
set_option linter.unusedSectionVars false
namespace Go.Proofs.YtjgbbmcjbfpjfaaGreat.scriptOn
open Go Go.ChangeShapes Go.WideShapes Go.ChangeAt Go.RowKit Ve
set_option maxRecDepth 100000
theorem contract (i:Nat) (hcall:∀ (s0:Aq),CK s0→∀ a1:Int,Aa (Lv ctx i) 8 [eSc true s0,iV a1]=some (bV true)) (H:Type) (enc:TypeId × Value→H) (W:World) (DR:Nat) (args:Array Value) (ds gs:List (DataW H)) (FP:List MemPlace)
  (hval:∀ (j:Nat) t v,Tryz.f8.params[j]?=some t→args[j]?=some v→Value.okWide Tryz.prog W .any DR t v)
  (hW:DataW.Whole enc Tryz.prog Tryz.f8.params.toList Rows.scriptOnSpec.vars false W args.toList ds gs FP) (hk:Rows.uptoSmall H (ds++gs)=true) :
  Calls Tryz.prog 8 args W fun e W'=>∃ v,e=.returned v∧Rows.scriptOnSpec.post enc Tryz.prog Tryz.f8 false true false false W args v W':=by
 have hW':=hW
 obtain ⟨p,q,hA0,hV,rfl,hfz,hnd⟩:=hW
 have hA:DataW.TrodAll enc Tryz.prog W 0 (fun _=>true) true Tryz.f8.params.toList args.toList ds p:=hA0
 rw [Tryz.params8] at hA hval
 obtain ⟨v0,vs0,d0,ds0,p0,q0,hargs,rfl,rfl,h0,r0⟩:=trodAll_cons hA
 obtain ⟨v1,vs1,d1,ds1,p1,q1,rfl,rfl,rfl,h1,r1⟩:=trodAll_cons r0
 obtain ⟨rfl,rfl,rfl⟩:=trodAll_nil r1
 obtain rfl:args=#[v0,v1]:=by cases args;simp_all
 obtain ⟨rfl,rfl⟩:=trodVars_none hV
 have hsm:=small_all hk
 obtain ⟨s0,hm0,hR0⟩:=argS (hval 0 27 v0 rfl rfl) h0 (hsm d0 (by simp))
 obtain ⟨a1,rfl,rfl,rfl,w1⟩:=open_int Tryz.underlying3 (hval 1 3 v1 rfl rfl) h1
 refine (row_call tieOk (hcall s0 hm0 a1) (args:=[v0,_]) (hR0.cons' (.lit .nil))).mono fun e W' ⟨he,g1,g2,g3⟩=>?_
 subst he
 exact ⟨_,rfl,row_post laidOk (by rw [Tryz.params8];intro t ht;simp at ht;rcases ht with rfl | rfl<;>exact ⟨by kernel_rfl,of_decide_eq_true (by kernel_rfl)⟩) rfl rfl (tb:=4) (by kernel_rfl) Tryz.underlying4 hW' g1 g2 g3⟩
theorem lifted (hcall:∃ i,∀ (s0:Aq),CK s0→∀ a1:Int,Aa (Lv ctx i) 8 [eSc true s0,iV a1]=some (bV true)) (os:Os) (started:os.Started) (H:Type) (enc:TypeId × Value→H) (F:Stop.Interp) :
  ReturnsInHanded {} Tryz.checked os 8 .any ((Rows.OpenSpec.upto Rows.scriptOnSpec).pre6 enc Tryz.prog Tryz.f8 Rows.scriptOnUptoRow.domain false) (((Rows.OpenSpec.upto Rows.scriptOnSpec).at F).post enc Tryz.prog Tryz.f8 false true false false):=by
 refine returnsInHanded_of_cond (C:=Tryz.checked) (s:=Rows.OpenSpec.upto Rows.scriptOnSpec) (k:=Rows.uptoSmall) rfl own started (by kernel_rfl) Tryz.func8
  (OpenSpec.witness (enc:=enc) (C:=Tryz.checked) (s:=Rows.OpenSpec.upto Rows.scriptOnSpec) (k:=Rows.uptoSmall) rfl false
   ⟨#[],#[.agg #[.slice none 0 0,.slice none 0 0,.slice none 0 0,.slice none 0 0,.int .i64 0,.slice none 0 0,.slice none 0 0],.int .i64 0],[]⟩ 8 (by kernel_rfl) (by kernel_rfl) (by kernel_rfl)
   (x:=([.agg [.agg [.nil,.nil,.nil,.nil],.lit (.int .i64 0),.nil,.nil],.lit (.int .i64 0)],[],[])) (by kernel_rfl) rfl (by kernel_rfl)) ?_
 intro W DR args ds gs FP hval hW _ hk _
 obtain ⟨i,hc⟩:=hcall
 exact contract i hc H enc W DR args ds gs FP hval hW hk
theorem over (hcall:∃ i,∀ (s0:Aq),CK s0→∀ a1:Int,Aa (Lv ctx i) 8 [eSc true s0,iV a1]=some (bV true)):Rows.scriptOnUptoRow.holds Tryz.pinned (Rows.OpenSpec.upto Rows.scriptOnSpec) :=
 OpenClaim.holds_of_cond 8 Tryz.f8 rfl rfl rfl rfl rfl rfl rfl ⟨rfl,rfl,rfl,rfl,rfl⟩ rfl rfl rfl rfl rfl (by kernel_rfl) Tryz.func8 (by kernel_rfl)
  (of_decide_eq_true (by kernel_rfl)) (by unfold Func.isWrapper;first | (rw [if_pos (by decide +kernel)];kernel_rfl) | (rw [if_neg (by decide +kernel)];exact ⟨rfl,rfl⟩))
  (fun os started H enc _ F=>lifted hcall os started H enc F)
theorem holds:Rows.ScriptOnUptoSaid:=over ⟨41,fun s hs a=>u_ScriptOn 10 s hs a (awT 10)⟩
end Go.Proofs.YtjgbbmcjbfpjfaaGreat.scriptOn
