/- The statement ScriptLonger: its row. -/
import Derived.Test.YtjgbbmcjbfpjfaaGreatVeR
import Derived.Test.YtjgbbmcjbfpjfaaGreatVeSH
import Derived.Test.YtjgbbmcjbfpjfaaGreatLScriptLonger
set_option linter.all false
set_option linter.unusedSectionVars false
namespace Go.Proofs.YtjgbbmcjbfpjfaaGreat.scriptLonger
open Go Go.ChangeShapes Go.WideShapes Go.ChangeAt Go.RowKit Ve
set_option maxRecDepth 100000
theorem contract (i:Nat) (hcall:∀ (s0:Aq),CK s0→∀ a1:Int,∀ (l2:List Int),l2.length≤1048576→Aa (Lv ctx i) 9 [eSc true s0,iV a1,.isl true false 1 (l2.map iV)]=some (bV true)) (H:Type) (enc:TypeId × Value→H) (W:World) (DR:Nat) (args:Array Value) (ds gs:List (DataW H)) (FP:List MemPlace)
  (hval:∀ (j:Nat) t v,Tryz.f9.params[j]?=some t→args[j]?=some v→Value.okWide Tryz.prog W .any DR t v)
  (hW:DataW.Whole enc Tryz.prog Tryz.f9.params.toList Rows.scriptLongerSpec.vars false W args.toList ds gs FP) (hk:Rows.uptoSmall H (ds++gs)=true) :
  Calls Tryz.prog 9 args W fun e W'=>∃ v,e=.returned v∧Rows.scriptLongerSpec.post enc Tryz.prog Tryz.f9 false true false false W args v W':=by
 have hW':=hW
 obtain ⟨p,q,hA0,hV,rfl,hfz,hnd⟩:=hW
 have hA:DataW.TrodAll enc Tryz.prog W 0 (fun _=>true) true Tryz.f9.params.toList args.toList ds p:=hA0
 rw [Tryz.params9] at hA hval
 obtain ⟨v0,vs0,d0,ds0,p0,q0,hargs,rfl,rfl,h0,r0⟩:=trodAll_cons hA
 obtain ⟨v1,vs1,d1,ds1,p1,q1,rfl,rfl,rfl,h1,r1⟩:=trodAll_cons r0
 obtain ⟨v2,vs2,d2,ds2,p2,q2,rfl,rfl,rfl,h2,r2⟩:=trodAll_cons r1
 obtain ⟨rfl,rfl,rfl⟩:=trodAll_nil r2
 obtain rfl:args=#[v0,v1,v2]:=by cases args;simp_all
 obtain ⟨rfl,rfl⟩:=trodVars_none hV
 have hsm:=small_all hk
 obtain ⟨s0,hm0,hR0⟩:=argS (hval 0 27 v0 rfl rfl) h0 (hsm d0 (by simp))
 obtain ⟨a1,rfl,rfl,rfl,w1⟩:=open_int Tryz.underlying3 (hval 1 3 v1 rfl rfl) h1
 obtain ⟨l2,hm2,hR2⟩:=argV (hval 2 22 v2 rfl rfl) h2 (hsm d2 (by simp))
 refine (row_call tieOk (hcall s0 hm0 a1 l2 hm2) (args:=[v0,_,v2]) (hR0.cons' (.lit (hR2.cons' .nil)))).mono fun e W' ⟨he,g1,g2,g3⟩=>?_
 subst he
 exact ⟨_,rfl,row_post laidOk (by rw [Tryz.params9];intro t ht;simp at ht;rcases ht with rfl | rfl | rfl<;>exact ⟨by kernel_rfl,of_decide_eq_true (by kernel_rfl)⟩) rfl rfl (tb:=4) (by kernel_rfl) Tryz.underlying4 hW' g1 g2 g3⟩
theorem lifted (hcall:∃ i,∀ (s0:Aq),CK s0→∀ a1:Int,∀ (l2:List Int),l2.length≤1048576→Aa (Lv ctx i) 9 [eSc true s0,iV a1,.isl true false 1 (l2.map iV)]=some (bV true)) (os:Os) (started:os.Started) (H:Type) (enc:TypeId × Value→H) (F:Stop.Interp) :
  ReturnsInHanded {} Tryz.checked os 9 .any ((Rows.OpenSpec.upto Rows.scriptLongerSpec).pre6 enc Tryz.prog Tryz.f9 Rows.scriptLongerUptoRow.domain false) (((Rows.OpenSpec.upto Rows.scriptLongerSpec).at F).post enc Tryz.prog Tryz.f9 false true false false):=by
 refine returnsInHanded_of_cond (C:=Tryz.checked) (s:=Rows.OpenSpec.upto Rows.scriptLongerSpec) (k:=Rows.uptoSmall) rfl own started (by kernel_rfl) Tryz.func9
  (OpenSpec.witness (enc:=enc) (C:=Tryz.checked) (s:=Rows.OpenSpec.upto Rows.scriptLongerSpec) (k:=Rows.uptoSmall) rfl false
   ⟨#[],#[.agg #[.slice none 0 0,.slice none 0 0,.slice none 0 0,.slice none 0 0,.int .i64 0,.slice none 0 0,.slice none 0 0],.int .i64 0,.slice none 0 0],[]⟩ 8 (by kernel_rfl) (by kernel_rfl) (by kernel_rfl)
   (x:=([.agg [.agg [.nil,.nil,.nil,.nil],.lit (.int .i64 0),.nil,.nil],.lit (.int .i64 0),.nil],[],[])) (by kernel_rfl) rfl (by kernel_rfl)) ?_
 intro W DR args ds gs FP hval hW _ hk _
 obtain ⟨i,hc⟩:=hcall
 exact contract i hc H enc W DR args ds gs FP hval hW hk
theorem over (hcall:∃ i,∀ (s0:Aq),CK s0→∀ a1:Int,∀ (l2:List Int),l2.length≤1048576→Aa (Lv ctx i) 9 [eSc true s0,iV a1,.isl true false 1 (l2.map iV)]=some (bV true)):Rows.scriptLongerUptoRow.holds Tryz.pinned (Rows.OpenSpec.upto Rows.scriptLongerSpec) :=
 OpenClaim.holds_of_cond 9 Tryz.f9 rfl rfl rfl rfl rfl rfl rfl ⟨rfl,rfl,rfl,rfl,rfl⟩ rfl rfl rfl rfl rfl (by kernel_rfl) Tryz.func9 (by kernel_rfl)
  (of_decide_eq_true (by kernel_rfl)) (by unfold Func.isWrapper;first | (rw [if_pos (by decide +kernel)];kernel_rfl) | (rw [if_neg (by decide +kernel)];exact ⟨rfl,rfl⟩))
  (fun os started H enc _ F=>lifted hcall os started H enc F)
theorem holds:Rows.ScriptLongerUptoSaid:=over ⟨41,fun s hs a p hp=>u_ScriptLonger 10 s hs a p hp (awT 10)⟩
end Go.Proofs.YtjgbbmcjbfpjfaaGreat.scriptLonger
