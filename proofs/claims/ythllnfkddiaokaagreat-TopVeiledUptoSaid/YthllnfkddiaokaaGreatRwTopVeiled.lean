/- The statement TopVeiled: its row. -/
import Derived.Test.YthllnfkddiaokaaGreatVeR
import Derived.Test.YthllnfkddiaokaaGreatVeSF
import Derived.Test.YthllnfkddiaokaaGreatLTopVeiled
set_option linter.all false
set_option linter.unusedSectionVars false
namespace Go.Proofs.YthllnfkddiaokaaGreat.topVeiled
open Go Go.ChangeShapes Go.WideShapes Go.ChangeAt Go.RowKit Ve
set_option maxRecDepth 100000
theorem contract (i:Nat) (hcall:∀ (s0:Ap),Cj s0→∀ (s1:Ap),Cj s1→∀ a2:Int,Aa (Lv ctx i) 11 [eSc true s0,eSc true s1,iV a2]=some (bV true)) (H:Type) (enc:TypeId × Value→H) (W:World) (DO:Nat) (args:Array Value) (ds gs:List (DataW H)) (FP:List MemPlace)
  (hval:∀ (j:Nat) t v,Tryz.f11.params[j]?=some t→args[j]?=some v→Value.okWide Tryz.prog W .any DO t v)
  (hW:DataW.Whole enc Tryz.prog Tryz.f11.params.toList Rows.topVeiledSpec.vars false W args.toList ds gs FP) (hk:Rows.uptoSmall H (ds++gs)=true) :
  Calls Tryz.prog 11 args W fun e W'=>∃ v,e=.returned v∧Rows.topVeiledSpec.post enc Tryz.prog Tryz.f11 false true false false W args v W':=by
 have hW':=hW
 obtain ⟨p,q,hA0,hV,rfl,hfz,hnd⟩:=hW
 have hA:DataW.TrodAll enc Tryz.prog W 0 (fun _=>true) true Tryz.f11.params.toList args.toList ds p:=hA0
 rw [Tryz.params11] at hA hval
 obtain ⟨v0,vs0,d0,ds0,p0,q0,hargs,rfl,rfl,h0,r0⟩:=trodAll_cons hA
 obtain ⟨v1,vs1,d1,ds1,p1,q1,rfl,rfl,rfl,h1,r1⟩:=trodAll_cons r0
 obtain ⟨v2,vs2,d2,ds2,p2,q2,rfl,rfl,rfl,h2,r2⟩:=trodAll_cons r1
 obtain ⟨rfl,rfl,rfl⟩:=trodAll_nil r2
 obtain rfl:args=#[v0,v1,v2]:=by cases args;simp_all
 obtain ⟨rfl,rfl⟩:=trodVars_none hV
 have hsm:=small_all hk
 obtain ⟨s0,hm0,hR0⟩:=argS (hval 0 27 v0 rfl rfl) h0 (hsm d0 (by simp))
 obtain ⟨s1,hm1,hR1⟩:=argS (hval 1 27 v1 rfl rfl) h1 (hsm d1 (by simp))
 obtain ⟨a2,rfl,rfl,rfl,w2⟩:=open_int Tryz.underlying3 (hval 2 3 v2 rfl rfl) h2
 refine (row_call tieOk (hcall s0 hm0 s1 hm1 a2) (args:=[v0,v1,_]) (hR0.cons' (hR1.cons' (.lit .nil)))).mono fun e W' ⟨he,g1,g2,g3⟩=>?_
 subst he
 exact ⟨_,rfl,row_post laidOk (by rw [Tryz.params11];intro t ht;simp at ht;rcases ht with rfl | rfl<;>exact ⟨by kernel_rfl,of_decide_eq_true (by kernel_rfl)⟩) rfl rfl (tb:=4) (by kernel_rfl) Tryz.underlying4 hW' g1 g2 g3⟩
theorem lifted (hcall:∃ i,∀ (s0:Ap),Cj s0→∀ (s1:Ap),Cj s1→∀ a2:Int,Aa (Lv ctx i) 11 [eSc true s0,eSc true s1,iV a2]=some (bV true)) (os:Os) (started:os.Started) (H:Type) (enc:TypeId × Value→H) (F:Stop.Interp) :
  ReturnsInHanded {} Tryz.checked os 11 .any ((Rows.OpenSpec.upto Rows.topVeiledSpec).pre6 enc Tryz.prog Tryz.f11 Rows.topVeiledUptoRow.domain false) (((Rows.OpenSpec.upto Rows.topVeiledSpec).at F).post enc Tryz.prog Tryz.f11 false true false false):=by
 refine returnsInHanded_of_cond (C:=Tryz.checked) (s:=Rows.OpenSpec.upto Rows.topVeiledSpec) (k:=Rows.uptoSmall) rfl own started (by kernel_rfl) Tryz.func11
  (OpenSpec.witness (enc:=enc) (C:=Tryz.checked) (s:=Rows.OpenSpec.upto Rows.topVeiledSpec) (k:=Rows.uptoSmall) rfl false
   ⟨#[],#[.agg #[.slice none 0 0,.slice none 0 0,.slice none 0 0,.slice none 0 0,.int .i64 0,.slice none 0 0,.slice none 0 0],.agg #[.slice none 0 0,.slice none 0 0,.slice none 0 0,.slice none 0 0,.int .i64 0,.slice none 0 0,.slice none 0 0],.int .i64 0],[]⟩ 8 (by kernel_rfl) (by kernel_rfl) (by kernel_rfl)
   (x:=([.agg [.agg [.nil,.nil,.nil,.nil],.lit (.int .i64 0),.nil,.nil],.agg [.agg [.nil,.nil,.nil,.nil],.lit (.int .i64 0),.nil,.nil],.lit (.int .i64 0)],[],[])) (by kernel_rfl) rfl (by kernel_rfl)) ?_
 intro W DO args ds gs FP hval hW _ hk _
 obtain ⟨i,hc⟩:=hcall
 exact contract i hc H enc W DO args ds gs FP hval hW hk
theorem over (hcall:∃ i,∀ (s0:Ap),Cj s0→∀ (s1:Ap),Cj s1→∀ a2:Int,Aa (Lv ctx i) 11 [eSc true s0,eSc true s1,iV a2]=some (bV true)):Rows.topVeiledUptoRow.holds Tryz.pinned (Rows.OpenSpec.upto Rows.topVeiledSpec) :=
 OpenClaim.holds_of_cond 11 Tryz.f11 rfl rfl rfl rfl rfl rfl rfl ⟨rfl,rfl,rfl,rfl,rfl⟩ rfl rfl rfl rfl rfl (by kernel_rfl) Tryz.func11 (by kernel_rfl)
  (of_decide_eq_true (by kernel_rfl)) (by unfold Func.isWrapper;first | (rw [if_pos (by decide +kernel)];kernel_rfl) | (rw [if_neg (by decide +kernel)];exact ⟨rfl,rfl⟩))
  (fun os started H enc _ F=>lifted hcall os started H enc F)
theorem holds:Rows.TopVeiledUptoSaid:=over ⟨41,fun s hs t ht a=>u_TopVeiled 10 s hs t ht a (awT 10)⟩
end Go.Proofs.YthllnfkddiaokaaGreat.topVeiled
