/- The statement SessionLabels: its row. -/
import Derived.Test.YtokhplohcachjaaGreatVeR
import Derived.Test.YtokhplohcachjaaGreatVeSG
import Derived.Test.YtokhplohcachjaaGreatLSessionLabels
set_option linter.all false
set_option linter.unusedSectionVars false
namespace Go.Proofs.YtokhplohcachjaaGreat.sessionLabels
open Go Go.ChangeShapes Go.WideShapes Go.ChangeAt Go.RowKit Ve
set_option maxRecDepth 100000
theorem contract (i:Nat) (hcall:∀ (m0:Ad),SmM m0→∀ a1:Int,∀ a2:Int,Aa (Lv ctx i) 8 [eM true m0,iV a1,iV a2]=some (bV true)) (H:Type) (enc:TypeId × Value→H) (W:World) (Do:Nat) (args:Array Value) (ds gs:List (DataW H)) (EZ:List MemPlace)
  (hval:∀ (j:Nat) t v,Tryz.f8.params[j]?=some t→args[j]?=some v→Value.okWide Tryz.prog W .any Do t v)
  (hW:DataW.Whole enc Tryz.prog Tryz.f8.params.toList Rows.sessionLabelsSpec.vars false W args.toList ds gs EZ) (hk:Rows.uptoSmall H (ds++gs)=true) :
  Calls Tryz.prog 8 args W fun e W'=>∃ v,e=.returned v∧Rows.sessionLabelsSpec.post enc Tryz.prog Tryz.f8 false true false false W args v W':=by
 have hW':=hW
 obtain ⟨p,q,hA0,hV,rfl,hfz,hnd⟩:=hW
 have hA:DataW.TrodAll enc Tryz.prog W 0 (fun _=>true) true Tryz.f8.params.toList args.toList ds p:=hA0
 rw [Tryz.params8] at hA hval
 obtain ⟨v0,vs0,d0,ds0,p0,q0,hargs,rfl,rfl,h0,r0⟩:=trodAll_cons hA
 obtain ⟨v1,vs1,d1,ds1,p1,q1,rfl,rfl,rfl,h1,r1⟩:=trodAll_cons r0
 obtain ⟨v2,vs2,d2,ds2,p2,q2,rfl,rfl,rfl,h2,r2⟩:=trodAll_cons r1
 obtain ⟨rfl,rfl,rfl⟩:=trodAll_nil r2
 obtain rfl:args=#[v0,v1,v2]:=by cases args;simp_all
 obtain ⟨rfl,rfl⟩:=trodVars_none hV
 have hsm:=small_all hk
 obtain ⟨m0,hm0,hR0⟩:=argM (hval 0 28 v0 rfl rfl) h0 (hsm d0 (by simp))
 obtain ⟨a1,rfl,rfl,rfl,w1⟩:=open_int Tryz.underlying3 (hval 1 3 v1 rfl rfl) h1
 obtain ⟨a2,rfl,rfl,rfl,w2⟩:=open_int Tryz.underlying3 (hval 2 3 v2 rfl rfl) h2
 refine (row_call tieOk (hcall m0 hm0 a1 a2) (args:=[v0,_,_]) (hR0.cons' (.lit (.lit .nil)))).mono fun e W' ⟨he,g1,g2,g3⟩=>?_
 subst he
 exact ⟨_,rfl,row_post laidOk (by rw [Tryz.params8];intro t ht;simp at ht;rcases ht with rfl | rfl<;>exact ⟨by kernel_rfl,of_decide_eq_true (by kernel_rfl)⟩) rfl rfl (tb:=4) (by kernel_rfl) Tryz.underlying4 hW' g1 g2 g3⟩
theorem lifted (hcall:∃ i,∀ (m0:Ad),SmM m0→∀ a1:Int,∀ a2:Int,Aa (Lv ctx i) 8 [eM true m0,iV a1,iV a2]=some (bV true)) (os:Os) (started:os.Started) (H:Type) (enc:TypeId × Value→H) (F:Stop.Interp) :
  ReturnsInHanded {} Tryz.checked os 8 .any ((Rows.OpenSpec.upto Rows.sessionLabelsSpec).pre6 enc Tryz.prog Tryz.f8 Rows.sessionLabelsUptoRow.domain false) (((Rows.OpenSpec.upto Rows.sessionLabelsSpec).at F).post enc Tryz.prog Tryz.f8 false true false false):=by
 refine returnsInHanded_of_cond (C:=Tryz.checked) (s:=Rows.OpenSpec.upto Rows.sessionLabelsSpec) (k:=Rows.uptoSmall) rfl own started (by kernel_rfl) Tryz.func8
  (OpenSpec.witness (enc:=enc) (C:=Tryz.checked) (s:=Rows.OpenSpec.upto Rows.sessionLabelsSpec) (k:=Rows.uptoSmall) rfl false
   ⟨#[],#[.agg #[.slice none 0 0,.slice none 0 0,.slice none 0 0,.slice none 0 0,.int .i64 0,.int .i64 0,.int .i64 0,.int .i64 0,.int .i64 0,.slice none 0 0,.slice none 0 0],.int .i64 0,.int .i64 0],[]⟩ 8 (by kernel_rfl) (by kernel_rfl) (by kernel_rfl)
   (x:=([.agg [.agg [.nil,.nil,.nil,.nil],.agg [.lit (.int .i64 0),.lit (.int .i64 0),.lit (.int .i64 0),.lit (.int .i64 0)],.lit (.int .i64 0),.nil,.nil],.lit (.int .i64 0),.lit (.int .i64 0)],[],[])) (by kernel_rfl) rfl (by kernel_rfl)) ?_
 intro W Do args ds gs EZ hval hW _ hk _
 obtain ⟨i,hc⟩:=hcall
 exact contract i hc H enc W Do args ds gs EZ hval hW hk
theorem over (hcall:∃ i,∀ (m0:Ad),SmM m0→∀ a1:Int,∀ a2:Int,Aa (Lv ctx i) 8 [eM true m0,iV a1,iV a2]=some (bV true)):Rows.sessionLabelsUptoRow.holds Tryz.pinned (Rows.OpenSpec.upto Rows.sessionLabelsSpec) :=
 OpenClaim.holds_of_cond 8 Tryz.f8 rfl rfl rfl rfl rfl rfl rfl ⟨rfl,rfl,rfl,rfl,rfl⟩ rfl rfl rfl rfl rfl (by kernel_rfl) Tryz.func8 (by kernel_rfl)
  (of_decide_eq_true (by kernel_rfl)) (by unfold Func.isWrapper;first | (rw [if_pos (by decide +kernel)];kernel_rfl) | (rw [if_neg (by decide +kernel)];exact ⟨rfl,rfl⟩))
  (fun os started H enc _ F=>lifted hcall os started H enc F)
theorem holds:Rows.SessionLabelsUptoSaid:=over ⟨41,fun m hm a b=>u_SessionLabels 12 m hm a b aw23⟩
end Go.Proofs.YtokhplohcachjaaGreat.sessionLabels
