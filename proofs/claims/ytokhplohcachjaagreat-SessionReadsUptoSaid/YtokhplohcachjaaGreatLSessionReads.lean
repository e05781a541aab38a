/- The statement SessionReads. -/
import Derived.Test.YtokhplohcachjaaGreatVeSF
import Derived.Test.YtokhplohcachjaaGreatVeSD
import Derived.Test.YtokhplohcachjaaGreatPL48
import Derived.Test.YtokhplohcachjaaGreatVeP
set_option linter.all false
set_option linter.unusedSectionVars false
namespace Ve
open Go Ve.Ab
set_option maxHeartbeats 16000000
set_option maxRecDepth 20000
theorem u_SessionReads (i:Nat) (many:Int) (haw:Aa (Lv ctx (i+28)) 21 []=some (bV true)) (hbe:Aa (Lv ctx (i+28)) 23 []=some (oM MB)) (hst:Aa (Lv ctx (i+28)) 22 [iV 0,iV 0]=some (oM MB)):Aa (Lv ctx (i+29)) 9 [iV many]=some (bV true):=by
 have hv:0≤EJ many 3∧EJ many 3≤3:=AG.1 (Kg many 3 (by omega))
 obtain ⟨k,ek,hk⟩:∃ k:Nat,EJ many 3=(k:Int)∧k≤3:=⟨(EJ many 3).toNat,by omega,by omega⟩
 obtain ⟨M,R,hs,hw,hcl,hla⟩:∃ M,RunN 0 (MachR (progR k)) M∧((M (2*k+5)).sess[0]?.map fun y=>(y.step,y.result,y.label))=some (6,1,if k=0 then 0 else if k=1 then 1 else 3)∧(M (2*k+5)).words=(MachR (progR k)).words∧(M (2*k+5)).clocks=⟨0,0,0,0⟩∧M (2*k+6)=M (2*k+5):=by
  have R:=runN (k:=0) (inv_mr (mr_may hk)) (by show 0<2;decide)
  refine ⟨_,R,?_⟩
  rw [R.eq (2*k+5),R.eq (2*k+6)]
  exact mr_end hk
 have hsm0:SmM (MachR (progR k)):=by have:=R.sm 0;rwa [R.z] at this
 have hl:∀ j,(M j).sess.length=2:=R.len
 have f:∀ p j,Aa (Lv ctx (i+28)) 16 [eM p (M j),iV 0]=some (.tup [oM (M (j+1)),iV 0]):=by
  intro p j
  have:=Ei (i+1) p (M j) (R.sm j) ((0:Nat):Int)
  rw [R.st j] at this
  exact this
 have g:∀ p,Aa (Lv ctx (i+28)) 17 [eM p (M (2*k+5)),iV 0]=some (.tup [oM (M (2*k+5)),iV 0]):=by
  intro p
  have:=Ps (i+16) p (M (2*k+5)) (R.sm _) ((0:Nat):Int)
  rw [R.st,show 2*k+5+1=2*k+6 by omega,hla] at this
  exact this
 have qs:=fun p q=>Ci (i+25) p q (M (2*k+5)) (M (2*k+5)) (R.sm _)
 have f0:=fun p=>f p 0
 have q0:=fun p=>YP (i+26) p (MachR (progR k)) hsm0
 have qa:=fun p q=>Rr (i+26) p q (MachR (progR k)).words (MachR (progR k)).words hsm0.w0 hsm0.w1 hsm0.w2 hsm0.w3
 rw [R.z] at f0
 clear R hla
 obtain ⟨y,hy,h6,h1,h3⟩:∃ y,(M (2*k+5)).sess[0]?=some y∧y.step=6∧y.result=1∧y.label=if k=0 then 0 else if k=1 then 1 else 3:=by
  cases hq:(M (2*k+5)).sess[0]? with
  | none=>rw [hq] at hs;cases hs
  | some y =>
   rw [hq] at hs
   simp only [Option.map_some,Option.some.injEq,Prod.mk.injEq] at hs
   exact ⟨y,rfl,hs.1,hs.2.1,hs.2.2⟩
 clear hs
 have dd:∀ n:Int,decide (n=n)=true:=fun n=>by simp
 have w6:IntKind.wrap .i64 6=6:=rfl
 have w7:IntKind.wrap .i64 7=7:=rfl
 have w8:IntKind.wrap .i64 8=8:=rfl
 have w9:IntKind.wrap .i64 9=9:=rfl
 have w10:IntKind.wrap .i64 10=10:=rfl
 have w11:IntKind.wrap .i64 11=11:=rfl
 have w12:IntKind.wrap .i64 12=12:=rfl
 have p1:((0:Int)<((M (2*k+5)).sess.length:Int))=True:=by rw [hl];simp
 simp only [MachR] at hw
 obtain rfl | rfl | rfl | rfl:k=0∨k=1∨k=2∨k=3:=by omega
 all_goals
  simp only [decide_true,Nat.add_assoc,Nat.reduceAdd,Nat.reduceMul,progR,List.take_succ_cons,List.take_zero,MachR,S3p,S5p,MB,oM,cO,oWs,oSs,oEs,oIs,oRs,Fy,oS,eM,cM,eWs,eSs,eEs,eIs,eRs,HK,List.map_cons,List.map_nil,eS,eI,eR,eWr,eW,eE] at hbe hst f0 q0 qa
  simp only [Nat.reduceAdd,Nat.reduceMul,simprocAttr] at hw hcl hy h3 p1 g qs
  simp only [Nat.reduceAdd,Nat.reduceMul,simprocAttr,eM,cM,eWs,hw,hcl,List.map_cons,List.map_nil,eW] at g qs
  refine Ac rfl 14 (by rfl) ?_
  delta c9
  simp +contextual -dsimp -implicitDefEqProofs (maxSteps:=5000000) only [haw,hbe,hst,ek,dd,List.replicate,f0,f,q0,hl,g,qs,w6,w7,w8,w9,w10,w11,w12,gLs,↓Aj (c9_1.eq_1),↓Aj (c9_2.eq_1),p1,hy,h6,h1,h3,hw,hcl,qa,go_sem,simprocAttr]
end Ve
