/- The statement SessionEnds. -/
import Derived.Test.YtokhplohcachjaaGreatVeSF
import Derived.Test.YtokhplohcachjaaGreatVeSD
import Derived.Test.YtokhplohcachjaaGreatPL48
import Derived.Test.YtokhplohcachjaaGreatVeP
set_option linter.all false
set_option linter.unusedSectionVars false
namespace Ve
open Go Ve.Ab
set_option maxHeartbeats 16000000
set_option maxRecDepth 20000
theorem u_SessionEnds (i:Nat) (fr rd wr_ va:Int) (haw:Aa (Lv ctx (i+28)) 21 []=some (bV true)) (hbe:Aa (Lv ctx (i+28)) 23 []=some (oM MB)):Aa (Lv ctx (i+29)) 5 [iV fr,iV rd,iV wr_,iV va]=some (bV true):=by
 obtain ⟨a,ea,ha⟩:∃ a:Int,EJ fr 3=a∧inR a 3=true:=⟨_,rfl,Kg fr 3 (by omega)⟩
 obtain ⟨b,eb,hb⟩:∃ b:Int,EJ rd 3=b∧inR b 3=true:=⟨_,rfl,Kg rd 3 (by omega)⟩
 obtain ⟨c,ec,hc⟩:∃ c:Int,EJ wr_ 3=c∧inR c 3=true:=⟨_,rfl,Kg wr_ 3 (by omega)⟩
 obtain ⟨v,ev,hv⟩:∃ v:Int,EJ va 255=v∧inR v 255=true:=⟨_,rfl,Kg va 255 (by omega)⟩
 obtain ⟨M,R,hE⟩:∃ M,RunN 1 (MachE a b c v) M∧EndsP a b c v (M 12):=by
  have R:=runN (k:=1) (inv_me (me_may ha hb hc hv)) (by show 1<2;decide)
  refine ⟨_,R,?_⟩
  rw [R.eq 12]
  exact me_end v ha hb hc
 have hsm0:SmM (MachE a b c v):=by have:=R.sm 0;rwa [R.z] at this
 have hl:∀ j,(M j).sess.length=2:=R.len
 have f:∀ p j,Aa (Lv ctx (i+28)) 16 [eM p (M j),iV 1]=some (.tup [oM (M (j+1)),iV 0]):=by
  intro p j
  have:=Ei (i+1) p (M j) (R.sm j) ((1:Nat):Int)
  rw [R.st j] at this
  exact this
 have f0:=fun p=>f p 0
 have q0:=fun p=>YP (i+26) p (MachE a b c v) hsm0
 have qa:=fun p q=>Rr (i+26) p q (MachE a b c v).words (MachE a b c v).words hsm0.w0 hsm0.w1 hsm0.w2 hsm0.w3
 rw [R.z] at f0
 clear R
 have dd:∀ n:Int,decide (n=n)=true:=fun n=>by simp
 have w6:IntKind.wrap .i64 6=6:=rfl
 have w7:IntKind.wrap .i64 7=7:=rfl
 have w8:IntKind.wrap .i64 8=8:=rfl
 have w9:IntKind.wrap .i64 9=9:=rfl
 have w10:IntKind.wrap .i64 10=10:=rfl
 have w11:IntKind.wrap .i64 11=11:=rfl
 have w12:IntKind.wrap .i64 12=12:=rfl
 simp only [decide_true,Nat.add_assoc,Nat.reduceAdd,MachE,S3p,S5p,MB,oM,cO,oWs,oSs,oEs,oIs,oRs,Fy,oS,eM,cM,eWs,eSs,eEs,eIs,eRs,HK,List.map_cons,List.map_nil,eS,eI,eR,eWr,eW,eE] at hbe f0 q0 qa
 have p1:((1:Int)<((M 12).sess.length:Int))=True:=by rw [hl];simp
 rcases hE with ⟨hn,hs,hw,hcl⟩ | ⟨hn,hs,hw,hcl⟩
 ·have z1:decide (c=orI a b)=false:=by simpa using hn
  simp only [SessE] at hs
  simp only [MachE] at hw
  refine Ac rfl 14 (by rfl) ?_
  delta c5
  simp +contextual -dsimp -implicitDefEqProofs (maxSteps:=5000000) only [haw,hbe,ea,eb,ec,ev,dd,List.replicate,f0,f,q0,hl,w6,w7,w8,w9,w10,w11,w12,gLs,↓Aj (c5_1.eq_1),p1,hs,hw,hcl,z1,qa,go_sem,simprocAttr]
 ·have z1:decide (c=orI a b)=true:=by simpa using hn
  simp only [SessE] at hs
  rcases Ir hc with h | h | h | h
  ·skip
   subst h
   simp only [A4.get,simprocAttr] at hw hcl
   have l1:=Au hw
   have l2:decide ((0:Int)<(((M 12).words.a0.length:Nat):Int))=true:=by simp;omega
   have l3:((0:Int)<(((M 12).words.a0.length:Nat):Int))=True:=by simp;omega
   refine Ac rfl 14 (by rfl) ?_
   delta c5
   simp +contextual -dsimp -implicitDefEqProofs (maxSteps:=5000000) only [haw,hbe,ea,eb,ec,ev,dd,List.replicate,f0,f,q0,hl,w6,w7,w8,w9,w10,w11,w12,gLs,↓Aj (c5_1.eq_1),p1,hs,hw,hcl,z1,l2,l3,go_sem,simprocAttr]
  ·skip
   subst h
   simp only [A4.get,simprocAttr] at hw hcl
   have l1:=Au hw
   have l2:decide ((0:Int)<(((M 12).words.a1.length:Nat):Int))=true:=by simp;omega
   have l3:((0:Int)<(((M 12).words.a1.length:Nat):Int))=True:=by simp;omega
   refine Ac rfl 14 (by rfl) ?_
   delta c5
   simp +contextual -dsimp -implicitDefEqProofs (maxSteps:=5000000) only [haw,hbe,ea,eb,ec,ev,dd,List.replicate,f0,f,q0,hl,w6,w7,w8,w9,w10,w11,w12,gLs,↓Aj (c5_1.eq_1),p1,hs,hw,hcl,z1,l2,l3,go_sem,simprocAttr]
  ·skip
   subst h
   simp only [A4.get,simprocAttr] at hw hcl
   have l1:=Au hw
   have l2:decide ((0:Int)<(((M 12).words.a2.length:Nat):Int))=true:=by simp;omega
   have l3:((0:Int)<(((M 12).words.a2.length:Nat):Int))=True:=by simp;omega
   refine Ac rfl 14 (by rfl) ?_
   delta c5
   simp +contextual -dsimp -implicitDefEqProofs (maxSteps:=5000000) only [haw,hbe,ea,eb,ec,ev,dd,List.replicate,f0,f,q0,hl,w6,w7,w8,w9,w10,w11,w12,gLs,↓Aj (c5_1.eq_1),p1,hs,hw,hcl,z1,l2,l3,go_sem,simprocAttr]
  ·skip
   subst h
   simp only [A4.get,simprocAttr] at hw hcl
   have l1:=Au hw
   have l2:decide ((0:Int)<(((M 12).words.a3.length:Nat):Int))=true:=by simp;omega
   have l3:((0:Int)<(((M 12).words.a3.length:Nat):Int))=True:=by simp;omega
   refine Ac rfl 14 (by rfl) ?_
   delta c5
   simp +contextual -dsimp -implicitDefEqProofs (maxSteps:=5000000) only [haw,hbe,ea,eb,ec,ev,dd,List.replicate,f0,f,q0,hl,w6,w7,w8,w9,w10,w11,w12,gLs,↓Aj (c5_1.eq_1),p1,hs,hw,hcl,z1,l2,l3,go_sem,simprocAttr]
end Ve
