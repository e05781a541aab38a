/- The reference's reading. -/
import Derived.Test.YthllnfkddiaokaaGreatVeSC
import Derived.Test.YthllnfkddiaokaaGreatVeP
import Derived.Test.YthllnfkddiaokaaGreatVeN
set_option linter.all false
set_option linter.unusedSectionVars false
namespace Ve
open Go Ve.Ab
set_option maxHeartbeats 16000000
set_option maxRecDepth 10000
theorem eJ {m:Ac} {k:Nat} {s:Ae} {x:AD} (h:CJ m k=some (s,x)) (hc:x.code=2) (hu:Ao x.b s.label=true) {v:Int} (hf:Bi s.writes x.b x.c=(v,true)):Ct m k=(Bm (Bd m k (Eu s x s.reads v)) ⟨s.id,s.label,0,v⟩,0):=by
 unfold Ct;rw [h];simp only [hc,hu,hf,if_true,Int.toNat_natCast]
theorem nI {m:Ac} {at_:Int} {s:Ae} {x:AD} (h:CJ m at_=some (s,x)) (hc:x.code=2) (hu:Ao x.b s.label=false):Ct m at_=(AA,1500):=by
 unfold Ct;rw [h];simp only [hc,hu];rfl
theorem XN {m:Ac} {k:Nat} {s:Ae} {x:AD} (h:CJ m k=some (s,x)) (hc:x.code=2) (hu:Ao x.b s.label=true) {v:Int} (hf:Bi s.writes x.b x.c=(v,false)) {wd:Aj} (hw:AB m.words x.b x.c=wd) (hg:(DS m.words s.reads s.id).1=true) (hl:wd.lock=0) :
  Ct m k=(Bm (Bd m k (Eu s x (BQ s.reads ⟨x.b,x.c,wd.ver⟩).1 wd.val)) ⟨s.id,s.label,0,wd.val⟩,0):=by
 unfold Ct;rw [h];simp only [hc,hu,hf,hw,hg,hl,if_true,Bool.false_eq_true,if_false,and_self,Int.toNat_natCast]
theorem eK {m:Ac} {k:Nat} {s:Ae} {x:AD} (h:CJ m k=some (s,x)) (hc:x.code=2) (hu:Ao x.b s.label=true) {v:Int} (hf:Bi s.writes x.b x.c=(v,false)) {wd:Aj} (hw:AB m.words x.b x.c=wd) (hg:¬ ((DS m.words s.reads s.id).1=true∧wd.lock=0)):Ct m k=Cy m k 3:=by
 unfold Ct;rw [h];simp only [hc,hu,hf,hw,if_true,Bool.false_eq_true,if_false];exact if_neg hg
theorem rY {ws:A4 (List Aj)} {l x:Int} {wd:Aj} {n:Nat} (ha:AS ws=true) (ht:Ay ws l x=true) (hg:(ws.get l)[n]?=some wd):Ba wd=true∧CF ⟨l,x,wd.ver⟩=true:=by
 have hl:=HY ht
 have hrow:Ch (ws.get l)=true:=by
  simp only [AS,A4.all,Bool.and_eq_true] at ha
  rcases Dm l with rfl | rfl | rfl | rfl | h'
  ·exact ha.1.1.1
  ·exact ha.1.1.2
  ·exact ha.1.2
  ·exact ha.2
  ·rw [hl] at h';cases h'
 simp only [Ch,Bool.and_eq_true,decide_eq_true_eq,List.all_eq_true] at hrow
 have hwm:=hrow.2 wd (List.mem_of_getElem? hg)
 refine ⟨hwm,?_⟩
 simp only [Ba,Bool.and_eq_true] at hwm
 simp only [Ay,Bool.and_eq_true,decide_eq_true_eq] at ht
 simp only [CF,Bool.and_eq_true,AE] at *
 omega
end Ve
