/- What of a script is below a label, what of a machine is seen: the program's. -/
import Derived.Test.YthllnfkddiaokaaGreatVeSF
set_option linter.all false
set_option linter.unusedSectionVars false
namespace Ve
open Go Ve.Ab
set_option maxHeartbeats 16000000
set_option maxRecDepth 10000
theorem Re {l:Int} (h:inR l 3=true):l=0∨l=1∨l=2∨l=3:=by rw [AE] at h;omega
theorem Ux:Ao 0 0=true∧Ao 0 1=true∧Ao 0 2=true∧Ao 0 3=true∧Ao 1 0=false∧Ao 1 1=true∧Ao 1 2=false∧Ao 1 3=true∧Ao 2 0=false∧Ao 2 1=false∧Ao 2 2=true∧Ao 2 3=true∧Ao 3 0=false∧Ao 3 1=false∧Ao 3 2=false∧Ao 3 3=true:=by decide
abbrev zScB:V:=.agg [.own 1 [],.own 1 [],.own 1 [],.own 1 [],iV 0,.own 4 [],.own 2 []]
abbrev hB (ws:A4 (List Int)) (c:Int) (els sls:List V) (d:Bool):Hp:=pO (pO (pO (pO Ag 0 (some ⟨7,[zScB],false⟩)) 1 (some ⟨7,[.agg [oNs ws.a0,oNs ws.a1,oNs ws.a2,oNs ws.a3,iV c,.sl 2,.sl 3]],true⟩)) 2 (some ⟨4,els,d⟩)) 3 (some ⟨2,sls,false⟩)
theorem yM (i k:Nat) (ws:A4 (List Int)) (c:Int) (xs:List AV) (sls:List V) (hl:xs.length≤1048576) (hp:∀ x∈xs,x.prog.length≤1048576) (q:Out→St→Option Ans) (Q:V→Hp→Nat→Prop) (u:Dum (fun s q=>evC ctx (Lv ctx (i+22)) (Aa (Lv ctx (i+22))) k Wr s (As [4,6,56,57,58] q))) (w:Dum q)
  (hend:∀ d,Fin (q (.exit 2) ⟨Ad [4,6] [.ptr 0 0 0,.ptr 1 0 0],hB ws c (xs.map oSt) sls d,4⟩) Q):∀ (suf pre:List AV) (kk:Nat) (d:Bool),xs=pre++suf→suf.length<kk →
  GL 4 [4,6,56,57,58] (fun s q=>evC ctx (Lv ctx (i+22)) (Aa (Lv ctx (i+22))) k Wr s (As [4,6,56,57,58] q)) q kk ⟨Ad [4,6,56,57,58] [.ptr 0 0 0,.ptr 1 0 0,.sl 2,iV xs.length,iV pre.length],hB ws c (pre.map oSt++suf.map (eSt true)) sls d,4⟩ Q u w
 | [],pre,kk,d,hxs,hk=>by
  obtain ⟨kk,rfl⟩:∃ m,kk=m+1:=⟨kk - 1,by simp at hk;omega⟩
  have h1:decide ((pre.length:Int)<xs.length)=false:=by simp [hxs]
  have h2:xs=pre:=by simp [hxs]
  have he:=hend d
  rw [h2] at he
  simp only [List.map_nil,List.append_nil]
  cases d
  all_goals
   simp +contextual -dsimp -implicitDefEqProofs (maxSteps:=5000000) only [gLs,↓Ai (Wr.eq_1),h1,go_sem,simprocAttr]
   exact he
 | a::suf,pre,kk,d,hxs,hk=>by
  obtain ⟨kk,rfl⟩:∃ m,kk=m+1:=⟨kk - 1,by simp at hk;omega⟩
  have hl':pre.length<xs.length:=by simp [hxs]
  have h2:((pre.length:Int)<xs.length)=True:=by simpa using hl'
  have h3:(0≤(pre.length:Int))=True:=by simp
  have h4:=wrN pre.length (by simp only [BB];omega)
  have h6:((a.prog.length:Int)*32≤140737488355328)=True:=by
   have:=hp a (by simp [hxs])
   simp only [eq_iff_iff,iff_true]
   omega
  have hg:(pre.map oSt++(a::suf).map (eSt true))[pre.length]?=some (eSt true a):=by simp
  have h7:((pre.length:Int)<((pre.length+(suf.length+1):Nat):Int))=True:=by simp;omega
  have hlen:(((pre.map oSt++(a::suf).map (eSt true)).length:Nat):Int)=xs.length:=by simp [hxs]
  have hset:∀ x,(pre.map oSt++(a::suf).map (eSt true)).set pre.length x=pre.map oSt++x::suf.map (eSt true):=by intro x;simp [List.set_append]
  have ih:=yM i k ws c xs sls hl hp q Q u w hend suf (pre++[a]) kk true (by simp [hxs]) (by simpa using hk)
  simp only [Ah,List.map_append,List.map_cons,List.map_nil,List.append_assoc,List.cons_append,List.nil_append,oSt] at ih
  simp only [eSt,List.map_cons] at hg hlen hset ⊢
  cases d
  all_goals
   simp +contextual -dsimp -implicitDefEqProofs (maxSteps:=5000000) only [gLs,↓Ai (Wr.eq_1),h2,h3,h4,h6,h7,hg,hlen,hset,List.length_map,go_sem,simprocAttr]
   obtain ⟨kk,rfl⟩:∃ m,kk=m+1:=⟨kk - 1,by simp at hk;omega⟩
   simp +contextual -dsimp -implicitDefEqProofs (maxSteps:=5000000) only [gLs,go_sem,simprocAttr] at ih ⊢
   exact ih
theorem Ut:oSc Ou=zScB:=rfl
theorem Oc (i:Nat) (s:Ap) (hs:Cj s) (l:Int):Aa (Lv ctx (i+23)) 33 [eSc true s,iV l]=some (.tup [oSc (HA s l).1,iV (HA s l).2]):=by
 have q0:=So (i+1) true s hs
 have e:HA s l=if (Az s&&inR l 3)=true then (Bj s l,0) else (Ou,2500):=rfl
 rw [e]
 simp only [Nat.add_assoc,Nat.reduceAdd] at q0
 cases h0:Az s
 ·rw [h0] at q0
  simp only [Bool.false_and,Bool.false_eq_true,if_false]
  rw [Ut]
  refine Af rfl 0 (by rfl) ?_
  delta c33
  simp +contextual -dsimp -implicitDefEqProofs (maxSteps:=5000000) only [q0,go_sem,simprocAttr]
 ·rw [h0] at q0
  cases h1:inR l 3
  ·simp only [Bool.and_false,Bool.false_eq_true,if_false]
   rw [Ut]
   refine Af rfl 0 (by rfl) ?_
   delta c33
   simp +contextual -dsimp -implicitDefEqProofs (maxSteps:=5000000) only [q0,h1,go_sem,simprocAttr]
  ·simp only [Bool.and_self,if_true]
   have hb:=fun (n:Nat) (h:n≤1048576)=>(by simp only [eq_iff_iff,iff_true];omega:((n:Int)*8≤140737488355328)=True)
   have b0:=hb _ hs.b0
   have b1:=hb _ hs.b1
   have b2:=hb _ hs.b2
   have b3:=hb _ hs.b3
   have q1:=a4r (i+20) s.starts l (by have:=hs.bst;omega)
   have q2:=a4s (i+20) true false s.slots l (by have:=hs.bsl;omega)
   have hlf:(s.starts.filter fun x=>Ao x.label l).length≤1048576:=Nat.le_trans (List.length_filter_le _ _) hs.bst
   have hpf:∀ x∈(s.starts.filter fun x=>Ao x.label l),x.prog.length≤1048576:=fun x hx=>hs.p x (List.mem_filter.1 hx).1
   have key:=fun k c sls q Q u w hend kk hk=>yM i k ⟨Cw 0 l s.words.a0,Cw 1 l s.words.a1,Cw 2 l s.words.a2,Cw 3 l s.words.a3⟩ c (s.starts.filter fun x=>Ao x.label l) sls hlf hpf q Q u w hend _ [] kk false rfl hk
   simp only [List.map_nil,List.nil_append,List.length_nil,Int.natCast_zero] at key
   simp only [Bj,oSc,cOSc]
   generalize (s.starts.filter fun x=>Ao x.label l)=XS at key q1 hlf hpf ⊢
   generalize (s.slots.filter fun x=>Ao x.level l)=YS at q2 ⊢
   obtain ⟨t00,t01,t02,t03,t10,t11,t12,t13,t20,t21,t22,t23,t30,t31,t32,t33⟩:=Ux
   have hz:∀ n:Nat,(0≤(n:Int))=True:=fun n=>by simp
   simp only [Nat.add_assoc,Nat.reduceAdd] at q1 q2
   refine Af rfl (XS.length+6) (by rfl) ?_
   delta c33
   rcases Re h1 with rfl | rfl | rfl | rfl
   all_goals
    simp only [Cw,t00,t01,t02,t03,t10,t11,t12,t13,t20,t21,t22,t23,t30,t31,t32,t33,if_true,if_false,Bool.false_eq_true] at key ⊢
    simp +contextual -dsimp -implicitDefEqProofs (maxSteps:=5000000) only [gLs 2 [1,2,4,6,24,25],↓Ai (yZ.eq_1),q0,h1,b0,b1,b2,b3,hz,Int.toNat_natCast,List.length_replicate,a0q,q1,q2,t00,t01,t02,t03,t10,t11,t12,t13,t20,t21,t22,t23,t30,t31,t32,t33,go_sem,simprocAttr]
    refine key _ _ _ _ _ _ _ ?_ _ (by omega)
    intro d
    cases d<;>simp +contextual -dsimp -implicitDefEqProofs (maxSteps:=5000000) only [go_sem,simprocAttr]
theorem ID (i:Nat) (p:Bool) (m:Ac) (hm:SmM m) (l:Int):Aa (Lv ctx (i+21)) 32 [eM p m,iV l]=some (.tup [oM (LF m l).1,iV (LF m l).2]):=by
 have q0:=QG (i+1) p m hm
 have qc:=Dw (i+17) p m hm
 have e:LF m l=if (De m&&inR l 3)=true then (Dr m l,0) else (AA,2500):=rfl
 rw [e]
 simp only [Nat.add_assoc,Nat.reduceAdd] at q0 qc
 cases h0:De m
 ·rw [h0] at q0
  simp only [Bool.false_and,Bool.false_eq_true,if_false]
  rw [Bh]
  refine Af rfl 0 (by rfl) ?_
  delta c32
  cases p<;>simp +contextual -dsimp -implicitDefEqProofs (maxSteps:=5000000) only [q0,go_sem,simprocAttr]
 ·rw [h0] at q0
  cases h1:inR l 3
  ·simp only [Bool.and_false,Bool.false_eq_true,if_false]
   rw [Bh]
   refine Af rfl 0 (by rfl) ?_
   delta c32
   cases p<;>simp +contextual -dsimp -implicitDefEqProofs (maxSteps:=5000000) only [q0,h1,go_sem,simprocAttr]
  ·simp only [Bool.and_self,if_true]
   have q1:=s_uS (i+18) m.sess l hm.bs
   have q2:=a4t (i+18) false false m.trace l hm.bt
   simp only [Dr,oM,cO]
   generalize (m.sess.filter fun x=>Ao x.label l)=XS at q1 ⊢
   generalize (m.trace.filter fun x=>Ao x.label l)=YS at q2 ⊢
   obtain ⟨t00,t01,t02,t03,t10,t11,t12,t13,t20,t21,t22,t23,t30,t31,t32,t33⟩:=Ux
   simp only [Nat.add_assoc,Nat.reduceAdd] at q1 q2
   refine Af rfl 6 (by rfl) ?_
   delta c32
   rcases Re h1 with rfl | rfl | rfl | rfl
   all_goals
    simp only [KJ,Nu,t00,t01,t02,t03,t10,t11,t12,t13,t20,t21,t22,t23,t30,t31,t32,t33,if_true,if_false,Bool.false_eq_true]
    cases p
    all_goals
     simp +contextual -dsimp -implicitDefEqProofs (maxSteps:=5000000) only [gLs 8 [1,4,6,19],↓Ai (zA.eq_1),q0,qc,h1,q1,q2,t00,t01,t02,t03,t10,t11,t12,t13,t20,t21,t22,t23,t30,t31,t32,t33,List.map_nil,go_sem,simprocAttr]<;>rfl
end Ve
