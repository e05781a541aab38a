/- What of a script is below a label, what of a machine is seen: the program's. -/
import Derived.Test.YtjgbbmcjbfpjfaaGreatS62
import Derived.Test.YtjgbbmcjbfpjfaaGreatVeSD
import Derived.Test.YtjgbbmcjbfpjfaaGreatVeP
import Derived.Test.YtjgbbmcjbfpjfaaGreatVeN
set_option linter.all false
set_option linter.unusedSectionVars false
namespace Ve
open Go Ve.Ab
set_option maxHeartbeats 16000000
set_option maxRecDepth 10000
theorem xC {l:Int} (h:inR l 3=true):l=0∨l=1∨l=2∨l=3:=by rw [AL] at h;omega
theorem Tg:Aj 0 0=true∧Aj 0 1=true∧Aj 0 2=true∧Aj 0 3=true∧Aj 1 0=false∧Aj 1 1=true∧Aj 1 2=false∧Aj 1 3=true∧Aj 2 0=false∧Aj 2 1=false∧Aj 2 2=true∧Aj 2 3=true∧Aj 3 0=false∧Aj 3 1=false∧Aj 3 2=false∧Aj 3 3=true:=by decide
abbrev pM:V:=.agg [.own 1 [],.own 1 [],.own 1 [],.own 1 [],iV 0,.own 4 [],.own 2 []]
abbrev hB (ws:A4 (List Int)) (c:Int) (els sls:List V) (d:Bool):Hp:=pO (pO (pO (pO Af 0 (some ⟨7,[pM],false⟩)) 1 (some ⟨7,[.agg [oNs ws.a0,oNs ws.a1,oNs ws.a2,oNs ws.a3,iV c,.sl 2,.sl 3]],true⟩)) 2 (some ⟨4,els,d⟩)) 3 (some ⟨2,sls,false⟩)
theorem xH (i k:Nat) (ws:A4 (List Int)) (c:Int) (xs:List Bk) (sls:List V) (hl:xs.length≤1048576) (hp:∀ x∈xs,x.prog.length≤1048576) (q:Out→St→Option Ans) (Q:V→Hp→Nat→Prop) (u:Dum (fun s q=>evC ctx (Lv ctx (i+22)) (Aa (Lv ctx (i+22))) k Vk s (Al [4,6,56,57,58] q))) (w:Dum q)
  (hend:∀ d,Fin (q (.exit 2) ⟨Ae [4,6] [.ptr 0 0 0,.ptr 1 0 0],hB ws c (xs.map oSt) sls d,4⟩) Q):∀ (suf pre:List Bk) (kk:Nat) (d:Bool),xs=pre++suf→suf.length<kk →
  GL 4 [4,6,56,57,58] (fun s q=>evC ctx (Lv ctx (i+22)) (Aa (Lv ctx (i+22))) k Vk s (Al [4,6,56,57,58] q)) q kk ⟨Ae [4,6,56,57,58] [.ptr 0 0 0,.ptr 1 0 0,.sl 2,iV xs.length,iV pre.length],hB ws c (pre.map oSt++suf.map (eSt true)) sls d,4⟩ Q u w
 | [],pre,kk,d,hxs,hk=>by
  obtain ⟨kk,rfl⟩:∃ m,kk=m+1:=⟨kk - 1,by simp at hk;omega⟩
  have h1:decide ((pre.length:Int)<xs.length)=false:=by simp [hxs]
  have h2:xs=pre:=by simp [hxs]
  have he:=hend d
  rw [h2] at he
  simp only [List.map_nil,List.append_nil]
  cases d
  all_goals
   simp +contextual -dsimp -implicitDefEqProofs (maxSteps:=5000000) only [gLs,↓Ah (Vk.eq_1),h1,go_sem,simprocAttr]
   exact he
 | a::suf,pre,kk,d,hxs,hk=>by
  obtain ⟨kk,rfl⟩:∃ m,kk=m+1:=⟨kk - 1,by simp at hk;omega⟩
  have hl':pre.length<xs.length:=by simp [hxs]
  have h2:((pre.length:Int)<xs.length)=True:=by simpa using hl'
  have h3:(0≤(pre.length:Int))=True:=by simp
  have h4:=wrN pre.length (by simp only [BB];omega)
  have h6:((a.prog.length:Int)*32≤140737488355328)=True:=by
   have:=hp a (by simp [hxs])
   simp only [eq_iff_iff,iff_true]
   omega
  have hg:(pre.map oSt++(a::suf).map (eSt true))[pre.length]?=some (eSt true a):=by simp
  have h7:((pre.length:Int)<((pre.length+(suf.length+1):Nat):Int))=True:=by simp;omega
  have hlen:(((pre.map oSt++(a::suf).map (eSt true)).length:Nat):Int)=xs.length:=by simp [hxs]
  have hset:∀ x,(pre.map oSt++(a::suf).map (eSt true)).set pre.length x=pre.map oSt++x::suf.map (eSt true):=by intro x;simp [List.set_append]
  have ih:=xH i k ws c xs sls hl hp q Q u w hend suf (pre++[a]) kk true (by simp [hxs]) (by simpa using hk)
  simp only [Ag,List.map_append,List.map_cons,List.map_nil,List.append_assoc,List.cons_append,List.nil_append,oSt] at ih
  simp only [eSt,List.map_cons] at hg hlen hset ⊢
  cases d
  all_goals
   simp +contextual -dsimp -implicitDefEqProofs (maxSteps:=5000000) only [gLs,↓Ah (Vk.eq_1),h2,h3,h4,h6,h7,hg,hlen,hset,List.length_map,go_sem,simprocAttr]
   obtain ⟨kk,rfl⟩:∃ m,kk=m+1:=⟨kk - 1,by simp at hk;omega⟩
   simp +contextual -dsimp -implicitDefEqProofs (maxSteps:=5000000) only [gLs,go_sem,simprocAttr] at ih ⊢
   exact ih
theorem CS:oSc Gj=pM:=rfl
theorem GF (i:Nat) (s:Aq) (hs:CK s) (l:Int):Aa (Lv ctx (i+23)) 14 [eSc true s,iV l]=some (.tup [oSc (Cr s l).1,iV (Cr s l).2]):=by
 have q0:=GB (i+1) true s hs
 have e:Cr s l=if (Au s&&inR l 3)=true then (Bc s l,0) else (Gj,2500):=rfl
 rw [e]
 simp only [Nat.add_assoc,Nat.reduceAdd] at q0
 cases h0:Au s
 ·rw [h0] at q0
  simp only [Bool.false_and,Bool.false_eq_true,if_false]
  rw [CS]
  refine Ac rfl 0 (by rfl) ?_
  delta c14
  simp +contextual -dsimp -implicitDefEqProofs (maxSteps:=5000000) only [q0,go_sem,simprocAttr]
 ·rw [h0] at q0
  cases h1:inR l 3
  ·simp only [Bool.and_false,Bool.false_eq_true,if_false]
   rw [CS]
   refine Ac rfl 0 (by rfl) ?_
   delta c14
   simp +contextual -dsimp -implicitDefEqProofs (maxSteps:=5000000) only [q0,h1,go_sem,simprocAttr]
  ·simp only [Bool.and_self,if_true]
   have hb:=fun (n:Nat) (h:n≤1048576)=>(by simp only [eq_iff_iff,iff_true];omega:((n:Int)*8≤140737488355328)=True)
   have b0:=hb _ hs.b0
   have b1:=hb _ hs.b1
   have b2:=hb _ hs.b2
   have b3:=hb _ hs.b3
   have q1:=a8m (i+20) s.starts l (by have:=hs.bst;omega)
   have q2:=a8n (i+20) true false s.slots l (by have:=hs.bsl;omega)
   have hlf:(s.starts.filter fun x=>Aj x.label l).length≤1048576:=Nat.le_trans (List.length_filter_le _ _) hs.bst
   have hpf:∀ x∈(s.starts.filter fun x=>Aj x.label l),x.prog.length≤1048576:=fun x hx=>hs.p x (List.mem_filter.1 hx).1
   have key:=fun k c sls q Q u w hend kk hk=>xH i k ⟨Bo 0 l s.words.a0,Bo 1 l s.words.a1,Bo 2 l s.words.a2,Bo 3 l s.words.a3⟩ c (s.starts.filter fun x=>Aj x.label l) sls hlf hpf q Q u w hend _ [] kk false rfl hk
   simp only [List.map_nil,List.nil_append,List.length_nil,Int.natCast_zero] at key
   simp only [Bc,oSc,Pm]
   generalize (s.starts.filter fun x=>Aj x.label l)=XS at key q1 hlf hpf ⊢
   generalize (s.slots.filter fun x=>Aj x.level l)=YS at q2 ⊢
   obtain ⟨t00,t01,t02,t03,t10,t11,t12,t13,t20,t21,t22,t23,t30,t31,t32,t33⟩:=Tg
   have hz:∀ n:Nat,(0≤(n:Int))=True:=fun n=>by simp
   simp only [Nat.add_assoc,Nat.reduceAdd] at q1 q2
   refine Ac rfl (XS.length+6) (by rfl) ?_
   delta c14
   rcases xC h1 with rfl | rfl | rfl | rfl
   all_goals
    simp only [Bo,t00,t01,t02,t03,t10,t11,t12,t13,t20,t21,t22,t23,t30,t31,t32,t33,if_true,if_false,Bool.false_eq_true] at key ⊢
    simp +contextual -dsimp -implicitDefEqProofs (maxSteps:=5000000) only [gLs 2 [1,2,4,6,24,25],↓Ah (xU.eq_1),q0,h1,b0,b1,b2,b3,hz,Int.toNat_natCast,List.length_replicate,a3d,q1,q2,t00,t01,t02,t03,t10,t11,t12,t13,t20,t21,t22,t23,t30,t31,t32,t33,go_sem,simprocAttr]
    refine key _ _ _ _ _ _ _ ?_ _ (by omega)
    intro d
    cases d<;>simp +contextual -dsimp -implicitDefEqProofs (maxSteps:=5000000) only [go_sem,simprocAttr]
theorem Hi (i:Nat) (p:Bool) (m:Ad) (hm:SmM m) (l:Int):Aa (Lv ctx (i+21)) 16 [eM p m,iV l]=some (.tup [oM (Dh m l).1,iV (Dh m l).2]):=by
 have q0:=Zc (i+1) p m hm
 have qc:=Dz (i+17) p m hm
 have e:Dh m l=if (CN m&&inR l 3)=true then (Bf m l,0) else (Az,2500):=rfl
 rw [e]
 simp only [Nat.add_assoc,Nat.reduceAdd] at q0 qc
 cases h0:CN m
 ·rw [h0] at q0
  simp only [Bool.false_and,Bool.false_eq_true,if_false]
  rw [Ay]
  refine Ac rfl 0 (by rfl) ?_
  delta c16
  cases p<;>simp +contextual -dsimp -implicitDefEqProofs (maxSteps:=5000000) only [q0,go_sem,simprocAttr]
 ·rw [h0] at q0
  cases h1:inR l 3
  ·simp only [Bool.and_false,Bool.false_eq_true,if_false]
   rw [Ay]
   refine Ac rfl 0 (by rfl) ?_
   delta c16
   cases p<;>simp +contextual -dsimp -implicitDefEqProofs (maxSteps:=5000000) only [q0,h1,go_sem,simprocAttr]
  ·simp only [Bool.and_self,if_true]
   have q1:=s_uS (i+18) m.sess l hm.bs
   have q2:=a8o (i+18) false false m.trace l hm.bt
   simp only [Bf,oM,cO]
   generalize (m.sess.filter fun x=>Aj x.label l)=XS at q1 ⊢
   generalize (m.trace.filter fun x=>Aj x.label l)=YS at q2 ⊢
   obtain ⟨t00,t01,t02,t03,t10,t11,t12,t13,t20,t21,t22,t23,t30,t31,t32,t33⟩:=Tg
   simp only [Nat.add_assoc,Nat.reduceAdd] at q1 q2
   refine Ac rfl 6 (by rfl) ?_
   delta c16
   rcases xC h1 with rfl | rfl | rfl | rfl
   all_goals
    simp only [Jc,Lc,t00,t01,t02,t03,t10,t11,t12,t13,t20,t21,t22,t23,t30,t31,t32,t33,if_true,if_false,Bool.false_eq_true]
    cases p
    all_goals
     simp +contextual -dsimp -implicitDefEqProofs (maxSteps:=5000000) only [gLs 8 [1,4,6,19],↓Ah (xT.eq_1),q0,qc,h1,q1,q2,t00,t01,t02,t03,t10,t11,t12,t13,t20,t21,t22,t23,t30,t31,t32,t33,List.map_nil,go_sem,simprocAttr]<;>rfl
end Ve
namespace Ve
open Go Ve.Ab
set_option maxHeartbeats 16000000
set_option maxRecDepth 10000
def AZ:Aq:=⟨⟨[5],[7],[],[9]⟩,9,[⟨3,0,3,[⟨2,0,0,0⟩,⟨1,0,0,0⟩,⟨3,0,0,0⟩]⟩,⟨5,1,1,[⟨2,0,0,0⟩,⟨3,0,1,0⟩]⟩],[⟨0,0⟩,⟨1,0⟩,⟨0,0⟩,⟨0,0⟩,⟨3,0⟩,⟨0,0⟩,⟨0,0⟩,⟨0,0⟩,⟨0,0⟩,⟨0,0⟩]⟩
def jY:Aq:=⟨⟨[],[],[],[]⟩,-1,[],[]⟩
theorem Fg:CK AZ:=⟨by decide,by decide,by decide,by decide,by decide,by decide,by decide⟩
theorem a2g:CK jY:=⟨by decide,by decide,by decide,by decide,by decide,by decide,by decide⟩
theorem lP:(Bq AZ).2=0∧(Bq AZ).1.words.a0=[⟨10,1,0⟩]:=⟨by decide +kernel,by decide +kernel⟩
theorem a5k:Au AZ=true:=by decide +kernel
theorem lQ:(Cr AZ 0).2=0∧(Cr AZ 0).1.words.a3=[0]∧(Cr AZ 0).1.starts.length=1∧(Cr AZ 0).1.slots.length=8:=⟨by decide +kernel,by decide +kernel,by decide +kernel,by decide +kernel⟩
theorem uI:(Dh (Bq AZ).1 0).2=0∧(Dh (Bq AZ).1 0).1.words.a1=[]∧(Dh (Bq AZ).1 0).1.sess.length=1:=⟨by decide +kernel,by decide +kernel,by decide +kernel⟩
theorem a5j:(Bq jY).2=2500∧(Cr AZ 4).2=2500∧(Dh (Bq AZ).1 (-1)).2=2500:=⟨by decide +kernel,by decide +kernel,by decide +kernel⟩
theorem Tw (i:Nat):Aa (Lv ctx (i+1)) 26 []=some (oSc AZ):=by
 refine Ac rfl 0 (by rfl) ?_
 delta c26
 simp +contextual -dsimp -implicitDefEqProofs (maxSteps:=5000000) only [List.replicate,List.replicate_succ,List.flatten_cons,List.flatten_nil,List.cons_append,List.nil_append,go_sem,simprocAttr]
 first | rfl | done
theorem awT (i:Nat):Aa (Lv ctx (i+30)) 25 []=some (bV true):=by
 have q0:=Tw (i+(29 - 1))
 have q1:=Kq (i+0) true AZ Fg
 have q2:=GF (i+6) AZ Fg 0
 have q3:=Hi (i+8) true (Bq AZ).1 (FE Fg) 0
 have q4:=fun p=>Kq (i+0) p jY a2g
 have q5:=GF (i+6) AZ Fg 4
 have q6:=Hi (i+8) true (Bq AZ).1 (FE Fg) (-1)
 have q7:=GB (i+8) true AZ Fg
 obtain ⟨r0,r1⟩:=lP
 obtain ⟨n0,n1,n2⟩:=a5j
 obtain ⟨b0,b1,b2,b3⟩:=lQ
 obtain ⟨v0,v1,v2⟩:=uI
 rw [a5k] at q7
 rw [r0] at q1
 rw [b0] at q2
 rw [v0] at q3
 rw [n0] at q4
 rw [n1] at q5
 rw [n2] at q6
 simp only [jY,eSc,cSc,eNs,Hw,Hu,List.map_nil] at q4
 simp only [Nat.add_assoc,Nat.reduceAdd,Nat.reduceSub,decide_true] at q0 q1 q2 q3 q4 q5 q6 q7
 generalize (Bq jY).1=M4 at q4
 generalize (Cr AZ 4).1=M5 at q5
 generalize (Dh (Bq AZ).1 (-1)).1=M6 at q6
 generalize (Dh (Bq AZ).1 0).1=S at q3 v1 v2
 generalize (Cr AZ 0).1=B at q2 b1 b2 b3
 generalize (Bq AZ).1=M at q1 r1 q3 q6
 obtain ⟨⟨w0',w1',w2',w3'⟩,ck,ce,ss,tr⟩:=M
 simp only at r1
 subst r1
 obtain ⟨⟨x0,x1,x2,x3⟩,xc,xs,xl⟩:=B
 simp only at b1 b2 b3
 subst b1
 obtain ⟨⟨y0,y1,y2,y3⟩,yk,ye,ys,yt⟩:=S
 simp only at v1 v2
 subst v1
 have z2:decide ((xs.length:Int)=1)=true:=by rw [b2];rfl
 have z3:decide ((xl.length:Int)=8)=true:=by rw [b3];rfl
 have z4:decide ((ys.length:Int)=1)=true:=by rw [v2];rfl
 simp only [eM,cM,eWs,List.map_cons,List.map_nil,eW] at q3 q6
 refine Ac rfl 0 (by rfl) ?_
 delta c25
 simp +contextual -dsimp -implicitDefEqProofs (maxSteps:=5000000) only [q0,q1,q2,q3,q4,q5,q6,q7,z2,z3,z4,go_sem,simprocAttr]
end Ve
