/- The statement ScriptForms. -/
import Derived.Test.YtjgbbmcjbfpjfaaGreatS68
import Derived.Test.YtjgbbmcjbfpjfaaGreatVeSH
import Derived.Test.YtjgbbmcjbfpjfaaGreatVeSE
import Derived.Test.YtjgbbmcjbfpjfaaGreatVeP
import Derived.Test.YtjgbbmcjbfpjfaaGreatPL54
set_option linter.all false
set_option linter.unusedSectionVars false
namespace Ve
open Go Ve.Ab
set_option maxHeartbeats 16000000
set_option maxRecDepth 20000
theorem Wq {D c:Int} (h:1≤D):inR (-D) c=false:=by
 cases h':inR (-D) c with
 | false=>rfl
 | true=>rw [AL] at h';omega
theorem pE {D c:Int} (h:1≤D):inR (c+D) c=false:=by
 cases h':inR (c+D) c with
 | false=>rfl
 | true=>rw [AL] at h';omega
def fSt (clear id2:Int):List Bk:=[⟨3,0,clear,[⟨2,0,0,0⟩,⟨1,0,0,0⟩,⟨3,0,0,0⟩]⟩,⟨id2,1,1,[⟨2,0,0,0⟩,⟨3,0,1,0⟩]⟩]
def fSl (level pick:Int):List AR:=[⟨0,0⟩,⟨1,0⟩,⟨0,0⟩,⟨level,pick⟩,⟨3,0⟩,⟨0,0⟩,⟨0,0⟩,⟨0,0⟩,⟨0,0⟩,⟨0,0⟩]
def fS (r:List Int) (ceil clear id2:Int) (sl:List AR):Aq:=⟨⟨r,[7],[],[9]⟩,ceil,fSt clear id2,sl⟩
theorem Nh {r:List Int} {ceil clear id2:Int} {sl:List AR} (hr:r.length≤1) (hl:sl.length≤1048576):CK (fS r ceil clear id2 sl):=by
 refine ⟨by show r.length≤_;omega,by simp [fS],by simp [fS],by simp [fS],by simp [fS,fSt],hl,?_⟩
 intro x hx
 simp only [fS,fSt,List.mem_cons,List.mem_nil_iff,or_false] at hx
 rcases hx with rfl | rfl<;>simp
theorem aE {s:Aq} (h:(BV s.words&&s.starts.all Cf&&CN (AW s))=false):Au s=false:=by
 unfold Au DG;rw [h];rfl
theorem Vt {s:Aq} (h:s.slots.all AP=false):Au s=false:=by unfold Au;rw [h,Bool.and_false]
theorem pH {r:List Int} {D clear id2:Int} {sl:List AR} (h:inR D 65535=false):Au (fS r D clear id2 sl)=false:=by
 apply aE
 have e:inR (AW (fS r D clear id2 sl)).ceil 65535=false:=h
 have:CN (AW (fS r D clear id2 sl))=false:=by unfold CN;rw [e];simp
 rw [this,Bool.and_false]
theorem eL {r:List Int} {ceil D id2:Int} {sl:List AR} (h:inR D 3=false):Au (fS r ceil D id2 sl)=false:=by
 apply aE
 have:Cf ⟨3,0,D,[⟨2,0,0,0⟩,⟨1,0,0,0⟩,⟨3,0,0,0⟩]⟩=false:=by unfold Cf CT;simp only [h,Bool.and_false,Bool.false_and]
 have:(fS r ceil D id2 sl).starts.all Cf=false:=by show (fSt D id2).all Cf=false;unfold fSt;rw [List.all_cons,this,Bool.false_and]
 rw [this,Bool.and_false,Bool.false_and]
theorem eK {r:List Int} {ceil clear id2 D p:Int} (h:inR D 3=false):Au (fS r ceil clear id2 (fSl D p))=false:=by
 apply Vt
 have:AP ⟨D,p⟩=false:=by unfold AP;simp only [h,Bool.and_false,Bool.false_and]
 show (fSl D p).all AP=false
 unfold fSl;simp only [List.all_cons,this,Bool.and_false,Bool.false_and]
theorem Vu {r:List Int} {ceil clear id2 D l:Int} (h:inR D 255=false):Au (fS r ceil clear id2 (fSl l D))=false:=by
 apply Vt
 have:AP ⟨l,D⟩=false:=by unfold AP;simp only [h,Bool.and_false,Bool.false_and]
 show (fSl l D).all AP=false
 unfold fSl;simp only [List.all_cons,this,Bool.and_false,Bool.false_and]
theorem pG {r:List Int} {ceil clear id2:Int} {n:Nat} (h:256<n):Au (fS r ceil clear id2 (List.replicate n ⟨0,0⟩))=false:=by
 unfold Au
 have:decide ((fS r ceil clear id2 (List.replicate n ⟨0,0⟩)).slots.length≤256)=false:=by show decide ((List.replicate n _).length≤256)=false;rw [List.length_replicate];simpa using h
 rw [this,Bool.and_false,Bool.false_and]
theorem VW (i:Nat) (p:Bool) (s:Aq) (hs:CK s) (l:Int) (h:Au s=false):Aa (Lv ctx (i+23)) 14 [eSc p s,iV l]=some (.tup [oSc Gj,iV 2500]):=by
 have q0:=GB (i+1) p s hs
 simp only [Nat.add_assoc,Nat.reduceAdd] at q0
 rw [h] at q0
 rw [CS]
 refine Ac rfl 0 (by rfl) ?_
 delta c14
 cases p<;>simp +contextual -dsimp -implicitDefEqProofs (maxSteps:=5000000) only [q0,go_sem,simprocAttr]
theorem zR:∀ N:Nat,bzs (List.replicate N (V.agg [iZ,iZ]))=List.replicate N (V.agg [iV 0,iV 0])
 | 0=>rfl
 | n+1=>by
  have ih:=zR n
  rw [List.replicate_succ,bzs,ih]
  rfl
theorem gv_runf:(Bq AZ).2=0:=lP.1
theorem eN {m:Ad} {D:Int} (h:inR D 65535=false):CN { m with ceil:=D }=false:=by
 have e:inR ({ m with ceil:=D }:Ad).ceil 65535=false:=h
 unfold CN;rw [e];simp
theorem u_ScriptForms (i:Nat) (w x:Int) (haw:Aa (Lv ctx (i+30)) 25 []=some (bV true)):Aa (Lv ctx (i+31)) 5 [iV w,iV x]=some (bV true):=by
 have q0:=Tw (i+(30 - 1))
 have hDin:0≤DS x 1023∧DS x 1023≤1023:=AL.1 (GO x 1023 (by omega))
 have hD:IntKind.wrap .i64 (1+DS x 1023)=1+DS x 1023:=Be (by omega) (by omega)
 obtain ⟨D,hD,hD1⟩:∃ D,IntKind.wrap .i64 (1+DS x 1023)=D∧1≤D∧D≤1024:=⟨_,hD,by omega,by omega⟩
 have hneg:IntKind.wrap .i64 (0 - D)=-D:=by rw [Int.zero_sub];exact HQ (by omega) (by omega)
 have ha1:IntKind.wrap .i64 (3+D)=3+D:=Be (by omega) (by omega)
 have ha2:IntKind.wrap .i64 (255+D)=255+D:=Be (by omega) (by omega)
 obtain ⟨N,hN⟩:∃ N:Nat,256+D=(N:Int):=⟨(256+D).toNat,by omega⟩
 have ha3:IntKind.wrap .i64 (256+D)=(N:Int):=by rw [Be (by omega) (by omega),hN]
 have n3:inR (-D) 3=false:=Wq hD1.1
 have n255:inR (-D) 255=false:=Wq hD1.1
 have n65:inR (-D) 65535=false:=Wq hD1.1
 have p3:inR (3+D) 3=false:=pE hD1.1
 have p255:inR (255+D) 255=false:=pE hD1.1
 have hS:0≤DS w 1∧DS w 1≤1:=AL.1 (GO w 1 (by omega))
 obtain ⟨L,j,hj,hget,hjl,hL⟩:∃ (L:Int) (j:Nat),DS w 1=(j:Int)∧[iV (-D),iV (3+D)][j]?=some (iV L)∧((j:Int)<2)∧inR L 3=false:=by
  obtain h | h:DS w 1=0∨DS w 1=1:=by omega
  ·exact ⟨-D,0,h,rfl,by decide,n3⟩
  ·exact ⟨3+D,1,h,rfl,by decide,p3⟩
 have hjl:=eq_true hjl
 have hj0:(0≤(j:Int))=True:=by simp
 -- the calls that do not EZ on the case
 have c1:=GF (i+7) AZ Fg L
 have e1:Cr AZ L=(Gj,2500):=by unfold Cr;rw [hL,Bool.and_false];rfl
 rw [e1] at c1
 have c2:=gY (i+16) true AZ Fg
 have hsG:=FE Fg
 have c3:=Hi (i+9) true (Bq AZ).1 hsG L
 have e3:Dh (Bq AZ).1 L=(Az,2500):=by unfold Dh;rw [hL,Bool.and_false];rfl
 rw [e3] at c3
 have hsG':SmM { (Bq AZ).1 with ceil:=-D }:=by obtain ⟨b0,b1,b2,b3,bs,bt,h⟩:=hsG;exact ⟨b0,b1,b2,b3,bs,bt,h⟩
 have c4:=Hi (i+9) true { (Bq AZ).1 with ceil:=-D } hsG' 3
 have e4:Dh { (Bq AZ).1 with ceil:=-D } 3=(Az,2500):=by unfold Dh;rw [eN n65];rfl
 rw [e4] at c4
 have qz:=fun p q=>BF (i+(30 - 3)) p q Az Az Dx
 have qy:=fun p q=>Je (i+28) p q Gj Gj Qd
 simp only [Az,Gj,eM,cM,eWs,eSs,eEs,eSc,cSc,eNs,Hw,Hu,List.map_nil,decide_true,Nat.add_assoc,Nat.reduceAdd,Nat.reduceSub] at qz qy
 simp only [Ay,CS,eM,cM,Nat.add_assoc,Nat.reduceAdd,Nat.reduceSub] at q0 c1 c2 c3 c4
 generalize (Bq AZ).2=E2 at c2
 generalize (Bq AZ).1=M at c2 c3 c4
 have key:∀ S:Aq,CK S→Au S=false→Aa (Lv ctx (i+30)) 12 [eSc false S]=some (.tup [oM Az,iV 2500])∧Aa (Lv ctx (i+30)) 14 [eSc false S,iV 3]=some (.tup [oSc Gj,iV 2500])∧Aa (Lv ctx (i+30)) 21 [eSc false S]=some (bV false):=by
  intro S hS h
  have k1:=Kq (i+1) false S hS
  have k2:=VW (i+7) false S hS 3 h
  have k3:=GB (i+9) false S hS
  have e:Bq S=(Az,2500):=by unfold Bq;rw [h];rfl
  rw [e] at k1
  rw [h] at k3
  exact ⟨k1,k2,k3⟩
 have hrem:∀ t a,BO lay .rem t (.lit (.int .u64 a)) (.lit (.int .u64 8))=some (.lit (.int .u64 (a.tmod 8))):=fun t a=>Kk (by decide)
 have hT:∃ T:Int,(uW w).tmod 8=T∧0≤T∧T≤7:=by
  have h:=Wd (VK w) (b:=8) (by omega)
  exact ⟨_,rfl,h.1,by omega⟩
 obtain ⟨R,hR,hR1⟩:=hT
 have hR':(IntKind.wrap .u64 w).tmod 8=R:=hR
 clear hR hDin e1 e3 e4 hsG hsG' hS
 obtain hR0 | hR0 | hR0 | hR0 | hR0 | hR0 | hR0 | hR0:R=0∨R=1∨R=2∨R=3∨R=4∨R=5∨R=6∨R=7:=by omega
 ·obtain ⟨k1,k2,k3⟩:=key (fS [] 9 3 5 (fSl 0 0)) (Nh (by decide) (by decide)) (by decide +kernel)
  simp only [Ay,CS,fS,fSl,fSt,AZ,eSc,cSc,eNs,Hw,Hu,eSt,eIs,eSl,eI,oSc,Pm,oNs,Si,Sj,oSt,oIs,List.map_cons,List.map_nil] at k1 k2 k3 q0
  simp only [AZ,eSc,cSc,eNs,Hw,Hu,eSt,eIs,eSl,eI,List.map_cons,List.map_nil] at c1 c2
  have hN0:(0≤(N:Int))=True:=by simp
  have zN:(N:Int)*16≤140737488355328:=by omega
  refine Ac rfl 0 (by rfl) ?_
  delta c5
  simp +contextual -dsimp -implicitDefEqProofs (maxSteps:=5000000) only [haw,q0,c1,c2,c3,c4,qz,qy,k1,k2,k3,Cq,hrem,hR',hR0,hD,IT,hneg,ha1,ha2,ha3,hj,hget,hjl,hj0,zN,hN0,zR,List.replicate,Int.toNat_natCast,go_sem,simprocAttr]
 ·obtain ⟨k1,k2,k3⟩:=key (fS [5] (-D) 3 5 (fSl 0 0)) (Nh (by decide) (by decide)) (pH n65)
  simp only [Ay,CS,fS,fSl,fSt,AZ,eSc,cSc,eNs,Hw,Hu,eSt,eIs,eSl,eI,oSc,Pm,oNs,Si,Sj,oSt,oIs,List.map_cons,List.map_nil] at k1 k2 k3 q0
  simp only [AZ,eSc,cSc,eNs,Hw,Hu,eSt,eIs,eSl,eI,List.map_cons,List.map_nil] at c1 c2
  have hN0:(0≤(N:Int))=True:=by simp
  have zN:(N:Int)*16≤140737488355328:=by omega
  refine Ac rfl 0 (by rfl) ?_
  delta c5
  simp +contextual -dsimp -implicitDefEqProofs (maxSteps:=5000000) only [haw,q0,c1,c2,c3,c4,qz,qy,k1,k2,k3,Cq,hrem,hR',hR0,hD,IT,hneg,ha1,ha2,ha3,hj,hget,hjl,hj0,zN,hN0,zR,List.replicate,Int.toNat_natCast,go_sem,simprocAttr]
 ·obtain ⟨k1,k2,k3⟩:=key (fS [5] 9 3 3 (fSl 0 0)) (Nh (by decide) (by decide)) (by decide +kernel)
  simp only [Ay,CS,fS,fSl,fSt,AZ,eSc,cSc,eNs,Hw,Hu,eSt,eIs,eSl,eI,oSc,Pm,oNs,Si,Sj,oSt,oIs,List.map_cons,List.map_nil] at k1 k2 k3 q0
  simp only [AZ,eSc,cSc,eNs,Hw,Hu,eSt,eIs,eSl,eI,List.map_cons,List.map_nil] at c1 c2
  have hN0:(0≤(N:Int))=True:=by simp
  have zN:(N:Int)*16≤140737488355328:=by omega
  refine Ac rfl 0 (by rfl) ?_
  delta c5
  simp +contextual -dsimp -implicitDefEqProofs (maxSteps:=5000000) only [haw,q0,c1,c2,c3,c4,qz,qy,k1,k2,k3,Cq,hrem,hR',hR0,hD,IT,hneg,ha1,ha2,ha3,hj,hget,hjl,hj0,zN,hN0,zR,List.replicate,Int.toNat_natCast,go_sem,simprocAttr]
 ·obtain ⟨k1,k2,k3⟩:=key (fS [5] 9 3 5 (List.replicate N ⟨0,0⟩)) (Nh (by decide) (by rw [List.length_replicate];omega)) (pG (by omega))
  simp only [Ay,CS,fS,fSl,fSt,List.map_replicate,AZ,eSc,cSc,eNs,Hw,Hu,eSt,eIs,eSl,eI,oSc,Pm,oNs,Si,Sj,oSt,oIs,List.map_cons,List.map_nil] at k1 k2 k3 q0
  simp only [AZ,eSc,cSc,eNs,Hw,Hu,eSt,eIs,eSl,eI,List.map_cons,List.map_nil] at c1 c2
  have hN0:(0≤(N:Int))=True:=by simp
  have zN:(N:Int)*16≤140737488355328:=by omega
  refine Ac rfl 0 (by rfl) ?_
  delta c5
  simp +contextual -dsimp -implicitDefEqProofs (maxSteps:=5000000) only [haw,q0,c1,c2,c3,c4,qz,qy,k1,k2,k3,Cq,hrem,hR',hR0,hD,IT,hneg,ha1,ha2,ha3,hj,hget,hjl,hj0,zN,hN0,zR,List.replicate,Int.toNat_natCast,go_sem,simprocAttr]
 ·obtain ⟨k1,k2,k3⟩:=key (fS [5] 9 3 5 (fSl (3+D) 0)) (Nh (by decide) (by simp [fSl])) (eK p3)
  simp only [Ay,CS,fS,fSl,fSt,AZ,eSc,cSc,eNs,Hw,Hu,eSt,eIs,eSl,eI,oSc,Pm,oNs,Si,Sj,oSt,oIs,List.map_cons,List.map_nil] at k1 k2 k3 q0
  simp only [AZ,eSc,cSc,eNs,Hw,Hu,eSt,eIs,eSl,eI,List.map_cons,List.map_nil] at c1 c2
  have hN0:(0≤(N:Int))=True:=by simp
  have zN:(N:Int)*16≤140737488355328:=by omega
  refine Ac rfl 0 (by rfl) ?_
  delta c5
  simp +contextual -dsimp -implicitDefEqProofs (maxSteps:=5000000) only [haw,q0,c1,c2,c3,c4,qz,qy,k1,k2,k3,Cq,hrem,hR',hR0,hD,IT,hneg,ha1,ha2,ha3,hj,hget,hjl,hj0,zN,hN0,zR,List.replicate,Int.toNat_natCast,go_sem,simprocAttr]
 ·obtain ⟨k1,k2,k3⟩:=key (fS [5] 9 3 5 (fSl 0 (-D))) (Nh (by decide) (by simp [fSl])) (Vu n255)
  simp only [Ay,CS,fS,fSl,fSt,AZ,eSc,cSc,eNs,Hw,Hu,eSt,eIs,eSl,eI,oSc,Pm,oNs,Si,Sj,oSt,oIs,List.map_cons,List.map_nil] at k1 k2 k3 q0
  simp only [AZ,eSc,cSc,eNs,Hw,Hu,eSt,eIs,eSl,eI,List.map_cons,List.map_nil] at c1 c2
  have hN0:(0≤(N:Int))=True:=by simp
  have zN:(N:Int)*16≤140737488355328:=by omega
  refine Ac rfl 0 (by rfl) ?_
  delta c5
  simp +contextual -dsimp -implicitDefEqProofs (maxSteps:=5000000) only [haw,q0,c1,c2,c3,c4,qz,qy,k1,k2,k3,Cq,hrem,hR',hR0,hD,IT,hneg,ha1,ha2,ha3,hj,hget,hjl,hj0,zN,hN0,zR,List.replicate,Int.toNat_natCast,go_sem,simprocAttr]
 ·obtain ⟨k1,k2,k3⟩:=key (fS [5] 9 3 5 (fSl 0 (255+D))) (Nh (by decide) (by simp [fSl])) (Vu p255)
  simp only [Ay,CS,fS,fSl,fSt,AZ,eSc,cSc,eNs,Hw,Hu,eSt,eIs,eSl,eI,oSc,Pm,oNs,Si,Sj,oSt,oIs,List.map_cons,List.map_nil] at k1 k2 k3 q0
  simp only [AZ,eSc,cSc,eNs,Hw,Hu,eSt,eIs,eSl,eI,List.map_cons,List.map_nil] at c1 c2
  have hN0:(0≤(N:Int))=True:=by simp
  have zN:(N:Int)*16≤140737488355328:=by omega
  refine Ac rfl 0 (by rfl) ?_
  delta c5
  simp +contextual -dsimp -implicitDefEqProofs (maxSteps:=5000000) only [haw,q0,c1,c2,c3,c4,qz,qy,k1,k2,k3,Cq,hrem,hR',hR0,hD,IT,hneg,ha1,ha2,ha3,hj,hget,hjl,hj0,zN,hN0,zR,List.replicate,Int.toNat_natCast,go_sem,simprocAttr]
 ·obtain ⟨k1,k2,k3⟩:=key (fS [5] 9 (-D) 5 (fSl 0 0)) (Nh (by decide) (by decide)) (eL n3)
  simp only [Ay,CS,fS,fSl,fSt,AZ,eSc,cSc,eNs,Hw,Hu,eSt,eIs,eSl,eI,oSc,Pm,oNs,Si,Sj,oSt,oIs,List.map_cons,List.map_nil] at k1 k2 k3 q0
  simp only [AZ,eSc,cSc,eNs,Hw,Hu,eSt,eIs,eSl,eI,List.map_cons,List.map_nil] at c1 c2
  have hN0:(0≤(N:Int))=True:=by simp
  have zN:(N:Int)*16≤140737488355328:=by omega
  refine Ac rfl 0 (by rfl) ?_
  delta c5
  simp +contextual -dsimp -implicitDefEqProofs (maxSteps:=5000000) only [haw,q0,c1,c2,c3,c4,qz,qy,k1,k2,k3,Cq,hrem,hR',hR0,hD,IT,hneg,ha1,ha2,ha3,hj,hget,hjl,hj0,zN,hN0,zR,List.replicate,Int.toNat_natCast,go_sem,simprocAttr]
end Ve
