/- The statement SessionForms. -/
import Derived.Test.YtokhplohcachjaaGreatVeSF
import Derived.Test.YtokhplohcachjaaGreatVeSD
import Derived.Test.YtokhplohcachjaaGreatVeP
set_option linter.all false
set_option linter.unusedSectionVars false
namespace Ve
open Go Ve.Ab
set_option maxHeartbeats 16000000
set_option maxRecDepth 20000
theorem neg_in {D c:Int} (h:1≤D):inR (-D) c=false:=by
 cases h':inR (-D) c with
 | false=>rfl
 | true=>rw [AG] at h';omega
theorem u_SessionForms (i:Nat) (w x:Int) (haw:Aa (Lv ctx (i+28)) 21 []=some (bV true)) (hst:∀ n:Nat,n≤7→Aa (Lv ctx (i+28)) 22 [iV 0,iV (n:Int)]=some (oM (itU 0 n MB))):Aa (Lv ctx (i+29)) 4 [iV w,iV x]=some (bV true):=by
 have hz:=Ft (i+25) true false
 have hz':=Ft (i+25) false false
 have h2:∀ m a,SmM m→Bj m a=false→Aa (Lv ctx (i+28)) 16 [eM false m,iV a]=some (.tup [oM AK,iV 2300]):=by
  intro m a hm h
  have:=Ei (i+1) false m hm a
  rw [Hd h] at this
  exact this
 simp only [Nat.add_assoc,Nat.reduceAdd] at hz hz'
 have hrem:∀ t a,Bu lay .rem t (.lit (.int .u64 a)) (.lit (.int .u64 5))=some (.lit (.int .u64 (a.tmod 5))):=fun t a=>Jb (by decide)
 have hshr:∀ t a,Bu lay .shr t (iV a) (.lit (.int .u64 3))=some (iV (a.fdiv (2 ^ min (3:Int).toNat (IntKind.bits .i64)))):=fun t a=>QS (by decide)
 have hR:(IntKind.wrap .u64 w).tmod 5=(uW w).tmod 5:=rfl
 have hR1:=Zr (YT w) (b:=5) (by omega)
 generalize (uW w).tmod 5=R at hR hR1
 have hDin:=AG.1 (Kg x 1023 (by omega))
 have hD:IntKind.wrap .i64 (1+EJ x 1023)=1+EJ x 1023:=AU (by simp at hDin;omega) (by simp at hDin;omega)
 have hD1:1≤1+EJ x 1023∧1+EJ x 1023≤1024:=by simp at hDin;omega
 obtain ⟨D,hD,hD1⟩:∃ D,IntKind.wrap .i64 (1+EJ x 1023)=D∧1≤D∧D≤1024:=⟨_,hD,hD1⟩
 have hneg:IntKind.wrap .i64 (0 - D)=-D:=by rw [Int.zero_sub];exact Gq (by omega) (by omega)
 have ha1:IntKind.wrap .i64 (1+D)=1+D:=AU (by omega) (by omega)
 generalize hE:w.fdiv (2 ^ min (3:Int).toNat (IntKind.bits .i64))=E at hshr
 have hsh2:∀ t,Bu lay .shr t (iV w) (.lit (.int .u64 3))=some (iV E):=fun t=>by rw [hshr t w,hE]
 clear hshr hE
 have hS:0≤EJ E 7∧EJ E 7≤7:=AG.1 (Kg E 7 (by omega))
 obtain ⟨n,hn,hn7⟩:∃ n:Nat,EJ E 7=(n:Int)∧n≤7:=⟨(EJ E 7).toNat,by omega,by omega⟩
 have hst:=hst n hn7
 obtain ⟨t,ht,hi⟩:=bN bO (s1:=S5x) rfl n
 have hm:=KK hi.may
 generalize itU 0 n MB=M at hst ht hm
 obtain ⟨⟨w0,w1,w2,w3⟩,⟨c0,c1,c2,c3⟩,ce,ss,tr⟩:=M
 simp only at ht
 subst ht
 simp only [oM,cO,oWs,oSs,oEs,List.map_cons,List.map_nil,oS,oIs,oRs,Fy,S5x,eI] at hst
 obtain hR0 | hR0 | hR0 | hR0 | hR0:R=0∨R=1∨R=2∨R=3∨R=4:=by omega
 ·have f2:=h2 _ (-D) hm (PS (.inl (by omega)))
  simp only [Aw,oM,cO,oWs,oSs,oEs,oIs,oRs,Fy,oS,eM,cM,eWs,eSs,eEs,eIs,eRs,HK,List.map_cons,List.map_nil,eS,eI,eR,eWr,eW,eE,S5x] at f2
  refine Ac rfl 0 (by rfl) ?_
  delta c4
  simp +contextual -dsimp -implicitDefEqProofs (maxSteps:=5000000) only [haw,hst,BA,hrem,hR,hR0,hD,FX,hneg,ha1,hsh2,hn,hz,hz',f2,List.replicate,go_sem,simprocAttr]
 ·have f2:=h2 _ (1+D) hm (PS (.inr (by simp;omega)))
  simp only [Aw,oM,cO,oWs,oSs,oEs,oIs,oRs,Fy,oS,eM,cM,eWs,eSs,eEs,eIs,eRs,HK,List.map_cons,List.map_nil,eS,eI,eR,eWr,eW,eE,S5x] at f2
  refine Ac rfl 0 (by rfl) ?_
  delta c4
  simp +contextual -dsimp -implicitDefEqProofs (maxSteps:=5000000) only [haw,hst,BA,hrem,hR,hR0,hD,FX,hneg,ha1,hsh2,hn,hz,hz',f2,List.replicate,go_sem,simprocAttr]
 ·have f2:=h2 ⟨⟨w0,w1,w2,w3⟩,⟨c0,c1,c2,c3⟩,-D,[t,S5x],tr⟩ 0 ⟨hm.b0,hm.b1,hm.b2,hm.b3,hm.bs,hm.bt,hm.s⟩ (Yo (m:=⟨⟨w0,w1,w2,w3⟩,⟨c0,c1,c2,c3⟩,ce,[t,S5x],tr⟩) (neg_in hD1.1))
  simp only [Aw,oM,cO,oWs,oSs,oEs,oIs,oRs,Fy,oS,eM,cM,eWs,eSs,eEs,eIs,eRs,HK,List.map_cons,List.map_nil,eS,eI,eR,eWr,eW,eE,S5x] at f2
  refine Ac rfl 0 (by rfl) ?_
  delta c4
  simp +contextual -dsimp -implicitDefEqProofs (maxSteps:=5000000) only [haw,hst,BA,hrem,hR,hR0,hD,FX,hneg,ha1,hsh2,hn,hz,hz',f2,List.replicate,go_sem,simprocAttr]
 ·have f2:=h2 ⟨⟨w0,w1,w2,w3⟩,⟨c0,c1,c2,c3⟩,ce,[t,{ S5x with clear:=0 }],tr⟩ 0 ⟨hm.b0,hm.b1,hm.b2,hm.b3,hm.bs,hm.bt,by
    intro s hs
    simp only [List.mem_cons,List.mem_nil_iff,or_false] at hs
    rcases hs with rfl | rfl
    ·exact hm.s _ (by simp)
    ·exact ⟨by simp [S5x],by simp [S5x],by simp [S5x]⟩⟩ (Sj rfl (cZ _))
  simp only [Aw,oM,cO,oWs,oSs,oEs,oIs,oRs,Fy,oS,eM,cM,eWs,eSs,eEs,eIs,eRs,HK,List.map_cons,List.map_nil,eS,eI,eR,eWr,eW,eE,S5x] at f2
  refine Ac rfl 0 (by rfl) ?_
  delta c4
  simp +contextual -dsimp -implicitDefEqProofs (maxSteps:=5000000) only [haw,hst,BA,hrem,hR,hR0,hD,FX,hneg,ha1,hsh2,hn,hz,hz',f2,List.replicate,go_sem,simprocAttr]
 ·have f2:=h2 ⟨⟨w0,[],w2,w3⟩,⟨c0,c1,c2,c3⟩,ce,[t,S5x],tr⟩ 0 ⟨hm.b0,by simp,hm.b2,hm.b3,hm.bs,hm.bt,hm.s⟩ (Sj rfl (YK _ _ _))
  simp only [Aw,oM,cO,oWs,oSs,oEs,oIs,oRs,Fy,oS,eM,cM,eWs,eSs,eEs,eIs,eRs,HK,List.map_cons,List.map_nil,eS,eI,eR,eWr,eW,eE,S5x] at f2
  refine Ac rfl 0 (by rfl) ?_
  delta c4
  simp +contextual -dsimp -implicitDefEqProofs (maxSteps:=5000000) only [haw,hst,BA,hrem,hR,hR0,hD,FX,hneg,ha1,hsh2,hn,hz,hz',f2,List.replicate,go_sem,simprocAttr]
end Ve
