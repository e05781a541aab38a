/- The statement SlotForms. -/
import Derived.Test.YtokhplohcachjaaGreatVeSF
import Derived.Test.YtokhplohcachjaaGreatVeSD
import Derived.Test.YtokhplohcachjaaGreatVeP
set_option linter.all false
set_option linter.unusedSectionVars false
namespace Ve
open Go Ve.Ab
set_option maxHeartbeats 16000000
set_option maxRecDepth 20000
theorem neg_in {D c:Int} (h:1≤D):inR (-D) c=false:=by
 cases h':inR (-D) c with
 | false=>rfl
 | true=>rw [AG] at h';omega
def MSl (ceil tries:Int):Ad:=⟨⟨[⟨5,0,0⟩,⟨6,0,0⟩],[⟨7,0,0⟩],[],[⟨9,0,0⟩]⟩,⟨0,0,0,0⟩,ceil,[⟨3,0,3,[⟨2,0,0,0⟩,⟨1,0,0,0⟩,⟨3,0,0,0⟩],0,0,⟨0,0,0,0⟩,[],[],0,0,tries,0,0⟩,⟨5,1,1,[⟨2,0,0,1⟩,⟨3,0,1,0⟩],0,0,⟨0,0,0,0⟩,[],[],0,0,0,0,0⟩],[]⟩
theorem KO (ceil tries:Int):SmM (MSl ceil tries):=by
 refine ⟨by simp [MSl],by simp [MSl],by simp [MSl],by simp [MSl],by simp [MSl],by simp [MSl],?_⟩
 intro s hs
 simp only [MSl,List.mem_cons,List.mem_nil_iff,or_false] at hs
 rcases hs with rfl | rfl<;>exact ⟨by simp,by simp,by simp⟩
theorem aU {D t:Int} (h:inR D 65535=false):CY (MSl D t)=false:=by
 have e:inR (MSl D t).ceil 65535=false:=h
 unfold CY;rw [e];simp
theorem XZ {c D:Int} (h:inR D 65535=false):CY (MSl c D)=false:=by
 have e:(MSl c D).sess.all (AZ (MSl c D).words)=false:=by
  have:AZ (MSl c D).words ⟨3,0,3,[⟨2,0,0,0⟩,⟨1,0,0,0⟩,⟨3,0,0,0⟩],0,0,⟨0,0,0,0⟩,[],[],0,0,D,0,0⟩=false:=by
   unfold AZ;simp only [h,Bool.and_false,Bool.false_and]
  simp only [MSl,List.all_cons] at this ⊢
  rw [this];rfl
 unfold CY;rw [e];simp
theorem Rl {m:Ad} {a b:Int} (h:(CY m&&BU ⟨a,b⟩)=false):Cc m ⟨a,b⟩=(0,false,2400)∧Bt m ⟨a,b⟩=(AK,2400):=by
 have e:Cc m ⟨a,b⟩=(0,false,2400):=by unfold Cc;rw [h];rfl
 exact ⟨e,by unfold Bt;rw [e];rfl⟩
theorem u_SlotForms (i:Nat) (w x:Int) (haw:Aa (Lv ctx (i+29)) 32 []=some (bV true)) (hbe:Aa (Lv ctx (i+29)) 33 []=some (oM (MSl 9 0))):Aa (Lv ctx (i+30)) 11 [iV w,iV x]=some (bV true):=by
 have hz:=Ft (i+26) true false
 have hz':=Ft (i+26) false false
 have h2:∀ m a b,SmM m→(CY m&&BU ⟨a,b⟩)=false→Aa (Lv ctx (i+29)) 28 [eM false m,.agg [iV a,iV b]]=some (.tup [iV 0,bV false,iV 2400])∧Aa (Lv ctx (i+29)) 30 [eM false m,.agg [iV a,iV b]]=some (.tup [oM AK,iV 2400]):=by
  intro m a b hm h
  have g1:=UI (i+9) false m hm a b
  have g2:=Pj (i+1) false m hm a b
  rw [(Rl h).1] at g1
  rw [(Rl h).2] at g2
  exact ⟨g1,g2⟩
 simp only [Nat.add_assoc,Nat.reduceAdd] at hz hz'
 have hrem:∀ t a,Bu lay .rem t (.lit (.int .u64 a)) (.lit (.int .u64 4))=some (.lit (.int .u64 (a.tmod 4))):=fun t a=>Jb (by decide)
 have hshu:∀ t a,Bu lay .shr t (.lit (.int .u64 a)) (.lit (.int .u64 2))=some (.lit (.int .u64 (a.fdiv (2 ^ min (2:Int).toNat (IntKind.bits .u64))))):=fun t a=>QS (by decide)
 have hT:∃ T:Int,((uW w).fdiv (2 ^ min (2:Int).toNat (IntKind.bits .u64))).tmod 4=T∧0≤T∧T≤4 - 1:=by
  have h:=Zr (a:=(uW w).fdiv (2 ^ min (2:Int).toNat (IntKind.bits .u64))) (b:=4) (Int.fdiv_nonneg (YT w) (by decide)) (by omega)
  exact ⟨_,rfl,h.1,h.2⟩
 obtain ⟨T,hT,hT1⟩:=hT
 have hT':((IntKind.wrap .u64 w).fdiv (2 ^ min (2:Int).toNat (IntKind.bits .u64))).tmod 4=T:=hT
 clear hT
 generalize hE6:(IntKind.wrap .u64 w).fdiv (2 ^ min (2:Int).toNat (IntKind.bits .u64))=E6 at hT'
 have hsh6:∀ t,Bu lay .shr t (.lit (.int .u64 (IntKind.wrap .u64 w))) (.lit (.int .u64 2))=some (.lit (.int .u64 E6)):=fun t=>by rw [hshu,hE6]
 clear hshu hE6
 have hDin:0≤EJ x 1023∧EJ x 1023≤1023:=AG.1 (Kg x 1023 (by omega))
 have hD:IntKind.wrap .i64 (1+EJ x 1023)=1+EJ x 1023:=AU (by omega) (by omega)
 obtain ⟨D,hD,hD1⟩:∃ D,IntKind.wrap .i64 (1+EJ x 1023)=D∧1≤D∧D≤1024:=⟨_,hD,by omega,by omega⟩
 have hneg:IntKind.wrap .i64 (0 - D)=-D:=by rw [Int.zero_sub];exact Gq (by omega) (by omega)
 have ha1:IntKind.wrap .i64 (3+D)=3+D:=AU (by omega) (by omega)
 have ha2:IntKind.wrap .i64 (255+D)=255+D:=AU (by omega) (by omega)
 have n3:inR (-D) 3=false:=neg_in hD1.1
 have n255:inR (-D) 255=false:=neg_in hD1.1
 have n65:inR (-D) 65535=false:=neg_in hD1.1
 have p3:inR (3+D) 3=false:=by
  cases h:inR (3+D) 3 with
  | false=>rfl
  | true=>rw [AG] at h;omega
 have p255:inR (255+D) 255=false:=by
  cases h:inR (255+D) 255 with
  | false=>rfl
  | true=>rw [AG] at h;omega
 have hS:0≤EJ w 1∧EJ w 1≤1:=AG.1 (Kg w 1 (by omega))
 obtain ⟨L,hL⟩:∃ L,EJ w 3=L:=⟨_,rfl⟩
 simp only [MSl,oM,cO,oWs,oSs,oEs,oIs,oRs,Fy,oS,eM,cM,eWs,eSs,eEs,eIs,eRs,HK,List.map_cons,List.map_nil,eS,eI,eR,eWr,eW,eE] at hbe
 obtain hR0 | hR0 | hR0 | hR0:T=0∨T=1∨T=2∨T=3:=by omega
 ·obtain hS | hS:EJ w 1=0∨EJ w 1=1:=by omega
  ·skip
   obtain ⟨f2,f3⟩:=h2 (MSl 9 0) (-D) 0 (KO _ _) (by unfold BU;simp only [n3,Bool.and_false,Bool.false_and])
   simp only [Aw,MSl,oM,cO,oWs,oSs,oEs,oIs,oRs,Fy,oS,eM,cM,eWs,eSs,eEs,eIs,eRs,HK,List.map_cons,List.map_nil,eS,eI,eR,eWr,eW,eE] at f2 f3
   refine Ac rfl 0 (by rfl) ?_
   delta c11
   simp +contextual -dsimp -implicitDefEqProofs (maxSteps:=5000000) only [haw,hbe,BA,hrem,hsh6,hT',hR0,hD,FX,hneg,ha1,ha2,hS,hz,hz',hL,f2,f3,List.replicate,go_sem,simprocAttr]
  ·skip
   obtain ⟨f2,f3⟩:=h2 (MSl 9 0) (3+D) 0 (KO _ _) (by unfold BU;simp only [p3,Bool.and_false,Bool.false_and])
   simp only [Aw,MSl,oM,cO,oWs,oSs,oEs,oIs,oRs,Fy,oS,eM,cM,eWs,eSs,eEs,eIs,eRs,HK,List.map_cons,List.map_nil,eS,eI,eR,eWr,eW,eE] at f2 f3
   refine Ac rfl 0 (by rfl) ?_
   delta c11
   simp +contextual -dsimp -implicitDefEqProofs (maxSteps:=5000000) only [haw,hbe,BA,hrem,hsh6,hT',hR0,hD,FX,hneg,ha1,ha2,hS,hz,hz',hL,f2,f3,List.replicate,go_sem,simprocAttr]
 ·obtain hS | hS:EJ w 1=0∨EJ w 1=1:=by omega
  ·skip
   obtain ⟨f2,f3⟩:=h2 (MSl 9 0) L (-D) (KO _ _) (by unfold BU;simp only [n255,Bool.and_false,Bool.false_and])
   simp only [Aw,MSl,oM,cO,oWs,oSs,oEs,oIs,oRs,Fy,oS,eM,cM,eWs,eSs,eEs,eIs,eRs,HK,List.map_cons,List.map_nil,eS,eI,eR,eWr,eW,eE] at f2 f3
   refine Ac rfl 0 (by rfl) ?_
   delta c11
   simp +contextual -dsimp -implicitDefEqProofs (maxSteps:=5000000) only [haw,hbe,BA,hrem,hsh6,hT',hR0,hD,FX,hneg,ha1,ha2,hS,hz,hz',hL,f2,f3,List.replicate,go_sem,simprocAttr]
  ·skip
   obtain ⟨f2,f3⟩:=h2 (MSl 9 0) L (255+D) (KO _ _) (by unfold BU;simp only [p255,Bool.and_false,Bool.false_and])
   simp only [Aw,MSl,oM,cO,oWs,oSs,oEs,oIs,oRs,Fy,oS,eM,cM,eWs,eSs,eEs,eIs,eRs,HK,List.map_cons,List.map_nil,eS,eI,eR,eWr,eW,eE] at f2 f3
   refine Ac rfl 0 (by rfl) ?_
   delta c11
   simp +contextual -dsimp -implicitDefEqProofs (maxSteps:=5000000) only [haw,hbe,BA,hrem,hsh6,hT',hR0,hD,FX,hneg,ha1,ha2,hS,hz,hz',hL,f2,f3,List.replicate,go_sem,simprocAttr]
 ·skip
  obtain ⟨f2,f3⟩:=h2 (MSl (-D) 0) L 0 (KO _ _) (by rw [aU n65];rfl)
  simp only [Aw,MSl,oM,cO,oWs,oSs,oEs,oIs,oRs,Fy,oS,eM,cM,eWs,eSs,eEs,eIs,eRs,HK,List.map_cons,List.map_nil,eS,eI,eR,eWr,eW,eE] at f2 f3
  refine Ac rfl 0 (by rfl) ?_
  delta c11
  simp +contextual -dsimp -implicitDefEqProofs (maxSteps:=5000000) only [haw,hbe,BA,hrem,hsh6,hT',hR0,hD,FX,hneg,ha1,ha2,hS,hz,hz',hL,f2,f3,List.replicate,go_sem,simprocAttr]
 ·skip
  obtain ⟨f2,f3⟩:=h2 (MSl 9 (-D)) L 0 (KO _ _) (by rw [XZ n65];rfl)
  simp only [Aw,MSl,oM,cO,oWs,oSs,oEs,oIs,oRs,Fy,oS,eM,cM,eWs,eSs,eEs,eIs,eRs,HK,List.map_cons,List.map_nil,eS,eI,eR,eWr,eW,eE] at f2 f3
  refine Ac rfl 0 (by rfl) ?_
  delta c11
  simp +contextual -dsimp -implicitDefEqProofs (maxSteps:=5000000) only [haw,hbe,BA,hrem,hsh6,hT',hR0,hD,FX,hneg,ha1,ha2,hS,hz,hz',hL,f2,f3,List.replicate,go_sem,simprocAttr]
end Ve
