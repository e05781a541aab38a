/- The statement TopHigh. -/
import Derived.Test.YthllnfkddiaokaaGreatS63
import Derived.Test.YthllnfkddiaokaaGreatS64
import Derived.Test.YthllnfkddiaokaaGreatS67
import Derived.Test.YthllnfkddiaokaaGreatPL53
set_option linter.all false
set_option linter.unusedSectionVars false
namespace Ve
open Go Ve.Ab
set_option maxHeartbeats 16000000
set_option maxRecDepth 20000
def hiS (k:Int) (p:List AD) (a:AV):V:=if Ao a.label k=true then oSt a else .agg [iV a.id,iV a.label,iV a.clear,eIs true p]
def hiF (k:Int) (p:List AD) (a:AV):Bool × AV:=if Ao a.label k=true then (false,a) else (true,{ a with prog:=p })
theorem a2s (k:Int) (p:List AD) (l:List AV):bzs (l.map (hiS k p))=(l.map (hiF k p)).map Ng:=by
 rw [List.map_map]
 refine EP _ _ (fun a=>?_) l
 simp only [Function.comp,hiS,hiF]
 split
 ·simp [Ng,oSt,eSt,V.bz,bzs,RA]
 ·simp [Ng,eSt,V.bz,bzs]
theorem uS (k:Int) (p:List AD) (l:List AV):l.map (hiT k p)=(l.map (hiF k p)).map (·.2):=by
 rw [List.map_map]
 refine List.map_congr_left fun a _=>?_
 simp only [Function.comp,hiT,hiF]
 split<;>rfl
abbrev hTH (M:Ac) (W:A4 (List Int)) (st:List V) (sl:List AO) (c:Int):Hp:=pO (pO (pO (pO (pO (pO (pO (pO Ag 0 (some ⟨11,[.agg (cM true M)],false⟩)) 1 (some ⟨1,W.a0.map iV,false⟩)) 2 (some ⟨1,W.a1.map iV,false⟩)) 3 (some ⟨1,W.a2.map iV,false⟩)) 4 (some ⟨1,W.a3.map iV,false⟩)) 5 (some ⟨4,st,false⟩)) 6 (some ⟨2,sl.map eSl,false⟩)) 7 (some ⟨7,[.agg [.sl 1,.sl 2,.sl 3,.sl 4,iV c,.sl 5,.sl 6]],true⟩)
theorem yP (i kf:Nat) (s:Ap) (M:Ac) (k v:Int) (p:List AD) (picks:List Int) (st:List V) (sl:List AO) (c:Int) (W:A4 (List Int)) (g:Int) (hg4:g=0∨g=1∨g=2∨g=3) (hu:Ao g k=false) (hb:(W.get g).length≤1048576) (q:Out→St→Option Ans) (Q:V→Hp→Nat→Prop)
  (u:Dum (fun s q=>evC ctx (Lv ctx (i+30)) (Aa (Lv ctx (i+30))) kf Lp s (As [2,3,4,5,11,12,14,15,16] q))) (w:Dum q)
  (hend:Fin (q (.exit 2) ⟨Ad [2,3,4,5,11,12,14,15] [iV v,eIs true p,.isl true false 1 (picks.map iV),.ip true (cSc true s) 0,iV k,.ptr 0 0 0,.ptr 7 0 0,iV g],hTH M (W.set g ((W.get g).map (hiV v))) st sl c,8⟩) Q):∀ (suf pre:List Int) (kk:Nat),W.get g=pre++suf→suf.length<kk →
  GL 8 [2,3,4,5,11,12,14,15,16] (fun s q=>evC ctx (Lv ctx (i+30)) (Aa (Lv ctx (i+30))) kf Lp s (As [2,3,4,5,11,12,14,15,16] q)) q kk ⟨Ad [2,3,4,5,11,12,14,15,16] [iV v,eIs true p,.isl true false 1 (picks.map iV),.ip true (cSc true s) 0,iV k,.ptr 0 0 0,.ptr 7 0 0,iV g,iV pre.length],hTH M (W.set g (pre.map (hiV v)++suf)) st sl c,8⟩ Q u w
 | [],pre,kk,hxs,hk=>by
  obtain ⟨kk,rfl⟩:∃ m,kk=m+1:=⟨kk - 1,by simp at hk;omega⟩
  have h1:decide ((pre.length:Int)<(pre.length:Int))=false:=by simp
  have h2:W.get g=pre:=by simpa using hxs
  rw [h2] at hend
  simp only [List.append_nil]
  rcases hg4 with rfl | rfl | rfl | rfl
  all_goals
   simp only [A4.set,simprocAttr] at hend ⊢
   simp +contextual -dsimp -implicitDefEqProofs (maxSteps:=5000000) only [gLs,↓Ai (Lp.eq_1),h1,List.length_map,go_sem,simprocAttr]
   exact hend
 | a::suf,pre,kk,hxs,hk=>by
  obtain ⟨kk,rfl⟩:∃ m,kk=m+1:=⟨kk - 1,by simp at hk;omega⟩
  have hl:pre.length<1048576:=by rw [hxs] at hb;simp at hb;omega
  have h2:((pre.length:Int)<((pre.length+(suf.length+1):Nat):Int))=True:=by simp;omega
  have h2':decide ((pre.length:Int)<((pre.length+(suf.length+1):Nat):Int))=true:=by simp;omega
  have h3:(0≤(pre.length:Int))=True:=by simp
  have h4:=wrN pre.length (by simp only [BB];omega)
  have hg:(List.map iV (List.map (hiV v) pre)++iV a::List.map iV suf)[pre.length]?=some (iV a):=by simp
  have hset:∀ x,(List.map iV (List.map (hiV v) pre)++iV a::List.map iV suf).set pre.length x=List.map iV (List.map (hiV v) pre)++x::List.map iV suf:=by intro x;simp [List.set_append]
  have ih:=yP i kf s M k v p picks st sl c W g hg4 hu hb q Q u w hend suf (pre++[a]) kk (by simp [hxs]) (by simpa using hk)
  simp only [Ah,List.map_append,List.map_cons,List.map_nil,List.append_assoc,List.cons_append,List.nil_append] at ih
  rcases hg4 with rfl | rfl | rfl | rfl
  all_goals
   simp only [A4.set,simprocAttr] at ih ⊢
   simp only [hTH,List.map_append,List.map_cons] at ih ⊢
   simp +contextual -dsimp -implicitDefEqProofs (maxSteps:=5000000) only [gLs,↓Ai (Lp.eq_1),h2,h2',h3,h4,hg,hset,hu,List.length_map,List.length_append,List.length_cons,go_sem,simprocAttr]
   exact (Av (by rfl)).mpr ih
theorem mL (i kf:Nat) (s:Ap) (M:Ac) (k v:Int) (p:List AD) (picks:List Int) (st:List V) (sl:List AO) (c:Int) (W:A4 (List Int)) (g:Int) (hg4:g=0∨g=1∨g=2∨g=3) (hb:(W.get g).length≤1048576) (q:Out→St→Option Ans) (Q:V→Hp→Nat→Prop)
  (u:Dum (fun s q=>evC ctx (Lv ctx (i+30)) (Aa (Lv ctx (i+30))) kf Lp s (As [2,3,4,5,11,12,14,15,16] q))) (w:Dum q) (kk:Nat) (hk:(W.get g).length<kk)
  (hend:Fin (q (.exit 2) ⟨Ad [2,3,4,5,11,12,14,15] [iV v,eIs true p,.isl true false 1 (picks.map iV),.ip true (cSc true s) 0,iV k,.ptr 0 0 0,.ptr 7 0 0,iV g],hTH M (W.set g (hiR g k v (W.get g))) st sl c,8⟩) Q) :
  GL 8 [2,3,4,5,11,12,14,15,16] (fun s q=>evC ctx (Lv ctx (i+30)) (Aa (Lv ctx (i+30))) kf Lp s (As [2,3,4,5,11,12,14,15,16] q)) q kk ⟨Ad [2,3,4,5,11,12,14,15,16] [iV v,eIs true p,.isl true false 1 (picks.map iV),.ip true (cSc true s) 0,iV k,.ptr 0 0 0,.ptr 7 0 0,iV g,iV 0],hTH M W st sl c,8⟩ Q u w:=by
 cases hu:Ao g k
 ·have e:hiR g k v (W.get g)=(W.get g).map (hiV v):=by unfold hiR;rw [hu];rfl
  rw [e] at hend
  have h:=yP i kf s M k v p picks st sl c W g hg4 hu hb q Q u w hend (W.get g) [] kk rfl hk
  have e2:W.set g (W.get g)=W:=by rcases hg4 with rfl | rfl | rfl | rfl<;>rfl
  simpa only [List.map_nil,List.nil_append,List.length_nil,Int.natCast_zero,e2] using h
 ·have e:hiR g k v (W.get g)=W.get g:=by unfold hiR;rw [if_pos hu]
  have e2:W.set g (W.get g)=W:=by rcases hg4 with rfl | rfl | rfl | rfl<;>rfl
  rw [e,e2] at hend
  obtain ⟨kk,rfl⟩:∃ m,kk=m+1:=⟨kk - 1,by omega⟩
  rcases hg4 with rfl | rfl | rfl | rfl
  ·simp only [A4.get,simprocAttr] at hk
   cases hz:decide ((0:Int)<(W.a0.length:Int))
   ·simp +contextual -dsimp -implicitDefEqProofs (maxSteps:=5000000) only [gLs,↓Ai (Lp.eq_1),hz,hu,List.length_map,go_sem,simprocAttr]
    exact hend
   ·simp +contextual -dsimp -implicitDefEqProofs (maxSteps:=5000000) only [gLs,↓Ai (Lp.eq_1),hz,hu,List.length_map,go_sem,simprocAttr]
    exact hend
  ·simp only [A4.get,simprocAttr] at hk
   cases hz:decide ((0:Int)<(W.a1.length:Int))
   ·simp +contextual -dsimp -implicitDefEqProofs (maxSteps:=5000000) only [gLs,↓Ai (Lp.eq_1),hz,hu,List.length_map,go_sem,simprocAttr]
    exact hend
   ·simp +contextual -dsimp -implicitDefEqProofs (maxSteps:=5000000) only [gLs,↓Ai (Lp.eq_1),hz,hu,List.length_map,go_sem,simprocAttr]
    exact hend
  ·simp only [A4.get,simprocAttr] at hk
   cases hz:decide ((0:Int)<(W.a2.length:Int))
   ·simp +contextual -dsimp -implicitDefEqProofs (maxSteps:=5000000) only [gLs,↓Ai (Lp.eq_1),hz,hu,List.length_map,go_sem,simprocAttr]
    exact hend
   ·simp +contextual -dsimp -implicitDefEqProofs (maxSteps:=5000000) only [gLs,↓Ai (Lp.eq_1),hz,hu,List.length_map,go_sem,simprocAttr]
    exact hend
  ·simp only [A4.get,simprocAttr] at hk
   cases hz:decide ((0:Int)<(W.a3.length:Int))
   ·simp +contextual -dsimp -implicitDefEqProofs (maxSteps:=5000000) only [gLs,↓Ai (Lp.eq_1),hz,hu,List.length_map,go_sem,simprocAttr]
    exact hend
   ·simp +contextual -dsimp -implicitDefEqProofs (maxSteps:=5000000) only [gLs,↓Ai (Lp.eq_1),hz,hu,List.length_map,go_sem,simprocAttr]
    exact hend
theorem Zn (i kf:Nat) (s:Ap) (M:Ac) (k:Int) (p:List AD) (picks:List Int) (sl:List AO) (c:Int) (W:A4 (List Int)) (xs:List AV) (hb:xs.length≤1048576) (q:Out→St→Option Ans) (Q:V→Hp→Nat→Prop)
  (u:Dum (fun s q=>evC ctx (Lv ctx (i+30)) (Aa (Lv ctx (i+30))) kf fB s (As [3,4,5,11,12,14,17] q))) (w:Dum q)
  (hend:Fin (q (.exit 4) ⟨Ad [4,5,11,12,14] [.isl true false 1 (picks.map iV),.ip true (cSc true s) 0,iV k,.ptr 0 0 0,.ptr 7 0 0],hTH M W (xs.map (hiS k p)) sl c,8⟩) Q):∀ (suf pre:List AV) (kk:Nat),xs=pre++suf→suf.length<kk →
  GL 8 [3,4,5,11,12,14,17] (fun s q=>evC ctx (Lv ctx (i+30)) (Aa (Lv ctx (i+30))) kf fB s (As [3,4,5,11,12,14,17] q)) q kk ⟨Ad [3,4,5,11,12,14,17] [eIs true p,.isl true false 1 (picks.map iV),.ip true (cSc true s) 0,iV k,.ptr 0 0 0,.ptr 7 0 0,iV pre.length],hTH M W (pre.map (hiS k p)++suf.map oSt) sl c,8⟩ Q u w
 | [],pre,kk,hxs,hk=>by
  obtain ⟨kk,rfl⟩:∃ m,kk=m+1:=⟨kk - 1,by simp at hk;omega⟩
  have h1:decide ((pre.length:Int)<(pre.length:Int))=false:=by simp
  have h2:xs=pre:=by simpa using hxs
  rw [h2] at hend
  simp only [List.map_nil,List.append_nil]
  simp +contextual -dsimp -implicitDefEqProofs (maxSteps:=5000000) only [gLs,↓Ai (fB.eq_1),h1,List.length_map,go_sem,simprocAttr]
  exact hend
 | a::suf,pre,kk,hxs,hk=>by
  obtain ⟨kk,rfl⟩:∃ m,kk=m+1:=⟨kk - 1,by simp at hk;omega⟩
  have hl:pre.length<1048576:=by rw [hxs] at hb;simp at hb;omega
  have h2:((pre.length:Int)<((pre.length+(suf.length+1):Nat):Int))=True:=by simp;omega
  have h2':decide ((pre.length:Int)<((pre.length+(suf.length+1):Nat):Int))=true:=by simp;omega
  have h3:(0≤(pre.length:Int))=True:=by simp
  have h4:=wrN pre.length (by simp only [BB];omega)
  have hg:(pre.map (hiS k p)++(a::suf).map oSt)[pre.length]?=some (oSt a):=by simp
  have hset:∀ x,(pre.map (hiS k p)++(a::suf).map oSt).set pre.length x=pre.map (hiS k p)++x::suf.map oSt:=by intro x;simp [List.set_append]
  have ih:=Zn i kf s M k p picks sl c W xs hb q Q u w hend suf (pre++[a]) kk (by simp [hxs]) (by simpa using hk)
  simp only [Ah,List.map_append,List.map_cons,List.map_nil,List.append_assoc,List.cons_append,List.nil_append] at ih
  simp only [oSt,List.map_cons] at hg hset ⊢
  cases c0:Ao a.label k
  ·have e:hiS k p a=.agg [iV a.id,iV a.label,iV a.clear,eIs true p]:=by unfold hiS;rw [c0];rfl
   rw [e] at ih
   simp +contextual -dsimp -implicitDefEqProofs (maxSteps:=5000000) only [gLs,↓Ai (fB.eq_1),h2,h2',h3,h4,hg,hset,c0,List.length_map,List.length_append,List.length_cons,go_sem,simprocAttr]
   exact (Av (by rfl)).mpr ih
  ·have e:hiS k p a=oSt a:=by unfold hiS;rw [if_pos c0]
   rw [e] at ih
   simp only [oSt] at ih
   simp +contextual -dsimp -implicitDefEqProofs (maxSteps:=5000000) only [gLs,↓Ai (fB.eq_1),h2,h2',h3,h4,hg,hset,c0,List.length_map,List.length_append,List.length_cons,go_sem,simprocAttr]
   exact (Av (by rfl)).mpr ih
theorem yF (i kf:Nat) (s:Ap) (hs:Cj s) (M:Ac) (k:Int) (picks:List Int) (hp:picks.length≤1048576) (st:List V) (sl:List AO) (c:Int) (W:A4 (List Int)) (q:Out→St→Option Ans) (Q:V→Hp→Nat→Prop)
  (u:Dum (fun s q=>evC ctx (Lv ctx (i+30)) (Aa (Lv ctx (i+30))) kf IX s (As [4,5,11,12,14,18,19] q))) (w:Dum q)
  (hend:∀ acc,acc=Im k picks 0 s.slots→Fin (q (.exit 6) ⟨Ad [11,12,14,18] [iV k,.ptr 0 0 0,.ptr 7 0 0,.sl 8],pO (hTH M W st sl c) 8 (some ⟨2,acc.map eSl,false⟩),9⟩) Q):∀ (suf pre:List AO) (kk:Nat) (acc:List AO),s.slots=pre++suf→suf.length<kk→acc.length≤2*pre.length→acc++Im k picks pre.length suf=Im k picks 0 s.slots →
  GL 8 [4,5,11,12,14,18,19] (fun s q=>evC ctx (Lv ctx (i+30)) (Aa (Lv ctx (i+30))) kf IX s (As [4,5,11,12,14,18,19] q)) q kk ⟨Ad [4,5,11,12,14,18,19] [.isl true false 1 (picks.map iV),.ip true (cSc true s) 0,iV k,.ptr 0 0 0,.ptr 7 0 0,.sl 8,iV pre.length],pO (hTH M W st sl c) 8 (some ⟨2,acc.map eSl,false⟩),9⟩ Q u w
 | [],pre,kk,acc,hxs,hk,hal,hacc=>by
  obtain ⟨kk,rfl⟩:∃ m,kk=m+1:=⟨kk - 1,by simp at hk;omega⟩
  have h1:decide ((pre.length:Int)<s.slots.length)=false:=by simp [hxs]
  have he:=hend acc (by simpa [Im] using hacc)
  simp +contextual -dsimp -implicitDefEqProofs (maxSteps:=5000000) only [gLs,↓Ai (IX.eq_1),h1,go_sem,simprocAttr]
  exact he
 | a::suf,pre,kk,acc,hxs,hk,hal,hacc=>by
  obtain ⟨kk,rfl⟩:∃ m,kk=m+1:=⟨kk - 1,by simp at hk;omega⟩
  have hl:pre.length<s.slots.length:=by simp [hxs]
  have hb:=hs.bsl
  have l1:((pre.length:Int)<s.slots.length)=True:=by simpa using hl
  have l2:(0≤(pre.length:Int))=True:=by simp
  have l3:=wrN pre.length (by simp only [BB];omega)
  have hg:s.slots[pre.length]?=some a:=by simp [hxs]
  have h5:(((acc.length+1:Nat):Int)*16≤140737488355328)=True:=by rw [eq_iff_iff,iff_true];omega
  have h6:(((acc.length+1+1:Nat):Int)*16≤140737488355328)=True:=by rw [eq_iff_iff,iff_true];omega
  have hmx:Im k picks pre.length (a::suf)=Cg k picks pre.length++((if Ao a.level k=true then [a] else [])++Im k picks (pre.length+1) suf):=rfl
  rw [hmx] at hacc
  have ihb:=fun acc' h1 h2=>yF i kf s hs M k picks hp st sl c W q Q u w hend suf (pre++[a]) kk acc' (by simp [hxs]) (by simpa using hk) h1 (by simp only [Ah];exact h2)
  simp only [Ah] at ihb
  by_cases c1:pre.length<picks.length
  ·obtain ⟨p,hpk⟩:∃ p,picks[pre.length]?=some p:=⟨_,List.getElem?_eq_getElem c1⟩
   have m1:((pre.length:Int)<picks.length)=True:=by simpa using c1
   cases c2:Ao (Df p 3) k
   ·obtain ⟨P2,hP2⟩:∃ P2,p.fdiv (2 ^ min (2:Int).toNat (IntKind.bits .i64))=P2:=⟨_,rfl⟩
    have hex:Cg k picks pre.length=[⟨Df p 3,Df P2 255⟩]:=by unfold Cg;rw [hpk];simp only [c2,Bool.false_eq_true,if_false];rw [hP2]
    have hsh:∀ t,BJ lay .shr t (iV p) (.lit (.int .u64 2))=some (iV P2):=fun t=>by rw [← hP2];exact Mx (by decide)
    clear hP2
    cases c0:Ao a.level k
    ·rw [hex] at hacc
     rw [c0] at hacc
     simp only [if_true,if_false,Bool.false_eq_true,List.nil_append] at hacc
     have ih:=ihb (acc++[⟨Df p 3,Df P2 255⟩]++[]) (by simp;omega) (by rw [← hacc];simp)
     simp only [List.map_append,List.map_cons,List.map_nil,eSl,List.cons_append,List.nil_append,List.append_nil,List.append_assoc] at ih
     simp +contextual -dsimp -implicitDefEqProofs (maxSteps:=5000000) only [gLs,↓Ai (IX.eq_1),l1,l2,l3,hg,c0,m1,c2,hpk,hsh,h5,h6,eSl,List.replicate,List.length_append,List.length_cons,List.length_nil,List.length_map,List.append_assoc,List.cons_append,List.nil_append,go_sem,simprocAttr]
     exact (Av (by rfl)).mpr ih
    ·rw [hex] at hacc
     rw [c0] at hacc
     simp only [if_true,if_false,Bool.false_eq_true,List.nil_append] at hacc
     have ih:=ihb (acc++[⟨Df p 3,Df P2 255⟩]++[a]) (by simp;omega) (by rw [← hacc];simp)
     simp only [List.map_append,List.map_cons,List.map_nil,eSl,List.cons_append,List.nil_append,List.append_nil,List.append_assoc] at ih
     simp +contextual -dsimp -implicitDefEqProofs (maxSteps:=5000000) only [gLs,↓Ai (IX.eq_1),l1,l2,l3,hg,c0,m1,c2,hpk,hsh,h5,h6,eSl,List.replicate,List.length_append,List.length_cons,List.length_nil,List.length_map,List.append_assoc,List.cons_append,List.nil_append,go_sem,simprocAttr]
     exact (Av (by rfl)).mpr ih
   ·have hex:Cg k picks pre.length=[]:=by unfold Cg;rw [hpk];simp [c2]
    cases c0:Ao a.level k
    ·rw [hex] at hacc
     rw [c0] at hacc
     simp only [if_true,if_false,Bool.false_eq_true,List.nil_append] at hacc
     have ih:=ihb (acc++[]++[]) (by simp;omega) (by rw [← hacc];simp)
     simp only [List.map_append,List.map_cons,List.map_nil,eSl,List.cons_append,List.nil_append,List.append_nil,List.append_assoc] at ih
     simp +contextual -dsimp -implicitDefEqProofs (maxSteps:=5000000) only [gLs,↓Ai (IX.eq_1),l1,l2,l3,hg,c0,m1,c2,hpk,h5,h6,eSl,List.replicate,List.length_append,List.length_cons,List.length_nil,List.length_map,List.append_assoc,List.cons_append,List.nil_append,go_sem,simprocAttr]
     exact (Av (by rfl)).mpr ih
    ·rw [hex] at hacc
     rw [c0] at hacc
     simp only [if_true,if_false,Bool.false_eq_true,List.nil_append] at hacc
     have ih:=ihb (acc++[]++[a]) (by simp;omega) (by rw [← hacc];simp)
     simp only [List.map_append,List.map_cons,List.map_nil,eSl,List.cons_append,List.nil_append,List.append_nil,List.append_assoc] at ih
     simp +contextual -dsimp -implicitDefEqProofs (maxSteps:=5000000) only [gLs,↓Ai (IX.eq_1),l1,l2,l3,hg,c0,m1,c2,hpk,h5,h6,eSl,List.replicate,List.length_append,List.length_cons,List.length_nil,List.length_map,List.append_assoc,List.cons_append,List.nil_append,go_sem,simprocAttr]
     exact (Av (by rfl)).mpr ih
  ·have m0:decide ((pre.length:Int)<picks.length)=false:=by simpa using c1
   have hex:Cg k picks pre.length=[]:=by
    unfold Cg
    rw [List.getElem?_eq_none (by omega)]
   cases c0:Ao a.level k
   ·rw [hex] at hacc
    rw [c0] at hacc
    simp only [if_true,if_false,Bool.false_eq_true,List.nil_append] at hacc
    have ih:=ihb (acc++[]++[]) (by simp;omega) (by rw [← hacc];simp)
    simp only [List.map_append,List.map_cons,List.map_nil,eSl,List.cons_append,List.nil_append,List.append_nil,List.append_assoc] at ih
    simp +contextual -dsimp -implicitDefEqProofs (maxSteps:=5000000) only [gLs,↓Ai (IX.eq_1),l1,l2,l3,hg,c0,m0,h5,h6,eSl,List.replicate,List.length_append,List.length_cons,List.length_nil,List.length_map,List.append_assoc,List.cons_append,List.nil_append,go_sem,simprocAttr]
    exact (Av (by rfl)).mpr ih
   ·rw [hex] at hacc
    rw [c0] at hacc
    simp only [if_true,if_false,Bool.false_eq_true,List.nil_append] at hacc
    have ih:=ihb (acc++[]++[a]) (by simp;omega) (by rw [← hacc];simp)
    simp only [List.map_append,List.map_cons,List.map_nil,eSl,List.cons_append,List.nil_append,List.append_nil,List.append_assoc] at ih
    simp +contextual -dsimp -implicitDefEqProofs (maxSteps:=5000000) only [gLs,↓Ai (IX.eq_1),l1,l2,l3,hg,c0,m0,h5,h6,eSl,List.replicate,List.length_append,List.length_cons,List.length_nil,List.length_map,List.append_assoc,List.cons_append,List.nil_append,go_sem,simprocAttr]
    exact (Av (by rfl)).mpr ih
theorem mJ (i kf:Nat) (s:Ap) (hs:Cj s) (M:Ac) (k:Int) (picks:List Int) (hp:picks.length≤1048576) (st:List V) (sl:List AO) (c:Int) (W:A4 (List Int)) (q:Out→St→Option Ans) (Q:V→Hp→Nat→Prop)
  (u:Dum (fun s q=>evC ctx (Lv ctx (i+30)) (Aa (Lv ctx (i+30))) kf IX s (As [4,5,11,12,14,18,19] q))) (w:Dum q)
  (hend:∀ acc,acc=Im k picks 0 s.slots→Fin (q (.exit 6) ⟨Ad [11,12,14,18] [iV k,.ptr 0 0 0,.ptr 7 0 0,.sl 8],pO (hTH M W st sl c) 8 (some ⟨2,acc.map eSl,false⟩),9⟩) Q)
  (hnil:Im k picks 0 s.slots=[]→Fin (q (.exit 6) ⟨Ad [11,12,14,18] [iV k,.ptr 0 0 0,.ptr 7 0 0,.lit (.slice none 0 0)],hTH M W st sl c,8⟩) Q):∀ (suf pre:List AO) (kk:Nat),s.slots=pre++suf→suf.length<kk→Im k picks pre.length suf=Im k picks 0 s.slots →
  GL 8 [4,5,11,12,14,18,19] (fun s q=>evC ctx (Lv ctx (i+30)) (Aa (Lv ctx (i+30))) kf IX s (As [4,5,11,12,14,18,19] q)) q kk ⟨Ad [4,5,11,12,14,18,19] [.isl true false 1 (picks.map iV),.ip true (cSc true s) 0,iV k,.ptr 0 0 0,.ptr 7 0 0,.lit (.slice none 0 0),iV pre.length],hTH M W st sl c,8⟩ Q u w
 | [],pre,kk,hxs,hk,hacc=>by
  obtain ⟨kk,rfl⟩:∃ m,kk=m+1:=⟨kk - 1,by simp at hk;omega⟩
  have h1:decide ((pre.length:Int)<s.slots.length)=false:=by simp [hxs]
  have he:=hnil (by rw [← hacc];rfl)
  simp +contextual -dsimp -implicitDefEqProofs (maxSteps:=5000000) only [gLs,↓Ai (IX.eq_1),h1,go_sem,simprocAttr]
  exact he
 | a::suf,pre,kk,hxs,hk,hacc=>by
  obtain ⟨kk,rfl⟩:∃ m,kk=m+1:=⟨kk - 1,by simp at hk;omega⟩
  have hl:pre.length<s.slots.length:=by simp [hxs]
  have hb:=hs.bsl
  have l1:((pre.length:Int)<s.slots.length)=True:=by simpa using hl
  have l2:(0≤(pre.length:Int))=True:=by simp
  have l3:=wrN pre.length (by simp only [BB];omega)
  have hg:s.slots[pre.length]?=some a:=by simp [hxs]
  have hmx:Im k picks pre.length (a::suf)=Cg k picks pre.length++((if Ao a.level k=true then [a] else [])++Im k picks (pre.length+1) suf):=rfl
  rw [hmx] at hacc
  have ihb:=fun acc' h1 h2=>yF i kf s hs M k picks hp st sl c W q Q u w hend suf (pre++[a]) kk acc' (by simp [hxs]) (by simpa using hk) h1 (by simp only [Ah];exact h2)
  simp only [Ah] at ihb
  by_cases c1:pre.length<picks.length
  ·obtain ⟨p,hpk⟩:∃ p,picks[pre.length]?=some p:=⟨_,List.getElem?_eq_getElem c1⟩
   have m1:((pre.length:Int)<picks.length)=True:=by simpa using c1
   cases c2:Ao (Df p 3) k
   ·obtain ⟨P2,hP2⟩:∃ P2,p.fdiv (2 ^ min (2:Int).toNat (IntKind.bits .i64))=P2:=⟨_,rfl⟩
    have hex:Cg k picks pre.length=[⟨Df p 3,Df P2 255⟩]:=by unfold Cg;rw [hpk];simp only [c2,Bool.false_eq_true,if_false];rw [hP2]
    have hsh:∀ t,BJ lay .shr t (iV p) (.lit (.int .u64 2))=some (iV P2):=fun t=>by rw [← hP2];exact Mx (by decide)
    clear hP2
    cases c0:Ao a.level k
    ·rw [hex] at hacc
     rw [c0] at hacc
     simp only [if_true,if_false,Bool.false_eq_true,List.nil_append] at hacc
     have ih:=ihb ([⟨Df p 3,Df P2 255⟩]++[]) (by simp;omega) (by rw [← hacc];simp)
     simp only [List.map_append,List.map_cons,List.map_nil,eSl,List.cons_append,List.nil_append,List.append_nil,List.append_assoc] at ih
     simp +contextual -dsimp -implicitDefEqProofs (maxSteps:=5000000) only [gLs,↓Ai (IX.eq_1),l1,l2,l3,hg,c0,m1,c2,hpk,hsh,eSl,List.replicate,List.length_append,List.length_cons,List.length_nil,List.length_map,List.append_assoc,List.cons_append,List.nil_append,go_sem,simprocAttr]
     exact (Av (by rfl)).mpr ih
    ·rw [hex] at hacc
     rw [c0] at hacc
     simp only [if_true,if_false,Bool.false_eq_true,List.nil_append] at hacc
     have ih:=ihb ([⟨Df p 3,Df P2 255⟩]++[a]) (by simp;omega) (by rw [← hacc];simp)
     simp only [List.map_append,List.map_cons,List.map_nil,eSl,List.cons_append,List.nil_append,List.append_nil,List.append_assoc] at ih
     simp +contextual -dsimp -implicitDefEqProofs (maxSteps:=5000000) only [gLs,↓Ai (IX.eq_1),l1,l2,l3,hg,c0,m1,c2,hpk,hsh,eSl,List.replicate,List.length_append,List.length_cons,List.length_nil,List.length_map,List.append_assoc,List.cons_append,List.nil_append,go_sem,simprocAttr]
     exact (Av (by rfl)).mpr ih
   ·have hex:Cg k picks pre.length=[]:=by unfold Cg;rw [hpk];simp [c2]
    cases c0:Ao a.level k
    ·rw [hex] at hacc
     rw [c0] at hacc
     simp only [if_true,if_false,Bool.false_eq_true,List.nil_append] at hacc
     have ih:=mJ i kf s hs M k picks hp st sl c W q Q u w hend hnil suf (pre++[a]) kk (by simp [hxs]) (by simpa using hk) (by simp only [Ah];exact hacc)
     simp only [Ah] at ih
     simp +contextual -dsimp -implicitDefEqProofs (maxSteps:=5000000) only [gLs,↓Ai (IX.eq_1),l1,l2,l3,hg,c0,m1,c2,hpk,eSl,List.replicate,List.length_append,List.length_cons,List.length_nil,List.length_map,List.append_assoc,List.cons_append,List.nil_append,go_sem,simprocAttr]
     exact (Av (by rfl)).mpr ih
    ·rw [hex] at hacc
     rw [c0] at hacc
     simp only [if_true,if_false,Bool.false_eq_true,List.nil_append] at hacc
     have ih:=ihb ([]++[a]) (by simp;omega) (by rw [← hacc];simp)
     simp only [List.map_append,List.map_cons,List.map_nil,eSl,List.cons_append,List.nil_append,List.append_nil,List.append_assoc] at ih
     simp +contextual -dsimp -implicitDefEqProofs (maxSteps:=5000000) only [gLs,↓Ai (IX.eq_1),l1,l2,l3,hg,c0,m1,c2,hpk,eSl,List.replicate,List.length_append,List.length_cons,List.length_nil,List.length_map,List.append_assoc,List.cons_append,List.nil_append,go_sem,simprocAttr]
     exact (Av (by rfl)).mpr ih
  ·have m0:decide ((pre.length:Int)<picks.length)=false:=by simpa using c1
   have hex:Cg k picks pre.length=[]:=by
    unfold Cg
    rw [List.getElem?_eq_none (by omega)]
   cases c0:Ao a.level k
   ·rw [hex] at hacc
    rw [c0] at hacc
    simp only [if_true,if_false,Bool.false_eq_true,List.nil_append] at hacc
    have ih:=mJ i kf s hs M k picks hp st sl c W q Q u w hend hnil suf (pre++[a]) kk (by simp [hxs]) (by simpa using hk) (by simp only [Ah];exact hacc)
    simp only [Ah] at ih
    simp +contextual -dsimp -implicitDefEqProofs (maxSteps:=5000000) only [gLs,↓Ai (IX.eq_1),l1,l2,l3,hg,c0,m0,eSl,List.replicate,List.length_append,List.length_cons,List.length_nil,List.length_map,List.append_assoc,List.cons_append,List.nil_append,go_sem,simprocAttr]
    exact (Av (by rfl)).mpr ih
   ·rw [hex] at hacc
    rw [c0] at hacc
    simp only [if_true,if_false,Bool.false_eq_true,List.nil_append] at hacc
    have ih:=ihb ([]++[a]) (by simp;omega) (by rw [← hacc];simp)
    simp only [List.map_append,List.map_cons,List.map_nil,eSl,List.cons_append,List.nil_append,List.append_nil,List.append_assoc] at ih
    simp +contextual -dsimp -implicitDefEqProofs (maxSteps:=5000000) only [gLs,↓Ai (IX.eq_1),l1,l2,l3,hg,c0,m0,eSl,List.replicate,List.length_append,List.length_cons,List.length_nil,List.length_map,List.append_assoc,List.cons_append,List.nil_append,go_sem,simprocAttr]
    exact (Av (by rfl)).mpr ih
theorem u_TopHigh (i:Nat) (s:Ap) (hs:Cj s) (g v:Int) (p:List AD) (hpl:p.length≤1048576) (picks:List Int) (hp:picks.length≤1048576) (haw:Aa (Lv ctx (i+30)) 15 []=some (bV true)):Aa (Lv ctx (i+31)) 9 [eSc true s,iV g,iV v,eIs true p,.isl true false 1 (picks.map iV)]=some (bV true):=by
 obtain ⟨k,eg,hg⟩:∃ k:Int,Df g 3=k∧inR k 3=true:=⟨_,rfl,GY g 3 (by omega)⟩
 have q1:=KL (i+1) true s hs
 simp only [Nat.add_assoc,Nat.reduceAdd] at q1
 rcases OP (s:=s) with ⟨h0,hsm⟩ | ⟨h0,hsm⟩
 ·rw [h0] at q1
  have hl:=(Kr hsm).1
  have hT:=qO hs hl k v hpl picks
  have hfs:(Hv s k v p picks).starts=(s.starts.map (hiF k p)).map (·.2):=uS k p s.starts
  have q0:=Lx (i+29) true s hs
  have q2:=iL (i+1) false (Hv s k v p picks) hT (s.starts.map (hiF k p)) hfs
  have q3:=fun p=>ID (i+9) p (BN s).1 (DU hs) k
  have k1:=fun kf st sl c M W q Q u w he hn kk hk=>mJ i kf s hs M k picks hp st sl c W q Q u w he hn s.slots [] kk rfl hk rfl
  have k2:=fun kf sl c M q Q u w W he kk hk=>Zn i kf s M k p picks sl c W s.starts hs.bst q Q u w he s.starts [] kk rfl hk
  have k3:=fun kf st sl c M q Q u w W g h4 hb kk hk he=>mL i kf s M k v p picks st sl c W g h4 hb q Q u w kk hk he
  simp only [List.length_nil,Int.natCast_zero,List.map_nil,List.nil_append] at k1 k2
  have e4:Hv s k v p picks=⟨⟨hiR 0 k v s.words.a0,hiR 1 k v s.words.a1,hiR 2 k v s.words.a2,hiR 3 k v s.words.a3⟩,s.ceil,s.starts.map (hiT k p),Im k picks 0 s.slots⟩:=rfl
  have ebz:=a2s k p s.starts
  have hs':=hs
  obtain ⟨b0,b1,b2,b3,_,_,_⟩:=hs'
  have q7:=fun p1=>r_scMayF (i+21) p1 (Hv s k v p picks) hT (s.starts.map (hiF k p)) hfs
  have ho:=fun kf q k' st Q u w=>gLs 8 [2,3,4,5,11,12,14,15] (fun s q=>evC ctx (Lv ctx (i+30)) (Aa (Lv ctx (i+30))) kf c9_2 s (As [2,3,4,5,11,12,14,15] q)) q k' st Q u w
  generalize hM1:(BN s).1=M1 at q1 q3
  refine Af rfl (s.words.a0.length+s.words.a1.length+s.words.a2.length+s.words.a3.length+s.starts.length+s.slots.length+9) (by rfl) ?_
  delta c9
  simp only [Nat.add_assoc,Nat.reduceAdd,Nat.reduceSub] at q0 q2 q3 q7
  simp +contextual -dsimp -implicitDefEqProofs (maxSteps:=5000000) only [haw,eg,q0,q1,ho,↓Ai (c9_2.eq_1),go_sem,simprocAttr]
  refine k3 _ _ _ _ _ _ _ _ _ s.words 0 (.inl rfl) b0 _ (by show s.words.a0.length<_;omega) ?_
  simp only [A4.set,A4.get,simprocAttr]
  simp +contextual -dsimp -implicitDefEqProofs (maxSteps:=5000000) only [ho,↓Ai (c9_2.eq_1),go_sem,simprocAttr]
  refine k3 _ _ _ _ _ _ _ _ _ ⟨hiR 0 k v s.words.a0,s.words.a1,s.words.a2,s.words.a3⟩ 1 (.inr (.inl rfl)) b1 _ (by show s.words.a1.length<_;omega) ?_
  simp only [A4.set,A4.get,simprocAttr]
  simp +contextual -dsimp -implicitDefEqProofs (maxSteps:=5000000) only [ho,↓Ai (c9_2.eq_1),go_sem,simprocAttr]
  refine k3 _ _ _ _ _ _ _ _ _ ⟨hiR 0 k v s.words.a0,hiR 1 k v s.words.a1,s.words.a2,s.words.a3⟩ 2 (.inr (.inr (.inl rfl))) b2 _ (by show s.words.a2.length<_;omega) ?_
  simp only [A4.set,A4.get,simprocAttr]
  simp +contextual -dsimp -implicitDefEqProofs (maxSteps:=5000000) only [ho,↓Ai (c9_2.eq_1),go_sem,simprocAttr]
  refine k3 _ _ _ _ _ _ _ _ _ ⟨hiR 0 k v s.words.a0,hiR 1 k v s.words.a1,hiR 2 k v s.words.a2,s.words.a3⟩ 3 (.inr (.inr (.inr rfl))) b3 _ (by show s.words.a3.length<_;omega) ?_
  simp only [A4.set,A4.get,simprocAttr]
  simp +contextual -dsimp -implicitDefEqProofs (maxSteps:=5000000) only [ho,↓Ai (c9_2.eq_1),go_sem,simprocAttr]
  refine k2 _ _ _ _ _ _ _ _ ⟨hiR 0 k v s.words.a0,hiR 1 k v s.words.a1,hiR 2 k v s.words.a2,hiR 3 k v s.words.a3⟩ ?_ _ (by omega)
  simp +contextual -dsimp -implicitDefEqProofs (maxSteps:=5000000) only [go_sem,simprocAttr]
  rcases OP (s:=Hv s k v p picks) with ⟨hr,hsmT⟩ | ⟨hr,hsmT⟩
  ·have q4:=fun p1=>ID (i+9) p1 (BN (Hv s k v p picks)).1 (DU hT) k
   have hsv:=OJ hg hsm hsmT (high_same v p picks)
   have q6:=fun p1 p2=>Bq (i+(30 - 3)) p1 p2 (Dr (BN s).1 k) (Dr (BN s).1 k) (LA (DU hs) k)
   rw [IC hg hsmT,← hsv] at q4
   rw [← hM1,IC hg hsm] at q3
   rw [hr] at q2
   simp only [Nat.add_assoc,Nat.reduceAdd,Nat.reduceSub,decide_true] at q4 q6
   generalize (BN (Hv s k v p picks)).1=M2 at q2 q4
   generalize Dr (BN s).1 k=X at q3 q4 q6
   rw [hM1] at q3
   clear hsv hr hsmT hsm h0
   rw [e4] at q2
   simp only [eQ,wU,eNs,XT] at q2
   clear q7 q1 q0 ho k2 k3
   refine k1 _ _ _ _ _ ⟨hiR 0 k v s.words.a0,hiR 1 k v s.words.a1,hiR 2 k v s.words.a2,hiR 3 k v s.words.a3⟩ _ _ _ _ (fun acc hacc=>?_) (fun hn=>?_) _ (by omega)
   ·rw [← hacc] at q2
    simp +contextual -dsimp -implicitDefEqProofs (maxSteps:=5000000) only [ebz,q2,q3,q4,q6,go_sem,simprocAttr]
   ·rw [hn] at q2
    simp only [List.map_nil] at q2
    simp +contextual -dsimp -implicitDefEqProofs (maxSteps:=5000000) only [ebz,q2,q3,q4,q6,go_sem,simprocAttr]
  ·rw [hr] at q2
   rw [hsmT] at q7
   simp only [Bh] at q2
   rw [e4] at q2 q7
   simp only [eQ,wU,eNs,XT] at q2 q7
   clear q1 q0 ho k2 k3 hr hsmT hsm h0
   refine k1 _ _ _ _ _ ⟨hiR 0 k v s.words.a0,hiR 1 k v s.words.a1,hiR 2 k v s.words.a2,hiR 3 k v s.words.a3⟩ _ _ _ _ (fun acc hacc=>?_) (fun hn=>?_) _ (by omega)
   ·rw [← hacc] at q2 q7
    simp +contextual -dsimp -implicitDefEqProofs (maxSteps:=5000000) only [ebz,q2,q7,go_sem,simprocAttr]
   ·rw [hn] at q2 q7
    simp only [List.map_nil] at q2 q7
    simp +contextual -dsimp -implicitDefEqProofs (maxSteps:=5000000) only [ebz,q2,q7,go_sem,simprocAttr]
 ·rw [h0] at q1
  have qz:=fun p q=>Bq (i+(30 - 3)) p q AA AA CQ
  simp only [AA,eM,cM,eWs,eSs,eEs,List.map_nil,decide_true,Nat.add_assoc,Nat.reduceAdd,Nat.reduceSub] at qz
  simp only [Bh] at q1
  refine Af rfl 0 (by rfl) ?_
  delta c9
  simp +contextual -dsimp -implicitDefEqProofs (maxSteps:=5000000) only [haw,eg,q1,qz,go_sem,simprocAttr]
end Ve
