/- The statement DriftOnce. -/
import Derived.Test.YtdgpalcplglhjaaGreatS34
import Derived.Test.YtdgpalcplglhjaaGreatS40
import Derived.Test.YtdgpalcplglhjaaGreatVeSC
import Derived.Test.YtdgpalcplglhjaaGreatVeP
import Derived.Test.YtdgpalcplglhjaaGreatPL49
import Derived.Test.YtdgpalcplglhjaaGreatVeN
set_option linter.all false
set_option linter.unusedSectionVars false
namespace Ve
open Go Ve.Ab
set_option maxHeartbeats 16000000
set_option maxRecDepth 20000
def MHo:Ad:=⟨⟨[⟨5,0,0⟩,⟨6,0,0⟩],[⟨7,0,0⟩],[],[⟨9,0,0⟩]⟩,⟨0,0,0,0⟩,9,[S3p [⟨2,0,0,0⟩,⟨1,0,0,0⟩,⟨3,0,0,0⟩],S5p 1 3 [⟨2,0,3,0⟩]],[]⟩
theorem HK (gs:List Int):∀ j,Db gs j≤j
 | 0=>Nat.le_refl _
 | j+1=>by
  have:=HK gs j
  simp only [Db];split<;>omega
theorem SE {a b:Int} (ha:inR a 3=true) (hb:inR b 3=true):orI (orI a b) b=orI a b:=by
 rcases FI ha with rfl | rfl | rfl | rfl<;>rcases FI hb with rfl | rfl | rfl | rfl<;>decide
abbrev s5D (p:V):V:=.agg [iV 5,iV 0,iV 3,p,iV 0,iV 0,iV 0,iV 0,iV 0,iV 0,oRs [],LP [],iV 0,iV 0,iV 0,iV 0,iV 0]
abbrev c0D:List V:=[.sl 0,.sl 1,.sl 7,.sl 3,iV 0,iV 0,iV 0,iV 0,iV 9,.sl 4,.sl 5]
abbrev hD (p:V) (d:Bool) (C:List V):Hp:=pO (pO (pO (pO (pO (pO (pO (pO Ag 0 (some ⟨3,[.agg [iV 5,iV 0,iV 0],.agg [iV 6,iV 0,iV 0]],false⟩)) 1 (some ⟨3,[.agg [iV 7,iV 0,iV 0]],false⟩)) 2 (some ⟨3,[],false⟩)) 3 (some ⟨3,[.agg [iV 9,iV 0,iV 0]],false⟩)) 4 (some ⟨17,[.agg [iV 3,iV 0,iV 3,oIs [⟨2,0,0,0⟩,⟨1,0,0,0⟩,⟨3,0,0,0⟩],iV 0,iV 0,iV 0,iV 0,iV 0,iV 0,oRs [],LP [],iV 0,iV 0,iV 0,iV 0,iV 0],s5D p],d⟩)) 5 (some ⟨4,[],false⟩)) 6 (some ⟨11,[.agg C],true⟩)) 7 (some ⟨3,[.agg [iV 1,iV 0,iV 0]],false⟩)
abbrev hD8 (p:V) (d:Bool) (C:List V) (l:List Av):Hp:=pO (hD p d C) 8 (some ⟨4,l.map eI,false⟩)
theorem pB (i k:Nat) (xs ys:List Int) (hy:ys=xs.take 10) (gs:List Int) (hgs:gs=ys.map fun a=>Ia a 3) (q:Out→St→Option Ans) (Q:V→Hp→Nat→Prop)
  (u:Dum (fun s q=>evC ctx (Lv ctx (i+24)) (Aa (Lv ctx (i+24))) k Rz s (As [0,3,4,5,6,7,8] q))) (w:Dum q)
  (hend:Fin (q (.exit 0) ⟨Ae [3,4,5,6,7] [.ptr 6 0 0,iV ys.length,.sl 8,iV (Cy gs ys.length),iV (Db gs ys.length:Nat)],hD8 (oIs [⟨2,0,3,0⟩]) false c0D (gs.map rdJ),9⟩) Q):∀ (suf pre:List Int) (kk:Nat),ys=pre++suf→suf.length<kk →
  GL 8 [0,3,4,5,6,7,8] (fun s q=>evC ctx (Lv ctx (i+24)) (Aa (Lv ctx (i+24))) k Rz s (As [0,3,4,5,6,7,8] q)) q kk ⟨Ae [0,3,4,5,6,7,8] [.isl true false 1 (xs.map iV),.ptr 6 0 0,iV ys.length,.sl 8,iV (Cy gs pre.length),iV (Db gs pre.length:Nat),iV pre.length],hD8 (oIs [⟨2,0,3,0⟩]) false c0D ((pre.map fun a=>Ia a 3).map rdJ),9⟩ Q u w
 | [],pre,kk,hxs,hk=>by
  obtain ⟨kk,rfl⟩:∃ m,kk=m+1:=⟨kk - 1,by simp at hk;omega⟩
  have h2:ys=pre:=by simpa using hxs
  have hm:(pre.map fun a=>Ia a 3)=gs:=by rw [hgs,h2]
  rw [hm,← h2]
  have h1:decide ((ys.length:Int)<ys.length)=false:=by simp
  generalize Cy gs ys.length=J at hend ⊢
  generalize Db gs ys.length=W at hend ⊢
  simp +contextual -dsimp -implicitDefEqProofs (maxSteps:=5000000) only [gLs,↓Aj (Rz.eq_1),h1,go_sem,simprocAttr]
  exact hend
 | a::suf,pre,kk,hxs,hk=>by
  obtain ⟨kk,rfl⟩:∃ m,kk=m+1:=⟨kk - 1,by simp at hk;omega⟩
  have hl:pre.length<ys.length:=by simp [hxs]
  have hl10:ys.length≤10:=by rw [hy];simp;omega
  have hlx:pre.length<xs.length:=by rw [hy] at hl;simp at hl;omega
  have h2:((pre.length:Int)<ys.length)=True:=by simpa using hl
  have h2':decide ((pre.length:Int)<ys.length)=true:=by simpa using hl
  have h2x:((pre.length:Int)<xs.length)=True:=by simpa using hlx
  have h3:(0≤(pre.length:Int))=True:=by simp
  have h4:=wrN pre.length (by simp only [BB];omega)
  have hy1:ys[pre.length]?=some a:=by simp [hxs]
  have hg:xs[pre.length]?=some a:=by
   rw [hy,List.getElem?_take] at hy1
   split at hy1
   ·exact hy1
   ·cases hy1
  have hgd:gs.getD pre.length 0=Ia a 3:=by rw [hgs,List.getD_eq_getElem?_getD,List.getElem?_map,hy1];rfl
  have h5:(((pre.length+1:Nat):Int)*32≤140737488355328)=True:=by rw [eq_iff_iff,iff_true];omega
  have ih:=pB i k xs ys hy gs hgs q Q u w hend suf (pre++[a]) kk (by simp [hxs]) (by simpa using hk)
  have hW:=HK gs pre.length
  simp only [Ao,List.map_append,List.map_cons,List.map_nil,Cy,Db,hgd,rdJ,eI] at ih
  generalize Cy gs pre.length=J at ih ⊢
  generalize Db gs pre.length=W at ih hW ⊢
  have h6:=wrN W (by simp only [BB];omega)
  cases cJ:decide (orI J (Ia a 3)=J)
  ·rw [if_neg (of_decide_eq_false cJ)] at ih
   simp +contextual -dsimp -implicitDefEqProofs (maxSteps:=5000000) only [gLs,↓Aj (Rz.eq_1),h2,h2',h2x,h3,h4,h5,h6,hg,cJ,eI,List.replicate,List.length_append,List.length_cons,List.length_nil,List.length_map,List.append_assoc,List.cons_append,List.nil_append,go_sem,simprocAttr]
   obtain ⟨kk,rfl⟩:∃ m,kk=m+1:=⟨kk - 1,by simp at hk;omega⟩
   simp +contextual -dsimp -implicitDefEqProofs (maxSteps:=5000000) only [gLs,List.append_assoc,List.cons_append,List.nil_append,go_sem,simprocAttr] at ih ⊢
   exact ih
  ·rw [if_pos (of_decide_eq_true cJ),Nat.add_zero,of_decide_eq_true cJ] at ih
   have cJ':=of_decide_eq_true cJ
   simp +contextual -dsimp -implicitDefEqProofs (maxSteps:=5000000) only [gLs,↓Aj (Rz.eq_1),h2,h2',h2x,h3,h4,h5,h6,hg,cJ,cJ',eI,List.replicate,List.length_append,List.length_cons,List.length_nil,List.length_map,List.append_assoc,List.cons_append,List.nil_append,go_sem,simprocAttr]
   obtain ⟨kk,rfl⟩:∃ m,kk=m+1:=⟨kk - 1,by simp at hk;omega⟩
   simp +contextual -dsimp -implicitDefEqProofs (maxSteps:=5000000) only [gLs,List.append_assoc,List.cons_append,List.nil_append,go_sem,simprocAttr] at ih ⊢
   exact ih
theorem dG (i k:Nat) (gs:List Int) (hg3:∀ g∈gs,inR g 3=true) (hl10:gs.length≤10) (jn wn:Int) (q:Out→St→Option Ans) (Q:V→Hp→Nat→Prop)
  (u:Dum (fun s q=>evC ctx (Lv ctx (i+24)) (Aa (Lv ctx (i+24))) k Oc s (As [3,4,6,7,10,11] q))) (w:Dum q)
  (hend:∀ (A:Ad) (s:Af) (h:Hp) (n:Nat),A.sess.length=2→A.sess[1]?=some s→s.label=Cy gs gs.length→h 6=some ⟨11,[.agg (cM true A)],true⟩→Fin (q (.exit 2) ⟨Ae [3,6,7,10] [.ptr 6 0 0,iV jn,iV wn,iV (Db gs gs.length:Nat)],h,n⟩) Q):∀ (r:Nat) (A:Ad) (j d:Nat) (l:Int) (kk:Nat),DrM gs A j l→SmM A→j<gs.length→r+(j+d)=2*gs.length→r<kk→(l=Cy gs j∧d=Db gs j∨orI l (gs.getD j 0)=l∧l=Cy gs (j+1)∧d=Db gs (j+1)) →
  GL 9 [3,4,6,7,10,11] (fun s q=>evC ctx (Lv ctx (i+24)) (Aa (Lv ctx (i+24))) k Oc s (As [3,4,6,7,10,11] q)) q kk ⟨Ae [3,4,6,7,10,11] [.ptr 6 0 0,iV gs.length,iV jn,iV wn,iV d,iV ((j+d:Nat):Int)],hD8 (.sl 8) true (cM true A) (gs.map rdJ),9⟩ Q u w
 | r,A,j,d,l,kk,D,hA,hj,hr,hk,hc=>by
  obtain ⟨kk,rfl⟩:∃ m,kk=m+1:=⟨kk - 1,by omega⟩
  have r0:=HK gs j
  have r1:=HK gs (j+1)
  have hd:d≤j+1:=by rcases hc with ⟨_,h⟩ | ⟨_,_,h⟩<;>omega
  have hi:j+d<2*gs.length:=by
   rcases hc with ⟨_,h⟩ | ⟨_,_,h⟩<;>omega
  obtain ⟨r,rfl⟩:∃ m,r=m+1:=⟨r - 1,by omega⟩
  have hl3:inR l 3=true:=by
   rcases hc with ⟨h,_⟩ | ⟨_,h,_⟩
   ·rw [h];exact Ku hg3 j
   ·rw [h];exact Ku hg3 (j+1)
  have m1:IntKind.wrap .i64 (2*(gs.length:Int))=2*(gs.length:Int):=EH (by omega) (by omega)
  have m2:decide (((j+d:Nat):Int)<2*(gs.length:Int))=true:=by simp;omega
  have m3:=wrN (j+d) (by simp only [BB];omega)
  have m4:=wrN d (by simp only [BB];omega)
  have n0:=Kb (i+2) true A hA 1
  obtain ⟨c1,c2⟩:=Wx hg3 D hj hl3
  have hg:=KC hg3 j
  by_cases ho:orI l (gs.getD j 0)=l
  ·obtain ⟨e1,B,e2,D'⟩:=c1 ho
   have hB:SmM B:=DW D'.inv.may
   have n1:=aG (i+12) true A hA 1
   rw [e1] at n0
   rw [e2] at n1
   have hst:l=Cy gs (j+1)∧d=Db gs (j+1):=by
    rcases hc with ⟨h1,h2⟩ | ⟨_,h1,h2⟩
    ·rw [h1] at ho
     exact ⟨by rw [h1,Cy,ho],by rw [h2,Db,if_pos ho,Nat.add_zero]⟩
    ·exact ⟨h1,h2⟩
   obtain ⟨s1,hs1,hs2,hs3,hs4,_⟩:=D'.s
   have l2:=D'.len
   have z2:decide ((B.sess.length:Int)=2)=true:=by rw [l2];rfl
   have z1:((1:Int)<(B.sess.length:Int))=True:=by rw [l2];simp
   simp only [Nat.add_assoc,Nat.reduceAdd,Nat.reduceSub] at n0 n1
   by_cases hjk:j+1<gs.length
   ·have z3:decide ((gs.length:Int)≤((j+1:Nat):Int))=false:=by simp;omega
    have ih:=dG i k gs hg3 hl10 jn wn q Q u w hend r B (j+1) d l kk D' hB hjk (by omega) (by omega) (.inl hst)
    have e3:j+1+d=j+d+1:=by omega
    rw [e3] at ih
    clear c1 c2
    simp +contextual -dsimp -implicitDefEqProofs (maxSteps:=5000000) only [gLs,↓Aj (Oc.eq_1),m1,m2,m3,n0,n1,z1,z2,z3,hs1,hs3,eS,go_sem,simprocAttr]
    exact (BN (by rfl)).mpr ih
   ·have hjk':j+1=gs.length:=by omega
    have z3:decide ((gs.length:Int)≤((j+1:Nat):Int))=true:=by simp;omega
    have he:=fun h n=>hend B s1 h n l2 hs1 (by rw [hs4,hst.1,hjk'])
    rw [← hjk',← hst.2] at he
    clear c1 c2
    simp +contextual -dsimp -implicitDefEqProofs (maxSteps:=5000000) only [gLs,↓Aj (Oc.eq_1),m1,m2,m3,n0,n1,z1,z2,z3,hs1,hs3,eS,go_sem,simprocAttr]
    exact he _ _ rfl
  ·obtain ⟨e1,B,e2,D'⟩:=c2 ho
   have hB:SmM B:=DW D'.inv.may
   have n1:=PO (i+1) true A hA 1
   rw [e1] at n0
   rw [e2] at n1
   have l2:=D'.len
   have z2:decide ((B.sess.length:Int)=2)=true:=by rw [l2];rfl
   simp only [Nat.add_assoc,Nat.reduceAdd,Nat.reduceSub] at n0 n1
   have hst:l=Cy gs j∧d=Db gs j:=by
    rcases hc with h | ⟨h,_⟩
    ·exact h
    ·exact absurd h ho
   have hne:orI (Cy gs j) (gs.getD j 0)≠Cy gs j:=by rw [← hst.1];exact ho
   have ih:=dG i k gs hg3 hl10 jn wn q Q u w hend r B j (d+1) (orI l (gs.getD j 0)) kk D' hB hj (by omega) (by omega) (.inr ⟨SE hl3 hg,by rw [hst.1,Cy],by rw [hst.2,Db,if_neg hne]⟩)
   have e3:j+(d+1)=j+d+1:=by omega
   rw [e3] at ih
   clear c1 c2
   simp +contextual -dsimp -implicitDefEqProofs (maxSteps:=5000000) only [gLs,↓Aj (Oc.eq_1),m1,m2,m3,m4,n0,n1,z2,eS,go_sem,simprocAttr]
   exact (BN (by rfl)).mpr ih
theorem u_DriftOnce (i:Nat) (xs:List Int) (hxs:xs.length≤1048576) (haw:Aa (Lv ctx (i+24)) 5 []=some (bV true)) (hhi:Aa (Lv ctx (i+24)) 6 [iV 3]=some (oM MHo)):Aa (Lv ctx (i+25)) 3 [.isl true false 1 (xs.map iV)]=some (bV true):=by
 simp only [MHo,oM,cO,oWs,oSs,oEs,oS,S3p,S5p,List.map_cons,List.map_nil] at hhi
 obtain ⟨ys,hy⟩:∃ ys,ys=xs.take 10:=⟨_,rfl⟩
 obtain ⟨gs,hgs⟩:∃ gs,gs=ys.map fun a=>Ia a 3:=⟨_,rfl⟩
 have hlen:gs.length=ys.length:=by rw [hgs,List.length_map]
 have hl10:gs.length≤10:=by rw [hlen,hy];simp;omega
 have hmin:(if (10:Int)<(xs.length:Int) then (10:Int) else (xs.length:Int))=(ys.length:Int):=by
  rw [hy,List.length_take]
  split<;>omega
 have hg3:∀ g∈gs,inR g 3=true:=by
  intro g hg
  rw [hgs] at hg
  obtain ⟨a,_,rfl⟩:=List.mem_map.1 hg
  exact lB a 3 (by omega)
 have hW2:=Ye hg3 gs.length
 obtain ⟨K,hK⟩:∃ K,xs.length+30<K:=⟨_,Nat.lt_succ_self _⟩
 have hz:IntKind.wrap .i64 (2*(ys.length:Int))=2*(ys.length:Int):=EH (by omega) (by omega)
 cases xs with
 | nil =>
  have hyz:ys=[]:=by simpa using hy
  subst hyz
  refine Ac rfl (K+1) (by rfl) ?_
  delta c3
  simp +contextual -dsimp -implicitDefEqProofs (maxSteps:=5000000) only [haw,hhi,List.replicate,IA,gLs,↓Aj (Rz.eq_1),↓Aj (Oc.eq_1),go_sem,simprocAttr]
 | cons a r =>
  obtain ⟨zs,hzs⟩:∃ zs,ys=a::zs:=⟨r.take 9,by rw [hy];rfl⟩
  have hzl:zs.length<K:=by rw [hlen,hzs] at hl10;simp at hl10;omega
  have g0:gs=Ia a 3::zs.map fun a=>Ia a 3:=by rw [hgs,hzs];rfl
  have gD:gs.getD 0 0=Ia a 3:=by rw [g0];rfl
  have gpos:0<gs.length:=by rw [g0];simp
  have hj1:Cy gs 1=orI 0 (Ia a 3):=by simp only [Cy,gD]
  have hw1:Db gs 1=if orI 0 (Ia a 3)=0 then 0 else 1:=by simp only [Db,Cy,gD,Nat.zero_add]
  have k1:=fun q Q u w h=>pB i (K+1) (a::r) ys hy gs hgs q Q u w h zs [a] K hzs hzl
  have dd:∀ n:Int,decide (n=n)=true:=fun n=>by simp
  have p0:decide ((0:Int)<(gs.length:Int))=true:=by simpa using gpos
  have p1:((0:Int)<(r.length+1:Nat))=True:=by simp
  have p2:decide ((0:Int)<2*(gs.length:Int))=true:=by simp;omega
  have p3:decide (((Db gs gs.length:Nat):Int)≤2)=true:=by simp;omega
  rw [← hlen] at hmin hz
  simp only [← hlen] at k1
  simp only [List.length_cons,List.length_nil,Nat.zero_add,List.map_cons,List.map_nil,rdJ,eI] at k1 hmin
  rw [hj1,hw1] at k1
  have D0:=eP hg3 hl10
  obtain ⟨c1,c2⟩:=Wx hg3 D0 gpos (by decide)
  have n0:=fun j=>Kb j false (MDr gs) (DW D0.inv.may) 1
  have key2:=fun q Q u w h=>dG i (K+1) gs hg3 hl10 (Cy gs gs.length) (Db gs gs.length:Nat) q Q u w h
  by_cases ho:orI 0 (gs.getD 0 0)=0
  ·obtain ⟨e1,B,e2,D'⟩:=c1 ho
   have n1:=aG (i+12) false (MDr gs) (DW D0.inv.may) 1
   have n0:=n0 (i+2)
   rw [e1] at n0
   rw [e2] at n1
   have hB:SmM B:=DW D'.inv.may
   obtain ⟨s1,hs1,hs2,hs3,hs4,_⟩:=D'.s
   have hs3:s1.pc=1:=by simpa using hs3
   have l2:=D'.len
   have z2:decide ((B.sess.length:Int)=2)=true:=by rw [l2];rfl
   have z1:((1:Int)<(B.sess.length:Int))=True:=by rw [l2];simp
   rw [gD] at ho
   have ho':decide (orI 0 (Ia a 3)=0)=true:=by simpa using ho
   rw [if_pos ho,ho] at k1
   simp only [MDr,JV,S3p,S5p,eM,cM,eWs,eSs,eEs,eS,eIs,eRs,UY,eW,eI,List.map_cons,List.map_nil,Nat.add_assoc,Nat.reduceAdd,Nat.reduceSub] at n0 n1
   refine Ac rfl (K+1) (by rfl) ?_
   delta c3
   simp +contextual -dsimp -implicitDefEqProofs (maxSteps:=5000000) only [haw,hhi,List.replicate,IA,hmin,gLs,↓Aj (Rz.eq_1),p0,p1,ho',ho,go_sem,simprocAttr]
   refine (BN (by rfl)).mpr (k1 _ _ _ _ ?_)
   by_cases hk1:gs.length=1
   ·have z3:decide ((gs.length:Int)≤1)=true:=by rw [hk1];rfl
    have hj0:Cy gs gs.length=0:=by rw [hk1,hj1,ho]
    have hw0:((Db gs gs.length:Nat):Int)=0:=by rw [hk1,hw1,if_pos ho];rfl
    have hs4:s1.label=0:=hs4
    simp only [hj0,hw0]
    simp +contextual -dsimp -implicitDefEqProofs (maxSteps:=5000000) only [gLs,↓Aj (Oc.eq_1),hz,p2,n0,n1,z1,z2,z3,hs1,hs3,hs4,dd,eS,go_sem,simprocAttr]
   ·have z3:decide ((gs.length:Int)≤1)=false:=by simp;omega
    simp +contextual -dsimp -implicitDefEqProofs (maxSteps:=5000000) only [gLs,↓Aj (Oc.eq_1),hz,p2,n0,n1,z1,z2,z3,hs1,hs3,eS,go_sem,simprocAttr]
    have k2:=fun q Q u w h=>key2 q Q u w h (2*gs.length - 1) B 1 0 0 K D' hB (by omega) (by omega) (by omega) (.inl ⟨by rw [hj1,ho],by rw [hw1,if_pos ho]⟩)
    refine (BN (by rfl)).mpr (k2 _ _ _ _ ?_)
    intro A s h n hA hs0 hsl h6
    have y1:((1:Int)<(A.sess.length:Int))=True:=by rw [hA];simp
    generalize Cy gs gs.length=J at hsl ⊢
    generalize Db gs gs.length=W at p3 ⊢
    simp +contextual -dsimp -implicitDefEqProofs (maxSteps:=5000000) only [h6,y1,hs0,hsl,p3,dd,eS,go_sem,simprocAttr]
  ·obtain ⟨e1,B,e2,D'⟩:=c2 ho
   have n1:=PO (i+1) false (MDr gs) (DW D0.inv.may) 1
   have n0:=n0 (i+2)
   rw [e1] at n0
   rw [e2] at n1
   have hB:SmM B:=DW D'.inv.may
   have l2:=D'.len
   have z2:decide ((B.sess.length:Int)=2)=true:=by rw [l2];rfl
   have hne:orI (Cy gs 0) (gs.getD 0 0)≠Cy gs 0:=ho
   have k2:=fun q Q u w h=>key2 q Q u w h (2*gs.length - 1) B 0 1 (orI 0 (gs.getD 0 0)) K D' hB gpos (by omega) (by omega) (.inr ⟨SE (by decide) (KC hg3 0),rfl,by rw [Db,if_neg hne];rfl⟩)
   rw [gD] at ho
   have ho':decide (orI 0 (Ia a 3)=0)=false:=by simpa using ho
   rw [if_neg ho] at k1
   simp only [MDr,JV,S3p,S5p,eM,cM,eWs,eSs,eEs,eS,eIs,eRs,UY,eW,eI,List.map_cons,List.map_nil,Nat.add_assoc,Nat.reduceAdd,Nat.reduceSub] at n0 n1
   refine Ac rfl (K+1) (by rfl) ?_
   delta c3
   simp +contextual -dsimp -implicitDefEqProofs (maxSteps:=5000000) only [haw,hhi,List.replicate,IA,hmin,gLs,↓Aj (Rz.eq_1),p0,p1,ho',go_sem,simprocAttr]
   refine (BN (by rfl)).mpr (k1 _ _ _ _ ?_)
   simp +contextual -dsimp -implicitDefEqProofs (maxSteps:=5000000) only [gLs,↓Aj (Oc.eq_1),hz,p2,n0,n1,z2,eS,go_sem,simprocAttr]
   refine (BN (by rfl)).mpr (k2 _ _ _ _ ?_)
   intro A s h n hA hs0 hsl h6
   have y1:((1:Int)<(A.sess.length:Int))=True:=by rw [hA];simp
   generalize Cy gs gs.length=J at hsl ⊢
   generalize Db gs gs.length=W at p3 ⊢
   simp +contextual -dsimp -implicitDefEqProofs (maxSteps:=5000000) only [h6,y1,hs0,hsl,p3,dd,eS,go_sem,simprocAttr]
end Ve
