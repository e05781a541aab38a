/- veiltop's alone: a program run at once. -/
import Derived.Test.YthllnfkddiaokaaGreatVeSA
import Derived.Test.YthllnfkddiaokaaGreatVeSB
import Derived.Test.YthllnfkddiaokaaGreatPL40
set_option linter.all false
set_option linter.unusedSectionVars false
namespace Ve
open Go Ve.Ab
set_option maxHeartbeats 16000000
set_option maxRecDepth 20000
set_option maxHeartbeats 16000000
abbrev eW4 (p:Bool) (o:A4 (List Int)):V:=.agg [eNs p o.a0,eNs p o.a1,eNs p o.a2,eNs p o.a3]
abbrev oW4 (o:A4 (List Int)):V:=.agg [oNs o.a0,oNs o.a1,oNs o.a2,oNs o.a3]
theorem and_mod (x y:Int):Df (IntKind.wrap .i64 (x+y)) 255=(x+y) % 256:=by
 have e1:(2 ^ IntKind.bits .i64:Int)=18446744073709551616:=by decide
 have e2:(2 ^ (IntKind.bits .i64 - 1):Int)=9223372036854775808:=by decide
 have h:∀ z:Int,(BitVec.ofInt 64 z &&& BitVec.ofInt 64 (255:Int)).toNat=(z % 256).toNat:=by
  intro z
  have h1:(BitVec.ofInt 64 (255:Int)).toNat=2 ^ 8 - 1:=by decide
  rw [BitVec.toNat_and,h1,Nat.and_two_pow_sub_one_eq_mod,BitVec.toNat_ofInt,show ((2 ^ 64:Nat):Int)=18446744073709551616 from rfl]
  omega
 unfold Df
 rw [h]
 have h2:(IntKind.wrap .i64 (x+y)) % 256=(x+y) % 256:=by
  simp only [IntKind.wrap,IntKind.signed,Bool.true_and,decide_eq_true_eq,e1,e2]
  split<;>omega
 rw [h2]
 have h3:(((x+y) % 256).toNat:Int)=(x+y) % 256:=by omega
 rw [h3]
 exact Bp (by omega) (by omega)
def tlP (p:List AD) (o:A4 (List Int)):Prop:=∀ x∈p,x.code=2∨x.code=3→inR x.b 3=true∧inR x.c 3=true∧x.c.toNat<(o.get x.b).length
theorem tl_set {p:List AD} {o:A4 (List Int)} (h:tlP p o) {l:Int} (hl:inR l 3=true) (n:Nat) (v:Int):tlP p (o.set l ((o.get l).set n v)):=by
 intro x hx h2
 obtain ⟨h3,h4,h5⟩:=h x hx h2
 refine ⟨h3,h4,?_⟩
 rw [US hl h3]
 split
 ·rename_i e;subst e;simpa using h5
 ·exact h5
abbrev hAl (rs:A4 Int) (o:A4 (List Int)):Hp:=pO (pO (pO Ag 0 (some ⟨4,[.agg [.own 1 [],.own 1 [],.own 1 [],.own 1 []]],false⟩)) 1 (some ⟨4,[.agg [iV rs.a0,iV rs.a1,iV rs.a2,iV rs.a3]],false⟩)) 2 (some ⟨4,[.agg [oNs o.a0,oNs o.a1,oNs o.a2,oNs o.a3]],true⟩)
theorem l_alone (i kf:Nat) (p:List AD) (hpl:p.length≤16) (hp:∀ (j:Nat) (x:AD),p[j]?=some x→BK x=true∧(x.code=4→(j:Int)<x.b)) (o':A4 (List Int)) (q:Out→St→Option Ans) (Q:V→Hp→Nat→Prop)
  (u:Dum (fun s q=>evC ctx (Lv ctx i) (Aa (Lv ctx i)) kf a8e s (As [1,4,6,7,9] q))) (w:Dum q)
  (hend:∀ rs,Fin (q (.exit 2) ⟨Ad [4,7] [.ptr 0 0 0,.ptr 2 0 0],hAl rs o',3⟩) Q) :
  ∀ (n j kk:Nat) (rs:A4 Int) (o:A4 (List Int)),DT n p j rs o=(o',true)→p.length<j+n→n<kk→tlP p o →
  GL 3 [1,4,6,7,9] (fun s q=>evC ctx (Lv ctx i) (Aa (Lv ctx i)) kf a8e s (As [1,4,6,7,9] q)) q kk ⟨Ad [1,4,6,7,9] [eIs true p,.ptr 0 0 0,.ptr 1 0 0,.ptr 2 0 0,iV j],hAl rs o,3⟩ Q u w
 | 0,j,kk,rs,o,hgo,hn,hk,hT=>by
  obtain ⟨kk,rfl⟩:∃ m,kk=m+1:=⟨kk - 1,by omega⟩
  have h1:decide ((j:Int)<p.length)=false:=by simp;omega
  have he:o=o':=by simpa [DT] using hgo
  subst he
  simp +contextual -dsimp -implicitDefEqProofs (maxSteps:=5000000) only [gLs,↓Ai (a8e.eq_1),h1,go_sem,simprocAttr]
  exact hend _
 | n+1,j,kk,rs,o,hgo,hn,hk,hT=>by
  obtain ⟨kk,rfl⟩:∃ m,kk=m+1:=⟨kk - 1,by omega⟩
  unfold DT at hgo
  rw [Int.toNat_natCast] at hgo
  cases hx:p[j]? with
  | none =>
   rw [hx] at hgo
   have h1:decide ((j:Int)<p.length)=false:=by have:=List.getElem?_eq_none_iff.1 hx;simp;omega
   have he:o=o':=by simpa using hgo
   subst he
   simp +contextual -dsimp -implicitDefEqProofs (maxSteps:=5000000) only [gLs,↓Ai (a8e.eq_1),h1,go_sem,simprocAttr]
   exact hend _
  | some x =>
   have hlt:=Ax hx
   have hxm:=List.mem_of_getElem? hx
   rw [hx] at hgo
   obtain ⟨hmay,hjmp⟩:=hp j x hx
   have hTx:=hT x hxm
   have l1:((j:Int)<p.length)=True:=by simpa using hlt
   have l2:(0≤(j:Int))=True:=by simp
   have l3:=wrN j (by simp only [BB];omega)
   have ham:=and_mod
   have next:∀ rs2 o2,DT n p ((j:Int)+1) rs2 o2=(o',true)→tlP p o2→_:=fun rs2 o2 h1 h2=>l_alone i kf p hpl hp o' q Q u w hend n (j+1) kk rs2 o2 (by rw [Int.natCast_add];exact h1) (by omega) (by omega) h2
   rcases x with ⟨code,a,b,c⟩
   simp only [BK] at hmay
   simp only at hgo hjmp hTx
   by_cases c0:code=0
   ·subst c0
    rw [if_pos rfl] at hmay hgo
    simp only [Bool.and_eq_true] at hmay
    have ih:=next _ _ hgo hT
    rcases ER hmay.1.1 with rfl | rfl | rfl | rfl
    all_goals
     simp only [A4.set,simprocAttr] at ih
     simp +contextual -dsimp -implicitDefEqProofs (maxSteps:=5000000) only [gLs,↓Ai (a8e.eq_1),l1,l2,l3,hx,eI,go_sem,simprocAttr]
     exact (Av (by rfl)).mpr ih
   rw [if_neg c0] at hmay hgo
   by_cases c1:code=1
   ·subst c1
    rw [if_pos rfl] at hmay hgo
    simp only [Bool.and_eq_true] at hmay
    have ih:=next _ _ hgo hT
    rcases ER hmay.1.1 with rfl | rfl | rfl | rfl<;>rcases ER hmay.1.2 with rfl | rfl | rfl | rfl
    all_goals
     simp only [A4.set,A4.get,simprocAttr] at ih
     simp +contextual -dsimp -implicitDefEqProofs (maxSteps:=5000000) only [gLs,↓Ai (a8e.eq_1),l1,l2,l3,hx,eI,ham,go_sem,simprocAttr]
     exact (Av (by rfl)).mpr ih
   rw [if_neg c1] at hmay hgo
   by_cases c2:code=2
   ·subst c2
    rw [if_pos (.inl rfl)] at hmay
    rw [if_pos rfl] at hgo
    simp only [Bool.and_eq_true] at hmay
    have ih:=next _ _ hgo hT
    obtain ⟨_,_,hcl⟩:=hTx (.inl rfl)
    obtain ⟨m,rfl⟩:∃ m:Nat,c=m:=⟨c.toNat,by have:=AE.1 hmay.2;omega⟩
    rw [Int.toNat_natCast] at hcl ih
    have n1:(0≤(m:Int))=True:=by simp
    rcases ER hmay.1.2 with rfl | rfl | rfl | rfl
    all_goals
     simp only [A4.get,simprocAttr] at hcl ih
     have n2:=eq_true (Int.ofNat_lt.2 hcl)
     have hv:=List.getElem?_eq_getElem hcl
     rw [hv] at ih
     simp only [Option.getD_some] at ih
     rcases ER hmay.1.1 with rfl | rfl | rfl | rfl
     all_goals
      simp only [A4.set,A4.get,simprocAttr] at ih
      simp +contextual -dsimp -implicitDefEqProofs (maxSteps:=5000000) only [gLs,↓Ai (a8e.eq_1),l1,l2,l3,hx,eI,n1,n2,hv,go_sem,simprocAttr]
      exact (Av (by rfl)).mpr ih
   rw [if_neg c2] at hgo
   by_cases c3:code=3
   ·subst c3
    rw [if_pos (.inr rfl)] at hmay
    rw [if_pos rfl] at hgo
    simp only [Bool.and_eq_true] at hmay
    have ih:=next _ _ hgo (tl_set hT hmay.1.2 _ _)
    obtain ⟨_,_,hcl⟩:=hTx (.inr rfl)
    obtain ⟨m,rfl⟩:∃ m:Nat,c=m:=⟨c.toNat,by have:=AE.1 hmay.2;omega⟩
    rw [Int.toNat_natCast] at hcl ih
    have n1:(0≤(m:Int))=True:=by simp
    rcases ER hmay.1.2 with rfl | rfl | rfl | rfl
    all_goals
     simp only [A4.get,simprocAttr] at hcl
     have n2:=eq_true (Int.ofNat_lt.2 hcl)
     have hv:=List.getElem?_eq_getElem hcl
     rcases ER hmay.1.1 with rfl | rfl | rfl | rfl
     all_goals
      simp only [A4.set,A4.get,simprocAttr] at ih
      simp only [hAl,oNs,List.map_set] at ih
      simp +contextual -dsimp -implicitDefEqProofs (maxSteps:=5000000) only [gLs,↓Ai (a8e.eq_1),l1,l2,l3,hx,eI,n1,n2,hv,go_sem,simprocAttr]
      exact (Av (by rfl)).mpr ih
   rw [if_neg c3] at hgo
   rw [if_neg (by omega)] at hmay
   by_cases c4:code=4
   ·subst c4
    rw [if_pos rfl] at hmay hgo
    simp only [Bool.and_eq_true] at hmay
    have hj:=hjmp rfl
    obtain ⟨m,rfl⟩:∃ m:Nat,b=m:=⟨b.toNat,by have:=AE.1 hmay.1.2;omega⟩
    rcases ER hmay.1.1 with rfl | rfl | rfl | rfl
    all_goals
     simp only [A4.get,simprocAttr] at hgo
     split at hgo
     ·rename_i hz
      have z1:=decide_eq_true hz
      have ih:=l_alone i kf p hpl hp o' q Q u w hend n m kk rs o hgo (by omega) (by omega) hT
      simp +contextual -dsimp -implicitDefEqProofs (maxSteps:=5000000) only [gLs,↓Ai (a8e.eq_1),l1,l2,l3,hx,eI,z1,go_sem,simprocAttr]
      exact (Av (by rfl)).mpr ih
     ·rename_i hz
      have z1:=decide_eq_false hz
      have ih:=next _ _ hgo hT
      simp +contextual -dsimp -implicitDefEqProofs (maxSteps:=5000000) only [gLs,↓Ai (a8e.eq_1),l1,l2,l3,hx,eI,z1,go_sem,simprocAttr]
      exact (Av (by rfl)).mpr ih
   rw [if_neg c4] at hgo
   simp at hgo
theorem s_alone (i:Nat) (pf:Bool) (p:List AD) (hp:Dg p=true) (o:A4 (List Int)) (hT:tlP p o) (b0:o.a0.length≤1048576) (b1:o.a1.length≤1048576) (b2:o.a2.length≤1048576) (b3:o.a3.length≤1048576) (o':A4 (List Int)) (hgo:DT 17 p 0 ⟨0,0,0,0⟩ o=(o',true)):Aa (Lv ctx (i+1)) 21 [eW4 pf o,eIs true p]=some (.tup [oW4 o',bV true]):=by
 have hb:=fun (n:Nat) (h:n≤1048576)=>(by simp only [eq_iff_iff,iff_true];omega:((n:Int)*8≤140737488355328)=True)
 have h0:=hb _ b0
 have h1:=hb _ b1
 have h2:=hb _ b2
 have h3:=hb _ b3
 unfold Dg at hp
 simp only [Bool.and_eq_true,decide_eq_true_eq] at hp
 have hpp:∀ (j:Nat) (x:AD),p[j]?=some x→BK x=true∧(x.code=4→(j:Int)<x.b):=fun j x hx=>by
  have:=IH p _ 0 hp.1 j x hx
  exact ⟨this.1,fun h=>by have:=(this.2 h).1;omega⟩
 refine Af rfl 18 (by rfl) ?_
 delta c21
 have ho:=fun n kf q k' st Q u w=>gLs n [1,2,4,6,7,8] (fun s q=>evC ctx (Lv ctx i) (Aa (Lv ctx i)) kf a8f s (As [1,2,4,6,7,8] q)) q k' st Q u w
 cases pf
 all_goals
  simp +contextual -dsimp -implicitDefEqProofs (maxSteps:=5000000) only [ho,↓Ai (a8f.eq_1),h0,h1,h2,h3,List.replicate,List.length_append,List.length_cons,Nat.zero_add,List.nil_append,List.append_nil,go_sem,simprocAttr]
  refine l_alone i _ p hp.2 hpp o' _ _ _ _ ?_ 17 0 18 ⟨0,0,0,0⟩ o hgo (by omega) (by omega) hT
  intro rs
  simp +contextual -dsimp -implicitDefEqProofs (maxSteps:=5000000) only [go_sem,simprocAttr]
end Ve
