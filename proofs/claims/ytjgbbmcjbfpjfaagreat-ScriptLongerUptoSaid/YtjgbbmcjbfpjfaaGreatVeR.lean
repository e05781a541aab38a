/- Reading a row's arguments into the evaluator's values. -/
import Derived.Test.YtjgbbmcjbfpjfaaGreatVeC
import Derived.OpenShut
import Derived.ChangeArms
import Derived.Test.YtjgbbmcjbfpjfaaGreatVeM
import Derived.Test.YtjgbbmcjbfpjfaaGreatVeP
import Derived.Test.YtjgbbmcjbfpjfaaGreatProg
import Derived.KernelRfl
import Derived.ChangeBook
import Derived.ChangeSame
import Derived.RowKit
import Derived.RowKit3
import Derived.ChangeStays
import Derived.Test.YtjgbbmcjbfpjfaaGreatVeL
import Derived.Test.YtjgbbmcjbfpjfaaGreatVeN
import Derived.Test.YtjgbbmcjbfpjfaaGreatRows
import Derived.WalkKit
import Derived.ProofKit
import Derived.JoinedCond
set_option linter.all false
set_option linter.unusedSectionVars false
namespace Ve
open Go
def rdE (w:World):Env:=DR w (fun b=>b<w.heap.size) []
section
variable {H:Type} {enc:TypeId × Value→H} {P:Program} {w:World} {sp:Nat→Bool} {sm:DataW H→Prop}
structure FQ (sm:DataW H→Prop):Prop where
 sl:∀ e s,sm (.slice e s)→e.length≤1048576∧∀ d∈e,sm d
 ag:∀ ps,sm (.agg ps)→∀ d∈ps,sm d
def Enc (enc:TypeId × Value→H) (P:Program) (w:World) (sp:Nat→Bool) (sm:DataW H→Prop) (t:TypeId) (sz:Nat) (Pd:List V→Prop):Prop :=
 ∀ fuel cs x,DataW.trod enc P w 0 sp true fuel t cs=some x→sm x.1→∃ vs,Pd vs∧Rs (rdE w) .P vs cs []∧ED cs∧cs.length=sz
theorem vB {t:TypeId} {k:IntKind} (ht:P.underlying t=some (.int k)):Enc enc P w sp sm t 1 (fun vs=>∃ n,vs=[.lit (.int k n)]):=by
 intro fuel cs x h _
 obtain ⟨n,rfl,_,_⟩:=DataW.trod_int ht h
 exact ⟨_,⟨n,rfl⟩,.lit .nil,by intro y hy;simp at hy;subst hy;rfl,rfl⟩
def pL (enc:TypeId × Value→H) (P:Program) (w:World) (sp:Nat→Bool) (sm:DataW H→Prop) (fs:List (TypeId × Nat)) (off len:Nat) (Pd:List V→Prop):Prop :=
 ∀ fuel (cs:List Value) (xs:List (DataW H × List MemPlace)),xs.length=fs.length→(∀ (i:Nat) (f:TypeId × Nat),fs[i]?=some f→DataW.trod enc P w 0 sp true fuel f.1 ((cs.drop f.2).take (P.cellsOf f.1))=xs[i]?) →
  (∀ x∈xs,sm x.1)→∃ vs,Pd vs∧Rs (rdE w) .P vs ((cs.drop off).take len) []∧ED ((cs.drop off).take len)
theorem Dq {off:Nat}:pL enc P w sp sm [] off 0 (fun vs=>vs=[]):=by
 intro fuel cs xs _ _ _
 exact ⟨[],rfl,by rw [List.take_zero];exact .nil,by rw [List.take_zero];intro y hy;simp at hy⟩
theorem Aw {t:TypeId} {sz off len:Nat} {fs:List (TypeId × Nat)} {Pd Pd':List V→Prop} (h1:Enc enc P w sp sm t sz Pd) (hc:P.cellsOf t=sz) (h2:pL enc P w sp sm fs (off+sz) len Pd') :
  pL enc P w sp sm ((t,off)::fs) off (sz+len) (fun vs=>∃ a b,Pd a∧Pd' b∧vs=a++b):=by
 intro fuel cs xs hl hx hs
 cases xs with
 | nil=>simp at hl
 | cons x xs =>
  have e1:=hx 0 (t,off) rfl
  obtain ⟨va,p1,r1,o1,_⟩:=h1 fuel _ x (by simpa using e1) (hs x (by simp))
  obtain ⟨vb,p2,r2,o2⟩:=h2 fuel cs xs (by simpa using hl) (fun i f hf=>by simpa using hx (i+1) f (by simpa using hf)) (fun y hy=>hs y (by simp [hy]))
  simp only [hc] at r1 o1
  have e:(cs.drop off).take (sz+len)=(cs.drop off).take sz++(cs.drop (off+sz)).take len:=by rw [List.take_add,List.drop_drop]
  refine ⟨va++vb,⟨va,vb,p1,p2,rfl⟩,?_,?_⟩
  ·rw [e];simpa using r1.append r2
  ·rw [e];intro y hy
   rcases List.mem_append.1 hy with h | h
   ·exact o1 y h
   ·exact o2 y h
theorem Dd {t:TypeId} {fs:Array Field} {L:List (TypeId × Nat)} {sz:Nat} {Pd Pd':List V→Prop} (hsm:FQ sm) (ht:P.underlying t=some (.struct fs)) (hL:fs.toList.map (fun f=>(f.type,f.offset))=L) (hc:P.cellsOf t=sz)
  (h:pL enc P w sp sm L 0 sz Pd) (hw:∀ vs,Pd vs→Pd' vs):Enc enc P w sp sm t sz Pd':=by
 intro fuel cs x hx hs
 obtain ⟨xs,n,rfl,rfl,hl,hxl,hg⟩:=DataW.trod_struct ht hx
 subst hL
 obtain ⟨vs,p,r,o⟩:=h n cs xs (by simpa using hxl) (fun i f hf=>by
  simp only [List.getElem?_map,Array.getElem?_toList,Option.map_eq_some_iff] at hf
  obtain ⟨f',hf',rfl⟩:=hf
  exact hg i f' hf') (fun y hy=>hsm.ag _ hs _ (List.mem_map_of_mem hy))
 have e:(cs.drop 0).take sz=cs:=by rw [List.drop_zero,← hc,← hl,List.take_length]
 rw [e] at r o
 exact ⟨vs,hw _ p,r,o,by rw [hl,hc]⟩
theorem Mw {t e:TypeId} {n c:Nat} {sz:Nat} {L:List (TypeId × Nat)} {Pd Pd':List V→Prop} (hsm:FQ sm) (ht:P.underlying t=some (.array n e)) (hL:((List.range n).map fun i=>(e,i*c))=L) (he:P.cellsOf e=c) (hc:P.cellsOf t=sz)
  (h:pL enc P w sp sm L 0 sz Pd) (hw:∀ vs,Pd vs→Pd' vs):Enc enc P w sp sm t sz Pd':=by
 intro fuel cs x hx hs
 subst hL
 obtain ⟨xs,m,rfl,rfl,hl,hxl,hg⟩:=DataW.trod_array ht hx
 obtain ⟨vs,p,r,o⟩:=h m cs xs (by simpa using hxl) (fun i f hf=>by
  simp only [List.getElem?_map,Option.map_eq_some_iff] at hf
  obtain ⟨i',hi',rfl⟩:=hf
  obtain ⟨hi,rfl⟩:=List.getElem?_eq_some_iff.1 hi'
  simp only [List.length_range] at hi
  have:=hg i hi
  simpa [he] using this) (fun y hy=>hsm.ag _ hs _ (List.mem_map_of_mem hy))
 have e:(cs.drop 0).take sz=cs:=by rw [List.drop_zero,← hc,← hl,List.take_length]
 rw [e] at r o
 exact ⟨vs,hw _ p,r,o,by rw [hl,hc]⟩
theorem wS (a:Addr) (i j:Nat):(a.add i).add j=a.add (i+j):=by
 unfold Addr.add
 by_cases hi:i=0
 ·subst hi;simp
 ·by_cases hj:j=0
  ·subst hj;simp [hi]
  ·simp [hi,hj,Nat.add_assoc]
theorem oA {a:Addr} {n:Nat} {cs:List Value} (h:w.cells? 0 a n=some cs):cs.length=n∧∀ j u,cs[j]?=some u→w.cell? (a.add j)=some u:=by
 simp only [World.cells?,Nat.zero_le,if_true] at h
 have hl:=mapM_some_length h
 simp only [List.length_range] at hl
 refine ⟨hl,fun j u hj=>?_⟩
 have hlt:j<n:=by rw [← hl];exact (List.getElem?_eq_some_iff.1 hj).1
 have:=mapM_some_get h j j (by simp [hlt])
 rw [this,hj]
theorem Es {t e:TypeId} {c:Nat} {α:Type} {en:α→V} {Q:α→Prop} (hsm:FQ sm) (ht:P.underlying t=some (.slice e)) (he:P.cellsOf e=c) (hc:0<c)
  (h:Enc enc P w sp sm e c (fun vs=>∃ a,Q a∧vs=(en a).cells)) (hen:∀ a,(en a).cells.length=c):Enc enc P w sp sm t 1 (fun vs=>∃ l:List α,(∀ a∈l,Q a)∧l.length≤1048576∧vs=[.isl true false c (l.map en)]):=by
 intro fuel cs x hx hs
 rcases DataW.trod_slice ht hx with ⟨rfl,rfl⟩ | ⟨a,len,cap,elems,rest,n,rfl,rfl,rfl,_,hl,_,hlen,hel,_,_⟩
 ·exact ⟨_,⟨[],by simp,by simp,rfl⟩,.isl0 (fun _=>rfl) (by simp) .nil,by intro y hy;simp at hy;subst hy;rfl,rfl⟩
 ·obtain ⟨hb,hs⟩:=hsm.sl _ _ hs
  have key:∀ k,k≤len→∃ (l:List α) (ys:List Value),l.length=k∧(∀ a∈l,Q a)∧Rs (rdE w) .P (AG (l.map en)) ys []∧ED ys∧ys.length=k*c∧∀ (j:Nat) u,ys[j]?=some u→w.cell? (a.add j)=some u:=by
   intro k
   induction k with
   | zero=>intro _;exact ⟨[],[],rfl,by simp,.nil,by intro y hy;simp at hy,by simp,by simp⟩
   | succ k ih =>
    intro hk
    obtain ⟨l,ys,h1,h2,h3,h4,h5,h6⟩:=ih (by omega)
    have hk':=hel k (by omega)
    have hkl:k<elems.length:=by omega
    rw [List.getElem?_eq_getElem hkl,Option.bind_eq_some_iff] at hk'
    obtain ⟨ck,hck,htk⟩:=hk'
    rw [he] at hck
    obtain ⟨hckl,hcka⟩:=oA hck
    obtain ⟨vs,⟨u,hu,rfl⟩,r,o,_⟩:=h n ck _ htk (hs _ (List.mem_map_of_mem (List.getElem_mem hkl)))
    refine ⟨l++[u],ys++ck,by simp [h1],?_,?_,?_,?_,?_⟩
    ·intro a ha
     rcases List.mem_append.1 ha with h | h
     ·exact h2 a h
     ·simp at h;subst h;exact hu
    ·have:AG ((l++[u]).map en)=AG (l.map en)++(en u).cells:=by simp [AG]
     rw [this];simpa using h3.append r
    ·intro y hy
     rcases List.mem_append.1 hy with h | h
     ·exact h4 y h
     ·exact o y h
    ·simp [h5,hckl,Nat.add_mul]
    ·intro j v hj
     by_cases hlt:j<ys.length
     ·rw [List.getElem?_append_left hlt] at hj;exact h6 j v hj
     ·rw [List.getElem?_append_right (by omega)] at hj
      have:=hcka _ _ hj
      rw [wS] at this
      rwa [show k*c+(j - ys.length)=j from by omega] at this
  obtain ⟨l,ys,h1,h2,h3,h4,h5,h6⟩:=key len (Nat.le_refl _)
  refine ⟨_,⟨l,h2,by simp at hb;omega,rfl⟩,?_,by intro y hy;simp at hy;subst hy;rfl,rfl⟩
  by_cases h0:len=0
  ·subst h0
   have:l=[]:=List.eq_nil_of_length_eq_zero h1
   subst this
   exact .isl0 (fun _=>rfl) (by simp) .nil
  ·have hy0:∃ y,ys[0]?=some y:=by
    have:0<ys.length:=by rw [h5];exact Nat.mul_pos (by omega) hc
    exact ⟨ys[0],by simp [this]⟩
   obtain ⟨y,hy⟩:=hy0
   have hcell:=h6 0 y hy
   obtain ⟨b,off,spt⟩:=a
   have hsp:spt=none∧b<w.heap.size:=by
    simp only [Addr.add,if_true,World.cell?] at hcell
    split at hcell
    ·rename_i hh
     refine ⟨?_,(Array.getElem?_eq_some_iff.1 hh).1⟩
     cases spt with
     | none=>rfl
     | some _=>simp at hcell
    ·cases hcell
   obtain ⟨rfl,hbl⟩:=hsp
   have:=@Rs.isl (rdE w) .P true false (l.map en) b off cap c ys [] [] [] (by simp;omega) (fun _=>hbl) (by simp) (fun _=>rfl) (by intro e he;simp at he;obtain ⟨a,_,rfl⟩:=he;exact hen a) h3 (fun j v hj=>by have:=h6 j v hj;rwa [Addr.add_mid] at this) h4 .nil
   simpa [h1] using this
end
end Ve
namespace Ve
open Go
section
variable {H:Type} {enc:TypeId × Value→H} {w:World} {sp:Nat→Bool} {sm:DataW H→Prop}
theorem rdI:Enc enc Go.Proofs.Tryz.prog w sp sm 3 1 (fun vs=>∃ n,vs=[iV n]):=vB Go.Proofs.Tryz.underlying3
theorem rdW (hsm:FQ sm):Enc enc Go.Proofs.Tryz.prog w sp sm 107 3 (fun vs=>∃ a:Ap,True∧vs=(eW a).cells) :=
 Dd hsm Go.Proofs.Tryz.underlying107 (hL:=by kernel_rfl) (by kernel_rfl) (Aw (sz:=1) (len:=2) rdI (by kernel_rfl) (Aw (sz:=1) (len:=1) rdI (by kernel_rfl) (Aw (sz:=1) (len:=0) rdI (by kernel_rfl) Dq))) (by rintro vs ⟨_,_,⟨n0,rfl⟩,⟨_,_,⟨n1,rfl⟩,⟨_,_,⟨n2,rfl⟩,rfl,rfl⟩,rfl⟩,rfl⟩;exact ⟨⟨n0,n1,n2⟩,trivial,rfl⟩)
theorem rdIn (hsm:FQ sm):Enc enc Go.Proofs.Tryz.prog w sp sm 87 4 (fun vs=>∃ a:AI,True∧vs=(eI a).cells) :=
 Dd hsm Go.Proofs.Tryz.underlying87 (hL:=by kernel_rfl) (by kernel_rfl) (Aw (sz:=1) (len:=3) rdI (by kernel_rfl) (Aw (sz:=1) (len:=2) rdI (by kernel_rfl) (Aw (sz:=1) (len:=1) rdI (by kernel_rfl) (Aw (sz:=1) (len:=0) rdI (by kernel_rfl) Dq)))) (by rintro vs ⟨_,_,⟨n0,rfl⟩,⟨_,_,⟨n1,rfl⟩,⟨_,_,⟨n2,rfl⟩,⟨_,_,⟨n3,rfl⟩,rfl,rfl⟩,rfl⟩,rfl⟩,rfl⟩;exact ⟨⟨n0,n1,n2,n3⟩,trivial,rfl⟩)
theorem rdR (hsm:FQ sm):Enc enc Go.Proofs.Tryz.prog w sp sm 155 3 (fun vs=>∃ a:AN,True∧vs=(eR a).cells) :=
 Dd hsm Go.Proofs.Tryz.underlying155 (hL:=by kernel_rfl) (by kernel_rfl) (Aw (sz:=1) (len:=2) rdI (by kernel_rfl) (Aw (sz:=1) (len:=1) rdI (by kernel_rfl) (Aw (sz:=1) (len:=0) rdI (by kernel_rfl) Dq))) (by rintro vs ⟨_,_,⟨n0,rfl⟩,⟨_,_,⟨n1,rfl⟩,⟨_,_,⟨n2,rfl⟩,rfl,rfl⟩,rfl⟩,rfl⟩;exact ⟨⟨n0,n1,n2⟩,trivial,rfl⟩)
theorem rdWr (hsm:FQ sm):Enc enc Go.Proofs.Tryz.prog w sp sm 159 3 (fun vs=>∃ a:Ao,True∧vs=(eWr a).cells) :=
 Dd hsm Go.Proofs.Tryz.underlying159 (hL:=by kernel_rfl) (by kernel_rfl) (Aw (sz:=1) (len:=2) rdI (by kernel_rfl) (Aw (sz:=1) (len:=1) rdI (by kernel_rfl) (Aw (sz:=1) (len:=0) rdI (by kernel_rfl) Dq))) (by rintro vs ⟨_,_,⟨n0,rfl⟩,⟨_,_,⟨n1,rfl⟩,⟨_,_,⟨n2,rfl⟩,rfl,rfl⟩,rfl⟩,rfl⟩;exact ⟨⟨n0,n1,n2⟩,trivial,rfl⟩)
theorem rdEv (hsm:FQ sm):Enc enc Go.Proofs.Tryz.prog w sp sm 72 4 (fun vs=>∃ a:AY,True∧vs=(eE a).cells) :=
 Dd hsm Go.Proofs.Tryz.underlying72 (hL:=by kernel_rfl) (by kernel_rfl) (Aw (sz:=1) (len:=3) rdI (by kernel_rfl) (Aw (sz:=1) (len:=2) rdI (by kernel_rfl) (Aw (sz:=1) (len:=1) rdI (by kernel_rfl) (Aw (sz:=1) (len:=0) rdI (by kernel_rfl) Dq)))) (by rintro vs ⟨_,_,⟨n0,rfl⟩,⟨_,_,⟨n1,rfl⟩,⟨_,_,⟨n2,rfl⟩,⟨_,_,⟨n3,rfl⟩,rfl,rfl⟩,rfl⟩,rfl⟩,rfl⟩;exact ⟨⟨n0,n1,n2,n3⟩,trivial,rfl⟩)
theorem rO (hsm:FQ sm):Enc enc Go.Proofs.Tryz.prog w sp sm 28 1 (fun vs=>∃ l:List Ap,(∀ a∈l,(fun _=>True) a)∧l.length≤1048576∧vs=[.isl true false 3 (l.map eW)]):=Es hsm Go.Proofs.Tryz.underlying28 (by kernel_rfl) (by decide) (rdW hsm) (fun _=>rfl)
theorem xA (hsm:FQ sm):Enc enc Go.Proofs.Tryz.prog w sp sm 59 1 (fun vs=>∃ l:List AI,(∀ a∈l,(fun _=>True) a)∧l.length≤1048576∧vs=[.isl true false 4 (l.map eI)]):=Es hsm Go.Proofs.Tryz.underlying59 (by kernel_rfl) (by decide) (rdIn hsm) (fun _=>rfl)
theorem rdRs (hsm:FQ sm):Enc enc Go.Proofs.Tryz.prog w sp sm 67 1 (fun vs=>∃ l:List AN,(∀ a∈l,(fun _=>True) a)∧l.length≤1048576∧vs=[.isl true false 3 (l.map eR)]):=Es hsm Go.Proofs.Tryz.underlying67 (by kernel_rfl) (by decide) (rdR hsm) (fun _=>rfl)
theorem a8w (hsm:FQ sm):Enc enc Go.Proofs.Tryz.prog w sp sm 68 1 (fun vs=>∃ l:List Ao,(∀ a∈l,(fun _=>True) a)∧l.length≤1048576∧vs=[.isl true false 3 (l.map eWr)]):=Es hsm Go.Proofs.Tryz.underlying68 (by kernel_rfl) (by decide) (rdWr hsm) (fun _=>rfl)
theorem rdEs (hsm:FQ sm):Enc enc Go.Proofs.Tryz.prog w sp sm 32 1 (fun vs=>∃ l:List AY,(∀ a∈l,(fun _=>True) a)∧l.length≤1048576∧vs=[.isl true false 4 (l.map eE)]):=Es hsm Go.Proofs.Tryz.underlying32 (by kernel_rfl) (by decide) (rdEv hsm) (fun _=>rfl)
theorem rdA (hsm:FQ sm):Enc enc Go.Proofs.Tryz.prog w sp sm 30 4 (fun vs=>∃ a:A4 Int,vs=[iV a.a0,iV a.a1,iV a.a2,iV a.a3]) :=
 Mw (c:=1) hsm Go.Proofs.Tryz.underlying30 (hL:=by kernel_rfl) (by kernel_rfl) (by kernel_rfl) (Aw (sz:=1) (len:=3) rdI (by kernel_rfl) (Aw (sz:=1) (len:=2) rdI (by kernel_rfl) (Aw (sz:=1) (len:=1) rdI (by kernel_rfl) (Aw (sz:=1) (len:=0) rdI (by kernel_rfl) Dq)))) (by rintro vs ⟨_,_,⟨n0,rfl⟩,⟨_,_,⟨n1,rfl⟩,⟨_,_,⟨n2,rfl⟩,⟨_,_,⟨n3,rfl⟩,rfl,rfl⟩,rfl⟩,rfl⟩,rfl⟩;exact ⟨⟨n0,n1,n2,n3⟩,rfl⟩)
theorem rdAW (hsm:FQ sm):Enc enc Go.Proofs.Tryz.prog w sp sm 29 4 (fun vs=>∃ a:A4 (List Ap),(a.a0.length≤1048576∧a.a1.length≤1048576∧a.a2.length≤1048576∧a.a3.length≤1048576)∧vs=[eWs true a.a0,eWs true a.a1,eWs true a.a2,eWs true a.a3]) :=
 Mw (c:=1) hsm Go.Proofs.Tryz.underlying29 (hL:=by kernel_rfl) (by kernel_rfl) (by kernel_rfl) (Aw (sz:=1) (len:=3) (rO hsm) (by kernel_rfl) (Aw (sz:=1) (len:=2) (rO hsm) (by kernel_rfl) (Aw (sz:=1) (len:=1) (rO hsm) (by kernel_rfl) (Aw (sz:=1) (len:=0) (rO hsm) (by kernel_rfl) Dq)))) (by rintro vs ⟨_,_,⟨l0,_,h0,rfl⟩,⟨_,_,⟨l1,_,h1,rfl⟩,⟨_,_,⟨l2,_,h2,rfl⟩,⟨_,_,⟨l3,_,h3,rfl⟩,rfl,rfl⟩,rfl⟩,rfl⟩,rfl⟩;exact ⟨⟨l0,l1,l2,l3⟩,⟨h0,h1,h2,h3⟩,rfl⟩)
theorem rdS (hsm:FQ sm):Enc enc Go.Proofs.Tryz.prog w sp sm 70 17 (fun vs=>∃ a:Ai,SmS a∧vs=(eS true a).cells) :=
 Dd hsm Go.Proofs.Tryz.underlying70 (hL:=by kernel_rfl) (by kernel_rfl) (Aw (sz:=1) (len:=16) rdI (by kernel_rfl) (Aw (sz:=1) (len:=15) rdI (by kernel_rfl) (Aw (sz:=1) (len:=14) rdI (by kernel_rfl) (Aw (sz:=1) (len:=13) (xA hsm) (by kernel_rfl) (Aw (sz:=1) (len:=12) rdI (by kernel_rfl) (Aw (sz:=1) (len:=11) rdI (by kernel_rfl) (Aw (sz:=4) (len:=7) (rdA hsm) (by kernel_rfl) (Aw (sz:=1) (len:=6) (rdRs hsm) (by kernel_rfl) (Aw (sz:=1) (len:=5) (a8w hsm) (by kernel_rfl) (Aw (sz:=1) (len:=4) rdI (by kernel_rfl) (Aw (sz:=1) (len:=3) rdI (by kernel_rfl) (Aw (sz:=1) (len:=2) rdI (by kernel_rfl) (Aw (sz:=1) (len:=1) rdI (by kernel_rfl) (Aw (sz:=1) (len:=0) rdI (by kernel_rfl) Dq)))))))))))))) (by rintro vs ⟨_,_,⟨id,rfl⟩,⟨_,_,⟨label,rfl⟩,⟨_,_,⟨clear,rfl⟩,⟨_,_,⟨prog,_,h1,rfl⟩,⟨_,_,⟨step,rfl⟩,⟨_,_,⟨pc,rfl⟩,⟨_,_,⟨regs,rfl⟩,⟨_,_,⟨reads,_,h2,rfl⟩,⟨_,_,⟨writes,_,h3,rfl⟩,⟨_,_,⟨at_,rfl⟩,⟨_,_,⟨stamp,rfl⟩,⟨_,_,⟨tries,rfl⟩,⟨_,_,⟨result,rfl⟩,⟨_,_,⟨told,rfl⟩,rfl,rfl⟩,rfl⟩,rfl⟩,rfl⟩,rfl⟩,rfl⟩,rfl⟩,rfl⟩,rfl⟩,rfl⟩,rfl⟩,rfl⟩,rfl⟩,rfl⟩;exact ⟨⟨id,label,clear,prog,step,pc,regs,reads,writes,at_,stamp,tries,result,told⟩,⟨by simp only;omega,by simp only;omega,by simp only;omega⟩,rfl⟩)
theorem rdSs (hsm:FQ sm):Enc enc Go.Proofs.Tryz.prog w sp sm 31 1 (fun vs=>∃ l:List Ai,(∀ a∈l,(fun a=>SmS a) a)∧l.length≤1048576∧vs=[.isl true false 17 (l.map (eS true))]):=Es hsm Go.Proofs.Tryz.underlying31 (by kernel_rfl) (by decide) (rdS hsm) (fun _=>rfl)
theorem rdM (hsm:FQ sm):Enc enc Go.Proofs.Tryz.prog w sp sm 34 11 (fun vs=>∃ m:Ad,SmM m∧vs=(eM true m).cells) :=
 Dd hsm Go.Proofs.Tryz.underlying34 (hL:=by kernel_rfl) (by kernel_rfl) (Aw (sz:=4) (len:=7) (rdAW hsm) (by kernel_rfl) (Aw (sz:=4) (len:=3) (rdA hsm) (by kernel_rfl) (Aw (sz:=1) (len:=2) rdI (by kernel_rfl) (Aw (sz:=1) (len:=1) (rdSs hsm) (by kernel_rfl) (Aw (sz:=1) (len:=0) (rdEs hsm) (by kernel_rfl) Dq))))) (by rintro vs ⟨_,_,⟨words,⟨h0,h1,h2,h3⟩,rfl⟩,⟨_,_,⟨clocks,rfl⟩,⟨_,_,⟨ceil,rfl⟩,⟨_,_,⟨sess,hs,h4,rfl⟩,⟨_,_,⟨trace,_,h5,rfl⟩,rfl,rfl⟩,rfl⟩,rfl⟩,rfl⟩,rfl⟩;exact ⟨⟨words,clocks,ceil,sess,trace⟩,⟨by simp only;omega,by simp only;omega,by simp only;omega,by simp only;omega,by simp only;omega,by simp only;omega,hs⟩,rfl⟩)
theorem rdI2 (_:FQ sm):Enc enc Go.Proofs.Tryz.prog w sp sm 3 1 (fun vs=>∃ a:Int,True∧vs=(iV a).cells):=fun fuel cs x h hs=>by obtain ⟨vs,⟨n,rfl⟩,r⟩:=rdI fuel cs x h hs;exact ⟨_,⟨n,trivial,rfl⟩,r⟩
theorem hZ (hsm:FQ sm):Enc enc Go.Proofs.Tryz.prog w sp sm 22 1 (fun vs=>∃ l:List Int,(∀ a∈l,(fun _=>True) a)∧l.length≤1048576∧vs=[.isl true false 1 (l.map iV)]):=Es hsm Go.Proofs.Tryz.underlying22 (by kernel_rfl) (by decide) (rdI2 hsm) (fun _=>rfl)
theorem rdSl (hsm:FQ sm):Enc enc Go.Proofs.Tryz.prog w sp sm 63 2 (fun vs=>∃ a:AR,True∧vs=(eSl a).cells) :=
 Dd hsm Go.Proofs.Tryz.underlying63 (hL:=by kernel_rfl) (by kernel_rfl) (Aw (sz:=1) (len:=1) rdI (by kernel_rfl) (Aw (sz:=1) (len:=0) rdI (by kernel_rfl) Dq)) (by rintro vs ⟨_,_,⟨n0,rfl⟩,⟨_,_,⟨n1,rfl⟩,rfl,rfl⟩,rfl⟩;exact ⟨⟨n0,n1⟩,trivial,rfl⟩)
theorem a8y (hsm:FQ sm):Enc enc Go.Proofs.Tryz.prog w sp sm 25 1 (fun vs=>∃ l:List AR,(∀ a∈l,(fun _=>True) a)∧l.length≤1048576∧vs=[.isl true false 2 (l.map eSl)]):=Es hsm Go.Proofs.Tryz.underlying25 (by kernel_rfl) (by decide) (rdSl hsm) (fun _=>rfl)
theorem rdAV (hsm:FQ sm):Enc enc Go.Proofs.Tryz.prog w sp sm 23 4 (fun vs=>∃ a:A4 (List Int),(a.a0.length≤1048576∧a.a1.length≤1048576∧a.a2.length≤1048576∧a.a3.length≤1048576)∧vs=[eNs true a.a0,eNs true a.a1,eNs true a.a2,eNs true a.a3]) :=
 Mw (c:=1) hsm Go.Proofs.Tryz.underlying23 (hL:=by kernel_rfl) (by kernel_rfl) (by kernel_rfl) (Aw (sz:=1) (len:=3) (hZ hsm) (by kernel_rfl) (Aw (sz:=1) (len:=2) (hZ hsm) (by kernel_rfl) (Aw (sz:=1) (len:=1) (hZ hsm) (by kernel_rfl) (Aw (sz:=1) (len:=0) (hZ hsm) (by kernel_rfl) Dq)))) (by rintro vs ⟨_,_,⟨l0,_,h0,rfl⟩,⟨_,_,⟨l1,_,h1,rfl⟩,⟨_,_,⟨l2,_,h2,rfl⟩,⟨_,_,⟨l3,_,h3,rfl⟩,rfl,rfl⟩,rfl⟩,rfl⟩,rfl⟩;exact ⟨⟨l0,l1,l2,l3⟩,⟨h0,h1,h2,h3⟩,rfl⟩)
theorem rdSt (hsm:FQ sm):Enc enc Go.Proofs.Tryz.prog w sp sm 61 4 (fun vs=>∃ a:Bk,a.prog.length≤1048576∧vs=(eSt true a).cells) :=
 Dd hsm Go.Proofs.Tryz.underlying61 (hL:=by kernel_rfl) (by kernel_rfl) (Aw (sz:=1) (len:=3) rdI (by kernel_rfl) (Aw (sz:=1) (len:=2) rdI (by kernel_rfl) (Aw (sz:=1) (len:=1) rdI (by kernel_rfl) (Aw (sz:=1) (len:=0) (xA hsm) (by kernel_rfl) Dq)))) (by rintro vs ⟨_,_,⟨id,rfl⟩,⟨_,_,⟨label,rfl⟩,⟨_,_,⟨clear,rfl⟩,⟨_,_,⟨prog,_,h1,rfl⟩,rfl,rfl⟩,rfl⟩,rfl⟩,rfl⟩;exact ⟨⟨id,label,clear,prog⟩,h1,rfl⟩)
theorem a8x (hsm:FQ sm):Enc enc Go.Proofs.Tryz.prog w sp sm 24 1 (fun vs=>∃ l:List Bk,(∀ a∈l,(fun a=>a.prog.length≤1048576) a)∧l.length≤1048576∧vs=[.isl true false 4 (l.map (eSt true))]):=Es hsm Go.Proofs.Tryz.underlying24 (by kernel_rfl) (by decide) (rdSt hsm) (fun _=>rfl)
theorem rdSc (hsm:FQ sm):Enc enc Go.Proofs.Tryz.prog w sp sm 27 7 (fun vs=>∃ s:Aq,CK s∧vs=(eSc true s).cells) :=
 Dd hsm Go.Proofs.Tryz.underlying27 (hL:=by kernel_rfl) (by kernel_rfl) (Aw (sz:=4) (len:=3) (rdAV hsm) (by kernel_rfl) (Aw (sz:=1) (len:=2) rdI (by kernel_rfl) (Aw (sz:=1) (len:=1) (a8x hsm) (by kernel_rfl) (Aw (sz:=1) (len:=0) (a8y hsm) (by kernel_rfl) Dq)))) (by rintro vs ⟨_,_,⟨words,⟨h0,h1,h2,h3⟩,rfl⟩,⟨_,_,⟨ceil,rfl⟩,⟨_,_,⟨starts,hp,h4,rfl⟩,⟨_,_,⟨slots,_,h5,rfl⟩,rfl,rfl⟩,rfl⟩,rfl⟩,rfl⟩;exact ⟨⟨words,ceil,starts,slots⟩,⟨h0,h1,h2,h3,h4,h5,hp⟩,rfl⟩)
end
end Ve
namespace Ve
open Go Go.ChangeShapes Go.WideShapes Go.RowKit
section
variable {H:Type} {enc:TypeId × Value→H} {P:Program}
theorem Kp {w w':World} {sp':Nat→Bool} (hl:laidOutB P=true):∀ {ts:List TypeId} {vs:List Value} {ds:List (DataW H)} {ps:List MemPlace},(∀ t∈ts,P.readableRec t=true∧t<P.types.size) →
  DataW.TrodAll enc P w 0 (fun _=>true) true ts vs ds ps→(∀ p∈ps,w.sameAt w' p)→(∀ p∈ps,sp' p.block=true)→DataW.TrodAll enc P w' 0 sp' true ts vs ds ps
 | [],[],[],ps,_,h,_,_=>h
 | t::ts,v::vs,d::ds,ps,hr,h,h1,h2=>by
  obtain ⟨p,q,⟨n,hn⟩,ha,rfl⟩:=h
  obtain ⟨r1,r2⟩:=hr t (by simp)
  exact ⟨p,q,⟨n,DataW.trod_stays (kids_book hl r1) (book_sized r1) (fun h=>by cases h) ⟨r2,book_self t⟩ hn (fun x hx=>h1 x (by simp at hx;simp [hx])) (fun x hx=>h2 x (by simp at hx;simp [hx]))⟩,
   Kp hl (fun t ht=>hr t (by simp [ht])) ha (fun x hx=>h1 x (by simp [hx])) (fun x hx=>h2 x (by simp [hx])),rfl⟩
 | [],_::_,_,_,_,h,_,_=>by simp [DataW.TrodAll] at h
 | [],[],_::_,_,_,h,_,_=>by simp [DataW.TrodAll] at h
 | _::_,[],_,_,_,h,_,_=>by simp [DataW.TrodAll] at h
 | _::_,_::_,[],_,_,h,_,_=>by simp [DataW.TrodAll] at h
theorem row_post {f:Func} {s:ChangeSpec} {apart fresh handsOn again:Bool} {W W':World} {args:Array Value} {ds gs:List (DataW H)} {FP:List MemPlace} {tb:TypeId}
  (hl:laidOutB P=true) (hr:∀ t∈f.params.toList,P.readableRec t=true∧t<P.types.size) (hv:s.vars=[]) (hfn:s.fn H ds={ results:=[.lit (.bool true)],args:=ds }) (hrt:f.resultTypes=#[tb]) (hb:P.underlying tb=some .bool)
  (hW:DataW.Whole enc P f.params.toList s.vars apart W args.toList ds gs FP) (hkeep:∀ b,b<W.heap.size→W'.heap[b]?=W.heap[b]?) (hos:W'.os=W.os) (hout:W'.output=W.output) :
  s.post enc P f apart fresh handsOn again W args (.bool true) W':=by
 have hlt:∀ p∈FP,p.block<W.heap.size:=fun p hp=>hW.lt p hp
 have hW0:=hW
 obtain ⟨p,q,hA,hV,rfl,hz,hn⟩:=hW
 rw [hv] at hV
 obtain ⟨rfl,rfl⟩:=trodVars_none hV
 have hsame:∀ x∈p,W.sameAt W' x:=by
  intro x hx
  have:=hlt x (by simp [hx])
  cases x with
  | cell b off=>simp only [World.sameAt,World.cell?];rw [hkeep b this]
  | map b=>exact hkeep b this
 have hargs:∀ sp:Nat→Bool,(∀ x∈p,sp x.block=true)→DataW.TrodAll enc P W' 0 sp true f.params.toList args.toList ds p:=fun sp hsp=>Kp hl hr hA hsame hsp
 have hres:∀ (b:Nat) (sp:Nat→Bool) (hd:Bool),DataW.TrodAll enc P W' b sp hd f.resultTypes.toList ((Value.bool true).resultList f.resultTypes.size) [.lit (.bool true)] []:=by
  intro b sp hd
  rw [hrt]
  exact trodAll_mk1 (shut_bool hb true)
 have hk:W.keptBut W' (fun _=>False):=⟨hos,hout,fun i hi=>by
  rw [hkeep i hi]
  cases h:W.heap[i]? with
  | none=>rfl
  | some o=>cases o<;>simp⟩
 have hfs:s.fn H (ds++[])={ results:=[.lit (.bool true)],args:=ds }:=by rw [List.append_nil];exact hfn
 have hvars:∀ sp,DataW.TrodVars enc P W' sp s.vars ([]:List (DataW H)) []:=by intro sp;rw [hv];rfl
 refine ⟨ds,[],p++[],[],p,[],hW0,?_,?_,?_,World.keptBut_mono (fun x hx=>hx.elim) hk,fun _=>?_⟩
 ·rw [hfs];exact hres _ _ _
 ·rw [hfs];exact hargs _ (fun x hx=>by simpa using hlt x (by simp [hx]))
 ·rw [hfs];exact hvars _
 ·refine ⟨ok_one hrt rfl (okWide_bool_mk hb true),_,_,([]++p)++[],⟨[]++p,[],trodAll_append (hargs _ (fun _ _=>rfl)) (hres _ _ _),hvars _,rfl,?_,?_⟩,?_⟩
  ·intro b off hp
   have hb:MemPlace.cell b off∈p++[]:=by simpa using hp
   have:=hz b off hb
   have hlt':=hlt _ hb
   simp only [World.frozen?] at this ⊢
   rw [hkeep b hlt']
   exact this
  ·intro ha
   simpa using hn ha
  ·intro x hx _
   simpa using hx
theorem row_call {Pr:Program} {C:Ctx} (T:Tie Pr C) {i:Nat} {g:FuncId} {xs:List V} (hr:Aa (Lv C i) g xs=some (.lit (.bool true))) {W:World} {args:List Value} (h1:Rs (rdE W) .P xs args []) :
  Calls Pr g args.toArray W fun e W'=>e=.returned (.bool true)∧(∀ b,b<W.heap.size→W'.heap[b]?=W.heap[b]?)∧W'.os=W.os∧W'.output=W.output:=by
 refine (T.call hr (F:=fun b=>b<W.heap.size) (f:=[]) (h1.mode (.inl rfl)) List.nodup_nil (by simp) (fun b hb=>⟨hb,by simp⟩)).mono fun e W' he=>?_
 cases e with
 | panicked=>exact he.elim
 | outgrown=>exact he.elim
 | returned y =>
  obtain ⟨F',f',h,_,_,_,_,h2,_,h3,_,h4⟩:=he
  obtain ⟨rfl,_⟩:=BX h
  exact ⟨rfl,fun b hb=>h2 b hb (by simp),h3,h4⟩
end
end Ve
namespace Go.Proofs.YtjgbbmcjbfpjfaaGreat
open Go Go.ChangeShapes Go.WideShapes Go.ChangeAt Go.RowKit Ve
set_option maxRecDepth 100000
theorem b1l {H:Type} (d:DataW H):1≤Rows.uptoBulk d:=by
 cases d with
 | lit l=>cases l<;>simp [Rows.uptoBulk]
 | _=>simp [Rows.uptoBulk]
theorem YK {H:Type} {d:DataW H} {l:List (DataW H)} (h:d∈l):Rows.uptoBulk d≤Rows.uptoBulkAll l:=by
 induction l with
 | nil=>cases h
 | cons x r ih =>
  simp only [Rows.uptoBulkAll]
  cases List.mem_cons.1 h with
  | inl e=>subst e;omega
  | inr e=>have:=ih e;omega
theorem b1m {H:Type} (l:List (DataW H)):l.length≤Rows.uptoBulkAll l:=by
 induction l with
 | nil=>simp [Rows.uptoBulkAll]
 | cons x r ih=>have:=b1l x;simp only [Rows.uptoBulkAll,List.length_cons];omega
def smD {H:Type} (d:DataW H):Prop:=Rows.uptoBulk d≤1048576
theorem smOk {H:Type}:FQ (smD (H:=H)):=by
 refine ⟨fun e s h=>?_,fun ps h d hd=>?_⟩
 ·simp only [smD,Rows.uptoBulk] at h
  refine ⟨by have:=b1m e;omega,fun d hd=>?_⟩
  have:=YK hd
  simp only [smD];omega
 ·simp only [smD,Rows.uptoBulk] at h ⊢
  have:=YK hd
  omega
theorem small_all {H:Type} {ds:List (DataW H)} (hk:Rows.uptoSmall H ds=true):∀ d∈ds,smD d:=by
 intro d hd
 have h:Rows.uptoBulkAll ds≤1048576:=by simpa [Rows.uptoSmall] using hk
 have:=YK hd
 simp only [smD];omega
theorem argM {H:Type} {enc:TypeId × Value→H} {w:World} {sp:Nat→Bool} {r:Reach} {b0:Nat} {v:Value} {d:DataW H} {p:List MemPlace} (hval:Value.okWide Tryz.prog w r b0 34 v) (hd:DataW.Trod enc Tryz.prog w 0 sp true 34 v d p) (hs:smD d) :
  ∃ m:Ad,SmM m∧R1 (rdE w) .P (eM true m) v []:=by
 obtain ⟨fuel,h⟩:=hd
 have hv:∃ cs,v=.agg cs:=by
  simp only [Value.okWide,Tryz.underlying34] at hval
  obtain ⟨cs,hv,_⟩:=hval
  exact ⟨cs,hv⟩
 obtain ⟨cs,rfl⟩:=hv
 obtain ⟨vs,⟨m,hm,rfl⟩,hr,_,_⟩:=rdM smOk fuel _ _ h hs
 have e:(Value.agg cs).cells.toList=cs.toList:=by simp [Value.cells]
 rw [e] at hr
 exact ⟨m,hm,Rs.agg (f:=[]) hr .nil⟩
theorem argV {H:Type} {enc:TypeId × Value→H} {w:World} {sp:Nat→Bool} {r:Reach} {b0:Nat} {v:Value} {d:DataW H} {p:List MemPlace} (hval:Value.okWide Tryz.prog w r b0 22 v) (hd:DataW.Trod enc Tryz.prog w 0 sp true 22 v d p) (hs:smD d) :
  ∃ l:List Int,l.length≤1048576∧R1 (rdE w) .P (.isl true false 1 (l.map iV)) v []:=by
 obtain ⟨fuel,h⟩:=hd
 have hv:v.cells.toList=[v]:=by
  simp only [Value.okWide,Tryz.underlying22,Cell.okWide] at hval
  cases v with
  | agg cs=>simp [Cell.ok,Tryz.underlying22] at hval
  | _=>simp [Value.cells]
 obtain ⟨vs,⟨l,_,hl,rfl⟩,hr,_,_⟩:=hZ smOk fuel _ _ h hs
 rw [hv] at hr
 exact ⟨l,hl,hr⟩
theorem argS {H:Type} {enc:TypeId × Value→H} {w:World} {sp:Nat→Bool} {r:Reach} {b0:Nat} {v:Value} {d:DataW H} {p:List MemPlace} (hval:Value.okWide Tryz.prog w r b0 27 v) (hd:DataW.Trod enc Tryz.prog w 0 sp true 27 v d p) (hs:smD d) :
  ∃ a:Aq,CK a∧R1 (rdE w) .P (eSc true a) v []:=by
 obtain ⟨fuel,h⟩:=hd
 have hv:∃ cs,v=.agg cs:=by
  simp only [Value.okWide,Tryz.underlying27] at hval
  obtain ⟨cs,hv,_⟩:=hval
  exact ⟨cs,hv⟩
 obtain ⟨cs,rfl⟩:=hv
 obtain ⟨vs,⟨a,ha,rfl⟩,hr,_,_⟩:=rdSc smOk fuel _ _ h hs
 have e:(Value.agg cs).cells.toList=cs.toList:=by simp [Value.cells]
 rw [e] at hr
 exact ⟨a,ha,Rs.agg (f:=[]) hr .nil⟩
theorem laidOk:laidOutB Tryz.prog=true:=by kernel_rfl
theorem own:ownKnob Tryz.prog.godebug=none:=by kernel_rfl
end Go.Proofs.YtjgbbmcjbfpjfaaGreat
