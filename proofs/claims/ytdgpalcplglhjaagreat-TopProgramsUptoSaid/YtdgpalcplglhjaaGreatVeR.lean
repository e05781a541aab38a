/- Reading a row's arguments into the evaluator's values. -/
import Derived.Test.YtdgpalcplglhjaaGreatVeC
import Derived.OpenShut
import Derived.ChangeArms
import Derived.Test.YtdgpalcplglhjaaGreatVeM
import Derived.Test.YtdgpalcplglhjaaGreatVeP
import Derived.Test.YtdgpalcplglhjaaGreatProg
import Derived.KernelRfl
import Derived.ChangeBook
import Derived.ChangeSame
import Derived.RowKit
import Derived.RowKit3
import Derived.ChangeStays
import Derived.Test.YtdgpalcplglhjaaGreatVeL
import Derived.Test.YtdgpalcplglhjaaGreatVeN
import Derived.Test.YtdgpalcplglhjaaGreatRows
import Derived.WalkKit
import Derived.ProofKit
import Derived.JoinedCond
set_option linter.all false
set_option linter.unusedSectionVars false
namespace Ve
open Go
def rdE (w:World):Env:=DC w (fun b=>b<w.heap.size) []
section
variable {H:Type} {enc:TypeId × Value→H} {P:Program} {w:World} {sp:Nat→Bool} {sm:DataW H→Prop}
structure KO (sm:DataW H→Prop):Prop where
 sl:∀ e s,sm (.slice e s)→e.length≤1048576∧∀ d∈e,sm d
 ag:∀ ps,sm (.agg ps)→∀ d∈ps,sm d
def Enc (enc:TypeId × Value→H) (P:Program) (w:World) (sp:Nat→Bool) (sm:DataW H→Prop) (t:TypeId) (sz:Nat) (Pd:List V→Prop):Prop :=
 ∀ fuel cs x,DataW.trod enc P w 0 sp true fuel t cs=some x→sm x.1→∃ vs,Pd vs∧Rs (rdE w) .P vs cs []∧Ek cs∧cs.length=sz
theorem mV {t:TypeId} {k:IntKind} (ht:P.underlying t=some (.int k)):Enc enc P w sp sm t 1 (fun vs=>∃ n,vs=[.lit (.int k n)]):=by
 intro fuel cs x h _
 obtain ⟨n,rfl,_,_⟩:=DataW.trod_int ht h
 exact ⟨_,⟨n,rfl⟩,.lit .nil,by intro y hy;simp at hy;subst hy;rfl,rfl⟩
def fX (enc:TypeId × Value→H) (P:Program) (w:World) (sp:Nat→Bool) (sm:DataW H→Prop) (fs:List (TypeId × Nat)) (off len:Nat) (Pd:List V→Prop):Prop :=
 ∀ fuel (cs:List Value) (xs:List (DataW H × List MemPlace)),xs.length=fs.length→(∀ (i:Nat) (f:TypeId × Nat),fs[i]?=some f→DataW.trod enc P w 0 sp true fuel f.1 ((cs.drop f.2).take (P.cellsOf f.1))=xs[i]?) →
  (∀ x∈xs,sm x.1)→∃ vs,Pd vs∧Rs (rdE w) .P vs ((cs.drop off).take len) []∧Ek ((cs.drop off).take len)
theorem IL {off:Nat}:fX enc P w sp sm [] off 0 (fun vs=>vs=[]):=by
 intro fuel cs xs _ _ _
 exact ⟨[],rfl,by rw [List.take_zero];exact .nil,by rw [List.take_zero];intro y hy;simp at hy⟩
theorem BD {t:TypeId} {sz off len:Nat} {fs:List (TypeId × Nat)} {Pd Pd':List V→Prop} (h1:Enc enc P w sp sm t sz Pd) (hc:P.cellsOf t=sz) (h2:fX enc P w sp sm fs (off+sz) len Pd') :
  fX enc P w sp sm ((t,off)::fs) off (sz+len) (fun vs=>∃ a b,Pd a∧Pd' b∧vs=a++b):=by
 intro fuel cs xs hl hx hs
 cases xs with
 | nil=>simp at hl
 | cons x xs =>
  have e1:=hx 0 (t,off) rfl
  obtain ⟨va,p1,r1,o1,_⟩:=h1 fuel _ x (by simpa using e1) (hs x (by simp))
  obtain ⟨vb,p2,r2,o2⟩:=h2 fuel cs xs (by simpa using hl) (fun i f hf=>by simpa using hx (i+1) f (by simpa using hf)) (fun y hy=>hs y (by simp [hy]))
  simp only [hc] at r1 o1
  have e:(cs.drop off).take (sz+len)=(cs.drop off).take sz++(cs.drop (off+sz)).take len:=by rw [List.take_add,List.drop_drop]
  refine ⟨va++vb,⟨va,vb,p1,p2,rfl⟩,?_,?_⟩
  ·rw [e];simpa using r1.append r2
  ·rw [e];intro y hy
   rcases List.mem_append.1 hy with h | h
   ·exact o1 y h
   ·exact o2 y h
theorem HV {t:TypeId} {fs:Array Field} {L:List (TypeId × Nat)} {sz:Nat} {Pd Pd':List V→Prop} (hsm:KO sm) (ht:P.underlying t=some (.struct fs)) (hL:fs.toList.map (fun f=>(f.type,f.offset))=L) (hc:P.cellsOf t=sz)
  (h:fX enc P w sp sm L 0 sz Pd) (hw:∀ vs,Pd vs→Pd' vs):Enc enc P w sp sm t sz Pd':=by
 intro fuel cs x hx hs
 obtain ⟨xs,n,rfl,rfl,hl,hxl,hg⟩:=DataW.trod_struct ht hx
 subst hL
 obtain ⟨vs,p,r,o⟩:=h n cs xs (by simpa using hxl) (fun i f hf=>by
  simp only [List.getElem?_map,Array.getElem?_toList,Option.map_eq_some_iff] at hf
  obtain ⟨f',hf',rfl⟩:=hf
  exact hg i f' hf') (fun y hy=>hsm.ag _ hs _ (List.mem_map_of_mem hy))
 have e:(cs.drop 0).take sz=cs:=by rw [List.drop_zero,← hc,← hl,List.take_length]
 rw [e] at r o
 exact ⟨vs,hw _ p,r,o,by rw [hl,hc]⟩
theorem Za {t e:TypeId} {n c:Nat} {sz:Nat} {L:List (TypeId × Nat)} {Pd Pd':List V→Prop} (hsm:KO sm) (ht:P.underlying t=some (.array n e)) (hL:((List.range n).map fun i=>(e,i*c))=L) (he:P.cellsOf e=c) (hc:P.cellsOf t=sz)
  (h:fX enc P w sp sm L 0 sz Pd) (hw:∀ vs,Pd vs→Pd' vs):Enc enc P w sp sm t sz Pd':=by
 intro fuel cs x hx hs
 subst hL
 obtain ⟨xs,m,rfl,rfl,hl,hxl,hg⟩:=DataW.trod_array ht hx
 obtain ⟨vs,p,r,o⟩:=h m cs xs (by simpa using hxl) (fun i f hf=>by
  simp only [List.getElem?_map,Option.map_eq_some_iff] at hf
  obtain ⟨i',hi',rfl⟩:=hf
  obtain ⟨hi,rfl⟩:=List.getElem?_eq_some_iff.1 hi'
  simp only [List.length_range] at hi
  have:=hg i hi
  simpa [he] using this) (fun y hy=>hsm.ag _ hs _ (List.mem_map_of_mem hy))
 have e:(cs.drop 0).take sz=cs:=by rw [List.drop_zero,← hc,← hl,List.take_length]
 rw [e] at r o
 exact ⟨vs,hw _ p,r,o,by rw [hl,hc]⟩
theorem oO (a:Addr) (i j:Nat):(a.add i).add j=a.add (i+j):=by
 unfold Addr.add
 by_cases hi:i=0
 ·subst hi;simp
 ·by_cases hj:j=0
  ·subst hj;simp [hi]
  ·simp [hi,hj,Nat.add_assoc]
theorem fB {a:Addr} {n:Nat} {cs:List Value} (h:w.cells? 0 a n=some cs):cs.length=n∧∀ j u,cs[j]?=some u→w.cell? (a.add j)=some u:=by
 simp only [World.cells?,Nat.zero_le,if_true] at h
 have hl:=mapM_some_length h
 simp only [List.length_range] at hl
 refine ⟨hl,fun j u hj=>?_⟩
 have hlt:j<n:=by rw [← hl];exact (List.getElem?_eq_some_iff.1 hj).1
 have:=mapM_some_get h j j (by simp [hlt])
 rw [this,hj]
theorem Jh {t e:TypeId} {c:Nat} {α:Type} {en:α→V} {Q:α→Prop} (hsm:KO sm) (ht:P.underlying t=some (.slice e)) (he:P.cellsOf e=c) (hc:0<c)
  (h:Enc enc P w sp sm e c (fun vs=>∃ a,Q a∧vs=(en a).cells)) (hen:∀ a,(en a).cells.length=c):Enc enc P w sp sm t 1 (fun vs=>∃ l:List α,(∀ a∈l,Q a)∧l.length≤1048576∧vs=[.isl true false c (l.map en)]):=by
 intro fuel cs x hx hs
 rcases DataW.trod_slice ht hx with ⟨rfl,rfl⟩ | ⟨a,len,cap,elems,rest,n,rfl,rfl,rfl,_,hl,_,hlen,hel,_,_⟩
 ·exact ⟨_,⟨[],by simp,by simp,rfl⟩,.isl0 (fun _=>rfl) (by simp) .nil,by intro y hy;simp at hy;subst hy;rfl,rfl⟩
 ·obtain ⟨hb,hs⟩:=hsm.sl _ _ hs
  have key:∀ k,k≤len→∃ (l:List α) (ys:List Value),l.length=k∧(∀ a∈l,Q a)∧Rs (rdE w) .P (AB (l.map en)) ys []∧Ek ys∧ys.length=k*c∧∀ (j:Nat) u,ys[j]?=some u→w.cell? (a.add j)=some u:=by
   intro k
   induction k with
   | zero=>intro _;exact ⟨[],[],rfl,by simp,.nil,by intro y hy;simp at hy,by simp,by simp⟩
   | succ k ih =>
    intro hk
    obtain ⟨l,ys,h1,h2,h3,h4,h5,h6⟩:=ih (by omega)
    have hk':=hel k (by omega)
    have hkl:k<elems.length:=by omega
    rw [List.getElem?_eq_getElem hkl,Option.bind_eq_some_iff] at hk'
    obtain ⟨ck,hck,htk⟩:=hk'
    rw [he] at hck
    obtain ⟨hckl,hcka⟩:=fB hck
    obtain ⟨vs,⟨u,hu,rfl⟩,r,o,_⟩:=h n ck _ htk (hs _ (List.mem_map_of_mem (List.getElem_mem hkl)))
    refine ⟨l++[u],ys++ck,by simp [h1],?_,?_,?_,?_,?_⟩
    ·intro a ha
     rcases List.mem_append.1 ha with h | h
     ·exact h2 a h
     ·simp at h;subst h;exact hu
    ·have:AB ((l++[u]).map en)=AB (l.map en)++(en u).cells:=by simp [AB]
     rw [this];simpa using h3.append r
    ·intro y hy
     rcases List.mem_append.1 hy with h | h
     ·exact h4 y h
     ·exact o y h
    ·simp [h5,hckl,Nat.add_mul]
    ·intro j v hj
     by_cases hlt:j<ys.length
     ·rw [List.getElem?_append_left hlt] at hj;exact h6 j v hj
     ·rw [List.getElem?_append_right (by omega)] at hj
      have:=hcka _ _ hj
      rw [oO] at this
      rwa [show k*c+(j - ys.length)=j from by omega] at this
  obtain ⟨l,ys,h1,h2,h3,h4,h5,h6⟩:=key len (Nat.le_refl _)
  refine ⟨_,⟨l,h2,by simp at hb;omega,rfl⟩,?_,by intro y hy;simp at hy;subst hy;rfl,rfl⟩
  by_cases h0:len=0
  ·subst h0
   have:l=[]:=List.eq_nil_of_length_eq_zero h1
   subst this
   exact .isl0 (fun _=>rfl) (by simp) .nil
  ·have hy0:∃ y,ys[0]?=some y:=by
    have:0<ys.length:=by rw [h5];exact Nat.mul_pos (by omega) hc
    exact ⟨ys[0],by simp [this]⟩
   obtain ⟨y,hy⟩:=hy0
   have hcell:=h6 0 y hy
   obtain ⟨b,off,spt⟩:=a
   have hsp:spt=none∧b<w.heap.size:=by
    simp only [Addr.add,if_true,World.cell?] at hcell
    split at hcell
    ·rename_i hh
     refine ⟨?_,(Array.getElem?_eq_some_iff.1 hh).1⟩
     cases spt with
     | none=>rfl
     | some _=>simp at hcell
    ·cases hcell
   obtain ⟨rfl,hbl⟩:=hsp
   have:=@Rs.isl (rdE w) .P true false (l.map en) b off cap c ys [] [] [] (by simp;omega) (fun _=>hbl) (by simp) (fun _=>rfl) (by intro e he;simp at he;obtain ⟨a,_,rfl⟩:=he;exact hen a) h3 (fun j v hj=>by have:=h6 j v hj;rwa [Addr.add_mid] at this) h4 .nil
   simpa [h1] using this
end
end Ve
namespace Ve
open Go
section
variable {H:Type} {enc:TypeId × Value→H} {w:World} {sp:Nat→Bool} {sm:DataW H→Prop}
theorem rdI:Enc enc Go.Proofs.Tryz.prog w sp sm 3 1 (fun vs=>∃ n,vs=[iV n]):=mV Go.Proofs.Tryz.underlying3
theorem rdIn (hsm:KO sm):Enc enc Go.Proofs.Tryz.prog w sp sm 40 4 (fun vs=>∃ a:Av,True∧vs=(eI a).cells) :=
 HV hsm Go.Proofs.Tryz.underlying40 (hL:=by kernel_rfl) (by kernel_rfl) (BD (sz:=1) (len:=3) rdI (by kernel_rfl) (BD (sz:=1) (len:=2) rdI (by kernel_rfl) (BD (sz:=1) (len:=1) rdI (by kernel_rfl) (BD (sz:=1) (len:=0) rdI (by kernel_rfl) IL)))) (by rintro vs ⟨_,_,⟨n0,rfl⟩,⟨_,_,⟨n1,rfl⟩,⟨_,_,⟨n2,rfl⟩,⟨_,_,⟨n3,rfl⟩,rfl,rfl⟩,rfl⟩,rfl⟩,rfl⟩;exact ⟨⟨n0,n1,n2,n3⟩,trivial,rfl⟩)
theorem xB (hsm:KO sm):Enc enc Go.Proofs.Tryz.prog w sp sm 34 1 (fun vs=>∃ l:List Av,(∀ a∈l,(fun _=>True) a)∧l.length≤1048576∧vs=[.isl true false 4 (l.map eI)]):=Jh hsm Go.Proofs.Tryz.underlying34 (by kernel_rfl) (by decide) (rdIn hsm) (fun _=>rfl)
theorem rdI2 (_:KO sm):Enc enc Go.Proofs.Tryz.prog w sp sm 3 1 (fun vs=>∃ a:Int,True∧vs=(iV a).cells):=fun fuel cs x h hs=>by obtain ⟨vs,⟨n,rfl⟩,r⟩:=rdI fuel cs x h hs;exact ⟨_,⟨n,trivial,rfl⟩,r⟩
theorem aF (hsm:KO sm):Enc enc Go.Proofs.Tryz.prog w sp sm 22 1 (fun vs=>∃ l:List Int,(∀ a∈l,(fun _=>True) a)∧l.length≤1048576∧vs=[.isl true false 1 (l.map iV)]):=Jh hsm Go.Proofs.Tryz.underlying22 (by kernel_rfl) (by decide) (rdI2 hsm) (fun _=>rfl)
theorem rdSl (hsm:KO sm):Enc enc Go.Proofs.Tryz.prog w sp sm 86 2 (fun vs=>∃ a:BW,True∧vs=(eSl a).cells) :=
 HV hsm Go.Proofs.Tryz.underlying86 (hL:=by kernel_rfl) (by kernel_rfl) (BD (sz:=1) (len:=1) rdI (by kernel_rfl) (BD (sz:=1) (len:=0) rdI (by kernel_rfl) IL)) (by rintro vs ⟨_,_,⟨n0,rfl⟩,⟨_,_,⟨n1,rfl⟩,rfl,rfl⟩,rfl⟩;exact ⟨⟨n0,n1⟩,trivial,rfl⟩)
theorem xA (hsm:KO sm):Enc enc Go.Proofs.Tryz.prog w sp sm 52 1 (fun vs=>∃ l:List BW,(∀ a∈l,(fun _=>True) a)∧l.length≤1048576∧vs=[.isl true false 2 (l.map eSl)]):=Jh hsm Go.Proofs.Tryz.underlying52 (by kernel_rfl) (by decide) (rdSl hsm) (fun _=>rfl)
theorem rdAV (hsm:KO sm):Enc enc Go.Proofs.Tryz.prog w sp sm 50 4 (fun vs=>∃ a:A4 (List Int),(a.a0.length≤1048576∧a.a1.length≤1048576∧a.a2.length≤1048576∧a.a3.length≤1048576)∧vs=[eNs true a.a0,eNs true a.a1,eNs true a.a2,eNs true a.a3]) :=
 Za (c:=1) hsm Go.Proofs.Tryz.underlying50 (hL:=by kernel_rfl) (by kernel_rfl) (by kernel_rfl) (BD (sz:=1) (len:=3) (aF hsm) (by kernel_rfl) (BD (sz:=1) (len:=2) (aF hsm) (by kernel_rfl) (BD (sz:=1) (len:=1) (aF hsm) (by kernel_rfl) (BD (sz:=1) (len:=0) (aF hsm) (by kernel_rfl) IL)))) (by rintro vs ⟨_,_,⟨l0,_,h0,rfl⟩,⟨_,_,⟨l1,_,h1,rfl⟩,⟨_,_,⟨l2,_,h2,rfl⟩,⟨_,_,⟨l3,_,h3,rfl⟩,rfl,rfl⟩,rfl⟩,rfl⟩,rfl⟩;exact ⟨⟨l0,l1,l2,l3⟩,⟨h0,h1,h2,h3⟩,rfl⟩)
theorem rdSt (hsm:KO sm):Enc enc Go.Proofs.Tryz.prog w sp sm 62 4 (fun vs=>∃ a:Ck,a.prog.length≤1048576∧vs=(eSt true a).cells) :=
 HV hsm Go.Proofs.Tryz.underlying62 (hL:=by kernel_rfl) (by kernel_rfl) (BD (sz:=1) (len:=3) rdI (by kernel_rfl) (BD (sz:=1) (len:=2) rdI (by kernel_rfl) (BD (sz:=1) (len:=1) rdI (by kernel_rfl) (BD (sz:=1) (len:=0) (xB hsm) (by kernel_rfl) IL)))) (by rintro vs ⟨_,_,⟨id,rfl⟩,⟨_,_,⟨label,rfl⟩,⟨_,_,⟨clear,rfl⟩,⟨_,_,⟨prog,_,h1,rfl⟩,rfl,rfl⟩,rfl⟩,rfl⟩,rfl⟩;exact ⟨⟨id,label,clear,prog⟩,h1,rfl⟩)
theorem wZ (hsm:KO sm):Enc enc Go.Proofs.Tryz.prog w sp sm 51 1 (fun vs=>∃ l:List Ck,(∀ a∈l,(fun a=>a.prog.length≤1048576) a)∧l.length≤1048576∧vs=[.isl true false 4 (l.map (eSt true))]):=Jh hsm Go.Proofs.Tryz.underlying51 (by kernel_rfl) (by decide) (rdSt hsm) (fun _=>rfl)
theorem rdSc (hsm:KO sm):Enc enc Go.Proofs.Tryz.prog w sp sm 54 7 (fun vs=>∃ s:AQ,JW s∧vs=(eSc true s).cells) :=
 HV hsm Go.Proofs.Tryz.underlying54 (hL:=by kernel_rfl) (by kernel_rfl) (BD (sz:=4) (len:=3) (rdAV hsm) (by kernel_rfl) (BD (sz:=1) (len:=2) rdI (by kernel_rfl) (BD (sz:=1) (len:=1) (wZ hsm) (by kernel_rfl) (BD (sz:=1) (len:=0) (xA hsm) (by kernel_rfl) IL)))) (by rintro vs ⟨_,_,⟨words,⟨h0,h1,h2,h3⟩,rfl⟩,⟨_,_,⟨ceil,rfl⟩,⟨_,_,⟨starts,hp,h4,rfl⟩,⟨_,_,⟨slots,_,h5,rfl⟩,rfl,rfl⟩,rfl⟩,rfl⟩,rfl⟩;exact ⟨⟨words,ceil,starts,slots⟩,⟨h0,h1,h2,h3,h4,h5,hp⟩,rfl⟩)
end
end Ve
namespace Ve
open Go Go.ChangeShapes Go.WideShapes Go.RowKit
section
variable {H:Type} {enc:TypeId × Value→H} {P:Program}
theorem Jp {w w':World} {sp':Nat→Bool} (hl:laidOutB P=true):∀ {ts:List TypeId} {vs:List Value} {ds:List (DataW H)} {ps:List MemPlace},(∀ t∈ts,P.readableRec t=true∧t<P.types.size) →
  DataW.TrodAll enc P w 0 (fun _=>true) true ts vs ds ps→(∀ p∈ps,w.sameAt w' p)→(∀ p∈ps,sp' p.block=true)→DataW.TrodAll enc P w' 0 sp' true ts vs ds ps
 | [],[],[],ps,_,h,_,_=>h
 | t::ts,v::vs,d::ds,ps,hr,h,h1,h2=>by
  obtain ⟨p,q,⟨n,hn⟩,ha,rfl⟩:=h
  obtain ⟨r1,r2⟩:=hr t (by simp)
  exact ⟨p,q,⟨n,DataW.trod_stays (kids_book hl r1) (book_sized r1) (fun h=>by cases h) ⟨r2,book_self t⟩ hn (fun x hx=>h1 x (by simp at hx;simp [hx])) (fun x hx=>h2 x (by simp at hx;simp [hx]))⟩,
   Jp hl (fun t ht=>hr t (by simp [ht])) ha (fun x hx=>h1 x (by simp [hx])) (fun x hx=>h2 x (by simp [hx])),rfl⟩
 | [],_::_,_,_,_,h,_,_=>by simp [DataW.TrodAll] at h
 | [],[],_::_,_,_,h,_,_=>by simp [DataW.TrodAll] at h
 | _::_,[],_,_,_,h,_,_=>by simp [DataW.TrodAll] at h
 | _::_,_::_,[],_,_,h,_,_=>by simp [DataW.TrodAll] at h
theorem row_post {f:Func} {s:ChangeSpec} {apart fresh handsOn again:Bool} {W W':World} {args:Array Value} {ds gs:List (DataW H)} {Fy:List MemPlace} {tb:TypeId}
  (hl:laidOutB P=true) (hr:∀ t∈f.params.toList,P.readableRec t=true∧t<P.types.size) (hv:s.vars=[]) (hfn:s.fn H ds={ results:=[.lit (.bool true)],args:=ds }) (hrt:f.resultTypes=#[tb]) (hb:P.underlying tb=some .bool)
  (hW:DataW.Whole enc P f.params.toList s.vars apart W args.toList ds gs Fy) (hkeep:∀ b,b<W.heap.size→W'.heap[b]?=W.heap[b]?) (hos:W'.os=W.os) (hout:W'.output=W.output) :
  s.post enc P f apart fresh handsOn again W args (.bool true) W':=by
 have hlt:∀ p∈Fy,p.block<W.heap.size:=fun p hp=>hW.lt p hp
 have hW0:=hW
 obtain ⟨p,q,hA,hV,rfl,hz,hn⟩:=hW
 rw [hv] at hV
 obtain ⟨rfl,rfl⟩:=trodVars_none hV
 have hsame:∀ x∈p,W.sameAt W' x:=by
  intro x hx
  have:=hlt x (by simp [hx])
  cases x with
  | cell b off=>simp only [World.sameAt,World.cell?];rw [hkeep b this]
  | map b=>exact hkeep b this
 have hargs:∀ sp:Nat→Bool,(∀ x∈p,sp x.block=true)→DataW.TrodAll enc P W' 0 sp true f.params.toList args.toList ds p:=fun sp hsp=>Jp hl hr hA hsame hsp
 have hres:∀ (b:Nat) (sp:Nat→Bool) (hd:Bool),DataW.TrodAll enc P W' b sp hd f.resultTypes.toList ((Value.bool true).resultList f.resultTypes.size) [.lit (.bool true)] []:=by
  intro b sp hd
  rw [hrt]
  exact trodAll_mk1 (shut_bool hb true)
 have hk:W.keptBut W' (fun _=>False):=⟨hos,hout,fun i hi=>by
  rw [hkeep i hi]
  cases h:W.heap[i]? with
  | none=>rfl
  | some o=>cases o<;>simp⟩
 have hfs:s.fn H (ds++[])={ results:=[.lit (.bool true)],args:=ds }:=by rw [List.append_nil];exact hfn
 have hvars:∀ sp,DataW.TrodVars enc P W' sp s.vars ([]:List (DataW H)) []:=by intro sp;rw [hv];rfl
 refine ⟨ds,[],p++[],[],p,[],hW0,?_,?_,?_,World.keptBut_mono (fun x hx=>hx.elim) hk,fun _=>?_⟩
 ·rw [hfs];exact hres _ _ _
 ·rw [hfs];exact hargs _ (fun x hx=>by simpa using hlt x (by simp [hx]))
 ·rw [hfs];exact hvars _
 ·refine ⟨ok_one hrt rfl (okWide_bool_mk hb true),_,_,([]++p)++[],⟨[]++p,[],trodAll_append (hargs _ (fun _ _=>rfl)) (hres _ _ _),hvars _,rfl,?_,?_⟩,?_⟩
  ·intro b off hp
   have hb:MemPlace.cell b off∈p++[]:=by simpa using hp
   have:=hz b off hb
   have hlt':=hlt _ hb
   simp only [World.frozen?] at this ⊢
   rw [hkeep b hlt']
   exact this
  ·intro ha
   simpa using hn ha
  ·intro x hx _
   simpa using hx
theorem row_call {Pr:Program} {C:Ctx} (T:Tie Pr C) {i:Nat} {g:FuncId} {xs:List V} (hr:Aa (Lv C i) g xs=some (.lit (.bool true))) {W:World} {args:List Value} (h1:Rs (rdE W) .P xs args []) :
  Calls Pr g args.toArray W fun e W'=>e=.returned (.bool true)∧(∀ b,b<W.heap.size→W'.heap[b]?=W.heap[b]?)∧W'.os=W.os∧W'.output=W.output:=by
 refine (T.call hr (F:=fun b=>b<W.heap.size) (f:=[]) (h1.mode (.inl rfl)) List.nodup_nil (by simp) (fun b hb=>⟨hb,by simp⟩)).mono fun e W' he=>?_
 cases e with
 | panicked=>exact he.elim
 | outgrown=>exact he.elim
 | returned y =>
  obtain ⟨F',f',h,_,_,_,_,h2,_,h3,_,h4⟩:=he
  obtain ⟨rfl,_⟩:=Bw h
  exact ⟨rfl,fun b hb=>h2 b hb (by simp),h3,h4⟩
end
end Ve
namespace Go.Proofs.YtdgpalcplglhjaaGreat
open Go Go.ChangeShapes Go.WideShapes Go.ChangeAt Go.RowKit Ve
set_option maxRecDepth 100000
theorem a0j {H:Type} (d:DataW H):1≤Rows.uptoBulk d:=by
 cases d with
 | lit l=>cases l<;>simp [Rows.uptoBulk]
 | _=>simp [Rows.uptoBulk]
theorem Vq {H:Type} {d:DataW H} {l:List (DataW H)} (h:d∈l):Rows.uptoBulk d≤Rows.uptoBulkAll l:=by
 induction l with
 | nil=>cases h
 | cons x r ih =>
  simp only [Rows.uptoBulkAll]
  cases List.mem_cons.1 h with
  | inl e=>subst e;omega
  | inr e=>have:=ih e;omega
theorem a0k {H:Type} (l:List (DataW H)):l.length≤Rows.uptoBulkAll l:=by
 induction l with
 | nil=>simp [Rows.uptoBulkAll]
 | cons x r ih=>have:=a0j x;simp only [Rows.uptoBulkAll,List.length_cons];omega
def smD {H:Type} (d:DataW H):Prop:=Rows.uptoBulk d≤1048576
theorem wQ {H:Type}:KO (smD (H:=H)):=by
 refine ⟨fun e s h=>?_,fun ps h d hd=>?_⟩
 ·simp only [smD,Rows.uptoBulk] at h
  refine ⟨by have:=a0k e;omega,fun d hd=>?_⟩
  have:=Vq hd
  simp only [smD];omega
 ·simp only [smD,Rows.uptoBulk] at h ⊢
  have:=Vq hd
  omega
theorem small_all {H:Type} {ds:List (DataW H)} (hk:Rows.uptoSmall H ds=true):∀ d∈ds,smD d:=by
 intro d hd
 have h:Rows.uptoBulkAll ds≤1048576:=by simpa [Rows.uptoSmall] using hk
 have:=Vq hd
 simp only [smD];omega
theorem argV {H:Type} {enc:TypeId × Value→H} {w:World} {sp:Nat→Bool} {r:Reach} {b0:Nat} {v:Value} {d:DataW H} {p:List MemPlace} (hval:Value.okWide Tryz.prog w r b0 22 v) (hd:DataW.Trod enc Tryz.prog w 0 sp true 22 v d p) (hs:smD d) :
  ∃ l:List Int,l.length≤1048576∧R1 (rdE w) .P (.isl true false 1 (l.map iV)) v []:=by
 obtain ⟨fuel,h⟩:=hd
 have hv:v.cells.toList=[v]:=by
  simp only [Value.okWide,Tryz.underlying22,Cell.okWide] at hval
  cases v with
  | agg cs=>simp [Cell.ok,Tryz.underlying22] at hval
  | _=>simp [Value.cells]
 obtain ⟨vs,⟨l,_,hl,rfl⟩,hr,_,_⟩:=aF wQ fuel _ _ h hs
 rw [hv] at hr
 exact ⟨l,hl,hr⟩
theorem argS {H:Type} {enc:TypeId × Value→H} {w:World} {sp:Nat→Bool} {r:Reach} {b0:Nat} {v:Value} {d:DataW H} {p:List MemPlace} (hval:Value.okWide Tryz.prog w r b0 54 v) (hd:DataW.Trod enc Tryz.prog w 0 sp true 54 v d p) (hs:smD d) :
  ∃ a:AQ,JW a∧R1 (rdE w) .P (eSc true a) v []:=by
 obtain ⟨fuel,h⟩:=hd
 have hv:∃ cs,v=.agg cs:=by
  simp only [Value.okWide,Tryz.underlying54] at hval
  obtain ⟨cs,hv,_⟩:=hval
  exact ⟨cs,hv⟩
 obtain ⟨cs,rfl⟩:=hv
 obtain ⟨vs,⟨a,ha,rfl⟩,hr,_,_⟩:=rdSc wQ fuel _ _ h hs
 have e:(Value.agg cs).cells.toList=cs.toList:=by simp [Value.cells]
 rw [e] at hr
 exact ⟨a,ha,Rs.agg (f:=[]) hr .nil⟩
theorem laidOk:laidOutB Tryz.prog=true:=by kernel_rfl
theorem own:ownKnob Tryz.prog.godebug=none:=by kernel_rfl
end Go.Proofs.YtdgpalcplglhjaaGreat
