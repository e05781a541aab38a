/- What a program's types must be for the evaluator: lemmas. -/
import Derived.Test.YtjgbbmcjbfpjfaaGreatVeC
import Derived.Laws.StructEq
import Derived.ChangeKeysEq
import Derived.Test.YtjgbbmcjbfpjfaaGreatVeM
import Derived.Test.YtjgbbmcjbfpjfaaGreatVeT
import Derived.Test.YtjgbbmcjbfpjfaaGreatProg
import Derived.KernelRfl
import Derived.WalkKit
import Derived.ProofKit
import Derived.Lib.SliceRun
import Derived.Lib.AppendZerosOnto
import Derived.Lib.Overlaps
import Derived.Shelf.Spec.SlicesInsert
set_option linter.all false
set_option linter.unusedSectionVars false
namespace Ve
open Go
theorem fK {P:Program}:∀ {fields:List Field} {fs:List (Nat × Nat)},fields.mapM (fun f=>(P.info? f.type).map fun i=>(f.offset,i.size))=some fs→(fs.all fun p=>p.2 != 0)=true →
  ∀ (j:Nat) (p:Nat × Nat),fs[j]?=some p→∃ f:Field,fields[j]?=some f∧f.offset=p.1∧(∃ i,P.info? f.type=some i∧i.size=p.2)∧p.2≠0
 | [],fs,h,hz,j,p,hj=>by simp at h;subst h;simp at hj
 | f::fields,fs,h,hz,j,p,hj=>by
  simp only [List.mapM_cons,Option.bind_eq_bind,Option.bind_eq_some_iff,Option.map_eq_some_iff] at h
  obtain ⟨q,⟨i,hi,rfl⟩,r,hr,h⟩:=h
  simp only [Option.pure_def,Option.some.injEq] at h
  subst h
  simp only [List.all_cons,Bool.and_eq_true] at hz
  cases j with
  | zero=>simp at hj;subst hj;exact ⟨f,rfl,rfl,⟨i,hi,rfl⟩,by simpa using hz.1⟩
  | succ j=>simpa using fK hr hz.2 j p (by simpa using hj)
theorem a5t {P:Program} {t:TypeId} {ft:List TypeId} {fields0:Array Field} (h0:P.underlying t=some (.struct fields0)) (h1:fields0.toList.map (·.type)=ft) :
  ∀ fields,P.underlying t=some (.struct fields)→∀ (j:Nat) (u:TypeId),ft[j]?=some u→∃ f:Field,fields[j]?=some f∧f.type=u:=by
 intro fields hf j u hj
 rw [h0] at hf
 cases hf
 subst h1
 rw [List.getElem?_map,Option.map_eq_some_iff] at hj
 obtain ⟨f,hf,rfl⟩:=hj
 exact ⟨f,by simpa using hf,rfl⟩
theorem uZ {a b:Value} {xs ys:List Value} {r:Bool} (h:Bz (V.lit a::xs.map V.lit) (V.lit b::ys.map V.lit)=some r) :
  ∃ k x y z,a=.int k x∧b=.int k y∧Bz (xs.map V.lit) (ys.map V.lit)=some z∧r=(decide (x=y)&&z):=by
 simp only [Bz] at h
 split at h
 ·rename_i x z hx hz
  simp only [Option.some.injEq] at h
  unfold Pk at hx
  split at hx
  ·rename_i e1 e2
   cases e1;cases e2
   split at hx
   ·rename_i hk;subst hk
    simp only [Option.some.injEq] at hx
    exact ⟨_,_,_,z,rfl,rfl,hz,by rw [← h,← hx]⟩
   ·cases hx
  ·cases hx
 ·cases h
theorem UJ {xs ys:List Value} {r:Bool} (h:Bz (xs.map V.lit) (ys.map V.lit)=some r) (hl:0<xs.length) :
  ∃ k x y z xs' ys',xs=.int k x::xs'∧ys=.int k y::ys'∧Bz (xs'.map V.lit) (ys'.map V.lit)=some z∧r=(decide (x=y)&&z):=by
 cases xs with
 | nil=>simp at hl
 | cons a xs =>
  cases ys with
  | nil=>simp [Bz] at h
  | cons b ys =>
   obtain ⟨k,x,y,z,rfl,rfl,hz,hr⟩:=uZ h
   exact ⟨k,x,y,z,xs,ys,rfl,rfl,hz,hr⟩
theorem GG {P:Program} (w:World) {t:TypeId} {k:IntKind} (ht:P.underlying t=some (.int k)) {xs:Array Value} {off:Nat} {v:Value} (hx:xs[off]?=some v):(part t xs off).run P w=.ok v w:=by
 simp [part,isAgg,run_underlying ht,hx]
def Ic (P:Program):Nat→List Field→Bool
 | _,[]=>true
 | j,f::r=>(f.name != "_")&&(f.offset == j)&&(match P.underlying f.type with | some (.int _)=>true | _=>false)&&Ic P (j+1) r
theorem Nk {P:Program} (w:World) (d:Nat):∀ (fs:List Field) (px py xs ys:List Value) (r:Bool),px.length=py.length→Ic P px.length fs=true→xs.length=fs.length→Bz (xs.map V.lit) (ys.map V.lit)=some r →
  (Op.eqFields (d+1) (px++xs).toArray (py++ys).toArray fs).run P w=.ok r w
 | [],px,py,xs,ys,r,hp,hf,hl,h=>by
  have:xs=[]:=by simpa using hl
  subst this
  cases ys with
  | nil=>simp [Bz] at h;subst h;simp [Op.eqFields]
  | cons b ys=>simp [Bz] at h
 | f::fs,px,py,xs,ys,r,hp,hf,hl,h=>by
  obtain ⟨k,x,y,z,xs',ys',rfl,rfl,hz,rfl⟩:=UJ h (by simp at hl;omega)
  simp only [Ic,Bool.and_eq_true,bne_iff_ne,ne_eq,beq_iff_eq] at hf
  obtain ⟨⟨⟨h1,h2⟩,h3⟩,h4⟩:=hf
  cases hu:P.underlying f.type with
  | none=>simp [hu] at h3
  | some dd =>
   cases dd<;>simp [hu] at h3
   rename_i kk
   have ih:=Nk w d fs (px++[.int k x]) (py++[.int k y]) xs' ys' z (by simp [hp]) (by simpa using h4) (by simpa using hl) hz
   have e1:(px++Value.int k x::xs').toArray[f.offset]?=some (.int k x):=by simp [h2]
   have e2:(py++Value.int k y::ys').toArray[f.offset]?=some (.int k y):=by simp [h2,hp]
   simp only [Op.eqFields,ne_eq,h1,not_false_eq_true,if_true,Sem.run_bind,GG w hu e1,GG w hu e2,Result.andThen_ok,run_equalIn_int w d f.type k kk x y hu]
   by_cases hxy:x=y
   ·subst hxy
    simp only [beq_self_eq_true,Bool.not_true,Bool.false_eq_true,if_false,decide_true,Bool.true_and]
    simpa using ih
   ·simp [hxy]
theorem OZ {P:Program} (w:World) (d:Nat) {e:TypeId} {k0:IntKind} (he:P.underlying e=some (.int k0)):∀ (n j:Nat) (px py xs ys:List Value) (r:Bool),px.length=j→py.length=j→xs.length=n→Bz (xs.map V.lit) (ys.map V.lit)=some r →
  (Op.eqItems (d+1) e 1 (px++xs).toArray (py++ys).toArray (List.range' j n)).run P w=.ok r w
 | 0,j,px,py,xs,ys,r,hp,hp',hl,h=>by
  have:xs=[]:=by simpa using hl
  subst this
  cases ys with
  | nil=>simp [Bz] at h;subst h;simp [Op.eqItems]
  | cons b ys=>simp [Bz] at h
 | n+1,j,px,py,xs,ys,r,hp,hp',hl,h=>by
  obtain ⟨k,x,y,z,xs',ys',rfl,rfl,hz,rfl⟩:=UJ h (by omega)
  have ih:=OZ w d he n (j+1) (px++[.int k x]) (py++[.int k y]) xs' ys' z (by simp [hp]) (by simp [hp']) (by simpa using hl) hz
  have e1:(px++Value.int k x::xs').toArray[j*1]?=some (.int k x):=by simp [hp]
  have e2:(py++Value.int k y::ys').toArray[j*1]?=some (.int k y):=by simp [hp']
  simp only [List.range'_succ,Op.eqItems,Sem.run_bind,GG w he e1,GG w he e2,Result.andThen_ok,run_equalIn_int w d e k k0 x y he]
  by_cases hxy:x=y
  ·subst hxy
   simp only [beq_self_eq_true,Bool.not_true,Bool.false_eq_true,if_false,decide_true,Bool.true_and]
   simpa using ih
  ·simp [hxy]
abbrev SZ (P:Program) (t:TypeId) (size:Nat):Prop:=∀ (xs ys:List Value) (r:Bool),Bz (xs.map V.lit) (ys.map V.lit)=some r→xs.length=size→∀ (x y:Operand) (w:World),
  ((do eqGuard .eql t x y (.agg xs.toArray) (.agg ys.toArray);binOp .eql t (.agg xs.toArray) (.agg ys.toArray):Sem Value)).run P w=.ok (.bool r) w ∧
  ((do eqGuard .neq t x y (.agg xs.toArray) (.agg ys.toArray);binOp .neq t (.agg xs.toArray) (.agg ys.toArray):Sem Value)).run P w=.ok (.bool (!r)) w
theorem TN {P:Program} {t:TypeId} {size:Nat} (hm:P.eqGuardType P.depth t=false) (h:∀ (xs ys:List Value) (r:Bool),Bz (xs.map V.lit) (ys.map V.lit)=some r→xs.length=size→∀ w,(Op.equalIn 10000 t (.agg xs.toArray) (.agg ys.toArray)).run P w=.ok r w):SZ P t size:=by
 intro xs ys r he hl x y w
 have:=h xs ys r he hl w
 constructor
 ·simp only [Sem.run_bind,run_eqGuard_agg w _ t x y _ _ hm,Result.andThen_ok,run_eql_struct,this]
 ·simp only [Sem.run_bind,run_eqGuard_agg w _ t x y _ _ hm,Result.andThen_ok,run_neq_struct,this]
theorem Sd {P:Program} {t:TypeId} {size:Nat} (hm:P.eqGuardType P.depth t=false) (ht:P.underlying t=some (.struct (P.fieldsOf t))) (hp:P.stoodInHeld t=false) (hf:Ic P 0 (P.fieldsOf t).toList=true) (hl:(P.fieldsOf t).toList.length=size):SZ P t size :=
 TN hm fun xs ys r he hs w=>by
  rw [show (10000:Nat)=9998+1+1 from rfl,run_equalIn_agg w (9998+1) t _ _ ht hp]
  exact Nk w 9998 _ [] [] xs ys r rfl hf (by omega) he
theorem cE {P:Program} {t e:TypeId} {n:Nat} {k:IntKind} {i:TypeInfo} (hm:P.eqGuardType P.depth t=false) (ht:P.underlying t=some (.array n e)) (hi:P.info? e=some i) (he:P.underlying e=some (.int k)) (hc:P.cellsOf e=1):SZ P t n :=
 TN hm fun xs ys r hq hs w=>by
  rw [show (10000:Nat)=9998+1+1 from rfl,run_equalIn_array w (9998+1) _ _ ht hi,hc,List.range_eq_range']
  exact OZ w 9998 he n 0 [] [] xs ys r rfl rfl hs hq
theorem rE {E:Env} {m:Md} {cs:List V} {ys:List Value} {vs:List V} {xs:List Value} (h:Rs E m cs ys []) (h':Rs E m vs xs []):Rs E m (.agg cs::vs) (.agg ys.toArray::xs) []:=Rs.agg h h'
end Ve
namespace Ve
open Go
def zEq:V→Value→Bool
 | .lit (.int k n),.int k' m=>decide (k=k')&&decide (n=m)
 | .lit (.bool a),.bool b=>a == b
 | .lit .nilFunc,.nilFunc=>true
 | .lit (.string s),.string s'=>decide (s.data=s'.data)
 | .lit (.pointer none),.pointer none=>true
 | .lit (.float k n),.float k' m=>decide (k=k')&&decide (n=m)
 | .lit (.complex k a b),.complex k' a' b'=>decide (k=k')&&decide (a=a')&&decide (b=b')
 | .own sz [],.slice none 0 0=>decide (0<sz)
 | _,_=>false
def pN:List V→List Value→Bool
 | [],[]=>true
 | a::r,b::s=>zEq a b&&pN r s
 | _,_=>false
def zOk:V→Value→Bool
 | .agg cs,.agg ys=>pN cs ys.toList
 | v,x=>zEq v x
theorem eY {E:Env} {m:Md} {v:V} {x:Value} (h:zEq v x=true) {vs:List V} {xs:List Value} {f:List Nat} (hr:Rs E m vs xs f):Rs E m (v::vs) (x::xs) f:=by
 unfold zEq at h
 split at h
 ·simp only [Bool.and_eq_true,decide_eq_true_eq] at h;obtain ⟨rfl,rfl⟩:=h;exact .lit hr
 ·simp only [beq_iff_eq] at h;subst h;exact .lit hr
 ·exact .lit hr
 ·rename_i s s'
  have:s=s':=by cases s;cases s';simpa using h
  subst this;exact .lit hr
 ·exact .lit hr
 ·simp only [Bool.and_eq_true,decide_eq_true_eq] at h;obtain ⟨rfl,rfl⟩:=h;exact .lit hr
 ·simp only [Bool.and_eq_true,decide_eq_true_eq] at h;obtain ⟨⟨rfl,rfl⟩,rfl⟩:=h;exact .lit hr
 ·exact .own0 (of_decide_eq_true h) hr
 ·cases h
theorem YU {E:Env} {m:Md}:∀ {vs:List V} {xs:List Value},pN vs xs=true→Rs E m vs xs []
 | [],[],_=>.nil
 | [],_::_,h=>by cases h
 | _::_,[],h=>by cases h
 | v::vs,x::xs,h=>by
  simp only [pN,Bool.and_eq_true] at h
  exact eY h.1 (YU h.2)
theorem xX {E:Env} {m:Md} {v:V} {x:Value} (h:zOk v x=true):R1 E m v x []:=by
 unfold zOk at h
 split at h
 ·rename_i cs ys
  have:=rE (E:=E) (m:=m) (YU h) .nil
  simpa using this
 ·exact eY h .nil
def iK (P:Program) (t:TypeId) (d:TypeDesc) (ti:TI):Bool :=
 !(P.eqGuardType P.depth t)&&match d with
 | .struct fs=>!(P.stoodInHeld t)&&Ic P 0 fs.toList&&decide (fs.toList.length=ti.size)
 | .array n e=>decide (n=ti.size)&&(P.info? e).isSome&&decide (P.cellsOf e=1)&&match P.underlying e with
  | some (.int _)=>true
  | _=>false
 | _=>false
def kB (P:Program) (d:TypeDesc) (ti:TI):Bool :=
 match ti.k with
 | .struct fs=>match d with
  | .struct fields=>decide (fields.toList.mapM (fun f=>(P.info? f.type).map fun i=>(f.offset,i.size))=some fs)&&(fs.all fun p=>p.2 != 0)&&decide (fields.toList.map (·.type)=ti.ft)
  | _=>false
 | .arr n el=>match d with
  | .array n' el'=>decide (n'=n)&&decide (el'=el)
  | _=>false
 | .sl el=>match d with
  | .slice e=>decide (e=el)
  | _=>false
 | .scalar=>true
def sB (d:TypeDesc) (ti:TI):Bool :=
 (match ti.ik with
 | some k=>match d with
  | .int k'=>decide (k'=k)
  | _=>false
 | none=>true) &&
 (!ti.bool||match d with
  | .bool=>true
  | _=>false) &&
 match ti.zero with
 | .lit (.float k _)=>(match d with
  | .float k'=>decide (k'=k)
  | _=>false)
 | _=>true
def tiB (P:Program) (t:TypeId) (ti:TI):Bool :=
 (match P.info? t with
 | some i=>decide (i.size=ti.size)&&decide (i.bytes=ti.bytes)&&(match i.zero with
  | some z=>zOk ti.zero z
  | none=>false)
 | none=>false) &&
 (decide (0<ti.size)&&decide (0<ti.bytes)&&decide (ti.zero.cells.length=ti.size)&&(ti.k.agg||decide (ti.size=1))&&BA ti.zero.cells) &&
 match P.underlying t with
 | some d=>decide (d.isRow=ti.k.agg)&&kB P d ti&&sB d ti&&(!ti.plain||iK P t d ti)
 | none=>false
theorem a1w {P:Program} {L:Lay} {t:TypeId} {ti:TI} (h:tiB P t ti=true):YR P L t ti:=by
 simp only [tiB,Bool.and_eq_true] at h
 obtain ⟨⟨h1,h2⟩,h3⟩:=h
 cases hi:P.info? t with
 | none=>simp [hi] at h1
 | some i =>
  simp only [hi,Bool.and_eq_true,decide_eq_true_eq] at h1
  obtain ⟨⟨i1,i2⟩,i3⟩:=h1
  cases hz:i.zero with
  | none=>simp [hz] at i3
  | some z =>
   simp only [hz] at i3
   obtain ⟨⟨⟨⟨g1,g2⟩,g3⟩,g4⟩,g5⟩:=h2
   cases hd:P.underlying t with
   | none=>simp [hd] at h3
   | some d =>
    simp only [hd,Bool.and_eq_true,decide_eq_true_eq] at h3
    obtain ⟨⟨⟨k1,k2⟩,k3⟩,k4⟩:=h3
    simp only [sB,Bool.and_eq_true] at k3
    obtain ⟨⟨s1,s2⟩,s3⟩:=k3
    refine ⟨⟨i,hi,i1,i2,z,hz,fun E=>xX i3⟩,of_decide_eq_true g1,of_decide_eq_true g2,of_decide_eq_true g3,?_,g5,⟨d,hd,k1⟩,?_,?_,?_,?_,?_,?_,?_,?_⟩
    ·intro ha;rw [ha] at g4;simpa using g4
    ·intro fs hfs
     simp only [kB,hfs] at k2
     split at k2
     ·rename_i fields
      simp only [Bool.and_eq_true,decide_eq_true_eq] at k2
      exact ⟨fields,hd,k2.1.1,fun j p hj=>by simpa using fK (fields:=fields.toList) k2.1.1 k2.1.2 j p hj⟩
     ·cases k2
    ·intro n el hk
     simp only [kB,hk] at k2
     split at k2
     ·simp only [Bool.and_eq_true,decide_eq_true_eq] at k2;obtain ⟨rfl,rfl⟩:=k2;exact hd
     ·cases k2
    ·intro fs hfs fields hf
     simp only [kB,hfs] at k2
     split at k2
     ·rename_i fields'
      simp only [Bool.and_eq_true,decide_eq_true_eq] at k2
      exact a5t (P:=P) (t:=t) hd k2.2 fields hf
     ·cases k2
    ·intro el hk
     simp only [kB,hk] at k2
     split at k2
     ·simp only [decide_eq_true_eq] at k2;subst k2;exact hd
     ·cases k2
    ·intro k hk
     simp only [hk] at s1
     split at s1
     ·simp only [decide_eq_true_eq] at s1;subst s1;exact hd
     ·cases s1
    ·intro hb
     simp only [hb,Bool.not_true,Bool.false_or] at s2
     split at s2
     ·exact hd
     ·cases s2
    ·intro k b hk
     simp only [hk] at s3
     split at s3
     ·simp only [decide_eq_true_eq] at s3;subst s3;exact hd
     ·cases s3
    ·intro hp
     simp only [hp,Bool.not_true,Bool.false_or,iK,Bool.and_eq_true,Bool.not_eq_true'] at k4
     obtain ⟨p0,p1⟩:=k4
     split at p1
     ·rename_i fs
      simp only [Bool.and_eq_true,Bool.not_eq_true',decide_eq_true_eq] at p1
      have e:P.fieldsOf t=fs:=by simp only [Program.fieldsOf,hd]
      exact Sd p0 (by rw [e];exact hd) p1.1.1 (by rw [e];exact p1.1.2) (by rw [e];exact p1.2)
     ·rename_i n e
      simp only [Bool.and_eq_true,decide_eq_true_eq] at p1
      obtain ⟨⟨⟨q1,q2⟩,q3⟩,q4⟩:=p1
      split at q4
      ·rename_i k hk
       obtain ⟨i',hi'⟩:=Option.isSome_iff_exists.1 q2
       rw [← q1]
       exact cE p0 hd hi' hk q3
      ·cases q4
     ·cases p1
theorem tP {P:Program} {l:List (Nat × TI)} (h:l.all (fun p=>tiB P p.1 p.2)=true):Ez P (lk l) :=
 fun t ti ht=>a1w (List.all_eq_true.1 h (t,ti) (Sl ht))
end Ve
namespace Ve
open Go
theorem MW:Ez Go.Proofs.Tryz.prog lay:=tP (by kernel_rfl)
end Ve
namespace Ve
open Go
def tieB (P:Program) (p:Nat × IFn):Option IR:=(P.funcs[p.1]?).bind fun fn=>fn.body.bind fun c=>DV c p.2.body
def tieR (P:Program) (p:Nat × IFn):Option (List ResultVar):=(P.funcs[p.1]?).map fun fn=>fn.results.toList
def tieW (P:Program) (L:Lay) (p:Nat × IFn):Bool:=match P.funcs[p.1]? with
 | some fn=>(match fn.body with
  | some c=>wfC L fn.ntmps c
  | none=>false)&&!(fn.name == "runtime.NumGoroutine")
 | none=>false
theorem pV {P:Program} {L:Lay} {l:List (Nat × IFn)} (h1:l.map (tieB P)=l.map fun p=>some p.2.body) (h2:l.map (tieR P)=l.map fun p=>some p.2.results) (h3:l.all (tieW P L)=true) :
  ∀ f d,lk l f=some d→wU P L f d:=by
 intro f d h
 have hm:=Sl h
 have e1:=List.map_inj_left.1 h1 _ hm
 have e2:=List.map_inj_left.1 h2 _ hm
 have e3:=List.all_eq_true.1 h3 _ hm
 simp only [tieB,Option.bind_eq_some_iff] at e1
 obtain ⟨fn,hf,c,hb,hg⟩:=e1
 simp only [tieR,hf,Option.map_some,Option.some.injEq] at e2
 simp only [tieW,hf,hb,Bool.and_eq_true,Bool.not_eq_true'] at e3
 exact ⟨⟨fn,c,hf,hb,hg,e3.1,e2,e3.2⟩⟩
end Ve
namespace Ve
open Go
set_option maxRecDepth 100000
theorem fns1:VL.map (tieB Go.Proofs.Tryz.prog)=VL.map fun p=>some p.2.body:=by kernel_rfl
theorem fns2:VL.map (tieR Go.Proofs.Tryz.prog)=VL.map fun p=>some p.2.results:=by kernel_rfl
theorem fns3:VL.all (tieW Go.Proofs.Tryz.prog lay)=true:=by kernel_rfl
theorem b0l:∀ f d,tbl f=some d→wU Go.Proofs.Tryz.prog lay f d:=pV fns1 fns2 fns3
end Ve
namespace Ve
open Go
theorem FG {P:Program} (w:World) (t e:TypeId) (i:TypeInfo) (ht:P.underlying t=some (.slice e)) (hi:P.info? e=some i) :
  (Instr.buildSlice t 0 #[]).run P w=.ok (.slice (some { block:=w.heap.size,off:=0 }) 0 0) (w.alloc (.cells #[] e)):=by
 simp [Instr.buildSlice,run_underlying ht,Go.sizeOf,typeInfo,hi,Instr.fill,newRow,show Array.range 0=#[] from rfl]
theorem PN {w:World} {b off:Nat} {ys:List Value} {o:Go.Obj} (h:w.rangeAt b off ys):(w.alloc o).rangeAt b off ys:=by
 by_cases hb:b<w.heap.size
 ·exact EE ((BU.alloc w o).2 b hb) h
 ·cases ys with
  | nil=>intro j u hj;simp at hj
  | cons y ys =>
   have:=h 0 y rfl
   simp [World.cell?,Array.getElem?_eq_none (Nat.le_of_not_lt hb)] at this
theorem FN {P:Program} {L:Lay} (hL:Ez P L) {t el:TypeId} {ei:TI} (hei:L el=some ei) (hu:P.underlying t=some (.slice el)) (w:World) {ad:Addr} {m c:Nat} {news:List Value}
  (hone:ED news) (hlen:news.length=m*ei.size) (hx:(m=0∧∃ ad' c',Value.slice (some ad) m c=.slice ad' 0 c')∨∃ b off c',Value.slice (some ad) m c=.slice (some ⟨b,off,none⟩) m c'∧w.rangeAt b off news∧m≤c')
  (hb:m*ei.bytes≤140737488355328) (hm:m≤maxLen) (hpos:0<ei.size):∃ v' w',(Builtin.append_ #[t,t] t #[.slice (some { block:=w.heap.size,off:=0 }) 0 0,.slice (some ad) m c]).run P (w.alloc (.cells #[] el))=.ok v' w' ∧
   (BU w w'∧((m=0∧∃ ad,v'=.slice ad 0 0)∨∃ b cap',v'=.slice (some ⟨b,0,none⟩) m cap'∧El w' b ei.size m cap' news∧w.heap.size≤b∧b<w'.heap.size)):=by
 have hrow:El (w.alloc (.cells #[] el)) w.heap.size ei.size 0 0 []:=⟨⟨#[],el,heap_alloc_new _ _,by simp,by simp⟩,Nat.le_refl _,Nat.zero_le _,hpos,(by intro y hy;simp at hy),by simp⟩
 have hx2:(m=0∧∃ ad' c',Value.slice (some ad) m c=.slice ad' 0 c')∨∃ b off c',Value.slice (some ad) m c=.slice (some ⟨b,off,none⟩) m c'∧(w.alloc (.cells #[] el)).rangeAt b off news:=by
  rcases hx with h | ⟨b,off,c',h1,h2,_⟩
  ·exact .inl h
  ·exact .inr ⟨b,off,c',h1,PN h2⟩
 have hw:=JR hL hei hu t (w:=w.alloc (.cells #[] el)) (dv:=.slice (some ⟨w.heap.size,0,none⟩) 0 0) (n:=0) (cap:=0) (ys:=[]) (g:=some w.heap.size) (.inr ⟨_,rfl,rfl,hrow⟩) (xv:=.slice (some ad) m c) (m:=m) (news:=news) hone hlen hx2 (by simpa using hb) (by simpa using hm)
 obtain ⟨v',w',hr,hv⟩:=hw
 refine ⟨v',w',hr,?_⟩
 rcases hv with ⟨h0,⟨a0,rfl⟩,rfl⟩ | ⟨b,hb,rfl,h1,h2,h3,h4,h5,h6⟩ | ⟨cap',rfl,h1,h2,h3⟩
 ·exact ⟨BU.alloc _ _,.inl ⟨by omega,_,rfl⟩⟩
 ·cases hb
  have hm0:m=0:=by have:=h1.le;omega
  subst hm0
  refine ⟨⟨by simp [h3],fun b hb=>?_,by rw [h4];rfl,by rw [h5];rfl,by rw [h6];rfl⟩,.inl ⟨rfl,_,rfl⟩⟩
  rw [h2 b (by omega)];exact (BU.alloc w _).2 b hb
 ·simp only [Nat.zero_add,List.nil_append] at h1 ⊢
  exact ⟨(BU.alloc _ _).trans h2,.inr ⟨_,_,rfl,h1,by simp,h3⟩⟩
theorem Mq {m b:Nat} (h:m*b≤140737488355328) (hb:0<b):m≤maxLen:=by
 have:m*1≤m*b:=Nat.mul_le_mul_left _ hb
 simp only [maxLen];omega
theorem ET {P:Program} {w:World} {ops:Array Oper} {Q:Exit→Act→World→Prop} {x0 x2 x3 x4 u1 u5 u6 u7 s:Value} {t ty1 ty2 ty3 ty4:TypeId} {p1 p2 p3 p4:String} {a1 a2 a3 a4:Array _}
  {v':Value} {w' w1:World} (hb:(Instr.buildSlice t 0 #[]).run P w=.ok s w1) (hr:(Builtin.append_ #[t,t] ty3 #[s,x0]).run P w1=.ok v' w')
  (h:wpList P ops Q [] ⟨#[x0,u1,v',x3,x4,s,x0,v'],[]⟩ w'):wpList P ops Q [{ dst:=some 5,op:=.buildSlice t 0 #[],type:=ty1,pos:=p1,after:=a1,guard:=none },{ dst:=some 6,op:=.move (.tmp 0),type:=ty2,pos:=p2,after:=a2,guard:=none },
   { dst:=some 7,op:=.call { callee:=.builtin .append,args:=#[.tmp 5,.tmp 6],argTypes:=#[t,t] },type:=ty3,pos:=p3,after:=a3,guard:=none },{ dst:=some 2,op:=.assign (.tmp 7),type:=ty4,pos:=p4,after:=a4,guard:=none }] ⟨#[x0,u1,x2,x3,x4,u5,u6,u7],[]⟩ w:=by
 refine wpList_plain rfl fun K hK=>?_
 unfold Oper.wp execOp
 simp only [List.map_toArray,List.map_nil,hb,Sem.run_bind,Sem.run_pure,Result.andThen_ok]
 refine hK _ _ (wpList_plain rfl fun K hK=>?_)
 unfold Oper.wp execOp
 simp only [Sem.run_pure]
 refine hK _ _ (wpList_plain rfl fun K hK=>?_)
 unfold Oper.wp execOp
 simp only [resolve,invoke,builtin,Sem.run_bind,Sem.run_pure,Result.andThen_ok,List.map_toArray,List.map_cons,List.map_nil,Act.put,Act.eval]
 change Oper.upon P _ _ K Q ((Sem.run P (Builtin.append_ #[t,t] ty3 #[s,x0]) w1).andThen _)
 rw [hr]
 refine hK _ _ (wpList_plain rfl fun K hK=>?_)
 unfold Oper.wp execOp
 simp only [Sem.run_pure]
 exact hK _ _ h
end Ve
namespace Ve
open Go
theorem Hz (P:Program) (w:World) (t s ty e e':TypeId) (i:TypeInfo) (ht:P.underlying t=some (.slice e)) (hi:P.info? e=some i) (g off dl dc:Nat) (cur:Array Value) (hg:w.heap[g]?=some (.cells cur e' (0,0)))
  (a:Addr) (m c k:Nat) (news:List Value) (hk:Nat.min m dl=k) (hl:news.length=k*i.size) (hnews:∀ j u,news[j]?=some u→w.cell? (a.add j)=some u) (h1:∀ u∈news,u.oneCell'=true) (hfit:off+news.length≤cur.size) :
  (Builtin.copy_ #[t,s] ty #[.slice (some ⟨g,off,none⟩) dl dc,.slice (some a) m c]).run P w=.ok (goInt k) (w.setRow g (cur.toList.take off++news++cur.toList.drop (off+news.length)).toArray):=by
 have hf:=run_firstCells_some (P:=P) w i.size k a m c news hl hnews
 have hst:=run_storeCells_at P g off e' news 0 cur w hg (by simpa using hfit) h1
 simp only [Nat.add_zero] at hst
 simp [Builtin.copy_,run_underlying ht,Builtin.lenOf,Go.sizeOf,typeInfo,hi,hk,hf,hst]
theorem dM {C news ys:List Value} {i n cap s:Nat} (hC:C.length=cap*s) (hy:C.take (n*s)=ys) (hyl:ys.length=n*s) (hnl:news.length=s) (hi:i≤n) (hr:n+1≤cap) {C1 C2:List Value}
  (h1:C1=C.take ((i+1)*s)++ys.drop (i*s)++C.drop ((i+1)*s+(ys.drop (i*s)).length)) (h2:C2=C1.take (i*s)++news++C1.drop (i*s+news.length)) :
  C2.length=cap*s∧C1.length=cap*s∧C2.take ((n+1)*s)=ys.take (i*s)++news++ys.drop (i*s):=by
 have e1:(i+1)*s=i*s+s:=by rw [Nat.add_mul];omega
 have e2:(n+1)*s=n*s+s:=by rw [Nat.add_mul];omega
 have e3:i*s≤n*s:=Nat.mul_le_mul_right _ hi
 have e4:(n+1)*s≤cap*s:=Nat.mul_le_mul_right _ hr
 have hdl:(ys.drop (i*s)).length=n*s - i*s:=by rw [List.length_drop,hyl]
 have l1:(C.take ((i+1)*s)).length=(i+1)*s:=by rw [List.length_take];omega
 have c1:C1.length=cap*s:=by rw [h1];simp only [List.length_append,l1,hdl,List.length_drop];omega
 have t1:C1.take (i*s)=ys.take (i*s):=by
  rw [h1,List.append_assoc,List.take_append_of_le_length (by omega),List.take_take,← hy,List.take_take]
  congr 1;omega
 have d1:C1.drop (i*s+news.length)=ys.drop (i*s)++C.drop ((i+1)*s+(ys.drop (i*s)).length):=by
  rw [h1,hnl,← e1,List.append_assoc]
  exact List.drop_left' l1
 refine ⟨?_,c1,?_⟩
 ·rw [h2];simp only [List.length_append,List.length_take,List.length_drop,c1,hnl];omega
 ·rw [h2,t1,d1,← List.append_assoc]
  refine List.take_left' ?_
  simp only [List.length_append,List.length_take,hyl,hnl,hdl];omega
theorem uD {R0 Z news ys:List Value} {i n cap s:Nat} (h0:R0=ys.take (i*s)++Z) (hR:R0.length=cap*s) (hyl:ys.length=n*s) (hnl:news.length=s) (hi:i≤n) (hr:n+1≤cap) {R1 R2:List Value}
  (h1:R1=R0.take (i*s)++news++R0.drop (i*s+news.length)) (h2:R2=R1.take ((i+1)*s)++ys.drop (i*s)++R1.drop ((i+1)*s+(ys.drop (i*s)).length)) :
  R2.length=cap*s∧R1.length=cap*s∧R2.take ((n+1)*s)=ys.take (i*s)++news++ys.drop (i*s):=by
 have e1:(i+1)*s=i*s+s:=by rw [Nat.add_mul];omega
 have e2:(n+1)*s=n*s+s:=by rw [Nat.add_mul];omega
 have e3:i*s≤n*s:=Nat.mul_le_mul_right _ hi
 have e4:(n+1)*s≤cap*s:=Nat.mul_le_mul_right _ hr
 have hdl:(ys.drop (i*s)).length=n*s - i*s:=by rw [List.length_drop,hyl]
 have htl:(ys.take (i*s)).length=i*s:=by rw [List.length_take];omega
 have c1:R1.length=cap*s:=by rw [h1];simp only [List.length_append,List.length_take,List.length_drop,hR,hnl];omega
 have t0:R0.take (i*s)=ys.take (i*s):=by rw [h0];exact List.take_left' htl
 have t1:R1.take ((i+1)*s)=ys.take (i*s)++news:=by
  rw [h1,t0]
  refine List.take_left' ?_
  rw [List.length_append,htl,hnl];omega
 refine ⟨?_,c1,?_⟩
 ·rw [h2,t1];simp only [List.length_append,htl,hnl,hdl,List.length_drop,c1];omega
 ·rw [h2,t1]
  refine List.take_left' ?_
  simp only [List.length_append,htl,hnl,hdl];omega
end Ve
namespace Ve
open Go Go.Lib Go.Proofs
set_option maxRecDepth 100000
set_option maxHeartbeats 4000000
theorem cl42 {L:Lay} (hL:Ez Tryz.prog L) {ei:TI} (hei:L 87=some ei) (hby:0<ei.bytes) (i:TypeInfo) (hi:Tryz.prog.info? 87=some i):Dm Tryz.prog 42 ei.size ei.bytes:=by
 have q59:∀ (w:World) (a:Option Addr) (n c n' c':Nat),(binOp .eql 59 (.slice a n c) (.slice none n' c')).run Tryz.prog w=.ok (.bool a.isNone) w:=fun w a n c n' c'=>Lib.run_eql_slice_nil w _ _ a n c n' c' Tryz.underlying59
 have qb:=fun w=>FG (P:=Tryz.prog) w 59 87 i Tryz.underlying59 hi
 intro w xv m news hone hlen hx hb hpos
 have hxs:∃ a c,xv=.slice a m c∧(a=none→m=0):=by
  rcases hx with ⟨rfl,ad,c,rfl⟩ | ⟨b,off,c,rfl,_,_⟩
  ·exact ⟨ad,c,rfl,fun _=>rfl⟩
  ·exact ⟨_,_,rfl,by simp⟩
 obtain ⟨a,c,rfl,ha⟩:=hxs
 cases a with
 | none =>
  have:=ha rfl;subst this
  go_enter Tryz.func42,Tryz.ntmps42
  go_wp2
  go_ret
  exact ⟨BU.refl _,.inl ⟨_,rfl⟩⟩
 | some ad =>
  obtain ⟨v',w',hr,hv⟩:=FN hL hei Tryz.underlying59 w hone hlen hx hb (Mq hb hby) hpos
  go_enter Tryz.func42,Tryz.ntmps42
  clear hx hone hlen hb hL hei hby hi ha
  go_wp2_with (refine ET (qb _) hr ?_)
  go_ret
  exact hv
theorem b1c:Dm Tryz.prog 42 4 32:=cl42 MW (ei:=y87) rfl (by decide) ((Tryz.prog.info? 87).get (by kernel_rfl)) (Option.some_get _).symm
theorem cl89 {L:Lay} (hL:Ez Tryz.prog L) {ei:TI} (hei:L 70=some ei) (hby:0<ei.bytes) (i:TypeInfo) (hi:Tryz.prog.info? 70=some i):Dm Tryz.prog 89 ei.size ei.bytes:=by
 have q31:∀ (w:World) (a:Option Addr) (n c n' c':Nat),(binOp .eql 31 (.slice a n c) (.slice none n' c')).run Tryz.prog w=.ok (.bool a.isNone) w:=fun w a n c n' c'=>Lib.run_eql_slice_nil w _ _ a n c n' c' Tryz.underlying31
 have qb:=fun w=>FG (P:=Tryz.prog) w 31 70 i Tryz.underlying31 hi
 intro w xv m news hone hlen hx hb hpos
 have hxs:∃ a c,xv=.slice a m c∧(a=none→m=0):=by
  rcases hx with ⟨rfl,ad,c,rfl⟩ | ⟨b,off,c,rfl,_,_⟩
  ·exact ⟨ad,c,rfl,fun _=>rfl⟩
  ·exact ⟨_,_,rfl,by simp⟩
 obtain ⟨a,c,rfl,ha⟩:=hxs
 cases a with
 | none =>
  have:=ha rfl;subst this
  go_enter Tryz.func89,Tryz.ntmps89
  go_wp2
  go_ret
  exact ⟨BU.refl _,.inl ⟨_,rfl⟩⟩
 | some ad =>
  obtain ⟨v',w',hr,hv⟩:=FN hL hei Tryz.underlying31 w hone hlen hx hb (Mq hb hby) hpos
  go_enter Tryz.func89,Tryz.ntmps89
  clear hx hone hlen hb hL hei hby hi ha
  go_wp2_with (refine ET (qb _) hr ?_)
  go_ret
  exact hv
theorem b1b:Dm Tryz.prog 89 17 184:=cl89 MW (ei:=y70) rfl (by decide) ((Tryz.prog.info? 70).get (by kernel_rfl)) (Option.some_get _).symm
theorem cl90 {L:Lay} (hL:Ez Tryz.prog L) {ei:TI} (hei:L 72=some ei) (hby:0<ei.bytes) (i:TypeInfo) (hi:Tryz.prog.info? 72=some i):Dm Tryz.prog 90 ei.size ei.bytes:=by
 have q32:∀ (w:World) (a:Option Addr) (n c n' c':Nat),(binOp .eql 32 (.slice a n c) (.slice none n' c')).run Tryz.prog w=.ok (.bool a.isNone) w:=fun w a n c n' c'=>Lib.run_eql_slice_nil w _ _ a n c n' c' Tryz.underlying32
 have qb:=fun w=>FG (P:=Tryz.prog) w 32 72 i Tryz.underlying32 hi
 intro w xv m news hone hlen hx hb hpos
 have hxs:∃ a c,xv=.slice a m c∧(a=none→m=0):=by
  rcases hx with ⟨rfl,ad,c,rfl⟩ | ⟨b,off,c,rfl,_,_⟩
  ·exact ⟨ad,c,rfl,fun _=>rfl⟩
  ·exact ⟨_,_,rfl,by simp⟩
 obtain ⟨a,c,rfl,ha⟩:=hxs
 cases a with
 | none =>
  have:=ha rfl;subst this
  go_enter Tryz.func90,Tryz.ntmps90
  go_wp2
  go_ret
  exact ⟨BU.refl _,.inl ⟨_,rfl⟩⟩
 | some ad =>
  obtain ⟨v',w',hr,hv⟩:=FN hL hei Tryz.underlying32 w hone hlen hx hb (Mq hb hby) hpos
  go_enter Tryz.func90,Tryz.ntmps90
  clear hx hone hlen hb hL hei hby hi ha
  go_wp2_with (refine ET (qb _) hr ?_)
  go_ret
  exact hv
theorem b1a:Dm Tryz.prog 90 4 32:=cl90 MW (ei:=y72) rfl (by decide) ((Tryz.prog.info? 72).get (by kernel_rfl)) (Option.some_get _).symm
theorem b1h {L:Lay} (hL:Ez Tryz.prog L) {ei:TI} (hei:L 107=some ei) (hby:0<ei.bytes) (i:TypeInfo) (hi:Tryz.prog.info? 107=some i):Dm Tryz.prog 135 ei.size ei.bytes:=by
 have q28:∀ (w:World) (a:Option Addr) (n c n' c':Nat),(binOp .eql 28 (.slice a n c) (.slice none n' c')).run Tryz.prog w=.ok (.bool a.isNone) w:=fun w a n c n' c'=>Lib.run_eql_slice_nil w _ _ a n c n' c' Tryz.underlying28
 have qb:=fun w=>FG (P:=Tryz.prog) w 28 107 i Tryz.underlying28 hi
 intro w xv m news hone hlen hx hb hpos
 have hxs:∃ a c,xv=.slice a m c∧(a=none→m=0):=by
  rcases hx with ⟨rfl,ad,c,rfl⟩ | ⟨b,off,c,rfl,_,_⟩
  ·exact ⟨ad,c,rfl,fun _=>rfl⟩
  ·exact ⟨_,_,rfl,by simp⟩
 obtain ⟨a,c,rfl,ha⟩:=hxs
 cases a with
 | none =>
  have:=ha rfl;subst this
  go_enter Tryz.func135,Tryz.ntmps135
  go_wp2
  go_ret
  exact ⟨BU.refl _,.inl ⟨_,rfl⟩⟩
 | some ad =>
  obtain ⟨v',w',hr,hv⟩:=FN hL hei Tryz.underlying28 w hone hlen hx hb (Mq hb hby) hpos
  go_enter Tryz.func135,Tryz.ntmps135
  clear hx hone hlen hb hL hei hby hi ha
  go_wp2_with (refine ET (qb _) hr ?_)
  go_ret
  exact hv
theorem a6f:Dm Tryz.prog 135 3 24:=b1h MW (ei:=pQ) rfl (by decide) ((Tryz.prog.info? 107).get (by kernel_rfl)) (Option.some_get _).symm
theorem b1g {L:Lay} (hL:Ez Tryz.prog L) {ei:TI} (hei:L 155=some ei) (hby:0<ei.bytes) (i:TypeInfo) (hi:Tryz.prog.info? 155=some i):Dm Tryz.prog 136 ei.size ei.bytes:=by
 have q67:∀ (w:World) (a:Option Addr) (n c n' c':Nat),(binOp .eql 67 (.slice a n c) (.slice none n' c')).run Tryz.prog w=.ok (.bool a.isNone) w:=fun w a n c n' c'=>Lib.run_eql_slice_nil w _ _ a n c n' c' Tryz.underlying67
 have qb:=fun w=>FG (P:=Tryz.prog) w 67 155 i Tryz.underlying67 hi
 intro w xv m news hone hlen hx hb hpos
 have hxs:∃ a c,xv=.slice a m c∧(a=none→m=0):=by
  rcases hx with ⟨rfl,ad,c,rfl⟩ | ⟨b,off,c,rfl,_,_⟩
  ·exact ⟨ad,c,rfl,fun _=>rfl⟩
  ·exact ⟨_,_,rfl,by simp⟩
 obtain ⟨a,c,rfl,ha⟩:=hxs
 cases a with
 | none =>
  have:=ha rfl;subst this
  go_enter Tryz.func136,Tryz.ntmps136
  go_wp2
  go_ret
  exact ⟨BU.refl _,.inl ⟨_,rfl⟩⟩
 | some ad =>
  obtain ⟨v',w',hr,hv⟩:=FN hL hei Tryz.underlying67 w hone hlen hx hb (Mq hb hby) hpos
  go_enter Tryz.func136,Tryz.ntmps136
  clear hx hone hlen hb hL hei hby hi ha
  go_wp2_with (refine ET (qb _) hr ?_)
  go_ret
  exact hv
theorem a6e:Dm Tryz.prog 136 3 24:=b1g MW (ei:=pP) rfl (by decide) ((Tryz.prog.info? 155).get (by kernel_rfl)) (Option.some_get _).symm
theorem b1f {L:Lay} (hL:Ez Tryz.prog L) {ei:TI} (hei:L 159=some ei) (hby:0<ei.bytes) (i:TypeInfo) (hi:Tryz.prog.info? 159=some i):Dm Tryz.prog 137 ei.size ei.bytes:=by
 have q68:∀ (w:World) (a:Option Addr) (n c n' c':Nat),(binOp .eql 68 (.slice a n c) (.slice none n' c')).run Tryz.prog w=.ok (.bool a.isNone) w:=fun w a n c n' c'=>Lib.run_eql_slice_nil w _ _ a n c n' c' Tryz.underlying68
 have qb:=fun w=>FG (P:=Tryz.prog) w 68 159 i Tryz.underlying68 hi
 intro w xv m news hone hlen hx hb hpos
 have hxs:∃ a c,xv=.slice a m c∧(a=none→m=0):=by
  rcases hx with ⟨rfl,ad,c,rfl⟩ | ⟨b,off,c,rfl,_,_⟩
  ·exact ⟨ad,c,rfl,fun _=>rfl⟩
  ·exact ⟨_,_,rfl,by simp⟩
 obtain ⟨a,c,rfl,ha⟩:=hxs
 cases a with
 | none =>
  have:=ha rfl;subst this
  go_enter Tryz.func137,Tryz.ntmps137
  go_wp2
  go_ret
  exact ⟨BU.refl _,.inl ⟨_,rfl⟩⟩
 | some ad =>
  obtain ⟨v',w',hr,hv⟩:=FN hL hei Tryz.underlying68 w hone hlen hx hb (Mq hb hby) hpos
  go_enter Tryz.func137,Tryz.ntmps137
  clear hx hone hlen hb hL hei hby hi ha
  go_wp2_with (refine ET (qb _) hr ?_)
  go_ret
  exact hv
theorem a6d:Dm Tryz.prog 137 3 24:=b1f MW (ei:=eZ) rfl (by decide) ((Tryz.prog.info? 159).get (by kernel_rfl)) (Option.some_get _).symm
theorem a5d {L:Lay} (hL:Ez Tryz.prog L) {ei:TI} (hei:L 159=some ei) (hsz:ei.size=3) (hbyt:ei.bytes=24):aI Tryz.prog 230 3 24:=by
 have hok:=hL _ _ hei
 have hu:=Tryz.underlying68
 have mixed:Tryz.prog.follows Departure.mixedOrders=true:=by kernel_rfl
 intro w dv n cap ys gb i xb xc news hd hrow2 hi hb
 obtain ⟨cur2,el2,hheap2,hcs2,htk2⟩:=hrow2.ex
 have hxr:w.rangeAt xb 0 news:=Cd hrow2
 by_cases hin:i=n
 ·subst hin
  have hd':(gb=none∧(∃ ad,dv=.slice ad 0 0)∧i=0∧ys=[])∨∃ b,gb=some b∧dv=.slice (some ⟨b,0,none⟩) i cap∧El w b ei.size i cap ys:=by
   rcases hd with h | ⟨b,h1,h2,h3,_⟩
   ·exact .inl h
   ·exact .inr ⟨b,h1,h2,by rw [hsz];exact h3⟩
  have hap:=fun ty=>JR hL hei hu ty (w:=w) (dv:=dv) (n:=i) (cap:=cap) (ys:=ys) (g:=gb) hd' (xv:=.slice (some ⟨xb,0,none⟩) 1 xc) (m:=1) (news:=news) hrow2.one (by rw [hsz];simpa using hrow2.ln) (.inr ⟨xb,0,xc,rfl,hxr⟩) (by rw [hbyt];exact hb) (by simp only [maxLen];omega)
  have hyl:ys.take (i*3)=ys∧ys.drop (i*3)=[]:=by
   have:ys.length=i*3:=by
    rcases hd with ⟨_,_,h1,h2⟩ | ⟨b,_,_,h3,_⟩
    ·subst h1 h2;rfl
    ·exact h3.ln
   exact ⟨List.take_of_length_le (by omega),List.drop_of_length_le (by omega)⟩
  obtain ⟨v',w',hr,hv⟩:=hap 68
  have hsv:∃ ad,dv=.slice ad i (if gb=none then 0 else cap)∧(ad=none→i=0):=by
   rcases hd with ⟨rfl,⟨ad,rfl⟩,rfl,_⟩ | ⟨b,rfl,rfl,_,_⟩
   ·exact ⟨ad,rfl,fun _=>rfl⟩
   ·exact ⟨some ⟨b,0,none⟩,rfl,by simp⟩
  obtain ⟨ad,rfl,had⟩:=hsv
  generalize (if gb=none then 0 else cap)=cc at hr hd hd'
  have walk:Calls Tryz.prog 230 #[.slice ad i cc,.int .i64 i,.slice (some ⟨xb,0,none⟩) 1 xc] w fun e w''=>e=.returned v'∧w''=w':=by
   clear hv hd hd' hap hyl hok hxr hheap2 hcs2 htk2 hrow2 hb hi
   cases ad with
   | none =>
    have:=had rfl;subst this
    go_enter Tryz.func230,Tryz.ntmps230
    go_wp2_with (at_builtin;refine Lib.wpList_append_run _ rfl _ _ _ _ rfl _ _ rfl rfl _ _ hr ?_)
    all_goals (go_ret;exact ⟨rfl,rfl⟩)
   | some a0 =>
    go_enter Tryz.func230,Tryz.ntmps230
    go_wp2_with (at_builtin;refine Lib.wpList_append_run _ rfl _ _ _ _ rfl _ _ rfl rfl _ _ hr ?_)
    all_goals (go_ret;exact ⟨rfl,rfl⟩)
  refine walk.mono fun e w'' he=>?_
  obtain ⟨rfl,rfl⟩:=he
  rw [hyl.1,hyl.2,List.append_nil]
  rw [hsz] at hv
  rcases hv with ⟨h,_⟩ | ⟨b,h1,h2,h3,h4,h5,h6,h7,h8⟩ | ⟨cap',h2,h3,h4,h5⟩
  ·omega
  ·exact .inl ⟨b,h1,h2,h3,h4,h5,h6,h7,h8⟩
  ·exact .inr ⟨_,cap',h2,h3,h4,Nat.le_refl _,h5⟩
 ·have hlt:i<n:=by omega
  rcases hd with ⟨_,_,h,_⟩ | ⟨b,hgb,rfl,hrow,hbx⟩
  ·omega
  ·obtain ⟨cur,el,hheap,hcs,htk⟩:=hrow.ex
   obtain ⟨i0,hi0,hs0,hb0,z,hz,hzr⟩:=hok.info
   have hyl:=hrow.ln
   have hnl:news.length=3:=by simpa using hrow2.ln
   have hi3:i0.size=3:=by rw [hs0,hsz]
   have hle:n≤cap:=hrow.le
   have hbl:b<w.heap.size:=by
    rcases Nat.lt_or_ge b w.heap.size with h | h
    ·exact h
    ·rw [Array.getElem?_eq_none h] at hheap;cases hheap
   have hxl:xb<w.heap.size:=by
    rcases Nat.lt_or_ge xb w.heap.size with h | h
    ·exact h
    ·rw [Array.getElem?_eq_none h] at hheap2;cases hheap2
   have hys:∀ (W:World),W.heap[b]?=w.heap[b]?→∀ j u,(ys.drop (i*3))[j]?=some u→W.cell? ((⟨b,i*3,none⟩:Addr).add j)=some u:=by
    intro W hW j u hj
    rw [List.getElem?_drop] at hj
    have:=EE hW (Cd hrow) (i*3+j) u hj
    rw [Addr.add_mid]
    simpa using this
   have hns:∀ (W:World),W.heap[xb]?=w.heap[xb]?→∀ j u,news[j]?=some u→W.cell? ((⟨xb,0,none⟩:Addr).add j)=some u:=by
    intro W hW j u hj
    have:=EE hW hxr j u hj
    rw [Addr.add_mid]
    exact this
   have hw1:IntKind.i64.wrap ((i:Int)+1)=(i:Int)+1:=by rw [IntKind.wrap_i64];omega
   have hw2:IntKind.i64.wrap ((n:Int)+1)=(n:Int)+1:=by rw [IntKind.wrap_i64];omega
   have hz2:¬ ((i:Int)=(n:Int)):=by omega
   have hdl:(ys.drop (i*3)).length=(n - i)*i0.size:=by rw [List.length_drop,hyl,hi3,← Nat.sub_mul]
   have h1d:∀ u∈ys.drop (i*3),u.oneCell'=true:=fun u hu=>hrow.one u (List.mem_of_mem_drop hu)
   have hcl:cur.toList.length=cap*3:=by simpa using hcs
   have hb1:(0:Int)≤(i:Int)+1:=by omega
   have htn:((i:Int)+1).toNat=i+1:=by omega
   have hm63:=hrow.mx
   simp only [maxLen] at hm63
   by_cases hroom:n+1≤cap
   ·obtain ⟨C1,hC1⟩:∃ C1,C1=cur.toList.take ((i+1)*3)++ys.drop (i*3)++cur.toList.drop ((i+1)*3+(ys.drop (i*3)).length):=⟨_,rfl⟩
    obtain ⟨C2,hC2⟩:∃ C2,C2=C1.take (i*3)++news++C1.drop (i*3+news.length):=⟨_,rfl⟩
    obtain ⟨l2,l1,t2⟩:=dM hcl htk hyl hnl hi hroom hC1 hC2
    have hov:∀ lb cb,(callFunc 233 #[.slice (some ⟨xb,0,none⟩) 1 xc,.slice (some ⟨b,(i+1)*3,none⟩) lb cb]).run Tryz.prog w=.ok (.value (.bool false)) w:=fun lb cb=>by
     rw [run_callFunc_extern Tryz.func233 (by kernel_rfl) (by kernel_rfl) (by kernel_rfl) (e:=Extern.SlicesOverlaps.overlaps #[68,68] #[4]) (by kernel_rfl),
      Lib.run_overlaps_apart w 68 4 159 hu 3 (fun w=>by simp [Go.sizeOf,typeInfo,hi0,hi3]) ⟨xb,0,none⟩ ⟨b,(i+1)*3,none⟩ 1 xc lb cb (fun h=>hbx h.symm) el2 el cur2.size cur.size (by simp [World.shape?,hheap2]) (by simp [World.shape?,hheap]) (by omega) (by simp [World.frozen?,hheap2]) (by simp [World.frozen?,hheap2])]
     rfl
    have hcp1:∀ ty dc sc,(Builtin.copy_ #[68,68] ty #[.slice (some ⟨b,(i+1)*3,none⟩) (n - i) dc,.slice (some ⟨b,i*3,none⟩) (n+1 - i) sc]).run Tryz.prog w.drew=.ok (goInt (n - i:Nat)) (w.drew.setRow b C1.toArray):=fun ty dc sc=>by
     rw [hC1]
     exact Hz _ w.drew 68 68 ty 159 el i0 hu hi0 b ((i+1)*3) _ dc cur hheap ⟨b,i*3,none⟩ _ sc (n - i) (ys.drop (i*3)) (by simp only [Nat.min_def];split<;>omega) hdl (hys w.drew rfl) h1d (by rw [hdl,hi3];omega)
    obtain ⟨W1,hW1⟩:∃ W1,W1=w.drew.setRow b C1.toArray:=⟨_,rfl⟩
    have hh1:W1.heap[b]?=some (.cells C1.toArray el (0,0)):=by rw [hW1];exact setRow_heap w.drew b cur _ el _ hheap
    have ho1:∀ c,c≠b→W1.heap[c]?=w.heap[c]?:=fun c hc=>by rw [hW1];exact setRow_other w.drew b c _ hc
    have hcp2:∀ ty dc,(Builtin.copy_ #[68,68] ty #[.slice (some ⟨b,i*3,none⟩) (n+1 - i) dc,.slice (some ⟨xb,0,none⟩) 1 xc]).run Tryz.prog W1=.ok (goInt (1:Nat)) (W1.setRow b C2.toArray):=fun ty dc=>by
     rw [hC2]
     exact Hz _ W1 68 68 ty 159 el i0 hu hi0 b (i*3) _ dc C1.toArray hh1 ⟨xb,0,none⟩ _ xc 1 news (by simp only [Nat.min_def];split<;>omega) (by rw [hnl,hi3]) (hns W1 (ho1 xb (fun h=>hbx h.symm))) hrow2.one (by simp only [List.size_toArray,l1,hnl];omega)
    rw [← hW1] at hcp1
    have hb2:¬ (cap=i+1):=by omega
    have hb3:(i:Int)≤(n:Int)+1:=by omega
    have hb4:¬ (cap=i):=by omega
    have hb5:(i:Int)+1≤(n:Int)+1:=by omega
    have walk:Calls Tryz.prog 230 #[.slice (some ⟨b,0,none⟩) n cap,.int .i64 i,.slice (some ⟨xb,0,none⟩) 1 xc] w fun e w''=>e=.returned (.slice (some ⟨b,0,none⟩) (n+1) cap)∧w''=W1.setRow b C2.toArray:=by
     clear hW1 hC1 hC2 t2 l1 l2 hh1 ho1 hok hz hzr hrow hrow2 hys hns hxr htk htk2 hheap hheap2 hdl h1d hcl hi0 hs0 hb0 hcs hcs2 hL hei hyl hnl
     go_enter Tryz.func230,Tryz.ntmps230
     go_wp2_with (simp only [hov])
     go_region_law_o (refine step_copy_runI rfl _ _ 68 68 rfl _ _ (by simp [Act.eval,Act.put]) (by simp [Act.eval,Act.put]) (hcp1 _ _ _) ?_)
     go_wp2_with (at_builtin;refine wpList_copy_runI _ rfl _ _ 68 68 rfl _ _ rfl rfl (hcp2 _ _) ?_)
     all_goals (go_ret;exact ⟨rfl,rfl⟩)
    refine walk.mono fun e w'' he=>?_
    obtain ⟨rfl,rfl⟩:=he
    refine .inl ⟨b,hgb,rfl,⟨⟨C2.toArray,el,setRow_heap W1 b _ _ el _ hh1,by simp [l2],by simpa using t2⟩,hroom,hrow.mx,hrow.pos,?_,?_⟩,fun c hc=>(setRow_other W1 b c _ hc).trans (ho1 c hc),by rw [hW1];simp,by rw [hW1];rfl,by rw [hW1];rfl,by rw [hW1];rfl⟩
    ·intro y hy
     simp only [List.mem_append] at hy
     rcases hy with (h | h) | h
     ·exact hrow.one y (List.mem_of_mem_take h)
     ·exact hrow2.one y h
     ·exact h1d y h
    ·have e3:i*3≤n*3:=Nat.mul_le_mul_right _ hi
     simp only [List.length_append,List.length_take,List.length_drop,hyl,hnl];omega
   ·have hik:i+(n+1 - i)=n+1:=by omega
    have hkk:(n:Int)+1 - (i:Int)=((n+1 - i:Nat):Int):=by omega
    have hwk:IntKind.i64.wrap ((n:Int)+1 - (i:Int))=(n:Int)+1 - (i:Int):=by rw [IntKind.wrap_i64];omega
    have hb24:i0.bytes=24:=by rw [hb0,hbyt]
    have htl:(ys.take (i*3)).length=i*i0.size:=by rw [List.length_take,hi3,hyl];have:=Nat.mul_le_mul_right 3 hi;omega
    have hold:(Builtin.firstCells i0.size i (.slice (some ⟨b,0,none⟩) i cap)).run Tryz.prog w.drew=.ok (ys.take (i*3)).toArray w.drew :=
     run_firstCells_some w.drew i0.size i ⟨b,0,none⟩ i cap (ys.take (i*3)) htl (fun j v hj=>by
      rw [List.getElem?_take] at hj
      split at hj
      ·rw [Addr.add_mid];exact Cd hrow j v hj
      ·cases hj)
    have hgc:cap<i+(n+1 - i):=by omega
    have hrz:∀ ty,(Builtin.append_ #[68,3] ty #[.slice (some ⟨b,0,none⟩) i cap,.int .i64 ((n:Int)+1 - (i:Int))]).run Tryz.prog w =
      .ok (.slice (some ⟨w.heap.size,0,none⟩) (n+1) (grownCap w (n+1) cap 159)) (w.drew.alloc (.cells ((ys.take (i*3)).toArray++Builtin.zeroCells z.cells (n+1 - i)++Builtin.zeroCells z.cells (grownCap w (n+1) cap 159 - (n+1))) 159)):=fun ty=>by
     have h:=Lib.run_append_grow_zeros w 68 3 ty 159 i0 z .i64 .i64 hu Tryz.underlying3 hi0 hz (some ⟨b,0,none⟩) i cap (ys.take (i*3)) hold (n+1 - i) (by omega) (by rw [hi3];omega) hgc (by omega) (by rw [hb24];omega) (by rw [hb24];exact growslice_fits hgc (by rw [hik];exact hb))
     rw [hik] at h
     rw [hkk]
     exact h
    obtain ⟨G,hG⟩:∃ G,G=grownCap w (n+1) cap 159:=⟨_,rfl⟩
    have hGn:n+1≤G:=by rw [hG];exact grownCap_ge w _ _ _
    have hG63:G≤9223372036854775807:=by
     have:=grownCap_le_maxLen w (n+1) cap 159 (by unfold maxLen;omega)
     rw [← hG] at this
     unfold maxLen at this
     omega
    obtain ⟨R0,hR0⟩:∃ R0:Array Value,R0=(ys.take (i*3)).toArray++Builtin.zeroCells z.cells (n+1 - i)++Builtin.zeroCells z.cells (G - (n+1)):=⟨_,rfl⟩
    rw [← hG,← hR0] at hrz
    have hzl:z.cells.size=3:=by
     have h1:=(hzr ⟨w,fun _=>False,fun _=>[],fun _=>none,fun _=>False⟩)
     obtain ⟨i',z',hi',hs',hz',hzr',hzo'⟩:=zones hok hok.zones ⟨w,fun _=>False,fun _=>[],fun _=>none,fun _=>False⟩
     rw [hi0] at hi';cases hi';rw [hz] at hz';cases hz'
     have:=hzr'.length;have h2:=hok.zlen;rw [hsz] at h2;simp at this;omega
    have hR0l:R0.toList=ys.take (i*3)++((Builtin.zeroCells z.cells (n+1 - i)).toList++(Builtin.zeroCells z.cells (G - (n+1))).toList):=by rw [hR0];simp
    have hR0c:R0.toList.length=G*3:=by
     rw [hR0l]
     simp only [List.length_append,Array.length_toList,size_zeroCells,hzl,htl,hi3]
     omega
    obtain ⟨R1,hR1⟩:∃ R1,R1=R0.toList.take (i*3)++news++R0.toList.drop (i*3+news.length):=⟨_,rfl⟩
    obtain ⟨R2,hR2⟩:∃ R2,R2=R1.take ((i+1)*3)++ys.drop (i*3)++R1.drop ((i+1)*3+(ys.drop (i*3)).length):=⟨_,rfl⟩
    obtain ⟨l2,l1,t2⟩:=uD hR0l hR0c hyl hnl hi hGn hR1 hR2
    obtain ⟨W1,hW1⟩:∃ W1,W1=w.drew.alloc (.cells R0 159):=⟨_,rfl⟩
    have hh1:W1.heap[w.heap.size]?=some (.cells R0 159 (0,0)):=by rw [hW1];exact heap_alloc_new w.drew _
    have lat1:BU w W1:=by rw [hW1];exact (BU.drew w).trans (BU.alloc _ _)
    have hs1:w.heap.size<W1.heap.size:=by rw [hW1];simp
    have hfit1:i*3+news.length≤R0.size:=by
     have h0:R0.size=G*3:=by simpa using hR0c
     rw [h0,hnl];omega
    have hcp1:∀ ty dc,(Builtin.copy_ #[68,68] ty #[.slice (some ⟨w.heap.size,i*3,none⟩) (n+1 - i) dc,.slice (some ⟨xb,0,none⟩) 1 xc]).run Tryz.prog W1=.ok (goInt (1:Nat)) (W1.setRow w.heap.size R1.toArray):=fun ty dc=>by
     rw [hR1]
     exact Hz _ W1 68 68 ty 159 159 i0 hu hi0 w.heap.size (i*3) _ dc R0 hh1 ⟨xb,0,none⟩ _ xc 1 news (by simp only [Nat.min_def];split<;>omega) (by rw [hnl,hi3]) (hns W1 (lat1.keep _ hxl)) hrow2.one (hfit1)
    obtain ⟨W2,hW2⟩:∃ W2,W2=W1.setRow w.heap.size R1.toArray:=⟨_,rfl⟩
    have hh2:W2.heap[w.heap.size]?=some (.cells R1.toArray 159 (0,0)):=by rw [hW2];exact setRow_heap W1 _ R0 _ 159 _ hh1
    have ho2:∀ c,c<w.heap.size→W2.heap[c]?=w.heap[c]?:=fun c hc=>by rw [hW2,setRow_other W1 _ c _ (by omega)];exact lat1.keep c hc
    have hs2:W2.heap.size=W1.heap.size:=by rw [hW2];simp
    have hcp2:∀ ty dc sc,(Builtin.copy_ #[68,68] ty #[.slice (some ⟨w.heap.size,(i+1)*3,none⟩) (n - i) dc,.slice (some ⟨b,i*3,none⟩) (n - i) sc]).run Tryz.prog W2.drew=.ok (goInt (n - i:Nat)) (W2.drew.setRow w.heap.size R2.toArray):=fun ty dc sc=>by
     rw [hR2]
     exact Hz _ W2.drew 68 68 ty 159 159 i0 hu hi0 w.heap.size ((i+1)*3) _ dc R1.toArray hh2 ⟨b,i*3,none⟩ _ sc (n - i) (ys.drop (i*3)) (by simp only [Nat.min_def];split<;>omega) hdl (hys W2.drew (ho2 b hbl)) h1d (by simp only [List.size_toArray,l1];rw [hdl,hi3];omega)
    obtain ⟨W3,hW3⟩:∃ W3,W3=W2.drew.setRow w.heap.size R2.toArray:=⟨_,rfl⟩
    have hh3:W3.heap[w.heap.size]?=some (.cells R2.toArray 159 (0,0)):=by rw [hW3];exact setRow_heap W2.drew _ _ _ 159 _ hh2
    have ho3:∀ c,c<w.heap.size→W3.heap[c]?=w.heap[c]?:=fun c hc=>by rw [hW3,setRow_other W2.drew _ c _ (by omega)];exact ho2 c hc
    have hs3:W3.heap.size=W2.heap.size:=by rw [hW3];simp
    have lat3:BU w W3:=⟨by omega,ho3,by rw [hW3,hW2,hW1];rfl,by rw [hW3,hW2,hW1];rfl,by rw [hW3,hW2,hW1];rfl⟩
    rw [← hW1] at hrz
    rw [← hW2] at hcp1
    rw [← hW3] at hcp2
    have hGi:¬ (G=i):=by omega
    have hGim:¬ (G=i+1):=by omega
    have hci:¬ (cap=i):=by omega
    have hb3:(i:Int)≤(n:Int):=by omega
    have hb4:(i:Int)≤(n:Int)+1:=by omega
    have hb5:(i:Int)+1≤(n:Int)+1:=by omega
    have hz3:(cap:Int)<(n:Int)+1:=by omega
    have walk:Calls Tryz.prog 230 #[.slice (some ⟨b,0,none⟩) n cap,.int .i64 i,.slice (some ⟨xb,0,none⟩) 1 xc] w fun e w''=>e=.returned (.slice (some ⟨w.heap.size,0,none⟩) (n+1) G)∧w''=W3:=by
     clear hW1 hW2 hW3 hR0 hR1 hR2 hR0l hR0c t2 l1 l2 hh1 hh2 hh3 ho2 ho3 hs1 hs2 hs3 lat1 lat3 hok hz hzr hrow hrow2 hys hns hxr htk htk2 hheap hheap2 hdl h1d hcl hi0 hs0 hb0 hcs hcs2 hL hei hyl hnl hold htl hkk hik hzl hG hgc
     go_enter Tryz.func230,Tryz.ntmps230
     go_wp2_with (first
      | (at_builtin;refine Lib.wpList_append_run _ rfl _ _ _ _ rfl _ _ rfl rfl _ _ (hrz _) ?_)
      | (at_builtin;refine wpList_copy_runI _ rfl _ _ 68 68 rfl _ _ rfl rfl (hcp1 _ _) ?_))
     go_region_law_o (refine step_copy_runI rfl _ _ 68 68 rfl _ _ (by simp [Act.eval,Act.put]) (by simp [Act.eval,Act.put]) (hcp2 _ _ _) ?_)
     go_wp2
     all_goals (go_ret;exact ⟨rfl,rfl⟩)
    refine walk.mono fun e w'' he=>?_
    obtain ⟨rfl,rfl⟩:=he
    refine .inr ⟨w.heap.size,G,rfl,⟨⟨R2.toArray,159,hh3,by simp [l2],by simpa using t2⟩,hGn,hG63,by omega,?_,?_⟩,lat3,Nat.le_refl _,by omega⟩
    ·intro y hy
     simp only [List.mem_append] at hy
     rcases hy with (h | h) | h
     ·exact hrow.one y (List.mem_of_mem_take h)
     ·exact hrow2.one y h
     ·exact h1d y h
    ·have e3:i*3≤n*3:=Nat.mul_le_mul_right _ hi
     simp only [List.length_append,List.length_take,List.length_drop,hyl,hnl];omega
def ClP (p:Nat × IFn):Prop:=∀ sz bytes,p.2.clone=some (sz,bytes)→(p.2.owns=[]→Dm Tryz.prog p.1 sz bytes)∧(p.2.owns≠[]→aI Tryz.prog p.1 sz bytes)
theorem vI:Tb Tryz.prog tbl:=by
 have h0:(VL.filter fun p=>p.2.clone.isSome)=[(42,g42),(89,g89),(90,g90),(135,g135),(136,g136),(137,g137),(230,g230)]:=by kernel_rfl
 have h1:∀ p∈[((42,g42):Nat × IFn),(89,g89),(90,g90),(135,g135),(136,g136),(137,g137),(230,g230)],ClP p:=by
  simp only [List.forall_mem_cons]
  exact ⟨fun _ _ h=>by cases h;exact ⟨fun _=>b1c,fun h=>absurd rfl h⟩,fun _ _ h=>by cases h;exact ⟨fun _=>b1b,fun h=>absurd rfl h⟩,fun _ _ h=>by cases h;exact ⟨fun _=>b1a,fun h=>absurd rfl h⟩,fun _ _ h=>by cases h;exact ⟨fun _=>a6f,fun h=>absurd rfl h⟩,fun _ _ h=>by cases h;exact ⟨fun _=>a6e,fun h=>absurd rfl h⟩,fun _ _ h=>by cases h;exact ⟨fun _=>a6d,fun h=>absurd rfl h⟩,fun _ _ h=>by cases h;exact ⟨fun h=>(by cases h),fun _=>a5d MW (ei:=eZ) rfl rfl rfl⟩,fun p hp=>by cases hp⟩
 intro f d sz bytes h hc
 exact h1 (f,d) (by rw [← h0];exact List.mem_filter.2 ⟨Sl h,by simp only [hc];rfl⟩) sz bytes hc
theorem tieOk:Tie Tryz.prog ctx:=⟨MW,by kernel_rfl,vI,b0l⟩
end Ve
