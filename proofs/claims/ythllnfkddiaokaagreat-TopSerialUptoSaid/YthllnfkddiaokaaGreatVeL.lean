/- What a program's types must be for the evaluator: lemmas. -/
import Derived.Test.YthllnfkddiaokaaGreatVeC
import Derived.Laws.StructEq
import Derived.ChangeKeysEq
import Derived.Test.YthllnfkddiaokaaGreatVeT
import Derived.Test.YthllnfkddiaokaaGreatProg
import Derived.KernelRfl
import Derived.Test.YthllnfkddiaokaaGreatVeM
import Derived.WalkKit
import Derived.ProofKit
import Derived.Lib.SliceRun
import Derived.Lib.AppendZerosOnto
import Derived.Lib.Overlaps
import Derived.Shelf.Spec.SlicesInsert
set_option linter.all false
set_option linter.unusedSectionVars false
namespace Ve
open Go
theorem El {P:Program}:∀ {fields:List Field} {fs:List (Nat × Nat)},fields.mapM (fun f=>(P.info? f.type).map fun i=>(f.offset,i.size))=some fs→(fs.all fun p=>p.2 != 0)=true →
  ∀ (j:Nat) (p:Nat × Nat),fs[j]?=some p→∃ f:Field,fields[j]?=some f∧f.offset=p.1∧(∃ i,P.info? f.type=some i∧i.size=p.2)∧p.2≠0
 | [],fs,h,hz,j,p,hj=>by simp at h;subst h;simp at hj
 | f::fields,fs,h,hz,j,p,hj=>by
  simp only [List.mapM_cons,Option.bind_eq_bind,Option.bind_eq_some_iff,Option.map_eq_some_iff] at h
  obtain ⟨q,⟨i,hi,rfl⟩,r,hr,h⟩:=h
  simp only [Option.pure_def,Option.some.injEq] at h
  subst h
  simp only [List.all_cons,Bool.and_eq_true] at hz
  cases j with
  | zero=>simp at hj;subst hj;exact ⟨f,rfl,rfl,⟨i,hi,rfl⟩,by simpa using hz.1⟩
  | succ j=>simpa using El hr hz.2 j p (by simpa using hj)
theorem ES {P:Program} {t:TypeId} {ft:List TypeId} {fields0:Array Field} (h0:P.underlying t=some (.struct fields0)) (h1:fields0.toList.map (·.type)=ft) :
  ∀ fields,P.underlying t=some (.struct fields)→∀ (j:Nat) (u:TypeId),ft[j]?=some u→∃ f:Field,fields[j]?=some f∧f.type=u:=by
 intro fields hf j u hj
 rw [h0] at hf
 cases hf
 subst h1
 rw [List.getElem?_map,Option.map_eq_some_iff] at hj
 obtain ⟨f,hf,rfl⟩:=hj
 exact ⟨f,by simpa using hf,rfl⟩
theorem vQ {a b:Value} {xs ys:List Value} {r:Bool} (h:BA (V.lit a::xs.map V.lit) (V.lit b::ys.map V.lit)=some r) :
  ∃ k x y z,a=.int k x∧b=.int k y∧BA (xs.map V.lit) (ys.map V.lit)=some z∧r=(decide (x=y)&&z):=by
 simp only [BA] at h
 split at h
 ·rename_i x z hx hz
  simp only [Option.some.injEq] at h
  unfold PT at hx
  split at hx
  ·rename_i e1 e2
   cases e1;cases e2
   split at hx
   ·rename_i hk;subst hk
    simp only [Option.some.injEq] at hx
    exact ⟨_,_,_,z,rfl,rfl,hz,by rw [← h,← hx]⟩
   ·cases hx
  ·cases hx
 ·cases h
theorem VY {xs ys:List Value} {r:Bool} (h:BA (xs.map V.lit) (ys.map V.lit)=some r) (hl:0<xs.length) :
  ∃ k x y z xs' ys',xs=.int k x::xs'∧ys=.int k y::ys'∧BA (xs'.map V.lit) (ys'.map V.lit)=some z∧r=(decide (x=y)&&z):=by
 cases xs with
 | nil=>simp at hl
 | cons a xs =>
  cases ys with
  | nil=>simp [BA] at h
  | cons b ys =>
   obtain ⟨k,x,y,z,rfl,rfl,hz,hr⟩:=vQ h
   exact ⟨k,x,y,z,xs,ys,rfl,rfl,hz,hr⟩
theorem GJ {P:Program} (w:World) {t:TypeId} {k:IntKind} (ht:P.underlying t=some (.int k)) {xs:Array Value} {off:Nat} {v:Value} (hx:xs[off]?=some v):(part t xs off).run P w=.ok v w:=by
 simp [part,isAgg,run_underlying ht,hx]
def Kw (P:Program):Nat→List Field→Bool
 | _,[]=>true
 | j,f::r=>(f.name != "_")&&(f.offset == j)&&(match P.underlying f.type with | some (.int _)=>true | _=>false)&&Kw P (j+1) r
theorem NP {P:Program} (w:World) (d:Nat):∀ (fs:List Field) (px py xs ys:List Value) (r:Bool),px.length=py.length→Kw P px.length fs=true→xs.length=fs.length→BA (xs.map V.lit) (ys.map V.lit)=some r →
  (Op.eqFields (d+1) (px++xs).toArray (py++ys).toArray fs).run P w=.ok r w
 | [],px,py,xs,ys,r,hp,hf,hl,h=>by
  have:xs=[]:=by simpa using hl
  subst this
  cases ys with
  | nil=>simp [BA] at h;subst h;simp [Op.eqFields]
  | cons b ys=>simp [BA] at h
 | f::fs,px,py,xs,ys,r,hp,hf,hl,h=>by
  obtain ⟨k,x,y,z,xs',ys',rfl,rfl,hz,rfl⟩:=VY h (by simp at hl;omega)
  simp only [Kw,Bool.and_eq_true,bne_iff_ne,ne_eq,beq_iff_eq] at hf
  obtain ⟨⟨⟨h1,h2⟩,h3⟩,h4⟩:=hf
  cases hu:P.underlying f.type with
  | none=>simp [hu] at h3
  | some dd =>
   cases dd<;>simp [hu] at h3
   rename_i kk
   have ih:=NP w d fs (px++[.int k x]) (py++[.int k y]) xs' ys' z (by simp [hp]) (by simpa using h4) (by simpa using hl) hz
   have e1:(px++Value.int k x::xs').toArray[f.offset]?=some (.int k x):=by simp [h2]
   have e2:(py++Value.int k y::ys').toArray[f.offset]?=some (.int k y):=by simp [h2,hp]
   simp only [Op.eqFields,ne_eq,h1,not_false_eq_true,if_true,Sem.run_bind,GJ w hu e1,GJ w hu e2,Result.andThen_ok,run_equalIn_int w d f.type k kk x y hu]
   by_cases hxy:x=y
   ·subst hxy
    simp only [beq_self_eq_true,Bool.not_true,Bool.false_eq_true,if_false,decide_true,Bool.true_and]
    simpa using ih
   ·simp [hxy]
theorem PI {P:Program} (w:World) (d:Nat) {e:TypeId} {k0:IntKind} (he:P.underlying e=some (.int k0)):∀ (n j:Nat) (px py xs ys:List Value) (r:Bool),px.length=j→py.length=j→xs.length=n→BA (xs.map V.lit) (ys.map V.lit)=some r →
  (Op.eqItems (d+1) e 1 (px++xs).toArray (py++ys).toArray (List.range' j n)).run P w=.ok r w
 | 0,j,px,py,xs,ys,r,hp,hp',hl,h=>by
  have:xs=[]:=by simpa using hl
  subst this
  cases ys with
  | nil=>simp [BA] at h;subst h;simp [Op.eqItems]
  | cons b ys=>simp [BA] at h
 | n+1,j,px,py,xs,ys,r,hp,hp',hl,h=>by
  obtain ⟨k,x,y,z,xs',ys',rfl,rfl,hz,rfl⟩:=VY h (by omega)
  have ih:=PI w d he n (j+1) (px++[.int k x]) (py++[.int k y]) xs' ys' z (by simp [hp]) (by simp [hp']) (by simpa using hl) hz
  have e1:(px++Value.int k x::xs').toArray[j*1]?=some (.int k x):=by simp [hp]
  have e2:(py++Value.int k y::ys').toArray[j*1]?=some (.int k y):=by simp [hp']
  simp only [List.range'_succ,Op.eqItems,Sem.run_bind,GJ w he e1,GJ w he e2,Result.andThen_ok,run_equalIn_int w d e k k0 x y he]
  by_cases hxy:x=y
  ·subst hxy
   simp only [beq_self_eq_true,Bool.not_true,Bool.false_eq_true,if_false,decide_true,Bool.true_and]
   simpa using ih
  ·simp [hxy]
abbrev Un (P:Program) (t:TypeId) (size:Nat):Prop:=∀ (xs ys:List Value) (r:Bool),BA (xs.map V.lit) (ys.map V.lit)=some r→xs.length=size→∀ (x y:Operand) (w:World),
  ((do eqGuard .eql t x y (.agg xs.toArray) (.agg ys.toArray);binOp .eql t (.agg xs.toArray) (.agg ys.toArray):Sem Value)).run P w=.ok (.bool r) w ∧
  ((do eqGuard .neq t x y (.agg xs.toArray) (.agg ys.toArray);binOp .neq t (.agg xs.toArray) (.agg ys.toArray):Sem Value)).run P w=.ok (.bool (!r)) w
theorem Vd {P:Program} {t:TypeId} {size:Nat} (hm:P.eqGuardType P.depth t=false) (h:∀ (xs ys:List Value) (r:Bool),BA (xs.map V.lit) (ys.map V.lit)=some r→xs.length=size→∀ w,(Op.equalIn 10000 t (.agg xs.toArray) (.agg ys.toArray)).run P w=.ok r w):Un P t size:=by
 intro xs ys r he hl x y w
 have:=h xs ys r he hl w
 constructor
 ·simp only [Sem.run_bind,run_eqGuard_agg w _ t x y _ _ hm,Result.andThen_ok,run_eql_struct,this]
 ·simp only [Sem.run_bind,run_eqGuard_agg w _ t x y _ _ hm,Result.andThen_ok,run_neq_struct,this]
theorem Eh {P:Program} {t:TypeId} {size:Nat} (hm:P.eqGuardType P.depth t=false) (ht:P.underlying t=some (.struct (P.fieldsOf t))) (hp:P.stoodInHeld t=false) (hf:Kw P 0 (P.fieldsOf t).toList=true) (hl:(P.fieldsOf t).toList.length=size):Un P t size :=
 Vd hm fun xs ys r he hs w=>by
  rw [show (10000:Nat)=9998+1+1 from rfl,run_equalIn_agg w (9998+1) t _ _ ht hp]
  exact NP w 9998 _ [] [] xs ys r rfl hf (by omega) he
theorem cL {P:Program} {t e:TypeId} {n:Nat} {k:IntKind} {i:TypeInfo} (hm:P.eqGuardType P.depth t=false) (ht:P.underlying t=some (.array n e)) (hi:P.info? e=some i) (he:P.underlying e=some (.int k)) (hc:P.cellsOf e=1):Un P t n :=
 Vd hm fun xs ys r hq hs w=>by
  rw [show (10000:Nat)=9998+1+1 from rfl,run_equalIn_array w (9998+1) _ _ ht hi,hc,List.range_eq_range']
  exact PI w 9998 he n 0 [] [] xs ys r rfl rfl hs hq
theorem CH {E:Env} {m:Md} {cs:List V} {ys:List Value} {vs:List V} {xs:List Value} (h:Rs E m cs ys []) (h':Rs E m vs xs []):Rs E m (.agg cs::vs) (.agg ys.toArray::xs) []:=Rs.agg h h'
end Ve
namespace Ve
open Go
set_option maxRecDepth 10000
theorem ly1:BO Go.Proofs.Tryz.prog lay 1 y1 :=
 ⟨⟨(Go.Proofs.Tryz.prog.info? 1).get (by kernel_rfl),(Option.some_get _).symm,by kernel_rfl,by kernel_rfl,(.nilFunc),by kernel_rfl,(fun E=>(.lit .nil))⟩,by decide,by decide,rfl,by decide,rfl,⟨(Go.Proofs.Tryz.prog.underlying 1).get (by kernel_rfl),(Option.some_get _).symm,by kernel_rfl⟩,
  (fun fs h=>by cases h),(fun n el h=>by cases h),(fun fs h=>by cases h),(fun el h=>by cases h),(fun k h=>by cases h),(fun h=>by cases h),(fun k b h=>by cases h),(fun h=>by cases h)⟩
theorem ly2:BO Go.Proofs.Tryz.prog lay 2 y2 :=
 ⟨⟨(Go.Proofs.Tryz.prog.info? 2).get (by kernel_rfl),(Option.some_get _).symm,by kernel_rfl,by kernel_rfl,(.int .i64 0),by kernel_rfl,(fun E=>(.lit .nil))⟩,by decide,by decide,rfl,by decide,rfl,⟨(Go.Proofs.Tryz.prog.underlying 2).get (by kernel_rfl),(Option.some_get _).symm,by kernel_rfl⟩,
  (fun fs h=>by cases h),(fun n el h=>by cases h),(fun fs h=>by cases h),(fun el h=>by cases h),(fun k h=>by cases h;kernel_rfl),(fun h=>by cases h),(fun k b h=>by cases h),(fun h=>by cases h)⟩
theorem ly3:BO Go.Proofs.Tryz.prog lay 3 y3 :=
 ⟨⟨(Go.Proofs.Tryz.prog.info? 3).get (by kernel_rfl),(Option.some_get _).symm,by kernel_rfl,by kernel_rfl,(.int .i64 0),by kernel_rfl,(fun E=>(.lit .nil))⟩,by decide,by decide,rfl,by decide,rfl,⟨(Go.Proofs.Tryz.prog.underlying 3).get (by kernel_rfl),(Option.some_get _).symm,by kernel_rfl⟩,
  (fun fs h=>by cases h),(fun n el h=>by cases h),(fun fs h=>by cases h),(fun el h=>by cases h),(fun k h=>by cases h;kernel_rfl),(fun h=>by cases h),(fun k b h=>by cases h),(fun h=>by cases h)⟩
theorem ly4:BO Go.Proofs.Tryz.prog lay 4 y4 :=
 ⟨⟨(Go.Proofs.Tryz.prog.info? 4).get (by kernel_rfl),(Option.some_get _).symm,by kernel_rfl,by kernel_rfl,(.bool false),by kernel_rfl,(fun E=>(.lit .nil))⟩,by decide,by decide,rfl,by decide,rfl,⟨(Go.Proofs.Tryz.prog.underlying 4).get (by kernel_rfl),(Option.some_get _).symm,by kernel_rfl⟩,
  (fun fs h=>by cases h),(fun n el h=>by cases h),(fun fs h=>by cases h),(fun el h=>by cases h),(fun k h=>by cases h),(fun h=>by kernel_rfl),(fun k b h=>by cases h),(fun h=>by cases h)⟩
theorem ly5:BO Go.Proofs.Tryz.prog lay 5 y5 :=
 ⟨⟨(Go.Proofs.Tryz.prog.info? 5).get (by kernel_rfl),(Option.some_get _).symm,by kernel_rfl,by kernel_rfl,(.int .u8 0),by kernel_rfl,(fun E=>(.lit .nil))⟩,by decide,by decide,rfl,by decide,rfl,⟨(Go.Proofs.Tryz.prog.underlying 5).get (by kernel_rfl),(Option.some_get _).symm,by kernel_rfl⟩,
  (fun fs h=>by cases h),(fun n el h=>by cases h),(fun fs h=>by cases h),(fun el h=>by cases h),(fun k h=>by cases h;kernel_rfl),(fun h=>by cases h),(fun k b h=>by cases h),(fun h=>by cases h)⟩
theorem ly6:BO Go.Proofs.Tryz.prog lay 6 y6 :=
 ⟨⟨(Go.Proofs.Tryz.prog.info? 6).get (by kernel_rfl),(Option.some_get _).symm,by kernel_rfl,by kernel_rfl,(.int .u8 0),by kernel_rfl,(fun E=>(.lit .nil))⟩,by decide,by decide,rfl,by decide,rfl,⟨(Go.Proofs.Tryz.prog.underlying 6).get (by kernel_rfl),(Option.some_get _).symm,by kernel_rfl⟩,
  (fun fs h=>by cases h),(fun n el h=>by cases h),(fun fs h=>by cases h),(fun el h=>by cases h),(fun k h=>by cases h;kernel_rfl),(fun h=>by cases h),(fun k b h=>by cases h),(fun h=>by cases h)⟩
theorem ly7:BO Go.Proofs.Tryz.prog lay 7 y7 :=
 ⟨⟨(Go.Proofs.Tryz.prog.info? 7).get (by kernel_rfl),(Option.some_get _).symm,by kernel_rfl,by kernel_rfl,(.agg #[.int .i64 0,.int .i64 0,.bool false,.int .u8 0]),by kernel_rfl,(fun E=>(CH (.lit (.lit (.lit (.lit .nil)))) .nil))⟩,by decide,by decide,rfl,by decide,rfl,⟨(Go.Proofs.Tryz.prog.underlying 7).get (by kernel_rfl),(Option.some_get _).symm,by kernel_rfl⟩,
  (fun fs h=>by cases h;exact ⟨Go.Proofs.Tryz.prog.fieldsOf 7,by kernel_rfl,by kernel_rfl,fun j p hj=>by simpa using El (fields:=(Go.Proofs.Tryz.prog.fieldsOf 7).toList) (by kernel_rfl) (by decide) j p hj⟩),(fun n el h=>by cases h),(fun fs h=>by cases h;exact ES (fields0:=Go.Proofs.Tryz.prog.fieldsOf 7) (by kernel_rfl) (by kernel_rfl)),(fun el h=>by cases h),(fun k h=>by cases h),(fun h=>by cases h),(fun k b h=>by cases h),(fun h=>by cases h)⟩
theorem ly8:BO Go.Proofs.Tryz.prog lay 8 y8 :=
 ⟨⟨(Go.Proofs.Tryz.prog.info? 8).get (by kernel_rfl),(Option.some_get _).symm,by kernel_rfl,by kernel_rfl,(.agg #[.int .i64 0,.int .i64 0,.bool false,.int .u8 0]),by kernel_rfl,(fun E=>(CH (.lit (.lit (.lit (.lit .nil)))) .nil))⟩,by decide,by decide,rfl,by decide,rfl,⟨(Go.Proofs.Tryz.prog.underlying 8).get (by kernel_rfl),(Option.some_get _).symm,by kernel_rfl⟩,
  (fun fs h=>by cases h;exact ⟨Go.Proofs.Tryz.prog.fieldsOf 8,by kernel_rfl,by kernel_rfl,fun j p hj=>by simpa using El (fields:=(Go.Proofs.Tryz.prog.fieldsOf 8).toList) (by kernel_rfl) (by decide) j p hj⟩),(fun n el h=>by cases h),(fun fs h=>by cases h;exact ES (fields0:=Go.Proofs.Tryz.prog.fieldsOf 8) (by kernel_rfl) (by kernel_rfl)),(fun el h=>by cases h),(fun k h=>by cases h),(fun h=>by cases h),(fun k b h=>by cases h),(fun h=>by cases h)⟩
theorem ly9:BO Go.Proofs.Tryz.prog lay 9 y9 :=
 ⟨⟨(Go.Proofs.Tryz.prog.info? 9).get (by kernel_rfl),(Option.some_get _).symm,by kernel_rfl,by kernel_rfl,(.string ⟨#[]⟩),by kernel_rfl,(fun E=>(.lit .nil))⟩,by decide,by decide,rfl,by decide,rfl,⟨(Go.Proofs.Tryz.prog.underlying 9).get (by kernel_rfl),(Option.some_get _).symm,by kernel_rfl⟩,
  (fun fs h=>by cases h),(fun n el h=>by cases h),(fun fs h=>by cases h),(fun el h=>by cases h),(fun k h=>by cases h),(fun h=>by cases h),(fun k b h=>by cases h),(fun h=>by cases h)⟩
theorem ly10:BO Go.Proofs.Tryz.prog lay 10 y10 :=
 ⟨⟨(Go.Proofs.Tryz.prog.info? 10).get (by kernel_rfl),(Option.some_get _).symm,by kernel_rfl,by kernel_rfl,(.string ⟨#[]⟩),by kernel_rfl,(fun E=>(.lit .nil))⟩,by decide,by decide,rfl,by decide,rfl,⟨(Go.Proofs.Tryz.prog.underlying 10).get (by kernel_rfl),(Option.some_get _).symm,by kernel_rfl⟩,
  (fun fs h=>by cases h),(fun n el h=>by cases h),(fun fs h=>by cases h),(fun el h=>by cases h),(fun k h=>by cases h),(fun h=>by cases h),(fun k b h=>by cases h),(fun h=>by cases h)⟩
theorem ly11:BO Go.Proofs.Tryz.prog lay 11 y11 :=
 ⟨⟨(Go.Proofs.Tryz.prog.info? 11).get (by kernel_rfl),(Option.some_get _).symm,by kernel_rfl,by kernel_rfl,(.string ⟨#[]⟩),by kernel_rfl,(fun E=>(.lit .nil))⟩,by decide,by decide,rfl,by decide,rfl,⟨(Go.Proofs.Tryz.prog.underlying 11).get (by kernel_rfl),(Option.some_get _).symm,by kernel_rfl⟩,
  (fun fs h=>by cases h),(fun n el h=>by cases h),(fun fs h=>by cases h),(fun el h=>by cases h),(fun k h=>by cases h),(fun h=>by cases h),(fun k b h=>by cases h),(fun h=>by cases h)⟩
theorem ly12:BO Go.Proofs.Tryz.prog lay 12 y12 :=
 ⟨⟨(Go.Proofs.Tryz.prog.info? 12).get (by kernel_rfl),(Option.some_get _).symm,by kernel_rfl,by kernel_rfl,(.int .u64 0),by kernel_rfl,(fun E=>(.lit .nil))⟩,by decide,by decide,rfl,by decide,rfl,⟨(Go.Proofs.Tryz.prog.underlying 12).get (by kernel_rfl),(Option.some_get _).symm,by kernel_rfl⟩,
  (fun fs h=>by cases h),(fun n el h=>by cases h),(fun fs h=>by cases h),(fun el h=>by cases h),(fun k h=>by cases h;kernel_rfl),(fun h=>by cases h),(fun k b h=>by cases h),(fun h=>by cases h)⟩
theorem ly13:BO Go.Proofs.Tryz.prog lay 13 y13 :=
 ⟨⟨(Go.Proofs.Tryz.prog.info? 13).get (by kernel_rfl),(Option.some_get _).symm,by kernel_rfl,by kernel_rfl,(.agg #[.string ⟨#[]⟩,.int .u64 0]),by kernel_rfl,(fun E=>(CH (.lit (.lit .nil)) .nil))⟩,by decide,by decide,rfl,by decide,rfl,⟨(Go.Proofs.Tryz.prog.underlying 13).get (by kernel_rfl),(Option.some_get _).symm,by kernel_rfl⟩,
  (fun fs h=>by cases h;exact ⟨Go.Proofs.Tryz.prog.fieldsOf 13,by kernel_rfl,by kernel_rfl,fun j p hj=>by simpa using El (fields:=(Go.Proofs.Tryz.prog.fieldsOf 13).toList) (by kernel_rfl) (by decide) j p hj⟩),(fun n el h=>by cases h),(fun fs h=>by cases h;exact ES (fields0:=Go.Proofs.Tryz.prog.fieldsOf 13) (by kernel_rfl) (by kernel_rfl)),(fun el h=>by cases h),(fun k h=>by cases h),(fun h=>by cases h),(fun k b h=>by cases h),(fun h=>by cases h)⟩
theorem ly22:BO Go.Proofs.Tryz.prog lay 22 y22 :=
 ⟨⟨(Go.Proofs.Tryz.prog.info? 22).get (by kernel_rfl),(Option.some_get _).symm,by kernel_rfl,by kernel_rfl,(.slice none 0 0),by kernel_rfl,(fun E=>(.own0 (by decide) .nil))⟩,by decide,by decide,rfl,by decide,rfl,⟨(Go.Proofs.Tryz.prog.underlying 22).get (by kernel_rfl),(Option.some_get _).symm,by kernel_rfl⟩,
  (fun fs h=>by cases h),(fun n el h=>by cases h),(fun fs h=>by cases h),(fun el h=>by cases h;kernel_rfl),(fun k h=>by cases h),(fun h=>by cases h),(fun k b h=>by cases h),(fun h=>by cases h)⟩
theorem ly23:BO Go.Proofs.Tryz.prog lay 23 y23 :=
 ⟨⟨(Go.Proofs.Tryz.prog.info? 23).get (by kernel_rfl),(Option.some_get _).symm,by kernel_rfl,by kernel_rfl,(.agg #[.slice none 0 0,.slice none 0 0,.slice none 0 0,.slice none 0 0]),by kernel_rfl,(fun E=>(CH (.own0 (by decide) (.own0 (by decide) (.own0 (by decide) (.own0 (by decide) .nil)))) .nil))⟩,by decide,by decide,rfl,by decide,rfl,⟨(Go.Proofs.Tryz.prog.underlying 23).get (by kernel_rfl),(Option.some_get _).symm,by kernel_rfl⟩,
  (fun fs h=>by cases h),(fun n el h=>by cases h;kernel_rfl),(fun fs h=>by cases h),(fun el h=>by cases h),(fun k h=>by cases h),(fun h=>by cases h),(fun k b h=>by cases h),(fun h=>by cases h)⟩
theorem ly24:BO Go.Proofs.Tryz.prog lay 24 y24 :=
 ⟨⟨(Go.Proofs.Tryz.prog.info? 24).get (by kernel_rfl),(Option.some_get _).symm,by kernel_rfl,by kernel_rfl,(.slice none 0 0),by kernel_rfl,(fun E=>(.own0 (by decide) .nil))⟩,by decide,by decide,rfl,by decide,rfl,⟨(Go.Proofs.Tryz.prog.underlying 24).get (by kernel_rfl),(Option.some_get _).symm,by kernel_rfl⟩,
  (fun fs h=>by cases h),(fun n el h=>by cases h),(fun fs h=>by cases h),(fun el h=>by cases h;kernel_rfl),(fun k h=>by cases h),(fun h=>by cases h),(fun k b h=>by cases h),(fun h=>by cases h)⟩
theorem ly25:BO Go.Proofs.Tryz.prog lay 25 y25 :=
 ⟨⟨(Go.Proofs.Tryz.prog.info? 25).get (by kernel_rfl),(Option.some_get _).symm,by kernel_rfl,by kernel_rfl,(.slice none 0 0),by kernel_rfl,(fun E=>(.own0 (by decide) .nil))⟩,by decide,by decide,rfl,by decide,rfl,⟨(Go.Proofs.Tryz.prog.underlying 25).get (by kernel_rfl),(Option.some_get _).symm,by kernel_rfl⟩,
  (fun fs h=>by cases h),(fun n el h=>by cases h),(fun fs h=>by cases h),(fun el h=>by cases h;kernel_rfl),(fun k h=>by cases h),(fun h=>by cases h),(fun k b h=>by cases h),(fun h=>by cases h)⟩
theorem ly27:BO Go.Proofs.Tryz.prog lay 27 y27 :=
 ⟨⟨(Go.Proofs.Tryz.prog.info? 27).get (by kernel_rfl),(Option.some_get _).symm,by kernel_rfl,by kernel_rfl,(.agg #[.slice none 0 0,.slice none 0 0,.slice none 0 0,.slice none 0 0,.int .i64 0,.slice none 0 0,.slice none 0 0]),by kernel_rfl,(fun E=>(CH (.own0 (by decide) (.own0 (by decide) (.own0 (by decide) (.own0 (by decide) (.lit (.own0 (by decide) (.own0 (by decide) .nil))))))) .nil))⟩,by decide,by decide,rfl,by decide,rfl,⟨(Go.Proofs.Tryz.prog.underlying 27).get (by kernel_rfl),(Option.some_get _).symm,by kernel_rfl⟩,
  (fun fs h=>by cases h;exact ⟨Go.Proofs.Tryz.prog.fieldsOf 27,by kernel_rfl,by kernel_rfl,fun j p hj=>by simpa using El (fields:=(Go.Proofs.Tryz.prog.fieldsOf 27).toList) (by kernel_rfl) (by decide) j p hj⟩),(fun n el h=>by cases h),(fun fs h=>by cases h;exact ES (fields0:=Go.Proofs.Tryz.prog.fieldsOf 27) (by kernel_rfl) (by kernel_rfl)),(fun el h=>by cases h),(fun k h=>by cases h),(fun h=>by cases h),(fun k b h=>by cases h),(fun h=>by cases h)⟩
theorem ly29:BO Go.Proofs.Tryz.prog lay 29 y29 :=
 ⟨⟨(Go.Proofs.Tryz.prog.info? 29).get (by kernel_rfl),(Option.some_get _).symm,by kernel_rfl,by kernel_rfl,(.slice none 0 0),by kernel_rfl,(fun E=>(.own0 (by decide) .nil))⟩,by decide,by decide,rfl,by decide,rfl,⟨(Go.Proofs.Tryz.prog.underlying 29).get (by kernel_rfl),(Option.some_get _).symm,by kernel_rfl⟩,
  (fun fs h=>by cases h),(fun n el h=>by cases h),(fun fs h=>by cases h),(fun el h=>by cases h;kernel_rfl),(fun k h=>by cases h),(fun h=>by cases h),(fun k b h=>by cases h),(fun h=>by cases h)⟩
theorem ly30:BO Go.Proofs.Tryz.prog lay 30 y30 :=
 ⟨⟨(Go.Proofs.Tryz.prog.info? 30).get (by kernel_rfl),(Option.some_get _).symm,by kernel_rfl,by kernel_rfl,(.agg #[.slice none 0 0,.slice none 0 0,.slice none 0 0,.slice none 0 0]),by kernel_rfl,(fun E=>(CH (.own0 (by decide) (.own0 (by decide) (.own0 (by decide) (.own0 (by decide) .nil)))) .nil))⟩,by decide,by decide,rfl,by decide,rfl,⟨(Go.Proofs.Tryz.prog.underlying 30).get (by kernel_rfl),(Option.some_get _).symm,by kernel_rfl⟩,
  (fun fs h=>by cases h),(fun n el h=>by cases h;kernel_rfl),(fun fs h=>by cases h),(fun el h=>by cases h),(fun k h=>by cases h),(fun h=>by cases h),(fun k b h=>by cases h),(fun h=>by cases h)⟩
theorem ly31:BO Go.Proofs.Tryz.prog lay 31 y31 :=
 ⟨⟨(Go.Proofs.Tryz.prog.info? 31).get (by kernel_rfl),(Option.some_get _).symm,by kernel_rfl,by kernel_rfl,(.agg #[.int .i64 0,.int .i64 0,.int .i64 0,.int .i64 0]),by kernel_rfl,(fun E=>(CH (.lit (.lit (.lit (.lit .nil)))) .nil))⟩,by decide,by decide,rfl,by decide,rfl,⟨(Go.Proofs.Tryz.prog.underlying 31).get (by kernel_rfl),(Option.some_get _).symm,by kernel_rfl⟩,
  (fun fs h=>by cases h),(fun n el h=>by cases h;kernel_rfl),(fun fs h=>by cases h),(fun el h=>by cases h),(fun k h=>by cases h),(fun h=>by cases h),(fun k b h=>by cases h),(fun _=>cL (k:=.i64) (i:=(Go.Proofs.Tryz.prog.info? 3).get (by kernel_rfl)) (by kernel_rfl) (by kernel_rfl) (Option.some_get _).symm (by kernel_rfl) (by kernel_rfl))⟩
theorem ly32:BO Go.Proofs.Tryz.prog lay 32 y32 :=
 ⟨⟨(Go.Proofs.Tryz.prog.info? 32).get (by kernel_rfl),(Option.some_get _).symm,by kernel_rfl,by kernel_rfl,(.slice none 0 0),by kernel_rfl,(fun E=>(.own0 (by decide) .nil))⟩,by decide,by decide,rfl,by decide,rfl,⟨(Go.Proofs.Tryz.prog.underlying 32).get (by kernel_rfl),(Option.some_get _).symm,by kernel_rfl⟩,
  (fun fs h=>by cases h),(fun n el h=>by cases h),(fun fs h=>by cases h),(fun el h=>by cases h;kernel_rfl),(fun k h=>by cases h),(fun h=>by cases h),(fun k b h=>by cases h),(fun h=>by cases h)⟩
theorem ly33:BO Go.Proofs.Tryz.prog lay 33 y33 :=
 ⟨⟨(Go.Proofs.Tryz.prog.info? 33).get (by kernel_rfl),(Option.some_get _).symm,by kernel_rfl,by kernel_rfl,(.slice none 0 0),by kernel_rfl,(fun E=>(.own0 (by decide) .nil))⟩,by decide,by decide,rfl,by decide,rfl,⟨(Go.Proofs.Tryz.prog.underlying 33).get (by kernel_rfl),(Option.some_get _).symm,by kernel_rfl⟩,
  (fun fs h=>by cases h),(fun n el h=>by cases h),(fun fs h=>by cases h),(fun el h=>by cases h;kernel_rfl),(fun k h=>by cases h),(fun h=>by cases h),(fun k b h=>by cases h),(fun h=>by cases h)⟩
theorem ly35:BO Go.Proofs.Tryz.prog lay 35 y35 :=
 ⟨⟨(Go.Proofs.Tryz.prog.info? 35).get (by kernel_rfl),(Option.some_get _).symm,by kernel_rfl,by kernel_rfl,(.agg #[.slice none 0 0,.slice none 0 0,.slice none 0 0,.slice none 0 0,.int .i64 0,.int .i64 0,.int .i64 0,.int .i64 0,.int .i64 0,.slice none 0 0,.slice none 0 0]),by kernel_rfl,(fun E=>(CH (.own0 (by decide) (.own0 (by decide) (.own0 (by decide) (.own0 (by decide) (.lit (.lit (.lit (.lit (.lit (.own0 (by decide) (.own0 (by decide) .nil))))))))))) .nil))⟩,by decide,by decide,rfl,by decide,rfl,⟨(Go.Proofs.Tryz.prog.underlying 35).get (by kernel_rfl),(Option.some_get _).symm,by kernel_rfl⟩,
  (fun fs h=>by cases h;exact ⟨Go.Proofs.Tryz.prog.fieldsOf 35,by kernel_rfl,by kernel_rfl,fun j p hj=>by simpa using El (fields:=(Go.Proofs.Tryz.prog.fieldsOf 35).toList) (by kernel_rfl) (by decide) j p hj⟩),(fun n el h=>by cases h),(fun fs h=>by cases h;exact ES (fields0:=Go.Proofs.Tryz.prog.fieldsOf 35) (by kernel_rfl) (by kernel_rfl)),(fun el h=>by cases h),(fun k h=>by cases h),(fun h=>by cases h),(fun k b h=>by cases h),(fun h=>by cases h)⟩
theorem ly36:BO Go.Proofs.Tryz.prog lay 36 y36 :=
 ⟨⟨(Go.Proofs.Tryz.prog.info? 36).get (by kernel_rfl),(Option.some_get _).symm,by kernel_rfl,by kernel_rfl,(.int .i64 0),by kernel_rfl,(fun E=>(.lit .nil))⟩,by decide,by decide,rfl,by decide,rfl,⟨(Go.Proofs.Tryz.prog.underlying 36).get (by kernel_rfl),(Option.some_get _).symm,by kernel_rfl⟩,
  (fun fs h=>by cases h),(fun n el h=>by cases h),(fun fs h=>by cases h),(fun el h=>by cases h),(fun k h=>by cases h;kernel_rfl),(fun h=>by cases h),(fun k b h=>by cases h),(fun h=>by cases h)⟩
theorem ly44:BO Go.Proofs.Tryz.prog lay 44 y44 :=
 ⟨⟨(Go.Proofs.Tryz.prog.info? 44).get (by kernel_rfl),(Option.some_get _).symm,by kernel_rfl,by kernel_rfl,(.agg #[.int .i64 0,.int .i64 0]),by kernel_rfl,(fun E=>(CH (.lit (.lit .nil)) .nil))⟩,by decide,by decide,rfl,by decide,rfl,⟨(Go.Proofs.Tryz.prog.underlying 44).get (by kernel_rfl),(Option.some_get _).symm,by kernel_rfl⟩,
  (fun fs h=>by cases h;exact ⟨Go.Proofs.Tryz.prog.fieldsOf 44,by kernel_rfl,by kernel_rfl,fun j p hj=>by simpa using El (fields:=(Go.Proofs.Tryz.prog.fieldsOf 44).toList) (by kernel_rfl) (by decide) j p hj⟩),(fun n el h=>by cases h),(fun fs h=>by cases h;exact ES (fields0:=Go.Proofs.Tryz.prog.fieldsOf 44) (by kernel_rfl) (by kernel_rfl)),(fun el h=>by cases h),(fun k h=>by cases h),(fun h=>by cases h),(fun k b h=>by cases h),(fun _=>Eh (by kernel_rfl) (by kernel_rfl) (by kernel_rfl) (by kernel_rfl) (by kernel_rfl))⟩
theorem ly45:BO Go.Proofs.Tryz.prog lay 45 y45 :=
 ⟨⟨(Go.Proofs.Tryz.prog.info? 45).get (by kernel_rfl),(Option.some_get _).symm,by kernel_rfl,by kernel_rfl,(.slice none 0 0),by kernel_rfl,(fun E=>(.own0 (by decide) .nil))⟩,by decide,by decide,rfl,by decide,rfl,⟨(Go.Proofs.Tryz.prog.underlying 45).get (by kernel_rfl),(Option.some_get _).symm,by kernel_rfl⟩,
  (fun fs h=>by cases h),(fun n el h=>by cases h),(fun fs h=>by cases h),(fun el h=>by cases h;kernel_rfl),(fun k h=>by cases h),(fun h=>by cases h),(fun k b h=>by cases h),(fun h=>by cases h)⟩
theorem ly46:BO Go.Proofs.Tryz.prog lay 46 y46 :=
 ⟨⟨(Go.Proofs.Tryz.prog.info? 46).get (by kernel_rfl),(Option.some_get _).symm,by kernel_rfl,by kernel_rfl,(.slice none 0 0),by kernel_rfl,(fun E=>(.own0 (by decide) .nil))⟩,by decide,by decide,rfl,by decide,rfl,⟨(Go.Proofs.Tryz.prog.underlying 46).get (by kernel_rfl),(Option.some_get _).symm,by kernel_rfl⟩,
  (fun fs h=>by cases h),(fun n el h=>by cases h),(fun fs h=>by cases h),(fun el h=>by cases h;kernel_rfl),(fun k h=>by cases h),(fun h=>by cases h),(fun k b h=>by cases h),(fun h=>by cases h)⟩
theorem ly47:BO Go.Proofs.Tryz.prog lay 47 y47 :=
 ⟨⟨(Go.Proofs.Tryz.prog.info? 47).get (by kernel_rfl),(Option.some_get _).symm,by kernel_rfl,by kernel_rfl,(.slice none 0 0),by kernel_rfl,(fun E=>(.own0 (by decide) .nil))⟩,by decide,by decide,rfl,by decide,rfl,⟨(Go.Proofs.Tryz.prog.underlying 47).get (by kernel_rfl),(Option.some_get _).symm,by kernel_rfl⟩,
  (fun fs h=>by cases h),(fun n el h=>by cases h),(fun fs h=>by cases h),(fun el h=>by cases h;kernel_rfl),(fun k h=>by cases h),(fun h=>by cases h),(fun k b h=>by cases h),(fun h=>by cases h)⟩
theorem ly49:BO Go.Proofs.Tryz.prog lay 49 y49 :=
 ⟨⟨(Go.Proofs.Tryz.prog.info? 49).get (by kernel_rfl),(Option.some_get _).symm,by kernel_rfl,by kernel_rfl,(.agg #[.int .i64 0,.int .i64 0,.int .i64 0,.slice none 0 0,.int .i64 0,.int .i64 0,.int .i64 0,.int .i64 0,.int .i64 0,.int .i64 0,.slice none 0 0,.slice none 0 0,.int .i64 0,.int .i64 0,.int .i64 0,.int .i64 0,.int .i64 0]),by kernel_rfl,(fun E=>(CH (.lit (.lit (.lit (.own0 (by decide) (.lit (.lit (.lit (.lit (.lit (.lit (.own0 (by decide) (.own0 (by decide) (.lit (.lit (.lit (.lit (.lit .nil))))))))))))))))) .nil))⟩,by decide,by decide,rfl,by decide,rfl,⟨(Go.Proofs.Tryz.prog.underlying 49).get (by kernel_rfl),(Option.some_get _).symm,by kernel_rfl⟩,
  (fun fs h=>by cases h;exact ⟨Go.Proofs.Tryz.prog.fieldsOf 49,by kernel_rfl,by kernel_rfl,fun j p hj=>by simpa using El (fields:=(Go.Proofs.Tryz.prog.fieldsOf 49).toList) (by kernel_rfl) (by decide) j p hj⟩),(fun n el h=>by cases h),(fun fs h=>by cases h;exact ES (fields0:=Go.Proofs.Tryz.prog.fieldsOf 49) (by kernel_rfl) (by kernel_rfl)),(fun el h=>by cases h),(fun k h=>by cases h),(fun h=>by cases h),(fun k b h=>by cases h),(fun h=>by cases h)⟩
theorem ly53:BO Go.Proofs.Tryz.prog lay 53 y53 :=
 ⟨⟨(Go.Proofs.Tryz.prog.info? 53).get (by kernel_rfl),(Option.some_get _).symm,by kernel_rfl,by kernel_rfl,(.agg #[.int .i64 0,.int .i64 0,.int .i64 0,.slice none 0 0]),by kernel_rfl,(fun E=>(CH (.lit (.lit (.lit (.own0 (by decide) .nil)))) .nil))⟩,by decide,by decide,rfl,by decide,rfl,⟨(Go.Proofs.Tryz.prog.underlying 53).get (by kernel_rfl),(Option.some_get _).symm,by kernel_rfl⟩,
  (fun fs h=>by cases h;exact ⟨Go.Proofs.Tryz.prog.fieldsOf 53,by kernel_rfl,by kernel_rfl,fun j p hj=>by simpa using El (fields:=(Go.Proofs.Tryz.prog.fieldsOf 53).toList) (by kernel_rfl) (by decide) j p hj⟩),(fun n el h=>by cases h),(fun fs h=>by cases h;exact ES (fields0:=Go.Proofs.Tryz.prog.fieldsOf 53) (by kernel_rfl) (by kernel_rfl)),(fun el h=>by cases h),(fun k h=>by cases h),(fun h=>by cases h),(fun k b h=>by cases h),(fun h=>by cases h)⟩
theorem ly55:BO Go.Proofs.Tryz.prog lay 55 y55 :=
 ⟨⟨(Go.Proofs.Tryz.prog.info? 55).get (by kernel_rfl),(Option.some_get _).symm,by kernel_rfl,by kernel_rfl,(.agg #[.int .i64 0,.int .i64 0,.int .i64 0]),by kernel_rfl,(fun E=>(CH (.lit (.lit (.lit .nil))) .nil))⟩,by decide,by decide,rfl,by decide,rfl,⟨(Go.Proofs.Tryz.prog.underlying 55).get (by kernel_rfl),(Option.some_get _).symm,by kernel_rfl⟩,
  (fun fs h=>by cases h;exact ⟨Go.Proofs.Tryz.prog.fieldsOf 55,by kernel_rfl,by kernel_rfl,fun j p hj=>by simpa using El (fields:=(Go.Proofs.Tryz.prog.fieldsOf 55).toList) (by kernel_rfl) (by decide) j p hj⟩),(fun n el h=>by cases h),(fun fs h=>by cases h;exact ES (fields0:=Go.Proofs.Tryz.prog.fieldsOf 55) (by kernel_rfl) (by kernel_rfl)),(fun el h=>by cases h),(fun k h=>by cases h),(fun h=>by cases h),(fun k b h=>by cases h),(fun _=>Eh (by kernel_rfl) (by kernel_rfl) (by kernel_rfl) (by kernel_rfl) (by kernel_rfl))⟩
theorem ly62:BO Go.Proofs.Tryz.prog lay 62 y62 :=
 ⟨⟨(Go.Proofs.Tryz.prog.info? 62).get (by kernel_rfl),(Option.some_get _).symm,by kernel_rfl,by kernel_rfl,(.int .u64 0),by kernel_rfl,(fun E=>(.lit .nil))⟩,by decide,by decide,rfl,by decide,rfl,⟨(Go.Proofs.Tryz.prog.underlying 62).get (by kernel_rfl),(Option.some_get _).symm,by kernel_rfl⟩,
  (fun fs h=>by cases h),(fun n el h=>by cases h),(fun fs h=>by cases h),(fun el h=>by cases h),(fun k h=>by cases h;kernel_rfl),(fun h=>by cases h),(fun k b h=>by cases h),(fun h=>by cases h)⟩
theorem ly67:BO Go.Proofs.Tryz.prog lay 67 y67 :=
 ⟨⟨(Go.Proofs.Tryz.prog.info? 67).get (by kernel_rfl),(Option.some_get _).symm,by kernel_rfl,by kernel_rfl,(.agg #[.int .i64 0,.int .i64 0,.int .i64 0,.int .i64 0]),by kernel_rfl,(fun E=>(CH (.lit (.lit (.lit (.lit .nil)))) .nil))⟩,by decide,by decide,rfl,by decide,rfl,⟨(Go.Proofs.Tryz.prog.underlying 67).get (by kernel_rfl),(Option.some_get _).symm,by kernel_rfl⟩,
  (fun fs h=>by cases h;exact ⟨Go.Proofs.Tryz.prog.fieldsOf 67,by kernel_rfl,by kernel_rfl,fun j p hj=>by simpa using El (fields:=(Go.Proofs.Tryz.prog.fieldsOf 67).toList) (by kernel_rfl) (by decide) j p hj⟩),(fun n el h=>by cases h),(fun fs h=>by cases h;exact ES (fields0:=Go.Proofs.Tryz.prog.fieldsOf 67) (by kernel_rfl) (by kernel_rfl)),(fun el h=>by cases h),(fun k h=>by cases h),(fun h=>by cases h),(fun k b h=>by cases h),(fun _=>Eh (by kernel_rfl) (by kernel_rfl) (by kernel_rfl) (by kernel_rfl) (by kernel_rfl))⟩
theorem ly94:BO Go.Proofs.Tryz.prog lay 94 y94 :=
 ⟨⟨(Go.Proofs.Tryz.prog.info? 94).get (by kernel_rfl),(Option.some_get _).symm,by kernel_rfl,by kernel_rfl,(.nilFunc),by kernel_rfl,(fun E=>(.lit .nil))⟩,by decide,by decide,rfl,by decide,rfl,⟨(Go.Proofs.Tryz.prog.underlying 94).get (by kernel_rfl),(Option.some_get _).symm,by kernel_rfl⟩,
  (fun fs h=>by cases h),(fun n el h=>by cases h),(fun fs h=>by cases h),(fun el h=>by cases h),(fun k h=>by cases h),(fun h=>by cases h),(fun k b h=>by cases h),(fun h=>by cases h)⟩
theorem ly99:BO Go.Proofs.Tryz.prog lay 99 y99 :=
 ⟨⟨(Go.Proofs.Tryz.prog.info? 99).get (by kernel_rfl),(Option.some_get _).symm,by kernel_rfl,by kernel_rfl,(.agg #[.int .i64 0,.int .i64 0,.int .i64 0,.int .i64 0]),by kernel_rfl,(fun E=>(CH (.lit (.lit (.lit (.lit .nil)))) .nil))⟩,by decide,by decide,rfl,by decide,rfl,⟨(Go.Proofs.Tryz.prog.underlying 99).get (by kernel_rfl),(Option.some_get _).symm,by kernel_rfl⟩,
  (fun fs h=>by cases h;exact ⟨Go.Proofs.Tryz.prog.fieldsOf 99,by kernel_rfl,by kernel_rfl,fun j p hj=>by simpa using El (fields:=(Go.Proofs.Tryz.prog.fieldsOf 99).toList) (by kernel_rfl) (by decide) j p hj⟩),(fun n el h=>by cases h),(fun fs h=>by cases h;exact ES (fields0:=Go.Proofs.Tryz.prog.fieldsOf 99) (by kernel_rfl) (by kernel_rfl)),(fun el h=>by cases h),(fun k h=>by cases h),(fun h=>by cases h),(fun k b h=>by cases h),(fun _=>Eh (by kernel_rfl) (by kernel_rfl) (by kernel_rfl) (by kernel_rfl) (by kernel_rfl))⟩
theorem a6o:BO Go.Proofs.Tryz.prog lay 106 fY :=
 ⟨⟨(Go.Proofs.Tryz.prog.info? 106).get (by kernel_rfl),(Option.some_get _).symm,by kernel_rfl,by kernel_rfl,(.agg #[.int .i64 0,.int .i64 0,.int .i64 0]),by kernel_rfl,(fun E=>(CH (.lit (.lit (.lit .nil))) .nil))⟩,by decide,by decide,rfl,by decide,rfl,⟨(Go.Proofs.Tryz.prog.underlying 106).get (by kernel_rfl),(Option.some_get _).symm,by kernel_rfl⟩,
  (fun fs h=>by cases h;exact ⟨Go.Proofs.Tryz.prog.fieldsOf 106,by kernel_rfl,by kernel_rfl,fun j p hj=>by simpa using El (fields:=(Go.Proofs.Tryz.prog.fieldsOf 106).toList) (by kernel_rfl) (by decide) j p hj⟩),(fun n el h=>by cases h),(fun fs h=>by cases h;exact ES (fields0:=Go.Proofs.Tryz.prog.fieldsOf 106) (by kernel_rfl) (by kernel_rfl)),(fun el h=>by cases h),(fun k h=>by cases h),(fun h=>by cases h),(fun k b h=>by cases h),(fun _=>Eh (by kernel_rfl) (by kernel_rfl) (by kernel_rfl) (by kernel_rfl) (by kernel_rfl))⟩
theorem a6n:BO Go.Proofs.Tryz.prog lay 111 qB :=
 ⟨⟨(Go.Proofs.Tryz.prog.info? 111).get (by kernel_rfl),(Option.some_get _).symm,by kernel_rfl,by kernel_rfl,(.pointer none),by kernel_rfl,(fun E=>(.lit .nil))⟩,by decide,by decide,rfl,by decide,rfl,⟨(Go.Proofs.Tryz.prog.underlying 111).get (by kernel_rfl),(Option.some_get _).symm,by kernel_rfl⟩,
  (fun fs h=>by cases h),(fun n el h=>by cases h),(fun fs h=>by cases h),(fun el h=>by cases h),(fun k h=>by cases h),(fun h=>by cases h),(fun k b h=>by cases h),(fun h=>by cases h)⟩
theorem a6m:BO Go.Proofs.Tryz.prog lay 113 qA :=
 ⟨⟨(Go.Proofs.Tryz.prog.info? 113).get (by kernel_rfl),(Option.some_get _).symm,by kernel_rfl,by kernel_rfl,(.agg #[.slice none 0 0,.slice none 0 0,.slice none 0 0,.slice none 0 0,.int .i64 0,.int .i64 0,.int .i64 0,.int .i64 0,.int .i64 0,.slice none 0 0,.slice none 0 0,.int .i64 0]),by kernel_rfl,(fun E=>(CH (.own0 (by decide) (.own0 (by decide) (.own0 (by decide) (.own0 (by decide) (.lit (.lit (.lit (.lit (.lit (.own0 (by decide) (.own0 (by decide) (.lit .nil)))))))))))) .nil))⟩,by decide,by decide,rfl,by decide,rfl,⟨(Go.Proofs.Tryz.prog.underlying 113).get (by kernel_rfl),(Option.some_get _).symm,by kernel_rfl⟩,
  (fun fs h=>by cases h;exact ⟨Go.Proofs.Tryz.prog.fieldsOf 113,by kernel_rfl,by kernel_rfl,fun j p hj=>by simpa using El (fields:=(Go.Proofs.Tryz.prog.fieldsOf 113).toList) (by kernel_rfl) (by decide) j p hj⟩),(fun n el h=>by cases h),(fun fs h=>by cases h;exact ES (fields0:=Go.Proofs.Tryz.prog.fieldsOf 113) (by kernel_rfl) (by kernel_rfl)),(fun el h=>by cases h),(fun k h=>by cases h),(fun h=>by cases h),(fun k b h=>by cases h),(fun h=>by cases h)⟩
theorem a6l:BO Go.Proofs.Tryz.prog lay 116 pZ :=
 ⟨⟨(Go.Proofs.Tryz.prog.info? 116).get (by kernel_rfl),(Option.some_get _).symm,by kernel_rfl,by kernel_rfl,(.pointer none),by kernel_rfl,(fun E=>(.lit .nil))⟩,by decide,by decide,rfl,by decide,rfl,⟨(Go.Proofs.Tryz.prog.underlying 116).get (by kernel_rfl),(Option.some_get _).symm,by kernel_rfl⟩,
  (fun fs h=>by cases h),(fun n el h=>by cases h),(fun fs h=>by cases h),(fun el h=>by cases h),(fun k h=>by cases h),(fun h=>by cases h),(fun k b h=>by cases h),(fun h=>by cases h)⟩
theorem a6k:BO Go.Proofs.Tryz.prog lay 118 pY :=
 ⟨⟨(Go.Proofs.Tryz.prog.info? 118).get (by kernel_rfl),(Option.some_get _).symm,by kernel_rfl,by kernel_rfl,(.nilFunc),by kernel_rfl,(fun E=>(.lit .nil))⟩,by decide,by decide,rfl,by decide,rfl,⟨(Go.Proofs.Tryz.prog.underlying 118).get (by kernel_rfl),(Option.some_get _).symm,by kernel_rfl⟩,
  (fun fs h=>by cases h),(fun n el h=>by cases h),(fun fs h=>by cases h),(fun el h=>by cases h),(fun k h=>by cases h),(fun h=>by cases h),(fun k b h=>by cases h),(fun h=>by cases h)⟩
theorem a6j:BO Go.Proofs.Tryz.prog lay 119 pX :=
 ⟨⟨(Go.Proofs.Tryz.prog.info? 119).get (by kernel_rfl),(Option.some_get _).symm,by kernel_rfl,by kernel_rfl,(.nilFunc),by kernel_rfl,(fun E=>(.lit .nil))⟩,by decide,by decide,rfl,by decide,rfl,⟨(Go.Proofs.Tryz.prog.underlying 119).get (by kernel_rfl),(Option.some_get _).symm,by kernel_rfl⟩,
  (fun fs h=>by cases h),(fun n el h=>by cases h),(fun fs h=>by cases h),(fun el h=>by cases h),(fun k h=>by cases h),(fun h=>by cases h),(fun k b h=>by cases h),(fun h=>by cases h)⟩
theorem a6i:BO Go.Proofs.Tryz.prog lay 121 pW :=
 ⟨⟨(Go.Proofs.Tryz.prog.info? 121).get (by kernel_rfl),(Option.some_get _).symm,by kernel_rfl,by kernel_rfl,(.nilFunc),by kernel_rfl,(fun E=>(.lit .nil))⟩,by decide,by decide,rfl,by decide,rfl,⟨(Go.Proofs.Tryz.prog.underlying 121).get (by kernel_rfl),(Option.some_get _).symm,by kernel_rfl⟩,
  (fun fs h=>by cases h),(fun n el h=>by cases h),(fun fs h=>by cases h),(fun el h=>by cases h),(fun k h=>by cases h),(fun h=>by cases h),(fun k b h=>by cases h),(fun h=>by cases h)⟩
theorem a6h:BO Go.Proofs.Tryz.prog lay 122 pV :=
 ⟨⟨(Go.Proofs.Tryz.prog.info? 122).get (by kernel_rfl),(Option.some_get _).symm,by kernel_rfl,by kernel_rfl,(.pointer none),by kernel_rfl,(fun E=>(.lit .nil))⟩,by decide,by decide,rfl,by decide,rfl,⟨(Go.Proofs.Tryz.prog.underlying 122).get (by kernel_rfl),(Option.some_get _).symm,by kernel_rfl⟩,
  (fun fs h=>by cases h),(fun n el h=>by cases h),(fun fs h=>by cases h),(fun el h=>by cases h),(fun k h=>by cases h),(fun h=>by cases h),(fun k b h=>by cases h),(fun h=>by cases h)⟩
theorem a6g:BO Go.Proofs.Tryz.prog lay 124 pU :=
 ⟨⟨(Go.Proofs.Tryz.prog.info? 124).get (by kernel_rfl),(Option.some_get _).symm,by kernel_rfl,by kernel_rfl,(.agg #[.pointer none]),by kernel_rfl,(fun E=>(CH (.lit .nil) .nil))⟩,by decide,by decide,rfl,by decide,rfl,⟨(Go.Proofs.Tryz.prog.underlying 124).get (by kernel_rfl),(Option.some_get _).symm,by kernel_rfl⟩,
  (fun fs h=>by cases h;exact ⟨Go.Proofs.Tryz.prog.fieldsOf 124,by kernel_rfl,by kernel_rfl,fun j p hj=>by simpa using El (fields:=(Go.Proofs.Tryz.prog.fieldsOf 124).toList) (by kernel_rfl) (by decide) j p hj⟩),(fun n el h=>by cases h),(fun fs h=>by cases h;exact ES (fields0:=Go.Proofs.Tryz.prog.fieldsOf 124) (by kernel_rfl) (by kernel_rfl)),(fun el h=>by cases h),(fun k h=>by cases h),(fun h=>by cases h),(fun k b h=>by cases h),(fun h=>by cases h)⟩
theorem a6f:BO Go.Proofs.Tryz.prog lay 128 pT :=
 ⟨⟨(Go.Proofs.Tryz.prog.info? 128).get (by kernel_rfl),(Option.some_get _).symm,by kernel_rfl,by kernel_rfl,(.nilFunc),by kernel_rfl,(fun E=>(.lit .nil))⟩,by decide,by decide,rfl,by decide,rfl,⟨(Go.Proofs.Tryz.prog.underlying 128).get (by kernel_rfl),(Option.some_get _).symm,by kernel_rfl⟩,
  (fun fs h=>by cases h),(fun n el h=>by cases h),(fun fs h=>by cases h),(fun el h=>by cases h),(fun k h=>by cases h),(fun h=>by cases h),(fun k b h=>by cases h),(fun h=>by cases h)⟩
theorem a6e:BO Go.Proofs.Tryz.prog lay 130 pS :=
 ⟨⟨(Go.Proofs.Tryz.prog.info? 130).get (by kernel_rfl),(Option.some_get _).symm,by kernel_rfl,by kernel_rfl,(.nilFunc),by kernel_rfl,(fun E=>(.lit .nil))⟩,by decide,by decide,rfl,by decide,rfl,⟨(Go.Proofs.Tryz.prog.underlying 130).get (by kernel_rfl),(Option.some_get _).symm,by kernel_rfl⟩,
  (fun fs h=>by cases h),(fun n el h=>by cases h),(fun fs h=>by cases h),(fun el h=>by cases h),(fun k h=>by cases h),(fun h=>by cases h),(fun k b h=>by cases h),(fun h=>by cases h)⟩
theorem a6d:BO Go.Proofs.Tryz.prog lay 132 pR :=
 ⟨⟨(Go.Proofs.Tryz.prog.info? 132).get (by kernel_rfl),(Option.some_get _).symm,by kernel_rfl,by kernel_rfl,(.nilFunc),by kernel_rfl,(fun E=>(.lit .nil))⟩,by decide,by decide,rfl,by decide,rfl,⟨(Go.Proofs.Tryz.prog.underlying 132).get (by kernel_rfl),(Option.some_get _).symm,by kernel_rfl⟩,
  (fun fs h=>by cases h),(fun n el h=>by cases h),(fun fs h=>by cases h),(fun el h=>by cases h),(fun k h=>by cases h),(fun h=>by cases h),(fun k b h=>by cases h),(fun h=>by cases h)⟩
theorem a6c:BO Go.Proofs.Tryz.prog lay 134 pQ :=
 ⟨⟨(Go.Proofs.Tryz.prog.info? 134).get (by kernel_rfl),(Option.some_get _).symm,by kernel_rfl,by kernel_rfl,(.nilFunc),by kernel_rfl,(fun E=>(.lit .nil))⟩,by decide,by decide,rfl,by decide,rfl,⟨(Go.Proofs.Tryz.prog.underlying 134).get (by kernel_rfl),(Option.some_get _).symm,by kernel_rfl⟩,
  (fun fs h=>by cases h),(fun n el h=>by cases h),(fun fs h=>by cases h),(fun el h=>by cases h),(fun k h=>by cases h),(fun h=>by cases h),(fun k b h=>by cases h),(fun h=>by cases h)⟩
theorem a6b:BO Go.Proofs.Tryz.prog lay 162 aQ :=
 ⟨⟨(Go.Proofs.Tryz.prog.info? 162).get (by kernel_rfl),(Option.some_get _).symm,by kernel_rfl,by kernel_rfl,(.agg #[.int .i64 0,.int .i64 0,.int .i64 0]),by kernel_rfl,(fun E=>(CH (.lit (.lit (.lit .nil))) .nil))⟩,by decide,by decide,rfl,by decide,rfl,⟨(Go.Proofs.Tryz.prog.underlying 162).get (by kernel_rfl),(Option.some_get _).symm,by kernel_rfl⟩,
  (fun fs h=>by cases h;exact ⟨Go.Proofs.Tryz.prog.fieldsOf 162,by kernel_rfl,by kernel_rfl,fun j p hj=>by simpa using El (fields:=(Go.Proofs.Tryz.prog.fieldsOf 162).toList) (by kernel_rfl) (by decide) j p hj⟩),(fun n el h=>by cases h),(fun fs h=>by cases h;exact ES (fields0:=Go.Proofs.Tryz.prog.fieldsOf 162) (by kernel_rfl) (by kernel_rfl)),(fun el h=>by cases h),(fun k h=>by cases h),(fun h=>by cases h),(fun k b h=>by cases h),(fun _=>Eh (by kernel_rfl) (by kernel_rfl) (by kernel_rfl) (by kernel_rfl) (by kernel_rfl))⟩
theorem a6a:BO Go.Proofs.Tryz.prog lay 163 pP :=
 ⟨⟨(Go.Proofs.Tryz.prog.info? 163).get (by kernel_rfl),(Option.some_get _).symm,by kernel_rfl,by kernel_rfl,(.nilFunc),by kernel_rfl,(fun E=>(.lit .nil))⟩,by decide,by decide,rfl,by decide,rfl,⟨(Go.Proofs.Tryz.prog.underlying 163).get (by kernel_rfl),(Option.some_get _).symm,by kernel_rfl⟩,
  (fun fs h=>by cases h),(fun n el h=>by cases h),(fun fs h=>by cases h),(fun el h=>by cases h),(fun k h=>by cases h),(fun h=>by cases h),(fun k b h=>by cases h),(fun h=>by cases h)⟩
theorem a5z:BO Go.Proofs.Tryz.prog lay 165 pN :=
 ⟨⟨(Go.Proofs.Tryz.prog.info? 165).get (by kernel_rfl),(Option.some_get _).symm,by kernel_rfl,by kernel_rfl,(.pointer none),by kernel_rfl,(fun E=>(.lit .nil))⟩,by decide,by decide,rfl,by decide,rfl,⟨(Go.Proofs.Tryz.prog.underlying 165).get (by kernel_rfl),(Option.some_get _).symm,by kernel_rfl⟩,
  (fun fs h=>by cases h),(fun n el h=>by cases h),(fun fs h=>by cases h),(fun el h=>by cases h),(fun k h=>by cases h),(fun h=>by cases h),(fun k b h=>by cases h),(fun h=>by cases h)⟩
theorem a5y:BO Go.Proofs.Tryz.prog lay 169 pM :=
 ⟨⟨(Go.Proofs.Tryz.prog.info? 169).get (by kernel_rfl),(Option.some_get _).symm,by kernel_rfl,by kernel_rfl,(.nilFunc),by kernel_rfl,(fun E=>(.lit .nil))⟩,by decide,by decide,rfl,by decide,rfl,⟨(Go.Proofs.Tryz.prog.underlying 169).get (by kernel_rfl),(Option.some_get _).symm,by kernel_rfl⟩,
  (fun fs h=>by cases h),(fun n el h=>by cases h),(fun fs h=>by cases h),(fun el h=>by cases h),(fun k h=>by cases h),(fun h=>by cases h),(fun k b h=>by cases h),(fun h=>by cases h)⟩
theorem a5x:BO Go.Proofs.Tryz.prog lay 171 pL :=
 ⟨⟨(Go.Proofs.Tryz.prog.info? 171).get (by kernel_rfl),(Option.some_get _).symm,by kernel_rfl,by kernel_rfl,(.nilFunc),by kernel_rfl,(fun E=>(.lit .nil))⟩,by decide,by decide,rfl,by decide,rfl,⟨(Go.Proofs.Tryz.prog.underlying 171).get (by kernel_rfl),(Option.some_get _).symm,by kernel_rfl⟩,
  (fun fs h=>by cases h),(fun n el h=>by cases h),(fun fs h=>by cases h),(fun el h=>by cases h),(fun k h=>by cases h),(fun h=>by cases h),(fun k b h=>by cases h),(fun h=>by cases h)⟩
theorem a5w:BO Go.Proofs.Tryz.prog lay 173 pK :=
 ⟨⟨(Go.Proofs.Tryz.prog.info? 173).get (by kernel_rfl),(Option.some_get _).symm,by kernel_rfl,by kernel_rfl,(.nilFunc),by kernel_rfl,(fun E=>(.lit .nil))⟩,by decide,by decide,rfl,by decide,rfl,⟨(Go.Proofs.Tryz.prog.underlying 173).get (by kernel_rfl),(Option.some_get _).symm,by kernel_rfl⟩,
  (fun fs h=>by cases h),(fun n el h=>by cases h),(fun fs h=>by cases h),(fun el h=>by cases h),(fun k h=>by cases h),(fun h=>by cases h),(fun k b h=>by cases h),(fun h=>by cases h)⟩
theorem a5v:BO Go.Proofs.Tryz.prog lay 202 pJ :=
 ⟨⟨(Go.Proofs.Tryz.prog.info? 202).get (by kernel_rfl),(Option.some_get _).symm,by kernel_rfl,by kernel_rfl,(.nilFunc),by kernel_rfl,(fun E=>(.lit .nil))⟩,by decide,by decide,rfl,by decide,rfl,⟨(Go.Proofs.Tryz.prog.underlying 202).get (by kernel_rfl),(Option.some_get _).symm,by kernel_rfl⟩,
  (fun fs h=>by cases h),(fun n el h=>by cases h),(fun fs h=>by cases h),(fun el h=>by cases h),(fun k h=>by cases h),(fun h=>by cases h),(fun k b h=>by cases h),(fun h=>by cases h)⟩
theorem a5u:BO Go.Proofs.Tryz.prog lay 229 pI :=
 ⟨⟨(Go.Proofs.Tryz.prog.info? 229).get (by kernel_rfl),(Option.some_get _).symm,by kernel_rfl,by kernel_rfl,(.complex .f64 0 0),by kernel_rfl,(fun E=>(.lit .nil))⟩,by decide,by decide,rfl,by decide,rfl,⟨(Go.Proofs.Tryz.prog.underlying 229).get (by kernel_rfl),(Option.some_get _).symm,by kernel_rfl⟩,
  (fun fs h=>by cases h),(fun n el h=>by cases h),(fun fs h=>by cases h),(fun el h=>by cases h),(fun k h=>by cases h),(fun h=>by cases h),(fun k b h=>by cases h),(fun h=>by cases h)⟩
theorem a5t:BO Go.Proofs.Tryz.prog lay 230 pH :=
 ⟨⟨(Go.Proofs.Tryz.prog.info? 230).get (by kernel_rfl),(Option.some_get _).symm,by kernel_rfl,by kernel_rfl,(.float .f64 0),by kernel_rfl,(fun E=>(.lit .nil))⟩,by decide,by decide,rfl,by decide,rfl,⟨(Go.Proofs.Tryz.prog.underlying 230).get (by kernel_rfl),(Option.some_get _).symm,by kernel_rfl⟩,
  (fun fs h=>by cases h),(fun n el h=>by cases h),(fun fs h=>by cases h),(fun el h=>by cases h),(fun k h=>by cases h),(fun h=>by cases h),(fun k b h=>by cases h;kernel_rfl),(fun h=>by cases h)⟩
theorem NC:EG Go.Proofs.Tryz.prog lay:=by
 have this:∀ p∈layL,BO Go.Proofs.Tryz.prog lay p.1 p.2:=by
  simp only [layL,List.forall_mem_cons]
  exact ⟨ly1,ly2,ly3,ly4,ly5,ly6,ly7,ly8,ly9,ly10,ly11,ly12,ly13,ly22,ly23,ly24,ly25,ly27,ly29,ly30,ly31,ly32,ly33,ly35,ly36,ly44,ly45,ly46,ly47,ly49,ly53,ly55,ly62,ly67,ly94,ly99,a6o,a6n,a6m,a6l,a6k,a6j,a6i,a6h,a6g,a6f,a6e,a6d,a6c,a6b,a6a,a5z,a5y,a5x,a5w,a5v,a5u,a5t,fun p hp=>by cases hp⟩
 exact fun t ti h=>this (t,ti) (SL h)
end Ve
namespace Ve
open Go
def zK (P:Program) (p:Nat × IFn):Option IR:=(P.funcs[p.1]?).bind fun fn=>fn.body.bind fun c=>DR c p.2.body
def zJ (P:Program) (p:Nat × IFn):Option (List ResultVar):=(P.funcs[p.1]?).map fun fn=>fn.results.toList
def zI (P:Program) (L:Lay) (p:Nat × IFn):Bool:=match P.funcs[p.1]? with
 | some fn=>(match fn.body with
  | some c=>wfC L fn.ntmps c
  | none=>false)&&!(fn.name == "runtime.NumGoroutine")
 | none=>false
theorem qG {P:Program} {L:Lay} {l:List (Nat × IFn)} (h1:l.map (zK P)=l.map fun p=>some p.2.body) (h2:l.map (zJ P)=l.map fun p=>some p.2.results) (h3:l.all (zI P L)=true) :
  ∀ f d,lk l f=some d→xY P L f d:=by
 intro f d h
 have hm:=SL h
 have e1:=List.map_inj_left.1 h1 _ hm
 have e2:=List.map_inj_left.1 h2 _ hm
 have e3:=List.all_eq_true.1 h3 _ hm
 simp only [zK,Option.bind_eq_some_iff] at e1
 obtain ⟨fn,hf,c,hb,hg⟩:=e1
 simp only [zJ,hf,Option.map_some,Option.some.injEq] at e2
 simp only [zI,hf,hb,Bool.and_eq_true,Bool.not_eq_true'] at e3
 exact ⟨⟨fn,c,hf,hb,hg,e3.1,e2,e3.2⟩⟩
end Ve
namespace Ve
open Go
set_option maxRecDepth 100000
theorem fns1:UA.map (zK Go.Proofs.Tryz.prog)=UA.map fun p=>some p.2.body:=by kernel_rfl
theorem fns2:UA.map (zJ Go.Proofs.Tryz.prog)=UA.map fun p=>some p.2.results:=by kernel_rfl
theorem fns3:UA.all (zI Go.Proofs.Tryz.prog lay)=true:=by kernel_rfl
theorem a7e:∀ f d,tbl f=some d→xY Go.Proofs.Tryz.prog lay f d:=qG fns1 fns2 fns3
end Ve
namespace Ve
open Go
theorem FD {P:Program} (w:World) (t e:TypeId) (i:TypeInfo) (ht:P.underlying t=some (.slice e)) (hi:P.info? e=some i) :
  (Instr.buildSlice t 0 #[]).run P w=.ok (.slice (some { block:=w.heap.size,off:=0 }) 0 0) (w.alloc (.cells #[] e)):=by
 simp [Instr.buildSlice,run_underlying ht,Go.sizeOf,typeInfo,hi,Instr.fill,newRow,show Array.range 0=#[] from rfl]
theorem Qu {w:World} {b off:Nat} {ys:List Value} {o:Go.Obj} (h:w.rangeAt b off ys):(w.alloc o).rangeAt b off ys:=by
 by_cases hb:b<w.heap.size
 ·exact Ew ((BR.alloc w o).2 b hb) h
 ·cases ys with
  | nil=>intro j u hj;simp at hj
  | cons y ys =>
   have:=h 0 y rfl
   simp [World.cell?,Array.getElem?_eq_none (Nat.le_of_not_lt hb)] at this
theorem FN {P:Program} {L:Lay} (hL:EG P L) {t el:TypeId} {ei:TI} (hei:L el=some ei) (hu:P.underlying t=some (.slice el)) (w:World) {ad:Addr} {m c:Nat} {news:List Value}
  (hone:Es news) (hlen:news.length=m*ei.size) (hx:(m=0∧∃ ad' c',Value.slice (some ad) m c=.slice ad' 0 c')∨∃ b off c',Value.slice (some ad) m c=.slice (some ⟨b,off,none⟩) m c'∧w.rangeAt b off news∧m≤c')
  (hb:m*ei.bytes≤140737488355328) (hm:m≤maxLen) (hpos:0<ei.size):∃ v' w',(Builtin.append_ #[t,t] t #[.slice (some { block:=w.heap.size,off:=0 }) 0 0,.slice (some ad) m c]).run P (w.alloc (.cells #[] el))=.ok v' w' ∧
   (BR w w'∧((m=0∧∃ ad,v'=.slice ad 0 0)∨∃ b cap',v'=.slice (some ⟨b,0,none⟩) m cap'∧Ec w' b ei.size m cap' news∧w.heap.size≤b∧b<w'.heap.size)):=by
 have hrow:Ec (w.alloc (.cells #[] el)) w.heap.size ei.size 0 0 []:=⟨⟨#[],el,heap_alloc_new _ _,by simp,by simp⟩,Nat.le_refl _,Nat.zero_le _,hpos,(by intro y hy;simp at hy),by simp⟩
 have hx2:(m=0∧∃ ad' c',Value.slice (some ad) m c=.slice ad' 0 c')∨∃ b off c',Value.slice (some ad) m c=.slice (some ⟨b,off,none⟩) m c'∧(w.alloc (.cells #[] el)).rangeAt b off news:=by
  rcases hx with h | ⟨b,off,c',h1,h2,_⟩
  ·exact .inl h
  ·exact .inr ⟨b,off,c',h1,Qu h2⟩
 have hw:=Kf hL hei hu t (w:=w.alloc (.cells #[] el)) (dv:=.slice (some ⟨w.heap.size,0,none⟩) 0 0) (n:=0) (cap:=0) (ys:=[]) (g:=some w.heap.size) (.inr ⟨_,rfl,rfl,hrow⟩) (xv:=.slice (some ad) m c) (m:=m) (news:=news) hone hlen hx2 (by simpa using hb) (by simpa using hm)
 obtain ⟨v',w',hr,hv⟩:=hw
 refine ⟨v',w',hr,?_⟩
 rcases hv with ⟨h0,⟨a0,rfl⟩,rfl⟩ | ⟨b,hb,rfl,h1,h2,h3,h4,h5,h6⟩ | ⟨cap',rfl,h1,h2,h3⟩
 ·exact ⟨BR.alloc _ _,.inl ⟨by omega,_,rfl⟩⟩
 ·cases hb
  have hm0:m=0:=by have:=h1.le;omega
  subst hm0
  refine ⟨⟨by simp [h3],fun b hb=>?_,by rw [h4];rfl,by rw [h5];rfl,by rw [h6];rfl⟩,.inl ⟨rfl,_,rfl⟩⟩
  rw [h2 b (by omega)];exact (BR.alloc w _).2 b hb
 ·simp only [Nat.zero_add,List.nil_append] at h1 ⊢
  exact ⟨(BR.alloc _ _).trans h2,.inr ⟨_,_,rfl,h1,by simp,h3⟩⟩
theorem MY {m b:Nat} (h:m*b≤140737488355328) (hb:0<b):m≤maxLen:=by
 have:m*1≤m*b:=Nat.mul_le_mul_left _ hb
 simp only [maxLen];omega
theorem EW {P:Program} {w:World} {ops:Array Oper} {Q:Exit→Act→World→Prop} {x0 x2 x3 x4 u1 u5 u6 u7 s:Value} {t ty1 ty2 ty3 ty4:TypeId} {p1 p2 p3 p4:String} {a1 a2 a3 a4:Array _}
  {v':Value} {w' w1:World} (hb:(Instr.buildSlice t 0 #[]).run P w=.ok s w1) (hr:(Builtin.append_ #[t,t] ty3 #[s,x0]).run P w1=.ok v' w')
  (h:wpList P ops Q [] ⟨#[x0,u1,v',x3,x4,s,x0,v'],[]⟩ w'):wpList P ops Q [{ dst:=some 5,op:=.buildSlice t 0 #[],type:=ty1,pos:=p1,after:=a1,guard:=none },{ dst:=some 6,op:=.move (.tmp 0),type:=ty2,pos:=p2,after:=a2,guard:=none },
   { dst:=some 7,op:=.call { callee:=.builtin .append,args:=#[.tmp 5,.tmp 6],argTypes:=#[t,t] },type:=ty3,pos:=p3,after:=a3,guard:=none },{ dst:=some 2,op:=.assign (.tmp 7),type:=ty4,pos:=p4,after:=a4,guard:=none }] ⟨#[x0,u1,x2,x3,x4,u5,u6,u7],[]⟩ w:=by
 refine wpList_plain rfl fun K hK=>?_
 unfold Oper.wp execOp
 simp only [List.map_toArray,List.map_nil,hb,Sem.run_bind,Sem.run_pure,Result.andThen_ok]
 refine hK _ _ (wpList_plain rfl fun K hK=>?_)
 unfold Oper.wp execOp
 simp only [Sem.run_pure]
 refine hK _ _ (wpList_plain rfl fun K hK=>?_)
 unfold Oper.wp execOp
 simp only [resolve,invoke,builtin,Sem.run_bind,Sem.run_pure,Result.andThen_ok,List.map_toArray,List.map_cons,List.map_nil,Act.put,Act.eval]
 change Oper.upon P _ _ K Q ((Sem.run P (Builtin.append_ #[t,t] ty3 #[s,x0]) w1).andThen _)
 rw [hr]
 refine hK _ _ (wpList_plain rfl fun K hK=>?_)
 unfold Oper.wp execOp
 simp only [Sem.run_pure]
 exact hK _ _ h
end Ve
namespace Ve
open Go
theorem HE (P:Program) (w:World) (t s ty e e':TypeId) (i:TypeInfo) (ht:P.underlying t=some (.slice e)) (hi:P.info? e=some i) (g off dl dc:Nat) (cur:Array Value) (hg:w.heap[g]?=some (.cells cur e' (0,0)))
  (a:Addr) (m c k:Nat) (news:List Value) (hk:Nat.min m dl=k) (hl:news.length=k*i.size) (hnews:∀ j u,news[j]?=some u→w.cell? (a.add j)=some u) (h1:∀ u∈news,u.oneCell'=true) (hfit:off+news.length≤cur.size) :
  (Builtin.copy_ #[t,s] ty #[.slice (some ⟨g,off,none⟩) dl dc,.slice (some a) m c]).run P w=.ok (goInt k) (w.setRow g (cur.toList.take off++news++cur.toList.drop (off+news.length)).toArray):=by
 have hf:=run_firstCells_some (P:=P) w i.size k a m c news hl hnews
 have hst:=run_storeCells_at P g off e' news 0 cur w hg (by simpa using hfit) h1
 simp only [Nat.add_zero] at hst
 simp [Builtin.copy_,run_underlying ht,Builtin.lenOf,Go.sizeOf,typeInfo,hi,hk,hf,hst]
theorem dX {C news ys:List Value} {i n cap s:Nat} (hC:C.length=cap*s) (hy:C.take (n*s)=ys) (hyl:ys.length=n*s) (hnl:news.length=s) (hi:i≤n) (hr:n+1≤cap) {C1 C2:List Value}
  (h1:C1=C.take ((i+1)*s)++ys.drop (i*s)++C.drop ((i+1)*s+(ys.drop (i*s)).length)) (h2:C2=C1.take (i*s)++news++C1.drop (i*s+news.length)) :
  C2.length=cap*s∧C1.length=cap*s∧C2.take ((n+1)*s)=ys.take (i*s)++news++ys.drop (i*s):=by
 have e1:(i+1)*s=i*s+s:=by rw [Nat.add_mul];omega
 have e2:(n+1)*s=n*s+s:=by rw [Nat.add_mul];omega
 have e3:i*s≤n*s:=Nat.mul_le_mul_right _ hi
 have e4:(n+1)*s≤cap*s:=Nat.mul_le_mul_right _ hr
 have hdl:(ys.drop (i*s)).length=n*s - i*s:=by rw [List.length_drop,hyl]
 have l1:(C.take ((i+1)*s)).length=(i+1)*s:=by rw [List.length_take];omega
 have c1:C1.length=cap*s:=by rw [h1];simp only [List.length_append,l1,hdl,List.length_drop];omega
 have t1:C1.take (i*s)=ys.take (i*s):=by
  rw [h1,List.append_assoc,List.take_append_of_le_length (by omega),List.take_take,← hy,List.take_take]
  congr 1;omega
 have d1:C1.drop (i*s+news.length)=ys.drop (i*s)++C.drop ((i+1)*s+(ys.drop (i*s)).length):=by
  rw [h1,hnl,← e1,List.append_assoc]
  exact List.drop_left' l1
 refine ⟨?_,c1,?_⟩
 ·rw [h2];simp only [List.length_append,List.length_take,List.length_drop,c1,hnl];omega
 ·rw [h2,t1,d1,← List.append_assoc]
  refine List.take_left' ?_
  simp only [List.length_append,List.length_take,hyl,hnl,hdl];omega
theorem uO {R0 Z news ys:List Value} {i n cap s:Nat} (h0:R0=ys.take (i*s)++Z) (hR:R0.length=cap*s) (hyl:ys.length=n*s) (hnl:news.length=s) (hi:i≤n) (hr:n+1≤cap) {R1 R2:List Value}
  (h1:R1=R0.take (i*s)++news++R0.drop (i*s+news.length)) (h2:R2=R1.take ((i+1)*s)++ys.drop (i*s)++R1.drop ((i+1)*s+(ys.drop (i*s)).length)) :
  R2.length=cap*s∧R1.length=cap*s∧R2.take ((n+1)*s)=ys.take (i*s)++news++ys.drop (i*s):=by
 have e1:(i+1)*s=i*s+s:=by rw [Nat.add_mul];omega
 have e2:(n+1)*s=n*s+s:=by rw [Nat.add_mul];omega
 have e3:i*s≤n*s:=Nat.mul_le_mul_right _ hi
 have e4:(n+1)*s≤cap*s:=Nat.mul_le_mul_right _ hr
 have hdl:(ys.drop (i*s)).length=n*s - i*s:=by rw [List.length_drop,hyl]
 have htl:(ys.take (i*s)).length=i*s:=by rw [List.length_take];omega
 have c1:R1.length=cap*s:=by rw [h1];simp only [List.length_append,List.length_take,List.length_drop,hR,hnl];omega
 have t0:R0.take (i*s)=ys.take (i*s):=by rw [h0];exact List.take_left' htl
 have t1:R1.take ((i+1)*s)=ys.take (i*s)++news:=by
  rw [h1,t0]
  refine List.take_left' ?_
  rw [List.length_append,htl,hnl];omega
 refine ⟨?_,c1,?_⟩
 ·rw [h2,t1];simp only [List.length_append,htl,hnl,hdl,List.length_drop,c1];omega
 ·rw [h2,t1]
  refine List.take_left' ?_
  simp only [List.length_append,htl,hnl,hdl];omega
end Ve
namespace Ve
open Go Go.Lib Go.Proofs
set_option maxRecDepth 100000
set_option maxHeartbeats 4000000
theorem cl78 {L:Lay} (hL:EG Go.Proofs.Tryz.prog L) {ei:TI} (hei:L 99=some ei) (hby:0<ei.bytes) (i:TypeInfo) (hi:Go.Proofs.Tryz.prog.info? 99=some i):Di Go.Proofs.Tryz.prog 78 ei.size ei.bytes:=by
 have q45:∀ (w:World) (a:Option Addr) (n c n' c':Nat),(binOp .eql 45 (.slice a n c) (.slice none n' c')).run Go.Proofs.Tryz.prog w=.ok (.bool a.isNone) w:=fun w a n c n' c'=>Lib.run_eql_slice_nil w _ _ a n c n' c' Go.Proofs.Tryz.underlying45
 have qb:=fun w=>FD (P:=Go.Proofs.Tryz.prog) w 45 99 i Go.Proofs.Tryz.underlying45 hi
 intro w xv m news hone hlen hx hb hpos
 have hxs:∃ a c,xv=.slice a m c∧(a=none→m=0):=by
  rcases hx with ⟨rfl,ad,c,rfl⟩ | ⟨b,off,c,rfl,_,_⟩
  ·exact ⟨ad,c,rfl,fun _=>rfl⟩
  ·exact ⟨_,_,rfl,by simp⟩
 obtain ⟨a,c,rfl,ha⟩:=hxs
 cases a with
 | none =>
  have:=ha rfl;subst this
  go_enter Go.Proofs.Tryz.func78,Go.Proofs.Tryz.ntmps78
  go_wp2
  go_ret
  exact ⟨BR.refl _,.inl ⟨_,rfl⟩⟩
 | some ad =>
  obtain ⟨v',w',hr,hv⟩:=FN hL hei Go.Proofs.Tryz.underlying45 w hone hlen hx hb (MY hb hby) hpos
  go_enter Go.Proofs.Tryz.func78,Go.Proofs.Tryz.ntmps78
  clear hx hone hlen hb hL hei hby hi ha
  go_wp2_with (refine EW (qb _) hr ?_)
  go_ret
  exact hv
theorem a7t:Di Go.Proofs.Tryz.prog 78 4 32:=cl78 NC (ei:=y99) rfl (by decide) ((Go.Proofs.Tryz.prog.info? 99).get (by kernel_rfl)) (Option.some_get _).symm
theorem a8a {L:Lay} (hL:EG Go.Proofs.Tryz.prog L) {ei:TI} (hei:L 49=some ei) (hby:0<ei.bytes) (i:TypeInfo) (hi:Go.Proofs.Tryz.prog.info? 49=some i):Di Go.Proofs.Tryz.prog 100 ei.size ei.bytes:=by
 have q32:∀ (w:World) (a:Option Addr) (n c n' c':Nat),(binOp .eql 32 (.slice a n c) (.slice none n' c')).run Go.Proofs.Tryz.prog w=.ok (.bool a.isNone) w:=fun w a n c n' c'=>Lib.run_eql_slice_nil w _ _ a n c n' c' Go.Proofs.Tryz.underlying32
 have qb:=fun w=>FD (P:=Go.Proofs.Tryz.prog) w 32 49 i Go.Proofs.Tryz.underlying32 hi
 intro w xv m news hone hlen hx hb hpos
 have hxs:∃ a c,xv=.slice a m c∧(a=none→m=0):=by
  rcases hx with ⟨rfl,ad,c,rfl⟩ | ⟨b,off,c,rfl,_,_⟩
  ·exact ⟨ad,c,rfl,fun _=>rfl⟩
  ·exact ⟨_,_,rfl,by simp⟩
 obtain ⟨a,c,rfl,ha⟩:=hxs
 cases a with
 | none =>
  have:=ha rfl;subst this
  go_enter Go.Proofs.Tryz.func100,Go.Proofs.Tryz.ntmps100
  go_wp2
  go_ret
  exact ⟨BR.refl _,.inl ⟨_,rfl⟩⟩
 | some ad =>
  obtain ⟨v',w',hr,hv⟩:=FN hL hei Go.Proofs.Tryz.underlying32 w hone hlen hx hb (MY hb hby) hpos
  go_enter Go.Proofs.Tryz.func100,Go.Proofs.Tryz.ntmps100
  clear hx hone hlen hb hL hei hby hi ha
  go_wp2_with (refine EW (qb _) hr ?_)
  go_ret
  exact hv
theorem a3s:Di Go.Proofs.Tryz.prog 100 17 184:=a8a NC (ei:=y49) rfl (by decide) ((Go.Proofs.Tryz.prog.info? 49).get (by kernel_rfl)) (Option.some_get _).symm
theorem a7z {L:Lay} (hL:EG Go.Proofs.Tryz.prog L) {ei:TI} (hei:L 67=some ei) (hby:0<ei.bytes) (i:TypeInfo) (hi:Go.Proofs.Tryz.prog.info? 67=some i):Di Go.Proofs.Tryz.prog 101 ei.size ei.bytes:=by
 have q33:∀ (w:World) (a:Option Addr) (n c n' c':Nat),(binOp .eql 33 (.slice a n c) (.slice none n' c')).run Go.Proofs.Tryz.prog w=.ok (.bool a.isNone) w:=fun w a n c n' c'=>Lib.run_eql_slice_nil w _ _ a n c n' c' Go.Proofs.Tryz.underlying33
 have qb:=fun w=>FD (P:=Go.Proofs.Tryz.prog) w 33 67 i Go.Proofs.Tryz.underlying33 hi
 intro w xv m news hone hlen hx hb hpos
 have hxs:∃ a c,xv=.slice a m c∧(a=none→m=0):=by
  rcases hx with ⟨rfl,ad,c,rfl⟩ | ⟨b,off,c,rfl,_,_⟩
  ·exact ⟨ad,c,rfl,fun _=>rfl⟩
  ·exact ⟨_,_,rfl,by simp⟩
 obtain ⟨a,c,rfl,ha⟩:=hxs
 cases a with
 | none =>
  have:=ha rfl;subst this
  go_enter Go.Proofs.Tryz.func101,Go.Proofs.Tryz.ntmps101
  go_wp2
  go_ret
  exact ⟨BR.refl _,.inl ⟨_,rfl⟩⟩
 | some ad =>
  obtain ⟨v',w',hr,hv⟩:=FN hL hei Go.Proofs.Tryz.underlying33 w hone hlen hx hb (MY hb hby) hpos
  go_enter Go.Proofs.Tryz.func101,Go.Proofs.Tryz.ntmps101
  clear hx hone hlen hb hL hei hby hi ha
  go_wp2_with (refine EW (qb _) hr ?_)
  go_ret
  exact hv
theorem a3r:Di Go.Proofs.Tryz.prog 101 4 32:=a7z NC (ei:=y67) rfl (by decide) ((Go.Proofs.Tryz.prog.info? 67).get (by kernel_rfl)) (Option.some_get _).symm
theorem a7y {L:Lay} (hL:EG Go.Proofs.Tryz.prog L) {ei:TI} (hei:L 55=some ei) (hby:0<ei.bytes) (i:TypeInfo) (hi:Go.Proofs.Tryz.prog.info? 55=some i):Di Go.Proofs.Tryz.prog 146 ei.size ei.bytes:=by
 have q29:∀ (w:World) (a:Option Addr) (n c n' c':Nat),(binOp .eql 29 (.slice a n c) (.slice none n' c')).run Go.Proofs.Tryz.prog w=.ok (.bool a.isNone) w:=fun w a n c n' c'=>Lib.run_eql_slice_nil w _ _ a n c n' c' Go.Proofs.Tryz.underlying29
 have qb:=fun w=>FD (P:=Go.Proofs.Tryz.prog) w 29 55 i Go.Proofs.Tryz.underlying29 hi
 intro w xv m news hone hlen hx hb hpos
 have hxs:∃ a c,xv=.slice a m c∧(a=none→m=0):=by
  rcases hx with ⟨rfl,ad,c,rfl⟩ | ⟨b,off,c,rfl,_,_⟩
  ·exact ⟨ad,c,rfl,fun _=>rfl⟩
  ·exact ⟨_,_,rfl,by simp⟩
 obtain ⟨a,c,rfl,ha⟩:=hxs
 cases a with
 | none =>
  have:=ha rfl;subst this
  go_enter Go.Proofs.Tryz.func146,Go.Proofs.Tryz.ntmps146
  go_wp2
  go_ret
  exact ⟨BR.refl _,.inl ⟨_,rfl⟩⟩
 | some ad =>
  obtain ⟨v',w',hr,hv⟩:=FN hL hei Go.Proofs.Tryz.underlying29 w hone hlen hx hb (MY hb hby) hpos
  go_enter Go.Proofs.Tryz.func146,Go.Proofs.Tryz.ntmps146
  clear hx hone hlen hb hL hei hby hi ha
  go_wp2_with (refine EW (qb _) hr ?_)
  go_ret
  exact hv
theorem a3q:Di Go.Proofs.Tryz.prog 146 3 24:=a7y NC (ei:=y55) rfl (by decide) ((Go.Proofs.Tryz.prog.info? 55).get (by kernel_rfl)) (Option.some_get _).symm
theorem a7x {L:Lay} (hL:EG Go.Proofs.Tryz.prog L) {ei:TI} (hei:L 106=some ei) (hby:0<ei.bytes) (i:TypeInfo) (hi:Go.Proofs.Tryz.prog.info? 106=some i):Di Go.Proofs.Tryz.prog 147 ei.size ei.bytes:=by
 have q46:∀ (w:World) (a:Option Addr) (n c n' c':Nat),(binOp .eql 46 (.slice a n c) (.slice none n' c')).run Go.Proofs.Tryz.prog w=.ok (.bool a.isNone) w:=fun w a n c n' c'=>Lib.run_eql_slice_nil w _ _ a n c n' c' Go.Proofs.Tryz.underlying46
 have qb:=fun w=>FD (P:=Go.Proofs.Tryz.prog) w 46 106 i Go.Proofs.Tryz.underlying46 hi
 intro w xv m news hone hlen hx hb hpos
 have hxs:∃ a c,xv=.slice a m c∧(a=none→m=0):=by
  rcases hx with ⟨rfl,ad,c,rfl⟩ | ⟨b,off,c,rfl,_,_⟩
  ·exact ⟨ad,c,rfl,fun _=>rfl⟩
  ·exact ⟨_,_,rfl,by simp⟩
 obtain ⟨a,c,rfl,ha⟩:=hxs
 cases a with
 | none =>
  have:=ha rfl;subst this
  go_enter Go.Proofs.Tryz.func147,Go.Proofs.Tryz.ntmps147
  go_wp2
  go_ret
  exact ⟨BR.refl _,.inl ⟨_,rfl⟩⟩
 | some ad =>
  obtain ⟨v',w',hr,hv⟩:=FN hL hei Go.Proofs.Tryz.underlying46 w hone hlen hx hb (MY hb hby) hpos
  go_enter Go.Proofs.Tryz.func147,Go.Proofs.Tryz.ntmps147
  clear hx hone hlen hb hL hei hby hi ha
  go_wp2_with (refine EW (qb _) hr ?_)
  go_ret
  exact hv
theorem a3p:Di Go.Proofs.Tryz.prog 147 3 24:=a7x NC (ei:=fY) rfl (by decide) ((Go.Proofs.Tryz.prog.info? 106).get (by kernel_rfl)) (Option.some_get _).symm
theorem a7w {L:Lay} (hL:EG Go.Proofs.Tryz.prog L) {ei:TI} (hei:L 162=some ei) (hby:0<ei.bytes) (i:TypeInfo) (hi:Go.Proofs.Tryz.prog.info? 162=some i):Di Go.Proofs.Tryz.prog 148 ei.size ei.bytes:=by
 have q47:∀ (w:World) (a:Option Addr) (n c n' c':Nat),(binOp .eql 47 (.slice a n c) (.slice none n' c')).run Go.Proofs.Tryz.prog w=.ok (.bool a.isNone) w:=fun w a n c n' c'=>Lib.run_eql_slice_nil w _ _ a n c n' c' Go.Proofs.Tryz.underlying47
 have qb:=fun w=>FD (P:=Go.Proofs.Tryz.prog) w 47 162 i Go.Proofs.Tryz.underlying47 hi
 intro w xv m news hone hlen hx hb hpos
 have hxs:∃ a c,xv=.slice a m c∧(a=none→m=0):=by
  rcases hx with ⟨rfl,ad,c,rfl⟩ | ⟨b,off,c,rfl,_,_⟩
  ·exact ⟨ad,c,rfl,fun _=>rfl⟩
  ·exact ⟨_,_,rfl,by simp⟩
 obtain ⟨a,c,rfl,ha⟩:=hxs
 cases a with
 | none =>
  have:=ha rfl;subst this
  go_enter Go.Proofs.Tryz.func148,Go.Proofs.Tryz.ntmps148
  go_wp2
  go_ret
  exact ⟨BR.refl _,.inl ⟨_,rfl⟩⟩
 | some ad =>
  obtain ⟨v',w',hr,hv⟩:=FN hL hei Go.Proofs.Tryz.underlying47 w hone hlen hx hb (MY hb hby) hpos
  go_enter Go.Proofs.Tryz.func148,Go.Proofs.Tryz.ntmps148
  clear hx hone hlen hb hL hei hby hi ha
  go_wp2_with (refine EW (qb _) hr ?_)
  go_ret
  exact hv
theorem a3o:Di Go.Proofs.Tryz.prog 148 3 24:=a7w NC (ei:=aQ) rfl (by decide) ((Go.Proofs.Tryz.prog.info? 162).get (by kernel_rfl)) (Option.some_get _).symm
theorem a2m {L:Lay} (hL:EG Go.Proofs.Tryz.prog L) {ei:TI} (hei:L 162=some ei) (hsz:ei.size=3) (hbyt:ei.bytes=24):aO Go.Proofs.Tryz.prog 207 3 24:=by
 have hok:=hL _ _ hei
 have hu:=Go.Proofs.Tryz.underlying47
 have mixed:Go.Proofs.Tryz.prog.follows Departure.mixedOrders=true:=by kernel_rfl
 intro w dv n cap ys gb i xb xc news hd hrow2 hi hb
 obtain ⟨cur2,el2,hheap2,hcs2,htk2⟩:=hrow2.ex
 have hxr:w.rangeAt xb 0 news:=BW hrow2
 by_cases hin:i=n
 ·subst hin
  have hd':(gb=none∧(∃ ad,dv=.slice ad 0 0)∧i=0∧ys=[])∨∃ b,gb=some b∧dv=.slice (some ⟨b,0,none⟩) i cap∧Ec w b ei.size i cap ys:=by
   rcases hd with h | ⟨b,h1,h2,h3,_⟩
   ·exact .inl h
   ·exact .inr ⟨b,h1,h2,by rw [hsz];exact h3⟩
  have hap:=fun ty=>Kf hL hei hu ty (w:=w) (dv:=dv) (n:=i) (cap:=cap) (ys:=ys) (g:=gb) hd' (xv:=.slice (some ⟨xb,0,none⟩) 1 xc) (m:=1) (news:=news) hrow2.one (by rw [hsz];simpa using hrow2.ln) (.inr ⟨xb,0,xc,rfl,hxr⟩) (by rw [hbyt];exact hb) (by simp only [maxLen];omega)
  have hyl:ys.take (i*3)=ys∧ys.drop (i*3)=[]:=by
   have:ys.length=i*3:=by
    rcases hd with ⟨_,_,h1,h2⟩ | ⟨b,_,_,h3,_⟩
    ·subst h1 h2;rfl
    ·exact h3.ln
   exact ⟨List.take_of_length_le (by omega),List.drop_of_length_le (by omega)⟩
  obtain ⟨v',w',hr,hv⟩:=hap 47
  have hsv:∃ ad,dv=.slice ad i (if gb=none then 0 else cap)∧(ad=none→i=0):=by
   rcases hd with ⟨rfl,⟨ad,rfl⟩,rfl,_⟩ | ⟨b,rfl,rfl,_,_⟩
   ·exact ⟨ad,rfl,fun _=>rfl⟩
   ·exact ⟨some ⟨b,0,none⟩,rfl,by simp⟩
  obtain ⟨ad,rfl,had⟩:=hsv
  generalize (if gb=none then 0 else cap)=cc at hr hd hd'
  have walk:Calls Go.Proofs.Tryz.prog 207 #[.slice ad i cc,.int .i64 i,.slice (some ⟨xb,0,none⟩) 1 xc] w fun e w''=>e=.returned v'∧w''=w':=by
   clear hv hd hd' hap hyl hok hxr hheap2 hcs2 htk2 hrow2 hb hi
   cases ad with
   | none =>
    have:=had rfl;subst this
    go_enter Go.Proofs.Tryz.func207,Go.Proofs.Tryz.ntmps207
    go_wp2_with (at_builtin;refine Lib.wpList_append_run _ rfl _ _ _ _ rfl _ _ rfl rfl _ _ hr ?_)
    all_goals (go_ret;exact ⟨rfl,rfl⟩)
   | some a0 =>
    go_enter Go.Proofs.Tryz.func207,Go.Proofs.Tryz.ntmps207
    go_wp2_with (at_builtin;refine Lib.wpList_append_run _ rfl _ _ _ _ rfl _ _ rfl rfl _ _ hr ?_)
    all_goals (go_ret;exact ⟨rfl,rfl⟩)
  refine walk.mono fun e w'' he=>?_
  obtain ⟨rfl,rfl⟩:=he
  rw [hyl.1,hyl.2,List.append_nil]
  rw [hsz] at hv
  rcases hv with ⟨h,_⟩ | ⟨b,h1,h2,h3,h4,h5,h6,h7,h8⟩ | ⟨cap',h2,h3,h4,h5⟩
  ·omega
  ·exact .inl ⟨b,h1,h2,h3,h4,h5,h6,h7,h8⟩
  ·exact .inr ⟨_,cap',h2,h3,h4,Nat.le_refl _,h5⟩
 ·have hlt:i<n:=by omega
  rcases hd with ⟨_,_,h,_⟩ | ⟨b,hgb,rfl,hrow,hbx⟩
  ·omega
  ·obtain ⟨cur,el,hheap,hcs,htk⟩:=hrow.ex
   obtain ⟨i0,hi0,hs0,hb0,z,hz,hzr⟩:=hok.info
   have hyl:=hrow.ln
   have hnl:news.length=3:=by simpa using hrow2.ln
   have hi3:i0.size=3:=by rw [hs0,hsz]
   have hle:n≤cap:=hrow.le
   have hbl:b<w.heap.size:=by
    rcases Nat.lt_or_ge b w.heap.size with h | h
    ·exact h
    ·rw [Array.getElem?_eq_none h] at hheap;cases hheap
   have hxl:xb<w.heap.size:=by
    rcases Nat.lt_or_ge xb w.heap.size with h | h
    ·exact h
    ·rw [Array.getElem?_eq_none h] at hheap2;cases hheap2
   have hys:∀ (W:World),W.heap[b]?=w.heap[b]?→∀ j u,(ys.drop (i*3))[j]?=some u→W.cell? ((⟨b,i*3,none⟩:Addr).add j)=some u:=by
    intro W hW j u hj
    rw [List.getElem?_drop] at hj
    have:=Ew hW (BW hrow) (i*3+j) u hj
    rw [Addr.add_mid]
    simpa using this
   have hns:∀ (W:World),W.heap[xb]?=w.heap[xb]?→∀ j u,news[j]?=some u→W.cell? ((⟨xb,0,none⟩:Addr).add j)=some u:=by
    intro W hW j u hj
    have:=Ew hW hxr j u hj
    rw [Addr.add_mid]
    exact this
   have hw1:IntKind.i64.wrap ((i:Int)+1)=(i:Int)+1:=by rw [IntKind.wrap_i64];omega
   have hw2:IntKind.i64.wrap ((n:Int)+1)=(n:Int)+1:=by rw [IntKind.wrap_i64];omega
   have hz2:¬ ((i:Int)=(n:Int)):=by omega
   have hdl:(ys.drop (i*3)).length=(n - i)*i0.size:=by rw [List.length_drop,hyl,hi3,← Nat.sub_mul]
   have h1d:∀ u∈ys.drop (i*3),u.oneCell'=true:=fun u hu=>hrow.one u (List.mem_of_mem_drop hu)
   have hcl:cur.toList.length=cap*3:=by simpa using hcs
   have hb1:(0:Int)≤(i:Int)+1:=by omega
   have htn:((i:Int)+1).toNat=i+1:=by omega
   have hm63:=hrow.mx
   simp only [maxLen] at hm63
   by_cases hroom:n+1≤cap
   ·obtain ⟨C1,hC1⟩:∃ C1,C1=cur.toList.take ((i+1)*3)++ys.drop (i*3)++cur.toList.drop ((i+1)*3+(ys.drop (i*3)).length):=⟨_,rfl⟩
    obtain ⟨C2,hC2⟩:∃ C2,C2=C1.take (i*3)++news++C1.drop (i*3+news.length):=⟨_,rfl⟩
    obtain ⟨l2,l1,t2⟩:=dX hcl htk hyl hnl hi hroom hC1 hC2
    have hov:∀ lb cb,(callFunc 211 #[.slice (some ⟨xb,0,none⟩) 1 xc,.slice (some ⟨b,(i+1)*3,none⟩) lb cb]).run Go.Proofs.Tryz.prog w=.ok (.value (.bool false)) w:=fun lb cb=>by
     rw [run_callFunc_extern Go.Proofs.Tryz.func211 (by kernel_rfl) (by kernel_rfl) (by kernel_rfl) (e:=Extern.SlicesOverlaps.overlaps #[47,47] #[4]) (by kernel_rfl),
      Lib.run_overlaps_apart w 47 4 162 hu 3 (fun w=>by simp [Go.sizeOf,typeInfo,hi0,hi3]) ⟨xb,0,none⟩ ⟨b,(i+1)*3,none⟩ 1 xc lb cb (fun h=>hbx h.symm) el2 el cur2.size cur.size (by simp [World.shape?,hheap2]) (by simp [World.shape?,hheap]) (by omega) (by simp [World.frozen?,hheap2]) (by simp [World.frozen?,hheap2])]
     rfl
    have hcp1:∀ ty dc sc,(Builtin.copy_ #[47,47] ty #[.slice (some ⟨b,(i+1)*3,none⟩) (n - i) dc,.slice (some ⟨b,i*3,none⟩) (n+1 - i) sc]).run Go.Proofs.Tryz.prog w.drew=.ok (goInt (n - i:Nat)) (w.drew.setRow b C1.toArray):=fun ty dc sc=>by
     rw [hC1]
     exact HE _ w.drew 47 47 ty 162 el i0 hu hi0 b ((i+1)*3) _ dc cur hheap ⟨b,i*3,none⟩ _ sc (n - i) (ys.drop (i*3)) (by simp only [Nat.min_def];split<;>omega) hdl (hys w.drew rfl) h1d (by rw [hdl,hi3];omega)
    obtain ⟨W1,hW1⟩:∃ W1,W1=w.drew.setRow b C1.toArray:=⟨_,rfl⟩
    have hh1:W1.heap[b]?=some (.cells C1.toArray el (0,0)):=by rw [hW1];exact setRow_heap w.drew b cur _ el _ hheap
    have ho1:∀ c,c≠b→W1.heap[c]?=w.heap[c]?:=fun c hc=>by rw [hW1];exact setRow_other w.drew b c _ hc
    have hcp2:∀ ty dc,(Builtin.copy_ #[47,47] ty #[.slice (some ⟨b,i*3,none⟩) (n+1 - i) dc,.slice (some ⟨xb,0,none⟩) 1 xc]).run Go.Proofs.Tryz.prog W1=.ok (goInt (1:Nat)) (W1.setRow b C2.toArray):=fun ty dc=>by
     rw [hC2]
     exact HE _ W1 47 47 ty 162 el i0 hu hi0 b (i*3) _ dc C1.toArray hh1 ⟨xb,0,none⟩ _ xc 1 news (by simp only [Nat.min_def];split<;>omega) (by rw [hnl,hi3]) (hns W1 (ho1 xb (fun h=>hbx h.symm))) hrow2.one (by simp only [List.size_toArray,l1,hnl];omega)
    rw [← hW1] at hcp1
    have hb2:¬ (cap=i+1):=by omega
    have hb3:(i:Int)≤(n:Int)+1:=by omega
    have hb4:¬ (cap=i):=by omega
    have hb5:(i:Int)+1≤(n:Int)+1:=by omega
    have walk:Calls Go.Proofs.Tryz.prog 207 #[.slice (some ⟨b,0,none⟩) n cap,.int .i64 i,.slice (some ⟨xb,0,none⟩) 1 xc] w fun e w''=>e=.returned (.slice (some ⟨b,0,none⟩) (n+1) cap)∧w''=W1.setRow b C2.toArray:=by
     clear hW1 hC1 hC2 t2 l1 l2 hh1 ho1 hok hz hzr hrow hrow2 hys hns hxr htk htk2 hheap hheap2 hdl h1d hcl hi0 hs0 hb0 hcs hcs2 hL hei hyl hnl
     go_enter Go.Proofs.Tryz.func207,Go.Proofs.Tryz.ntmps207
     go_wp2_with (simp only [hov])
     go_region_law_o (refine step_copy_runI rfl _ _ 47 47 rfl _ _ (by simp [Act.eval,Act.put]) (by simp [Act.eval,Act.put]) (hcp1 _ _ _) ?_)
     go_wp2_with (at_builtin;refine wpList_copy_runI _ rfl _ _ 47 47 rfl _ _ rfl rfl (hcp2 _ _) ?_)
     all_goals (go_ret;exact ⟨rfl,rfl⟩)
    refine walk.mono fun e w'' he=>?_
    obtain ⟨rfl,rfl⟩:=he
    refine .inl ⟨b,hgb,rfl,⟨⟨C2.toArray,el,setRow_heap W1 b _ _ el _ hh1,by simp [l2],by simpa using t2⟩,hroom,hrow.mx,hrow.pos,?_,?_⟩,fun c hc=>(setRow_other W1 b c _ hc).trans (ho1 c hc),by rw [hW1];simp,by rw [hW1];rfl,by rw [hW1];rfl,by rw [hW1];rfl⟩
    ·intro y hy
     simp only [List.mem_append] at hy
     rcases hy with (h | h) | h
     ·exact hrow.one y (List.mem_of_mem_take h)
     ·exact hrow2.one y h
     ·exact h1d y h
    ·have e3:i*3≤n*3:=Nat.mul_le_mul_right _ hi
     simp only [List.length_append,List.length_take,List.length_drop,hyl,hnl];omega
   ·have hik:i+(n+1 - i)=n+1:=by omega
    have hkk:(n:Int)+1 - (i:Int)=((n+1 - i:Nat):Int):=by omega
    have hwk:IntKind.i64.wrap ((n:Int)+1 - (i:Int))=(n:Int)+1 - (i:Int):=by rw [IntKind.wrap_i64];omega
    have hb24:i0.bytes=24:=by rw [hb0,hbyt]
    have htl:(ys.take (i*3)).length=i*i0.size:=by rw [List.length_take,hi3,hyl];have:=Nat.mul_le_mul_right 3 hi;omega
    have hold:(Builtin.firstCells i0.size i (.slice (some ⟨b,0,none⟩) i cap)).run Go.Proofs.Tryz.prog w.drew=.ok (ys.take (i*3)).toArray w.drew :=
     run_firstCells_some w.drew i0.size i ⟨b,0,none⟩ i cap (ys.take (i*3)) htl (fun j v hj=>by
      rw [List.getElem?_take] at hj
      split at hj
      ·rw [Addr.add_mid];exact BW hrow j v hj
      ·cases hj)
    have hgc:cap<i+(n+1 - i):=by omega
    have hrz:∀ ty,(Builtin.append_ #[47,3] ty #[.slice (some ⟨b,0,none⟩) i cap,.int .i64 ((n:Int)+1 - (i:Int))]).run Go.Proofs.Tryz.prog w =
      .ok (.slice (some ⟨w.heap.size,0,none⟩) (n+1) (grownCap w (n+1) cap 162)) (w.drew.alloc (.cells ((ys.take (i*3)).toArray++Builtin.zeroCells z.cells (n+1 - i)++Builtin.zeroCells z.cells (grownCap w (n+1) cap 162 - (n+1))) 162)):=fun ty=>by
     have h:=Lib.run_append_grow_zeros w 47 3 ty 162 i0 z .i64 .i64 hu Go.Proofs.Tryz.underlying3 hi0 hz (some ⟨b,0,none⟩) i cap (ys.take (i*3)) hold (n+1 - i) (by omega) (by rw [hi3];omega) hgc (by omega) (by rw [hb24];omega) (by rw [hb24];exact growslice_fits hgc (by rw [hik];exact hb))
     rw [hik] at h
     rw [hkk]
     exact h
    obtain ⟨G,hG⟩:∃ G,G=grownCap w (n+1) cap 162:=⟨_,rfl⟩
    have hGn:n+1≤G:=by rw [hG];exact grownCap_ge w _ _ _
    have hG63:G≤9223372036854775807:=by
     have:=grownCap_le_maxLen w (n+1) cap 162 (by unfold maxLen;omega)
     rw [← hG] at this
     unfold maxLen at this
     omega
    obtain ⟨R0,hR0⟩:∃ R0:Array Value,R0=(ys.take (i*3)).toArray++Builtin.zeroCells z.cells (n+1 - i)++Builtin.zeroCells z.cells (G - (n+1)):=⟨_,rfl⟩
    rw [← hG,← hR0] at hrz
    have hzl:z.cells.size=3:=by
     have h1:=(hzr ⟨w,fun _=>False,fun _=>[],fun _=>none,fun _=>False⟩)
     obtain ⟨i',z',hi',hs',hz',hzr',hzo'⟩:=zones hok hok.zones ⟨w,fun _=>False,fun _=>[],fun _=>none,fun _=>False⟩
     rw [hi0] at hi';cases hi';rw [hz] at hz';cases hz'
     have:=hzr'.length;have h2:=hok.zlen;rw [hsz] at h2;simp at this;omega
    have hR0l:R0.toList=ys.take (i*3)++((Builtin.zeroCells z.cells (n+1 - i)).toList++(Builtin.zeroCells z.cells (G - (n+1))).toList):=by rw [hR0];simp
    have hR0c:R0.toList.length=G*3:=by
     rw [hR0l]
     simp only [List.length_append,Array.length_toList,size_zeroCells,hzl,htl,hi3]
     omega
    obtain ⟨R1,hR1⟩:∃ R1,R1=R0.toList.take (i*3)++news++R0.toList.drop (i*3+news.length):=⟨_,rfl⟩
    obtain ⟨R2,hR2⟩:∃ R2,R2=R1.take ((i+1)*3)++ys.drop (i*3)++R1.drop ((i+1)*3+(ys.drop (i*3)).length):=⟨_,rfl⟩
    obtain ⟨l2,l1,t2⟩:=uO hR0l hR0c hyl hnl hi hGn hR1 hR2
    obtain ⟨W1,hW1⟩:∃ W1,W1=w.drew.alloc (.cells R0 162):=⟨_,rfl⟩
    have hh1:W1.heap[w.heap.size]?=some (.cells R0 162 (0,0)):=by rw [hW1];exact heap_alloc_new w.drew _
    have lat1:BR w W1:=by rw [hW1];exact (BR.drew w).trans (BR.alloc _ _)
    have hs1:w.heap.size<W1.heap.size:=by rw [hW1];simp
    have hfit1:i*3+news.length≤R0.size:=by
     have h0:R0.size=G*3:=by simpa using hR0c
     rw [h0,hnl];omega
    have hcp1:∀ ty dc,(Builtin.copy_ #[47,47] ty #[.slice (some ⟨w.heap.size,i*3,none⟩) (n+1 - i) dc,.slice (some ⟨xb,0,none⟩) 1 xc]).run Go.Proofs.Tryz.prog W1=.ok (goInt (1:Nat)) (W1.setRow w.heap.size R1.toArray):=fun ty dc=>by
     rw [hR1]
     exact HE _ W1 47 47 ty 162 162 i0 hu hi0 w.heap.size (i*3) _ dc R0 hh1 ⟨xb,0,none⟩ _ xc 1 news (by simp only [Nat.min_def];split<;>omega) (by rw [hnl,hi3]) (hns W1 (lat1.keep _ hxl)) hrow2.one (hfit1)
    obtain ⟨W2,hW2⟩:∃ W2,W2=W1.setRow w.heap.size R1.toArray:=⟨_,rfl⟩
    have hh2:W2.heap[w.heap.size]?=some (.cells R1.toArray 162 (0,0)):=by rw [hW2];exact setRow_heap W1 _ R0 _ 162 _ hh1
    have ho2:∀ c,c<w.heap.size→W2.heap[c]?=w.heap[c]?:=fun c hc=>by rw [hW2,setRow_other W1 _ c _ (by omega)];exact lat1.keep c hc
    have hs2:W2.heap.size=W1.heap.size:=by rw [hW2];simp
    have hcp2:∀ ty dc sc,(Builtin.copy_ #[47,47] ty #[.slice (some ⟨w.heap.size,(i+1)*3,none⟩) (n - i) dc,.slice (some ⟨b,i*3,none⟩) (n - i) sc]).run Go.Proofs.Tryz.prog W2.drew=.ok (goInt (n - i:Nat)) (W2.drew.setRow w.heap.size R2.toArray):=fun ty dc sc=>by
     rw [hR2]
     exact HE _ W2.drew 47 47 ty 162 162 i0 hu hi0 w.heap.size ((i+1)*3) _ dc R1.toArray hh2 ⟨b,i*3,none⟩ _ sc (n - i) (ys.drop (i*3)) (by simp only [Nat.min_def];split<;>omega) hdl (hys W2.drew (ho2 b hbl)) h1d (by simp only [List.size_toArray,l1];rw [hdl,hi3];omega)
    obtain ⟨W3,hW3⟩:∃ W3,W3=W2.drew.setRow w.heap.size R2.toArray:=⟨_,rfl⟩
    have hh3:W3.heap[w.heap.size]?=some (.cells R2.toArray 162 (0,0)):=by rw [hW3];exact setRow_heap W2.drew _ _ _ 162 _ hh2
    have ho3:∀ c,c<w.heap.size→W3.heap[c]?=w.heap[c]?:=fun c hc=>by rw [hW3,setRow_other W2.drew _ c _ (by omega)];exact ho2 c hc
    have hs3:W3.heap.size=W2.heap.size:=by rw [hW3];simp
    have lat3:BR w W3:=⟨by omega,ho3,by rw [hW3,hW2,hW1];rfl,by rw [hW3,hW2,hW1];rfl,by rw [hW3,hW2,hW1];rfl⟩
    rw [← hW1] at hrz
    rw [← hW2] at hcp1
    rw [← hW3] at hcp2
    have hGi:¬ (G=i):=by omega
    have hGim:¬ (G=i+1):=by omega
    have hci:¬ (cap=i):=by omega
    have hb3:(i:Int)≤(n:Int):=by omega
    have hb4:(i:Int)≤(n:Int)+1:=by omega
    have hb5:(i:Int)+1≤(n:Int)+1:=by omega
    have hz3:(cap:Int)<(n:Int)+1:=by omega
    have walk:Calls Go.Proofs.Tryz.prog 207 #[.slice (some ⟨b,0,none⟩) n cap,.int .i64 i,.slice (some ⟨xb,0,none⟩) 1 xc] w fun e w''=>e=.returned (.slice (some ⟨w.heap.size,0,none⟩) (n+1) G)∧w''=W3:=by
     clear hW1 hW2 hW3 hR0 hR1 hR2 hR0l hR0c t2 l1 l2 hh1 hh2 hh3 ho2 ho3 hs1 hs2 hs3 lat1 lat3 hok hz hzr hrow hrow2 hys hns hxr htk htk2 hheap hheap2 hdl h1d hcl hi0 hs0 hb0 hcs hcs2 hL hei hyl hnl hold htl hkk hik hzl hG hgc
     go_enter Go.Proofs.Tryz.func207,Go.Proofs.Tryz.ntmps207
     go_wp2_with (first
      | (at_builtin;refine Lib.wpList_append_run _ rfl _ _ _ _ rfl _ _ rfl rfl _ _ (hrz _) ?_)
      | (at_builtin;refine wpList_copy_runI _ rfl _ _ 47 47 rfl _ _ rfl rfl (hcp1 _ _) ?_))
     go_region_law_o (refine step_copy_runI rfl _ _ 47 47 rfl _ _ (by simp [Act.eval,Act.put]) (by simp [Act.eval,Act.put]) (hcp2 _ _ _) ?_)
     go_wp2
     all_goals (go_ret;exact ⟨rfl,rfl⟩)
    refine walk.mono fun e w'' he=>?_
    obtain ⟨rfl,rfl⟩:=he
    refine .inr ⟨w.heap.size,G,rfl,⟨⟨R2.toArray,162,hh3,by simp [l2],by simpa using t2⟩,hGn,hG63,by omega,?_,?_⟩,lat3,Nat.le_refl _,by omega⟩
    ·intro y hy
     simp only [List.mem_append] at hy
     rcases hy with (h | h) | h
     ·exact hrow.one y (List.mem_of_mem_take h)
     ·exact hrow2.one y h
     ·exact h1d y h
    ·have e3:i*3≤n*3:=Nat.mul_le_mul_right _ hi
     simp only [List.length_append,List.length_take,List.length_drop,hyl,hnl];omega
def ClP (p:Nat × IFn):Prop:=∀ sz bytes,p.2.clone=some (sz,bytes)→(p.2.owns=[]→Di Go.Proofs.Tryz.prog p.1 sz bytes)∧(p.2.owns≠[]→aO Go.Proofs.Tryz.prog p.1 sz bytes)
theorem wO:Ur Go.Proofs.Tryz.prog tbl:=by
 have this:∀ p∈UA,ClP p:=by
  simp only [UA,List.forall_mem_cons]
  exact ⟨(fun _ _ h=>by cases h),(fun _ _ h=>by cases h),(fun _ _ h=>by cases h),(fun _ _ h=>by cases h),(fun _ _ h=>by cases h),(fun _ _ h=>by cases h),(fun _ _ h=>by cases h),(fun _ _ h=>by cases h),(fun _ _ h=>by cases h),(fun _ _ h=>by cases h),(fun _ _ h=>by cases h),(fun _ _ h=>by cases h),(fun _ _ h=>by cases h),(fun _ _ h=>by cases h),(fun _ _ h=>by cases h),(fun _ _ h=>by cases h),(fun _ _ h=>by cases h),(fun _ _ h=>by cases h),(fun _ _ h=>by cases h),(fun _ _ h=>by cases h),(fun _ _ h=>by cases h),(fun _ _ h=>by cases h),(fun _ _ h=>by cases h),(fun _ _ h=>by cases h),(fun _ _ h=>by cases h),(fun _ _ h=>by cases h),(fun _ _ h=>by cases h),(fun _ _ h=>by cases h),(fun _ _ h=>by cases h),(fun _ _ h=>by cases h),(fun _ _ h=>by cases h),(fun _ _ h=>by cases h),(fun _ _ h=>by cases h),(fun _ _ h=>by cases h),(fun _ _ h=>by cases h),(fun _ _ h=>by cases h),(fun _ _ h=>by cases h),(fun _ _ h=>by cases h),(fun _ _ h=>by cases h),(fun _ _ h=>by cases h),(fun _ _ h=>by cases h),(fun _ _ h=>by cases h),(fun _ _ h=>by cases h),(fun _ _ h=>by cases h),(fun _ _ h=>by cases h),(fun _ _ h=>by cases h),(fun _ _ h=>by cases h),(fun _ _ h=>by cases h),(fun _ _ h=>by cases h),(fun _ _ h=>by cases h),(fun _ _ h=>by cases h),(fun _ _ h=>by cases h),(fun _ _ h=>by cases h),(fun _ _ h=>by cases h),(fun _ _ h=>by cases h),(fun _ _ h=>by cases h),(fun _ _ h=>by cases h),(fun _ _ h=>by cases h),(fun _ _ h=>by cases h),(fun _ _ h=>by cases h),(fun _ _ h=>by cases h),(fun _ _ h=>by cases h),(fun _ _ h=>by cases h),(fun _ _ h=>by cases h),(fun _ _ h=>by cases h),(fun _ _ h=>by cases h),(fun _ _ h=>by cases h),(fun _ _ h=>by cases h),(fun _ _ h=>by cases h),(fun _ _ h=>by cases h),(fun _ _ h=>by cases h),(fun _ _ h=>by cases h),(fun _ _ h=>by cases h),(fun _ _ h=>by cases h;exact ⟨fun _=>a7t,fun h=>absurd rfl h⟩),(fun _ _ h=>by cases h),(fun _ _ h=>by cases h),(fun _ _ h=>by cases h),(fun _ _ h=>by cases h),(fun _ _ h=>by cases h),(fun _ _ h=>by cases h),(fun _ _ h=>by cases h),(fun _ _ h=>by cases h),(fun _ _ h=>by cases h),(fun _ _ h=>by cases h),(fun _ _ h=>by cases h),(fun _ _ h=>by cases h),(fun _ _ h=>by cases h),(fun _ _ h=>by cases h),(fun _ _ h=>by cases h),(fun _ _ h=>by cases h),(fun _ _ h=>by cases h),(fun _ _ h=>by cases h),(fun _ _ h=>by cases h),(fun _ _ h=>by cases h;exact ⟨fun _=>a3s,fun h=>absurd rfl h⟩),(fun _ _ h=>by cases h;exact ⟨fun _=>a3r,fun h=>absurd rfl h⟩),(fun _ _ h=>by cases h),(fun _ _ h=>by cases h),(fun _ _ h=>by cases h),(fun _ _ h=>by cases h),(fun _ _ h=>by cases h),(fun _ _ h=>by cases h),(fun _ _ h=>by cases h),(fun _ _ h=>by cases h),(fun _ _ h=>by cases h),(fun _ _ h=>by cases h),(fun _ _ h=>by cases h),(fun _ _ h=>by cases h),(fun _ _ h=>by cases h),(fun _ _ h=>by cases h),(fun _ _ h=>by cases h),(fun _ _ h=>by cases h),(fun _ _ h=>by cases h),(fun _ _ h=>by cases h),(fun _ _ h=>by cases h),(fun _ _ h=>by cases h),(fun _ _ h=>by cases h),(fun _ _ h=>by cases h),(fun _ _ h=>by cases h),(fun _ _ h=>by cases h),(fun _ _ h=>by cases h),(fun _ _ h=>by cases h),(fun _ _ h=>by cases h),(fun _ _ h=>by cases h),(fun _ _ h=>by cases h),(fun _ _ h=>by cases h),(fun _ _ h=>by cases h),(fun _ _ h=>by cases h),(fun _ _ h=>by cases h),(fun _ _ h=>by cases h),(fun _ _ h=>by cases h),(fun _ _ h=>by cases h),(fun _ _ h=>by cases h),(fun _ _ h=>by cases h),(fun _ _ h=>by cases h),(fun _ _ h=>by cases h),(fun _ _ h=>by cases h),(fun _ _ h=>by cases h),(fun _ _ h=>by cases h),(fun _ _ h=>by cases h),(fun _ _ h=>by cases h;exact ⟨fun _=>a3q,fun h=>absurd rfl h⟩),(fun _ _ h=>by cases h;exact ⟨fun _=>a3p,fun h=>absurd rfl h⟩),(fun _ _ h=>by cases h;exact ⟨fun _=>a3o,fun h=>absurd rfl h⟩),(fun _ _ h=>by cases h),(fun _ _ h=>by cases h),(fun _ _ h=>by cases h),(fun _ _ h=>by cases h),(fun _ _ h=>by cases h),(fun _ _ h=>by cases h),(fun _ _ h=>by cases h),(fun _ _ h=>by cases h),(fun _ _ h=>by cases h),(fun _ _ h=>by cases h),(fun _ _ h=>by cases h),(fun _ _ h=>by cases h),(fun _ _ h=>by cases h),(fun _ _ h=>by cases h),(fun _ _ h=>by cases h),(fun _ _ h=>by cases h),(fun _ _ h=>by cases h),(fun _ _ h=>by cases h),(fun _ _ h=>by cases h),(fun _ _ h=>by cases h),(fun _ _ h=>by cases h),(fun _ _ h=>by cases h),(fun _ _ h=>by cases h),(fun _ _ h=>by cases h),(fun _ _ h=>by cases h),(fun _ _ h=>by cases h),(fun _ _ h=>by cases h),(fun _ _ h=>by cases h),(fun _ _ h=>by cases h),(fun _ _ h=>by cases h),(fun _ _ h=>by cases h),(fun _ _ h=>by cases h),(fun _ _ h=>by cases h),(fun _ _ h=>by cases h),(fun _ _ h=>by cases h),(fun _ _ h=>by cases h),(fun _ _ h=>by cases h),(fun _ _ h=>by cases h),(fun _ _ h=>by cases h),(fun _ _ h=>by cases h),(fun _ _ h=>by cases h),(fun _ _ h=>by cases h),(fun _ _ h=>by cases h),(fun _ _ h=>by cases h),(fun _ _ h=>by cases h),(fun _ _ h=>by cases h),(fun _ _ h=>by cases h),(fun _ _ h=>by cases h),(fun _ _ h=>by cases h),(fun _ _ h=>by cases h),(fun _ _ h=>by cases h),(fun _ _ h=>by cases h),(fun _ _ h=>by cases h),(fun _ _ h=>by cases h),(fun _ _ h=>by cases h),(fun _ _ h=>by cases h),(fun _ _ h=>by cases h),(fun _ _ h=>by cases h),(fun _ _ h=>by cases h;exact ⟨fun h=>(by cases h),fun _=>a2m NC (ei:=aQ) rfl rfl rfl⟩),(fun _ _ h=>by cases h),(fun _ _ h=>by cases h),(fun _ _ h=>by cases h),(fun _ _ h=>by cases h),(fun _ _ h=>by cases h),(fun _ _ h=>by cases h),fun p hp=>by cases hp⟩
 exact fun f d sz bytes h hc=>this (f,d) (SL h) sz bytes hc
theorem tieOk:Tie Go.Proofs.Tryz.prog ctx:=⟨NC,by kernel_rfl,wO,a7e⟩
end Ve
