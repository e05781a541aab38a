/- What a program's types must be for the evaluator: lemmas. -/
import Derived.Test.YtdgpalcplglhjaaGreatVeC
import Derived.Laws.StructEq
import Derived.ChangeKeysEq
import Derived.Test.YtdgpalcplglhjaaGreatVeT
import Derived.Test.YtdgpalcplglhjaaGreatProg
import Derived.KernelRfl
import Derived.Test.YtdgpalcplglhjaaGreatVeM
import Derived.WalkKit
import Derived.ProofKit
import Derived.Lib.SliceRun
import Derived.Lib.AppendZerosOnto
import Derived.Lib.Overlaps
import Derived.Shelf.Spec.SlicesInsert
set_option linter.all false
set_option linter.unusedSectionVars false
namespace Ve
open Go
theorem Eh {P:Program}:∀ {fields:List Field} {fs:List (Nat × Nat)},fields.mapM (fun f=>(P.info? f.type).map fun i=>(f.offset,i.size))=some fs→(fs.all fun p=>p.2 != 0)=true →
  ∀ (j:Nat) (p:Nat × Nat),fs[j]?=some p→∃ f:Field,fields[j]?=some f∧f.offset=p.1∧(∃ i,P.info? f.type=some i∧i.size=p.2)∧p.2≠0
 | [],fs,h,hz,j,p,hj=>by simp at h;subst h;simp at hj
 | f::fields,fs,h,hz,j,p,hj=>by
  simp only [List.mapM_cons,Option.bind_eq_bind,Option.bind_eq_some_iff,Option.map_eq_some_iff] at h
  obtain ⟨q,⟨i,hi,rfl⟩,r,hr,h⟩:=h
  simp only [Option.pure_def,Option.some.injEq] at h
  subst h
  simp only [List.all_cons,Bool.and_eq_true] at hz
  cases j with
  | zero=>simp at hj;subst hj;exact ⟨f,rfl,rfl,⟨i,hi,rfl⟩,by simpa using hz.1⟩
  | succ j=>simpa using Eh hr hz.2 j p (by simpa using hj)
theorem EE {P:Program} {t:TypeId} {ft:List TypeId} {fields0:Array Field} (h0:P.underlying t=some (.struct fields0)) (h1:fields0.toList.map (·.type)=ft) :
  ∀ fields,P.underlying t=some (.struct fields)→∀ (j:Nat) (u:TypeId),ft[j]?=some u→∃ f:Field,fields[j]?=some f∧f.type=u:=by
 intro fields hf j u hj
 rw [h0] at hf
 cases hf
 subst h1
 rw [List.getElem?_map,Option.map_eq_some_iff] at hj
 obtain ⟨f,hf,rfl⟩:=hj
 exact ⟨f,by simpa using hf,rfl⟩
theorem mT {a b:Value} {xs ys:List Value} {r:Bool} (h:Bp (V.lit a::xs.map V.lit) (V.lit b::ys.map V.lit)=some r) :
  ∃ k x y z,a=.int k x∧b=.int k y∧Bp (xs.map V.lit) (ys.map V.lit)=some z∧r=(decide (x=y)&&z):=by
 simp only [Bp] at h
 split at h
 ·rename_i x z hx hz
  simp only [Option.some.injEq] at h
  unfold Nt at hx
  split at hx
  ·rename_i e1 e2
   cases e1;cases e2
   split at hx
   ·rename_i hk;subst hk
    simp only [Option.some.injEq] at hx
    exact ⟨_,_,_,z,rfl,rfl,hz,by rw [← h,← hx]⟩
   ·cases hx
  ·cases hx
 ·cases h
theorem Ts {xs ys:List Value} {r:Bool} (h:Bp (xs.map V.lit) (ys.map V.lit)=some r) (hl:0<xs.length) :
  ∃ k x y z xs' ys',xs=.int k x::xs'∧ys=.int k y::ys'∧Bp (xs'.map V.lit) (ys'.map V.lit)=some z∧r=(decide (x=y)&&z):=by
 cases xs with
 | nil=>simp at hl
 | cons a xs =>
  cases ys with
  | nil=>simp [Bp] at h
  | cons b ys =>
   obtain ⟨k,x,y,z,rfl,rfl,hz,hr⟩:=mT h
   exact ⟨k,x,y,z,xs,ys,rfl,rfl,hz,hr⟩
theorem Gj {P:Program} (w:World) {t:TypeId} {k:IntKind} (ht:P.underlying t=some (.int k)) {xs:Array Value} {off:Nat} {v:Value} (hx:xs[off]?=some v):(part t xs off).run P w=.ok v w:=by
 simp [part,isAgg,run_underlying ht,hx]
def Jd (P:Program):Nat→List Field→Bool
 | _,[]=>true
 | j,f::r=>(f.name != "_")&&(f.offset == j)&&(match P.underlying f.type with | some (.int _)=>true | _=>false)&&Jd P (j+1) r
theorem LG {P:Program} (w:World) (d:Nat):∀ (fs:List Field) (px py xs ys:List Value) (r:Bool),px.length=py.length→Jd P px.length fs=true→xs.length=fs.length→Bp (xs.map V.lit) (ys.map V.lit)=some r →
  (Op.eqFields (d+1) (px++xs).toArray (py++ys).toArray fs).run P w=.ok r w
 | [],px,py,xs,ys,r,hp,hf,hl,h=>by
  have:xs=[]:=by simpa using hl
  subst this
  cases ys with
  | nil=>simp [Bp] at h;subst h;simp [Op.eqFields]
  | cons b ys=>simp [Bp] at h
 | f::fs,px,py,xs,ys,r,hp,hf,hl,h=>by
  obtain ⟨k,x,y,z,xs',ys',rfl,rfl,hz,rfl⟩:=Ts h (by simp at hl;omega)
  simp only [Jd,Bool.and_eq_true,bne_iff_ne,ne_eq,beq_iff_eq] at hf
  obtain ⟨⟨⟨h1,h2⟩,h3⟩,h4⟩:=hf
  cases hu:P.underlying f.type with
  | none=>simp [hu] at h3
  | some dd =>
   cases dd<;>simp [hu] at h3
   rename_i kk
   have ih:=LG w d fs (px++[.int k x]) (py++[.int k y]) xs' ys' z (by simp [hp]) (by simpa using h4) (by simpa using hl) hz
   have e1:(px++Value.int k x::xs').toArray[f.offset]?=some (.int k x):=by simp [h2]
   have e2:(py++Value.int k y::ys').toArray[f.offset]?=some (.int k y):=by simp [h2,hp]
   simp only [Op.eqFields,ne_eq,h1,not_false_eq_true,if_true,Sem.run_bind,Gj w hu e1,Gj w hu e2,Result.andThen_ok,run_equalIn_int w d f.type k kk x y hu]
   by_cases hxy:x=y
   ·subst hxy
    simp only [beq_self_eq_true,Bool.not_true,Bool.false_eq_true,if_false,decide_true,Bool.true_and]
    simpa using ih
   ·simp [hxy]
theorem Nk {P:Program} (w:World) (d:Nat) {e:TypeId} {k0:IntKind} (he:P.underlying e=some (.int k0)):∀ (n j:Nat) (px py xs ys:List Value) (r:Bool),px.length=j→py.length=j→xs.length=n→Bp (xs.map V.lit) (ys.map V.lit)=some r →
  (Op.eqItems (d+1) e 1 (px++xs).toArray (py++ys).toArray (List.range' j n)).run P w=.ok r w
 | 0,j,px,py,xs,ys,r,hp,hp',hl,h=>by
  have:xs=[]:=by simpa using hl
  subst this
  cases ys with
  | nil=>simp [Bp] at h;subst h;simp [Op.eqItems]
  | cons b ys=>simp [Bp] at h
 | n+1,j,px,py,xs,ys,r,hp,hp',hl,h=>by
  obtain ⟨k,x,y,z,xs',ys',rfl,rfl,hz,rfl⟩:=Ts h (by omega)
  have ih:=Nk w d he n (j+1) (px++[.int k x]) (py++[.int k y]) xs' ys' z (by simp [hp]) (by simp [hp']) (by simpa using hl) hz
  have e1:(px++Value.int k x::xs').toArray[j*1]?=some (.int k x):=by simp [hp]
  have e2:(py++Value.int k y::ys').toArray[j*1]?=some (.int k y):=by simp [hp']
  simp only [List.range'_succ,Op.eqItems,Sem.run_bind,Gj w he e1,Gj w he e2,Result.andThen_ok,run_equalIn_int w d e k k0 x y he]
  by_cases hxy:x=y
  ·subst hxy
   simp only [beq_self_eq_true,Bool.not_true,Bool.false_eq_true,if_false,decide_true,Bool.true_and]
   simpa using ih
  ·simp [hxy]
abbrev RI (P:Program) (t:TypeId) (size:Nat):Prop:=∀ (xs ys:List Value) (r:Bool),Bp (xs.map V.lit) (ys.map V.lit)=some r→xs.length=size→∀ (x y:Operand) (w:World),
  ((do eqGuard .eql t x y (.agg xs.toArray) (.agg ys.toArray);binOp .eql t (.agg xs.toArray) (.agg ys.toArray):Sem Value)).run P w=.ok (.bool r) w ∧
  ((do eqGuard .neq t x y (.agg xs.toArray) (.agg ys.toArray);binOp .neq t (.agg xs.toArray) (.agg ys.toArray):Sem Value)).run P w=.ok (.bool (!r)) w
theorem Sy {P:Program} {t:TypeId} {size:Nat} (hm:P.eqGuardType P.depth t=false) (h:∀ (xs ys:List Value) (r:Bool),Bp (xs.map V.lit) (ys.map V.lit)=some r→xs.length=size→∀ w,(Op.equalIn 10000 t (.agg xs.toArray) (.agg ys.toArray)).run P w=.ok r w):RI P t size:=by
 intro xs ys r he hl x y w
 have:=h xs ys r he hl w
 constructor
 ·simp only [Sem.run_bind,run_eqGuard_agg w _ t x y _ _ hm,Result.andThen_ok,run_eql_struct,this]
 ·simp only [Sem.run_bind,run_eqGuard_agg w _ t x y _ _ hm,Result.andThen_ok,run_neq_struct,this]
theorem DZ {P:Program} {t:TypeId} {size:Nat} (hm:P.eqGuardType P.depth t=false) (ht:P.underlying t=some (.struct (P.fieldsOf t))) (hp:P.stoodInHeld t=false) (hf:Jd P 0 (P.fieldsOf t).toList=true) (hl:(P.fieldsOf t).toList.length=size):RI P t size :=
 Sy hm fun xs ys r he hs w=>by
  rw [show (10000:Nat)=9998+1+1 from rfl,run_equalIn_agg w (9998+1) t _ _ ht hp]
  exact LG w 9998 _ [] [] xs ys r rfl hf (by omega) he
theorem Yp {P:Program} {t e:TypeId} {n:Nat} {k:IntKind} {i:TypeInfo} (hm:P.eqGuardType P.depth t=false) (ht:P.underlying t=some (.array n e)) (hi:P.info? e=some i) (he:P.underlying e=some (.int k)) (hc:P.cellsOf e=1):RI P t n :=
 Sy hm fun xs ys r hq hs w=>by
  rw [show (10000:Nat)=9998+1+1 from rfl,run_equalIn_array w (9998+1) _ _ ht hi,hc,List.range_eq_range']
  exact Nk w 9998 he n 0 [] [] xs ys r rfl rfl hs hq
theorem CB {E:Env} {m:Md} {cs:List V} {ys:List Value} {vs:List V} {xs:List Value} (h:Rs E m cs ys []) (h':Rs E m vs xs []):Rs E m (.agg cs::vs) (.agg ys.toArray::xs) []:=Rs.agg h h'
end Ve
namespace Ve
open Go
set_option maxRecDepth 10000
theorem ly1:BQ Go.Proofs.Tryz.prog lay 1 y1 :=
 ⟨⟨(Go.Proofs.Tryz.prog.info? 1).get (by kernel_rfl),(Option.some_get _).symm,by kernel_rfl,by kernel_rfl,(.nilFunc),by kernel_rfl,(fun E=>(.lit .nil))⟩,by decide,by decide,rfl,by decide,rfl,⟨(Go.Proofs.Tryz.prog.underlying 1).get (by kernel_rfl),(Option.some_get _).symm,by kernel_rfl⟩,
  (fun fs h=>by cases h),(fun n el h=>by cases h),(fun fs h=>by cases h),(fun el h=>by cases h),(fun k h=>by cases h),(fun h=>by cases h),(fun k b h=>by cases h),(fun b h=>by cases h),(fun h=>by cases h)⟩
theorem ly2:BQ Go.Proofs.Tryz.prog lay 2 y2 :=
 ⟨⟨(Go.Proofs.Tryz.prog.info? 2).get (by kernel_rfl),(Option.some_get _).symm,by kernel_rfl,by kernel_rfl,(.int .i64 0),by kernel_rfl,(fun E=>(.lit .nil))⟩,by decide,by decide,rfl,by decide,rfl,⟨(Go.Proofs.Tryz.prog.underlying 2).get (by kernel_rfl),(Option.some_get _).symm,by kernel_rfl⟩,
  (fun fs h=>by cases h),(fun n el h=>by cases h),(fun fs h=>by cases h),(fun el h=>by cases h),(fun k h=>by cases h;kernel_rfl),(fun h=>by cases h),(fun k b h=>by cases h),(fun b h=>by cases h),(fun h=>by cases h)⟩
theorem ly3:BQ Go.Proofs.Tryz.prog lay 3 y3 :=
 ⟨⟨(Go.Proofs.Tryz.prog.info? 3).get (by kernel_rfl),(Option.some_get _).symm,by kernel_rfl,by kernel_rfl,(.int .i64 0),by kernel_rfl,(fun E=>(.lit .nil))⟩,by decide,by decide,rfl,by decide,rfl,⟨(Go.Proofs.Tryz.prog.underlying 3).get (by kernel_rfl),(Option.some_get _).symm,by kernel_rfl⟩,
  (fun fs h=>by cases h),(fun n el h=>by cases h),(fun fs h=>by cases h),(fun el h=>by cases h),(fun k h=>by cases h;kernel_rfl),(fun h=>by cases h),(fun k b h=>by cases h),(fun b h=>by cases h),(fun h=>by cases h)⟩
theorem ly4:BQ Go.Proofs.Tryz.prog lay 4 y4 :=
 ⟨⟨(Go.Proofs.Tryz.prog.info? 4).get (by kernel_rfl),(Option.some_get _).symm,by kernel_rfl,by kernel_rfl,(.bool false),by kernel_rfl,(fun E=>(.lit .nil))⟩,by decide,by decide,rfl,by decide,rfl,⟨(Go.Proofs.Tryz.prog.underlying 4).get (by kernel_rfl),(Option.some_get _).symm,by kernel_rfl⟩,
  (fun fs h=>by cases h),(fun n el h=>by cases h),(fun fs h=>by cases h),(fun el h=>by cases h),(fun k h=>by cases h),(fun h=>by kernel_rfl),(fun k b h=>by cases h),(fun b h=>by cases h),(fun h=>by cases h)⟩
theorem ly5:BQ Go.Proofs.Tryz.prog lay 5 y5 :=
 ⟨⟨(Go.Proofs.Tryz.prog.info? 5).get (by kernel_rfl),(Option.some_get _).symm,by kernel_rfl,by kernel_rfl,(.int .u8 0),by kernel_rfl,(fun E=>(.lit .nil))⟩,by decide,by decide,rfl,by decide,rfl,⟨(Go.Proofs.Tryz.prog.underlying 5).get (by kernel_rfl),(Option.some_get _).symm,by kernel_rfl⟩,
  (fun fs h=>by cases h),(fun n el h=>by cases h),(fun fs h=>by cases h),(fun el h=>by cases h),(fun k h=>by cases h;kernel_rfl),(fun h=>by cases h),(fun k b h=>by cases h),(fun b h=>by cases h),(fun h=>by cases h)⟩
theorem ly6:BQ Go.Proofs.Tryz.prog lay 6 y6 :=
 ⟨⟨(Go.Proofs.Tryz.prog.info? 6).get (by kernel_rfl),(Option.some_get _).symm,by kernel_rfl,by kernel_rfl,(.int .u8 0),by kernel_rfl,(fun E=>(.lit .nil))⟩,by decide,by decide,rfl,by decide,rfl,⟨(Go.Proofs.Tryz.prog.underlying 6).get (by kernel_rfl),(Option.some_get _).symm,by kernel_rfl⟩,
  (fun fs h=>by cases h),(fun n el h=>by cases h),(fun fs h=>by cases h),(fun el h=>by cases h),(fun k h=>by cases h;kernel_rfl),(fun h=>by cases h),(fun k b h=>by cases h),(fun b h=>by cases h),(fun h=>by cases h)⟩
theorem ly7:BQ Go.Proofs.Tryz.prog lay 7 y7 :=
 ⟨⟨(Go.Proofs.Tryz.prog.info? 7).get (by kernel_rfl),(Option.some_get _).symm,by kernel_rfl,by kernel_rfl,(.agg #[.int .i64 0,.int .i64 0,.bool false,.int .u8 0]),by kernel_rfl,(fun E=>(CB (.lit (.lit (.lit (.lit .nil)))) .nil))⟩,by decide,by decide,rfl,by decide,rfl,⟨(Go.Proofs.Tryz.prog.underlying 7).get (by kernel_rfl),(Option.some_get _).symm,by kernel_rfl⟩,
  (fun fs h=>by cases h;exact ⟨Go.Proofs.Tryz.prog.fieldsOf 7,by kernel_rfl,by kernel_rfl,fun j p hj=>by simpa using Eh (fields:=(Go.Proofs.Tryz.prog.fieldsOf 7).toList) (by kernel_rfl) (by decide) j p hj⟩),(fun n el h=>by cases h),(fun fs h=>by cases h;exact EE (fields0:=Go.Proofs.Tryz.prog.fieldsOf 7) (by kernel_rfl) (by kernel_rfl)),(fun el h=>by cases h),(fun k h=>by cases h),(fun h=>by cases h),(fun k b h=>by cases h),(fun b h=>by cases h),(fun h=>by cases h)⟩
theorem ly8:BQ Go.Proofs.Tryz.prog lay 8 y8 :=
 ⟨⟨(Go.Proofs.Tryz.prog.info? 8).get (by kernel_rfl),(Option.some_get _).symm,by kernel_rfl,by kernel_rfl,(.agg #[.int .i64 0,.int .i64 0,.bool false,.int .u8 0]),by kernel_rfl,(fun E=>(CB (.lit (.lit (.lit (.lit .nil)))) .nil))⟩,by decide,by decide,rfl,by decide,rfl,⟨(Go.Proofs.Tryz.prog.underlying 8).get (by kernel_rfl),(Option.some_get _).symm,by kernel_rfl⟩,
  (fun fs h=>by cases h;exact ⟨Go.Proofs.Tryz.prog.fieldsOf 8,by kernel_rfl,by kernel_rfl,fun j p hj=>by simpa using Eh (fields:=(Go.Proofs.Tryz.prog.fieldsOf 8).toList) (by kernel_rfl) (by decide) j p hj⟩),(fun n el h=>by cases h),(fun fs h=>by cases h;exact EE (fields0:=Go.Proofs.Tryz.prog.fieldsOf 8) (by kernel_rfl) (by kernel_rfl)),(fun el h=>by cases h),(fun k h=>by cases h),(fun h=>by cases h),(fun k b h=>by cases h),(fun b h=>by cases h),(fun h=>by cases h)⟩
theorem ly9:BQ Go.Proofs.Tryz.prog lay 9 y9 :=
 ⟨⟨(Go.Proofs.Tryz.prog.info? 9).get (by kernel_rfl),(Option.some_get _).symm,by kernel_rfl,by kernel_rfl,(.string ⟨#[]⟩),by kernel_rfl,(fun E=>(.lit .nil))⟩,by decide,by decide,rfl,by decide,rfl,⟨(Go.Proofs.Tryz.prog.underlying 9).get (by kernel_rfl),(Option.some_get _).symm,by kernel_rfl⟩,
  (fun fs h=>by cases h),(fun n el h=>by cases h),(fun fs h=>by cases h),(fun el h=>by cases h),(fun k h=>by cases h),(fun h=>by cases h),(fun k b h=>by cases h),(fun b h=>by kernel_rfl),(fun h=>by cases h)⟩
theorem ly10:BQ Go.Proofs.Tryz.prog lay 10 y10 :=
 ⟨⟨(Go.Proofs.Tryz.prog.info? 10).get (by kernel_rfl),(Option.some_get _).symm,by kernel_rfl,by kernel_rfl,(.string ⟨#[]⟩),by kernel_rfl,(fun E=>(.lit .nil))⟩,by decide,by decide,rfl,by decide,rfl,⟨(Go.Proofs.Tryz.prog.underlying 10).get (by kernel_rfl),(Option.some_get _).symm,by kernel_rfl⟩,
  (fun fs h=>by cases h),(fun n el h=>by cases h),(fun fs h=>by cases h),(fun el h=>by cases h),(fun k h=>by cases h),(fun h=>by cases h),(fun k b h=>by cases h),(fun b h=>by kernel_rfl),(fun h=>by cases h)⟩
theorem ly11:BQ Go.Proofs.Tryz.prog lay 11 y11 :=
 ⟨⟨(Go.Proofs.Tryz.prog.info? 11).get (by kernel_rfl),(Option.some_get _).symm,by kernel_rfl,by kernel_rfl,(.string ⟨#[]⟩),by kernel_rfl,(fun E=>(.lit .nil))⟩,by decide,by decide,rfl,by decide,rfl,⟨(Go.Proofs.Tryz.prog.underlying 11).get (by kernel_rfl),(Option.some_get _).symm,by kernel_rfl⟩,
  (fun fs h=>by cases h),(fun n el h=>by cases h),(fun fs h=>by cases h),(fun el h=>by cases h),(fun k h=>by cases h),(fun h=>by cases h),(fun k b h=>by cases h),(fun b h=>by kernel_rfl),(fun h=>by cases h)⟩
theorem ly12:BQ Go.Proofs.Tryz.prog lay 12 y12 :=
 ⟨⟨(Go.Proofs.Tryz.prog.info? 12).get (by kernel_rfl),(Option.some_get _).symm,by kernel_rfl,by kernel_rfl,(.int .u64 0),by kernel_rfl,(fun E=>(.lit .nil))⟩,by decide,by decide,rfl,by decide,rfl,⟨(Go.Proofs.Tryz.prog.underlying 12).get (by kernel_rfl),(Option.some_get _).symm,by kernel_rfl⟩,
  (fun fs h=>by cases h),(fun n el h=>by cases h),(fun fs h=>by cases h),(fun el h=>by cases h),(fun k h=>by cases h;kernel_rfl),(fun h=>by cases h),(fun k b h=>by cases h),(fun b h=>by cases h),(fun h=>by cases h)⟩
theorem ly13:BQ Go.Proofs.Tryz.prog lay 13 y13 :=
 ⟨⟨(Go.Proofs.Tryz.prog.info? 13).get (by kernel_rfl),(Option.some_get _).symm,by kernel_rfl,by kernel_rfl,(.agg #[.string ⟨#[]⟩,.int .u64 0]),by kernel_rfl,(fun E=>(CB (.lit (.lit .nil)) .nil))⟩,by decide,by decide,rfl,by decide,rfl,⟨(Go.Proofs.Tryz.prog.underlying 13).get (by kernel_rfl),(Option.some_get _).symm,by kernel_rfl⟩,
  (fun fs h=>by cases h;exact ⟨Go.Proofs.Tryz.prog.fieldsOf 13,by kernel_rfl,by kernel_rfl,fun j p hj=>by simpa using Eh (fields:=(Go.Proofs.Tryz.prog.fieldsOf 13).toList) (by kernel_rfl) (by decide) j p hj⟩),(fun n el h=>by cases h),(fun fs h=>by cases h;exact EE (fields0:=Go.Proofs.Tryz.prog.fieldsOf 13) (by kernel_rfl) (by kernel_rfl)),(fun el h=>by cases h),(fun k h=>by cases h),(fun h=>by cases h),(fun k b h=>by cases h),(fun b h=>by cases h),(fun h=>by cases h)⟩
theorem ly22:BQ Go.Proofs.Tryz.prog lay 22 y22 :=
 ⟨⟨(Go.Proofs.Tryz.prog.info? 22).get (by kernel_rfl),(Option.some_get _).symm,by kernel_rfl,by kernel_rfl,(.slice none 0 0),by kernel_rfl,(fun E=>(.own0 (by decide) .nil))⟩,by decide,by decide,rfl,by decide,rfl,⟨(Go.Proofs.Tryz.prog.underlying 22).get (by kernel_rfl),(Option.some_get _).symm,by kernel_rfl⟩,
  (fun fs h=>by cases h),(fun n el h=>by cases h),(fun fs h=>by cases h),(fun el h=>by cases h;kernel_rfl),(fun k h=>by cases h),(fun h=>by cases h),(fun k b h=>by cases h),(fun b h=>by cases h),(fun h=>by cases h)⟩
theorem ly24:BQ Go.Proofs.Tryz.prog lay 24 y24 :=
 ⟨⟨(Go.Proofs.Tryz.prog.info? 24).get (by kernel_rfl),(Option.some_get _).symm,by kernel_rfl,by kernel_rfl,(.slice none 0 0),by kernel_rfl,(fun E=>(.own0 (by decide) .nil))⟩,by decide,by decide,rfl,by decide,rfl,⟨(Go.Proofs.Tryz.prog.underlying 24).get (by kernel_rfl),(Option.some_get _).symm,by kernel_rfl⟩,
  (fun fs h=>by cases h),(fun n el h=>by cases h),(fun fs h=>by cases h),(fun el h=>by cases h;kernel_rfl),(fun k h=>by cases h),(fun h=>by cases h),(fun k b h=>by cases h),(fun b h=>by cases h),(fun h=>by cases h)⟩
theorem ly25:BQ Go.Proofs.Tryz.prog lay 25 y25 :=
 ⟨⟨(Go.Proofs.Tryz.prog.info? 25).get (by kernel_rfl),(Option.some_get _).symm,by kernel_rfl,by kernel_rfl,(.agg #[.slice none 0 0,.slice none 0 0,.slice none 0 0,.slice none 0 0]),by kernel_rfl,(fun E=>(CB (.own0 (by decide) (.own0 (by decide) (.own0 (by decide) (.own0 (by decide) .nil)))) .nil))⟩,by decide,by decide,rfl,by decide,rfl,⟨(Go.Proofs.Tryz.prog.underlying 25).get (by kernel_rfl),(Option.some_get _).symm,by kernel_rfl⟩,
  (fun fs h=>by cases h),(fun n el h=>by cases h;kernel_rfl),(fun fs h=>by cases h),(fun el h=>by cases h),(fun k h=>by cases h),(fun h=>by cases h),(fun k b h=>by cases h),(fun b h=>by cases h),(fun h=>by cases h)⟩
theorem ly26:BQ Go.Proofs.Tryz.prog lay 26 y26 :=
 ⟨⟨(Go.Proofs.Tryz.prog.info? 26).get (by kernel_rfl),(Option.some_get _).symm,by kernel_rfl,by kernel_rfl,(.agg #[.int .i64 0,.int .i64 0,.int .i64 0,.int .i64 0]),by kernel_rfl,(fun E=>(CB (.lit (.lit (.lit (.lit .nil)))) .nil))⟩,by decide,by decide,rfl,by decide,rfl,⟨(Go.Proofs.Tryz.prog.underlying 26).get (by kernel_rfl),(Option.some_get _).symm,by kernel_rfl⟩,
  (fun fs h=>by cases h),(fun n el h=>by cases h;kernel_rfl),(fun fs h=>by cases h),(fun el h=>by cases h),(fun k h=>by cases h),(fun h=>by cases h),(fun k b h=>by cases h),(fun b h=>by cases h),(fun _=>Yp (k:=.i64) (i:=(Go.Proofs.Tryz.prog.info? 3).get (by kernel_rfl)) (by kernel_rfl) (by kernel_rfl) (Option.some_get _).symm (by kernel_rfl) (by kernel_rfl))⟩
theorem ly27:BQ Go.Proofs.Tryz.prog lay 27 y27 :=
 ⟨⟨(Go.Proofs.Tryz.prog.info? 27).get (by kernel_rfl),(Option.some_get _).symm,by kernel_rfl,by kernel_rfl,(.slice none 0 0),by kernel_rfl,(fun E=>(.own0 (by decide) .nil))⟩,by decide,by decide,rfl,by decide,rfl,⟨(Go.Proofs.Tryz.prog.underlying 27).get (by kernel_rfl),(Option.some_get _).symm,by kernel_rfl⟩,
  (fun fs h=>by cases h),(fun n el h=>by cases h),(fun fs h=>by cases h),(fun el h=>by cases h;kernel_rfl),(fun k h=>by cases h),(fun h=>by cases h),(fun k b h=>by cases h),(fun b h=>by cases h),(fun h=>by cases h)⟩
theorem ly28:BQ Go.Proofs.Tryz.prog lay 28 y28 :=
 ⟨⟨(Go.Proofs.Tryz.prog.info? 28).get (by kernel_rfl),(Option.some_get _).symm,by kernel_rfl,by kernel_rfl,(.slice none 0 0),by kernel_rfl,(fun E=>(.own0 (by decide) .nil))⟩,by decide,by decide,rfl,by decide,rfl,⟨(Go.Proofs.Tryz.prog.underlying 28).get (by kernel_rfl),(Option.some_get _).symm,by kernel_rfl⟩,
  (fun fs h=>by cases h),(fun n el h=>by cases h),(fun fs h=>by cases h),(fun el h=>by cases h;kernel_rfl),(fun k h=>by cases h),(fun h=>by cases h),(fun k b h=>by cases h),(fun b h=>by cases h),(fun h=>by cases h)⟩
theorem ly30:BQ Go.Proofs.Tryz.prog lay 30 y30 :=
 ⟨⟨(Go.Proofs.Tryz.prog.info? 30).get (by kernel_rfl),(Option.some_get _).symm,by kernel_rfl,by kernel_rfl,(.agg #[.slice none 0 0,.slice none 0 0,.slice none 0 0,.slice none 0 0,.int .i64 0,.int .i64 0,.int .i64 0,.int .i64 0,.int .i64 0,.slice none 0 0,.slice none 0 0]),by kernel_rfl,(fun E=>(CB (.own0 (by decide) (.own0 (by decide) (.own0 (by decide) (.own0 (by decide) (.lit (.lit (.lit (.lit (.lit (.own0 (by decide) (.own0 (by decide) .nil))))))))))) .nil))⟩,by decide,by decide,rfl,by decide,rfl,⟨(Go.Proofs.Tryz.prog.underlying 30).get (by kernel_rfl),(Option.some_get _).symm,by kernel_rfl⟩,
  (fun fs h=>by cases h;exact ⟨Go.Proofs.Tryz.prog.fieldsOf 30,by kernel_rfl,by kernel_rfl,fun j p hj=>by simpa using Eh (fields:=(Go.Proofs.Tryz.prog.fieldsOf 30).toList) (by kernel_rfl) (by decide) j p hj⟩),(fun n el h=>by cases h),(fun fs h=>by cases h;exact EE (fields0:=Go.Proofs.Tryz.prog.fieldsOf 30) (by kernel_rfl) (by kernel_rfl)),(fun el h=>by cases h),(fun k h=>by cases h),(fun h=>by cases h),(fun k b h=>by cases h),(fun b h=>by cases h),(fun h=>by cases h)⟩
theorem ly33:BQ Go.Proofs.Tryz.prog lay 33 y33 :=
 ⟨⟨(Go.Proofs.Tryz.prog.info? 33).get (by kernel_rfl),(Option.some_get _).symm,by kernel_rfl,by kernel_rfl,(.agg #[.int .i64 0,.int .i64 0,.int .i64 0]),by kernel_rfl,(fun E=>(CB (.lit (.lit (.lit .nil))) .nil))⟩,by decide,by decide,rfl,by decide,rfl,⟨(Go.Proofs.Tryz.prog.underlying 33).get (by kernel_rfl),(Option.some_get _).symm,by kernel_rfl⟩,
  (fun fs h=>by cases h;exact ⟨Go.Proofs.Tryz.prog.fieldsOf 33,by kernel_rfl,by kernel_rfl,fun j p hj=>by simpa using Eh (fields:=(Go.Proofs.Tryz.prog.fieldsOf 33).toList) (by kernel_rfl) (by decide) j p hj⟩),(fun n el h=>by cases h),(fun fs h=>by cases h;exact EE (fields0:=Go.Proofs.Tryz.prog.fieldsOf 33) (by kernel_rfl) (by kernel_rfl)),(fun el h=>by cases h),(fun k h=>by cases h),(fun h=>by cases h),(fun k b h=>by cases h),(fun b h=>by cases h),(fun _=>DZ (by kernel_rfl) (by kernel_rfl) (by kernel_rfl) (by kernel_rfl) (by kernel_rfl))⟩
theorem ly34:BQ Go.Proofs.Tryz.prog lay 34 y34 :=
 ⟨⟨(Go.Proofs.Tryz.prog.info? 34).get (by kernel_rfl),(Option.some_get _).symm,by kernel_rfl,by kernel_rfl,(.slice none 0 0),by kernel_rfl,(fun E=>(.own0 (by decide) .nil))⟩,by decide,by decide,rfl,by decide,rfl,⟨(Go.Proofs.Tryz.prog.underlying 34).get (by kernel_rfl),(Option.some_get _).symm,by kernel_rfl⟩,
  (fun fs h=>by cases h),(fun n el h=>by cases h),(fun fs h=>by cases h),(fun el h=>by cases h;kernel_rfl),(fun k h=>by cases h),(fun h=>by cases h),(fun k b h=>by cases h),(fun b h=>by cases h),(fun h=>by cases h)⟩
theorem ly35:BQ Go.Proofs.Tryz.prog lay 35 y35 :=
 ⟨⟨(Go.Proofs.Tryz.prog.info? 35).get (by kernel_rfl),(Option.some_get _).symm,by kernel_rfl,by kernel_rfl,(.slice none 0 0),by kernel_rfl,(fun E=>(.own0 (by decide) .nil))⟩,by decide,by decide,rfl,by decide,rfl,⟨(Go.Proofs.Tryz.prog.underlying 35).get (by kernel_rfl),(Option.some_get _).symm,by kernel_rfl⟩,
  (fun fs h=>by cases h),(fun n el h=>by cases h),(fun fs h=>by cases h),(fun el h=>by cases h;kernel_rfl),(fun k h=>by cases h),(fun h=>by cases h),(fun k b h=>by cases h),(fun b h=>by cases h),(fun h=>by cases h)⟩
theorem ly36:BQ Go.Proofs.Tryz.prog lay 36 y36 :=
 ⟨⟨(Go.Proofs.Tryz.prog.info? 36).get (by kernel_rfl),(Option.some_get _).symm,by kernel_rfl,by kernel_rfl,(.slice none 0 0),by kernel_rfl,(fun E=>(.own0 (by decide) .nil))⟩,by decide,by decide,rfl,by decide,rfl,⟨(Go.Proofs.Tryz.prog.underlying 36).get (by kernel_rfl),(Option.some_get _).symm,by kernel_rfl⟩,
  (fun fs h=>by cases h),(fun n el h=>by cases h),(fun fs h=>by cases h),(fun el h=>by cases h;kernel_rfl),(fun k h=>by cases h),(fun h=>by cases h),(fun k b h=>by cases h),(fun b h=>by cases h),(fun h=>by cases h)⟩
theorem ly38:BQ Go.Proofs.Tryz.prog lay 38 y38 :=
 ⟨⟨(Go.Proofs.Tryz.prog.info? 38).get (by kernel_rfl),(Option.some_get _).symm,by kernel_rfl,by kernel_rfl,(.agg #[.int .i64 0,.int .i64 0,.int .i64 0,.slice none 0 0,.int .i64 0,.int .i64 0,.int .i64 0,.int .i64 0,.int .i64 0,.int .i64 0,.slice none 0 0,.slice none 0 0,.int .i64 0,.int .i64 0,.int .i64 0,.int .i64 0,.int .i64 0]),by kernel_rfl,(fun E=>(CB (.lit (.lit (.lit (.own0 (by decide) (.lit (.lit (.lit (.lit (.lit (.lit (.own0 (by decide) (.own0 (by decide) (.lit (.lit (.lit (.lit (.lit .nil))))))))))))))))) .nil))⟩,by decide,by decide,rfl,by decide,rfl,⟨(Go.Proofs.Tryz.prog.underlying 38).get (by kernel_rfl),(Option.some_get _).symm,by kernel_rfl⟩,
  (fun fs h=>by cases h;exact ⟨Go.Proofs.Tryz.prog.fieldsOf 38,by kernel_rfl,by kernel_rfl,fun j p hj=>by simpa using Eh (fields:=(Go.Proofs.Tryz.prog.fieldsOf 38).toList) (by kernel_rfl) (by decide) j p hj⟩),(fun n el h=>by cases h),(fun fs h=>by cases h;exact EE (fields0:=Go.Proofs.Tryz.prog.fieldsOf 38) (by kernel_rfl) (by kernel_rfl)),(fun el h=>by cases h),(fun k h=>by cases h),(fun h=>by cases h),(fun k b h=>by cases h),(fun b h=>by cases h),(fun h=>by cases h)⟩
theorem ly40:BQ Go.Proofs.Tryz.prog lay 40 y40 :=
 ⟨⟨(Go.Proofs.Tryz.prog.info? 40).get (by kernel_rfl),(Option.some_get _).symm,by kernel_rfl,by kernel_rfl,(.agg #[.int .i64 0,.int .i64 0,.int .i64 0,.int .i64 0]),by kernel_rfl,(fun E=>(CB (.lit (.lit (.lit (.lit .nil)))) .nil))⟩,by decide,by decide,rfl,by decide,rfl,⟨(Go.Proofs.Tryz.prog.underlying 40).get (by kernel_rfl),(Option.some_get _).symm,by kernel_rfl⟩,
  (fun fs h=>by cases h;exact ⟨Go.Proofs.Tryz.prog.fieldsOf 40,by kernel_rfl,by kernel_rfl,fun j p hj=>by simpa using Eh (fields:=(Go.Proofs.Tryz.prog.fieldsOf 40).toList) (by kernel_rfl) (by decide) j p hj⟩),(fun n el h=>by cases h),(fun fs h=>by cases h;exact EE (fields0:=Go.Proofs.Tryz.prog.fieldsOf 40) (by kernel_rfl) (by kernel_rfl)),(fun el h=>by cases h),(fun k h=>by cases h),(fun h=>by cases h),(fun k b h=>by cases h),(fun b h=>by cases h),(fun _=>DZ (by kernel_rfl) (by kernel_rfl) (by kernel_rfl) (by kernel_rfl) (by kernel_rfl))⟩
theorem ly41:BQ Go.Proofs.Tryz.prog lay 41 y41 :=
 ⟨⟨(Go.Proofs.Tryz.prog.info? 41).get (by kernel_rfl),(Option.some_get _).symm,by kernel_rfl,by kernel_rfl,(.int .i64 0),by kernel_rfl,(fun E=>(.lit .nil))⟩,by decide,by decide,rfl,by decide,rfl,⟨(Go.Proofs.Tryz.prog.underlying 41).get (by kernel_rfl),(Option.some_get _).symm,by kernel_rfl⟩,
  (fun fs h=>by cases h),(fun n el h=>by cases h),(fun fs h=>by cases h),(fun el h=>by cases h),(fun k h=>by cases h;kernel_rfl),(fun h=>by cases h),(fun k b h=>by cases h),(fun b h=>by cases h),(fun h=>by cases h)⟩
theorem ly50:BQ Go.Proofs.Tryz.prog lay 50 y50 :=
 ⟨⟨(Go.Proofs.Tryz.prog.info? 50).get (by kernel_rfl),(Option.some_get _).symm,by kernel_rfl,by kernel_rfl,(.agg #[.slice none 0 0,.slice none 0 0,.slice none 0 0,.slice none 0 0]),by kernel_rfl,(fun E=>(CB (.own0 (by decide) (.own0 (by decide) (.own0 (by decide) (.own0 (by decide) .nil)))) .nil))⟩,by decide,by decide,rfl,by decide,rfl,⟨(Go.Proofs.Tryz.prog.underlying 50).get (by kernel_rfl),(Option.some_get _).symm,by kernel_rfl⟩,
  (fun fs h=>by cases h),(fun n el h=>by cases h;kernel_rfl),(fun fs h=>by cases h),(fun el h=>by cases h),(fun k h=>by cases h),(fun h=>by cases h),(fun k b h=>by cases h),(fun b h=>by cases h),(fun h=>by cases h)⟩
theorem ly51:BQ Go.Proofs.Tryz.prog lay 51 y51 :=
 ⟨⟨(Go.Proofs.Tryz.prog.info? 51).get (by kernel_rfl),(Option.some_get _).symm,by kernel_rfl,by kernel_rfl,(.slice none 0 0),by kernel_rfl,(fun E=>(.own0 (by decide) .nil))⟩,by decide,by decide,rfl,by decide,rfl,⟨(Go.Proofs.Tryz.prog.underlying 51).get (by kernel_rfl),(Option.some_get _).symm,by kernel_rfl⟩,
  (fun fs h=>by cases h),(fun n el h=>by cases h),(fun fs h=>by cases h),(fun el h=>by cases h;kernel_rfl),(fun k h=>by cases h),(fun h=>by cases h),(fun k b h=>by cases h),(fun b h=>by cases h),(fun h=>by cases h)⟩
theorem ly52:BQ Go.Proofs.Tryz.prog lay 52 y52 :=
 ⟨⟨(Go.Proofs.Tryz.prog.info? 52).get (by kernel_rfl),(Option.some_get _).symm,by kernel_rfl,by kernel_rfl,(.slice none 0 0),by kernel_rfl,(fun E=>(.own0 (by decide) .nil))⟩,by decide,by decide,rfl,by decide,rfl,⟨(Go.Proofs.Tryz.prog.underlying 52).get (by kernel_rfl),(Option.some_get _).symm,by kernel_rfl⟩,
  (fun fs h=>by cases h),(fun n el h=>by cases h),(fun fs h=>by cases h),(fun el h=>by cases h;kernel_rfl),(fun k h=>by cases h),(fun h=>by cases h),(fun k b h=>by cases h),(fun b h=>by cases h),(fun h=>by cases h)⟩
theorem ly54:BQ Go.Proofs.Tryz.prog lay 54 y54 :=
 ⟨⟨(Go.Proofs.Tryz.prog.info? 54).get (by kernel_rfl),(Option.some_get _).symm,by kernel_rfl,by kernel_rfl,(.agg #[.slice none 0 0,.slice none 0 0,.slice none 0 0,.slice none 0 0,.int .i64 0,.slice none 0 0,.slice none 0 0]),by kernel_rfl,(fun E=>(CB (.own0 (by decide) (.own0 (by decide) (.own0 (by decide) (.own0 (by decide) (.lit (.own0 (by decide) (.own0 (by decide) .nil))))))) .nil))⟩,by decide,by decide,rfl,by decide,rfl,⟨(Go.Proofs.Tryz.prog.underlying 54).get (by kernel_rfl),(Option.some_get _).symm,by kernel_rfl⟩,
  (fun fs h=>by cases h;exact ⟨Go.Proofs.Tryz.prog.fieldsOf 54,by kernel_rfl,by kernel_rfl,fun j p hj=>by simpa using Eh (fields:=(Go.Proofs.Tryz.prog.fieldsOf 54).toList) (by kernel_rfl) (by decide) j p hj⟩),(fun n el h=>by cases h),(fun fs h=>by cases h;exact EE (fields0:=Go.Proofs.Tryz.prog.fieldsOf 54) (by kernel_rfl) (by kernel_rfl)),(fun el h=>by cases h),(fun k h=>by cases h),(fun h=>by cases h),(fun k b h=>by cases h),(fun b h=>by cases h),(fun h=>by cases h)⟩
theorem ly58:BQ Go.Proofs.Tryz.prog lay 58 y58 :=
 ⟨⟨(Go.Proofs.Tryz.prog.info? 58).get (by kernel_rfl),(Option.some_get _).symm,by kernel_rfl,by kernel_rfl,(.int .u64 0),by kernel_rfl,(fun E=>(.lit .nil))⟩,by decide,by decide,rfl,by decide,rfl,⟨(Go.Proofs.Tryz.prog.underlying 58).get (by kernel_rfl),(Option.some_get _).symm,by kernel_rfl⟩,
  (fun fs h=>by cases h),(fun n el h=>by cases h),(fun fs h=>by cases h),(fun el h=>by cases h),(fun k h=>by cases h;kernel_rfl),(fun h=>by cases h),(fun k b h=>by cases h),(fun b h=>by cases h),(fun h=>by cases h)⟩
theorem ly62:BQ Go.Proofs.Tryz.prog lay 62 y62 :=
 ⟨⟨(Go.Proofs.Tryz.prog.info? 62).get (by kernel_rfl),(Option.some_get _).symm,by kernel_rfl,by kernel_rfl,(.agg #[.int .i64 0,.int .i64 0,.int .i64 0,.slice none 0 0]),by kernel_rfl,(fun E=>(CB (.lit (.lit (.lit (.own0 (by decide) .nil)))) .nil))⟩,by decide,by decide,rfl,by decide,rfl,⟨(Go.Proofs.Tryz.prog.underlying 62).get (by kernel_rfl),(Option.some_get _).symm,by kernel_rfl⟩,
  (fun fs h=>by cases h;exact ⟨Go.Proofs.Tryz.prog.fieldsOf 62,by kernel_rfl,by kernel_rfl,fun j p hj=>by simpa using Eh (fields:=(Go.Proofs.Tryz.prog.fieldsOf 62).toList) (by kernel_rfl) (by decide) j p hj⟩),(fun n el h=>by cases h),(fun fs h=>by cases h;exact EE (fields0:=Go.Proofs.Tryz.prog.fieldsOf 62) (by kernel_rfl) (by kernel_rfl)),(fun el h=>by cases h),(fun k h=>by cases h),(fun h=>by cases h),(fun k b h=>by cases h),(fun b h=>by cases h),(fun h=>by cases h)⟩
theorem ly71:BQ Go.Proofs.Tryz.prog lay 71 y71 :=
 ⟨⟨(Go.Proofs.Tryz.prog.info? 71).get (by kernel_rfl),(Option.some_get _).symm,by kernel_rfl,by kernel_rfl,(.agg #[.int .i64 0,.int .i64 0,.int .i64 0,.int .i64 0]),by kernel_rfl,(fun E=>(CB (.lit (.lit (.lit (.lit .nil)))) .nil))⟩,by decide,by decide,rfl,by decide,rfl,⟨(Go.Proofs.Tryz.prog.underlying 71).get (by kernel_rfl),(Option.some_get _).symm,by kernel_rfl⟩,
  (fun fs h=>by cases h;exact ⟨Go.Proofs.Tryz.prog.fieldsOf 71,by kernel_rfl,by kernel_rfl,fun j p hj=>by simpa using Eh (fields:=(Go.Proofs.Tryz.prog.fieldsOf 71).toList) (by kernel_rfl) (by decide) j p hj⟩),(fun n el h=>by cases h),(fun fs h=>by cases h;exact EE (fields0:=Go.Proofs.Tryz.prog.fieldsOf 71) (by kernel_rfl) (by kernel_rfl)),(fun el h=>by cases h),(fun k h=>by cases h),(fun h=>by cases h),(fun k b h=>by cases h),(fun b h=>by cases h),(fun _=>DZ (by kernel_rfl) (by kernel_rfl) (by kernel_rfl) (by kernel_rfl) (by kernel_rfl))⟩
theorem ly73:BQ Go.Proofs.Tryz.prog lay 73 y73 :=
 ⟨⟨(Go.Proofs.Tryz.prog.info? 73).get (by kernel_rfl),(Option.some_get _).symm,by kernel_rfl,by kernel_rfl,(.pointer none),by kernel_rfl,(fun E=>(.lit .nil))⟩,by decide,by decide,rfl,by decide,rfl,⟨(Go.Proofs.Tryz.prog.underlying 73).get (by kernel_rfl),(Option.some_get _).symm,by kernel_rfl⟩,
  (fun fs h=>by cases h),(fun n el h=>by cases h),(fun fs h=>by cases h),(fun el h=>by cases h),(fun k h=>by cases h),(fun h=>by cases h),(fun k b h=>by cases h),(fun b h=>by cases h),(fun h=>by cases h)⟩
theorem ly74:BQ Go.Proofs.Tryz.prog lay 74 y74 :=
 ⟨⟨(Go.Proofs.Tryz.prog.info? 74).get (by kernel_rfl),(Option.some_get _).symm,by kernel_rfl,by kernel_rfl,(.pointer none),by kernel_rfl,(fun E=>(.lit .nil))⟩,by decide,by decide,rfl,by decide,rfl,⟨(Go.Proofs.Tryz.prog.underlying 74).get (by kernel_rfl),(Option.some_get _).symm,by kernel_rfl⟩,
  (fun fs h=>by cases h),(fun n el h=>by cases h),(fun fs h=>by cases h),(fun el h=>by cases h),(fun k h=>by cases h),(fun h=>by cases h),(fun k b h=>by cases h),(fun b h=>by cases h),(fun h=>by cases h)⟩
theorem ly86:BQ Go.Proofs.Tryz.prog lay 86 y86 :=
 ⟨⟨(Go.Proofs.Tryz.prog.info? 86).get (by kernel_rfl),(Option.some_get _).symm,by kernel_rfl,by kernel_rfl,(.agg #[.int .i64 0,.int .i64 0]),by kernel_rfl,(fun E=>(CB (.lit (.lit .nil)) .nil))⟩,by decide,by decide,rfl,by decide,rfl,⟨(Go.Proofs.Tryz.prog.underlying 86).get (by kernel_rfl),(Option.some_get _).symm,by kernel_rfl⟩,
  (fun fs h=>by cases h;exact ⟨Go.Proofs.Tryz.prog.fieldsOf 86,by kernel_rfl,by kernel_rfl,fun j p hj=>by simpa using Eh (fields:=(Go.Proofs.Tryz.prog.fieldsOf 86).toList) (by kernel_rfl) (by decide) j p hj⟩),(fun n el h=>by cases h),(fun fs h=>by cases h;exact EE (fields0:=Go.Proofs.Tryz.prog.fieldsOf 86) (by kernel_rfl) (by kernel_rfl)),(fun el h=>by cases h),(fun k h=>by cases h),(fun h=>by cases h),(fun k b h=>by cases h),(fun b h=>by cases h),(fun _=>DZ (by kernel_rfl) (by kernel_rfl) (by kernel_rfl) (by kernel_rfl) (by kernel_rfl))⟩
theorem ly93:BQ Go.Proofs.Tryz.prog lay 93 y93 :=
 ⟨⟨(Go.Proofs.Tryz.prog.info? 93).get (by kernel_rfl),(Option.some_get _).symm,by kernel_rfl,by kernel_rfl,(.slice none 0 0),by kernel_rfl,(fun E=>(.own0 (by decide) .nil))⟩,by decide,by decide,rfl,by decide,rfl,⟨(Go.Proofs.Tryz.prog.underlying 93).get (by kernel_rfl),(Option.some_get _).symm,by kernel_rfl⟩,
  (fun fs h=>by cases h),(fun n el h=>by cases h),(fun fs h=>by cases h),(fun el h=>by cases h;kernel_rfl),(fun k h=>by cases h),(fun h=>by cases h),(fun k b h=>by cases h),(fun b h=>by cases h),(fun h=>by cases h)⟩
theorem yL:BQ Go.Proofs.Tryz.prog lay 114 XC :=
 ⟨⟨(Go.Proofs.Tryz.prog.info? 114).get (by kernel_rfl),(Option.some_get _).symm,by kernel_rfl,by kernel_rfl,(.agg #[.int .i64 0,.int .i64 0,.int .i64 0]),by kernel_rfl,(fun E=>(CB (.lit (.lit (.lit .nil))) .nil))⟩,by decide,by decide,rfl,by decide,rfl,⟨(Go.Proofs.Tryz.prog.underlying 114).get (by kernel_rfl),(Option.some_get _).symm,by kernel_rfl⟩,
  (fun fs h=>by cases h;exact ⟨Go.Proofs.Tryz.prog.fieldsOf 114,by kernel_rfl,by kernel_rfl,fun j p hj=>by simpa using Eh (fields:=(Go.Proofs.Tryz.prog.fieldsOf 114).toList) (by kernel_rfl) (by decide) j p hj⟩),(fun n el h=>by cases h),(fun fs h=>by cases h;exact EE (fields0:=Go.Proofs.Tryz.prog.fieldsOf 114) (by kernel_rfl) (by kernel_rfl)),(fun el h=>by cases h),(fun k h=>by cases h),(fun h=>by cases h),(fun k b h=>by cases h),(fun b h=>by cases h),(fun _=>DZ (by kernel_rfl) (by kernel_rfl) (by kernel_rfl) (by kernel_rfl) (by kernel_rfl))⟩
theorem yK:BQ Go.Proofs.Tryz.prog lay 129 gS :=
 ⟨⟨(Go.Proofs.Tryz.prog.info? 129).get (by kernel_rfl),(Option.some_get _).symm,by kernel_rfl,by kernel_rfl,(.agg #[.slice none 0 0,.slice none 0 0,.slice none 0 0,.slice none 0 0,.int .i64 0,.int .i64 0,.int .i64 0,.int .i64 0,.int .i64 0,.slice none 0 0,.slice none 0 0,.int .i64 0]),by kernel_rfl,(fun E=>(CB (.own0 (by decide) (.own0 (by decide) (.own0 (by decide) (.own0 (by decide) (.lit (.lit (.lit (.lit (.lit (.own0 (by decide) (.own0 (by decide) (.lit .nil)))))))))))) .nil))⟩,by decide,by decide,rfl,by decide,rfl,⟨(Go.Proofs.Tryz.prog.underlying 129).get (by kernel_rfl),(Option.some_get _).symm,by kernel_rfl⟩,
  (fun fs h=>by cases h;exact ⟨Go.Proofs.Tryz.prog.fieldsOf 129,by kernel_rfl,by kernel_rfl,fun j p hj=>by simpa using Eh (fields:=(Go.Proofs.Tryz.prog.fieldsOf 129).toList) (by kernel_rfl) (by decide) j p hj⟩),(fun n el h=>by cases h),(fun fs h=>by cases h;exact EE (fields0:=Go.Proofs.Tryz.prog.fieldsOf 129) (by kernel_rfl) (by kernel_rfl)),(fun el h=>by cases h),(fun k h=>by cases h),(fun h=>by cases h),(fun k b h=>by cases h),(fun b h=>by cases h),(fun h=>by cases h)⟩
theorem yJ:BQ Go.Proofs.Tryz.prog lay 131 gR :=
 ⟨⟨(Go.Proofs.Tryz.prog.info? 131).get (by kernel_rfl),(Option.some_get _).symm,by kernel_rfl,by kernel_rfl,(.nilFunc),by kernel_rfl,(fun E=>(.lit .nil))⟩,by decide,by decide,rfl,by decide,rfl,⟨(Go.Proofs.Tryz.prog.underlying 131).get (by kernel_rfl),(Option.some_get _).symm,by kernel_rfl⟩,
  (fun fs h=>by cases h),(fun n el h=>by cases h),(fun fs h=>by cases h),(fun el h=>by cases h),(fun k h=>by cases h),(fun h=>by cases h),(fun k b h=>by cases h),(fun b h=>by cases h),(fun h=>by cases h)⟩
theorem yI:BQ Go.Proofs.Tryz.prog lay 137 gQ :=
 ⟨⟨(Go.Proofs.Tryz.prog.info? 137).get (by kernel_rfl),(Option.some_get _).symm,by kernel_rfl,by kernel_rfl,(.nilFunc),by kernel_rfl,(fun E=>(.lit .nil))⟩,by decide,by decide,rfl,by decide,rfl,⟨(Go.Proofs.Tryz.prog.underlying 137).get (by kernel_rfl),(Option.some_get _).symm,by kernel_rfl⟩,
  (fun fs h=>by cases h),(fun n el h=>by cases h),(fun fs h=>by cases h),(fun el h=>by cases h),(fun k h=>by cases h),(fun h=>by cases h),(fun k b h=>by cases h),(fun b h=>by cases h),(fun h=>by cases h)⟩
theorem yH:BQ Go.Proofs.Tryz.prog lay 148 Zn :=
 ⟨⟨(Go.Proofs.Tryz.prog.info? 148).get (by kernel_rfl),(Option.some_get _).symm,by kernel_rfl,by kernel_rfl,(.agg #[.int .i64 0,.int .i64 0,.int .i64 0]),by kernel_rfl,(fun E=>(CB (.lit (.lit (.lit .nil))) .nil))⟩,by decide,by decide,rfl,by decide,rfl,⟨(Go.Proofs.Tryz.prog.underlying 148).get (by kernel_rfl),(Option.some_get _).symm,by kernel_rfl⟩,
  (fun fs h=>by cases h;exact ⟨Go.Proofs.Tryz.prog.fieldsOf 148,by kernel_rfl,by kernel_rfl,fun j p hj=>by simpa using Eh (fields:=(Go.Proofs.Tryz.prog.fieldsOf 148).toList) (by kernel_rfl) (by decide) j p hj⟩),(fun n el h=>by cases h),(fun fs h=>by cases h;exact EE (fields0:=Go.Proofs.Tryz.prog.fieldsOf 148) (by kernel_rfl) (by kernel_rfl)),(fun el h=>by cases h),(fun k h=>by cases h),(fun h=>by cases h),(fun k b h=>by cases h),(fun b h=>by cases h),(fun _=>DZ (by kernel_rfl) (by kernel_rfl) (by kernel_rfl) (by kernel_rfl) (by kernel_rfl))⟩
theorem yG:BQ Go.Proofs.Tryz.prog lay 163 gO :=
 ⟨⟨(Go.Proofs.Tryz.prog.info? 163).get (by kernel_rfl),(Option.some_get _).symm,by kernel_rfl,by kernel_rfl,(.nilFunc),by kernel_rfl,(fun E=>(.lit .nil))⟩,by decide,by decide,rfl,by decide,rfl,⟨(Go.Proofs.Tryz.prog.underlying 163).get (by kernel_rfl),(Option.some_get _).symm,by kernel_rfl⟩,
  (fun fs h=>by cases h),(fun n el h=>by cases h),(fun fs h=>by cases h),(fun el h=>by cases h),(fun k h=>by cases h),(fun h=>by cases h),(fun k b h=>by cases h),(fun b h=>by cases h),(fun h=>by cases h)⟩
theorem yF:BQ Go.Proofs.Tryz.prog lay 167 gK :=
 ⟨⟨(Go.Proofs.Tryz.prog.info? 167).get (by kernel_rfl),(Option.some_get _).symm,by kernel_rfl,by kernel_rfl,(.pointer none),by kernel_rfl,(fun E=>(.lit .nil))⟩,by decide,by decide,rfl,by decide,rfl,⟨(Go.Proofs.Tryz.prog.underlying 167).get (by kernel_rfl),(Option.some_get _).symm,by kernel_rfl⟩,
  (fun fs h=>by cases h),(fun n el h=>by cases h),(fun fs h=>by cases h),(fun el h=>by cases h),(fun k h=>by cases h),(fun h=>by cases h),(fun k b h=>by cases h),(fun b h=>by cases h),(fun h=>by cases h)⟩
theorem yE:BQ Go.Proofs.Tryz.prog lay 169 gJ :=
 ⟨⟨(Go.Proofs.Tryz.prog.info? 169).get (by kernel_rfl),(Option.some_get _).symm,by kernel_rfl,by kernel_rfl,(.nilFunc),by kernel_rfl,(fun E=>(.lit .nil))⟩,by decide,by decide,rfl,by decide,rfl,⟨(Go.Proofs.Tryz.prog.underlying 169).get (by kernel_rfl),(Option.some_get _).symm,by kernel_rfl⟩,
  (fun fs h=>by cases h),(fun n el h=>by cases h),(fun fs h=>by cases h),(fun el h=>by cases h),(fun k h=>by cases h),(fun h=>by cases h),(fun k b h=>by cases h),(fun b h=>by cases h),(fun h=>by cases h)⟩
theorem yD:BQ Go.Proofs.Tryz.prog lay 171 gH :=
 ⟨⟨(Go.Proofs.Tryz.prog.info? 171).get (by kernel_rfl),(Option.some_get _).symm,by kernel_rfl,by kernel_rfl,(.nilFunc),by kernel_rfl,(fun E=>(.lit .nil))⟩,by decide,by decide,rfl,by decide,rfl,⟨(Go.Proofs.Tryz.prog.underlying 171).get (by kernel_rfl),(Option.some_get _).symm,by kernel_rfl⟩,
  (fun fs h=>by cases h),(fun n el h=>by cases h),(fun fs h=>by cases h),(fun el h=>by cases h),(fun k h=>by cases h),(fun h=>by cases h),(fun k b h=>by cases h),(fun b h=>by cases h),(fun h=>by cases h)⟩
theorem yC:BQ Go.Proofs.Tryz.prog lay 172 gG :=
 ⟨⟨(Go.Proofs.Tryz.prog.info? 172).get (by kernel_rfl),(Option.some_get _).symm,by kernel_rfl,by kernel_rfl,(.pointer none),by kernel_rfl,(fun E=>(.lit .nil))⟩,by decide,by decide,rfl,by decide,rfl,⟨(Go.Proofs.Tryz.prog.underlying 172).get (by kernel_rfl),(Option.some_get _).symm,by kernel_rfl⟩,
  (fun fs h=>by cases h),(fun n el h=>by cases h),(fun fs h=>by cases h),(fun el h=>by cases h),(fun k h=>by cases h),(fun h=>by cases h),(fun k b h=>by cases h),(fun b h=>by cases h),(fun h=>by cases h)⟩
theorem yB:BQ Go.Proofs.Tryz.prog lay 174 gF :=
 ⟨⟨(Go.Proofs.Tryz.prog.info? 174).get (by kernel_rfl),(Option.some_get _).symm,by kernel_rfl,by kernel_rfl,(.agg #[.pointer none]),by kernel_rfl,(fun E=>(CB (.lit .nil) .nil))⟩,by decide,by decide,rfl,by decide,rfl,⟨(Go.Proofs.Tryz.prog.underlying 174).get (by kernel_rfl),(Option.some_get _).symm,by kernel_rfl⟩,
  (fun fs h=>by cases h;exact ⟨Go.Proofs.Tryz.prog.fieldsOf 174,by kernel_rfl,by kernel_rfl,fun j p hj=>by simpa using Eh (fields:=(Go.Proofs.Tryz.prog.fieldsOf 174).toList) (by kernel_rfl) (by decide) j p hj⟩),(fun n el h=>by cases h),(fun fs h=>by cases h;exact EE (fields0:=Go.Proofs.Tryz.prog.fieldsOf 174) (by kernel_rfl) (by kernel_rfl)),(fun el h=>by cases h),(fun k h=>by cases h),(fun h=>by cases h),(fun k b h=>by cases h),(fun b h=>by cases h),(fun h=>by cases h)⟩
theorem yA:BQ Go.Proofs.Tryz.prog lay 186 gE :=
 ⟨⟨(Go.Proofs.Tryz.prog.info? 186).get (by kernel_rfl),(Option.some_get _).symm,by kernel_rfl,by kernel_rfl,(.nilFunc),by kernel_rfl,(fun E=>(.lit .nil))⟩,by decide,by decide,rfl,by decide,rfl,⟨(Go.Proofs.Tryz.prog.underlying 186).get (by kernel_rfl),(Option.some_get _).symm,by kernel_rfl⟩,
  (fun fs h=>by cases h),(fun n el h=>by cases h),(fun fs h=>by cases h),(fun el h=>by cases h),(fun k h=>by cases h),(fun h=>by cases h),(fun k b h=>by cases h),(fun b h=>by cases h),(fun h=>by cases h)⟩
theorem xZ:BQ Go.Proofs.Tryz.prog lay 188 gB :=
 ⟨⟨(Go.Proofs.Tryz.prog.info? 188).get (by kernel_rfl),(Option.some_get _).symm,by kernel_rfl,by kernel_rfl,(.nilFunc),by kernel_rfl,(fun E=>(.lit .nil))⟩,by decide,by decide,rfl,by decide,rfl,⟨(Go.Proofs.Tryz.prog.underlying 188).get (by kernel_rfl),(Option.some_get _).symm,by kernel_rfl⟩,
  (fun fs h=>by cases h),(fun n el h=>by cases h),(fun fs h=>by cases h),(fun el h=>by cases h),(fun k h=>by cases h),(fun h=>by cases h),(fun k b h=>by cases h),(fun b h=>by cases h),(fun h=>by cases h)⟩
theorem xY:BQ Go.Proofs.Tryz.prog lay 204 gA :=
 ⟨⟨(Go.Proofs.Tryz.prog.info? 204).get (by kernel_rfl),(Option.some_get _).symm,by kernel_rfl,by kernel_rfl,(.nilFunc),by kernel_rfl,(fun E=>(.lit .nil))⟩,by decide,by decide,rfl,by decide,rfl,⟨(Go.Proofs.Tryz.prog.underlying 204).get (by kernel_rfl),(Option.some_get _).symm,by kernel_rfl⟩,
  (fun fs h=>by cases h),(fun n el h=>by cases h),(fun fs h=>by cases h),(fun el h=>by cases h),(fun k h=>by cases h),(fun h=>by cases h),(fun k b h=>by cases h),(fun b h=>by cases h),(fun h=>by cases h)⟩
theorem xX:BQ Go.Proofs.Tryz.prog lay 221 fZ :=
 ⟨⟨(Go.Proofs.Tryz.prog.info? 221).get (by kernel_rfl),(Option.some_get _).symm,by kernel_rfl,by kernel_rfl,(.complex .f64 0 0),by kernel_rfl,(fun E=>(.lit .nil))⟩,by decide,by decide,rfl,by decide,rfl,⟨(Go.Proofs.Tryz.prog.underlying 221).get (by kernel_rfl),(Option.some_get _).symm,by kernel_rfl⟩,
  (fun fs h=>by cases h),(fun n el h=>by cases h),(fun fs h=>by cases h),(fun el h=>by cases h),(fun k h=>by cases h),(fun h=>by cases h),(fun k b h=>by cases h),(fun b h=>by cases h),(fun h=>by cases h)⟩
theorem xW:BQ Go.Proofs.Tryz.prog lay 222 fY :=
 ⟨⟨(Go.Proofs.Tryz.prog.info? 222).get (by kernel_rfl),(Option.some_get _).symm,by kernel_rfl,by kernel_rfl,(.float .f64 0),by kernel_rfl,(fun E=>(.lit .nil))⟩,by decide,by decide,rfl,by decide,rfl,⟨(Go.Proofs.Tryz.prog.underlying 222).get (by kernel_rfl),(Option.some_get _).symm,by kernel_rfl⟩,
  (fun fs h=>by cases h),(fun n el h=>by cases h),(fun fs h=>by cases h),(fun el h=>by cases h),(fun k h=>by cases h),(fun h=>by cases h),(fun k b h=>by cases h;kernel_rfl),(fun b h=>by cases h),(fun h=>by cases h)⟩
theorem Lw:Ew Go.Proofs.Tryz.prog lay:=by
 have this:∀ p∈sU,BQ Go.Proofs.Tryz.prog lay p.1 p.2:=by
  simp only [sU,List.forall_mem_cons]
  exact ⟨ly1,ly2,ly3,ly4,ly5,ly6,ly7,ly8,ly9,ly10,ly11,ly12,ly13,ly22,ly24,ly25,ly26,ly27,ly28,ly30,ly33,ly34,ly35,ly36,ly38,ly40,ly41,ly50,ly51,ly52,ly54,ly58,ly62,ly71,ly73,ly74,ly86,ly93,yL,yK,yJ,yI,yH,yG,yF,yE,yD,yC,yB,yA,xZ,xY,xX,xW,fun p hp=>by cases hp⟩
 exact fun t ti h=>this (t,ti) (Qf h)
end Ve
namespace Ve
open Go
def pW (P:Program) (p:Nat × IFn):Option IR:=(P.funcs[p.1]?).bind fun fn=>fn.body.bind fun c=>DG c p.2.body
def pV (P:Program) (p:Nat × IFn):Option (List ResultVar):=(P.funcs[p.1]?).map fun fn=>fn.results.toList
def pU (P:Program) (L:Lay) (p:Nat × IFn):Bool:=match P.funcs[p.1]? with
 | some fn=>(match fn.body with
  | some c=>wfC L fn.ntmps c
  | none=>false)&&!(fn.name == "runtime.NumGoroutine")
 | none=>false
theorem gW {P:Program} {L:Lay} {l:List (Nat × IFn)} (h1:l.map (pW P)=l.map fun p=>some p.2.body) (h2:l.map (pV P)=l.map fun p=>some p.2.results) (h3:l.all (pU P L)=true) :
  ∀ f d,lk l f=some d→oQ P L f d:=by
 intro f d h
 have hm:=Qf h
 have e1:=List.map_inj_left.1 h1 _ hm
 have e2:=List.map_inj_left.1 h2 _ hm
 have e3:=List.all_eq_true.1 h3 _ hm
 simp only [pW,Option.bind_eq_some_iff] at e1
 obtain ⟨fn,hf,c,hb,hg⟩:=e1
 simp only [pV,hf,Option.map_some,Option.some.injEq] at e2
 simp only [pU,hf,hb,Bool.and_eq_true,Bool.not_eq_true'] at e3
 exact ⟨⟨fn,c,hf,hb,hg,e3.1,e2,e3.2⟩⟩
end Ve
namespace Ve
open Go
set_option maxRecDepth 100000
theorem fns1:RR.map (pW Go.Proofs.Tryz.prog)=RR.map fun p=>some p.2.body:=by kernel_rfl
theorem fns2:RR.map (pV Go.Proofs.Tryz.prog)=RR.map fun p=>some p.2.results:=by kernel_rfl
theorem fns3:RR.all (pU Go.Proofs.Tryz.prog lay)=true:=by kernel_rfl
theorem zA:∀ f d,tbl f=some d→oQ Go.Proofs.Tryz.prog lay f d:=gW fns1 fns2 fns3
end Ve
namespace Ve
open Go
theorem Fp {P:Program} (w:World) (t e:TypeId) (i:TypeInfo) (ht:P.underlying t=some (.slice e)) (hi:P.info? e=some i) :
  (Instr.buildSlice t 0 #[]).run P w=.ok (.slice (some { block:=w.heap.size,off:=0 }) 0 0) (w.alloc (.cells #[] e)):=by
 simp [Instr.buildSlice,run_underlying ht,Go.sizeOf,typeInfo,hi,Instr.fill,newRow,show Array.range 0=#[] from rfl]
theorem NV {w:World} {b off:Nat} {ys:List Value} {o:Go.Obj} (h:w.rangeAt b off ys):(w.alloc o).rangeAt b off ys:=by
 by_cases hb:b<w.heap.size
 ·exact Em ((BO.alloc w o).2 b hb) h
 ·cases ys with
  | nil=>intro j u hj;simp at hj
  | cons y ys =>
   have:=h 0 y rfl
   simp [World.cell?,Array.getElem?_eq_none (Nat.le_of_not_lt hb)] at this
theorem Fv {P:Program} {L:Lay} (hL:Ew P L) {t el:TypeId} {ei:TI} (hei:L el=some ei) (hu:P.underlying t=some (.slice el)) (w:World) {ad:Addr} {m c:Nat} {news:List Value}
  (hone:Ek news) (hlen:news.length=m*ei.size) (hx:(m=0∧∃ ad' c',Value.slice (some ad) m c=.slice ad' 0 c')∨∃ b off c',Value.slice (some ad) m c=.slice (some ⟨b,off,none⟩) m c'∧w.rangeAt b off news∧m≤c')
  (hb:m*ei.bytes≤140737488355328) (hm:m≤maxLen) (hpos:0<ei.size):∃ v' w',(Builtin.append_ #[t,t] t #[.slice (some { block:=w.heap.size,off:=0 }) 0 0,.slice (some ad) m c]).run P (w.alloc (.cells #[] el))=.ok v' w' ∧
   (BO w w'∧((m=0∧∃ ad,v'=.slice ad 0 0)∨∃ b cap',v'=.slice (some ⟨b,0,none⟩) m cap'∧DT w' b ei.size m cap' news∧w.heap.size≤b∧b<w'.heap.size)):=by
 have hrow:DT (w.alloc (.cells #[] el)) w.heap.size ei.size 0 0 []:=⟨⟨#[],el,heap_alloc_new _ _,by simp,by simp⟩,Nat.le_refl _,Nat.zero_le _,hpos,(by intro y hy;simp at hy),by simp⟩
 have hx2:(m=0∧∃ ad' c',Value.slice (some ad) m c=.slice ad' 0 c')∨∃ b off c',Value.slice (some ad) m c=.slice (some ⟨b,off,none⟩) m c'∧(w.alloc (.cells #[] el)).rangeAt b off news:=by
  rcases hx with h | ⟨b,off,c',h1,h2,_⟩
  ·exact .inl h
  ·exact .inr ⟨b,off,c',h1,NV h2⟩
 have hw:=IW hL hei hu t (w:=w.alloc (.cells #[] el)) (dv:=.slice (some ⟨w.heap.size,0,none⟩) 0 0) (n:=0) (cap:=0) (ys:=[]) (g:=some w.heap.size) (.inr ⟨_,rfl,rfl,hrow⟩) (xv:=.slice (some ad) m c) (m:=m) (news:=news) hone hlen hx2 (by simpa using hb) (by simpa using hm)
 obtain ⟨v',w',hr,hv⟩:=hw
 refine ⟨v',w',hr,?_⟩
 rcases hv with ⟨h0,⟨a0,rfl⟩,rfl⟩ | ⟨b,hb,rfl,h1,h2,h3,h4,h5,h6⟩ | ⟨cap',rfl,h1,h2,h3⟩
 ·exact ⟨BO.alloc _ _,.inl ⟨by omega,_,rfl⟩⟩
 ·cases hb
  have hm0:m=0:=by have:=h1.le;omega
  subst hm0
  refine ⟨⟨by simp [h3],fun b hb=>?_,by rw [h4];rfl,by rw [h5];rfl,by rw [h6];rfl⟩,.inl ⟨rfl,_,rfl⟩⟩
  rw [h2 b (by omega)];exact (BO.alloc w _).2 b hb
 ·simp only [Nat.zero_add,List.nil_append] at h1 ⊢
  exact ⟨(BO.alloc _ _).trans h2,.inr ⟨_,_,rfl,h1,by simp,h3⟩⟩
theorem KY {m b:Nat} (h:m*b≤140737488355328) (hb:0<b):m≤maxLen:=by
 have:m*1≤m*b:=Nat.mul_le_mul_left _ hb
 simp only [maxLen];omega
theorem EI {P:Program} {w:World} {ops:Array Oper} {Q:Exit→Act→World→Prop} {x0 x2 x3 x4 u1 u5 u6 u7 s:Value} {t ty1 ty2 ty3 ty4:TypeId} {p1 p2 p3 p4:String} {a1 a2 a3 a4:Array _}
  {v':Value} {w' w1:World} (hb:(Instr.buildSlice t 0 #[]).run P w=.ok s w1) (hr:(Builtin.append_ #[t,t] ty3 #[s,x0]).run P w1=.ok v' w')
  (h:wpList P ops Q [] ⟨#[x0,u1,v',x3,x4,s,x0,v'],[]⟩ w'):wpList P ops Q [{ dst:=some 5,op:=.buildSlice t 0 #[],type:=ty1,pos:=p1,after:=a1,guard:=none },{ dst:=some 6,op:=.move (.tmp 0),type:=ty2,pos:=p2,after:=a2,guard:=none },
   { dst:=some 7,op:=.call { callee:=.builtin .append,args:=#[.tmp 5,.tmp 6],argTypes:=#[t,t] },type:=ty3,pos:=p3,after:=a3,guard:=none },{ dst:=some 2,op:=.assign (.tmp 7),type:=ty4,pos:=p4,after:=a4,guard:=none }] ⟨#[x0,u1,x2,x3,x4,u5,u6,u7],[]⟩ w:=by
 refine wpList_plain rfl fun K hK=>?_
 unfold Oper.wp execOp
 simp only [List.map_toArray,List.map_nil,hb,Sem.run_bind,Sem.run_pure,Result.andThen_ok]
 refine hK _ _ (wpList_plain rfl fun K hK=>?_)
 unfold Oper.wp execOp
 simp only [Sem.run_pure]
 refine hK _ _ (wpList_plain rfl fun K hK=>?_)
 unfold Oper.wp execOp
 simp only [resolve,invoke,builtin,Sem.run_bind,Sem.run_pure,Result.andThen_ok,List.map_toArray,List.map_cons,List.map_nil,Act.put,Act.eval]
 change Oper.upon P _ _ K Q ((Sem.run P (Builtin.append_ #[t,t] ty3 #[s,x0]) w1).andThen _)
 rw [hr]
 refine hK _ _ (wpList_plain rfl fun K hK=>?_)
 unfold Oper.wp execOp
 simp only [Sem.run_pure]
 exact hK _ _ h
end Ve
namespace Ve
open Go
theorem GT (P:Program) (w:World) (t s ty e e':TypeId) (i:TypeInfo) (ht:P.underlying t=some (.slice e)) (hi:P.info? e=some i) (g off dl dc:Nat) (cur:Array Value) (hg:w.heap[g]?=some (.cells cur e' (0,0)))
  (a:Addr) (m c k:Nat) (news:List Value) (hk:Nat.min m dl=k) (hl:news.length=k*i.size) (hnews:∀ j u,news[j]?=some u→w.cell? (a.add j)=some u) (h1:∀ u∈news,u.oneCell'=true) (hfit:off+news.length≤cur.size) :
  (Builtin.copy_ #[t,s] ty #[.slice (some ⟨g,off,none⟩) dl dc,.slice (some a) m c]).run P w=.ok (goInt k) (w.setRow g (cur.toList.take off++news++cur.toList.drop (off+news.length)).toArray):=by
 have hf:=run_firstCells_some (P:=P) w i.size k a m c news hl hnews
 have hst:=run_storeCells_at P g off e' news 0 cur w hg (by simpa using hfit) h1
 simp only [Nat.add_zero] at hst
 simp [Builtin.copy_,run_underlying ht,Builtin.lenOf,Go.sizeOf,typeInfo,hi,hk,hf,hst]
theorem YS {C news ys:List Value} {i n cap s:Nat} (hC:C.length=cap*s) (hy:C.take (n*s)=ys) (hyl:ys.length=n*s) (hnl:news.length=s) (hi:i≤n) (hr:n+1≤cap) {C1 C2:List Value}
  (h1:C1=C.take ((i+1)*s)++ys.drop (i*s)++C.drop ((i+1)*s+(ys.drop (i*s)).length)) (h2:C2=C1.take (i*s)++news++C1.drop (i*s+news.length)) :
  C2.length=cap*s∧C1.length=cap*s∧C2.take ((n+1)*s)=ys.take (i*s)++news++ys.drop (i*s):=by
 have e1:(i+1)*s=i*s+s:=by rw [Nat.add_mul];omega
 have e2:(n+1)*s=n*s+s:=by rw [Nat.add_mul];omega
 have e3:i*s≤n*s:=Nat.mul_le_mul_right _ hi
 have e4:(n+1)*s≤cap*s:=Nat.mul_le_mul_right _ hr
 have hdl:(ys.drop (i*s)).length=n*s - i*s:=by rw [List.length_drop,hyl]
 have l1:(C.take ((i+1)*s)).length=(i+1)*s:=by rw [List.length_take];omega
 have c1:C1.length=cap*s:=by rw [h1];simp only [List.length_append,l1,hdl,List.length_drop];omega
 have t1:C1.take (i*s)=ys.take (i*s):=by
  rw [h1,List.append_assoc,List.take_append_of_le_length (by omega),List.take_take,← hy,List.take_take]
  congr 1;omega
 have d1:C1.drop (i*s+news.length)=ys.drop (i*s)++C.drop ((i+1)*s+(ys.drop (i*s)).length):=by
  rw [h1,hnl,← e1,List.append_assoc]
  exact List.drop_left' l1
 refine ⟨?_,c1,?_⟩
 ·rw [h2];simp only [List.length_append,List.length_take,List.length_drop,c1,hnl];omega
 ·rw [h2,t1,d1,← List.append_assoc]
  refine List.take_left' ?_
  simp only [List.length_append,List.length_take,hyl,hnl,hdl];omega
theorem lY {R0 Z news ys:List Value} {i n cap s:Nat} (h0:R0=ys.take (i*s)++Z) (hR:R0.length=cap*s) (hyl:ys.length=n*s) (hnl:news.length=s) (hi:i≤n) (hr:n+1≤cap) {R1 R2:List Value}
  (h1:R1=R0.take (i*s)++news++R0.drop (i*s+news.length)) (h2:R2=R1.take ((i+1)*s)++ys.drop (i*s)++R1.drop ((i+1)*s+(ys.drop (i*s)).length)) :
  R2.length=cap*s∧R1.length=cap*s∧R2.take ((n+1)*s)=ys.take (i*s)++news++ys.drop (i*s):=by
 have e1:(i+1)*s=i*s+s:=by rw [Nat.add_mul];omega
 have e2:(n+1)*s=n*s+s:=by rw [Nat.add_mul];omega
 have e3:i*s≤n*s:=Nat.mul_le_mul_right _ hi
 have e4:(n+1)*s≤cap*s:=Nat.mul_le_mul_right _ hr
 have hdl:(ys.drop (i*s)).length=n*s - i*s:=by rw [List.length_drop,hyl]
 have htl:(ys.take (i*s)).length=i*s:=by rw [List.length_take];omega
 have c1:R1.length=cap*s:=by rw [h1];simp only [List.length_append,List.length_take,List.length_drop,hR,hnl];omega
 have t0:R0.take (i*s)=ys.take (i*s):=by rw [h0];exact List.take_left' htl
 have t1:R1.take ((i+1)*s)=ys.take (i*s)++news:=by
  rw [h1,t0]
  refine List.take_left' ?_
  rw [List.length_append,htl,hnl];omega
 refine ⟨?_,c1,?_⟩
 ·rw [h2,t1];simp only [List.length_append,htl,hnl,hdl,List.length_drop,c1];omega
 ·rw [h2,t1]
  refine List.take_left' ?_
  simp only [List.length_append,htl,hnl,hdl];omega
end Ve
namespace Ve
open Go Go.Lib Go.Proofs
set_option maxRecDepth 100000
set_option maxHeartbeats 4000000
theorem cl55 {L:Lay} (hL:Ew Go.Proofs.Tryz.prog L) {ei:TI} (hei:L 38=some ei) (hby:0<ei.bytes) (i:TypeInfo) (hi:Go.Proofs.Tryz.prog.info? 38=some i):CY Go.Proofs.Tryz.prog 55 ei.size ei.bytes:=by
 have q27:∀ (w:World) (a:Option Addr) (n c n' c':Nat),(binOp .eql 27 (.slice a n c) (.slice none n' c')).run Go.Proofs.Tryz.prog w=.ok (.bool a.isNone) w:=fun w a n c n' c'=>Lib.run_eql_slice_nil w _ _ a n c n' c' Go.Proofs.Tryz.underlying27
 have qb:=fun w=>Fp (P:=Go.Proofs.Tryz.prog) w 27 38 i Go.Proofs.Tryz.underlying27 hi
 intro w xv m news hone hlen hx hb hpos
 have hxs:∃ a c,xv=.slice a m c∧(a=none→m=0):=by
  rcases hx with ⟨rfl,ad,c,rfl⟩ | ⟨b,off,c,rfl,_,_⟩
  ·exact ⟨ad,c,rfl,fun _=>rfl⟩
  ·exact ⟨_,_,rfl,by simp⟩
 obtain ⟨a,c,rfl,ha⟩:=hxs
 cases a with
 | none =>
  have:=ha rfl;subst this
  go_enter Go.Proofs.Tryz.func55,Go.Proofs.Tryz.ntmps55
  go_wp2
  go_ret
  exact ⟨BO.refl _,.inl ⟨_,rfl⟩⟩
 | some ad =>
  obtain ⟨v',w',hr,hv⟩:=Fv hL hei Go.Proofs.Tryz.underlying27 w hone hlen hx hb (KY hb hby) hpos
  go_enter Go.Proofs.Tryz.func55,Go.Proofs.Tryz.ntmps55
  clear hx hone hlen hb hL hei hby hi ha
  go_wp2_with (refine EI (qb _) hr ?_)
  go_ret
  exact hv
theorem zZ:CY Go.Proofs.Tryz.prog 55 17 184:=cl55 Lw (ei:=y38) rfl (by decide) ((Go.Proofs.Tryz.prog.info? 38).get (by kernel_rfl)) (Option.some_get _).symm
theorem cl56 {L:Lay} (hL:Ew Go.Proofs.Tryz.prog L) {ei:TI} (hei:L 71=some ei) (hby:0<ei.bytes) (i:TypeInfo) (hi:Go.Proofs.Tryz.prog.info? 71=some i):CY Go.Proofs.Tryz.prog 56 ei.size ei.bytes:=by
 have q28:∀ (w:World) (a:Option Addr) (n c n' c':Nat),(binOp .eql 28 (.slice a n c) (.slice none n' c')).run Go.Proofs.Tryz.prog w=.ok (.bool a.isNone) w:=fun w a n c n' c'=>Lib.run_eql_slice_nil w _ _ a n c n' c' Go.Proofs.Tryz.underlying28
 have qb:=fun w=>Fp (P:=Go.Proofs.Tryz.prog) w 28 71 i Go.Proofs.Tryz.underlying28 hi
 intro w xv m news hone hlen hx hb hpos
 have hxs:∃ a c,xv=.slice a m c∧(a=none→m=0):=by
  rcases hx with ⟨rfl,ad,c,rfl⟩ | ⟨b,off,c,rfl,_,_⟩
  ·exact ⟨ad,c,rfl,fun _=>rfl⟩
  ·exact ⟨_,_,rfl,by simp⟩
 obtain ⟨a,c,rfl,ha⟩:=hxs
 cases a with
 | none =>
  have:=ha rfl;subst this
  go_enter Go.Proofs.Tryz.func56,Go.Proofs.Tryz.ntmps56
  go_wp2
  go_ret
  exact ⟨BO.refl _,.inl ⟨_,rfl⟩⟩
 | some ad =>
  obtain ⟨v',w',hr,hv⟩:=Fv hL hei Go.Proofs.Tryz.underlying28 w hone hlen hx hb (KY hb hby) hpos
  go_enter Go.Proofs.Tryz.func56,Go.Proofs.Tryz.ntmps56
  clear hx hone hlen hb hL hei hby hi ha
  go_wp2_with (refine EI (qb _) hr ?_)
  go_ret
  exact hv
theorem zY:CY Go.Proofs.Tryz.prog 56 4 32:=cl56 Lw (ei:=y71) rfl (by decide) ((Go.Proofs.Tryz.prog.info? 71).get (by kernel_rfl)) (Option.some_get _).symm
theorem cl94 {L:Lay} (hL:Ew Go.Proofs.Tryz.prog L) {ei:TI} (hei:L 33=some ei) (hby:0<ei.bytes) (i:TypeInfo) (hi:Go.Proofs.Tryz.prog.info? 33=some i):CY Go.Proofs.Tryz.prog 94 ei.size ei.bytes:=by
 have q24:∀ (w:World) (a:Option Addr) (n c n' c':Nat),(binOp .eql 24 (.slice a n c) (.slice none n' c')).run Go.Proofs.Tryz.prog w=.ok (.bool a.isNone) w:=fun w a n c n' c'=>Lib.run_eql_slice_nil w _ _ a n c n' c' Go.Proofs.Tryz.underlying24
 have qb:=fun w=>Fp (P:=Go.Proofs.Tryz.prog) w 24 33 i Go.Proofs.Tryz.underlying24 hi
 intro w xv m news hone hlen hx hb hpos
 have hxs:∃ a c,xv=.slice a m c∧(a=none→m=0):=by
  rcases hx with ⟨rfl,ad,c,rfl⟩ | ⟨b,off,c,rfl,_,_⟩
  ·exact ⟨ad,c,rfl,fun _=>rfl⟩
  ·exact ⟨_,_,rfl,by simp⟩
 obtain ⟨a,c,rfl,ha⟩:=hxs
 cases a with
 | none =>
  have:=ha rfl;subst this
  go_enter Go.Proofs.Tryz.func94,Go.Proofs.Tryz.ntmps94
  go_wp2
  go_ret
  exact ⟨BO.refl _,.inl ⟨_,rfl⟩⟩
 | some ad =>
  obtain ⟨v',w',hr,hv⟩:=Fv hL hei Go.Proofs.Tryz.underlying24 w hone hlen hx hb (KY hb hby) hpos
  go_enter Go.Proofs.Tryz.func94,Go.Proofs.Tryz.ntmps94
  clear hx hone hlen hb hL hei hby hi ha
  go_wp2_with (refine EI (qb _) hr ?_)
  go_ret
  exact hv
theorem zX:CY Go.Proofs.Tryz.prog 94 3 24:=cl94 Lw (ei:=y33) rfl (by decide) ((Go.Proofs.Tryz.prog.info? 33).get (by kernel_rfl)) (Option.some_get _).symm
theorem cl95 {L:Lay} (hL:Ew Go.Proofs.Tryz.prog L) {ei:TI} (hei:L 40=some ei) (hby:0<ei.bytes) (i:TypeInfo) (hi:Go.Proofs.Tryz.prog.info? 40=some i):CY Go.Proofs.Tryz.prog 95 ei.size ei.bytes:=by
 have q34:∀ (w:World) (a:Option Addr) (n c n' c':Nat),(binOp .eql 34 (.slice a n c) (.slice none n' c')).run Go.Proofs.Tryz.prog w=.ok (.bool a.isNone) w:=fun w a n c n' c'=>Lib.run_eql_slice_nil w _ _ a n c n' c' Go.Proofs.Tryz.underlying34
 have qb:=fun w=>Fp (P:=Go.Proofs.Tryz.prog) w 34 40 i Go.Proofs.Tryz.underlying34 hi
 intro w xv m news hone hlen hx hb hpos
 have hxs:∃ a c,xv=.slice a m c∧(a=none→m=0):=by
  rcases hx with ⟨rfl,ad,c,rfl⟩ | ⟨b,off,c,rfl,_,_⟩
  ·exact ⟨ad,c,rfl,fun _=>rfl⟩
  ·exact ⟨_,_,rfl,by simp⟩
 obtain ⟨a,c,rfl,ha⟩:=hxs
 cases a with
 | none =>
  have:=ha rfl;subst this
  go_enter Go.Proofs.Tryz.func95,Go.Proofs.Tryz.ntmps95
  go_wp2
  go_ret
  exact ⟨BO.refl _,.inl ⟨_,rfl⟩⟩
 | some ad =>
  obtain ⟨v',w',hr,hv⟩:=Fv hL hei Go.Proofs.Tryz.underlying34 w hone hlen hx hb (KY hb hby) hpos
  go_enter Go.Proofs.Tryz.func95,Go.Proofs.Tryz.ntmps95
  clear hx hone hlen hb hL hei hby hi ha
  go_wp2_with (refine EI (qb _) hr ?_)
  go_ret
  exact hv
theorem zW:CY Go.Proofs.Tryz.prog 95 4 32:=cl95 Lw (ei:=y40) rfl (by decide) ((Go.Proofs.Tryz.prog.info? 40).get (by kernel_rfl)) (Option.some_get _).symm
theorem cl96 {L:Lay} (hL:Ew Go.Proofs.Tryz.prog L) {ei:TI} (hei:L 148=some ei) (hby:0<ei.bytes) (i:TypeInfo) (hi:Go.Proofs.Tryz.prog.info? 148=some i):CY Go.Proofs.Tryz.prog 96 ei.size ei.bytes:=by
 have q35:∀ (w:World) (a:Option Addr) (n c n' c':Nat),(binOp .eql 35 (.slice a n c) (.slice none n' c')).run Go.Proofs.Tryz.prog w=.ok (.bool a.isNone) w:=fun w a n c n' c'=>Lib.run_eql_slice_nil w _ _ a n c n' c' Go.Proofs.Tryz.underlying35
 have qb:=fun w=>Fp (P:=Go.Proofs.Tryz.prog) w 35 148 i Go.Proofs.Tryz.underlying35 hi
 intro w xv m news hone hlen hx hb hpos
 have hxs:∃ a c,xv=.slice a m c∧(a=none→m=0):=by
  rcases hx with ⟨rfl,ad,c,rfl⟩ | ⟨b,off,c,rfl,_,_⟩
  ·exact ⟨ad,c,rfl,fun _=>rfl⟩
  ·exact ⟨_,_,rfl,by simp⟩
 obtain ⟨a,c,rfl,ha⟩:=hxs
 cases a with
 | none =>
  have:=ha rfl;subst this
  go_enter Go.Proofs.Tryz.func96,Go.Proofs.Tryz.ntmps96
  go_wp2
  go_ret
  exact ⟨BO.refl _,.inl ⟨_,rfl⟩⟩
 | some ad =>
  obtain ⟨v',w',hr,hv⟩:=Fv hL hei Go.Proofs.Tryz.underlying35 w hone hlen hx hb (KY hb hby) hpos
  go_enter Go.Proofs.Tryz.func96,Go.Proofs.Tryz.ntmps96
  clear hx hone hlen hb hL hei hby hi ha
  go_wp2_with (refine EI (qb _) hr ?_)
  go_ret
  exact hv
theorem zV:CY Go.Proofs.Tryz.prog 96 3 24:=cl96 Lw (ei:=Zn) rfl (by decide) ((Go.Proofs.Tryz.prog.info? 148).get (by kernel_rfl)) (Option.some_get _).symm
theorem cl97 {L:Lay} (hL:Ew Go.Proofs.Tryz.prog L) {ei:TI} (hei:L 114=some ei) (hby:0<ei.bytes) (i:TypeInfo) (hi:Go.Proofs.Tryz.prog.info? 114=some i):CY Go.Proofs.Tryz.prog 97 ei.size ei.bytes:=by
 have q36:∀ (w:World) (a:Option Addr) (n c n' c':Nat),(binOp .eql 36 (.slice a n c) (.slice none n' c')).run Go.Proofs.Tryz.prog w=.ok (.bool a.isNone) w:=fun w a n c n' c'=>Lib.run_eql_slice_nil w _ _ a n c n' c' Go.Proofs.Tryz.underlying36
 have qb:=fun w=>Fp (P:=Go.Proofs.Tryz.prog) w 36 114 i Go.Proofs.Tryz.underlying36 hi
 intro w xv m news hone hlen hx hb hpos
 have hxs:∃ a c,xv=.slice a m c∧(a=none→m=0):=by
  rcases hx with ⟨rfl,ad,c,rfl⟩ | ⟨b,off,c,rfl,_,_⟩
  ·exact ⟨ad,c,rfl,fun _=>rfl⟩
  ·exact ⟨_,_,rfl,by simp⟩
 obtain ⟨a,c,rfl,ha⟩:=hxs
 cases a with
 | none =>
  have:=ha rfl;subst this
  go_enter Go.Proofs.Tryz.func97,Go.Proofs.Tryz.ntmps97
  go_wp2
  go_ret
  exact ⟨BO.refl _,.inl ⟨_,rfl⟩⟩
 | some ad =>
  obtain ⟨v',w',hr,hv⟩:=Fv hL hei Go.Proofs.Tryz.underlying36 w hone hlen hx hb (KY hb hby) hpos
  go_enter Go.Proofs.Tryz.func97,Go.Proofs.Tryz.ntmps97
  clear hx hone hlen hb hL hei hby hi ha
  go_wp2_with (refine EI (qb _) hr ?_)
  go_ret
  exact hv
theorem zU:CY Go.Proofs.Tryz.prog 97 3 24:=cl97 Lw (ei:=XC) rfl (by decide) ((Go.Proofs.Tryz.prog.info? 114).get (by kernel_rfl)) (Option.some_get _).symm
theorem tL {L:Lay} (hL:Ew Go.Proofs.Tryz.prog L) {ei:TI} (hei:L 114=some ei) (hsz:ei.size=3) (hbyt:ei.bytes=24):XA Go.Proofs.Tryz.prog 202 3 24:=by
 have hok:=hL _ _ hei
 have hu:=Go.Proofs.Tryz.underlying36
 have mixed:Go.Proofs.Tryz.prog.follows Departure.mixedOrders=true:=by kernel_rfl
 intro w dv n cap ys gb i xb xc news hd hrow2 hi hb
 obtain ⟨cur2,el2,hheap2,hcs2,htk2⟩:=hrow2.ex
 have hxr:w.rangeAt xb 0 news:=BE hrow2
 by_cases hin:i=n
 ·subst hin
  have hd':(gb=none∧(∃ ad,dv=.slice ad 0 0)∧i=0∧ys=[])∨∃ b,gb=some b∧dv=.slice (some ⟨b,0,none⟩) i cap∧DT w b ei.size i cap ys:=by
   rcases hd with h | ⟨b,h1,h2,h3,_⟩
   ·exact .inl h
   ·exact .inr ⟨b,h1,h2,by rw [hsz];exact h3⟩
  have hap:=fun ty=>IW hL hei hu ty (w:=w) (dv:=dv) (n:=i) (cap:=cap) (ys:=ys) (g:=gb) hd' (xv:=.slice (some ⟨xb,0,none⟩) 1 xc) (m:=1) (news:=news) hrow2.one (by rw [hsz];simpa using hrow2.ln) (.inr ⟨xb,0,xc,rfl,hxr⟩) (by rw [hbyt];exact hb) (by simp only [maxLen];omega)
  have hyl:ys.take (i*3)=ys∧ys.drop (i*3)=[]:=by
   have:ys.length=i*3:=by
    rcases hd with ⟨_,_,h1,h2⟩ | ⟨b,_,_,h3,_⟩
    ·subst h1 h2;rfl
    ·exact h3.ln
   exact ⟨List.take_of_length_le (by omega),List.drop_of_length_le (by omega)⟩
  obtain ⟨v',w',hr,hv⟩:=hap 36
  have hsv:∃ ad,dv=.slice ad i (if gb=none then 0 else cap)∧(ad=none→i=0):=by
   rcases hd with ⟨rfl,⟨ad,rfl⟩,rfl,_⟩ | ⟨b,rfl,rfl,_,_⟩
   ·exact ⟨ad,rfl,fun _=>rfl⟩
   ·exact ⟨some ⟨b,0,none⟩,rfl,by simp⟩
  obtain ⟨ad,rfl,had⟩:=hsv
  generalize (if gb=none then 0 else cap)=cc at hr hd hd'
  have walk:Calls Go.Proofs.Tryz.prog 202 #[.slice ad i cc,.int .i64 i,.slice (some ⟨xb,0,none⟩) 1 xc] w fun e w''=>e=.returned v'∧w''=w':=by
   clear hv hd hd' hap hyl hok hxr hheap2 hcs2 htk2 hrow2 hb hi
   cases ad with
   | none =>
    have:=had rfl;subst this
    go_enter Go.Proofs.Tryz.func202,Go.Proofs.Tryz.ntmps202
    go_wp2_with (at_builtin;refine Lib.wpList_append_run _ rfl _ _ _ _ rfl _ _ rfl rfl _ _ hr ?_)
    all_goals (go_ret;exact ⟨rfl,rfl⟩)
   | some a0 =>
    go_enter Go.Proofs.Tryz.func202,Go.Proofs.Tryz.ntmps202
    go_wp2_with (at_builtin;refine Lib.wpList_append_run _ rfl _ _ _ _ rfl _ _ rfl rfl _ _ hr ?_)
    all_goals (go_ret;exact ⟨rfl,rfl⟩)
  refine walk.mono fun e w'' he=>?_
  obtain ⟨rfl,rfl⟩:=he
  rw [hyl.1,hyl.2,List.append_nil]
  rw [hsz] at hv
  rcases hv with ⟨h,_⟩ | ⟨b,h1,h2,h3,h4,h5,h6,h7,h8⟩ | ⟨cap',h2,h3,h4,h5⟩
  ·omega
  ·exact .inl ⟨b,h1,h2,h3,h4,h5,h6,h7,h8⟩
  ·exact .inr ⟨_,cap',h2,h3,h4,Nat.le_refl _,h5⟩
 ·have hlt:i<n:=by omega
  rcases hd with ⟨_,_,h,_⟩ | ⟨b,hgb,rfl,hrow,hbx⟩
  ·omega
  ·obtain ⟨cur,el,hheap,hcs,htk⟩:=hrow.ex
   obtain ⟨i0,hi0,hs0,hb0,z,hz,hzr⟩:=hok.info
   have hyl:=hrow.ln
   have hnl:news.length=3:=by simpa using hrow2.ln
   have hi3:i0.size=3:=by rw [hs0,hsz]
   have hle:n≤cap:=hrow.le
   have hbl:b<w.heap.size:=by
    rcases Nat.lt_or_ge b w.heap.size with h | h
    ·exact h
    ·rw [Array.getElem?_eq_none h] at hheap;cases hheap
   have hxl:xb<w.heap.size:=by
    rcases Nat.lt_or_ge xb w.heap.size with h | h
    ·exact h
    ·rw [Array.getElem?_eq_none h] at hheap2;cases hheap2
   have hys:∀ (W:World),W.heap[b]?=w.heap[b]?→∀ j u,(ys.drop (i*3))[j]?=some u→W.cell? ((⟨b,i*3,none⟩:Addr).add j)=some u:=by
    intro W hW j u hj
    rw [List.getElem?_drop] at hj
    have:=Em hW (BE hrow) (i*3+j) u hj
    rw [Addr.add_mid]
    simpa using this
   have hns:∀ (W:World),W.heap[xb]?=w.heap[xb]?→∀ j u,news[j]?=some u→W.cell? ((⟨xb,0,none⟩:Addr).add j)=some u:=by
    intro W hW j u hj
    have:=Em hW hxr j u hj
    rw [Addr.add_mid]
    exact this
   have hw1:IntKind.i64.wrap ((i:Int)+1)=(i:Int)+1:=by rw [IntKind.wrap_i64];omega
   have hw2:IntKind.i64.wrap ((n:Int)+1)=(n:Int)+1:=by rw [IntKind.wrap_i64];omega
   have hz2:¬ ((i:Int)=(n:Int)):=by omega
   have hdl:(ys.drop (i*3)).length=(n - i)*i0.size:=by rw [List.length_drop,hyl,hi3,← Nat.sub_mul]
   have h1d:∀ u∈ys.drop (i*3),u.oneCell'=true:=fun u hu=>hrow.one u (List.mem_of_mem_drop hu)
   have hcl:cur.toList.length=cap*3:=by simpa using hcs
   have hb1:(0:Int)≤(i:Int)+1:=by omega
   have htn:((i:Int)+1).toNat=i+1:=by omega
   have hm63:=hrow.mx
   simp only [maxLen] at hm63
   by_cases hroom:n+1≤cap
   ·obtain ⟨C1,hC1⟩:∃ C1,C1=cur.toList.take ((i+1)*3)++ys.drop (i*3)++cur.toList.drop ((i+1)*3+(ys.drop (i*3)).length):=⟨_,rfl⟩
    obtain ⟨C2,hC2⟩:∃ C2,C2=C1.take (i*3)++news++C1.drop (i*3+news.length):=⟨_,rfl⟩
    obtain ⟨l2,l1,t2⟩:=YS hcl htk hyl hnl hi hroom hC1 hC2
    have hov:∀ lb cb,(callFunc 203 #[.slice (some ⟨xb,0,none⟩) 1 xc,.slice (some ⟨b,(i+1)*3,none⟩) lb cb]).run Go.Proofs.Tryz.prog w=.ok (.value (.bool false)) w:=fun lb cb=>by
     rw [run_callFunc_extern Go.Proofs.Tryz.func203 (by kernel_rfl) (by kernel_rfl) (by kernel_rfl) (e:=Extern.SlicesOverlaps.overlaps #[36,36] #[4]) (by kernel_rfl),
      Lib.run_overlaps_apart w 36 4 114 hu 3 (fun w=>by simp [Go.sizeOf,typeInfo,hi0,hi3]) ⟨xb,0,none⟩ ⟨b,(i+1)*3,none⟩ 1 xc lb cb (fun h=>hbx h.symm) el2 el cur2.size cur.size (by simp [World.shape?,hheap2]) (by simp [World.shape?,hheap]) (by omega) (by simp [World.frozen?,hheap2]) (by simp [World.frozen?,hheap2])]
     rfl
    have hcp1:∀ ty dc sc,(Builtin.copy_ #[36,36] ty #[.slice (some ⟨b,(i+1)*3,none⟩) (n - i) dc,.slice (some ⟨b,i*3,none⟩) (n+1 - i) sc]).run Go.Proofs.Tryz.prog w.drew=.ok (goInt (n - i:Nat)) (w.drew.setRow b C1.toArray):=fun ty dc sc=>by
     rw [hC1]
     exact GT _ w.drew 36 36 ty 114 el i0 hu hi0 b ((i+1)*3) _ dc cur hheap ⟨b,i*3,none⟩ _ sc (n - i) (ys.drop (i*3)) (by simp only [Nat.min_def];split<;>omega) hdl (hys w.drew rfl) h1d (by rw [hdl,hi3];omega)
    obtain ⟨W1,hW1⟩:∃ W1,W1=w.drew.setRow b C1.toArray:=⟨_,rfl⟩
    have hh1:W1.heap[b]?=some (.cells C1.toArray el (0,0)):=by rw [hW1];exact setRow_heap w.drew b cur _ el _ hheap
    have ho1:∀ c,c≠b→W1.heap[c]?=w.heap[c]?:=fun c hc=>by rw [hW1];exact setRow_other w.drew b c _ hc
    have hcp2:∀ ty dc,(Builtin.copy_ #[36,36] ty #[.slice (some ⟨b,i*3,none⟩) (n+1 - i) dc,.slice (some ⟨xb,0,none⟩) 1 xc]).run Go.Proofs.Tryz.prog W1=.ok (goInt (1:Nat)) (W1.setRow b C2.toArray):=fun ty dc=>by
     rw [hC2]
     exact GT _ W1 36 36 ty 114 el i0 hu hi0 b (i*3) _ dc C1.toArray hh1 ⟨xb,0,none⟩ _ xc 1 news (by simp only [Nat.min_def];split<;>omega) (by rw [hnl,hi3]) (hns W1 (ho1 xb (fun h=>hbx h.symm))) hrow2.one (by simp only [List.size_toArray,l1,hnl];omega)
    rw [← hW1] at hcp1
    have hb2:¬ (cap=i+1):=by omega
    have hb3:(i:Int)≤(n:Int)+1:=by omega
    have hb4:¬ (cap=i):=by omega
    have hb5:(i:Int)+1≤(n:Int)+1:=by omega
    have walk:Calls Go.Proofs.Tryz.prog 202 #[.slice (some ⟨b,0,none⟩) n cap,.int .i64 i,.slice (some ⟨xb,0,none⟩) 1 xc] w fun e w''=>e=.returned (.slice (some ⟨b,0,none⟩) (n+1) cap)∧w''=W1.setRow b C2.toArray:=by
     clear hW1 hC1 hC2 t2 l1 l2 hh1 ho1 hok hz hzr hrow hrow2 hys hns hxr htk htk2 hheap hheap2 hdl h1d hcl hi0 hs0 hb0 hcs hcs2 hL hei hyl hnl
     go_enter Go.Proofs.Tryz.func202,Go.Proofs.Tryz.ntmps202
     go_wp2_with (simp only [hov])
     go_region_law_o (refine step_copy_runI rfl _ _ 36 36 rfl _ _ (by simp [Act.eval,Act.put]) (by simp [Act.eval,Act.put]) (hcp1 _ _ _) ?_)
     go_wp2_with (at_builtin;refine wpList_copy_runI _ rfl _ _ 36 36 rfl _ _ rfl rfl (hcp2 _ _) ?_)
     all_goals (go_ret;exact ⟨rfl,rfl⟩)
    refine walk.mono fun e w'' he=>?_
    obtain ⟨rfl,rfl⟩:=he
    refine .inl ⟨b,hgb,rfl,⟨⟨C2.toArray,el,setRow_heap W1 b _ _ el _ hh1,by simp [l2],by simpa using t2⟩,hroom,hrow.mx,hrow.pos,?_,?_⟩,fun c hc=>(setRow_other W1 b c _ hc).trans (ho1 c hc),by rw [hW1];simp,by rw [hW1];rfl,by rw [hW1];rfl,by rw [hW1];rfl⟩
    ·intro y hy
     simp only [List.mem_append] at hy
     rcases hy with (h | h) | h
     ·exact hrow.one y (List.mem_of_mem_take h)
     ·exact hrow2.one y h
     ·exact h1d y h
    ·have e3:i*3≤n*3:=Nat.mul_le_mul_right _ hi
     simp only [List.length_append,List.length_take,List.length_drop,hyl,hnl];omega
   ·have hik:i+(n+1 - i)=n+1:=by omega
    have hkk:(n:Int)+1 - (i:Int)=((n+1 - i:Nat):Int):=by omega
    have hwk:IntKind.i64.wrap ((n:Int)+1 - (i:Int))=(n:Int)+1 - (i:Int):=by rw [IntKind.wrap_i64];omega
    have hb24:i0.bytes=24:=by rw [hb0,hbyt]
    have htl:(ys.take (i*3)).length=i*i0.size:=by rw [List.length_take,hi3,hyl];have:=Nat.mul_le_mul_right 3 hi;omega
    have hold:(Builtin.firstCells i0.size i (.slice (some ⟨b,0,none⟩) i cap)).run Go.Proofs.Tryz.prog w.drew=.ok (ys.take (i*3)).toArray w.drew :=
     run_firstCells_some w.drew i0.size i ⟨b,0,none⟩ i cap (ys.take (i*3)) htl (fun j v hj=>by
      rw [List.getElem?_take] at hj
      split at hj
      ·rw [Addr.add_mid];exact BE hrow j v hj
      ·cases hj)
    have hgc:cap<i+(n+1 - i):=by omega
    have hrz:∀ ty,(Builtin.append_ #[36,3] ty #[.slice (some ⟨b,0,none⟩) i cap,.int .i64 ((n:Int)+1 - (i:Int))]).run Go.Proofs.Tryz.prog w =
      .ok (.slice (some ⟨w.heap.size,0,none⟩) (n+1) (grownCap w (n+1) cap 114)) (w.drew.alloc (.cells ((ys.take (i*3)).toArray++Builtin.zeroCells z.cells (n+1 - i)++Builtin.zeroCells z.cells (grownCap w (n+1) cap 114 - (n+1))) 114)):=fun ty=>by
     have h:=Lib.run_append_grow_zeros w 36 3 ty 114 i0 z .i64 .i64 hu Go.Proofs.Tryz.underlying3 hi0 hz (some ⟨b,0,none⟩) i cap (ys.take (i*3)) hold (n+1 - i) (by omega) (by rw [hi3];omega) hgc (by omega) (by rw [hb24];omega) (by rw [hb24];exact growslice_fits hgc (by rw [hik];exact hb))
     rw [hik] at h
     rw [hkk]
     exact h
    obtain ⟨G,hG⟩:∃ G,G=grownCap w (n+1) cap 114:=⟨_,rfl⟩
    have hGn:n+1≤G:=by rw [hG];exact grownCap_ge w _ _ _
    have hG63:G≤9223372036854775807:=by
     have:=grownCap_le_maxLen w (n+1) cap 114 (by unfold maxLen;omega)
     rw [← hG] at this
     unfold maxLen at this
     omega
    obtain ⟨R0,hR0⟩:∃ R0:Array Value,R0=(ys.take (i*3)).toArray++Builtin.zeroCells z.cells (n+1 - i)++Builtin.zeroCells z.cells (G - (n+1)):=⟨_,rfl⟩
    rw [← hG,← hR0] at hrz
    have hzl:z.cells.size=3:=by
     have h1:=(hzr ⟨w,fun _=>False,fun _=>[],fun _=>none,fun _=>False⟩)
     obtain ⟨i',z',hi',hs',hz',hzr',hzo'⟩:=zones hok hok.zones ⟨w,fun _=>False,fun _=>[],fun _=>none,fun _=>False⟩
     rw [hi0] at hi';cases hi';rw [hz] at hz';cases hz'
     have:=hzr'.length;have h2:=hok.zlen;rw [hsz] at h2;simp at this;omega
    have hR0l:R0.toList=ys.take (i*3)++((Builtin.zeroCells z.cells (n+1 - i)).toList++(Builtin.zeroCells z.cells (G - (n+1))).toList):=by rw [hR0];simp
    have hR0c:R0.toList.length=G*3:=by
     rw [hR0l]
     simp only [List.length_append,Array.length_toList,size_zeroCells,hzl,htl,hi3]
     omega
    obtain ⟨R1,hR1⟩:∃ R1,R1=R0.toList.take (i*3)++news++R0.toList.drop (i*3+news.length):=⟨_,rfl⟩
    obtain ⟨R2,hR2⟩:∃ R2,R2=R1.take ((i+1)*3)++ys.drop (i*3)++R1.drop ((i+1)*3+(ys.drop (i*3)).length):=⟨_,rfl⟩
    obtain ⟨l2,l1,t2⟩:=lY hR0l hR0c hyl hnl hi hGn hR1 hR2
    obtain ⟨W1,hW1⟩:∃ W1,W1=w.drew.alloc (.cells R0 114):=⟨_,rfl⟩
    have hh1:W1.heap[w.heap.size]?=some (.cells R0 114 (0,0)):=by rw [hW1];exact heap_alloc_new w.drew _
    have lat1:BO w W1:=by rw [hW1];exact (BO.drew w).trans (BO.alloc _ _)
    have hs1:w.heap.size<W1.heap.size:=by rw [hW1];simp
    have hfit1:i*3+news.length≤R0.size:=by
     have h0:R0.size=G*3:=by simpa using hR0c
     rw [h0,hnl];omega
    have hcp1:∀ ty dc,(Builtin.copy_ #[36,36] ty #[.slice (some ⟨w.heap.size,i*3,none⟩) (n+1 - i) dc,.slice (some ⟨xb,0,none⟩) 1 xc]).run Go.Proofs.Tryz.prog W1=.ok (goInt (1:Nat)) (W1.setRow w.heap.size R1.toArray):=fun ty dc=>by
     rw [hR1]
     exact GT _ W1 36 36 ty 114 114 i0 hu hi0 w.heap.size (i*3) _ dc R0 hh1 ⟨xb,0,none⟩ _ xc 1 news (by simp only [Nat.min_def];split<;>omega) (by rw [hnl,hi3]) (hns W1 (lat1.keep _ hxl)) hrow2.one (hfit1)
    obtain ⟨W2,hW2⟩:∃ W2,W2=W1.setRow w.heap.size R1.toArray:=⟨_,rfl⟩
    have hh2:W2.heap[w.heap.size]?=some (.cells R1.toArray 114 (0,0)):=by rw [hW2];exact setRow_heap W1 _ R0 _ 114 _ hh1
    have ho2:∀ c,c<w.heap.size→W2.heap[c]?=w.heap[c]?:=fun c hc=>by rw [hW2,setRow_other W1 _ c _ (by omega)];exact lat1.keep c hc
    have hs2:W2.heap.size=W1.heap.size:=by rw [hW2];simp
    have hcp2:∀ ty dc sc,(Builtin.copy_ #[36,36] ty #[.slice (some ⟨w.heap.size,(i+1)*3,none⟩) (n - i) dc,.slice (some ⟨b,i*3,none⟩) (n - i) sc]).run Go.Proofs.Tryz.prog W2.drew=.ok (goInt (n - i:Nat)) (W2.drew.setRow w.heap.size R2.toArray):=fun ty dc sc=>by
     rw [hR2]
     exact GT _ W2.drew 36 36 ty 114 114 i0 hu hi0 w.heap.size ((i+1)*3) _ dc R1.toArray hh2 ⟨b,i*3,none⟩ _ sc (n - i) (ys.drop (i*3)) (by simp only [Nat.min_def];split<;>omega) hdl (hys W2.drew (ho2 b hbl)) h1d (by simp only [List.size_toArray,l1];rw [hdl,hi3];omega)
    obtain ⟨W3,hW3⟩:∃ W3,W3=W2.drew.setRow w.heap.size R2.toArray:=⟨_,rfl⟩
    have hh3:W3.heap[w.heap.size]?=some (.cells R2.toArray 114 (0,0)):=by rw [hW3];exact setRow_heap W2.drew _ _ _ 114 _ hh2
    have ho3:∀ c,c<w.heap.size→W3.heap[c]?=w.heap[c]?:=fun c hc=>by rw [hW3,setRow_other W2.drew _ c _ (by omega)];exact ho2 c hc
    have hs3:W3.heap.size=W2.heap.size:=by rw [hW3];simp
    have lat3:BO w W3:=⟨by omega,ho3,by rw [hW3,hW2,hW1];rfl,by rw [hW3,hW2,hW1];rfl,by rw [hW3,hW2,hW1];rfl⟩
    rw [← hW1] at hrz
    rw [← hW2] at hcp1
    rw [← hW3] at hcp2
    have hGi:¬ (G=i):=by omega
    have hGim:¬ (G=i+1):=by omega
    have hci:¬ (cap=i):=by omega
    have hb3:(i:Int)≤(n:Int):=by omega
    have hb4:(i:Int)≤(n:Int)+1:=by omega
    have hb5:(i:Int)+1≤(n:Int)+1:=by omega
    have hz3:(cap:Int)<(n:Int)+1:=by omega
    have walk:Calls Go.Proofs.Tryz.prog 202 #[.slice (some ⟨b,0,none⟩) n cap,.int .i64 i,.slice (some ⟨xb,0,none⟩) 1 xc] w fun e w''=>e=.returned (.slice (some ⟨w.heap.size,0,none⟩) (n+1) G)∧w''=W3:=by
     clear hW1 hW2 hW3 hR0 hR1 hR2 hR0l hR0c t2 l1 l2 hh1 hh2 hh3 ho2 ho3 hs1 hs2 hs3 lat1 lat3 hok hz hzr hrow hrow2 hys hns hxr htk htk2 hheap hheap2 hdl h1d hcl hi0 hs0 hb0 hcs hcs2 hL hei hyl hnl hold htl hkk hik hzl hG hgc
     go_enter Go.Proofs.Tryz.func202,Go.Proofs.Tryz.ntmps202
     go_wp2_with (first
      | (at_builtin;refine Lib.wpList_append_run _ rfl _ _ _ _ rfl _ _ rfl rfl _ _ (hrz _) ?_)
      | (at_builtin;refine wpList_copy_runI _ rfl _ _ 36 36 rfl _ _ rfl rfl (hcp1 _ _) ?_))
     go_region_law_o (refine step_copy_runI rfl _ _ 36 36 rfl _ _ (by simp [Act.eval,Act.put]) (by simp [Act.eval,Act.put]) (hcp2 _ _ _) ?_)
     go_wp2
     all_goals (go_ret;exact ⟨rfl,rfl⟩)
    refine walk.mono fun e w'' he=>?_
    obtain ⟨rfl,rfl⟩:=he
    refine .inr ⟨w.heap.size,G,rfl,⟨⟨R2.toArray,114,hh3,by simp [l2],by simpa using t2⟩,hGn,hG63,by omega,?_,?_⟩,lat3,Nat.le_refl _,by omega⟩
    ·intro y hy
     simp only [List.mem_append] at hy
     rcases hy with (h | h) | h
     ·exact hrow.one y (List.mem_of_mem_take h)
     ·exact hrow2.one y h
     ·exact h1d y h
    ·have e3:i*3≤n*3:=Nat.mul_le_mul_right _ hi
     simp only [List.length_append,List.length_take,List.length_drop,hyl,hnl];omega
def ClP (p:Nat × IFn):Prop:=∀ sz bytes,p.2.clone=some (sz,bytes)→(p.2.owns=[]→CY Go.Proofs.Tryz.prog p.1 sz bytes)∧(p.2.owns≠[]→XA Go.Proofs.Tryz.prog p.1 sz bytes)
theorem nG:RK Go.Proofs.Tryz.prog tbl:=by
 have this:∀ p∈RR,ClP p:=by
  simp only [RR,List.forall_mem_cons]
  exact ⟨(fun _ _ h=>by cases h),(fun _ _ h=>by cases h),(fun _ _ h=>by cases h),(fun _ _ h=>by cases h),(fun _ _ h=>by cases h),(fun _ _ h=>by cases h),(fun _ _ h=>by cases h),(fun _ _ h=>by cases h),(fun _ _ h=>by cases h),(fun _ _ h=>by cases h),(fun _ _ h=>by cases h),(fun _ _ h=>by cases h),(fun _ _ h=>by cases h),(fun _ _ h=>by cases h),(fun _ _ h=>by cases h),(fun _ _ h=>by cases h),(fun _ _ h=>by cases h),(fun _ _ h=>by cases h),(fun _ _ h=>by cases h),(fun _ _ h=>by cases h),(fun _ _ h=>by cases h),(fun _ _ h=>by cases h),(fun _ _ h=>by cases h),(fun _ _ h=>by cases h),(fun _ _ h=>by cases h),(fun _ _ h=>by cases h),(fun _ _ h=>by cases h),(fun _ _ h=>by cases h),(fun _ _ h=>by cases h),(fun _ _ h=>by cases h),(fun _ _ h=>by cases h),(fun _ _ h=>by cases h),(fun _ _ h=>by cases h),(fun _ _ h=>by cases h),(fun _ _ h=>by cases h),(fun _ _ h=>by cases h),(fun _ _ h=>by cases h),(fun _ _ h=>by cases h),(fun _ _ h=>by cases h),(fun _ _ h=>by cases h),(fun _ _ h=>by cases h),(fun _ _ h=>by cases h),(fun _ _ h=>by cases h),(fun _ _ h=>by cases h),(fun _ _ h=>by cases h),(fun _ _ h=>by cases h),(fun _ _ h=>by cases h),(fun _ _ h=>by cases h),(fun _ _ h=>by cases h),(fun _ _ h=>by cases h),(fun _ _ h=>by cases h),(fun _ _ h=>by cases h),(fun _ _ h=>by cases h;exact ⟨fun _=>zZ,fun h=>absurd rfl h⟩),(fun _ _ h=>by cases h;exact ⟨fun _=>zY,fun h=>absurd rfl h⟩),(fun _ _ h=>by cases h),(fun _ _ h=>by cases h),(fun _ _ h=>by cases h),(fun _ _ h=>by cases h),(fun _ _ h=>by cases h),(fun _ _ h=>by cases h),(fun _ _ h=>by cases h),(fun _ _ h=>by cases h),(fun _ _ h=>by cases h),(fun _ _ h=>by cases h),(fun _ _ h=>by cases h),(fun _ _ h=>by cases h),(fun _ _ h=>by cases h),(fun _ _ h=>by cases h),(fun _ _ h=>by cases h),(fun _ _ h=>by cases h),(fun _ _ h=>by cases h),(fun _ _ h=>by cases h),(fun _ _ h=>by cases h),(fun _ _ h=>by cases h),(fun _ _ h=>by cases h),(fun _ _ h=>by cases h),(fun _ _ h=>by cases h),(fun _ _ h=>by cases h),(fun _ _ h=>by cases h),(fun _ _ h=>by cases h),(fun _ _ h=>by cases h),(fun _ _ h=>by cases h),(fun _ _ h=>by cases h),(fun _ _ h=>by cases h),(fun _ _ h=>by cases h),(fun _ _ h=>by cases h),(fun _ _ h=>by cases h),(fun _ _ h=>by cases h),(fun _ _ h=>by cases h),(fun _ _ h=>by cases h),(fun _ _ h=>by cases h),(fun _ _ h=>by cases h;exact ⟨fun _=>zX,fun h=>absurd rfl h⟩),(fun _ _ h=>by cases h;exact ⟨fun _=>zW,fun h=>absurd rfl h⟩),(fun _ _ h=>by cases h;exact ⟨fun _=>zV,fun h=>absurd rfl h⟩),(fun _ _ h=>by cases h;exact ⟨fun _=>zU,fun h=>absurd rfl h⟩),(fun _ _ h=>by cases h),(fun _ _ h=>by cases h),(fun _ _ h=>by cases h),(fun _ _ h=>by cases h),(fun _ _ h=>by cases h),(fun _ _ h=>by cases h),(fun _ _ h=>by cases h),(fun _ _ h=>by cases h),(fun _ _ h=>by cases h),(fun _ _ h=>by cases h),(fun _ _ h=>by cases h),(fun _ _ h=>by cases h),(fun _ _ h=>by cases h),(fun _ _ h=>by cases h),(fun _ _ h=>by cases h),(fun _ _ h=>by cases h),(fun _ _ h=>by cases h),(fun _ _ h=>by cases h),(fun _ _ h=>by cases h),(fun _ _ h=>by cases h),(fun _ _ h=>by cases h),(fun _ _ h=>by cases h),(fun _ _ h=>by cases h),(fun _ _ h=>by cases h),(fun _ _ h=>by cases h),(fun _ _ h=>by cases h),(fun _ _ h=>by cases h),(fun _ _ h=>by cases h),(fun _ _ h=>by cases h),(fun _ _ h=>by cases h),(fun _ _ h=>by cases h),(fun _ _ h=>by cases h),(fun _ _ h=>by cases h),(fun _ _ h=>by cases h),(fun _ _ h=>by cases h),(fun _ _ h=>by cases h),(fun _ _ h=>by cases h),(fun _ _ h=>by cases h),(fun _ _ h=>by cases h),(fun _ _ h=>by cases h),(fun _ _ h=>by cases h),(fun _ _ h=>by cases h),(fun _ _ h=>by cases h),(fun _ _ h=>by cases h),(fun _ _ h=>by cases h),(fun _ _ h=>by cases h),(fun _ _ h=>by cases h),(fun _ _ h=>by cases h),(fun _ _ h=>by cases h),(fun _ _ h=>by cases h),(fun _ _ h=>by cases h),(fun _ _ h=>by cases h),(fun _ _ h=>by cases h),(fun _ _ h=>by cases h),(fun _ _ h=>by cases h),(fun _ _ h=>by cases h),(fun _ _ h=>by cases h),(fun _ _ h=>by cases h),(fun _ _ h=>by cases h),(fun _ _ h=>by cases h),(fun _ _ h=>by cases h),(fun _ _ h=>by cases h),(fun _ _ h=>by cases h),(fun _ _ h=>by cases h),(fun _ _ h=>by cases h),(fun _ _ h=>by cases h),(fun _ _ h=>by cases h),(fun _ _ h=>by cases h),(fun _ _ h=>by cases h),(fun _ _ h=>by cases h),(fun _ _ h=>by cases h),(fun _ _ h=>by cases h),(fun _ _ h=>by cases h),(fun _ _ h=>by cases h),(fun _ _ h=>by cases h),(fun _ _ h=>by cases h),(fun _ _ h=>by cases h),(fun _ _ h=>by cases h),(fun _ _ h=>by cases h),(fun _ _ h=>by cases h),(fun _ _ h=>by cases h),(fun _ _ h=>by cases h),(fun _ _ h=>by cases h),(fun _ _ h=>by cases h),(fun _ _ h=>by cases h),(fun _ _ h=>by cases h),(fun _ _ h=>by cases h),(fun _ _ h=>by cases h),(fun _ _ h=>by cases h),(fun _ _ h=>by cases h),(fun _ _ h=>by cases h),(fun _ _ h=>by cases h),(fun _ _ h=>by cases h),(fun _ _ h=>by cases h),(fun _ _ h=>by cases h),(fun _ _ h=>by cases h),(fun _ _ h=>by cases h),(fun _ _ h=>by cases h),(fun _ _ h=>by cases h),(fun _ _ h=>by cases h),(fun _ _ h=>by cases h),(fun _ _ h=>by cases h),(fun _ _ h=>by cases h),(fun _ _ h=>by cases h),(fun _ _ h=>by cases h;exact ⟨fun h=>(by cases h),fun _=>tL Lw (ei:=XC) rfl rfl rfl⟩),(fun _ _ h=>by cases h),(fun _ _ h=>by cases h),(fun _ _ h=>by cases h),fun p hp=>by cases hp⟩
 exact fun f d sz bytes h hc=>this (f,d) (Qf h) sz bytes hc
theorem tieOk:Tie Go.Proofs.Tryz.prog ctx:=⟨Lw,by kernel_rfl,nG,zA⟩
end Ve
