/- The evaluator's steps as rewriting rules. -/
import Derived.Test.YtjgbbmcjbfpjfaaGreatVeM
import Derived.Attr
import Derived.Test.YtjgbbmcjbfpjfaaGreatVeC
set_option linter.all false
set_option linter.unusedSectionVars false
namespace Ve
open Go
section
variable {R:Type}
@[congr] theorem bindP_congr {v v':Option V} {k:V→Option R} (e:v=v'):Hv v k=Hv v' k:=by rw [e]
@[congr] theorem bindM_congr {m m':AM Eff} {h:Hp} {n:Nat} {k:V→Hp→Nat→Option R} (e:m=m'):IJ m h n k=IJ m' h n k:=by rw [e]
@[congr] theorem bindR_congr {m m':AM Eff} {h:Hp} {n i:Nat} {rcs:List Rec} {k:V→Hp→Nat→List Rec→Option R} (e:m=m'):Nq m h n i rcs k=Nq m' h n i rcs k:=by rw [e]
@[congr] theorem bindI_congr {x x':Option (V × Hp × Nat)} {k:V→Hp→Nat→Option R} (e:x=x'):LY x k=LY x' k:=by rw [e]
@[congr] theorem condK_congr {b b':Option Bool} {x y:Option R} (e:b=b'):Ra b x y=Ra b' x y:=by rw [e]
@[congr] theorem heapK_congr {bef:List (List Nat)} {rcs rcs':List Rec} {x:Option R} (e:rcs=rcs'):Jx bef rcs x=Jx bef rcs' x:=by rw [e]
theorem bindP_some (v:V) (k:V→Option R):Hv (some v) k=k v:=rfl
def VO (b:Bool) (x y:Option R):Option R :=
 match b with
 | true=>x
 | false=>y
@[congr] theorem splitK_congr {b b':Bool} {x y:Option R} (e:b=b'):VO b x y=VO b' x y:=by rw [e]
theorem splitK_true (x y:Option R):VO true x y=x:=rfl
def Eg (m:AM Eff) (h:Hp) (n i:Nat) (ro:List Nat) (rcs:List Rec) (k:V→Hp→Nat→List Rec→Option R):Option R :=
 match m.run h with
 | some x=>k x.v (Av h x.upd) (n+x.new) (Fy i (ro++m.reads h) (x.upd.map (·.1)) rcs)
 | none=>none
@[congr] theorem bindR'_congr {m m':AM Eff} {h:Hp} {n i:Nat} {ro:List Nat} {rcs:List Rec} {k:V→Hp→Nat→List Rec→Option R} (e:m=m'):Eg m h n i ro rcs k=Eg m' h n i ro rcs k:=by rw [e]
theorem pB (m:AM Eff) (h:Hp) (n i:Nat) (rcs:List Rec) (k:V→Hp→Nat→List Rec→Option R):Nq m h n i rcs k=Eg m h n i [] rcs k:=LX m h n i rcs k
theorem KT (x:Eff) (h:Hp) (n i:Nat) (ro:List Nat) (rcs:List Rec) (k:V→Hp→Nat→List Rec→Option R):Eg (.ret x) h n i ro rcs k=k x.v (Av h x.upd) (n+x.new) (Fy i ro (x.upd.map (·.1)) rcs):=by
 simp [Eg,AM.run,AM.reads]
theorem PF (o:Nat) (f:Option Obj→AM Eff) (h:Hp) (n i:Nat) (ro:List Nat) (rcs:List Rec) (k:V→Hp→Nat→List Rec→Option R):Eg (.rdo o f) h n i ro rcs k=Eg (f (h o)) h n i (ro++[o]) rcs k:=by
 simp [Eg,AM.run,AM.reads]
end
theorem pS (h:Hp):Av h []=h:=rfl
theorem fI (h:Hp) (o:Nat) (x:Option Obj) (r:List (Nat × Option Obj)):Av h ((o,x)::r)=Av (Fj h o x) r:=rfl
theorem a8v {α:Type} (o:Nat) (k:Obj→AM α):AM.rd o k=.rdo o fun | some ob=>k ob | none=>.fail:=rfl
theorem By {α β:Type} (a:α) (f:α→AM β):(AM.ret a).bind f=f a:=rfl
theorem pA {α β:Type} (o:Nat) (k:Option Obj→AM α) (f:α→AM β):(AM.rdo o k).bind f=.rdo o fun ob=>(k ob).bind f:=rfl
theorem uT (L:Lay) (t:TypeId) (cs:List V):Bx L t (.agg cs)=.agg cs:=by simp [Bx,V.isNil]
theorem uS (L:Lay) (t:TypeId) (k:IntKind) (n:Int):Bx L t (.lit (.int k n))=.lit (.int k n):=by simp [Bx,V.isNil]
theorem mA (L:Lay) (t:TypeId) (b:Bool):Bx L t (.lit (.bool b))=.lit (.bool b):=by simp [Bx,V.isNil]
theorem a5u (L:Lay) (t:TypeId) (o:Nat):Bx L t (.sl o)=.sl o:=by simp [Bx,V.isNil]
theorem uR (L:Lay) (t:TypeId) (p nn:Bool) (sz:Nat) (els:List V):Bx L t (.isl p nn sz els)=.isl p nn sz els:=by simp [Bx,V.isNil]
theorem uQ (L:Lay) (t:TypeId) (sz:Nat) (els:List V):Bx L t (.own sz els)=.own sz els:=by simp [Bx,V.isNil]
theorem uP (L:Lay) (t:TypeId) (o i f:Nat):Bx L t (.ptr o i f)=.ptr o i f:=by simp [Bx,V.isNil]
theorem a5v (L:Lay) (t:TypeId) (p:Bool) (row:List V) (f:Nat):Bx L t (.ip p row f)=.ip p row f:=by simp [Bx,V.isNil]
section
variable {L:Lay} {t:TypeId} {k:IntKind} {a b:Int}
theorem wL:BO L .add t (.lit (.int k a)) (.lit (.int k b))=some (.lit (.int k (k.wrap (a+b)))):=by simp [BO,binOp,Op.intArith,Op.intCmp];rfl
theorem wC:BO L .sub t (.lit (.int k a)) (.lit (.int k b))=some (.lit (.int k (k.wrap (a - b)))):=by simp [BO,binOp,Op.intArith,Op.intCmp];rfl
theorem wE:BO L .mul t (.lit (.int k a)) (.lit (.int k b))=some (.lit (.int k (k.wrap (a*b)))):=by simp [BO,binOp,Op.intArith,Op.intCmp];rfl
theorem wF:BO L .lss t (.lit (.int k a)) (.lit (.int k b))=some (.lit (.bool (decide (a<b)))):=by simp [BO,binOp,Op.intArith,Op.intCmp];rfl
theorem wG:BO L .leq t (.lit (.int k a)) (.lit (.int k b))=some (.lit (.bool (decide (a≤b)))):=by simp [BO,binOp,Op.intArith,Op.intCmp];rfl
theorem wH:BO L .gtr t (.lit (.int k a)) (.lit (.int k b))=some (.lit (.bool (decide (b<a)))):=by simp [BO,binOp,Op.intArith,Op.intCmp];rfl
theorem wI:BO L .geq t (.lit (.int k a)) (.lit (.int k b))=some (.lit (.bool (decide (b≤a)))):=by simp [BO,binOp,Op.intArith,Op.intCmp];rfl
theorem wJ:BO L .eql t (.lit (.int k a)) (.lit (.int k b))=some (.lit (.bool (decide (a=b)))):=by simp [BO,binOp,Op.intArith,Op.intCmp];rfl
theorem wD:BO L .neq t (.lit (.int k a)) (.lit (.int k b))=some (.lit (.bool (!decide (a=b)))):=by simp [BO,binOp,Op.intArith,Op.intCmp];rfl
theorem a1v {x:Bool}:cL .not (.lit (.bool x))=some (.lit (.bool !x)):=rfl
end
section
variable {R:Type}
def Ff (O:Orc) (x:OpK) (g:Option Bool) (h:Hp) (n:Nat) (k:V→Hp→Nat→Option R):Option R :=
 match x with
 | .p v=>Hv (Jy g v) fun v=>k v h n
 | .m m=>IJ (EB g m) h n k
 | .i f xs=>LY (OR g h n (O f xs h n)) k
@[congr] theorem stepO_congr {O:Orc} {x x':OpK} {g g':Option Bool} {h:Hp} {n:Nat} {k:V→Hp→Nat→Option R} (e:x=x') (e':g=g'):Ff O x g h n k=Ff O x' g' h n k:=by rw [e,e']
theorem runOps_nil (L:Lay) (T:Tbl) (O:Orc) (P:FuncId→List V→Option V) (s:St) (k:St→Option R):CP L T O P [] s k=k s:=rfl
theorem TA (L:Lay) (T:Tbl) (O:Orc) (P:FuncId→List V→Option V) (o:IOp) (r:List IOp) (tm:Nat→V) (h:Hp) (n:Nat) (k:St→Option R) :
  CP L T O P (o::r) ⟨tm,h,n⟩ k=Ff O (opK L T P (eV tm) n o.frz o.op) (Dn tm o.guard) h n fun v h n=>CP L T O P r ⟨HK tm o.dst v,h,n⟩ k:=by
 simp only [CP,Ff]
 cases opK L T P (eV tm) n o.frz o.op<;>rfl
theorem Em (O:Orc) (x:OpK) (h:Hp) (n:Nat) (k:V→Hp→Nat→Option R):Ff O x (some false) h n k=k BG h n:=by
 cases x<;>simp [Ff,Jy,EB,OR,Hv,IJ,LY,AM.run,Av]
def MO (x:OpK) (g:Option Bool) (h:Hp) (n i:Nat) (rcs:List Rec) (k:V→Hp→Nat→List Rec→Option R):Option R :=
 match x with
 | .p v=>Hv (Jy g v) fun v=>k v h n rcs
 | .m m=>Nq (EB g m) h n i rcs k
 | .i _ _=>none
@[congr] theorem stepD_congr {x x':OpK} {g g':Option Bool} {h:Hp} {n i:Nat} {rcs:List Rec} {k:V→Hp→Nat→List Rec→Option R} (e:x=x') (e':g=g'):MO x g h n i rcs k=MO x' g' h n i rcs k:=by rw [e,e']
theorem runDraw_nil (L:Lay) (T:Tbl) (P:FuncId→List V→Option V) (i:Nat) (s:St) (rcs:List Rec) (k:St→List Rec→Option R):Cg L T P i [] s rcs k=k s rcs:=rfl
theorem RS (L:Lay) (T:Tbl) (P:FuncId→List V→Option V) (i:Nat) (o:IOp) (r:List IOp) (tm:Nat→V) (h:Hp) (n:Nat) (rcs:List Rec) (k:St→List Rec→Option R) :
  Cg L T P i (o::r) ⟨tm,h,n⟩ rcs k=MO (opK L T P (eV tm) n o.frz o.op) (Dn tm o.guard) h n i rcs fun v h n rcs=>Cg L T P (i+1) r ⟨HK tm o.dst v,h,n⟩ rcs k:=by
 simp only [Cg,MO]
 cases opK L T P (eV tm) n o.frz o.op<;>rfl
theorem VN (m:AM Eff) (h:Hp) (n i:Nat) (rcs:List Rec) (k:V→Hp→Nat→List Rec→Option R):MO (.m m) (some false) h n i rcs k=k BG h n rcs:=by
 simp [MO,EB,LX,AM.run,AM.reads,Av,Fy]
theorem aO (tm:Nat→V):Dn tm none=some true:=rfl
theorem aN (tm:Nat→V) (t:Tmp) (b:Bool):Dn tm (some (t,b))=Ko (tm t) b:=rfl
theorem KB (c:Bool):Ko (.lit (.bool c)) true=some c:=by cases c<;>rfl
theorem IQ (c:Bool):Ko (.lit (.bool c)) false=some !c:=by cases c<;>rfl
theorem FT (b:Bool):Ko BG b=some false:=rfl
theorem aY (tm:Nat→V) (t:Tmp) (v:V):HK tm (some t) v=VJ tm t v:=rfl
theorem aZ (tm:Nat→V) (v:V):HK tm none v=tm:=rfl
theorem pU (tm:Nat→V) (d:Nat) (v:V) (i:Nat):VJ tm d v i=if i=d then v else tm i:=by
 by_cases e:i=d
 ·simp [VJ,e]
 ·have:Nat.beq i d=false:=by
   cases hb:Nat.beq i d with
   | false=>rfl
   | true=>exact absurd (Nat.eq_of_beq_eq_true hb) e
  simp [VJ,this,e]
theorem NJ (h:Hp) (d:Nat) (v:Option Obj) (i:Nat):Fj h d v i=if i=d then v else h i:=by
 by_cases e:i=d
 ·simp [Fj,e]
 ·simp [BQ,e]
theorem TT (i:Nat) (is:List Nat) (v:V) (vs:List V) (j:Nat):Ae (i::is) (v::vs) j=if j=i then v else Ae is vs j:=rfl
theorem fQ (v:V) (r:List V):Gk (v::r) 0=v:=rfl
theorem fP (a v:V) (r:List V):Gk (a::v::r) 1=v:=rfl
theorem fO (a b v:V) (r:List V):Gk (a::b::v::r) 2=v:=rfl
theorem fN (a b c v:V) (r:List V):Gk (a::b::c::v::r) 3=v:=rfl
theorem fM (a b c d v:V) (r:List V):Gk (a::b::c::d::v::r) 4=v:=rfl
theorem fL (a b c d e v:V) (r:List V):Gk (a::b::c::d::e::v::r) 5=v:=rfl
section
variable (C:Ctx) (O:Orc) (P:FuncId→List V→Option V) (k:Nat) (s:St) (q:Out→St→Option R)
theorem uU {ops:List IOp} {bef:List (List Nat)} (h:Ip bef 0 ops=true):evC C O P k (.region ops (some bef)) s q=Cg C.L C.T P 0 ops s [] fun s rcs=>Jx bef rcs (q .normal s):=by simp [evC,h]
end
theorem Vq (i:Nat) (q:Out→St→Option R) (j:Nat) (s:St):Ec i q (.exit j) s=if j=i then q .normal s else q (.exit j) s:=by
 simp only [Ec]
 by_cases e:j=i
 ·simp [e]
 ·have:Nat.beq j i=false:=by
   cases hb:Nat.beq j i with
   | false=>rfl
   | true=>exact absurd (Nat.eq_of_beq_eq_true hb) e
  simp [this,e]
theorem gZ (live:List Nat) (tm:Nat→V) (h:Hp) (n:Nat):Fz live ⟨tm,h,n⟩=⟨Ae live (live.map tm),h,n⟩:=rfl
@[congr] theorem normK_congr {thr:Nat} {live:List Nat} {s s':St} {k:St→Option R} (e:s=s'):Hr thr live s k=Hr thr live s' k:=by rw [e]
@[congr] theorem evLoop_congr {thr:Nat} {live:List Nat} {f:St→(Out→St→Option R)→Option R} {q:Out→St→Option R} {k:Nat} {s s':St} (e:s=s'):Bp thr live f q k s=Bp thr live f q k s':=by rw [e]
@[congr] theorem evC_congr {C:Ctx} {O:Orc} {P:FuncId→List V→Option V} {k:Nat} {b:IR} {s s':St} {q:Out→St→Option R} (e:s=s'):evC C O P k b s q=evC C O P k b s' q:=by rw [e]
@[congr] theorem runOps_congr {L:Lay} {T:Tbl} {O:Orc} {P:FuncId→List V→Option V} {ops:List IOp} {s s':St} {k:St→Option R} (e:s=s'):CP L T O P ops s k=CP L T O P ops s' k:=by rw [e]
end
attribute [go_sem] gZ
attribute [go_sem] aO aN KB IQ FT aY aZ pU NJ TT fQ fP fO fN fM fL
section
variable (L:Lay) (T:Tbl) (P:FuncId→List V→Option V) (e:Operand→V) (n:Nat) (z:Bool)
theorem a4v (x:Operand):opK L T P e n z (.move x)=.p (some (e x)):=rfl
theorem lG (x:Operand):opK L T P e n z (.assign x)=.p (some (e x)):=rfl
theorem a4u (c a b:Operand):opK L T P e n z (.pick c a b)=.p (Ov (e c) (e a) (e b)):=rfl
theorem tW (t:TypeId):opK L T P e n z (.alloc t)=.m (HD L n t):=rfl
theorem a5a (t:TypeId) (x:Operand):opK L T P e n true (.box t x)=.m (Jm L t (e x)):=rfl
theorem a5b (t:TypeId) (x:Operand):opK L T P e n false (.box t x)=.m (Ku L n t (e x)):=rfl
theorem tV (t:TypeId) (ps:Array (Nat × Operand)):opK L T P e n z (.build t ps)=.p (Lp L t (ps.toList.map fun p=>(p.1,e p.2))):=rfl
theorem So (t:TypeId) (len:Nat) (ps:Array (Nat × Operand)):opK L T P e n z (.buildSlice t len ps)=.m (CU L n t len (ps.toList.map fun p=>(p.1,e p.2))):=rfl
theorem Um (t:TypeId) (l c:Operand):opK L T P e n z (.makeSlice t l c)=.m (Dt L n t (e l) (e c)):=rfl
theorem a4y (d s:Operand) (t u:TypeId):opK L T P e n z (.call { callee:=.builtin .copy,args:=#[d,s],argTypes:=#[t,u] })=.m (Ow L t (e d) (e s)):=rfl
theorem a4w (t:TypeId) (x:Operand):opK L T P e n false (.load t x)=.m (Fk L n t (e x)):=rfl
theorem lF (t:TypeId) (x:Operand):opK L T P e n true (.load t x)=.m (Jn L n t (e x)):=rfl
theorem tR (t:TypeId) (x v:Operand):opK L T P e n z (.store t x v)=.m (Lj L t (e x) (e v)):=rfl
theorem WB (x:Operand):opK L T P e n z (.nilCheck x)=.p (Hn (e x)):=rfl
theorem b0c (op:BinOp) (t:TypeId) (x y:Operand) (u:TypeId):opK L T P e n z (.binOp op t x y u)=.p (BO L op t (e x) (e y)):=rfl
theorem k_un (op:UnOp) (t:TypeId) (x:Operand):opK L T P e n z (.unOp op t x)=.p (cL op (e x)):=rfl
theorem dG (s d:TypeId) (x:Operand):opK L T P e n z (.convert s d x)=.p (Cq L s d (e x)):=rfl
theorem WC (f:Fn) (a b:Array Operand):opK L T P e n z (.makeFunc f a b)=.p (some (.fn f (a.toList.map e) (b.toList.map e))):=rfl
theorem tS (t:TypeId) (x:Operand) (lo hi mx:Option Operand):opK L T P e n z (.slice t x lo hi mx)=.p (Lk L t (e x) (lo.map e) (hi.map e) (mx.map e)):=rfl
theorem Uo (s:TypeId) (x:Operand) (f:Nat):opK L T P e n z (.fieldAddr s x f)=.p (FY L s (e x) f):=rfl
theorem Un (t:TypeId) (x i:Operand):opK L T P e n false (.indexAddr t x i)=.m (Eb L t (e x) (e i)):=rfl
theorem Sn (t:TypeId) (x i:Operand):opK L T P e n true (.indexAddr t x i)=.m (Fl L n t (e x) (e i)):=rfl
theorem tU (t:TypeId) (x:Operand) (f:Nat):opK L T P e n z (.field t x f)=.p (Ln L t (e x) f):=rfl
theorem tT (t:TypeId) (x i:Operand):opK L T P e n z (.index t x i)=.p (Lm L t (e x) (e i)):=rfl
theorem dF (x:Operand) (i:Nat):opK L T P e n z (.extract x i)=.p (HX (e x) i):=rfl
theorem b0b (x:Operand) (t:TypeId):opK L T P e n z (.call { callee:=.builtin .len,args:=#[x],argTypes:=#[t] })=.m (OL (e x)):=rfl
theorem a9z (xs:Array Operand) (ts:Array TypeId):opK L T P e n z (.call { callee:=.builtin .min,args:=xs,argTypes:=ts })=.p (OE (xs.toList.map e)):=rfl
theorem dH (xs:Array Operand) (ts:Array TypeId):opK L T P e n z (.call { callee:=.builtin .complex,args:=xs,argTypes:=ts })=.p (JE (xs.toList.map e)):=rfl
theorem a4t (xs:Array Operand) (ts:Array TypeId):opK L T P e n z (.call { callee:=.builtin .real,args:=xs,argTypes:=ts })=.p (TE (xs.toList.map e)):=rfl
theorem a4x (xs:Array Operand) (ts:Array TypeId):opK L T P e n z (.call { callee:=.builtin .imag,args:=xs,argTypes:=ts })=.p (Us (xs.toList.map e)):=rfl
theorem b0a (xs:Array Operand) (ts:Array TypeId):opK L T P e n z (.call { callee:=.builtin .max,args:=xs,argTypes:=ts })=.p (OG (xs.toList.map e)):=rfl
theorem lH (s x:Operand) (t:TypeId):opK L T P e n z (.call { callee:=.builtin .append,args:=#[s,x],argTypes:=#[t,t] })=.m (FZ L n t (e s) (e x)):=by
 show (match Nat.beq t t with
  | true=>OpK.m (FZ L n t (e s) (e x))
  | false=>.p none)=_
 rw [Nat.beq_refl]
theorem a4z (f:Operand) (xs:Array Operand) (ts:Array TypeId):opK L T P e n z (.call { callee:=.value f,args:=xs,argTypes:=ts })=Ix T P n z (e f) (xs.toList.map e):=rfl
end
attribute [go_sem] Um a4y lF Jn Pg a4v lG a4u tW a5a a5b tV So a4w tR WB b0c k_un dG WC tS Uo Un Sn Fl tT tU dF b0b a9z dH a4t a4x b0a lH a4z
theorem a5y (tm:Nat→V) (t:Tmp):eV tm (.tmp t)=tm t:=rfl
theorem mF (tm:Nat→V) (v:Value):eV tm (.const v)=.lit v:=rfl
theorem vF (tm:Nat→V) (f:FuncId):eV tm (.func f)=.fn (.func f) [] []:=rfl
attribute [go_sem] a5y mF vF List.map_cons List.map_nil List.toList_toArray Option.map_some Option.map_none
attribute [go_sem] pS fI a8v By pA uT uS mA a5u uR uQ uP a5v wL wC wE wF wG wH wI wJ wD a1v
attribute [go_sem] Hn FY Ln Sy Fs OL DT V.int? V.bool? Ov HX
theorem Mv {C:Ctx} {O:Orc} {k f:Nat} {args:List V} {hp:Hp} {n:Nat} {d:IFn} (h:C.T f=some d):Ft C O k f args hp n=evC C O (Aa O) k d.body ⟨Gk args,hp,n⟩ (endK C.L d):=by simp [Ft,h]
abbrev Dv (T:Tbl) (g:Nat) (owns:List Bool):Prop:=∀ (P:FuncId→List V→Option V) (n:Nat) (z:Bool) (a c args:List V),Ix T P n z (.fn (.func g) a c) args=.m (Hq P owns n z g (a++args++c))
abbrev aJ (T:Tbl) (g:Nat):Prop:=∀ (P:FuncId→List V→Option V) (n:Nat) (z:Bool) (a c args:List V),Ix T P n z (.fn (.func g) a c) args=.i g (a++args++c)
abbrev b1u (T:Tbl) (g sz by_:Nat):Prop:=∀ (P:FuncId→List V→Option V) (n:Nat) (z:Bool) (s i v:V),Ix T P n z (.fn (.func g) [] []) [s,i,v]=.m (Ho n sz by_ s i v)
abbrev RC (T:Tbl) (g sz by_:Nat):Prop:=∀ (P:FuncId→List V→Option V) (n:Nat) (z:Bool) (v:V),Ix T P n z (.fn (.func g) [] []) [v]=.m (Iw n sz by_ v)
def Fin (x:Option Ans) (Q:V→Hp→Nat→Prop):Prop:=∃ v h n,x=some (v,h,n)∧Q v h n
theorem UG (v:V) (h:Hp) (n:Nat) (Q:V→Hp→Nat→Prop):Fin (some (v,h,n)) Q=Q v h n:=by
 refine propext ⟨fun ⟨v',h',n',e,hq⟩=>?_,fun hq=>⟨v,h,n,rfl,hq⟩⟩
 cases e;exact hq
def ClQ (r v:V) (h:Hp) (_:Nat):Prop :=
 match (AK 0 depth v).run h with
 | some (v',ks)=>ks.Nodup∧v'.perm=true∧v'.nice=true∧v'=r
 | none=>False
def mD (L:Lay) (rs:List ResultVar) (ts:List TypeId):Out→St→Option Ans
 | .normal,s=>CI L s.tm rs ts s.hp s.n fun vs hp n=>some (DE vs,hp,n)
 | .ret,s=>CI L s.tm rs ts s.hp s.n fun vs hp n=>some (DE vs,hp,n)
 | _,_=>none
theorem a9e (v:V):DE [v]=v:=rfl
theorem a9f:DE []=.tup []:=rfl
theorem a9d (a b:V) (r:List V):DE (a::b::r)=.tup (a::b::r):=rfl
attribute [go_sem] UG a9f a9e a9d
theorem Ac {C:Ctx} {j:Nat} {g:FuncId} {xs:List V} {r:V} {nt:Nat} {rs:List ResultVar} {ts:List TypeId} {b:IR} {ow:List Bool} {inl:Bool} {cl:Option (Nat × Nat)} (hd:C.T g=some ⟨nt,rs,ts,b,ow,inl,cl⟩) (k:Nat)
  (hx:xs.all V.nice1=true)
  (h:Fin (evC C (Lv C j) (Aa (Lv C j)) k b ⟨Gk (Bw 0 xs).1,WH (Bw 0 xs).2,(Bw 0 xs).2.length⟩ (mD C.L rs ts)) (ClQ r)):Aa (Lv C (j+1)) g xs=some r:=by
 obtain ⟨v,hp,n,h1,h2⟩:=h
 have h3:Ft C (Lv C j) k g (Bw 0 xs).1 (WH (Bw 0 xs).2) (Bw 0 xs).2.length=some (v,hp,n):=by
  rw [Mv hd,← h1];rfl
 have h4:=kI h3
 simp only [ClQ] at h2
 simp only [Aa,h4]
 split at h2
 ·rename_i v' ks hc
  rw [hc]
  obtain ⟨a,b,c,rfl⟩:=h2
  simp only [a,b,c,hx,and_self,if_true]
 ·exact h2.elim
theorem sT (n:Nat):Bw n []=([],[]):=rfl
theorem sU (n:Nat) (v:Value) (r:List V):Bw n (.lit v::r)=(.lit v::(Bw n r).1,(Bw n r).2):=rfl
theorem sV (n:Nat) (p nn:Bool) (sz:Nat) (els:List V) (r:List V):Bw n (.isl p nn sz els::r)=(.isl p nn sz els::(Bw n r).1,(Bw n r).2):=rfl
theorem a3u (n:Nat) (p:Bool) (row:List V) (off:Nat) (r:List V):Bw n (.ip p row off::r)=(.ip p row off::(Bw n r).1,(Bw n r).2):=rfl
theorem a3v (n:Nat) (f:Fn) (a b:List V) (r:List V):Bw n (.fn f a b::r)=(.fn f a b::(Bw n r).1,(Bw n r).2):=rfl
theorem sS (n:Nat) (sz:Nat) (els:List V) (r:List V):Bw n (.own sz els::r)=(.sl n::(Bw (n+1) r).1,⟨sz,els,false⟩::(Bw (n+1) r).2):=rfl
theorem sW (n:Nat) (cs:List V) (r:List V):Bw n (.agg cs::r)=(.agg (Ak n cs).1::(Bw (n+(Ak n cs).2.length) r).1,(Ak n cs).2++(Bw (n+(Ak n cs).2.length) r).2):=rfl
theorem a4f (n:Nat):Ak n []=([],[]):=rfl
theorem a4g (n:Nat) (v:Value) (r:List V):Ak n (.lit v::r)=(.lit v::(Ak n r).1,(Ak n r).2):=rfl
theorem a4h (n:Nat) (p nn:Bool) (sz:Nat) (els:List V) (r:List V):Ak n (.isl p nn sz els::r)=(.isl p nn sz els::(Ak n r).1,(Ak n r).2):=rfl
theorem a9k (n o:Nat) (r:List V):Ak n (.sl o::r)=(.sl o::(Ak n r).1,(Ak n r).2):=rfl
theorem a9l (n:Nat) (p:Bool) (row:List V) (off:Nat) (r:List V):Ak n (.ip p row off::r)=(.ip p row off::(Ak n r).1,(Ak n r).2):=rfl
theorem a4d (n o i f:Nat) (r:List V):Ak n (.ptr o i f::r)=(.ptr o i f::(Ak n r).1,(Ak n r).2):=rfl
theorem a9m (n:Nat) (f:Fn) (a b:List V) (r:List V):Ak n (.fn f a b::r)=(.fn f a b::(Ak n r).1,(Ak n r).2):=rfl
theorem a4e (n:Nat) (sz:Nat) (els:List V) (r:List V):Ak n (.own sz els::r)=(.sl n::(Ak (n+1) r).1,⟨sz,els,false⟩::(Ak (n+1) r).2):=rfl
theorem a3x (n:Nat) (v:Value):HW n (.lit v)=(.lit v,[]):=rfl
theorem a3y (n:Nat) (p nn:Bool) (sz:Nat) (els:List V):HW n (.isl p nn sz els)=(.isl p nn sz els,[]):=rfl
theorem a9h (n:Nat) (f:Fn) (a b:List V):HW n (.fn f a b)=(.fn f a b,[]):=rfl
theorem a9g (n:Nat) (p:Bool) (row:List V) (off:Nat):HW n (.ip p row off)=(.ip p row off,[]):=rfl
theorem a3w (n:Nat) (sz:Nat) (els:List V):HW n (.own sz els)=(.sl n,[⟨sz,els,false⟩]):=rfl
theorem a3z (n:Nat) (cs:List V):HW n (.agg cs)=(.agg (Ak n cs).1,(Ak n cs).2):=rfl
theorem a5e (n:Nat) (vs:List V):DU n (.tup vs)=(.tup (Bw n vs).1,(Bw n vs).2):=rfl
theorem a5g (n:Nat) (v:Value):DU n (.lit v)=(.lit v,[]):=rfl
theorem a5h (n:Nat) (p nn:Bool) (sz:Nat) (els:List V):DU n (.isl p nn sz els)=(.isl p nn sz els,[]):=rfl
theorem b0h (n:Nat) (f:Fn) (a b:List V):DU n (.fn f a b)=(.fn f a b,[]):=rfl
theorem a5f (n:Nat) (sz:Nat) (els:List V):DU n (.own sz els)=(.sl n,[⟨sz,els,false⟩]):=rfl
theorem a5i (n:Nat) (cs:List V):DU n (.agg cs)=(.agg (Ak n cs).1,(Ak n cs).2):=rfl
theorem sX (n:Nat):Ci n []=[]:=rfl
theorem jO (n:Nat) (o:Obj) (r:List Obj):Ci n (o::r)=(n,some o)::Ci (n+1) r:=rfl
attribute [go_sem] sT sU sV a3u a3v sS sW a4f a4g a4h a9k a9l a4d a9m a4e a3x a3y a9h a9g a3w a3z a5e a5g a5h b0h a5f a5i sX jO WH
attribute [go_sem] List.getElem?_cons_zero List.getElem?_cons_succ List.take_succ_cons List.take_zero List.drop_succ_cons List.drop_zero List.length_cons List.length_nil List.headD_cons List.cons_append List.nil_append List.append_nil List.set_cons_zero List.set_cons_succ List.tail_cons List.flatten_nil List.flatten_cons List.length_map V.cells V.withCells List.contains_nil
theorem a5q (v:Value):V.fz (.lit v)=.lit v:=by simp [V.fz]
theorem a5r (p nn:Bool) (sz:Nat) (els:List V):V.fz (.isl p nn sz els)=.isl p nn sz els:=by simp [V.fz]
theorem a5p (sz:Nat) (els:List V):V.fz (.own sz els)=.isl true false sz (fzs els):=by simp [V.fz]
theorem a5s (cs:List V):V.fz (.agg cs)=.agg (fzs cs):=by simp [V.fz]
theorem a5n (cs:List V):V.fz (.tup cs)=.tup (fzs cs):=by simp [V.fz]
theorem uO:fzs []=[]:=by simp [fzs]
theorem lX (v:V) (r:List V):fzs (v::r)=v.fz::fzs r:=by simp [fzs]
theorem YI (v:Value):V.bz (.lit v)=.lit v:=by simp [V.bz]
theorem a6l (p nn:Bool) (sz:Nat) (els:List V):V.bz (.isl p nn sz els)=.isl p nn sz els:=by simp [V.bz]
theorem YH (sz:Nat) (els:List V):V.bz (.own sz els)=.isl false false sz (bzs els):=by simp [V.bz]
theorem YJ (cs:List V):V.bz (.agg cs)=.agg (bzs cs):=by simp [V.bz]
theorem SS:bzs []=[]:=by simp [bzs]
theorem PB (v:V) (r:List V):bzs (v::r)=v.bz::bzs r:=by simp [bzs]
theorem Fp {α:Type} (f g:α→V) (h:∀ x,(f x).fz=g x):∀ l:List α,fzs (l.map f)=l.map g
 | []=>by simp [fzs]
 | a::l=>by simp [fzs,h,Fp f g h l]
theorem Fv {α:Type} (f g:α→V) (h:∀ x,(f x).bz=g x):∀ l:List α,bzs (l.map f)=l.map g
 | []=>by simp [bzs]
 | a::l=>by simp [bzs,h,Fv f g h l]
theorem b0v (l:List Ap):fzs (l.map eW)=l.map eW:=Fp _ _ (fun _=>by simp [eW,V.fz,fzs]) l
theorem aB (l:List AI):fzs (l.map eI)=l.map eI:=Fp _ _ (fun _=>by simp [eI,V.fz,fzs]) l
theorem mH (l:List AN):fzs (l.map eR)=l.map eR:=Fp _ _ (fun _=>by simp [eR,V.fz,fzs]) l
theorem WS (l:List Ao):fzs (l.map eWr)=l.map eWr:=Fp _ _ (fun _=>by simp [eWr,V.fz,fzs]) l
theorem b0x (l:List AY):fzs (l.map eE)=l.map eE:=Fp _ _ (fun _=>by simp [eE,V.fz,fzs]) l
theorem a6b (l:List AR):fzs (l.map eSl)=l.map eSl:=Fp _ _ (fun _=>by simp [eSl,V.fz,fzs]) l
theorem a9i (l:List Ai):fzs (l.map oS)=l.map (eS true):=Fp _ _ (fun _=>by simp [oS,eS,V.fz,fzs,aB,mH,WS]) l
theorem a4c (x:Ai):(oS x).fz=eS true x:=by simp [oS,eS,V.fz,fzs,aB,mH,WS]
theorem b0w (l:List Ap):bzs (l.map eW)=l.map eW:=Fv _ _ (fun _=>by simp [eW,V.bz,bzs]) l
theorem UO (l:List AI):bzs (l.map eI)=l.map eI:=Fv _ _ (fun _=>by simp [eI,V.bz,bzs]) l
theorem mJ (l:List AN):bzs (l.map eR)=l.map eR:=Fv _ _ (fun _=>by simp [eR,V.bz,bzs]) l
theorem WT (l:List Ao):bzs (l.map eWr)=l.map eWr:=Fv _ _ (fun _=>by simp [eWr,V.bz,bzs]) l
theorem b0y (l:List AY):bzs (l.map eE)=l.map eE:=Fv _ _ (fun _=>by simp [eE,V.bz,bzs]) l
theorem a6c (l:List AR):bzs (l.map eSl)=l.map eSl:=Fv _ _ (fun _=>by simp [eSl,V.bz,bzs]) l
theorem a9j (l:List Ai):bzs (l.map oS)=l.map (eS false):=Fv _ _ (fun _=>by simp [oS,eS,V.bz,bzs,UO,mJ,WT]) l
attribute [go_sem] a5q a5r a5p a5s a5n uO lX YI a6l YH YJ SS PB b0v aB mH WS b0x a6b a9i a4c b0w UO mJ WT b0y a6c a9j
theorem DB {α β:Type} (f:α→AM β):AC f []=.ret []:=rfl
theorem CB {α β:Type} (f:α→AM β) (a:α) (r:List α):AC f (a::r)=(f a).bind fun b=>(AC f r).bind fun bs=>.ret (b::bs):=rfl
theorem YP {α β γ:Type} (f:β→AM γ) (g:α→β) (e:α→γ) (h:∀ x,f (g x)=.ret (e x)):∀ l:List α,AC f (l.map g)=.ret (l.map e)
 | []=>rfl
 | a::l=>by simp [AC,h,YP f g e h l,By]
theorem PE {α β γ:Type} (m:AM α) (f:α→AM β) (g:β→AM γ):(m.bind f).bind g=m.bind fun a=>(f a).bind g:=by
 induction m with
 | ret a=>rfl
 | fail=>rfl
 | rdo o k ih=>simp only [AM.bind];congr 1;funext ob;exact ih ob
theorem pJ {β γ:Type} (f:β→AM γ) (g:β→γ):∀ l:List β,(∀ y∈l,f y=.ret (g y))→AC f l=.ret (l.map g)
 | [],_=>rfl
 | a::l,h=>by simp [AC,h a (by simp),pJ f g l (fun y hy=>h y (by simp [hy])),By]
theorem YO {β γ:Type} (f:β→AM γ) (g:β→γ) (x:β):∀ (l:List β) (i:Nat),(∀ y∈l,f y=.ret (g y))→i<l.length→AC f (l.set i x)=(f x).bind fun y=>.ret ((l.map g).set i y)
 | [],i,_,hi=>by simp at hi
 | a::l,0,h,_=>by
  simp [AC,pJ f g l (fun y hy=>h y (by simp [hy])),By]
 | a::l,i+1,h,hi=>by
  have ih:=YO f g x l i (fun y hy=>h y (by simp [hy])) (by simpa using hi)
  simp only [List.set_cons_succ,AC,h a (by simp),By,ih,List.map_cons,PE]
theorem Mm (d:Nat) (v:Value):AS (d+1) (.lit v)=.ret (.lit v):=rfl
theorem hY (d:Nat) (p nn:Bool) (sz:Nat) (els:List V):AS (d+1) (.isl p nn sz els)=.ret (.isl p nn sz els):=rfl
theorem a8t (d:Nat) (p:Bool) (row:List V) (off:Nat):AS (d+1) (.ip p row off)=.ret (.ip p row off):=rfl
theorem Wf (d:Nat) (sz:Nat) (els:List V):AS (d+1) (.own sz els)=.ret (.isl false false sz (bzs els)):=rfl
theorem Om (d:Nat) (cs:List V):AS (d+1) (.agg cs)=(AC (AS d) cs).bind fun cs=>.ret (.agg cs):=rfl
theorem a3e (d:Nat) (cs:List V):AS (d+1) (.tup cs)=(AC (AS d) cs).bind fun cs=>.ret (.tup cs):=rfl
theorem a8u (d:Nat) (f:Fn) (a b:List V):AS (d+1) (.fn f a b)=(AC (AS d) a).bind fun a=>(AC (AS d) b).bind fun b=>.ret (.fn f a b):=rfl
theorem a8s (d o:Nat):AS (d+1) (.sl o)=.rd o fun ob=>if ob.dirty then (AC (AS d) ob.els).bind fun els=>.ret (.isl false false ob.sz els) else .ret (.isl false false ob.sz (bzs ob.els)):=rfl
theorem a3f (d o i off:Nat):AS (d+1) (.ptr o i off)=.rd o fun ob=>match ob.els[i]? with
  | some el=>(AC (AS d) el.cells).bind fun row=>.ret (.ip false row off)
  | none=>.fail:=rfl
theorem EC (thr d:Nat) (v:Value):AK thr (d+1) (.lit v)=.ret (.lit v,[]):=rfl
theorem Gv (thr d:Nat) (p nn:Bool) (sz:Nat) (els:List V):AK thr (d+1) (.isl p nn sz els)=.ret (.isl p nn sz els,[]):=rfl
theorem Gu (thr d:Nat) (sz:Nat) (els:List V):AK thr (d+1) (.own sz els)=.ret (.own sz els,[]):=rfl
theorem ES (thr d:Nat) (cs:List V):AK thr (d+1) (.agg cs)=(AC (AK thr d) cs).bind fun x=>.ret (.agg (x.map (·.1)),(x.map (·.2)).flatten):=rfl
theorem a6g (thr d:Nat) (cs:List V):AK thr (d+1) (.tup cs)=(AC (AK thr d) cs).bind fun x=>.ret (.tup (x.map (·.1)),(x.map (·.2)).flatten):=rfl
theorem b1d (d o:Nat):AK 0 (d+1) (.sl o)=.rdo o fun
  | none=>.ret (.dead,[])
  | some ob=>if ob.dirty then (AC (AK 0 d) ob.els).bind fun x=>if AD (x.map (·.1)) then .ret (.own ob.sz (x.map (·.1)),o::(x.map (·.2)).flatten) else .fail
   else .ret (.own ob.sz ob.els,[o]):=rfl
attribute [go_sem] DB CB Mm hY a8t Wf Om a3e a8u a8s a3f EC Gv Gu ES a6g b1d
def ClR (r:V) (m:AM (V × List Nat)) (h:Hp):Prop :=
 match m.run h with
 | some (v',ks)=>ks.Nodup∧v'.perm=true∧v'.nice=true∧v'=r
 | none=>False
theorem a6i (r v:V) (h:Hp) (n:Nat):ClQ r v h n=ClR r (AK 0 6 v) h:=rfl
theorem vJ (r v:V) (ks:List Nat) (h:Hp):ClR r (.ret (v,ks)) h=(ks.Nodup∧v.perm=true∧v.nice=true∧v=r):=rfl
theorem vK (r:V) (o:Nat) (f:Option Obj→AM (V × List Nat)) (h:Hp):ClR r (.rdo o f) h=ClR r (f (h o)) h:=rfl
theorem TP (v:Value):V.perm (.lit v)=true:=by simp [V.perm]
theorem jA (sz:Nat) (els:List V):V.perm (.own sz els)=true:=by simp [V.perm]
theorem jB (p nn:Bool) (sz:Nat) (els:List V):V.perm (.isl p nn sz els)=p:=by simp [V.perm]
theorem jC (cs:List V):V.perm (.agg cs)=AD cs:=by simp [V.perm]
theorem iX (cs:List V):V.perm (.tup cs)=AD cs:=by simp [V.perm]
theorem sG (o:Nat):V.perm (.sl o)=false:=by simp [V.perm]
theorem sH (p:Bool) (row:List V) (off:Nat):V.perm (.ip p row off)=p:=by simp [V.perm]
theorem sI (f:Fn) (a b:List V):V.perm (.fn f a b)=(AD a&&AD b):=by simp [V.perm]
theorem iY (o i f:Nat):V.perm (.ptr o i f)=false:=by simp [V.perm]
theorem cH:AD []=true:=by simp [AD]
theorem FI (v:V) (r:List V):AD (v::r)=(v.perm&&AD r):=by simp [AD]
theorem CQ {α:Type} (f:α→V) (h:∀ x,(f x).perm=true):∀ l:List α,AD (l.map f)=true
 | []=>by simp [AD]
 | a::l=>by simp [AD,h,CQ f h l]
theorem iR (l:List Ap):AD (l.map eW)=true:=CQ _ (fun _=>by simp [eW,V.perm,AD]) l
theorem iU (l:List AI):AD (l.map eI)=true:=CQ _ (fun _=>by simp [eI,V.perm,AD]) l
theorem iT (l:List AN):AD (l.map eR)=true:=CQ _ (fun _=>by simp [eR,V.perm,AD]) l
theorem cI (l:List Ao):AD (l.map eWr)=true:=CQ _ (fun _=>by simp [eWr,V.perm,AD]) l
theorem iW (l:List AY):AD (l.map eE)=true:=CQ _ (fun _=>by simp [eE,V.perm,AD]) l
theorem TO (l:List Ai):AD (l.map oS)=true:=CQ _ (fun _=>by simp [oS,V.perm,AD]) l
theorem a4k (v:Value):V.nr (.lit v)=true:=by simp [V.nr]
theorem a4j (sz:Nat) (els:List V):V.nr (.own sz els)=true:=by simp [V.nr]
theorem a4l (p nn:Bool) (sz:Nat) (els:List V):V.nr (.isl p nn sz els)=true:=by simp [V.nr]
theorem a4m (cs:List V):V.nr (.agg cs)=nrs cs:=by simp [V.nr]
theorem a9n (o:Nat):V.nr (.sl o)=false:=by simp [V.nr]
theorem a9o (p:Bool) (row:List V) (off:Nat):V.nr (.ip p row off)=true:=by simp [V.nr]
theorem a4i (o i f:Nat):V.nr (.ptr o i f)=false:=by simp [V.nr]
theorem a9p (f:Fn) (a b:List V):V.nr (.fn f a b)=(nrs a&&nrs b):=by simp [V.nr]
theorem sY:nrs []=true:=by simp [nrs]
theorem jP (v:V) (r:List V):nrs (v::r)=(v.nr&&nrs r):=by simp [nrs]
theorem jT (v:Value):V.nice (.lit v)=BA [.lit v]:=rfl
theorem jU (p nn:Bool) (sz:Nat) (els:List V):V.nice (.isl p nn sz els)=true:=rfl
theorem jS (sz:Nat) (els:List V):V.nice (.own sz els)=true:=rfl
theorem jV (cs:List V):V.nice (.agg cs)=BA cs:=rfl
theorem jR (vs:List V):V.nice (.tup vs)=vs.all V.nice1:=rfl
theorem tA (f:Fn) (a b:List V):V.nice (.fn f a b)=true:=rfl
theorem jX (v:V):V.nice1 v=BA v.cells:=rfl
theorem jL:BA []=true:=rfl
theorem jN (k:IntKind) (n:Int) (r:List V):BA (.lit (.int k n)::r)=BA r:=rfl
theorem cU (b:Bool) (r:List V):BA (.lit (.bool b)::r)=BA r:=rfl
theorem jI (s:_) (r:List V):BA (.lit (.string s)::r)=BA r:=rfl
theorem cT (r:List V):BA (.lit .nilFunc::r)=BA r:=rfl
theorem cS (r:List V):BA (.lit (.slice none 0 0)::r)=BA r:=rfl
theorem jM (p nn:Bool) (sz:Nat) (els:List V) (r:List V):BA (.isl p nn sz els::r)=BA r:=rfl
theorem jK (sz:Nat) (els:List V) (r:List V):BA (.own sz els::r)=BA r:=rfl
theorem sP (o:Nat) (r:List V):BA (.sl o::r)=BA r:=rfl
theorem sQ (p:Bool) (row:List V) (off:Nat) (r:List V):BA (.ip p row off::r)=BA r:=rfl
theorem jJ (o i f:Nat) (r:List V):BA (.ptr o i f::r)=BA r:=rfl
theorem sR (f:Fn) (a b:List V) (r:List V):BA (.fn f a b::r)=BA r:=rfl
attribute [go_sem] a6i vJ vK TP jA jB jC iX sG sH sI iY cH FI iR iU iT cI iW TO a4k a4j a4l a4m a9n a9o a4i a9p sY jP jT jU jS jV jR tA jX jL jN cU jI cT cS jM jK sP sQ jJ sR
attribute [go_sem] Bool.false_eq_true Bool.true_and Bool.false_and Bool.and_true Bool.and_false Bool.not_true Bool.not_false Bool.or_true Bool.or_false Bool.true_or Bool.false_or and_true true_and and_self List.all_cons List.all_nil List.nodup_nil List.nodup_cons List.mem_cons List.not_mem_nil or_self not_false_eq_true or_false false_or
attribute [go_sem] Hq Mb Lp Dp fillCells Ku Jm HD Fk Lj Eb Lm FC CU FZ RG Iw Gg Lk Dt Cq K.agg Fu depth V.isRef goInt
theorem kT (l:List Ao):KL (l.map eWr)=true:=by
 unfold KL
 rw [List.all_eq_true]
 intro x hx
 obtain ⟨y,_,rfl⟩:=List.mem_map.1 hx
 rfl
theorem kR (k k' k'':IntKind) (a b c:Int):KL [.agg [.lit (.int k a),.lit (.int k' b),.lit (.int k'' c)]]=true:=rfl
theorem ZH (l:List Int):KL (l.map fun n=>V.lit (.int .i64 n))=true:=by
 unfold KL
 rw [List.all_eq_true]
 intro x hx
 obtain ⟨y,_,rfl⟩:=List.mem_map.1 hx
 rfl
theorem kS (l:List Int):KL (l.map iV)=true:=ZH l
theorem kQ (n:Nat) (k:IntKind) (m:Int):KL (List.replicate n (V.lit (.int k m)))=true:=by
 unfold KL
 rw [List.all_eq_true]
 intro x hx
 rw [(List.mem_replicate.1 hx).2];rfl
attribute [go_sem] Ow SJ ZH kS kQ
attribute [go_sem] Ho Sq JE TE Us kT kR
section
variable {R:Type}
def bL (C:Ctx) (P:FuncId→List V→Option V) (s:St) (q:Out→St→Option R):IR→Option R
 | .region ops (some bef)=>Cg C.L C.T P 0 ops s [] fun s rcs=>Jx bef rcs (q .normal s)
 | _=>none
def SG:IR→Bool
 | .region ops (some bef)=>Ip bef 0 ops
 | _=>false
theorem aA {C:Ctx} {O:Orc} {P:FuncId→List V→Option V} {k:Nat} {d:IR} (h:SG d=true) (s:St) (q:Out→St→Option R):evC C O P k d s q=bL C P s q d:=by
 cases d with
 | region ops b=>cases b with
  | none=>cases h
  | some bef=>exact uU C O P k s q h
 | _=>cases h
@[congr] theorem runD_congr {C:Ctx} {P:FuncId→List V→Option V} {s:St} {q:Out→St→Option R} {d d':IR} (e:d=d'):bL C P s q d=bL C P s q d':=by rw [e]
@[congr] theorem runDraw_congr {L:Lay} {T:Tbl} {P:FuncId→List V→Option V} {i:Nat} {ops:List IOp} {s s':St} {rcs rcs':List Rec} {k:St→List Rec→Option R} (e:s=s') (e':rcs=rcs'):Cg L T P i ops s rcs k=Cg L T P i ops s' rcs' k:=by rw [e,e']
end
theorem pD (L:Lay) (t:TypeId) (a b:List V):BO L .eql t (.agg a) (.agg b)=match L t with
 | some ti=>if ti.plain&&a.length == ti.size then (Bz a b).map fun r=>.lit (.bool r) else none
 | none=>none:=by simp only [BO];cases L t<;>rfl
theorem pC (L:Lay) (t:TypeId) (a b:List V):BO L .neq t (.agg a) (.agg b)=match L t with
 | some ti=>if ti.plain&&a.length == ti.size then (Bz a b).map fun r=>.lit (.bool (!r)) else none
 | none=>none:=by simp only [BO];cases L t<;>rfl
theorem uY:Bz [] []=some true:=rfl
theorem vA (k:IntKind) (a b:Int) (r s:List V):Bz (.lit (.int k a)::r) (.lit (.int k b)::s)=(Bz r s).map fun y=>decide (a=b)&&y:=by
 cases h:Bz r s<;>simp [Bz,Pk,h]
attribute [go_sem] pD pC uY vA Option.map_some beq_self_eq_true Fy
structure Dum {α:Sort _} (a:α):Type where
section
variable (O:Orc) (h:Hp) (n i:Nat) (ro:List Nat) (rcs:List Rec) (Q:V→Hp→Nat→Prop)
def GP (v:Option V) (k:V→Option Ans) (Q:V→Hp→Nat→Prop) (_:Dum k):Prop:=Fin (Hv v k) Q
def GM (m:AM Eff) (h:Hp) (n:Nat) (k:V→Hp→Nat→Option Ans) (Q:V→Hp→Nat→Prop) (_:Dum k):Prop:=Fin (IJ m h n k) Q
def GR (m:AM Eff) (h:Hp) (n i:Nat) (ro:List Nat) (rcs:List Rec) (k:V→Hp→Nat→List Rec→Option Ans) (Q:V→Hp→Nat→Prop) (_:Dum k):Prop:=Fin (Eg m h n i ro rcs k) Q
def GI (x:Option (V × Hp × Nat)) (k:V→Hp→Nat→Option Ans) (Q:V→Hp→Nat→Prop) (_:Dum k):Prop:=Fin (LY x k) Q
def GC (b:Option Bool) (x y:Option Ans) (Q:V→Hp→Nat→Prop) (_:Dum x) (_:Dum y):Prop:=Fin (Ra b x y) Q
def GS (O:Orc) (x:OpK) (g:Option Bool) (h:Hp) (n:Nat) (k:V→Hp→Nat→Option Ans) (Q:V→Hp→Nat→Prop) (_:Dum k):Prop:=Fin (Ff O x g h n k) Q
def GD (x:OpK) (g:Option Bool) (h:Hp) (n i:Nat) (rcs:List Rec) (k:V→Hp→Nat→List Rec→Option Ans) (Q:V→Hp→Nat→Prop) (_:Dum k):Prop:=Fin (MO x g h n i rcs k) Q
def GE (C:Ctx) (O:Orc) (P:FuncId→List V→Option V) (k:Nat) (ir:IR) (s:St) (q:Out→St→Option Ans) (Q:V→Hp→Nat→Prop) (_:Dum ir) (_:Dum q):Prop:=Fin (evC C O P k ir s q) Q
def GL (thr:Nat) (live:List Nat) (f:St→(Out→St→Option Ans)→Option Ans) (q:Out→St→Option Ans) (k:Nat) (s:St) (Q:V→Hp→Nat→Prop) (_:Dum f) (_:Dum q):Prop:=Fin (Bp thr live f q k s) Q
def GN (thr:Nat) (live:List Nat) (s:St) (k:St→Option Ans) (Q:V→Hp→Nat→Prop) (_:Dum k):Prop:=Fin (Hr thr live s k) Q
theorem gP (v:Option V) (k:V→Option Ans):Fin (Hv v k) Q=GP v k Q ⟨⟩:=rfl
theorem gM (m:AM Eff) (k:V→Hp→Nat→Option Ans):Fin (IJ m h n k) Q=GM m h n k Q ⟨⟩:=rfl
theorem gI (x:Option (V × Hp × Nat)) (k:V→Hp→Nat→Option Ans):Fin (LY x k) Q=GI x k Q ⟨⟩:=rfl
theorem gC (b:Option Bool) (x y:Option Ans):Fin (Ra b x y) Q=GC b x y Q ⟨⟩ ⟨⟩:=rfl
theorem UA (L:Lay) (T:Tbl) (P:FuncId→List V→Option V) (s:St) (k:St→Option Ans):Fin (CP L T O P [] s k) Q=Fin (k s) Q:=rfl
theorem gOps (L:Lay) (T:Tbl) (P:FuncId→List V→Option V) (o:IOp) (r:List IOp) (tm:Nat→V) (k:St→Option Ans) :
  Fin (CP L T O P (o::r) ⟨tm,h,n⟩ k) Q=GS O (opK L T P (eV tm) n o.frz o.op) (Dn tm o.guard) h n (fun v h n=>CP L T O P r ⟨HK tm o.dst v,h,n⟩ k) Q ⟨⟩:=by rw [TA];rfl
theorem QM (L:Lay) (T:Tbl) (P:FuncId→List V→Option V) (s:St) (k:St→List Rec→Option Ans):Fin (Cg L T P i [] s rcs k) Q=Fin (k s rcs) Q:=rfl
theorem xK (L:Lay) (T:Tbl) (P:FuncId→List V→Option V) (o:IOp) (r:List IOp) (tm:Nat→V) (k:St→List Rec→Option Ans) :
  Fin (Cg L T P i (o::r) ⟨tm,h,n⟩ rcs k) Q=GD (opK L T P (eV tm) n o.frz o.op) (Dn tm o.guard) h n i rcs (fun v h n rcs=>Cg L T P (i+1) r ⟨HK tm o.dst v,h,n⟩ rcs k) Q ⟨⟩:=by rw [RS];rfl
theorem xJ (bef:List (List Nat)) (x:Option Ans):Fin (Jx bef rcs x) Q=(Gm bef rcs=true∧Fin x Q):=by
 cases h:Gm bef rcs<;>simp [Jx,h,Fin]
theorem gN (thr:Nat) (live:List Nat) (s:St) (k:St→Option Ans):Fin (Hr thr live s k) Q=GN thr live s k Q ⟨⟩:=rfl
theorem gL (thr:Nat) (live:List Nat) (f:St→(Out→St→Option Ans)→Option Ans) (q:Out→St→Option Ans) (k:Nat) (s:St):Fin (Bp thr live f q k s) Q=GL thr live f q k s Q ⟨⟩ ⟨⟩:=rfl
section
variable (C:Ctx) (P:FuncId→List V→Option V) (k:Nat) (s:St) (q:Out→St→Option Ans)
theorem uJ:Fin (evC C O P k .skip s q) Q=Fin (q .normal s) Q:=rfl
theorem lV (l:Nat):Fin (evC C O P k (.label l) s q) Q=Fin (q .normal s) Q:=rfl
theorem dR (ops:List IOp):Fin (evC C O P k (.region ops none) s q) Q=Fin (CP C.L C.T O P ops s (q .normal)) Q:=rfl
theorem a5l (a b:IR):Fin (evC C O P k (.seq a b) s q) Q=Fin (evC C O P k a s (BZ (fun s=>evC C O P k b s q) q)) Q:=rfl
theorem uN (c:Operand) (a b:IR):Fin (evC C O P k (.cond c a b) s q) Q=GC (eV s.tm c).bool? (evC C O P k a s q) (evC C O P k b s q) Q ⟨⟩ ⟨⟩:=rfl
theorem lW (id:Nat) (b:IR):Fin (evC C O P k (.block id b) s q) Q=Fin (evC C O P k b s (Ec id q)) Q:=rfl
theorem uK (live:List Nat) (b:IR):Fin (evC C O P k (.loop live b) s q) Q=GL s.n live (fun s q=>evC C O P k b s (Al live q)) q k (Fz live s) Q ⟨⟩ ⟨⟩:=rfl
theorem uM (id:Nat) (live:List Nat):Fin (evC C O P k (.exit id live) s q) Q=Fin (q (.exit id) (Fz live s)) Q:=rfl
theorem uL (l:Nat):Fin (evC C O P k (.goto l) s q) Q=Fin (q (.goto l) s) Q:=rfl
theorem a5m (live:List Nat):Fin (evC C O P k (.ret live) s q) Q=Fin (q .ret (Fz live s)) Q:=rfl
theorem NN {d:IR} (hd:SG d=true):Fin (evC C O P k d s q) Q=Fin (bL C P s q d) Q:=by rw [aA hd]
def GU (d:IR) (C:Ctx) (P:FuncId→List V→Option V) (s:St) (q:Out→St→Option Ans) (Q:V→Hp→Nat→Prop) (_:Dum q) (_:Dum s):Prop:=Fin (bL C P s q d) Q
theorem gE_U {d:IR} (hd:SG d=true):Fin (evC C O P k d s q) Q=GU d C P s q Q ⟨⟩ ⟨⟩:=by rw [aA hd];rfl
theorem gU (ops:List IOp) (bef:List (List Nat)) (u:Dum q) (w:Dum s):GU (.region ops (some bef)) C P s q Q u w=Fin (Cg C.L C.T P 0 ops s [] fun s rcs=>Jx bef rcs (q .normal s)) Q:=rfl
theorem b0k (ops:List IOp) (bef:List (List Nat)):Fin (bL C P s q (.region ops (some bef))) Q=Fin (Cg C.L C.T P 0 ops s [] fun s rcs=>Jx bef rcs (q .normal s)) Q:=rfl
end
section
variable (k:St→Option Ans) (q:Out→St→Option Ans) (s:St) (live:List Nat) (kj:Nat→St→Option Ans)
theorem Ky:Fin (BZ k q .normal s) Q=Fin (k s) Q:=rfl
theorem Ng:Fin (BZ k q (.exit i) s) Q=Fin (q (.exit i) s) Q:=rfl
theorem Nf:Fin (BZ k q (.goto i) s) Q=Fin (q (.goto i) s) Q:=rfl
theorem OT:Fin (BZ k q .ret s) Q=Fin (q .ret s) Q:=rfl
theorem LM:Fin (Ec i q .normal s) Q=Fin (q .normal s) Q:=rfl
theorem WL (j:Nat):Fin (Ec i q (.goto j) s) Q=Fin (q (.goto j) s) Q:=rfl
theorem dQ:Fin (Ec i q .ret s) Q=Fin (q .ret s) Q:=rfl
theorem lT:Fin (Ec i q (.exit i) s) Q=Fin (q .normal s) Q:=by rw [Vq,if_pos rfl]
theorem lS {j:Nat} (h:j≠i):Fin (Ec i q (.exit j) s) Q=Fin (q (.exit j) s) Q:=by rw [Vq,if_neg h]
theorem Kz:Fin (Al live q .normal s) Q=Fin (q .normal (Fz live s)) Q:=rfl
theorem Uw:Fin (Al live q (.exit i) s) Q=Fin (q (.exit i) s) Q:=rfl
theorem Uv:Fin (Al live q (.goto i) s) Q=Fin (q (.goto i) s) Q:=rfl
theorem WI:Fin (Al live q .ret s) Q=Fin (q .ret s) Q:=rfl
theorem PU:Fin (Kx kj q .normal s) Q=Fin (q .normal s) Q:=rfl
theorem Uy:Fin (Kx kj q (.exit i) s) Q=Fin (q (.exit i) s) Q:=rfl
theorem Ux:Fin (Kx kj q (.goto i) s) Q=Fin (kj i s) Q:=rfl
theorem WK:Fin (Kx kj q .ret s) Q=Fin (q .ret s) Q:=rfl
end
theorem Sv (L:Lay) (rs:List ResultVar) (ts:List TypeId) (tm:Nat→V):Fin (mD L rs ts .normal ⟨tm,h,n⟩) Q=Fin (CI L tm rs ts h n fun vs hp n=>some (DE vs,hp,n)) Q:=rfl
theorem dP (L:Lay) (rs:List ResultVar) (ts:List TypeId) (tm:Nat→V):Fin (mD L rs ts .ret ⟨tm,h,n⟩) Q=Fin (CI L tm rs ts h n fun vs hp n=>some (DE vs,hp,n)) Q:=rfl
section
variable (L:Lay) (tm:Nat→V) (t:Tmp) (a:Tmp) (y ty:TypeId) (r:List ResultVar) (ts:List TypeId) (k:List V→Hp→Nat→Option Ans)
theorem dO:Fin (CI L tm [] ts h n k) Q=Fin (k [] h n) Q:=rfl
theorem dN:Fin (CI L tm (.tmp t::r) (y::ts) h n k) Q=Fin (CI L tm r ts h n fun vs h n=>k (Bx L y (tm t)::vs) h n) Q:=rfl
theorem WJ:Fin (CI L tm (.cell a ty::r) (y::ts) h n k) Q=GM (Fk L n ty (tm a)) h n (fun v h n=>CI L tm r ts h n fun vs h n=>k (v::vs) h n) Q ⟨⟩:=rfl
end
theorem x_P (v:V) (k:V→Option Ans) (u:Dum k):GP (some v) k Q u=Fin (k v) Q:=rfl
theorem x_M (x:Eff) (k:V→Hp→Nat→Option Ans) (u:Dum k):GM (.ret x) h n k Q u=Fin (k x.v (Av h x.upd) (n+x.new)) Q:=rfl
theorem x_Mr (o:Nat) (f:Option Obj→AM Eff) (k:V→Hp→Nat→Option Ans) (u:Dum k):GM (.rdo o f) h n k Q u=GM (f (h o)) h n k Q u:=rfl
theorem x_R (x:Eff) (k:V→Hp→Nat→List Rec→Option Ans) (u:Dum k):GR (.ret x) h n i ro rcs k Q u=Fin (k x.v (Av h x.upd) (n+x.new) (Fy i ro (x.upd.map (·.1)) rcs)) Q:=by
 show Fin (Eg _ _ _ _ _ _ _) Q=_;rw [KT]
theorem x_Rr (o:Nat) (f:Option Obj→AM Eff) (k:V→Hp→Nat→List Rec→Option Ans) (u:Dum k):GR (.rdo o f) h n i ro rcs k Q u=GR (f (h o)) h n i (ro++[o]) rcs k Q u:=by
 show Fin (Eg _ _ _ _ _ _ _) Q=_;rw [PF];rfl
theorem x_I (v:V) (h':Hp) (n':Nat) (k:V→Hp→Nat→Option Ans) (u:Dum k):GI (some (v,h',n')) k Q u=Fin (k v h' n') Q:=rfl
theorem x_Ct (x y:Option Ans) (u:Dum x) (w:Dum y):GC (some true) x y Q u w=Fin x Q:=rfl
theorem x_Cf (x y:Option Ans) (u:Dum x) (w:Dum y):GC (some false) x y Q u w=Fin y Q:=rfl
theorem x_C (b:Bool) (x y:Option Ans) (u:Dum x) (w:Dum y):GC (some b) x y Q u w=((b=true→Fin x Q)∧(b=false→Fin y Q)):=by
 cases b<;>simp [GC,Ra]
theorem x_Sp (v:Option V) (k:V→Hp→Nat→Option Ans) (u:Dum k):GS O (.p v) (some true) h n k Q u=GP v (fun v=>k v h n) Q ⟨⟩:=rfl
theorem x_Sm (m:AM Eff) (k:V→Hp→Nat→Option Ans) (u:Dum k):GS O (.m m) (some true) h n k Q u=GM m h n k Q u:=rfl
theorem x_Si (f:FuncId) (xs:List V) (k:V→Hp→Nat→Option Ans) (u:Dum k):GS O (.i f xs) (some true) h n k Q u=GI (O f xs h n) k Q u:=rfl
theorem x_Sn (x:OpK) (k:V→Hp→Nat→Option Ans) (u:Dum k):GS O x (some false) h n k Q u=Fin (k BG h n) Q:=by
 show Fin (Ff _ _ _ _ _ _) Q=_;rw [Em]
theorem x_Dp (v:Option V) (k:V→Hp→Nat→List Rec→Option Ans) (u:Dum k):GD (.p v) (some true) h n i rcs k Q u=GP v (fun v=>k v h n rcs) Q ⟨⟩:=rfl
theorem yI (m:AM Eff) (k:V→Hp→Nat→List Rec→Option Ans) (u:Dum k):GD (.m m) (some true) h n i rcs k Q u=GR m h n i [] rcs k Q u:=by show Fin (Nq _ _ _ _ _ _) Q=Fin (Eg _ _ _ _ _ _ _) Q;rw [pB];rfl
theorem wV (v:Option V) (k:V→Hp→Nat→List Rec→Option Ans) (u:Dum k):GD (.p v) (some false) h n i rcs k Q u=Fin (k BG h n rcs) Q:=rfl
theorem fA (m:AM Eff) (k:V→Hp→Nat→List Rec→Option Ans) (u:Dum k):GD (.m m) (some false) h n i rcs k Q u=Fin (k BG h n rcs) Q:=by
 show Fin (MO _ _ _ _ _ _ _) Q=_;rw [VN]
theorem qF (thr:Nat) (v:Value):V.scrub thr (.lit v)=.lit v:=by simp [V.scrub]
theorem qG (thr:Nat) (p nn:Bool) (sz:Nat) (els:List V):V.scrub thr (.isl p nn sz els)=.isl p nn sz els:=by simp [V.scrub]
theorem a2j (thr:Nat) (p:Bool) (row:List V) (off:Nat):V.scrub thr (.ip p row off)=.ip p row off:=by simp [V.scrub]
theorem qH (thr:Nat) (cs:List V):V.scrub thr (.agg cs)=.agg (AU thr cs):=by simp [V.scrub]
theorem a2k (thr:Nat) (f:Fn) (a b:List V):V.scrub thr (.fn f a b)=.fn f (AU thr a) (AU thr b):=by simp [V.scrub]
theorem qE (thr o i f:Nat):V.scrub thr (.ptr o i f)=if o<thr then .ptr o i f else .dead:=by simp [V.scrub]
theorem a2i (thr o:Nat):V.scrub thr (.sl o)=if o<thr then .sl o else .dead:=by simp [V.scrub]
theorem fY (thr:Nat):AU thr []=[]:=by simp [AU]
theorem bB (thr:Nat) (v:V) (r:List V):AU thr (v::r)=v.scrub thr::AU thr r:=by simp [AU]
end
theorem uG (bef:List (List Nat)):Gm bef []=true:=rfl
theorem lM (bef:List (List Nat)) (a:Rec) (r:List Rec):Gm bef (a::r)=(r.all (EN bef a)&&Gm bef r):=rfl
theorem hok1 (bef:List (List Nat)) (a b:Rec):EN bef a b=(!(EG a.wo b.wo||EG a.wo b.ro||EG a.ro b.wo)||FP bef b.i a.i):=rfl
theorem dB (b:List Nat):EG [] b=false:=rfl
theorem Wu (a:List Nat):EG a []=false:=by simp [EG]
theorem Wv (x:Nat) (a b:List Nat):EG (x::a) b=(b.contains x||EG a b):=rfl
theorem eH (bef:List (List Nat)) (i j:Nat):FP bef i j=It bef i 8 j:=(rfl)
theorem rJ (bef:List (List Nat)) (i f j:Nat):It bef i (f+1) j=((bef.getD j []).contains i||(bef.getD j []).any fun k=>It bef i f k):=(rfl)
attribute [go_sem] rJ List.any_cons List.any_nil
attribute [go_sem ↓] gP gM gI gC UA gOps QM xK xJ gN gL uJ lV dR a5l uN lW uK uM uL a5m b0k Ky Ng Nf OT LM WL dQ lT lS Kz Uw Uv WI PU Uy Ux WK dO dN WJ UG x_P x_M x_Mr x_R x_Rr x_I x_Ct x_Cf x_Sp x_Sm x_Si x_Sn x_Dp yI wV fA
attribute [go_sem] gP gM gI gC UA gOps QM xK xJ gN gL Sv dP Ky Ng Nf OT Kz LM x_P x_M x_Mr x_R x_Rr x_I x_Ct x_Cf x_Sp x_Sm x_Si x_Sn x_Dp yI wV fA qF qG a2j qH a2k qE a2i fY bB
attribute [go_sem low] x_C
attribute [go_sem] gU
attribute [go_sem ↓] gU
attribute [go_sem] uG lM hok1 dB Wu Wv eH List.contains_cons List.getD_cons_zero List.getD_cons_succ List.getD_nil List.elem_nil ne_eq
theorem a4n (b:Bool):((!b)=true)=(b=false):=by cases b<;>simp
theorem a4o (b:Bool):((!b)=false)=(b=true):=by cases b<;>simp
attribute [go_sem] a4n a4o
attribute [go_sem] eW eI eR eWr eE eSl eS oS
theorem b0o (w:Ap):(⟨w.val,w.ver,w.lock⟩:Ap)=w:=(rfl)
theorem b0s (w:AI):(⟨w.code,w.a,w.b,w.c⟩:AI)=w:=(rfl)
theorem b0q (w:AN):(⟨w.level,w.index,w.ver⟩:AN)=w:=(rfl)
theorem a5x (w:Ao):(⟨w.level,w.index,w.val⟩:Ao)=w:=(rfl)
theorem b0t (w:AY):(⟨w.id,w.label,w.kind,w.val⟩:AY)=w:=(rfl)
theorem b0u {α:Type} (w:A4 α):(⟨w.a0,w.a1,w.a2,w.a3⟩:A4 α)=w:=(rfl)
theorem b0r (w:Ad):(⟨w.words,w.clocks,w.ceil,w.sess,w.trace⟩:Ad)=w:=(rfl)
theorem b0p (s:Ai):(⟨s.id,s.label,s.clear,s.prog,s.step,s.pc,s.regs,s.reads,s.writes,s.at_,s.stamp,s.tries,s.result,s.told⟩:Ai)=s:=(rfl)
attribute [go_sem] b0o b0s b0q a5x b0t b0u b0r b0p
theorem gLs (thr:Nat) (live:List Nat) (f:St→(Out→St→Option Ans)→Option Ans) (q:Out→St→Option Ans) (k:Nat) (s:St) (Q:V→Hp→Nat→Prop) (u:Dum f) (w:Dum q) :
  GL thr live f q (k+1) s Q u w=GN thr live s (fun s=>f s fun o s=>BZ (Bp thr live f q k) q o s) Q ⟨⟩:=(rfl)
theorem Ah {b b':IR} (e:b=b') (C:Ctx) (O:Orc) (P:FuncId→List V→Option V) (k:Nat) (s:St) (q:Out→St→Option Ans) (Q:V→Hp→Nat→Prop):Fin (evC C O P k b s q) Q=Fin (evC C O P k b' s q) Q:=by rw [e]
abbrev BB:Nat:=140737488355328
attribute [go_sem] decide_true decide_false List.getElem?_map Int.toNat_natCast
theorem wl0:IntKind.wrap .i64 0=0:=by decide
theorem wl1:IntKind.wrap .i64 1=1:=by decide
theorem wl2:IntKind.wrap .i64 2=2:=by decide
theorem wl3:IntKind.wrap .i64 3=3:=by decide
theorem wl4:IntKind.wrap .i64 4=4:=by decide
theorem wl5:IntKind.wrap .i64 5=5:=by decide
attribute [go_sem] wl0 wl1 wl2 wl3 wl4 wl5
theorem minI (k l:IntKind) (a b:Int):OE [.lit (.int k a),.lit (.int l b)]=some (.lit (.int k (if b<a then b else a))):=(rfl)
theorem maxI (k l:IntKind) (a b:Int):OG [.lit (.int k a),.lit (.int l b)]=some (.lit (.int k (if a<b then b else a))):=(rfl)
attribute [go_sem] minI maxI
theorem b1i:((4:Nat):Int)=4:=(rfl)
theorem Pl:((0:Nat):Int)=0:=(rfl)
theorem US:((1:Nat):Int)=1:=(rfl)
theorem b1k:((2:Nat):Int)=2:=(rfl)
theorem b1j:((3:Nat):Int)=3:=(rfl)
attribute [go_sem] b1i Pl US b1k b1j
def IL (c:Bool):Prop:=c=true
def Mg (c:Bool):Prop:=c=false
theorem a4r (a b:Bool):IL (a&&b)=(IL a∧IL b):=by simp [IL]
theorem a4q (a:Bool):IL (!a)=Mg a:=by simp [IL,Mg]
theorem a9s (a:Bool):IL a=(a=true):=(rfl)
theorem a9q (a b:Bool):Mg (a||b)=(Mg a∧Mg b):=by simp [Mg]
theorem a4p (a:Bool):Mg (!a)=IL a:=by simp [IL,Mg]
theorem a9r (a:Bool):Mg a=(a=false):=(rfl)
attribute [go_sem] a4r a4q a9q a4p
attribute [go_sem low] a9s a9r
def GX (O:Orc) (c:Bool) (x:OpK) (h:Hp) (n:Nat) (k:V→Hp→Nat→Option Ans) (Q:V→Hp→Nat→Prop) (_:Dum k):Prop:=Fin (Ff O x (some c) h n k) Q
def GYp (c:Bool) (v:Option V) (h:Hp) (n:Nat) (rcs:List Rec) (k:V→Hp→Nat→List Rec→Option Ans) (Q:V→Hp→Nat→Prop) (_:Dum k):Prop :=
 match c with
 | true=>Fin (Hv v fun v=>k v h n rcs) Q
 | false=>Fin (k BG h n rcs) Q
def GYm (c:Bool) (m:AM Eff) (h:Hp) (n i:Nat) (ro:List Nat) (rcs:List Rec) (k:V→Hp→Nat→List Rec→Option Ans) (Q:V→Hp→Nat→Prop) (_:Dum k):Prop :=
 match c with
 | true=>Fin (Eg m h n i ro rcs k) Q
 | false=>Fin (k BG h n rcs) Q
section
variable (O:Orc) (c:Bool) (h:Hp) (n i:Nat) (ro:List Nat) (rcs:List Rec) (Q:V→Hp→Nat→Prop)
@[congr] theorem GX_congr {g:Prop} {x x':OpK} {k:V→Hp→Nat→Option Ans} {u:Dum k} (hg:IL c=g) (hx:g→x=x'):GX O c x h n k Q u=GX O c x' h n k Q u:=by
 cases c with
 | true=>rw [hx (hg▸rfl)]
 | false=>show Fin (Ff _ _ _ _ _ _) _=Fin (Ff _ _ _ _ _ _) _;rw [Em,Em]
theorem x_S (x:OpK) (k:V→Hp→Nat→Option Ans) (u:Dum k):GS O x (some c) h n k Q u=GX O c x h n k Q u:=(rfl)
theorem x_Xp (v:V) (k:V→Hp→Nat→Option Ans) (u:Dum k):GX O c (.p (some v)) h n k Q u=Fin (k (if c=true then v else BG) h n) Q:=by
 cases c with
 | true=>rfl
 | false=>show Fin (Ff _ _ _ _ _ _) _=_;rw [Em];rfl
theorem x_Xm (v:V) (k:V→Hp→Nat→Option Ans) (u:Dum k):GX O c (.m (.ret ⟨v,[],0⟩)) h n k Q u=Fin (k (if c=true then v else BG) h n) Q:=by
 cases c with
 | true=>rfl
 | false=>show Fin (Ff _ _ _ _ _ _) _=_;rw [Em];rfl
theorem x_Xr (o:Nat) (f:Option Obj→AM Eff) (k:V→Hp→Nat→Option Ans) (u:Dum k):GX O c (.m (.rdo o f)) h n k Q u=GX O c (.m (f (h o))) h n k Q u:=by
 cases c with
 | true=>rfl
 | false=>show Fin (Ff _ _ _ _ _ _) _=Fin (Ff _ _ _ _ _ _) _;rw [Em,Em]
theorem x_Xu (v:V) (o:Nat × Option Obj) (up:List (Nat × Option Obj)) (nw:Nat) (k:V→Hp→Nat→Option Ans) (u:Dum k):GX O c (.m (.ret ⟨v,o::up,nw⟩)) h n k Q u =
  ((c=true→Fin (k v (Av h (o::up)) (n+nw)) Q)∧(c=false→Fin (k BG h n) Q)):=by
 cases c with
 | true=>simp [GX,Ff,EB,IJ,AM.run]
 | false=>simp only [Bool.false_eq_true,false_imp_iff,true_and,forall_const];show Fin (Ff _ _ _ _ _ _) _=_;rw [Em]
theorem x_Xi (f:FuncId) (xs:List V) (k:V→Hp→Nat→Option Ans) (u:Dum k):GX O c (.i f xs) h n k Q u=((c=true→GI (O f xs h n) k Q u)∧(c=false→Fin (k BG h n) Q)):=by
 cases c with
 | true=>simp [GX,Ff,OR,GI]
 | false=>simp only [Bool.false_eq_true,false_imp_iff,true_and,forall_const];show Fin (Ff _ _ _ _ _ _) _=_;rw [Em]
@[congr] theorem GYp_congr {g:Prop} {v v':Option V} {k:V→Hp→Nat→List Rec→Option Ans} {u:Dum k} (hg:IL c=g) (hx:g→v=v'):GYp c v h n rcs k Q u=GYp c v' h n rcs k Q u:=by
 cases c with
 | true=>rw [hx (hg▸rfl)]
 | false=>rfl
@[congr] theorem GYm_congr {g:Prop} {v v':AM Eff} {k:V→Hp→Nat→List Rec→Option Ans} {u:Dum k} (hg:IL c=g) (hx:g→v=v'):GYm c v h n i ro rcs k Q u=GYm c v' h n i ro rcs k Q u:=by
 cases c with
 | true=>rw [hx (hg▸rfl)]
 | false=>rfl
theorem a6v (v:Option V) (k:V→Hp→Nat→List Rec→Option Ans) (u:Dum k):GD (.p v) (some c) h n i rcs k Q u=GYp c v h n rcs k Q u:=by cases c<;>rfl
theorem a6y (m:AM Eff) (k:V→Hp→Nat→List Rec→Option Ans) (u:Dum k):GD (.m m) (some c) h n i rcs k Q u=GYm c m h n i [] rcs k Q u:=by
 cases c with
 | true=>rw [yI];rfl
 | false=>rw [fA];rfl
theorem x_Yp (v:V) (k:V→Hp→Nat→List Rec→Option Ans) (u:Dum k):GYp c (some v) h n rcs k Q u=Fin (k (if c=true then v else BG) h n rcs) Q:=by cases c<;>rfl
theorem x_Ym (v:V) (k:V→Hp→Nat→List Rec→Option Ans) (u:Dum k):GYm c (.ret ⟨v,[],0⟩) h n i [] rcs k Q u=Fin (k (if c=true then v else BG) h n rcs) Q:=by
 cases c with
 | true=>show Fin (Eg _ _ _ _ _ _ _) Q=_;rw [KT];rfl
 | false=>rfl
theorem a6x (o:Nat) (f:Option Obj→AM Eff) (k:V→Hp→Nat→List Rec→Option Ans) (u:Dum k):GYm c (.rdo o f) h n i ro rcs k Q u=GYm c (f (h o)) h n i (ro++[o]) rcs k Q u:=by
 cases c with
 | true=>show Fin (Eg _ _ _ _ _ _ _) Q=Fin (Eg _ _ _ _ _ _ _) Q;rw [PF]
 | false=>rfl
theorem a6w (x:Eff) (k:V→Hp→Nat→List Rec→Option Ans) (u:Dum k):GYm c (.ret x) h n i ro rcs k Q u=((c=true→Fin (k x.v (Av h x.upd) (n+x.new) (Fy i ro (x.upd.map (·.1)) rcs)) Q)∧(c=false→Fin (k BG h n rcs) Q)):=by
 cases c with
 | true=>simp only [forall_const,Bool.true_eq_false,false_imp_iff,and_true];show Fin (Eg _ _ _ _ _ _ _) Q=_;rw [KT]
 | false=>simp [GYm]
attribute [go_sem] x_Yp x_Ym a6x
attribute [go_sem low] a6w a6v a6y
end
theorem iP (c b:Bool):(if c=true then (if c=true then bV b else BG) else bV false)=bV (c&&b):=by cases c<;>rfl
theorem cF (c b:Bool):(if c=true then bV b else bV false)=bV (c&&b):=by cases c<;>rfl
theorem sA (c b:Bool):(if c=true then bV true else (if c=false then bV b else BG))=bV (c||b):=by cases c<;>rfl
theorem iN (c b:Bool):(if c=true then bV true else (if (!c)=true then bV b else BG))=bV (c||b):=by cases c<;>rfl
theorem iO (c b:Bool):(if c=true then bV true else bV b)=bV (c||b):=by cases c<;>rfl
theorem aQ (c b:Bool):Ko (if c=true then bV b else BG) true=some (c&&b):=by cases c<;>simp [KB,FT]
theorem VH (c b:Bool):Ko (if c=true then bV b else BG) false=some (c&&!b):=by cases c<;>simp [IQ,FT]
theorem aR (c b:Bool):Ko (if c=false then bV b else BG) true=some (!c&&b):=by cases c<;>simp [KB,FT]
theorem VI (c b:Bool):Ko (if c=false then bV b else BG) false=some (!c&&!b):=by cases c<;>simp [IQ,FT]
attribute [go_sem] iP cF sA iN iO aQ VH aR VI x_Xp x_Xm x_Xr x_Xu x_Xi
attribute [go_sem low] x_S
theorem sF (c b:Bool):(if c=false then bV true else bV b)=bV (!c||b):=by cases c<;>rfl
theorem sE (c b:Bool):(if c=false then bV true else (if c=true then bV b else BG))=bV (!c||b):=by cases c<;>rfl
theorem sD (c b:Bool):(if c=false then bV b else bV false)=bV (!c&&b):=by cases c<;>rfl
theorem sC (c b:Bool):(if c=false then (if c=false then bV b else BG) else bV false)=bV (!c&&b):=by cases c<;>rfl
attribute [go_sem] sF sE sD sC
theorem vZ {x y:Bool} (h:(x&&!y)=false):(!x||y)=true:=by cases x<;>cases y<;>simp_all
theorem vY {x y:Bool} (h:(x&&!y)=true):(!x||y)=false:=by cases x<;>cases y<;>simp_all
theorem a5w (L:Lay) (t:TypeId) (f:Fn) (a b:List V):Bx L t (.fn f a b)=.fn f a b:=by simp [Bx,V.isNil]
theorem b1e (d:Nat) (f:Fn) (a b:List V):AK 0 (d+1) (.fn f a b)=if AD a&&AD b then .ret (.fn f a b,[]) else .ret (.dead,[]):=(rfl)
attribute [go_sem] a5w b1e
def IsQ (r:V × Hp × Nat) (v:V) (h:Hp) (n:Nat):Prop:=(v,h,n)=r
theorem a5c (r:V × Hp × Nat) (v:V) (h:Hp) (n:Nat):IsQ r v h n=((v,h,n)=r):=(rfl)
attribute [go_sem] a5c
theorem ON {C:Ctx} {j:Nat} {g:FuncId} {xs:List V} {r:V × Hp × Nat} {hp:Hp} {n:Nat} {nt:Nat} {rs:List ResultVar} {ts:List TypeId} {b:IR} {ow:List Bool} {inl:Bool} {cl:Option (Nat × Nat)} (hd:C.T g=some ⟨nt,rs,ts,b,ow,inl,cl⟩) (k:Nat)
  (h:Fin (evC C (Lv C j) (Aa (Lv C j)) k b ⟨Gk xs,hp,n⟩ (mD C.L rs ts)) (IsQ r)):Lv C (j+1) g xs hp n=some r:=by
 obtain ⟨v,h',n',h1,h2⟩:=h
 refine kI (k:=k) ?_
 rw [Mv hd,← show (v,h',n')=r from h2,← h1];rfl
def pO (h:Hp) (o:Nat) (x:Option Obj):Hp:=Fj h o x
theorem jE (h:Hp) (d:Nat) (v:Option Obj) (i:Nat):pO h d v i=if i=d then v else h i:=NJ h d v i
theorem a3r (i:Nat) (x:Option Obj):Fj Af i x=pO Af i x:=(rfl)
theorem rZ (h:Hp) (o:Nat) (x y:Option Obj):Fj (pO h o x) o y=pO h o y:=by
 funext i;simp only [NJ,jE];split<;>rfl
theorem rX (h:Hp) {i j:Nat} (x y:Option Obj) (hij:i<j):Fj (pO h j y) i x=pO (Fj h i x) j y:=by
 funext k;simp only [NJ,jE]
 split
 ·split
  ·omega
  ·rfl
 ·rfl
theorem rY (h:Hp) {i j:Nat} (x y:Option Obj) (hij:j<i):Fj (pO h j y) i x=pO (pO h j y) i x:=(rfl)
attribute [go_sem] jE a3r rZ rX rY
def GW' (x:Option (Hp × List Nat)) (ks:List Nat) (nk:Nat) (vs:List V) (thr:Nat) (live:List Nat) (h:Hp) (k:St→Option Ans) (Q:V→Hp→Nat→Prop) (_:Dum k):Prop :=
 match x with
 | some (hp',ks')=>(ks++ks').Nodup∧(ks++ks').all (fun o=>decide (thr≤o))=true∧Fin (k ⟨Ae live (Is thr h vs thr),hp',thr+nk⟩) Q
 | none=>False
def GW (kl ks:List Nat) (hp:Hp) (vs:List V) (thr:Nat) (live:List Nat) (h:Hp) (k:St→Option Ans) (Q:V→Hp→Nat→Prop) (u:Dum k):Prop :=
 GW' (Et thr h kl thr hp) ks kl.length vs thr live h k Q u
def GV (vs:List V) (x:Option (Hp × List Nat)) (thr:Nat) (live:List Nat) (h:Hp) (k:St→Option Ans) (Q:V→Hp→Nat→Prop) (u:Dum k):Prop :=
 match x with
 | some (hp,ks)=>GW (Gb thr h vs) ks hp vs thr live h k Q u
 | none=>False
theorem x_N (thr:Nat) (live:List Nat) (tm:Nat→V) (h:Hp) (n:Nat) (k:St→Option Ans) (Q:V→Hp→Nat→Prop) (u:Dum k):GN thr live ⟨tm,h,n⟩ k Q u=GV (live.map tm) (CR thr h thr) thr live h k Q u:=by
 show Fin (Hr thr live ⟨tm,h,n⟩ k) Q=_
 simp only [Hr,OA,Zr]
 cases hc:CR thr h thr with
 | none=>simp [GV,Fin]
 | some x =>
  obtain ⟨hp,ks⟩:=x
  simp only [GV,GW]
  cases hc':Et thr h (Gb thr h (live.map tm)) thr hp with
  | none=>simp [GW',Fin]
  | some x =>
   obtain ⟨hp',ks'⟩:=x
   simp only [GW']
   by_cases hk:(ks++ks').Nodup∧(ks++ks').all (fun o=>decide (thr≤o))=true
   ·simp only [if_pos hk]
    simp only [hk.1,hk.2,true_and]
   ·simp only [hk,if_false]
    simp only [← and_assoc,hk,false_and,eq_iff_iff,iff_false]
    rintro ⟨v,h,n,e,_⟩;cases e
theorem x_V (hp:Hp) (ks:List Nat) (vs:List V) (thr:Nat) (live:List Nat) (h:Hp) (k:St→Option Ans) (Q:V→Hp→Nat→Prop) (u:Dum k):GV vs (some (hp,ks)) thr live h k Q u=GW (Gb thr h vs) ks hp vs thr live h k Q u:=(rfl)
theorem x_W0 (ks:List Nat) (hp:Hp) (vs:List V) (thr:Nat) (live:List Nat) (h:Hp) (k:St→Option Ans) (Q:V→Hp→Nat→Prop) (u:Dum k):GW [] ks hp vs thr live h k Q u=(ks.Nodup∧ks.all (fun o=>decide (thr≤o))=true∧Fin (k ⟨Ae live (Is thr h vs thr),hp,thr⟩) Q):=by
 show GW' (some (hp,[])) ks 0 vs thr live h k Q u=_
 simp only [GW',List.append_nil,Nat.add_zero]
theorem x_W1 (o:Nat) (r:List Nat) (ks:List Nat) (hp:Hp) (vs:List V) (thr:Nat) (live:List Nat) (h:Hp) (k:St→Option Ans) (Q:V→Hp→Nat→Prop) (u:Dum k):GW (o::r) ks hp vs thr live h k Q u=GW' (Et thr h (o::r) thr hp) ks (o::r).length vs thr live h k Q u:=(rfl)
theorem x_W2 (hp':Hp) (ks' ks:List Nat) (nk:Nat) (vs:List V) (thr:Nat) (live:List Nat) (h:Hp) (k:St→Option Ans) (Q:V→Hp→Nat→Prop) (u:Dum k):GW' (some (hp',ks')) ks nk vs thr live h k Q u=((ks++ks').Nodup∧(ks++ks').all (fun o=>decide (thr≤o))=true∧Fin (k ⟨Ae live (Is thr h vs thr),hp',thr+nk⟩) Q):=(rfl)
theorem a6j (thr:Nat) (h:Hp) (m:Nat) (hp:Hp):Et thr h [] m hp=some (hp,[]):=(rfl)
def ckT (o:Nat) (thr:Nat) (h:Hp) (r:List Nat) (m:Nat) (hp:Hp) (x:Option (Option Obj × List Nat)):Option (Hp × List Nat):=ckS o (fun y=>Et thr h r (m+1) (Fj hp m y)) x
theorem vL (thr:Nat) (h:Hp) (o:Nat) (r:List Nat) (m:Nat) (hp:Hp):Et thr h (o::r) m hp=ckT o thr h r m hp (DI thr h (h o)):=(rfl)
theorem ck_T (o thr:Nat) (h:Hp) (r:List Nat) (m:Nat) (hp:Hp) (y:Option Obj) (ls:List Nat):ckT o thr h r m hp (some (y,ls))=ckB o ls (Et thr h r (m+1) (Fj hp m y)):=(rfl)
theorem ck_B (o:Nat) (ls:List Nat) (hp:Hp) (ks:List Nat):ckB o ls (some (hp,ks))=some (hp,(o::ls)++ks):=(rfl)
theorem a4s (thr:Nat) (h:Hp):Gb thr h []=[]:=(rfl)
theorem tQ (thr:Nat) (h:Hp) (v:V) (r:List V):Gb thr h (v::r)=QJ thr h v.slotO (Gb thr h r):=(rfl)
theorem uA (thr:Nat) (h:Hp) (l:List Nat):QJ thr h none l=l:=(rfl)
theorem tZ (thr:Nat) (h:Hp) (o:Nat) (l:List Nat):QJ thr h (some o) l=if o<thr then l else QI o (h o) l:=(rfl)
theorem tX (o:Nat) (ob:Obj) (l:List Nat):QI o (some ob) l=o::l:=(rfl)
theorem tY (o:Nat) (l:List Nat):QI o none l=l:=(rfl)
theorem a3c (thr:Nat) (h:Hp) (m:Nat):Is thr h [] m=[]:=(rfl)
def renT (thr:Nat) (h:Hp) (m:Nat) (v:V) (r:List V) (x:Option Nat):List V:=hJ thr h m v (Is thr h r) x
theorem rG (thr:Nat) (h:Hp) (m:Nat) (v:V) (r:List V):Is thr h (v::r) m=renT thr h m v r v.slotO:=(rfl)
theorem rD (thr:Nat) (h:Hp) (m:Nat) (v:V) (r:List V):renT thr h m v r none=v.scrub thr::Is thr h r m:=(rfl)
def renU (thr:Nat) (h:Hp) (m:Nat) (r:List V) (x:Option Obj):List V:=rH m (Is thr h r) x
theorem rC (thr:Nat) (h:Hp) (m:Nat) (v:V) (r:List V) (o:Nat):renT thr h m v r (some o)=if o<thr then v::Is thr h r m else renU thr h m r (h o):=(rfl)
theorem rA (thr:Nat) (h:Hp) (m:Nat) (r:List V) (ob:Obj):renU thr h m r (some ob)=.sl m::Is thr h r (m+1):=(rfl)
theorem rB (thr:Nat) (h:Hp) (m:Nat) (r:List V):renU thr h m r none=.dead::Is thr h r m:=(rfl)
theorem a2b (v:Value):V.slotO (.lit v)=none:=(rfl)
theorem a2e (v:List V):V.slotO (.agg v)=none:=(rfl)
theorem a1y (v:List V):V.slotO (.tup v)=none:=(rfl)
theorem a8j (f:Fn) (a b:List V):V.slotO (.fn f a b)=none:=(rfl)
theorem a1z (o i f:Nat):V.slotO (.ptr o i f)=none:=(rfl)
theorem a8i (p:Bool) (r:List V) (f:Nat):V.slotO (.ip p r f)=none:=(rfl)
theorem a8h (o:Nat):V.slotO (.sl o)=some o:=(rfl)
theorem a2c (p n:Bool) (sz:Nat) (els:List V):V.slotO (.isl p n sz els)=none:=(rfl)
theorem a2a (sz:Nat) (els:List V):V.slotO (.own sz els)=none:=(rfl)
theorem pX:V.slotO .dead=none:=(rfl)
theorem a2d (o i f n:Nat):V.slotO (.asl o i f n)=none:=(rfl)
attribute [go_sem] x_V x_W0 x_W1 x_W2 a6j vL ck_T ck_B a4s tQ uA tZ tX tY a3c rG rD rC rA rB a2b a2e a1y a8j a1z a8i a8h a2c a2a pX a2d
def Yz (x:Option (Hp × List Nat)) (y:Option (Option Obj × List Nat)) (i:Nat):Option (Hp × List Nat) :=
 match x with
 | none=>none
 | some (hp,ks)=>match y with
  | none=>none
  | some (y,ls)=>some (Fj hp i y,ks++ls)
theorem co_0 (thr:Nat) (h:Hp):CR thr h 0=some (Af,[]):=(rfl)
theorem co_s (thr:Nat) (h:Hp) (i:Nat):CR thr h (i+1)=Yz (CR thr h i) (DI thr h (h i)) i:=by
 simp only [CR,Yz]
 cases CR thr h i with
 | none=>rfl
 | some x=>obtain ⟨hp,ks⟩:=x;cases DI thr h (h i) with
  | none=>rfl
  | some y=>obtain ⟨y,ls⟩:=y;rfl
theorem b0z (hp:Hp) (ks:List Nat) (y:Option Obj) (ls:List Nat) (i:Nat):Yz (some (hp,ks)) (some (y,ls)) i=some (Fj hp i y,ks++ls):=(rfl)
def nZ (thr:Nat) (h:Hp) (ob:Obj) (m:AM (List (V × List Nat))):Option (Option Obj × List Nat) :=
 match m.run h with
 | some x=>some (some { ob with els:=x.map (·.1) },(x.map (·.2)).flatten)
 | none=>none
theorem nW (thr:Nat) (h:Hp):DI thr h none=some (none,[]):=(rfl)
theorem nU (thr:Nat) (h:Hp) (ob:Obj):DI thr h (some ob)=if ob.dirty=true then nZ thr h ob (AC (AK thr 6) ob.els) else some (some ob,[]):=by
 simp only [DI,nZ,depth]
 split<;>rfl
theorem nX (thr:Nat) (h:Hp) (ob:Obj) (x:List (V × List Nat)):nZ thr h ob (.ret x)=some (some { ob with els:=x.map (·.1) },(x.map (·.2)).flatten):=(rfl)
theorem nY (thr:Nat) (h:Hp) (ob:Obj) (o:Nat) (f:Option Obj→AM (List (V × List Nat))):nZ thr h ob (.rdo o f)=nZ thr h ob (f (h o)):=(rfl)
theorem a6h (thr d o:Nat):AK thr (d+1) (.sl o)=if o<thr then .ret (.sl o,[]) else .rdo o fun
  | none=>.ret (.dead,[])
  | some ob=>if ob.dirty then (AC (AK 0 d) ob.els).bind fun x=>if AD (x.map (·.1)) then .ret (.own ob.sz (x.map (·.1)),o::(x.map (·.2)).flatten) else .fail
   else .ret (.own ob.sz ob.els,[o]):=(rfl)
theorem RB {α β:Type} (f:α→AM β):∀ a b:List α,AC f (a++b)=(AC f a).bind fun x=>(AC f b).bind fun y=>.ret (x++y)
 | [],b=>by
  simp only [List.nil_append,AC,By]
  generalize AC f b=m
  induction m with
  | ret a=>rfl
  | fail=>rfl
  | rdo o k ih=>simp only [AM.bind];congr 1;funext x;exact ih x
 | a::r,b=>by simp only [List.cons_append,AC,RB f r b,PE,By]
abbrev vn (v:V):V × List Nat:=(v,[])
theorem HH {α:Type} (thr d:Nat) (f:α→V) (h:∀ x,AK thr d (f x)=.ret (f x,[])) (l:List α):AC (AK thr d) (l.map f)=.ret ((l.map f).map vn):=by
 rw [YP _ _ (fun x=>vn (f x)) h l,List.map_map];rfl
theorem b1p (thr d:Nat) (l:List Ap):AC (AK thr (d+2)) (l.map eW)=.ret ((l.map eW).map vn):=HH _ _ _ (fun x=>by simp only [oS,eS,eW,eI,eR,eWr,eE,ES,CB,DB,EC,Gu,Gv,By,List.map_cons,List.map_nil,List.flatten_cons,List.flatten_nil,List.append_nil,List.nil_append]) l
theorem b1s (thr d:Nat) (l:List AI):AC (AK thr (d+2)) (l.map eI)=.ret ((l.map eI).map vn):=HH _ _ _ (fun x=>by simp only [oS,eS,eW,eI,eR,eWr,eE,ES,CB,DB,EC,Gu,Gv,By,List.map_cons,List.map_nil,List.flatten_cons,List.flatten_nil,List.append_nil,List.nil_append]) l
theorem b1r (thr d:Nat) (l:List AN):AC (AK thr (d+2)) (l.map eR)=.ret ((l.map eR).map vn):=HH _ _ _ (fun x=>by simp only [oS,eS,eW,eI,eR,eWr,eE,ES,CB,DB,EC,Gu,Gv,By,List.map_cons,List.map_nil,List.flatten_cons,List.flatten_nil,List.append_nil,List.nil_append]) l
theorem a6r (thr d:Nat) (l:List Ao):AC (AK thr (d+2)) (l.map eWr)=.ret ((l.map eWr).map vn):=HH _ _ _ (fun x=>by simp only [oS,eS,eW,eI,eR,eWr,eE,ES,CB,DB,EC,Gu,Gv,By,List.map_cons,List.map_nil,List.flatten_cons,List.flatten_nil,List.append_nil,List.nil_append]) l
theorem b1t (thr d:Nat) (l:List AY):AC (AK thr (d+2)) (l.map eE)=.ret ((l.map eE).map vn):=HH _ _ _ (fun x=>by simp only [oS,eS,eW,eI,eR,eWr,eE,ES,CB,DB,EC,Gu,Gv,By,List.map_cons,List.map_nil,List.flatten_cons,List.flatten_nil,List.append_nil,List.nil_append]) l
theorem b1n (thr d:Nat) (l:List Ai):AC (AK thr (d+2)) (l.map oS)=.ret ((l.map oS).map vn):=HH _ _ _ (fun x=>by simp only [oS,eS,eW,eI,eR,eWr,eE,ES,CB,DB,EC,Gu,Gv,By,List.map_cons,List.map_nil,List.flatten_cons,List.flatten_nil,List.append_nil,List.nil_append]) l
theorem b1q (p:Bool) (thr d:Nat) (l:List Ai):AC (AK thr (d+2)) (l.map (eS p))=.ret ((l.map (eS p)).map vn):=HH _ _ _ (fun x=>by simp only [oS,eS,eW,eI,eR,eWr,eE,ES,CB,DB,EC,Gu,Gv,By,List.map_cons,List.map_nil,List.flatten_cons,List.flatten_nil,List.append_nil,List.nil_append]) l
theorem Zy (l:List V):List.map (fun x:V × List Nat=>x.1) (l.map vn)=l:=by simp [Function.comp_def]
theorem Zx (l:List V):(List.map (fun x:V × List Nat=>x.2) (l.map vn)).flatten=[]:=by
 induction l with
 | nil=>rfl
 | cons a l ih=>simp
theorem iS (l:List Ai):AD (l.map (eS true))=true:=CQ _ (fun _=>by simp [eS,V.perm,AD]) l
attribute [go_sem] co_0 co_s b0z nW nU nX nY a6h RB b1p b1s b1r a6r b1t b1n b1q Zy Zx iS Iu List.map_append List.flatten_append
attribute [go_sem low] x_N
end Ve
namespace Ve
open Go
section fx
variable {R:Type}
def OLe (O O':Orc):Prop:=∀ g xs h n r,O g xs h n=some r→O' g xs h n=some r
def PLe (P P':FuncId→List V→Option V):Prop:=∀ g xs r,P g xs=some r→P' g xs=some r
def RLe (m m':AM Eff):Prop:=∀ h r,m.runR h=some r→m'.runR h=some r
theorem RLe.run {m m':AM Eff} (hm:RLe m m') {h:Nat→Option Obj} {x:Eff} (e:m.run h=some x):m'.run h=some x:=by
 have h1:=m.runR_eq h
 rw [e] at h1
 have h2:=hm h _ h1
 have h3:=m'.runR_eq h
 rw [h2] at h3
 cases h4:m'.run h with
 | none=>rw [h4] at h3;cases h3
 | some y=>rw [h4] at h3;simp only [Option.some.injEq,Prod.mk.injEq] at h3;rw [h3.1]
inductive KLe:OpK→OpK→Prop
 | p (v:Option V):KLe (.p v) (.p v)
 | m {m m':AM Eff} (h:RLe m m'):KLe (.m m) (.m m')
 | i (g:FuncId) (xs:List V):KLe (.i g xs) (.i g xs)
theorem KLe.refl:∀ x,KLe x x
 | .p v=>.p v
 | .m _=>.m fun _ _ h=>h
 | .i g xs=>.i g xs
end fx
end Ve
namespace Ve
open Go
theorem lR {thr:Nat} {live:List Nat} {f:St→(Out→St→Option Ans)→Option Ans} {q:Out→St→Option Ans} {Q:V→Hp→Nat→Prop} {u:Dum f} {w:Dum q} (S:Nat→St) (n:Nat) (good:Nat→Bool)
  (hstep:∀ j kk,j<n→good j=true→GL thr live f q kk (S (j+1)) Q u w→GN thr live (S j) (fun s=>f s fun o s=>BZ (Bp thr live f q kk) q o s) Q ⟨⟩)
  (hbad:∀ j kk,j<n→good j=false→(∀ i,i<j→good i=true)→GN thr live (S j) (fun s=>f s fun o s=>BZ (Bp thr live f q kk) q o s) Q ⟨⟩)
  (hend:∀ kk,(∀ i,i<n→good i=true)→GN thr live (S n) (fun s=>f s fun o s=>BZ (Bp thr live f q kk) q o s) Q ⟨⟩) :
  ∀ (d j k:Nat),j+d=n→d<k→(∀ i,i<j→good i=true)→GL thr live f q k (S j) Q u w
 | 0,j,0,_,hk,_=>by omega
 | 0,j,k+1,hj,_,hg=>by
  obtain rfl:j=n:=by omega
  exact hend k hg
 | d+1,j,0,_,hk,_=>by omega
 | d+1,j,k+1,hj,hk,hg=>by
  cases hb:good j with
  | false=>exact hbad j k (by omega) hb hg
  | true =>
   refine hstep j k (by omega) hb (lR S n good hstep hbad hend d (j+1) k (by omega) (by omega) ?_)
   intro i hi
   rcases Nat.lt_or_eq_of_le (Nat.le_of_lt_succ hi) with h | rfl
   ·exact hg i h
   ·exact hb
theorem Iz {thr:Nat} {live:List Nat} {f:St→(Out→St→Option Ans)→Option Ans} {q:Out→St→Option Ans} {k:Nat} {s:St} {Q:V→Hp→Nat→Prop} {u:Dum f} {w:Dum q} (S:Nat→St) (n:Nat) (good:Nat→Bool) (hs:s=S 0) (hk:n<k)
  (hstep:∀ j kk,j<n→good j=true→GL thr live f q kk (S (j+1)) Q u w→GN thr live (S j) (fun s=>f s fun o s=>BZ (Bp thr live f q kk) q o s) Q ⟨⟩)
  (hbad:∀ j kk,j<n→good j=false→(∀ i,i<j→good i=true)→GN thr live (S j) (fun s=>f s fun o s=>BZ (Bp thr live f q kk) q o s) Q ⟨⟩)
  (hend:∀ kk,(∀ i,i<n→good i=true)→GN thr live (S n) (fun s=>f s fun o s=>BZ (Bp thr live f q kk) q o s) Q ⟨⟩) :
  GL thr live f q k s Q u w:=by
 rw [hs]
 exact lR S n good hstep hbad hend n 0 k (by omega) hk (by omega)
theorem ZV {thr:Nat} {live:List Nat} {f:St→(Out→St→Option Ans)→Option Ans} {q:Out→St→Option Ans} {k:Nat} {s:St} {Q:V→Hp→Nat→Prop} {u:Dum f} {w:Dum q} (S:Nat→St) (n:Nat) (hs:s=S 0) (hk:n<k)
  (hstep:∀ j kk,j<n→GL thr live f q kk (S (j+1)) Q u w→GN thr live (S j) (fun s=>f s fun o s=>BZ (Bp thr live f q kk) q o s) Q ⟨⟩)
  (hend:∀ kk,GN thr live (S n) (fun s=>f s fun o s=>BZ (Bp thr live f q kk) q o s) Q ⟨⟩) :
  GL thr live f q k s Q u w :=
 Iz S n (fun _=>true) hs hk (fun j kk hj _=>hstep j kk hj) (fun _ _ _ h=>by cases h) (fun kk _=>hend kk)
theorem Ge {live:List Nat} {f:St→(Out→St→Option Ans)→Option Ans} {q:Out→St→Option Ans} {k:Nat} {tm:Nat→V} {h:Hp} {n:Nat} {Q:V→Hp→Nat→Prop} {u:Dum f} {w:Dum q} (hs:(live.map tm).all (fun v=>v.slotO.isNone)=true) :
  GL 0 live f q k ⟨tm,h,n⟩ Q u w=GL 0 live f q k ⟨tm,Af,0⟩ Q u w:=by
 have e1:∀ (h:Hp) (vs:List V),vs.all (fun v=>v.slotO.isNone)=true→Gb 0 h vs=[]:=by
  intro h vs
  induction vs with
  | nil=>intro _;rfl
  | cons v r ih =>
   intro hv
   simp only [List.all_cons,Bool.and_eq_true] at hv
   simp only [Gb]
   cases hvo:v.slotO with
   | none=>exact ih hv.2
   | some o=>rw [hvo] at hv;simp at hv
 have e2:∀ (h h':Hp) (vs:List V) (m:Nat),vs.all (fun v=>v.slotO.isNone)=true→Is 0 h vs m=Is 0 h' vs m:=by
  intro h h' vs
  induction vs with
  | nil=>intro _ _;rfl
  | cons v r ih =>
   intro m hv
   simp only [List.all_cons,Bool.and_eq_true] at hv
   simp only [Is]
   cases hvo:v.slotO with
   | none=>simp only [hJ,ih m hv.2]
   | some o=>rw [hvo] at hv;simp at hv
 have e3:OA 0 live ⟨tm,h,n⟩=OA 0 live ⟨tm,Af,0⟩:=by
  simp only [OA,Zr,e1 _ _ hs,e2 h Af _ _ hs];rfl
 cases k with
 | zero=>rfl
 | succ k =>
  rw [gLs,gLs]
  simp only [GN,Hr,e3]
theorem DW {thr:Nat} {live:List Nat} {f:St→(Out→St→Option Ans)→Option Ans} {q:Out→St→Option Ans} {k:Nat} {s s':St} {Q:V→Hp→Nat→Prop} {u:Dum f} {w:Dum q} (h:GL thr live f q k s Q u w) (e:OA thr live s'=OA thr live s):GL thr live f q k s' Q u w:=by
 cases k with
 | zero=>exact h
 | succ k =>
  rw [gLs] at h ⊢
  simp only [GN,Hr] at h ⊢
  rw [e];exact h
theorem Db {C:Ctx} {j:Nat} {g:FuncId} {xs:List V} {hp:Hp} {n:Nat} {K:V→Hp→Nat→Option Ans} {Q:V→Hp→Nat→Prop} {u:Dum K} {nt:Nat} {rs:List ResultVar} {ts:List TypeId} {b:IR} {ow:List Bool} {inl:Bool} {cl:Option (Nat × Nat)} (hd:C.T g=some ⟨nt,rs,ts,b,ow,inl,cl⟩) (k:Nat)
  (h:Fin (evC C (Lv C j) (Aa (Lv C j)) k b ⟨Gk xs,hp,n⟩ (mD C.L rs ts)) (fun v h n=>Fin (K v h n) Q)):GI (Lv C (j+1) g xs hp n) K Q u:=by
 obtain ⟨v,h',n',h1,h2⟩:=h
 have h3:Lv C (j+1) g xs hp n=some (v,h',n'):=by
  refine kI (k:=k) ?_
  rw [Mv hd,← h1];rfl
 rw [h3]
 exact h2
end Ve
namespace Ve
open Go
theorem wQ (thr d:Nat) (l:List Ai) (k:Nat) (x:V) (hk:k<l.length):AC (AK thr (d+2)) ((l.map oS).set k x)=(AK thr (d+2) x).bind fun y=>.ret (((l.map oS).map vn).set k y) :=
 YO _ vn x _ _ (fun y hy=>by
  obtain ⟨s,_,rfl⟩:=List.mem_map.1 hy
  simp only [oS,ES,CB,DB,EC,Gu,Gv,By,List.map_cons,List.map_nil,List.flatten_cons,List.flatten_nil,List.append_nil,List.nil_append]) (by simpa using hk)
theorem rK (d:Nat) (l:List Ai) (k:Nat) (x:V) (hk:k<l.length):AC (AS (d+2)) ((l.map oS).set k x)=(AS (d+2) x).bind fun y=>.ret ((l.map (eS false)).set k y):=by
 have:=YO (AS (d+2)) (fun v=>v.bz) x (l.map oS) k (fun y hy=>by
  obtain ⟨s,_,rfl⟩:=List.mem_map.1 hy
  simp only [oS,YJ,PB,SS,YI,YH,Om,CB,DB,Mm,Wf,By]) (by simpa using hk)
 rw [this]
 congr 1
 funext y
 rw [List.map_map]
 congr 3
 funext s
 simp only [Function.comp,oS,eS,YJ,PB,SS,YI,YH,UO,mJ,WT]
theorem TY (L:List V) (k:Nat) (y:V × List Nat):List.map (fun x:V × List Nat=>x.1) ((L.map vn).set k y)=L.set k y.1:=by
 rw [List.map_set,Zy]
theorem TX (L:List V) (k:Nat) (y:V × List Nat) (hk:k<L.length):(List.map (fun x:V × List Nat=>x.2) ((L.map vn).set k y)).flatten=y.2:=by
 induction L generalizing k with
 | nil=>simp at hk
 | cons a l ih=>cases k with
  | zero=>simp only [List.map_cons,List.set_cons_zero,List.flatten_cons];rw [Zx];simp
  | succ k=>simp only [List.map_cons,List.set_cons_succ,List.flatten_cons];rw [ih k (by simpa using hk)];rfl
theorem Qo:∀ (l:List V) (k:Nat) (x:V),AD l=true→x.perm=true→AD (l.set k x)=true
 | [],_,_,_,_=>by simp [AD]
 | a::l,0,x,h,hx=>by simp only [FI,Bool.and_eq_true] at h;simp only [List.set_cons_zero,FI,hx,h.2,Bool.and_self]
 | a::l,k+1,x,h,hx=>by simp only [FI,Bool.and_eq_true] at h;simp only [List.set_cons_succ,FI,h.1,Qo l k x h.2 hx,Bool.and_self]
theorem Wn (l:List Ai) (k:Nat) (x:V) (hx:x.perm=true):AD ((l.map oS).set k x)=true:=Qo _ _ _ (TO l) hx
theorem NR:∀ (l:List V) (k:Nat) (x:V),bzs (l.set k x)=(bzs l).set k x.bz
 | [],_,_=>by simp [bzs]
 | a::l,0,x=>by simp [bzs]
 | a::l,k+1,x=>by simp [bzs,NR l k x]
attribute [go_sem] wQ rK TY TX Wn NR List.length_map
end Ve
