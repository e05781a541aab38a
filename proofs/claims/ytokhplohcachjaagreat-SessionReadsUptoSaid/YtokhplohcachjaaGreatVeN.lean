/- The evaluator's steps as rewriting rules. -/
import Derived.Test.YtokhplohcachjaaGreatVeM
import Derived.Attr
import Derived.Test.YtokhplohcachjaaGreatVeC
set_option linter.all false
set_option linter.unusedSectionVars false
namespace Ve
open Go
section
variable {R:Type}
@[congr] theorem bindP_congr {v v':Option V} {k:V→Option R} (e:v=v'):Fp v k=Fp v' k:=by rw [e]
@[congr] theorem bindM_congr {m m':AM Eff} {h:Hp} {n:Nat} {k:V→Hp→Nat→Option R} (e:m=m'):Hx m h n k=Hx m' h n k:=by rw [e]
@[congr] theorem bindR_congr {m m':AM Eff} {h:Hp} {n i:Nat} {rcs:List Rec} {k:V→Hp→Nat→List Rec→Option R} (e:m=m'):KE m h n i rcs k=KE m' h n i rcs k:=by rw [e]
@[congr] theorem bindI_congr {x x':Option (V × Hp × Nat)} {k:V→Hp→Nat→Option R} (e:x=x'):Ju x k=Ju x' k:=by rw [e]
@[congr] theorem condK_congr {b b':Option Bool} {x y:Option R} (e:b=b'):OJ b x y=OJ b' x y:=by rw [e]
@[congr] theorem heapK_congr {bef:List (List Nat)} {rcs rcs':List Rec} {x:Option R} (e:rcs=rcs'):HT bef rcs x=HT bef rcs' x:=by rw [e]
theorem bindP_some (v:V) (k:V→Option R):Fp (some v) k=k v:=rfl
def Tq (b:Bool) (x y:Option R):Option R :=
 match b with
 | true=>x
 | false=>y
@[congr] theorem splitK_congr {b b':Bool} {x y:Option R} (e:b=b'):Tq b x y=Tq b' x y:=by rw [e]
theorem splitK_true (x y:Option R):Tq true x y=x:=rfl
def DE (m:AM Eff) (h:Hp) (n i:Nat) (ro:List Nat) (rcs:List Rec) (k:V→Hp→Nat→List Rec→Option R):Option R :=
 match m.run h with
 | some x=>k x.v (As h x.upd) (n+x.new) (EL i (ro++m.reads h) (x.upd.map (·.1)) rcs)
 | none=>none
@[congr] theorem bindR'_congr {m m':AM Eff} {h:Hp} {n i:Nat} {ro:List Nat} {rcs:List Rec} {k:V→Hp→Nat→List Rec→Option R} (e:m=m'):DE m h n i ro rcs k=DE m' h n i ro rcs k:=by rw [e]
theorem dO (m:AM Eff) (h:Hp) (n i:Nat) (rcs:List Rec) (k:V→Hp→Nat→List Rec→Option R):KE m h n i rcs k=DE m h n i [] rcs k:=KD m h n i rcs k
theorem JL (x:Eff) (h:Hp) (n i:Nat) (ro:List Nat) (rcs:List Rec) (k:V→Hp→Nat→List Rec→Option R):DE (.ret x) h n i ro rcs k=k x.v (As h x.upd) (n+x.new) (EL i ro (x.upd.map (·.1)) rcs):=by
 simp [DE,AM.run,AM.reads]
theorem Ny (o:Nat) (f:Option Obj→AM Eff) (h:Hp) (n i:Nat) (ro:List Nat) (rcs:List Rec) (k:V→Hp→Nat→List Rec→Option R):DE (.rdo o f) h n i ro rcs k=DE (f (h o)) h n i (ro++[o]) rcs k:=by
 simp [DE,AM.run,AM.reads]
end
theorem eL (h:Hp):As h []=h:=rfl
theorem YQ (h:Hp) (o:Nat) (x:Option Obj) (r:List (Nat × Option Obj)):As h ((o,x)::r)=As (Fh h o x) r:=rfl
theorem tM {α:Type} (o:Nat) (k:Obj→AM α):AM.rd o k=.rdo o fun | some ob=>k ob | none=>.fail:=rfl
theorem Cb {α β:Type} (a:α) (f:α→AM β):(AM.ret a).bind f=f a:=rfl
theorem dN {α β:Type} (o:Nat) (k:Option Obj→AM α) (f:α→AM β):(AM.rdo o k).bind f=.rdo o fun ob=>(k ob).bind f:=rfl
theorem kI (L:Lay) (t:TypeId) (cs:List V):Bq L t (.agg cs)=.agg cs:=by simp [Bq,V.isNil]
theorem kH (L:Lay) (t:TypeId) (k:IntKind) (n:Int):Bq L t (.lit (.int k n))=.lit (.int k n):=by simp [Bq,V.isNil]
theorem cG (L:Lay) (t:TypeId) (b:Bool):Bq L t (.lit (.bool b))=.lit (.bool b):=by simp [Bq,V.isNil]
theorem qY (L:Lay) (t:TypeId) (o:Nat):Bq L t (.sl o)=.sl o:=by simp [Bq,V.isNil]
theorem kG (L:Lay) (t:TypeId) (p nn:Bool) (sz:Nat) (els:List V):Bq L t (.isl p nn sz els)=.isl p nn sz els:=by simp [Bq,V.isNil]
theorem kF (L:Lay) (t:TypeId) (sz:Nat) (els:List V):Bq L t (.own sz els)=.own sz els:=by simp [Bq,V.isNil]
theorem kE (L:Lay) (t:TypeId) (o i f:Nat):Bq L t (.ptr o i f)=.ptr o i f:=by simp [Bq,V.isNil]
theorem qZ (L:Lay) (t:TypeId) (p:Bool) (row:List V) (f:Nat):Bq L t (.ip p row f)=.ip p row f:=by simp [Bq,V.isNil]
section
variable {L:Lay} {t:TypeId} {k:IntKind} {a b:Int}
theorem lT:Bu L .add t (.lit (.int k a)) (.lit (.int k b))=some (.lit (.int k (k.wrap (a+b)))):=by simp [Bu,binOp,Op.intArith,Op.intCmp];rfl
theorem lK:Bu L .sub t (.lit (.int k a)) (.lit (.int k b))=some (.lit (.int k (k.wrap (a - b)))):=by simp [Bu,binOp,Op.intArith,Op.intCmp];rfl
theorem lM:Bu L .mul t (.lit (.int k a)) (.lit (.int k b))=some (.lit (.int k (k.wrap (a*b)))):=by simp [Bu,binOp,Op.intArith,Op.intCmp];rfl
theorem lN:Bu L .lss t (.lit (.int k a)) (.lit (.int k b))=some (.lit (.bool (decide (a<b)))):=by simp [Bu,binOp,Op.intArith,Op.intCmp];rfl
theorem lO:Bu L .leq t (.lit (.int k a)) (.lit (.int k b))=some (.lit (.bool (decide (a≤b)))):=by simp [Bu,binOp,Op.intArith,Op.intCmp];rfl
theorem lP:Bu L .gtr t (.lit (.int k a)) (.lit (.int k b))=some (.lit (.bool (decide (b<a)))):=by simp [Bu,binOp,Op.intArith,Op.intCmp];rfl
theorem lQ:Bu L .geq t (.lit (.int k a)) (.lit (.int k b))=some (.lit (.bool (decide (b≤a)))):=by simp [Bu,binOp,Op.intArith,Op.intCmp];rfl
theorem lR:Bu L .eql t (.lit (.int k a)) (.lit (.int k b))=some (.lit (.bool (decide (a=b)))):=by simp [Bu,binOp,Op.intArith,Op.intCmp];rfl
theorem lL:Bu L .neq t (.lit (.int k a)) (.lit (.int k b))=some (.lit (.bool (!decide (a=b)))):=by simp [Bu,binOp,Op.intArith,Op.intCmp];rfl
theorem mU {x:Bool}:XP .not (.lit (.bool x))=some (.lit (.bool !x)):=rfl
end
section
variable {R:Type}
def EA (O:Orc) (x:OpK) (g:Option Bool) (h:Hp) (n:Nat) (k:V→Hp→Nat→Option R):Option R :=
 match x with
 | .p v=>Fp (Iu g v) fun v=>k v h n
 | .m m=>Hx (Dm g m) h n k
 | .i f xs=>Ju (Iv g h n (O f xs h n)) k
@[congr] theorem stepO_congr {O:Orc} {x x':OpK} {g g':Option Bool} {h:Hp} {n:Nat} {k:V→Hp→Nat→Option R} (e:x=x') (e':g=g'):EA O x g h n k=EA O x' g' h n k:=by rw [e,e']
theorem runOps_nil (L:Lay) (T:Tbl) (O:Orc) (P:FuncId→List V→Option V) (s:St) (k:St→Option R):Cf L T O P [] s k=k s:=rfl
theorem Rv (L:Lay) (T:Tbl) (O:Orc) (P:FuncId→List V→Option V) (o:IOp) (r:List IOp) (tm:Nat→V) (h:Hp) (n:Nat) (k:St→Option R) :
  Cf L T O P (o::r) ⟨tm,h,n⟩ k=EA O (opK L T P (eV tm) n o.frz o.op) (CH tm o.guard) h n fun v h n=>Cf L T O P r ⟨GQ tm o.dst v,h,n⟩ k:=by
 simp only [Cf,EA]
 cases opK L T P (eV tm) n o.frz o.op<;>rfl
theorem DK (O:Orc) (x:OpK) (h:Hp) (n:Nat) (k:V→Hp→Nat→Option R):EA O x (some false) h n k=k Bn h n:=by
 cases x<;>simp [EA,Iu,Dm,Iv,Fp,Hx,Ju,AM.run,As]
def Lh (x:OpK) (g:Option Bool) (h:Hp) (n i:Nat) (rcs:List Rec) (k:V→Hp→Nat→List Rec→Option R):Option R :=
 match x with
 | .p v=>Fp (Iu g v) fun v=>k v h n rcs
 | .m m=>KE (Dm g m) h n i rcs k
 | .i _ _=>none
@[congr] theorem stepD_congr {x x':OpK} {g g':Option Bool} {h:Hp} {n i:Nat} {rcs:List Rec} {k:V→Hp→Nat→List Rec→Option R} (e:x=x') (e':g=g'):Lh x g h n i rcs k=Lh x' g' h n i rcs k:=by rw [e,e']
theorem runDraw_nil (L:Lay) (T:Tbl) (P:FuncId→List V→Option V) (i:Nat) (s:St) (rcs:List Rec) (k:St→List Rec→Option R):Bz L T P i [] s rcs k=k s rcs:=rfl
theorem Po (L:Lay) (T:Tbl) (P:FuncId→List V→Option V) (i:Nat) (o:IOp) (r:List IOp) (tm:Nat→V) (h:Hp) (n:Nat) (rcs:List Rec) (k:St→List Rec→Option R) :
  Bz L T P i (o::r) ⟨tm,h,n⟩ rcs k=Lh (opK L T P (eV tm) n o.frz o.op) (CH tm o.guard) h n i rcs fun v h n rcs=>Bz L T P (i+1) r ⟨GQ tm o.dst v,h,n⟩ rcs k:=by
 simp only [Bz,Lh]
 cases opK L T P (eV tm) n o.frz o.op<;>rfl
theorem Tp (m:AM Eff) (h:Hp) (n i:Nat) (rcs:List Rec) (k:V→Hp→Nat→List Rec→Option R):Lh (.m m) (some false) h n i rcs k=k Bn h n rcs:=by
 simp [Lh,Dm,KD,AM.run,AM.reads,As,EL]
theorem Xe (tm:Nat→V):CH tm none=some true:=rfl
theorem Xd (tm:Nat→V) (t:Tmp) (b:Bool):CH tm (some (t,b))=Jh (tm t) b:=rfl
theorem Jw (c:Bool):Jh (.lit (.bool c)) true=some c:=by cases c<;>rfl
theorem HX (c:Bool):Jh (.lit (.bool c)) false=some !c:=by cases c<;>rfl
theorem Fb (b:Bool):Jh Bn b=some false:=rfl
theorem Xj (tm:Nat→V) (t:Tmp) (v:V):GQ tm (some t) v=Tm tm t v:=rfl
theorem Xk (tm:Nat→V) (v:V):GQ tm none v=tm:=rfl
theorem eN (tm:Nat→V) (d:Nat) (v:V) (i:Nat):Tm tm d v i=if i=d then v else tm i:=by
 by_cases e:i=d
 ·simp [Tm,e]
 ·have:Nat.beq i d=false:=by
   cases hb:Nat.beq i d with
   | false=>rfl
   | true=>exact absurd (Nat.eq_of_beq_eq_true hb) e
  simp [Tm,this,e]
theorem LT (h:Hp) (d:Nat) (v:Option Obj) (i:Nat):Fh h d v i=if i=d then v else h i:=by
 by_cases e:i=d
 ·simp [Fh,e]
 ·simp [Cp,e]
theorem RM (i:Nat) (is:List Nat) (v:V) (vs:List V) (j:Nat):Ae (i::is) (v::vs) j=if j=i then v else Ae is vs j:=rfl
theorem YZ (v:V) (r:List V):Fu (v::r) 0=v:=rfl
theorem YY (a v:V) (r:List V):Fu (a::v::r) 1=v:=rfl
theorem YX (a b v:V) (r:List V):Fu (a::b::v::r) 2=v:=rfl
theorem YW (a b c v:V) (r:List V):Fu (a::b::c::v::r) 3=v:=rfl
theorem YV (a b c d v:V) (r:List V):Fu (a::b::c::d::v::r) 4=v:=rfl
theorem YU (a b c d e v:V) (r:List V):Fu (a::b::c::d::e::v::r) 5=v:=rfl
section
variable (C:Ctx) (O:Orc) (P:FuncId→List V→Option V) (k:Nat) (s:St) (q:Out→St→Option R)
theorem kJ {ops:List IOp} {bef:List (List Nat)} (h:HB bef 0 ops=true):evC C O P k (.region ops (some bef)) s q=Bz C.L C.T P 0 ops s [] fun s rcs=>HT bef rcs (q .normal s):=by simp [evC,h]
end
theorem SX (i:Nat) (q:Out→St→Option R) (j:Nat) (s:St):De i q (.exit j) s=if j=i then q .normal s else q (.exit j) s:=by
 simp only [De]
 by_cases e:j=i
 ·simp [e]
 ·have:Nat.beq j i=false:=by
   cases hb:Nat.beq j i with
   | false=>rfl
   | true=>exact absurd (Nat.eq_of_beq_eq_true hb) e
  simp [this,e]
theorem Zp (live:List Nat) (tm:Nat→V) (h:Hp) (n:Nat):EM live ⟨tm,h,n⟩=⟨Ae live (live.map tm),h,n⟩:=rfl
@[congr] theorem normK_congr {thr:Nat} {live:List Nat} {s s':St} {k:St→Option R} (e:s=s'):Gh thr live s k=Gh thr live s' k:=by rw [e]
@[congr] theorem evLoop_congr {thr:Nat} {live:List Nat} {f:St→(Out→St→Option R)→Option R} {q:Out→St→Option R} {k:Nat} {s s':St} (e:s=s'):Bg thr live f q k s=Bg thr live f q k s':=by rw [e]
@[congr] theorem evC_congr {C:Ctx} {O:Orc} {P:FuncId→List V→Option V} {k:Nat} {b:IR} {s s':St} {q:Out→St→Option R} (e:s=s'):evC C O P k b s q=evC C O P k b s' q:=by rw [e]
@[congr] theorem runOps_congr {L:Lay} {T:Tbl} {O:Orc} {P:FuncId→List V→Option V} {ops:List IOp} {s s':St} {k:St→Option R} (e:s=s'):Cf L T O P ops s k=Cf L T O P ops s' k:=by rw [e]
end
attribute [go_sem] Zp
attribute [go_sem] Xe Xd Jw HX Fb Xj Xk eN LT RM YZ YY YX YW YV YU
section
variable (L:Lay) (T:Tbl) (P:FuncId→List V→Option V) (e:Operand→V) (n:Nat) (z:Bool)
theorem qC (x:Operand):opK L T P e n z (.move x)=.p (some (e x)):=rfl
theorem bL (x:Operand):opK L T P e n z (.assign x)=.p (some (e x)):=rfl
theorem qB (c a b:Operand):opK L T P e n z (.pick c a b)=.p (Mx (e c) (e a) (e b)):=rfl
theorem jN (t:TypeId):opK L T P e n z (.alloc t)=.m (GA L n t):=rfl
theorem qG (t:TypeId) (x:Operand):opK L T P e n true (.box t x)=.m (Ip L t (e x)):=rfl
theorem qH (t:TypeId) (x:Operand):opK L T P e n false (.box t x)=.m (Jm L n t (e x)):=rfl
theorem jM (t:TypeId) (ps:Array (Nat × Operand)):opK L T P e n z (.build t ps)=.p (Kd L t (ps.toList.map fun p=>(p.1,e p.2))):=rfl
theorem PK (t:TypeId) (len:Nat) (ps:Array (Nat × Operand)):opK L T P e n z (.buildSlice t len ps)=.m (Cw L n t len (ps.toList.map fun p=>(p.1,e p.2))):=rfl
theorem qD (t:TypeId) (x:Operand):opK L T P e n z (.load t x)=.m (Ge L n t (e x)):=rfl
theorem jI (t:TypeId) (x v:Operand):opK L T P e n z (.store t x v)=.m (JZ L t (e x) (e v)):=rfl
theorem TP (x:Operand):opK L T P e n z (.nilCheck x)=.p (Gd (e x)):=rfl
theorem vB (op:BinOp) (t:TypeId) (x y:Operand) (u:TypeId):opK L T P e n z (.binOp op t x y u)=.p (Bu L op t (e x) (e y)):=rfl
theorem k_un (op:UnOp) (t:TypeId) (x:Operand):opK L T P e n z (.unOp op t x)=.p (XP op (e x)):=rfl
theorem Yg (s d:TypeId) (x:Operand):opK L T P e n z (.convert s d x)=.p (BA L s d (e x)):=rfl
theorem TQ (f:Fn) (a b:Array Operand):opK L T P e n z (.makeFunc f a b)=.p (some (.fn f (a.toList.map e) (b.toList.map e))):=rfl
theorem jJ (t:TypeId) (x:Operand) (lo hi mx:Option Operand):opK L T P e n z (.slice t x lo hi mx)=.p (Ka L t (e x) (lo.map e) (hi.map e) (mx.map e)):=rfl
theorem Se (s:TypeId) (x:Operand) (f:Nat):opK L T P e n z (.fieldAddr s x f)=.p (Fi L s (e x) f):=rfl
theorem Sd (t:TypeId) (x i:Operand):opK L T P e n false (.indexAddr t x i)=.m (Dx L t (e x) (e i)):=rfl
theorem PJ (t:TypeId) (x i:Operand):opK L T P e n true (.indexAddr t x i)=.m (EC L n t (e x) (e i)):=rfl
theorem jL (t:TypeId) (x:Operand) (f:Nat):opK L T P e n z (.field t x f)=.p (Kc L t (e x) f):=rfl
theorem jK (t:TypeId) (x i:Operand):opK L T P e n z (.index t x i)=.p (Kb L t (e x) (e i)):=rfl
theorem Yf (x:Operand) (i:Nat):opK L T P e n z (.extract x i)=.p (Hl (e x) i):=rfl
theorem vA (x:Operand) (t:TypeId):opK L T P e n z (.call { callee:=.builtin .len,args:=#[x],argTypes:=#[t] })=.m (MM (e x)):=rfl
theorem uY (xs:Array Operand) (ts:Array TypeId):opK L T P e n z (.call { callee:=.builtin .min,args:=xs,argTypes:=ts })=.p (MI (xs.toList.map e)):=rfl
theorem Yh (xs:Array Operand) (ts:Array TypeId):opK L T P e n z (.call { callee:=.builtin .complex,args:=xs,argTypes:=ts })=.p (IB (xs.toList.map e)):=rfl
theorem qA (xs:Array Operand) (ts:Array TypeId):opK L T P e n z (.call { callee:=.builtin .real,args:=xs,argTypes:=ts })=.p (Rz (xs.toList.map e)):=rfl
theorem qE (xs:Array Operand) (ts:Array TypeId):opK L T P e n z (.call { callee:=.builtin .imag,args:=xs,argTypes:=ts })=.p (Si (xs.toList.map e)):=rfl
theorem uZ (xs:Array Operand) (ts:Array TypeId):opK L T P e n z (.call { callee:=.builtin .max,args:=xs,argTypes:=ts })=.p (MK (xs.toList.map e)):=rfl
theorem bM (s x:Operand) (t:TypeId):opK L T P e n z (.call { callee:=.builtin .append,args:=#[s,x],argTypes:=#[t,t] })=.m (Fj L n t (e s) (e x)):=by
 show (match Nat.beq t t with
  | true=>OpK.m (Fj L n t (e s) (e x))
  | false=>.p none)=_
 rw [Nat.beq_refl]
theorem qF (f:Operand) (xs:Array Operand) (ts:Array TypeId):opK L T P e n z (.call { callee:=.value f,args:=xs,argTypes:=ts })=Fw T P n z (e f) (xs.toList.map e):=rfl
end
attribute [go_sem] qC bL qB jN qG qH jM PK qD jI TP vB k_un Yg TQ jJ Se Sd PJ EC jK jL Yf vA uY Yh qA qE uZ bM qF
theorem rE (tm:Nat→V) (t:Tmp):eV tm (.tmp t)=tm t:=rfl
theorem cK (tm:Nat→V) (v:Value):eV tm (.const v)=.lit v:=rfl
theorem kP (tm:Nat→V) (f:FuncId):eV tm (.func f)=.fn (.func f) [] []:=rfl
attribute [go_sem] rE cK kP List.map_cons List.map_nil List.toList_toArray Option.map_some Option.map_none
attribute [go_sem] eL YQ tM Cb dN kI kH cG qY kG kF kE qZ lT lK lM lN lO lP lQ lR lL mU
attribute [go_sem] Gd Fi Kc PX EG MM Dz V.int? V.bool? Mx Hl
theorem KV {C:Ctx} {O:Orc} {k f:Nat} {args:List V} {hp:Hp} {n:Nat} {d:IFn} (h:C.T f=some d):Em C O k f args hp n=evC C O (Aa O) k d.body ⟨Fu args,hp,n⟩ (vT C.L d):=by simp [Em,h]
abbrev Ah (T:Tbl) (g:Nat) (owns:List Bool):Prop:=∀ (P:FuncId→List V→Option V) (n:Nat) (z:Bool) (a c args:List V),Fw T P n z (.fn (.func g) a c) args=.m (Dy P owns n z g (a++args++c))
abbrev WX (T:Tbl) (g:Nat):Prop:=∀ (P:FuncId→List V→Option V) (n:Nat) (z:Bool) (a c args:List V),Fw T P n z (.fn (.func g) a c) args=.i g (a++args++c)
abbrev a0c (T:Tbl) (g sz by_:Nat):Prop:=∀ (P:FuncId→List V→Option V) (n:Nat) (z:Bool) (s i v:V),Fw T P n z (.fn (.func g) [] []) [s,i,v]=.m (Gf n sz by_ s i v)
abbrev Pb (T:Tbl) (g sz by_:Nat):Prop:=∀ (P:FuncId→List V→Option V) (n:Nat) (z:Bool) (v:V),Fw T P n z (.fn (.func g) [] []) [v]=.m (HF n sz by_ v)
def Fin (x:Option Ans) (Q:V→Hp→Nat→Prop):Prop:=∃ v h n,x=some (v,h,n)∧Q v h n
theorem Sx (v:V) (h:Hp) (n:Nat) (Q:V→Hp→Nat→Prop):Fin (some (v,h,n)) Q=Q v h n:=by
 refine propext ⟨fun ⟨v',h',n',e,hq⟩=>?_,fun hq=>⟨v,h,n,rfl,hq⟩⟩
 cases e;exact hq
def ClQ (r v:V) (h:Hp) (_:Nat):Prop :=
 match (AI 0 depth v).run h with
 | some (v',ks)=>ks.Nodup∧v'.perm=true∧v'.nice=true∧v'=r
 | none=>False
def cJ (L:Lay) (rs:List ResultVar) (ts:List TypeId):Out→St→Option Ans
 | .normal,s=>Cm L s.tm rs ts s.hp s.n fun vs hp n=>some (Dc vs,hp,n)
 | .ret,s=>Cm L s.tm rs ts s.hp s.n fun vs hp n=>some (Dc vs,hp,n)
 | _,_=>none
theorem tT (v:V):Dc [v]=v:=rfl
theorem tU:Dc []=.tup []:=rfl
theorem tS (a b:V) (r:List V):Dc (a::b::r)=.tup (a::b::r):=rfl
attribute [go_sem] Sx tU tT tS
theorem Ac {C:Ctx} {j:Nat} {g:FuncId} {xs:List V} {r:V} {nt:Nat} {rs:List ResultVar} {ts:List TypeId} {b:IR} {ow:List Bool} {inl:Bool} {cl:Option (Nat × Nat)} (hd:C.T g=some ⟨nt,rs,ts,b,ow,inl,cl⟩) (k:Nat)
  (hx:xs.all V.nice1=true)
  (h:Fin (evC C (Lv C j) (Aa (Lv C j)) k b ⟨Fu (Bi 0 xs).1,TT (Bi 0 xs).2,(Bi 0 xs).2.length⟩ (cJ C.L rs ts)) (ClQ r)):Aa (Lv C (j+1)) g xs=some r:=by
 obtain ⟨v,hp,n,h1,h2⟩:=h
 have h3:Em C (Lv C j) k g (Bi 0 xs).1 (TT (Bi 0 xs).2) (Bi 0 xs).2.length=some (v,hp,n):=by
  rw [KV hd,← h1];rfl
 have h4:=Vd h3
 simp only [ClQ] at h2
 simp only [Aa,h4]
 split at h2
 ·rename_i v' ks hc
  rw [hc]
  obtain ⟨a,b,c,rfl⟩:=h2
  simp only [a,b,c,hx,and_self,if_true]
 ·exact h2.elim
theorem iI (n:Nat):Bi n []=([],[]):=rfl
theorem iJ (n:Nat) (v:Value) (r:List V):Bi n (.lit v::r)=(.lit v::(Bi n r).1,(Bi n r).2):=rfl
theorem iK (n:Nat) (p nn:Bool) (sz:Nat) (els:List V) (r:List V):Bi n (.isl p nn sz els::r)=(.isl p nn sz els::(Bi n r).1,(Bi n r).2):=rfl
theorem oY (n:Nat) (p:Bool) (row:List V) (off:Nat) (r:List V):Bi n (.ip p row off::r)=(.ip p row off::(Bi n r).1,(Bi n r).2):=rfl
theorem oZ (n:Nat) (f:Fn) (a b:List V) (r:List V):Bi n (.fn f a b::r)=(.fn f a b::(Bi n r).1,(Bi n r).2):=rfl
theorem iH (n:Nat) (sz:Nat) (els:List V) (r:List V):Bi n (.own sz els::r)=(.sl n::(Bi (n+1) r).1,⟨sz,els,false⟩::(Bi (n+1) r).2):=rfl
theorem iL (n:Nat) (cs:List V) (r:List V):Bi n (.agg cs::r)=(.agg (Ak n cs).1::(Bi (n+(Ak n cs).2.length) r).1,(Ak n cs).2++(Bi (n+(Ak n cs).2.length) r).2):=rfl
theorem pH (n:Nat):Ak n []=([],[]):=rfl
theorem pI (n:Nat) (v:Value) (r:List V):Ak n (.lit v::r)=(.lit v::(Ak n r).1,(Ak n r).2):=rfl
theorem pJ (n:Nat) (p nn:Bool) (sz:Nat) (els:List V) (r:List V):Ak n (.isl p nn sz els::r)=(.isl p nn sz els::(Ak n r).1,(Ak n r).2):=rfl
theorem tZ (n o:Nat) (r:List V):Ak n (.sl o::r)=(.sl o::(Ak n r).1,(Ak n r).2):=rfl
theorem uA (n:Nat) (p:Bool) (row:List V) (off:Nat) (r:List V):Ak n (.ip p row off::r)=(.ip p row off::(Ak n r).1,(Ak n r).2):=rfl
theorem pF (n o i f:Nat) (r:List V):Ak n (.ptr o i f::r)=(.ptr o i f::(Ak n r).1,(Ak n r).2):=rfl
theorem uB (n:Nat) (f:Fn) (a b:List V) (r:List V):Ak n (.fn f a b::r)=(.fn f a b::(Ak n r).1,(Ak n r).2):=rfl
theorem pG (n:Nat) (sz:Nat) (els:List V) (r:List V):Ak n (.own sz els::r)=(.sl n::(Ak (n+1) r).1,⟨sz,els,false⟩::(Ak (n+1) r).2):=rfl
theorem pB (n:Nat) (v:Value):Hk n (.lit v)=(.lit v,[]):=rfl
theorem pC (n:Nat) (p nn:Bool) (sz:Nat) (els:List V):Hk n (.isl p nn sz els)=(.isl p nn sz els,[]):=rfl
theorem tW (n:Nat) (f:Fn) (a b:List V):Hk n (.fn f a b)=(.fn f a b,[]):=rfl
theorem tV (n:Nat) (p:Bool) (row:List V) (off:Nat):Hk n (.ip p row off)=(.ip p row off,[]):=rfl
theorem pA (n:Nat) (sz:Nat) (els:List V):Hk n (.own sz els)=(.sl n,[⟨sz,els,false⟩]):=rfl
theorem pD (n:Nat) (cs:List V):Hk n (.agg cs)=(.agg (Ak n cs).1,(Ak n cs).2):=rfl
theorem qL (n:Nat) (vs:List V):Dq n (.tup vs)=(.tup (Bi n vs).1,(Bi n vs).2):=rfl
theorem qN (n:Nat) (v:Value):Dq n (.lit v)=(.lit v,[]):=rfl
theorem qO (n:Nat) (p nn:Bool) (sz:Nat) (els:List V):Dq n (.isl p nn sz els)=(.isl p nn sz els,[]):=rfl
theorem vG (n:Nat) (f:Fn) (a b:List V):Dq n (.fn f a b)=(.fn f a b,[]):=rfl
theorem qM (n:Nat) (sz:Nat) (els:List V):Dq n (.own sz els)=(.sl n,[⟨sz,els,false⟩]):=rfl
theorem qP (n:Nat) (cs:List V):Dq n (.agg cs)=(.agg (Ak n cs).1,(Ak n cs).2):=rfl
theorem iM (n:Nat):CO n []=[]:=rfl
theorem aI (n:Nat) (o:Obj) (r:List Obj):CO n (o::r)=(n,some o)::CO (n+1) r:=rfl
attribute [go_sem] iI iJ iK oY oZ iH iL pH pI pJ tZ uA pF uB pG pB pC tW tV pA pD qL qN qO vG qM qP iM aI TT
attribute [go_sem] List.getElem?_cons_zero List.getElem?_cons_succ List.take_succ_cons List.take_zero List.drop_succ_cons List.drop_zero List.length_cons List.length_nil List.headD_cons List.cons_append List.nil_append List.append_nil List.set_cons_zero List.set_cons_succ List.tail_cons List.flatten_nil List.flatten_cons List.length_map V.cells V.withCells List.contains_nil
theorem qV (v:Value):V.fz (.lit v)=.lit v:=by simp [V.fz]
theorem qW (p nn:Bool) (sz:Nat) (els:List V):V.fz (.isl p nn sz els)=.isl p nn sz els:=by simp [V.fz]
theorem qU (sz:Nat) (els:List V):V.fz (.own sz els)=.isl true false sz (fzs els):=by simp [V.fz]
theorem qX (cs:List V):V.fz (.agg cs)=.agg (fzs cs):=by simp [V.fz]
theorem qS (cs:List V):V.fz (.tup cs)=.tup (fzs cs):=by simp [V.fz]
theorem kD:fzs []=[]:=by simp [fzs]
theorem cC (v:V) (r:List V):fzs (v::r)=v.fz::fzs r:=by simp [fzs]
theorem Up (v:Value):V.bz (.lit v)=.lit v:=by simp [V.bz]
theorem sF (p nn:Bool) (sz:Nat) (els:List V):V.bz (.isl p nn sz els)=.isl p nn sz els:=by simp [V.bz]
theorem Uo (sz:Nat) (els:List V):V.bz (.own sz els)=.isl false false sz (bzs els):=by simp [V.bz]
theorem Uq (cs:List V):V.bz (.agg cs)=.agg (bzs cs):=by simp [V.bz]
theorem QQ:bzs []=[]:=by simp [bzs]
theorem Nt (v:V) (r:List V):bzs (v::r)=v.bz::bzs r:=by simp [bzs]
theorem GB {α:Type} (f g:α→V) (h:∀ x,(f x).fz=g x):∀ l:List α,fzs (l.map f)=l.map g
 | []=>by simp [fzs]
 | a::l=>by simp [fzs,h,GB f g h l]
theorem GG {α:Type} (f g:α→V) (h:∀ x,(f x).bz=g x):∀ l:List α,bzs (l.map f)=l.map g
 | []=>by simp [bzs]
 | a::l=>by simp [bzs,h,GG f g h l]
theorem vU (l:List Ao):fzs (l.map eW)=l.map eW:=GB _ _ (fun _=>by simp [eW,V.fz,fzs]) l
theorem cQ (l:List AF):fzs (l.map eI)=l.map eI:=GB _ _ (fun _=>by simp [eI,V.fz,fzs]) l
theorem cN (l:List AH):fzs (l.map eR)=l.map eR:=GB _ _ (fun _=>by simp [eR,V.fz,fzs]) l
theorem Ub (l:List Ai):fzs (l.map eWr)=l.map eWr:=GB _ _ (fun _=>by simp [eWr,V.fz,fzs]) l
theorem vW (l:List Ba):fzs (l.map eE)=l.map eE:=GB _ _ (fun _=>by simp [eE,V.fz,fzs]) l
theorem rF (l:List EO):fzs (l.map eSl)=l.map eSl:=GB _ _ (fun _=>by simp [eSl,V.fz,fzs]) l
theorem tX (l:List Ag):fzs (l.map oS)=l.map (eS true):=GB _ _ (fun _=>by simp [oS,eS,V.fz,fzs,cQ,cN,Ub]) l
theorem pE (x:Ag):(oS x).fz=eS true x:=by simp [oS,eS,V.fz,fzs,cQ,cN,Ub]
theorem vV (l:List Ao):bzs (l.map eW)=l.map eW:=GG _ _ (fun _=>by simp [eW,V.bz,bzs]) l
theorem cR (l:List AF):bzs (l.map eI)=l.map eI:=GG _ _ (fun _=>by simp [eI,V.bz,bzs]) l
theorem cP (l:List AH):bzs (l.map eR)=l.map eR:=GG _ _ (fun _=>by simp [eR,V.bz,bzs]) l
theorem Uc (l:List Ai):bzs (l.map eWr)=l.map eWr:=GG _ _ (fun _=>by simp [eWr,V.bz,bzs]) l
theorem vX (l:List Ba):bzs (l.map eE)=l.map eE:=GG _ _ (fun _=>by simp [eE,V.bz,bzs]) l
theorem rG (l:List EO):bzs (l.map eSl)=l.map eSl:=GG _ _ (fun _=>by simp [eSl,V.bz,bzs]) l
theorem tY (l:List Ag):bzs (l.map oS)=l.map (eS false):=GG _ _ (fun _=>by simp [oS,eS,V.bz,bzs,cR,cP,Uc]) l
attribute [go_sem] qV qW qU qX qS kD cC Up sF Uo Uq QQ Nt vU cQ cN Ub vW rF tX pE vV cR cP Uc vX rG tY
theorem Gp {α β:Type} (f:α→AM β):AD f []=.ret []:=rfl
theorem EK {α β:Type} (f:α→AM β) (a:α) (r:List α):AD f (a::r)=(f a).bind fun b=>(AD f r).bind fun bs=>.ret (b::bs):=rfl
theorem dT {α β γ:Type} (f:β→AM γ) (g:α→β) (e:α→γ) (h:∀ x,f (g x)=.ret (e x)):∀ l:List α,AD f (l.map g)=.ret (l.map e)
 | []=>rfl
 | a::l=>by simp [AD,h,dT f g e h l,Cb]
theorem Nw {α β γ:Type} (m:AM α) (f:α→AM β) (g:β→AM γ):(m.bind f).bind g=m.bind fun a=>(f a).bind g:=by
 induction m with
 | ret a=>rfl
 | fail=>rfl
 | rdo o k ih=>simp only [AM.bind];congr 1;funext ob;exact ih ob
theorem dS {β γ:Type} (f:β→AM γ) (g:β→γ):∀ l:List β,(∀ y∈l,f y=.ret (g y))→AD f l=.ret (l.map g)
 | [],_=>rfl
 | a::l,h=>by simp [AD,h a (by simp),dS f g l (fun y hy=>h y (by simp [hy])),Cb]
theorem Uu {β γ:Type} (f:β→AM γ) (g:β→γ) (x:β):∀ (l:List β) (i:Nat),(∀ y∈l,f y=.ret (g y))→i<l.length→AD f (l.set i x)=(f x).bind fun y=>.ret ((l.map g).set i y)
 | [],i,_,hi=>by simp at hi
 | a::l,0,h,_=>by
  simp [AD,dS f g l (fun y hy=>h y (by simp [hy])),Cb]
 | a::l,i+1,h,hi=>by
  have ih:=Uu f g x l i (fun y hy=>h y (by simp [hy])) (by simpa using hi)
  simp only [List.set_cons_succ,AD,h a (by simp),Cb,ih,List.map_cons,Nw]
theorem Zu (d:Nat) (v:Value):AQ (d+1) (.lit v)=.ret (.lit v):=rfl
theorem oJ (d:Nat) (p nn:Bool) (sz:Nat) (els:List V):AQ (d+1) (.isl p nn sz els)=.ret (.isl p nn sz els):=rfl
theorem tK (d:Nat) (p:Bool) (row:List V) (off:Nat):AQ (d+1) (.ip p row off)=.ret (.ip p row off):=rfl
theorem Zt (d:Nat) (sz:Nat) (els:List V):AQ (d+1) (.own sz els)=.ret (.isl false false sz (bzs els)):=rfl
theorem Zv (d:Nat) (cs:List V):AQ (d+1) (.agg cs)=(AD (AQ d) cs).bind fun cs=>.ret (.agg cs):=rfl
theorem oH (d:Nat) (cs:List V):AQ (d+1) (.tup cs)=(AD (AQ d) cs).bind fun cs=>.ret (.tup cs):=rfl
theorem tL (d:Nat) (f:Fn) (a b:List V):AQ (d+1) (.fn f a b)=(AD (AQ d) a).bind fun a=>(AD (AQ d) b).bind fun b=>.ret (.fn f a b):=rfl
theorem tJ (d o:Nat):AQ (d+1) (.sl o)=.rd o fun ob=>if ob.dirty then (AD (AQ d) ob.els).bind fun els=>.ret (.isl false false ob.sz els) else .ret (.isl false false ob.sz (bzs ob.els)):=rfl
theorem oI (d o i off:Nat):AQ (d+1) (.ptr o i off)=.rd o fun ob=>match ob.els[i]? with
  | some el=>(AD (AQ d) el.cells).bind fun row=>.ret (.ip false row off)
  | none=>.fail:=rfl
theorem Ha (thr d:Nat) (v:Value):AI thr (d+1) (.lit v)=.ret (.lit v,[]):=rfl
theorem HO (thr d:Nat) (p nn:Bool) (sz:Nat) (els:List V):AI thr (d+1) (.isl p nn sz els)=.ret (.isl p nn sz els,[]):=rfl
theorem HN (thr d:Nat) (sz:Nat) (els:List V):AI thr (d+1) (.own sz els)=.ret (.own sz els,[]):=rfl
theorem Hb (thr d:Nat) (cs:List V):AI thr (d+1) (.agg cs)=(AD (AI thr d) cs).bind fun x=>.ret (.agg (x.map (·.1)),(x.map (·.2)).flatten):=rfl
theorem rN (thr d:Nat) (cs:List V):AI thr (d+1) (.tup cs)=(AD (AI thr d) cs).bind fun x=>.ret (.tup (x.map (·.1)),(x.map (·.2)).flatten):=rfl
theorem vZ (d o:Nat):AI 0 (d+1) (.sl o)=.rdo o fun
  | none=>.ret (.dead,[])
  | some ob=>if ob.dirty then (AD (AI 0 d) ob.els).bind fun x=>if AE (x.map (·.1)) then .ret (.own ob.sz (x.map (·.1)),o::(x.map (·.2)).flatten) else .fail
   else .ret (.own ob.sz ob.els,[o]):=rfl
attribute [go_sem] Gp EK Zu oJ tK Zt Zv oH tL tJ oI Ha HO HN Hb rN vZ
def ClR (r:V) (m:AM (V × List Nat)) (h:Hp):Prop :=
 match m.run h with
 | some (v',ks)=>ks.Nodup∧v'.perm=true∧v'.nice=true∧v'=r
 | none=>False
theorem rP (r v:V) (h:Hp) (n:Nat):ClQ r v h n=ClR r (AI 0 6 v) h:=rfl
theorem kV (r v:V) (ks:List Nat) (h:Hp):ClR r (.ret (v,ks)) h=(ks.Nodup∧v.perm=true∧v.nice=true∧v=r):=rfl
theorem kW (r:V) (o:Nat) (f:Option Obj→AM (V × List Nat)) (h:Hp):ClR r (.rdo o f) h=ClR r (f (h o)) h:=rfl
theorem ZS (v:Value):V.perm (.lit v)=true:=by simp [V.perm]
theorem ZR (sz:Nat) (els:List V):V.perm (.own sz els)=true:=by simp [V.perm]
theorem ZT (p nn:Bool) (sz:Nat) (els:List V):V.perm (.isl p nn sz els)=p:=by simp [V.perm]
theorem ZU (cs:List V):V.perm (.agg cs)=AE cs:=by simp [V.perm]
theorem ZP (cs:List V):V.perm (.tup cs)=AE cs:=by simp [V.perm]
theorem hX (o:Nat):V.perm (.sl o)=false:=by simp [V.perm]
theorem hY (p:Bool) (row:List V) (off:Nat):V.perm (.ip p row off)=p:=by simp [V.perm]
theorem hZ (f:Fn) (a b:List V):V.perm (.fn f a b)=(AE a&&AE b):=by simp [V.perm]
theorem ZQ (o i f:Nat):V.perm (.ptr o i f)=false:=by simp [V.perm]
theorem XN:AE []=true:=by simp [AE]
theorem FZ (v:V) (r:List V):AE (v::r)=(v.perm&&AE r):=by simp [AE]
theorem Es {α:Type} (f:α→V) (h:∀ x,(f x).perm=true):∀ l:List α,AE (l.map f)=true
 | []=>by simp [AE]
 | a::l=>by simp [AE,h,Es f h l]
theorem ZK (l:List Ao):AE (l.map eW)=true:=Es _ (fun _=>by simp [eW,V.perm,AE]) l
theorem ZN (l:List AF):AE (l.map eI)=true:=Es _ (fun _=>by simp [eI,V.perm,AE]) l
theorem ZM (l:List AH):AE (l.map eR)=true:=Es _ (fun _=>by simp [eR,V.perm,AE]) l
theorem XO (l:List Ai):AE (l.map eWr)=true:=Es _ (fun _=>by simp [eWr,V.perm,AE]) l
theorem ZO (l:List Ba):AE (l.map eE)=true:=Es _ (fun _=>by simp [eE,V.perm,AE]) l
theorem RH (l:List Ag):AE (l.map oS)=true:=Es _ (fun _=>by simp [oS,V.perm,AE]) l
theorem pP (v:Value):V.nr (.lit v)=true:=by simp [V.nr]
theorem pN (sz:Nat) (els:List V):V.nr (.own sz els)=true:=by simp [V.nr]
theorem pQ (p nn:Bool) (sz:Nat) (els:List V):V.nr (.isl p nn sz els)=true:=by simp [V.nr]
theorem pR (cs:List V):V.nr (.agg cs)=nrs cs:=by simp [V.nr]
theorem uC (o:Nat):V.nr (.sl o)=false:=by simp [V.nr]
theorem uD (p:Bool) (row:List V) (off:Nat):V.nr (.ip p row off)=true:=by simp [V.nr]
theorem pM (o i f:Nat):V.nr (.ptr o i f)=false:=by simp [V.nr]
theorem uE (f:Fn) (a b:List V):V.nr (.fn f a b)=(nrs a&&nrs b):=by simp [V.nr]
theorem iN:nrs []=true:=by simp [nrs]
theorem aJ (v:V) (r:List V):nrs (v::r)=(v.nr&&nrs r):=by simp [nrs]
theorem aN (v:Value):V.nice (.lit v)=Bp [.lit v]:=rfl
theorem aO (p nn:Bool) (sz:Nat) (els:List V):V.nice (.isl p nn sz els)=true:=rfl
theorem aM (sz:Nat) (els:List V):V.nice (.own sz els)=true:=rfl
theorem aP (cs:List V):V.nice (.agg cs)=Bp cs:=rfl
theorem aL (vs:List V):V.nice (.tup vs)=vs.all V.nice1:=rfl
theorem iP (f:Fn) (a b:List V):V.nice (.fn f a b)=true:=rfl
theorem aR (v:V):V.nice1 v=Bp v.cells:=rfl
theorem aF:Bp []=true:=rfl
theorem aH (k:IntKind) (n:Int) (r:List V):Bp (.lit (.int k n)::r)=Bp r:=rfl
theorem XW (b:Bool) (r:List V):Bp (.lit (.bool b)::r)=Bp r:=rfl
theorem aC (s:_) (r:List V):Bp (.lit (.string s)::r)=Bp r:=rfl
theorem XV (r:List V):Bp (.lit .nilFunc::r)=Bp r:=rfl
theorem XU (r:List V):Bp (.lit (.slice none 0 0)::r)=Bp r:=rfl
theorem aG (p nn:Bool) (sz:Nat) (els:List V) (r:List V):Bp (.isl p nn sz els::r)=Bp r:=rfl
theorem aE (sz:Nat) (els:List V) (r:List V):Bp (.own sz els::r)=Bp r:=rfl
theorem iE (o:Nat) (r:List V):Bp (.sl o::r)=Bp r:=rfl
theorem iF (p:Bool) (row:List V) (off:Nat) (r:List V):Bp (.ip p row off::r)=Bp r:=rfl
theorem aD (o i f:Nat) (r:List V):Bp (.ptr o i f::r)=Bp r:=rfl
theorem iG (f:Fn) (a b:List V) (r:List V):Bp (.fn f a b::r)=Bp r:=rfl
attribute [go_sem] rP kV kW ZS ZR ZT ZU ZP hX hY hZ ZQ XN FZ ZK ZN ZM XO ZO RH pP pN pQ pR uC uD pM uE iN aJ aN aO aM aP aL iP aR aF aH XW aC XV XU aG aE iE iF aD iG
attribute [go_sem] Bool.false_eq_true Bool.true_and Bool.false_and Bool.and_true Bool.and_false Bool.not_true Bool.not_false Bool.or_true Bool.or_false Bool.true_or Bool.false_or and_true true_and and_self List.all_cons List.all_nil List.nodup_nil List.nodup_cons List.mem_cons List.not_mem_nil or_self not_false_eq_true or_false false_or
attribute [go_sem] Dy IG Kd CS fillCells Jm Ip GA Ge JZ Dx Kb ES Cw Fj Pe HF Fo Ka RL BA K.agg EH depth V.isRef goInt
theorem bG (l:List Ai):RX (l.map eWr)=true:=by
 unfold RX
 rw [List.all_eq_true]
 intro x hx
 obtain ⟨y,_,rfl⟩:=List.mem_map.1 hx
 rfl
theorem bF (k k' k'':IntKind) (a b c:Int):RX [.agg [.lit (.int k a),.lit (.int k' b),.lit (.int k'' c)]]=true:=rfl
attribute [go_sem] Gf PO IB Rz Si bG bF
section
variable {R:Type}
def Xx (C:Ctx) (P:FuncId→List V→Option V) (s:St) (q:Out→St→Option R):IR→Option R
 | .region ops (some bef)=>Bz C.L C.T P 0 ops s [] fun s rcs=>HT bef rcs (q .normal s)
 | _=>none
def Ue:IR→Bool
 | .region ops (some bef)=>HB bef 0 ops
 | _=>false
theorem VD {C:Ctx} {O:Orc} {P:FuncId→List V→Option V} {k:Nat} {d:IR} (h:Ue d=true) (s:St) (q:Out→St→Option R):evC C O P k d s q=Xx C P s q d:=by
 cases d with
 | region ops b=>cases b with
  | none=>cases h
  | some bef=>exact kJ C O P k s q h
 | _=>cases h
@[congr] theorem runD_congr {C:Ctx} {P:FuncId→List V→Option V} {s:St} {q:Out→St→Option R} {d d':IR} (e:d=d'):Xx C P s q d=Xx C P s q d':=by rw [e]
@[congr] theorem runDraw_congr {L:Lay} {T:Tbl} {P:FuncId→List V→Option V} {i:Nat} {ops:List IOp} {s s':St} {rcs rcs':List Rec} {k:St→List Rec→Option R} (e:s=s') (e':rcs=rcs'):Bz L T P i ops s rcs k=Bz L T P i ops s' rcs' k:=by rw [e,e']
end
theorem dQ (L:Lay) (t:TypeId) (a b:List V):Bu L .eql t (.agg a) (.agg b)=match L t with
 | some ti=>if ti.plain&&a.length == ti.size then (Bl a b).map fun r=>.lit (.bool r) else none
 | none=>none:=by simp only [Bu];cases L t<;>rfl
theorem dP (L:Lay) (t:TypeId) (a b:List V):Bu L .neq t (.agg a) (.agg b)=match L t with
 | some ti=>if ti.plain&&a.length == ti.size then (Bl a b).map fun r=>.lit (.bool (!r)) else none
 | none=>none:=by simp only [Bu];cases L t<;>rfl
theorem kL:Bl [] []=some true:=rfl
theorem kN (k:IntKind) (a b:Int) (r s:List V):Bl (.lit (.int k a)::r) (.lit (.int k b)::s)=(Bl r s).map fun y=>decide (a=b)&&y:=by
 cases h:Bl r s<;>simp [Bl,Nd,h]
attribute [go_sem] dQ dP kL kN Option.map_some beq_self_eq_true EL
structure Dum {α:Sort _} (a:α):Type where
section
variable (O:Orc) (h:Hp) (n i:Nat) (ro:List Nat) (rcs:List Rec) (Q:V→Hp→Nat→Prop)
def GP (v:Option V) (k:V→Option Ans) (Q:V→Hp→Nat→Prop) (_:Dum k):Prop:=Fin (Fp v k) Q
def GM (m:AM Eff) (h:Hp) (n:Nat) (k:V→Hp→Nat→Option Ans) (Q:V→Hp→Nat→Prop) (_:Dum k):Prop:=Fin (Hx m h n k) Q
def GR (m:AM Eff) (h:Hp) (n i:Nat) (ro:List Nat) (rcs:List Rec) (k:V→Hp→Nat→List Rec→Option Ans) (Q:V→Hp→Nat→Prop) (_:Dum k):Prop:=Fin (DE m h n i ro rcs k) Q
def GI (x:Option (V × Hp × Nat)) (k:V→Hp→Nat→Option Ans) (Q:V→Hp→Nat→Prop) (_:Dum k):Prop:=Fin (Ju x k) Q
def GC (b:Option Bool) (x y:Option Ans) (Q:V→Hp→Nat→Prop) (_:Dum x) (_:Dum y):Prop:=Fin (OJ b x y) Q
def GS (O:Orc) (x:OpK) (g:Option Bool) (h:Hp) (n:Nat) (k:V→Hp→Nat→Option Ans) (Q:V→Hp→Nat→Prop) (_:Dum k):Prop:=Fin (EA O x g h n k) Q
def GD (x:OpK) (g:Option Bool) (h:Hp) (n i:Nat) (rcs:List Rec) (k:V→Hp→Nat→List Rec→Option Ans) (Q:V→Hp→Nat→Prop) (_:Dum k):Prop:=Fin (Lh x g h n i rcs k) Q
def GE (C:Ctx) (O:Orc) (P:FuncId→List V→Option V) (k:Nat) (ir:IR) (s:St) (q:Out→St→Option Ans) (Q:V→Hp→Nat→Prop) (_:Dum ir) (_:Dum q):Prop:=Fin (evC C O P k ir s q) Q
def GL (thr:Nat) (live:List Nat) (f:St→(Out→St→Option Ans)→Option Ans) (q:Out→St→Option Ans) (k:Nat) (s:St) (Q:V→Hp→Nat→Prop) (_:Dum f) (_:Dum q):Prop:=Fin (Bg thr live f q k s) Q
def GN (thr:Nat) (live:List Nat) (s:St) (k:St→Option Ans) (Q:V→Hp→Nat→Prop) (_:Dum k):Prop:=Fin (Gh thr live s k) Q
theorem gP (v:Option V) (k:V→Option Ans):Fin (Fp v k) Q=GP v k Q ⟨⟩:=rfl
theorem gM (m:AM Eff) (k:V→Hp→Nat→Option Ans):Fin (Hx m h n k) Q=GM m h n k Q ⟨⟩:=rfl
theorem gI (x:Option (V × Hp × Nat)) (k:V→Hp→Nat→Option Ans):Fin (Ju x k) Q=GI x k Q ⟨⟩:=rfl
theorem gC (b:Option Bool) (x y:Option Ans):Fin (OJ b x y) Q=GC b x y Q ⟨⟩ ⟨⟩:=rfl
theorem Sq (L:Lay) (T:Tbl) (P:FuncId→List V→Option V) (s:St) (k:St→Option Ans):Fin (Cf L T O P [] s k) Q=Fin (k s) Q:=rfl
theorem vH (L:Lay) (T:Tbl) (P:FuncId→List V→Option V) (o:IOp) (r:List IOp) (tm:Nat→V) (k:St→Option Ans) :
  Fin (Cf L T O P (o::r) ⟨tm,h,n⟩ k) Q=GS O (opK L T P (eV tm) n o.frz o.op) (CH tm o.guard) h n (fun v h n=>Cf L T O P r ⟨GQ tm o.dst v,h,n⟩ k) Q ⟨⟩:=by rw [Rv];rfl
theorem Ow (L:Lay) (T:Tbl) (P:FuncId→List V→Option V) (s:St) (k:St→List Rec→Option Ans):Fin (Bz L T P i [] s rcs k) Q=Fin (k s rcs) Q:=rfl
theorem mH (L:Lay) (T:Tbl) (P:FuncId→List V→Option V) (o:IOp) (r:List IOp) (tm:Nat→V) (k:St→List Rec→Option Ans) :
  Fin (Bz L T P i (o::r) ⟨tm,h,n⟩ rcs k) Q=GD (opK L T P (eV tm) n o.frz o.op) (CH tm o.guard) h n i rcs (fun v h n rcs=>Bz L T P (i+1) r ⟨GQ tm o.dst v,h,n⟩ rcs k) Q ⟨⟩:=by rw [Po];rfl
theorem mG (bef:List (List Nat)) (x:Option Ans):Fin (HT bef rcs x) Q=(Fz bef rcs=true∧Fin x Q):=by
 cases h:Fz bef rcs<;>simp [HT,h,Fin]
theorem gN (thr:Nat) (live:List Nat) (s:St) (k:St→Option Ans):Fin (Gh thr live s k) Q=GN thr live s k Q ⟨⟩:=rfl
theorem gL (thr:Nat) (live:List Nat) (f:St→(Out→St→Option Ans)→Option Ans) (q:Out→St→Option Ans) (k:Nat) (s:St):Fin (Bg thr live f q k s) Q=GL thr live f q k s Q ⟨⟩ ⟨⟩:=rfl
section
variable (C:Ctx) (P:FuncId→List V→Option V) (k:Nat) (s:St) (q:Out→St→Option Ans)
theorem jY:Fin (evC C O P k .skip s q) Q=Fin (q .normal s) Q:=rfl
theorem cA (l:Nat):Fin (evC C O P k (.label l) s q) Q=Fin (q .normal s) Q:=rfl
theorem Yt (ops:List IOp):Fin (evC C O P k (.region ops none) s q) Q=Fin (Cf C.L C.T O P ops s (q .normal)) Q:=rfl
theorem qQ (a b:IR):Fin (evC C O P k (.seq a b) s q) Q=Fin (evC C O P k a s (BI (fun s=>evC C O P k b s q) q)) Q:=rfl
theorem kC (c:Operand) (a b:IR):Fin (evC C O P k (.cond c a b) s q) Q=GC (eV s.tm c).bool? (evC C O P k a s q) (evC C O P k b s q) Q ⟨⟩ ⟨⟩:=rfl
theorem cB (id:Nat) (b:IR):Fin (evC C O P k (.block id b) s q) Q=Fin (evC C O P k b s (De id q)) Q:=rfl
theorem jZ (live:List Nat) (b:IR):Fin (evC C O P k (.loop live b) s q) Q=GL s.n live (fun s q=>evC C O P k b s (Aq live q)) q k (EM live s) Q ⟨⟩ ⟨⟩:=rfl
theorem kB (id:Nat) (live:List Nat):Fin (evC C O P k (.exit id live) s q) Q=Fin (q (.exit id) (EM live s)) Q:=rfl
theorem kA (l:Nat):Fin (evC C O P k (.goto l) s q) Q=Fin (q (.goto l) s) Q:=rfl
theorem qR (live:List Nat):Fin (evC C O P k (.ret live) s q) Q=Fin (q .ret (EM live s)) Q:=rfl
theorem Kx {d:IR} (hd:Ue d=true):Fin (evC C O P k d s q) Q=Fin (Xx C P s q d) Q:=by rw [VD hd]
def GU (d:IR) (C:Ctx) (P:FuncId→List V→Option V) (s:St) (q:Out→St→Option Ans) (Q:V→Hp→Nat→Prop) (_:Dum q) (_:Dum s):Prop:=Fin (Xx C P s q d) Q
theorem AO {d:IR} (hd:Ue d=true):Fin (evC C O P k d s q) Q=GU d C P s q Q ⟨⟩ ⟨⟩:=by rw [VD hd];rfl
theorem gU (ops:List IOp) (bef:List (List Nat)) (u:Dum q) (w:Dum s):GU (.region ops (some bef)) C P s q Q u w=Fin (Bz C.L C.T P 0 ops s [] fun s rcs=>HT bef rcs (q .normal s)) Q:=rfl
theorem vI (ops:List IOp) (bef:List (List Nat)):Fin (Xx C P s q (.region ops (some bef))) Q=Fin (Bz C.L C.T P 0 ops s [] fun s rcs=>HT bef rcs (q .normal s)) Q:=rfl
end
section
variable (k:St→Option Ans) (q:Out→St→Option Ans) (s:St) (live:List Nat) (kj:Nat→St→Option Ans)
theorem Jq:Fin (BI k q .normal s) Q=Fin (k s) Q:=rfl
theorem LA:Fin (BI k q (.exit i) s) Q=Fin (q (.exit i) s) Q:=rfl
theorem Lz:Fin (BI k q (.goto i) s) Q=Fin (q (.goto i) s) Q:=rfl
theorem MR:Fin (BI k q .ret s) Q=Fin (q .ret s) Q:=rfl
theorem Kw:Fin (De i q .normal s) Q=Fin (q .normal s) Q:=rfl
theorem TX (j:Nat):Fin (De i q (.goto j) s) Q=Fin (q (.goto j) s) Q:=rfl
theorem Ys:Fin (De i q .ret s) Q=Fin (q .ret s) Q:=rfl
theorem bY:Fin (De i q (.exit i) s) Q=Fin (q .normal s) Q:=by rw [SX,if_pos rfl]
theorem bX {j:Nat} (h:j≠i):Fin (De i q (.exit j) s) Q=Fin (q (.exit j) s) Q:=by rw [SX,if_neg h]
theorem Jr:Fin (Aq live q .normal s) Q=Fin (q .normal (EM live s)) Q:=rfl
theorem Sm:Fin (Aq live q (.exit i) s) Q=Fin (q (.exit i) s) Q:=rfl
theorem Sl:Fin (Aq live q (.goto i) s) Q=Fin (q (.goto i) s) Q:=rfl
theorem TU:Fin (Aq live q .ret s) Q=Fin (q .ret s) Q:=rfl
theorem NI:Fin (Jp kj q .normal s) Q=Fin (q .normal s) Q:=rfl
theorem So:Fin (Jp kj q (.exit i) s) Q=Fin (q (.exit i) s) Q:=rfl
theorem Sn:Fin (Jp kj q (.goto i) s) Q=Fin (kj i s) Q:=rfl
theorem TW:Fin (Jp kj q .ret s) Q=Fin (q .ret s) Q:=rfl
end
theorem PU (L:Lay) (rs:List ResultVar) (ts:List TypeId) (tm:Nat→V):Fin (cJ L rs ts .normal ⟨tm,h,n⟩) Q=Fin (Cm L tm rs ts h n fun vs hp n=>some (Dc vs,hp,n)) Q:=rfl
theorem Yr (L:Lay) (rs:List ResultVar) (ts:List TypeId) (tm:Nat→V):Fin (cJ L rs ts .ret ⟨tm,h,n⟩) Q=Fin (Cm L tm rs ts h n fun vs hp n=>some (Dc vs,hp,n)) Q:=rfl
section
variable (L:Lay) (tm:Nat→V) (t:Tmp) (a:Tmp) (y ty:TypeId) (r:List ResultVar) (ts:List TypeId) (k:List V→Hp→Nat→Option Ans)
theorem Yq:Fin (Cm L tm [] ts h n k) Q=Fin (k [] h n) Q:=rfl
theorem Yp:Fin (Cm L tm (.tmp t::r) (y::ts) h n k) Q=Fin (Cm L tm r ts h n fun vs h n=>k (Bq L y (tm t)::vs) h n) Q:=rfl
theorem TV:Fin (Cm L tm (.cell a ty::r) (y::ts) h n k) Q=GM (Ge L n ty (tm a)) h n (fun v h n=>Cm L tm r ts h n fun vs h n=>k (v::vs) h n) Q ⟨⟩:=rfl
end
theorem x_P (v:V) (k:V→Option Ans) (u:Dum k):GP (some v) k Q u=Fin (k v) Q:=rfl
theorem x_M (x:Eff) (k:V→Hp→Nat→Option Ans) (u:Dum k):GM (.ret x) h n k Q u=Fin (k x.v (As h x.upd) (n+x.new)) Q:=rfl
theorem sW (o:Nat) (f:Option Obj→AM Eff) (k:V→Hp→Nat→Option Ans) (u:Dum k):GM (.rdo o f) h n k Q u=GM (f (h o)) h n k Q u:=rfl
theorem x_R (x:Eff) (k:V→Hp→Nat→List Rec→Option Ans) (u:Dum k):GR (.ret x) h n i ro rcs k Q u=Fin (k x.v (As h x.upd) (n+x.new) (EL i ro (x.upd.map (·.1)) rcs)) Q:=by
 show Fin (DE _ _ _ _ _ _ _) Q=_;rw [JL]
theorem sV (o:Nat) (f:Option Obj→AM Eff) (k:V→Hp→Nat→List Rec→Option Ans) (u:Dum k):GR (.rdo o f) h n i ro rcs k Q u=GR (f (h o)) h n i (ro++[o]) rcs k Q u:=by
 show Fin (DE _ _ _ _ _ _ _) Q=_;rw [Ny];rfl
theorem x_I (v:V) (h':Hp) (n':Nat) (k:V→Hp→Nat→Option Ans) (u:Dum k):GI (some (v,h',n')) k Q u=Fin (k v h' n') Q:=rfl
theorem sY (x y:Option Ans) (u:Dum x) (w:Dum y):GC (some true) x y Q u w=Fin x Q:=rfl
theorem sZ (x y:Option Ans) (u:Dum x) (w:Dum y):GC (some false) x y Q u w=Fin y Q:=rfl
theorem x_C (b:Bool) (x y:Option Ans) (u:Dum x) (w:Dum y):GC (some b) x y Q u w=((b=true→Fin x Q)∧(b=false→Fin y Q)):=by
 cases b<;>simp [GC,OJ]
theorem sR (v:Option V) (k:V→Hp→Nat→Option Ans) (u:Dum k):GS O (.p v) (some true) h n k Q u=GP v (fun v=>k v h n) Q ⟨⟩:=rfl
theorem sT (m:AM Eff) (k:V→Hp→Nat→Option Ans) (u:Dum k):GS O (.m m) (some true) h n k Q u=GM m h n k Q u:=rfl
theorem sU (f:FuncId) (xs:List V) (k:V→Hp→Nat→Option Ans) (u:Dum k):GS O (.i f xs) (some true) h n k Q u=GI (O f xs h n) k Q u:=rfl
theorem sS (x:OpK) (k:V→Hp→Nat→Option Ans) (u:Dum k):GS O x (some false) h n k Q u=Fin (k Bn h n) Q:=by
 show Fin (EA _ _ _ _ _ _) Q=_;rw [DK]
theorem sX (v:Option V) (k:V→Hp→Nat→List Rec→Option Ans) (u:Dum k):GD (.p v) (some true) h n i rcs k Q u=GP v (fun v=>k v h n rcs) Q ⟨⟩:=rfl
theorem mS (m:AM Eff) (k:V→Hp→Nat→List Rec→Option Ans) (u:Dum k):GD (.m m) (some true) h n i rcs k Q u=GR m h n i [] rcs k Q u:=by show Fin (KE _ _ _ _ _ _) Q=Fin (DE _ _ _ _ _ _ _) Q;rw [dO];rfl
theorem mA (v:Option V) (k:V→Hp→Nat→List Rec→Option Ans) (u:Dum k):GD (.p v) (some false) h n i rcs k Q u=Fin (k Bn h n rcs) Q:=rfl
theorem YH (m:AM Eff) (k:V→Hp→Nat→List Rec→Option Ans) (u:Dum k):GD (.m m) (some false) h n i rcs k Q u=Fin (k Bn h n rcs) Q:=by
 show Fin (Lh _ _ _ _ _ _ _) Q=_;rw [Tp]
theorem fA (thr:Nat) (v:Value):V.scrub thr (.lit v)=.lit v:=by simp [V.scrub]
theorem fB (thr:Nat) (p nn:Bool) (sz:Nat) (els:List V):V.scrub thr (.isl p nn sz els)=.isl p nn sz els:=by simp [V.scrub]
theorem nJ (thr:Nat) (p:Bool) (row:List V) (off:Nat):V.scrub thr (.ip p row off)=.ip p row off:=by simp [V.scrub]
theorem fC (thr:Nat) (cs:List V):V.scrub thr (.agg cs)=.agg (AN thr cs):=by simp [V.scrub]
theorem nK (thr:Nat) (f:Fn) (a b:List V):V.scrub thr (.fn f a b)=.fn f (AN thr a) (AN thr b):=by simp [V.scrub]
theorem eZ (thr o i f:Nat):V.scrub thr (.ptr o i f)=if o<thr then .ptr o i f else .dead:=by simp [V.scrub]
theorem nI (thr o:Nat):V.scrub thr (.sl o)=if o<thr then .sl o else .dead:=by simp [V.scrub]
theorem Zd (thr:Nat):AN thr []=[]:=by simp [AN]
theorem Xl (thr:Nat) (v:V) (r:List V):AN thr (v::r)=v.scrub thr::AN thr r:=by simp [AN]
end
theorem jW (bef:List (List Nat)):Fz bef []=true:=rfl
theorem bT (bef:List (List Nat)) (a:Rec) (r:List Rec):Fz bef (a::r)=(r.all (Ee bef a)&&Fz bef r):=rfl
theorem hok1 (bef:List (List Nat)) (a b:Rec):Ee bef a b=(!(DW a.wo b.wo||DW a.wo b.ro||DW a.ro b.wo)||EZ bef b.i a.i):=rfl
theorem Yd (b:List Nat):DW [] b=false:=rfl
theorem TL (a:List Nat):DW a []=false:=by simp [DW]
theorem TM (x:Nat) (a b:List Nat):DW (x::a) b=(b.contains x||DW a b):=rfl
theorem YB (bef:List (List Nat)) (i j:Nat):EZ bef i j=HE bef i 8 j:=(rfl)
theorem gE (bef:List (List Nat)) (i f j:Nat):HE bef i (f+1) j=((bef.getD j []).contains i||(bef.getD j []).any fun k=>HE bef i f k):=(rfl)
attribute [go_sem] gE List.any_cons List.any_nil
attribute [go_sem ↓] gP gM gI gC Sq vH Ow mH mG gN gL jY cA Yt qQ kC cB jZ kB kA qR vI Jq LA Lz MR Kw TX Ys bY bX Jr Sm Sl TU NI So Sn TW Yq Yp TV Sx x_P x_M sW x_R sV x_I sY sZ sR sT sU sS sX mS mA YH
attribute [go_sem] gP gM gI gC Sq vH Ow mH mG gN gL PU Yr Jq LA Lz MR Jr Kw x_P x_M sW x_R sV x_I sY sZ sR sT sU sS sX mS mA YH fA fB nJ fC nK eZ nI Zd Xl
attribute [go_sem low] x_C
attribute [go_sem] gU
attribute [go_sem ↓] gU
attribute [go_sem] jW bT hok1 Yd TL TM YB List.contains_cons List.getD_cons_zero List.getD_cons_succ List.getD_nil List.elem_nil ne_eq
theorem pS (b:Bool):((!b)=true)=(b=false):=by cases b<;>simp
theorem pT (b:Bool):((!b)=false)=(b=true):=by cases b<;>simp
attribute [go_sem] pS pT
attribute [go_sem] eW eI eR eWr eE eSl eS oS
theorem vM (w:Ao):(⟨w.val,w.ver,w.lock⟩:Ao)=w:=(rfl)
theorem vQ (w:AF):(⟨w.code,w.a,w.b,w.c⟩:AF)=w:=(rfl)
theorem vO (w:AH):(⟨w.level,w.index,w.ver⟩:AH)=w:=(rfl)
theorem rD (w:Ai):(⟨w.level,w.index,w.val⟩:Ai)=w:=(rfl)
theorem vR (w:Ba):(⟨w.id,w.label,w.kind,w.val⟩:Ba)=w:=(rfl)
theorem vS {α:Type} (w:A4 α):(⟨w.a0,w.a1,w.a2,w.a3⟩:A4 α)=w:=(rfl)
theorem vP (w:Ad):(⟨w.words,w.clocks,w.ceil,w.sess,w.trace⟩:Ad)=w:=(rfl)
theorem vN (s:Ag):(⟨s.id,s.label,s.clear,s.prog,s.step,s.pc,s.regs,s.reads,s.writes,s.at_,s.stamp,s.tries,s.result,s.told⟩:Ag)=s:=(rfl)
attribute [go_sem] vM vQ vO rD vR vS vP vN
theorem gLs (thr:Nat) (live:List Nat) (f:St→(Out→St→Option Ans)→Option Ans) (q:Out→St→Option Ans) (k:Nat) (s:St) (Q:V→Hp→Nat→Prop) (u:Dum f) (w:Dum q) :
  GL thr live f q (k+1) s Q u w=GN thr live s (fun s=>f s fun o s=>BI (Bg thr live f q k) q o s) Q ⟨⟩:=(rfl)
theorem Aj {b b':IR} (e:b=b') (C:Ctx) (O:Orc) (P:FuncId→List V→Option V) (k:Nat) (s:St) (q:Out→St→Option Ans) (Q:V→Hp→Nat→Prop):Fin (evC C O P k b s q) Q=Fin (evC C O P k b' s q) Q:=by rw [e]
abbrev BB:Nat:=140737488355328
attribute [go_sem] decide_true decide_false List.getElem?_map Int.toNat_natCast
theorem wl0:IntKind.wrap .i64 0=0:=by decide
theorem wl1:IntKind.wrap .i64 1=1:=by decide
theorem wl2:IntKind.wrap .i64 2=2:=by decide
theorem wl3:IntKind.wrap .i64 3=3:=by decide
theorem wl4:IntKind.wrap .i64 4=4:=by decide
theorem wl5:IntKind.wrap .i64 5=5:=by decide
attribute [go_sem] wl0 wl1 wl2 wl3 wl4 wl5
theorem minI (k l:IntKind) (a b:Int):MI [.lit (.int k a),.lit (.int l b)]=some (.lit (.int k (if b<a then b else a))):=(rfl)
theorem maxI (k l:IntKind) (a b:Int):MK [.lit (.int k a),.lit (.int l b)]=some (.lit (.int k (if a<b then b else a))):=(rfl)
attribute [go_sem] minI maxI
theorem wH:((4:Nat):Int)=4:=(rfl)
theorem Nf:((0:Nat):Int)=0:=(rfl)
theorem SG:((1:Nat):Int)=1:=(rfl)
theorem wJ:((2:Nat):Int)=2:=(rfl)
theorem wI:((3:Nat):Int)=3:=(rfl)
attribute [go_sem] wH Nf SG wJ wI
def HW (c:Bool):Prop:=c=true
def KI (c:Bool):Prop:=c=false
theorem pW (a b:Bool):HW (a&&b)=(HW a∧HW b):=by simp [HW]
theorem pV (a:Bool):HW (!a)=KI a:=by simp [HW,KI]
theorem uH (a:Bool):HW a=(a=true):=(rfl)
theorem uF (a b:Bool):KI (a||b)=(KI a∧KI b):=by simp [KI]
theorem pU (a:Bool):KI (!a)=HW a:=by simp [HW,KI]
theorem uG (a:Bool):KI a=(a=false):=(rfl)
attribute [go_sem] pW pV uF pU
attribute [go_sem low] uH uG
def GX (O:Orc) (c:Bool) (x:OpK) (h:Hp) (n:Nat) (k:V→Hp→Nat→Option Ans) (Q:V→Hp→Nat→Prop) (_:Dum k):Prop:=Fin (EA O x (some c) h n k) Q
def GYp (c:Bool) (v:Option V) (h:Hp) (n:Nat) (rcs:List Rec) (k:V→Hp→Nat→List Rec→Option Ans) (Q:V→Hp→Nat→Prop) (_:Dum k):Prop :=
 match c with
 | true=>Fin (Fp v fun v=>k v h n rcs) Q
 | false=>Fin (k Bn h n rcs) Q
def GYm (c:Bool) (m:AM Eff) (h:Hp) (n i:Nat) (ro:List Nat) (rcs:List Rec) (k:V→Hp→Nat→List Rec→Option Ans) (Q:V→Hp→Nat→Prop) (_:Dum k):Prop :=
 match c with
 | true=>Fin (DE m h n i ro rcs k) Q
 | false=>Fin (k Bn h n rcs) Q
section
variable (O:Orc) (c:Bool) (h:Hp) (n i:Nat) (ro:List Nat) (rcs:List Rec) (Q:V→Hp→Nat→Prop)
@[congr] theorem GX_congr {g:Prop} {x x':OpK} {k:V→Hp→Nat→Option Ans} {u:Dum k} (hg:HW c=g) (hx:g→x=x'):GX O c x h n k Q u=GX O c x' h n k Q u:=by
 cases c with
 | true=>rw [hx (hg▸rfl)]
 | false=>show Fin (EA _ _ _ _ _ _) _=Fin (EA _ _ _ _ _ _) _;rw [DK,DK]
theorem x_S (x:OpK) (k:V→Hp→Nat→Option Ans) (u:Dum k):GS O x (some c) h n k Q u=GX O c x h n k Q u:=(rfl)
theorem x_Xp (v:V) (k:V→Hp→Nat→Option Ans) (u:Dum k):GX O c (.p (some v)) h n k Q u=Fin (k (if c=true then v else Bn) h n) Q:=by
 cases c with
 | true=>rfl
 | false=>show Fin (EA _ _ _ _ _ _) _=_;rw [DK];rfl
theorem x_Xm (v:V) (k:V→Hp→Nat→Option Ans) (u:Dum k):GX O c (.m (.ret ⟨v,[],0⟩)) h n k Q u=Fin (k (if c=true then v else Bn) h n) Q:=by
 cases c with
 | true=>rfl
 | false=>show Fin (EA _ _ _ _ _ _) _=_;rw [DK];rfl
theorem x_Xr (o:Nat) (f:Option Obj→AM Eff) (k:V→Hp→Nat→Option Ans) (u:Dum k):GX O c (.m (.rdo o f)) h n k Q u=GX O c (.m (f (h o))) h n k Q u:=by
 cases c with
 | true=>rfl
 | false=>show Fin (EA _ _ _ _ _ _) _=Fin (EA _ _ _ _ _ _) _;rw [DK,DK]
theorem x_Xu (v:V) (o:Nat × Option Obj) (up:List (Nat × Option Obj)) (nw:Nat) (k:V→Hp→Nat→Option Ans) (u:Dum k):GX O c (.m (.ret ⟨v,o::up,nw⟩)) h n k Q u =
  ((c=true→Fin (k v (As h (o::up)) (n+nw)) Q)∧(c=false→Fin (k Bn h n) Q)):=by
 cases c with
 | true=>simp [GX,EA,Dm,Hx,AM.run]
 | false=>simp only [Bool.false_eq_true,false_imp_iff,true_and,forall_const];show Fin (EA _ _ _ _ _ _) _=_;rw [DK]
theorem x_Xi (f:FuncId) (xs:List V) (k:V→Hp→Nat→Option Ans) (u:Dum k):GX O c (.i f xs) h n k Q u=((c=true→GI (O f xs h n) k Q u)∧(c=false→Fin (k Bn h n) Q)):=by
 cases c with
 | true=>simp [GX,EA,Iv,GI]
 | false=>simp only [Bool.false_eq_true,false_imp_iff,true_and,forall_const];show Fin (EA _ _ _ _ _ _) _=_;rw [DK]
@[congr] theorem GYp_congr {g:Prop} {v v':Option V} {k:V→Hp→Nat→List Rec→Option Ans} {u:Dum k} (hg:HW c=g) (hx:g→v=v'):GYp c v h n rcs k Q u=GYp c v' h n rcs k Q u:=by
 cases c with
 | true=>rw [hx (hg▸rfl)]
 | false=>rfl
@[congr] theorem GYm_congr {g:Prop} {v v':AM Eff} {k:V→Hp→Nat→List Rec→Option Ans} {u:Dum k} (hg:HW c=g) (hx:g→v=v'):GYm c v h n i ro rcs k Q u=GYm c v' h n i ro rcs k Q u:=by
 cases c with
 | true=>rw [hx (hg▸rfl)]
 | false=>rfl
theorem sN (v:Option V) (k:V→Hp→Nat→List Rec→Option Ans) (u:Dum k):GD (.p v) (some c) h n i rcs k Q u=GYp c v h n rcs k Q u:=by cases c<;>rfl
theorem sQ (m:AM Eff) (k:V→Hp→Nat→List Rec→Option Ans) (u:Dum k):GD (.m m) (some c) h n i rcs k Q u=GYm c m h n i [] rcs k Q u:=by
 cases c with
 | true=>rw [mS];rfl
 | false=>rw [YH];rfl
theorem x_Yp (v:V) (k:V→Hp→Nat→List Rec→Option Ans) (u:Dum k):GYp c (some v) h n rcs k Q u=Fin (k (if c=true then v else Bn) h n rcs) Q:=by cases c<;>rfl
theorem x_Ym (v:V) (k:V→Hp→Nat→List Rec→Option Ans) (u:Dum k):GYm c (.ret ⟨v,[],0⟩) h n i [] rcs k Q u=Fin (k (if c=true then v else Bn) h n rcs) Q:=by
 cases c with
 | true=>show Fin (DE _ _ _ _ _ _ _) Q=_;rw [JL];rfl
 | false=>rfl
theorem sP (o:Nat) (f:Option Obj→AM Eff) (k:V→Hp→Nat→List Rec→Option Ans) (u:Dum k):GYm c (.rdo o f) h n i ro rcs k Q u=GYm c (f (h o)) h n i (ro++[o]) rcs k Q u:=by
 cases c with
 | true=>show Fin (DE _ _ _ _ _ _ _) Q=Fin (DE _ _ _ _ _ _ _) Q;rw [Ny]
 | false=>rfl
theorem sO (x:Eff) (k:V→Hp→Nat→List Rec→Option Ans) (u:Dum k):GYm c (.ret x) h n i ro rcs k Q u=((c=true→Fin (k x.v (As h x.upd) (n+x.new) (EL i ro (x.upd.map (·.1)) rcs)) Q)∧(c=false→Fin (k Bn h n rcs) Q)):=by
 cases c with
 | true=>simp only [forall_const,Bool.true_eq_false,false_imp_iff,and_true];show Fin (DE _ _ _ _ _ _ _) Q=_;rw [JL]
 | false=>simp [GYm]
attribute [go_sem] x_Yp x_Ym sP
attribute [go_sem low] sO sN sQ
end
theorem ZJ (c b:Bool):(if c=true then (if c=true then bV b else Bn) else bV false)=bV (c&&b):=by cases c<;>rfl
theorem XM (c b:Bool):(if c=true then bV b else bV false)=bV (c&&b):=by cases c<;>rfl
theorem gY (c b:Bool):(if c=true then bV true else (if c=false then bV b else Bn))=bV (c||b):=by cases c<;>rfl
theorem ZH (c b:Bool):(if c=true then bV true else (if (!c)=true then bV b else Bn))=bV (c||b):=by cases c<;>rfl
theorem ZI (c b:Bool):(if c=true then bV true else bV b)=bV (c||b):=by cases c<;>rfl
theorem Xf (c b:Bool):Jh (if c=true then bV b else Bn) true=some (c&&b):=by cases c<;>simp [Jw,Fb]
theorem Tk (c b:Bool):Jh (if c=true then bV b else Bn) false=some (c&&!b):=by cases c<;>simp [HX,Fb]
theorem Xg (c b:Bool):Jh (if c=false then bV b else Bn) true=some (!c&&b):=by cases c<;>simp [Jw,Fb]
theorem Tl (c b:Bool):Jh (if c=false then bV b else Bn) false=some (!c&&!b):=by cases c<;>simp [HX,Fb]
attribute [go_sem] ZJ XM gY ZH ZI Xf Tk Xg Tl x_Xp x_Xm x_Xr x_Xu x_Xi
attribute [go_sem low] x_S
theorem hQ (c b:Bool):(if c=false then bV true else bV b)=bV (!c||b):=by cases c<;>rfl
theorem hJ (c b:Bool):(if c=false then bV true else (if c=true then bV b else Bn))=bV (!c||b):=by cases c<;>rfl
theorem hB (c b:Bool):(if c=false then bV b else bV false)=bV (!c&&b):=by cases c<;>rfl
theorem gZ (c b:Bool):(if c=false then (if c=false then bV b else Bn) else bV false)=bV (!c&&b):=by cases c<;>rfl
attribute [go_sem] hQ hJ hB gZ
theorem lH {x y:Bool} (h:(x&&!y)=false):(!x||y)=true:=by cases x<;>cases y<;>simp_all
theorem lG {x y:Bool} (h:(x&&!y)=true):(!x||y)=false:=by cases x<;>cases y<;>simp_all
theorem rA (L:Lay) (t:TypeId) (f:Fn) (a b:List V):Bq L t (.fn f a b)=.fn f a b:=by simp [Bq,V.isNil]
theorem wA (d:Nat) (f:Fn) (a b:List V):AI 0 (d+1) (.fn f a b)=if AE a&&AE b then .ret (.fn f a b,[]) else .ret (.dead,[]):=(rfl)
attribute [go_sem] rA wA
def IsQ (r:V × Hp × Nat) (v:V) (h:Hp) (n:Nat):Prop:=(v,h,n)=r
theorem qJ (r:V × Hp × Nat) (v:V) (h:Hp) (n:Nat):IsQ r v h n=((v,h,n)=r):=(rfl)
attribute [go_sem] qJ
theorem MP {C:Ctx} {j:Nat} {g:FuncId} {xs:List V} {r:V × Hp × Nat} {hp:Hp} {n:Nat} {nt:Nat} {rs:List ResultVar} {ts:List TypeId} {b:IR} {ow:List Bool} {inl:Bool} {cl:Option (Nat × Nat)} (hd:C.T g=some ⟨nt,rs,ts,b,ow,inl,cl⟩) (k:Nat)
  (h:Fin (evC C (Lv C j) (Aa (Lv C j)) k b ⟨Fu xs,hp,n⟩ (cJ C.L rs ts)) (IsQ r)):Lv C (j+1) g xs hp n=some r:=by
 obtain ⟨v,h',n',h1,h2⟩:=h
 refine Vd (k:=k) ?_
 rw [KV hd,← show (v,h',n')=r from h2,← h1];rfl
def pO (h:Hp) (o:Nat) (x:Option Obj):Hp:=Fh h o x
theorem ZX (h:Hp) (d:Nat) (v:Option Obj) (i:Nat):pO h d v i=if i=d then v else h i:=LT h d v i
theorem oV (i:Nat) (x:Option Obj):Fh Af i x=pO Af i x:=(rfl)
theorem gX (h:Hp) (o:Nat) (x y:Option Obj):Fh (pO h o x) o y=pO h o y:=by
 funext i;simp only [LT,ZX];split<;>rfl
theorem gV (h:Hp) {i j:Nat} (x y:Option Obj) (hij:i<j):Fh (pO h j y) i x=pO (Fh h i x) j y:=by
 funext k;simp only [LT,ZX]
 split
 ·split
  ·omega
  ·rfl
 ·rfl
theorem gW (h:Hp) {i j:Nat} (x y:Option Obj) (hij:j<i):Fh (pO h j y) i x=pO (pO h j y) i x:=(rfl)
attribute [go_sem] ZX oV gX gV gW
def GW' (x:Option (Hp × List Nat)) (ks:List Nat) (nk:Nat) (vs:List V) (thr:Nat) (live:List Nat) (h:Hp) (k:St→Option Ans) (Q:V→Hp→Nat→Prop) (_:Dum k):Prop :=
 match x with
 | some (hp',ks')=>(ks++ks').Nodup∧(ks++ks').all (fun o=>decide (thr≤o))=true∧Fin (k ⟨Ae live (HD thr h vs thr),hp',thr+nk⟩) Q
 | none=>False
def GW (kl ks:List Nat) (hp:Hp) (vs:List V) (thr:Nat) (live:List Nat) (h:Hp) (k:St→Option Ans) (Q:V→Hp→Nat→Prop) (u:Dum k):Prop :=
 GW' (DO thr h kl thr hp) ks kl.length vs thr live h k Q u
def GV (vs:List V) (x:Option (Hp × List Nat)) (thr:Nat) (live:List Nat) (h:Hp) (k:St→Option Ans) (Q:V→Hp→Nat→Prop) (u:Dum k):Prop :=
 match x with
 | some (hp,ks)=>GW (Fk thr h vs) ks hp vs thr live h k Q u
 | none=>False
theorem x_N (thr:Nat) (live:List Nat) (tm:Nat→V) (h:Hp) (n:Nat) (k:St→Option Ans) (Q:V→Hp→Nat→Prop) (u:Dum k):GN thr live ⟨tm,h,n⟩ k Q u=GV (live.map tm) (Ct thr h thr) thr live h k Q u:=by
 show Fin (Gh thr live ⟨tm,h,n⟩ k) Q=_
 simp only [Gh,MC,UW]
 cases hc:Ct thr h thr with
 | none=>simp [GV,Fin]
 | some x =>
  obtain ⟨hp,ks⟩:=x
  simp only [GV,GW]
  cases hc':DO thr h (Fk thr h (live.map tm)) thr hp with
  | none=>simp [GW',Fin]
  | some x =>
   obtain ⟨hp',ks'⟩:=x
   simp only [GW']
   by_cases hk:(ks++ks').Nodup∧(ks++ks').all (fun o=>decide (thr≤o))=true
   ·simp only [if_pos hk]
    simp only [hk.1,hk.2,true_and]
   ·simp only [hk,if_false]
    simp only [← and_assoc,hk,false_and,eq_iff_iff,iff_false]
    rintro ⟨v,h,n,e,_⟩;cases e
theorem x_V (hp:Hp) (ks:List Nat) (vs:List V) (thr:Nat) (live:List Nat) (h:Hp) (k:St→Option Ans) (Q:V→Hp→Nat→Prop) (u:Dum k):GV vs (some (hp,ks)) thr live h k Q u=GW (Fk thr h vs) ks hp vs thr live h k Q u:=(rfl)
theorem x_W0 (ks:List Nat) (hp:Hp) (vs:List V) (thr:Nat) (live:List Nat) (h:Hp) (k:St→Option Ans) (Q:V→Hp→Nat→Prop) (u:Dum k):GW [] ks hp vs thr live h k Q u=(ks.Nodup∧ks.all (fun o=>decide (thr≤o))=true∧Fin (k ⟨Ae live (HD thr h vs thr),hp,thr⟩) Q):=by
 show GW' (some (hp,[])) ks 0 vs thr live h k Q u=_
 simp only [GW',List.append_nil,Nat.add_zero]
theorem x_W1 (o:Nat) (r:List Nat) (ks:List Nat) (hp:Hp) (vs:List V) (thr:Nat) (live:List Nat) (h:Hp) (k:St→Option Ans) (Q:V→Hp→Nat→Prop) (u:Dum k):GW (o::r) ks hp vs thr live h k Q u=GW' (DO thr h (o::r) thr hp) ks (o::r).length vs thr live h k Q u:=(rfl)
theorem x_W2 (hp':Hp) (ks' ks:List Nat) (nk:Nat) (vs:List V) (thr:Nat) (live:List Nat) (h:Hp) (k:St→Option Ans) (Q:V→Hp→Nat→Prop) (u:Dum k):GW' (some (hp',ks')) ks nk vs thr live h k Q u=((ks++ks').Nodup∧(ks++ks').all (fun o=>decide (thr≤o))=true∧Fin (k ⟨Ae live (HD thr h vs thr),hp',thr+nk⟩) Q):=(rfl)
theorem rQ (thr:Nat) (h:Hp) (m:Nat) (hp:Hp):DO thr h [] m hp=some (hp,[]):=(rfl)
def ckT (o:Nat) (thr:Nat) (h:Hp) (r:List Nat) (m:Nat) (hp:Hp) (x:Option (Option Obj × List Nat)):Option (Hp × List Nat):=ckS o (fun y=>DO thr h r (m+1) (Fh hp m y)) x
theorem kX (thr:Nat) (h:Hp) (o:Nat) (r:List Nat) (m:Nat) (hp:Hp):DO thr h (o::r) m hp=ckT o thr h r m hp (Dg thr h (h o)):=(rfl)
theorem ck_T (o thr:Nat) (h:Hp) (r:List Nat) (m:Nat) (hp:Hp) (y:Option Obj) (ls:List Nat):ckT o thr h r m hp (some (y,ls))=ckB o ls (DO thr h r (m+1) (Fh hp m y)):=(rfl)
theorem ck_B (o:Nat) (ls:List Nat) (hp:Hp) (ks:List Nat):ckB o ls (some (hp,ks))=some (hp,(o::ls)++ks):=(rfl)
theorem pZ (thr:Nat) (h:Hp):Fk thr h []=[]:=(rfl)
theorem jH (thr:Nat) (h:Hp) (v:V) (r:List V):Fk thr h (v::r)=Os thr h v.slotO (Fk thr h r):=(rfl)
theorem jR (thr:Nat) (h:Hp) (l:List Nat):Os thr h none l=l:=(rfl)
theorem jQ (thr:Nat) (h:Hp) (o:Nat) (l:List Nat):Os thr h (some o) l=if o<thr then l else Oq o (h o) l:=(rfl)
theorem jO (o:Nat) (ob:Obj) (l:List Nat):Oq o (some ob) l=o::l:=(rfl)
theorem jP (o:Nat) (l:List Nat):Oq o none l=l:=(rfl)
theorem oD (thr:Nat) (h:Hp) (m:Nat):HD thr h [] m=[]:=(rfl)
def oG (thr:Nat) (h:Hp) (m:Nat) (v:V) (r:List V) (x:Option Nat):List V:=Zq thr h m v (HD thr h r) x
theorem gA (thr:Nat) (h:Hp) (m:Nat) (v:V) (r:List V):HD thr h (v::r) m=oG thr h m v r v.slotO:=(rfl)
theorem fZ (thr:Nat) (h:Hp) (m:Nat) (v:V) (r:List V):oG thr h m v r none=v.scrub thr::HD thr h r m:=(rfl)
def oE (thr:Nat) (h:Hp) (m:Nat) (r:List V) (x:Option Obj):List V:=gB m (HD thr h r) x
theorem fY (thr:Nat) (h:Hp) (m:Nat) (v:V) (r:List V) (o:Nat):oG thr h m v r (some o)=if o<thr then v::HD thr h r m else oE thr h m r (h o):=(rfl)
theorem fV (thr:Nat) (h:Hp) (m:Nat) (r:List V) (ob:Obj):oE thr h m r (some ob)=.sl m::HD thr h r (m+1):=(rfl)
theorem fX (thr:Nat) (h:Hp) (m:Nat) (r:List V):oE thr h m r none=.dead::HD thr h r m:=(rfl)
theorem nD (v:Value):V.slotO (.lit v)=none:=(rfl)
theorem nG (v:List V):V.slotO (.agg v)=none:=(rfl)
theorem nA (v:List V):V.slotO (.tup v)=none:=(rfl)
theorem tD (f:Fn) (a b:List V):V.slotO (.fn f a b)=none:=(rfl)
theorem nB (o i f:Nat):V.slotO (.ptr o i f)=none:=(rfl)
theorem tC (p:Bool) (r:List V) (f:Nat):V.slotO (.ip p r f)=none:=(rfl)
theorem tB (o:Nat):V.slotO (.sl o)=some o:=(rfl)
theorem nE (p n:Bool) (sz:Nat) (els:List V):V.slotO (.isl p n sz els)=none:=(rfl)
theorem nC (sz:Nat) (els:List V):V.slotO (.own sz els)=none:=(rfl)
theorem eQ:V.slotO .dead=none:=(rfl)
theorem nF (o i f n:Nat):V.slotO (.asl o i f n)=none:=(rfl)
attribute [go_sem] x_V x_W0 x_W1 x_W2 rQ kX ck_T ck_B pZ jH jR jQ jO jP oD gA fZ fY fV fX nD nG nA tD nB tC tB nE nC eQ nF
def Ug (x:Option (Hp × List Nat)) (y:Option (Option Obj × List Nat)) (i:Nat):Option (Hp × List Nat) :=
 match x with
 | none=>none
 | some (hp,ks)=>match y with
  | none=>none
  | some (y,ls)=>some (Fh hp i y,ks++ls)
theorem co_0 (thr:Nat) (h:Hp):Ct thr h 0=some (Af,[]):=(rfl)
theorem co_s (thr:Nat) (h:Hp) (i:Nat):Ct thr h (i+1)=Ug (Ct thr h i) (Dg thr h (h i)) i:=by
 simp only [Ct,Ug]
 cases Ct thr h i with
 | none=>rfl
 | some x=>obtain ⟨hp,ks⟩:=x;cases Dg thr h (h i) with
  | none=>rfl
  | some y=>obtain ⟨y,ls⟩:=y;rfl
theorem vY (hp:Hp) (ks:List Nat) (y:Option Obj) (ls:List Nat) (i:Nat):Ug (some (hp,ks)) (some (y,ls)) i=some (Fh hp i y,ks++ls):=(rfl)
def cY (thr:Nat) (h:Hp) (ob:Obj) (m:AM (List (V × List Nat))):Option (Option Obj × List Nat) :=
 match m.run h with
 | some x=>some (some { ob with els:=x.map (·.1) },(x.map (·.2)).flatten)
 | none=>none
theorem cU (thr:Nat) (h:Hp):Dg thr h none=some (none,[]):=(rfl)
theorem cT (thr:Nat) (h:Hp) (ob:Obj):Dg thr h (some ob)=if ob.dirty=true then cY thr h ob (AD (AI thr 6) ob.els) else some (some ob,[]):=by
 simp only [Dg,cY,depth]
 split<;>rfl
theorem cV (thr:Nat) (h:Hp) (ob:Obj) (x:List (V × List Nat)):cY thr h ob (.ret x)=some (some { ob with els:=x.map (·.1) },(x.map (·.2)).flatten):=(rfl)
theorem cX (thr:Nat) (h:Hp) (ob:Obj) (o:Nat) (f:Option Obj→AM (List (V × List Nat))):cY thr h ob (.rdo o f)=cY thr h ob (f (h o)):=(rfl)
theorem rO (thr d o:Nat):AI thr (d+1) (.sl o)=if o<thr then .ret (.sl o,[]) else .rdo o fun
  | none=>.ret (.dead,[])
  | some ob=>if ob.dirty then (AD (AI 0 d) ob.els).bind fun x=>if AE (x.map (·.1)) then .ret (.own ob.sz (x.map (·.1)),o::(x.map (·.2)).flatten) else .fail
   else .ret (.own ob.sz ob.els,[o]):=(rfl)
theorem OY {α β:Type} (f:α→AM β):∀ a b:List α,AD f (a++b)=(AD f a).bind fun x=>(AD f b).bind fun y=>.ret (x++y)
 | [],b=>by
  simp only [List.nil_append,AD,Cb]
  generalize AD f b=m
  induction m with
  | ret a=>rfl
  | fail=>rfl
  | rdo o k ih=>simp only [AM.bind];congr 1;funext x;exact ih x
 | a::r,b=>by simp only [List.cons_append,AD,OY f r b,Nw,Cb]
abbrev vn (v:V):V × List Nat:=(v,[])
theorem LJ {α:Type} (thr d:Nat) (f:α→V) (h:∀ x,AI thr d (f x)=.ret (f x,[])) (l:List α):AD (AI thr d) (l.map f)=.ret ((l.map f).map vn):=by
 rw [dT _ _ (fun x=>vn (f x)) h l,List.map_map];rfl
theorem zX (thr d:Nat) (l:List Ao):AD (AI thr (d+2)) (l.map eW)=.ret ((l.map eW).map vn):=LJ _ _ _ (fun x=>by simp only [oS,eS,eW,eI,eR,eWr,eE,Hb,EK,Gp,Ha,HN,HO,Cb,List.map_cons,List.map_nil,List.flatten_cons,List.flatten_nil,List.append_nil,List.nil_append]) l
theorem a0a (thr d:Nat) (l:List AF):AD (AI thr (d+2)) (l.map eI)=.ret ((l.map eI).map vn):=LJ _ _ _ (fun x=>by simp only [oS,eS,eW,eI,eR,eWr,eE,Hb,EK,Gp,Ha,HN,HO,Cb,List.map_cons,List.map_nil,List.flatten_cons,List.flatten_nil,List.append_nil,List.nil_append]) l
theorem zZ (thr d:Nat) (l:List AH):AD (AI thr (d+2)) (l.map eR)=.ret ((l.map eR).map vn):=LJ _ _ _ (fun x=>by simp only [oS,eS,eW,eI,eR,eWr,eE,Hb,EK,Gp,Ha,HN,HO,Cb,List.map_cons,List.map_nil,List.flatten_cons,List.flatten_nil,List.append_nil,List.nil_append]) l
theorem sK (thr d:Nat) (l:List Ai):AD (AI thr (d+2)) (l.map eWr)=.ret ((l.map eWr).map vn):=LJ _ _ _ (fun x=>by simp only [oS,eS,eW,eI,eR,eWr,eE,Hb,EK,Gp,Ha,HN,HO,Cb,List.map_cons,List.map_nil,List.flatten_cons,List.flatten_nil,List.append_nil,List.nil_append]) l
theorem a0b (thr d:Nat) (l:List Ba):AD (AI thr (d+2)) (l.map eE)=.ret ((l.map eE).map vn):=LJ _ _ _ (fun x=>by simp only [oS,eS,eW,eI,eR,eWr,eE,Hb,EK,Gp,Ha,HN,HO,Cb,List.map_cons,List.map_nil,List.flatten_cons,List.flatten_nil,List.append_nil,List.nil_append]) l
theorem zW (thr d:Nat) (l:List Ag):AD (AI thr (d+2)) (l.map oS)=.ret ((l.map oS).map vn):=LJ _ _ _ (fun x=>by simp only [oS,eS,eW,eI,eR,eWr,eE,Hb,EK,Gp,Ha,HN,HO,Cb,List.map_cons,List.map_nil,List.flatten_cons,List.flatten_nil,List.append_nil,List.nil_append]) l
theorem zY (p:Bool) (thr d:Nat) (l:List Ag):AD (AI thr (d+2)) (l.map (eS p))=.ret ((l.map (eS p)).map vn):=LJ _ _ _ (fun x=>by simp only [oS,eS,eW,eI,eR,eWr,eE,Hb,EK,Gp,Ha,HN,HO,Cb,List.map_cons,List.map_nil,List.flatten_cons,List.flatten_nil,List.append_nil,List.nil_append]) l
theorem Vb (l:List V):List.map (fun x:V × List Nat=>x.1) (l.map vn)=l:=by simp [Function.comp_def]
theorem Va (l:List V):(List.map (fun x:V × List Nat=>x.2) (l.map vn)).flatten=[]:=by
 induction l with
 | nil=>rfl
 | cons a l ih=>simp
theorem ZL (l:List Ag):AE (l.map (eS true))=true:=Es _ (fun _=>by simp [eS,V.perm,AE]) l
attribute [go_sem] co_0 co_s vY cU cT cV cX rO OY zX a0a zZ sK a0b zW zY Vb Va ZL JY List.map_append List.flatten_append
attribute [go_sem low] x_N
end Ve
namespace Ve
open Go
section fx
variable {R:Type}
def OLe (O O':Orc):Prop:=∀ g xs h n r,O g xs h n=some r→O' g xs h n=some r
def PLe (P P':FuncId→List V→Option V):Prop:=∀ g xs r,P g xs=some r→P' g xs=some r
theorem Xw {α β:Type} (m:AM α) (f:α→AM β) (h:Nat→Option Obj):(m.bind f).runR h=match m.runR h with
  | some x=>(match (f x.1).runR h with | some y=>some (y.1,x.2++y.2) | none=>none)
  | none=>none:=by
 induction m with
 | ret a =>
  simp only [AM.bind,AM.runR,List.nil_append]
  cases (f a).runR h<;>rfl
 | fail=>rfl
 | rdo o k ih =>
  simp only [AM.bind,AM.runR]
  rw [ih (h o)]
  cases (k (h o)).runR h with
  | none=>rfl
  | some x =>
   dsimp only
   cases (f x.1).runR h<;>rfl
def RLe (m m':AM Eff):Prop:=∀ h r,m.runR h=some r→m'.runR h=some r
theorem RLe.run {m m':AM Eff} (hm:RLe m m') {h:Nat→Option Obj} {x:Eff} (e:m.run h=some x):m'.run h=some x:=by
 have h1:=m.runR_eq h
 rw [e] at h1
 have h2:=hm h _ h1
 have h3:=m'.runR_eq h
 rw [h2] at h3
 cases h4:m'.run h with
 | none=>rw [h4] at h3;cases h3
 | some y=>rw [h4] at h3;simp only [Option.some.injEq,Prod.mk.injEq] at h3;rw [h3.1]
inductive KLe:OpK→OpK→Prop
 | p (v:Option V):KLe (.p v) (.p v)
 | m {m m':AM Eff} (h:RLe m m'):KLe (.m m) (.m m')
 | i (g:FuncId) (xs:List V):KLe (.i g xs) (.i g xs)
theorem KLe.refl:∀ x,KLe x x
 | .p v=>.p v
 | .m _=>.m fun _ _ h=>h
 | .i g xs=>.i g xs
theorem SH {P P':FuncId→List V→Option V} (hP:PLe P P') (owns:List Bool) (nid:Nat) (frz:Bool) (g:FuncId) (xs:List V):RLe (Dy P owns nid frz g xs) (Dy P' owns nid frz g xs):=by
 intro h r e
 simp only [Dy,Xw] at e ⊢
 cases hx:(IG owns xs).runR h with
 | none=>rw [hx] at e;cases e
 | some x =>
  rw [hx] at e
  simp only at e ⊢
  by_cases hn:x.1.2.Nodup
  ·simp only [hn,if_true] at e ⊢
   cases hp:P g x.1.1 with
   | none=>rw [hp] at e;simp [AM.runR] at e
   | some v=>rw [hp] at e;rw [hP _ _ _ hp];exact e
  ·simp only [hn,if_false] at e
   simp [AM.runR] at e
theorem XS {T:Tbl} {P P':FuncId→List V→Option V} (hP:PLe P P') (nid:Nat) (frz:Bool) (f:V) (args:List V):KLe (Fw T P nid frz f args) (Fw T P' nid frz f args):=by
 unfold Fw
 split
 ·split
  ·split
   ·exact .refl _
   ·split
    ·split<;>exact .refl _
    ·exact .m (SH hP _ _ _ _ _)
  ·exact .refl _
 ·exact .refl _
theorem aB {L:Lay} {T:Tbl} {P P':FuncId→List V→Option V} (hP:PLe P P') (e:Operand→V) (nid:Nat) (frz:Bool) (op:Op):KLe (opK L T P e nid frz op) (opK L T P' e nid frz op):=by
 cases op with
 | call c =>
  simp only [opK]
  split
  all_goals first
   | exact .refl _
   | exact XS hP _ _ _ _
 | _=>exact .refl _
theorem Ov {m m':AM Eff} (h:RLe m m'):∀ g,RLe (Dm g m) (Dm g m')
 | some true=>h
 | some false=>fun _ _ e=>e
 | none=>fun _ _ e=>e
theorem Hh {L:Lay} {T:Tbl} {O O':Orc} {P P':FuncId→List V→Option V} (hO:OLe O O') (hP:PLe P P'):∀ (ios:List IOp) (s:St) (k k':St→Option R) (r:R),Cf L T O P ios s k=some r→(∀ s,k s=some r→k' s=some r)→Cf L T O' P' ios s k'=some r
 | [],s,k,k',r,h,hk=>hk s h
 | o::ios,s,k,k',r,h,hk=>by
  simp only [Cf] at h ⊢
  have hle:=aB (L:=L) (T:=T) hP (eV s.tm) s.n o.frz o.op
  generalize opK L T P (eV s.tm) s.n o.frz o.op=x at h hle
  generalize opK L T P' (eV s.tm) s.n o.frz o.op=y at hle ⊢
  cases hle with
  | p v =>
   simp only [Fp] at h ⊢
   split at h
   ·exact Hh hO hP ios _ k k' r h hk
   ·cases h
  | m hm =>
   simp only [Hx] at h ⊢
   split at h
   ·rename_i x hx
    rw [(Ov hm _).run hx]
    exact Hh hO hP ios _ k k' r h hk
   ·cases h
  | i g xs =>
   simp only [Ju] at h ⊢
   cases hg:CH s.tm o.guard with
   | none=>rw [hg] at h;simp [Iv] at h
   | some b =>
    rw [hg] at h
    cases b with
    | false=>simp only [Iv] at h ⊢;exact Hh hO hP ios _ k k' r h hk
    | true =>
     simp only [Iv] at h ⊢
     cases ho:O g xs s.hp s.n with
     | none=>rw [ho] at h;cases h
     | some z=>rw [ho] at h;rw [hO _ _ _ _ _ ho];exact Hh hO hP ios _ k k' r h hk
theorem JA {L:Lay} {T:Tbl} {P P':FuncId→List V→Option V} (hP:PLe P P'):∀ (ios:List IOp) (i:Nat) (s:St) (rcs:List Rec) (k k':St→List Rec→Option R) (r:R),Bz L T P i ios s rcs k=some r→(∀ s rcs,k s rcs=some r→k' s rcs=some r) →
  Bz L T P' i ios s rcs k'=some r
 | [],i,s,rcs,k,k',r,h,hk=>hk s rcs h
 | o::ios,i,s,rcs,k,k',r,h,hk=>by
  simp only [Bz] at h ⊢
  have hle:=aB (L:=L) (T:=T) hP (eV s.tm) s.n o.frz o.op
  generalize opK L T P (eV s.tm) s.n o.frz o.op=x at h hle
  generalize opK L T P' (eV s.tm) s.n o.frz o.op=y at hle ⊢
  cases hle with
  | p v =>
   simp only [Fp] at h ⊢
   split at h
   ·exact JA hP ios _ _ _ k k' r h hk
   ·cases h
  | m hm =>
   simp only [KE] at h ⊢
   split at h
   ·rename_i x hx
    rw [Ov hm _ _ _ hx]
    exact JA hP ios _ _ _ k k' r h hk
   ·cases h
  | i g xs=>cases h
theorem rC {C:Ctx} {O O':Orc} {P P':FuncId→List V→Option V} (hO:OLe O O') (hP:PLe P P') {k k':Nat} (hk:k≤k') {r:R}:∀ (ir:IR),
  (∀ s q q',QLe r q q'→evC C O P k ir s q=some r→evC C O' P' k' ir s q'=some r)∧(∀ l s q q',QLe r q q'→CZ C O P k ir l s q=some r→CZ C O' P' k' ir l s q'=some r):=by
 intro ir
 induction ir with
 | skip=>exact ⟨fun s q q' hq h=>by simp only [evC] at h ⊢;exact hq _ _ h,fun l s q q' hq h=>by cases h⟩
 | label l0=>exact ⟨fun s q q' hq h=>by simp only [evC] at h ⊢;exact hq _ _ h,fun l s q q' hq h=>by simp only [CZ] at h ⊢;exact hq _ _ h⟩
 | region ops d =>
  refine ⟨fun s q q' hq h=>?_,fun l s q q' hq h=>by cases h⟩
  cases d with
  | none=>simp only [evC] at h ⊢;exact Hh hO hP _ _ _ _ _ h (fun s h=>hq _ _ h)
  | some bef =>
   simp only [evC] at h ⊢
   split at h
   ·refine JA hP _ _ _ _ _ _ _ h (fun s rcs h=>?_)
    simp only [HT] at h ⊢
    split at h
    ·exact hq _ _ h
    ·cases h
   ·cases h
 | seq a b iha ihb =>
  have hth:∀ {q q':Out→St→Option R},QLe r q q'→QLe r (BI (fun s=>evC C O P k b s q) q) (BI (fun s=>evC C O' P' k' b s q') q'):=by
   intro q q' hq o s h
   cases o with
   | normal=>exact ihb.1 _ _ _ hq h
   | exit i=>exact hq _ _ h
   | goto l=>exact hq _ _ h
   | ret=>exact hq _ _ h
  refine ⟨fun s q q' hq h=>?_,fun l s q q' hq h=>?_⟩
  ·simp only [evC] at h ⊢;exact iha.1 _ _ _ (hth hq) h
  ·simp only [CZ] at h ⊢
   split at h
   ·exact iha.2 _ _ _ _ (hth hq) h
   ·exact ihb.2 _ _ _ _ hq h
 | cond c a b iha ihb =>
  refine ⟨fun s q q' hq h=>?_,fun l s q q' hq h=>by cases h⟩
  simp only [evC] at h ⊢
  generalize (eV s.tm c).bool?=x at h ⊢
  match x,h with
  | some true,h=>exact iha.1 _ _ _ hq h
  | some false,h=>exact ihb.1 _ _ _ hq h
  | none,h=>cases h
 | block id b ih =>
  refine ⟨fun s q q' hq h=>?_,fun l s q q' hq h=>by cases h⟩
  simp only [evC] at h ⊢
  refine ih.1 _ _ _ (fun o s h=>?_) h
  cases o with
  | exit i =>
   simp only [De] at h ⊢
   split at h<;>exact hq _ _ h
  | normal=>exact hq _ _ h
  | goto l=>exact hq _ _ h
  | ret=>exact hq _ _ h
 | loop live b ih =>
  refine ⟨fun s q q' hq h=>?_,fun l s q q' hq h=>by cases h⟩
  simp only [evC] at h ⊢
  have hf:∀ s' (q q':Out→St→Option R),QLe r q q'→evC C O P k b s' (Aq live q)=some r→evC C O' P' k' b s' (Aq live q')=some r:=by
   intro s' q q' hq h
   refine ih.1 s' _ _ (fun o s h=>?_) h
   cases o<;>exact hq _ _ h
  exact IA (f:=fun s q=>evC C O P k b s (Aq live q)) (f':=fun s q=>evC C O' P' k' b s (Aq live q)) hf hq _ _ _ hk h
 | exit id live=>exact ⟨fun s q q' hq h=>by simp only [evC] at h ⊢;exact hq _ _ h,fun l s q q' hq h=>by cases h⟩
 | goto l0=>exact ⟨fun s q q' hq h=>by simp only [evC] at h ⊢;exact hq _ _ h,fun l s q q' hq h=>by cases h⟩
 | ret live=>exact ⟨fun s q q' hq h=>by simp only [evC] at h ⊢;exact hq _ _ h,fun l s q q' hq h=>by cases h⟩
 | refuse=>exact ⟨fun s q q' hq h=>(by cases h),fun l s q q' hq h=>by cases h⟩
 | scope live b ih =>
  refine ⟨fun s q q' hq h=>?_,fun l s q q' hq h=>by cases h⟩
  simp only [evC] at h ⊢
  refine ih.1 _ _ _ (fun o s h=>?_) h
  cases o with
  | goto l=>exact HI (f:=fun l s q=>CZ C O P k b l s q) (f':=fun l s q=>CZ C O' P' k' b l s q) (fun l s q q' hq h=>ih.2 l s q q' hq h) hq _ _ _ _ hk h
  | exit i=>exact hq _ _ h
  | normal=>exact hq _ _ h
  | ret=>exact hq _ _ h
end fx
theorem NX {O O':Orc} (hO:OLe O O'):PLe (Aa O) (Aa O'):=by
 intro g xs r h
 simp only [Aa] at h ⊢
 split at h
 ·rename_i v hp' n' ho
  rw [hO _ _ _ _ _ ho]
  exact h
 ·cases h
theorem cE {C:Ctx}:∀ (i:Nat),OLe (kK C i) (Lv C i)
 | 0=>fun g xs h n r e=>by cases e
 | i+1=>fun g xs h n r e=>by
  refine Vd (k:=i) ?_
  simp only [kK,Em] at e ⊢
  split at e
  ·cases e
  ·exact (rC (cE i) (NX (cE i)) (Nat.le_refl i) _).1 _ _ _ (fun _ _ h=>h) e
theorem IZ {C:Ctx} (i:Nat) {g:FuncId} {xs:List V} {r:V} (h:Aa (kK C i) g xs=some r):Aa (Lv C i) g xs=some r:=NX (cE i) _ _ _ h
end Ve
namespace Ve
open Go
theorem bW {thr:Nat} {live:List Nat} {f:St→(Out→St→Option Ans)→Option Ans} {q:Out→St→Option Ans} {Q:V→Hp→Nat→Prop} {u:Dum f} {w:Dum q} (S:Nat→St) (n:Nat) (good:Nat→Bool)
  (hstep:∀ j kk,j<n→good j=true→GL thr live f q kk (S (j+1)) Q u w→GN thr live (S j) (fun s=>f s fun o s=>BI (Bg thr live f q kk) q o s) Q ⟨⟩)
  (hbad:∀ j kk,j<n→good j=false→(∀ i,i<j→good i=true)→GN thr live (S j) (fun s=>f s fun o s=>BI (Bg thr live f q kk) q o s) Q ⟨⟩)
  (hend:∀ kk,(∀ i,i<n→good i=true)→GN thr live (S n) (fun s=>f s fun o s=>BI (Bg thr live f q kk) q o s) Q ⟨⟩) :
  ∀ (d j k:Nat),j+d=n→d<k→(∀ i,i<j→good i=true)→GL thr live f q k (S j) Q u w
 | 0,j,0,_,hk,_=>by omega
 | 0,j,k+1,hj,_,hg=>by
  obtain rfl:j=n:=by omega
  exact hend k hg
 | d+1,j,0,_,hk,_=>by omega
 | d+1,j,k+1,hj,hk,hg=>by
  cases hb:good j with
  | false=>exact hbad j k (by omega) hb hg
  | true =>
   refine hstep j k (by omega) hb (bW S n good hstep hbad hend d (j+1) k (by omega) (by omega) ?_)
   intro i hi
   rcases Nat.lt_or_eq_of_le (Nat.le_of_lt_succ hi) with h | rfl
   ·exact hg i h
   ·exact hb
theorem Iw {thr:Nat} {live:List Nat} {f:St→(Out→St→Option Ans)→Option Ans} {q:Out→St→Option Ans} {k:Nat} {s:St} {Q:V→Hp→Nat→Prop} {u:Dum f} {w:Dum q} (S:Nat→St) (n:Nat) (good:Nat→Bool) (hs:s=S 0) (hk:n<k)
  (hstep:∀ j kk,j<n→good j=true→GL thr live f q kk (S (j+1)) Q u w→GN thr live (S j) (fun s=>f s fun o s=>BI (Bg thr live f q kk) q o s) Q ⟨⟩)
  (hbad:∀ j kk,j<n→good j=false→(∀ i,i<j→good i=true)→GN thr live (S j) (fun s=>f s fun o s=>BI (Bg thr live f q kk) q o s) Q ⟨⟩)
  (hend:∀ kk,(∀ i,i<n→good i=true)→GN thr live (S n) (fun s=>f s fun o s=>BI (Bg thr live f q kk) q o s) Q ⟨⟩) :
  GL thr live f q k s Q u w:=by
 rw [hs]
 exact bW S n good hstep hbad hend n 0 k (by omega) hk (by omega)
theorem gl_each {thr:Nat} {live:List Nat} {f:St→(Out→St→Option Ans)→Option Ans} {q:Out→St→Option Ans} {k:Nat} {s:St} {Q:V→Hp→Nat→Prop} {u:Dum f} {w:Dum q} (S:Nat→St) (n:Nat) (hs:s=S 0) (hk:n<k)
  (hstep:∀ j kk,j<n→GL thr live f q kk (S (j+1)) Q u w→GN thr live (S j) (fun s=>f s fun o s=>BI (Bg thr live f q kk) q o s) Q ⟨⟩)
  (hend:∀ kk,GN thr live (S n) (fun s=>f s fun o s=>BI (Bg thr live f q kk) q o s) Q ⟨⟩) :
  GL thr live f q k s Q u w :=
 Iw S n (fun _=>true) hs hk (fun j kk hj _=>hstep j kk hj) (fun _ _ _ h=>by cases h) (fun kk _=>hend kk)
theorem Fm {live:List Nat} {f:St→(Out→St→Option Ans)→Option Ans} {q:Out→St→Option Ans} {k:Nat} {tm:Nat→V} {h:Hp} {n:Nat} {Q:V→Hp→Nat→Prop} {u:Dum f} {w:Dum q} (hs:(live.map tm).all (fun v=>v.slotO.isNone)=true) :
  GL 0 live f q k ⟨tm,h,n⟩ Q u w=GL 0 live f q k ⟨tm,Af,0⟩ Q u w:=by
 have e1:∀ (h:Hp) (vs:List V),vs.all (fun v=>v.slotO.isNone)=true→Fk 0 h vs=[]:=by
  intro h vs
  induction vs with
  | nil=>intro _;rfl
  | cons v r ih =>
   intro hv
   simp only [List.all_cons,Bool.and_eq_true] at hv
   simp only [Fk]
   cases hvo:v.slotO with
   | none=>exact ih hv.2
   | some o=>rw [hvo] at hv;simp at hv
 have e2:∀ (h h':Hp) (vs:List V) (m:Nat),vs.all (fun v=>v.slotO.isNone)=true→HD 0 h vs m=HD 0 h' vs m:=by
  intro h h' vs
  induction vs with
  | nil=>intro _ _;rfl
  | cons v r ih =>
   intro m hv
   simp only [List.all_cons,Bool.and_eq_true] at hv
   simp only [HD]
   cases hvo:v.slotO with
   | none=>simp only [Zq,ih m hv.2]
   | some o=>rw [hvo] at hv;simp at hv
 have e3:MC 0 live ⟨tm,h,n⟩=MC 0 live ⟨tm,Af,0⟩:=by
  simp only [MC,UW,e1 _ _ hs,e2 h Af _ _ hs];rfl
 cases k with
 | zero=>rfl
 | succ k =>
  rw [gLs,gLs]
  simp only [GN,Gh,e3]
theorem EE {thr:Nat} {live:List Nat} {f:St→(Out→St→Option Ans)→Option Ans} {q:Out→St→Option Ans} {k:Nat} {s s':St} {Q:V→Hp→Nat→Prop} {u:Dum f} {w:Dum q} (h:GL thr live f q k s Q u w) (e:MC thr live s'=MC thr live s):GL thr live f q k s' Q u w:=by
 cases k with
 | zero=>exact h
 | succ k =>
  rw [gLs] at h ⊢
  simp only [GN,Gh] at h ⊢
  rw [e];exact h
theorem CC {C:Ctx} {j:Nat} {g:FuncId} {xs:List V} {hp:Hp} {n:Nat} {K:V→Hp→Nat→Option Ans} {Q:V→Hp→Nat→Prop} {u:Dum K} {nt:Nat} {rs:List ResultVar} {ts:List TypeId} {b:IR} {ow:List Bool} {inl:Bool} {cl:Option (Nat × Nat)} (hd:C.T g=some ⟨nt,rs,ts,b,ow,inl,cl⟩) (k:Nat)
  (h:Fin (evC C (Lv C j) (Aa (Lv C j)) k b ⟨Fu xs,hp,n⟩ (cJ C.L rs ts)) (fun v h n=>Fin (K v h n) Q)):GI (Lv C (j+1) g xs hp n) K Q u:=by
 obtain ⟨v,h',n',h1,h2⟩:=h
 have h3:Lv C (j+1) g xs hp n=some (v,h',n'):=by
  refine Vd (k:=k) ?_
  rw [KV hd,← h1];rfl
 rw [h3]
 exact h2
end Ve
namespace Ve
open Go
theorem lV (thr d:Nat) (l:List Ag) (k:Nat) (x:V) (hk:k<l.length):AD (AI thr (d+2)) ((l.map oS).set k x)=(AI thr (d+2) x).bind fun y=>.ret (((l.map oS).map vn).set k y) :=
 Uu _ vn x _ _ (fun y hy=>by
  obtain ⟨s,_,rfl⟩:=List.mem_map.1 hy
  simp only [oS,Hb,EK,Gp,Ha,HN,HO,Cb,List.map_cons,List.map_nil,List.flatten_cons,List.flatten_nil,List.append_nil,List.nil_append]) (by simpa using hk)
theorem gF (d:Nat) (l:List Ag) (k:Nat) (x:V) (hk:k<l.length):AD (AQ (d+2)) ((l.map oS).set k x)=(AQ (d+2) x).bind fun y=>.ret ((l.map (eS false)).set k y):=by
 have:=Uu (AQ (d+2)) (fun v=>v.bz) x (l.map oS) k (fun y hy=>by
  obtain ⟨s,_,rfl⟩:=List.mem_map.1 hy
  simp only [oS,Uq,Nt,QQ,Up,Uo,Zv,EK,Gp,Zu,Zt,Cb]) (by simpa using hk)
 rw [this]
 congr 1
 funext y
 rw [List.map_map]
 congr 3
 funext s
 simp only [Function.comp,oS,eS,Uq,Nt,QQ,Up,Uo,cR,cP,Uc]
theorem RQ (L:List V) (k:Nat) (y:V × List Nat):List.map (fun x:V × List Nat=>x.1) ((L.map vn).set k y)=L.set k y.1:=by
 rw [List.map_set,Vb]
theorem RP (L:List V) (k:Nat) (y:V × List Nat) (hk:k<L.length):(List.map (fun x:V × List Nat=>x.2) ((L.map vn).set k y)).flatten=y.2:=by
 induction L generalizing k with
 | nil=>simp at hk
 | cons a l ih=>cases k with
  | zero=>simp only [List.map_cons,List.set_cons_zero,List.flatten_cons];rw [Va];simp
  | succ k=>simp only [List.map_cons,List.set_cons_succ,List.flatten_cons];rw [ih k (by simpa using hk)];rfl
theorem NY:∀ (l:List V) (k:Nat) (x:V),AE l=true→x.perm=true→AE (l.set k x)=true
 | [],_,_,_,_=>by simp [AE]
 | a::l,0,x,h,hx=>by simp only [FZ,Bool.and_eq_true] at h;simp only [List.set_cons_zero,FZ,hx,h.2,Bool.and_self]
 | a::l,k+1,x,h,hx=>by simp only [FZ,Bool.and_eq_true] at h;simp only [List.set_cons_succ,FZ,h.1,NY l k x h.2 hx,Bool.and_self]
theorem TG (l:List Ag) (k:Nat) (x:V) (hx:x.perm=true):AE ((l.map oS).set k x)=true:=NY _ _ _ (RH l) hx
theorem LX:∀ (l:List V) (k:Nat) (x:V),bzs (l.set k x)=(bzs l).set k x.bz
 | [],_,_=>by simp [bzs]
 | a::l,0,x=>by simp [bzs]
 | a::l,k+1,x=>by simp [bzs,LX l k x]
attribute [go_sem] lV gF RQ RP TG LX List.length_map
end Ve
