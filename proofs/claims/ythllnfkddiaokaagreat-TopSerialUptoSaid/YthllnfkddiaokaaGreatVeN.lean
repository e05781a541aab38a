/- The evaluator's steps as rewriting rules. -/
import Derived.Test.YthllnfkddiaokaaGreatVeM
import Derived.Attr
import Derived.Test.YthllnfkddiaokaaGreatVeC
set_option linter.all false
set_option linter.unusedSectionVars false
namespace Ve
open Go
section
variable {R:Type}
@[congr] theorem bindP_congr {v v':Option V} {k:V→Option R} (e:v=v'):Hz v k=Hz v' k:=by rw [e]
@[congr] theorem bindM_congr {m m':AM Eff} {h:Hp} {n:Nat} {k:V→Hp→Nat→Option R} (e:m=m'):Jg m h n k=Jg m' h n k:=by rw [e]
@[congr] theorem bindR_congr {m m':AM Eff} {h:Hp} {n i:Nat} {rcs:List Rec} {k:V→Hp→Nat→List Rec→Option R} (e:m=m'):NV m h n i rcs k=NV m' h n i rcs k:=by rw [e]
@[congr] theorem bindI_congr {x x':Option (V × Hp × Nat)} {k:V→Hp→Nat→Option R} (e:x=x'):Mw x k=Mw x' k:=by rw [e]
@[congr] theorem condK_congr {b b':Option Bool} {x y:Option R} (e:b=b'):RD b x y=RD b' x y:=by rw [e]
@[congr] theorem heapK_congr {bef:List (List Nat)} {rcs rcs':List Rec} {x:Option R} (e:rcs=rcs'):JI bef rcs x=JI bef rcs' x:=by rw [e]
theorem bindP_some (v:V) (k:V→Option R):Hz (some v) k=k v:=rfl
def WR (b:Bool) (x y:Option R):Option R :=
 match b with
 | true=>x
 | false=>y
@[congr] theorem splitK_congr {b b':Bool} {x y:Option R} (e:b=b'):WR b x y=WR b' x y:=by rw [e]
theorem splitK_true (x y:Option R):WR true x y=x:=rfl
def DZ (m:AM Eff) (h:Hp) (n i:Nat) (ro:List Nat) (rcs:List Rec) (k:V→Hp→Nat→List Rec→Option R):Option R :=
 match m.run h with
 | some x=>k x.v (Au h x.upd) (n+x.new) (Fu i (ro++m.reads h) (x.upd.map (·.1)) rcs)
 | none=>none
@[congr] theorem bindR'_congr {m m':AM Eff} {h:Hp} {n i:Nat} {ro:List Nat} {rcs:List Rec} {k:V→Hp→Nat→List Rec→Option R} (e:m=m'):DZ m h n i ro rcs k=DZ m' h n i ro rcs k:=by rw [e]
theorem oY (m:AM Eff) (h:Hp) (n i:Nat) (rcs:List Rec) (k:V→Hp→Nat→List Rec→Option R):NV m h n i rcs k=DZ m h n i [] rcs k:=Mv m h n i rcs k
theorem Ls (x:Eff) (h:Hp) (n i:Nat) (ro:List Nat) (rcs:List Rec) (k:V→Hp→Nat→List Rec→Option R):DZ (.ret x) h n i ro rcs k=k x.v (Au h x.upd) (n+x.new) (Fu i ro (x.upd.map (·.1)) rcs):=by
 simp [DZ,AM.run,AM.reads]
theorem Qo (o:Nat) (f:Option Obj→AM Eff) (h:Hp) (n i:Nat) (ro:List Nat) (rcs:List Rec) (k:V→Hp→Nat→List Rec→Option R):DZ (.rdo o f) h n i ro rcs k=DZ (f (h o)) h n i (ro++[o]) rcs k:=by
 simp [DZ,AM.run,AM.reads]
end
theorem qD (h:Hp):Au h []=h:=rfl
theorem gO (h:Hp) (o:Nat) (x:Option Obj) (r:List (Nat × Option Obj)):Au h ((o,x)::r)=Au (Fd h o x) r:=rfl
theorem a4z {α:Type} (o:Nat) (k:Obj→AM α):AM.rd o k=.rdo o fun | some ob=>k ob | none=>.fail:=rfl
theorem Bv {α β:Type} (a:α) (f:α→AM β):(AM.ret a).bind f=f a:=rfl
theorem oX {α β:Type} (o:Nat) (k:Option Obj→AM α) (f:α→AM β):(AM.rdo o k).bind f=.rdo o fun ob=>(k ob).bind f:=rfl
theorem vL (L:Lay) (t:TypeId) (cs:List V):Bu L t (.agg cs)=.agg cs:=by simp [Bu,V.isNil]
theorem vK (L:Lay) (t:TypeId) (k:IntKind) (n:Int):Bu L t (.lit (.int k n))=.lit (.int k n):=by simp [Bu,V.isNil]
theorem nG (L:Lay) (t:TypeId) (b:Bool):Bu L t (.lit (.bool b))=.lit (.bool b):=by simp [Bu,V.isNil]
theorem a3f (L:Lay) (t:TypeId) (o:Nat):Bu L t (.sl o)=.sl o:=by simp [Bu,V.isNil]
theorem vJ (L:Lay) (t:TypeId) (p nn:Bool) (sz:Nat) (els:List V):Bu L t (.isl p nn sz els)=.isl p nn sz els:=by simp [Bu,V.isNil]
theorem vI (L:Lay) (t:TypeId) (sz:Nat) (els:List V):Bu L t (.own sz els)=.own sz els:=by simp [Bu,V.isNil]
theorem vH (L:Lay) (t:TypeId) (o i f:Nat):Bu L t (.ptr o i f)=.ptr o i f:=by simp [Bu,V.isNil]
theorem a3g (L:Lay) (t:TypeId) (p:Bool) (row:List V) (f:Nat):Bu L t (.ip p row f)=.ip p row f:=by simp [Bu,V.isNil]
section
variable {L:Lay} {t:TypeId} {k:IntKind} {a b:Int}
theorem xP:BJ L .add t (.lit (.int k a)) (.lit (.int k b))=some (.lit (.int k (k.wrap (a+b)))):=by simp [BJ,binOp,Op.intArith,Op.intCmp];rfl
theorem xG:BJ L .sub t (.lit (.int k a)) (.lit (.int k b))=some (.lit (.int k (k.wrap (a - b)))):=by simp [BJ,binOp,Op.intArith,Op.intCmp];rfl
theorem xI:BJ L .mul t (.lit (.int k a)) (.lit (.int k b))=some (.lit (.int k (k.wrap (a*b)))):=by simp [BJ,binOp,Op.intArith,Op.intCmp];rfl
theorem xJ:BJ L .lss t (.lit (.int k a)) (.lit (.int k b))=some (.lit (.bool (decide (a<b)))):=by simp [BJ,binOp,Op.intArith,Op.intCmp];rfl
theorem xK:BJ L .leq t (.lit (.int k a)) (.lit (.int k b))=some (.lit (.bool (decide (a≤b)))):=by simp [BJ,binOp,Op.intArith,Op.intCmp];rfl
theorem xL:BJ L .gtr t (.lit (.int k a)) (.lit (.int k b))=some (.lit (.bool (decide (b<a)))):=by simp [BJ,binOp,Op.intArith,Op.intCmp];rfl
theorem xM:BJ L .geq t (.lit (.int k a)) (.lit (.int k b))=some (.lit (.bool (decide (b≤a)))):=by simp [BJ,binOp,Op.intArith,Op.intCmp];rfl
theorem xN:BJ L .eql t (.lit (.int k a)) (.lit (.int k b))=some (.lit (.bool (decide (a=b)))):=by simp [BJ,binOp,Op.intArith,Op.intCmp];rfl
theorem xH:BJ L .neq t (.lit (.int k a)) (.lit (.int k b))=some (.lit (.bool (!decide (a=b)))):=by simp [BJ,binOp,Op.intArith,Op.intCmp];rfl
theorem zH {x:Bool}:kO .not (.lit (.bool x))=some (.lit (.bool !x)):=rfl
end
section
variable {R:Type}
def Fc (O:Orc) (x:OpK) (g:Option Bool) (h:Hp) (n:Nat) (k:V→Hp→Nat→Option R):Option R :=
 match x with
 | .p v=>Hz (JJ g v) fun v=>k v h n
 | .m m=>Jg (Eo g m) h n k
 | .i f xs=>Mw (Pz g h n (O f xs h n)) k
@[congr] theorem stepO_congr {O:Orc} {x x':OpK} {g g':Option Bool} {h:Hp} {n:Nat} {k:V→Hp→Nat→Option R} (e:x=x') (e':g=g'):Fc O x g h n k=Fc O x' g' h n k:=by rw [e,e']
theorem runOps_nil (L:Lay) (T:Tbl) (O:Orc) (P:FuncId→List V→Option V) (s:St) (k:St→Option R):CL L T O P [] s k=k s:=rfl
theorem UO (L:Lay) (T:Tbl) (O:Orc) (P:FuncId→List V→Option V) (o:IOp) (r:List IOp) (tm:Nat→V) (h:Hp) (n:Nat) (k:St→Option R) :
  CL L T O P (o::r) ⟨tm,h,n⟩ k=Fc O (opK L T P (eV tm) n o.frz o.op) (Dj tm o.guard) h n fun v h n=>CL L T O P r ⟨HR tm o.dst v,h,n⟩ k:=by
 simp only [CL,Fc]
 cases opK L T P (eV tm) n o.frz o.op<;>rfl
theorem Ed (O:Orc) (x:OpK) (h:Hp) (n:Nat) (k:V→Hp→Nat→Option R):Fc O x (some false) h n k=k BF h n:=by
 cases x<;>simp [Fc,JJ,Eo,Pz,Hz,Jg,Mw,AM.run,Au]
def Nt (x:OpK) (g:Option Bool) (h:Hp) (n i:Nat) (rcs:List Rec) (k:V→Hp→Nat→List Rec→Option R):Option R :=
 match x with
 | .p v=>Hz (JJ g v) fun v=>k v h n rcs
 | .m m=>NV (Eo g m) h n i rcs k
 | .i _ _=>none
@[congr] theorem stepD_congr {x x':OpK} {g g':Option Bool} {h:Hp} {n i:Nat} {rcs:List Rec} {k:V→Hp→Nat→List Rec→Option R} (e:x=x') (e':g=g'):Nt x g h n i rcs k=Nt x' g' h n i rcs k:=by rw [e,e']
theorem runDraw_nil (L:Lay) (T:Tbl) (P:FuncId→List V→Option V) (i:Nat) (s:St) (rcs:List Rec) (k:St→List Rec→Option R):BZ L T P i [] s rcs k=k s rcs:=rfl
theorem Sx (L:Lay) (T:Tbl) (P:FuncId→List V→Option V) (i:Nat) (o:IOp) (r:List IOp) (tm:Nat→V) (h:Hp) (n:Nat) (rcs:List Rec) (k:St→List Rec→Option R) :
  BZ L T P i (o::r) ⟨tm,h,n⟩ rcs k=Nt (opK L T P (eV tm) n o.frz o.op) (Dj tm o.guard) h n i rcs fun v h n rcs=>BZ L T P (i+1) r ⟨HR tm o.dst v,h,n⟩ rcs k:=by
 simp only [BZ,Nt]
 cases opK L T P (eV tm) n o.frz o.op<;>rfl
theorem WP (m:AM Eff) (h:Hp) (n i:Nat) (rcs:List Rec) (k:V→Hp→Nat→List Rec→Option R):Nt (.m m) (some false) h n i rcs k=k BF h n rcs:=by
 simp [Nt,Eo,Mv,AM.run,AM.reads,Au,Fu]
theorem aV (tm:Nat→V):Dj tm none=some true:=rfl
theorem aU (tm:Nat→V) (t:Tmp) (b:Bool):Dj tm (some (t,b))=KH (tm t) b:=rfl
theorem KY (c:Bool):KH (.lit (.bool c)) true=some c:=by cases c<;>rfl
theorem Jm (c:Bool):KH (.lit (.bool c)) false=some !c:=by cases c<;>rfl
theorem FV (b:Bool):KH BF b=some false:=rfl
theorem bG (tm:Nat→V) (t:Tmp) (v:V):HR tm (some t) v=WL tm t v:=rfl
theorem bH (tm:Nat→V) (v:V):HR tm none v=tm:=rfl
theorem qE (tm:Nat→V) (d:Nat) (v:V) (i:Nat):WL tm d v i=if i=d then v else tm i:=by
 by_cases e:i=d
 ·simp [WL,e]
 ·have:Nat.beq i d=false:=by
   cases hb:Nat.beq i d with
   | false=>rfl
   | true=>exact absurd (Nat.eq_of_beq_eq_true hb) e
  simp [WL,this,e]
theorem Oi (h:Hp) (d:Nat) (v:Option Obj) (i:Nat):Fd h d v i=if i=d then v else h i:=by
 by_cases e:i=d
 ·simp [Fd,e]
 ·simp [BP,e]
theorem Vj (i:Nat) (is:List Nat) (v:V) (vs:List V) (j:Nat):Ad (i::is) (v::vs) j=if j=i then v else Ad is vs j:=rfl
theorem hQ (v:V) (r:List V):Gm (v::r) 0=v:=rfl
theorem hJ (a v:V) (r:List V):Gm (a::v::r) 1=v:=rfl
theorem hD (a b v:V) (r:List V):Gm (a::b::v::r) 2=v:=rfl
theorem gZ (a b c v:V) (r:List V):Gm (a::b::c::v::r) 3=v:=rfl
theorem gY (a b c d v:V) (r:List V):Gm (a::b::c::d::v::r) 4=v:=rfl
theorem gX (a b c d e v:V) (r:List V):Gm (a::b::c::d::e::v::r) 5=v:=rfl
section
variable (C:Ctx) (O:Orc) (P:FuncId→List V→Option V) (k:Nat) (s:St) (q:Out→St→Option R)
theorem vN {ops:List IOp} {bef:List (List Nat)} (h:IB bef 0 ops=true):evC C O P k (.region ops (some bef)) s q=BZ C.L C.T P 0 ops s [] fun s rcs=>JI bef rcs (q .normal s):=by simp [evC,h]
end
theorem Wt (i:Nat) (q:Out→St→Option R) (j:Nat) (s:St):DY i q (.exit j) s=if j=i then q .normal s else q (.exit j) s:=by
 simp only [DY]
 by_cases e:j=i
 ·simp [e]
 ·have:Nat.beq j i=false:=by
   cases hb:Nat.beq j i with
   | false=>rfl
   | true=>exact absurd (Nat.eq_of_beq_eq_true hb) e
  simp [this,e]
theorem jG (live:List Nat) (tm:Nat→V) (h:Hp) (n:Nat):Fv live ⟨tm,h,n⟩=⟨Ad live (live.map tm),h,n⟩:=rfl
@[congr] theorem normK_congr {thr:Nat} {live:List Nat} {s s':St} {k:St→Option R} (e:s=s'):HI thr live s k=HI thr live s' k:=by rw [e]
@[congr] theorem evLoop_congr {thr:Nat} {live:List Nat} {f:St→(Out→St→Option R)→Option R} {q:Out→St→Option R} {k:Nat} {s s':St} (e:s=s'):BD thr live f q k s=BD thr live f q k s':=by rw [e]
@[congr] theorem evC_congr {C:Ctx} {O:Orc} {P:FuncId→List V→Option V} {k:Nat} {b:IR} {s s':St} {q:Out→St→Option R} (e:s=s'):evC C O P k b s q=evC C O P k b s' q:=by rw [e]
@[congr] theorem runOps_congr {L:Lay} {T:Tbl} {O:Orc} {P:FuncId→List V→Option V} {ops:List IOp} {s s':St} {k:St→Option R} (e:s=s'):CL L T O P ops s k=CL L T O P ops s' k:=by rw [e]
end
attribute [go_sem] jG
attribute [go_sem] aV aU KY Jm FV bG bH qE Oi Vj hQ hJ hD gZ gY gX
section
variable (L:Lay) (T:Tbl) (P:FuncId→List V→Option V) (e:Operand→V) (n:Nat) (z:Bool)
theorem a2e (x:Operand):opK L T P e n z (.move x)=.p (some (e x)):=rfl
theorem mO (x:Operand):opK L T P e n z (.assign x)=.p (some (e x)):=rfl
theorem a2d (c a b:Operand):opK L T P e n z (.pick c a b)=.p (Pb (e c) (e a) (e b)):=rfl
theorem uI (t:TypeId):opK L T P e n z (.alloc t)=.m (HH L n t):=rfl
theorem a2j (t:TypeId) (x:Operand):opK L T P e n true (.box t x)=.m (Jx L t (e x)):=rfl
theorem a2k (t:TypeId) (x:Operand):opK L T P e n false (.box t x)=.m (KP L n t (e x)):=rfl
theorem uH (t:TypeId) (ps:Array (Nat × Operand)):opK L T P e n z (.build t ps)=.p (LQ L t (ps.toList.map fun p=>(p.1,e p.2))):=rfl
theorem SO (t:TypeId) (len:Nat) (ps:Array (Nat × Operand)):opK L T P e n z (.buildSlice t len ps)=.m (CR L n t len (ps.toList.map fun p=>(p.1,e p.2))):=rfl
theorem VA (t:TypeId) (l c:Operand):opK L T P e n z (.makeSlice t l c)=.m (Ds L n t (e l) (e c)):=rfl
theorem a2h (d s:Operand) (t u:TypeId):opK L T P e n z (.call { callee:=.builtin .copy,args:=#[d,s],argTypes:=#[t,u] })=.m (Pc L t (e d) (e s)):=rfl
theorem a2f (t:TypeId) (x:Operand):opK L T P e n false (.load t x)=.m (Fe L n t (e x)):=rfl
theorem mN (t:TypeId) (x:Operand):opK L T P e n true (.load t x)=.m (Jy L n t (e x)):=rfl
theorem uD (t:TypeId) (x v:Operand):opK L T P e n z (.store t x v)=.m (LL L t (e x) (e v)):=rfl
theorem XB (x:Operand):opK L T P e n z (.nilCheck x)=.p (Ho (e x)):=rfl
theorem a6v (op:BinOp) (t:TypeId) (x y:Operand) (u:TypeId):opK L T P e n z (.binOp op t x y u)=.p (BJ L op t (e x) (e y)):=rfl
theorem k_un (op:UnOp) (t:TypeId) (x:Operand):opK L T P e n z (.unOp op t x)=.p (kO op (e x)):=rfl
theorem dR (s d:TypeId) (x:Operand):opK L T P e n z (.convert s d x)=.p (FG L s d (e x)):=rfl
theorem XC (f:Fn) (a b:Array Operand):opK L T P e n z (.makeFunc f a b)=.p (some (.fn f (a.toList.map e) (b.toList.map e))):=rfl
theorem uE (t:TypeId) (x:Operand) (lo hi mx:Option Operand):opK L T P e n z (.slice t x lo hi mx)=.p (LM L t (e x) (lo.map e) (hi.map e) (mx.map e)):=rfl
theorem VC (s:TypeId) (x:Operand) (f:Nat):opK L T P e n z (.fieldAddr s x f)=.p (Gc L s (e x) f):=rfl
theorem VB (t:TypeId) (x i:Operand):opK L T P e n false (.indexAddr t x i)=.m (DX L t (e x) (e i)):=rfl
theorem SN (t:TypeId) (x i:Operand):opK L T P e n true (.indexAddr t x i)=.m (Ff L n t (e x) (e i)):=rfl
theorem uG (t:TypeId) (x:Operand) (f:Nat):opK L T P e n z (.field t x f)=.p (LP L t (e x) f):=rfl
theorem uF (t:TypeId) (x i:Operand):opK L T P e n z (.index t x i)=.p (LO L t (e x) (e i)):=rfl
theorem dQ (x:Operand) (i:Nat):opK L T P e n z (.extract x i)=.p (Il (e x) i):=rfl
theorem a6u (x:Operand) (t:TypeId):opK L T P e n z (.call { callee:=.builtin .len,args:=#[x],argTypes:=#[t] })=.m (Pq (e x)):=rfl
theorem a6s (xs:Array Operand) (ts:Array TypeId):opK L T P e n z (.call { callee:=.builtin .min,args:=xs,argTypes:=ts })=.p (Pk (xs.toList.map e)):=rfl
theorem dS (xs:Array Operand) (ts:Array TypeId):opK L T P e n z (.call { callee:=.builtin .complex,args:=xs,argTypes:=ts })=.p (JS (xs.toList.map e)):=rfl
theorem a2c (xs:Array Operand) (ts:Array TypeId):opK L T P e n z (.call { callee:=.builtin .real,args:=xs,argTypes:=ts })=.p (UU (xs.toList.map e)):=rfl
theorem a2g (xs:Array Operand) (ts:Array TypeId):opK L T P e n z (.call { callee:=.builtin .imag,args:=xs,argTypes:=ts })=.p (VF (xs.toList.map e)):=rfl
theorem a6t (xs:Array Operand) (ts:Array TypeId):opK L T P e n z (.call { callee:=.builtin .max,args:=xs,argTypes:=ts })=.p (Pn (xs.toList.map e)):=rfl
theorem mP (s x:Operand) (t:TypeId):opK L T P e n z (.call { callee:=.builtin .append,args:=#[s,x],argTypes:=#[t,t] })=.m (Gd L n t (e s) (e x)):=by
 show (match Nat.beq t t with
  | true=>OpK.m (Gd L n t (e s) (e x))
  | false=>.p none)=_
 rw [Nat.beq_refl]
theorem a2i (f:Operand) (xs:Array Operand) (ts:Array TypeId):opK L T P e n z (.call { callee:=.value f,args:=xs,argTypes:=ts })=IL T P n z (e f) (xs.toList.map e):=rfl
end
attribute [go_sem] VA a2h mN Jy PN a2e mO a2d uI a2j a2k uH SO a2f uD XB a6v k_un dR XC uE VC VB SN Ff uF uG dQ a6u a6s dS a2c a2g a6t mP a2i
theorem a3j (tm:Nat→V) (t:Tmp):eV tm (.tmp t)=tm t:=rfl
theorem nP (tm:Nat→V) (v:Value):eV tm (.const v)=.lit v:=rfl
theorem vU (tm:Nat→V) (f:FuncId):eV tm (.func f)=.fn (.func f) [] []:=rfl
attribute [go_sem] a3j nP vU List.map_cons List.map_nil List.toList_toArray Option.map_some Option.map_none
attribute [go_sem] qD gO a4z Bv oX vL vK nG a3f vJ vI vH a3g xP xG xI xJ xK xL xM xN xH zH
attribute [go_sem] Ho Gc LP SY Fk Pq DP V.int? V.bool? Pb Il
theorem Nf {C:Ctx} {O:Orc} {k f:Nat} {args:List V} {hp:Hp} {n:Nat} {d:IFn} (h:C.T f=some d):Fl C O k f args hp n=evC C O (Aa O) k d.body ⟨Gm args,hp,n⟩ (endK C.L d):=by simp [Fl,h]
abbrev Ak (T:Tbl) (g:Nat) (owns:List Bool):Prop:=∀ (P:FuncId→List V→Option V) (n:Nat) (z:Bool) (a c args:List V),IL T P n z (.fn (.func g) a c) args=.m (Hr P owns n z g (a++args++c))
abbrev aP (T:Tbl) (g:Nat):Prop:=∀ (P:FuncId→List V→Option V) (n:Nat) (z:Bool) (a c args:List V),IL T P n z (.fn (.func g) a c) args=.i g (a++args++c)
abbrev a8p (T:Tbl) (g sz by_:Nat):Prop:=∀ (P:FuncId→List V→Option V) (n:Nat) (z:Bool) (s i v:V),IL T P n z (.fn (.func g) [] []) [s,i,v]=.m (Hq n sz by_ s i v)
abbrev Sa (T:Tbl) (g sz by_:Nat):Prop:=∀ (P:FuncId→List V→Option V) (n:Nat) (z:Bool) (v:V),IL T P n z (.fn (.func g) [] []) [v]=.m (IK n sz by_ v)
def Fin (x:Option Ans) (Q:V→Hp→Nat→Prop):Prop:=∃ v h n,x=some (v,h,n)∧Q v h n
theorem VV (v:V) (h:Hp) (n:Nat) (Q:V→Hp→Nat→Prop):Fin (some (v,h,n)) Q=Q v h n:=by
 refine propext ⟨fun ⟨v',h',n',e,hq⟩=>?_,fun hq=>⟨v,h,n,rfl,hq⟩⟩
 cases e;exact hq
def ClQ (r v:V) (h:Hp) (_:Nat):Prop :=
 match (AR 0 depth v).run h with
 | some (v',ks)=>ks.Nodup∧v'.perm=true∧v'.nice=true∧v'=r
 | none=>False
def nK (L:Lay) (rs:List ResultVar) (ts:List TypeId):Out→St→Option Ans
 | .normal,s=>CE L s.tm rs ts s.hp s.n fun vs hp n=>some (DE vs,hp,n)
 | .ret,s=>CE L s.tm rs ts s.hp s.n fun vs hp n=>some (DE vs,hp,n)
 | _,_=>none
theorem a5e (v:V):DE [v]=v:=rfl
theorem a5f:DE []=.tup []:=rfl
theorem a5d (a b:V) (r:List V):DE (a::b::r)=.tup (a::b::r):=rfl
attribute [go_sem] VV a5f a5e a5d
theorem Af {C:Ctx} {j:Nat} {g:FuncId} {xs:List V} {r:V} {nt:Nat} {rs:List ResultVar} {ts:List TypeId} {b:IR} {ow:List Bool} {inl:Bool} {cl:Option (Nat × Nat)} (hd:C.T g=some ⟨nt,rs,ts,b,ow,inl,cl⟩) (k:Nat)
  (hx:xs.all V.nice1=true)
  (h:Fin (evC C (Lv C j) (Aa (Lv C j)) k b ⟨Gm (Bt 0 xs).1,XF (Bt 0 xs).2,(Bt 0 xs).2.length⟩ (nK C.L rs ts)) (ClQ r)):Aa (Lv C (j+1)) g xs=some r:=by
 obtain ⟨v,hp,n,h1,h2⟩:=h
 have h3:Fl C (Lv C j) k g (Bt 0 xs).1 (XF (Bt 0 xs).2) (Bt 0 xs).2.length=some (v,hp,n):=by
  rw [Nf hd,← h1];rfl
 have h4:=lQ h3
 simp only [ClQ] at h2
 simp only [Aa,h4]
 split at h2
 ·rename_i v' ks hc
  rw [hc]
  obtain ⟨a,b,c,rfl⟩:=h2
  simp only [a,b,c,hx,and_self,if_true]
 ·exact h2.elim
theorem tE (n:Nat):Bt n []=([],[]):=rfl
theorem tF (n:Nat) (v:Value) (r:List V):Bt n (.lit v::r)=(.lit v::(Bt n r).1,(Bt n r).2):=rfl
theorem tG (n:Nat) (p nn:Bool) (sz:Nat) (els:List V) (r:List V):Bt n (.isl p nn sz els::r)=(.isl p nn sz els::(Bt n r).1,(Bt n r).2):=rfl
theorem a1c (n:Nat) (p:Bool) (row:List V) (off:Nat) (r:List V):Bt n (.ip p row off::r)=(.ip p row off::(Bt n r).1,(Bt n r).2):=rfl
theorem a1d (n:Nat) (f:Fn) (a b:List V) (r:List V):Bt n (.fn f a b::r)=(.fn f a b::(Bt n r).1,(Bt n r).2):=rfl
theorem tD (n:Nat) (sz:Nat) (els:List V) (r:List V):Bt n (.own sz els::r)=(.sl n::(Bt (n+1) r).1,⟨sz,els,false⟩::(Bt (n+1) r).2):=rfl
theorem tH (n:Nat) (cs:List V) (r:List V):Bt n (.agg cs::r)=(.agg (Al n cs).1::(Bt (n+(Al n cs).2.length) r).1,(Al n cs).2++(Bt (n+(Al n cs).2.length) r).2):=rfl
theorem a1n (n:Nat):Al n []=([],[]):=rfl
theorem a1o (n:Nat) (v:Value) (r:List V):Al n (.lit v::r)=(.lit v::(Al n r).1,(Al n r).2):=rfl
theorem a1p (n:Nat) (p nn:Bool) (sz:Nat) (els:List V) (r:List V):Al n (.isl p nn sz els::r)=(.isl p nn sz els::(Al n r).1,(Al n r).2):=rfl
theorem a5k (n o:Nat) (r:List V):Al n (.sl o::r)=(.sl o::(Al n r).1,(Al n r).2):=rfl
theorem a5l (n:Nat) (p:Bool) (row:List V) (off:Nat) (r:List V):Al n (.ip p row off::r)=(.ip p row off::(Al n r).1,(Al n r).2):=rfl
theorem a1l (n o i f:Nat) (r:List V):Al n (.ptr o i f::r)=(.ptr o i f::(Al n r).1,(Al n r).2):=rfl
theorem a5m (n:Nat) (f:Fn) (a b:List V) (r:List V):Al n (.fn f a b::r)=(.fn f a b::(Al n r).1,(Al n r).2):=rfl
theorem a1m (n:Nat) (sz:Nat) (els:List V) (r:List V):Al n (.own sz els::r)=(.sl n::(Al (n+1) r).1,⟨sz,els,false⟩::(Al (n+1) r).2):=rfl
theorem a1f (n:Nat) (v:Value):Ik n (.lit v)=(.lit v,[]):=rfl
theorem a1g (n:Nat) (p nn:Bool) (sz:Nat) (els:List V):Ik n (.isl p nn sz els)=(.isl p nn sz els,[]):=rfl
theorem a5h (n:Nat) (f:Fn) (a b:List V):Ik n (.fn f a b)=(.fn f a b,[]):=rfl
theorem a5g (n:Nat) (p:Bool) (row:List V) (off:Nat):Ik n (.ip p row off)=(.ip p row off,[]):=rfl
theorem a1e (n:Nat) (sz:Nat) (els:List V):Ik n (.own sz els)=(.sl n,[⟨sz,els,false⟩]):=rfl
theorem a1h (n:Nat) (cs:List V):Ik n (.agg cs)=(.agg (Al n cs).1,(Al n cs).2):=rfl
theorem a2n (n:Nat) (vs:List V):DQ n (.tup vs)=(.tup (Bt n vs).1,(Bt n vs).2):=rfl
theorem a2p (n:Nat) (v:Value):DQ n (.lit v)=(.lit v,[]):=rfl
theorem a2q (n:Nat) (p nn:Bool) (sz:Nat) (els:List V):DQ n (.isl p nn sz els)=(.isl p nn sz els,[]):=rfl
theorem a7a (n:Nat) (f:Fn) (a b:List V):DQ n (.fn f a b)=(.fn f a b,[]):=rfl
theorem a2o (n:Nat) (sz:Nat) (els:List V):DQ n (.own sz els)=(.sl n,[⟨sz,els,false⟩]):=rfl
theorem a2r (n:Nat) (cs:List V):DQ n (.agg cs)=(.agg (Al n cs).1,(Al n cs).2):=rfl
theorem tI (n:Nat):Cb n []=[]:=rfl
theorem kW (n:Nat) (o:Obj) (r:List Obj):Cb n (o::r)=(n,some o)::Cb (n+1) r:=rfl
attribute [go_sem] tE tF tG a1c a1d tD tH a1n a1o a1p a5k a5l a1l a5m a1m a1f a1g a5h a5g a1e a1h a2n a2p a2q a7a a2o a2r tI kW XF
attribute [go_sem] List.getElem?_cons_zero List.getElem?_cons_succ List.take_succ_cons List.take_zero List.drop_succ_cons List.drop_zero List.length_cons List.length_nil List.headD_cons List.cons_append List.nil_append List.append_nil List.set_cons_zero List.set_cons_succ List.tail_cons List.flatten_nil List.flatten_cons List.length_map V.cells V.withCells List.contains_nil
theorem a3c (v:Value):V.fz (.lit v)=.lit v:=by simp [V.fz]
theorem a3d (p nn:Bool) (sz:Nat) (els:List V):V.fz (.isl p nn sz els)=.isl p nn sz els:=by simp [V.fz]
theorem a3b (sz:Nat) (els:List V):V.fz (.own sz els)=.isl true false sz (fzs els):=by simp [V.fz]
theorem a3e (cs:List V):V.fz (.agg cs)=.agg (fzs cs):=by simp [V.fz]
theorem a2z (cs:List V):V.fz (.tup cs)=.tup (fzs cs):=by simp [V.fz]
theorem vG:fzs []=[]:=by simp [fzs]
theorem nD (v:V) (r:List V):fzs (v::r)=v.fz::fzs r:=by simp [fzs]
theorem Yf (v:Value):V.bz (.lit v)=.lit v:=by simp [V.bz]
theorem a3y (p nn:Bool) (sz:Nat) (els:List V):V.bz (.isl p nn sz els)=.isl p nn sz els:=by simp [V.bz]
theorem Ye (sz:Nat) (els:List V):V.bz (.own sz els)=.isl false false sz (bzs els):=by simp [V.bz]
theorem Yg (cs:List V):V.bz (.agg cs)=.agg (bzs cs):=by simp [V.bz]
theorem Uh:bzs []=[]:=by simp [bzs]
theorem Ql (v:V) (r:List V):bzs (v::r)=v.bz::bzs r:=by simp [bzs]
theorem Fi {α:Type} (f g:α→V) (h:∀ x,(f x).fz=g x):∀ l:List α,fzs (l.map f)=l.map g
 | []=>by simp [fzs]
 | a::l=>by simp [fzs,h,Fi f g h l]
theorem EP {α:Type} (f g:α→V) (h:∀ x,(f x).bz=g x):∀ l:List α,bzs (l.map f)=l.map g
 | []=>by simp [bzs]
 | a::l=>by simp [bzs,h,EP f g h l]
theorem a7o (l:List Aj):fzs (l.map eW)=l.map eW:=Fi _ _ (fun _=>by simp [eW,V.fz,fzs]) l
theorem Zw (l:List AD):fzs (l.map eI)=l.map eI:=Fi _ _ (fun _=>by simp [eI,V.fz,fzs]) l
theorem nR (l:List AZ):fzs (l.map eR)=l.map eR:=Fi _ _ (fun _=>by simp [eR,V.fz,fzs]) l
theorem XQ (l:List Aq):fzs (l.map eWr)=l.map eWr:=Fi _ _ (fun _=>by simp [eWr,V.fz,fzs]) l
theorem a7q (l:List AI):fzs (l.map eE)=l.map eE:=Fi _ _ (fun _=>by simp [eE,V.fz,fzs]) l
theorem a3m (l:List AO):fzs (l.map eSl)=l.map eSl:=Fi _ _ (fun _=>by simp [eSl,V.fz,fzs]) l
theorem a5i (l:List Ae):fzs (l.map oS)=l.map (eS true):=Fi _ _ (fun _=>by simp [oS,eS,V.fz,fzs,Zw,nR,XQ]) l
theorem a1k (x:Ae):(oS x).fz=eS true x:=by simp [oS,eS,V.fz,fzs,Zw,nR,XQ]
theorem a7p (l:List Aj):bzs (l.map eW)=l.map eW:=EP _ _ (fun _=>by simp [eW,V.bz,bzs]) l
theorem RA (l:List AD):bzs (l.map eI)=l.map eI:=EP _ _ (fun _=>by simp [eI,V.bz,bzs]) l
theorem nS (l:List AZ):bzs (l.map eR)=l.map eR:=EP _ _ (fun _=>by simp [eR,V.bz,bzs]) l
theorem XR (l:List Aq):bzs (l.map eWr)=l.map eWr:=EP _ _ (fun _=>by simp [eWr,V.bz,bzs]) l
theorem a7r (l:List AI):bzs (l.map eE)=l.map eE:=EP _ _ (fun _=>by simp [eE,V.bz,bzs]) l
theorem a3n (l:List AO):bzs (l.map eSl)=l.map eSl:=EP _ _ (fun _=>by simp [eSl,V.bz,bzs]) l
theorem a5j (l:List Ae):bzs (l.map oS)=l.map (eS false):=EP _ _ (fun _=>by simp [oS,eS,V.bz,bzs,RA,nS,XR]) l
attribute [go_sem] a3c a3d a3b a3e a2z vG nD Yf a3y Ye Yg Uh Ql a7o Zw nR XQ a7q a3m a5i a1k a7p RA nS XR a7r a3n a5j
theorem DC {α β:Type} (f:α→AM β):AG f []=.ret []:=rfl
theorem Cx {α β:Type} (f:α→AM β) (a:α) (r:List α):AG f (a::r)=(f a).bind fun b=>(AG f r).bind fun bs=>.ret (b::bs):=rfl
theorem Yn {α β γ:Type} (f:β→AM γ) (g:α→β) (e:α→γ) (h:∀ x,f (g x)=.ret (e x)):∀ l:List α,AG f (l.map g)=.ret (l.map e)
 | []=>rfl
 | a::l=>by simp [AG,h,Yn f g e h l,Bv]
theorem Qn {α β γ:Type} (m:AM α) (f:α→AM β) (g:β→AM γ):(m.bind f).bind g=m.bind fun a=>(f a).bind g:=by
 induction m with
 | ret a=>rfl
 | fail=>rfl
 | rdo o k ih=>simp only [AM.bind];congr 1;funext ob;exact ih ob
theorem pE {β γ:Type} (f:β→AM γ) (g:β→γ):∀ l:List β,(∀ y∈l,f y=.ret (g y))→AG f l=.ret (l.map g)
 | [],_=>rfl
 | a::l,h=>by simp [AG,h a (by simp),pE f g l (fun y hy=>h y (by simp [hy])),Bv]
theorem Ym {β γ:Type} (f:β→AM γ) (g:β→γ) (x:β):∀ (l:List β) (i:Nat),(∀ y∈l,f y=.ret (g y))→i<l.length→AG f (l.set i x)=(f x).bind fun y=>.ret ((l.map g).set i y)
 | [],i,_,hi=>by simp at hi
 | a::l,0,h,_=>by
  simp [AG,pE f g l (fun y hy=>h y (by simp [hy])),Bv]
 | a::l,i+1,h,hi=>by
  have ih:=Ym f g x l i (fun y hy=>h y (by simp [hy])) (by simpa using hi)
  simp only [List.set_cons_succ,AG,h a (by simp),Bv,ih,List.map_cons,Qn]
theorem MQ (d:Nat) (v:Value):AW (d+1) (.lit v)=.ret (.lit v):=rfl
theorem jH (d:Nat) (p nn:Bool) (sz:Nat) (els:List V):AW (d+1) (.isl p nn sz els)=.ret (.isl p nn sz els):=rfl
theorem a4x (d:Nat) (p:Bool) (row:List V) (off:Nat):AW (d+1) (.ip p row off)=.ret (.ip p row off):=rfl
theorem Xf (d:Nat) (sz:Nat) (els:List V):AW (d+1) (.own sz els)=.ret (.isl false false sz (bzs els)):=rfl
theorem OT (d:Nat) (cs:List V):AW (d+1) (.agg cs)=(AG (AW d) cs).bind fun cs=>.ret (.agg cs):=rfl
theorem a0s (d:Nat) (cs:List V):AW (d+1) (.tup cs)=(AG (AW d) cs).bind fun cs=>.ret (.tup cs):=rfl
theorem a4y (d:Nat) (f:Fn) (a b:List V):AW (d+1) (.fn f a b)=(AG (AW d) a).bind fun a=>(AG (AW d) b).bind fun b=>.ret (.fn f a b):=rfl
theorem a4w (d o:Nat):AW (d+1) (.sl o)=.rd o fun ob=>if ob.dirty then (AG (AW d) ob.els).bind fun els=>.ret (.isl false false ob.sz els) else .ret (.isl false false ob.sz (bzs ob.els)):=rfl
theorem a0t (d o i off:Nat):AW (d+1) (.ptr o i off)=.rd o fun ob=>match ob.els[i]? with
  | some el=>(AG (AW d) el.cells).bind fun row=>.ret (.ip false row off)
  | none=>.fail:=rfl
theorem Ep (thr d:Nat) (v:Value):AR thr (d+1) (.lit v)=.ret (.lit v,[]):=rfl
theorem Gy (thr d:Nat) (p nn:Bool) (sz:Nat) (els:List V):AR thr (d+1) (.isl p nn sz els)=.ret (.isl p nn sz els,[]):=rfl
theorem Gx (thr d:Nat) (sz:Nat) (els:List V):AR thr (d+1) (.own sz els)=.ret (.own sz els,[]):=rfl
theorem EV (thr d:Nat) (cs:List V):AR thr (d+1) (.agg cs)=(AG (AR thr d) cs).bind fun x=>.ret (.agg (x.map (·.1)),(x.map (·.2)).flatten):=rfl
theorem a3t (thr d:Nat) (cs:List V):AR thr (d+1) (.tup cs)=(AG (AR thr d) cs).bind fun x=>.ret (.tup (x.map (·.1)),(x.map (·.2)).flatten):=rfl
theorem a7u (d o:Nat):AR 0 (d+1) (.sl o)=.rdo o fun
  | none=>.ret (.dead,[])
  | some ob=>if ob.dirty then (AG (AR 0 d) ob.els).bind fun x=>if AJ (x.map (·.1)) then .ret (.own ob.sz (x.map (·.1)),o::(x.map (·.2)).flatten) else .fail
   else .ret (.own ob.sz ob.els,[o]):=rfl
attribute [go_sem] DC Cx MQ jH a4x Xf OT a0s a4y a4w a0t Ep Gy Gx EV a3t a7u
def ClR (r:V) (m:AM (V × List Nat)) (h:Hp):Prop :=
 match m.run h with
 | some (v',ks)=>ks.Nodup∧v'.perm=true∧v'.nice=true∧v'=r
 | none=>False
theorem a3v (r v:V) (h:Hp) (n:Nat):ClQ r v h n=ClR r (AR 0 6 v) h:=rfl
theorem wP (r v:V) (ks:List Nat) (h:Hp):ClR r (.ret (v,ks)) h=(ks.Nodup∧v.perm=true∧v.nice=true∧v=r):=rfl
theorem wQ (r:V) (o:Nat) (f:Option Obj→AM (V × List Nat)) (h:Hp):ClR r (.rdo o f) h=ClR r (f (h o)) h:=rfl
theorem Vh (v:Value):V.perm (.lit v)=true:=by simp [V.perm]
theorem kF (sz:Nat) (els:List V):V.perm (.own sz els)=true:=by simp [V.perm]
theorem kG (p nn:Bool) (sz:Nat) (els:List V):V.perm (.isl p nn sz els)=p:=by simp [V.perm]
theorem kH (cs:List V):V.perm (.agg cs)=AJ cs:=by simp [V.perm]
theorem kD (cs:List V):V.perm (.tup cs)=AJ cs:=by simp [V.perm]
theorem sS (o:Nat):V.perm (.sl o)=false:=by simp [V.perm]
theorem sT (p:Bool) (row:List V) (off:Nat):V.perm (.ip p row off)=p:=by simp [V.perm]
theorem sU (f:Fn) (a b:List V):V.perm (.fn f a b)=(AJ a&&AJ b):=by simp [V.perm]
theorem kE (o i f:Nat):V.perm (.ptr o i f)=false:=by simp [V.perm]
theorem cR:AJ []=true:=by simp [AJ]
theorem FE (v:V) (r:List V):AJ (v::r)=(v.perm&&AJ r):=by simp [AJ]
theorem CM {α:Type} (f:α→V) (h:∀ x,(f x).perm=true):∀ l:List α,AJ (l.map f)=true
 | []=>by simp [AJ]
 | a::l=>by simp [AJ,h,CM f h l]
theorem jY (l:List Aj):AJ (l.map eW)=true:=CM _ (fun _=>by simp [eW,V.perm,AJ]) l
theorem kB (l:List AD):AJ (l.map eI)=true:=CM _ (fun _=>by simp [eI,V.perm,AJ]) l
theorem kA (l:List AZ):AJ (l.map eR)=true:=CM _ (fun _=>by simp [eR,V.perm,AJ]) l
theorem cS (l:List Aq):AJ (l.map eWr)=true:=CM _ (fun _=>by simp [eWr,V.perm,AJ]) l
theorem kC (l:List AI):AJ (l.map eE)=true:=CM _ (fun _=>by simp [eE,V.perm,AJ]) l
theorem Vg (l:List Ae):AJ (l.map oS)=true:=CM _ (fun _=>by simp [oS,V.perm,AJ]) l
theorem a1s (v:Value):V.nr (.lit v)=true:=by simp [V.nr]
theorem a1r (sz:Nat) (els:List V):V.nr (.own sz els)=true:=by simp [V.nr]
theorem a1t (p nn:Bool) (sz:Nat) (els:List V):V.nr (.isl p nn sz els)=true:=by simp [V.nr]
theorem a1u (cs:List V):V.nr (.agg cs)=nrs cs:=by simp [V.nr]
theorem a5n (o:Nat):V.nr (.sl o)=false:=by simp [V.nr]
theorem a5o (p:Bool) (row:List V) (off:Nat):V.nr (.ip p row off)=true:=by simp [V.nr]
theorem a1q (o i f:Nat):V.nr (.ptr o i f)=false:=by simp [V.nr]
theorem a5p (f:Fn) (a b:List V):V.nr (.fn f a b)=(nrs a&&nrs b):=by simp [V.nr]
theorem tJ:nrs []=true:=by simp [nrs]
theorem kX (v:V) (r:List V):nrs (v::r)=(v.nr&&nrs r):=by simp [nrs]
theorem lC (v:Value):V.nice (.lit v)=BC [.lit v]:=rfl
theorem lD (p nn:Bool) (sz:Nat) (els:List V):V.nice (.isl p nn sz els)=true:=rfl
theorem lB (sz:Nat) (els:List V):V.nice (.own sz els)=true:=rfl
theorem lE (cs:List V):V.nice (.agg cs)=BC cs:=rfl
theorem lA (vs:List V):V.nice (.tup vs)=vs.all V.nice1:=rfl
theorem tL (f:Fn) (a b:List V):V.nice (.fn f a b)=true:=rfl
theorem lG (v:V):V.nice1 v=BC v.cells:=rfl
theorem kT:BC []=true:=rfl
theorem kV (k:IntKind) (n:Int) (r:List V):BC (.lit (.int k n)::r)=BC r:=rfl
theorem dF (b:Bool) (r:List V):BC (.lit (.bool b)::r)=BC r:=rfl
theorem kQ (s:_) (r:List V):BC (.lit (.string s)::r)=BC r:=rfl
theorem dE (r:List V):BC (.lit .nilFunc::r)=BC r:=rfl
theorem dD (r:List V):BC (.lit (.slice none 0 0)::r)=BC r:=rfl
theorem kU (p nn:Bool) (sz:Nat) (els:List V) (r:List V):BC (.isl p nn sz els::r)=BC r:=rfl
theorem kS (sz:Nat) (els:List V) (r:List V):BC (.own sz els::r)=BC r:=rfl
theorem tA (o:Nat) (r:List V):BC (.sl o::r)=BC r:=rfl
theorem tB (p:Bool) (row:List V) (off:Nat) (r:List V):BC (.ip p row off::r)=BC r:=rfl
theorem kR (o i f:Nat) (r:List V):BC (.ptr o i f::r)=BC r:=rfl
theorem tC (f:Fn) (a b:List V) (r:List V):BC (.fn f a b::r)=BC r:=rfl
attribute [go_sem] a3v wP wQ Vh kF kG kH kD sS sT sU kE cR FE jY kB kA cS kC Vg a1s a1r a1t a1u a5n a5o a1q a5p tJ kX lC lD lB lE lA tL lG kT kV dF kQ dE dD kU kS tA tB kR tC
attribute [go_sem] Bool.false_eq_true Bool.true_and Bool.false_and Bool.and_true Bool.and_false Bool.not_true Bool.not_false Bool.or_true Bool.or_false Bool.true_or Bool.false_or and_true true_and and_self List.all_cons List.all_nil List.nodup_nil List.nodup_cons List.mem_cons List.not_mem_nil or_self not_false_eq_true or_false false_or
attribute [go_sem] Hr MA LQ Dn fillCells KP Jx HH Fe LL DX LO FC CR Gd Sf IK Gi LM Ds FG K.agg Fm depth V.isRef goInt
theorem mB (l:List Aq):Lj (l.map eWr)=true:=by
 unfold Lj
 rw [List.all_eq_true]
 intro x hx
 obtain ⟨y,_,rfl⟩:=List.mem_map.1 hx
 rfl
theorem lZ (k k' k'':IntKind) (a b c:Int):Lj [.agg [.lit (.int k a),.lit (.int k' b),.lit (.int k'' c)]]=true:=rfl
theorem Zc (l:List Int):Lj (l.map fun n=>V.lit (.int .i64 n))=true:=by
 unfold Lj
 rw [List.all_eq_true]
 intro x hx
 obtain ⟨y,_,rfl⟩:=List.mem_map.1 hx
 rfl
theorem mA (l:List Int):Lj (l.map iV)=true:=Zc l
theorem lY (n:Nat) (k:IntKind) (m:Int):Lj (List.replicate n (V.lit (.int k m)))=true:=by
 unfold Lj
 rw [List.all_eq_true]
 intro x hx
 rw [(List.mem_replicate.1 hx).2];rfl
attribute [go_sem] Pc Ub Zc mA lY
attribute [go_sem] Hq SR JS UU VF mB lZ
section
variable {R:Type}
def jE (C:Ctx) (P:FuncId→List V→Option V) (s:St) (q:Out→St→Option R):IR→Option R
 | .region ops (some bef)=>BZ C.L C.T P 0 ops s [] fun s rcs=>JI bef rcs (q .normal s)
 | _=>none
def nT:IR→Bool
 | .region ops (some bef)=>IB bef 0 ops
 | _=>false
theorem vM {C:Ctx} {O:Orc} {P:FuncId→List V→Option V} {k:Nat} {d:IR} (h:nT d=true) (s:St) (q:Out→St→Option R):evC C O P k d s q=jE C P s q d:=by
 cases d with
 | region ops b=>cases b with
  | none=>cases h
  | some bef=>exact vN C O P k s q h
 | _=>cases h
@[congr] theorem runD_congr {C:Ctx} {P:FuncId→List V→Option V} {s:St} {q:Out→St→Option R} {d d':IR} (e:d=d'):jE C P s q d=jE C P s q d':=by rw [e]
@[congr] theorem runDraw_congr {L:Lay} {T:Tbl} {P:FuncId→List V→Option V} {i:Nat} {ops:List IOp} {s s':St} {rcs rcs':List Rec} {k:St→List Rec→Option R} (e:s=s') (e':rcs=rcs'):BZ L T P i ops s rcs k=BZ L T P i ops s' rcs' k:=by rw [e,e']
end
theorem pA (L:Lay) (t:TypeId) (a b:List V):BJ L .eql t (.agg a) (.agg b)=match L t with
 | some ti=>if ti.plain&&a.length == ti.size then (BA a b).map fun r=>.lit (.bool r) else none
 | none=>none:=by simp only [BJ];cases L t<;>rfl
theorem oZ (L:Lay) (t:TypeId) (a b:List V):BJ L .neq t (.agg a) (.agg b)=match L t with
 | some ti=>if ti.plain&&a.length == ti.size then (BA a b).map fun r=>.lit (.bool (!r)) else none
 | none=>none:=by simp only [BJ];cases L t<;>rfl
theorem vP:BA [] []=some true:=rfl
theorem vR (k:IntKind) (a b:Int) (r s:List V):BA (.lit (.int k a)::r) (.lit (.int k b)::s)=(BA r s).map fun y=>decide (a=b)&&y:=by
 cases h:BA r s<;>simp [BA,PT,h]
attribute [go_sem] pA oZ vP vR Option.map_some beq_self_eq_true Fu
structure Dum {α:Sort _} (a:α):Type where
section
variable (O:Orc) (h:Hp) (n i:Nat) (ro:List Nat) (rcs:List Rec) (Q:V→Hp→Nat→Prop)
def GP (v:Option V) (k:V→Option Ans) (Q:V→Hp→Nat→Prop) (_:Dum k):Prop:=Fin (Hz v k) Q
def GM (m:AM Eff) (h:Hp) (n:Nat) (k:V→Hp→Nat→Option Ans) (Q:V→Hp→Nat→Prop) (_:Dum k):Prop:=Fin (Jg m h n k) Q
def GR (m:AM Eff) (h:Hp) (n i:Nat) (ro:List Nat) (rcs:List Rec) (k:V→Hp→Nat→List Rec→Option Ans) (Q:V→Hp→Nat→Prop) (_:Dum k):Prop:=Fin (DZ m h n i ro rcs k) Q
def GI (x:Option (V × Hp × Nat)) (k:V→Hp→Nat→Option Ans) (Q:V→Hp→Nat→Prop) (_:Dum k):Prop:=Fin (Mw x k) Q
def GC (b:Option Bool) (x y:Option Ans) (Q:V→Hp→Nat→Prop) (_:Dum x) (_:Dum y):Prop:=Fin (RD b x y) Q
def GS (O:Orc) (x:OpK) (g:Option Bool) (h:Hp) (n:Nat) (k:V→Hp→Nat→Option Ans) (Q:V→Hp→Nat→Prop) (_:Dum k):Prop:=Fin (Fc O x g h n k) Q
def GD (x:OpK) (g:Option Bool) (h:Hp) (n i:Nat) (rcs:List Rec) (k:V→Hp→Nat→List Rec→Option Ans) (Q:V→Hp→Nat→Prop) (_:Dum k):Prop:=Fin (Nt x g h n i rcs k) Q
def GE (C:Ctx) (O:Orc) (P:FuncId→List V→Option V) (k:Nat) (ir:IR) (s:St) (q:Out→St→Option Ans) (Q:V→Hp→Nat→Prop) (_:Dum ir) (_:Dum q):Prop:=Fin (evC C O P k ir s q) Q
def GL (thr:Nat) (live:List Nat) (f:St→(Out→St→Option Ans)→Option Ans) (q:Out→St→Option Ans) (k:Nat) (s:St) (Q:V→Hp→Nat→Prop) (_:Dum f) (_:Dum q):Prop:=Fin (BD thr live f q k s) Q
def GN (thr:Nat) (live:List Nat) (s:St) (k:St→Option Ans) (Q:V→Hp→Nat→Prop) (_:Dum k):Prop:=Fin (HI thr live s k) Q
theorem gP (v:Option V) (k:V→Option Ans):Fin (Hz v k) Q=GP v k Q ⟨⟩:=rfl
theorem gM (m:AM Eff) (k:V→Hp→Nat→Option Ans):Fin (Jg m h n k) Q=GM m h n k Q ⟨⟩:=rfl
theorem gI (x:Option (V × Hp × Nat)) (k:V→Hp→Nat→Option Ans):Fin (Mw x k) Q=GI x k Q ⟨⟩:=rfl
theorem gC (b:Option Bool) (x y:Option Ans):Fin (RD b x y) Q=GC b x y Q ⟨⟩ ⟨⟩:=rfl
theorem VO (L:Lay) (T:Tbl) (P:FuncId→List V→Option V) (s:St) (k:St→Option Ans):Fin (CL L T O P [] s k) Q=Fin (k s) Q:=rfl
theorem gOps (L:Lay) (T:Tbl) (P:FuncId→List V→Option V) (o:IOp) (r:List IOp) (tm:Nat→V) (k:St→Option Ans) :
  Fin (CL L T O P (o::r) ⟨tm,h,n⟩ k) Q=GS O (opK L T P (eV tm) n o.frz o.op) (Dj tm o.guard) h n (fun v h n=>CL L T O P r ⟨HR tm o.dst v,h,n⟩ k) Q ⟨⟩:=by rw [UO];rfl
theorem Rq (L:Lay) (T:Tbl) (P:FuncId→List V→Option V) (s:St) (k:St→List Rec→Option Ans):Fin (BZ L T P i [] s rcs k) Q=Fin (k s rcs) Q:=rfl
theorem yS (L:Lay) (T:Tbl) (P:FuncId→List V→Option V) (o:IOp) (r:List IOp) (tm:Nat→V) (k:St→List Rec→Option Ans) :
  Fin (BZ L T P i (o::r) ⟨tm,h,n⟩ rcs k) Q=GD (opK L T P (eV tm) n o.frz o.op) (Dj tm o.guard) h n i rcs (fun v h n rcs=>BZ L T P (i+1) r ⟨HR tm o.dst v,h,n⟩ rcs k) Q ⟨⟩:=by rw [Sx];rfl
theorem yR (bef:List (List Nat)) (x:Option Ans):Fin (JI bef rcs x) Q=(Gq bef rcs=true∧Fin x Q):=by
 cases h:Gq bef rcs<;>simp [JI,h,Fin]
theorem gN (thr:Nat) (live:List Nat) (s:St) (k:St→Option Ans):Fin (HI thr live s k) Q=GN thr live s k Q ⟨⟩:=rfl
theorem gL (thr:Nat) (live:List Nat) (f:St→(Out→St→Option Ans)→Option Ans) (q:Out→St→Option Ans) (k:Nat) (s:St):Fin (BD thr live f q k s) Q=GL thr live f q k s Q ⟨⟩ ⟨⟩:=rfl
section
variable (C:Ctx) (P:FuncId→List V→Option V) (k:Nat) (s:St) (q:Out→St→Option Ans)
theorem vB:Fin (evC C O P k .skip s q) Q=Fin (q .normal s) Q:=rfl
theorem nB (l:Nat):Fin (evC C O P k (.label l) s q) Q=Fin (q .normal s) Q:=rfl
theorem eF (ops:List IOp):Fin (evC C O P k (.region ops none) s q) Q=Fin (CL C.L C.T O P ops s (q .normal)) Q:=rfl
theorem a2x (a b:IR):Fin (evC C O P k (.seq a b) s q) Q=Fin (evC C O P k a s (Cp (fun s=>evC C O P k b s q) q)) Q:=rfl
theorem vF (c:Operand) (a b:IR):Fin (evC C O P k (.cond c a b) s q) Q=GC (eV s.tm c).bool? (evC C O P k a s q) (evC C O P k b s q) Q ⟨⟩ ⟨⟩:=rfl
theorem nC (id:Nat) (b:IR):Fin (evC C O P k (.block id b) s q) Q=Fin (evC C O P k b s (DY id q)) Q:=rfl
theorem vC (live:List Nat) (b:IR):Fin (evC C O P k (.loop live b) s q) Q=GL s.n live (fun s q=>evC C O P k b s (As live q)) q k (Fv live s) Q ⟨⟩ ⟨⟩:=rfl
theorem vE (id:Nat) (live:List Nat):Fin (evC C O P k (.exit id live) s q) Q=Fin (q (.exit id) (Fv live s)) Q:=rfl
theorem vD (l:Nat):Fin (evC C O P k (.goto l) s q) Q=Fin (q (.goto l) s) Q:=rfl
theorem a2y (live:List Nat):Fin (evC C O P k (.ret live) s q) Q=Fin (q .ret (Fv live s)) Q:=rfl
def GU (d:IR) (C:Ctx) (P:FuncId→List V→Option V) (s:St) (q:Out→St→Option Ans) (Q:V→Hp→Nat→Prop) (_:Dum q) (_:Dum s):Prop:=Fin (jE C P s q d) Q
theorem Bc {d:IR} (hd:nT d=true):Fin (evC C O P k d s q) Q=GU d C P s q Q ⟨⟩ ⟨⟩:=by rw [vM hd];rfl
theorem gU (ops:List IOp) (bef:List (List Nat)) (u:Dum q) (w:Dum s):GU (.region ops (some bef)) C P s q Q u w=Fin (BZ C.L C.T P 0 ops s [] fun s rcs=>JI bef rcs (q .normal s)) Q:=rfl
theorem a7d (ops:List IOp) (bef:List (List Nat)):Fin (jE C P s q (.region ops (some bef))) Q=Fin (BZ C.L C.T P 0 ops s [] fun s rcs=>JI bef rcs (q .normal s)) Q:=rfl
end
section
variable (k:St→Option Ans) (q:Out→St→Option Ans) (s:St) (live:List Nat) (kj:Nat→St→Option Ans)
theorem KT:Fin (Cp k q .normal s) Q=Fin (k s) Q:=rfl
theorem NL:Fin (Cp k q (.exit i) s) Q=Fin (q (.exit i) s) Q:=rfl
theorem NK:Fin (Cp k q (.goto i) s) Q=Fin (q (.goto i) s) Q:=rfl
theorem PC:Fin (Cp k q .ret s) Q=Fin (q .ret s) Q:=rfl
theorem Mm:Fin (DY i q .normal s) Q=Fin (q .normal s) Q:=rfl
theorem XJ (j:Nat):Fin (DY i q (.goto j) s) Q=Fin (q (.goto j) s) Q:=rfl
theorem eD:Fin (DY i q .ret s) Q=Fin (q .ret s) Q:=rfl
theorem mZ:Fin (DY i q (.exit i) s) Q=Fin (q .normal s) Q:=by rw [Wt,if_pos rfl]
theorem mY {j:Nat} (h:j≠i):Fin (DY i q (.exit j) s) Q=Fin (q (.exit j) s) Q:=by rw [Wt,if_neg h]
theorem KU:Fin (As live q .normal s) Q=Fin (q .normal (Fv live s)) Q:=rfl
theorem VK:Fin (As live q (.exit i) s) Q=Fin (q (.exit i) s) Q:=rfl
theorem VJ:Fin (As live q (.goto i) s) Q=Fin (q (.goto i) s) Q:=rfl
theorem XG:Fin (As live q .ret s) Q=Fin (q .ret s) Q:=rfl
theorem QA:Fin (KS kj q .normal s) Q=Fin (q .normal s) Q:=rfl
theorem VM:Fin (KS kj q (.exit i) s) Q=Fin (q (.exit i) s) Q:=rfl
theorem VL:Fin (KS kj q (.goto i) s) Q=Fin (kj i s) Q:=rfl
theorem XI:Fin (KS kj q .ret s) Q=Fin (q .ret s) Q:=rfl
end
theorem SV (L:Lay) (rs:List ResultVar) (ts:List TypeId) (tm:Nat→V):Fin (nK L rs ts .normal ⟨tm,h,n⟩) Q=Fin (CE L tm rs ts h n fun vs hp n=>some (DE vs,hp,n)) Q:=rfl
theorem eC (L:Lay) (rs:List ResultVar) (ts:List TypeId) (tm:Nat→V):Fin (nK L rs ts .ret ⟨tm,h,n⟩) Q=Fin (CE L tm rs ts h n fun vs hp n=>some (DE vs,hp,n)) Q:=rfl
section
variable (L:Lay) (tm:Nat→V) (t:Tmp) (a:Tmp) (y ty:TypeId) (r:List ResultVar) (ts:List TypeId) (k:List V→Hp→Nat→Option Ans)
theorem eB:Fin (CE L tm [] ts h n k) Q=Fin (k [] h n) Q:=rfl
theorem dZ:Fin (CE L tm (.tmp t::r) (y::ts) h n k) Q=Fin (CE L tm r ts h n fun vs h n=>k (Bu L y (tm t)::vs) h n) Q:=rfl
theorem XH:Fin (CE L tm (.cell a ty::r) (y::ts) h n k) Q=GM (Fe L n ty (tm a)) h n (fun v h n=>CE L tm r ts h n fun vs h n=>k (v::vs) h n) Q ⟨⟩:=rfl
end
theorem x_P (v:V) (k:V→Option Ans) (u:Dum k):GP (some v) k Q u=Fin (k v) Q:=rfl
theorem x_M (x:Eff) (k:V→Hp→Nat→Option Ans) (u:Dum k):GM (.ret x) h n k Q u=Fin (k x.v (Au h x.upd) (n+x.new)) Q:=rfl
theorem x_Mr (o:Nat) (f:Option Obj→AM Eff) (k:V→Hp→Nat→Option Ans) (u:Dum k):GM (.rdo o f) h n k Q u=GM (f (h o)) h n k Q u:=rfl
theorem x_R (x:Eff) (k:V→Hp→Nat→List Rec→Option Ans) (u:Dum k):GR (.ret x) h n i ro rcs k Q u=Fin (k x.v (Au h x.upd) (n+x.new) (Fu i ro (x.upd.map (·.1)) rcs)) Q:=by
 show Fin (DZ _ _ _ _ _ _ _) Q=_;rw [Ls]
theorem x_Rr (o:Nat) (f:Option Obj→AM Eff) (k:V→Hp→Nat→List Rec→Option Ans) (u:Dum k):GR (.rdo o f) h n i ro rcs k Q u=GR (f (h o)) h n i (ro++[o]) rcs k Q u:=by
 show Fin (DZ _ _ _ _ _ _ _) Q=_;rw [Qo];rfl
theorem x_I (v:V) (h':Hp) (n':Nat) (k:V→Hp→Nat→Option Ans) (u:Dum k):GI (some (v,h',n')) k Q u=Fin (k v h' n') Q:=rfl
theorem x_Ct (x y:Option Ans) (u:Dum x) (w:Dum y):GC (some true) x y Q u w=Fin x Q:=rfl
theorem x_Cf (x y:Option Ans) (u:Dum x) (w:Dum y):GC (some false) x y Q u w=Fin y Q:=rfl
theorem x_C (b:Bool) (x y:Option Ans) (u:Dum x) (w:Dum y):GC (some b) x y Q u w=((b=true→Fin x Q)∧(b=false→Fin y Q)):=by
 cases b<;>simp [GC,RD]
theorem x_Sp (v:Option V) (k:V→Hp→Nat→Option Ans) (u:Dum k):GS O (.p v) (some true) h n k Q u=GP v (fun v=>k v h n) Q ⟨⟩:=rfl
theorem x_Sm (m:AM Eff) (k:V→Hp→Nat→Option Ans) (u:Dum k):GS O (.m m) (some true) h n k Q u=GM m h n k Q u:=rfl
theorem x_Si (f:FuncId) (xs:List V) (k:V→Hp→Nat→Option Ans) (u:Dum k):GS O (.i f xs) (some true) h n k Q u=GI (O f xs h n) k Q u:=rfl
theorem x_Sn (x:OpK) (k:V→Hp→Nat→Option Ans) (u:Dum k):GS O x (some false) h n k Q u=Fin (k BF h n) Q:=by
 show Fin (Fc _ _ _ _ _ _) Q=_;rw [Ed]
theorem x_Dp (v:Option V) (k:V→Hp→Nat→List Rec→Option Ans) (u:Dum k):GD (.p v) (some true) h n i rcs k Q u=GP v (fun v=>k v h n rcs) Q ⟨⟩:=rfl
theorem zD (m:AM Eff) (k:V→Hp→Nat→List Rec→Option Ans) (u:Dum k):GD (.m m) (some true) h n i rcs k Q u=GR m h n i [] rcs k Q u:=by show Fin (NV _ _ _ _ _ _) Q=Fin (DZ _ _ _ _ _ _ _) Q;rw [oY];rfl
theorem xZ (v:Option V) (k:V→Hp→Nat→List Rec→Option Ans) (u:Dum k):GD (.p v) (some false) h n i rcs k Q u=Fin (k BF h n rcs) Q:=rfl
theorem fZ (m:AM Eff) (k:V→Hp→Nat→List Rec→Option Ans) (u:Dum k):GD (.m m) (some false) h n i rcs k Q u=Fin (k BF h n rcs) Q:=by
 show Fin (Nt _ _ _ _ _ _ _) Q=_;rw [WP]
theorem qS (thr:Nat) (v:Value):V.scrub thr (.lit v)=.lit v:=by simp [V.scrub]
theorem qT (thr:Nat) (p nn:Bool) (sz:Nat) (els:List V):V.scrub thr (.isl p nn sz els)=.isl p nn sz els:=by simp [V.scrub]
theorem zX (thr:Nat) (p:Bool) (row:List V) (off:Nat):V.scrub thr (.ip p row off)=.ip p row off:=by simp [V.scrub]
theorem qU (thr:Nat) (cs:List V):V.scrub thr (.agg cs)=.agg (AU thr cs):=by simp [V.scrub]
theorem zY (thr:Nat) (f:Fn) (a b:List V):V.scrub thr (.fn f a b)=.fn f (AU thr a) (AU thr b):=by simp [V.scrub]
theorem qR (thr o i f:Nat):V.scrub thr (.ptr o i f)=if o<thr then .ptr o i f else .dead:=by simp [V.scrub]
theorem zW (thr o:Nat):V.scrub thr (.sl o)=if o<thr then .sl o else .dead:=by simp [V.scrub]
theorem iG (thr:Nat):AU thr []=[]:=by simp [AU]
theorem bK (thr:Nat) (v:V) (r:List V):AU thr (v::r)=v.scrub thr::AU thr r:=by simp [AU]
end
theorem uR (bef:List (List Nat)):Gq bef []=true:=rfl
theorem mV (bef:List (List Nat)) (a:Rec) (r:List Rec):Gq bef (a::r)=(r.all (EK bef a)&&Gq bef r):=rfl
theorem hok1 (bef:List (List Nat)) (a b:Rec):EK bef a b=(!(Ez a.wo b.wo||Ez a.wo b.ro||Ez a.ro b.wo)||FP bef b.i a.i):=rfl
theorem dJ (b:List Nat):Ez [] b=false:=rfl
theorem Xs (a:List Nat):Ez a []=false:=by simp [Ez]
theorem Xt (x:Nat) (a b:List Nat):Ez (x::a) b=(b.contains x||Ez a b):=rfl
theorem fK (bef:List (List Nat)) (i j:Nat):FP bef i j=IG bef i 8 j:=(rfl)
theorem rZ (bef:List (List Nat)) (i f j:Nat):IG bef i (f+1) j=((bef.getD j []).contains i||(bef.getD j []).any fun k=>IG bef i f k):=(rfl)
attribute [go_sem] rZ List.any_cons List.any_nil
attribute [go_sem ↓] gP gM gI gC VO gOps Rq yS yR gN gL vB nB eF a2x vF nC vC vE vD a2y a7d KT NL NK PC Mm XJ eD mZ mY KU VK VJ XG QA VM VL XI eB dZ XH VV x_P x_M x_Mr x_R x_Rr x_I x_Ct x_Cf x_Sp x_Sm x_Si x_Sn x_Dp zD xZ fZ
attribute [go_sem] gP gM gI gC VO gOps Rq yS yR gN gL SV eC KT NL NK PC KU Mm x_P x_M x_Mr x_R x_Rr x_I x_Ct x_Cf x_Sp x_Sm x_Si x_Sn x_Dp zD xZ fZ qS qT zX qU zY qR zW iG bK
attribute [go_sem low] x_C
attribute [go_sem] gU
attribute [go_sem ↓] gU
attribute [go_sem] uR mV hok1 dJ Xs Xt fK List.contains_cons List.getD_cons_zero List.getD_cons_succ List.getD_nil List.elem_nil ne_eq
theorem a1v (b:Bool):((!b)=true)=(b=false):=by cases b<;>simp
theorem a1w (b:Bool):((!b)=false)=(b=true):=by cases b<;>simp
attribute [go_sem] a1v a1w
attribute [go_sem] eW eI eR eWr eE eSl eS oS
theorem a7h (w:Aj):(⟨w.val,w.ver,w.lock⟩:Aj)=w:=(rfl)
theorem a7l (w:AD):(⟨w.code,w.a,w.b,w.c⟩:AD)=w:=(rfl)
theorem a7j (w:AZ):(⟨w.level,w.index,w.ver⟩:AZ)=w:=(rfl)
theorem a3i (w:Aq):(⟨w.level,w.index,w.val⟩:Aq)=w:=(rfl)
theorem a7m (w:AI):(⟨w.id,w.label,w.kind,w.val⟩:AI)=w:=(rfl)
theorem a7n {α:Type} (w:A4 α):(⟨w.a0,w.a1,w.a2,w.a3⟩:A4 α)=w:=(rfl)
theorem a7k (w:Ac):(⟨w.words,w.clocks,w.ceil,w.sess,w.trace⟩:Ac)=w:=(rfl)
theorem a7i (s:Ae):(⟨s.id,s.label,s.clear,s.prog,s.step,s.pc,s.regs,s.reads,s.writes,s.at_,s.stamp,s.tries,s.result,s.told⟩:Ae)=s:=(rfl)
attribute [go_sem] a7h a7l a7j a3i a7m a7n a7k a7i
theorem gLs (thr:Nat) (live:List Nat) (f:St→(Out→St→Option Ans)→Option Ans) (q:Out→St→Option Ans) (k:Nat) (s:St) (Q:V→Hp→Nat→Prop) (u:Dum f) (w:Dum q) :
  GL thr live f q (k+1) s Q u w=GN thr live s (fun s=>f s fun o s=>Cp (BD thr live f q k) q o s) Q ⟨⟩:=(rfl)
theorem Ai {b b':IR} (e:b=b') (C:Ctx) (O:Orc) (P:FuncId→List V→Option V) (k:Nat) (s:St) (q:Out→St→Option Ans) (Q:V→Hp→Nat→Prop):Fin (evC C O P k b s q) Q=Fin (evC C O P k b' s q) Q:=by rw [e]
abbrev BB:Nat:=140737488355328
attribute [go_sem] decide_true decide_false List.getElem?_map Int.toNat_natCast
theorem wl0:IntKind.wrap .i64 0=0:=by decide
theorem wl1:IntKind.wrap .i64 1=1:=by decide
theorem wl2:IntKind.wrap .i64 2=2:=by decide
theorem wl3:IntKind.wrap .i64 3=3:=by decide
theorem wl4:IntKind.wrap .i64 4=4:=by decide
theorem wl5:IntKind.wrap .i64 5=5:=by decide
attribute [go_sem] wl0 wl1 wl2 wl3 wl4 wl5
theorem minI (k l:IntKind) (a b:Int):Pk [.lit (.int k a),.lit (.int l b)]=some (.lit (.int k (if b<a then b else a))):=(rfl)
theorem maxI (k l:IntKind) (a b:Int):Pn [.lit (.int k a),.lit (.int l b)]=some (.lit (.int k (if a<b then b else a))):=(rfl)
attribute [go_sem] minI maxI
theorem a8b:((4:Nat):Int)=4:=(rfl)
theorem RE:((0:Nat):Int)=0:=(rfl)
theorem Wd:((1:Nat):Int)=1:=(rfl)
theorem a8d:((2:Nat):Int)=2:=(rfl)
theorem a8c:((3:Nat):Int)=3:=(rfl)
attribute [go_sem] a8b RE Wd a8d a8c
def Ji (c:Bool):Prop:=c=true
def MF (c:Bool):Prop:=c=false
theorem a1z (a b:Bool):Ji (a&&b)=(Ji a∧Ji b):=by simp [Ji]
theorem a1y (a:Bool):Ji (!a)=MF a:=by simp [Ji,MF]
theorem a5s (a:Bool):Ji a=(a=true):=(rfl)
theorem a5q (a b:Bool):MF (a||b)=(MF a∧MF b):=by simp [MF]
theorem a1x (a:Bool):MF (!a)=Ji a:=by simp [Ji,MF]
theorem a5r (a:Bool):MF a=(a=false):=(rfl)
attribute [go_sem] a1z a1y a5q a1x
attribute [go_sem low] a5s a5r
def GX (O:Orc) (c:Bool) (x:OpK) (h:Hp) (n:Nat) (k:V→Hp→Nat→Option Ans) (Q:V→Hp→Nat→Prop) (_:Dum k):Prop:=Fin (Fc O x (some c) h n k) Q
def GYp (c:Bool) (v:Option V) (h:Hp) (n:Nat) (rcs:List Rec) (k:V→Hp→Nat→List Rec→Option Ans) (Q:V→Hp→Nat→Prop) (_:Dum k):Prop :=
 match c with
 | true=>Fin (Hz v fun v=>k v h n rcs) Q
 | false=>Fin (k BF h n rcs) Q
def GYm (c:Bool) (m:AM Eff) (h:Hp) (n i:Nat) (ro:List Nat) (rcs:List Rec) (k:V→Hp→Nat→List Rec→Option Ans) (Q:V→Hp→Nat→Prop) (_:Dum k):Prop :=
 match c with
 | true=>Fin (DZ m h n i ro rcs k) Q
 | false=>Fin (k BF h n rcs) Q
section
variable (O:Orc) (c:Bool) (h:Hp) (n i:Nat) (ro:List Nat) (rcs:List Rec) (Q:V→Hp→Nat→Prop)
@[congr] theorem GX_congr {g:Prop} {x x':OpK} {k:V→Hp→Nat→Option Ans} {u:Dum k} (hg:Ji c=g) (hx:g→x=x'):GX O c x h n k Q u=GX O c x' h n k Q u:=by
 cases c with
 | true=>rw [hx (hg▸rfl)]
 | false=>show Fin (Fc _ _ _ _ _ _) _=Fin (Fc _ _ _ _ _ _) _;rw [Ed,Ed]
theorem x_S (x:OpK) (k:V→Hp→Nat→Option Ans) (u:Dum k):GS O x (some c) h n k Q u=GX O c x h n k Q u:=(rfl)
theorem x_Xp (v:V) (k:V→Hp→Nat→Option Ans) (u:Dum k):GX O c (.p (some v)) h n k Q u=Fin (k (if c=true then v else BF) h n) Q:=by
 cases c with
 | true=>rfl
 | false=>show Fin (Fc _ _ _ _ _ _) _=_;rw [Ed];rfl
theorem x_Xm (v:V) (k:V→Hp→Nat→Option Ans) (u:Dum k):GX O c (.m (.ret ⟨v,[],0⟩)) h n k Q u=Fin (k (if c=true then v else BF) h n) Q:=by
 cases c with
 | true=>rfl
 | false=>show Fin (Fc _ _ _ _ _ _) _=_;rw [Ed];rfl
theorem x_Xr (o:Nat) (f:Option Obj→AM Eff) (k:V→Hp→Nat→Option Ans) (u:Dum k):GX O c (.m (.rdo o f)) h n k Q u=GX O c (.m (f (h o))) h n k Q u:=by
 cases c with
 | true=>rfl
 | false=>show Fin (Fc _ _ _ _ _ _) _=Fin (Fc _ _ _ _ _ _) _;rw [Ed,Ed]
theorem x_Xu (v:V) (o:Nat × Option Obj) (up:List (Nat × Option Obj)) (nw:Nat) (k:V→Hp→Nat→Option Ans) (u:Dum k):GX O c (.m (.ret ⟨v,o::up,nw⟩)) h n k Q u =
  ((c=true→Fin (k v (Au h (o::up)) (n+nw)) Q)∧(c=false→Fin (k BF h n) Q)):=by
 cases c with
 | true=>simp [GX,Fc,Eo,Jg,AM.run]
 | false=>simp only [Bool.false_eq_true,false_imp_iff,true_and,forall_const];show Fin (Fc _ _ _ _ _ _) _=_;rw [Ed]
theorem x_Xi (f:FuncId) (xs:List V) (k:V→Hp→Nat→Option Ans) (u:Dum k):GX O c (.i f xs) h n k Q u=((c=true→GI (O f xs h n) k Q u)∧(c=false→Fin (k BF h n) Q)):=by
 cases c with
 | true=>simp [GX,Fc,Pz,GI]
 | false=>simp only [Bool.false_eq_true,false_imp_iff,true_and,forall_const];show Fin (Fc _ _ _ _ _ _) _=_;rw [Ed]
@[congr] theorem GYp_congr {g:Prop} {v v':Option V} {k:V→Hp→Nat→List Rec→Option Ans} {u:Dum k} (hg:Ji c=g) (hx:g→v=v'):GYp c v h n rcs k Q u=GYp c v' h n rcs k Q u:=by
 cases c with
 | true=>rw [hx (hg▸rfl)]
 | false=>rfl
@[congr] theorem GYm_congr {g:Prop} {v v':AM Eff} {k:V→Hp→Nat→List Rec→Option Ans} {u:Dum k} (hg:Ji c=g) (hx:g→v=v'):GYm c v h n i ro rcs k Q u=GYm c v' h n i ro rcs k Q u:=by
 cases c with
 | true=>rw [hx (hg▸rfl)]
 | false=>rfl
theorem a4h (v:Option V) (k:V→Hp→Nat→List Rec→Option Ans) (u:Dum k):GD (.p v) (some c) h n i rcs k Q u=GYp c v h n rcs k Q u:=by cases c<;>rfl
theorem a4k (m:AM Eff) (k:V→Hp→Nat→List Rec→Option Ans) (u:Dum k):GD (.m m) (some c) h n i rcs k Q u=GYm c m h n i [] rcs k Q u:=by
 cases c with
 | true=>rw [zD];rfl
 | false=>rw [fZ];rfl
theorem x_Yp (v:V) (k:V→Hp→Nat→List Rec→Option Ans) (u:Dum k):GYp c (some v) h n rcs k Q u=Fin (k (if c=true then v else BF) h n rcs) Q:=by cases c<;>rfl
theorem x_Ym (v:V) (k:V→Hp→Nat→List Rec→Option Ans) (u:Dum k):GYm c (.ret ⟨v,[],0⟩) h n i [] rcs k Q u=Fin (k (if c=true then v else BF) h n rcs) Q:=by
 cases c with
 | true=>show Fin (DZ _ _ _ _ _ _ _) Q=_;rw [Ls];rfl
 | false=>rfl
theorem a4j (o:Nat) (f:Option Obj→AM Eff) (k:V→Hp→Nat→List Rec→Option Ans) (u:Dum k):GYm c (.rdo o f) h n i ro rcs k Q u=GYm c (f (h o)) h n i (ro++[o]) rcs k Q u:=by
 cases c with
 | true=>show Fin (DZ _ _ _ _ _ _ _) Q=Fin (DZ _ _ _ _ _ _ _) Q;rw [Qo]
 | false=>rfl
theorem a4i (x:Eff) (k:V→Hp→Nat→List Rec→Option Ans) (u:Dum k):GYm c (.ret x) h n i ro rcs k Q u=((c=true→Fin (k x.v (Au h x.upd) (n+x.new) (Fu i ro (x.upd.map (·.1)) rcs)) Q)∧(c=false→Fin (k BF h n rcs) Q)):=by
 cases c with
 | true=>simp only [forall_const,Bool.true_eq_false,false_imp_iff,and_true];show Fin (DZ _ _ _ _ _ _ _) Q=_;rw [Ls]
 | false=>simp [GYm]
attribute [go_sem] x_Yp x_Ym a4j
attribute [go_sem low] a4i a4h a4k
end
theorem jW (c b:Bool):(if c=true then (if c=true then bV b else BF) else bV false)=bV (c&&b):=by cases c<;>rfl
theorem cP (c b:Bool):(if c=true then bV b else bV false)=bV (c&&b):=by cases c<;>rfl
theorem sN (c b:Bool):(if c=true then bV true else (if c=false then bV b else BF))=bV (c||b):=by cases c<;>rfl
theorem jU (c b:Bool):(if c=true then bV true else (if (!c)=true then bV b else BF))=bV (c||b):=by cases c<;>rfl
theorem jV (c b:Bool):(if c=true then bV true else bV b)=bV (c||b):=by cases c<;>rfl
theorem aW (c b:Bool):KH (if c=true then bV b else BF) true=some (c&&b):=by cases c<;>simp [KY,FV]
theorem WJ (c b:Bool):KH (if c=true then bV b else BF) false=some (c&&!b):=by cases c<;>simp [Jm,FV]
theorem aX (c b:Bool):KH (if c=false then bV b else BF) true=some (!c&&b):=by cases c<;>simp [KY,FV]
theorem WK (c b:Bool):KH (if c=false then bV b else BF) false=some (!c&&!b):=by cases c<;>simp [Jm,FV]
attribute [go_sem] jW cP sN jU jV aW WJ aX WK x_Xp x_Xm x_Xr x_Xu x_Xi
attribute [go_sem low] x_S
theorem sR (c b:Bool):(if c=false then bV true else bV b)=bV (!c||b):=by cases c<;>rfl
theorem sQ (c b:Bool):(if c=false then bV true else (if c=true then bV b else BF))=bV (!c||b):=by cases c<;>rfl
theorem sP (c b:Bool):(if c=false then bV b else bV false)=bV (!c&&b):=by cases c<;>rfl
theorem sO (c b:Bool):(if c=false then (if c=false then bV b else BF) else bV false)=bV (!c&&b):=by cases c<;>rfl
attribute [go_sem] sR sQ sP sO
theorem xD {x y:Bool} (h:(x&&!y)=false):(!x||y)=true:=by cases x<;>cases y<;>simp_all
theorem xC {x y:Bool} (h:(x&&!y)=true):(!x||y)=false:=by cases x<;>cases y<;>simp_all
theorem a3h (L:Lay) (t:TypeId) (f:Fn) (a b:List V):Bu L t (.fn f a b)=.fn f a b:=by simp [Bu,V.isNil]
theorem a7v (d:Nat) (f:Fn) (a b:List V):AR 0 (d+1) (.fn f a b)=if AJ a&&AJ b then .ret (.fn f a b,[]) else .ret (.dead,[]):=(rfl)
attribute [go_sem] a3h a7v
def IsQ (r:V × Hp × Nat) (v:V) (h:Hp) (n:Nat):Prop:=(v,h,n)=r
theorem a2l (r:V × Hp × Nat) (v:V) (h:Hp) (n:Nat):IsQ r v h n=((v,h,n)=r):=(rfl)
attribute [go_sem] a2l
theorem Pv {C:Ctx} {j:Nat} {g:FuncId} {xs:List V} {r:V × Hp × Nat} {hp:Hp} {n:Nat} {nt:Nat} {rs:List ResultVar} {ts:List TypeId} {b:IR} {ow:List Bool} {inl:Bool} {cl:Option (Nat × Nat)} (hd:C.T g=some ⟨nt,rs,ts,b,ow,inl,cl⟩) (k:Nat)
  (h:Fin (evC C (Lv C j) (Aa (Lv C j)) k b ⟨Gm xs,hp,n⟩ (nK C.L rs ts)) (IsQ r)):Lv C (j+1) g xs hp n=some r:=by
 obtain ⟨v,h',n',h1,h2⟩:=h
 refine lQ (k:=k) ?_
 rw [Nf hd,← show (v,h',n')=r from h2,← h1];rfl
def pO (h:Hp) (o:Nat) (x:Option Obj):Hp:=Fd h o x
theorem kJ (h:Hp) (d:Nat) (v:Option Obj) (i:Nat):pO h d v i=if i=d then v else h i:=Oi h d v i
theorem a0z (i:Nat) (x:Option Obj):Fd Ag i x=pO Ag i x:=(rfl)
theorem sM (h:Hp) (o:Nat) (x y:Option Obj):Fd (pO h o x) o y=pO h o y:=by
 funext i;simp only [Oi,kJ];split<;>rfl
theorem sK (h:Hp) {i j:Nat} (x y:Option Obj) (hij:i<j):Fd (pO h j y) i x=pO (Fd h i x) j y:=by
 funext k;simp only [Oi,kJ]
 split
 ·split
  ·omega
  ·rfl
 ·rfl
theorem sL (h:Hp) {i j:Nat} (x y:Option Obj) (hij:j<i):Fd (pO h j y) i x=pO (pO h j y) i x:=(rfl)
attribute [go_sem] kJ a0z sM sK sL
def GW' (x:Option (Hp × List Nat)) (ks:List Nat) (nk:Nat) (vs:List V) (thr:Nat) (live:List Nat) (h:Hp) (k:St→Option Ans) (Q:V→Hp→Nat→Prop) (_:Dum k):Prop :=
 match x with
 | some (hp',ks')=>(ks++ks').Nodup∧(ks++ks').all (fun o=>decide (thr≤o))=true∧Fin (k ⟨Ad live (KE thr h vs thr),hp',thr+nk⟩) Q
 | none=>False
def GW (kl ks:List Nat) (hp:Hp) (vs:List V) (thr:Nat) (live:List Nat) (h:Hp) (k:St→Option Ans) (Q:V→Hp→Nat→Prop) (u:Dum k):Prop :=
 GW' (Ei thr h kl thr hp) ks kl.length vs thr live h k Q u
def GV (vs:List V) (x:Option (Hp × List Nat)) (thr:Nat) (live:List Nat) (h:Hp) (k:St→Option Ans) (Q:V→Hp→Nat→Prop) (u:Dum k):Prop :=
 match x with
 | some (hp,ks)=>GW (Hu thr h vs) ks hp vs thr live h k Q u
 | none=>False
theorem x_N (thr:Nat) (live:List Nat) (tm:Nat→V) (h:Hp) (n:Nat) (k:St→Option Ans) (Q:V→Hp→Nat→Prop) (u:Dum k):GN thr live ⟨tm,h,n⟩ k Q u=GV (live.map tm) (CO thr h thr) thr live h k Q u:=by
 show Fin (HI thr live ⟨tm,h,n⟩ k) Q=_
 simp only [HI,Vk,kZ]
 cases hc:CO thr h thr with
 | none=>simp [GV,Fin]
 | some x =>
  obtain ⟨hp,ks⟩:=x
  simp only [GV,GW]
  cases hc':Ei thr h (Hu thr h (live.map tm)) thr hp with
  | none=>simp [GW',Fin]
  | some x =>
   obtain ⟨hp',ks'⟩:=x
   simp only [GW']
   by_cases hk:(ks++ks').Nodup∧(ks++ks').all (fun o=>decide (thr≤o))=true
   ·simp only [if_pos hk]
    simp only [hk.1,hk.2,true_and]
   ·simp only [hk,if_false]
    simp only [← and_assoc,hk,false_and,eq_iff_iff,iff_false]
    rintro ⟨v,h,n,e,_⟩;cases e
theorem x_V (hp:Hp) (ks:List Nat) (vs:List V) (thr:Nat) (live:List Nat) (h:Hp) (k:St→Option Ans) (Q:V→Hp→Nat→Prop) (u:Dum k):GV vs (some (hp,ks)) thr live h k Q u=GW (Hu thr h vs) ks hp vs thr live h k Q u:=(rfl)
theorem x_W0 (ks:List Nat) (hp:Hp) (vs:List V) (thr:Nat) (live:List Nat) (h:Hp) (k:St→Option Ans) (Q:V→Hp→Nat→Prop) (u:Dum k):GW [] ks hp vs thr live h k Q u=(ks.Nodup∧ks.all (fun o=>decide (thr≤o))=true∧Fin (k ⟨Ad live (KE thr h vs thr),hp,thr⟩) Q):=by
 show GW' (some (hp,[])) ks 0 vs thr live h k Q u=_
 simp only [GW',List.append_nil,Nat.add_zero]
theorem x_W1 (o:Nat) (r:List Nat) (ks:List Nat) (hp:Hp) (vs:List V) (thr:Nat) (live:List Nat) (h:Hp) (k:St→Option Ans) (Q:V→Hp→Nat→Prop) (u:Dum k):GW (o::r) ks hp vs thr live h k Q u=GW' (Ei thr h (o::r) thr hp) ks (o::r).length vs thr live h k Q u:=(rfl)
theorem x_W2 (hp':Hp) (ks' ks:List Nat) (nk:Nat) (vs:List V) (thr:Nat) (live:List Nat) (h:Hp) (k:St→Option Ans) (Q:V→Hp→Nat→Prop) (u:Dum k):GW' (some (hp',ks')) ks nk vs thr live h k Q u=((ks++ks').Nodup∧(ks++ks').all (fun o=>decide (thr≤o))=true∧Fin (k ⟨Ad live (KE thr h vs thr),hp',thr+nk⟩) Q):=(rfl)
theorem a3w (thr:Nat) (h:Hp) (m:Nat) (hp:Hp):Ei thr h [] m hp=some (hp,[]):=(rfl)
def ckT (o:Nat) (thr:Nat) (h:Hp) (r:List Nat) (m:Nat) (hp:Hp) (x:Option (Option Obj × List Nat)):Option (Hp × List Nat):=ckS o (fun y=>Ei thr h r (m+1) (Fd hp m y)) x
theorem wR (thr:Nat) (h:Hp) (o:Nat) (r:List Nat) (m:Nat) (hp:Hp):Ei thr h (o::r) m hp=ckT o thr h r m hp (DI thr h (h o)):=(rfl)
theorem ck_T (o thr:Nat) (h:Hp) (r:List Nat) (m:Nat) (hp:Hp) (y:Option Obj) (ls:List Nat):ckT o thr h r m hp (some (y,ls))=ckB o ls (Ei thr h r (m+1) (Fd hp m y)):=(rfl)
theorem ck_B (o:Nat) (ls:List Nat) (hp:Hp) (ks:List Nat):ckB o ls (some (hp,ks))=some (hp,(o::ls)++ks):=(rfl)
theorem a2b (thr:Nat) (h:Hp):Hu thr h []=[]:=(rfl)
theorem uC (thr:Nat) (h:Hp) (v:V) (r:List V):Hu thr h (v::r)=Rl thr h v.slotO (Hu thr h r):=(rfl)
theorem uM (thr:Nat) (h:Hp) (l:List Nat):Rl thr h none l=l:=(rfl)
theorem uL (thr:Nat) (h:Hp) (o:Nat) (l:List Nat):Rl thr h (some o) l=if o<thr then l else Rk o (h o) l:=(rfl)
theorem uJ (o:Nat) (ob:Obj) (l:List Nat):Rk o (some ob) l=o::l:=(rfl)
theorem uK (o:Nat) (l:List Nat):Rk o none l=l:=(rfl)
theorem a0p (thr:Nat) (h:Hp) (m:Nat):KE thr h [] m=[]:=(rfl)
def renT (thr:Nat) (h:Hp) (m:Nat) (v:V) (r:List V) (x:Option Nat):List V:=rW thr h m v (KE thr h r) x
theorem rU (thr:Nat) (h:Hp) (m:Nat) (v:V) (r:List V):KE thr h (v::r) m=renT thr h m v r v.slotO:=(rfl)
theorem rS (thr:Nat) (h:Hp) (m:Nat) (v:V) (r:List V):renT thr h m v r none=v.scrub thr::KE thr h r m:=(rfl)
def renU (thr:Nat) (h:Hp) (m:Nat) (r:List V) (x:Option Obj):List V:=rV m (KE thr h r) x
theorem rR (thr:Nat) (h:Hp) (m:Nat) (v:V) (r:List V) (o:Nat):renT thr h m v r (some o)=if o<thr then v::KE thr h r m else renU thr h m r (h o):=(rfl)
theorem rP (thr:Nat) (h:Hp) (m:Nat) (r:List V) (ob:Obj):renU thr h m r (some ob)=.sl m::KE thr h r (m+1):=(rfl)
theorem rQ (thr:Nat) (h:Hp) (m:Nat) (r:List V):renU thr h m r none=.dead::KE thr h r m:=(rfl)
theorem zQ (v:Value):V.slotO (.lit v)=none:=(rfl)
theorem zU (v:List V):V.slotO (.agg v)=none:=(rfl)
theorem zN (v:List V):V.slotO (.tup v)=none:=(rfl)
theorem a4p (f:Fn) (a b:List V):V.slotO (.fn f a b)=none:=(rfl)
theorem zO (o i f:Nat):V.slotO (.ptr o i f)=none:=(rfl)
theorem a4o (p:Bool) (r:List V) (f:Nat):V.slotO (.ip p r f)=none:=(rfl)
theorem a4n (o:Nat):V.slotO (.sl o)=some o:=(rfl)
theorem zR (p n:Bool) (sz:Nat) (els:List V):V.slotO (.isl p n sz els)=none:=(rfl)
theorem zP (sz:Nat) (els:List V):V.slotO (.own sz els)=none:=(rfl)
theorem qJ:V.slotO .dead=none:=(rfl)
theorem zS (o i f n:Nat):V.slotO (.asl o i f n)=none:=(rfl)
attribute [go_sem] x_V x_W0 x_W1 x_W2 a3w wR ck_T ck_B a2b uC uM uL uJ uK a0p rU rS rR rP rQ zQ zU zN a4p zO a4o a4n zR zP qJ zS
def XV (x:Option (Hp × List Nat)) (y:Option (Option Obj × List Nat)) (i:Nat):Option (Hp × List Nat) :=
 match x with
 | none=>none
 | some (hp,ks)=>match y with
  | none=>none
  | some (y,ls)=>some (Fd hp i y,ks++ls)
theorem co_0 (thr:Nat) (h:Hp):CO thr h 0=some (Ag,[]):=(rfl)
theorem co_s (thr:Nat) (h:Hp) (i:Nat):CO thr h (i+1)=XV (CO thr h i) (DI thr h (h i)) i:=by
 simp only [CO,XV]
 cases CO thr h i with
 | none=>rfl
 | some x=>obtain ⟨hp,ks⟩:=x;cases DI thr h (h i) with
  | none=>rfl
  | some y=>obtain ⟨y,ls⟩:=y;rfl
theorem a7s (hp:Hp) (ks:List Nat) (y:Option Obj) (ls:List Nat) (i:Nat):XV (some (hp,ks)) (some (y,ls)) i=some (Fd hp i y,ks++ls):=(rfl)
def oA (thr:Nat) (h:Hp) (ob:Obj) (m:AM (List (V × List Nat))):Option (Option Obj × List Nat) :=
 match m.run h with
 | some x=>some (some { ob with els:=x.map (·.1) },(x.map (·.2)).flatten)
 | none=>none
theorem nX (thr:Nat) (h:Hp):DI thr h none=some (none,[]):=(rfl)
theorem nW (thr:Nat) (h:Hp) (ob:Obj):DI thr h (some ob)=if ob.dirty=true then oA thr h ob (AG (AR thr 6) ob.els) else some (some ob,[]):=by
 simp only [DI,oA,depth]
 split<;>rfl
theorem nY (thr:Nat) (h:Hp) (ob:Obj) (x:List (V × List Nat)):oA thr h ob (.ret x)=some (some { ob with els:=x.map (·.1) },(x.map (·.2)).flatten):=(rfl)
theorem nZ (thr:Nat) (h:Hp) (ob:Obj) (o:Nat) (f:Option Obj→AM (List (V × List Nat))):oA thr h ob (.rdo o f)=oA thr h ob (f (h o)):=(rfl)
theorem a3u (thr d o:Nat):AR thr (d+1) (.sl o)=if o<thr then .ret (.sl o,[]) else .rdo o fun
  | none=>.ret (.dead,[])
  | some ob=>if ob.dirty then (AG (AR 0 d) ob.els).bind fun x=>if AJ (x.map (·.1)) then .ret (.own ob.sz (x.map (·.1)),o::(x.map (·.2)).flatten) else .fail
   else .ret (.own ob.sz ob.els,[o]):=(rfl)
theorem RV {α β:Type} (f:α→AM β):∀ a b:List α,AG f (a++b)=(AG f a).bind fun x=>(AG f b).bind fun y=>.ret (x++y)
 | [],b=>by
  simp only [List.nil_append,AG,Bv]
  generalize AG f b=m
  induction m with
  | ret a=>rfl
  | fail=>rfl
  | rdo o k ih=>simp only [AM.bind];congr 1;funext x;exact ih x
 | a::r,b=>by simp only [List.cons_append,AG,RV f r b,Qn,Bv]
abbrev vn (v:V):V × List Nat:=(v,[])
theorem HP {α:Type} (thr d:Nat) (f:α→V) (h:∀ x,AR thr d (f x)=.ret (f x,[])) (l:List α):AG (AR thr d) (l.map f)=.ret ((l.map f).map vn):=by
 rw [Yn _ _ (fun x=>vn (f x)) h l,List.map_map];rfl
theorem a8k (thr d:Nat) (l:List Aj):AG (AR thr (d+2)) (l.map eW)=.ret ((l.map eW).map vn):=HP _ _ _ (fun x=>by simp only [oS,eS,eW,eI,eR,eWr,eE,EV,Cx,DC,Ep,Gx,Gy,Bv,List.map_cons,List.map_nil,List.flatten_cons,List.flatten_nil,List.append_nil,List.nil_append]) l
theorem a8n (thr d:Nat) (l:List AD):AG (AR thr (d+2)) (l.map eI)=.ret ((l.map eI).map vn):=HP _ _ _ (fun x=>by simp only [oS,eS,eW,eI,eR,eWr,eE,EV,Cx,DC,Ep,Gx,Gy,Bv,List.map_cons,List.map_nil,List.flatten_cons,List.flatten_nil,List.append_nil,List.nil_append]) l
theorem a8m (thr d:Nat) (l:List AZ):AG (AR thr (d+2)) (l.map eR)=.ret ((l.map eR).map vn):=HP _ _ _ (fun x=>by simp only [oS,eS,eW,eI,eR,eWr,eE,EV,Cx,DC,Ep,Gx,Gy,Bv,List.map_cons,List.map_nil,List.flatten_cons,List.flatten_nil,List.append_nil,List.nil_append]) l
theorem a4d (thr d:Nat) (l:List Aq):AG (AR thr (d+2)) (l.map eWr)=.ret ((l.map eWr).map vn):=HP _ _ _ (fun x=>by simp only [oS,eS,eW,eI,eR,eWr,eE,EV,Cx,DC,Ep,Gx,Gy,Bv,List.map_cons,List.map_nil,List.flatten_cons,List.flatten_nil,List.append_nil,List.nil_append]) l
theorem a8o (thr d:Nat) (l:List AI):AG (AR thr (d+2)) (l.map eE)=.ret ((l.map eE).map vn):=HP _ _ _ (fun x=>by simp only [oS,eS,eW,eI,eR,eWr,eE,EV,Cx,DC,Ep,Gx,Gy,Bv,List.map_cons,List.map_nil,List.flatten_cons,List.flatten_nil,List.append_nil,List.nil_append]) l
theorem a8i (thr d:Nat) (l:List Ae):AG (AR thr (d+2)) (l.map oS)=.ret ((l.map oS).map vn):=HP _ _ _ (fun x=>by simp only [oS,eS,eW,eI,eR,eWr,eE,EV,Cx,DC,Ep,Gx,Gy,Bv,List.map_cons,List.map_nil,List.flatten_cons,List.flatten_nil,List.append_nil,List.nil_append]) l
theorem a8l (p:Bool) (thr d:Nat) (l:List Ae):AG (AR thr (d+2)) (l.map (eS p))=.ret ((l.map (eS p)).map vn):=HP _ _ _ (fun x=>by simp only [oS,eS,eW,eI,eR,eWr,eE,EV,Cx,DC,Ep,Gx,Gy,Bv,List.map_cons,List.map_nil,List.flatten_cons,List.flatten_nil,List.append_nil,List.nil_append]) l
theorem YV (l:List V):List.map (fun x:V × List Nat=>x.1) (l.map vn)=l:=by simp [Function.comp_def]
theorem YU (l:List V):(List.map (fun x:V × List Nat=>x.2) (l.map vn)).flatten=[]:=by
 induction l with
 | nil=>rfl
 | cons a l ih=>simp
theorem jZ (l:List Ae):AJ (l.map (eS true))=true:=CM _ (fun _=>by simp [eS,V.perm,AJ]) l
attribute [go_sem] co_0 co_s a7s nX nW nY nZ a3u RV a8k a8n a8m a4d a8o a8i a8l YV YU jZ IJ List.map_append List.flatten_append
attribute [go_sem low] x_N
end Ve
namespace Ve
open Go
section fx
variable {R:Type}
def OLe (O O':Orc):Prop:=∀ g xs h n r,O g xs h n=some r→O' g xs h n=some r
def PLe (P P':FuncId→List V→Option V):Prop:=∀ g xs r,P g xs=some r→P' g xs=some r
def RLe (m m':AM Eff):Prop:=∀ h r,m.runR h=some r→m'.runR h=some r
theorem RLe.run {m m':AM Eff} (hm:RLe m m') {h:Nat→Option Obj} {x:Eff} (e:m.run h=some x):m'.run h=some x:=by
 have h1:=m.runR_eq h
 rw [e] at h1
 have h2:=hm h _ h1
 have h3:=m'.runR_eq h
 rw [h2] at h3
 cases h4:m'.run h with
 | none=>rw [h4] at h3;cases h3
 | some y=>rw [h4] at h3;simp only [Option.some.injEq,Prod.mk.injEq] at h3;rw [h3.1]
inductive KLe:OpK→OpK→Prop
 | p (v:Option V):KLe (.p v) (.p v)
 | m {m m':AM Eff} (h:RLe m m'):KLe (.m m) (.m m')
 | i (g:FuncId) (xs:List V):KLe (.i g xs) (.i g xs)
theorem KLe.refl:∀ x,KLe x x
 | .p v=>.p v
 | .m _=>.m fun _ _ h=>h
 | .i g xs=>.i g xs
end fx
end Ve
namespace Ve
open Go
theorem yQ {thr:Nat} {live:List Nat} {f:St→(Out→St→Option Ans)→Option Ans} {q:Out→St→Option Ans} {Q:V→Hp→Nat→Prop} {u:Dum f} {w:Dum q} (S:Nat→St) (n:Nat) (good:Nat→Bool)
  (hstep:∀ j kk,j<n→good j=true→GL thr live f q kk (S (j+1)) Q u w→GN thr live (S j) (fun s=>f s fun o s=>Cp (BD thr live f q kk) q o s) Q ⟨⟩)
  (hbad:∀ j kk,j<n→good j=false→(∀ i,i<j→good i=true)→GN thr live (S j) (fun s=>f s fun o s=>Cp (BD thr live f q kk) q o s) Q ⟨⟩)
  (hend:∀ kk,(∀ i,i<n→good i=true)→GN thr live (S n) (fun s=>f s fun o s=>Cp (BD thr live f q kk) q o s) Q ⟨⟩) :
  ∀ (d j k:Nat),j+d=n→d<k→(∀ i,i<j→good i=true)→GL thr live f q k (S j) Q u w
 | 0,j,0,_,hk,_=>by omega
 | 0,j,k+1,hj,_,hg=>by
  obtain rfl:j=n:=by omega
  exact hend k hg
 | d+1,j,0,_,hk,_=>by omega
 | d+1,j,k+1,hj,hk,hg=>by
  cases hb:good j with
  | false=>exact hbad j k (by omega) hb hg
  | true =>
   refine hstep j k (by omega) hb (yQ S n good hstep hbad hend d (j+1) k (by omega) (by omega) ?_)
   intro i hi
   rcases Nat.lt_or_eq_of_le (Nat.le_of_lt_succ hi) with h | rfl
   ·exact hg i h
   ·exact hb
theorem JK {thr:Nat} {live:List Nat} {f:St→(Out→St→Option Ans)→Option Ans} {q:Out→St→Option Ans} {k:Nat} {s:St} {Q:V→Hp→Nat→Prop} {u:Dum f} {w:Dum q} (S:Nat→St) (n:Nat) (good:Nat→Bool) (hs:s=S 0) (hk:n<k)
  (hstep:∀ j kk,j<n→good j=true→GL thr live f q kk (S (j+1)) Q u w→GN thr live (S j) (fun s=>f s fun o s=>Cp (BD thr live f q kk) q o s) Q ⟨⟩)
  (hbad:∀ j kk,j<n→good j=false→(∀ i,i<j→good i=true)→GN thr live (S j) (fun s=>f s fun o s=>Cp (BD thr live f q kk) q o s) Q ⟨⟩)
  (hend:∀ kk,(∀ i,i<n→good i=true)→GN thr live (S n) (fun s=>f s fun o s=>Cp (BD thr live f q kk) q o s) Q ⟨⟩) :
  GL thr live f q k s Q u w:=by
 rw [hs]
 exact yQ S n good hstep hbad hend n 0 k (by omega) hk (by omega)
theorem Kx {thr:Nat} {live:List Nat} {f:St→(Out→St→Option Ans)→Option Ans} {q:Out→St→Option Ans} {k:Nat} {s:St} {Q:V→Hp→Nat→Prop} {u:Dum f} {w:Dum q} (S:Nat→St) (n:Nat) (hs:s=S 0) (hk:n<k)
  (hstep:∀ j kk,j<n→GL thr live f q kk (S (j+1)) Q u w→GN thr live (S j) (fun s=>f s fun o s=>Cp (BD thr live f q kk) q o s) Q ⟨⟩)
  (hend:∀ kk,GN thr live (S n) (fun s=>f s fun o s=>Cp (BD thr live f q kk) q o s) Q ⟨⟩) :
  GL thr live f q k s Q u w :=
 JK S n (fun _=>true) hs hk (fun j kk hj _=>hstep j kk hj) (fun _ _ _ h=>by cases h) (fun kk _=>hend kk)
theorem Cc {thr:Nat} {live:List Nat} {f:St→(Out→St→Option Ans)→Option Ans} {q:Out→St→Option Ans} {k:Nat} {s s':St} {Q:V→Hp→Nat→Prop} {u:Dum f} {w:Dum q} (h:GL thr live f q k s Q u w) (e:Vk thr live s'=Vk thr live s):GL thr live f q k s' Q u w:=by
 cases k with
 | zero=>exact h
 | succ k =>
  rw [gLs] at h ⊢
  simp only [GN,HI] at h ⊢
  rw [e];exact h
theorem CY {C:Ctx} {j:Nat} {g:FuncId} {xs:List V} {hp:Hp} {n:Nat} {K:V→Hp→Nat→Option Ans} {Q:V→Hp→Nat→Prop} {u:Dum K} {nt:Nat} {rs:List ResultVar} {ts:List TypeId} {b:IR} {ow:List Bool} {inl:Bool} {cl:Option (Nat × Nat)} (hd:C.T g=some ⟨nt,rs,ts,b,ow,inl,cl⟩) (k:Nat)
  (h:Fin (evC C (Lv C j) (Aa (Lv C j)) k b ⟨Gm xs,hp,n⟩ (nK C.L rs ts)) (fun v h n=>Fin (K v h n) Q)):GI (Lv C (j+1) g xs hp n) K Q u:=by
 obtain ⟨v,h',n',h1,h2⟩:=h
 have h3:Lv C (j+1) g xs hp n=some (v,h',n'):=by
  refine lQ (k:=k) ?_
  rw [Nf hd,← h1];rfl
 rw [h3]
 exact h2
end Ve
namespace Ve
open Go
theorem xU (thr d:Nat) (l:List Ae) (k:Nat) (x:V) (hk:k<l.length):AG (AR thr (d+2)) ((l.map oS).set k x)=(AR thr (d+2) x).bind fun y=>.ret (((l.map oS).map vn).set k y) :=
 Ym _ vn x _ _ (fun y hy=>by
  obtain ⟨s,_,rfl⟩:=List.mem_map.1 hy
  simp only [oS,EV,Cx,DC,Ep,Gx,Gy,Bv,List.map_cons,List.map_nil,List.flatten_cons,List.flatten_nil,List.append_nil,List.nil_append]) (by simpa using hk)
theorem sA (d:Nat) (l:List Ae) (k:Nat) (x:V) (hk:k<l.length):AG (AW (d+2)) ((l.map oS).set k x)=(AW (d+2) x).bind fun y=>.ret ((l.map (eS false)).set k y):=by
 have:=Ym (AW (d+2)) (fun v=>v.bz) x (l.map oS) k (fun y hy=>by
  obtain ⟨s,_,rfl⟩:=List.mem_map.1 hy
  simp only [oS,Yg,Ql,Uh,Yf,Ye,OT,Cx,DC,MQ,Xf,Bv]) (by simpa using hk)
 rw [this]
 congr 1
 funext y
 rw [List.map_map]
 congr 3
 funext s
 simp only [Function.comp,oS,eS,Yg,Ql,Uh,Yf,Ye,RA,nS,XR]
theorem Vq (L:List V) (k:Nat) (y:V × List Nat):List.map (fun x:V × List Nat=>x.1) ((L.map vn).set k y)=L.set k y.1:=by
 rw [List.map_set,YV]
theorem Vp (L:List V) (k:Nat) (y:V × List Nat) (hk:k<L.length):(List.map (fun x:V × List Nat=>x.2) ((L.map vn).set k y)).flatten=y.2:=by
 induction L generalizing k with
 | nil=>simp at hk
 | cons a l ih=>cases k with
  | zero=>simp only [List.map_cons,List.set_cons_zero,List.flatten_cons];rw [YU];simp
  | succ k=>simp only [List.map_cons,List.set_cons_succ,List.flatten_cons];rw [ih k (by simpa using hk)];rfl
theorem QM:∀ (l:List V) (k:Nat) (x:V),AJ l=true→x.perm=true→AJ (l.set k x)=true
 | [],_,_,_,_=>by simp [AJ]
 | a::l,0,x,h,hx=>by simp only [FE,Bool.and_eq_true] at h;simp only [List.set_cons_zero,FE,hx,h.2,Bool.and_self]
 | a::l,k+1,x,h,hx=>by simp only [FE,Bool.and_eq_true] at h;simp only [List.set_cons_succ,FE,h.1,QM l k x h.2 hx,Bool.and_self]
theorem Xj (l:List Ae) (k:Nat) (x:V) (hx:x.perm=true):AJ ((l.map oS).set k x)=true:=QM _ _ _ (Vg l) hx
theorem aL:∀ (l:List V) (k:Nat) (x:V),bzs (l.set k x)=(bzs l).set k x.bz
 | [],_,_=>by simp [bzs]
 | a::l,0,x=>by simp [bzs]
 | a::l,k+1,x=>by simp [bzs,aL l k x]
attribute [go_sem] xU sA Vq Vp Xj aL List.length_map
end Ve
