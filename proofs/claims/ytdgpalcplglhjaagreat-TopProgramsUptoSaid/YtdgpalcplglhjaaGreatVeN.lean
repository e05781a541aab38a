/- The evaluator's steps as rewriting rules. -/
import Derived.Test.YtdgpalcplglhjaaGreatVeM
import Derived.Attr
import Derived.Test.YtdgpalcplglhjaaGreatVeC
set_option linter.all false
set_option linter.unusedSectionVars false
namespace Ve
open Go
section
variable {R:Type}
@[congr] theorem bindP_congr {v v':Option V} {k:V→Option R} (e:v=v'):FQ v k=FQ v' k:=by rw [e]
@[congr] theorem bindM_congr {m m':AM Eff} {h:Hp} {n:Nat} {k:V→Hp→Nat→Option R} (e:m=m'):HF m h n k=HF m' h n k:=by rw [e]
@[congr] theorem bindR_congr {m m':AM Eff} {h:Hp} {n i:Nat} {rcs:List Rec} {k:V→Hp→Nat→List Rec→Option R} (e:m=m'):KK m h n i rcs k=KK m' h n i rcs k:=by rw [e]
@[congr] theorem bindI_congr {x x':Option (V × Hp × Nat)} {k:V→Hp→Nat→Option R} (e:x=x'):Jz x k=Jz x' k:=by rw [e]
@[congr] theorem condK_congr {b b':Option Bool} {x y:Option R} (e:b=b'):Pj b x y=Pj b' x y:=by rw [e]
@[congr] theorem heapK_congr {bef:List (List Nat)} {rcs rcs':List Rec} {x:Option R} (e:rcs=rcs'):Ic bef rcs x=Ic bef rcs' x:=by rw [e]
theorem bindP_some (v:V) (k:V→Option R):FQ (some v) k=k v:=rfl
def Ub (b:Bool) (x y:Option R):Option R :=
 match b with
 | true=>x
 | false=>y
@[congr] theorem splitK_congr {b b':Bool} {x y:Option R} (e:b=b'):Ub b x y=Ub b' x y:=by rw [e]
theorem splitK_true (x y:Option R):Ub true x y=x:=rfl
def DQ (m:AM Eff) (h:Hp) (n i:Nat) (ro:List Nat) (rcs:List Rec) (k:V→Hp→Nat→List Rec→Option R):Option R :=
 match m.run h with
 | some x=>k x.v (Aq h x.upd) (n+x.new) (Fd i (ro++m.reads h) (x.upd.map (·.1)) rcs)
 | none=>none
@[congr] theorem bindR'_congr {m m':AM Eff} {h:Hp} {n i:Nat} {ro:List Nat} {rcs:List Rec} {k:V→Hp→Nat→List Rec→Option R} (e:m=m'):DQ m h n i ro rcs k=DQ m' h n i ro rcs k:=by rw [e]
theorem fQ (m:AM Eff) (h:Hp) (n i:Nat) (rcs:List Rec) (k:V→Hp→Nat→List Rec→Option R):KK m h n i rcs k=DQ m h n i [] rcs k:=KJ m h n i rcs k
theorem JS (x:Eff) (h:Hp) (n i:Nat) (ro:List Nat) (rcs:List Rec) (k:V→Hp→Nat→List Rec→Option R):DQ (.ret x) h n i ro rcs k=k x.v (Aq h x.upd) (n+x.new) (Fd i ro (x.upd.map (·.1)) rcs):=by
 simp [DQ,AM.run,AM.reads]
theorem NQ (o:Nat) (f:Option Obj→AM Eff) (h:Hp) (n i:Nat) (ro:List Nat) (rcs:List Rec) (k:V→Hp→Nat→List Rec→Option R):DQ (.rdo o f) h n i ro rcs k=DQ (f (h o)) h n i (ro++[o]) rcs k:=by
 simp [DQ,AM.run,AM.reads]
end
theorem gT (h:Hp):Aq h []=h:=rfl
theorem Zy (h:Hp) (o:Nat) (x:Option Obj) (r:List (Nat × Option Obj)):Aq h ((o,x)::r)=Aq (ES h o x) r:=rfl
theorem wY {α:Type} (o:Nat) (k:Obj→AM α):AM.rd o k=.rdo o fun | some ob=>k ob | none=>.fail:=rfl
theorem Bh {α β:Type} (a:α) (f:α→AM β):(AM.ret a).bind f=f a:=rfl
theorem fP {α β:Type} (o:Nat) (k:Option Obj→AM α) (f:α→AM β):(AM.rdo o k).bind f=.rdo o fun ob=>(k ob).bind f:=rfl
theorem mP (L:Lay) (t:TypeId) (cs:List V):Bg L t (.agg cs)=.agg cs:=by simp [Bg,V.isNil]
theorem mO (L:Lay) (t:TypeId) (k:IntKind) (n:Int):Bg L t (.lit (.int k n))=.lit (.int k n):=by simp [Bg,V.isNil]
theorem eF (L:Lay) (t:TypeId) (b:Bool):Bg L t (.lit (.bool b))=.lit (.bool b):=by simp [Bg,V.isNil]
theorem uD (L:Lay) (t:TypeId) (o:Nat):Bg L t (.sl o)=.sl o:=by simp [Bg,V.isNil]
theorem mN (L:Lay) (t:TypeId) (p nn:Bool) (sz:Nat) (els:List V):Bg L t (.isl p nn sz els)=.isl p nn sz els:=by simp [Bg,V.isNil]
theorem mM (L:Lay) (t:TypeId) (sz:Nat) (els:List V):Bg L t (.own sz els)=.own sz els:=by simp [Bg,V.isNil]
theorem mL (L:Lay) (t:TypeId) (o i f:Nat):Bg L t (.ptr o i f)=.ptr o i f:=by simp [Bg,V.isNil]
theorem uE (L:Lay) (t:TypeId) (p:Bool) (row:List V) (f:Nat):Bg L t (.ip p row f)=.ip p row f:=by simp [Bg,V.isNil]
section
variable {L:Lay} {t:TypeId} {k:IntKind} {a b:Int}
theorem oJ:BJ L .add t (.lit (.int k a)) (.lit (.int k b))=some (.lit (.int k (k.wrap (a+b)))):=by simp [BJ,binOp,Op.intArith,Op.intCmp];rfl
theorem nX:BJ L .sub t (.lit (.int k a)) (.lit (.int k b))=some (.lit (.int k (k.wrap (a - b)))):=by simp [BJ,binOp,Op.intArith,Op.intCmp];rfl
theorem oA:BJ L .mul t (.lit (.int k a)) (.lit (.int k b))=some (.lit (.int k (k.wrap (a*b)))):=by simp [BJ,binOp,Op.intArith,Op.intCmp];rfl
theorem oB:BJ L .lss t (.lit (.int k a)) (.lit (.int k b))=some (.lit (.bool (decide (a<b)))):=by simp [BJ,binOp,Op.intArith,Op.intCmp];rfl
theorem oC:BJ L .leq t (.lit (.int k a)) (.lit (.int k b))=some (.lit (.bool (decide (a≤b)))):=by simp [BJ,binOp,Op.intArith,Op.intCmp];rfl
theorem oD:BJ L .gtr t (.lit (.int k a)) (.lit (.int k b))=some (.lit (.bool (decide (b<a)))):=by simp [BJ,binOp,Op.intArith,Op.intCmp];rfl
theorem oE:BJ L .geq t (.lit (.int k a)) (.lit (.int k b))=some (.lit (.bool (decide (b≤a)))):=by simp [BJ,binOp,Op.intArith,Op.intCmp];rfl
theorem oG:BJ L .eql t (.lit (.int k a)) (.lit (.int k b))=some (.lit (.bool (decide (a=b)))):=by simp [BJ,binOp,Op.intArith,Op.intCmp];rfl
theorem nZ:BJ L .neq t (.lit (.int k a)) (.lit (.int k b))=some (.lit (.bool (!decide (a=b)))):=by simp [BJ,binOp,Op.intArith,Op.intCmp];rfl
theorem pS {x:Bool}:bK .not (.lit (.bool x))=some (.lit (.bool !x)):=rfl
end
section
variable {R:Type}
def EQ (O:Orc) (x:OpK) (g:Option Bool) (h:Hp) (n:Nat) (k:V→Hp→Nat→Option R):Option R :=
 match x with
 | .p v=>FQ (IE g v) fun v=>k v h n
 | .m m=>HF (DB g m) h n k
 | .i f xs=>Jz (IF g h n (O f xs h n)) k
@[congr] theorem stepO_congr {O:Orc} {x x':OpK} {g g':Option Bool} {h:Hp} {n:Nat} {k:V→Hp→Nat→Option R} (e:x=x') (e':g=g'):EQ O x g h n k=EQ O x' g' h n k:=by rw [e,e']
theorem runOps_nil (L:Lay) (T:Tbl) (O:Orc) (P:FuncId→List V→Option V) (s:St) (k:St→Option R):Cj L T O P [] s k=k s:=rfl
theorem Sk (L:Lay) (T:Tbl) (O:Orc) (P:FuncId→List V→Option V) (o:IOp) (r:List IOp) (tm:Nat→V) (h:Hp) (n:Nat) (k:St→Option R) :
  Cj L T O P (o::r) ⟨tm,h,n⟩ k=EQ O (opK L T P (eV tm) n o.frz o.op) (CU tm o.guard) h n fun v h n=>Cj L T O P r ⟨Hh tm o.dst v,h,n⟩ k:=by
 simp only [Cj,EQ]
 cases opK L T P (eV tm) n o.frz o.op<;>rfl
theorem DU (O:Orc) (x:OpK) (h:Hp) (n:Nat) (k:V→Hp→Nat→Option R):EQ O x (some false) h n k=k Bv h n:=by
 cases x<;>simp [EQ,IE,DB,IF,FQ,HF,Jz,AM.run,Aq]
def Lq (x:OpK) (g:Option Bool) (h:Hp) (n i:Nat) (rcs:List Rec) (k:V→Hp→Nat→List Rec→Option R):Option R :=
 match x with
 | .p v=>FQ (IE g v) fun v=>k v h n rcs
 | .m m=>KK (DB g m) h n i rcs k
 | .i _ _=>none
@[congr] theorem stepD_congr {x x':OpK} {g g':Option Bool} {h:Hp} {n i:Nat} {rcs:List Rec} {k:V→Hp→Nat→List Rec→Option R} (e:x=x') (e':g=g'):Lq x g h n i rcs k=Lq x' g' h n i rcs k:=by rw [e,e']
theorem runDraw_nil (L:Lay) (T:Tbl) (P:FuncId→List V→Option V) (i:Nat) (s:St) (rcs:List Rec) (k:St→List Rec→Option R):Bz L T P i [] s rcs k=k s rcs:=rfl
theorem PQ (L:Lay) (T:Tbl) (P:FuncId→List V→Option V) (i:Nat) (o:IOp) (r:List IOp) (tm:Nat→V) (h:Hp) (n:Nat) (rcs:List Rec) (k:St→List Rec→Option R) :
  Bz L T P i (o::r) ⟨tm,h,n⟩ rcs k=Lq (opK L T P (eV tm) n o.frz o.op) (CU tm o.guard) h n i rcs fun v h n rcs=>Bz L T P (i+1) r ⟨Hh tm o.dst v,h,n⟩ rcs k:=by
 simp only [Bz,Lq]
 cases opK L T P (eV tm) n o.frz o.op<;>rfl
theorem Ua (m:AM Eff) (h:Hp) (n i:Nat) (rcs:List Rec) (k:V→Hp→Nat→List Rec→Option R):Lq (.m m) (some false) h n i rcs k=k Bv h n rcs:=by
 simp [Lq,DB,KJ,AM.run,AM.reads,Aq,Fd]
theorem XH (tm:Nat→V):CU tm none=some true:=rfl
theorem XG (tm:Nat→V) (t:Tmp) (b:Bool):CU tm (some (t,b))=Jo (tm t) b:=rfl
theorem JB (c:Bool):Jo (.lit (.bool c)) true=some c:=by cases c<;>rfl
theorem Ig (c:Bool):Jo (.lit (.bool c)) false=some !c:=by cases c<;>rfl
theorem FB (b:Bool):Jo Bv b=some false:=rfl
theorem XN (tm:Nat→V) (t:Tmp) (v:V):Hh tm (some t) v=TX tm t v:=rfl
theorem XO (tm:Nat→V) (v:V):Hh tm none v=tm:=rfl
theorem gV (tm:Nat→V) (d:Nat) (v:V) (i:Nat):TX tm d v i=if i=d then v else tm i:=by
 by_cases e:i=d
 ·simp [TX,e]
 ·have:Nat.beq i d=false:=by
   cases hb:Nat.beq i d with
   | false=>rfl
   | true=>exact absurd (Nat.eq_of_beq_eq_true hb) e
  simp [TX,this,e]
theorem Ma (h:Hp) (d:Nat) (v:Option Obj) (i:Nat):ES h d v i=if i=d then v else h i:=by
 by_cases e:i=d
 ·simp [ES,e]
 ·simp [BI,e]
theorem SF (i:Nat) (is:List Nat) (v:V) (vs:List V) (j:Nat):Ae (i::is) (v::vs) j=if j=i then v else Ae is vs j:=rfl
theorem ZF (v:V) (r:List V):FT (v::r) 0=v:=rfl
theorem ZE (a v:V) (r:List V):FT (a::v::r) 1=v:=rfl
theorem ZD (a b v:V) (r:List V):FT (a::b::v::r) 2=v:=rfl
theorem ZC (a b c v:V) (r:List V):FT (a::b::c::v::r) 3=v:=rfl
theorem ZB (a b c d v:V) (r:List V):FT (a::b::c::d::v::r) 4=v:=rfl
theorem ZA (a b c d e v:V) (r:List V):FT (a::b::c::d::e::v::r) 5=v:=rfl
section
variable (C:Ctx) (O:Orc) (P:FuncId→List V→Option V) (k:Nat) (s:St) (q:Out→St→Option R)
theorem mQ {ops:List IOp} {bef:List (List Nat)} (h:HI bef 0 ops=true):evC C O P k (.region ops (some bef)) s q=Bz C.L C.T P 0 ops s [] fun s rcs=>Ic bef rcs (q .normal s):=by simp [evC,h]
end
theorem TK (i:Nat) (q:Out→St→Option R) (j:Nat) (s:St):Dt i q (.exit j) s=if j=i then q .normal s else q (.exit j) s:=by
 simp only [Dt]
 by_cases e:j=i
 ·simp [e]
 ·have:Nat.beq j i=false:=by
   cases hb:Nat.beq j i with
   | false=>rfl
   | true=>exact absurd (Nat.eq_of_beq_eq_true hb) e
  simp [this,e]
theorem aB (live:List Nat) (tm:Nat→V) (h:Hp) (n:Nat):Fh live ⟨tm,h,n⟩=⟨Ae live (live.map tm),h,n⟩:=rfl
@[congr] theorem normK_congr {thr:Nat} {live:List Nat} {s s':St} {k:St→Option R} (e:s=s'):GH thr live s k=GH thr live s' k:=by rw [e]
@[congr] theorem evLoop_congr {thr:Nat} {live:List Nat} {f:St→(Out→St→Option R)→Option R} {q:Out→St→Option R} {k:Nat} {s s':St} (e:s=s'):BG thr live f q k s=BG thr live f q k s':=by rw [e]
@[congr] theorem evC_congr {C:Ctx} {O:Orc} {P:FuncId→List V→Option V} {k:Nat} {b:IR} {s s':St} {q:Out→St→Option R} (e:s=s'):evC C O P k b s q=evC C O P k b s' q:=by rw [e]
@[congr] theorem runOps_congr {L:Lay} {T:Tbl} {O:Orc} {P:FuncId→List V→Option V} {ops:List IOp} {s s':St} {k:St→Option R} (e:s=s'):Cj L T O P ops s k=Cj L T O P ops s' k:=by rw [e]
end
attribute [go_sem] aB
attribute [go_sem] XH XG JB Ig FB XN XO gV Ma SF ZF ZE ZD ZC ZB ZA
section
variable (L:Lay) (T:Tbl) (P:FuncId→List V→Option V) (e:Operand→V) (n:Nat) (z:Bool)
theorem sZ (x:Operand):opK L T P e n z (.move x)=.p (some (e x)):=rfl
theorem dK (x:Operand):opK L T P e n z (.assign x)=.p (some (e x)):=rfl
theorem sY (c a b:Operand):opK L T P e n z (.pick c a b)=.p (MM (e c) (e a) (e b)):=rfl
theorem lS (t:TypeId):opK L T P e n z (.alloc t)=.m (Ha L n t):=rfl
theorem tE (t:TypeId) (x:Operand):opK L T P e n true (.box t x)=.m (Iw L t (e x)):=rfl
theorem tF (t:TypeId) (x:Operand):opK L T P e n false (.box t x)=.m (Jt L n t (e x)):=rfl
theorem lR (t:TypeId) (ps:Array (Nat × Operand)):opK L T P e n z (.build t ps)=.p (Km L t (ps.toList.map fun p=>(p.1,e p.2))):=rfl
theorem Qi (t:TypeId) (len:Nat) (ps:Array (Nat × Operand)):opK L T P e n z (.buildSlice t len ps)=.m (CJ L n t len (ps.toList.map fun p=>(p.1,e p.2))):=rfl
theorem SX (t:TypeId) (l c:Operand):opK L T P e n z (.makeSlice t l c)=.m (Dh L n t (e l) (e c)):=rfl
theorem tC (d s:Operand) (t u:TypeId):opK L T P e n z (.call { callee:=.builtin .copy,args:=#[d,s],argTypes:=#[t,u] })=.m (MO L t (e d) (e s)):=rfl
theorem tA (t:TypeId) (x:Operand):opK L T P e n false (.load t x)=.m (ET L n t (e x)):=rfl
theorem dI (t:TypeId) (x:Operand):opK L T P e n true (.load t x)=.m (Ix L n t (e x)):=rfl
theorem lM (t:TypeId) (x v:Operand):opK L T P e n z (.store t x v)=.m (Kg L t (e x) (e v)):=rfl
theorem UN (x:Operand):opK L T P e n z (.nilCheck x)=.p (GF (e x)):=rfl
theorem yQ (op:BinOp) (t:TypeId) (x y:Operand) (u:TypeId):opK L T P e n z (.binOp op t x y u)=.p (BJ L op t (e x) (e y)):=rfl
theorem k_un (op:UnOp) (t:TypeId) (x:Operand):opK L T P e n z (.unOp op t x)=.p (bK op (e x)):=rfl
theorem YM (s d:TypeId) (x:Operand):opK L T P e n false (.convert s d x)=.p (CF L s d (e x)):=rfl
theorem lQ (s d:TypeId) (x:Operand):opK L T P e n true (.convert s d x)=.m (Kl L s d (e x)):=rfl
theorem UO (f:Fn) (a b:Array Operand):opK L T P e n z (.makeFunc f a b)=.p (some (.fn f (a.toList.map e) (b.toList.map e))):=rfl
theorem dH (t:TypeId) (x:Operand) (lo hi mx:Option Operand):opK L T P e n true (.slice t x lo hi mx)=.p (Ht L t (e x) (lo.map e) (hi.map e) (mx.map e)):=rfl
theorem lN (t:TypeId) (x:Operand) (lo hi mx:Option Operand):opK L T P e n false (.slice t x lo hi mx)=.p (Kh L t (e x) (lo.map e) (hi.map e) (mx.map e)):=rfl
theorem SZ (s:TypeId) (x:Operand) (f:Nat):opK L T P e n z (.fieldAddr s x f)=.p (FE L s (e x) f):=rfl
theorem SY (t:TypeId) (x i:Operand):opK L T P e n false (.indexAddr t x i)=.m (DL L t (e x) (e i)):=rfl
theorem Qh (t:TypeId) (x i:Operand):opK L T P e n true (.indexAddr t x i)=.m (EU L n t (e x) (e i)):=rfl
theorem lP (t:TypeId) (x:Operand) (f:Nat):opK L T P e n z (.field t x f)=.p (Kk L t (e x) f):=rfl
theorem dJ (t:TypeId) (x i:Operand):opK L T P e n true (.index t x i)=.p (Iy L t (e x) (e i)):=rfl
theorem lO (t:TypeId) (x i:Operand):opK L T P e n false (.index t x i)=.p (Kj L t (e x) (e i)):=rfl
theorem YL (x:Operand) (i:Nat):opK L T P e n z (.extract x i)=.p (Hu (e x) i):=rfl
theorem yP (x:Operand) (t:TypeId):opK L T P e n z (.call { callee:=.builtin .len,args:=#[x],argTypes:=#[t] })=.m (dC L t (e x)):=rfl
theorem yN (xs:Array Operand) (ts:Array TypeId):opK L T P e n z (.call { callee:=.builtin .min,args:=xs,argTypes:=ts })=.p (IA (xs.toList.map e)):=rfl
theorem YN (xs:Array Operand) (ts:Array TypeId):opK L T P e n z (.call { callee:=.builtin .complex,args:=xs,argTypes:=ts })=.p (IM (xs.toList.map e)):=rfl
theorem sX (xs:Array Operand) (ts:Array TypeId):opK L T P e n z (.call { callee:=.builtin .real,args:=xs,argTypes:=ts })=.p (Sp (xs.toList.map e)):=rfl
theorem tB (xs:Array Operand) (ts:Array TypeId):opK L T P e n z (.call { callee:=.builtin .imag,args:=xs,argTypes:=ts })=.p (Td (xs.toList.map e)):=rfl
theorem yO (xs:Array Operand) (ts:Array TypeId):opK L T P e n z (.call { callee:=.builtin .max,args:=xs,argTypes:=ts })=.p (MZ (xs.toList.map e)):=rfl
theorem dL (s x:Operand) (t:TypeId):opK L T P e n z (.call { callee:=.builtin .append,args:=#[s,x],argTypes:=#[t,t] })=.m (FF L n t (e s) (e x)):=by
 show (match Nat.beq t t with
  | true=>OpK.m (FF L n t (e s) (e x))
  | false=>.p none)=_
 rw [Nat.beq_refl]
theorem tD (f:Operand) (xs:Array Operand) (ts:Array TypeId):opK L T P e n z (.call { callee:=.value f,args:=xs,argTypes:=ts })=FW T P n z (e f) (xs.toList.map e):=rfl
end
attribute [go_sem] lQ dH dJ dC UL Kl u8s SX tC dI Ix No sZ dK sY lS tE tF lR Qi tA lM UN yQ k_un YM UO lN SZ SY Qh EU lO lP YL yP yN YN sX tB yO dL tD
theorem uO (tm:Nat→V) (t:Tmp):eV tm (.tmp t)=tm t:=rfl
theorem eK (tm:Nat→V) (v:Value):eV tm (.const v)=.lit v:=rfl
theorem nB (tm:Nat→V) (f:FuncId):eV tm (.func f)=.fn (.func f) [] []:=rfl
attribute [go_sem] uO eK nB List.map_cons List.map_nil List.toList_toArray Option.map_some Option.map_none
attribute [go_sem] gT Zy wY Bh fP mP mO eF uD mN mM mL uE oJ nX oA oB oC oD oE oG nZ pS
attribute [go_sem] GF FE Kk Qs EZ Qg CV V.int? V.bool? MM Hu
theorem Le {C:Ctx} {O:Orc} {k f:Nat} {args:List V} {hp:Hp} {n:Nat} {d:IFn} (h:C.T f=some d):EF C O k f args hp n=evC C O (Aa O) k d.body ⟨FT args,hp,n⟩ (zL C.L d):=by simp [EF,h]
abbrev Ah (T:Tbl) (g:Nat) (owns:List Bool):Prop:=∀ (P:FuncId→List V→Option V) (n:Nat) (z:Bool) (a c args:List V),FW T P n z (.fn (.func g) a c) args=.m (DM P owns n z g (a++args++c))
abbrev XB (T:Tbl) (g:Nat):Prop:=∀ (P:FuncId→List V→Option V) (n:Nat) (z:Bool) (a c args:List V),FW T P n z (.fn (.func g) a c) args=.i g (a++args++c)
abbrev a0t (T:Tbl) (g sz by_:Nat):Prop:=∀ (P:FuncId→List V→Option V) (n:Nat) (z:Bool) (s i v:V),FW T P n z (.fn (.func g) [] []) [s,i,v]=.m (GG n sz by_ s i v)
abbrev PC (T:Tbl) (g sz by_:Nat):Prop:=∀ (P:FuncId→List V→Option V) (n:Nat) (z:Bool) (v:V),FW T P n z (.fn (.func g) [] []) [v]=.m (HQ n sz by_ v)
def Fin (x:Option Ans) (Q:V→Hp→Nat→Prop):Prop:=∃ v h n,x=some (v,h,n)∧Q v h n
theorem Tp (v:V) (h:Hp) (n:Nat) (Q:V→Hp→Nat→Prop):Fin (some (v,h,n)) Q=Q v h n:=by
 refine propext ⟨fun ⟨v',h',n',e,hq⟩=>?_,fun hq=>⟨v,h,n,rfl,hq⟩⟩
 cases e;exact hq
def ClQ (r v:V) (h:Hp) (_:Nat):Prop :=
 match (AF 0 depth v).run h with
 | some (v',ks)=>ks.Nodup∧v'.perm=true∧v'.nice=true∧v'=r
 | none=>False
def eJ (L:Lay) (rs:List ResultVar) (ts:List TypeId):Out→St→Option Ans
 | .normal,s=>Cv L s.tm rs ts s.hp s.n fun vs hp n=>some (Ds vs,hp,n)
 | .ret,s=>Cv L s.tm rs ts s.hp s.n fun vs hp n=>some (Ds vs,hp,n)
 | _,_=>none
theorem xH (v:V):Ds [v]=v:=rfl
theorem xI:Ds []=.tup []:=rfl
theorem xG (a b:V) (r:List V):Ds (a::b::r)=.tup (a::b::r):=rfl
attribute [go_sem] Tp xI xH xG
theorem Ac {C:Ctx} {j:Nat} {g:FuncId} {xs:List V} {r:V} {nt:Nat} {rs:List ResultVar} {ts:List TypeId} {b:IR} {ow:List Bool} {inl:Bool} {cl:Option (Nat × Nat)} (hd:C.T g=some ⟨nt,rs,ts,b,ow,inl,cl⟩) (k:Nat)
  (hx:xs.all V.nice1=true)
  (h:Fin (evC C (Lv C j) (Aa (Lv C j)) k b ⟨FT (Bk 0 xs).1,US (Bk 0 xs).2,(Bk 0 xs).2.length⟩ (eJ C.L rs ts)) (ClQ r)):Aa (Lv C (j+1)) g xs=some r:=by
 obtain ⟨v,hp,n,h1,h2⟩:=h
 have h3:EF C (Lv C j) k g (Bk 0 xs).1 (US (Bk 0 xs).2) (Bk 0 xs).2.length=some (v,hp,n):=by
  rw [Le hd,← h1];rfl
 have h4:=VW h3
 simp only [ClQ] at h2
 simp only [Aa,h4]
 split at h2
 ·rename_i v' ks hc
  rw [hc]
  obtain ⟨a,b,c,rfl⟩:=h2
  simp only [a,b,c,hx,and_self,if_true]
 ·exact h2.elim
theorem kM (n:Nat):Bk n []=([],[]):=rfl
theorem kN (n:Nat) (v:Value) (r:List V):Bk n (.lit v::r)=(.lit v::(Bk n r).1,(Bk n r).2):=rfl
theorem kO (n:Nat) (p nn:Bool) (sz:Nat) (els:List V) (r:List V):Bk n (.isl p nn sz els::r)=(.isl p nn sz els::(Bk n r).1,(Bk n r).2):=rfl
theorem rT (n:Nat) (p:Bool) (row:List V) (off:Nat) (r:List V):Bk n (.ip p row off::r)=(.ip p row off::(Bk n r).1,(Bk n r).2):=rfl
theorem rU (n:Nat) (f:Fn) (a b:List V) (r:List V):Bk n (.fn f a b::r)=(.fn f a b::(Bk n r).1,(Bk n r).2):=rfl
theorem kL (n:Nat) (sz:Nat) (els:List V) (r:List V):Bk n (.own sz els::r)=(.sl n::(Bk (n+1) r).1,⟨sz,els,false⟩::(Bk (n+1) r).2):=rfl
theorem kP (n:Nat) (cs:List V) (r:List V):Bk n (.agg cs::r)=(.agg (Ai n cs).1::(Bk (n+(Ai n cs).2.length) r).1,(Ai n cs).2++(Bk (n+(Ai n cs).2.length) r).2):=rfl
theorem sE (n:Nat):Ai n []=([],[]):=rfl
theorem sF (n:Nat) (v:Value) (r:List V):Ai n (.lit v::r)=(.lit v::(Ai n r).1,(Ai n r).2):=rfl
theorem sG (n:Nat) (p nn:Bool) (sz:Nat) (els:List V) (r:List V):Ai n (.isl p nn sz els::r)=(.isl p nn sz els::(Ai n r).1,(Ai n r).2):=rfl
theorem xN (n o:Nat) (r:List V):Ai n (.sl o::r)=(.sl o::(Ai n r).1,(Ai n r).2):=rfl
theorem xO (n:Nat) (p:Bool) (row:List V) (off:Nat) (r:List V):Ai n (.ip p row off::r)=(.ip p row off::(Ai n r).1,(Ai n r).2):=rfl
theorem sC (n o i f:Nat) (r:List V):Ai n (.ptr o i f::r)=(.ptr o i f::(Ai n r).1,(Ai n r).2):=rfl
theorem xP (n:Nat) (f:Fn) (a b:List V) (r:List V):Ai n (.fn f a b::r)=(.fn f a b::(Ai n r).1,(Ai n r).2):=rfl
theorem sD (n:Nat) (sz:Nat) (els:List V) (r:List V):Ai n (.own sz els::r)=(.sl n::(Ai (n+1) r).1,⟨sz,els,false⟩::(Ai (n+1) r).2):=rfl
theorem rW (n:Nat) (v:Value):Hs n (.lit v)=(.lit v,[]):=rfl
theorem rX (n:Nat) (p nn:Bool) (sz:Nat) (els:List V):Hs n (.isl p nn sz els)=(.isl p nn sz els,[]):=rfl
theorem xK (n:Nat) (f:Fn) (a b:List V):Hs n (.fn f a b)=(.fn f a b,[]):=rfl
theorem xJ (n:Nat) (p:Bool) (row:List V) (off:Nat):Hs n (.ip p row off)=(.ip p row off,[]):=rfl
theorem rV (n:Nat) (sz:Nat) (els:List V):Hs n (.own sz els)=(.sl n,[⟨sz,els,false⟩]):=rfl
theorem rY (n:Nat) (cs:List V):Hs n (.agg cs)=(.agg (Ai n cs).1,(Ai n cs).2):=rfl
theorem tM (n:Nat) (vs:List V):DF n (.tup vs)=(.tup (Bk n vs).1,(Bk n vs).2):=rfl
theorem tO (n:Nat) (v:Value):DF n (.lit v)=(.lit v,[]):=rfl
theorem tP (n:Nat) (p nn:Bool) (sz:Nat) (els:List V):DF n (.isl p nn sz els)=(.isl p nn sz els,[]):=rfl
theorem yV (n:Nat) (f:Fn) (a b:List V):DF n (.fn f a b)=(.fn f a b,[]):=rfl
theorem tN (n:Nat) (sz:Nat) (els:List V):DF n (.own sz els)=(.sl n,[⟨sz,els,false⟩]):=rfl
theorem tQ (n:Nat) (cs:List V):DF n (.agg cs)=(.agg (Ai n cs).1,(Ai n cs).2):=rfl
theorem kQ (n:Nat):BT n []=[]:=rfl
theorem bT (n:Nat) (o:Obj) (r:List Obj):BT n (o::r)=(n,some o)::BT (n+1) r:=rfl
attribute [go_sem] kM kN kO rT rU kL kP sE sF sG xN xO sC xP sD rW rX xK xJ rV rY tM tO tP yV tN tQ kQ bT US
attribute [go_sem] List.getElem?_cons_zero List.getElem?_cons_succ List.take_succ_cons List.take_zero List.drop_succ_cons List.drop_zero List.length_cons List.length_nil List.headD_cons List.cons_append List.nil_append List.append_nil List.set_cons_zero List.set_cons_succ List.tail_cons List.flatten_nil List.flatten_cons List.length_map V.cells V.withCells List.contains_nil
theorem uA (v:Value):V.fz (.lit v)=.lit v:=by simp [V.fz]
theorem uB (p nn:Bool) (sz:Nat) (els:List V):V.fz (.isl p nn sz els)=.isl p nn sz els:=by simp [V.fz]
theorem tZ (sz:Nat) (els:List V):V.fz (.own sz els)=.isl true false sz (fzs els):=by simp [V.fz]
theorem uC (cs:List V):V.fz (.agg cs)=.agg (fzs cs):=by simp [V.fz]
theorem tX (cs:List V):V.fz (.tup cs)=.tup (fzs cs):=by simp [V.fz]
theorem mK:fzs []=[]:=by simp [fzs]
theorem dY (v:V) (r:List V):fzs (v::r)=v.fz::fzs r:=by simp [fzs]
theorem Vo (v:Value):V.bz (.lit v)=.lit v:=by simp [V.bz]
theorem vM (p nn:Bool) (sz:Nat) (els:List V):V.bz (.isl p nn sz els)=.isl p nn sz els:=by simp [V.bz]
theorem Vn (sz:Nat) (els:List V):V.bz (.own sz els)=.isl false false sz (bzs els):=by simp [V.bz]
theorem Vp (cs:List V):V.bz (.agg cs)=.agg (bzs cs):=by simp [V.bz]
theorem RC:bzs []=[]:=by simp [bzs]
theorem NL (v:V) (r:List V):bzs (v::r)=v.bz::bzs r:=by simp [bzs]
theorem EX {α:Type} (f g:α→V) (h:∀ x,(f x).fz=g x):∀ l:List α,fzs (l.map f)=l.map g
 | []=>by simp [fzs]
 | a::l=>by simp [fzs,h,EX f g h l]
theorem Fb {α:Type} (f g:α→V) (h:∀ x,(f x).bz=g x):∀ l:List α,bzs (l.map f)=l.map g
 | []=>by simp [bzs]
 | a::l=>by simp [bzs,h,Fb f g h l]
theorem zO (l:List Al):fzs (l.map eW)=l.map eW:=EX _ _ (fun _=>by simp [eW,V.fz,fzs]) l
theorem Ww (l:List Av):fzs (l.map eI)=l.map eI:=EX _ _ (fun _=>by simp [eI,V.fz,fzs]) l
theorem eN (l:List AO):fzs (l.map eR)=l.map eR:=EX _ _ (fun _=>by simp [eR,V.fz,fzs]) l
theorem UZ (l:List Ak):fzs (l.map eWr)=l.map eWr:=EX _ _ (fun _=>by simp [eWr,V.fz,fzs]) l
theorem zQ (l:List Bl):fzs (l.map eE)=l.map eE:=EX _ _ (fun _=>by simp [eE,V.fz,fzs]) l
theorem uS (l:List BW):fzs (l.map eSl)=l.map eSl:=EX _ _ (fun _=>by simp [eSl,V.fz,fzs]) l
theorem xL (l:List Af):fzs (l.map oS)=l.map (eS true):=EX _ _ (fun _=>by simp [oS,eS,V.fz,fzs,Ww,eN,UZ]) l
theorem sB (x:Af):(oS x).fz=eS true x:=by simp [oS,eS,V.fz,fzs,Ww,eN,UZ]
theorem zP (l:List Al):bzs (l.map eW)=l.map eW:=Fb _ _ (fun _=>by simp [eW,V.bz,bzs]) l
theorem Pg (l:List Av):bzs (l.map eI)=l.map eI:=Fb _ _ (fun _=>by simp [eI,V.bz,bzs]) l
theorem eO (l:List AO):bzs (l.map eR)=l.map eR:=Fb _ _ (fun _=>by simp [eR,V.bz,bzs]) l
theorem Va (l:List Ak):bzs (l.map eWr)=l.map eWr:=Fb _ _ (fun _=>by simp [eWr,V.bz,bzs]) l
theorem zR (l:List Bl):bzs (l.map eE)=l.map eE:=Fb _ _ (fun _=>by simp [eE,V.bz,bzs]) l
theorem uT (l:List BW):bzs (l.map eSl)=l.map eSl:=Fb _ _ (fun _=>by simp [eSl,V.bz,bzs]) l
theorem xM (l:List Af):bzs (l.map oS)=l.map (eS false):=Fb _ _ (fun _=>by simp [oS,eS,V.bz,bzs,Pg,eO,Va]) l
attribute [go_sem] uA uB tZ uC tX mK dY Vo vM Vn Vp RC NL zO Ww eN UZ zQ uS xL sB zP Pg eO Va zR uT xM
theorem Dg {α β:Type} (f:α→AM β):Aw f []=.ret []:=rfl
theorem Ch {α β:Type} (f:α→AM β) (a:α) (r:List α):Aw f (a::r)=(f a).bind fun b=>(Aw f r).bind fun bs=>.ret (b::bs):=rfl
theorem Vu {α β γ:Type} (f:β→AM γ) (g:α→β) (e:α→γ) (h:∀ x,f (g x)=.ret (e x)):∀ l:List α,Aw f (l.map g)=.ret (l.map e)
 | []=>rfl
 | a::l=>by simp [Aw,h,Vu f g e h l,Bh]
theorem NP {α β γ:Type} (m:AM α) (f:α→AM β) (g:β→AM γ):(m.bind f).bind g=m.bind fun a=>(f a).bind g:=by
 induction m with
 | ret a=>rfl
 | fail=>rfl
 | rdo o k ih=>simp only [AM.bind];congr 1;funext ob;exact ih ob
theorem fU {β γ:Type} (f:β→AM γ) (g:β→γ):∀ l:List β,(∀ y∈l,f y=.ret (g y))→Aw f l=.ret (l.map g)
 | [],_=>rfl
 | a::l,h=>by simp [Aw,h a (by simp),fU f g l (fun y hy=>h y (by simp [hy])),Bh]
theorem RH {β γ:Type} (f:β→AM γ) (g:β→γ) (x:β):∀ (l:List β) (i:Nat),(∀ y∈l,f y=.ret (g y))→i<l.length→Aw f (l.set i x)=(f x).bind fun y=>.ret ((l.map g).set i y)
 | [],i,_,hi=>by simp at hi
 | a::l,0,h,_=>by
  simp [Aw,fU f g l (fun y hy=>h y (by simp [hy])),Bh]
 | a::l,i+1,h,hi=>by
  have ih:=RH f g x l i (fun y hy=>h y (by simp [hy])) (by simpa using hi)
  simp only [List.set_cons_succ,Aw,h a (by simp),Bh,ih,List.map_cons,NP]
theorem JG (d:Nat) (v:Value):AI (d+1) (.lit v)=.ret (.lit v):=rfl
theorem aE (d:Nat) (p nn:Bool) (sz:Nat) (els:List V):AI (d+1) (.isl p nn sz els)=.ret (.isl p nn sz els):=rfl
theorem wW (d:Nat) (p:Bool) (row:List V) (off:Nat):AI (d+1) (.ip p row off)=.ret (.ip p row off):=rfl
theorem PS (d:Nat) (sz:Nat) (els:List V):AI (d+1) (.own sz els)=.ret (.isl false false sz (bzs els)):=rfl
theorem KT (d:Nat) (cs:List V):AI (d+1) (.agg cs)=(Aw (AI d) cs).bind fun cs=>.ret (.agg cs):=rfl
theorem rG (d:Nat) (cs:List V):AI (d+1) (.tup cs)=(Aw (AI d) cs).bind fun cs=>.ret (.tup cs):=rfl
theorem wX (d:Nat) (f:Fn) (a b:List V):AI (d+1) (.fn f a b)=(Aw (AI d) a).bind fun a=>(Aw (AI d) b).bind fun b=>.ret (.fn f a b):=rfl
theorem wV (d o:Nat):AI (d+1) (.sl o)=.rd o fun ob=>if ob.dirty then (Aw (AI d) ob.els).bind fun els=>.ret (.isl false false ob.sz els) else .ret (.isl false false ob.sz (bzs ob.els)):=rfl
theorem rH (d o i off:Nat):AI (d+1) (.ptr o i off)=.rd o fun ob=>match ob.els[i]? with
  | some el=>(Aw (AI d) el.cells).bind fun row=>.ret (.ip false row off)
  | none=>.fail:=rfl
theorem Ej (thr d:Nat) (v:Value):AF thr (d+1) (.lit v)=.ret (.lit v,[]):=rfl
theorem Gd (thr d:Nat) (p nn:Bool) (sz:Nat) (els:List V):AF thr (d+1) (.isl p nn sz els)=.ret (.isl p nn sz els,[]):=rfl
theorem Gc (thr d:Nat) (sz:Nat) (els:List V):AF thr (d+1) (.own sz els)=.ret (.own sz els,[]):=rfl
theorem EG (thr d:Nat) (cs:List V):AF thr (d+1) (.agg cs)=(Aw (AF thr d) cs).bind fun x=>.ret (.agg (x.map (·.1)),(x.map (·.2)).flatten):=rfl
theorem uU (thr d:Nat) (cs:List V):AF thr (d+1) (.tup cs)=(Aw (AF thr d) cs).bind fun x=>.ret (.tup (x.map (·.1)),(x.map (·.2)).flatten):=rfl
theorem a0a (d o:Nat):AF 0 (d+1) (.sl o)=.rdo o fun
  | none=>.ret (.dead,[])
  | some ob=>if ob.dirty then (Aw (AF 0 d) ob.els).bind fun x=>if Ay (x.map (·.1)) then .ret (.own ob.sz (x.map (·.1)),o::(x.map (·.2)).flatten) else .fail
   else .ret (.own ob.sz ob.els,[o]):=rfl
attribute [go_sem] Dg Ch JG aE wW PS KT rG wX wV rH Ej Gd Gc EG uU a0a
def ClR (r:V) (m:AM (V × List Nat)) (h:Hp):Prop :=
 match m.run h with
 | some (v',ks)=>ks.Nodup∧v'.perm=true∧v'.nice=true∧v'=r
 | none=>False
theorem uY (r v:V) (h:Hp) (n:Nat):ClQ r v h n=ClR r (AF 0 6 v) h:=rfl
theorem nH (r v:V) (ks:List Nat) (h:Hp):ClR r (.ret (v,ks)) h=(ks.Nodup∧v.perm=true∧v.nice=true∧v=r):=rfl
theorem nI (r:V) (o:Nat) (f:Option Obj→AM (V × List Nat)) (h:Hp):ClR r (.rdo o f) h=ClR r (f (h o)) h:=rfl
theorem SA (v:Value):V.perm (.lit v)=true:=by simp [V.perm]
theorem bE (sz:Nat) (els:List V):V.perm (.own sz els)=true:=by simp [V.perm]
theorem bF (p nn:Bool) (sz:Nat) (els:List V):V.perm (.isl p nn sz els)=p:=by simp [V.perm]
theorem bG (cs:List V):V.perm (.agg cs)=Ay cs:=by simp [V.perm]
theorem bC (cs:List V):V.perm (.tup cs)=Ay cs:=by simp [V.perm]
theorem kB (o:Nat):V.perm (.sl o)=false:=by simp [V.perm]
theorem kC (p:Bool) (row:List V) (off:Nat):V.perm (.ip p row off)=p:=by simp [V.perm]
theorem kD (f:Fn) (a b:List V):V.perm (.fn f a b)=(Ay a&&Ay b):=by simp [V.perm]
theorem bD (o i f:Nat):V.perm (.ptr o i f)=false:=by simp [V.perm]
theorem Ys:Ay []=true:=by simp [Ay]
theorem Fq (v:V) (r:List V):Ay (v::r)=(v.perm&&Ay r):=by simp [Ay]
theorem CE {α:Type} (f:α→V) (h:∀ x,(f x).perm=true):∀ l:List α,Ay (l.map f)=true
 | []=>by simp [Ay]
 | a::l=>by simp [Ay,h,CE f h l]
theorem aX (l:List Al):Ay (l.map eW)=true:=CE _ (fun _=>by simp [eW,V.perm,Ay]) l
theorem bA (l:List Av):Ay (l.map eI)=true:=CE _ (fun _=>by simp [eI,V.perm,Ay]) l
theorem aZ (l:List AO):Ay (l.map eR)=true:=CE _ (fun _=>by simp [eR,V.perm,Ay]) l
theorem Yt (l:List Ak):Ay (l.map eWr)=true:=CE _ (fun _=>by simp [eWr,V.perm,Ay]) l
theorem bB (l:List Bl):Ay (l.map eE)=true:=CE _ (fun _=>by simp [eE,V.perm,Ay]) l
theorem Sz (l:List Af):Ay (l.map oS)=true:=CE _ (fun _=>by simp [oS,V.perm,Ay]) l
theorem sL (v:Value):V.nr (.lit v)=true:=by simp [V.nr]
theorem sK (sz:Nat) (els:List V):V.nr (.own sz els)=true:=by simp [V.nr]
theorem sM (p nn:Bool) (sz:Nat) (els:List V):V.nr (.isl p nn sz els)=true:=by simp [V.nr]
theorem sN (cs:List V):V.nr (.agg cs)=nrs cs:=by simp [V.nr]
theorem xQ (o:Nat):V.nr (.sl o)=false:=by simp [V.nr]
theorem xR (p:Bool) (row:List V) (off:Nat):V.nr (.ip p row off)=true:=by simp [V.nr]
theorem sJ (o i f:Nat):V.nr (.ptr o i f)=false:=by simp [V.nr]
theorem xS (f:Fn) (a b:List V):V.nr (.fn f a b)=(nrs a&&nrs b):=by simp [V.nr]
theorem kR:nrs []=true:=by simp [nrs]
theorem bU (v:V) (r:List V):nrs (v::r)=(v.nr&&nrs r):=by simp [nrs]
theorem bZ (v:Value):V.nice (.lit v)=Br [.lit v]:=rfl
theorem cB (p nn:Bool) (sz:Nat) (els:List V):V.nice (.isl p nn sz els)=true:=rfl
theorem bY (sz:Nat) (els:List V):V.nice (.own sz els)=true:=rfl
theorem cC (cs:List V):V.nice (.agg cs)=Br cs:=rfl
theorem bX (vs:List V):V.nice (.tup vs)=vs.all V.nice1:=rfl
theorem kT (f:Fn) (a b:List V):V.nice (.fn f a b)=true:=rfl
theorem cE (v:V):V.nice1 v=Br v.cells:=rfl
theorem bQ:Br []=true:=rfl
theorem bS (k:IntKind) (n:Int) (r:List V):Br (.lit (.int k n)::r)=Br r:=rfl
theorem YC (b:Bool) (r:List V):Br (.lit (.bool b)::r)=Br r:=rfl
theorem bN (s:_) (r:List V):Br (.lit (.string s)::r)=Br r:=rfl
theorem YB (r:List V):Br (.lit .nilFunc::r)=Br r:=rfl
theorem YA (r:List V):Br (.lit (.slice none 0 0)::r)=Br r:=rfl
theorem bR (p nn:Bool) (sz:Nat) (els:List V) (r:List V):Br (.isl p nn sz els::r)=Br r:=rfl
theorem bP (sz:Nat) (els:List V) (r:List V):Br (.own sz els::r)=Br r:=rfl
theorem kI (o:Nat) (r:List V):Br (.sl o::r)=Br r:=rfl
theorem kJ (p:Bool) (row:List V) (off:Nat) (r:List V):Br (.ip p row off::r)=Br r:=rfl
theorem bO (o i f:Nat) (r:List V):Br (.ptr o i f::r)=Br r:=rfl
theorem kK (f:Fn) (a b:List V) (r:List V):Br (.fn f a b::r)=Br r:=rfl
attribute [go_sem] uY nH nI SA bE bF bG bC kB kC kD bD Ys Fq aX bA aZ Yt bB Sz sL sK sM sN xQ xR sJ xS kR bU bZ cB bY cC bX kT cE bQ bS YC bN YB YA bR bP kI kJ bO kK
attribute [go_sem] Bool.false_eq_true Bool.true_and Bool.false_and Bool.and_true Bool.and_false Bool.not_true Bool.not_false Bool.or_true Bool.or_false Bool.true_or Bool.false_or and_true true_and and_self List.all_cons List.all_nil List.nodup_nil List.nodup_cons List.mem_cons List.not_mem_nil or_self not_false_eq_true or_false false_or
attribute [go_sem] DM IV Km De fillCells Jt Iw Ha ET Kg DL Kj Fm CJ FF PH HQ FO Kh Dh CF K.agg Fa depth V.isRef goInt
theorem dB (l:List Ak):JM (l.map eWr)=true:=by
 unfold JM
 rw [List.all_eq_true]
 intro x hx
 obtain ⟨y,_,rfl⟩:=List.mem_map.1 hx
 rfl
theorem cZ (k k' k'':IntKind) (a b c:Int):JM [.agg [.lit (.int k a),.lit (.int k' b),.lit (.int k'' c)]]=true:=rfl
theorem We (l:List Int):JM (l.map fun n=>V.lit (.int .i64 n))=true:=by
 unfold JM
 rw [List.all_eq_true]
 intro x hx
 obtain ⟨y,_,rfl⟩:=List.mem_map.1 hx
 rfl
theorem dA (l:List Int):JM (l.map iV)=true:=We l
theorem cY (n:Nat) (k:IntKind) (m:Int):JM (List.replicate n (V.lit (.int k m)))=true:=by
 unfold JM
 rw [List.all_eq_true]
 intro x hx
 rw [(List.mem_replicate.1 hx).2];rfl
attribute [go_sem] MO Ry We dA cY
attribute [go_sem] GG Ql IM Sp Td dB cZ
section
variable {R:Type}
def Yb (C:Ctx) (P:FuncId→List V→Option V) (s:St) (q:Out→St→Option R):IR→Option R
 | .region ops (some bef)=>Bz C.L C.T P 0 ops s [] fun s rcs=>Ic bef rcs (q .normal s)
 | _=>none
def Vb:IR→Bool
 | .region ops (some bef)=>HI bef 0 ops
 | _=>false
theorem Wv {C:Ctx} {O:Orc} {P:FuncId→List V→Option V} {k:Nat} {d:IR} (h:Vb d=true) (s:St) (q:Out→St→Option R):evC C O P k d s q=Yb C P s q d:=by
 cases d with
 | region ops b=>cases b with
  | none=>cases h
  | some bef=>exact mQ C O P k s q h
 | _=>cases h
@[congr] theorem runD_congr {C:Ctx} {P:FuncId→List V→Option V} {s:St} {q:Out→St→Option R} {d d':IR} (e:d=d'):Yb C P s q d=Yb C P s q d':=by rw [e]
@[congr] theorem runDraw_congr {L:Lay} {T:Tbl} {P:FuncId→List V→Option V} {i:Nat} {ops:List IOp} {s s':St} {rcs rcs':List Rec} {k:St→List Rec→Option R} (e:s=s') (e':rcs=rcs'):Bz L T P i ops s rcs k=Bz L T P i ops s' rcs' k:=by rw [e,e']
end
theorem fS (L:Lay) (t:TypeId) (a b:List V):BJ L .eql t (.agg a) (.agg b)=match L t with
 | some ti=>if ti.plain&&a.length == ti.size then (Bp a b).map fun r=>.lit (.bool r) else none
 | none=>none:=by simp only [BJ];cases L t<;>rfl
theorem fR (L:Lay) (t:TypeId) (a b:List V):BJ L .neq t (.agg a) (.agg b)=match L t with
 | some ti=>if ti.plain&&a.length == ti.size then (Bp a b).map fun r=>.lit (.bool (!r)) else none
 | none=>none:=by simp only [BJ];cases L t<;>rfl
theorem mS:Bp [] []=some true:=rfl
theorem mU (k:IntKind) (a b:Int) (r s:List V):Bp (.lit (.int k a)::r) (.lit (.int k b)::s)=(Bp r s).map fun y=>decide (a=b)&&y:=by
 cases h:Bp r s<;>simp [Bp,Nt,h]
attribute [go_sem] fS fR mS mU Option.map_some beq_self_eq_true Fd
structure Dum {α:Sort _} (a:α):Type where
section
variable (O:Orc) (h:Hp) (n i:Nat) (ro:List Nat) (rcs:List Rec) (Q:V→Hp→Nat→Prop)
def GP (v:Option V) (k:V→Option Ans) (Q:V→Hp→Nat→Prop) (_:Dum k):Prop:=Fin (FQ v k) Q
def GM (m:AM Eff) (h:Hp) (n:Nat) (k:V→Hp→Nat→Option Ans) (Q:V→Hp→Nat→Prop) (_:Dum k):Prop:=Fin (HF m h n k) Q
def GR (m:AM Eff) (h:Hp) (n i:Nat) (ro:List Nat) (rcs:List Rec) (k:V→Hp→Nat→List Rec→Option Ans) (Q:V→Hp→Nat→Prop) (_:Dum k):Prop:=Fin (DQ m h n i ro rcs k) Q
def GI (x:Option (V × Hp × Nat)) (k:V→Hp→Nat→Option Ans) (Q:V→Hp→Nat→Prop) (_:Dum k):Prop:=Fin (Jz x k) Q
def GC (b:Option Bool) (x y:Option Ans) (Q:V→Hp→Nat→Prop) (_:Dum x) (_:Dum y):Prop:=Fin (Pj b x y) Q
def GS (O:Orc) (x:OpK) (g:Option Bool) (h:Hp) (n:Nat) (k:V→Hp→Nat→Option Ans) (Q:V→Hp→Nat→Prop) (_:Dum k):Prop:=Fin (EQ O x g h n k) Q
def GD (x:OpK) (g:Option Bool) (h:Hp) (n i:Nat) (rcs:List Rec) (k:V→Hp→Nat→List Rec→Option Ans) (Q:V→Hp→Nat→Prop) (_:Dum k):Prop:=Fin (Lq x g h n i rcs k) Q
def GE (C:Ctx) (O:Orc) (P:FuncId→List V→Option V) (k:Nat) (ir:IR) (s:St) (q:Out→St→Option Ans) (Q:V→Hp→Nat→Prop) (_:Dum ir) (_:Dum q):Prop:=Fin (evC C O P k ir s q) Q
def GL (thr:Nat) (live:List Nat) (f:St→(Out→St→Option Ans)→Option Ans) (q:Out→St→Option Ans) (k:Nat) (s:St) (Q:V→Hp→Nat→Prop) (_:Dum f) (_:Dum q):Prop:=Fin (BG thr live f q k s) Q
def GN (thr:Nat) (live:List Nat) (s:St) (k:St→Option Ans) (Q:V→Hp→Nat→Prop) (_:Dum k):Prop:=Fin (GH thr live s k) Q
theorem gP (v:Option V) (k:V→Option Ans):Fin (FQ v k) Q=GP v k Q ⟨⟩:=rfl
theorem gM (m:AM Eff) (k:V→Hp→Nat→Option Ans):Fin (HF m h n k) Q=GM m h n k Q ⟨⟩:=rfl
theorem gI (x:Option (V × Hp × Nat)) (k:V→Hp→Nat→Option Ans):Fin (Jz x k) Q=GI x k Q ⟨⟩:=rfl
theorem gC (b:Option Bool) (x y:Option Ans):Fin (Pj b x y) Q=GC b x y Q ⟨⟩ ⟨⟩:=rfl
theorem Tk (L:Lay) (T:Tbl) (P:FuncId→List V→Option V) (s:St) (k:St→Option Ans):Fin (Cj L T O P [] s k) Q=Fin (k s) Q:=rfl
theorem yY (L:Lay) (T:Tbl) (P:FuncId→List V→Option V) (o:IOp) (r:List IOp) (tm:Nat→V) (k:St→Option Ans) :
  Fin (Cj L T O P (o::r) ⟨tm,h,n⟩ k) Q=GS O (opK L T P (eV tm) n o.frz o.op) (CU tm o.guard) h n (fun v h n=>Cj L T O P r ⟨Hh tm o.dst v,h,n⟩ k) Q ⟨⟩:=by rw [Sk];rfl
theorem OV (L:Lay) (T:Tbl) (P:FuncId→List V→Option V) (s:St) (k:St→List Rec→Option Ans):Fin (Bz L T P i [] s rcs k) Q=Fin (k s rcs) Q:=rfl
theorem pD (L:Lay) (T:Tbl) (P:FuncId→List V→Option V) (o:IOp) (r:List IOp) (tm:Nat→V) (k:St→List Rec→Option Ans) :
  Fin (Bz L T P i (o::r) ⟨tm,h,n⟩ rcs k) Q=GD (opK L T P (eV tm) n o.frz o.op) (CU tm o.guard) h n i rcs (fun v h n rcs=>Bz L T P (i+1) r ⟨Hh tm o.dst v,h,n⟩ rcs k) Q ⟨⟩:=by rw [PQ];rfl
theorem pC (bef:List (List Nat)) (x:Option Ans):Fin (Ic bef rcs x) Q=(FX bef rcs=true∧Fin x Q):=by
 cases h:FX bef rcs<;>simp [Ic,h,Fin]
theorem gN (thr:Nat) (live:List Nat) (s:St) (k:St→Option Ans):Fin (GH thr live s k) Q=GN thr live s k Q ⟨⟩:=rfl
theorem gL (thr:Nat) (live:List Nat) (f:St→(Out→St→Option Ans)→Option Ans) (q:Out→St→Option Ans) (k:Nat) (s:St):Fin (BG thr live f q k s) Q=GL thr live f q k s Q ⟨⟩ ⟨⟩:=rfl
section
variable (C:Ctx) (P:FuncId→List V→Option V) (k:Nat) (s:St) (q:Out→St→Option Ans)
theorem mF:Fin (evC C O P k .skip s q) Q=Fin (q .normal s) Q:=rfl
theorem dW (l:Nat):Fin (evC C O P k (.label l) s q) Q=Fin (q .normal s) Q:=rfl
theorem YX (ops:List IOp):Fin (evC C O P k (.region ops none) s q) Q=Fin (Cj C.L C.T O P ops s (q .normal)) Q:=rfl
theorem tV (a b:IR):Fin (evC C O P k (.seq a b) s q) Q=Fin (evC C O P k a s (Cl (fun s=>evC C O P k b s q) q)) Q:=rfl
theorem mJ (c:Operand) (a b:IR):Fin (evC C O P k (.cond c a b) s q) Q=GC (eV s.tm c).bool? (evC C O P k a s q) (evC C O P k b s q) Q ⟨⟩ ⟨⟩:=rfl
theorem dX (id:Nat) (b:IR):Fin (evC C O P k (.block id b) s q) Q=Fin (evC C O P k b s (Dt id q)) Q:=rfl
theorem mG (live:List Nat) (b:IR):Fin (evC C O P k (.loop live b) s q) Q=GL s.n live (fun s q=>evC C O P k b s (As live q)) q k (Fh live s) Q ⟨⟩ ⟨⟩:=rfl
theorem mI (id:Nat) (live:List Nat):Fin (evC C O P k (.exit id live) s q) Q=Fin (q (.exit id) (Fh live s)) Q:=rfl
theorem mH (l:Nat):Fin (evC C O P k (.goto l) s q) Q=Fin (q (.goto l) s) Q:=rfl
theorem tW (live:List Nat):Fin (evC C O P k (.ret live) s q) Q=Fin (q .ret (Fh live s)) Q:=rfl
theorem Mg {d:IR} (hd:Vb d=true):Fin (evC C O P k d s q) Q=Fin (Yb C P s q d) Q:=by rw [Wv hd]
def GU (d:IR) (C:Ctx) (P:FuncId→List V→Option V) (s:St) (q:Out→St→Option Ans) (Q:V→Hp→Nat→Prop) (_:Dum q) (_:Dum s):Prop:=Fin (Yb C P s q d) Q
theorem AU {d:IR} (hd:Vb d=true):Fin (evC C O P k d s q) Q=GU d C P s q Q ⟨⟩ ⟨⟩:=by rw [Wv hd];rfl
theorem gU (ops:List IOp) (bef:List (List Nat)) (u:Dum q) (w:Dum s):GU (.region ops (some bef)) C P s q Q u w=Fin (Bz C.L C.T P 0 ops s [] fun s rcs=>Ic bef rcs (q .normal s)) Q:=rfl
theorem yZ (ops:List IOp) (bef:List (List Nat)):Fin (Yb C P s q (.region ops (some bef))) Q=Fin (Bz C.L C.T P 0 ops s [] fun s rcs=>Ic bef rcs (q .normal s)) Q:=rfl
end
section
variable (k:St→Option Ans) (q:Out→St→Option Ans) (s:St) (live:List Nat) (kj:Nat→St→Option Ans)
theorem Jv:Fin (Cl k q .normal s) Q=Fin (k s) Q:=rfl
theorem LE:Fin (Cl k q (.exit i) s) Q=Fin (q (.exit i) s) Q:=rfl
theorem LD:Fin (Cl k q (.goto i) s) Q=Fin (q (.goto i) s) Q:=rfl
theorem Ng:Fin (Cl k q .ret s) Q=Fin (q .ret s) Q:=rfl
theorem KD:Fin (Dt i q .normal s) Q=Fin (q .normal s) Q:=rfl
theorem UW (j:Nat):Fin (Dt i q (.goto j) s) Q=Fin (q (.goto j) s) Q:=rfl
theorem YW:Fin (Dt i q .ret s) Q=Fin (q .ret s) Q:=rfl
theorem dU:Fin (Dt i q (.exit i) s) Q=Fin (q .normal s) Q:=by rw [TK,if_pos rfl]
theorem dT {j:Nat} (h:j≠i):Fin (Dt i q (.exit j) s) Q=Fin (q (.exit j) s) Q:=by rw [TK,if_neg h]
theorem Jw:Fin (As live q .normal s) Q=Fin (q .normal (Fh live s)) Q:=rfl
theorem Tg:Fin (As live q (.exit i) s) Q=Fin (q (.exit i) s) Q:=rfl
theorem Tf:Fin (As live q (.goto i) s) Q=Fin (q (.goto i) s) Q:=rfl
theorem UT:Fin (As live q .ret s) Q=Fin (q .ret s) Q:=rfl
theorem Ob:Fin (Ju kj q .normal s) Q=Fin (q .normal s) Q:=rfl
theorem Ti:Fin (Ju kj q (.exit i) s) Q=Fin (q (.exit i) s) Q:=rfl
theorem Th:Fin (Ju kj q (.goto i) s) Q=Fin (kj i s) Q:=rfl
theorem UV:Fin (Ju kj q .ret s) Q=Fin (q .ret s) Q:=rfl
end
theorem Qp (L:Lay) (rs:List ResultVar) (ts:List TypeId) (tm:Nat→V):Fin (eJ L rs ts .normal ⟨tm,h,n⟩) Q=Fin (Cv L tm rs ts h n fun vs hp n=>some (Ds vs,hp,n)) Q:=rfl
theorem YV (L:Lay) (rs:List ResultVar) (ts:List TypeId) (tm:Nat→V):Fin (eJ L rs ts .ret ⟨tm,h,n⟩) Q=Fin (Cv L tm rs ts h n fun vs hp n=>some (Ds vs,hp,n)) Q:=rfl
section
variable (L:Lay) (tm:Nat→V) (t:Tmp) (a:Tmp) (y ty:TypeId) (r:List ResultVar) (ts:List TypeId) (k:List V→Hp→Nat→Option Ans)
theorem YU:Fin (Cv L tm [] ts h n k) Q=Fin (k [] h n) Q:=rfl
theorem YT:Fin (Cv L tm (.tmp t::r) (y::ts) h n k) Q=Fin (Cv L tm r ts h n fun vs h n=>k (Bg L y (tm t)::vs) h n) Q:=rfl
theorem UU:Fin (Cv L tm (.cell a ty::r) (y::ts) h n k) Q=GM (ET L n ty (tm a)) h n (fun v h n=>Cv L tm r ts h n fun vs h n=>k (v::vs) h n) Q ⟨⟩:=rfl
end
theorem x_P (v:V) (k:V→Option Ans) (u:Dum k):GP (some v) k Q u=Fin (k v) Q:=rfl
theorem x_M (x:Eff) (k:V→Hp→Nat→Option Ans) (u:Dum k):GM (.ret x) h n k Q u=Fin (k x.v (Aq h x.upd) (n+x.new)) Q:=rfl
theorem wG (o:Nat) (f:Option Obj→AM Eff) (k:V→Hp→Nat→Option Ans) (u:Dum k):GM (.rdo o f) h n k Q u=GM (f (h o)) h n k Q u:=rfl
theorem x_R (x:Eff) (k:V→Hp→Nat→List Rec→Option Ans) (u:Dum k):GR (.ret x) h n i ro rcs k Q u=Fin (k x.v (Aq h x.upd) (n+x.new) (Fd i ro (x.upd.map (·.1)) rcs)) Q:=by
 show Fin (DQ _ _ _ _ _ _ _) Q=_;rw [JS]
theorem wF (o:Nat) (f:Option Obj→AM Eff) (k:V→Hp→Nat→List Rec→Option Ans) (u:Dum k):GR (.rdo o f) h n i ro rcs k Q u=GR (f (h o)) h n i (ro++[o]) rcs k Q u:=by
 show Fin (DQ _ _ _ _ _ _ _) Q=_;rw [NQ];rfl
theorem x_I (v:V) (h':Hp) (n':Nat) (k:V→Hp→Nat→Option Ans) (u:Dum k):GI (some (v,h',n')) k Q u=Fin (k v h' n') Q:=rfl
theorem wI (x y:Option Ans) (u:Dum x) (w:Dum y):GC (some true) x y Q u w=Fin x Q:=rfl
theorem wJ (x y:Option Ans) (u:Dum x) (w:Dum y):GC (some false) x y Q u w=Fin y Q:=rfl
theorem x_C (b:Bool) (x y:Option Ans) (u:Dum x) (w:Dum y):GC (some b) x y Q u w=((b=true→Fin x Q)∧(b=false→Fin y Q)):=by
 cases b<;>simp [GC,Pj]
theorem wB (v:Option V) (k:V→Hp→Nat→Option Ans) (u:Dum k):GS O (.p v) (some true) h n k Q u=GP v (fun v=>k v h n) Q ⟨⟩:=rfl
theorem wD (m:AM Eff) (k:V→Hp→Nat→Option Ans) (u:Dum k):GS O (.m m) (some true) h n k Q u=GM m h n k Q u:=rfl
theorem wE (f:FuncId) (xs:List V) (k:V→Hp→Nat→Option Ans) (u:Dum k):GS O (.i f xs) (some true) h n k Q u=GI (O f xs h n) k Q u:=rfl
theorem wC (x:OpK) (k:V→Hp→Nat→Option Ans) (u:Dum k):GS O x (some false) h n k Q u=Fin (k Bv h n) Q:=by
 show Fin (EQ _ _ _ _ _ _) Q=_;rw [DU]
theorem wH (v:Option V) (k:V→Hp→Nat→List Rec→Option Ans) (u:Dum k):GD (.p v) (some true) h n i rcs k Q u=GP v (fun v=>k v h n rcs) Q ⟨⟩:=rfl
theorem pN (m:AM Eff) (k:V→Hp→Nat→List Rec→Option Ans) (u:Dum k):GD (.m m) (some true) h n i rcs k Q u=GR m h n i [] rcs k Q u:=by show Fin (KK _ _ _ _ _ _) Q=Fin (DQ _ _ _ _ _ _ _) Q;rw [fQ];rfl
theorem oR (v:Option V) (k:V→Hp→Nat→List Rec→Option Ans) (u:Dum k):GD (.p v) (some false) h n i rcs k Q u=Fin (k Bv h n rcs) Q:=rfl
theorem Zo (m:AM Eff) (k:V→Hp→Nat→List Rec→Option Ans) (u:Dum k):GD (.m m) (some false) h n i rcs k Q u=Fin (k Bv h n rcs) Q:=by
 show Fin (Lq _ _ _ _ _ _ _) Q=_;rw [Ua]
theorem hZ (thr:Nat) (v:Value):V.scrub thr (.lit v)=.lit v:=by simp [V.scrub]
theorem iA (thr:Nat) (p nn:Bool) (sz:Nat) (els:List V):V.scrub thr (.isl p nn sz els)=.isl p nn sz els:=by simp [V.scrub]
theorem qJ (thr:Nat) (p:Bool) (row:List V) (off:Nat):V.scrub thr (.ip p row off)=.ip p row off:=by simp [V.scrub]
theorem iB (thr:Nat) (cs:List V):V.scrub thr (.agg cs)=.agg (AL thr cs):=by simp [V.scrub]
theorem qK (thr:Nat) (f:Fn) (a b:List V):V.scrub thr (.fn f a b)=.fn f (AL thr a) (AL thr b):=by simp [V.scrub]
theorem hY (thr o i f:Nat):V.scrub thr (.ptr o i f)=if o<thr then .ptr o i f else .dead:=by simp [V.scrub]
theorem qI (thr o:Nat):V.scrub thr (.sl o)=if o<thr then .sl o else .dead:=by simp [V.scrub]
theorem ZK (thr:Nat):AL thr []=[]:=by simp [AL]
theorem XP (thr:Nat) (v:V) (r:List V):AL thr (v::r)=v.scrub thr::AL thr r:=by simp [AL]
end
theorem mB (bef:List (List Nat)):FX bef []=true:=rfl
theorem dQ (bef:List (List Nat)) (a:Rec) (r:List Rec):FX bef (a::r)=(r.all (Ez bef a)&&FX bef r):=rfl
theorem hok1 (bef:List (List Nat)) (a b:Rec):Ez bef a b=(!(Ep a.wo b.wo||Ep a.wo b.ro||Ep a.ro b.wo)||Fy bef b.i a.i):=rfl
theorem YI (b:List Nat):Ep [] b=false:=rfl
theorem UH (a:List Nat):Ep a []=false:=by simp [Ep]
theorem UI (x:Nat) (a b:List Nat):Ep (x::a) b=(b.contains x||Ep a b):=rfl
theorem Zg (bef:List (List Nat)) (i j:Nat):Fy bef i j=HM bef i 8 j:=(rfl)
theorem jF (bef:List (List Nat)) (i f j:Nat):HM bef i (f+1) j=((bef.getD j []).contains i||(bef.getD j []).any fun k=>HM bef i f k):=(rfl)
attribute [go_sem] jF List.any_cons List.any_nil
attribute [go_sem ↓] gP gM gI gC Tk yY OV pD pC gN gL mF dW YX tV mJ dX mG mI mH tW yZ Jv LE LD Ng KD UW YW dU dT Jw Tg Tf UT Ob Ti Th UV YU YT UU Tp x_P x_M wG x_R wF x_I wI wJ wB wD wE wC wH pN oR Zo
attribute [go_sem] gP gM gI gC Tk yY OV pD pC gN gL Qp YV Jv LE LD Ng Jw KD x_P x_M wG x_R wF x_I wI wJ wB wD wE wC wH pN oR Zo hZ iA qJ iB qK hY qI ZK XP
attribute [go_sem low] x_C
attribute [go_sem] gU
attribute [go_sem ↓] gU
attribute [go_sem] mB dQ hok1 YI UH UI Zg List.contains_cons List.getD_cons_zero List.getD_cons_succ List.getD_nil List.elem_nil ne_eq
theorem sO (b:Bool):((!b)=true)=(b=false):=by cases b<;>simp
theorem sP (b:Bool):((!b)=false)=(b=true):=by cases b<;>simp
attribute [go_sem] sO sP
attribute [go_sem] eW eI eR eWr eE eSl eS oS
theorem zD (w:Al):(⟨w.val,w.ver,w.lock⟩:Al)=w:=(rfl)
theorem zI (w:Av):(⟨w.code,w.a,w.b,w.c⟩:Av)=w:=(rfl)
theorem zG (w:AO):(⟨w.level,w.index,w.ver⟩:AO)=w:=(rfl)
theorem uI (w:Ak):(⟨w.level,w.index,w.val⟩:Ak)=w:=(rfl)
theorem zJ (w:Bl):(⟨w.id,w.label,w.kind,w.val⟩:Bl)=w:=(rfl)
theorem zK {α:Type} (w:A4 α):(⟨w.a0,w.a1,w.a2,w.a3⟩:A4 α)=w:=(rfl)
theorem zH (w:Ad):(⟨w.words,w.clocks,w.ceil,w.sess,w.trace⟩:Ad)=w:=(rfl)
theorem zE (s:Af):(⟨s.id,s.label,s.clear,s.prog,s.step,s.pc,s.regs,s.reads,s.writes,s.at_,s.stamp,s.tries,s.result,s.told⟩:Af)=s:=(rfl)
attribute [go_sem] zD zI zG uI zJ zK zH zE
theorem gLs (thr:Nat) (live:List Nat) (f:St→(Out→St→Option Ans)→Option Ans) (q:Out→St→Option Ans) (k:Nat) (s:St) (Q:V→Hp→Nat→Prop) (u:Dum f) (w:Dum q) :
  GL thr live f q (k+1) s Q u w=GN thr live s (fun s=>f s fun o s=>Cl (BG thr live f q k) q o s) Q ⟨⟩:=(rfl)
theorem Aj {b b':IR} (e:b=b') (C:Ctx) (O:Orc) (P:FuncId→List V→Option V) (k:Nat) (s:St) (q:Out→St→Option Ans) (Q:V→Hp→Nat→Prop):Fin (evC C O P k b s q) Q=Fin (evC C O P k b' s q) Q:=by rw [e]
abbrev BB:Nat:=140737488355328
attribute [go_sem] decide_true decide_false List.getElem?_map Int.toNat_natCast
theorem wl0:IntKind.wrap .i64 0=0:=by decide
theorem wl1:IntKind.wrap .i64 1=1:=by decide
theorem wl2:IntKind.wrap .i64 2=2:=by decide
theorem wl3:IntKind.wrap .i64 3=3:=by decide
theorem wl4:IntKind.wrap .i64 4=4:=by decide
theorem wl5:IntKind.wrap .i64 5=5:=by decide
attribute [go_sem] wl0 wl1 wl2 wl3 wl4 wl5
theorem minI (k l:IntKind) (a b:Int):IA [.lit (.int k a),.lit (.int l b)]=some (.lit (.int k (if b<a then b else a))):=(rfl)
theorem maxI (k l:IntKind) (a b:Int):MZ [.lit (.int k a),.lit (.int l b)]=some (.lit (.int k (if a<b then b else a))):=(rfl)
attribute [go_sem] minI maxI
theorem a0c:((4:Nat):Int)=4:=(rfl)
theorem Nu:((0:Nat):Int)=0:=(rfl)
theorem Tz:((1:Nat):Int)=1:=(rfl)
theorem a0e:((2:Nat):Int)=2:=(rfl)
theorem a0d:((3:Nat):Int)=3:=(rfl)
attribute [go_sem] a0c Nu Tz a0e a0d
def If (c:Bool):Prop:=c=true
def KP (c:Bool):Prop:=c=false
theorem sS (a b:Bool):If (a&&b)=(If a∧If b):=by simp [If]
theorem sR (a:Bool):If (!a)=KP a:=by simp [If,KP]
theorem xV (a:Bool):If a=(a=true):=(rfl)
theorem xT (a b:Bool):KP (a||b)=(KP a∧KP b):=by simp [KP]
theorem sQ (a:Bool):KP (!a)=If a:=by simp [If,KP]
theorem xU (a:Bool):KP a=(a=false):=(rfl)
attribute [go_sem] sS sR xT sQ
attribute [go_sem low] xV xU
def GX (O:Orc) (c:Bool) (x:OpK) (h:Hp) (n:Nat) (k:V→Hp→Nat→Option Ans) (Q:V→Hp→Nat→Prop) (_:Dum k):Prop:=Fin (EQ O x (some c) h n k) Q
def GYp (c:Bool) (v:Option V) (h:Hp) (n:Nat) (rcs:List Rec) (k:V→Hp→Nat→List Rec→Option Ans) (Q:V→Hp→Nat→Prop) (_:Dum k):Prop :=
 match c with
 | true=>Fin (FQ v fun v=>k v h n rcs) Q
 | false=>Fin (k Bv h n rcs) Q
def GYm (c:Bool) (m:AM Eff) (h:Hp) (n i:Nat) (ro:List Nat) (rcs:List Rec) (k:V→Hp→Nat→List Rec→Option Ans) (Q:V→Hp→Nat→Prop) (_:Dum k):Prop :=
 match c with
 | true=>Fin (DQ m h n i ro rcs k) Q
 | false=>Fin (k Bv h n rcs) Q
section
variable (O:Orc) (c:Bool) (h:Hp) (n i:Nat) (ro:List Nat) (rcs:List Rec) (Q:V→Hp→Nat→Prop)
@[congr] theorem GX_congr {g:Prop} {x x':OpK} {k:V→Hp→Nat→Option Ans} {u:Dum k} (hg:If c=g) (hx:g→x=x'):GX O c x h n k Q u=GX O c x' h n k Q u:=by
 cases c with
 | true=>rw [hx (hg▸rfl)]
 | false=>show Fin (EQ _ _ _ _ _ _) _=Fin (EQ _ _ _ _ _ _) _;rw [DU,DU]
theorem x_S (x:OpK) (k:V→Hp→Nat→Option Ans) (u:Dum k):GS O x (some c) h n k Q u=GX O c x h n k Q u:=(rfl)
theorem x_Xp (v:V) (k:V→Hp→Nat→Option Ans) (u:Dum k):GX O c (.p (some v)) h n k Q u=Fin (k (if c=true then v else Bv) h n) Q:=by
 cases c with
 | true=>rfl
 | false=>show Fin (EQ _ _ _ _ _ _) _=_;rw [DU];rfl
theorem x_Xm (v:V) (k:V→Hp→Nat→Option Ans) (u:Dum k):GX O c (.m (.ret ⟨v,[],0⟩)) h n k Q u=Fin (k (if c=true then v else Bv) h n) Q:=by
 cases c with
 | true=>rfl
 | false=>show Fin (EQ _ _ _ _ _ _) _=_;rw [DU];rfl
theorem x_Xr (o:Nat) (f:Option Obj→AM Eff) (k:V→Hp→Nat→Option Ans) (u:Dum k):GX O c (.m (.rdo o f)) h n k Q u=GX O c (.m (f (h o))) h n k Q u:=by
 cases c with
 | true=>rfl
 | false=>show Fin (EQ _ _ _ _ _ _) _=Fin (EQ _ _ _ _ _ _) _;rw [DU,DU]
theorem x_Xu (v:V) (o:Nat × Option Obj) (up:List (Nat × Option Obj)) (nw:Nat) (k:V→Hp→Nat→Option Ans) (u:Dum k):GX O c (.m (.ret ⟨v,o::up,nw⟩)) h n k Q u =
  ((c=true→Fin (k v (Aq h (o::up)) (n+nw)) Q)∧(c=false→Fin (k Bv h n) Q)):=by
 cases c with
 | true=>simp [GX,EQ,DB,HF,AM.run]
 | false=>simp only [Bool.false_eq_true,false_imp_iff,true_and,forall_const];show Fin (EQ _ _ _ _ _ _) _=_;rw [DU]
theorem x_Xi (f:FuncId) (xs:List V) (k:V→Hp→Nat→Option Ans) (u:Dum k):GX O c (.i f xs) h n k Q u=((c=true→GI (O f xs h n) k Q u)∧(c=false→Fin (k Bv h n) Q)):=by
 cases c with
 | true=>simp [GX,EQ,IF,GI]
 | false=>simp only [Bool.false_eq_true,false_imp_iff,true_and,forall_const];show Fin (EQ _ _ _ _ _ _) _=_;rw [DU]
@[congr] theorem GYp_congr {g:Prop} {v v':Option V} {k:V→Hp→Nat→List Rec→Option Ans} {u:Dum k} (hg:If c=g) (hx:g→v=v'):GYp c v h n rcs k Q u=GYp c v' h n rcs k Q u:=by
 cases c with
 | true=>rw [hx (hg▸rfl)]
 | false=>rfl
@[congr] theorem GYm_congr {g:Prop} {v v':AM Eff} {k:V→Hp→Nat→List Rec→Option Ans} {u:Dum k} (hg:If c=g) (hx:g→v=v'):GYm c v h n i ro rcs k Q u=GYm c v' h n i ro rcs k Q u:=by
 cases c with
 | true=>rw [hx (hg▸rfl)]
 | false=>rfl
theorem vX (v:Option V) (k:V→Hp→Nat→List Rec→Option Ans) (u:Dum k):GD (.p v) (some c) h n i rcs k Q u=GYp c v h n rcs k Q u:=by cases c<;>rfl
theorem wA (m:AM Eff) (k:V→Hp→Nat→List Rec→Option Ans) (u:Dum k):GD (.m m) (some c) h n i rcs k Q u=GYm c m h n i [] rcs k Q u:=by
 cases c with
 | true=>rw [pN];rfl
 | false=>rw [Zo];rfl
theorem x_Yp (v:V) (k:V→Hp→Nat→List Rec→Option Ans) (u:Dum k):GYp c (some v) h n rcs k Q u=Fin (k (if c=true then v else Bv) h n rcs) Q:=by cases c<;>rfl
theorem x_Ym (v:V) (k:V→Hp→Nat→List Rec→Option Ans) (u:Dum k):GYm c (.ret ⟨v,[],0⟩) h n i [] rcs k Q u=Fin (k (if c=true then v else Bv) h n rcs) Q:=by
 cases c with
 | true=>show Fin (DQ _ _ _ _ _ _ _) Q=_;rw [JS];rfl
 | false=>rfl
theorem vZ (o:Nat) (f:Option Obj→AM Eff) (k:V→Hp→Nat→List Rec→Option Ans) (u:Dum k):GYm c (.rdo o f) h n i ro rcs k Q u=GYm c (f (h o)) h n i (ro++[o]) rcs k Q u:=by
 cases c with
 | true=>show Fin (DQ _ _ _ _ _ _ _) Q=Fin (DQ _ _ _ _ _ _ _) Q;rw [NQ]
 | false=>rfl
theorem vY (x:Eff) (k:V→Hp→Nat→List Rec→Option Ans) (u:Dum k):GYm c (.ret x) h n i ro rcs k Q u=((c=true→Fin (k x.v (Aq h x.upd) (n+x.new) (Fd i ro (x.upd.map (·.1)) rcs)) Q)∧(c=false→Fin (k Bv h n rcs) Q)):=by
 cases c with
 | true=>simp only [forall_const,Bool.true_eq_false,false_imp_iff,and_true];show Fin (DQ _ _ _ _ _ _ _) Q=_;rw [JS]
 | false=>simp [GYm]
attribute [go_sem] x_Yp x_Ym vZ
attribute [go_sem low] vY vX wA
end
theorem aV (c b:Bool):(if c=true then (if c=true then bV b else Bv) else bV false)=bV (c&&b):=by cases c<;>rfl
theorem Yq (c b:Bool):(if c=true then bV b else bV false)=bV (c&&b):=by cases c<;>rfl
theorem jW (c b:Bool):(if c=true then bV true else (if c=false then bV b else Bv))=bV (c||b):=by cases c<;>rfl
theorem aS (c b:Bool):(if c=true then bV true else (if (!c)=true then bV b else Bv))=bV (c||b):=by cases c<;>rfl
theorem aU (c b:Bool):(if c=true then bV true else bV b)=bV (c||b):=by cases c<;>rfl
theorem XI (c b:Bool):Jo (if c=true then bV b else Bv) true=some (c&&b):=by cases c<;>simp [JB,FB]
theorem TV (c b:Bool):Jo (if c=true then bV b else Bv) false=some (c&&!b):=by cases c<;>simp [Ig,FB]
theorem XJ (c b:Bool):Jo (if c=false then bV b else Bv) true=some (!c&&b):=by cases c<;>simp [JB,FB]
theorem TW (c b:Bool):Jo (if c=false then bV b else Bv) false=some (!c&&!b):=by cases c<;>simp [Ig,FB]
attribute [go_sem] aV Yq jW aS aU XI TV XJ TW x_Xp x_Xm x_Xr x_Xu x_Xi
attribute [go_sem low] x_S
theorem kA (c b:Bool):(if c=false then bV true else bV b)=bV (!c||b):=by cases c<;>rfl
theorem jZ (c b:Bool):(if c=false then bV true else (if c=true then bV b else Bv))=bV (!c||b):=by cases c<;>rfl
theorem jY (c b:Bool):(if c=false then bV b else bV false)=bV (!c&&b):=by cases c<;>rfl
theorem jX (c b:Bool):(if c=false then (if c=false then bV b else Bv) else bV false)=bV (!c&&b):=by cases c<;>rfl
attribute [go_sem] kA jZ jY jX
theorem nT {x y:Bool} (h:(x&&!y)=false):(!x||y)=true:=by cases x<;>cases y<;>simp_all
theorem nS {x y:Bool} (h:(x&&!y)=true):(!x||y)=false:=by cases x<;>cases y<;>simp_all
theorem uF (L:Lay) (t:TypeId) (f:Fn) (a b:List V):Bg L t (.fn f a b)=.fn f a b:=by simp [Bg,V.isNil]
theorem a0b (d:Nat) (f:Fn) (a b:List V):AF 0 (d+1) (.fn f a b)=if Ay a&&Ay b then .ret (.fn f a b,[]) else .ret (.dead,[]):=(rfl)
attribute [go_sem] uF a0b
def IsQ (r:V × Hp × Nat) (v:V) (h:Hp) (n:Nat):Prop:=(v,h,n)=r
theorem tI (r:V × Hp × Nat) (v:V) (h:Hp) (n:Nat):IsQ r v h n=((v,h,n)=r):=(rfl)
attribute [go_sem] tI
theorem Nc {C:Ctx} {j:Nat} {g:FuncId} {xs:List V} {r:V × Hp × Nat} {hp:Hp} {n:Nat} {nt:Nat} {rs:List ResultVar} {ts:List TypeId} {b:IR} {ow:List Bool} {inl:Bool} {cl:Option (Nat × Nat)} (hd:C.T g=some ⟨nt,rs,ts,b,ow,inl,cl⟩) (k:Nat)
  (h:Fin (evC C (Lv C j) (Aa (Lv C j)) k b ⟨FT xs,hp,n⟩ (eJ C.L rs ts)) (IsQ r)):Lv C (j+1) g xs hp n=some r:=by
 obtain ⟨v,h',n',h1,h2⟩:=h
 refine VW (k:=k) ?_
 rw [Le hd,← show (v,h',n')=r from h2,← h1];rfl
def pO (h:Hp) (o:Nat) (x:Option Obj):Hp:=ES h o x
theorem bI (h:Hp) (d:Nat) (v:Option Obj) (i:Nat):pO h d v i=if i=d then v else h i:=Ma h d v i
theorem rQ (i:Nat) (x:Option Obj):ES Ag i x=pO Ag i x:=(rfl)
theorem jV (h:Hp) (o:Nat) (x y:Option Obj):ES (pO h o x) o y=pO h o y:=by
 funext i;simp only [Ma,bI];split<;>rfl
theorem jT (h:Hp) {i j:Nat} (x y:Option Obj) (hij:i<j):ES (pO h j y) i x=pO (ES h i x) j y:=by
 funext k;simp only [Ma,bI]
 split
 ·split
  ·omega
  ·rfl
 ·rfl
theorem jU (h:Hp) {i j:Nat} (x y:Option Obj) (hij:j<i):ES (pO h j y) i x=pO (pO h j y) i x:=(rfl)
attribute [go_sem] bI rQ jV jT jU
def GW' (x:Option (Hp × List Nat)) (ks:List Nat) (nk:Nat) (vs:List V) (thr:Nat) (live:List Nat) (h:Hp) (k:St→Option Ans) (Q:V→Hp→Nat→Prop) (_:Dum k):Prop :=
 match x with
 | some (hp',ks')=>(ks++ks').Nodup∧(ks++ks').all (fun o=>decide (thr≤o))=true∧Fin (k ⟨Ae live (HL thr h vs thr),hp',thr+nk⟩) Q
 | none=>False
def GW (kl ks:List Nat) (hp:Hp) (vs:List V) (thr:Nat) (live:List Nat) (h:Hp) (k:St→Option Ans) (Q:V→Hp→Nat→Prop) (u:Dum k):Prop :=
 GW' (Eb thr h kl thr hp) ks kl.length vs thr live h k Q u
def GV (vs:List V) (x:Option (Hp × List Nat)) (thr:Nat) (live:List Nat) (h:Hp) (k:St→Option Ans) (Q:V→Hp→Nat→Prop) (u:Dum k):Prop :=
 match x with
 | some (hp,ks)=>GW (FJ thr h vs) ks hp vs thr live h k Q u
 | none=>False
theorem x_N (thr:Nat) (live:List Nat) (tm:Nat→V) (h:Hp) (n:Nat) (k:St→Option Ans) (Q:V→Hp→Nat→Prop) (u:Dum k):GN thr live ⟨tm,h,n⟩ k Q u=GV (live.map tm) (CG thr h thr) thr live h k Q u:=by
 show Fin (GH thr live ⟨tm,h,n⟩ k) Q=_
 simp only [GH,MS,VR]
 cases hc:CG thr h thr with
 | none=>simp [GV,Fin]
 | some x =>
  obtain ⟨hp,ks⟩:=x
  simp only [GV,GW]
  cases hc':Eb thr h (FJ thr h (live.map tm)) thr hp with
  | none=>simp [GW',Fin]
  | some x =>
   obtain ⟨hp',ks'⟩:=x
   simp only [GW']
   by_cases hk:(ks++ks').Nodup∧(ks++ks').all (fun o=>decide (thr≤o))=true
   ·simp only [if_pos hk]
    simp only [hk.1,hk.2,true_and]
   ·simp only [hk,if_false]
    simp only [← and_assoc,hk,false_and,eq_iff_iff,iff_false]
    rintro ⟨v,h,n,e,_⟩;cases e
theorem x_V (hp:Hp) (ks:List Nat) (vs:List V) (thr:Nat) (live:List Nat) (h:Hp) (k:St→Option Ans) (Q:V→Hp→Nat→Prop) (u:Dum k):GV vs (some (hp,ks)) thr live h k Q u=GW (FJ thr h vs) ks hp vs thr live h k Q u:=(rfl)
theorem x_W0 (ks:List Nat) (hp:Hp) (vs:List V) (thr:Nat) (live:List Nat) (h:Hp) (k:St→Option Ans) (Q:V→Hp→Nat→Prop) (u:Dum k):GW [] ks hp vs thr live h k Q u=(ks.Nodup∧ks.all (fun o=>decide (thr≤o))=true∧Fin (k ⟨Ae live (HL thr h vs thr),hp,thr⟩) Q):=by
 show GW' (some (hp,[])) ks 0 vs thr live h k Q u=_
 simp only [GW',List.append_nil,Nat.add_zero]
theorem x_W1 (o:Nat) (r:List Nat) (ks:List Nat) (hp:Hp) (vs:List V) (thr:Nat) (live:List Nat) (h:Hp) (k:St→Option Ans) (Q:V→Hp→Nat→Prop) (u:Dum k):GW (o::r) ks hp vs thr live h k Q u=GW' (Eb thr h (o::r) thr hp) ks (o::r).length vs thr live h k Q u:=(rfl)
theorem x_W2 (hp':Hp) (ks' ks:List Nat) (nk:Nat) (vs:List V) (thr:Nat) (live:List Nat) (h:Hp) (k:St→Option Ans) (Q:V→Hp→Nat→Prop) (u:Dum k):GW' (some (hp',ks')) ks nk vs thr live h k Q u=((ks++ks').Nodup∧(ks++ks').all (fun o=>decide (thr≤o))=true∧Fin (k ⟨Ae live (HL thr h vs thr),hp',thr+nk⟩) Q):=(rfl)
theorem uZ (thr:Nat) (h:Hp) (m:Nat) (hp:Hp):Eb thr h [] m hp=some (hp,[]):=(rfl)
def ckT (o:Nat) (thr:Nat) (h:Hp) (r:List Nat) (m:Nat) (hp:Hp) (x:Option (Option Obj × List Nat)):Option (Hp × List Nat):=ckS o (fun y=>Eb thr h r (m+1) (ES hp m y)) x
theorem nJ (thr:Nat) (h:Hp) (o:Nat) (r:List Nat) (m:Nat) (hp:Hp):Eb thr h (o::r) m hp=ckT o thr h r m hp (Dv thr h (h o)):=(rfl)
theorem ck_T (o thr:Nat) (h:Hp) (r:List Nat) (m:Nat) (hp:Hp) (y:Option Obj) (ls:List Nat):ckT o thr h r m hp (some (y,ls))=ckB o ls (Eb thr h r (m+1) (ES hp m y)):=(rfl)
theorem ck_B (o:Nat) (ls:List Nat) (hp:Hp) (ks:List Nat):ckB o ls (some (hp,ks))=some (hp,(o::ls)++ks):=(rfl)
theorem sW (thr:Nat) (h:Hp):FJ thr h []=[]:=(rfl)
theorem lL (thr:Nat) (h:Hp) (v:V) (r:List V):FJ thr h (v::r)=OQ thr h v.slotO (FJ thr h r):=(rfl)
theorem lW (thr:Nat) (h:Hp) (l:List Nat):OQ thr h none l=l:=(rfl)
theorem lV (thr:Nat) (h:Hp) (o:Nat) (l:List Nat):OQ thr h (some o) l=if o<thr then l else OP o (h o) l:=(rfl)
theorem lT (o:Nat) (ob:Obj) (l:List Nat):OP o (some ob) l=o::l:=(rfl)
theorem lU (o:Nat) (l:List Nat):OP o none l=l:=(rfl)
theorem rC (thr:Nat) (h:Hp) (m:Nat):HL thr h [] m=[]:=(rfl)
def rE (thr:Nat) (h:Hp) (m:Nat) (v:V) (r:List V) (x:Option Nat):List V:=aC thr h m v (HL thr h r) x
theorem jC (thr:Nat) (h:Hp) (m:Nat) (v:V) (r:List V):HL thr h (v::r) m=rE thr h m v r v.slotO:=(rfl)
theorem jA (thr:Nat) (h:Hp) (m:Nat) (v:V) (r:List V):rE thr h m v r none=v.scrub thr::HL thr h r m:=(rfl)
def rD (thr:Nat) (h:Hp) (m:Nat) (r:List V) (x:Option Obj):List V:=jD m (HL thr h r) x
theorem iY (thr:Nat) (h:Hp) (m:Nat) (v:V) (r:List V) (o:Nat):rE thr h m v r (some o)=if o<thr then v::HL thr h r m else rD thr h m r (h o):=(rfl)
theorem iW (thr:Nat) (h:Hp) (m:Nat) (r:List V) (ob:Obj):rD thr h m r (some ob)=.sl m::HL thr h r (m+1):=(rfl)
theorem iX (thr:Nat) (h:Hp) (m:Nat) (r:List V):rD thr h m r none=.dead::HL thr h r m:=(rfl)
theorem qC (v:Value):V.slotO (.lit v)=none:=(rfl)
theorem qF (v:List V):V.slotO (.agg v)=none:=(rfl)
theorem pZ (v:List V):V.slotO (.tup v)=none:=(rfl)
theorem wP (f:Fn) (a b:List V):V.slotO (.fn f a b)=none:=(rfl)
theorem qA (o i f:Nat):V.slotO (.ptr o i f)=none:=(rfl)
theorem wO (p:Bool) (r:List V) (f:Nat):V.slotO (.ip p r f)=none:=(rfl)
theorem wN (o:Nat):V.slotO (.sl o)=some o:=(rfl)
theorem qD (p n:Bool) (sz:Nat) (els:List V):V.slotO (.isl p n sz els)=none:=(rfl)
theorem qB (sz:Nat) (els:List V):V.slotO (.own sz els)=none:=(rfl)
theorem gY:V.slotO .dead=none:=(rfl)
theorem qE (o i f n:Nat):V.slotO (.asl o i f n)=none:=(rfl)
attribute [go_sem] x_V x_W0 x_W1 x_W2 uZ nJ ck_T ck_B sW lL lW lV lT lU rC jC jA iY iW iX qC qF pZ wP qA wO wN qD qB gY qE
def Vf (x:Option (Hp × List Nat)) (y:Option (Option Obj × List Nat)) (i:Nat):Option (Hp × List Nat) :=
 match x with
 | none=>none
 | some (hp,ks)=>match y with
  | none=>none
  | some (y,ls)=>some (ES hp i y,ks++ls)
theorem co_0 (thr:Nat) (h:Hp):CG thr h 0=some (Ag,[]):=(rfl)
theorem co_s (thr:Nat) (h:Hp) (i:Nat):CG thr h (i+1)=Vf (CG thr h i) (Dv thr h (h i)) i:=by
 simp only [CG,Vf]
 cases CG thr h i with
 | none=>rfl
 | some x=>obtain ⟨hp,ks⟩:=x;cases Dv thr h (h i) with
  | none=>rfl
  | some y=>obtain ⟨y,ls⟩:=y;rfl
theorem zS (hp:Hp) (ks:List Nat) (y:Option Obj) (ls:List Nat) (i:Nat):Vf (some (hp,ks)) (some (y,ls)) i=some (ES hp i y,ks++ls):=(rfl)
def fA (thr:Nat) (h:Hp) (ob:Obj) (m:AM (List (V × List Nat))):Option (Option Obj × List Nat) :=
 match m.run h with
 | some x=>some (some { ob with els:=x.map (·.1) },(x.map (·.2)).flatten)
 | none=>none
theorem eX (thr:Nat) (h:Hp):Dv thr h none=some (none,[]):=(rfl)
theorem eU (thr:Nat) (h:Hp) (ob:Obj):Dv thr h (some ob)=if ob.dirty=true then fA thr h ob (Aw (AF thr 6) ob.els) else some (some ob,[]):=by
 simp only [Dv,fA,depth]
 split<;>rfl
theorem eY (thr:Nat) (h:Hp) (ob:Obj) (x:List (V × List Nat)):fA thr h ob (.ret x)=some (some { ob with els:=x.map (·.1) },(x.map (·.2)).flatten):=(rfl)
theorem eZ (thr:Nat) (h:Hp) (ob:Obj) (o:Nat) (f:Option Obj→AM (List (V × List Nat))):fA thr h ob (.rdo o f)=fA thr h ob (f (h o)):=(rfl)
theorem uX (thr d o:Nat):AF thr (d+1) (.sl o)=if o<thr then .ret (.sl o,[]) else .rdo o fun
  | none=>.ret (.dead,[])
  | some ob=>if ob.dirty then (Aw (AF 0 d) ob.els).bind fun x=>if Ay (x.map (·.1)) then .ret (.own ob.sz (x.map (·.1)),o::(x.map (·.2)).flatten) else .fail
   else .ret (.own ob.sz ob.els,[o]):=(rfl)
theorem PB {α β:Type} (f:α→AM β):∀ a b:List α,Aw f (a++b)=(Aw f a).bind fun x=>(Aw f b).bind fun y=>.ret (x++y)
 | [],b=>by
  simp only [List.nil_append,Aw,Bh]
  generalize Aw f b=m
  induction m with
  | ret a=>rfl
  | fail=>rfl
  | rdo o k ih=>simp only [AM.bind];congr 1;funext x;exact ih x
 | a::r,b=>by simp only [List.cons_append,Aw,PB f r b,NP,Bh]
abbrev vn (v:V):V × List Nat:=(v,[])
theorem Hf {α:Type} (thr d:Nat) (f:α→V) (h:∀ x,AF thr d (f x)=.ret (f x,[])) (l:List α):Aw (AF thr d) (l.map f)=.ret ((l.map f).map vn):=by
 rw [Vu _ _ (fun x=>vn (f x)) h l,List.map_map];rfl
theorem a0n (thr d:Nat) (l:List Al):Aw (AF thr (d+2)) (l.map eW)=.ret ((l.map eW).map vn):=Hf _ _ _ (fun x=>by simp only [oS,eS,eW,eI,eR,eWr,eE,EG,Ch,Dg,Ej,Gc,Gd,Bh,List.map_cons,List.map_nil,List.flatten_cons,List.flatten_nil,List.append_nil,List.nil_append]) l
theorem a0q (thr d:Nat) (l:List Av):Aw (AF thr (d+2)) (l.map eI)=.ret ((l.map eI).map vn):=Hf _ _ _ (fun x=>by simp only [oS,eS,eW,eI,eR,eWr,eE,EG,Ch,Dg,Ej,Gc,Gd,Bh,List.map_cons,List.map_nil,List.flatten_cons,List.flatten_nil,List.append_nil,List.nil_append]) l
theorem a0p (thr d:Nat) (l:List AO):Aw (AF thr (d+2)) (l.map eR)=.ret ((l.map eR).map vn):=Hf _ _ _ (fun x=>by simp only [oS,eS,eW,eI,eR,eWr,eE,EG,Ch,Dg,Ej,Gc,Gd,Bh,List.map_cons,List.map_nil,List.flatten_cons,List.flatten_nil,List.append_nil,List.nil_append]) l
theorem vT (thr d:Nat) (l:List Ak):Aw (AF thr (d+2)) (l.map eWr)=.ret ((l.map eWr).map vn):=Hf _ _ _ (fun x=>by simp only [oS,eS,eW,eI,eR,eWr,eE,EG,Ch,Dg,Ej,Gc,Gd,Bh,List.map_cons,List.map_nil,List.flatten_cons,List.flatten_nil,List.append_nil,List.nil_append]) l
theorem a0r (thr d:Nat) (l:List Bl):Aw (AF thr (d+2)) (l.map eE)=.ret ((l.map eE).map vn):=Hf _ _ _ (fun x=>by simp only [oS,eS,eW,eI,eR,eWr,eE,EG,Ch,Dg,Ej,Gc,Gd,Bh,List.map_cons,List.map_nil,List.flatten_cons,List.flatten_nil,List.append_nil,List.nil_append]) l
theorem a0l (thr d:Nat) (l:List Af):Aw (AF thr (d+2)) (l.map oS)=.ret ((l.map oS).map vn):=Hf _ _ _ (fun x=>by simp only [oS,eS,eW,eI,eR,eWr,eE,EG,Ch,Dg,Ej,Gc,Gd,Bh,List.map_cons,List.map_nil,List.flatten_cons,List.flatten_nil,List.append_nil,List.nil_append]) l
theorem a0o (p:Bool) (thr d:Nat) (l:List Af):Aw (AF thr (d+2)) (l.map (eS p))=.ret ((l.map (eS p)).map vn):=Hf _ _ _ (fun x=>by simp only [oS,eS,eW,eI,eR,eWr,eE,EG,Ch,Dg,Ej,Gc,Gd,Bh,List.map_cons,List.map_nil,List.flatten_cons,List.flatten_nil,List.append_nil,List.nil_append]) l
theorem VV (l:List V):List.map (fun x:V × List Nat=>x.1) (l.map vn)=l:=by simp [Function.comp_def]
theorem VU (l:List V):(List.map (fun x:V × List Nat=>x.2) (l.map vn)).flatten=[]:=by
 induction l with
 | nil=>rfl
 | cons a l ih=>simp
theorem aY (l:List Af):Ay (l.map (eS true))=true:=CE _ (fun _=>by simp [eS,V.perm,Ay]) l
attribute [go_sem] co_0 co_s zS eX eU eY eZ uX PB a0n a0q a0p vT a0r a0l a0o VV VU aY HO List.map_append List.flatten_append
attribute [go_sem low] x_N
end Ve
namespace Ve
open Go
section fx
variable {R:Type}
def OLe (O O':Orc):Prop:=∀ g xs h n r,O g xs h n=some r→O' g xs h n=some r
def PLe (P P':FuncId→List V→Option V):Prop:=∀ g xs r,P g xs=some r→P' g xs=some r
theorem Ya {α β:Type} (m:AM α) (f:α→AM β) (h:Nat→Option Obj):(m.bind f).runR h=match m.runR h with
  | some x=>(match (f x.1).runR h with | some y=>some (y.1,x.2++y.2) | none=>none)
  | none=>none:=by
 induction m with
 | ret a =>
  simp only [AM.bind,AM.runR,List.nil_append]
  cases (f a).runR h<;>rfl
 | fail=>rfl
 | rdo o k ih =>
  simp only [AM.bind,AM.runR]
  rw [ih (h o)]
  cases (k (h o)).runR h with
  | none=>rfl
  | some x =>
   dsimp only
   cases (f x.1).runR h<;>rfl
def RLe (m m':AM Eff):Prop:=∀ h r,m.runR h=some r→m'.runR h=some r
theorem RLe.run {m m':AM Eff} (hm:RLe m m') {h:Nat→Option Obj} {x:Eff} (e:m.run h=some x):m'.run h=some x:=by
 have h1:=m.runR_eq h
 rw [e] at h1
 have h2:=hm h _ h1
 have h3:=m'.runR_eq h
 rw [h2] at h3
 cases h4:m'.run h with
 | none=>rw [h4] at h3;cases h3
 | some y=>rw [h4] at h3;simp only [Option.some.injEq,Prod.mk.injEq] at h3;rw [h3.1]
inductive KLe:OpK→OpK→Prop
 | p (v:Option V):KLe (.p v) (.p v)
 | m {m m':AM Eff} (h:RLe m m'):KLe (.m m) (.m m')
 | i (g:FuncId) (xs:List V):KLe (.i g xs) (.i g xs)
theorem KLe.refl:∀ x,KLe x x
 | .p v=>.p v
 | .m _=>.m fun _ _ h=>h
 | .i g xs=>.i g xs
theorem TA {P P':FuncId→List V→Option V} (hP:PLe P P') (owns:List Bool) (nid:Nat) (frz:Bool) (g:FuncId) (xs:List V):RLe (DM P owns nid frz g xs) (DM P' owns nid frz g xs):=by
 intro h r e
 simp only [DM,Ya] at e ⊢
 cases hx:(IV owns xs).runR h with
 | none=>rw [hx] at e;cases e
 | some x =>
  rw [hx] at e
  simp only at e ⊢
  by_cases hn:x.1.2.Nodup
  ·simp only [hn,if_true] at e ⊢
   cases hp:P g x.1.1 with
   | none=>rw [hp] at e;simp [AM.runR] at e
   | some v=>rw [hp] at e;rw [hP _ _ _ hp];exact e
  ·simp only [hn,if_false] at e
   simp [AM.runR] at e
theorem Yy {T:Tbl} {P P':FuncId→List V→Option V} (hP:PLe P P') (nid:Nat) (frz:Bool) (f:V) (args:List V):KLe (FW T P nid frz f args) (FW T P' nid frz f args):=by
 unfold FW
 split
 ·split
  ·split
   ·exact .refl _
   ·split
    ·split<;>exact .refl _
    ·exact .m (TA hP _ _ _ _ _)
  ·exact .refl _
 ·exact .refl _
theorem bM {L:Lay} {T:Tbl} {P P':FuncId→List V→Option V} (hP:PLe P P') (e:Operand→V) (nid:Nat) (frz:Bool) (op:Op):KLe (opK L T P e nid frz op) (opK L T P' e nid frz op):=by
 cases op with
 | call c =>
  simp only [opK]
  split
  all_goals first
   | exact .refl _
   | exact Yy hP _ _ _ _
 | _=>exact .refl _
theorem OU {m m':AM Eff} (h:RLe m m'):∀ g,RLe (DB g m) (DB g m')
 | some true=>h
 | some false=>fun _ _ e=>e
 | none=>fun _ _ e=>e
theorem Hn {L:Lay} {T:Tbl} {O O':Orc} {P P':FuncId→List V→Option V} (hO:OLe O O') (hP:PLe P P'):∀ (ios:List IOp) (s:St) (k k':St→Option R) (r:R),Cj L T O P ios s k=some r→(∀ s,k s=some r→k' s=some r)→Cj L T O' P' ios s k'=some r
 | [],s,k,k',r,h,hk=>hk s h
 | o::ios,s,k,k',r,h,hk=>by
  simp only [Cj] at h ⊢
  have hle:=bM (L:=L) (T:=T) hP (eV s.tm) s.n o.frz o.op
  generalize opK L T P (eV s.tm) s.n o.frz o.op=x at h hle
  generalize opK L T P' (eV s.tm) s.n o.frz o.op=y at hle ⊢
  cases hle with
  | p v =>
   simp only [FQ] at h ⊢
   split at h
   ·exact Hn hO hP ios _ k k' r h hk
   ·cases h
  | m hm =>
   simp only [HF] at h ⊢
   split at h
   ·rename_i x hx
    rw [(OU hm _).run hx]
    exact Hn hO hP ios _ k k' r h hk
   ·cases h
  | i g xs =>
   simp only [Jz] at h ⊢
   cases hg:CU s.tm o.guard with
   | none=>rw [hg] at h;simp [IF] at h
   | some b =>
    rw [hg] at h
    cases b with
    | false=>simp only [IF] at h ⊢;exact Hn hO hP ios _ k k' r h hk
    | true =>
     simp only [IF] at h ⊢
     cases ho:O g xs s.hp s.n with
     | none=>rw [ho] at h;cases h
     | some z=>rw [ho] at h;rw [hO _ _ _ _ _ ho];exact Hn hO hP ios _ k k' r h hk
theorem JF {L:Lay} {T:Tbl} {P P':FuncId→List V→Option V} (hP:PLe P P'):∀ (ios:List IOp) (i:Nat) (s:St) (rcs:List Rec) (k k':St→List Rec→Option R) (r:R),Bz L T P i ios s rcs k=some r→(∀ s rcs,k s rcs=some r→k' s rcs=some r) →
  Bz L T P' i ios s rcs k'=some r
 | [],i,s,rcs,k,k',r,h,hk=>hk s rcs h
 | o::ios,i,s,rcs,k,k',r,h,hk=>by
  simp only [Bz] at h ⊢
  have hle:=bM (L:=L) (T:=T) hP (eV s.tm) s.n o.frz o.op
  generalize opK L T P (eV s.tm) s.n o.frz o.op=x at h hle
  generalize opK L T P' (eV s.tm) s.n o.frz o.op=y at hle ⊢
  cases hle with
  | p v =>
   simp only [FQ] at h ⊢
   split at h
   ·exact JF hP ios _ _ _ k k' r h hk
   ·cases h
  | m hm =>
   simp only [KK] at h ⊢
   split at h
   ·rename_i x hx
    rw [OU hm _ _ _ hx]
    exact JF hP ios _ _ _ k k' r h hk
   ·cases h
  | i g xs=>cases h
theorem uH {C:Ctx} {O O':Orc} {P P':FuncId→List V→Option V} (hO:OLe O O') (hP:PLe P P') {k k':Nat} (hk:k≤k') {r:R}:∀ (ir:IR),
  (∀ s q q',QLe r q q'→evC C O P k ir s q=some r→evC C O' P' k' ir s q'=some r)∧(∀ l s q q',QLe r q q'→Do C O P k ir l s q=some r→Do C O' P' k' ir l s q'=some r):=by
 intro ir
 induction ir with
 | skip=>exact ⟨fun s q q' hq h=>by simp only [evC] at h ⊢;exact hq _ _ h,fun l s q q' hq h=>by cases h⟩
 | label l0=>exact ⟨fun s q q' hq h=>by simp only [evC] at h ⊢;exact hq _ _ h,fun l s q q' hq h=>by simp only [Do] at h ⊢;exact hq _ _ h⟩
 | region ops d =>
  refine ⟨fun s q q' hq h=>?_,fun l s q q' hq h=>by cases h⟩
  cases d with
  | none=>simp only [evC] at h ⊢;exact Hn hO hP _ _ _ _ _ h (fun s h=>hq _ _ h)
  | some bef =>
   simp only [evC] at h ⊢
   split at h
   ·refine JF hP _ _ _ _ _ _ _ h (fun s rcs h=>?_)
    simp only [Ic] at h ⊢
    split at h
    ·exact hq _ _ h
    ·cases h
   ·cases h
 | seq a b iha ihb =>
  have hth:∀ {q q':Out→St→Option R},QLe r q q'→QLe r (Cl (fun s=>evC C O P k b s q) q) (Cl (fun s=>evC C O' P' k' b s q') q'):=by
   intro q q' hq o s h
   cases o with
   | normal=>exact ihb.1 _ _ _ hq h
   | exit i=>exact hq _ _ h
   | goto l=>exact hq _ _ h
   | ret=>exact hq _ _ h
  refine ⟨fun s q q' hq h=>?_,fun l s q q' hq h=>?_⟩
  ·simp only [evC] at h ⊢;exact iha.1 _ _ _ (hth hq) h
  ·simp only [Do] at h ⊢
   split at h
   ·exact iha.2 _ _ _ _ (hth hq) h
   ·exact ihb.2 _ _ _ _ hq h
 | cond c a b iha ihb =>
  refine ⟨fun s q q' hq h=>?_,fun l s q q' hq h=>by cases h⟩
  simp only [evC] at h ⊢
  generalize (eV s.tm c).bool?=x at h ⊢
  match x,h with
  | some true,h=>exact iha.1 _ _ _ hq h
  | some false,h=>exact ihb.1 _ _ _ hq h
  | none,h=>cases h
 | block id b ih =>
  refine ⟨fun s q q' hq h=>?_,fun l s q q' hq h=>by cases h⟩
  simp only [evC] at h ⊢
  refine ih.1 _ _ _ (fun o s h=>?_) h
  cases o with
  | exit i =>
   simp only [Dt] at h ⊢
   split at h<;>exact hq _ _ h
  | normal=>exact hq _ _ h
  | goto l=>exact hq _ _ h
  | ret=>exact hq _ _ h
 | loop live b ih =>
  refine ⟨fun s q q' hq h=>?_,fun l s q q' hq h=>by cases h⟩
  simp only [evC] at h ⊢
  have hf:∀ s' (q q':Out→St→Option R),QLe r q q'→evC C O P k b s' (As live q)=some r→evC C O' P' k' b s' (As live q')=some r:=by
   intro s' q q' hq h
   refine ih.1 s' _ _ (fun o s h=>?_) h
   cases o<;>exact hq _ _ h
  exact IK (f:=fun s q=>evC C O P k b s (As live q)) (f':=fun s q=>evC C O' P' k' b s (As live q)) hf hq _ _ _ hk h
 | exit id live=>exact ⟨fun s q q' hq h=>by simp only [evC] at h ⊢;exact hq _ _ h,fun l s q q' hq h=>by cases h⟩
 | goto l0=>exact ⟨fun s q q' hq h=>by simp only [evC] at h ⊢;exact hq _ _ h,fun l s q q' hq h=>by cases h⟩
 | ret live=>exact ⟨fun s q q' hq h=>by simp only [evC] at h ⊢;exact hq _ _ h,fun l s q q' hq h=>by cases h⟩
 | refuse=>exact ⟨fun s q q' hq h=>(by cases h),fun l s q q' hq h=>by cases h⟩
 | scope live b ih =>
  refine ⟨fun s q q' hq h=>?_,fun l s q q' hq h=>by cases h⟩
  simp only [evC] at h ⊢
  refine ih.1 _ _ _ (fun o s h=>?_) h
  cases o with
  | goto l=>exact HT (f:=fun l s q=>Do C O P k b l s q) (f':=fun l s q=>Do C O' P' k' b l s q) (fun l s q q' hq h=>ih.2 l s q q' hq h) hq _ _ _ _ hk h
  | exit i=>exact hq _ _ h
  | normal=>exact hq _ _ h
  | ret=>exact hq _ _ h
end fx
theorem Ov {O O':Orc} (hO:OLe O O'):PLe (Aa O) (Aa O'):=by
 intro g xs r h
 simp only [Aa] at h ⊢
 split at h
 ·rename_i v hp' n' ho
  rw [hO _ _ _ _ _ ho]
  exact h
 ·cases h
theorem eC {C:Ctx}:∀ (i:Nat),OLe (mR C i) (Lv C i)
 | 0=>fun g xs h n r e=>by cases e
 | i+1=>fun g xs h n r e=>by
  refine VW (k:=i) ?_
  simp only [mR,EF] at e ⊢
  split at e
  ·cases e
  ·exact (uH (eC i) (Ov (eC i)) (Nat.le_refl i) _).1 _ _ _ (fun _ _ h=>h) e
theorem Ws {C:Ctx} (i:Nat) {g:FuncId} {xs:List V} {r:V} (h:Aa (mR C i) g xs=some r):Aa (Lv C i) g xs=some r:=Ov (eC i) _ _ _ h
end Ve
namespace Ve
open Go
theorem dS {thr:Nat} {live:List Nat} {f:St→(Out→St→Option Ans)→Option Ans} {q:Out→St→Option Ans} {Q:V→Hp→Nat→Prop} {u:Dum f} {w:Dum q} (S:Nat→St) (n:Nat) (good:Nat→Bool)
  (hstep:∀ j kk,j<n→good j=true→GL thr live f q kk (S (j+1)) Q u w→GN thr live (S j) (fun s=>f s fun o s=>Cl (BG thr live f q kk) q o s) Q ⟨⟩)
  (hbad:∀ j kk,j<n→good j=false→(∀ i,i<j→good i=true)→GN thr live (S j) (fun s=>f s fun o s=>Cl (BG thr live f q kk) q o s) Q ⟨⟩)
  (hend:∀ kk,(∀ i,i<n→good i=true)→GN thr live (S n) (fun s=>f s fun o s=>Cl (BG thr live f q kk) q o s) Q ⟨⟩) :
  ∀ (d j k:Nat),j+d=n→d<k→(∀ i,i<j→good i=true)→GL thr live f q k (S j) Q u w
 | 0,j,0,_,hk,_=>by omega
 | 0,j,k+1,hj,_,hg=>by
  obtain rfl:j=n:=by omega
  exact hend k hg
 | d+1,j,0,_,hk,_=>by omega
 | d+1,j,k+1,hj,hk,hg=>by
  cases hb:good j with
  | false=>exact hbad j k (by omega) hb hg
  | true =>
   refine hstep j k (by omega) hb (dS S n good hstep hbad hend d (j+1) k (by omega) (by omega) ?_)
   intro i hi
   rcases Nat.lt_or_eq_of_le (Nat.le_of_lt_succ hi) with h | rfl
   ·exact hg i h
   ·exact hb
theorem IG {thr:Nat} {live:List Nat} {f:St→(Out→St→Option Ans)→Option Ans} {q:Out→St→Option Ans} {k:Nat} {s:St} {Q:V→Hp→Nat→Prop} {u:Dum f} {w:Dum q} (S:Nat→St) (n:Nat) (good:Nat→Bool) (hs:s=S 0) (hk:n<k)
  (hstep:∀ j kk,j<n→good j=true→GL thr live f q kk (S (j+1)) Q u w→GN thr live (S j) (fun s=>f s fun o s=>Cl (BG thr live f q kk) q o s) Q ⟨⟩)
  (hbad:∀ j kk,j<n→good j=false→(∀ i,i<j→good i=true)→GN thr live (S j) (fun s=>f s fun o s=>Cl (BG thr live f q kk) q o s) Q ⟨⟩)
  (hend:∀ kk,(∀ i,i<n→good i=true)→GN thr live (S n) (fun s=>f s fun o s=>Cl (BG thr live f q kk) q o s) Q ⟨⟩) :
  GL thr live f q k s Q u w:=by
 rw [hs]
 exact dS S n good hstep hbad hend n 0 k (by omega) hk (by omega)
theorem gl_each {thr:Nat} {live:List Nat} {f:St→(Out→St→Option Ans)→Option Ans} {q:Out→St→Option Ans} {k:Nat} {s:St} {Q:V→Hp→Nat→Prop} {u:Dum f} {w:Dum q} (S:Nat→St) (n:Nat) (hs:s=S 0) (hk:n<k)
  (hstep:∀ j kk,j<n→GL thr live f q kk (S (j+1)) Q u w→GN thr live (S j) (fun s=>f s fun o s=>Cl (BG thr live f q kk) q o s) Q ⟨⟩)
  (hend:∀ kk,GN thr live (S n) (fun s=>f s fun o s=>Cl (BG thr live f q kk) q o s) Q ⟨⟩) :
  GL thr live f q k s Q u w :=
 IG S n (fun _=>true) hs hk (fun j kk hj _=>hstep j kk hj) (fun _ _ _ h=>by cases h) (fun kk _=>hend kk)
theorem FM {live:List Nat} {f:St→(Out→St→Option Ans)→Option Ans} {q:Out→St→Option Ans} {k:Nat} {tm:Nat→V} {h:Hp} {n:Nat} {Q:V→Hp→Nat→Prop} {u:Dum f} {w:Dum q} (hs:(live.map tm).all (fun v=>v.slotO.isNone)=true) :
  GL 0 live f q k ⟨tm,h,n⟩ Q u w=GL 0 live f q k ⟨tm,Ag,0⟩ Q u w:=by
 have e1:∀ (h:Hp) (vs:List V),vs.all (fun v=>v.slotO.isNone)=true→FJ 0 h vs=[]:=by
  intro h vs
  induction vs with
  | nil=>intro _;rfl
  | cons v r ih =>
   intro hv
   simp only [List.all_cons,Bool.and_eq_true] at hv
   simp only [FJ]
   cases hvo:v.slotO with
   | none=>exact ih hv.2
   | some o=>rw [hvo] at hv;simp at hv
 have e2:∀ (h h':Hp) (vs:List V) (m:Nat),vs.all (fun v=>v.slotO.isNone)=true→HL 0 h vs m=HL 0 h' vs m:=by
  intro h h' vs
  induction vs with
  | nil=>intro _ _;rfl
  | cons v r ih =>
   intro m hv
   simp only [List.all_cons,Bool.and_eq_true] at hv
   simp only [HL]
   cases hvo:v.slotO with
   | none=>simp only [aC,ih m hv.2]
   | some o=>rw [hvo] at hv;simp at hv
 have e3:MS 0 live ⟨tm,h,n⟩=MS 0 live ⟨tm,Ag,0⟩:=by
  simp only [MS,VR,e1 _ _ hs,e2 h Ag _ _ hs];rfl
 cases k with
 | zero=>rfl
 | succ k =>
  rw [gLs,gLs]
  simp only [GN,GH,e3]
theorem EW {thr:Nat} {live:List Nat} {f:St→(Out→St→Option Ans)→Option Ans} {q:Out→St→Option Ans} {k:Nat} {s s':St} {Q:V→Hp→Nat→Prop} {u:Dum f} {w:Dum q} (h:GL thr live f q k s Q u w) (e:MS thr live s'=MS thr live s):GL thr live f q k s' Q u w:=by
 cases k with
 | zero=>exact h
 | succ k =>
  rw [gLs] at h ⊢
  simp only [GN,GH] at h ⊢
  rw [e];exact h
theorem CP {C:Ctx} {j:Nat} {g:FuncId} {xs:List V} {hp:Hp} {n:Nat} {K:V→Hp→Nat→Option Ans} {Q:V→Hp→Nat→Prop} {u:Dum K} {nt:Nat} {rs:List ResultVar} {ts:List TypeId} {b:IR} {ow:List Bool} {inl:Bool} {cl:Option (Nat × Nat)} (hd:C.T g=some ⟨nt,rs,ts,b,ow,inl,cl⟩) (k:Nat)
  (h:Fin (evC C (Lv C j) (Aa (Lv C j)) k b ⟨FT xs,hp,n⟩ (eJ C.L rs ts)) (fun v h n=>Fin (K v h n) Q)):GI (Lv C (j+1) g xs hp n) K Q u:=by
 obtain ⟨v,h',n',h1,h2⟩:=h
 have h3:Lv C (j+1) g xs hp n=some (v,h',n'):=by
  refine VW (k:=k) ?_
  rw [Le hd,← h1];rfl
 rw [h3]
 exact h2
end Ve
namespace Ve
open Go
theorem oL (thr d:Nat) (l:List Af) (k:Nat) (x:V) (hk:k<l.length):Aw (AF thr (d+2)) ((l.map oS).set k x)=(AF thr (d+2) x).bind fun y=>.ret (((l.map oS).map vn).set k y) :=
 RH _ vn x _ _ (fun y hy=>by
  obtain ⟨s,_,rfl⟩:=List.mem_map.1 hy
  simp only [oS,EG,Ch,Dg,Ej,Gc,Gd,Bh,List.map_cons,List.map_nil,List.flatten_cons,List.flatten_nil,List.append_nil,List.nil_append]) (by simpa using hk)
theorem jG (d:Nat) (l:List Af) (k:Nat) (x:V) (hk:k<l.length):Aw (AI (d+2)) ((l.map oS).set k x)=(AI (d+2) x).bind fun y=>.ret ((l.map (eS false)).set k y):=by
 have:=RH (AI (d+2)) (fun v=>v.bz) x (l.map oS) k (fun y hy=>by
  obtain ⟨s,_,rfl⟩:=List.mem_map.1 hy
  simp only [oS,Vp,NL,RC,Vo,Vn,KT,Ch,Dg,JG,PS,Bh]) (by simpa using hk)
 rw [this]
 congr 1
 funext y
 rw [List.map_map]
 congr 3
 funext s
 simp only [Function.comp,oS,eS,Vp,NL,RC,Vo,Vn,Pg,eO,Va]
theorem SK (L:List V) (k:Nat) (y:V × List Nat):List.map (fun x:V × List Nat=>x.1) ((L.map vn).set k y)=L.set k y.1:=by
 rw [List.map_set,VV]
theorem SJ (L:List V) (k:Nat) (y:V × List Nat) (hk:k<L.length):(List.map (fun x:V × List Nat=>x.2) ((L.map vn).set k y)).flatten=y.2:=by
 induction L generalizing k with
 | nil=>simp at hk
 | cons a l ih=>cases k with
  | zero=>simp only [List.map_cons,List.set_cons_zero,List.flatten_cons];rw [VU];simp
  | succ k=>simp only [List.map_cons,List.set_cons_succ,List.flatten_cons];rw [ih k (by simpa using hk)];rfl
theorem Ox:∀ (l:List V) (k:Nat) (x:V),Ay l=true→x.perm=true→Ay (l.set k x)=true
 | [],_,_,_,_=>by simp [Ay]
 | a::l,0,x,h,hx=>by simp only [Fq,Bool.and_eq_true] at h;simp only [List.set_cons_zero,Fq,hx,h.2,Bool.and_self]
 | a::l,k+1,x,h,hx=>by simp only [Fq,Bool.and_eq_true] at h;simp only [List.set_cons_succ,Fq,h.1,Ox l k x h.2 hx,Bool.and_self]
theorem UA (l:List Af) (k:Nat) (x:V) (hx:x.perm=true):Ay ((l.map oS).set k x)=true:=Ox _ _ _ (Sz l) hx
theorem Mh:∀ (l:List V) (k:Nat) (x:V),bzs (l.set k x)=(bzs l).set k x.bz
 | [],_,_=>by simp [bzs]
 | a::l,0,x=>by simp [bzs]
 | a::l,k+1,x=>by simp [bzs,Mh l k x]
attribute [go_sem] oL jG SK SJ UA Mh List.length_map
end Ve
