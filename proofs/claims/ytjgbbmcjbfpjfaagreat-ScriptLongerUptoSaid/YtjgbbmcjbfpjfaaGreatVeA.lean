/- An evaluator over abstract values for the operations that the given program uses: definitions. -/
import GoSem.Dispatch
import Derived.Orders
import Derived.Laws.AppendOwn
import Derived.Deep.MidRow
import Derived.Great.BuildSlice
set_option linter.all false
set_option linter.unusedSectionVars false
namespace Ve
open Go
inductive V where
 | lit (v:Value)
 | agg (cs:List V)
 | tup (vs:List V)
 | fn (f:Fn) (first cap:List V)
 | ptr (o i off:Nat)
 | ip (p:Bool) (row:List V) (off:Nat)
 | sl (o:Nat)
 | asl (o i off n:Nat)
 | isl (p nn:Bool) (sz:Nat) (els:List V)
 | own (sz:Nat) (els:List V)
 | dead
deriving Inhabited
structure Obj where
 sz:Nat
 els:List V
 dirty:Bool
deriving Inhabited
def V.cells:V→List V
 | .agg cs=>cs
 | v=>[v]
def V.one:V→Bool
 | .lit v=>match v with
  | .agg _=>false
  | .tuple _=>false
  | _=>true
 | .agg _=>false
 | .tup _=>false
 | .dead=>false
 | _=>true
def BA:List V→Bool
 | []=>true
 | v::r=>v.one&&BA r
def V.withCells:V→List V→V
 | .agg _,cs=>.agg cs
 | _,cs=>cs.headD .dead
mutual
def V.fz:V→V
 | .agg cs=>.agg (fzs cs)
 | .tup vs=>.tup (fzs vs)
 | .own sz els=>.isl true false sz (fzs els)
 | v=>v
def fzs:List V→List V
 | []=>[]
 | v::r=>V.fz v::fzs r
end
mutual
def V.bz:V→V
 | .agg cs=>.agg (bzs cs)
 | .tup vs=>.tup (bzs vs)
 | .own sz els=>.isl false false sz (bzs els)
 | v=>v
def bzs:List V→List V
 | []=>[]
 | v::r=>V.bz v::bzs r
end
inductive AM (α:Type) where
 | ret (a:α)
 | fail
 | rdo (o:Nat) (k:Option Obj→AM α)
def AM.rd {α:Type} (o:Nat) (k:Obj→AM α):AM α:=.rdo o fun | some ob=>k ob | none=>.fail
def AM.bind {α β:Type}:AM α→(α→AM β)→AM β
 | .ret a,f=>f a
 | .fail,_=>.fail
 | .rdo o k,f=>.rdo o fun ob=>(k ob).bind f
def AM.run {α:Type} (h:Nat→Option Obj):AM α→Option α
 | .ret a=>some a
 | .fail=>none
 | .rdo o k=>(k (h o)).run h
def AM.reads {α:Type} (h:Nat→Option Obj):AM α→List Nat
 | .ret _=>[]
 | .fail=>[]
 | .rdo o k=>o::(k (h o)).reads h
def AM.runR {α:Type} (h:Nat→Option Obj):AM α→Option (α × List Nat)
 | .ret a=>some (a,[])
 | .fail=>none
 | .rdo o k=>match (k (h o)).runR h with
  | some x=>some (x.1,o::x.2)
  | none=>none
theorem AM.runR_eq {α:Type} (h:Nat→Option Obj):∀ m:AM α,m.runR h=match m.run h with | some a=>some (a,m.reads h) | none=>none
 | .ret a=>rfl
 | .fail=>rfl
 | .rdo o k=>by
  simp only [AM.runR,AM.run,AM.reads]
  rw [AM.runR_eq h (k (h o))]
  cases (k (h o)).run h<;>rfl
def AM.ofOption {α:Type}:Option α→AM α
 | some a=>.ret a
 | none=>.fail
inductive K where
 | scalar
 | struct (fields:List (Nat × Nat))
 | arr (len:Nat) (el:TypeId)
 | sl (el:TypeId)
deriving Inhabited
structure TI where
 size:Nat
 bytes:Nat
 zero:V
 k:K
 plain:Bool
 ik:Option IntKind
 bool:Bool
 ft:List TypeId:=[]
deriving Inhabited
def K.agg:K→Bool
 | .struct _ | .arr _ _=>true
 | _=>false
abbrev Lay:=TypeId→Option TI
structure IOp where
 dst:Option Tmp
 op:Op
 guard:Option (Tmp × Bool)
 frz:Bool
deriving Inhabited
inductive IR where
 | skip
 | region (ops:List IOp) (draw:Option (List (List Nat)))
 | seq (a b:IR)
 | cond (c:Operand) (thn els:IR)
 | block (id:Nat) (body:IR)
 | loop (live:List Nat) (body:IR)
 | exit (id:Nat) (live:List Nat)
 | scope (live:List Nat) (body:IR)
 | label (l:Nat)
 | goto (l:Nat)
 | ret (live:List Nat)
 | refuse
deriving Inhabited
structure IFn where
 ntmps:Nat
 results:List ResultVar
 rtypes:List TypeId
 body:IR
 owns:List Bool
 inl:Bool
 clone:Option (Nat × Nat)
deriving Inhabited
abbrev Tbl:=FuncId→Option IFn
def V.int?:V→Option Int
 | .lit (.int _ n)=>some n
 | _=>none
def V.bool?:V→Option Bool
 | .lit (.bool b)=>some b
 | _=>none
def V.isNil:V→Bool
 | .lit (.slice none 0 0)=>true
 | _=>false
mutual
def V.perm:V→Bool
 | .agg cs=>AD cs
 | .tup vs=>AD vs
 | .fn _ a b=>AD a&&AD b
 | .ptr ..=>false
 | .sl _=>false
 | .asl ..=>false
 | .dead=>false
 | .lit _=>true
 | .own ..=>true
 | .ip p _ _=>p
 | .isl p _ _ _=>p
def AD:List V→Bool
 | []=>true
 | v::r=>v.perm&&AD r
end
mutual
def V.nr:V→Bool
 | .agg cs=>nrs cs
 | .tup vs=>nrs vs
 | .fn _ a b=>nrs a&&nrs b
 | .ptr ..=>false
 | .sl _=>false
 | .asl ..=>false
 | .dead=>false
 | .lit _=>true
 | .own ..=>true
 | .ip ..=>true
 | .isl ..=>true
def nrs:List V→Bool
 | []=>true
 | v::r=>v.nr&&nrs r
end
def Jk {α:Type}:Sem α→Option α
 | .pure a=>some a
 | _=>none
def Ak:Nat→List V→List V × List Obj
 | _,[]=>([],[])
 | nid,.own sz els::r=>let x:=Ak (nid+1) r;(.sl nid::x.1,⟨sz,els,false⟩::x.2)
 | nid,c::r=>let x:=Ak nid r;(c::x.1,x.2)
def HW (nid:Nat):V→V × List Obj
 | .agg cs=>let x:=Ak nid cs;(.agg x.1,x.2)
 | v=>let x:=Ak nid [v];(x.1.headD .dead,x.2)
def Bw:Nat→List V→List V × List Obj
 | _,[]=>([],[])
 | nid,v::r=>let x:=HW nid v;let y:=Bw (nid+x.2.length) r;(x.1::y.1,x.2++y.2)
def DU (nid:Nat):V→V × List Obj
 | .tup vs=>let x:=Bw nid vs;(.tup x.1,x.2)
 | v=>HW nid v
def Ci (nid:Nat):List Obj→List (Nat × Option Obj)
 | []=>[]
 | o::r=>(nid,some o)::Ci (nid+1) r
def AC {α β:Type} (f:α→AM β):List α→AM (List β)
 | []=>.ret []
 | a::r=>(f a).bind fun b=>(AC f r).bind fun bs=>.ret (b::bs)
def AS:Nat→V→AM V
 | 0,_=>.fail
 | _+1,.lit v=>.ret (.lit v)
 | _+1,.isl p nn sz els=>.ret (.isl p nn sz els)
 | _+1,.ip p row off=>.ret (.ip p row off)
 | _+1,.own sz els=>.ret (.isl false false sz (bzs els))
 | d+1,.agg cs=>(AC (AS d) cs).bind fun cs=>.ret (.agg cs)
 | d+1,.tup cs=>(AC (AS d) cs).bind fun cs=>.ret (.tup cs)
 | d+1,.fn f a b=>(AC (AS d) a).bind fun a=>(AC (AS d) b).bind fun b=>.ret (.fn f a b)
 | d+1,.sl o=>.rd o fun ob=>if ob.dirty then (AC (AS d) ob.els).bind fun els=>.ret (.isl false false ob.sz els) else .ret (.isl false false ob.sz (bzs ob.els))
 | d+1,.asl o i off n=>.rd o fun ob=>match ob.els[i]? with
  | some el=>if off+n≤el.cells.length then (AC (AS d) ((el.cells.drop off).take n)).bind fun els=>.ret (.isl false true 1 els) else .fail
  | none=>.fail
 | d+1,.ptr o i off=>.rd o fun ob=>match ob.els[i]? with
  | some el=>(AC (AS d) el.cells).bind fun row=>.ret (.ip false row off)
  | none=>.fail
 | _+1,.dead=>.fail
mutual
def V.scrub (thr:Nat):V→V
 | .ptr o i off=>if o<thr then .ptr o i off else .dead
 | .sl o=>if o<thr then .sl o else .dead
 | .asl o i off n=>if o<thr then .asl o i off n else .dead
 | .agg cs=>.agg (AU thr cs)
 | .tup cs=>.tup (AU thr cs)
 | .fn f a b=>.fn f (AU thr a) (AU thr b)
 | v=>v
def AU (thr:Nat):List V→List V
 | []=>[]
 | v::r=>v.scrub thr::AU thr r
end
def AK (thr:Nat):Nat→V→AM (V × List Nat)
 | 0,_=>.fail
 | d+1,.agg cs=>(AC (AK thr d) cs).bind fun x=>.ret (.agg (x.map (·.1)),(x.map (·.2)).flatten)
 | d+1,.tup cs=>(AC (AK thr d) cs).bind fun x=>.ret (.tup (x.map (·.1)),(x.map (·.2)).flatten)
 | d+1,.sl o=>if o<thr then .ret (.sl o,[]) else .rdo o fun
  | none=>.ret (.dead,[])
  | some ob=>if ob.dirty then (AC (AK 0 d) ob.els).bind fun x=>if AD (x.map (·.1)) then .ret (.own ob.sz (x.map (·.1)),o::(x.map (·.2)).flatten) else .fail
   else .ret (.own ob.sz ob.els,[o])
 | _+1,.fn f a b=>if thr=0 then (if AD a&&AD b then .ret (.fn f a b,[]) else .ret (.dead,[])) else .ret (.fn f (AU thr a) (AU thr b),[])
 | _+1,.ptr o i off=>if o<thr then .ret (.ptr o i off,[]) else .ret (.dead,[])
 | _+1,.asl o i off n=>if o<thr then .ret (.asl o i off n,[]) else .ret (.dead,[])
 | _+1,v=>.ret (v,[])
def depth:Nat:=6
structure Eff where
 v:V
 upd:List (Nat × Option Obj)
 new:Nat
deriving Inhabited
def DT (v:V):AM Eff:=.ret ⟨v,[],0⟩
def Bx (L:Lay) (t:TypeId) (v:V):V :=
 if v.isNil then
  match L t with
  | some { k:=.sl el,.. }=>match L el with
   | some e=>.own e.size []
   | none=>v
  | _=>v
 else v
def fillCells (cells:List V) (off:Nat) (x:List V):List V:=cells.take off++x++cells.drop (off+x.length)
def Dp (AH:Nat→Option (Nat × Nat)) (cells:List V):List (Nat × V)→Option (List V)
 | []=>some cells
 | (i,v)::r=>match AH i with
  | none=>none
  | some (off,size)=>if v.cells.length=size∧off+size≤cells.length∧BA v.cells=true then Dp AH (fillCells cells off v.cells) r else none
def Fu (size:Nat) (agg:Bool):Nat→List V→List V
 | 0,_=>[]
 | n+1,cs=>(if agg then .agg (cs.take size) else cs.headD .dead)::Fu size agg n (cs.drop size)
def FC (agg:Bool) (off size:Nat) (row:List V):Option V :=
 if off+size≤row.length then some (if agg then .agg ((row.drop off).take size) else ((row.drop off).headD .dead)) else none
def Pk:V→V→Option Bool
 | .lit (.int k a),.lit (.int k' b)=>if k=k' then some (decide (a=b)) else none
 | _,_=>none
def Bz:List V→List V→Option Bool
 | [],[]=>some true
 | a::r,b::s=>match Pk a b,Bz r s with
  | some x,some y=>some (x&&y)
  | _,_=>none
 | _,_=>none
def BO (L:Lay) (op:BinOp) (t:TypeId) (x y:V):Option V :=
 match x,y with
 | .lit (.int k a),.lit (.int k' b)=>(Jk (binOp op t (.int k a) (.int k' b))).map .lit
 | .lit (.bool a),.lit (.bool b)=>match L t with
  | some ti=>if ti.bool then match op with
   | .eql=>some (.lit (.bool (a == b)))
   | .neq=>some (.lit (.bool (!(a == b))))
   | _=>none
   else none
  | none=>none
 | .lit (.string a),.lit (.string b)=>(Jk (Op.stringOp op a b)).map .lit
 | .agg a,.agg b=>match L t with
  | some ti=>if ti.plain&&a.length == ti.size then match op with
    | .eql=>(Bz a b).map fun r=>.lit (.bool r)
    | .neq=>(Bz a b).map fun r=>.lit (.bool (!r))
    | _=>none
   else none
  | none=>none
 | _,_=>none
def cL (op:UnOp) (x:V):Option V :=
 match x with
 | .lit v=>(Jk (Op.unary op v)).map .lit
 | _=>none
def Cq (L:Lay) (src dst:TypeId) (x:V):Option V :=
 match L src,L dst,x with
 | some { ik:=some _,.. },some { ik:=some k,.. },.lit (.int _ n)=>some (.lit (.int k (k.wrap n)))
 | some { ik:=some _,.. },some { zero:=.lit (.float k _),.. },.lit (.int _ n)=>some (.lit (.float k (k.nearest n)))
 | some { zero:=.lit (.float _ _),.. },some { ik:=some k,.. },.lit (.float s b)=>match (s.decode b).toInt .zero with
  | some n=>if k.min≤n∧n≤k.max then some (.lit (.int k n)) else none
  | none=>none
 | _,_,_=>none
def OE:List V→Option V
 | [.lit (.int k a),.lit (.int _ b)]=>some (.lit (.int k (if b<a then b else a)))
 | _=>none
def OG:List V→Option V
 | [.lit (.int k a),.lit (.int _ b)]=>some (.lit (.int k (if a<b then b else a)))
 | _=>none
def JE:List V→Option V
 | [.lit (.float k a),.lit (.float k' b)]=>if k=k' then some (.lit (.complex k a b)) else none
 | _=>none
def TE:List V→Option V
 | [.lit (.complex k a _)]=>some (.lit (.float k a))
 | _=>none
def Us:List V→Option V
 | [.lit (.complex k _ b)]=>some (.lit (.float k b))
 | _=>none
def OL:V→AM Eff
 | .lit (.slice none 0 0)=>DT (.lit (goInt 0))
 | .isl _ _ _ els=>DT (.lit (goInt els.length))
 | .own _ els=>DT (.lit (goInt els.length))
 | .sl o=>.rd o fun ob=>DT (.lit (goInt ob.els.length))
 | _=>.fail
def V.isRef (v:V):Bool:=!v.perm
def RG (sz:Nat):V→AM (List V × List Nat × Bool)
 | .lit (.slice none 0 0)=>.ret ([],[],false)
 | .isl p _ sz' els=>if sz'=sz then .ret (els,[],!p) else .fail
 | .sl o=>.rd o fun ob=>if ob.sz=sz then .ret (ob.els,[o],ob.dirty) else .fail
 | _=>.fail
def FZ (L:Lay) (nid:Nat) (t:TypeId) (s x:V):AM Eff :=
 match L t with
 | some { k:=.sl el,.. }=>match L el with
  | some e=>(RG e.size x).bind fun src =>
   match s with
   | .lit (.slice none 0 0) =>
    if (src.1.length:Int)*e.bytes≤140737488355328 then .ret ⟨.sl nid,(nid,some ⟨e.size,src.1,src.2.2⟩)::src.2.1.map (·,none),1⟩ else .fail
   | .sl o=>.rd o fun ob =>
    if ob.sz=e.size∧o∉src.2.1∧((ob.els.length+src.1.length:Nat):Int)*e.bytes≤140737488355328 then
     .ret ⟨.sl nid,(nid,some ⟨e.size,ob.els++src.1,ob.dirty||src.2.2⟩)::(o,none)::src.2.1.map (·,none),1⟩ else .fail
   | _=>.fail
  | none=>.fail
 | _=>.fail
def Eb (L:Lay) (t:TypeId) (x i:V):AM Eff :=
 match i.int? with
 | none=>.fail
 | some n=>match L t with
  | some { k:=.arr len el,.. }=>match L el with
   | some e=>if 0≤n∧n<len then match x with
     | .ptr o j off=>DT (.ptr o j (off+n.toNat*e.size))
     | .ip p row off=>DT (.ip p row (off+n.toNat*e.size))
     | _=>.fail
    else .fail
   | none=>.fail
  | some { k:=.sl el,.. }=>match L el with
   | some e=>match x with
    | .sl o=>.rd o fun ob=>if 0≤n∧n<ob.els.length∧ob.sz=e.size then DT (.ptr o n.toNat 0) else .fail
    | .isl p _ sz els=>if 0≤n∧n<els.length∧sz=e.size then match els[n.toNat]? with
      | some el=>DT (.ip p el.cells 0)
      | none=>.fail
     else .fail
    | _=>.fail
   | none=>.fail
  | _=>.fail
def Fk (L:Lay) (nid:Nat) (t:TypeId) (x:V):AM Eff :=
 match L t with
 | none=>.fail
 | some ti=>match x with
  | .ip _ row off=>match FC ti.k.agg off ti.size row with
   | some v=>DT v
   | none=>.fail
  | .ptr o i off=>.rd o fun ob=>match ob.els[i]? with
   | none=>.fail
   | some el=>if off+ti.size≤el.cells.length then
     let x:=Ak nid ((el.cells.drop off).take ti.size)
     let v:V:=if ti.k.agg then .agg x.1 else x.1.headD .dead
     match x.2 with
     | []=>DT v
     | _=>.ret ⟨v,(o,some { ob with els:=ob.els.set i (el.withCells (fillCells el.cells off x.1)),dirty:=true })::Ci nid x.2,x.2.length⟩
    else .fail
  | _=>.fail
def Pg:V→V
 | .sl _=>.dead
 | v=>v
def Jn (L:Lay) (nid:Nat) (t:TypeId) (x:V):AM Eff :=
 match L t with
 | none=>.fail
 | some ti=>match x with
  | .ptr o i off=>.rd o fun ob=>match ob.els[i]? with
   | some (.agg cs)=>if cs.length=ti.size∧ti.k.agg=true∧off=0 then
     let x:=Ak nid cs
     match x.2 with
     | []=>.fail
     | _=>.ret ⟨.agg x.1,(o,some { ob with els:=ob.els.set i (.agg (x.1.map Pg)),dirty:=true })::Ci nid x.2,x.2.length⟩
    else .fail
   | _=>.fail
  | _=>.fail
def Lj (L:Lay) (t:TypeId) (x v:V):AM Eff :=
 match L t with
 | none=>.fail
 | some ti=>match x with
  | .ptr o i off=>.rd o fun ob=>match ob.els[i]? with
   | none=>.fail
   | some el =>
    let v:=Bx L t v
    if v.cells.length=ti.size∧off+ti.size≤el.cells.length∧BA v.cells=true then
     .ret ⟨.lit (.tuple #[]),[(o,some { ob with els:=ob.els.set i (el.withCells (fillCells el.cells off v.cells)),dirty:=ob.dirty||v.isRef })],0⟩
    else .fail
  | _=>.fail
def Ku (L:Lay) (nid:Nat) (t:TypeId) (v:V):AM Eff :=
 match L t with
 | none=>.fail
 | some ti =>
  let v:=Bx L t v
  if v.cells.length=ti.size∧BA v.cells=true then .ret ⟨.ptr nid 0 0,[(nid,some ⟨ti.size,[v],v.isRef⟩)],1⟩ else .fail
def Jm (L:Lay) (t:TypeId) (v:V):AM Eff :=
 match L t with
 | none=>.fail
 | some ti =>
  let v:=Bx L t v
  if v.cells.length=ti.size∧v.nr=true∧BA v.cells=true then DT (.ip v.perm v.cells 0) else .fail
def HD (L:Lay) (nid:Nat) (t:TypeId):AM Eff :=
 match L t with
 | some ti=>Ku L nid t ti.zero
 | none=>.fail
def Fl (L:Lay) (nid:Nat) (t:TypeId) (x i:V):AM Eff :=
 (Eb L t x i).bind fun p=>match L t with
  | some { k:=.sl el,.. }=>(Fk L nid el p.v).bind fun q=>.ret ⟨p.v,q.upd,q.new⟩
  | _=>.ret p
def Lk (L:Lay) (t:TypeId) (x:V) (lo hi mx:Option V):Option V :=
 match lo,mx with
 | none,none=>match x with
  | .isl p nn sz els=>match L t with
   | some { k:=.sl el,.. }=>match L el with
    | some _=>match hi with
     | some h=>match h.int? with
      | some h=>if 0≤h∧h≤els.length then some (.isl p nn sz (els.take h.toNat)) else none
      | none=>none
     | none=>some (.isl p nn sz els)
    | none=>none
   | _=>none
  | .ip p row off=>match hi,L t with
   | none,some { k:=.arr len el,.. }=>match L el with
    | some e=>if e.size=1∧off+len≤row.length∧BA ((row.drop off).take len)=true then some (.isl p true 1 ((row.drop off).take len)) else none
    | none=>none
   | _,_=>none
  | .ptr o i off=>match hi,L t with
   | none,some { k:=.arr len el,.. }=>match L el with
    | some e=>if e.size=1 then some (.asl o i off len) else none
    | none=>none
   | _,_=>none
  | _=>none
 | _,_=>none
def Fs (L:Lay) (t:TypeId) (f:Nat):Option (Nat × Nat) :=
 match L t with
 | some { k:=.struct fs,.. }=>fs[f]?
 | _=>none
def FY (L:Lay) (s:TypeId) (x:V) (f:Nat):Option V :=
 match Fs L s f with
 | some (off,_)=>match x with
  | .ptr o i k=>some (.ptr o i (k+off))
  | .ip p row k=>some (.ip p row (k+off))
  | _=>none
 | none=>none
def Lm (L:Lay) (t:TypeId) (x i:V):Option V :=
 match L t with
 | some { k:=.arr len el,.. }=>match L el,i.int? with
  | some ei,some n=>match x with
   | .agg cs=>if 0≤n∧n<len then FC ei.k.agg (n.toNat*ei.size) ei.size cs else none
   | _=>none
  | _,_=>none
 | _=>none
def Sy (L:Lay) (t:TypeId) (f:Nat):Option TypeId :=
 match L t with
 | some { k:=.struct _,ft:=ft,.. }=>ft[f]?
 | _=>none
def Ln (L:Lay) (t:TypeId) (x:V) (f:Nat):Option V :=
 match Fs L t f,Sy L t f with
 | some (off,_),some u=>match L u with
  | some ui=>match x with
   | .agg cs=>FC ui.k.agg off ui.size cs
   | _=>none
  | none=>none
 | _,_=>none
def HX (x:V) (i:Nat):Option V :=
 match x with
 | .tup vs=>vs[i]?
 | _=>none
def Ov (c a b:V):Option V :=
 match c.bool? with
 | some t=>some (if t then a else b)
 | none=>none
def Hn:V→Option V
 | .ptr o i off=>some (.ptr o i off)
 | .ip p row off=>some (.ip p row off)
 | _=>none
def Lp (L:Lay) (t:TypeId) (parts:List (Nat × V)):Option V :=
 match L t with
 | some ti=>match ti.k with
  | .struct fs=>(Dp (fun i=>fs[i]?) ti.zero.cells parts).map .agg
  | .arr _ el=>match L el with
   | some ei=>(Dp (fun i=>some (i*ei.size,ei.size)) ti.zero.cells (parts.map fun p=>(p.1,Bx L el p.2))).map .agg
   | none=>none
  | _=>none
 | none=>none
def CU (L:Lay) (nid:Nat) (t:TypeId) (len:Nat) (parts:List (Nat × V)):AM Eff :=
 match L t with
 | some { k:=.sl el,.. }=>match L el with
  | some ei =>
   match Dp (fun i=>some (i*ei.size,ei.size)) (List.replicate len ei.zero.cells).flatten (parts.map fun p=>(p.1,Bx L el p.2)) with
   | some cells=>if BA cells=true∧len*ei.size≤16777216 then .ret ⟨.sl nid,[(nid,some ⟨ei.size,Fu ei.size ei.k.agg len cells,!AD cells⟩)],1⟩ else .fail
   | none=>.fail
  | none=>.fail
 | _=>.fail
def Dt (L:Lay) (nid:Nat) (t:TypeId) (l c:V):AM Eff :=
 match L t,l.int?,c.int? with
 | some { k:=.sl el,.. },some n,some m=>match L el with
  | some ei=>if n=m∧0≤n∧n*ei.bytes≤140737488355328 then .ret ⟨.sl nid,[(nid,some ⟨ei.size,List.replicate n.toNat ei.zero,!AD ei.zero.cells⟩)],1⟩ else .fail
  | none=>.fail
 | _,_,_=>.fail
def Eu:List Bool→List V→AM (List V × List Nat)
 | _,[]=>.ret ([],[])
 | ms,v::r=>if ms.headD false then (AK 0 depth v).bind fun x=>if x.1.perm then (Eu ms.tail r).bind fun y=>.ret (x.1::y.1,x.2++y.2) else .fail
  else if v.perm then (Eu ms.tail r).bind fun y=>.ret (v::y.1,y.2) else .fail
def Mb (ms:List Bool) (vs:List V):AM (List V × List Nat) :=
 match ms with
 | []=>(AC (AS depth) vs).bind fun xs=>.ret (xs,[])
 | _=>Eu ms vs
abbrev Hp:=Nat→Option Obj
abbrev Orc:=FuncId→List V→Hp→Nat→Option (V × Hp × Nat)
def Fj (hp:Hp) (o:Nat) (x:Option Obj):Hp:=fun i=>match Nat.beq i o with
 | true=>x
 | false=>hp i
def VJ (tm:Nat→V) (d:Nat) (v:V):Nat→V:=fun i=>match Nat.beq i d with
 | true=>v
 | false=>tm i
def Av:Hp→List (Nat × Option Obj)→Hp
 | hp,[]=>hp
 | hp,(o,x)::r=>Av (Fj hp o x) r
def Af:Hp:=fun _=>none
def WH (os:List Obj):Hp:=Av Af (Ci 0 os)
def V.nice1 (v:V):Bool:=BA v.cells
def V.nice:V→Bool
 | .tup vs=>vs.all V.nice1
 | v=>v.nice1
def Aa (O:Orc) (g:FuncId) (xs:List V):Option V :=
 let x:=Bw 0 xs
 match O g x.1 (WH x.2) x.2.length with
 | some (v,hp',_)=>match (AK 0 depth v).run hp' with
  | some (v',ks)=>if ks.Nodup∧v'.perm=true∧v'.nice=true∧xs.all V.nice1=true then some v' else none
  | none=>none
 | none=>none
def Hq (P:FuncId→List V→Option V) (owns:List Bool) (nid:Nat) (frz:Bool) (g:FuncId) (xs:List V):AM Eff :=
 (Mb owns xs).bind fun x =>
  if x.2.Nodup then match P g x.1 with
   | some r=>let y:=DU nid (if frz then r.fz else r);.ret ⟨y.1,x.2.map (·,none)++Ci nid y.2,y.2.length⟩
   | none=>.fail
  else .fail
def Gg (nid sz bytes sz':Nat) (els:List V) (d:Bool):AM Eff :=
 if (els.length:Int)*bytes≤140737488355328∧0<sz∧sz'=sz then .ret ⟨.sl nid,[(nid,some ⟨sz,els,d⟩)],1⟩ else .fail
def Iw (nid sz bytes:Nat) (v:V):AM Eff :=
 match v with
 | .isl p _ sz' els=>Gg nid sz bytes sz' els (!p)
 | .lit (.slice none 0 0)=>Gg nid sz bytes sz [] false
 | v=>(AS depth v).bind fun
  | .isl _ _ sz' els=>if AD els then Gg nid sz bytes sz' els false else .fail
  | _=>.fail
def V.isLit:V→Bool
 | .lit v=>match v with
  | .agg _=>false
  | .tuple _=>false
  | _=>true
 | _=>false
def KL (els:List V):Bool:=els.all fun e=>e.cells.all V.isLit
def Sq (nid sz bytes n o o2:Nat) (ob ob2:Obj):AM Eff :=
 if n≤ob.els.length∧ob.sz=sz∧ob2.sz=sz∧ob2.els.length=1∧o≠o2∧KL ob.els=true∧KL ob2.els=true∧((ob.els.length+1:Nat):Int)*bytes≤140737488355328 then
  .ret ⟨.sl nid,[(nid,some ⟨sz,ob.els.take n++ob2.els++ob.els.drop n,false⟩),(o,none),(o2,none)],1⟩ else .fail
def SJ (o sz sz':Nat) (els:List V) (ob:Obj):AM Eff :=
 if sz'=sz∧ob.sz=sz∧els.length=ob.els.length∧KL els=true∧KL ob.els=true then .ret ⟨.lit (goInt els.length),[(o,some { ob with els:=els })],0⟩ else .fail
def Ow (L:Lay) (t:TypeId) (d s:V):AM Eff :=
 match L t with
 | some { k:=.sl el,.. }=>match L el with
  | some e=>match d,s with
   | .sl o,.isl _ _ sz els=>.rd o fun ob=>SJ o e.size sz els ob
   | _,_=>.fail
  | none=>.fail
 | _=>.fail
def Ho (nid sz bytes:Nat) (s i v:V):AM Eff :=
 match s,i,v with
 | .sl o,.lit (.int .i64 n),.sl o2=>if 0≤n then .rd o fun ob=>.rd o2 fun ob2=>Sq nid sz bytes n.toNat o o2 ob ob2 else .fail
 | _,_,_=>.fail
inductive OpK where
 | p (v:Option V)
 | m (m:AM Eff)
 | i (g:FuncId) (xs:List V)
def Ix (T:Tbl) (P:FuncId→List V→Option V) (nid:Nat) (frz:Bool) (f:V) (args:List V):OpK :=
 match f with
 | .fn (.func g) first cap=>match T g with
  | some d=>match d.inl with
   | true=>.i g (first++args++cap)
   | false=>match d.clone with
    | some sz=>match d.owns with
     | []=>match first++args++cap with
      | [v]=>.m (Iw nid sz.1 sz.2 v)
      | _=>.p none
     | _::_=>match first++args++cap with
      | [s,i,v]=>.m (Ho nid sz.1 sz.2 s i v)
      | _=>.p none
    | none=>.m (Hq P d.owns nid frz g (first++args++cap))
  | none=>.p none
 | _=>.p none
def opK (L:Lay) (T:Tbl) (P:FuncId→List V→Option V) (e:Operand→V) (nid:Nat) (frz:Bool):Op→OpK
 | .move x=>.p (some (e x))
 | .assign x=>.p (some (e x))
 | .pick c a b=>.p (Ov (e c) (e a) (e b))
 | .alloc t=>.m (HD L nid t)
 | .box t x=>.m (match frz with | true=>Jm L t (e x) | false=>Ku L nid t (e x))
 | .build t parts=>.p (Lp L t (parts.toList.map fun p=>(p.1,e p.2)))
 | .makeSlice t l c=>.m (Dt L nid t (e l) (e c))
 | .buildSlice t len parts=>.m (CU L nid t len (parts.toList.map fun p=>(p.1,e p.2)))
 | .load t x=>.m (match frz with | true=>Jn L nid t (e x) | false=>Fk L nid t (e x))
 | .store t x v=>.m (Lj L t (e x) (e v))
 | .nilCheck x=>.p (Hn (e x))
 | .binOp op t x y _=>.p (BO L op t (e x) (e y))
 | .unOp op _ x=>.p (cL op (e x))
 | .convert s d x=>.p (Cq L s d (e x))
 | .makeFunc f a b=>.p (some (.fn f (a.toList.map e) (b.toList.map e)))
 | .slice t x lo hi mx=>.p (Lk L t (e x) (lo.map e) (hi.map e) (mx.map e))
 | .fieldAddr s x f=>.p (FY L s (e x) f)
 | .indexAddr t x i=>.m (match frz with | true=>Fl L nid t (e x) (e i) | false=>Eb L t (e x) (e i))
 | .index t x i=>.p (Lm L t (e x) (e i))
 | .field t x f=>.p (Ln L t (e x) f)
 | .extract x i=>.p (HX (e x) i)
 | .call c=>match c.callee with
  | .builtin .len=>match c.args.toList with
   | [x]=>.m (OL (e x))
   | _=>.p none
  | .builtin .min=>.p (OE (c.args.toList.map e))
  | .builtin .max=>.p (OG (c.args.toList.map e))
  | .builtin .complex=>.p (JE (c.args.toList.map e))
  | .builtin .real=>.p (TE (c.args.toList.map e))
  | .builtin .imag=>.p (Us (c.args.toList.map e))
  | .builtin .copy=>match c.args.toList,c.argTypes.toList with
   | [d,s],[t,_]=>.m (Ow L t (e d) (e s))
   | _,_=>.p none
  | .builtin .append=>match c.args.toList,c.argTypes.toList with
   | [s,x],[t,u]=>match Nat.beq t u with
    | true=>.m (FZ L nid t (e s) (e x))
    | false=>.p none
   | _,_=>.p none
  | .value f=>Ix T P nid frz (e f) (c.args.toList.map e)
  | _=>.p none
 | _=>.p none
structure St where
 tm:Nat→V
 hp:Hp
 n:Nat
def eV (tm:Nat→V):Operand→V
 | .tmp t=>tm t
 | .const v=>.lit v
 | .global _=>.dead
 | .func f=>.fn (.func f) [] []
def HK (tm:Nat→V) (d:Option Tmp) (v:V):Nat→V :=
 match d with
 | some t=>VJ tm t v
 | none=>tm
def Ko (v:V) (b:Bool):Option Bool :=
 match v with
 | .lit (.bool c)=>some (c == b)
 | .lit _=>some false
 | _=>none
def Dn (tm:Nat→V) (g:Option (Tmp × Bool)):Option Bool :=
 match g with
 | none=>some true
 | some (t,b)=>Ko (tm t) b
def BG:V:=.lit (.tuple #[])
section
variable {R:Type}
def Hv (v:Option V) (k:V→Option R):Option R :=
 match v with
 | some v=>k v
 | none=>none
def IJ (m:AM Eff) (h:Hp) (n:Nat) (k:V→Hp→Nat→Option R):Option R :=
 match m.run h with
 | some x=>k x.v (Av h x.upd) (n+x.new)
 | none=>none
def LY (x:Option (V × Hp × Nat)) (k:V→Hp→Nat→Option R):Option R :=
 match x with
 | some (v,h,n)=>k v h n
 | none=>none
end
def Jy (g:Option Bool) (v:Option V):Option V :=
 match g with
 | some true=>v
 | some false=>some BG
 | none=>none
def EB (g:Option Bool) (m:AM Eff):AM Eff :=
 match g with
 | some true=>m
 | some false=>.ret ⟨BG,[],0⟩
 | none=>.fail
def OR (g:Option Bool) (h:Hp) (n:Nat) (x:Option (V × Hp × Nat)):Option (V × Hp × Nat) :=
 match g with
 | some true=>x
 | some false=>some (BG,h,n)
 | none=>none
section
variable {R:Type}
def CP (L:Lay) (T:Tbl) (O:Orc) (P:FuncId→List V→Option V):List IOp→St→(St→Option R)→Option R
 | [],s,k=>k s
 | o::r,s,k =>
  match opK L T P (eV s.tm) s.n o.frz o.op with
  | .p v=>Hv (Jy (Dn s.tm o.guard) v) fun v=>CP L T O P r ⟨HK s.tm o.dst v,s.hp,s.n⟩ k
  | .m m=>IJ (EB (Dn s.tm o.guard) m) s.hp s.n fun v h n=>CP L T O P r ⟨HK s.tm o.dst v,h,n⟩ k
  | .i g xs=>LY (OR (Dn s.tm o.guard) s.hp s.n (O g xs s.hp s.n)) fun v h n=>CP L T O P r ⟨HK s.tm o.dst v,h,n⟩ k
structure Rec where
 i:Nat
 ro:List Nat
 wo:List Nat
deriving Inhabited
def Fy (i:Nat) (ro wo:List Nat) (rcs:List Rec):List Rec :=
 match ro,wo with
 | [],[]=>rcs
 | ro,wo=>⟨i,ro,wo⟩::rcs
def Nq (m:AM Eff) (h:Hp) (n i:Nat) (rcs:List Rec) (k:V→Hp→Nat→List Rec→Option R):Option R :=
 match m.runR h with
 | some x=>k x.1.v (Av h x.1.upd) (n+x.1.new) (Fy i x.2 (x.1.upd.map (·.1)) rcs)
 | none=>none
theorem LX (m:AM Eff) (h:Hp) (n i:Nat) (rcs:List Rec) (k:V→Hp→Nat→List Rec→Option R):Nq m h n i rcs k=match m.run h with
 | some x=>k x.v (Av h x.upd) (n+x.new) (Fy i (m.reads h) (x.upd.map (·.1)) rcs)
 | none=>none:=by
 rw [Nq,AM.runR_eq]
 cases m.run h<;>rfl
def Cg (L:Lay) (T:Tbl) (P:FuncId→List V→Option V):Nat→List IOp→St→List Rec→(St→List Rec→Option R)→Option R
 | _,[],s,rcs,k=>k s rcs
 | i,o::r,s,rcs,k =>
  match opK L T P (eV s.tm) s.n o.frz o.op with
  | .p v=>Hv (Jy (Dn s.tm o.guard) v) fun v=>Cg L T P (i+1) r ⟨HK s.tm o.dst v,s.hp,s.n⟩ rcs k
  | .m m=>Nq (EB (Dn s.tm o.guard) m) s.hp s.n i rcs fun v h n rcs=>Cg L T P (i+1) r ⟨HK s.tm o.dst v,h,n⟩ rcs k
  | .i _ _=>none
end
def EG (a b:List Nat):Bool:=a.any fun x=>b.contains x
def It (bef:List (List Nat)) (i:Nat):Nat→Nat→Bool
 | 0,_=>false
 | f+1,j=>(bef.getD j []).contains i||(bef.getD j []).any fun k=>It bef i f k
def FP (bef:List (List Nat)) (i j:Nat):Bool:=It bef i 8 j
def EN (bef:List (List Nat)) (a b:Rec):Bool :=
 !(EG a.wo b.wo||EG a.wo b.ro||EG a.ro b.wo)||FP bef b.i a.i
def Gm (bef:List (List Nat)):List Rec→Bool
 | []=>true
 | a::r=>r.all (EN bef a)&&Gm bef r
def Sf:Operand→List Nat
 | .tmp t=>[t]
 | _=>[]
def IOp.rs (o:IOp):List Nat:=(o.op.operands.toList.flatMap Sf)++(o.guard.map (·.1)).toList
def Hc (bef:List (List Nat)) (a:IOp) (i:Nat):Nat→List IOp→Bool
 | _,[]=>true
 | j,b::r=>(!(EG a.dst.toList b.rs||EG a.dst.toList b.dst.toList||EG a.rs b.dst.toList)||FP bef i j)&&Hc bef a i (j+1) r
def Ip (bef:List (List Nat)):Nat→List IOp→Bool
 | _,[]=>true
 | i,a::r=>Hc bef a i (i+1) r&&Ip bef (i+1) r
inductive Out where
 | normal
 | exit (id:Nat)
 | goto (l:Nat)
 | ret
deriving Inhabited,DecidableEq
def DI (thr:Nat) (h:Hp):Option Obj→Option (Option Obj × List Nat)
 | none=>some (none,[])
 | some ob=>if ob.dirty then match (AC (AK thr depth) ob.els).run h with
   | some x=>some (some { ob with els:=x.map (·.1) },(x.map (·.2)).flatten)
   | none=>none
  else some (some ob,[])
def CR (thr:Nat) (h:Hp):Nat→Option (Hp × List Nat)
 | 0=>some (Af,[])
 | i+1=>match CR thr h i with
  | none=>none
  | some (hp,ks)=>match DI thr h (h i) with
   | none=>none
   | some (y,ls)=>some (Fj hp i y,ks++ls)
def Ae:List Nat→List V→Nat→V
 | i::is,v::vs,j=>if j=i then v else Ae is vs j
 | _,_,_=>.dead
def Fz (live:List Nat) (s:St):St:=⟨Ae live (live.map s.tm),s.hp,s.n⟩
def V.slotO:V→Option Nat
 | .sl o=>some o
 | _=>none
def QI (o:Nat):Option Obj→List Nat→List Nat
 | some _,l=>o::l
 | none,l=>l
def QJ (thr:Nat) (h:Hp):Option Nat→List Nat→List Nat
 | some o,l=>if o<thr then l else QI o (h o) l
 | none,l=>l
def Gb (thr:Nat) (h:Hp):List V→List Nat
 | []=>[]
 | v::r=>QJ thr h v.slotO (Gb thr h r)
def rH (m:Nat) (f:Nat→List V):Option Obj→List V
 | some _=>.sl m::f (m+1)
 | none=>.dead::f m
def hJ (thr:Nat) (h:Hp) (m:Nat) (v:V) (f:Nat→List V):Option Nat→List V
 | some o=>if o<thr then v::f m else rH m f (h o)
 | none=>v.scrub thr::f m
def Is (thr:Nat) (h:Hp):List V→Nat→List V
 | [],_=>[]
 | v::r,m=>hJ thr h m v (Is thr h r) v.slotO
def ckB (o:Nat) (ls:List Nat):Option (Hp × List Nat)→Option (Hp × List Nat)
 | some (hp,ks)=>some (hp,(o::ls)++ks)
 | none=>none
def ckS (o:Nat) (f:Option Obj→Option (Hp × List Nat)):Option (Option Obj × List Nat)→Option (Hp × List Nat)
 | some (y,ls)=>ckB o ls (f y)
 | none=>none
def Et (thr:Nat) (h:Hp):List Nat→Nat→Hp→Option (Hp × List Nat)
 | [],_,hp=>some (hp,[])
 | o::r,m,hp=>ckS o (fun y=>Et thr h r (m+1) (Fj hp m y)) (DI thr h (h o))
def Zr (thr:Nat) (live:List Nat) (vs:List V) (h:Hp):Option St :=
 match CR thr h thr with
 | none=>none
 | some (hp,ks)=>match Et thr h (Gb thr h vs) thr hp with
  | none=>none
  | some (hp',ks')=>if (ks++ks').Nodup∧(ks++ks').all (fun o=>decide (thr≤o))=true then some ⟨Ae live (Is thr h vs thr),hp',thr+(Gb thr h vs).length⟩ else none
def OA (thr:Nat) (live:List Nat) (s:St):Option St:=Zr thr live (live.map s.tm) s.hp
def PT:IR→Nat→Bool
 | .seq a b,l=>PT a l||PT b l
 | .label l',l=>Nat.beq l' l
 | _,_=>false
structure Ctx where
 L:Lay
 T:Tbl
section
variable {R:Type}
def Hr (thr:Nat) (live:List Nat) (s:St) (k:St→Option R):Option R :=
 match OA thr live s with
 | some s=>k s
 | none=>none
abbrev Ans:=V × Hp × Nat
def BZ (k:St→Option R) (q:Out→St→Option R):Out→St→Option R
 | .normal,s=>k s
 | .exit i,s=>q (.exit i) s
 | .goto l,s=>q (.goto l) s
 | .ret,s=>q .ret s
def Ec (id:Nat) (q:Out→St→Option R):Out→St→Option R
 | .exit i,s=>match Nat.beq i id with
  | true=>q .normal s
  | false=>q (.exit i) s
 | .normal,s=>q .normal s
 | .goto l,s=>q (.goto l) s
 | .ret,s=>q .ret s
def Al (live:List Nat) (q:Out→St→Option R):Out→St→Option R
 | .normal,s=>q .normal (Fz live s)
 | .exit i,s=>q (.exit i) s
 | .goto l,s=>q (.goto l) s
 | .ret,s=>q .ret s
def Kx (k:Nat→St→Option R) (q:Out→St→Option R):Out→St→Option R
 | .goto l,s=>k l s
 | .normal,s=>q .normal s
 | .exit i,s=>q (.exit i) s
 | .ret,s=>q .ret s
def Bp (thr:Nat) (live:List Nat) (f:St→(Out→St→Option R)→Option R) (q:Out→St→Option R):Nat→St→Option R
 | 0,_=>none
 | k+1,s=>Hr thr live s fun s=>f s fun o s=>BZ (Bp thr live f q k) q o s
def EO (thr:Nat) (live:List Nat) (has:Nat→Bool) (f:Nat→St→(Out→St→Option R)→Option R) (q:Out→St→Option R):Nat→Nat→St→Option R
 | 0,_,_=>none
 | k+1,l,s=>match has l with
  | true=>Hr thr live s fun s=>f l s (Kx (fun l s=>EO thr live has f q k l (Fz live s)) q)
  | false=>q (.goto l) s
def Jx (bef:List (List Nat)) (rcs:List Rec) (x:Option R):Option R :=
 match Gm bef rcs with
 | true=>x
 | false=>none
def Ra (b:Option Bool) (x y:Option R):Option R :=
 match b with
 | some true=>x
 | some false=>y
 | none=>none
mutual
def evC (C:Ctx) (O:Orc) (P:FuncId→List V→Option V) (k:Nat):IR→St→(Out→St→Option R)→Option R
 | .skip,s,q=>q .normal s
 | .label _,s,q=>q .normal s
 | .region ops none,s,q=>CP C.L C.T O P ops s (q .normal)
 | .region ops (some bef),s,q=>match Ip bef 0 ops with
  | true=>Cg C.L C.T P 0 ops s [] fun s rcs=>Jx bef rcs (q .normal s)
  | false=>none
 | .seq a b,s,q=>evC C O P k a s (BZ (fun s=>evC C O P k b s q) q)
 | .cond c a b,s,q=>Ra (eV s.tm c).bool? (evC C O P k a s q) (evC C O P k b s q)
 | .block id body,s,q=>evC C O P k body s (Ec id q)
 | .loop live body,s,q=>Bp s.n live (fun s q=>evC C O P k body s (Al live q)) q k (Fz live s)
 | .exit id live,s,q=>q (.exit id) (Fz live s)
 | .goto l,s,q=>q (.goto l) s
 | .scope live body,s,q=>evC C O P k body s (Kx (fun l s'=>EO s.n live (PT body) (fun l s q=>FM C O P k body l s q) q k l (Fz live s')) q)
 | .ret live,s,q=>q .ret (Fz live s)
 | .refuse,_,_=>none
def FM (C:Ctx) (O:Orc) (P:FuncId→List V→Option V) (k:Nat):IR→Nat→St→(Out→St→Option R)→Option R
 | .seq a b,l,s,q=>match PT a l with
  | true=>FM C O P k a l s (BZ (fun s=>evC C O P k b s q) q)
  | false=>FM C O P k b l s q
 | .label _,_,s,q=>q .normal s
 | _,_,_,_=>none
end
end
section
variable {R:Type}
def CI (L:Lay) (tm:Nat→V):List ResultVar→List TypeId→Hp→Nat→(List V→Hp→Nat→Option R)→Option R
 | [],_,h,n,k=>k [] h n
 | .tmp t::r,ts,h,n,k=>CI L tm r ts.tail h n fun vs h n=>k (Bx L (ts.headD 0) (tm t)::vs) h n
 | .cell a t::r,ts,h,n,k=>IJ (Fk L n t (tm a)) h n fun v h n=>CI L tm r ts.tail h n fun vs h n=>k (v::vs) h n
end
def DE:List V→V
 | [v]=>v
 | vs=>.tup vs
def Gk (args:List V):Nat→V:=fun i=>args.getD i BG
def wP (L:Lay) (d:IFn) (tm:Nat→V) (hp:Hp) (n:Nat):Option (V × Hp × Nat) :=
 CI L tm d.results d.rtypes hp n fun vs hp n=>some (DE vs,hp,n)
def endK (L:Lay) (d:IFn):Out→St→Option (V × Hp × Nat)
 | .normal,s=>wP L d s.tm s.hp s.n
 | .ret,s=>wP L d s.tm s.hp s.n
 | _,_=>none
def Ft (C:Ctx) (O:Orc) (k:Nat) (f:FuncId) (args:List V) (hp:Hp) (n:Nat):Option (V × Hp × Nat) :=
 match C.T f with
 | none=>none
 | some d=>evC C O (Aa O) k d.body ⟨Gk args,hp,n⟩ (endK C.L d)
def evFn (C:Ctx):Nat→Orc
 | 0=>fun _ _ _ _=>none
 | k+1=>Ft C (evFn C k) k
end Ve
namespace Ve
open Go
structure OI where
 blk:Option Nat
 sz:Nat
 len:Nat
 cap:Nat
 ad:Option Addr
def OI.slice (oi:OI):Value :=
 match oi.blk with
 | none=>.slice oi.ad 0 0
 | some b=>.slice (some ⟨b,0,none⟩) oi.len oi.cap
structure Env where
 w:World
 F:Nat→Prop
 fps:Nat→List Nat
 al:Nat→Option OI
 U:Nat→Prop
def Env.NO (E:Env) (b:Nat):Prop:=b<E.w.heap.size∧∀ o,b∉E.fps o
inductive Md where
 | P | B | O
deriving DecidableEq
def pm (p:Bool):Md:=if p then .P else .B
def AG (els:List V):List V:=(els.map V.cells).flatten
def ED (ys:List Value):Prop:=∀ y∈ys,y.oneCell'=true
structure El (w:World) (b sz len cap:Nat) (ys:List Value):Prop where
 ex:∃ cur e,w.heap[b]?=some (.cells cur e (0,0))∧cur.size=cap*sz∧cur.toList.take (len*sz)=ys
 le:len≤cap
 mx:cap≤maxLen
 pos:0<sz
 one:ED ys
 ln:ys.length=len*sz
inductive Rs (E:Env):Md→List V→List Value→List Nat→Prop
 | nil {m}:Rs E m [] [] []
 | lit {m v vs xs f}:Rs E m vs xs f→Rs E m (.lit v::vs) (v::xs) f
 | agg {m cs ys vs xs f g}:Rs E m cs ys f→Rs E m vs xs g→Rs E m (.agg cs::vs) (.agg ys.toArray::xs) (f++g)
 | tup {m cs ys vs xs f g}:Rs E m cs ys f→Rs E m vs xs g→Rs E m (.tup cs::vs) (.tuple ys.toArray::xs) (f++g)
 | fn {m g a as b bs vs xs f}:Rs E m a as []→Rs E m b bs []→Rs E m vs xs f→Rs E m (.fn g a b::vs) (.func g as.toArray bs.toArray::xs) f
 | ip {m p row off blk DR ys vs xs f}:(p=true→E.F blk)→(p=false→E.NO blk)→(m=.P→p=true)→Rs E (pm p) row ys []→E.w.rangeAt blk DR ys →
   ED ys→Rs E m vs xs f→Rs E m (.ip p row off::vs) (.pointer (some ⟨blk,DR+off,none⟩)::xs) f
 | isl0 {m p nn sz a cap vs xs f}:(m=.P→p=true)→(nn=true→a.isSome=true)∧(a=none→cap=0)→Rs E m vs xs f→Rs E m (.isl p nn sz []::vs) (.slice a 0 cap::xs) f
 | isl {m p nn els blk off cap sz ys vs xs f}:els.length≤cap→(p=true→E.F blk)→(p=false→E.NO blk)→(m=.P→p=true)→(∀ e∈els,e.cells.length=sz) →
   Rs E (pm p) (AG els) ys []→E.w.rangeAt blk off ys→ED ys→Rs E m vs xs f →
   Rs E m (.isl p nn sz els::vs) (.slice (some ⟨blk,off,none⟩) els.length cap::xs) f
 | own0 {m sz ad vs xs f}:0<sz→Rs E m vs xs f→Rs E m (.own sz []::vs) (.slice ad 0 0::xs) f
 | own {m sz els blk cap ys fi vs xs f}:El E.w blk sz els.length cap ys→(∀ e∈els,e.cells.length=sz)→Rs E .P (AG els) ys fi →
   Rs E m vs xs f→Rs E m (.own sz els::vs) (.slice (some ⟨blk,0,none⟩) els.length cap::xs) (blk::(fi++f))
 | sl {o oi vs xs f}:E.al o=some oi→Rs E .O vs xs f→Rs E .O (.sl o::vs) (oi.slice::xs) f
 | slD {o ad n c vs xs f}:E.al o=none→E.U o→Rs E .O vs xs f→Rs E .O (.sl o::vs) (.slice ad n c::xs) f
 | ptr {o i off oi b vs xs f}:E.al o=some oi→oi.blk=some b→Rs E .O vs xs f →
   Rs E .O (.ptr o i off::vs) (.pointer (some ⟨b,i*oi.sz+off,none⟩)::xs) f
 | ptrD {o i off b k vs xs f}:E.al o=none→E.U o→Rs E .O vs xs f→Rs E .O (.ptr o i off::vs) (.pointer (some ⟨b,k,none⟩)::xs) f
 | asl {o i off n oi b vs xs f}:E.al o=some oi→oi.blk=some b→Rs E .O vs xs f →
   Rs E .O (.asl o i off n::vs) (.slice (some ⟨b,i*oi.sz+off,none⟩) n n::xs) f
 | aslD {o i off n ad k c vs xs f}:E.al o=none→E.U o→Rs E .O vs xs f→Rs E .O (.asl o i off n::vs) (.slice ad k c::xs) f
 | dead {x vs xs f}:Rs E .O vs xs f→Rs E .O (.dead::vs) (x::xs) f
structure Ext (E E':Env) (f:List Nat):Prop where
 no:∀ b,E.NO b→E'.NO b∧E'.w.heap[b]?=E.w.heap[b]?
 F:∀ b,E.F b→E'.F b∧E'.w.heap[b]?=E.w.heap[b]?
 own:∀ b∈f,E'.w.heap[b]?=E.w.heap[b]?
 al:∀ o oi,E.al o=some oi→E'.al o=some oi∨(E'.al o=none∧E'.U o)
 dd:∀ o,E.al o=none→E.U o→E'.al o=none∧E'.U o
theorem Ext.sub {E E':Env} {f g:List Nat} (h:Ext E E' f) (hs:∀ b∈g,b∈f):Ext E E' g :=
 ⟨h.no,h.F,fun b hb=>h.own b (hs b hb),h.al,h.dd⟩
theorem Ext.refl (E:Env) (f:List Nat):Ext E E f:=⟨fun _ h=>⟨h,rfl⟩,fun _ h=>⟨h,rfl⟩,fun _ _=>rfl,fun _ _ h=>.inl h,fun _ h u=>⟨h,u⟩⟩
theorem Ext.trans {E E' E'':Env} {f:List Nat} (h:Ext E E' f) (h':Ext E' E'' f):Ext E E'' f :=
 ⟨fun b hb=>let ⟨a,e⟩:=h.no b hb;let ⟨a',e'⟩:=h'.no b a;⟨a',e'.trans e⟩,
  fun b hb=>let ⟨a,e⟩:=h.F b hb;let ⟨a',e'⟩:=h'.F b a;⟨a',e'.trans e⟩,
  fun b hb=>(h'.own b hb).trans (h.own b hb),
  fun o oi ho=>by
  rcases h.al o oi ho with h1 | ⟨h1,u1⟩
  ·exact h'.al o oi h1
  ·exact .inr (h'.dd o h1 u1),
  fun o ho u=>let ⟨h1,u1⟩:=h.dd o ho u;h'.dd o h1 u1⟩
theorem EE {w w':World} {b off:Nat} {ys:List Value} (h:w'.heap[b]?=w.heap[b]?) (hr:w.rangeAt b off ys):w'.rangeAt b off ys :=
 fun j v hj=>(World.cell?_of_block (a:=⟨b,off+j,none⟩) h).trans (hr j v hj)
theorem El.block {w w':World} {b sz len cap:Nat} {ys:List Value} (h:w'.heap[b]?=w.heap[b]?) (hr:El w b sz len cap ys):El w' b sz len cap ys :=
 ⟨let ⟨cur,e,h1,h2⟩:=hr.ex;⟨cur,e,h.trans h1,h2⟩,hr.le,hr.mx,hr.pos,hr.one,hr.ln⟩
theorem Rs.ext {E E':Env} {m:Md} {vs:List V} {xs:List Value} {f:List Nat} (h:Rs E m vs xs f):Ext E E' f→Rs E' m vs xs f:=by
 induction h with
 | nil=>exact fun _=>.nil
 | lit _ ih=>exact fun x=>.lit (ih x)
 | agg _ _ ih1 ih2=>exact fun x=>.agg (ih1 (x.sub (by simp;exact fun b h=>.inl h))) (ih2 (x.sub (by simp;exact fun b h=>.inr h)))
 | tup _ _ ih1 ih2=>exact fun x=>.tup (ih1 (x.sub (by simp;exact fun b h=>.inl h))) (ih2 (x.sub (by simp;exact fun b h=>.inr h)))
 | fn _ _ _ ih1 ih2 ih3=>exact fun x=>.fn (ih1 (x.sub (by simp))) (ih2 (x.sub (by simp))) (ih3 x)
 | @ip m p row off blk DR ys vs xs f hF hN hm _ hr ho _ ih1 ih2 =>
  intro x
  have hb:E'.w.heap[blk]?=E.w.heap[blk]?:=by
   cases p with
   | true=>exact (x.F _ (hF rfl)).2
   | false=>exact (x.no _ (hN rfl)).2
  exact .ip (fun h=>(x.F _ (hF h)).1) (fun h=>(x.no _ (hN h)).1) hm (ih1 (x.sub (by simp))) (EE hb hr) ho (ih2 x)
 | isl0 hm hn _ ih=>exact fun x=>.isl0 hm hn (ih x)
 | @isl m p nn els blk off cap sz ys vs xs f hc hF hN hm hs _ hr ho _ ih1 ih2 =>
  intro x
  have hb:E'.w.heap[blk]?=E.w.heap[blk]?:=by
   cases p with
   | true=>exact (x.F _ (hF rfl)).2
   | false=>exact (x.no _ (hN rfl)).2
  exact .isl hc (fun h=>(x.F _ (hF h)).1) (fun h=>(x.no _ (hN h)).1) hm hs (ih1 (x.sub (by simp))) (EE hb hr) ho (ih2 x)
 | own0 hz _ ih=>exact fun x=>.own0 hz (ih x)
 | own hr hs _ _ ih1 ih2 =>
  intro x
  exact .own (hr.block (x.own _ (by simp))) hs (ih1 (x.sub (fun b h=>by simp [h]))) (ih2 (x.sub (fun b h=>by simp [h])))
 | sl ha _ ih =>
  intro x
  rcases x.al _ _ ha with h | ⟨h,u⟩
  ·exact .sl h (ih x)
  ·unfold OI.slice;split
   ·exact .slD h u (ih x)
   ·exact .slD h u (ih x)
 | slD ha hu _ ih=>exact fun x=>.slD (x.dd _ ha hu).1 (x.dd _ ha hu).2 (ih x)
 | ptr ha hb _ ih =>
  intro x
  rcases x.al _ _ ha with h | ⟨h,u⟩
  ·exact .ptr h hb (ih x)
  ·exact .ptrD h u (ih x)
 | ptrD ha hu _ ih=>exact fun x=>.ptrD (x.dd _ ha hu).1 (x.dd _ ha hu).2 (ih x)
 | asl ha hb _ ih =>
  intro x
  rcases x.al _ _ ha with h | ⟨h,u⟩
  ·exact .asl h hb (ih x)
  ·exact .aslD h u (ih x)
 | aslD ha hu _ ih=>exact fun x=>.aslD (x.dd _ ha hu).1 (x.dd _ ha hu).2 (ih x)
 | dead _ ih=>exact fun x=>.dead (ih x)
theorem Rs.mode {E:Env} {m:Md} {vs:List V} {xs:List Value} {f:List Nat} (h:Rs E m vs xs f):∀ {m':Md},(m=.P∨(m=.B∧m'≠.P)∨m=m')→Rs E m' vs xs f:=by
 induction h with
 | nil=>exact fun _=>.nil
 | lit _ ih=>exact fun x=>.lit (ih x)
 | agg _ _ ih1 ih2=>exact fun x=>.agg (ih1 x) (ih2 x)
 | tup _ _ ih1 ih2=>exact fun x=>.tup (ih1 x) (ih2 x)
 | fn _ _ _ ih1 ih2 ih3=>exact fun x=>.fn (ih1 x) (ih2 x) (ih3 x)
 | ip hF hN hm h1 hr ho _ _ ih2=>exact fun x=>.ip hF hN (fun e=>hm (by rcases x with x | ⟨_,x⟩ | x<;>simp_all)) h1 hr ho (ih2 x)
 | isl0 hm hn _ ih=>exact fun x=>.isl0 (fun e=>hm (by rcases x with x | ⟨_,x⟩ | x<;>simp_all)) hn (ih x)
 | isl hc hF hN hm hs h1 hr ho _ _ ih2=>exact fun x=>.isl hc hF hN (fun e=>hm (by rcases x with x | ⟨_,x⟩ | x<;>simp_all)) hs h1 hr ho (ih2 x)
 | own0 hz _ ih=>exact fun x=>.own0 hz (ih x)
 | own hr hs h1 _ _ ih2=>exact fun x=>.own hr hs h1 (ih2 x)
 | sl ha _ ih=>rintro m' (x | ⟨x,_⟩ | x)<;>first | cases x;exact .sl ha (ih (.inr (.inr rfl))) | cases x
 | slD ha hu _ ih=>rintro m' (x | ⟨x,_⟩ | x)<;>first | cases x;exact .slD ha hu (ih (.inr (.inr rfl))) | cases x
 | ptr ha hb _ ih=>rintro m' (x | ⟨x,_⟩ | x)<;>first | cases x;exact .ptr ha hb (ih (.inr (.inr rfl))) | cases x
 | ptrD ha hu _ ih=>rintro m' (x | ⟨x,_⟩ | x)<;>first | cases x;exact .ptrD ha hu (ih (.inr (.inr rfl))) | cases x
 | asl ha hb _ ih=>rintro m' (x | ⟨x,_⟩ | x)<;>first | cases x;exact .asl ha hb (ih (.inr (.inr rfl))) | cases x
 | aslD ha hu _ ih=>rintro m' (x | ⟨x,_⟩ | x)<;>first | cases x;exact .aslD ha hu (ih (.inr (.inr rfl))) | cases x
 | dead _ ih=>rintro m' (x | ⟨x,_⟩ | x)<;>first | cases x;exact .dead (ih (.inr (.inr rfl))) | cases x
theorem Rs.toO {E:Env} {m:Md} {vs xs f} (h:Rs E m vs xs f):Rs E .O vs xs f:=h.mode (by cases m<;>simp)
theorem Rs.length {E:Env} {m:Md} {vs xs f} (h:Rs E m vs xs f):xs.length=vs.length:=by
 induction h<;>simp_all
theorem Rs.append {E:Env} {m:Md} {vs xs f} (h:Rs E m vs xs f):∀ {us ys g},Rs E m us ys g→Rs E m (vs++us) (xs++ys) (f++g):=by
 induction h with
 | nil=>exact fun h=>h
 | lit _ ih=>exact fun h=>.lit (ih h)
 | agg h1 _ _ ih=>exact fun h=>by simpa using Rs.agg h1 (ih h)
 | tup h1 _ _ ih=>exact fun h=>by simpa using Rs.tup h1 (ih h)
 | fn h1 h2 _ _ _ ih=>exact fun h=>.fn h1 h2 (ih h)
 | ip hF hN hm h1 hr ho _ _ ih=>exact fun h=>.ip hF hN hm h1 hr ho (ih h)
 | isl0 hm hn _ ih=>exact fun h=>.isl0 hm hn (ih h)
 | isl hc hF hN hm hs h1 hr ho _ _ ih=>exact fun h=>.isl hc hF hN hm hs h1 hr ho (ih h)
 | own0 hz _ ih=>exact fun h=>.own0 hz (ih h)
 | own hr hs h1 _ _ ih=>exact fun h=>by simpa using Rs.own hr hs h1 (ih h)
 | sl ha _ ih=>exact fun h=>.sl ha (ih h)
 | slD ha hu _ ih=>exact fun h=>.slD ha hu (ih h)
 | ptr ha hb _ ih=>exact fun h=>.ptr ha hb (ih h)
 | ptrD ha hu _ ih=>exact fun h=>.ptrD ha hu (ih h)
 | asl ha hb _ ih=>exact fun h=>.asl ha hb (ih h)
 | aslD ha hu _ ih=>exact fun h=>.aslD ha hu (ih h)
 | dead _ ih=>exact fun h=>.dead (ih h)
abbrev R1 (E:Env) (m:Md) (v:V) (x:Value) (f:List Nat):Prop:=Rs E m [v] [x] f
theorem Rs.cons' {E:Env} {m:Md} {v vs x xs f g} (h:R1 E m v x f) (h':Rs E m vs xs g):Rs E m (v::vs) (x::xs) (f++g):=Rs.append h h'
theorem Rs.uncons {E:Env} {m:Md} {v vs ys f} (h:Rs E m (v::vs) ys f):∃ x xs f1 f2,ys=x::xs∧f=f1++f2∧R1 E m v x f1∧Rs E m vs xs f2:=by
 cases h with
 | lit h=>exact ⟨_,_,[],_,rfl,rfl,.lit .nil,h⟩
 | agg h1 h=>exact ⟨_,_,_,_,rfl,rfl,by simpa using Rs.agg h1 .nil,h⟩
 | tup h1 h=>exact ⟨_,_,_,_,rfl,rfl,by simpa using Rs.tup h1 .nil,h⟩
 | fn h1 h2 h=>exact ⟨_,_,[],_,rfl,rfl,.fn h1 h2 .nil,h⟩
 | ip hF hN hm h1 hr ho h=>exact ⟨_,_,[],_,rfl,rfl,.ip hF hN hm h1 hr ho .nil,h⟩
 | isl0 hm hn h=>exact ⟨_,_,[],_,rfl,rfl,.isl0 hm hn .nil,h⟩
 | isl hc hF hN hm hs h1 hr ho h=>exact ⟨_,_,[],_,rfl,rfl,.isl hc hF hN hm hs h1 hr ho .nil,h⟩
 | own0 hz h=>exact ⟨_,_,[],_,rfl,rfl,.own0 hz .nil,h⟩
 | @own _ sz els blk cap ys fi vs xs f hr hs h1 h=>exact ⟨_,_,blk::fi,f,rfl,by simp,by simpa using Rs.own hr hs h1 .nil,h⟩
 | sl ha h=>exact ⟨_,_,[],_,rfl,rfl,.sl ha .nil,h⟩
 | slD ha hu h=>exact ⟨_,_,[],_,rfl,rfl,.slD ha hu .nil,h⟩
 | ptr ha hb h=>exact ⟨_,_,[],_,rfl,rfl,.ptr ha hb .nil,h⟩
 | ptrD ha hu h=>exact ⟨_,_,[],_,rfl,rfl,.ptrD ha hu .nil,h⟩
 | asl ha hb h=>exact ⟨_,_,[],_,rfl,rfl,.asl ha hb .nil,h⟩
 | aslD ha hu h=>exact ⟨_,_,[],_,rfl,rfl,.aslD ha hu .nil,h⟩
 | dead h=>exact ⟨_,_,[],_,rfl,rfl,.dead .nil,h⟩
theorem Rs.unappend {E:Env} {m:Md}:∀ {vs us ys f},Rs E m (vs++us) ys f→∃ ys1 ys2 f1 f2,ys=ys1++ys2∧f=f1++f2∧Rs E m vs ys1 f1∧Rs E m us ys2 f2
 | [],us,ys,f,h=>⟨[],ys,[],f,rfl,rfl,.nil,h⟩
 | v::vs,us,ys,f,h=>by
  obtain ⟨x,xs,f1,f2,rfl,rfl,h1,h2⟩:=Rs.uncons h
  obtain ⟨ys1,ys2,g1,g2,rfl,rfl,h3,h4⟩:=Rs.unappend h2
  exact ⟨x::ys1,ys2,f1++g1,g2,rfl,by simp,h1.cons' h3,h4⟩
theorem Rs.nil_inv {E:Env} {m:Md} {ys f} (h:Rs E m [] ys f):ys=[]∧f=[]:=by cases h;exact ⟨rfl,rfl⟩
end Ve
namespace Ve
open Go
structure YR (P:Program) (L:Lay) (t:TypeId) (ti:TI):Prop where
 info:∃ i,P.info? t=some i∧i.size=ti.size∧i.bytes=ti.bytes∧∃ z,i.zero=some z∧∀ E,R1 E .P ti.zero z []
 pos:0<ti.size
 bpos:0<ti.bytes
 zlen:ti.zero.cells.length=ti.size
 one:ti.k.agg=false→ti.size=1
 zones:BA ti.zero.cells=true
 row:∃ d,P.underlying t=some d∧d.isRow=ti.k.agg
 str:∀ fs,ti.k=.struct fs→∃ fields,P.underlying t=some (.struct fields)∧fields.toList.mapM (fun f=>(P.info? f.type).map fun i=>(f.offset,i.size))=some fs ∧
  ∀ (j:Nat) (p:Nat × Nat),fs[j]?=some p→∃ f:Field,fields[j]?=some f∧f.offset=p.1∧(∃ i,P.info? f.type=some i∧i.size=p.2)∧p.2≠0
 arr:∀ n el,ti.k=.arr n el→P.underlying t=some (.array n el)
 fty:∀ fs,ti.k=.struct fs→∀ fields,P.underlying t=some (.struct fields)→∀ (j:Nat) (u:TypeId),ti.ft[j]?=some u→∃ f:Field,fields[j]?=some f∧f.type=u
 sl:∀ el,ti.k=.sl el→P.underlying t=some (.slice el)
 ik:∀ k,ti.ik=some k→P.underlying t=some (.int k)
 bool:ti.bool=true→P.underlying t=some .bool
 fl:∀ k b,ti.zero=.lit (.float k b)→P.underlying t=some (.float k)
 plain:ti.plain=true→∀ (xs ys:List Value) (r:Bool),Bz (xs.map V.lit) (ys.map V.lit)=some r→xs.length=ti.size→∀ (x y:Operand) (w:World),
  ((do eqGuard .eql t x y (.agg xs.toArray) (.agg ys.toArray);binOp .eql t (.agg xs.toArray) (.agg ys.toArray):Sem Value)).run P w=.ok (.bool r) w ∧
  ((do eqGuard .neq t x y (.agg xs.toArray) (.agg ys.toArray);binOp .neq t (.agg xs.toArray) (.agg ys.toArray):Sem Value)).run P w=.ok (.bool (!r)) w
def Ez (P:Program) (L:Lay):Prop:=∀ t ti,L t=some ti→YR P L t ti
def EK (E:Env) (fp:List Nat) (ob:Obj) (oi:OI):Prop :=
 oi.sz=ob.sz∧oi.len=ob.els.length∧0<ob.sz∧(∀ e∈ob.els,e.cells.length=ob.sz) ∧
 match oi.blk with
 | none=>ob.els=[]∧fp=[]
 | some b=>∃ ys fi,El E.w b ob.sz ob.els.length oi.cap ys∧Rs E (if ob.dirty then .O else .P) (AG ob.els) ys fi∧fp=b::fi
structure BE (E:Env) (hp:Hp):Prop where
 objs:∀ o ob,hp o=some ob→∃ oi,E.al o=some oi∧E.U o∧EK E (E.fps o) ob oi
 dead:∀ o,hp o=none→E.al o=none∧E.fps o=[]
 nodup:∀ o,(E.fps o).Nodup
 disj:∀ o o' b,b∈E.fps o→b∈E.fps o'→o=o'
 lt:∀ o b,b∈E.fps o→b<E.w.heap.size
 fno:∀ b,E.F b→E.NO b
structure Hx (E:Env) (tm:Nat→V) (a:Act):Prop where
 df:a.defers=[]
 tm:∀ t,R1 E .O (tm t) (a.tmps.getD t undef) []
theorem Hx.ext {E E':Env} {tm:Nat→V} {a:Act} (h:Hx E tm a) (x:Ext E E' []):Hx E' tm a:=⟨h.df,fun t=>(h.tm t).ext x⟩
theorem Hx.put {E:Env} {tm:Nat→V} {a:Act} (h:Hx E tm a) {d:Option Tmp} {v:V} {y:Value} (hd:∀ t,d=some t→t<a.tmps.size) (hv:R1 E .O v y []) :
  Hx E (HK tm d v) (a.put d y):=by
 cases d with
 | none=>exact h
 | some d =>
  refine ⟨h.df,fun t=>?_⟩
  have hlt:=hd d rfl
  simp only [HK,VJ,Act.put]
  by_cases e:t=d
  ·subst e
   have:Nat.beq t t=true:=Nat.beq_refl t
   simpa [this,Array.getElem?_setIfInBounds,hlt] using hv
  ·have hb:Nat.beq t d=false:=by
    cases hh:Nat.beq t d with
    | true=>exact absurd (Nat.eq_of_beq_eq_true hh) e
    | false=>rfl
   have:=h.tm t
   simp only [hb]
   have h2:(a.tmps.setIfInBounds d y).getD t undef=a.tmps.getD t undef:=by
    simp [Array.getElem?_setIfInBounds,Ne.symm e]
   rw [h2];exact this
theorem AV {E:Env} {tm:Nat→V} {a:Act} (h:Hx E tm a) (x:Operand):R1 E .O (eV tm x) (a.eval x) []:=by
 cases x with
 | tmp t=>exact h.tm t
 | const v=>exact .lit .nil
 | global g=>exact .dead .nil
 | func f=>exact .fn .nil .nil .nil
theorem DO {E:Env} {tm:Nat→V} {a:Act} (h:Hx E tm a):∀ xs:List Operand,Rs E .O (xs.map (eV tm)) (xs.map a.eval) []
 | []=>.nil
 | x::xs=>by simpa using (AV h x).cons' (DO h xs)
theorem BX {E:Env} {m:Md} {v:Value} {x:Value} {f} (h:R1 E m (.lit v) x f):x=v∧f=[]:=by cases h with | lit h=>exact ⟨rfl,h.nil_inv.2⟩
theorem GY {E:Env} {m:Md} {cs:List V} {x:Value} {f} (h:R1 E m (.agg cs) x f):∃ ys,x=.agg ys.toArray∧Rs E m cs ys f:=by
 cases h with | agg h1 h=>obtain ⟨_,rfl⟩:=h.nil_inv;exact ⟨_,rfl,by simpa using h1⟩
theorem NA {E:Env} {m:Md} {cs:List V} {x:Value} {f} (h:R1 E m (.tup cs) x f):∃ ys,x=.tuple ys.toArray∧Rs E m cs ys f:=by
 cases h with | tup h1 h=>obtain ⟨_,rfl⟩:=h.nil_inv;exact ⟨_,rfl,by simpa using h1⟩
theorem Sx {E:Env} {m:Md} {g:Fn} {a b:List V} {x:Value} {f} (h:R1 E m (.fn g a b) x f):∃ as bs,x=.func g as.toArray bs.toArray∧Rs E m a as []∧Rs E m b bs []∧f=[]:=by
 cases h with | fn h1 h2 h=>exact ⟨_,_,rfl,h1,h2,h.nil_inv.2⟩
theorem EH {E:Env} {m:Md}:∀ {l:List Value} {xs f},Rs E m (l.map V.lit) xs f→xs=l∧f=[]
 | [],xs,f,h=>h.nil_inv
 | v::l,xs,f,h=>by
  simp only [List.map_cons] at h
  cases h with
  | lit h=>obtain ⟨rfl,rfl⟩:=EH h;exact ⟨rfl,rfl⟩
theorem oZ {E:Env} {m:Md} {v:V} {x:Value} {f} {b:Bool} (h:R1 E m v x f) (hb:v.bool?=some b):v=.lit (.bool b)∧x=.bool b:=by
 cases v with
 | lit u=>cases u<;>simp [V.bool?] at hb;subst hb;exact ⟨rfl,(BX h).1⟩
 | _=>simp [V.bool?] at hb
theorem LF {E:Env} {m:Md} {v:V} {x:Value} {f} {n:Int} (h:R1 E m v x f) (hb:v.int?=some n):∃ k,v=.lit (.int k n)∧x=.int k n:=by
 cases v with
 | lit u=>cases u<;>simp [V.int?] at hb;subst hb;exact ⟨_,rfl,(BX h).1⟩
 | _=>simp [V.int?] at hb
theorem KH {α:Type} {s:Sem α} {v:α} (h:Jk s=some v) (P:Program) (w:World):s.run P w=.ok v w:=by
 cases s<;>simp [Jk] at h;subst h;rfl
theorem YA {a b:V} {r:Bool} (h:Pk a b=some r):∃ x y,a=.lit x∧b=.lit y:=by
 unfold Pk at h
 split at h
 ·exact ⟨_,_,rfl,rfl⟩
 ·cases h
theorem IB:∀ (a b:List V) (r:Bool),Bz a b=some r→∃ xs ys:List Value,a=xs.map V.lit∧b=ys.map V.lit
 | [],[],r,_=>⟨[],[],rfl,rfl⟩
 | v::a,u::b,r,h=>by
  simp only [Bz] at h
  split at h
  ·rename_i x y hx hy
   obtain ⟨x',y',rfl,rfl⟩:=YA hx
   obtain ⟨xs,ys,rfl,rfl⟩:=IB a b y hy
   exact ⟨x'::xs,y'::ys,rfl,rfl⟩
  ·cases h
 | [],_::_,_,h=>by simp [Bz] at h
 | _::_,[],_,h=>by simp [Bz] at h
end Ve
namespace Ve
open Go
theorem V.cells_of_not_agg {v:V} (h:∀ cs,v≠.agg cs):v.cells=[v]:=by cases v<;>simp [V.cells] at *
theorem QK {P:Program} {L:Lay} {t:TypeId} {ti:TI} (h:YR P L t ti) (w:World):(isAgg t).run P w=.ok ti.k.agg w:=by
 obtain ⟨d,hd,hr⟩:=h.row
 unfold isAgg
 rw [Sem.run_bind,run_underlying hd w]
 rw [← hr]
 cases d<;>rfl
theorem Dy {P:Program} {L:Lay} {t:TypeId} {ti:TI} (h:YR P L t ti) (w:World):(Go.sizeOf t).run P w=.ok ti.size w:=by
 obtain ⟨i,hi,hs,_⟩:=h.info
 simp [Go.sizeOf,typeInfo,hi,hs]
theorem Rs.drop {E:Env} {m:Md} {vs xs} (h:Rs E m vs xs []) (n:Nat):Rs E m (vs.drop n) (xs.drop n) []:=by
 induction n generalizing vs xs with
 | zero=>simpa using h
 | succ n ih =>
  cases vs with
  | nil=>obtain ⟨rfl,_⟩:=h.nil_inv;exact .nil
  | cons v vs =>
   obtain ⟨x,xs,f1,f2,rfl,hf,h1,h2⟩:=h.uncons
   obtain ⟨rfl,rfl⟩:=List.append_eq_nil_iff.1 hf.symm
   simpa using ih h2
theorem Rs.take {E:Env} {m:Md} {vs xs} (h:Rs E m vs xs []) (n:Nat):Rs E m (vs.take n) (xs.take n) []:=by
 induction n generalizing vs xs with
 | zero=>simpa using Rs.nil
 | succ n ih =>
  cases vs with
  | nil=>obtain ⟨rfl,_⟩:=h.nil_inv;exact .nil
  | cons v vs =>
   obtain ⟨x,xs,f1,f2,rfl,hf,h1,h2⟩:=h.uncons
   obtain ⟨rfl,rfl⟩:=List.append_eq_nil_iff.1 hf.symm
   simpa using h1.cons' (ih h2)
theorem Rs.get {E:Env} {m:Md} {vs xs f} (h:Rs E m vs xs f):∀ {i:Nat} {v:V},vs[i]?=some v→∃ x g,xs[i]?=some x∧R1 E m v x g∧∀ b∈g,b∈f:=by
 intro i v hv
 induction vs generalizing i xs f with
 | nil=>simp at hv
 | cons u vs ih =>
  obtain ⟨x,xs,f1,f2,rfl,rfl,h1,h2⟩:=h.uncons
  cases i with
  | zero=>simp at hv;subst hv;exact ⟨x,f1,rfl,h1,fun b hb=>by simp [hb]⟩
  | succ i =>
   obtain ⟨y,g,hy,hr,hg⟩:=ih h2 (by simpa using hv)
   exact ⟨y,g,by simpa using hy,hr,fun b hb=>by simp [hg b hb]⟩
theorem Rs.get_nil {E:Env} {m:Md} {vs xs} (h:Rs E m vs xs []) {i:Nat} {v:V} (hv:vs[i]?=some v):∃ x,xs[i]?=some x∧R1 E m v x []:=by
 obtain ⟨x,g,hx,hr,hg⟩:=h.get hv
 cases g with
 | nil=>exact ⟨x,hx,hr⟩
 | cons b g=>exact absurd (hg b (by simp)) (by simp)
theorem TQ {P:Program} {L:Lay} {t:TypeId} {ti:TI} (h:YR P L t ti) {E:Env} {m:Md} {cs:List V} {ys:List Value} (hr:Rs E m cs ys []) {off:Nat} {v:V}
  (hv:FC ti.k.agg off ti.size cs=some v) (w:World):∃ y,(part t ys.toArray off).run P w=.ok y w∧R1 E m v y []:=by
 unfold FC at hv
 split at hv
 ·rename_i hle
  simp at hv
  unfold part
  rw [Sem.run_bind,QK h]
  have hd:=hr.drop off
  cases ha:ti.k.agg with
  | true =>
   simp only [ha,if_true] at hv
   subst hv
   refine ⟨.agg (ys.toArray.extract off (off+ti.size)),by simp [Dy h],?_⟩
   have ht:=hd.take ti.size
   have he:ys.toArray.extract off (off+ti.size)=((ys.drop off).take ti.size).toArray:=by
    apply Array.toList_inj.1;simp
   rw [he]
   simpa using Rs.agg ht .nil
  | false =>
   simp only [ha] at hv
   subst hv
   have h1:=h.one ha
   have hlt:off<cs.length:=by omega
   obtain ⟨y,hy,hry⟩:=hr.get_nil (i:=off) (v:=cs[off]) (by simp [hlt])
   refine ⟨y,by simp [hy],?_⟩
   simpa [hlt] using hry
 ·cases hv
theorem UH {P:Program} {L:Lay} {s:TypeId} {f off sz:Nat} (hL:Ez P L) (hf:Fs L s f=some (off,sz)) (b o:Nat) (w:World) :
  (Instr.fieldAt s (.pointer (some ⟨b,o,none⟩)) f).run P w=.ok (.pointer (some ⟨b,o+off,none⟩)) w:=by
 unfold Fs at hf
 split at hf
 ·rename_i hti
  obtain ⟨fields,hu,hl,hj⟩:=(hL _ _ hti).str _ rfl
  obtain ⟨fd,hfd,hoff,⟨i,hi,hs⟩,hne⟩:=hj f (off,sz) hf
  have hs':¬ (i.size=0):=by rw [hs];exact hne
  simp [Instr.fieldAt,run_underlying hu,hfd,Instr.sureAddr,fieldPlace,Go.sizeOf,typeInfo,hi,hs',Addr.add_mid,hoff]
 ·cases hf
def Pop (P:Program) (E:Env) (a:Act) (o:Oper) (v:V):Prop:=∃ y,(execOp a.eval o).run P E.w=.ok (.value y) E.w∧R1 E .O v y []
section
variable {P:Program} {L:Lay} {E:Env} {tm:Nat→V} {a:Act} {o:Oper} (hL:Ez P L) (hT:Hx E tm a)
include hT
theorem TJ {x:Operand} (ho:o.op=.move x∨o.op=.assign x):Pop P E a o (eV tm x) :=
 ⟨a.eval x,by rcases ho with ho | ho<;>simp [execOp,ho],AV hT x⟩
theorem iI {c x y:Operand} (ho:o.op=.pick c x y) {v:V} (hv:Ov (eV tm c) (eV tm x) (eV tm y)=some v):Pop P E a o v:=by
 unfold Ov at hv
 split at hv
 ·rename_i t ht
  obtain ⟨_,hc⟩:=oZ (AV hT c) ht
  simp at hv;subst hv
  refine ⟨if t then a.eval x else a.eval y,by cases t<;>simp [execOp,ho,hc,asBool],?_⟩
  cases t
  ·exact AV hT y
  ·exact AV hT x
 ·cases hv
theorem Sb {f:Fn} {x y:Array Operand} (ho:o.op=.makeFunc f x y):Pop P E a o (.fn f (x.toList.map (eV tm)) (y.toList.map (eV tm))):=by
 refine ⟨.func f (x.map a.eval) (y.map a.eval),by simp [execOp,ho,Instr.makeFunc],?_⟩
 have h1:=DO hT x.toList
 have h2:=DO hT y.toList
 have e1:x.map a.eval=(x.toList.map a.eval).toArray:=by apply Array.toList_inj.1;simp
 have e2:y.map a.eval=(y.toList.map a.eval).toArray:=by apply Array.toList_inj.1;simp
 rw [e1,e2]
 exact .fn h1 h2 .nil
theorem TK {x:Operand} {i:Nat} (ho:o.op=.extract x i) {v:V} (hv:HX (eV tm x) i=some v):Pop P E a o v:=by
 have hx:=AV hT x
 unfold HX at hv
 split at hv
 ·rename_i vs hvs
  rw [hvs] at hx
  obtain ⟨ys,he,hr⟩:=NA hx
  obtain ⟨y,hy,hr1⟩:=hr.get_nil hv
  exact ⟨y,by simp [execOp,ho,he,Instr.extract,hy],hr1⟩
 ·cases hv
theorem Sa {x:Operand} (ho:o.op=.nilCheck x) {v:V} (hv:Hn (eV tm x)=some v):Pop P E a o v:=by
 have hx:=AV hT x
 have key:∀ ad,a.eval x=.pointer (some ad)→Pop P E a o (eV tm x):=fun ad h=>⟨.pointer (some ad),by simp [execOp,ho,h],h▸hx⟩
 unfold Hn at hv
 generalize hx':a.eval x=y at hx
 split at hv
 ·rename_i hvs
  simp at hv;subst hv
  rw [hvs] at hx
  cases hx with
  | ptr=>rw [← hvs];exact key _ hx'
  | ptrD=>rw [← hvs];exact key _ hx'
 ·rename_i hvs
  simp at hv;subst hv
  rw [hvs] at hx
  cases hx with
  | ip=>rw [← hvs];exact key _ hx'
 ·cases hv
include hL in
theorem HL {s:TypeId} {x:Operand} {f off sz:Nat} (ho:o.op=.fieldAddr s x f) (hf:Fs L s f=some (off,sz)) {b k:Nat} (hx:a.eval x=.pointer (some ⟨b,k,none⟩)) (w:World) :
  (execOp a.eval o).run P w=.ok (.value (.pointer (some ⟨b,k+off,none⟩))) w:=by
 simp [execOp,ho,hx,UH hL hf]
include hL in
theorem PO {s:TypeId} {x:Operand} {f:Nat} (ho:o.op=.fieldAddr s x f) {v:V} (hv:FY L s (eV tm x) f=some v):Pop P E a o v:=by
 have hx:=AV hT x
 unfold FY at hv
 split at hv
 ·rename_i off sz hf
  generalize hx':a.eval x=y at hx
  split at hv
  ·rename_i hvs
   simp at hv;subst hv
   rw [hvs] at hx
   cases hx with
   | ptr h1 h2 h3 =>
    refine ⟨_,HL hL hT ho hf hx' _,?_⟩
    rw [Nat.add_assoc]
    exact Rs.ptr h1 h2 Rs.nil
   | ptrD h1 h2 h3=>exact ⟨_,HL hL hT ho hf hx' _,.ptrD h1 h2 .nil⟩
  ·rename_i hvs
   simp at hv;subst hv
   rw [hvs] at hx
   cases hx with
   | ip hF hN hm h1 hr hone h =>
    refine ⟨_,HL hL hT ho hf hx' _,?_⟩
    rw [Nat.add_assoc]
    exact Rs.ip hF hN hm h1 hr hone Rs.nil
  ·cases hv
 ·cases hv
theorem iG {op:UnOp} {t:TypeId} {x:Operand} (ho:o.op=.unOp op t x) {v:V} (hv:cL op (eV tm x)=some v):Pop P E a o v:=by
 have hx:=AV hT x
 unfold cL at hv
 split at hv
 ·rename_i u hvs
  rw [hvs] at hx
  obtain ⟨he,_⟩:=BX hx
  cases hp:Jk (Op.unary op u) with
  | none=>simp [hp] at hv
  | some y =>
   simp [hp] at hv;subst hv
   exact ⟨y,by simp [execOp,ho,he,KH hp],.lit .nil⟩
 ·cases hv
include hL in
theorem TL {s d:TypeId} {x:Operand} (ho:o.op=.convert s d x) {v:V} (hv:Cq L s d (eV tm x)=some v):Pop P E a o v:=by
 have hx:=AV hT x
 unfold Cq at hv
 split at hv
 ·rename_i hs hd hvs
  simp at hv;subst hv
  rw [hvs] at hx
  obtain ⟨he,_⟩:=BX hx
  have h1:=(hL _ _ hs).ik _ rfl
  have h2:=(hL _ _ hd).ik _ rfl
  exact ⟨_,by simp [execOp,ho,he,convert,run_underlying h1,run_underlying h2,Conv.intToInt],.lit .nil⟩
 ·rename_i hs hd hvs
  simp at hv;subst hv
  rw [hvs] at hx
  obtain ⟨he,_⟩:=BX hx
  have h1:=(hL _ _ hs).ik _ rfl
  have h2:=(hL _ _ hd).fl _ _ rfl
  exact ⟨_,by simp [execOp,ho,he,convert,run_underlying h1,run_underlying h2,Conv.intToFloat],.lit .nil⟩
 ·rename_i hs hd hvs
  rw [hvs] at hx
  obtain ⟨he,_⟩:=BX hx
  have h1:=(hL _ _ hs).fl _ _ rfl
  have h2:=(hL _ _ hd).ik _ rfl
  split at hv
  ·rename_i n hn
   split at hv
   ·rename_i hc
    simp at hv;subst hv
    exact ⟨_,by simp [execOp,ho,he,convert,run_underlying h1,run_underlying h2,Conv.floatToInt,hn,hc],.lit .nil⟩
   ·cases hv
  ·cases hv
 ·cases hv
theorem UK (op:BinOp) (t:TypeId) (x y:Operand) (k k':IntKind) (m n:Int) (w:World):(eqGuard op t x y (.int k m) (.int k' n)).run P w=.ok () w:=by
 cases op<;>rfl
theorem LQ (op:BinOp) (t:TypeId) (x y:Operand) (m n:Bool) (w:World):(eqGuard op t x y (.bool m) (.bool n)).run P w=.ok () w:=by
 cases op<;>rfl
theorem Pb (op:BinOp) (t:TypeId) (x y:Operand) (m n:ByteArray) (w:World):(eqGuard op t x y (.string m) (.string n)).run P w=.ok () w:=by
 cases op<;>rfl
omit hT in
theorem SW (op:BinOp) (t:TypeId) (p q:ByteArray):binOp op t (.string p) (.string q)=Op.stringOp op p q:=by cases op<;>rfl
omit hT in
theorem Jg {t:TypeId} (hu:P.underlying t=some .bool) (p q:Bool) (w:World):(Op.equal t (.bool p) (.bool q)).run P w=.ok (p == q) w:=by
 have h:Op.equal t (.bool p) (.bool q)=Op.equalIn (9999+1) t (.bool p) (.bool q):=rfl
 rw [h]
 unfold Op.equalIn
 rw [Sem.run_bind,run_underlying hu]
 rfl
include hL in
theorem cD {op:BinOp} {t u:TypeId} {x y:Operand} (ho:o.op=.binOp op t x y u) {v:V} (hv:BO L op t (eV tm x) (eV tm y)=some v):Pop P E a o v:=by
 have hx:=AV hT x
 have hy:=AV hT y
 unfold BO at hv
 split at hv
 ·rename_i h1 h2
  rw [h1] at hx;rw [h2] at hy
  obtain ⟨hx',_⟩:=BX hx
  obtain ⟨hy',_⟩:=BX hy
  rw [Option.map_eq_some_iff] at hv
  obtain ⟨z,hz,rfl⟩:=hv
  exact ⟨z,by simp [execOp,ho,hx',hy',UK hT,KH hz],.lit .nil⟩
 ·rename_i h1 h2
  rw [h1] at hx;rw [h2] at hy
  obtain ⟨hx',_⟩:=BX hx
  obtain ⟨hy',_⟩:=BX hy
  split at hv
  ·rename_i ti hti
   split at hv
   ·rename_i hb
    have hu:=(hL _ _ hti).bool hb
    split at hv
    ·rename_i p q _ _ _ _
     simp at hv;subst hv
     have hb:binOp .eql t (.bool p) (.bool q)=(do pure (.bool (← Op.equal t (.bool p) (.bool q)))):=rfl
     refine ⟨.bool (p == q),?_,.lit .nil⟩
     simp only [execOp,ho,hx',hy',Sem.run_bind,LQ hT,Result.andThen_ok,hb,Jg hu]
     rfl
    ·rename_i p q _ _ _ _
     simp at hv;subst hv
     have hb:binOp .neq t (.bool p) (.bool q)=(do pure (.bool (!(← Op.equal t (.bool p) (.bool q))))):=rfl
     refine ⟨.bool (!(p == q)),?_,.lit .nil⟩
     simp only [execOp,ho,hx',hy',Sem.run_bind,LQ hT,Result.andThen_ok,hb,Jg hu]
     rfl
    ·cases hv
   ·cases hv
  ·cases hv
 ·rename_i h1 h2
  rw [h1] at hx;rw [h2] at hy
  obtain ⟨hx',_⟩:=BX hx
  obtain ⟨hy',_⟩:=BX hy
  rw [Option.map_eq_some_iff] at hv
  obtain ⟨z,hz,rfl⟩:=hv
  refine ⟨z,?_,.lit .nil⟩
  simp only [execOp,ho,hx',hy',Sem.run_bind,Pb hT,Result.andThen_ok,SW,KH hz]
  rfl
 ·rename_i h1 h2
  rw [h1] at hx;rw [h2] at hy
  obtain ⟨xs',hx',hxr⟩:=GY hx
  obtain ⟨ys',hy',hyr⟩:=GY hy
  split at hv
  ·rename_i ti hti
   split at hv
   ·rename_i hb
    simp at hb
    split at hv
    ·rw [Option.map_eq_some_iff] at hv
     obtain ⟨r,hr,rfl⟩:=hv
     obtain ⟨xs,ys,rfl,rfl⟩:=IB _ _ r hr
     obtain ⟨rfl,_⟩:=EH hxr
     obtain ⟨rfl,_⟩:=EH hyr
     have:=((hL _ _ hti).plain hb.1 _ _ r hr (by simpa using hb.2) x y E.w).1
     exact ⟨_,by simp only [execOp,ho,hx',hy',Sem.run_bind] at this ⊢;rw [this];rfl,.lit .nil⟩
    ·rw [Option.map_eq_some_iff] at hv
     obtain ⟨r,hr,rfl⟩:=hv
     obtain ⟨xs,ys,rfl,rfl⟩:=IB _ _ r hr
     obtain ⟨rfl,_⟩:=EH hxr
     obtain ⟨rfl,_⟩:=EH hyr
     have:=((hL _ _ hti).plain hb.1 _ _ r hr (by simpa using hb.2) x y E.w).2
     exact ⟨_,by simp only [execOp,ho,hx',hy',Sem.run_bind] at this ⊢;rw [this];rfl,.lit .nil⟩
    ·cases hv
   ·cases hv
  ·cases hv
 ·cases hv
theorem Oq {b:Builtin} {xs:Array Operand} {ts:Array TypeId} (ho:o.op=.call { callee:=.builtin b,args:=xs,argTypes:=ts }) {v:V}
  (hv:(b=.min∧OE (xs.toList.map (eV tm))=some v)∨(b=.max∧OG (xs.toList.map (eV tm))=some v)):Pop P E a o v:=by
 have hx:=DO hT xs.toList
 have he:xs.map a.eval=(xs.toList.map a.eval).toArray:=by apply Array.toList_inj.1;simp
 rcases hv with ⟨rfl,hv⟩ | ⟨rfl,hv⟩
 ·unfold OE at hv
  split at hv
  ·rename_i k p k' q hxs
   simp at hv;subst hv
   rw [hxs] at hx
   obtain ⟨e2,_⟩:=EH (l:=[.int k p,.int k' q]) hx
   refine ⟨_,?_,.lit .nil⟩
   simp [execOp,ho,resolve,invoke,builtin,he,e2,Builtin.min_,Builtin.min2]
  ·cases hv
 ·unfold OG at hv
  split at hv
  ·rename_i k p k' q hxs
   simp at hv;subst hv
   rw [hxs] at hx
   obtain ⟨e2,_⟩:=EH (l:=[.int k p,.int k' q]) hx
   refine ⟨_,?_,.lit .nil⟩
   simp [execOp,ho,resolve,invoke,builtin,he,e2,Builtin.max_,Builtin.max2]
  ·cases hv
omit hT in
theorem Yy (ts:Array TypeId) (t:TypeId) (k:FloatKind) (p q:Nat):Builtin.complex_ ts t #[.float k p,.float k q]=pure (.complex k p q):=by
 have:Builtin.complex_ ts t #[.float k p,.float k q]=if k=k then pure (.complex k p q) else stuck "complex: parts of different kinds":=rfl
 rw [this,if_pos rfl]
omit hT in
theorem rI (ts:Array TypeId) (t:TypeId) (k:FloatKind) (p q:Nat):Builtin.real_ ts t #[.complex k p q]=pure (.float k p):=rfl
omit hT in
theorem uF (ts:Array TypeId) (t:TypeId) (k:FloatKind) (p q:Nat):Builtin.imag_ ts t #[.complex k p q]=pure (.float k q):=rfl
theorem TM {xs:Array Operand} {ts:Array TypeId} (ho:o.op=.call { callee:=.builtin .complex,args:=xs,argTypes:=ts }) {v:V} (hv:JE (xs.toList.map (eV tm))=some v):Pop P E a o v:=by
 have hx:=DO hT xs.toList
 have he:xs.map a.eval=(xs.toList.map a.eval).toArray:=by apply Array.toList_inj.1;simp
 unfold JE at hv
 split at hv
 ·rename_i k p k' q hxs
  split at hv
  ·rename_i hk
   subst hk
   simp at hv;subst hv
   rw [hxs] at hx
   obtain ⟨e2,_⟩:=EH (l:=[.float k p,.float k q]) hx
   refine ⟨_,?_,.lit .nil⟩
   simp [execOp,ho,resolve,invoke,builtin,he,e2,Yy]
  ·cases hv
 ·cases hv
theorem iH {xs:Array Operand} {ts:Array TypeId} (ho:o.op=.call { callee:=.builtin .real,args:=xs,argTypes:=ts }) {v:V} (hv:TE (xs.toList.map (eV tm))=some v):Pop P E a o v:=by
 have hx:=DO hT xs.toList
 have he:xs.map a.eval=(xs.toList.map a.eval).toArray:=by apply Array.toList_inj.1;simp
 unfold TE at hv
 split at hv
 ·rename_i k p q hxs
  simp at hv;subst hv
  rw [hxs] at hx
  obtain ⟨e2,_⟩:=EH (l:=[.complex k p q]) hx
  refine ⟨_,?_,.lit .nil⟩
  simp [execOp,ho,resolve,invoke,builtin,he,e2,rI]
 ·cases hv
theorem iJ {xs:Array Operand} {ts:Array TypeId} (ho:o.op=.call { callee:=.builtin .imag,args:=xs,argTypes:=ts }) {v:V} (hv:Us (xs.toList.map (eV tm))=some v):Pop P E a o v:=by
 have hx:=DO hT xs.toList
 have he:xs.map a.eval=(xs.toList.map a.eval).toArray:=by apply Array.toList_inj.1;simp
 unfold Us at hv
 split at hv
 ·rename_i k p q hxs
  simp at hv;subst hv
  rw [hxs] at hx
  obtain ⟨e2,_⟩:=EH (l:=[.complex k p q]) hx
  refine ⟨_,?_,.lit .nil⟩
  simp [execOp,ho,resolve,invoke,builtin,he,e2,uF]
 ·cases hv
omit hT in
theorem QO (off:Nat):∀ (xs:List Value) (j0:Nat) (cells:Array Value),off+j0+xs.length≤cells.size →
  ((xs.zipIdx j0).foldl (fun (cs:Array Value) (p:Value × Nat)=>cs.setIfInBounds (off+p.2) p.1) cells).toList=cells.toList.take (off+j0)++xs++cells.toList.drop (off+j0+xs.length)
 | [],j0,cells,h=>by simp
 | x::xs,j0,cells,h=>by
  simp only [List.zipIdx_cons,List.foldl_cons]
  rw [QO off xs (j0+1) _ (by simp only [List.length_cons] at h;simp;omega)]
  simp only [List.length_cons] at h
  have hlt:off+j0<cells.toList.length:=by simp;omega
  simp only [Array.toList_setIfInBounds,List.length_cons]
  rw [List.take_set,List.drop_set_of_lt (by omega)]
  have h1:(cells.toList.take (off+(j0+1))).set (off+j0) x=cells.toList.take (off+j0)++[x]:=by
   rw [show off+(j0+1)=off+j0+1 from by omega,List.take_succ_eq_append_getElem hlt,List.set_append_right _ _ (by simp;omega)]
   have:off+j0 - (List.take (off+j0) cells.toList).length=0:=by simp;omega
   rw [this];rfl
  rw [h1,show off+(j0+1)+xs.length=off+j0+(xs.length+1) from by omega]
  simp
omit hT in
theorem Rs.fillCells {m:Md} {cells xs:List V} {ys zs:List Value} (h:Rs E m cells ys []) (hx:Rs E m xs zs []) (off:Nat) :
  Rs E m (fillCells cells off xs) (ys.take off++zs++ys.drop (off+zs.length)) []:=by
 unfold Ve.fillCells
 have h1:=(h.take off).append hx
 have h2:=h1.append (h.drop (off+xs.length))
 rw [hx.length]
 simpa using h2
omit hT in
theorem Zp {m:Md} {v:V} {x:Value} {f} (h:R1 E m v x f) (h1:v.one=true):x.oneCell'=true:=by
 cases v with
 | lit u=>obtain ⟨rfl,_⟩:=BX h;cases x<;>simp_all [V.one,Value.oneCell']
 | fn g as bs=>obtain ⟨as,bs,rfl,_⟩:=Sx h;rfl
 | ptr o i off=>cases h<;>rfl
 | ip=>cases h;rfl
 | sl o=>cases h with
  | sl=>unfold OI.slice;split<;>rfl
  | slD=>rfl
 | asl=>cases h<;>rfl
 | isl=>cases h<;>rfl
 | own=>cases h<;>rfl
 | agg=>simp [V.one] at h1
 | tup=>simp [V.one] at h1
 | dead=>simp [V.one] at h1
omit hT in
theorem Ga {m:Md}:∀ {vs:List V} {xs:List Value} {f},Rs E m vs xs f→BA vs=true→ED xs
 | [],xs,f,h,_=>by obtain ⟨rfl,_⟩:=h.nil_inv;intro y hy;simp at hy
 | v::vs,xs,f,h,h1=>by
  obtain ⟨x,xs,f1,f2,rfl,rfl,ha,hb⟩:=h.uncons
  simp [BA] at h1
  intro y hy
  rcases List.mem_cons.1 hy with rfl | hy
  ·exact Zp ha h1.1
  ·exact Ga hb h1.2 y hy
omit hT in
theorem Ii {m:Md} {v:V} {x:Value} {f} (h:R1 E m v x f) (h1:BA v.cells=true):Rs E m v.cells x.cells.toList f:=by
 by_cases hv:∃ cs,v=.agg cs
 ·obtain ⟨cs,rfl⟩:=hv
  obtain ⟨ys,he,hr⟩:=GY h
  subst he;simpa [V.cells,Value.cells] using hr
 ·have hv':∀ cs,v≠.agg cs:=fun cs e=>hv ⟨cs,e⟩
  rw [V.cells_of_not_agg hv'] at h1 ⊢
  have ho:=Zp h (by simpa [BA] using h1)
  have hx:x.cells=#[x]:=by cases x<;>simp [Value.cells,Value.oneCell'] at *
  rw [hx];simpa using h
omit hT in
theorem LO {m:Md} (AH:Nat→Option (Nat × Nat)):∀ {ps:List (Nat × V)} {qs:List (Nat × Value)} {cells:List V} {arr:Array Value} {out:List V},
  ps.map (·.1)=qs.map (·.1)→Rs E m (ps.map (·.2)) (qs.map (·.2)) []→Rs E m cells arr.toList []→Dp AH cells ps=some out →
  ∃ arr',Instr.fill AH arr qs=some arr'∧Rs E m out arr'.toList []
 | [],qs,cells,arr,out,hk,hp,hc,h=>by
  have:qs=[]:=by cases qs<;>simp at hk;rfl
  subst this
  simp [Dp] at h;subst h
  exact ⟨arr,rfl,hc⟩
 | (i,v)::ps,[],cells,arr,out,hk,_,_,_=>by simp at hk
 | (i,v)::ps,(j,x)::qs,cells,arr,out,hk,hp,hc,h=>by
  simp only [List.map_cons,List.cons.injEq] at hk
  obtain ⟨rfl,hk⟩:=hk
  obtain ⟨x',xs',f1,f2,he,hf,h1,h2⟩:=Rs.uncons hp
  obtain ⟨rfl,rfl⟩:=List.append_eq_nil_iff.1 hf.symm
  simp only [List.map_cons,List.cons.injEq] at he
  obtain ⟨rfl,rfl⟩:=he
  unfold Dp at h
  cases hpl:AH i with
  | none=>simp [hpl] at h
  | some p =>
   obtain ⟨off,size⟩:=p
   simp only [hpl] at h
   split at h
   ·rename_i hcond
    obtain ⟨hlen,hle,hone⟩:=hcond
    have hcr:=Ii h1 hone
    have hxl:x.cells.size=size:=by have:=hcr.length;simp at this;omega
    have hal:arr.size=cells.length:=by have:=hc.length;simpa using this
    unfold Instr.fill
    simp only [hpl]
    rw [if_neg (by simp [hxl];omega)]
    have hset:=QO off x.cells.toList 0 arr (by simp;omega)
    have hfill:=hc.fillCells hcr off
    refine LO AH hk h2 ?_ h
    have e1:(x.cells.zipIdx.foldl (fun cs (c,j)=>cs.setIfInBounds (off+j) c) arr)=((x.cells.toList.zipIdx 0).foldl (fun (cs:Array Value) (p:Value × Nat)=>cs.setIfInBounds (off+p.2) p.1) arr):=by
     rw [← Array.foldl_toList];simp
    rw [e1,hset]
    simpa using hfill
   ·cases h
omit hT in
theorem NT {t:TypeId} {ti:TI} (h:YR P L t ti) (w:World):∃ i z,P.info? t=some i∧i.size=ti.size∧i.zero=some z∧(zeroValue t).run P w=.ok z w∧∀ E,R1 E .P ti.zero z []:=by
 obtain ⟨i,hi,hs,_,z,hz,hr⟩:=h.info
 exact ⟨i,z,hi,hs,hz,by simp [zeroValue,typeInfo,hi,hz],hr⟩
omit hT in
theorem zones {t:TypeId} {ti:TI} (h:YR P L t ti) (h1:BA ti.zero.cells=true) (E:Env):∃ i z,P.info? t=some i∧i.size=ti.size∧i.zero=some z∧Rs E .P ti.zero.cells z.cells.toList []∧ED z.cells.toList:=by
 obtain ⟨i,z,hi,hs,hz,_,hr⟩:=NT h E.w
 exact ⟨i,z,hi,hs,hz,Ii (hr E) h1,Ga (Ii (hr E) h1) h1⟩
omit hT in
theorem FL {P:Program} {L:Lay} (hL:Ez P L) {E:Env} {m:Md} {t:TypeId} {v:V} {x:Value} {f} (h:R1 E m v x f):R1 E m (Bx L t v) x f:=by
 unfold Bx
 split
 ·rename_i hn
  split
  ·split
   ·rename_i e hel
    have hv:v=.lit (.slice none 0 0):=by unfold V.isNil at hn;split at hn<;>simp_all
    subst hv
    obtain ⟨rfl,rfl⟩:=BX h
    exact .own0 (hL _ _ hel).pos .nil
   ·exact h
  ·exact h
 ·exact h
include hL in
theorem bY {t:TypeId} {parts:Array (Nat × Operand)} (ho:o.op=.build t parts) {v:V} (hv:Lp L t (parts.toList.map fun p=>(p.1,eV tm p.2))=some v):Pop P E a o v:=by
 unfold Lp at hv
 cases hti:L t with
 | none=>simp [hti] at hv
 | some ti =>
  have hok:=hL _ _ hti
  simp only [hti] at hv
  have hev:Rs E .O ((parts.toList.map fun p=>(p.1,eV tm p.2)).map (·.2)) ((parts.map fun (i,x)=>(i,a.eval x)).toList.map (·.2)) []:=by
   have:=DO hT (parts.toList.map (·.2))
   simpa [List.map_map,Function.comp_def] using this
  have hk:(parts.toList.map fun p=>(p.1,eV tm p.2)).map (·.1)=(parts.map fun (i,x)=>(i,a.eval x)).toList.map (·.1):=by simp [List.map_map,Function.comp_def]
  have fin:∀ (cells:Array Value) (out:List V),P.built t (parts.map fun (i,x)=>(i,a.eval x)).toList=some cells→Rs E .O out cells.toList []→Pop P E a o (.agg out):=by
   intro cells out hb hr
   refine ⟨.agg cells,by simp [execOp,ho,run_build E.w t _ cells hb],?_⟩
   simpa using Rs.agg hr .nil
  split at hv
  ·rename_i fs hfs
   rw [Option.map_eq_some_iff] at hv
   obtain ⟨out,hout,rfl⟩:=hv
   obtain ⟨fields,hu,hpl,_⟩:=hok.str fs hfs
   have h1:=hok.zones
   ·obtain ⟨i,z,hi,hs,hz,hzr,_⟩:=zones hok h1 E
    obtain ⟨arr',hf,hr⟩:=LO (fun i=>fs[i]?) hk hev hzr.toO hout
    refine fin arr' out ?_ hr
    unfold Program.built
    simp only [hi,hu,hz,hpl]
    simpa using hf
  ·rename_i n el hfs
   cases hel:L el with
   | none=>simp [hel] at hv
   | some ei =>
    simp only [hel] at hv
    rw [Option.map_eq_some_iff] at hv
    obtain ⟨out,hout,rfl⟩:=hv
    obtain ⟨ie,hie,hies,_⟩:=(hL _ _ hel).info
    have h1:=hok.zones
    ·obtain ⟨i,z,hi,hs,hz,hzr,_⟩:=zones hok h1 E
     have hevN:Rs E .O (((parts.toList.map fun p=>(p.1,eV tm p.2)).map fun p=>(p.1,Bx L el p.2)).map (·.2)) ((parts.map fun (i,x)=>(i,a.eval x)).toList.map (·.2)) []:=by
      have gen:∀ (l:List Operand),Rs E .O (l.map fun x=>Bx L el (eV tm x)) (l.map a.eval) []:=by
       intro l;induction l with
       | nil=>exact .nil
       | cons x l ih =>
        have h1:=FL hL (t:=el) (AV hT x)
        simpa using h1.cons' ih
      have:=gen (parts.toList.map (·.2))
      simpa [List.map_map,Function.comp_def] using this
     have hkN:((parts.toList.map fun p=>(p.1,eV tm p.2)).map fun p=>(p.1,Bx L el p.2)).map (·.1)=(parts.map fun (i,x)=>(i,a.eval x)).toList.map (·.1):=by simp [List.map_map,Function.comp_def]
     obtain ⟨arr',hf,hr⟩:=LO _ hkN hevN hzr.toO hout
     refine fin arr' out ?_ hr
     unfold Program.built
     simp only [hi,hok.arr n el hfs,hz,hie,hies]
     simpa using hf
  ·cases hv
include hL in
theorem bW {t:TypeId} {x i:Operand} (ho:o.op=.index t x i) {v:V} (hv:Lm L t (eV tm x) (eV tm i)=some v):Pop P E a o v:=by
 have hx:=AV hT x
 have hi:=AV hT i
 unfold Lm at hv
 split at hv
 ·rename_i n el hti
  split at hv
  ·rename_i ei j hei hj
   split at hv
   ·rename_i cs hcs
    rw [hcs] at hx
    obtain ⟨ys,hx',hxr⟩:=GY hx
    obtain ⟨k,hi1,hi2⟩:=LF hi hj
    split at hv
    ·rename_i hb
     obtain ⟨y,hy,hr⟩:=TQ (hL _ _ hei) hxr hv E.w
     refine ⟨y,?_,hr⟩
     simp [execOp,ho,hx',hi2,Instr.index,asIntOf,run_underlying ((hL _ _ hti).arr _ _ rfl),hb,Dy (hL _ _ hei),hy]
    ·cases hv
   ·cases hv
  ·cases hv
 ·cases hv
include hL in
theorem bX {t:TypeId} {x:Operand} {f:Nat} (ho:o.op=.field t x f) {v:V} (hv:Ln L t (eV tm x) f=some v):Pop P E a o v:=by
 have hx:=AV hT x
 unfold Ln at hv
 split at hv
 ·rename_i off sz u hf hu
  split at hv
  ·rename_i ui hui
   split at hv
   ·rename_i cs hcs
    rw [hcs] at hx
    obtain ⟨ys,hx',hxr⟩:=GY hx
    cases hti:L t with
    | none=>simp [Fs,hti] at hf
    | some ti =>
     obtain ⟨size,bytes,zero,k,plain,ik,bool,ft⟩:=ti
     cases k with
     | struct fs =>
      simp only [Fs,hti] at hf
      simp only [Sy,hti] at hu
      obtain ⟨fields,hun,_,hfl⟩:=(hL _ _ hti).str fs rfl
      obtain ⟨f1,h1,h2,_⟩:=hfl _ _ hf
      obtain ⟨f2,h3,h4⟩:=(hL _ _ hti).fty fs rfl fields hun _ _ hu
      rw [h1] at h3
      cases h3
      obtain ⟨y,hy,hr⟩:=TQ (hL _ _ hui) hxr hv E.w
      refine ⟨y,?_,hr⟩
      subst h4
      simp only at h2
      subst h2
      simp [execOp,ho,hx',Instr.field,run_underlying hun,h1,asAgg,hy]
     | _=>simp [Fs,hti] at hf
   ·cases hv
  ·cases hv
 ·cases hv
omit hT in
theorem Mu:∀ {vs:List V},BA vs=true→AG vs=vs
 | [],_=>rfl
 | v::vs,h=>by
  simp [BA] at h
  have hv:v.cells=[v]:=V.cells_of_not_agg (fun cs e=>by subst e;simp [V.one] at h)
  have:=Mu h.2
  simp only [AG] at this
  simp [AG,hv,this]
omit hT in
theorem Ep {w:World} {b off:Nat} {ys:List Value} (h:w.rangeAt b off ys) (k:Nat):w.rangeAt b (off+k) (ys.drop k):=by
 intro j v hj
 rw [List.getElem?_drop] at hj
 have:=h _ v hj
 rw [Nat.add_assoc];exact this
omit hT in
theorem DA {w:World} {b off:Nat} {ys:List Value} (h:w.rangeAt b off ys) (k:Nat):w.rangeAt b off (ys.take k):=by
 intro j v hj
 rw [List.getElem?_take] at hj
 split at hj
 ·exact h _ v hj
 ·cases hj
omit hT in
theorem QR:∀ (els:List V) (sz n:Nat),(∀ e∈els,e.cells.length=sz)→AG (els.take n)=(AG els).take (n*sz)
 | [],sz,n,_=>by simp [AG]
 | e::els,sz,0,_=>by simp [AG]
 | e::els,sz,n+1,h=>by
  have ih:=QR els sz n (fun e he=>h e (by simp [he]))
  have he:=h e (by simp)
  simp only [AG] at ih
  simp only [AG,List.take_succ_cons,List.map_cons,List.flatten_cons]
  rw [ih,List.take_append,he]
  have:(n+1)*sz=sz+n*sz:=by rw [Nat.add_mul,Nat.one_mul,Nat.add_comm]
  rw [this,List.take_of_length_le (l:=e.cells) (by omega)]
  congr 2
  omega
omit hT in
theorem Du:∀ (els:List V) (sz:Nat),(∀ e∈els,e.cells.length=sz)→(AG els).length=els.length*sz
 | [],sz,_=>by simp [AG]
 | e::els,sz,h=>by
  have ih:=Du els sz (fun e he=>h e (by simp [he]))
  simp only [AG] at ih
  simp only [AG,List.map_cons,List.flatten_cons,List.length_append,List.length_cons]
  rw [ih,h e (by simp),Nat.add_mul,Nat.one_mul,Nat.add_comm]
omit hT in
theorem ED.drop {ys:List Value} (h:ED ys) (k:Nat):ED (ys.drop k):=fun y hy=>h y (List.mem_of_mem_drop hy)
omit hT in
theorem ED.take {ys:List Value} (h:ED ys) (k:Nat):ED (ys.take k):=fun y hy=>h y (List.mem_of_mem_take hy)
include hL in
theorem bU {t:TypeId} {x:Operand} {lo hi mx:Option Operand} (ho:o.op=.slice t x lo hi mx) {v:V}
  (hv:Lk L t (eV tm x) (lo.map (eV tm)) (hi.map (eV tm)) (mx.map (eV tm))=some v):Pop P E a o v:=by
 have hx:=AV hT x
 unfold Lk at hv
 split at hv
 ·rename_i hlo hmx
  have hlo':lo=none:=by cases lo<;>simp at hlo;rfl
  have hmx':mx=none:=by cases mx<;>simp at hmx;rfl
  subst hlo' hmx'
  generalize hx':a.eval x=y at hx
  split at hv
  ·rename_i p nn sz0 els hvs
   rw [hvs] at hx
   split at hv
   ·rename_i el hti
    have hu:=(hL _ _ hti).sl _ rfl
    split at hv
    ·rename_i ei hei
     -- the value
     have key:∀ (ad:Option Addr) (n cap:Nat),y=.slice ad n cap→n≤cap→∀ (h:Nat),h≤n→(hi=none∧h=n∨∃ q k,hi=some q∧a.eval q=.int k h) →
       (execOp a.eval o).run P E.w=.ok (.value (.slice ad h cap)) E.w:=by
      intro ad n cap hy hnc h hh hhi
      subst hy
      have hadd:(ad.map fun x=>Addr.add x 0)=ad:=by cases ad<;>simp [Addr.add]
      rcases hhi with ⟨rfl,rfl⟩ | ⟨q,k,rfl,hq⟩
      ·simp [execOp,ho,hx',Instr.sliceAt,run_underlying hu,Instr.slice,Instr.sliceBounds,Dy (hL _ _ hei),hadd]
      ·have h1:(h:Int)≤cap:=by omega
       have h2:h≤cap:=by omega
       have h3:¬ cap<h:=by omega
       simp [execOp,ho,hx',hq,Instr.sliceAt,run_underlying hu,Instr.slice,Instr.sliceBounds,Instr.sliceBound,asIntOf,h1,h2,h3,Dy (hL _ _ hei),hadd]
     cases hhi:hi with
     | none =>
      rw [hhi] at hv
      simp at hv;subst hv
      cases hx with
      | isl0 hm hn h=>exact ⟨_,key _ _ _ rfl (by omega) 0 (by omega) (.inl ⟨hhi,rfl⟩),.isl0 hm hn .nil⟩
      | isl hc hF hN hm hs h1 hr hone h=>exact ⟨_,key _ _ _ rfl hc _ (Nat.le_refl _) (.inl ⟨hhi,rfl⟩),.isl hc hF hN hm hs h1 hr hone .nil⟩
     | some q =>
      rw [hhi] at hv
      simp only [Option.map_some] at hv
      split at hv
      ·rename_i h hh
       split at hv
       ·rename_i hb
        simp at hv;subst hv
        obtain ⟨k,hq1,hq2⟩:=LF (AV hT q) hh
        obtain ⟨h,rfl⟩:=Int.eq_ofNat_of_zero_le hb.1
        have hle:h≤els.length:=by omega
        simp only [Int.toNat_natCast]
        cases hx with
        | isl0 hm hn h'=>exact ⟨_,key _ _ _ rfl (by omega) 0 (by omega) (.inr ⟨q,k,hhi,by simp at hle;subst hle;exact hq2⟩),by simpa using Rs.isl0 hm hn .nil⟩
        | @isl _ _ _ _ blk off cap _ ys _ _ _ hc hF hN hm hs h1 hr hone h' =>
         refine ⟨_,key _ _ _ rfl hc h hle (.inr ⟨q,k,hhi,hq2⟩),?_⟩
         have hl:(els.take h).length=h:=by simp [hle]
         have:=Rs.isl (E:=E) (m:=.O) (p:=p) (nn:=nn) (els:=els.take h) (blk:=blk) (off:=off) (cap:=cap) (sz:=sz0) (ys:=ys.take (h*sz0)) (by omega) hF hN hm
          (fun e he=>hs e (List.mem_of_mem_take he)) (by rw [QR els sz0 h hs];exact h1.take _) (DA hr _) (hone.take _) .nil
         rw [hl] at this;exact this
       ·cases hv
      ·cases hv
    ·cases hv
   ·cases hv
  ·rename_i p row off hvs
   rw [hvs] at hx
   split at hv
   ·rename_i len el _ _ _ _ hhi hti
    have hhi':hi=none:=by cases hi<;>simp at hhi;rfl
    subst hhi'
    have hu:=(hL _ _ hti).arr _ _ rfl
    split at hv
    ·rename_i ei hei
     split at hv
     ·rename_i hb
      simp at hv;subst hv
      cases hx with
      | @ip _ _ _ _ blk DR ys _ _ _ hF hN hm h1 hr hone h =>
       refine ⟨.slice (some ⟨blk,DR+off,none⟩) len len,?_,?_⟩
       ·simp [execOp,ho,hx',Instr.sliceAt,run_underlying hu,Instr.sureAddr,Instr.sliceBounds,Dy (hL _ _ hei),Addr.add]
       ·have hrow:=(h1.drop off).take len
        have hl:((row.drop off).take len).length=len:=by simp;omega
        have:=Rs.isl (E:=E) (m:=.O) (p:=p) (nn:=true) (els:=(row.drop off).take len) (blk:=blk) (off:=DR+off) (cap:=len) (sz:=1) (ys:=(ys.drop off).take len) (by omega) hF hN hm
         (fun e he=>by
          have hf:=Mu hb.2.2
          have:e.one=true:=by
           have hall:∀ (l:List V),BA l=true→∀ e∈l,e.one=true:=by
            intro l hl;induction l with
            | nil=>intro e he;simp at he
            | cons v l ih=>simp [BA] at hl;intro e he;rcases List.mem_cons.1 he with rfl | he;exact hl.1;exact ih hl.2 e he
           exact hall _ hb.2.2 e he
          rw [V.cells_of_not_agg (fun cs e'=>by subst e';simp [V.one] at this)];rfl)
         (by rw [Mu hb.2.2];exact hrow) (DA (Ep hr off) _) ((hone.drop _).take _) .nil
        rw [hl] at this;exact this
     ·cases hv
    ·cases hv
   ·cases hv
  ·rename_i ob i off hvs
   rw [hvs] at hx
   split at hv
   ·rename_i len el _ _ _ _ hhi hti
    have hhi':hi=none:=by cases hi<;>simp at hhi;rfl
    subst hhi'
    have hu:=(hL _ _ hti).arr _ _ rfl
    split at hv
    ·rename_i ei hei
     split at hv
     ·simp at hv;subst hv
      have run:∀ b k,y=.pointer (some ⟨b,k,none⟩)→(execOp a.eval o).run P E.w=.ok (.value (.slice (some ⟨b,k,none⟩) len len)) E.w:=by
       intro b k hy;subst hy
       simp [execOp,ho,hx',Instr.sliceAt,run_underlying hu,Instr.sureAddr,Instr.sliceBounds,Dy (hL _ _ hei),Addr.add]
      cases hx with
      | ptr h1 h2 h3=>exact ⟨_,run _ _ rfl,.asl h1 h2 .nil⟩
      | ptrD h1 h2 h3=>exact ⟨_,run _ _ rfl,.aslD h1 h2 .nil⟩
     ·cases hv
    ·cases hv
   ·cases hv
  ·cases hv
 ·cases hv
end
end Ve
namespace Ve
open Go
structure Nx (E E':Env):Prop where
 ext:Ext E E' []
 size:E.w.heap.size≤E'.w.heap.size
 os:E'.w.os=E.w.os
 tape:E'.w.tape=E.w.tape
 output:E'.w.output=E.w.output
 own:∀ o b,b∈E'.fps o→(∃ o',b∈E.fps o')∨E.w.heap.size≤b
 fr:∀ b,E'.F b→E.F b∨(∃ o,b∈E.fps o)∨E.w.heap.size≤b
theorem Nx.refl (E:Env):Nx E E:=⟨Ext.refl E [],Nat.le_refl _,rfl,rfl,rfl,fun o b h=>.inl ⟨o,h⟩,fun _ h=>.inl h⟩
theorem Nx.trans {E E' E'':Env} (h:Nx E E') (h':Nx E' E''):Nx E E'' where
 ext:=h.ext.trans h'.ext
 size:=Nat.le_trans h.size h'.size
 os:=h'.os.trans h.os
 tape:=h'.tape.trans h.tape
 output:=h'.output.trans h.output
 own:=fun o b hb=>by
  rcases h'.own o b hb with ⟨o',h1⟩ | h1
  ·exact h.own o' b h1
  ·exact .inr (Nat.le_trans h.size h1)
 fr:=fun b hb=>by
  rcases h'.fr b hb with h1 | ⟨o,h1⟩ | h1
  ·exact h.fr b h1
  ·rcases h.own o b h1 with h2 | h2
   ·exact .inr (.inl h2)
   ·exact .inr (.inr h2)
  ·exact .inr (.inr (Nat.le_trans h.size h1))
theorem EK.ext {E E':Env} {fp:List Nat} {ob:Obj} {oi:OI} (h:EK E fp ob oi) (x:Ext E E' fp):EK E' fp ob oi:=by
 obtain ⟨h1,h2,h3,h4,h5⟩:=h
 refine ⟨h1,h2,h3,h4,?_⟩
 cases hb:oi.blk with
 | none=>rw [hb] at h5;exact h5
 | some b =>
  rw [hb] at h5
  obtain ⟨ys,fi,hr,hs,rfl⟩:=h5
  exact ⟨ys,fi,hr.block (x.own b (by simp)),hs.ext (x.sub (fun c hc=>by simp [hc])),rfl⟩
def upd {α:Type} (f:Nat→α) (o:Nat) (x:α):Nat→α:=fun i=>if i=o then x else f i
theorem Bv {α:Type} (f:Nat→α) (o:Nat) (x:α):upd f o x o=x:=by simp [upd]
theorem KC {α:Type} (f:Nat→α) {o i:Nat} (x:α) (h:i≠o):upd f o x i=f i:=by simp [upd,h]
theorem Bi (hp:Hp) (o:Nat) (x:Option Obj):Fj hp o x o=x:=by simp [Fj]
theorem BQ (hp:Hp) {o i:Nat} (x:Option Obj) (h:i≠o):Fj hp o x i=hp i:=by
 have:Nat.beq i o=false:=by
  cases hb:Nat.beq i o with
  | true=>exact absurd (Nat.eq_of_beq_eq_true hb) h
  | false=>rfl
 simp [Fj,this]
structure Stp (E E':Env) (S:Nat→Prop):Prop where
 size:E.w.heap.size≤E'.w.heap.size
 os:E'.w.os=E.w.os
 tape:E'.w.tape=E.w.tape
 output:E'.w.output=E.w.output
 no:∀ b,E.NO b→E'.w.heap[b]?=E.w.heap[b]?
 fps:∀ o,¬ S o→E'.fps o=E.fps o
 al:∀ o,¬ S o→E'.al o=E.al o
 keep:∀ o,¬ S o→∀ b∈E.fps o,E'.w.heap[b]?=E.w.heap[b]?
 own:∀ o,S o→∀ b∈E'.fps o,(∃ o',S o'∧b∈E.fps o')∨E.w.heap.size≤b
 lt:∀ o,S o→∀ b∈E'.fps o,b<E'.w.heap.size
 nodup:∀ o,S o→(E'.fps o).Nodup
 disj:∀ o o' b,S o→S o'→b∈E'.fps o→b∈E'.fps o'→o=o'
 al':∀ o oi,S o→E.al o=some oi→E'.al o=some oi∨(E'.al o=none∧E'.U o)
 dd:∀ o,S o→E.al o=none→E.U o→E'.al o=none
 U:∀ o,E.U o→E'.U o
 F:∀ b,E.F b→E'.F b
 F':∀ b,E'.F b→E.F b∨(((∃ o,S o∧b∈E.fps o)∨E.w.heap.size≤b)∧b<E'.w.heap.size∧∀ o,S o→b∉E'.fps o)
theorem Stp.ext {E E':Env} {S:Nat→Prop} {hp:Hp} (h:Stp E E' S) (hh:BE E hp) {f:List Nat} (hf:∀ b∈f,E'.w.heap[b]?=E.w.heap[b]?):Ext E E' f:=by
 have hno:∀ b,E.NO b→E'.NO b∧E'.w.heap[b]?=E.w.heap[b]?:=by
  intro b hb
  refine ⟨⟨Nat.lt_of_lt_of_le hb.1 h.size,fun o ho=>?_⟩,h.no b hb⟩
  by_cases hs:S o
  ·rcases h.own o hs b ho with ⟨o',_,h1⟩ | h1
   ·exact hb.2 o' h1
   ·exact absurd hb.1 (by omega)
  ·rw [h.fps o hs] at ho;exact hb.2 o ho
 refine ⟨hno,fun b hb=>⟨h.F b hb,h.no b (hh.fno b hb)⟩,hf,fun o oi ho=>?_,fun o ho hu=>?_⟩
 ·by_cases hs:S o
  ·exact h.al' o oi hs ho
  ·exact .inl ((h.al o hs).trans ho)
 ·by_cases hs:S o
  ·exact ⟨h.dd o hs ho hu,h.U o hu⟩
  ·exact ⟨(h.al o hs).trans ho,h.U o hu⟩
theorem Stp.fin {E E':Env} {S:Nat→Prop} {hp hp':Hp} (h:Stp E E' S) (hh:BE E hp) (hhp:∀ o,¬ S o→hp' o=hp o)
  (hobj:∀ o ob,S o→hp' o=some ob→∃ oi,E'.al o=some oi∧E'.U o∧EK E' (E'.fps o) ob oi)
  (hdead:∀ o,S o→hp' o=none→E'.al o=none∧E'.fps o=[]):BE E' hp'∧Nx E E':=by
 have hx:=fun {f} (hf:∀ b∈f,E'.w.heap[b]?=E.w.heap[b]?)=>h.ext hh hf
 refine ⟨⟨fun o ob ho=>?_,fun o ho=>?_,fun o=>?_,fun o o' b h1 h2=>?_,fun o b hb=>?_,fun b hb=>?_⟩,⟨hx (by simp),h.size,h.os,h.tape,h.output,fun o b hb=>?_,fun b hb=>?_⟩⟩
 ·by_cases hs:S o
  ·exact hobj o ob hs ho
  ·rw [hhp o hs] at ho
   obtain ⟨oi,h1,h2,h3⟩:=hh.objs o ob ho
   exact ⟨oi,(h.al o hs).trans h1,h.U o h2,by rw [h.fps o hs];exact h3.ext (hx (h.keep o hs))⟩
 ·by_cases hs:S o
  ·exact hdead o hs ho
  ·rw [hhp o hs] at ho
   rw [h.al o hs,h.fps o hs];exact hh.dead o ho
 ·by_cases hs:S o
  ·exact h.nodup o hs
  ·rw [h.fps o hs];exact hh.nodup o
 ·by_cases hs:S o<;>by_cases hs':S o'
  ·exact h.disj o o' b hs hs' h1 h2
  ·rw [h.fps o' hs'] at h2
   rcases h.own o hs b h1 with ⟨o2,h3,h4⟩ | h3
   ·have:=hh.disj o2 o' b h4 h2;subst this;exact absurd h3 hs'
   ·exact absurd (hh.lt o' b h2) (by omega)
  ·rw [h.fps o hs] at h1
   rcases h.own o' hs' b h2 with ⟨o2,h3,h4⟩ | h3
   ·have:=hh.disj o2 o b h4 h1;subst this;exact absurd h3 hs
   ·exact absurd (hh.lt o b h1) (by omega)
  ·rw [h.fps o hs] at h1;rw [h.fps o' hs'] at h2;exact hh.disj o o' b h1 h2
 ·by_cases hs:S o
  ·exact h.lt o hs b hb
  ·rw [h.fps o hs] at hb;exact Nat.lt_of_lt_of_le (hh.lt o b hb) h.size
 ·rcases h.F' b hb with h1 | ⟨h1,h2,h3⟩
  ·exact ((hx (f:=[]) (by simp)).no b (hh.fno b h1)).1
  ·refine ⟨h2,fun o ho=>?_⟩
   by_cases hs:S o
   ·exact h3 o hs ho
   ·rw [h.fps o hs] at ho
    rcases h1 with ⟨o2,h4,h5⟩ | h4
    ·have:=hh.disj o2 o b h5 ho;subst this;exact hs h4
    ·exact absurd (hh.lt o b ho) (by omega)
 ·by_cases hs:S o
  ·rcases h.own o hs b hb with ⟨o',_,h1⟩ | h1
   ·exact .inl ⟨o',h1⟩
   ·exact .inr h1
  ·rw [h.fps o hs] at hb;exact .inl ⟨o,hb⟩
 ·rcases h.F' b hb with h1 | ⟨h1,_⟩
  ·exact .inl h1
  ·rcases h1 with ⟨o,_,h1⟩ | h1
   ·exact .inr (.inl ⟨o,h1⟩)
   ·exact .inr (.inr h1)
theorem BE.alU {E:Env} {hp:Hp} (h:BE E hp) (o:Nat) {oi:OI} (ha:E.al o=some oi):E.U o:=by
 cases ho:hp o with
 | none=>rw [(h.dead o ho).1] at ha;cases ha
 | some ob=>obtain ⟨oi,h1,h2,_⟩:=h.objs o ob ho;exact h2
structure BU (w w':World):Prop where
 size:w.heap.size≤w'.heap.size
 keep:∀ b,b<w.heap.size→w'.heap[b]?=w.heap[b]?
 os:w'.os=w.os
 tape:w'.tape=w.tape
 output:w'.output=w.output
theorem BU.refl (w:World):BU w w:=⟨Nat.le_refl _,fun _ _=>rfl,rfl,rfl,rfl⟩
theorem BU.alloc (w:World) (o:Go.Obj):BU w (w.alloc o):=⟨by simp,fun b hb=>heap_alloc_old w o b hb,rfl,rfl,rfl⟩
theorem BU.drew (w:World):BU w w.drew:=⟨Nat.le_refl _,fun _ _=>rfl,rfl,rfl,rfl⟩
theorem BU.trans {w w' w'':World} (h:BU w w') (h':BU w' w''):BU w w'' :=
 ⟨Nat.le_trans h.size h'.size,fun b hb=>(h'.keep b (Nat.lt_of_lt_of_le hb h.size)).trans (h.keep b hb),h'.os.trans h.os,h'.tape.trans h.tape,h'.output.trans h.output⟩
theorem BE.later {E:Env} {hp:Hp} (h:BE E hp) {w':World} (hw:BU E.w w') (G:Nat→Prop) (hG:∀ b,G b→E.w.heap.size≤b∧b<w'.heap.size) :
  BE { E with w:=w',F:=fun b=>E.F b∨G b } hp∧Nx E { E with w:=w',F:=fun b=>E.F b∨G b }:=by
 refine Stp.fin (S:=fun _=>False) ?_ h (fun _ _=>rfl) (fun _ _ h=>h.elim) (fun _ h=>h.elim)
 exact { size:=hw.size,os:=hw.os,tape:=hw.tape,output:=hw.output,no:=fun b hb=>hw.keep b hb.1,fps:=fun _ _=>rfl,al:=fun _ _=>rfl,
         keep:=fun o _ b hb=>hw.keep b (h.lt o b hb),own:=fun _ h=>h.elim,lt:=fun _ h=>h.elim,nodup:=fun _ h=>h.elim,disj:=fun _ _ _ h=>h.elim,
         al':=fun _ _ h=>h.elim,dd:=fun _ h=>h.elim,U:=fun _ h=>h,F:=fun _ h=>.inl h,
         F':=fun b hb=>hb.imp id fun hb=>⟨.inr (hG b hb).1,(hG b hb).2,fun _ h=>h.elim⟩ }
def Env.kill (E:Env) (o:Nat):Env:={ E with fps:=upd E.fps o [],al:=upd E.al o none }
theorem BE.kill {E:Env} {hp:Hp} (h:BE E hp) (o:Nat):BE (E.kill o) (Fj hp o none)∧Nx E (E.kill o):=by
 refine Stp.fin (S:=fun i=>i=o) ?_ h (fun i hi=>BQ _ _ hi) (fun i ob hi hob=>by subst hi;rw [Bi] at hob;cases hob) (fun i hi _=>by subst hi;exact ⟨Bv _ _ _,Bv _ _ _⟩)
 exact { size:=Nat.le_refl _,os:=rfl,tape:=rfl,output:=rfl,no:=fun _ _=>rfl,fps:=fun i hi=>KC _ _ hi,al:=fun i hi=>KC _ _ hi,keep:=fun _ _ _ _=>rfl,
         own:=fun i hi b hb=>by subst hi;simp [Env.kill,Bv] at hb
         lt:=fun i hi b hb=>by subst hi;simp [Env.kill,Bv] at hb
         nodup:=fun i hi=>by subst hi;simp [Env.kill,Bv]
         disj:=fun i j b hi hj _ _=>by subst hi;subst hj;rfl
         al':=fun i oi hi ha=>by subst hi;exact .inr ⟨Bv _ _ _,h.alU _ ha⟩
         dd:=fun i hi _ _=>by subst hi;exact Bv _ _ _
         U:=fun _ h=>h,F:=fun _ h=>h,F':=fun _ h=>.inl h }
def Env.born (E:Env) (w':World) (o:Nat) (oi:OI) (fp:List Nat):Env:={ E with w:=w',fps:=upd E.fps o fp,al:=upd E.al o (some oi),U:=fun i=>E.U i∨i=o }
theorem BE.fresh {E:Env} {hp:Hp} (h:BE E hp) {o:Nat} (hU:¬ E.U o):E.al o=none:=by
 cases ha:E.al o with
 | none=>rfl
 | some oi=>exact absurd (h.alU o ha) hU
theorem Stp.born {E:Env} {hp:Hp} (h:BE E hp) {w':World} (hw:BU E.w w') {o:Nat} (hU:¬ E.U o) (oi:OI) {fp:List Nat} (hfp:∀ b∈fp,E.w.heap.size≤b∧b<w'.heap.size) (hnd:fp.Nodup) :
  Stp E (E.born w' o oi fp) (fun i=>i=o) :=
 { size:=hw.size,os:=hw.os,tape:=hw.tape,output:=hw.output,no:=fun b hb=>hw.keep b hb.1,fps:=fun i hi=>KC _ _ hi,al:=fun i hi=>KC _ _ hi,
   keep:=fun i _ b hb=>hw.keep b (h.lt i b hb)
   own:=fun i hi b hb=>by subst hi;simp only [Env.born,Bv] at hb;exact .inr (hfp b hb).1
   lt:=fun i hi b hb=>by subst hi;simp only [Env.born,Bv] at hb;exact (hfp b hb).2
   nodup:=fun i hi=>by subst hi;simp only [Env.born,Bv];exact hnd
   disj:=fun i j b hi hj _ _=>by subst hi;subst hj;rfl
   al':=fun i oi' hi ha=>by subst hi;rw [h.fresh hU] at ha;cases ha
   dd:=fun i hi _ hu=>by subst hi;exact absurd hu hU
   U:=fun _ h=>.inl h,F:=fun _ h=>h,F':=fun _ h=>.inl h }
theorem BE.born {E:Env} {hp:Hp} (h:BE E hp) {w':World} (hw:BU E.w w') {o:Nat} (hU:¬ E.U o) (oi:OI) {fp:List Nat} (hfp:∀ b∈fp,E.w.heap.size≤b∧b<w'.heap.size) (hnd:fp.Nodup)
  {ob:Obj} (hob:EK (E.born w' o oi fp) fp ob oi):BE (E.born w' o oi fp) (Fj hp o (some ob))∧Nx E (E.born w' o oi fp) :=
 Stp.fin (Stp.born h hw hU oi hfp hnd) h (fun i hi=>BQ _ _ hi)
  (fun i ob' hi ho=>by subst hi;rw [Bi] at ho;cases ho;exact ⟨oi,Bv _ _ _,.inr rfl,by simp only [Env.born,Bv];exact hob⟩)
  (fun i hi ho=>by subst hi;rw [Bi] at ho;cases ho)
theorem Ext.born {E:Env} {hp:Hp} (h:BE E hp) {w':World} (hw:BU E.w w') {o:Nat} (hU:¬ E.U o) (oi:OI) {fp:List Nat} (hfp:∀ b∈fp,E.w.heap.size≤b∧b<w'.heap.size) (hnd:fp.Nodup)
  {f:List Nat} (hf:∀ b∈f,b<E.w.heap.size):Ext E (E.born w' o oi fp) f :=
 (Stp.born h hw hU oi hfp hnd).ext h (fun b hb=>hw.keep b (hf b hb))
end Ve
namespace Ve
open Go
theorem Rs.permP {E:Env} {m:Md} {vs:List V} {xs:List Value} {f:List Nat} (h:Rs E m vs xs f):AD vs=true→Rs E .P vs xs f:=by
 induction h with
 | nil=>exact fun _=>.nil
 | lit _ ih=>exact fun x=>.lit (ih (by simpa [AD,V.perm] using x))
 | agg _ _ ih1 ih2=>exact fun x=>by simp [AD,V.perm] at x;exact .agg (ih1 x.1) (ih2 x.2)
 | tup _ _ ih1 ih2=>exact fun x=>by simp [AD,V.perm] at x;exact .tup (ih1 x.1) (ih2 x.2)
 | fn _ _ _ ih1 ih2 ih3=>exact fun x=>by simp [AD,V.perm] at x;exact .fn (ih1 x.1.1) (ih2 x.1.2) (ih3 x.2)
 | ip hF hN hm h1 hr ho _ _ ih2=>exact fun x=>by simp [AD,V.perm] at x;exact .ip hF hN (fun _=>x.1) h1 hr ho (ih2 x.2)
 | isl0 hm hn _ ih=>exact fun x=>by simp [AD,V.perm] at x;exact .isl0 (fun _=>x.1) hn (ih x.2)
 | isl hc hF hN hm hs h1 hr ho _ _ ih2=>exact fun x=>by simp [AD,V.perm] at x;exact .isl hc hF hN (fun _=>x.1) hs h1 hr ho (ih2 x.2)
 | own0 hz _ ih=>exact fun x=>by simp [AD,V.perm] at x;exact .own0 hz (ih x)
 | own hr hs h1 _ _ ih2=>exact fun x=>by simp [AD,V.perm] at x;exact .own hr hs h1 (ih2 x)
 | sl | slD | ptr | ptrD | asl | aslD | dead=>exact fun x=>by simp [AD,V.perm] at x
theorem Rs.nrB {E:Env} {m:Md} {vs:List V} {xs:List Value} {f:List Nat} (h:Rs E m vs xs f):nrs vs=true→Rs E .B vs xs f:=by
 induction h with
 | nil=>exact fun _=>.nil
 | lit _ ih=>exact fun x=>.lit (ih (by simpa [nrs,V.nr] using x))
 | agg _ _ ih1 ih2=>exact fun x=>by simp [nrs,V.nr] at x;exact .agg (ih1 x.1) (ih2 x.2)
 | tup _ _ ih1 ih2=>exact fun x=>by simp [nrs,V.nr] at x;exact .tup (ih1 x.1) (ih2 x.2)
 | fn _ _ _ ih1 ih2 ih3=>exact fun x=>by simp [nrs,V.nr] at x;exact .fn (ih1 x.1.1) (ih2 x.1.2) (ih3 x.2)
 | ip hF hN hm h1 hr ho _ _ ih2=>exact fun x=>by simp [nrs,V.nr] at x;exact .ip hF hN (fun h=>by cases h) h1 hr ho (ih2 x)
 | isl0 hm hn _ ih=>exact fun x=>by simp [nrs,V.nr] at x;exact .isl0 (fun h=>by cases h) hn (ih x)
 | isl hc hF hN hm hs h1 hr ho _ _ ih2=>exact fun x=>by simp [nrs,V.nr] at x;exact .isl hc hF hN (fun h=>by cases h) hs h1 hr ho (ih2 x)
 | own0 hz _ ih=>exact fun x=>by simp [nrs,V.nr] at x;exact .own0 hz (ih x)
 | own hr hs h1 _ _ ih2=>exact fun x=>by simp [nrs,V.nr] at x;exact .own hr hs h1 (ih2 x)
 | sl | slD | ptr | ptrD | asl | aslD | dead=>exact fun x=>by simp [nrs,V.nr] at x
theorem Hk (v:V):AD v.cells=v.perm:=by cases v<;>simp [V.cells,AD,V.perm]
theorem jQ (v:V):nrs v.cells=v.nr:=by cases v<;>simp [V.cells,nrs,V.nr]
theorem Rs.cells {E:Env} {m:Md} {v:V} {x:Value} {f:List Nat} (h:R1 E m v x f) (h1:BA v.cells=true):Rs E m v.cells x.cells.toList f:=Ii h h1
def Mop (P:Program) (E:Env) (hp':Hp) (a:Act) (o:Oper) (v:V) (nid new:Nat):Prop :=
 ∀ (K:Act→World→Prop) (Q:Exit→Act→World→Prop),
  (∀ E' y,Nx E E'→BE E' hp'→R1 E' .O v y []→(∀ i,E'.U i↔E.U i∨(nid≤i∧i<nid+new))→K (a.put o.dst y) E'.w)→o.wp P a E.w K Q
theorem DK {P:Program} {o:Oper} {a:Act} {w w':World} {y:Value} (h:(execOp a.eval o).run P w=.ok (.value y) w') {K:Act→World→Prop} {Q:Exit→Act→World→Prop}
  (hk:K (a.put o.dst y) w'):o.wp P a w K Q:=by
 unfold Oper.wp;rw [h];exact hk
theorem VF {P:Program} {o:Oper} {a:Act} {w w':World} (h:(execOp a.eval o).run P w=.ok .skip w') {K:Act→World→Prop} {Q:Exit→Act→World→Prop}
  (hk:K (a.put o.dst undef) w'):o.wp P a w K Q:=by
 unfold Oper.wp;rw [h];exact hk
theorem Mop.of_pop {P:Program} {E:Env} {hp:Hp} (hh:BE E hp) {a:Act} {o:Oper} {v:V} (h:Pop P E a o v) (nid:Nat):Mop P E hp a o v nid 0:=by
 obtain ⟨y,hrun,hr⟩:=h
 intro K Q hK
 exact DK hrun (hK E y (Nx.refl E) hh hr (fun i=>by constructor<;>intro h<;>first | exact .inl h | (rcases h with h | h;exact h;omega)))
theorem GK (P:Program) (e:TypeId) (cells:Array Value) (w:World):(newRow e cells).run P w=.ok ⟨w.heap.size,0,none⟩ (w.alloc (.cells cells e)):=rfl
theorem PW (w:World) (cells:Array Value) (e:TypeId):(w.alloc (.cells cells e)).rangeAt w.heap.size 0 cells.toList:=by
 intro j v hj
 have:=heap_alloc_new w (.cells cells e)
 simp only [World.cell?,Nat.zero_add,this]
 simpa using hj
theorem ML (w:World) (cells:Array Value) (e:TypeId) {sz len:Nat} (hs:cells.size=len*sz) (hm:len≤maxLen) (hp:0<sz) (ho:ED cells.toList) :
  El (w.alloc (.cells cells e)) w.heap.size sz len len cells.toList :=
 ⟨⟨cells,e,heap_alloc_new w _,hs,by rw [List.take_of_length_le];simp [hs]⟩,Nat.le_refl _,hm,hp,ho,by simpa using hs⟩
section
variable {P:Program} {L:Lay} {E:Env} {hp:Hp} {tm:Nat→V} {a:Act} {o:Oper} (hL:Ez P L) (hT:Hx E tm a) (hh:BE E hp)
include hL hh in
theorem Zv {t:TypeId} {v:V} {x:Value} {f} (hv:R1 E .O v x f) (hf:f=[]) (hrun:∀ w,(execOp a.eval o).run P w=.ok (.value (.pointer (some ⟨w.heap.size,0,none⟩))) (w.alloc (.cells x.cells t)))
  {nid:Nat} (hU:∀ i,nid≤i→i<nid+1→¬ E.U i) {e:Eff} (he:Ku L nid t v=.ret e):Mop P E (Av hp e.upd) a o e.v nid e.new:=by
 subst hf
 unfold Ku at he
 split at he
 ·cases he
 ·rename_i ti hti
  have hok:=hL _ _ hti
  have hv2:=FL hL (t:=t) hv
  generalize Bx L t v=u at he hv2
  dsimp only at he
  split at he
  ·rename_i hc
   obtain ⟨hlen,hone⟩:=hc
   injection he with he;subst he
   intro K Q hK
   have hcr:=Rs.cells hv2 hone
   have hsz:x.cells.size=1*ti.size:=by have:=hcr.length;simp at this;omega
   have hw:=BU.alloc E.w (.cells x.cells t)
   have hUn:=hU nid (Nat.le_refl _) (by omega)
   have hfp:∀ b∈[E.w.heap.size],E.w.heap.size≤b∧b<(E.w.alloc (.cells x.cells t)).heap.size:=by intro b hb;simp at hb;subst hb;simp
   have hx:=fun {f} (hf:∀ b∈f,b<E.w.heap.size)=>Ext.born hh hw hUn ⟨some E.w.heap.size,ti.size,1,1,none⟩ hfp (by simp) hf
   have hob:EK (E.born (E.w.alloc (.cells x.cells t)) nid ⟨some E.w.heap.size,ti.size,1,1,none⟩ [E.w.heap.size]) [E.w.heap.size] ⟨ti.size,[u],u.isRef⟩ ⟨some E.w.heap.size,ti.size,1,1,none⟩:=by
    refine ⟨rfl,rfl,hok.pos,by simp [hlen],x.cells.toList,[],ML E.w x.cells t hsz (show (1:Nat)≤maxLen by unfold maxLen;omega) hok.pos (Ga hcr hone),?_,rfl⟩
    have h2:=hcr.ext (hx (by simp))
    have hfl:AG [u]=u.cells:=by simp [AG]
    rw [hfl]
    unfold V.isRef
    cases hp':u.perm with
    | true=>simpa using h2.permP (by rw [Hk];exact hp')
    | false=>simpa using h2.toO
   obtain ⟨h1,h2⟩:=hh.born hw hUn _ hfp (by simp) hob
   refine DK (hrun E.w) (hK _ _ h2 h1 ?_ (fun i=>?_))
   ·have:=Rs.ptr (E:=E.born (E.w.alloc (.cells x.cells t)) nid ⟨some E.w.heap.size,ti.size,1,1,none⟩ [E.w.heap.size]) (o:=nid) (i:=0) (off:=0) (b:=E.w.heap.size) (Bv _ _ _) rfl Rs.nil (f:=[])
    simpa using this
   ·simp only [Env.born];constructor
    ·rintro (h | h);exact .inl h;exact .inr (by omega)
    ·rintro (h | h);exact .inl h;exact .inr (by omega)
  ·cases he
include hL hh hT in
theorem tD {t:TypeId} {x:Operand} (ho:o.op=.box t x) {nid:Nat} (hU:∀ i,nid≤i→i<nid+1→¬ E.U i) {e:Eff} (he:Ku L nid t (eV tm x)=.ret e) :
  Mop P E (Av hp e.upd) a o e.v nid e.new :=
 Zv hL hh (AV hT x) rfl (fun w=>by simp [execOp,ho,Instr.box,newVar,GK]) hU he
include hL hh in
theorem dA {t:TypeId} (ho:o.op=.alloc t) {nid:Nat} (hU:∀ i,nid≤i→i<nid+1→¬ E.U i) {e:Eff} (he:HD L nid t=.ret e) :
  Mop P E (Av hp e.upd) a o e.v nid e.new:=by
 unfold HD at he
 split at he
 ·rename_i ti hti
  obtain ⟨i,z,hi,hs,hz,_,hr⟩:=NT (hL _ _ hti) E.w
  refine Zv hL hh (hr E).toO rfl (fun w=>?_) hU he
  obtain ⟨i',z',hi',_,hz',hrun',_⟩:=NT (hL _ _ hti) w
  rw [hi] at hi';cases hi';rw [hz] at hz';cases hz'
  simp [execOp,ho,Instr.alloc,hrun',newVar,GK]
 ·cases he
include hL hh hT in
theorem kA {t:TypeId} {x:Operand} (ho:o.op=.box t x) {nid:Nat} {e:Eff} (he:Jm L t (eV tm x)=.ret e) :
  Mop P E (Av hp e.upd) a o e.v nid e.new:=by
 have hv:=AV hT x
 unfold Jm at he
 split at he
 ·cases he
 ·rename_i ti hti
  have hok:=hL _ _ hti
  have hv2:=FL hL (t:=t) hv
  generalize Bx L t (eV tm x)=u at he hv2
  dsimp only at he
  split at he
  ·rename_i hc
   obtain ⟨hlen,hnr,hone⟩:=hc
   unfold DT at he
   injection he with he;subst he
   intro K Q hK
   have hcr:=Rs.cells hv2 hone
   have hw:=BU.alloc E.w (.cells (a.eval x).cells t)
   obtain ⟨h1,h2⟩:=hh.later hw (fun b=>u.perm=true∧b=E.w.heap.size) (by rintro b ⟨_,rfl⟩;simp)
   refine DK (by simp [execOp,ho,Instr.box,newVar,GK];rfl) (hK _ _ h2 h1 ?_ (fun i=>⟨.inl,fun h=>h.elim id (fun h=>absurd h.1 (Nat.not_le.2 h.2))⟩))
   have h3:=hcr.ext h2.ext
   have:=Rs.ip (E:={ E with w:=E.w.alloc (.cells (a.eval x).cells t),F:=fun b=>E.F b∨(u.perm=true∧b=E.w.heap.size) }) (m:=.O) (p:=u.perm) (row:=u.cells) (off:=0) (blk:=E.w.heap.size) (DR:=0)
    (ys:=(a.eval x).cells.toList) (fun h=>.inr ⟨h,rfl⟩) (fun _=>⟨by simp,fun o ho=>by have:=hh.lt o _ ho;omega⟩) (fun h=>by cases h)
    (by
     unfold pm
     split
     ·rename_i hp';exact h3.permP (by rw [Hk];exact hp')
     ·exact h3.nrB (by rw [jQ];exact hnr))
    (PW E.w _ t) (Ga hcr hone) Rs.nil
   simpa using this
  ·cases he
omit hT hh in
theorem IH {el:V} {cs:List V} (h:cs.length=el.cells.length) (h1:(∀ x,el≠.agg x)→∀ c∈cs,c.one=true):(el.withCells cs).cells=cs:=by
 by_cases he:∃ x,el=.agg x
 ·obtain ⟨x,rfl⟩:=he;simp [V.withCells,V.cells]
 ·have he':∀ x,el≠.agg x:=fun x e=>he ⟨x,e⟩
  rw [V.cells_of_not_agg he'] at h
  have:∃ c,cs=[c]:=by
   cases cs with
   | nil=>simp at h
   | cons c r=>simp at h;subst h;exact ⟨c,rfl⟩
  obtain ⟨c,rfl⟩:=this
  have hw:el.withCells [c]=c:=by cases el<;>simp_all [V.withCells]
  have h2:=h1 he' c (by simp)
  rw [hw]
  exact V.cells_of_not_agg (fun x e=>by subst e;simp [V.one] at h2)
omit hT hh in
theorem Gf:∀ (els:List V) (sz i:Nat) (el el':V),(∀ e∈els,e.cells.length=sz)→els[i]?=some el →
  AG els=(AG els).take (i*sz)++el.cells++(AG els).drop (i*sz+sz)∧AG (els.set i el')=(AG els).take (i*sz)++el'.cells++(AG els).drop (i*sz+sz)
 | [],_,_,_,_,_,h=>by simp at h
 | e::els,sz,0,el,el',hs,h=>by
  simp at h;subst h
  have:=hs e (by simp)
  simp [AG,← this]
 | e::els,sz,i+1,el,el',hs,h=>by
  obtain ⟨h1,h2⟩:=Gf els sz i el el' (fun e he=>hs e (by simp [he])) (by simpa using h)
  have he:=hs e (by simp)
  have e1:(i+1)*sz=sz+i*sz:=by rw [Nat.add_mul,Nat.one_mul,Nat.add_comm]
  simp only [AG,List.map_cons,List.flatten_cons,List.set_cons_succ,e1] at h1 h2 ⊢
  have t1:List.take (sz+i*sz) (e.cells++(List.map V.cells els).flatten)=e.cells++List.take (i*sz) (List.map V.cells els).flatten:=by
   rw [List.take_append,he,List.take_of_length_le (l:=e.cells) (by omega)];congr 2;omega
  have t2:List.drop (sz+i*sz+sz) (e.cells++(List.map V.cells els).flatten)=List.drop (i*sz+sz) (List.map V.cells els).flatten:=by
   rw [List.drop_append,he]
   have h0:List.drop (sz+i*sz+sz) e.cells=[]:=List.drop_eq_nil_of_le (by omega)
   have:sz+i*sz+sz - sz=i*sz+sz:=by omega
   rw [this,h0];simp
  rw [t1,t2]
  constructor
  ·conv=>lhs;rw [h1]
   simp
  ·rw [h2];simp
omit hT hh in
theorem Mt:∀ (els:List V) (sz i:Nat) (el':V),(∀ e∈els,e.cells.length=sz)→el'.cells.length=sz→∀ e∈els.set i el',e.cells.length=sz:=by
 intro els sz i el' h h' e he
 rcases List.mem_or_eq_of_mem_set he with h1 | h1
 ·exact h e h1
 ·rw [h1];exact h'
omit hT hh in
theorem Rs.parts {m:Md} {A X B:List V} {ys f} (h:Rs E m (A++X++B) ys f):∃ ya yx yb fa fx fb,ys=ya++yx++yb∧f=fa++fx++fb∧Rs E m A ya fa∧Rs E m X yx fx∧Rs E m B yb fb:=by
 obtain ⟨y1,yb,f1,fb,rfl,rfl,h1,h2⟩:=Rs.unappend h
 obtain ⟨ya,yx,fa,fx,rfl,rfl,h3,h4⟩:=Rs.unappend h1
 exact ⟨ya,yx,yb,fa,fx,fb,rfl,rfl,h3,h4,h2⟩
include hL hh hT in
theorem cY {t:TypeId} {x v:Operand} (ho:o.op=.store t x v) {nid:Nat} {m:AM Eff} (hm:m=Lj L t (eV tm x) (eV tm v)) {e:Eff} (he:m.run hp=some e) :
  Mop P E (Av hp e.upd) a o e.v nid e.new:=by
 subst hm
 have hx:=AV hT x
 have hv:=AV hT v
 unfold Lj at he
 split at he
 ·simp [AM.run] at he
 ·rename_i ti hti
  have hok:=hL _ _ hti
  have hv2:=FL hL (t:=t) hv
  generalize hxe:a.eval x=xa at hx
  split at he
  ·rename_i ob i off hvs
   rw [hvs] at hx
   simp only [AM.rd,AM.run] at he
   cases hob:hp ob with
   | none=>simp [hob,AM.run] at he
   | some obj =>
    simp only [hob] at he
    obtain ⟨oi,hal,hUo,hR⟩:=hh.objs ob obj hob
    obtain ⟨hsz,hlen,hpos,hun,hblk⟩:=hR
    cases hel:obj.els[i]? with
    | none=>simp [hel,AM.run] at he
    | some el =>
     simp only [hel] at he
     generalize Bx L t (eV tm v)=u at he hv2
     split at he
     ·rename_i hc
      obtain ⟨hl,hle,hone⟩:=hc
      simp only [AM.run,Option.some.injEq] at he
      subst he
      cases hx with
      | ptrD h1 h2 h3=>rw [hal] at h1;cases h1
      | @ptr _ _ _ oi' b _ _ _ h1 h2 h3 =>
       rw [hal] at h1;cases h1
       rw [h2] at hblk
       obtain ⟨ys,fi,hrow,hrs,hfp⟩:=hblk
       have hcr:=Rs.cells hv2 hone
       have hoy:=Ga hcr hone
       have hcl:(a.eval v).cells.size=ti.size:=by have:=hcr.length;simp at this;omega
       have helen:=hun el (List.mem_of_getElem? hel)
       -- the cells,parted
       obtain ⟨hf1,_⟩:=Gf obj.els obj.sz i el el hun hel
       have hpart:AG obj.els=((AG obj.els).take (i*obj.sz)++el.cells.take off)++(el.cells.drop off).take ti.size++(el.cells.drop (off+ti.size)++(AG obj.els).drop (i*obj.sz+obj.sz)):=by
        conv=>lhs;rw [hf1]
        have:el.cells=el.cells.take off++(el.cells.drop off).take ti.size++el.cells.drop (off+ti.size):=by
         rw [List.append_assoc,← List.drop_drop,List.take_append_drop,List.take_append_drop]
        conv=>lhs;rw [this]
        simp
       rw [hpart] at hrs
       obtain ⟨ya,yx,yb,fa,fx,fb,rfl,rfl,ra,rx,rb⟩:=Rs.parts hrs
       have hi:i<obj.els.length:=by
        rcases Nat.lt_or_ge i obj.els.length with h | h
        ·exact h
        ·simp [List.getElem?_eq_none h] at hel
       have hfl:=Du obj.els obj.sz hun
       have hmul:i*obj.sz+obj.sz≤obj.els.length*obj.sz:=by
        have:=Nat.mul_le_mul_right obj.sz (show i+1≤obj.els.length from hi)
        rwa [Nat.add_mul,Nat.one_mul] at this
       have hya:ya.length=i*obj.sz+off:=by
        rw [ra.length];simp only [List.length_append,List.length_take,hfl,helen];omega
       have hyx:yx.length=ti.size:=by
        rw [rx.length];simp only [List.length_take,List.length_drop,helen];omega
       obtain ⟨⟨cur,ce,hheap,hcs,htake⟩,hle2,hmx,_,hyone,hyl⟩:=hrow
       -- the world behind the store
       have hcurl:cur.toList=ya++yx++yb++cur.toList.drop (obj.els.length*obj.sz):=by
        rw [← htake,List.take_append_drop]
       have hcsz:obj.els.length*obj.sz≤cur.size:=by rw [hcs];exact Nat.mul_le_mul_right _ hle2
       let cur':Array Value:=(ya++(a.eval v).cells.toList++(yb++cur.toList.drop (obj.els.length*obj.sz))).toArray
       have hst:=run_storeCells_at P b (i*obj.sz+off) ce (a.eval v).cells.toList 0 cur E.w hheap (by simp;omega) hoy
       have hrow':(cur.toList.take (i*obj.sz+off+0)++(a.eval v).cells.toList++cur.toList.drop (i*obj.sz+off+0+(a.eval v).cells.toList.length)).toArray=cur':=by
        have e1:cur.toList.take (i*obj.sz+off+0)=ya:=by
         rw [hcurl,Nat.add_zero,← hya,List.append_assoc,List.append_assoc,List.take_left]
        have e2:cur.toList.drop (i*obj.sz+off+0+(a.eval v).cells.toList.length)=yb++cur.toList.drop (obj.els.length*obj.sz):=by
         have:i*obj.sz+off+0+(a.eval v).cells.toList.length=(ya++yx).length:=by simp [hya,hyx,hcl]
         rw [this]
         conv=>lhs;rw [hcurl]
         rw [List.append_assoc (ya++yx),List.drop_left]
        rw [e1,e2]
       rw [hrow'] at hst
       have hrun:(execOp a.eval o).run P E.w=.ok .skip (E.w.setRow b cur'):=by
        have hsz':oi.sz=obj.sz:=hsz
        simp only [execOp,ho,hxe,Instr.storeAt,Instr.sureAddr,Sem.run_bind,Sem.run_pure,Result.andThen_ok,storeVar,Dy hok]
        rw [if_neg (by simp [hcl])]
        simp [hsz',hst]
       intro K Q hK
       have hbo:b∈E.fps ob:=by rw [hfp];simp
       have hother:∀ c,c≠b→(E.w.setRow b cur').heap[c]?=E.w.heap[c]?:=fun c hc=>setRow_other E.w b c cur' hc
       let E':Env:={ E with w:=E.w.setRow b cur',fps:=upd E.fps ob (b::(fa++fb)) }
       have hsub:∀ c∈fa++fb,c∈fa++fx++fb:=by intro c hc;simp at hc ⊢;rcases hc with h | h<;>simp [h]
       have hnd:(b::(fa++fx++fb)).Nodup:=by rw [← hfp];exact hh.nodup ob
       have hsl:(b::(fa++fb)).Sublist (b::(fa++fx++fb)):=by
        refine List.Sublist.cons_cons _ ?_
        rw [List.append_assoc]
        exact List.Sublist.append_left (List.sublist_append_right fx fb) fa
       have hstp:Stp E E' (fun j=>j=ob) :=
        { size:=by simp [E'],os:=rfl,tape:=rfl,output:=rfl
          no:=fun c hc=>hother c (fun e=>by subst e;exact hc.2 ob hbo)
          fps:=fun j hj=>KC _ _ hj,al:=fun _ _=>rfl
          keep:=fun j hj c hc=>hother c (fun e=>by subst e;exact hj (hh.disj j ob c hc hbo))
          own:=fun j hj c hc=>by
            subst hj;simp only [E',Bv] at hc
            exact .inl ⟨j,rfl,by rw [hfp];exact hsl.subset hc⟩
          lt:=fun j hj c hc=>by
            subst hj;simp only [E',Bv] at hc
            have:=hh.lt j c (by rw [hfp];exact hsl.subset hc)
            simpa [E'] using this
          nodup:=fun j hj=>by subst hj;simp only [E',Bv];exact hnd.sublist hsl
          disj:=fun j k c hj hk _ _=>by subst hj;subst hk;rfl
          al':=fun j oj _ h=>.inl h
          dd:=fun _ _ h _=>h
          U:=fun _ h=>h,F:=fun _ h=>h,F':=fun _ h=>.inl h }
       have hext:∀ {f:List Nat},(∀ c∈f,c≠b)→Ext E E' f:=fun hf=>hstp.ext hh (fun c hc=>hother c (hf c hc))
       have hnb:∀ c∈fa++fx++fb,c≠b:=by
        intro c hc e;subst e
        exact (List.nodup_cons.1 hnd).1 hc
       have hcells':(el.withCells (fillCells el.cells off u.cells)).cells=fillCells el.cells off u.cells:=by
        refine IH ?_ (fun hne c hc=>?_)
        ·simp only [fillCells,List.length_append,List.length_take,List.length_drop];omega
        ·have h1:=V.cells_of_not_agg hne
         have hl1:el.cells.length=1:=by rw [h1];rfl
         have hp1:=hok.pos
         have hoff:off=0:=by omega
         subst hoff
         have hone1:∀ (l:List V),BA l=true→∀ c∈l,c.one=true:=by
          intro l hl;induction l with
          | nil=>intro c hc;simp at hc
          | cons v l ih=>simp [BA] at hl;intro c hc;rcases List.mem_cons.1 hc with rfl | hc;exact hl.1;exact ih hl.2 c hc
         simp only [fillCells,List.take_zero,List.nil_append,Nat.zero_add] at hc
         have:List.drop u.cells.length el.cells=[]:=List.drop_eq_nil_of_le (by omega)
         rw [this,List.append_nil] at hc
         exact hone1 _ hone c hc
       have hflat':AG (obj.els.set i (el.withCells (fillCells el.cells off u.cells))) =
         ((AG obj.els).take (i*obj.sz)++el.cells.take off)++u.cells++(el.cells.drop (off+ti.size)++(AG obj.els).drop (i*obj.sz+obj.sz)):=by
        rw [(Gf obj.els obj.sz i el _ hun hel).2,hcells',fillCells,hl]
        simp
       have hnew:Rs E' (if (obj.dirty||u.isRef) then .O else .P) (AG (obj.els.set i (el.withCells (fillCells el.cells off u.cells)))) (ya++(a.eval v).cells.toList++yb) (fa++fb):=by
        rw [hflat']
        have ra':=ra.ext (hext (fun c hc=>hnb c (by simp [hc])))
        have rb':=rb.ext (hext (fun c hc=>hnb c (by simp [hc])))
        have ru':=hcr.ext (hext (by simp))
        cases hd:obj.dirty with
        | true =>
         rw [hd] at ra' rb'
         simpa using (ra'.append ru').append rb'
        | false =>
         rw [hd] at ra' rb'
         cases hu:u.isRef with
         | true=>simpa using (ra'.toO.append ru').append rb'.toO
         | false =>
          have:u.perm=true:=by simpa [V.isRef] using hu
          simpa using (ra'.append (ru'.permP (by rw [Hk];exact this))).append rb'
       have hlen':(ya++(a.eval v).cells.toList++yb).length=obj.els.length*obj.sz:=by
        have:=hyl;simp only [List.length_append] at this ⊢
        simp only [Array.length_toList,hcl];omega
       have hR':EK E' (E'.fps ob) { obj with els:=obj.els.set i (el.withCells (fillCells el.cells off u.cells)),dirty:=obj.dirty||u.isRef } oi:=by
        refine ⟨hsz,by simp [hlen],hpos,?_,?_⟩
        ·exact Mt obj.els obj.sz i _ hun (by rw [hcells'];simp only [fillCells,List.length_append,List.length_take,List.length_drop];omega)
        ·rw [h2]
         refine ⟨_,_,⟨⟨cur',ce,setRow_heap E.w b cur cur' ce (0,0) hheap,?_,?_⟩,by simpa using hle2,hmx,hpos,?_,by simpa using hlen'⟩,hnew,Bv _ _ _⟩
         ·have h3:cur.toList.length=ya.length+yx.length+yb.length+(cur.toList.drop (obj.els.length*obj.sz)).length:=by
           conv=>lhs;rw [hcurl]
           simp only [List.length_append]
          simp only [cur',List.size_toArray,List.length_append,Array.length_toList] at h3 ⊢
          omega
         ·simp only [List.length_set,cur']
          rw [← hlen',← List.append_assoc]
          exact List.take_left
         ·intro y hy
          simp only [List.mem_append] at hy
          rcases hy with (h | h) | h
          ·exact hyone y (by simp [h])
          ·exact hoy y h
          ·exact hyone y (by simp [h])
       obtain ⟨r1,r2⟩:=hstp.fin (hp':=Fj hp ob (some { obj with els:=obj.els.set i (el.withCells (fillCells el.cells off u.cells)),dirty:=obj.dirty||u.isRef })) hh (fun j hj=>BQ _ _ hj)
        (fun j ob' hj ho=>by subst hj;rw [Bi] at ho;cases ho;exact ⟨oi,hal,hUo,hR'⟩) (fun j hj ho=>by subst hj;rw [Bi] at ho;cases ho)
       exact VF hrun (hK E' undef r2 r1 (.lit .nil) (fun i=>⟨.inl,fun h=>h.elim id (fun h=>absurd h.1 (Nat.not_le.2 h.2))⟩))
     ·simp [AM.run] at he
  ·simp [AM.run] at he
end
end Ve
namespace Ve
open Go
theorem Qh {α β:Type} (h:Hp) (m:AM α) (f:α→AM β):(m.bind f).run h=(m.run h).bind fun a=>(f a).run h:=by
 induction m with
 | ret a=>rfl
 | fail=>rfl
 | rdo o k ih=>simp only [AM.bind,AM.run];exact ih (h o)
theorem Cs:∀ (news:List Obj) (nid:Nat) (hp:Hp) (i:Nat),Av hp (Ci nid news) i=if nid≤i∧i<nid+news.length then news[i - nid]? else hp i
 | [],nid,hp,i=>by simp only [Ci,Av,List.length_nil];rw [if_neg (by omega)]
 | ob::news,nid,hp,i=>by
  simp only [Ci,Av]
  rw [Cs news (nid+1)]
  simp only [List.length_cons]
  by_cases h1:nid+1≤i∧i<nid+1+news.length
  ·rw [if_pos h1,if_pos (by omega)]
   have:i - nid=(i - (nid+1))+1:=by omega
   rw [this];rfl
  ·rw [if_neg h1]
   by_cases h2:i=nid
   ·subst h2;rw [Bi,if_pos (by omega)];simp
   ·rw [BQ _ _ h2,if_neg (by omega)]
theorem EM {nid:Nat} {c:V} {r:List V} (h:∀ sz els,c≠.own sz els):Ak nid (c::r)=(c::(Ak nid r).1,(Ak nid r).2):=by
 cases c<;>first | rfl | exact absurd rfl (h _ _)
theorem HN {E:Env} {m:Md}:∀ {cs:List V} {ys:List Value} {f:List Nat} (nid:Nat),Rs E m cs ys f→ED ys→∃ (ois:List OI) (fpl:List (List Nat)),
  ois.length=(Ak nid cs).2.length∧fpl.length=(Ak nid cs).2.length∧fpl.flatten=f ∧
  (∀ (k:Nat) (ob:Ve.Obj),(Ak nid cs).2[k]?=some ob→∃ oi fp,ois[k]?=some oi∧fpl[k]?=some fp∧EK E fp ob oi) ∧
  (∀ E',Ext E E' []→(∀ (k:Nat) (oi:OI),ois[k]?=some oi→E'.al (nid+k)=some oi)→Rs E' .O (Ak nid cs).1 ys [])
 | [],ys,f,nid,h,_=>by
  obtain ⟨rfl,rfl⟩:=h.nil_inv
  exact ⟨[],[],rfl,rfl,rfl,by simp [Ak],fun _ _ _=>.nil⟩
 | c::cs,ys,f,nid,h,ho=>by
  obtain ⟨x,xs,f1,f2,rfl,rfl,h1,h2⟩:=h.uncons
  have hox:x.oneCell'=true:=ho x (by simp)
  have hoxs:ED xs:=fun y hy=>ho y (by simp [hy])
  by_cases hc:∃ sz els,c=.own sz els
  ·obtain ⟨sz,els,rfl⟩:=hc
   obtain ⟨ois,fpl,l1,l2,l3,l4,l5⟩:=HN (nid+1) h2 hoxs
   have key:∀ (oi:OI) (fp:List Nat),EK E fp ⟨sz,els,false⟩ oi→x=oi.slice→f1=fp→∃ (ois:List OI) (fpl:List (List Nat)),
     ois.length=(Ak nid (.own sz els::cs)).2.length∧fpl.length=(Ak nid (.own sz els::cs)).2.length∧fpl.flatten=f1++f2 ∧
     (∀ (k:Nat) (ob:Ve.Obj),(Ak nid (.own sz els::cs)).2[k]?=some ob→∃ oi fp,ois[k]?=some oi∧fpl[k]?=some fp∧EK E fp ob oi) ∧
     (∀ E',Ext E E' []→(∀ (k:Nat) (oi:OI),ois[k]?=some oi→E'.al (nid+k)=some oi)→Rs E' .O (Ak nid (.own sz els::cs)).1 (x::xs) []):=by
    intro oi fp hob hx hf
    refine ⟨oi::ois,fp::fpl,by simp [Ak,l1],by simp [Ak,l2],by simp [l3,hf],?_,?_⟩
    ·intro k ob hk
     cases k with
     | zero=>simp [Ak] at hk;subst hk;exact ⟨oi,fp,rfl,rfl,hob⟩
     | succ k=>simp only [Ak,List.getElem?_cons_succ] at hk ⊢;exact l4 k ob hk
    ·intro E' hx' hal
     subst hx
     refine Rs.sl (by simpa using hal 0 oi rfl) (l5 E' hx' (fun k oi hk=>?_))
     have:=hal (k+1) oi (by simpa using hk)
     rwa [show nid+(k+1)=nid+1+k from by omega] at this
   cases h1 with
   | own0 hz h=>obtain ⟨_,rfl⟩:=h.nil_inv;exact key ⟨none,sz,0,0,_⟩ [] ⟨rfl,rfl,hz,by simp,rfl,rfl⟩ rfl rfl
   | own hr hs hi h0 =>
    obtain ⟨_,rfl⟩:=h0.nil_inv
    exact key ⟨some _,sz,els.length,_,none⟩ (_::_) ⟨rfl,rfl,hr.pos,hs,_,_,hr,hi,rfl⟩ rfl (by simp)
  ·have hc':∀ sz els,c≠.own sz els:=fun sz els e=>hc ⟨sz,els,e⟩
   rw [EM hc']
   obtain ⟨ois,fpl,l1,l2,l3,l4,l5⟩:=HN nid h2 hoxs
   have hf1:f1=[]:=by
    cases h1 with
    | agg _ _=>simp [Value.oneCell'] at hox
    | tup _ _=>simp [Value.oneCell'] at hox
    | own0=>exact absurd rfl (hc' _ _)
    | own=>exact absurd rfl (hc' _ _)
    | lit h=>exact h.nil_inv.2
    | fn _ _ h=>exact h.nil_inv.2
    | ip _ _ _ _ _ _ h=>exact h.nil_inv.2
    | isl0 _ _ h=>exact h.nil_inv.2
    | isl _ _ _ _ _ _ _ _ h=>exact h.nil_inv.2
    | sl _ h=>exact h.nil_inv.2
    | slD _ _ h=>exact h.nil_inv.2
    | ptr _ _ h=>exact h.nil_inv.2
    | ptrD _ _ h=>exact h.nil_inv.2
    | asl _ _ h=>exact h.nil_inv.2
    | aslD _ _ h=>exact h.nil_inv.2
    | dead h=>exact h.nil_inv.2
   subst hf1
   refine ⟨ois,fpl,l1,l2,by simpa using l3,l4,fun E' hx' hal=>?_⟩
   have:=((h1.ext hx').toO).cons' (l5 E' hx' hal)
   simpa using this
theorem CG {nid:Nat}:∀ {cs:List V},(Ak nid cs).1.length=cs.length
 | []=>rfl
 | c::cs=>by
  by_cases hc:∃ sz els,c=.own sz els
  ·obtain ⟨sz,els,rfl⟩:=hc;simp [Ak,CG]
  ·have hc':∀ sz els,c≠.own sz els:=fun sz els e=>hc ⟨sz,els,e⟩
   rw [EM hc'];simp [CG]
theorem CV:∀ {L:List (List Nat)},L.flatten.Nodup→∀ {i:Nat} {l:List Nat},L[i]?=some l→l.Nodup
 | [],_,i,l,hl=>by simp at hl
 | x::L,h,i,l,hl=>by
  rw [List.flatten_cons,List.nodup_append] at h
  cases i with
  | zero=>simp at hl;subst hl;exact h.1
  | succ i=>exact CV h.2.1 (by simpa using hl)
theorem Fq:∀ {L:List (List Nat)},L.flatten.Nodup→∀ {i j:Nat} {l m:List Nat} {b:Nat},L[i]?=some l→L[j]?=some m→b∈l→b∈m→i=j
 | [],_,i,j,l,m,b,hl,_,_,_=>by simp at hl
 | x::L,h,i,j,l,m,b,hl,hm,hb,hb'=>by
  rw [List.flatten_cons,List.nodup_append] at h
  obtain ⟨_,h2,h3⟩:=h
  cases i<;>cases j
  ·rfl
  ·simp at hl hm;subst hl
   exact absurd rfl (h3 b hb b (List.mem_flatten.2 ⟨m,List.mem_of_getElem? hm,hb'⟩))
  ·simp at hl hm;subst hm
   exact absurd rfl (h3 b hb' b (List.mem_flatten.2 ⟨l,List.mem_of_getElem? hl,hb⟩))
  ·rename_i i j
   have:=Fq h2 (i:=i) (j:=j) (by simpa using hl) (by simpa using hm) hb hb'
   omega
def numE (nid:Nat) (fpl:List (List Nat)) (f:Nat→List Nat):Nat→List Nat:=fun i=>if nid≤i∧i<nid+fpl.length then fpl.getD (i - nid) [] else f i
def numA (nid:Nat) (ois:List OI) (f:Nat→Option OI):Nat→Option OI:=fun i=>if nid≤i∧i<nid+ois.length then ois[i - nid]? else f i
section
variable {P:Program} {L:Lay} {E:Env} {hp:Hp} {tm:Nat→V} {a:Act} {o:Oper} (hL:Ez P L) (hT:Hx E tm a) (hh:BE E hp)
include hL in
theorem Jf {t:TypeId} {ti:TI} (hti:L t=some ti) {w:World} {b off:Nat} {zs:List Value} (hr:w.rangeAt b off zs) (hl:zs.length=ti.size) :
  (loadVar t ⟨b,off,none⟩).run P w=.ok (if ti.k.agg then .agg zs.toArray else zs.headD undef) w:=by
 have hok:=hL _ _ hti
 cases ha:ti.k.agg with
 | true =>
  obtain ⟨d,hd,hrow⟩:=hok.row
  obtain ⟨i,hi,hs,_⟩:=hok.info
  simpa using run_loadVar_mid w b off t zs d hr hd (by rw [hrow,ha]) (by simp [hi,hs,hl])
 | false =>
  have h1:=hok.one ha
  rw [h1] at hl
  have:∃ z,zs=[z]:=by
   cases zs with
   | nil=>simp at hl
   | cons z r=>simp at hl;subst hl;exact ⟨z,rfl⟩
  obtain ⟨z,rfl⟩:=this
  have hc:=hr 0 z rfl
  simp only [Nat.add_zero] at hc
  simp [loadVar,QK hok,ha,hc]
theorem Cd {w:World} {b sz len cap:Nat} {ys:List Value} (h:El w b sz len cap ys):w.rangeAt b 0 ys:=by
 obtain ⟨cur,e,hh,_,ht⟩:=h.ex
 intro j v hj
 rw [← ht,List.getElem?_take] at hj
 split at hj
 ·simp only [World.cell?,Nat.zero_add,hh];simpa using hj
 ·cases hj
def Lop (P:Program) (E:Env) (hp':Hp) (a:Act) (o:Oper) (v:V) (nid new:Nat):Prop :=
 ∃ E' y,(execOp a.eval o).run P E.w=.ok (.value y) E.w∧E'.w=E.w∧Nx E E'∧BE E' hp'∧R1 E' .O v y []∧(∀ i,E'.U i↔E.U i∨(nid≤i∧i<nid+new))
omit hL hT hh in
theorem Lop.mop {P:Program} {E:Env} {hp':Hp} {a:Act} {o:Oper} {v:V} {nid new:Nat} (h:Lop P E hp' a o v nid new):Mop P E hp' a o v nid new:=by
 obtain ⟨E',y,h1,h2,h3,h4,h5,h6⟩:=h
 intro K Q hK
 refine DK h1 ?_
 have:=hK E' y h3 h4 h5 h6
 rwa [h2] at this
omit hL hT hh in
theorem Lop.of_pop {P:Program} {E:Env} {hp:Hp} (hh:BE E hp) {a:Act} {o:Oper} {v:V} (h:Pop P E a o v) (nid:Nat):Lop P E hp a o v nid 0:=by
 obtain ⟨y,hrun,hr⟩:=h
 exact ⟨E,y,hrun,rfl,Nx.refl E,hh,hr,fun i=>by constructor<;>intro h<;>first | exact .inl h | (rcases h with h | h;exact h;omega)⟩
include hL hh hT in
theorem OH {t:TypeId} {x:Operand} (ho:o.op=.load t x) {nid:Nat} {e:Eff} (he:(Fk L nid t (eV tm x)).run hp=some e) (hU:∀ i,nid≤i→i<nid+e.new→¬ E.U i) :
  Lop P E (Av hp e.upd) a o e.v nid e.new:=by
 have hx:=AV hT x
 generalize hxe:a.eval x=xa at hx
 unfold Fk at he
 split at he
 ·simp [AM.run] at he
 ·rename_i ti hti
  have hok:=hL _ _ hti
  split at he
  ·rename_i p row off hvs
   rw [hvs] at hx
   split at he
   ·rename_i v hv
    simp only [DT,AM.run,Option.some.injEq] at he
    subst he
    cases hx with
    | @ip _ _ _ _ blk DR ys _ _ _ hF hN hm h1 hr hone h =>
     refine Lop.of_pop hh ?_ nid
     unfold FC at hv
     split at hv
     ·rename_i hle
      simp at hv;subst hv
      have hrow:Rs E .O row ys []:=h1.toO
      have hsub:=(hrow.drop off).take ti.size
      have hlen:((ys.drop off).take ti.size).length=ti.size:=by rw [hsub.length];simp;omega
      have hrun:=Jf hL hti (DA (Ep hr off) ti.size) hlen
      refine ⟨_,by simp [execOp,ho,hxe,Instr.loadAt,Instr.sureAddr,hrun];rfl,?_⟩
      cases ha:ti.k.agg with
      | true=>simpa using Rs.agg hsub .nil
      | false =>
       have h1':=hok.one ha
       have hlt:off<row.length:=by omega
       obtain ⟨y,hy,hry⟩:=hrow.get_nil (i:=off) (v:=row[off]) (by simp [hlt])
       have e1:(row.drop off).headD .dead=row[off]:=by simp [List.head?_drop,hlt]
       have e2:((ys.drop off).take ti.size).headD undef=y:=by
        rw [h1']
        have hd:ys.drop off=y::ys.drop (off+1):=by
         have hlt':off<ys.length:=by rw [h1.length];exact hlt
         rw [List.drop_eq_getElem_cons hlt']
         simp [List.getElem?_eq_getElem hlt'] at hy
         rw [hy]
        rw [hd];rfl
       rw [List.headD_eq_head?_getD] at e2
       simp only [Bool.false_eq_true,if_false,List.headD_eq_head?_getD,e2]
       have e3:row[off]?.getD V.dead=row[off]:=by simp [hlt]
       simpa [e3] using hry
     ·cases hv
   ·simp [AM.run] at he
  ·rename_i ob i off hvs
   rw [hvs] at hx
   simp only [AM.rd,AM.run] at he
   cases hob:hp ob with
   | none=>simp [hob,AM.run] at he
   | some obj =>
    simp only [hob] at he
    obtain ⟨oi,hal,hUo,hR⟩:=hh.objs ob obj hob
    obtain ⟨hsz,hlen,hpos,hun,hblk⟩:=hR
    cases hel:obj.els[i]? with
    | none=>simp [hel,AM.run] at he
    | some el =>
     simp only [hel] at he
     split at he
     ·rename_i hle
      cases hx with
      | ptrD h1 h2 h3=>rw [hal] at h1;cases h1
      | @ptr _ _ _ oi' b _ _ _ h1 h2 h3 =>
       rw [hal] at h1;cases h1
       rw [h2] at hblk
       obtain ⟨ys,fi,hrow,hrs,hfp⟩:=hblk
       have helen:=hun el (List.mem_of_getElem? hel)
       obtain ⟨hf1,_⟩:=Gf obj.els obj.sz i el el hun hel
       have hpart:AG obj.els=((AG obj.els).take (i*obj.sz)++el.cells.take off)++(el.cells.drop off).take ti.size++(el.cells.drop (off+ti.size)++(AG obj.els).drop (i*obj.sz+obj.sz)):=by
        conv=>lhs;rw [hf1]
        have:el.cells=el.cells.take off++(el.cells.drop off).take ti.size++el.cells.drop (off+ti.size):=by
         rw [List.append_assoc,← List.drop_drop,List.take_append_drop,List.take_append_drop]
        conv=>lhs;rw [this]
        simp
       have hrs0:=hrs
       rw [hpart] at hrs
       obtain ⟨ya,yx,yb,fa,fx,fb,rfl,rfl,ra,rx,rb⟩:=Rs.parts hrs
       have hi:i<obj.els.length:=by
        rcases Nat.lt_or_ge i obj.els.length with h | h
        ·exact h
        ·simp [List.getElem?_eq_none h] at hel
       have hfl:=Du obj.els obj.sz hun
       have hmul:i*obj.sz+obj.sz≤obj.els.length*obj.sz:=by
        have:=Nat.mul_le_mul_right obj.sz (show i+1≤obj.els.length from hi)
        rwa [Nat.add_mul,Nat.one_mul] at this
       have hya:ya.length=i*obj.sz+off:=by
        rw [ra.length];simp only [List.length_append,List.length_take,hfl,helen];omega
       have hyx:yx.length=ti.size:=by
        rw [rx.length];simp only [List.length_take,List.length_drop,helen];omega
       have hyone:=hrow.one
       have hyxone:ED yx:=fun y hy=>hyone y (by simp [hy])
       have hrange:E.w.rangeAt b (i*obj.sz+off) yx:=by
        have h3:=Ep (Cd hrow) ya.length
        rw [List.append_assoc,List.drop_left] at h3
        have h4:=DA h3 yx.length
        rw [List.take_left] at h4
        simpa [hya] using h4
       have hrun:=Jf hL hti hrange hyx
       have hrunO:(execOp a.eval o).run P E.w=.ok (.value (if ti.k.agg then .agg yx.toArray else yx.headD undef)) E.w:=by
        simp [execOp,ho,hxe,Instr.loadAt,Instr.sureAddr,hsz,hrun]
       -- what is loaded,ER
       obtain ⟨ois,fpl,l1,l2,l3,l4,l5⟩:=HN nid rx hyxone
       generalize hxo:Ak nid ((el.cells.drop off).take ti.size)=xo at he l1 l2 l4 l5
       have hxl:xo.1.length=ti.size:=by
        rw [← hxo,CG];simp only [List.length_take,List.length_drop,helen];omega
       have hval:∀ E',Rs E' .O xo.1 yx []→R1 E' .O (if ti.k.agg then .agg xo.1 else xo.1.headD .dead) (if ti.k.agg then .agg yx.toArray else yx.headD undef) []:=by
        intro E' hr
        cases ha:ti.k.agg with
        | true=>simpa using Rs.agg hr .nil
        | false =>
         have h1':=hok.one ha
         rw [h1'] at hxl hyx
         have:∃ z,yx=[z]:=by
          cases yx with
          | nil=>simp at hyx
          | cons z r=>simp at hyx;subst hyx;exact ⟨z,rfl⟩
         obtain ⟨z,rfl⟩:=this
         have:∃ c,xo.1=[c]:=by
          cases h:xo.1 with
          | nil=>simp [h] at hxl
          | cons z r=>simp [h] at hxl;subst hxl;exact ⟨z,rfl⟩
         obtain ⟨c,hc⟩:=this
         rw [hc] at hr ⊢
         simpa using hr
       cases hnews:xo.2 with
       | nil =>
        simp only [hnews,DT,AM.run,Option.some.injEq] at he
        subst he
        refine Lop.of_pop hh ⟨_,hrunO,hval E (l5 E (Ext.refl E []) (fun k oi hk=>?_))⟩ nid
        have:ois=[]:=List.eq_nil_of_length_eq_zero (by rw [l1,hnews];rfl)
        subst this;simp at hk
       | cons n0 ns =>
        have hxne:xo.2≠[]:=by rw [hnews];simp
        have he':e=⟨if ti.k.agg then .agg xo.1 else xo.1.headD .dead,(ob,some { obj with els:=obj.els.set i (el.withCells (fillCells el.cells off xo.1)),dirty:=true })::Ci nid xo.2,xo.2.length⟩:=by
         simp only [hnews,AM.run,Option.some.injEq] at he
         rw [← he,hnews]
        subst he'
        -- the state behind
        have hbo:b∈E.fps ob:=by rw [hfp];simp
        have hnd:(b::(fa++fx++fb)).Nodup:=by rw [← hfp];exact hh.nodup ob
        have hsl:(b::(fa++fb)).Sublist (b::(fa++fx++fb)):=by
         refine List.Sublist.cons_cons _ ?_
         rw [List.append_assoc]
         exact List.Sublist.append_left (List.sublist_append_right fx fb) fa
        have hfxnd:fpl.flatten.Nodup:=by
         rw [l3]
         refine hnd.sublist ?_
         refine List.Sublist.cons _ ?_
         rw [List.append_assoc]
         exact (List.sublist_append_left fx fb).trans (List.sublist_append_right fa _)
        have hfxin:∀ c∈fx,c∈E.fps ob:=by intro c hc;rw [hfp];simp [hc]
        have hobn:¬ (nid≤ob∧ob<nid+xo.2.length):=fun h=>hU ob h.1 h.2 hUo
        let E':Env:={ E with fps:=upd (numE nid fpl E.fps) ob (b::(fa++fb)),al:=numA nid ois E.al,U:=fun j=>E.U j∨(nid≤j∧j<nid+xo.2.length) }
        have hfpsN:∀ j,nid≤j→j<nid+xo.2.length→E'.fps j=fpl.getD (j - nid) []:=by
         intro j h1 h2
         have:j≠ob:=fun e=>hobn (by rw [← e];exact ⟨h1,h2⟩)
         simp only [E',KC _ _ this,numE]
         rw [if_pos ⟨h1,by rw [l2];exact h2⟩]
        have hfpl:∀ j,nid≤j→j<nid+xo.2.length→∃ fp,fpl[j - nid]?=some fp∧E'.fps j=fp:=by
         intro j h1 h2
         have hlt:j - nid<fpl.length:=by rw [l2];omega
         exact ⟨fpl[j - nid],by simp [hlt],by rw [hfpsN j h1 h2];simp [hlt]⟩
        have hfpin:∀ j,nid≤j→j<nid+xo.2.length→∀ c∈E'.fps j,c∈fx:=by
         intro j h1 h2 c hc
         obtain ⟨fp,h3,h4⟩:=hfpl j h1 h2
         rw [h4] at hc
         rw [← l3];exact List.mem_flatten.2 ⟨fp,List.mem_of_getElem? h3,hc⟩
        have hnx:∀ c∈fx,c∉b::(fa++fb):=by
         intro c hc h
         have h0:=List.nodup_cons.1 hnd
         rcases List.mem_cons.1 h with e | h
         ·subst e;exact h0.1 (by simp [hc])
         ·have h1:=h0.2
          rw [List.append_assoc,List.nodup_append] at h1
          obtain ⟨_,h2,h3⟩:=h1
          rcases List.mem_append.1 h with h | h
          ·exact h3 c h c (by simp [hc]) rfl
          ·rw [List.nodup_append] at h2;exact h2.2.2 c hc c h rfl
        have halN:∀ (k:Nat) (oi:OI),ois[k]?=some oi→E'.al (nid+k)=some oi:=by
         intro k oi hk
         have hlt:k<ois.length:=by
          rcases Nat.lt_or_ge k ois.length with h | h
          ·exact h
          ·simp [List.getElem?_eq_none h] at hk
         simp only [E',numA]
         rw [if_pos ⟨by omega,by omega⟩,show nid+k - nid=k from by omega];exact hk
        have halO:∀ j,¬ (nid≤j∧j<nid+xo.2.length)→E'.al j=E.al j:=by
         intro j hj
         simp only [E',numA]
         rw [if_neg (by rw [l1];exact hj)]
        have hstp:Stp E E' (fun j=>j=ob∨(nid≤j∧j<nid+xo.2.length)) :=
         { size:=Nat.le_refl _,os:=rfl,tape:=rfl,output:=rfl
           no:=fun _ _=>rfl
           fps:=fun j hj=>by
             simp only [not_or] at hj
             simp only [E',KC _ _ hj.1,numE]
             rw [if_neg (by rw [l2];exact hj.2)]
           al:=fun j hj=>halO j (fun h=>hj (.inr h))
           keep:=fun _ _ _ _=>rfl
           own:=fun j hj c hc=>by
             rcases hj with rfl | hj
             · simp only [E',Bv] at hc
               exact .inl ⟨j,.inl rfl,by rw [hfp];exact hsl.subset hc⟩
             · exact .inl ⟨ob,.inl rfl,hfxin c (hfpin j hj.1 hj.2 c hc)⟩
           lt:=fun j hj c hc=>by
             rcases hj with rfl | hj
             · simp only [E',Bv] at hc
               exact hh.lt j c (by rw [hfp];exact hsl.subset hc)
             · exact hh.lt ob c (hfxin c (hfpin j hj.1 hj.2 c hc))
           nodup:=fun j hj=>by
             rcases hj with rfl | hj
             · simp only [E',Bv];exact hnd.sublist hsl
             · obtain ⟨fp,h3,h4⟩:=hfpl j hj.1 hj.2
               rw [h4];exact CV hfxnd h3
           disj:=fun j k c hj hk hc hc'=>by
             rcases hj with rfl | hj<;>rcases hk with rfl | hk
             · rfl
             · simp only [E',Bv] at hc
               exact absurd hc (hnx c (hfpin k hk.1 hk.2 c hc'))
             · simp only [E',Bv] at hc'
               exact absurd hc' (hnx c (hfpin j hj.1 hj.2 c hc))
             · obtain ⟨fp,h3,h4⟩:=hfpl j hj.1 hj.2
               obtain ⟨fp',h3',h4'⟩:=hfpl k hk.1 hk.2
               rw [h4] at hc;rw [h4'] at hc'
               have:=Fq hfxnd h3 h3' hc hc'
               omega
           al':=fun j oj hj h=>by
             by_cases hn:nid≤j∧j<nid+xo.2.length
             · exact absurd (hh.alU j h) (hU j hn.1 hn.2)
             · exact .inl ((halO j hn).trans h)
           dd:=fun j hj h hu=>by
             by_cases hn:nid≤j∧j<nid+xo.2.length
             · exact absurd hu (hU j hn.1 hn.2)
             · exact (halO j hn).trans h
           U:=fun _ h=>.inl h,F:=fun _ h=>h,F':=fun _ h=>.inl h }
        have hext:∀ {f:List Nat},Ext E E' f:=hstp.ext hh (fun _ _=>rfl)
        have hopened:Rs E' .O xo.1 yx []:=l5 E' hext halN
        have hcells':(el.withCells (fillCells el.cells off xo.1)).cells=fillCells el.cells off xo.1:=by
         refine IH ?_ (fun hne c hc=>?_)
         ·simp only [fillCells,List.length_append,List.length_take,List.length_drop];omega
         ·have h1:=V.cells_of_not_agg hne
          have hl1:el.cells.length=1:=by rw [h1];rfl
          have hp1:=hok.pos
          have hoff:off=0:=by omega
          subst hoff
          simp only [fillCells,List.take_zero,List.nil_append,Nat.zero_add] at hc
          have:List.drop xo.1.length el.cells=[]:=List.drop_eq_nil_of_le (by omega)
          rw [this,List.append_nil] at hc
          -- a single cell that was ER: an object's slice
          have hsz1:ti.size=1:=by omega
          have hx1:(List.drop 0 el.cells).take ti.size=[el]:=by rw [h1,hsz1];rfl
          rw [hx1] at hxo
          by_cases hown:∃ sz els,el=.own sz els
          ·obtain ⟨sz,els,rfl⟩:=hown
           rw [← hxo] at hc;simp [Ak] at hc;subst hc;rfl
          ·have hc':∀ sz els,el≠.own sz els:=fun sz els e=>hown ⟨sz,els,e⟩
           rw [EM hc'] at hxo
           exact absurd (show xo.2=[] by rw [← hxo];rfl) hxne
        have hflat':AG (obj.els.set i (el.withCells (fillCells el.cells off xo.1))) =
          ((AG obj.els).take (i*obj.sz)++el.cells.take off)++xo.1++(el.cells.drop (off+ti.size)++(AG obj.els).drop (i*obj.sz+obj.sz)):=by
         rw [(Gf obj.els obj.sz i el _ hun hel).2,hcells',fillCells,hxl]
         simp
        have hnew:Rs E' .O (AG (obj.els.set i (el.withCells (fillCells el.cells off xo.1)))) (ya++yx++yb) (fa++fb):=by
         rw [hflat']
         have:=((ra.ext hext).toO.append hopened).append (rb.ext hext).toO
         simpa using this
        have hR':EK E' (E'.fps ob) { obj with els:=obj.els.set i (el.withCells (fillCells el.cells off xo.1)),dirty:=true } oi:=by
         refine ⟨hsz,by simp [hlen],hpos,?_,?_⟩
         ·exact Mt obj.els obj.sz i _ hun (by rw [hcells'];simp only [fillCells,List.length_append,List.length_take,List.length_drop];omega)
         ·rw [h2]
          refine ⟨_,_,?_,hnew,Bv _ _ _⟩
          simpa using hrow
        obtain ⟨r1,r2⟩:=hstp.fin (hp':=Av hp ((ob,some { obj with els:=obj.els.set i (el.withCells (fillCells el.cells off xo.1)),dirty:=true })::Ci nid xo.2)) hh
         (fun j hj=>by
          simp only [not_or] at hj
          simp only [Av]
          rw [Cs,if_neg hj.2,BQ _ _ hj.1])
         (fun j ob' hj ho=>by
          simp only [Av] at ho
          rw [Cs] at ho
          rcases hj with rfl | hj
          ·rw [if_neg hobn,Bi] at ho
           cases ho
           exact ⟨oi,(halO j hobn).trans hal,.inl hUo,hR'⟩
          ·rw [if_pos hj] at ho
           obtain ⟨oi',fp,h3,h4,h5⟩:=l4 _ _ ho
           refine ⟨oi',?_,.inr hj,?_⟩
           ·have:=halN _ _ h3;rwa [show nid+(j - nid)=j from by omega] at this
           ·have:E'.fps j=fp:=by rw [hfpsN j hj.1 hj.2];simp [List.getD_eq_getElem?_getD,h4]
            rw [this];exact h5.ext hext)
         (fun j hj ho=>by
          simp only [Av] at ho
          rw [Cs] at ho
          rcases hj with rfl | hj
          ·rw [if_neg hobn,Bi] at ho;cases ho
          ·rw [if_pos hj] at ho
           have:j - nid<xo.2.length:=by omega
           simp [this] at ho)
        exact ⟨E',_,hrunO,rfl,r2,r1,hval E' hopened,fun j=>Iff.rfl⟩
     ·simp [AM.run] at he
  ·simp [AM.run] at he
include hL hh hT in
theorem TV {t:TypeId} {x:Operand} (ho:o.op=.load t x) {nid:Nat} {e:Eff} (he:(Fk L nid t (eV tm x)).run hp=some e) (hU:∀ i,nid≤i→i<nid+e.new→¬ E.U i) :
  Mop P E (Av hp e.upd) a o e.v nid e.new:=(OH hL hT hh ho he hU).mop
theorem QZ {E:Env}:∀ {cs:List V} {ys:List Value} {f:List Nat},Rs E .O cs ys f→Rs E .O (cs.map Pg) ys f
 | [],ys,f,h=>h
 | c::cs,ys,f,h=>by
  obtain ⟨x,xs,f1,f2,rfl,rfl,h1,h2⟩:=h.uncons
  have ih:=QZ h2
  have h3:R1 E .O (Pg c) x f1:=by
   cases c with
   | sl o=>cases h1 with
    | sl _ h=>cases h;exact .dead .nil
    | slD _ _ h=>cases h;exact .dead .nil
   | _=>exact h1
  simpa using h3.cons' ih
theorem BE.weak {E:Env} {hp:Hp} (h:BE E hp) {o:Nat} {ob:Ve.Obj} (hob:hp o=some ob) (hd:ob.dirty=true) {els:List V} (hl:els.length=ob.els.length) (hu:∀ e∈els,e.cells.length=ob.sz)
  (hr:∀ ys f,Rs E .O (AG ob.els) ys f→Rs E .O (AG els) ys f):BE E (Fj hp o (some { ob with els:=els })):=by
 refine ⟨fun i ob' hi=>?_,fun i hi=>?_,h.nodup,h.disj,h.lt,h.fno⟩
 ·by_cases hio:i=o
  ·subst hio
   rw [Bi] at hi;cases hi
   obtain ⟨oi,h1,h2,h3,h4,h5,h6,h7⟩:=h.objs i ob hob
   refine ⟨oi,h1,h2,h3,by rw [h4];exact hl.symm,h5,hu,?_⟩
   cases hb:oi.blk with
   | none =>
    rw [hb] at h7
    exact ⟨List.eq_nil_of_length_eq_zero (by rw [hl,h7.1];rfl),h7.2⟩
   | some b =>
    rw [hb] at h7
    obtain ⟨ys,fi,q1,q2,q3⟩:=h7
    rw [hd] at q2
    refine ⟨ys,fi,by simp only [hl];exact q1,?_,q3⟩
    simp only [hd]
    exact hr _ _ q2
  ·rw [BQ _ _ hio] at hi;exact h.objs i ob' hi
 ·by_cases hio:i=o
  ·subst hio;rw [Bi] at hi;cases hi
  ·rw [BQ _ _ hio] at hi;exact h.dead i hi
include hL hh hT in
theorem Wr {t:TypeId} {x:Operand} (ho:o.op=.load t x) {nid:Nat} {e:Eff} (he:(Jn L nid t (eV tm x)).run hp=some e) (hU:∀ i,nid≤i→i<nid+e.new→¬ E.U i) :
  Mop P E (Av hp e.upd) a o e.v nid e.new:=by
 unfold Jn at he
 split at he
 ·simp [AM.run] at he
 ·rename_i ti hti
  split at he
  ·rename_i ob i off hvs
   simp only [AM.rd,AM.run] at he
   cases hob:hp ob with
   | none=>simp [hob,AM.run] at he
   | some obj =>
    simp only [hob] at he
    split at he
    ·rename_i cs hel
     split at he
     ·rename_i hc
      obtain ⟨c1,c2,rfl⟩:=hc
      have hol:(Ak nid cs).1.length=cs.length:=CG
      have hld:Fk L nid t (eV tm x)=.rd ob fun ob'=>match ob'.els[i]? with
       | none=>.fail
       | some el=>if 0+ti.size≤el.cells.length then
         let x:=Ak nid ((el.cells.drop 0).take ti.size)
         let v:V:=if ti.k.agg then .agg x.1 else x.1.headD .dead
         match x.2 with
         | []=>DT v
         | _=>.ret ⟨v,(ob,some { ob' with els:=ob'.els.set i (el.withCells (fillCells el.cells 0 x.1)),dirty:=true })::Ci nid x.2,x.2.length⟩
        else .fail:=by
       unfold Fk
       rw [hti,hvs]
       all_goals rfl
      have htake:(cs.drop 0).take ti.size=cs:=by rw [List.drop_zero,List.take_of_length_le (by omega)]
      have hfill:fillCells cs 0 (Ak nid cs).1=(Ak nid cs).1:=by
       simp only [fillCells,List.take_zero,List.nil_append,Nat.zero_add]
       rw [List.drop_of_length_le (by omega),List.append_nil]
      have hin:i<obj.els.length:=by
       rcases Nat.lt_or_ge i obj.els.length with h | h
       ·exact h
       ·simp [List.getElem?_eq_none h] at hel
      cases hnw:(Ak nid cs).2 with
      | nil=>rw [hnw] at he;simp [AM.run] at he
      | cons nw nws =>
       rw [hnw] at he
       simp only [AM.run,Option.some.injEq] at he;subst he
       have hrun:(Fk L nid t (eV tm x)).run hp=some ⟨.agg (Ak nid cs).1,(ob,some { obj with els:=obj.els.set i (.agg (Ak nid cs).1),dirty:=true })::Ci nid (nw::nws),(nw::nws).length⟩:=by
        rw [hld]
        simp only [AM.rd,AM.run,hob,hel,V.cells]
        rw [if_pos (by omega),htake,hnw,hfill]
        simp only [c2,if_true,V.withCells,AM.run]
       have hm:=TV hL hT hh ho hrun hU
       intro K Q hK
       refine hm K Q (fun E' y g1 g2 g3 g4=>hK E' y g1 ?_ g3 g4)
       obtain ⟨oi,_,hUo,_,_,_,hun,_⟩:=hh.objs ob obj hob
       have hobn:∀ j,nid≤j→j<nid+(nw::nws).length→j≠ob:=fun j h1 h2 e=>hU j h1 h2 (e▸hUo)
       have hlook:Av hp ((ob,some { obj with els:=obj.els.set i (.agg (Ak nid cs).1),dirty:=true })::Ci nid (nw::nws)) ob=some { obj with els:=obj.els.set i (.agg (Ak nid cs).1),dirty:=true }:=by
        simp only [Av]
        rw [Cs,if_neg (fun h=>hobn ob h.1 h.2 rfl),Bi]
       have hcl:((V.agg (Ak nid cs).1)).cells.length=obj.sz:=by
        have:=hun (.agg cs) (List.mem_of_getElem? hel)
        simp only [V.cells] at this ⊢
        rw [hol,this]
       have hw:=g2.weak (els:=obj.els.set i (.agg ((Ak nid cs).1.map Pg))) hlook rfl (by simp) (Mt obj.els obj.sz i _ hun (by simpa [V.cells] using hcl)) (fun ys f hr=>by
        simp only at hr
        rw [(Gf obj.els obj.sz i _ _ hun hel).2] at hr ⊢
        obtain ⟨ya,yx,yb,fa,fx,fb,rfl,rfl,r1,r2,r3⟩:=Rs.parts hr
        exact (r1.append (QZ r2)).append r3)
       have heq:Fj (Av hp ((ob,some { obj with els:=obj.els.set i (.agg (Ak nid cs).1),dirty:=true })::Ci nid (nw::nws))) ob (some { obj with els:=obj.els.set i (.agg ((Ak nid cs).1.map Pg)),dirty:=true }) =
         Av hp ((ob,some { obj with els:=obj.els.set i (.agg ((Ak nid cs).1.map Pg)),dirty:=true })::Ci nid (nw::nws)):=by
        funext j
        simp only [Av]
        rw [Cs]
        by_cases hj:j=ob
        ·subst hj
         rw [Bi,if_neg (fun h=>hobn j h.1 h.2 rfl),Bi]
        ·rw [BQ _ _ hj,Cs,BQ _ _ hj,BQ _ _ hj]
       rw [← heq]
       exact hw
     ·simp [AM.run] at he
    ·simp [AM.run] at he
  ·simp [AM.run] at he
include hL hh hT in
theorem tB {x:Operand} {ts:Array TypeId} (ho:o.op=.call { callee:=.builtin .len,args:=#[x],argTypes:=ts }) {t:TypeId} (hts:ts[0]?=some t) {el:TypeId} (hu:P.underlying t=some (.slice el))
  {nid:Nat} {e:Eff} (he:(OL (eV tm x)).run hp=some e):Mop P E (Av hp e.upd) a o e.v nid e.new:=by
 have hx:=AV hT x
 generalize hxe:a.eval x=xa at hx
 have key:∀ (ad:Option Addr) (n cap:Nat),xa=.slice ad n cap→Pop P E a o (.lit (goInt n)):=by
  intro ad n cap h
  subst h
  refine ⟨goInt n,?_,.lit .nil⟩
  simp [execOp,ho,resolve,invoke,builtin,hxe,Builtin.len_,hts,run_underlying hu]
 unfold OL at he
 split at he
 ·rename_i hvs
  rw [hvs] at hx
  obtain ⟨rfl,_⟩:=BX hx
  simp only [DT,AM.run,Option.some.injEq] at he;subst he
  exact Mop.of_pop hh (key _ _ _ rfl) nid
 ·rename_i hvs
  rw [hvs] at hx
  simp only [DT,AM.run,Option.some.injEq] at he;subst he
  cases hx with
  | isl0=>exact Mop.of_pop hh (key _ _ _ rfl) nid
  | isl=>exact Mop.of_pop hh (key _ _ _ rfl) nid
 ·rename_i hvs
  rw [hvs] at hx
  simp only [DT,AM.run,Option.some.injEq] at he;subst he
  cases hx with
  | own0=>exact Mop.of_pop hh (key _ _ _ rfl) nid
 ·rename_i ob hvs
  rw [hvs] at hx
  simp only [AM.rd,AM.run] at he
  cases hob:hp ob with
  | none=>simp [hob,AM.run] at he
  | some obj =>
   simp only [hob,DT,AM.run,Option.some.injEq] at he;subst he
   obtain ⟨oi,hal,hUo,hR⟩:=hh.objs ob obj hob
   cases hx with
   | slD h1 h2 h3=>rw [hal] at h1;cases h1
   | sl h1 h3 =>
    rw [hal] at h1;cases h1
    obtain ⟨_,hlen,_,_,hblk⟩:=hR
    cases hb:oi.blk with
    | none =>
     rw [hb] at hblk
     have:=key oi.ad 0 0 (by simp [OI.slice,hb])
     have he0:obj.els.length=0:=by rw [hblk.1];rfl
     rw [he0]
     exact Mop.of_pop hh this nid
    | some b =>
     have:=key (some ⟨b,0,none⟩) oi.len oi.cap (by simp [OI.slice,hb])
     rw [hlen] at this
     exact Mop.of_pop hh this nid
 ·simp [AM.run] at he
include hL hh hT in
theorem Kt {t:TypeId} {x i:Operand} (ho:o.op=.indexAddr t x i) {e:Eff} (he:(Eb L t (eV tm x) (eV tm i)).run hp=some e) :
  Pop P E a o e.v∧e.upd=[]∧e.new=0:=by
 have hx:=AV hT x
 have hi:=AV hT i
 generalize hxe:a.eval x=xa at hx
 unfold Eb at he
 split at he
 ·simp [AM.run] at he
 ·rename_i n hn
  obtain ⟨k,hi1,hi2⟩:=LF hi hn
  split at he
  ·rename_i len el _ _ _ _ hti
   have hu:=(hL _ _ hti).arr _ _ rfl
   split at he
   ·rename_i ei hei
    split at he
    ·rename_i hb
     have key:∀ b q,xa=.pointer (some ⟨b,q,none⟩)→(execOp a.eval o).run P E.w=.ok (.value (.pointer (some ⟨b,q+n.toNat*ei.size,none⟩))) E.w:=by
      intro b q h
      subst h
      simp [execOp,ho,hxe,hi2,Instr.indexAt,asIntOf,run_underlying hu,Instr.sureAddr,hb,Dy (hL _ _ hei),Addr.add_mid]
     split at he
     ·rename_i hvs
      rw [hvs] at hx
      simp only [DT,AM.run,Option.some.injEq] at he;subst he
      cases hx with
      | ptr h1 h2 h3=>exact ⟨⟨_,key _ _ rfl,by rw [Nat.add_assoc];exact .ptr h1 h2 .nil⟩,rfl,rfl⟩
      | ptrD h1 h2 h3=>exact ⟨⟨_,key _ _ rfl,.ptrD h1 h2 .nil⟩,rfl,rfl⟩
     ·rename_i hvs
      rw [hvs] at hx
      simp only [DT,AM.run,Option.some.injEq] at he;subst he
      cases hx with
      | ip hF hN hm h1 hr hone h=>exact ⟨⟨_,key _ _ rfl,by rw [Nat.add_assoc];exact .ip hF hN hm h1 hr hone .nil⟩,rfl,rfl⟩
     ·simp [AM.run] at he
    ·simp [AM.run] at he
   ·simp [AM.run] at he
  ·rename_i hti
   have hu:=(hL _ _ hti).sl _ rfl
   split at he
   ·rename_i ei hei
    have key:∀ b q m cap,xa=.slice (some ⟨b,q,none⟩) m cap→0≤n→n<(m:Int)→(execOp a.eval o).run P E.w=.ok (.value (.pointer (some ⟨b,q+n.toNat*ei.size,none⟩))) E.w:=by
     intro b q m cap h h0 h1
     subst h
     simp [execOp,ho,hxe,hi2,Instr.indexAt,asIntOf,run_underlying hu,h0,h1,Dy (hL _ _ hei),Addr.add_mid]
    split at he
    ·rename_i ob hvs
     rw [hvs] at hx
     simp only [AM.rd,AM.run] at he
     cases hob:hp ob with
     | none=>simp [hob,AM.run] at he
     | some obj =>
      simp only [hob] at he
      split at he
      ·rename_i hb
       simp only [DT,AM.run,Option.some.injEq] at he;subst he
       obtain ⟨oi,hal,hUo,hR⟩:=hh.objs ob obj hob
       cases hx with
       | slD h1 h2 h3=>rw [hal] at h1;cases h1
       | sl h1 h3 =>
        rw [hal] at h1;cases h1
        obtain ⟨hsz,hlen,_,_,hblk⟩:=hR
        cases hbk:oi.blk with
        | none=>rw [hbk] at hblk;rw [hblk.1] at hb;simp at hb;omega
        | some b =>
         have hrun:=key b 0 oi.len oi.cap (by simp [OI.slice,hbk]) hb.1 (by rw [hlen];exact hb.2.1)
         refine ⟨⟨_,hrun,?_⟩,rfl,rfl⟩
         have:=Rs.ptr (E:=E) (o:=ob) (i:=n.toNat) (off:=0) hal hbk Rs.nil (f:=[])
         rw [hsz,hb.2.2] at this
         simpa using this
      ·simp [AM.run] at he
    ·rename_i p nn sz0 els hvs
     rw [hvs] at hx
     split at he
     ·rename_i hb
      cases hel:els[n.toNat]? with
      | none=>simp [hel,AM.run] at he
      | some el =>
       simp only [hel] at he
       simp only [DT,AM.run,Option.some.injEq] at he;subst he
       cases hx with
       | isl0=>simp at hel
       | @isl _ _ _ _ blk off cap _ ys _ _ _ hc hF hN hm hs h1 hr hone h =>
        have hrun:=key blk off els.length cap rfl hb.1 hb.2.1
        have hse:=hb.2.2
        subst hse
        have hsz:=hs el (List.mem_of_getElem? hel)
        refine ⟨⟨_,hrun,?_⟩,rfl,rfl⟩
        obtain ⟨hf,_⟩:=Gf els ei.size n.toNat el el hs hel
        have hlt:n.toNat<els.length:=by omega
        have hfl:=Du els ei.size hs
        have hmul:n.toNat*ei.size+ei.size≤els.length*ei.size:=by
         have:=Nat.mul_le_mul_right ei.size (show n.toNat+1≤els.length from hlt)
         rwa [Nat.add_mul,Nat.one_mul] at this
        have hsub:((AG els).drop (n.toNat*ei.size)).take ei.size=el.cells:=by
         conv=>lhs;rw [hf]
         have hl1:(List.take (n.toNat*ei.size) (AG els)).length=n.toNat*ei.size:=by rw [List.length_take,hfl];omega
         rw [List.append_assoc,List.drop_append,hl1,Nat.sub_self,List.drop_zero]
         have:List.drop (n.toNat*ei.size) (List.take (n.toNat*ei.size) (AG els))=[]:=List.drop_eq_nil_of_le (by omega)
         rw [this,List.nil_append,List.take_append,hsz,Nat.sub_self,List.take_zero,List.append_nil,List.take_of_length_le (Nat.le_of_eq hsz)]
        have hrel:=(h1.drop (n.toNat*ei.size)).take ei.size
        rw [hsub] at hrel
        have:=Rs.ip (E:=E) (m:=.O) (p:=p) (row:=el.cells) (off:=0) (blk:=blk) (DR:=off+n.toNat*ei.size) hF hN hm hrel (DA (Ep hr _) _) ((hone.drop _).take _) Rs.nil
        simpa using this
     ·simp [AM.run] at he
    ·simp [AM.run] at he
   ·simp [AM.run] at he
  ·simp [AM.run] at he
include hL hh hT in
theorem PS {t:TypeId} {x i:Operand} (ho:o.op=.indexAddr t x i) {nid:Nat} {e:Eff} (he:(Eb L t (eV tm x) (eV tm i)).run hp=some e) :
  Mop P E (Av hp e.upd) a o e.v nid e.new:=by
 obtain ⟨h1,h2,h3⟩:=Kt hL hT hh ho he
 rw [h2,h3]
 exact Mop.of_pop hh h1 nid
include hL hh hT in
theorem OC {t:TypeId} {x i:Operand} (ho:o.op=.indexAddr t x i) {nid:Nat} {e:Eff} (he:(Fl L nid t (eV tm x) (eV tm i)).run hp=some e) (hU:∀ i,nid≤i→i<nid+e.new→¬ E.U i) :
  Mop P E (Av hp e.upd) a o e.v nid e.new:=by
 unfold Fl at he
 rw [Qh,Option.bind_eq_some_iff] at he
 obtain ⟨p,hp1,he⟩:=he
 obtain ⟨⟨y,hrun,hr⟩,h2,h3⟩:=Kt hL hT hh ho hp1
 split at he
 ·rename_i el _ _ _ _ hti
  rw [Qh,Option.bind_eq_some_iff] at he
  obtain ⟨q,hq,he⟩:=he
  simp only [AM.run,Option.some.injEq] at he
  subst he
  have hT1:Hx E (fun k=>if k=0 then p.v else BG) { a with tmps:=#[y],defers:=[] }:=by
   refine ⟨rfl,fun k=>?_⟩
   cases k with
   | zero=>simpa using hr
   | succ k=>simpa [BG,undef] using (Rs.lit (E:=E) (m:=.O) .nil)
  obtain ⟨E',y',_,hw,hn,hH,_,hu⟩:=OH (o:={ o with op:=.load el (.tmp 0) }) hL hT1 hh rfl hq hU
  intro K Q hK
  refine DK hrun ?_
  have:=hK E' y hn hH (hr.ext hn.ext) hu
  rwa [hw] at this
 ·simp only [AM.run,Option.some.injEq] at he
  subst he
  rw [h2,h3]
  exact Mop.of_pop hh ⟨y,hrun,hr⟩ nid
end
end Ve
