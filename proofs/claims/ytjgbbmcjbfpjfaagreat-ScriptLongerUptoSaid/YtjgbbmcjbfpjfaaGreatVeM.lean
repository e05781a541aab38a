/- Short words for the evaluator's tables. -/
import Derived.Test.YtjgbbmcjbfpjfaaGreatVeA
import Derived.Test.YtjgbbmcjbfpjfaaGreatVeC
set_option linter.all false
set_option linter.unusedSectionVars false
namespace Ve.Ab
open Go
abbrev t (n:Nat):Operand:=.tmp n
abbrev n (x:Int):Operand:=.const (.int .i64 x)
abbrev b (x:Bool):Operand:=.const (.bool x)
abbrev f (x:Nat):Operand:=.func x
abbrev o (d:Nat) (op:Op):IOp:=⟨some d,op,none,false⟩
abbrev w (op:Op):IOp:=⟨none,op,none,false⟩
abbrev z (d:Nat) (op:Op):IOp:=⟨some d,op,none,true⟩
abbrev oT (d:Nat) (op:Op) (g:Nat):IOp:=⟨some d,op,some (g,true),false⟩
abbrev oF (d:Nat) (op:Op) (g:Nat):IOp:=⟨some d,op,some (g,false),false⟩
abbrev zT (d:Nat) (op:Op) (g:Nat):IOp:=⟨some d,op,some (g,true),true⟩
abbrev zF (d:Nat) (op:Op) (g:Nat):IOp:=⟨some d,op,some (g,false),true⟩
abbrev mv (x:Nat):Op:=.move (.tmp x)
abbrev av (x:Nat):Op:=.assign (.tmp x)
abbrev an (x:Int):Op:=.assign (.const (.int .i64 x))
abbrev ab (x:Bool):Op:=.assign (.const (.bool x))
abbrev ld (ty x:Nat):Op:=.load ty (.tmp x)
abbrev st (ty x y:Nat):Op:=.store ty (.tmp x) (.tmp y)
abbrev fa (ty x i:Nat):Op:=.fieldAddr ty (.tmp x) i
abbrev ia (ty x i:Nat):Op:=.indexAddr ty (.tmp x) (.tmp i)
abbrev nc (x:Nat):Op:=.nilCheck (.tmp x)
abbrev al (ty:Nat):Op:=.alloc ty
abbrev bx (ty x:Nat):Op:=.box ty (.tmp x)
abbrev xt (x i:Nat):Op:=.extract (.tmp x) i
abbrev bo (k:BinOp) (x y:Operand):Op:=.binOp k 3 x y 3
abbrev cl (g:Nat) (xs:Array Operand) (ts:Array TypeId):Op:=.call { callee:=.value (.func g),args:=xs,argTypes:=ts }
abbrev len (x:Nat) (ty:TypeId):Op:=.call { callee:=.builtin .len,args:=#[.tmp x],argTypes:=#[ty] }
abbrev R (xs:List IOp):IR:=.region xs none
abbrev D (xs:List IOp) (ys:List (List Nat)):IR:=.region xs (some ys)
abbrev S (x y:IR):IR:=.seq x y
end Ve.Ab
namespace Ve
def lk {α:Type}:List (Nat × α)→Nat→Option α
 | [],_=>none
 | (k,v)::r,n=>match Nat.beq n k with
  | true=>some v
  | false=>lk r n
theorem Sl {α:Type}:∀ {l:List (Nat × α)} {n:Nat} {v:α},lk l n=some v→(n,v)∈l
 | [],n,v,h=>by cases h
 | (k,w)::r,n,v,h=>by
  simp only [lk] at h
  split at h
  ·rename_i hb
   have:=Nat.eq_of_beq_eq_true hb
   cases h;subst this;simp
  ·exact List.mem_cons_of_mem _ (Sl h)
end Ve
namespace Ve.Ab
open Go
abbrev m1 (d x:Nat):IOp:=o d (.move (.tmp x))
abbrev v1 (d x:Nat):IOp:=o d (.assign (.tmp x))
abbrev l1 (d ty x:Nat):IOp:=o d (ld ty x)
abbrev f1 (d ty x i:Nat):IOp:=o d (fa ty x i)
abbrev a1 (d ty x i:Nat):IOp:=o d (ia ty x i)
abbrev s1 (ty x y:Nat):IOp:=w (st ty x y)
abbrev x1 (d x i:Nat):IOp:=o d (xt x i)
abbrev n1 (d:Nat) (k:Int):IOp:=o d (an k)
abbrev b1 (d:Nat) (x:Bool):IOp:=o d (ab x)
abbrev e1 (d ty:Nat):IOp:=o d (al ty)
abbrev h1 (d x ty:Nat):IOp:=o d (len x ty)
abbrev m2 (d x g:Nat):IOp:=oT d (mv x) g
abbrev m3 (d x g:Nat):IOp:=oF d (mv x) g
abbrev l2 (d ty x g:Nat):IOp:=oT d (ld ty x) g
abbrev l3 (d ty x g:Nat):IOp:=oF d (ld ty x) g
abbrev f2 (d ty x i g:Nat):IOp:=oT d (fa ty x i) g
abbrev f3 (d ty x i g:Nat):IOp:=oF d (fa ty x i) g
abbrev n3 (d ty x g:Nat):IOp:=oF d (.unOp .not ty (.tmp x)) g
abbrev cA (g x ty:Nat):Op:=cl g #[.tmp x] #[ty]
abbrev cB (g x y ty tz:Nat):Op:=cl g #[.tmp x,.tmp y] #[ty,tz]
abbrev cC (g x y u ty tz tu:Nat):Op:=cl g #[.tmp x,.tmp y,.tmp u] #[ty,tz,tu]
abbrev cV (f x ty:Nat):Op:=.call { callee:=.value (.tmp f),args:=#[.tmp x],argTypes:=#[ty] }
abbrev aP (x y ty:Nat):Op:=.call { callee:=.builtin .append,args:=#[.tmp x,.tmp y],argTypes:=#[ty,ty] }
abbrev pF (x y:Nat):Op:=.pick (.tmp x) (.tmp y) (.const (.bool false))
abbrev pT (x y:Nat):Op:=.pick (.tmp x) (.const (.bool true)) (.tmp y)
abbrev nT (ty x:Nat):Op:=.unOp .not ty (.tmp x)
abbrev nL:Op:=.assign (.const (.slice none 0 0))
abbrev mI (k:Int):Op:=.move (.const (.int .i64 k))
abbrev sK (ty x:Nat) (k:Int):Op:=.store ty (.tmp x) (.const (.int .i64 k))
abbrev sN (ty x:Nat):Op:=.store ty (.tmp x) (.const (.slice none 0 0))
abbrev bO (ty x:Nat):Op:=.buildSlice ty 1 #[(0,.tmp x)]
abbrev bZ (ty:Nat):Op:=.build ty #[]
abbrev bt (k:BinOp) (x y:Nat):Op:=bo k (.tmp x) (.tmp y)
abbrev bn (k:BinOp) (x:Nat) (y:Int):Op:=bo k (.tmp x) (.const (.int .i64 y))
abbrev q1 (d g x ty:Nat):IOp:=o d (cA g x ty)
abbrev q2 (d g x y ty tz:Nat):IOp:=o d (cB g x y ty tz)
abbrev j1 (k:BinOp) (d x:Nat) (y:Int):IOp:=o d (bn k x y)
abbrev j2 (k:BinOp) (d x y:Nat):IOp:=o d (bt k x y)
abbrev z1 (d ty x:Nat):IOp:=z d (bx ty x)
abbrev p1 (d x y:Nat):IOp:=o d (pF x y)
abbrev p2 (d x y:Nat):IOp:=o d (pT x y)
abbrev r1 (d ty x:Nat):IOp:=o d (nT ty x)
abbrev u1 (d x:Nat):IOp:=o d (nc x)
abbrev Q (xs:List IOp) (y:IR):IR:=.seq (.region xs none) y
abbrev P (xs:List IOp) (c:Nat) (y z:IR):IR:=.seq (.seq (.region xs none) (.cond (.tmp c) y .skip)) z
end Ve.Ab
namespace Ve
open Go
structure A4 (α:Type) where
 a0:α
 a1:α
 a2:α
 a3:α
deriving DecidableEq,Inhabited
structure Ap where
 val:Int
 ver:Int
 lock:Int
deriving DecidableEq,Inhabited
structure AI where
 code:Int
 a:Int
 b:Int
 c:Int
deriving DecidableEq,Inhabited
structure AN where
 level:Int
 index:Int
 ver:Int
deriving DecidableEq,Inhabited
structure Ao where
 level:Int
 index:Int
 val:Int
deriving DecidableEq,Inhabited
structure Bk where
 id:Int
 label:Int
 clear:Int
 prog:List AI
deriving DecidableEq,Inhabited
structure Ai where
 id:Int
 label:Int
 clear:Int
 prog:List AI
 step:Int
 pc:Int
 regs:A4 Int
 reads:List AN
 writes:List Ao
 at_:Int
 stamp:Int
 tries:Int
 result:Int
 told:Int
deriving DecidableEq,Inhabited
structure AY where
 id:Int
 label:Int
 kind:Int
 val:Int
deriving DecidableEq,Inhabited
structure Ad where
 words:A4 (List Ap)
 clocks:A4 Int
 ceil:Int
 sess:List Ai
 trace:List AY
deriving DecidableEq,Inhabited
structure AR where
 level:Int
 pick:Int
deriving DecidableEq,Inhabited
structure Aq where
 words:A4 (List Int)
 ceil:Int
 starts:List Bk
 slots:List AR
deriving DecidableEq,Inhabited
abbrev iV (n:Int):V:=.lit (.int .i64 n)
abbrev bV (b:Bool):V:=.lit (.bool b)
abbrev uV:V:=.lit (.tuple #[])
def eW (w:Ap):V:=.agg [iV w.val,iV w.ver,iV w.lock]
def eI (w:AI):V:=.agg [iV w.code,iV w.a,iV w.b,iV w.c]
def eR (w:AN):V:=.agg [iV w.level,iV w.index,iV w.ver]
def eWr (w:Ao):V:=.agg [iV w.level,iV w.index,iV w.val]
def eE (w:AY):V:=.agg [iV w.id,iV w.label,iV w.kind,iV w.val]
def eSl (w:AR):V:=.agg [iV w.level,iV w.pick]
abbrev eWs (p:Bool) (ws:List Ap):V:=.isl p false 3 (ws.map eW)
abbrev eIs (p:Bool) (ws:List AI):V:=.isl p false 4 (ws.map eI)
abbrev eRs (p:Bool) (ws:List AN):V:=.isl p false 3 (ws.map eR)
abbrev mE (p:Bool) (ws:List Ao):V:=.isl p false 3 (ws.map eWr)
abbrev eEs (p:Bool) (ws:List AY):V:=.isl p false 4 (ws.map eE)
def eS (p:Bool) (s:Ai):V:=.agg [iV s.id,iV s.label,iV s.clear,eIs p s.prog,iV s.step,iV s.pc,iV s.regs.a0,iV s.regs.a1,iV s.regs.a2,iV s.regs.a3,eRs p s.reads,mE p s.writes,iV s.at_,iV s.stamp,iV s.tries,iV s.result,iV s.told]
abbrev eSs (p:Bool) (ws:List Ai):V:=.isl p false 17 (ws.map (eS p))
abbrev cM (p:Bool) (m:Ad):List V:=[eWs p m.words.a0,eWs p m.words.a1,eWs p m.words.a2,eWs p m.words.a3,iV m.clocks.a0,iV m.clocks.a1,iV m.clocks.a2,iV m.clocks.a3,iV m.ceil,eSs p m.sess,eEs p m.trace]
abbrev eM (p:Bool) (m:Ad):V:=.agg (cM p m)
abbrev oWs (ws:List Ap):V:=.own 3 (ws.map eW)
abbrev oIs (ws:List AI):V:=.own 4 (ws.map eI)
abbrev oRs (ws:List AN):V:=.own 3 (ws.map eR)
abbrev PQ (ws:List Ao):V:=.own 3 (ws.map eWr)
abbrev oEs (ws:List AY):V:=.own 4 (ws.map eE)
def oS (s:Ai):V:=.agg [iV s.id,iV s.label,iV s.clear,oIs s.prog,iV s.step,iV s.pc,iV s.regs.a0,iV s.regs.a1,iV s.regs.a2,iV s.regs.a3,oRs s.reads,PQ s.writes,iV s.at_,iV s.stamp,iV s.tries,iV s.result,iV s.told]
abbrev oSs (ws:List Ai):V:=.own 17 (ws.map oS)
abbrev cO (m:Ad):List V:=[oWs m.words.a0,oWs m.words.a1,oWs m.words.a2,oWs m.words.a3,iV m.clocks.a0,iV m.clocks.a1,iV m.clocks.a2,iV m.clocks.a3,iV m.ceil,oSs m.sess,oEs m.trace]
abbrev oM (m:Ad):V:=.agg (cO m)
abbrev hM (m:Ad):List Obj:=[⟨3,m.words.a0.map eW,false⟩,⟨3,m.words.a1.map eW,false⟩,⟨3,m.words.a2.map eW,false⟩,⟨3,m.words.a3.map eW,false⟩,⟨17,m.sess.map oS,false⟩,⟨4,m.trace.map eE,false⟩]
end Ve
namespace Ve
open Go
def orI (a b:Int):Int:=IntKind.wrap .i64 ((BitVec.ofInt 64 a ||| BitVec.ofInt 64 b).toNat:Int)
def DS (a b:Int):Int:=IntKind.wrap .i64 ((BitVec.ofInt 64 a &&& BitVec.ofInt 64 b).toNat:Int)
def RD (a b:Int):Int:=IntKind.wrap .i64 ((BitVec.ofInt 64 a ^^^ BitVec.ofInt 64 b).toNat:Int)
def wr (a:Int):Int:=IntKind.wrap .i64 a
theorem HQ {a:Int} (h1:-9223372036854775808≤a) (h2:a<9223372036854775808):wr a=a:=by
 have e1:(2 ^ IntKind.bits .i64:Int)=18446744073709551616:=by decide
 have e2:(2 ^ (IntKind.bits .i64 - 1):Int)=9223372036854775808:=by decide
 simp only [wr,IntKind.wrap,IntKind.signed,Bool.true_and,decide_eq_true_eq,e1,e2]
 split<;>omega
def A4.get {α:Type} (a:A4 α) (i:Int):α:=if i=0 then a.a0 else if i=1 then a.a1 else if i=2 then a.a2 else a.a3
def A4.set {α:Type} (a:A4 α) (i:Int) (x:α):A4 α:=if i=0 then { a with a0:=x } else if i=1 then { a with a1:=x } else if i=2 then { a with a2:=x } else { a with a3:=x }
def A4.all {α:Type} (a:A4 α) (p:α→Bool):Bool:=p a.a0&&p a.a1&&p a.a2&&p a.a3
def inR (x most:Int):Bool:=decide (0≤x)&&decide (x≤most)
def Aj (a b:Int):Bool:=decide (orI a b=b)
def AO (w:Ap):Bool:=inR w.val 255&&inR w.ver 65535&&inR w.lock 255
def HJ (c:Int):Bool:=decide (c=2)||decide (c=3)
def Zu (i:AI):AI :=
 if i.code=0∨i.code=1∨i.code=4 then ⟨i.code,i.a,i.b,0⟩
 else if i.code=2∨i.code=3 then i
 else if i.code=6 then ⟨i.code,i.a,0,0⟩
 else ⟨i.code,0,0,0⟩
def Cj (i:AI):Bool :=
 if i.code=0 then inR i.a 3&&inR i.b 255&&decide (i.c=0)
 else if i.code=1 then inR i.a 3&&inR i.b 3&&decide (i.c=0)
 else if i.code=2∨i.code=3 then inR i.a 3&&inR i.b 3&&inR i.c 3
 else if i.code=4 then inR i.a 3&&inR i.b 16&&decide (i.c=0)
 else if i.code=5 then decide (i.a=0)&&decide (i.b=0)&&decide (i.c=0)
 else if i.code=6 then inR i.a 255&&decide (i.b=0)&&decide (i.c=0)
 else false
def Cw (n:Int):Int→List AI→Bool
 | _,[]=>true
 | at_,i::r=>Cj i&&!(decide (i.code=4)&&(decide (i.b≤at_)||decide (n<i.b)))&&Cw n (at_+1) r
def HC (p:List AI):Bool:=Cw p.length 0 p&&decide (p.length≤16)
def CT (id label clear:Int) (p:List AI):Bool:=inR id 254&&inR label 3&&inR clear 3&&Aj label clear&&HC p
def Bb (ws:A4 (List Ap)) (l i:Int):Bool:=inR l 3&&decide (0≤i)&&decide (i<(ws.get l).length)
def Cv (ws:List Ap):Bool:=decide (ws.length≤4)&&ws.all AO
def AT (ws:A4 (List Ap)):Bool:=ws.all Cv
def Dl (rs:A4 Int):Bool:=rs.all fun x=>inR x 255
def Cu (r x:AN):Bool:=decide (x.level=r.level)&&decide (x.index=r.index)
def CD (r:AN):Bool:=inR r.level 3&&inR r.index 3&&inR r.ver 65535
def Ch (pre:List AN):List AN→Bool
 | []=>true
 | r::t=>CD r&&!(pre.any (Cu r))&&Ch (pre++[r]) t
def AQ (rs:List AN):Bool:=Ch [] rs&&decide (rs.length≤16)
def AH (l i:Int):Int:=4*l+i
def AF (w:Ao):Bool:=inR w.level 3&&inR w.index 3&&inR w.val 255
def Bd:Option Ao→List Ao→Bool
 | _,[]=>true
 | none,w::t=>AF w&&Bd (some w) t
 | some v,w::t=>AF w&&decide (AH v.level v.index<AH w.level w.index)&&Bd (some w) t
def AX (ws:List Ao):Bool:=Bd none ws&&decide (ws.length≤16)
def AJ (ws:A4 (List Ap)) (rs:List AN):Bool:=rs.all fun r=>Bb ws r.level r.index
def CC (ws:A4 (List Ap)) (rs:List Ao):Bool:=rs.all fun r=>Bb ws r.level r.index
def Er (ws:A4 (List Ap)) (p:List AI):Bool:=p.all fun i=>!(HJ i.code)||Bb ws i.b i.c
def BW (ws:A4 (List Ap)) (s:Ai):Bool :=
 CT s.id s.label s.clear s.prog&&(AQ s.reads&&AX s.writes&&AJ ws s.reads&&CC ws s.writes&&Er ws s.prog) &&
 (inR s.pc s.prog.length&&inR s.at_ s.writes.length&&inR s.step 6&&inR s.result 5)&&Dl s.regs&&inR s.stamp 65535&&inR s.tries 65535&&inR s.told 255
def EY:Option Int→List Ai→Bool
 | _,[]=>true
 | none,s::t=>EY (some s.id) t
 | some v,s::t=>decide (v<s.id)&&EY (some s.id) t
def CN (m:Ad):Bool :=
 AT m.words&&inR m.ceil 65535&&m.clocks.all (fun c=>inR c m.ceil)&&decide (m.sess.length≤4)&&decide (m.trace.length≤512)&&EY none m.sess&&m.sess.all (BW m.words)&&m.trace.all (fun e=>inR e.label 3)
def BT (m:Ad) (at_:Int):Bool:=CN m&&decide (0≤at_)&&decide (at_<m.sess.length)
end Ve
namespace Ve
open Go
def BB0:Nat:=140737488355328
structure SmS (s:Ai):Prop where
 bp:(s.prog.length:Int)*32≤140737488355328
 br:(s.reads.length:Int)*24≤140737488355328
 bw:(s.writes.length:Int)*24≤140737488355328
structure SmM (m:Ad):Prop where
 b0:(m.words.a0.length:Int)*24≤140737488355328
 b1:(m.words.a1.length:Int)*24≤140737488355328
 b2:(m.words.a2.length:Int)*24≤140737488355328
 b3:(m.words.a3.length:Int)*24≤140737488355328
 bs:(m.sess.length:Int)*184≤140737488355328
 bt:(m.trace.length:Int)*32≤140737488355328
 s:∀ s∈m.sess,SmS s
def As (c:Int) (w:Ap):Ap:=if w.lock=c then { w with lock:=0 } else w
def DH (s:Ai):Ai:={ s with reads:=[],writes:=[],at_:=0,stamp:=0 }
def Az:Ad:=⟨⟨[],[],[],[]⟩,⟨0,0,0,0⟩,0,[],[]⟩
def BC (c:Int) (m:Ad):Ad:={ m with words:=⟨m.words.a0.map (As c),m.words.a1.map (As c),m.words.a2.map (As c),m.words.a3.map (As c)⟩ }
def AE (m:Ad) (k:Nat) (s:Ai):Ad:={ m with sess:=m.sess.set k s }
def Ba (m:Ad) (e:AY):Ad:=if m.trace.length<512 then { m with trace:=m.trace++[e] } else m
def Kn (t:Int):Int:=if 65535<IntKind.wrap .i64 (t+1) then 65535 else IntKind.wrap .i64 (t+1)
def BJ (s:Ai):Ai:={ DH s with pc:=0,regs:=⟨0,0,0,0⟩,step:=0,tries:=Kn s.tries }
def Gp (s:Ai) (result told:Int):Ai:={ DH s with step:=6,result:=result,told:=told }
def BK (m:Ad) (at_ kind:Int):Ad × Int :=
 if (BT m at_&&(decide (kind=3)||decide (kind=5)))=true then
  match m.sess[at_.toNat]? with
  | some s=>(Ba (AE (BC (IntKind.wrap .i64 (s.id+1)) m) at_.toNat (BJ s)) ⟨s.id,s.label,kind,Kn s.tries⟩,0)
  | none=>(Az,1300)
 else (Az,1300)
def CX (m:Ad) (at_ result told:Int):Ad × Int :=
 if (BT m at_&&inR result 5&&inR told 255)=true then
  match m.sess[at_.toNat]? with
  | some s=>(Ba (AE (BC (IntKind.wrap .i64 (s.id+1)) m) at_.toNat (Gp s result told)) ⟨s.id,s.label,6,result⟩,0)
  | none=>(Az,1300)
 else (Az,1300)
def Fc:Ap:=⟨0,0,0⟩
def EW (w:Ap) (id:Int):Ap × Int :=
 if (AO w&&inR id 254)=true then (if w.lock=0 then ({ w with lock:=id+1 },0) else (Fc,301)) else (Fc,300)
def Fd (w:Ap) (v ver:Int):Ap × Int :=
 if (AO w&&AO ⟨v,ver,0⟩)=true then (⟨v,ver,0⟩,0) else (Fc,300)
def DD:A4 Int:=⟨0,0,0,0⟩
def CE (cs:A4 Int) (l c:Int):A4 Int × Int × Int :=
 if (cs.all (fun x=>inR x 65535)&&inR c 65535&&inR l 3)=true then
  (if c≤cs.get l then (DD,0,501) else (cs.set l (cs.get l+1),cs.get l+1,0))
 else (DD,0,500)
def Mj (rs:A4 Int) (a v:Int):A4 Int × Int :=
 if (Dl rs&&inR a 3&&inR v 255)=true then (rs.set a v,0) else (DD,600)
def MM (rs:A4 Int) (a b:Int):A4 Int × Int :=
 if (Dl rs&&inR a 3&&inR b 3)=true then (rs.set a ((rs.get a+rs.get b) % 256),0) else (DD,600)
def BN (ws:A4 (List Ap)) (l i:Int):Ap:=(ws.get l)[i.toNat]?.getD Fc
def Cy (ws:A4 (List Ap)) (id:Int) (r:AN):Bool :=
 decide ((BN ws r.level r.index).ver=r.ver)&&(decide ((BN ws r.level r.index).lock=0)||decide ((BN ws r.level r.index).lock=id+1))
def Cn (ws:A4 (List Ap)) (rs:List AN) (id:Int):Bool × Int :=
 if (AT ws&&AQ rs&&AJ ws rs&&inR id 254)=true then (rs.all (Cy ws id),0) else (false,900)
def Fb (ws:A4 (List Ap)) (r:AN):Bool:=!decide ((BN ws r.level r.index).ver=r.ver)
def BP (ws:A4 (List Ap)) (rs:List AN):Bool × Int :=
 if (AT ws&&AQ rs&&AJ ws rs)=true then (rs.any (Fb ws),0) else (false,900)
def Bg (rs:List AN) (r:AN):List AN × Int :=
 if (AQ rs&&CD r)=true then (if rs.any (Cu r)=true then (rs,0) else if rs.length=16 then ([],900) else (rs++[r],0)) else ([],900)
def Dj (w:Ao):List Ao→List Ao
 | []=>[w]
 | x::r=>if AH x.level x.index<AH w.level w.index then x::Dj w r else if AH x.level x.index=AH w.level w.index then w::r else w::x::r
def BS (ws:List Ao) (w:Ao):List Ao × Int :=
 if (AX ws&&AF w)=true then (Dj w ws,0) else ([],1000)
def BD (l i:Int):List Ao→Int × Bool
 | []=>(0,false)
 | x::r=>if x.level=l∧x.index=i then (x.val,true) else BD l i r
def Bj (ws:List Ao) (l i:Int):Int × Bool:=if AX ws=true then BD l i ws else (0,false)
def DY (ws:List Ao) (l:Int):Bool:=AX ws&&ws.all (fun w=>decide (w.level=l))
def CO (m:Ad) (at_:Int):Option (Ai × AI) :=
 if BT m at_=true then
  match m.sess[at_.toNat]? with
  | some s=>if s.step=0 then (match s.prog[s.pc.toNat]? with
   | some i=>some (s,i)
   | none=>none) else none
  | none=>none
 else none
def Gt (m:Ad) (at_ step:Int):Option Ai :=
 if BT m at_=true then
  match m.sess[at_.toNat]? with
  | some s=>if s.step=step then some s else none
  | none=>none
 else none
def Co (m:Ad) (at_:Int):Bool × Int :=
 match CO m at_ with
 | some (s,i)=>if i.code=2 then (!Aj i.b s.label,0) else (false,1400)
 | none=>(false,1400)
def BI (m:Ad) (at_:Int):Ad × Int :=
 match CO m at_ with
 | some (s,i)=>if i.code=2 then (if Aj i.b s.label=true then (Az,1400)
   else if Aj (orI s.label i.b) s.clear=true then (AE (Ba m ⟨s.id,s.label,2,orI s.label i.b⟩) at_.toNat { s with label:=orI s.label i.b },0)
   else CX m at_ 4 0) else (Az,1400)
 | none=>(Az,1400)
def Di (s:Ai) (i:AI) (rs:List AN) (v:Int):Ai:={ s with reads:=rs,regs:=s.regs.set i.a v,pc:=s.pc+1 }
def Cp (m:Ad) (at_:Int):Ad × Int :=
 match CO m at_ with
 | some (s,i)=>if i.code=2 then (if Aj i.b s.label=true then
   (if (Bj s.writes i.b i.c).2=true then (Ba (AE m at_.toNat (Di s i s.reads (Bj s.writes i.b i.c).1)) ⟨s.id,s.label,0,(Bj s.writes i.b i.c).1⟩,0)
   else if (Cn m.words s.reads s.id).1=true∧(BN m.words i.b i.c).lock=0 then
    (Ba (AE m at_.toNat (Di s i (Bg s.reads ⟨i.b,i.c,(BN m.words i.b i.c).ver⟩).1 (BN m.words i.b i.c).val)) ⟨s.id,s.label,0,(BN m.words i.b i.c).val⟩,0)
   else BK m at_ 3)
   else (Az,1500)) else (Az,1500)
 | none=>(Az,1500)
def CH (m:Ad) (at_:Int):Ad × Int :=
 match CO m at_ with
 | some (s,i)=>if i.code=3 then (Ba (AE m at_.toNat { s with writes:=(BS s.writes ⟨i.b,i.c,s.regs.get i.a⟩).1,pc:=s.pc+1 }) ⟨s.id,s.label,1,s.regs.get i.a⟩,0) else (Az,1600)
 | none=>(Az,1600)
def CA (m:Ad) (at_:Int):Ad × Int :=
 match CO m at_ with
 | some (s,i) =>
  if i.code=0 then (AE m at_.toNat { s with regs:=(Mj s.regs i.a i.b).1,pc:=s.pc+1 },0)
  else if i.code=1 then (AE m at_.toNat { s with regs:=(MM s.regs i.a i.b).1,pc:=s.pc+1 },0)
  else if i.code=4 then (AE m at_.toNat { s with pc:=if s.regs.get i.a=0 then i.b else s.pc+1 },0)
  else (Az,1700)
 | none=>(Az,1700)
def Fh {α:Type} (ws:A4 (List α)) (l i:Int) (w:α):A4 (List α):=ws.set l ((ws.get l).set i.toNat w)
def FF (m:Ad) (l i:Int) (w:Ap):Ad:={ m with words:=Fh m.words l i w }
def EI (m:Ad) (at_ step:Int):Option (Ai × Ao) :=
 match Gt m at_ step with
 | some s=>match s.writes[s.at_.toNat]? with
  | some w=>some (s,w)
  | none=>none
 | none=>none
def Ed (m:Ad) (at_:Int):Ad × Int :=
 match EI m at_ 1 with
 | some (s,p)=>if (BN m.words p.level p.index).lock=0 then
   (AE (FF m p.level p.index { BN m.words p.level p.index with lock:=s.id+1 }) at_.toNat { s with at_:=s.at_+1,step:=if s.at_+1=s.writes.length then 2 else s.step },0)
  else BK m at_ 3
 | none=>(Az,1800)
def Do (m:Ad) (at_:Int):Ad × Int :=
 match Gt m at_ 2 with
 | some s=>if m.ceil≤m.clocks.get s.label then CX m at_ 5 0
  else (AE { m with clocks:=m.clocks.set s.label (m.clocks.get s.label+1) } at_.toNat { s with stamp:=m.clocks.get s.label+1,step:=3 },0)
 | none=>(Az,1900)
def Dr (m:Ad) (at_:Int):Ad × Int :=
 match Gt m at_ 3 with
 | some s=>if (Cn m.words s.reads s.id).1=true then (if s.writes=[] then CX m at_ 1 0 else (AE m at_.toNat { s with at_:=0,step:=4 },0))
  else BK m at_ 3
 | none=>(Az,2000)
def BY (m:Ad) (at_:Int) (s:Ai) (p:Ao):Ad:=AE (FF m p.level p.index ⟨p.val,s.stamp,0⟩) at_.toNat { s with at_:=s.at_+1 }
def Ei (m:Ad) (at_:Int):Ad × Int :=
 match EI m at_ 4 with
 | some (s,p)=>if s.at_+1=s.writes.length then CX (BY m at_ s p) at_ 1 0 else (BY m at_ s p,0)
 | none=>(Az,2100)
def Cx (m:Ad) (at_:Int):Ad × Int :=
 match CO m at_ with
 | some (s,i)=>if i.code=5 then (Ba (AE m at_.toNat { s with writes:=[],at_:=0,step:=5 }) ⟨s.id,s.label,4,s.reads.length⟩,0) else (Az,2200)
 | none=>match Gt m at_ 5 with
  | some s=>if (BP m.words s.reads).1=true then BK m at_ 5 else (m,0)
  | none=>(Az,2200)
def Ex (m:Ad) (at_:Int) (s:Ai):Ad × Int :=
 if DY s.writes s.label=true then (AE m at_.toNat { s with at_:=0,step:=if s.writes=[] then 3 else 1 },0) else CX m at_ 3 0
def Fi (m:Ad) (at_:Int) (s:Ai):Ad × Int :=
 match s.prog[s.pc.toNat]? with
 | some i =>
  if i.code=2 then (if (Co m at_).1=true then BI m at_ else Cp m at_)
  else if i.code=3 then CH m at_
  else if i.code=5 then Cx m at_
  else if i.code=6 then CX m at_ 2 i.a
  else CA m at_
 | none=>Ex m at_ s
def Br (m:Ad) (at_:Int) (s:Ai):Ad × Int :=
 if s.step=0 then Fi m at_ s
 else if s.step=1 then Ed m at_
 else if s.step=2 then Do m at_
 else if s.step=3 then Dr m at_
 else if s.step=4 then Ei m at_
 else if s.step=5 then Cx m at_
 else (m,0)
def Cm (m:Ad) (at_:Int):Ad × Int :=
 if BT m at_=true then
  match m.sess[at_.toNat]? with
  | some s=>if (Br m at_ s).2=0 then ((Br m at_ s).1,0) else (Az,2300)
  | none=>(Az,2300)
 else (Az,2300)
end Ve
namespace Ve
open Go
theorem Ax {α:Type} {l:List α} {k:Nat} {s:α} (hs:l[k]?=some s):k<l.length:=by
 rcases Nat.lt_or_ge k l.length with h | h
 ·exact h
 ·rw [List.getElem?_eq_none h] at hs;cases hs
theorem kD {m:Ad} (h:CN m=true) {k:Nat} {s:Ai} (hs:m.sess[k]?=some s):BW m.words s=true:=by
 simp only [CN,Bool.and_eq_true] at h
 exact (List.all_eq_true.mp h.1.2) s (List.mem_of_getElem? hs)
theorem lO {m:Ad} {at_:Int} (h:BT m at_=true):CN m=true:=by
 simp only [BT,Bool.and_eq_true] at h;exact h.1.1
theorem Jw {m:Ad} {at_:Int} (h:BT m at_=true):∃ s k,at_=(k:Nat)∧m.sess[k]?=some s∧k<m.sess.length:=by
 simp only [BT,Bool.and_eq_true,decide_eq_true_eq] at h
 have hl:at_.toNat<m.sess.length:=by omega
 exact ⟨m.sess[at_.toNat],at_.toNat,by omega,by simp [hl],hl⟩
theorem Dx:SmM Az:=by
 constructor<;>simp [Az]
theorem sm_set {m:Ad} (h:SmM m) (k:Nat) (s:Ai) (hs:SmS s):SmM (AE m k s):=by
 obtain ⟨h0,h1,h2,h3,hs',ht,hp⟩:=h
 refine ⟨h0,h1,h2,h3,by simpa [AE] using hs',ht,?_⟩
 intro x hx
 simp only [AE] at hx
 rcases List.mem_or_eq_of_mem_set hx with h | rfl
 ·exact hp x h
 ·exact hs
end Ve
