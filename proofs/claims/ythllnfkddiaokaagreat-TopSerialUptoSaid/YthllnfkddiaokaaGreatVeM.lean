/- Short words for the evaluator's tables. -/
import Derived.Test.YthllnfkddiaokaaGreatVeA
import Derived.Test.YthllnfkddiaokaaGreatVeC
set_option linter.all false
set_option linter.unusedSectionVars false
namespace Ve.Ab
open Go
abbrev t (n:Nat):Operand:=.tmp n
abbrev n (x:Int):Operand:=.const (.int .i64 x)
abbrev b (x:Bool):Operand:=.const (.bool x)
abbrev f (x:Nat):Operand:=.func x
abbrev o (d:Nat) (op:Op):IOp:=⟨some d,op,none,false⟩
abbrev w (op:Op):IOp:=⟨none,op,none,false⟩
abbrev z (d:Nat) (op:Op):IOp:=⟨some d,op,none,true⟩
abbrev oT (d:Nat) (op:Op) (g:Nat):IOp:=⟨some d,op,some (g,true),false⟩
abbrev oF (d:Nat) (op:Op) (g:Nat):IOp:=⟨some d,op,some (g,false),false⟩
abbrev zT (d:Nat) (op:Op) (g:Nat):IOp:=⟨some d,op,some (g,true),true⟩
abbrev zF (d:Nat) (op:Op) (g:Nat):IOp:=⟨some d,op,some (g,false),true⟩
abbrev mv (x:Nat):Op:=.move (.tmp x)
abbrev av (x:Nat):Op:=.assign (.tmp x)
abbrev an (x:Int):Op:=.assign (.const (.int .i64 x))
abbrev ab (x:Bool):Op:=.assign (.const (.bool x))
abbrev ld (ty x:Nat):Op:=.load ty (.tmp x)
abbrev st (ty x y:Nat):Op:=.store ty (.tmp x) (.tmp y)
abbrev fa (ty x i:Nat):Op:=.fieldAddr ty (.tmp x) i
abbrev ia (ty x i:Nat):Op:=.indexAddr ty (.tmp x) (.tmp i)
abbrev nc (x:Nat):Op:=.nilCheck (.tmp x)
abbrev al (ty:Nat):Op:=.alloc ty
abbrev bx (ty x:Nat):Op:=.box ty (.tmp x)
abbrev xt (x i:Nat):Op:=.extract (.tmp x) i
abbrev bo (k:BinOp) (x y:Operand):Op:=.binOp k 3 x y 3
abbrev cl (g:Nat) (xs:Array Operand) (ts:Array TypeId):Op:=.call { callee:=.value (.func g),args:=xs,argTypes:=ts }
abbrev len (x:Nat) (ty:TypeId):Op:=.call { callee:=.builtin .len,args:=#[.tmp x],argTypes:=#[ty] }
abbrev R (xs:List IOp):IR:=.region xs none
abbrev D (xs:List IOp) (ys:List (List Nat)):IR:=.region xs (some ys)
abbrev S (x y:IR):IR:=.seq x y
end Ve.Ab
namespace Ve
def lk {α:Type}:List (Nat × α)→Nat→Option α
 | [],_=>none
 | (k,v)::r,n=>match Nat.beq n k with
  | true=>some v
  | false=>lk r n
theorem SL {α:Type}:∀ {l:List (Nat × α)} {n:Nat} {v:α},lk l n=some v→(n,v)∈l
 | [],n,v,h=>by cases h
 | (k,w)::r,n,v,h=>by
  simp only [lk] at h
  split at h
  ·rename_i hb
   have:=Nat.eq_of_beq_eq_true hb
   cases h;subst this;simp
  ·exact List.mem_cons_of_mem _ (SL h)
end Ve
namespace Ve
open Go
structure A4 (α:Type) where
 a0:α
 a1:α
 a2:α
 a3:α
deriving DecidableEq,Inhabited
structure Aj where
 val:Int
 ver:Int
 lock:Int
deriving DecidableEq,Inhabited
structure AD where
 code:Int
 a:Int
 b:Int
 c:Int
deriving DecidableEq,Inhabited
structure AZ where
 level:Int
 index:Int
 ver:Int
deriving DecidableEq,Inhabited
structure Aq where
 level:Int
 index:Int
 val:Int
deriving DecidableEq,Inhabited
structure AV where
 id:Int
 label:Int
 clear:Int
 prog:List AD
deriving DecidableEq,Inhabited
structure Ae where
 id:Int
 label:Int
 clear:Int
 prog:List AD
 step:Int
 pc:Int
 regs:A4 Int
 reads:List AZ
 writes:List Aq
 at_:Int
 stamp:Int
 tries:Int
 result:Int
 told:Int
deriving DecidableEq,Inhabited
structure AI where
 id:Int
 label:Int
 kind:Int
 val:Int
deriving DecidableEq,Inhabited
structure Ac where
 words:A4 (List Aj)
 clocks:A4 Int
 ceil:Int
 sess:List Ae
 trace:List AI
deriving DecidableEq,Inhabited
structure AO where
 level:Int
 pick:Int
deriving DecidableEq,Inhabited
structure Ap where
 words:A4 (List Int)
 ceil:Int
 starts:List AV
 slots:List AO
deriving DecidableEq,Inhabited
abbrev iV (n:Int):V:=.lit (.int .i64 n)
abbrev bV (b:Bool):V:=.lit (.bool b)
abbrev uV:V:=.lit (.tuple #[])
def eW (w:Aj):V:=.agg [iV w.val,iV w.ver,iV w.lock]
def eI (w:AD):V:=.agg [iV w.code,iV w.a,iV w.b,iV w.c]
def eR (w:AZ):V:=.agg [iV w.level,iV w.index,iV w.ver]
def eWr (w:Aq):V:=.agg [iV w.level,iV w.index,iV w.val]
def eE (w:AI):V:=.agg [iV w.id,iV w.label,iV w.kind,iV w.val]
def eSl (w:AO):V:=.agg [iV w.level,iV w.pick]
abbrev eWs (p:Bool) (ws:List Aj):V:=.isl p false 3 (ws.map eW)
abbrev eIs (p:Bool) (ws:List AD):V:=.isl p false 4 (ws.map eI)
abbrev eRs (p:Bool) (ws:List AZ):V:=.isl p false 3 (ws.map eR)
abbrev nO (p:Bool) (ws:List Aq):V:=.isl p false 3 (ws.map eWr)
abbrev eEs (p:Bool) (ws:List AI):V:=.isl p false 4 (ws.map eE)
def eS (p:Bool) (s:Ae):V:=.agg [iV s.id,iV s.label,iV s.clear,eIs p s.prog,iV s.step,iV s.pc,iV s.regs.a0,iV s.regs.a1,iV s.regs.a2,iV s.regs.a3,eRs p s.reads,nO p s.writes,iV s.at_,iV s.stamp,iV s.tries,iV s.result,iV s.told]
abbrev eSs (p:Bool) (ws:List Ae):V:=.isl p false 17 (ws.map (eS p))
abbrev cM (p:Bool) (m:Ac):List V:=[eWs p m.words.a0,eWs p m.words.a1,eWs p m.words.a2,eWs p m.words.a3,iV m.clocks.a0,iV m.clocks.a1,iV m.clocks.a2,iV m.clocks.a3,iV m.ceil,eSs p m.sess,eEs p m.trace]
abbrev eM (p:Bool) (m:Ac):V:=.agg (cM p m)
abbrev oWs (ws:List Aj):V:=.own 3 (ws.map eW)
abbrev oIs (ws:List AD):V:=.own 4 (ws.map eI)
abbrev oRs (ws:List AZ):V:=.own 3 (ws.map eR)
abbrev Xm (ws:List Aq):V:=.own 3 (ws.map eWr)
abbrev oEs (ws:List AI):V:=.own 4 (ws.map eE)
def oS (s:Ae):V:=.agg [iV s.id,iV s.label,iV s.clear,oIs s.prog,iV s.step,iV s.pc,iV s.regs.a0,iV s.regs.a1,iV s.regs.a2,iV s.regs.a3,oRs s.reads,Xm s.writes,iV s.at_,iV s.stamp,iV s.tries,iV s.result,iV s.told]
abbrev oSs (ws:List Ae):V:=.own 17 (ws.map oS)
abbrev cO (m:Ac):List V:=[oWs m.words.a0,oWs m.words.a1,oWs m.words.a2,oWs m.words.a3,iV m.clocks.a0,iV m.clocks.a1,iV m.clocks.a2,iV m.clocks.a3,iV m.ceil,oSs m.sess,oEs m.trace]
abbrev oM (m:Ac):V:=.agg (cO m)
abbrev hM (m:Ac):List Obj:=[⟨3,m.words.a0.map eW,false⟩,⟨3,m.words.a1.map eW,false⟩,⟨3,m.words.a2.map eW,false⟩,⟨3,m.words.a3.map eW,false⟩,⟨17,m.sess.map oS,false⟩,⟨4,m.trace.map eE,false⟩]
end Ve
namespace Ve
open Go
def orI (a b:Int):Int:=IntKind.wrap .i64 ((BitVec.ofInt 64 a ||| BitVec.ofInt 64 b).toNat:Int)
def Df (a b:Int):Int:=IntKind.wrap .i64 ((BitVec.ofInt 64 a &&& BitVec.ofInt 64 b).toNat:Int)
def Sb (a b:Int):Int:=IntKind.wrap .i64 ((BitVec.ofInt 64 a ^^^ BitVec.ofInt 64 b).toNat:Int)
def wr (a:Int):Int:=IntKind.wrap .i64 a
theorem Jc {a:Int} (h1:-9223372036854775808≤a) (h2:a<9223372036854775808):wr a=a:=by
 have e1:(2 ^ IntKind.bits .i64:Int)=18446744073709551616:=by decide
 have e2:(2 ^ (IntKind.bits .i64 - 1):Int)=9223372036854775808:=by decide
 simp only [wr,IntKind.wrap,IntKind.signed,Bool.true_and,decide_eq_true_eq,e1,e2]
 split<;>omega
def A4.get {α:Type} (a:A4 α) (i:Int):α:=if i=0 then a.a0 else if i=1 then a.a1 else if i=2 then a.a2 else a.a3
def A4.set {α:Type} (a:A4 α) (i:Int) (x:α):A4 α:=if i=0 then { a with a0:=x } else if i=1 then { a with a1:=x } else if i=2 then { a with a2:=x } else { a with a3:=x }
def A4.all {α:Type} (a:A4 α) (p:α→Bool):Bool:=p a.a0&&p a.a1&&p a.a2&&p a.a3
def inR (x most:Int):Bool:=decide (0≤x)&&decide (x≤most)
def Ao (a b:Int):Bool:=decide (orI a b=b)
def Ba (w:Aj):Bool:=inR w.val 255&&inR w.ver 65535&&inR w.lock 255
def Fy (c:Int):Bool:=decide (c=2)||decide (c=3)
def YR (i:AD):AD :=
 if i.code=0∨i.code=1∨i.code=4 then ⟨i.code,i.a,i.b,0⟩
 else if i.code=2∨i.code=3 then i
 else if i.code=6 then ⟨i.code,i.a,0,0⟩
 else ⟨i.code,0,0,0⟩
def BK (i:AD):Bool :=
 if i.code=0 then inR i.a 3&&inR i.b 255&&decide (i.c=0)
 else if i.code=1 then inR i.a 3&&inR i.b 3&&decide (i.c=0)
 else if i.code=2∨i.code=3 then inR i.a 3&&inR i.b 3&&inR i.c 3
 else if i.code=4 then inR i.a 3&&inR i.b 16&&decide (i.c=0)
 else if i.code=5 then decide (i.a=0)&&decide (i.b=0)&&decide (i.c=0)
 else if i.code=6 then inR i.a 255&&decide (i.b=0)&&decide (i.c=0)
 else false
def Cm (n:Int):Int→List AD→Bool
 | _,[]=>true
 | at_,i::r=>BK i&&!(decide (i.code=4)&&(decide (i.b≤at_)||decide (n<i.b)))&&Cm n (at_+1) r
def Dg (p:List AD):Bool:=Cm p.length 0 p&&decide (p.length≤16)
def Dk (id label clear:Int) (p:List AD):Bool:=inR id 254&&inR label 3&&inR clear 3&&Ao label clear&&Dg p
def Ay (ws:A4 (List Aj)) (l i:Int):Bool:=inR l 3&&decide (0≤i)&&decide (i<(ws.get l).length)
def Ch (ws:List Aj):Bool:=decide (ws.length≤4)&&ws.all Ba
def AS (ws:A4 (List Aj)):Bool:=ws.all Ch
def Dx (rs:A4 Int):Bool:=rs.all fun x=>inR x 255
def Cz (r x:AZ):Bool:=decide (x.level=r.level)&&decide (x.index=r.index)
def CF (r:AZ):Bool:=inR r.level 3&&inR r.index 3&&inR r.ver 65535
def Ca (pre:List AZ):List AZ→Bool
 | []=>true
 | r::t=>CF r&&!(pre.any (Cz r))&&Ca (pre++[r]) t
def AY (rs:List AZ):Bool:=Ca [] rs&&decide (rs.length≤16)
def AK (l i:Int):Int:=4*l+i
def AL (w:Aq):Bool:=inR w.level 3&&inR w.index 3&&inR w.val 255
def Be:Option Aq→List Aq→Bool
 | _,[]=>true
 | none,w::t=>AL w&&Be (some w) t
 | some v,w::t=>AL w&&decide (AK v.level v.index<AK w.level w.index)&&Be (some w) t
def Bg (ws:List Aq):Bool:=Be none ws&&decide (ws.length≤16)
def AP (ws:A4 (List Aj)) (rs:List AZ):Bool:=rs.all fun r=>Ay ws r.level r.index
def Cf (ws:A4 (List Aj)) (rs:List Aq):Bool:=rs.all fun r=>Ay ws r.level r.index
def DL (ws:A4 (List Aj)) (p:List AD):Bool:=p.all fun i=>!(Fy i.code)||Ay ws i.b i.c
def BS (ws:A4 (List Aj)) (s:Ae):Bool :=
 Dk s.id s.label s.clear s.prog&&(AY s.reads&&Bg s.writes&&AP ws s.reads&&Cf ws s.writes&&DL ws s.prog) &&
 (inR s.pc s.prog.length&&inR s.at_ s.writes.length&&inR s.step 6&&inR s.result 5)&&Dx s.regs&&inR s.stamp 65535&&inR s.tries 65535&&inR s.told 255
def EY:Option Int→List Ae→Bool
 | _,[]=>true
 | none,s::t=>EY (some s.id) t
 | some v,s::t=>decide (v<s.id)&&EY (some s.id) t
def De (m:Ac):Bool :=
 AS m.words&&inR m.ceil 65535&&m.clocks.all (fun c=>inR c m.ceil)&&decide (m.sess.length≤4)&&decide (m.trace.length≤512)&&EY none m.sess&&m.sess.all (BS m.words)&&m.trace.all (fun e=>inR e.label 3)
def Cs (m:Ac) (at_:Int):Bool:=De m&&decide (0≤at_)&&decide (at_<m.sess.length)
end Ve
namespace Ve
open Go
def BB0:Nat:=140737488355328
structure SmS (s:Ae):Prop where
 bp:(s.prog.length:Int)*32≤140737488355328
 br:(s.reads.length:Int)*24≤140737488355328
 bw:(s.writes.length:Int)*24≤140737488355328
structure SmM (m:Ac):Prop where
 b0:(m.words.a0.length:Int)*24≤140737488355328
 b1:(m.words.a1.length:Int)*24≤140737488355328
 b2:(m.words.a2.length:Int)*24≤140737488355328
 b3:(m.words.a3.length:Int)*24≤140737488355328
 bs:(m.sess.length:Int)*184≤140737488355328
 bt:(m.trace.length:Int)*32≤140737488355328
 s:∀ s∈m.sess,SmS s
def Aw (c:Int) (w:Aj):Aj:=if w.lock=c then { w with lock:=0 } else w
def ED (s:Ae):Ae:={ s with reads:=[],writes:=[],at_:=0,stamp:=0 }
def AA:Ac:=⟨⟨[],[],[],[]⟩,⟨0,0,0,0⟩,0,[],[]⟩
def DH (c:Int) (m:Ac):Ac:={ m with words:=⟨m.words.a0.map (Aw c),m.words.a1.map (Aw c),m.words.a2.map (Aw c),m.words.a3.map (Aw c)⟩ }
def Bd (m:Ac) (k:Nat) (s:Ae):Ac:={ m with sess:=m.sess.set k s }
def Bm (m:Ac) (e:AI):Ac:=if m.trace.length<512 then { m with trace:=m.trace++[e] } else m
def KF (t:Int):Int:=if 65535<IntKind.wrap .i64 (t+1) then 65535 else IntKind.wrap .i64 (t+1)
def Co (s:Ae):Ae:={ ED s with pc:=0,regs:=⟨0,0,0,0⟩,step:=0,tries:=KF s.tries }
def DB (s:Ae) (result told:Int):Ae:={ ED s with step:=6,result:=result,told:=told }
def Cy (m:Ac) (at_ kind:Int):Ac × Int :=
 if (Cs m at_&&(decide (kind=3)||decide (kind=5)))=true then
  match m.sess[at_.toNat]? with
  | some s=>(Bm (Bd (DH (IntKind.wrap .i64 (s.id+1)) m) at_.toNat (Co s)) ⟨s.id,s.label,kind,KF s.tries⟩,0)
  | none=>(AA,1300)
 else (AA,1300)
def ET (m:Ac) (at_ result told:Int):Ac × Int :=
 if (Cs m at_&&inR result 5&&inR told 255)=true then
  match m.sess[at_.toNat]? with
  | some s=>(Bm (Bd (DH (IntKind.wrap .i64 (s.id+1)) m) at_.toNat (DB s result told)) ⟨s.id,s.label,6,result⟩,0)
  | none=>(AA,1300)
 else (AA,1300)
def Jb:Aj:=⟨0,0,0⟩
def Je (w:Aj) (id:Int):Aj × Int :=
 if (Ba w&&inR id 254)=true then (if w.lock=0 then ({ w with lock:=id+1 },0) else (Jb,301)) else (Jb,300)
def Jk (w:Aj) (v ver:Int):Aj × Int :=
 if (Ba w&&Ba ⟨v,ver,0⟩)=true then (⟨v,ver,0⟩,0) else (Jb,300)
def KG:A4 Int:=⟨0,0,0,0⟩
def JA (cs:A4 Int) (l c:Int):A4 Int × Int × Int :=
 if (cs.all (fun x=>inR x 65535)&&inR c 65535&&inR l 3)=true then
  (if c≤cs.get l then (KG,0,501) else (cs.set l (cs.get l+1),cs.get l+1,0))
 else (KG,0,500)
def bI (rs:A4 Int) (a v:Int):A4 Int × Int :=
 if (Dx rs&&inR a 3&&inR v 255)=true then (rs.set a v,0) else (KG,600)
def fU (rs:A4 Int) (a b:Int):A4 Int × Int :=
 if (Dx rs&&inR a 3&&inR b 3)=true then (rs.set a ((rs.get a+rs.get b) % 256),0) else (KG,600)
def AB (ws:A4 (List Aj)) (l i:Int):Aj:=(ws.get l)[i.toNat]?.getD Jb
def CA (ws:A4 (List Aj)) (id:Int) (r:AZ):Bool :=
 decide ((AB ws r.level r.index).ver=r.ver)&&(decide ((AB ws r.level r.index).lock=0)||decide ((AB ws r.level r.index).lock=id+1))
def DS (ws:A4 (List Aj)) (rs:List AZ) (id:Int):Bool × Int :=
 if (AS ws&&AY rs&&AP ws rs&&inR id 254)=true then (rs.all (CA ws id),0) else (false,900)
def Dp (ws:A4 (List Aj)) (r:AZ):Bool:=!decide ((AB ws r.level r.index).ver=r.ver)
def BI (ws:A4 (List Aj)) (rs:List AZ):Bool × Int :=
 if (AS ws&&AY rs&&AP ws rs)=true then (rs.any (Dp ws),0) else (false,900)
def BQ (rs:List AZ) (r:AZ):List AZ × Int :=
 if (AY rs&&CF r)=true then (if rs.any (Cz r)=true then (rs,0) else if rs.length=16 then ([],900) else (rs++[r],0)) else ([],900)
def DG (w:Aq):List Aq→List Aq
 | []=>[w]
 | x::r=>if AK x.level x.index<AK w.level w.index then x::DG w r else if AK x.level x.index=AK w.level w.index then w::r else w::x::r
def He (ws:List Aq) (w:Aq):List Aq × Int :=
 if (Bg ws&&AL w)=true then (DG w ws,0) else ([],1000)
def AT (l i:Int):List Aq→Int × Bool
 | []=>(0,false)
 | x::r=>if x.level=l∧x.index=i then (x.val,true) else AT l i r
def Bi (ws:List Aq) (l i:Int):Int × Bool:=if Bg ws=true then AT l i ws else (0,false)
def Jj (ws:List Aq) (l:Int):Bool:=Bg ws&&ws.all (fun w=>decide (w.level=l))
def CJ (m:Ac) (at_:Int):Option (Ae × AD) :=
 if Cs m at_=true then
  match m.sess[at_.toNat]? with
  | some s=>if s.step=0 then (match s.prog[s.pc.toNat]? with
   | some i=>some (s,i)
   | none=>none) else none
  | none=>none
 else none
def Gw (m:Ac) (at_ step:Int):Option Ae :=
 if Cs m at_=true then
  match m.sess[at_.toNat]? with
  | some s=>if s.step=step then some s else none
  | none=>none
 else none
def Dz (m:Ac) (at_:Int):Bool × Int :=
 match CJ m at_ with
 | some (s,i)=>if i.code=2 then (!Ao i.b s.label,0) else (false,1400)
 | none=>(false,1400)
def Cu (m:Ac) (at_:Int):Ac × Int :=
 match CJ m at_ with
 | some (s,i)=>if i.code=2 then (if Ao i.b s.label=true then (AA,1400)
   else if Ao (orI s.label i.b) s.clear=true then (Bd (Bm m ⟨s.id,s.label,2,orI s.label i.b⟩) at_.toNat { s with label:=orI s.label i.b },0)
   else ET m at_ 4 0) else (AA,1400)
 | none=>(AA,1400)
def Eu (s:Ae) (i:AD) (rs:List AZ) (v:Int):Ae:={ s with reads:=rs,regs:=s.regs.set i.a v,pc:=s.pc+1 }
def Ct (m:Ac) (at_:Int):Ac × Int :=
 match CJ m at_ with
 | some (s,i)=>if i.code=2 then (if Ao i.b s.label=true then
   (if (Bi s.writes i.b i.c).2=true then (Bm (Bd m at_.toNat (Eu s i s.reads (Bi s.writes i.b i.c).1)) ⟨s.id,s.label,0,(Bi s.writes i.b i.c).1⟩,0)
   else if (DS m.words s.reads s.id).1=true∧(AB m.words i.b i.c).lock=0 then
    (Bm (Bd m at_.toNat (Eu s i (BQ s.reads ⟨i.b,i.c,(AB m.words i.b i.c).ver⟩).1 (AB m.words i.b i.c).val)) ⟨s.id,s.label,0,(AB m.words i.b i.c).val⟩,0)
   else Cy m at_ 3)
   else (AA,1500)) else (AA,1500)
 | none=>(AA,1500)
def Du (m:Ac) (at_:Int):Ac × Int :=
 match CJ m at_ with
 | some (s,i)=>if i.code=3 then (Bm (Bd m at_.toNat { s with writes:=(He s.writes ⟨i.b,i.c,s.regs.get i.a⟩).1,pc:=s.pc+1 }) ⟨s.id,s.label,1,s.regs.get i.a⟩,0) else (AA,1600)
 | none=>(AA,1600)
def CT (m:Ac) (at_:Int):Ac × Int :=
 match CJ m at_ with
 | some (s,i) =>
  if i.code=0 then (Bd m at_.toNat { s with regs:=(bI s.regs i.a i.b).1,pc:=s.pc+1 },0)
  else if i.code=1 then (Bd m at_.toNat { s with regs:=(fU s.regs i.a i.b).1,pc:=s.pc+1 },0)
  else if i.code=4 then (Bd m at_.toNat { s with pc:=if s.regs.get i.a=0 then i.b else s.pc+1 },0)
  else (AA,1700)
 | none=>(AA,1700)
def CK {α:Type} (ws:A4 (List α)) (l i:Int) (w:α):A4 (List α):=ws.set l ((ws.get l).set i.toNat w)
def Hl (m:Ac) (l i:Int) (w:Aj):Ac:={ m with words:=CK m.words l i w }
def Fw (m:Ac) (at_ step:Int):Option (Ae × Aq) :=
 match Gw m at_ step with
 | some s=>match s.writes[s.at_.toNat]? with
  | some w=>some (s,w)
  | none=>none
 | none=>none
def Fh (m:Ac) (at_:Int):Ac × Int :=
 match Fw m at_ 1 with
 | some (s,p)=>if (AB m.words p.level p.index).lock=0 then
   (Bd (Hl m p.level p.index { AB m.words p.level p.index with lock:=s.id+1 }) at_.toNat { s with at_:=s.at_+1,step:=if s.at_+1=s.writes.length then 2 else s.step },0)
  else Cy m at_ 3
 | none=>(AA,1800)
def Em (m:Ac) (at_:Int):Ac × Int :=
 match Gw m at_ 2 with
 | some s=>if m.ceil≤m.clocks.get s.label then ET m at_ 5 0
  else (Bd { m with clocks:=m.clocks.set s.label (m.clocks.get s.label+1) } at_.toNat { s with stamp:=m.clocks.get s.label+1,step:=3 },0)
 | none=>(AA,1900)
def Er (m:Ac) (at_:Int):Ac × Int :=
 match Gw m at_ 3 with
 | some s=>if (DS m.words s.reads s.id).1=true then (if s.writes=[] then ET m at_ 1 0 else (Bd m at_.toNat { s with at_:=0,step:=4 },0))
  else Cy m at_ 3
 | none=>(AA,2000)
def Cl (m:Ac) (at_:Int) (s:Ae) (p:Aq):Ac:=Bd (Hl m p.level p.index ⟨p.val,s.stamp,0⟩) at_.toNat { s with at_:=s.at_+1 }
def Fs (m:Ac) (at_:Int):Ac × Int :=
 match Fw m at_ 4 with
 | some (s,p)=>if s.at_+1=s.writes.length then ET (Cl m at_ s p) at_ 1 0 else (Cl m at_ s p,0)
 | none=>(AA,2100)
def Dc (m:Ac) (at_:Int):Ac × Int :=
 match CJ m at_ with
 | some (s,i)=>if i.code=5 then (Bm (Bd m at_.toNat { s with writes:=[],at_:=0,step:=5 }) ⟨s.id,s.label,4,s.reads.length⟩,0) else (AA,2200)
 | none=>match Gw m at_ 5 with
  | some s=>if (BI m.words s.reads).1=true then Cy m at_ 5 else (m,0)
  | none=>(AA,2200)
def Hs (m:Ac) (at_:Int) (s:Ae):Ac × Int :=
 if Jj s.writes s.label=true then (Bd m at_.toNat { s with at_:=0,step:=if s.writes=[] then 3 else 1 },0) else ET m at_ 3 0
def Jt (m:Ac) (at_:Int) (s:Ae):Ac × Int :=
 match s.prog[s.pc.toNat]? with
 | some i =>
  if i.code=2 then (if (Dz m at_).1=true then Cu m at_ else Ct m at_)
  else if i.code=3 then Du m at_
  else if i.code=5 then Dc m at_
  else if i.code=6 then ET m at_ 2 i.a
  else CT m at_
 | none=>Hs m at_ s
def CP (m:Ac) (at_:Int) (s:Ae):Ac × Int :=
 if s.step=0 then Jt m at_ s
 else if s.step=1 then Fh m at_
 else if s.step=2 then Em m at_
 else if s.step=3 then Er m at_
 else if s.step=4 then Fs m at_
 else if s.step=5 then Dc m at_
 else (m,0)
def BV (m:Ac) (at_:Int):Ac × Int :=
 if Cs m at_=true then
  match m.sess[at_.toNat]? with
  | some s=>if (CP m at_ s).2=0 then ((CP m at_ s).1,0) else (AA,2300)
  | none=>(AA,2300)
 else (AA,2300)
end Ve
namespace Ve
open Go
theorem Ax {α:Type} {l:List α} {k:Nat} {s:α} (hs:l[k]?=some s):k<l.length:=by
 rcases Nat.lt_or_ge k l.length with h | h
 ·exact h
 ·rw [List.getElem?_eq_none h] at hs;cases hs
theorem lM {m:Ac} (h:De m=true) {k:Nat} {s:Ae} (hs:m.sess[k]?=some s):BS m.words s=true:=by
 simp only [De,Bool.and_eq_true] at h
 exact (List.all_eq_true.mp h.1.2) s (List.mem_of_getElem? hs)
theorem mX {m:Ac} {at_:Int} (h:Cs m at_=true):De m=true:=by
 simp only [Cs,Bool.and_eq_true] at h;exact h.1.1
theorem Px {m:Ac} {at_:Int} (h:Cs m at_=true):∃ s k,at_=(k:Nat)∧m.sess[k]?=some s∧k<m.sess.length:=by
 simp only [Cs,Bool.and_eq_true,decide_eq_true_eq] at h
 have hl:at_.toNat<m.sess.length:=by omega
 exact ⟨m.sess[at_.toNat],at_.toNat,by omega,by simp [hl],hl⟩
theorem CQ:SmM AA:=by
 constructor<;>simp [AA]
theorem sm_set {m:Ac} (h:SmM m) (k:Nat) (s:Ae) (hs:SmS s):SmM (Bd m k s):=by
 obtain ⟨h0,h1,h2,h3,hs',ht,hp⟩:=h
 refine ⟨h0,h1,h2,h3,by simpa [Bd] using hs',ht,?_⟩
 intro x hx
 simp only [Bd] at hx
 rcases List.mem_or_eq_of_mem_set hx with h | rfl
 ·exact hp x h
 ·exact hs
end Ve
