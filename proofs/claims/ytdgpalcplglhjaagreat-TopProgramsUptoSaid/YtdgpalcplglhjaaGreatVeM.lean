/- Short words for the evaluator's tables. -/
import Derived.Test.YtdgpalcplglhjaaGreatVeA
import Derived.Test.YtdgpalcplglhjaaGreatVeC
set_option linter.all false
set_option linter.unusedSectionVars false
namespace Ve.Ab
open Go
abbrev t (n:Nat):Operand:=.tmp n
abbrev n (x:Int):Operand:=.const (.int .i64 x)
abbrev b (x:Bool):Operand:=.const (.bool x)
abbrev f (x:Nat):Operand:=.func x
abbrev o (d:Nat) (op:Op):IOp:=⟨some d,op,none,false⟩
abbrev w (op:Op):IOp:=⟨none,op,none,false⟩
abbrev z (d:Nat) (op:Op):IOp:=⟨some d,op,none,true⟩
abbrev oT (d:Nat) (op:Op) (g:Nat):IOp:=⟨some d,op,some (g,true),false⟩
abbrev oF (d:Nat) (op:Op) (g:Nat):IOp:=⟨some d,op,some (g,false),false⟩
abbrev zT (d:Nat) (op:Op) (g:Nat):IOp:=⟨some d,op,some (g,true),true⟩
abbrev zF (d:Nat) (op:Op) (g:Nat):IOp:=⟨some d,op,some (g,false),true⟩
abbrev mv (x:Nat):Op:=.move (.tmp x)
abbrev av (x:Nat):Op:=.assign (.tmp x)
abbrev an (x:Int):Op:=.assign (.const (.int .i64 x))
abbrev ab (x:Bool):Op:=.assign (.const (.bool x))
abbrev ld (ty x:Nat):Op:=.load ty (.tmp x)
abbrev st (ty x y:Nat):Op:=.store ty (.tmp x) (.tmp y)
abbrev fa (ty x i:Nat):Op:=.fieldAddr ty (.tmp x) i
abbrev ia (ty x i:Nat):Op:=.indexAddr ty (.tmp x) (.tmp i)
abbrev nc (x:Nat):Op:=.nilCheck (.tmp x)
abbrev al (ty:Nat):Op:=.alloc ty
abbrev bx (ty x:Nat):Op:=.box ty (.tmp x)
abbrev xt (x i:Nat):Op:=.extract (.tmp x) i
abbrev bo (k:BinOp) (x y:Operand):Op:=.binOp k 3 x y 3
abbrev cl (g:Nat) (xs:Array Operand) (ts:Array TypeId):Op:=.call { callee:=.value (.func g),args:=xs,argTypes:=ts }
abbrev len (x:Nat) (ty:TypeId):Op:=.call { callee:=.builtin .len,args:=#[.tmp x],argTypes:=#[ty] }
abbrev R (xs:List IOp):IR:=.region xs none
abbrev D (xs:List IOp) (ys:List (List Nat)):IR:=.region xs (some ys)
abbrev S (x y:IR):IR:=.seq x y
end Ve.Ab
namespace Ve
def lk {α:Type}:List (Nat × α)→Nat→Option α
 | [],_=>none
 | (k,v)::r,n=>match Nat.beq n k with
  | true=>some v
  | false=>lk r n
theorem Qf {α:Type}:∀ {l:List (Nat × α)} {n:Nat} {v:α},lk l n=some v→(n,v)∈l
 | [],n,v,h=>by cases h
 | (k,w)::r,n,v,h=>by
  simp only [lk] at h
  split at h
  ·rename_i hb
   have:=Nat.eq_of_beq_eq_true hb
   cases h;subst this;simp
  ·exact List.mem_cons_of_mem _ (Qf h)
end Ve
namespace Ve
open Go
structure A4 (α:Type) where
 a0:α
 a1:α
 a2:α
 a3:α
deriving DecidableEq,Inhabited
structure Al where
 val:Int
 ver:Int
 lock:Int
deriving DecidableEq,Inhabited
structure Av where
 code:Int
 a:Int
 b:Int
 c:Int
deriving DecidableEq,Inhabited
structure AO where
 level:Int
 index:Int
 ver:Int
deriving DecidableEq,Inhabited
structure Ak where
 level:Int
 index:Int
 val:Int
deriving DecidableEq,Inhabited
structure Ck where
 id:Int
 label:Int
 clear:Int
 prog:List Av
deriving DecidableEq,Inhabited
structure Af where
 id:Int
 label:Int
 clear:Int
 prog:List Av
 step:Int
 pc:Int
 regs:A4 Int
 reads:List AO
 writes:List Ak
 at_:Int
 stamp:Int
 tries:Int
 result:Int
 told:Int
deriving DecidableEq,Inhabited
structure Bl where
 id:Int
 label:Int
 kind:Int
 val:Int
deriving DecidableEq,Inhabited
structure Ad where
 words:A4 (List Al)
 clocks:A4 Int
 ceil:Int
 sess:List Af
 trace:List Bl
deriving DecidableEq,Inhabited
structure BW where
 level:Int
 pick:Int
deriving DecidableEq,Inhabited
structure AQ where
 words:A4 (List Int)
 ceil:Int
 starts:List Ck
 slots:List BW
deriving DecidableEq,Inhabited
abbrev iV (n:Int):V:=.lit (.int .i64 n)
abbrev bV (b:Bool):V:=.lit (.bool b)
abbrev uV:V:=.lit (.tuple #[])
def eW (w:Al):V:=.agg [iV w.val,iV w.ver,iV w.lock]
def eI (w:Av):V:=.agg [iV w.code,iV w.a,iV w.b,iV w.c]
def eR (w:AO):V:=.agg [iV w.level,iV w.index,iV w.ver]
def eWr (w:Ak):V:=.agg [iV w.level,iV w.index,iV w.val]
def eE (w:Bl):V:=.agg [iV w.id,iV w.label,iV w.kind,iV w.val]
def eSl (w:BW):V:=.agg [iV w.level,iV w.pick]
abbrev eWs (p:Bool) (ws:List Al):V:=.isl p false 3 (ws.map eW)
abbrev eIs (p:Bool) (ws:List Av):V:=.isl p false 4 (ws.map eI)
abbrev eRs (p:Bool) (ws:List AO):V:=.isl p false 3 (ws.map eR)
abbrev UY (p:Bool) (ws:List Ak):V:=.isl p false 3 (ws.map eWr)
abbrev eEs (p:Bool) (ws:List Bl):V:=.isl p false 4 (ws.map eE)
def eS (p:Bool) (s:Af):V:=.agg [iV s.id,iV s.label,iV s.clear,eIs p s.prog,iV s.step,iV s.pc,iV s.regs.a0,iV s.regs.a1,iV s.regs.a2,iV s.regs.a3,eRs p s.reads,UY p s.writes,iV s.at_,iV s.stamp,iV s.tries,iV s.result,iV s.told]
abbrev eSs (p:Bool) (ws:List Af):V:=.isl p false 17 (ws.map (eS p))
abbrev cM (p:Bool) (m:Ad):List V:=[eWs p m.words.a0,eWs p m.words.a1,eWs p m.words.a2,eWs p m.words.a3,iV m.clocks.a0,iV m.clocks.a1,iV m.clocks.a2,iV m.clocks.a3,iV m.ceil,eSs p m.sess,eEs p m.trace]
abbrev eM (p:Bool) (m:Ad):V:=.agg (cM p m)
abbrev oWs (ws:List Al):V:=.own 3 (ws.map eW)
abbrev oIs (ws:List Av):V:=.own 4 (ws.map eI)
abbrev oRs (ws:List AO):V:=.own 3 (ws.map eR)
abbrev LP (ws:List Ak):V:=.own 3 (ws.map eWr)
abbrev oEs (ws:List Bl):V:=.own 4 (ws.map eE)
def oS (s:Af):V:=.agg [iV s.id,iV s.label,iV s.clear,oIs s.prog,iV s.step,iV s.pc,iV s.regs.a0,iV s.regs.a1,iV s.regs.a2,iV s.regs.a3,oRs s.reads,LP s.writes,iV s.at_,iV s.stamp,iV s.tries,iV s.result,iV s.told]
abbrev oSs (ws:List Af):V:=.own 17 (ws.map oS)
abbrev cO (m:Ad):List V:=[oWs m.words.a0,oWs m.words.a1,oWs m.words.a2,oWs m.words.a3,iV m.clocks.a0,iV m.clocks.a1,iV m.clocks.a2,iV m.clocks.a3,iV m.ceil,oSs m.sess,oEs m.trace]
abbrev oM (m:Ad):V:=.agg (cO m)
abbrev hM (m:Ad):List Obj:=[⟨3,m.words.a0.map eW,false⟩,⟨3,m.words.a1.map eW,false⟩,⟨3,m.words.a2.map eW,false⟩,⟨3,m.words.a3.map eW,false⟩,⟨17,m.sess.map oS,false⟩,⟨4,m.trace.map eE,false⟩]
end Ve
namespace Ve
open Go
def orI (a b:Int):Int:=IntKind.wrap .i64 ((BitVec.ofInt 64 a ||| BitVec.ofInt 64 b).toNat:Int)
def Ia (a b:Int):Int:=IntKind.wrap .i64 ((BitVec.ofInt 64 a &&& BitVec.ofInt 64 b).toNat:Int)
def PD (a b:Int):Int:=IntKind.wrap .i64 ((BitVec.ofInt 64 a ^^^ BitVec.ofInt 64 b).toNat:Int)
def wr (a:Int):Int:=IntKind.wrap .i64 a
theorem EH {a:Int} (h1:-9223372036854775808≤a) (h2:a<9223372036854775808):wr a=a:=by
 have e1:(2 ^ IntKind.bits .i64:Int)=18446744073709551616:=by decide
 have e2:(2 ^ (IntKind.bits .i64 - 1):Int)=9223372036854775808:=by decide
 simp only [wr,IntKind.wrap,IntKind.signed,Bool.true_and,decide_eq_true_eq,e1,e2]
 split<;>omega
def A4.get {α:Type} (a:A4 α) (i:Int):α:=if i=0 then a.a0 else if i=1 then a.a1 else if i=2 then a.a2 else a.a3
def A4.set {α:Type} (a:A4 α) (i:Int) (x:α):A4 α:=if i=0 then { a with a0:=x } else if i=1 then { a with a1:=x } else if i=2 then { a with a2:=x } else { a with a3:=x }
def A4.all {α:Type} (a:A4 α) (p:α→Bool):Bool:=p a.a0&&p a.a1&&p a.a2&&p a.a3
def inR (x most:Int):Bool:=decide (0≤x)&&decide (x≤most)
def AG (a b:Int):Bool:=decide (orI a b=b)
def AK (w:Al):Bool:=inR w.val 255&&inR w.ver 65535&&inR w.lock 255
def Gx (c:Int):Bool:=decide (c=2)||decide (c=3)
def VS (i:Av):Av :=
 if i.code=0∨i.code=1∨i.code=4 then ⟨i.code,i.a,i.b,0⟩
 else if i.code=2∨i.code=3 then i
 else if i.code=6 then ⟨i.code,i.a,0,0⟩
 else ⟨i.code,0,0,0⟩
def Bd (i:Av):Bool :=
 if i.code=0 then inR i.a 3&&inR i.b 255&&decide (i.c=0)
 else if i.code=1 then inR i.a 3&&inR i.b 3&&decide (i.c=0)
 else if i.code=2∨i.code=3 then inR i.a 3&&inR i.b 3&&inR i.c 3
 else if i.code=4 then inR i.a 3&&inR i.b 16&&decide (i.c=0)
 else if i.code=5 then decide (i.a=0)&&decide (i.b=0)&&decide (i.c=0)
 else if i.code=6 then inR i.a 255&&decide (i.b=0)&&decide (i.c=0)
 else false
def BP (n:Int):Int→List Av→Bool
 | _,[]=>true
 | at_,i::r=>Bd i&&!(decide (i.code=4)&&(decide (i.b≤at_)||decide (n<i.b)))&&BP n (at_+1) r
def Dn (p:List Av):Bool:=BP p.length 0 p&&decide (p.length≤16)
def Cm (id label clear:Int) (p:List Av):Bool:=inR id 254&&inR label 3&&inR clear 3&&AG label clear&&Dn p
def AW (ws:A4 (List Al)) (l i:Int):Bool:=inR l 3&&decide (0≤i)&&decide (i<(ws.get l).length)
def Co (ws:List Al):Bool:=decide (ws.length≤4)&&ws.all AK
def AP (ws:A4 (List Al)):Bool:=ws.all Co
def CX (rs:A4 Int):Bool:=rs.all fun x=>inR x 255
def Cd (r x:AO):Bool:=decide (x.level=r.level)&&decide (x.index=r.index)
def Cw (r:AO):Bool:=inR r.level 3&&inR r.index 3&&inR r.ver 65535
def BS (pre:List AO):List AO→Bool
 | []=>true
 | r::t=>Cw r&&!(pre.any (Cd r))&&BS (pre++[r]) t
def AJ (rs:List AO):Bool:=BS [] rs&&decide (rs.length≤16)
def AC (l i:Int):Int:=4*l+i
def Az (w:Ak):Bool:=inR w.level 3&&inR w.index 3&&inR w.val 255
def AV:Option Ak→List Ak→Bool
 | _,[]=>true
 | none,w::t=>Az w&&AV (some w) t
 | some v,w::t=>Az w&&decide (AC v.level v.index<AC w.level w.index)&&AV (some w) t
def AS (ws:List Ak):Bool:=AV none ws&&decide (ws.length≤16)
def AD (ws:A4 (List Al)) (rs:List AO):Bool:=rs.all fun r=>AW ws r.level r.index
def Cc (ws:A4 (List Al)) (rs:List Ak):Bool:=rs.all fun r=>AW ws r.level r.index
def Cr (ws:A4 (List Al)) (p:List Av):Bool:=p.all fun i=>!(Gx i.code)||AW ws i.b i.c
def AY (ws:A4 (List Al)) (s:Af):Bool :=
 Cm s.id s.label s.clear s.prog&&(AJ s.reads&&AS s.writes&&AD ws s.reads&&Cc ws s.writes&&Cr ws s.prog) &&
 (inR s.pc s.prog.length&&inR s.at_ s.writes.length&&inR s.step 6&&inR s.result 5)&&CX s.regs&&inR s.stamp 65535&&inR s.tries 65535&&inR s.told 255
def EM:Option Int→List Af→Bool
 | _,[]=>true
 | none,s::t=>EM (some s.id) t
 | some v,s::t=>decide (v<s.id)&&EM (some s.id) t
def Ei (m:Ad):Bool :=
 AP m.words&&inR m.ceil 65535&&m.clocks.all (fun c=>inR c m.ceil)&&decide (m.sess.length≤4)&&decide (m.trace.length≤512)&&EM none m.sess&&m.sess.all (AY m.words)&&m.trace.all (fun e=>inR e.label 3)
def Bq (m:Ad) (at_:Int):Bool:=Ei m&&decide (0≤at_)&&decide (at_<m.sess.length)
end Ve
namespace Ve
open Go
def BB0:Nat:=140737488355328
structure SmS (s:Af):Prop where
 bp:(s.prog.length:Int)*32≤140737488355328
 br:(s.reads.length:Int)*24≤140737488355328
 bw:(s.writes.length:Int)*24≤140737488355328
structure SmM (m:Ad):Prop where
 b0:(m.words.a0.length:Int)*24≤140737488355328
 b1:(m.words.a1.length:Int)*24≤140737488355328
 b2:(m.words.a2.length:Int)*24≤140737488355328
 b3:(m.words.a3.length:Int)*24≤140737488355328
 bs:(m.sess.length:Int)*184≤140737488355328
 bt:(m.trace.length:Int)*32≤140737488355328
 s:∀ s∈m.sess,SmS s
def Ap (c:Int) (w:Al):Al:=if w.lock=c then { w with lock:=0 } else w
def Du (s:Af):Af:={ s with reads:=[],writes:=[],at_:=0,stamp:=0 }
def AN:Ad:=⟨⟨[],[],[],[]⟩,⟨0,0,0,0⟩,0,[],[]⟩
def BV (c:Int) (m:Ad):Ad:={ m with words:=⟨m.words.a0.map (Ap c),m.words.a1.map (Ap c),m.words.a2.map (Ap c),m.words.a3.map (Ap c)⟩ }
def AA (m:Ad) (k:Nat) (s:Af):Ad:={ m with sess:=m.sess.set k s }
def AT (m:Ad) (e:Bl):Ad:=if m.trace.length<512 then { m with trace:=m.trace++[e] } else m
def Jn (t:Int):Int:=if 65535<IntKind.wrap .i64 (t+1) then 65535 else IntKind.wrap .i64 (t+1)
def CT (s:Af):Af:={ Du s with pc:=0,regs:=⟨0,0,0,0⟩,step:=0,tries:=Jn s.tries }
def FZ (s:Af) (result told:Int):Af:={ Du s with step:=6,result:=result,told:=told }
def By (m:Ad) (at_ kind:Int):Ad × Int :=
 if (Bq m at_&&(decide (kind=3)||decide (kind=5)))=true then
  match m.sess[at_.toNat]? with
  | some s=>(AT (AA (BV (IntKind.wrap .i64 (s.id+1)) m) at_.toNat (CT s)) ⟨s.id,s.label,kind,Jn s.tries⟩,0)
  | none=>(AN,1300)
 else (AN,1300)
def CL (m:Ad) (at_ result told:Int):Ad × Int :=
 if (Bq m at_&&inR result 5&&inR told 255)=true then
  match m.sess[at_.toNat]? with
  | some s=>(AT (AA (BV (IntKind.wrap .i64 (s.id+1)) m) at_.toNat (FZ s result told)) ⟨s.id,s.label,6,result⟩,0)
  | none=>(AN,1300)
 else (AN,1300)
def El:Al:=⟨0,0,0⟩
def EK (w:Al) (id:Int):Al × Int :=
 if (AK w&&inR id 254)=true then (if w.lock=0 then ({ w with lock:=id+1 },0) else (El,301)) else (El,300)
def EO (w:Al) (v ver:Int):Al × Int :=
 if (AK w&&AK ⟨v,ver,0⟩)=true then (⟨v,ver,0⟩,0) else (El,300)
def Dr:A4 Int:=⟨0,0,0,0⟩
def Cq (cs:A4 Int) (l c:Int):A4 Int × Int × Int :=
 if (cs.all (fun x=>inR x 65535)&&inR c 65535&&inR l 3)=true then
  (if c≤cs.get l then (Dr,0,501) else (cs.set l (cs.get l+1),cs.get l+1,0))
 else (Dr,0,500)
def KR (rs:A4 Int) (a v:Int):A4 Int × Int :=
 if (CX rs&&inR a 3&&inR v 255)=true then (rs.set a v,0) else (Dr,600)
def Lp (rs:A4 Int) (a b:Int):A4 Int × Int :=
 if (CX rs&&inR a 3&&inR b 3)=true then (rs.set a ((rs.get a+rs.get b) % 256),0) else (Dr,600)
def Bx (ws:A4 (List Al)) (l i:Int):Al:=(ws.get l)[i.toNat]?.getD El
def Cz (ws:A4 (List Al)) (id:Int) (r:AO):Bool :=
 decide ((Bx ws r.level r.index).ver=r.ver)&&(decide ((Bx ws r.level r.index).lock=0)||decide ((Bx ws r.level r.index).lock=id+1))
def BU (ws:A4 (List Al)) (rs:List AO) (id:Int):Bool × Int :=
 if (AP ws&&AJ rs&&AD ws rs&&inR id 254)=true then (rs.all (Cz ws id),0) else (false,900)
def FP (ws:A4 (List Al)) (r:AO):Bool:=!decide ((Bx ws r.level r.index).ver=r.ver)
def BH (ws:A4 (List Al)) (rs:List AO):Bool × Int :=
 if (AP ws&&AJ rs&&AD ws rs)=true then (rs.any (FP ws),0) else (false,900)
def AX (rs:List AO) (r:AO):List AO × Int :=
 if (AJ rs&&Cw r)=true then (if rs.any (Cd r)=true then (rs,0) else if rs.length=16 then ([],900) else (rs++[r],0)) else ([],900)
def CW (w:Ak):List Ak→List Ak
 | []=>[w]
 | x::r=>if AC x.level x.index<AC w.level w.index then x::CW w r else if AC x.level x.index=AC w.level w.index then w::r else w::x::r
def BK (ws:List Ak) (w:Ak):List Ak × Int :=
 if (AS ws&&Az w)=true then (CW w ws,0) else ([],1000)
def Bs (l i:Int):List Ak→Int × Bool
 | []=>(0,false)
 | x::r=>if x.level=l∧x.index=i then (x.val,true) else Bs l i r
def Ba (ws:List Ak) (l i:Int):Int × Bool:=if AS ws=true then Bs l i ws else (0,false)
def DI (ws:List Ak) (l:Int):Bool:=AS ws&&ws.all (fun w=>decide (w.level=l))
def CA (m:Ad) (at_:Int):Option (Af × Av) :=
 if Bq m at_=true then
  match m.sess[at_.toNat]? with
  | some s=>if s.step=0 then (match s.prog[s.pc.toNat]? with
   | some i=>some (s,i)
   | none=>none) else none
  | none=>none
 else none
def Gb (m:Ad) (at_ step:Int):Option Af :=
 if Bq m at_=true then
  match m.sess[at_.toNat]? with
  | some s=>if s.step=step then some s else none
  | none=>none
 else none
def BF (m:Ad) (at_:Int):Bool × Int :=
 match CA m at_ with
 | some (s,i)=>if i.code=2 then (!AG i.b s.label,0) else (false,1400)
 | none=>(false,1400)
def Bn (m:Ad) (at_:Int):Ad × Int :=
 match CA m at_ with
 | some (s,i)=>if i.code=2 then (if AG i.b s.label=true then (AN,1400)
   else if AG (orI s.label i.b) s.clear=true then (AA (AT m ⟨s.id,s.label,2,orI s.label i.b⟩) at_.toNat { s with label:=orI s.label i.b },0)
   else CL m at_ 4 0) else (AN,1400)
 | none=>(AN,1400)
def Cp (s:Af) (i:Av) (rs:List AO) (v:Int):Af:={ s with reads:=rs,regs:=s.regs.set i.a v,pc:=s.pc+1 }
def BX (m:Ad) (at_:Int):Ad × Int :=
 match CA m at_ with
 | some (s,i)=>if i.code=2 then (if AG i.b s.label=true then
   (if (Ba s.writes i.b i.c).2=true then (AT (AA m at_.toNat (Cp s i s.reads (Ba s.writes i.b i.c).1)) ⟨s.id,s.label,0,(Ba s.writes i.b i.c).1⟩,0)
   else if (BU m.words s.reads s.id).1=true∧(Bx m.words i.b i.c).lock=0 then
    (AT (AA m at_.toNat (Cp s i (AX s.reads ⟨i.b,i.c,(Bx m.words i.b i.c).ver⟩).1 (Bx m.words i.b i.c).val)) ⟨s.id,s.label,0,(Bx m.words i.b i.c).val⟩,0)
   else By m at_ 3)
   else (AN,1500)) else (AN,1500)
 | none=>(AN,1500)
def Cu (m:Ad) (at_:Int):Ad × Int :=
 match CA m at_ with
 | some (s,i)=>if i.code=3 then (AT (AA m at_.toNat { s with writes:=(BK s.writes ⟨i.b,i.c,s.regs.get i.a⟩).1,pc:=s.pc+1 }) ⟨s.id,s.label,1,s.regs.get i.a⟩,0) else (AN,1600)
 | none=>(AN,1600)
def Cn (m:Ad) (at_:Int):Ad × Int :=
 match CA m at_ with
 | some (s,i) =>
  if i.code=0 then (AA m at_.toNat { s with regs:=(KR s.regs i.a i.b).1,pc:=s.pc+1 },0)
  else if i.code=1 then (AA m at_.toNat { s with regs:=(Lp s.regs i.a i.b).1,pc:=s.pc+1 },0)
  else if i.code=4 then (AA m at_.toNat { s with pc:=if s.regs.get i.a=0 then i.b else s.pc+1 },0)
  else (AN,1700)
 | none=>(AN,1700)
def Ff {α:Type} (ws:A4 (List α)) (l i:Int) (w:α):A4 (List α):=ws.set l ((ws.get l).set i.toNat w)
def FC (m:Ad) (l i:Int) (w:Al):Ad:={ m with words:=Ff m.words l i w }
def Er (m:Ad) (at_ step:Int):Option (Af × Ak) :=
 match Gb m at_ step with
 | some s=>match s.writes[s.at_.toNat]? with
  | some w=>some (s,w)
  | none=>none
 | none=>none
def DO (m:Ad) (at_:Int):Ad × Int :=
 match Er m at_ 1 with
 | some (s,p)=>if (Bx m.words p.level p.index).lock=0 then
   (AA (FC m p.level p.index { Bx m.words p.level p.index with lock:=s.id+1 }) at_.toNat { s with at_:=s.at_+1,step:=if s.at_+1=s.writes.length then 2 else s.step },0)
  else By m at_ 3
 | none=>(AN,1800)
def Da (m:Ad) (at_:Int):Ad × Int :=
 match Gb m at_ 2 with
 | some s=>if m.ceil≤m.clocks.get s.label then CL m at_ 5 0
  else (AA { m with clocks:=m.clocks.set s.label (m.clocks.get s.label+1) } at_.toNat { s with stamp:=m.clocks.get s.label+1,step:=3 },0)
 | none=>(AN,1900)
def Df (m:Ad) (at_:Int):Ad × Int :=
 match Gb m at_ 3 with
 | some s=>if (BU m.words s.reads s.id).1=true then (if s.writes=[] then CL m at_ 1 0 else (AA m at_.toNat { s with at_:=0,step:=4 },0))
  else By m at_ 3
 | none=>(AN,2000)
def BR (m:Ad) (at_:Int) (s:Af) (p:Ak):Ad:=AA (FC m p.level p.index ⟨p.val,s.stamp,0⟩) at_.toNat { s with at_:=s.at_+1 }
def DR (m:Ad) (at_:Int):Ad × Int :=
 match Er m at_ 4 with
 | some (s,p)=>if s.at_+1=s.writes.length then CL (BR m at_ s p) at_ 1 0 else (BR m at_ s p,0)
 | none=>(AN,2100)
def Cg (m:Ad) (at_:Int):Ad × Int :=
 match CA m at_ with
 | some (s,i)=>if i.code=5 then (AT (AA m at_.toNat { s with writes:=[],at_:=0,step:=5 }) ⟨s.id,s.label,4,s.reads.length⟩,0) else (AN,2200)
 | none=>match Gb m at_ 5 with
  | some s=>if (BH m.words s.reads).1=true then By m at_ 5 else (m,0)
  | none=>(AN,2200)
def Ee (m:Ad) (at_:Int) (s:Af):Ad × Int :=
 if DI s.writes s.label=true then (AA m at_.toNat { s with at_:=0,step:=if s.writes=[] then 3 else 1 },0) else CL m at_ 3 0
def ER (m:Ad) (at_:Int) (s:Af):Ad × Int :=
 match s.prog[s.pc.toNat]? with
 | some i =>
  if i.code=2 then (if (BF m at_).1=true then Bn m at_ else BX m at_)
  else if i.code=3 then Cu m at_
  else if i.code=5 then Cg m at_
  else if i.code=6 then CL m at_ 2 i.a
  else Cn m at_
 | none=>Ee m at_ s
def Be (m:Ad) (at_:Int) (s:Af):Ad × Int :=
 if s.step=0 then ER m at_ s
 else if s.step=1 then DO m at_
 else if s.step=2 then Da m at_
 else if s.step=3 then Df m at_
 else if s.step=4 then DR m at_
 else if s.step=5 then Cg m at_
 else (m,0)
def BL (m:Ad) (at_:Int):Ad × Int :=
 if Bq m at_=true then
  match m.sess[at_.toNat]? with
  | some s=>if (Be m at_ s).2=0 then ((Be m at_ s).1,0) else (AN,2300)
  | none=>(AN,2300)
 else (AN,2300)
end Ve
namespace Ve
open Go
theorem Au {α:Type} {l:List α} {k:Nat} {s:α} (hs:l[k]?=some s):k<l.length:=by
 rcases Nat.lt_or_ge k l.length with h | h
 ·exact h
 ·rw [List.getElem?_eq_none h] at hs;cases hs
theorem cL {m:Ad} (h:Ei m=true) {k:Nat} {s:Af} (hs:m.sess[k]?=some s):AY m.words s=true:=by
 simp only [Ei,Bool.and_eq_true] at h
 exact (List.all_eq_true.mp h.1.2) s (List.mem_of_getElem? hs)
theorem dR {m:Ad} {at_:Int} (h:Bq m at_=true):Ei m=true:=by
 simp only [Bq,Bool.and_eq_true] at h;exact h.1.1
theorem ID {m:Ad} {at_:Int} (h:Bq m at_=true):∃ s k,at_=(k:Nat)∧m.sess[k]?=some s∧k<m.sess.length:=by
 simp only [Bq,Bool.and_eq_true,decide_eq_true_eq] at h
 have hl:at_.toNat<m.sess.length:=by omega
 exact ⟨m.sess[at_.toNat],at_.toNat,by omega,by simp [hl],hl⟩
theorem Gi:SmM AN:=by
 constructor<;>simp [AN]
theorem sm_set {m:Ad} (h:SmM m) (k:Nat) (s:Af) (hs:SmS s):SmM (AA m k s):=by
 obtain ⟨h0,h1,h2,h3,hs',ht,hp⟩:=h
 refine ⟨h0,h1,h2,h3,by simpa [AA] using hs',ht,?_⟩
 intro x hx
 simp only [AA] at hx
 rcases List.mem_or_eq_of_mem_set hx with h | rfl
 ·exact hp x h
 ·exact hs
end Ve
