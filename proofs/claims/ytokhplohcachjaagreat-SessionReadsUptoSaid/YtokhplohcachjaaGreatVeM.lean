/- Short words for the evaluator's tables. -/
import Derived.Test.YtokhplohcachjaaGreatVeA
import Derived.Test.YtokhplohcachjaaGreatVeC
set_option linter.all false
set_option linter.unusedSectionVars false
namespace Ve.Ab
open Go
abbrev t (n:Nat):Operand:=.tmp n
abbrev n (x:Int):Operand:=.const (.int .i64 x)
abbrev b (x:Bool):Operand:=.const (.bool x)
abbrev f (x:Nat):Operand:=.func x
abbrev o (d:Nat) (op:Op):IOp:=⟨some d,op,none,false⟩
abbrev w (op:Op):IOp:=⟨none,op,none,false⟩
abbrev z (d:Nat) (op:Op):IOp:=⟨some d,op,none,true⟩
abbrev oT (d:Nat) (op:Op) (g:Nat):IOp:=⟨some d,op,some (g,true),false⟩
abbrev oF (d:Nat) (op:Op) (g:Nat):IOp:=⟨some d,op,some (g,false),false⟩
abbrev zT (d:Nat) (op:Op) (g:Nat):IOp:=⟨some d,op,some (g,true),true⟩
abbrev zF (d:Nat) (op:Op) (g:Nat):IOp:=⟨some d,op,some (g,false),true⟩
abbrev mv (x:Nat):Op:=.move (.tmp x)
abbrev av (x:Nat):Op:=.assign (.tmp x)
abbrev an (x:Int):Op:=.assign (.const (.int .i64 x))
abbrev ab (x:Bool):Op:=.assign (.const (.bool x))
abbrev ld (ty x:Nat):Op:=.load ty (.tmp x)
abbrev st (ty x y:Nat):Op:=.store ty (.tmp x) (.tmp y)
abbrev fa (ty x i:Nat):Op:=.fieldAddr ty (.tmp x) i
abbrev ia (ty x i:Nat):Op:=.indexAddr ty (.tmp x) (.tmp i)
abbrev nc (x:Nat):Op:=.nilCheck (.tmp x)
abbrev al (ty:Nat):Op:=.alloc ty
abbrev bx (ty x:Nat):Op:=.box ty (.tmp x)
abbrev xt (x i:Nat):Op:=.extract (.tmp x) i
abbrev bo (k:BinOp) (x y:Operand):Op:=.binOp k 3 x y 3
abbrev cl (g:Nat) (xs:Array Operand) (ts:Array TypeId):Op:=.call { callee:=.value (.func g),args:=xs,argTypes:=ts }
abbrev len (x:Nat) (ty:TypeId):Op:=.call { callee:=.builtin .len,args:=#[.tmp x],argTypes:=#[ty] }
abbrev R (xs:List IOp):IR:=.region xs none
abbrev D (xs:List IOp) (ys:List (List Nat)):IR:=.region xs (some ys)
abbrev S (x y:IR):IR:=.seq x y
end Ve.Ab
namespace Ve
def lk {α:Type}:List (Nat × α)→Nat→Option α
 | [],_=>none
 | (k,v)::r,n=>match Nat.beq n k with
  | true=>some v
  | false=>lk r n
theorem PE {α:Type}:∀ {l:List (Nat × α)} {n:Nat} {v:α},lk l n=some v→(n,v)∈l
 | [],n,v,h=>by cases h
 | (k,w)::r,n,v,h=>by
  simp only [lk] at h
  split at h
  ·rename_i hb
   have:=Nat.eq_of_beq_eq_true hb
   cases h;subst this;simp
  ·exact List.mem_cons_of_mem _ (PE h)
end Ve
namespace Ve
open Go
structure A4 (α:Type) where
 a0:α
 a1:α
 a2:α
 a3:α
deriving DecidableEq,Inhabited
structure Ao where
 val:Int
 ver:Int
 lock:Int
deriving DecidableEq,Inhabited
structure AF where
 code:Int
 a:Int
 b:Int
 c:Int
deriving DecidableEq,Inhabited
structure AH where
 level:Int
 index:Int
 ver:Int
deriving DecidableEq,Inhabited
structure Ai where
 level:Int
 index:Int
 val:Int
deriving DecidableEq,Inhabited
structure Lg where
 id:Int
 label:Int
 clear:Int
 prog:List AF
deriving DecidableEq,Inhabited
structure Ag where
 id:Int
 label:Int
 clear:Int
 prog:List AF
 step:Int
 pc:Int
 regs:A4 Int
 reads:List AH
 writes:List Ai
 at_:Int
 stamp:Int
 tries:Int
 result:Int
 told:Int
deriving DecidableEq,Inhabited
structure Ba where
 id:Int
 label:Int
 kind:Int
 val:Int
deriving DecidableEq,Inhabited
structure Ad where
 words:A4 (List Ao)
 clocks:A4 Int
 ceil:Int
 sess:List Ag
 trace:List Ba
deriving DecidableEq,Inhabited
structure EO where
 level:Int
 pick:Int
deriving DecidableEq,Inhabited
structure CJ where
 words:A4 (List Int)
 ceil:Int
 starts:List Lg
 slots:List EO
deriving DecidableEq,Inhabited
abbrev iV (n:Int):V:=.lit (.int .i64 n)
abbrev bV (b:Bool):V:=.lit (.bool b)
abbrev uV:V:=.lit (.tuple #[])
def eW (w:Ao):V:=.agg [iV w.val,iV w.ver,iV w.lock]
def eI (w:AF):V:=.agg [iV w.code,iV w.a,iV w.b,iV w.c]
def eR (w:AH):V:=.agg [iV w.level,iV w.index,iV w.ver]
def eWr (w:Ai):V:=.agg [iV w.level,iV w.index,iV w.val]
def eE (w:Ba):V:=.agg [iV w.id,iV w.label,iV w.kind,iV w.val]
def eSl (w:EO):V:=.agg [iV w.level,iV w.pick]
abbrev eWs (p:Bool) (ws:List Ao):V:=.isl p false 3 (ws.map eW)
abbrev eIs (p:Bool) (ws:List AF):V:=.isl p false 4 (ws.map eI)
abbrev eRs (p:Bool) (ws:List AH):V:=.isl p false 3 (ws.map eR)
abbrev HK (p:Bool) (ws:List Ai):V:=.isl p false 3 (ws.map eWr)
abbrev eEs (p:Bool) (ws:List Ba):V:=.isl p false 4 (ws.map eE)
def eS (p:Bool) (s:Ag):V:=.agg [iV s.id,iV s.label,iV s.clear,eIs p s.prog,iV s.step,iV s.pc,iV s.regs.a0,iV s.regs.a1,iV s.regs.a2,iV s.regs.a3,eRs p s.reads,HK p s.writes,iV s.at_,iV s.stamp,iV s.tries,iV s.result,iV s.told]
abbrev eSs (p:Bool) (ws:List Ag):V:=.isl p false 17 (ws.map (eS p))
abbrev cM (p:Bool) (m:Ad):List V:=[eWs p m.words.a0,eWs p m.words.a1,eWs p m.words.a2,eWs p m.words.a3,iV m.clocks.a0,iV m.clocks.a1,iV m.clocks.a2,iV m.clocks.a3,iV m.ceil,eSs p m.sess,eEs p m.trace]
abbrev eM (p:Bool) (m:Ad):V:=.agg (cM p m)
abbrev oWs (ws:List Ao):V:=.own 3 (ws.map eW)
abbrev oIs (ws:List AF):V:=.own 4 (ws.map eI)
abbrev oRs (ws:List AH):V:=.own 3 (ws.map eR)
abbrev Fy (ws:List Ai):V:=.own 3 (ws.map eWr)
abbrev oEs (ws:List Ba):V:=.own 4 (ws.map eE)
def oS (s:Ag):V:=.agg [iV s.id,iV s.label,iV s.clear,oIs s.prog,iV s.step,iV s.pc,iV s.regs.a0,iV s.regs.a1,iV s.regs.a2,iV s.regs.a3,oRs s.reads,Fy s.writes,iV s.at_,iV s.stamp,iV s.tries,iV s.result,iV s.told]
abbrev oSs (ws:List Ag):V:=.own 17 (ws.map oS)
abbrev cO (m:Ad):List V:=[oWs m.words.a0,oWs m.words.a1,oWs m.words.a2,oWs m.words.a3,iV m.clocks.a0,iV m.clocks.a1,iV m.clocks.a2,iV m.clocks.a3,iV m.ceil,oSs m.sess,oEs m.trace]
abbrev oM (m:Ad):V:=.agg (cO m)
abbrev hM (m:Ad):List Obj:=[⟨3,m.words.a0.map eW,false⟩,⟨3,m.words.a1.map eW,false⟩,⟨3,m.words.a2.map eW,false⟩,⟨3,m.words.a3.map eW,false⟩,⟨17,m.sess.map oS,false⟩,⟨4,m.trace.map eE,false⟩]
end Ve
namespace Ve
open Go
def orI (a b:Int):Int:=IntKind.wrap .i64 ((BitVec.ofInt 64 a ||| BitVec.ofInt 64 b).toNat:Int)
def EJ (a b:Int):Int:=IntKind.wrap .i64 ((BitVec.ofInt 64 a &&& BitVec.ofInt 64 b).toNat:Int)
def Tg (a b:Int):Int:=IntKind.wrap .i64 ((BitVec.ofInt 64 a ^^^ BitVec.ofInt 64 b).toNat:Int)
def wr (a:Int):Int:=IntKind.wrap .i64 a
theorem Gq {a:Int} (h1:-9223372036854775808≤a) (h2:a<9223372036854775808):wr a=a:=by
 have e1:(2 ^ IntKind.bits .i64:Int)=18446744073709551616:=by decide
 have e2:(2 ^ (IntKind.bits .i64 - 1):Int)=9223372036854775808:=by decide
 simp only [wr,IntKind.wrap,IntKind.signed,Bool.true_and,decide_eq_true_eq,e1,e2]
 split<;>omega
def A4.get {α:Type} (a:A4 α) (i:Int):α:=if i=0 then a.a0 else if i=1 then a.a1 else if i=2 then a.a2 else a.a3
def A4.set {α:Type} (a:A4 α) (i:Int) (x:α):A4 α:=if i=0 then { a with a0:=x } else if i=1 then { a with a1:=x } else if i=2 then { a with a2:=x } else { a with a3:=x }
def A4.all {α:Type} (a:A4 α) (p:α→Bool):Bool:=p a.a0&&p a.a1&&p a.a2&&p a.a3
def inR (x most:Int):Bool:=decide (0≤x)&&decide (x≤most)
def under (a b:Int):Bool:=decide (orI a b=b)
def AL (w:Ao):Bool:=inR w.val 255&&inR w.ver 65535&&inR w.lock 255
def FV (c:Int):Bool:=decide (c=2)||decide (c=3)
def UY (i:AF):AF :=
 if i.code=0∨i.code=1∨i.code=4 then ⟨i.code,i.a,i.b,0⟩
 else if i.code=2∨i.code=3 then i
 else if i.code=6 then ⟨i.code,i.a,0,0⟩
 else ⟨i.code,0,0,0⟩
def BN (i:AF):Bool :=
 if i.code=0 then inR i.a 3&&inR i.b 255&&decide (i.c=0)
 else if i.code=1 then inR i.a 3&&inR i.b 3&&decide (i.c=0)
 else if i.code=2∨i.code=3 then inR i.a 3&&inR i.b 3&&inR i.c 3
 else if i.code=4 then inR i.a 3&&inR i.b 16&&decide (i.c=0)
 else if i.code=5 then decide (i.a=0)&&decide (i.b=0)&&decide (i.c=0)
 else if i.code=6 then inR i.a 255&&decide (i.b=0)&&decide (i.c=0)
 else false
def BZ (n:Int):Int→List AF→Bool
 | _,[]=>true
 | at_,i::r=>BN i&&!(decide (i.code=4)&&(decide (i.b≤at_)||decide (n<i.b)))&&BZ n (at_+1) r
def Gz (p:List AF):Bool:=BZ p.length 0 p&&decide (p.length≤16)
def DT (id label clear:Int) (p:List AF):Bool:=inR id 254&&inR label 3&&inR clear 3&&under label clear&&Gz p
def AV (ws:A4 (List Ao)) (l i:Int):Bool:=inR l 3&&decide (0≤i)&&decide (i<(ws.get l).length)
def Cs (ws:List Ao):Bool:=decide (ws.length≤4)&&ws.all AL
def AR (ws:A4 (List Ao)):Bool:=ws.all Cs
def CI (rs:A4 Int):Bool:=rs.all fun x=>inR x 255
def BY (r x:AH):Bool:=decide (x.level=r.level)&&decide (x.index=r.index)
def Cn (r:AH):Bool:=inR r.level 3&&inR r.index 3&&inR r.ver 65535
def BM (pre:List AH):List AH→Bool
 | []=>true
 | r::t=>Cn r&&!(pre.any (BY r))&&BM (pre++[r]) t
def AJ (rs:List AH):Bool:=BM [] rs&&decide (rs.length≤16)
def AA (l i:Int):Int:=4*l+i
def Ay (w:Ai):Bool:=inR w.level 3&&inR w.index 3&&inR w.val 255
def AT:Option Ai→List Ai→Bool
 | _,[]=>true
 | none,w::t=>Ay w&&AT (some w) t
 | some v,w::t=>Ay w&&decide (AA v.level v.index<AA w.level w.index)&&AT (some w) t
def AP (ws:List Ai):Bool:=AT none ws&&decide (ws.length≤16)
def AB (ws:A4 (List Ao)) (rs:List AH):Bool:=rs.all fun r=>AV ws r.level r.index
def Ch (ws:A4 (List Ao)) (rs:List Ai):Bool:=rs.all fun r=>AV ws r.level r.index
def CM (ws:A4 (List Ao)) (p:List AF):Bool:=p.all fun i=>!(FV i.code)||AV ws i.b i.c
def AZ (ws:A4 (List Ao)) (s:Ag):Bool :=
 DT s.id s.label s.clear s.prog&&(AJ s.reads&&AP s.writes&&AB ws s.reads&&Ch ws s.writes&&CM ws s.prog) &&
 (inR s.pc s.prog.length&&inR s.at_ s.writes.length&&inR s.step 6&&inR s.result 5)&&CI s.regs&&inR s.stamp 65535&&inR s.tries 65535&&inR s.told 255
def Eu:Option Int→List Ag→Bool
 | _,[]=>true
 | none,s::t=>Eu (some s.id) t
 | some v,s::t=>decide (v<s.id)&&Eu (some s.id) t
def CY (m:Ad):Bool :=
 AR m.words&&inR m.ceil 65535&&m.clocks.all (fun c=>inR c m.ceil)&&decide (m.sess.length≤4)&&decide (m.trace.length≤512)&&Eu none m.sess&&m.sess.all (AZ m.words)&&m.trace.all (fun e=>inR e.label 3)
def Bj (m:Ad) (at_:Int):Bool:=CY m&&decide (0≤at_)&&decide (at_<m.sess.length)
end Ve
namespace Ve
open Go
def BB0:Nat:=140737488355328
structure SmS (s:Ag):Prop where
 bp:(s.prog.length:Int)*32≤140737488355328
 br:(s.reads.length:Int)*24≤140737488355328
 bw:(s.writes.length:Int)*24≤140737488355328
structure SmM (m:Ad):Prop where
 b0:(m.words.a0.length:Int)*24≤140737488355328
 b1:(m.words.a1.length:Int)*24≤140737488355328
 b2:(m.words.a2.length:Int)*24≤140737488355328
 b3:(m.words.a3.length:Int)*24≤140737488355328
 bs:(m.sess.length:Int)*184≤140737488355328
 bt:(m.trace.length:Int)*32≤140737488355328
 s:∀ s∈m.sess,SmS s
def Ap (c:Int) (w:Ao):Ao:=if w.lock=c then { w with lock:=0 } else w
def Df (s:Ag):Ag:={ s with reads:=[],writes:=[],at_:=0,stamp:=0 }
def AK:Ad:=⟨⟨[],[],[],[]⟩,⟨0,0,0,0⟩,0,[],[]⟩
def Bm (c:Int) (m:Ad):Ad:={ m with words:=⟨m.words.a0.map (Ap c),m.words.a1.map (Ap c),m.words.a2.map (Ap c),m.words.a3.map (Ap c)⟩ }
def Az (m:Ad) (k:Nat) (s:Ag):Ad:={ m with sess:=m.sess.set k s }
def AS (m:Ad) (e:Ba):Ad:=if m.trace.length<512 then { m with trace:=m.trace++[e] } else m
def JF (t:Int):Int:=if 65535<IntKind.wrap .i64 (t+1) then 65535 else IntKind.wrap .i64 (t+1)
def Bv (s:Ag):Ag:={ Df s with pc:=0,regs:=⟨0,0,0,0⟩,step:=0,tries:=JF s.tries }
def Gn (s:Ag) (result told:Int):Ag:={ Df s with step:=6,result:=result,told:=told }
def Bw (m:Ad) (at_ kind:Int):Ad × Int :=
 if (Bj m at_&&(decide (kind=3)||decide (kind=5)))=true then
  match m.sess[at_.toNat]? with
  | some s=>(AS (Az (Bm (IntKind.wrap .i64 (s.id+1)) m) at_.toNat (Bv s)) ⟨s.id,s.label,kind,JF s.tries⟩,0)
  | none=>(AK,1300)
 else (AK,1300)
def Cy (m:Ad) (at_ result told:Int):Ad × Int :=
 if (Bj m at_&&inR result 5&&inR told 255)=true then
  match m.sess[at_.toNat]? with
  | some s=>(AS (Az (Bm (IntKind.wrap .i64 (s.id+1)) m) at_.toNat (Gn s result told)) ⟨s.id,s.label,6,result⟩,0)
  | none=>(AK,1300)
 else (AK,1300)
def Ey:Ao:=⟨0,0,0⟩
def Et (w:Ao) (id:Int):Ao × Int :=
 if (AL w&&inR id 254)=true then (if w.lock=0 then ({ w with lock:=id+1 },0) else (Ey,301)) else (Ey,300)
def Ez (w:Ao) (v ver:Int):Ao × Int :=
 if (AL w&&AL ⟨v,ver,0⟩)=true then (⟨v,ver,0⟩,0) else (Ey,300)
def Db:A4 Int:=⟨0,0,0,0⟩
def Cj (cs:A4 Int) (l c:Int):A4 Int × Int × Int :=
 if (cs.all (fun x=>inR x 65535)&&inR c 65535&&inR l 3)=true then
  (if c≤cs.get l then (Db,0,501) else (cs.set l (cs.get l+1),cs.get l+1,0))
 else (Db,0,500)
def KL (rs:A4 Int) (a v:Int):A4 Int × Int :=
 if (CI rs&&inR a 3&&inR v 255)=true then (rs.set a v,0) else (Db,600)
def Le (rs:A4 Int) (a b:Int):A4 Int × Int :=
 if (CI rs&&inR a 3&&inR b 3)=true then (rs.set a ((rs.get a+rs.get b) % 256),0) else (Db,600)
def BW (ws:A4 (List Ao)) (l i:Int):Ao:=(ws.get l)[i.toNat]?.getD Ey
def CR (ws:A4 (List Ao)) (id:Int) (r:AH):Bool :=
 decide ((BW ws r.level r.index).ver=r.ver)&&(decide ((BW ws r.level r.index).lock=0)||decide ((BW ws r.level r.index).lock=id+1))
def BR (ws:A4 (List Ao)) (rs:List AH) (id:Int):Bool × Int :=
 if (AR ws&&AJ rs&&AB ws rs&&inR id 254)=true then (rs.all (CR ws id),0) else (false,900)
def FD (ws:A4 (List Ao)) (r:AH):Bool:=!decide ((BW ws r.level r.index).ver=r.ver)
def BC (ws:A4 (List Ao)) (rs:List AH):Bool × Int :=
 if (AR ws&&AJ rs&&AB ws rs)=true then (rs.any (FD ws),0) else (false,900)
def AX (rs:List AH) (r:AH):List AH × Int :=
 if (AJ rs&&Cn r)=true then (if rs.any (BY r)=true then (rs,0) else if rs.length=16 then ([],900) else (rs++[r],0)) else ([],900)
def CQ (w:Ai):List Ai→List Ai
 | []=>[w]
 | x::r=>if AA x.level x.index<AA w.level w.index then x::CQ w r else if AA x.level x.index=AA w.level w.index then w::r else w::x::r
def BD (ws:List Ai) (w:Ai):List Ai × Int :=
 if (AP ws&&Ay w)=true then (CQ w ws,0) else ([],1000)
def BH (l i:Int):List Ai→Int × Bool
 | []=>(0,false)
 | x::r=>if x.level=l∧x.index=i then (x.val,true) else BH l i r
def AY (ws:List Ai) (l i:Int):Int × Bool:=if AP ws=true then BH l i ws else (0,false)
def Dt (ws:List Ai) (l:Int):Bool:=AP ws&&ws.all (fun w=>decide (w.level=l))
def Cr (m:Ad) (at_:Int):Option (Ag × AF) :=
 if Bj m at_=true then
  match m.sess[at_.toNat]? with
  | some s=>if s.step=0 then (match s.prog[s.pc.toNat]? with
   | some i=>some (s,i)
   | none=>none) else none
  | none=>none
 else none
def FC (m:Ad) (at_ step:Int):Option Ag :=
 if Bj m at_=true then
  match m.sess[at_.toNat]? with
  | some s=>if s.step=step then some s else none
  | none=>none
 else none
def BS (m:Ad) (at_:Int):Bool × Int :=
 match Cr m at_ with
 | some (s,i)=>if i.code=2 then (!under i.b s.label,0) else (false,1400)
 | none=>(false,1400)
def Bs (m:Ad) (at_:Int):Ad × Int :=
 match Cr m at_ with
 | some (s,i)=>if i.code=2 then (if under i.b s.label=true then (AK,1400)
   else if under (orI s.label i.b) s.clear=true then (Az (AS m ⟨s.id,s.label,2,orI s.label i.b⟩) at_.toNat { s with label:=orI s.label i.b },0)
   else Cy m at_ 4 0) else (AK,1400)
 | none=>(AK,1400)
def CU (s:Ag) (i:AF) (rs:List AH) (v:Int):Ag:={ s with reads:=rs,regs:=s.regs.set i.a v,pc:=s.pc+1 }
def BT (m:Ad) (at_:Int):Ad × Int :=
 match Cr m at_ with
 | some (s,i)=>if i.code=2 then (if under i.b s.label=true then
   (if (AY s.writes i.b i.c).2=true then (AS (Az m at_.toNat (CU s i s.reads (AY s.writes i.b i.c).1)) ⟨s.id,s.label,0,(AY s.writes i.b i.c).1⟩,0)
   else if (BR m.words s.reads s.id).1=true∧(BW m.words i.b i.c).lock=0 then
    (AS (Az m at_.toNat (CU s i (AX s.reads ⟨i.b,i.c,(BW m.words i.b i.c).ver⟩).1 (BW m.words i.b i.c).val)) ⟨s.id,s.label,0,(BW m.words i.b i.c).val⟩,0)
   else Bw m at_ 3)
   else (AK,1500)) else (AK,1500)
 | none=>(AK,1500)
def Cl (m:Ad) (at_:Int):Ad × Int :=
 match Cr m at_ with
 | some (s,i)=>if i.code=3 then (AS (Az m at_.toNat { s with writes:=(BD s.writes ⟨i.b,i.c,s.regs.get i.a⟩).1,pc:=s.pc+1 }) ⟨s.id,s.label,1,s.regs.get i.a⟩,0) else (AK,1600)
 | none=>(AK,1600)
def Cg (m:Ad) (at_:Int):Ad × Int :=
 match Cr m at_ with
 | some (s,i) =>
  if i.code=0 then (Az m at_.toNat { s with regs:=(KL s.regs i.a i.b).1,pc:=s.pc+1 },0)
  else if i.code=1 then (Az m at_.toNat { s with regs:=(Le s.regs i.a i.b).1,pc:=s.pc+1 },0)
  else if i.code=4 then (Az m at_.toNat { s with pc:=if s.regs.get i.a=0 then i.b else s.pc+1 },0)
  else (AK,1700)
 | none=>(AK,1700)
def Ff {α:Type} (ws:A4 (List α)) (l i:Int) (w:α):A4 (List α):=ws.set l ((ws.get l).set i.toNat w)
def Fd (m:Ad) (l i:Int) (w:Ao):Ad:={ m with words:=Ff m.words l i w }
def DY (m:Ad) (at_ step:Int):Option (Ag × Ai) :=
 match FC m at_ step with
 | some s=>match s.writes[s.at_.toNat]? with
  | some w=>some (s,w)
  | none=>none
 | none=>none
def DB (m:Ad) (at_:Int):Ad × Int :=
 match DY m at_ 1 with
 | some (s,p)=>if (BW m.words p.level p.index).lock=0 then
   (Az (Fd m p.level p.index { BW m.words p.level p.index with lock:=s.id+1 }) at_.toNat { s with at_:=s.at_+1,step:=if s.at_+1=s.writes.length then 2 else s.step },0)
  else Bw m at_ 3
 | none=>(AK,1800)
def CL (m:Ad) (at_:Int):Ad × Int :=
 match FC m at_ 2 with
 | some s=>if m.ceil≤m.clocks.get s.label then Cy m at_ 5 0
  else (Az { m with clocks:=m.clocks.set s.label (m.clocks.get s.label+1) } at_.toNat { s with stamp:=m.clocks.get s.label+1,step:=3 },0)
 | none=>(AK,1900)
def CT (m:Ad) (at_:Int):Ad × Int :=
 match FC m at_ 3 with
 | some s=>if (BR m.words s.reads s.id).1=true then (if s.writes=[] then Cy m at_ 1 0 else (Az m at_.toNat { s with at_:=0,step:=4 },0))
  else Bw m at_ 3
 | none=>(AK,2000)
def BL (m:Ad) (at_:Int) (s:Ag) (p:Ai):Ad:=Az (Fd m p.level p.index ⟨p.val,s.stamp,0⟩) at_.toNat { s with at_:=s.at_+1 }
def DF (m:Ad) (at_:Int):Ad × Int :=
 match DY m at_ 4 with
 | some (s,p)=>if s.at_+1=s.writes.length then Cy (BL m at_ s p) at_ 1 0 else (BL m at_ s p,0)
 | none=>(AK,2100)
def Cd (m:Ad) (at_:Int):Ad × Int :=
 match Cr m at_ with
 | some (s,i)=>if i.code=5 then (AS (Az m at_.toNat { s with writes:=[],at_:=0,step:=5 }) ⟨s.id,s.label,4,s.reads.length⟩,0) else (AK,2200)
 | none=>match FC m at_ 5 with
  | some s=>if (BC m.words s.reads).1=true then Bw m at_ 5 else (m,0)
  | none=>(AK,2200)
def DQ (m:Ad) (at_:Int) (s:Ag):Ad × Int :=
 if Dt s.writes s.label=true then (Az m at_.toNat { s with at_:=0,step:=if s.writes=[] then 3 else 1 },0) else Cy m at_ 3 0
def EB (m:Ad) (at_:Int) (s:Ag):Ad × Int :=
 match s.prog[s.pc.toNat]? with
 | some i =>
  if i.code=2 then (if (BS m at_).1=true then Bs m at_ else BT m at_)
  else if i.code=3 then Cl m at_
  else if i.code=5 then Cd m at_
  else if i.code=6 then Cy m at_ 2 i.a
  else Cg m at_
 | none=>DQ m at_ s
def Bb (m:Ad) (at_:Int) (s:Ag):Ad × Int :=
 if s.step=0 then EB m at_ s
 else if s.step=1 then DB m at_
 else if s.step=2 then CL m at_
 else if s.step=3 then CT m at_
 else if s.step=4 then DF m at_
 else if s.step=5 then Cd m at_
 else (m,0)
def Be (m:Ad) (at_:Int):Ad × Int :=
 if Bj m at_=true then
  match m.sess[at_.toNat]? with
  | some s=>if (Bb m at_ s).2=0 then ((Bb m at_ s).1,0) else (AK,2300)
  | none=>(AK,2300)
 else (AK,2300)
end Ve
namespace Ve
open Go
theorem Au {α:Type} {l:List α} {k:Nat} {s:α} (hs:l[k]?=some s):k<l.length:=by
 rcases Nat.lt_or_ge k l.length with h | h
 ·exact h
 ·rw [List.getElem?_eq_none h] at hs;cases hs
theorem aX {m:Ad} (h:CY m=true) {k:Nat} {s:Ag} (hs:m.sess[k]?=some s):AZ m.words s=true:=by
 simp only [CY,Bool.and_eq_true] at h
 exact (List.all_eq_true.mp h.1.2) s (List.mem_of_getElem? hs)
theorem bU {m:Ad} {at_:Int} (h:Bj m at_=true):CY m=true:=by
 simp only [Bj,Bool.and_eq_true] at h;exact h.1.1
theorem It {m:Ad} {at_:Int} (h:Bj m at_=true):∃ s k,at_=(k:Nat)∧m.sess[k]?=some s∧k<m.sess.length:=by
 simp only [Bj,Bool.and_eq_true,decide_eq_true_eq] at h
 have hl:at_.toNat<m.sess.length:=by omega
 exact ⟨m.sess[at_.toNat],at_.toNat,by omega,by simp [hl],hl⟩
theorem JR:SmM AK:=by
 constructor<;>simp [AK]
theorem sm_set {m:Ad} (h:SmM m) (k:Nat) (s:Ag) (hs:SmS s):SmM (Az m k s):=by
 obtain ⟨h0,h1,h2,h3,hs',ht,hp⟩:=h
 refine ⟨h0,h1,h2,h3,by simpa [Az] using hs',ht,?_⟩
 intro x hx
 simp only [Az] at hx
 rcases List.mem_or_eq_of_mem_set hx with h | rfl
 ·exact hp x h
 ·exact hs
end Ve
