/- A step, as what it turns. -/
import Derived.Test.YtjgbbmcjbfpjfaaGreatVeP
set_option linter.all false
set_option linter.unusedSectionVars false
namespace Ve
open Go
inductive WF where
 | id
 | free (c:Int)
 | set (l i:Int) (w:Ap)
 | setFree (l i:Int) (w:Ap) (c:Int)
def ZX (c:Int) (ws:A4 (List Ap)):A4 (List Ap):=⟨ws.a0.map (As c),ws.a1.map (As c),ws.a2.map (As c),ws.a3.map (As c)⟩
def WF.app:WF→A4 (List Ap)→A4 (List Ap)
 | .id,ws=>ws
 | .free c,ws=>ZX c ws
 | .set l i w,ws=>Fh ws l i w
 | .setFree l i w c,ws=>ZX c (Fh ws l i w)
def WF.row (h:Int):WF→List Ap→List Ap
 | .id,r=>r
 | .free c,r=>r.map (As c)
 | .set l i w,r=>if h=l then r.set i.toNat w else r
 | .setFree l i w c,r=>(if h=l then r.set i.toNat w else r).map (As c)
theorem QN (c:Int) (ws:A4 (List Ap)) (h:Int):(ZX c ws).get h=(ws.get h).map (As c):=by
 unfold ZX A4.get;split
 ·rfl
 ·split
  ·rfl
  ·split<;>rfl
theorem To (ws:A4 (List Ap)) (l i:Int) (w:Ap) (h:Int) (hl:inR l 3=true) (hh:inR h 3=true):(Fh ws l i w).get h=if h=l then (ws.get h).set i.toNat w else ws.get h:=by
 rcases Fm hl with rfl | rfl | rfl | rfl<;>rcases Fm hh with rfl | rfl | rfl | rfl<;>rfl
def WF.ok:WF→Prop
 | .set l _ _=>inR l 3=true
 | .setFree l _ _ _=>inR l 3=true
 | _=>True
theorem WF.app_get {f:WF} (hf:f.ok) (ws:A4 (List Ap)) (h:Int) (hh:inR h 3=true):(f.app ws).get h=f.row h (ws.get h):=by
 cases f with
 | id=>rfl
 | free c=>exact QN c ws h
 | set l i w=>exact To ws l i w h hf hh
 | setFree l i w c=>simp only [WF.app,WF.row];rw [QN,To ws l i w h hf hh]
structure Ef where
 t:Ai
 w:WF
 c:Option Int
 e:Option AY
def IU:Option AY→Ad→Ad
 | none,m=>m
 | some e,m=>Ba m e
def dW (l:Int) (cs:A4 Int):Option Int→A4 Int
 | none=>cs
 | some v=>cs.set l v
def Ef.app (E:Ef) (m:Ad) (k:Nat) (l:Int):Ad:=IU E.e ⟨E.w.app m.words,dW l m.clocks E.c,m.ceil,m.sess.set k E.t,m.trace⟩
def Pc (s:Ai) (kind:Int):Ef:=⟨BJ s,.free (s.id+1),none,some ⟨s.id,s.label,kind,Kn s.tries⟩⟩
def QX (s:Ai) (r t:Int):Ef:=⟨Gp s r t,.free (s.id+1),none,some ⟨s.id,s.label,6,r⟩⟩
def NP (ws:A4 (List Ap)) (s:Ai) (x:AI):Ef :=
 if (BD x.b x.c s.writes).2=true then ⟨Di s x s.reads (BD x.b x.c s.writes).1,.id,none,some ⟨s.id,s.label,0,(BD x.b x.c s.writes).1⟩⟩
 else if s.reads.all (Cy ws s.id)=true∧(BN ws x.b x.c).lock=0 then ⟨Di s x (PZ s.reads ⟨x.b,x.c,(BN ws x.b x.c).ver⟩) (BN ws x.b x.c).val,.id,none,some ⟨s.id,s.label,0,(BN ws x.b x.c).val⟩⟩
 else Pc s 3
def SE (s:Ai) (x:AI):Ef:=if Aj (orI s.label x.b) s.clear=true then ⟨{ s with label:=orI s.label x.b },.id,none,some ⟨s.id,s.label,2,orI s.label x.b⟩⟩ else QX s 4 0
def vE (s:Ai) (x:AI):Ef:=⟨{ s with writes:=Dj ⟨x.b,x.c,s.regs.get x.a⟩ s.writes,pc:=s.pc+1 },.id,none,some ⟨s.id,s.label,1,s.regs.get x.a⟩⟩
def WQ (s:Ai) (x:AI):Ef :=
 if x.code=0 then ⟨{ s with regs:=s.regs.set x.a x.b,pc:=s.pc+1 },.id,none,none⟩
 else if x.code=1 then ⟨{ s with regs:=s.regs.set x.a ((s.regs.get x.a+s.regs.get x.b) % 256),pc:=s.pc+1 },.id,none,none⟩
 else ⟨{ s with pc:=if s.regs.get x.a=0 then x.b else s.pc+1 },.id,none,none⟩
def WP (s:Ai):Ef:=if s.writes.all (fun w=>decide (w.level=s.label))=true then ⟨{ s with at_:=0,step:=if s.writes=[] then 3 else 1 },.id,none,none⟩ else QX s 3 0
def UN (ws:A4 (List Ap)) (s:Ai):Ef :=
 match s.prog[s.pc.toNat]? with
 | some x =>
  if x.code=2 then (if Aj x.b s.label=true then NP ws s x else SE s x)
  else if x.code=3 then vE s x
  else if x.code=5 then ⟨{ s with writes:=[],at_:=0,step:=5 },.id,none,some ⟨s.id,s.label,4,s.reads.length⟩⟩
  else if x.code=6 then QX s 2 x.a
  else WQ s x
 | none=>WP s
def SD (ws:A4 (List Ap)) (s:Ai):Option Ef :=
 match s.writes[s.at_.toNat]? with
 | some w=>some (if (BN ws w.level w.index).lock=0 then ⟨{ s with at_:=s.at_+1,step:=if s.at_+1=s.writes.length then 2 else s.step },.set w.level w.index { BN ws w.level w.index with lock:=s.id+1 },none,none⟩ else Pc s 3)
 | none=>none
def SC (ceil clk:Int) (s:Ai):Ef:=if ceil≤clk then QX s 5 0 else ⟨{ s with stamp:=clk+1,step:=3 },.id,some (clk+1),none⟩
def NQ (ws:A4 (List Ap)) (s:Ai):Ef:=if s.reads.all (Cy ws s.id)=true then (if s.writes=[] then QX s 1 0 else ⟨{ s with at_:=0,step:=4 },.id,none,none⟩) else Pc s 3
def WR (s:Ai):Option Ef :=
 match s.writes[s.at_.toNat]? with
 | some w=>some (if s.at_+1=s.writes.length then ⟨Gp { s with at_:=s.at_+1 } 1 0,.setFree w.level w.index ⟨w.val,s.stamp,0⟩ (s.id+1),none,some ⟨s.id,s.label,6,1⟩⟩ else ⟨{ s with at_:=s.at_+1 },.set w.level w.index ⟨w.val,s.stamp,0⟩,none,none⟩)
 | none=>none
def SB (ws:A4 (List Ap)) (s:Ai):Ef:=if s.reads.any (Fb ws)=true then Pc s 5 else ⟨s,.id,none,none⟩
def SA (ceil:Int) (ws:A4 (List Ap)) (clk:Int) (s:Ai):Option Ef :=
 if s.step=0 then some (UN ws s)
 else if s.step=1 then SD ws s
 else if s.step=2 then some (SC ceil clk s)
 else if s.step=3 then some (NQ ws s)
 else if s.step=4 then WR s
 else if s.step=5 then some (SB ws s)
 else some ⟨s,.id,none,none⟩
theorem a8g (m:Ad) (k:Nat) (s:Ai) (l:Int):upM m k s l=Ba (AE m k { s with label:=l }) ⟨s.id,s.label,2,l⟩:=by
 unfold upM Ba AE;split<;>rfl
theorem wM (m:Ad) (k:Nat) (s:Ai) (l:Int):(UN m.words s).app m k l=Tz m k s:=by
 unfold UN Tz
 cases s.prog[s.pc.toNat]? with
 | none =>
  simp only
  unfold WP ZJ
  by_cases h:(s.writes.all fun w=>decide (w.level=s.label))=true
  ·rw [if_pos h,if_pos h];rfl
  ·rw [if_neg h,if_neg h];rfl
 | some x =>
  simp only
  by_cases hc:x.code=2
  ·rw [if_pos hc,if_pos hc]
   by_cases hu:Aj x.b s.label=true
   ·rw [if_pos hu,if_pos hu]
    unfold NP Sz
    by_cases h1:(BD x.b x.c s.writes).2=true
    ·rw [if_pos h1,if_pos h1];rfl
    ·rw [if_neg h1,if_neg h1]
     by_cases h2:s.reads.all (Cy m.words s.id)=true∧(BN m.words x.b x.c).lock=0
     ·rw [if_pos h2,if_pos h2];rfl
     ·rw [if_neg h2,if_neg h2];rfl
   ·rw [if_neg hu,if_neg hu]
    unfold SE SF
    by_cases h1:Aj (orI s.label x.b) s.clear=true
    ·rw [if_pos h1,if_pos h1,a8g];rfl
    ·rw [if_neg h1,if_neg h1];rfl
  ·rw [if_neg hc,if_neg hc]
   by_cases hc:x.code=3
   ·rw [if_pos hc,if_pos hc];rfl
   ·rw [if_neg hc,if_neg hc]
    by_cases hc:x.code=5
    ·rw [if_pos hc,if_pos hc];rfl
    ·rw [if_neg hc,if_neg hc]
     by_cases hc:x.code=6
     ·rw [if_pos hc,if_pos hc];rfl
     ·rw [if_neg hc,if_neg hc]
      unfold WQ aD
      by_cases h0:x.code=0
      ·rw [if_pos h0,if_pos h0];rfl
      ·rw [if_neg h0,if_neg h0]
       by_cases h1:x.code=1
       ·rw [if_pos h1,if_pos h1];rfl
       ·rw [if_neg h1,if_neg h1];rfl
theorem PG {m:Ad} {k:Nat} {s:Ai} (hs:m.sess[k]?=some s):FV m k s=(SA m.ceil m.words (m.clocks.get s.label) s).map fun E=>E.app m k s.label:=by
 unfold FV SA
 by_cases h0:s.step=0
 ·rw [if_pos h0,if_pos h0,Option.map_some,wM]
 rw [if_neg h0,if_neg h0]
 by_cases h1:s.step=1
 ·rw [if_pos h1,if_pos h1]
  unfold Ut SD
  cases s.writes[s.at_.toNat]? with
  | none=>rfl
  | some w =>
   simp only [Option.map_some]
   by_cases hl:(BN m.words w.level w.index).lock=0
   ·rw [if_pos hl,if_pos hl];rfl
   ·rw [if_neg hl,if_neg hl];rfl
 rw [if_neg h1,if_neg h1]
 by_cases h2:s.step=2
 ·rw [if_pos h2,if_pos h2]
  unfold Mi SC
  by_cases hc:m.ceil≤m.clocks.get s.label
  ·rw [if_pos hc,if_pos hc];rfl
  ·rw [if_neg hc,if_neg hc];rfl
 rw [if_neg h2,if_neg h2]
 by_cases h3:s.step=3
 ·rw [if_pos h3,if_pos h3]
  unfold My NQ
  by_cases hg:s.reads.all (Cy m.words s.id)=true
  ·rw [if_pos hg,if_pos hg]
   by_cases hw:s.writes=[]
   ·rw [if_pos hw,if_pos hw];rfl
   ·rw [if_neg hw,if_neg hw];rfl
  ·rw [if_neg hg,if_neg hg];rfl
 rw [if_neg h3,if_neg h3]
 by_cases h4:s.step=4
 ·rw [if_pos h4,if_pos h4]
  unfold Vv WR
  cases s.writes[s.at_.toNat]? with
  | none=>rfl
  | some w =>
   simp only [Option.map_some]
   by_cases hl:s.at_+1=s.writes.length
   ·rw [if_pos hl,if_pos hl]
    unfold EJ BY AE FF BC Ef.app
    simp only [IU,Int.toNat_natCast,List.set_set]
    rfl
   ·rw [if_neg hl,if_neg hl];rfl
 rw [if_neg h4,if_neg h4]
 by_cases h5:s.step=5
 ·rw [if_pos h5,if_pos h5]
  unfold Tf SB
  by_cases hc:s.reads.any (Fb m.words)=true
  ·rw [if_pos hc,if_pos hc];rfl
  ·rw [if_neg hc,if_neg hc]
   simp only [Option.map_some,Ef.app,IU,dW,WF.app,Lb hs]
 rw [if_neg h5,if_neg h5]
 simp only [Option.map_some,Ef.app,IU,dW,WF.app,Lb hs]
end Ve
