/- Models of scripts, and how the evaluator's values stand for them; new machines. -/
import Derived.Test.YthllnfkddiaokaaGreatVeM
import Derived.Test.YthllnfkddiaokaaGreatVeN
set_option linter.all false
set_option linter.unusedSectionVars false
namespace Ve
open Go
def eSt (p:Bool) (s:AV):V:=.agg [iV s.id,iV s.label,iV s.clear,eIs p s.prog]
abbrev vV (p:Bool) (l:List AV):V:=.isl p false 4 (l.map (eSt p))
abbrev eNs (p:Bool) (l:List Int):V:=.isl p false 1 (l.map iV)
abbrev XT (p:Bool) (l:List AO):V:=.isl p false 2 (l.map eSl)
abbrev cSc (p:Bool) (s:Ap):List V:=[eNs p s.words.a0,eNs p s.words.a1,eNs p s.words.a2,eNs p s.words.a3,iV s.ceil,vV p s.starts,XT p s.slots]
abbrev eSc (p:Bool) (s:Ap):V:=.agg (cSc p s)
structure Cj (s:Ap):Prop where
 b0:s.words.a0.length≤1048576
 b1:s.words.a1.length≤1048576
 b2:s.words.a2.length≤1048576
 b3:s.words.a3.length≤1048576
 bst:s.starts.length≤1048576
 bsl:s.slots.length≤1048576
 p:∀ x∈s.starts,x.prog.length≤1048576
def Dl (v:Int):Aj:=⟨v,0,0⟩
def Cq (l:List Int):Bool:=decide (l.length≤4)&&l.all (fun v=>inR v 255)
def Bw (ws:A4 (List Int)):Bool:=ws.all Cq
def Bf (ws:A4 (List Int)):A4 (List Aj):=⟨ws.a0.map Dl,ws.a1.map Dl,ws.a2.map Dl,ws.a3.map Dl⟩
def CI (ws:A4 (List Int)):A4 (List Aj) × Int:=if Bw ws=true then (Bf ws,0) else (⟨[],[],[],[]⟩,400)
def AX (s:AV):Ae:=⟨s.id,s.label,s.clear,s.prog,0,0,⟨0,0,0,0⟩,[],[],0,0,0,0,0⟩
def Bz (s:AV):Bool:=Dk s.id s.label s.clear s.prog
def Fa (s:AV):Ae × Int:=if Bz s=true then (AX s,0) else (AX ⟨0,0,0,[]⟩,1100)
def AC (s:Ap):Ac:=⟨Bf s.words,⟨0,0,0,0⟩,s.ceil,s.starts.map AX,[]⟩
def Ci (s:Ap):Ac × Int:=if (Bw s.words&&s.starts.all Bz&&De (AC s))=true then (AC s,0) else (AA,1200)
theorem Et {s:Ap} (h:Cj s):SmM (AC s):=by
 obtain ⟨b0,b1,b2,b3,bst,bsl,p⟩:=h
 refine ⟨by simp [AC,Bf];omega,by simp [AC,Bf];omega,by simp [AC,Bf];omega,by simp [AC,Bf];omega,by simp [AC];omega,by simp [AC],?_⟩
 intro x hx
 simp only [AC,List.mem_map] at hx
 obtain ⟨y,hy,rfl⟩:=hx
 have:=p y hy
 exact ⟨by simp only [AX];omega,by simp [AX],by simp [AX]⟩
end Ve
namespace Ve
open Go
theorem Hk {ws ws':A4 (List Aj)} (h0:ws'.a0.length=ws.a0.length) (h1:ws'.a1.length=ws.a1.length) (h2:ws'.a2.length=ws.a2.length) (h3:ws'.a3.length=ws.a3.length) (l i:Int):Ay ws' l i=Ay ws l i:=by
 have:(ws'.get l).length=(ws.get l).length:=by
  simp only [A4.get];split
  ·exact h0
  ·split
   ·exact h1
   ·split
    ·exact h2
    ·exact h3
 simp only [Ay,this]
theorem FZ {ws ws':A4 (List Aj)} (h:∀ l i,Ay ws' l i=Ay ws l i) (s:Ae):BS ws' s=BS ws s:=by
 simp only [BS,AP,Cf,DL,h]
def Ll:Option Int→List Int→Bool
 | _,[]=>true
 | none,s::t=>Ll (some s) t
 | some v,s::t=>decide (v<s)&&Ll (some s) t
theorem Na:∀ (l:List Ae) (o:Option Int),EY o l=Ll o (l.map (·.id))
 | [],o=>by cases o<;>rfl
 | a::l,none=>by simp only [EY,List.map_cons,Ll];exact Na l _
 | a::l,some v=>by simp only [EY,List.map_cons,Ll];rw [Na l]
theorem Xu {l:List Ae} {k:Nat} {s s':Ae} (hs:l[k]?=some s) (h:s'.id=s.id):(l.set k s').map (·.id)=l.map (·.id):=by
 rw [List.map_set,h]
 apply List.ext_getElem?
 intro i
 rw [List.getElem?_set]
 split
 ·rename_i e;subst e
  have hl:=Ax hs
  have:l[k]=s:=by rw [List.getElem?_eq_getElem hl] at hs;exact Option.some.inj hs
  simp [hl,this]
 ·rfl
structure SP (ws:A4 (List Aj)) (s:Ae):Prop where
 id:inR s.id 254=true
 label:inR s.label 3=true
 clear:inR s.clear 3=true
 Ao:Ao s.label s.clear=true
 prog:Dg s.prog=true
 reads:AY s.reads=true
 writes:Bg s.writes=true
 rthere:AP ws s.reads=true
 wthere:Cf ws s.writes=true
 pthere:DL ws s.prog=true
 pc:inR s.pc s.prog.length=true
 at_:inR s.at_ s.writes.length=true
 step:inR s.step 6=true
 result:inR s.result 5=true
 regs:Dx s.regs=true
 stamp:inR s.stamp 65535=true
 tries:inR s.tries 65535=true
 told:inR s.told 255=true
theorem sp (ws:A4 (List Aj)) (s:Ae):BS ws s=true↔SP ws s:=by
 simp only [BS,Dk,Bool.and_eq_true]
 constructor
 ·rintro ⟨⟨⟨⟨⟨⟨⟨⟨⟨⟨a,b⟩,c⟩,d⟩,e⟩,⟨⟨⟨f,g⟩,h⟩,i⟩,j⟩,⟨⟨k,l⟩,m⟩,n⟩,o⟩,p⟩,q⟩,r⟩
  exact ⟨a,b,c,d,e,f,g,h,i,j,k,l,m,n,o,p,q,r⟩
 ·rintro ⟨a,b,c,d,e,f,g,h,i,j,k,l,m,n,o,p,q,r⟩
  exact ⟨⟨⟨⟨⟨⟨⟨⟨⟨⟨a,b⟩,c⟩,d⟩,e⟩,⟨⟨⟨f,g⟩,h⟩,i⟩,j⟩,⟨⟨k,l⟩,m⟩,n⟩,o⟩,p⟩,q⟩,r⟩
structure Br (m:Ac):Prop where
 arena:AS m.words=true
 ceil:inR m.ceil 65535=true
 clocks:m.clocks.all (fun c=>inR c m.ceil)=true
 sl:m.sess.length≤4
 tl:m.trace.length≤512
 ids:Ll none (m.sess.map (·.id))=true
 sess:∀ s∈m.sess,BS m.words s=true
 trace:∀ e∈m.trace,inR e.label 3=true
theorem LS (m:Ac):De m=true↔Br m:=by
 simp only [De,Bool.and_eq_true,decide_eq_true_eq,List.all_eq_true,Na]
 constructor
 ·rintro ⟨⟨⟨⟨⟨⟨⟨a,b⟩,c⟩,d⟩,e⟩,f⟩,g⟩,h⟩
  exact ⟨a,b,c,d,e,f,g,h⟩
 ·rintro ⟨a,b,c,d,e,f,g,h⟩
  exact ⟨⟨⟨⟨⟨⟨⟨a,b⟩,c⟩,d⟩,e⟩,f⟩,g⟩,h⟩
theorem Ks {m:Ac} (h:Br m) {e:AI} (he:inR e.label 3=true):Br (Bm m e):=by
 unfold Bm
 split
 ·rename_i hl
  refine ⟨h.arena,h.ceil,h.clocks,h.sl,by simp;omega,h.ids,h.sess,?_⟩
  intro x hx
  rcases List.mem_append.1 hx with hx | hx
  ·exact h.trace x hx
  ·simp only [List.mem_singleton] at hx;subst hx;exact he
 ·exact h
theorem In {m:Ac} (h:Br m) {k:Nat} {s s':Ae} (hs:m.sess[k]?=some s) (hid:s'.id=s.id) (hm:SP m.words s'):Br (Bd m k s'):=by
 refine ⟨h.arena,h.ceil,h.clocks,by simpa [Bd] using h.sl,h.tl,?_,?_,h.trace⟩
 ·simp only [Bd];rw [Xu hs hid];exact h.ids
 ·intro x hx
  simp only [Bd] at hx
  rcases List.mem_or_eq_of_mem_set hx with hx | rfl
  ·exact h.sess x hx
  ·exact (sp _ _).2 hm
theorem Sd {w:Aj} (c:Int) (h:Ba w=true):Ba (Aw c w)=true:=by
 unfold Aw
 split
 ·simp only [Ba,Bool.and_eq_true] at h ⊢
  exact ⟨h.1,by decide⟩
 ·exact h
theorem HG {l:List Aj} (c:Int) (h:Ch l=true):Ch (l.map (Aw c))=true:=by
 simp only [Ch,Bool.and_eq_true,List.length_map,List.all_eq_true] at h ⊢
 refine ⟨h.1,?_⟩
 intro x hx
 obtain ⟨y,hy,rfl⟩:=List.mem_map.1 hx
 exact Sd c (h.2 y hy)
theorem Pm {m:Ac} (h:Br m) {ws:A4 (List Aj)} (ha:AS ws=true) (h0:ws.a0.length=m.words.a0.length) (h1:ws.a1.length=m.words.a1.length) (h2:ws.a2.length=m.words.a2.length) (h3:ws.a3.length=m.words.a3.length):Br { m with words:=ws } :=
 ⟨ha,h.ceil,h.clocks,h.sl,h.tl,h.ids,fun s hs=>by rw [FZ (fun l i=>Hk h0 h1 h2 h3 l i)];exact h.sess s hs,h.trace⟩
theorem QS {m:Ac} (h:Br m) (c:Int):Br (DH c m):=by
 refine Pm h ?_ (by simp) (by simp) (by simp) (by simp)
 have:=h.arena
 simp only [AS,A4.all,Bool.and_eq_true] at this ⊢
 exact ⟨⟨⟨HG c this.1.1.1,HG c this.1.1.2⟩,HG c this.1.2⟩,HG c this.2⟩
theorem cC:AY []=true:=by decide
theorem Ov:Bg []=true:=by decide
theorem Yz {ws:A4 (List Aj)} {s:Ae} (h:SP ws s):SP ws (ED s) :=
 { h with reads:=cC,writes:=Ov,rthere:=rfl,wthere:=rfl,at_:=by simp [ED,inR],stamp:=by rfl }
theorem AE {x c:Int}:inR x c=true↔0≤x∧x≤c:=by simp [inR]
theorem Bp {a:Int} (h1:0≤a) (h2:a≤9000000000000000000):IntKind.wrap .i64 a=a:=Jc (by omega) (by omega)
theorem tP {t:Int} (h:inR t 65535=true):inR (KF t) 65535=true:=by
 rw [AE] at h
 unfold KF
 rw [Bp (by omega) (by omega)]
 split
 ·decide
 ·rw [AE];omega
theorem hY {ws:A4 (List Aj)} {s:Ae} (h:SP ws s):SP ws (Co s) :=
 { Yz h with pc:=by simp [Co,inR],regs:=by rfl,step:=by rfl,tries:=tP h.tries }
theorem zL {ws:A4 (List Aj)} {s:Ae} (h:SP ws s) {r t:Int} (hr:inR r 5=true) (ht:inR t 255=true):SP ws (DB s r t) :=
 { Yz h with step:=by rfl,result:=hr,told:=ht }
theorem Yy {m:Ac} {s:Ae} (c:Int):SP (DH c m).words s↔SP m.words s:=by
 rw [← sp,← sp,FZ (ws:=m.words) (ws':=(DH c m).words) (fun l i=>Hk (by simp [DH]) (by simp [DH]) (by simp [DH]) (by simp [DH]) l i)]
theorem SU {m:Ac} {k:Nat} (h:Br m) (hk:k<m.sess.length):Cs m k=true:=by
 simp only [Cs,Bool.and_eq_true,decide_eq_true_eq]
 exact ⟨⟨(LS m).2 h,by omega⟩,by omega⟩
theorem Hw (m:Ac) (at_:Int):Cs m at_=false∨∃ k s,at_=(k:Nat)∧m.sess[k]?=some s∧Br m∧SP m.words s:=by
 cases h:Cs m at_ with
 | false=>exact .inl rfl
 | true =>
  obtain ⟨s,k,rfl,hs,hk⟩:=Px h
  have hm:=mX h
  exact .inr ⟨k,s,rfl,hs,(LS m).1 hm,(sp _ _).1 (lM hm hs)⟩
def Lu (m:Ac) (k:Nat) (s:Ae) (kind:Int):Ac:=Bm (Bd (DH (s.id+1) m) k (Co s)) ⟨s.id,s.label,kind,KF s.tries⟩
def EB (m:Ac) (k:Nat) (s:Ae) (r t:Int):Ac:=Bm (Bd (DH (s.id+1) m) k (DB s r t)) ⟨s.id,s.label,6,r⟩
theorem Zq {i:Int} (h:inR i 254=true):IntKind.wrap .i64 (i+1)=i+1:=by
 rw [AE] at h;exact Bp (by omega) (by omega)
theorem Gj {m:Ac} {k:Nat} {s:Ae} (hs:m.sess[k]?=some s) (hm:Br m) {kind:Int} (hk:kind=3∨kind=5):Cy m k kind=(Lu m k s kind,0):=by
 have h:=(sp _ _).1 (hm.sess s (List.mem_of_getElem? hs))
 have h1:(Cs m k&&(decide (kind=3)||decide (kind=5)))=true:=by
  rw [SU hm (Ax hs)];rcases hk with rfl | rfl<;>rfl
 simp only [Cy,h1,if_true,Int.toNat_natCast,hs,Lu,Zq h.id]
theorem Gs {m:Ac} {k:Nat} {s:Ae} (hs:m.sess[k]?=some s) (hm:Br m) {r t:Int} (hr:inR r 5=true) (ht:inR t 255=true):ET m k r t=(EB m k s r t,0):=by
 have h:=(sp _ _).1 (hm.sess s (List.mem_of_getElem? hs))
 have h1:(Cs m k&&inR r 5&&inR t 255)=true:=by
  rw [SU hm (Ax hs),hr,ht];rfl
 simp only [ET,h1,if_true,Int.toNat_natCast,hs,EB,Zq h.id]
theorem FB (m:Ac) (e:AI):(Bm m e).sess=m.sess:=by unfold Bm;split<;>rfl
theorem FA (m:Ac) (e:AI):(Bm m e).words=m.words:=by unfold Bm;split<;>rfl
theorem Uz (m:Ac) (e:AI):(Bm m e).clocks=m.clocks:=by unfold Bm;split<;>rfl
theorem Ic (m:Ac) (e:AI):(Bm m e).ceil=m.ceil:=by unfold Bm;split<;>rfl
theorem La (m:Ac) (e:AI):(Bm m e).trace=if m.trace.length<512 then m.trace++[e] else m.trace:=by unfold Bm;split<;>rfl
theorem Wx {m:Ac} {k:Nat} {s:Ae} (hs:m.sess[k]?=some s) (hm:Br m) (kind:Int):Br (Lu m k s kind):=by
 have h:=(sp _ _).1 (hm.sess s (List.mem_of_getElem? hs))
 exact Ks (In (QS hm _) (s:=s) (s':=Co s) hs rfl (Yy _ |>.2 (hY h))) h.label
theorem Rz {m:Ac} {k:Nat} {s:Ae} (hs:m.sess[k]?=some s) (hm:Br m) {r t:Int} (hr:inR r 5=true) (ht:inR t 255=true):Br (EB m k s r t):=by
 have h:=(sp _ _).1 (hm.sess s (List.mem_of_getElem? hs))
 exact Ks (In (QS hm _) (s:=s) (s':=DB s r t) hs rfl (Yy _ |>.2 (zL h hr ht))) h.label
theorem RU {m:Ac} {k:Nat} {s:Ae} (kind:Int):(Lu m k s kind).sess=m.sess.set k (Co s):=by rw [Lu,FB];rfl
theorem Ln {m:Ac} {k:Nat} {s:Ae} (r t:Int):(EB m k s r t).sess=m.sess.set k (DB s r t):=by rw [EB,FB];rfl
theorem Yl {m:Ac} {k:Nat} {s:Ae} (kind:Int):(Lu m k s kind).words=(DH (s.id+1) m).words:=by rw [Lu,FA];rfl
theorem fQ {m:Ac} {k:Nat} {s:Ae} (kind:Int):(Lu m k s kind).ceil=m.ceil:=by rw [Lu,Ic];rfl
theorem NQ {m:Ac} {k:Nat} {s:Ae} (r t:Int):(EB m k s r t).words=(DH (s.id+1) m).words:=by rw [EB,FA];rfl
theorem XO {m:Ac} {k:Nat} {s:Ae} (r t:Int):(EB m k s r t).ceil=m.ceil:=by rw [EB,Ic];rfl
end Ve
namespace Ve
open Go
theorem Oq {L:Lay} {t:TypeId} {k:IntKind} {a b:Int} (h:b≠0):BJ L .rem t (.lit (.int k a)) (.lit (.int k b))=some (.lit (.int k (a.tmod b))):=by
 simp [BJ,binOp,Op.intDiv,h,Jw];rfl
theorem Mx {L:Lay} {t:TypeId} {k j:IntKind} {a b:Int} (h:¬ b<0):BJ L .shr t (.lit (.int k a)) (.lit (.int j b))=some (.lit (.int k (a.fdiv (2 ^ min b.toNat k.bits)))):=by
 simp [BJ,binOp,Op.shift,h,Jw];rfl
def uW (a:Int):Int:=IntKind.wrap .u64 a
theorem WM (a:Int):0≤uW a:=by
 have e1:(2 ^ IntKind.bits .u64:Int)=18446744073709551616:=by decide
 simp only [uW,IntKind.wrap,IntKind.signed,Bool.false_and,Bool.false_eq_true,if_false,e1]
 omega
theorem Xc {a b:Int} (ha:0≤a) (hb:0<b):0≤a.tmod b∧a.tmod b≤b - 1:=by
 rw [Int.tmod_eq_emod_of_nonneg ha]
 have h1:=Int.emod_nonneg a (show b≠0 by omega)
 have h2:=Int.emod_lt_of_pos a hb
 omega
theorem a4v (a:Int) {b:Int} (hb:0<b) (hb':b≤1000000):IntKind.wrap .i64 ((IntKind.wrap .u64 a).tmod b)=(uW a).tmod b:=by
 have:=Xc (WM a) hb
 exact Bp (by show 0≤(uW a).tmod b;omega) (by show (uW a).tmod b≤_;omega)
end Ve
namespace Ve
open Go
theorem GY (a:Int) (c:Nat) (hc:c≤1000000):inR (Df a c) c=true:=by
 have h:(BitVec.ofInt 64 a &&& BitVec.ofInt 64 (c:Int)).toNat≤c:=by
  have:(BitVec.ofInt 64 (c:Int)).toNat=c:=by
   rw [BitVec.toNat_ofInt,show ((2 ^ 64:Nat):Int)=18446744073709551616 from rfl]
   omega
  rw [BitVec.toNat_and,this];exact Nat.and_le_right
 unfold Df
 rw [Bp (by omega) (by omega),AE]
 omega
end Ve
namespace Ve
open Go
theorem Av {thr:Nat} {live:List Nat} {f:St→(Out→St→Option Ans)→Option Ans} {q:Out→St→Option Ans} {k:Nat} {s s':St} {Q:V→Hp→Nat→Prop} {u:Dum f} {w:Dum q} (e:Vk thr live s'=Vk thr live s):GL thr live f q k s' Q u w=GL thr live f q k s Q u w:=by
 cases k with
 | zero=>rfl
 | succ k =>
  rw [gLs,gLs]
  simp only [GN,HI]
  rw [e]
end Ve
namespace Ve
open Go
def AF (x:AO):Bool:=inR x.level 3&&inR x.pick 255
def Gl (l:Int) (s:Ae):Bool:=decide (s.label=l)&&!decide (s.step=6)
def Dq (l:Int):Nat→List Ae→List Nat
 | _,[]=>[]
 | k,s::r=>if Gl l s=true then k::Dq l (k+1) r else Dq l (k+1) r
def Jl (m:Ac) (l:Int):List Nat:=Dq l 0 m.sess
def CU (m:Ac) (x:AO):Int × Bool × Int :=
 if (De m&&AF x)=true then
  match (Jl m x.level)[x.pick.toNat % (Jl m x.level).length]? with
  | some k=>((k:Nat),true,0)
  | none=>(0,false,0)
 else (0,false,2400)
def AQ (m:Ac) (x:AO):Ac × Int :=
 if (CU m x).2.2=0 then
  if (CU m x).2.1=true then (if (BV m (CU m x).1).2=0 then ((BV m (CU m x).1).1,0) else (AA,2400)) else (m,0)
 else (AA,2400)
def BH:Ac→List AO→Ac × Int
 | m,[]=>(m,0)
 | m,x::r=>if (AQ m x).2=0 then BH (AQ m x).1 r else (AA,2500)
def Az (s:Ap):Bool:=decide ((Ci s).2=0)&&decide (s.slots.length≤256)&&s.slots.all AF
def BN (s:Ap):Ac × Int:=if Az s=true then BH (Ci s).1 s.slots else (AA,2500)
def Cw (g l:Int) (row:List Int):List Int:=if Ao g l=true then row else row.map fun _=>0
def Ou:Ap:=⟨⟨[],[],[],[]⟩,0,[],[]⟩
def Bj (s:Ap) (l:Int):Ap:=⟨⟨Cw 0 l s.words.a0,Cw 1 l s.words.a1,Cw 2 l s.words.a2,Cw 3 l s.words.a3⟩,s.ceil,s.starts.filter fun x=>Ao x.label l,s.slots.filter fun x=>Ao x.level l⟩
def HA (s:Ap) (l:Int):Ap × Int:=if (Az s&&inR l 3)=true then (Bj s l,0) else (Ou,2500)
def KJ {α:Type} (g l:Int) (row:List α):List α:=if Ao g l=true then row else []
def Nu (g l:Int) (c:Int):Int:=if Ao g l=true then c else 0
def Dr (m:Ac) (l:Int):Ac:=⟨⟨KJ 0 l m.words.a0,KJ 1 l m.words.a1,KJ 2 l m.words.a2,KJ 3 l m.words.a3⟩,⟨Nu 0 l m.clocks.a0,Nu 1 l m.clocks.a1,Nu 2 l m.clocks.a2,Nu 3 l m.clocks.a3⟩,m.ceil,m.sess.filter fun x=>Ao x.label l,m.trace.filter fun x=>Ao x.label l⟩
def LF (m:Ac) (l:Int):Ac × Int:=if (De m&&inR l 3)=true then (Dr m l,0) else (AA,2500)
end Ve
namespace Ve
open Go
abbrev plW (w:Aq):Int:=AK w.level w.index
theorem MG:∀ (l:List Aq) (o:Option Aq),Be o l=true→(∀ w∈l,AL w=true)∧l.Pairwise (fun a b=>plW a<plW b)∧(∀ v,o=some v→∀ w∈l,plW v<plW w)
 | [],o,_=>⟨by simp,List.Pairwise.nil,by simp⟩
 | a::l,none,h=>by
  simp only [Be,Bool.and_eq_true] at h
  obtain ⟨h1,h2,h3⟩:=MG l _ h.2
  refine ⟨fun w hw=>?_,List.pairwise_cons.2 ⟨fun w hw=>h3 a rfl w hw,h2⟩,fun v hv=>by cases hv⟩
  rcases List.mem_cons.1 hw with rfl | hw
  ·exact h.1
  ·exact h1 w hw
 | a::l,some v,h=>by
  simp only [Be,Bool.and_eq_true,decide_eq_true_eq] at h
  obtain ⟨h1,h2,h3⟩:=MG l _ h.2
  refine ⟨fun w hw=>?_,List.pairwise_cons.2 ⟨fun w hw=>h3 a rfl w hw,h2⟩,fun v' hv w hw=>?_⟩
  ·rcases List.mem_cons.1 hw with rfl | hw
   ·exact h.1.1
   ·exact h1 w hw
  ·cases hv
   rcases List.mem_cons.1 hw with rfl | hw
   ·exact h.1.2
   ·have:=h3 a rfl w hw
    have:=h.1.2
    simp only [plW] at *
    omega
theorem BX {l:List Aq} (h:Bg l=true):(∀ w∈l,AL w=true)∧l.Pairwise (fun a b=>plW a<plW b)∧l.length≤16:=by
 simp only [Bg,Bool.and_eq_true,decide_eq_true_eq] at h
 obtain ⟨h1,h2,_⟩:=MG l none h.1
 exact ⟨h1,h2,h.2⟩
theorem Iy:∀ (l:List Aq) (o:Option Aq),(∀ w∈l,AL w=true)→l.Pairwise (fun a b=>plW a<plW b)→(∀ v,o=some v→∀ w∈l,plW v<plW w)→Be o l=true
 | [],o,_,_,_=>by cases o<;>rfl
 | a::l,none,h1,h2,h3=>by
  obtain ⟨g1,g2⟩:=List.pairwise_cons.1 h2
  simp only [Be,Bool.and_eq_true]
  exact ⟨h1 a (by simp),Iy l _ (fun w hw=>h1 w (by simp [hw])) g2 (fun v hv w hw=>by cases hv;exact g1 w hw)⟩
 | a::l,some v,h1,h2,h3=>by
  obtain ⟨g1,g2⟩:=List.pairwise_cons.1 h2
  simp only [Be,Bool.and_eq_true,decide_eq_true_eq]
  exact ⟨⟨h1 a (by simp),h3 v rfl a (by simp)⟩,Iy l _ (fun w hw=>h1 w (by simp [hw])) g2 (fun v hv w hw=>by cases hv;exact g1 w hw)⟩
def geW (w x:Aq):Bool:=decide (plW w≤plW x)
def outW (w:Aq) (l:List Aq):List Aq:=if l.any (geW w)=true then DG w l else l
end Ve
namespace Ve
open Go
def CB (t:Int):List Aq→Nat
 | []=>0
 | x::r=>if plW x<t then CB t r+1 else 0
theorem SB (t:Int):∀ l,CB t l≤l.length
 | []=>Nat.le_refl _
 | x::r=>by
  have:=SB t r
  simp only [CB]
  split<;>simp<;>omega
theorem jM (t:Int):∀ (l:List Aq) (j:Nat) (w:Aq),j<CB t l→l[j]?=some w→plW w<t
 | [],j,w,h,_=>by simp [CB] at h
 | x::r,j,w,h,hw=>by
  simp only [CB] at h
  split at h
  ·rename_i hx
   cases j with
   | zero=>simp only [List.getElem?_cons_zero,Option.some.injEq] at hw;subst hw;exact hx
   | succ j=>exact jM t r j w (by omega) (by simpa using hw)
  ·omega
theorem jN (t:Int):∀ (l:List Aq),l.Pairwise (fun a b=>plW a<plW b)→∀ (j:Nat) (w:Aq),CB t l≤j→l[j]?=some w→t≤plW w
 | [],_,j,w,_,hw=>by simp at hw
 | x::r,hp,j,w,h,hw=>by
  obtain ⟨h1,h2⟩:=List.pairwise_cons.1 hp
  simp only [CB] at h
  split at h
  ·cases j with
   | zero=>omega
   | succ j=>exact jN t r h2 j w (by omega) (by simpa using hw)
  ·rename_i hx
   cases j with
   | zero=>simp only [List.getElem?_cons_zero,Option.some.injEq] at hw;subst hw;omega
   | succ j =>
    have:=h1 w (List.mem_of_getElem? (by simpa using hw))
    omega
theorem Zt (lv ix:Int):∀ l:List Aq,(∀ w∈l,AK lv ix<plW w)→AT lv ix l=(0,false)
 | [],_=>rfl
 | x::r,h=>by
  have hx:=h x (by simp)
  have hn:¬ (x.level=lv∧x.index=ix):=by
   rintro ⟨rfl,rfl⟩
   simp only [plW] at hx
   omega
  simp only [AT,hn,if_false]
  exact Zt lv ix r (fun w hw=>h w (by simp [hw]))
theorem jS {w:Aq} (h:AL w=true) {lv ix:Int} (h2:inR ix 3=true):plW w=AK lv ix↔w.level=lv∧w.index=ix:=by
 simp only [AL,Bool.and_eq_true,AE] at h
 rw [AE] at h2
 simp only [plW,AK]
 constructor
 ·intro e;omega
 ·rintro ⟨rfl,rfl⟩;rfl
theorem VS {lv ix:Int} (h2:inR ix 3=true):∀ l:List Aq,(∀ w∈l,AL w=true)→l.Pairwise (fun a b=>plW a<plW b) →
  AT lv ix l=match l[CB (AK lv ix) l]? with
   | some w=>if plW w=AK lv ix then (w.val,true) else (0,false)
   | none=>(0,false)
 | [],_,_=>rfl
 | x::r,hw,hp=>by
  obtain ⟨h3,h4⟩:=List.pairwise_cons.1 hp
  have he:=jS (hw x (by simp)) (lv:=lv) h2
  simp only [CB]
  by_cases hx:plW x<AK lv ix
  ·have hn:¬ (x.level=lv∧x.index=ix):=by rw [← he];omega
   simp only [AT,hn,if_false,hx,if_true,List.getElem?_cons_succ]
   exact VS h2 r (fun w h=>hw w (by simp [h])) h4
  ·simp only [hx,if_false,List.getElem?_cons_zero]
   by_cases hq:plW x=AK lv ix
   ·simp only [AT,he.1 hq,and_self,if_true,hq]
   ·have hn:¬ (x.level=lv∧x.index=ix):=by rw [← he];exact hq
    simp only [AT,hn,if_false,hq]
    exact Zt lv ix r (fun w h=>by have:=h3 w h;omega)
theorem SQ (w:Aq):∀ l:List Aq,DG w l=l.take (CB (plW w) l)++w::(match l[CB (plW w) l]? with
   | some x=>if plW x=plW w then l.drop (CB (plW w) l+1) else l.drop (CB (plW w) l)
   | none=>[])
 | []=>rfl
 | x::r=>by
  simp only [DG,CB]
  by_cases hx:plW x<plW w
  ·have hx':AK x.level x.index<AK w.level w.index:=hx
   simp only [hx',if_true,List.take_succ_cons,List.getElem?_cons_succ,List.drop_succ_cons,List.cons_append]
   rw [SQ w r]
  ·have hx':¬ AK x.level x.index<AK w.level w.index:=hx
   simp only [hx',if_false,List.take_zero,List.getElem?_cons_zero,List.nil_append,List.drop_zero,Nat.zero_add,List.drop_succ_cons]
   by_cases hq:plW x=plW w
   ·have hq':AK x.level x.index=AK w.level w.index:=hq
    simp only [hq',if_true]
   ·have hq':¬ AK x.level x.index=AK w.level w.index:=hq
    simp only [hq',if_false]
end Ve
namespace Ve
open Go
inductive At (m:Ac) (at_:Int):Prop
 | no (h:Cs m at_=false)
 | off (k:Nat) (s:Ae) (e:at_=(k:Nat)) (hs:m.sess[k]?=some s) (hM:Br m) (hS:SP m.words s) (hst:s.step≠0)
 | fin (k:Nat) (s:Ae) (e:at_=(k:Nat)) (hs:m.sess[k]?=some s) (hM:Br m) (hS:SP m.words s) (hst:s.step=0) (hp:s.pc=(s.prog.length:Int))
 | on (k n:Nat) (s:Ae) (i:AD) (e:at_=(k:Nat)) (hs:m.sess[k]?=some s) (hM:Br m) (hS:SP m.words s) (hst:s.step=0) (hp:s.pc=(n:Int)) (hn:n<s.prog.length) (hi:s.prog[n]?=some i)
theorem Iw (m:Ac) (at_:Int):At m at_:=by
 rcases Hw m at_ with h | ⟨k,s,e,hs,hM,hS⟩
 ·exact .no h
 ·by_cases hst:s.step=0
  ·have hp:=AE.1 hS.pc
   by_cases hpl:s.pc=(s.prog.length:Int)
   ·exact .fin k s e hs hM hS hst hpl
   ·have hn:s.pc.toNat<s.prog.length:=by omega
    exact .on k s.pc.toNat s s.prog[s.pc.toNat] e hs hM hS hst (by omega) hn (by simp [hn])
  ·exact .off k s e hs hM hS hst
theorem CW {m:Ac} {k:Nat} {s:Ae} (hs:m.sess[k]?=some s) (hM:Br m):Cs m k=true:=SU hM (Ax hs)
theorem JR {m:Ac} {at_:Int} (h:Cs m at_=false):CJ m at_=none:=by simp [CJ,h]
theorem EO {m:Ac} {k:Nat} {s:Ae} (hs:m.sess[k]?=some s) (hM:Br m) (h:s.step≠0):CJ m k=none:=by
 simp only [CJ,CW hs hM,if_true,Int.toNat_natCast,hs,h,if_false]
theorem HN {m:Ac} {k:Nat} {s:Ae} (hs:m.sess[k]?=some s) (hM:Br m) (h:s.step=0) (hp:s.pc=(s.prog.length:Int)):CJ m k=none:=by
 simp only [CJ,CW hs hM,if_true,Int.toNat_natCast,hs,h,hp,List.getElem?_eq_none (Nat.le_refl _)]
theorem FM {m:Ac} {k n:Nat} {s:Ae} {i:AD} (hs:m.sess[k]?=some s) (hM:Br m) (h:s.step=0) (hp:s.pc=(n:Int)) (hi:s.prog[n]?=some i):CJ m k=some (s,i):=by
 simp only [CJ,CW hs hM,if_true,Int.toNat_natCast,hs,h,hp,hi]
theorem IH:∀ (l:List AD) (n:Int) (j:Int),Cm n j l=true→∀ (k:Nat) (i:AD),l[k]?=some i→BK i=true∧(i.code=4→j+k<i.b∧i.b≤n)
 | [],n,j,_,k,i,h=>by simp at h
 | a::l,n,j,hg,k,i,h=>by
  simp only [Cm,Bool.and_eq_true,Bool.not_eq_true',Bool.and_eq_false_iff,Bool.or_eq_false_iff,decide_eq_false_iff_not] at hg
  cases k with
  | zero =>
   simp only [List.getElem?_cons_zero,Option.some.injEq] at h
   subst h
   refine ⟨hg.1.1,fun hc=>?_⟩
   rcases hg.1.2 with h | h
   ·exact absurd hc h
   ·simp only [Int.natCast_zero];omega
  | succ k =>
   have:=IH l n (j+1) hg.2 k i (by simpa using h)
   refine ⟨this.1,fun hc=>?_⟩
   have:=this.2 hc
   omega
theorem EH {ws:A4 (List Aj)} {s:Ae} (h:SP ws s) {n:Nat} {i:AD} (hi:s.prog[n]?=some i):BK i=true∧(i.code=4→(n:Int)<i.b∧i.b≤s.prog.length)∧((i.code=2∨i.code=3)→Ay ws i.b i.c=true):=by
 have hp:=h.prog
 simp only [Dg,Bool.and_eq_true] at hp
 obtain ⟨h1,h2⟩:=IH _ _ _ hp.1 n i hi
 refine ⟨h1,fun hc=>by have:=h2 hc;omega,fun hc=>?_⟩
 have:=h.pthere
 simp only [DL,List.all_eq_true] at this
 have:=this i (List.mem_of_getElem? hi)
 simp only [Bool.or_eq_true,Bool.not_eq_true',Fy,Bool.or_eq_false_iff,decide_eq_false_iff_not] at this
 rcases this with h' | h'
 ·exact absurd hc (by rintro (hc | hc);exact h'.1 hc;exact h'.2 hc)
 ·exact h'
theorem Rn {i:AD} (h:BK i=true):i.code=0∨i.code=1∨i.code=2∨i.code=3∨i.code=4∨i.code=5∨i.code=6:=by
 unfold BK at h
 split at h
 ·simp [*]
 split at h
 ·simp [*]
 split at h
 ·rename_i h';rcases h' with h' | h'<;>simp [h']
 split at h
 ·simp [*]
 split at h
 ·simp [*]
 split at h
 ·simp [*]
 ·cases h
theorem Iq {i:AD} (h:BK i=true) (hc:i.code≠5∧i.code≠6):inR i.a 3=true:=by
 unfold BK at h
 split at h
 ·simp only [Bool.and_eq_true] at h;exact h.1.1
 split at h
 ·simp only [Bool.and_eq_true] at h;exact h.1.1
 split at h
 ·simp only [Bool.and_eq_true] at h;exact h.1.1
 split at h
 ·simp only [Bool.and_eq_true] at h;exact h.1.1
 split at h
 ·rename_i h5;exact absurd h5 hc.1
 split at h
 ·rename_i h5;exact absurd h5 hc.2
 ·cases h
theorem MZ {i:AD} (h:BK i=true) (hc:i.code=6):inR i.a 255=true:=by
 unfold BK at h
 simp only [hc] at h
 simp only [show ((6:Int)=0)=False by decide,show ((6:Int)=1)=False by decide,show ((6:Int)=2∨(6:Int)=3)=False by decide,show ((6:Int)=4)=False by decide,show ((6:Int)=5)=False by decide,if_false,if_true,Bool.and_eq_true] at h
 exact h.1.1
theorem DF {i:AD} (h:BK i=true) (hc:i.code=2∨i.code=3):inR i.b 3=true∧inR i.c 3=true:=by
 unfold BK at h
 have h0:¬ i.code=0:=by omega
 have h1:¬ i.code=1:=by omega
 simp only [h0,h1,if_false,hc,if_true,Bool.and_eq_true] at h
 exact ⟨h.1.2,h.2⟩
theorem Mh {i:AD} (h:BK i=true) (hc:i.code=0):inR i.b 255=true:=by
 unfold BK at h
 simp only [hc,if_true,Bool.and_eq_true] at h
 exact h.1.2
theorem Mi {i:AD} (h:BK i=true) (hc:i.code=1):inR i.b 3=true:=by
 unfold BK at h
 simp only [hc,show ((1:Int)=0)=False by decide,if_false,if_true,Bool.and_eq_true] at h
 exact h.1.2
inductive Lf (m:Ac) (at_ step:Int):Prop
 | no (h:Cs m at_=false)
 | off (k:Nat) (s:Ae) (e:at_=(k:Nat)) (hs:m.sess[k]?=some s) (hM:Br m) (hS:SP m.words s) (hst:s.step≠step)
 | fin (k:Nat) (s:Ae) (e:at_=(k:Nat)) (hs:m.sess[k]?=some s) (hM:Br m) (hS:SP m.words s) (hst:s.step=step) (hp:s.at_=(s.writes.length:Int))
 | on (k n:Nat) (s:Ae) (w:Aq) (e:at_=(k:Nat)) (hs:m.sess[k]?=some s) (hM:Br m) (hS:SP m.words s) (hst:s.step=step) (hp:s.at_=(n:Int)) (hn:n<s.writes.length) (hi:s.writes[n]?=some w)
theorem LW (m:Ac) (at_ step:Int):Lf m at_ step:=by
 rcases Hw m at_ with h | ⟨k,s,e,hs,hM,hS⟩
 ·exact .no h
 ·by_cases hst:s.step=step
  ·have hp:=AE.1 hS.at_
   by_cases hpl:s.at_=(s.writes.length:Int)
   ·exact .fin k s e hs hM hS hst hpl
   ·have hn:s.at_.toNat<s.writes.length:=by omega
    exact .on k s.at_.toNat s s.writes[s.at_.toNat] e hs hM hS hst (by omega) hn (by simp [hn])
  ·exact .off k s e hs hM hS hst
theorem Ha {m:Ac} {at_ st:Int} (h:Cs m at_=false):Gw m at_ st=none:=by simp [Gw,h]
theorem EE {m:Ac} {k:Nat} {s:Ae} {st:Int} (hs:m.sess[k]?=some s) (hM:Br m) (h:s.step≠st):Gw m k st=none:=by
 simp only [Gw,CW hs hM,if_true,Int.toNat_natCast,hs,h,if_false]
theorem Cv {m:Ac} {k:Nat} {s:Ae} {st:Int} (hs:m.sess[k]?=some s) (hM:Br m) (h:s.step=st):Gw m k st=some s:=by
 simp only [Gw,CW hs hM,if_true,Int.toNat_natCast,hs,h]
theorem Hj {m:Ac} {at_ st:Int} (h:Gw m at_ st=none):Fw m at_ st=none:=by unfold Fw;rw [h]
theorem Ps {m:Ac} {k:Nat} {s:Ae} {st:Int} (hs:m.sess[k]?=some s) (hM:Br m) (h:s.step=st) (hp:s.at_=(s.writes.length:Int)):Fw m k st=none:=by
 have h1:s.writes[s.at_.toNat]?=none:=by rw [hp];simp
 unfold Fw;rw [Cv hs hM h];simp only [h1]
theorem SM {m:Ac} {k n:Nat} {s:Ae} {w:Aq} {st:Int} (hs:m.sess[k]?=some s) (hM:Br m) (h:s.step=st) (hp:s.at_=(n:Int)) (hi:s.writes[n]?=some w):Fw m k st=some (s,w):=by
 have h1:s.writes[s.at_.toNat]?=some w:=by rw [hp];simpa using hi
 unfold Fw;rw [Cv hs hM h];simp only [h1]
theorem Kg {ws:A4 (List Aj)} {s:Ae} (h:SP ws s) {n:Nat} {w:Aq} (hi:s.writes[n]?=some w):Ay ws w.level w.index=true∧AL w=true:=by
 have h1:=h.wthere
 simp only [Cf,List.all_eq_true] at h1
 exact ⟨h1 w (List.mem_of_getElem? hi),(BX h.writes).1 w (List.mem_of_getElem? hi)⟩
end Ve
namespace Ve
open Go
theorem GQ:∀ (n:Nat) (l:List Nat),l.Nodup→(∀ x∈l,x<n)→l.length≤n
 | 0,l,_,h=>by
  cases l with
  | nil=>simp
  | cons a l=>have:=h a (by simp);omega
 | n+1,l,hd,h=>by
  have h1:=GQ n (l.erase n) (hd.erase n) (fun x hx=>by
   have h2:=List.mem_of_mem_erase hx
   have h3:=h x h2
   have h4:x≠n:=by
    intro e;subst e
    exact absurd hx (by rw [hd.mem_erase_iff];simp)
   omega)
  rw [List.length_erase] at h1
  split at h1<;>omega
def plR (r:AZ):Nat:=(4*r.level+r.index).toNat
theorem UV:∀ (l pre:List AZ),Ca pre l=true→(∀ r∈l,CF r=true)∧(l.Pairwise fun a b=>Cz b a=false)∧(∀ p∈pre,∀ r∈l,Cz r p=false)
 | [],pre,_=>⟨by simp,List.Pairwise.nil,by simp⟩
 | a::l,pre,h=>by
  simp only [Ca,Bool.and_eq_true,Bool.not_eq_true'] at h
  obtain ⟨h1,h2,h3⟩:=UV l _ h.2
  have hany:∀ p∈pre,Cz a p=false:=by
   intro p hp
   have:=List.any_eq_false.1 h.1.2 p hp
   simpa using this
  refine ⟨fun r hr=>?_,List.pairwise_cons.2 ⟨fun b hb=>h3 a (by simp) b hb,h2⟩,fun p hp r hr=>?_⟩
  ·rcases List.mem_cons.1 hr with rfl | hr
   ·exact h.1.1
   ·exact h1 r hr
  ·rcases List.mem_cons.1 hr with rfl | hr
   ·exact hany p hp
   ·exact h3 p (by simp [hp]) r hr
theorem Nz:∀ (l pre:List AZ),(∀ r∈l,CF r=true)→(l.Pairwise fun a b=>Cz b a=false)→(∀ p∈pre,∀ r∈l,Cz r p=false)→Ca pre l=true
 | [],pre,_,_,_=>rfl
 | a::l,pre,h1,h2,h3=>by
  obtain ⟨g1,g2⟩:=List.pairwise_cons.1 h2
  simp only [Ca,Bool.and_eq_true,Bool.not_eq_true']
  refine ⟨⟨h1 a (by simp),List.any_eq_false.2 (fun p hp=>by simpa using h3 p hp a (by simp))⟩,Nz l _ (fun r hr=>h1 r (by simp [hr])) g2 (fun p hp r hr=>?_)⟩
  rcases List.mem_append.1 hp with hp | hp
  ·exact h3 p hp r (by simp [hr])
  ·simp only [List.mem_singleton] at hp;subst hp;exact g1 r hr
theorem MO {l:List AZ} (h:AY l=true):(∀ r∈l,CF r=true)∧(l.Pairwise fun a b=>Cz b a=false)∧l.length≤16:=by
 simp only [AY,Bool.and_eq_true,decide_eq_true_eq] at h
 obtain ⟨h1,h2,_⟩:=UV l [] h.1
 exact ⟨h1,h2,h.2⟩
theorem Xi {r:AZ} (h:CF r=true):plR r<16∧((plR r:Nat):Int)=4*r.level+r.index:=by
 simp only [CF,Bool.and_eq_true,AE] at h
 unfold plR;omega
theorem jT {a b:AZ} (ha:CF a=true) (hb:CF b=true) (h:Cz b a=false):plR a≠plR b:=by
 intro e
 have h1:=(Xi ha).2
 have h2:=(Xi hb).2
 simp only [CF,Bool.and_eq_true,AE] at ha hb
 simp only [Cz,Bool.and_eq_false_iff,decide_eq_false_iff_not] at h
 omega
theorem Sy {l:List AZ} (h1:∀ r∈l,CF r=true) (h2:l.Pairwise fun a b=>Cz b a=false):l.length≤16:=by
 have hd:(l.map plR).Nodup:=by
  rw [List.nodup_iff_pairwise_ne,List.pairwise_map]
  exact h2.imp_of_mem (fun ha hb h=>jT (h1 _ ha) (h1 _ hb) h)
 have:=GQ 16 (l.map plR) hd (fun x hx=>by
  obtain ⟨r,hr,rfl⟩:=List.mem_map.1 hx
  exact (Xi (h1 r hr)).1)
 simpa using this
theorem MP {l:List AZ} {r:AZ} (h:AY l=true) (hr:CF r=true):(BQ l r=(l,0)∧l.any (Cz r)=true)∨(BQ l r=(l++[r],0)∧l.any (Cz r)=false∧AY (l++[r])=true):=by
 obtain ⟨h1,h2,h3⟩:=MO h
 cases ha:l.any (Cz r) with
 | true=>exact .inl ⟨by simp only [BQ,h,hr,ha,Bool.and_self,if_true],rfl⟩
 | false =>
  have g1:∀ x∈l++[r],CF x=true:=by
   intro x hx
   rcases List.mem_append.1 hx with hx | hx
   ·exact h1 x hx
   ·simp only [List.mem_singleton] at hx;subst hx;exact hr
  have g2:(l++[r]).Pairwise fun a b=>Cz b a=false:=by
   rw [List.pairwise_append]
   refine ⟨h2,List.pairwise_singleton _ _,fun a ha' b hb=>?_⟩
   simp only [List.mem_singleton] at hb;subst hb
   have:=List.any_eq_false.1 ha a ha'
   simpa using this
  have g3:=Sy g1 g2
  have hne:l.length≠16:=by simp at g3;omega
  refine .inr ⟨by simp only [BQ,h,hr,ha,Bool.and_self,if_true,Bool.false_eq_true,if_false,hne],rfl,?_⟩
  simp only [AY,Bool.and_eq_true,decide_eq_true_eq]
  exact ⟨Nz _ _ g1 g2 (by simp),g3⟩
end Ve
namespace Ve
open Go
theorem OY {w:Aq} (h:AL w=true):0≤plW w∧plW w<16:=by
 simp only [AL,Bool.and_eq_true,AE] at h
 simp only [plW,AK];omega
theorem nE {l:List Aq} (h:Bg l=true) (hl:l.length=16) {w:Aq} (hw:AL w=true):∃ x∈l,plW x=plW w:=by
 obtain ⟨h1,h2,_⟩:=BX h
 rcases Classical.em (∃ x∈l,plW x=plW w) with hx | hx
 ·exact hx
 ·exfalso
  have hnd:((w::l).map fun x=>(plW x).toNat).Nodup:=by
   rw [List.map_cons,List.nodup_cons]
   constructor
   ·intro hm
    obtain ⟨x,hx1,hx2⟩:=List.mem_map.1 hm
    have a1:=OY (h1 x hx1)
    have a2:=OY hw
    exact hx ⟨x,hx1,by omega⟩
   ·rw [List.Nodup,List.pairwise_map]
    refine List.Pairwise.imp_of_mem ?_ h2
    intro a b ha hb hab
    have a1:=OY (h1 a ha)
    have a2:=OY (h1 b hb)
    omega
  have:=GQ 16 _ hnd (fun x hx=>by
   obtain ⟨y,hy,rfl⟩:=List.mem_map.1 hx
   have:AL y=true:=by
    rcases List.mem_cons.1 hy with rfl | hy
    ·exact hw
    ·exact h1 y hy
   have:=OY this
   omega)
  simp only [List.length_map,List.length_cons] at this
  omega
theorem YM {t:Int}:∀ {l:List Aq},l.Pairwise (fun a b=>plW a<plW b)→(∃ x∈l,plW x=t)→∃ w,l[CB t l]?=some w∧plW w=t
 | [],_,⟨x,hx,_⟩=>by simp at hx
 | y::r,hp,⟨x,hx,he⟩=>by
  obtain ⟨h1,h2⟩:=List.pairwise_cons.1 hp
  simp only [CB]
  by_cases hy:plW y<t
  ·rw [if_pos hy]
   have:x∈r:=by
    rcases List.mem_cons.1 hx with rfl | h
    ·omega
    ·exact h
   obtain ⟨w,h3,h4⟩:=YM h2 ⟨x,this,he⟩
   exact ⟨w,by simpa using h3,h4⟩
  ·rw [if_neg hy]
   refine ⟨y,rfl,?_⟩
   rcases List.mem_cons.1 hx with rfl | h
   ·exact he
   ·have:=h1 x h;omega
theorem uP {w:Aq} {l:List Aq} {x:Aq} (h:l[CB (plW w) l]?=some x) (he:plW x=plW w):DG w l=l.set (CB (plW w) l) w:=by
 rw [SQ,h]
 simp only [he,if_true]
 have hlt:=(List.getElem?_eq_some_iff.1 h).1
 rw [List.set_eq_take_append_cons_drop]
 simp [hlt]
theorem mU {w:Aq} {l:List Aq} (h:∀ x,l[CB (plW w) l]?=some x→plW x≠plW w):DG w l=l.take (CB (plW w) l)++[w]++l.drop (CB (plW w) l):=by
 rw [SQ]
 cases hx:l[CB (plW w) l]? with
 | none =>
  have:=List.getElem?_eq_none_iff.1 hx
  simp [List.drop_of_length_le this]
 | some x =>
  simp only [h x hx,if_false]
  simp
end Ve
namespace Ve
open Go
theorem Jp {α:Type} (ws:A4 (List α)) (l i:Int) (w:α):(CK ws l i w).a0.length=ws.a0.length∧(CK ws l i w).a1.length=ws.a1.length∧(CK ws l i w).a2.length=ws.a2.length∧(CK ws l i w).a3.length=ws.a3.length:=by
 unfold CK A4.set A4.get
 split
 ·simp
 ·split
  ·simp
  ·split<;>simp
theorem Og {l:List Aj} (h:Ch l=true) (i:Nat) {w:Aj} (hw:Ba w=true):Ch (l.set i w)=true:=by
 simp only [Ch,Bool.and_eq_true,List.length_set,List.all_eq_true] at h ⊢
 refine ⟨h.1,fun x hx=>?_⟩
 rcases List.mem_or_eq_of_mem_set hx with hx | rfl
 ·exact h.2 x hx
 ·exact hw
theorem fO {ws:A4 (List Aj)} (h:AS ws=true) (l i:Int) {w:Aj} (hw:Ba w=true):AS (CK ws l i w)=true:=by
 simp only [AS,A4.all,Bool.and_eq_true] at h ⊢
 obtain ⟨⟨⟨h0,h1⟩,h2⟩,h3⟩:=h
 unfold CK A4.set A4.get
 split
 ·exact ⟨⟨⟨Og h0 _ hw,h1⟩,h2⟩,h3⟩
 ·split
  ·exact ⟨⟨⟨h0,Og h1 _ hw⟩,h2⟩,h3⟩
  ·split
   ·exact ⟨⟨⟨h0,h1⟩,Og h2 _ hw⟩,h3⟩
   ·exact ⟨⟨⟨h0,h1⟩,h2⟩,Og h3 _ hw⟩
theorem UC {m:Ac} (hM:Br m) (l i:Int) {w:Aj} (hw:Ba w=true):Br (Hl m l i w):=by
 obtain ⟨h0,h1,h2,h3⟩:=Jp m.words l i w
 exact Pm hM (fO hM.arena l i hw) h0 h1 h2 h3
theorem Yw {m:Ac} {s:Ae} (l i:Int) (w:Aj):SP (Hl m l i w).words s↔SP m.words s:=by
 obtain ⟨h0,h1,h2,h3⟩:=Jp m.words l i w
 rw [← sp,← sp,FZ (ws:=m.words) (ws':=(Hl m l i w).words) (fun l i=>Hk h0 h1 h2 h3 l i)]
theorem QD {m:Ac} {k n:Nat} {s:Ae} {w:Aq} (hs:m.sess[k]?=some s) (hM:Br m) (hS:SP m.words s) (hp:s.at_=(n:Int)) (hn:n<s.writes.length) (hv:inR w.val 255=true):Br (Cl m k s w):=by
 have hw:Ba ⟨w.val,s.stamp,0⟩=true:=by simp only [Ba,hv,hS.stamp];rfl
 refine In (UC hM _ _ hw) (s:=s) hs rfl ((Yw _ _ _).2 ?_)
 exact { hS with at_:=by rw [AE];show 0≤s.at_+1∧s.at_+1≤(s.writes.length:Int);omega }
def a4l (last:Bool) (s:Ae) (w:Aq) (g i:Int) (v:Aj):Aj :=
 if (decide (g=w.level)&&decide (i=w.index))=true then ⟨w.val,s.stamp,0⟩ else if (last&&decide (v.lock=s.id+1))=true then ⟨v.val,v.ver,0⟩ else v
theorem JL (ws:A4 (List Aj)) (w:Aq) (x:Aj) (g:Int) (i:Nat) (v:Aj) (hg:inR g 3=true) (hl:inR w.level 3=true) (hi0:0≤w.index) (hv:(ws.get g)[i]?=some v) :
  ((CK ws w.level w.index x).get g)[i]?=some (if (decide (g=w.level)&&decide ((i:Int)=w.index))=true then x else v):=by
 have hlen:=Ax hv
 rw [AE] at hg hl
 have key:∀ l:List Aj,l[i]?=some v→(l.set w.index.toNat x)[i]?=some (if ((i:Int)=w.index) then x else v):=by
  intro l h
  have hlen:=Ax h
  rw [List.getElem?_set]
  by_cases hc:(i:Int)=w.index
  ·have:w.index.toNat=i:=by omega
   simp [this,hlen,hc]
  ·have:¬ w.index.toNat=i:=by omega
   simp [this,hc,h]
 by_cases hgl:g=w.level
 ·have e:(decide (g=w.level)&&decide ((i:Int)=w.index))=decide ((i:Int)=w.index):=by simp [hgl]
  rw [e]
  have e2:(if decide ((i:Int)=w.index)=true then x else v)=if (i:Int)=w.index then x else v:=by simp
  rw [e2,← key _ hv]
  congr 1
  rw [← hgl]
  unfold CK A4.set A4.get
  split
  ·simp_all
  ·split
   ·simp_all
   ·split<;>simp_all
 ·have e:(decide (g=w.level)&&decide ((i:Int)=w.index))=false:=by simp [hgl]
  rw [e]
  simp only [Bool.false_eq_true,if_false]
  rw [← hv]
  congr 1
  unfold CK A4.set A4.get
  have h4:(g=0∨g=1∨g=2∨g=3)∧(w.level=0∨w.level=1∨w.level=2∨w.level=3):=by omega
  obtain ⟨h4,h5⟩:=h4
  rcases h4 with h4 | h4 | h4 | h4<;>rcases h5 with h5 | h5 | h5 | h5<;>first | (exfalso;omega) | (rw [h4,h5];rfl)
theorem VH (c:Int) (m:Ac) (g:Int) (i:Nat):((DH c m).words.get g)[i]?=((m.words.get g)[i]?).map (Aw c):=by
 unfold DH A4.get
 split
 ·simp
 ·split
  ·simp
  ·split<;>simp
structure Wrote (m:Ac) (k:Nat) (s:Ae) (w:Aq) (last:Bool) (a:Ac) (t:Ae):Prop where
 l0:a.words.a0.length=m.words.a0.length
 l1:a.words.a1.length=m.words.a1.length
 l2:a.words.a2.length=m.words.a2.length
 l3:a.words.a3.length=m.words.a3.length
 word:∀ (g:Int) (i:Nat) (v:Aj),inR g 3=true→(m.words.get g)[i]?=some v→(a.words.get g)[i]?=some (a4l last s w g i v)
 clocks:a.clocks=m.clocks
 slen:a.sess.length=m.sess.length
 sess:a.sess[k]?=some t
 done:last=true→t.step=6∧t.result=1
 more:last=false→t.at_=s.at_+1∧t.step=4
end Ve
namespace Ve
open Go
theorem ER {a:Int} (h:inR a 3=true):a=0∨a=1∨a=2∨a=3:=by rw [AE] at h;omega
theorem kN {a b:Int} (ha:inR a 3=true) (hb:inR b 3=true):inR (orI a b) 3=true∧orI (orI a b) a=orI a b∧Ao b (orI a b)=true∧(Ao b a=false→decide (orI a b=a)=false):=by
 rcases ER ha with rfl | rfl | rfl | rfl<;>rcases ER hb with rfl | rfl | rfl | rfl<;>decide
def upM (m:Ac) (k:Nat) (s:Ae) (l:Int):Ac:=Bd (Bm m ⟨s.id,s.label,2,l⟩) k { s with label:=l }
theorem zG {m:Ac} {k:Nat} {s:Ae} {l:Int} (hs:m.sess[k]?=some s) (hM:Br m) (hS:SP m.words s) (hl:inR l 3=true) (hc:Ao l s.clear=true):Br (upM m k s l):=by
 refine In (Ks hM hS.label) (s:=s) (by rw [FB];exact hs) rfl ?_
 rw [FA]
 exact { hS with label:=hl,Ao:=hc }
theorem Yu {m:Ac} {k:Nat} {s:Ae} {l:Int}:(upM m k s l).sess=m.sess.set k { s with label:=l }:=by unfold upM Bd;rw [FB]
theorem gQ {m:Ac} {k:Nat} {s:Ae} {l:Int}:(upM m k s l).words=m.words:=by unfold upM Bd;rw [FA]
theorem Mk {m:Ac} {s:Ae} (hM:Br m) (hS:SP m.words s):DS m.words s.reads s.id=(s.reads.all (CA m.words s.id),0):=by
 unfold DS;rw [hM.arena,hS.reads,hS.rthere,hS.id];rfl
theorem Wc {m:Ac} {s:Ae} (hM:Br m) (hS:SP m.words s):BI m.words s.reads=(s.reads.any (Dp m.words),0):=by
 unfold BI;rw [hM.arena,hS.reads,hS.rthere];rfl
end Ve
namespace Ve
open Go
theorem JG {w y:Aq}:∀ {l:List Aq},y∈DG w l→y=w∨y∈l
 | [],h=>by simp [DG] at h;exact .inl h
 | x::r,h=>by
  unfold DG at h
  split at h
  ·rcases List.mem_cons.1 h with h | h
   ·exact .inr (by simp [h])
   ·rcases JG h with h | h
    ·exact .inl h
    ·exact .inr (by simp [h])
  ·split at h
   ·rcases List.mem_cons.1 h with h | h
    ·exact .inl h
    ·exact .inr (by simp [h])
   ·rcases List.mem_cons.1 h with h | h
    ·exact .inl h
    ·exact .inr h
theorem NI {w:Aq}:∀ {l:List Aq},l.Pairwise (fun a b=>plW a<plW b)→(DG w l).Pairwise (fun a b=>plW a<plW b)
 | [],_=>by simp [DG]
 | x::r,h=>by
  obtain ⟨h1,h2⟩:=List.pairwise_cons.1 h
  unfold DG
  split
  ·rename_i hlt
   refine List.pairwise_cons.2 ⟨fun y hy=>?_,NI h2⟩
   rcases JG hy with rfl | hy
   ·exact hlt
   ·exact h1 y hy
  ·split
   ·rename_i he
    refine List.pairwise_cons.2 ⟨fun y hy=>?_,h2⟩
    have:=h1 y hy
    show plW w<plW y
    rw [show plW w=plW x from he.symm];exact this
   ·rename_i hn he
    have hlt:plW w<plW x:=by show AK w.level w.index<AK x.level x.index;omega
    refine List.pairwise_cons.2 ⟨fun y hy=>?_,h⟩
    rcases List.mem_cons.1 hy with rfl | hy
    ·exact hlt
    ·exact Int.lt_trans hlt (h1 y hy)
theorem VE {w:Aq}:∀ {l:List Aq},l.length≤(DG w l).length
 | []=>by simp [DG]
 | x::r=>by
  unfold DG
  split
  ·simp only [List.length_cons];have:=VE (w:=w) (l:=r);omega
  ·split<;>simp only [List.length_cons]<;>omega
theorem Xh {w:Aq} (h:AL w=true):0≤plW w∧plW w<16:=by
 simp only [AL,Bool.and_eq_true,AE] at h
 show 0≤AK w.level w.index∧AK w.level w.index<16
 unfold AK;omega
theorem WE {l:List Aq} (h1:∀ w∈l,AL w=true) (h2:l.Pairwise (fun a b=>plW a<plW b)):l.length≤16:=by
 have hd:(l.map fun w=>(plW w).toNat).Nodup:=by
  rw [List.nodup_iff_pairwise_ne,List.pairwise_map]
  exact h2.imp_of_mem (fun ha hb h=>by have:=Xh (h1 _ ha);have:=Xh (h1 _ hb);omega)
 have:=GQ 16 (l.map fun w=>(plW w).toNat) hd (fun x hx=>by
  obtain ⟨r,hr,rfl⟩:=List.mem_map.1 hx
  have:=Xh (h1 r hr);omega)
 simpa using this
theorem Ow {l:List Aq} {w:Aq} (h:Bg l=true) (hw:AL w=true):He l w=(DG w l,0)∧Bg (DG w l)=true:=by
 obtain ⟨h1,h2,_⟩:=BX h
 have g1:∀ y∈DG w l,AL y=true:=fun y hy=>by
  rcases JG hy with rfl | hy
  ·exact hw
  ·exact h1 y hy
 have g2:=NI (w:=w) h2
 refine ⟨by simp only [He,h,hw,Bool.and_self,if_true],?_⟩
 simp only [Bg,Bool.and_eq_true,decide_eq_true_eq]
 exact ⟨Iy _ none g1 g2 (fun v hv=>by cases hv),WE g1 g2⟩
theorem OR {rs:A4 Int} (h:Dx rs=true) {a v:Int} (ha:inR a 3=true) (hv:inR v 255=true):Dx (rs.set a v)=true:=by
 simp only [Dx,A4.all,Bool.and_eq_true] at h ⊢
 rcases ER ha with rfl | rfl | rfl | rfl<;>simp [A4.set,hv,h]
theorem UT {rs:A4 Int} (h:Dx rs=true) (a:Int):inR (rs.get a) 255=true:=by
 simp only [Dx,A4.all,Bool.and_eq_true] at h
 unfold A4.get
 split
 ·exact h.1.1.1
 ·split
  ·exact h.1.1.2
  ·split
   ·exact h.1.2
   ·exact h.2
theorem Ox {ws:A4 (List Aj)} (ha:AS ws=true) {l i:Int} (h:Ay ws l i=true):Ba (AB ws l i)=true:=by
 simp only [Ay,Bool.and_eq_true,decide_eq_true_eq] at h
 have hj:i.toNat<(ws.get l).length:=by omega
 have hg:AB ws l i=(ws.get l)[i.toNat]:=by unfold AB;rw [List.getElem?_eq_getElem hj];rfl
 rw [hg]
 have hmem:(ws.get l)[i.toNat]∈ws.get l:=List.getElem_mem hj
 simp only [AS,A4.all,Ch,Bool.and_eq_true,List.all_eq_true,decide_eq_true_eq] at ha
 generalize (ws.get l)[i.toNat]=g at hmem
 unfold A4.get at hmem
 obtain ⟨⟨⟨a0,a1⟩,a2⟩,a3⟩:=ha
 split at hmem
 ·exact a0.2 g hmem
 ·split at hmem
  ·exact a1.2 g hmem
  ·split at hmem
   ·exact a2.2 g hmem
   ·exact a3.2 g hmem
theorem VR {l i:Int}:∀ {ws:List Aq},(∀ w∈ws,AL w=true)→(AT l i ws).2=true→inR (AT l i ws).1 255=true
 | [],_,h=>by simp [AT] at h
 | x::r,hw,h=>by
  unfold AT at h ⊢
  split
  ·have:=hw x (by simp);simp only [AL,Bool.and_eq_true] at this;exact this.2
  ·rename_i hn
   rw [if_neg hn] at h
   exact VR (fun w hw'=>hw w (by simp [hw'])) h
structure Eb (m A:Ac) (k:Nat) (s t:Ae):Prop where
 may:Br A
 ceil:A.ceil=m.ceil
 sess:A.sess=m.sess.set k t
 id:t.id=s.id
 clear:t.clear=s.clear
 prog:t.prog=s.prog
 lab:Ao s.label t.label=true
 trace:A.trace=m.trace∨∃ e:AI,A.trace=m.trace++[e]∧e.id=s.id∧e.label=s.label
theorem BY {a:Int} (h:inR a 3=true):Ao a a=true:=by
 rcases ER h with rfl | rfl | rfl | rfl<;>decide
theorem Lz (m:Ac) (e:AI):(Bm m e).trace=m.trace∨(Bm m e).trace=m.trace++[e]:=by
 rw [La];split
 ·exact .inr rfl
 ·exact .inl rfl
theorem LT {m:Ac} {k:Nat} {s:Ae} (hs:m.sess[k]?=some s) (hM:Br m) (hS:SP m.words s) (kind:Int):Eb m (Lu m k s kind) k s (Co s):=by
 refine ⟨Wx hs hM kind,fQ kind,RU kind,rfl,rfl,rfl,BY hS.label,?_⟩
 rcases Lz (Bd (DH (s.id+1) m) k (Co s)) ⟨s.id,s.label,kind,KF s.tries⟩ with h | h
 ·exact .inl h
 ·exact .inr ⟨_,h,rfl,rfl⟩
theorem MX {m:Ac} {k:Nat} {s:Ae} (hs:m.sess[k]?=some s) (hM:Br m) (hS:SP m.words s) {r t:Int} (hr:inR r 5=true) (ht:inR t 255=true):Eb m (EB m k s r t) k s (DB s r t):=by
 refine ⟨Rz hs hM hr ht,XO r t,Ln r t,rfl,rfl,rfl,BY hS.label,?_⟩
 rcases Lz (Bd (DH (s.id+1) m) k (DB s r t)) ⟨s.id,s.label,6,r⟩ with h | h
 ·exact .inl h
 ·exact .inr ⟨_,h,rfl,rfl⟩
theorem Ok {m:Ac} {k:Nat} {s t:Ae} (hs:m.sess[k]?=some s) (hM:Br m) (hS:SP m.words s) (e:AI) (he:e.id=s.id∧e.label=s.label) (ht:SP m.words t) (h1:t.id=s.id) (h2:t.clear=s.clear) (h3:t.prog=s.prog) (h4:Ao s.label t.label=true):Eb m (Bm (Bd m k t) e) k s t:=by
 refine ⟨Ks (In hM hs h1 ht) (by rw [he.2];exact hS.label),Ic _ _,FB _ _,h1,h2,h3,h4,?_⟩
 rcases Lz (Bd m k t) e with h | h
 ·exact .inl h
 ·exact .inr ⟨_,h,he.1,he.2⟩
theorem Li {m:Ac} {k:Nat} {s t:Ae} (hs:m.sess[k]?=some s) (hM:Br m) (ht:SP m.words t) (h1:t.id=s.id) (h2:t.clear=s.clear) (h3:t.prog=s.prog) (h4:Ao s.label t.label=true):Eb m (Bd m k t) k s t :=
 ⟨In hM hs h1 ht,rfl,rfl,h1,h2,h3,h4,.inl rfl⟩
end Ve
namespace Ve
open Go
def nU (xs ys:List Aj):Nat→Int
 | 0=>0
 | n+1=>nU xs ys n+(if (xs[n]?.map (·.lock))=(ys[n]?.map (·.lock)) then 0 else 1)
def GrW (id:Int) (x y:Aj):Prop:=y.val=x.val∧y.ver=x.ver∧(x.lock=y.lock∨(x.lock≠y.lock∧y.lock≠0∧x.lock=0∧y.lock=id+1)∨(x.lock≠y.lock∧y.lock=0∧x.lock=id+1))
structure Gr (m A:Ac) (k:Nat) (s t:Ae):Prop where
 len:∀ g,inR g 3=true→(A.words.get g).length=(m.words.get g).length
 word:∀ (g:Int) (j:Nat) (x:Aj),inR g 3=true→(m.words.get g)[j]?=some x→∃ y,(A.words.get g)[j]?=some y∧GrW s.id x y
 clocks:A.clocks=m.clocks
 slen:A.sess.length=m.sess.length
 sess:A.sess[k]?=some t
 fin:t.step=0∨(t.at_=s.at_+1∧nU m.words.a0 A.words.a0 m.words.a0.length+nU m.words.a1 A.words.a1 m.words.a1.length+nU m.words.a2 A.words.a2 m.words.a2.length+nU m.words.a3 A.words.a3 m.words.a3.length=1)
theorem PB {ws ws':A4 (List Aj)} (h0:ws'.a0.length=ws.a0.length) (h1:ws'.a1.length=ws.a1.length) (h2:ws'.a2.length=ws.a2.length) (h3:ws'.a3.length=ws.a3.length) (g:Int):(ws'.get g).length=(ws.get g).length:=by
 unfold A4.get
 split
 ·exact h0
 ·split
  ·exact h1
  ·split
   ·exact h2
   ·exact h3
end Ve
namespace Ve
open Go
theorem yE (m:Ac) (at_ st:Int):Fw m at_ st=none∨∃ (k n:Nat) (s:Ae) (w:Aq),at_=(k:Nat)∧m.sess[k]?=some s∧Br m∧SP m.words s∧s.step=st∧s.at_=(n:Int)∧n<s.writes.length∧s.writes[n]?=some w∧Fw m at_ st=some (s,w):=by
 cases LW m at_ st with
 | no h=>exact .inl (Hj (Ha h))
 | off k s e hs hM hS hst=>subst e;exact .inl (Hj (EE hs hM hst))
 | fin k s e hs hM hS hst hp=>subst e;exact .inl (Ps hs hM hst hp)
 | on k n s w e hs hM hS hst hp hn hi=>subst e;exact .inr ⟨k,n,s,w,rfl,hs,hM,hS,hst,hp,hn,hi,SM hs hM hst hp hi⟩
theorem LD {α:Type} {l:List α} {k:Nat} {x:α} (h:l[k]?=some x):l.set k x=l:=by
 apply List.ext_getElem?
 intro i
 rw [List.getElem?_set]
 split
 ·rename_i e;subst e;rw [if_pos (Ax h),h]
 ·rfl
section
variable {m:Ac} {k:Nat} {s:Ae} (hs:m.sess[k]?=some s) (hM:Br m) (hS:SP m.words s)
include hs hM hS
theorem lS {x:AD} (hcur:CJ m k=some (s,x)) (hc:x.code=2) (hlx:inR x.b 3=true) (hu:Ao x.b s.label=false):∃ t,Eb m (Cu m k).1 k s t∧(Cu m k).2=0:=by
 obtain ⟨o1,o2,o3,o4⟩:=kN hS.label hlx
 cases hcl:Ao (orI s.label x.b) s.clear
 ·have e:Cu m k=ET m k 4 0:=by unfold Cu;rw [hcur];simp only [hc,hu,hcl];rfl
  rw [e,Gs hs hM (by decide) (by decide)]
  exact ⟨_,MX hs hM hS (by decide) (by decide),rfl⟩
 ·have e:Cu m k=(upM m k s (orI s.label x.b),0):=by unfold Cu;rw [hcur];simp only [hc,hu,hcl];rfl
  rw [e]
  refine ⟨{ s with label:=orI s.label x.b },⟨zG hs hM hS o1 hcl,Ic m ⟨s.id,s.label,2,orI s.label x.b⟩,Yu,rfl,rfl,rfl,?_,?_⟩,rfl⟩
  ·show Ao s.label (orI s.label x.b)=true
   unfold Ao;rw [decide_eq_true_eq]
   have:orI s.label (orI s.label x.b)=orI (orI s.label x.b) s.label:=by simp only [orI,BitVec.or_comm]
   rw [this];exact o2
  ·show (Bm m _).trace=_∨_
   rcases Lz m ⟨s.id,s.label,2,orI s.label x.b⟩ with h | h
   ·exact .inl h
   ·exact .inr ⟨_,h,rfl,rfl⟩
theorem Yx {i:AD} {rs:List AZ} {v:Int} {n:Nat} (hp:s.pc=(n:Int)) (hn:n<s.prog.length) (ha:inR i.a 3=true) (hv:inR v 255=true) (hr:AY rs=true) (ht:AP m.words rs=true):SP m.words (Eu s i rs v) :=
 { hS with reads:=hr,rthere:=ht,regs:=OR hS.regs ha hv,pc:=by rw [AE];show 0≤s.pc+1∧s.pc+1≤(s.prog.length:Int);omega }
theorem lR {n:Nat} {x:AD} (hst:s.step=0) (hp:s.pc=(n:Int)) (hi:s.prog[n]?=some x) (hc:x.code=2) (hu:Ao x.b s.label=true):∃ t,Eb m (Ct m k).1 k s t∧(Ct m k).2=0:=by
 have hcur:=FM hs hM hst hp hi
 have hn:=Ax hi
 obtain ⟨hx,_,hth⟩:=EH hS hi
 have hth:=hth (.inl hc)
 have ha:=Iq hx (by omega)
 have e0:Ct m k=(if (Bi s.writes x.b x.c).2=true then (Bm (Bd m k (Eu s x s.reads (Bi s.writes x.b x.c).1)) ⟨s.id,s.label,0,(Bi s.writes x.b x.c).1⟩,0)
   else if (DS m.words s.reads s.id).1=true∧(AB m.words x.b x.c).lock=0 then
    (Bm (Bd m k (Eu s x (BQ s.reads ⟨x.b,x.c,(AB m.words x.b x.c).ver⟩).1 (AB m.words x.b x.c).val)) ⟨s.id,s.label,0,(AB m.words x.b x.c).val⟩,0)
   else Cy m k 3):=by
  unfold Ct;rw [hcur];simp only [hc,hu,if_true,Int.toNat_natCast]
 rw [e0]
 have hul:=BY hS.label
 split
 ·rename_i hf
  have hv:inR (Bi s.writes x.b x.c).1 255=true:=by
   unfold Bi at hf ⊢
   rw [if_pos hS.writes] at hf ⊢
   exact VR (BX hS.writes).1 hf
  exact ⟨_,Ok hs hM hS _ ⟨rfl,rfl⟩ (Yx hs hM hS hp hn ha hv hS.reads hS.rthere) rfl rfl rfl hul,rfl⟩
 ·split
  ·have hwm:=Ox hM.arena hth
   simp only [Ba,Bool.and_eq_true] at hwm
   have hl:=DF hx (.inl hc)
   have hr1:CF ⟨x.b,x.c,(AB m.words x.b x.c).ver⟩=true:=by simp only [CF,hl.1,hl.2,hwm.1.2];rfl
   have hroom:=MP hS.reads hr1
   have hrr:AY (BQ s.reads ⟨x.b,x.c,(AB m.words x.b x.c).ver⟩).1=true∧AP m.words (BQ s.reads ⟨x.b,x.c,(AB m.words x.b x.c).ver⟩).1=true:=by
    rcases hroom with ⟨h,_⟩ | ⟨h,_,h2⟩
    ·rw [h];exact ⟨hS.reads,hS.rthere⟩
    ·rw [h];refine ⟨h2,?_⟩
     have:=hS.rthere
     simp only [AP] at this ⊢
     rw [List.all_append,this,List.all_cons,hth];rfl
   exact ⟨_,Ok hs hM hS _ ⟨rfl,rfl⟩ (Yx hs hM hS hp hn ha hwm.1.1 hrr.1 hrr.2) rfl rfl rfl hul,rfl⟩
  ·rw [Gj hs hM (.inl rfl)]
   exact ⟨_,LT hs hM hS 3,rfl⟩
theorem lO {n:Nat} {x:AD} (hst:s.step=0) (hp:s.pc=(n:Int)) (hi:s.prog[n]?=some x) (hc:x.code=3):∃ t,Eb m (Du m k).1 k s t∧(Du m k).2=0:=by
 have hcur:=FM hs hM hst hp hi
 have hn:=Ax hi
 obtain ⟨hx,_,hth⟩:=EH hS hi
 have hth:=hth (.inr hc)
 have hl:=DF hx (.inr hc)
 have hw1:AL ⟨x.b,x.c,s.regs.get x.a⟩=true:=by simp only [AL,hl.1,hl.2,UT hS.regs];rfl
 obtain ⟨hr1,hr2⟩:=Ow hS.writes hw1
 have e0:Du m k=(Bm (Bd m k { s with writes:=DG ⟨x.b,x.c,s.regs.get x.a⟩ s.writes,pc:=s.pc+1 }) ⟨s.id,s.label,1,s.regs.get x.a⟩,0):=by
  unfold Du;rw [hcur];simp only [hc,if_true,Int.toNat_natCast,hr1]
 rw [e0]
 refine ⟨_,Ok hs hM hS _ ⟨rfl,rfl⟩ ?_ rfl rfl rfl (BY hS.label),rfl⟩
 have hat:=AE.1 hS.at_
 have hlen:=VE (w:=⟨x.b,x.c,s.regs.get x.a⟩) (l:=s.writes)
 refine { hS with writes:=hr2,wthere:=?_,at_:=?_,pc:=?_ }
 ·have:=hS.wthere
  simp only [Cf,List.all_eq_true] at this ⊢
  intro y hy
  rcases JG hy with rfl | hy
  ·exact hth
  ·exact this y hy
 ·rw [AE];show 0≤s.pc+1∧s.pc+1≤(s.prog.length:Int);omega
 ·rw [AE];show 0≤s.at_∧s.at_≤((DG _ s.writes).length:Int);omega
theorem tW {n:Nat} {x:AD} (hst:s.step=0) (hp:s.pc=(n:Int)) (hi:s.prog[n]?=some x) (hc:x.code=0∨x.code=1∨x.code=4):∃ t,Eb m (CT m k).1 k s t∧(CT m k).2=0:=by
 have hcur:=FM hs hM hst hp hi
 have hn:=Ax hi
 obtain ⟨hx,hz,_⟩:=EH hS hi
 have ha:=Iq hx (by omega)
 have hpc:inR (s.pc+1) (s.prog.length:Int)=true:=by rw [AE];omega
 have hul:=BY hS.label
 rcases hc with hc | hc | hc
 ·have hb:=Mh hx hc
  have e0:CT m k=(Bd m k { s with regs:=s.regs.set x.a x.b,pc:=s.pc+1 },0):=by
   unfold CT;rw [hcur];simp only [hc,if_true,Int.toNat_natCast,bI,hS.regs,ha,hb,Bool.and_self]
  rw [e0]
  exact ⟨_,Li hs hM { hS with regs:=OR hS.regs ha hb,pc:=hpc } rfl rfl rfl hul,rfl⟩
 ·have hb:=Mi hx hc
  have e0:CT m k=(Bd m k { s with regs:=s.regs.set x.a ((s.regs.get x.a+s.regs.get x.b) % 256),pc:=s.pc+1 },0):=by
   unfold CT;rw [hcur];simp only [hc,show ((1:Int)=0)=False by decide,if_true,if_false,Int.toNat_natCast,fU,hS.regs,ha,hb,Bool.and_self]
  rw [e0]
  exact ⟨_,Li hs hM { hS with regs:=OR hS.regs ha (by rw [AE];omega),pc:=hpc } rfl rfl rfl hul,rfl⟩
 ·have hz:=hz hc
  have e0:CT m k=(Bd m k { s with pc:=if s.regs.get x.a=0 then x.b else s.pc+1 },0):=by
   unfold CT;rw [hcur];simp only [hc,show ((4:Int)=0)=False by decide,show ((4:Int)=1)=False by decide,if_true,if_false,Int.toNat_natCast]
  rw [e0]
  refine ⟨_,Li hs hM { hS with pc:=?_ } rfl rfl rfl hul,rfl⟩
  show inR (if s.regs.get x.a=0 then x.b else s.pc+1) (s.prog.length:Int)=true
  split
  ·rw [AE];omega
  ·exact hpc
theorem tT {n:Nat} {x:AD} (hst:s.step=0) (hp:s.pc=(n:Int)) (hi:s.prog[n]?=some x) (hc:x.code=5):∃ t,Eb m (Dc m k).1 k s t∧(Dc m k).2=0:=by
 have hcur:=FM hs hM hst hp hi
 have e0:Dc m k=(Bm (Bd m k { s with writes:=[],at_:=0,step:=5 }) ⟨s.id,s.label,4,s.reads.length⟩,0):=by
  unfold Dc;rw [hcur];simp only [hc,if_true,Int.toNat_natCast]
 rw [e0]
 exact ⟨_,Ok hs hM hS _ ⟨rfl,rfl⟩ { hS with writes:=Ov,wthere:=rfl,at_:=by simp [inR],step:=by rfl } rfl rfl rfl (BY hS.label),rfl⟩
theorem tS (hst:s.step=5):∃ t,Eb m (Dc m k).1 k s t∧(Dc m k).2=0:=by
 have e0:Dc m k=if (BI m.words s.reads).1=true then Cy m k 5 else (m,0):=by
  unfold Dc;rw [EO hs hM (by omega),Cv hs hM hst]
 rw [e0]
 split
 ·rw [Gj hs hM (.inr rfl)]
  exact ⟨_,LT hs hM hS 5,rfl⟩
 ·refine ⟨s,⟨hM,rfl,?_,rfl,rfl,rfl,BY hS.label,.inl rfl⟩,rfl⟩
  exact (LD hs).symm
theorem tU (hst:s.step=0):∃ t,Eb m (Hs m k s).1 k s t∧(Hs m k s).2=0:=by
 unfold Hs
 split
 ·rw [Int.toNat_natCast]
  refine ⟨_,Li hs hM { hS with at_:=?_,step:=?_ } rfl rfl rfl (BY hS.label),rfl⟩
  ·rw [AE];show 0≤(0:Int)∧(0:Int)≤(s.writes.length:Int);omega
  ·show inR (if s.writes=[] then 3 else 1) 6=true
   split<;>rfl
 ·rw [Gs hs hM (by decide) (by decide)]
  exact ⟨_,MX hs hM hS (by decide) (by decide),rfl⟩
theorem tV (h:(Fh m k).2=0):∃ t,Eb m (Fh m k).1 k s t:=by
 rcases yE m k 1 with hn | ⟨k',n,s',w,e,hs',_,_,hst,hp,hn,hi,hl⟩
 ·have e:Fh m k=(AA,1800):=by unfold Fh;rw [hn]
  rw [e] at h;cases h
 ·obtain rfl:k=k':=by omega
  obtain rfl:s=s':=by rw [hs] at hs';cases hs';rfl
  obtain ⟨h1,h2⟩:=Kg hS hi
  have hwm:=Ox hM.arena h1
  by_cases hlk:(AB m.words w.level w.index).lock=0
  ·have e:Fh m k=(Bd (Hl m w.level w.index { AB m.words w.level w.index with lock:=s.id+1 }) k { s with at_:=s.at_+1,step:=if s.at_+1=s.writes.length then 2 else s.step },0):=by
    unfold Fh;rw [hl];simp only [hlk,if_true,Int.toNat_natCast]
   rw [e]
   have hid:=AE.1 hS.id
   have hw':Ba { AB m.words w.level w.index with lock:=s.id+1 }=true:=by
    simp only [Ba,Bool.and_eq_true] at hwm ⊢
    exact ⟨hwm.1,by rw [AE];omega⟩
   have hM':=UC hM w.level w.index hw'
   have hS':=(Yw (m:=m) w.level w.index { AB m.words w.level w.index with lock:=s.id+1 }).2 hS
   refine ⟨{ s with at_:=s.at_+1,step:=if s.at_+1=s.writes.length then 2 else s.step },?_⟩
   have:=Li (m:=Hl m w.level w.index { AB m.words w.level w.index with lock:=s.id+1 }) (k:=k) (s:=s) (t:={ s with at_:=s.at_+1,step:=if s.at_+1=s.writes.length then 2 else s.step }) hs hM' { hS' with at_:=?_,step:=?_ } rfl rfl rfl (BY hS.label)
   ·exact ⟨this.may,this.ceil,this.sess,rfl,rfl,rfl,this.lab,this.trace⟩
   ·rw [AE];show 0≤s.at_+1∧s.at_+1≤(s.writes.length:Int);omega
   ·show inR (if s.at_+1=(s.writes.length:Int) then 2 else s.step) 6=true
    split
    ·rfl
    ·exact hS.step
  ·have e:Fh m k=Cy m k 3:=by unfold Fh;rw [hl];simp only [hlk,if_false]
   rw [e,Gj hs hM (.inl rfl)]
   exact ⟨_,LT hs hM hS 3⟩
theorem lP (hst:s.step=2):∃ t,Eb m (Em m k).1 k s t:=by
 have hcur:=Cv hs hM hst
 by_cases hc:m.ceil≤m.clocks.get s.label
 ·have e:Em m k=ET m k 5 0:=by unfold Em;rw [hcur];simp only [hc,if_true]
  rw [e,Gs hs hM (by decide) (by decide)]
  exact ⟨_,MX hs hM hS (by decide) (by decide)⟩
 ·have e:Em m k=(Bd { m with clocks:=m.clocks.set s.label (m.clocks.get s.label+1) } k { s with stamp:=m.clocks.get s.label+1,step:=3 },0):=by
   unfold Em;rw [hcur];simp only [hc,if_false,Int.toNat_natCast]
  rw [e]
  have hcl:=hM.clocks
  have hce:=AE.1 hM.ceil
  simp only [A4.all,Bool.and_eq_true,AE] at hcl
  have hg:0≤m.clocks.get s.label:=by
   unfold A4.get;split
   ·exact hcl.1.1.1.1
   ·split
    ·exact hcl.1.1.2.1
    ·split
     ·exact hcl.1.2.1
     ·exact hcl.2.1
  have hM':Br { m with clocks:=m.clocks.set s.label (m.clocks.get s.label+1) }:=by
   refine ⟨hM.arena,hM.ceil,?_,hM.sl,hM.tl,hM.ids,hM.sess,hM.trace⟩
   simp only [A4.all,Bool.and_eq_true,AE]
   rcases ER hS.label with h | h | h | h<;>rw [h] at hc hg ⊢<;>simp only [A4.set,A4.get,simprocAttr] at hc hg ⊢<;>omega
  have hS':SP { m with clocks:=m.clocks.set s.label (m.clocks.get s.label+1):Ac }.words s:=hS
  refine ⟨{ s with stamp:=m.clocks.get s.label+1,step:=3 },?_⟩
  have:=Li (m:={ m with clocks:=m.clocks.set s.label (m.clocks.get s.label+1) }) (k:=k) (s:=s) (t:={ s with stamp:=m.clocks.get s.label+1,step:=3 }) hs hM' { hS' with stamp:=by rw [AE];show 0≤m.clocks.get s.label+1∧m.clocks.get s.label+1≤65535;omega,step:=by rfl } rfl rfl rfl (BY hS.label)
  exact ⟨this.may,this.ceil,this.sess,rfl,rfl,rfl,this.lab,this.trace⟩
theorem lT (hst:s.step=3):∃ t,Eb m (Er m k).1 k s t:=by
 have hcur:=Cv hs hM hst
 have e:Er m k=if (DS m.words s.reads s.id).1=true then (if s.writes=[] then ET m k 1 0 else (Bd m k { s with at_:=0,step:=4 },0)) else Cy m k 3:=by unfold Er;rw [hcur];simp only [Int.toNat_natCast]
 rw [e]
 split
 ·split
  ·rw [Gs hs hM (by decide) (by decide)];exact ⟨_,MX hs hM hS (by decide) (by decide)⟩
  ·exact ⟨_,Li hs hM { hS with at_:=by rw [AE];show 0≤(0:Int)∧(0:Int)≤(s.writes.length:Int);omega,step:=by rfl } rfl rfl rfl (BY hS.label)⟩
 ·rw [Gj hs hM (.inl rfl)];exact ⟨_,LT hs hM hS 3⟩
theorem tY (h:(Fs m k).2=0):∃ t,Eb m (Fs m k).1 k s t:=by
 rcases yE m k 4 with hn | ⟨k',n,s',w,e,hs',_,_,hst,hp,hn,hi,hl⟩
 ·have e:Fs m k=(AA,2100):=by unfold Fs;rw [hn]
  rw [e] at h;cases h
 ·obtain rfl:k=k':=by omega
  obtain rfl:s=s':=by rw [hs] at hs';cases hs';rfl
  obtain ⟨h1,h2⟩:=Kg hS hi
  simp only [AL,Bool.and_eq_true] at h2
  have hmay:=QD hs hM hS hp hn h2.2
  have hk:=Ax hs
  have hs1:(Cl m k s w).sess[k]?=some { s with at_:=s.at_+1 }:=List.getElem?_set_self (by simpa [Hl] using hk)
  have hse:(Cl m k s w).sess=m.sess.set k { s with at_:=s.at_+1 }:=by simp [Cl,Bd,Hl]
  by_cases hlast:s.at_+1=s.writes.length
  ·have e:Fs m k=ET (Cl m k s w) k 1 0:=by unfold Fs;rw [hl];simp only [hlast,if_true]
   rw [e,Gs hs1 hmay (by decide) (by decide)]
   have hS1:=(sp _ _).1 (hmay.sess _ (List.mem_of_getElem? hs1))
   have:=MX hs1 hmay hS1 (r:=1) (t:=0) (by decide) (by decide)
   refine ⟨DB { s with at_:=s.at_+1 } 1 0,this.may,this.ceil,?_,rfl,rfl,rfl,this.lab,this.trace⟩
   rw [this.sess,hse,List.set_set]
  ·have e:Fs m k=(Cl m k s w,0):=by unfold Fs;rw [hl];simp only [hlast,if_false]
   rw [e]
   exact ⟨{ s with at_:=s.at_+1 },hmay,rfl,hse,rfl,rfl,rfl,BY hS.label,.inl rfl⟩
theorem Xg (h:(CP m k s).2=0):∃ t,Eb m (CP m k s).1 k s t:=by
 unfold CP at h ⊢
 split at h
 ·rename_i hst
  rw [if_pos hst]
  have hp:=AE.1 hS.pc
  unfold Jt at h ⊢
  split
  ·rename_i x hx
   rw [hx] at h
   have hn:=Ax hx
   have hpn:s.pc=((s.pc.toNat:Nat):Int):=by omega
   obtain ⟨hxm,_,_⟩:=EH hS hx
   simp only at h ⊢
   split
   ·rename_i hc
    have hcur:=FM hs hM hst hpn hx
    have hne:Dz m k=(!Ao x.b s.label,0):=by unfold Dz;rw [hcur];simp only [hc,if_true]
    rw [hne]
    cases hu:Ao x.b s.label
    ·obtain ⟨t,ht,_⟩:=lS hs hM hS hcur hc (DF hxm (.inl hc)).1 hu
     exact ⟨t,ht⟩
    ·obtain ⟨t,ht,_⟩:=lR hs hM hS hst hpn hx hc hu
     exact ⟨t,ht⟩
   ·split
    ·rename_i hc
     obtain ⟨t,ht,_⟩:=lO hs hM hS hst hpn hx hc
     exact ⟨t,ht⟩
    ·split
     ·rename_i hc
      obtain ⟨t,ht,_⟩:=tT hs hM hS hst hpn hx hc
      exact ⟨t,ht⟩
     ·split
      ·rename_i hc
       have ht:=MZ hxm hc
       rw [Gs hs hM (by decide) ht]
       exact ⟨_,MX hs hM hS (by decide) ht⟩
      ·have hc:=Rn hxm
       obtain ⟨t,ht,_⟩:=tW hs hM hS hst hpn hx (by omega)
       exact ⟨t,ht⟩
  ·obtain ⟨t,ht,_⟩:=tU hs hM hS hst
   exact ⟨t,ht⟩
 ·rename_i h0
  rw [if_neg h0]
  split at h
  ·rename_i h1;rw [if_pos h1];exact tV hs hM hS h
  ·rename_i h1;rw [if_neg h1]
   split at h
   ·rename_i h2;rw [if_pos h2];exact lP hs hM hS h2
   ·rename_i h2;rw [if_neg h2]
    split at h
    ·rename_i h3;rw [if_pos h3];exact lT hs hM hS h3
    ·rename_i h3;rw [if_neg h3]
     split at h
     ·rename_i h4;rw [if_pos h4];exact tY hs hM hS h
     ·rename_i h4;rw [if_neg h4]
      split at h
      ·rename_i h5;rw [if_pos h5]
       obtain ⟨t,ht,_⟩:=tS hs hM hS h5
       exact ⟨t,ht⟩
      ·rename_i h5;rw [if_neg h5]
       exact ⟨s,hM,rfl,(LD hs).symm,rfl,rfl,rfl,BY hS.label,.inl rfl⟩
theorem Jo (h:(BV m k).2=0):∃ t,Eb m (BV m k).1 k s t:=by
 have hh:=CW hs hM
 unfold BV at h ⊢
 rw [if_pos hh,Int.toNat_natCast,hs] at h ⊢
 simp only at h ⊢
 split at h
 ·rename_i h0;rw [if_pos h0];exact Xg hs hM hS h0
 ·cases h
end
end Ve
namespace Ve
open Go
def HX (rs:List AZ) (r:AZ):List AZ:=if rs.any (Cz r)=true then rs else rs++[r]
def SZ (m:Ac) (k:Nat) (s:Ae) (x:AD):Ac :=
 if (AT x.b x.c s.writes).2=true then Bm (Bd m k (Eu s x s.reads (AT x.b x.c s.writes).1)) ⟨s.id,s.label,0,(AT x.b x.c s.writes).1⟩
 else if s.reads.all (CA m.words s.id)=true∧(AB m.words x.b x.c).lock=0 then
  Bm (Bd m k (Eu s x (HX s.reads ⟨x.b,x.c,(AB m.words x.b x.c).ver⟩) (AB m.words x.b x.c).val)) ⟨s.id,s.label,0,(AB m.words x.b x.c).val⟩
 else Lu m k s 3
def Ta (m:Ac) (k:Nat) (s:Ae) (x:AD):Ac:=if Ao (orI s.label x.b) s.clear=true then upM m k s (orI s.label x.b) else EB m k s 4 0
def WN (m:Ac) (k:Nat) (s:Ae) (x:AD):Ac:=Bm (Bd m k { s with writes:=DG ⟨x.b,x.c,s.regs.get x.a⟩ s.writes,pc:=s.pc+1 }) ⟨s.id,s.label,1,s.regs.get x.a⟩
def aJ (m:Ac) (k:Nat) (s:Ae) (x:AD):Ac :=
 if x.code=0 then Bd m k { s with regs:=s.regs.set x.a x.b,pc:=s.pc+1 }
 else if x.code=1 then Bd m k { s with regs:=s.regs.set x.a ((s.regs.get x.a+s.regs.get x.b) % 256),pc:=s.pc+1 }
 else Bd m k { s with pc:=if s.regs.get x.a=0 then x.b else s.pc+1 }
def kI (m:Ac) (k:Nat) (s:Ae):Ac:=Bm (Bd m k { s with writes:=[],at_:=0,step:=5 }) ⟨s.id,s.label,4,s.reads.length⟩
def Uv (m:Ac) (k:Nat) (s:Ae):Ac:=if s.reads.any (Dp m.words)=true then Lu m k s 5 else m
def Ze (m:Ac) (k:Nat) (s:Ae):Ac :=
 if s.writes.all (fun w=>decide (w.level=s.label))=true then Bd m k { s with at_:=0,step:=if s.writes=[] then 3 else 1 } else EB m k s 3 0
def UN (m:Ac) (k:Nat) (s:Ae):Ac :=
 match s.prog[s.pc.toNat]? with
 | some x =>
  if x.code=2 then (if Ao x.b s.label=true then SZ m k s x else Ta m k s x)
  else if x.code=3 then WN m k s x
  else if x.code=5 then kI m k s
  else if x.code=6 then EB m k s 2 x.a
  else aJ m k s x
 | none=>Ze m k s
def VG (m:Ac) (k:Nat) (s:Ae):Option Ac :=
 match s.writes[s.at_.toNat]? with
 | some w=>some (if (AB m.words w.level w.index).lock=0 then Bd (Hl m w.level w.index { AB m.words w.level w.index with lock:=s.id+1 }) k { s with at_:=s.at_+1,step:=if s.at_+1=s.writes.length then 2 else s.step } else Lu m k s 3)
 | none=>none
def MI (m:Ac) (k:Nat) (s:Ae):Ac :=
 if m.ceil≤m.clocks.get s.label then EB m k s 5 0 else Bd { m with clocks:=m.clocks.set s.label (m.clocks.get s.label+1) } k { s with stamp:=m.clocks.get s.label+1,step:=3 }
def Ni (m:Ac) (k:Nat) (s:Ae):Ac :=
 if s.reads.all (CA m.words s.id)=true then (if s.writes=[] then EB m k s 1 0 else Bd m k { s with at_:=0,step:=4 }) else Lu m k s 3
def Wv (m:Ac) (k:Nat) (s:Ae):Option Ac :=
 match s.writes[s.at_.toNat]? with
 | some w=>some (if s.at_+1=s.writes.length then EB (Cl m k s w) k { s with at_:=s.at_+1 } 1 0 else Cl m k s w)
 | none=>none
def FX (m:Ac) (k:Nat) (s:Ae):Option Ac :=
 if s.step=0 then some (UN m k s)
 else if s.step=1 then VG m k s
 else if s.step=2 then some (MI m k s)
 else if s.step=3 then some (Ni m k s)
 else if s.step=4 then Wv m k s
 else if s.step=5 then some (Uv m k s)
 else some m
section
variable {m:Ac} {k:Nat} {s:Ae} (hs:m.sess[k]?=some s) (hM:Br m) (hS:SP m.words s)
include hs hM hS
theorem a0o (hst:s.step=0):Jt m k s=(UN m k s,0):=by
 have hp:=AE.1 hS.pc
 unfold Jt UN
 cases hx:s.prog[s.pc.toNat]? with
 | some x =>
  have hpn:s.pc=((s.pc.toNat:Nat):Int):=by omega
  have hcur:=FM hs hM hst hpn hx
  obtain ⟨hxm,hz,hth⟩:=EH hS hx
  simp only
  by_cases hc:x.code=2
  ·rw [if_pos hc,if_pos hc]
   have hne:Dz m k=(!Ao x.b s.label,0):=by unfold Dz;rw [hcur];simp only [hc,if_true]
   rw [hne]
   cases hu:Ao x.b s.label
   ·simp only [Bool.not_false,if_true,Bool.false_eq_true,if_false]
    unfold Ta Cu
    rw [hcur]
    simp only [hc,hu,Bool.false_eq_true,if_true,if_false,Int.toNat_natCast]
    by_cases hcl:Ao (orI s.label x.b) s.clear=true
    ·rw [if_pos hcl,if_pos hcl];rfl
    ·rw [if_neg hcl,if_neg hcl];exact Gs hs hM (by decide) (by decide)
   ·simp only [Bool.not_true,if_true,Bool.false_eq_true,if_false]
    have hf:Bi s.writes x.b x.c=AT x.b x.c s.writes:=by unfold Bi;rw [if_pos hS.writes]
    have hg:(DS m.words s.reads s.id).1=s.reads.all (CA m.words s.id):=by rw [Mk hM hS]
    have hwm:=Ox hM.arena (hth (.inl hc))
    simp only [Ba,Bool.and_eq_true] at hwm
    have hl:=DF hxm (.inl hc)
    have hr1:CF ⟨x.b,x.c,(AB m.words x.b x.c).ver⟩=true:=by simp only [CF,hl.1,hl.2,hwm.1.2];rfl
    have hwr:(BQ s.reads ⟨x.b,x.c,(AB m.words x.b x.c).ver⟩).1=HX s.reads ⟨x.b,x.c,(AB m.words x.b x.c).ver⟩:=by
     rcases MP hS.reads hr1 with ⟨h,h2⟩ | ⟨h,h2,_⟩
     ·rw [h];unfold HX;rw [if_pos h2]
     ·rw [h];unfold HX;rw [h2];rfl
    unfold Ct SZ
    rw [hcur]
    simp only [hc,hu,if_true,hf,hg,hwr,Int.toNat_natCast]
    by_cases h1:(AT x.b x.c s.writes).2=true
    ·rw [if_pos h1,if_pos h1]
    ·rw [if_neg h1,if_neg h1]
     by_cases h2:s.reads.all (CA m.words s.id)=true∧(AB m.words x.b x.c).lock=0
     ·rw [if_pos h2,if_pos h2]
     ·rw [if_neg h2,if_neg h2];exact Gj hs hM (.inl rfl)
  ·rw [if_neg hc,if_neg hc]
   by_cases hc:x.code=3
   ·rw [if_pos hc,if_pos hc]
    have hl:=DF hxm (.inr hc)
    have hw1:AL ⟨x.b,x.c,s.regs.get x.a⟩=true:=by simp only [AL,hl.1,hl.2,UT hS.regs];rfl
    obtain ⟨hr1,_⟩:=Ow hS.writes hw1
    unfold Du WN;rw [hcur];simp only [hc,if_true,Int.toNat_natCast,hr1]
   ·rw [if_neg hc,if_neg hc]
    by_cases hc:x.code=5
    ·rw [if_pos hc,if_pos hc]
     unfold Dc kI;rw [hcur];simp only [hc,if_true,Int.toNat_natCast]
    ·rw [if_neg hc,if_neg hc]
     by_cases hc:x.code=6
     ·rw [if_pos hc,if_pos hc];exact Gs hs hM (by decide) (MZ hxm hc)
     ·rw [if_neg hc,if_neg hc]
      have hcd:=Rn hxm
      have ha:=Iq hxm (by omega)
      unfold CT aJ;rw [hcur]
      simp only [Int.toNat_natCast]
      by_cases h0:x.code=0
      ·rw [if_pos h0,if_pos h0];simp only [bI,hS.regs,ha,Mh hxm h0,Bool.and_self,if_true]
      ·rw [if_neg h0,if_neg h0]
       by_cases h1:x.code=1
       ·rw [if_pos h1,if_pos h1];simp only [fU,hS.regs,ha,Mi hxm h1,Bool.and_self,if_true]
       ·have h4:x.code=4:=by omega
        rw [if_neg h1,if_neg h1,if_pos h4]
 | none =>
  simp only
  unfold Hs Ze Jj
  rw [hS.writes,Bool.true_and,Int.toNat_natCast]
  by_cases h:(s.writes.all fun w=>decide (w.level=s.label))=true
  ·rw [if_pos h,if_pos h]
  ·rw [if_neg h,if_neg h];exact Gs hs hM (by decide) (by decide)
theorem Zd {st:Int} (h:s.step=st):Fw m k st=match s.writes[s.at_.toNat]? with
 | some w=>some (s,w)
 | none=>none:=by
 unfold Fw;rw [Cv hs hM h];rfl
theorem qI:BV m k=match FX m k s with
 | some A=>(A,0)
 | none=>(AA,2300):=by
 have hh:=CW hs hM
 have e:BV m k=if (CP m k s).2=0 then ((CP m k s).1,0) else (AA,2300):=by
  unfold BV;rw [if_pos hh,Int.toNat_natCast,hs]
 rw [e]
 unfold CP FX
 by_cases h0:s.step=0
 ·rw [if_pos h0,if_pos h0,a0o hs hM hS h0];rfl
 rw [if_neg h0,if_neg h0]
 by_cases h1:s.step=1
 ·rw [if_pos h1,if_pos h1]
  unfold Fh VG
  rw [Zd hs hM hS h1]
  cases s.writes[s.at_.toNat]? with
  | none=>rfl
  | some w =>
   simp only [Int.toNat_natCast]
   by_cases hl:(AB m.words w.level w.index).lock=0
   ·simp only [hl,if_true]
   ·simp only [hl,if_false];rw [Gj hs hM (.inl rfl)];rfl
 rw [if_neg h1,if_neg h1]
 by_cases h2:s.step=2
 ·rw [if_pos h2,if_pos h2]
  unfold Em MI
  rw [Cv hs hM h2]
  simp only [Int.toNat_natCast]
  by_cases hc:m.ceil≤m.clocks.get s.label
  ·simp only [hc,if_true];rw [Gs hs hM (by decide) (by decide)];rfl
  ·simp only [hc,if_false];rfl
 rw [if_neg h2,if_neg h2]
 by_cases h3:s.step=3
 ·rw [if_pos h3,if_pos h3]
  unfold Er Ni
  rw [Cv hs hM h3]
  simp only [Int.toNat_natCast]
  rw [Mk hM hS]
  simp only
  by_cases hg:s.reads.all (CA m.words s.id)=true
  ·simp only [hg,if_true]
   by_cases hw:s.writes=[]
   ·simp only [hw,if_true];rw [Gs hs hM (by decide) (by decide)];rfl
   ·simp only [hw,if_false];rfl
  ·simp only [hg,Bool.false_eq_true,if_false];rw [Gj hs hM (.inl rfl)];rfl
 rw [if_neg h3,if_neg h3]
 by_cases h4:s.step=4
 ·rw [if_pos h4,if_pos h4]
  unfold Fs Wv
  rw [Zd hs hM hS h4]
  cases hw:s.writes[s.at_.toNat]? with
  | none=>rfl
  | some w =>
   simp only
   have hat:=AE.1 hS.at_
   have hn:=Ax hw
   have hpn:s.at_=((s.at_.toNat:Nat):Int):=by omega
   obtain ⟨g1,g2⟩:=Kg hS hw
   simp only [AL,Bool.and_eq_true] at g2
   have hmay:=QD hs hM hS hpn hn g2.2
   have hs1:(Cl m k s w).sess[k]?=some { s with at_:=s.at_+1 }:=List.getElem?_set_self (by simpa [Hl] using Ax hs)
   by_cases hl:s.at_+1=s.writes.length
   ·simp only [hl,if_true]
    have:=Gs hs1 hmay (r:=1) (t:=0) (by decide) (by decide)
    rw [this]
    simp only [hl];rfl
   ·simp only [hl,if_false];rfl
 rw [if_neg h4,if_neg h4]
 by_cases h5:s.step=5
 ·rw [if_pos h5,if_pos h5]
  have e0:Dc m k=if (BI m.words s.reads).1=true then Cy m k 5 else (m,0):=by
   unfold Dc;rw [EO hs hM (by omega),Cv hs hM h5]
  rw [e0,Wc hM hS]
  unfold Uv
  simp only
  by_cases hc:s.reads.any (Dp m.words)=true
  ·simp only [hc,if_true];rw [Gj hs hM (.inr rfl)];rfl
  ·simp only [hc,Bool.false_eq_true,if_false];rfl
 rw [if_neg h5,if_neg h5]
 rfl
end
end Ve
namespace Ve
open Go
structure SI (s:Ae):Prop where
 at_:(s.step=1∨s.step=4)→s.at_<s.writes.length
 lvl:(1≤s.step∧s.step≤4)→∀ w∈s.writes,w.level=s.label
 rd:∀ r∈s.reads,Ao r.level s.label=true
structure Held (m:Ac) (h:Int) (i:Nat) (w:Aj) (s:Ae):Prop where
 mem:s∈m.sess
 id:w.lock=s.id+1
 label:s.label=h
 step:1≤s.step∧s.step≤4
 wr:∃ p∈s.writes,p.level=h∧p.index=i
structure Inv (m:Ac):Prop where
 may:Br m
 sess:∀ s∈m.sess,SI s
 lock:∀ (h:Int) (i:Nat) (w:Aj),inR h 3=true→(m.words.get h)[i]?=some w→w.lock≠0→∃ s,Held m h i w s
theorem FH {α:Type} {l:List α} {k:Nat} {x y t:α} (hs:l[k]?=some x) (hy:y∈l) (hne:y≠x):y∈l.set k t:=by
 obtain ⟨j,hj⟩:=List.getElem?_of_mem hy
 have hjk:k≠j:=by
  rintro rfl
  rw [hs] at hj;cases hj;exact hne rfl
 exact List.mem_of_getElem? (i:=j) (by rw [List.getElem?_set_ne hjk];exact hj)
theorem HV:∀ (l:List Ae) (o:Option Int),Ll o (l.map (·.id))=true→(∀ v,o=some v→∀ s∈l,v<s.id)∧l.Pairwise (fun a b=>a.id<b.id)
 | [],o,_=>⟨by simp,List.Pairwise.nil⟩
 | a::l,none,h=>by
  simp only [List.map_cons,Ll] at h
  obtain ⟨h1,h2⟩:=HV l (some a.id) h
  exact ⟨fun v hv=>(by cases hv),List.pairwise_cons.2 ⟨fun s hs=>h1 _ rfl s hs,h2⟩⟩
 | a::l,some v,h=>by
  simp only [List.map_cons,Ll,Bool.and_eq_true,decide_eq_true_eq] at h
  obtain ⟨h1,h2⟩:=HV l (some a.id) h.2
  refine ⟨fun v' hv s hs=>?_,List.pairwise_cons.2 ⟨fun s hs=>h1 _ rfl s hs,h2⟩⟩
  cases hv
  rcases List.mem_cons.1 hs with rfl | hs
  ·exact h.1
  ·exact Int.lt_trans h.1 (h1 _ rfl s hs)
theorem Lm {m:Ac} (hM:Br m) {s s':Ae} (h:s∈m.sess) (h':s'∈m.sess) (e:s.id=s'.id):s=s':=by
 have hp:=(HV m.sess none hM.ids).2
 obtain ⟨i,hi⟩:=List.getElem?_of_mem h
 obtain ⟨j,hj⟩:=List.getElem?_of_mem h'
 have hi':=Ax hi
 have hj':=Ax hj
 rw [List.getElem?_eq_getElem hi'] at hi
 rw [List.getElem?_eq_getElem hj'] at hj
 rw [List.pairwise_iff_getElem] at hp
 rcases Nat.lt_trichotomy i j with h | h | h
 ·have:=hp i j hi' hj' h
  simp only [Option.some.injEq] at hi hj
  rw [hi,hj] at this;omega
 ·subst h;rw [hi] at hj;exact Option.some.inj hj
 ·have:=hp j i hj' hi' h
  simp only [Option.some.injEq] at hi hj
  rw [hi,hj] at this;omega
section
variable {m:Ac} {k:Nat} {s:Ae} (hs:m.sess[k]?=some s) (hI:Inv m)
include hs hI
theorem JF {t:Ae} (ht:SI t):∀ x∈m.sess.set k t,SI x:=by
 intro x hx
 rcases List.mem_or_eq_of_mem_set hx with h | rfl
 ·exact hI.sess x h
 ·exact ht
theorem VD {A:Ac} {t:Ae} (hA:Br A) (hw:A.words=(DH (s.id+1) m).words) (hx:A.sess=m.sess.set k t) (ht:SI t):Inv A:=by
 refine ⟨hA,by rw [hx];exact JF hs hI ht,fun h i w hh hg hl=>?_⟩
 rw [hw,VH] at hg
 cases hv:(m.words.get h)[i]? with
 | none=>rw [hv] at hg;cases hg
 | some v =>
  rw [hv,Option.map_some] at hg
  cases hg
  have hne:v.lock≠s.id+1:=by
   intro e;apply hl;unfold Aw;rw [if_pos e]
  have hvw:Aw (s.id+1) v=v:=by unfold Aw;rw [if_neg hne]
  rw [hvw] at hl ⊢
  obtain ⟨s',h1,h2,h3,h4,h5⟩:=hI.lock h i v hh hv hl
  exact ⟨s',by rw [hx];exact FH hs h1 (fun e=>hne (by rw [h2,e])),h2,h3,h4,h5⟩
theorem Gf {A:Ac} {t:Ae} (hA:Br A) (hw:A.words=m.words) (hx:A.sess=m.sess.set k t) (ht:SI t) (h:(1≤s.step∧s.step≤4)→t.id=s.id∧t.label=s.label∧(1≤t.step∧t.step≤4)∧t.writes=s.writes):Inv A:=by
 refine ⟨hA,by rw [hx];exact JF hs hI ht,fun g i w hh hg hl=>?_⟩
 rw [hw] at hg
 obtain ⟨s',h1,h2,h3,h4,h5⟩:=hI.lock g i w hh hg hl
 by_cases e:s'=s
 ·subst e
  obtain ⟨a,b,c,d⟩:=h h4
  exact ⟨t,by rw [hx];exact List.mem_of_getElem? (List.getElem?_set_self (Ax hs)),by rw [a];exact h2,by rw [b];exact h3,c,by rw [d];exact h5⟩
 ·exact ⟨s',by rw [hx];exact FH hs h1 e,h2,h3,h4,h5⟩
theorem iC:SI (Co s):=⟨fun h=>(by rcases h with h | h<;>cases h),fun h=>(by simp only [Co] at h;omega),fun r hr=>by simp [Co,ED] at hr⟩
theorem zV (r t:Int):SI (DB s r t):=⟨fun h=>(by rcases h with h | h<;>cases h),fun h=>(by simp only [DB] at h;omega),fun r hr=>by simp [DB,ED] at hr⟩
theorem Mf (kind:Int):Inv (Lu m k s kind):=VD hs hI (Wx hs hI.may kind) (Yl kind) (RU kind) (iC hs hI)
theorem Io {r t:Int} (hr:inR r 5=true) (ht:inR t 255=true):Inv (EB m k s r t):=VD hs hI (Rz hs hI.may hr ht) (NQ r t) (Ln r t) (zV hs hI r t)
end
end Ve
namespace Ve
open Go
theorem HC {a b c:Int} (ha:inR a 3=true) (hb:inR b 3=true) (hc:inR c 3=true) (h1:Ao a b=true) (h2:Ao b c=true):Ao a c=true:=by
 rcases ER ha with rfl | rfl | rfl | rfl<;>rcases ER hb with rfl | rfl | rfl | rfl<;>rcases ER hc with rfl | rfl | rfl | rfl<;>revert h1 h2<;>decide
section
variable {m:Ac} {k:Nat} {s:Ae} (hs:m.sess[k]?=some s) (hI:Inv m)
include hs hI
theorem BU:SP m.words s:=(sp _ _).1 (hI.may.sess s (List.mem_of_getElem? hs))
theorem Me {t:Ae} (e:AI) (hA:Br (Bm (Bd m k t) e)) (ht:SI t) (h:(1≤s.step∧s.step≤4)→t.id=s.id∧t.label=s.label∧(1≤t.step∧t.step≤4)∧t.writes=s.writes):Inv (Bm (Bd m k t) e) :=
 Gf hs hI hA (by rw [FA];rfl) (by rw [FB];rfl) ht h
theorem uN (hst:s.step=0) (hA:Br (UN m k s)):Inv (UN m k s):=by
 have hS:=BU hs hI
 have hM:=hI.may
 have hSI:=hI.sess s (List.mem_of_getElem? hs)
 have hno:(1≤s.step∧s.step≤4)→False:=by omega
 have hp:=AE.1 hS.pc
 unfold UN at hA ⊢
 cases hx:s.prog[s.pc.toNat]? with
 | some x =>
  rw [hx] at hA
  simp only at hA ⊢
  obtain ⟨hxm,_,_⟩:=EH hS hx
  by_cases hc:x.code=2
  ·rw [if_pos hc] at hA ⊢
   cases hu:Ao x.b s.label
   ·rw [hu] at hA
    simp only [Bool.false_eq_true,if_false] at hA ⊢
    unfold Ta at hA ⊢
    by_cases hcl:Ao (orI s.label x.b) s.clear=true
    ·rw [if_pos hcl] at hA ⊢
     obtain ⟨o1,o2,_,_⟩:=kN hS.label (DF hxm (.inl hc)).1
     refine Gf hs hI hA gQ Yu ⟨fun h=>?_,fun h=>(hno h).elim,fun r hr=>?_⟩ (fun h=>(hno h).elim)
     ·simp only at h;omega
     ·have h1:=hSI.rd r hr
      have hrl:inR r.level 3=true:=by
       have:=(MO hS.reads).1 r hr
       simp only [CF,Bool.and_eq_true] at this;exact this.1.1
      refine HC hrl hS.label o1 h1 ?_
      unfold Ao;rw [decide_eq_true_eq]
      have:orI s.label (orI s.label x.b)=orI (orI s.label x.b) s.label:=by simp only [orI,BitVec.or_comm]
      rw [this];exact o2
    ·rw [if_neg hcl];exact Io hs hI (by decide) (by decide)
   ·rw [hu] at hA
    simp only [if_true] at hA ⊢
    unfold SZ at hA ⊢
    by_cases h1:(AT x.b x.c s.writes).2=true
    ·rw [if_pos h1] at hA ⊢
     refine Me hs hI _ hA ⟨fun h=>?_,fun h=>(hno h).elim,hSI.rd⟩ (fun h=>(hno h).elim)
     simp only [Eu] at h;omega
    ·rw [if_neg h1] at hA ⊢
     by_cases h2:s.reads.all (CA m.words s.id)=true∧(AB m.words x.b x.c).lock=0
     ·rw [if_pos h2] at hA ⊢
      refine Me hs hI _ hA ⟨fun h=>?_,fun h=>(hno h).elim,fun r hr=>?_⟩ (fun h=>(hno h).elim)
      ·simp only [Eu] at h;omega
      ·show Ao r.level s.label=true
       simp only [Eu,HX] at hr
       split at hr
       ·exact hSI.rd r hr
       ·rcases List.mem_append.1 hr with hr | hr
        ·exact hSI.rd r hr
        ·simp only [List.mem_singleton] at hr;subst hr;exact hu
     ·rw [if_neg h2];exact Mf hs hI 3
  ·rw [if_neg hc] at hA ⊢
   by_cases hc:x.code=3
   ·rw [if_pos hc] at hA ⊢
    unfold WN at hA ⊢
    refine Me hs hI _ hA ⟨fun h=>?_,fun h=>(hno h).elim,hSI.rd⟩ (fun h=>(hno h).elim)
    simp only at h;omega
   ·rw [if_neg hc] at hA ⊢
    by_cases hc:x.code=5
    ·rw [if_pos hc] at hA ⊢
     unfold kI at hA ⊢
     refine Me hs hI _ hA ⟨fun h=>?_,fun h=>?_,hSI.rd⟩ (fun h=>(hno h).elim)
     ·simp only at h;omega
     ·simp only at h;omega
    ·rw [if_neg hc] at hA ⊢
     by_cases hc:x.code=6
     ·rw [if_pos hc];exact Io hs hI (by decide) (MZ hxm hc)
     ·rw [if_neg hc] at hA ⊢
      unfold aJ at hA ⊢
      by_cases h0:x.code=0
      ·rw [if_pos h0] at hA ⊢
       exact Gf hs hI hA rfl rfl ⟨fun h=>(by simp only at h;omega),fun h=>(hno h).elim,hSI.rd⟩ (fun h=>(hno h).elim)
      ·rw [if_neg h0] at hA ⊢
       by_cases h1:x.code=1
       ·rw [if_pos h1] at hA ⊢
        exact Gf hs hI hA rfl rfl ⟨fun h=>(by simp only at h;omega),fun h=>(hno h).elim,hSI.rd⟩ (fun h=>(hno h).elim)
       ·rw [if_neg h1] at hA ⊢
        exact Gf hs hI hA rfl rfl ⟨fun h=>(by simp only at h;omega),fun h=>(hno h).elim,hSI.rd⟩ (fun h=>(hno h).elim)
 | none =>
  rw [hx] at hA
  simp only at hA ⊢
  unfold Ze at hA ⊢
  by_cases h:(s.writes.all fun w=>decide (w.level=s.label))=true
  ·rw [if_pos h] at hA ⊢
   refine Gf hs hI hA rfl rfl ⟨fun h'=>?_,fun _ w hw=>?_,hSI.rd⟩ (fun h=>(hno h).elim)
   ·simp only at h' ⊢
    by_cases hw:s.writes=[]
    ·simp only [hw,if_true] at h';omega
    ·have:=List.length_pos_iff.2 hw;omega
   ·have:=(List.all_eq_true.1 h) w hw
    simpa using this
  ·rw [if_neg h];exact Io hs hI (by decide) (by decide)
theorem mQ (hst:s.step=1):∃ A,VG m k s=some A∧(Br A→Inv A):=by
 have hS:=BU hs hI
 have hSI:=hI.sess s (List.mem_of_getElem? hs)
 have hat:=AE.1 hS.at_
 have hlt:=hSI.at_ (.inl hst)
 have hn:s.at_.toNat<s.writes.length:=by omega
 unfold VG
 rw [List.getElem?_eq_getElem hn]
 refine ⟨_,rfl,fun hA=>?_⟩
 have hmem:s.writes[s.at_.toNat]∈s.writes:=List.getElem_mem hn
 generalize s.writes[s.at_.toNat]=w at hmem hA ⊢
 have hid:=AE.1 hS.id
 by_cases hl:(AB m.words w.level w.index).lock=0
 ·rw [if_pos hl] at hA ⊢
  have hw1:=(BX hS.writes).1 w hmem
  simp only [AL,Bool.and_eq_true] at hw1
  have hlv:=hSI.lvl (by omega) w hmem
  have ht:SI { s with at_:=s.at_+1,step:=if s.at_+1=s.writes.length then 2 else s.step }:=by
   refine ⟨fun h=>?_,fun _=>hSI.lvl (by omega),hSI.rd⟩
   simp only at h ⊢
   by_cases hc:s.at_+1=s.writes.length
   ·rw [if_pos hc] at h;omega
   ·omega
  have hstep:1≤(if s.at_+1=(s.writes.length:Int) then (2:Int) else s.step)∧(if s.at_+1=(s.writes.length:Int) then (2:Int) else s.step)≤4:=by
   split<;>omega
  refine ⟨hA,JF hs hI ht,fun h i v hh hg hlk=>?_⟩
  have hk:=Ax hs
  have hmt:({ s with at_:=s.at_+1,step:=if s.at_+1=s.writes.length then 2 else s.step }:Ae)∈m.sess.set k { s with at_:=s.at_+1,step:=if s.at_+1=s.writes.length then 2 else s.step }:=List.mem_of_getElem? (List.getElem?_set_self hk)
  have hlen:i<((CK m.words w.level w.index { AB m.words w.level w.index with lock:=s.id+1 }).get h).length:=Ax hg
  obtain ⟨q0,q1,q2,q3⟩:=Jp m.words w.level w.index { AB m.words w.level w.index with lock:=s.id+1 }
  rw [PB q0 q1 q2 q3] at hlen
  have hv:=List.getElem?_eq_getElem hlen
  have hr:=JL m.words w { AB m.words w.level w.index with lock:=s.id+1 } h i _ hh hw1.1.1 (by have:=hw1.1.2;rw [AE] at this;exact this.1) hv
  have hg':((CK m.words w.level w.index { AB m.words w.level w.index with lock:=s.id+1 }).get h)[i]?=some v:=hg
  rw [hr] at hg'
  cases hg'
  by_cases hc:(decide (h=w.level)&&decide ((i:Int)=w.index))=true
  ·rw [if_pos hc] at hlk ⊢
   simp only [Bool.and_eq_true,decide_eq_true_eq] at hc
   exact ⟨_,hmt,rfl,by rw [hc.1];exact hlv.symm,hstep,w,hmem,hc.1.symm,hc.2.symm⟩
  ·rw [if_neg hc] at hlk ⊢
   obtain ⟨s',h1,h2,h3,h4,h5⟩:=hI.lock h i _ hh hv hlk
   by_cases e:s'=s
   ·subst e;exact ⟨_,hmt,h2,h3,hstep,h5⟩
   ·exact ⟨s',FH hs h1 e,h2,h3,h4,h5⟩
 ·rw [if_neg hl];exact Mf hs hI 3
theorem dV (hst:s.step=2) (hA:Br (MI m k s)):Inv (MI m k s):=by
 have hSI:=hI.sess s (List.mem_of_getElem? hs)
 unfold MI at hA ⊢
 by_cases hc:m.ceil≤m.clocks.get s.label
 ·rw [if_pos hc];exact Io hs hI (by decide) (by decide)
 ·rw [if_neg hc] at hA ⊢
  exact Gf hs hI hA rfl rfl ⟨fun h=>(by simp only at h;omega),fun _=>hSI.lvl (by omega),hSI.rd⟩ (fun _=>⟨rfl,rfl,by simp only;omega,rfl⟩)
theorem dW (hst:s.step=3) (hA:Br (Ni m k s)):Inv (Ni m k s):=by
 have hSI:=hI.sess s (List.mem_of_getElem? hs)
 unfold Ni at hA ⊢
 by_cases hg:s.reads.all (CA m.words s.id)=true
 ·rw [if_pos hg] at hA ⊢
  by_cases hw:s.writes=[]
  ·rw [if_pos hw];exact Io hs hI (by decide) (by decide)
  ·rw [if_neg hw] at hA ⊢
   have:=List.length_pos_iff.2 hw
   exact Gf hs hI hA rfl rfl ⟨fun _=>(by simp only;omega),fun _=>hSI.lvl (by omega),hSI.rd⟩ (fun _=>⟨rfl,rfl,by simp only;omega,rfl⟩)
 ·rw [if_neg hg];exact Mf hs hI 3
theorem dU {w:Aq} (hst:s.step=4) (hmem:w∈s.writes) (hA:Br (Cl m k s w)) (hlt:s.at_+1<s.writes.length∨True) (ht:SI { s with at_:=s.at_+1 }):Inv (Cl m k s w):=by
 have hS:=BU hs hI
 have hw1:=(BX hS.writes).1 w hmem
 simp only [AL,Bool.and_eq_true] at hw1
 have hk:=Ax hs
 refine ⟨hA,JF hs hI ht,fun h i v hh hg hlk=>?_⟩
 have hmt:({ s with at_:=s.at_+1 }:Ae)∈m.sess.set k { s with at_:=s.at_+1 }:=List.mem_of_getElem? (List.getElem?_set_self hk)
 obtain ⟨q0,q1,q2,q3⟩:=Jp m.words w.level w.index ⟨w.val,s.stamp,0⟩
 have hlen:i<((CK m.words w.level w.index ⟨w.val,s.stamp,0⟩).get h).length:=Ax hg
 rw [PB q0 q1 q2 q3] at hlen
 have hv:=List.getElem?_eq_getElem hlen
 have hr:=JL m.words w ⟨w.val,s.stamp,0⟩ h i _ hh hw1.1.1 (by have:=hw1.1.2;rw [AE] at this;exact this.1) hv
 have hg':((CK m.words w.level w.index ⟨w.val,s.stamp,0⟩).get h)[i]?=some v:=hg
 rw [hr] at hg'
 cases hg'
 by_cases hc:(decide (h=w.level)&&decide ((i:Int)=w.index))=true
 ·rw [if_pos hc] at hlk;exact absurd rfl hlk
 ·rw [if_neg hc] at hlk ⊢
  obtain ⟨s',h1,h2,h3,h4,h5⟩:=hI.lock h i _ hh hv hlk
  by_cases e:s'=s
  ·subst e;exact ⟨_,hmt,h2,h3,h4,h5⟩
  ·exact ⟨s',FH hs h1 e,h2,h3,h4,h5⟩
theorem mR {w:Aq} (hmem:w∈s.writes) (hA:Br (EB (Cl m k s w) k { s with at_:=s.at_+1 } 1 0)):Inv (EB (Cl m k s w) k { s with at_:=s.at_+1 } 1 0):=by
 have hS:=BU hs hI
 have hw1:=(BX hS.writes).1 w hmem
 simp only [AL,Bool.and_eq_true] at hw1
 have hk:=Ax hs
 have hse:(EB (Cl m k s w) k { s with at_:=s.at_+1 } 1 0).sess=m.sess.set k (DB { s with at_:=s.at_+1 } 1 0):=by
  rw [Ln];simp [Cl,Bd,Hl]
 refine ⟨hA,by rw [hse];exact JF hs hI ⟨fun h=>(by rcases h with h | h<;>cases h),fun h=>(by simp only [DB] at h;omega),fun r hr=>by simp [DB,ED] at hr⟩,fun h i v hh hg hlk=>?_⟩
 rw [NQ,VH] at hg
 obtain ⟨q0,q1,q2,q3⟩:=Jp m.words w.level w.index ⟨w.val,s.stamp,0⟩
 cases hv:((Cl m k s w).words.get h)[i]? with
 | none=>rw [hv] at hg;cases hg
 | some u =>
  rw [hv,Option.map_some] at hg
  cases hg
  have hne:u.lock≠s.id+1:=by
   intro e;apply hlk;show (Aw (s.id+1) u).lock=0;unfold Aw;rw [if_pos e]
  have huw:Aw (s.id+1) u=u:=by unfold Aw;rw [if_neg hne]
  have hlk':u.lock≠0:=by
   intro e;apply hlk;show (Aw (s.id+1) u).lock=0;rw [huw];exact e
  show ∃ s',Held _ h i (Aw (s.id+1) u) s'
  rw [huw]
  have hlen:i<((CK m.words w.level w.index ⟨w.val,s.stamp,0⟩).get h).length:=Ax hv
  rw [PB q0 q1 q2 q3] at hlen
  have hv0:=List.getElem?_eq_getElem hlen
  have hr:=JL m.words w ⟨w.val,s.stamp,0⟩ h i _ hh hw1.1.1 (by have:=hw1.1.2;rw [AE] at this;exact this.1) hv0
  have hv':((CK m.words w.level w.index ⟨w.val,s.stamp,0⟩).get h)[i]?=some u:=hv
  rw [hr] at hv'
  cases hv'
  by_cases hc:(decide (h=w.level)&&decide ((i:Int)=w.index))=true
  ·rw [if_pos hc] at hlk';exact absurd rfl hlk'
  ·rw [if_neg hc] at hlk' hne ⊢
   obtain ⟨s',h1,h2,h3,h4,h5⟩:=hI.lock h i _ hh hv0 hlk'
   exact ⟨s',by rw [hse];exact FH hs h1 (fun e=>hne (by rw [h2,e])),h2,h3,h4,h5⟩
theorem mS (hst:s.step=4):∃ A,Wv m k s=some A∧(Br A→Inv A):=by
 have hS:=BU hs hI
 have hSI:=hI.sess s (List.mem_of_getElem? hs)
 have hat:=AE.1 hS.at_
 have hlt:=hSI.at_ (.inr hst)
 have hn:s.at_.toNat<s.writes.length:=by omega
 unfold Wv
 rw [List.getElem?_eq_getElem hn]
 refine ⟨_,rfl,fun hA=>?_⟩
 have hmem:s.writes[s.at_.toNat]∈s.writes:=List.getElem_mem hn
 generalize s.writes[s.at_.toNat]=w at hmem hA ⊢
 by_cases hl:s.at_+1=s.writes.length
 ·rw [if_pos hl] at hA ⊢;exact mR hs hI hmem hA
 ·rw [if_neg hl] at hA ⊢
  exact dU hs hI hst hmem hA (.inr trivial) ⟨fun _=>(by simp only;omega),fun _=>hSI.lvl (by omega),hSI.rd⟩
theorem JE:∃ A,BV m k=(A,0)∧FX m k s=some A∧Inv A∧∃ t,Eb m A k s t:=by
 have hS:=BU hs hI
 have hM:=hI.may
 have he:=qI hs hM hS
 have key:∀ A,FX m k s=some A→(Br A→Inv A)→∃ A,BV m k=(A,0)∧FX m k s=some A∧Inv A∧∃ t,Eb m A k s t:=by
  intro A hA hi
  rw [hA] at he
  obtain ⟨t,ht⟩:=Jo hs hM hS (by rw [he])
  rw [he] at ht
  exact ⟨A,he,hA,hi ht.may,t,ht⟩
 by_cases h0:s.step=0
 ·exact key _ (by unfold FX;rw [if_pos h0]) (uN hs hI h0)
 by_cases h1:s.step=1
 ·obtain ⟨A,hA,hi⟩:=mQ hs hI h1
  exact key A (by unfold FX;rw [if_neg h0,if_pos h1];exact hA) hi
 by_cases h2:s.step=2
 ·exact key _ (by unfold FX;rw [if_neg h0,if_neg h1,if_pos h2]) (dV hs hI h2)
 by_cases h3:s.step=3
 ·exact key _ (by unfold FX;rw [if_neg h0,if_neg h1,if_neg h2,if_pos h3]) (dW hs hI h3)
 by_cases h4:s.step=4
 ·obtain ⟨A,hA,hi⟩:=mS hs hI h4
  exact key A (by unfold FX;rw [if_neg h0,if_neg h1,if_neg h2,if_neg h3,if_pos h4];exact hA) hi
 by_cases h5:s.step=5
 ·refine key (Uv m k s) (by unfold FX;rw [if_neg h0,if_neg h1,if_neg h2,if_neg h3,if_neg h4,if_pos h5]) (fun _=>?_)
  unfold Uv
  split
  ·exact Mf hs hI 5
  ·exact hI
 ·exact key m (by unfold FX;rw [if_neg h0,if_neg h1,if_neg h2,if_neg h3,if_neg h4,if_neg h5]) (fun _=>hI)
end
end Ve
namespace Ve
open Go
theorem Fz:∀ (l:List Ae) (g:Int) (b:Nat) (k:Nat),k∈Dq g b l→∃ s,b≤k∧l[k - b]?=some s∧Gl g s=true
 | [],g,b,k,h=>by simp [Dq] at h
 | a::r,g,b,k,h=>by
  unfold Dq at h
  by_cases ht:Gl g a=true
  ·rw [if_pos ht] at h
   rcases List.mem_cons.1 h with rfl | h
   ·exact ⟨a,Nat.le_refl _,by simp,ht⟩
   ·obtain ⟨s,h1,h2,h3⟩:=Fz r g (b+1) k h
    refine ⟨s,by omega,?_,h3⟩
    rw [show k - b=(k - (b+1))+1 by omega];exact h2
  ·rw [if_neg ht] at h
   obtain ⟨s,h1,h2,h3⟩:=Fz r g (b+1) k h
   refine ⟨s,by omega,?_,h3⟩
   rw [show k - b=(k - (b+1))+1 by omega];exact h2
theorem Hf {m:Ac} (hM:Br m) {x:AO} (hx:AF x=true):CU m x=(0,false,0)∨∃ (k:Nat) (s:Ae),CU m x=((k:Int),true,0)∧m.sess[k]?=some s∧s.label=x.level∧s.step≠6:=by
 unfold CU
 rw [(LS m).2 hM,hx]
 simp only [Bool.and_self,if_true]
 cases h:(Jl m x.level)[x.pick.toNat % (Jl m x.level).length]? with
 | none=>exact .inl rfl
 | some k =>
  right
  obtain ⟨s,_,h2,h3⟩:=Fz m.sess x.level 0 k (List.mem_of_getElem? h)
  simp only [Gl,Bool.and_eq_true,decide_eq_true_eq,Bool.not_eq_true',decide_eq_false_iff_not] at h3
  exact ⟨k,s,rfl,by simpa using h2,h3.1,h3.2⟩
theorem OF {m:Ac} (hI:Inv m) {x:AO} (hx:AF x=true):AQ m x=(m,0)∨∃ (k:Nat) (s t:Ae) (A:Ac),CU m x=((k:Int),true,0)∧m.sess[k]?=some s∧s.label=x.level∧s.step≠6∧AQ m x=(A,0)∧BV m k=(A,0)∧FX m k s=some A∧Inv A∧Eb m A k s t:=by
 rcases Hf hI.may hx with h | ⟨k,s,h,hs,hl,hst⟩
 ·left;unfold AQ;rw [h];rfl
 ·right
  obtain ⟨A,h1,h2,h3,t,h4⟩:=JE hs hI
  refine ⟨k,s,t,A,h,hs,hl,hst,?_,h1,h2,h3,h4⟩
  unfold AQ;rw [h];simp only [if_true,h1]
theorem FY {m:Ac} (hI:Inv m) {x:AO} (hx:AF x=true):(AQ m x).2=0∧Inv (AQ m x).1∧(AQ m x).1.trace.length≤m.trace.length+1∧(AQ m x).1.sess.length=m.sess.length∧(AQ m x).1.ceil=m.ceil:=by
 rcases OF hI hx with h | ⟨k,s,t,A,_,hs,_,_,h,_,_,hA,hL⟩
 ·rw [h];exact ⟨rfl,hI,Nat.le_succ _,rfl,rfl⟩
 ·rw [h]
  refine ⟨rfl,hA,?_,by rw [hL.sess];simp,hL.ceil⟩
  rcases hL.trace with e | ⟨e,h1,_⟩
  ·rw [e];exact Nat.le_succ _
  ·rw [h1];simp
theorem QQ (s:Ap):(Ci s=(AC s,0)∧De (AC s)=true)∨Ci s=(AA,1200):=by
 unfold Ci
 split
 ·rename_i h
  simp only [Bool.and_eq_true] at h
  exact .inl ⟨rfl,h.2⟩
 ·exact .inr rfl
theorem Zo {s:Ap} (h:De (AC s)=true):Inv (AC s):=by
 refine ⟨(LS _).1 h,?_,?_⟩
 ·intro x hx
  simp only [AC,List.mem_map] at hx
  obtain ⟨y,_,rfl⟩:=hx
  exact ⟨fun h=>(by rcases h with h | h<;>cases h),fun h=>(by simp only [AX] at h;omega),fun r hr=>by simp [AX] at hr⟩
 ·intro g i w hg hw hl
  exfalso;apply hl
  have:∀ l:List Int,(l.map Dl)[i]?=some w→w.lock=0:=by
   intro l h
   rw [List.getElem?_map] at h
   cases hq:l[i]? with
   | none=>rw [hq] at h;cases h
   | some v=>rw [hq] at h;cases h;rfl
  simp only [AC,Bf] at hw
  unfold A4.get at hw
  split at hw
  ·exact this _ hw
  ·split at hw
   ·exact this _ hw
   ·split at hw
    ·exact this _ hw
    ·exact this _ hw
theorem Sw:∀ (l:List AO) (m:Ac),Inv m→l.all AF=true→(BH m l).2=0∧Inv (BH m l).1∧(BH m l).1.trace.length≤m.trace.length+l.length∧(BH m l).1.sess.length=m.sess.length∧(BH m l).1.ceil=m.ceil
 | [],m,hI,_=>⟨rfl,hI,by simp [BH],rfl,rfl⟩
 | x::r,m,hI,h=>by
  simp only [List.all_cons,Bool.and_eq_true] at h
  obtain ⟨h1,h2,h3,h4,h5⟩:=FY hI h.1
  obtain ⟨g1,g2,g3,g4,g5⟩:=Sw r (AQ m x).1 h2 h.2
  unfold BH
  rw [if_pos h1]
  exact ⟨g1,g2,by simp only [List.length_cons];omega,by rw [g4,h4],by rw [g5,h5]⟩
theorem Ga {s:Ap} (h:Az s=true):Ci s=(AC s,0)∧Inv (AC s)∧BN s=((BH (AC s) s.slots).1,0)∧Inv (BH (AC s) s.slots).1∧(BH (AC s) s.slots).1.trace.length≤256:=by
 have h':=h
 simp only [Az,Bool.and_eq_true,decide_eq_true_eq] at h
 rcases QQ s with ⟨e,hm⟩ | e
 ·have hI:=Zo hm
  obtain ⟨g1,g2,g3,_,_⟩:=Sw s.slots (AC s) hI h.2
  refine ⟨e,hI,?_,g2,?_⟩
  ·unfold BN;rw [if_pos h',e]
   have:BH (AC s) s.slots=((BH (AC s) s.slots).1,0):=by rw [← g1]
   simp only
   exact this
  ·have:(AC s).trace.length=0:=rfl
   omega
 ·rw [e] at h;exact absurd h.1.1 (by decide)
end Ve
namespace Ve
open Go
theorem qM {ws:A4 (List Aj)} {s:Ae} (h:SP ws s):SmS s:=by
 have h1:=h.prog
 have h2:=h.reads
 have h3:=h.writes
 simp only [Dg,AY,Bg,Bool.and_eq_true,decide_eq_true_eq] at h1 h2 h3
 exact ⟨by omega,by omega,by omega⟩
theorem bF {m:Ac} (h:Br m):SmM m:=by
 have ha:=h.arena
 simp only [AS,A4.all,Ch,Bool.and_eq_true,decide_eq_true_eq] at ha
 have h1:=h.sl
 have h2:=h.tl
 exact ⟨by omega,by omega,by omega,by omega,by omega,by omega,fun s hs=>qM ((sp _ _).1 (h.sess s hs))⟩
theorem YA {m:Ac} (hm:SmM m) (at_:Int):SmM (BV m at_).1:=by
 rcases Hw m at_ with h | ⟨k,s,rfl,hs,hM,hS⟩
 ·have:BV m at_=(AA,2300):=by unfold BV;rw [h];rfl
  rw [this];exact CQ
 ·by_cases h0:(BV m k).2=0
  ·obtain ⟨t,ht⟩:=Jo hs hM hS h0
   exact bF ht.may
  ·have:(BV m k).1=AA:=by
    unfold BV at h0 ⊢
    split at h0
    ·rename_i hh
     simp only [hh,if_true] at h0 ⊢
     simp only [Int.toNat_natCast,hs] at h0 ⊢
     split at h0
     ·exact absurd rfl h0
     ·rename_i h1;rw [if_neg h1]
    ·rename_i hh;rw [if_neg hh]
   rw [this];exact CQ
def itM (k:Nat):Nat→Ac→Ac
 | 0,m=>m
 | n+1,m=>(BV (itM k n m) k).1
def itU (k:Nat):Nat→Ac→Ac
 | 0,m=>m
 | n+1,m=>match (itU k n m).sess[k]? with
  | some s=>((FX (itU k n m) k s).getD AA)
  | none=>AA
theorem it_inv {k:Nat} {m:Ac} (hI:Inv m) (hk:k<m.sess.length):∀ n,Inv (itM k n m)∧(itM k n m).sess.length=m.sess.length∧itM k n m=itU k n m∧(BV (itM k n m) k).2=0
 | n=>by
  have DO:Inv (itM k n m)∧(itM k n m).sess.length=m.sess.length∧itM k n m=itU k n m:=by
   induction n with
   | zero=>exact ⟨hI,rfl,rfl⟩
   | succ n ih =>
    obtain ⟨h1,h2,h3⟩:=ih
    obtain ⟨s,hs⟩:∃ s,(itM k n m).sess[k]?=some s:=⟨_,List.getElem?_eq_getElem (by omega)⟩
    obtain ⟨A,a1,a2,a3,t,a4⟩:=JE hs h1
    simp only [itM,itU]
    rw [← h3,hs,a1]
    simp only [a2,Option.getD_some]
    exact ⟨a3,by rw [a4.sess,List.length_set];exact h2,trivial⟩
  obtain ⟨h1,h2,h3⟩:=DO
  obtain ⟨s,hs⟩:∃ s,(itM k n m).sess[k]?=some s:=⟨_,List.getElem?_eq_getElem (by omega)⟩
  obtain ⟨A,a1,_⟩:=JE hs h1
  exact ⟨h1,h2,h3,by rw [a1]⟩
end Ve
namespace Ve
open Go
theorem Km {m:Ac} (hm:SmM m) (x:AO):SmM (AQ m x).1:=by
 unfold AQ
 split
 ·split
  ·split
   ·exact YA hm _
   ·exact CQ
  ·exact hm
 ·exact CQ
theorem zE {m:Ac} {x:AO}:CU m x=(0,false,2400)∨(De m=true∧Jl m x.level=[]∧CU m x=(0,false,0))∨∃ (k:Nat) (s:Ae),De m=true∧CU m x=((k:Int),true,0)∧m.sess[k]?=some s∧s.label=x.level∧s.step≠6:=by
 unfold CU
 by_cases h:(De m&&AF x)=true
 ·have hM:De m=true:=by simp only [Bool.and_eq_true] at h;exact h.1
  rw [if_pos h]
  cases hq:(Jl m x.level)[x.pick.toNat % (Jl m x.level).length]? with
  | none =>
   refine .inr (.inl ⟨hM,?_,rfl⟩)
   cases hl:Jl m x.level with
   | nil=>rfl
   | cons a r =>
    rw [List.getElem?_eq_none_iff] at hq
    have:=Nat.mod_lt x.pick.toNat (show 0<(Jl m x.level).length by rw [hl];simp)
    omega
  | some k =>
   obtain ⟨s,_,h2,h3⟩:=Fz m.sess x.level 0 _ (List.mem_of_getElem? hq)
   simp only [Gl,Bool.and_eq_true,decide_eq_true_eq,Bool.not_eq_true',decide_eq_false_iff_not] at h3
   rw [Nat.sub_zero] at h2
   exact .inr (.inr ⟨k,s,hM,rfl,h2,h3.1,h3.2⟩)
 ·rw [if_neg h];exact .inl rfl
theorem slot_cs (m:Ac) (x:AO):AQ m x=(AA,2400)∨(De m=true∧AQ m x=(m,0))∨∃ (k:Nat) (s t:Ae),m.sess[k]?=some s∧s.label=x.level∧s.step≠6∧(AQ m x).2=0∧Eb m (AQ m x).1 k s t:=by
 rcases zE (m:=m) (x:=x) with h | ⟨hM,_,h⟩ | ⟨k,s,hM,h,hs,hl,hn⟩
 ·left;unfold AQ;rw [h];rfl
 ·right;left;exact ⟨hM,by unfold AQ;rw [h];rfl⟩
 ·have hMP:=(LS m).1 hM
  by_cases h0:(BV m k).2=0
  ·right;right
   obtain ⟨t,W⟩:=Jo hs hMP ((sp _ _).1 (hMP.sess s (List.mem_of_getElem? hs))) h0
   have e:AQ m x=((BV m k).1,0):=by
    unfold AQ;rw [h];simp only [if_true,h0]
   exact ⟨k,s,t,hs,hl,hn,by rw [e],by rw [e];exact W⟩
  ·left;unfold AQ;rw [h];simp only [if_true,h0,if_false]
end Ve
namespace Ve
open Go
inductive WF where
 | id
 | free (c:Int)
 | set (l i:Int) (w:Aj)
 | setFree (l i:Int) (w:Aj) (c:Int)
def PF (c:Int) (ws:A4 (List Aj)):A4 (List Aj):=⟨ws.a0.map (Aw c),ws.a1.map (Aw c),ws.a2.map (Aw c),ws.a3.map (Aw c)⟩
def WF.app:WF→A4 (List Aj)→A4 (List Aj)
 | .id,ws=>ws
 | .free c,ws=>PF c ws
 | .set l i w,ws=>CK ws l i w
 | .setFree l i w c,ws=>PF c (CK ws l i w)
def WF.row (h:Int):WF→List Aj→List Aj
 | .id,r=>r
 | .free c,r=>r.map (Aw c)
 | .set l i w,r=>if h=l then r.set i.toNat w else r
 | .setFree l i w c,r=>(if h=l then r.set i.toNat w else r).map (Aw c)
theorem Kz (c:Int) (ws:A4 (List Aj)) (h:Int):(PF c ws).get h=(ws.get h).map (Aw c):=by
 unfold PF A4.get;split
 ·rfl
 ·split
  ·rfl
  ·split<;>rfl
theorem LE (ws:A4 (List Aj)) (l i:Int) (w:Aj) (h:Int) (hl:inR l 3=true) (hh:inR h 3=true):(CK ws l i w).get h=if h=l then (ws.get h).set i.toNat w else ws.get h:=by
 rcases ER hl with rfl | rfl | rfl | rfl<;>rcases ER hh with rfl | rfl | rfl | rfl<;>rfl
def WF.ok:WF→Prop
 | .set l _ _=>inR l 3=true
 | .setFree l _ _ _=>inR l 3=true
 | _=>True
theorem WF.app_get {f:WF} (hf:f.ok) (ws:A4 (List Aj)) (h:Int) (hh:inR h 3=true):(f.app ws).get h=f.row h (ws.get h):=by
 cases f with
 | id=>rfl
 | free c=>exact Kz c ws h
 | set l i w=>exact LE ws l i w h hf hh
 | setFree l i w c=>simp only [WF.app,WF.row];rw [Kz,LE ws l i w h hf hh]
structure Ef where
 t:Ae
 w:WF
 c:Option Int
 e:Option AI
def Jn:Option AI→Ac→Ac
 | none,m=>m
 | some e,m=>Bm m e
def PR (l:Int) (cs:A4 Int):Option Int→A4 Int
 | none=>cs
 | some v=>cs.set l v
def Ef.app (E:Ef) (m:Ac) (k:Nat) (l:Int):Ac:=Jn E.e ⟨E.w.app m.words,PR l m.clocks E.c,m.ceil,m.sess.set k E.t,m.trace⟩
def FL (s:Ae) (kind:Int):Ef:=⟨Co s,.free (s.id+1),none,some ⟨s.id,s.label,kind,KF s.tries⟩⟩
def EZ (s:Ae) (r t:Int):Ef:=⟨DB s r t,.free (s.id+1),none,some ⟨s.id,s.label,6,r⟩⟩
def FS (ws:A4 (List Aj)) (s:Ae) (x:AD):Ef :=
 if (AT x.b x.c s.writes).2=true then ⟨Eu s x s.reads (AT x.b x.c s.writes).1,.id,none,some ⟨s.id,s.label,0,(AT x.b x.c s.writes).1⟩⟩
 else if s.reads.all (CA ws s.id)=true∧(AB ws x.b x.c).lock=0 then ⟨Eu s x (HX s.reads ⟨x.b,x.c,(AB ws x.b x.c).ver⟩) (AB ws x.b x.c).val,.id,none,some ⟨s.id,s.label,0,(AB ws x.b x.c).val⟩⟩
 else FL s 3
def GZ (s:Ae) (x:AD):Ef:=if Ao (orI s.label x.b) s.clear=true then ⟨{ s with label:=orI s.label x.b },.id,none,some ⟨s.id,s.label,2,orI s.label x.b⟩⟩ else EZ s 4 0
def Zv (s:Ae) (x:AD):Ef:=⟨{ s with writes:=DG ⟨x.b,x.c,s.regs.get x.a⟩ s.writes,pc:=s.pc+1 },.id,none,some ⟨s.id,s.label,1,s.regs.get x.a⟩⟩
def IU (s:Ae) (x:AD):Ef :=
 if x.code=0 then ⟨{ s with regs:=s.regs.set x.a x.b,pc:=s.pc+1 },.id,none,none⟩
 else if x.code=1 then ⟨{ s with regs:=s.regs.set x.a ((s.regs.get x.a+s.regs.get x.b) % 256),pc:=s.pc+1 },.id,none,none⟩
 else ⟨{ s with pc:=if s.regs.get x.a=0 then x.b else s.pc+1 },.id,none,none⟩
def IT (s:Ae):Ef:=if s.writes.all (fun w=>decide (w.level=s.label))=true then ⟨{ s with at_:=0,step:=if s.writes=[] then 3 else 1 },.id,none,none⟩ else EZ s 3 0
def GF (ws:A4 (List Aj)) (s:Ae):Ef :=
 match s.prog[s.pc.toNat]? with
 | some x =>
  if x.code=2 then (if Ao x.b s.label=true then FS ws s x else GZ s x)
  else if x.code=3 then Zv s x
  else if x.code=5 then ⟨{ s with writes:=[],at_:=0,step:=5 },.id,none,some ⟨s.id,s.label,4,s.reads.length⟩⟩
  else if x.code=6 then EZ s 2 x.a
  else IU s x
 | none=>IT s
def Gt (ws:A4 (List Aj)) (s:Ae):Option Ef :=
 match s.writes[s.at_.toNat]? with
 | some w=>some (if (AB ws w.level w.index).lock=0 then ⟨{ s with at_:=s.at_+1,step:=if s.at_+1=s.writes.length then 2 else s.step },.set w.level w.index { AB ws w.level w.index with lock:=s.id+1 },none,none⟩ else FL s 3)
 | none=>none
def EM (ceil clk:Int) (s:Ae):Ef:=if ceil≤clk then EZ s 5 0 else ⟨{ s with stamp:=clk+1,step:=3 },.id,some (clk+1),none⟩
def Dh (ws:A4 (List Aj)) (s:Ae):Ef:=if s.reads.all (CA ws s.id)=true then (if s.writes=[] then EZ s 1 0 else ⟨{ s with at_:=0,step:=4 },.id,none,none⟩) else FL s 3
def Gu (s:Ae):Option Ef :=
 match s.writes[s.at_.toNat]? with
 | some w=>some (if s.at_+1=s.writes.length then ⟨DB { s with at_:=s.at_+1 } 1 0,.setFree w.level w.index ⟨w.val,s.stamp,0⟩ (s.id+1),none,some ⟨s.id,s.label,6,1⟩⟩ else ⟨{ s with at_:=s.at_+1 },.set w.level w.index ⟨w.val,s.stamp,0⟩,none,none⟩)
 | none=>none
def Fo (ws:A4 (List Aj)) (s:Ae):Ef:=if s.reads.any (Dp ws)=true then FL s 5 else ⟨s,.id,none,none⟩
def EC (ceil:Int) (ws:A4 (List Aj)) (clk:Int) (s:Ae):Option Ef :=
 if s.step=0 then some (GF ws s)
 else if s.step=1 then Gt ws s
 else if s.step=2 then some (EM ceil clk s)
 else if s.step=3 then some (Dh ws s)
 else if s.step=4 then Gu s
 else if s.step=5 then some (Fo ws s)
 else some ⟨s,.id,none,none⟩
theorem a4m (m:Ac) (k:Nat) (s:Ae) (l:Int):upM m k s l=Bm (Bd m k { s with label:=l }) ⟨s.id,s.label,2,l⟩:=by
 unfold upM Bm Bd;split<;>rfl
theorem xQ (m:Ac) (k:Nat) (s:Ae) (l:Int):(GF m.words s).app m k l=UN m k s:=by
 unfold GF UN
 cases s.prog[s.pc.toNat]? with
 | none =>
  simp only
  unfold IT Ze
  by_cases h:(s.writes.all fun w=>decide (w.level=s.label))=true
  ·rw [if_pos h,if_pos h];rfl
  ·rw [if_neg h,if_neg h];rfl
 | some x =>
  simp only
  by_cases hc:x.code=2
  ·rw [if_pos hc,if_pos hc]
   by_cases hu:Ao x.b s.label=true
   ·rw [if_pos hu,if_pos hu]
    unfold FS SZ
    by_cases h1:(AT x.b x.c s.writes).2=true
    ·rw [if_pos h1,if_pos h1];rfl
    ·rw [if_neg h1,if_neg h1]
     by_cases h2:s.reads.all (CA m.words s.id)=true∧(AB m.words x.b x.c).lock=0
     ·rw [if_pos h2,if_pos h2];rfl
     ·rw [if_neg h2,if_neg h2];rfl
   ·rw [if_neg hu,if_neg hu]
    unfold GZ Ta
    by_cases h1:Ao (orI s.label x.b) s.clear=true
    ·rw [if_pos h1,if_pos h1,a4m];rfl
    ·rw [if_neg h1,if_neg h1];rfl
  ·rw [if_neg hc,if_neg hc]
   by_cases hc:x.code=3
   ·rw [if_pos hc,if_pos hc];rfl
   ·rw [if_neg hc,if_neg hc]
    by_cases hc:x.code=5
    ·rw [if_pos hc,if_pos hc];rfl
    ·rw [if_neg hc,if_neg hc]
     by_cases hc:x.code=6
     ·rw [if_pos hc,if_pos hc];rfl
     ·rw [if_neg hc,if_neg hc]
      unfold IU aJ
      by_cases h0:x.code=0
      ·rw [if_pos h0,if_pos h0];rfl
      ·rw [if_neg h0,if_neg h0]
       by_cases h1:x.code=1
       ·rw [if_pos h1,if_pos h1];rfl
       ·rw [if_neg h1,if_neg h1];rfl
theorem MB {m:Ac} {k:Nat} {s:Ae} (hs:m.sess[k]?=some s):FX m k s=(EC m.ceil m.words (m.clocks.get s.label) s).map fun E=>E.app m k s.label:=by
 unfold FX EC
 by_cases h0:s.step=0
 ·rw [if_pos h0,if_pos h0,Option.map_some,xQ]
 rw [if_neg h0,if_neg h0]
 by_cases h1:s.step=1
 ·rw [if_pos h1,if_pos h1]
  unfold VG Gt
  cases s.writes[s.at_.toNat]? with
  | none=>rfl
  | some w =>
   simp only [Option.map_some]
   by_cases hl:(AB m.words w.level w.index).lock=0
   ·rw [if_pos hl,if_pos hl];rfl
   ·rw [if_neg hl,if_neg hl];rfl
 rw [if_neg h1,if_neg h1]
 by_cases h2:s.step=2
 ·rw [if_pos h2,if_pos h2]
  unfold MI EM
  by_cases hc:m.ceil≤m.clocks.get s.label
  ·rw [if_pos hc,if_pos hc];rfl
  ·rw [if_neg hc,if_neg hc];rfl
 rw [if_neg h2,if_neg h2]
 by_cases h3:s.step=3
 ·rw [if_pos h3,if_pos h3]
  unfold Ni Dh
  by_cases hg:s.reads.all (CA m.words s.id)=true
  ·rw [if_pos hg,if_pos hg]
   by_cases hw:s.writes=[]
   ·rw [if_pos hw,if_pos hw];rfl
   ·rw [if_neg hw,if_neg hw];rfl
  ·rw [if_neg hg,if_neg hg];rfl
 rw [if_neg h3,if_neg h3]
 by_cases h4:s.step=4
 ·rw [if_pos h4,if_pos h4]
  unfold Wv Gu
  cases s.writes[s.at_.toNat]? with
  | none=>rfl
  | some w =>
   simp only [Option.map_some]
   by_cases hl:s.at_+1=s.writes.length
   ·rw [if_pos hl,if_pos hl]
    unfold EB Cl Bd Hl DH Ef.app
    simp only [Jn,Int.toNat_natCast,List.set_set]
    rfl
   ·rw [if_neg hl,if_neg hl];rfl
 rw [if_neg h4,if_neg h4]
 by_cases h5:s.step=5
 ·rw [if_pos h5,if_pos h5]
  unfold Uv Fo
  by_cases hc:s.reads.any (Dp m.words)=true
  ·rw [if_pos hc,if_pos hc];rfl
  ·rw [if_neg hc,if_neg hc]
   simp only [Option.map_some,Ef.app,Jn,PR,WF.app,LD hs]
 rw [if_neg h5,if_neg h5]
 simp only [Option.map_some,Ef.app,Jn,PR,WF.app,LD hs]
end Ve
namespace Ve
open Go
structure Eqv (g:Int) (m m':Ac):Prop where
 ceil:m.ceil=m'.ceil
 row:∀ h,inR h 3=true→Ao h g=true→m.words.get h=m'.words.get h
 clk:∀ h,inR h 3=true→Ao h g=true→m.clocks.get h=m'.clocks.get h
 sess:m.sess.filter (fun x=>Ao x.label g)=m'.sess.filter (fun x=>Ao x.label g)
 trace:m.trace.filter (fun x=>Ao x.label g)=m'.trace.filter (fun x=>Ao x.label g)
theorem Eqv.symm {g:Int} {m m':Ac} (h:Eqv g m m'):Eqv g m' m:=⟨h.ceil.symm,fun a b c=>(h.row a b c).symm,fun a b c=>(h.clk a b c).symm,h.sess.symm,h.trace.symm⟩
theorem Eqv.trans {g:Int} {m m' n:Ac} (h:Eqv g m m') (h':Eqv g m' n):Eqv g m n:=⟨h.ceil.trans h'.ceil,fun a b c=>(h.row a b c).trans (h'.row a b c),fun a b c=>(h.clk a b c).trans (h'.clk a b c),h.sess.trans h'.sess,h.trace.trans h'.trace⟩
theorem Eqv.refl (g:Int) (m:Ac):Eqv g m m:=⟨rfl,fun _ _ _=>rfl,fun _ _ _=>rfl,rfl,rfl⟩
theorem iF {g:Int} {m m':Ac} (h:Eqv g m m'):Dr m g=Dr m' g:=by
 have hr:∀ a,inR a 3=true→KJ a g (m.words.get a)=KJ a g (m'.words.get a):=by
  intro a ha;unfold KJ;split
  ·rename_i hu;exact h.row a ha hu
  ·rfl
 have hc:∀ a,inR a 3=true→Nu a g (m.clocks.get a)=Nu a g (m'.clocks.get a):=by
  intro a ha;unfold Nu;split
  ·rename_i hu;exact h.clk a ha hu
  ·rfl
 have r0:=hr 0 rfl
 have r1:=hr 1 rfl
 have r2:=hr 2 rfl
 have r3:=hr 3 rfl
 have c0:=hc 0 rfl
 have c1:=hc 1 rfl
 have c2:=hc 2 rfl
 have c3:=hc 3 rfl
 simp only [A4.get,simprocAttr] at r0 r1 r2 r3 c0 c1 c2 c3
 simp only [Dr,r0,r1,r2,r3,c0,c1,c2,c3,h.ceil,h.sess,h.trace]
theorem PG {α:Type} (P:α→Bool):∀ (l:List α) (k:Nat) (x t:α),l[k]?=some x→P x=false→P t=false→(l.set k t).filter P=l.filter P
 | [],k,x,t,h,_,_=>by simp at h
 | a::r,0,x,t,h,h1,h2=>by
  simp only [List.getElem?_cons_zero,Option.some.injEq] at h;subst h
  simp [h1,h2]
 | a::r,k+1,x,t,h,h1,h2=>by
  have:=PG P r k x t (by simpa using h) h1 h2
  simp only [List.set_cons_succ,List.filter_cons,this]
def Uj (s t:Ae) (x:Ae):Ae:=if x.id=s.id then t else x
theorem OG:∀ {l:List Ae} {k:Nat} {s t:Ae},l.Pairwise (fun a b=>a.id<b.id)→l[k]?=some s→l.set k t=l.map (Uj s t)
 | [],k,s,t,_,h=>by simp at h
 | a::r,0,s,t,hp,h=>by
  simp only [List.getElem?_cons_zero,Option.some.injEq] at h;subst h
  obtain ⟨h1,_⟩:=List.pairwise_cons.1 hp
  have:r.map (Uj a t)=r:=by
   rw [List.map_congr_left (g:=fun x=>x)]
   ·simp
   ·intro x hx;unfold Uj;rw [if_neg];have:=h1 x hx;omega
  simp only [List.set_cons_zero,List.map_cons,this]
  unfold Uj;rw [if_pos rfl]
 | a::r,k+1,s,t,hp,h=>by
  obtain ⟨h1,h2⟩:=List.pairwise_cons.1 hp
  have hs:r[k]?=some s:=by simpa using h
  have hlt:=h1 s (List.mem_of_getElem? hs)
  have:=OG (t:=t) h2 hs
  simp only [List.set_cons_succ,List.map_cons,this]
  unfold Uj;rw [if_neg (by omega)]
theorem JO (P:Ae→Bool) (s t:Ae):∀ (l:List Ae),(∀ x∈l,x.id=s.id→P x=true)→(l.map (Uj s t)).filter P=((l.filter P).map (Uj s t)).filter P
 | [],_=>rfl
 | a::r,h=>by
  have ih:=JO P s t r (fun x hx=>h x (by simp [hx]))
  cases hp:P a with
  | true=>simp only [List.map_cons,List.filter_cons,hp,if_true,ih]
  | false =>
   have hne:a.id≠s.id:=fun e=>by have:=h a (by simp) e;rw [hp] at this;cases this
   have:Uj s t a=a:=by unfold Uj;rw [if_neg hne]
   simp only [List.map_cons,List.filter_cons,hp,this,Bool.false_eq_true,if_false,ih]
theorem XL {m m':Ac} {k k':Nat} {s t:Ae} {P:Ae→Bool} (hM:Br m) (hM':Br m') (hs:m.sess[k]?=some s) (hs':m'.sess[k']?=some s) (hP:P s=true) (h:m.sess.filter P=m'.sess.filter P):(m.sess.set k t).filter P=(m'.sess.set k' t).filter P:=by
 have hp:=(HV m.sess none hM.ids).2
 have hp':=(HV m'.sess none hM'.ids).2
 rw [OG hp hs,OG hp' hs',JO P s t m.sess,JO P s t m'.sess,h]
 ·intro x hx e;rw [Lm hM' hx (List.mem_of_getElem? hs') e];exact hP
 ·intro x hx e;rw [Lm hM hx (List.mem_of_getElem? hs) e];exact hP
theorem KB {cs:A4 Int} {l h v:Int} (hl:inR l 3=true) (hh:inR h 3=true):(cs.set l v).get h=if h=l then v else cs.get h:=by
 rcases ER hl with rfl | rfl | rfl | rfl<;>rcases ER hh with rfl | rfl | rfl | rfl<;>rfl
theorem BM (E:Ef) (m:Ac) (k:Nat) (l:Int):(E.app m k l).words=E.w.app m.words:=by
 unfold Ef.app;cases E.e with
 | none=>rfl
 | some e=>simp only [Jn,FA]
theorem Cn (E:Ef) (m:Ac) (k:Nat) (l:Int):(E.app m k l).sess=m.sess.set k E.t:=by
 unfold Ef.app;cases E.e with
 | none=>rfl
 | some e=>simp only [Jn,FB]
theorem FQ (E:Ef) (m:Ac) (k:Nat) (l:Int):(E.app m k l).clocks=PR l m.clocks E.c:=by
 unfold Ef.app;cases E.e with
 | none=>rfl
 | some e=>simp only [Jn,Uz]
theorem Qp (E:Ef) (m:Ac) (k:Nat) (l:Int):(E.app m k l).ceil=m.ceil:=by
 unfold Ef.app;cases E.e with
 | none=>rfl
 | some e=>simp only [Jn,Ic]
theorem No (E:Ef) (m:Ac) (k:Nat) (l:Int) (ht:m.trace.length<512):(E.app m k l).trace=m.trace++E.e.toList:=by
 unfold Ef.app;cases E.e with
 | none=>simp [Jn]
 | some e=>simp only [Jn,La];rw [if_pos ht];rfl
theorem xS {g:Int} {m m':Ac} {k k':Nat} {s:Ae} {E:Ef} (hM:Br m) (hM':Br m') (hs:m.sess[k]?=some s) (hs':m'.sess[k']?=some s) (hg:Ao s.label g=true) (hl:inR s.label 3=true) (hw:E.w.ok) (h:Eqv g m m') (ht:m.trace.length<512) (ht':m'.trace.length<512):Eqv g (E.app m k s.label) (E.app m' k' s.label):=by
 refine ⟨by rw [Qp,Qp];exact h.ceil,fun a ha hu=>?_,fun a ha hu=>?_,?_,?_⟩
 ·rw [BM,BM,WF.app_get hw _ _ ha,WF.app_get hw _ _ ha,h.row a ha hu]
 ·rw [FQ,FQ]
  cases E.c with
  | none=>exact h.clk a ha hu
  | some v=>simp only [PR];rw [KB hl ha,KB hl ha,h.clk a ha hu]
 ·rw [Cn,Cn]
  exact XL (P:=fun x=>Ao x.label g) hM hM' hs hs' hg h.sess
 ·rw [No _ _ _ _ ht,No _ _ _ _ ht',List.filter_append,List.filter_append,h.trace]
end Ve
namespace Ve
open Go
theorem Ml {ws ws':A4 (List Aj)} {l i:Int} (h:ws.get l=ws'.get l):AB ws l i=AB ws' l i:=by unfold AB;rw [h]
def WF.mine (s:Ae):WF→Prop
 | .id=>True
 | .free c=>c=s.id+1
 | .set l _ _=>l=s.label
 | .setFree l _ _ c=>l=s.label∧c=s.id+1
structure Up (s:Ae) (E:Ef):Prop where
 w:E.w.mine s
 e:∀ e,E.e=some e→e.label=s.label
theorem HJ {s:Ae} (hl:inR s.label 3=true) {f:WF} (h:f.mine s):f.ok:=by
 cases f with
 | id=>trivial
 | free c=>trivial
 | set l i w=>simp only [WF.mine] at h;simp only [WF.ok];rw [h];exact hl
 | setFree l i w c=>simp only [WF.mine] at h;simp only [WF.ok];rw [h.1];exact hl
theorem Kq (s:Ae) (kind:Int):Up s (FL s kind):=⟨rfl,fun e h=>by cases h;rfl⟩
theorem JD (s:Ae) (r t:Int):Up s (EZ s r t):=⟨rfl,fun e h=>by cases h;rfl⟩
theorem HK (s t:Ae) (c:Option Int):Up s ⟨t,.id,c,none⟩:=⟨trivial,fun e h=>by cases h⟩
theorem JC (s t:Ae) (a b:Int):Up s ⟨t,.id,none,some ⟨s.id,s.label,a,b⟩⟩:=⟨trivial,fun e h=>by cases h;rfl⟩
theorem JQ {ceil clk:Int} {ws:A4 (List Aj)} {s:Ae} (hSI:SI s) {E:Ef} (h:EC ceil ws clk s=some E):Up s E:=by
 unfold EC at h
 by_cases h0:s.step=0
 ·rw [if_pos h0] at h;cases h
  unfold GF
  cases s.prog[s.pc.toNat]? with
  | none =>
   simp only;unfold IT
   split
   ·exact HK _ _ _
   ·exact JD _ _ _
  | some x =>
   simp only
   split
   ·split
    ·unfold FS
     split
     ·exact JC _ _ _ _
     ·split
      ·exact JC _ _ _ _
      ·exact Kq _ _
    ·unfold GZ
     split
     ·exact JC _ _ _ _
     ·exact JD _ _ _
   ·split
    ·exact JC _ _ _ _
    ·split
     ·exact JC _ _ _ _
     ·split
      ·exact JD _ _ _
      ·unfold IU
       split
       ·exact HK _ _ _
       ·split
        ·exact HK _ _ _
        ·exact HK _ _ _
 rw [if_neg h0] at h
 by_cases h1:s.step=1
 ·rw [if_pos h1] at h
  unfold Gt at h
  cases hw:s.writes[s.at_.toNat]? with
  | none=>rw [hw] at h;cases h
  | some w =>
   rw [hw] at h;simp only [Option.some.injEq] at h;subst h
   split
   ·exact ⟨hSI.lvl (by omega) w (List.mem_of_getElem? hw),fun e h=>by cases h⟩
   ·exact Kq _ _
 rw [if_neg h1] at h
 by_cases h2:s.step=2
 ·rw [if_pos h2] at h;cases h
  unfold EM
  split
  ·exact JD _ _ _
  ·exact HK _ _ _
 rw [if_neg h2] at h
 by_cases h3:s.step=3
 ·rw [if_pos h3] at h;cases h
  unfold Dh
  split
  ·split
   ·exact JD _ _ _
   ·exact HK _ _ _
  ·exact Kq _ _
 rw [if_neg h3] at h
 by_cases h4:s.step=4
 ·rw [if_pos h4] at h
  unfold Gu at h
  cases hw:s.writes[s.at_.toNat]? with
  | none=>rw [hw] at h;cases h
  | some w =>
   rw [hw] at h;simp only [Option.some.injEq] at h;subst h
   have hl:=hSI.lvl (by omega) w (List.mem_of_getElem? hw)
   split
   ·exact ⟨⟨hl,rfl⟩,fun e h=>by cases h;rfl⟩
   ·exact ⟨hl,fun e h=>by cases h⟩
 rw [if_neg h4] at h
 by_cases h5:s.step=5
 ·rw [if_pos h5] at h;cases h
  unfold Fo
  split
  ·exact Kq _ _
  ·exact HK _ _ _
 ·rw [if_neg h5] at h;cases h;exact HK _ _ _
theorem Yp {α:Type} {p q:α→Bool} {l:List α} (h:∀ x∈l,p x=q x):l.all p=l.all q:=by
 induction l with
 | nil=>rfl
 | cons a r ih=>simp only [List.all_cons,h a (by simp),ih fun x hx=>h x (by simp [hx])]
theorem Yk {α:Type} {p q:α→Bool} {l:List α} (h:∀ x∈l,p x=q x):l.any p=l.any q:=by
 induction l with
 | nil=>rfl
 | cons a r ih=>simp only [List.any_cons,h a (by simp),ih fun x hx=>h x (by simp [hx])]
theorem vT {g:Int} {m m':Ac} {s:Ae} (hg3:inR g 3=true) (hS:SP m.words s) (hSI:SI s) (hg:Ao s.label g=true) (h:Eqv g m m'):EC m.ceil m.words (m.clocks.get s.label) s=EC m'.ceil m'.words (m'.clocks.get s.label) s:=by
 have hrow:∀ l,inR l 3=true→Ao l s.label=true→m.words.get l=m'.words.get l:=fun l hl hu=>h.row l hl (HC hl hS.label hg3 hu hg)
 have hr1:∀ r∈s.reads,m.words.get r.level=m'.words.get r.level:=by
  intro r hr
  have:=(MO hS.reads).1 r hr
  simp only [CF,Bool.and_eq_true] at this
  exact hrow r.level this.1.1 (hSI.rd r hr)
 have hgood:s.reads.all (CA m.words s.id)=s.reads.all (CA m'.words s.id):=Yp fun r hr=>by unfold CA;rw [Ml (hr1 r hr)]
 have hchg:s.reads.any (Dp m.words)=s.reads.any (Dp m'.words):=Yk fun r hr=>by unfold Dp;rw [Ml (hr1 r hr)]
 have hself:m.words.get s.label=m'.words.get s.label:=hrow _ hS.label (BY hS.label)
 unfold EC
 rw [h.ceil,h.clk s.label hS.label hg]
 by_cases h0:s.step=0
 ·rw [if_pos h0,if_pos h0]
  congr 1
  unfold GF
  cases hx:s.prog[s.pc.toNat]? with
  | none=>rfl
  | some x =>
   simp only
   by_cases hc:x.code=2
   ·rw [if_pos hc,if_pos hc]
    by_cases hu:Ao x.b s.label=true
    ·rw [if_pos hu,if_pos hu]
     have hl:=DF (EH hS hx).1 (.inl hc)
     unfold FS
     rw [hgood,Ml (hrow x.b hl.1 hu)]
    ·rw [if_neg hu,if_neg hu]
   ·rw [if_neg hc,if_neg hc]
 rw [if_neg h0,if_neg h0]
 by_cases h1:s.step=1
 ·rw [if_pos h1,if_pos h1]
  unfold Gt
  cases hw:s.writes[s.at_.toNat]? with
  | none=>rfl
  | some w =>
   have hl:=hSI.lvl (by omega) w (List.mem_of_getElem? hw)
   simp only
   rw [Ml (ws:=m.words) (ws':=m'.words) (by rw [hl];exact hself)]
 rw [if_neg h1,if_neg h1]
 by_cases h2:s.step=2
 ·rw [if_pos h2,if_pos h2]
 rw [if_neg h2,if_neg h2]
 by_cases h3:s.step=3
 ·rw [if_pos h3,if_pos h3];unfold Dh;rw [hgood]
 rw [if_neg h3,if_neg h3]
 by_cases h4:s.step=4
 ·rw [if_pos h4,if_pos h4]
 rw [if_neg h4,if_neg h4]
 by_cases h5:s.step=5
 ·rw [if_pos h5,if_pos h5];unfold Fo;rw [hchg]
 rw [if_neg h5,if_neg h5]
theorem xR {g:Int} {m:Ac} {k:Nat} {s:Ae} {E:Ef} (hI:Inv m) (hs:m.sess[k]?=some s) (hg3:inR g 3=true) (hg:Ao s.label g=false) (hE:Up s E) (ht:Ao s.label E.t.label=true) (htl:inR E.t.label 3=true):Eqv g m (E.app m k s.label):=by
 have hS:=BU hs hI
 have hid:=AE.1 hS.id
 have hne:∀ a,Ao a g=true→a≠s.label:=by rintro a h rfl;rw [hg] at h;cases h
 have hfree:∀ a,inR a 3=true→Ao a g=true→(m.words.get a).map (Aw (s.id+1))=m.words.get a:=by
  intro a ha hu
  rw [List.map_congr_left (g:=fun x=>x)]
  ·simp
  ·intro w hw
   unfold Aw
   rw [if_neg]
   intro e
   obtain ⟨i,hi⟩:=List.getElem?_of_mem hw
   obtain ⟨s',h1,h2,h3,_,_⟩:=hI.lock a i w ha hi (by omega)
   have:=Lm hI.may h1 (List.mem_of_getElem? hs) (by omega)
   subst this
   exact hne a hu h3.symm
 refine ⟨by rw [Qp],fun a ha hu=>?_,fun a ha hu=>?_,?_,?_⟩
 ·rw [BM,WF.app_get (HJ hS.label hE.w) _ _ ha]
  have hw:=hE.w
  cases hf:E.w with
  | id=>rfl
  | free c=>rw [hf] at hw;simp only [WF.mine] at hw;simp only [WF.row,hw];exact (hfree a ha hu).symm
  | set l i w=>rw [hf] at hw;simp only [WF.mine] at hw;simp only [WF.row,hw];rw [if_neg (hne a hu)]
  | setFree l i w c =>
   rw [hf] at hw;simp only [WF.mine] at hw
   simp only [WF.row,hw.1,hw.2];rw [if_neg (hne a hu)];exact (hfree a ha hu).symm
 ·rw [FQ]
  cases E.c with
  | none=>rfl
  | some v=>simp only [PR];rw [KB hS.label ha,if_neg (hne a hu)]
 ·rw [Cn]
  refine (PG _ m.sess k s E.t hs hg ?_).symm
  cases h:Ao E.t.label g with
  | false=>rfl
  | true=>rw [HC hS.label htl hg3 ht h] at hg;cases hg
 ·unfold Ef.app
  cases he:E.e with
  | none=>rfl
  | some e =>
   simp only [Jn,La]
   split
   ·rw [List.filter_append]
    have:=hE.e e he
    simp [this,hg]
   ·rfl
theorem Oy (l:Int):∀ (ss:List Ae) (b:Nat),(Dq l b ss).length=(ss.filter (Gl l)).length∧∀ (j k:Nat),(Dq l b ss)[j]?=some k→ss[k - b]?=(ss.filter (Gl l))[j]?
 | [],b=>⟨rfl,fun j k h=>by simp [Dq] at h⟩
 | a::r,b=>by
  obtain ⟨h1,h2⟩:=Oy l r (b+1)
  unfold Dq
  by_cases ht:Gl l a=true
  ·rw [if_pos ht,List.filter_cons,if_pos ht]
   refine ⟨by simp [h1],fun j k h=>?_⟩
   cases j with
   | zero=>simp only [List.getElem?_cons_zero,Option.some.injEq] at h;subst h;simp
   | succ j =>
    simp only [List.getElem?_cons_succ] at h ⊢
    have:=h2 j k h
    obtain ⟨s,hb,_,_⟩:=Fz r l (b+1) k (List.mem_of_getElem? h)
    rw [show k - b=(k - (b+1))+1 by omega,List.getElem?_cons_succ];exact this
  ·rw [if_neg ht,List.filter_cons,if_neg ht]
   refine ⟨h1,fun j k h=>?_⟩
   have:=h2 j k h
   obtain ⟨s,hb,_,_⟩:=Fz r l (b+1) k (List.mem_of_getElem? h)
   rw [show k - b=(k - (b+1))+1 by omega,List.getElem?_cons_succ];exact this
theorem oH {g l:Int} {m m':Ac} (hl:Ao l g=true) (h:Eqv g m m'):m.sess.filter (Gl l)=m'.sess.filter (Gl l):=by
 have key:∀ ss:List Ae,ss.filter (Gl l)=(ss.filter fun x=>Ao x.label g).filter (Gl l):=by
  intro ss
  rw [List.filter_filter]
  apply List.filter_congr
  intro x _
  cases ht:Gl l x with
  | false=>rfl
  | true =>
   simp only [Gl,Bool.and_eq_true,decide_eq_true_eq] at ht
   rw [ht.1,hl];rfl
 rw [key m.sess,key m'.sess,h.sess]
end Ve
namespace Ve
open Go
theorem Iz {m:Ac} (hM:Br m) {x:AO} (hx:AF x=true):(CU m x=(0,false,0)∧m.sess.filter (Gl x.level)=[])∨∃ (k:Nat) (s:Ae),CU m x=((k:Int),true,0)∧m.sess[k]?=some s∧(m.sess.filter (Gl x.level))[x.pick.toNat % (m.sess.filter (Gl x.level)).length]?=some s:=by
 obtain ⟨n1,n2⟩:=Oy x.level m.sess 0
 have e:CU m x=match (Jl m x.level)[x.pick.toNat % (Jl m x.level).length]? with
  | some k=>((k:Int),true,0)
  | none=>(0,false,0):=by
  unfold CU;rw [(LS m).2 hM,hx];rfl
 have hlen:(Jl m x.level).length=(m.sess.filter (Gl x.level)).length:=n1
 cases hq:(Jl m x.level)[x.pick.toNat % (Jl m x.level).length]? with
 | none =>
  rw [hq] at e
  refine .inl ⟨e,?_⟩
  rw [List.getElem?_eq_none_iff] at hq
  have:(Jl m x.level).length=0:=by
   rcases Nat.eq_zero_or_pos (Jl m x.level).length with h | h
   ·exact h
   ·have:=Nat.mod_lt x.pick.toNat h;omega
  exact List.eq_nil_of_length_eq_zero (by omega)
 | some k =>
  rw [hq] at e
  have:=n2 _ k hq
  obtain ⟨s,_,hs,_⟩:=Fz m.sess x.level 0 k (List.mem_of_getElem? hq)
  refine .inr ⟨k,s,e,by simpa using hs,?_⟩
  rw [← hlen,← this];exact hs
theorem GG {m:Ac} {x:AO} (h:CU m x=(0,false,0)):AQ m x=(m,0):=by unfold AQ;rw [h];rfl
theorem Sg {m:Ac} (hI:Inv m) {x:AO} {k:Nat} {s:Ae} (h:CU m x=((k:Int),true,0)) (hs:m.sess[k]?=some s):∃ A,AQ m x=(A,0)∧FX m k s=some A∧Inv A∧∃ t,Eb m A k s t:=by
 obtain ⟨A,h1,h2,h3,h4⟩:=JE hs hI
 refine ⟨A,?_,h2,h3,h4⟩
 unfold AQ;rw [h];simp only [if_true,h1]
theorem gH {g:Int} {m m':Ac} (hg3:inR g 3=true) (hI:Inv m) (hI':Inv m') {x:AO} (hx:AF x=true) (hv:Ao x.level g=true) (h:Eqv g m m') (ht:m.trace.length<512) (ht':m'.trace.length<512):Eqv g (AQ m x).1 (AQ m' x).1:=by
 have hc:=oH hv h
 rcases Iz hI.may hx with ⟨w,he⟩ | ⟨k,s,w,hs,hq⟩
 ·rcases Iz hI'.may hx with ⟨w',_⟩ | ⟨k',s',w',hs',hq'⟩
  ·rw [GG w,GG w'];exact h
  ·rw [← hc,he] at hq';simp at hq'
 ·rcases Iz hI'.may hx with ⟨w',he'⟩ | ⟨k',s',w',hs',hq'⟩
  ·rw [hc,he'] at hq;simp at hq
  ·rw [← hc,hq] at hq'
   obtain rfl:s=s':=Option.some.inj hq'
   have hsl:s.label=x.level:=by
    have:=List.mem_of_getElem? hq
    simp only [List.mem_filter,Gl,Bool.and_eq_true,decide_eq_true_eq] at this
    exact this.2.1
   have hgs:Ao s.label g=true:=by rw [hsl];exact hv
   obtain ⟨A,e1,e2,_,_⟩:=Sg hI w hs
   obtain ⟨A',e1',e2',_,_⟩:=Sg hI' w' hs'
   have hS:=BU hs hI
   have hSI:=hI.sess s (List.mem_of_getElem? hs)
   rw [MB hs] at e2
   rw [MB hs'] at e2'
   have he:=vT hg3 hS hSI hgs h
   rw [← he] at e2'
   cases hE:EC m.ceil m.words (m.clocks.get s.label) s with
   | none=>rw [hE] at e2;cases e2
   | some E =>
    rw [hE,Option.map_some,Option.some.injEq] at e2 e2'
    rw [e1,e1',← e2,← e2']
    exact xS hI.may hI'.may hs hs' hgs hS.label (HJ hS.label (JQ hSI hE).w) h ht ht'
theorem mW {g:Int} {m:Ac} (hg3:inR g 3=true) (hI:Inv m) {x:AO} (hx:AF x=true) (hv:Ao x.level g=false):Eqv g m (AQ m x).1:=by
 rcases Iz hI.may hx with ⟨w,_⟩ | ⟨k,s,w,hs,hq⟩
 ·rw [GG w];exact Eqv.refl g m
 ·have hsl:s.label=x.level:=by
   have:=List.mem_of_getElem? hq
   simp only [List.mem_filter,Gl,Bool.and_eq_true,decide_eq_true_eq] at this
   exact this.2.1
  have hgs:Ao s.label g=false:=by rw [hsl];exact hv
  obtain ⟨A,e1,e2,hIA,t,hL⟩:=Sg hI w hs
  have hSI:=hI.sess s (List.mem_of_getElem? hs)
  rw [MB hs] at e2
  cases hE:EC m.ceil m.words (m.clocks.get s.label) s with
  | none=>rw [hE] at e2;cases e2
  | some E =>
   rw [hE,Option.map_some,Option.some.injEq] at e2
   have hk:=Ax hs
   have htE:E.t=t:=by
    have h1:=Cn E m k s.label
    rw [e2,hL.sess] at h1
    have h2:(m.sess.set k t)[k]?=(m.sess.set k E.t)[k]?:=by rw [h1]
    rw [List.getElem?_set_self hk,List.getElem?_set_self hk] at h2
    exact (Option.some.inj h2).symm
   have hmem:t∈A.sess:=by rw [hL.sess];exact List.mem_of_getElem? (List.getElem?_set_self hk)
   have htl:=((sp _ _).1 (hIA.may.sess t hmem)).label
   rw [e1,← e2]
   exact xR hI hs hg3 hgs (JQ hSI hE) (by rw [htE];exact hL.lab) (by rw [htE];exact htl)
theorem Oe {g:Int} (hg3:inR g 3=true):∀ (l:List AO) (m m':Ac),Inv m→Inv m'→l.all AF=true→Eqv g m m'→m.trace.length+l.length≤512→m'.trace.length+l.length≤512→Eqv g (BH m l).1 (BH m' (l.filter fun x=>Ao x.level g)).1
 | [],m,m',_,_,_,h,_,_=>h
 | x::r,m,m',hI,hI',ha,h,ht,ht'=>by
  simp only [List.all_cons,Bool.and_eq_true] at ha
  simp only [List.length_cons] at ht ht'
  obtain ⟨h1,h2,h3,_,_⟩:=FY hI ha.1
  have e:BH m (x::r)=BH (AQ m x).1 r:=by show (if _ then _ else _)=_;rw [if_pos h1]
  rw [e,List.filter_cons]
  cases hv:Ao x.level g with
  | true =>
   obtain ⟨h1',h2',h3',_,_⟩:=FY hI' ha.1
   simp only [if_true]
   have e':BH m' (x::r.filter fun x=>Ao x.level g)=BH (AQ m' x).1 (r.filter fun x=>Ao x.level g):=by show (if _ then _ else _)=_;rw [if_pos h1']
   rw [e']
   exact Oe hg3 r _ _ h2 h2' ha.2 (gH hg3 hI hI' ha.1 hv h (by omega) (by omega)) (by omega) (by omega)
  | false =>
   simp only [Bool.false_eq_true,if_false]
   exact Oe hg3 r _ _ h2 hI' ha.2 ((mW hg3 hI ha.1 hv).symm.trans h) (by omega) (by omega)
theorem rO {g:Int} (hg3:inR g 3=true) {l l':List AO} {m m':Ac} (hI:Inv m) (hI':Inv m') (ha:l.all AF=true) (ha':l'.all AF=true) (h:Eqv g m m') (hl:(l.filter fun x=>Ao x.level g)=l'.filter fun x=>Ao x.level g) (ht:m.trace.length+l.length≤512) (ht':m'.trace.length+l'.length≤512) (hm:m'.trace.length+l.length≤512):Eqv g (BH m l).1 (BH m' l').1:=by
 have h1:=Oe hg3 l m m' hI hI' ha h ht hm
 have h2:=Oe hg3 l' m' m' hI' hI' ha' (Eqv.refl g m') ht' ht'
 rw [hl] at h1
 exact h1.trans h2.symm
end Ve
namespace Ve
open Go
theorem MH (ws:A4 (List Int)) (g h:Int) (hh:inR h 3=true):(⟨Cw 0 g ws.a0,Cw 1 g ws.a1,Cw 2 g ws.a2,Cw 3 g ws.a3⟩:A4 (List Int)).get h=Cw h g (ws.get h):=by
 rcases ER hh with rfl | rfl | rfl | rfl<;>rfl
theorem YQ (ws:A4 (List Int)) (h:Int):(Bf ws).get h=(ws.get h).map Dl:=by
 unfold Bf A4.get;split
 ·rfl
 ·split
  ·rfl
  ·split<;>rfl
theorem Mn (g:Int) (l:List AV):(l.map AX).filter (fun x=>Ao x.label g)=(l.filter fun x=>Ao x.label g).map AX:=by
 induction l with
 | nil=>rfl
 | cons a r ih =>
  simp only [List.map_cons,List.filter_cons,ih]
  show (if Ao a.label g=true then _ else _)=_
  split<;>rfl
structure RZ (g:Int) (s t:Ap):Prop where
 ceil:s.ceil=t.ceil
 row:∀ h,inR h 3=true→Ao h g=true→s.words.get h=t.words.get h
 starts:s.starts.filter (fun x=>Ao x.label g)=t.starts.filter fun x=>Ao x.label g
 slots:s.slots.filter (fun x=>Ao x.level g)=t.slots.filter fun x=>Ao x.level g
theorem iH {g:Int} {s t:Ap} (h:Bj s g=Bj t g):RZ g s t:=by
 have e:=h
 simp only [Bj,Ap.mk.injEq] at e
 refine ⟨e.2.1,fun a ha hu=>?_,e.2.2.1,e.2.2.2⟩
 have h1:=MH s.words g a ha
 have h2:=MH t.words g a ha
 rw [e.1,h2] at h1
 unfold Cw at h1
 rw [if_pos hu,if_pos hu] at h1
 exact h1.symm
theorem vO {g:Int} {s t:Ap} (h:RZ g s t):Eqv g (AC s) (AC t):=by
 refine ⟨h.ceil,fun a ha hu=>?_,fun a ha hu=>rfl,?_,rfl⟩
 ·show (Bf s.words).get a=(Bf t.words).get a
  rw [YQ,YQ,h.row a ha hu]
 ·show (s.starts.map AX).filter _=(t.starts.map AX).filter _
  rw [Mn,Mn,h.starts]
theorem OJ {g:Int} (hg:inR g 3=true) {s t:Ap} (hs:Az s=true) (ht:Az t=true) (h:RZ g s t):Dr (BN s).1 g=Dr (BN t).1 g:=by
 obtain ⟨_,i1,r1,_,_⟩:=Ga hs
 obtain ⟨_,i2,r2,_,_⟩:=Ga ht
 rw [r1,r2]
 simp only [Az,Bool.and_eq_true,decide_eq_true_eq] at hs ht
 have z1:(AC s).trace.length=0:=rfl
 have z2:(AC t).trace.length=0:=rfl
 exact iF (rO hg i1 i2 hs.2 ht.2 (vO h) h.slots (by omega) (by omega) (by omega))
theorem GK {s:Ap} (hs:Az s=true):(BN s).2=0∧De (BN s).1=true∧Inv (BN s).1:=by
 obtain ⟨_,_,r1,i,_⟩:=Ga hs
 rw [r1]
 exact ⟨rfl,(LS _).2 i.may,i⟩
theorem Ea (h g:Int) (l:List Int):(Cw h g l).length=l.length:=by unfold Cw;split<;>simp
theorem GO (h g:Int) {l:List Int} (hl:Cq l=true):Cq (Cw h g l)=true:=by
 unfold Cw
 split
 ·exact hl
 ·simp only [Cq,Bool.and_eq_true,decide_eq_true_eq,List.length_map,List.all_eq_true] at hl ⊢
  refine ⟨hl.1,fun x hx=>?_⟩
  obtain ⟨_,_,rfl⟩:=List.mem_map.1 hx
  decide
theorem DV {l:List Int} (h:Cq l=true):Ch (l.map Dl)=true:=by
 simp only [Cq,Ch,Bool.and_eq_true,decide_eq_true_eq,List.length_map,List.all_eq_true] at h ⊢
 refine ⟨h.1,fun w hw=>?_⟩
 obtain ⟨v,hv,rfl⟩:=List.mem_map.1 hw
 simp only [Ba,Dl,h.2 v hv];rfl
theorem JH {α:Type} (f:α→Int) (P:α→Bool):∀ (l:List α) (o o':Option Int),Ll o (l.map f)=true→(∀ v',o'=some v'→∃ v,o=some v∧v'≤v)→Ll o' ((l.filter P).map f)=true
 | [],o,o',_,_=>by cases o'<;>rfl
 | a::r,o,o',h,ho=>by
  have hr:Ll (some (f a)) (r.map f)=true∧∀ v,o=some v→v<f a:=by
   cases o with
   | none=>simp only [List.map_cons,Ll] at h;exact ⟨h,fun v hv=>by cases hv⟩
   | some v=>simp only [List.map_cons,Ll,Bool.and_eq_true,decide_eq_true_eq] at h;exact ⟨h.2,fun v' hv=>by cases hv;exact h.1⟩
  rw [List.filter_cons]
  by_cases hp:P a=true
  ·rw [if_pos hp,List.map_cons]
   have ih:=JH f P r (some (f a)) (some (f a)) hr.1 (fun v' hv=>⟨f a,rfl,by cases hv;omega⟩)
   cases o' with
   | none=>exact ih
   | some v' =>
    obtain ⟨v,hv,hle⟩:=ho v' rfl
    have:=hr.2 v hv
    simp only [Ll,Bool.and_eq_true,decide_eq_true_eq]
    exact ⟨by omega,ih⟩
  ·rw [if_neg hp]
   refine JH f P r (some (f a)) o' hr.1 (fun v' hv=>?_)
   obtain ⟨v,hv2,hle⟩:=ho v' hv
   have:=hr.2 v hv2
   exact ⟨f a,rfl,by omega⟩
theorem PH {α:Type} (P:α→Bool) (l:List α):(l.filter P).length≤l.length:=List.length_filter_le P l
theorem fJ {s:Ap} (h:Az s=true) (g:Int):Az (Bj s g)=true:=by
 have hh:=h
 simp only [Az,Bool.and_eq_true,decide_eq_true_eq] at h
 have hn:Bw s.words=true∧s.starts.all Bz=true∧De (AC s)=true:=by
  have:=h.1.1
  unfold Ci at this
  split at this
  ·rename_i hc;simp only [Bool.and_eq_true] at hc;exact ⟨hc.1.1,hc.1.2,hc.2⟩
  ·exact absurd this (by decide)
 obtain ⟨hv,hst,hm⟩:=hn
 have hM:=(LS _).1 hm
 simp only [Bw,A4.all,Bool.and_eq_true] at hv
 have hv':Bw (Bj s g).words=true:=by
  simp only [Bw,A4.all,Bj,Bool.and_eq_true]
  exact ⟨⟨⟨GO _ _ hv.1.1.1,GO _ _ hv.1.1.2⟩,GO _ _ hv.1.2⟩,GO _ _ hv.2⟩
 have hst':(Bj s g).starts.all Bz=true:=by
  rw [List.all_eq_true] at hst ⊢
  intro x hx
  exact hst x (List.mem_filter.1 hx).1
 have hm':De (AC (Bj s g))=true:=by
  rw [LS]
  have hv2:=hv'
  simp only [Bw,A4.all,Bool.and_eq_true] at hv2
  have hth:∀ l i,Ay (AC (Bj s g)).words l i=Ay (AC s).words l i:=fun l i=>Hk (by simp [AC,Bf,Bj,Ea]) (by simp [AC,Bf,Bj,Ea]) (by simp [AC,Bf,Bj,Ea]) (by simp [AC,Bf,Bj,Ea]) l i
  refine ⟨?_,hM.ceil,hM.clocks,?_,by simp [AC],?_,?_,by simp [AC]⟩
  ·simp only [AS,A4.all,AC,Bf,Bool.and_eq_true]
   exact ⟨⟨⟨DV hv2.1.1.1,DV hv2.1.1.2⟩,DV hv2.1.2⟩,DV hv2.2⟩
  ·have:=hM.sl
   simp only [AC,List.length_map,Bj] at this ⊢
   exact Nat.le_trans (PH _ _) this
  ·have:=hM.ids
   simp only [AC,List.map_map,Bj] at this ⊢
   exact JH _ _ s.starts none none this (fun v hv=>by cases hv)
  ·intro x hx
   simp only [AC,List.mem_map,Bj] at hx
   obtain ⟨y,hy,rfl⟩:=hx
   rw [FZ hth]
   exact hM.sess (AX y) (List.mem_map_of_mem (List.mem_filter.1 hy).1)
 simp only [Az,Bool.and_eq_true,decide_eq_true_eq]
 refine ⟨⟨?_,?_⟩,?_⟩
 ·unfold Ci;rw [hv',hst',hm'];rfl
 ·exact Nat.le_trans (PH _ _) h.1.2
 ·have:=h.2
  rw [List.all_eq_true] at this ⊢
  intro x hx
  exact this x (List.mem_filter.1 hx).1
end Ve
namespace Ve
open Go
theorem iA {s:Ap} (hs:Cj s):SmM (Ci s).1:=by
 unfold Ci;split
 ·exact Et hs
 ·exact CQ
theorem yA:∀ (l:List AO) {m:Ac},SmM m→SmM (BH m l).1
 | [],m,h=>h
 | x::r,m,h=>by
  show SmM (if (AQ m x).2=0 then BH (AQ m x).1 r else (AA,2500)).1
  split
  ·exact yA r (Km h x)
  ·exact CQ
theorem DU {s:Ap} (hs:Cj s):SmM (BN s).1:=by
 unfold BN;split
 ·exact yA _ (iA hs)
 ·exact CQ
theorem bE:Cj Ou:=⟨by decide,by decide,by decide,by decide,by decide,by decide,fun x hx=>by cases hx⟩
theorem MJ {s:Ap} (hs:Cj s) (l:Int):Cj (Bj s l):=by
 obtain ⟨b0,b1,b2,b3,bst,bsl,p⟩:=hs
 refine ⟨by simpa [Bj,Ea] using b0,by simpa [Bj,Ea] using b1,by simpa [Bj,Ea] using b2,by simpa [Bj,Ea] using b3,?_,?_,?_⟩
 ·exact Nat.le_trans (List.length_filter_le _ _) bst
 ·exact Nat.le_trans (List.length_filter_le _ _) bsl
 ·intro x hx;exact p x (List.mem_filter.1 hx).1
theorem iB {s:Ap} (hs:Cj s) (l:Int):Cj (HA s l).1:=by
 unfold HA;split
 ·exact MJ hs l
 ·exact bE
theorem bJ {α:Type} (g l:Int) (row:List α):(KJ g l row).length≤row.length:=by unfold KJ;split<;>simp
theorem LA {m:Ac} (h:SmM m) (l:Int):SmM (Dr m l):=by
 obtain ⟨b0,b1,b2,b3,bs,bt,hs⟩:=h
 have k:=fun {α:Type} (g:Int) (row:List α)=>bJ g l row
 have k0:=k 0 m.words.a0;have k1:=k 1 m.words.a1;have k2:=k 2 m.words.a2;have k3:=k 3 m.words.a3
 have f1:=List.length_filter_le (fun x:Ae=>Ao x.label l) m.sess
 have f2:=List.length_filter_le (fun x:AI=>Ao x.label l) m.trace
 refine ⟨by simp only [Dr];omega,by simp only [Dr];omega,by simp only [Dr];omega,by simp only [Dr];omega,by simp only [Dr];omega,by simp only [Dr];omega,?_⟩
 intro x hx;exact hs x (List.mem_filter.1 hx).1
theorem qN {m:Ac} (h:SmM m) (l:Int):SmM (LF m l).1:=by
 unfold LF;split
 ·exact LA h l
 ·exact CQ
theorem OP {s:Ap}:((BN s).2=0∧Az s=true)∨(BN s=(AA,2500)∧Az s=false):=by
 cases h:Az s
 ·right;exact ⟨by unfold BN;rw [h];rfl,rfl⟩
 ·exact .inl ⟨(GK h).1,rfl⟩
theorem My {s:Ap} {g:Int} (hg:inR g 3=true):(HA s g=(Bj s g,0)∧Az s=true)∨(HA s g=(Ou,2500)∧Az s=false):=by
 cases h:Az s
 ·right;exact ⟨by unfold HA;rw [h];rfl,rfl⟩
 ·left;exact ⟨by unfold HA;rw [h,hg];rfl,rfl⟩
theorem IC {s:Ap} {g:Int} (hg:inR g 3=true) (hs:Az s=true):LF (BN s).1 g=(Dr (BN s).1 g,0):=by
 unfold LF;rw [(GK hs).2.1,hg];rfl
theorem Xn {s:Ap}:(Ci s=(AC s,0)∧De (AC s)=true)∨Ci s=(AA,1200):=QQ s
end Ve
