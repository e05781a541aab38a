/- Models of scripts, and how the evaluator's values stand for them; new machines. -/
import Derived.Test.YtjgbbmcjbfpjfaaGreatVeM
import Derived.Test.YtjgbbmcjbfpjfaaGreatVeN
set_option linter.all false
set_option linter.unusedSectionVars false
namespace Ve
open Go
def eSt (p:Bool) (s:Bk):V:=.agg [iV s.id,iV s.label,iV s.clear,eIs p s.prog]
abbrev Hw (p:Bool) (l:List Bk):V:=.isl p false 4 (l.map (eSt p))
abbrev eNs (p:Bool) (l:List Int):V:=.isl p false 1 (l.map iV)
abbrev Hu (p:Bool) (l:List AR):V:=.isl p false 2 (l.map eSl)
abbrev cSc (p:Bool) (s:Aq):List V:=[eNs p s.words.a0,eNs p s.words.a1,eNs p s.words.a2,eNs p s.words.a3,iV s.ceil,Hw p s.starts,Hu p s.slots]
abbrev eSc (p:Bool) (s:Aq):V:=.agg (cSc p s)
structure CK (s:Aq):Prop where
 b0:s.words.a0.length≤1048576
 b1:s.words.a1.length≤1048576
 b2:s.words.a2.length≤1048576
 b3:s.words.a3.length≤1048576
 bst:s.starts.length≤1048576
 bsl:s.slots.length≤1048576
 p:∀ x∈s.starts,x.prog.length≤1048576
def DF (v:Int):Ap:=⟨v,0,0⟩
def Da (l:List Int):Bool:=decide (l.length≤4)&&l.all (fun v=>inR v 255)
def BV (ws:A4 (List Int)):Bool:=ws.all Da
def Cc (ws:A4 (List Int)):A4 (List Ap):=⟨ws.a0.map DF,ws.a1.map DF,ws.a2.map DF,ws.a3.map DF⟩
def Fa (ws:A4 (List Int)):A4 (List Ap) × Int:=if BV ws=true then (Cc ws,0) else (⟨[],[],[],[]⟩,400)
def Cb (s:Bk):Ai:=⟨s.id,s.label,s.clear,s.prog,0,0,⟨0,0,0,0⟩,[],[],0,0,0,0,0⟩
def Cf (s:Bk):Bool:=CT s.id s.label s.clear s.prog
def IN (s:Bk):Ai × Int:=if Cf s=true then (Cb s,0) else (Cb ⟨0,0,0,[]⟩,1100)
def AW (s:Aq):Ad:=⟨Cc s.words,⟨0,0,0,0⟩,s.ceil,s.starts.map Cb,[]⟩
def DG (s:Aq):Ad × Int:=if (BV s.words&&s.starts.all Cf&&CN (AW s))=true then (AW s,0) else (Az,1200)
theorem IW {s:Aq} (h:CK s):SmM (AW s):=by
 obtain ⟨b0,b1,b2,b3,bst,bsl,p⟩:=h
 refine ⟨by simp [AW,Cc];omega,by simp [AW,Cc];omega,by simp [AW,Cc];omega,by simp [AW,Cc];omega,by simp [AW];omega,by simp [AW],?_⟩
 intro x hx
 simp only [AW,List.mem_map] at hx
 obtain ⟨y,hy,rfl⟩:=hx
 have:=p y hy
 exact ⟨by simp only [Cb];omega,by simp [Cb],by simp [Cb]⟩
end Ve
namespace Ve
open Go
theorem Hg {ws ws':A4 (List Ap)} (h0:ws'.a0.length=ws.a0.length) (h1:ws'.a1.length=ws.a1.length) (h2:ws'.a2.length=ws.a2.length) (h3:ws'.a3.length=ws.a3.length) (l i:Int):Bb ws' l i=Bb ws l i:=by
 have:(ws'.get l).length=(ws.get l).length:=by
  simp only [A4.get];split
  ·exact h0
  ·split
   ·exact h1
   ·split
    ·exact h2
    ·exact h3
 simp only [Bb,this]
theorem FW {ws ws':A4 (List Ap)} (h:∀ l i,Bb ws' l i=Bb ws l i) (s:Ai):BW ws' s=BW ws s:=by
 simp only [BW,AJ,CC,Er,h]
def KM:Option Int→List Int→Bool
 | _,[]=>true
 | none,s::t=>KM (some s) t
 | some v,s::t=>decide (v<s)&&KM (some s) t
theorem Ms:∀ (l:List Ai) (o:Option Int),EY o l=KM o (l.map (·.id))
 | [],o=>by cases o<;>rfl
 | a::l,none=>by simp only [EY,List.map_cons,KM];exact Ms l _
 | a::l,some v=>by simp only [EY,List.map_cons,KM];rw [Ms l]
theorem Ww {l:List Ai} {k:Nat} {s s':Ai} (hs:l[k]?=some s) (h:s'.id=s.id):(l.set k s').map (·.id)=l.map (·.id):=by
 rw [List.map_set,h]
 apply List.ext_getElem?
 intro i
 rw [List.getElem?_set]
 split
 ·rename_i e;subst e
  have hl:=Ax hs
  have:l[k]=s:=by rw [List.getElem?_eq_getElem hl] at hs;exact Option.some.inj hs
  simp [hl,this]
 ·rfl
structure SP (ws:A4 (List Ap)) (s:Ai):Prop where
 id:inR s.id 254=true
 label:inR s.label 3=true
 clear:inR s.clear 3=true
 Aj:Aj s.label s.clear=true
 prog:HC s.prog=true
 reads:AQ s.reads=true
 writes:AX s.writes=true
 rthere:AJ ws s.reads=true
 wthere:CC ws s.writes=true
 pthere:Er ws s.prog=true
 pc:inR s.pc s.prog.length=true
 at_:inR s.at_ s.writes.length=true
 step:inR s.step 6=true
 result:inR s.result 5=true
 regs:Dl s.regs=true
 stamp:inR s.stamp 65535=true
 tries:inR s.tries 65535=true
 told:inR s.told 255=true
theorem sp (ws:A4 (List Ap)) (s:Ai):BW ws s=true↔SP ws s:=by
 simp only [BW,CT,Bool.and_eq_true]
 constructor
 ·rintro ⟨⟨⟨⟨⟨⟨⟨⟨⟨⟨a,b⟩,c⟩,d⟩,e⟩,⟨⟨⟨f,g⟩,h⟩,i⟩,j⟩,⟨⟨k,l⟩,m⟩,n⟩,o⟩,p⟩,q⟩,r⟩
  exact ⟨a,b,c,d,e,f,g,h,i,j,k,l,m,n,o,p,q,r⟩
 ·rintro ⟨a,b,c,d,e,f,g,h,i,j,k,l,m,n,o,p,q,r⟩
  exact ⟨⟨⟨⟨⟨⟨⟨⟨⟨⟨a,b⟩,c⟩,d⟩,e⟩,⟨⟨⟨f,g⟩,h⟩,i⟩,j⟩,⟨⟨k,l⟩,m⟩,n⟩,o⟩,p⟩,q⟩,r⟩
structure Bt (m:Ad):Prop where
 arena:AT m.words=true
 ceil:inR m.ceil 65535=true
 clocks:m.clocks.all (fun c=>inR c m.ceil)=true
 sl:m.sess.length≤4
 tl:m.trace.length≤512
 ids:KM none (m.sess.map (·.id))=true
 sess:∀ s∈m.sess,BW m.words s=true
 trace:∀ e∈m.trace,inR e.label 3=true
theorem Nv (m:Ad):CN m=true↔Bt m:=by
 simp only [CN,Bool.and_eq_true,decide_eq_true_eq,List.all_eq_true,Ms]
 constructor
 ·rintro ⟨⟨⟨⟨⟨⟨⟨a,b⟩,c⟩,d⟩,e⟩,f⟩,g⟩,h⟩
  exact ⟨a,b,c,d,e,f,g,h⟩
 ·rintro ⟨a,b,c,d,e,f,g,h⟩
  exact ⟨⟨⟨⟨⟨⟨⟨a,b⟩,c⟩,d⟩,e⟩,f⟩,g⟩,h⟩
theorem Ke {m:Ad} (h:Bt m) {e:AY} (he:inR e.label 3=true):Bt (Ba m e):=by
 unfold Ba
 split
 ·rename_i hl
  refine ⟨h.arena,h.ceil,h.clocks,h.sl,by simp;omega,h.ids,h.sess,?_⟩
  intro x hx
  rcases List.mem_append.1 hx with hx | hx
  ·exact h.trace x hx
  ·simp only [List.mem_singleton] at hx;subst hx;exact he
 ·exact h
theorem HZ {m:Ad} (h:Bt m) {k:Nat} {s s':Ai} (hs:m.sess[k]?=some s) (hid:s'.id=s.id) (hm:SP m.words s'):Bt (AE m k s'):=by
 refine ⟨h.arena,h.ceil,h.clocks,by simpa [AE] using h.sl,h.tl,?_,?_,h.trace⟩
 ·simp only [AE];rw [Ww hs hid];exact h.ids
 ·intro x hx
  simp only [AE] at hx
  rcases List.mem_or_eq_of_mem_set hx with hx | rfl
  ·exact h.sess x hx
  ·exact (sp _ _).2 hm
theorem RE {w:Ap} (c:Int) (h:AO w=true):AO (As c w)=true:=by
 unfold As
 split
 ·simp only [AO,Bool.and_eq_true] at h ⊢
  exact ⟨h.1,by decide⟩
 ·exact h
theorem HB {l:List Ap} (c:Int) (h:Cv l=true):Cv (l.map (As c))=true:=by
 simp only [Cv,Bool.and_eq_true,List.length_map,List.all_eq_true] at h ⊢
 refine ⟨h.1,?_⟩
 intro x hx
 obtain ⟨y,hy,rfl⟩:=List.mem_map.1 hx
 exact RE c (h.2 y hy)
theorem OF {m:Ad} (h:Bt m) {ws:A4 (List Ap)} (ha:AT ws=true) (h0:ws.a0.length=m.words.a0.length) (h1:ws.a1.length=m.words.a1.length) (h2:ws.a2.length=m.words.a2.length) (h3:ws.a3.length=m.words.a3.length):Bt { m with words:=ws } :=
 ⟨ha,h.ceil,h.clocks,h.sl,h.tl,h.ids,fun s hs=>by rw [FW (fun l i=>Hg h0 h1 h2 h3 l i)];exact h.sess s hs,h.trace⟩
theorem Qt {m:Ad} (h:Bt m) (c:Int):Bt (BC c m):=by
 refine OF h ?_ (by simp) (by simp) (by simp) (by simp)
 have:=h.arena
 simp only [AT,A4.all,Bool.and_eq_true] at this ⊢
 exact ⟨⟨⟨HB c this.1.1.1,HB c this.1.1.2⟩,HB c this.1.2⟩,HB c this.2⟩
theorem bQ:AQ []=true:=by decide
theorem NV:AX []=true:=by decide
theorem YZ {ws:A4 (List Ap)} {s:Ai} (h:SP ws s):SP ws (DH s) :=
 { h with reads:=bQ,writes:=NV,rthere:=rfl,wthere:=rfl,at_:=by simp [DH,inR],stamp:=by rfl }
theorem AL {x c:Int}:inR x c=true↔0≤x∧x≤c:=by simp [inR]
theorem Be {a:Int} (h1:0≤a) (h2:a≤9000000000000000000):IntKind.wrap .i64 a=a:=HQ (by omega) (by omega)
theorem tE {t:Int} (h:inR t 65535=true):inR (Kn t) 65535=true:=by
 rw [AL] at h
 unfold Kn
 rw [Be (by omega) (by omega)]
 split
 ·decide
 ·rw [AL];omega
theorem fR {ws:A4 (List Ap)} {s:Ai} (h:SP ws s):SP ws (BJ s) :=
 { YZ h with pc:=by simp [BJ,inR],regs:=by rfl,step:=by rfl,tries:=tE h.tries }
theorem a1x {ws:A4 (List Ap)} {s:Ai} (h:SP ws s) {r t:Int} (hr:inR r 5=true) (ht:inR t 255=true):SP ws (Gp s r t) :=
 { YZ h with step:=by rfl,result:=hr,told:=ht }
theorem YY {m:Ad} {s:Ai} (c:Int):SP (BC c m).words s↔SP m.words s:=by
 rw [← sp,← sp,FW (ws:=m.words) (ws':=(BC c m).words) (fun l i=>Hg (by simp [BC]) (by simp [BC]) (by simp [BC]) (by simp [BC]) l i)]
theorem Su {m:Ad} {k:Nat} (h:Bt m) (hk:k<m.sess.length):BT m k=true:=by
 simp only [BT,Bool.and_eq_true,decide_eq_true_eq]
 exact ⟨⟨(Nv m).2 h,by omega⟩,by omega⟩
theorem FK (m:Ad) (at_:Int):BT m at_=false∨∃ k s,at_=(k:Nat)∧m.sess[k]?=some s∧Bt m∧SP m.words s:=by
 cases h:BT m at_ with
 | false=>exact .inl rfl
 | true =>
  obtain ⟨s,k,rfl,hs,hk⟩:=Jw h
  have hm:=lO h
  exact .inr ⟨k,s,rfl,hs,(Nv m).1 hm,(sp _ _).1 (kD hm hs)⟩
def Ek (m:Ad) (k:Nat) (s:Ai) (kind:Int):Ad:=Ba (AE (BC (s.id+1) m) k (BJ s)) ⟨s.id,s.label,kind,Kn s.tries⟩
def EJ (m:Ad) (k:Nat) (s:Ai) (r t:Int):Ad:=Ba (AE (BC (s.id+1) m) k (Gp s r t)) ⟨s.id,s.label,6,r⟩
theorem ZS {i:Int} (h:inR i 254=true):IntKind.wrap .i64 (i+1)=i+1:=by
 rw [AL] at h;exact Be (by omega) (by omega)
theorem Gh {m:Ad} {k:Nat} {s:Ai} (hs:m.sess[k]?=some s) (hm:Bt m) {kind:Int} (hk:kind=3∨kind=5):BK m k kind=(Ek m k s kind,0):=by
 have h:=(sp _ _).1 (hm.sess s (List.mem_of_getElem? hs))
 have h1:(BT m k&&(decide (kind=3)||decide (kind=5)))=true:=by
  rw [Su hm (Ax hs)];rcases hk with rfl | rfl<;>rfl
 simp only [BK,h1,if_true,Int.toNat_natCast,hs,Ek,ZS h.id]
theorem Gn {m:Ad} {k:Nat} {s:Ai} (hs:m.sess[k]?=some s) (hm:Bt m) {r t:Int} (hr:inR r 5=true) (ht:inR t 255=true):CX m k r t=(EJ m k s r t,0):=by
 have h:=(sp _ _).1 (hm.sess s (List.mem_of_getElem? hs))
 have h1:(BT m k&&inR r 5&&inR t 255)=true:=by
  rw [Su hm (Ax hs),hr,ht];rfl
 simp only [CX,h1,if_true,Int.toNat_natCast,hs,EJ,ZS h.id]
theorem DL (m:Ad) (e:AY):(Ba m e).sess=m.sess:=by unfold Ba;split<;>rfl
theorem Dw (m:Ad) (e:AY):(Ba m e).words=m.words:=by unfold Ba;split<;>rfl
theorem FU (m:Ad) (e:AY):(Ba m e).clocks=m.clocks:=by unfold Ba;split<;>rfl
theorem EV (m:Ad) (e:AY):(Ba m e).ceil=m.ceil:=by unfold Ba;split<;>rfl
theorem KD (m:Ad) (e:AY):(Ba m e).trace=if m.trace.length<512 then m.trace++[e] else m.trace:=by unfold Ba;split<;>rfl
theorem NB {m:Ad} {k:Nat} {s s':Ai} (hs:m.sess[k]?=some s):(AE m k s').sess[k]?=some s':=by
 simp only [AE];exact List.getElem?_set_self (Ax hs)
theorem Vy {m:Ad} {k:Nat} {s:Ai} (hs:m.sess[k]?=some s) (hm:Bt m) (kind:Int):Bt (Ek m k s kind):=by
 have h:=(sp _ _).1 (hm.sess s (List.mem_of_getElem? hs))
 exact Ke (HZ (Qt hm _) (s:=s) (s':=BJ s) hs rfl (YY _ |>.2 (fR h))) h.label
theorem QW {m:Ad} {k:Nat} {s:Ai} (hs:m.sess[k]?=some s) (hm:Bt m) {r t:Int} (hr:inR r 5=true) (ht:inR t 255=true):Bt (EJ m k s r t):=by
 have h:=(sp _ _).1 (hm.sess s (List.mem_of_getElem? hs))
 exact Ke (HZ (Qt hm _) (s:=s) (s':=Gp s r t) hs rfl (YY _ |>.2 (a1x h hr ht))) h.label
theorem Km {m:Ad} {k:Nat} {s:Ai} (kind:Int):(Ek m k s kind).sess=m.sess.set k (BJ s):=by rw [Ek,DL];rfl
theorem KN {m:Ad} {k:Nat} {s:Ai} (r t:Int):(EJ m k s r t).sess=m.sess.set k (Gp s r t):=by rw [EJ,DL];rfl
theorem UC (c:Int) (w:Ap):As c (As c w)=As c w:=by
 unfold As
 by_cases h:w.lock=c
 ·simp only [h,if_true]
  split<;>rfl
 ·simp only [h,if_false]
theorem WM (c:Int) (m:Ad):(BC c (BC c m)).words=(BC c m).words:=by
 have:∀ l:List Ap,(l.map (As c)).map (As c)=l.map (As c):=fun l=>by simp [UC]
 simp only [BC,this]
theorem IG {m:Ad} {k:Nat} {s:Ai} (kind:Int):(Ek m k s kind).words=(BC (s.id+1) m).words:=by rw [Ek,Dw];rfl
theorem Vz {m:Ad} {k:Nat} {s:Ai} (kind:Int):(Ek m k s kind).clocks=m.clocks:=by rw [Ek,FU];rfl
theorem RA {m:Ad} {k:Nat} {s:Ai} (kind:Int):(Ek m k s kind).ceil=m.ceil:=by rw [Ek,EV];rfl
theorem Nl {m:Ad} {k:Nat} {s:Ai} (r t:Int):(EJ m k s r t).words=(BC (s.id+1) m).words:=by rw [EJ,Dw];rfl
theorem WO {m:Ad} {k:Nat} {s:Ai} (r t:Int):(EJ m k s r t).ceil=m.ceil:=by rw [EJ,EV];rfl
theorem kE {a b:Ad} (h1:a.words=b.words) (h2:a.clocks=b.clocks) (h3:a.ceil=b.ceil) (h4:a.sess=b.sess) (h5:a.trace=b.trace):a=b:=by
 cases a;cases b;simp_all
theorem twice {m:Ad} {k:Nat} {s:Ai} (hs:m.sess[k]?=some s) (kind:Int):({ Ek (Ek m k s kind) k (BJ s) kind with sess:=((Ek (Ek m k s kind) k (BJ s) kind).sess).set k { BJ (BJ s) with tries:=(BJ s).tries },trace:=(Ek m k s kind).trace }:Ad)=Ek m k s kind:=by
 have hid:(BJ s).id=s.id:=rfl
 have e1:(Ek (Ek m k s kind) k (BJ s) kind).words=(Ek m k s kind).words:=by
  rw [IG,hid]
  show (BC (s.id+1) (Ek m k s kind)).words=_
  have:(BC (s.id+1) (Ek m k s kind)).words=(BC (s.id+1) (BC (s.id+1) m)).words:=by
   simp only [BC,IG]
  rw [this,WM,IG]
 have e2:((Ek (Ek m k s kind) k (BJ s) kind).sess).set k { BJ (BJ s) with tries:=(BJ s).tries }=(Ek m k s kind).sess:=by
  rw [Km,Km]
  simp only [List.set_set]
  rfl
 refine kE e1 ?_ ?_ e2 rfl
 ·show (Ek (Ek m k s kind) k (BJ s) kind).clocks=_
  rw [Vz]
 ·show (Ek (Ek m k s kind) k (BJ s) kind).ceil=_
  rw [RA]
end Ve
namespace Ve
open Go
theorem Kk {L:Lay} {t:TypeId} {k:IntKind} {a b:Int} (h:b≠0):BO L .rem t (.lit (.int k a)) (.lit (.int k b))=some (.lit (.int k (a.tmod b))):=by
 simp [BO,binOp,Op.intDiv,h,Jk];rfl
theorem SV {L:Lay} {t:TypeId} {k j:IntKind} {a b:Int} (h:¬ b<0):BO L .shr t (.lit (.int k a)) (.lit (.int j b))=some (.lit (.int k (a.fdiv (2 ^ min b.toNat k.bits)))):=by
 simp [BO,binOp,Op.shift,h,Jk];rfl
def uW (a:Int):Int:=IntKind.wrap .u64 a
theorem VK (a:Int):0≤uW a:=by
 have e1:(2 ^ IntKind.bits .u64:Int)=18446744073709551616:=by decide
 simp only [uW,IntKind.wrap,IntKind.signed,Bool.false_and,Bool.false_eq_true,if_false,e1]
 omega
theorem Wd {a b:Int} (ha:0≤a) (hb:0<b):0≤a.tmod b∧a.tmod b≤b - 1:=by
 rw [Int.tmod_eq_emod_of_nonneg ha]
 have h1:=Int.emod_nonneg a (show b≠0 by omega)
 have h2:=Int.emod_lt_of_pos a hb
 omega
theorem a8r (a:Int) {b:Int} (hb:0<b) (hb':b≤1000000):IntKind.wrap .i64 ((IntKind.wrap .u64 a).tmod b)=(uW a).tmod b:=by
 have:=Wd (VK a) hb
 exact Be (by show 0≤(uW a).tmod b;omega) (by show (uW a).tmod b≤_;omega)
end Ve
namespace Ve
open Go
theorem IT {k:IntKind} {a:Int}:cL .neg (.lit (.int k a))=some (.lit (.int k (k.wrap (0 - a)))):=rfl
theorem GO (a:Int) (c:Nat) (hc:c≤1000000):inR (DS a c) c=true:=by
 have h:(BitVec.ofInt 64 a &&& BitVec.ofInt 64 (c:Int)).toNat≤c:=by
  have:(BitVec.ofInt 64 (c:Int)).toNat=c:=by
   rw [BitVec.toNat_ofInt,show ((2 ^ 64:Nat):Int)=18446744073709551616 from rfl]
   omega
  rw [BitVec.toNat_and,this];exact Nat.and_le_right
 unfold DS
 rw [Be (by omega) (by omega),AL]
 omega
end Ve
namespace Ve
open Go
theorem AA {thr:Nat} {live:List Nat} {f:St→(Out→St→Option Ans)→Option Ans} {q:Out→St→Option Ans} {k:Nat} {s s':St} {Q:V→Hp→Nat→Prop} {u:Dum f} {w:Dum q} (e:OA thr live s'=OA thr live s):GL thr live f q k s' Q u w=GL thr live f q k s Q u w:=by
 cases k with
 | zero=>rfl
 | succ k =>
  rw [gLs,gLs]
  simp only [GN,Hr]
  rw [e]
end Ve
namespace Ve
open Go
def AP (x:AR):Bool:=inR x.level 3&&inR x.pick 255
def EZ (l:Int) (s:Ai):Bool:=decide (s.label=l)&&!decide (s.step=6)
def BR (l:Int):Nat→List Ai→List Nat
 | _,[]=>[]
 | k,s::r=>if EZ l s=true then k::BR l (k+1) r else BR l (k+1) r
def IM (m:Ad) (l:Int):List Nat:=BR l 0 m.sess
def CM (m:Ad) (x:AR):Int × Bool × Int :=
 if (CN m&&AP x)=true then
  match (IM m x.level)[x.pick.toNat % (IM m x.level).length]? with
  | some k=>((k:Nat),true,0)
  | none=>(0,false,0)
 else (0,false,2400)
def Bl (m:Ad) (x:AR):Ad × Int :=
 if (CM m x).2.2=0 then
  if (CM m x).2.1=true then (if (Cm m (CM m x).1).2=0 then ((Cm m (CM m x).1).1,0) else (Az,2400)) else (m,0)
 else (Az,2400)
def Bh:Ad→List AR→Ad × Int
 | m,[]=>(m,0)
 | m,x::r=>if (Bl m x).2=0 then Bh (Bl m x).1 r else (Az,2500)
def Au (s:Aq):Bool:=decide ((DG s).2=0)&&decide (s.slots.length≤256)&&s.slots.all AP
def Bq (s:Aq):Ad × Int:=if Au s=true then Bh (DG s).1 s.slots else (Az,2500)
def Bo (g l:Int) (row:List Int):List Int:=if Aj g l=true then row else row.map fun _=>0
def Gj:Aq:=⟨⟨[],[],[],[]⟩,0,[],[]⟩
def Bc (s:Aq) (l:Int):Aq:=⟨⟨Bo 0 l s.words.a0,Bo 1 l s.words.a1,Bo 2 l s.words.a2,Bo 3 l s.words.a3⟩,s.ceil,s.starts.filter fun x=>Aj x.label l,s.slots.filter fun x=>Aj x.level l⟩
def Cr (s:Aq) (l:Int):Aq × Int:=if (Au s&&inR l 3)=true then (Bc s l,0) else (Gj,2500)
def Jc {α:Type} (g l:Int) (row:List α):List α:=if Aj g l=true then row else []
def Lc (g l:Int) (c:Int):Int:=if Aj g l=true then c else 0
def Bf (m:Ad) (l:Int):Ad:=⟨⟨Jc 0 l m.words.a0,Jc 1 l m.words.a1,Jc 2 l m.words.a2,Jc 3 l m.words.a3⟩,⟨Lc 0 l m.clocks.a0,Lc 1 l m.clocks.a1,Lc 2 l m.clocks.a2,Lc 3 l m.clocks.a3⟩,m.ceil,m.sess.filter fun x=>Aj x.label l,m.trace.filter fun x=>Aj x.label l⟩
def Dh (m:Ad) (l:Int):Ad × Int:=if (CN m&&inR l 3)=true then (Bf m l,0) else (Az,2500)
end Ve
namespace Ve
open Go
abbrev plW (w:Ao):Int:=AH w.level w.index
theorem Mh:∀ (l:List Ao) (o:Option Ao),Bd o l=true→(∀ w∈l,AF w=true)∧l.Pairwise (fun a b=>plW a<plW b)∧(∀ v,o=some v→∀ w∈l,plW v<plW w)
 | [],o,_=>⟨by simp,List.Pairwise.nil,by simp⟩
 | a::l,none,h=>by
  simp only [Bd,Bool.and_eq_true] at h
  obtain ⟨h1,h2,h3⟩:=Mh l _ h.2
  refine ⟨fun w hw=>?_,List.pairwise_cons.2 ⟨fun w hw=>h3 a rfl w hw,h2⟩,fun v hv=>by cases hv⟩
  rcases List.mem_cons.1 hw with rfl | hw
  ·exact h.1
  ·exact h1 w hw
 | a::l,some v,h=>by
  simp only [Bd,Bool.and_eq_true,decide_eq_true_eq] at h
  obtain ⟨h1,h2,h3⟩:=Mh l _ h.2
  refine ⟨fun w hw=>?_,List.pairwise_cons.2 ⟨fun w hw=>h3 a rfl w hw,h2⟩,fun v' hv w hw=>?_⟩
  ·rcases List.mem_cons.1 hw with rfl | hw
   ·exact h.1.1
   ·exact h1 w hw
  ·cases hv
   rcases List.mem_cons.1 hw with rfl | hw
   ·exact h.1.2
   ·have:=h3 a rfl w hw
    have:=h.1.2
    simp only [plW] at *
    omega
theorem Cz {l:List Ao} (h:AX l=true):(∀ w∈l,AF w=true)∧l.Pairwise (fun a b=>plW a<plW b)∧l.length≤16:=by
 simp only [AX,Bool.and_eq_true,decide_eq_true_eq] at h
 obtain ⟨h1,h2,_⟩:=Mh l none h.1
 exact ⟨h1,h2,h.2⟩
theorem Io:∀ (l:List Ao) (o:Option Ao),(∀ w∈l,AF w=true)→l.Pairwise (fun a b=>plW a<plW b)→(∀ v,o=some v→∀ w∈l,plW v<plW w)→Bd o l=true
 | [],o,_,_,_=>by cases o<;>rfl
 | a::l,none,h1,h2,h3=>by
  obtain ⟨g1,g2⟩:=List.pairwise_cons.1 h2
  simp only [Bd,Bool.and_eq_true]
  exact ⟨h1 a (by simp),Io l _ (fun w hw=>h1 w (by simp [hw])) g2 (fun v hv w hw=>by cases hv;exact g1 w hw)⟩
 | a::l,some v,h1,h2,h3=>by
  obtain ⟨g1,g2⟩:=List.pairwise_cons.1 h2
  simp only [Bd,Bool.and_eq_true,decide_eq_true_eq]
  exact ⟨⟨h1 a (by simp),h3 v rfl a (by simp)⟩,Io l _ (fun w hw=>h1 w (by simp [hw])) g2 (fun v hv w hw=>by cases hv;exact g1 w hw)⟩
def geW (w x:Ao):Bool:=decide (plW w≤plW x)
def Hl (w:Ao) (l:List Ao):List Ao:=if l.any (geW w)=true then Dj w l else l
theorem NL (w:Ao) (r:List Ao):∀ (l:List Ao),l.any (geW w)=false→Dj w (l++r)=l++Dj w r
 | [],_=>rfl
 | a::l,h=>by
  simp only [List.any_cons,Bool.or_eq_false_iff,geW,decide_eq_false_iff_not] at h
  simp only [List.cons_append,Dj]
  rw [if_pos (by simp only [plW] at h;omega),NL w r l (by simpa [geW] using h.2)]
theorem Ur (w x:Ao):∀ (l:List Ao),l.any (geW w)=true→Dj w (l++[x])=Dj w l++[x]
 | [],h=>by simp at h
 | a::l,h=>by
  simp only [List.cons_append,Dj]
  split
  ·rename_i hlt
   have:l.any (geW w)=true:=by
    simp only [List.any_cons,Bool.or_eq_true] at h
    rcases h with h | h
    ·simp only [geW,decide_eq_true_eq,plW] at h;omega
    ·exact h
   rw [Ur w x l this];rfl
  ·split<;>rfl
theorem TR {w x:Ao} {l:List Ao} (h:l.any (geW w)=false) (hx:plW x<plW w):Hl w (l++[x])=l++[x]∧(l++[x]).any (geW w)=false:=by
 have:(l++[x]).any (geW w)=false:=by
  rw [List.any_append,h,Bool.false_or]
  simp only [List.any_cons,List.any_nil,Bool.or_false,geW,decide_eq_false_iff_not];omega
 exact ⟨by simp only [Hl,this];rfl,this⟩
theorem Zo {w x:Ao} {l:List Ao} (h:l.any (geW w)=false) (hx:plW w<plW x):Hl w (l++[x])=(l++[w])++[x]∧(l++[x]).any (geW w)=true:=by
 have:(l++[x]).any (geW w)=true:=by
  rw [List.any_append,h,Bool.false_or]
  simp only [List.any_cons,List.any_nil,Bool.or_false,geW,decide_eq_true_eq];omega
 refine ⟨?_,this⟩
 simp only [Hl,this,if_true,NL w [x] l h,Dj]
 rw [if_neg (by simp only [plW] at hx;omega),if_neg (by simp only [plW] at hx;omega)]
 simp
theorem TS {w x:Ao} {l:List Ao} (h:l.any (geW w)=false) (hx:plW x=plW w):Hl w (l++[x])=l++[w]∧(l++[x]).any (geW w)=true:=by
 have:(l++[x]).any (geW w)=true:=by
  rw [List.any_append,h,Bool.false_or]
  simp only [List.any_cons,List.any_nil,Bool.or_false,geW,decide_eq_true_eq];omega
 refine ⟨?_,this⟩
 simp only [Hl,this,if_true,NL w [x] l h,Dj]
 rw [if_neg (by simp only [plW] at hx;omega),if_pos (by simp only [plW] at hx;omega)]
theorem jF {w x:Ao} {l:List Ao} (h:l.any (geW w)=true):Hl w (l++[x])=Hl w l++[x]∧(l++[x]).any (geW w)=true:=by
 have:(l++[x]).any (geW w)=true:=by rw [List.any_append,h,Bool.true_or]
 exact ⟨by simp only [Hl,this,h,if_true,Ur w x l h],this⟩
theorem sL {w:Ao} {l:List Ao}:Dj w l=if l.any (geW w)=true then Hl w l else l++[w]:=by
 split
 ·rename_i h;simp only [Hl,h,if_true]
 ·rename_i h
  have:=NL w [] l (by simpa using h)
  simpa [Dj] using this
theorem a6o {w x:Ao} {l:List Ao} (h:l.any (geW w)=true) (hs:∀ y∈l,plW y<plW x):plW w<plW x:=by
 obtain ⟨y,hy,hge⟩:=List.any_eq_true.1 h
 simp only [geW,decide_eq_true_eq] at hge
 have:=hs y hy
 omega
theorem sJ (w:Ao) (l:List Ao):(Hl w l).length≤l.length+1:=by
 have:∀ l:List Ao,(Dj w l).length≤l.length+1:=by
  intro l
  induction l with
  | nil=>simp [Dj]
  | cons a l ih =>
   simp only [Dj]
   split
   ·simp only [List.length_cons];omega
   ·split<;>simp
 simp only [Hl];split
 ·exact this l
 ·omega
end Ve
namespace Ve
open Go
def CF (t:Int):List Ao→Nat
 | []=>0
 | x::r=>if plW x<t then CF t r+1 else 0
theorem RZ (t:Int):∀ l,CF t l≤l.length
 | []=>Nat.le_refl _
 | x::r=>by
  have:=RZ t r
  simp only [CF]
  split<;>simp<;>omega
theorem iE (t:Int):∀ (l:List Ao) (j:Nat) (w:Ao),j<CF t l→l[j]?=some w→plW w<t
 | [],j,w,h,_=>by simp [CF] at h
 | x::r,j,w,h,hw=>by
  simp only [CF] at h
  split at h
  ·rename_i hx
   cases j with
   | zero=>simp only [List.getElem?_cons_zero,Option.some.injEq] at hw;subst hw;exact hx
   | succ j=>exact iE t r j w (by omega) (by simpa using hw)
  ·omega
theorem iF (t:Int):∀ (l:List Ao),l.Pairwise (fun a b=>plW a<plW b)→∀ (j:Nat) (w:Ao),CF t l≤j→l[j]?=some w→t≤plW w
 | [],_,j,w,_,hw=>by simp at hw
 | x::r,hp,j,w,h,hw=>by
  obtain ⟨h1,h2⟩:=List.pairwise_cons.1 hp
  simp only [CF] at h
  split at h
  ·cases j with
   | zero=>omega
   | succ j=>exact iF t r h2 j w (by omega) (by simpa using hw)
  ·rename_i hx
   cases j with
   | zero=>simp only [List.getElem?_cons_zero,Option.some.injEq] at hw;subst hw;omega
   | succ j =>
    have:=h1 w (List.mem_of_getElem? (by simpa using hw))
    omega
theorem ZZ (lv ix:Int):∀ l:List Ao,(∀ w∈l,AH lv ix<plW w)→BD lv ix l=(0,false)
 | [],_=>rfl
 | x::r,h=>by
  have hx:=h x (by simp)
  have hn:¬ (x.level=lv∧x.index=ix):=by
   rintro ⟨rfl,rfl⟩
   simp only [plW] at hx
   omega
  simp only [BD,hn,if_false]
  exact ZZ lv ix r (fun w hw=>h w (by simp [hw]))
theorem iL {w:Ao} (h:AF w=true) {lv ix:Int} (h2:inR ix 3=true):plW w=AH lv ix↔w.level=lv∧w.index=ix:=by
 simp only [AF,Bool.and_eq_true,AL] at h
 rw [AL] at h2
 simp only [plW,AH]
 constructor
 ·intro e;omega
 ·rintro ⟨rfl,rfl⟩;rfl
theorem UF {lv ix:Int} (h2:inR ix 3=true):∀ l:List Ao,(∀ w∈l,AF w=true)→l.Pairwise (fun a b=>plW a<plW b) →
  BD lv ix l=match l[CF (AH lv ix) l]? with
   | some w=>if plW w=AH lv ix then (w.val,true) else (0,false)
   | none=>(0,false)
 | [],_,_=>rfl
 | x::r,hw,hp=>by
  obtain ⟨h3,h4⟩:=List.pairwise_cons.1 hp
  have he:=iL (hw x (by simp)) (lv:=lv) h2
  simp only [CF]
  by_cases hx:plW x<AH lv ix
  ·have hn:¬ (x.level=lv∧x.index=ix):=by rw [← he];omega
   simp only [BD,hn,if_false,hx,if_true,List.getElem?_cons_succ]
   exact UF h2 r (fun w h=>hw w (by simp [h])) h4
  ·simp only [hx,if_false,List.getElem?_cons_zero]
   by_cases hq:plW x=AH lv ix
   ·simp only [BD,he.1 hq,and_self,if_true,hq]
   ·have hn:¬ (x.level=lv∧x.index=ix):=by rw [← he];exact hq
    simp only [BD,hn,if_false,hq]
    exact ZZ lv ix r (fun w h=>by have:=h3 w h;omega)
theorem Sp (w:Ao):∀ l:List Ao,Dj w l=l.take (CF (plW w) l)++w::(match l[CF (plW w) l]? with
   | some x=>if plW x=plW w then l.drop (CF (plW w) l+1) else l.drop (CF (plW w) l)
   | none=>[])
 | []=>rfl
 | x::r=>by
  simp only [Dj,CF]
  by_cases hx:plW x<plW w
  ·have hx':AH x.level x.index<AH w.level w.index:=hx
   simp only [hx',if_true,List.take_succ_cons,List.getElem?_cons_succ,List.drop_succ_cons,List.cons_append]
   rw [Sp w r]
  ·have hx':¬ AH x.level x.index<AH w.level w.index:=hx
   simp only [hx',if_false,List.take_zero,List.getElem?_cons_zero,List.nil_append,List.drop_zero,Nat.zero_add,List.drop_succ_cons]
   by_cases hq:plW x=plW w
   ·have hq':AH x.level x.index=AH w.level w.index:=hq
    simp only [hq',if_true]
   ·have hq':¬ AH x.level x.index=AH w.level w.index:=hq
    simp only [hq',if_false]
end Ve
namespace Ve
open Go
inductive At (m:Ad) (at_:Int):Prop
 | no (h:BT m at_=false)
 | off (k:Nat) (s:Ai) (e:at_=(k:Nat)) (hs:m.sess[k]?=some s) (hM:Bt m) (hS:SP m.words s) (hst:s.step≠0)
 | fin (k:Nat) (s:Ai) (e:at_=(k:Nat)) (hs:m.sess[k]?=some s) (hM:Bt m) (hS:SP m.words s) (hst:s.step=0) (hp:s.pc=(s.prog.length:Int))
 | on (k n:Nat) (s:Ai) (i:AI) (e:at_=(k:Nat)) (hs:m.sess[k]?=some s) (hM:Bt m) (hS:SP m.words s) (hst:s.step=0) (hp:s.pc=(n:Int)) (hn:n<s.prog.length) (hi:s.prog[n]?=some i)
theorem Ej (m:Ad) (at_:Int):At m at_:=by
 rcases FK m at_ with h | ⟨k,s,e,hs,hM,hS⟩
 ·exact .no h
 ·by_cases hst:s.step=0
  ·have hp:=AL.1 hS.pc
   by_cases hpl:s.pc=(s.prog.length:Int)
   ·exact .fin k s e hs hM hS hst hpl
   ·have hn:s.pc.toNat<s.prog.length:=by omega
    exact .on k s.pc.toNat s s.prog[s.pc.toNat] e hs hM hS hst (by omega) hn (by simp [hn])
  ·exact .off k s e hs hM hS hst
theorem Bs {m:Ad} {k:Nat} {s:Ai} (hs:m.sess[k]?=some s) (hM:Bt m):BT m k=true:=Su hM (Ax hs)
theorem Gs {m:Ad} {at_:Int} (h:BT m at_=false):CO m at_=none:=by simp [CO,h]
theorem CL {m:Ad} {k:Nat} {s:Ai} (hs:m.sess[k]?=some s) (hM:Bt m) (h:s.step≠0):CO m k=none:=by
 simp only [CO,Bs hs hM,if_true,Int.toNat_natCast,hs,h,if_false]
theorem EP {m:Ad} {k:Nat} {s:Ai} (hs:m.sess[k]?=some s) (hM:Bt m) (h:s.step=0) (hp:s.pc=(s.prog.length:Int)):CO m k=none:=by
 simp only [CO,Bs hs hM,if_true,Int.toNat_natCast,hs,h,hp,List.getElem?_eq_none (Nat.le_refl _)]
theorem DP {m:Ad} {k n:Nat} {s:Ai} {i:AI} (hs:m.sess[k]?=some s) (hM:Bt m) (h:s.step=0) (hp:s.pc=(n:Int)) (hi:s.prog[n]?=some i):CO m k=some (s,i):=by
 simp only [CO,Bs hs hM,if_true,Int.toNat_natCast,hs,h,hp,hi]
theorem Zj:∀ (l:List AI) (n:Int) (j:Int),Cw n j l=true→∀ (k:Nat) (i:AI),l[k]?=some i→Cj i=true∧(i.code=4→j+k<i.b∧i.b≤n)
 | [],n,j,_,k,i,h=>by simp at h
 | a::l,n,j,hg,k,i,h=>by
  simp only [Cw,Bool.and_eq_true,Bool.not_eq_true',Bool.and_eq_false_iff,Bool.or_eq_false_iff,decide_eq_false_iff_not] at hg
  cases k with
  | zero =>
   simp only [List.getElem?_cons_zero,Option.some.injEq] at h
   subst h
   refine ⟨hg.1.1,fun hc=>?_⟩
   rcases hg.1.2 with h | h
   ·exact absurd hc h
   ·simp only [Int.natCast_zero];omega
  | succ k =>
   have:=Zj l n (j+1) hg.2 k i (by simpa using h)
   refine ⟨this.1,fun hc=>?_⟩
   have:=this.2 hc
   omega
theorem Dk {ws:A4 (List Ap)} {s:Ai} (h:SP ws s) {n:Nat} {i:AI} (hi:s.prog[n]?=some i):Cj i=true∧(i.code=4→(n:Int)<i.b∧i.b≤s.prog.length)∧((i.code=2∨i.code=3)→Bb ws i.b i.c=true):=by
 have hp:=h.prog
 simp only [HC,Bool.and_eq_true] at hp
 obtain ⟨h1,h2⟩:=Zj _ _ _ hp.1 n i hi
 refine ⟨h1,fun hc=>by have:=h2 hc;omega,fun hc=>?_⟩
 have:=h.pthere
 simp only [Er,List.all_eq_true] at this
 have:=this i (List.mem_of_getElem? hi)
 simp only [Bool.or_eq_true,Bool.not_eq_true',HJ,Bool.or_eq_false_iff,decide_eq_false_iff_not] at this
 rcases this with h' | h'
 ·exact absurd hc (by rintro (hc | hc);exact h'.1 hc;exact h'.2 hc)
 ·exact h'
theorem Kg {i:AI} (h:Cj i=true):i.code=0∨i.code=1∨i.code=2∨i.code=3∨i.code=4∨i.code=5∨i.code=6:=by
 unfold Cj at h
 split at h
 ·simp [*]
 split at h
 ·simp [*]
 split at h
 ·rename_i h';rcases h' with h' | h'<;>simp [h']
 split at h
 ·simp [*]
 split at h
 ·simp [*]
 split at h
 ·simp [*]
 ·cases h
theorem Fo {i:AI} (h:Cj i=true) (hc:i.code≠5∧i.code≠6):inR i.a 3=true:=by
 unfold Cj at h
 split at h
 ·simp only [Bool.and_eq_true] at h;exact h.1.1
 split at h
 ·simp only [Bool.and_eq_true] at h;exact h.1.1
 split at h
 ·simp only [Bool.and_eq_true] at h;exact h.1.1
 split at h
 ·simp only [Bool.and_eq_true] at h;exact h.1.1
 split at h
 ·rename_i h5;exact absurd h5 hc.1
 split at h
 ·rename_i h5;exact absurd h5 hc.2
 ·cases h
theorem Mr {i:AI} (h:Cj i=true) (hc:i.code=6):inR i.a 255=true:=by
 unfold Cj at h
 simp only [hc] at h
 simp only [show ((6:Int)=0)=False by decide,show ((6:Int)=1)=False by decide,show ((6:Int)=2∨(6:Int)=3)=False by decide,show ((6:Int)=4)=False by decide,show ((6:Int)=5)=False by decide,if_false,if_true,Bool.and_eq_true] at h
 exact h.1.1
theorem CW {i:AI} (h:Cj i=true) (hc:i.code=2∨i.code=3):inR i.b 3=true∧inR i.c 3=true:=by
 unfold Cj at h
 have h0:¬ i.code=0:=by omega
 have h1:¬ i.code=1:=by omega
 simp only [h0,h1,if_false,hc,if_true,Bool.and_eq_true] at h
 exact ⟨h.1.2,h.2⟩
theorem LG {i:AI} (h:Cj i=true) (hc:i.code=0):inR i.b 255=true:=by
 unfold Cj at h
 simp only [hc,if_true,Bool.and_eq_true] at h
 exact h.1.2
theorem LH {i:AI} (h:Cj i=true) (hc:i.code=1):inR i.b 3=true:=by
 unfold Cj at h
 simp only [hc,show ((1:Int)=0)=False by decide,if_false,if_true,Bool.and_eq_true] at h
 exact h.1.2
inductive Lf (m:Ad) (at_ step:Int):Prop
 | no (h:BT m at_=false)
 | off (k:Nat) (s:Ai) (e:at_=(k:Nat)) (hs:m.sess[k]?=some s) (hM:Bt m) (hS:SP m.words s) (hst:s.step≠step)
 | fin (k:Nat) (s:Ai) (e:at_=(k:Nat)) (hs:m.sess[k]?=some s) (hM:Bt m) (hS:SP m.words s) (hst:s.step=step) (hp:s.at_=(s.writes.length:Int))
 | on (k n:Nat) (s:Ai) (w:Ao) (e:at_=(k:Nat)) (hs:m.sess[k]?=some s) (hM:Bt m) (hS:SP m.words s) (hst:s.step=step) (hp:s.at_=(n:Int)) (hn:n<s.writes.length) (hi:s.writes[n]?=some w)
theorem Ia (m:Ad) (at_ step:Int):Lf m at_ step:=by
 rcases FK m at_ with h | ⟨k,s,e,hs,hM,hS⟩
 ·exact .no h
 ·by_cases hst:s.step=step
  ·have hp:=AL.1 hS.at_
   by_cases hpl:s.at_=(s.writes.length:Int)
   ·exact .fin k s e hs hM hS hst hpl
   ·have hn:s.at_.toNat<s.writes.length:=by omega
    exact .on k s.at_.toNat s s.writes[s.at_.toNat] e hs hM hS hst (by omega) hn (by simp [hn])
  ·exact .off k s e hs hM hS hst
theorem EQ {m:Ad} {at_ st:Int} (h:BT m at_=false):Gt m at_ st=none:=by simp [Gt,h]
theorem CY {m:Ad} {k:Nat} {s:Ai} {st:Int} (hs:m.sess[k]?=some s) (hM:Bt m) (h:s.step≠st):Gt m k st=none:=by
 simp only [Gt,Bs hs hM,if_true,Int.toNat_natCast,hs,h,if_false]
theorem Ct {m:Ad} {k:Nat} {s:Ai} {st:Int} (hs:m.sess[k]?=some s) (hM:Bt m) (h:s.step=st):Gt m k st=some s:=by
 simp only [Gt,Bs hs hM,if_true,Int.toNat_natCast,hs,h]
theorem DM {m:Ad} {at_ st:Int} (h:Gt m at_ st=none):EI m at_ st=none:=by unfold EI;rw [h]
theorem Js {m:Ad} {k:Nat} {s:Ai} {st:Int} (hs:m.sess[k]?=some s) (hM:Bt m) (h:s.step=st) (hp:s.at_=(s.writes.length:Int)):EI m k st=none:=by
 have h1:s.writes[s.at_.toNat]?=none:=by rw [hp];simp
 unfold EI;rw [Ct hs hM h];simp only [h1]
theorem Lu {m:Ad} {k n:Nat} {s:Ai} {w:Ao} {st:Int} (hs:m.sess[k]?=some s) (hM:Bt m) (h:s.step=st) (hp:s.at_=(n:Int)) (hi:s.writes[n]?=some w):EI m k st=some (s,w):=by
 have h1:s.writes[s.at_.toNat]?=some w:=by rw [hp];simpa using hi
 unfold EI;rw [Ct hs hM h];simp only [h1]
theorem JS {ws:A4 (List Ap)} {s:Ai} (h:SP ws s) {n:Nat} {w:Ao} (hi:s.writes[n]?=some w):Bb ws w.level w.index=true∧AF w=true:=by
 have h1:=h.wthere
 simp only [CC,List.all_eq_true] at h1
 exact ⟨h1 w (List.mem_of_getElem? hi),(Cz h.writes).1 w (List.mem_of_getElem? hi)⟩
end Ve
namespace Ve
open Go
theorem GJ:∀ (n:Nat) (l:List Nat),l.Nodup→(∀ x∈l,x<n)→l.length≤n
 | 0,l,_,h=>by
  cases l with
  | nil=>simp
  | cons a l=>have:=h a (by simp);omega
 | n+1,l,hd,h=>by
  have h1:=GJ n (l.erase n) (hd.erase n) (fun x hx=>by
   have h2:=List.mem_of_mem_erase hx
   have h3:=h x h2
   have h4:x≠n:=by
    intro e;subst e
    exact absurd hx (by rw [hd.mem_erase_iff];simp)
   omega)
  rw [List.length_erase] at h1
  split at h1<;>omega
def plR (r:AN):Nat:=(4*r.level+r.index).toNat
theorem TF:∀ (l pre:List AN),Ch pre l=true→(∀ r∈l,CD r=true)∧(l.Pairwise fun a b=>Cu b a=false)∧(∀ p∈pre,∀ r∈l,Cu r p=false)
 | [],pre,_=>⟨by simp,List.Pairwise.nil,by simp⟩
 | a::l,pre,h=>by
  simp only [Ch,Bool.and_eq_true,Bool.not_eq_true'] at h
  obtain ⟨h1,h2,h3⟩:=TF l _ h.2
  have hany:∀ p∈pre,Cu a p=false:=by
   intro p hp
   have:=List.any_eq_false.1 h.1.2 p hp
   simpa using this
  refine ⟨fun r hr=>?_,List.pairwise_cons.2 ⟨fun b hb=>h3 a (by simp) b hb,h2⟩,fun p hp r hr=>?_⟩
  ·rcases List.mem_cons.1 hr with rfl | hr
   ·exact h.1.1
   ·exact h1 r hr
  ·rcases List.mem_cons.1 hr with rfl | hr
   ·exact hany p hp
   ·exact h3 p (by simp [hp]) r hr
theorem MU:∀ (l pre:List AN),(∀ r∈l,CD r=true)→(l.Pairwise fun a b=>Cu b a=false)→(∀ p∈pre,∀ r∈l,Cu r p=false)→Ch pre l=true
 | [],pre,_,_,_=>rfl
 | a::l,pre,h1,h2,h3=>by
  obtain ⟨g1,g2⟩:=List.pairwise_cons.1 h2
  simp only [Ch,Bool.and_eq_true,Bool.not_eq_true']
  refine ⟨⟨h1 a (by simp),List.any_eq_false.2 (fun p hp=>by simpa using h3 p hp a (by simp))⟩,MU l _ (fun r hr=>h1 r (by simp [hr])) g2 (fun p hp r hr=>?_)⟩
  rcases List.mem_append.1 hp with hp | hp
  ·exact h3 p hp r (by simp [hr])
  ·simp only [List.mem_singleton] at hp;subst hp;exact g1 r hr
theorem Ml {l:List AN} (h:AQ l=true):(∀ r∈l,CD r=true)∧(l.Pairwise fun a b=>Cu b a=false)∧l.length≤16:=by
 simp only [AQ,Bool.and_eq_true,decide_eq_true_eq] at h
 obtain ⟨h1,h2,_⟩:=TF l [] h.1
 exact ⟨h1,h2,h.2⟩
theorem Wm {r:AN} (h:CD r=true):plR r<16∧((plR r:Nat):Int)=4*r.level+r.index:=by
 simp only [CD,Bool.and_eq_true,AL] at h
 unfold plR;omega
theorem iM {a b:AN} (ha:CD a=true) (hb:CD b=true) (h:Cu b a=false):plR a≠plR b:=by
 intro e
 have h1:=(Wm ha).2
 have h2:=(Wm hb).2
 simp only [CD,Bool.and_eq_true,AL] at ha hb
 simp only [Cu,Bool.and_eq_false_iff,decide_eq_false_iff_not] at h
 omega
theorem RT {l:List AN} (h1:∀ r∈l,CD r=true) (h2:l.Pairwise fun a b=>Cu b a=false):l.length≤16:=by
 have hd:(l.map plR).Nodup:=by
  rw [List.nodup_iff_pairwise_ne,List.pairwise_map]
  exact h2.imp_of_mem (fun ha hb h=>iM (h1 _ ha) (h1 _ hb) h)
 have:=GJ 16 (l.map plR) hd (fun x hx=>by
  obtain ⟨r,hr,rfl⟩:=List.mem_map.1 hx
  exact (Wm (h1 r hr)).1)
 simpa using this
theorem Ka {l:List AN} {r:AN} (h:AQ l=true) (hr:CD r=true):(Bg l r=(l,0)∧l.any (Cu r)=true)∨(Bg l r=(l++[r],0)∧l.any (Cu r)=false∧AQ (l++[r])=true):=by
 obtain ⟨h1,h2,h3⟩:=Ml h
 cases ha:l.any (Cu r) with
 | true=>exact .inl ⟨by simp only [Bg,h,hr,ha,Bool.and_self,if_true],rfl⟩
 | false =>
  have g1:∀ x∈l++[r],CD x=true:=by
   intro x hx
   rcases List.mem_append.1 hx with hx | hx
   ·exact h1 x hx
   ·simp only [List.mem_singleton] at hx;subst hx;exact hr
  have g2:(l++[r]).Pairwise fun a b=>Cu b a=false:=by
   rw [List.pairwise_append]
   refine ⟨h2,List.pairwise_singleton _ _,fun a ha' b hb=>?_⟩
   simp only [List.mem_singleton] at hb;subst hb
   have:=List.any_eq_false.1 ha a ha'
   simpa using this
  have g3:=RT g1 g2
  have hne:l.length≠16:=by simp at g3;omega
  refine .inr ⟨by simp only [Bg,h,hr,ha,Bool.and_self,if_true,Bool.false_eq_true,if_false,hne],rfl,?_⟩
  simp only [AQ,Bool.and_eq_true,decide_eq_true_eq]
  exact ⟨MU _ _ g1 g2 (by simp),g3⟩
end Ve
namespace Ve
open Go
theorem Os {w:Ao} (h:AF w=true):0≤plW w∧plW w<16:=by
 simp only [AF,Bool.and_eq_true,AL] at h
 simp only [plW,AH];omega
theorem lY {l:List Ao} (h:AX l=true) (hl:l.length=16) {w:Ao} (hw:AF w=true):∃ x∈l,plW x=plW w:=by
 obtain ⟨h1,h2,_⟩:=Cz h
 rcases Classical.em (∃ x∈l,plW x=plW w) with hx | hx
 ·exact hx
 ·exfalso
  have hnd:((w::l).map fun x=>(plW x).toNat).Nodup:=by
   rw [List.map_cons,List.nodup_cons]
   constructor
   ·intro hm
    obtain ⟨x,hx1,hx2⟩:=List.mem_map.1 hm
    have a1:=Os (h1 x hx1)
    have a2:=Os hw
    exact hx ⟨x,hx1,by omega⟩
   ·rw [List.Nodup,List.pairwise_map]
    refine List.Pairwise.imp_of_mem ?_ h2
    intro a b ha hb hab
    have a1:=Os (h1 a ha)
    have a2:=Os (h1 b hb)
    omega
  have:=GJ 16 _ hnd (fun x hx=>by
   obtain ⟨y,hy,rfl⟩:=List.mem_map.1 hx
   have:AF y=true:=by
    rcases List.mem_cons.1 hy with rfl | hy
    ·exact hw
    ·exact h1 y hy
   have:=Os this
   omega)
  simp only [List.length_map,List.length_cons] at this
  omega
theorem Zk {t:Int}:∀ {l:List Ao},l.Pairwise (fun a b=>plW a<plW b)→(∃ x∈l,plW x=t)→∃ w,l[CF t l]?=some w∧plW w=t
 | [],_,⟨x,hx,_⟩=>by simp at hx
 | y::r,hp,⟨x,hx,he⟩=>by
  obtain ⟨h1,h2⟩:=List.pairwise_cons.1 hp
  simp only [CF]
  by_cases hy:plW y<t
  ·rw [if_pos hy]
   have:x∈r:=by
    rcases List.mem_cons.1 hx with rfl | h
    ·omega
    ·exact h
   obtain ⟨w,h3,h4⟩:=Zk h2 ⟨x,this,he⟩
   exact ⟨w,by simpa using h3,h4⟩
  ·rw [if_neg hy]
   refine ⟨y,rfl,?_⟩
   rcases List.mem_cons.1 hx with rfl | h
   ·exact he
   ·have:=h1 x h;omega
theorem uE {w:Ao} {l:List Ao} {x:Ao} (h:l[CF (plW w) l]?=some x) (he:plW x=plW w):Dj w l=l.set (CF (plW w) l) w:=by
 rw [Sp,h]
 simp only [he,if_true]
 have hlt:=(List.getElem?_eq_some_iff.1 h).1
 rw [List.set_eq_take_append_cons_drop]
 simp [hlt]
theorem lL {w:Ao} {l:List Ao} (h:∀ x,l[CF (plW w) l]?=some x→plW x≠plW w):Dj w l=l.take (CF (plW w) l)++[w]++l.drop (CF (plW w) l):=by
 rw [Sp]
 cases hx:l[CF (plW w) l]? with
 | none =>
  have:=List.getElem?_eq_none_iff.1 hx
  simp [List.drop_of_length_le this]
 | some x =>
  simp only [h x hx,if_false]
  simp
end Ve
namespace Ve
open Go
theorem IX {α:Type} (ws:A4 (List α)) (l i:Int) (w:α):(Fh ws l i w).a0.length=ws.a0.length∧(Fh ws l i w).a1.length=ws.a1.length∧(Fh ws l i w).a2.length=ws.a2.length∧(Fh ws l i w).a3.length=ws.a3.length:=by
 unfold Fh A4.set A4.get
 split
 ·simp
 ·split
  ·simp
  ·split<;>simp
theorem NH {l:List Ap} (h:Cv l=true) (i:Nat) {w:Ap} (hw:AO w=true):Cv (l.set i w)=true:=by
 simp only [Cv,Bool.and_eq_true,List.length_set,List.all_eq_true] at h ⊢
 refine ⟨h.1,fun x hx=>?_⟩
 rcases List.mem_or_eq_of_mem_set hx with hx | rfl
 ·exact h.2 x hx
 ·exact hw
theorem eO {ws:A4 (List Ap)} (h:AT ws=true) (l i:Int) {w:Ap} (hw:AO w=true):AT (Fh ws l i w)=true:=by
 simp only [AT,A4.all,Bool.and_eq_true] at h ⊢
 obtain ⟨⟨⟨h0,h1⟩,h2⟩,h3⟩:=h
 unfold Fh A4.set A4.get
 split
 ·exact ⟨⟨⟨NH h0 _ hw,h1⟩,h2⟩,h3⟩
 ·split
  ·exact ⟨⟨⟨h0,NH h1 _ hw⟩,h2⟩,h3⟩
  ·split
   ·exact ⟨⟨⟨h0,h1⟩,NH h2 _ hw⟩,h3⟩
   ·exact ⟨⟨⟨h0,h1⟩,h2⟩,NH h3 _ hw⟩
theorem Tn {m:Ad} (hM:Bt m) (l i:Int) {w:Ap} (hw:AO w=true):Bt (FF m l i w):=by
 obtain ⟨h0,h1,h2,h3⟩:=IX m.words l i w
 exact OF hM (eO hM.arena l i hw) h0 h1 h2 h3
theorem YW {m:Ad} {s:Ai} (l i:Int) (w:Ap):SP (FF m l i w).words s↔SP m.words s:=by
 obtain ⟨h0,h1,h2,h3⟩:=IX m.words l i w
 rw [← sp,← sp,FW (ws:=m.words) (ws':=(FF m l i w).words) (fun l i=>Hg h0 h1 h2 h3 l i)]
theorem PY {m:Ad} {k n:Nat} {s:Ai} {w:Ao} (hs:m.sess[k]?=some s) (hM:Bt m) (hS:SP m.words s) (hp:s.at_=(n:Int)) (hn:n<s.writes.length) (hv:inR w.val 255=true):Bt (BY m k s w):=by
 have hw:AO ⟨w.val,s.stamp,0⟩=true:=by simp only [AO,hv,hS.stamp];rfl
 refine HZ (Tn hM _ _ hw) (s:=s) hs rfl ((YW _ _ _).2 ?_)
 exact { hS with at_:=by rw [AL];show 0≤s.at_+1∧s.at_+1≤(s.writes.length:Int);omega }
def a6z (last:Bool) (s:Ai) (w:Ao) (g i:Int) (v:Ap):Ap :=
 if (decide (g=w.level)&&decide (i=w.index))=true then ⟨w.val,s.stamp,0⟩ else if (last&&decide (v.lock=s.id+1))=true then ⟨v.val,v.ver,0⟩ else v
theorem Jz (ws:A4 (List Ap)) (w:Ao) (x:Ap) (g:Int) (i:Nat) (v:Ap) (hg:inR g 3=true) (hl:inR w.level 3=true) (hi0:0≤w.index) (hv:(ws.get g)[i]?=some v) :
  ((Fh ws w.level w.index x).get g)[i]?=some (if (decide (g=w.level)&&decide ((i:Int)=w.index))=true then x else v):=by
 have hlen:=Ax hv
 rw [AL] at hg hl
 have key:∀ l:List Ap,l[i]?=some v→(l.set w.index.toNat x)[i]?=some (if ((i:Int)=w.index) then x else v):=by
  intro l h
  have hlen:=Ax h
  rw [List.getElem?_set]
  by_cases hc:(i:Int)=w.index
  ·have:w.index.toNat=i:=by omega
   simp [this,hlen,hc]
  ·have:¬ w.index.toNat=i:=by omega
   simp [this,hc,h]
 by_cases hgl:g=w.level
 ·have e:(decide (g=w.level)&&decide ((i:Int)=w.index))=decide ((i:Int)=w.index):=by simp [hgl]
  rw [e]
  have e2:(if decide ((i:Int)=w.index)=true then x else v)=if (i:Int)=w.index then x else v:=by simp
  rw [e2,← key _ hv]
  congr 1
  rw [← hgl]
  unfold Fh A4.set A4.get
  split
  ·simp_all
  ·split
   ·simp_all
   ·split<;>simp_all
 ·have e:(decide (g=w.level)&&decide ((i:Int)=w.index))=false:=by simp [hgl]
  rw [e]
  simp only [Bool.false_eq_true,if_false]
  rw [← hv]
  congr 1
  unfold Fh A4.set A4.get
  have h4:(g=0∨g=1∨g=2∨g=3)∧(w.level=0∨w.level=1∨w.level=2∨w.level=3):=by omega
  obtain ⟨h4,h5⟩:=h4
  rcases h4 with h4 | h4 | h4 | h4<;>rcases h5 with h5 | h5 | h5 | h5<;>first | (exfalso;omega) | (rw [h4,h5];rfl)
theorem Uu (c:Int) (m:Ad) (g:Int) (i:Nat):((BC c m).words.get g)[i]?=((m.words.get g)[i]?).map (As c):=by
 unfold BC A4.get
 split
 ·simp
 ·split
  ·simp
  ·split<;>simp
structure Wrote (m:Ad) (k:Nat) (s:Ai) (w:Ao) (last:Bool) (a:Ad) (t:Ai):Prop where
 l0:a.words.a0.length=m.words.a0.length
 l1:a.words.a1.length=m.words.a1.length
 l2:a.words.a2.length=m.words.a2.length
 l3:a.words.a3.length=m.words.a3.length
 word:∀ (g:Int) (i:Nat) (v:Ap),inR g 3=true→(m.words.get g)[i]?=some v→(a.words.get g)[i]?=some (a6z last s w g i v)
 clocks:a.clocks=m.clocks
 slen:a.sess.length=m.sess.length
 sess:a.sess[k]?=some t
 done:last=true→t.step=6∧t.result=1
 more:last=false→t.at_=s.at_+1∧t.step=4
end Ve
namespace Ve
open Go
theorem Fm {a:Int} (h:inR a 3=true):a=0∨a=1∨a=2∨a=3:=by rw [AL] at h;omega
theorem jG {a b:Int} (ha:inR a 3=true) (hb:inR b 3=true):inR (orI a b) 3=true∧orI (orI a b) a=orI a b∧Aj b (orI a b)=true∧(Aj b a=false→decide (orI a b=a)=false):=by
 rcases Fm ha with rfl | rfl | rfl | rfl<;>rcases Fm hb with rfl | rfl | rfl | rfl<;>decide
def upM (m:Ad) (k:Nat) (s:Ai) (l:Int):Ad:=AE (Ba m ⟨s.id,s.label,2,l⟩) k { s with label:=l }
theorem a1u {m:Ad} {k:Nat} {s:Ai} {l:Int} (hs:m.sess[k]?=some s) (hM:Bt m) (hS:SP m.words s) (hl:inR l 3=true) (hc:Aj l s.clear=true):Bt (upM m k s l):=by
 refine HZ (Ke hM hS.label) (s:=s) (by rw [DL];exact hs) rfl ?_
 rw [Dw]
 exact { hS with label:=hl,Aj:=hc }
theorem YV {m:Ad} {k:Nat} {s:Ai} {l:Int}:(upM m k s l).sess=m.sess.set k { s with label:=l }:=by unfold upM AE;rw [DL]
theorem fJ {m:Ad} {k:Nat} {s:Ai} {l:Int}:(upM m k s l).words=m.words:=by unfold upM AE;rw [Dw]
theorem LK {m:Ad} {s:Ai} (hM:Bt m) (hS:SP m.words s):Cn m.words s.reads s.id=(s.reads.all (Cy m.words s.id),0):=by
 unfold Cn;rw [hM.arena,hS.reads,hS.rthere,hS.id];rfl
theorem UR {m:Ad} {s:Ai} (hM:Bt m) (hS:SP m.words s):BP m.words s.reads=(s.reads.any (Fb m.words),0):=by
 unfold BP;rw [hM.arena,hS.reads,hS.rthere];rfl
end Ve
namespace Ve
open Go
theorem LI {w y:Ao}:∀ {l:List Ao},y∈Dj w l→y=w∨y∈l
 | [],h=>by simp [Dj] at h;exact .inl h
 | x::r,h=>by
  unfold Dj at h
  split at h
  ·rcases List.mem_cons.1 h with h | h
   ·exact .inr (by simp [h])
   ·rcases LI h with h | h
    ·exact .inl h
    ·exact .inr (by simp [h])
  ·split at h
   ·rcases List.mem_cons.1 h with h | h
    ·exact .inl h
    ·exact .inr (by simp [h])
   ·rcases List.mem_cons.1 h with h | h
    ·exact .inl h
    ·exact .inr h
theorem Nc {w:Ao}:∀ {l:List Ao},l.Pairwise (fun a b=>plW a<plW b)→(Dj w l).Pairwise (fun a b=>plW a<plW b)
 | [],_=>by simp [Dj]
 | x::r,h=>by
  obtain ⟨h1,h2⟩:=List.pairwise_cons.1 h
  unfold Dj
  split
  ·rename_i hlt
   refine List.pairwise_cons.2 ⟨fun y hy=>?_,Nc h2⟩
   rcases LI hy with rfl | hy
   ·exact hlt
   ·exact h1 y hy
  ·split
   ·rename_i he
    refine List.pairwise_cons.2 ⟨fun y hy=>?_,h2⟩
    have:=h1 y hy
    show plW w<plW y
    rw [show plW w=plW x from he.symm];exact this
   ·rename_i hn he
    have hlt:plW w<plW x:=by show AH w.level w.index<AH x.level x.index;omega
    refine List.pairwise_cons.2 ⟨fun y hy=>?_,h⟩
    rcases List.mem_cons.1 hy with rfl | hy
    ·exact hlt
    ·exact Int.lt_trans hlt (h1 y hy)
theorem Uq {w:Ao}:∀ {l:List Ao},l.length≤(Dj w l).length
 | []=>by simp [Dj]
 | x::r=>by
  unfold Dj
  split
  ·simp only [List.length_cons];have:=Uq (w:=w) (l:=r);omega
  ·split<;>simp only [List.length_cons]<;>omega
theorem Wl {w:Ao} (h:AF w=true):0≤plW w∧plW w<16:=by
 simp only [AF,Bool.and_eq_true,AL] at h
 show 0≤AH w.level w.index∧AH w.level w.index<16
 unfold AH;omega
theorem VE {l:List Ao} (h1:∀ w∈l,AF w=true) (h2:l.Pairwise (fun a b=>plW a<plW b)):l.length≤16:=by
 have hd:(l.map fun w=>(plW w).toNat).Nodup:=by
  rw [List.nodup_iff_pairwise_ne,List.pairwise_map]
  exact h2.imp_of_mem (fun ha hb h=>by have:=Wl (h1 _ ha);have:=Wl (h1 _ hb);omega)
 have:=GJ 16 (l.map fun w=>(plW w).toNat) hd (fun x hx=>by
  obtain ⟨r,hr,rfl⟩:=List.mem_map.1 hx
  have:=Wl (h1 r hr);omega)
 simpa using this
theorem NW {l:List Ao} {w:Ao} (h:AX l=true) (hw:AF w=true):BS l w=(Dj w l,0)∧AX (Dj w l)=true:=by
 obtain ⟨h1,h2,_⟩:=Cz h
 have g1:∀ y∈Dj w l,AF y=true:=fun y hy=>by
  rcases LI hy with rfl | hy
  ·exact hw
  ·exact h1 y hy
 have g2:=Nc (w:=w) h2
 refine ⟨by simp only [BS,h,hw,Bool.and_self,if_true],?_⟩
 simp only [AX,Bool.and_eq_true,decide_eq_true_eq]
 exact ⟨Io _ none g1 g2 (fun v hv=>by cases hv),VE g1 g2⟩
theorem Ol {rs:A4 Int} (h:Dl rs=true) {a v:Int} (ha:inR a 3=true) (hv:inR v 255=true):Dl (rs.set a v)=true:=by
 simp only [Dl,A4.all,Bool.and_eq_true] at h ⊢
 rcases Fm ha with rfl | rfl | rfl | rfl<;>simp [A4.set,hv,h]
theorem TD {rs:A4 Int} (h:Dl rs=true) (a:Int):inR (rs.get a) 255=true:=by
 simp only [Dl,A4.all,Bool.and_eq_true] at h
 unfold A4.get
 split
 ·exact h.1.1.1
 ·split
  ·exact h.1.1.2
  ·split
   ·exact h.1.2
   ·exact h.2
theorem NX {ws:A4 (List Ap)} (ha:AT ws=true) {l i:Int} (h:Bb ws l i=true):AO (BN ws l i)=true:=by
 simp only [Bb,Bool.and_eq_true,decide_eq_true_eq] at h
 have hj:i.toNat<(ws.get l).length:=by omega
 have hg:BN ws l i=(ws.get l)[i.toNat]:=by unfold BN;rw [List.getElem?_eq_getElem hj];rfl
 rw [hg]
 have hmem:(ws.get l)[i.toNat]∈ws.get l:=List.getElem_mem hj
 simp only [AT,A4.all,Cv,Bool.and_eq_true,List.all_eq_true,decide_eq_true_eq] at ha
 generalize (ws.get l)[i.toNat]=g at hmem
 unfold A4.get at hmem
 obtain ⟨⟨⟨a0,a1⟩,a2⟩,a3⟩:=ha
 split at hmem
 ·exact a0.2 g hmem
 ·split at hmem
  ·exact a1.2 g hmem
  ·split at hmem
   ·exact a2.2 g hmem
   ·exact a3.2 g hmem
theorem UE {l i:Int}:∀ {ws:List Ao},(∀ w∈ws,AF w=true)→(BD l i ws).2=true→inR (BD l i ws).1 255=true
 | [],_,h=>by simp [BD] at h
 | x::r,hw,h=>by
  unfold BD at h ⊢
  split
  ·have:=hw x (by simp);simp only [AF,Bool.and_eq_true] at this;exact this.2
  ·rename_i hn
   rw [if_neg hn] at h
   exact UE (fun w hw'=>hw w (by simp [hw'])) h
structure Ey (m A:Ad) (k:Nat) (s t:Ai):Prop where
 may:Bt A
 ceil:A.ceil=m.ceil
 sess:A.sess=m.sess.set k t
 id:t.id=s.id
 clear:t.clear=s.clear
 prog:t.prog=s.prog
 lab:Aj s.label t.label=true
 trace:A.trace=m.trace∨∃ e:AY,A.trace=m.trace++[e]∧e.id=s.id∧e.label=s.label
theorem Ce {a:Int} (h:inR a 3=true):Aj a a=true:=by
 rcases Fm h with rfl | rfl | rfl | rfl<;>decide
theorem KX (m:Ad) (e:AY):(Ba m e).trace=m.trace∨(Ba m e).trace=m.trace++[e]:=by
 rw [KD];split
 ·exact .inr rfl
 ·exact .inl rfl
theorem Ls {m:Ad} {k:Nat} {s:Ai} (hs:m.sess[k]?=some s) (hM:Bt m) (hS:SP m.words s) (kind:Int):Ey m (Ek m k s kind) k s (BJ s):=by
 refine ⟨Vy hs hM kind,RA kind,Km kind,rfl,rfl,rfl,Ce hS.label,?_⟩
 rcases KX (AE (BC (s.id+1) m) k (BJ s)) ⟨s.id,s.label,kind,Kn s.tries⟩ with h | h
 ·exact .inl h
 ·exact .inr ⟨_,h,rfl,rfl⟩
theorem Mp {m:Ad} {k:Nat} {s:Ai} (hs:m.sess[k]?=some s) (hM:Bt m) (hS:SP m.words s) {r t:Int} (hr:inR r 5=true) (ht:inR t 255=true):Ey m (EJ m k s r t) k s (Gp s r t):=by
 refine ⟨QW hs hM hr ht,WO r t,KN r t,rfl,rfl,rfl,Ce hS.label,?_⟩
 rcases KX (AE (BC (s.id+1) m) k (Gp s r t)) ⟨s.id,s.label,6,r⟩ with h | h
 ·exact .inl h
 ·exact .inr ⟨_,h,rfl,rfl⟩
theorem NK {m:Ad} {k:Nat} {s t:Ai} (hs:m.sess[k]?=some s) (hM:Bt m) (hS:SP m.words s) (e:AY) (he:e.id=s.id∧e.label=s.label) (ht:SP m.words t) (h1:t.id=s.id) (h2:t.clear=s.clear) (h3:t.prog=s.prog) (h4:Aj s.label t.label=true):Ey m (Ba (AE m k t) e) k s t:=by
 refine ⟨Ke (HZ hM hs h1 ht) (by rw [he.2];exact hS.label),EV _ _,DL _ _,h1,h2,h3,h4,?_⟩
 rcases KX (AE m k t) e with h | h
 ·exact .inl h
 ·exact .inr ⟨_,h,he.1,he.2⟩
theorem KK {m:Ad} {k:Nat} {s t:Ai} (hs:m.sess[k]?=some s) (hM:Bt m) (ht:SP m.words t) (h1:t.id=s.id) (h2:t.clear=s.clear) (h3:t.prog=s.prog) (h4:Aj s.label t.label=true):Ey m (AE m k t) k s t :=
 ⟨HZ hM hs h1 ht,rfl,rfl,h1,h2,h3,h4,.inl rfl⟩
end Ve
namespace Ve
open Go
def mK (xs ys:List Ap):Nat→Int
 | 0=>0
 | n+1=>mK xs ys n+(if (xs[n]?.map (·.lock))=(ys[n]?.map (·.lock)) then 0 else 1)
def GrW (id:Int) (x y:Ap):Prop:=y.val=x.val∧y.ver=x.ver∧(x.lock=y.lock∨(x.lock≠y.lock∧y.lock≠0∧x.lock=0∧y.lock=id+1)∨(x.lock≠y.lock∧y.lock=0∧x.lock=id+1))
structure Gr (m A:Ad) (k:Nat) (s t:Ai):Prop where
 len:∀ g,inR g 3=true→(A.words.get g).length=(m.words.get g).length
 word:∀ (g:Int) (j:Nat) (x:Ap),inR g 3=true→(m.words.get g)[j]?=some x→∃ y,(A.words.get g)[j]?=some y∧GrW s.id x y
 clocks:A.clocks=m.clocks
 slen:A.sess.length=m.sess.length
 sess:A.sess[k]?=some t
 fin:t.step=0∨(t.at_=s.at_+1∧mK m.words.a0 A.words.a0 m.words.a0.length+mK m.words.a1 A.words.a1 m.words.a1.length+mK m.words.a2 A.words.a2 m.words.a2.length+mK m.words.a3 A.words.a3 m.words.a3.length=1)
theorem OS {ws ws':A4 (List Ap)} (h0:ws'.a0.length=ws.a0.length) (h1:ws'.a1.length=ws.a1.length) (h2:ws'.a2.length=ws.a2.length) (h3:ws'.a3.length=ws.a3.length) (g:Int):(ws'.get g).length=(ws.get g).length:=by
 unfold A4.get
 split
 ·exact h0
 ·split
  ·exact h1
  ·split
   ·exact h2
   ·exact h3
end Ve
namespace Ve
open Go
theorem xB (m:Ad) (at_ st:Int):EI m at_ st=none∨∃ (k n:Nat) (s:Ai) (w:Ao),at_=(k:Nat)∧m.sess[k]?=some s∧Bt m∧SP m.words s∧s.step=st∧s.at_=(n:Int)∧n<s.writes.length∧s.writes[n]?=some w∧EI m at_ st=some (s,w):=by
 cases Ia m at_ st with
 | no h=>exact .inl (DM (EQ h))
 | off k s e hs hM hS hst=>subst e;exact .inl (DM (CY hs hM hst))
 | fin k s e hs hM hS hst hp=>subst e;exact .inl (Js hs hM hst hp)
 | on k n s w e hs hM hS hst hp hn hi=>subst e;exact .inr ⟨k,n,s,w,rfl,hs,hM,hS,hst,hp,hn,hi,Lu hs hM hst hp hi⟩
theorem Lb {α:Type} {l:List α} {k:Nat} {x:α} (h:l[k]?=some x):l.set k x=l:=by
 apply List.ext_getElem?
 intro i
 rw [List.getElem?_set]
 split
 ·rename_i e;subst e;rw [if_pos (Ax h),h]
 ·rfl
section
variable {m:Ad} {k:Nat} {s:Ai} (hs:m.sess[k]?=some s) (hM:Bt m) (hS:SP m.words s)
include hs hM hS
theorem kK {x:AI} (hcur:CO m k=some (s,x)) (hc:x.code=2) (hlx:inR x.b 3=true) (hu:Aj x.b s.label=false):∃ t,Ey m (BI m k).1 k s t∧(BI m k).2=0:=by
 obtain ⟨o1,o2,o3,o4⟩:=jG hS.label hlx
 cases hcl:Aj (orI s.label x.b) s.clear
 ·have e:BI m k=CX m k 4 0:=by unfold BI;rw [hcur];simp only [hc,hu,hcl];rfl
  rw [e,Gn hs hM (by decide) (by decide)]
  exact ⟨_,Mp hs hM hS (by decide) (by decide),rfl⟩
 ·have e:BI m k=(upM m k s (orI s.label x.b),0):=by unfold BI;rw [hcur];simp only [hc,hu,hcl];rfl
  rw [e]
  refine ⟨{ s with label:=orI s.label x.b },⟨a1u hs hM hS o1 hcl,EV m ⟨s.id,s.label,2,orI s.label x.b⟩,YV,rfl,rfl,rfl,?_,?_⟩,rfl⟩
  ·show Aj s.label (orI s.label x.b)=true
   unfold Aj;rw [decide_eq_true_eq]
   have:orI s.label (orI s.label x.b)=orI (orI s.label x.b) s.label:=by simp only [orI,BitVec.or_comm]
   rw [this];exact o2
  ·show (Ba m _).trace=_∨_
   rcases KX m ⟨s.id,s.label,2,orI s.label x.b⟩ with h | h
   ·exact .inl h
   ·exact .inr ⟨_,h,rfl,rfl⟩
theorem YX {i:AI} {rs:List AN} {v:Int} {n:Nat} (hp:s.pc=(n:Int)) (hn:n<s.prog.length) (ha:inR i.a 3=true) (hv:inR v 255=true) (hr:AQ rs=true) (ht:AJ m.words rs=true):SP m.words (Di s i rs v) :=
 { hS with reads:=hr,rthere:=ht,regs:=Ol hS.regs ha hv,pc:=by rw [AL];show 0≤s.pc+1∧s.pc+1≤(s.prog.length:Int);omega }
theorem kJ {n:Nat} {x:AI} (hst:s.step=0) (hp:s.pc=(n:Int)) (hi:s.prog[n]?=some x) (hc:x.code=2) (hu:Aj x.b s.label=true):∃ t,Ey m (Cp m k).1 k s t∧(Cp m k).2=0:=by
 have hcur:=DP hs hM hst hp hi
 have hn:=Ax hi
 obtain ⟨hx,_,hth⟩:=Dk hS hi
 have hth:=hth (.inl hc)
 have ha:=Fo hx (by omega)
 have e0:Cp m k=(if (Bj s.writes x.b x.c).2=true then (Ba (AE m k (Di s x s.reads (Bj s.writes x.b x.c).1)) ⟨s.id,s.label,0,(Bj s.writes x.b x.c).1⟩,0)
   else if (Cn m.words s.reads s.id).1=true∧(BN m.words x.b x.c).lock=0 then
    (Ba (AE m k (Di s x (Bg s.reads ⟨x.b,x.c,(BN m.words x.b x.c).ver⟩).1 (BN m.words x.b x.c).val)) ⟨s.id,s.label,0,(BN m.words x.b x.c).val⟩,0)
   else BK m k 3):=by
  unfold Cp;rw [hcur];simp only [hc,hu,if_true,Int.toNat_natCast]
 rw [e0]
 have hul:=Ce hS.label
 split
 ·rename_i hf
  have hv:inR (Bj s.writes x.b x.c).1 255=true:=by
   unfold Bj at hf ⊢
   rw [if_pos hS.writes] at hf ⊢
   exact UE (Cz hS.writes).1 hf
  exact ⟨_,NK hs hM hS _ ⟨rfl,rfl⟩ (YX hs hM hS hp hn ha hv hS.reads hS.rthere) rfl rfl rfl hul,rfl⟩
 ·split
  ·have hwm:=NX hM.arena hth
   simp only [AO,Bool.and_eq_true] at hwm
   have hl:=CW hx (.inl hc)
   have hr1:CD ⟨x.b,x.c,(BN m.words x.b x.c).ver⟩=true:=by simp only [CD,hl.1,hl.2,hwm.1.2];rfl
   have hroom:=Ka hS.reads hr1
   have hrr:AQ (Bg s.reads ⟨x.b,x.c,(BN m.words x.b x.c).ver⟩).1=true∧AJ m.words (Bg s.reads ⟨x.b,x.c,(BN m.words x.b x.c).ver⟩).1=true:=by
    rcases hroom with ⟨h,_⟩ | ⟨h,_,h2⟩
    ·rw [h];exact ⟨hS.reads,hS.rthere⟩
    ·rw [h];refine ⟨h2,?_⟩
     have:=hS.rthere
     simp only [AJ] at this ⊢
     rw [List.all_append,this,List.all_cons,hth];rfl
   exact ⟨_,NK hs hM hS _ ⟨rfl,rfl⟩ (YX hs hM hS hp hn ha hwm.1.1 hrr.1 hrr.2) rfl rfl rfl hul,rfl⟩
  ·rw [Gh hs hM (.inl rfl)]
   exact ⟨_,Ls hs hM hS 3,rfl⟩
theorem kG {n:Nat} {x:AI} (hst:s.step=0) (hp:s.pc=(n:Int)) (hi:s.prog[n]?=some x) (hc:x.code=3):∃ t,Ey m (CH m k).1 k s t∧(CH m k).2=0:=by
 have hcur:=DP hs hM hst hp hi
 have hn:=Ax hi
 obtain ⟨hx,_,hth⟩:=Dk hS hi
 have hth:=hth (.inr hc)
 have hl:=CW hx (.inr hc)
 have hw1:AF ⟨x.b,x.c,s.regs.get x.a⟩=true:=by simp only [AF,hl.1,hl.2,TD hS.regs];rfl
 obtain ⟨hr1,hr2⟩:=NW hS.writes hw1
 have e0:CH m k=(Ba (AE m k { s with writes:=Dj ⟨x.b,x.c,s.regs.get x.a⟩ s.writes,pc:=s.pc+1 }) ⟨s.id,s.label,1,s.regs.get x.a⟩,0):=by
  unfold CH;rw [hcur];simp only [hc,if_true,Int.toNat_natCast,hr1]
 rw [e0]
 refine ⟨_,NK hs hM hS _ ⟨rfl,rfl⟩ ?_ rfl rfl rfl (Ce hS.label),rfl⟩
 have hat:=AL.1 hS.at_
 have hlen:=Uq (w:=⟨x.b,x.c,s.regs.get x.a⟩) (l:=s.writes)
 refine { hS with writes:=hr2,wthere:=?_,at_:=?_,pc:=?_ }
 ·have:=hS.wthere
  simp only [CC,List.all_eq_true] at this ⊢
  intro y hy
  rcases LI hy with rfl | hy
  ·exact hth
  ·exact this y hy
 ·rw [AL];show 0≤s.pc+1∧s.pc+1≤(s.prog.length:Int);omega
 ·rw [AL];show 0≤s.at_∧s.at_≤((Dj _ s.writes).length:Int);omega
theorem tL {n:Nat} {x:AI} (hst:s.step=0) (hp:s.pc=(n:Int)) (hi:s.prog[n]?=some x) (hc:x.code=0∨x.code=1∨x.code=4):∃ t,Ey m (CA m k).1 k s t∧(CA m k).2=0:=by
 have hcur:=DP hs hM hst hp hi
 have hn:=Ax hi
 obtain ⟨hx,hz,_⟩:=Dk hS hi
 have ha:=Fo hx (by omega)
 have hpc:inR (s.pc+1) (s.prog.length:Int)=true:=by rw [AL];omega
 have hul:=Ce hS.label
 rcases hc with hc | hc | hc
 ·have hb:=LG hx hc
  have e0:CA m k=(AE m k { s with regs:=s.regs.set x.a x.b,pc:=s.pc+1 },0):=by
   unfold CA;rw [hcur];simp only [hc,if_true,Int.toNat_natCast,Mj,hS.regs,ha,hb,Bool.and_self]
  rw [e0]
  exact ⟨_,KK hs hM { hS with regs:=Ol hS.regs ha hb,pc:=hpc } rfl rfl rfl hul,rfl⟩
 ·have hb:=LH hx hc
  have e0:CA m k=(AE m k { s with regs:=s.regs.set x.a ((s.regs.get x.a+s.regs.get x.b) % 256),pc:=s.pc+1 },0):=by
   unfold CA;rw [hcur];simp only [hc,show ((1:Int)=0)=False by decide,if_true,if_false,Int.toNat_natCast,MM,hS.regs,ha,hb,Bool.and_self]
  rw [e0]
  exact ⟨_,KK hs hM { hS with regs:=Ol hS.regs ha (by rw [AL];omega),pc:=hpc } rfl rfl rfl hul,rfl⟩
 ·have hz:=hz hc
  have e0:CA m k=(AE m k { s with pc:=if s.regs.get x.a=0 then x.b else s.pc+1 },0):=by
   unfold CA;rw [hcur];simp only [hc,show ((4:Int)=0)=False by decide,show ((4:Int)=1)=False by decide,if_true,if_false,Int.toNat_natCast]
  rw [e0]
  refine ⟨_,KK hs hM { hS with pc:=?_ } rfl rfl rfl hul,rfl⟩
  show inR (if s.regs.get x.a=0 then x.b else s.pc+1) (s.prog.length:Int)=true
  split
  ·rw [AL];omega
  ·exact hpc
theorem tI {n:Nat} {x:AI} (hst:s.step=0) (hp:s.pc=(n:Int)) (hi:s.prog[n]?=some x) (hc:x.code=5):∃ t,Ey m (Cx m k).1 k s t∧(Cx m k).2=0:=by
 have hcur:=DP hs hM hst hp hi
 have e0:Cx m k=(Ba (AE m k { s with writes:=[],at_:=0,step:=5 }) ⟨s.id,s.label,4,s.reads.length⟩,0):=by
  unfold Cx;rw [hcur];simp only [hc,if_true,Int.toNat_natCast]
 rw [e0]
 exact ⟨_,NK hs hM hS _ ⟨rfl,rfl⟩ { hS with writes:=NV,wthere:=rfl,at_:=by simp [inR],step:=by rfl } rfl rfl rfl (Ce hS.label),rfl⟩
theorem tH (hst:s.step=5):∃ t,Ey m (Cx m k).1 k s t∧(Cx m k).2=0:=by
 have e0:Cx m k=if (BP m.words s.reads).1=true then BK m k 5 else (m,0):=by
  unfold Cx;rw [CL hs hM (by omega),Ct hs hM hst]
 rw [e0]
 split
 ·rw [Gh hs hM (.inr rfl)]
  exact ⟨_,Ls hs hM hS 5,rfl⟩
 ·refine ⟨s,⟨hM,rfl,?_,rfl,rfl,rfl,Ce hS.label,.inl rfl⟩,rfl⟩
  exact (Lb hs).symm
theorem tJ (hst:s.step=0):∃ t,Ey m (Ex m k s).1 k s t∧(Ex m k s).2=0:=by
 unfold Ex
 split
 ·rw [Int.toNat_natCast]
  refine ⟨_,KK hs hM { hS with at_:=?_,step:=?_ } rfl rfl rfl (Ce hS.label),rfl⟩
  ·rw [AL];show 0≤(0:Int)∧(0:Int)≤(s.writes.length:Int);omega
  ·show inR (if s.writes=[] then 3 else 1) 6=true
   split<;>rfl
 ·rw [Gn hs hM (by decide) (by decide)]
  exact ⟨_,Mp hs hM hS (by decide) (by decide),rfl⟩
theorem tK (h:(Ed m k).2=0):∃ t,Ey m (Ed m k).1 k s t:=by
 rcases xB m k 1 with hn | ⟨k',n,s',w,e,hs',_,_,hst,hp,hn,hi,hl⟩
 ·have e:Ed m k=(Az,1800):=by unfold Ed;rw [hn]
  rw [e] at h;cases h
 ·obtain rfl:k=k':=by omega
  obtain rfl:s=s':=by rw [hs] at hs';cases hs';rfl
  obtain ⟨h1,h2⟩:=JS hS hi
  have hwm:=NX hM.arena h1
  by_cases hlk:(BN m.words w.level w.index).lock=0
  ·have e:Ed m k=(AE (FF m w.level w.index { BN m.words w.level w.index with lock:=s.id+1 }) k { s with at_:=s.at_+1,step:=if s.at_+1=s.writes.length then 2 else s.step },0):=by
    unfold Ed;rw [hl];simp only [hlk,if_true,Int.toNat_natCast]
   rw [e]
   have hid:=AL.1 hS.id
   have hw':AO { BN m.words w.level w.index with lock:=s.id+1 }=true:=by
    simp only [AO,Bool.and_eq_true] at hwm ⊢
    exact ⟨hwm.1,by rw [AL];omega⟩
   have hM':=Tn hM w.level w.index hw'
   have hS':=(YW (m:=m) w.level w.index { BN m.words w.level w.index with lock:=s.id+1 }).2 hS
   refine ⟨{ s with at_:=s.at_+1,step:=if s.at_+1=s.writes.length then 2 else s.step },?_⟩
   have:=KK (m:=FF m w.level w.index { BN m.words w.level w.index with lock:=s.id+1 }) (k:=k) (s:=s) (t:={ s with at_:=s.at_+1,step:=if s.at_+1=s.writes.length then 2 else s.step }) hs hM' { hS' with at_:=?_,step:=?_ } rfl rfl rfl (Ce hS.label)
   ·exact ⟨this.may,this.ceil,this.sess,rfl,rfl,rfl,this.lab,this.trace⟩
   ·rw [AL];show 0≤s.at_+1∧s.at_+1≤(s.writes.length:Int);omega
   ·show inR (if s.at_+1=(s.writes.length:Int) then 2 else s.step) 6=true
    split
    ·rfl
    ·exact hS.step
  ·have e:Ed m k=BK m k 3:=by unfold Ed;rw [hl];simp only [hlk,if_false]
   rw [e,Gh hs hM (.inl rfl)]
   exact ⟨_,Ls hs hM hS 3⟩
theorem kH (hst:s.step=2):∃ t,Ey m (Do m k).1 k s t:=by
 have hcur:=Ct hs hM hst
 by_cases hc:m.ceil≤m.clocks.get s.label
 ·have e:Do m k=CX m k 5 0:=by unfold Do;rw [hcur];simp only [hc,if_true]
  rw [e,Gn hs hM (by decide) (by decide)]
  exact ⟨_,Mp hs hM hS (by decide) (by decide)⟩
 ·have e:Do m k=(AE { m with clocks:=m.clocks.set s.label (m.clocks.get s.label+1) } k { s with stamp:=m.clocks.get s.label+1,step:=3 },0):=by
   unfold Do;rw [hcur];simp only [hc,if_false,Int.toNat_natCast]
  rw [e]
  have hcl:=hM.clocks
  have hce:=AL.1 hM.ceil
  simp only [A4.all,Bool.and_eq_true,AL] at hcl
  have hg:0≤m.clocks.get s.label:=by
   unfold A4.get;split
   ·exact hcl.1.1.1.1
   ·split
    ·exact hcl.1.1.2.1
    ·split
     ·exact hcl.1.2.1
     ·exact hcl.2.1
  have hM':Bt { m with clocks:=m.clocks.set s.label (m.clocks.get s.label+1) }:=by
   refine ⟨hM.arena,hM.ceil,?_,hM.sl,hM.tl,hM.ids,hM.sess,hM.trace⟩
   simp only [A4.all,Bool.and_eq_true,AL]
   rcases Fm hS.label with h | h | h | h<;>rw [h] at hc hg ⊢<;>simp only [A4.set,A4.get,simprocAttr] at hc hg ⊢<;>omega
  have hS':SP { m with clocks:=m.clocks.set s.label (m.clocks.get s.label+1):Ad }.words s:=hS
  refine ⟨{ s with stamp:=m.clocks.get s.label+1,step:=3 },?_⟩
  have:=KK (m:={ m with clocks:=m.clocks.set s.label (m.clocks.get s.label+1) }) (k:=k) (s:=s) (t:={ s with stamp:=m.clocks.get s.label+1,step:=3 }) hs hM' { hS' with stamp:=by rw [AL];show 0≤m.clocks.get s.label+1∧m.clocks.get s.label+1≤65535;omega,step:=by rfl } rfl rfl rfl (Ce hS.label)
  exact ⟨this.may,this.ceil,this.sess,rfl,rfl,rfl,this.lab,this.trace⟩
theorem kL (hst:s.step=3):∃ t,Ey m (Dr m k).1 k s t:=by
 have hcur:=Ct hs hM hst
 have e:Dr m k=if (Cn m.words s.reads s.id).1=true then (if s.writes=[] then CX m k 1 0 else (AE m k { s with at_:=0,step:=4 },0)) else BK m k 3:=by unfold Dr;rw [hcur];simp only [Int.toNat_natCast]
 rw [e]
 split
 ·split
  ·rw [Gn hs hM (by decide) (by decide)];exact ⟨_,Mp hs hM hS (by decide) (by decide)⟩
  ·exact ⟨_,KK hs hM { hS with at_:=by rw [AL];show 0≤(0:Int)∧(0:Int)≤(s.writes.length:Int);omega,step:=by rfl } rfl rfl rfl (Ce hS.label)⟩
 ·rw [Gh hs hM (.inl rfl)];exact ⟨_,Ls hs hM hS 3⟩
theorem tN (h:(Ei m k).2=0):∃ t,Ey m (Ei m k).1 k s t:=by
 rcases xB m k 4 with hn | ⟨k',n,s',w,e,hs',_,_,hst,hp,hn,hi,hl⟩
 ·have e:Ei m k=(Az,2100):=by unfold Ei;rw [hn]
  rw [e] at h;cases h
 ·obtain rfl:k=k':=by omega
  obtain rfl:s=s':=by rw [hs] at hs';cases hs';rfl
  obtain ⟨h1,h2⟩:=JS hS hi
  simp only [AF,Bool.and_eq_true] at h2
  have hmay:=PY hs hM hS hp hn h2.2
  have hk:=Ax hs
  have hs1:(BY m k s w).sess[k]?=some { s with at_:=s.at_+1 }:=List.getElem?_set_self (by simpa [FF] using hk)
  have hse:(BY m k s w).sess=m.sess.set k { s with at_:=s.at_+1 }:=by simp [BY,AE,FF]
  by_cases hlast:s.at_+1=s.writes.length
  ·have e:Ei m k=CX (BY m k s w) k 1 0:=by unfold Ei;rw [hl];simp only [hlast,if_true]
   rw [e,Gn hs1 hmay (by decide) (by decide)]
   have hS1:=(sp _ _).1 (hmay.sess _ (List.mem_of_getElem? hs1))
   have:=Mp hs1 hmay hS1 (r:=1) (t:=0) (by decide) (by decide)
   refine ⟨Gp { s with at_:=s.at_+1 } 1 0,this.may,this.ceil,?_,rfl,rfl,rfl,this.lab,this.trace⟩
   rw [this.sess,hse,List.set_set]
  ·have e:Ei m k=(BY m k s w,0):=by unfold Ei;rw [hl];simp only [hlast,if_false]
   rw [e]
   exact ⟨{ s with at_:=s.at_+1 },hmay,rfl,hse,rfl,rfl,rfl,Ce hS.label,.inl rfl⟩
theorem Wg (h:(Br m k s).2=0):∃ t,Ey m (Br m k s).1 k s t:=by
 unfold Br at h ⊢
 split at h
 ·rename_i hst
  rw [if_pos hst]
  have hp:=AL.1 hS.pc
  unfold Fi at h ⊢
  split
  ·rename_i x hx
   rw [hx] at h
   have hn:=Ax hx
   have hpn:s.pc=((s.pc.toNat:Nat):Int):=by omega
   obtain ⟨hxm,_,_⟩:=Dk hS hx
   simp only at h ⊢
   split
   ·rename_i hc
    have hcur:=DP hs hM hst hpn hx
    have hne:Co m k=(!Aj x.b s.label,0):=by unfold Co;rw [hcur];simp only [hc,if_true]
    rw [hne]
    cases hu:Aj x.b s.label
    ·obtain ⟨t,ht,_⟩:=kK hs hM hS hcur hc (CW hxm (.inl hc)).1 hu
     exact ⟨t,ht⟩
    ·obtain ⟨t,ht,_⟩:=kJ hs hM hS hst hpn hx hc hu
     exact ⟨t,ht⟩
   ·split
    ·rename_i hc
     obtain ⟨t,ht,_⟩:=kG hs hM hS hst hpn hx hc
     exact ⟨t,ht⟩
    ·split
     ·rename_i hc
      obtain ⟨t,ht,_⟩:=tI hs hM hS hst hpn hx hc
      exact ⟨t,ht⟩
     ·split
      ·rename_i hc
       have ht:=Mr hxm hc
       rw [Gn hs hM (by decide) ht]
       exact ⟨_,Mp hs hM hS (by decide) ht⟩
      ·have hc:=Kg hxm
       obtain ⟨t,ht,_⟩:=tL hs hM hS hst hpn hx (by omega)
       exact ⟨t,ht⟩
  ·obtain ⟨t,ht,_⟩:=tJ hs hM hS hst
   exact ⟨t,ht⟩
 ·rename_i h0
  rw [if_neg h0]
  split at h
  ·rename_i h1;rw [if_pos h1];exact tK hs hM hS h
  ·rename_i h1;rw [if_neg h1]
   split at h
   ·rename_i h2;rw [if_pos h2];exact kH hs hM hS h2
   ·rename_i h2;rw [if_neg h2]
    split at h
    ·rename_i h3;rw [if_pos h3];exact kL hs hM hS h3
    ·rename_i h3;rw [if_neg h3]
     split at h
     ·rename_i h4;rw [if_pos h4];exact tN hs hM hS h
     ·rename_i h4;rw [if_neg h4]
      split at h
      ·rename_i h5;rw [if_pos h5]
       obtain ⟨t,ht,_⟩:=tH hs hM hS h5
       exact ⟨t,ht⟩
      ·rename_i h5;rw [if_neg h5]
       exact ⟨s,hM,rfl,(Lb hs).symm,rfl,rfl,rfl,Ce hS.label,.inl rfl⟩
theorem IV (h:(Cm m k).2=0):∃ t,Ey m (Cm m k).1 k s t:=by
 have hh:=Bs hs hM
 unfold Cm at h ⊢
 rw [if_pos hh,Int.toNat_natCast,hs] at h ⊢
 simp only at h ⊢
 split at h
 ·rename_i h0;rw [if_pos h0];exact Wg hs hM hS h0
 ·cases h
end
end Ve
namespace Ve
open Go
def PZ (rs:List AN) (r:AN):List AN:=if rs.any (Cu r)=true then rs else rs++[r]
def Sz (m:Ad) (k:Nat) (s:Ai) (x:AI):Ad :=
 if (BD x.b x.c s.writes).2=true then Ba (AE m k (Di s x s.reads (BD x.b x.c s.writes).1)) ⟨s.id,s.label,0,(BD x.b x.c s.writes).1⟩
 else if s.reads.all (Cy m.words s.id)=true∧(BN m.words x.b x.c).lock=0 then
  Ba (AE m k (Di s x (PZ s.reads ⟨x.b,x.c,(BN m.words x.b x.c).ver⟩) (BN m.words x.b x.c).val)) ⟨s.id,s.label,0,(BN m.words x.b x.c).val⟩
 else Ek m k s 3
def SF (m:Ad) (k:Nat) (s:Ai) (x:AI):Ad:=if Aj (orI s.label x.b) s.clear=true then upM m k s (orI s.label x.b) else EJ m k s 4 0
def VM (m:Ad) (k:Nat) (s:Ai) (x:AI):Ad:=Ba (AE m k { s with writes:=Dj ⟨x.b,x.c,s.regs.get x.a⟩ s.writes,pc:=s.pc+1 }) ⟨s.id,s.label,1,s.regs.get x.a⟩
def aD (m:Ad) (k:Nat) (s:Ai) (x:AI):Ad :=
 if x.code=0 then AE m k { s with regs:=s.regs.set x.a x.b,pc:=s.pc+1 }
 else if x.code=1 then AE m k { s with regs:=s.regs.set x.a ((s.regs.get x.a+s.regs.get x.b) % 256),pc:=s.pc+1 }
 else AE m k { s with pc:=if s.regs.get x.a=0 then x.b else s.pc+1 }
def jD (m:Ad) (k:Nat) (s:Ai):Ad:=Ba (AE m k { s with writes:=[],at_:=0,step:=5 }) ⟨s.id,s.label,4,s.reads.length⟩
def Tf (m:Ad) (k:Nat) (s:Ai):Ad:=if s.reads.any (Fb m.words)=true then Ek m k s 5 else m
def ZJ (m:Ad) (k:Nat) (s:Ai):Ad :=
 if s.writes.all (fun w=>decide (w.level=s.label))=true then AE m k { s with at_:=0,step:=if s.writes=[] then 3 else 1 } else EJ m k s 3 0
def Tz (m:Ad) (k:Nat) (s:Ai):Ad :=
 match s.prog[s.pc.toNat]? with
 | some x =>
  if x.code=2 then (if Aj x.b s.label=true then Sz m k s x else SF m k s x)
  else if x.code=3 then VM m k s x
  else if x.code=5 then jD m k s
  else if x.code=6 then EJ m k s 2 x.a
  else aD m k s x
 | none=>ZJ m k s
def Ut (m:Ad) (k:Nat) (s:Ai):Option Ad :=
 match s.writes[s.at_.toNat]? with
 | some w=>some (if (BN m.words w.level w.index).lock=0 then AE (FF m w.level w.index { BN m.words w.level w.index with lock:=s.id+1 }) k { s with at_:=s.at_+1,step:=if s.at_+1=s.writes.length then 2 else s.step } else Ek m k s 3)
 | none=>none
def Mi (m:Ad) (k:Nat) (s:Ai):Ad :=
 if m.ceil≤m.clocks.get s.label then EJ m k s 5 0 else AE { m with clocks:=m.clocks.set s.label (m.clocks.get s.label+1) } k { s with stamp:=m.clocks.get s.label+1,step:=3 }
def My (m:Ad) (k:Nat) (s:Ai):Ad :=
 if s.reads.all (Cy m.words s.id)=true then (if s.writes=[] then EJ m k s 1 0 else AE m k { s with at_:=0,step:=4 }) else Ek m k s 3
def Vv (m:Ad) (k:Nat) (s:Ai):Option Ad :=
 match s.writes[s.at_.toNat]? with
 | some w=>some (if s.at_+1=s.writes.length then EJ (BY m k s w) k { s with at_:=s.at_+1 } 1 0 else BY m k s w)
 | none=>none
def FV (m:Ad) (k:Nat) (s:Ai):Option Ad :=
 if s.step=0 then some (Tz m k s)
 else if s.step=1 then Ut m k s
 else if s.step=2 then some (Mi m k s)
 else if s.step=3 then some (My m k s)
 else if s.step=4 then Vv m k s
 else if s.step=5 then some (Tf m k s)
 else some m
section
variable {m:Ad} {k:Nat} {s:Ai} (hs:m.sess[k]?=some s) (hM:Bt m) (hS:SP m.words s)
include hs hM hS
theorem a3b (hst:s.step=0):Fi m k s=(Tz m k s,0):=by
 have hp:=AL.1 hS.pc
 unfold Fi Tz
 cases hx:s.prog[s.pc.toNat]? with
 | some x =>
  have hpn:s.pc=((s.pc.toNat:Nat):Int):=by omega
  have hcur:=DP hs hM hst hpn hx
  obtain ⟨hxm,hz,hth⟩:=Dk hS hx
  simp only
  by_cases hc:x.code=2
  ·rw [if_pos hc,if_pos hc]
   have hne:Co m k=(!Aj x.b s.label,0):=by unfold Co;rw [hcur];simp only [hc,if_true]
   rw [hne]
   cases hu:Aj x.b s.label
   ·simp only [Bool.not_false,if_true,Bool.false_eq_true,if_false]
    unfold SF BI
    rw [hcur]
    simp only [hc,hu,Bool.false_eq_true,if_true,if_false,Int.toNat_natCast]
    by_cases hcl:Aj (orI s.label x.b) s.clear=true
    ·rw [if_pos hcl,if_pos hcl];rfl
    ·rw [if_neg hcl,if_neg hcl];exact Gn hs hM (by decide) (by decide)
   ·simp only [Bool.not_true,if_true,Bool.false_eq_true,if_false]
    have hf:Bj s.writes x.b x.c=BD x.b x.c s.writes:=by unfold Bj;rw [if_pos hS.writes]
    have hg:(Cn m.words s.reads s.id).1=s.reads.all (Cy m.words s.id):=by rw [LK hM hS]
    have hwm:=NX hM.arena (hth (.inl hc))
    simp only [AO,Bool.and_eq_true] at hwm
    have hl:=CW hxm (.inl hc)
    have hr1:CD ⟨x.b,x.c,(BN m.words x.b x.c).ver⟩=true:=by simp only [CD,hl.1,hl.2,hwm.1.2];rfl
    have hwr:(Bg s.reads ⟨x.b,x.c,(BN m.words x.b x.c).ver⟩).1=PZ s.reads ⟨x.b,x.c,(BN m.words x.b x.c).ver⟩:=by
     rcases Ka hS.reads hr1 with ⟨h,h2⟩ | ⟨h,h2,_⟩
     ·rw [h];unfold PZ;rw [if_pos h2]
     ·rw [h];unfold PZ;rw [h2];rfl
    unfold Cp Sz
    rw [hcur]
    simp only [hc,hu,if_true,hf,hg,hwr,Int.toNat_natCast]
    by_cases h1:(BD x.b x.c s.writes).2=true
    ·rw [if_pos h1,if_pos h1]
    ·rw [if_neg h1,if_neg h1]
     by_cases h2:s.reads.all (Cy m.words s.id)=true∧(BN m.words x.b x.c).lock=0
     ·rw [if_pos h2,if_pos h2]
     ·rw [if_neg h2,if_neg h2];exact Gh hs hM (.inl rfl)
  ·rw [if_neg hc,if_neg hc]
   by_cases hc:x.code=3
   ·rw [if_pos hc,if_pos hc]
    have hl:=CW hxm (.inr hc)
    have hw1:AF ⟨x.b,x.c,s.regs.get x.a⟩=true:=by simp only [AF,hl.1,hl.2,TD hS.regs];rfl
    obtain ⟨hr1,_⟩:=NW hS.writes hw1
    unfold CH VM;rw [hcur];simp only [hc,if_true,Int.toNat_natCast,hr1]
   ·rw [if_neg hc,if_neg hc]
    by_cases hc:x.code=5
    ·rw [if_pos hc,if_pos hc]
     unfold Cx jD;rw [hcur];simp only [hc,if_true,Int.toNat_natCast]
    ·rw [if_neg hc,if_neg hc]
     by_cases hc:x.code=6
     ·rw [if_pos hc,if_pos hc];exact Gn hs hM (by decide) (Mr hxm hc)
     ·rw [if_neg hc,if_neg hc]
      have hcd:=Kg hxm
      have ha:=Fo hxm (by omega)
      unfold CA aD;rw [hcur]
      simp only [Int.toNat_natCast]
      by_cases h0:x.code=0
      ·rw [if_pos h0,if_pos h0];simp only [Mj,hS.regs,ha,LG hxm h0,Bool.and_self,if_true]
      ·rw [if_neg h0,if_neg h0]
       by_cases h1:x.code=1
       ·rw [if_pos h1,if_pos h1];simp only [MM,hS.regs,ha,LH hxm h1,Bool.and_self,if_true]
       ·have h4:x.code=4:=by omega
        rw [if_neg h1,if_neg h1,if_pos h4]
 | none =>
  simp only
  unfold Ex ZJ DY
  rw [hS.writes,Bool.true_and,Int.toNat_natCast]
  by_cases h:(s.writes.all fun w=>decide (w.level=s.label))=true
  ·rw [if_pos h,if_pos h]
  ·rw [if_neg h,if_neg h];exact Gn hs hM (by decide) (by decide)
theorem ZI {st:Int} (h:s.step=st):EI m k st=match s.writes[s.at_.toNat]? with
 | some w=>some (s,w)
 | none=>none:=by
 unfold EI;rw [Ct hs hM h];rfl
theorem pW:Cm m k=match FV m k s with
 | some A=>(A,0)
 | none=>(Az,2300):=by
 have hh:=Bs hs hM
 have e:Cm m k=if (Br m k s).2=0 then ((Br m k s).1,0) else (Az,2300):=by
  unfold Cm;rw [if_pos hh,Int.toNat_natCast,hs]
 rw [e]
 unfold Br FV
 by_cases h0:s.step=0
 ·rw [if_pos h0,if_pos h0,a3b hs hM hS h0];rfl
 rw [if_neg h0,if_neg h0]
 by_cases h1:s.step=1
 ·rw [if_pos h1,if_pos h1]
  unfold Ed Ut
  rw [ZI hs hM hS h1]
  cases s.writes[s.at_.toNat]? with
  | none=>rfl
  | some w =>
   simp only [Int.toNat_natCast]
   by_cases hl:(BN m.words w.level w.index).lock=0
   ·simp only [hl,if_true]
   ·simp only [hl,if_false];rw [Gh hs hM (.inl rfl)];rfl
 rw [if_neg h1,if_neg h1]
 by_cases h2:s.step=2
 ·rw [if_pos h2,if_pos h2]
  unfold Do Mi
  rw [Ct hs hM h2]
  simp only [Int.toNat_natCast]
  by_cases hc:m.ceil≤m.clocks.get s.label
  ·simp only [hc,if_true];rw [Gn hs hM (by decide) (by decide)];rfl
  ·simp only [hc,if_false];rfl
 rw [if_neg h2,if_neg h2]
 by_cases h3:s.step=3
 ·rw [if_pos h3,if_pos h3]
  unfold Dr My
  rw [Ct hs hM h3]
  simp only [Int.toNat_natCast]
  rw [LK hM hS]
  simp only
  by_cases hg:s.reads.all (Cy m.words s.id)=true
  ·simp only [hg,if_true]
   by_cases hw:s.writes=[]
   ·simp only [hw,if_true];rw [Gn hs hM (by decide) (by decide)];rfl
   ·simp only [hw,if_false];rfl
  ·simp only [hg,Bool.false_eq_true,if_false];rw [Gh hs hM (.inl rfl)];rfl
 rw [if_neg h3,if_neg h3]
 by_cases h4:s.step=4
 ·rw [if_pos h4,if_pos h4]
  unfold Ei Vv
  rw [ZI hs hM hS h4]
  cases hw:s.writes[s.at_.toNat]? with
  | none=>rfl
  | some w =>
   simp only
   have hat:=AL.1 hS.at_
   have hn:=Ax hw
   have hpn:s.at_=((s.at_.toNat:Nat):Int):=by omega
   obtain ⟨g1,g2⟩:=JS hS hw
   simp only [AF,Bool.and_eq_true] at g2
   have hmay:=PY hs hM hS hpn hn g2.2
   have hs1:(BY m k s w).sess[k]?=some { s with at_:=s.at_+1 }:=List.getElem?_set_self (by simpa [FF] using Ax hs)
   by_cases hl:s.at_+1=s.writes.length
   ·simp only [hl,if_true]
    have:=Gn hs1 hmay (r:=1) (t:=0) (by decide) (by decide)
    rw [this]
    simp only [hl];rfl
   ·simp only [hl,if_false];rfl
 rw [if_neg h4,if_neg h4]
 by_cases h5:s.step=5
 ·rw [if_pos h5,if_pos h5]
  have e0:Cx m k=if (BP m.words s.reads).1=true then BK m k 5 else (m,0):=by
   unfold Cx;rw [CL hs hM (by omega),Ct hs hM h5]
  rw [e0,UR hM hS]
  unfold Tf
  simp only
  by_cases hc:s.reads.any (Fb m.words)=true
  ·simp only [hc,if_true];rw [Gh hs hM (.inr rfl)];rfl
  ·simp only [hc,Bool.false_eq_true,if_false];rfl
 rw [if_neg h5,if_neg h5]
 rfl
end
end Ve
namespace Ve
open Go
structure SI (s:Ai):Prop where
 at_:(s.step=1∨s.step=4)→s.at_<s.writes.length
 lvl:(1≤s.step∧s.step≤4)→∀ w∈s.writes,w.level=s.label
 rd:∀ r∈s.reads,Aj r.level s.label=true
structure Held (m:Ad) (h:Int) (i:Nat) (w:Ap) (s:Ai):Prop where
 mem:s∈m.sess
 id:w.lock=s.id+1
 label:s.label=h
 step:1≤s.step∧s.step≤4
 wr:∃ p∈s.writes,p.level=h∧p.index=i
structure Inv (m:Ad):Prop where
 may:Bt m
 sess:∀ s∈m.sess,SI s
 lock:∀ (h:Int) (i:Nat) (w:Ap),inR h 3=true→(m.words.get h)[i]?=some w→w.lock≠0→∃ s,Held m h i w s
theorem Hs {α:Type} {l:List α} {k:Nat} {x y t:α} (hs:l[k]?=some x) (hy:y∈l) (hne:y≠x):y∈l.set k t:=by
 obtain ⟨j,hj⟩:=List.getElem?_of_mem hy
 have hjk:k≠j:=by
  rintro rfl
  rw [hs] at hj;cases hj;exact hne rfl
 exact List.mem_of_getElem? (i:=j) (by rw [List.getElem?_set_ne hjk];exact hj)
theorem OO:∀ (l:List Ai) (o:Option Int),KM o (l.map (·.id))=true→(∀ v,o=some v→∀ s∈l,v<s.id)∧l.Pairwise (fun a b=>a.id<b.id)
 | [],o,_=>⟨by simp,List.Pairwise.nil⟩
 | a::l,none,h=>by
  simp only [List.map_cons,KM] at h
  obtain ⟨h1,h2⟩:=OO l (some a.id) h
  exact ⟨fun v hv=>(by cases hv),List.pairwise_cons.2 ⟨fun s hs=>h1 _ rfl s hs,h2⟩⟩
 | a::l,some v,h=>by
  simp only [List.map_cons,KM,Bool.and_eq_true,decide_eq_true_eq] at h
  obtain ⟨h1,h2⟩:=OO l (some a.id) h.2
  refine ⟨fun v' hv s hs=>?_,List.pairwise_cons.2 ⟨fun s hs=>h1 _ rfl s hs,h2⟩⟩
  cases hv
  rcases List.mem_cons.1 hs with rfl | hs
  ·exact h.1
  ·exact Int.lt_trans h.1 (h1 _ rfl s hs)
theorem WG {m:Ad} (hM:Bt m) {s s':Ai} (h:s∈m.sess) (h':s'∈m.sess) (e:s.id=s'.id):s=s':=by
 have hp:=(OO m.sess none hM.ids).2
 obtain ⟨i,hi⟩:=List.getElem?_of_mem h
 obtain ⟨j,hj⟩:=List.getElem?_of_mem h'
 have hi':=Ax hi
 have hj':=Ax hj
 rw [List.getElem?_eq_getElem hi'] at hi
 rw [List.getElem?_eq_getElem hj'] at hj
 rw [List.pairwise_iff_getElem] at hp
 rcases Nat.lt_trichotomy i j with h | h | h
 ·have:=hp i j hi' hj' h
  simp only [Option.some.injEq] at hi hj
  rw [hi,hj] at this;omega
 ·subst h;rw [hi] at hj;exact Option.some.inj hj
 ·have:=hp j i hj' hi' h
  simp only [Option.some.injEq] at hi hj
  rw [hi,hj] at this;omega
section
variable {m:Ad} {k:Nat} {s:Ai} (hs:m.sess[k]?=some s) (hI:Inv m)
include hs hI
theorem Ju {t:Ai} (ht:SI t):∀ x∈m.sess.set k t,SI x:=by
 intro x hx
 rcases List.mem_or_eq_of_mem_set hx with h | rfl
 ·exact hI.sess x h
 ·exact ht
theorem Up {A:Ad} {t:Ai} (hA:Bt A) (hw:A.words=(BC (s.id+1) m).words) (hx:A.sess=m.sess.set k t) (ht:SI t):Inv A:=by
 refine ⟨hA,by rw [hx];exact Ju hs hI ht,fun h i w hh hg hl=>?_⟩
 rw [hw,Uu] at hg
 cases hv:(m.words.get h)[i]? with
 | none=>rw [hv] at hg;cases hg
 | some v =>
  rw [hv,Option.map_some] at hg
  cases hg
  have hne:v.lock≠s.id+1:=by
   intro e;apply hl;unfold As;rw [if_pos e]
  have hvw:As (s.id+1) v=v:=by unfold As;rw [if_neg hne]
  rw [hvw] at hl ⊢
  obtain ⟨s',h1,h2,h3,h4,h5⟩:=hI.lock h i v hh hv hl
  exact ⟨s',by rw [hx];exact Hs hs h1 (fun e=>hne (by rw [h2,e])),h2,h3,h4,h5⟩
theorem Gc {A:Ad} {t:Ai} (hA:Bt A) (hw:A.words=m.words) (hx:A.sess=m.sess.set k t) (ht:SI t) (h:(1≤s.step∧s.step≤4)→t.id=s.id∧t.label=s.label∧(1≤t.step∧t.step≤4)∧t.writes=s.writes):Inv A:=by
 refine ⟨hA,by rw [hx];exact Ju hs hI ht,fun g i w hh hg hl=>?_⟩
 rw [hw] at hg
 obtain ⟨s',h1,h2,h3,h4,h5⟩:=hI.lock g i w hh hg hl
 by_cases e:s'=s
 ·subst e
  obtain ⟨a,b,c,d⟩:=h h4
  exact ⟨t,by rw [hx];exact List.mem_of_getElem? (List.getElem?_set_self (Ax hs)),by rw [a];exact h2,by rw [b];exact h3,c,by rw [d];exact h5⟩
 ·exact ⟨s',by rw [hx];exact Hs hs h1 e,h2,h3,h4,h5⟩
theorem fU:SI (BJ s):=⟨fun h=>(by rcases h with h | h<;>cases h),fun h=>(by simp only [BJ] at h;omega),fun r hr=>by simp [BJ,DH] at hr⟩
theorem a2h (r t:Int):SI (Gp s r t):=⟨fun h=>(by rcases h with h | h<;>cases h),fun h=>(by simp only [Gp] at h;omega),fun r hr=>by simp [Gp,DH] at hr⟩
theorem LE (kind:Int):Inv (Ek m k s kind):=Up hs hI (Vy hs hI.may kind) (IG kind) (Km kind) (fU hs hI)
theorem Ib {r t:Int} (hr:inR r 5=true) (ht:inR t 255=true):Inv (EJ m k s r t):=Up hs hI (QW hs hI.may hr ht) (Nl r t) (KN r t) (a2h hs hI r t)
end
end Ve
namespace Ve
open Go
theorem IS {a b c:Int} (ha:inR a 3=true) (hb:inR b 3=true) (hc:inR c 3=true) (h1:Aj a b=true) (h2:Aj b c=true):Aj a c=true:=by
 rcases Fm ha with rfl | rfl | rfl | rfl<;>rcases Fm hb with rfl | rfl | rfl | rfl<;>rcases Fm hc with rfl | rfl | rfl | rfl<;>revert h1 h2<;>decide
section
variable {m:Ad} {k:Nat} {s:Ai} (hs:m.sess[k]?=some s) (hI:Inv m)
include hs hI
theorem Jt:SP m.words s:=(sp _ _).1 (hI.may.sess s (List.mem_of_getElem? hs))
theorem LC {t:Ai} (e:AY) (hA:Bt (Ba (AE m k t) e)) (ht:SI t) (h:(1≤s.step∧s.step≤4)→t.id=s.id∧t.label=s.label∧(1≤t.step∧t.step≤4)∧t.writes=s.writes):Inv (Ba (AE m k t) e) :=
 Gc hs hI hA (by rw [Dw];rfl) (by rw [DL];rfl) ht h
theorem uB (hst:s.step=0) (hA:Bt (Tz m k s)):Inv (Tz m k s):=by
 have hS:=Jt hs hI
 have hM:=hI.may
 have hSI:=hI.sess s (List.mem_of_getElem? hs)
 have hno:(1≤s.step∧s.step≤4)→False:=by omega
 have hp:=AL.1 hS.pc
 unfold Tz at hA ⊢
 cases hx:s.prog[s.pc.toNat]? with
 | some x =>
  rw [hx] at hA
  simp only at hA ⊢
  obtain ⟨hxm,_,_⟩:=Dk hS hx
  by_cases hc:x.code=2
  ·rw [if_pos hc] at hA ⊢
   cases hu:Aj x.b s.label
   ·rw [hu] at hA
    simp only [Bool.false_eq_true,if_false] at hA ⊢
    unfold SF at hA ⊢
    by_cases hcl:Aj (orI s.label x.b) s.clear=true
    ·rw [if_pos hcl] at hA ⊢
     obtain ⟨o1,o2,_,_⟩:=jG hS.label (CW hxm (.inl hc)).1
     refine Gc hs hI hA fJ YV ⟨fun h=>?_,fun h=>(hno h).elim,fun r hr=>?_⟩ (fun h=>(hno h).elim)
     ·simp only at h;omega
     ·have h1:=hSI.rd r hr
      have hrl:inR r.level 3=true:=by
       have:=(Ml hS.reads).1 r hr
       simp only [CD,Bool.and_eq_true] at this;exact this.1.1
      refine IS hrl hS.label o1 h1 ?_
      unfold Aj;rw [decide_eq_true_eq]
      have:orI s.label (orI s.label x.b)=orI (orI s.label x.b) s.label:=by simp only [orI,BitVec.or_comm]
      rw [this];exact o2
    ·rw [if_neg hcl];exact Ib hs hI (by decide) (by decide)
   ·rw [hu] at hA
    simp only [if_true] at hA ⊢
    unfold Sz at hA ⊢
    by_cases h1:(BD x.b x.c s.writes).2=true
    ·rw [if_pos h1] at hA ⊢
     refine LC hs hI _ hA ⟨fun h=>?_,fun h=>(hno h).elim,hSI.rd⟩ (fun h=>(hno h).elim)
     simp only [Di] at h;omega
    ·rw [if_neg h1] at hA ⊢
     by_cases h2:s.reads.all (Cy m.words s.id)=true∧(BN m.words x.b x.c).lock=0
     ·rw [if_pos h2] at hA ⊢
      refine LC hs hI _ hA ⟨fun h=>?_,fun h=>(hno h).elim,fun r hr=>?_⟩ (fun h=>(hno h).elim)
      ·simp only [Di] at h;omega
      ·show Aj r.level s.label=true
       simp only [Di,PZ] at hr
       split at hr
       ·exact hSI.rd r hr
       ·rcases List.mem_append.1 hr with hr | hr
        ·exact hSI.rd r hr
        ·simp only [List.mem_singleton] at hr;subst hr;exact hu
     ·rw [if_neg h2];exact LE hs hI 3
  ·rw [if_neg hc] at hA ⊢
   by_cases hc:x.code=3
   ·rw [if_pos hc] at hA ⊢
    unfold VM at hA ⊢
    refine LC hs hI _ hA ⟨fun h=>?_,fun h=>(hno h).elim,hSI.rd⟩ (fun h=>(hno h).elim)
    simp only at h;omega
   ·rw [if_neg hc] at hA ⊢
    by_cases hc:x.code=5
    ·rw [if_pos hc] at hA ⊢
     unfold jD at hA ⊢
     refine LC hs hI _ hA ⟨fun h=>?_,fun h=>?_,hSI.rd⟩ (fun h=>(hno h).elim)
     ·simp only at h;omega
     ·simp only at h;omega
    ·rw [if_neg hc] at hA ⊢
     by_cases hc:x.code=6
     ·rw [if_pos hc];exact Ib hs hI (by decide) (Mr hxm hc)
     ·rw [if_neg hc] at hA ⊢
      unfold aD at hA ⊢
      by_cases h0:x.code=0
      ·rw [if_pos h0] at hA ⊢
       exact Gc hs hI hA rfl rfl ⟨fun h=>(by simp only at h;omega),fun h=>(hno h).elim,hSI.rd⟩ (fun h=>(hno h).elim)
      ·rw [if_neg h0] at hA ⊢
       by_cases h1:x.code=1
       ·rw [if_pos h1] at hA ⊢
        exact Gc hs hI hA rfl rfl ⟨fun h=>(by simp only at h;omega),fun h=>(hno h).elim,hSI.rd⟩ (fun h=>(hno h).elim)
       ·rw [if_neg h1] at hA ⊢
        exact Gc hs hI hA rfl rfl ⟨fun h=>(by simp only at h;omega),fun h=>(hno h).elim,hSI.rd⟩ (fun h=>(hno h).elim)
 | none =>
  rw [hx] at hA
  simp only at hA ⊢
  unfold ZJ at hA ⊢
  by_cases h:(s.writes.all fun w=>decide (w.level=s.label))=true
  ·rw [if_pos h] at hA ⊢
   refine Gc hs hI hA rfl rfl ⟨fun h'=>?_,fun _ w hw=>?_,hSI.rd⟩ (fun h=>(hno h).elim)
   ·simp only at h' ⊢
    by_cases hw:s.writes=[]
    ·simp only [hw,if_true] at h';omega
    ·have:=List.length_pos_iff.2 hw;omega
   ·have:=(List.all_eq_true.1 h) w hw
    simpa using this
  ·rw [if_neg h];exact Ib hs hI (by decide) (by decide)
theorem lI (hst:s.step=1):∃ A,Ut m k s=some A∧(Bt A→Inv A):=by
 have hS:=Jt hs hI
 have hSI:=hI.sess s (List.mem_of_getElem? hs)
 have hat:=AL.1 hS.at_
 have hlt:=hSI.at_ (.inl hst)
 have hn:s.at_.toNat<s.writes.length:=by omega
 unfold Ut
 rw [List.getElem?_eq_getElem hn]
 refine ⟨_,rfl,fun hA=>?_⟩
 have hmem:s.writes[s.at_.toNat]∈s.writes:=List.getElem_mem hn
 generalize s.writes[s.at_.toNat]=w at hmem hA ⊢
 have hid:=AL.1 hS.id
 by_cases hl:(BN m.words w.level w.index).lock=0
 ·rw [if_pos hl] at hA ⊢
  have hw1:=(Cz hS.writes).1 w hmem
  simp only [AF,Bool.and_eq_true] at hw1
  have hlv:=hSI.lvl (by omega) w hmem
  have ht:SI { s with at_:=s.at_+1,step:=if s.at_+1=s.writes.length then 2 else s.step }:=by
   refine ⟨fun h=>?_,fun _=>hSI.lvl (by omega),hSI.rd⟩
   simp only at h ⊢
   by_cases hc:s.at_+1=s.writes.length
   ·rw [if_pos hc] at h;omega
   ·omega
  have hstep:1≤(if s.at_+1=(s.writes.length:Int) then (2:Int) else s.step)∧(if s.at_+1=(s.writes.length:Int) then (2:Int) else s.step)≤4:=by
   split<;>omega
  refine ⟨hA,Ju hs hI ht,fun h i v hh hg hlk=>?_⟩
  have hk:=Ax hs
  have hmt:({ s with at_:=s.at_+1,step:=if s.at_+1=s.writes.length then 2 else s.step }:Ai)∈m.sess.set k { s with at_:=s.at_+1,step:=if s.at_+1=s.writes.length then 2 else s.step }:=List.mem_of_getElem? (List.getElem?_set_self hk)
  have hlen:i<((Fh m.words w.level w.index { BN m.words w.level w.index with lock:=s.id+1 }).get h).length:=Ax hg
  obtain ⟨q0,q1,q2,q3⟩:=IX m.words w.level w.index { BN m.words w.level w.index with lock:=s.id+1 }
  rw [OS q0 q1 q2 q3] at hlen
  have hv:=List.getElem?_eq_getElem hlen
  have hr:=Jz m.words w { BN m.words w.level w.index with lock:=s.id+1 } h i _ hh hw1.1.1 (by have:=hw1.1.2;rw [AL] at this;exact this.1) hv
  have hg':((Fh m.words w.level w.index { BN m.words w.level w.index with lock:=s.id+1 }).get h)[i]?=some v:=hg
  rw [hr] at hg'
  cases hg'
  by_cases hc:(decide (h=w.level)&&decide ((i:Int)=w.index))=true
  ·rw [if_pos hc] at hlk ⊢
   simp only [Bool.and_eq_true,decide_eq_true_eq] at hc
   exact ⟨_,hmt,rfl,by rw [hc.1];exact hlv.symm,hstep,w,hmem,hc.1.symm,hc.2.symm⟩
  ·rw [if_neg hc] at hlk ⊢
   obtain ⟨s',h1,h2,h3,h4,h5⟩:=hI.lock h i _ hh hv hlk
   by_cases e:s'=s
   ·subst e;exact ⟨_,hmt,h2,h3,hstep,h5⟩
   ·exact ⟨s',Hs hs h1 e,h2,h3,h4,h5⟩
 ·rw [if_neg hl];exact LE hs hI 3
theorem dK (hst:s.step=2) (hA:Bt (Mi m k s)):Inv (Mi m k s):=by
 have hSI:=hI.sess s (List.mem_of_getElem? hs)
 unfold Mi at hA ⊢
 by_cases hc:m.ceil≤m.clocks.get s.label
 ·rw [if_pos hc];exact Ib hs hI (by decide) (by decide)
 ·rw [if_neg hc] at hA ⊢
  exact Gc hs hI hA rfl rfl ⟨fun h=>(by simp only at h;omega),fun _=>hSI.lvl (by omega),hSI.rd⟩ (fun _=>⟨rfl,rfl,by simp only;omega,rfl⟩)
theorem dL (hst:s.step=3) (hA:Bt (My m k s)):Inv (My m k s):=by
 have hSI:=hI.sess s (List.mem_of_getElem? hs)
 unfold My at hA ⊢
 by_cases hg:s.reads.all (Cy m.words s.id)=true
 ·rw [if_pos hg] at hA ⊢
  by_cases hw:s.writes=[]
  ·rw [if_pos hw];exact Ib hs hI (by decide) (by decide)
  ·rw [if_neg hw] at hA ⊢
   have:=List.length_pos_iff.2 hw
   exact Gc hs hI hA rfl rfl ⟨fun _=>(by simp only;omega),fun _=>hSI.lvl (by omega),hSI.rd⟩ (fun _=>⟨rfl,rfl,by simp only;omega,rfl⟩)
 ·rw [if_neg hg];exact LE hs hI 3
theorem dJ {w:Ao} (hst:s.step=4) (hmem:w∈s.writes) (hA:Bt (BY m k s w)) (hlt:s.at_+1<s.writes.length∨True) (ht:SI { s with at_:=s.at_+1 }):Inv (BY m k s w):=by
 have hS:=Jt hs hI
 have hw1:=(Cz hS.writes).1 w hmem
 simp only [AF,Bool.and_eq_true] at hw1
 have hk:=Ax hs
 refine ⟨hA,Ju hs hI ht,fun h i v hh hg hlk=>?_⟩
 have hmt:({ s with at_:=s.at_+1 }:Ai)∈m.sess.set k { s with at_:=s.at_+1 }:=List.mem_of_getElem? (List.getElem?_set_self hk)
 obtain ⟨q0,q1,q2,q3⟩:=IX m.words w.level w.index ⟨w.val,s.stamp,0⟩
 have hlen:i<((Fh m.words w.level w.index ⟨w.val,s.stamp,0⟩).get h).length:=Ax hg
 rw [OS q0 q1 q2 q3] at hlen
 have hv:=List.getElem?_eq_getElem hlen
 have hr:=Jz m.words w ⟨w.val,s.stamp,0⟩ h i _ hh hw1.1.1 (by have:=hw1.1.2;rw [AL] at this;exact this.1) hv
 have hg':((Fh m.words w.level w.index ⟨w.val,s.stamp,0⟩).get h)[i]?=some v:=hg
 rw [hr] at hg'
 cases hg'
 by_cases hc:(decide (h=w.level)&&decide ((i:Int)=w.index))=true
 ·rw [if_pos hc] at hlk;exact absurd rfl hlk
 ·rw [if_neg hc] at hlk ⊢
  obtain ⟨s',h1,h2,h3,h4,h5⟩:=hI.lock h i _ hh hv hlk
  by_cases e:s'=s
  ·subst e;exact ⟨_,hmt,h2,h3,h4,h5⟩
  ·exact ⟨s',Hs hs h1 e,h2,h3,h4,h5⟩
theorem lJ {w:Ao} (hmem:w∈s.writes) (hA:Bt (EJ (BY m k s w) k { s with at_:=s.at_+1 } 1 0)):Inv (EJ (BY m k s w) k { s with at_:=s.at_+1 } 1 0):=by
 have hS:=Jt hs hI
 have hw1:=(Cz hS.writes).1 w hmem
 simp only [AF,Bool.and_eq_true] at hw1
 have hk:=Ax hs
 have hse:(EJ (BY m k s w) k { s with at_:=s.at_+1 } 1 0).sess=m.sess.set k (Gp { s with at_:=s.at_+1 } 1 0):=by
  rw [KN];simp [BY,AE,FF]
 refine ⟨hA,by rw [hse];exact Ju hs hI ⟨fun h=>(by rcases h with h | h<;>cases h),fun h=>(by simp only [Gp] at h;omega),fun r hr=>by simp [Gp,DH] at hr⟩,fun h i v hh hg hlk=>?_⟩
 rw [Nl,Uu] at hg
 obtain ⟨q0,q1,q2,q3⟩:=IX m.words w.level w.index ⟨w.val,s.stamp,0⟩
 cases hv:((BY m k s w).words.get h)[i]? with
 | none=>rw [hv] at hg;cases hg
 | some u =>
  rw [hv,Option.map_some] at hg
  cases hg
  have hne:u.lock≠s.id+1:=by
   intro e;apply hlk;show (As (s.id+1) u).lock=0;unfold As;rw [if_pos e]
  have huw:As (s.id+1) u=u:=by unfold As;rw [if_neg hne]
  have hlk':u.lock≠0:=by
   intro e;apply hlk;show (As (s.id+1) u).lock=0;rw [huw];exact e
  show ∃ s',Held _ h i (As (s.id+1) u) s'
  rw [huw]
  have hlen:i<((Fh m.words w.level w.index ⟨w.val,s.stamp,0⟩).get h).length:=Ax hv
  rw [OS q0 q1 q2 q3] at hlen
  have hv0:=List.getElem?_eq_getElem hlen
  have hr:=Jz m.words w ⟨w.val,s.stamp,0⟩ h i _ hh hw1.1.1 (by have:=hw1.1.2;rw [AL] at this;exact this.1) hv0
  have hv':((Fh m.words w.level w.index ⟨w.val,s.stamp,0⟩).get h)[i]?=some u:=hv
  rw [hr] at hv'
  cases hv'
  by_cases hc:(decide (h=w.level)&&decide ((i:Int)=w.index))=true
  ·rw [if_pos hc] at hlk';exact absurd rfl hlk'
  ·rw [if_neg hc] at hlk' hne ⊢
   obtain ⟨s',h1,h2,h3,h4,h5⟩:=hI.lock h i _ hh hv0 hlk'
   exact ⟨s',by rw [hse];exact Hs hs h1 (fun e=>hne (by rw [h2,e])),h2,h3,h4,h5⟩
theorem lK (hst:s.step=4):∃ A,Vv m k s=some A∧(Bt A→Inv A):=by
 have hS:=Jt hs hI
 have hSI:=hI.sess s (List.mem_of_getElem? hs)
 have hat:=AL.1 hS.at_
 have hlt:=hSI.at_ (.inr hst)
 have hn:s.at_.toNat<s.writes.length:=by omega
 unfold Vv
 rw [List.getElem?_eq_getElem hn]
 refine ⟨_,rfl,fun hA=>?_⟩
 have hmem:s.writes[s.at_.toNat]∈s.writes:=List.getElem_mem hn
 generalize s.writes[s.at_.toNat]=w at hmem hA ⊢
 by_cases hl:s.at_+1=s.writes.length
 ·rw [if_pos hl] at hA ⊢;exact lJ hs hI hmem hA
 ·rw [if_neg hl] at hA ⊢
  exact dJ hs hI hst hmem hA (.inr trivial) ⟨fun _=>(by simp only;omega),fun _=>hSI.lvl (by omega),hSI.rd⟩
theorem LD:∃ A,Cm m k=(A,0)∧FV m k s=some A∧Inv A∧∃ t,Ey m A k s t:=by
 have hS:=Jt hs hI
 have hM:=hI.may
 have he:=pW hs hM hS
 have key:∀ A,FV m k s=some A→(Bt A→Inv A)→∃ A,Cm m k=(A,0)∧FV m k s=some A∧Inv A∧∃ t,Ey m A k s t:=by
  intro A hA hi
  rw [hA] at he
  obtain ⟨t,ht⟩:=IV hs hM hS (by rw [he])
  rw [he] at ht
  exact ⟨A,he,hA,hi ht.may,t,ht⟩
 by_cases h0:s.step=0
 ·exact key _ (by unfold FV;rw [if_pos h0]) (uB hs hI h0)
 by_cases h1:s.step=1
 ·obtain ⟨A,hA,hi⟩:=lI hs hI h1
  exact key A (by unfold FV;rw [if_neg h0,if_pos h1];exact hA) hi
 by_cases h2:s.step=2
 ·exact key _ (by unfold FV;rw [if_neg h0,if_neg h1,if_pos h2]) (dK hs hI h2)
 by_cases h3:s.step=3
 ·exact key _ (by unfold FV;rw [if_neg h0,if_neg h1,if_neg h2,if_pos h3]) (dL hs hI h3)
 by_cases h4:s.step=4
 ·obtain ⟨A,hA,hi⟩:=lK hs hI h4
  exact key A (by unfold FV;rw [if_neg h0,if_neg h1,if_neg h2,if_neg h3,if_pos h4];exact hA) hi
 by_cases h5:s.step=5
 ·refine key (Tf m k s) (by unfold FV;rw [if_neg h0,if_neg h1,if_neg h2,if_neg h3,if_neg h4,if_pos h5]) (fun _=>?_)
  unfold Tf
  split
  ·exact LE hs hI 5
  ·exact hI
 ·exact key m (by unfold FV;rw [if_neg h0,if_neg h1,if_neg h2,if_neg h3,if_neg h4,if_neg h5]) (fun _=>hI)
end
end Ve
namespace Ve
open Go
theorem FA:∀ (l:List Ai) (g:Int) (b:Nat) (k:Nat),k∈BR g b l→∃ s,b≤k∧l[k - b]?=some s∧EZ g s=true
 | [],g,b,k,h=>by simp [BR] at h
 | a::r,g,b,k,h=>by
  unfold BR at h
  by_cases ht:EZ g a=true
  ·rw [if_pos ht] at h
   rcases List.mem_cons.1 h with rfl | h
   ·exact ⟨a,Nat.le_refl _,by simp,ht⟩
   ·obtain ⟨s,h1,h2,h3⟩:=FA r g (b+1) k h
    refine ⟨s,by omega,?_,h3⟩
    rw [show k - b=(k - (b+1))+1 by omega];exact h2
  ·rw [if_neg ht] at h
   obtain ⟨s,h1,h2,h3⟩:=FA r g (b+1) k h
   refine ⟨s,by omega,?_,h3⟩
   rw [show k - b=(k - (b+1))+1 by omega];exact h2
theorem aL {m:Ad} (hM:Bt m) {x:AR} (hx:AP x=true):CM m x=(0,false,0)∨∃ (k:Nat) (s:Ai),CM m x=((k:Int),true,0)∧m.sess[k]?=some s∧s.label=x.level∧s.step≠6:=by
 unfold CM
 rw [(Nv m).2 hM,hx]
 simp only [Bool.and_self,if_true]
 cases h:(IM m x.level)[x.pick.toNat % (IM m x.level).length]? with
 | none=>exact .inl rfl
 | some k =>
  right
  obtain ⟨s,_,h2,h3⟩:=FA m.sess x.level 0 k (List.mem_of_getElem? h)
  simp only [EZ,Bool.and_eq_true,decide_eq_true_eq,Bool.not_eq_true',decide_eq_false_iff_not] at h3
  exact ⟨k,s,rfl,by simpa using h2,h3.1,h3.2⟩
theorem VP {m:Ad} (hI:Inv m) {x:AR} (hx:AP x=true):Bl m x=(m,0)∨∃ (k:Nat) (s t:Ai) (A:Ad),CM m x=((k:Int),true,0)∧m.sess[k]?=some s∧s.label=x.level∧s.step≠6∧Bl m x=(A,0)∧Cm m k=(A,0)∧FV m k s=some A∧Inv A∧Ey m A k s t:=by
 rcases aL hI.may hx with h | ⟨k,s,h,hs,hl,hst⟩
 ·left;unfold Bl;rw [h];rfl
 ·right
  obtain ⟨A,h1,h2,h3,t,h4⟩:=LD hs hI
  refine ⟨k,s,t,A,h,hs,hl,hst,?_,h1,h2,h3,h4⟩
  unfold Bl;rw [h];simp only [if_true,h1]
theorem Oe {m:Ad} (hI:Inv m) {x:AR} (hx:AP x=true):(Bl m x).2=0∧Inv (Bl m x).1∧(Bl m x).1.trace.length≤m.trace.length+1∧(Bl m x).1.sess.length=m.sess.length∧(Bl m x).1.ceil=m.ceil:=by
 rcases VP hI hx with h | ⟨k,s,t,A,_,hs,_,_,h,_,_,hA,hL⟩
 ·rw [h];exact ⟨rfl,hI,Nat.le_succ _,rfl,rfl⟩
 ·rw [h]
  refine ⟨rfl,hA,?_,by rw [hL.sess];simp,hL.ceil⟩
  rcases hL.trace with e | ⟨e,h1,_⟩
  ·rw [e];exact Nat.le_succ _
  ·rw [h1];simp
theorem cX (s:Aq):(DG s=(AW s,0)∧CN (AW s)=true)∨DG s=(Az,1200):=by
 unfold DG
 split
 ·rename_i h
  simp only [Bool.and_eq_true] at h
  exact .inl ⟨rfl,h.2⟩
 ·exact .inr rfl
theorem uC {s:Aq} (h:CN (AW s)=true):Inv (AW s):=by
 refine ⟨(Nv _).1 h,?_,?_⟩
 ·intro x hx
  simp only [AW,List.mem_map] at hx
  obtain ⟨y,_,rfl⟩:=hx
  exact ⟨fun h=>(by rcases h with h | h<;>cases h),fun h=>(by simp only [Cb] at h;omega),fun r hr=>by simp [Cb] at hr⟩
 ·intro g i w hg hw hl
  exfalso;apply hl
  have:∀ l:List Int,(l.map DF)[i]?=some w→w.lock=0:=by
   intro l h
   rw [List.getElem?_map] at h
   cases hq:l[i]? with
   | none=>rw [hq] at h;cases h
   | some v=>rw [hq] at h;cases h;rfl
  simp only [AW,Cc] at hw
  unfold A4.get at hw
  split at hw
  ·exact this _ hw
  ·split at hw
   ·exact this _ hw
   ·split at hw
    ·exact this _ hw
    ·exact this _ hw
theorem Zd:∀ (l:List AR) (m:Ad),Inv m→l.all AP=true→(Bh m l).2=0∧Inv (Bh m l).1∧(Bh m l).1.trace.length≤m.trace.length+l.length∧(Bh m l).1.sess.length=m.sess.length∧(Bh m l).1.ceil=m.ceil
 | [],m,hI,_=>⟨rfl,hI,by simp [Bh],rfl,rfl⟩
 | x::r,m,hI,h=>by
  simp only [List.all_cons,Bool.and_eq_true] at h
  obtain ⟨h1,h2,h3,h4,h5⟩:=Oe hI h.1
  obtain ⟨g1,g2,g3,g4,g5⟩:=Zd r (Bl m x).1 h2 h.2
  unfold Bh
  rw [if_pos h1]
  exact ⟨g1,g2,by simp only [List.length_cons];omega,by rw [g4,h4],by rw [g5,h5]⟩
theorem Hy {s:Aq} (h:Au s=true):DG s=(AW s,0)∧Inv (AW s)∧Bq s=((Bh (AW s) s.slots).1,0)∧Inv (Bh (AW s) s.slots).1∧(Bh (AW s) s.slots).1.trace.length≤256:=by
 have h':=h
 simp only [Au,Bool.and_eq_true,decide_eq_true_eq] at h
 rcases cX s with ⟨e,hm⟩ | e
 ·have hI:=uC hm
  obtain ⟨g1,g2,g3,_,_⟩:=Zd s.slots (AW s) hI h.2
  refine ⟨e,hI,?_,g2,?_⟩
  ·unfold Bq;rw [if_pos h',e]
   have:Bh (AW s) s.slots=((Bh (AW s) s.slots).1,0):=by rw [← g1]
   simp only
   exact this
  ·have:(AW s).trace.length=0:=rfl
   omega
 ·rw [e] at h;exact absurd h.1.1 (by decide)
end Ve
namespace Ve
open Go
theorem qB {ws:A4 (List Ap)} {s:Ai} (h:SP ws s):SmS s:=by
 have h1:=h.prog
 have h2:=h.reads
 have h3:=h.writes
 simp only [HC,AQ,AX,Bool.and_eq_true,decide_eq_true_eq] at h1 h2 h3
 exact ⟨by omega,by omega,by omega⟩
theorem aX {m:Ad} (h:Bt m):SmM m:=by
 have ha:=h.arena
 simp only [AT,A4.all,Cv,Bool.and_eq_true,decide_eq_true_eq] at ha
 have h1:=h.sl
 have h2:=h.tl
 exact ⟨by omega,by omega,by omega,by omega,by omega,by omega,fun s hs=>qB ((sp _ _).1 (h.sess s hs))⟩
theorem pY {m:Ad} (hm:SmM m) (at_:Int):SmM (Cm m at_).1:=by
 rcases FK m at_ with h | ⟨k,s,rfl,hs,hM,hS⟩
 ·have:Cm m at_=(Az,2300):=by unfold Cm;rw [h];rfl
  rw [this];exact Dx
 ·by_cases h0:(Cm m k).2=0
  ·obtain ⟨t,ht⟩:=IV hs hM hS h0
   exact aX ht.may
  ·have:(Cm m k).1=Az:=by
    unfold Cm at h0 ⊢
    split at h0
    ·rename_i hh
     simp only [hh,if_true] at h0 ⊢
     simp only [Int.toNat_natCast,hs] at h0 ⊢
     split at h0
     ·exact absurd rfl h0
     ·rename_i h1;rw [if_neg h1]
    ·rename_i hh;rw [if_neg hh]
   rw [this];exact Dx
def itM (k:Nat):Nat→Ad→Ad
 | 0,m=>m
 | n+1,m=>(Cm (itM k n m) k).1
def itU (k:Nat):Nat→Ad→Ad
 | 0,m=>m
 | n+1,m=>match (itU k n m).sess[k]? with
  | some s=>((FV (itU k n m) k s).getD Az)
  | none=>Az
theorem it_inv {k:Nat} {m:Ad} (hI:Inv m) (hk:k<m.sess.length):∀ n,Inv (itM k n m)∧(itM k n m).sess.length=m.sess.length∧itM k n m=itU k n m∧(Cm (itM k n m) k).2=0
 | n=>by
  have DR:Inv (itM k n m)∧(itM k n m).sess.length=m.sess.length∧itM k n m=itU k n m:=by
   induction n with
   | zero=>exact ⟨hI,rfl,rfl⟩
   | succ n ih =>
    obtain ⟨h1,h2,h3⟩:=ih
    obtain ⟨s,hs⟩:∃ s,(itM k n m).sess[k]?=some s:=⟨_,List.getElem?_eq_getElem (by omega)⟩
    obtain ⟨A,a1,a2,a3,t,a4⟩:=LD hs h1
    simp only [itM,itU]
    rw [← h3,hs,a1]
    simp only [a2,Option.getD_some]
    exact ⟨a3,by rw [a4.sess,List.length_set];exact h2,trivial⟩
  obtain ⟨h1,h2,h3⟩:=DR
  obtain ⟨s,hs⟩:∃ s,(itM k n m).sess[k]?=some s:=⟨_,List.getElem?_eq_getElem (by omega)⟩
  obtain ⟨A,a1,_⟩:=LD hs h1
  exact ⟨h1,h2,h3,by rw [a1]⟩
end Ve
namespace Ve
open Go
theorem KY {m:Ad} (hm:SmM m) (x:AR):SmM (Bl m x).1:=by
 unfold Bl
 split
 ·split
  ·split
   ·exact pY hm _
   ·exact Dx
  ·exact hm
 ·exact Dx
theorem yJ {m:Ad} {x:AR}:CM m x=(0,false,2400)∨(CN m=true∧IM m x.level=[]∧CM m x=(0,false,0))∨∃ (k:Nat) (s:Ai),CN m=true∧CM m x=((k:Int),true,0)∧m.sess[k]?=some s∧s.label=x.level∧s.step≠6:=by
 unfold CM
 by_cases h:(CN m&&AP x)=true
 ·have hM:CN m=true:=by simp only [Bool.and_eq_true] at h;exact h.1
  rw [if_pos h]
  cases hq:(IM m x.level)[x.pick.toNat % (IM m x.level).length]? with
  | none =>
   refine .inr (.inl ⟨hM,?_,rfl⟩)
   cases hl:IM m x.level with
   | nil=>rfl
   | cons a r =>
    rw [List.getElem?_eq_none_iff] at hq
    have:=Nat.mod_lt x.pick.toNat (show 0<(IM m x.level).length by rw [hl];simp)
    omega
  | some k =>
   obtain ⟨s,_,h2,h3⟩:=FA m.sess x.level 0 _ (List.mem_of_getElem? hq)
   simp only [EZ,Bool.and_eq_true,decide_eq_true_eq,Bool.not_eq_true',decide_eq_false_iff_not] at h3
   rw [Nat.sub_zero] at h2
   exact .inr (.inr ⟨k,s,hM,rfl,h2,h3.1,h3.2⟩)
 ·rw [if_neg h];exact .inl rfl
theorem slot_cs (m:Ad) (x:AR):Bl m x=(Az,2400)∨(CN m=true∧Bl m x=(m,0))∨∃ (k:Nat) (s t:Ai),m.sess[k]?=some s∧s.label=x.level∧s.step≠6∧(Bl m x).2=0∧Ey m (Bl m x).1 k s t:=by
 rcases yJ (m:=m) (x:=x) with h | ⟨hM,_,h⟩ | ⟨k,s,hM,h,hs,hl,hn⟩
 ·left;unfold Bl;rw [h];rfl
 ·right;left;exact ⟨hM,by unfold Bl;rw [h];rfl⟩
 ·have hMP:=(Nv m).1 hM
  by_cases h0:(Cm m k).2=0
  ·right;right
   obtain ⟨t,W⟩:=IV hs hMP ((sp _ _).1 (hMP.sess s (List.mem_of_getElem? hs))) h0
   have e:Bl m x=((Cm m k).1,0):=by
    unfold Bl;rw [h];simp only [if_true,h0]
   exact ⟨k,s,t,hs,hl,hn,by rw [e],by rw [e];exact W⟩
  ·left;unfold Bl;rw [h];simp only [if_true,h0,if_false]
end Ve
namespace Ve
open Go
theorem Qa (ws:A4 (List Int)) (g h:Int) (hh:inR h 3=true):(⟨Bo 0 g ws.a0,Bo 1 g ws.a1,Bo 2 g ws.a2,Bo 3 g ws.a3⟩:A4 (List Int)).get h=Bo h g (ws.get h):=by
 rcases Fm hh with rfl | rfl | rfl | rfl<;>rfl
theorem Zs (ws:A4 (List Int)) (h:Int):(Cc ws).get h=(ws.get h).map DF:=by
 unfold Cc A4.get;split
 ·rfl
 ·split
  ·rfl
  ·split<;>rfl
theorem LN (g:Int) (l:List Bk):(l.map Cb).filter (fun x=>Aj x.label g)=(l.filter fun x=>Aj x.label g).map Cb:=by
 induction l with
 | nil=>rfl
 | cons a r ih =>
  simp only [List.map_cons,List.filter_cons,ih]
  show (if Aj a.label g=true then _ else _)=_
  split<;>rfl
structure aF (g:Int) (s t:Aq):Prop where
 ceil:s.ceil=t.ceil
 row:∀ h,inR h 3=true→Aj h g=true→s.words.get h=t.words.get h
 starts:s.starts.filter (fun x=>Aj x.label g)=t.starts.filter fun x=>Aj x.label g
 slots:s.slots.filter (fun x=>Aj x.level g)=t.slots.filter fun x=>Aj x.level g
theorem fZ {g:Int} {s t:Aq} (h:Bc s g=Bc t g):aF g s t:=by
 have e:=h
 simp only [Bc,Aq.mk.injEq] at e
 refine ⟨e.2.1,fun a ha hu=>?_,e.2.2.1,e.2.2.2⟩
 have h1:=Qa s.words g a ha
 have h2:=Qa t.words g a ha
 rw [e.1,h2] at h1
 unfold Bo at h1
 rw [if_pos hu,if_pos hu] at h1
 exact h1.symm
theorem Iq {s:Aq} (hs:Au s=true):(Bq s).2=0∧CN (Bq s).1=true∧Inv (Bq s).1:=by
 obtain ⟨_,_,r1,i,_⟩:=Hy hs
 rw [r1]
 exact ⟨rfl,(Nv _).2 i.may,i⟩
theorem Eh (h g:Int) (l:List Int):(Bo h g l).length=l.length:=by unfold Bo;split<;>simp
theorem GH (h g:Int) {l:List Int} (hl:Da l=true):Da (Bo h g l)=true:=by
 unfold Bo
 split
 ·exact hl
 ·simp only [Da,Bool.and_eq_true,decide_eq_true_eq,List.length_map,List.all_eq_true] at hl ⊢
  refine ⟨hl.1,fun x hx=>?_⟩
  obtain ⟨_,_,rfl⟩:=List.mem_map.1 hx
  decide
theorem DZ {l:List Int} (h:Da l=true):Cv (l.map DF)=true:=by
 simp only [Da,Cv,Bool.and_eq_true,decide_eq_true_eq,List.length_map,List.all_eq_true] at h ⊢
 refine ⟨h.1,fun w hw=>?_⟩
 obtain ⟨v,hv,rfl⟩:=List.mem_map.1 hw
 simp only [AO,DF,h.2 v hv];rfl
theorem Jv {α:Type} (f:α→Int) (P:α→Bool):∀ (l:List α) (o o':Option Int),KM o (l.map f)=true→(∀ v',o'=some v'→∃ v,o=some v∧v'≤v)→KM o' ((l.filter P).map f)=true
 | [],o,o',_,_=>by cases o'<;>rfl
 | a::r,o,o',h,ho=>by
  have hr:KM (some (f a)) (r.map f)=true∧∀ v,o=some v→v<f a:=by
   cases o with
   | none=>simp only [List.map_cons,KM] at h;exact ⟨h,fun v hv=>by cases hv⟩
   | some v=>simp only [List.map_cons,KM,Bool.and_eq_true,decide_eq_true_eq] at h;exact ⟨h.2,fun v' hv=>by cases hv;exact h.1⟩
  rw [List.filter_cons]
  by_cases hp:P a=true
  ·rw [if_pos hp,List.map_cons]
   have ih:=Jv f P r (some (f a)) (some (f a)) hr.1 (fun v' hv=>⟨f a,rfl,by cases hv;omega⟩)
   cases o' with
   | none=>exact ih
   | some v' =>
    obtain ⟨v,hv,hle⟩:=ho v' rfl
    have:=hr.2 v hv
    simp only [KM,Bool.and_eq_true,decide_eq_true_eq]
    exact ⟨by omega,ih⟩
  ·rw [if_neg hp]
   refine Jv f P r (some (f a)) o' hr.1 (fun v' hv=>?_)
   obtain ⟨v,hv2,hle⟩:=ho v' hv
   have:=hr.2 v hv2
   exact ⟨f a,rfl,by omega⟩
theorem OX {α:Type} (P:α→Bool) (l:List α):(l.filter P).length≤l.length:=List.length_filter_le P l
theorem MI {s:Aq} (h:Au s=true) (g:Int):Au (Bc s g)=true:=by
 have hh:=h
 simp only [Au,Bool.and_eq_true,decide_eq_true_eq] at h
 have hn:BV s.words=true∧s.starts.all Cf=true∧CN (AW s)=true:=by
  have:=h.1.1
  unfold DG at this
  split at this
  ·rename_i hc;simp only [Bool.and_eq_true] at hc;exact ⟨hc.1.1,hc.1.2,hc.2⟩
  ·exact absurd this (by decide)
 obtain ⟨hv,hst,hm⟩:=hn
 have hM:=(Nv _).1 hm
 simp only [BV,A4.all,Bool.and_eq_true] at hv
 have hv':BV (Bc s g).words=true:=by
  simp only [BV,A4.all,Bc,Bool.and_eq_true]
  exact ⟨⟨⟨GH _ _ hv.1.1.1,GH _ _ hv.1.1.2⟩,GH _ _ hv.1.2⟩,GH _ _ hv.2⟩
 have hst':(Bc s g).starts.all Cf=true:=by
  rw [List.all_eq_true] at hst ⊢
  intro x hx
  exact hst x (List.mem_filter.1 hx).1
 have hm':CN (AW (Bc s g))=true:=by
  rw [Nv]
  have hv2:=hv'
  simp only [BV,A4.all,Bool.and_eq_true] at hv2
  have hth:∀ l i,Bb (AW (Bc s g)).words l i=Bb (AW s).words l i:=fun l i=>Hg (by simp [AW,Cc,Bc,Eh]) (by simp [AW,Cc,Bc,Eh]) (by simp [AW,Cc,Bc,Eh]) (by simp [AW,Cc,Bc,Eh]) l i
  refine ⟨?_,hM.ceil,hM.clocks,?_,by simp [AW],?_,?_,by simp [AW]⟩
  ·simp only [AT,A4.all,AW,Cc,Bool.and_eq_true]
   exact ⟨⟨⟨DZ hv2.1.1.1,DZ hv2.1.1.2⟩,DZ hv2.1.2⟩,DZ hv2.2⟩
  ·have:=hM.sl
   simp only [AW,List.length_map,Bc] at this ⊢
   exact Nat.le_trans (OX _ _) this
  ·have:=hM.ids
   simp only [AW,List.map_map,Bc] at this ⊢
   exact Jv _ _ s.starts none none this (fun v hv=>by cases hv)
  ·intro x hx
   simp only [AW,List.mem_map,Bc] at hx
   obtain ⟨y,hy,rfl⟩:=hx
   rw [FW hth]
   exact hM.sess (Cb y) (List.mem_map_of_mem (List.mem_filter.1 hy).1)
 simp only [Au,Bool.and_eq_true,decide_eq_true_eq]
 refine ⟨⟨?_,?_⟩,?_⟩
 ·unfold DG;rw [hv',hst',hm'];rfl
 ·exact Nat.le_trans (OX _ _) h.1.2
 ·have:=h.2
  rw [List.all_eq_true] at this ⊢
  intro x hx
  exact this x (List.mem_filter.1 hx).1
theorem SY {a b g:Int} (ha:inR a 3=true) (hb:inR b 3=true) (hg:inR g 3=true):Aj g (DS a b)=(Aj g a&&Aj g b):=by
 rcases Fm ha with rfl | rfl | rfl | rfl<;>rcases Fm hb with rfl | rfl | rfl | rfl<;>rcases Fm hg with rfl | rfl | rfl | rfl<;>decide
theorem GQ {a b h:Int} (ha:inR a 3=true) (hb:inR b 3=true) (hh:inR h 3=true) (l:List Int):Bo h b (Bo h a l)=Bo h (DS a b) l:=by
 unfold Bo
 rw [SY ha hb hh]
 cases Aj h a<;>cases Aj h b<;>simp
theorem Ns {a b:Int} (ha:inR a 3=true) (hb:inR b 3=true) {s:Aq} (hs:∀ x∈s.starts,inR x.label 3=true) (hl:∀ x∈s.slots,inR x.level 3=true):Bc (Bc s a) b=Bc s (DS a b):=by
 unfold Bc
 simp only [Aq.mk.injEq,A4.mk.injEq,true_and]
 refine ⟨⟨GQ ha hb rfl _,GQ ha hb rfl _,GQ ha hb rfl _,GQ ha hb rfl _⟩,?_,?_⟩
 ·rw [List.filter_filter]
  apply List.filter_congr
  intro x hx
  rw [SY ha hb (hs x hx),Bool.and_comm]
 ·rw [List.filter_filter]
  apply List.filter_congr
  intro x hx
  rw [SY ha hb (hl x hx),Bool.and_comm]
theorem eP {a:Int} (ha:inR a 3=true):DS a a=a:=by rcases Fm ha with rfl | rfl | rfl | rfl<;>decide
theorem JT {a:Int} (ha:inR a 3=true):Aj a 3=true:=by rcases Fm ha with rfl | rfl | rfl | rfl<;>decide
theorem eG {s:Aq} (hs:∀ x∈s.starts,inR x.label 3=true) (hl:∀ x∈s.slots,inR x.level 3=true):Bc s 3=s:=by
 unfold Bc
 have h1:s.starts.filter (fun x=>Aj x.label 3)=s.starts:=List.filter_eq_self.2 fun x hx=>JT (hs x hx)
 have h2:s.slots.filter (fun x=>Aj x.level 3)=s.slots:=List.filter_eq_self.2 fun x hx=>JT (hl x hx)
 rw [h1,h2];rfl
theorem MQ {s:Aq} (h:Au s=true):(∀ x∈s.starts,inR x.label 3=true)∧∀ x∈s.slots,inR x.level 3=true:=by
 obtain ⟨_,hI,_⟩:=Hy h
 simp only [Au,Bool.and_eq_true,decide_eq_true_eq] at h
 refine ⟨fun x hx=>?_,fun x hx=>?_⟩
 ·have:=hI.may.sess (Cb x) (List.mem_map_of_mem hx)
  exact ((sp _ _).1 this).label
 ·have:=(List.all_eq_true.1 h.2) x hx
  simp only [AP,Bool.and_eq_true] at this;exact this.1
end Ve
namespace Ve
open Go
theorem a2f {s:Aq} (hs:CK s):SmM (DG s).1:=by
 unfold DG;split
 ·exact IW hs
 ·exact Dx
theorem wW:∀ (l:List AR) {m:Ad},SmM m→SmM (Bh m l).1
 | [],m,h=>h
 | x::r,m,h=>by
  show SmM (if (Bl m x).2=0 then Bh (Bl m x).1 r else (Az,2500)).1
  split
  ·exact wW r (KY h x)
  ·exact Dx
theorem FE {s:Aq} (hs:CK s):SmM (Bq s).1:=by
 unfold Bq;split
 ·exact wW _ (a2f hs)
 ·exact Dx
theorem Qd:CK Gj:=⟨by decide,by decide,by decide,by decide,by decide,by decide,fun x hx=>by cases hx⟩
theorem JY {s:Aq} (hs:CK s) (l:Int):CK (Bc s l):=by
 obtain ⟨b0,b1,b2,b3,bst,bsl,p⟩:=hs
 refine ⟨by simpa [Bc,Eh] using b0,by simpa [Bc,Eh] using b1,by simpa [Bc,Eh] using b2,by simpa [Bc,Eh] using b3,?_,?_,?_⟩
 ·exact Nat.le_trans (List.length_filter_le _ _) bst
 ·exact Nat.le_trans (List.length_filter_le _ _) bsl
 ·intro x hx;exact p x (List.mem_filter.1 hx).1
theorem bA {α:Type} (g l:Int) (row:List α):(Jc g l row).length≤row.length:=by unfold Jc;split<;>simp
theorem KZ {m:Ad} (h:SmM m) (l:Int):SmM (Bf m l):=by
 obtain ⟨b0,b1,b2,b3,bs,bt,hs⟩:=h
 have k:=fun {α:Type} (g:Int) (row:List α)=>bA g l row
 have k0:=k 0 m.words.a0;have k1:=k 1 m.words.a1;have k2:=k 2 m.words.a2;have k3:=k 3 m.words.a3
 have f1:=List.length_filter_le (fun x:Ai=>Aj x.label l) m.sess
 have f2:=List.length_filter_le (fun x:AY=>Aj x.label l) m.trace
 refine ⟨by simp only [Bf];omega,by simp only [Bf];omega,by simp only [Bf];omega,by simp only [Bf];omega,by simp only [Bf];omega,by simp only [Bf];omega,?_⟩
 intro x hx;exact hs x (List.mem_filter.1 hx).1
theorem Wa {s:Aq}:((Bq s).2=0∧Au s=true)∨(Bq s=(Az,2500)∧Au s=false):=by
 cases h:Au s
 ·right;exact ⟨by unfold Bq;rw [h];rfl,rfl⟩
 ·exact .inl ⟨(Iq h).1,rfl⟩
theorem Vr {s:Aq} {g:Int} (hg:inR g 3=true):(Cr s g=(Bc s g,0)∧Au s=true)∨(Cr s g=(Gj,2500)∧Au s=false):=by
 cases h:Au s
 ·right;exact ⟨by unfold Cr;rw [h];rfl,rfl⟩
 ·left;exact ⟨by unfold Cr;rw [h,hg];rfl,rfl⟩
theorem NC {s:Aq} {g:Int} (hg:inR g 3=true) (hs:Au s=true):Dh (Bq s).1 g=(Bf (Bq s).1 g,0):=by
 unfold Dh;rw [(Iq hs).2.1,hg];rfl
end Ve
