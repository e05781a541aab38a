/- The machine with which the statements begin. -/
import Derived.Test.YtokhplohcachjaaGreatVeM
import Derived.Test.YtokhplohcachjaaGreatVeN
set_option linter.all false
set_option linter.unusedSectionVars false
namespace Ve
open Go
def MB:Ad:=⟨⟨[⟨5,0,0⟩,⟨6,0,0⟩],[⟨7,0,0⟩],[],[⟨9,0,0⟩]⟩,⟨0,0,0,0⟩,9,[⟨3,0,3,[⟨2,0,0,0⟩,⟨1,0,0,0⟩,⟨3,0,0,0⟩],0,0,⟨0,0,0,0⟩,[],[],0,0,0,0,0⟩,⟨5,1,1,[⟨2,0,0,1⟩,⟨3,0,1,0⟩],0,0,⟨0,0,0,0⟩,[],[],0,0,0,0,0⟩],[]⟩
end Ve
namespace Ve
open Go
theorem Jx {ws ws':A4 (List Ao)} (h0:ws'.a0.length=ws.a0.length) (h1:ws'.a1.length=ws.a1.length) (h2:ws'.a2.length=ws.a2.length) (h3:ws'.a3.length=ws.a3.length) (l i:Int):AV ws' l i=AV ws l i:=by
 have:(ws'.get l).length=(ws.get l).length:=by
  simp only [A4.get];split
  ·exact h0
  ·split
   ·exact h1
   ·split
    ·exact h2
    ·exact h3
 simp only [AV,this]
theorem Ie {ws ws':A4 (List Ao)} (h:∀ l i,AV ws' l i=AV ws l i) (s:Ag):AZ ws' s=AZ ws s:=by
 simp only [AZ,AB,Ch,CM,h]
def Yn:Option Int→List Int→Bool
 | _,[]=>true
 | none,s::t=>Yn (some s) t
 | some v,s::t=>decide (v<s)&&Yn (some s) t
theorem KT:∀ (l:List Ag) (o:Option Int),Eu o l=Yn o (l.map (·.id))
 | [],o=>by cases o<;>rfl
 | a::l,none=>by simp only [Eu,List.map_cons,Yn];exact KT l _
 | a::l,some v=>by simp only [Eu,List.map_cons,Yn];rw [KT l]
theorem TN {l:List Ag} {k:Nat} {s s':Ag} (hs:l[k]?=some s) (h:s'.id=s.id):(l.set k s').map (·.id)=l.map (·.id):=by
 rw [List.map_set,h]
 apply List.ext_getElem?
 intro i
 rw [List.getElem?_set]
 split
 ·rename_i e;subst e
  have hl:=Au hs
  have:l[k]=s:=by rw [List.getElem?_eq_getElem hl] at hs;exact Option.some.inj hs
  simp [hl,this]
 ·rfl
structure SP (ws:A4 (List Ao)) (s:Ag):Prop where
 id:inR s.id 254=true
 label:inR s.label 3=true
 clear:inR s.clear 3=true
 under:under s.label s.clear=true
 prog:Gz s.prog=true
 reads:AJ s.reads=true
 writes:AP s.writes=true
 rthere:AB ws s.reads=true
 wthere:Ch ws s.writes=true
 pthere:CM ws s.prog=true
 pc:inR s.pc s.prog.length=true
 at_:inR s.at_ s.writes.length=true
 step:inR s.step 6=true
 result:inR s.result 5=true
 regs:CI s.regs=true
 stamp:inR s.stamp 65535=true
 tries:inR s.tries 65535=true
 told:inR s.told 255=true
theorem sp (ws:A4 (List Ao)) (s:Ag):AZ ws s=true↔SP ws s:=by
 simp only [AZ,DT,Bool.and_eq_true]
 constructor
 ·rintro ⟨⟨⟨⟨⟨⟨⟨⟨⟨⟨a,b⟩,c⟩,d⟩,e⟩,⟨⟨⟨f,g⟩,h⟩,i⟩,j⟩,⟨⟨k,l⟩,m⟩,n⟩,o⟩,p⟩,q⟩,r⟩
  exact ⟨a,b,c,d,e,f,g,h,i,j,k,l,m,n,o,p,q,r⟩
 ·rintro ⟨a,b,c,d,e,f,g,h,i,j,k,l,m,n,o,p,q,r⟩
  exact ⟨⟨⟨⟨⟨⟨⟨⟨⟨⟨a,b⟩,c⟩,d⟩,e⟩,⟨⟨⟨f,g⟩,h⟩,i⟩,j⟩,⟨⟨k,l⟩,m⟩,n⟩,o⟩,p⟩,q⟩,r⟩
structure Bk (m:Ad):Prop where
 arena:AR m.words=true
 ceil:inR m.ceil 65535=true
 clocks:m.clocks.all (fun c=>inR c m.ceil)=true
 sl:m.sess.length≤4
 tl:m.trace.length≤512
 ids:Yn none (m.sess.map (·.id))=true
 sess:∀ s∈m.sess,AZ m.words s=true
 trace:∀ e∈m.trace,inR e.label 3=true
theorem RO (m:Ad):CY m=true↔Bk m:=by
 simp only [CY,Bool.and_eq_true,decide_eq_true_eq,List.all_eq_true,KT]
 constructor
 ·rintro ⟨⟨⟨⟨⟨⟨⟨a,b⟩,c⟩,d⟩,e⟩,f⟩,g⟩,h⟩
  exact ⟨a,b,c,d,e,f,g,h⟩
 ·rintro ⟨a,b,c,d,e,f,g,h⟩
  exact ⟨⟨⟨⟨⟨⟨⟨a,b⟩,c⟩,d⟩,e⟩,f⟩,g⟩,h⟩
theorem IS {m:Ad} (h:Bk m) {e:Ba} (he:inR e.label 3=true):Bk (AS m e):=by
 unfold AS
 split
 ·rename_i hl
  refine ⟨h.arena,h.ceil,h.clocks,h.sl,by simp;omega,h.ids,h.sess,?_⟩
  intro x hx
  rcases List.mem_append.1 hx with hx | hx
  ·exact h.trace x hx
  ·simp only [List.mem_singleton] at hx;subst hx;exact he
 ·exact h
theorem Hn {m:Ad} (h:Bk m) {k:Nat} {s s':Ag} (hs:m.sess[k]?=some s) (hid:s'.id=s.id) (hm:SP m.words s'):Bk (Az m k s'):=by
 refine ⟨h.arena,h.ceil,h.clocks,by simpa [Az] using h.sl,h.tl,?_,?_,h.trace⟩
 ·simp only [Az];rw [TN hs hid];exact h.ids
 ·intro x hx
  simp only [Az] at hx
  rcases List.mem_or_eq_of_mem_set hx with hx | rfl
  ·exact h.sess x hx
  ·exact (sp _ _).2 hm
theorem Pc {w:Ao} (c:Int) (h:AL w=true):AL (Ap c w)=true:=by
 unfold Ap
 split
 ·simp only [AL,Bool.and_eq_true] at h ⊢
  exact ⟨h.1,by decide⟩
 ·exact h
theorem Gy {l:List Ao} (c:Int) (h:Cs l=true):Cs (l.map (Ap c))=true:=by
 simp only [Cs,Bool.and_eq_true,List.length_map,List.all_eq_true] at h ⊢
 refine ⟨h.1,?_⟩
 intro x hx
 obtain ⟨y,hy,rfl⟩:=List.mem_map.1 hx
 exact Pc c (h.2 y hy)
theorem MJ {m:Ad} (h:Bk m) {ws:A4 (List Ao)} (ha:AR ws=true) (h0:ws.a0.length=m.words.a0.length) (h1:ws.a1.length=m.words.a1.length) (h2:ws.a2.length=m.words.a2.length) (h3:ws.a3.length=m.words.a3.length):Bk { m with words:=ws } :=
 ⟨ha,h.ceil,h.clocks,h.sl,h.tl,h.ids,fun s hs=>by rw [Ie (fun l i=>Jx h0 h1 h2 h3 l i)];exact h.sess s hs,h.trace⟩
theorem Oc {m:Ad} (h:Bk m) (c:Int):Bk (Bm c m):=by
 refine MJ h ?_ (by simp) (by simp) (by simp) (by simp)
 have:=h.arena
 simp only [AR,A4.all,Bool.and_eq_true] at this ⊢
 exact ⟨⟨⟨Gy c this.1.1.1,Gy c this.1.1.2⟩,Gy c this.1.2⟩,Gy c this.2⟩
theorem XB:AJ []=true:=by decide
theorem Mb:AP []=true:=by decide
theorem UD {ws:A4 (List Ao)} {s:Ag} (h:SP ws s):SP ws (Df s) :=
 { h with reads:=XB,writes:=Mb,rthere:=rfl,wthere:=rfl,at_:=by simp [Df,inR],stamp:=by rfl }
theorem AG {x c:Int}:inR x c=true↔0≤x∧x≤c:=by simp [inR]
theorem AU {a:Int} (h1:0≤a) (h2:a≤9000000000000000000):IntKind.wrap .i64 a=a:=Gq (by omega) (by omega)
theorem iU {t:Int} (h:inR t 65535=true):inR (JF t) 65535=true:=by
 rw [AG] at h
 unfold JF
 rw [AU (by omega) (by omega)]
 split
 ·decide
 ·rw [AG];omega
theorem Za {ws:A4 (List Ao)} {s:Ag} (h:SP ws s):SP ws (Bv s) :=
 { UD h with pc:=by simp [Bv,inR],regs:=by rfl,step:=by rfl,tries:=iU h.tries }
theorem mZ {ws:A4 (List Ao)} {s:Ag} (h:SP ws s) {r t:Int} (hr:inR r 5=true) (ht:inR t 255=true):SP ws (Gn s r t) :=
 { UD h with step:=by rfl,result:=hr,told:=ht }
theorem UC {m:Ad} {s:Ag} (c:Int):SP (Bm c m).words s↔SP m.words s:=by
 rw [← sp,← sp,Ie (ws:=m.words) (ws':=(Bm c m).words) (fun l i=>Jx (by simp [Bm]) (by simp [Bm]) (by simp [Bm]) (by simp [Bm]) l i)]
theorem PR {m:Ad} {k:Nat} (h:Bk m) (hk:k<m.sess.length):Bj m k=true:=by
 simp only [Bj,Bool.and_eq_true,decide_eq_true_eq]
 exact ⟨⟨(RO m).2 h,by omega⟩,by omega⟩
theorem DA (m:Ad) (at_:Int):Bj m at_=false∨∃ k s,at_=(k:Nat)∧m.sess[k]?=some s∧Bk m∧SP m.words s:=by
 cases h:Bj m at_ with
 | false=>exact .inl rfl
 | true =>
  obtain ⟨s,k,rfl,hs,hk⟩:=It h
  have hm:=bU h
  exact .inr ⟨k,s,rfl,hs,(RO m).1 hm,(sp _ _).1 (aX hm hs)⟩
def DH (m:Ad) (k:Nat) (s:Ag) (kind:Int):Ad:=AS (Az (Bm (s.id+1) m) k (Bv s)) ⟨s.id,s.label,kind,JF s.tries⟩
def Ew (m:Ad) (k:Nat) (s:Ag) (r t:Int):Ad:=AS (Az (Bm (s.id+1) m) k (Gn s r t)) ⟨s.id,s.label,6,r⟩
theorem Vw {i:Int} (h:inR i 254=true):IntKind.wrap .i64 (i+1)=i+1:=by
 rw [AG] at h;exact AU (by omega) (by omega)
theorem Fq {m:Ad} {k:Nat} {s:Ag} (hs:m.sess[k]?=some s) (hm:Bk m) {kind:Int} (hk:kind=3∨kind=5):Bw m k kind=(DH m k s kind,0):=by
 have h:=(sp _ _).1 (hm.sess s (List.mem_of_getElem? hs))
 have h1:(Bj m k&&(decide (kind=3)||decide (kind=5)))=true:=by
  rw [PR hm (Au hs)];rcases hk with rfl | rfl<;>rfl
 simp only [Bw,h1,if_true,Int.toNat_natCast,hs,DH,Vw h.id]
theorem FA {m:Ad} {k:Nat} {s:Ag} (hs:m.sess[k]?=some s) (hm:Bk m) {r t:Int} (hr:inR r 5=true) (ht:inR t 255=true):Cy m k r t=(Ew m k s r t,0):=by
 have h:=(sp _ _).1 (hm.sess s (List.mem_of_getElem? hs))
 have h1:(Bj m k&&inR r 5&&inR t 255)=true:=by
  rw [PR hm (Au hs),hr,ht];rfl
 simp only [Cy,h1,if_true,Int.toNat_natCast,hs,Ew,Vw h.id]
theorem DJ (m:Ad) (e:Ba):(AS m e).sess=m.sess:=by unfold AS;split<;>rfl
theorem Dv (m:Ad) (e:Ba):(AS m e).words=m.words:=by unfold AS;split<;>rfl
theorem Gs (m:Ad) (e:Ba):(AS m e).clocks=m.clocks:=by unfold AS;split<;>rfl
theorem ER (m:Ad) (e:Ba):(AS m e).ceil=m.ceil:=by unfold AS;split<;>rfl
theorem Tn (m:Ad) (e:Ba):(AS m e).trace=if m.trace.length<512 then m.trace++[e] else m.trace:=by unfold AS;split<;>rfl
theorem LO {m:Ad} {k:Nat} {s s':Ag} (hs:m.sess[k]?=some s):(Az m k s').sess[k]?=some s':=by
 simp only [Az];exact List.getElem?_set_self (Au hs)
theorem Tb {m:Ad} {k:Nat} {s:Ag} (hs:m.sess[k]?=some s) (hm:Bk m) (kind:Int):Bk (DH m k s kind):=by
 have h:=(sp _ _).1 (hm.sess s (List.mem_of_getElem? hs))
 exact IS (Hn (Oc hm _) (s:=s) (s':=Bv s) hs rfl (UC _ |>.2 (Za h))) h.label
theorem OF {m:Ad} {k:Nat} {s:Ag} (hs:m.sess[k]?=some s) (hm:Bk m) {r t:Int} (hr:inR r 5=true) (ht:inR t 255=true):Bk (Ew m k s r t):=by
 have h:=(sp _ _).1 (hm.sess s (List.mem_of_getElem? hs))
 exact IS (Hn (Oc hm _) (s:=s) (s':=Gn s r t) hs rfl (UC _ |>.2 (mZ h hr ht))) h.label
theorem Jd {m:Ad} {k:Nat} {s:Ag} (kind:Int):(DH m k s kind).sess=m.sess.set k (Bv s):=by rw [DH,DJ];rfl
theorem JH {m:Ad} {k:Nat} {s:Ag} (r t:Int):(Ew m k s r t).sess=m.sess.set k (Gn s r t):=by rw [Ew,DJ];rfl
theorem Ss (c:Int) (w:Ao):Ap c (Ap c w)=Ap c w:=by
 unfold Ap
 by_cases h:w.lock=c
 ·simp only [h,if_true]
  split<;>rfl
 ·simp only [h,if_false]
theorem TY (c:Int) (m:Ad):(Bm c (Bm c m)).words=(Bm c m).words:=by
 have:∀ l:List Ao,(l.map (Ap c)).map (Ap c)=l.map (Ap c):=fun l=>by simp [Ss]
 simp only [Bm,this]
theorem HR {m:Ad} {k:Nat} {s:Ag} (kind:Int):(DH m k s kind).words=(Bm (s.id+1) m).words:=by rw [DH,Dv];rfl
theorem Tc {m:Ad} {k:Nat} {s:Ag} (kind:Int):(DH m k s kind).clocks=m.clocks:=by rw [DH,Gs];rfl
theorem OX {m:Ad} {k:Nat} {s:Ag} (kind:Int):(DH m k s kind).ceil=m.ceil:=by rw [DH,ER];rfl
theorem LD {m:Ad} {k:Nat} {s:Ag} (r t:Int):(Ew m k s r t).words=(Bm (s.id+1) m).words:=by rw [Ew,Dv];rfl
theorem Ua {m:Ad} {k:Nat} {s:Ag} (r t:Int):(Ew m k s r t).ceil=m.ceil:=by rw [Ew,ER];rfl
theorem aY {a b:Ad} (h1:a.words=b.words) (h2:a.clocks=b.clocks) (h3:a.ceil=b.ceil) (h4:a.sess=b.sess) (h5:a.trace=b.trace):a=b:=by
 cases a;cases b;simp_all
theorem twice {m:Ad} {k:Nat} {s:Ag} (hs:m.sess[k]?=some s) (kind:Int):({ DH (DH m k s kind) k (Bv s) kind with sess:=((DH (DH m k s kind) k (Bv s) kind).sess).set k { Bv (Bv s) with tries:=(Bv s).tries },trace:=(DH m k s kind).trace }:Ad)=DH m k s kind:=by
 have hid:(Bv s).id=s.id:=rfl
 have e1:(DH (DH m k s kind) k (Bv s) kind).words=(DH m k s kind).words:=by
  rw [HR,hid]
  show (Bm (s.id+1) (DH m k s kind)).words=_
  have:(Bm (s.id+1) (DH m k s kind)).words=(Bm (s.id+1) (Bm (s.id+1) m)).words:=by
   simp only [Bm,HR]
  rw [this,TY,HR]
 have e2:((DH (DH m k s kind) k (Bv s) kind).sess).set k { Bv (Bv s) with tries:=(Bv s).tries }=(DH m k s kind).sess:=by
  rw [Jd,Jd]
  simp only [List.set_set]
  rfl
 refine aY e1 ?_ ?_ e2 rfl
 ·show (DH (DH m k s kind) k (Bv s) kind).clocks=_
  rw [Tc]
 ·show (DH (DH m k s kind) k (Bv s) kind).ceil=_
  rw [OX]
end Ve
namespace Ve
open Go
abbrev plW (w:Ai):Int:=AA w.level w.index
theorem KJ:∀ (l:List Ai) (o:Option Ai),AT o l=true→(∀ w∈l,Ay w=true)∧l.Pairwise (fun a b=>plW a<plW b)∧(∀ v,o=some v→∀ w∈l,plW v<plW w)
 | [],o,_=>⟨by simp,List.Pairwise.nil,by simp⟩
 | a::l,none,h=>by
  simp only [AT,Bool.and_eq_true] at h
  obtain ⟨h1,h2,h3⟩:=KJ l _ h.2
  refine ⟨fun w hw=>?_,List.pairwise_cons.2 ⟨fun w hw=>h3 a rfl w hw,h2⟩,fun v hv=>by cases hv⟩
  rcases List.mem_cons.1 hw with rfl | hw
  ·exact h.1
  ·exact h1 w hw
 | a::l,some v,h=>by
  simp only [AT,Bool.and_eq_true,decide_eq_true_eq] at h
  obtain ⟨h1,h2,h3⟩:=KJ l _ h.2
  refine ⟨fun w hw=>?_,List.pairwise_cons.2 ⟨fun w hw=>h3 a rfl w hw,h2⟩,fun v' hv w hw=>?_⟩
  ·rcases List.mem_cons.1 hw with rfl | hw
   ·exact h.1.1
   ·exact h1 w hw
  ·cases hv
   rcases List.mem_cons.1 hw with rfl | hw
   ·exact h.1.2
   ·have:=h3 a rfl w hw
    have:=h.1.2
    simp only [plW] at *
    omega
theorem Ce {l:List Ai} (h:AP l=true):(∀ w∈l,Ay w=true)∧l.Pairwise (fun a b=>plW a<plW b)∧l.length≤16:=by
 simp only [AP,Bool.and_eq_true,decide_eq_true_eq] at h
 obtain ⟨h1,h2,_⟩:=KJ l none h.1
 exact ⟨h1,h2,h.2⟩
theorem HA:∀ (l:List Ai) (o:Option Ai),(∀ w∈l,Ay w=true)→l.Pairwise (fun a b=>plW a<plW b)→(∀ v,o=some v→∀ w∈l,plW v<plW w)→AT o l=true
 | [],o,_,_,_=>by cases o<;>rfl
 | a::l,none,h1,h2,h3=>by
  obtain ⟨g1,g2⟩:=List.pairwise_cons.1 h2
  simp only [AT,Bool.and_eq_true]
  exact ⟨h1 a (by simp),HA l _ (fun w hw=>h1 w (by simp [hw])) g2 (fun v hv w hw=>by cases hv;exact g1 w hw)⟩
 | a::l,some v,h1,h2,h3=>by
  obtain ⟨g1,g2⟩:=List.pairwise_cons.1 h2
  simp only [AT,Bool.and_eq_true,decide_eq_true_eq]
  exact ⟨⟨h1 a (by simp),h3 v rfl a (by simp)⟩,HA l _ (fun w hw=>h1 w (by simp [hw])) g2 (fun v hv w hw=>by cases hv;exact g1 w hw)⟩
def geW (w x:Ai):Bool:=decide (plW w≤plW x)
def Gb (w:Ai) (l:List Ai):List Ai:=if l.any (geW w)=true then CQ w l else l
theorem LV (w:Ai) (r:List Ai):∀ (l:List Ai),l.any (geW w)=false→CQ w (l++r)=l++CQ w r
 | [],_=>rfl
 | a::l,h=>by
  simp only [List.any_cons,Bool.or_eq_false_iff,geW,decide_eq_false_iff_not] at h
  simp only [List.cons_append,CQ]
  rw [if_pos (by simp only [plW] at h;omega),LV w r l (by simpa [geW] using h.2)]
theorem Sh (w x:Ai):∀ (l:List Ai),l.any (geW w)=true→CQ w (l++[x])=CQ w l++[x]
 | [],h=>by simp at h
 | a::l,h=>by
  simp only [List.cons_append,CQ]
  split
  ·rename_i hlt
   have:l.any (geW w)=true:=by
    simp only [List.any_cons,Bool.or_eq_true] at h
    rcases h with h | h
    ·simp only [geW,decide_eq_true_eq,plW] at h;omega
    ·exact h
   rw [Sh w x l this];rfl
  ·split<;>rfl
theorem RJ {w x:Ai} {l:List Ai} (h:l.any (geW w)=false) (hx:plW x<plW w):Gb w (l++[x])=l++[x]∧(l++[x]).any (geW w)=false:=by
 have:(l++[x]).any (geW w)=false:=by
  rw [List.any_append,h,Bool.false_or]
  simp only [List.any_cons,List.any_nil,Bool.or_false,geW,decide_eq_false_iff_not];omega
 exact ⟨by simp only [Gb,this];rfl,this⟩
theorem UT {w x:Ai} {l:List Ai} (h:l.any (geW w)=false) (hx:plW w<plW x):Gb w (l++[x])=(l++[w])++[x]∧(l++[x]).any (geW w)=true:=by
 have:(l++[x]).any (geW w)=true:=by
  rw [List.any_append,h,Bool.false_or]
  simp only [List.any_cons,List.any_nil,Bool.or_false,geW,decide_eq_true_eq];omega
 refine ⟨?_,this⟩
 simp only [Gb,this,if_true,LV w [x] l h,CQ]
 rw [if_neg (by simp only [plW] at hx;omega),if_neg (by simp only [plW] at hx;omega)]
 simp
theorem RK {w x:Ai} {l:List Ai} (h:l.any (geW w)=false) (hx:plW x=plW w):Gb w (l++[x])=l++[w]∧(l++[x]).any (geW w)=true:=by
 have:(l++[x]).any (geW w)=true:=by
  rw [List.any_append,h,Bool.false_or]
  simp only [List.any_cons,List.any_nil,Bool.or_false,geW,decide_eq_true_eq];omega
 refine ⟨?_,this⟩
 simp only [Gb,this,if_true,LV w [x] l h,CQ]
 rw [if_neg (by simp only [plW] at hx;omega),if_pos (by simp only [plW] at hx;omega)]
theorem ZY {w x:Ai} {l:List Ai} (h:l.any (geW w)=true):Gb w (l++[x])=Gb w l++[x]∧(l++[x]).any (geW w)=true:=by
 have:(l++[x]).any (geW w)=true:=by rw [List.any_append,h,Bool.true_or]
 exact ⟨by simp only [Gb,this,h,if_true,Sh w x l h],this⟩
theorem iB {w:Ai} {l:List Ai}:CQ w l=if l.any (geW w)=true then Gb w l else l++[w]:=by
 split
 ·rename_i h;simp only [Gb,h,if_true]
 ·rename_i h
  have:=LV w [] l (by simpa using h)
  simpa [CQ] using this
theorem sJ {w x:Ai} {l:List Ai} (h:l.any (geW w)=true) (hs:∀ y∈l,plW y<plW x):plW w<plW x:=by
 obtain ⟨y,hy,hge⟩:=List.any_eq_true.1 h
 simp only [geW,decide_eq_true_eq] at hge
 have:=hs y hy
 omega
theorem iA (w:Ai) (l:List Ai):(Gb w l).length≤l.length+1:=by
 have:∀ l:List Ai,(CQ w l).length≤l.length+1:=by
  intro l
  induction l with
  | nil=>simp [CQ]
  | cons a l ih =>
   simp only [CQ]
   split
   ·simp only [List.length_cons];omega
   ·split<;>simp
 simp only [Gb];split
 ·exact this l
 ·omega
end Ve
namespace Ve
open Go
def Ck (t:Int):List Ai→Nat
 | []=>0
 | x::r=>if plW x<t then Ck t r+1 else 0
theorem Pw (t:Int):∀ l,Ck t l≤l.length
 | []=>Nat.le_refl _
 | x::r=>by
  have:=Pw t r
  simp only [Ck]
  split<;>simp<;>omega
theorem Zz (t:Int):∀ (l:List Ai) (j:Nat) (w:Ai),j<Ck t l→l[j]?=some w→plW w<t
 | [],j,w,h,_=>by simp [Ck] at h
 | x::r,j,w,h,hw=>by
  simp only [Ck] at h
  split at h
  ·rename_i hx
   cases j with
   | zero=>simp only [List.getElem?_cons_zero,Option.some.injEq] at hw;subst hw;exact hx
   | succ j=>exact Zz t r j w (by omega) (by simpa using hw)
  ·omega
theorem ZA (t:Int):∀ (l:List Ai),l.Pairwise (fun a b=>plW a<plW b)→∀ (j:Nat) (w:Ai),Ck t l≤j→l[j]?=some w→t≤plW w
 | [],_,j,w,_,hw=>by simp at hw
 | x::r,hp,j,w,h,hw=>by
  obtain ⟨h1,h2⟩:=List.pairwise_cons.1 hp
  simp only [Ck] at h
  split at h
  ·cases j with
   | zero=>omega
   | succ j=>exact ZA t r h2 j w (by omega) (by simpa using hw)
  ·rename_i hx
   cases j with
   | zero=>simp only [List.getElem?_cons_zero,Option.some.injEq] at hw;subst hw;omega
   | succ j =>
    have:=h1 w (List.mem_of_getElem? (by simpa using hw))
    omega
theorem VC (lv ix:Int):∀ l:List Ai,(∀ w∈l,AA lv ix<plW w)→BH lv ix l=(0,false)
 | [],_=>rfl
 | x::r,h=>by
  have hx:=h x (by simp)
  have hn:¬ (x.level=lv∧x.index=ix):=by
   rintro ⟨rfl,rfl⟩
   simp only [plW] at hx
   omega
  simp only [BH,hn,if_false]
  exact VC lv ix r (fun w hw=>h w (by simp [hw]))
theorem ZF {w:Ai} (h:Ay w=true) {lv ix:Int} (h2:inR ix 3=true):plW w=AA lv ix↔w.level=lv∧w.index=ix:=by
 simp only [Ay,Bool.and_eq_true,AG] at h
 rw [AG] at h2
 simp only [plW,AA]
 constructor
 ·intro e;omega
 ·rintro ⟨rfl,rfl⟩;rfl
theorem Sw {lv ix:Int} (h2:inR ix 3=true):∀ l:List Ai,(∀ w∈l,Ay w=true)→l.Pairwise (fun a b=>plW a<plW b) →
  BH lv ix l=match l[Ck (AA lv ix) l]? with
   | some w=>if plW w=AA lv ix then (w.val,true) else (0,false)
   | none=>(0,false)
 | [],_,_=>rfl
 | x::r,hw,hp=>by
  obtain ⟨h3,h4⟩:=List.pairwise_cons.1 hp
  have he:=ZF (hw x (by simp)) (lv:=lv) h2
  simp only [Ck]
  by_cases hx:plW x<AA lv ix
  ·have hn:¬ (x.level=lv∧x.index=ix):=by rw [← he];omega
   simp only [BH,hn,if_false,hx,if_true,List.getElem?_cons_succ]
   exact Sw h2 r (fun w h=>hw w (by simp [h])) h4
  ·simp only [hx,if_false,List.getElem?_cons_zero]
   by_cases hq:plW x=AA lv ix
   ·simp only [BH,he.1 hq,and_self,if_true,hq]
   ·have hn:¬ (x.level=lv∧x.index=ix):=by rw [← he];exact hq
    simp only [BH,hn,if_false,hq]
    exact VC lv ix r (fun w h=>by have:=h3 w h;omega)
theorem PN (w:Ai):∀ l:List Ai,CQ w l=l.take (Ck (plW w) l)++w::(match l[Ck (plW w) l]? with
   | some x=>if plW x=plW w then l.drop (Ck (plW w) l+1) else l.drop (Ck (plW w) l)
   | none=>[])
 | []=>rfl
 | x::r=>by
  simp only [CQ,Ck]
  by_cases hx:plW x<plW w
  ·have hx':AA x.level x.index<AA w.level w.index:=hx
   simp only [hx',if_true,List.take_succ_cons,List.getElem?_cons_succ,List.drop_succ_cons,List.cons_append]
   rw [PN w r]
  ·have hx':¬ AA x.level x.index<AA w.level w.index:=hx
   simp only [hx',if_false,List.take_zero,List.getElem?_cons_zero,List.nil_append,List.drop_zero,Nat.zero_add,List.drop_succ_cons]
   by_cases hq:plW x=plW w
   ·have hq':AA x.level x.index=AA w.level w.index:=hq
    simp only [hq',if_true]
   ·have hq':¬ AA x.level x.index=AA w.level w.index:=hq
    simp only [hq',if_false]
end Ve
namespace Ve
open Go
theorem Jb {L:Lay} {t:TypeId} {k:IntKind} {a b:Int} (h:b≠0):Bu L .rem t (.lit (.int k a)) (.lit (.int k b))=some (.lit (.int k (a.tmod b))):=by
 simp [Bu,binOp,Op.intDiv,h,Im];rfl
theorem QS {L:Lay} {t:TypeId} {k j:IntKind} {a b:Int} (h:¬ b<0):Bu L .shr t (.lit (.int k a)) (.lit (.int j b))=some (.lit (.int k (a.fdiv (2 ^ min b.toNat k.bits)))):=by
 simp [Bu,binOp,Op.shift,h,Im];rfl
def uW (a:Int):Int:=IntKind.wrap .u64 a
theorem YT (a:Int):0≤uW a:=by
 have e1:(2 ^ IntKind.bits .u64:Int)=18446744073709551616:=by decide
 simp only [uW,IntKind.wrap,IntKind.signed,Bool.false_and,Bool.false_eq_true,if_false,e1]
 omega
theorem Zr {a b:Int} (ha:0≤a) (hb:0<b):0≤a.tmod b∧a.tmod b≤b - 1:=by
 rw [Int.tmod_eq_emod_of_nonneg ha]
 have h1:=Int.emod_nonneg a (show b≠0 by omega)
 have h2:=Int.emod_lt_of_pos a hb
 omega
end Ve
namespace Ve
open Go
theorem FX {k:IntKind} {a:Int}:XP .neg (.lit (.int k a))=some (.lit (.int k (k.wrap (0 - a)))):=rfl
theorem Kg (a:Int) (c:Nat) (hc:c≤1000000):inR (EJ a c) c=true:=by
 have h:(BitVec.ofInt 64 a &&& BitVec.ofInt 64 (c:Int)).toNat≤c:=by
  have:(BitVec.ofInt 64 (c:Int)).toNat=c:=by
   rw [BitVec.toNat_ofInt,show ((2 ^ 64:Nat):Int)=18446744073709551616 from rfl]
   omega
  rw [BitVec.toNat_and,this];exact Nat.and_le_right
 unfold EJ
 rw [AU (by omega) (by omega),AG]
 omega
theorem Yo {m:Ad} {c at_:Int} (h:inR c 65535=false):Bj { m with ceil:=c } at_=false:=by
 simp only [Bj,CY,h,Bool.and_false,Bool.false_and]
theorem PS {m:Ad} {at_:Int} (h:at_<0∨(m.sess.length:Int)≤at_):Bj m at_=false:=by
 simp only [Bj,Bool.and_eq_false_iff,decide_eq_false_iff_not]
 rcases h with h | h
 ·exact .inl (.inr (by omega))
 ·exact .inr (by omega)
end Ve
namespace Ve
open Go
theorem BF {thr:Nat} {live:List Nat} {f:St→(Out→St→Option Ans)→Option Ans} {q:Out→St→Option Ans} {k:Nat} {s s':St} {Q:V→Hp→Nat→Prop} {u:Dum f} {w:Dum q} (e:MC thr live s'=MC thr live s):GL thr live f q k s' Q u w=GL thr live f q k s Q u w:=by
 cases k with
 | zero=>rfl
 | succ k =>
  rw [gLs,gLs]
  simp only [GN,Gh]
  rw [e]
end Ve
namespace Ve
open Go
inductive At (m:Ad) (at_:Int):Prop
 | no (h:Bj m at_=false)
 | off (k:Nat) (s:Ag) (e:at_=(k:Nat)) (hs:m.sess[k]?=some s) (hM:Bk m) (hS:SP m.words s) (hst:s.step≠0)
 | fin (k:Nat) (s:Ag) (e:at_=(k:Nat)) (hs:m.sess[k]?=some s) (hM:Bk m) (hS:SP m.words s) (hst:s.step=0) (hp:s.pc=(s.prog.length:Int))
 | on (k n:Nat) (s:Ag) (i:AF) (e:at_=(k:Nat)) (hs:m.sess[k]?=some s) (hM:Bk m) (hS:SP m.words s) (hst:s.step=0) (hp:s.pc=(n:Int)) (hn:n<s.prog.length) (hi:s.prog[n]?=some i)
theorem DG (m:Ad) (at_:Int):At m at_:=by
 rcases DA m at_ with h | ⟨k,s,e,hs,hM,hS⟩
 ·exact .no h
 ·by_cases hst:s.step=0
  ·have hp:=AG.1 hS.pc
   by_cases hpl:s.pc=(s.prog.length:Int)
   ·exact .fin k s e hs hM hS hst hpl
   ·have hn:s.pc.toNat<s.prog.length:=by omega
    exact .on k s.pc.toNat s s.prog[s.pc.toNat] e hs hM hS hst (by omega) hn (by simp [hn])
  ·exact .off k s e hs hM hS hst
theorem Bf {m:Ad} {k:Nat} {s:Ag} (hs:m.sess[k]?=some s) (hM:Bk m):Bj m k=true:=PR hM (Au hs)
theorem FB {m:Ad} {at_:Int} (h:Bj m at_=false):Cr m at_=none:=by simp [Cr,h]
theorem Cq {m:Ad} {k:Nat} {s:Ag} (hs:m.sess[k]?=some s) (hM:Bk m) (h:s.step≠0):Cr m k=none:=by
 simp only [Cr,Bf hs hM,if_true,Int.toNat_natCast,hs,h,if_false]
theorem Eg {m:Ad} {k:Nat} {s:Ag} (hs:m.sess[k]?=some s) (hM:Bk m) (h:s.step=0) (hp:s.pc=(s.prog.length:Int)):Cr m k=none:=by
 simp only [Cr,Bf hs hM,if_true,Int.toNat_natCast,hs,h,hp,List.getElem?_eq_none (Nat.le_refl _)]
theorem Dn {m:Ad} {k n:Nat} {s:Ag} {i:AF} (hs:m.sess[k]?=some s) (hM:Bk m) (h:s.step=0) (hp:s.pc=(n:Int)) (hi:s.prog[n]?=some i):Cr m k=some (s,i):=by
 simp only [Cr,Bf hs hM,if_true,Int.toNat_natCast,hs,h,hp,hi]
theorem UO:∀ (l:List AF) (n:Int) (j:Int),BZ n j l=true→∀ (k:Nat) (i:AF),l[k]?=some i→BN i=true∧(i.code=4→j+k<i.b∧i.b≤n)
 | [],n,j,_,k,i,h=>by simp at h
 | a::l,n,j,hg,k,i,h=>by
  simp only [BZ,Bool.and_eq_true,Bool.not_eq_true',Bool.and_eq_false_iff,Bool.or_eq_false_iff,decide_eq_false_iff_not] at hg
  cases k with
  | zero =>
   simp only [List.getElem?_cons_zero,Option.some.injEq] at h
   subst h
   refine ⟨hg.1.1,fun hc=>?_⟩
   rcases hg.1.2 with h | h
   ·exact absurd hc h
   ·simp only [Int.natCast_zero];omega
  | succ k =>
   have:=UO l n (j+1) hg.2 k i (by simpa using h)
   refine ⟨this.1,fun hc=>?_⟩
   have:=this.2 hc
   omega
theorem CV {ws:A4 (List Ao)} {s:Ag} (h:SP ws s) {n:Nat} {i:AF} (hi:s.prog[n]?=some i):BN i=true∧(i.code=4→(n:Int)<i.b∧i.b≤s.prog.length)∧((i.code=2∨i.code=3)→AV ws i.b i.c=true):=by
 have hp:=h.prog
 simp only [Gz,Bool.and_eq_true] at hp
 obtain ⟨h1,h2⟩:=UO _ _ _ hp.1 n i hi
 refine ⟨h1,fun hc=>by have:=h2 hc;omega,fun hc=>?_⟩
 have:=h.pthere
 simp only [CM,List.all_eq_true] at this
 have:=this i (List.mem_of_getElem? hi)
 simp only [Bool.or_eq_true,Bool.not_eq_true',FV,Bool.or_eq_false_iff,decide_eq_false_iff_not] at this
 rcases this with h' | h'
 ·exact absurd hc (by rintro (hc | hc);exact h'.1 hc;exact h'.2 hc)
 ·exact h'
theorem IW {i:AF} (h:BN i=true):i.code=0∨i.code=1∨i.code=2∨i.code=3∨i.code=4∨i.code=5∨i.code=6:=by
 unfold BN at h
 split at h
 ·simp [*]
 split at h
 ·simp [*]
 split at h
 ·rename_i h';rcases h' with h' | h'<;>simp [h']
 split at h
 ·simp [*]
 split at h
 ·simp [*]
 split at h
 ·simp [*]
 ·cases h
theorem ED {i:AF} (h:BN i=true) (hc:i.code≠5∧i.code≠6):inR i.a 3=true:=by
 unfold BN at h
 split at h
 ·simp only [Bool.and_eq_true] at h;exact h.1.1
 split at h
 ·simp only [Bool.and_eq_true] at h;exact h.1.1
 split at h
 ·simp only [Bool.and_eq_true] at h;exact h.1.1
 split at h
 ·simp only [Bool.and_eq_true] at h;exact h.1.1
 split at h
 ·rename_i h5;exact absurd h5 hc.1
 split at h
 ·rename_i h5;exact absurd h5 hc.2
 ·cases h
theorem KS {i:AF} (h:BN i=true) (hc:i.code=6):inR i.a 255=true:=by
 unfold BN at h
 simp only [hc] at h
 simp only [show ((6:Int)=0)=False by decide,show ((6:Int)=1)=False by decide,show ((6:Int)=2∨(6:Int)=3)=False by decide,show ((6:Int)=4)=False by decide,show ((6:Int)=5)=False by decide,if_false,if_true,Bool.and_eq_true] at h
 exact h.1.1
theorem CP {i:AF} (h:BN i=true) (hc:i.code=2∨i.code=3):inR i.b 3=true∧inR i.c 3=true:=by
 unfold BN at h
 have h0:¬ i.code=0:=by omega
 have h1:¬ i.code=1:=by omega
 simp only [h0,h1,if_false,hc,if_true,Bool.and_eq_true] at h
 exact ⟨h.1.2,h.2⟩
theorem Kr {i:AF} (h:BN i=true) (hc:i.code=0):inR i.b 255=true:=by
 unfold BN at h
 simp only [hc,if_true,Bool.and_eq_true] at h
 exact h.1.2
theorem Ks {i:AF} (h:BN i=true) (hc:i.code=1):inR i.b 3=true:=by
 unfold BN at h
 simp only [hc,show ((1:Int)=0)=False by decide,if_false,if_true,Bool.and_eq_true] at h
 exact h.1.2
inductive Lf (m:Ad) (at_ step:Int):Prop
 | no (h:Bj m at_=false)
 | off (k:Nat) (s:Ag) (e:at_=(k:Nat)) (hs:m.sess[k]?=some s) (hM:Bk m) (hS:SP m.words s) (hst:s.step≠step)
 | fin (k:Nat) (s:Ag) (e:at_=(k:Nat)) (hs:m.sess[k]?=some s) (hM:Bk m) (hS:SP m.words s) (hst:s.step=step) (hp:s.at_=(s.writes.length:Int))
 | on (k n:Nat) (s:Ag) (w:Ai) (e:at_=(k:Nat)) (hs:m.sess[k]?=some s) (hM:Bk m) (hS:SP m.words s) (hst:s.step=step) (hp:s.at_=(n:Int)) (hn:n<s.writes.length) (hi:s.writes[n]?=some w)
theorem Ho (m:Ad) (at_ step:Int):Lf m at_ step:=by
 rcases DA m at_ with h | ⟨k,s,e,hs,hM,hS⟩
 ·exact .no h
 ·by_cases hst:s.step=step
  ·have hp:=AG.1 hS.at_
   by_cases hpl:s.at_=(s.writes.length:Int)
   ·exact .fin k s e hs hM hS hst hpl
   ·have hn:s.at_.toNat<s.writes.length:=by omega
    exact .on k s.at_.toNat s s.writes[s.at_.toNat] e hs hM hS hst (by omega) hn (by simp [hn])
  ·exact .off k s e hs hM hS hst
theorem Eh {m:Ad} {at_ st:Int} (h:Bj m at_=false):FC m at_ st=none:=by simp [FC,h]
theorem Cz {m:Ad} {k:Nat} {s:Ag} {st:Int} (hs:m.sess[k]?=some s) (hM:Bk m) (h:s.step≠st):FC m k st=none:=by
 simp only [FC,Bf hs hM,if_true,Int.toNat_natCast,hs,h,if_false]
theorem BX {m:Ad} {k:Nat} {s:Ag} {st:Int} (hs:m.sess[k]?=some s) (hM:Bk m) (h:s.step=st):FC m k st=some s:=by
 simp only [FC,Bf hs hM,if_true,Int.toNat_natCast,hs,h]
theorem Dj {m:Ad} {at_ st:Int} (h:FC m at_ st=none):DY m at_ st=none:=by unfold DY;rw [h]
theorem Iq {m:Ad} {k:Nat} {s:Ag} {st:Int} (hs:m.sess[k]?=some s) (hM:Bk m) (h:s.step=st) (hp:s.at_=(s.writes.length:Int)):DY m k st=none:=by
 have h1:s.writes[s.at_.toNat]?=none:=by rw [hp];simp
 unfold DY;rw [BX hs hM h];simp only [h1]
theorem Ki {m:Ad} {k n:Nat} {s:Ag} {w:Ai} {st:Int} (hs:m.sess[k]?=some s) (hM:Bk m) (h:s.step=st) (hp:s.at_=(n:Int)) (hi:s.writes[n]?=some w):DY m k st=some (s,w):=by
 have h1:s.writes[s.at_.toNat]?=some w:=by rw [hp];simpa using hi
 unfold DY;rw [BX hs hM h];simp only [h1]
theorem II {ws:A4 (List Ao)} {s:Ag} (h:SP ws s) {n:Nat} {w:Ai} (hi:s.writes[n]?=some w):AV ws w.level w.index=true∧Ay w=true:=by
 have h1:=h.wthere
 simp only [Ch,List.all_eq_true] at h1
 exact ⟨h1 w (List.mem_of_getElem? hi),(Ce h.writes).1 w (List.mem_of_getElem? hi)⟩
end Ve
namespace Ve
open Go
theorem FK:∀ (n:Nat) (l:List Nat),l.Nodup→(∀ x∈l,x<n)→l.length≤n
 | 0,l,_,h=>by
  cases l with
  | nil=>simp
  | cons a l=>have:=h a (by simp);omega
 | n+1,l,hd,h=>by
  have h1:=FK n (l.erase n) (hd.erase n) (fun x hx=>by
   have h2:=List.mem_of_mem_erase hx
   have h3:=h x h2
   have h4:x≠n:=by
    intro e;subst e
    exact absurd hx (by rw [hd.mem_erase_iff];simp)
   omega)
  rw [List.length_erase] at h1
  split at h1<;>omega
def plR (r:AH):Nat:=(4*r.level+r.index).toNat
theorem RA:∀ (l pre:List AH),BM pre l=true→(∀ r∈l,Cn r=true)∧(l.Pairwise fun a b=>BY b a=false)∧(∀ p∈pre,∀ r∈l,BY r p=false)
 | [],pre,_=>⟨by simp,List.Pairwise.nil,by simp⟩
 | a::l,pre,h=>by
  simp only [BM,Bool.and_eq_true,Bool.not_eq_true'] at h
  obtain ⟨h1,h2,h3⟩:=RA l _ h.2
  have hany:∀ p∈pre,BY a p=false:=by
   intro p hp
   have:=List.any_eq_false.1 h.1.2 p hp
   simpa using this
  refine ⟨fun r hr=>?_,List.pairwise_cons.2 ⟨fun b hb=>h3 a (by simp) b hb,h2⟩,fun p hp r hr=>?_⟩
  ·rcases List.mem_cons.1 hr with rfl | hr
   ·exact h.1.1
   ·exact h1 r hr
  ·rcases List.mem_cons.1 hr with rfl | hr
   ·exact hany p hp
   ·exact h3 p (by simp [hp]) r hr
theorem Ln:∀ (l pre:List AH),(∀ r∈l,Cn r=true)→(l.Pairwise fun a b=>BY b a=false)→(∀ p∈pre,∀ r∈l,BY r p=false)→BM pre l=true
 | [],pre,_,_,_=>rfl
 | a::l,pre,h1,h2,h3=>by
  obtain ⟨g1,g2⟩:=List.pairwise_cons.1 h2
  simp only [BM,Bool.and_eq_true,Bool.not_eq_true']
  refine ⟨⟨h1 a (by simp),List.any_eq_false.2 (fun p hp=>by simpa using h3 p hp a (by simp))⟩,Ln l _ (fun r hr=>h1 r (by simp [hr])) g2 (fun p hp r hr=>?_)⟩
  rcases List.mem_append.1 hp with hp | hp
  ·exact h3 p hp r (by simp [hr])
  ·simp only [List.mem_singleton] at hp;subst hp;exact g1 r hr
theorem NT {l:List AH} (h:AJ l=true):(∀ r∈l,Cn r=true)∧(l.Pairwise fun a b=>BY b a=false)∧l.length≤16:=by
 simp only [AJ,Bool.and_eq_true,decide_eq_true_eq] at h
 obtain ⟨h1,h2,_⟩:=RA l [] h.1
 exact ⟨h1,h2,h.2⟩
theorem TF {r:AH} (h:Cn r=true):plR r<16∧((plR r:Nat):Int)=4*r.level+r.index:=by
 simp only [Cn,Bool.and_eq_true,AG] at h
 unfold plR;omega
theorem ZG {a b:AH} (ha:Cn a=true) (hb:Cn b=true) (h:BY b a=false):plR a≠plR b:=by
 intro e
 have h1:=(TF ha).2
 have h2:=(TF hb).2
 simp only [Cn,Bool.and_eq_true,AG] at ha hb
 simp only [BY,Bool.and_eq_false_iff,decide_eq_false_iff_not] at h
 omega
theorem Pq {l:List AH} (h1:∀ r∈l,Cn r=true) (h2:l.Pairwise fun a b=>BY b a=false):l.length≤16:=by
 have hd:(l.map plR).Nodup:=by
  rw [List.nodup_iff_pairwise_ne,List.pairwise_map]
  exact h2.imp_of_mem (fun ha hb h=>ZG (h1 _ ha) (h1 _ hb) h)
 have:=FK 16 (l.map plR) hd (fun x hx=>by
  obtain ⟨r,hr,rfl⟩:=List.mem_map.1 hx
  exact (TF (h1 r hr)).1)
 simpa using this
theorem IP {l:List AH} {r:AH} (h:AJ l=true) (hr:Cn r=true):(AX l r=(l,0)∧l.any (BY r)=true)∨(AX l r=(l++[r],0)∧l.any (BY r)=false∧AJ (l++[r])=true):=by
 obtain ⟨h1,h2,h3⟩:=NT h
 cases ha:l.any (BY r) with
 | true=>exact .inl ⟨by simp only [AX,h,hr,ha,Bool.and_self,if_true],rfl⟩
 | false =>
  have g1:∀ x∈l++[r],Cn x=true:=by
   intro x hx
   rcases List.mem_append.1 hx with hx | hx
   ·exact h1 x hx
   ·simp only [List.mem_singleton] at hx;subst hx;exact hr
  have g2:(l++[r]).Pairwise fun a b=>BY b a=false:=by
   rw [List.pairwise_append]
   refine ⟨h2,List.pairwise_singleton _ _,fun a ha' b hb=>?_⟩
   simp only [List.mem_singleton] at hb;subst hb
   have:=List.any_eq_false.1 ha a ha'
   simpa using this
  have g3:=Pq g1 g2
  have hne:l.length≠16:=by simp at g3;omega
  refine .inr ⟨by simp only [AX,h,hr,ha,Bool.and_self,if_true,Bool.false_eq_true,if_false,hne],rfl,?_⟩
  simp only [AJ,Bool.and_eq_true,decide_eq_true_eq]
  exact ⟨Ln _ _ g1 g2 (by simp),g3⟩
end Ve
namespace Ve
open Go
theorem Mu {w:Ai} (h:Ay w=true):0≤plW w∧plW w<16:=by
 simp only [Ay,Bool.and_eq_true,AG] at h
 simp only [plW,AA];omega
theorem cD {l:List Ai} (h:AP l=true) (hl:l.length=16) {w:Ai} (hw:Ay w=true):∃ x∈l,plW x=plW w:=by
 obtain ⟨h1,h2,_⟩:=Ce h
 rcases Classical.em (∃ x∈l,plW x=plW w) with hx | hx
 ·exact hx
 ·exfalso
  have hnd:((w::l).map fun x=>(plW x).toNat).Nodup:=by
   rw [List.map_cons,List.nodup_cons]
   constructor
   ·intro hm
    obtain ⟨x,hx1,hx2⟩:=List.mem_map.1 hm
    have a1:=Mu (h1 x hx1)
    have a2:=Mu hw
    exact hx ⟨x,hx1,by omega⟩
   ·rw [List.Nodup,List.pairwise_map]
    refine List.Pairwise.imp_of_mem ?_ h2
    intro a b ha hb hab
    have a1:=Mu (h1 a ha)
    have a2:=Mu (h1 b hb)
    omega
  have:=FK 16 _ hnd (fun x hx=>by
   obtain ⟨y,hy,rfl⟩:=List.mem_map.1 hx
   have:Ay y=true:=by
    rcases List.mem_cons.1 hy with rfl | hy
    ·exact hw
    ·exact h1 y hy
   have:=Mu this
   omega)
  simp only [List.length_map,List.length_cons] at this
  omega
theorem UP {t:Int}:∀ {l:List Ai},l.Pairwise (fun a b=>plW a<plW b)→(∃ x∈l,plW x=t)→∃ w,l[Ck t l]?=some w∧plW w=t
 | [],_,⟨x,hx,_⟩=>by simp at hx
 | y::r,hp,⟨x,hx,he⟩=>by
  obtain ⟨h1,h2⟩:=List.pairwise_cons.1 hp
  simp only [Ck]
  by_cases hy:plW y<t
  ·rw [if_pos hy]
   have:x∈r:=by
    rcases List.mem_cons.1 hx with rfl | h
    ·omega
    ·exact h
   obtain ⟨w,h3,h4⟩:=UP h2 ⟨x,this,he⟩
   exact ⟨w,by simpa using h3,h4⟩
  ·rw [if_neg hy]
   refine ⟨y,rfl,?_⟩
   rcases List.mem_cons.1 hx with rfl | h
   ·exact he
   ·have:=h1 x h;omega
theorem jU {w:Ai} {l:List Ai} {x:Ai} (h:l[Ck (plW w) l]?=some x) (he:plW x=plW w):CQ w l=l.set (Ck (plW w) l) w:=by
 rw [PN,h]
 simp only [he,if_true]
 have hlt:=(List.getElem?_eq_some_iff.1 h).1
 rw [List.set_eq_take_append_cons_drop]
 simp [hlt]
theorem bS {w:Ai} {l:List Ai} (h:∀ x,l[Ck (plW w) l]?=some x→plW x≠plW w):CQ w l=l.take (Ck (plW w) l)++[w]++l.drop (Ck (plW w) l):=by
 rw [PN]
 cases hx:l[Ck (plW w) l]? with
 | none =>
  have:=List.getElem?_eq_none_iff.1 hx
  simp [List.drop_of_length_le this]
 | some x =>
  simp only [h x hx,if_false]
  simp
end Ve
namespace Ve
open Go
theorem HY {α:Type} (ws:A4 (List α)) (l i:Int) (w:α):(Ff ws l i w).a0.length=ws.a0.length∧(Ff ws l i w).a1.length=ws.a1.length∧(Ff ws l i w).a2.length=ws.a2.length∧(Ff ws l i w).a3.length=ws.a3.length:=by
 unfold Ff A4.set A4.get
 split
 ·simp
 ·split
  ·simp
  ·split<;>simp
theorem LR {l:List Ao} (h:Cs l=true) (i:Nat) {w:Ao} (hw:AL w=true):Cs (l.set i w)=true:=by
 simp only [Cs,Bool.and_eq_true,List.length_set,List.all_eq_true] at h ⊢
 refine ⟨h.1,fun x hx=>?_⟩
 rcases List.mem_or_eq_of_mem_set hx with hx | rfl
 ·exact h.2 x hx
 ·exact hw
theorem YD {ws:A4 (List Ao)} (h:AR ws=true) (l i:Int) {w:Ao} (hw:AL w=true):AR (Ff ws l i w)=true:=by
 simp only [AR,A4.all,Bool.and_eq_true] at h ⊢
 obtain ⟨⟨⟨h0,h1⟩,h2⟩,h3⟩:=h
 unfold Ff A4.set A4.get
 split
 ·exact ⟨⟨⟨LR h0 _ hw,h1⟩,h2⟩,h3⟩
 ·split
  ·exact ⟨⟨⟨h0,LR h1 _ hw⟩,h2⟩,h3⟩
  ·split
   ·exact ⟨⟨⟨h0,h1⟩,LR h2 _ hw⟩,h3⟩
   ·exact ⟨⟨⟨h0,h1⟩,h2⟩,LR h3 _ hw⟩
theorem Rn {m:Ad} (hM:Bk m) (l i:Int) {w:Ao} (hw:AL w=true):Bk (Fd m l i w):=by
 obtain ⟨h0,h1,h2,h3⟩:=HY m.words l i w
 exact MJ hM (YD hM.arena l i hw) h0 h1 h2 h3
theorem UA {m:Ad} {s:Ag} (l i:Int) (w:Ao):SP (Fd m l i w).words s↔SP m.words s:=by
 obtain ⟨h0,h1,h2,h3⟩:=HY m.words l i w
 rw [← sp,← sp,Ie (ws:=m.words) (ws':=(Fd m l i w).words) (fun l i=>Jx h0 h1 h2 h3 l i)]
theorem NL {m:Ad} {k n:Nat} {s:Ag} {w:Ai} (hs:m.sess[k]?=some s) (hM:Bk m) (hS:SP m.words s) (hp:s.at_=(n:Int)) (hn:n<s.writes.length) (hv:inR w.val 255=true):Bk (BL m k s w):=by
 have hw:AL ⟨w.val,s.stamp,0⟩=true:=by simp only [AL,hv,hS.stamp];rfl
 refine Hn (Rn hM _ _ hw) (s:=s) hs rfl ((UA _ _ _).2 ?_)
 exact { hS with at_:=by rw [AG];show 0≤s.at_+1∧s.at_+1≤(s.writes.length:Int);omega }
def tA (last:Bool) (s:Ag) (w:Ai) (g i:Int) (v:Ao):Ao :=
 if (decide (g=w.level)&&decide (i=w.index))=true then ⟨w.val,s.stamp,0⟩ else if (last&&decide (v.lock=s.id+1))=true then ⟨v.val,v.ver,0⟩ else v
theorem Ix (ws:A4 (List Ao)) (w:Ai) (x:Ao) (g:Int) (i:Nat) (v:Ao) (hg:inR g 3=true) (hl:inR w.level 3=true) (hi0:0≤w.index) (hv:(ws.get g)[i]?=some v) :
  ((Ff ws w.level w.index x).get g)[i]?=some (if (decide (g=w.level)&&decide ((i:Int)=w.index))=true then x else v):=by
 have hlen:=Au hv
 rw [AG] at hg hl
 have key:∀ l:List Ao,l[i]?=some v→(l.set w.index.toNat x)[i]?=some (if ((i:Int)=w.index) then x else v):=by
  intro l h
  have hlen:=Au h
  rw [List.getElem?_set]
  by_cases hc:(i:Int)=w.index
  ·have:w.index.toNat=i:=by omega
   simp [this,hlen,hc]
  ·have:¬ w.index.toNat=i:=by omega
   simp [this,hc,h]
 by_cases hgl:g=w.level
 ·have e:(decide (g=w.level)&&decide ((i:Int)=w.index))=decide ((i:Int)=w.index):=by simp [hgl]
  rw [e]
  have e2:(if decide ((i:Int)=w.index)=true then x else v)=if (i:Int)=w.index then x else v:=by simp
  rw [e2,← key _ hv]
  congr 1
  rw [← hgl]
  unfold Ff A4.set A4.get
  split
  ·simp_all
  ·split
   ·simp_all
   ·split<;>simp_all
 ·have e:(decide (g=w.level)&&decide ((i:Int)=w.index))=false:=by simp [hgl]
  rw [e]
  simp only [Bool.false_eq_true,if_false]
  rw [← hv]
  congr 1
  unfold Ff A4.set A4.get
  have h4:(g=0∨g=1∨g=2∨g=3)∧(w.level=0∨w.level=1∨w.level=2∨w.level=3):=by omega
  obtain ⟨h4,h5⟩:=h4
  rcases h4 with h4 | h4 | h4 | h4<;>rcases h5 with h5 | h5 | h5 | h5<;>first | (exfalso;omega) | (rw [h4,h5];rfl)
theorem Sk (c:Int) (m:Ad) (g:Int) (i:Nat):((Bm c m).words.get g)[i]?=((m.words.get g)[i]?).map (Ap c):=by
 unfold Bm A4.get
 split
 ·simp
 ·split
  ·simp
  ·split<;>simp
structure Wrote (m:Ad) (k:Nat) (s:Ag) (w:Ai) (last:Bool) (a:Ad) (t:Ag):Prop where
 l0:a.words.a0.length=m.words.a0.length
 l1:a.words.a1.length=m.words.a1.length
 l2:a.words.a2.length=m.words.a2.length
 l3:a.words.a3.length=m.words.a3.length
 word:∀ (g:Int) (i:Nat) (v:Ao),inR g 3=true→(m.words.get g)[i]?=some v→(a.words.get g)[i]?=some (tA last s w g i v)
 clocks:a.clocks=m.clocks
 slen:a.sess.length=m.sess.length
 sess:a.sess[k]?=some t
 done:last=true→t.step=6∧t.result=1
 more:last=false→t.at_=s.at_+1∧t.step=4
end Ve
namespace Ve
open Go
theorem Ir {a:Int} (h:inR a 3=true):a=0∨a=1∨a=2∨a=3:=by rw [AG] at h;omega
theorem ZZ {a b:Int} (ha:inR a 3=true) (hb:inR b 3=true):inR (orI a b) 3=true∧orI (orI a b) a=orI a b∧under b (orI a b)=true∧(under b a=false→decide (orI a b=a)=false):=by
 rcases Ir ha with rfl | rfl | rfl | rfl<;>rcases Ir hb with rfl | rfl | rfl | rfl<;>decide
def upM (m:Ad) (k:Nat) (s:Ag) (l:Int):Ad:=Az (AS m ⟨s.id,s.label,2,l⟩) k { s with label:=l }
theorem mT {m:Ad} {k:Nat} {s:Ag} {l:Int} (hs:m.sess[k]?=some s) (hM:Bk m) (hS:SP m.words s) (hl:inR l 3=true) (hc:under l s.clear=true):Bk (upM m k s l):=by
 refine Hn (IS hM hS.label) (s:=s) (by rw [DJ];exact hs) rfl ?_
 rw [Dv]
 exact { hS with label:=hl,under:=hc }
theorem Uy {m:Ad} {k:Nat} {s:Ag} {l:Int}:(upM m k s l).sess=m.sess.set k { s with label:=l }:=by unfold upM Az;rw [DJ]
theorem YR {m:Ad} {k:Nat} {s:Ag} {l:Int}:(upM m k s l).words=m.words:=by unfold upM Az;rw [Dv]
theorem Kv {m:Ad} {s:Ag} (hM:Bk m) (hS:SP m.words s):BR m.words s.reads s.id=(s.reads.all (CR m.words s.id),0):=by
 unfold BR;rw [hM.arena,hS.reads,hS.rthere,hS.id];rfl
theorem SF {m:Ad} {s:Ag} (hM:Bk m) (hS:SP m.words s):BC m.words s.reads=(s.reads.any (FD m.words),0):=by
 unfold BC;rw [hM.arena,hS.reads,hS.rthere];rfl
end Ve
namespace Ve
open Go
theorem Kt {w y:Ai}:∀ {l:List Ai},y∈CQ w l→y=w∨y∈l
 | [],h=>by simp [CQ] at h;exact .inl h
 | x::r,h=>by
  unfold CQ at h
  split at h
  ·rcases List.mem_cons.1 h with h | h
   ·exact .inr (by simp [h])
   ·rcases Kt h with h | h
    ·exact .inl h
    ·exact .inr (by simp [h])
  ·split at h
   ·rcases List.mem_cons.1 h with h | h
    ·exact .inl h
    ·exact .inr (by simp [h])
   ·rcases List.mem_cons.1 h with h | h
    ·exact .inl h
    ·exact .inr h
theorem Lx {w:Ai}:∀ {l:List Ai},l.Pairwise (fun a b=>plW a<plW b)→(CQ w l).Pairwise (fun a b=>plW a<plW b)
 | [],_=>by simp [CQ]
 | x::r,h=>by
  obtain ⟨h1,h2⟩:=List.pairwise_cons.1 h
  unfold CQ
  split
  ·rename_i hlt
   refine List.pairwise_cons.2 ⟨fun y hy=>?_,Lx h2⟩
   rcases Kt hy with rfl | hy
   ·exact hlt
   ·exact h1 y hy
  ·split
   ·rename_i he
    refine List.pairwise_cons.2 ⟨fun y hy=>?_,h2⟩
    have:=h1 y hy
    show plW w<plW y
    rw [show plW w=plW x from he.symm];exact this
   ·rename_i hn he
    have hlt:plW w<plW x:=by show AA w.level w.index<AA x.level x.index;omega
    refine List.pairwise_cons.2 ⟨fun y hy=>?_,h⟩
    rcases List.mem_cons.1 hy with rfl | hy
    ·exact hlt
    ·exact Int.lt_trans hlt (h1 y hy)
theorem Sg {w:Ai}:∀ {l:List Ai},l.length≤(CQ w l).length
 | []=>by simp [CQ]
 | x::r=>by
  unfold CQ
  split
  ·simp only [List.length_cons];have:=Sg (w:=w) (l:=r);omega
  ·split<;>simp only [List.length_cons]<;>omega
theorem TE {w:Ai} (h:Ay w=true):0≤plW w∧plW w<16:=by
 simp only [Ay,Bool.and_eq_true,AG] at h
 show 0≤AA w.level w.index∧AA w.level w.index<16
 unfold AA;omega
theorem Th {l:List Ai} (h1:∀ w∈l,Ay w=true) (h2:l.Pairwise (fun a b=>plW a<plW b)):l.length≤16:=by
 have hd:(l.map fun w=>(plW w).toNat).Nodup:=by
  rw [List.nodup_iff_pairwise_ne,List.pairwise_map]
  exact h2.imp_of_mem (fun ha hb h=>by have:=TE (h1 _ ha);have:=TE (h1 _ hb);omega)
 have:=FK 16 (l.map fun w=>(plW w).toNat) hd (fun x hx=>by
  obtain ⟨r,hr,rfl⟩:=List.mem_map.1 hx
  have:=TE (h1 r hr);omega)
 simpa using this
theorem Mc {l:List Ai} {w:Ai} (h:AP l=true) (hw:Ay w=true):BD l w=(CQ w l,0)∧AP (CQ w l)=true:=by
 obtain ⟨h1,h2,_⟩:=Ce h
 have g1:∀ y∈CQ w l,Ay y=true:=fun y hy=>by
  rcases Kt hy with rfl | hy
  ·exact hw
  ·exact h1 y hy
 have g2:=Lx (w:=w) h2
 refine ⟨by simp only [BD,h,hw,Bool.and_self,if_true],?_⟩
 simp only [AP,Bool.and_eq_true,decide_eq_true_eq]
 exact ⟨HA _ none g1 g2 (fun v hv=>by cases hv),Th g1 g2⟩
theorem Mq {rs:A4 Int} (h:CI rs=true) {a v:Int} (ha:inR a 3=true) (hv:inR v 255=true):CI (rs.set a v)=true:=by
 simp only [CI,A4.all,Bool.and_eq_true] at h ⊢
 rcases Ir ha with rfl | rfl | rfl | rfl<;>simp [A4.set,hv,h]
theorem Ry {rs:A4 Int} (h:CI rs=true) (a:Int):inR (rs.get a) 255=true:=by
 simp only [CI,A4.all,Bool.and_eq_true] at h
 unfold A4.get
 split
 ·exact h.1.1.1
 ·split
  ·exact h.1.1.2
  ·split
   ·exact h.1.2
   ·exact h.2
theorem Me {ws:A4 (List Ao)} (ha:AR ws=true) {l i:Int} (h:AV ws l i=true):AL (BW ws l i)=true:=by
 simp only [AV,Bool.and_eq_true,decide_eq_true_eq] at h
 have hj:i.toNat<(ws.get l).length:=by omega
 have hg:BW ws l i=(ws.get l)[i.toNat]:=by unfold BW;rw [List.getElem?_eq_getElem hj];rfl
 rw [hg]
 have hmem:(ws.get l)[i.toNat]∈ws.get l:=List.getElem_mem hj
 simp only [AR,A4.all,Cs,Bool.and_eq_true,List.all_eq_true,decide_eq_true_eq] at ha
 generalize (ws.get l)[i.toNat]=g at hmem
 unfold A4.get at hmem
 obtain ⟨⟨⟨a0,a1⟩,a2⟩,a3⟩:=ha
 split at hmem
 ·exact a0.2 g hmem
 ·split at hmem
  ·exact a1.2 g hmem
  ·split at hmem
   ·exact a2.2 g hmem
   ·exact a3.2 g hmem
theorem Sv {l i:Int}:∀ {ws:List Ai},(∀ w∈ws,Ay w=true)→(BH l i ws).2=true→inR (BH l i ws).1 255=true
 | [],_,h=>by simp [BH] at h
 | x::r,hw,h=>by
  unfold BH at h ⊢
  split
  ·have:=hw x (by simp);simp only [Ay,Bool.and_eq_true] at this;exact this.2
  ·rename_i hn
   rw [if_neg hn] at h
   exact Sv (fun w hw'=>hw w (by simp [hw'])) h
structure Ea (m A:Ad) (k:Nat) (s t:Ag):Prop where
 may:Bk A
 ceil:A.ceil=m.ceil
 sess:A.sess=m.sess.set k t
 id:t.id=s.id
 clear:t.clear=s.clear
 prog:t.prog=s.prog
 lab:under s.label t.label=true
 trace:A.trace=m.trace∨∃ e:Ba,A.trace=m.trace++[e]∧e.id=s.id∧e.label=s.label
theorem BV {a:Int} (h:inR a 3=true):under a a=true:=by
 rcases Ir h with rfl | rfl | rfl | rfl<;>decide
theorem JO (m:Ad) (e:Ba):(AS m e).trace=m.trace∨(AS m e).trace=m.trace++[e]:=by
 rw [Tn];split
 ·exact .inr rfl
 ·exact .inl rfl
theorem Kh {m:Ad} {k:Nat} {s:Ag} (hs:m.sess[k]?=some s) (hM:Bk m) (hS:SP m.words s) (kind:Int):Ea m (DH m k s kind) k s (Bv s):=by
 refine ⟨Tb hs hM kind,OX kind,Jd kind,rfl,rfl,rfl,BV hS.label,?_⟩
 rcases JO (Az (Bm (s.id+1) m) k (Bv s)) ⟨s.id,s.label,kind,JF s.tries⟩ with h | h
 ·exact .inl h
 ·exact .inr ⟨_,h,rfl,rfl⟩
theorem KP {m:Ad} {k:Nat} {s:Ag} (hs:m.sess[k]?=some s) (hM:Bk m) (hS:SP m.words s) {r t:Int} (hr:inR r 5=true) (ht:inR t 255=true):Ea m (Ew m k s r t) k s (Gn s r t):=by
 refine ⟨OF hs hM hr ht,Ua r t,JH r t,rfl,rfl,rfl,BV hS.label,?_⟩
 rcases JO (Az (Bm (s.id+1) m) k (Gn s r t)) ⟨s.id,s.label,6,r⟩ with h | h
 ·exact .inl h
 ·exact .inr ⟨_,h,rfl,rfl⟩
theorem LU {m:Ad} {k:Nat} {s t:Ag} (hs:m.sess[k]?=some s) (hM:Bk m) (hS:SP m.words s) (e:Ba) (he:e.id=s.id∧e.label=s.label) (ht:SP m.words t) (h1:t.id=s.id) (h2:t.clear=s.clear) (h3:t.prog=s.prog) (h4:under s.label t.label=true):Ea m (AS (Az m k t) e) k s t:=by
 refine ⟨IS (Hn hM hs h1 ht) (by rw [he.2];exact hS.label),ER _ _,DJ _ _,h1,h2,h3,h4,?_⟩
 rcases JO (Az m k t) e with h | h
 ·exact .inl h
 ·exact .inr ⟨_,h,he.1,he.2⟩
theorem JG {m:Ad} {k:Nat} {s t:Ag} (hs:m.sess[k]?=some s) (hM:Bk m) (ht:SP m.words t) (h1:t.id=s.id) (h2:t.clear=s.clear) (h3:t.prog=s.prog) (h4:under s.label t.label=true):Ea m (Az m k t) k s t :=
 ⟨Hn hM hs h1 ht,rfl,rfl,h1,h2,h3,h4,.inl rfl⟩
end Ve
namespace Ve
open Go
def cS (xs ys:List Ao):Nat→Int
 | 0=>0
 | n+1=>cS xs ys n+(if (xs[n]?.map (·.lock))=(ys[n]?.map (·.lock)) then 0 else 1)
def GrW (id:Int) (x y:Ao):Prop:=y.val=x.val∧y.ver=x.ver∧(x.lock=y.lock∨(x.lock≠y.lock∧y.lock≠0∧x.lock=0∧y.lock=id+1)∨(x.lock≠y.lock∧y.lock=0∧x.lock=id+1))
structure Gr (m A:Ad) (k:Nat) (s t:Ag):Prop where
 len:∀ g,inR g 3=true→(A.words.get g).length=(m.words.get g).length
 word:∀ (g:Int) (j:Nat) (x:Ao),inR g 3=true→(m.words.get g)[j]?=some x→∃ y,(A.words.get g)[j]?=some y∧GrW s.id x y
 clocks:A.clocks=m.clocks
 slen:A.sess.length=m.sess.length
 sess:A.sess[k]?=some t
 fin:t.step=0∨(t.at_=s.at_+1∧cS m.words.a0 A.words.a0 m.words.a0.length+cS m.words.a1 A.words.a1 m.words.a1.length+cS m.words.a2 A.words.a2 m.words.a2.length+cS m.words.a3 A.words.a3 m.words.a3.length=1)
theorem MQ {ws ws':A4 (List Ao)} (h0:ws'.a0.length=ws.a0.length) (h1:ws'.a1.length=ws.a1.length) (h2:ws'.a2.length=ws.a2.length) (h3:ws'.a3.length=ws.a3.length) (g:Int):(ws'.get g).length=(ws.get g).length:=by
 unfold A4.get
 split
 ·exact h0
 ·split
  ·exact h1
  ·split
   ·exact h2
   ·exact h3
end Ve
namespace Ve
open Go
theorem mE (m:Ad) (at_ st:Int):DY m at_ st=none∨∃ (k n:Nat) (s:Ag) (w:Ai),at_=(k:Nat)∧m.sess[k]?=some s∧Bk m∧SP m.words s∧s.step=st∧s.at_=(n:Int)∧n<s.writes.length∧s.writes[n]?=some w∧DY m at_ st=some (s,w):=by
 cases Ho m at_ st with
 | no h=>exact .inl (Dj (Eh h))
 | off k s e hs hM hS hst=>subst e;exact .inl (Dj (Cz hs hM hst))
 | fin k s e hs hM hS hst hp=>subst e;exact .inl (Iq hs hM hst hp)
 | on k n s w e hs hM hS hst hp hn hi=>subst e;exact .inr ⟨k,n,s,w,rfl,hs,hM,hS,hst,hp,hn,hi,Ki hs hM hst hp hi⟩
theorem Rm {α:Type} {l:List α} {k:Nat} {x:α} (h:l[k]?=some x):l.set k x=l:=by
 apply List.ext_getElem?
 intro i
 rw [List.getElem?_set]
 split
 ·rename_i e;subst e;rw [if_pos (Au h),h]
 ·rfl
section
variable {m:Ad} {k:Nat} {s:Ag} (hs:m.sess[k]?=some s) (hM:Bk m) (hS:SP m.words s)
include hs hM hS
theorem bC {x:AF} (hcur:Cr m k=some (s,x)) (hc:x.code=2) (hlx:inR x.b 3=true) (hu:under x.b s.label=false):∃ t,Ea m (Bs m k).1 k s t∧(Bs m k).2=0:=by
 obtain ⟨o1,o2,o3,o4⟩:=ZZ hS.label hlx
 cases hcl:under (orI s.label x.b) s.clear
 ·have e:Bs m k=Cy m k 4 0:=by unfold Bs;rw [hcur];simp only [hc,hu,hcl];rfl
  rw [e,FA hs hM (by decide) (by decide)]
  exact ⟨_,KP hs hM hS (by decide) (by decide),rfl⟩
 ·have e:Bs m k=(upM m k s (orI s.label x.b),0):=by unfold Bs;rw [hcur];simp only [hc,hu,hcl];rfl
  rw [e]
  refine ⟨{ s with label:=orI s.label x.b },⟨mT hs hM hS o1 hcl,ER m ⟨s.id,s.label,2,orI s.label x.b⟩,Uy,rfl,rfl,rfl,?_,?_⟩,rfl⟩
  ·show under s.label (orI s.label x.b)=true
   unfold under;rw [decide_eq_true_eq]
   have:orI s.label (orI s.label x.b)=orI (orI s.label x.b) s.label:=by simp only [orI,BitVec.or_comm]
   rw [this];exact o2
  ·show (AS m _).trace=_∨_
   rcases JO m ⟨s.id,s.label,2,orI s.label x.b⟩ with h | h
   ·exact .inl h
   ·exact .inr ⟨_,h,rfl,rfl⟩
theorem UB {i:AF} {rs:List AH} {v:Int} {n:Nat} (hp:s.pc=(n:Int)) (hn:n<s.prog.length) (ha:inR i.a 3=true) (hv:inR v 255=true) (hr:AJ rs=true) (ht:AB m.words rs=true):SP m.words (CU s i rs v) :=
 { hS with reads:=hr,rthere:=ht,regs:=Mq hS.regs ha hv,pc:=by rw [AG];show 0≤s.pc+1∧s.pc+1≤(s.prog.length:Int);omega }
theorem bB {n:Nat} {x:AF} (hst:s.step=0) (hp:s.pc=(n:Int)) (hi:s.prog[n]?=some x) (hc:x.code=2) (hu:under x.b s.label=true):∃ t,Ea m (BT m k).1 k s t∧(BT m k).2=0:=by
 have hcur:=Dn hs hM hst hp hi
 have hn:=Au hi
 obtain ⟨hx,_,hth⟩:=CV hS hi
 have hth:=hth (.inl hc)
 have ha:=ED hx (by omega)
 have e0:BT m k=(if (AY s.writes x.b x.c).2=true then (AS (Az m k (CU s x s.reads (AY s.writes x.b x.c).1)) ⟨s.id,s.label,0,(AY s.writes x.b x.c).1⟩,0)
   else if (BR m.words s.reads s.id).1=true∧(BW m.words x.b x.c).lock=0 then
    (AS (Az m k (CU s x (AX s.reads ⟨x.b,x.c,(BW m.words x.b x.c).ver⟩).1 (BW m.words x.b x.c).val)) ⟨s.id,s.label,0,(BW m.words x.b x.c).val⟩,0)
   else Bw m k 3):=by
  unfold BT;rw [hcur];simp only [hc,hu,if_true,Int.toNat_natCast]
 rw [e0]
 have hul:=BV hS.label
 split
 ·rename_i hf
  have hv:inR (AY s.writes x.b x.c).1 255=true:=by
   unfold AY at hf ⊢
   rw [if_pos hS.writes] at hf ⊢
   exact Sv (Ce hS.writes).1 hf
  exact ⟨_,LU hs hM hS _ ⟨rfl,rfl⟩ (UB hs hM hS hp hn ha hv hS.reads hS.rthere) rfl rfl rfl hul,rfl⟩
 ·split
  ·have hwm:=Me hM.arena hth
   simp only [AL,Bool.and_eq_true] at hwm
   have hl:=CP hx (.inl hc)
   have hr1:Cn ⟨x.b,x.c,(BW m.words x.b x.c).ver⟩=true:=by simp only [Cn,hl.1,hl.2,hwm.1.2];rfl
   have hroom:=IP hS.reads hr1
   have hrr:AJ (AX s.reads ⟨x.b,x.c,(BW m.words x.b x.c).ver⟩).1=true∧AB m.words (AX s.reads ⟨x.b,x.c,(BW m.words x.b x.c).ver⟩).1=true:=by
    rcases hroom with ⟨h,_⟩ | ⟨h,_,h2⟩
    ·rw [h];exact ⟨hS.reads,hS.rthere⟩
    ·rw [h];refine ⟨h2,?_⟩
     have:=hS.rthere
     simp only [AB] at this ⊢
     rw [List.all_append,this,List.all_cons,hth];rfl
   exact ⟨_,LU hs hM hS _ ⟨rfl,rfl⟩ (UB hs hM hS hp hn ha hwm.1.1 hrr.1 hrr.2) rfl rfl rfl hul,rfl⟩
  ·rw [Fq hs hM (.inl rfl)]
   exact ⟨_,Kh hs hM hS 3,rfl⟩
theorem aZ {n:Nat} {x:AF} (hst:s.step=0) (hp:s.pc=(n:Int)) (hi:s.prog[n]?=some x) (hc:x.code=3):∃ t,Ea m (Cl m k).1 k s t∧(Cl m k).2=0:=by
 have hcur:=Dn hs hM hst hp hi
 have hn:=Au hi
 obtain ⟨hx,_,hth⟩:=CV hS hi
 have hth:=hth (.inr hc)
 have hl:=CP hx (.inr hc)
 have hw1:Ay ⟨x.b,x.c,s.regs.get x.a⟩=true:=by simp only [Ay,hl.1,hl.2,Ry hS.regs];rfl
 obtain ⟨hr1,hr2⟩:=Mc hS.writes hw1
 have e0:Cl m k=(AS (Az m k { s with writes:=CQ ⟨x.b,x.c,s.regs.get x.a⟩ s.writes,pc:=s.pc+1 }) ⟨s.id,s.label,1,s.regs.get x.a⟩,0):=by
  unfold Cl;rw [hcur];simp only [hc,if_true,Int.toNat_natCast,hr1]
 rw [e0]
 refine ⟨_,LU hs hM hS _ ⟨rfl,rfl⟩ ?_ rfl rfl rfl (BV hS.label),rfl⟩
 have hat:=AG.1 hS.at_
 have hlen:=Sg (w:=⟨x.b,x.c,s.regs.get x.a⟩) (l:=s.writes)
 refine { hS with writes:=hr2,wthere:=?_,at_:=?_,pc:=?_ }
 ·have:=hS.wthere
  simp only [Ch,List.all_eq_true] at this ⊢
  intro y hy
  rcases Kt hy with rfl | hy
  ·exact hth
  ·exact this y hy
 ·rw [AG];show 0≤s.pc+1∧s.pc+1≤(s.prog.length:Int);omega
 ·rw [AG];show 0≤s.at_∧s.at_≤((CQ _ s.writes).length:Int);omega
theorem jD {n:Nat} {x:AF} (hst:s.step=0) (hp:s.pc=(n:Int)) (hi:s.prog[n]?=some x) (hc:x.code=0∨x.code=1∨x.code=4):∃ t,Ea m (Cg m k).1 k s t∧(Cg m k).2=0:=by
 have hcur:=Dn hs hM hst hp hi
 have hn:=Au hi
 obtain ⟨hx,hz,_⟩:=CV hS hi
 have ha:=ED hx (by omega)
 have hpc:inR (s.pc+1) (s.prog.length:Int)=true:=by rw [AG];omega
 have hul:=BV hS.label
 rcases hc with hc | hc | hc
 ·have hb:=Kr hx hc
  have e0:Cg m k=(Az m k { s with regs:=s.regs.set x.a x.b,pc:=s.pc+1 },0):=by
   unfold Cg;rw [hcur];simp only [hc,if_true,Int.toNat_natCast,KL,hS.regs,ha,hb,Bool.and_self]
  rw [e0]
  exact ⟨_,JG hs hM { hS with regs:=Mq hS.regs ha hb,pc:=hpc } rfl rfl rfl hul,rfl⟩
 ·have hb:=Ks hx hc
  have e0:Cg m k=(Az m k { s with regs:=s.regs.set x.a ((s.regs.get x.a+s.regs.get x.b) % 256),pc:=s.pc+1 },0):=by
   unfold Cg;rw [hcur];simp only [hc,show ((1:Int)=0)=False by decide,if_true,if_false,Int.toNat_natCast,Le,hS.regs,ha,hb,Bool.and_self]
  rw [e0]
  exact ⟨_,JG hs hM { hS with regs:=Mq hS.regs ha (by rw [AG];omega),pc:=hpc } rfl rfl rfl hul,rfl⟩
 ·have hz:=hz hc
  have e0:Cg m k=(Az m k { s with pc:=if s.regs.get x.a=0 then x.b else s.pc+1 },0):=by
   unfold Cg;rw [hcur];simp only [hc,show ((4:Int)=0)=False by decide,show ((4:Int)=1)=False by decide,if_true,if_false,Int.toNat_natCast]
  rw [e0]
  refine ⟨_,JG hs hM { hS with pc:=?_ } rfl rfl rfl hul,rfl⟩
  show inR (if s.regs.get x.a=0 then x.b else s.pc+1) (s.prog.length:Int)=true
  split
  ·rw [AG];omega
  ·exact hpc
theorem jA {n:Nat} {x:AF} (hst:s.step=0) (hp:s.pc=(n:Int)) (hi:s.prog[n]?=some x) (hc:x.code=5):∃ t,Ea m (Cd m k).1 k s t∧(Cd m k).2=0:=by
 have hcur:=Dn hs hM hst hp hi
 have e0:Cd m k=(AS (Az m k { s with writes:=[],at_:=0,step:=5 }) ⟨s.id,s.label,4,s.reads.length⟩,0):=by
  unfold Cd;rw [hcur];simp only [hc,if_true,Int.toNat_natCast]
 rw [e0]
 exact ⟨_,LU hs hM hS _ ⟨rfl,rfl⟩ { hS with writes:=Mb,wthere:=rfl,at_:=by simp [inR],step:=by rfl } rfl rfl rfl (BV hS.label),rfl⟩
theorem iY (hst:s.step=5):∃ t,Ea m (Cd m k).1 k s t∧(Cd m k).2=0:=by
 have e0:Cd m k=if (BC m.words s.reads).1=true then Bw m k 5 else (m,0):=by
  unfold Cd;rw [Cq hs hM (by omega),BX hs hM hst]
 rw [e0]
 split
 ·rw [Fq hs hM (.inr rfl)]
  exact ⟨_,Kh hs hM hS 5,rfl⟩
 ·refine ⟨s,⟨hM,rfl,?_,rfl,rfl,rfl,BV hS.label,.inl rfl⟩,rfl⟩
  exact (Rm hs).symm
theorem jB (hst:s.step=0):∃ t,Ea m (DQ m k s).1 k s t∧(DQ m k s).2=0:=by
 unfold DQ
 split
 ·rw [Int.toNat_natCast]
  refine ⟨_,JG hs hM { hS with at_:=?_,step:=?_ } rfl rfl rfl (BV hS.label),rfl⟩
  ·rw [AG];show 0≤(0:Int)∧(0:Int)≤(s.writes.length:Int);omega
  ·show inR (if s.writes=[] then 3 else 1) 6=true
   split<;>rfl
 ·rw [FA hs hM (by decide) (by decide)]
  exact ⟨_,KP hs hM hS (by decide) (by decide),rfl⟩
theorem jC (h:(DB m k).2=0):∃ t,Ea m (DB m k).1 k s t:=by
 rcases mE m k 1 with hn | ⟨k',n,s',w,e,hs',_,_,hst,hp,hn,hi,hl⟩
 ·have e:DB m k=(AK,1800):=by unfold DB;rw [hn]
  rw [e] at h;cases h
 ·obtain rfl:k=k':=by omega
  obtain rfl:s=s':=by rw [hs] at hs';cases hs';rfl
  obtain ⟨h1,h2⟩:=II hS hi
  have hwm:=Me hM.arena h1
  by_cases hlk:(BW m.words w.level w.index).lock=0
  ·have e:DB m k=(Az (Fd m w.level w.index { BW m.words w.level w.index with lock:=s.id+1 }) k { s with at_:=s.at_+1,step:=if s.at_+1=s.writes.length then 2 else s.step },0):=by
    unfold DB;rw [hl];simp only [hlk,if_true,Int.toNat_natCast]
   rw [e]
   have hid:=AG.1 hS.id
   have hw':AL { BW m.words w.level w.index with lock:=s.id+1 }=true:=by
    simp only [AL,Bool.and_eq_true] at hwm ⊢
    exact ⟨hwm.1,by rw [AG];omega⟩
   have hM':=Rn hM w.level w.index hw'
   have hS':=(UA (m:=m) w.level w.index { BW m.words w.level w.index with lock:=s.id+1 }).2 hS
   refine ⟨{ s with at_:=s.at_+1,step:=if s.at_+1=s.writes.length then 2 else s.step },?_⟩
   have:=JG (m:=Fd m w.level w.index { BW m.words w.level w.index with lock:=s.id+1 }) (k:=k) (s:=s) (t:={ s with at_:=s.at_+1,step:=if s.at_+1=s.writes.length then 2 else s.step }) hs hM' { hS' with at_:=?_,step:=?_ } rfl rfl rfl (BV hS.label)
   ·exact ⟨this.may,this.ceil,this.sess,rfl,rfl,rfl,this.lab,this.trace⟩
   ·rw [AG];show 0≤s.at_+1∧s.at_+1≤(s.writes.length:Int);omega
   ·show inR (if s.at_+1=(s.writes.length:Int) then 2 else s.step) 6=true
    split
    ·rfl
    ·exact hS.step
  ·have e:DB m k=Bw m k 3:=by unfold DB;rw [hl];simp only [hlk,if_false]
   rw [e,Fq hs hM (.inl rfl)]
   exact ⟨_,Kh hs hM hS 3⟩
theorem bA (hst:s.step=2):∃ t,Ea m (CL m k).1 k s t:=by
 have hcur:=BX hs hM hst
 by_cases hc:m.ceil≤m.clocks.get s.label
 ·have e:CL m k=Cy m k 5 0:=by unfold CL;rw [hcur];simp only [hc,if_true]
  rw [e,FA hs hM (by decide) (by decide)]
  exact ⟨_,KP hs hM hS (by decide) (by decide)⟩
 ·have e:CL m k=(Az { m with clocks:=m.clocks.set s.label (m.clocks.get s.label+1) } k { s with stamp:=m.clocks.get s.label+1,step:=3 },0):=by
   unfold CL;rw [hcur];simp only [hc,if_false,Int.toNat_natCast]
  rw [e]
  have hcl:=hM.clocks
  have hce:=AG.1 hM.ceil
  simp only [A4.all,Bool.and_eq_true,AG] at hcl
  have hg:0≤m.clocks.get s.label:=by
   unfold A4.get;split
   ·exact hcl.1.1.1.1
   ·split
    ·exact hcl.1.1.2.1
    ·split
     ·exact hcl.1.2.1
     ·exact hcl.2.1
  have hM':Bk { m with clocks:=m.clocks.set s.label (m.clocks.get s.label+1) }:=by
   refine ⟨hM.arena,hM.ceil,?_,hM.sl,hM.tl,hM.ids,hM.sess,hM.trace⟩
   simp only [A4.all,Bool.and_eq_true,AG]
   rcases Ir hS.label with h | h | h | h<;>rw [h] at hc hg ⊢<;>simp only [A4.set,A4.get,simprocAttr] at hc hg ⊢<;>omega
  have hS':SP { m with clocks:=m.clocks.set s.label (m.clocks.get s.label+1):Ad }.words s:=hS
  refine ⟨{ s with stamp:=m.clocks.get s.label+1,step:=3 },?_⟩
  have:=JG (m:={ m with clocks:=m.clocks.set s.label (m.clocks.get s.label+1) }) (k:=k) (s:=s) (t:={ s with stamp:=m.clocks.get s.label+1,step:=3 }) hs hM' { hS' with stamp:=by rw [AG];show 0≤m.clocks.get s.label+1∧m.clocks.get s.label+1≤65535;omega,step:=by rfl } rfl rfl rfl (BV hS.label)
  exact ⟨this.may,this.ceil,this.sess,rfl,rfl,rfl,this.lab,this.trace⟩
theorem bD (hst:s.step=3):∃ t,Ea m (CT m k).1 k s t:=by
 have hcur:=BX hs hM hst
 have e:CT m k=if (BR m.words s.reads s.id).1=true then (if s.writes=[] then Cy m k 1 0 else (Az m k { s with at_:=0,step:=4 },0)) else Bw m k 3:=by unfold CT;rw [hcur];simp only [Int.toNat_natCast]
 rw [e]
 split
 ·split
  ·rw [FA hs hM (by decide) (by decide)];exact ⟨_,KP hs hM hS (by decide) (by decide)⟩
  ·exact ⟨_,JG hs hM { hS with at_:=by rw [AG];show 0≤(0:Int)∧(0:Int)≤(s.writes.length:Int);omega,step:=by rfl } rfl rfl rfl (BV hS.label)⟩
 ·rw [Fq hs hM (.inl rfl)];exact ⟨_,Kh hs hM hS 3⟩
theorem jF (h:(DF m k).2=0):∃ t,Ea m (DF m k).1 k s t:=by
 rcases mE m k 4 with hn | ⟨k',n,s',w,e,hs',_,_,hst,hp,hn,hi,hl⟩
 ·have e:DF m k=(AK,2100):=by unfold DF;rw [hn]
  rw [e] at h;cases h
 ·obtain rfl:k=k':=by omega
  obtain rfl:s=s':=by rw [hs] at hs';cases hs';rfl
  obtain ⟨h1,h2⟩:=II hS hi
  simp only [Ay,Bool.and_eq_true] at h2
  have hmay:=NL hs hM hS hp hn h2.2
  have hk:=Au hs
  have hs1:(BL m k s w).sess[k]?=some { s with at_:=s.at_+1 }:=List.getElem?_set_self (by simpa [Fd] using hk)
  have hse:(BL m k s w).sess=m.sess.set k { s with at_:=s.at_+1 }:=by simp [BL,Az,Fd]
  by_cases hlast:s.at_+1=s.writes.length
  ·have e:DF m k=Cy (BL m k s w) k 1 0:=by unfold DF;rw [hl];simp only [hlast,if_true]
   rw [e,FA hs1 hmay (by decide) (by decide)]
   have hS1:=(sp _ _).1 (hmay.sess _ (List.mem_of_getElem? hs1))
   have:=KP hs1 hmay hS1 (r:=1) (t:=0) (by decide) (by decide)
   refine ⟨Gn { s with at_:=s.at_+1 } 1 0,this.may,this.ceil,?_,rfl,rfl,rfl,this.lab,this.trace⟩
   rw [this.sess,hse,List.set_set]
  ·have e:DF m k=(BL m k s w,0):=by unfold DF;rw [hl];simp only [hlast,if_false]
   rw [e]
   exact ⟨{ s with at_:=s.at_+1 },hmay,rfl,hse,rfl,rfl,rfl,BV hS.label,.inl rfl⟩
theorem TB (h:(Bb m k s).2=0):∃ t,Ea m (Bb m k s).1 k s t:=by
 unfold Bb at h ⊢
 split at h
 ·rename_i hst
  rw [if_pos hst]
  have hp:=AG.1 hS.pc
  unfold EB at h ⊢
  split
  ·rename_i x hx
   rw [hx] at h
   have hn:=Au hx
   have hpn:s.pc=((s.pc.toNat:Nat):Int):=by omega
   obtain ⟨hxm,_,_⟩:=CV hS hx
   simp only at h ⊢
   split
   ·rename_i hc
    have hcur:=Dn hs hM hst hpn hx
    have hne:BS m k=(!under x.b s.label,0):=by unfold BS;rw [hcur];simp only [hc,if_true]
    rw [hne]
    cases hu:under x.b s.label
    ·obtain ⟨t,ht,_⟩:=bC hs hM hS hcur hc (CP hxm (.inl hc)).1 hu
     exact ⟨t,ht⟩
    ·obtain ⟨t,ht,_⟩:=bB hs hM hS hst hpn hx hc hu
     exact ⟨t,ht⟩
   ·split
    ·rename_i hc
     obtain ⟨t,ht,_⟩:=aZ hs hM hS hst hpn hx hc
     exact ⟨t,ht⟩
    ·split
     ·rename_i hc
      obtain ⟨t,ht,_⟩:=jA hs hM hS hst hpn hx hc
      exact ⟨t,ht⟩
     ·split
      ·rename_i hc
       have ht:=KS hxm hc
       rw [FA hs hM (by decide) ht]
       exact ⟨_,KP hs hM hS (by decide) ht⟩
      ·have hc:=IW hxm
       obtain ⟨t,ht,_⟩:=jD hs hM hS hst hpn hx (by omega)
       exact ⟨t,ht⟩
  ·obtain ⟨t,ht,_⟩:=jB hs hM hS hst
   exact ⟨t,ht⟩
 ·rename_i h0
  rw [if_neg h0]
  split at h
  ·rename_i h1;rw [if_pos h1];exact jC hs hM hS h
  ·rename_i h1;rw [if_neg h1]
   split at h
   ·rename_i h2;rw [if_pos h2];exact bA hs hM hS h2
   ·rename_i h2;rw [if_neg h2]
    split at h
    ·rename_i h3;rw [if_pos h3];exact bD hs hM hS h3
    ·rename_i h3;rw [if_neg h3]
     split at h
     ·rename_i h4;rw [if_pos h4];exact jF hs hM hS h
     ·rename_i h4;rw [if_neg h4]
      split at h
      ·rename_i h5;rw [if_pos h5]
       obtain ⟨t,ht,_⟩:=iY hs hM hS h5
       exact ⟨t,ht⟩
      ·rename_i h5;rw [if_neg h5]
       exact ⟨s,hM,rfl,(Rm hs).symm,rfl,rfl,rfl,BV hS.label,.inl rfl⟩
theorem Fc (h:(Be m k).2=0):∃ t,Ea m (Be m k).1 k s t:=by
 have hh:=Bf hs hM
 unfold Be at h ⊢
 rw [if_pos hh,Int.toNat_natCast,hs] at h ⊢
 simp only at h ⊢
 split at h
 ·rename_i h0;rw [if_pos h0];exact TB hs hM hS h0
 ·cases h
end
end Ve
namespace Ve
open Go
def Rb (rs:List AH) (r:AH):List AH:=if rs.any (BY r)=true then rs else rs++[r]
def TZ (m:Ad) (k:Nat) (s:Ag) (x:AF):Ad :=
 if (BH x.b x.c s.writes).2=true then AS (Az m k (CU s x s.reads (BH x.b x.c s.writes).1)) ⟨s.id,s.label,0,(BH x.b x.c s.writes).1⟩
 else if s.reads.all (CR m.words s.id)=true∧(BW m.words x.b x.c).lock=0 then
  AS (Az m k (CU s x (Rb s.reads ⟨x.b,x.c,(BW m.words x.b x.c).ver⟩) (BW m.words x.b x.c).val)) ⟨s.id,s.label,0,(BW m.words x.b x.c).val⟩
 else DH m k s 3
def Ud (m:Ad) (k:Nat) (s:Ag) (x:AF):Ad:=if under (orI s.label x.b) s.clear=true then upM m k s (orI s.label x.b) else Ew m k s 4 0
def To (m:Ad) (k:Nat) (s:Ag) (x:AF):Ad:=AS (Az m k { s with writes:=CQ ⟨x.b,x.c,s.regs.get x.a⟩ s.writes,pc:=s.pc+1 }) ⟨s.id,s.label,1,s.regs.get x.a⟩
def dB (m:Ad) (k:Nat) (s:Ag) (x:AF):Ad :=
 if x.code=0 then Az m k { s with regs:=s.regs.set x.a x.b,pc:=s.pc+1 }
 else if x.code=1 then Az m k { s with regs:=s.regs.set x.a ((s.regs.get x.a+s.regs.get x.b) % 256),pc:=s.pc+1 }
 else Az m k { s with pc:=if s.regs.get x.a=0 then x.b else s.pc+1 }
def ZV (m:Ad) (k:Nat) (s:Ag):Ad:=AS (Az m k { s with writes:=[],at_:=0,step:=5 }) ⟨s.id,s.label,4,s.reads.length⟩
def Uw (m:Ad) (k:Nat) (s:Ag):Ad:=if s.reads.any (FD m.words)=true then DH m k s 5 else m
def bI (m:Ad) (k:Nat) (s:Ag):Ad :=
 if s.writes.all (fun w=>decide (w.level=s.label))=true then Az m k { s with at_:=0,step:=if s.writes=[] then 3 else 1 } else Ew m k s 3 0
def Xv (m:Ad) (k:Nat) (s:Ag):Ad :=
 match s.prog[s.pc.toNat]? with
 | some x =>
  if x.code=2 then (if under x.b s.label=true then TZ m k s x else Ud m k s x)
  else if x.code=3 then To m k s x
  else if x.code=5 then ZV m k s
  else if x.code=6 then Ew m k s 2 x.a
  else dB m k s x
 | none=>bI m k s
def Vz (m:Ad) (k:Nat) (s:Ag):Option Ad :=
 match s.writes[s.at_.toNat]? with
 | some w=>some (if (BW m.words w.level w.index).lock=0 then Az (Fd m w.level w.index { BW m.words w.level w.index with lock:=s.id+1 }) k { s with at_:=s.at_+1,step:=if s.at_+1=s.writes.length then 2 else s.step } else DH m k s 3)
 | none=>none
def Mi (m:Ad) (k:Nat) (s:Ag):Ad :=
 if m.ceil≤m.clocks.get s.label then Ew m k s 5 0 else Az { m with clocks:=m.clocks.set s.label (m.clocks.get s.label+1) } k { s with stamp:=m.clocks.get s.label+1,step:=3 }
def Nc (m:Ad) (k:Nat) (s:Ag):Ad :=
 if s.reads.all (CR m.words s.id)=true then (if s.writes=[] then Ew m k s 1 0 else Az m k { s with at_:=0,step:=4 }) else DH m k s 3
def WT (m:Ad) (k:Nat) (s:Ag):Option Ad :=
 match s.writes[s.at_.toNat]? with
 | some w=>some (if s.at_+1=s.writes.length then Ew (BL m k s w) k { s with at_:=s.at_+1 } 1 0 else BL m k s w)
 | none=>none
def Gt (m:Ad) (k:Nat) (s:Ag):Option Ad :=
 if s.step=0 then some (Xv m k s)
 else if s.step=1 then Vz m k s
 else if s.step=2 then some (Mi m k s)
 else if s.step=3 then some (Nc m k s)
 else if s.step=4 then WT m k s
 else if s.step=5 then some (Uw m k s)
 else some m
section
variable {m:Ad} {k:Nat} {s:Ag} (hs:m.sess[k]?=some s) (hM:Bk m) (hS:SP m.words s)
include hs hM hS
theorem oB (hst:s.step=0):EB m k s=(Xv m k s,0):=by
 have hp:=AG.1 hS.pc
 unfold EB Xv
 cases hx:s.prog[s.pc.toNat]? with
 | some x =>
  have hpn:s.pc=((s.pc.toNat:Nat):Int):=by omega
  have hcur:=Dn hs hM hst hpn hx
  obtain ⟨hxm,hz,hth⟩:=CV hS hx
  simp only
  by_cases hc:x.code=2
  ·rw [if_pos hc,if_pos hc]
   have hne:BS m k=(!under x.b s.label,0):=by unfold BS;rw [hcur];simp only [hc,if_true]
   rw [hne]
   cases hu:under x.b s.label
   ·simp only [Bool.not_false,if_true,Bool.false_eq_true,if_false]
    unfold Ud Bs
    rw [hcur]
    simp only [hc,hu,Bool.false_eq_true,if_true,if_false,Int.toNat_natCast]
    by_cases hcl:under (orI s.label x.b) s.clear=true
    ·rw [if_pos hcl,if_pos hcl];rfl
    ·rw [if_neg hcl,if_neg hcl];exact FA hs hM (by decide) (by decide)
   ·simp only [Bool.not_true,if_true,Bool.false_eq_true,if_false]
    have hf:AY s.writes x.b x.c=BH x.b x.c s.writes:=by unfold AY;rw [if_pos hS.writes]
    have hg:(BR m.words s.reads s.id).1=s.reads.all (CR m.words s.id):=by rw [Kv hM hS]
    have hwm:=Me hM.arena (hth (.inl hc))
    simp only [AL,Bool.and_eq_true] at hwm
    have hl:=CP hxm (.inl hc)
    have hr1:Cn ⟨x.b,x.c,(BW m.words x.b x.c).ver⟩=true:=by simp only [Cn,hl.1,hl.2,hwm.1.2];rfl
    have hwr:(AX s.reads ⟨x.b,x.c,(BW m.words x.b x.c).ver⟩).1=Rb s.reads ⟨x.b,x.c,(BW m.words x.b x.c).ver⟩:=by
     rcases IP hS.reads hr1 with ⟨h,h2⟩ | ⟨h,h2,_⟩
     ·rw [h];unfold Rb;rw [if_pos h2]
     ·rw [h];unfold Rb;rw [h2];rfl
    unfold BT TZ
    rw [hcur]
    simp only [hc,hu,if_true,hf,hg,hwr,Int.toNat_natCast]
    by_cases h1:(BH x.b x.c s.writes).2=true
    ·rw [if_pos h1,if_pos h1]
    ·rw [if_neg h1,if_neg h1]
     by_cases h2:s.reads.all (CR m.words s.id)=true∧(BW m.words x.b x.c).lock=0
     ·rw [if_pos h2,if_pos h2]
     ·rw [if_neg h2,if_neg h2];exact Fq hs hM (.inl rfl)
  ·rw [if_neg hc,if_neg hc]
   by_cases hc:x.code=3
   ·rw [if_pos hc,if_pos hc]
    have hl:=CP hxm (.inr hc)
    have hw1:Ay ⟨x.b,x.c,s.regs.get x.a⟩=true:=by simp only [Ay,hl.1,hl.2,Ry hS.regs];rfl
    obtain ⟨hr1,_⟩:=Mc hS.writes hw1
    unfold Cl To;rw [hcur];simp only [hc,if_true,Int.toNat_natCast,hr1]
   ·rw [if_neg hc,if_neg hc]
    by_cases hc:x.code=5
    ·rw [if_pos hc,if_pos hc]
     unfold Cd ZV;rw [hcur];simp only [hc,if_true,Int.toNat_natCast]
    ·rw [if_neg hc,if_neg hc]
     by_cases hc:x.code=6
     ·rw [if_pos hc,if_pos hc];exact FA hs hM (by decide) (KS hxm hc)
     ·rw [if_neg hc,if_neg hc]
      have hcd:=IW hxm
      have ha:=ED hxm (by omega)
      unfold Cg dB;rw [hcur]
      simp only [Int.toNat_natCast]
      by_cases h0:x.code=0
      ·rw [if_pos h0,if_pos h0];simp only [KL,hS.regs,ha,Kr hxm h0,Bool.and_self,if_true]
      ·rw [if_neg h0,if_neg h0]
       by_cases h1:x.code=1
       ·rw [if_pos h1,if_pos h1];simp only [Le,hS.regs,ha,Ks hxm h1,Bool.and_self,if_true]
       ·have h4:x.code=4:=by omega
        rw [if_neg h1,if_neg h1,if_pos h4]
 | none =>
  simp only
  unfold DQ bI Dt
  rw [hS.writes,Bool.true_and,Int.toNat_natCast]
  by_cases h:(s.writes.all fun w=>decide (w.level=s.label))=true
  ·rw [if_pos h,if_pos h]
  ·rw [if_neg h,if_neg h];exact FA hs hM (by decide) (by decide)
theorem Vm {st:Int} (h:s.step=st):DY m k st=match s.writes[s.at_.toNat]? with
 | some w=>some (s,w)
 | none=>none:=by
 unfold DY;rw [BX hs hM h];rfl
theorem eP:Be m k=match Gt m k s with
 | some A=>(A,0)
 | none=>(AK,2300):=by
 have hh:=Bf hs hM
 have e:Be m k=if (Bb m k s).2=0 then ((Bb m k s).1,0) else (AK,2300):=by
  unfold Be;rw [if_pos hh,Int.toNat_natCast,hs]
 rw [e]
 unfold Bb Gt
 by_cases h0:s.step=0
 ·rw [if_pos h0,if_pos h0,oB hs hM hS h0];rfl
 rw [if_neg h0,if_neg h0]
 by_cases h1:s.step=1
 ·rw [if_pos h1,if_pos h1]
  unfold DB Vz
  rw [Vm hs hM hS h1]
  cases s.writes[s.at_.toNat]? with
  | none=>rfl
  | some w =>
   simp only [Int.toNat_natCast]
   by_cases hl:(BW m.words w.level w.index).lock=0
   ·simp only [hl,if_true]
   ·simp only [hl,if_false];rw [Fq hs hM (.inl rfl)];rfl
 rw [if_neg h1,if_neg h1]
 by_cases h2:s.step=2
 ·rw [if_pos h2,if_pos h2]
  unfold CL Mi
  rw [BX hs hM h2]
  simp only [Int.toNat_natCast]
  by_cases hc:m.ceil≤m.clocks.get s.label
  ·simp only [hc,if_true];rw [FA hs hM (by decide) (by decide)];rfl
  ·simp only [hc,if_false];rfl
 rw [if_neg h2,if_neg h2]
 by_cases h3:s.step=3
 ·rw [if_pos h3,if_pos h3]
  unfold CT Nc
  rw [BX hs hM h3]
  simp only [Int.toNat_natCast]
  rw [Kv hM hS]
  simp only
  by_cases hg:s.reads.all (CR m.words s.id)=true
  ·simp only [hg,if_true]
   by_cases hw:s.writes=[]
   ·simp only [hw,if_true];rw [FA hs hM (by decide) (by decide)];rfl
   ·simp only [hw,if_false];rfl
  ·simp only [hg,Bool.false_eq_true,if_false];rw [Fq hs hM (.inl rfl)];rfl
 rw [if_neg h3,if_neg h3]
 by_cases h4:s.step=4
 ·rw [if_pos h4,if_pos h4]
  unfold DF WT
  rw [Vm hs hM hS h4]
  cases hw:s.writes[s.at_.toNat]? with
  | none=>rfl
  | some w =>
   simp only
   have hat:=AG.1 hS.at_
   have hn:=Au hw
   have hpn:s.at_=((s.at_.toNat:Nat):Int):=by omega
   obtain ⟨g1,g2⟩:=II hS hw
   simp only [Ay,Bool.and_eq_true] at g2
   have hmay:=NL hs hM hS hpn hn g2.2
   have hs1:(BL m k s w).sess[k]?=some { s with at_:=s.at_+1 }:=List.getElem?_set_self (by simpa [Fd] using Au hs)
   by_cases hl:s.at_+1=s.writes.length
   ·simp only [hl,if_true]
    have:=FA hs1 hmay (r:=1) (t:=0) (by decide) (by decide)
    rw [this]
    simp only [hl];rfl
   ·simp only [hl,if_false];rfl
 rw [if_neg h4,if_neg h4]
 by_cases h5:s.step=5
 ·rw [if_pos h5,if_pos h5]
  have e0:Cd m k=if (BC m.words s.reads).1=true then Bw m k 5 else (m,0):=by
   unfold Cd;rw [Cq hs hM (by omega),BX hs hM h5]
  rw [e0,SF hM hS]
  unfold Uw
  simp only
  by_cases hc:s.reads.any (FD m.words)=true
  ·simp only [hc,if_true];rw [Fq hs hM (.inr rfl)];rfl
  ·simp only [hc,Bool.false_eq_true,if_false];rfl
 rw [if_neg h5,if_neg h5]
 rfl
end
end Ve
namespace Ve
open Go
structure SI (s:Ag):Prop where
 at_:(s.step=1∨s.step=4)→s.at_<s.writes.length
 lvl:(1≤s.step∧s.step≤4)→∀ w∈s.writes,w.level=s.label
 rd:∀ r∈s.reads,under r.level s.label=true
structure Held (m:Ad) (h:Int) (i:Nat) (w:Ao) (s:Ag):Prop where
 mem:s∈m.sess
 id:w.lock=s.id+1
 label:s.label=h
 step:1≤s.step∧s.step≤4
 wr:∃ p∈s.writes,p.level=h∧p.index=i
structure Inv (m:Ad):Prop where
 may:Bk m
 sess:∀ s∈m.sess,SI s
 lock:∀ (h:Int) (i:Nat) (w:Ao),inR h 3=true→(m.words.get h)[i]?=some w→w.lock≠0→∃ s,Held m h i w s
theorem Gi {α:Type} {l:List α} {k:Nat} {x y t:α} (hs:l[k]?=some x) (hy:y∈l) (hne:y≠x):y∈l.set k t:=by
 obtain ⟨j,hj⟩:=List.getElem?_of_mem hy
 have hjk:k≠j:=by
  rintro rfl
  rw [hs] at hj;cases hj;exact hne rfl
 exact List.mem_of_getElem? (i:=j) (by rw [List.getElem?_set_ne hjk];exact hj)
section
variable {m:Ad} {k:Nat} {s:Ag} (hs:m.sess[k]?=some s) (hI:Inv m)
include hs hI
theorem Is {t:Ag} (ht:SI t):∀ x∈m.sess.set k t,SI x:=by
 intro x hx
 rcases List.mem_or_eq_of_mem_set hx with h | rfl
 ·exact hI.sess x h
 ·exact ht
theorem Sf {A:Ad} {t:Ag} (hA:Bk A) (hw:A.words=(Bm (s.id+1) m).words) (hx:A.sess=m.sess.set k t) (ht:SI t):Inv A:=by
 refine ⟨hA,by rw [hx];exact Is hs hI ht,fun h i w hh hg hl=>?_⟩
 rw [hw,Sk] at hg
 cases hv:(m.words.get h)[i]? with
 | none=>rw [hv] at hg;cases hg
 | some v =>
  rw [hv,Option.map_some] at hg
  cases hg
  have hne:v.lock≠s.id+1:=by
   intro e;apply hl;unfold Ap;rw [if_pos e]
  have hvw:Ap (s.id+1) v=v:=by unfold Ap;rw [if_neg hne]
  rw [hvw] at hl ⊢
  obtain ⟨s',h1,h2,h3,h4,h5⟩:=hI.lock h i v hh hv hl
  exact ⟨s',by rw [hx];exact Gi hs h1 (fun e=>hne (by rw [h2,e])),h2,h3,h4,h5⟩
theorem Fl {A:Ad} {t:Ag} (hA:Bk A) (hw:A.words=m.words) (hx:A.sess=m.sess.set k t) (ht:SI t) (h:(1≤s.step∧s.step≤4)→t.id=s.id∧t.label=s.label∧(1≤t.step∧t.step≤4)∧t.writes=s.writes):Inv A:=by
 refine ⟨hA,by rw [hx];exact Is hs hI ht,fun g i w hh hg hl=>?_⟩
 rw [hw] at hg
 obtain ⟨s',h1,h2,h3,h4,h5⟩:=hI.lock g i w hh hg hl
 by_cases e:s'=s
 ·subst e
  obtain ⟨a,b,c,d⟩:=h h4
  exact ⟨t,by rw [hx];exact List.mem_of_getElem? (List.getElem?_set_self (Au hs)),by rw [a];exact h2,by rw [b];exact h3,c,by rw [d];exact h5⟩
 ·exact ⟨s',by rw [hx];exact Gi hs h1 e,h2,h3,h4,h5⟩
theorem Zc:SI (Bv s):=⟨fun h=>(by rcases h with h | h<;>cases h),fun h=>(by simp only [Bv] at h;omega),fun r hr=>by simp [Bv,Df] at hr⟩
theorem nH (r t:Int):SI (Gn s r t):=⟨fun h=>(by rcases h with h | h<;>cases h),fun h=>(by simp only [Gn] at h;omega),fun r hr=>by simp [Gn,Df] at hr⟩
theorem Kq (kind:Int):Inv (DH m k s kind):=Sf hs hI (Tb hs hI.may kind) (HR kind) (Jd kind) (Zc hs hI)
theorem Hq {r t:Int} (hr:inR r 5=true) (ht:inR t 255=true):Inv (Ew m k s r t):=Sf hs hI (OF hs hI.may hr ht) (LD r t) (JH r t) (nH hs hI r t)
end
end Ve
namespace Ve
open Go
theorem Re {a b c:Int} (ha:inR a 3=true) (hb:inR b 3=true) (hc:inR c 3=true) (h1:under a b=true) (h2:under b c=true):under a c=true:=by
 rcases Ir ha with rfl | rfl | rfl | rfl<;>rcases Ir hb with rfl | rfl | rfl | rfl<;>rcases Ir hc with rfl | rfl | rfl | rfl<;>revert h1 h2<;>decide
section
variable {m:Ad} {k:Nat} {s:Ag} (hs:m.sess[k]?=some s) (hI:Inv m)
include hs hI
theorem KR:SP m.words s:=(sp _ _).1 (hI.may.sess s (List.mem_of_getElem? hs))
theorem Ko {t:Ag} (e:Ba) (hA:Bk (AS (Az m k t) e)) (ht:SI t) (h:(1≤s.step∧s.step≤4)→t.id=s.id∧t.label=s.label∧(1≤t.step∧t.step≤4)∧t.writes=s.writes):Inv (AS (Az m k t) e) :=
 Fl hs hI hA (by rw [Dv];rfl) (by rw [DJ];rfl) ht h
theorem jS (hst:s.step=0) (hA:Bk (Xv m k s)):Inv (Xv m k s):=by
 have hS:=KR hs hI
 have hM:=hI.may
 have hSI:=hI.sess s (List.mem_of_getElem? hs)
 have hno:(1≤s.step∧s.step≤4)→False:=by omega
 have hp:=AG.1 hS.pc
 unfold Xv at hA ⊢
 cases hx:s.prog[s.pc.toNat]? with
 | some x =>
  rw [hx] at hA
  simp only at hA ⊢
  obtain ⟨hxm,_,_⟩:=CV hS hx
  by_cases hc:x.code=2
  ·rw [if_pos hc] at hA ⊢
   cases hu:under x.b s.label
   ·rw [hu] at hA
    simp only [Bool.false_eq_true,if_false] at hA ⊢
    unfold Ud at hA ⊢
    by_cases hcl:under (orI s.label x.b) s.clear=true
    ·rw [if_pos hcl] at hA ⊢
     obtain ⟨o1,o2,_,_⟩:=ZZ hS.label (CP hxm (.inl hc)).1
     refine Fl hs hI hA YR Uy ⟨fun h=>?_,fun h=>(hno h).elim,fun r hr=>?_⟩ (fun h=>(hno h).elim)
     ·simp only at h;omega
     ·have h1:=hSI.rd r hr
      have hrl:inR r.level 3=true:=by
       have:=(NT hS.reads).1 r hr
       simp only [Cn,Bool.and_eq_true] at this;exact this.1.1
      refine Re hrl hS.label o1 h1 ?_
      unfold under;rw [decide_eq_true_eq]
      have:orI s.label (orI s.label x.b)=orI (orI s.label x.b) s.label:=by simp only [orI,BitVec.or_comm]
      rw [this];exact o2
    ·rw [if_neg hcl];exact Hq hs hI (by decide) (by decide)
   ·rw [hu] at hA
    simp only [if_true] at hA ⊢
    unfold TZ at hA ⊢
    by_cases h1:(BH x.b x.c s.writes).2=true
    ·rw [if_pos h1] at hA ⊢
     refine Ko hs hI _ hA ⟨fun h=>?_,fun h=>(hno h).elim,hSI.rd⟩ (fun h=>(hno h).elim)
     simp only [CU] at h;omega
    ·rw [if_neg h1] at hA ⊢
     by_cases h2:s.reads.all (CR m.words s.id)=true∧(BW m.words x.b x.c).lock=0
     ·rw [if_pos h2] at hA ⊢
      refine Ko hs hI _ hA ⟨fun h=>?_,fun h=>(hno h).elim,fun r hr=>?_⟩ (fun h=>(hno h).elim)
      ·simp only [CU] at h;omega
      ·show under r.level s.label=true
       simp only [CU,Rb] at hr
       split at hr
       ·exact hSI.rd r hr
       ·rcases List.mem_append.1 hr with hr | hr
        ·exact hSI.rd r hr
        ·simp only [List.mem_singleton] at hr;subst hr;exact hu
     ·rw [if_neg h2];exact Kq hs hI 3
  ·rw [if_neg hc] at hA ⊢
   by_cases hc:x.code=3
   ·rw [if_pos hc] at hA ⊢
    unfold To at hA ⊢
    refine Ko hs hI _ hA ⟨fun h=>?_,fun h=>(hno h).elim,hSI.rd⟩ (fun h=>(hno h).elim)
    simp only at h;omega
   ·rw [if_neg hc] at hA ⊢
    by_cases hc:x.code=5
    ·rw [if_pos hc] at hA ⊢
     unfold ZV at hA ⊢
     refine Ko hs hI _ hA ⟨fun h=>?_,fun h=>?_,hSI.rd⟩ (fun h=>(hno h).elim)
     ·simp only at h;omega
     ·simp only at h;omega
    ·rw [if_neg hc] at hA ⊢
     by_cases hc:x.code=6
     ·rw [if_pos hc];exact Hq hs hI (by decide) (KS hxm hc)
     ·rw [if_neg hc] at hA ⊢
      unfold dB at hA ⊢
      by_cases h0:x.code=0
      ·rw [if_pos h0] at hA ⊢
       exact Fl hs hI hA rfl rfl ⟨fun h=>(by simp only at h;omega),fun h=>(hno h).elim,hSI.rd⟩ (fun h=>(hno h).elim)
      ·rw [if_neg h0] at hA ⊢
       by_cases h1:x.code=1
       ·rw [if_pos h1] at hA ⊢
        exact Fl hs hI hA rfl rfl ⟨fun h=>(by simp only at h;omega),fun h=>(hno h).elim,hSI.rd⟩ (fun h=>(hno h).elim)
       ·rw [if_neg h1] at hA ⊢
        exact Fl hs hI hA rfl rfl ⟨fun h=>(by simp only at h;omega),fun h=>(hno h).elim,hSI.rd⟩ (fun h=>(hno h).elim)
 | none =>
  rw [hx] at hA
  simp only at hA ⊢
  unfold bI at hA ⊢
  by_cases h:(s.writes.all fun w=>decide (w.level=s.label))=true
  ·rw [if_pos h] at hA ⊢
   refine Fl hs hI hA rfl rfl ⟨fun h'=>?_,fun _ w hw=>?_,hSI.rd⟩ (fun h=>(hno h).elim)
   ·simp only at h' ⊢
    by_cases hw:s.writes=[]
    ·simp only [hw,if_true] at h';omega
    ·have:=List.length_pos_iff.2 hw;omega
   ·have:=(List.all_eq_true.1 h) w hw
    simpa using this
  ·rw [if_neg h];exact Hq hs hI (by decide) (by decide)
theorem bP (hst:s.step=1):∃ A,Vz m k s=some A∧(Bk A→Inv A):=by
 have hS:=KR hs hI
 have hSI:=hI.sess s (List.mem_of_getElem? hs)
 have hat:=AG.1 hS.at_
 have hlt:=hSI.at_ (.inl hst)
 have hn:s.at_.toNat<s.writes.length:=by omega
 unfold Vz
 rw [List.getElem?_eq_getElem hn]
 refine ⟨_,rfl,fun hA=>?_⟩
 have hmem:s.writes[s.at_.toNat]∈s.writes:=List.getElem_mem hn
 generalize s.writes[s.at_.toNat]=w at hmem hA ⊢
 have hid:=AG.1 hS.id
 by_cases hl:(BW m.words w.level w.index).lock=0
 ·rw [if_pos hl] at hA ⊢
  have hw1:=(Ce hS.writes).1 w hmem
  simp only [Ay,Bool.and_eq_true] at hw1
  have hlv:=hSI.lvl (by omega) w hmem
  have ht:SI { s with at_:=s.at_+1,step:=if s.at_+1=s.writes.length then 2 else s.step }:=by
   refine ⟨fun h=>?_,fun _=>hSI.lvl (by omega),hSI.rd⟩
   simp only at h ⊢
   by_cases hc:s.at_+1=s.writes.length
   ·rw [if_pos hc] at h;omega
   ·omega
  have hstep:1≤(if s.at_+1=(s.writes.length:Int) then (2:Int) else s.step)∧(if s.at_+1=(s.writes.length:Int) then (2:Int) else s.step)≤4:=by
   split<;>omega
  refine ⟨hA,Is hs hI ht,fun h i v hh hg hlk=>?_⟩
  have hk:=Au hs
  have hmt:({ s with at_:=s.at_+1,step:=if s.at_+1=s.writes.length then 2 else s.step }:Ag)∈m.sess.set k { s with at_:=s.at_+1,step:=if s.at_+1=s.writes.length then 2 else s.step }:=List.mem_of_getElem? (List.getElem?_set_self hk)
  have hlen:i<((Ff m.words w.level w.index { BW m.words w.level w.index with lock:=s.id+1 }).get h).length:=Au hg
  obtain ⟨q0,q1,q2,q3⟩:=HY m.words w.level w.index { BW m.words w.level w.index with lock:=s.id+1 }
  rw [MQ q0 q1 q2 q3] at hlen
  have hv:=List.getElem?_eq_getElem hlen
  have hr:=Ix m.words w { BW m.words w.level w.index with lock:=s.id+1 } h i _ hh hw1.1.1 (by have:=hw1.1.2;rw [AG] at this;exact this.1) hv
  have hg':((Ff m.words w.level w.index { BW m.words w.level w.index with lock:=s.id+1 }).get h)[i]?=some v:=hg
  rw [hr] at hg'
  cases hg'
  by_cases hc:(decide (h=w.level)&&decide ((i:Int)=w.index))=true
  ·rw [if_pos hc] at hlk ⊢
   simp only [Bool.and_eq_true,decide_eq_true_eq] at hc
   exact ⟨_,hmt,rfl,by rw [hc.1];exact hlv.symm,hstep,w,hmem,hc.1.symm,hc.2.symm⟩
  ·rw [if_neg hc] at hlk ⊢
   obtain ⟨s',h1,h2,h3,h4,h5⟩:=hI.lock h i _ hh hv hlk
   by_cases e:s'=s
   ·subst e;exact ⟨_,hmt,h2,h3,hstep,h5⟩
   ·exact ⟨s',Gi hs h1 e,h2,h3,h4,h5⟩
 ·rw [if_neg hl];exact Kq hs hI 3
theorem Yk (hst:s.step=2) (hA:Bk (Mi m k s)):Inv (Mi m k s):=by
 have hSI:=hI.sess s (List.mem_of_getElem? hs)
 unfold Mi at hA ⊢
 by_cases hc:m.ceil≤m.clocks.get s.label
 ·rw [if_pos hc];exact Hq hs hI (by decide) (by decide)
 ·rw [if_neg hc] at hA ⊢
  exact Fl hs hI hA rfl rfl ⟨fun h=>(by simp only at h;omega),fun _=>hSI.lvl (by omega),hSI.rd⟩ (fun _=>⟨rfl,rfl,by simp only;omega,rfl⟩)
theorem Yl (hst:s.step=3) (hA:Bk (Nc m k s)):Inv (Nc m k s):=by
 have hSI:=hI.sess s (List.mem_of_getElem? hs)
 unfold Nc at hA ⊢
 by_cases hg:s.reads.all (CR m.words s.id)=true
 ·rw [if_pos hg] at hA ⊢
  by_cases hw:s.writes=[]
  ·rw [if_pos hw];exact Hq hs hI (by decide) (by decide)
  ·rw [if_neg hw] at hA ⊢
   have:=List.length_pos_iff.2 hw
   exact Fl hs hI hA rfl rfl ⟨fun _=>(by simp only;omega),fun _=>hSI.lvl (by omega),hSI.rd⟩ (fun _=>⟨rfl,rfl,by simp only;omega,rfl⟩)
 ·rw [if_neg hg];exact Kq hs hI 3
theorem Yj {w:Ai} (hst:s.step=4) (hmem:w∈s.writes) (hA:Bk (BL m k s w)) (hlt:s.at_+1<s.writes.length∨True) (ht:SI { s with at_:=s.at_+1 }):Inv (BL m k s w):=by
 have hS:=KR hs hI
 have hw1:=(Ce hS.writes).1 w hmem
 simp only [Ay,Bool.and_eq_true] at hw1
 have hk:=Au hs
 refine ⟨hA,Is hs hI ht,fun h i v hh hg hlk=>?_⟩
 have hmt:({ s with at_:=s.at_+1 }:Ag)∈m.sess.set k { s with at_:=s.at_+1 }:=List.mem_of_getElem? (List.getElem?_set_self hk)
 obtain ⟨q0,q1,q2,q3⟩:=HY m.words w.level w.index ⟨w.val,s.stamp,0⟩
 have hlen:i<((Ff m.words w.level w.index ⟨w.val,s.stamp,0⟩).get h).length:=Au hg
 rw [MQ q0 q1 q2 q3] at hlen
 have hv:=List.getElem?_eq_getElem hlen
 have hr:=Ix m.words w ⟨w.val,s.stamp,0⟩ h i _ hh hw1.1.1 (by have:=hw1.1.2;rw [AG] at this;exact this.1) hv
 have hg':((Ff m.words w.level w.index ⟨w.val,s.stamp,0⟩).get h)[i]?=some v:=hg
 rw [hr] at hg'
 cases hg'
 by_cases hc:(decide (h=w.level)&&decide ((i:Int)=w.index))=true
 ·rw [if_pos hc] at hlk;exact absurd rfl hlk
 ·rw [if_neg hc] at hlk ⊢
  obtain ⟨s',h1,h2,h3,h4,h5⟩:=hI.lock h i _ hh hv hlk
  by_cases e:s'=s
  ·subst e;exact ⟨_,hmt,h2,h3,h4,h5⟩
  ·exact ⟨s',Gi hs h1 e,h2,h3,h4,h5⟩
theorem bQ {w:Ai} (hmem:w∈s.writes) (hA:Bk (Ew (BL m k s w) k { s with at_:=s.at_+1 } 1 0)):Inv (Ew (BL m k s w) k { s with at_:=s.at_+1 } 1 0):=by
 have hS:=KR hs hI
 have hw1:=(Ce hS.writes).1 w hmem
 simp only [Ay,Bool.and_eq_true] at hw1
 have hk:=Au hs
 have hse:(Ew (BL m k s w) k { s with at_:=s.at_+1 } 1 0).sess=m.sess.set k (Gn { s with at_:=s.at_+1 } 1 0):=by
  rw [JH];simp [BL,Az,Fd]
 refine ⟨hA,by rw [hse];exact Is hs hI ⟨fun h=>(by rcases h with h | h<;>cases h),fun h=>(by simp only [Gn] at h;omega),fun r hr=>by simp [Gn,Df] at hr⟩,fun h i v hh hg hlk=>?_⟩
 rw [LD,Sk] at hg
 obtain ⟨q0,q1,q2,q3⟩:=HY m.words w.level w.index ⟨w.val,s.stamp,0⟩
 cases hv:((BL m k s w).words.get h)[i]? with
 | none=>rw [hv] at hg;cases hg
 | some u =>
  rw [hv,Option.map_some] at hg
  cases hg
  have hne:u.lock≠s.id+1:=by
   intro e;apply hlk;show (Ap (s.id+1) u).lock=0;unfold Ap;rw [if_pos e]
  have huw:Ap (s.id+1) u=u:=by unfold Ap;rw [if_neg hne]
  have hlk':u.lock≠0:=by
   intro e;apply hlk;show (Ap (s.id+1) u).lock=0;rw [huw];exact e
  show ∃ s',Held _ h i (Ap (s.id+1) u) s'
  rw [huw]
  have hlen:i<((Ff m.words w.level w.index ⟨w.val,s.stamp,0⟩).get h).length:=Au hv
  rw [MQ q0 q1 q2 q3] at hlen
  have hv0:=List.getElem?_eq_getElem hlen
  have hr:=Ix m.words w ⟨w.val,s.stamp,0⟩ h i _ hh hw1.1.1 (by have:=hw1.1.2;rw [AG] at this;exact this.1) hv0
  have hv':((Ff m.words w.level w.index ⟨w.val,s.stamp,0⟩).get h)[i]?=some u:=hv
  rw [hr] at hv'
  cases hv'
  by_cases hc:(decide (h=w.level)&&decide ((i:Int)=w.index))=true
  ·rw [if_pos hc] at hlk';exact absurd rfl hlk'
  ·rw [if_neg hc] at hlk' hne ⊢
   obtain ⟨s',h1,h2,h3,h4,h5⟩:=hI.lock h i _ hh hv0 hlk'
   exact ⟨s',by rw [hse];exact Gi hs h1 (fun e=>hne (by rw [h2,e])),h2,h3,h4,h5⟩
theorem bR (hst:s.step=4):∃ A,WT m k s=some A∧(Bk A→Inv A):=by
 have hS:=KR hs hI
 have hSI:=hI.sess s (List.mem_of_getElem? hs)
 have hat:=AG.1 hS.at_
 have hlt:=hSI.at_ (.inr hst)
 have hn:s.at_.toNat<s.writes.length:=by omega
 unfold WT
 rw [List.getElem?_eq_getElem hn]
 refine ⟨_,rfl,fun hA=>?_⟩
 have hmem:s.writes[s.at_.toNat]∈s.writes:=List.getElem_mem hn
 generalize s.writes[s.at_.toNat]=w at hmem hA ⊢
 by_cases hl:s.at_+1=s.writes.length
 ·rw [if_pos hl] at hA ⊢;exact bQ hs hI hmem hA
 ·rw [if_neg hl] at hA ⊢
  exact Yj hs hI hst hmem hA (.inr trivial) ⟨fun _=>(by simp only;omega),fun _=>hSI.lvl (by omega),hSI.rd⟩
theorem Kp:∃ A,Be m k=(A,0)∧Gt m k s=some A∧Inv A∧∃ t,Ea m A k s t:=by
 have hS:=KR hs hI
 have hM:=hI.may
 have he:=eP hs hM hS
 have key:∀ A,Gt m k s=some A→(Bk A→Inv A)→∃ A,Be m k=(A,0)∧Gt m k s=some A∧Inv A∧∃ t,Ea m A k s t:=by
  intro A hA hi
  rw [hA] at he
  obtain ⟨t,ht⟩:=Fc hs hM hS (by rw [he])
  rw [he] at ht
  exact ⟨A,he,hA,hi ht.may,t,ht⟩
 by_cases h0:s.step=0
 ·exact key _ (by unfold Gt;rw [if_pos h0]) (jS hs hI h0)
 by_cases h1:s.step=1
 ·obtain ⟨A,hA,hi⟩:=bP hs hI h1
  exact key A (by unfold Gt;rw [if_neg h0,if_pos h1];exact hA) hi
 by_cases h2:s.step=2
 ·exact key _ (by unfold Gt;rw [if_neg h0,if_neg h1,if_pos h2]) (Yk hs hI h2)
 by_cases h3:s.step=3
 ·exact key _ (by unfold Gt;rw [if_neg h0,if_neg h1,if_neg h2,if_pos h3]) (Yl hs hI h3)
 by_cases h4:s.step=4
 ·obtain ⟨A,hA,hi⟩:=bR hs hI h4
  exact key A (by unfold Gt;rw [if_neg h0,if_neg h1,if_neg h2,if_neg h3,if_pos h4];exact hA) hi
 by_cases h5:s.step=5
 ·refine key (Uw m k s) (by unfold Gt;rw [if_neg h0,if_neg h1,if_neg h2,if_neg h3,if_neg h4,if_pos h5]) (fun _=>?_)
  unfold Uw
  split
  ·exact Kq hs hI 5
  ·exact hI
 ·exact key m (by unfold Gt;rw [if_neg h0,if_neg h1,if_neg h2,if_neg h3,if_neg h4,if_neg h5]) (fun _=>hI)
end
end Ve
namespace Ve
open Go
def eSt (p:Bool) (s:Lg):V:=.agg [iV s.id,iV s.label,iV s.clear,eIs p s.prog]
abbrev eSts (p:Bool) (l:List Lg):V:=.isl p false 4 (l.map (eSt p))
abbrev eNs (p:Bool) (l:List Int):V:=.isl p false 1 (l.map iV)
abbrev eSls (p:Bool) (l:List EO):V:=.isl p false 2 (l.map eSl)
abbrev cSc (p:Bool) (s:CJ):List V:=[eNs p s.words.a0,eNs p s.words.a1,eNs p s.words.a2,eNs p s.words.a3,iV s.ceil,eSts p s.starts,eSls p s.slots]
abbrev eSc (p:Bool) (s:CJ):V:=.agg (cSc p s)
structure SmSc (s:CJ):Prop where
 b0:s.words.a0.length≤1048576
 b1:s.words.a1.length≤1048576
 b2:s.words.a2.length≤1048576
 b3:s.words.a3.length≤1048576
 bst:s.starts.length≤1048576
 bsl:s.slots.length≤1048576
 p:∀ x∈s.starts,x.prog.length≤1048576
def aS (v:Int):Ao:=⟨v,0,0⟩
def oC (l:List Int):Bool:=decide (l.length≤4)&&l.all (fun v=>inR v 255)
def Ux (ws:A4 (List Int)):Bool:=ws.all oC
def ME (ws:A4 (List Int)):A4 (List Ao):=⟨ws.a0.map aS,ws.a1.map aS,ws.a2.map aS,ws.a3.map aS⟩
def newA (ws:A4 (List Int)):A4 (List Ao) × Int:=if Ux ws=true then (ME ws,0) else (⟨[],[],[],[]⟩,400)
def Li (s:Lg):Ag:=⟨s.id,s.label,s.clear,s.prog,0,0,⟨0,0,0,0⟩,[],[],0,0,0,0,0⟩
def Uz (s:Lg):Bool:=DT s.id s.label s.clear s.prog
def newS (s:Lg):Ag × Int:=if Uz s=true then (Li s,0) else (Li ⟨0,0,0,[]⟩,1100)
def Dd (s:CJ):Ad:=⟨ME s.words,⟨0,0,0,0⟩,s.ceil,s.starts.map Li,[]⟩
def XY (s:CJ):Ad × Int:=if (Ux s.words&&s.starts.all Uz&&CY (Dd s))=true then (Dd s,0) else (AK,1200)
theorem sm_mach0 {s:CJ} (h:SmSc s):SmM (Dd s):=by
 obtain ⟨b0,b1,b2,b3,bst,bsl,p⟩:=h
 refine ⟨by simp [Dd,ME];omega,by simp [Dd,ME];omega,by simp [Dd,ME];omega,by simp [Dd,ME];omega,by simp [Dd];omega,by simp [Dd],?_⟩
 intro x hx
 simp only [Dd,List.mem_map] at hx
 obtain ⟨y,hy,rfl⟩:=hx
 have:=p y hy
 exact ⟨by simp only [Li];omega,by simp [Li],by simp [Li]⟩
end Ve
namespace Ve
open Go
def BU (x:EO):Bool:=inR x.level 3&&inR x.pick 255
def Jg (l:Int) (s:Ag):Bool:=decide (s.label=l)&&!decide (s.step=6)
def By (l:Int):Nat→List Ag→List Nat
 | _,[]=>[]
 | k,s::r=>if Jg l s=true then k::By l (k+1) r else By l (k+1) r
def FW (m:Ad) (l:Int):List Nat:=By l 0 m.sess
def Cc (m:Ad) (x:EO):Int × Bool × Int :=
 if (CY m&&BU x)=true then
  match (FW m x.level)[x.pick.toNat % (FW m x.level).length]? with
  | some k=>((k:Nat),true,0)
  | none=>(0,false,0)
 else (0,false,2400)
def Bt (m:Ad) (x:EO):Ad × Int :=
 if (Cc m x).2.2=0 then
  if (Cc m x).2.1=true then (if (Be m (Cc m x).1).2=0 then ((Be m (Cc m x).1).1,0) else (AK,2400)) else (m,0)
 else (AK,2400)
def Gx:Ad→List EO→Ad × Int
 | m,[]=>(m,0)
 | m,x::r=>if (Bt m x).2=0 then Gx (Bt m x).1 r else (AK,2500)
def IN (s:CJ):Bool:=decide ((XY s).2=0)&&decide (s.slots.length≤256)&&s.slots.all BU
def tI (s:CJ):Ad × Int:=if IN s=true then Gx (XY s).1 s.slots else (AK,2500)
def QU (g l:Int) (row:List Int):List Int:=if under g l=true then row else row.map fun _=>0
def mR:CJ:=⟨⟨[],[],[],[]⟩,0,[],[]⟩
def sH (s:CJ) (l:Int):CJ:=⟨⟨QU 0 l s.words.a0,QU 1 l s.words.a1,QU 2 l s.words.a2,QU 3 l s.words.a3⟩,s.ceil,s.starts.filter fun x=>under x.label l,s.slots.filter fun x=>under x.level l⟩
def belowM (s:CJ) (l:Int):CJ × Int:=if (IN s&&inR l 3)=true then (sH s l,0) else (mR,2500)
def UF {α:Type} (g l:Int) (row:List α):List α:=if under g l=true then row else []
def UG (g l:Int) (c:Int):Int:=if under g l=true then c else 0
def tF (m:Ad) (l:Int):Ad:=⟨⟨UF 0 l m.words.a0,UF 1 l m.words.a1,UF 2 l m.words.a2,UF 3 l m.words.a3⟩,⟨UG 0 l m.clocks.a0,UG 1 l m.clocks.a1,UG 2 l m.clocks.a2,UG 3 l m.clocks.a3⟩,m.ceil,m.sess.filter fun x=>under x.label l,m.trace.filter fun x=>under x.label l⟩
def seenM (m:Ad) (l:Int):Ad × Int:=if (CY m&&inR l 3)=true then (tF m l,0) else (AK,2500)
end Ve
namespace Ve
open Go
theorem FP:∀ (l:List Ag) (g:Int) (b:Nat) (k:Nat),k∈By g b l→∃ s,b≤k∧l[k - b]?=some s∧Jg g s=true
 | [],g,b,k,h=>by simp [By] at h
 | a::r,g,b,k,h=>by
  unfold By at h
  by_cases ht:Jg g a=true
  ·rw [if_pos ht] at h
   rcases List.mem_cons.1 h with rfl | h
   ·exact ⟨a,Nat.le_refl _,by simp,ht⟩
   ·obtain ⟨s,h1,h2,h3⟩:=FP r g (b+1) k h
    refine ⟨s,by omega,?_,h3⟩
    rw [show k - b=(k - (b+1))+1 by omega];exact h2
  ·rw [if_neg ht] at h
   obtain ⟨s,h1,h2,h3⟩:=FP r g (b+1) k h
   refine ⟨s,by omega,?_,h3⟩
   rw [show k - b=(k - (b+1))+1 by omega];exact h2
theorem Xa {m:Ad} (hM:Bk m) {x:EO} (hx:BU x=true):Cc m x=(0,false,0)∨∃ (k:Nat) (s:Ag),Cc m x=((k:Int),true,0)∧m.sess[k]?=some s∧s.label=x.level∧s.step≠6:=by
 unfold Cc
 rw [(RO m).2 hM,hx]
 simp only [Bool.and_self,if_true]
 cases h:(FW m x.level)[x.pick.toNat % (FW m x.level).length]? with
 | none=>exact .inl rfl
 | some k =>
  right
  obtain ⟨s,_,h2,h3⟩:=FP m.sess x.level 0 k (List.mem_of_getElem? h)
  simp only [Jg,Bool.and_eq_true,decide_eq_true_eq,Bool.not_eq_true',decide_eq_false_iff_not] at h3
  exact ⟨k,s,rfl,by simpa using h2,h3.1,h3.2⟩
theorem Tr {m:Ad} (hI:Inv m) {x:EO} (hx:BU x=true):Bt m x=(m,0)∨∃ (k:Nat) (s t:Ag) (A:Ad),Cc m x=((k:Int),true,0)∧m.sess[k]?=some s∧s.label=x.level∧s.step≠6∧Bt m x=(A,0)∧Be m k=(A,0)∧Gt m k s=some A∧Inv A∧Ea m A k s t:=by
 rcases Xa hI.may hx with h | ⟨k,s,h,hs,hl,hst⟩
 ·left;unfold Bt;rw [h];rfl
 ·right
  obtain ⟨A,h1,h2,h3,t,h4⟩:=Kp hs hI
  refine ⟨k,s,t,A,h,hs,hl,hst,?_,h1,h2,h3,h4⟩
  unfold Bt;rw [h];simp only [if_true,h1]
theorem Zb {m:Ad} (hI:Inv m) {x:EO} (hx:BU x=true):(Bt m x).2=0∧Inv (Bt m x).1∧(Bt m x).1.trace.length≤m.trace.length+1∧(Bt m x).1.sess.length=m.sess.length∧(Bt m x).1.ceil=m.ceil:=by
 rcases Tr hI hx with h | ⟨k,s,t,A,_,hs,_,_,h,_,_,hA,hL⟩
 ·rw [h];exact ⟨rfl,hI,Nat.le_succ _,rfl,rfl⟩
 ·rw [h]
  refine ⟨rfl,hA,?_,by rw [hL.sess];simp,hL.ceil⟩
  rcases hL.trace with e | ⟨e,h1,_⟩
  ·rw [e];exact Nat.le_succ _
  ·rw [h1];simp
theorem XX (s:CJ):(XY s=(Dd s,0)∧CY (Dd s)=true)∨XY s=(AK,1200):=by
 unfold XY
 split
 ·rename_i h
  simp only [Bool.and_eq_true] at h
  exact .inl ⟨rfl,h.2⟩
 ·exact .inr rfl
theorem Vv {s:CJ} (h:CY (Dd s)=true):Inv (Dd s):=by
 refine ⟨(RO _).1 h,?_,?_⟩
 ·intro x hx
  simp only [Dd,List.mem_map] at hx
  obtain ⟨y,_,rfl⟩:=hx
  exact ⟨fun h=>(by rcases h with h | h<;>cases h),fun h=>(by simp only [Li] at h;omega),fun r hr=>by simp [Li] at hr⟩
 ·intro g i w hg hw hl
  exfalso;apply hl
  have:∀ l:List Int,(l.map aS)[i]?=some w→w.lock=0:=by
   intro l h
   rw [List.getElem?_map] at h
   cases hq:l[i]? with
   | none=>rw [hq] at h;cases h
   | some v=>rw [hq] at h;cases h;rfl
  simp only [Dd,ME] at hw
  unfold A4.get at hw
  split at hw
  ·exact this _ hw
  ·split at hw
   ·exact this _ hw
   ·split at hw
    ·exact this _ hw
    ·exact this _ hw
theorem UJ:∀ (l:List EO) (m:Ad),Inv m→l.all BU=true→(Gx m l).2=0∧Inv (Gx m l).1∧(Gx m l).1.trace.length≤m.trace.length+l.length∧(Gx m l).1.sess.length=m.sess.length∧(Gx m l).1.ceil=m.ceil
 | [],m,hI,_=>⟨rfl,hI,by simp [Gx],rfl,rfl⟩
 | x::r,m,hI,h=>by
  simp only [List.all_cons,Bool.and_eq_true] at h
  obtain ⟨h1,h2,h3,h4,h5⟩:=Zb hI h.1
  obtain ⟨g1,g2,g3,g4,g5⟩:=UJ r (Bt m x).1 h2 h.2
  unfold Gx
  rw [if_pos h1]
  exact ⟨g1,g2,by simp only [List.length_cons];omega,by rw [g4,h4],by rw [g5,h5]⟩
theorem script_runs {s:CJ} (h:IN s=true):XY s=(Dd s,0)∧Inv (Dd s)∧tI s=((Gx (Dd s) s.slots).1,0)∧Inv (Gx (Dd s) s.slots).1∧(Gx (Dd s) s.slots).1.trace.length≤256:=by
 have h':=h
 simp only [IN,Bool.and_eq_true,decide_eq_true_eq] at h
 rcases XX s with ⟨e,hm⟩ | e
 ·have hI:=Vv hm
  obtain ⟨g1,g2,g3,_,_⟩:=UJ s.slots (Dd s) hI h.2
  refine ⟨e,hI,?_,g2,?_⟩
  ·unfold tI;rw [if_pos h',e]
   have:Gx (Dd s) s.slots=((Gx (Dd s) s.slots).1,0):=by rw [← g1]
   simp only
   exact this
  ·have:(Dd s).trace.length=0:=rfl
   omega
 ·rw [e] at h;exact absurd h.1.1 (by decide)
end Ve
namespace Ve
open Go
theorem eX {ws:A4 (List Ao)} {s:Ag} (h:SP ws s):SmS s:=by
 have h1:=h.prog
 have h2:=h.reads
 have h3:=h.writes
 simp only [Gz,AJ,AP,Bool.and_eq_true,decide_eq_true_eq] at h1 h2 h3
 exact ⟨by omega,by omega,by omega⟩
theorem KK {m:Ad} (h:Bk m):SmM m:=by
 have ha:=h.arena
 simp only [AR,A4.all,Cs,Bool.and_eq_true,decide_eq_true_eq] at ha
 have h1:=h.sl
 have h2:=h.tl
 exact ⟨by omega,by omega,by omega,by omega,by omega,by omega,fun s hs=>eX ((sp _ _).1 (h.sess s hs))⟩
theorem IM {m:Ad} (hm:SmM m) (at_:Int):SmM (Be m at_).1:=by
 rcases DA m at_ with h | ⟨k,s,rfl,hs,hM,hS⟩
 ·have:Be m at_=(AK,2300):=by unfold Be;rw [h];rfl
  rw [this];exact JR
 ·by_cases h0:(Be m k).2=0
  ·obtain ⟨t,ht⟩:=Fc hs hM hS h0
   exact KK ht.may
  ·have:(Be m k).1=AK:=by
    unfold Be at h0 ⊢
    split at h0
    ·rename_i hh
     simp only [hh,if_true] at h0 ⊢
     simp only [Int.toNat_natCast,hs] at h0 ⊢
     split at h0
     ·exact absurd rfl h0
     ·rename_i h1;rw [if_neg h1]
    ·rename_i hh;rw [if_neg hh]
   rw [this];exact JR
def itM (k:Nat):Nat→Ad→Ad
 | 0,m=>m
 | n+1,m=>(Be (itM k n m) k).1
def itU (k:Nat):Nat→Ad→Ad
 | 0,m=>m
 | n+1,m=>match (itU k n m).sess[k]? with
  | some s=>((Gt (itU k n m) k s).getD AK)
  | none=>AK
theorem qI {k:Nat} {m:Ad} (hI:Inv m) (hk:k<m.sess.length):∀ n,Inv (itM k n m)∧(itM k n m).sess.length=m.sess.length∧itM k n m=itU k n m∧(Be (itM k n m) k).2=0
 | n=>by
  have Do:Inv (itM k n m)∧(itM k n m).sess.length=m.sess.length∧itM k n m=itU k n m:=by
   induction n with
   | zero=>exact ⟨hI,rfl,rfl⟩
   | succ n ih =>
    obtain ⟨h1,h2,h3⟩:=ih
    obtain ⟨s,hs⟩:∃ s,(itM k n m).sess[k]?=some s:=⟨_,List.getElem?_eq_getElem (by omega)⟩
    obtain ⟨A,a1,a2,a3,t,a4⟩:=Kp hs h1
    simp only [itM,itU]
    rw [← h3,hs,a1]
    simp only [a2,Option.getD_some]
    exact ⟨a3,by rw [a4.sess,List.length_set];exact h2,trivial⟩
  obtain ⟨h1,h2,h3⟩:=Do
  obtain ⟨s,hs⟩:∃ s,(itM k n m).sess[k]?=some s:=⟨_,List.getElem?_eq_getElem (by omega)⟩
  obtain ⟨A,a1,_⟩:=Kp hs h1
  exact ⟨h1,h2,h3,by rw [a1]⟩
end Ve
namespace Ve
open Go
def S5x:Ag:=⟨5,1,1,[⟨2,0,0,1⟩,⟨3,0,1,0⟩],0,0,⟨0,0,0,0⟩,[],[],0,0,0,0,0⟩
theorem bO:Inv MB:=Vv (s:=⟨⟨[5,6],[7],[],[9]⟩,9,[⟨3,0,3,[⟨2,0,0,0⟩,⟨1,0,0,0⟩,⟨3,0,0,0⟩]⟩,⟨5,1,1,[⟨2,0,0,1⟩,⟨3,0,1,0⟩]⟩],[]⟩) (by decide +kernel)
theorem bN {m:Ad} {s0 s1:Ag} (hI:Inv m) (h:m.sess=[s0,s1]):∀ n,∃ t,(itU 0 n m).sess=[t,s1]∧Inv (itU 0 n m)
 | 0=>⟨s0,h,hI⟩
 | n+1=>by
  obtain ⟨t,ht,hi⟩:=bN hI h n
  have hs:(itU 0 n m).sess[0]?=some t:=by rw [ht];rfl
  obtain ⟨A,_,a2,a3,t',a4⟩:=Kp hs hi
  have e:itU 0 (n+1) m=A:=by simp only [itU,hs,a2,Option.getD_some]
  rw [e]
  exact ⟨t',by rw [a4.sess,ht];rfl,a3⟩
theorem Sj {m:Ad} {s0 s1:Ag} {a:Int} (h:m.sess=[s0,s1]) (hb:AZ m.words s1=false):Bj m a=false:=by
 have:m.sess.all (AZ m.words)=false:=by rw [h];simp [hb]
 simp only [Bj,CY,this,Bool.and_false,Bool.false_and]
theorem here_one {m:Ad} {s0 s1:Ag} {a:Int} (h:m.sess=[s0,s1]) (hb:AZ m.words s0=false):Bj m a=false:=by
 have:m.sess.all (AZ m.words)=false:=by rw [h];simp [hb]
 simp only [Bj,CY,this,Bool.and_false,Bool.false_and]
theorem cZ (ws:A4 (List Ao)):AZ ws { S5x with clear:=0 }=false:=by
 have:DT S5x.id S5x.label 0 S5x.prog=false:=by decide
 unfold AZ
 rw [this];rfl
theorem YK (w0 w2 w3:List Ao):AZ ⟨w0,[],w2,w3⟩ S5x=false:=by
 have:CM ⟨w0,[],w2,w3⟩ S5x.prog=false:=by
  simp [CM,S5x,FV,AV,A4.get]
 unfold AZ
 rw [this];simp
structure sL (M:Nat→Ad):Prop where
 z:M 0=MB
 st:∀ j,Be (M j) 0=(M (j+1),0)
 sm:∀ j,SmM (M j)
 len:∀ j,(M j).sess.length=2
 two:∀ j,Be (M j) 2=(AK,2300)
 last:M 9=M 8
 res:∃ s,(M 8).sess[0]?=some s∧s.result=1
 eq:∀ j,M j=itU 0 j MB
theorem fU:sL (fun j=>itM 0 j MB):=by
 have h:=qI (k:=0) bO (by decide)
 have e8:itM 0 8 MB=itU 0 8 MB:=(h 8).2.2.1
 have e9:itM 0 9 MB=itU 0 9 MB:=(h 9).2.2.1
 refine ⟨rfl,fun j=>Prod.ext rfl (h j).2.2.2,fun j=>KK (h j).1.may,fun j=>(h j).2.1,fun j=>?_,?_,?_,fun j=>(h j).2.2.1⟩
 ·have:Bj (itM 0 j MB) 2=false:=PS (.inr (by rw [(h j).2.1];decide))
  unfold Be;rw [this];rfl
 ·rw [e8,e9];decide +kernel
 ·rw [e8]
  have:((itU 0 8 MB).sess[0]?.map (·.result))=some 1:=by decide +kernel
  cases hq:(itU 0 8 MB).sess[0]? with
  | none=>rw [hq] at this;cases this
  | some s=>rw [hq] at this;exact ⟨s,rfl,by simpa using this⟩
end Ve
namespace Ve
open Go
theorem Pf {m:Ad} (hm:SmM m) (x:EO):SmM (Bt m x).1:=by
 unfold Bt
 split
 ·split
  ·split
   ·exact IM hm _
   ·exact JR
  ·exact hm
 ·exact JR
theorem YL {m:Ad} {x:EO}:Cc m x=(0,false,2400)∨(CY m=true∧FW m x.level=[]∧Cc m x=(0,false,0))∨∃ (k:Nat) (s:Ag),CY m=true∧Cc m x=((k:Int),true,0)∧m.sess[k]?=some s∧s.label=x.level∧s.step≠6:=by
 unfold Cc
 by_cases h:(CY m&&BU x)=true
 ·have hM:CY m=true:=by simp only [Bool.and_eq_true] at h;exact h.1
  rw [if_pos h]
  cases hq:(FW m x.level)[x.pick.toNat % (FW m x.level).length]? with
  | none =>
   refine .inr (.inl ⟨hM,?_,rfl⟩)
   cases hl:FW m x.level with
   | nil=>rfl
   | cons a r =>
    rw [List.getElem?_eq_none_iff] at hq
    have:=Nat.mod_lt x.pick.toNat (show 0<(FW m x.level).length by rw [hl];simp)
    omega
  | some k =>
   obtain ⟨s,_,h2,h3⟩:=FP m.sess x.level 0 _ (List.mem_of_getElem? hq)
   simp only [Jg,Bool.and_eq_true,decide_eq_true_eq,Bool.not_eq_true',decide_eq_false_iff_not] at h3
   rw [Nat.sub_zero] at h2
   exact .inr (.inr ⟨k,s,hM,rfl,h2,h3.1,h3.2⟩)
 ·rw [if_neg h];exact .inl rfl
theorem eY (m:Ad) (x:EO):Bt m x=(AK,2400)∨(CY m=true∧Bt m x=(m,0))∨∃ (k:Nat) (s t:Ag),m.sess[k]?=some s∧s.label=x.level∧s.step≠6∧(Bt m x).2=0∧Ea m (Bt m x).1 k s t:=by
 rcases YL (m:=m) (x:=x) with h | ⟨hM,_,h⟩ | ⟨k,s,hM,h,hs,hl,hn⟩
 ·left;unfold Bt;rw [h];rfl
 ·right;left;exact ⟨hM,by unfold Bt;rw [h];rfl⟩
 ·have hMP:=(RO m).1 hM
  by_cases h0:(Be m k).2=0
  ·right;right
   obtain ⟨t,W⟩:=Fc hs hMP ((sp _ _).1 (hMP.sess s (List.mem_of_getElem? hs))) h0
   have e:Bt m x=((Be m k).1,0):=by
    unfold Bt;rw [h];simp only [if_true,h0]
   exact ⟨k,s,t,hs,hl,hn,by rw [e],by rw [e];exact W⟩
  ·left;unfold Bt;rw [h];simp only [if_true,h0,if_false]
end Ve
namespace Ve
open Go
theorem YM:∀ (l:List Ag) (g:Int) (b k:Nat),k∈By g b l→b≤k
 | l,g,b,k,h=>by obtain ⟨_,h1,_⟩:=FP l g b k h;exact h1
theorem Mf:∀ (l:List Ag) (g:Int) (b:Nat),(By g b l).Pairwise (·<·)
 | [],g,b=>by simp [By]
 | a::r,g,b=>by
  unfold By
  split
  ·exact List.Pairwise.cons (fun k hk=>by have:=YM r g (b+1) k hk;omega) (Mf r g (b+1))
  ·exact Mf r g (b+1)
theorem Xb:∀ (l:List Ag) (g:Int) (b:Nat),(By g b l).length=(l.filter (Jg g)).length
 | [],g,b=>rfl
 | a::r,g,b=>by
  have h:=Xb r g (b+1)
  unfold By
  rw [List.filter_cons]
  split<;>simp [h]
theorem ZW {l:List Nat} (h:l.Pairwise (·<·)) {i j v:Nat} (hi:l[i]?=some v) (hj:l[j]?=some v):i=j:=by
 have h1:=Au hi
 have h2:=Au hj
 rw [List.pairwise_iff_getElem] at h
 have e1:l[i]=v:=by rw [List.getElem?_eq_getElem h1] at hi;exact Option.some.inj hi
 have e2:l[j]=v:=by rw [List.getElem?_eq_getElem h2] at hj;exact Option.some.inj hj
 rcases Nat.lt_trichotomy i j with hl | hl | hl
 ·have:=h i j h1 h2 hl;rw [e1,e2] at this;omega
 ·exact hl
 ·have:=h j i h2 h1 hl;rw [e1,e2] at this;omega
theorem iT {p n a b:Nat} (ha:a<n) (hb:b<n) (h:(p+a) % n=(p+b) % n):a=b:=by
 have h1:(p+a) % n=(p % n+a) % n:=by simp
 have h2:(p+b) % n=(p % n+b) % n:=by simp
 rw [h1,h2] at h
 have hp:=Nat.mod_lt p (show 0<n by omega)
 have f:∀ c,c<n→(p % n+c) % n=if p % n+c<n then p % n+c else p % n+c - n:=by
  intro c hc
  split
  ·exact Nat.mod_eq_of_lt (by assumption)
  ·rw [Nat.mod_eq_sub_mod (by omega),Nat.mod_eq_of_lt (by omega)]
 rw [f a ha,f b hb] at h
 split at h<;>split at h<;>omega
theorem fair {m:Ad} (hM:CY m=true) {g:Int} (hg:inR g 3=true) (p:Nat) {a:Nat} (ha:a<(FW m g).length) (hp:BU ⟨g,((p+a:Nat):Int)⟩=true) :
  ∃ (k:Nat) (s:Ag),Cc m ⟨g,((p+a:Nat):Int)⟩=((k:Int),true,0)∧(FW m g)[(p+a) % (FW m g).length]?=some k∧m.sess[k]?=some s∧s.label=g∧s.step≠6:=by
 have hlt:=Nat.mod_lt (p+a) (show 0<(FW m g).length by omega)
 have he:=List.getElem?_eq_getElem hlt
 have hw:Cc m ⟨g,((p+a:Nat):Int)⟩=((((FW m g)[(p+a) % (FW m g).length]:Nat):Int),true,0):=by
  unfold Cc
  rw [hM,hp]
  simp only [Bool.and_self,if_true,Int.toNat_natCast,he]
 obtain ⟨s,_,h2,h3⟩:=FP m.sess g 0 _ (List.mem_of_getElem? he)
 simp only [Jg,Bool.and_eq_true,decide_eq_true_eq,Bool.not_eq_true',decide_eq_false_iff_not] at h3
 rw [Nat.sub_zero] at h2
 exact ⟨_,s,hw,he,h2,h3.1,h3.2⟩
theorem fair_once {m:Ad} {g:Int} {p a b k:Nat} (ha:a<(FW m g).length) (hb:b<(FW m g).length) (h1:(FW m g)[(p+a) % (FW m g).length]?=some k) (h2:(FW m g)[(p+b) % (FW m g).length]?=some k):a=b :=
 iT ha hb (ZW (Mf _ _ _) h1 h2)
end Ve
