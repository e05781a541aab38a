/- Owned scripts: how the evaluator's values stand for them. -/
import Derived.Test.YtdgpalcplglhjaaGreatVeP
import Derived.Test.YtdgpalcplglhjaaGreatVeN
import Derived.Test.YtdgpalcplglhjaaGreatVeSA
import Derived.Test.YtdgpalcplglhjaaGreatVeSB
import Derived.Test.YtdgpalcplglhjaaGreatVeSC
set_option linter.all false
set_option linter.unusedSectionVars false
namespace Ve
open Go
abbrev oNs (l:List Int):V:=.own 1 (l.map iV)
def oSt (s:Ck):V:=.agg [iV s.id,iV s.label,iV s.clear,oIs s.prog]
abbrev oSts (l:List Ck):V:=.own 4 (l.map oSt)
abbrev oSls (l:List BW):V:=.own 2 (l.map eSl)
abbrev cOSc (s:AQ):List V:=[oNs s.words.a0,oNs s.words.a1,oNs s.words.a2,oNs s.words.a3,iV s.ceil,oSts s.starts,oSls s.slots]
abbrev oSc (s:AQ):V:=.agg (cOSc s)
def Vc (s:Ck):V:=.agg [iV (PD s.id 90),iV s.label,iV s.clear,.dead]
def mvS (s:Af):V:=.agg [iV s.id,iV s.label,iV s.clear,.dead,iV s.step,iV s.pc,iV s.regs.a0,iV s.regs.a1,iV s.regs.a2,iV s.regs.a3,.dead,.dead,iV s.at_,iV s.stamp,iV s.tries,iV s.result,iV s.told]
theorem yW (l:List Int):fzs (l.map iV)=l.map iV:=EX _ _ (fun _=>by simp [V.fz]) l
theorem yX (l:List Int):bzs (l.map iV)=l.map iV:=Fb _ _ (fun _=>by simp [V.bz]) l
theorem rZ (l:List Ck):fzs (l.map oSt)=l.map (eSt true):=EX _ _ (fun _=>by simp [oSt,eSt,V.fz,fzs,Ww]) l
theorem sA (l:List Ck):bzs (l.map oSt)=l.map (eSt false):=Fb _ _ (fun _=>by simp [oSt,eSt,V.bz,bzs,Pg]) l
theorem uQ (p:Bool) (l:List Ck):fzs (l.map (eSt p))=l.map (eSt p):=EX _ _ (fun _=>by simp [eSt,V.fz,fzs]) l
theorem uR (p:Bool) (l:List Ck):bzs (l.map (eSt p))=l.map (eSt p):=Fb _ _ (fun _=>by simp [eSt,V.bz,bzs]) l
theorem aW (l:List Int):Ay (l.map iV)=true:=CE _ (fun _=>by simp [V.perm]) l
theorem Yv (l:List BW):Ay (l.map eSl)=true:=CE _ (fun _=>by simp [eSl,V.perm,Ay]) l
theorem Yr (l:List Ck):Ay (l.map oSt)=true:=CE _ (fun _=>by simp [oSt,V.perm,Ay]) l
theorem Yu (l:List Ck):Ay (l.map (eSt true))=true:=CE _ (fun _=>by simp [eSt,V.perm,Ay]) l
theorem UB (n:Nat) (v:Value):Ay (List.replicate n (V.lit v))=true:=by
 induction n with
 | zero=>rfl
 | succ n ih=>rw [List.replicate_succ,Fq,ih,SA];rfl
theorem Nr (thr d:Nat):AF thr (d+1) .dead=.ret (.dead,[]):=(rfl)
theorem a0m (thr d:Nat) (l:List Int):Aw (AF thr (d+2)) (l.map iV)=.ret ((l.map iV).map vn):=Hf _ _ _ (fun x=>by simp only [Ej]) l
theorem vV (thr d:Nat) (l:List BW):Aw (AF thr (d+2)) (l.map eSl)=.ret ((l.map eSl).map vn):=Hf _ _ _ (fun x=>by simp only [eSl,EG,Ch,Dg,Ej,Gc,Gd,Bh,List.map_cons,List.map_nil,List.flatten_cons,List.flatten_nil,List.append_nil,List.nil_append]) l
theorem vR (thr d:Nat) (l:List Ck):Aw (AF thr (d+2)) (l.map oSt)=.ret ((l.map oSt).map vn):=Hf _ _ _ (fun x=>by simp only [oSt,EG,Ch,Dg,Ej,Gc,Gd,Bh,List.map_cons,List.map_nil,List.flatten_cons,List.flatten_nil,List.append_nil,List.nil_append]) l
theorem vU (p:Bool) (thr d:Nat) (l:List Ck):Aw (AF thr (d+2)) (l.map (eSt p))=.ret ((l.map (eSt p)).map vn):=Hf _ _ _ (fun x=>by simp only [eSt,EG,Ch,Dg,Ej,Gc,Gd,Bh,List.map_cons,List.map_nil,List.flatten_cons,List.flatten_nil,List.append_nil,List.nil_append]) l
theorem Zk (thr d:Nat) (l:List Ck):Aw (AF thr (d+2)) (l.map Vc)=.ret ((l.map Vc).map vn):=Hf _ _ _ (fun x=>by simp only [Vc,EG,Ch,Dg,Ej,Nr,Bh,List.map_cons,List.map_nil,List.flatten_cons,List.flatten_nil,List.append_nil,List.nil_append]) l
theorem vS (thr d:Nat) (l:List Af):Aw (AF thr (d+2)) (l.map mvS)=.ret ((l.map mvS).map vn):=Hf _ _ _ (fun x=>by simp only [mvS,EG,Ch,Dg,Ej,Nr,Bh,List.map_cons,List.map_nil,List.flatten_cons,List.flatten_nil,List.append_nil,List.nil_append]) l
theorem PT {α:Type} (d:Nat) (f g:α→V) (h:∀ x,AI d (f x)=.ret (g x)) (l:List α):Aw (AI d) (l.map f)=.ret (l.map g):=Vu _ _ g h l
theorem rI (d:Nat) (l:List Int):Aw (AI (d+2)) (l.map iV)=.ret (l.map iV):=PT _ _ _ (fun x=>by simp only [JG]) l
theorem jJ (d:Nat) (l:List BW):Aw (AI (d+2)) (l.map eSl)=.ret (l.map eSl):=PT _ _ _ (fun x=>by simp only [eSl,KT,Ch,Dg,JG,Bh]) l
theorem jH (d:Nat) (l:List Ck):Aw (AI (d+2)) (l.map oSt)=.ret (l.map (eSt false)):=PT _ _ _ (fun x=>by simp only [oSt,eSt,KT,Ch,Dg,JG,PS,Bh,Pg]) l
theorem jI (p:Bool) (d:Nat) (l:List Ck):Aw (AI (d+2)) (l.map (eSt p))=.ret (l.map (eSt p)):=PT _ _ _ (fun x=>by simp only [eSt,KT,Ch,Dg,JG,aE,Bh]) l
attribute [go_sem] eSt oSt yW yX rZ sA uQ uR aW Yv Yr Yu UB Nr a0m vV vR vU Zk vS rI jJ jH jI
end Ve
namespace Ve
open Go Ve.Ab
set_option maxHeartbeats 16000000
set_option maxRecDepth 10000
theorem SU (i k:Nat) (pf nn:Bool) (xs:List BW) (p:BW→Bool) (g:Nat) (cap:List V) (hc:Ah tbl g []) (hcap:∀ d,Aw (AI (d+1)) cap=.ret cap) (hsc:AL 0 cap=cap)
  (hp:∀ a,a∈xs→Aa (Lv ctx i) g (eSl a::cap)=some (bV (p a))) (hx:xs.length≤BB) (q:Out→St→Option Ans) (Q:V→Hp→Nat→Prop) (u:Dum fun s q=>evC ctx (Lv ctx i) (Aa (Lv ctx i)) k NI s (As [0,1,7,8] q)) (w:Dum q):∀ (suf pre:List BW) (kk:Nat),xs=pre++suf→suf.length<kk →
  GL 0 [0,1,7,8] (fun s q=>evC ctx (Lv ctx i) (Aa (Lv ctx i)) k NI s (As [0,1,7,8] q)) q kk ⟨Ae [0,1,7,8] [.isl pf nn 2 (xs.map eSl),.fn (.func g) [] cap,iV xs.length,iV pre.length],Ag,0⟩ Q u w =
  HP q Q ⟨Ae [] [],Ag,0⟩ (fun j=>⟨Ae [4] [iV j],Ag,0⟩) (Bi p pre.length suf)
 | [],pre,kk,hxs,hk=>by
  obtain ⟨kk,rfl⟩:∃ m,kk=m+1:=⟨kk - 1,by simp at hk;omega⟩
  have h1:decide ((pre.length:Int)<xs.length)=false:=by simp [hxs]
  simp +contextual -dsimp -implicitDefEqProofs (maxSteps:=5000000) only [gLs,↓Aj (NI.eq_1),h1,hcap,hsc,Bi,BC,go_sem,simprocAttr]
 | a::suf,pre,kk,hxs,hk=>by
  obtain ⟨kk,rfl⟩:∃ m,kk=m+1:=⟨kk - 1,by simp at hk;omega⟩
  have hl:pre.length<xs.length:=by simp [hxs]
  have h1:decide ((pre.length:Int)<xs.length)=true:=by simpa using hl
  have h2:((pre.length:Int)<xs.length)=True:=by simpa using hl
  have h3:(0≤(pre.length:Int))=True:=by simp
  have h4:=wrN pre.length (by omega)
  have hg:xs[pre.length]?=some a:=by simp [hxs]
  have hpa:=hp a (by simp [hxs])
  simp only [eSl] at hpa
  have ih:=SU i k pf nn xs p g cap hc hcap hsc hp hx q Q u w suf (pre++[a]) kk (by simp [hxs]) (by simpa using hk)
  rw [Ao] at ih
  cases hb:p a<;>rw [hb] at hpa<;>simp +contextual -dsimp -implicitDefEqProofs (maxSteps:=5000000) only [gLs,↓Aj (NI.eq_1),h1,h2,h3,h4,hcap,hsc,Bi,BA,hg,hpa,hb,hc,ih,Int.toNat_natCast,List.getElem?_map,go_sem,simprocAttr]
theorem ZX (i:Nat) (pf nn:Bool) (xs:List BW) (p:BW→Bool) (g:Nat) (cap:List V) (hc:Ah tbl g []) (hcap:∀ d,Aw (AI (d+1)) cap=.ret cap) (hsc:AL 0 cap=cap) (hn:Br cap=true)
  (hp:∀ a,a∈xs→Aa (Lv ctx i) g (eSl a::cap)=some (bV (p a))) (hx:xs.length≤BB):Aa (Lv ctx (i+2)) 83 [.isl pf nn 2 (xs.map eSl),.fn (.func g) [] cap]=some (bV (xs.any p)):=by
 have h1:Aa (Lv ctx (i+1)) 130 [.isl pf nn 2 (xs.map eSl),.fn (.func g) [] cap]=some (iV (FL (Bi p 0 xs))):=by
  refine Ac rfl (xs.length+1) (by rfl) ?_
  delta c130
  have hl:=fun q Q u w=>SU i (xs.length+1) pf nn xs p g cap hc hcap hsc hp hx q Q u w xs [] (xs.length+1) rfl (by omega)
  simp only [List.length_nil,Int.natCast_zero] at hl
  simp +contextual -dsimp -implicitDefEqProofs (maxSteps:=5000000) only [hl,go_sem,simprocAttr]
  cases Bi p 0 xs<;>simp +contextual -dsimp -implicitDefEqProofs (maxSteps:=5000000) only [BC,BA,FL,go_sem,simprocAttr]
 refine Ac rfl 0 (by rfl) ?_
 delta c83
 simp +contextual -dsimp -implicitDefEqProofs (maxSteps:=5000000) only [h1,hcap,DP,go_sem,simprocAttr]
end Ve
namespace Ve
open Go
def Cs (t:Int):List Ak→Nat
 | []=>0
 | x::r=>if plW x<t then Cs t r+1 else 0
theorem PX (t:Int):∀ l,Cs t l≤l.length
 | []=>Nat.le_refl _
 | x::r=>by
  have:=PX t r
  simp only [Cs]
  split<;>simp<;>omega
theorem aK (t:Int):∀ (l:List Ak) (j:Nat) (w:Ak),j<Cs t l→l[j]?=some w→plW w<t
 | [],j,w,h,_=>by simp [Cs] at h
 | x::r,j,w,h,hw=>by
  simp only [Cs] at h
  split at h
  ·rename_i hx
   cases j with
   | zero=>simp only [List.getElem?_cons_zero,Option.some.injEq] at hw;subst hw;exact hx
   | succ j=>exact aK t r j w (by omega) (by simpa using hw)
  ·omega
theorem aL (t:Int):∀ (l:List Ak),l.Pairwise (fun a b=>plW a<plW b)→∀ (j:Nat) (w:Ak),Cs t l≤j→l[j]?=some w→t≤plW w
 | [],_,j,w,_,hw=>by simp at hw
 | x::r,hp,j,w,h,hw=>by
  obtain ⟨h1,h2⟩:=List.pairwise_cons.1 hp
  simp only [Cs] at h
  split at h
  ·cases j with
   | zero=>omega
   | succ j=>exact aL t r h2 j w (by omega) (by simpa using hw)
  ·rename_i hx
   cases j with
   | zero=>simp only [List.getElem?_cons_zero,Option.some.injEq] at hw;subst hw;omega
   | succ j =>
    have:=h1 w (List.mem_of_getElem? (by simpa using hw))
    omega
theorem Wu (lv ix:Int):∀ l:List Ak,(∀ w∈l,AC lv ix<plW w)→Bs lv ix l=(0,false)
 | [],_=>rfl
 | x::r,h=>by
  have hx:=h x (by simp)
  have hn:¬ (x.level=lv∧x.index=ix):=by
   rintro ⟨rfl,rfl⟩
   simp only [plW] at hx
   omega
  simp only [Bs,hn,if_false]
  exact Wu lv ix r (fun w hw=>h w (by simp [hw]))
theorem aQ {w:Ak} (h:Az w=true) {lv ix:Int} (h2:inR ix 3=true):plW w=AC lv ix↔w.level=lv∧w.index=ix:=by
 simp only [Az,Bool.and_eq_true,AR] at h
 rw [AR] at h2
 simp only [plW,AC]
 constructor
 ·intro e;omega
 ·rintro ⟨rfl,rfl⟩;rfl
theorem To {lv ix:Int} (h2:inR ix 3=true):∀ l:List Ak,(∀ w∈l,Az w=true)→l.Pairwise (fun a b=>plW a<plW b) →
  Bs lv ix l=match l[Cs (AC lv ix) l]? with
   | some w=>if plW w=AC lv ix then (w.val,true) else (0,false)
   | none=>(0,false)
 | [],_,_=>rfl
 | x::r,hw,hp=>by
  obtain ⟨h3,h4⟩:=List.pairwise_cons.1 hp
  have he:=aQ (hw x (by simp)) (lv:=lv) h2
  simp only [Cs]
  by_cases hx:plW x<AC lv ix
  ·have hn:¬ (x.level=lv∧x.index=ix):=by rw [← he];omega
   simp only [Bs,hn,if_false,hx,if_true,List.getElem?_cons_succ]
   exact To h2 r (fun w h=>hw w (by simp [h])) h4
  ·simp only [hx,if_false,List.getElem?_cons_zero]
   by_cases hq:plW x=AC lv ix
   ·simp only [Bs,he.1 hq,and_self,if_true,hq]
   ·have hn:¬ (x.level=lv∧x.index=ix):=by rw [← he];exact hq
    simp only [Bs,hn,if_false,hq]
    exact Wu lv ix r (fun w h=>by have:=h3 w h;omega)
theorem Qk (w:Ak):∀ l:List Ak,CW w l=l.take (Cs (plW w) l)++w::(match l[Cs (plW w) l]? with
   | some x=>if plW x=plW w then l.drop (Cs (plW w) l+1) else l.drop (Cs (plW w) l)
   | none=>[])
 | []=>rfl
 | x::r=>by
  simp only [CW,Cs]
  by_cases hx:plW x<plW w
  ·have hx':AC x.level x.index<AC w.level w.index:=hx
   simp only [hx',if_true,List.take_succ_cons,List.getElem?_cons_succ,List.drop_succ_cons,List.cons_append]
   rw [Qk w r]
  ·have hx':¬ AC x.level x.index<AC w.level w.index:=hx
   simp only [hx',if_false,List.take_zero,List.getElem?_cons_zero,List.nil_append,List.drop_zero,Nat.zero_add,List.drop_succ_cons]
   by_cases hq:plW x=plW w
   ·have hq':AC x.level x.index=AC w.level w.index:=hq
    simp only [hq',if_true]
   ·have hq':¬ AC x.level x.index=AC w.level w.index:=hq
    simp only [hq',if_false]
end Ve
namespace Ve
open Go Ve.Ab
set_option maxHeartbeats 16000000
set_option maxRecDepth 10000
theorem Sl {w:Ak} {l x v:Int} (hw:Az w=true) (hl:inR l 3=true) (hx:inR x 3=true):decide (LO w ⟨l,x,v⟩<0)=decide (plW w<AC l x)∧decide (LO w ⟨l,x,v⟩=0)=decide (plW w=AC l x):=by
 simp only [Az,inR,Bool.and_eq_true,decide_eq_true_eq] at hw hl hx
 have e1:=EH (a:=w.level - l) (by omega) (by omega)
 have e2:=EH (a:=w.index - x) (by omega) (by omega)
 simp only [wr] at e1 e2
 have h:(LO w ⟨l,x,v⟩<0↔plW w<AC l x)∧(LO w ⟨l,x,v⟩=0↔plW w=AC l x):=by
  simp only [LO,e1,e2,plW,AC]
  split<;>omega
 exact ⟨by simp only [h.1],by simp only [h.2]⟩
theorem Vh (P:FuncId→List V→Option V) (n:Nat) (f:Bool) (xs:List V):FW tbl P n f Bv xs=.p none:=rfl
def Qn (t:Int) (xs:List Ak):Bool:=match xs[Cs t xs]? with
 | some w=>decide (plW w=t)
 | none=>false
theorem eG {l x:Int} (hx:inR x 3=true) {xs:List Ak} (hm:AS xs=true):Ba xs l x=if Qn (AC l x) xs=true then ((xs.getD (Cs (AC l x) xs) ⟨0,0,0⟩).val,true) else (0,false):=by
 obtain ⟨h1,h2,_⟩:=Ci hm
 unfold Ba
 rw [hm,if_pos rfl,To hx xs h1 h2]
 unfold Qn
 cases h:xs[Cs (AC l x) xs]? with
 | none=>simp
 | some w=>simp only [List.getD_eq_getElem?_getD,h,Option.getD_some,decide_eq_true_eq]
theorem mD {lo hi:Nat} (h:hi≤16) (h2:lo<hi):IntKind.wrap .i64 ((lo:Int)+(hi:Int))=((lo+hi:Nat):Int)∧IntKind.wrap .u64 ((lo+hi:Nat):Int)=((lo+hi:Nat):Int)∧((((lo+hi:Nat):Int)).fdiv (2 ^ min (1:Int).toNat (IntKind.bits .u64)))=(((lo+hi) / 2:Nat):Int)∧IntKind.wrap .i64 (((lo+hi) / 2:Nat):Int)=(((lo+hi) / 2:Nat):Int):=by
 have key:∀ n:_root_.Fin 32,IntKind.wrap .i64 ((n.val:Nat):Int)=((n.val:Nat):Int)∧IntKind.wrap .u64 ((n.val:Nat):Int)=((n.val:Nat):Int)∧(((n.val:Nat):Int).fdiv (2 ^ min (1:Int).toNat (IntKind.bits .u64)))=((n.val / 2:Nat):Int)∧IntKind.wrap .i64 ((n.val / 2:Nat):Int)=((n.val / 2:Nat):Int):=by decide +kernel
 have:=key ⟨lo+hi,by omega⟩
 simp only at this
 rw [show (lo:Int)+(hi:Int)=((lo+hi:Nat):Int) by omega]
 exact this
theorem cX (i k:Nat) (pf nn p:Bool) (xs:List Ak) (hw:∀ w∈xs,Az w=true) (hp:xs.Pairwise (fun a b=>plW a<plW b)) (h16:xs.length≤16) (l x v:Int) (hl:inR l 3=true) (hx:inR x 3=true) (q:Out→St→Option Ans) (Q:V→Hp→Nat→Prop)
  (u:Dum (fun s q=>evC ctx (Lv ctx (i+2)) (Aa (Lv ctx (i+2))) k Lh s (As [0,2,4,8,9,10] q))) (w:Dum q)
  (hend:Fin (q (.exit 0) ⟨Ae [0,2,4,8,9] [.isl pf nn 3 (xs.map eWr),.fn (.func 177) [] [],.ip p [iV l,iV x,iV v] 0,iV xs.length,iV (Cs (AC l x) xs)],Ag,0⟩) Q) :
  ∀ (kk lo hi:Nat),lo≤Cs (AC l x) xs→Cs (AC l x) xs≤hi→hi≤xs.length→hi<lo+kk →
  GL 0 [0,2,4,8,9,10] (fun s q=>evC ctx (Lv ctx (i+2)) (Aa (Lv ctx (i+2))) k Lh s (As [0,2,4,8,9,10] q)) q kk ⟨Ae [0,2,4,8,9,10] [.isl pf nn 3 (xs.map eWr),.fn (.func 177) [] [],.ip p [iV l,iV x,iV v] 0,iV xs.length,iV lo,iV hi],Ag,0⟩ Q u w
 | 0,lo,hi,h1,h2,h3,h4=>by omega
 | kk+1,lo,hi,h1,h2,h3,h4=>by
  by_cases hlt:lo<hi
  ·have l0:decide ((lo:Int)<(hi:Int))=true:=by simpa using hlt
   obtain ⟨g1,g2,g3,g4⟩:=mD (by omega) hlt
   have hsh:∀ t,BJ lay .shr t (.lit (.int .u64 ((lo+hi:Nat):Int))) (.lit (.int .u64 1))=some (.lit (.int .u64 (((lo+hi) / 2:Nat):Int))):=fun t=>by rw [nY (by decide),g3]
   have hml:(lo+hi) / 2<xs.length:=by omega
   have hmlo:lo≤(lo+hi) / 2:=by omega
   have hmhi:(lo+hi) / 2<hi:=by omega
   generalize (lo+hi) / 2=c at g3 g4 hsh hml hmlo hmhi
   generalize ((lo+hi:Nat):Int)=e at g1 g2 g3 hsh
   have p1:(0≤(c:Int))=True:=by simp
   have p2:((c:Int)<(xs.length:Int))=True:=by simpa using hml
   obtain ⟨b,hb⟩:∃ b,xs[c]?=some b:=⟨_,List.getElem?_eq_getElem hml⟩
   have hs:=(Sl (v:=v) (hw b (List.mem_of_getElem? hb)) hl hx).1
   have w1:=wrN c (by simp only [BB];omega)
   by_cases hpb:plW b<AC l x
   ·have hca:c<Cs (AC l x) xs:=by
     rcases Nat.lt_or_ge c (Cs (AC l x) xs) with h | h
     ·exact h
     ·have:=aL _ xs hp c b h hb;omega
    have s1:decide (LO b ⟨l,x,v⟩<0)=true:=by rw [hs];simpa using hpb
    have ih:=cX i k pf nn p xs hw hp h16 l x v hl hx q Q u w hend kk (c+1) hi (by omega) h2 h3 (by omega)
    simp +contextual -dsimp -implicitDefEqProofs (maxSteps:=5000000) only [gLs,↓Aj (Lh.eq_1),CF,l0,g1,g2,g4,hsh,p1,p2,hb,s1,w1,go_sem,simprocAttr]
    exact (BN (by rfl)).mpr ih
   ·have hca:Cs (AC l x) xs≤c:=by
     rcases Nat.lt_or_ge c (Cs (AC l x) xs) with h | h
     ·exact absurd (aK _ xs c b h hb) hpb
     ·exact h
    have s1:decide (LO b ⟨l,x,v⟩<0)=false:=by rw [hs];simpa using hpb
    have ih:=cX i k pf nn p xs hw hp h16 l x v hl hx q Q u w hend kk lo c h1 hca (by omega) (by omega)
    simp +contextual -dsimp -implicitDefEqProofs (maxSteps:=5000000) only [gLs,↓Aj (Lh.eq_1),CF,l0,g1,g2,g4,hsh,p1,p2,hb,s1,w1,go_sem,simprocAttr]
    exact (BN (by rfl)).mpr ih
  ·have l0:decide ((lo:Int)<(hi:Int))=false:=by simpa using hlt
   have:lo=Cs (AC l x) xs:=by omega
   subst this
   simp +contextual -dsimp -implicitDefEqProofs (maxSteps:=5000000) only [gLs,↓Aj (Lh.eq_1),l0,go_sem,simprocAttr]
   exact hend
theorem wT (i:Nat) (pf nn:Bool) (xs:List Ak) (hm:AS xs=true) (l x v:Int) (hl:inR l 3=true) (hx:inR x 3=true):Aa (Lv ctx (i+3)) 201 [.isl pf nn 3 (xs.map eWr),.agg [iV l,iV x,iV v],.fn (.func 177) [] []]=some (.tup [iV (Cs (AC l x) xs),bV (Qn (AC l x) xs)]):=by
 obtain ⟨hw,hp,h16⟩:=Ci hm
 have key:=fun p q Q u w hend=>cX i 17 pf nn p xs hw hp h16 l x v hl hx q Q u w hend 17 0 xs.length (Nat.zero_le _) (PX _ _) (Nat.le_refl _) (by omega)
 simp only [Int.natCast_zero] at key
 have hple:=PX (AC l x) xs
 refine Ac rfl 17 (by rfl) ?_
 delta c201
 simp +contextual -dsimp -implicitDefEqProofs (maxSteps:=5000000) only [go_sem,simprocAttr]
 refine key _ _ _ _ _ ?_
 unfold Qn
 cases hb:xs[Cs (AC l x) xs]? with
 | none =>
  have hlen:Cs (AC l x) xs=xs.length:=by
   have:=List.getElem?_eq_none_iff.1 hb;omega
  rw [hlen]
  have l0:decide ((xs.length:Int)<(xs.length:Int))=false:=by simp
  simp +contextual -dsimp -implicitDefEqProofs (maxSteps:=5000000) only [l0,Vh,go_sem,simprocAttr]
 | some b =>
  have hlen:=Au hb
  generalize Cs (AC l x) xs=a at hb hlen
  have l0:decide ((a:Int)<(xs.length:Int))=true:=by simpa using hlen
  have p1:(0≤(a:Int))=True:=by simp
  have p2:((a:Int)<(xs.length:Int))=True:=by simpa using hlen
  have hs:=(Sl (v:=v) (hw b (List.mem_of_getElem? hb)) hl hx).2
  simp +contextual -dsimp -implicitDefEqProofs (maxSteps:=5000000) only [l0,p1,p2,hb,hs,go_sem,simprocAttr]
theorem qU (i:Nat) (pf nn:Bool) (xs:List Ak) (hm:AS xs=true) (l x:Int) (hl:inR l 3=true) (hx:inR x 3=true):Aa (Lv ctx (i+6)) 199 [.isl pf nn 3 (xs.map eWr),iV l,iV x]=some (.tup [iV (Ba xs l x).1,bV (Ba xs l x).2]):=by
 have h16:=(Ci hm).2.2
 have q1:=Ip (i+2) pf nn xs (by simp only [BB];omega)
 have q2:=wT (i+(5 - 3)) pf nn xs hm l x 0 hl hx
 rw [hm] at q1
 rw [eG hx hm]
 simp only [Nat.add_assoc,Nat.reduceAdd,Nat.reduceSub] at q1 q2
 cases hh:Qn (AC l x) xs
 ·rw [hh] at q2
  simp only [Bool.false_eq_true,if_false]
  refine Ac rfl 0 (by rfl) ?_
  delta vB
  simp +contextual -dsimp -implicitDefEqProofs (maxSteps:=5000000) only [q1,q2,go_sem,simprocAttr]
 ·rw [hh] at q2
  simp only [if_true]
  unfold Qn at hh
  cases hb:xs[Cs (AC l x) xs]? with
  | none=>rw [hb] at hh;cases hh
  | some b =>
   have hlen:=Au hb
   simp only [List.getD_eq_getElem?_getD,hb,Option.getD_some]
   generalize Cs (AC l x) xs=a at q2 hb hlen
   have p1:(0≤(a:Int))=True:=by simp
   have p2:((a:Int)<(xs.length:Int))=True:=by simpa using hlen
   refine Ac rfl 0 (by rfl) ?_
   delta vB
   simp +contextual -dsimp -implicitDefEqProofs (maxSteps:=5000000) only [q1,q2,p1,p2,hb,go_sem,simprocAttr]
end Ve
namespace Ve
open Go
theorem MJ {w:Ak} (h:Az w=true):0≤plW w∧plW w<16:=by
 simp only [Az,Bool.and_eq_true,AR] at h
 simp only [plW,AC];omega
theorem dZ {l:List Ak} (h:AS l=true) (hl:l.length=16) {w:Ak} (hw:Az w=true):∃ x∈l,plW x=plW w:=by
 obtain ⟨h1,h2,_⟩:=Ci h
 rcases Classical.em (∃ x∈l,plW x=plW w) with hx | hx
 ·exact hx
 ·exfalso
  have hnd:((w::l).map fun x=>(plW x).toNat).Nodup:=by
   rw [List.map_cons,List.nodup_cons]
   constructor
   ·intro hm
    obtain ⟨x,hx1,hx2⟩:=List.mem_map.1 hm
    have a1:=MJ (h1 x hx1)
    have a2:=MJ hw
    exact hx ⟨x,hx1,by omega⟩
   ·rw [List.Nodup,List.pairwise_map]
    refine List.Pairwise.imp_of_mem ?_ h2
    intro a b ha hb hab
    have a1:=MJ (h1 a ha)
    have a2:=MJ (h1 b hb)
    omega
  have:=Gk 16 _ hnd (fun x hx=>by
   obtain ⟨y,hy,rfl⟩:=List.mem_map.1 hx
   have:Az y=true:=by
    rcases List.mem_cons.1 hy with rfl | hy
    ·exact hw
    ·exact h1 y hy
   have:=MJ this
   omega)
  simp only [List.length_map,List.length_cons] at this
  omega
theorem VK {t:Int}:∀ {l:List Ak},l.Pairwise (fun a b=>plW a<plW b)→(∃ x∈l,plW x=t)→∃ w,l[Cs t l]?=some w∧plW w=t
 | [],_,⟨x,hx,_⟩=>by simp at hx
 | y::r,hp,⟨x,hx,he⟩=>by
  obtain ⟨h1,h2⟩:=List.pairwise_cons.1 hp
  simp only [Cs]
  by_cases hy:plW y<t
  ·rw [if_pos hy]
   have:x∈r:=by
    rcases List.mem_cons.1 hx with rfl | h
    ·omega
    ·exact h
   obtain ⟨w,h3,h4⟩:=VK h2 ⟨x,this,he⟩
   exact ⟨w,by simpa using h3,h4⟩
  ·rw [if_neg hy]
   refine ⟨y,rfl,?_⟩
   rcases List.mem_cons.1 hx with rfl | h
   ·exact he
   ·have:=h1 x h;omega
theorem lZ {w:Ak} {l:List Ak} {x:Ak} (h:l[Cs (plW w) l]?=some x) (he:plW x=plW w):CW w l=l.set (Cs (plW w) l) w:=by
 rw [Qk,h]
 simp only [he,if_true]
 have hlt:=(List.getElem?_eq_some_iff.1 h).1
 rw [List.set_eq_take_append_cons_drop]
 simp [hlt]
theorem dP {w:Ak} {l:List Ak} (h:∀ x,l[Cs (plW w) l]?=some x→plW x≠plW w):CW w l=l.take (Cs (plW w) l)++[w]++l.drop (Cs (plW w) l):=by
 rw [Qk]
 cases hx:l[Cs (plW w) l]? with
 | none =>
  have:=List.getElem?_eq_none_iff.1 hx
  simp [List.drop_of_length_le this]
 | some x =>
  simp only [h x hx,if_false]
  simp
end Ve
namespace Ve
open Go Ve.Ab
set_option maxHeartbeats 16000000
set_option maxRecDepth 10000
theorem iD (i:Nat) (pf nn:Bool) (xs:List Ak) (hm:AS xs=true) (l x v:Int) (hw:Az ⟨l,x,v⟩=true):Aa (Lv ctx (i+7)) 188 [.isl pf nn 3 (xs.map eWr),.agg [iV l,iV x,iV v]]=some (.tup [LP (CW ⟨l,x,v⟩ xs),iV 0]):=by
 obtain ⟨h1,h2,h16⟩:=Ci hm
 have hl:inR l 3=true:=by simp only [Az,Bool.and_eq_true] at hw;exact hw.1.1
 have hx:inR x 3=true:=by simp only [Az,Bool.and_eq_true] at hw;exact hw.1.2
 have q1:=Ip (i+3) pf nn xs (by simp only [BB];omega)
 have q2:=Ip (i+3) false false [⟨l,x,v⟩] (by simp [BB])
 have q3:=wT (i+(6 - 3)) pf nn xs hm l x v hl hx
 rw [hm] at q1
 rw [Ml,hw] at q2
 simp only [Nat.add_assoc,Nat.reduceAdd,Nat.reduceSub,List.map_cons,List.map_nil,eWr] at q1 q2 q3
 have b1:((xs.length:Int)*24≤140737488355328)=True:=by simp only [eq_iff_iff,iff_true];omega
 have hple:=PX (AC l x) xs
 cases hh:Qn (AC l x) xs
 ·have hmiss:∀ w,xs[Cs (AC l x) xs]?=some w→plW w≠AC l x:=by
   intro w h e
   unfold Qn at hh
   rw [h] at hh
   simp only [decide_eq_false_iff_not] at hh
   exact hh e
  have hlen:¬ xs.length=16:=by
   intro h
   obtain ⟨y,hy,hpy⟩:=dZ hm h hw
   obtain ⟨w,hw1,hw2⟩:=VK h2 ⟨y,hy,hpy⟩
   exact hmiss w hw1 hw2
  have hins:CW ⟨l,x,v⟩ xs=xs.take (Cs (AC l x) xs)++[⟨l,x,v⟩]++xs.drop (Cs (AC l x) xs):=dP (w:=⟨l,x,v⟩) hmiss
  rw [hins]
  rw [hh] at q3
  generalize Cs (AC l x) xs=a at q3 hple ⊢
  have z:decide ((xs.length:Int)=16)=false:=by simp;omega
  have p1:(0≤(a:Int))=True:=by simp
  have p2:(a≤xs.length)=True:=by simpa using hple
  have b2:(((xs.length+1:Nat):Int)*24≤140737488355328)=True:=by simp only [eq_iff_iff,iff_true];omega
  simp only [LP,List.map_append,List.map_take,List.map_drop,List.map_cons,List.map_nil,eWr]
  refine Ac rfl 0 (by rfl) ?_
  delta vC
  cases pf<;>simp +contextual -dsimp -implicitDefEqProofs (maxSteps:=5000000) only [q1,q2,q3,b1,b2,z,p1,p2,Int.toNat_natCast,List.replicate,List.length_map,go_sem,simprocAttr]
 ·have hhit:∃ w,xs[Cs (AC l x) xs]?=some w∧plW w=AC l x:=by
   unfold Qn at hh
   cases h:xs[Cs (AC l x) xs]? with
   | none=>rw [h] at hh;cases hh
   | some w=>rw [h] at hh;exact ⟨w,rfl,by simpa using hh⟩
  obtain ⟨w,hg,hpw⟩:=hhit
  have hins:CW ⟨l,x,v⟩ xs=xs.set (Cs (AC l x) xs) ⟨l,x,v⟩:=lZ (w:=⟨l,x,v⟩) hg hpw
  rw [hins]
  rw [hh] at q3
  have hlt:=Au hg
  generalize Cs (AC l x) xs=a at q3 hlt hg ⊢
  have p1:(0≤(a:Int))=True:=by simp
  have p2:((a:Int)<(xs.length:Int))=True:=by simpa using hlt
  have e9:(xs.map eWr).set a (.agg [iV l,iV x,iV v])=(xs.set a ⟨l,x,v⟩).map eWr:=by rw [List.map_set];rfl
  have e8:(xs.set a ⟨l,x,v⟩).length=xs.length:=List.length_set ..
  refine Ac rfl 0 (by rfl) ?_
  delta vC
  cases pf<;>simp +contextual -dsimp -implicitDefEqProofs (maxSteps:=5000000) only [q1,q2,q3,b1,p1,p2,hg,e9,e8,Int.toNat_natCast,List.replicate,List.length_map,go_sem,simprocAttr]
end Ve
namespace Ve
open Go Ve.Ab
set_option maxHeartbeats 16000000
set_option maxRecDepth 10000
abbrev v4 (A:A4 Int):V:=.agg [iV A.a0,iV A.a1,iV A.a2,iV A.a3]
theorem ZL (i:Nat) (A:A4 Int) (h4:CX A=true) (r v:Int) (hr:inR r 3=true) (hv:inR v 255=true):Aa (Lv ctx (i+4)) 189 [v4 A,iV r,iV v]=some (.tup [v4 (A.set r v),iV 0]):=by
 obtain ⟨a,b,c,d⟩:=A
 have ha:DH 255 a b c d=true:=h4
 rcases Bb r with rfl | rfl | rfl | rfl | h'
 case inr.inr.inr.inr=>rw [hr] at h';cases h'
 all_goals
  refine Ac rfl 0 (by rfl) ?_
  delta c189
  simp +contextual -dsimp -implicitDefEqProofs (maxSteps:=5000000) only [ha,hr,hv,A4.set,go_sem,simprocAttr]
theorem zB:∀ n:_root_.Fin 256,(FloatKind.f64.decode (FloatKind.f64.nearest ((n.val:Nat):Int))).toInt .zero=some ((n.val:Nat):Int):=by decide +kernel
theorem pF {x:Int} (h:inR x 255=true):(FloatKind.f64.decode (FloatKind.f64.nearest x)).toInt .zero=some x∧(IntKind.min .i64≤x∧x≤IntKind.max .i64)=True:=by
 rw [AR] at h
 have e1:IntKind.min .i64=-9223372036854775808:=by decide
 have e2:IntKind.max .i64=9223372036854775807:=by decide
 refine ⟨?_,by rw [e1,e2,eq_iff_iff,iff_true];omega⟩
 have:=zB ⟨x.toNat,by omega⟩
 simp only [Int.toNat_of_nonneg h.1] at this
 exact this
theorem fN {x y:Int} (hx:inR x 255=true) (hy:inR y 255=true):IntKind.wrap .i64 (x+y)=x+y∧(x+y).tmod 256=(x+y) % 256∧inR ((x+y) % 256) 255=true:=by
 rw [AR] at hx hy
 exact ⟨Bt (by omega) (by omega),Int.tmod_eq_emod_of_nonneg (by omega),by rw [AR];omega⟩
theorem qZ (i:Nat) (A:A4 Int) (h4:CX A=true) (r t:Int) (hr:inR r 3=true) (ht:inR t 3=true):Aa (Lv ctx (i+5)) 190 [v4 A,iV r,iV t]=some (.tup [v4 (A.set r ((A.get r+A.get t) % 256)),iV 0]):=by
 have hreg:∀ x,inR x 3=true→inR (A.get x) 255=true:=by
  intro x hx
  obtain ⟨a,b,c,d⟩:=A
  have ha:DH 255 a b c d=true:=h4
  simp only [DH,Bool.and_eq_true] at ha
  rcases Bb x with rfl | rfl | rfl | rfl | h'
  ·exact ha.1.1.1
  ·exact ha.1.1.2
  ·exact ha.1.2
  ·exact ha.2
  ·rw [hx] at h';cases h'
 have hx:=hreg r hr
 have hy:=hreg t ht
 obtain ⟨s1,s2,s3⟩:=fN hx hy
 have q:=ZL (i+0) A h4 r ((A.get r+A.get t) % 256) hr s3
 obtain ⟨c1,c3⟩:=pF hx
 obtain ⟨c2,c4⟩:=pF hy
 have hrem:BJ lay .rem 3 (iV (A.get r+A.get t)) (iV 256)=some (iV ((A.get r+A.get t) % 256)):=by rw [Mi (by decide),s2]
 simp only [Nat.add_assoc,Nat.reduceAdd] at q
 clear hx hy s2 s3 hreg
 obtain ⟨a,b,c,d⟩:=A
 have ha:DH 255 a b c d=true:=h4
 rcases Bb r with rfl | rfl | rfl | rfl | h'
 case inr.inr.inr.inr=>rw [hr] at h';cases h'
 all_goals
  rcases Bb t with rfl | rfl | rfl | rfl | h'
  case inr.inr.inr.inr=>rw [ht] at h';cases h'
  all_goals
   simp only [A4.get,A4.set,simprocAttr] at q c1 c2 c3 c4 hrem s1 ⊢
   refine Ac rfl 0 (by rfl) ?_
   delta c190
   simp +contextual -dsimp -implicitDefEqProofs (maxSteps:=5000000) only [ha,hr,ht,c1,c2,c3,c4,s1,hrem,q,go_sem,simprocAttr]
end Ve
namespace Ve
open Go Ve.Ab
set_option maxHeartbeats 16000000
set_option maxRecDepth 10000
theorem iE (i:Nat) (pf nn:Bool) (xs:List AO) (hx:(xs.length:Int)*24≤140737488355328) (a b c:Int):Aa (Lv ctx (i+5)) 200 [.isl pf nn 3 (xs.map eR),.agg [iV a,iV b,iV c]]=some (.tup [oRs (AX xs ⟨a,b,c⟩).1,iV (AX xs ⟨a,b,c⟩).2]):=by
 have hb:xs.length≤BB:=by simp only [BB];omega
 have q1:=LV (i+0) pf nn xs hb
 have q2:=LV (i+0) false false [⟨a,b,c⟩] (by simp [BB])
 rw [Oq] at q2
 simp only [Nat.add_assoc,Nat.reduceAdd,List.map_cons,List.map_nil,eR] at q1 q2
 have b1:((xs.length:Int)*24≤140737488355328)=True:=by simpa using hx
 cases h1:AJ xs
 ·have e:AX xs ⟨a,b,c⟩=([],900):=by simp only [AX,h1];rfl
  rw [e]
  rw [h1] at q1
  refine Ac rfl 0 (by rfl) ?_
  delta Zd
  simp +contextual -dsimp -implicitDefEqProofs (maxSteps:=5000000) only [q1,List.map_nil,go_sem,simprocAttr]
  try rfl
 ·rw [h1] at q1
  cases h2:Cw ⟨a,b,c⟩
  ·have e:AX xs ⟨a,b,c⟩=([],900):=by simp only [AX,h1,h2];rfl
   rw [e]
   rw [h2] at q2
   refine Ac rfl 0 (by rfl) ?_
   delta Zd
   simp +contextual -dsimp -implicitDefEqProofs (maxSteps:=5000000) only [q1,q2,List.replicate,List.map_nil,go_sem,simprocAttr]
   try rfl
  ·rw [h2] at q2
   have e:AX xs ⟨a,b,c⟩=if xs.any (Cd ⟨a,b,c⟩)=true then (xs,0) else if xs.length=16 then ([],900) else (xs++[⟨a,b,c⟩],0):=by simp only [AX,h1,h2,Bool.and_self,if_true]
   have h16:xs.length≤16:=by simp only [AJ,Bool.and_eq_true,decide_eq_true_eq] at h1;exact h1.2
   have hcf:Aa (Lv ctx (i+4)) 175 [.isl pf nn 3 (xs.map eR),.fn (.func 194) [] [.ip true [iV a,iV b,iV c] 0]]=some (bV (xs.any (Cd ⟨a,b,c⟩))) :=
    MA (i+2) pf nn xs (Cd ⟨a,b,c⟩) 194 [.ip true [iV a,iV b,iV c] 0] (fun _ _ _ _ _ _=>rfl) (fun _=>rfl) (by simp [AL,V.scrub]) rfl (fun x _=>by simp only [eR];exact oW (i+1) true a b c x.level x.index x.ver) hb
   rw [e]
   cases h3:xs.any (Cd ⟨a,b,c⟩)
   ·rw [h3] at hcf
    simp only [Bool.false_eq_true,if_false]
    by_cases h4:xs.length=16
    ·have z:decide ((xs.length:Int)=16)=true:=by simp;omega
     simp only [h4,if_true]
     refine Ac rfl 0 (by rfl) ?_
     delta Zd
     cases pf
     all_goals
      simp +contextual -dsimp -implicitDefEqProofs (maxSteps:=5000000) only [q1,q2,b1,hcf,z,List.replicate,List.map_nil,go_sem,simprocAttr]
      try rfl
    ·have z:decide ((xs.length:Int)=16)=false:=by simp;omega
     have b2:(((xs.length+1:Nat):Int)*24≤140737488355328)=True:=by simp;omega
     simp only [h4,if_false,List.map_append,List.map_cons,List.map_nil,eR,oRs]
     refine Ac rfl 0 (by rfl) ?_
     delta Zd
     cases pf<;>simp +contextual -dsimp -implicitDefEqProofs (maxSteps:=5000000) only [q1,q2,b1,b2,hcf,z,List.replicate,go_sem,simprocAttr]
   ·rw [h3] at hcf
    simp only [if_true]
    refine Ac rfl 0 (by rfl) ?_
    delta Zd
    cases pf<;>simp +contextual -dsimp -implicitDefEqProofs (maxSteps:=5000000) only [q1,q2,b1,hcf,List.replicate,go_sem,simprocAttr]
end Ve
namespace Ve
open Go Ve.Ab
set_option maxHeartbeats 16000000
set_option maxRecDepth 10000
abbrev nilV:V:=.lit (.slice none 0 0)
end Ve
namespace Ve
open Go
theorem LT {m:Ad} (hm:SmM m) (x:BW):SmM (BM m x).1:=by
 unfold BM
 split
 ·split
  ·split
   ·exact gZ hm _
   ·exact Gi
  ·exact hm
 ·exact Gi
theorem pP {m:Ad} {x:BW}:Fj m x=(0,false,2400)∨(Ei m=true∧NR m x.level=[]∧Fj m x=(0,false,0))∨∃ (k:Nat) (s:Af),Ei m=true∧Fj m x=((k:Int),true,0)∧m.sess[k]?=some s∧s.label=x.level∧s.step≠6:=by
 unfold Fj
 by_cases h:(Ei m&&DD x)=true
 ·have hM:Ei m=true:=by simp only [Bool.and_eq_true] at h;exact h.1
  rw [if_pos h]
  cases hq:(NR m x.level)[x.pick.toNat % (NR m x.level).length]? with
  | none =>
   refine .inr (.inl ⟨hM,?_,rfl⟩)
   cases hl:NR m x.level with
   | nil=>rfl
   | cons a r =>
    rw [List.getElem?_eq_none_iff] at hq
    have:=Nat.mod_lt x.pick.toNat (show 0<(NR m x.level).length by rw [hl];simp)
    omega
  | some k =>
   obtain ⟨s,_,h2,h3⟩:=IY m.sess x.level 0 _ (List.mem_of_getElem? hq)
   simp only [NS,Bool.and_eq_true,decide_eq_true_eq,Bool.not_eq_true',decide_eq_false_iff_not] at h3
   rw [Nat.sub_zero] at h2
   exact .inr (.inr ⟨k,s,hM,rfl,h2,h3.1,h3.2⟩)
 ·rw [if_neg h];exact .inl rfl
theorem slot_cs (m:Ad) (x:BW):BM m x=(AN,2400)∨(Ei m=true∧BM m x=(m,0))∨∃ (k:Nat) (s t:Af),m.sess[k]?=some s∧s.label=x.level∧s.step≠6∧(BM m x).2=0∧Et m (BM m x).1 k s t:=by
 rcases pP (m:=m) (x:=x) with h | ⟨hM,_,h⟩ | ⟨k,s,hM,h,hs,hl,hn⟩
 ·left;unfold BM;rw [h];rfl
 ·right;left;exact ⟨hM,by unfold BM;rw [h];rfl⟩
 ·have hMP:=(UJ m).1 hM
  by_cases h0:(BL m k).2=0
  ·right;right
   obtain ⟨t,W⟩:=Ii hs hMP ((sp _ _).1 (hMP.sess s (List.mem_of_getElem? hs))) h0
   have e:BM m x=((BL m k).1,0):=by
    unfold BM;rw [h];simp only [if_true,h0]
   exact ⟨k,s,t,hs,hl,hn,by rw [e],by rw [e];exact W⟩
  ·left;unfold BM;rw [h];simp only [if_true,h0,if_false]
end Ve
namespace Ve
open Go
inductive WF where
 | id
 | free (c:Int)
 | set (l i:Int) (w:Al)
 | setFree (l i:Int) (w:Al) (c:Int)
def pE (c:Int) (ws:A4 (List Al)):A4 (List Al):=⟨ws.a0.map (Ap c),ws.a1.map (Ap c),ws.a2.map (Ap c),ws.a3.map (Ap c)⟩
def WF.app:WF→A4 (List Al)→A4 (List Al)
 | .id,ws=>ws
 | .free c,ws=>pE c ws
 | .set l i w,ws=>Ff ws l i w
 | .setFree l i w c,ws=>pE c (Ff ws l i w)
def WF.row (h:Int):WF→List Al→List Al
 | .id,r=>r
 | .free c,r=>r.map (Ap c)
 | .set l i w,r=>if h=l then r.set i.toNat w else r
 | .setFree l i w c,r=>(if h=l then r.set i.toNat w else r).map (Ap c)
def WF.ok:WF→Prop
 | .set l _ _=>inR l 3=true
 | .setFree l _ _ _=>inR l 3=true
 | _=>True
structure Ef where
 t:Af
 w:WF
 c:Option Int
 e:Option Bl
def wM:Option Bl→Ad→Ad
 | none,m=>m
 | some e,m=>AT m e
def clkO (l:Int) (cs:A4 Int):Option Int→A4 Int
 | none=>cs
 | some v=>cs.set l v
def Ef.app (E:Ef) (m:Ad) (k:Nat) (l:Int):Ad:=wM E.e ⟨E.w.app m.words,clkO l m.clocks E.c,m.ceil,m.sess.set k E.t,m.trace⟩
def Qu (s:Af) (kind:Int):Ef:=⟨CT s,.free (s.id+1),none,some ⟨s.id,s.label,kind,Jn s.tries⟩⟩
def Tv (s:Af) (r t:Int):Ef:=⟨FZ s r t,.free (s.id+1),none,some ⟨s.id,s.label,6,r⟩⟩
def mY (ws:A4 (List Al)) (s:Af) (x:Av):Ef :=
 if (Bs x.b x.c s.writes).2=true then ⟨Cp s x s.reads (Bs x.b x.c s.writes).1,.id,none,some ⟨s.id,s.label,0,(Bs x.b x.c s.writes).1⟩⟩
 else if s.reads.all (Cz ws s.id)=true∧(Bx ws x.b x.c).lock=0 then ⟨Cp s x (JX s.reads ⟨x.b,x.c,(Bx ws x.b x.c).ver⟩) (Bx ws x.b x.c).val,.id,none,some ⟨s.id,s.label,0,(Bx ws x.b x.c).val⟩⟩
 else Qu s 3
def mZ (s:Af) (x:Av):Ef:=if AG (orI s.label x.b) s.clear=true then ⟨{ s with label:=orI s.label x.b },.id,none,some ⟨s.id,s.label,2,orI s.label x.b⟩⟩ else Tv s 4 0
def mW (s:Af) (x:Av):Ef:=⟨{ s with writes:=CW ⟨x.b,x.c,s.regs.get x.a⟩ s.writes,pc:=s.pc+1 },.id,none,some ⟨s.id,s.label,1,s.regs.get x.a⟩⟩
def uM (s:Af) (x:Av):Ef :=
 if x.code=0 then ⟨{ s with regs:=s.regs.set x.a x.b,pc:=s.pc+1 },.id,none,none⟩
 else if x.code=1 then ⟨{ s with regs:=s.regs.set x.a ((s.regs.get x.a+s.regs.get x.b) % 256),pc:=s.pc+1 },.id,none,none⟩
 else ⟨{ s with pc:=if s.regs.get x.a=0 then x.b else s.pc+1 },.id,none,none⟩
def uK (s:Af):Ef:=if s.writes.all (fun w=>decide (w.level=s.label))=true then ⟨{ s with at_:=0,step:=if s.writes=[] then 3 else 1 },.id,none,none⟩ else Tv s 3 0
def zN (ws:A4 (List Al)) (s:Af):Ef :=
 match s.prog[s.pc.toNat]? with
 | some x =>
  if x.code=2 then (if AG x.b s.label=true then mY ws s x else mZ s x)
  else if x.code=3 then mW s x
  else if x.code=5 then ⟨{ s with writes:=[],at_:=0,step:=5 },.id,none,some ⟨s.id,s.label,4,s.reads.length⟩⟩
  else if x.code=6 then Tv s 2 x.a
  else uM s x
 | none=>uK s
def uL (ws:A4 (List Al)) (s:Af):Option Ef :=
 match s.writes[s.at_.toNat]? with
 | some w=>some (if (Bx ws w.level w.index).lock=0 then ⟨{ s with at_:=s.at_+1,step:=if s.at_+1=s.writes.length then 2 else s.step },.set w.level w.index { Bx ws w.level w.index with lock:=s.id+1 },none,none⟩ else Qu s 3)
 | none=>none
def mX (ceil clk:Int) (s:Af):Ef:=if ceil≤clk then Tv s 5 0 else ⟨{ s with stamp:=clk+1,step:=3 },.id,some (clk+1),none⟩
def nA (ws:A4 (List Al)) (s:Af):Ef:=if s.reads.all (Cz ws s.id)=true then (if s.writes=[] then Tv s 1 0 else ⟨{ s with at_:=0,step:=4 },.id,none,none⟩) else Qu s 3
def uN (s:Af):Option Ef :=
 match s.writes[s.at_.toNat]? with
 | some w=>some (if s.at_+1=s.writes.length then ⟨FZ { s with at_:=s.at_+1 } 1 0,.setFree w.level w.index ⟨w.val,s.stamp,0⟩ (s.id+1),none,some ⟨s.id,s.label,6,1⟩⟩ else ⟨{ s with at_:=s.at_+1 },.set w.level w.index ⟨w.val,s.stamp,0⟩,none,none⟩)
 | none=>none
def uJ (ws:A4 (List Al)) (s:Af):Ef:=if s.reads.any (FP ws)=true then Qu s 5 else ⟨s,.id,none,none⟩
def effU (ceil:Int) (ws:A4 (List Al)) (clk:Int) (s:Af):Option Ef :=
 if s.step=0 then some (zN ws s)
 else if s.step=1 then uL ws s
 else if s.step=2 then some (mX ceil clk s)
 else if s.step=3 then some (nA ws s)
 else if s.step=4 then uN s
 else if s.step=5 then some (uJ ws s)
 else some ⟨s,.id,none,none⟩
end Ve
namespace Ve
open Go
structure Eqv (g:Int) (m m':Ad):Prop where
 ceil:m.ceil=m'.ceil
 row:∀ h,inR h 3=true→AG h g=true→m.words.get h=m'.words.get h
 clk:∀ h,inR h 3=true→AG h g=true→m.clocks.get h=m'.clocks.get h
 sess:m.sess.filter (fun x=>AG x.label g)=m'.sess.filter (fun x=>AG x.label g)
 trace:m.trace.filter (fun x=>AG x.label g)=m'.trace.filter (fun x=>AG x.label g)
theorem Eqv.symm {g:Int} {m m':Ad} (h:Eqv g m m'):Eqv g m' m:=⟨h.ceil.symm,fun a b c=>(h.row a b c).symm,fun a b c=>(h.clk a b c).symm,h.sess.symm,h.trace.symm⟩
theorem Eqv.trans {g:Int} {m m' n:Ad} (h:Eqv g m m') (h':Eqv g m' n):Eqv g m n:=⟨h.ceil.trans h'.ceil,fun a b c=>(h.row a b c).trans (h'.row a b c),fun a b c=>(h.clk a b c).trans (h'.clk a b c),h.sess.trans h'.sess,h.trace.trans h'.trace⟩
theorem Eqv.refl (g:Int) (m:Ad):Eqv g m m:=⟨rfl,fun _ _ _=>rfl,fun _ _ _=>rfl,rfl,rfl⟩
def byId (s t:Af) (x:Af):Af:=if x.id=s.id then t else x
end Ve
namespace Ve
open Go
def WF.mine (s:Af):WF→Prop
 | .id=>True
 | .free c=>c=s.id+1
 | .set l _ _=>l=s.label
 | .setFree l _ _ c=>l=s.label∧c=s.id+1
structure Mine (s:Af) (E:Ef):Prop where
 w:E.w.mine s
 e:∀ e,E.e=some e→e.label=s.label
end Ve
namespace Ve
open Go
end Ve
namespace Ve
open Go
structure SameB (g:Int) (s t:AQ):Prop where
 ceil:s.ceil=t.ceil
 row:∀ h,inR h 3=true→AG h g=true→s.words.get h=t.words.get h
 starts:s.starts.filter (fun x=>AG x.label g)=t.starts.filter fun x=>AG x.label g
 slots:s.slots.filter (fun x=>AG x.level g)=t.slots.filter fun x=>AG x.level g
theorem iU {s:AQ} (hs:Cf s=true):(Ho s).2=0∧Ei (Ho s).1=true∧Inv (Ho s).1:=by
 obtain ⟨_,_,r1,i,_⟩:=Sa hs
 rw [r1]
 exact ⟨rfl,(UJ _).2 i.may,i⟩
end Ve
namespace Ve
open Go
theorem ZH {s:AQ} (hs:JW s):SmM (Ea s).1:=by
 unfold Ea;split
 ·exact Mt hs
 ·exact Gi
theorem oU:∀ (l:List BW) {m:Ad},SmM m→SmM (CD m l).1
 | [],m,h=>h
 | x::r,m,h=>by
  show SmM (if (BM m x).2=0 then CD (BM m x).1 r else (AN,2500)).1
  split
  ·exact oU r (LT h x)
  ·exact Gi
theorem qG {s:AQ} (hs:JW s):SmM (Ho s).1:=by
 unfold Ho;split
 ·exact oU _ (ZH hs)
 ·exact Gi
theorem rA {s:AQ}:((Ho s).2=0∧Cf s=true)∨(Ho s=(AN,2500)∧Cf s=false):=by
 cases h:Cf s
 ·right;exact ⟨by unfold Ho;rw [h];rfl,rfl⟩
 ·exact .inl ⟨(iU h).1,rfl⟩
end Ve
namespace Ve
open Go Ve.Ab
set_option maxHeartbeats 16000000
set_option maxRecDepth 10000
def spWords (a:Al):Al:={ a with val:=PD a.val 90 }
def spInsts (a:Av):Av:={ a with a:=PD a.a 90 }
def spReads (a:AO):AO:={ a with index:=PD a.index 90 }
def spWrites (a:Ak):Ak:={ a with index:=PD a.index 90 }
def spEvents (a:Bl):Bl:={ a with id:=PD a.id 90 }
def eT (s:Af):V:=.agg [iV (PD s.id 90),iV s.label,iV s.clear,.dead,iV s.step,iV s.pc,iV s.regs.a0,iV s.regs.a1,iV s.regs.a2,iV s.regs.a3,.dead,.dead,iV s.at_,iV s.stamp,iV s.tries,iV s.result,iV s.told]
theorem Xv (thr d:Nat):AF thr (d+1) .dead=.ret (.dead,[]):=(rfl)
theorem oN (thr d:Nat) (l:List Af):Aw (AF thr (d+2)) (l.map eT)=.ret ((l.map eT).map vn):=Hf _ _ _ (fun x=>by simp only [eT,EG,Ch,Dg,Ej,Xv,Bh,List.map_cons,List.map_nil,List.flatten_cons,List.flatten_nil,List.append_nil,List.nil_append]) l
attribute [go_sem] Xv oN
abbrev hS (m:Ad) (els:List V) (d:Bool):Hp :=
 pO (pO (pO (pO (pO (pO (pO Ag 0 none) 1 none) 2 none) 3 none) 4 (some ⟨17,els,d⟩)) 5 (some ⟨4,m.trace.map eE,false⟩)) 6 (some ⟨11,[.agg [.sl 0,.sl 1,.sl 2,.sl 3,iV m.clocks.a0,iV m.clocks.a1,iV m.clocks.a2,iV m.clocks.a3,iV m.ceil,.sl 4,.sl 5]],true⟩)
end Ve
namespace Ve
open Go Ve.Ab
set_option maxHeartbeats 16000000
set_option maxRecDepth 10000
def spSlots (a:BW):BW:={ a with pick:=PD a.pick 90 }
def spNs (a:Int):Int:=wr (-9 - a)
abbrev zSc:V:=.agg [.own 1 [],.own 1 [],.own 1 [],.own 1 [],iV 0,.own 4 [],.own 2 []]
abbrev hCS (p:Bool) (s:AQ) (els:List V):Hp:=pO (pO (pO (pO Ag 0 (some ⟨7,[zSc],false⟩)) 1 none) 2 (some ⟨2,s.slots.map eSl,!p⟩)) 3 (some ⟨7,[.agg [oNs s.words.a0,oNs s.words.a1,oNs s.words.a2,oNs s.words.a3,iV s.ceil,.own 4 els,.sl 2]],true⟩)
theorem cP (i k:Nat) (p:Bool) (s:AQ) (hs:JW s) (q:Out→St→Option Ans) (Q:V→Hp→Nat→Prop) (u:Dum (fun s q=>evC ctx (Lv ctx (i+0)) (Aa (Lv ctx (i+0))) k TH s (As [1,2,3,5] q))) (w:Dum q)
  (hend:Fin (q (.exit 2) ⟨Ae [2,3] [.ptr 0 0 0,.ptr 3 0 0],hCS p s (s.starts.map oSt),4⟩) Q):∀ (suf pre:List Ck) (kk:Nat),s.starts=pre++suf→suf.length<kk →
  GL 4 [1,2,3,5] (fun s q=>evC ctx (Lv ctx (i+0)) (Aa (Lv ctx (i+0))) k TH s (As [1,2,3,5] q)) q kk ⟨Ae [1,2,3,5] [.ip p (cSc p s) 0,.ptr 0 0 0,.ptr 3 0 0,iV pre.length],hCS p s (pre.map oSt),4⟩ Q u w
 | [],pre,kk,hxs,hk=>by
  obtain ⟨kk,rfl⟩:∃ m,kk=m+1:=⟨kk - 1,by simp at hk;omega⟩
  have h1:decide ((pre.length:Int)<s.starts.length)=false:=by simp [hxs]
  have h2:s.starts=pre:=by simp [hxs]
  rw [h2] at hend
  cases p
  all_goals
   simp +contextual -dsimp -implicitDefEqProofs (maxSteps:=5000000) only [gLs,↓Aj (TH.eq_1),h1,go_sem,simprocAttr]
   exact hend
 | a::suf,pre,kk,hxs,hk=>by
  obtain ⟨kk,rfl⟩:∃ m,kk=m+1:=⟨kk - 1,by simp at hk;omega⟩
  have hl:pre.length<s.starts.length:=by simp [hxs]
  have h2:((pre.length:Int)<s.starts.length)=True:=by simpa using hl
  have h3:(0≤(pre.length:Int))=True:=by simp
  have h4:=wrN pre.length (by have:=hs.bst;simp only [BB];omega)
  have hg:s.starts[pre.length]?=some a:=by simp [hxs]
  have h5:(((pre.length+1:Nat):Int)*48≤140737488355328)=True:=by
   have:=hs.bst
   simp only [eq_iff_iff,iff_true]
   omega
  have h6:((a.prog.length:Int)*32≤140737488355328)=True:=by
   have:=hs.p a (by simp [hxs])
   simp only [eq_iff_iff,iff_true]
   omega
  have ih:=cP i k p s hs q Q u w hend suf (pre++[a]) kk (by simp [hxs]) (by simpa using hk)
  simp only [Ao,List.map_append,List.map_cons,List.map_nil,oSt] at ih
  cases p
  all_goals
   simp +contextual -dsimp -implicitDefEqProofs (maxSteps:=5000000) only [gLs,↓Aj (TH.eq_1),h2,h3,h4,h5,h6,hg,List.replicate,List.length_append,List.length_cons,Nat.zero_add,go_sem,simprocAttr]
   obtain ⟨kk,rfl⟩:∃ m,kk=m+1:=⟨kk - 1,by simp at hk;omega⟩
   simp +contextual -dsimp -implicitDefEqProofs (maxSteps:=5000000) only [gLs,go_sem,simprocAttr] at ih ⊢
   exact ih
theorem Zw (i:Nat) (p:Bool) (s:AQ) (hs:JW s):Aa (Lv ctx (i+1)) 14 [eSc p s]=some (oSc s):=by
 have hb:=fun (n:Nat) (h:n≤1048576)=>(by simp only [eq_iff_iff,iff_true];omega:((n:Int)*8≤140737488355328)=True)
 have b0:=hb _ hs.b0
 have b1:=hb _ hs.b1
 have b2:=hb _ hs.b2
 have b3:=hb _ hs.b3
 have b4:((s.slots.length:Int)*16≤140737488355328)=True:=by have:=hs.bsl;simp only [eq_iff_iff,iff_true];omega
 refine Ac rfl (s.starts.length+6) (by rfl) ?_
 delta c14
 cases p
 all_goals
  simp +contextual -dsimp -implicitDefEqProofs (maxSteps:=5000000) only [gLs 4 [1,2,3,4],↓Aj (pJ.eq_1),b0,b1,b2,b3,b4,List.replicate,List.length_append,List.length_cons,Nat.zero_add,List.nil_append,List.append_nil,go_sem,simprocAttr]
  refine cP i _ _ s hs _ _ _ _ ?_ s.starts [] _ (by simp) (by omega)
  simp +contextual -dsimp -implicitDefEqProofs (maxSteps:=5000000) only [go_sem,simprocAttr]
abbrev hSS (s:AQ) (els:List V) (d:Bool):Hp:=pO (pO (pO (pO (pO (pO (pO Ag 0 none) 1 none) 2 none) 3 none) 4 (some ⟨4,els,d⟩)) 5 (some ⟨2,s.slots.map eSl,false⟩)) 6 (some ⟨7,[.agg [.sl 0,.sl 1,.sl 2,.sl 3,iV s.ceil,.sl 4,.sl 5]],true⟩)
end Ve
namespace Ve
open Go
theorem Vx:∀ (l:List Int) (b:ByteArray),l.foldl (fun r n=>r.push (UInt8.ofNat n.toNat)) b=⟨b.data++(l.map fun n=>UInt8.ofNat n.toNat).toArray⟩
 | [],b=>by cases b;simp
 | n::l,b=>by
  rw [List.foldl_cons,Vx l]
  cases b
  simp [ByteArray.push]
theorem Mq (l:List Int):tS l=⟨(l.map fun n=>UInt8.ofNat n.toNat).toArray⟩:=by
 rw [tS,Vx];simp [ByteArray.empty,ByteArray.emptyWithCapacity];rfl
theorem Fz (l:List Int):(tS l).size=l.length:=by rw [Mq];simp [ByteArray.size]
theorem XK (a b:List Int):tS a++tS b=tS (a++b):=by
 rw [Mq,Mq,Mq];ext1;simp
theorem pX (l:List Int) (i:Nat):(tS l)[i]?=(l[i]?).map fun n=>UInt8.ofNat n.toNat:=by
 by_cases h:i<l.length
 ·rw [getElem?_pos (tS l) i (by rw [Fz];exact h),List.getElem?_eq_getElem h,Option.map_some]
  congr 1
  have e:=Mq l
  have h2:i<(tS l).size:=by rw [Fz];exact h
  have:(tS l)[i]=(tS l).data[i]'h2:=rfl
  rw [this]
  simp [e]
 ·rw [getElem?_neg (tS l) i (by rw [Fz];exact h),List.getElem?_eq_none (by omega)];rfl
theorem Zz (l:List Int) (a b:Nat):(tS l).extract a b=tS ((l.take b).drop a):=by
 rw [Mq,Mq];ext1;simp [ByteArray.data_extract];rw [List.drop_take]
def Dd (w:Av):List Int:=[w.code,w.a,w.b,w.c]
def Kf (p:List Av):List Int:=(p.length:Int)::p.flatMap Dd
theorem OS {w:Av} (h:Bd w=true):(0≤w.code∧w.code<256)∧(0≤w.a∧w.a<256)∧(0≤w.b∧w.b<256)∧(0≤w.c∧w.c<256):=by
 unfold Bd at h
 simp only [inR] at h
 split at h
 ·simp at h;omega
 ·split at h
  ·simp at h;omega
  ·split at h
   ·simp at h;omega
   ·split at h
    ·simp at h;omega
    ·split at h
     ·simp at h;omega
     ·split at h
      ·simp at h;omega
      ·cases h
theorem wrU {n:Int} (h:0≤n∧n<256):IntKind.wrap .u8 n=n:=by
 have e1:(2 ^ IntKind.bits .u8:Int)=256:=by decide
 have e2:IntKind.signed .u8=false:=rfl
 simp only [IntKind.wrap,e1,e2,Bool.false_and,Bool.false_eq_true,if_false]
 omega
theorem u8N {n:Int} (h:0≤n∧n<256):((UInt8.ofNat n.toNat).toNat:Int)=n:=by
 have:n.toNat<256:=by omega
 rw [UInt8.toNat_ofNat']
 omega
theorem MH {n:Int}:∀ {p:List Av} {a:Int},BP n a p=true→∀ w∈p,Bd w=true
 | [],_,_,w,hw=>by simp at hw
 | i::r,a,h,w,hw=>by
  simp only [BP,Bool.and_eq_true] at h
  rcases List.mem_cons.1 hw with rfl | hw
  ·exact h.1.1
  ·exact MH h.2 w hw
theorem Ss {p:List Av} (h:Dn p=true):(∀ w∈p,Bd w=true)∧p.length≤16:=by
 simp only [Dn,Bool.and_eq_true,decide_eq_true_eq] at h
 exact ⟨MH h.1,h.2⟩
theorem La (p:List Av):(p.flatMap Dd).length=4*p.length:=by
 induction p with
 | nil=>rfl
 | cons w r ih=>simp only [List.flatMap_cons,List.length_append,ih,List.length_cons];simp [Dd];omega
theorem Ow (pre suf:List Av) (w:Av) (n:Int):(((n::(pre++w::suf).flatMap Dd).take (1+4*pre.length+4)).drop (1+4*pre.length))=Dd w:=by
 have e:n::(pre++w::suf).flatMap Dd=(n::pre.flatMap Dd)++(Dd w++suf.flatMap Dd):=by simp
 have l:(n::pre.flatMap Dd).length=1+4*pre.length:=by rw [List.length_cons,La];omega
 rw [e,← l,List.take_append,List.drop_append]
 simp [Dd]
end Ve
