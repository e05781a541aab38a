/- What a label sees of a run. -/
import Derived.Test.YtjgbbmcjbfpjfaaGreatPL23
set_option linter.all false
set_option linter.unusedSectionVars false
namespace Ve
open Go
theorem Nz {m:Ad} (hM:Bt m) {x:AR} (hx:AP x=true):(CM m x=(0,false,0)∧m.sess.filter (EZ x.level)=[])∨∃ (k:Nat) (s:Ai),CM m x=((k:Int),true,0)∧m.sess[k]?=some s∧(m.sess.filter (EZ x.level))[x.pick.toNat % (m.sess.filter (EZ x.level)).length]?=some s:=by
 obtain ⟨n1,n2⟩:=NY x.level m.sess 0
 have e:CM m x=match (IM m x.level)[x.pick.toNat % (IM m x.level).length]? with
  | some k=>((k:Int),true,0)
  | none=>(0,false,0):=by
  unfold CM;rw [(Nv m).2 hM,hx];rfl
 have hlen:(IM m x.level).length=(m.sess.filter (EZ x.level)).length:=n1
 cases hq:(IM m x.level)[x.pick.toNat % (IM m x.level).length]? with
 | none =>
  rw [hq] at e
  refine .inl ⟨e,?_⟩
  rw [List.getElem?_eq_none_iff] at hq
  have:(IM m x.level).length=0:=by
   rcases Nat.eq_zero_or_pos (IM m x.level).length with h | h
   ·exact h
   ·have:=Nat.mod_lt x.pick.toNat h;omega
  exact List.eq_nil_of_length_eq_zero (by omega)
 | some k =>
  rw [hq] at e
  have:=n2 _ k hq
  obtain ⟨s,_,hs,_⟩:=FA m.sess x.level 0 k (List.mem_of_getElem? hq)
  refine .inr ⟨k,s,e,by simpa using hs,?_⟩
  rw [← hlen,← this];exact hs
theorem RH {m:Ad} {x:AR} (h:CM m x=(0,false,0)):Bl m x=(m,0):=by unfold Bl;rw [h];rfl
theorem RI {m:Ad} (hI:Inv m) {x:AR} {k:Nat} {s:Ai} (h:CM m x=((k:Int),true,0)) (hs:m.sess[k]?=some s):∃ A,Bl m x=(A,0)∧FV m k s=some A∧Inv A∧∃ t,Ey m A k s t:=by
 obtain ⟨A,h1,h2,h3,h4⟩:=LD hs hI
 refine ⟨A,?_,h2,h3,h4⟩
 unfold Bl;rw [h];simp only [if_true,h1]
theorem fG {g:Int} {m m':Ad} (hg3:inR g 3=true) (hI:Inv m) (hI':Inv m') {x:AR} (hx:AP x=true) (hv:Aj x.level g=true) (h:Eqv g m m') (ht:m.trace.length<512) (ht':m'.trace.length<512):Eqv g (Bl m x).1 (Bl m' x).1:=by
 have hc:=oB hv h
 rcases Nz hI.may hx with ⟨w,he⟩ | ⟨k,s,w,hs,hq⟩
 ·rcases Nz hI'.may hx with ⟨w',_⟩ | ⟨k',s',w',hs',hq'⟩
  ·rw [RH w,RH w'];exact h
  ·rw [← hc,he] at hq';simp at hq'
 ·rcases Nz hI'.may hx with ⟨w',he'⟩ | ⟨k',s',w',hs',hq'⟩
  ·rw [hc,he'] at hq;simp at hq
  ·rw [← hc,hq] at hq'
   obtain rfl:s=s':=Option.some.inj hq'
   have hsl:s.label=x.level:=by
    have:=List.mem_of_getElem? hq
    simp only [List.mem_filter,EZ,Bool.and_eq_true,decide_eq_true_eq] at this
    exact this.2.1
   have hgs:Aj s.label g=true:=by rw [hsl];exact hv
   obtain ⟨A,e1,e2,_,_⟩:=RI hI w hs
   obtain ⟨A',e1',e2',_,_⟩:=RI hI' w' hs'
   have hS:=Jt hs hI
   have hSI:=hI.sess s (List.mem_of_getElem? hs)
   rw [PG hs] at e2
   rw [PG hs'] at e2'
   have he:=vC hg3 hS hSI hgs h
   rw [← he] at e2'
   cases hE:SA m.ceil m.words (m.clocks.get s.label) s with
   | none=>rw [hE] at e2;cases e2
   | some E =>
    rw [hE,Option.map_some,Option.some.injEq] at e2 e2'
    rw [e1,e1',← e2,← e2']
    exact wO hI.may hI'.may hs hs' hgs hS.label (Zw hS.label (UM hSI hE).w) h ht ht'
theorem lN {g:Int} {m:Ad} (hg3:inR g 3=true) (hI:Inv m) {x:AR} (hx:AP x=true) (hv:Aj x.level g=false):Eqv g m (Bl m x).1:=by
 rcases Nz hI.may hx with ⟨w,_⟩ | ⟨k,s,w,hs,hq⟩
 ·rw [RH w];exact Eqv.refl g m
 ·have hsl:s.label=x.level:=by
   have:=List.mem_of_getElem? hq
   simp only [List.mem_filter,EZ,Bool.and_eq_true,decide_eq_true_eq] at this
   exact this.2.1
  have hgs:Aj s.label g=false:=by rw [hsl];exact hv
  obtain ⟨A,e1,e2,hIA,t,hL⟩:=RI hI w hs
  have hSI:=hI.sess s (List.mem_of_getElem? hs)
  rw [PG hs] at e2
  cases hE:SA m.ceil m.words (m.clocks.get s.label) s with
  | none=>rw [hE] at e2;cases e2
  | some E =>
   rw [hE,Option.map_some,Option.some.injEq] at e2
   have hk:=Ax hs
   have htE:E.t=t:=by
    have h1:=Mc E m k s.label
    rw [e2,hL.sess] at h1
    have h2:(m.sess.set k t)[k]?=(m.sess.set k E.t)[k]?:=by rw [h1]
    rw [List.getElem?_set_self hk,List.getElem?_set_self hk] at h2
    exact (Option.some.inj h2).symm
   have hmem:t∈A.sess:=by rw [hL.sess];exact List.mem_of_getElem? (List.getElem?_set_self hk)
   have htl:=((sp _ _).1 (hIA.may.sess t hmem)).label
   rw [e1,← e2]
   exact wN hI hs hg3 hgs (UM hSI hE) (by rw [htE];exact hL.lab) (by rw [htE];exact htl)
theorem NF {g:Int} (hg3:inR g 3=true):∀ (l:List AR) (m m':Ad),Inv m→Inv m'→l.all AP=true→Eqv g m m'→m.trace.length+l.length≤512→m'.trace.length+l.length≤512→Eqv g (Bh m l).1 (Bh m' (l.filter fun x=>Aj x.level g)).1
 | [],m,m',_,_,_,h,_,_=>h
 | x::r,m,m',hI,hI',ha,h,ht,ht'=>by
  simp only [List.all_cons,Bool.and_eq_true] at ha
  simp only [List.length_cons] at ht ht'
  obtain ⟨h1,h2,h3,_,_⟩:=Oe hI ha.1
  have e:Bh m (x::r)=Bh (Bl m x).1 r:=by show (if _ then _ else _)=_;rw [if_pos h1]
  rw [e,List.filter_cons]
  cases hv:Aj x.level g with
  | true =>
   obtain ⟨h1',h2',h3',_,_⟩:=Oe hI' ha.1
   simp only [if_true]
   have e':Bh m' (x::r.filter fun x=>Aj x.level g)=Bh (Bl m' x).1 (r.filter fun x=>Aj x.level g):=by show (if _ then _ else _)=_;rw [if_pos h1']
   rw [e']
   exact NF hg3 r _ _ h2 h2' ha.2 (fG hg3 hI hI' ha.1 hv h (by omega) (by omega)) (by omega) (by omega)
  | false =>
   simp only [Bool.false_eq_true,if_false]
   exact NF hg3 r _ _ h2 hI' ha.2 ((lN hg3 hI ha.1 hv).symm.trans h) (by omega) (by omega)
theorem qZ {g:Int} (hg3:inR g 3=true) {l l':List AR} {m m':Ad} (hI:Inv m) (hI':Inv m') (ha:l.all AP=true) (ha':l'.all AP=true) (h:Eqv g m m') (hl:(l.filter fun x=>Aj x.level g)=l'.filter fun x=>Aj x.level g) (ht:m.trace.length+l.length≤512) (ht':m'.trace.length+l'.length≤512) (hm:m'.trace.length+l.length≤512):Eqv g (Bh m l).1 (Bh m' l').1:=by
 have h1:=NF hg3 l m m' hI hI' ha h ht hm
 have h2:=NF hg3 l' m' m' hI' hI' ha' (Eqv.refl g m') ht' ht'
 rw [hl] at h1
 exact h1.trans h2.symm
end Ve
