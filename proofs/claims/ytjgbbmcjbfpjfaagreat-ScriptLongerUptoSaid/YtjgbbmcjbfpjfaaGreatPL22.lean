/- What a label sees of a step. -/
import Derived.Test.YtjgbbmcjbfpjfaaGreatPL21
set_option linter.all false
set_option linter.unusedSectionVars false
namespace Ve
open Go
structure Eqv (g:Int) (m m':Ad):Prop where
 ceil:m.ceil=m'.ceil
 row:∀ h,inR h 3=true→Aj h g=true→m.words.get h=m'.words.get h
 clk:∀ h,inR h 3=true→Aj h g=true→m.clocks.get h=m'.clocks.get h
 sess:m.sess.filter (fun x=>Aj x.label g)=m'.sess.filter (fun x=>Aj x.label g)
 trace:m.trace.filter (fun x=>Aj x.label g)=m'.trace.filter (fun x=>Aj x.label g)
theorem Eqv.symm {g:Int} {m m':Ad} (h:Eqv g m m'):Eqv g m' m:=⟨h.ceil.symm,fun a b c=>(h.row a b c).symm,fun a b c=>(h.clk a b c).symm,h.sess.symm,h.trace.symm⟩
theorem Eqv.trans {g:Int} {m m' n:Ad} (h:Eqv g m m') (h':Eqv g m' n):Eqv g m n:=⟨h.ceil.trans h'.ceil,fun a b c=>(h.row a b c).trans (h'.row a b c),fun a b c=>(h.clk a b c).trans (h'.clk a b c),h.sess.trans h'.sess,h.trace.trans h'.trace⟩
theorem Eqv.refl (g:Int) (m:Ad):Eqv g m m:=⟨rfl,fun _ _ _=>rfl,fun _ _ _=>rfl,rfl,rfl⟩
theorem fV {g:Int} {m m':Ad} (h:Eqv g m m'):Bf m g=Bf m' g:=by
 have hr:∀ a,inR a 3=true→Jc a g (m.words.get a)=Jc a g (m'.words.get a):=by
  intro a ha;unfold Jc;split
  ·rename_i hu;exact h.row a ha hu
  ·rfl
 have hc:∀ a,inR a 3=true→Lc a g (m.clocks.get a)=Lc a g (m'.clocks.get a):=by
  intro a ha;unfold Lc;split
  ·rename_i hu;exact h.clk a ha hu
  ·rfl
 have r0:=hr 0 rfl
 have r1:=hr 1 rfl
 have r2:=hr 2 rfl
 have r3:=hr 3 rfl
 have c0:=hc 0 rfl
 have c1:=hc 1 rfl
 have c2:=hc 2 rfl
 have c3:=hc 3 rfl
 simp only [A4.get,simprocAttr] at r0 r1 r2 r3 c0 c1 c2 c3
 simp only [Bf,r0,r1,r2,r3,c0,c1,c2,c3,h.ceil,h.sess,h.trace]
theorem OW {α:Type} (P:α→Bool):∀ (l:List α) (k:Nat) (x t:α),l[k]?=some x→P x=false→P t=false→(l.set k t).filter P=l.filter P
 | [],k,x,t,h,_,_=>by simp at h
 | a::r,0,x,t,h,h1,h2=>by
  simp only [List.getElem?_cons_zero,Option.some.injEq] at h;subst h
  simp [h1,h2]
 | a::r,k+1,x,t,h,h1,h2=>by
  have:=OW P r k x t (by simpa using h) h1 h2
  simp only [List.set_cons_succ,List.filter_cons,this]
def SU (s t:Ai) (x:Ai):Ai:=if x.id=s.id then t else x
theorem Of:∀ {l:List Ai} {k:Nat} {s t:Ai},l.Pairwise (fun a b=>a.id<b.id)→l[k]?=some s→l.set k t=l.map (SU s t)
 | [],k,s,t,_,h=>by simp at h
 | a::r,0,s,t,hp,h=>by
  simp only [List.getElem?_cons_zero,Option.some.injEq] at h;subst h
  obtain ⟨h1,_⟩:=List.pairwise_cons.1 hp
  have:r.map (SU a t)=r:=by
   rw [List.map_congr_left (g:=fun x=>x)]
   ·simp
   ·intro x hx;unfold SU;rw [if_neg];have:=h1 x hx;omega
  simp only [List.set_cons_zero,List.map_cons,this]
  unfold SU;rw [if_pos rfl]
 | a::r,k+1,s,t,hp,h=>by
  obtain ⟨h1,h2⟩:=List.pairwise_cons.1 hp
  have hs:r[k]?=some s:=by simpa using h
  have hlt:=h1 s (List.mem_of_getElem? hs)
  have:=Of (t:=t) h2 hs
  simp only [List.set_cons_succ,List.map_cons,this]
  unfold SU;rw [if_neg (by omega)]
theorem JC (P:Ai→Bool) (s t:Ai):∀ (l:List Ai),(∀ x∈l,x.id=s.id→P x=true)→(l.map (SU s t)).filter P=((l.filter P).map (SU s t)).filter P
 | [],_=>rfl
 | a::r,h=>by
  have ih:=JC P s t r (fun x hx=>h x (by simp [hx]))
  cases hp:P a with
  | true=>simp only [List.map_cons,List.filter_cons,hp,if_true,ih]
  | false =>
   have hne:a.id≠s.id:=fun e=>by have:=h a (by simp) e;rw [hp] at this;cases this
   have:SU s t a=a:=by unfold SU;rw [if_neg hne]
   simp only [List.map_cons,List.filter_cons,hp,this,Bool.false_eq_true,if_false,ih]
theorem WN {m m':Ad} {k k':Nat} {s t:Ai} {P:Ai→Bool} (hM:Bt m) (hM':Bt m') (hs:m.sess[k]?=some s) (hs':m'.sess[k']?=some s) (hP:P s=true) (h:m.sess.filter P=m'.sess.filter P):(m.sess.set k t).filter P=(m'.sess.set k' t).filter P:=by
 have hp:=(OO m.sess none hM.ids).2
 have hp':=(OO m'.sess none hM'.ids).2
 rw [Of hp hs,Of hp' hs',JC P s t m.sess,JC P s t m'.sess,h]
 ·intro x hx e;rw [WG hM' hx (List.mem_of_getElem? hs') e];exact hP
 ·intro x hx e;rw [WG hM hx (List.mem_of_getElem? hs) e];exact hP
theorem SK {cs:A4 Int} {l h v:Int} (hl:inR l 3=true) (hh:inR h 3=true):(cs.set l v).get h=if h=l then v else cs.get h:=by
 rcases Fm hl with rfl | rfl | rfl | rfl<;>rcases Fm hh with rfl | rfl | rfl | rfl<;>rfl
theorem MJ (E:Ef) (m:Ad) (k:Nat) (l:Int):(E.app m k l).words=E.w.app m.words:=by
 unfold Ef.app;cases E.e with
 | none=>rfl
 | some e=>simp only [IU,Dw]
theorem Mc (E:Ef) (m:Ad) (k:Nat) (l:Int):(E.app m k l).sess=m.sess.set k E.t:=by
 unfold Ef.app;cases E.e with
 | none=>rfl
 | some e=>simp only [IU,DL]
theorem KV (E:Ef) (m:Ad) (k:Nat) (l:Int):(E.app m k l).clocks=dW l m.clocks E.c:=by
 unfold Ef.app;cases E.e with
 | none=>rfl
 | some e=>simp only [IU,FU]
theorem PH (E:Ef) (m:Ad) (k:Nat) (l:Int):(E.app m k l).ceil=m.ceil:=by
 unfold Ef.app;cases E.e with
 | none=>rfl
 | some e=>simp only [IU,EV]
theorem Ry (E:Ef) (m:Ad) (k:Nat) (l:Int) (ht:m.trace.length<512):(E.app m k l).trace=m.trace++E.e.toList:=by
 unfold Ef.app;cases E.e with
 | none=>simp [IU]
 | some e=>simp only [IU,KD];rw [if_pos ht];rfl
theorem wO {g:Int} {m m':Ad} {k k':Nat} {s:Ai} {E:Ef} (hM:Bt m) (hM':Bt m') (hs:m.sess[k]?=some s) (hs':m'.sess[k']?=some s) (hg:Aj s.label g=true) (hl:inR s.label 3=true) (hw:E.w.ok) (h:Eqv g m m') (ht:m.trace.length<512) (ht':m'.trace.length<512):Eqv g (E.app m k s.label) (E.app m' k' s.label):=by
 refine ⟨by rw [PH,PH];exact h.ceil,fun a ha hu=>?_,fun a ha hu=>?_,?_,?_⟩
 ·rw [MJ,MJ,WF.app_get hw _ _ ha,WF.app_get hw _ _ ha,h.row a ha hu]
 ·rw [KV,KV]
  cases E.c with
  | none=>exact h.clk a ha hu
  | some v=>simp only [dW];rw [SK hl ha,SK hl ha,h.clk a ha hu]
 ·rw [Mc,Mc]
  exact WN (P:=fun x=>Aj x.label g) hM hM' hs hs' hg h.sess
 ·rw [Ry _ _ _ _ ht,Ry _ _ _ _ ht',List.filter_append,List.filter_append,h.trace]
end Ve
