/- What a label sees of slots and runs. -/
import Derived.Test.YtjgbbmcjbfpjfaaGreatPL22
set_option linter.all false
set_option linter.unusedSectionVars false
namespace Ve
open Go
theorem LL {ws ws':A4 (List Ap)} {l i:Int} (h:ws.get l=ws'.get l):BN ws l i=BN ws' l i:=by unfold BN;rw [h]
def WF.mine (s:Ai):WF→Prop
 | .id=>True
 | .free c=>c=s.id+1
 | .set l _ _=>l=s.label
 | .setFree l _ _ c=>l=s.label∧c=s.id+1
structure eU (s:Ai) (E:Ef):Prop where
 w:E.w.mine s
 e:∀ e,E.e=some e→e.label=s.label
theorem Zw {s:Ai} (hl:inR s.label 3=true) {f:WF} (h:f.mine s):f.ok:=by
 cases f with
 | id=>trivial
 | free c=>trivial
 | set l i w=>simp only [WF.mine] at h;simp only [WF.ok];rw [h];exact hl
 | setFree l i w c=>simp only [WF.mine] at h;simp only [WF.ok];rw [h.1];exact hl
theorem Kd (s:Ai) (kind:Int):eU s (Pc s kind):=⟨rfl,fun e h=>by cases h;rfl⟩
theorem Jq (s:Ai) (r t:Int):eU s (QX s r t):=⟨rfl,fun e h=>by cases h;rfl⟩
theorem HE (s t:Ai) (c:Option Int):eU s ⟨t,.id,c,none⟩:=⟨trivial,fun e h=>by cases h⟩
theorem Jp (s t:Ai) (a b:Int):eU s ⟨t,.id,none,some ⟨s.id,s.label,a,b⟩⟩:=⟨trivial,fun e h=>by cases h;rfl⟩
theorem UM {ceil clk:Int} {ws:A4 (List Ap)} {s:Ai} (hSI:SI s) {E:Ef} (h:SA ceil ws clk s=some E):eU s E:=by
 unfold SA at h
 by_cases h0:s.step=0
 ·rw [if_pos h0] at h;cases h
  unfold UN
  cases s.prog[s.pc.toNat]? with
  | none =>
   simp only;unfold WP
   split
   ·exact HE _ _ _
   ·exact Jq _ _ _
  | some x =>
   simp only
   split
   ·split
    ·unfold NP
     split
     ·exact Jp _ _ _ _
     ·split
      ·exact Jp _ _ _ _
      ·exact Kd _ _
    ·unfold SE
     split
     ·exact Jp _ _ _ _
     ·exact Jq _ _ _
   ·split
    ·exact Jp _ _ _ _
    ·split
     ·exact Jp _ _ _ _
     ·split
      ·exact Jq _ _ _
      ·unfold WQ
       split
       ·exact HE _ _ _
       ·split
        ·exact HE _ _ _
        ·exact HE _ _ _
 rw [if_neg h0] at h
 by_cases h1:s.step=1
 ·rw [if_pos h1] at h
  unfold SD at h
  cases hw:s.writes[s.at_.toNat]? with
  | none=>rw [hw] at h;cases h
  | some w =>
   rw [hw] at h;simp only [Option.some.injEq] at h;subst h
   split
   ·exact ⟨hSI.lvl (by omega) w (List.mem_of_getElem? hw),fun e h=>by cases h⟩
   ·exact Kd _ _
 rw [if_neg h1] at h
 by_cases h2:s.step=2
 ·rw [if_pos h2] at h;cases h
  unfold SC
  split
  ·exact Jq _ _ _
  ·exact HE _ _ _
 rw [if_neg h2] at h
 by_cases h3:s.step=3
 ·rw [if_pos h3] at h;cases h
  unfold NQ
  split
  ·split
   ·exact Jq _ _ _
   ·exact HE _ _ _
  ·exact Kd _ _
 rw [if_neg h3] at h
 by_cases h4:s.step=4
 ·rw [if_pos h4] at h
  unfold WR at h
  cases hw:s.writes[s.at_.toNat]? with
  | none=>rw [hw] at h;cases h
  | some w =>
   rw [hw] at h;simp only [Option.some.injEq] at h;subst h
   have hl:=hSI.lvl (by omega) w (List.mem_of_getElem? hw)
   split
   ·exact ⟨⟨hl,rfl⟩,fun e h=>by cases h;rfl⟩
   ·exact ⟨hl,fun e h=>by cases h⟩
 rw [if_neg h4] at h
 by_cases h5:s.step=5
 ·rw [if_pos h5] at h;cases h
  unfold SB
  split
  ·exact Kd _ _
  ·exact HE _ _ _
 ·rw [if_neg h5] at h;cases h;exact HE _ _ _
theorem YQ {α:Type} {p q:α→Bool} {l:List α} (h:∀ x∈l,p x=q x):l.all p=l.all q:=by
 induction l with
 | nil=>rfl
 | cons a r ih=>simp only [List.all_cons,h a (by simp),ih fun x hx=>h x (by simp [hx])]
theorem YN {α:Type} {p q:α→Bool} {l:List α} (h:∀ x∈l,p x=q x):l.any p=l.any q:=by
 induction l with
 | nil=>rfl
 | cons a r ih=>simp only [List.any_cons,h a (by simp),ih fun x hx=>h x (by simp [hx])]
theorem vC {g:Int} {m m':Ad} {s:Ai} (hg3:inR g 3=true) (hS:SP m.words s) (hSI:SI s) (hg:Aj s.label g=true) (h:Eqv g m m'):SA m.ceil m.words (m.clocks.get s.label) s=SA m'.ceil m'.words (m'.clocks.get s.label) s:=by
 have hrow:∀ l,inR l 3=true→Aj l s.label=true→m.words.get l=m'.words.get l:=fun l hl hu=>h.row l hl (IS hl hS.label hg3 hu hg)
 have hr1:∀ r∈s.reads,m.words.get r.level=m'.words.get r.level:=by
  intro r hr
  have:=(Ml hS.reads).1 r hr
  simp only [CD,Bool.and_eq_true] at this
  exact hrow r.level this.1.1 (hSI.rd r hr)
 have hgood:s.reads.all (Cy m.words s.id)=s.reads.all (Cy m'.words s.id):=YQ fun r hr=>by unfold Cy;rw [LL (hr1 r hr)]
 have hchg:s.reads.any (Fb m.words)=s.reads.any (Fb m'.words):=YN fun r hr=>by unfold Fb;rw [LL (hr1 r hr)]
 have hself:m.words.get s.label=m'.words.get s.label:=hrow _ hS.label (Ce hS.label)
 unfold SA
 rw [h.ceil,h.clk s.label hS.label hg]
 by_cases h0:s.step=0
 ·rw [if_pos h0,if_pos h0]
  congr 1
  unfold UN
  cases hx:s.prog[s.pc.toNat]? with
  | none=>rfl
  | some x =>
   simp only
   by_cases hc:x.code=2
   ·rw [if_pos hc,if_pos hc]
    by_cases hu:Aj x.b s.label=true
    ·rw [if_pos hu,if_pos hu]
     have hl:=CW (Dk hS hx).1 (.inl hc)
     unfold NP
     rw [hgood,LL (hrow x.b hl.1 hu)]
    ·rw [if_neg hu,if_neg hu]
   ·rw [if_neg hc,if_neg hc]
 rw [if_neg h0,if_neg h0]
 by_cases h1:s.step=1
 ·rw [if_pos h1,if_pos h1]
  unfold SD
  cases hw:s.writes[s.at_.toNat]? with
  | none=>rfl
  | some w =>
   have hl:=hSI.lvl (by omega) w (List.mem_of_getElem? hw)
   simp only
   rw [LL (ws:=m.words) (ws':=m'.words) (by rw [hl];exact hself)]
 rw [if_neg h1,if_neg h1]
 by_cases h2:s.step=2
 ·rw [if_pos h2,if_pos h2]
 rw [if_neg h2,if_neg h2]
 by_cases h3:s.step=3
 ·rw [if_pos h3,if_pos h3];unfold NQ;rw [hgood]
 rw [if_neg h3,if_neg h3]
 by_cases h4:s.step=4
 ·rw [if_pos h4,if_pos h4]
 rw [if_neg h4,if_neg h4]
 by_cases h5:s.step=5
 ·rw [if_pos h5,if_pos h5];unfold SB;rw [hchg]
 rw [if_neg h5,if_neg h5]
theorem wN {g:Int} {m:Ad} {k:Nat} {s:Ai} {E:Ef} (hI:Inv m) (hs:m.sess[k]?=some s) (hg3:inR g 3=true) (hg:Aj s.label g=false) (hE:eU s E) (ht:Aj s.label E.t.label=true) (htl:inR E.t.label 3=true):Eqv g m (E.app m k s.label):=by
 have hS:=Jt hs hI
 have hid:=AL.1 hS.id
 have hne:∀ a,Aj a g=true→a≠s.label:=by rintro a h rfl;rw [hg] at h;cases h
 have hfree:∀ a,inR a 3=true→Aj a g=true→(m.words.get a).map (As (s.id+1))=m.words.get a:=by
  intro a ha hu
  rw [List.map_congr_left (g:=fun x=>x)]
  ·simp
  ·intro w hw
   unfold As
   rw [if_neg]
   intro e
   obtain ⟨i,hi⟩:=List.getElem?_of_mem hw
   obtain ⟨s',h1,h2,h3,_,_⟩:=hI.lock a i w ha hi (by omega)
   have:=WG hI.may h1 (List.mem_of_getElem? hs) (by omega)
   subst this
   exact hne a hu h3.symm
 refine ⟨by rw [PH],fun a ha hu=>?_,fun a ha hu=>?_,?_,?_⟩
 ·rw [MJ,WF.app_get (Zw hS.label hE.w) _ _ ha]
  have hw:=hE.w
  cases hf:E.w with
  | id=>rfl
  | free c=>rw [hf] at hw;simp only [WF.mine] at hw;simp only [WF.row,hw];exact (hfree a ha hu).symm
  | set l i w=>rw [hf] at hw;simp only [WF.mine] at hw;simp only [WF.row,hw];rw [if_neg (hne a hu)]
  | setFree l i w c =>
   rw [hf] at hw;simp only [WF.mine] at hw
   simp only [WF.row,hw.1,hw.2];rw [if_neg (hne a hu)];exact (hfree a ha hu).symm
 ·rw [KV]
  cases E.c with
  | none=>rfl
  | some v=>simp only [dW];rw [SK hS.label ha,if_neg (hne a hu)]
 ·rw [Mc]
  refine (OW _ m.sess k s E.t hs hg ?_).symm
  cases h:Aj E.t.label g with
  | false=>rfl
  | true=>rw [IS hS.label htl hg3 ht h] at hg;cases hg
 ·unfold Ef.app
  cases he:E.e with
  | none=>rfl
  | some e =>
   simp only [IU,KD]
   split
   ·rw [List.filter_append]
    have:=hE.e e he
    simp [this,hg]
   ·rfl
theorem NY (l:Int):∀ (ss:List Ai) (b:Nat),(BR l b ss).length=(ss.filter (EZ l)).length∧∀ (j k:Nat),(BR l b ss)[j]?=some k→ss[k - b]?=(ss.filter (EZ l))[j]?
 | [],b=>⟨rfl,fun j k h=>by simp [BR] at h⟩
 | a::r,b=>by
  obtain ⟨h1,h2⟩:=NY l r (b+1)
  unfold BR
  by_cases ht:EZ l a=true
  ·rw [if_pos ht,List.filter_cons,if_pos ht]
   refine ⟨by simp [h1],fun j k h=>?_⟩
   cases j with
   | zero=>simp only [List.getElem?_cons_zero,Option.some.injEq] at h;subst h;simp
   | succ j =>
    simp only [List.getElem?_cons_succ] at h ⊢
    have:=h2 j k h
    obtain ⟨s,hb,_,_⟩:=FA r l (b+1) k (List.mem_of_getElem? h)
    rw [show k - b=(k - (b+1))+1 by omega,List.getElem?_cons_succ];exact this
  ·rw [if_neg ht,List.filter_cons,if_neg ht]
   refine ⟨h1,fun j k h=>?_⟩
   have:=h2 j k h
   obtain ⟨s,hb,_,_⟩:=FA r l (b+1) k (List.mem_of_getElem? h)
   rw [show k - b=(k - (b+1))+1 by omega,List.getElem?_cons_succ];exact this
theorem oB {g l:Int} {m m':Ad} (hl:Aj l g=true) (h:Eqv g m m'):m.sess.filter (EZ l)=m'.sess.filter (EZ l):=by
 have key:∀ ss:List Ai,ss.filter (EZ l)=(ss.filter fun x=>Aj x.label g).filter (EZ l):=by
  intro ss
  rw [List.filter_filter]
  apply List.filter_congr
  intro x _
  cases ht:EZ l x with
  | false=>rfl
  | true =>
   simp only [EZ,Bool.and_eq_true,decide_eq_true_eq] at ht
   rw [ht.1,hl];rfl
 rw [key m.sess,key m'.sess,h.sess]
end Ve
