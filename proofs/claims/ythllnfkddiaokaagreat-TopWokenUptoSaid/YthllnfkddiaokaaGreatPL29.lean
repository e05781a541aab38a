/- Traces: TopTraces, on the models. -/
import Derived.Test.YthllnfkddiaokaaGreatPL28
set_option linter.all false
set_option linter.unusedSectionVars false
namespace Ve
open Go
def Dd (e:AI):Bool:=decide (e.kind=3)||decide (e.kind=5)
def EU:List AI→Int
 | []=>0
 | e::r=>(if Dd e=true then 1 else 0)+EU r
theorem Wb (a b:List AI):EU (a++b)=EU a+EU b:=by
 induction a with
 | nil=>simp [EU]
 | cons x r ih=>simp only [List.cons_append,EU,ih];omega
theorem aH (a:List AI):0≤EU a∧EU a≤a.length:=by
 induction a with
 | nil=>exact ⟨Int.le_refl _,Int.le_refl _⟩
 | cons x r ih=>simp only [EU,List.length_cons];split<;>omega
structure Wy (x:Ae) (ev:List AI):Prop where
 lab:(ev.map (·.label)++[x.label]).Pairwise (fun a b=>Ao a b=true)
 inl:∀ a∈ev.map (·.label)++[x.label],inR a 3=true
 tries:x.tries=EU ev
 vals:∀ pre e suf,ev=pre++e::suf→Dd e=true→e.val=EU pre+1
 live:x.step≠6→∀ e∈ev,e.kind≠6
 dead:x.step=6→∃ pre e,ev=pre++[e]∧e.kind=6∧e.val=x.result∧∀ y∈pre,y.kind≠6
structure RY (s:Ae) (E:Ef):Prop where
 id:E.t.id=s.id
 none:E.e=none→E.t.tries=s.tries∧E.t.step≠6
 some:∀ e,E.e=some e→e.id=s.id∧e.label=s.label∧(Dd e=true→E.t.tries=KF s.tries∧e.val=KF s.tries)∧(Dd e=false→E.t.tries=s.tries)∧(e.kind=6→E.t.step=6∧e.val=E.t.result)∧(e.kind≠6→E.t.step≠6)
theorem IA (s:Ae) {kind:Int} (h:kind=3∨kind=5):RY s (FL s kind):=by
 refine ⟨rfl,fun h=>(by cases h),fun e he=>?_⟩
 cases he
 refine ⟨rfl,rfl,fun _=>⟨rfl,rfl⟩,fun hf=>?_,fun h6=>?_,fun _=>by simp [FL,Co]⟩
 ·rcases h with rfl | rfl<;>simp [Dd] at hf
 ·simp only at h6;omega
theorem Ib (s:Ae) (r t:Int):RY s (EZ s r t):=by
 refine ⟨rfl,fun h=>(by cases h),fun e he=>?_⟩
 cases he
 exact ⟨rfl,rfl,fun hf=>by simp [Dd] at hf,fun _=>rfl,fun _=>⟨rfl,rfl⟩,fun h=>absurd rfl h⟩
theorem Ia {s t:Ae} {kd v:Int} {c:Option Int} {f:WF} (h1:t.id=s.id) (h2:t.tries=s.tries) (h3:t.step≠6) (h4:kd≠3∧kd≠5∧kd≠6):RY s ⟨t,f,c,some ⟨s.id,s.label,kd,v⟩⟩:=by
 refine ⟨h1,fun h=>(by cases h),fun e he=>?_⟩
 cases he
 refine ⟨rfl,rfl,fun hf=>?_,fun _=>h2,fun h=>absurd h h4.2.2,fun _=>h3⟩
 simp [Dd,h4.1,h4.2.1] at hf
theorem Fb {s t:Ae} {c:Option Int} {f:WF} (h1:t.id=s.id) (h2:t.tries=s.tries) (h3:t.step≠6):RY s ⟨t,f,c,none⟩:=⟨h1,fun _=>⟨h2,h3⟩,fun e he=>by cases he⟩
theorem eP {ceil clk:Int} {ws:A4 (List Aj)} {s:Ae} (hst:s.step≠6) (hin:inR s.step 6=true) {E:Ef} (h:EC ceil ws clk s=some E):RY s E:=by
 have hin:=AE.1 hin
 unfold EC at h
 by_cases h0:s.step=0
 ·rw [if_pos h0] at h;cases h
  unfold GF
  cases s.prog[s.pc.toNat]? with
  | none =>
   simp only;unfold IT
   split
   ·exact Fb rfl rfl (by simp only;split<;>omega)
   ·exact Ib _ _ _
  | some x =>
   simp only
   split
   ·split
    ·unfold FS
     split
     ·exact Ia rfl rfl hst (by omega)
     ·split
      ·exact Ia rfl rfl hst (by omega)
      ·exact IA s (.inl rfl)
    ·unfold GZ
     split
     ·exact Ia rfl rfl hst (by omega)
     ·exact Ib _ _ _
   ·split
    ·exact Ia rfl rfl hst (by omega)
    ·split
     ·exact Ia rfl rfl (by simp) (by omega)
     ·split
      ·exact Ib _ _ _
      ·unfold IU
       split
       ·exact Fb rfl rfl hst
       ·split
        ·exact Fb rfl rfl hst
        ·exact Fb rfl rfl hst
 rw [if_neg h0] at h
 by_cases h1:s.step=1
 ·rw [if_pos h1] at h
  unfold Gt at h
  cases hw:s.writes[s.at_.toNat]? with
  | none=>rw [hw] at h;cases h
  | some w =>
   rw [hw] at h;simp only [Option.some.injEq] at h;subst h
   split
   ·exact Fb rfl rfl (by simp only;split<;>omega)
   ·exact IA s (.inl rfl)
 rw [if_neg h1] at h
 by_cases h2:s.step=2
 ·rw [if_pos h2] at h;cases h
  unfold EM
  split
  ·exact Ib _ _ _
  ·exact Fb rfl rfl (by simp)
 rw [if_neg h2] at h
 by_cases h3:s.step=3
 ·rw [if_pos h3] at h;cases h
  unfold Dh
  split
  ·split
   ·exact Ib _ _ _
   ·exact Fb rfl rfl (by simp)
  ·exact IA s (.inl rfl)
 rw [if_neg h3] at h
 by_cases h4:s.step=4
 ·rw [if_pos h4] at h
  unfold Gu at h
  cases hw:s.writes[s.at_.toNat]? with
  | none=>rw [hw] at h;cases h
  | some w =>
   rw [hw] at h;simp only [Option.some.injEq] at h;subst h
   split
   ·refine ⟨rfl,fun h=>(by cases h),fun e he=>?_⟩
    cases he
    exact ⟨rfl,rfl,fun hf=>by simp [Dd] at hf,fun _=>rfl,fun _=>⟨rfl,rfl⟩,fun h=>absurd rfl h⟩
   ·exact Fb rfl rfl hst
 rw [if_neg h4] at h
 by_cases h5:s.step=5
 ·rw [if_pos h5] at h;cases h
  unfold Fo
  split
  ·exact IA s (.inr rfl)
  ·exact Fb rfl rfl hst
 ·omega
structure TrI (m:Ac):Prop where
 told:∀ x∈m.sess,Wy x (m.trace.filter fun e=>decide (e.id=x.id))
theorem aY {s:Ae} {E:Ef} {ev:List AI} (hst:s.step≠6) (h:Wy s ev) (ht:RY s E) (hl:Ao s.label E.t.label=true) (htl:inR E.t.label 3=true) (hlen:ev.length<1000):Wy E.t (ev++E.e.toList):=by
 have hsl:=h.inl s.label (by simp)
 have hup:∀ a∈ev.map (·.label)++[s.label],Ao a E.t.label=true:=by
  intro a ha
  have ha3:=h.inl a ha
  rcases List.mem_append.1 ha with h1 | h1
  ·have:=(List.pairwise_append.1 h.lab).2.2 a h1 s.label (by simp)
   exact HC ha3 hsl htl this hl
  ·simp only [List.mem_singleton] at h1;subst h1;exact hl
 have hc:=aH ev
 cases he:E.e with
 | none =>
  obtain ⟨t1,t2⟩:=ht.none he
  simp only [Option.toList_none,List.append_nil]
  refine ⟨?_,?_,by rw [t1];exact h.tries,h.vals,fun _=>h.live hst,fun h6=>absurd h6 t2⟩
  ·rw [List.pairwise_append]
   refine ⟨(List.pairwise_append.1 h.lab).1,List.pairwise_singleton _ _,fun a ha b hb=>?_⟩
   simp only [List.mem_singleton] at hb;subst hb
   exact hup a (List.mem_append_left _ ha)
  ·intro a ha
   rcases List.mem_append.1 ha with h1 | h1
   ·exact h.inl a (List.mem_append_left _ h1)
   ·simp only [List.mem_singleton] at h1;subst h1;exact htl
 | some e =>
  obtain ⟨e1,e2,e3,e4,e5,e6⟩:=ht.some e he
  simp only [Option.toList_some]
  have hmin:KF s.tries=EU ev+1:=by
   rw [h.tries];unfold KF
   rw [Bp (by omega) (by omega)]
   split<;>omega
  have hcnt:EU (ev++[e])=EU ev+(if Dd e=true then 1 else 0):=by rw [Wb];simp [EU]
  refine ⟨?_,?_,?_,?_,?_,?_⟩
  ·rw [List.map_append,List.map_singleton,e2,List.pairwise_append]
   refine ⟨h.lab,List.pairwise_singleton _ _,fun a ha b hb=>?_⟩
   simp only [List.mem_singleton] at hb;subst hb
   exact hup a ha
  ·intro a ha
   rw [List.map_append,List.map_singleton,e2] at ha
   rcases List.mem_append.1 ha with h1 | h1
   ·exact h.inl a h1
   ·simp only [List.mem_singleton] at h1;subst h1;exact htl
  ·rw [hcnt]
   cases hi:Dd e with
   | true=>rw [(e3 hi).1,hmin];rfl
   | false=>rw [e4 hi,h.tries];simp
  ·intro pre y suf heq hy
   rcases List.eq_nil_or_concat suf with rfl | ⟨suf',z,rfl⟩
   ·have:=List.append_inj' heq rfl
    obtain ⟨rfl,h2⟩:=this
    cases h2
    rw [(e3 hy).2,hmin]
   ·have heq':ev++[e]=(pre++y::suf')++[z]:=by rw [heq];simp
    obtain ⟨h1,_⟩:=List.append_inj' heq' rfl
    exact h.vals pre y suf' h1 hy
  ·intro h6 y hy
   rcases List.mem_append.1 hy with hy | hy
   ·exact h.live hst y hy
   ·simp only [List.mem_singleton] at hy;subst hy
    intro hk;exact h6 (e5 hk).1
  ·intro h6
   have hk:e.kind=6:=by
    by_cases hk:e.kind=6
    ·exact hk
    ·exact absurd h6 (e6 hk)
   exact ⟨ev,e,rfl,hk,(e5 hk).2,fun y hy=>h.live hst y hy⟩
theorem XM {id:Int} {l:List AI} {o:Option AI} (h:∀ e,o=some e→e.id=id) (x:Int):(l++o.toList).filter (fun e=>decide (e.id=x))=l.filter (fun e=>decide (e.id=x))++(if id=x then o.toList else []):=by
 rw [List.filter_append]
 cases o with
 | none=>split<;>rfl
 | some e =>
  have:=h e rfl
  simp only [Option.toList_some,List.filter_cons,List.filter_nil,this,decide_eq_true_eq]
theorem gR {m:Ac} (hI:Do m) {x:AO} (hx:AF x=true) (ht:m.trace.length<512) (hT:TrI m):TrI (AQ m x).1:=by
 rcases Hf hI.inv.may hx with h | ⟨k,s,h,hs,hl,hst⟩
 ·rw [GG h];exact hT
 ·obtain ⟨E,hE,h2,h3,hm,ho,t,hL⟩:=FI hs hI
  have e1:(AQ m x).1=E.app m k s.label:=by unfold AQ;rw [h];simp only [if_true,h2]
  have hS:=BU hs hI.inv
  have htl:=eP hst hS.step hE
  have het:E.t=t:=by
   have e:=hL.sess
   rw [Cn] at e
   have e2:=congrArg (fun l:List Ae=>l[k]?) e
   simp only [List.getElem?_set_self (Ax hs),Option.some.injEq] at e2
   exact e2
  have htm:E.t∈(E.app m k s.label).sess:=by rw [Cn];exact List.mem_of_getElem? (List.getElem?_set_self (Ax hs))
  have hSt:=(sp _ _).1 (h3.inv.may.sess E.t htm)
  rw [e1]
  refine ⟨fun y hy=>?_⟩
  rw [Cn] at hy
  rw [No _ _ _ _ ht,XM (id:=s.id) (fun e he=>(htl.some e he).1)]
  have hp:=(HV m.sess none hI.inv.may.ids).2
  rcases LR hp hs hy with rfl | ⟨hy,hne⟩
  ·rw [htl.id,if_pos rfl]
   exact aY hst (hT.told s (List.mem_of_getElem? hs)) htl (by rw [het];exact hL.lab) hSt.label (by have:=List.length_filter_le (fun e:AI=>decide (e.id=s.id)) m.trace;omega)
  ·rw [if_neg (fun e=>hne (Lm hI.inv.may hy (List.mem_of_getElem? hs) e.symm)),List.append_nil]
   exact hT.told y hy
theorem qF {s:Ap} (h:De (AC s)=true):TrI (AC s):=by
 refine ⟨fun x hx=>?_⟩
 have hS:=(sp _ _).1 (((LS _).1 h).sess x hx)
 simp only [AC,List.mem_map] at hx
 obtain ⟨y,_,rfl⟩:=hx
 refine ⟨List.pairwise_singleton _ _,fun a ha=>?_,rfl,fun pre e suf he=>?_,fun _ e he=>?_,fun h=>?_⟩
 ·have:a=(AX y).label:=by simpa [AC] using ha
  rw [this];exact hS.label
 ·have:=congrArg List.length he
  simp [AC] at this
 ·simp [AC] at he
 ·simp [AX] at h
theorem Yv:∀ (l:List AO) (m:Ac),Do m→l.all AF=true→m.trace.length+l.length≤512→TrI m→TrI (BH m l).1
 | [],m,_,_,_,hF=>hF
 | x::r,m,hI,h,hn,hF=>by
  simp only [List.all_cons,Bool.and_eq_true,List.length_cons] at h hn
  obtain ⟨h1,_,h3,_,_⟩:=FY hI.inv h.1
  unfold BH
  rw [if_pos h1]
  exact Yv r _ (Ih hI h.1) h.2 (by omega) (gR hI h.1 (by omega) hF)
end Ve
