/- Values handed to callees: borrowed, or given up; answers taken in. -/
import Derived.Test.YtjgbbmcjbfpjfaaGreatVeA
import Derived.Laws.MakeOwn
set_option linter.all false
set_option linter.unusedSectionVars false
namespace Ve
open Go
def Env.bare (E:Env):Env:={ E with fps:=fun _=>[],al:=fun _=>none,U:=fun _=>False }
theorem HG {E:Env} {b:Nat} (h:b<E.w.heap.size):E.bare.NO b:=⟨h,fun _=>by simp [Env.bare]⟩
theorem Ok {w:World} {b sz len cap:Nat} {ys:List Value} (h:El w b sz len cap ys):b<w.heap.size:=by
 obtain ⟨cur,e,hh,_⟩:=h.ex
 exact (Array.getElem?_eq_some_iff.1 hh).1
theorem PD (v:V):v.bz.cells=bzs v.cells:=by cases v<;>simp [V.bz,V.cells,bzs]
theorem OV (v:V):v.fz.cells=fzs v.cells:=by cases v<;>simp [V.fz,V.cells,fzs]
theorem PC:∀ (a b:List V),bzs (a++b)=bzs a++bzs b
 | [],b=>rfl
 | v::a,b=>by simp [bzs,PC a b]
theorem OU:∀ (a b:List V),fzs (a++b)=fzs a++fzs b
 | [],b=>rfl
 | v::a,b=>by simp [fzs,OU a b]
theorem PA:∀ (els:List V),AG (bzs els)=bzs (AG els)
 | []=>rfl
 | e::els=>by
  have:=PA els
  simp only [AG] at this
  simp [AG,bzs,PD,this,PC]
theorem UB:∀ (els:List V),AG (fzs els)=fzs (AG els)
 | []=>rfl
 | e::els=>by
  have:=UB els
  simp only [AG] at this
  simp [AG,fzs,OV,this,OU]
theorem FO:∀ (els:List V),(bzs els).length=els.length
 | []=>rfl
 | e::els=>by simp [bzs,FO els]
theorem IA:∀ (els:List V),(fzs els).length=els.length
 | []=>rfl
 | e::els=>by simp [fzs,IA els]
theorem ST:∀ {els:List V} {e:V},e∈bzs els→∃ e'∈els,e=e'.bz
 | x::els,e,h=>by
  simp only [bzs,List.mem_cons] at h
  rcases h with rfl | h
  ·exact ⟨x,by simp,rfl⟩
  ·obtain ⟨e',h1,h2⟩:=ST h;exact ⟨e',by simp [h1],h2⟩
theorem Sw:∀ {els:List V} {e:V},e∈fzs els→∃ e'∈els,e=e'.fz
 | x::els,e,h=>by
  simp only [fzs,List.mem_cons] at h
  rcases h with rfl | h
  ·exact ⟨x,by simp,rfl⟩
  ·obtain ⟨e',h1,h2⟩:=Sw h;exact ⟨e',by simp [h1],h2⟩
theorem Zl (p:Bool):pm p≠.O:=by cases p<;>simp [pm]
theorem Rs.bare {E:Env} {m:Md} {vs:List V} {xs:List Value} {f:List Nat} (h:Rs E m vs xs f):m≠.O→Rs E.bare m vs xs f:=by
 induction h with
 | nil=>exact fun _=>.nil
 | lit _ ih=>exact fun x=>.lit (ih x)
 | agg _ _ ih1 ih2=>exact fun x=>.agg (ih1 x) (ih2 x)
 | tup _ _ ih1 ih2=>exact fun x=>.tup (ih1 x) (ih2 x)
 | fn _ _ _ ih1 ih2 ih3=>exact fun x=>.fn (ih1 x) (ih2 x) (ih3 x)
 | ip hF hN hm h1 hr ho _ ih1 ih2=>exact fun x=>.ip hF (fun h=>HG (hN h).1) hm (ih1 (Zl _)) hr ho (ih2 x)
 | isl0 hm hn _ ih=>exact fun x=>.isl0 hm hn (ih x)
 | isl hc hF hN hm hs h1 hr ho _ ih1 ih2=>exact fun x=>.isl hc hF (fun h=>HG (hN h).1) hm hs (ih1 (Zl _)) hr ho (ih2 x)
 | own0 hz _ ih=>exact fun x=>.own0 hz (ih x)
 | own hr hs h1 _ ih1 ih2=>exact fun x=>.own hr hs (ih1 (by simp)) (ih2 x)
 | sl | slD | ptr | ptrD | asl | aslD | dead=>exact fun x=>absurd rfl x
theorem Md.toB {m:Md} (h:m≠.O):m=.P∨(m=.B∧Md.B≠.P)∨m=.B:=by cases m<;>simp at *
theorem oX {E:Env} {m:Md} {vs:List V} {xs:List Value} {f:List Nat} (h:Rs E m vs xs f):m≠.O→Rs E.bare .B (bzs vs) xs []:=by
 induction h with
 | nil=>exact fun _=>.nil
 | lit _ ih=>exact fun x=>.lit (ih x)
 | agg _ _ ih1 ih2=>exact fun x=>by simpa [bzs,V.bz] using Rs.agg (ih1 x) (ih2 x)
 | tup _ _ ih1 ih2=>exact fun x=>by simpa [bzs,V.bz] using Rs.tup (ih1 x) (ih2 x)
 | fn h1 h2 h3 _ _ ih3=>exact fun x=>by simpa [bzs,V.bz] using Rs.fn ((h1.bare x).mode (Md.toB x)) ((h2.bare x).mode (Md.toB x)) (ih3 x)
 | ip hF hN hm h1 hr ho _ _ ih2=>exact fun x=>by simpa [bzs,V.bz] using Rs.ip (E:=E.bare) (m:=.B) hF (fun h=>HG (hN h).1) (by simp) (h1.bare (Zl _)) hr ho (ih2 x)
 | isl0 hm hn _ ih=>exact fun x=>by simpa [bzs,V.bz] using Rs.isl0 (by simp) hn (ih x)
 | isl hc hF hN hm hs h1 hr ho _ _ ih2=>exact fun x=>by simpa [bzs,V.bz] using Rs.isl (E:=E.bare) (m:=.B) hc hF (fun h=>HG (hN h).1) (by simp) hs (h1.bare (Zl _)) hr ho (ih2 x)
 | own0 hz _ ih=>exact fun x=>by simpa [bzs,V.bz] using Rs.isl0 (by simp) (by simp) (ih x)
 | @own m sz els blk cap ys fi vs xs f hr hs h1 _ ih1 ih2 =>
  intro x
  have h3:=ih1 (by simp)
  rw [← PA] at h3
  have:=Rs.isl (E:=E.bare) (m:=.B) (p:=false) (nn:=false) (els:=bzs els) (blk:=blk) (off:=0) (cap:=cap) (sz:=sz) (by rw [FO];exact hr.le) (by simp) (fun _=>HG (Ok hr)) (by simp)
   (fun e he=>by obtain ⟨e',h1,rfl⟩:=ST he;rw [PD,FO];exact hs e' h1) h3 (Cd hr) hr.one (ih2 x)
  rw [FO] at this
  simpa [bzs,V.bz] using this
 | sl | slD | ptr | ptrD | asl | aslD | dead=>exact fun x=>absurd rfl x
theorem HF {E E':Env} {m:Md} {vs:List V} {xs:List Value} {f:List Nat} (h:Rs E m vs xs f):m=.P→(hw:E'.w=E.w)→(∀ b,E.F b→E'.F b)→Rs E' .P vs xs f:=by
 induction h with
 | nil=>exact fun _ _ _=>.nil
 | lit _ ih=>exact fun x hw hF=>.lit (ih x hw hF)
 | agg _ _ ih1 ih2=>exact fun x hw hF=>.agg (ih1 x hw hF) (ih2 x hw hF)
 | tup _ _ ih1 ih2=>exact fun x hw hF=>.tup (ih1 x hw hF) (ih2 x hw hF)
 | fn _ _ _ ih1 ih2 ih3=>exact fun x hw hF=>.fn (ih1 x hw hF) (ih2 x hw hF) (ih3 x hw hF)
 | @ip m p row off blk DR ys vs xs f hF' hN hm h1 hr ho _ ih1 ih2 =>
  intro x hw hF
  have hp:=hm x
  subst hp
  exact .ip (fun h=>hF _ (hF' h)) (by simp) (by simp) (ih1 rfl hw hF) (by rw [hw];exact hr) ho (ih2 x hw hF)
 | isl0 hm hn _ ih=>exact fun x hw hF=>.isl0 (fun _=>hm x) hn (ih x hw hF)
 | @isl m p nn els blk off cap sz ys vs xs f hc hF' hN hm hs h1 hr ho _ ih1 ih2 =>
  intro x hw hF
  have hp:=hm x
  subst hp
  exact .isl hc (fun h=>hF _ (hF' h)) (by simp) (by simp) hs (ih1 rfl hw hF) (by rw [hw];exact hr) ho (ih2 x hw hF)
 | own0 hz _ ih=>exact fun x hw hF=>.own0 hz (ih x hw hF)
 | own hr hs h1 _ ih1 ih2=>exact fun x hw hF=>.own (by rw [hw];exact hr) hs (ih1 rfl hw hF) (ih2 x hw hF)
 | sl | slD | ptr | ptrD | asl | aslD | dead=>exact fun x=>by cases x
theorem a5o {E E':Env} {m:Md} {vs:List V} {xs:List Value} {f:List Nat} (h:Rs E m vs xs f):m=.P→(hw:E'.w=E.w)→(∀ b,E.F b→E'.F b)→(∀ b∈f,E'.F b)→Rs E' .P (fzs vs) xs []:=by
 induction h with
 | nil=>exact fun _ _ _ _=>.nil
 | lit _ ih=>exact fun x hw hF hf=>.lit (ih x hw hF hf)
 | agg _ _ ih1 ih2=>exact fun x hw hF hf=>by simpa [fzs,V.fz] using Rs.agg (ih1 x hw hF (fun b hb=>hf b (by simp [hb]))) (ih2 x hw hF (fun b hb=>hf b (by simp [hb])))
 | tup _ _ ih1 ih2=>exact fun x hw hF hf=>by simpa [fzs,V.fz] using Rs.tup (ih1 x hw hF (fun b hb=>hf b (by simp [hb]))) (ih2 x hw hF (fun b hb=>hf b (by simp [hb])))
 | @fn m g as zs bs ws vs xs f h1 h2 _ _ _ ih3 =>
  intro x hw hF hf
  subst x
  have e:∀ {cs zs},Rs E .P cs zs []→Rs E' .P cs zs []:=fun h=>HF h rfl hw hF
  simpa [fzs,V.fz] using Rs.fn (e h1) (e h2) (ih3 rfl hw hF hf)
 | @ip m p row off blk DR ys vs xs f hF' hN hm h1 hr ho _ _ ih2 =>
  intro x hw hF hf
  have hp:=hm x
  subst hp
  have h4:Rs E' (pm true) row ys []:=HF (by simpa [pm] using h1) rfl hw hF
  simpa [fzs,V.fz] using Rs.ip (p:=true) (fun h=>hF _ (hF' h)) (by simp) (by simp) h4 (by rw [hw];exact hr) ho (ih2 x hw hF hf)
 | isl0 hm hn _ ih=>exact fun x hw hF hf=>by simpa [fzs,V.fz] using Rs.isl0 (fun _=>hm x) hn (ih x hw hF hf)
 | @isl m p nn els blk off cap sz ys vs xs f hc hF' hN hm hs h1 hr ho _ _ ih2 =>
  intro x hw hF hf
  have hp:=hm x
  subst hp
  have h4:Rs E' (pm true) (AG els) ys []:=HF (by simpa [pm] using h1) rfl hw hF
  simpa [fzs,V.fz] using Rs.isl (p:=true) hc (fun h=>hF _ (hF' h)) (by simp) (by simp) hs h4 (by rw [hw];exact hr) ho (ih2 x hw hF hf)
 | own0 hz _ ih=>exact fun x hw hF hf=>by simpa [fzs,V.fz] using Rs.isl0 (p:=true) (by simp) (by simp) (ih x hw hF hf)
 | @own m sz els blk cap ys fi vs xs f hr hs h1 _ ih1 ih2 =>
  intro x hw hF hf
  have h3:=ih1 rfl hw hF (fun b hb=>hf b (by simp [hb]))
  rw [← UB] at h3
  have:=Rs.isl (E:=E') (m:=.P) (p:=true) (nn:=false) (els:=fzs els) (blk:=blk) (off:=0) (cap:=cap) (sz:=sz) (by rw [IA];exact hr.le) (fun _=>hf blk (by simp)) (by simp) (by simp)
   (fun e he=>by obtain ⟨e',h1,rfl⟩:=Sw he;rw [OV,IA];exact hs e' h1) h3 (by rw [hw];exact Cd hr) hr.one (ih2 x hw hF (fun b hb=>hf b (by simp [hb])))
  rw [IA] at this
  simpa [fzs,V.fz] using this
 | sl | slD | ptr | ptrD | asl | aslD | dead=>exact fun x=>by cases x
theorem AM.run_bind {α β:Type} (h:Hp) (m:AM α) (f:α→AM β):(m.bind f).run h=(m.run h).bind fun a=>(f a).run h:=by
 induction m with
 | ret a=>rfl
 | fail=>rfl
 | rdo o k ih=>simp only [AM.bind,AM.run];exact ih _
theorem AM.run_rd {α:Type} (h:Hp) (o:Nat) (k:Obj→AM α):(AM.rd o k).run h=(h o).bind fun ob=>(k ob).run h:=by
 simp only [AM.rd,AM.run]
 cases h o<;>rfl
theorem Dg {α β:Type} (f:α→AM β) (h:Hp) (v:α) (vs:List α) {out:List β} (hr:(AC f (v::vs)).run h=some out) :
  ∃ x xs,(f v).run h=some x∧(AC f vs).run h=some xs∧out=x::xs:=by
 simp only [AC,AM.run_bind] at hr
 cases h1:(f v).run h with
 | none=>simp [h1] at hr
 | some x =>
  cases h2:(AC f vs).run h with
  | none=>simp [h1,h2] at hr
  | some xs=>simp [h1,h2,AM.run] at hr;exact ⟨x,xs,rfl,rfl,hr.symm⟩
theorem DC {α β:Type} (f:α→AM β) (h:Hp):∀ (vs:List α) {out:List β},(AC f vs).run h=some out→out.length=vs.length
 | [],out,hr=>by simp [AC,AM.run] at hr;subst hr;rfl
 | v::vs,out,hr=>by
  obtain ⟨x,xs,_,h2,rfl⟩:=Dg f h v vs hr
  simp [DC f h vs h2]
def V.isAgg:V→Bool
 | .agg _=>true
 | _=>false
theorem V.cells_one {v:V} (h:v.isAgg=false):v.cells=[v]:=by cases v<;>simp [V.isAgg,V.cells] at *
theorem Oz {E:Env} {m:Md} {v:V} {x:Value} {f} (h:R1 E m v x f) (h1:x.oneCell'=true):v.isAgg=false:=by
 cases v<;>first | rfl | (obtain ⟨ys,rfl,_⟩:=GY h;simp [Value.oneCell'] at h1)
theorem Kb {E:Env} {hp:Hp} (hh:BE E hp) {o:Nat} {ob:Obj} (ho:hp o=some ob):∃ oi,E.al o=some oi∧EK E (E.fps o) ob oi:=by
 obtain ⟨oi,h1,_,h2⟩:=hh.objs o ob ho;exact ⟨oi,h1,h2⟩
theorem UL {E:Env} {fp:List Nat} {ob:Obj} {oi:OI} {b i:Nat} {el:V} (hR:EK E fp ob oi) (hb:oi.blk=some b) (hel:ob.els[i]?=some el) :
  ∃ zs g,Rs E (if ob.dirty then .O else .P) el.cells zs g∧E.w.rangeAt b (i*oi.sz) zs∧ED zs∧b<E.w.heap.size:=by
 obtain ⟨hsz,hlen,hpos,hun,hblk⟩:=hR
 rw [hb] at hblk
 obtain ⟨ys,fi,hrow,hrs,hfp⟩:=hblk
 obtain ⟨hf1,_⟩:=Gf ob.els ob.sz i el el hun hel
 have hi:i<ob.els.length:=by
  rcases Nat.lt_or_ge i ob.els.length with h | h
  ·exact h
  ·simp [List.getElem?_eq_none h] at hel
 have hfl:=Du ob.els ob.sz hun
 have hmul:i*ob.sz+ob.sz≤ob.els.length*ob.sz:=by
  have:=Nat.mul_le_mul_right ob.sz (show i+1≤ob.els.length from hi)
  rwa [Nat.add_mul,Nat.one_mul] at this
 rw [hf1] at hrs
 obtain ⟨ya,yx,yb,fa,fx,fb,rfl,rfl,ra,rx,rb⟩:=Rs.parts hrs
 have hya:ya.length=i*ob.sz:=by rw [ra.length,List.length_take,hfl];omega
 refine ⟨yx,fx,rx,?_,fun y hy=>hrow.one y (by simp [hy]),Ok hrow⟩
 have h3:=Ep (Cd hrow) ya.length
 rw [List.append_assoc,List.drop_left] at h3
 have h4:=DA h3 yx.length
 rw [List.take_left] at h4
 simpa [hya,hsz] using h4
theorem MS {h:Hp} {d:Nat} {v v':V} (hr:(AS d v).run h=some v'):v'.isAgg=v.isAgg∧v'.cells.length=v.cells.length:=by
 cases d with
 | zero=>simp [AS,AM.run] at hr
 | succ d =>
  cases v with
  | agg cs =>
   simp only [AS,AM.run_bind,Option.bind_eq_some_iff,AM.run,Option.some.injEq] at hr
   obtain ⟨cs',h1,rfl⟩:=hr
   exact ⟨rfl,by simpa [V.cells] using DC _ _ _ h1⟩
  | tup cs =>
   simp only [AS,AM.run_bind,Option.bind_eq_some_iff,AM.run,Option.some.injEq] at hr
   obtain ⟨cs',h1,rfl⟩:=hr
   exact ⟨rfl,rfl⟩
  | fn f a b =>
   simp only [AS,AM.run_bind,Option.bind_eq_some_iff,AM.run,Option.some.injEq] at hr
   obtain ⟨cs',h1,cs2,h2,rfl⟩:=hr
   exact ⟨rfl,rfl⟩
  | sl o =>
   simp only [AS,AM.run_rd,Option.bind_eq_some_iff] at hr
   obtain ⟨ob,_,hr⟩:=hr
   split at hr
   ·simp only [AM.run_bind,Option.bind_eq_some_iff,AM.run,Option.some.injEq] at hr
    obtain ⟨_,_,rfl⟩:=hr;exact ⟨rfl,rfl⟩
   ·simp [AM.run] at hr;subst hr;exact ⟨rfl,rfl⟩
  | asl o i off n =>
   simp only [AS,AM.run_rd,Option.bind_eq_some_iff] at hr
   obtain ⟨ob,_,hr⟩:=hr
   split at hr
   ·split at hr
    ·simp only [AM.run_bind,Option.bind_eq_some_iff,AM.run,Option.some.injEq] at hr
     obtain ⟨_,_,rfl⟩:=hr;exact ⟨rfl,rfl⟩
    ·simp [AM.run] at hr
   ·simp [AM.run] at hr
  | ptr o i off =>
   simp only [AS,AM.run_rd,Option.bind_eq_some_iff] at hr
   obtain ⟨ob,_,hr⟩:=hr
   split at hr
   ·simp only [AM.run_bind,Option.bind_eq_some_iff,AM.run,Option.some.injEq] at hr
    obtain ⟨_,_,rfl⟩:=hr;exact ⟨rfl,rfl⟩
   ·simp [AM.run] at hr
  | dead=>simp [AS,AM.run] at hr
  | lit=>simp [AS,AM.run] at hr;subst hr;exact ⟨rfl,rfl⟩
  | isl=>simp [AS,AM.run] at hr;subst hr;exact ⟨rfl,rfl⟩
  | ip=>simp [AS,AM.run] at hr;subst hr;exact ⟨rfl,rfl⟩
  | own=>simp [AS,AM.run] at hr;subst hr;exact ⟨rfl,rfl⟩
theorem MK {α β:Type} (f:α→AM β) (h:Hp):∀ (vs:List α) {out:List β},(AC f vs).run h=some out→∀ {y:β},y∈out→∃ v∈vs,(f v).run h=some y
 | [],out,hr,y,hy=>by simp [AC,AM.run] at hr;subst hr;simp at hy
 | v::vs,out,hr,y,hy=>by
  obtain ⟨x,xs,h1,h2,rfl⟩:=Dg f h v vs hr
  rcases List.mem_cons.1 hy with rfl | hy
  ·exact ⟨v,by simp,h1⟩
  ·obtain ⟨u,h3,h4⟩:=MK f h vs h2 hy;exact ⟨u,by simp [h3],h4⟩
def GZ (E:Env) (hp:Hp) (d:Nat):Prop:=∀ (v v':V) (x:Value) (f:List Nat),(AS d v).run hp=some v'→R1 E .O v x f→R1 E.bare .B v' x []
theorem GZ.list {E:Env} {hp:Hp} {d:Nat} (h:GZ E hp d):∀ {vs vs':List V} {xs:List Value} {f:List Nat},(AC (AS d) vs).run hp=some vs'→Rs E .O vs xs f→Rs E.bare .B vs' xs []
 | [],vs',xs,f,hr,hs=>by
  simp [AC,AM.run] at hr;subst hr
  obtain ⟨rfl,_⟩:=hs.nil_inv;exact .nil
 | v::vs,vs',xs,f,hr,hs=>by
  obtain ⟨y,ys,h1,h2,rfl⟩:=Dg _ _ _ _ hr
  obtain ⟨x,xs,f1,f2,rfl,rfl,r1,r2⟩:=hs.uncons
  have:=(h _ _ _ _ h1 r1).cons' (GZ.list h h2 r2)
  simpa using this
theorem GZ.rows {E:Env} {hp:Hp} {d:Nat} (h1:GZ E hp (d+1)) (h0:GZ E hp d):∀ {vs vs':List V} {xs:List Value} {f:List Nat},(AC (AS (d+1)) vs).run hp=some vs' →
  Rs E .O (AG vs) xs f→Rs E.bare .B (AG vs') xs []
 | [],vs',xs,f,hr,hs=>by
  simp [AC,AM.run] at hr;subst hr
  obtain ⟨rfl,_⟩:=Rs.nil_inv (by simpa [AG] using hs);exact .nil
 | v::vs,vs',xs,f,hr,hs=>by
  obtain ⟨y,ys,hv,hvs,rfl⟩:=Dg _ _ _ _ hr
  have e:AG (v::vs)=v.cells++AG vs:=by simp [AG]
  have e':AG (y::ys)=y.cells++AG ys:=by simp [AG]
  rw [e] at hs;rw [e']
  obtain ⟨x1,x2,f1,f2,rfl,rfl,r1,r2⟩:=Rs.unappend hs
  have ih:=GZ.rows h1 h0 hvs r2
  have hy:Rs E.bare .B y.cells x1 []:=by
   cases hva:v.isAgg with
   | true =>
    cases v<;>simp [V.isAgg] at hva
    rename_i cs
    simp only [AS,AM.run_bind,Option.bind_eq_some_iff,AM.run,Option.some.injEq] at hv
    obtain ⟨cs',hc,rfl⟩:=hv
    exact h0.list hc r1
   | false =>
    rw [V.cells_one hva] at r1
    obtain ⟨hs1,_⟩:=MS hv
    rw [V.cells_one (hs1.trans hva)]
    obtain ⟨x,xs,g1,g2,rfl,rfl,q1,q2⟩:=r1.uncons
    obtain ⟨rfl,rfl⟩:=q2.nil_inv
    exact h1 _ _ _ _ hv q1
  have:=hy.append ih
  simpa using this
theorem Lg {E:Env} {hp:Hp} (hh:BE E hp):∀ d,GZ E hp d
 | 0=>fun _ _ _ _ hr=>by simp [AS,AM.run] at hr
 | d+1=>by
  have h0:=Lg hh d
  intro v v' x f hr hs
  have closed:v.nr=true→f=[]→v'=v→R1 E.bare .B v' x []:=by
   intro hn hf he
   subst he;subst hf
   have h1:Rs E .B [v'] [x] []:=hs.nrB (by simp [nrs,hn])
   exact h1.bare (by simp)
  cases v with
  | agg cs =>
   simp only [AS,AM.run_bind,Option.bind_eq_some_iff,AM.run,Option.some.injEq] at hr
   obtain ⟨cs',h1,rfl⟩:=hr
   obtain ⟨ys,rfl,hr2⟩:=GY hs
   simpa using Rs.agg (h0.list h1 hr2) .nil
  | tup cs =>
   simp only [AS,AM.run_bind,Option.bind_eq_some_iff,AM.run,Option.some.injEq] at hr
   obtain ⟨cs',h1,rfl⟩:=hr
   obtain ⟨ys,rfl,hr2⟩:=NA hs
   simpa using Rs.tup (h0.list h1 hr2) .nil
  | fn g a b =>
   simp only [AS,AM.run_bind,Option.bind_eq_some_iff,AM.run,Option.some.injEq] at hr
   obtain ⟨as',h1,bs',h2,rfl⟩:=hr
   obtain ⟨as,bs,rfl,r1,r2,_⟩:=Sx hs
   exact Rs.fn (h0.list h1 r1) (h0.list h2 r2) .nil
  | dead=>simp [AS,AM.run] at hr
  | lit u=>simp [AS,AM.run] at hr;exact closed rfl (BX hs).2 hr.symm
  | isl p nn sz els =>
   simp [AS,AM.run] at hr
   refine closed rfl ?_ hr.symm
   cases hs with
   | isl0 _ _ h=>exact h.nil_inv.2
   | isl _ _ _ _ _ _ _ _ h=>exact h.nil_inv.2
  | ip p row off =>
   simp [AS,AM.run] at hr
   refine closed rfl ?_ hr.symm
   cases hs with
   | ip _ _ _ _ _ _ h=>exact h.nil_inv.2
  | own sz els =>
   simp [AS,AM.run] at hr;subst hr
   have h1:Rs E .P [.own sz els] [x] f:=hs.permP (by simp [AD,V.perm])
   simpa [bzs,V.bz] using oX h1 (by simp)
  | sl o =>
   simp only [AS,AM.run_rd,Option.bind_eq_some_iff] at hr
   obtain ⟨ob,hob,hr⟩:=hr
   obtain ⟨oi,hal,hR⟩:=Kb hh hob
   cases hs with
   | slD h1 _ _=>rw [hal] at h1;cases h1
   | sl h1 hn =>
    rw [hal] at h1;cases h1
    obtain ⟨hsz,hlen,hpos,hun,hblk⟩:=hR
    have fin:∀ els',(∀ ys fi b,oi.blk=some b→Rs E (if ob.dirty then .O else .P) (AG ob.els) ys fi→Rs E.bare .B (AG els') ys [])→els'.length=ob.els.length→(∀ e∈els',e.cells.length=ob.sz) →
      R1 E.bare .B (.isl false false ob.sz els') oi.slice []:=by
     intro els' hfl hl hu
     cases hbk:oi.blk with
     | none =>
      rw [hbk] at hblk
      have:els'=[]:=List.eq_nil_of_length_eq_zero (by rw [hl,hblk.1];rfl)
      subst this
      simp only [OI.slice,hbk]
      exact .isl0 (by simp) (by simp) .nil
     | some b =>
      rw [hbk] at hblk
      obtain ⟨ys,fi,hrow,hrs,hfp⟩:=hblk
      have:=Rs.isl (E:=E.bare) (m:=.B) (p:=false) (nn:=false) (els:=els') (blk:=b) (off:=0) (cap:=oi.cap) (sz:=ob.sz) (by rw [hl];exact hrow.le) (by simp) (fun _=>HG (Ok hrow)) (by simp) hu
       (hfl ys fi b hbk hrs) (Cd hrow) hrow.one Rs.nil
      simp only [OI.slice,hbk,hlen]
      rw [hl] at this;exact this
    split at hr
    ·rename_i hd
     simp only [AM.run_bind,Option.bind_eq_some_iff,AM.run,Option.some.injEq] at hr
     obtain ⟨els',h1,rfl⟩:=hr
     refine fin els' (fun ys fi b _ hrs=>?_) (DC _ _ _ h1) ?_
     ·rw [hd] at hrs
      cases d with
      | zero =>
       cases hoe:ob.els with
       | nil=>rw [hoe] at h1 hrs;simp [AC,AM.run] at h1;subst h1;obtain ⟨rfl,_⟩:=Rs.nil_inv (by simpa [AG] using hrs);exact .nil
       | cons e r=>rw [hoe] at h1;obtain ⟨_,_,h2,_⟩:=Dg _ _ _ _ h1;simp [AS,AM.run] at h2
      | succ d=>exact GZ.rows h0 (Lg hh d) h1 hrs
     ·intro e he;obtain ⟨e',h2,h3⟩:=MK _ _ _ h1 he;rw [(MS h3).2];exact hun e' h2
    ·rename_i hd
     simp [AM.run] at hr;subst hr
     refine fin (bzs ob.els) (fun ys fi b _ hrs=>?_) (FO _) (fun e he=>?_)
     ·simp only [Bool.not_eq_true] at hd
      rw [hd] at hrs
      rw [PA];exact oX hrs (by simp)
     ·obtain ⟨e',h1,rfl⟩:=ST he;rw [PD,FO];exact hun e' h1
  | asl o i off n =>
   simp only [AS,AM.run_rd,Option.bind_eq_some_iff] at hr
   obtain ⟨ob,hob,hr⟩:=hr
   obtain ⟨oi,hal,hR⟩:=Kb hh hob
   split at hr
   ·rename_i el hel
    split at hr
    ·rename_i hle
     simp only [AM.run_bind,Option.bind_eq_some_iff,AM.run,Option.some.injEq] at hr
     obtain ⟨row,h1,rfl⟩:=hr
     cases hs with
     | aslD h1 _ _=>rw [hal] at h1;cases h1
     | asl h2 hb hn =>
      rw [hal] at h2;cases h2
      obtain ⟨zs,g,hz,hrange,hone,hlt⟩:=UL hR hb hel
      have hsub:∃ g',Rs E .O ((el.cells.drop off).take n) ((zs.drop off).take n) g':=by
       have e:el.cells=el.cells.take off++((el.cells.drop off).take n++(el.cells.drop off).drop n):=by rw [List.take_append_drop,List.take_append_drop]
       have hz':=hz.toO
       rw [e] at hz'
       obtain ⟨z1,z2,g1,g2,rfl,rfl,r1,r2⟩:=Rs.unappend hz'
       obtain ⟨z3,z4,g3,g4,rfl,rfl,r3,r4⟩:=Rs.unappend r2
       have l1:z1.length=off:=by rw [r1.length,List.length_take];omega
       have l3:z3.length=n:=by rw [r3.length,List.length_take,List.length_drop];omega
       have e2:((z1++(z3++z4)).drop off).take n=z3:=by rw [← l1,List.drop_left,← l3,List.take_left]
       rw [e2];exact ⟨g3,r3⟩
      obtain ⟨g',hsub⟩:=hsub
      have hone':ED ((zs.drop off).take n):=(hone.drop off).take n
      have hrow:=h0.list h1 hsub
      have hlen:row.length=n:=by rw [DC _ _ _ h1,List.length_take,List.length_drop];omega
      have hcell:∀ e∈row,e.isAgg=false:=by
       intro e he
       obtain ⟨j,hj⟩:=List.mem_iff_getElem?.1 he
       obtain ⟨x',g'',hx',hr',_⟩:=hrow.get hj
       exact Oz hr' (hone' x' (List.mem_of_getElem? hx'))
      have hflat:AG row=row:=by
       have:∀ (l:List V),(∀ e∈l,e.isAgg=false)→AG l=l:=by
        intro l hl;induction l with
        | nil=>rfl
        | cons v l ih =>
         have:=ih (fun e he=>hl e (by simp [he]))
         simp only [AG] at this
         simp [AG,V.cells_one (hl v (by simp)),this]
       exact this row hcell
      have:=Rs.isl (E:=E.bare) (m:=.B) (p:=false) (nn:=true) (els:=row) (cap:=n) (sz:=1) (by omega) (by simp) (fun _=>HG hlt) (by simp)
       (fun e he=>by rw [V.cells_one (hcell e he)];rfl) (by rw [hflat];exact hrow) (DA (Ep hrange off) n) hone' Rs.nil
      rw [hlen] at this;exact this
    ·simp [AM.run] at hr
   ·simp [AM.run] at hr
  | ptr o i off =>
   simp only [AS,AM.run_rd,Option.bind_eq_some_iff] at hr
   obtain ⟨ob,hob,hr⟩:=hr
   obtain ⟨oi,hal,hR⟩:=Kb hh hob
   split at hr
   ·rename_i el hel
    simp only [AM.run_bind,Option.bind_eq_some_iff,AM.run,Option.some.injEq] at hr
    obtain ⟨row,h1,rfl⟩:=hr
    cases hs with
    | ptrD h1 _ _=>rw [hal] at h1;cases h1
    | ptr h2 hb hn =>
     rw [hal] at h2;cases h2
     obtain ⟨zs,g,hz,hrange,hone,hlt⟩:=UL hR hb hel
     exact .ip (by simp) (fun _=>HG hlt) (by simp) (h0.list h1 hz.toO) hrange hone .nil
   ·simp [AM.run] at hr
end Ve
namespace Ve
open Go
theorem Mk {E:Env} {vs:List V} {xs:List Value} {f:List Nat} {m:Md} (h:Rs E m vs xs f) (thr:Nat):m=.O→Rs E .O (AU thr vs) xs f:=by
 induction h with
 | nil=>exact fun _=>.nil
 | lit _ ih=>exact fun x=>.lit (ih x)
 | agg _ _ ih1 ih2=>exact fun x=>by simpa [AU,V.scrub] using Rs.agg (ih1 x) (ih2 x)
 | tup _ _ ih1 ih2=>exact fun x=>by simpa [AU,V.scrub] using Rs.tup (ih1 x) (ih2 x)
 | fn _ _ _ ih1 ih2 ih3=>exact fun x=>by simpa [AU,V.scrub] using Rs.fn (ih1 x) (ih2 x) (ih3 x)
 | ip hF hN hm h1 hr ho _ _ ih2=>exact fun x=>by subst x;simpa [AU,V.scrub] using Rs.ip hF hN hm h1 hr ho (ih2 rfl)
 | isl0 hm hn _ ih=>exact fun x=>by subst x;simpa [AU,V.scrub] using Rs.isl0 hm hn (ih rfl)
 | isl hc hF hN hm hs h1 hr ho _ _ ih2=>exact fun x=>by subst x;simpa [AU,V.scrub] using Rs.isl hc hF hN hm hs h1 hr ho (ih2 rfl)
 | own0 hz _ ih=>exact fun x=>by simpa [AU,V.scrub] using Rs.own0 hz (ih x)
 | own hr hs h1 _ _ ih2=>exact fun x=>by simpa [AU,V.scrub] using Rs.own hr hs h1 (ih2 x)
 | sl ha _ ih=>exact fun x=>by simp only [AU,V.scrub];split;exact .sl ha (ih x);exact .dead (ih x)
 | slD ha hu _ ih=>exact fun x=>by simp only [AU,V.scrub];split;exact .slD ha hu (ih x);exact .dead (ih x)
 | ptr ha hb _ ih=>exact fun x=>by simp only [AU,V.scrub];split;exact .ptr ha hb (ih x);exact .dead (ih x)
 | ptrD ha hu _ ih=>exact fun x=>by simp only [AU,V.scrub];split;exact .ptrD ha hu (ih x);exact .dead (ih x)
 | asl ha hb _ ih=>exact fun x=>by simp only [AU,V.scrub];split;exact .asl ha hb (ih x);exact .dead (ih x)
 | aslD ha hu _ ih=>exact fun x=>by simp only [AU,V.scrub];split;exact .aslD ha hu (ih x);exact .dead (ih x)
 | dead _ ih=>exact fun x=>.dead (ih x)
theorem JF {h:Hp} {thr d:Nat} {v:V} {r:V × List Nat} (hr:(AK thr d v).run h=some r):r.1.isAgg=v.isAgg∧r.1.cells.length=v.cells.length:=by
 cases d with
 | zero=>simp [AK,AM.run] at hr
 | succ d =>
  cases v with
  | agg cs =>
   simp only [AK,AM.run_bind,Option.bind_eq_some_iff,AM.run,Option.some.injEq] at hr
   obtain ⟨cs',h1,rfl⟩:=hr
   exact ⟨rfl,by simpa [V.cells] using DC _ _ _ h1⟩
  | tup cs =>
   simp only [AK,AM.run_bind,Option.bind_eq_some_iff,AM.run,Option.some.injEq] at hr
   obtain ⟨cs',h1,rfl⟩:=hr
   exact ⟨rfl,rfl⟩
  | fn f a b=>simp only [AK] at hr;repeat' split at hr
              all_goals (simp [AM.run] at hr;subst hr;exact ⟨rfl,rfl⟩)
  | sl o =>
   simp only [AK] at hr
   split at hr
   ·simp [AM.run] at hr;subst hr;exact ⟨rfl,rfl⟩
   ·simp only [AM.run] at hr
    split at hr
    ·simp [AM.run] at hr;subst hr;exact ⟨rfl,rfl⟩
    ·split at hr
     ·simp only [AM.run_bind,Option.bind_eq_some_iff] at hr
      obtain ⟨_,_,hr⟩:=hr
      split at hr
      ·simp [AM.run] at hr;subst hr;exact ⟨rfl,rfl⟩
      ·simp [AM.run] at hr
     ·simp [AM.run] at hr;subst hr;exact ⟨rfl,rfl⟩
  | ptr o i off=>simp only [AK] at hr;split at hr<;>(simp [AM.run] at hr;subst hr;exact ⟨rfl,rfl⟩)
  | asl o i off n=>simp only [AK] at hr;split at hr<;>(simp [AM.run] at hr;subst hr;exact ⟨rfl,rfl⟩)
  | dead=>simp [AK,AM.run] at hr;subst hr;exact ⟨rfl,rfl⟩
  | lit=>simp [AK,AM.run] at hr;subst hr;exact ⟨rfl,rfl⟩
  | isl=>simp [AK,AM.run] at hr;subst hr;exact ⟨rfl,rfl⟩
  | ip=>simp [AK,AM.run] at hr;subst hr;exact ⟨rfl,rfl⟩
  | own=>simp [AK,AM.run] at hr;subst hr;exact ⟨rfl,rfl⟩
def Ha (E:Env) (hp:Hp) (thr d:Nat):Prop:=∀ (v:V) (r:V × List Nat) (x:Value) (f:List Nat),(AK thr d v).run hp=some r→R1 E .O v x f →
 ∃ g,R1 E .O r.1 x g∧g.Perm (f++r.2.flatMap E.fps)
theorem Ha.list {E:Env} {hp:Hp} {thr d:Nat} (h:Ha E hp thr d):∀ {vs:List V} {rs:List (V × List Nat)} {xs:List Value} {f:List Nat},(AC (AK thr d) vs).run hp=some rs→Rs E .O vs xs f →
  ∃ g,Rs E .O (rs.map (·.1)) xs g∧g.Perm (f++((rs.map (·.2)).flatten).flatMap E.fps)
 | [],rs,xs,f,hr,hs=>by
  simp [AC,AM.run] at hr;subst hr
  obtain ⟨rfl,rfl⟩:=hs.nil_inv;exact ⟨[],.nil,by simp⟩
 | v::vs,rs,xs,f,hr,hs=>by
  obtain ⟨y,ys,h1,h2,rfl⟩:=Dg _ _ _ _ hr
  obtain ⟨x,xs,f1,f2,rfl,rfl,r1,r2⟩:=hs.uncons
  obtain ⟨g1,a1,p1⟩:=h _ _ _ _ h1 r1
  obtain ⟨g2,a2,p2⟩:=Ha.list h h2 r2
  refine ⟨g1++g2,a1.cons' a2,?_⟩
  simp only [List.map_cons,List.flatten_cons,List.flatMap_append]
  refine (p1.append p2).trans ?_
  simp only [List.append_assoc]
  refine List.Perm.append_left f1 ?_
  rw [← List.append_assoc,← List.append_assoc]
  exact List.Perm.append_right _ List.perm_append_comm
theorem Ha.rows {E:Env} {hp:Hp} {thr d:Nat} (h1:Ha E hp thr (d+1)) (h0:Ha E hp thr d):∀ {vs:List V} {rs:List (V × List Nat)} {xs:List Value} {f:List Nat},
  (AC (AK thr (d+1)) vs).run hp=some rs→Rs E .O (AG vs) xs f→∃ g,Rs E .O (AG (rs.map (·.1))) xs g∧g.Perm (f++((rs.map (·.2)).flatten).flatMap E.fps)
 | [],rs,xs,f,hr,hs=>by
  simp [AC,AM.run] at hr;subst hr
  obtain ⟨rfl,rfl⟩:=Rs.nil_inv (by simpa [AG] using hs);exact ⟨[],.nil,by simp⟩
 | v::vs,rs,xs,f,hr,hs=>by
  obtain ⟨y,ys,hv,hvs,rfl⟩:=Dg _ _ _ _ hr
  have e:AG (v::vs)=v.cells++AG vs:=by simp [AG]
  have e':AG ((y::ys).map (·.1))=y.1.cells++AG (ys.map (·.1)):=by simp [AG]
  rw [e] at hs;rw [e']
  obtain ⟨x1,x2,f1,f2,rfl,rfl,r1,r2⟩:=Rs.unappend hs
  obtain ⟨g2,a2,p2⟩:=Ha.rows h1 h0 hvs r2
  have hy:∃ g1,Rs E .O y.1.cells x1 g1∧g1.Perm (f1++y.2.flatMap E.fps):=by
   cases hva:v.isAgg with
   | true =>
    cases v<;>simp [V.isAgg] at hva
    rename_i cs
    simp only [AK,AM.run_bind,Option.bind_eq_some_iff,AM.run,Option.some.injEq] at hv
    obtain ⟨cs',hc,rfl⟩:=hv
    exact h0.list hc r1
   | false =>
    rw [V.cells_one hva] at r1
    obtain ⟨hs1,_⟩:=JF hv
    rw [V.cells_one (hs1.trans hva)]
    obtain ⟨x,xs,g1,g2,rfl,rfl,q1,q2⟩:=r1.uncons
    obtain ⟨rfl,rfl⟩:=q2.nil_inv
    simpa using h1 _ _ _ _ hv q1
  obtain ⟨g1,a1,p1⟩:=hy
  refine ⟨g1++g2,a1.append a2,?_⟩
  simp only [List.map_cons,List.flatten_cons,List.flatMap_append]
  refine (p1.append p2).trans ?_
  simp only [List.append_assoc]
  refine List.Perm.append_left f1 ?_
  rw [← List.append_assoc,← List.append_assoc]
  exact List.Perm.append_right _ List.perm_append_comm
theorem Ih {E:Env} {hp:Hp} (hh:BE E hp):∀ (d thr:Nat),Ha E hp thr d
 | 0,thr=>fun _ _ _ _ hr=>by simp [AK,AM.run] at hr
 | d+1,thr=>by
  have h0:=Ih hh d
  intro v r x f hr hs
  have same:r=(v,[])→∃ g,R1 E .O r.1 x g∧g.Perm (f++r.2.flatMap E.fps):=fun h=>by subst h;exact ⟨f,hs,by simp⟩
  have gone:f=[]→r=(.dead,[])→∃ g,R1 E .O r.1 x g∧g.Perm (f++r.2.flatMap E.fps):=fun h h'=>by subst h;subst h';exact ⟨[],.dead .nil,by simp⟩
  cases v with
  | agg cs =>
   simp only [AK,AM.run_bind,Option.bind_eq_some_iff,AM.run,Option.some.injEq] at hr
   obtain ⟨cs',h1,rfl⟩:=hr
   obtain ⟨ys,rfl,hr2⟩:=GY hs
   obtain ⟨g,a1,p1⟩:=(h0 thr).list h1 hr2
   exact ⟨g,by simpa using Rs.agg a1 .nil,p1⟩
  | tup cs =>
   simp only [AK,AM.run_bind,Option.bind_eq_some_iff,AM.run,Option.some.injEq] at hr
   obtain ⟨cs',h1,rfl⟩:=hr
   obtain ⟨ys,rfl,hr2⟩:=NA hs
   obtain ⟨g,a1,p1⟩:=(h0 thr).list h1 hr2
   exact ⟨g,by simpa using Rs.tup a1 .nil,p1⟩
  | fn g a b =>
   obtain ⟨as,bs,rfl,r1,r2,hf⟩:=Sx hs
   simp only [AK] at hr
   split at hr
   ·split at hr
    ·simp [AM.run] at hr;exact same hr.symm
    ·simp [AM.run] at hr;exact gone hf hr.symm
   ·simp [AM.run] at hr;subst hr
    exact ⟨[],.fn (Mk r1 thr rfl) (Mk r2 thr rfl) .nil,by simp [hf]⟩
  | dead=>simp [AK,AM.run] at hr;exact same hr.symm
  | lit u=>simp [AK,AM.run] at hr;exact same hr.symm
  | isl p nn sz els=>simp [AK,AM.run] at hr;exact same hr.symm
  | ip p row off=>simp [AK,AM.run] at hr;exact same hr.symm
  | own sz els=>simp [AK,AM.run] at hr;exact same hr.symm
  | ptr o i off =>
   have hf:f=[]:=by cases hs with | ptr _ _ h=>exact h.nil_inv.2 | ptrD _ _ h=>exact h.nil_inv.2
   simp only [AK] at hr
   split at hr
   ·simp [AM.run] at hr;exact same hr.symm
   ·simp [AM.run] at hr;exact gone hf hr.symm
  | asl o i off n =>
   have hf:f=[]:=by cases hs with | asl _ _ h=>exact h.nil_inv.2 | aslD _ _ h=>exact h.nil_inv.2
   simp only [AK] at hr
   split at hr
   ·simp [AM.run] at hr;exact same hr.symm
   ·simp [AM.run] at hr;exact gone hf hr.symm
  | sl o =>
   have hf:f=[]:=by cases hs with | sl _ h=>exact h.nil_inv.2 | slD _ _ h=>exact h.nil_inv.2
   simp only [AK] at hr
   split at hr
   ·simp [AM.run] at hr;exact same hr.symm
   ·simp only [AM.run] at hr
    split at hr
    ·simp [AM.run] at hr;exact gone hf hr.symm
    ·rename_i ob hob
     obtain ⟨oi,hal,hR⟩:=Kb hh hob
     cases hs with
     | slD h1 _ _=>rw [hal] at h1;cases h1
     | sl h1 hn =>
      rw [hal] at h1;cases h1
      obtain ⟨hsz,hlen,hpos,hun,hblk⟩:=hR
      split at hr
      ·rename_i hd
       simp only [AM.run_bind,Option.bind_eq_some_iff] at hr
       obtain ⟨rs,h1,hr⟩:=hr
       split at hr
       ·rename_i hperm
        simp [AM.run] at hr;subst hr
        have hl:(rs.map (·.1)).length=ob.els.length:=by simpa using DC _ _ _ h1
        have hu:∀ e∈rs.map (·.1),e.cells.length=ob.sz:=by
         intro e he
         obtain ⟨r',hr',rfl⟩:=List.mem_map.1 he
         obtain ⟨e',h2,h3⟩:=MK _ _ _ h1 hr'
         rw [(JF h3).2];exact hun e' h2
        cases hbk:oi.blk with
        | none =>
         rw [hbk] at hblk
         rw [hblk.1] at h1
         simp [AC,AM.run] at h1;subst h1
         refine ⟨[],?_,by simp [hf,hblk.2]⟩
         simp only [OI.slice,hbk,List.map_nil]
         exact .own0 hpos .nil
        | some b =>
         rw [hbk] at hblk
         obtain ⟨ys,fi,hrow,hrs,hfp⟩:=hblk
         rw [hd] at hrs
         have hrows:∃ g,Rs E .O (AG (rs.map (·.1))) ys g∧g.Perm (fi++((rs.map (·.2)).flatten).flatMap E.fps):=by
          cases d with
          | zero =>
           cases hoe:ob.els with
           | nil=>rw [hoe] at h1 hrs;simp [AC,AM.run] at h1;subst h1;obtain ⟨rfl,rfl⟩:=Rs.nil_inv (by simpa [AG] using hrs);exact ⟨[],.nil,by simp⟩
           | cons e r=>rw [hoe] at h1;obtain ⟨_,_,h2,_⟩:=Dg _ _ _ _ h1;simp [AK,AM.run] at h2
          | succ d=>exact Ha.rows (h0 0) (Ih hh d 0) h1 (by simpa using hrs)
         obtain ⟨g,a1,p1⟩:=hrows
         have hpf:AD (AG (rs.map (·.1)))=true:=by
          have:∀ (l:List V),AD l=true→AD (AG l)=true:=by
           intro l hl;induction l with
           | nil=>rfl
           | cons v l ih =>
            simp [AD] at hl
            have happ:∀ (a b:List V),AD (a++b)=(AD a&&AD b):=by
             intro a b;induction a with
             | nil=>simp [AD]
             | cons u a iha=>simp [AD,iha,Bool.and_assoc]
            have:=ih hl.2
            simp only [AG] at this
            simp [AG,happ,Hk,hl.1,this]
          exact this _ hperm
         refine ⟨b::g,?_,?_⟩
         ·have:=Rs.own (E:=E) (m:=.O) (by rw [hl];exact hrow) hu (a1.permP hpf) Rs.nil
          simp only [OI.slice,hbk,hlen]
          rw [hl] at this;simpa using this
         ·simp only [hf,List.nil_append,List.flatMap_cons,hfp,List.cons_append]
          exact List.Perm.cons b p1
       ·simp [AM.run] at hr
      ·rename_i hd
       simp [AM.run] at hr;subst hr
       simp only [Bool.not_eq_true] at hd
       cases hbk:oi.blk with
       | none =>
        rw [hbk] at hblk
        refine ⟨[],?_,by simp [hf,hblk.2]⟩
        simp only [OI.slice,hbk,hblk.1]
        exact .own0 hpos .nil
       | some b =>
        rw [hbk] at hblk
        obtain ⟨ys,fi,hrow,hrs,hfp⟩:=hblk
        rw [hd] at hrs
        refine ⟨b::fi,?_,by simp [hf,hfp]⟩
        have:=Rs.own (E:=E) (m:=.O) hrow hun hrs Rs.nil
        simp only [OI.slice,hbk,hlen]
        simpa using this
end Ve
namespace Ve
open Go
theorem Iu:∀ (a b:List V),AD (a++b)=(AD a&&AD b)
 | [],b=>by simp [AD]
 | v::a,b=>by simp [AD,Iu a b,Bool.and_assoc]
theorem Jo:∀ (a b:List V),BA (a++b)=(BA a&&BA b)
 | [],b=>by simp [BA]
 | v::a,b=>by simp [BA,Jo a b,Bool.and_assoc]
theorem kC {E:Env} {hp:Hp} (hh:BE E hp) {w':World} (hw:BU E.w w') {b sz cap nid:Nat} {els:List V} {ys:List Value} {d:Bool} (hb:E.w.heap.size≤b) (hb':b<w'.heap.size)
  (hrow:El w' b sz els.length cap ys) (hun:∀ e∈els,e.cells.length=sz) (hrs:Rs E .O (AG els) ys []) (hd:d=false→AD (AG els)=true) (hU:¬ E.U nid) :
  ∃ E',E'.w=w'∧Nx E E'∧BE E' (Fj hp nid (some ⟨sz,els,d⟩))∧R1 E' .O (.sl nid) (.slice (some ⟨b,0,none⟩) els.length cap) []∧(∀ i,E'.U i↔E.U i∨(nid≤i∧i<nid+1)):=by
 have hfp:∀ c∈[b],E.w.heap.size≤c∧c<w'.heap.size:=by intro c hc;simp at hc;subst hc;exact ⟨hb,hb'⟩
 have hx:=Ext.born hh hw hU ⟨some b,sz,els.length,cap,none⟩ hfp (by simp) (f:=[]) (by simp)
 have h2:=hrs.ext hx
 have hob:EK (E.born w' nid ⟨some b,sz,els.length,cap,none⟩ [b]) [b] ⟨sz,els,d⟩ ⟨some b,sz,els.length,cap,none⟩:=by
  refine ⟨rfl,rfl,hrow.pos,hun,ys,[],hrow,?_,rfl⟩
  cases d with
  | true=>simpa using h2
  | false=>simpa using h2.permP (hd rfl)
 obtain ⟨h3,h4⟩:=hh.born hw hU _ hfp (by simp) hob
 refine ⟨_,rfl,h4,h3,?_,fun i=>?_⟩
 ·have:=Rs.sl (E:=E.born w' nid ⟨some b,sz,els.length,cap,none⟩ [b]) (o:=nid) (oi:=⟨some b,sz,els.length,cap,none⟩) (Bv _ _ _) Rs.nil (f:=[])
  simpa [OI.slice] using this
 ·simp only [Env.born];constructor
  ·rintro (h | h);exact .inl h;exact .inr (by omega)
  ·rintro (h | h);exact .inl h;exact .inr (by omega)
theorem Mn (l:List Value):∀ n,((List.range (n*l.length)).map fun i=>l[i % l.length]!)=(List.replicate n l).flatten
 | 0=>by simp
 | n+1=>by
  rw [Nat.add_mul,Nat.one_mul,List.range_add,List.map_append,Mn l n,List.replicate_succ',List.flatten_append]
  congr 1
  simp only [List.map_map,List.flatten_cons,List.flatten_nil,List.append_nil]
  apply List.ext_getElem
  ·simp
  ·intro i h1 h2
   simp only [List.getElem_map,List.getElem_range,Function.comp_apply]
   have:(n*l.length+i) % l.length=i:=by
    rw [Nat.mul_comm,Nat.mul_add_mod];exact Nat.mod_eq_of_lt h2
   rw [this];simp [h2]
theorem Rs.replicate {E:Env} {m:Md} {cs:List V} {ys:List Value} (h:Rs E m cs ys []):∀ n,Rs E m (List.replicate n cs).flatten (List.replicate n ys).flatten []
 | 0=>by simpa using Rs.nil
 | n+1=>by simpa [List.replicate_succ] using h.append (Rs.replicate h n)
theorem LR {sz:Nat} {agg:Bool} (h1:agg=false→sz=1):∀ (n:Nat) (cs:List V),cs.length=n*sz→BA cs=true→AG (Fu sz agg n cs)=cs∧(∀ e∈Fu sz agg n cs,e.cells.length=sz)∧(Fu sz agg n cs).length=n
 | 0,cs,hl,_=>by
  have:cs=[]:=List.eq_nil_of_length_eq_zero (by simpa using hl)
  subst this;exact ⟨rfl,by simp [Fu],rfl⟩
 | n+1,cs,hl,ho=>by
  rw [Nat.add_mul,Nat.one_mul] at hl
  have e:cs=cs.take sz++cs.drop sz:=(List.take_append_drop sz cs).symm
  have ho2:BA (cs.take sz)=true∧BA (cs.drop sz)=true:=by
   rw [e,Jo] at ho;simpa using ho
  obtain ⟨i1,i2,i3⟩:=LR h1 n (cs.drop sz) (by simp;omega) ho2.2
  have hl1:(cs.take sz).length=sz:=by simp;omega
  have hc:(if agg then V.agg (cs.take sz) else cs.headD .dead).cells=cs.take sz:=by
   cases agg with
   | true=>rfl
   | false =>
    have h11:=h1 rfl
    subst h11
    cases cs with
    | nil=>simp at hl1
    | cons c r =>
     simp only [Bool.false_eq_true,if_false,List.headD_cons,List.take_succ_cons,List.take_zero]
     simp [BA] at ho
     exact V.cells_of_not_agg (fun x e'=>by rw [e'] at ho;simp [V.one] at ho)
  refine ⟨?_,?_,by simp [Fu,i3]⟩
  ·simp only [AG] at i1
   simp only [Fu,AG,List.map_cons,List.flatten_cons,hc,i1,List.take_append_drop]
  ·intro e' he'
   simp only [Fu,List.mem_cons] at he'
   rcases he' with rfl | he'
   ·rw [hc];exact hl1
   ·exact i2 e' he'
section
variable {P:Program} {L:Lay} {E:Env} {hp:Hp} {tm:Nat→V} {a:Act} {o:Oper} (hL:Ez P L) (hT:Hx E tm a) (hh:BE E hp)
omit hT hh in
theorem Ig (AH:Nat→Option (Nat × Nat)):∀ {ps:List (Nat × V)} {cells out:List V},Dp AH cells ps=some out→out.length=cells.length
 | [],cells,out,h=>by simp [Dp] at h;rw [h]
 | (i,v)::ps,cells,out,h=>by
  unfold Dp at h
  split at h
  ·cases h
  ·split at h
   ·rename_i hc
    rw [Ig AH h]
    simp only [fillCells,List.length_append,List.length_take,List.length_drop];omega
   ·cases h
include hL hh hT in
theorem OD {t:TypeId} {len:Nat} {parts:Array (Nat × Operand)} (ho:o.op=.buildSlice t len parts) {nid:Nat} (hU:∀ i,nid≤i→i<nid+1→¬ E.U i) {e:Eff}
  (he:CU L nid t len (parts.toList.map fun p=>(p.1,eV tm p.2))=.ret e):Mop P E (Av hp e.upd) a o e.v nid e.new:=by
 unfold CU at he
 split at he
 ·rename_i el _ _ _ _ hti
  have hu:=(hL _ _ hti).sl _ rfl
  split at he
  ·rename_i ei hei
   have hok:=hL _ _ hei
   split at he
   ·rename_i cells hcells
    split at he
    ·rename_i hc
     obtain ⟨hone,hle⟩:=hc
     injection he with he;subst he
     intro K Q hK
     -- the cells
     obtain ⟨i,z,hi,hs,hz,hzr,hzo⟩:=zones hok hok.zones E
     have hzl:z.cells.toList.length=ei.size:=by rw [hzr.length];exact hok.zlen
     have hzl':z.cells.size=ei.size:=by simpa using hzl
     have hbase:=(hzr.replicate len).toO
     have harr:((Array.range (len*ei.size)).map (z.cells[· % z.cells.size]!)).toList=(List.replicate len z.cells.toList).flatten:=by
      rw [← Mn z.cells.toList len,hzl]
      simp only [Array.toList_map,Array.toList_range,hzl']
      refine List.map_congr_left (fun j _=>?_)
      rw [getElem!_def,getElem!_def]
      simp
     have hev:Rs E .O (((parts.toList.map fun p=>(p.1,eV tm p.2)).map fun p=>(p.1,Bx L el p.2)).map (·.2)) ((parts.map fun (i,x)=>(i,a.eval x)).toList.map (·.2)) []:=by
      have:=DO hT (parts.toList.map (·.2))
      have gen:∀ (l:List Operand),Rs E .O (l.map (eV tm)) (l.map a.eval) []→Rs E .O (l.map fun x=>Bx L el (eV tm x)) (l.map a.eval) []:=by
       intro l;induction l with
       | nil=>exact fun h=>h
       | cons x l ih =>
        intro h
        have h1:=FL hL (t:=el) (AV hT x)
        simpa using h1.cons' (ih (DO hT l))
      have:=gen _ this
      simpa [List.map_map,Function.comp_def] using this
     have hk:((parts.toList.map fun p=>(p.1,eV tm p.2)).map fun p=>(p.1,Bx L el p.2)).map (·.1)=(parts.map fun (i,x)=>(i,a.eval x)).toList.map (·.1):=by simp [List.map_map,Function.comp_def]
     obtain ⟨arr',hf,hr⟩:=LO (fun i=>some (i*ei.size,ei.size)) (arr:=(Array.range (len*ei.size)).map (z.cells[· % z.cells.size]!)) hk hev (by rw [harr];exact hbase) hcells
     have hcl:cells.length=len*ei.size:=by
      rw [Ig _ hcells,hbase.length.symm]
      have:∀ n,(List.replicate n z.cells.toList).flatten.length=n*ei.size:=by
       intro n;induction n with
       | zero=>simp
       | succ n ih=>simp only [List.replicate_succ,List.flatten_cons,List.length_append,ih,hzl];rw [Nat.add_mul,Nat.one_mul];omega
      exact this len
     have hal:arr'.size=len*ei.size:=by have:=hr.length;simp at this;omega
     obtain ⟨f1,f2,f3⟩:=LR (agg:=ei.k.agg) hok.one len cells hcl hone
     have hrun:(execOp a.eval o).run P E.w=.ok (.value (.slice (some ⟨E.w.heap.size,0,none⟩) len len)) (E.w.alloc (.cells arr' el)):=by
      have hbig:¬ (len*i.size>2 ^ 24):=by rw [hs];omega
      by_cases hz0:len*ei.size=0
      ·have hz0':len*i.size=0:=by rw [hs];exact hz0
       have er:Array.range 0=#[]:=rfl
       have hf0:Instr.fill (fun j=>some (j*i.size,i.size)) #[] (parts.map fun (i,x)=>(i,a.eval x)).toList=some arr':=by
        have e0:((Array.range (len*ei.size)).map (z.cells[· % z.cells.size]!))=#[]:=by rw [hz0,er];simp
        rw [e0] at hf;simpa [hs] using hf
       simp only [execOp,ho,Instr.buildSlice,Sem.run_bind,run_underlying hu,Result.andThen_ok,Go.sizeOf,typeInfo,run_program,hi,Sem.run_pure]
       rw [if_neg hbig]
       simp only [hz0',if_true,Sem.run_bind,Sem.run_pure,Result.andThen_ok,er,List.map_toArray,List.map_nil]
       rw [hf0]
       simp [GK]
      ·have hz0':¬ len*i.size=0:=by rw [hs];exact hz0
       have:=run_buildSlice (P:=P) E.w t el len (parts.map fun (i,x)=>(i,a.eval x)) arr' i z hu hi hz hbig hz0' (by simpa [hs] using hf)
       simp [execOp,ho,this]
     have hro:ED arr'.toList:=Ga hr hone
     obtain ⟨E',e1,e2,e3,e4,e5⟩:=kC (E:=E) (w':=E.w.alloc (.cells arr' el)) (nid:=nid) (els:=Fu ei.size ei.k.agg len cells) (ys:=arr'.toList) (d:=!AD cells) (b:=E.w.heap.size) (sz:=ei.size) (cap:=len) hh (BU.alloc _ _) (Nat.le_refl _) (by simp)
      (by rw [f3];exact ML E.w arr' el hal (by unfold maxLen;have:=Nat.le_mul_of_pos_right len hok.pos;omega) hok.pos hro) f2 (by rw [f1];exact hr) (by rw [f1];simp) (hU nid (Nat.le_refl _) (by omega))
     rw [f3] at e4
     refine DK hrun ?_
     rw [← e1]
     exact hK E' _ e2 e3 e4 e5
    ·cases he
   ·cases he
  ·cases he
 ·cases he
include hL hh hT in
theorem PR {t:TypeId} {l c:Operand} (ho:o.op=.makeSlice t l c) {nid:Nat} (hU:∀ i,nid≤i→i<nid+1→¬ E.U i) {e:Eff}
  (he:Dt L nid t (eV tm l) (eV tm c)=.ret e):Mop P E (Av hp e.upd) a o e.v nid e.new:=by
 unfold Dt at he
 split at he
 ·rename_i el _ _ _ _ n m hti hn hm
  have hu:=(hL _ _ hti).sl _ rfl
  split at he
  ·rename_i ei hei
   have hok:=hL _ _ hei
   split at he
   ·rename_i hc
    obtain ⟨rfl,h0,hby⟩:=hc
    injection he with he;subst he
    intro K Q hK
    obtain ⟨N,rfl⟩:∃ N:Nat,n=(N:Int):=⟨n.toNat,by omega⟩
    simp only [Int.toNat_natCast] at hK
    obtain ⟨k1,_,e1⟩:=LF (AV hT l) hn
    obtain ⟨k2,_,e2⟩:=LF (AV hT c) hm
    obtain ⟨i,z,hi,hs,hz,hzr,hzo⟩:=zones hok hok.zones E
    obtain ⟨i',hi',hs',hb',_⟩:=hok.info
    rw [hi] at hi';cases hi'
    have hzl:z.cells.toList.length=ei.size:=by rw [hzr.length];exact hok.zlen
    have hzl':z.cells.size=ei.size:=by simpa using hzl
    have hNb:N*ei.bytes≤140737488355328:=by
     have:((N*ei.bytes:Nat):Int)≤140737488355328:=by rw [Int.natCast_mul];exact hby
     omega
    have hNl:N≤N*ei.bytes:=Nat.le_mul_of_pos_right N hok.bpos
    have hb2:(i.bytes:Int)*(N:Int)≤281474976710656:=by
     rw [hb',← Int.natCast_mul,Nat.mul_comm];omega
    have hmk:=run_make (P:=P) E.w t el i z hu hi hz k1 k2 N N (by omega) (Int.le_refl _) hb2 (by omega)
    simp only [Int.toNat_natCast] at hmk
    have hrun:(execOp a.eval o).run P E.w=.ok (.value (.slice (some ⟨E.w.heap.size,0,none⟩) N N)) (E.w.alloc (.cells (madeCells z.cells (N*i.size)) el)):=by
     simp [execOp,ho,e1,e2,hmk]
    have harr:(madeCells z.cells (N*i.size)).toList=(List.replicate N z.cells.toList).flatten:=by
     rw [hs,← Mn z.cells.toList N,hzl]
     simp only [madeCells,Array.toList_map,Array.toList_range,hzl']
     refine List.map_congr_left (fun j _=>?_)
     rw [getElem!_def,getElem!_def]
     simp
    have hflat:∀ n:Nat,AG (List.replicate n ei.zero)=(List.replicate n ei.zero.cells).flatten:=by intro n;simp [AG]
    have hrs:Rs E .O (AG (List.replicate N ei.zero)) (madeCells z.cells (N*i.size)).toList []:=by
     rw [harr,hflat];exact (hzr.replicate N).toO
    have hone:BA (AG (List.replicate N ei.zero))=true:=by
     rw [hflat]
     have:∀ n:Nat,BA (List.replicate n ei.zero.cells).flatten=true:=by
      intro n;induction n with
      | zero=>rfl
      | succ n ih=>rw [List.replicate_succ,List.flatten_cons,Jo,ih,hok.zones];rfl
     exact this N
    have hperm:(!AD ei.zero.cells)=false→AD (AG (List.replicate N ei.zero))=true:=by
     intro hp
     have hp':AD ei.zero.cells=true:=by simpa using hp
     rw [hflat]
     have:∀ n:Nat,AD (List.replicate n ei.zero.cells).flatten=true:=by
      intro n;induction n with
      | zero=>rfl
      | succ n ih=>rw [List.replicate_succ,List.flatten_cons,Iu,ih,hp'];rfl
     exact this N
    have hrl:(List.replicate N ei.zero).length=N:=List.length_replicate
    have hzc:∀ e∈List.replicate N ei.zero,e.cells.length=ei.size:=fun e he=>by
     rw [(List.mem_replicate.1 he).2];exact hok.zlen
    obtain ⟨E',e1,e2,e3,e4,e5⟩:=kC (E:=E) (w':=E.w.alloc (.cells (madeCells z.cells (N*i.size)) el)) (nid:=nid) (els:=List.replicate N ei.zero) (ys:=(madeCells z.cells (N*i.size)).toList) (d:=!AD ei.zero.cells) (b:=E.w.heap.size) (sz:=ei.size) (cap:=N) hh (BU.alloc _ _) (Nat.le_refl _) (by simp)
     (by rw [hrl];exact ML E.w _ el (by rw [size_madeCells,hs]) (by unfold maxLen;omega) hok.pos (Ga hrs hone)) hzc hrs hperm (hU nid (Nat.le_refl _) (by omega))
    rw [hrl] at e4
    refine DK hrun ?_
    rw [← e1]
    exact hK E' _ e2 e3 e4 e5
   ·cases he
  ·cases he
 ·cases he
end
end Ve
namespace Ve
open Go
theorem Gl (P:Program) (w:World) (t ty e:TypeId) (i:TypeInfo) (ht:P.underlying t=some (.slice e)) (hi:P.info? e=some i) (DR:Option Addr) (n cap:Nat) (hn:n≤cap) (ad:Option Addr) (c:Nat) :
  (Builtin.append_ #[t,t] ty #[.slice DR n cap,.slice ad 0 c]).run P w=.ok (.slice DR n cap) w:=by
 have h0:∀ (s:Option Addr),(Builtin.firstCells i.size 0 (.slice s 0 c)).run P w=.ok #[] w:=by
  intro s;cases s<;>simp [Builtin.firstCells,loadCells,loadCellsFrom]
 cases DR with
 | none=>simp [Builtin.append_,run_underlying ht,Go.sizeOf,typeInfo,hi,Builtin.lenOf,hn,h0]
 | some b=>simp [Builtin.append_,run_underlying ht,Go.sizeOf,typeInfo,hi,Builtin.lenOf,hn,h0,storeCells]
theorem PM (P:Program) (w:World) (t ty e e':TypeId) (i:TypeInfo) (ht:P.underlying t=some (.slice e)) (hi:P.info? e=some i)
  (g sLen sCap:Nat) (cur:Array Value) (hg:w.heap[g]?=some (.cells cur e' (0,0)))
  (a:Addr) (m c:Nat) (news:List Value) (hl:news.length=m*i.size) (hnews:∀ j u,news[j]?=some u→w.cell? (a.add j)=some u) (h1:∀ u∈news,u.oneCell'=true)
  (hroom:sLen+m≤sCap) (hfit:sLen*i.size+news.length≤cur.size) :
  (Builtin.append_ #[t,t] ty #[.slice (some ⟨g,0,none⟩) sLen sCap,.slice (some a) m c]).run P w =
   .ok (.slice (some ⟨g,0,none⟩) (sLen+m) sCap) (w.setRow g (cur.toList.take (sLen*i.size)++news++cur.toList.drop (sLen*i.size+news.length)).toArray):=by
 have hf:=run_firstCells_some (P:=P) w i.size m a m c news hl hnews
 have hst:=run_storeCells_at P g (sLen*i.size) e' news 0 cur w hg (by simpa using hfit) h1
 simp only [Nat.add_zero] at hst
 simp [Builtin.append_,run_underlying ht,Go.sizeOf,typeInfo,hi,Builtin.lenOf,hroom,hf,Addr.add_lit,hst]
theorem EF {a b c:Nat} (h:(a:Int)*(b:Int)≤(c:Int)):a*b≤c:=by
 rw [← Int.natCast_mul] at h;exact Int.ofNat_le.1 h
theorem JR {P:Program} {L:Lay} (hL:Ez P L) {t el:TypeId} {ei:TI} (hei:L el=some ei) (hu:P.underlying t=some (.slice el)) (ty:TypeId) {w:World}
  {dv:Value} {n cap:Nat} {ys:List Value} {g:Option Nat} (hd:(g=none∧(∃ ad,dv=.slice ad 0 0)∧n=0∧ys=[])∨∃ b,g=some b∧dv=.slice (some ⟨b,0,none⟩) n cap∧El w b ei.size n cap ys)
  {xv:Value} {m:Nat} {news:List Value} (hone:ED news) (hnl:news.length=m*ei.size)
  (hx:(m=0∧∃ ad c,xv=.slice ad 0 c)∨∃ b off c,xv=.slice (some ⟨b,off,none⟩) m c∧w.rangeAt b off news) (hb:(n+m)*ei.bytes≤140737488355328) (h63:n+m≤maxLen) :
  ∃ v' w',(Builtin.append_ #[t,t] ty #[dv,xv]).run P w=.ok v' w' ∧
   ((n+m=0∧(∃ ad,v'=.slice ad 0 0)∧w'=w) ∨
    (∃ b,g=some b∧v'=.slice (some ⟨b,0,none⟩) (n+m) cap∧El w' b ei.size (n+m) cap (ys++news)∧(∀ c,c≠b→w'.heap[c]?=w.heap[c]?)∧w'.heap.size=w.heap.size∧w'.os=w.os∧w'.tape=w.tape∧w'.output=w.output) ∨
    (∃ cap',v'=.slice (some ⟨w.heap.size,0,none⟩) (n+m) cap'∧El w' w.heap.size ei.size (n+m) cap' (ys++news)∧BU w w'∧w.heap.size<w'.heap.size)):=by
 have hok:=hL _ _ hei
 obtain ⟨i,hi,hs,hby,z,hz,hzr⟩:=hok.info
 obtain ⟨i',z',hi',hs',hz',hzr',hzo'⟩:=zones hok hok.zones ⟨w,fun _=>False,fun _=>[],fun _=>none,fun _=>False⟩
 rw [hi] at hi';cases hi';rw [hz] at hz';cases hz'
 have hzl:z.cells.size=ei.size:=by have:=hzr'.length;have h2:=hok.zlen;simp at this;omega
 have hpos:=hok.pos
 have zero_ones:∀ k,ED (Builtin.zeroCells z.cells k).toList:=by
  intro k y hy
  simp only [Builtin.zeroCells,Array.toList_map,Array.toList_range,List.mem_map,List.mem_range] at hy
  obtain ⟨j,hj,rfl⟩:=hy
  have hlt:j % z.cells.size<z.cells.size:=Nat.mod_lt _ (by omega)
  have:z.cells[j % z.cells.size]!∈z.cells.toList:=by
   rw [getElem!_def];simp [hlt]
  exact hzo' _ this
 -- a new row
 have grown:∀ (old:Nat) (olds:List Value),old<n+m→olds=ys→ys.length=n*ei.size→ED ys →
   El (w.drew.alloc (.cells (olds.toArray++news.toArray++Builtin.zeroCells z.cells (grownCap w (n+m) old el - (n+m))) el)) w.heap.size ei.size (n+m) (grownCap w (n+m) old el) (ys++news) ∧
   BU w (w.drew.alloc (.cells (olds.toArray++news.toArray++Builtin.zeroCells z.cells (grownCap w (n+m) old el - (n+m))) el)):=by
  intro old olds ho hol hyl hyo
  subst hol
  have hge:=grownCap_ge w (n+m) old el
  have hcm:=grownCap_le_maxLen w (n+m) old el h63
  have hlen:(olds++news).length=(n+m)*ei.size:=by rw [List.length_append,hyl,hnl,Nat.add_mul]
  refine ⟨⟨⟨_,el,heap_alloc_new w.drew _,?_,?_⟩,hge,hcm,hpos,?_,hlen⟩,(BU.drew w).trans (BU.alloc _ _)⟩
  ·simp only [Array.size_append,List.size_toArray,size_zeroCells,hzl]
   rw [hyl,hnl,← Nat.add_mul,← Nat.add_mul]
   congr 1;omega
  ·simp only [Array.toList_append,List.append_assoc]
   rw [← List.append_assoc,← hlen]
   exact List.take_left
  ·intro y hy
   rcases List.mem_append.1 hy with h | h
   ·exact hyo y h
   ·exact hone y h
 rcases hx with ⟨rfl,ad,c,rfl⟩ | ⟨xb,xo,c,rfl,hxr⟩
 ·have hn0:news=[]:=List.eq_nil_of_length_eq_zero (by simpa using hnl)
  subst hn0
  rcases hd with ⟨rfl,⟨ad0,rfl⟩,rfl,rfl⟩ | ⟨b,rfl,rfl,hrow⟩
  ·exact ⟨_,_,Gl P w t ty el i hu hi ad0 0 0 (Nat.le_refl _) ad c,.inl ⟨rfl,⟨_,rfl⟩,rfl⟩⟩
  ·refine ⟨_,_,Gl P w t ty el i hu hi (some ⟨b,0,none⟩) n cap hrow.le ad c,.inr (.inl ⟨b,rfl,rfl,by simpa using hrow,fun _ _=>rfl,rfl,rfl,rfl,rfl⟩)⟩
 ·have hnews:∀ j u,news[j]?=some u→w.cell? ((⟨xb,xo,none⟩:Addr).add j)=some u:=fun j u hj=>by rw [Addr.add_mid];exact hxr j u hj
  have hnl':news.length=m*i.size:=by rw [hs];exact hnl
  have hb':(n+m)*i.bytes≤140737488355328:=by rw [hby];exact hb
  have h63':n+m≤9223372036854775807:=by simp only [maxLen] at h63;omega
  rcases hd with ⟨rfl,⟨ad0,rfl⟩,rfl,rfl⟩ | ⟨b,rfl,rfl,hrow⟩
  ·by_cases hm:m=0
   ·subst hm
    exact ⟨_,_,Gl P w t ty el i hu hi ad0 0 0 (Nat.le_refl _) _ c,.inl ⟨rfl,⟨_,rfl⟩,rfl⟩⟩
   ·have hg:=grown 0 [] (by omega) rfl (by simp) (fun y hy=>by simp at hy)
    cases ad0 with
    | none =>
     have hr:=run_append_nil (P:=P) w t ty el i z hu hi hz ⟨xb,xo,none⟩ m c news hnl' hnews (by omega) (by omega) (by simp only [Nat.zero_add] at hb';omega)
     simp only [Nat.zero_add,List.nil_append,Array.empty_append] at hg ⊢
     refine ⟨_,_,hr,.inr (.inr ⟨_,rfl,?_,?_,by simp⟩)⟩
     ·simpa using hg.1
     ·simpa using hg.2
    | some a0 =>
     have hr:=run_append_grow (P:=P) w t ty el i z hu hi hz a0 0 0 [] (by simp) (by simp) ⟨xb,xo,none⟩ m c news hnl' hnews (by omega) (by omega) (growslice_fits (by omega) hb')
     exact ⟨_,_,hr,.inr (.inr ⟨_,rfl,hg.1,hg.2,by simp⟩)⟩
  ·obtain ⟨cur,e',hheap,hcs,htake⟩:=hrow.ex
   by_cases hroom:n+m≤cap
   ·have hfit:n*i.size+news.length≤cur.size:=by rw [hnl',hcs,hs,← Nat.add_mul];exact Nat.mul_le_mul_right _ hroom
    have hr:=PM P w t ty el e' i hu hi b n cap cur hheap ⟨xb,xo,none⟩ m c news hnl' hnews hone hroom hfit
    refine ⟨_,_,hr,.inr (.inl ⟨b,rfl,rfl,⟨⟨_,e',setRow_heap w b cur _ e' _ hheap,?_,?_⟩,hroom,hrow.mx,hpos,?_,?_⟩,fun k hk=>setRow_other w b k _ hk,by simp,rfl,rfl,rfl⟩)⟩
    ·simp only [List.size_toArray,List.length_append,List.length_take,List.length_drop,Array.length_toList]
     rw [hs] at hfit
     rw [hs];omega
    ·have hlen:(ys++news).length=(n+m)*ei.size:=by rw [List.length_append,hrow.ln,hnl,Nat.add_mul]
     rw [hs,htake,← hlen]
     exact List.take_left
    ·intro y hy
     rcases List.mem_append.1 hy with h | h
     ·exact hrow.one y h
     ·exact hone y h
    ·rw [List.length_append,hrow.ln,hnl,Nat.add_mul]
   ·have holds:∀ j v,ys[j]?=some v→w.cell? ((⟨b,0,none⟩:Addr).add j)=some v:=fun j v hj=>by rw [Addr.add_mid];exact Cd hrow j v hj
    have hr:=run_append_grow (P:=P) w t ty el i z hu hi hz ⟨b,0,none⟩ n cap ys (by rw [hs];exact hrow.ln) holds ⟨xb,xo,none⟩ m c news hnl' hnews (by omega) (by omega) (growslice_fits (by omega) hb')
    have hg:=grown cap ys (by omega) rfl hrow.ln hrow.one
    exact ⟨_,_,hr,.inr (.inr ⟨_,rfl,hg.1,hg.2,by simp⟩)⟩
theorem JB (a b:List V):AG (a++b)=AG a++AG b:=by simp [AG]
theorem aW {E:Env} {hp:Hp} (hh:BE E hp) {sz:Nat} {x:V} {xv:Value} (hx:R1 E .O x xv []) {src:List V × List Nat × Bool} (hs:(RG sz x).run hp=some src) :
  ∃ news fn,ED news∧news.length=src.1.length*sz∧((src.1.length=0∧∃ ad c,xv=.slice ad 0 c)∨∃ b off c,xv=.slice (some ⟨b,off,none⟩) src.1.length c∧E.w.rangeAt b off news) ∧
   (∀ e∈src.1,e.cells.length=sz)∧Rs E (if src.2.2 then .O else .P) (AG src.1) news fn ∧
   (src.2.1=[]∧fn=[]∨∃ o,src.2.1=[o]∧E.U o∧(fn=[]∨∃ b,E.fps o=b::fn)):=by
 unfold RG at hs
 split at hs
 ·simp [AM.run] at hs;subst hs
  obtain ⟨rfl,_⟩:=BX hx
  exact ⟨[],[],by intro y hy;simp at hy,by simp,.inl ⟨rfl,_,_,rfl⟩,by simp,.nil,.inl ⟨rfl,rfl⟩⟩
 ·rename_i p nn sz' els
  split at hs
  ·rename_i hsz
   subst hsz
   simp [AM.run] at hs;subst hs
   cases hx with
   | isl0=>exact ⟨[],[],by intro y hy;simp at hy,by simp,.inl ⟨rfl,_,_,rfl⟩,by simp,.nil,.inl ⟨rfl,rfl⟩⟩
   | @isl _ _ _ _ blk off cap _ ys _ _ _ hc hF hN hm hu h1 hr hone h =>
    refine ⟨ys,[],hone,?_,.inr ⟨blk,off,cap,rfl,hr⟩,hu,?_,.inl ⟨rfl,rfl⟩⟩
    ·rw [h1.length,Du els sz' hu]
    ·cases p with
     | true=>simpa [pm] using h1
     | false=>simpa [pm] using h1.toO
  ·simp [AM.run] at hs
 ·rename_i o
  simp only [AM.run_rd,Option.bind_eq_some_iff] at hs
  obtain ⟨ob,hob,hs⟩:=hs
  split at hs
  ·rename_i hsz
   simp [AM.run] at hs;subst hs
   obtain ⟨oi,hal,hU,hR⟩:=hh.objs o ob hob
   cases hx with
   | slD h1 _ _=>rw [hal] at h1;cases h1
   | sl h1 hn =>
    rw [hal] at h1;cases h1
    obtain ⟨hsz',hlen,hpos,hun,hblk⟩:=hR
    cases hbk:oi.blk with
    | none =>
     rw [hbk] at hblk
     refine ⟨[],[],by intro y hy;simp at hy,by simp [hblk.1],.inl ⟨by simp [hblk.1],oi.ad,0,by simp [OI.slice,hbk]⟩,by simp [hblk.1],by rw [hblk.1];exact Rs.nil,.inr ⟨o,rfl,hU,.inl rfl⟩⟩
    | some b =>
     rw [hbk] at hblk
     obtain ⟨ys,fi,hrow,hrs,hfp⟩:=hblk
     refine ⟨ys,fi,hrow.one,by rw [hrow.ln,hsz],.inr ⟨b,0,oi.cap,by simp [OI.slice,hbk,hlen],Cd hrow⟩,by rw [← hsz];exact hun,hrs,.inr ⟨o,rfl,hU,.inr ⟨b,hfp⟩⟩⟩
  ·simp [AM.run] at hs
 ·simp [AM.run] at hs
theorem Kf:∀ (ks:List Nat) (hp:Hp) (i:Nat),Av hp (ks.map (·,none)) i=if i∈ks then none else hp i
 | [],hp,i=>by simp [Av]
 | k::ks,hp,i=>by
  simp only [List.map_cons,Av]
  rw [Kf ks]
  by_cases h:i∈ks
  ·simp [h]
  ·rw [if_neg h]
   by_cases h2:i=k
   ·subst h2;rw [Bi];simp
   ·rw [BQ _ _ h2];simp [h,h2]
def Env.swap (E:Env) (w':World) (F':Nat→Prop) (ks:List Nat) (nid:Nat) (ois:List OI) (fpl:List (List Nat)):Env :=
 { w:=w',F:=F'
   fps:=fun i=>if nid≤i∧i<nid+fpl.length then fpl.getD (i - nid) [] else if i∈ks then [] else E.fps i
   al:=fun i=>if nid≤i∧i<nid+ois.length then ois[i - nid]? else if i∈ks then none else E.al i
   U:=fun i=>E.U i∨(nid≤i∧i<nid+fpl.length) }
structure In (E:Env) (w':World) (F':Nat→Prop) (ks:List Nat) (nid:Nat) (ois:List OI) (fpl:List (List Nat)):Prop where
 size:E.w.heap.size≤w'.heap.size
 os:w'.os=E.w.os
 tape:w'.tape=E.w.tape
 output:w'.output=E.w.output
 keep:∀ c,c<E.w.heap.size→(∀ k∈ks,c∉E.fps k)→w'.heap[c]?=E.w.heap[c]?
 len:ois.length=fpl.length
 U:∀ i,nid≤i→i<nid+fpl.length→¬ E.U i
 fp:∀ c∈fpl.flatten,((∃ k∈ks,c∈E.fps k)∨E.w.heap.size≤c)∧c<w'.heap.size
 nd:fpl.flatten.Nodup
 F:∀ b,E.F b→F' b
 F':∀ b,F' b→E.F b∨(((∃ k∈ks,b∈E.fps k)∨E.w.heap.size≤b)∧b<w'.heap.size∧b∉fpl.flatten)
theorem In.get {E:Env} {w':World} {F':Nat→Prop} {ks:List Nat} {nid:Nat} {ois:List OI} {fpl:List (List Nat)} {i:Nat} (hi:nid≤i∧i<nid+fpl.length) :
  ∃ fp,fpl[i - nid]?=some fp∧(E.swap w' F' ks nid ois fpl).fps i=fp:=by
 have hlt:i - nid<fpl.length:=by omega
 exact ⟨fpl[i - nid],by simp [hlt],by simp only [Env.swap];rw [if_pos hi];simp [hlt]⟩
theorem In.stp {E:Env} {hp:Hp} (hh:BE E hp) {w':World} {F':Nat→Prop} {ks:List Nat} {nid:Nat} {ois:List OI} {fpl:List (List Nat)} (h:In E w' F' ks nid ois fpl) :
  Stp E (E.swap w' F' ks nid ois fpl) (fun i=>(nid≤i∧i<nid+fpl.length)∨i∈ks):=by
 have hin:∀ i,nid≤i∧i<nid+fpl.length→∀ c∈(E.swap w' F' ks nid ois fpl).fps i,c∈fpl.flatten:=by
  intro i hi c hc
  obtain ⟨fp,h1,h2⟩:=In.get (E:=E) (w':=w') (F':=F') (ks:=ks) (ois:=ois) hi
  rw [h2] at hc
  exact List.mem_flatten.2 ⟨fp,List.mem_of_getElem? h1,hc⟩
 have hout:∀ i,¬ (nid≤i∧i<nid+fpl.length)→i∈ks→(E.swap w' F' ks nid ois fpl).fps i=[]:=by
  intro i h1 h2;simp only [Env.swap];rw [if_neg h1,if_pos h2]
 exact
 { size:=h.size,os:=h.os,tape:=h.tape,output:=h.output
   no:=fun b hb=>h.keep b hb.1 (fun k _=>hb.2 k)
   fps:=fun i hi=>by simp only [not_or] at hi;simp only [Env.swap];rw [if_neg hi.1,if_neg hi.2]
   al:=fun i hi=>by simp only [not_or] at hi;simp only [Env.swap];rw [if_neg (by rw [h.len];exact hi.1),if_neg hi.2]
   keep:=fun i hi c hc=>by
     simp only [not_or] at hi
     exact h.keep c (hh.lt i c hc) (fun k hk hck=>by have:=hh.disj i k c hc hck;subst this;exact hi.2 hk)
   own:=fun i hi c hc=>by
     by_cases h1:nid≤i∧i<nid+fpl.length
     · rcases (h.fp c (hin i h1 c hc)).1 with ⟨k,h2,h3⟩ | h2
       · exact .inl ⟨k,.inr h2,h3⟩
       · exact .inr h2
     · rw [hout i h1 (hi.resolve_left h1)] at hc;simp at hc
   lt:=fun i hi c hc=>by
     by_cases h1:nid≤i∧i<nid+fpl.length
     · exact (h.fp c (hin i h1 c hc)).2
     · rw [hout i h1 (hi.resolve_left h1)] at hc;simp at hc
   nodup:=fun i hi=>by
     by_cases h1:nid≤i∧i<nid+fpl.length
     · obtain ⟨fp,h2,h3⟩:=In.get (E:=E) (w':=w') (F':=F') (ks:=ks) (ois:=ois) h1
       rw [h3];exact CV h.nd h2
     · rw [hout i h1 (hi.resolve_left h1)];simp
   disj:=fun i j c hi hj hc hc'=>by
     by_cases h1:nid≤i∧i<nid+fpl.length
     · by_cases h2:nid≤j∧j<nid+fpl.length
       · obtain ⟨fp,h3,h4⟩:=In.get (E:=E) (w':=w') (F':=F') (ks:=ks) (ois:=ois) h1
         obtain ⟨fp',h5,h6⟩:=In.get (E:=E) (w':=w') (F':=F') (ks:=ks) (ois:=ois) h2
         rw [h4] at hc;rw [h6] at hc'
         have:=Fq h.nd h3 h5 hc hc'
         omega
       · rw [hout j h2 (hj.resolve_left h2)] at hc';simp at hc'
     · rw [hout i h1 (hi.resolve_left h1)] at hc;simp at hc
   al':=fun i oi hi ha=>by
     by_cases h1:nid≤i∧i<nid+fpl.length
     · exact absurd (hh.alU i ha) (h.U i h1.1 h1.2)
     · refine .inr ⟨?_,.inl (hh.alU i ha)⟩
       simp only [Env.swap];rw [if_neg (by rw [h.len];exact h1),if_pos (hi.resolve_left h1)]
   dd:=fun i hi ha hu=>by
     by_cases h1:nid≤i∧i<nid+fpl.length
     · exact absurd hu (h.U i h1.1 h1.2)
     · simp only [Env.swap];rw [if_neg (by rw [h.len];exact h1),if_pos (hi.resolve_left h1)]
   U:=fun _ h=>.inl h
   F:=h.F
   F':=fun b hb=>by
     rcases h.F' b hb with h1 | ⟨h1,h2,h3⟩
     · exact .inl h1
     · refine .inr ⟨?_,h2,fun i hi hbi=>?_⟩
       · rcases h1 with ⟨k,h4,h5⟩ | h4
         · exact .inl ⟨k,.inr h4,h5⟩
         · exact .inr h4
       · by_cases h4:nid≤i∧i<nid+fpl.length
         · exact h3 (hin i h4 b hbi)
         · rw [hout i h4 (hi.resolve_left h4)] at hbi;simp at hbi }
theorem In.ext {E:Env} {hp:Hp} (hh:BE E hp) {w':World} {F':Nat→Prop} {ks:List Nat} {nid:Nat} {ois:List OI} {fpl:List (List Nat)} (h:In E w' F' ks nid ois fpl)
  {f:List Nat} (hf:∀ b∈f,w'.heap[b]?=E.w.heap[b]?):Ext E (E.swap w' F' ks nid ois fpl) f:=(h.stp hh).ext hh hf
theorem In.fin {E:Env} {hp:Hp} (hh:BE E hp) {w':World} {F':Nat→Prop} {ks:List Nat} {nid:Nat} {ois:List OI} {fpl:List (List Nat)} (h:In E w' F' ks nid ois fpl)
  {news:List Ve.Obj} (hl:news.length=fpl.length)
  (hobj:∀ (k:Nat) (ob:Ve.Obj),news[k]?=some ob→∃ oi fp,ois[k]?=some oi∧fpl[k]?=some fp∧EK (E.swap w' F' ks nid ois fpl) fp ob oi) {hp':Hp}
  (hhp:∀ i,hp' i=if nid≤i∧i<nid+news.length then news[i - nid]? else if i∈ks then none else hp i) :
  BE (E.swap w' F' ks nid ois fpl) hp'∧Nx E (E.swap w' F' ks nid ois fpl):=by
 refine (h.stp hh).fin hh (fun i hi=>?_) (fun i ob hi ho=>?_) (fun i hi ho=>?_)
 ·simp only [not_or] at hi
  rw [hhp,if_neg (by rw [hl];exact hi.1),if_neg hi.2]
 ·rw [hhp] at ho
  by_cases h1:nid≤i∧i<nid+news.length
  ·rw [if_pos h1] at ho
   obtain ⟨oi,fp,h2,h3,h4⟩:=hobj _ _ ho
   have h1':nid≤i∧i<nid+fpl.length:=by rw [← hl];exact h1
   obtain ⟨fp',h5,h6⟩:=In.get (E:=E) (w':=w') (F':=F') (ks:=ks) (ois:=ois) h1'
   rw [h3] at h5;cases h5
   refine ⟨oi,?_,.inr h1',by rw [h6];exact h4⟩
   simp only [Env.swap];rw [if_pos (by rw [h.len];exact h1')];exact h2
  ·rw [if_neg h1,if_pos (hi.resolve_left (by rw [← hl];exact h1))] at ho;cases ho
 ·rw [hhp] at ho
  by_cases h1:nid≤i∧i<nid+news.length
  ·rw [if_pos h1] at ho
   have:i - nid<news.length:=by omega
   simp [this] at ho
  ·have h1':¬ (nid≤i∧i<nid+fpl.length):=by rw [← hl];exact h1
   have hk:=hi.resolve_left h1'
   simp only [Env.swap]
   rw [if_neg (by rw [h.len];exact h1'),if_pos hk,if_neg h1',if_pos hk]
   exact ⟨rfl,rfl⟩
section
variable {P:Program} {L:Lay} {E:Env} {hp:Hp} {tm:Nat→V} {a:Act} {o:Oper} (hL:Ez P L) (hT:Hx E tm a) (hh:BE E hp)
include hL hh hT in
theorem Wt {t:TypeId} {s x:Operand} (ho:o.op=.call { callee:=.builtin .append,args:=#[s,x],argTypes:=#[t,t] }) {nid:Nat} (hU:∀ i,nid≤i→i<nid+1→¬ E.U i) {e:Eff}
  (he:(FZ L nid t (eV tm s) (eV tm x)).run hp=some e):Mop P E (Av hp e.upd) a o e.v nid e.new:=by
 have hx:=AV hT x
 have hs:=AV hT s
 have hUn:=hU nid (Nat.le_refl _) (by omega)
 unfold FZ at he
 split at he
 ·rename_i el _ _ _ _ hti
  have hu:=(hL _ _ hti).sl _ rfl
  split at he
  ·rename_i ei hei
   have hok:=hL _ _ hei
   simp only [AM.run_bind,Option.bind_eq_some_iff] at he
   obtain ⟨src,hsrc,he⟩:=he
   obtain ⟨news,fn,hone,hnl,hxv,hsun,hsrs,hused⟩:=aW hh hx hsrc
   have main:∀ (ks:List Nat) (els0:List V) (d0:Bool) (ys:List Value) (fi:List Nat) (g:Option Nat) (cap:Nat),
     ((g=none∧(∃ ad,a.eval s=.slice ad 0 0)∧els0.length=0∧ys=[])∨∃ b,g=some b∧a.eval s=.slice (some ⟨b,0,none⟩) els0.length cap∧El E.w b ei.size els0.length cap ys) →
     (∀ e∈els0,e.cells.length=ei.size)→Rs E (if d0 then .O else .P) (AG els0) ys fi→(∀ k∈ks,E.U k)→(∀ k∈src.2.1,k∈ks) →
     (∀ c∈fi++fn,∃ k∈ks,c∈E.fps k)→(∀ b,g=some b→∃ k∈ks,b∈E.fps k)→(g.toList++(fi++fn)).Nodup→(els0.length+src.1.length)*ei.bytes≤140737488355328 →
     ∀ (K:Act→World→Prop) (Q:Exit→Act→World→Prop),
      (∀ E' y,Nx E E'→BE E' (fun i=>if i=nid then some ⟨ei.size,els0++src.1,d0||src.2.2⟩ else if i∈ks then none else hp i)→R1 E' .O (.sl nid) y [] →
       (∀ i,E'.U i↔E.U i∨(nid≤i∧i<nid+1))→K (a.put o.dst y) E'.w)→o.wp P a E.w K Q:=by
    intro ks els0 d0 ys fi g cap hd hun0 hrs0 hksU hsub hfin hgin hnd hbytes K Q hK
    have hmax:els0.length+src.1.length≤maxLen:=by
     have:=Nat.le_mul_of_pos_right (els0.length+src.1.length) hok.bpos
     unfold maxLen;omega
    obtain ⟨v',w',hrun,hway⟩:=JR hL hei hu o.type (w:=E.w) (g:=g) (cap:=cap) (n:=els0.length) (ys:=ys) hd hone hnl hxv hbytes hmax
    have hrunO:(execOp a.eval o).run P E.w=.ok (.value v') w':=by
     simp [execOp,ho,resolve,invoke,builtin,hrun]
    have hnks:nid∉ks:=fun h=>hUn (hksU nid h)
    have hlen':(els0++src.1).length=els0.length+src.1.length:=by simp
    have hnl2:AG (els0++src.1)=AG els0++AG src.1:=JB _ _
    have hunif:∀ e∈els0++src.1,e.cells.length=ei.size:=by
     intro e he;rcases List.mem_append.1 he with h | h
     ·exact hun0 e h
     ·exact hsun e h
    -- the state behind
    have fin:∀ (oi:OI) (fp:List Nat),In E w' E.F ks nid [oi] [fp]→(∀ c∈fi++fn,w'.heap[c]?=E.w.heap[c]?)→oi.slice=v' →
      (∀ E',Rs E' (if (d0||src.2.2) then .O else .P) (AG (els0++src.1)) (ys++news) (fi++fn)→E'.w=w'→EK E' fp ⟨ei.size,els0++src.1,d0||src.2.2⟩ oi)→o.wp P a E.w K Q:=by
     intro oi fp hsw hkeep hsl hob
     have hx1:=In.ext hh hsw (f:=fi) (fun b hb=>hkeep b (by simp [hb]))
     have hx2:=In.ext hh hsw (f:=fn) (fun b hb=>hkeep b (by simp [hb]))
     have r1:=hrs0.ext hx1
     have r2:=hsrs.ext hx2
     have hall:Rs (E.swap w' E.F ks nid [oi] [fp]) (if (d0||src.2.2) then .O else .P) (AG (els0++src.1)) (ys++news) (fi++fn):=by
      rw [hnl2]
      cases d0<;>cases hd2:src.2.2
      ·rw [hd2] at r2;simpa using r1.append r2
      ·rw [hd2] at r2;simpa using r1.toO.append r2
      ·rw [hd2] at r2;simpa using r1.append r2.toO
      ·rw [hd2] at r2;simpa using r1.append r2
     obtain ⟨h1,h2⟩:=In.fin hh hsw (news:=[⟨ei.size,els0++src.1,d0||src.2.2⟩]) rfl (fun k ob hk=>by
      cases k with
      | zero=>simp at hk;subst hk;exact ⟨oi,fp,rfl,rfl,hob _ hall rfl⟩
      | succ k=>simp at hk) (hp':=fun i=>if i=nid then some ⟨ei.size,els0++src.1,d0||src.2.2⟩ else if i∈ks then none else hp i) (fun i=>by
       simp only [List.length_singleton]
       by_cases hi:i=nid
       ·subst hi;rw [if_pos rfl,if_pos (by omega)];simp
       ·have h1:¬ (nid≤i∧i<nid+1):=by omega
        simp only [if_neg hi,if_neg h1])
     subst hsl
     refine DK hrunO ?_
     have:=hK _ oi.slice h2 h1 (.sl (by simp [Env.swap]) .nil) (fun i=>by simp [Env.swap])
     exact this
    have hUr:∀ i,nid≤i→i<nid+[([]:List Nat)].length→¬ E.U i:=fun i h1 h2=>hU i h1 (by simpa using h2)
    rcases hway with ⟨h0,hv,hw⟩ | ⟨b,hgb,hv,hrow,hoth,hsz,hos,htp,hout⟩ | ⟨cap',hv,hrow,hlat,hlt⟩
    ·subst hw
     have he0:els0=[]:=List.eq_nil_of_length_eq_zero (by omega)
     have hs0:src.1=[]:=List.eq_nil_of_length_eq_zero (by omega)
     obtain ⟨ad,hv⟩:=hv
     refine fin ⟨none,ei.size,0,0,ad⟩ [] ⟨Nat.le_refl _,rfl,rfl,rfl,fun _ _ _=>rfl,rfl,by simpa using hU,by simp,by simp,fun _ h=>h,fun _ h=>.inl h⟩ (fun _ _=>rfl) (by simp [OI.slice,hv]) (fun E' _ _=>?_)
     refine ⟨rfl,by simp [he0,hs0],hok.pos,hunif,by simp [he0,hs0],rfl⟩
    ·obtain ⟨kb,hkb,hbk⟩:=hgin b hgb
     have hbnd:(b::(fi++fn)).Nodup:=by rw [hgb] at hnd;simpa using hnd
     have hnb:∀ c∈fi++fn,c≠b:=fun c hc e=>by subst e;exact (List.nodup_cons.1 hbnd).1 hc
     refine fin ⟨some b,ei.size,els0.length+src.1.length,cap,none⟩ (b::(fi++fn)) ⟨by omega,hos,htp,hout,fun c _ hk=>hoth c (fun e=>by subst e;exact hk kb hkb hbk),rfl,by simpa using hU,?_,by simpa using hbnd,fun _ h=>h,fun _ h=>.inl h⟩
      (fun c hc=>hoth c (hnb c hc)) (by simp [OI.slice,hv]) (fun E' hr hw=>?_)
     ·intro c hc
      simp only [List.flatten_cons,List.flatten_nil,List.append_nil,List.mem_cons] at hc
      rcases hc with rfl | hc
      ·exact ⟨.inl ⟨kb,hkb,hbk⟩,by rw [hsz];exact hh.lt kb _ hbk⟩
      ·obtain ⟨k,h1,h2⟩:=hfin c hc
       exact ⟨.inl ⟨k,h1,h2⟩,by rw [hsz];exact hh.lt k _ h2⟩
     ·subst hw
      exact ⟨rfl,by simp,hok.pos,hunif,_,_,by rw [hlen'];exact hrow,hr,rfl⟩
    ·have hfl:∀ c∈fi++fn,c<E.w.heap.size:=fun c hc=>by obtain ⟨k,h1,h2⟩:=hfin c hc;exact hh.lt k c h2
     have hbnd:(E.w.heap.size::(fi++fn)).Nodup:=by
      refine List.nodup_cons.2 ⟨fun h=>by have:=hfl _ h;omega,?_⟩
      rw [List.nodup_append] at hnd;exact hnd.2.1
     refine fin ⟨some E.w.heap.size,ei.size,els0.length+src.1.length,cap',none⟩ (E.w.heap.size::(fi++fn)) ⟨hlat.size,hlat.os,hlat.tape,hlat.output,fun c hc _=>hlat.keep c hc,rfl,by simpa using hU,?_,by simpa using hbnd,fun _ h=>h,fun _ h=>.inl h⟩
      (fun c hc=>hlat.keep c (hfl c hc)) (by simp [OI.slice,hv]) (fun E' hr hw=>?_)
     ·intro c hc
      simp only [List.flatten_cons,List.flatten_nil,List.append_nil,List.mem_cons] at hc
      rcases hc with rfl | hc
      ·exact ⟨.inr (Nat.le_refl _),hlt⟩
      ·obtain ⟨k,h1,h2⟩:=hfin c hc
       exact ⟨.inl ⟨k,h1,h2⟩,by have:=hfl c hc;omega⟩
     ·subst hw
      exact ⟨rfl,by simp,hok.pos,hunif,_,_,by rw [hlen'];exact hrow,hr,rfl⟩
   split at he
   ·rename_i hseq
    rw [hseq] at hs
    obtain ⟨hsv,_⟩:=BX hs
    split at he
    ·rename_i hb
     simp only [AM.run,Option.some.injEq] at he;subst he
     intro K Q hK
     refine main src.2.1 [] false [] [] none 0 (.inl ⟨rfl,⟨_,hsv⟩,rfl,rfl⟩) (by simp) .nil ?_ (fun k h=>h) ?_ (by simp) ?_ ?_ K Q ?_
     ·intro k hk
      rcases hused with ⟨h1,_⟩ | ⟨o,h1,h2,_⟩
      ·rw [h1] at hk;simp at hk
      ·rw [h1] at hk;simp at hk;subst hk;exact h2
     ·intro c hc
      simp only [List.nil_append] at hc
      rcases hused with ⟨_,h1⟩ | ⟨o,h1,h2,h3 | ⟨b,h3⟩⟩
      ·rw [h1] at hc;simp at hc
      ·rw [h3] at hc;simp at hc
      ·exact ⟨o,by simp [h1],by rw [h3];simp [hc]⟩
     ·simp only [Option.toList_none,List.nil_append]
      rcases hused with ⟨_,h1⟩ | ⟨o,h1,h2,h3 | ⟨b,h3⟩⟩
      ·rw [h1];simp
      ·rw [h3];simp
      ·have:=hh.nodup o;rw [h3] at this;exact (List.nodup_cons.1 this).2
     ·simp only [List.length_nil,Nat.zero_add];exact EF hb
     ·intro E' y hN hR hv hU'
      refine hK E' y hN ?_ hv hU'
      have:Av hp ((nid,some (⟨ei.size,src.1,src.2.2⟩:Ve.Obj))::src.2.1.map (·,none))=(fun i=>if i=nid then some ⟨ei.size,[]++src.1,false||src.2.2⟩ else if i∈src.2.1 then none else hp i):=by
       funext i
       simp only [Av,Kf,List.nil_append,Bool.false_or]
       have hnk:nid∉src.2.1:=by
        intro hk
        rcases hused with ⟨h1,_⟩ | ⟨o,h1,h2,_⟩
        ·rw [h1] at hk;simp at hk
        ·rw [h1] at hk;simp at hk;subst hk;exact hUn h2
       by_cases hi:i=nid
       ·subst hi;rw [if_neg hnk,if_pos rfl,Bi]
       ·rw [if_neg hi,BQ _ _ hi]
      rw [this];exact hR
    ·simp only [AM.run] at he;cases he
   ·rename_i so hseq
    rw [hseq] at hs
    simp only [AM.run_rd,Option.bind_eq_some_iff] at he
    obtain ⟨ob,hob,he⟩:=he
    split at he
    ·rename_i hcond
     obtain ⟨hsz,hni,hb⟩:=hcond
     simp only [AM.run,Option.some.injEq] at he;subst he
     intro K Q hK
     obtain ⟨oi,hal,hUo,hR⟩:=hh.objs so ob hob
     obtain ⟨hsz',hlen,hpos,hun,hblk⟩:=hR
     have hsv:a.eval s=oi.slice:=by
      generalize a.eval s=sv at hs
      cases hs with
      | slD h1 _ _=>rw [hal] at h1;cases h1
      | sl h1 hn=>rw [hal] at h1;cases h1;rfl
     have hnks:∀ k∈src.2.1,∀ c∈E.fps k,c∉E.fps so:=by
      intro k hk c hc hc'
      exact hni (hh.disj _ _ _ hc' hc▸hk)
     have hnid:nid∉so::src.2.1:=by
      intro hk
      rcases List.mem_cons.1 hk with h | hk
      ·subst h;exact hUn hUo
      rcases hused with ⟨h1,_⟩ | ⟨o,h1,h2,_⟩
      ·rw [h1] at hk;simp at hk
      ·rw [h1] at hk;simp at hk;subst hk;exact hUn h2
     have hmapeq:Av hp ((nid,some (⟨ei.size,ob.els++src.1,ob.dirty||src.2.2⟩:Ve.Obj))::(so,none)::src.2.1.map (·,none))=(fun i=>if i=nid then some ⟨ei.size,ob.els++src.1,ob.dirty||src.2.2⟩ else if i∈so::src.2.1 then none else hp i):=by
      funext i
      have h1:Av hp ((nid,some (⟨ei.size,ob.els++src.1,ob.dirty||src.2.2⟩:Ve.Obj))::(so,none)::src.2.1.map (·,none))=Av (Fj hp nid (some ⟨ei.size,ob.els++src.1,ob.dirty||src.2.2⟩)) ((so::src.2.1).map (·,none)):=rfl
      rw [h1,Kf]
      by_cases hi:i=nid
      ·subst hi;rw [if_neg hnid,if_pos rfl,Bi]
      ·rw [if_neg hi,BQ _ _ hi]
     have hksU:∀ k∈so::src.2.1,E.U k:=by
      intro k hk
      rcases List.mem_cons.1 hk with h | hk
      ·subst h;exact hUo
      rcases hused with ⟨h1,_⟩ | ⟨o,h1,h2,_⟩
      ·rw [h1] at hk;simp at hk
      ·rw [h1] at hk;simp at hk;subst hk;exact h2
     have hfnk:∀ c∈fn,∃ k∈src.2.1,c∈E.fps k:=by
      intro c hc
      rcases hused with ⟨_,h1⟩ | ⟨o,h1,h2,h3 | ⟨b,h3⟩⟩
      ·rw [h1] at hc;simp at hc
      ·rw [h3] at hc;simp at hc
      ·exact ⟨o,by simp [h1],by rw [h3];simp [hc]⟩
     have hfnd:fn.Nodup:=by
      rcases hused with ⟨_,h1⟩ | ⟨o,h1,h2,h3 | ⟨b,h3⟩⟩
      ·rw [h1];simp
      ·rw [h3];simp
      ·have:=hh.nodup o;rw [h3] at this;exact (List.nodup_cons.1 this).2
     cases hbk:oi.blk with
     | none =>
      rw [hbk] at hblk
      obtain ⟨hels,hfp⟩:=hblk
      have hl0:oi.len=0:=by rw [hlen,hels];rfl
      refine main (so::src.2.1) ob.els ob.dirty [] [] none 0 (.inl ⟨rfl,?_,by rw [hels];rfl,rfl⟩) (by rw [hels];simp) (by rw [hels];exact .nil) hksU (fun k h=>List.mem_cons_of_mem _ h) ?_ (by simp) (by simpa using hfnd) ?_ K Q ?_
      ·exact ⟨oi.ad,by rw [hsv];simp [OI.slice,hbk]⟩
      ·intro c hc
       simp only [List.nil_append] at hc
       obtain ⟨k,h1,h2⟩:=hfnk c hc
       exact ⟨k,List.mem_cons_of_mem _ h1,h2⟩
      ·exact EF hb
      ·intro E' y hN hR hv hU'
       refine hK E' y hN ?_ hv hU'
       rw [hmapeq];exact hR
     | some b =>
      rw [hbk] at hblk
      obtain ⟨ys,fi,hrow,hrs,hfp⟩:=hblk
      refine main (so::src.2.1) ob.els ob.dirty ys fi (some b) oi.cap (.inr ⟨b,rfl,?_,hsz▸hrow⟩) (hsz▸hun) hrs hksU (fun k h=>List.mem_cons_of_mem _ h) ?_ ?_ ?_ ?_ K Q ?_
      ·rw [hsv];simp [OI.slice,hbk,hlen]
      ·intro c hc
       rcases List.mem_append.1 hc with hc | hc
       ·exact ⟨so,by simp,by rw [hfp];simp [hc]⟩
       ·obtain ⟨k,h1,h2⟩:=hfnk c hc
        exact ⟨k,List.mem_cons_of_mem _ h1,h2⟩
      ·intro b' hb';cases hb';exact ⟨so,by simp,by rw [hfp];simp⟩
      ·have hnd:=hh.nodup so
       rw [hfp] at hnd
       have:(b::fi++fn).Nodup:=by
        rw [List.nodup_append]
        refine ⟨hnd,hfnd,fun x hx y hy e=>?_⟩
        subst e
        obtain ⟨k,h1,h2⟩:=hfnk _ hy
        exact hnks k h1 _ h2 (by rw [hfp];exact hx)
       simpa using this
      ·exact EF hb
      ·intro E' y hN hR hv hU'
       refine hK E' y hN ?_ hv hU'
       rw [hmapeq];exact hR
    ·simp only [AM.run] at he;cases he
   ·simp only [AM.run] at he;cases he
  ·simp only [AM.run] at he;cases he
 ·simp only [AM.run] at he;cases he
end
end Ve
namespace Ve
open Go
theorem Hm {E:Env} {m:Md}:∀ {cs:List V} {ys:List Value} {f:List Nat} (nid:Nat),Rs E m cs ys f→ED ys→∃ (ois:List OI) (fpl:List (List Nat)),
  ois.length=(Ak nid cs).2.length∧fpl.length=(Ak nid cs).2.length∧fpl.flatten=f ∧
  (∀ (k:Nat) (ob:Ve.Obj),(Ak nid cs).2[k]?=some ob→∃ oi fp,ois[k]?=some oi∧fpl[k]?=some fp∧EK E fp ob oi∧ob.dirty=false) ∧
  (∀ E',(∀ vs xs,Rs E m vs xs []→Rs E' m vs xs [])→(∀ (k:Nat) (oi:OI),ois[k]?=some oi→E'.al (nid+k)=some oi)→Rs E' .O (Ak nid cs).1 ys [])
 | [],ys,f,nid,h,_=>by
  obtain ⟨rfl,rfl⟩:=h.nil_inv
  exact ⟨[],[],rfl,rfl,rfl,by simp [Ak],fun _ _ _=>.nil⟩
 | c::cs,ys,f,nid,h,ho=>by
  obtain ⟨x,xs,f1,f2,rfl,rfl,h1,h2⟩:=h.uncons
  have hox:x.oneCell'=true:=ho x (by simp)
  have hoxs:ED xs:=fun y hy=>ho y (by simp [hy])
  by_cases hc:∃ sz els,c=.own sz els
  ·obtain ⟨sz,els,rfl⟩:=hc
   obtain ⟨ois,fpl,l1,l2,l3,l4,l5⟩:=Hm (nid+1) h2 hoxs
   have key:∀ (oi:OI) (fp:List Nat),EK E fp ⟨sz,els,false⟩ oi→x=oi.slice→f1=fp→∃ (ois:List OI) (fpl:List (List Nat)),
     ois.length=(Ak nid (.own sz els::cs)).2.length∧fpl.length=(Ak nid (.own sz els::cs)).2.length∧fpl.flatten=f1++f2 ∧
     (∀ (k:Nat) (ob:Ve.Obj),(Ak nid (.own sz els::cs)).2[k]?=some ob→∃ oi fp,ois[k]?=some oi∧fpl[k]?=some fp∧EK E fp ob oi∧ob.dirty=false) ∧
     (∀ E',(∀ vs xs,Rs E m vs xs []→Rs E' m vs xs [])→(∀ (k:Nat) (oi:OI),ois[k]?=some oi→E'.al (nid+k)=some oi)→Rs E' .O (Ak nid (.own sz els::cs)).1 (x::xs) []):=by
    intro oi fp hob hx hf
    refine ⟨oi::ois,fp::fpl,by simp [Ak,l1],by simp [Ak,l2],by simp [l3,hf],?_,?_⟩
    ·intro k ob hk
     cases k with
     | zero=>simp [Ak] at hk;subst hk;exact ⟨oi,fp,rfl,rfl,hob,rfl⟩
     | succ k=>simp only [Ak,List.getElem?_cons_succ] at hk ⊢;exact l4 k ob hk
    ·intro E' hx' hal
     subst hx
     refine Rs.sl (by simpa using hal 0 oi rfl) (l5 E' hx' (fun k oi hk=>?_))
     have:=hal (k+1) oi (by simpa using hk)
     rwa [show nid+(k+1)=nid+1+k from by omega] at this
   cases h1 with
   | own0 hz h=>obtain ⟨_,rfl⟩:=h.nil_inv;exact key ⟨none,sz,0,0,_⟩ [] ⟨rfl,rfl,hz,by simp,rfl,rfl⟩ rfl rfl
   | own hr hs hi h0 =>
    obtain ⟨_,rfl⟩:=h0.nil_inv
    exact key ⟨some _,sz,els.length,_,none⟩ (_::_) ⟨rfl,rfl,hr.pos,hs,_,_,hr,hi,rfl⟩ rfl (by simp)
  ·have hc':∀ sz els,c≠.own sz els:=fun sz els e=>hc ⟨sz,els,e⟩
   rw [EM hc']
   obtain ⟨ois,fpl,l1,l2,l3,l4,l5⟩:=Hm nid h2 hoxs
   have hf1:f1=[]:=by
    cases h1 with
    | agg _ _=>simp [Value.oneCell'] at hox
    | tup _ _=>simp [Value.oneCell'] at hox
    | own0=>exact absurd rfl (hc' _ _)
    | own=>exact absurd rfl (hc' _ _)
    | lit h=>exact h.nil_inv.2
    | fn _ _ h=>exact h.nil_inv.2
    | ip _ _ _ _ _ _ h=>exact h.nil_inv.2
    | isl0 _ _ h=>exact h.nil_inv.2
    | isl _ _ _ _ _ _ _ _ h=>exact h.nil_inv.2
    | sl _ h=>exact h.nil_inv.2
    | slD _ _ h=>exact h.nil_inv.2
    | ptr _ _ h=>exact h.nil_inv.2
    | ptrD _ _ h=>exact h.nil_inv.2
    | asl _ _ h=>exact h.nil_inv.2
    | aslD _ _ h=>exact h.nil_inv.2
    | dead h=>exact h.nil_inv.2
   subst hf1
   refine ⟨ois,fpl,l1,l2,by simpa using l3,l4,fun E' hx' hal=>?_⟩
   have:=((hx' _ _ h1).toO).cons' (l5 E' hx' hal)
   simpa using this
def Ta (E:Env) (m:Md) (nid:Nat) (news:List Ve.Obj) (f:List Nat) (C:Env→Prop):Prop :=
 ∃ (ois:List OI) (fpl:List (List Nat)),ois.length=news.length∧fpl.length=news.length∧fpl.flatten=f ∧
  (∀ (k:Nat) (ob:Ve.Obj),news[k]?=some ob→∃ oi fp,ois[k]?=some oi∧fpl[k]?=some fp∧EK E fp ob oi∧ob.dirty=false) ∧
  (∀ E',(∀ vs xs,Rs E m vs xs []→Rs E' m vs xs [])→(∀ (k:Nat) (oi:OI),ois[k]?=some oi→E'.al (nid+k)=some oi)→C E')
theorem Qr {E:Env} {m:Md} {v:V} {x:Value} {f:List Nat} (nid:Nat) (h:R1 E m v x f) (hn:v.nice1=true):Ta E m nid (HW nid v).2 f (fun E'=>R1 E' .O (HW nid v).1 x []):=by
 have hc:=Ii h hn
 have ho:=Ga hc hn
 obtain ⟨ois,fpl,l1,l2,l3,l4,l5⟩:=Hm nid hc ho
 cases hv:v.isAgg with
 | true =>
  cases v<;>first | (simp [V.isAgg] at hv;done) | skip
  rename_i cs
  obtain ⟨ys,rfl,_⟩:=GY h
  exact ⟨ois,fpl,l1,l2,l3,l4,fun E' h1 h2=>by
   have e:(V.agg cs).cells=cs:=rfl
   have e2:(Value.agg ys.toArray).cells.toList=ys:=by simp [Value.cells]
   have:=l5 E' h1 h2
   rw [e,e2] at this
   exact Rs.agg (f:=[]) this .nil⟩
 | false =>
  have hcs:=V.cells_one hv
  rw [hcs] at l1 l2 l4 l5 hc
  have e:HW nid v=((Ak nid [v]).1.headD .dead,(Ak nid [v]).2):=by cases v<;>first | rfl | (simp [V.isAgg] at hv)
  rw [e]
  refine ⟨ois,fpl,l1,l2,l3,l4,fun E' h1 h2=>?_⟩
  have:=l5 E' h1 h2
  obtain ⟨y,ys,f1,f2,hy,hf,h3,h4⟩:=hc.uncons
  obtain ⟨rfl,rfl⟩:=h4.nil_inv
  have hxe:x.cells.toList=[x]:=by
   have hlen:(Ak nid [v]).1.length=1:=by rw [CG];rfl
   cases h with
   | agg=>simp [V.isAgg] at hv
   | tup=>simp [V.nice1,V.cells,BA,V.one] at hn
   | lit _ =>
    simp only [V.nice1,V.cells,BA,V.one,Bool.and_true] at hn
    cases x<;>first | rfl | (simp at hn)
   | sl _ _=>rename_i oi _;simp only [OI.slice];split<;>rfl
   | dead _=>simp [V.nice1,V.cells,BA,V.one] at hn
   | _=>rfl
  rw [hxe] at this
  have hl:(Ak nid [v]).1.length=1:=by rw [CG];rfl
  generalize (Ak nid [v]).1=L at this hl
  cases L with
  | nil=>simp at hl
  | cons u L =>
   cases L with
   | nil=>exact this
   | cons=>simp at hl
theorem KI {E:Env} {m:Md}:∀ {vs:List V} {xs:List Value} {f:List Nat} (nid:Nat),Rs E m vs xs f→vs.all V.nice1=true →
  Ta E m nid (Bw nid vs).2 f (fun E'=>Rs E' .O (Bw nid vs).1 xs [])
 | [],xs,f,nid,h,_=>by
  obtain ⟨rfl,rfl⟩:=h.nil_inv
  exact ⟨[],[],rfl,rfl,rfl,by simp [Bw],fun _ _ _=>.nil⟩
 | v::vs,xs,f,nid,h,hn=>by
  obtain ⟨x,xs,f1,f2,rfl,rfl,h1,h2⟩:=h.uncons
  simp only [List.all_cons,Bool.and_eq_true] at hn
  obtain ⟨oa,fa,a1,a2,a3,a4,a5⟩:=Qr nid h1 hn.1
  obtain ⟨ob,fb,b1,b2,b3,b4,b5⟩:=KI (nid+(HW nid v).2.length) h2 hn.2
  refine ⟨oa++ob,fa++fb,by simp [Bw,a1,b1],by simp [Bw,a2,b2],by simp [a3,b3],?_,?_⟩
  ·intro k o hk
   simp only [Bw] at hk
   by_cases hlt:k<(HW nid v).2.length
   ·rw [List.getElem?_append_left hlt] at hk
    obtain ⟨oi,fp,c1,c2,c3⟩:=a4 k o hk
    exact ⟨oi,fp,by rw [List.getElem?_append_left (by omega)];exact c1,by rw [List.getElem?_append_left (by omega)];exact c2,c3⟩
   ·rw [List.getElem?_append_right (by omega)] at hk
    obtain ⟨oi,fp,c1,c2,c3⟩:=b4 _ o hk
    exact ⟨oi,fp,by rw [List.getElem?_append_right (by omega),a1];exact c1,by rw [List.getElem?_append_right (by omega),a2];exact c2,c3⟩
  ·intro E' hk hal
   have e1:=a5 E' hk (fun k oi hk=>hal k oi (by rw [List.getElem?_append_left];exact hk;exact (List.getElem?_eq_some_iff.1 hk).1))
   have e2:=b5 E' hk (fun k oi hk=>by
    have:=hal (oa.length+k) oi (by rw [List.getElem?_append_right (by omega)];simpa using hk)
    rw [← a1,Nat.add_assoc];exact this)
   exact e1.cons' e2
theorem Nd {E:Env} {m:Md} {v:V} {x:Value} {f:List Nat} (nid:Nat) (h:R1 E m v x f) (hn:v.nice=true):Ta E m nid (DU nid v).2 f (fun E'=>R1 E' .O (DU nid v).1 x []):=by
 cases v with
 | tup vs =>
  obtain ⟨ys,rfl,h1⟩:=NA h
  obtain ⟨ois,fpl,l1,l2,l3,l4,l5⟩:=KI nid h1 hn
  exact ⟨ois,fpl,l1,l2,l3,l4,fun E' h2 h3=>by simpa [DU] using Rs.tup (l5 E' h2 h3) .nil⟩
 | _=>exact Qr nid h hn
theorem EK.sameP {E E':Env} {fp:List Nat} {ob:Ve.Obj} {oi:OI} (h:EK E fp ob oi) (hd:ob.dirty=false) (hw:E'.w=E.w) (hF:∀ b,E.F b→E'.F b):EK E' fp ob oi:=by
 obtain ⟨h1,h2,h3,h4,h5⟩:=h
 refine ⟨h1,h2,h3,h4,?_⟩
 cases hb:oi.blk with
 | none=>rw [hb] at h5;exact h5
 | some b =>
  rw [hb] at h5
  obtain ⟨ys,fi,a1,a2,a3⟩:=h5
  rw [hd] at a2
  exact ⟨ys,fi,by rw [hw];exact a1,by rw [hd];exact HF a2 rfl hw hF,a3⟩
def DR (w:World) (F:Nat→Prop) (f:List Nat):Env:={ w:=w,F:=F,fps:=fun i=>if i=0 then f else [],al:=fun _=>none,U:=fun _=>False }
theorem SX {w:World} {F:Nat→Prop} {f:List Nat} {b:Nat}:(DR w F f).NO b↔b<w.heap.size∧b∉f:=by
 constructor
 ·intro h;exact ⟨h.1,by have:=h.2 0;simpa [DR] using this⟩
 ·intro h;exact ⟨h.1,fun o=>by simp only [DR];split<;>simp [h.2]⟩
def xW (w:World) (F:Nat→Prop) (f:List Nat) (w':World) (v:V) (y:Value):Prop :=
 ∃ (F':Nat→Prop) (f':List Nat),R1 (DR w' F' f') .P v y f'∧f'.Nodup∧(∀ b∈f',b<w'.heap.size∧(b∈f∨w.heap.size≤b))∧(∀ b,F b→F' b) ∧
  (∀ b,F' b→F b∨((b∈f∨w.heap.size≤b)∧b<w'.heap.size∧b∉f'))∧(∀ b,b<w.heap.size→b∉f→w'.heap[b]?=w.heap[b]?) ∧
  w.heap.size≤w'.heap.size∧w'.os=w.os∧w'.tape=w.tape∧w'.output=w.output
def YT (Pr:Program) (P:FuncId→List V→Option V):Prop :=
 ∀ g xs r,P g xs=some r→r.nice=true∧∀ (w:World) (F:Nat→Prop) (f:List Nat) (args:List Value),Rs (DR w F f) .B xs args f→f.Nodup→(∀ b∈f,b<w.heap.size)→(∀ b,F b→b<w.heap.size∧b∉f) →
  Calls Pr g args.toArray w fun
   | .returned y,w'=>xW w F f w' r y
   | _,_=>False
def VA (Pr:Program) (O:Orc):Prop :=
 ∀ g xs hp n v hp' n',O g xs hp n=some (v,hp',n')→∀ (E:Env) (args:List Value),BE E hp→(∀ i,n≤i→¬ E.U i)→Rs E .O xs args [] →
  Calls Pr g args.toArray E.w fun
   | .returned y,w'=>∃ E',E'.w=w'∧Nx E E'∧BE E' hp'∧R1 E' .O v y []∧n≤n'∧∀ i,n'≤i→¬ E'.U i
   | _,_=>False
end Ve
namespace Ve
open Go
theorem QL (os:List Ve.Obj) (i:Nat):WH os i=os[i]?:=by
 simp only [WH,Cs,Af,Nat.zero_le,true_and,Nat.zero_add,Nat.sub_zero]
 split
 ·rfl
 ·rename_i h;simp only [Nat.not_lt] at h;rw [List.getElem?_eq_none h]
def ER (w:World) (F:Nat→Prop) (ois:List OI) (fpl:List (List Nat)):Env :=
 { w:=w,F:=F,fps:=fun i=>fpl.getD i [],al:=fun i=>ois[i]?,U:=fun i=>i<fpl.length }
theorem Ot {w:World} {F:Nat→Prop} {ois:List OI} {fpl:List (List Nat)} {i:Nat} {fp:List Nat} (h:fpl[i]?=some fp):(ER w F ois fpl).fps i=fp:=by
 simp [ER,h]
theorem FJ {w:World} {F:Nat→Prop} {ois:List OI} {fpl:List (List Nat)} {i b:Nat} (h:b∈(ER w F ois fpl).fps i):∃ fp,fpl[i]?=some fp∧b∈fp:=by
 simp only [ER,List.getD_eq_getElem?_getD] at h
 cases hf:fpl[i]? with
 | none=>simp [hf] at h
 | some fp=>exact ⟨fp,rfl,by simpa [hf] using h⟩
theorem Mo {w:World} {F:Nat→Prop} {ois:List OI} {fpl:List (List Nat)} {b:Nat} (h:(DR w F fpl.flatten).NO b):(ER w F ois fpl).NO b:=by
 obtain ⟨h1,h2⟩:=SX.1 h
 refine ⟨h1,fun o ho=>?_⟩
 obtain ⟨fp,h3,h4⟩:=FJ ho
 exact h2 (List.mem_flatten.2 ⟨fp,List.mem_of_getElem? h3,h4⟩)
theorem Ou {w:World} {F:Nat→Prop} {ois:List OI} {fpl:List (List Nat)} (f:List Nat):Ext (DR w F fpl.flatten) (ER w F ois fpl) f :=
 ⟨fun _ h=>⟨Mo h,rfl⟩,fun _ h=>⟨h,rfl⟩,fun _ _=>rfl,fun _ _ h=>by simp [DR] at h,fun _ _ h=>by simp [DR] at h⟩
theorem Se {E:Env} {m:Md} {v:V} {x:Value} {f:List Nat} (h:R1 E m v x f) (hp:v.perm=true):R1 E .P v x f:=h.permP (by simp [AD,hp])
theorem FR {E:Env} {hp:Hp} (hh:BE E hp):∀ {ks:List Nat},ks.Nodup→(ks.flatMap E.fps).Nodup
 | [],_=>by simp
 | k::ks,h=>by
  rw [List.flatMap_cons,List.nodup_append]
  obtain ⟨h1,h2⟩:=List.nodup_cons.1 h
  refine ⟨hh.nodup k,FR hh h2,fun x hx y hy e=>?_⟩
  subst e
  obtain ⟨k',h3,h4⟩:=List.mem_flatMap.1 hy
  exact h1 (hh.disj _ _ _ hx h4▸h3)
theorem Qn {Pr:Program} {O:Orc} (hO:VA Pr O):YT Pr (Aa O):=by
 intro g xs r hr
 simp only [Aa] at hr
 split at hr
 ·rename_i v hp' n' hv
  split at hr
  ·rename_i v' ks hcl
   split at hr
   ·rename_i hc
    obtain ⟨hnd,hperm,hnice,hxs⟩:=hc
    simp only [Option.some.injEq] at hr;subst hr
    refine ⟨hnice,fun w F f args hrel hfn hlt hF=>?_⟩
    obtain ⟨ois,fpl,l1,l2,l3,l4,l5⟩:=KI 0 hrel hxs
    subst l3
    have hfp:∀ {i fp b},fpl[i]?=some fp→b∈fp→b∈fpl.flatten:=fun h1 h2=>List.mem_flatten.2 ⟨_,List.mem_of_getElem? h1,h2⟩
    have hh:BE (ER w F ois fpl) (WH (Bw 0 xs).2):=by
     refine ⟨fun o ob ho=>?_,fun o ho=>?_,fun o=>?_,fun o o' b h1 h2=>?_,fun o b hb=>?_,fun b hb=>?_⟩
     ·rw [QL] at ho
      obtain ⟨oi,fp,h1,h2,h3,h4⟩:=l4 o ob ho
      refine ⟨oi,h1,(List.getElem?_eq_some_iff.1 h2).1,?_⟩
      rw [Ot h2]
      exact h3.ext (Ou fp)
     ·rw [QL] at ho
      have:(Bw 0 xs).2.length≤o:=List.getElem?_eq_none_iff.1 ho
      exact ⟨List.getElem?_eq_none (by omega),by simp [ER,List.getElem?_eq_none (show fpl.length≤o by omega)]⟩
     ·cases h:fpl[o]? with
      | none=>simp [ER,h]
      | some fp=>rw [Ot h];exact CV hfn h
     ·obtain ⟨fp,h3,h4⟩:=FJ h1
      obtain ⟨fp',h5,h6⟩:=FJ h2
      exact Fq hfn h3 h5 h4 h6
     ·obtain ⟨fp,h3,h4⟩:=FJ hb
      exact hlt b (hfp h3 h4)
     ·exact Mo (SX.2 (hF b hb))
    have hcall:=(hO _ _ _ _ _ _ _ hv) (ER w F ois fpl) args hh (fun i hi hu=>by simp only [ER] at hu;omega)
     (l5 _ (fun _ _ h=>h.ext (Ou [])) (fun k oi hk=>by simpa [ER] using hk))
    refine hcall.mono (fun e w' he=>?_)
    cases e with
    | panicked=>exact he.elim
    | outgrown=>exact he.elim
    | returned y =>
     obtain ⟨E',hw,hN,hh',hy,_⟩:=he
     subst hw
     obtain ⟨gf,hg1,hg2⟩:=Ih hh' depth 0 v (v',ks) y [] hcl hy
     simp only [List.nil_append] at hg2
     have hP:=Se hg1 hperm
     have hmem:∀ {b},b∈gf→∃ k∈ks,b∈E'.fps k:=fun hb=>by have:=(hg2.mem_iff).1 hb;simpa using this
     have hback:∀ {b o},b∈E'.fps o→b∈fpl.flatten∨w.heap.size≤b:=by
      intro b o hb
      rcases hN.own o b hb with ⟨o',h⟩ | h
      ·obtain ⟨fp,h1,h2⟩:=FJ h;exact .inl (hfp h1 h2)
      ·exact .inr h
     refine ⟨E'.F,gf,HF hP rfl rfl (fun _ h=>h),(hg2.nodup_iff).2 (FR hh' hnd),fun b hb=>?_,fun b hb=>(hN.ext.F b hb).1,fun b hb=>?_,fun b h1 h2=>?_,hN.size,hN.os,hN.tape,hN.output⟩
     ·obtain ⟨k,_,hk⟩:=hmem hb
      exact ⟨hh'.lt k b hk,hback hk⟩
     ·have hno:=hh'.fno b hb
      rcases hN.fr b hb with h | ⟨o,h⟩ | h
      ·exact .inl h
      ·obtain ⟨fp,h1,h2⟩:=FJ h
       exact .inr ⟨.inl (hfp h1 h2),hno.1,fun h=>by obtain ⟨k,_,hk⟩:=hmem h;exact hno.2 k hk⟩
      ·exact .inr ⟨.inr h,hno.1,fun h=>by obtain ⟨k,_,hk⟩:=hmem h;exact hno.2 k hk⟩
     ·exact (hN.ext.no b (Mo (SX.2 ⟨h1,h2⟩))).2
   ·cases hr
  ·cases hr
 ·cases hr
theorem eJ (E:Env):E.bare=DR E.w E.F []:=by
 simp only [Env.bare,DR,ite_self]
theorem KU {E:Env} {hp:Hp} (hh:BE E hp):∀ {ms:List Bool} {vs:List V} {xs:List Value} {r:List V × List Nat},(Eu ms vs).run hp=some r→Rs E .O vs xs [] →
  ∃ f,Rs E .P r.1 xs f∧f.Perm (r.2.flatMap E.fps)
 | ms,[],xs,r,hr,hs=>by
  simp only [Eu,AM.run,Option.some.injEq] at hr;subst hr
  obtain ⟨rfl,_⟩:=hs.nil_inv
  exact ⟨[],.nil,by simp⟩
 | ms,v::vs,xs,r,hr,hs=>by
  obtain ⟨x,xs,f1,f2,rfl,hf,h1,h2⟩:=hs.uncons
  obtain ⟨rfl,rfl⟩:f1=[]∧f2=[]:=by simpa using hf.symm
  unfold Eu at hr
  split at hr
  ·rw [AM.run_bind] at hr
   obtain ⟨y,hy,hr⟩:=Option.bind_eq_some_iff.1 hr
   split at hr
   ·rename_i hperm
    rw [AM.run_bind] at hr
    obtain ⟨z,hz,hr⟩:=Option.bind_eq_some_iff.1 hr
    simp only [AM.run,Option.some.injEq] at hr;subst hr
    obtain ⟨g,h3,h4⟩:=Ih hh depth 0 v y x [] hy h1
    obtain ⟨f,h5,h6⟩:=KU hh hz h2
    refine ⟨g++f,(Se h3 hperm).cons' h5,?_⟩
    simp only [List.flatMap_append]
    simp only [List.nil_append] at h4
    exact h4.append h6
   ·simp [AM.run] at hr
  ·split at hr
   ·rename_i hperm
    rw [AM.run_bind] at hr
    obtain ⟨z,hz,hr⟩:=Option.bind_eq_some_iff.1 hr
    simp only [AM.run,Option.some.injEq] at hr;subst hr
    obtain ⟨f,h5,h6⟩:=KU hh hz h2
    exact ⟨f,by simpa using (Se h1 hperm).cons' h5,h6⟩
   ·simp [AM.run] at hr
theorem Vw {E:Env} {hp:Hp} (hh:BE E hp) {ms:List Bool} {vs:List V} {xs:List Value} {r:List V × List Nat} (hr:(Mb ms vs).run hp=some r) (hs:Rs E .O vs xs []) :
  ∃ f,Rs (DR E.w E.F f) .B r.1 xs f∧f.Perm (r.2.flatMap E.fps):=by
 unfold Mb at hr
 split at hr
 ·rw [AM.run_bind] at hr
  obtain ⟨z,hz,hr⟩:=Option.bind_eq_some_iff.1 hr
  simp only [AM.run,Option.some.injEq] at hr;subst hr
  refine ⟨[],?_,by simp⟩
  rw [← eJ]
  exact (Lg hh depth).list hz hs
 ·obtain ⟨f,h1,h2⟩:=KU hh hr hs
  have h3:Rs (DR E.w E.F f) .P r.1 xs f:=HF h1 rfl rfl (fun _ h=>h)
  exact ⟨f,h3.mode (by simp),h2⟩
theorem a3t (v:V):v.fz.one=v.one:=by cases v<;>simp [V.fz,V.one]
theorem Ox:∀ (vs:List V),BA (fzs vs)=BA vs
 | []=>rfl
 | v::vs=>by simp [fzs,BA,a3t,Ox vs]
theorem jW (v:V):v.fz.nice1=v.nice1:=by simp [V.nice1,OV,Ox]
theorem sZ (v:V) (h:v.nice=true):v.fz.nice=true:=by
 cases v with
 | tup vs =>
  simp only [V.nice,V.fz] at h ⊢
  rw [List.all_eq_true] at h ⊢
  intro e he
  obtain ⟨e',h1,rfl⟩:=Sw he
  rw [jW];exact h e' h1
 | _=>simp_all [V.nice,V.fz,V.nice1,V.cells,BA,V.one,Ox]
theorem IK:∀ (a b:List (Nat × Option Ve.Obj)) (hp:Hp),Av hp (a++b)=Av (Av hp a) b
 | [],b,hp=>rfl
 | (o,x)::a,b,hp=>by simp only [List.cons_append,Av];exact IK a b _
theorem Sk {Pr:Program} {P:FuncId→List V→Option V} (hP:YT Pr P) {E:Env} {hp:Hp} (hh:BE E hp) {a:Act} {o:Oper} {g:FuncId} {xs:List V} {args:List Value}
  (hrun:(execOp a.eval o).run Pr E.w=.ok (.enter g args.toArray) E.w) (hxs:Rs E .O xs args []) {owns:List Bool} {nid:Nat} {frz:Bool} {e:Eff}
  (he:(Hq P owns nid frz g xs).run hp=some e) (hU:∀ i,nid≤i→i<nid+e.new→¬ E.U i):Mop Pr E (Av hp e.upd) a o e.v nid e.new:=by
 unfold Hq at he
 rw [AM.run_bind] at he
 obtain ⟨x,hx,he⟩:=Option.bind_eq_some_iff.1 he
 split at he
 ·rename_i hnd
  split at he
  ·rename_i r hr
   simp only [AM.run,Option.some.injEq] at he;subst he
   obtain ⟨hnice,hcall⟩:=hP _ _ _ hr
   obtain ⟨f,hf1,hf2⟩:=Vw hh hx hxs
   have hmem:∀ {b},b∈f↔∃ k∈x.2,b∈E.fps k:=fun {b}=>by rw [hf2.mem_iff];simp
   intro K Q hK
   unfold Oper.wp
   rw [hrun,Oper.upon_enter]
   refine (hcall E.w E.F f args hf1 ((hf2.nodup_iff).2 (FR hh hnd)) (fun b hb=>?_) (fun b hb=>?_)).mono (fun e w' he=>?_)
   ·obtain ⟨k,_,hk⟩:=hmem.1 hb;exact hh.lt k b hk
   ·exact ⟨(hh.fno b hb).1,fun h=>by obtain ⟨k,_,hk⟩:=hmem.1 h;exact (hh.fno b hb).2 k hk⟩
   cases e with
   | panicked=>exact he.elim
   | outgrown=>exact he.elim
   | returned y =>
    obtain ⟨F',f',hy,hfn,hfb,hFF,hFb,hkeep,hsz,hos,htp,hout⟩:=he
    -- what comes in
    have himp:∃ (F'':Nat→Prop) (ff:List Nat),ff.Nodup∧(∀ b∈ff,b∈f')∧(∀ b,F' b→F'' b)∧(∀ b,F'' b→F' b∨(b∈f'∧b∉ff)) ∧
      Ta (DR w' F'' f') .P nid (DU nid (if frz then r.fz else r)).2 ff (fun E'=>R1 E' .O (DU nid (if frz then r.fz else r)).1 y []):=by
     cases frz with
     | false =>
      exact ⟨F',f',hfn,fun _ h=>h,fun _ h=>h,fun _ h=>.inl h,Nd nid hy hnice⟩
     | true =>
      refine ⟨fun b=>F' b∨b∈f',[],by simp,by simp,fun _ h=>.inl h,fun b h=>h.imp id fun h=>⟨h,by simp⟩,Nd nid ?_ (sZ r hnice)⟩
      have h3:Rs (DR w' (fun b=>F' b∨b∈f') f') .P (fzs [r]) [y] []:=a5o (E':=DR w' (fun b=>F' b∨b∈f') f') hy rfl rfl (fun b h=>Or.inl h) (fun b h=>Or.inr h)
      simpa [fzs] using h3
    obtain ⟨F'',ff,hffn,hffs,hF1,hF2,ois,fpl,l1,l2,l3,l4,l5⟩:=himp
    subst l3
    simp only at hU hK ⊢
    have hsw:In E w' F'' x.2 nid ois fpl:=by
     refine ⟨hsz,hos,htp,hout,fun c hc hk=>hkeep c hc (fun h=>?_),by omega,fun i h1 h2=>hU i h1 (by omega),fun c hc=>?_,hffn,fun b hb=>hF1 b (hFF b hb),fun b hb=>?_⟩
     ·obtain ⟨k,h1,h2⟩:=hmem.1 h;exact hk k h1 h2
     ·obtain ⟨h1,h2⟩:=hfb c (hffs c hc)
      exact ⟨h2.imp (fun h=>hmem.1 h) id,h1⟩
     ·rcases hF2 b hb with h | ⟨h1,h2⟩
      ·rcases hFb b h with h | ⟨h1,h2,h3⟩
       ·exact .inl h
       ·exact .inr ⟨h1.imp (fun h=>hmem.1 h) id,h2,fun h=>h3 (hffs b h)⟩
      ·obtain ⟨h3,h4⟩:=hfb b h1
       exact .inr ⟨h4.imp (fun h=>hmem.1 h) id,h3,h2⟩
    obtain ⟨h1,h2⟩:=In.fin hh hsw (news:=(DU nid (if frz then r.fz else r)).2) (by omega) (fun k ob hk=>by
      obtain ⟨oi,fp,c1,c2,c3,c4⟩:=l4 k ob hk
      exact ⟨oi,fp,c1,c2,c3.sameP c4 rfl (fun _ h=>h)⟩) (hp':=Av hp (x.2.map (·,none)++Ci nid (DU nid (if frz then r.fz else r)).2)) (fun i=>by
      rw [IK,Cs,Kf])
    refine hK _ y h2 h1 (l5 _ (fun _ _ h=>HF h rfl rfl (fun _ h=>h)) (fun k oi hk=>?_)) (fun i=>?_)
    ·have hlt:k<ois.length:=(List.getElem?_eq_some_iff.1 hk).1
     simp only [Env.swap]
     rw [if_pos (by omega)]
     rw [← hk];congr 1;omega
    ·simp only [Env.swap,l2]
  ·simp [AM.run] at he
 ·simp [AM.run] at he
end Ve
namespace Ve
open Go
def PX (P:Program) (E:Env) (hp':Hp) (a:Act) (o:Oper) (v:V) (nid n':Nat):Prop :=
 ∀ (K:Act→World→Prop) (Q:Exit→Act→World→Prop),
  (∀ E' y,Nx E E'→BE E' hp'→R1 E' .O v y []→(∀ i,E'.U i→E.U i∨(nid≤i∧i<n'))→K (a.put o.dst y) E'.w)→o.wp P a E.w K Q
theorem Mop.to {P:Program} {E:Env} {hp':Hp} {a:Act} {o:Oper} {v:V} {nid new:Nat} (h:Mop P E hp' a o v nid new):PX P E hp' a o v nid (nid+new) :=
 fun K Q hk=>h K Q (fun E' y h1 h2 h3 h4=>hk E' y h1 h2 h3 (fun i hi=>(h4 i).1 hi))
def wT (P:Program) (E:Env) (hp':Hp) (a:Act) (o:Oper) (v:V) (n n':Nat):Prop :=
 ∀ (K:Act→World→Prop) (Q:Exit→Act→World→Prop),
  (∀ E' y,Nx E E'→BE E' hp'→R1 E' .O v y []→n≤n'→(∀ i,n'≤i→¬ E'.U i)→K (a.put o.dst y) E'.w)→o.wp P a E.w K Q
theorem PX.toN {P:Program} {E:Env} {hp':Hp} {a:Act} {o:Oper} {v:V} {n n':Nat} (h:PX P E hp' a o v n n') (hU:∀ i,n≤i→¬ E.U i) (hn:n≤n'):wT P E hp' a o v n n' :=
 fun K Q hk=>h K Q (fun E' y h1 h2 h3 h4=>hk E' y h1 h2 h3 hn (fun i hi hu=>by
  rcases h4 i hu with h5 | h5
  ·exact hU i (Nat.le_trans hn hi) h5
  ·omega))
theorem tC {Pr:Program} {O:Orc} (hO:VA Pr O) {E:Env} {hp:Hp} (hh:BE E hp) {a:Act} {o:Oper} {g:FuncId} {xs:List V} {args:List Value}
  (hrun:(execOp a.eval o).run Pr E.w=.ok (.enter g args.toArray) E.w) (hxs:Rs E .O xs args []) {n n':Nat} {v:V} {hp':Hp} (he:O g xs hp n=some (v,hp',n')) (hU:∀ i,n≤i→¬ E.U i) :
  wT Pr E hp' a o v n n':=by
 intro K Q hK
 unfold Oper.wp
 rw [hrun,Oper.upon_enter]
 refine ((hO _ _ _ _ _ _ _ he) E args hh hU hxs).mono (fun e w' he=>?_)
 cases e with
 | panicked=>exact he.elim
 | outgrown=>exact he.elim
 | returned y =>
  obtain ⟨E',rfl,h1,h2,h3,h4,h5⟩:=he
  exact hK E' y h1 h2 h3 h4 h5
def Dm (Pr:Program) (g:FuncId) (sz bytes:Nat):Prop :=
 ∀ (w:World) (xv:Value) (m:Nat) (news:List Value),ED news→news.length=m*sz→((m=0∧∃ ad c,xv=.slice ad 0 c)∨∃ b off c,xv=.slice (some ⟨b,off,none⟩) m c∧w.rangeAt b off news∧m≤c) →
  m*bytes≤140737488355328→0<sz→Calls Pr g #[xv] w fun
   | .returned y,w'=>BU w w'∧((m=0∧∃ ad,y=.slice ad 0 0)∨∃ b cap',y=.slice (some ⟨b,0,none⟩) m cap'∧El w' b sz m cap' news∧w.heap.size≤b∧b<w'.heap.size)
   | _,_=>False
def aI (Pr:Program) (g:FuncId) (sz bytes:Nat):Prop :=
 ∀ (w:World) (dv:Value) (n cap:Nat) (ys:List Value) (gb:Option Nat) (i xb xc:Nat) (news:List Value),
  ((gb=none∧(∃ ad,dv=.slice ad 0 0)∧n=0∧ys=[])∨∃ b,gb=some b∧dv=.slice (some ⟨b,0,none⟩) n cap∧El w b sz n cap ys∧b≠xb) →
  El w xb sz 1 xc news→i≤n→(n+1)*bytes≤140737488355328→Calls Pr g #[dv,.int .i64 i,.slice (some ⟨xb,0,none⟩) 1 xc] w fun
   | .returned y,w'=>(∃ b,gb=some b∧y=.slice (some ⟨b,0,none⟩) (n+1) cap∧El w' b sz (n+1) cap (ys.take (i*sz)++news++ys.drop (i*sz))∧(∀ c,c≠b→w'.heap[c]?=w.heap[c]?) ∧
      w'.heap.size=w.heap.size∧w'.os=w.os∧w'.tape=w.tape∧w'.output=w.output) ∨
     (∃ b cap',y=.slice (some ⟨b,0,none⟩) (n+1) cap'∧El w' b sz (n+1) cap' (ys.take (i*sz)++news++ys.drop (i*sz))∧BU w w'∧w.heap.size≤b∧b<w'.heap.size)
   | _,_=>False
def Tb (Pr:Program) (T:Tbl):Prop:=∀ g d sz bytes,T g=some d→d.clone=some (sz,bytes)→(d.owns=[]→Dm Pr g sz bytes)∧(d.owns≠[]→aI Pr g sz bytes)
def dE:V→Value
 | .lit v=>v
 | _=>undef
theorem Lt {E:Env} {m:Md}:∀ (vs:List V) (ys:List Value) (f:List Nat),vs.all V.isLit=true→Rs E m vs ys f→ys=vs.map dE∧f=[]
 | [],ys,f,_,h=>h.nil_inv
 | v::vs,ys,f,hl,h=>by
  simp only [List.all_cons,Bool.and_eq_true] at hl
  obtain ⟨x,xs,f1,f2,rfl,rfl,h1,h2⟩:=h.uncons
  obtain ⟨e1,e2⟩:=Lt vs xs f2 hl.2 h2
  subst e1 e2
  cases v with
  | lit u=>obtain ⟨rfl,rfl⟩:=BX h1;exact ⟨rfl,rfl⟩
  | _=>simp [V.isLit] at hl
theorem NG {E:Env} {m:Md}:∀ (vs:List V),vs.all V.isLit=true→Rs E m vs (vs.map dE) []
 | [],_=>.nil
 | v::vs,hl=>by
  simp only [List.all_cons,Bool.and_eq_true] at hl
  cases v with
  | lit u=>exact .lit (NG vs hl.2)
  | _=>simp [V.isLit] at hl
theorem EX:∀ {els:List V},KL els=true→(AG els).all V.isLit=true
 | [],_=>rfl
 | e::els,h=>by
  simp only [KL,List.all_cons,Bool.and_eq_true] at h
  simp only [AG,List.map_cons,List.flatten_cons,List.all_append,Bool.and_eq_true]
  exact ⟨h.1,EX (els:=els) h.2⟩
theorem ZY {sz:Nat}:∀ (els:List V) (n:Nat),(∀ e∈els,e.cells.length=sz)→AG (els.take n)=(AG els).take (n*sz)∧AG (els.drop n)=(AG els).drop (n*sz)
 | [],n,_=>by simp [AG]
 | e::els,0,_=>by simp [AG]
 | e::els,n+1,h=>by
  have h0:=h e (by simp)
  obtain ⟨h1,h2⟩:=ZY els n (fun x hx=>h x (by simp [hx]))
  simp only [List.take_succ_cons,List.drop_succ_cons]
  have e1:AG (e::els)=e.cells++AG els:=by simp [AG]
  have e2:AG (e::els.take n)=e.cells++AG (els.take n):=by simp [AG]
  have e3:(n+1)*sz=e.cells.length+n*sz:=by rw [h0,Nat.add_mul];omega
  rw [e1,e2,e3,List.take_append,List.drop_append,h1,h2]
  simp [List.take_of_length_le,List.drop_of_length_le]
theorem ID {nid sz bytes sz':Nat} {els:List V} {d:Bool} {hp:Hp} {e:Eff} (he:(Gg nid sz bytes sz' els d).run hp=some e):e.new=1:=by
 unfold Gg at he
 split at he
 ·simp only [AM.run,Option.some.injEq] at he;subst he;rfl
 ·simp [AM.run] at he
theorem dV {nid sz bytes:Nat} {v:V} {hp:Hp} {e:Eff} (he:(Iw nid sz bytes v).run hp=some e):e.new=1:=by
 unfold Iw at he
 split at he
 ·exact ID he
 ·exact ID he
 ·rw [AM.run_bind] at he
  obtain ⟨r,hr,he⟩:=Option.bind_eq_some_iff.1 he
  split at he
  ·split at he
   ·exact ID he
   ·simp [AM.run] at he
  ·simp [AM.run] at he
theorem Iy {Pr:Program} {E:Env} {hp:Hp} (hh:BE E hp) {a:Act} {o:Oper} {g:FuncId} {x:Value} {nid sz bytes sz':Nat} {els:List V} {d:Bool} (hC:Dm Pr g sz bytes)
  (hrun:(execOp a.eval o).run Pr E.w=.ok (.enter g #[x]) E.w) {e:Eff} (he:(Gg nid sz bytes sz' els d).run hp=some e) (hU:¬ E.U nid)
  {ys:List Value} (h1:Rs E (if d then .O else .P) (AG els) ys []) (hone:ED ys) (hun:∀ e∈els,e.cells.length=sz')
  (hx:(els.length=0∧∃ ad c,x=.slice ad 0 c)∨∃ b off c,x=.slice (some ⟨b,off,none⟩) els.length c∧E.w.rangeAt b off ys∧els.length≤c) :
  PX Pr E (Av hp e.upd) a o e.v nid (nid+e.new):=by
 unfold Gg at he
 split at he
 ·rename_i hc
  obtain ⟨hb,hpos,rfl⟩:=hc
  simp only [AM.run,Option.some.injEq] at he;subst he
  intro K Q hK
  unfold Oper.wp
  rw [hrun,Oper.upon_enter]
  have hl:ys.length=els.length*sz':=by rw [h1.length,Du els sz' hun]
  refine (hC E.w x els.length ys hone hl hx (EF hb) hpos).mono (fun e w' he=>?_)
  cases e with
  | panicked=>exact he.elim
  | outgrown=>exact he.elim
  | returned y =>
   obtain ⟨hlat,hy⟩:=he
   have fin:∀ (oi:OI) (fp:List Nat),oi.slice=y→(∀ b∈fp,E.w.heap.size≤b∧b<w'.heap.size)→fp.Nodup→(∀ E',E'.w=w'→Rs E' (if d then .O else .P) (AG els) ys []→EK E' fp ⟨sz',els,d⟩ oi)→K (a.put o.dst y) w':=by
    intro oi fp hs hfp hnd hob
    have hx:=Ext.born hh hlat hU oi hfp hnd (f:=[]) (by simp)
    obtain ⟨h2,h3⟩:=hh.born hlat hU oi hfp hnd (hob (E.born w' nid oi fp) rfl (h1.ext hx))
    refine hK _ y h3 h2 ?_ (fun i hi=>hi.imp id fun h=>⟨by omega,by simp only;omega⟩)
    subst hs
    exact Rs.sl (Bv _ _ _) .nil
   rcases hy with ⟨h0,ad,rfl⟩ | ⟨b,cap',rfl,hrow,hge,hlt⟩
   ·have he0:els=[]:=List.eq_nil_of_length_eq_zero h0
    subst he0
    exact fin ⟨none,sz',0,0,ad⟩ [] rfl (by simp) (by simp) (fun E' _ _=>⟨rfl,rfl,hpos,by simp,rfl,rfl⟩)
   ·refine fin ⟨some b,sz',els.length,cap',none⟩ [b] rfl (fun b' hb=>by simp only [List.mem_singleton] at hb;subst hb;exact ⟨hge,hlt⟩) (by simp) (fun E' hw hr=>?_)
    subst hw
    exact ⟨rfl,rfl,hpos,hun,ys,[],hrow,hr,rfl⟩
 ·simp [AM.run] at he
theorem cZ {Pr:Program} {E:Env} {hp:Hp} (hh:BE E hp) {a:Act} {o:Oper} {g:FuncId} {v:V} {x:Value} {nid sz bytes:Nat} (hC:Dm Pr g sz bytes)
  (hrun:(execOp a.eval o).run Pr E.w=.ok (.enter g #[x]) E.w) (hxs:R1 E .O v x []) {e:Eff} (he:(Iw nid sz bytes v).run hp=some e) (hU:¬ E.U nid) :
  PX Pr E (Av hp e.upd) a o e.v nid (nid+e.new):=by
 unfold Iw at he
 split at he
 ·rename_i p nn sz' els
  have hun:∃ ys,Rs E (pm p) (AG els) ys []∧ED ys∧(∀ e∈els,e.cells.length=sz')∧((els.length=0∧∃ ad c,x=.slice ad 0 c)∨∃ b off c,x=.slice (some ⟨b,off,none⟩) els.length c∧E.w.rangeAt b off ys∧els.length≤c):=by
   cases hxs with
   | isl0 _ _ _=>exact ⟨[],.nil,by intro y hy;simp at hy,by simp,.inl ⟨rfl,_,_,rfl⟩⟩
   | isl hc _ _ _ hu h1 hr hone _=>exact ⟨_,h1,hone,hu,.inr ⟨_,_,_,rfl,hr,hc⟩⟩
  obtain ⟨ys,h1,h2,h3,h4⟩:=hun
  refine Iy hh hC hrun he hU (ys:=ys) ?_ h2 h3 h4
  cases p with
  | true=>simpa [pm] using h1
  | false=>simpa [pm] using h1.toO
 ·obtain ⟨rfl,_⟩:=BX hxs
  exact Iy hh hC hrun he hU (ys:=[]) .nil (by intro y hy;simp at hy) (by simp) (.inl ⟨rfl,_,_,rfl⟩)
 ·rw [AM.run_bind] at he
  obtain ⟨r,hr,he⟩:=Option.bind_eq_some_iff.1 he
  have hre:=Lg hh depth _ _ _ _ hr hxs
  split at he
  ·rename_i p nn sz' els
   split at he
   ·rename_i hperm
    have hun:∃ ys,Rs E.bare .B (AG els) ys []∧ED ys∧(∀ e∈els,e.cells.length=sz')∧((els.length=0∧∃ ad c,x=.slice ad 0 c)∨∃ b off c,x=.slice (some ⟨b,off,none⟩) els.length c∧E.w.rangeAt b off ys∧els.length≤c):=by
     cases hre with
     | isl0 _ _ _=>exact ⟨[],.nil,by intro y hy;simp at hy,by simp,.inl ⟨rfl,_,_,rfl⟩⟩
     | isl hc _ _ _ hu h1 hr hone _=>exact ⟨_,h1.mode (by cases p<;>simp [pm]),hone,hu,.inr ⟨_,_,_,rfl,hr,hc⟩⟩
    obtain ⟨ys,h1,h2,h3,h4⟩:=hun
    refine Iy hh hC hrun he hU (ys:=ys) ?_ h2 h3 h4
    have hpf:AD (AG els)=true:=by
     have happ:∀ (a b:List V),AD (a++b)=(AD a&&AD b):=by
      intro a b;induction a with
      | nil=>simp [AD]
      | cons u a iha=>simp [AD,iha,Bool.and_assoc]
     clear h1 h3 h4 hre hr he
     induction els with
     | nil=>rfl
     | cons u l ih =>
      simp only [AD,Bool.and_eq_true] at hperm
      simp only [AG,List.map_cons,List.flatten_cons,happ,Hk,hperm.1,Bool.true_and]
      exact ih hperm.2
    simpa using HF (E':=E) (h1.permP hpf) rfl rfl (fun _ h=>h)
   ·simp [AM.run] at he
  ·simp [AM.run] at he
theorem WE {nid sz bytes:Nat} {s i v:V} {hp:Hp} {e:Eff} (he:(Ho nid sz bytes s i v).run hp=some e):e.new=1:=by
 unfold Ho at he
 split at he
 ·split at he
  ·simp only [AM.run_rd,Option.bind_eq_some_iff] at he
   obtain ⟨ob,_,ob2,_,he⟩:=he
   unfold Sq at he
   split at he
   ·simp only [AM.run,Option.some.injEq] at he;subst he;rfl
   ·simp [AM.run] at he
  ·simp [AM.run] at he
 ·simp [AM.run] at he
theorem Ws {Pr:Program} {E:Env} {hp:Hp} (hh:BE E hp) {a:Act} {o:Oper} {g:FuncId} {s i v:V} {x y z:Value} {nid sz bytes:Nat} (hC:aI Pr g sz bytes)
  (hrun:(execOp a.eval o).run Pr E.w=.ok (.enter g #[x,y,z]) E.w) (h1:R1 E .O s x []) (h2:R1 E .O i y []) (h3:R1 E .O v z []) {e:Eff} (he:(Ho nid sz bytes s i v).run hp=some e) (hU:∀ i,nid≤i→i<nid+1→¬ E.U i) :
  PX Pr E (Av hp e.upd) a o e.v nid (nid+e.new):=by
 unfold Ho at he
 split at he
 ·rename_i p n p2
  split at he
  ·rename_i hn
   obtain ⟨N,rfl⟩:∃ N:Nat,n=(N:Int):=⟨n.toNat,by omega⟩
   simp only [AM.run_rd,Option.bind_eq_some_iff,Int.toNat_natCast] at he
   obtain ⟨ob,hob,ob2,hob2,he⟩:=he
   unfold Sq at he
   split at he
   ·rename_i hc
    obtain ⟨c1,c2,c3,c4,c5,c8,c9,c10⟩:=hc
    simp only [AM.run,Option.some.injEq] at he;subst he
    obtain ⟨rfl,_⟩:=BX h2
    obtain ⟨oi,hal,hUo,hsz,hlen,hpos,hun,hblk⟩:=hh.objs p ob hob
    obtain ⟨oi2,hal2,hUo2,hsz2,hlen2,hpos2,hun2,hblk2⟩:=hh.objs p2 ob2 hob2
    have ex:x=oi.slice:=by
     cases h1 with
     | slD q1 _ _=>rw [hal] at q1;cases q1
     | sl q1 _=>rw [hal] at q1;cases q1;rfl
    have ez:z=oi2.slice:=by
     cases h3 with
     | slD q1 _ _=>rw [hal2] at q1;cases q1
     | sl q1 _=>rw [hal2] at q1;cases q1;rfl
    subst ex ez
    rw [c2] at hsz hpos hun
    rw [c3] at hsz2 hpos2 hun2
    have hb':(ob.els.length+1)*bytes≤140737488355328:=EF c10
    cases hk2:oi2.blk with
    | none=>rw [hk2] at hblk2;rw [hblk2.1] at c4;simp at c4
    | some b2 =>
     rw [hk2] at hblk2
     obtain ⟨news,f2,hrow2,hrs2,hfp2⟩:=hblk2
     rw [c3,c4] at hrow2
     obtain ⟨e1,e2⟩:=Lt _ _ _ (EX c9) hrs2
     subst e1 e2
     have hz:oi2.slice=.slice (some ⟨b2,0,none⟩) 1 oi2.cap:=by simp [OI.slice,hk2,hlen2,c4]
     rw [hz] at hrun
     have main:∀ (gb:Option Nat) (ys:List Value),
       ((gb=none∧(∃ ad,oi.slice=.slice ad 0 0)∧ob.els.length=0∧ys=[])∨∃ b,gb=some b∧oi.slice=.slice (some ⟨b,0,none⟩) ob.els.length oi.cap∧El E.w b sz ob.els.length oi.cap ys∧b≠b2) →
       ys=(AG ob.els).map dE→(∀ b,gb=some b→b∈E.fps p)→PX Pr E (Av hp [(nid,some ⟨sz,ob.els.take N++ob2.els++ob.els.drop N,false⟩),(p,none),(p2,none)]) a o (.sl nid) nid (nid+1):=by
      intro gb ys hd hys hgb K Q hK
      unfold Oper.wp
      rw [hrun,Oper.upon_enter]
      refine (hC E.w oi.slice ob.els.length oi.cap ys gb N b2 oi2.cap _ hd hrow2 c1 hb').mono (fun e w' he=>?_)
      have hnew:ys.take (N*sz)++(AG ob2.els).map dE++ys.drop (N*sz)=(AG (ob.els.take N++ob2.els++ob.els.drop N)).map dE:=by
       obtain ⟨t1,t2⟩:=ZY ob.els N hun
       rw [JB,JB,t1,t2,hys,List.map_append,List.map_append,List.map_take,List.map_drop]
      have hlits:(AG (ob.els.take N++ob2.els++ob.els.drop N)).all V.isLit=true:=by
       refine EX ?_
       simp only [KL,List.all_append,Bool.and_eq_true] at c8 c9 ⊢
       rw [List.all_eq_true] at c8
       exact ⟨⟨List.all_eq_true.2 fun q hq=>c8 q (List.mem_of_mem_take hq),c9⟩,List.all_eq_true.2 fun q hq=>c8 q (List.mem_of_mem_drop hq)⟩
      have hunif:∀ e∈ob.els.take N++ob2.els++ob.els.drop N,e.cells.length=sz:=by
       intro q hq
       simp only [List.mem_append] at hq
       rcases hq with (hq | hq) | hq
       ·exact hun q (List.mem_of_mem_take hq)
       ·exact hun2 q hq
       ·exact hun q (List.mem_of_mem_drop hq)
      have hlen':(ob.els.take N++ob2.els++ob.els.drop N).length=ob.els.length+1:=by
       simp only [List.length_append,List.length_take,List.length_drop,c4];omega
      cases e with
      | panicked=>exact he.elim
      | outgrown=>exact he.elim
      | returned yv =>
       have fin:∀ (oi':OI) (fp:List Nat),In E w' E.F [p,p2] nid [oi'] [fp]→oi'.slice=yv→(∀ E',E'.w=w'→EK E' fp ⟨sz,ob.els.take N++ob2.els++ob.els.drop N,false⟩ oi')→K (a.put o.dst yv) w':=by
        intro oi' fp hsw hsl hobj
        obtain ⟨g1,g2⟩:=In.fin hh hsw (news:=[⟨sz,ob.els.take N++ob2.els++ob.els.drop N,false⟩]) rfl (fun k ob' hk=>by
         cases k with
         | zero=>simp only [List.getElem?_cons_zero,Option.some.injEq] at hk;subst hk;exact ⟨oi',fp,rfl,rfl,hobj _ rfl⟩
         | succ k=>simp at hk) (hp':=Av hp [(nid,some ⟨sz,ob.els.take N++ob2.els++ob.els.drop N,false⟩),(p,none),(p2,none)]) (fun i=>by
          have hnp:nid≠p:=fun h=>hU nid (Nat.le_refl _) (by omega) (h▸hUo)
          have hnp2:nid≠p2:=fun h=>hU nid (Nat.le_refl _) (by omega) (h▸hUo2)
          simp only [Av,List.length_singleton]
          by_cases hi:i=nid
          ·subst hi
           rw [BQ _ _ hnp2,BQ _ _ hnp,Bi,if_pos (by omega)];simp
          ·have h1:¬ (nid≤i∧i<nid+1):=by omega
           rw [if_neg h1]
           by_cases hi2:i=p2
           ·subst hi2;rw [Bi];simp
           ·rw [BQ _ _ hi2]
            by_cases hi1:i=p
            ·subst hi1;rw [Bi];simp
            ·rw [BQ _ _ hi1,BQ _ _ hi];simp [hi1,hi2])
        subst hsl
        exact hK _ oi'.slice g2 g1 (.sl (by simp [Env.swap]) .nil) (fun i hi=>by simpa [Env.swap] using hi)
       rcases he with ⟨b,hgbe,rfl,hrow,hoth,hszw,hos,htp,hout⟩ | ⟨b,cap',rfl,hrow,hlat,hge,hlt⟩
       ·have hbp:=hgb b hgbe
        refine fin ⟨some b,sz,ob.els.length+1,oi.cap,none⟩ [b] ⟨by omega,hos,htp,hout,fun c _ hk=>hoth c (fun e=>by subst e;exact hk p (by simp) hbp),rfl,by simpa using hU,?_,by simp,fun _ h=>h,fun _ h=>.inl h⟩ (by simp [OI.slice]) (fun E' hw=>?_)
        ·intro c hc
         simp only [List.flatten_cons,List.flatten_nil,List.append_nil,List.mem_singleton] at hc
         subst hc
         exact ⟨.inl ⟨p,by simp,hbp⟩,by rw [hszw];exact hh.lt p _ hbp⟩
        ·subst hw
         rw [hnew] at hrow
         exact ⟨rfl,hlen'.symm,hpos,hunif,_,[],by rw [← hlen'] at hrow;exact hrow,NG _ hlits,rfl⟩
       ·refine fin ⟨some b,sz,ob.els.length+1,cap',none⟩ [b] ⟨hlat.size,hlat.os,hlat.tape,hlat.output,fun c hc _=>hlat.keep c hc,rfl,by simpa using hU,?_,by simp,fun _ h=>h,fun _ h=>.inl h⟩ (by simp [OI.slice]) (fun E' hw=>?_)
        ·intro c hc
         simp only [List.flatten_cons,List.flatten_nil,List.append_nil,List.mem_singleton] at hc
         subst hc
         exact ⟨.inr hge,hlt⟩
        ·subst hw
         rw [hnew] at hrow
         exact ⟨rfl,hlen'.symm,hpos,hunif,_,[],by rw [← hlen'] at hrow;exact hrow,NG _ hlits,rfl⟩
     cases hk:oi.blk with
     | none =>
      rw [hk] at hblk
      exact main none [] (.inl ⟨rfl,⟨oi.ad,by simp [OI.slice,hk]⟩,by rw [hblk.1];rfl,rfl⟩) (by rw [hblk.1];rfl) (by simp)
     | some b =>
      rw [hk] at hblk
      obtain ⟨ys,f1,hrow,hrs,hfp⟩:=hblk
      rw [c2] at hrow
      obtain ⟨e1,e2⟩:=Lt _ _ _ (EX c8) hrs
      have hbp:b∈E.fps p:=by rw [hfp];simp
      have hb2:b2∈E.fps p2:=by rw [hfp2];simp
      exact main (some b) ys (.inr ⟨b,rfl,by simp [OI.slice,hk,hlen],hrow,fun h=>c5 (hh.disj p p2 b hbp (h▸hb2))⟩) e1 (fun b' h=>by cases h;exact hbp)
   ·simp [AM.run] at he
  ·simp [AM.run] at he
 ·simp [AM.run] at he
theorem jZ {P:Program} {L:Lay} {E:Env} {hp:Hp} {tm:Nat→V} {a:Act} {o:Oper} (hL:Ez P L) (hT:Hx E tm a) (hh:BE E hp) {t u:TypeId} {d s:Operand}
  (ho:o.op=.call { callee:=.builtin .copy,args:=#[d,s],argTypes:=#[t,u] }) {nid:Nat} {e:Eff} (he:(Ow L t (eV tm d) (eV tm s)).run hp=some e):Mop P E (Av hp e.upd) a o e.v nid e.new:=by
 have hd:=AV hT d
 have hs:=AV hT s
 unfold Ow at he
 split at he
 ·rename_i el _ _ _ _ hti
  have hu:=(hL _ _ hti).sl _ rfl
  split at he
  ·rename_i ei hei
   have hok:=hL _ _ hei
   obtain ⟨i,hi,hsz0,_⟩:=hok.info
   split at he
   ·rename_i ob pp nn sz els hdv hsv
    rw [hdv] at hd;rw [hsv] at hs
    rw [AM.run_rd] at he
    obtain ⟨obj,hob,he⟩:=Option.bind_eq_some_iff.1 he
    unfold SJ at he
    split at he
    ·rename_i hc
     obtain ⟨c1,c2,c3,c4,c5⟩:=hc
     simp only [AM.run,Option.some.injEq] at he;subst he
     obtain ⟨oi,hal,hUo,hR⟩:=hh.objs ob obj hob
     obtain ⟨hosz,holen,hpos,hun,hblk⟩:=hR
     generalize hde:a.eval d=dv at hd
     generalize hse:a.eval s=sv at hs
     have ed:dv=oi.slice:=by
      cases hd with
      | slD q1 _ _=>rw [hal] at q1;cases q1
      | sl q1 _=>rw [hal] at q1;cases q1;rfl
     -- what is copied
     obtain ⟨ad,cp,news,esv,hsun,hnews,hnl⟩:∃ ad cp news,sv=.slice ad els.length cp∧(∀ e∈els,e.cells.length=sz)∧news=(AG els).map dE ∧
       (els=[]∨∃ blk off,ad=some ⟨blk,off,none⟩∧E.w.rangeAt blk off news):=by
      cases hs with
      | isl0 hm hn h=>exact ⟨_,_,_,rfl,by simp,rfl,.inl rfl⟩
      | @isl _ _ _ _ blk off cap _ ys _ _ _ hc hF hN hm hss h1 hr hone h' =>
       have:=(Lt _ _ _ (EX c4) h1).1
       subst this
       exact ⟨_,_,_,rfl,hss,rfl,.inr ⟨blk,off,rfl,hr⟩⟩
     have hrs:∀ {E':Env} {m:Md},Rs E' m (AG els) news []:=by rw [hnews];exact NG _ (EX c4)
     have hnlen:news.length=els.length*ei.size:=by
      rw [hnews,List.length_map,Du els sz hsun,c1]
     have hone:ED news:=by
      rw [hnews]
      intro y hy
      obtain ⟨v,hv,rfl⟩:=List.mem_map.1 hy
      have:=List.all_eq_true.1 (EX c4) v hv
      cases v with
      | lit q=>cases q<;>first | rfl | (simp [V.isLit] at this)
      | _=>simp [V.isLit] at this
     intro K Q hK
     cases hk:oi.blk with
     | none =>
      rw [hk] at hblk
      have h0:els=[]:=List.eq_nil_of_length_eq_zero (by rw [c3,hblk.1];rfl)
      subst h0
      have hsl:oi.slice=.slice oi.ad 0 0:=by simp [OI.slice,hk]
      have hf0:(Builtin.firstCells i.size 0 sv).run P E.w=.ok #[] E.w:=by rw [esv];cases ad<;>simp [Builtin.firstCells,loadCells,loadCellsFrom]
      have hrun:(execOp a.eval o).run P E.w=.ok (.value (goInt 0)) E.w:=by
       have:(Builtin.copy_ #[t,u] o.type #[dv,sv]).run P E.w=.ok (goInt 0) E.w:=by
        rw [ed,hsl]
        have hlo:Builtin.lenOf sv=Sem.pure 0:=by rw [esv];rfl
        cases oi.ad<;>simp [Builtin.copy_,run_underlying hu,hlo,Go.sizeOf,typeInfo,hi,hf0,storeCells]
       simp [execOp,ho,resolve,invoke,builtin,hde,hse,this]
      have e1:Av hp [(ob,some { obj with els:=([]:List V) })]=hp:=by
       have:({ obj with els:=([]:List V) }:Ve.Obj)=obj:=by
        have:=hblk.1;cases obj;simp at this ⊢;exact this
       funext j
       simp only [Av,this]
       by_cases hj:j=ob
       ·subst hj;rw [Bi,hob]
       ·rw [BQ _ _ hj]
      rw [e1] at hK
      exact DK hrun (hK E _ (Nx.refl E) hh (.lit .nil) (fun i=>⟨.inl,fun h=>h.elim id (fun h=>absurd h.1 (Nat.not_le.2 h.2))⟩))
     | some b =>
      rw [hk] at hblk
      obtain ⟨ys,fi,hrow,hrs0,hfp⟩:=hblk
      obtain ⟨_,rfl⟩:=Lt _ _ _ (EX c5) hrs0
      obtain ⟨⟨cur,ce,hheap,hcs,htake⟩,hle2,hmx,_,hyone,hyl⟩:=hrow
      have hsl:oi.slice=.slice (some ⟨b,0,none⟩) els.length oi.cap:=by simp [OI.slice,hk,holen,c3]
      have hfit:news.length≤cur.size:=by
       rw [hnlen,hcs,c2,c3];exact Nat.mul_le_mul_right _ hle2
      let cur':Array Value:=(news++cur.toList.drop news.length).toArray
      have hfc:(Builtin.firstCells i.size els.length sv).run P E.w=.ok news.toArray E.w:=by
       rw [esv]
       rcases hnl with h0 | ⟨blk,off,h1,h2⟩
       ·subst h0
        have:news=[]:=by rw [hnews];rfl
        rw [this]
        cases ad<;>simp [Builtin.firstCells,loadCells,loadCellsFrom]
       ·rw [h1]
        exact run_firstCells_some (P:=P) E.w i.size els.length ⟨blk,off,none⟩ els.length cp news (by rw [hsz0];exact hnlen) (fun j v hj=>by rw [Addr.add_mid];exact h2 j v hj)
      have hst:=run_storeCells_at P b 0 ce news 0 cur E.w hheap (by simpa using hfit) hone
      have hrow':(cur.toList.take (0+0)++news++cur.toList.drop (0+0+news.length)).toArray=cur':=by simp [cur']
      rw [hrow'] at hst
      have hrun:(execOp a.eval o).run P E.w=.ok (.value (goInt els.length)) (E.w.setRow b cur'):=by
       have:(Builtin.copy_ #[t,u] o.type #[dv,sv]).run P E.w=.ok (goInt els.length) (E.w.setRow b cur'):=by
        rw [ed,hsl]
        have hlo:Builtin.lenOf sv=Sem.pure els.length:=by rw [esv];rfl
        simp [Builtin.copy_,run_underlying hu,hlo,Go.sizeOf,typeInfo,hi,hfc,hst]
       simp [execOp,ho,resolve,invoke,builtin,hde,hse,this]
      have hbo:b∈E.fps ob:=by rw [hfp];simp
      have hother:∀ c,c≠b→(E.w.setRow b cur').heap[c]?=E.w.heap[c]?:=fun c hc=>setRow_other E.w b c cur' hc
      let E':Env:={ E with w:=E.w.setRow b cur' }
      have hstp:Stp E E' (fun j=>j=ob) :=
       { size:=by simp [E'],os:=rfl,tape:=rfl,output:=rfl
         no:=fun c hc=>hother c (fun e=>by subst e;exact hc.2 ob hbo)
         fps:=fun _ _=>rfl,al:=fun _ _=>rfl
         keep:=fun j hj c hc=>hother c (fun e=>by subst e;exact hj (hh.disj j ob c hc hbo))
         own:=fun j hj c hc=>.inl ⟨j,hj,hc⟩
         lt:=fun j _ c hc=>by have:=hh.lt j c hc;simpa [E'] using this
         nodup:=fun j _=>hh.nodup j
         disj:=fun j k c hj hk _ _=>by subst hj;subst hk;rfl
         al':=fun j oj _ h=>.inl h
         dd:=fun _ _ h _=>h
         U:=fun _ h=>h,F:=fun _ h=>h,F':=fun _ h=>.inl h }
      have hR':EK E' (E'.fps ob) { obj with els:=els } oi:=by
       refine ⟨hosz,by rw [holen];exact c3.symm,hpos,fun e he=>by rw [hsun e he,c1,← c2],?_⟩
       rw [hk]
       refine ⟨news,[],⟨⟨cur',ce,setRow_heap E.w b cur cur' ce (0,0) hheap,?_,?_⟩,by simp only [c3];exact hle2,hmx,hpos,hone,by simp only [c2];exact hnlen⟩,hrs,hfp⟩
       ·rw [← hcs]
        simp only [cur',List.size_toArray,List.length_append,List.length_drop,Array.length_toList];omega
       ·have:els.length*obj.sz=news.length:=by rw [hnlen,c2]
        simp only [cur',this]
        exact List.take_left
      obtain ⟨r1,r2⟩:=hstp.fin (hp':=Fj hp ob (some { obj with els:=els })) hh (fun j hj=>BQ _ _ hj)
       (fun j ob' hj ho=>by subst hj;rw [Bi] at ho;cases ho;exact ⟨oi,hal,hUo,hR'⟩) (fun j hj ho=>by subst hj;rw [Bi] at ho;cases ho)
      exact DK hrun (hK E' _ r2 r1 (.lit .nil) (fun i=>⟨.inl,fun h=>h.elim id (fun h=>absurd h.1 (Nat.not_le.2 h.2))⟩))
    ·simp [AM.run] at he
   ·simp [AM.run] at he
  ·simp [AM.run] at he
 ·simp [AM.run] at he
end Ve
