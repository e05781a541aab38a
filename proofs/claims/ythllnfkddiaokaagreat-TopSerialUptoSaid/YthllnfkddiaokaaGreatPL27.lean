/- Locks and versions: each step keeps them. -/
import Derived.Test.YthllnfkddiaokaaGreatPL26
set_option linter.all false
set_option linter.unusedSectionVars false
namespace Ve
open Go
theorem Hx {ws:A4 (List Aj)} {l i l' i':Int} {u:Aj} (h:Ay ws l i=true) (h':Ay ws l' i'=true):AB (CK ws l i u) l' i'=if l'=l∧i'=i then u else AB ws l' i':=by
 obtain ⟨hl,n,rfl,hw⟩:=Bk h
 obtain ⟨hl',n',rfl,hw'⟩:=Bk h'
 have e:=LE ws l (n:Int) u l' hl hl'
 by_cases hc:l'=l
 ·subst hc
  rw [if_pos rfl,Int.toNat_natCast] at e
  by_cases hi:((n':Nat):Int)=(n:Int)
  ·rw [if_pos ⟨rfl,hi⟩]
   have:n'=n:=by omega
   subst this
   apply HL
   rw [e,List.getElem?_set_self (Ax hw)]
  ·rw [if_neg (fun h=>hi h.2)]
   apply HL
   rw [e,List.getElem?_set_ne (by omega)]
   exact hw'
 ·rw [if_neg (fun h=>hc h.1)]
  rw [if_neg hc] at e
  apply HL
  rw [e];exact hw'
theorem LR {l:List Ae} {k:Nat} {s t x:Ae} (hp:l.Pairwise (fun a b=>a.id<b.id)) (hs:l[k]?=some s) (hx:x∈l.set k t):x=t∨(x∈l∧x≠s):=by
 obtain ⟨j,hj⟩:=List.getElem?_of_mem hx
 rw [List.getElem?_set] at hj
 split at hj
 ·split at hj
  ·cases hj;exact .inl rfl
  ·cases hj
 ·rename_i hne
  refine .inr ⟨List.mem_of_getElem? hj,?_⟩
  rintro rfl
  have h1:=Ax hs
  have h2:=Ax hj
  rw [List.pairwise_iff_getElem] at hp
  have e1:l[k]=x:=by rw [List.getElem?_eq_getElem h1] at hs;exact Option.some.inj hs
  have e2:l[j]=x:=by rw [List.getElem?_eq_getElem h2] at hj;exact Option.some.inj hj
  rcases Nat.lt_or_gt_of_ne hne with h | h
  ·have:=hp k j h1 h2 h;rw [e1,e2] at this;omega
  ·have:=hp j k h2 h1 h;rw [e1,e2] at this;omega
structure Own (m:Ac) (s:Ae) (E:Ef):Prop where
 over:E.w.over m.words s.id
 clk:oC m.clocks s.label E.c
 lk:Lk ⟨E.w.app m.words,PR s.label m.clocks E.c,m.ceil,m.sess,m.trace⟩ E.t
 ver:∀ (h:Int) (i:Nat) (w:Aj),inR h 3=true→((E.w.app m.words).get h)[i]?=some w→w.ver≤(PR s.label m.clocks E.c).get h
theorem a2a {m:Ac} {k:Nat} {l:Int} {E:Ef} {t:Ae} (h:Lk ⟨E.w.app m.words,PR l m.clocks E.c,m.ceil,m.sess,m.trace⟩ t):Lk (E.app m k l) t :=
 ⟨fun a j w b c=>by rw [BM];exact h.grab a j w b c,fun a w b=>by rw [BM];exact h.held a w b,fun a j w b c=>by rw [BM];exact h.back a j w b c,fun a w b c=>by rw [BM] at c ⊢;exact h.ver a w b c,fun a b=>by rw [FQ];exact h.st a b⟩
theorem mT {m:Ac} {k:Nat} {s:Ae} {E:Ef} (hI:Do m) (hs:m.sess[k]?=some s) (hA:Inv (E.app m k s.label)) (hE:Up s E) (ho:Own m s E):Do (E.app m k s.label):=by
 refine ⟨hA,fun x hx=>?_,fun h i w hh hw=>?_⟩
 ·rw [Cn] at hx
  rcases LR (HV m.sess none hI.inv.may.ids).2 hs hx with rfl | ⟨h1,h2⟩
  ·exact a2a ho.lk
  ·exact lX hI.inv hs h1 h2 hE ho.over ho.clk (hI.lk x h1)
 ·rw [BM] at hw
  rw [FQ];exact ho.ver h i w hh hw
theorem LU {m:Ac} {t:Ae} (h:t.step=0∨t.step=5∨t.step=6):Lk m t:=by
 refine ⟨fun a=>?_,fun a=>?_,fun a=>?_,fun a=>?_,fun a=>?_⟩<;>omega
theorem Uw {m:Ac} {s:Ae} (hI:Do m) (c:Int):∀ (h:Int) (i:Nat) (w:Aj),inR h 3=true→((PF c m.words).get h)[i]?=some w→w.ver≤m.clocks.get h:=by
 intro h i w hh hw
 rw [Kz,List.getElem?_map] at hw
 cases hq:(m.words.get h)[i]? with
 | none=>rw [hq] at hw;cases hw
 | some v =>
  rw [hq,Option.map_some,Option.some.injEq] at hw
  have:=hI.ver h i v hh hq
  have hv:w.ver=v.ver:=by rw [← hw];unfold Aw;split<;>rfl
  rw [hv];exact this
theorem LK {m:Ac} (s:Ae) (kind:Int) (hI:Do m):Own m s (FL s kind):=⟨trivial,trivial,LU (.inl rfl),Uw (s:=s) hI _⟩
theorem LJ {m:Ac} (s:Ae) (r t:Int) (hI:Do m):Own m s (EZ s r t):=⟨trivial,trivial,LU (.inr (.inr rfl)),Uw (s:=s) hI _⟩
theorem Ex {m:Ac} (s t:Ae) (e:Option AI) (hI:Do m) (h:t.step=0∨t.step=5∨t.step=6):Own m s ⟨t,.id,none,e⟩:=⟨trivial,trivial,LU h,hI.ver⟩
theorem Yt {m:Ac} (hI:Do m) {l j:Int} {u:Aj} (hl:inR l 3=true) (hu:u.ver≤m.clocks.get l):∀ (h:Int) (i:Nat) (w:Aj),inR h 3=true→((CK m.words l j u).get h)[i]?=some w→w.ver≤m.clocks.get h:=by
 intro h i w hh hw
 rw [LE m.words l j u h hl hh] at hw
 split at hw
 ·rename_i e;subst e
  rw [List.getElem?_set] at hw
  split at hw
  ·split at hw
   ·cases hw;exact hu
   ·cases hw
  ·exact hI.ver h i w hh hw
 ·exact hI.ver h i w hh hw
section
variable {m:Ac} {k:Nat} {s:Ae} (hs:m.sess[k]?=some s) (hI:Do m)
include hs hI
theorem CD {w:Aq} (hw:w∈s.writes):Ay m.words w.level w.index=true:=by
 have:=(BU hs hI.inv).wthere
 simp only [Cf,List.all_eq_true] at this
 exact this w hw
theorem sX (h0:s.step=0):Own m s (GF m.words s):=by
 unfold GF
 cases s.prog[s.pc.toNat]? with
 | none =>
  simp only;unfold IT
  split
  ·by_cases hw:s.writes=[]
   ·simp only [hw,if_true]
    refine ⟨trivial,trivial,⟨fun a=>?_,fun a w hw=>?_,fun a=>?_,fun a w hw=>?_,fun a hn=>?_⟩,hI.ver⟩
    ·simp only at a;omega
    ·cases hw
    ·simp only at a;omega
    ·cases hw
    ·exact absurd rfl hn
   ·simp only [hw,if_false]
    refine ⟨trivial,trivial,⟨fun a j w hj=>?_,fun a=>?_,fun a=>?_,fun a=>?_,fun a=>?_⟩,hI.ver⟩
    ·simp only at hj;omega
    ·simp only at a;omega
    ·simp only at a;omega
    ·simp only at a;omega
    ·simp only at a;omega
  ·exact LJ s 3 0 hI
 | some x =>
  simp only
  split
  ·split
   ·unfold FS
    split
    ·exact Ex s _ _ hI (.inl h0)
    ·split
     ·exact Ex s _ _ hI (.inl h0)
     ·exact LK s 3 hI
   ·unfold GZ
    split
    ·exact Ex s _ _ hI (.inl h0)
    ·exact LJ s 4 0 hI
  ·split
   ·exact Ex s _ _ hI (.inl h0)
   ·split
    ·exact Ex s _ _ hI (.inr (.inl rfl))
    ·split
     ·exact LJ s 2 _ hI
     ·unfold IU
      split
      ·exact Ex s _ _ hI (.inl h0)
      ·split
       ·exact Ex s _ _ hI (.inl h0)
       ·exact Ex s _ _ hI (.inl h0)
theorem kL (h1:s.step=1) {E:Ef} (hE:Gt m.words s=some E):Own m s E:=by
 have hS:=BU hs hI.inv
 have hlk:=hI.lk s (List.mem_of_getElem? hs)
 have hat:=AE.1 hS.at_
 unfold Gt at hE
 cases hw:s.writes[s.at_.toNat]? with
 | none=>rw [hw] at hE;cases hE
 | some w =>
  rw [hw] at hE;simp only [Option.some.injEq] at hE;subst hE
  have hmem:=List.mem_of_getElem? hw
  have hth:=CD hs hI hmem
  have hl3:=(Bk hth).1
  split
  ·rename_i hfree
   have hset:∀ y∈s.writes,((AB m.words y.level y.index).lock=s.id+1∨y=w)→(AB (CK m.words w.level w.index { AB m.words w.level w.index with lock:=s.id+1 }) y.level y.index).lock=s.id+1:=by
    intro y hy hl
    rw [Hx hth (CD hs hI hy)]
    split
    ·rfl
    ·rename_i hc
     rcases hl with hl | rfl
     ·exact hl
     ·exact absurd ⟨rfl,rfl⟩ hc
   have hall:∀ (j:Nat) y,(j:Int)<s.at_+1→s.writes[j]?=some y→(AB (CK m.words w.level w.index { AB m.words w.level w.index with lock:=s.id+1 }) y.level y.index).lock=s.id+1:=by
    intro j y hj hy
    refine hset y (List.mem_of_getElem? hy) ?_
    by_cases hja:(j:Int)=s.at_
    ·right
     have:j=s.at_.toNat:=by omega
     rw [this,hw] at hy;exact (Option.some.inj hy).symm
    ·exact .inl (hlk.grab h1 j y (by omega) hy)
   have hver:=(Bk hth)
   obtain ⟨_,n,hn,hgw⟩:=hver
   refine ⟨⟨hth,.inl hfree,.inr rfl⟩,trivial,⟨fun a j y hj hy=>hall j y hj hy,fun a y hy=>?_,fun a=>?_,fun a=>?_,fun a=>?_⟩,Yt hI hl3 (by have:=hI.ver w.level n (AB m.words w.level w.index) hl3 hgw;exact this)⟩
   ·simp only at a hy
    obtain ⟨j,hj⟩:=List.getElem?_of_mem hy
    have hjl:=Ax hj
    refine hall j y ?_ hj
    by_cases hlast:s.at_+1=s.writes.length
    ·omega
    ·rw [if_neg hlast] at a;omega
   ·simp only at a;split at a<;>omega
   ·simp only at a;split at a<;>omega
   ·simp only at a;split at a<;>omega
  ·exact LK s 3 hI
theorem cY (h2:s.step=2):Own m s (EM m.ceil (m.clocks.get s.label) s):=by
 have hS:=BU hs hI.inv
 have hSI:=hI.inv.sess s (List.mem_of_getElem? hs)
 have hlk:=hI.lk s (List.mem_of_getElem? hs)
 unfold EM
 split
 ·exact LJ s 5 0 hI
 ·have hcl:=hI.inv.may.clocks
  simp only [A4.all,Bool.and_eq_true,AE] at hcl
  have hg:0≤m.clocks.get s.label:=by
   unfold A4.get;split
   ·exact hcl.1.1.1.1
   ·split
    ·exact hcl.1.1.2.1
    ·split
     ·exact hcl.1.2.1
     ·exact hcl.2.1
  have hc2:(m.clocks.set s.label (m.clocks.get s.label+1)).get s.label=m.clocks.get s.label+1:=by rw [KB hS.label hS.label,if_pos rfl]
  refine ⟨trivial,by show _≤_;omega,⟨fun a=>?_,fun a w hw=>hlk.held (.inl h2) w hw,fun a=>?_,fun a w hw hl=>?_,fun a hn=>?_⟩,fun h i w hh hw=>?_⟩
  ·simp only at a;omega
  ·simp only at a;omega
  ·obtain ⟨hl3,n,hn,hgw⟩:=Bk (CD hs hI hw)
   have:=hI.ver w.level n _ hl3 hgw
   rw [hSI.lvl (by omega) w hw] at this
   show (AB m.words w.level w.index).ver<m.clocks.get s.label+1
   have e:=hSI.lvl (by omega) w hw
   rw [e];omega
  ·show 1≤m.clocks.get s.label+1∧m.clocks.get s.label+1≤(m.clocks.set s.label (m.clocks.get s.label+1)).get s.label
   rw [hc2];omega
  ·have:=hI.ver h i w hh hw
   show w.ver≤(m.clocks.set s.label (m.clocks.get s.label+1)).get h
   rw [KB hS.label hh]
   split
   ·rename_i e;rw [e] at this;omega
   ·exact this
theorem cZ (h3:s.step=3):Own m s (Dh m.words s):=by
 have hlk:=hI.lk s (List.mem_of_getElem? hs)
 unfold Dh
 split
 ·split
  ·exact LJ s 1 0 hI
  ·refine ⟨trivial,trivial,⟨fun a=>?_,fun a=>?_,fun a j w hj hw=>hlk.held (.inr h3) w (List.mem_of_getElem? hw),fun a w hw hl=>hlk.ver (.inl h3) w hw hl,fun a hn=>hlk.st (.inl h3) hn⟩,hI.ver⟩
   ·simp only at a;omega
   ·simp only at a;omega
 ·exact LK s 3 hI
theorem kM (h4:s.step=4) {E:Ef} (hE:Gu s=some E):Own m s E:=by
 have hS:=BU hs hI.inv
 have hSI:=hI.inv.sess s (List.mem_of_getElem? hs)
 have hlk:=hI.lk s (List.mem_of_getElem? hs)
 have hat:=AE.1 hS.at_
 have hid:=AE.1 hS.id
 unfold Gu at hE
 cases hw:s.writes[s.at_.toNat]? with
 | none=>rw [hw] at hE;cases hE
 | some w =>
  rw [hw] at hE;simp only [Option.some.injEq] at hE;subst hE
  have hmem:=List.mem_of_getElem? hw
  have hth:=CD hs hI hmem
  have hl3:=(Bk hth).1
  have hlock:(AB m.words w.level w.index).lock=s.id+1:=hlk.back h4 s.at_.toNat w (by omega) hw
  have hst:=hlk.st (.inr h4) (by intro e;rw [e] at hmem;cases hmem)
  have hlv:=hSI.lvl (by omega) w hmem
  have hvs:∀ (h:Int) (i:Nat) (v:Aj),inR h 3=true→((CK m.words w.level w.index ⟨w.val,s.stamp,0⟩).get h)[i]?=some v→v.ver≤m.clocks.get h :=
   Yt hI hl3 (by show s.stamp≤m.clocks.get w.level;rw [hlv];exact hst.2)
  by_cases hl:s.at_+1=s.writes.length
  ·rw [if_pos hl]
   refine ⟨⟨hth,.inr hlock,.inl rfl⟩,trivial,LU (.inr (.inr rfl)),fun h i v hh hv=>?_⟩
   have hv':((PF (s.id+1) (CK m.words w.level w.index ⟨w.val,s.stamp,0⟩)).get h)[i]?=some v:=hv
   rw [Kz,List.getElem?_map] at hv'
   cases hq:((CK m.words w.level w.index ⟨w.val,s.stamp,0⟩).get h)[i]? with
   | none=>rw [hq] at hv';cases hv'
   | some u =>
    rw [hq,Option.map_some,Option.some.injEq] at hv'
    have:=hvs h i u hh hq
    have e:v.ver=u.ver:=by rw [← hv'];unfold Aw;split<;>rfl
    rw [e];exact this
  ·rw [if_neg hl]
   have hpw:=(BX hS.writes).2.1
   refine ⟨⟨hth,.inr hlock,.inl rfl⟩,trivial,⟨fun a=>?_,fun a=>?_,fun a j y hj hy=>?_,fun a y hy hyl=>?_,fun a hn=>hlk.st (.inr h4) hn⟩,hvs⟩
   ·simp only at a;omega
   ·simp only at a;omega
   ·have hy':s.writes[j]?=some y:=hy
    have hyl:=hlk.back h4 j y (by simp only at hj;omega) hy'
    show (AB (CK m.words w.level w.index ⟨w.val,s.stamp,0⟩) y.level y.index).lock=s.id+1
    rw [Hx hth (CD hs hI (List.mem_of_getElem? hy')),if_neg]
    ·exact hyl
    ·rintro ⟨e1,e2⟩
     have h1:=Ax hw
     have h2:=Ax hy'
     rw [List.pairwise_iff_getElem] at hpw
     have:=hpw s.at_.toNat j h1 h2 (by simp only at hj;omega)
     rw [List.getElem?_eq_getElem h1] at hw
     rw [List.getElem?_eq_getElem h2] at hy'
     rw [Option.some.inj hw,Option.some.inj hy'] at this
     simp only [plW,e1,e2] at this
     omega
   ·have hy':y∈s.writes:=hy
    have hyl':(AB (CK m.words w.level w.index ⟨w.val,s.stamp,0⟩) y.level y.index).lock=s.id+1:=hyl
    rw [Hx hth (CD hs hI hy')] at hyl'
    show (AB (CK m.words w.level w.index ⟨w.val,s.stamp,0⟩) y.level y.index).ver<s.stamp
    rw [Hx hth (CD hs hI hy')]
    split at hyl'
    ·simp only at hyl';omega
    ·rename_i hc
     rw [if_neg hc]
     exact hlk.ver (.inr h4) y hy' hyl'
theorem kK {E:Ef} (hE:EC m.ceil m.words (m.clocks.get s.label) s=some E):Own m s E:=by
 unfold EC at hE
 by_cases h0:s.step=0
 ·rw [if_pos h0] at hE;cases hE;exact sX hs hI h0
 rw [if_neg h0] at hE
 by_cases h1:s.step=1
 ·rw [if_pos h1] at hE;exact kL hs hI h1 hE
 rw [if_neg h1] at hE
 by_cases h2:s.step=2
 ·rw [if_pos h2] at hE;cases hE;exact cY hs hI h2
 rw [if_neg h2] at hE
 by_cases h3:s.step=3
 ·rw [if_pos h3] at hE;cases hE;exact cZ hs hI h3
 rw [if_neg h3] at hE
 by_cases h4:s.step=4
 ·rw [if_pos h4] at hE;exact kM hs hI h4 hE
 rw [if_neg h4] at hE
 by_cases h5:s.step=5
 ·rw [if_pos h5] at hE;cases hE
  unfold Fo
  split
  ·exact LK s 5 hI
  ·exact Ex s _ _ hI (.inr (.inl h5))
 ·rw [if_neg h5] at hE;cases hE
  have:=AE.1 (BU hs hI.inv).step
  exact Ex s _ _ hI (.inr (.inr (by omega)))
theorem FI:∃ E,EC m.ceil m.words (m.clocks.get s.label) s=some E∧BV m k=(E.app m k s.label,0)∧Do (E.app m k s.label)∧Up s E∧Own m s E∧∃ t,Eb m (E.app m k s.label) k s t:=by
 obtain ⟨A,h1,h2,h3,h4⟩:=JE hs hI.inv
 rw [MB hs] at h2
 cases hE:EC m.ceil m.words (m.clocks.get s.label) s with
 | none=>rw [hE] at h2;cases h2
 | some E =>
  rw [hE,Option.map_some,Option.some.injEq] at h2
  subst h2
  have hSI:=hI.inv.sess s (List.mem_of_getElem? hs)
  have hm:=JQ hSI hE
  have ho:=kK hs hI hE
  exact ⟨E,rfl,h1,mT hI hs h3 hm ho,hm,ho,h4⟩
end
theorem Ip {s:Ap} (h:De (AC s)=true):Do (AC s):=by
 refine ⟨Zo h,fun x hx=>?_,fun a i w ha hw=>?_⟩
 ·simp only [AC,List.mem_map] at hx
  obtain ⟨y,_,rfl⟩:=hx
  exact LU (.inl rfl)
 ·have hk:(Bf s.words).get a=(s.words.get a).map Dl:=by
   unfold Bf A4.get;split
   ·rfl
   ·split
    ·rfl
    ·split<;>rfl
  have hw':((Bf s.words).get a)[i]?=some w:=hw
  rw [hk,List.getElem?_map] at hw'
  cases hq:(s.words.get a)[i]? with
  | none=>rw [hq] at hw';cases hw'
  | some v =>
   rw [hq,Option.map_some,Option.some.injEq] at hw'
   rw [← hw']
   show (0:Int)≤(⟨0,0,0,0⟩:A4 Int).get a
   rcases ER ha with rfl | rfl | rfl | rfl<;>decide
theorem Ih {m:Ac} (hI:Do m) {x:AO} (hx:AF x=true):Do (AQ m x).1:=by
 rcases Iz hI.inv.may hx with ⟨w,_⟩ | ⟨k,s,w,hs,_⟩
 ·rw [GG w];exact hI
 ·obtain ⟨E,_,h2,h3,_⟩:=FI hs hI
  unfold AQ;rw [w];simp only [if_true,h2];exact h3
theorem UM:∀ (l:List AO) (m:Ac),Do m→l.all AF=true→Do (BH m l).1
 | [],m,hI,_=>hI
 | x::r,m,hI,h=>by
  simp only [List.all_cons,Bool.and_eq_true] at h
  obtain ⟨h1,_⟩:=FY hI.inv h.1
  unfold BH
  rw [if_pos h1]
  exact UM r _ (Ih hI h.1) h.2
end Ve
