/- One operation, whatever it is. -/
import Derived.Test.YtjgbbmcjbfpjfaaGreatVeB
import Derived.ScopeJumps
set_option linter.all false
set_option linter.unusedSectionVars false
namespace Ve
open Go
structure eX (Pr:Program) (L:Lay) (T:Tbl) (O:Orc) (P:FuncId→List V→Option V):Prop where
 lay:Ez Pr L
 orc:VA Pr O
 pure:YT Pr P
 clone:Tb Pr T
 enter:∀ g d,T g=some d→∃ fn,Pr.funcs[g]?=some fn∧(fn.name == "runtime.NumGoroutine")=false∧fn.body.isNone=false
def pR (L:Lay):Op→Bool
 | .call c=>match c.callee with
  | .builtin .len=>match c.argTypes[0]? with
   | some t=>match L t with
    | some { k:=.sl _,.. }=>true
    | _=>false
   | none=>false
  | _=>true
 | _=>true
def aG (Pr:Program) (O:Orc) (E:Env) (hp:Hp) (n:Nat) (a:Act) (o:Oper):OpK→Prop
 | .p v=>∀ r,v=some r→PX Pr E hp a o r n n
 | .m m=>∀ e,m.run hp=some e→(∀ i,n≤i→i<n+e.new→¬ E.U i)→PX Pr E (Av hp e.upd) a o e.v n (n+e.new)
 | .i g xs=>∀ v hp' n',O g xs hp n=some (v,hp',n')→(∀ i,n≤i→¬ E.U i)→wT Pr E hp' a o v n n'
section
variable {Pr:Program} {L:Lay} {T:Tbl} {O:Orc} {P:FuncId→List V→Option V} (G:eX Pr L T O P) {E:Env} {hp:Hp} {tm:Nat→V} {a:Act} {o:Oper}
 (hT:Hx E tm a) (hh:BE E hp)
theorem CJ (n:Nat):aG Pr O E hp n a o (.p none):=fun r h=>by cases h
include hh in
theorem BH {n:Nat} {v:Option V} (h:∀ r,v=some r→Pop Pr E a o r):aG Pr O E hp n a o (.p v) :=
 fun r hr=>(Mop.of_pop hh (h r hr) n).to
theorem AM.ret_of_run {α:Type} {hp:Hp} {m:AM α} {x:α} (hm:(∃ y,m=.ret y)∨m=.fail) (h:m.run hp=some x):m=.ret x:=by
 rcases hm with ⟨y,rfl⟩ | rfl
 ·simp only [AM.run,Option.some.injEq] at h;rw [h]
 ·simp [AM.run] at h
theorem MV (L:Lay) (n:Nat) (t:TypeId) (v:V):(∃ y,Ku L n t v=.ret y∧y.new=1)∨Ku L n t v=.fail:=by
 unfold Ku;split
 ·exact .inr rfl
 ·simp only;split
  ·exact .inl ⟨_,rfl,rfl⟩
  ·exact .inr rfl
theorem Sg (L:Lay) (t:TypeId) (v:V):(∃ y,Jm L t v=.ret y)∨Jm L t v=.fail:=by
 unfold Jm;split
 ·exact .inr rfl
 ·simp only;split
  ·exact .inl ⟨_,rfl⟩
  ·exact .inr rfl
theorem PP (L:Lay) (n:Nat) (t:TypeId):(∃ y,HD L n t=.ret y∧y.new=1)∨HD L n t=.fail:=by
 unfold HD;split
 ·exact MV ..
 ·exact .inr rfl
theorem KJ (L:Lay) (n:Nat) (t:TypeId) (len:Nat) (ps:List (Nat × V)):(∃ y,CU L n t len ps=.ret y∧y.new=1)∨CU L n t len ps=.fail:=by
 unfold CU
 repeat' split
 all_goals first | exact .inr rfl | exact .inl ⟨_,rfl,rfl⟩
theorem Ll (L:Lay) (n:Nat) (t:TypeId) (l c:V):(∃ y,Dt L n t l c=.ret y∧y.new=1)∨Dt L n t l c=.fail:=by
 unfold Dt
 repeat' split
 all_goals first | exact .inr rfl | exact .inl ⟨_,rfl,rfl⟩
theorem AM.ret1_of_run {hp:Hp} {m:AM Eff} {x:Eff} (hm:(∃ y,m=.ret y∧y.new=1)∨m=.fail) (h:m.run hp=some x):m=.ret x∧x.new=1:=by
 rcases hm with ⟨y,rfl,h1⟩ | rfl
 ·simp only [AM.run,Option.some.injEq] at h;subst h;exact ⟨rfl,h1⟩
 ·simp [AM.run] at h
theorem YL {L:Lay} {n:Nat} {t:TypeId} {s x:V} {hp:Hp} {e:Eff} (he:(FZ L n t s x).run hp=some e):e.new=1:=by
 unfold FZ at he
 split at he
 ·split at he
  ·rw [AM.run_bind] at he
   obtain ⟨r,hr,he⟩:=Option.bind_eq_some_iff.1 he
   split at he
   ·split at he
    ·simp only [AM.run,Option.some.injEq] at he;subst he;rfl
    ·simp [AM.run] at he
   ·rw [AM.run_rd] at he
    obtain ⟨ob,_,he⟩:=Option.bind_eq_some_iff.1 he
    split at he
    ·simp only [AM.run,Option.some.injEq] at he;subst he;rfl
    ·simp [AM.run] at he
   ·simp [AM.run] at he
  ·simp [AM.run] at he
 ·simp [AM.run] at he
theorem OP {n k:Nat} {U:Nat→Prop} (h1:k=1) (hU:∀ i,n≤i→i<n+k→¬ U i):∀ i,n≤i→i<n+1→¬ U i:=by subst h1;exact hU
include hT in
theorem dT (xs:List Operand):Rs E .O (xs.map (eV tm)) (xs.map a.eval) []:=by
 induction xs with
 | nil=>exact .nil
 | cons x xs ih=>simpa using (AV hT x).cons' ih
include G hT hh in
theorem cQ {n:Nat} {c:Call} {f:Operand} {frz:Bool} (ho:o.op=.call c) (hf:c.callee=.value f) :
  aG Pr O E hp n a o (Ix T P n frz (eV tm f) (c.args.toList.map (eV tm))):=by
 unfold Ix
 have hfr:=AV hT f
 split
 ·rename_i g first cap hfe
  rw [hfe] at hfr
  obtain ⟨as,bs,hfv,h1,h2,_⟩:=Sx hfr
  have hargs:=dT hT c.args.toList
  split
  ·rename_i d hd
   obtain ⟨fn,e1,e2,e3⟩:=G.enter g d hd
   have hrun:(execOp a.eval o).run Pr E.w=.ok (.enter g (as++c.args.toList.map a.eval++bs).toArray) E.w:=by
    have e4:fn.name≠"runtime.NumGoroutine":=by simpa using e2
    have e5:fn.body≠none:=fun h=>by rw [h] at e3;cases e3
    have e6:(as.toArray++Array.map a.eval c.args)++bs.toArray=(as++c.args.toList.map a.eval++bs).toArray:=by apply Array.toList_inj.1;simp
    simp [execOp,ho,resolve,hf,hfv,Deferred.ofValue,invoke,callFunc,e1,e4,e5]
   have hxs:Rs E .O (first++c.args.toList.map (eV tm)++cap) (as++c.args.toList.map a.eval++bs) []:=by
    simpa using (h1.append hargs).append h2
   split
   ·exact fun v hp' n' he hU=>tC G.orc hh hrun hxs he hU
   ·split
    ·rename_i sz hcl
     have hG:=G.clone g d sz.1 sz.2 hd hcl
     split
     ·rename_i how
      split
      ·rename_i v hv
       intro e he hU
       rw [hv] at hxs
       obtain ⟨x,xs,f1,f2,hx,hf',h3,h4⟩:=hxs.uncons
       obtain ⟨rfl,_⟩:=h4.nil_inv
       obtain ⟨rfl,rfl⟩:f1=[]∧f2=[]:=by simpa using hf'.symm
       rw [hx] at hrun
       exact cZ hh (hG.1 how) hrun h3 he (hU n (Nat.le_refl _) (by have:=dV he;omega))
      ·exact CJ n
     ·rename_i _ _ how
      split
      ·rename_i u i v hv
       intro e he hU
       rw [hv] at hxs
       obtain ⟨x,xs,f1,f2,hx,hf',h3,h4⟩:=hxs.uncons
       obtain ⟨y,ys,f3,f4,hy,hf'',h5,h6⟩:=h4.uncons
       obtain ⟨z,zs,f5,f6,hz,hf3,h7,h8⟩:=h6.uncons
       obtain ⟨rfl,_⟩:=h8.nil_inv
       obtain ⟨rfl,rfl⟩:f1=[]∧f2=[]:=by simpa using hf'.symm
       obtain ⟨rfl,rfl⟩:f3=[]∧f4=[]:=by simpa using hf''.symm
       obtain ⟨rfl,rfl⟩:f5=[]∧f6=[]:=by simpa using hf3.symm
       rw [hx,hy,hz] at hrun
       exact Ws hh (hG.2 (by rw [how];simp)) hrun h3 h5 h7 he (by have:=WE he;rw [this] at hU;exact hU)
      ·exact CJ n
    ·exact fun e he hU=>(Sk G.pure hh hrun hxs he hU).to
  ·exact CJ n
 ·exact CJ n
include G hT hh in
theorem jH {n:Nat} {frz:Bool} (hw:pR L o.op=true):aG Pr O E hp n a o (opK L T P (eV tm) n frz o.op):=by
 have hL:=G.lay
 cases ho:o.op with
 | move x=>exact BH hh fun r hr=>by cases hr;exact TJ hT (.inl ho)
 | assign x=>exact BH hh fun r hr=>by cases hr;exact TJ hT (.inr ho)
 | pick c x y=>exact BH hh fun r hr=>iI hT ho hr
 | alloc t=>exact fun e he hU=>let h:=AM.ret1_of_run (PP ..) he;(dA hL hh ho (OP h.2 hU) h.1).to
 | box t x =>
  cases frz with
  | true=>exact fun e he _=>(kA hL hT hh ho (AM.ret_of_run (Sg ..) he)).to
  | false=>exact fun e he hU=>let h:=AM.ret1_of_run (MV ..) he;(tD hL hT hh ho (OP h.2 hU) h.1).to
 | build t ps=>exact BH hh fun r hr=>bY hL hT ho hr
 | buildSlice t len ps=>exact fun e he hU=>let h:=AM.ret1_of_run (KJ ..) he;(OD hL hT hh ho (OP h.2 hU) h.1).to
 | makeSlice t l c=>exact fun e he hU=>let h:=AM.ret1_of_run (Ll ..) he;(PR hL hT hh ho (OP h.2 hU) h.1).to
 | load t x =>
  cases frz with
  | true=>exact fun e he hU=>(Wr hL hT hh ho he hU).to
  | false=>exact fun e he hU=>(TV hL hT hh ho he hU).to
 | store t x v=>exact fun e he _=>(cY hL hT hh ho rfl he).to
 | nilCheck x=>exact BH hh fun r hr=>Sa hT ho hr
 | binOp op t x y u=>exact BH hh fun r hr=>cD hL hT ho hr
 | unOp op t x=>exact BH hh fun r hr=>iG hT ho hr
 | convert s d x=>exact BH hh fun r hr=>TL hL hT ho hr
 | makeFunc f x y=>exact BH hh fun r hr=>by cases hr;exact Sb hT ho
 | slice t x lo hi mx=>exact BH hh fun r hr=>bU hL hT ho hr
 | fieldAddr s x f=>exact BH hh fun r hr=>PO hL hT ho hr
 | indexAddr t x i =>
  cases frz with
  | true=>exact fun e he hU=>(OC hL hT hh ho he hU).to
  | false=>exact fun e he _=>(PS hL hT hh ho he).to
 | index t x i=>exact BH hh fun r hr=>bW hL hT ho hr
 | field t x f=>exact BH hh fun r hr=>bX hL hT ho hr
 | extract x i=>exact BH hh fun r hr=>TK hT ho hr
 | call c =>
  obtain ⟨callee,args,ats⟩:=c
  cases callee with
  | value f=>exact cQ G hT hh ho rfl
  | builtin b =>
   cases b with
   | len =>
    simp only [opK]
    split
    ·rename_i x hx
     intro e he _
     have hx':args=#[x]:=by rw [← Array.toArray_toList (xs:=args),hx]
     subst hx'
     rw [ho] at hw
     simp only [pR] at hw
     split at hw
     ·rename_i t ht
      split at hw
      ·rename_i el _ _ _ _ hti
       exact (tB hL hT hh ho ht ((hL _ _ hti).sl _ rfl) he).to
      ·cases hw
     ·cases hw
    ·exact CJ n
   | complex=>exact BH hh fun r hr=>TM hT ho hr
   | real=>exact BH hh fun r hr=>iH hT ho hr
   | imag=>exact BH hh fun r hr=>iJ hT ho hr
   | min=>exact BH hh fun r hr=>Oq hT ho (.inl ⟨rfl,hr⟩)
   | max=>exact BH hh fun r hr=>Oq hT ho (.inr ⟨rfl,hr⟩)
   | copy =>
    simp only [opK]
    split
    ·rename_i d s t u hx hts
     have hx':args=#[d,s]:=by rw [← Array.toArray_toList (xs:=args),hx]
     have ht':ats=#[t,u]:=by rw [← Array.toArray_toList (xs:=ats),hts]
     subst hx' ht'
     exact fun e he _=>(jZ hL hT hh ho he).to
    ·exact CJ n
   | append =>
    simp only [opK]
    split
    ·rename_i s x t u hx hts
     have hx':args=#[s,x]:=by rw [← Array.toArray_toList (xs:=args),hx]
     have ht':ats=#[t,u]:=by rw [← Array.toArray_toList (xs:=ats),hts]
     subst hx' ht'
     split
     ·rename_i htu
      have:t=u:=Nat.eq_of_beq_eq_true htu
      subst this
      intro e he hU
      exact (Wt hL hT hh ho (OP (YL he) hU) he).to
     ·exact CJ n
    ·exact CJ n
   | _=>exact CJ n
  | invoke r nm=>exact CJ n
 | _=>exact CJ n
end
end Ve
namespace Ve
open Go
structure eT (L:Lay) (arr:Array Oper) (nt:Nat) (o:Oper) (io:IOp):Prop where
 dst:io.dst=o.dst
 op:io.op=o.op
 guard:(o.guard=none∧io.guard=none)∨∃ j b d,o.guard=some (j,b)∧(arr[j]?).bind (·.dst)=some d∧io.guard=some (d,b)
 dlt:∀ d,o.dst=some d→d<nt
 wf:pR L o.op=true
structure StR (nt:Nat) (E:Env) (s:St) (a:Act):Prop where
 tm:Hx E s.tm a
 hp:BE E s.hp
 U:∀ i,s.n≤i→¬ E.U i
 nt:a.tmps.size=nt
theorem Hb {L:Lay} {arr:Array Oper} {nt:Nat} {o:Oper} {io:IOp} (h:eT L arr nt o io) {E:Env} {tm:Nat→V} {a:Act} (hT:Hx E tm a) {b:Bool} (hw:Dn tm io.guard=some b) :
  Region.wanted o (yielded arr a.tmps)=b:=by
 rcases h.guard with ⟨h1,h2⟩ | ⟨j,c,d,h1,h2,h3⟩
 ·rw [h2] at hw;simp only [Dn,Option.some.injEq] at hw;subst hw
  simp [Region.wanted,h1]
 ·rw [h3] at hw
  simp only [Dn] at hw
  have ht:=hT.tm d
  simp only [Region.wanted,h1,yielded,h2,Option.bind_some]
  generalize tm d=v at ht hw
  cases v<;>simp only [Ko] at hw<;>try (cases hw;done)
  rename_i x
  obtain ⟨hx,_⟩:=BX ht
  cases hd:a.tmps[d]? with
  | none =>
   have:x=undef:=by rw [← hx];simp [Array.getD_eq_getD_getElem?,hd]
   subst this
   simp only [undef,Option.some.injEq] at hw;subst hw;rfl
  | some y =>
   have:x=y:=by rw [← hx];simp [Array.getD_eq_getD_getElem?,hd]
   subst this
   cases x<;>simp at hw<;>subst hw<;>simp
theorem StR.put {nt:Nat} {E E':Env} {s:St} {a:Act} (h:StR nt E s a) (x:Nx E E') {hp':Hp} (hh:BE E' hp') {v:V} {y:Value} (hv:R1 E' .O v y []) {n':Nat} (hU:∀ i,n'≤i→¬ E'.U i)
  {d:Option Tmp} (hd:∀ t,d=some t→t<nt):StR nt E' ⟨HK s.tm d v,hp',n'⟩ (a.put d y):=by
 cases d with
 | none=>exact ⟨h.tm.ext x.ext,hh,hU,h.nt⟩
 | some t=>exact ⟨(h.tm.ext x.ext).put (d:=some t) (fun t' ht=>by cases ht;rw [h.nt];exact hd _ rfl) hv,hh,hU,by simp [Act.put,h.nt]⟩
section
variable {Pr:Program} {L:Lay} {T:Tbl} {O:Orc} {P:FuncId→List V→Option V} (G:eX Pr L T O P) {arr:Array Oper} {nt:Nat} {Q:Exit→Act→World→Prop} {R:Type}
include G in
theorem Qi:∀ (ios:List IOp) (i:Nat),(∀ k io,ios[k]?=some io→∃ o,arr[i+k]?=some o∧eT L arr nt o io)→∀ (s:St) (k:St→Option R) (r:R),CP L T O P ios s k=some r →
  ∀ (E:Env) (a:Act),StR nt E s a→(∀ E' s' a',Nx E E'→StR nt E' s' a'→s.n≤s'.n→k s'=some r→Q .normal a' E'.w)→wpOps Pr arr Q (List.range' i ios.length) a E.w
 | [],i,hio,s,k,r,hr,E,a,hs,hk=>hk E s a (Nx.refl E) hs (Nat.le_refl _) (by simpa [CP] using hr)
 | io::ios,i,hio,s,k,r,hr,E,a,hs,hk=>by
  obtain ⟨o,ho,his⟩:=hio 0 io rfl
  simp only [Nat.add_zero] at ho
  have ih:=Qi ios (i+1) (fun k io hk=>by
   obtain ⟨o,h1,h2⟩:=hio (k+1) io (by simpa using hk)
   exact ⟨o,by rw [show i+1+k=i+(k+1) from by omega];exact h1,h2⟩)
  have hgo:=jH (o:=o) (hp:=s.hp) (n:=s.n) G hs.tm hs.hp (frz:=io.frz) his.wf
  simp only [List.length_cons,List.range'_succ,wpOps,ho]
  simp only [CP] at hr
  rw [his.op] at hr
  -- not carried out
  have skip:Dn s.tm io.guard=some false→CP L T O P ios ⟨HK s.tm io.dst BG,s.hp,s.n⟩ k=some r →
    (if Region.wanted o (yielded arr a.tmps)=true then o.wp Pr a E.w (wpOps Pr arr Q (List.range' (i+1) ios.length)) Q∨o.asks Pr a E.w∧LetsOut Q else wpOps Pr arr Q (List.range' (i+1) ios.length) (a.put o.dst undef) E.w):=by
   intro hw hr
   rw [Hb his hs.tm hw]
   simp only [Bool.false_eq_true,if_false]
   refine ih _ k r hr E _ ?_ (fun E' s' a' h1 h2 h3 h4=>hk E' s' a' h1 h2 h3 h4)
   rw [his.dst]
   exact hs.put (Nx.refl E) hs.hp (.lit .nil) hs.U his.dlt
  have go:∀ {v:V} {hp':Hp} {n':Nat},Dn s.tm io.guard=some true→wT Pr E hp' a o v s.n n'→CP L T O P ios ⟨HK s.tm io.dst v,hp',n'⟩ k=some r →
    (if Region.wanted o (yielded arr a.tmps)=true then o.wp Pr a E.w (wpOps Pr arr Q (List.range' (i+1) ios.length)) Q∨o.asks Pr a E.w∧LetsOut Q else wpOps Pr arr Q (List.range' (i+1) ios.length) (a.put o.dst undef) E.w):=by
   intro v hp' n' hw hm hr
   rw [Hb his hs.tm hw]
   simp only [if_true]
   refine .inl (hm _ _ (fun E' y h1 h2 h3 hn h4=>?_))
   refine ih _ k r hr E' _ ?_ (fun E'' s' a' g1 g2 g3 g4=>hk E'' s' a' (h1.trans g1) g2 (Nat.le_trans hn g3) g4)
   rw [his.dst]
   exact hs.put h1 h2 h3 h4 his.dlt
  generalize opK L T P (eV s.tm) s.n io.frz o.op=ok at hgo hr
  cases ok with
  | p v =>
   simp only [Hv] at hr
   split at hr
   ·rename_i v' hv
    simp only [Jy] at hv
    split at hv
    ·rename_i hw
     exact go hw ((hgo _ hv).toN hs.U (Nat.le_refl _)) hr
    ·rename_i hw
     cases hv
     exact skip hw hr
    ·cases hv
   ·cases hr
  | m m =>
   simp only [IJ] at hr
   split at hr
   ·rename_i e he
    simp only [EB] at he
    split at he
    ·rename_i hw
     exact go hw ((hgo e he (fun i hi _=>hs.U i hi)).toN hs.U (Nat.le_add_right _ _)) hr
    ·rename_i hw
     simp only [AM.run,Option.some.injEq] at he;subst he
     exact skip hw hr
    ·simp [AM.run] at he
   ·cases hr
  | i g xs =>
   simp only [LY] at hr
   split at hr
   ·rename_i v hp' n' hv
    simp only [OR] at hv
    split at hv
    ·rename_i hw
     exact go hw (hgo v hp' n' hv hs.U) hr
    ·rename_i hw
     cases hv
     exact skip hw hr
    ·cases hv
   ·cases hr
end
end Ve
namespace Ve
open Go
section Dc
variable {α:Type}
def app (f:Nat→α):List (Nat × α)→Nat→α
 | []=>f
 | (k,x)::r=>app (fun i=>if i=k then x else f i) r
theorem Me:∀ (l:List (Nat × α)) (f:Nat→α) (k:Nat),k∉l.map (·.1)→app f l k=f k
 | [],f,k,_=>rfl
 | (j,x)::l,f,k,h=>by
  simp only [List.map_cons,List.mem_cons,not_or] at h
  simp only [app]
  rw [Me l _ k h.2,if_neg h.1]
theorem YM:∀ (l:List (Nat × α)) (f g:Nat→α) (k:Nat),k∈l.map (·.1)→app f l k=app g l k
 | (j,x)::l,f,g,k,h=>by
  simp only [app]
  by_cases hk:k∈l.map (·.1)
  ·exact YM l _ _ k hk
  ·rw [Me _ _ _ hk,Me _ _ _ hk]
   simp only [List.map_cons,List.mem_cons] at h
   rw [if_pos (h.resolve_right hk),if_pos (h.resolve_right hk)]
def Dc (S:Nat→Bool):List (List (Nat × α))→(Nat→α)→Nat→α
 | [],f=>f
 | l::r,f=>Dc (fun i=>S (i+1)) r (if S 0 then app f l else f)
theorem DN:∀ (ls:List (List (Nat × α))) (S S':Nat→Bool) (f g:Nat→α) (k:Nat),f k=g k→(∀ j l,ls[j]?=some l→k∈l.map (·.1)→S j=S' j)→Dc S ls f k=Dc S' ls g k
 | [],S,S',f,g,k,hf,_=>hf
 | l::ls,S,S',f,g,k,hf,h=>by
  simp only [Dc]
  refine DN ls _ _ _ _ k ?_ (fun j l' hl hk=>h (j+1) l' (by simpa using hl) hk)
  by_cases hk:k∈l.map (·.1)
  ·rw [h 0 l rfl hk]
   split
   ·exact YM l f g k hk
   ·exact hf
  ·have h1:∀ (b:Bool) (f:Nat→α),(if b then app f l else f) k=f k:=by intro b f;cases b<;>simp [Me l f k hk]
   rw [h1,h1];exact hf
theorem QQ:∀ (ls:List (List (Nat × α))) (S:Nat→Bool) (f g:Nat→α) (k j:Nat) (l:List (Nat × α)),ls[j]?=some l→k∈l.map (·.1)→S j=true →
  (∀ j' l',j<j'→ls[j']?=some l'→k∈l'.map (·.1)→S j'=false)→Dc S ls f k=app g l k
 | l0::ls,S,f,g,k,0,l,hl,hk,hS,h=>by
  simp only [List.getElem?_cons_zero,Option.some.injEq] at hl;subst hl
  simp only [Dc,hS,if_true]
  rw [DN ls _ (fun _=>false) _ (app f l0) k rfl (fun j l' hl hk'=>h (j+1) l' (by omega) (by simpa using hl) hk')]
  have:∀ (ls:List (List (Nat × α))) (f:Nat→α),Dc (fun _=>false) ls f=f:=by
   intro ls;induction ls with
   | nil=>intro f;rfl
   | cons l ls ih=>intro f;simp only [Dc];exact ih _
  rw [this];exact YM l0 f g k hk
 | l0::ls,S,f,g,k,j+1,l,hl,hk,hS,h=>by
  simp only [Dc]
  exact QQ ls _ _ g k j l (by simpa using hl) hk hS (fun j' l' hj hl' hk'=>h (j'+1) l' (by omega) (by simpa using hl') hk')
theorem UD {ls:List (List (Nat × α))} {S S':Nat→Bool} {f:Nat→α} {j:Nat} {l:List (Nat × α)} (hl:ls[j]?=some l) (hS':∀ i,S' i=(S i||i == j))
  (h:∀ j' l' k,j<j'→ls[j']?=some l'→k∈l'.map (·.1)→k∈l.map (·.1)→S j'=false):Dc S' ls f=app (Dc S ls f) l:=by
 funext k
 by_cases hk:k∈l.map (·.1)
 ·refine QQ ls S' f _ k j l hl hk (by simp [hS']) (fun j' l' hj hl' hk'=>?_)
  rw [hS',h j' l' k hj hl' hk' hk]
  have:(j' == j)=false:=by simp;omega
  simp [this]
 ·rw [Me l _ k hk]
  refine DN ls _ _ _ _ k rfl (fun j' l' hl' hk'=>?_)
  have:j'≠j:=by rintro rfl;rw [hl] at hl';cases hl';exact hk hk'
  rw [hS']
  have:(j' == j)=false:=by simp [this]
  simp [this]
end Dc
theorem NS:∀ (l:List (Nat × Option Ve.Obj)) (hp:Hp),Av hp l=app hp l
 | [],hp=>rfl
 | (o,x)::l,hp=>by
  simp only [Av,app]
  rw [NS l]
  congr 1
  funext i
  by_cases h:i=o
  ·subst h;rw [Bi,if_pos rfl]
  ·rw [BQ _ _ h,if_neg h]
def dU (d:Option Tmp) (v:V):List (Nat × V):=d.toList.map (·,v)
theorem Og (tm:Nat→V) (d:Option Tmp) (v:V):HK tm d v=app tm (dU d v):=by
 cases d with
 | none=>rfl
 | some t =>
  simp only [HK,dU,Option.toList_some,List.map_cons,List.map_nil,app]
  funext i
  simp only [VJ]
  cases h:Nat.beq i t with
  | true=>rw [if_pos (Nat.eq_of_beq_eq_true h)]
  | false=>rw [if_neg (fun e=>by subst e;rw [Nat.beq_refl] at h;cases h)]
theorem AM.run_congr {α:Type} {h h':Hp}:∀ {m:AM α},(∀ o∈m.reads h,h o=h' o)→m.run h'=m.run h:=by
 intro m
 induction m with
 | ret a=>intro _;rfl
 | fail=>intro _;rfl
 | rdo o k ih =>
  intro hr
  simp only [AM.run,AM.reads] at *
  have e:=hr o (by simp)
  rw [← e]
  exact ih _ (fun o' ho'=>hr o' (by simp [ho']))
theorem mG {tm tm':Nat→V} {x:Operand} (h:∀ t∈Sf x,tm t=tm' t):eV tm x=eV tm' x:=by
 cases x<;>first | rfl | (exact h _ (by simp [Sf]))
theorem cP {L:Lay} {T:Tbl} {P:FuncId→List V→Option V} {e e':Operand→V} (n:Nat) (frz:Bool) {op:Op} (h:∀ x∈op.operands.toList,e x=e' x):opK L T P e n frz op=opK L T P e' n frz op:=by
 have hm:∀ (xs:Array Operand),(∀ x∈xs.toList,x∈op.operands.toList)→xs.toList.map e=xs.toList.map e':=fun xs hx=>List.map_congr_left fun x hx'=>h x (hx x hx')
 have hp:∀ (ps:Array (Nat × Operand)),(∀ p∈ps.toList,p.2∈op.operands.toList)→(ps.toList.map fun p=>(p.1,e p.2))=(ps.toList.map fun p=>(p.1,e' p.2)) :=
  fun ps hx=>List.map_congr_left fun p hp'=>by rw [h p.2 (hx p hp')]
 have ho:∀ (x:Option Operand),(∀ y,x=some y→y∈op.operands.toList)→x.map e=x.map e':=fun x hx=>by
  cases x with
  | none=>rfl
  | some y=>simp only [Option.map_some];rw [h y (hx y rfl)]
 cases op with
 | call c =>
  obtain ⟨callee,args,ats⟩:=c
  have hargs:=hm args (fun x hx=>by simp only [Op.operands,Call.operands];cases callee<;>simp_all)
  cases callee with
  | value f =>
   simp only [opK]
   rw [hargs,h f (by simp [Op.operands,Call.operands])]
  | builtin b =>
   cases b with
   | len =>
    simp only [opK]
    have:∀ x,args.toList=[x]→e x=e' x:=fun x hx=>h x (by simp [Op.operands,Call.operands,hx])
    split
    ·rename_i x hx;rw [this x hx]
    ·rfl
   | complex=>simp only [opK,hargs]
   | real=>simp only [opK,hargs]
   | imag=>simp only [opK,hargs]
   | min=>simp only [opK];rw [hargs]
   | max=>simp only [opK];rw [hargs]
   | copy =>
    simp only [opK]
    split
    ·rename_i d s t u hx hts
     have h1:=h d (by simp [Op.operands,Call.operands,hx])
     have h2:=h s (by simp [Op.operands,Call.operands,hx])
     rw [h1,h2]
    ·rfl
   | append =>
    simp only [opK]
    split
    ·rename_i s x t u hx hts
     have h1:=h s (by simp [Op.operands,Call.operands,hx])
     have h2:=h x (by simp [Op.operands,Call.operands,hx])
     rw [h1,h2]
    ·rfl
   | _=>rfl
  | invoke r nm=>rfl
 | build t ps=>simp only [opK];rw [hp ps (fun p hp=>by simp [Op.operands];exact ⟨p.1,by simpa using hp⟩)]
 | buildSlice t len ps=>simp only [opK];rw [hp ps (fun p hp=>by simp [Op.operands];exact ⟨p.1,by simpa using hp⟩)]
 | makeFunc f x y=>simp only [opK];rw [hm x (fun z hz=>by simp [Op.operands];exact .inl (by simpa using hz)),hm y (fun z hz=>by simp [Op.operands];exact .inr (by simpa using hz))]
 | slice t x l hh m =>
  simp only [opK]
  rw [h x (by simp [Op.operands]),ho l (fun y hy=>by subst hy;simp [Op.operands]),ho hh (fun y hy=>by subst hy;simp [Op.operands]),ho m (fun y hy=>by subst hy;simp [Op.operands])]
 | _=>first | rfl | (simp only [opK];simp only [Op.operands] at h;simp at h;simp [h])
end Ve
namespace Ve
open Go
structure Gi where
 v:V
 upd:List (Nat × Option Ve.Obj)
 nid:Nat
 new:Nat
 rd:List Nat
def op1 (L:Lay) (T:Tbl) (P:FuncId→List V→Option V) (tm:Nat→V) (hp:Hp) (n:Nat) (o:IOp):Option Gi :=
 match opK L T P (eV tm) n o.frz o.op with
 | .p v=>(Jy (Dn tm o.guard) v).map fun v=>⟨v,[],n,0,[]⟩
 | .m m=>((EB (Dn tm o.guard) m).run hp).map fun e=>⟨e.v,e.upd,n,e.new,(EB (Dn tm o.guard) m).reads hp⟩
 | .i _ _=>none
theorem cR {L:Lay} {T:Tbl} {P:FuncId→List V→Option V} {tm tm':Nat→V} {hp hp':Hp} {n:Nat} {o:IOp} {st:Gi} (h:op1 L T P tm hp n o=some st)
  (ht:∀ t∈o.rs,tm t=tm' t) (hh:∀ k∈st.rd,hp k=hp' k):op1 L T P tm' hp' n o=some st:=by
 have h1:opK L T P (eV tm') n o.frz o.op=opK L T P (eV tm) n o.frz o.op:=by
  refine cP n o.frz (fun x hx=>mG (fun t ht'=>(ht t ?_).symm))
  simp only [IOp.rs,List.mem_append,List.mem_flatMap]
  exact .inl ⟨x,hx,ht'⟩
 have h2:Dn tm' o.guard=Dn tm o.guard:=by
  cases hg:o.guard with
  | none=>rfl
  | some g =>
   obtain ⟨t,b⟩:=g
   simp only [Dn]
   rw [ht t (by simp [IOp.rs,hg])]
 simp only [op1] at h ⊢
 rw [h1,h2]
 split
 ·rename_i v hv
  rw [hv] at h;exact h
 ·rename_i m hm
  rw [hm] at h
  simp only [Option.map_eq_some_iff] at h ⊢
  obtain ⟨e,he,rfl⟩:=h
  have:=AM.run_congr (h:=hp) (h':=hp') (m:=EB (Dn tm o.guard) m) hh
  have hr:(EB (Dn tm o.guard) m).reads hp'=(EB (Dn tm o.guard) m).reads hp:=by
   clear this he h1 h2 hm ht
   simp only at hh
   generalize EB (Dn tm o.guard) m=m' at hh ⊢
   induction m' with
   | ret a=>rfl
   | fail=>rfl
   | rdo k f ih =>
    simp only [AM.reads] at hh ⊢
    rw [← hh k (by simp)]
    rw [ih (hp k) (fun o ho=>hh o (by simp [ho]))]
  exact ⟨e,by rw [this];exact he,by rw [hr]⟩
 ·rename_i hv;rw [hv] at h;cases h
inductive Gz (L:Lay) (T:Tbl) (P:FuncId→List V→Option V):List IOp→St→List Gi→St→Prop
 | nil {s}:Gz L T P [] s [] s
 | cons {o ios s st sts s'}:op1 L T P s.tm s.hp s.n o=some st→Gz L T P ios ⟨HK s.tm o.dst st.v,Av s.hp st.upd,s.n+st.new⟩ sts s'→Gz L T P (o::ios) s (st::sts) s'
def We:Nat→List Gi→List Rec→List Rec
 | _,[],acc=>acc
 | i,st::sts,acc=>We (i+1) sts (Fy i st.rd (st.upd.map (·.1)) acc)
theorem Kr {L:Lay} {T:Tbl} {P:FuncId→List V→Option V} {R:Type}:∀ (ios:List IOp) (i:Nat) (s:St) (rcs:List Rec) (k:St→List Rec→Option R) (r:R),Cg L T P i ios s rcs k=some r →
  ∃ sts s',Gz L T P ios s sts s'∧k s' (We i sts rcs)=some r
 | [],i,s,rcs,k,r,h=>⟨[],s,.nil,by simpa [Cg,We] using h⟩
 | o::ios,i,s,rcs,k,r,h=>by
  simp only [Cg] at h
  have key:∀ st,op1 L T P s.tm s.hp s.n o=some st→Cg L T P (i+1) ios ⟨HK s.tm o.dst st.v,Av s.hp st.upd,s.n+st.new⟩ (Fy i st.rd (st.upd.map (·.1)) rcs) k=some r →
    ∃ sts s',Gz L T P (o::ios) s sts s'∧k s' (We i sts rcs)=some r:=by
   intro st h1 h2
   obtain ⟨sts,s',h3,h4⟩:=Kr ios (i+1) _ _ k r h2
   exact ⟨st::sts,s',.cons h1 h3,h4⟩
  generalize hok:opK L T P (eV s.tm) s.n o.frz o.op=ok at h
  cases ok with
  | p v =>
   simp only [Hv] at h
   split at h
   ·rename_i v' hv
    exact key ⟨v',[],s.n,0,[]⟩ (by simp only [op1,hok,hv,Option.map_some]) h
   ·cases h
  | m m =>
   simp only [LX] at h
   split at h
   ·rename_i e he
    exact key ⟨e.v,e.upd,s.n,e.new,_⟩ (by simp only [op1,hok,he,Option.map_some]) h
   ·cases h
  | i g xs=>cases h
def Mx (ios:List IOp) (sts:List Gi):List (List (Nat × V)):=List.zipWith (fun io st=>dU io.dst st.v) ios sts
def KW (sts:List Gi):List (List (Nat × Option Ve.Obj)):=sts.map (·.upd)
theorem Gz.len {L:Lay} {T:Tbl} {P:FuncId→List V→Option V} {ios:List IOp} {s s':St} {sts:List Gi} (h:Gz L T P ios s sts s'):sts.length=ios.length:=by
 induction h with
 | nil=>rfl
 | cons _ _ ih=>simp [ih]
theorem sO {L:Lay} {T:Tbl} {P:FuncId→List V→Option V} {tm:Nat→V} {hp:Hp} {n:Nat} {o:IOp} {st:Gi} (h:op1 L T P tm hp n o=some st):st.nid=n:=by
 simp only [op1] at h
 split at h
 ·obtain ⟨v,_,rfl⟩:=Option.map_eq_some_iff.1 h;rfl
 ·obtain ⟨v,_,rfl⟩:=Option.map_eq_some_iff.1 h;rfl
 ·cases h
theorem Gz.fin {L:Lay} {T:Tbl} {P:FuncId→List V→Option V} {ios:List IOp} {s s':St} {sts:List Gi} (h:Gz L T P ios s sts s') :
  s'.tm=Dc (fun _=>true) (Mx ios sts) s.tm∧s'.hp=Dc (fun _=>true) (KW sts) s.hp∧s.n≤s'.n:=by
 induction h with
 | nil=>exact ⟨rfl,rfl,Nat.le_refl _⟩
 | cons h1 _ ih =>
  refine ⟨?_,?_,by have:=ih.2.2;simp only at this;omega⟩
  ·rw [ih.1];simp only [Mx,List.zipWith_cons_cons,Dc,if_true,Og]
  ·rw [ih.2.1];simp only [KW,List.map_cons,Dc,if_true,NS]
theorem Gz.at {L:Lay} {T:Tbl} {P:FuncId→List V→Option V} {ios:List IOp} {s s':St} {sts:List Gi} (h:Gz L T P ios s sts s'):∀ (j:Nat) (io:IOp),ios[j]?=some io →
  ∃ st,sts[j]?=some st∧op1 L T P (Dc (fun i=>decide (i<j)) (Mx ios sts) s.tm) (Dc (fun i=>decide (i<j)) (KW sts) s.hp) st.nid io=some st∧s.n≤st.nid∧st.nid+st.new≤s'.n ∧
   (∀ j' st',j'<j→sts[j']?=some st'→st'.nid+st'.new≤st.nid):=by
 induction h with
 | nil=>intro j io h;simp at h
 | @cons o ios s st sts s' h1 h2 ih =>
  intro j io hj
  have hfin:=h2.fin
  simp only at hfin
  have hn:=sO h1
  cases j with
  | zero =>
   simp only [List.getElem?_cons_zero,Option.some.injEq] at hj;subst hj
   refine ⟨st,rfl,?_,by omega,by have:=hfin.2.2;omega,fun j' st' hj'=>by omega⟩
   have e1:∀ {α:Type} (ls:List (List (Nat × α))) (f:Nat→α),Dc (fun i=>decide (i<0)) ls f=f:=by
    intro α ls f;funext k
    have:=DN ls (fun i=>decide (i<0)) (fun _=>false) f f k rfl (fun j l _ _=>by simp)
    rw [this]
    clear this
    induction ls generalizing f with
    | nil=>rfl
    | cons l ls ih=>simp only [Dc];exact ih _
   rw [e1,e1,hn];exact h1
  | succ j =>
   obtain ⟨st',g1,g2,g3,g4,g5⟩:=ih j io (by simpa using hj)
   simp only at g3
   have e:∀ {α:Type} (l:List (Nat × α)) (ls:List (List (Nat × α))) (f:Nat→α),Dc (fun i=>decide (i<j+1)) (l::ls) f=Dc (fun i=>decide (i<j)) ls (app f l):=by
    intro α l ls f
    simp only [Dc]
    have:(fun i=>decide (i+1<j+1))=(fun i=>decide (i<j)):=by funext i;simp
    rw [this];simp
   refine ⟨st',by simpa using g1,?_,by omega,g4,fun j' st'' hj' hst=>?_⟩
   ·simp only [Mx,KW,List.zipWith_cons_cons,List.map_cons]
    rw [e,e]
    simp only [Og,NS] at g2
    exact g2
   ·cases j' with
    | zero=>simp only [List.getElem?_cons_zero,Option.some.injEq] at hst;subst hst;omega
    | succ j'=>exact g5 j' st'' (by omega) (by simpa using hst)
theorem He {a b:List Nat}:EG a b=true↔∃ x,x∈a∧x∈b:=by
 simp [EG]
def VB (a b:IOp):Prop:=EG a.dst.toList b.rs=true∨EG a.dst.toList b.dst.toList=true∨EG a.rs b.dst.toList=true
theorem Od {bef:List (List Nat)} {a b:IOp} {i j:Nat} {r:List IOp} (h:Hc bef a i j (b::r)=true):(VB a b→FP bef i j=true)∧Hc bef a i (j+1) r=true:=by
 rw [Hc] at h
 obtain ⟨h1,h2⟩:=(Bool.and_eq_true _ _).mp h
 refine ⟨fun hc=>?_,h2⟩
 rcases (Bool.or_eq_true _ _).mp h1 with h3 | h3
 ·exfalso
  rw [Bool.not_eq_true',Bool.or_eq_false_iff,Bool.or_eq_false_iff] at h3
  obtain ⟨⟨e1,e2⟩,e3⟩:=h3
  rcases hc with hc | hc | hc
  ·rw [e1] at hc;cases hc
  ·rw [e2] at hc;cases hc
  ·rw [e3] at hc;cases hc
 ·exact h3
theorem Oc {bef:List (List Nat)} {a:IOp} {i:Nat} (ios:List IOp):∀ (j:Nat),Hc bef a i j ios=true→∀ k b,ios[k]?=some b→VB a b→FP bef i (j+k)=true:=by
 induction ios with
 | nil=>intro j h k b hb;simp at hb
 | cons b0 r ih =>
  intro j h k b hb hc
  obtain ⟨h1,h2⟩:=Od h
  cases k with
  | zero=>rw [List.getElem?_cons_zero,Option.some.injEq] at hb;subst hb;exact h1 hc
  | succ k =>
   rw [List.getElem?_cons_succ] at hb
   have:=ih (j+1) h2 k b hb hc
   rwa [show j+(k+1)=j+1+k from by omega]
theorem La {bef:List (List Nat)} (ios:List IOp):∀ (i:Nat),Ip bef i ios=true→∀ j k a b,j<k→ios[j]?=some a→ios[k]?=some b→VB a b→FP bef (i+j) (i+k)=true:=by
 induction ios with
 | nil=>intro i h j k a b _ ha;simp at ha
 | cons a0 r ih =>
  intro i h j k a b hjk ha hb hc
  rw [Ip] at h
  obtain ⟨h1,h2⟩:=(Bool.and_eq_true _ _).mp h
  cases k with
  | zero=>omega
  | succ k =>
   rw [List.getElem?_cons_succ] at hb
   cases j with
   | zero =>
    rw [List.getElem?_cons_zero,Option.some.injEq] at ha;subst ha
    have:=Oc r (i+1) h1 k b hb hc
    rwa [show i+(k+1)=i+1+k from by omega]
   | succ j =>
    rw [List.getElem?_cons_succ] at ha
    have:=ih (i+1) h2 j k a b (by omega) ha hb hc
    rwa [show i+(j+1)=i+1+j from by omega,show i+(k+1)=i+1+k from by omega]
def Ks (i:Nat) (st:Gi):Rec:=⟨i,st.rd,st.upd.map (·.1)⟩
theorem Qj {bef:List (List Nat)}:∀ {sts:List Gi} {i:Nat} {acc:List Rec},Gm bef (We i sts acc)=true →
  Gm bef acc=true∧(∀ b∈acc,∀ j st,sts[j]?=some st→EN bef (Ks (i+j) st) b=true) ∧
   (∀ j k st st',j<k→sts[j]?=some st→sts[k]?=some st'→EN bef (Ks (i+k) st') (Ks (i+j) st)=true)
 | [],i,acc,h=>⟨h,fun _ _ _ _ h=>by simp at h,fun _ _ _ _ _ h=>by simp at h⟩
 | st::sts,i,acc,h=>by
  simp only [We] at h
  obtain ⟨h1,h2,h3⟩:=Qj h
  have nil:∀ (b:Rec) (j:Nat),EN bef ⟨j,[],[]⟩ b=true:=fun b j=>by simp [EN,EG]
  have nil':∀ (b:Rec) (j:Nat),EN bef b ⟨j,[],[]⟩=true:=fun b j=>by simp [EN,EG]
  have hadd:(st.rd=[]∧st.upd.map (·.1)=[]∧Fy i st.rd (st.upd.map (·.1)) acc=acc)∨Fy i st.rd (st.upd.map (·.1)) acc=Ks i st::acc:=by
   unfold Fy
   split
   ·rename_i e1 e2;exact .inl ⟨e1,e2,rfl⟩
   ·exact .inr rfl
  have hself:Gm bef acc=true∧∀ b∈acc,EN bef (Ks i st) b=true:=by
   rcases hadd with ⟨e1,e2,e3⟩ | e
   ·rw [e3] at h1;exact ⟨h1,fun b _=>by simp only [Ks,e1,e2];exact nil b i⟩
   ·rw [e] at h1;simp only [Gm,Bool.and_eq_true,List.all_eq_true] at h1;exact ⟨h1.2,h1.1⟩
  have hmem:∀ b∈acc,b∈Fy i st.rd (st.upd.map (·.1)) acc:=by
   intro b hb;rcases hadd with ⟨_,_,e3⟩ | e
   ·rw [e3];exact hb
   ·rw [e];simp [hb]
  refine ⟨hself.1,fun b hb j st' hj=>?_,fun j k s1 s2 hjk hj hk=>?_⟩
  ·cases j with
   | zero=>simp only [List.getElem?_cons_zero,Option.some.injEq] at hj;subst hj;exact hself.2 b hb
   | succ j =>
    have:=h2 b (hmem b hb) j st' (by simpa using hj)
    rwa [show i+(j+1)=i+1+j from by omega]
  ·cases k with
   | zero=>omega
   | succ k =>
    cases j with
    | zero =>
     simp only [List.getElem?_cons_zero,Option.some.injEq] at hj;subst hj
     rcases hadd with ⟨e1,e2,e3⟩ | e
     ·simp only [Ks,e1,e2];exact nil' _ _
     ·have:=h2 (Ks i st) (by rw [e];simp) k s2 (by simpa using hk)
      rw [show i+(k+1)=i+1+k from by omega,Nat.add_zero];exact this
    | succ j =>
     have:=h3 j k s1 s2 (by omega) (by simpa using hj) (by simpa using hk)
     rwa [show i+(j+1)=i+1+j from by omega,show i+(k+1)=i+1+k from by omega]
theorem LJ {bef:List (List Nat)} {a b:Rec} (h:EN bef a b=true) (hc:∃ x,(x∈a.wo∧(x∈b.wo∨x∈b.ro))∨(x∈a.ro∧x∈b.wo)):FP bef b.i a.i=true:=by
 simp only [EN,Bool.or_eq_true,Bool.not_eq_true'] at h
 rcases h with h | h
 ·simp only [Bool.or_eq_false_iff] at h
  obtain ⟨x,⟨h1,h2 | h2⟩ | ⟨h1,h2⟩⟩:=hc
  ·rw [He.2 ⟨x,h1,h2⟩] at h;simp at h
  ·have:=He.2 ⟨x,h1,h2⟩;simp_all
  ·have:=He.2 ⟨x,h1,h2⟩;simp_all
 ·exact h
end Ve
namespace Ve
open Go
def Nt (o:Oper):List Nat:=(o.after.toList.filter (Region.binds .any)).map (·.on)
section
variable {Pr:Program} {L:Lay} {T:Tbl} {O:Orc} {P:FuncId→List V→Option V} (G:eX Pr L T O P) {arr:Array Oper} {nt:Nat} {Q:Exit→Act→World→Prop}
include G in
theorem a3s {E:Env} {tm:Nat→V} {hp:Hp} {a:Act} (hT:Hx E tm a) (hh:BE E hp) {o:Oper} {io:IOp} (his:eT L arr nt o io) {n:Nat} {st:Gi} (h:op1 L T P tm hp n io=some st)
  (hU:∀ i,n≤i→i<n+st.new→¬ E.U i) :
  (Region.wanted o (yielded arr a.tmps)=true∧PX Pr E (Av hp st.upd) a o st.v n (n+st.new))∨(Region.wanted o (yielded arr a.tmps)=false∧st.v=BG∧st.upd=[]∧st.new=0):=by
 have hgo:=jH (o:=o) (hp:=hp) (n:=n) G hT hh (frz:=io.frz) his.wf
 simp only [op1] at h
 rw [his.op] at h
 generalize opK L T P (eV tm) n io.frz o.op=ok at hgo h
 cases ok with
 | p v =>
  obtain ⟨v',hv,rfl⟩:=Option.map_eq_some_iff.1 h
  simp only [Jy] at hv
  split at hv
  ·rename_i hw
   exact .inl ⟨Hb his hT hw,hgo _ hv⟩
  ·rename_i hw
   cases hv
   exact .inr ⟨Hb his hT hw,rfl,rfl,rfl⟩
  ·cases hv
 | m m =>
  obtain ⟨e,he,rfl⟩:=Option.map_eq_some_iff.1 h
  generalize hr:(EB (Dn tm io.guard) m).reads hp=rd
  simp only [EB] at he
  split at he
  ·rename_i hw
   exact .inl ⟨Hb his hT hw,hgo e he hU⟩
  ·rename_i hw
   simp only [AM.run,Option.some.injEq] at he;subst he
   exact .inr ⟨Hb his hT hw,rfl,rfl,rfl⟩
  ·simp [AM.run] at he
 | i g xs=>cases h
structure DInv (nt:Nat) (sts:List Gi) (ios:List IOp) (E0:Env) (s0:St) (S:Nat→Bool) (E:Env) (a:Act):Prop where
 tm:Hx E (Dc S (Mx ios sts) s0.tm) a
 hp:BE E (Dc S (KW sts) s0.hp)
 U:∀ i,E.U i→i<s0.n∨∃ j st,S j=true∧sts[j]?=some st∧st.nid≤i∧i<st.nid+st.new
 nt:a.tmps.size=nt
 nx:Nx E0 E
theorem Pe {ios:List IOp} {sts:List Gi} {j:Nat} {l:List (Nat × V)} (h:(Mx ios sts)[j]?=some l):∃ io st,ios[j]?=some io∧sts[j]?=some st∧l=dU io.dst st.v:=by
 simp only [Mx,List.getElem?_zipWith] at h
 cases h1:ios[j]? with
 | none=>simp [h1] at h
 | some io =>
  cases h2:sts[j]? with
  | none=>simp [h1,h2] at h
  | some st=>simp [h1,h2] at h;exact ⟨io,st,rfl,rfl,h.symm⟩
theorem Oa {sts:List Gi} {j:Nat} {l:List (Nat × Option Ve.Obj)} (h:(KW sts)[j]?=some l):∃ st,sts[j]?=some st∧l=st.upd:=by
 simp only [KW,List.getElem?_map] at h
 cases h2:sts[j]? with
 | none=>simp [h2] at h
 | some st=>simp [h2] at h;exact ⟨st,rfl,h.symm⟩
theorem QY {d:Option Tmp} {v:V} {k:Nat}:k∈(dU d v).map (·.1)↔k∈d.toList:=by
 cases d<;>simp [dU,eq_comm]
include G in
theorem fC {ios:List IOp} {sts:List Gi} {s0 s':St} (hst:Gz L T P ios s0 sts s') {bef:List (List Nat)} (hs:Ip bef 0 ios=true) (hhp:Gm bef (We 0 sts [])=true)
  (hbef:∀ (j:Nat) (o:Oper),arr[j]?=some o→bef.getD j []=Nt o) (hlt:∀ (j k:Nat),k∈bef.getD j []→k<j)
  (hio:∀ (k:Nat) (io:IOp),ios[k]?=some io→∃ o,arr[k]?=some o∧eT L arr nt o io) (hlen:arr.size=ios.length) {E0:Env}
  (hU0:∀ i,s0.n≤i→¬ E0.U i)
  (hk:∀ E a,Nx E0 E→StR nt E s' a→Q .normal a E.w) :
  ∀ (fuel:Nat) (listed:Array Bool),listed.size=arr.size→((List.range arr.size).filter fun i=>!listed.getD i true).length≤fuel →
   (∀ j,listed.getD j false=true→∀ k∈bef.getD j [],listed.getD k false=true) →
   ∀ E a,DInv nt sts ios E0 s0 (fun i=>listed.getD i false) E a→wpAny Pr .any arr Q fuel listed a E.w:=by
 have hfin:=hst.fin
 have hsl:=hst.len
 -- the end
 have done:∀ (listed:Array Bool),listed.size=arr.size→(∀ j,listed.getD j false=true→∀ k∈bef.getD j [],listed.getD k false=true) →
   ∀ E a,DInv nt sts ios E0 s0 (fun i=>listed.getD i false) E a→Region.ready .any arr listed=[]→Q .normal a E.w:=by
  intro listed hls hdc E a hI hr
  have hall:∀ n j,j<n→j<arr.size→listed.getD j false=true:=by
   intro n
   induction n with
   | zero=>intro j hj;omega
   | succ n ih =>
    intro j hj hja
    cases hc:listed.getD j false with
    | true=>rfl
    | false =>
     exfalso
     have hmem:j∈Region.ready .any arr listed:=by
      obtain ⟨o,ho⟩:∃ o,arr[j]?=some o:=⟨arr[j],by simp [hja]⟩
      simp only [Region.ready,List.mem_filter,List.mem_range,hja,true_and,Bool.and_eq_true,Bool.not_eq_true']
      have hjl:j<listed.size:=by omega
      have e1:listed.getD j true=false:=by
       simp only [Array.getD_eq_getD_getElem?,Array.getElem?_eq_getElem hjl,Option.getD_some] at hc ⊢;exact hc
      refine ⟨e1,?_⟩
      simp only [ho,Option.map_some,Option.getD_some,Array.all_eq_true']
      intro e he
      simp only [Bool.or_eq_true,Bool.not_eq_true']
      cases hb:Region.binds .any e with
      | false=>exact .inl rfl
      | true =>
       right
       have:e.on∈bef.getD j []:=by
        rw [hbef j o ho]
        simp only [Nt,List.mem_map,List.mem_filter]
        exact ⟨e,⟨by simpa using he,hb⟩,rfl⟩
       have h1:=hlt j _ this
       exact ih e.on (by omega) (by omega)
     rw [hr] at hmem;simp at hmem
  refine hk E a hI.nx ⟨?_,?_,?_,hI.nt⟩
  ·rw [hfin.1]
   have:Dc (fun _=>true) (Mx ios sts) s0.tm=Dc (fun i=>listed.getD i false) (Mx ios sts) s0.tm:=by
    funext k
    refine DN _ _ _ _ _ k rfl (fun j l hl _=>?_)
    obtain ⟨io,st,h1,_,_⟩:=Pe hl
    have:j<ios.length:=(List.getElem?_eq_some_iff.1 h1).1
    exact (hall (j+1) j (by omega) (by omega)).symm
   rw [this];exact hI.tm
  ·rw [hfin.2.1]
   have:Dc (fun _=>true) (KW sts) s0.hp=Dc (fun i=>listed.getD i false) (KW sts) s0.hp:=by
    funext k
    refine DN _ _ _ _ _ k rfl (fun j l hl _=>?_)
    obtain ⟨st,h1,_⟩:=Oa hl
    have:j<sts.length:=(List.getElem?_eq_some_iff.1 h1).1
    exact (hall (j+1) j (by omega) (by omega)).symm
   rw [this];exact hI.hp
  ·intro i hi hu
   rcases hI.U i hu with h | ⟨j,st,_,h2,h3,h4⟩
   ·have:=hfin.2.2;omega
   ·have hj:j<ios.length:=by rw [← hsl];exact (List.getElem?_eq_some_iff.1 h2).1
    obtain ⟨st',g1,_,_,g4,_⟩:=hst.at j ios[j] (by simp [hj])
    rw [h2] at g1;cases g1
    omega
 intro fuel
 induction fuel with
 | zero =>
  intro listed hls hcnt hdc E a hI
  have hr:Region.ready .any arr listed=[]:=by
   have:((List.range arr.size).filter fun i=>!listed.getD i true)=[]:=List.eq_nil_of_length_eq_zero (by omega)
   simp only [Region.ready]
   rw [List.filter_eq_nil_iff] at this ⊢
   intro i hi
   have:=this i hi
   simp only [Bool.not_eq_true',Bool.not_eq_false] at this
   simp [this]
  exact ⟨hr,done listed hls hdc E a hI hr⟩
 | succ fuel ih =>
  intro listed hls hcnt hdc E a hI
  refine ⟨done listed hls hdc E a hI,fun i hi=>?_⟩
  simp only [Region.ready,List.mem_filter,List.mem_range,Bool.and_eq_true,Bool.not_eq_true'] at hi
  obtain ⟨hia,hil,hire⟩:=hi
  have hils:i<listed.size:=by omega
  obtain ⟨io,hio1⟩:∃ io,ios[i]?=some io:=⟨ios[i]'(by omega),by simp⟩
  obtain ⟨o,ho,his⟩:=hio i io hio1
  have hSi:listed.getD i false=false:=by
   simp only [Array.getD_eq_getD_getElem?,Array.getElem?_eq_getElem hils,Option.getD_some] at hil ⊢;exact hil
  have hpre:∀ k∈bef.getD i [],listed.getD k false=true:=by
   intro k hk
   rw [hbef i o ho] at hk
   simp only [Nt,List.mem_map,List.mem_filter] at hk
   obtain ⟨e,⟨he,hb⟩,rfl⟩:=hk
   simp only [ho,Option.map_some,Option.getD_some,Array.all_eq_true'] at hire
   have:=hire e (by simpa using he)
   simpa [hb] using this
  obtain ⟨st,hst1,hop,hn1,hn2,hn3⟩:=hst.at i io hio1
  have hdc':∀ (f j:Nat),listed.getD j false=true→∀ k,It bef k f j=true→listed.getD k false=true:=by
   intro f
   induction f with
   | zero=>intro j hj k hk;cases hk
   | succ f ihf =>
    intro j hj k hk
    simp only [It,Bool.or_eq_true,List.contains_iff_mem,List.any_eq_true] at hk
    rcases hk with h | ⟨l,h1,h2⟩
    ·exact hdc j hj k h
    ·exact ihf l (hdc j hj l h1) k h2
  have hpre':∀ {j},FP bef j i=true→listed.getD j false=true:=by
   intro j hj
   simp only [FP,It,Bool.or_eq_true,List.contains_iff_mem,List.any_eq_true] at hj
   rcases hj with h | ⟨l,h1,h2⟩
   ·exact hpre j h
   ·refine hdc' 7 l (hpre l h1) j ?_
    simp only [It,Bool.or_eq_true,List.contains_iff_mem,List.any_eq_true]
    exact h2
  -- who touches what i reads,or writes
  have slot_lo:∀ j a',j<i→ios[j]?=some a'→VB a' io→listed.getD j false=true:=fun j a' hj ha hc=>by
   have:=La ios 0 hs j i a' io hj ha hio1 hc
   simp only [Nat.zero_add] at this
   exact hpre' this
  have slot_hi:∀ j a',i<j→ios[j]?=some a'→VB io a'→listed.getD j false=false:=fun j a' hj ha hc=>by
   have:=La ios 0 hs i j io a' hj hio1 ha hc
   simp only [Nat.zero_add] at this
   cases h:listed.getD j false with
   | false=>rfl
   | true=>have:=hdc' 8 j h i this;rw [hSi] at this;cases this
  obtain ⟨_,_,hrec⟩:=Qj hhp
  have heap_lo:∀ j st',j<i→sts[j]?=some st'→(∃ x,x∈st'.upd.map (·.1)∧(x∈st.rd∨x∈st.upd.map (·.1)))→listed.getD j false=true:=fun j st' hj ha ⟨x,h1,h2⟩=>by
   have:=LJ (hrec j i st' st hj ha hst1) ⟨x,by
    rcases h2 with h2 | h2
    ·exact .inr ⟨h2,h1⟩
    ·exact .inl ⟨h2,.inl h1⟩⟩
   simp only [Ks,Nat.zero_add] at this
   exact hpre' this
  have heap_hi:∀ j st',i<j→sts[j]?=some st'→(∃ x,x∈st'.upd.map (·.1)∧(x∈st.rd∨x∈st.upd.map (·.1)))→listed.getD j false=false:=fun j st' hj ha ⟨x,h1,h2⟩=>by
   have:=LJ (hrec i j st st' hj hst1 ha) ⟨x,by
    rcases h2 with h2 | h2
    ·exact .inl ⟨h1,.inr h2⟩
    ·exact .inl ⟨h1,.inl h2⟩⟩
   simp only [Ks,Nat.zero_add] at this
   cases h:listed.getD j false with
   | false=>rfl
   | true=>have:=hdc' 8 j h i this;rw [hSi] at this;cases this
  -- what i finds
  have hop':op1 L T P (Dc (fun i=>listed.getD i false) (Mx ios sts) s0.tm) (Dc (fun i=>listed.getD i false) (KW sts) s0.hp) st.nid io=some st:=by
   refine cR hop (fun t ht=>?_) (fun k hk=>?_)
   ·refine DN _ _ _ _ _ t rfl (fun j l hl hm=>?_)
    obtain ⟨io',st',h1,h2,rfl⟩:=Pe hl
    rw [QY] at hm
    by_cases hji:j<i
    ·simp only [hji,decide_true]
     exact (slot_lo j io' hji h1 (.inl (He.2 ⟨t,hm,ht⟩))).symm
    ·simp only [hji,decide_false]
     by_cases hje:j=i
     ·subst hje;exact hSi.symm
     ·exact (slot_hi j io' (by omega) h1 (.inr (.inr (He.2 ⟨t,ht,hm⟩)))).symm
   ·refine DN _ _ _ _ _ k rfl (fun j l hl hm=>?_)
    obtain ⟨st',h2,rfl⟩:=Oa hl
    by_cases hji:j<i
    ·simp only [hji,decide_true]
     exact (heap_lo j st' hji h2 ⟨k,hm,.inl hk⟩).symm
    ·simp only [hji,decide_false]
     by_cases hje:j=i
     ·subst hje;exact hSi.symm
     ·exact (heap_hi j st' (by omega) h2 ⟨k,hm,.inl hk⟩).symm
  have hfree:∀ x,st.nid≤x→x<st.nid+st.new→¬ E.U x:=by
   intro x h1 h2 hu
   rcases hI.U x hu with h | ⟨j,st',hj,g2,g3,g4⟩
   ·omega
   ·by_cases hji:j<i
    ·have:=hn3 j st' hji g2;omega
    ·by_cases hje:j=i
     ·subst hje;rw [hSi] at hj;cases hj
     ·have hjl:j<ios.length:=by rw [← hsl];exact (List.getElem?_eq_some_iff.1 g2).1
      obtain ⟨st'',e1,_,_,_,e5⟩:=hst.at j ios[j] (by simp [hjl])
      rw [g2] at e1;cases e1
      have:=e5 i st (by omega) hst1
      omega
  -- the set with i
  have hget:∀ j,(listed.setIfInBounds i true).getD j false=(listed.getD j false||j == i):=by
   intro j
   simp only [Array.getD_eq_getD_getElem?,Array.getElem?_setIfInBounds]
   by_cases hj:i=j
   ·subst hj;simp [hils]
   ·have:(j == i)=false:=by simp;omega
    simp [hj,this]
  have htm:Dc (fun j=>(listed.setIfInBounds i true).getD j false) (Mx ios sts) s0.tm=HK (Dc (fun j=>listed.getD j false) (Mx ios sts) s0.tm) io.dst st.v:=by
   rw [Og]
   refine UD (j:=i) (by simp [Mx,List.getElem?_zipWith,hio1,hst1]) hget (fun j' l' k hj hl hk hk'=>?_)
   obtain ⟨io',st',h1,h2,rfl⟩:=Pe hl
   rw [QY] at hk hk'
   exact slot_hi j' io' hj h1 (.inr (.inl (He.2 ⟨k,hk',hk⟩)))
  have hhp':Dc (fun j=>(listed.setIfInBounds i true).getD j false) (KW sts) s0.hp=Av (Dc (fun j=>listed.getD j false) (KW sts) s0.hp) st.upd:=by
   rw [NS]
   refine UD (j:=i) (by simp [KW,hst1]) hget (fun j' l' k hj hl hk hk'=>?_)
   obtain ⟨st',h2,rfl⟩:=Oa hl
   exact heap_hi j' st' hj h2 ⟨k,hk,.inr hk'⟩
  -- what stands behind
  have next:∀ E' y,Nx E E'→BE E' (Av (Dc (fun i=>listed.getD i false) (KW sts) s0.hp) st.upd)→R1 E' .O st.v y []→(∀ x,E'.U x→E.U x∨(st.nid≤x∧x<st.nid+st.new)) →
    wpAny Pr .any arr Q fuel (listed.setIfInBounds i true) (a.put o.dst y) E'.w:=by
   intro E' y h1 h2 h3 h4
   refine ih (listed.setIfInBounds i true) (by simp [hls]) ?_ ?_ E' _ ⟨?_,?_,?_,?_,hI.nx.trans h1⟩
   ·have hle:∀ (l:List Nat),i∈l→(l.filter fun j=>!(listed.setIfInBounds i true).getD j true).length<(l.filter fun j=>!listed.getD j true).length:=by
     have hj:∀ j,(!(listed.setIfInBounds i true).getD j true)=((!listed.getD j true)&&!(j == i)):=by
      intro j
      simp only [Array.getD_eq_getD_getElem?,Array.getElem?_setIfInBounds]
      by_cases hj:i=j
      ·subst hj;simp [hils]
      ·have:(j == i)=false:=by simp;omega
       simp [hj,this]
     intro l hl
     have:(l.filter fun j=>!(listed.setIfInBounds i true).getD j true)=((l.filter fun j=>!listed.getD j true).filter fun j=>!(j == i)):=by
      rw [List.filter_filter]
      congr 1
      funext j;rw [hj,Bool.and_comm]
     rw [this]
     refine List.length_filter_lt_length_iff_exists.2 ⟨i,List.mem_filter.2 ⟨hl,by simp [hil]⟩,by simp⟩
    have:=hle (List.range arr.size) (List.mem_range.2 hia)
    omega
   ·intro j hj k hk
    rw [hget] at hj ⊢
    rcases Bool.or_eq_true _ _ |>.mp hj with h | h
    ·rw [hdc j h k hk];rfl
    ·have:j=i:=by simpa using h
     subst this
     rw [hpre k hk];rfl
   ·rw [htm]
    rw [his.dst]
    exact (hI.tm.ext h1.ext).put (fun t ht=>by rw [hI.nt];exact his.dlt t ht) h3
   ·rw [hhp'];exact h2
   ·intro x hx
    rcases h4 x hx with h | h
    ·rcases hI.U x h with h | ⟨j,st',g1,g2⟩
     ·exact .inl h
     ·exact .inr ⟨j,st',by rw [hget,g1];rfl,g2⟩
    ·exact .inr ⟨i,st,by rw [hget];simp,hst1,h⟩
   ·cases o.dst<;>simp [Act.put,hI.nt]
  unfold wpOp
  rw [ho]
  simp only
  rcases a3s G hI.tm hI.hp his hop' hfree with ⟨hw,hm⟩ | ⟨hw,hv,hu,hnew⟩
  ·rw [hw]
   simp only [if_true]
   exact .inl (hm _ _ next)
  ·rw [hw]
   simp only [Bool.false_eq_true,if_false]
   refine next E undef (Nx.refl E) ?_ ?_ (fun x h=>.inl h)
   ·rw [hu];exact hI.hp
   ·rw [hv];exact .lit .nil
end
end Ve
namespace Ve
open Go
mutual
def V.und (thr:Nat):V→Bool
 | .ptr o _ _=>decide (o<thr)
 | .sl o=>decide (o<thr)
 | .asl o _ _ _=>decide (o<thr)
 | .agg cs=>CZ thr cs
 | .tup cs=>CZ thr cs
 | .fn _ a b=>CZ thr a&&CZ thr b
 | .lit _=>true
 | .ip ..=>true
 | .isl ..=>true
 | .own ..=>true
 | .dead=>true
def CZ (thr:Nat):List V→Bool
 | []=>true
 | v::r=>v.und thr&&CZ thr r
end
mutual
theorem MP (thr:Nat):∀ (v:V),(v.scrub thr).und thr=true
 | .ptr o i off=>by simp only [V.scrub];split<;>simp_all [V.und]
 | .sl o=>by simp only [V.scrub];split<;>simp_all [V.und]
 | .asl o _ _ _=>by simp only [V.scrub];split<;>simp_all [V.und]
 | .agg cs=>by simp only [V.scrub,V.und];exact Eo thr cs
 | .tup cs=>by simp only [V.scrub,V.und];exact Eo thr cs
 | .fn _ a b=>by simp only [V.scrub,V.und,Eo thr a,Eo thr b,Bool.and_self]
 | .lit _=>rfl
 | .ip ..=>rfl
 | .isl ..=>rfl
 | .own ..=>rfl
 | .dead=>rfl
theorem Eo (thr:Nat):∀ (vs:List V),CZ thr (AU thr vs)=true
 | []=>rfl
 | v::vs=>by simp only [AU,CZ,MP thr v,Eo thr vs,Bool.and_self]
end
mutual
theorem Wp (thr:Nat):∀ (v:V),v.perm=true→v.und thr=true
 | .ptr ..,h=>by simp [V.perm] at h
 | .sl ..,h=>by simp [V.perm] at h
 | .asl ..,h=>by simp [V.perm] at h
 | .agg cs,h=>by simp only [V.perm,V.und] at *;exact Ea thr cs h
 | .tup cs,h=>by simp only [V.perm,V.und] at *;exact Ea thr cs h
 | .fn _ a b,h=>by simp only [V.perm,V.und,Bool.and_eq_true] at *;exact ⟨Ea thr a h.1,Ea thr b h.2⟩
 | .lit _,_=>rfl
 | .ip ..,_=>rfl
 | .isl ..,_=>rfl
 | .own ..,_=>rfl
 | .dead,_=>rfl
theorem Ea (thr:Nat):∀ (vs:List V),AD vs=true→CZ thr vs=true
 | [],_=>rfl
 | v::vs,h=>by simp only [AD,CZ,Bool.and_eq_true] at *;exact ⟨Wp thr v h.1,Ea thr vs h.2⟩
end
theorem HI {thr:Nat} {f:V→AM (V × List Nat)} {h:Hp} (hf:∀ v r,(f v).run h=some r→r.1.und thr=true):∀ {vs:List V} {rs:List (V × List Nat)},(AC f vs).run h=some rs→CZ thr (rs.map (·.1))=true
 | [],rs,hr=>by simp [AC,AM.run] at hr;subst hr;rfl
 | v::vs,rs,hr=>by
  obtain ⟨y,ys,h1,h2,rfl⟩:=Dg _ _ _ _ hr
  simp only [List.map_cons,CZ,hf v y h1,HI hf h2,Bool.and_self]
theorem Nm {h:Hp} {thr:Nat}:∀ (d:Nat) (v:V) (r:V × List Nat),(AK thr d v).run h=some r→r.1.und thr=true
 | 0,v,r,hr=>by simp [AK,AM.run] at hr
 | d+1,v,r,hr=>by
  have ih:=Nm (h:=h) (thr:=thr) d
  cases v with
  | agg cs =>
   simp only [AK,AM.run_bind,Option.bind_eq_some_iff,AM.run,Option.some.injEq] at hr
   obtain ⟨x,hx,rfl⟩:=hr
   simp only [V.und];exact HI ih hx
  | tup cs =>
   simp only [AK,AM.run_bind,Option.bind_eq_some_iff,AM.run,Option.some.injEq] at hr
   obtain ⟨x,hx,rfl⟩:=hr
   simp only [V.und];exact HI ih hx
  | sl o =>
   simp only [AK] at hr
   split at hr
   ·rename_i ho;simp only [AM.run,Option.some.injEq] at hr;subst hr;simp [V.und,ho]
   ·simp only [AM.run] at hr
    split at hr
    ·simp only [AM.run,Option.some.injEq] at hr;subst hr;rfl
    ·split at hr
     ·rw [AM.run_bind] at hr
      obtain ⟨x,_,hr⟩:=Option.bind_eq_some_iff.1 hr
      split at hr
      ·simp only [AM.run,Option.some.injEq] at hr;subst hr;rfl
      ·simp [AM.run] at hr
     ·simp only [AM.run,Option.some.injEq] at hr;subst hr;rfl
  | fn f a b =>
   simp only [AK] at hr
   split at hr
   ·split at hr
    ·rename_i hp
     simp only [AM.run,Option.some.injEq] at hr;subst hr
     simp only [Bool.and_eq_true] at hp
     simp only [V.und,Ea _ _ hp.1,Ea _ _ hp.2,Bool.and_self]
    ·simp only [AM.run,Option.some.injEq] at hr;subst hr;rfl
   ·simp only [AM.run,Option.some.injEq] at hr;subst hr
    simp only [V.und,Eo,Bool.and_self]
  | ptr o i off =>
   simp only [AK] at hr
   split at hr
   ·rename_i ho;simp only [AM.run,Option.some.injEq] at hr;subst hr;simp [V.und,ho]
   ·simp only [AM.run,Option.some.injEq] at hr;subst hr;rfl
  | asl o i off n =>
   simp only [AK] at hr
   split at hr
   ·rename_i ho;simp only [AM.run,Option.some.injEq] at hr;subst hr;simp [V.und,ho]
   ·simp only [AM.run,Option.some.injEq] at hr;subst hr;rfl
  | lit x=>simp only [AK,AM.run,Option.some.injEq] at hr;subst hr;rfl
  | ip=>simp only [AK,AM.run,Option.some.injEq] at hr;subst hr;rfl
  | isl=>simp only [AK,AM.run,Option.some.injEq] at hr;subst hr;rfl
  | own=>simp only [AK,AM.run,Option.some.injEq] at hr;subst hr;rfl
  | dead=>simp only [AK,AM.run,Option.some.injEq] at hr;subst hr;rfl
structure Dro (E E':Env) (thr:Nat):Prop where
 w:E'.w=E.w
 F:∀ b,E.F b→E'.F b
 no:∀ b,E.NO b→E'.NO b
 al:∀ o,o<thr→E'.al o=E.al o
 U:∀ o,o<thr→E.U o→E'.U o
theorem KA (thr:Nat):∀ (a b:List V),CZ thr (a++b)=(CZ thr a&&CZ thr b)
 | [],b=>by simp [CZ]
 | v::a,b=>by simp [CZ,KA thr a b,Bool.and_assoc]
theorem Vs (thr:Nat) (v:V):CZ thr v.cells=v.und thr:=by cases v<;>simp [V.cells,V.und,CZ]
theorem Nr (thr:Nat):∀ (vs:List V),CZ thr (AG vs)=CZ thr vs
 | []=>rfl
 | v::vs=>by
  have:=Nr thr vs
  simp only [AG] at this
  simp only [AG,List.map_cons,List.flatten_cons,KA,Vs,CZ,this]
theorem Rs.dro {E E':Env} {thr:Nat} (D:Dro E E' thr) {m:Md} {vs:List V} {xs:List Value} {f:List Nat} (h:Rs E m vs xs f):(m=.O→CZ thr vs=true)→Rs E' m vs xs f:=by
 induction h with
 | nil=>exact fun _=>.nil
 | lit _ ih=>exact fun x=>.lit (ih (fun e=>by have:=x e;simpa [CZ,V.und] using this))
 | agg _ _ ih1 ih2=>exact fun x=>.agg (ih1 (fun e=>by have:=x e;simp [CZ,V.und] at this;exact this.1)) (ih2 (fun e=>by have:=x e;simp [CZ,V.und] at this;exact this.2))
 | tup _ _ ih1 ih2=>exact fun x=>.tup (ih1 (fun e=>by have:=x e;simp [CZ,V.und] at this;exact this.1)) (ih2 (fun e=>by have:=x e;simp [CZ,V.und] at this;exact this.2))
 | fn _ _ _ ih1 ih2 ih3=>exact fun x=>.fn (ih1 (fun e=>by have:=x e;simp [CZ,V.und] at this;exact this.1.1)) (ih2 (fun e=>by have:=x e;simp [CZ,V.und] at this;exact this.1.2)) (ih3 (fun e=>by have:=x e;simp [CZ,V.und] at this;exact this.2))
 | @ip m p row off blk DR ys vs xs f hF hN hm h1 hr ho _ ih1 ih2 =>
  intro x
  exact .ip (fun h=>D.F _ (hF h)) (fun h=>D.no _ (hN h)) hm (ih1 (fun e=>by cases p<;>cases e)) (by rw [D.w];exact hr) ho (ih2 (fun e=>by have:=x e;simpa [CZ,V.und] using this))
 | isl0 hm hn _ ih=>exact fun x=>.isl0 hm hn (ih (fun e=>by have:=x e;simpa [CZ,V.und] using this))
 | @isl m p nn els blk off cap sz ys vs xs f hc hF hN hm hs h1 hr ho _ ih1 ih2 =>
  intro x
  exact .isl hc (fun h=>D.F _ (hF h)) (fun h=>D.no _ (hN h)) hm hs (ih1 (fun e=>by cases p<;>cases e)) (by rw [D.w];exact hr) ho (ih2 (fun e=>by have:=x e;simpa [CZ,V.und] using this))
 | own0 hz _ ih=>exact fun x=>.own0 hz (ih (fun e=>by have:=x e;simpa [CZ,V.und] using this))
 | own hr hs h1 _ ih1 ih2=>exact fun x=>.own (by rw [D.w];exact hr) hs (ih1 (fun e=>by cases e)) (ih2 (fun e=>by have:=x e;simpa [CZ,V.und] using this))
 | sl ha _ ih =>
  intro x
  have:=x rfl
  simp only [CZ,V.und,Bool.and_eq_true,decide_eq_true_eq] at this
  exact .sl (by rw [D.al _ this.1];exact ha) (ih fun _=>this.2)
 | slD ha hu _ ih =>
  intro x
  have:=x rfl
  simp only [CZ,V.und,Bool.and_eq_true,decide_eq_true_eq] at this
  exact .slD (by rw [D.al _ this.1];exact ha) (D.U _ this.1 hu) (ih fun _=>this.2)
 | ptr ha hb _ ih =>
  intro x
  have:=x rfl
  simp only [CZ,V.und,Bool.and_eq_true,decide_eq_true_eq] at this
  exact .ptr (by rw [D.al _ this.1];exact ha) hb (ih fun _=>this.2)
 | ptrD ha hu _ ih =>
  intro x
  have:=x rfl
  simp only [CZ,V.und,Bool.and_eq_true,decide_eq_true_eq] at this
  exact .ptrD (by rw [D.al _ this.1];exact ha) (D.U _ this.1 hu) (ih fun _=>this.2)
 | asl ha hb _ ih =>
  intro x
  have:=x rfl
  simp only [CZ,V.und,Bool.and_eq_true,decide_eq_true_eq] at this
  exact .asl (by rw [D.al _ this.1];exact ha) hb (ih fun _=>this.2)
 | aslD ha hu _ ih =>
  intro x
  have:=x rfl
  simp only [CZ,V.und,Bool.and_eq_true,decide_eq_true_eq] at this
  exact .aslD (by rw [D.al _ this.1];exact ha) (D.U _ this.1 hu) (ih fun _=>this.2)
 | dead _ ih=>exact fun x=>.dead (ih (fun e=>by have:=x e;simpa [CZ,V.und] using this))
end Ve
namespace Ve
open Go
theorem Nn {E:Env} {hp:Hp} (hh:BE E hp) {thr i:Nat} {y:Option Ve.Obj} {ls:List Nat} (hc:DI thr hp (hp i)=some (y,ls)) :
  ∃ g,g.Perm (E.fps i++ls.flatMap E.fps)∧(y=none↔hp i=none)∧(y=none→g=[]) ∧
   ∀ ob,y=some ob→∃ oi,E.al i=some oi∧E.U i∧∀ E',Dro E E' thr→EK E' g ob oi:=by
 cases ho:hp i with
 | none =>
  rw [ho] at hc
  simp only [DI,Option.some.injEq,Prod.mk.injEq] at hc
  obtain ⟨rfl,rfl⟩:=hc
  have:=(hh.dead i ho).2
  exact ⟨[],by simp [this],by simp,fun _=>rfl,fun ob h=>by cases h⟩
 | some ob =>
  rw [ho] at hc
  obtain ⟨oi,hal,hUi,hsz,hlen,hpos,hun,hblk⟩:=hh.objs i ob ho
  simp only [DI] at hc
  split at hc
  ·rename_i hd
   split at hc
   ·rename_i x hx
    simp only [Option.some.injEq,Prod.mk.injEq] at hc
    obtain ⟨rfl,rfl⟩:=hc
    have hl:=DC _ _ _ hx
    have hbel:=HI (Nm depth) hx
    have hun':∀ e∈x.map (·.1),e.cells.length=ob.sz:=by
     intro e he
     obtain ⟨r,hr,rfl⟩:=List.mem_map.1 he
     have:∀ {vs:List V} {rs:List (V × List Nat)},(AC (AK thr depth) vs).run hp=some rs→∀ r∈rs,∃ v∈vs,(AK thr depth v).run hp=some r:=by
      intro vs
      induction vs with
      | nil=>intro rs h r hr;simp [AC,AM.run] at h;subst h;simp at hr
      | cons v vs ih =>
       intro rs h r hr
       obtain ⟨y,ys,h1,h2,rfl⟩:=Dg _ _ _ _ h
       rcases List.mem_cons.1 hr with rfl | hr
       ·exact ⟨v,by simp,h1⟩
       ·obtain ⟨v',h3,h4⟩:=ih h2 r hr;exact ⟨v',by simp [h3],h4⟩
     obtain ⟨v,h1,h2⟩:=this hx r hr
     rw [(JF h2).2];exact hun v h1
    cases hb:oi.blk with
    | none =>
     rw [hb] at hblk
     have hx0:x=[]:=by
      have:x.length=0:=by rw [hl,hblk.1];rfl
      exact List.eq_nil_of_length_eq_zero this
     subst hx0
     refine ⟨[],by simp [hblk.2],by simp,by simp,fun ob' h=>?_⟩
     cases h
     refine ⟨oi,hal,hUi,fun E' _=>⟨hsz,by simp [hlen,hblk.1],hpos,by simp,?_⟩⟩
     rw [hb];exact ⟨rfl,rfl⟩
    | some b =>
     rw [hb] at hblk
     obtain ⟨ys,fi,hrow,hrs,hfp⟩:=hblk
     rw [hd] at hrs
     obtain ⟨g,hg1,hg2⟩:=(Ih hh depth thr).rows (Ih hh (depth - 1) thr) hx hrs
     refine ⟨b::g,?_,by simp,by simp,fun ob' h=>?_⟩
     ·rw [hfp,List.cons_append];exact hg2.cons b
     ·cases h
      refine ⟨oi,hal,hUi,fun E' D=>⟨hsz,by simp [hlen,hl],hpos,hun',?_⟩⟩
      rw [hb]
      refine ⟨ys,g,?_,?_,rfl⟩
      ·simp only [List.length_map,hl];rw [D.w];exact hrow
      ·simp only [hd,if_true]
       exact hg1.dro D (fun _=>by rw [Nr];exact hbel)
   ·cases hc
  ·rename_i hd
   simp only [Bool.not_eq_true] at hd
   simp only [Option.some.injEq,Prod.mk.injEq] at hc
   obtain ⟨rfl,rfl⟩:=hc
   refine ⟨E.fps i,by simp,by simp,by simp,fun ob' h=>?_⟩
   cases h
   exact ⟨oi,hal,hUi,fun E' D=>EK.sameP ⟨hsz,hlen,hpos,hun,hblk⟩ hd D.w D.F⟩
theorem LS {E:Env} {hp:Hp} (hh:BE E hp) {thr:Nat}:∀ (n:Nat) {hp':Hp} {ks:List Nat},CR thr hp n=some (hp',ks) →
  ∃ (fpn:Nat→List Nat) (kl:Nat→List Nat),ks=((List.range n).map kl).flatten∧(∀ i,n≤i→hp' i=none) ∧
   ∀ i,i<n→(fpn i).Perm (E.fps i++(kl i).flatMap E.fps)∧(hp' i=none↔hp i=none)∧(hp' i=none→fpn i=[]) ∧
    ∀ ob,hp' i=some ob→∃ oi,E.al i=some oi∧E.U i∧∀ E',Dro E E' thr→EK E' (fpn i) ob oi
 | 0,hp',ks,h=>by
  simp only [CR,Option.some.injEq,Prod.mk.injEq] at h
  obtain ⟨rfl,rfl⟩:=h
  exact ⟨fun _=>[],fun _=>[],rfl,fun _ _=>rfl,fun i hi=>by omega⟩
 | n+1,hp',ks,h=>by
  simp only [CR] at h
  split at h
  ·cases h
  ·rename_i hp1 ks1 h1
   split at h
   ·cases h
   ·rename_i y ls h2
    simp only [Option.some.injEq,Prod.mk.injEq] at h
    obtain ⟨rfl,rfl⟩:=h
    obtain ⟨fpn,kl,e1,e2,e3⟩:=LS hh n h1
    obtain ⟨g,g1,g2,g3,g4⟩:=Nn hh h2
    refine ⟨fun i=>if i=n then g else fpn i,fun i=>if i=n then ls else kl i,?_,fun i hi=>?_,fun i hi=>?_⟩
    ·rw [List.range_succ,List.map_append,List.flatten_append,e1]
     congr 1
     ·congr 1
      refine List.map_congr_left fun i hi=>?_
      have:=List.mem_range.1 hi
      rw [if_neg (by omega)]
     ·simp
    ·rw [BQ _ _ (by omega)];exact e2 i (by omega)
    ·by_cases hin:i=n
     ·subst hin
      simp only [if_true,Bi]
      exact ⟨g1,g2,g3,g4⟩
     ·simp only [if_neg hin,BQ _ _ hin]
      exact e3 i (by omega)
def Fr (E0:Env) (n0:Nat):Prop:=(∀ i,E0.U i→i<n0)∧∀ o oi,E0.al o=some oi→o<n0
theorem Oy {E:Env} {tm:Nat→V} {a:Act} (h:∀ t,R1 E .O (tm t) (a.tmps.getD t undef) []):∀ (live:List Nat) (t:Nat),R1 E .O (Ae live (live.map tm) t) (a.tmps.getD t undef) []
 | [],t=>by simp only [List.map_nil,Ae];exact .dead .nil
 | l::ls,t=>by
  simp only [List.map_cons,Ae]
  split
  ·rename_i e;subst e;exact h _
  ·exact Oy h ls t
theorem HU {nt:Nat} {E:Env} {s:St} {a:Act} (h:StR nt E s a) (live:List Nat):StR nt E (Fz live s) a :=
 ⟨⟨h.tm.df,Oy h.tm.tm live⟩,h.hp,h.U,h.nt⟩
theorem Ph {E:Env} {hp:Hp} (hh:BE E hp) {thr:Nat}:∀ (kl:List Nat) (m:Nat) {h0 hp':Hp} {ks:List Nat},Et thr hp kl m h0=some (hp',ks) →
  ∃ G:List (List Nat × List Nat),G.length=kl.length∧ks=(List.zipWith (fun o p=>o::p.2) kl G).flatten∧(∀ i,i<m∨m+kl.length≤i→hp' i=h0 i) ∧
   ∀ c o p,kl[c]?=some o→G[c]?=some p→p.1.Perm (E.fps o++p.2.flatMap E.fps)∧(hp' (m+c)=none↔hp o=none)∧(hp' (m+c)=none→p.1=[]) ∧
    ∀ ob,hp' (m+c)=some ob→∃ oi,E.al o=some oi∧E.U o∧∀ E',Dro E E' thr→EK E' p.1 ob oi
 | [],m,h0,hp',ks,h=>by
  simp only [Et,Option.some.injEq,Prod.mk.injEq] at h
  obtain ⟨rfl,rfl⟩:=h
  exact ⟨[],rfl,rfl,fun _ _=>rfl,fun c o p h=>by simp at h⟩
 | o::r,m,h0,hp',ks,h=>by
  simp only [Et] at h
  cases hc:DI thr hp (hp o) with
  | none=>rw [hc] at h;cases h
  | some yl =>
   obtain ⟨y,ls⟩:=yl
   rw [hc] at h
   simp only [ckS] at h
   cases hk:Et thr hp r (m+1) (Fj h0 m y) with
   | none=>rw [hk] at h;cases h
   | some x =>
    obtain ⟨hp1,ks1⟩:=x
    rw [hk] at h
    simp only [ckB,Option.some.injEq,Prod.mk.injEq] at h
    obtain ⟨rfl,rfl⟩:=h
    obtain ⟨G,g1,g2,g3,g4⟩:=Ph hh r (m+1) hk
    obtain ⟨g,q1,q2,q3,q4⟩:=Nn hh hc
    have hm:hp1 m=y:=by rw [g3 m (.inl (by omega)),Bi]
    refine ⟨(g,ls)::G,by simp [g1],by rw [g2];simp,fun i hi=>?_,fun c o' p h1 h2=>?_⟩
    ·simp only [List.length_cons] at hi
     rw [g3 i (by omega),BQ _ _ (by omega)]
    ·cases c with
     | zero =>
      simp only [List.getElem?_cons_zero,Option.some.injEq] at h1 h2
      subst h1;subst h2
      rw [Nat.add_zero,hm]
      exact ⟨q1,q2,q3,q4⟩
     | succ c =>
      simp only [List.getElem?_cons_succ] at h1 h2
      have:=g4 c o' p h1 h2
      rwa [show m+1+c=m+(c+1) from by omega] at this
theorem JA (kl:Nat→List Nat):∀ l:List Nat,(l.map fun i=>i::kl i).flatten.Perm (l++(l.map kl).flatten)
 | []=>by simp
 | a::l=>by
  simp only [List.map_cons,List.flatten_cons,List.cons_append]
  refine List.Perm.cons a ?_
  have ih:=JA kl l
  exact (List.Perm.append_left (kl a) ih).trans (by
   rw [← List.append_assoc,← List.append_assoc]
   exact List.Perm.append_right _ List.perm_append_comm)
theorem Ht {thr:Nat} {h:Hp}:∀ (vs:List V) (o:Nat),o∈Gb thr h vs→thr≤o∧∃ ob,h o=some ob
 | [],o,ho=>by simp [Gb] at ho
 | v::r,o,ho=>by
  simp only [Gb] at ho
  cases hv:v.slotO with
  | none=>rw [hv] at ho;exact Ht r o ho
  | some o' =>
   rw [hv] at ho
   simp only [QJ] at ho
   split at ho
   ·exact Ht r o ho
   ·rename_i hlt
    cases hob:h o' with
    | none=>rw [hob] at ho;exact Ht r o ho
    | some ob =>
     rw [hob] at ho
     simp only [QI,List.mem_cons] at ho
     rcases ho with rfl | ho
     ·exact ⟨by omega,ob,hob⟩
     ·exact Ht r o ho
theorem Ji {E E':Env} {thr:Nat} {h:Hp} (hh:BE E h) (D:Dro E E' thr) {a:Act} {tm:Nat→V} (ht:∀ t,R1 E .O (tm t) (a.tmps.getD t undef) []):∀ (live:List Nat) (m:Nat) (hal:∀ c o,(Gb thr h (live.map tm))[c]?=some o→E'.al (m+c)=E.al o) (t:Nat),
  R1 E' .O (Ae live (Is thr h (live.map tm) m) t) (a.tmps.getD t undef) []
 | [],m,hal,t=>by simp only [List.map_nil,Is,Ae];exact .dead .nil
 | l::ls,m,hal,t=>by
  simp only [List.map_cons,Is,Gb] at hal ⊢
  have hsc:R1 E' .O ((tm l).scrub thr) (a.tmps.getD l undef) []:=by
   have h2:=Mk (ht l) thr rfl
   simp only [AU] at h2
   exact h2.dro D (fun _=>by simp [CZ,MP])
  cases hv:(tm l).slotO with
  | none =>
   rw [hv] at hal
   simp only [hJ,Ae]
   split
   ·rename_i e;subst e;exact hsc
   ·exact Ji hh D ht ls m hal t
  | some o =>
   have htl:tm l=.sl o:=by
    cases htm:tm l<;>simp_all [V.slotO]
   rw [hv] at hal
   simp only [hJ,QJ] at hal ⊢
   split
   ·rename_i hlt
    simp only [hlt,if_true] at hal
    simp only [Ae]
    split
    ·rename_i e;subst e
     have:(tm t).scrub thr=tm t:=by rw [htl];simp [V.scrub,hlt]
     rw [← this];exact hsc
    ·exact Ji hh D ht ls m hal t
   ·rename_i hlt
    simp only [hlt,if_false] at hal
    cases hob:h o with
    | none =>
     rw [hob] at hal
     simp only [rH,Ae]
     split
     ·exact .dead .nil
     ·exact Ji hh D ht ls m hal t
    | some ob =>
     rw [hob] at hal
     simp only [QI] at hal
     simp only [rH,Ae]
     split
     ·rename_i e;subst e
      have hR:=ht t
      rw [htl] at hR
      obtain ⟨oi,hal1,_,_⟩:=hh.objs o ob hob
      have hal0:=hal 0 o (by simp)
      rw [Nat.add_zero] at hal0
      generalize a.tmps.getD t undef=x at hR ⊢
      cases hR with
      | sl h1 h2=>exact .sl (by rw [hal0];exact h1) .nil
      | slD h1 h2 h3=>rw [hal1] at h1;cases h1
     ·refine Ji hh D ht ls (m+1) (fun c o' hc=>?_) t
      have:=hal (c+1) o' (by simpa using hc)
      rwa [show m+(c+1)=m+1+c from by omega] at this
theorem Zq {nt:Nat} {E:Env} {s s':St} {a:Act} (h:StR nt E s a) {thr:Nat} {live:List Nat} (hn:OA thr live s=some s') {E0:Env} {n0:Nat} (hF:Fr E0 n0) (hn0:n0≤thr) (hx:Nx E0 E) :
  ∃ E',E'.w=E.w∧Nx E0 E'∧StR nt E' s' a∧thr≤s'.n:=by
 simp only [OA,Zr] at hn
 split at hn
 ·cases hn
 ·rename_i hp0 ks hc
  split at hn
  ·cases hn
  ·rename_i hp' ks' hc'
   split at hn
   ·rename_i hk
    obtain ⟨hnd,hge⟩:=hk
    simp only [Option.some.injEq] at hn;subst hn
    simp only [List.all_eq_true,decide_eq_true_eq] at hge
    have hkeep:=Ht (thr:=thr) (h:=s.hp) (live.map s.tm)
    have hren:=fun (E':Env) (D:Dro E E' thr)=>Ji (E':=E') h.hp D h.tm.tm live thr
    generalize Gb thr s.hp (live.map s.tm)=kl at hc' hkeep hren ⊢
    obtain ⟨fpn,k1,e1,e2,e3⟩:=LS h.hp thr hc
    obtain ⟨G,g1,g2,g3,g4⟩:=Ph h.hp kl thr hc'
    -- one table for both
    let N:=thr+kl.length
    let src:Nat→Nat:=fun i=>if i<thr then i else kl.getD (i - thr) 0
    let rest:Nat→List Nat:=fun i=>if i<thr then k1 i else (G.getD (i - thr) ([],[])).2
    let fp:Nat→List Nat:=fun i=>if i<thr then fpn i else (G.getD (i - thr) ([],[])).1
    have tab:∀ i,i<N→(fp i).Perm (E.fps (src i)++(rest i).flatMap E.fps)∧(hp' i=none↔s.hp (src i)=none)∧(hp' i=none→fp i=[])∧∀ ob,hp' i=some ob→∃ oi,E.al (src i)=some oi∧E.U (src i)∧∀ E',Dro E E' thr→EK E' (fp i) ob oi:=by
     intro i hi
     by_cases hlt:i<thr
     ·have:=e3 i hlt
      have h0:hp' i=hp0 i:=g3 i (.inl hlt)
      simp only [src,rest,fp,if_pos hlt,h0]
      exact this
     ·have hc:i - thr<kl.length:=by simp only [N] at hi;omega
      have h1:kl[i - thr]?=some (kl.getD (i - thr) 0):=by simp [List.getD_eq_getElem?_getD,hc]
      have h2:G[i - thr]?=some (G.getD (i - thr) ([],[])):=by simp [List.getD_eq_getElem?_getD,g1,hc]
      have:=g4 _ _ _ h1 h2
      rw [show thr+(i - thr)=i from by omega] at this
      simp only [src,rest,fp,if_neg hlt]
      exact this
    let Lf:Nat→List Nat:=fun i=>src i::rest i
    have hmemL:∀ i,i<N→∀ b,b∈fp i↔∃ k∈Lf i,b∈E.fps k:=by
     intro i hi b
     rw [(tab i hi).1.mem_iff];simp [Lf]
    have hparts:((List.range N).map Lf).flatten=((List.range thr).map fun i=>i::k1 i).flatten++ks':=by
     have hr:List.range N=List.range thr++(List.range kl.length).map (thr+·):=by
      simp only [N,List.range_add]
     rw [hr,List.map_append,List.flatten_append,g2]
     congr 1
     ·congr 1
      refine List.map_congr_left fun i hi=>?_
      have:=List.mem_range.1 hi
      simp only [Lf,src,rest,if_pos this]
     ·congr 1
      apply List.ext_getElem?
      intro c
      simp only [List.map_map,List.getElem?_map,List.getElem?_zipWith]
      by_cases hcl:c<kl.length
      ·have h1:kl[c]?=some (kl.getD c 0):=by simp [List.getD_eq_getElem?_getD,hcl]
       have h2:G[c]?=some (G.getD c ([],[])):=by simp [List.getD_eq_getElem?_getD,g1,hcl]
       rw [List.getElem?_range hcl,h1,h2]
       simp only [Option.map_some,Function.comp,Lf,src,rest]
       have:¬ thr+c<thr:=by omega
       simp only [if_neg this,Nat.add_sub_cancel_left]
      ·have h1:(List.range kl.length)[c]?=none:=by simp;omega
       have h2:kl[c]?=none:=by simp;omega
       rw [h1,h2];rfl
    have hflat:((List.range N).map Lf).flatten.Nodup:=by
     rw [hparts]
     have hp1:=JA k1 (List.range thr)
     rw [← e1] at hp1
     rw [(hp1.append_right ks').nodup_iff,List.append_assoc,List.nodup_append]
     refine ⟨List.nodup_range,hnd,fun x hx y hy e=>?_⟩
     subst e
     have:=List.mem_range.1 hx
     have:=hge x hy
     omega
    have hget:∀ i,i<N→((List.range N).map Lf)[i]?=some (Lf i):=fun i hi=>by simp [hi]
    let E':Env:={ w:=E.w,F:=E.F,fps:=fun i=>if i<N then fp i else [],al:=fun i=>if i<N then E.al (src i) else none,U:=fun i=>E.U (src i)∧i<N }
    have hsrc:∀ o,o<thr→src o=o:=fun o ho=>by simp only [src,if_pos ho]
    have hNt:thr≤N:=Nat.le_add_right _ _
    have hback:∀ {i b},b∈E'.fps i→i<N∧∃ o,b∈E.fps o:=by
     intro i b hb
     simp only [E'] at hb
     split at hb
     ·rename_i hi
      obtain ⟨k,_,h1⟩:=(hmemL i hi b).1 hb
      exact ⟨hi,k,h1⟩
     ·simp at hb
    have D:Dro E E' thr:=by
     refine ⟨rfl,fun _ h=>h,fun b hb=>⟨hb.1,fun o ho=>?_⟩,fun o ho=>?_,fun o ho hu=>?_⟩
     ·obtain ⟨_,o',h1⟩:=hback ho
      exact hb.2 o' h1
     ·have:o<N:=by omega
      simp only [E',if_pos this,hsrc o ho]
     ·exact ⟨by rw [hsrc o ho];exact hu,by omega⟩
    refine ⟨E',rfl,?_,⟨⟨h.tm.df,?_⟩,?_,?_,h.nt⟩,hNt⟩
    ·refine ⟨⟨fun b hb=>?_,fun b hb=>hx.ext.F b hb,fun _ hb=>by simp at hb,fun o oi ho=>?_,fun o ho hu=>?_⟩,hx.size,hx.os,hx.tape,hx.output,fun o b hb=>?_,fun b hb=>?_⟩
     ·obtain ⟨h1,h2⟩:=hx.ext.no b hb;exact ⟨D.no b h1,h2⟩
     ·have hlt:=hF.2 o oi ho
      rcases hx.ext.al o oi ho with h1 | ⟨h1,h2⟩
      ·exact .inl (by rw [D.al o (by omega)];exact h1)
      ·exact .inr ⟨by rw [D.al o (by omega)];exact h1,D.U o (by omega) h2⟩
     ·have hlt:=hF.1 o hu
      obtain ⟨h1,h2⟩:=hx.ext.dd o ho hu
      exact ⟨by rw [D.al o (by omega)];exact h1,D.U o (by omega) h2⟩
     ·obtain ⟨_,o',h1⟩:=hback hb;exact hx.own o' b h1
     ·rcases hx.fr b hb with h1 | h1 | h1
      ·exact .inl h1
      ·exact .inr (.inl h1)
      ·exact .inr (.inr h1)
    ·refine hren E' D (fun c o hco=>?_)
     have hcl:c<kl.length:=by
      rcases Nat.lt_or_ge c kl.length with h | h
      ·exact h
      ·rw [List.getElem?_eq_none h] at hco;cases hco
     have h1:thr+c<N:=by simp only [N];omega
     have h2:¬ thr+c<thr:=by omega
     simp only [E',if_pos h1,src,if_neg h2,Nat.add_sub_cancel_left]
     rw [List.getD_eq_getElem?_getD,hco];rfl
    ·refine ⟨fun o ob ho=>?_,fun o ho=>?_,fun o=>?_,fun o o' b h1 h2=>?_,fun o b hb=>?_,fun b hb=>?_⟩
     ·have hlt:o<N:=by
       cases Nat.lt_or_ge o N with
       | inl h=>exact h
       | inr h =>
        have ho2:hp' o=some ob:=ho
        rw [g3 o (.inr h),e2 o (by omega)] at ho2;cases ho2
      obtain ⟨oi,q1,q2,q3⟩:=(tab o hlt).2.2.2 ob ho
      refine ⟨oi,by simp only [E',if_pos hlt];exact q1,⟨q2,hlt⟩,?_⟩
      simp only [E',if_pos hlt]
      exact q3 E' D
     ·by_cases hlt:o<N
      ·obtain ⟨_,q1,q2,_⟩:=tab o hlt
       simp only [E',if_pos hlt]
       exact ⟨(h.hp.dead _ (q1.1 ho)).1,q2 ho⟩
      ·simp only [E',if_neg hlt]
       exact ⟨trivial,trivial⟩
     ·simp only [E']
      split
      ·rename_i hlt
       have hnk:(Lf o).Nodup:=CV hflat (hget o hlt)
       have:=FR h.hp hnk
       rw [(tab o hlt).1.nodup_iff]
       simpa [Lf] using this
      ·simp
     ·simp only [E'] at h1 h2
      split at h1
      ·rename_i l1
       split at h2
       ·rename_i l2
        obtain ⟨k,k1',q1⟩:=(hmemL o l1 b).1 h1
        obtain ⟨k',k2',q2⟩:=(hmemL o' l2 b).1 h2
        have:=h.hp.disj _ _ _ q1 q2
        subst this
        exact Fq hflat (hget o l1) (hget o' l2) k1' k2'
       ·simp at h2
      ·simp at h1
     ·obtain ⟨_,o',h1⟩:=hback hb;exact h.hp.lt o' b h1
     ·exact D.no b (h.hp.fno b hb)
    ·intro i hi hu
     have h1:N≤i:=hi
     have h2:i<N:=hu.2
     omega
   ·cases hn
end Ve
namespace Ve
open Go
def aH (P:Program) (c:Code) (Q:Exit→Act→World→Prop) (a:Act) (w:World):Prop :=
 ∀ (b:Frame) (k:List Item) (cs:List Frame),∃ e a' w',Q e a' w'∧Arrives P (lone (b.at a (.code c::.inLoop c::k)) cs w) b k cs e a' w'
theorem fB {P:Program} {c:Code} {Q:Exit→Act→World→Prop} {a:Act} {w:World} (h:aH P c Q a w):(Code.loop c).wp P Q a w:=by
 intro b k cs
 obtain ⟨e,a',w',hq,harr⟩:=h b k cs
 exact ⟨e,a',w',hq,.of_steps (.one step_loop) harr⟩
theorem Ue {P:Program} {c:Code} {Q:Exit→Act→World→Prop} {a:Act} {w:World} (h:c.wp P (Exit.then (aH P c Q) Q) a w):aH P c Q a w:=by
 intro b k cs
 obtain ⟨e,a₁,w₁,hq,harr⟩:=h b (.inLoop c::k) cs
 cases e with
 | normal =>
  obtain ⟨e₂,a₂,w₂,hq₂,harr₂⟩:=hq b k cs
  exact ⟨e₂,a₂,w₂,hq₂,.of_steps (Steps.trans harr (.one step_inLoop)) harr₂⟩
 | exit id=>exact ⟨_,a₁,w₁,hq,.pass (x:=.inLoop c) rfl (fun _ _=>.inl (by simp)) harr⟩
 | goto l=>exact ⟨_,a₁,w₁,hq,.pass (x:=.inLoop c) rfl (fun _ _=>.inl (by simp)) harr⟩
 | ret=>exact ⟨_,a₁,w₁,hq,.pass (x:=.inLoop c) rfl (fun _ _=>.inl (by simp)) harr⟩
 | panic ch=>exact ⟨_,a₁,w₁,hq,.pass (x:=.inLoop c) rfl (fun _ _=>.inl (by simp)) harr⟩
 | outgrown=>exact ⟨_,a₁,w₁,hq,.pass (x:=.inLoop c) rfl (fun _ _=>.inl (by simp)) harr⟩
def pK (P:Program) (c rest:Code) (Q:Exit→Act→World→Prop) (a:Act) (w:World):Prop :=
 ∀ (b:Frame) (k:List Item) (cs:List Frame),∃ e a' w',Q e a' w'∧Arrives P (lone (b.at a (.code rest::.inScope c::k)) cs w) b k cs e a' w'
def Ie (P:Program) (c:Code) (Q:Exit→Act→World→Prop):Exit→Act→World→Prop
 | .goto l,a,w=>match findLabel c l with
  | some rest=>pK P c rest Q a w
  | none=>Q (.goto l) a w
 | e,a,w=>Q e a w
theorem Oh {P:Program} {c:Code} {Q:Exit→Act→World→Prop} {m:Machine} {b:Frame} {k:List Item} {cs:List Frame} {e:Exit} {a:Act} {w:World} (hq:Ie P c Q e a w)
  (harr:Arrives P m b (.inScope c::k) cs e a w):∃ e a' w',Q e a' w'∧Arrives P m b k cs e a' w':=by
 cases e with
 | normal=>exact ⟨.normal,a,w,hq,Steps.trans harr (.one step_inScope)⟩
 | exit id=>exact ⟨.exit id,a,w,hq,fun k' hk=>harr k' (by simp [exitTo,hk])⟩
 | goto l =>
  simp only [Ie] at hq
  split at hq
  ·rename_i rest hf
   have hg:gotoIn l (.inScope c::k)=some (.code rest::.inScope c::k):=by simp [gotoIn,hf]
   obtain ⟨e₂,a₂,w₂,hq₂,harr₂⟩:=hq b k cs
   exact ⟨e₂,a₂,w₂,hq₂,.of_steps (harr _ hg) harr₂⟩
  ·rename_i hf
   exact ⟨.goto l,a,w,hq,fun k' hk=>harr k' (by simp [gotoIn,hf,hk])⟩
 | ret=>exact ⟨_,a,w,hq,harr⟩
 | panic ch=>exact ⟨_,a,w,hq,harr⟩
 | outgrown=>exact ⟨_,a,w,hq,harr⟩
theorem aK {P:Program} {c:Code} {Q:Exit→Act→World→Prop} {a:Act} {w:World} (h:c.wp P (Ie P c Q) a w):(Code.scope c).wp P Q a w:=by
 intro b k cs
 obtain ⟨e,a₁,w₁,hq,harr⟩:=h b (.inScope c::k) cs
 obtain ⟨e',a',w',hq',harr'⟩:=Oh hq harr
 exact ⟨e',a',w',hq',.of_steps (.one step_scope) harr'⟩
theorem Tr {P:Program} {c rest:Code} {Q:Exit→Act→World→Prop} {a:Act} {w:World} (h:rest.wp P (Ie P c Q) a w):pK P c rest Q a w:=by
 intro b k cs
 obtain ⟨e,a₁,w₁,hq,harr⟩:=h b (.inScope c::k) cs
 exact Oh hq harr
def NM (arr:Array Oper):Option (Nat × Bool)→Option (Tmp × Bool)
 | none=>none
 | some (j,b)=>match (arr[j]?).bind (·.dst) with
  | some d=>some (d,b)
  | none=>none
def VC (arr:Array Oper):List Oper→List IOp→Option (List IOp)
 | [],[]=>some []
 | o::os,io::ios=>match VC arr os ios with
  | some r=>some (⟨o.dst,o.op,NM arr o.guard,io.frz⟩::r)
  | none=>none
 | _,_=>none
def DV:Code→IR→Option IR
 | .skip,.skip=>some .skip
 | .region _ ops draw,.region ios _=>match VC ops ops.toList ios with
  | some r=>some (.region r (match draw with | true=>some (ops.toList.map Nt) | false=>none))
  | none=>none
 | .seq a b,.seq a' b'=>match DV a a' with
  | some x=>match DV b b' with
   | some y=>some (.seq x y)
   | none=>none
  | none=>none
 | .cond c a b,.cond _ a' b'=>match DV a a' with
  | some x=>match DV b b' with
   | some y=>some (.cond c x y)
   | none=>none
  | none=>none
 | .block id b,.block _ b'=>match DV b b' with
  | some x=>some (.block id x)
  | none=>none
 | .loop b,.loop live b'=>match DV b b' with
  | some x=>some (.loop live x)
  | none=>none
 | .exit id,.exit _ live=>some (.exit id live)
 | .scope b,.scope live b'=>match DV b b' with
  | some x=>some (.scope live x)
  | none=>none
 | .label l,.label _=>some (.label l)
 | .goto l,.goto _=>some (.goto l)
 | .ret,.ret live=>some (.ret live)
 | _,_=>none
def wfO (L:Lay) (arr:Array Oper) (nt j:Nat) (o:Oper):Bool :=
 (match o.dst with | some d=>decide (d<nt) | none=>true)&&pR L o.op&&(match o.guard with | some (g,_)=>((arr[g]?).bind (·.dst)).isSome | none=>true)&&(Nt o).all fun k=>decide (k<j)
def VG (L:Lay) (arr:Array Oper) (nt:Nat):Nat→List Oper→Bool
 | _,[]=>true
 | j,o::r=>wfO L arr nt j o&&VG L arr nt (j+1) r
def wfC (L:Lay) (nt:Nat):Code→Bool
 | .region _ ops _=>VG L ops nt 0 ops.toList
 | .seq a b=>wfC L nt a&&wfC L nt b
 | .cond _ a b=>wfC L nt a&&wfC L nt b
 | .block _ b=>wfC L nt b
 | .loop b=>wfC L nt b
 | .scope b=>wfC L nt b
 | _=>true
theorem Te {L:Lay} {arr:Array Oper} {nt:Nat} (os:List Oper):∀ (i:Nat),VG L arr nt i os=true→∀ (j:Nat) (o:Oper),os[j]?=some o→wfO L arr nt (i+j) o=true:=by
 induction os with
 | nil=>intro i h j o hj;simp at hj
 | cons o0 r ih =>
  intro i h j o hj
  rw [VG] at h
  obtain ⟨h1,h2⟩:=(Bool.and_eq_true _ _).mp h
  cases j with
  | zero=>rw [List.getElem?_cons_zero,Option.some.injEq] at hj;subst hj;exact h1
  | succ j =>
   rw [List.getElem?_cons_succ] at hj
   have:=ih (i+1) h2 j o hj
   rwa [show i+(j+1)=i+1+j from by omega]
theorem Tc {arr:Array Oper}:∀ (os:List Oper) (ios r:List IOp),VC arr os ios=some r→r.length=os.length∧∀ (j:Nat) (io:IOp),r[j]?=some io→∃ o,os[j]?=some o∧io.dst=o.dst∧io.op=o.op∧io.guard=NM arr o.guard
 | [],[],r,h=>by simp only [VC,Option.some.injEq] at h;subst h;exact ⟨rfl,fun j io h=>by simp at h⟩
 | [],_::_,r,h=>by simp [VC] at h
 | _::_,[],r,h=>by simp [VC] at h
 | o::os,io::ios,r,h=>by
  simp only [VC] at h
  split at h
  ·rename_i r' hr
   simp only [Option.some.injEq] at h;subst h
   obtain ⟨h1,h2⟩:=Tc os ios r' hr
   refine ⟨by simp [h1],fun j io hj=>?_⟩
   cases j with
   | zero=>simp only [List.getElem?_cons_zero,Option.some.injEq] at hj;subst hj;exact ⟨o,rfl,rfl,rfl,rfl⟩
   | succ j=>simpa using h2 j io (by simpa using hj)
  ·cases h
theorem sM {L:Lay} {arr:Array Oper} {nt j:Nat} {o:Oper} {io:IOp} (hw:wfO L arr nt j o=true) (h1:io.dst=o.dst) (h2:io.op=o.op) (h3:io.guard=NM arr o.guard):eT L arr nt o io∧∀ k∈Nt o,k<j:=by
 simp only [wfO,Bool.and_eq_true,List.all_eq_true,decide_eq_true_eq] at hw
 obtain ⟨⟨⟨w1,w2⟩,w3⟩,w4⟩:=hw
 refine ⟨⟨h1,h2,?_,fun d hd=>?_,w2⟩,w4⟩
 ·cases hg:o.guard with
  | none=>rw [hg] at h3;exact .inl ⟨rfl,h3⟩
  | some g =>
   obtain ⟨g,b⟩:=g
   rw [hg] at h3 w3
   simp only [NM] at h3
   obtain ⟨d,hd⟩:=Option.isSome_iff_exists.1 w3
   rw [hd] at h3
   exact .inr ⟨g,b,d,rfl,hd,h3⟩
 ·rw [hd] at w1;simpa using w1
end Ve
namespace Ve
open Go
def exOf:Out→Exit
 | .normal=>.normal
 | .exit i=>.exit i
 | .goto l=>.goto l
 | .ret=>.ret
def QP {R:Type} (E0:Env) (n0 nt:Nat) (q:Out→St→Option R) (r:R):Exit→Act→World→Prop :=
 fun e a w=>∃ out s E,exOf out=e∧q out s=some r∧E.w=w∧StR nt E s a∧n0≤s.n∧Nx E0 E
section
variable {Pr:Program} {C:Ctx} {O:Orc} {P:FuncId→List V→Option V} (G:eX Pr C.L C.T O P) (hmix:Pr.follows .mixedOrders=true) {nt n0 k:Nat} {E0:Env} (hF:Fr E0 n0) {R:Type}
def EvOk (Pr:Program) (C:Ctx) (O:Orc) (P:FuncId→List V→Option V) (nt n0 k:Nat) (E0:Env) (R:Type) (c:Code) (ir:IR):Prop :=
 ∀ (s:St) (q:Out→St→Option R) (r:R),evC C O P k ir s q=some r→∀ E a,StR nt E s a→n0≤s.n→Nx E0 E→c.wp Pr (QP E0 n0 nt q r) a E.w
def a6u (Pr:Program) (C:Ctx) (O:Orc) (P:FuncId→List V→Option V) (nt n0 k:Nat) (E0:Env) (R:Type) (c:Code) (ir:IR):Prop :=
 ∀ (l:Nat) (s:St) (q:Out→St→Option R) (r:R),FM C O P k ir l s q=some r→∀ E a,StR nt E s a→n0≤s.n→Nx E0 E→∀ rest,findLabel c l=some rest→rest.wp Pr (QP E0 n0 nt q r) a E.w
theorem vG {E:Env} {s:St} {a:Act} (h:StR nt E s a):∃ E',E'.w=E.w.drew∧StR nt E' s a∧Nx E E':=by
 obtain ⟨h1,h2⟩:=h.hp.later (BU.drew E.w) (fun _=>False) (fun _ h=>h.elim)
 exact ⟨_,rfl,⟨h.tm.ext h2.ext,h1,h.U,h.nt⟩,h2⟩
include G hmix in
theorem bP {id:Nat} {ops:Array Oper} {draw:Bool} {ir ir':IR} (hg:DV (.region id ops draw) ir=some ir') (hw:wfC C.L nt (.region id ops draw)=true):EvOk Pr C O P nt n0 k E0 R (.region id ops draw) ir':=by
 cases ir<;>simp only [DV] at hg<;>try (cases hg;done)
 rename_i ios d
 split at hg
 ·rename_i r hr
  simp only [Option.some.injEq] at hg;subst hg
  obtain ⟨hlen,hget⟩:=Tc _ _ _ hr
  simp only [wfC] at hw
  have hio:∀ (j:Nat) (io:IOp),r[j]?=some io→∃ o,ops[j]?=some o∧eT C.L ops nt o io:=by
   intro j io hj
   obtain ⟨o,h1,h2,h3,h4⟩:=hget j io hj
   have:=Te _ 0 hw j o h1
   rw [Nat.zero_add] at this
   exact ⟨o,by simpa using h1,(sM this h2 h3 h4).1⟩
  intro s q res hev E a hs hn hx
  cases draw with
  | false =>
   simp only [evC] at hev
   refine wp_region ?_
   have:=Qi (Q:=QP E0 n0 nt q res) G r 0 (by simpa using hio) s (q .normal) res hev E a hs (fun E' s' a' g1 g2 g3 g4=>⟨.normal,s',E',rfl,g4,rfl,g2,by omega,hx.trans g1⟩)
   rw [hlen] at this
   rw [List.range_eq_range']
   simpa using this
  | true =>
   simp only [evC] at hev
   split at hev
   ·rename_i hso
    obtain ⟨sts,s',h1,h2⟩:=Kr _ _ _ _ _ _ hev
    simp only [Jx] at h2
    split at h2
    ·rename_i hho
     obtain ⟨E1,e1,e2,e3⟩:=vG hs
     refine wp_region_any hmix ?_
     rw [World.drew_eq,← e1]
     have hbef:∀ (j:Nat) (o:Oper),ops[j]?=some o→(ops.toList.map Nt).getD j []=Nt o:=by
      intro j o hj
      rw [List.getD_eq_getElem?_getD,List.getElem?_map]
      have:ops.toList[j]?=some o:=by simpa using hj
      rw [this];rfl
     refine fC G h1 hso hho hbef ?_ hio (by rw [hlen];simp) (E0:=E1) e2.U ?_ ops.size _ (by simp) ?_ ?_ E1 a ⟨?_,?_,?_,e2.nt,Nx.refl E1⟩
     ·intro j k hk
      cases hj:ops[j]? with
      | none =>
       rw [List.getD_eq_getElem?_getD,List.getElem?_map] at hk
       have:ops.toList[j]?=none:=by simpa using hj
       rw [this] at hk;simp at hk
      | some o =>
       rw [hbef j o hj] at hk
       have:=Te _ 0 hw j o (by simpa using hj)
       rw [Nat.zero_add] at this
       simp only [wfO,Bool.and_eq_true,List.all_eq_true,decide_eq_true_eq] at this
       exact this.2 k hk
     ·intro E' a' g1 g2
      exact ⟨.normal,s',E',rfl,h2,rfl,g2,by have:=h1.fin.2.2;omega,(hx.trans e3).trans g1⟩
     ·have:=List.length_filter_le (fun i=>!(Array.replicate ops.size false).getD i true) (List.range ops.size)
      simpa using this
     ·intro j hj
      rw [Array.getD_eq_getD_getElem?,Array.getElem?_replicate] at hj
      split at hj<;>simp at hj
     ·have:∀ {α:Type} (ls:List (List (Nat × α))) (f:Nat→α),Dc (fun i=>(Array.replicate ops.size false).getD i false) ls f=f:=by
       intro α ls f
       funext x
       rw [DN ls _ (fun _=>false) f f x rfl (fun j l _ _=>by rw [Array.getD_eq_getD_getElem?,Array.getElem?_replicate];split<;>rfl)]
       have:∀ (ls:List (List (Nat × α))) (f:Nat→α),Dc (fun _=>false) ls f=f:=by
        intro ls;induction ls with
        | nil=>intro f;rfl
        | cons l ls ih=>intro f;simp only [Dc];exact ih _
       rw [this]
      rw [this];exact e2.tm
     ·have:∀ {α:Type} (ls:List (List (Nat × α))) (f:Nat→α),Dc (fun i=>(Array.replicate ops.size false).getD i false) ls f=f:=by
       intro α ls f
       funext x
       rw [DN ls _ (fun _=>false) f f x rfl (fun j l _ _=>by rw [Array.getD_eq_getD_getElem?,Array.getElem?_replicate];split<;>rfl)]
       have:∀ (ls:List (List (Nat × α))) (f:Nat→α),Dc (fun _=>false) ls f=f:=by
        intro ls;induction ls with
        | nil=>intro f;rfl
        | cons l ls ih=>intro f;simp only [Dc];exact ih _
       rw [this]
      rw [this];exact e2.hp
     ·intro i hi
      exact .inl (by
       cases Nat.lt_or_ge i s.n with
       | inl h=>exact h
       | inr h=>exact absurd hi (e2.U i h))
    ·cases h2
   ·cases hev
 ·cases hg
theorem Zi {q:Out→St→Option R} {r:R} {f:St→Option R} {e:Exit} {a:Act} {w:World} {K:Act→World→Prop}
  (hK:∀ s E,f s=some r→E.w=w→StR nt E s a→n0≤s.n→Nx E0 E→K a w) (h:QP E0 n0 nt (BZ f q) r e a w):Exit.then K (QP E0 n0 nt q r) e a w:=by
 obtain ⟨out,s,E,rfl,h2,h3,h4,h5,h6⟩:=h
 cases out with
 | normal=>exact hK s E h2 h3 h4 h5 h6
 | exit i=>exact ⟨.exit i,s,E,rfl,h2,h3,h4,h5,h6⟩
 | goto l=>exact ⟨.goto l,s,E,rfl,h2,h3,h4,h5,h6⟩
 | ret=>exact ⟨.ret,s,E,rfl,h2,h3,h4,h5,h6⟩
include hF in
theorem ZE {c:Code} {f:St→(Out→St→Option R)→Option R} {live:List Nat} {thr:Nat} (hthr:n0≤thr)
  (hf:∀ s q r,f s q=some r→∀ E a,StR nt E s a→n0≤s.n→Nx E0 E→c.wp Pr (QP E0 n0 nt (Al live q) r) a E.w) (q:Out→St→Option R) (r:R) :
  ∀ (m:Nat) (s:St),Bp thr live f q m s=some r→∀ E a,StR nt E s a→Nx E0 E→aH Pr c (QP E0 n0 nt q r) a E.w
 | 0,s,h,E,a,_,_=>by simp [Bp] at h
 | m+1,s,h,E,a,hs,hx=>by
  simp only [Bp,Hr] at h
  split at h
  ·rename_i s1 hn
   obtain ⟨E1,e1,e2,e3,e4⟩:=Zq hs hn hF hthr hx
   rw [← e1]
   refine Ue (wp_mono (hf s1 _ r h E1 a e3 (by omega) e2) (fun e a' w' hq=>?_))
   obtain ⟨out,s',E',rfl,h2,h3,h4,h5,h6⟩:=hq
   subst h3
   cases out with
   | normal =>
    simp only [Al,BZ] at h2
    exact ZE hthr hf q r m _ h2 E' a' (HU h4 live) h6
   | exit i=>exact ⟨.exit i,s',E',rfl,h2,rfl,h4,h5,h6⟩
   | goto l=>exact ⟨.goto l,s',E',rfl,h2,rfl,h4,h5,h6⟩
   | ret=>exact ⟨.ret,s',E',rfl,h2,rfl,h4,h5,h6⟩
  ·cases h
include hF in
theorem Tq {c:Code} {f:Nat→St→(Out→St→Option R)→Option R} {live:List Nat} {has:Nat→Bool} {thr:Nat} (hthr:n0≤thr) (hhas:∀ l,has l=(findLabel c l).isSome)
  (hf:∀ l s q r,f l s q=some r→∀ E a,StR nt E s a→n0≤s.n→Nx E0 E→∀ rest,findLabel c l=some rest→rest.wp Pr (QP E0 n0 nt q r) a E.w) (q:Out→St→Option R) (r:R) :
  ∀ (m:Nat) (e:Exit) (a:Act) (w:World),QP E0 n0 nt (Kx (fun l s=>EO thr live has f q m l (Fz live s)) q) r e a w→Ie Pr c (QP E0 n0 nt q r) e a w
 | m,e,a,w,h=>by
  obtain ⟨out,s,E,rfl,h2,h3,h4,h5,h6⟩:=h
  subst h3
  cases out with
  | normal=>exact ⟨.normal,s,E,rfl,h2,rfl,h4,h5,h6⟩
  | exit i=>exact ⟨.exit i,s,E,rfl,h2,rfl,h4,h5,h6⟩
  | ret=>exact ⟨.ret,s,E,rfl,h2,rfl,h4,h5,h6⟩
  | goto l =>
   simp only [Kx] at h2
   cases m with
   | zero=>simp [EO] at h2
   | succ m =>
    simp only [EO] at h2
    simp only [exOf,Ie]
    split at h2
    ·rename_i hl
     rw [hhas] at hl
     obtain ⟨rest,hrest⟩:=Option.isSome_iff_exists.1 hl
     rw [hrest]
     simp only [Hr] at h2
     split at h2
     ·rename_i s1 hn
      obtain ⟨E1,e1,e2,e3,e4⟩:=Zq (HU h4 live) hn hF hthr h6
      rw [← e1]
      refine Tr (wp_mono (hf l s1 _ r h2 E1 a e3 (by omega) e2 rest hrest) (fun e a' w' hq=>?_))
      exact Tq hthr hhas hf q r m e a' w' hq
     ·cases h2
    ·rename_i hl
     rw [hhas] at hl
     have:findLabel c l=none:=by cases h:findLabel c l<;>simp_all
     rw [this]
     exact ⟨.goto l,Fz live s,E,rfl,h2,rfl,HU h4 live,h5,h6⟩
include G hmix hF in
theorem b0n:∀ (c:Code) (ir ir':IR),DV c ir=some ir'→wfC C.L nt c=true →
  EvOk Pr C O P nt n0 k E0 R c ir'∧a6u Pr C O P nt n0 k E0 R c ir'∧∀ l,PT ir' l=(findLabel c l).isSome:=by
 intro c
 induction c with
 | skip =>
  intro ir ir' hg _
  cases ir<;>simp only [DV] at hg<;>first | (cases hg;done) | skip
  simp only [Option.some.injEq] at hg;subst hg
  exact ⟨fun s q r h E a h1 h2 h3=>wp_skip ⟨.normal,s,E,rfl,h,rfl,h1,h2,h3⟩,(by intro l s q r h;cases h),fun l=>rfl⟩
 | label l0 =>
  intro ir ir' hg _
  cases ir<;>simp only [DV] at hg<;>first | (cases hg;done) | skip
  simp only [Option.some.injEq] at hg;subst hg
  refine ⟨fun s q r h E a h1 h2 h3=>wp_label ⟨.normal,s,E,rfl,h,rfl,h1,h2,h3⟩,fun l s q r h E a h1 h2 h3 rest hrest=>?_,fun l=>?_⟩
  ·simp only [findLabel] at hrest
   split at hrest
   ·cases hrest;exact wp_skip ⟨.normal,s,E,rfl,h,rfl,h1,h2,h3⟩
   ·cases hrest
  ·simp only [PT,findLabel]
   by_cases h:l0=l
   ·subst h;simp
   ·have h1:Nat.beq l0 l=false:=by
     cases hb:Nat.beq l0 l with
     | false=>rfl
     | true=>exact absurd (Nat.eq_of_beq_eq_true hb) h
    simp [h1,h]
 | region id ops draw =>
  intro ir ir' hg hw
  refine ⟨bP G hmix hg hw,?_,?_⟩
  all_goals
   cases ir<;>simp only [DV] at hg<;>try (cases hg;done)
   split at hg
   ·simp only [Option.some.injEq] at hg;subst hg
    first | (intro l s q r h;cases h;done) | (intro l;rfl)
   ·cases hg
 | seq x y ihx ihy =>
  intro ir ir' hg hw
  cases ir<;>simp only [DV] at hg<;>try (cases hg;done)
  split at hg
  ·rename_i x' hx'
   split at hg
   ·rename_i y' hy'
    simp only [Option.some.injEq] at hg;subst hg
    simp only [wfC,Bool.and_eq_true] at hw
    obtain ⟨ax,bx,cx⟩:=ihx _ _ hx' hw.1
    obtain ⟨ay,byy,cy⟩:=ihy _ _ hy' hw.2
    refine ⟨fun s q r h E a h1 h2 h3=>?_,fun l s q r h E a h1 h2 h3 rest hrest=>?_,fun l=>?_⟩
    ·simp only [evC] at h
     exact wp_seq (wp_mono (ax s _ r h E a h1 h2 h3) fun e a' w' hq=>Zi (fun s E hs hw g1 g2 g3=>by subst hw;exact ay s q r hs E a' g1 g2 g3) hq)
    ·simp only [FM] at h
     simp only [findLabel] at hrest
     split at h
     ·rename_i hl
      rw [cx] at hl
      obtain ⟨rx,hrx⟩:=Option.isSome_iff_exists.1 hl
      rw [hrx] at hrest
      simp only [Option.some.injEq] at hrest;subst hrest
      exact wp_seq (wp_mono (bx l s _ r h E a h1 h2 h3 rx hrx) fun e a' w' hq=>Zi (fun s E hs hw g1 g2 g3=>by subst hw;exact ay s q r hs E a' g1 g2 g3) hq)
     ·rename_i hl
      rw [cx] at hl
      have:findLabel x l=none:=by cases h:findLabel x l<;>simp_all
      rw [this] at hrest
      exact byy l s q r h E a h1 h2 h3 rest hrest
    ·simp only [PT,findLabel,cx,cy]
     cases findLabel x l<;>simp
   ·cases hg
  ·cases hg
 | cond c x y ihx ihy =>
  intro ir ir' hg hw
  cases ir<;>simp only [DV] at hg<;>try (cases hg;done)
  split at hg
  ·rename_i x' hx'
   split at hg
   ·rename_i y' hy'
    simp only [Option.some.injEq] at hg;subst hg
    simp only [wfC,Bool.and_eq_true] at hw
    obtain ⟨ax,bx,cx⟩:=ihx _ _ hx' hw.1
    obtain ⟨ay,byy,cy⟩:=ihy _ _ hy' hw.2
    refine ⟨fun s q r h E a h1 h2 h3=>?_,(by intro l s q r h;cases h),fun l=>rfl⟩
    simp only [evC] at h
    have hc:=AV h1.tm c
    cases hv:(eV s.tm c).bool? with
    | none=>rw [hv] at h;cases h
    | some t =>
     have:eV s.tm c=.lit (.bool t):=by
      unfold V.bool? at hv
      split at hv
      ·rename_i b hb;cases hv;exact hb
      ·cases hv
     rw [this] at hc
     have hc':=(BX hc).1
     rw [hv] at h
     cases t with
     | true=>exact wp_cond hc' (ax s q r h E a h1 h2 h3)
     | false=>exact wp_cond hc' (ay s q r h E a h1 h2 h3)
   ·cases hg
  ·cases hg
 | block id x ihx =>
  intro ir ir' hg hw
  cases ir<;>simp only [DV] at hg<;>try (cases hg;done)
  split at hg
  ·rename_i x' hx'
   simp only [Option.some.injEq] at hg;subst hg
   simp only [wfC] at hw
   obtain ⟨ax,bx,cx⟩:=ihx _ _ hx' hw
   refine ⟨fun s q r h E a h1 h2 h3=>?_,(by intro l s q r h;cases h),fun l=>rfl⟩
   simp only [evC] at h
   refine wp_block (wp_mono (ax s _ r h E a h1 h2 h3) fun e a' w' hq=>?_)
   obtain ⟨out,s',E',rfl,g2,g3,g4,g5,g6⟩:=hq
   cases out with
   | normal=>exact ⟨.normal,s',E',rfl,g2,g3,g4,g5,g6⟩
   | exit i =>
    simp only [Ec] at g2
    simp only [exOf,Exit.inBlock]
    split at g2
    ·rename_i hb
     rw [if_pos (Nat.eq_of_beq_eq_true hb)]
     exact ⟨.normal,s',E',rfl,g2,g3,g4,g5,g6⟩
    ·rename_i hb
     rw [if_neg (fun e=>by subst e;rw [Nat.beq_refl] at hb;cases hb)]
     exact ⟨.exit i,s',E',rfl,g2,g3,g4,g5,g6⟩
   | goto l=>exact ⟨.goto l,s',E',rfl,g2,g3,g4,g5,g6⟩
   | ret=>exact ⟨.ret,s',E',rfl,g2,g3,g4,g5,g6⟩
  ·cases hg
 | loop x ihx =>
  intro ir ir' hg hw
  cases ir<;>simp only [DV] at hg<;>try (cases hg;done)
  split at hg
  ·rename_i live _ x' hx'
   simp only [Option.some.injEq] at hg;subst hg
   simp only [wfC] at hw
   obtain ⟨ax,bx,cx⟩:=ihx _ _ hx' hw
   refine ⟨fun s q r h E a h1 h2 h3=>?_,(by intro l s q r h;cases h),fun l=>rfl⟩
   simp only [evC] at h
   exact fB (ZE hF h2 (fun s q r h E a h1 h2 h3=>ax s _ r h E a h1 h2 h3) q r k _ h E a (HU h1 _) h3)
  ·cases hg
 | scope x ihx =>
  intro ir ir' hg hw
  cases ir<;>simp only [DV] at hg<;>try (cases hg;done)
  split at hg
  ·rename_i live _ x' hx'
   simp only [Option.some.injEq] at hg;subst hg
   simp only [wfC] at hw
   obtain ⟨ax,bx,cx⟩:=ihx _ _ hx' hw
   refine ⟨fun s q r h E a h1 h2 h3=>?_,(by intro l s q r h;cases h),fun l=>rfl⟩
   simp only [evC] at h
   exact aK (wp_mono (ax s _ r h E a h1 h2 h3) fun e a' w' hq=>Tq hF h2 cx (fun l s q r h=>bx l s q r h) q r k e a' w' hq)
  ·cases hg
 | exit id =>
  intro ir ir' hg _
  cases ir<;>simp only [DV] at hg<;>first | (cases hg;done) | skip
  simp only [Option.some.injEq] at hg;subst hg
  exact ⟨fun s q r h E a h1 h2 h3=>wp_exit ⟨.exit id,Fz _ s,E,rfl,h,rfl,HU h1 _,h2,h3⟩,(by intro l s q r h;cases h),fun l=>rfl⟩
 | goto l0 =>
  intro ir ir' hg _
  cases ir<;>simp only [DV] at hg<;>first | (cases hg;done) | skip
  simp only [Option.some.injEq] at hg;subst hg
  exact ⟨fun s q r h E a h1 h2 h3=>wp_goto ⟨.goto l0,s,E,rfl,h,rfl,h1,h2,h3⟩,(by intro l s q r h;cases h),fun l=>rfl⟩
 | ret =>
  intro ir ir' hg _
  cases ir<;>simp only [DV] at hg<;>first | (cases hg;done) | skip
  simp only [Option.some.injEq] at hg;subst hg
  exact ⟨fun s q r h E a h1 h2 h3=>wp_ret ⟨.ret,Fz _ s,E,rfl,h,rfl,HU h1 _,h2,h3⟩,(by intro l s q r h;cases h),fun l=>rfl⟩
 | _ =>
  intro ir ir' hg _
  cases ir<;>simp only [DV] at hg<;>cases hg
end
end Ve
namespace Ve
open Go
def Wc (tmps:Array Value):ResultVar→Sem Value
 | .tmp t=>pure (tmps.getD t undef)
 | .cell a t=>do loadVar t (← asAddr (tmps.getD a undef))
theorem Wb (fn:Func) (tmps:Array Value):results fn tmps=(do let vs←fn.results.toList.mapM (Wc tmps);pure (if h:vs.toArray.size=1 then vs.toArray[0] else .tuple vs.toArray)):=by
 have h1:results fn tmps=(do let vs←fn.results.mapM (Wc tmps);pure (if h:vs.size=1 then vs[0] else .tuple vs)):=by
  unfold results
  have:(fun x=>match x with | ResultVar.tmp t=>(pure (tmps.getD t undef):Sem Value) | ResultVar.cell a t=>(do loadVar t (← asAddr (tmps.getD a undef))))=Wc tmps:=by funext x;cases x<;>rfl
  rw [← this]
  rfl
 rw [h1,Array.mapM_eq_mapM_toList]
 simp
theorem Sh {E:Env} {vs:List V} {ys:List Value} (h:Rs E .O vs ys []):R1 E .O (DE vs) (if h:ys.toArray.size=1 then ys.toArray[0] else .tuple ys.toArray) []:=by
 have hl:=h.length
 cases vs with
 | nil =>
  obtain ⟨rfl,_⟩:=h.nil_inv
  simp only [DE]
  exact Rs.tup (f:=[]) .nil .nil
 | cons v vs =>
  cases vs with
  | nil =>
   obtain ⟨y,ys,f1,f2,rfl,hf,h1,h2⟩:=h.uncons
   obtain ⟨rfl,rfl⟩:=h2.nil_inv
   simp only [List.append_nil] at hf;subst hf
   simpa [DE] using h1
  | cons u vs =>
   simp only [List.length_cons] at hl
   have:¬ ys.toArray.size=1:=by simp;omega
   rw [dif_neg this]
   simpa [DE] using Rs.tup (f:=[]) h .nil
section
variable {P:Program} {L:Lay} (hL:Ez P L)
include hL in
theorem vM {E:Env} {hp:Hp} {tm:Nat→V} {a:Act} (hT:Hx E tm a) (hh:BE E hp) {t s:Nat} {n:Nat} {e:Eff} (he:(Fk L n t (tm s)).run hp=some e) (hU:∀ i,n≤i→¬ E.U i) :
  ∃ E' y,(Wc a.tmps (.cell s t)).run P E.w=.ok y E.w∧E'.w=E.w∧Nx E E'∧BE E' (Av hp e.upd)∧R1 E' .O e.v y []∧∀ i,n+e.new≤i→¬ E'.U i:=by
 let o:Oper:={ (default:Oper) with op:=.load t (.tmp s) }
 obtain ⟨E',y,h1,h2,h3,h4,h5,h6⟩:=OH (o:=o) hL hT hh (t:=t) (x:=.tmp s) rfl (nid:=n) he (fun i h _=>hU i h)
 refine ⟨E',y,?_,h2,h3,h4,h5,fun i hi hu=>?_⟩
 ·have hx:=hT.tm s
  have hptr:∃ ad,a.tmps.getD s undef=.pointer (some ad):=by
   generalize tm s=v at he hx
   generalize a.tmps.getD s undef=x at hx
   unfold Fk at he
   split at he
   ·simp [AM.run] at he
   ·split at he
    ·cases hx;exact ⟨_,rfl⟩
    ·cases hx<;>exact ⟨_,rfl⟩
    ·simp [AM.run] at he
  obtain ⟨ad,had⟩:=hptr
  have hev:a.eval (.tmp s)=.pointer (some ad):=by simpa [Act.eval] using had
  simp only [execOp,o,hev,Instr.loadAt,Instr.sureAddr] at h1
  simp only [Wc,had]
  simp only [Sem.run_bind] at h1 ⊢
  simp at h1 ⊢
  generalize hr:(loadVar t ad).run P E.w=r at h1
  cases r with
  | ok v w=>simp at h1;obtain ⟨rfl,rfl⟩:=h1;simp [asAddr,hr]
  | halt x w=>simp at h1
 ·rcases (h6 i).1 hu with h | h
  ·exact hU i (by omega) h
  ·omega
include hL in
theorem Jh {tm:Nat→V} {a:Act} {R:Type}:∀ (rs:List ResultVar) (ts:List TypeId) (hp:Hp) (n:Nat) (k:List V→Hp→Nat→Option R) (r:R),CI L tm rs ts hp n k=some r→∀ (E:Env),Hx E tm a→BE E hp→(∀ i,n≤i→¬ E.U i) →
  ∃ E' ys vs hp' n',(rs.mapM (Wc a.tmps)).run P E.w=.ok ys E.w∧E'.w=E.w∧Nx E E'∧BE E' hp'∧Rs E' .O vs ys []∧(∀ i,n'≤i→¬ E'.U i)∧n≤n'∧k vs hp' n'=some r
 | [],ts,hp,n,k,r,h,E,hT,hh,hU=>⟨E,[],[],hp,n,by simp,rfl,Nx.refl E,hh,.nil,hU,Nat.le_refl _,h⟩
 | .tmp t::rs,ts,hp,n,k,r,h,E,hT,hh,hU=>by
  simp only [CI] at h
  obtain ⟨E',ys,vs,hp',n',h1,h2,h3,h4,h5,h6,h7,h8⟩:=Jh rs ts.tail hp n _ r h E hT hh hU
  refine ⟨E',a.tmps.getD t undef::ys,_::vs,hp',n',?_,h2,h3,h4,?_,h6,h7,h8⟩
  ·rw [List.mapM_cons]
   simp only [Wc,Sem.run_bind]
   simp [h1]
  ·have:=FL (P:=P) hL (t:=ts.headD 0) ((hT.tm t).ext h3.ext)
   exact this.cons' h5
 | .cell s t::rs,ts,hp,n,k,r,h,E,hT,hh,hU=>by
  simp only [CI,IJ] at h
  split at h
  ·rename_i e he
   obtain ⟨E1,y,g1,g2,g3,g4,g5,g6⟩:=vM hL hT hh he hU
   obtain ⟨E',ys,vs,hp',n',h1,h2,h3,h4,h5,h6,h7,h8⟩:=Jh rs ts.tail _ _ _ r h E1 (hT.ext g3.ext) g4 g6
   rw [g2] at h1 h2
   refine ⟨E',y::ys,e.v::vs,hp',n',?_,h2,g3.trans h3,h4,(g5.ext h3.ext).cons' h5,h6,by omega,h8⟩
   rw [List.mapM_cons]
   simp only [Sem.run_bind,g1]
   simp [h1]
  ·cases h
end
theorem fE {L:Lay} {arr:Array Oper} {nt nt' j:Nat} (hn:nt≤nt') {o:Oper} (h:wfO L arr nt j o=true):wfO L arr nt' j o=true:=by
 simp only [wfO,Bool.and_eq_true] at h ⊢
 refine ⟨⟨⟨?_,h.1.1.2⟩,h.1.2⟩,h.2⟩
 have:=h.1.1.1
 split at this
 ·simp only [decide_eq_true_eq] at this ⊢;exact Nat.lt_of_lt_of_le this hn
 ·rfl
theorem aM {L:Lay} {arr:Array Oper} {nt nt':Nat} (hn:nt≤nt') (os:List Oper):∀ j,VG L arr nt j os=true→VG L arr nt' j os=true:=by
 induction os with
 | nil=>intro j h;rfl
 | cons o os ih =>
  intro j h
  rw [VG] at h ⊢
  obtain ⟨h1,h2⟩:=(Bool.and_eq_true _ _).mp h
  rw [fE hn h1,ih _ h2];rfl
theorem fF {L:Lay} {nt nt':Nat} (hn:nt≤nt'):∀ (c:Code),wfC L nt c=true→wfC L nt' c=true:=by
 intro c
 induction c with
 | region id ops d=>exact fun h=>aM hn _ _ h
 | seq a b iha ihb=>intro h;simp only [wfC,Bool.and_eq_true] at h ⊢;exact ⟨iha h.1,ihb h.2⟩
 | cond c a b iha ihb=>intro h;simp only [wfC,Bool.and_eq_true] at h ⊢;exact ⟨iha h.1,ihb h.2⟩
 | block id b ih=>exact ih
 | loop b ih=>exact ih
 | scope b ih=>exact ih
 | _=>exact fun _=>rfl
structure wU (Pr:Program) (L:Lay) (f:FuncId) (d:IFn):Prop where
 ex:∃ fn c,Pr.funcs[f]?=some fn∧fn.body=some c∧DV c d.body=some d.body∧wfC L fn.ntmps c=true∧fn.results.toList=d.results∧(fn.name == "runtime.NumGoroutine")=false
theorem Ob {E:Env}:∀ {xs:List V} {args:List Value},Rs E .O xs args []→∀ i,R1 E .O (xs.getD i BG) (args.getD i undef) []
 | [],args,h,i=>by
  obtain ⟨rfl,_⟩:=h.nil_inv
  simp only [List.getD_nil]
  exact .lit .nil
 | x::xs,args,h,i=>by
  obtain ⟨y,ys,f1,f2,rfl,hf,h1,h2⟩:=h.uncons
  obtain ⟨rfl,rfl⟩:f1=[]∧f2=[]:=by simpa using hf.symm
  cases i with
  | zero=>simpa using h1
  | succ i=>simpa using Ob h2 i
theorem wA {Pr:Program} {C:Ctx} {O:Orc} (G:eX Pr C.L C.T O (Aa O)) (hmix:Pr.follows .mixedOrders=true) {f:FuncId} {d:IFn} (hd:C.T f=some d) (hfn:wU Pr C.L f d) {k:Nat} {xs:List V} {hp:Hp} {n:Nat}
  {v:V} {hp':Hp} {n':Nat} (h:Ft C O k f xs hp n=some (v,hp',n')) :
  ∀ (E:Env) (args:List Value),BE E hp→(∀ i,n≤i→¬ E.U i)→Rs E .O xs args []→Calls Pr f args.toArray E.w fun
   | .returned y,w'=>∃ E',E'.w=w'∧Nx E E'∧BE E' hp'∧R1 E' .O v y []∧n≤n'∧∀ i,n'≤i→¬ E'.U i
   | _,_=>False:=by
 intro E args hh hU hxs
 obtain ⟨fn,c,h1,h2,h3,h4,h5,h6⟩:=hfn.ex
 simp only [Ft,hd] at h
 refine calls_of_wp h1 h2 ?_
 let a:Act:={ tmps:=args.toArray++Array.replicate (fn.ntmps - args.toArray.size) undef,defers:=[] }
 have hnt:fn.ntmps≤a.tmps.size:=by simp [a];omega
 have hF:Fr E n:=⟨fun i hi=>by
   cases Nat.lt_or_ge i n with
   | inl h=>exact h
   | inr h=>exact absurd hi (hU i h),fun o oi ho=>by
   cases Nat.lt_or_ge o n with
   | inl h=>exact h
   | inr h=>exact absurd (hh.alU o ho) (hU o h)⟩
 have hs:StR a.tmps.size E ⟨Gk xs,hp,n⟩ a:=by
  refine ⟨⟨rfl,fun t=>?_⟩,hh,hU,rfl⟩
  have:=Ob hxs t
  have e:a.tmps.getD t undef=args.getD t undef:=by
   simp only [a,Array.getD_eq_getD_getElem?,Array.getElem?_append,List.size_toArray,List.getD_eq_getElem?_getD]
   split
   ·simp
   ·rename_i h
    rw [List.getElem?_eq_none (by omega),Array.getElem?_replicate]
    split<;>rfl
  rw [e];exact this
 have hev:=(b0n G hmix hF (nt:=a.tmps.size) (k:=k) (R:=V × Hp × Nat) c d.body d.body h3 (fF hnt c h4)).1 _ _ _ h E a hs (Nat.le_refl _) (Nx.refl E)
 refine wp_mono hev (fun e a' w' hq=>?_)
 obtain ⟨out,s',E',rfl,g2,g3,g4,g5,g6⟩:=hq
 subst g3
 have fin:wP C.L d s'.tm s'.hp s'.n=some (v,hp',n')→a'.defers=[]∧∃ y,(results fn a'.tmps).run Pr E'.w=.ok y E'.w ∧
   ∃ E'',E''.w=E'.w∧Nx E E''∧BE E'' hp'∧R1 E'' .O v y []∧n≤n'∧∀ i,n'≤i→¬ E''.U i:=by
  intro ha
  refine ⟨g4.tm.df,?_⟩
  unfold wP at ha
  obtain ⟨E2,ys,vs,hp2,n2,r1,r2,r3,r4,r5,r6,r7,r8⟩:=Jh G.lay _ _ _ _ _ _ ha E' g4.tm g4.hp g4.U
  simp only [Option.some.injEq,Prod.mk.injEq] at r8
  obtain ⟨rfl,rfl,rfl⟩:=r8
  refine ⟨_,?_,E2,r2,g6.trans r3,r4,Sh r5,?_,r6⟩
  ·rw [Wb,h5]
   simp only [Sem.run_bind,r1]
   simp
  ·omega
 cases out with
 | normal=>exact fin g2
 | ret=>exact fin g2
 | exit i=>cases g2
 | goto l=>cases g2
end Ve
namespace Ve
open Go
section mono
variable {R:Type}
theorem HA {L:Lay} {T:Tbl} {O:Orc} {P:FuncId→List V→Option V}:∀ (ios:List IOp) (s:St) (k k':St→Option R) (r:R),CP L T O P ios s k=some r→(∀ s,k s=some r→k' s=some r)→CP L T O P ios s k'=some r
 | [],s,k,k',r,h,hk=>hk s h
 | o::ios,s,k,k',r,h,hk=>by
  simp only [CP] at h ⊢
  split at h
  ·simp only [Hv] at h ⊢
   split at h
   ·exact HA ios _ k k' r h hk
   ·cases h
  ·simp only [IJ] at h ⊢
   split at h
   ·exact HA ios _ k k' r h hk
   ·cases h
  ·simp only [LY] at h ⊢
   split at h
   ·exact HA ios _ k k' r h hk
   ·cases h
theorem Ir {L:Lay} {T:Tbl} {P:FuncId→List V→Option V}:∀ (ios:List IOp) (i:Nat) (s:St) (rcs:List Rec) (k k':St→List Rec→Option R) (r:R),Cg L T P i ios s rcs k=some r→(∀ s rcs,k s rcs=some r→k' s rcs=some r) →
  Cg L T P i ios s rcs k'=some r
 | [],i,s,rcs,k,k',r,h,hk=>hk s rcs h
 | o::ios,i,s,rcs,k,k',r,h,hk=>by
  simp only [Cg] at h ⊢
  split at h
  ·simp only [Hv] at h ⊢
   split at h
   ·exact Ir ios _ _ _ k k' r h hk
   ·cases h
  ·simp only [LX] at h ⊢
   split at h
   ·exact Ir ios _ _ _ k k' r h hk
   ·cases h
  ·cases h
def QLe (r:R) (q q':Out→St→Option R):Prop:=∀ o s,q o s=some r→q' o s=some r
theorem Ni {thr:Nat} {live:List Nat} {f f':St→(Out→St→Option R)→Option R} {r:R} (hf:∀ s q q',QLe r q q'→f s q=some r→f' s q'=some r) {q q':Out→St→Option R} (hq:QLe r q q') :
  ∀ (m m':Nat) (s:St),m≤m'→Bp thr live f q m s=some r→Bp thr live f' q' m' s=some r
 | 0,m',s,_,h=>by simp [Bp] at h
 | m+1,0,s,hm,h=>by omega
 | m+1,m'+1,s,hm,h=>by
  simp only [Bp,Hr] at h ⊢
  split at h
  ·refine hf _ _ _ (fun o s h=>?_) h
   cases o with
   | normal=>exact Ni hf hq m m' s (by omega) h
   | exit i=>exact hq _ _ h
   | goto l=>exact hq _ _ h
   | ret=>exact hq _ _ h
  ·cases h
theorem LP {thr:Nat} {live:List Nat} {has:Nat→Bool} {f f':Nat→St→(Out→St→Option R)→Option R} {r:R} (hf:∀ l s q q',QLe r q q'→f l s q=some r→f' l s q'=some r) {q q':Out→St→Option R} (hq:QLe r q q') :
  ∀ (m m' l:Nat) (s:St),m≤m'→EO thr live has f q m l s=some r→EO thr live has f' q' m' l s=some r
 | 0,m',l,s,_,h=>by simp [EO] at h
 | m+1,0,l,s,hm,h=>by omega
 | m+1,m'+1,l,s,hm,h=>by
  simp only [EO,Hr] at h ⊢
  split at h
  ·split at h
   ·refine hf _ _ _ _ (fun o s h=>?_) h
    cases o with
    | goto l=>exact LP hf hq m m' l _ (by omega) h
    | exit i=>exact hq _ _ h
    | normal=>exact hq _ _ h
    | ret=>exact hq _ _ h
   ·cases h
  ·exact hq _ _ h
theorem mC {C:Ctx} {O:Orc} {P:FuncId→List V→Option V} {k k':Nat} (hk:k≤k') {r:R}:∀ (ir:IR),
  (∀ s q q',QLe r q q'→evC C O P k ir s q=some r→evC C O P k' ir s q'=some r)∧(∀ l s q q',QLe r q q'→FM C O P k ir l s q=some r→FM C O P k' ir l s q'=some r):=by
 intro ir
 induction ir with
 | skip=>exact ⟨fun s q q' hq h=>by simp only [evC] at h ⊢;exact hq _ _ h,fun l s q q' hq h=>by cases h⟩
 | label l0=>exact ⟨fun s q q' hq h=>by simp only [evC] at h ⊢;exact hq _ _ h,fun l s q q' hq h=>by simp only [FM] at h ⊢;exact hq _ _ h⟩
 | region ops d =>
  refine ⟨fun s q q' hq h=>?_,fun l s q q' hq h=>by cases h⟩
  cases d with
  | none=>simp only [evC] at h ⊢;exact HA _ _ _ _ _ h (fun s h=>hq _ _ h)
  | some bef =>
   simp only [evC] at h ⊢
   split at h
   ·refine Ir _ _ _ _ _ _ _ h (fun s rcs h=>?_)
    simp only [Jx] at h ⊢
    split at h
    ·exact hq _ _ h
    ·cases h
   ·cases h
 | seq a b iha ihb =>
  have hth:∀ {q q':Out→St→Option R},QLe r q q'→QLe r (BZ (fun s=>evC C O P k b s q) q) (BZ (fun s=>evC C O P k' b s q') q'):=by
   intro q q' hq o s h
   cases o with
   | normal=>exact ihb.1 _ _ _ hq h
   | exit i=>exact hq _ _ h
   | goto l=>exact hq _ _ h
   | ret=>exact hq _ _ h
  refine ⟨fun s q q' hq h=>?_,fun l s q q' hq h=>?_⟩
  ·simp only [evC] at h ⊢;exact iha.1 _ _ _ (hth hq) h
  ·simp only [FM] at h ⊢
   split at h
   ·exact iha.2 _ _ _ _ (hth hq) h
   ·exact ihb.2 _ _ _ _ hq h
 | cond c a b iha ihb =>
  refine ⟨fun s q q' hq h=>?_,fun l s q q' hq h=>by cases h⟩
  simp only [evC] at h ⊢
  generalize (eV s.tm c).bool?=x at h ⊢
  match x,h with
  | some true,h=>exact iha.1 _ _ _ hq h
  | some false,h=>exact ihb.1 _ _ _ hq h
  | none,h=>cases h
 | block id b ih =>
  refine ⟨fun s q q' hq h=>?_,fun l s q q' hq h=>by cases h⟩
  simp only [evC] at h ⊢
  refine ih.1 _ _ _ (fun o s h=>?_) h
  cases o with
  | exit i =>
   simp only [Ec] at h ⊢
   split at h<;>exact hq _ _ h
  | normal=>exact hq _ _ h
  | goto l=>exact hq _ _ h
  | ret=>exact hq _ _ h
 | loop live b ih =>
  refine ⟨fun s q q' hq h=>?_,fun l s q q' hq h=>by cases h⟩
  simp only [evC] at h ⊢
  have hf:∀ s' (q q':Out→St→Option R),QLe r q q'→evC C O P k b s' (Al live q)=some r→evC C O P k' b s' (Al live q')=some r:=by
   intro s' q q' hq h
   refine ih.1 s' _ _ (fun o s h=>?_) h
   cases o<;>exact hq _ _ h
  exact Ni (f:=fun s q=>evC C O P k b s (Al live q)) (f':=fun s q=>evC C O P k' b s (Al live q)) hf hq _ _ _ hk h
 | exit id live=>exact ⟨fun s q q' hq h=>by simp only [evC] at h ⊢;exact hq _ _ h,fun l s q q' hq h=>by cases h⟩
 | goto l0=>exact ⟨fun s q q' hq h=>by simp only [evC] at h ⊢;exact hq _ _ h,fun l s q q' hq h=>by cases h⟩
 | ret live=>exact ⟨fun s q q' hq h=>by simp only [evC] at h ⊢;exact hq _ _ h,fun l s q q' hq h=>by cases h⟩
 | refuse=>exact ⟨fun s q q' hq h=>(by cases h),fun l s q q' hq h=>by cases h⟩
 | scope live b ih =>
  refine ⟨fun s q q' hq h=>?_,fun l s q q' hq h=>by cases h⟩
  simp only [evC] at h ⊢
  refine ih.1 _ _ _ (fun o s h=>?_) h
  cases o with
  | goto l=>exact LP (f:=fun l s q=>FM C O P k b l s q) (f':=fun l s q=>FM C O P k' b l s q) (fun l s q q' hq h=>ih.2 l s q q' hq h) hq _ _ _ _ hk h
  | exit i=>exact hq _ _ h
  | normal=>exact hq _ _ h
  | ret=>exact hq _ _ h
end mono
theorem Nj {C:Ctx} {O:Orc} {k k':Nat} (hk:k≤k') {f:FuncId} {xs:List V} {hp:Hp} {n:Nat} {r:V × Hp × Nat} (h:Ft C O k f xs hp n=some r):Ft C O k' f xs hp n=some r:=by
 simp only [Ft] at h ⊢
 split at h
 ·cases h
 ·exact (mC hk _).1 _ _ _ (fun _ _ h=>h) h
open Classical in
noncomputable def Lv (C:Ctx):Nat→Orc
 | 0=>fun _ _ _ _=>none
 | i+1=>fun f xs hp n=>if h:∃ r k,Ft C (Lv C i) k f xs hp n=some r then some h.choose else none
theorem kI {C:Ctx} {i:Nat} {f:FuncId} {xs:List V} {hp:Hp} {n:Nat} {r:V × Hp × Nat} {k:Nat} (h:Ft C (Lv C i) k f xs hp n=some r):Lv C (i+1) f xs hp n=some r:=by
 have hex:∃ r k,Ft C (Lv C i) k f xs hp n=some r:=⟨r,k,h⟩
 simp only [Lv]
 rw [dif_pos hex]
 obtain ⟨k',h'⟩:=hex.choose_spec
 have h1:=Nj (Nat.le_max_left k k') h
 have h2:=Nj (Nat.le_max_right k k') h'
 rw [h1] at h2
 exact h2.symm
theorem tM {C:Ctx} {i:Nat} {f:FuncId} {xs:List V} {hp:Hp} {n:Nat} {r:V × Hp × Nat} (h:Lv C (i+1) f xs hp n=some r):∃ k,Ft C (Lv C i) k f xs hp n=some r:=by
 simp only [Lv] at h
 split at h
 ·rename_i hex
  obtain ⟨k,hk⟩:=hex.choose_spec
  simp only [Option.some.injEq] at h
  rw [h] at hk
  exact ⟨k,hk⟩
 ·cases h
structure Tie (Pr:Program) (C:Ctx):Prop where
 lay:Ez Pr C.L
 mix:Pr.follows .mixedOrders=true
 clone:Tb Pr C.T
 fns:∀ f d,C.T f=some d→wU Pr C.L f d
theorem Tie.good {Pr:Program} {C:Ctx} (h:Tie Pr C) {O:Orc} (hO:VA Pr O):eX Pr C.L C.T O (Aa O) :=
 ⟨h.lay,hO,Qn hO,h.clone,fun g d hd=>by
  obtain ⟨fn,c,h1,h2,_,_,_,h3⟩:=(h.fns g d hd).ex
  exact ⟨fn,h1,h3,by rw [h2];rfl⟩⟩
theorem Tie.lv {Pr:Program} {C:Ctx} (h:Tie Pr C):∀ i,VA Pr (Lv C i)
 | 0=>fun g xs hp n v hp' n' he=>by simp [Lv] at he
 | i+1=>fun g xs hp n v hp' n' he E args h1 h2 h3=>by
  obtain ⟨k,hk⟩:=tM he
  cases hd:C.T g with
  | none=>simp [Ft,hd] at hk
  | some d=>exact wA (h.good (h.lv i)) h.mix hd (h.fns g d hd) hk E args h1 h2 h3
theorem Tie.call {Pr:Program} {C:Ctx} (h:Tie Pr C) {i:Nat} {g:FuncId} {xs:List V} {r:V} (hr:Aa (Lv C i) g xs=some r) {w:World} {F:Nat→Prop} {f:List Nat} {args:List Value} (h1:Rs (DR w F f) .B xs args f)
  (h2:f.Nodup) (h3:∀ b∈f,b<w.heap.size) (h4:∀ b,F b→b<w.heap.size∧b∉f):Calls Pr g args.toArray w fun
   | .returned y,w'=>xW w F f w' r y
   | _,_=>False :=
 (Qn (h.lv i) g xs r hr).2 w F f args h1 h2 h3 h4
end Ve
