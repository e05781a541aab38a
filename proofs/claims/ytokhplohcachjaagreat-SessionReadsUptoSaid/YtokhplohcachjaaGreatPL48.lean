/- The machines of SessionEnds, SessionAborts, SessionReads. -/
import Derived.Test.YtokhplohcachjaaGreatVeP
import Derived.KernelRfl
set_option linter.all false
set_option linter.unusedSectionVars false
namespace Ve
open Go
structure RunN (k:Nat) (m0:Ad) (M:Nat→Ad):Prop where
 z:M 0=m0
 st:∀ j,Be (M j) k=(M (j+1),0)
 sm:∀ j,SmM (M j)
 len:∀ j,(M j).sess.length=m0.sess.length
 eq:∀ j,M j=itU k j m0
theorem runN {k:Nat} {m:Ad} (hI:Inv m) (hk:k<m.sess.length):RunN k m (fun j=>itM k j m):=by
 have h:=qI hI hk
 exact ⟨rfl,fun j=>Prod.ext rfl (h j).2.2.2,fun j=>KK (h j).1.may,fun j=>(h j).2.1,fun j=>(h j).2.2.1⟩
abbrev S3p (p:List AF):Ag:=⟨3,0,3,p,0,0,⟨0,0,0,0⟩,[],[],0,0,0,0,0⟩
abbrev S5p (a:Int) (c:Int) (p:List AF):Ag:=⟨5,a,c,p,0,0,⟨0,0,0,0⟩,[],[],0,0,0,0,0⟩
def MachE (a b c v:Int):Ad:=⟨⟨[⟨5,0,0⟩,⟨6,0,0⟩],[⟨7,0,0⟩],[⟨1,0,0⟩],[⟨9,0,0⟩]⟩,⟨0,0,0,0⟩,9,[S3p [⟨2,0,0,0⟩,⟨1,0,0,0⟩,⟨3,0,0,0⟩],S5p a 3 [⟨2,0,b,0⟩,⟨0,1,v,0⟩,⟨3,1,c,0⟩]],[]⟩
def MachA (v t:Int):Ad:=⟨⟨[⟨5,0,0⟩,⟨6,0,0⟩],[⟨7,0,0⟩],[],[⟨9,0,0⟩]⟩,⟨0,0,0,0⟩,9,[S3p [⟨0,0,v,0⟩,⟨3,0,0,0⟩,⟨6,t,0,0⟩],S5p 1 1 [⟨2,0,0,1⟩,⟨3,0,1,0⟩]],[]⟩
def MachR (p:List AF):Ad:=⟨⟨[⟨5,0,0⟩,⟨6,0,0⟩],[⟨7,0,0⟩],[],[⟨9,0,0⟩]⟩,⟨0,0,0,0⟩,9,[S3p p,S5p 1 1 [⟨2,0,0,1⟩,⟨3,0,1,0⟩]],[]⟩
theorem may_two {ws:A4 (List Ao)} {s0 s1:Ag} (ha:AR ws=true) (hid:s0.id<s1.id) (h0:AZ ws s0=true) (h1:AZ ws s1=true):CY ⟨ws,⟨0,0,0,0⟩,9,[s0,s1],[]⟩=true:=by
 refine (RO _).2 ⟨ha,rfl,rfl,by simp,by simp,?_,?_,by simp⟩
 ·simp only [List.map_cons,List.map_nil,Yn,Bool.and_true]
  simpa using hid
 ·intro s hs
  simp only [List.mem_cons,List.mem_nil_iff,or_false] at hs
  rcases hs with rfl | rfl
  ·exact h0
  ·exact h1
theorem sess_new {ws:A4 (List Ao)} {id lab cl:Int} {p:List AF} (hs:DT id lab cl p=true) (hp:CM ws p=true):AZ ws ⟨id,lab,cl,p,0,0,⟨0,0,0,0⟩,[],[],0,0,0,0,0⟩=true:=by
 unfold AZ
 have h0:inR 0 (p.length:Int)=true:=by rw [AG];omega
 simp only [hs,hp,h0,AB,Ch,List.all_nil,Bool.and_true,Bool.true_and]
 decide
theorem me_may {a b c v:Int} (ha:inR a 3=true) (hb:inR b 3=true) (hc:inR c 3=true) (hv:inR v 255=true):CY (MachE a b c v)=true:=by
 refine may_two (by decide) (by show (3:Int)<5;decide) (sess_new (by decide) (by decide)) (sess_new ?_ ?_)
 ·have hu:under a 3=true:=by rcases Ir ha with rfl | rfl | rfl | rfl<;>decide
  have h1:BN ⟨2,0,b,0⟩=true:=by simp [BN,hb];decide
  have h2:BN ⟨0,1,v,0⟩=true:=by simp [BN,hv];decide
  have h3:BN ⟨3,1,c,0⟩=true:=by simp [BN,hc];decide
  simp [DT,ha,hu,Gz,BZ,h1,h2,h3]
  decide
 ·rcases Ir hb with rfl | rfl | rfl | rfl<;>rcases Ir hc with rfl | rfl | rfl | rfl<;>simp [CM,FV,AV,A4.get]<;>decide
theorem ma_may {v t:Int} (hv:inR v 255=true) (ht:inR t 255=true):CY (MachA v t)=true:=by
 refine may_two (by decide) (by show (3:Int)<5;decide) (sess_new ?_ ?_) (sess_new (by decide) (by decide))
 ·have h1:BN ⟨0,0,v,0⟩=true:=by simp [BN,hv];decide
  have h2:BN ⟨3,0,0,0⟩=true:=by decide
  have h3:BN ⟨6,t,0,0⟩=true:=by simp [BN,ht]
  simp [DT,Gz,BZ,h1,h2,h3]
  decide
 ·simp [CM,FV,AV,A4.get];try decide
theorem inv_me {a b c v:Int} (h:CY (MachE a b c v)=true):Inv (MachE a b c v):=by
 have e:MachE a b c v=Dd ⟨⟨[5,6],[7],[1],[9]⟩,9,[⟨3,0,3,[⟨2,0,0,0⟩,⟨1,0,0,0⟩,⟨3,0,0,0⟩]⟩,⟨5,a,3,[⟨2,0,b,0⟩,⟨0,1,v,0⟩,⟨3,1,c,0⟩]⟩],[]⟩:=rfl
 rw [e] at h ⊢
 exact Vv h
theorem inv_ma {v t:Int} (h:CY (MachA v t)=true):Inv (MachA v t):=by
 have e:MachA v t=Dd ⟨⟨[5,6],[7],[],[9]⟩,9,[⟨3,0,3,[⟨0,0,v,0⟩,⟨3,0,0,0⟩,⟨6,t,0,0⟩]⟩,⟨5,1,1,[⟨2,0,0,1⟩,⟨3,0,1,0⟩]⟩],[]⟩:=rfl
 rw [e] at h ⊢
 exact Vv h
theorem inv_mr {p:List AF} (h:CY (MachR p)=true):Inv (MachR p):=by
 have e:MachR p=Dd ⟨⟨[5,6],[7],[],[9]⟩,9,[⟨3,0,3,p⟩,⟨5,1,1,[⟨2,0,0,1⟩,⟨3,0,1,0⟩]⟩],[]⟩:=rfl
 rw [e] at h ⊢
 exact Vv h
theorem ma_end (v t:Int):(itU 0 4 (MachA v t)).sess[0]?=some ⟨3,0,3,[⟨0,0,v,0⟩,⟨3,0,0,0⟩,⟨6,t,0,0⟩],6,2,⟨v,0,0,0⟩,[],[],0,0,0,2,t⟩∧(itU 0 4 (MachA v t)).words=(MachA v t).words∧(itU 0 4 (MachA v t)).clocks=⟨0,0,0,0⟩ :=
 ⟨by kernel_rfl,by kernel_rfl,by kernel_rfl⟩
def rvE (b:Int):Int:=if b=0 then 5 else if b=1 then 7 else if b=2 then 1 else 9
def SessE (a b c v r:Int):Ag:=⟨5,orI a b,3,[⟨2,0,b,0⟩,⟨0,1,v,0⟩,⟨3,1,c,0⟩],6,3,⟨rvE b,v,0,0⟩,[],[],0,0,0,r,0⟩
def EndsP (a b c v:Int) (m:Ad):Prop :=
 (c≠orI a b∧m.sess[1]?=some (SessE a b c v 3)∧m.words=(MachE a b c v).words∧m.clocks=⟨0,0,0,0⟩)∨(c=orI a b∧m.sess[1]?=some (SessE a b c v 1)∧(m.words.get c)[0]?=some ⟨v,1,0⟩∧m.clocks.get c=1)
theorem me_end {a b c:Int} (v:Int) (ha:inR a 3=true) (hb:inR b 3=true) (hc:inR c 3=true):EndsP a b c v (itU 1 12 (MachE a b c v)):=by
 rcases Ir ha with rfl | rfl | rfl | rfl<;>rcases Ir hb with rfl | rfl | rfl | rfl<;>rcases Ir hc with rfl | rfl | rfl | rfl
 all_goals first
  | exact .inr ⟨by decide,by kernel_rfl,by kernel_rfl,by kernel_rfl⟩
  | exact .inl ⟨by decide,by kernel_rfl,by kernel_rfl,by kernel_rfl⟩
def progR (k:Nat):List AF:=[⟨2,0,0,0⟩,⟨2,1,1,0⟩,⟨2,2,3,0⟩,⟨2,3,0,0⟩].take (k+1)
theorem mr_may {k:Nat} (hk:k≤3):CY (MachR (progR k))=true:=by
 obtain rfl | rfl | rfl | rfl:k=0∨k=1∨k=2∨k=3:=by omega
 all_goals decide +kernel
theorem mr_end {k:Nat} (hk:k≤3):((itU 0 (2*k+5) (MachR (progR k))).sess[0]?.map fun y=>(y.step,y.result,y.label))=some (6,1,if k=0 then 0 else if k=1 then 1 else 3)∧(itU 0 (2*k+5) (MachR (progR k))).words=(MachR (progR k)).words∧(itU 0 (2*k+5) (MachR (progR k))).clocks=⟨0,0,0,0⟩∧itU 0 (2*k+6) (MachR (progR k))=itU 0 (2*k+5) (MachR (progR k)):=by
 obtain rfl | rfl | rfl | rfl:k=0∨k=1∨k=2∨k=3:=by omega
 all_goals refine ⟨?_,?_,?_,?_⟩<;>decide +kernel
end Ve
