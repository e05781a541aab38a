/- Programs as texts: what inst.Put, inst.Get, prog.Put, prog.Get answer on a program that may be. -/
import Derived.Test.YtdgpalcplglhjaaGreatVeSA
import Derived.Test.YtdgpalcplglhjaaGreatS60
import Derived.Test.YtdgpalcplglhjaaGreatVeXA
set_option linter.all false
set_option linter.unusedSectionVars false
namespace Ve
open Go Ve.Ab
set_option maxHeartbeats 16000000
set_option maxRecDepth 10000
abbrev sV (l:List Int):V:=.lit (.string (tS l))
theorem oH {L:Lay} {t:TypeId} (a b:List Int) (h:a.length+b.length≤1048576):BJ L .add t (sV a) (sV b)=some (sV (a++b)):=by
 have h1:¬ ((((tS a).size+(tS b).size:Nat):Int)>IntKind.i64.max):=by
  rw [Fz,Fz]
  have e:IntKind.i64.max=9223372036854775807:=by decide
  rw [e];omega
 simp only [BJ,Op.stringOp,h1,if_false,XK]
 rfl
theorem Zf {L:Lay} {t:TypeId} (a:List Int):BJ L .neq t (sV a) (sV a)=some (bV false):=by
 simp only [BJ,Op.stringOp]
 simp [HN]
 rfl
@[go_sem] theorem fix_str (L:Lay) (t:TypeId) (s:ByteArray):Bg L t (.lit (.string s))=.lit (.string s):=by simp [Bg,V.isNil]
theorem XV (i:Nat) (w:Av) (h:Bd w=true):Aa (Lv ctx (i+4)) 45 [eI w]=some (.tup [sV (Dd w),iV 0]):=by
 obtain ⟨h0,h1,h2,h3⟩:=OS h
 have w0:=wrU h0
 have w1:=wrU h1
 have w2:=wrU h2
 have w3:=wrU h3
 obtain ⟨c,a,b,d⟩:=w
 simp only at w0 w1 w2 w3
 refine Ac rfl 0 (by rfl) ?_
 delta c45
 simp +contextual -dsimp -implicitDefEqProofs (maxSteps:=5000000) only [eI,h,CF,w0,w1,w2,w3,List.replicate,Dd,go_sem,simprocAttr]
theorem Ok (i:Nat) (w:Av) (h:Bd w=true):Aa (Lv ctx (i+4)) 46 [sV (Dd w)]=some (.tup [eI w,iV 0]):=by
 obtain ⟨h0,h1,h2,h3⟩:=OS h
 have u0:=u8N h0
 have u1:=u8N h1
 have u2:=u8N h2
 have u3:=u8N h3
 have w0:=EH (a:=w.code) (by omega) (by omega)
 have w1:=EH (a:=w.a) (by omega) (by omega)
 have w2:=EH (a:=w.b) (by omega) (by omega)
 have w3:=EH (a:=w.c) (by omega) (by omega)
 obtain ⟨c,a,b,d⟩:=w
 simp only [wr] at u0 u1 u2 u3 w0 w1 w2 w3
 refine Ac rfl 0 (by rfl) ?_
 delta c46
 simp +contextual -dsimp -implicitDefEqProofs (maxSteps:=5000000) only [eI,h,CF,Iy,pX,Fz,u0,u1,u2,u3,w0,w1,w2,w3,Dd,go_sem,simprocAttr]
abbrev hPt (c:Int):Hp:=pO Ag 0 (some ⟨1,[.lit (.int .u8 c)],false⟩)
theorem oY (i k:Nat) (pf:Bool) (xs:List Av) (hx:xs.length≤16) (hm:∀ w∈xs,Bd w=true) (n:Int) (q:Out→St→Option Ans) (Q:V→Hp→Nat→Prop)
  (u:Dum (fun s q=>evC ctx (Lv ctx (i+4)) (Aa (Lv ctx (i+4))) k Pv s (As [4,17,18,19] q))) (w:Dum q)
  (hend:Fin (q (.exit 0) ⟨Ae [4] [sV (n::xs.flatMap Dd)],hPt n,1⟩) Q):∀ (suf pre:List Av) (kk:Nat),xs=pre++suf→suf.length<kk →
  GL 1 [4,17,18,19] (fun s q=>evC ctx (Lv ctx (i+4)) (Aa (Lv ctx (i+4))) k Pv s (As [4,17,18,19] q)) q kk ⟨Ae [4,17,18,19] [sV (n::pre.flatMap Dd),.isl pf false 4 (xs.map eI),iV xs.length,iV pre.length],hPt n,1⟩ Q u w
 | [],pre,kk,hxs,hk=>by
  obtain ⟨kk,rfl⟩:∃ m,kk=m+1:=⟨kk - 1,by simp at hk;omega⟩
  have h1:decide ((pre.length:Int)<xs.length)=false:=by simp [hxs]
  have h2:xs=pre:=by simpa using hxs
  rw [h2] at hend
  simp +contextual -dsimp -implicitDefEqProofs (maxSteps:=5000000) only [gLs,↓Aj (Pv.eq_1),h1,go_sem,simprocAttr]
  exact hend
 | v::suf,pre,kk,hxs,hk=>by
  obtain ⟨kk,rfl⟩:∃ m,kk=m+1:=⟨kk - 1,by simp at hk;omega⟩
  have hl:pre.length<xs.length:=by simp [hxs]
  have h2:((pre.length:Int)<xs.length)=True:=by simpa using hl
  have h3:(0≤(pre.length:Int))=True:=by simp
  have h4:=wrN pre.length (by simp only [BB];omega)
  have hg:xs[pre.length]?=some v:=by simp [hxs]
  have hp:=XV (i+0) v (hm v (by simp [hxs]))
  have hc:=fun t=>oH (L:=lay) (t:=t) (n::pre.flatMap Dd) (Dd v) (by rw [List.length_cons,La];simp [Dd];omega)
  have ih:=oY i k pf xs hx hm n q Q u w hend suf (pre++[v]) kk (by simp [hxs]) (by simpa using hk)
  simp only [Ao,List.flatMap_append,List.flatMap_cons,List.flatMap_nil,List.append_nil] at ih
  simp only [Nat.add_assoc,Nat.reduceAdd,eI] at hp
  simp only [List.cons_append] at hc
  simp +contextual -dsimp -implicitDefEqProofs (maxSteps:=5000000) only [gLs,↓Aj (Pv.eq_1),h2,h3,h4,hg,hp,hc,eI,go_sem,simprocAttr]
  exact (BN (by rfl)).mpr ih
theorem Oj (i:Nat) (pf:Bool) (xs:List Av) (h:Dn xs=true):Aa (Lv ctx (i+5)) 15 [.isl pf false 4 (xs.map eI)]=some (.tup [sV (Kf xs),iV 0]):=by
 obtain ⟨hm,hx⟩:=Ss h
 have q:=ZN (i+0) pf false xs (by simp only [BB];omega)
 have hw:IntKind.wrap .u8 (xs.length:Int)=xs.length:=wrU (by omega)
 rw [h] at q
 simp only [Nat.add_assoc,Nat.reduceAdd] at q
 refine Ac rfl (xs.length+1) (by rfl) ?_
 delta c15
 simp +contextual -dsimp -implicitDefEqProofs (maxSteps:=5000000) only [q,hw,CF,List.replicate,go_sem,simprocAttr]
 refine oY i _ pf xs hx hm xs.length _ _ _ _ ?_ xs [] _ rfl (by omega)
 simp +contextual -dsimp -implicitDefEqProofs (maxSteps:=5000000) only [Kf,go_sem,simprocAttr]
theorem iJ (i:Nat):Aa (Lv ctx (i+4)) 44 [.lit (.slice none 0 0)]=some (bV true):=by
 refine Ac rfl 1 (by rfl) ?_
 delta c44
 simp +contextual -dsimp -implicitDefEqProofs (maxSteps:=5000000) only [gLs,↓Aj (NA.eq_1),go_sem,simprocAttr]
theorem Uf (i:Nat):Aa (Lv ctx (i+5)) 15 [.lit (.slice none 0 0)]=some (.tup [sV [0],iV 0]):=by
 have q:=iJ (i+0)
 simp only [Nat.add_assoc,Nat.reduceAdd] at q
 have w0:IntKind.wrap .u8 0=0:=by decide
 refine Ac rfl 1 (by rfl) ?_
 delta c15
 simp +contextual -dsimp -implicitDefEqProofs (maxSteps:=5000000) only [gLs,↓Aj (Pv.eq_1),q,w0,CF,List.replicate,go_sem,simprocAttr]
abbrev hGt (pre:List Av):Hp:=pO Ag 0 (some ⟨4,pre.map eI,false⟩)
theorem KV (xs:List Av) (n:Int):(n::xs.flatMap Dd).length=1+4*xs.length:=by rw [List.length_cons,La];omega
theorem Zp (j:Nat) (h:j≤1000):IntKind.wrap .i64 (((1+4*j:Nat):Int)+4)=((1+4*(j+1):Nat):Int):=by
 have:=EH (a:=((1+4*j:Nat):Int)+4) (by omega) (by omega)
 simp only [wr] at this
 rw [this];omega
theorem pA (i k:Nat) (xs:List Av) (hx:xs.length≤16) (hm:∀ w∈xs,Bd w=true) (n:Int) (q:Out→St→Option Ans) (Q:V→Hp→Nat→Prop)
  (u:Dum (fun s q=>evC ctx (Lv ctx (i+5)) (Aa (Lv ctx (i+5))) k NH s (As [0,4,5] q))) (w:Dum q)
  (hend:Fin (q (.exit 0) ⟨Ae [0,4] [sV (n::xs.flatMap Dd),.sl 0],hGt xs,1⟩) Q):∀ (suf pre:List Av) (kk:Nat),xs=pre++suf→suf.length<kk →
  GL 0 [0,4,5] (fun s q=>evC ctx (Lv ctx (i+5)) (Aa (Lv ctx (i+5))) k NH s (As [0,4,5] q)) q kk ⟨Ae [0,4,5] [sV (n::xs.flatMap Dd),.sl 0,iV ((1+4*pre.length:Nat):Int)],hGt pre,1⟩ Q u w
 | [],pre,kk,hxs,hk=>by
  obtain ⟨kk,rfl⟩:∃ m,kk=m+1:=⟨kk - 1,by simp at hk;omega⟩
  have h2:xs=pre:=by simpa using hxs
  have hl:pre.length≤16:=by rw [← h2];exact hx
  have h1:decide (((1+4*(pre.length+1):Nat):Int)≤((1+4*pre.length:Nat):Int))=false:=by simp;omega
  have h4:=Zp pre.length (by omega)
  have h5:=KV pre n
  rw [h2] at hend ⊢
  simp +contextual -dsimp -implicitDefEqProofs (maxSteps:=5000000) only [gLs,↓Aj (NH.eq_1),h4,Fz,h5,h1,go_sem,simprocAttr]
  exact hend
 | v::suf,pre,kk,hxs,hk=>by
  obtain ⟨kk,rfl⟩:∃ m,kk=m+1:=⟨kk - 1,by simp at hk;omega⟩
  have hl:pre.length<xs.length:=by simp [hxs]
  have h4:=Zp pre.length (by omega)
  have h5:=KV xs n
  have h1:decide (((1+4*(pre.length+1):Nat):Int)≤((1+4*xs.length:Nat):Int))=true:=by simp;omega
  have h2:decide ((pre.length:Int)≤16)=true:=by simp;omega
  have h6:(0≤((1+4*pre.length:Nat):Int))=True:=by simp;omega
  have h7:(((1+4*pre.length:Nat):Int)≤((1+4*(pre.length+1):Nat):Int))=True:=by simp;omega
  have h8:(((1+4*(pre.length+1):Nat):Int)≤((1+4*xs.length:Nat):Int))=True:=by simp;omega
  have hcut:(tS (n::xs.flatMap Dd)).extract (1+4*pre.length) (1+4*(pre.length+1))=tS (Dd v):=by
   rw [Zz,hxs];congr 1;exact Ow pre suf v n
  have hg:=Ok (i+1) v (hm v (by simp [hxs]))
  have h9:(((pre.length+1:Nat):Int)*32≤140737488355328)=True:=by rw [eq_iff_iff,iff_true];omega
  have ih:=pA i k xs hx hm n q Q u w hend suf (pre++[v]) kk (by simp [hxs]) (by simpa using hk)
  simp only [Ao,List.map_append,List.map_cons,List.map_nil,eI] at ih
  simp only [Nat.add_assoc,Nat.reduceAdd,eI] at hg
  simp +contextual -dsimp -implicitDefEqProofs (maxSteps:=5000000) only [gLs,↓Aj (NH.eq_1),h4,Fz,h5,h1,h2,Ht,h6,h7,h8,hcut,hg,h9,eI,List.replicate,List.length_append,List.length_cons,List.length_nil,List.length_map,go_sem,simprocAttr]
  obtain ⟨kk,rfl⟩:∃ m,kk=m+1:=⟨kk - 1,by simp at hk;omega⟩
  simp +contextual -dsimp -implicitDefEqProofs (maxSteps:=5000000) only [gLs,go_sem,simprocAttr] at ih ⊢
  exact ih
theorem XR (i:Nat) (xs:List Av) (h:Dn xs=true):Aa (Lv ctx (i+6)) 16 [sV (Kf xs)]=some (.tup [oIs xs,iV 0]):=by
 obtain ⟨hm,hx⟩:=Ss h
 have q:=fun pf=>Oj (i+0) pf xs h
 have hn:=fun t=>Zf (L:=lay) (t:=t) (Kf xs)
 simp only [Nat.add_assoc,Nat.reduceAdd] at q
 cases xs with
 | nil =>
  refine Ac rfl 1 (by rfl) ?_
  delta c16
  have e:Kf []=[0]:=rfl
  have q:=Uf (i+0)
  simp only [Nat.add_assoc,Nat.reduceAdd] at q
  rw [e] at hn ⊢
  simp +contextual -dsimp -implicitDefEqProofs (maxSteps:=5000000) only [gLs,↓Aj (NH.eq_1),Fz,q,hn,List.map_nil,go_sem,simprocAttr]
  rfl
 | cons v suf =>
  have h4:=Zp 0 (by omega)
  have h5:=KV (v::suf) ((v::suf).length:Int)
  have h1:decide ((5:Int)≤((1+4*(suf.length+1):Nat):Int))=true:=by simp;omega
  have h8:((5:Int)≤((1+4*(suf.length+1):Nat):Int))=True:=by simp;omega
  have hcut:(tS (Kf (v::suf))).extract 1 5=tS (Dd v):=by
   rw [Kf,Zz]
   exact congrArg tS (Ow [] suf v _)
  have hg:=Ok (i+1) v (hm v (by simp))
  obtain ⟨K,hK⟩:∃ K,suf.length<K:=⟨_,Nat.lt_succ_self _⟩
  have key:=fun q Q u w h=>pA i (K+1) (v::suf) hx hm ((v::suf).length:Int) q Q u w h suf [v] K rfl hK
  have eB:((v::suf).length:Int)::(v::suf).flatMap Dd=Kf (v::suf):=rfl
  rw [eB,List.length_cons] at h5
  simp only [eB] at key
  simp only [Nat.add_assoc,Nat.reduceAdd,eI] at hg
  generalize Kf (v::suf)=B at *
  simp only [List.map_cons,eI] at q
  refine Ac rfl (K+1) (by rfl) ?_
  delta c16
  simp +contextual -dsimp -implicitDefEqProofs (maxSteps:=5000000) only [gLs,↓Aj (NH.eq_1),Fz,h5,h1,Ht,h8,hcut,hg,eI,List.replicate,go_sem,simprocAttr]
  refine (BN (by rfl)).mpr (key _ _ _ _ ?_)
  simp +contextual -dsimp -implicitDefEqProofs (maxSteps:=5000000) only [q,hn,go_sem,simprocAttr]
  rfl
end Ve
