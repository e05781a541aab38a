/- Lists of sessions, one of which was opened. -/
import Derived.Test.YtdmcpcghdegheaaGreatVeO
set_option linter.all false
set_option linter.unusedSectionVars false
namespace Ve
set_option linter.unusedSimpArgs false
open Go
theorem am_setS (thr d : Nat) (l : List TSess) (k : Nat) (x : V) (hk : k < l.length) : amMap (close thr (d + 2)) ((l.map oS).set k x) = (close thr (d + 2) x).bind fun y => .ret (((l.map oS).map vn).set k y) :=
  am_set _ vn x _ _ (fun y hy => by
    obtain ⟨s, _, rfl⟩ := List.mem_map.1 hy
    simp only [oS, cl_agg, am_cons, am_nil, cl_lit, cl_own, cl_isl, bind_ret, List.map_cons, List.map_nil, List.flatten_cons, List.flatten_nil, List.append_nil, List.nil_append]) (by simpa using hk)
theorem re_setS (d : Nat) (l : List TSess) (k : Nat) (x : V) (hk : k < l.length) : amMap (reify (d + 2)) ((l.map oS).set k x) = (reify (d + 2) x).bind fun y => .ret ((l.map (eS false)).set k y) := by
  have := am_set (reify (d + 2)) (fun v => v.bz) x (l.map oS) k (fun y hy => by
    obtain ⟨s, _, rfl⟩ := List.mem_map.1 hy
    simp only [oS, bz_agg, bzs_cons, bzs_nil, bz_lit, bz_own, re_agg, am_cons, am_nil, re_lit, re_own, bind_ret]) (by simpa using hk)
  rw [this]
  congr 1
  funext y
  rw [List.map_map]
  congr 3
  funext s
  simp only [Function.comp, oS, eS, bz_agg, bzs_cons, bzs_nil, bz_lit, bz_own, eI_bz, eR_bz, eWr_bz]
theorem map_fst_set (L : List V) (k : Nat) (y : V × List Nat) : List.map (fun x : V × List Nat => x.1) ((L.map vn).set k y) = L.set k y.1 := by
  rw [List.map_set, map_fst]
theorem map_snd_set (L : List V) (k : Nat) (y : V × List Nat) (hk : k < L.length) : (List.map (fun x : V × List Nat => x.2) ((L.map vn).set k y)).flatten = y.2 := by
  induction L generalizing k with
  | nil => simp at hk
  | cons a l ih => cases k with
    | zero => simp only [List.map_cons, List.set_cons_zero, List.flatten_cons]; rw [map_snd]; simp
    | succ k => simp only [List.map_cons, List.set_cons_succ, List.flatten_cons]; rw [ih k (by simpa using hk)]; rfl
theorem perms_set : ∀ (l : List V) (k : Nat) (x : V), perms l = true → x.perm = true → perms (l.set k x) = true
  | [], _, _, _, _ => by simp [perms]
  | a :: l, 0, x, h, hx => by simp only [perms_cons, Bool.and_eq_true] at h; simp only [List.set_cons_zero, perms_cons, hx, h.2, Bool.and_self]
  | a :: l, k + 1, x, h, hx => by simp only [perms_cons, Bool.and_eq_true] at h; simp only [List.set_cons_succ, perms_cons, h.1, perms_set l k x h.2 hx, Bool.and_self]
theorem perms_setS (l : List TSess) (k : Nat) (x : V) (hx : x.perm = true) : perms ((l.map oS).set k x) = true := perms_set _ _ _ (perms_oS l) hx
theorem perms_setSO (l : List TSess) (k : Nat) (s : TSess) : perms ((l.map oS).set k (oS s)) = true := perms_setS _ _ _ (by simp [oS, V.perm, perms])
theorem bzs_set : ∀ (l : List V) (k : Nat) (x : V), bzs (l.set k x) = (bzs l).set k x.bz
  | [], _, _ => by simp [bzs]
  | a :: l, 0, x => by simp [bzs]
  | a :: l, k + 1, x => by simp [bzs, bzs_set l k x]
attribute [go_sem] am_setS re_setS map_fst_set map_snd_set perms_setS bzs_set List.length_map
end Ve
