/- The program's search among writes. -/
import Derived.Test.YtapgmjgledahiaaGreatS6
import Derived.Test.YtapgmjgledahiaaGreatPL41
import Derived.Test.YtapgmjgledahiaaGreatAr
import Derived.Test.YtapgmjgledahiaaGreatLo2
set_option linter.all false
set_option linter.unusedSectionVars false
namespace Ve
open Go Ve.Ab
set_option maxHeartbeats 16000000
set_option maxRecDepth 10000
theorem row_sign {w : TWrite} {l x v : Int} (hw : write1 w = true) (hl : inR l 3 = true) (hx : inR x 3 = true) : decide (rowW w ⟨l, x, v⟩ < 0) = decide (plW w < place l x) ∧ decide (rowW w ⟨l, x, v⟩ = 0) = decide (plW w = place l x) := by
  simp only [write1, inR, Bool.and_eq_true, decide_eq_true_eq] at hw hl hx
  have e1 := wr_id (a := w.level - l) (by omega) (by omega)
  have e2 := wr_id (a := w.index - x) (by omega) (by omega)
  simp only [wr] at e1 e2
  have h : (rowW w ⟨l, x, v⟩ < 0 ↔ plW w < place l x) ∧ (rowW w ⟨l, x, v⟩ = 0 ↔ plW w = place l x) := by
    simp only [rowW, e1, e2, plW, place]
    split <;> omega
  exact ⟨by simp only [h.1], by simp only [h.2]⟩
theorem call_undef (P : FuncId → List V → Option V) (n : Nat) (f : Bool) (xs : List V) : opCall tbl P n f undefV xs = .p none := rfl
def hitP (t : Int) (xs : List TWrite) : Bool := match xs[posW t xs]? with
  | some w => decide (plW w = t)
  | none => false
theorem find_hit {l x : Int} (hx : inR x 3 = true) {xs : List TWrite} (hm : writesMay xs = true) : findWrite xs l x = if hitP (place l x) xs = true then ((xs.getD (posW (place l x) xs) ⟨0, 0, 0⟩).val, true) else (0, false) := by
  obtain ⟨h1, h2, _⟩ := writes_may hm
  unfold findWrite
  rw [hm, if_pos rfl, find_pos hx xs h1 h2]
  unfold hitP
  cases h : xs[posW (place l x) xs]? with
  | none => simp
  | some w => simp only [List.getD_eq_getElem?_getD, h, Option.getD_some, decide_eq_true_eq]
theorem half_ok {lo hi : Nat} (h : hi ≤ 16) (h2 : lo < hi) : IntKind.wrap .i64 ((lo : Int) + (hi : Int)) = ((lo + hi : Nat) : Int) ∧ IntKind.wrap .u64 ((lo + hi : Nat) : Int) = ((lo + hi : Nat) : Int) ∧ ((((lo + hi : Nat) : Int)).fdiv (2 ^ min (1 : Int).toNat (IntKind.bits .u64))) = (((lo + hi) / 2 : Nat) : Int) ∧ IntKind.wrap .i64 (((lo + hi) / 2 : Nat) : Int) = (((lo + hi) / 2 : Nat) : Int) := by
  have key : ∀ n : _root_.Fin 32, IntKind.wrap .i64 ((n.val : Nat) : Int) = ((n.val : Nat) : Int) ∧ IntKind.wrap .u64 ((n.val : Nat) : Int) = ((n.val : Nat) : Int) ∧ (((n.val : Nat) : Int).fdiv (2 ^ min (1 : Int).toNat (IntKind.bits .u64))) = ((n.val / 2 : Nat) : Int) ∧ IntKind.wrap .i64 ((n.val / 2 : Nat) : Int) = ((n.val / 2 : Nat) : Int) := by decide +kernel
  have := key ⟨lo + hi, by omega⟩
  simp only at this
  rw [show (lo : Int) + (hi : Int) = ((lo + hi : Nat) : Int) by omega]
  exact this
theorem ls_bs (i k : Nat) (pf nn p : Bool) (xs : List TWrite) (hw : ∀ w ∈ xs, write1 w = true) (hp : xs.Pairwise (fun a b => plW a < plW b)) (h16 : xs.length ≤ 16) (l x v : Int) (hl : inR l 3 = true) (hx : inR x 3 = true) (q : Out → St → Option Ans) (Q : V → Hp → Nat → Prop)
    (u : Dum (fun s q => evC ctx (Lv ctx (i + 2)) (pureOf (Lv ctx (i + 2))) k c105_1 s (restK [0, 2, 4, 8, 9, 10] q))) (w : Dum q)
    (hend : Fin (q (.exit 0) ⟨ofLive [0, 2, 4, 8, 9] [.isl pf nn 3 (xs.map eWr), .fn (.func 106) [] [], .ip p [iV l, iV x, iV v] 0, iV xs.length, iV (posW (place l x) xs)], emptyHp, 0⟩) Q) :
    ∀ (kk lo hi : Nat), lo ≤ posW (place l x) xs → posW (place l x) xs ≤ hi → hi ≤ xs.length → hi < lo + kk →
    GL 0 [0, 2, 4, 8, 9, 10] (fun s q => evC ctx (Lv ctx (i + 2)) (pureOf (Lv ctx (i + 2))) k c105_1 s (restK [0, 2, 4, 8, 9, 10] q)) q kk ⟨ofLive [0, 2, 4, 8, 9, 10] [.isl pf nn 3 (xs.map eWr), .fn (.func 106) [] [], .ip p [iV l, iV x, iV v] 0, iV xs.length, iV lo, iV hi], emptyHp, 0⟩ Q u w
  | 0, lo, hi, h1, h2, h3, h4 => by omega
  | kk + 1, lo, hi, h1, h2, h3, h4 => by
    by_cases hlt : lo < hi
    · have l0 : decide ((lo : Int) < (hi : Int)) = true := by simpa using hlt
      obtain ⟨g1, g2, g3, g4⟩ := half_ok (by omega) hlt
      have hsh : ∀ t, opBin lay .shr t (.lit (.int .u64 ((lo + hi : Nat) : Int))) (.lit (.int .u64 1)) = some (.lit (.int .u64 (((lo + hi) / 2 : Nat) : Int))) := fun t => by rw [bin_shr (by decide), g3]
      have hml : (lo + hi) / 2 < xs.length := by omega
      have hmlo : lo ≤ (lo + hi) / 2 := by omega
      have hmhi : (lo + hi) / 2 < hi := by omega
      generalize (lo + hi) / 2 = c at g3 g4 hsh hml hmlo hmhi
      generalize ((lo + hi : Nat) : Int) = e at g1 g2 g3 hsh
      have p1 : (0 ≤ (c : Int)) = True := by simp
      have p2 : ((c : Int) < (xs.length : Int)) = True := by simpa using hml
      obtain ⟨b, hb⟩ : ∃ b, xs[c]? = some b := ⟨_, List.getElem?_eq_getElem hml⟩
      have hs := (row_sign (v := v) (hw b (List.mem_of_getElem? hb)) hl hx).1
      have w1 := wrN c (by simp only [BB]; omega)
      by_cases hpb : plW b < place l x
      · have hca : c < posW (place l x) xs := by
          rcases Nat.lt_or_ge c (posW (place l x) xs) with h | h
          · exact h
          · have := pos_ge _ xs hp c b h hb; omega
        have s1 : decide (rowW b ⟨l, x, v⟩ < 0) = true := by rw [hs]; simpa using hpb
        have ih := ls_bs i k pf nn p xs hw hp h16 l x v hl hx q Q u w hend kk (c + 1) hi (by omega) h2 h3 (by omega)
        simp +contextual -dsimp -implicitDefEqProofs (maxSteps := 5000000) only [gLs, ↓un_c (c105_1.eq_1), opConvert, l0, g1, g2, g4, hsh, p1, p2, hb, s1, w1, go_sem, simprocAttr]
        exact (gl_normE (by rfl)).mpr ih
      · have hca : posW (place l x) xs ≤ c := by
          rcases Nat.lt_or_ge c (posW (place l x) xs) with h | h
          · exact absurd (pos_lt _ xs c b h hb) hpb
          · exact h
        have s1 : decide (rowW b ⟨l, x, v⟩ < 0) = false := by rw [hs]; simpa using hpb
        have ih := ls_bs i k pf nn p xs hw hp h16 l x v hl hx q Q u w hend kk lo c h1 hca (by omega) (by omega)
        simp +contextual -dsimp -implicitDefEqProofs (maxSteps := 5000000) only [gLs, ↓un_c (c105_1.eq_1), opConvert, l0, g1, g2, g4, hsh, p1, p2, hb, s1, w1, go_sem, simprocAttr]
        exact (gl_normE (by rfl)).mpr ih
    · have l0 : decide ((lo : Int) < (hi : Int)) = false := by simpa using hlt
      have : lo = posW (place l x) xs := by omega
      subst this
      simp +contextual -dsimp -implicitDefEqProofs (maxSteps := 5000000) only [gLs, ↓un_c (c105_1.eq_1), l0, go_sem, simprocAttr]
      exact hend
theorem s_bs (i : Nat) (pf nn : Bool) (xs : List TWrite) (hm : writesMay xs = true) (l x v : Int) (hl : inR l 3 = true) (hx : inR x 3 = true) : pureOf (Lv ctx (i + 3)) 105 [.isl pf nn 3 (xs.map eWr), .agg [iV l, iV x, iV v], .fn (.func 106) [] []] = some (.tup [iV (posW (place l x) xs), bV (hitP (place l x) xs)]) := by
  obtain ⟨hw, hp, h16⟩ := writes_may hm
  have key := fun p q Q u w hend => ls_bs i 17 pf nn p xs hw hp h16 l x v hl hx q Q u w hend 17 0 xs.length (Nat.zero_le _) (pos_le _ _) (Nat.le_refl _) (by omega)
  simp only [Int.natCast_zero] at key
  have hple := pos_le (place l x) xs
  refine sp_of rfl 17 (by rfl) ?_
  delta c105
  simp +contextual -dsimp -implicitDefEqProofs (maxSteps := 5000000) only [go_sem, simprocAttr]
  refine key _ _ _ _ _ ?_
  unfold hitP
  cases hb : xs[posW (place l x) xs]? with
  | none =>
    have hlen : posW (place l x) xs = xs.length := by
      have := List.getElem?_eq_none_iff.1 hb; omega
    rw [hlen]
    have l0 : decide ((xs.length : Int) < (xs.length : Int)) = false := by simp
    simp +contextual -dsimp -implicitDefEqProofs (maxSteps := 5000000) only [l0, call_undef, go_sem, simprocAttr]
  | some b =>
    have hlen := get_lt hb
    generalize posW (place l x) xs = a at hb hlen
    have l0 : decide ((a : Int) < (xs.length : Int)) = true := by simpa using hlen
    have p1 : (0 ≤ (a : Int)) = True := by simp
    have p2 : ((a : Int) < (xs.length : Int)) = True := by simpa using hlen
    have hs := (row_sign (v := v) (hw b (List.mem_of_getElem? hb)) hl hx).2
    simp +contextual -dsimp -implicitDefEqProofs (maxSteps := 5000000) only [l0, p1, p2, hb, hs, go_sem, simprocAttr]
theorem s_find (i : Nat) (pf nn : Bool) (xs : List TWrite) (hm : writesMay xs = true) (l x : Int) (hl : inR l 3 = true) (hx : inR x 3 = true) : pureOf (Lv ctx (i + 6)) 63 [.isl pf nn 3 (xs.map eWr), iV l, iV x] = some (.tup [iV (findWrite xs l x).1, bV (findWrite xs l x).2]) := by
  have h16 := (writes_may hm).2.2
  have q1 := s_writes (i + 2) pf nn xs (by simp only [BB]; omega)
  have q2 := s_bs (i + (5 - 3)) pf nn xs hm l x 0 hl hx
  rw [hm] at q1
  rw [find_hit hx hm]
  simp only [Nat.add_assoc, Nat.reduceAdd, Nat.reduceSub] at q1 q2
  cases hh : hitP (place l x) xs
  · rw [hh] at q2
    simp only [Bool.false_eq_true, if_false]
    refine sp_of rfl 0 (by rfl) ?_
    delta c63
    simp +contextual -dsimp -implicitDefEqProofs (maxSteps := 5000000) only [q1, q2, go_sem, simprocAttr]
  · rw [hh] at q2
    simp only [if_true]
    unfold hitP at hh
    cases hb : xs[posW (place l x) xs]? with
    | none => rw [hb] at hh; cases hh
    | some b =>
      have hlen := get_lt hb
      simp only [List.getD_eq_getElem?_getD, hb, Option.getD_some]
      generalize posW (place l x) xs = a at q2 hb hlen
      have p1 : (0 ≤ (a : Int)) = True := by simp
      have p2 : ((a : Int) < (xs.length : Int)) = True := by simpa using hlen
      refine sp_of rfl 0 (by rfl) ?_
      delta c63
      simp +contextual -dsimp -implicitDefEqProofs (maxSteps := 5000000) only [q1, q2, p1, p2, hb, go_sem, simprocAttr]
end Ve
