/- Drawn numbers that are cut down and put back are as near as their shift tells; the shift is the least; cut down again they need no greater one. No conditions. -/
import Derived.Test.YtigplfheldfciaaPFnCutDownx
namespace Go.Proofs.Ytigplfheldfciaa.Pure
open Go.RowKit Go.Proofs.Ytigplfheldfciaa.PFnCutDown Go.Proofs.YtigplfheldfciaaW.PrintWords Go.Proofs.YtigplfheldfciaaW.PrintLast Go.Proofs.YtigplfheldfciaaW.PrintMore
set_option linter.unusedVariables false
set_option linter.unusedSimpArgs false

theorem w64 {i : Int} (h0 : -9223372036854775808 ≤ i) (h : i ≤ 9223372036854775807) : wrap64 i = i := by unfold wrap64; omega
theorem rd_get (l : List Int) (i : Nat) (h : i < l.length) : rd l (i : Int) = l[i] := by simp [rd, List.getD_eq_getElem?_getD, h]


theorem all_from (lo hi : Int) (l : List Int) (hl : l.length ≤ 9223372036854775806) (d : Nat) : ∀ (k i : Nat), i ≤ l.length → l.length - i = d → d < k →
    spec_l05All.l0 k l lo hi (i : Int) = some ((l.drop i).all fun x => decide (lo ≤ x) && decide (x ≤ hi)) := by
  induction d with
  | zero =>
    intro k i hi' hd hk
    obtain ⟨k, rfl⟩ : ∃ m, k = m + 1 := ⟨k - 1, by omega⟩
    rw [List.drop_of_length_le (by omega)]
    simp only [spec_l05All.l0]; rw [if_neg (by omega)]; rfl
  | succ d ih =>
    intro k i hi' hd hk
    obtain ⟨k, rfl⟩ : ∃ m, k = m + 1 := ⟨k - 1, by omega⟩
    have hlt : i < l.length := by omega
    simp only [spec_l05All.l0]
    rw [if_pos (by omega), if_pos (by omega), rd_get l i hlt, List.drop_eq_getElem_cons hlt, List.all_cons]
    unfold spec_l01In.f
    by_cases h1 : l[i] ≥ lo
    · rw [if_pos h1]
      simp only [Option.bind_some]
      by_cases h2 : l[i] ≤ hi
      · rw [decide_eq_true h2, if_pos rfl, w64 (by omega) (by omega), show ((i : Int) + 1) = ((i + 1 : Nat) : Int) by omega, ih k (i + 1) (by omega) (by omega) (by omega)]
        simp [h1]
      · rw [decide_eq_false h2]; simp
    · rw [if_neg h1]; simp only [Option.bind_some]; rw [decide_eq_false h1]; simp
/-- spec.l05All: all within. -/
theorem all_tells (lo hi : Int) (l : List Int) (hl : l.length ≤ 9223372036854775806) (k : Nat) (hk : l.length < k) : spec_l05All.f k l lo hi = some (l.all fun x => decide (lo ≤ x) && decide (x ≤ hi)) := by
  unfold spec_l05All.f
  have := all_from lo hi l hl l.length k 0 (by omega) (by omega) hk
  rw [List.drop_zero] at this
  exact this


def clampZ (x m : Int) : Int := if x > m then m else if x < -m then -m else x
theorem impl_clamp (x m : Int) (h : 0 ≤ m) (h2 : m ≤ 1000000000) : impl_Clamp.f x m = some (clampZ x m) := by
  unfold impl_Clamp.f clampZ mx mn
  rw [if_neg (by omega), w64 (by omega) (by omega)]
  congr 1
  repeat' split
  all_goals omega

theorem spec_clamp (x m : Int) (h : 0 ≤ m) (h2 : m ≤ 1000000000) : spec_l03Clamp.f x m = some (clampZ x m) := by
  unfold spec_l03Clamp.f clampZ
  rw [w64 (by omega) (by omega)]
  split
  · rfl
  · split <;> rfl

def vecB (x : List Int) : Bool := decide (1 ≤ x.length) && decide (x.length ≤ 8) && x.all fun z => decide (-127 ≤ z) && decide (z ≤ 127)
theorem vec_at (x : List Int) (h : vecB x = true) (i : Nat) (hi : i < x.length) : -127 ≤ rd x (i : Int) ∧ rd x (i : Int) ≤ 127 := by
  unfold vecB at h
  simp only [Bool.and_eq_true, List.all_eq_true, decide_eq_true_eq] at h
  rw [rd_get x i hi]
  exact h.2 _ (List.getElem_mem hi)

def floorZ (a b : Int) : Int := a.tdiv b + (if a.tmod b < 0 then -1 else 0)
theorem tdiv_bd (a b : Int) (hb : 0 < b) (m : Int) (h0 : -m ≤ a) (h1 : a ≤ m) : -m ≤ a.tdiv b ∧ a.tdiv b ≤ m := by
  rcases Int.le_total 0 a with h | h
  · have e := Int.tdiv_eq_ediv_of_nonneg h (b := b)
    have e1 := Int.ediv_nonneg h (Int.le_of_lt hb)
    have e2 : a / b ≤ a := Int.ediv_le_self b h
    omega
  · have h' : 0 ≤ -a := by omega
    have e := Int.tdiv_eq_ediv_of_nonneg h' (b := b)
    have e1 := Int.ediv_nonneg h' (Int.le_of_lt hb)
    have e2 : -a / b ≤ -a := Int.ediv_le_self b h'
    rw [Int.neg_tdiv] at e
    omega

theorem impl_floor (a b : Int) (hb : 0 < b) (h0 : -1000000000000 ≤ a) (h1 : a ≤ 1000000000000) (k : Nat) (hk : 1 < k) : impl_FloorDiv.f k a b = some (floorZ a b) := by
  obtain ⟨k, rfl⟩ : ∃ m, k = m + 1 := ⟨k - 1, by omega⟩
  have hd := tdiv_bd a b hb 1000000000000 h0 h1
  unfold impl_FloorDiv.f impl_in.f
  rw [if_neg (by omega), if_pos (by omega), decide_eq_true h1, Option.bind_some, impl_FloorDiv.j0, if_neg (by simp), if_neg (by omega), w64 (i := a.tdiv b) (by omega) (by omega), w64 (i := a.tdiv b - 1) (by omega) (by omega)]
  unfold floorZ
  by_cases h : a.tmod b < 0
  · rw [if_pos h, if_pos h]; rfl
  · rw [if_neg h, if_neg h, Int.add_zero]

def pw (s : Int) : Int := 2 ^ s.toNat
theorem pw_pos (s : Int) : 0 < pw s := by unfold pw; exact Int.pow_pos (by omega)
theorem pw_succ (n : Nat) : pw ((n : Int) + 1) = 2 * pw (n : Int) := by
  unfold pw
  rw [show ((n : Int) + 1).toNat = n + 1 by omega, Int.pow_succ, Int.mul_comm, Int.toNat_natCast]
theorem pw_bd (s : Int) (h : s ≤ 24) : pw s ≤ 16777216 := by
  unfold pw
  have : (2 : Nat) ^ s.toNat ≤ 2 ^ 24 := Nat.pow_le_pow_right (by omega) (by omega)
  have h2 : ((2 ^ s.toNat : Nat) : Int) ≤ ((2 ^ 24 : Nat) : Int) := Int.ofNat_le.2 this
  rw [Int.natCast_pow] at h2
  exact h2
theorem pow_from (n : Nat) (hn : n ≤ 24) (d : Nat) : ∀ (k i : Nat), i + d = n → d < k → spec_l03Pow.l0 k (n : Int) (pw (i : Int)) (i : Int) = some (pw (n : Int)) := by
  induction d with
  | zero =>
    intro k i h hk
    obtain ⟨k, rfl⟩ : ∃ m, k = m + 1 := ⟨k - 1, by omega⟩
    obtain rfl : i = n := by omega
    rw [spec_l03Pow.l0, if_neg (by omega)]
  | succ d ih =>
    intro k i h hk
    obtain ⟨k, rfl⟩ : ∃ m, k = m + 1 := ⟨k - 1, by omega⟩
    have h1 := pw_bd (i : Int) (by omega)
    have h2 := pw_pos (i : Int)
    rw [spec_l03Pow.l0, if_pos (by omega), w64 (i := 2 * pw (i : Int)) (by omega) (by omega), w64 (i := (i : Int) + 1) (by omega) (by omega), ← pw_succ]
    exact ih k (i + 1) (by omega) (by omega)
theorem spec_pow (n : Int) (h0 : 0 ≤ n) (h1 : n ≤ 24) (k : Nat) (hk : 24 < k) : spec_l03Pow.f k n = some (pw n) := by
  obtain ⟨n, rfl⟩ := Int.eq_ofNat_of_zero_le h0
  unfold spec_l03Pow.f
  exact pow_from n (by omega) n k 0 (by omega) (by omega)
theorem shl_pw (n : Int) (h0 : 0 ≤ n) (h1 : n ≤ 24) : shl .i64 1 n = pw n := by
  have h2 := pw_bd n h1
  have h3 := pw_pos n
  unfold shl
  rw [show min n.toNat IntKind.i64.bits = n.toNat by rw [Nat.min_eq_left]; show n.toNat ≤ 64; omega, Int.one_mul, IntKind.wrap_i64]
  unfold pw at *
  omega

theorem spec_floor (a b : Int) (hb : 0 < b) (h0 : -4000000000000000000 ≤ a) (h1 : a ≤ 4000000000000000000) : spec_l03Floor.f a b = some (floorZ a b) := by
  have hd := tdiv_bd a b hb 4000000000000000000 h0 h1
  unfold spec_l03Floor.f floorZ
  rw [if_neg (by omega), w64 (i := a.tdiv b) (by omega) (by omega), w64 (i := a.tdiv b - 1) (by omega) (by omega)]
  by_cases h : a.tmod b < 0
  · rw [if_pos h, if_pos h]; rfl
  · rw [if_neg h, if_neg h, Int.add_zero]

def msz (x m s : Int) : Int := floorZ (x * m + (pw s).tdiv 2) (pw s)
theorem half_bd (s : Int) (h : s ≤ 24) : 0 ≤ (pw s).tdiv 2 ∧ (pw s).tdiv 2 ≤ 8388608 := by
  have h1 := pw_bd s h
  have h2 := pw_pos s
  rw [Int.tdiv_eq_ediv_of_nonneg (by omega)]
  omega
theorem spec_ms (x m s : Int) (x0 : -10000000 ≤ x) (x1 : x ≤ 10000000) (m0 : 0 ≤ m) (m1 : m ≤ 65536) (s0 : 0 ≤ s) (s1 : s ≤ 24) (hp : -700000000000 ≤ x * m) (hp2 : x * m ≤ 700000000000) (k : Nat) (hk : 30 < k) : spec_MulShift.f k x m s = some (msz x m s) := by
  obtain ⟨k, rfl⟩ : ∃ m, k = m + 1 := ⟨k - 1, by omega⟩
  have h1 := half_bd s s1
  have h2 := pw_pos s
  have h3 := pw_bd s s1
  unfold spec_MulShift.f spec_l01In.f
  rw [if_pos (by omega), decide_eq_true x1, Option.bind_some, if_pos rfl, if_pos (by omega), decide_eq_true m1, Option.bind_some, if_pos rfl, if_pos (by omega), decide_eq_true s1, Option.bind_some, spec_MulShift.j0, if_neg (by simp), spec_pow s s0 s1 k (by omega), Option.bind_some, Option.bind_some, w64 (i := x * m) (by omega) (by omega), w64 (i := (pw s).tdiv 2) (by omega) (by omega), w64 (i := x * m + (pw s).tdiv 2) (by omega) (by omega), spec_floor _ _ h2 (by omega) (by omega), Option.bind_some]
  rfl
theorem impl_ms (x m s : Int) (x0 : -10000000 ≤ x) (x1 : x ≤ 10000000) (m0 : 0 ≤ m) (m1 : m ≤ 65536) (s0 : 0 ≤ s) (s1 : s ≤ 24) (hp : -700000000000 ≤ x * m) (hp2 : x * m ≤ 700000000000) (k : Nat) (hk : 2 < k) : impl_MulShift.f k x m s = some (msz x m s) := by
  have h1 := half_bd s s1
  have h2 := pw_pos s
  have h3 := pw_bd s s1
  unfold impl_MulShift.f impl_in.f
  rw [if_pos (by omega), decide_eq_true x1, Option.bind_some, if_pos rfl, if_pos (by omega), decide_eq_true m1, Option.bind_some, if_pos rfl, if_pos (by omega), decide_eq_true s1, Option.bind_some, if_pos rfl, if_pos s0, shl_pw s s0 s1, w64 (i := x * m) (by omega) (by omega), w64 (i := (pw s).tdiv 2) (by omega) (by omega), w64 (i := x * m + (pw s).tdiv 2) (by omega) (by omega), impl_floor _ _ h2 (by omega) (by omega) k (by omega), Option.bind_some]
  rfl

def fitsB (x : List Int) (s : Int) : Bool := x.all fun z => decide (-15 ≤ msz z 1 s) && decide (msz z 1 s ≤ 15)
def cutL (x : List Int) (s : Int) : List Int := x.map fun z => clampZ (msz z 1 s) 15
theorem cutL_snoc (x : List Int) (i : Nat) (hlt : i < x.length) (s : Int) : cutL (x.take (i + 1)) s = cutL (x.take i) s ++ [clampZ (msz x[i] 1 s) 15] := by
  rw [List.take_succ_eq_append_getElem hlt]; unfold cutL; rw [List.map_append]; rfl
def leastS (x : List Int) : Nat → Int → Int
  | 0, s => s
  | d + 1, s => if fitsB x s = true then s else leastS x d (s + 1)
theorem leastS_bd (x : List Int) (d : Nat) : ∀ s, s ≤ leastS x d s ∧ leastS x d s ≤ s + d := by
  induction d with
  | zero => intro s; unfold leastS; omega
  | succ d ih => intro s; unfold leastS; have := ih (s + 1); split <;> omega
def cutOf (x : List Int) : Int × List Int × Bool := if vecB x = true then (leastS x 4 0, cutL x (leastS x 4 0), true) else (0, [], false)
theorem cutOf_len (x : List Int) : (cutOf x).2.1.length ≤ x.length := by unfold cutOf; split <;> simp [cutL]
theorem vec_mem (x : List Int) (h : vecB x = true) : ∀ z ∈ x, -127 ≤ z ∧ z ≤ 127 := by
  unfold vecB at h
  simp only [Bool.and_eq_true, List.all_eq_true, decide_eq_true_eq] at h
  exact h.2
theorem vec_len (x : List Int) (h : vecB x = true) : 1 ≤ x.length ∧ x.length ≤ 8 := by
  unfold vecB at h
  simp only [Bool.and_eq_true, decide_eq_true_eq] at h
  exact h.1
theorem fits_from (x : List Int) (h : vecB x = true) (s : Int) (s0 : 0 ≤ s) (s1 : s ≤ 4) (d : Nat) : ∀ (k i : Nat), i + d = x.length → d + 40 < k →
    spec_l14Fits.l0 k x s (i : Int) = some (fitsB (x.drop i) s) := by
  have hl := vec_len x h
  induction d with
  | zero =>
    intro k i hi hk
    obtain ⟨k, rfl⟩ : ∃ m, k = m + 1 := ⟨k - 1, by omega⟩
    rw [spec_l14Fits.l0, if_neg (by omega), List.drop_of_length_le (by omega)]; rfl
  | succ d ih =>
    intro k i hi hk
    obtain ⟨k, rfl⟩ : ∃ m, k = m + 1 := ⟨k - 1, by omega⟩
    have hlt : i < x.length := by omega
    have hz := vec_mem x h _ (List.getElem_mem hlt)
    rw [spec_l14Fits.l0, if_pos (by omega), if_pos (by omega), rd_get x i hlt, spec_ms _ 1 s (by omega) (by omega) (by omega) (by omega) s0 (by omega) (by omega) (by omega) k (by omega), Option.bind_some, List.drop_eq_getElem_cons hlt]
    unfold spec_l01In.f
    unfold fitsB at ih ⊢
    rw [List.all_cons]
    by_cases h1 : msz x[i] 1 s ≥ -15
    · rw [if_pos h1, Option.bind_some]
      by_cases h2 : msz x[i] 1 s ≤ 15
      · rw [decide_eq_true h2, if_pos rfl, w64 (by omega) (by omega), show ((i : Int) + 1) = ((i + 1 : Nat) : Int) by omega, ih k (i + 1) (by omega) (by omega), decide_eq_true (show -15 ≤ msz x[i] 1 s from h1)]; rfl
      · rw [decide_eq_false h2, if_neg (by simp)]; simp
    · rw [if_neg h1, Option.bind_some, if_neg (by simp), decide_eq_false (show ¬ -15 ≤ msz x[i] 1 s from h1)]; rfl
theorem spec_fits (x : List Int) (h : vecB x = true) (s : Int) (s0 : 0 ≤ s) (s1 : s ≤ 4) (k : Nat) (hk : 50 < k) : spec_l14Fits.f k x s = some (fitsB x s) := by
  have hl := vec_len x h
  unfold spec_l14Fits.f
  exact fits_from x h s s0 s1 x.length k 0 (by omega) (by omega)
theorem cut1_from (x : List Int) (h : vecB x = true) (s : Int) (s0 : 0 ≤ s) (s1 : s ≤ 4) (a : Int) (d : Nat) : ∀ (k i : Nat), i + d = x.length → d + 40 < k →
    spec_CutDown.l1 k x s (i : Int) a (cutL (x.take i) s) = some (a, cutL x s, true) := by
  have hl := vec_len x h
  induction d with
  | zero =>
    intro k i hi hk
    obtain ⟨k, rfl⟩ : ∃ m, k = m + 1 := ⟨k - 1, by omega⟩
    rw [spec_CutDown.l1, if_neg (by omega), List.take_of_length_le (by omega)]
  | succ d ih =>
    intro k i hi hk
    obtain ⟨k, rfl⟩ : ∃ m, k = m + 1 := ⟨k - 1, by omega⟩
    have hlt : i < x.length := by omega
    have hz := vec_mem x h _ (List.getElem_mem hlt)
    rw [spec_CutDown.l1, if_pos (by omega), if_pos (by omega), rd_get x i hlt, spec_ms _ 1 s (by omega) (by omega) (by omega) (by omega) s0 (by omega) (by omega) (by omega) k (by omega), Option.bind_some, spec_clamp _ 15 (by omega) (by omega), Option.bind_some, if_pos (by simp [cutL]; omega), w64 (by omega) (by omega), show ((i : Int) + 1) = ((i + 1 : Nat) : Int) by omega]
    have := ih k (i + 1) (by omega) (by omega)
    rw [cutL_snoc x i hlt s] at this
    exact this
theorem spec_cut_from (x : List Int) (h : vecB x = true) (d : Nat) : ∀ (k : Nat) (s : Int), 0 ≤ s → s + d = 4 → d + 60 < k →
    spec_CutDown.l0 k x s = some (leastS x d s, cutL x (leastS x d s), true) := by
  have hl := vec_len x h
  have hj2 : ∀ (k : Nat) (s : Int), 0 ≤ s → s ≤ 4 → 55 < k → spec_CutDown.j2 k x s = some (s, cutL x s, true) := by
    intro k s s0 s1 hk
    obtain ⟨k, rfl⟩ : ∃ m, k = m + 1 := ⟨k - 1, by omega⟩
    rw [spec_CutDown.j2]
    exact cut1_from x h s s0 s1 s x.length k 0 (by omega) (by omega)
  induction d with
  | zero =>
    intro k s s0 hs hk
    obtain ⟨k, rfl⟩ : ∃ m, k = m + 1 := ⟨k - 1, by omega⟩
    rw [spec_CutDown.l0, if_neg (by omega), hj2 k s s0 (by omega) (by omega)]; rfl
  | succ d ih =>
    intro k s s0 hs hk
    obtain ⟨k, rfl⟩ : ∃ m, k = m + 1 := ⟨k - 1, by omega⟩
    rw [spec_CutDown.l0, if_pos (by omega), spec_fits x h s s0 (by omega) k (by omega), Option.bind_some]
    unfold leastS
    by_cases hf : fitsB x s = true
    · rw [if_pos hf, if_pos hf, hj2 k s s0 (by omega) (by omega)]
    · rw [if_neg hf, if_neg hf, w64 (by omega) (by omega)]
      exact ih k (s + 1) (by omega) (by omega) (by omega)
theorem vec_in (x : List Int) (hl : x.length ≤ 1048576) : ∀ k, x.length < k → ((spec_l01In.f (x.length : Int) 1 8).bind fun t => if t = true then (spec_l05All.f k x (-127) 127) else some false) = some (vecB x) := by
  intro k hk
  unfold spec_l01In.f vecB
  by_cases h1 : (x.length : Int) ≥ 1
  · rw [if_pos h1, Option.bind_some]
    by_cases h2 : (x.length : Int) ≤ 8
    · rw [decide_eq_true h2, if_pos rfl, all_tells (-127) 127 x (by omega) k hk, decide_eq_true (show 1 ≤ x.length by omega), decide_eq_true (show x.length ≤ 8 by omega)]; rfl
    · rw [decide_eq_false h2, if_neg (by simp), decide_eq_false (show ¬ x.length ≤ 8 by omega)]; simp
  · rw [if_neg h1, Option.bind_some, if_neg (by simp), decide_eq_false (show ¬ 1 ≤ x.length by omega)]; rfl
theorem spec_cutdown (x : List Int) (hl : x.length ≤ 1048576) (k : Nat) (hk : x.length + 80 < k) : spec_CutDown.f k x = some (cutOf x) := by
  obtain ⟨k, rfl⟩ : ∃ m, k = m + 1 := ⟨k - 1, by omega⟩
  unfold spec_CutDown.f spec_l01In.f cutOf
  by_cases h1 : (x.length : Int) ≥ 1
  · rw [if_pos h1, Option.bind_some]
    by_cases h2 : (x.length : Int) ≤ 8
    · rw [decide_eq_true h2, if_pos rfl, all_tells (-127) 127 x (by omega) _ (by omega), Option.bind_some, spec_CutDown.j0]
      have hv : (x.all fun z => decide (-127 ≤ z) && decide (z ≤ 127)) = vecB x := by
        unfold vecB; rw [decide_eq_true (show 1 ≤ x.length by omega), decide_eq_true (show x.length ≤ 8 by omega)]; rfl
      rw [hv]
      by_cases hb : vecB x = true
      · rw [if_neg (by simp [hb]), if_pos hb]
        exact spec_cut_from x hb 4 k 0 (by omega) (by omega) (by omega)
      · rw [if_pos (by simpa using hb), if_neg hb]
    · rw [decide_eq_false h2, if_neg (by simp), spec_CutDown.j0, if_pos rfl, if_neg (fun h => by have := vec_len x h; omega)]
  · rw [if_neg h1, Option.bind_some, if_neg (by simp), spec_CutDown.j0, if_pos rfl, if_neg (fun h => by have := vec_len x h; omega)]
theorem impl_cut_from (x : List Int) (h : vecB x = true) (s : Int) (s0 : 0 ≤ s) (s1 : s ≤ 4) (d : Nat) : ∀ (k i : Nat) (p : Bool), i + d = x.length → d + 20 < k → p = fitsB (x.take i) s →
    impl_cut.l0 k s (cutL (x.take i) s) p x (x.length : Int) (i : Int) = some (cutL x s, fitsB x s) := by
  have hl := vec_len x h
  induction d with
  | zero =>
    intro k i p hi hk hp
    obtain ⟨k, rfl⟩ : ∃ m, k = m + 1 := ⟨k - 1, by omega⟩
    rw [impl_cut.l0, if_neg (by omega), hp, List.take_of_length_le (by omega)]
  | succ d ih =>
    intro k i p hi hk hp
    obtain ⟨k, rfl⟩ : ∃ m, k = m + 1 := ⟨k - 1, by omega⟩
    have hlt : i < x.length := by omega
    have hz := vec_mem x h _ (List.getElem_mem hlt)
    have hcut : cutL (x.take i) s ++ [clampZ (msz x[i] 1 s) 15] = cutL (x.take (i + 1)) s := (cutL_snoc x i hlt s).symm
    have hfit : fitsB (x.take (i + 1)) s = (fitsB (x.take i) s && (decide (-15 ≤ msz x[i] 1 s) && decide (msz x[i] 1 s ≤ 15))) := by
      rw [List.take_succ_eq_append_getElem hlt]; unfold fitsB; rw [List.all_append, List.all_cons, List.all_nil, Bool.and_true]
    rw [impl_cut.l0, if_pos (by omega), if_pos (by omega), if_pos (by omega), rd_get x i hlt, impl_ms _ 1 s (by omega) (by omega) (by omega) (by omega) s0 (by omega) (by omega) (by omega) k (by omega), Option.bind_some, impl_clamp _ 15 (by omega) (by omega), Option.bind_some, if_pos (by simp [cutL]; omega), Option.bind_some, hcut, w64 (by omega) (by omega), show ((i : Int) + 1) = ((i + 1 : Nat) : Int) by omega]
    by_cases hp' : p = true
    · rw [if_pos hp']
      unfold impl_in.f
      rw [hp'] at hp
      by_cases h1 : msz x[i] 1 s ≥ -15
      · rw [if_pos h1, Option.bind_some]
        exact ih k (i + 1) _ (by omega) (by omega) (by rw [hfit, ← hp, decide_eq_true (show -15 ≤ msz x[i] 1 s from h1)]; rfl)
      · rw [if_neg h1, Option.bind_some]
        exact ih k (i + 1) _ (by omega) (by omega) (by rw [hfit, decide_eq_false (show ¬ -15 ≤ msz x[i] 1 s from h1)]; simp)
    · rw [if_neg hp']
      have hp'' : p = false := by simpa using hp'
      exact ih k (i + 1) _ (by omega) (by omega) (by rw [hfit, ← hp, hp'']; rfl)
theorem impl_cut_tells (x : List Int) (h : vecB x = true) (s : Int) (s0 : 0 ≤ s) (s1 : s ≤ 4) (k : Nat) (hk : 30 < k) : impl_cut.f k x s = some (cutL x s, fitsB x s) := by
  have hl := vec_len x h
  unfold impl_cut.f
  exact impl_cut_from x h s s0 s1 x.length k 0 true (by omega) (by omega) rfl
theorem impl_cutd_from (x : List Int) (h : vecB x = true) (d : Nat) : ∀ (k : Nat) (s : Int), 0 ≤ s → s + d = 4 → d + 60 < k →
    impl_CutDown.l0 k x s = some (leastS x d s, cutL x (leastS x d s), true) := by
  induction d with
  | zero =>
    intro k s s0 hs hk
    obtain ⟨k, rfl⟩ : ∃ m, k = m + 1 := ⟨k - 1, by omega⟩
    rw [impl_CutDown.l0, impl_cut_tells x h s s0 (by omega) k (by omega), Option.bind_some]
    unfold leastS
    by_cases hf : fitsB x s = true
    · rw [if_pos hf]
    · rw [if_neg hf, if_pos (by omega)]
  | succ d ih =>
    intro k s s0 hs hk
    obtain ⟨k, rfl⟩ : ∃ m, k = m + 1 := ⟨k - 1, by omega⟩
    rw [impl_CutDown.l0, impl_cut_tells x h s s0 (by omega) k (by omega), Option.bind_some]
    unfold leastS
    by_cases hf : fitsB x s = true
    · rw [if_pos hf, if_pos hf]
    · rw [if_neg hf, if_neg hf, if_neg (by omega), w64 (by omega) (by omega)]
      exact ih k (s + 1) (by omega) (by omega) (by omega)
theorem impl_cutdown (x : List Int) (hl : x.length ≤ 1048576) (k : Nat) (hk : x.length + 80 < k) : impl_CutDown.f k x = some (cutOf x) := by
  obtain ⟨k, rfl⟩ : ∃ m, k = m + 1 := ⟨k - 1, by omega⟩
  unfold impl_CutDown.f impl_in.f impl_allIn.f cutOf
  by_cases h1 : (x.length : Int) ≥ 1
  · rw [if_pos h1, Option.bind_some]
    by_cases h2 : (x.length : Int) ≤ 8
    · rw [decide_eq_true h2, if_pos rfl, Option.bind_some, impl_CutDown.j0]
      have hv : (x.all fun z => decide (-127 ≤ z) && decide (z ≤ 127)) = vecB x := by
        unfold vecB; rw [decide_eq_true (show 1 ≤ x.length by omega), decide_eq_true (show x.length ≤ 8 by omega)]; rfl
      rw [hv]
      by_cases hb : vecB x = true
      · rw [if_neg (by simp [hb]), if_pos hb]
        exact impl_cutd_from x hb 4 k 0 (by omega) (by omega) (by omega)
      · rw [if_pos (by simpa using hb), if_neg hb]
    · rw [decide_eq_false h2, if_neg (by simp), impl_CutDown.j0, if_pos rfl, if_neg (fun h => by have := vec_len x h; omega)]
  · rw [if_neg h1, Option.bind_some, if_neg (by simp), impl_CutDown.j0, if_pos rfl, if_neg (fun h => by have := vec_len x h; omega)]

theorem zp_bd (z s : Int) (h0 : -15 ≤ z) (h1 : z ≤ 15) (s0 : 0 ≤ s) (s1 : s ≤ 4) : -240 ≤ z * pw s ∧ z * pw s ≤ 240 := by
  have : s = 0 ∨ s = 1 ∨ s = 2 ∨ s = 3 ∨ s = 4 := by omega
  rcases this with rfl | rfl | rfl | rfl | rfl
  · rw [show pw 0 = 1 from rfl]; omega
  · rw [show pw 1 = 2 from rfl]; omega
  · rw [show pw 2 = 4 from rfl]; omega
  · rw [show pw 3 = 8 from rfl]; omega
  · rw [show pw 4 = 16 from rfl]; omega
theorem shl_mul (z s : Int) (h0 : -15 ≤ z) (h1 : z ≤ 15) (s0 : 0 ≤ s) (s1 : s ≤ 4) : shl .i64 z s = z * pw s := by
  have h := zp_bd z s h0 h1 s0 s1
  unfold shl
  rw [show min s.toNat IntKind.i64.bits = s.toNat by rw [Nat.min_eq_left]; show s.toNat ≤ 64; omega, IntKind.wrap_i64]
  unfold pw at *
  omega
def keptB (s : Int) (l : List Int) : Bool := decide (0 ≤ s) && decide (s ≤ 4) && decide (1 ≤ l.length) && decide (l.length ≤ 8) && l.all fun z => decide (-15 ≤ z) && decide (z ≤ 15)
def putL (s : Int) (l : List Int) : List Int := l.map fun z => clampZ (z * pw s) 127
def putOf (s : Int) (l : List Int) : List Int × Bool := if keptB s l = true then (putL s l, true) else ([], false)
theorem putOf_len (s : Int) (l : List Int) : (putOf s l).1.length ≤ l.length := by unfold putOf; split <;> simp [putL]
theorem putL_snoc (s : Int) (l : List Int) (i : Nat) (h : i < l.length) : putL s (l.take (i + 1)) = putL s (l.take i) ++ [clampZ (l[i] * pw s) 127] := by
  rw [List.take_succ_eq_append_getElem h]; unfold putL; rw [List.map_append]; rfl
theorem kept_facts (s : Int) (l : List Int) (h : keptB s l = true) : 0 ≤ s ∧ s ≤ 4 ∧ 1 ≤ l.length ∧ l.length ≤ 8 ∧ ∀ z ∈ l, -15 ≤ z ∧ z ≤ 15 := by
  unfold keptB at h
  simp only [Bool.and_eq_true, List.all_eq_true, decide_eq_true_eq] at h
  exact ⟨h.1.1.1.1, h.1.1.1.2, h.1.1.2, h.1.2, h.2⟩
theorem impl_put_from (s : Int) (l : List Int) (h : keptB s l = true) (d : Nat) : ∀ (k i : Nat), i + d = l.length → d + 30 < k →
    impl_PutBack.l0 k (putL s (l.take i)) l (l.length : Int) (i : Int) s l = some (putL s l, true) := by
  obtain ⟨s0, s1, l0, l1, hz⟩ := kept_facts s l h
  induction d with
  | zero =>
    intro k i hi hk
    obtain ⟨k, rfl⟩ : ∃ m, k = m + 1 := ⟨k - 1, by omega⟩
    rw [impl_PutBack.l0, if_neg (by omega), List.take_of_length_le (by omega)]
  | succ d ih =>
    intro k i hi hk
    obtain ⟨k, rfl⟩ : ∃ m, k = m + 1 := ⟨k - 1, by omega⟩
    have hlt : i < l.length := by omega
    have hzi := hz _ (List.getElem_mem hlt)
    have hb := zp_bd l[i] s hzi.1 hzi.2 s0 s1
    rw [impl_PutBack.l0, if_pos (by omega), if_pos (by omega), if_pos (by omega), if_pos s0, rd_get l i hlt, shl_mul _ s hzi.1 hzi.2 s0 s1, impl_clamp _ 127 (by omega) (by omega), Option.bind_some, if_pos (by simp [putL]; omega), w64 (by omega) (by omega), show ((i : Int) + 1) = ((i + 1 : Nat) : Int) by omega, ← putL_snoc s l i hlt]
    exact ih k (i + 1) (by omega) (by omega)
theorem keptB_no (s : Int) (l : List Int) (h : ¬ (0 ≤ s ∧ s ≤ 4 ∧ 1 ≤ l.length ∧ l.length ≤ 8)) : ¬ keptB s l = true := fun g => by
  obtain ⟨a, b, c, d, _⟩ := kept_facts s l g
  exact h ⟨a, b, c, d⟩
theorem keptB_all (s : Int) (l : List Int) (h : 0 ≤ s ∧ s ≤ 4 ∧ 1 ≤ l.length ∧ l.length ≤ 8) : (l.all fun z => decide (-15 ≤ z) && decide (z ≤ 15)) = keptB s l := by
  unfold keptB; simp [h.1, h.2.1, h.2.2.1, h.2.2.2]
theorem impl_put (s : Int) (l : List Int) (hl : l.length ≤ 1048576) (k : Nat) (hk : l.length + 50 < k) : impl_PutBack.f k s l = some (putOf s l) := by
  obtain ⟨k, rfl⟩ : ∃ m, k = m + 1 := ⟨k - 1, by omega⟩
  unfold impl_PutBack.f impl_in.f impl_allIn.f putOf
  by_cases h1 : s ≥ 0
  · rw [if_pos h1, Option.bind_some]
    by_cases h2 : s ≤ 4
    · rw [decide_eq_true h2, if_pos rfl]
      by_cases h3 : (l.length : Int) ≥ 1
      · rw [if_pos h3, Option.bind_some]
        by_cases h4 : (l.length : Int) ≤ 8
        · rw [decide_eq_true h4, if_pos rfl, Option.bind_some, keptB_all s l ⟨h1, h2, by omega, by omega⟩, impl_PutBack.j0]
          by_cases hb : keptB s l = true
          · rw [if_neg (by simp [hb]), if_pos hb]
            exact impl_put_from s l hb l.length k 0 (by omega) (by omega)
          · rw [if_pos (by simpa using hb), if_neg hb]
        · rw [decide_eq_false h4, if_neg (by simp), impl_PutBack.j0, if_pos rfl, if_neg (keptB_no s l (by omega))]
      · rw [if_neg h3, Option.bind_some, if_neg (by simp), impl_PutBack.j0, if_pos rfl, if_neg (keptB_no s l (by omega))]
    · rw [decide_eq_false h2, if_neg (by simp), impl_PutBack.j0, if_pos rfl, if_neg (keptB_no s l (by omega))]
  · rw [if_neg h1, Option.bind_some, if_neg (by simp), impl_PutBack.j0, if_pos rfl, if_neg (keptB_no s l (by omega))]

theorem and_small (m : Nat) (hm : m < 9223372036854775808) (x : Int) : 0 ≤ Go.bits .and .i64 x (m : Int) ∧ Go.bits .and .i64 x (m : Int) ≤ (m : Int) := by
  simp only [Go.bits, BitVec.toNat_and]
  have h1 : (BitVec.ofInt IntKind.i64.bits x).toNat &&& (BitVec.ofInt IntKind.i64.bits (m : Int)).toNat ≤ m := by
    refine Nat.le_trans Nat.and_le_right ?_
    rw [BitVec.ofInt_natCast, BitVec.toNat_ofNat]
    exact Nat.mod_le _ _
  generalize (BitVec.ofInt IntKind.i64.bits x).toNat &&& (BitVec.ofInt IntKind.i64.bits (m : Int)).toNat = y at h1
  rw [IntKind.wrap_i64]
  omega
/-- A cursor's place. -/
def Cu (b : List Int) (i : Int) : Prop := 0 ≤ i ∧ i ≤ (b.length : Int) ∧ b.length ≤ 1048576
theorem byte_tells (b : List Int) (i h : Int) (hc : Cu b i) : ∃ v i' h', spec_l01Byte.f b i h = some (v, i', h') ∧ 0 ≤ v ∧ v ≤ 255 ∧ Cu b i' := by
  obtain ⟨h0, h1, h2⟩ := hc
  unfold spec_l01Byte.f
  by_cases hl : i < (b.length : Int)
  · rw [if_pos hl, if_pos h0, w64 (i := i + 1) (by omega) (by omega)]
    exact ⟨_, _, _, rfl, (and_small 255 (by decide) _).1, (and_small 255 (by decide) _).2, by omega, by omega, h2⟩
  · rw [if_neg hl]
    exact ⟨_, _, _, rfl, (and_small 255 (by decide) _).1, (and_small 255 (by decide) _).2, h0, h1, h2⟩
theorem below_tells (b : List Int) (i h : Int) (hc : Cu b i) (n : Int) (hn : 0 < n) (hn2 : n ≤ 4294967296) : ∃ v i' h', spec_l01Below.f b i h n = some (v, i', h') ∧ 0 ≤ v ∧ v < n ∧ Cu b i' := by
  unfold spec_l01Below.f
  rw [if_neg (by omega)]
  obtain ⟨v, i', h', e, v0, v1, hc'⟩ := byte_tells b i h hc
  by_cases h256 : n ≤ 256
  · rw [if_pos h256, e]
    simp only [Option.bind_some]
    rw [if_neg (by omega), Int.tmod_eq_emod_of_nonneg v0]
    exact ⟨_, _, _, rfl, Int.emod_nonneg _ (by omega), Int.emod_lt_of_pos _ hn, hc'⟩
  · obtain ⟨v2, i2, h2, e2, v20, v21, hc2⟩ := byte_tells b i' h' hc'
    obtain ⟨v3, i3, h3, e3, v30, v31, hc3⟩ := byte_tells b i2 h2 hc2
    obtain ⟨v4, i4, h4, e4, v40, v41, hc4⟩ := byte_tells b i3 h3 hc3
    rw [if_neg h256, e]
    simp only [Option.bind_some, e2, e3, e4]
    rw [if_neg (by omega), w64 (i := v * 16777216) (by omega) (by omega), w64 (i := v2 * 65536) (by omega) (by omega), w64 (i := v3 * 256) (by omega) (by omega), w64 (i := v * 16777216 + v2 * 65536) (by omega) (by omega), w64 (i := v * 16777216 + v2 * 65536 + v3 * 256) (by omega) (by omega), w64 (by omega) (by omega), Int.tmod_eq_emod_of_nonneg (by omega)]
    exact ⟨_, _, _, rfl, Int.emod_nonneg _ (by omega), Int.emod_lt_of_pos _ hn, hc4⟩
/-- a number of at most 0: nothing is drawn -/
theorem below_none (b : List Int) (i h : Int) (n : Int) (hn : n ≤ 0) : spec_l01Below.f b i h n = some (0, i, h) := by
  unfold spec_l01Below.f
  rw [if_pos hn]

theorem x_from (b : List Int) (n : Nat) (hn : n ≤ 100000) (d : Nat) : ∀ (k j : Nat) (acc : List Int) (i h : Int), j + d = n → acc.length = j → d < k → Cu b i → (∀ z ∈ acc, -127 ≤ z ∧ z ≤ 127) →
    ∃ r i' h', (∀ k', d < k' → spec_l05X.l0 k' (n : Int) acc (j : Int) b i h = some (r, i', h')) ∧ r.length = n ∧ (∀ z ∈ r, -127 ≤ z ∧ z ≤ 127) ∧ Cu b i' := by
  induction d with
  | zero =>
    intro k j acc i h hj ha hk hc hz
    refine ⟨acc, i, h, fun k' hk' => ?_, by omega, hz, hc⟩
    obtain ⟨k', rfl⟩ : ∃ m, k' = m + 1 := ⟨k' - 1, by omega⟩
    simp only [spec_l05X.l0]; rw [if_neg (by omega)]
  | succ d ih =>
    intro k j acc i h hj ha hk hc hz
    obtain ⟨v, i1, h1, e, v0, v1, hc1⟩ := below_tells b i h hc 255 (by omega) (by omega)
    obtain ⟨r, i', h', hr, hl, hz', hc'⟩ := ih (k - 1) (j + 1) (acc ++ [v - 127]) i1 h1 (by omega) (by simp; omega) (by omega) hc1 (fun z hz1 => by
      rcases List.mem_append.1 hz1 with h | h
      · exact hz z h
      · rw [List.mem_singleton.1 h]; omega)
    refine ⟨r, i', h', fun k' hk' => ?_, hl, hz', hc'⟩
    obtain ⟨k', rfl⟩ : ∃ m, k' = m + 1 := ⟨k' - 1, by omega⟩
    simp only [spec_l05X.l0]
    rw [if_pos (by omega), e]
    simp only [Option.bind_some]
    rw [if_pos (by omega), w64 (i := v - 127) (by omega) (by omega), w64 (by omega) (by omega), show ((j : Int) + 1) = ((j + 1 : Nat) : Int) by omega]
    exact hr k' (by omega)
theorem x_tells (b : List Int) (i h : Int) (hc : Cu b i) (n : Int) (h0 : 0 ≤ n) (hn : n ≤ 100000) : ∃ r i' h', (∀ k, n.toNat < k → spec_l05X.f k b i h n = some (r, i', h')) ∧ (r.length : Int) = n ∧ (∀ z ∈ r, -127 ≤ z ∧ z ≤ 127) ∧ Cu b i' := by
  obtain ⟨m, rfl⟩ := Int.eq_ofNat_of_zero_le h0
  obtain ⟨r, i', h', hr, hl, hz, hc'⟩ := x_from b m (by omega) m (m + 1) 0 [] i h (by omega) rfl (by omega) hc (fun z hz => by cases hz)
  refine ⟨r, i', h', fun k hk => ?_, by omega, hz, hc'⟩
  unfold spec_l05X.f
  exact hr k (by omega)

theorem once_tells (b : List Int) (i h : Int) (hc : Cu b i) (n : Int) (hn : 0 < n) (hn2 : n ≤ 4294967296) : ∃ v i' h', spec_l01Once.f b i h n = some (v, i', h') ∧ Cu b i' := by
  obtain ⟨v, i', h', e, v0, v1, hc'⟩ := below_tells b i h hc n hn hn2
  unfold spec_l01Once.f
  rw [e, Option.bind_some]
  exact ⟨_, _, _, rfl, hc'⟩

/-- the sum of it, for one number and one shift. -/
def nearB (z s : Int) : Bool :=
  let v := msz z 1 s; let y := clampZ (clampZ v 15 * pw s) 127
  (!(decide (-15 ≤ v) && decide (v ≤ 15)) || (decide (y - z ≤ pw s) && decide (z - y ≤ pw s) && (decide (s ≠ 0) || decide (y = z)) && decide (-15 ≤ msz y 1 s) && decide (msz y 1 s ≤ 15))) && (decide (s ≠ 4) || (decide (-15 ≤ v) && decide (v ≤ 15)))
theorem near_all : ∀ s : Fin 5, ∀ z : Fin 255, nearB ((z.val : Int) - 127) (s.val : Int) = true := by decide +kernel
theorem near_at (z s : Int) (h0 : -127 ≤ z) (h1 : z ≤ 127) (s0 : 0 ≤ s) (s1 : s ≤ 4) : nearB z s = true := by
  have h := near_all ⟨s.toNat, by omega⟩ ⟨(z + 127).toNat, by omega⟩
  have e1 : (((z + 127).toNat : Nat) : Int) - 127 = z := by omega
  have e2 : ((s.toNat : Nat) : Int) = s := by omega
  dsimp only at h
  rw [e1, e2] at h
  exact h
theorem near_facts (z s : Int) (h0 : -127 ≤ z) (h1 : z ≤ 127) (s0 : 0 ≤ s) (s1 : s ≤ 4) (hv : -15 ≤ msz z 1 s ∧ msz z 1 s ≤ 15) :
    clampZ (clampZ (msz z 1 s) 15 * pw s) 127 - z ≤ pw s ∧ z - clampZ (clampZ (msz z 1 s) 15 * pw s) 127 ≤ pw s ∧ (s = 0 → clampZ (clampZ (msz z 1 s) 15 * pw s) 127 = z) ∧ -15 ≤ msz (clampZ (clampZ (msz z 1 s) 15 * pw s) 127) 1 s ∧ msz (clampZ (clampZ (msz z 1 s) 15 * pw s) 127) 1 s ≤ 15 := by
  have h := near_at z s h0 h1 s0 s1
  unfold nearB at h
  dsimp only at h
  rw [Bool.and_eq_true, Bool.or_eq_true] at h
  rcases h.1 with h | h
  · rw [decide_eq_true hv.1, decide_eq_true hv.2] at h; cases h
  · simp only [Bool.and_eq_true, Bool.or_eq_true, decide_eq_true_eq] at h
    exact ⟨h.1.1.1.1, h.1.1.1.2, fun e => by rcases h.1.1.2 with g | g; exact absurd e g; exact g, h.1.2, h.2⟩
theorem near_four (z : Int) (h0 : -127 ≤ z) (h1 : z ≤ 127) : -15 ≤ msz z 1 4 ∧ msz z 1 4 ≤ 15 := by
  have h := near_at z 4 h0 h1 (by omega) (by omega)
  unfold nearB at h
  dsimp only at h
  rw [Bool.and_eq_true] at h
  have h := h.2
  simpa using h
theorem fits_mem (x : List Int) (s : Int) (h : fitsB x s = true) : ∀ z ∈ x, -15 ≤ msz z 1 s ∧ msz z 1 s ≤ 15 := by
  unfold fitsB at h
  simp only [List.all_eq_true, Bool.and_eq_true, decide_eq_true_eq] at h
  exact h
theorem mem_fits (x : List Int) (s : Int) (h : ∀ z ∈ x, -15 ≤ msz z 1 s ∧ msz z 1 s ≤ 15) : fitsB x s = true := by
  unfold fitsB
  simp only [List.all_eq_true, Bool.and_eq_true, decide_eq_true_eq]
  exact h
theorem least_fits (x : List Int) (hx : ∀ z ∈ x, -127 ≤ z ∧ z ≤ 127) : ∀ (d : Nat) (s : Int), s + (d : Int) = 4 → fitsB x (leastS x d s) = true
  | 0, s, h => by
    obtain rfl : s = 4 := by omega
    exact mem_fits x 4 fun z hz => near_four z (hx z hz).1 (hx z hz).2
  | d + 1, s, h => by
    unfold leastS
    by_cases g : fitsB x s = true
    · rw [if_pos g]; exact g
    · rw [if_neg g]; exact least_fits x hx d (s + 1) (by omega)
theorem least_le (y : List Int) (t : Int) (hf : fitsB y t = true) : ∀ (d : Nat) (s : Int), s ≤ t → t ≤ s + (d : Int) → leastS y d s ≤ t
  | 0, s, h1, h2 => by unfold leastS; omega
  | d + 1, s, h1, h2 => by
    unfold leastS
    by_cases g : fitsB y s = true
    · rw [if_pos g]; exact h1
    · rw [if_neg g]
      by_cases e : s = t
      · rw [e] at g; exact absurd hf g
      · exact least_le y t hf d (s + 1) (by omega) (by omega)
theorem clamp_bd (v m : Int) (h : 0 ≤ m) : -m ≤ clampZ v m ∧ clampZ v m ≤ m := by
  unfold clampZ
  repeat' split
  all_goals omega
theorem cut_kept (x : List Int) (hx : vecB x = true) (s : Int) (s0 : 0 ≤ s) (s1 : s ≤ 4) : keptB s (cutL x s) = true := by
  have hl := vec_len x hx
  unfold keptB
  have h1 : (cutL x s).length = x.length := by unfold cutL; rw [List.length_map]
  simp only [Bool.and_eq_true, List.all_eq_true, decide_eq_true_eq, h1]
  refine ⟨⟨⟨⟨s0, s1⟩, hl.1⟩, hl.2⟩, fun z hz => ?_⟩
  unfold cutL at hz
  obtain ⟨q, _, rfl⟩ := List.mem_map.mp hz
  exact clamp_bd _ 15 (by omega)
/-- what comes back. -/
def backL (x : List Int) (s : Int) : List Int := putL s (cutL x s)
theorem back_at (x : List Int) (s : Int) (i : Nat) (h : i < x.length) : rd (backL x s) (i : Int) = clampZ (clampZ (msz x[i] 1 s) 15 * pw s) 127 := by
  have h2 : i < (backL x s).length := by unfold backL putL cutL; rw [List.length_map, List.length_map]; exact h
  rw [rd_get _ i h2]
  simp [backL, putL, cutL]
theorem back_len (x : List Int) (s : Int) : (backL x s).length = x.length := by unfold backL putL cutL; rw [List.length_map, List.length_map]
theorem law_near (y z s p : Int) (k d i : Nat) (x V : List Int) (s0 : 0 ≤ s) (hb : -127 ≤ y ∧ y ≤ 127) (hz : -127 ≤ z ∧ z ≤ 127) (n1 : y - z ≤ p) (n2 : z - y ≤ p) (n3 : s = 0 → y = z) :
    ((laws_abs.f (wrap64 (y - z))).bind fun t => (if 0 ≤ s then (if t > p then (some false) else (if s = 0 then (if y = z then (some true) else (some false)) else (some true))) else (none))) = some true := by
  have ha : ∃ t, laws_abs.f (wrap64 (y - z)) = some t ∧ t ≤ p := by
    unfold laws_abs.f
    rw [w64 (i := y - z) (by omega) (by omega)]
    by_cases g : y - z < 0
    · rw [if_pos g, w64 (by omega) (by omega)]; exact ⟨_, rfl, by omega⟩
    · rw [if_neg g]; exact ⟨_, rfl, by omega⟩
  obtain ⟨t, ht, htl⟩ := ha
  rw [ht, Option.bind_some, if_pos s0, if_neg (by omega)]
  by_cases g : s = 0
  · rw [if_pos g, if_pos (n3 g)]
  · rw [if_neg g]
set_option maxHeartbeats 4000000 in
theorem law_from (x : List Int) (hx : vecB x = true) (s : Int) (s0 : 0 ≤ s) (s1 : s ≤ 4) (hf : fitsB x s = true) (V : List Int) : ∀ d k i, i + d = x.length → d + 200 < k →
    laws_FnCutDown.l0 k x (backL x s) (i : Int) s V = some true
  | 0, k, i, h1, h2 => by
    have hl := vec_len x hx
    obtain ⟨k, rfl⟩ : ∃ m, k = m + 1 := ⟨k - 1, by omega⟩
    rw [laws_FnCutDown.l0, if_neg (by omega), impl_cutdown (backL x s) (by rw [back_len]; omega) k (by rw [back_len]; omega), Option.bind_some]
    have hyb : ∀ z ∈ backL x s, -127 ≤ z ∧ z ≤ 127 := by
      intro z hz
      unfold backL putL at hz
      obtain ⟨q, _, rfl⟩ := List.mem_map.mp hz
      exact clamp_bd _ 127 (by omega)
    have hv : vecB (backL x s) = true := by
      unfold vecB
      simp only [Bool.and_eq_true, List.all_eq_true, decide_eq_true_eq, back_len]
      exact ⟨hl, hyb⟩
    have hfy : fitsB (backL x s) s = true := by
      refine mem_fits _ s fun z hz => ?_
      obtain ⟨i, hi, rfl⟩ := List.getElem_of_mem hz
      have hi' : i < x.length := by rw [back_len] at hi; exact hi
      have hz' := vec_mem x hx _ (List.getElem_mem hi')
      have e := back_at x s i hi'
      rw [rd_get _ i hi] at e
      rw [e]
      exact (near_facts x[i] s hz'.1 hz'.2 s0 s1 (fits_mem x s hf _ (List.getElem_mem hi'))).2.2.2
    unfold cutOf
    rw [if_pos hv, if_pos rfl]
    dsimp only
    rw [decide_eq_true (least_le (backL x s) s hfy 4 0 s0 (by omega))]
  | d + 1, k, i, h1, h2 => by
    have hl := vec_len x hx
    obtain ⟨k, rfl⟩ : ∃ m, k = m + 1 := ⟨k - 1, by omega⟩
    have hi : i < x.length := by omega
    have c1 : (i : Int) < (x.length : Int) := by omega
    have c2 : (0 : Int) ≤ (i : Int) := by omega
    have c3 : (i : Int) < ((backL x s).length : Int) := by rw [back_len]; omega
    have e1 : wrap64 ((i : Int) + 1) = ((i + 1 : Nat) : Int) := by rw [w64 (by omega) (by omega)]; omega
    have ih := law_from x hx s s0 s1 hf V d k (i + 1) (by omega) (by omega)
    clear h1 h2 hl
    rw [laws_FnCutDown.l0, if_pos c1, if_pos c2, if_pos c3, e1, ih, back_at x s i hi, rd_get x i hi]
    clear ih e1 c1 c2 c3
    have hz := vec_mem x hx _ (List.getElem_mem hi)
    have hn := near_facts x[i] s hz.1 hz.2 s0 s1 (fits_mem x s hf _ (List.getElem_mem hi))
    have hb := clamp_bd (clampZ (msz x[i] 1 s) 15 * pw s) 127 (by decide)
    have hsh : shl .i64 1 s = pw s := by rw [shl_mul 1 s (by decide) (by decide) s0 s1, Int.one_mul]
    rw [hsh]
    clear hsh
    generalize clampZ (clampZ (msz x[i] 1 s) 15 * pw s) 127 = y at hn hb
    generalize x[i] = z at hz hn
    obtain ⟨n1, n2, n3, _, _⟩ := hn
    exact law_near y z s (pw s) k d i x V s0 hb hz n1 n2 n3
theorem divs_from (c : List Int) (d : Nat) : ∀ (j : Nat) (acc : List Int) (i h : Int), 1 ≤ acc.length → acc.length ≤ 8 → j + d = acc.length → Cu c i →
    ∃ x, (∀ k', d + 2 < k' → spec_DrawCutDown.l0 k' acc (j : Int) c i h = some x) ∧ x.length ≤ 9 := by
  have hj1 : ∀ (acc : List Int) (i h : Int), 1 ≤ acc.length → acc.length ≤ 8 → Cu c i → ∃ x, (∀ k', 0 < k' → spec_DrawCutDown.j1 k' acc c i h = some x) ∧ x.length ≤ 9 := by
    intro acc i h hl1 hl hc
    obtain ⟨v, i1, hh1, e, v0, v1, hc1⟩ := below_tells c i h hc 20 (by omega) (by omega)
    by_cases g0 : v = 0
    · refine ⟨acc.set 0 128, fun k' hk' => ?_, by rw [List.length_set]; omega⟩
      obtain ⟨k', rfl⟩ : ∃ m, k' = m + 1 := ⟨k' - 1, by omega⟩
      rw [spec_DrawCutDown.j1, e, Option.bind_some, if_pos g0, if_pos (by omega)]; rfl
    · by_cases g1 : v = 1
      · refine ⟨List.replicate 9 0, fun k' hk' => ?_, by simp⟩
        obtain ⟨k', rfl⟩ : ∃ m, k' = m + 1 := ⟨k' - 1, by omega⟩
        rw [spec_DrawCutDown.j1, e, Option.bind_some, if_neg g0, if_pos g1, if_pos (by omega)]
      · refine ⟨acc, fun k' hk' => ?_, by omega⟩
        obtain ⟨k', rfl⟩ : ∃ m, k' = m + 1 := ⟨k' - 1, by omega⟩
        rw [spec_DrawCutDown.j1, e, Option.bind_some, if_neg g0, if_neg g1]
  induction d with
  | zero =>
    intro j acc i h h0 hl hj hc
    obtain ⟨x, hx, hxl⟩ := hj1 acc i h h0 hl hc
    refine ⟨x, fun k' hk' => ?_, hxl⟩
    obtain ⟨k', rfl⟩ : ∃ m, k' = m + 1 := ⟨k' - 1, by omega⟩
    rw [spec_DrawCutDown.l0, if_neg (by omega)]
    exact hx k' (by omega)
  | succ d ih =>
    intro j acc i h h0 hl hj hc
    obtain ⟨v, i1, hh1, e, v0, v1, hc1⟩ := below_tells c i h hc 9 (by omega) (by omega)
    obtain ⟨x, hx, hxl⟩ := ih (j + 1) (acc.set j (wrap64 (Int.tdiv (rd acc (j : Int)) (wrap64 (1 + v))))) i1 hh1 (by rw [List.length_set]; exact h0) (by rw [List.length_set]; exact hl) (by rw [List.length_set]; omega) hc1
    refine ⟨x, fun k' hk' => ?_, hxl⟩
    obtain ⟨k', rfl⟩ : ∃ m, k' = m + 1 := ⟨k' - 1, by omega⟩
    rw [spec_DrawCutDown.l0, if_pos (by omega), if_pos (by omega), e, Option.bind_some, if_neg (by rw [w64 (by omega) (by omega)]; omega), Int.toNat_natCast, w64 (i := (j : Int) + 1) (by omega) (by omega), show (j : Int) + 1 = ((j + 1 : Nat) : Int) by omega]
    exact hx k' (by omega)
theorem drawcut_tells (c : List Int) (hl : c.length ≤ 1048576) : ∃ x, (∀ k, 100 < k → spec_DrawCutDown.f k c = some x) ∧ x.length ≤ 9 := by
  have hc0 : Cu c 0 := ⟨by omega, by omega, by omega⟩
  obtain ⟨n, i1, h1, e1, n0, n1, hc1⟩ := below_tells c 0 (spec_l01New.hash c) hc0 8 (by omega) (by omega)
  obtain ⟨x, i2, h2, e2, hx, hxz, hc2⟩ := x_tells c i1 h1 hc1 (1 + n) (by omega) (by omega)
  obtain ⟨v, i3, h3, e3, hc3⟩ := once_tells c i2 h2 hc2 2 (by omega) (by omega)
  obtain ⟨y, hy, hyl⟩ := divs_from c x.length 0 x i3 h3 (by omega) (by omega) (by omega) hc3
  obtain ⟨v4, i4, hh4, e4, v40, v41, hc4⟩ := below_tells c i3 h3 hc3 20 (by omega) (by omega)
  cases v with
  | true =>
    refine ⟨y, fun k hk => ?_, hyl⟩
    unfold spec_DrawCutDown.f spec_l01New.f
    rw [Option.bind_some, e1, Option.bind_some, w64 (i := 1 + n) (by omega) (by omega), e2 k (by omega), Option.bind_some, e3, Option.bind_some, if_pos rfl]
    exact hy k (by omega)
  | false =>
    by_cases g0 : v4 = 0
    · refine ⟨x.set 0 128, fun k hk => ?_, by rw [List.length_set]; omega⟩
      obtain ⟨k, rfl⟩ : ∃ m, k = m + 1 := ⟨k - 1, by omega⟩
      unfold spec_DrawCutDown.f spec_l01New.f
      rw [Option.bind_some, e1, Option.bind_some, w64 (i := 1 + n) (by omega) (by omega), e2 _ (by omega), Option.bind_some, e3, Option.bind_some, if_neg (by simp), spec_DrawCutDown.j1, e4, Option.bind_some, if_pos g0, if_pos (show (0 : Int) < (x.length : Int) by omega)]; rfl
    · by_cases g1 : v4 = 1
      · refine ⟨List.replicate 9 0, fun k hk => ?_, by simp⟩
        obtain ⟨k, rfl⟩ : ∃ m, k = m + 1 := ⟨k - 1, by omega⟩
        unfold spec_DrawCutDown.f spec_l01New.f
        rw [Option.bind_some, e1, Option.bind_some, w64 (i := 1 + n) (by omega) (by omega), e2 _ (by omega), Option.bind_some, e3, Option.bind_some, if_neg (by simp), spec_DrawCutDown.j1, e4, Option.bind_some, if_neg g0, if_pos g1, if_pos (by omega)]
      · refine ⟨x, fun k hk => ?_, by omega⟩
        obtain ⟨k, rfl⟩ : ∃ m, k = m + 1 := ⟨k - 1, by omega⟩
        unfold spec_DrawCutDown.f spec_l01New.f
        rw [Option.bind_some, e1, Option.bind_some, w64 (i := 1 + n) (by omega) (by omega), e2 _ (by omega), Option.bind_some, e3, Option.bind_some, if_neg (by simp), spec_DrawCutDown.j1, e4, Option.bind_some, if_neg g0, if_neg g1]
theorem FnCutDown : laws_FnCutDown.Pure := by
  intro c hm hs hw
  unfold laws_FnCutDown.f laws_big.f
  by_cases hbig : (c.length : Int) > 1048576
  · exact ⟨0, by rw [decide_eq_true hbig]; rfl⟩
  · rw [decide_eq_false hbig]
    obtain ⟨x, hx, hxl⟩ := drawcut_tells c (by omega)
    obtain ⟨k, hk⟩ : ∃ k : Nat, k = 1000 := ⟨_, rfl⟩
    refine ⟨k, ?_⟩
    rw [Option.bind_some, if_neg (by simp), hx k (by omega), Option.bind_some, impl_cutdown x (by omega) k (by omega), Option.bind_some, spec_cutdown x (by omega) k (by omega), Option.bind_some, if_neg (by simp)]
    by_cases hv : vecB x = true
    · have hz := vec_mem x hv
      have hl := vec_len x hv
      have hb := leastS_bd x 4 0
      have hf := least_fits x hz 4 0 (by omega)
      unfold cutOf
      rw [if_pos hv]
      dsimp only
      generalize leastS x 4 0 = s at hb hf
      have s0 : 0 ≤ s := hb.1
      have s1 : s ≤ 4 := by omega
      have hcl : (cutL x s).length = x.length := by unfold cutL; rw [List.length_map]
      have hp : impl_PutBack.f k s (cutL x s) = some (backL x s, true) := by
        rw [impl_put s (cutL x s) (by omega) k (by omega)]; unfold putOf; rw [if_pos (cut_kept x hv s s0 s1)]; rfl
      have hpo : impl_PartOk.f k s (cutL x s) (x.length : Int) = some true := by
        unfold impl_PartOk.f; rw [hp, Option.bind_some, if_pos rfl, hcl]; simp
      rw [if_pos rfl, hp, Option.bind_some, if_pos rfl, back_len, if_pos rfl, if_pos rfl, hpo, Option.bind_some]
      obtain ⟨j, rfl⟩ : ∃ j, k = j + 1 := ⟨k - 1, by omega⟩
      rw [laws_FnCutDown.j0, if_neg (by simp)]
      exact law_from x hv s s0 s1 hf (cutL x s) x.length j 0 (by omega) (by omega)
    · unfold cutOf
      rw [if_neg hv]
      rfl

end Go.Proofs.Ytigplfheldfciaa.Pure
