/- The program's CutDown returns what the reference's CutDown returns, leaves its argument alone, and shares no memory, for all arguments. No conditions. -/
import Derived.Test.YtigplfheldfciaaPFnExactCutDownx
namespace Go.Proofs.Ytigplfheldfciaa.Pure
open Go.RowKit Go.Proofs.Ytigplfheldfciaa.PFnExactCutDown Go.Proofs.YtigplfheldfciaaW.PrintWords Go.Proofs.YtigplfheldfciaaW.PrintLast Go.Proofs.YtigplfheldfciaaW.PrintMore
set_option linter.unusedVariables false
set_option linter.unusedSimpArgs false

theorem w64 {i : Int} (h0 : -9223372036854775808 ≤ i) (h : i ≤ 9223372036854775807) : wrap64 i = i := by unfold wrap64; omega
theorem rd_get (l : List Int) (i : Nat) (h : i < l.length) : rd l (i : Int) = l[i] := by simp [rd, List.getD_eq_getElem?_getD, h]


theorem to_from (l : List Int) (hl : l.length ≤ 9223372036854775806) (d : Nat) : ∀ (k i : Nat), i ≤ l.length → l.length - i = d → d < k →
    laws_toIntS.l0 k l (l.take i ++ List.replicate (l.length - i) 0) (i : Int) = some l := by
  induction d with
  | zero =>
    intro k i hi' hd hk
    obtain ⟨k, rfl⟩ : ∃ m, k = m + 1 := ⟨k - 1, by omega⟩
    simp only [laws_toIntS.l0]; rw [if_neg (by omega), List.take_of_length_le (by omega), hd]; simp
  | succ d ih =>
    intro k i hi' hd hk
    obtain ⟨k, rfl⟩ : ∃ m, k = m + 1 := ⟨k - 1, by omega⟩
    have hlt : i < l.length := by omega
    simp only [laws_toIntS.l0]
    rw [if_pos (by omega), if_pos (by omega), if_pos (by simp; omega), rd_get l i hlt, w64 (by omega) (by omega), show ((i : Int) + 1) = ((i + 1 : Nat) : Int) by omega]
    have e : (l.take i ++ List.replicate (l.length - i) (0 : Int)).set (i : Int).toNat l[i] = l.take (i + 1) ++ List.replicate (l.length - (i + 1)) 0 := by
      rw [Int.toNat_natCast, List.set_append_right _ _ (by simp; omega), show l.length - i = (l.length - (i + 1)) + 1 by omega, List.replicate_succ, List.length_take, Nat.min_eq_left (by omega), Nat.sub_self, List.set_cons_zero, List.take_succ_eq_append_getElem hlt, List.append_assoc]
      rfl
    rw [e]
    exact ih k (i + 1) (by omega) (by omega) (by omega)
/-- laws.toIntS: a copy. -/
theorem to_tells (l : List Int) (hl : l.length ≤ 35184372088832) (k : Nat) (hk : l.length < k) : laws_toIntS.f k l = some l := by
  unfold laws_toIntS.f
  rw [if_pos (by omega), if_pos (by simpa using hl), Int.toNat_natCast]
  have := to_from l (by omega) l.length k 0 (by omega) (by omega) hk
  simpa using this


theorem eq_from (a b : List Int) (hl : a.length ≤ 9223372036854775806) (hab : a.length = b.length) (d : Nat) : ∀ (k i : Nat), i ≤ a.length → a.length - i = d → d < k →
    laws_eqIntS.l0 k a b (i : Int) = some (decide (a.drop i = b.drop i)) := by
  induction d with
  | zero =>
    intro k i hi' hd hk
    obtain ⟨k, rfl⟩ : ∃ m, k = m + 1 := ⟨k - 1, by omega⟩
    rw [List.drop_of_length_le (by omega), List.drop_of_length_le (by omega)]
    simp only [laws_eqIntS.l0]; rw [if_neg (by omega)]; simp
  | succ d ih =>
    intro k i hi' hd hk
    obtain ⟨k, rfl⟩ : ∃ m, k = m + 1 := ⟨k - 1, by omega⟩
    have hlt : i < a.length := by omega
    have hltb : i < b.length := by omega
    simp only [laws_eqIntS.l0]
    rw [if_pos (by omega), if_pos (by omega), if_pos (by omega), rd_get a i hlt, rd_get b i hltb, List.drop_eq_getElem_cons hlt, List.drop_eq_getElem_cons hltb]
    by_cases h : a[i] = b[i]
    · rw [if_pos h, w64 (by omega) (by omega), show ((i : Int) + 1) = ((i + 1 : Nat) : Int) by omega, ih k (i + 1) (by omega) (by omega) (by omega)]
      congr 1
      rw [decide_eq_decide]
      simp only [h, List.cons.injEq, true_and]
    · rw [if_neg h, decide_eq_false (fun e => h (List.cons.inj e).1)]
/-- laws.eqIntS: equal lists. -/
theorem eq_tells (a b : List Int) (hl : a.length ≤ 9223372036854775806) (k : Nat) (hk : a.length < k) : laws_eqIntS.f k a b = some (decide (a = b)) := by
  unfold laws_eqIntS.f
  by_cases h : a.length = b.length
  · rw [if_pos (by omega)]
    have := eq_from a b hl h a.length k 0 (by omega) (by omega) hk
    simpa using this
  · rw [if_neg (by omega), decide_eq_false]
    intro e; rw [e] at h; exact h rfl


def marks (z : Int) (n : Nat) : List Int := (List.range n).map fun (j : Nat) => z + (j : Int)
theorem marks_length (z : Int) (n : Nat) : (marks z n).length = n := by simp [marks]

theorem mark_from (n : Nat) (z : Int) (hz : 0 ≤ z) (hn : z + (n : Int) ≤ 9223372036854775806) (l : List Int) (hl : l.length = n) (d : Nat) : ∀ (k i : Nat), i ≤ n → n - i = d → d < k →
    laws_markIntS.l0 k (marks z i ++ l.drop i) (z + (i : Int)) (i : Int) = some (z + (n : Int), marks z n) := by
  induction d with
  | zero =>
    intro k i hi' hd hk
    obtain ⟨k, rfl⟩ : ∃ m, k = m + 1 := ⟨k - 1, by omega⟩
    obtain rfl : i = n := by omega
    simp only [laws_markIntS.l0]; rw [List.drop_of_length_le (by omega), List.append_nil, if_neg (by rw [marks_length]; omega)]
  | succ d ih =>
    intro k i hi' hd hk
    obtain ⟨k, rfl⟩ : ∃ m, k = m + 1 := ⟨k - 1, by omega⟩
    simp only [laws_markIntS.l0]
    rw [if_pos (by simp [marks_length]; omega), if_pos (by omega), w64 (i := z + (i : Int) + 1) (by omega) (by omega), w64 (i := (i : Int) + 1) (by omega) (by omega), show (z + (i : Int) + 1) = z + ((i + 1 : Nat) : Int) by omega, show ((i : Int) + 1) = ((i + 1 : Nat) : Int) by omega]
    have e : (marks z i ++ l.drop i).set (i : Int).toNat (z + (i : Int)) = marks z (i + 1) ++ l.drop (i + 1) := by
      rw [Int.toNat_natCast, List.set_append_right _ _ (by simp [marks_length]), marks_length, Nat.sub_self, List.drop_eq_getElem_cons (by omega), List.set_cons_zero]
      simp [marks, List.range_succ]
    rw [e]
    exact ih k (i + 1) (by omega) (by omega) (by omega)
/-- laws.markIntS: the numbers from z on. -/
theorem mark_tells (l : List Int) (z : Int) (hz : 0 ≤ z) (hn : z + (l.length : Int) ≤ 9223372036854775806) (k : Nat) (hk : l.length < k) : laws_markIntS.f k l z = some (z + (l.length : Int), marks z l.length) := by
  unfold laws_markIntS.f
  have := mark_from l.length z hz hn l rfl l.length k 0 (by omega) (by omega) hk
  simpa [marks] using this

theorem held_from (n : Nat) (z : Int) (hz : 0 ≤ z) (hn : z + (n : Int) ≤ 9223372036854775806) (d : Nat) : ∀ (k i : Nat), i ≤ n → n - i = d → d < k →
    laws_heldIntS.l0 k (marks z n) (z + (i : Int)) (i : Int) = some (z + (n : Int)) := by
  induction d with
  | zero =>
    intro k i hi' hd hk
    obtain ⟨k, rfl⟩ : ∃ m, k = m + 1 := ⟨k - 1, by omega⟩
    obtain rfl : i = n := by omega
    simp only [laws_heldIntS.l0]; rw [if_neg (by rw [marks_length]; omega)]
  | succ d ih =>
    intro k i hi' hd hk
    obtain ⟨k, rfl⟩ : ∃ m, k = m + 1 := ⟨k - 1, by omega⟩
    simp only [laws_heldIntS.l0]
    rw [if_pos (by rw [marks_length]; omega), if_pos (by omega), rd_get _ i (by rw [marks_length]; omega), if_pos (by simp [marks]), w64 (i := z + (i : Int) + 1) (by omega) (by omega), w64 (i := (i : Int) + 1) (by omega) (by omega), show (z + (i : Int) + 1) = z + ((i + 1 : Nat) : Int) by omega, show ((i : Int) + 1) = ((i + 1 : Nat) : Int) by omega]
    exact ih k (i + 1) (by omega) (by omega) (by omega)
/-- laws.heldIntS of what laws.markIntS left. -/
theorem held_tells (n : Nat) (z : Int) (hz : 0 ≤ z) (hn : z + (n : Int) ≤ 9223372036854775806) (k : Nat) (hk : n < k) : laws_heldIntS.f k (marks z n) z = some (z + (n : Int)) := by
  unfold laws_heldIntS.f
  have := held_from n z hz hn n k 0 (by omega) (by omega) hk
  simpa using this

theorem all_from (lo hi : Int) (l : List Int) (hl : l.length ≤ 9223372036854775806) (d : Nat) : ∀ (k i : Nat), i ≤ l.length → l.length - i = d → d < k →
    spec_l05All.l0 k l lo hi (i : Int) = some ((l.drop i).all fun x => decide (lo ≤ x) && decide (x ≤ hi)) := by
  induction d with
  | zero =>
    intro k i hi' hd hk
    obtain ⟨k, rfl⟩ : ∃ m, k = m + 1 := ⟨k - 1, by omega⟩
    rw [List.drop_of_length_le (by omega)]
    simp only [spec_l05All.l0]; rw [if_neg (by omega)]; rfl
  | succ d ih =>
    intro k i hi' hd hk
    obtain ⟨k, rfl⟩ : ∃ m, k = m + 1 := ⟨k - 1, by omega⟩
    have hlt : i < l.length := by omega
    simp only [spec_l05All.l0]
    rw [if_pos (by omega), if_pos (by omega), rd_get l i hlt, List.drop_eq_getElem_cons hlt, List.all_cons]
    unfold spec_l01In.f
    by_cases h1 : l[i] ≥ lo
    · rw [if_pos h1]
      simp only [Option.bind_some]
      by_cases h2 : l[i] ≤ hi
      · rw [decide_eq_true h2, if_pos rfl, w64 (by omega) (by omega), show ((i : Int) + 1) = ((i + 1 : Nat) : Int) by omega, ih k (i + 1) (by omega) (by omega) (by omega)]
        simp [h1]
      · rw [decide_eq_false h2]; simp
    · rw [if_neg h1]; simp only [Option.bind_some]; rw [decide_eq_false h1]; simp
/-- spec.l05All: all within. -/
theorem all_tells (lo hi : Int) (l : List Int) (hl : l.length ≤ 9223372036854775806) (k : Nat) (hk : l.length < k) : spec_l05All.f k l lo hi = some (l.all fun x => decide (lo ≤ x) && decide (x ≤ hi)) := by
  unfold spec_l05All.f
  have := all_from lo hi l hl l.length k 0 (by omega) (by omega) hk
  rw [List.drop_zero] at this
  exact this


def clampZ (x m : Int) : Int := if x > m then m else if x < -m then -m else x
theorem spec_clamp (x m : Int) (h : 0 ≤ m) (h2 : m ≤ 1000000000) : spec_l03Clamp.f x m = some (clampZ x m) := by
  unfold spec_l03Clamp.f clampZ
  rw [w64 (by omega) (by omega)]
  split
  · rfl
  · split <;> rfl
theorem impl_clamp (x m : Int) (h : 0 ≤ m) (h2 : m ≤ 1000000000) : impl_Clamp.f x m = some (clampZ x m) := by
  unfold impl_Clamp.f clampZ mx mn
  rw [if_neg (by omega), w64 (by omega) (by omega)]
  congr 1
  repeat' split
  all_goals omega

def vecB (x : List Int) : Bool := decide (1 ≤ x.length) && decide (x.length ≤ 8) && x.all fun z => decide (-127 ≤ z) && decide (z ≤ 127)
theorem vec_at (x : List Int) (h : vecB x = true) (i : Nat) (hi : i < x.length) : -127 ≤ rd x (i : Int) ∧ rd x (i : Int) ≤ 127 := by
  unfold vecB at h
  simp only [Bool.and_eq_true, List.all_eq_true, decide_eq_true_eq] at h
  rw [rd_get x i hi]
  exact h.2 _ (List.getElem_mem hi)

def floorZ (a b : Int) : Int := a.tdiv b + (if a.tmod b < 0 then -1 else 0)
theorem tdiv_bd (a b : Int) (hb : 0 < b) (m : Int) (h0 : -m ≤ a) (h1 : a ≤ m) : -m ≤ a.tdiv b ∧ a.tdiv b ≤ m := by
  rcases Int.le_total 0 a with h | h
  · have e := Int.tdiv_eq_ediv_of_nonneg h (b := b)
    have e1 := Int.ediv_nonneg h (Int.le_of_lt hb)
    have e2 : a / b ≤ a := Int.ediv_le_self b h
    omega
  · have h' : 0 ≤ -a := by omega
    have e := Int.tdiv_eq_ediv_of_nonneg h' (b := b)
    have e1 := Int.ediv_nonneg h' (Int.le_of_lt hb)
    have e2 : -a / b ≤ -a := Int.ediv_le_self b h'
    rw [Int.neg_tdiv] at e
    omega
theorem spec_floor (a b : Int) (hb : 0 < b) (h0 : -4000000000000000000 ≤ a) (h1 : a ≤ 4000000000000000000) : spec_l03Floor.f a b = some (floorZ a b) := by
  have hd := tdiv_bd a b hb 4000000000000000000 h0 h1
  unfold spec_l03Floor.f floorZ
  rw [if_neg (by omega), w64 (i := a.tdiv b) (by omega) (by omega), w64 (i := a.tdiv b - 1) (by omega) (by omega)]
  by_cases h : a.tmod b < 0
  · rw [if_pos h, if_pos h]; rfl
  · rw [if_neg h, if_neg h, Int.add_zero]

theorem impl_floor (a b : Int) (hb : 0 < b) (h0 : -1000000000000 ≤ a) (h1 : a ≤ 1000000000000) (k : Nat) (hk : 1 < k) : impl_FloorDiv.f k a b = some (floorZ a b) := by
  obtain ⟨k, rfl⟩ : ∃ m, k = m + 1 := ⟨k - 1, by omega⟩
  have hd := tdiv_bd a b hb 1000000000000 h0 h1
  unfold impl_FloorDiv.f impl_in.f
  rw [if_neg (by omega), if_pos (by omega), decide_eq_true h1, Option.bind_some, impl_FloorDiv.j0, if_neg (by simp), if_neg (by omega), w64 (i := a.tdiv b) (by omega) (by omega), w64 (i := a.tdiv b - 1) (by omega) (by omega)]
  unfold floorZ
  by_cases h : a.tmod b < 0
  · rw [if_pos h, if_pos h]; rfl
  · rw [if_neg h, if_neg h, Int.add_zero]

def pw (s : Int) : Int := 2 ^ s.toNat
theorem pw_pos (s : Int) : 0 < pw s := by unfold pw; exact Int.pow_pos (by omega)
theorem pw_succ (n : Nat) : pw ((n : Int) + 1) = 2 * pw (n : Int) := by
  unfold pw
  rw [show ((n : Int) + 1).toNat = n + 1 by omega, Int.pow_succ, Int.mul_comm, Int.toNat_natCast]
theorem pw_bd (s : Int) (h : s ≤ 24) : pw s ≤ 16777216 := by
  unfold pw
  have : (2 : Nat) ^ s.toNat ≤ 2 ^ 24 := Nat.pow_le_pow_right (by omega) (by omega)
  have h2 : ((2 ^ s.toNat : Nat) : Int) ≤ ((2 ^ 24 : Nat) : Int) := Int.ofNat_le.2 this
  rw [Int.natCast_pow] at h2
  exact h2
theorem pow_from (n : Nat) (hn : n ≤ 24) (d : Nat) : ∀ (k i : Nat), i + d = n → d < k → spec_l03Pow.l0 k (n : Int) (pw (i : Int)) (i : Int) = some (pw (n : Int)) := by
  induction d with
  | zero =>
    intro k i h hk
    obtain ⟨k, rfl⟩ : ∃ m, k = m + 1 := ⟨k - 1, by omega⟩
    obtain rfl : i = n := by omega
    rw [spec_l03Pow.l0, if_neg (by omega)]
  | succ d ih =>
    intro k i h hk
    obtain ⟨k, rfl⟩ : ∃ m, k = m + 1 := ⟨k - 1, by omega⟩
    have h1 := pw_bd (i : Int) (by omega)
    have h2 := pw_pos (i : Int)
    rw [spec_l03Pow.l0, if_pos (by omega), w64 (i := 2 * pw (i : Int)) (by omega) (by omega), w64 (i := (i : Int) + 1) (by omega) (by omega), ← pw_succ]
    exact ih k (i + 1) (by omega) (by omega)
theorem spec_pow (n : Int) (h0 : 0 ≤ n) (h1 : n ≤ 24) (k : Nat) (hk : 24 < k) : spec_l03Pow.f k n = some (pw n) := by
  obtain ⟨n, rfl⟩ := Int.eq_ofNat_of_zero_le h0
  unfold spec_l03Pow.f
  exact pow_from n (by omega) n k 0 (by omega) (by omega)
theorem shl_pw (n : Int) (h0 : 0 ≤ n) (h1 : n ≤ 24) : shl .i64 1 n = pw n := by
  have h2 := pw_bd n h1
  have h3 := pw_pos n
  unfold shl
  rw [show min n.toNat IntKind.i64.bits = n.toNat by rw [Nat.min_eq_left]; show n.toNat ≤ 64; omega, Int.one_mul, IntKind.wrap_i64]
  unfold pw at *
  omega
def msz (x m s : Int) : Int := floorZ (x * m + (pw s).tdiv 2) (pw s)
theorem half_bd (s : Int) (h : s ≤ 24) : 0 ≤ (pw s).tdiv 2 ∧ (pw s).tdiv 2 ≤ 8388608 := by
  have h1 := pw_bd s h
  have h2 := pw_pos s
  rw [Int.tdiv_eq_ediv_of_nonneg (by omega)]
  omega
theorem spec_ms (x m s : Int) (x0 : -10000000 ≤ x) (x1 : x ≤ 10000000) (m0 : 0 ≤ m) (m1 : m ≤ 65536) (s0 : 0 ≤ s) (s1 : s ≤ 24) (hp : -700000000000 ≤ x * m) (hp2 : x * m ≤ 700000000000) (k : Nat) (hk : 30 < k) : spec_MulShift.f k x m s = some (msz x m s) := by
  obtain ⟨k, rfl⟩ : ∃ m, k = m + 1 := ⟨k - 1, by omega⟩
  have h1 := half_bd s s1
  have h2 := pw_pos s
  have h3 := pw_bd s s1
  unfold spec_MulShift.f spec_l01In.f
  rw [if_pos (by omega), decide_eq_true x1, Option.bind_some, if_pos rfl, if_pos (by omega), decide_eq_true m1, Option.bind_some, if_pos rfl, if_pos (by omega), decide_eq_true s1, Option.bind_some, spec_MulShift.j0, if_neg (by simp), spec_pow s s0 s1 k (by omega), Option.bind_some, Option.bind_some, w64 (i := x * m) (by omega) (by omega), w64 (i := (pw s).tdiv 2) (by omega) (by omega), w64 (i := x * m + (pw s).tdiv 2) (by omega) (by omega), spec_floor _ _ h2 (by omega) (by omega), Option.bind_some]
  rfl
theorem impl_ms (x m s : Int) (x0 : -10000000 ≤ x) (x1 : x ≤ 10000000) (m0 : 0 ≤ m) (m1 : m ≤ 65536) (s0 : 0 ≤ s) (s1 : s ≤ 24) (hp : -700000000000 ≤ x * m) (hp2 : x * m ≤ 700000000000) (k : Nat) (hk : 2 < k) : impl_MulShift.f k x m s = some (msz x m s) := by
  have h1 := half_bd s s1
  have h2 := pw_pos s
  have h3 := pw_bd s s1
  unfold impl_MulShift.f impl_in.f
  rw [if_pos (by omega), decide_eq_true x1, Option.bind_some, if_pos rfl, if_pos (by omega), decide_eq_true m1, Option.bind_some, if_pos rfl, if_pos (by omega), decide_eq_true s1, Option.bind_some, if_pos rfl, if_pos s0, shl_pw s s0 s1, w64 (i := x * m) (by omega) (by omega), w64 (i := (pw s).tdiv 2) (by omega) (by omega), w64 (i := x * m + (pw s).tdiv 2) (by omega) (by omega), impl_floor _ _ h2 (by omega) (by omega) k (by omega), Option.bind_some]
  rfl

def fitsB (x : List Int) (s : Int) : Bool := x.all fun z => decide (-15 ≤ msz z 1 s) && decide (msz z 1 s ≤ 15)
def cutL (x : List Int) (s : Int) : List Int := x.map fun z => clampZ (msz z 1 s) 15
theorem cutL_snoc (x : List Int) (i : Nat) (hlt : i < x.length) (s : Int) : cutL (x.take (i + 1)) s = cutL (x.take i) s ++ [clampZ (msz x[i] 1 s) 15] := by
  rw [List.take_succ_eq_append_getElem hlt]; unfold cutL; rw [List.map_append]; rfl
def leastS (x : List Int) : Nat → Int → Int
  | 0, s => s
  | d + 1, s => if fitsB x s = true then s else leastS x d (s + 1)
theorem leastS_bd (x : List Int) (d : Nat) : ∀ s, s ≤ leastS x d s ∧ leastS x d s ≤ s + d := by
  induction d with
  | zero => intro s; unfold leastS; omega
  | succ d ih => intro s; unfold leastS; have := ih (s + 1); split <;> omega
def cutOf (x : List Int) : Int × List Int × Bool := if vecB x = true then (leastS x 4 0, cutL x (leastS x 4 0), true) else (0, [], false)
theorem cutOf_len (x : List Int) : (cutOf x).2.1.length ≤ x.length := by unfold cutOf; split <;> simp [cutL]
theorem vec_mem (x : List Int) (h : vecB x = true) : ∀ z ∈ x, -127 ≤ z ∧ z ≤ 127 := by
  unfold vecB at h
  simp only [Bool.and_eq_true, List.all_eq_true, decide_eq_true_eq] at h
  exact h.2
theorem vec_len (x : List Int) (h : vecB x = true) : 1 ≤ x.length ∧ x.length ≤ 8 := by
  unfold vecB at h
  simp only [Bool.and_eq_true, decide_eq_true_eq] at h
  exact h.1
theorem fits_from (x : List Int) (h : vecB x = true) (s : Int) (s0 : 0 ≤ s) (s1 : s ≤ 4) (d : Nat) : ∀ (k i : Nat), i + d = x.length → d + 40 < k →
    spec_l14Fits.l0 k x s (i : Int) = some (fitsB (x.drop i) s) := by
  have hl := vec_len x h
  induction d with
  | zero =>
    intro k i hi hk
    obtain ⟨k, rfl⟩ : ∃ m, k = m + 1 := ⟨k - 1, by omega⟩
    rw [spec_l14Fits.l0, if_neg (by omega), List.drop_of_length_le (by omega)]; rfl
  | succ d ih =>
    intro k i hi hk
    obtain ⟨k, rfl⟩ : ∃ m, k = m + 1 := ⟨k - 1, by omega⟩
    have hlt : i < x.length := by omega
    have hz := vec_mem x h _ (List.getElem_mem hlt)
    rw [spec_l14Fits.l0, if_pos (by omega), if_pos (by omega), rd_get x i hlt, spec_ms _ 1 s (by omega) (by omega) (by omega) (by omega) s0 (by omega) (by omega) (by omega) k (by omega), Option.bind_some, List.drop_eq_getElem_cons hlt]
    unfold spec_l01In.f
    unfold fitsB at ih ⊢
    rw [List.all_cons]
    by_cases h1 : msz x[i] 1 s ≥ -15
    · rw [if_pos h1, Option.bind_some]
      by_cases h2 : msz x[i] 1 s ≤ 15
      · rw [decide_eq_true h2, if_pos rfl, w64 (by omega) (by omega), show ((i : Int) + 1) = ((i + 1 : Nat) : Int) by omega, ih k (i + 1) (by omega) (by omega), decide_eq_true (show -15 ≤ msz x[i] 1 s from h1)]; rfl
      · rw [decide_eq_false h2, if_neg (by simp)]; simp
    · rw [if_neg h1, Option.bind_some, if_neg (by simp), decide_eq_false (show ¬ -15 ≤ msz x[i] 1 s from h1)]; rfl
theorem spec_fits (x : List Int) (h : vecB x = true) (s : Int) (s0 : 0 ≤ s) (s1 : s ≤ 4) (k : Nat) (hk : 50 < k) : spec_l14Fits.f k x s = some (fitsB x s) := by
  have hl := vec_len x h
  unfold spec_l14Fits.f
  exact fits_from x h s s0 s1 x.length k 0 (by omega) (by omega)
theorem cut1_from (x : List Int) (h : vecB x = true) (s : Int) (s0 : 0 ≤ s) (s1 : s ≤ 4) (a : Int) (d : Nat) : ∀ (k i : Nat), i + d = x.length → d + 40 < k →
    spec_CutDown.l1 k x s (i : Int) a (cutL (x.take i) s) = some (a, cutL x s, true) := by
  have hl := vec_len x h
  induction d with
  | zero =>
    intro k i hi hk
    obtain ⟨k, rfl⟩ : ∃ m, k = m + 1 := ⟨k - 1, by omega⟩
    rw [spec_CutDown.l1, if_neg (by omega), List.take_of_length_le (by omega)]
  | succ d ih =>
    intro k i hi hk
    obtain ⟨k, rfl⟩ : ∃ m, k = m + 1 := ⟨k - 1, by omega⟩
    have hlt : i < x.length := by omega
    have hz := vec_mem x h _ (List.getElem_mem hlt)
    rw [spec_CutDown.l1, if_pos (by omega), if_pos (by omega), rd_get x i hlt, spec_ms _ 1 s (by omega) (by omega) (by omega) (by omega) s0 (by omega) (by omega) (by omega) k (by omega), Option.bind_some, spec_clamp _ 15 (by omega) (by omega), Option.bind_some, if_pos (by simp [cutL]; omega), w64 (by omega) (by omega), show ((i : Int) + 1) = ((i + 1 : Nat) : Int) by omega]
    have := ih k (i + 1) (by omega) (by omega)
    rw [cutL_snoc x i hlt s] at this
    exact this
theorem spec_cut_from (x : List Int) (h : vecB x = true) (d : Nat) : ∀ (k : Nat) (s : Int), 0 ≤ s → s + d = 4 → d + 60 < k →
    spec_CutDown.l0 k x s = some (leastS x d s, cutL x (leastS x d s), true) := by
  have hl := vec_len x h
  have hj2 : ∀ (k : Nat) (s : Int), 0 ≤ s → s ≤ 4 → 55 < k → spec_CutDown.j2 k x s = some (s, cutL x s, true) := by
    intro k s s0 s1 hk
    obtain ⟨k, rfl⟩ : ∃ m, k = m + 1 := ⟨k - 1, by omega⟩
    rw [spec_CutDown.j2]
    exact cut1_from x h s s0 s1 s x.length k 0 (by omega) (by omega)
  induction d with
  | zero =>
    intro k s s0 hs hk
    obtain ⟨k, rfl⟩ : ∃ m, k = m + 1 := ⟨k - 1, by omega⟩
    rw [spec_CutDown.l0, if_neg (by omega), hj2 k s s0 (by omega) (by omega)]; rfl
  | succ d ih =>
    intro k s s0 hs hk
    obtain ⟨k, rfl⟩ : ∃ m, k = m + 1 := ⟨k - 1, by omega⟩
    rw [spec_CutDown.l0, if_pos (by omega), spec_fits x h s s0 (by omega) k (by omega), Option.bind_some]
    unfold leastS
    by_cases hf : fitsB x s = true
    · rw [if_pos hf, if_pos hf, hj2 k s s0 (by omega) (by omega)]
    · rw [if_neg hf, if_neg hf, w64 (by omega) (by omega)]
      exact ih k (s + 1) (by omega) (by omega) (by omega)
theorem vec_in (x : List Int) (hl : x.length ≤ 1048576) : ∀ k, x.length < k → ((spec_l01In.f (x.length : Int) 1 8).bind fun t => if t = true then (spec_l05All.f k x (-127) 127) else some false) = some (vecB x) := by
  intro k hk
  unfold spec_l01In.f vecB
  by_cases h1 : (x.length : Int) ≥ 1
  · rw [if_pos h1, Option.bind_some]
    by_cases h2 : (x.length : Int) ≤ 8
    · rw [decide_eq_true h2, if_pos rfl, all_tells (-127) 127 x (by omega) k hk, decide_eq_true (show 1 ≤ x.length by omega), decide_eq_true (show x.length ≤ 8 by omega)]; rfl
    · rw [decide_eq_false h2, if_neg (by simp), decide_eq_false (show ¬ x.length ≤ 8 by omega)]; simp
  · rw [if_neg h1, Option.bind_some, if_neg (by simp), decide_eq_false (show ¬ 1 ≤ x.length by omega)]; rfl
theorem spec_cutdown (x : List Int) (hl : x.length ≤ 1048576) (k : Nat) (hk : x.length + 80 < k) : spec_CutDown.f k x = some (cutOf x) := by
  obtain ⟨k, rfl⟩ : ∃ m, k = m + 1 := ⟨k - 1, by omega⟩
  unfold spec_CutDown.f spec_l01In.f cutOf
  by_cases h1 : (x.length : Int) ≥ 1
  · rw [if_pos h1, Option.bind_some]
    by_cases h2 : (x.length : Int) ≤ 8
    · rw [decide_eq_true h2, if_pos rfl, all_tells (-127) 127 x (by omega) _ (by omega), Option.bind_some, spec_CutDown.j0]
      have hv : (x.all fun z => decide (-127 ≤ z) && decide (z ≤ 127)) = vecB x := by
        unfold vecB; rw [decide_eq_true (show 1 ≤ x.length by omega), decide_eq_true (show x.length ≤ 8 by omega)]; rfl
      rw [hv]
      by_cases hb : vecB x = true
      · rw [if_neg (by simp [hb]), if_pos hb]
        exact spec_cut_from x hb 4 k 0 (by omega) (by omega) (by omega)
      · rw [if_pos (by simpa using hb), if_neg hb]
    · rw [decide_eq_false h2, if_neg (by simp), spec_CutDown.j0, if_pos rfl, if_neg (fun h => by have := vec_len x h; omega)]
  · rw [if_neg h1, Option.bind_some, if_neg (by simp), spec_CutDown.j0, if_pos rfl, if_neg (fun h => by have := vec_len x h; omega)]
theorem impl_cut_from (x : List Int) (h : vecB x = true) (s : Int) (s0 : 0 ≤ s) (s1 : s ≤ 4) (d : Nat) : ∀ (k i : Nat) (p : Bool), i + d = x.length → d + 20 < k → p = fitsB (x.take i) s →
    impl_cut.l0 k s (cutL (x.take i) s) p x (x.length : Int) (i : Int) = some (cutL x s, fitsB x s) := by
  have hl := vec_len x h
  induction d with
  | zero =>
    intro k i p hi hk hp
    obtain ⟨k, rfl⟩ : ∃ m, k = m + 1 := ⟨k - 1, by omega⟩
    rw [impl_cut.l0, if_neg (by omega), hp, List.take_of_length_le (by omega)]
  | succ d ih =>
    intro k i p hi hk hp
    obtain ⟨k, rfl⟩ : ∃ m, k = m + 1 := ⟨k - 1, by omega⟩
    have hlt : i < x.length := by omega
    have hz := vec_mem x h _ (List.getElem_mem hlt)
    have hcut : cutL (x.take i) s ++ [clampZ (msz x[i] 1 s) 15] = cutL (x.take (i + 1)) s := (cutL_snoc x i hlt s).symm
    have hfit : fitsB (x.take (i + 1)) s = (fitsB (x.take i) s && (decide (-15 ≤ msz x[i] 1 s) && decide (msz x[i] 1 s ≤ 15))) := by
      rw [List.take_succ_eq_append_getElem hlt]; unfold fitsB; rw [List.all_append, List.all_cons, List.all_nil, Bool.and_true]
    rw [impl_cut.l0, if_pos (by omega), if_pos (by omega), if_pos (by omega), rd_get x i hlt, impl_ms _ 1 s (by omega) (by omega) (by omega) (by omega) s0 (by omega) (by omega) (by omega) k (by omega), Option.bind_some, impl_clamp _ 15 (by omega) (by omega), Option.bind_some, if_pos (by simp [cutL]; omega), Option.bind_some, hcut, w64 (by omega) (by omega), show ((i : Int) + 1) = ((i + 1 : Nat) : Int) by omega]
    by_cases hp' : p = true
    · rw [if_pos hp']
      unfold impl_in.f
      rw [hp'] at hp
      by_cases h1 : msz x[i] 1 s ≥ -15
      · rw [if_pos h1, Option.bind_some]
        exact ih k (i + 1) _ (by omega) (by omega) (by rw [hfit, ← hp, decide_eq_true (show -15 ≤ msz x[i] 1 s from h1)]; rfl)
      · rw [if_neg h1, Option.bind_some]
        exact ih k (i + 1) _ (by omega) (by omega) (by rw [hfit, decide_eq_false (show ¬ -15 ≤ msz x[i] 1 s from h1)]; simp)
    · rw [if_neg hp']
      have hp'' : p = false := by simpa using hp'
      exact ih k (i + 1) _ (by omega) (by omega) (by rw [hfit, ← hp, hp'']; rfl)
theorem impl_cut_tells (x : List Int) (h : vecB x = true) (s : Int) (s0 : 0 ≤ s) (s1 : s ≤ 4) (k : Nat) (hk : 30 < k) : impl_cut.f k x s = some (cutL x s, fitsB x s) := by
  have hl := vec_len x h
  unfold impl_cut.f
  exact impl_cut_from x h s s0 s1 x.length k 0 true (by omega) (by omega) rfl
theorem impl_cutd_from (x : List Int) (h : vecB x = true) (d : Nat) : ∀ (k : Nat) (s : Int), 0 ≤ s → s + d = 4 → d + 60 < k →
    impl_CutDown.l0 k x s = some (leastS x d s, cutL x (leastS x d s), true) := by
  induction d with
  | zero =>
    intro k s s0 hs hk
    obtain ⟨k, rfl⟩ : ∃ m, k = m + 1 := ⟨k - 1, by omega⟩
    rw [impl_CutDown.l0, impl_cut_tells x h s s0 (by omega) k (by omega), Option.bind_some]
    unfold leastS
    by_cases hf : fitsB x s = true
    · rw [if_pos hf]
    · rw [if_neg hf, if_pos (by omega)]
  | succ d ih =>
    intro k s s0 hs hk
    obtain ⟨k, rfl⟩ : ∃ m, k = m + 1 := ⟨k - 1, by omega⟩
    rw [impl_CutDown.l0, impl_cut_tells x h s s0 (by omega) k (by omega), Option.bind_some]
    unfold leastS
    by_cases hf : fitsB x s = true
    · rw [if_pos hf, if_pos hf]
    · rw [if_neg hf, if_neg hf, if_neg (by omega), w64 (by omega) (by omega)]
      exact ih k (s + 1) (by omega) (by omega) (by omega)
theorem impl_cutdown (x : List Int) (hl : x.length ≤ 1048576) (k : Nat) (hk : x.length + 80 < k) : impl_CutDown.f k x = some (cutOf x) := by
  obtain ⟨k, rfl⟩ : ∃ m, k = m + 1 := ⟨k - 1, by omega⟩
  unfold impl_CutDown.f impl_in.f impl_allIn.f cutOf
  by_cases h1 : (x.length : Int) ≥ 1
  · rw [if_pos h1, Option.bind_some]
    by_cases h2 : (x.length : Int) ≤ 8
    · rw [decide_eq_true h2, if_pos rfl, Option.bind_some, impl_CutDown.j0]
      have hv : (x.all fun z => decide (-127 ≤ z) && decide (z ≤ 127)) = vecB x := by
        unfold vecB; rw [decide_eq_true (show 1 ≤ x.length by omega), decide_eq_true (show x.length ≤ 8 by omega)]; rfl
      rw [hv]
      by_cases hb : vecB x = true
      · rw [if_neg (by simp [hb]), if_pos hb]
        exact impl_cutd_from x hb 4 k 0 (by omega) (by omega) (by omega)
      · rw [if_pos (by simpa using hb), if_neg hb]
    · rw [decide_eq_false h2, if_neg (by simp), impl_CutDown.j0, if_pos rfl, if_neg (fun h => by have := vec_len x h; omega)]
  · rw [if_neg h1, Option.bind_some, if_neg (by simp), impl_CutDown.j0, if_pos rfl, if_neg (fun h => by have := vec_len x h; omega)]

theorem eqPart_tells (a b : Int) (x y : List Int) (hl : x.length ≤ 1048576) (k : Nat) (hk : x.length < k) : laws_eqPart.f k a x b y = some (decide (a = b) && decide (x = y)) := by
  unfold laws_eqPart.f
  by_cases h : a = b
  · rw [if_pos h, eq_tells x y (by omega) k hk, Option.bind_some, decide_eq_true h]
    by_cases g : x = y
    · rw [decide_eq_true g]; rfl
    · rw [decide_eq_false g]; rfl
  · rw [if_neg h, decide_eq_false h]; rfl
theorem FnExactCutDown : laws_FnExactCutDown.Pure := by
  intro l hm hs hw
  obtain ⟨k, hk⟩ : ∃ k : Nat, k = l.length + 200 := ⟨_, rfl⟩
  refine ⟨k, ?_⟩
  unfold laws_FnExactCutDown.f
  by_cases hb : (l.length : Int) > 1048576
  · rw [if_pos hb]
  · rw [if_neg hb]
    have g1 := spec_cutdown l (by omega)
    have g2 := impl_cutdown l (by omega)
    have hc := cutOf_len l
    generalize cutOf l = C at g1 g2 hc
    have hm1 := mark_tells l 1 (by omega) (by omega)
    have hm2 := mark_tells C.2.1 1 (by omega) (by omega)
    have hh := held_tells C.2.1.length 1 (by omega) (by omega)
    obtain ⟨j, rfl⟩ : ∃ j, k = j + 1 + 1 + 1 := ⟨k - 3, by omega⟩
    have heq := fun k hk => eqPart_tells C.1 C.1 C.2.1 C.2.1 (by omega) k hk
    rw [decide_eq_true (rfl : C.1 = C.1), decide_eq_true (rfl : C.2.1 = C.2.1), Bool.and_self] at heq
    rw [to_tells l (by omega) _ (by omega), Option.bind_some, g1 _ (by omega), Option.bind_some, Option.bind_some, g2 _ (by omega), Option.bind_some, heq _ (by omega), Option.bind_some, if_pos rfl, bne_self_eq_false]
    rw [laws_FnExactCutDown.j0, if_neg (by simp), to_tells l (by omega) _ (by omega), Option.bind_some, eq_tells l l (by omega) _ (by omega), decide_eq_true rfl, Option.bind_some, if_pos rfl, hm1 _ (by omega), Option.bind_some, if_neg (by show ¬ (1 + (l.length : Int) < 0); omega), heq _ (by omega), Option.bind_some, if_pos rfl, bne_self_eq_false]
    rw [laws_FnExactCutDown.j1, if_neg (by simp)]
    unfold laws_markPart.f laws_heldPart.f
    rw [hm2 _ (by omega), Option.bind_some, Option.bind_some]
    dsimp only
    rw [hh _ (by omega), Option.bind_some, if_neg (by omega), Option.bind_some, if_neg (by omega), if_pos rfl, to_tells l (by omega) _ (by omega), Option.bind_some, g2 _ (by omega), Option.bind_some, heq _ (by omega), Option.bind_some, if_pos rfl, bne_self_eq_false, laws_FnExactCutDown.j2, if_neg (by simp)]
    unfold laws_heldPart.f
    rw [hh _ (by omega), Option.bind_some, if_neg (by omega), Option.bind_some, if_neg (by omega), if_pos rfl]

end Go.Proofs.Ytigplfheldfciaa.Pure
