/- The program's PutBack returns what the reference's PutBack returns, leaves its argument alone, and shares no memory, for all arguments. No conditions. -/
import Derived.Test.YtigplfheldfciaaPFnExactPutBackx
namespace Go.Proofs.Ytigplfheldfciaa.Pure
open Go.RowKit Go.Proofs.Ytigplfheldfciaa.PFnExactPutBack Go.Proofs.YtigplfheldfciaaW.PrintWords Go.Proofs.YtigplfheldfciaaW.PrintLast Go.Proofs.YtigplfheldfciaaW.PrintMore
set_option linter.unusedVariables false
set_option linter.unusedSimpArgs false

theorem w64 {i : Int} (h0 : -9223372036854775808 ≤ i) (h : i ≤ 9223372036854775807) : wrap64 i = i := by unfold wrap64; omega
theorem rd_get (l : List Int) (i : Nat) (h : i < l.length) : rd l (i : Int) = l[i] := by simp [rd, List.getD_eq_getElem?_getD, h]


theorem to_from (l : List Int) (hl : l.length ≤ 9223372036854775806) (d : Nat) : ∀ (k i : Nat), i ≤ l.length → l.length - i = d → d < k →
    laws_toIntS.l0 k l (l.take i ++ List.replicate (l.length - i) 0) (i : Int) = some l := by
  induction d with
  | zero =>
    intro k i hi' hd hk
    obtain ⟨k, rfl⟩ : ∃ m, k = m + 1 := ⟨k - 1, by omega⟩
    simp only [laws_toIntS.l0]; rw [if_neg (by omega), List.take_of_length_le (by omega), hd]; simp
  | succ d ih =>
    intro k i hi' hd hk
    obtain ⟨k, rfl⟩ : ∃ m, k = m + 1 := ⟨k - 1, by omega⟩
    have hlt : i < l.length := by omega
    simp only [laws_toIntS.l0]
    rw [if_pos (by omega), if_pos (by omega), if_pos (by simp; omega), rd_get l i hlt, w64 (by omega) (by omega), show ((i : Int) + 1) = ((i + 1 : Nat) : Int) by omega]
    have e : (l.take i ++ List.replicate (l.length - i) (0 : Int)).set (i : Int).toNat l[i] = l.take (i + 1) ++ List.replicate (l.length - (i + 1)) 0 := by
      rw [Int.toNat_natCast, List.set_append_right _ _ (by simp; omega), show l.length - i = (l.length - (i + 1)) + 1 by omega, List.replicate_succ, List.length_take, Nat.min_eq_left (by omega), Nat.sub_self, List.set_cons_zero, List.take_succ_eq_append_getElem hlt, List.append_assoc]
      rfl
    rw [e]
    exact ih k (i + 1) (by omega) (by omega) (by omega)
/-- laws.toIntS: a copy. -/
theorem to_tells (l : List Int) (hl : l.length ≤ 35184372088832) (k : Nat) (hk : l.length < k) : laws_toIntS.f k l = some l := by
  unfold laws_toIntS.f
  rw [if_pos (by omega), if_pos (by simpa using hl), Int.toNat_natCast]
  have := to_from l (by omega) l.length k 0 (by omega) (by omega) hk
  simpa using this


theorem eq_from (a b : List Int) (hl : a.length ≤ 9223372036854775806) (hab : a.length = b.length) (d : Nat) : ∀ (k i : Nat), i ≤ a.length → a.length - i = d → d < k →
    laws_eqIntS.l0 k a b (i : Int) = some (decide (a.drop i = b.drop i)) := by
  induction d with
  | zero =>
    intro k i hi' hd hk
    obtain ⟨k, rfl⟩ : ∃ m, k = m + 1 := ⟨k - 1, by omega⟩
    rw [List.drop_of_length_le (by omega), List.drop_of_length_le (by omega)]
    simp only [laws_eqIntS.l0]; rw [if_neg (by omega)]; simp
  | succ d ih =>
    intro k i hi' hd hk
    obtain ⟨k, rfl⟩ : ∃ m, k = m + 1 := ⟨k - 1, by omega⟩
    have hlt : i < a.length := by omega
    have hltb : i < b.length := by omega
    simp only [laws_eqIntS.l0]
    rw [if_pos (by omega), if_pos (by omega), if_pos (by omega), rd_get a i hlt, rd_get b i hltb, List.drop_eq_getElem_cons hlt, List.drop_eq_getElem_cons hltb]
    by_cases h : a[i] = b[i]
    · rw [if_pos h, w64 (by omega) (by omega), show ((i : Int) + 1) = ((i + 1 : Nat) : Int) by omega, ih k (i + 1) (by omega) (by omega) (by omega)]
      congr 1
      rw [decide_eq_decide]
      simp only [h, List.cons.injEq, true_and]
    · rw [if_neg h, decide_eq_false (fun e => h (List.cons.inj e).1)]
/-- laws.eqIntS: equal lists. -/
theorem eq_tells (a b : List Int) (hl : a.length ≤ 9223372036854775806) (k : Nat) (hk : a.length < k) : laws_eqIntS.f k a b = some (decide (a = b)) := by
  unfold laws_eqIntS.f
  by_cases h : a.length = b.length
  · rw [if_pos (by omega)]
    have := eq_from a b hl h a.length k 0 (by omega) (by omega) hk
    simpa using this
  · rw [if_neg (by omega), decide_eq_false]
    intro e; rw [e] at h; exact h rfl


def marks (z : Int) (n : Nat) : List Int := (List.range n).map fun (j : Nat) => z + (j : Int)
theorem marks_length (z : Int) (n : Nat) : (marks z n).length = n := by simp [marks]

theorem mark_from (n : Nat) (z : Int) (hz : 0 ≤ z) (hn : z + (n : Int) ≤ 9223372036854775806) (l : List Int) (hl : l.length = n) (d : Nat) : ∀ (k i : Nat), i ≤ n → n - i = d → d < k →
    laws_markIntS.l0 k (marks z i ++ l.drop i) (z + (i : Int)) (i : Int) = some (z + (n : Int), marks z n) := by
  induction d with
  | zero =>
    intro k i hi' hd hk
    obtain ⟨k, rfl⟩ : ∃ m, k = m + 1 := ⟨k - 1, by omega⟩
    obtain rfl : i = n := by omega
    simp only [laws_markIntS.l0]; rw [List.drop_of_length_le (by omega), List.append_nil, if_neg (by rw [marks_length]; omega)]
  | succ d ih =>
    intro k i hi' hd hk
    obtain ⟨k, rfl⟩ : ∃ m, k = m + 1 := ⟨k - 1, by omega⟩
    simp only [laws_markIntS.l0]
    rw [if_pos (by simp [marks_length]; omega), if_pos (by omega), w64 (i := z + (i : Int) + 1) (by omega) (by omega), w64 (i := (i : Int) + 1) (by omega) (by omega), show (z + (i : Int) + 1) = z + ((i + 1 : Nat) : Int) by omega, show ((i : Int) + 1) = ((i + 1 : Nat) : Int) by omega]
    have e : (marks z i ++ l.drop i).set (i : Int).toNat (z + (i : Int)) = marks z (i + 1) ++ l.drop (i + 1) := by
      rw [Int.toNat_natCast, List.set_append_right _ _ (by simp [marks_length]), marks_length, Nat.sub_self, List.drop_eq_getElem_cons (by omega), List.set_cons_zero]
      simp [marks, List.range_succ]
    rw [e]
    exact ih k (i + 1) (by omega) (by omega) (by omega)
/-- laws.markIntS: the numbers from z on. -/
theorem mark_tells (l : List Int) (z : Int) (hz : 0 ≤ z) (hn : z + (l.length : Int) ≤ 9223372036854775806) (k : Nat) (hk : l.length < k) : laws_markIntS.f k l z = some (z + (l.length : Int), marks z l.length) := by
  unfold laws_markIntS.f
  have := mark_from l.length z hz hn l rfl l.length k 0 (by omega) (by omega) hk
  simpa [marks] using this

theorem held_from (n : Nat) (z : Int) (hz : 0 ≤ z) (hn : z + (n : Int) ≤ 9223372036854775806) (d : Nat) : ∀ (k i : Nat), i ≤ n → n - i = d → d < k →
    laws_heldIntS.l0 k (marks z n) (z + (i : Int)) (i : Int) = some (z + (n : Int)) := by
  induction d with
  | zero =>
    intro k i hi' hd hk
    obtain ⟨k, rfl⟩ : ∃ m, k = m + 1 := ⟨k - 1, by omega⟩
    obtain rfl : i = n := by omega
    simp only [laws_heldIntS.l0]; rw [if_neg (by rw [marks_length]; omega)]
  | succ d ih =>
    intro k i hi' hd hk
    obtain ⟨k, rfl⟩ : ∃ m, k = m + 1 := ⟨k - 1, by omega⟩
    simp only [laws_heldIntS.l0]
    rw [if_pos (by rw [marks_length]; omega), if_pos (by omega), rd_get _ i (by rw [marks_length]; omega), if_pos (by simp [marks]), w64 (i := z + (i : Int) + 1) (by omega) (by omega), w64 (i := (i : Int) + 1) (by omega) (by omega), show (z + (i : Int) + 1) = z + ((i + 1 : Nat) : Int) by omega, show ((i : Int) + 1) = ((i + 1 : Nat) : Int) by omega]
    exact ih k (i + 1) (by omega) (by omega) (by omega)
/-- laws.heldIntS of what laws.markIntS left. -/
theorem held_tells (n : Nat) (z : Int) (hz : 0 ≤ z) (hn : z + (n : Int) ≤ 9223372036854775806) (k : Nat) (hk : n < k) : laws_heldIntS.f k (marks z n) z = some (z + (n : Int)) := by
  unfold laws_heldIntS.f
  have := held_from n z hz hn n k 0 (by omega) (by omega) hk
  simpa using this

theorem all_from (lo hi : Int) (l : List Int) (hl : l.length ≤ 9223372036854775806) (d : Nat) : ∀ (k i : Nat), i ≤ l.length → l.length - i = d → d < k →
    spec_l05All.l0 k l lo hi (i : Int) = some ((l.drop i).all fun x => decide (lo ≤ x) && decide (x ≤ hi)) := by
  induction d with
  | zero =>
    intro k i hi' hd hk
    obtain ⟨k, rfl⟩ : ∃ m, k = m + 1 := ⟨k - 1, by omega⟩
    rw [List.drop_of_length_le (by omega)]
    simp only [spec_l05All.l0]; rw [if_neg (by omega)]; rfl
  | succ d ih =>
    intro k i hi' hd hk
    obtain ⟨k, rfl⟩ : ∃ m, k = m + 1 := ⟨k - 1, by omega⟩
    have hlt : i < l.length := by omega
    simp only [spec_l05All.l0]
    rw [if_pos (by omega), if_pos (by omega), rd_get l i hlt, List.drop_eq_getElem_cons hlt, List.all_cons]
    unfold spec_l01In.f
    by_cases h1 : l[i] ≥ lo
    · rw [if_pos h1]
      simp only [Option.bind_some]
      by_cases h2 : l[i] ≤ hi
      · rw [decide_eq_true h2, if_pos rfl, w64 (by omega) (by omega), show ((i : Int) + 1) = ((i + 1 : Nat) : Int) by omega, ih k (i + 1) (by omega) (by omega) (by omega)]
        simp [h1]
      · rw [decide_eq_false h2]; simp
    · rw [if_neg h1]; simp only [Option.bind_some]; rw [decide_eq_false h1]; simp
/-- spec.l05All: all within. -/
theorem all_tells (lo hi : Int) (l : List Int) (hl : l.length ≤ 9223372036854775806) (k : Nat) (hk : l.length < k) : spec_l05All.f k l lo hi = some (l.all fun x => decide (lo ≤ x) && decide (x ≤ hi)) := by
  unfold spec_l05All.f
  have := all_from lo hi l hl l.length k 0 (by omega) (by omega) hk
  rw [List.drop_zero] at this
  exact this


def clampZ (x m : Int) : Int := if x > m then m else if x < -m then -m else x
theorem spec_clamp (x m : Int) (h : 0 ≤ m) (h2 : m ≤ 1000000000) : spec_l03Clamp.f x m = some (clampZ x m) := by
  unfold spec_l03Clamp.f clampZ
  rw [w64 (by omega) (by omega)]
  split
  · rfl
  · split <;> rfl
theorem impl_clamp (x m : Int) (h : 0 ≤ m) (h2 : m ≤ 1000000000) : impl_Clamp.f x m = some (clampZ x m) := by
  unfold impl_Clamp.f clampZ mx mn
  rw [if_neg (by omega), w64 (by omega) (by omega)]
  congr 1
  repeat' split
  all_goals omega

def pw (s : Int) : Int := 2 ^ s.toNat
theorem pw_pos (s : Int) : 0 < pw s := by unfold pw; exact Int.pow_pos (by omega)
theorem pw_succ (n : Nat) : pw ((n : Int) + 1) = 2 * pw (n : Int) := by
  unfold pw
  rw [show ((n : Int) + 1).toNat = n + 1 by omega, Int.pow_succ, Int.mul_comm, Int.toNat_natCast]
theorem pw_bd (s : Int) (h : s ≤ 24) : pw s ≤ 16777216 := by
  unfold pw
  have : (2 : Nat) ^ s.toNat ≤ 2 ^ 24 := Nat.pow_le_pow_right (by omega) (by omega)
  have h2 : ((2 ^ s.toNat : Nat) : Int) ≤ ((2 ^ 24 : Nat) : Int) := Int.ofNat_le.2 this
  rw [Int.natCast_pow] at h2
  exact h2
theorem pow_from (n : Nat) (hn : n ≤ 24) (d : Nat) : ∀ (k i : Nat), i + d = n → d < k → spec_l03Pow.l0 k (n : Int) (pw (i : Int)) (i : Int) = some (pw (n : Int)) := by
  induction d with
  | zero =>
    intro k i h hk
    obtain ⟨k, rfl⟩ : ∃ m, k = m + 1 := ⟨k - 1, by omega⟩
    obtain rfl : i = n := by omega
    rw [spec_l03Pow.l0, if_neg (by omega)]
  | succ d ih =>
    intro k i h hk
    obtain ⟨k, rfl⟩ : ∃ m, k = m + 1 := ⟨k - 1, by omega⟩
    have h1 := pw_bd (i : Int) (by omega)
    have h2 := pw_pos (i : Int)
    rw [spec_l03Pow.l0, if_pos (by omega), w64 (i := 2 * pw (i : Int)) (by omega) (by omega), w64 (i := (i : Int) + 1) (by omega) (by omega), ← pw_succ]
    exact ih k (i + 1) (by omega) (by omega)
theorem spec_pow (n : Int) (h0 : 0 ≤ n) (h1 : n ≤ 24) (k : Nat) (hk : 24 < k) : spec_l03Pow.f k n = some (pw n) := by
  obtain ⟨n, rfl⟩ := Int.eq_ofNat_of_zero_le h0
  unfold spec_l03Pow.f
  exact pow_from n (by omega) n k 0 (by omega) (by omega)
theorem shl_pw (n : Int) (h0 : 0 ≤ n) (h1 : n ≤ 24) : shl .i64 1 n = pw n := by
  have h2 := pw_bd n h1
  have h3 := pw_pos n
  unfold shl
  rw [show min n.toNat IntKind.i64.bits = n.toNat by rw [Nat.min_eq_left]; show n.toNat ≤ 64; omega, Int.one_mul, IntKind.wrap_i64]
  unfold pw at *
  omega

theorem zp_bd (z s : Int) (h0 : -15 ≤ z) (h1 : z ≤ 15) (s0 : 0 ≤ s) (s1 : s ≤ 4) : -240 ≤ z * pw s ∧ z * pw s ≤ 240 := by
  have : s = 0 ∨ s = 1 ∨ s = 2 ∨ s = 3 ∨ s = 4 := by omega
  rcases this with rfl | rfl | rfl | rfl | rfl
  · rw [show pw 0 = 1 from rfl]; omega
  · rw [show pw 1 = 2 from rfl]; omega
  · rw [show pw 2 = 4 from rfl]; omega
  · rw [show pw 3 = 8 from rfl]; omega
  · rw [show pw 4 = 16 from rfl]; omega
theorem shl_mul (z s : Int) (h0 : -15 ≤ z) (h1 : z ≤ 15) (s0 : 0 ≤ s) (s1 : s ≤ 4) : shl .i64 z s = z * pw s := by
  have h := zp_bd z s h0 h1 s0 s1
  unfold shl
  rw [show min s.toNat IntKind.i64.bits = s.toNat by rw [Nat.min_eq_left]; show s.toNat ≤ 64; omega, IntKind.wrap_i64]
  unfold pw at *
  omega
def keptB (s : Int) (l : List Int) : Bool := decide (0 ≤ s) && decide (s ≤ 4) && decide (1 ≤ l.length) && decide (l.length ≤ 8) && l.all fun z => decide (-15 ≤ z) && decide (z ≤ 15)
def putL (s : Int) (l : List Int) : List Int := l.map fun z => clampZ (z * pw s) 127
def putOf (s : Int) (l : List Int) : List Int × Bool := if keptB s l = true then (putL s l, true) else ([], false)
theorem putOf_len (s : Int) (l : List Int) : (putOf s l).1.length ≤ l.length := by unfold putOf; split <;> simp [putL]
theorem putL_snoc (s : Int) (l : List Int) (i : Nat) (h : i < l.length) : putL s (l.take (i + 1)) = putL s (l.take i) ++ [clampZ (l[i] * pw s) 127] := by
  rw [List.take_succ_eq_append_getElem h]; unfold putL; rw [List.map_append]; rfl
theorem kept_facts (s : Int) (l : List Int) (h : keptB s l = true) : 0 ≤ s ∧ s ≤ 4 ∧ 1 ≤ l.length ∧ l.length ≤ 8 ∧ ∀ z ∈ l, -15 ≤ z ∧ z ≤ 15 := by
  unfold keptB at h
  simp only [Bool.and_eq_true, List.all_eq_true, decide_eq_true_eq] at h
  exact ⟨h.1.1.1.1, h.1.1.1.2, h.1.1.2, h.1.2, h.2⟩
theorem spec_put_from (s : Int) (l : List Int) (h : keptB s l = true) (d : Nat) : ∀ (k i : Nat), i + d = l.length → d + 30 < k →
    spec_PutBack.l0 k (putL s (l.take i)) (i : Int) s l = some (putL s l, true) := by
  obtain ⟨s0, s1, l0, l1, hz⟩ := kept_facts s l h
  induction d with
  | zero =>
    intro k i hi hk
    obtain ⟨k, rfl⟩ : ∃ m, k = m + 1 := ⟨k - 1, by omega⟩
    rw [spec_PutBack.l0, if_neg (by omega), List.take_of_length_le (by omega)]
  | succ d ih =>
    intro k i hi hk
    obtain ⟨k, rfl⟩ : ∃ m, k = m + 1 := ⟨k - 1, by omega⟩
    have hlt : i < l.length := by omega
    have hzi := hz _ (List.getElem_mem hlt)
    have hb := zp_bd l[i] s hzi.1 hzi.2 s0 s1
    rw [spec_PutBack.l0, if_pos (by omega), if_pos (by omega), spec_pow s s0 (by omega) k (by omega), Option.bind_some, rd_get l i hlt, w64 (i := l[i] * pw s) (by omega) (by omega), spec_clamp _ 127 (by omega) (by omega), Option.bind_some, if_pos (by simp [putL]; omega), w64 (by omega) (by omega), show ((i : Int) + 1) = ((i + 1 : Nat) : Int) by omega, ← putL_snoc s l i hlt]
    exact ih k (i + 1) (by omega) (by omega)
theorem impl_put_from (s : Int) (l : List Int) (h : keptB s l = true) (d : Nat) : ∀ (k i : Nat), i + d = l.length → d + 30 < k →
    impl_PutBack.l0 k (putL s (l.take i)) l (l.length : Int) (i : Int) s l = some (putL s l, true) := by
  obtain ⟨s0, s1, l0, l1, hz⟩ := kept_facts s l h
  induction d with
  | zero =>
    intro k i hi hk
    obtain ⟨k, rfl⟩ : ∃ m, k = m + 1 := ⟨k - 1, by omega⟩
    rw [impl_PutBack.l0, if_neg (by omega), List.take_of_length_le (by omega)]
  | succ d ih =>
    intro k i hi hk
    obtain ⟨k, rfl⟩ : ∃ m, k = m + 1 := ⟨k - 1, by omega⟩
    have hlt : i < l.length := by omega
    have hzi := hz _ (List.getElem_mem hlt)
    have hb := zp_bd l[i] s hzi.1 hzi.2 s0 s1
    rw [impl_PutBack.l0, if_pos (by omega), if_pos (by omega), if_pos (by omega), if_pos s0, rd_get l i hlt, shl_mul _ s hzi.1 hzi.2 s0 s1, impl_clamp _ 127 (by omega) (by omega), Option.bind_some, if_pos (by simp [putL]; omega), w64 (by omega) (by omega), show ((i : Int) + 1) = ((i + 1 : Nat) : Int) by omega, ← putL_snoc s l i hlt]
    exact ih k (i + 1) (by omega) (by omega)
theorem keptB_no (s : Int) (l : List Int) (h : ¬ (0 ≤ s ∧ s ≤ 4 ∧ 1 ≤ l.length ∧ l.length ≤ 8)) : ¬ keptB s l = true := fun g => by
  obtain ⟨a, b, c, d, _⟩ := kept_facts s l g
  exact h ⟨a, b, c, d⟩
theorem keptB_all (s : Int) (l : List Int) (h : 0 ≤ s ∧ s ≤ 4 ∧ 1 ≤ l.length ∧ l.length ≤ 8) : (l.all fun z => decide (-15 ≤ z) && decide (z ≤ 15)) = keptB s l := by
  unfold keptB; simp [h.1, h.2.1, h.2.2.1, h.2.2.2]
theorem spec_put (s : Int) (l : List Int) (hl : l.length ≤ 1048576) (k : Nat) (hk : l.length + 50 < k) : spec_PutBack.f k s l = some (putOf s l) := by
  obtain ⟨k, rfl⟩ : ∃ m, k = m + 1 := ⟨k - 1, by omega⟩
  unfold spec_PutBack.f spec_l01In.f putOf
  rw [Option.bind_some]
  by_cases h1 : s ≥ 0
  · rw [if_pos h1, Option.bind_some]
    by_cases h2 : s ≤ 4
    · rw [decide_eq_true h2, if_pos rfl]
      by_cases h3 : (l.length : Int) ≥ 1
      · rw [if_pos h3, Option.bind_some]
        by_cases h4 : (l.length : Int) ≤ 8
        · rw [decide_eq_true h4, if_pos rfl, all_tells _ _ l (by omega) _ (by omega), Option.bind_some, keptB_all s l ⟨h1, h2, by omega, by omega⟩, spec_PutBack.j0]
          by_cases hb : keptB s l = true
          · rw [if_neg (by simp [hb]), if_pos hb]
            exact spec_put_from s l hb l.length k 0 (by omega) (by omega)
          · rw [if_pos (by simpa using hb), if_neg hb]
        · rw [decide_eq_false h4, if_neg (by simp), spec_PutBack.j0, if_pos rfl, if_neg (keptB_no s l (by omega))]
      · rw [if_neg h3, Option.bind_some, if_neg (by simp), spec_PutBack.j0, if_pos rfl, if_neg (keptB_no s l (by omega))]
    · rw [decide_eq_false h2, if_neg (by simp), spec_PutBack.j0, if_pos rfl, if_neg (keptB_no s l (by omega))]
  · rw [if_neg h1, Option.bind_some, if_neg (by simp), spec_PutBack.j0, if_pos rfl, if_neg (keptB_no s l (by omega))]
theorem impl_put (s : Int) (l : List Int) (hl : l.length ≤ 1048576) (k : Nat) (hk : l.length + 50 < k) : impl_PutBack.f k s l = some (putOf s l) := by
  obtain ⟨k, rfl⟩ : ∃ m, k = m + 1 := ⟨k - 1, by omega⟩
  unfold impl_PutBack.f impl_in.f impl_allIn.f putOf
  by_cases h1 : s ≥ 0
  · rw [if_pos h1, Option.bind_some]
    by_cases h2 : s ≤ 4
    · rw [decide_eq_true h2, if_pos rfl]
      by_cases h3 : (l.length : Int) ≥ 1
      · rw [if_pos h3, Option.bind_some]
        by_cases h4 : (l.length : Int) ≤ 8
        · rw [decide_eq_true h4, if_pos rfl, Option.bind_some, keptB_all s l ⟨h1, h2, by omega, by omega⟩, impl_PutBack.j0]
          by_cases hb : keptB s l = true
          · rw [if_neg (by simp [hb]), if_pos hb]
            exact impl_put_from s l hb l.length k 0 (by omega) (by omega)
          · rw [if_pos (by simpa using hb), if_neg hb]
        · rw [decide_eq_false h4, if_neg (by simp), impl_PutBack.j0, if_pos rfl, if_neg (keptB_no s l (by omega))]
      · rw [if_neg h3, Option.bind_some, if_neg (by simp), impl_PutBack.j0, if_pos rfl, if_neg (keptB_no s l (by omega))]
    · rw [decide_eq_false h2, if_neg (by simp), impl_PutBack.j0, if_pos rfl, if_neg (keptB_no s l (by omega))]
  · rw [if_neg h1, Option.bind_some, if_neg (by simp), impl_PutBack.j0, if_pos rfl, if_neg (keptB_no s l (by omega))]

theorem eqPart_tells (a b : Int) (x y : List Int) (hl : x.length ≤ 1048576) (k : Nat) (hk : x.length < k) : laws_eqPart.f k a x b y = some (decide (a = b) && decide (x = y)) := by
  unfold laws_eqPart.f
  by_cases h : a = b
  · rw [if_pos h, eq_tells x y (by omega) k hk, Option.bind_some, decide_eq_true h]
    by_cases g : x = y
    · rw [decide_eq_true g]; rfl
    · rw [decide_eq_false g]; rfl
  · rw [if_neg h, decide_eq_false h]; rfl
theorem eqPart_same (a : Int) (x : List Int) (hl : x.length ≤ 1048576) (k : Nat) (hk : x.length < k) : laws_eqPart.f k a x a x = some true := by
  rw [eqPart_tells a a x x hl k hk, decide_eq_true rfl, decide_eq_true rfl]; rfl

theorem toPart_tells (a : Int) (x : List Int) (hl : x.length ≤ 1048576) (k : Nat) (hk : x.length < k) : laws_toPart.f k a x = some (a, x) := by
  unfold laws_toPart.f
  rw [to_tells x (by omega) k hk, Option.bind_some]
theorem szPart_tells (a : Int) (x : List Int) (hl : x.length ≤ 9223372036854775807) (n : Int) (h0 : 0 ≤ n) (h1 : n ≤ 1048576) : laws_szPart.f a x n = some (if n < (x.length : Int) then -1 else n - (x.length : Int)) := by
  unfold laws_szPart.f laws_szIntS.f
  rw [w64 (i := n - (x.length : Int)) (by omega) (by omega)]
  by_cases h : n < (x.length : Int)
  · rw [if_pos h, if_pos (by omega), Option.bind_some, if_pos (by omega)]
  · rw [if_neg h, if_neg (by omega), Option.bind_some, if_neg (by omega)]

theorem FnExactPutBack : laws_FnExactPutBack.Pure := by
  intro x hok
  have hlen : x.f1.length ≤ 9223372036854775807 := hok.2.1
  generalize x.f0 = s
  generalize x.f1 = l at hlen
  obtain ⟨k, hk⟩ : ∃ k : Nat, k = l.length + 200 := ⟨_, rfl⟩
  refine ⟨k, ?_⟩
  unfold laws_FnExactPutBack.f
  rw [szPart_tells s l hlen 1048576 (by omega) (by omega), Option.bind_some]
  by_cases hb : (1048576 : Int) < (l.length : Int)
  · rw [if_pos hb, if_pos (by omega)]
  · rw [if_neg hb, if_neg (by omega)]
    have g1 := spec_put s l (by omega)
    have g2 := impl_put s l (by omega)
    have hc := putOf_len s l
    generalize putOf s l = C at g1 g2 hc
    have hm1 := mark_tells l 1 (by omega) (by omega)
    have hm2 := mark_tells C.1 1 (by omega) (by omega)
    have hh := held_tells C.1.length 1 (by omega) (by omega)
    obtain ⟨j, rfl⟩ : ∃ j, k = j + 1 + 1 + 1 := ⟨k - 3, by omega⟩
    rw [toPart_tells s l (by omega) _ (by omega), Option.bind_some, g1 _ (by omega), Option.bind_some, Option.bind_some, g2 _ (by omega), Option.bind_some, eq_tells C.1 C.1 (by omega) _ (by omega), decide_eq_true rfl, Option.bind_some, if_pos rfl, bne_self_eq_false]
    rw [laws_FnExactPutBack.j0, if_neg (by simp), toPart_tells s l (by omega) _ (by omega), Option.bind_some, eqPart_same s l (by omega) _ (by omega), Option.bind_some, if_pos rfl]
    unfold laws_markPart.f
    rw [hm1 _ (by omega), Option.bind_some, Option.bind_some, if_neg (by show ¬ (1 + (l.length : Int) < 0); omega), eq_tells C.1 C.1 (by omega) _ (by omega), decide_eq_true rfl, Option.bind_some, if_pos rfl, bne_self_eq_false]
    rw [laws_FnExactPutBack.j1, if_neg (by simp), hm2 _ (by omega), Option.bind_some]
    dsimp only
    rw [hh _ (by omega), Option.bind_some, if_neg (by omega), if_pos rfl, toPart_tells s l (by omega) _ (by omega), Option.bind_some, g2 _ (by omega), Option.bind_some, eq_tells C.1 C.1 (by omega) _ (by omega), decide_eq_true rfl, Option.bind_some, if_pos rfl, bne_self_eq_false, laws_FnExactPutBack.j2, if_neg (by simp)]
    rw [hh _ (by omega), Option.bind_some, if_neg (by omega), if_pos rfl]

end Go.Proofs.Ytigplfheldfciaa.Pure
