/- The program's Attend hands back just what the reference's Attend hands back, for all arguments, in memory of its own, and leaves its arguments alone. No conditions. -/
import Derived.Test.YtlpginalgdbopaaPFnExactAttendx
namespace Go.Proofs.Ytlpginalgdbopaa.Pure
open Go.RowKit Go.Proofs.Ytlpginalgdbopaa.PFnExactAttend Go.Proofs.YtlpginalgdbopaaW.PrintWords Go.Proofs.YtlpginalgdbopaaW.PrintLast Go.Proofs.YtlpginalgdbopaaW.PrintMore
set_option linter.unusedVariables false
set_option linter.unusedSimpArgs false

theorem w64 {i : Int} (h0 : -9223372036854775808 ≤ i) (h : i ≤ 9223372036854775807) : wrap64 i = i := by unfold wrap64; omega
theorem rd_get (l : List Int) (i : Nat) (h : i < l.length) : rd l (i : Int) = l[i] := by simp [rd, List.getD_eq_getElem?_getD, h]


theorem to_from (l : List Int) (hl : l.length ≤ 9223372036854775806) (d : Nat) : ∀ (k i : Nat), i ≤ l.length → l.length - i = d → d < k →
    laws_toIntS.l0 k l (l.take i ++ List.replicate (l.length - i) 0) (i : Int) = some l := by
  induction d with
  | zero =>
    intro k i hi' hd hk
    obtain ⟨k, rfl⟩ : ∃ m, k = m + 1 := ⟨k - 1, by omega⟩
    simp only [laws_toIntS.l0]; rw [if_neg (by omega), List.take_of_length_le (by omega), hd]; simp
  | succ d ih =>
    intro k i hi' hd hk
    obtain ⟨k, rfl⟩ : ∃ m, k = m + 1 := ⟨k - 1, by omega⟩
    have hlt : i < l.length := by omega
    simp only [laws_toIntS.l0]
    rw [if_pos (by omega), if_pos (by omega), if_pos (by simp; omega), rd_get l i hlt, w64 (by omega) (by omega), show ((i : Int) + 1) = ((i + 1 : Nat) : Int) by omega]
    have e : (l.take i ++ List.replicate (l.length - i) (0 : Int)).set (i : Int).toNat l[i] = l.take (i + 1) ++ List.replicate (l.length - (i + 1)) 0 := by
      rw [Int.toNat_natCast, List.set_append_right _ _ (by simp; omega), show l.length - i = (l.length - (i + 1)) + 1 by omega, List.replicate_succ, List.length_take, Nat.min_eq_left (by omega), Nat.sub_self, List.set_cons_zero, List.take_succ_eq_append_getElem hlt, List.append_assoc]
      rfl
    rw [e]
    exact ih k (i + 1) (by omega) (by omega) (by omega)
/-- laws.toIntS: a copy. -/
theorem to_tells (l : List Int) (hl : l.length ≤ 35184372088832) (k : Nat) (hk : l.length < k) : laws_toIntS.f k l = some l := by
  unfold laws_toIntS.f
  rw [if_pos (by omega), if_pos (by simpa using hl), Int.toNat_natCast]
  have := to_from l (by omega) l.length k 0 (by omega) (by omega) hk
  simpa using this


theorem eq_from (a b : List Int) (hl : a.length ≤ 9223372036854775806) (hab : a.length = b.length) (d : Nat) : ∀ (k i : Nat), i ≤ a.length → a.length - i = d → d < k →
    laws_eqIntS.l0 k a b (i : Int) = some (decide (a.drop i = b.drop i)) := by
  induction d with
  | zero =>
    intro k i hi' hd hk
    obtain ⟨k, rfl⟩ : ∃ m, k = m + 1 := ⟨k - 1, by omega⟩
    rw [List.drop_of_length_le (by omega), List.drop_of_length_le (by omega)]
    simp only [laws_eqIntS.l0]; rw [if_neg (by omega)]; simp
  | succ d ih =>
    intro k i hi' hd hk
    obtain ⟨k, rfl⟩ : ∃ m, k = m + 1 := ⟨k - 1, by omega⟩
    have hlt : i < a.length := by omega
    have hltb : i < b.length := by omega
    simp only [laws_eqIntS.l0]
    rw [if_pos (by omega), if_pos (by omega), if_pos (by omega), rd_get a i hlt, rd_get b i hltb, List.drop_eq_getElem_cons hlt, List.drop_eq_getElem_cons hltb]
    by_cases h : a[i] = b[i]
    · rw [if_pos h, w64 (by omega) (by omega), show ((i : Int) + 1) = ((i + 1 : Nat) : Int) by omega, ih k (i + 1) (by omega) (by omega) (by omega)]
      congr 1
      rw [decide_eq_decide]
      simp only [h, List.cons.injEq, true_and]
    · rw [if_neg h, decide_eq_false (fun e => h (List.cons.inj e).1)]
/-- laws.eqIntS: equal lists. -/
theorem eq_tells (a b : List Int) (hl : a.length ≤ 9223372036854775806) (k : Nat) (hk : a.length < k) : laws_eqIntS.f k a b = some (decide (a = b)) := by
  unfold laws_eqIntS.f
  by_cases h : a.length = b.length
  · rw [if_pos (by omega)]
    have := eq_from a b hl h a.length k 0 (by omega) (by omega) hk
    simpa using this
  · rw [if_neg (by omega), decide_eq_false]
    intro e; rw [e] at h; exact h rfl


theorem all_from (lo hi : Int) (l : List Int) (hl : l.length ≤ 9223372036854775806) (d : Nat) : ∀ (k i : Nat), i ≤ l.length → l.length - i = d → d < k →
    spec_l05All.l0 k l lo hi (i : Int) = some ((l.drop i).all fun x => decide (lo ≤ x) && decide (x ≤ hi)) := by
  induction d with
  | zero =>
    intro k i hi' hd hk
    obtain ⟨k, rfl⟩ : ∃ m, k = m + 1 := ⟨k - 1, by omega⟩
    rw [List.drop_of_length_le (by omega)]
    simp only [spec_l05All.l0]; rw [if_neg (by omega)]; rfl
  | succ d ih =>
    intro k i hi' hd hk
    obtain ⟨k, rfl⟩ : ∃ m, k = m + 1 := ⟨k - 1, by omega⟩
    have hlt : i < l.length := by omega
    simp only [spec_l05All.l0]
    rw [if_pos (by omega), if_pos (by omega), rd_get l i hlt, List.drop_eq_getElem_cons hlt, List.all_cons]
    unfold spec_l01In.f
    by_cases h1 : l[i] ≥ lo
    · rw [if_pos h1]
      simp only [Option.bind_some]
      by_cases h2 : l[i] ≤ hi
      · rw [decide_eq_true h2, if_pos rfl, w64 (by omega) (by omega), show ((i : Int) + 1) = ((i + 1 : Nat) : Int) by omega, ih k (i + 1) (by omega) (by omega) (by omega)]
        simp [h1]
      · rw [decide_eq_false h2]; simp
    · rw [if_neg h1]; simp only [Option.bind_some]; rw [decide_eq_false h1]; simp
/-- spec.l05All: all within. -/
theorem all_tells (lo hi : Int) (l : List Int) (hl : l.length ≤ 9223372036854775806) (k : Nat) (hk : l.length < k) : spec_l05All.f k l lo hi = some (l.all fun x => decide (lo ≤ x) && decide (x ≤ hi)) := by
  unfold spec_l05All.f
  have := all_from lo hi l hl l.length k 0 (by omega) (by omega) hk
  rw [List.drop_zero] at this
  exact this


def floorZ (a b : Int) : Int := a.tdiv b + (if a.tmod b < 0 then -1 else 0)
theorem tdiv_bd (a b : Int) (hb : 0 < b) (m : Int) (h0 : -m ≤ a) (h1 : a ≤ m) : -m ≤ a.tdiv b ∧ a.tdiv b ≤ m := by
  rcases Int.le_total 0 a with h | h
  · have e := Int.tdiv_eq_ediv_of_nonneg h (b := b)
    have e1 := Int.ediv_nonneg h (Int.le_of_lt hb)
    have e2 : a / b ≤ a := Int.ediv_le_self b h
    omega
  · have h' : 0 ≤ -a := by omega
    have e := Int.tdiv_eq_ediv_of_nonneg h' (b := b)
    have e1 := Int.ediv_nonneg h' (Int.le_of_lt hb)
    have e2 : -a / b ≤ -a := Int.ediv_le_self b h'
    rw [Int.neg_tdiv] at e
    omega

theorem impl_floor (a b : Int) (hb : 0 < b) (h0 : -1000000000000 ≤ a) (h1 : a ≤ 1000000000000) (k : Nat) (hk : 1 < k) : impl_FloorDiv.f k a b = some (floorZ a b) := by
  obtain ⟨k, rfl⟩ : ∃ m, k = m + 1 := ⟨k - 1, by omega⟩
  have hd := tdiv_bd a b hb 1000000000000 h0 h1
  unfold impl_FloorDiv.f impl_in.f
  rw [if_neg (by omega), if_pos (by omega), decide_eq_true h1, Option.bind_some, impl_FloorDiv.j0, if_neg (by simp), if_neg (by omega), w64 (i := a.tdiv b) (by omega) (by omega), w64 (i := a.tdiv b - 1) (by omega) (by omega)]
  unfold floorZ
  by_cases h : a.tmod b < 0
  · rw [if_pos h, if_pos h]; rfl
  · rw [if_neg h, if_neg h, Int.add_zero]

def vecB (x : List Int) : Bool := decide (1 ≤ x.length) && decide (x.length ≤ 8) && x.all fun z => decide (-127 ≤ z) && decide (z ≤ 127)
theorem vec_at (x : List Int) (h : vecB x = true) (i : Nat) (hi : i < x.length) : -127 ≤ rd x (i : Int) ∧ rd x (i : Int) ≤ 127 := by
  unfold vecB at h
  simp only [Bool.and_eq_true, List.all_eq_true, decide_eq_true_eq] at h
  rw [rd_get x i hi]
  exact h.2 _ (List.getElem_mem hi)

theorem mul_bd (a b : Int) (m : Int) (ha : -m ≤ a) (ha2 : a ≤ m) (hb : -m ≤ b) (hb2 : b ≤ m) : -(m * m) ≤ a * b ∧ a * b ≤ m * m := by
  have h1 : 0 ≤ (m - a) * (m + b) := Int.mul_nonneg (by omega) (by omega)
  have h2 : 0 ≤ (m + a) * (m - b) := Int.mul_nonneg (by omega) (by omega)
  have h3 : 0 ≤ (m - a) * (m - b) := Int.mul_nonneg (by omega) (by omega)
  have h4 : 0 ≤ (m + a) * (m + b) := Int.mul_nonneg (by omega) (by omega)
  simp only [Int.sub_mul, Int.mul_sub, Int.add_mul, Int.mul_add] at h1 h2 h3 h4
  rw [Int.mul_comm m b] at h1 h2 h3 h4
  omega

theorem spec_vec (x : List Int) (hl : x.length ≤ 1048576) (k : Nat) (hk : x.length < k) : spec_l16Vec.f k x = some (vecB x) := by
  unfold spec_l16Vec.f spec_l01In.f vecB
  by_cases h1 : (x.length : Int) ≥ 1
  · rw [if_pos h1, Option.bind_some]
    by_cases h2 : (x.length : Int) ≤ 8
    · rw [decide_eq_true h2, if_pos rfl, all_tells (-127) 127 x (by omega) k hk, Option.bind_some, decide_eq_true (show 1 ≤ x.length by omega), decide_eq_true (show x.length ≤ 8 by omega)]; rfl
    · rw [decide_eq_false h2, if_neg (by simp), decide_eq_false (show ¬ x.length ≤ 8 by omega)]; simp
  · rw [if_neg h1, Option.bind_some, if_neg (by simp), decide_eq_false (show ¬ 1 ≤ x.length by omega)]; rfl

theorem spec_floor (a b : Int) (hb : 0 < b) (h0 : -4000000000000000000 ≤ a) (h1 : a ≤ 4000000000000000000) : spec_l03Floor.f a b = some (floorZ a b) := by
  have hd := tdiv_bd a b hb 4000000000000000000 h0 h1
  unfold spec_l03Floor.f floorZ
  rw [if_neg (by omega), w64 (i := a.tdiv b) (by omega) (by omega), w64 (i := a.tdiv b - 1) (by omega) (by omega)]
  by_cases h : a.tmod b < 0
  · rw [if_pos h, if_pos h]; rfl
  · rw [if_neg h, if_neg h, Int.add_zero]

theorem score_from (x y : List Int) (hx : vecB x = true) (hy : vecB y = true) (hab : x.length = y.length) (hl : x.length ≤ 8) (d : Nat) : ∀ (i : Nat) (s : Int), i + d = x.length → -(16129 * (i : Int)) ≤ s → s ≤ 16129 * (i : Int) →
    ∃ r, (∀ k, d + 3 < k → spec_Score.l0 k x y s (i : Int) = some (r, true)) ∧ (∀ k, d + 3 < k → impl_Score.l0 k y s x (x.length : Int) (i : Int) = some (r, true)) := by
  induction d with
  | zero =>
    intro i s h h0 h1
    refine ⟨floorZ s 16, fun k hk => ?_, fun k hk => ?_⟩
    · obtain ⟨k, rfl⟩ : ∃ m, k = m + 1 := ⟨k - 1, by omega⟩
      rw [spec_Score.l0, if_neg (by omega), spec_floor s 16 (by omega) (by omega) (by omega), Option.bind_some]
    · obtain ⟨k, rfl⟩ : ∃ m, k = m + 1 := ⟨k - 1, by omega⟩
      rw [impl_Score.l0, if_neg (by omega), impl_floor s 16 (by omega) (by omega) (by omega) k (by omega), Option.bind_some]
  | succ d ih =>
    intro i s h h0 h1
    have ha := vec_at x hx i (by omega)
    have hb := vec_at y hy i (by omega)
    have hm := mul_bd (rd x (i : Int)) (rd y (i : Int)) 127 (by omega) (by omega) (by omega) (by omega)
    obtain ⟨r, r1, r2⟩ := ih (i + 1) (s + rd x (i : Int) * rd y (i : Int)) (by omega) (by omega) (by omega)
    refine ⟨r, fun k hk => ?_, fun k hk => ?_⟩
    · obtain ⟨k, rfl⟩ : ∃ m, k = m + 1 := ⟨k - 1, by omega⟩
      rw [spec_Score.l0, if_pos (by omega), if_pos (by omega), if_pos (by omega), w64 (i := rd x (i : Int) * rd y (i : Int)) (by omega) (by omega), w64 (i := s + rd x (i : Int) * rd y (i : Int)) (by omega) (by omega), w64 (i := (i : Int) + 1) (by omega) (by omega), show ((i : Int) + 1) = ((i + 1 : Nat) : Int) by omega]
      exact r1 k (by omega)
    · obtain ⟨k, rfl⟩ : ∃ m, k = m + 1 := ⟨k - 1, by omega⟩
      rw [impl_Score.l0, if_pos (by omega), if_pos (by omega), if_pos (by omega), if_pos (by omega), w64 (i := rd x (i : Int) * rd y (i : Int)) (by omega) (by omega), w64 (i := s + rd x (i : Int) * rd y (i : Int)) (by omega) (by omega), w64 (i := (i : Int) + 1) (by omega) (by omega), show ((i : Int) + 1) = ((i + 1 : Nat) : Int) by omega]
      exact r2 k (by omega)
theorem score_both (x y : List Int) (hl : x.length ≤ 1048576) (hl' : y.length ≤ 1048576) :
    ∃ C : Int × Bool, (∀ k, x.length + y.length + 20 < k → spec_Score.f k x y = some C) ∧ (∀ k, x.length + y.length + 20 < k → impl_Score.f k x y = some C) := by
  by_cases hab : x.length = y.length
  · by_cases hB : vecB x = true ∧ vecB y = true
    · have hB1 := hB.1
      unfold vecB at hB1
      simp only [Bool.and_eq_true, decide_eq_true_eq] at hB1
      have hB2 := hB.2
      unfold vecB at hB2
      simp only [Bool.and_eq_true, decide_eq_true_eq] at hB2
      obtain ⟨r, r1, r2⟩ := score_from x y hB.1 hB.2 hab hB1.1.2 x.length 0 0 (by omega) (by omega) (by omega)
      refine ⟨(r, true), fun k hk => ?_, fun k hk => ?_⟩
      · obtain ⟨k, rfl⟩ : ∃ m, k = m + 1 := ⟨k - 1, by omega⟩
        unfold spec_Score.f
        rw [spec_vec x hl _ (by omega), hB.1, Option.bind_some, if_pos rfl, spec_vec y hl' _ (by omega), hB.2, Option.bind_some, if_pos rfl, spec_Score.j0, if_neg (by simp; omega)]
        exact r1 k (by omega)
      · obtain ⟨k, rfl⟩ : ∃ m, k = m + 1 := ⟨k - 1, by omega⟩
        unfold impl_Score.f impl_in.f impl_allIn.f
        rw [if_pos (by omega), if_pos (by omega), decide_eq_true (by omega), Option.bind_some, if_pos rfl, hB1.2, Option.bind_some, if_pos rfl, hB2.2, Option.bind_some, impl_Score.j0, if_neg (by simp)]
        exact r2 k (by omega)
    · refine ⟨(0, false), fun k hk => ?_, fun k hk => ?_⟩
      · obtain ⟨k, rfl⟩ : ∃ m, k = m + 1 := ⟨k - 1, by omega⟩
        unfold spec_Score.f
        rw [spec_vec x hl _ (by omega), Option.bind_some]
        by_cases h1 : vecB x = true
        · rw [if_pos h1, spec_vec y hl' _ (by omega), Option.bind_some, if_neg (fun h => hB ⟨h1, h⟩), spec_Score.j0, if_pos rfl]
        · rw [if_neg h1, spec_Score.j0, if_pos rfl]
      · obtain ⟨k, rfl⟩ : ∃ m, k = m + 1 := ⟨k - 1, by omega⟩
        unfold impl_Score.f impl_in.f impl_allIn.f
        rw [if_pos (by omega)]
        have hB' : ¬ ((1 ≤ x.length ∧ x.length ≤ 8) ∧ (x.all fun z => decide (-127 ≤ z) && decide (z ≤ 127)) = true ∧ (y.all fun z => decide (-127 ≤ z) && decide (z ≤ 127)) = true) := by
          rintro ⟨⟨h1, h2⟩, h3, h4⟩
          exact hB ⟨by unfold vecB; rw [h3]; simp [h1, h2], by unfold vecB; rw [h4]; simp [← hab, h1, h2]⟩
        by_cases g1 : (x.length : Int) ≥ 1
        · rw [if_pos g1, Option.bind_some]
          by_cases g2 : (x.length : Int) ≤ 8
          · rw [decide_eq_true g2, if_pos rfl, Option.bind_some]
            by_cases g3 : (x.all fun z => decide (-127 ≤ z) && decide (z ≤ 127)) = true
            · rw [if_pos g3, Option.bind_some, impl_Score.j0, if_pos]
              by_cases g4 : (y.all fun z => decide (-127 ≤ z) && decide (z ≤ 127)) = true
              · exact absurd ⟨⟨by omega, by omega⟩, g3, g4⟩ hB'
              · simpa using g4
            · rw [if_neg g3, impl_Score.j0, if_pos rfl]
          · rw [decide_eq_false g2, if_neg (by simp), impl_Score.j0, if_pos rfl]
        · rw [if_neg g1, Option.bind_some, if_neg (by simp), impl_Score.j0, if_pos rfl]
  · refine ⟨(0, false), fun k hk => ?_, fun k hk => ?_⟩
    · obtain ⟨k, rfl⟩ : ∃ m, k = m + 1 := ⟨k - 1, by omega⟩
      unfold spec_Score.f
      rw [spec_vec x hl _ (by omega), Option.bind_some]
      by_cases h1 : vecB x = true
      · rw [if_pos h1, spec_vec y hl' _ (by omega), Option.bind_some]
        by_cases h2 : vecB y = true
        · rw [if_pos h2, spec_Score.j0, if_pos (by simp; omega)]
        · rw [if_neg h2, spec_Score.j0, if_pos rfl]
      · rw [if_neg h1, spec_Score.j0, if_pos rfl]
    · obtain ⟨k, rfl⟩ : ∃ m, k = m + 1 := ⟨k - 1, by omega⟩
      unfold impl_Score.f
      rw [if_neg (by omega), impl_Score.j0, if_pos rfl]

def pw (s : Int) : Int := 2 ^ s.toNat
theorem pw_pos (s : Int) : 0 < pw s := by unfold pw; exact Int.pow_pos (by omega)
theorem pw_succ (n : Nat) : pw ((n : Int) + 1) = 2 * pw (n : Int) := by
  unfold pw
  rw [show ((n : Int) + 1).toNat = n + 1 by omega, Int.pow_succ, Int.mul_comm, Int.toNat_natCast]
theorem pw_bd (s : Int) (h : s ≤ 24) : pw s ≤ 16777216 := by
  unfold pw
  have : (2 : Nat) ^ s.toNat ≤ 2 ^ 24 := Nat.pow_le_pow_right (by omega) (by omega)
  have h2 : ((2 ^ s.toNat : Nat) : Int) ≤ ((2 ^ 24 : Nat) : Int) := Int.ofNat_le.2 this
  rw [Int.natCast_pow] at h2
  exact h2
theorem pow_from (n : Nat) (hn : n ≤ 24) (d : Nat) : ∀ (k i : Nat), i + d = n → d < k → spec_l03Pow.l0 k (n : Int) (pw (i : Int)) (i : Int) = some (pw (n : Int)) := by
  induction d with
  | zero =>
    intro k i h hk
    obtain ⟨k, rfl⟩ : ∃ m, k = m + 1 := ⟨k - 1, by omega⟩
    obtain rfl : i = n := by omega
    rw [spec_l03Pow.l0, if_neg (by omega)]
  | succ d ih =>
    intro k i h hk
    obtain ⟨k, rfl⟩ : ∃ m, k = m + 1 := ⟨k - 1, by omega⟩
    have h1 := pw_bd (i : Int) (by omega)
    have h2 := pw_pos (i : Int)
    rw [spec_l03Pow.l0, if_pos (by omega), w64 (i := 2 * pw (i : Int)) (by omega) (by omega), w64 (i := (i : Int) + 1) (by omega) (by omega), ← pw_succ]
    exact ih k (i + 1) (by omega) (by omega)
theorem spec_pow (n : Int) (h0 : 0 ≤ n) (h1 : n ≤ 24) (k : Nat) (hk : 24 < k) : spec_l03Pow.f k n = some (pw n) := by
  obtain ⟨n, rfl⟩ := Int.eq_ofNat_of_zero_le h0
  unfold spec_l03Pow.f
  exact pow_from n (by omega) n k 0 (by omega) (by omega)
theorem shl_pw (n : Int) (h0 : 0 ≤ n) (h1 : n ≤ 24) : shl .i64 1 n = pw n := by
  have h2 := pw_bd n h1
  have h3 := pw_pos n
  unfold shl
  rw [show min n.toNat IntKind.i64.bits = n.toNat by rw [Nat.min_eq_left]; show n.toNat ≤ 64; omega, Int.one_mul, IntKind.wrap_i64]
  unfold pw at *
  omega

def expV (x : Int) : Int := 256 - (-x) % 177 + ((-x) % 177 * ((-x) % 177)) / 512
def expZ (x : Int) : Int := if x < -4000 then 0 else expV x / pw ((-x) / 177)
theorem exp_sq (x : Int) : 0 ≤ (-x) % 177 * ((-x) % 177) ∧ (-x) % 177 * ((-x) % 177) ≤ 176 * ((-x) % 177) := by
  have h1 : 0 ≤ (-x) % 177 := by omega
  have h2 : (-x) % 177 ≤ 176 := by omega
  exact ⟨Int.mul_nonneg h1 h1, Int.mul_le_mul_of_nonneg_right h2 h1⟩
theorem expV_bd (x : Int) : 0 ≤ expV x ∧ expV x ≤ 256 := by
  have := exp_sq x
  unfold expV
  omega
theorem expZ_bd (x : Int) : 0 ≤ expZ x ∧ expZ x ≤ 256 := by
  unfold expZ
  split
  · omega
  · have h := expV_bd x
    have h1 := Int.ediv_nonneg h.1 (Int.le_of_lt (pw_pos ((-x) / 177)))
    have h2 : expV x / pw ((-x) / 177) ≤ expV x := Int.ediv_le_self _ h.1
    omega
theorem expZ_zero : expZ 0 = 256 := by decide
theorem impl_exp (x : Int) (h0 : -1000000 ≤ x) (h1 : x ≤ 0) : impl_Exp.f x = some (expZ x) := by
  unfold impl_Exp.f expZ
  by_cases h : x < -4000
  · rw [if_pos h, if_pos h]
  · have hq := exp_sq x
    have hv := expV_bd x
    have hv2 : 256 - (-x) % 177 + ((-x) % 177 * ((-x) % 177)) / 512 = expV x := rfl
    rw [if_neg h, if_neg (by omega), if_neg h, w64 (i := -x) (by omega) (by omega), Int.tdiv_eq_ediv_of_nonneg (by omega), Int.tmod_eq_emod_of_nonneg (by omega), w64 (i := -x / 177) (by omega) (by omega), if_pos (by omega),
      w64 (i := 256 - -x % 177) (by omega) (by omega), w64 (i := -x % 177 * (-x % 177)) (by omega) (by omega), Int.tdiv_eq_ediv_of_nonneg (by omega), w64 (i := -x % 177 * (-x % 177) / 512) (by omega) (by omega), hv2, w64 (i := expV x) (by omega) (by omega)]
    unfold shr pw
    rw [show min (-x / 177).toNat IntKind.i64.bits = (-x / 177).toNat by rw [Nat.min_eq_left]; show (-x / 177).toNat ≤ 64; omega]
theorem spec_exp (x : Int) (h0 : -1000000 ≤ x) (h1 : x ≤ 0) (k : Nat) (hk : 24 < k) : spec_Exp.f k x = some (expZ x) := by
  unfold spec_Exp.f expZ
  by_cases h : x < -4000
  · rw [if_neg (by omega), if_pos h, if_pos h]
  · have hq := exp_sq x
    have hv := expV_bd x
    have hv2 : 256 - (-x) % 177 + ((-x) % 177 * ((-x) % 177)) / 512 = expV x := rfl
    have hp := pw_pos (-x / 177)
    have hd := expZ_bd x
    unfold expZ at hd
    rw [if_neg h] at hd
    rw [if_neg (by omega), if_neg h, if_neg h, w64 (i := -x) (by omega) (by omega), Int.tdiv_eq_ediv_of_nonneg (a := -x) (by omega), Int.tmod_eq_emod_of_nonneg (by omega), w64 (i := -x / 177) (by omega) (by omega), spec_pow _ (by omega) (by omega) k hk, Option.bind_some, if_neg (by omega),
      w64 (i := 256 - -x % 177) (by omega) (by omega), w64 (i := -x % 177 * (-x % 177)) (by omega) (by omega), Int.tdiv_eq_ediv_of_nonneg (a := -x % 177 * (-x % 177)) (by omega), w64 (i := -x % 177 * (-x % 177) / 512) (by omega) (by omega), hv2, w64 (i := expV x) (by omega) (by omega), Int.tdiv_eq_ediv_of_nonneg (by omega), w64 (by omega) (by omega)]
def eL (l : List Int) (g : Int) (n : Nat) : List Int := (List.range n).map fun (i : Nat) => expZ (rd l (i : Int) - g)
def eS (l : List Int) (g : Int) : Nat → Int
  | 0 => 0
  | n + 1 => eS l g n + expZ (rd l (n : Int) - g)
theorem eL_succ (l : List Int) (g : Int) (n : Nat) : eL l g (n + 1) = eL l g n ++ [expZ (rd l (n : Int) - g)] := by simp [eL, List.range_succ]
theorem eL_len (l : List Int) (g : Int) (n : Nat) : (eL l g n).length = n := by simp [eL]
theorem eS_bd (l : List Int) (g : Int) : ∀ n, 0 ≤ eS l g n ∧ eS l g n ≤ 256 * (n : Int)
  | 0 => by simp [eS]
  | n + 1 => by
    have ih := eS_bd l g n
    have := expZ_bd (rd l (n : Int) - g)
    rw [eS]
    omega
theorem eS_has (l : List Int) (g : Int) (i : Nat) (h : rd l (i : Int) = g) : ∀ n, i < n → 256 ≤ eS l g n
  | 0, hi => by omega
  | n + 1, hi => by
    have := expZ_bd (rd l (n : Int) - g)
    have b := eS_bd l g n
    rw [eS]
    by_cases e : i = n
    · subst e
      rw [h, Int.sub_self, expZ_zero]
      omega
    · have := eS_has l g i h n (by omega)
      omega
theorem max_facts (l : List Int) (m : Int) (hb : ∀ i : Nat, i < l.length → -m ≤ rd l (i : Int) ∧ rd l (i : Int) ≤ m) : ∀ n, n < l.length → (∃ i, i ≤ n ∧ rd l (i : Int) = slices_Max_int_int.to l n) ∧ (∀ i : Nat, i ≤ n → rd l (i : Int) ≤ slices_Max_int_int.to l n) ∧ -m ≤ slices_Max_int_int.to l n ∧ slices_Max_int_int.to l n ≤ m
  | 0, h => by
    have := hb 0 h
    exact ⟨⟨0, Nat.le_refl _, rfl⟩, fun i hi => (by obtain rfl : i = 0 := (by omega); exact Int.le_refl _), this.1, this.2⟩
  | n + 1, h => by
    obtain ⟨⟨i, hi, e⟩, h2, h3, h4⟩ := max_facts l m hb n (by omega)
    have hn := hb (n + 1) h
    rw [slices_Max_int_int.to]
    unfold mx
    by_cases c : slices_Max_int_int.to l n < rd l ((n + 1 : Nat) : Int)
    · rw [if_pos c]
      refine ⟨⟨n + 1, Nat.le_refl _, rfl⟩, fun j hj => ?_, hn.1, hn.2⟩
      by_cases ej : j = n + 1
      · subst ej; exact Int.le_refl _
      · have := h2 j (by omega); omega
    · rw [if_neg c]
      refine ⟨⟨i, by omega, e⟩, fun j hj => ?_, h3, h4⟩
      by_cases ej : j = n + 1
      · subst ej; omega
      · exact h2 j (by omega)
def sharesOf (l : List Int) : List Int × Bool := if impl_Shares.ok l then ((eL l (slices_Max_int_int.to l (l.length - 1)) l.length).map (impl_Shares.part (eS l (slices_Max_int_int.to l (l.length - 1)) l.length)), true) else ([], false)
structure ShOk (l : List Int) (g : Int) : Prop where
  l1 : 1 ≤ l.length
  l2 : l.length ≤ 32
  b : ∀ i : Nat, i < l.length → -100000 ≤ rd l (i : Int) ∧ rd l (i : Int) ≤ 100000
  g1 : -100000 ≤ g
  g2 : g ≤ 100000
  t : ∀ i : Nat, i < l.length → rd l (i : Int) ≤ g
  e : ∃ i : Nat, i < l.length ∧ rd l (i : Int) = g
theorem sh_ok (l : List Int) (h : impl_Shares.ok l = true) : ShOk l (slices_Max_int_int.to l (l.length - 1)) := by
  unfold impl_Shares.ok at h
  simp only [Bool.and_eq_true, decide_eq_true_eq, List.all_eq_true] at h
  obtain ⟨⟨h1, h2⟩, h3⟩ := h
  have hb : ∀ i : Nat, i < l.length → -100000 ≤ rd l (i : Int) ∧ rd l (i : Int) ≤ 100000 := fun i hi => h3 _ (by rw [rd_get l i hi]; exact List.getElem_mem hi)
  obtain ⟨⟨i, hi, e⟩, a, b, c⟩ := max_facts l 100000 hb (l.length - 1) (by omega)
  exact ⟨h1, h2, hb, b, c, fun j hj => a j (by omega), i, by omega, e⟩
theorem impl_es (l : List Int) (g : Int) (h : ShOk l g) : ∀ n, n ≤ l.length → impl_Shares.es l g n = some (eL l g n, eS l g n)
  | 0, _ => rfl
  | n + 1, hn => by
    have b := h.b n (by omega)
    have t := h.t n (by omega)
    have g1 := h.g1
    have g2 := h.g2
    have s := eS_bd l g n
    have e := expZ_bd (rd l (n : Int) - g)
    have l2 := h.l2
    rw [impl_Shares.es, impl_es l g h n (by omega), Option.bind_some, w64 (i := rd l (n : Int) - g) (by omega) (by omega), impl_exp _ (by omega) (by omega), Option.bind_some, eL_succ, eS]
    show some (_, wrap64 (eS l g n + _)) = _
    rw [w64 (by omega) (by omega)]
theorem impl_shares (l : List Int) : impl_Shares.f l = some (sharesOf l) := by
  unfold impl_Shares.f sharesOf
  cases hok : impl_Shares.ok l with
  | false => rw [if_neg (by simp), if_neg (by simp)]
  | true =>
    have h := sh_ok l hok
    obtain ⟨i, hi, e⟩ := h.e
    have := eS_has l _ i e l.length hi
    rw [if_pos rfl, if_pos rfl]
    unfold slices_Max_int_int.f
    rw [if_pos (by omega), Option.bind_some, impl_es l _ h l.length (Nat.le_refl _), Option.bind_some, if_neg (by show ¬ eS l _ l.length = 0; omega)]
theorem spec_sh_l0 (l : List Int) (hl : l.length ≤ 32) (h1 : 1 ≤ l.length) (k : Nat) (d : Nat) : ∀ i, i + d = l.length →
    spec_Shares.l0 (k + d + 1) l [] (slices_Max_int_int.to l (i - 1)) (i : Int) = spec_Shares.l1 k l [] (slices_Max_int_int.to l (l.length - 1)) 0 0 := by
  induction d with
  | zero =>
    intro i hi
    obtain rfl : i = l.length := by omega
    rw [spec_Shares.l0, if_neg (by omega)]
  | succ d ih =>
    intro i hi
    have ih := ih (i + 1) (by omega)
    rw [show k + (d + 1) + 1 = (k + d + 1) + 1 by omega, spec_Shares.l0, if_pos (by omega), if_pos (by omega), w64 (i := (i : Int) + 1) (by omega) (by omega), show ((i : Int) + 1) = ((i + 1 : Nat) : Int) by omega]
    rw [Nat.add_sub_cancel] at ih
    cases i with
    | zero =>
      have e : slices_Max_int_int.to l (0 - 1) = rd l 0 := rfl
      have e2 : slices_Max_int_int.to l 0 = rd l 0 := rfl
      rw [e2] at ih
      rw [e, if_neg (by show ¬ rd l 0 > rd l 0; omega)]
      exact ih
    | succ i =>
      rw [slices_Max_int_int.to] at ih
      unfold mx at ih
      rw [Nat.add_sub_cancel]
      by_cases c : slices_Max_int_int.to l i < rd l ((i + 1 : Nat) : Int)
      · rw [if_pos c] at ih
        rw [if_pos c]
        exact ih
      · rw [if_neg c] at ih
        rw [if_neg c]
        exact ih
theorem spec_sh_l1 (l : List Int) (g : Int) (h : ShOk l g) (k : Nat) (hk : 26 ≤ k) (d : Nat) : ∀ i, i + d = l.length →
    spec_Shares.l1 (k + d + 1) l [] g (eS l g i) (i : Int) = spec_Shares.l2 k l [] g (eS l g l.length) 0 := by
  induction d with
  | zero =>
    intro i hi
    obtain rfl : i = l.length := by omega
    rw [spec_Shares.l1, if_neg (by omega)]
  | succ d ih =>
    intro i hi
    have b := h.b i (by omega)
    have t := h.t i (by omega)
    have g1 := h.g1
    have g2 := h.g2
    have s := eS_bd l g i
    have e := expZ_bd (rd l (i : Int) - g)
    have l2 := h.l2
    have ih := ih (i + 1) (by omega)
    rw [eS] at ih
    rw [show k + (d + 1) + 1 = (k + d + 1) + 1 by omega, spec_Shares.l1, if_pos (by omega), if_pos (by omega), w64 (i := rd l (i : Int) - g) (by omega) (by omega), spec_exp _ (by omega) (by omega) _ (by omega), Option.bind_some, w64 (i := eS l g i + _) (by omega) (by omega), w64 (i := (i : Int) + 1) (by omega) (by omega), show ((i : Int) + 1) = ((i + 1 : Nat) : Int) by omega]
    exact ih
theorem spec_sh_l2 (l : List Int) (g : Int) (h : ShOk l g) (s : Int) (hs : s ≠ 0) (k : Nat) (hk : 26 ≤ k) (d : Nat) : ∀ i, i + d = l.length →
    spec_Shares.l2 (k + d + 1) l ((eL l g i).map (impl_Shares.part s)) g s (i : Int) = some ((eL l g l.length).map (impl_Shares.part s), true) := by
  induction d with
  | zero =>
    intro i hi
    obtain rfl : i = l.length := by omega
    rw [spec_Shares.l2, if_neg (by omega)]
  | succ d ih =>
    intro i hi
    have b := h.b i (by omega)
    have t := h.t i (by omega)
    have g1 := h.g1
    have g2 := h.g2
    have l2 := h.l2
    have ih := ih (i + 1) (by omega)
    rw [eL_succ, List.map_append] at ih
    rw [show k + (d + 1) + 1 = (k + d + 1) + 1 by omega, spec_Shares.l2, if_pos (by omega), if_pos (by omega), w64 (i := rd l (i : Int) - g) (by omega) (by omega), spec_exp _ (by omega) (by omega) _ (by omega), Option.bind_some, if_neg hs, if_pos (by rw [List.length_map, eL_len]; omega), w64 (i := (i : Int) + 1) (by omega) (by omega), show ((i : Int) + 1) = ((i + 1 : Nat) : Int) by omega]
    exact ih
theorem spec_shares (l : List Int) (k : Nat) (hk : 200 ≤ k) : spec_Shares.f k l = some (sharesOf l) := by
  unfold spec_Shares.f spec_l01In.f sharesOf
  obtain ⟨k, rfl⟩ : ∃ m, k = m + 1 := ⟨k - 1, by omega⟩
  rw [Option.bind_some]
  by_cases h1 : (l.length : Int) ≥ 1
  · rw [if_pos h1, Option.bind_some]
    by_cases h2 : (l.length : Int) ≤ 32
    · rw [decide_eq_true h2, if_pos rfl, all_tells (-100000) 100000 l (by omega) _ (by omega), Option.bind_some, spec_Shares.j0]
      have e : impl_Shares.ok l = (l.all fun x => decide (-100000 ≤ x) && decide (x ≤ 100000)) := by
        unfold impl_Shares.ok; rw [decide_eq_true (show 1 ≤ l.length by omega), decide_eq_true (show l.length ≤ 32 by omega)]; simp
      rw [← e]
      cases hok : impl_Shares.ok l with
      | false => simp
      | true =>
        have h := sh_ok l hok
        obtain ⟨i, hi, e⟩ := h.e
        have := eS_has l _ i e l.length hi
        obtain ⟨m, hm⟩ : ∃ m, k = m + l.length + 1 + l.length + 1 + l.length + 1 := ⟨k - (3 * l.length + 3), by omega⟩
        rw [if_neg (by simp), if_pos (by omega), if_pos rfl, hm]
        have a := spec_sh_l0 l (by omega) (by omega) (m + l.length + 1 + l.length + 1) l.length 0 (by omega)
        have b := spec_sh_l1 l _ h (m + l.length + 1) (by omega) l.length 0 (by omega)
        have c := spec_sh_l2 l _ h (eS l (slices_Max_int_int.to l (l.length - 1)) l.length) (by omega) m (by omega) l.length 0 (by omega)
        exact (a.trans (b.trans c))
    · rw [decide_eq_false h2, if_neg (by simp), spec_Shares.j0, if_pos rfl, if_neg (by unfold impl_Shares.ok; rw [decide_eq_false (show ¬ l.length ≤ 32 by omega)]; simp)]
  · rw [if_neg h1, Option.bind_some, if_neg (by simp), spec_Shares.j0, if_pos rfl, if_neg (by unfold impl_Shares.ok; rw [decide_eq_false (show ¬ 1 ≤ l.length by omega)]; simp)]
theorem sharesOf_len (l : List Int) : (sharesOf l).1.length ≤ 32 := by
  unfold sharesOf
  split
  · next h => have := (sh_ok l h).l2; rw [List.length_map, eL_len]; exact this
  · simp

def clampZ (x m : Int) : Int := if x > m then m else if x < -m then -m else x
theorem impl_clamp (x m : Int) (h : 0 ≤ m) (h2 : m ≤ 1000000000) : impl_Clamp.f x m = some (clampZ x m) := by
  unfold impl_Clamp.f clampZ mx mn
  rw [if_neg (by omega), w64 (by omega) (by omega)]
  congr 1
  repeat' split
  all_goals omega

theorem spec_clamp (x m : Int) (h : 0 ≤ m) (h2 : m ≤ 1000000000) : spec_l03Clamp.f x m = some (clampZ x m) := by
  unfold spec_l03Clamp.f clampZ
  rw [w64 (by omega) (by omega)]
  split
  · rfl
  · split <;> rfl

theorem spec_vec8 (x : List Int) (k : Nat) (hk : 9 ≤ k) : spec_l16Vec.f k x = some (vecB x) := by
  unfold spec_l16Vec.f spec_l01In.f vecB
  by_cases h1 : (x.length : Int) ≥ 1
  · rw [if_pos h1, Option.bind_some]
    by_cases h2 : (x.length : Int) ≤ 8
    · rw [decide_eq_true h2, if_pos rfl, all_tells (-127) 127 x (by omega) k (by omega), Option.bind_some, decide_eq_true (show 1 ≤ x.length by omega), decide_eq_true (show x.length ≤ 8 by omega)]; rfl
    · rw [decide_eq_false h2, if_neg (by simp), decide_eq_false (show ¬ x.length ≤ 8 by omega)]; simp
  · rw [if_neg h1, Option.bind_some, if_neg (by simp), decide_eq_false (show ¬ 1 ≤ x.length by omega)]; rfl
/-- one number that is mixed. -/
def mixT (ss : List Int) (vs : List (List Int)) (k : Nat) : Int := clampZ (floorZ (impl_Mix.sum ss vs (k : Int) ss.length) 256) 127
def mixL (ss : List Int) (vs : List (List Int)) (n : Nat) : List Int := (List.range n).map (mixT ss vs)
theorem mixL_succ (ss : List Int) (vs : List (List Int)) (n : Nat) : mixL ss vs (n + 1) = mixL ss vs n ++ [mixT ss vs n] := by simp [mixL, List.range_succ]
theorem mixL_len (ss : List Int) (vs : List (List Int)) (n : Nat) : (mixL ss vs n).length = n := by simp [mixL]
def mixOf (ss : List Int) (vs : List (List Int)) : List Int × Bool := if impl_Mix.ok ss vs then (mixL ss vs (vs.getD 0 []).length, true) else ([], false)
theorem mixOf_len (ss : List Int) (vs : List (List Int)) : (mixOf ss vs).1.length ≤ 8 := by
  unfold mixOf
  split
  · next h => unfold impl_Mix.ok at h; simp only [Bool.and_eq_true, decide_eq_true_eq] at h; rw [mixL_len]; exact h.1.2
  · simp
structure MixOk (ss : List Int) (vs : List (List Int)) (n : Nat) : Prop where
  l : ss.length = vs.length
  l1 : 1 ≤ ss.length
  l2 : ss.length ≤ 32
  s : ∀ z ∈ ss, 0 ≤ z ∧ z ≤ 256
  n1 : 1 ≤ n
  n2 : n ≤ 8
  v : ∀ x ∈ vs, x.length = n ∧ ∀ z ∈ x, -127 ≤ z ∧ z ≤ 127
theorem mix_ok (ss : List Int) (vs : List (List Int)) (h : impl_Mix.ok ss vs = true) : MixOk ss vs (vs.getD 0 []).length := by
  unfold impl_Mix.ok at h
  simp only [Bool.and_eq_true, decide_eq_true_eq, List.all_eq_true] at h
  obtain ⟨⟨⟨⟨⟨⟨h1, h2⟩, h3⟩, h4⟩, h5⟩, h6⟩, h7⟩ := h
  refine ⟨h1, h2, h3, h4, h5, h6, fun x hx => ?_⟩
  have := h7 x hx
  unfold impl_Mix.one at this
  simp only [Bool.and_eq_true, decide_eq_true_eq, List.all_eq_true] at this
  exact ⟨by omega, this.2⟩
theorem mix_term (ss : List Int) (vs : List (List Int)) (n : Nat) (h : MixOk ss vs n) (k j : Nat) (hk : k < n) (hj : j < ss.length) :
    -32512 ≤ rd ss (j : Int) * rd (vs.getD j []) (k : Int) ∧ rd ss (j : Int) * rd (vs.getD j []) (k : Int) ≤ 32512 := by
  have hjv : j < vs.length := by have := h.l; omega
  have a := h.s _ (show rd ss (j : Int) ∈ ss by rw [rd_get ss j hj]; exact List.getElem_mem hj)
  have ev : vs.getD j [] = vs[j] := by simp [List.getD_eq_getElem?_getD, hjv]
  have b := h.v vs[j] (List.getElem_mem hjv)
  rw [ev]
  have c := b.2 _ (show rd vs[j] (k : Int) ∈ vs[j] by rw [rd_get vs[j] k (by omega)]; exact List.getElem_mem (by omega))
  generalize rd ss (j : Int) = p at a
  generalize rd vs[j] (k : Int) = q at c
  have e1 : 0 ≤ p * (127 - q) := Int.mul_nonneg (by omega) (by omega)
  have e2 : 0 ≤ p * (127 + q) := Int.mul_nonneg (by omega) (by omega)
  simp only [Int.mul_sub, Int.mul_add] at e1 e2
  omega
theorem mix_sum (ss : List Int) (vs : List (List Int)) (n : Nat) (h : MixOk ss vs n) (k : Nat) (hk : k < n) : ∀ j, j ≤ ss.length → -32512 * (j : Int) ≤ impl_Mix.sum ss vs (k : Int) j ∧ impl_Mix.sum ss vs (k : Int) j ≤ 32512 * (j : Int)
  | 0, _ => by simp [impl_Mix.sum]
  | j + 1, hj => by
    have ih := mix_sum ss vs n h k hk j (by omega)
    have t := mix_term ss vs n h k j hk (by omega)
    have := h.l2
    rw [impl_Mix.sum, w64 (i := rd ss (j : Int) * rd (vs.getD j []) (k : Int)) (by omega) (by omega), w64 (by omega) (by omega)]
    omega
theorem mix_sum_bd (ss : List Int) (vs : List (List Int)) (n : Nat) (h : MixOk ss vs n) (k : Nat) (hk : k < n) : -1040384 ≤ impl_Mix.sum ss vs (k : Int) ss.length ∧ impl_Mix.sum ss vs (k : Int) ss.length ≤ 1040384 := by
  have := mix_sum ss vs n h k hk ss.length (by omega)
  have := h.l2
  omega
theorem impl_mix_rows (ss : List Int) (vs : List (List Int)) (n : Nat) (h : MixOk ss vs n) : ∀ k, k ≤ n → impl_Mix.rows ss vs k = some (mixL ss vs k)
  | 0, _ => rfl
  | k + 1, hk => by
    have b := mix_sum_bd ss vs n h k (by omega)
    rw [impl_Mix.rows, impl_mix_rows ss vs n h k (by omega), Option.bind_some, impl_floor _ 256 (by omega) (by omega) (by omega) 2 (by omega), Option.bind_some, impl_clamp _ 127 (by omega) (by omega), Option.bind_some, mixL_succ]
    rfl
theorem impl_mix (ss : List Int) (vs : List (List Int)) : impl_Mix.f ss vs = some (mixOf ss vs) := by
  unfold impl_Mix.f mixOf
  cases hok : impl_Mix.ok ss vs with
  | false => rw [if_neg (by simp), if_neg (by simp)]
  | true => rw [if_pos rfl, if_pos rfl, impl_mix_rows ss vs _ (mix_ok ss vs hok) _ (Nat.le_refl _), Option.bind_some]
theorem rdL_at (vs : List (List Int)) (j : Nat) : rd_L1 vs (j : Int) = vs.getD j [] := by unfold rd_L1; rw [Int.toNat_natCast]
theorem spec_mix_l2 (ss : List Int) (vs : List (List Int)) (n : Nat) (h : MixOk ss vs n) (x : Nat) (hx : x < n) (out : List Int) (ho : out.length < 100) (k : Nat) (hk : 1 ≤ k) (d : Nat) : ∀ j, j + d = vs.length →
    spec_Mix.l2 (k + d + 1) ss vs out (x : Int) (impl_Mix.sum ss vs (x : Int) j) (j : Int) = spec_Mix.l1 (k + 0) ss vs (out ++ [mixT ss vs x]) ((x + 1 : Nat) : Int) := by
  have hl := h.l
  have hl2 := h.l2
  have hn := h.n2
  induction d with
  | zero =>
    intro j hj
    obtain rfl : j = vs.length := by omega
    have b := mix_sum_bd ss vs n h x hx
    rw [spec_Mix.l2, if_neg (by omega), ← hl, spec_floor _ 256 (by omega) (by omega) (by omega), Option.bind_some, spec_clamp _ 127 (by omega) (by omega), Option.bind_some, if_pos (by omega), w64 (by omega) (by omega)]
    rfl
  | succ d ih =>
    intro j hj
    have hjv : j < vs.length := by omega
    have hv := h.v vs[j] (List.getElem_mem hjv)
    have hvl : (vs.getD j []).length = n := by simp [List.getD_eq_getElem?_getD, hjv]; exact hv.1
    rw [show k + (d + 1) + 1 = (k + d + 1) + 1 by omega, spec_Mix.l2, if_pos (by omega), if_pos (by omega), if_pos (by omega), if_pos (by omega), rdL_at, if_pos (by omega), w64 (i := (j : Int) + 1) (by omega) (by omega), show ((j : Int) + 1) = ((j + 1 : Nat) : Int) by omega]
    exact ih (j + 1) (by omega)
theorem spec_mix_l1 (ss : List Int) (vs : List (List Int)) (n : Nat) (h : MixOk ss vs n) (hn0 : (vs.getD 0 []).length = n) (k : Nat) (hk : 1 ≤ k) (d : Nat) : ∀ x, x + d = n →
    spec_Mix.l1 (k + d * (vs.length + 2)) ss vs (mixL ss vs x) (x : Int) = some (mixL ss vs n, true) := by
  have hl := h.l
  have hl1 := h.l1
  have hn := h.n2
  induction d with
  | zero =>
    intro x hx
    obtain rfl : x = n := by omega
    obtain ⟨k, rfl⟩ : ∃ m, k = m + 1 := ⟨k - 1, by omega⟩
    rw [show k + 1 + 0 * (vs.length + 2) = k + 1 by omega, spec_Mix.l1, if_pos (by omega), show (0 : Int) = ((0 : Nat) : Int) from rfl, rdL_at, if_neg (by omega)]
  | succ d ih =>
    intro x hx
    have e : k + (d + 1) * (vs.length + 2) = (k + d * (vs.length + 2) + vs.length + 1) + 1 := by rw [Nat.add_mul]; omega
    rw [e, spec_Mix.l1, if_pos (by omega), show (0 : Int) = ((0 : Nat) : Int) from rfl, rdL_at, if_pos (by omega)]
    have := spec_mix_l2 ss vs n h x (by omega) (mixL ss vs x) (by rw [mixL_len]; omega) (k + d * (vs.length + 2)) (by omega) vs.length 0 (by omega)
    rw [show (impl_Mix.sum ss vs (x : Int) 0) = ((0 : Nat) : Int) from rfl] at this
    rw [this, ← mixL_succ]
    exact ih (x + 1) (by omega)
def vecsB (n : Nat) (vs : List (List Int)) : Bool := vs.all fun x => vecB x && decide (x.length = n)
theorem spec_mix_l0 (ss : List Int) (vs : List (List Int)) (hl : vs.length ≤ 32) (hv : 0 < vs.length) (d : Nat) : ∀ (k i : Nat), i + d = vs.length → d + 12 < k →
    ∃ k', k ≤ k' + d + 2 ∧ spec_Mix.l0 k ss vs [] true (i : Int) = if vecsB (vs.getD 0 []).length (vs.drop i) then spec_Mix.l1 k' ss vs [] 0 else some ([], false) := by
  induction d with
  | zero =>
    intro k i hi hk
    obtain ⟨k, rfl⟩ : ∃ m, k = m + 1 + 1 := ⟨k - 2, by omega⟩
    obtain rfl : i = vs.length := by omega
    refine ⟨k, by omega, ?_⟩
    rw [List.drop_length, spec_Mix.l0, if_neg (by omega), spec_Mix.j2, if_pos rfl]
    simp [vecsB]
  | succ d ih =>
    intro k i hi hk
    obtain ⟨k, rfl⟩ : ∃ m, k = m + 1 + 1 + 1 := ⟨k - 3, by omega⟩
    have hlt : i < vs.length := by omega
    have ev : vs.getD i [] = vs[i] := by simp [List.getD_eq_getElem?_getD, hlt]
    rw [List.drop_eq_getElem_cons hlt]
    have ec : vecsB (vs.getD 0 []).length (vs[i] :: vs.drop (i + 1)) = ((vecB vs[i] && decide (vs[i].length = (vs.getD 0 []).length)) && vecsB (vs.getD 0 []).length (vs.drop (i + 1))) := by unfold vecsB; rw [List.all_cons]
    have dead : ∀ q : Nat, 1 ≤ q → ∀ y : Int, spec_Mix.l0 (q + 1) ss vs [] false y = some ([], false) := by
      intro q hq y
      obtain ⟨q, rfl⟩ : ∃ m, q = m + 1 := ⟨q - 1, by omega⟩
      rw [spec_Mix.l0]
      split
      · rw [if_neg (by simp), spec_Mix.j2, if_neg (by simp)]
      · rw [spec_Mix.j2, if_neg (by simp)]
    rw [spec_Mix.l0, if_pos (by omega), if_pos rfl, if_pos (by omega), rdL_at, ev, spec_vec8 _ _ (by omega), Option.bind_some, w64 (by omega) (by omega), show ((i : Int) + 1) = ((i + 1 : Nat) : Int) by omega, show (0 : Int) = ((0 : Nat) : Int) from rfl, rdL_at]
    cases hb : vecB vs[i] with
    | false => exact ⟨k + 1 + 1, by omega, by rw [if_neg (by simp), dead _ (by omega), ec, hb]; simp⟩
    | true =>
      rw [if_pos rfl, if_pos (by omega)]
      by_cases hq : vs[i].length = (vs.getD 0 []).length
      · obtain ⟨k', h1, h2⟩ := ih (k + 1 + 1) (i + 1) (by omega) (by omega)
        refine ⟨k', by omega, ?_⟩
        rw [show ((vs[i].length : Int) == ((vs.getD 0 []).length : Int)) = true from beq_iff_eq.2 (by omega), h2, ec, hb, decide_eq_true hq]
        simp
      · refine ⟨k + 1 + 1, by omega, ?_⟩
        rw [show ((vs[i].length : Int) == ((vs.getD 0 []).length : Int)) = false from beq_eq_false_iff_ne.2 (by omega), dead _ (by omega), ec, decide_eq_false hq]
        simp
theorem vecs_one (n : Nat) (hn : 1 ≤ n) (hn8 : n ≤ 8) (vs : List (List Int)) : vecsB n vs = vs.all (impl_Mix.one n) := by
  unfold vecsB
  congr 1
  funext x
  unfold vecB impl_Mix.one
  by_cases h : x.length = n
  · subst h; rw [decide_eq_true hn, decide_eq_true hn8]; simp
  · rw [decide_eq_false h, decide_eq_false (show ¬ (x.length : Int) = (n : Int) by omega)]; simp
theorem spec_mix (ss : List Int) (vs : List (List Int)) (k : Nat) (hk : 400 ≤ k) : spec_Mix.f k ss vs = some (mixOf ss vs) := by
  obtain ⟨k, rfl⟩ : ∃ m, k = m + 1 + 1 + 1 := ⟨k - 3, by omega⟩
  have off : ∀ (b : impl_Mix.ok ss vs = false), spec_Mix.j0 (k + 1 + 1 + 1) ss vs [] false = some (mixOf ss vs) := by
    intro b
    unfold mixOf
    rw [b, if_neg (by simp), spec_Mix.j0, spec_Mix.l0]
    split
    · rw [if_neg (by simp), spec_Mix.j2, if_neg (by simp)]
    · rw [spec_Mix.j2, if_neg (by simp)]
  unfold spec_Mix.f spec_l01In.f
  rw [Option.bind_some]
  by_cases h1 : (ss.length : Int) ≥ 1
  · rw [if_pos h1, Option.bind_some]
    by_cases h2 : (ss.length : Int) ≤ 32
    · rw [decide_eq_true h2, if_pos rfl]
      by_cases h3 : (vs.length : Int) = (ss.length : Int)
      · rw [if_pos h3, all_tells 0 256 ss (by omega) _ (by omega), Option.bind_some]
        cases hs : (ss.all fun x => decide (0 ≤ x) && decide (x ≤ 256)) with
        | false => exact off (by unfold impl_Mix.ok; rw [hs]; simp)
        | true =>
          rw [spec_Mix.j0]
          obtain ⟨k', e1, e2⟩ := spec_mix_l0 ss vs (by omega) (by omega) vs.length (k + 1 + 1) 0 (by omega) (by omega)
          rw [show (0 : Int) = ((0 : Nat) : Int) from rfl, e2, List.drop_zero]
          by_cases h4 : 1 ≤ (vs.getD 0 []).length ∧ (vs.getD 0 []).length ≤ 8
          · rw [vecs_one _ h4.1 h4.2]
            cases hv : vs.all (impl_Mix.one (vs.getD 0 []).length) with
            | false => rw [if_neg (by simp)]; unfold mixOf impl_Mix.ok; rw [hv]; simp
            | true =>
              have hok : impl_Mix.ok ss vs = true := by
                unfold impl_Mix.ok
                rw [hs, hv, decide_eq_true (show ss.length = vs.length by omega), decide_eq_true (show 1 ≤ ss.length by omega), decide_eq_true (show ss.length ≤ 32 by omega), decide_eq_true h4.1, decide_eq_true h4.2]; rfl
              rw [if_pos rfl]
              unfold mixOf
              rw [hok, if_pos rfl]
              have hm := mix_ok ss vs hok
              have hb : (vs.getD 0 []).length * (vs.length + 2) ≤ 8 * 34 := Nat.mul_le_mul h4.2 (by omega)
              have := spec_mix_l1 ss vs _ hm rfl (k' - (vs.getD 0 []).length * (vs.length + 2)) (by omega) (vs.getD 0 []).length 0 (by omega)
              rw [Nat.sub_add_cancel (by omega)] at this
              simpa [mixL] using this
          · have hv : vecsB (vs.getD 0 []).length vs = false := by
              cases hq : vecsB (vs.getD 0 []).length vs with
              | false => rfl
              | true =>
                exfalso
                have h0 : 0 < vs.length := by omega
                have := List.all_eq_true.1 hq vs[0] (List.getElem_mem h0)
                have e0 : vs.getD 0 [] = vs[0] := by simp [List.getD_eq_getElem?_getD, h0]
                rw [e0] at h4
                simp only [Bool.and_eq_true] at this
                have t := this.1
                unfold vecB at t
                simp only [Bool.and_eq_true, decide_eq_true_eq] at t
                exact h4 t.1
            rw [hv, if_neg (by simp)]
            unfold mixOf
            rw [show impl_Mix.ok ss vs = false from by
              unfold impl_Mix.ok
              by_cases h5 : 1 ≤ (vs.getD 0 []).length
              · rw [decide_eq_false (show ¬ (vs.getD 0 []).length ≤ 8 by omega)]; simp
              · rw [decide_eq_false h5]; simp]
            rfl
      · rw [if_neg h3]
        exact off (by unfold impl_Mix.ok; rw [decide_eq_false (show ¬ ss.length = vs.length by omega)]; simp)
    · rw [decide_eq_false h2, if_neg (by simp)]
      exact off (by unfold impl_Mix.ok; rw [decide_eq_false (show ¬ ss.length ≤ 32 by omega)]; simp)
  · rw [if_neg h1, Option.bind_some, if_neg (by simp)]
    exact off (by unfold impl_Mix.ok; rw [decide_eq_false (show ¬ 1 ≤ ss.length by omega)]; simp)

open Classical in
/-- what Score tells. -/
noncomputable def scoreOf (x y : List Int) : Int × Bool := if h : x.length ≤ 1048576 ∧ y.length ≤ 1048576 then (score_both x y h.1 h.2).choose else (0, false)
theorem scoreOf_spec (x y : List Int) (h1 : x.length ≤ 1048576) (h2 : y.length ≤ 1048576) (k : Nat) (hk : x.length + y.length + 20 < k) : spec_Score.f k x y = some (scoreOf x y) := by
  unfold scoreOf; rw [dif_pos ⟨h1, h2⟩]; exact (score_both x y h1 h2).choose_spec.1 k hk
theorem scoreOf_impl (x y : List Int) (h1 : x.length ≤ 1048576) (h2 : y.length ≤ 1048576) (k : Nat) (hk : x.length + y.length + 20 < k) : impl_Score.f k x y = some (scoreOf x y) := by
  unfold scoreOf; rw [dif_pos ⟨h1, h2⟩]; exact (score_both x y h1 h2).choose_spec.2 k hk
noncomputable def scAll (q : List Int) (ks : List (List Int)) : Bool := ks.all fun y => (scoreOf q y).2
noncomputable def scMap (q : List Int) (ks : List (List Int)) : List Int := ks.map fun y => (scoreOf q y).1
theorem scMap_snoc (q : List Int) (ks : List (List Int)) (i : Nat) (h : i < ks.length) : scMap q (ks.take (i + 1)) = scMap q (ks.take i) ++ [(scoreOf q ks[i]).1] := by
  unfold scMap; rw [List.take_succ_eq_append_getElem h, List.map_append]; rfl
theorem scMap_len (q : List Int) (ks : List (List Int)) : (scMap q ks).length = ks.length := by unfold scMap; rw [List.length_map]
theorem impl_scores_from (q : List Int) (ks : List (List Int)) (hq : q.length ≤ 1048576) (hl : ks.length ≤ 1048576) (hk : ∀ y ∈ ks, y.length ≤ 1048576) (d : Nat) : ∀ (k i : Nat), i + d = ks.length → d + 2097200 < k →
    impl_scores.l0 k q (scMap q (ks.take i)) ks (ks.length : Int) (i : Int) = if scAll q (ks.drop i) then some (scMap q ks, true) else some ([], false) := by
  induction d with
  | zero =>
    intro k i hi hk2
    obtain ⟨k, rfl⟩ : ∃ m, k = m + 1 := ⟨k - 1, by omega⟩
    obtain rfl : i = ks.length := by omega
    rw [impl_scores.l0, if_neg (by omega), List.drop_length, List.take_length]; rfl
  | succ d ih =>
    intro k i hi hk2
    obtain ⟨k, rfl⟩ : ∃ m, k = m + 1 := ⟨k - 1, by omega⟩
    have hlt : i < ks.length := by omega
    have ev : rd_L1 ks (i : Int) = ks[i] := by rw [rdL_at]; simp [List.getD_eq_getElem?_getD, hlt]
    have hy := hk ks[i] (List.getElem_mem hlt)
    rw [impl_scores.l0, if_pos (by omega), if_pos (by omega), if_pos (by omega), ev, scoreOf_impl q _ hq hy k (by omega), Option.bind_some, List.drop_eq_getElem_cons hlt]
    have ec : scAll q (ks[i] :: ks.drop (i + 1)) = ((scoreOf q ks[i]).2 && scAll q (ks.drop (i + 1))) := by unfold scAll; rw [List.all_cons]
    rw [ec]
    cases hb : (scoreOf q ks[i]).2 with
    | false => rw [if_neg (by simp)]; simp
    | true =>
      rw [if_pos rfl, if_pos (by rw [scMap_len, List.length_take]; omega), w64 (i := (i : Int) + 1) (by omega) (by omega), show ((i : Int) + 1) = ((i + 1 : Nat) : Int) by omega, ← scMap_snoc q ks i hlt, ih k (i + 1) (by omega) (by omega)]
      simp
noncomputable def attendOf (q : List Int) (ks vs : List (List Int)) : List Int × Bool :=
  if ks.length ≤ 32 ∧ scAll q ks = true then (if (sharesOf (scMap q ks)).2 = true then mixOf (sharesOf (scMap q ks)).1 vs else ([], false)) else ([], false)
theorem attendOf_len (q : List Int) (ks vs : List (List Int)) : (attendOf q ks vs).1.length ≤ 8 := by
  unfold attendOf
  split
  · split
    · exact mixOf_len _ _
    · simp
  · simp
theorem impl_attend (q : List Int) (ks vs : List (List Int)) (hq : q.length ≤ 1048576) (hl : ks.length ≤ 1048576) (hk : ∀ y ∈ ks, y.length ≤ 1048576) (k : Nat) (hk2 : 3145800 < k) : impl_Attend.f k q ks vs = some (attendOf q ks vs) := by
  unfold impl_Attend.f impl_scores.f attendOf
  have := impl_scores_from q ks hq hl hk ks.length k 0 (by omega) (by omega)
  rw [List.drop_zero] at this
  have e : impl_scores.l0 k q [] ks (ks.length : Int) 0 = if scAll q ks = true then some (scMap q ks, true) else some ([], false) := this
  rw [e]
  cases hs : scAll q ks with
  | false => simp
  | true =>
    rw [if_pos rfl, Option.bind_some]
    show (if true = true then _ else _) = _
    rw [if_pos rfl, impl_shares, Option.bind_some]
    by_cases h32 : ks.length ≤ 32
    · rw [if_pos (show ks.length ≤ 32 ∧ true = true from ⟨h32, rfl⟩)]
      show (if (sharesOf (scMap q ks)).2 = true then _ else _) = _
      cases hb : (sharesOf (scMap q ks)).2 with
      | false => simp
      | true =>
        rw [if_pos rfl, if_pos rfl, impl_mix, Option.bind_some]
    · rw [if_neg (show ¬ (ks.length ≤ 32 ∧ true = true) from fun h => h32 h.1)]
      show (if (sharesOf (scMap q ks)).2 = true then _ else _) = _
      rw [show (sharesOf (scMap q ks)).2 = false from by
        unfold sharesOf
        rw [if_neg (by unfold impl_Shares.ok; rw [decide_eq_false (show ¬ (scMap q ks).length ≤ 32 by rw [scMap_len]; omega)]; simp)]]
      simp
theorem spec_attend_from (q : List Int) (ks vs : List (List Int)) (hq : q.length ≤ 1048576) (hl : ks.length ≤ 32) (hk : ∀ y ∈ ks, y.length ≤ 1048576) (d : Nat) : ∀ (k i : Nat), i + d = ks.length → 2 * d + 2098000 < k →
    spec_Attend.l0 k q ks vs (scMap q (ks.take i)) (i : Int) = if scAll q (ks.drop i) then some (if (sharesOf (scMap q ks)).2 = true then mixOf (sharesOf (scMap q ks)).1 vs else ([], false)) else some ([], false) := by
  induction d with
  | zero =>
    intro k i hi hk2
    obtain ⟨k, rfl⟩ : ∃ m, k = m + 1 + 1 := ⟨k - 2, by omega⟩
    obtain rfl : i = ks.length := by omega
    rw [spec_Attend.l0, if_neg (by omega), spec_Attend.j1, if_neg (by simp), List.drop_length, List.take_length, spec_shares _ k (by omega), Option.bind_some, if_pos (show scAll q [] = true from rfl)]
    cases hb : (sharesOf (scMap q ks)).2 with
    | false => rw [if_neg (by simp), if_neg (by simp)]
    | true => rw [if_pos rfl, if_pos rfl, if_pos (by rw [scMap_len]), spec_mix _ _ k (by omega), Option.bind_some]
  | succ d ih =>
    intro k i hi hk2
    obtain ⟨k, rfl⟩ : ∃ m, k = m + 1 + 1 := ⟨k - 2, by omega⟩
    have hlt : i < ks.length := by omega
    have ev : rd_L1 ks (i : Int) = ks[i] := by rw [rdL_at]; simp [List.getD_eq_getElem?_getD, hlt]
    have hy := hk ks[i] (List.getElem_mem hlt)
    rw [spec_Attend.l0, if_pos (by omega), spec_Attend.j1, if_pos (by simp; omega), if_pos (by omega), if_pos (by omega), ev, scoreOf_spec q _ hq hy k (by omega), Option.bind_some, List.drop_eq_getElem_cons hlt]
    have ec : scAll q (ks[i] :: ks.drop (i + 1)) = ((scoreOf q ks[i]).2 && scAll q (ks.drop (i + 1))) := by unfold scAll; rw [List.all_cons]
    rw [ec]
    cases hb : (scoreOf q ks[i]).2 with
    | false => rw [if_neg (by simp)]; simp
    | true =>
      rw [if_pos rfl, if_pos (by rw [scMap_len, List.length_take]; omega), w64 (i := (i : Int) + 1) (by omega) (by omega), show ((i : Int) + 1) = ((i + 1 : Nat) : Int) by omega, ← scMap_snoc q ks i hlt, ih k (i + 1) (by omega) (by omega)]
      simp
theorem spec_attend (q : List Int) (ks vs : List (List Int)) (hq : q.length ≤ 1048576) (hl : ks.length ≤ 1048576) (hk : ∀ y ∈ ks, y.length ≤ 1048576) (k : Nat) (hk2 : 2098100 < k) : spec_Attend.f k q ks vs = some (attendOf q ks vs) := by
  unfold spec_Attend.f attendOf
  by_cases h32 : ks.length ≤ 32
  · have := spec_attend_from q ks vs hq h32 hk ks.length k 0 (by omega) (by omega)
    rw [List.drop_zero] at this
    have e : spec_Attend.l0 k q ks vs [] 0 = _ := this
    rw [e]
    cases hs : scAll q ks with
    | false => simp
    | true => rw [if_pos rfl, if_pos (show ks.length ≤ 32 ∧ true = true from ⟨h32, rfl⟩)]
  · obtain ⟨k, rfl⟩ : ∃ m, k = m + 1 + 1 := ⟨k - 2, by omega⟩
    rw [if_neg (fun h => h32 h.1), spec_Attend.l0, if_pos (by omega), spec_Attend.j1, if_neg (by simp; omega), spec_shares _ k (by omega), Option.bind_some, show (sharesOf []).2 = false from rfl, if_neg (by simp)]

theorem getD_int {α : Type} (l : List α) (z : α) (i : Nat) (h : i < l.length) : l.getD (i : Int).toNat z = l[i] := by simp [List.getD_eq_getElem?_getD, h]
/-- what the parts of a list come to. -/
def sumS {α : Type} (s : α → Nat) : List α → Nat
  | [] => 0
  | x :: l => s x + sumS s l
theorem sumS_le {α : Type} (s : α → Nat) : ∀ (l : List α) (x : α), x ∈ l → s x ≤ sumS s l
  | [], _, h => by cases h
  | y :: l, x, h => by
    have e : sumS s (y :: l) = s y + sumS s l := rfl
    rcases List.mem_cons.mp h with g | g
    · rw [g, e]; omega
    · have := sumS_le s l x g; rw [e]; omega
theorem sumS_cons {α : Type} (s : α → Nat) (x : α) (l : List α) : sumS s (x :: l) = s x + sumS s l := rfl
/-- a list's size: its length and its parts'. -/
def szL {α : Type} (s : α → Nat) (l : List α) : Nat := l.length + sumS s l
/-- how a size is taken off: none is left, or the rest. -/
def lessS (n : Int) (s : Nat) : Option Int := some (if n < (s : Int) then -1 else n - (s : Int))
theorem sz_then {p : Option Int} {G : Int → Option Int} {n : Int} {a b : Nat} (h : p = lessS n a) (h0 : 0 ≤ n) (hG : (a : Int) ≤ n → G (n - a) = lessS (n - a) b) :
    (p.bind fun t => if t < 0 then some (-1) else G t) = lessS n (a + b) := by
  rw [h]; unfold lessS; rw [Option.bind_some]
  by_cases c : n < (a : Int)
  · rw [if_pos c, if_pos (by omega), if_pos (by omega)]
  · rw [if_neg c, if_neg (by omega), hG (by omega)]
    unfold lessS
    by_cases d : n - (a : Int) < (b : Int)
    · rw [if_pos d, if_pos (by omega)]
    · rw [if_neg d, if_neg (by omega)]; congr 1; omega
theorem sz_end {p : Option Int} {n : Int} {a : Nat} (h : p = lessS n a) (h0 : 0 ≤ n) : (p.bind fun t => if t < 0 then some (-1) else some t) = lessS n a := by
  have := sz_then (G := fun t => some t) (b := 0) h h0 (fun g => by unfold lessS; rw [if_neg (by omega)]; congr 1; omega)
  simpa using this
theorem sz_law {p : Option Int} {G : Int → Option Bool} {n : Int} {a : Nat} (h : p = lessS n a) (hG : (a : Int) ≤ n → G (n - a) = some true) :
    (p.bind fun t => if t < 0 then some true else G t) = some true := by
  rw [h]; unfold lessS; rw [Option.bind_some]
  by_cases c : n < (a : Int)
  · rw [if_pos c, if_pos (by omega)]
  · rw [if_neg c, if_neg (by omega), hG (by omega)]
section
variable {α : Type} (z : α) (F : Nat → List α → Int → Int → Option Int) (E : Nat → α → Int → Option Int) (s : α → Nat) (ok : α → Prop)
theorem sz_from (hF : ∀ k xs n i, F (k + 1) xs n i = if i < (xs.length : Int) then (if 0 ≤ i then ((E k (xs.getD i.toNat z) n).bind fun t => (if t < 0 then (some (-1)) else (F k xs t (wrap64 (i + 1))))) else none) else some n)
    (hE : ∀ k x n, ok x → s x < k → 0 ≤ n → n ≤ 1048576 → E k x n = lessS n (s x)) (xs : List α) (hl : xs.length ≤ 9223372036854775807) (hok : ∀ x ∈ xs, ok x) (d : Nat) :
    ∀ (k i : Nat) (n : Int), i ≤ xs.length → xs.length - i = d → d + sumS s (xs.drop i) < k → 0 ≤ n → n ≤ 1048576 → F k xs n (i : Int) = lessS n (sumS s (xs.drop i)) := by
  induction d with
  | zero =>
    intro k i n hi hd hk h0 h1
    obtain ⟨k, rfl⟩ : ∃ m, k = m + 1 := ⟨k - 1, by omega⟩
    rw [hF, if_neg (by omega), List.drop_of_length_le (by omega)]
    unfold lessS sumS; rw [if_neg (by omega)]; simp
  | succ d ih =>
    intro k i n hi hd hk h0 h1
    obtain ⟨k, rfl⟩ : ∃ m, k = m + 1 := ⟨k - 1, by omega⟩
    have hlt : i < xs.length := by omega
    rw [List.drop_eq_getElem_cons hlt, sumS_cons] at hk ⊢
    rw [hF, if_pos (by omega), if_pos (by omega), getD_int xs z i hlt]
    refine sz_then (hE k xs[i] n (hok _ (List.getElem_mem hlt)) (by omega) h0 h1) h0 fun g => ?_
    rw [w64 (by omega) (by omega), show ((i : Int) + 1) = ((i + 1 : Nat) : Int) by omega]
    exact ih k (i + 1) _ (by omega) (by omega) (by omega) (by omega) (by omega)
/-- the size of a list is taken off. -/
theorem sz_list (hF : ∀ k xs n i, F (k + 1) xs n i = if i < (xs.length : Int) then (if 0 ≤ i then ((E k (xs.getD i.toNat z) n).bind fun t => (if t < 0 then (some (-1)) else (F k xs t (wrap64 (i + 1))))) else none) else some n)
    (hE : ∀ k x n, ok x → s x < k → 0 ≤ n → n ≤ 1048576 → E k x n = lessS n (s x)) (k : Nat) (xs : List α) (n : Int) (hok : xs.length ≤ 9223372036854775807 ∧ ∀ x ∈ xs, ok x) (hk : szL s xs < k) (h0 : 0 ≤ n) (h1 : n ≤ 1048576) :
    (if (wrap64 (n - (xs.length : Int))) < 0 then (some (-1)) else (F k xs (wrap64 (n - (xs.length : Int))) 0)) = lessS n (szL s xs) := by
  have hl := hok.1
  rw [w64 (i := n - (xs.length : Int)) (by omega) (by omega)]
  unfold szL at hk ⊢
  by_cases c : n - (xs.length : Int) < 0
  · rw [if_pos c]; unfold lessS; rw [if_pos (by omega)]
  · rw [if_neg c]
    have := sz_from z F E s ok hF hE xs (by omega) hok.2 xs.length k 0 (n - xs.length) (by omega) (by omega) (by rw [List.drop_zero]; omega) (by omega) (by omega)
    rw [List.drop_zero] at this
    rw [show (0 : Int) = ((0 : Nat) : Int) from rfl, this]
    unfold lessS
    by_cases d : n - (xs.length : Int) < (sumS s xs : Int)
    · rw [if_pos d, if_pos (by omega)]
    · rw [if_neg d, if_neg (by omega)]; congr 1; omega
end
section
variable {α β γ : Type} (z : α) (zb : β) (F : Nat → List α → List β → Int → Option (List β)) (E : Nat → α → Option γ) (c : γ → β) (g : α → β) (s : α → Nat) (ok : α → Prop)
theorem to_from2 (hF : ∀ k xs ys i, F (k + 1) xs ys i = if i < (xs.length : Int) then (if 0 ≤ i then ((E k (xs.getD i.toNat z)).bind fun t => (if i < (ys.length : Int) then (F k xs (ys.set (i : Int).toNat (c t)) (wrap64 (i + 1))) else none)) else none) else some ys)
    (hE : ∀ k x, ok x → s x < k → ∃ t, E k x = some t ∧ c t = g x) (xs : List α) (hl : xs.length ≤ 9223372036854775807) (hok : ∀ x ∈ xs, ok x) (d : Nat) :
    ∀ (k i : Nat), i ≤ xs.length → xs.length - i = d → d + sumS s (xs.drop i) < k → F k xs ((xs.take i).map g ++ List.replicate (xs.length - i) zb) (i : Int) = some (xs.map g) := by
  induction d with
  | zero =>
    intro k i hi hd hk
    obtain ⟨k, rfl⟩ : ∃ m, k = m + 1 := ⟨k - 1, by omega⟩
    rw [hF, if_neg (by omega), List.take_of_length_le (by omega), hd]; simp
  | succ d ih =>
    intro k i hi hd hk
    obtain ⟨k, rfl⟩ : ∃ m, k = m + 1 := ⟨k - 1, by omega⟩
    have hlt : i < xs.length := by omega
    rw [List.drop_eq_getElem_cons hlt, sumS_cons] at hk
    obtain ⟨t, e1, e2⟩ := hE k xs[i] (hok _ (List.getElem_mem hlt)) (by omega)
    rw [hF, if_pos (by omega), if_pos (by omega), getD_int xs z i hlt, e1, Option.bind_some, if_pos (by simp; omega), w64 (by omega) (by omega), show ((i : Int) + 1) = ((i + 1 : Nat) : Int) by omega, e2]
    have e : ((xs.take i).map g ++ List.replicate (xs.length - i) zb).set (i : Int).toNat (g xs[i]) = (xs.take (i + 1)).map g ++ List.replicate (xs.length - (i + 1)) zb := by
      rw [Int.toNat_natCast, List.set_append_right _ _ (by simp; omega), show xs.length - i = (xs.length - (i + 1)) + 1 by omega, List.replicate_succ, List.length_map, List.length_take, Nat.min_eq_left (by omega), Nat.sub_self, List.set_cons_zero, List.take_succ_eq_append_getElem hlt, List.map_append, List.append_assoc]
      rfl
    rw [e]
    exact ih k (i + 1) (by omega) (by omega) (by omega)
/-- a list is turned into one of the other kind, part by part. -/
theorem to_list (hF : ∀ k xs ys i, F (k + 1) xs ys i = if i < (xs.length : Int) then (if 0 ≤ i then ((E k (xs.getD i.toNat z)).bind fun t => (if i < (ys.length : Int) then (F k xs (ys.set (i : Int).toNat (c t)) (wrap64 (i + 1))) else none)) else none) else some ys)
    (hE : ∀ k x, ok x → s x < k → ∃ t, E k x = some t ∧ c t = g x) (M : Nat) (k : Nat) (xs : List α) (hok : xs.length ≤ 9223372036854775807 ∧ ∀ x ∈ xs, ok x) (hM : xs.length ≤ M) (hk : szL s xs < k) :
    (if 0 ≤ (xs.length : Int) then (if ((xs.length : Int) : Int).toNat ≤ M then (F k xs (List.replicate ((xs.length : Int) : Int).toNat zb) 0) else none) else none) = some (xs.map g) := by
  rw [if_pos (by omega), if_pos (by omega), Int.toNat_natCast]
  unfold szL at hk
  have := to_from2 z zb F E c g s ok hF hE xs hok.1 hok.2 xs.length k 0 (by omega) (by omega) (by rw [List.drop_zero]; omega)
  simpa using this
end
section
variable {α : Type} (z : α) (F : Nat → List α → List α → Int → Option Bool) (E : Nat → α → Option Bool) (s : α → Nat)
theorem eq_from2 (hF : ∀ k xs i, F (k + 1) xs xs i = if i < (xs.length : Int) then (if 0 ≤ i then (if i < (xs.length : Int) then ((E k (xs.getD i.toNat z)).bind fun t => (if t = true then (F k xs xs (wrap64 (i + 1))) else (some false))) else none) else none) else some true)
    (xs : List α) (hE : ∀ k, ∀ x ∈ xs, s x < k → E k x = some true) (hl : xs.length ≤ 9223372036854775807) (d : Nat) :
    ∀ (k i : Nat), i ≤ xs.length → xs.length - i = d → d + sumS s (xs.drop i) < k → F k xs xs (i : Int) = some true := by
  induction d with
  | zero =>
    intro k i hi hd hk
    obtain ⟨k, rfl⟩ : ∃ m, k = m + 1 := ⟨k - 1, by omega⟩
    rw [hF, if_neg (by omega)]
  | succ d ih =>
    intro k i hi hd hk
    obtain ⟨k, rfl⟩ : ∃ m, k = m + 1 := ⟨k - 1, by omega⟩
    have hlt : i < xs.length := by omega
    rw [List.drop_eq_getElem_cons hlt, sumS_cons] at hk
    rw [hF, if_pos (by omega), if_pos (by omega), if_pos (by omega), getD_int xs z i hlt, hE k xs[i] (List.getElem_mem hlt) (by omega), Option.bind_some, if_pos rfl, w64 (by omega) (by omega), show ((i : Int) + 1) = ((i + 1 : Nat) : Int) by omega]
    exact ih k (i + 1) (by omega) (by omega) (by omega)
/-- a list is its own like, part by part. -/
theorem eq_list (hF : ∀ k xs i, F (k + 1) xs xs i = if i < (xs.length : Int) then (if 0 ≤ i then (if i < (xs.length : Int) then ((E k (xs.getD i.toNat z)).bind fun t => (if t = true then (F k xs xs (wrap64 (i + 1))) else (some false))) else none) else none) else some true)
    (k : Nat) (xs : List α) (hE : ∀ k, ∀ x ∈ xs, s x < k → E k x = some true) (hl : xs.length ≤ 9223372036854775807) (hk : szL s xs < k) :
    (if (xs.length : Int) = (xs.length : Int) then (F k xs xs 0) else (some false)) = some true := by
  rw [if_pos rfl]
  unfold szL at hk
  exact eq_from2 z F E s hF xs hE hl xs.length k 0 (by omega) (by omega) (by rw [List.drop_zero]; omega)
end

def mIntss : List (List Int) → Nat := szL (fun l => l.length)
theorem eqIntSS_same (k : Nat) (x : List (List Int)) (h : mIntss x ≤ 9000000) (hk : mIntss x < k) : laws_eqIntSS.f k x x = some true :=
  eq_list [] laws_eqIntSS.l0 (fun k x => laws_eqIntS.f k x x) (fun l => l.length) (fun _ _ _ => rfl) k x (fun k y hy h' => by
    have := sumS_le (fun l : List Int => l.length) x y hy
    have e : mIntss x = x.length + sumS (fun l => l.length) x := rfl
    rw [eq_tells y y (by omega) k h', decide_eq_true rfl]) (by have e : mIntss x = x.length + sumS (fun l => l.length) x := rfl; omega) hk

theorem mIntss_eq (x : List (List Int)) : mIntss x = x.length + sumS (fun l => l.length) x := rfl
theorem sumS_map_sum (x : List (List Int)) : sumS (fun l : List Int => l.length) x = (x.map List.length).sum := by
  induction x with
  | nil => rfl
  | cons a x ih => rw [sumS_cons, ih, List.map_cons, List.sum_cons]
theorem szIntSS_less (k : Nat) (x : List (List Int)) (n : Int) (hx : x.length ≤ 9223372036854775807) (hxx : ∀ y ∈ x, y.length ≤ 9223372036854775807) (hk : mIntss x < k) (h0 : 0 ≤ n) (h1 : n ≤ 1048576) : laws_szIntSS.f k x n = lessS n (mIntss x) :=
  sz_list [] laws_szIntSS.l0 (fun _ y n => laws_szIntS.f y n) (fun l => l.length) (fun y => y.length ≤ 9223372036854775807) (fun _ _ _ _ => rfl) (fun _ y n hy _ h0 h1 => by
    unfold laws_szIntS.f lessS
    rw [w64 (by omega) (by omega)]
    by_cases c : n - (y.length : Int) < 0
    · rw [if_pos c, if_pos (by omega)]
    · rw [if_neg c, if_neg (by omega)]) k x n ⟨hx, hxx⟩ hk h0 h1
theorem toIntSS_same (k : Nat) (x : List (List Int)) (h : mIntss x ≤ 9000000) (hk : mIntss x < k) : laws_toIntSS.f k x = some x := by
  have e := mIntss_eq x
  have := to_list [] [] laws_toIntSS.l0 (fun k y => laws_toIntS.f k y) id id (fun l : List Int => l.length) (fun y => y.length ≤ 9000000) (fun _ _ _ _ => rfl) (fun k y hy h' => ⟨y, to_tells y (by omega) k h', rfl⟩) 11728124029610 k x ⟨by omega, fun y hy => by have := sumS_le (fun l : List Int => l.length) x y hy; omega⟩ (by omega) hk
  unfold laws_toIntSS.f
  rw [List.map_id] at this
  exact this


end Go.Proofs.Ytlpginalgdbopaa.Pure
