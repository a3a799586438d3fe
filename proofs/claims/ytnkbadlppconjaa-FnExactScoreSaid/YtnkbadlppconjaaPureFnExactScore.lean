/- The program's Score returns what the reference's Score returns, and leaves its arguments alone, for all arguments. No conditions. -/
import Derived.Test.YtnkbadlppconjaaPFnExactScorex
namespace Go.Proofs.Ytnkbadlppconjaa.Pure
open Go.RowKit Go.Proofs.Ytnkbadlppconjaa.PFnExactScore Go.Proofs.YtnkbadlppconjaaW.PrintWords Go.Proofs.YtnkbadlppconjaaW.PrintLast Go.Proofs.YtnkbadlppconjaaW.PrintMore
set_option linter.unusedVariables false
set_option linter.unusedSimpArgs false

theorem w64 {i : Int} (h0 : -9223372036854775808 ≤ i) (h : i ≤ 9223372036854775807) : wrap64 i = i := by unfold wrap64; omega
theorem rd_get (l : List Int) (i : Nat) (h : i < l.length) : rd l (i : Int) = l[i] := by simp [rd, List.getD_eq_getElem?_getD, h]


theorem to_from (l : List Int) (hl : l.length ≤ 9223372036854775806) (d : Nat) : ∀ (k i : Nat), i ≤ l.length → l.length - i = d → d < k →
    laws_toIntS.l0 k l (l.take i ++ List.replicate (l.length - i) 0) (i : Int) = some l := by
  induction d with
  | zero =>
    intro k i hi' hd hk
    obtain ⟨k, rfl⟩ : ∃ m, k = m + 1 := ⟨k - 1, by omega⟩
    simp only [laws_toIntS.l0]; rw [if_neg (by omega), List.take_of_length_le (by omega), hd]; simp
  | succ d ih =>
    intro k i hi' hd hk
    obtain ⟨k, rfl⟩ : ∃ m, k = m + 1 := ⟨k - 1, by omega⟩
    have hlt : i < l.length := by omega
    simp only [laws_toIntS.l0]
    rw [if_pos (by omega), if_pos (by omega), if_pos (by simp; omega), rd_get l i hlt, w64 (by omega) (by omega), show ((i : Int) + 1) = ((i + 1 : Nat) : Int) by omega]
    have e : (l.take i ++ List.replicate (l.length - i) (0 : Int)).set (i : Int).toNat l[i] = l.take (i + 1) ++ List.replicate (l.length - (i + 1)) 0 := by
      rw [Int.toNat_natCast, List.set_append_right _ _ (by simp; omega), show l.length - i = (l.length - (i + 1)) + 1 by omega, List.replicate_succ, List.length_take, Nat.min_eq_left (by omega), Nat.sub_self, List.set_cons_zero, List.take_succ_eq_append_getElem hlt, List.append_assoc]
      rfl
    rw [e]
    exact ih k (i + 1) (by omega) (by omega) (by omega)
/-- laws.toIntS: a copy. -/
theorem to_tells (l : List Int) (hl : l.length ≤ 35184372088832) (k : Nat) (hk : l.length < k) : laws_toIntS.f k l = some l := by
  unfold laws_toIntS.f
  rw [if_pos (by omega), if_pos (by simpa using hl), Int.toNat_natCast]
  have := to_from l (by omega) l.length k 0 (by omega) (by omega) hk
  simpa using this


theorem eq_from (a b : List Int) (hl : a.length ≤ 9223372036854775806) (hab : a.length = b.length) (d : Nat) : ∀ (k i : Nat), i ≤ a.length → a.length - i = d → d < k →
    laws_eqIntS.l0 k a b (i : Int) = some (decide (a.drop i = b.drop i)) := by
  induction d with
  | zero =>
    intro k i hi' hd hk
    obtain ⟨k, rfl⟩ : ∃ m, k = m + 1 := ⟨k - 1, by omega⟩
    rw [List.drop_of_length_le (by omega), List.drop_of_length_le (by omega)]
    simp only [laws_eqIntS.l0]; rw [if_neg (by omega)]; simp
  | succ d ih =>
    intro k i hi' hd hk
    obtain ⟨k, rfl⟩ : ∃ m, k = m + 1 := ⟨k - 1, by omega⟩
    have hlt : i < a.length := by omega
    have hltb : i < b.length := by omega
    simp only [laws_eqIntS.l0]
    rw [if_pos (by omega), if_pos (by omega), if_pos (by omega), rd_get a i hlt, rd_get b i hltb, List.drop_eq_getElem_cons hlt, List.drop_eq_getElem_cons hltb]
    by_cases h : a[i] = b[i]
    · rw [if_pos h, w64 (by omega) (by omega), show ((i : Int) + 1) = ((i + 1 : Nat) : Int) by omega, ih k (i + 1) (by omega) (by omega) (by omega)]
      congr 1
      rw [decide_eq_decide]
      simp only [h, List.cons.injEq, true_and]
    · rw [if_neg h, decide_eq_false (fun e => h (List.cons.inj e).1)]
/-- laws.eqIntS: equal lists. -/
theorem eq_tells (a b : List Int) (hl : a.length ≤ 9223372036854775806) (k : Nat) (hk : a.length < k) : laws_eqIntS.f k a b = some (decide (a = b)) := by
  unfold laws_eqIntS.f
  by_cases h : a.length = b.length
  · rw [if_pos (by omega)]
    have := eq_from a b hl h a.length k 0 (by omega) (by omega) hk
    simpa using this
  · rw [if_neg (by omega), decide_eq_false]
    intro e; rw [e] at h; exact h rfl


theorem all_from (lo hi : Int) (l : List Int) (hl : l.length ≤ 9223372036854775806) (d : Nat) : ∀ (k i : Nat), i ≤ l.length → l.length - i = d → d < k →
    spec_l05All.l0 k l lo hi (i : Int) = some ((l.drop i).all fun x => decide (lo ≤ x) && decide (x ≤ hi)) := by
  induction d with
  | zero =>
    intro k i hi' hd hk
    obtain ⟨k, rfl⟩ : ∃ m, k = m + 1 := ⟨k - 1, by omega⟩
    rw [List.drop_of_length_le (by omega)]
    simp only [spec_l05All.l0]; rw [if_neg (by omega)]; rfl
  | succ d ih =>
    intro k i hi' hd hk
    obtain ⟨k, rfl⟩ : ∃ m, k = m + 1 := ⟨k - 1, by omega⟩
    have hlt : i < l.length := by omega
    simp only [spec_l05All.l0]
    rw [if_pos (by omega), if_pos (by omega), rd_get l i hlt, List.drop_eq_getElem_cons hlt, List.all_cons]
    unfold spec_l01In.f
    by_cases h1 : l[i] ≥ lo
    · rw [if_pos h1]
      simp only [Option.bind_some]
      by_cases h2 : l[i] ≤ hi
      · rw [decide_eq_true h2, if_pos rfl, w64 (by omega) (by omega), show ((i : Int) + 1) = ((i + 1 : Nat) : Int) by omega, ih k (i + 1) (by omega) (by omega) (by omega)]
        simp [h1]
      · rw [decide_eq_false h2]; simp
    · rw [if_neg h1]; simp only [Option.bind_some]; rw [decide_eq_false h1]; simp
/-- spec.l05All: all within. -/
theorem all_tells (lo hi : Int) (l : List Int) (hl : l.length ≤ 9223372036854775806) (k : Nat) (hk : l.length < k) : spec_l05All.f k l lo hi = some (l.all fun x => decide (lo ≤ x) && decide (x ≤ hi)) := by
  unfold spec_l05All.f
  have := all_from lo hi l hl l.length k 0 (by omega) (by omega) hk
  rw [List.drop_zero] at this
  exact this


def floorZ (a b : Int) : Int := a.tdiv b + (if a.tmod b < 0 then -1 else 0)
theorem tdiv_bd (a b : Int) (hb : 0 < b) (m : Int) (h0 : -m ≤ a) (h1 : a ≤ m) : -m ≤ a.tdiv b ∧ a.tdiv b ≤ m := by
  rcases Int.le_total 0 a with h | h
  · have e := Int.tdiv_eq_ediv_of_nonneg h (b := b)
    have e1 := Int.ediv_nonneg h (Int.le_of_lt hb)
    have e2 : a / b ≤ a := Int.ediv_le_self b h
    omega
  · have h' : 0 ≤ -a := by omega
    have e := Int.tdiv_eq_ediv_of_nonneg h' (b := b)
    have e1 := Int.ediv_nonneg h' (Int.le_of_lt hb)
    have e2 : -a / b ≤ -a := Int.ediv_le_self b h'
    rw [Int.neg_tdiv] at e
    omega
theorem spec_floor (a b : Int) (hb : 0 < b) (h0 : -4000000000000000000 ≤ a) (h1 : a ≤ 4000000000000000000) : spec_l03Floor.f a b = some (floorZ a b) := by
  have hd := tdiv_bd a b hb 4000000000000000000 h0 h1
  unfold spec_l03Floor.f floorZ
  rw [if_neg (by omega), w64 (i := a.tdiv b) (by omega) (by omega), w64 (i := a.tdiv b - 1) (by omega) (by omega)]
  by_cases h : a.tmod b < 0
  · rw [if_pos h, if_pos h]; rfl
  · rw [if_neg h, if_neg h, Int.add_zero]

theorem impl_floor (a b : Int) (hb : 0 < b) (h0 : -1000000000000 ≤ a) (h1 : a ≤ 1000000000000) (k : Nat) (hk : 1 < k) : impl_FloorDiv.f k a b = some (floorZ a b) := by
  obtain ⟨k, rfl⟩ : ∃ m, k = m + 1 := ⟨k - 1, by omega⟩
  have hd := tdiv_bd a b hb 1000000000000 h0 h1
  unfold impl_FloorDiv.f impl_in.f
  rw [if_neg (by omega), if_pos (by omega), decide_eq_true h1, Option.bind_some, impl_FloorDiv.j0, if_neg (by simp), if_neg (by omega), w64 (i := a.tdiv b) (by omega) (by omega), w64 (i := a.tdiv b - 1) (by omega) (by omega)]
  unfold floorZ
  by_cases h : a.tmod b < 0
  · rw [if_pos h, if_pos h]; rfl
  · rw [if_neg h, if_neg h, Int.add_zero]

def vecB (x : List Int) : Bool := decide (1 ≤ x.length) && decide (x.length ≤ 8) && x.all fun z => decide (-127 ≤ z) && decide (z ≤ 127)
theorem spec_vec (x : List Int) (hl : x.length ≤ 1048576) (k : Nat) (hk : x.length < k) : spec_l16Vec.f k x = some (vecB x) := by
  unfold spec_l16Vec.f spec_l01In.f vecB
  by_cases h1 : (x.length : Int) ≥ 1
  · rw [if_pos h1, Option.bind_some]
    by_cases h2 : (x.length : Int) ≤ 8
    · rw [decide_eq_true h2, if_pos rfl, all_tells (-127) 127 x (by omega) k hk, Option.bind_some, decide_eq_true (show 1 ≤ x.length by omega), decide_eq_true (show x.length ≤ 8 by omega)]; rfl
    · rw [decide_eq_false h2, if_neg (by simp), decide_eq_false (show ¬ x.length ≤ 8 by omega)]; simp
  · rw [if_neg h1, Option.bind_some, if_neg (by simp), decide_eq_false (show ¬ 1 ≤ x.length by omega)]; rfl
theorem vec_at (x : List Int) (h : vecB x = true) (i : Nat) (hi : i < x.length) : -127 ≤ rd x (i : Int) ∧ rd x (i : Int) ≤ 127 := by
  unfold vecB at h
  simp only [Bool.and_eq_true, List.all_eq_true, decide_eq_true_eq] at h
  rw [rd_get x i hi]
  exact h.2 _ (List.getElem_mem hi)
theorem mul_bd (a b : Int) (m : Int) (ha : -m ≤ a) (ha2 : a ≤ m) (hb : -m ≤ b) (hb2 : b ≤ m) : -(m * m) ≤ a * b ∧ a * b ≤ m * m := by
  have h1 : 0 ≤ (m - a) * (m + b) := Int.mul_nonneg (by omega) (by omega)
  have h2 : 0 ≤ (m + a) * (m - b) := Int.mul_nonneg (by omega) (by omega)
  have h3 : 0 ≤ (m - a) * (m - b) := Int.mul_nonneg (by omega) (by omega)
  have h4 : 0 ≤ (m + a) * (m + b) := Int.mul_nonneg (by omega) (by omega)
  simp only [Int.sub_mul, Int.mul_sub, Int.add_mul, Int.mul_add] at h1 h2 h3 h4
  rw [Int.mul_comm m b] at h1 h2 h3 h4
  omega

theorem score_from (x y : List Int) (hx : vecB x = true) (hy : vecB y = true) (hab : x.length = y.length) (hl : x.length ≤ 8) (d : Nat) : ∀ (i : Nat) (s : Int), i + d = x.length → -(16129 * (i : Int)) ≤ s → s ≤ 16129 * (i : Int) →
    ∃ r, (∀ k, d + 3 < k → spec_Score.l0 k x y s (i : Int) = some (r, true)) ∧ (∀ k, d + 3 < k → impl_Score.l0 k y s x (x.length : Int) (i : Int) = some (r, true)) := by
  induction d with
  | zero =>
    intro i s h h0 h1
    refine ⟨floorZ s 16, fun k hk => ?_, fun k hk => ?_⟩
    · obtain ⟨k, rfl⟩ : ∃ m, k = m + 1 := ⟨k - 1, by omega⟩
      rw [spec_Score.l0, if_neg (by omega), spec_floor s 16 (by omega) (by omega) (by omega), Option.bind_some]
    · obtain ⟨k, rfl⟩ : ∃ m, k = m + 1 := ⟨k - 1, by omega⟩
      rw [impl_Score.l0, if_neg (by omega), impl_floor s 16 (by omega) (by omega) (by omega) k (by omega), Option.bind_some]
  | succ d ih =>
    intro i s h h0 h1
    have ha := vec_at x hx i (by omega)
    have hb := vec_at y hy i (by omega)
    have hm := mul_bd (rd x (i : Int)) (rd y (i : Int)) 127 (by omega) (by omega) (by omega) (by omega)
    obtain ⟨r, r1, r2⟩ := ih (i + 1) (s + rd x (i : Int) * rd y (i : Int)) (by omega) (by omega) (by omega)
    refine ⟨r, fun k hk => ?_, fun k hk => ?_⟩
    · obtain ⟨k, rfl⟩ : ∃ m, k = m + 1 := ⟨k - 1, by omega⟩
      rw [spec_Score.l0, if_pos (by omega), if_pos (by omega), if_pos (by omega), w64 (i := rd x (i : Int) * rd y (i : Int)) (by omega) (by omega), w64 (i := s + rd x (i : Int) * rd y (i : Int)) (by omega) (by omega), w64 (i := (i : Int) + 1) (by omega) (by omega), show ((i : Int) + 1) = ((i + 1 : Nat) : Int) by omega]
      exact r1 k (by omega)
    · obtain ⟨k, rfl⟩ : ∃ m, k = m + 1 := ⟨k - 1, by omega⟩
      rw [impl_Score.l0, if_pos (by omega), if_pos (by omega), if_pos (by omega), if_pos (by omega), w64 (i := rd x (i : Int) * rd y (i : Int)) (by omega) (by omega), w64 (i := s + rd x (i : Int) * rd y (i : Int)) (by omega) (by omega), w64 (i := (i : Int) + 1) (by omega) (by omega), show ((i : Int) + 1) = ((i + 1 : Nat) : Int) by omega]
      exact r2 k (by omega)
theorem score_both (x y : List Int) (hl : x.length ≤ 1048576) (hl' : y.length ≤ 1048576) :
    ∃ C : Int × Bool, (∀ k, x.length + y.length + 20 < k → spec_Score.f k x y = some C) ∧ (∀ k, x.length + y.length + 20 < k → impl_Score.f k x y = some C) := by
  by_cases hab : x.length = y.length
  · by_cases hB : vecB x = true ∧ vecB y = true
    · have hB1 := hB.1
      unfold vecB at hB1
      simp only [Bool.and_eq_true, decide_eq_true_eq] at hB1
      have hB2 := hB.2
      unfold vecB at hB2
      simp only [Bool.and_eq_true, decide_eq_true_eq] at hB2
      obtain ⟨r, r1, r2⟩ := score_from x y hB.1 hB.2 hab hB1.1.2 x.length 0 0 (by omega) (by omega) (by omega)
      refine ⟨(r, true), fun k hk => ?_, fun k hk => ?_⟩
      · obtain ⟨k, rfl⟩ : ∃ m, k = m + 1 := ⟨k - 1, by omega⟩
        unfold spec_Score.f
        rw [spec_vec x hl _ (by omega), hB.1, Option.bind_some, if_pos rfl, spec_vec y hl' _ (by omega), hB.2, Option.bind_some, if_pos rfl, spec_Score.j0, if_neg (by simp; omega)]
        exact r1 k (by omega)
      · obtain ⟨k, rfl⟩ : ∃ m, k = m + 1 := ⟨k - 1, by omega⟩
        unfold impl_Score.f impl_in.f impl_allIn.f
        rw [if_pos (by omega), if_pos (by omega), decide_eq_true (by omega), Option.bind_some, if_pos rfl, hB1.2, Option.bind_some, if_pos rfl, hB2.2, Option.bind_some, impl_Score.j0, if_neg (by simp)]
        exact r2 k (by omega)
    · refine ⟨(0, false), fun k hk => ?_, fun k hk => ?_⟩
      · obtain ⟨k, rfl⟩ : ∃ m, k = m + 1 := ⟨k - 1, by omega⟩
        unfold spec_Score.f
        rw [spec_vec x hl _ (by omega), Option.bind_some]
        by_cases h1 : vecB x = true
        · rw [if_pos h1, spec_vec y hl' _ (by omega), Option.bind_some, if_neg (fun h => hB ⟨h1, h⟩), spec_Score.j0, if_pos rfl]
        · rw [if_neg h1, spec_Score.j0, if_pos rfl]
      · obtain ⟨k, rfl⟩ : ∃ m, k = m + 1 := ⟨k - 1, by omega⟩
        unfold impl_Score.f impl_in.f impl_allIn.f
        rw [if_pos (by omega)]
        have hB' : ¬ ((1 ≤ x.length ∧ x.length ≤ 8) ∧ (x.all fun z => decide (-127 ≤ z) && decide (z ≤ 127)) = true ∧ (y.all fun z => decide (-127 ≤ z) && decide (z ≤ 127)) = true) := by
          rintro ⟨⟨h1, h2⟩, h3, h4⟩
          exact hB ⟨by unfold vecB; rw [h3]; simp [h1, h2], by unfold vecB; rw [h4]; simp [← hab, h1, h2]⟩
        by_cases g1 : (x.length : Int) ≥ 1
        · rw [if_pos g1, Option.bind_some]
          by_cases g2 : (x.length : Int) ≤ 8
          · rw [decide_eq_true g2, if_pos rfl, Option.bind_some]
            by_cases g3 : (x.all fun z => decide (-127 ≤ z) && decide (z ≤ 127)) = true
            · rw [if_pos g3, Option.bind_some, impl_Score.j0, if_pos]
              by_cases g4 : (y.all fun z => decide (-127 ≤ z) && decide (z ≤ 127)) = true
              · exact absurd ⟨⟨by omega, by omega⟩, g3, g4⟩ hB'
              · simpa using g4
            · rw [if_neg g3, impl_Score.j0, if_pos rfl]
          · rw [decide_eq_false g2, if_neg (by simp), impl_Score.j0, if_pos rfl]
        · rw [if_neg g1, Option.bind_some, if_neg (by simp), impl_Score.j0, if_pos rfl]
  · refine ⟨(0, false), fun k hk => ?_, fun k hk => ?_⟩
    · obtain ⟨k, rfl⟩ : ∃ m, k = m + 1 := ⟨k - 1, by omega⟩
      unfold spec_Score.f
      rw [spec_vec x hl _ (by omega), Option.bind_some]
      by_cases h1 : vecB x = true
      · rw [if_pos h1, spec_vec y hl' _ (by omega), Option.bind_some]
        by_cases h2 : vecB y = true
        · rw [if_pos h2, spec_Score.j0, if_pos (by simp; omega)]
        · rw [if_neg h2, spec_Score.j0, if_pos rfl]
      · rw [if_neg h1, spec_Score.j0, if_pos rfl]
    · obtain ⟨k, rfl⟩ : ∃ m, k = m + 1 := ⟨k - 1, by omega⟩
      unfold impl_Score.f
      rw [if_neg (by omega), impl_Score.j0, if_pos rfl]
theorem FnExactScore : laws_FnExactScore.Pure := by
  intro l l' hm hs hw hm' hs' hw'
  refine ⟨l.length + l'.length + 50, ?_⟩
  unfold laws_FnExactScore.f
  by_cases hb : (l.length : Int) > 1048576
  · rw [if_pos hb]
  · by_cases hb' : (l'.length : Int) > 1048576
    · rw [if_neg hb, if_pos hb']
    · rw [if_neg hb, if_neg hb']
      obtain ⟨C, g1, g2⟩ := score_both l l' (by omega) (by omega)
      simp (disch := omega) only [to_tells, eq_tells, g1, g2, Option.bind_some, decide_true, if_true, bne_self_eq_false]
      rw [laws_FnExactScore.j0, if_neg (by simp)]
      simp (disch := omega) only [to_tells, eq_tells, Option.bind_some, decide_true, if_true]

end Go.Proofs.Ytnkbadlppconjaa.Pure
